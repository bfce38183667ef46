/- A part of the proof: DdS1, DdP1, DdQ1, DdQ2. -/
import Derived.Test.YtbcjbgjidddnaaaDsaA
set_option linter.unusedVariables false
namespace Go.Ax.TryP
open Go.Proofs
def p9 (h : Nat → Int) : List Int := (List.range 256).map h
def B8 (a : List Int) : List Int := p9 fun i => a.getD i 0 % 8380417
def d4i (n : Nat) : Nat := (List.range 8).foldl (fun s i => 2 * s + n / 2 ^ i % 2) 0
def w5 (k : Nat) : Int := 1753 ^ d4i k % 8380417
def b7i (s : Nat) (a : List Int) (j : Nat) : Int :=
 if j % (2 * s) < s then (a.getD j 0 + w5 (128 / s + j / (2 * s)) * a.getD (j + s) 0 % 8380417) % 8380417
 else (a.getD (j - s) 0 - w5 (128 / s + j / (2 * s)) * a.getD j 0 % 8380417) % 8380417
def a9h (s : Nat) (a : List Int) : List Int := p9 (b7i s a)
def a3V (a : List Int) : Nat → List Int
 | 0 => B8 a
 | i + 1 => a9h (128 / 2 ^ i) (a3V a i)
def a04 (a : List Int) : List Int := a3V a 8
def blk (m : Nat) (a : List Int) (b : Nat) : List Int := (a.drop (b * m)).take m
theorem a1y (h : Nat → Int) : (p9 h).length = 256 := by simp [p9]
theorem i9 {h : Nat → Int} {i : Nat} (hi : i < 256) : (p9 h).getD i 0 = h i := Q2 hi
def b7h (s : Nat) (a : List Int) (j : Nat) : Int :=
 if j % (2 * s) < s then (a.getD j 0 + a.getD (j + s) 0) % 8380417
 else w5 (2 * (128 / s) - 1 - j / (2 * s)) * (a.getD j 0 - a.getD (j - s) 0) % 8380417
def a48 (s : Nat) (a : List Int) : List Int := p9 (b7h s a)
def a7E (a : List Int) : Nat → List Int
 | 0 => B8 a
 | i + 1 => a48 (2 ^ i) (a7E a i)
def b36 (a : List Int) : List Int := p9 fun j => (a7E a 8).getD j 0 * 8347681 % 8380417
def b8B : List Int := List.replicate 256 0
def b2O (x m : Int) : Int := if x % m > m / 2 then x % m - m else x % m
def fPl (z : Int) : Int := b2O (z % 8380417) 8192
def fPh (z : Int) : Int := (z % 8380417 - fPl z) / 8192
def d45 (z : Int) : Int := b2O (z % 8380417) 523776
def fDl (z : Int) : Int := if z % 8380417 - d45 z = 8380416 then d45 z - 1 else d45 z
def fDh (z : Int) : Int := if z % 8380417 - d45 z = 8380416 then 0 else (z % 8380417 - d45 z) / 523776
def c31 (a : List Int) : List Int × List Int := (p9 fun i => fPh (a.getD i 0), p9 fun i => fPl (a.getD i 0))
def b5h (a : List Int) : List Int × List Int := (p9 fun i => fDh (a.getD i 0), p9 fun i => fDl (a.getD i 0))
noncomputable def u1 : Int × Unit → Option Int := a0l (ks := [.int .i64]) (rs := [.int .i32]) (fun _ => True) fun x => x.1 % 8380417
noncomputable def a1Y : Int × Unit → Option Int := a0l (ks := [.int .i32]) (rs := [.int .i32]) (fun _ => True) fun x => x.1 % 8380417
noncomputable def z8 : List Int × Unit × Unit → Option (List Int) := a0l (ks := [.xs (.int .i32) 256, .fnc 66]) (rs := [.xs (.int .i32) 256]) (fun _ => True) fun x => B8 x.1
noncomputable def Q1 : List Int × Unit → Option (List Int) := a0l (ks := [.xs (.int .i32) 256]) (rs := [.xs (.int .i32) 256]) (fun _ => True) fun x => B8 x.1
noncomputable def a4L : Int × Int × Unit → Option Int := a0l (ks := [.int .i32, .int .i32]) (rs := [.int .i32]) (fun x => 0 ≤ x.1 ∧ x.1 ≤ 8380416 ∧ 0 < x.2.1 ∧ x.2.1 ≤ 523776) fun x => b2O x.1 x.2.1
noncomputable def a5C : Int × Unit → Option (Int × Int) := a0l (ks := [.int .i32]) (rs := [.int .i32, .int .i32]) (fun _ => True) fun x => (fDh x.1, fDl x.1)
noncomputable def U7 : List Int × Unit → Option (List Int × List Int) := a0l (ks := [.xs (.int .i32) 256]) (rs := [.xs (.int .i32) 256, .xs (.int .i32) 256]) (fun _ => True) fun x => c31 x.1
noncomputable def x3 : List Int × Unit → Option (List Int × List Int) := a0l (ks := [.xs (.int .i32) 256]) (rs := [.xs (.int .i32) 256, .xs (.int .i32) 256]) (fun _ => True) fun x => b5h x.1
def a6b (a b : List Int) : List Int := p9 fun j => a.getD j 0 * b.getD j 0 % 8380417
def b0y (a b : List Int) : List Int := b36 (a6b (a04 a) (a04 b))
noncomputable def N6 : Int × Int × Unit → Option Int := a0l (ks := [.int .i32, .int .i32]) (rs := [.int .i32]) (fun _ => True) fun x => x.1 * x.2.1 % 8380417
noncomputable def a1A : Unit → Option (List Int) := a0l (ks := []) (rs := [.xs (.int .i32) 256]) (fun _ => True) fun _ => (List.range 256).map w5
noncomputable def a0u : List Int × Unit → Option (List Int) := a0l (ks := [.xs (.int .i32) 256]) (rs := [.xs (.int .i32) 256]) (fun _ => True) fun x => a04 x.1
noncomputable def a5B : Int × Unit → Option Int := a0l (ks := [.int .i32]) (rs := [.int .i32]) (fun _ => True) fun x => x.1 * 8347681 % 8380417
noncomputable def E2 : List Int × Unit × Unit → Option (List Int) := a0l (ks := [.xs (.int .i32) 256, .fnc 61]) (rs := [.xs (.int .i32) 256]) (fun _ => True) fun x => p9 fun j => x.1.getD j 0 * 8347681 % 8380417
noncomputable def a31 : List Int × Unit → Option (List Int) := a0l (ks := [.xs (.int .i32) 256]) (rs := [.xs (.int .i32) 256]) (fun _ => True) fun x => b36 x.1
noncomputable def Z4 : List Int × List Int × Unit → Option (List Int) := a0l (ks := [.xs (.int .i32) 256, .xs (.int .i32) 256]) (rs := [.xs (.int .i32) 256]) (fun _ => True) fun x => a6b x.1 x.2.1
noncomputable def U6 : List Int × List Int × Unit → Option (List Int) := a0l (ks := [.xs (.int .i32) 256, .xs (.int .i32) 256]) (rs := [.xs (.int .i32) 256]) (fun _ => True) fun x => b0y x.1 x.2.1
noncomputable def a2Y : Int × Unit → Option (Int) := a0l (ks := [.int .u8]) (rs := [.int .u8]) (fun _ => True) fun x => (d4i x.1.toNat : Int)
def c2m (z : Int) : Int := if z % 8380417 > 4190208 then z % 8380417 - 8380417 else z % 8380417
def b35 (a : List Int) : List Int := p9 fun i => c2m (a.getD i 0)
def d1Z (z : Int) : Int := if z < 0 then -z else z
@[irreducible] def b7u (a : List Int) (n : Nat) : Int := (List.range n).foldl (fun m i => if d1Z (c2m (a.getD i 0)) > m then d1Z (c2m (a.getD i 0)) else m) 0
def a1r (a : List Int) : Int := b7u a 256
def b0x (a b : List Int) : List Int := p9 fun i => (a.getD i 0 + b.getD i 0) % 8380417
def b5x (a b : List Int) : List Int := p9 fun i => (a.getD i 0 - b.getD i 0) % 8380417
def a25 (z r : List Int) (i : Nat) : Int := if fDh (r.getD i 0) ≠ fDh ((r.getD i 0 + z.getD i 0) % 8380417) then 1 else 0
@[irreducible] def c7a (h : Nat → Int) (n : Nat) : Int := (List.range n).foldl (fun m i => if h i ≠ 0 then m + 1 else m) 0
def d1O (z r : List Int) : List Int × Int := (p9 (a25 z r), c7a (a25 z r) 256)
def b61 (h r : Int) : Int := if h ≠ 0 then if fDl r > 0 then (fDh r + 1) % 16 else (fDh r + 15) % 16 else fDh r
def d53 (h r : List Int) : List Int := p9 fun i => b61 (h.getD i 0) (r.getD i 0)
noncomputable def a2Z : Int × Unit → Option Int := a0l (ks := [.int .i32]) (rs := [.int .i32]) (fun _ => True) fun x => c2m x.1
noncomputable def A6 : List Int × Unit × Unit → Option (List Int) := a0l (ks := [.xs (.int .i32) 256, .fnc 67]) (rs := [.xs (.int .i32) 256]) (fun _ => True) fun x => b35 x.1
noncomputable def a1z : List Int × Unit → Option (List Int) := a0l (ks := [.xs (.int .i32) 256]) (rs := [.xs (.int .i32) 256]) (fun _ => True) fun x => b35 x.1
noncomputable def T8 : List Int × Unit → Option Int := a0l (ks := [.xs (.int .i32) 256]) (rs := [.int .i32]) (fun _ => True) fun x => a1r x.1
noncomputable def Q0 : List Int × List Int × Unit → Option (List Int) := a0l (ks := [.xs (.int .i32) 256, .xs (.int .i32) 256]) (rs := [.xs (.int .i32) 256]) (fun _ => True) fun x => b0x x.1 x.2.1
noncomputable def a0v : List Int × List Int × Unit → Option (List Int) := a0l (ks := [.xs (.int .i32) 256, .xs (.int .i32) 256]) (rs := [.xs (.int .i32) 256]) (fun _ => True) fun x => b5x x.1 x.2.1
noncomputable def X6 : List Int × List Int × Unit → Option (List Int × Int) := a0l (ks := [.xs (.int .i32) 256, .xs (.int .i32) 256]) (rs := [.xs .bool 256, .int .i64]) (fun _ => True) fun x => d1O x.1 x.2.1
noncomputable def a0w : List Int × List Int × Unit → Option (List Int) := a0l (ks := [.xs .bool 256, .xs (.int .i32) 256]) (rs := [.xs (.int .i32) 256]) (fun _ => True) fun x => d53 x.1 x.2.1
end Go.Ax.TryP
set_option linter.unusedVariables false
namespace Go.Ax.TryP
open Go.Proofs
noncomputable def p_dring_below_E : AE := AE.of [(2, ty2), (21, ty21)] []
noncomputable def c1s : Hints := [(3000000, [2])]
noncomputable def c1t : Code := (Try.f45).body.getD .skip
abbrev a5h : List Kd := [.int .i64]
abbrev a5i : List Kd := [.int .i32]
noncomputable def a5I (N : Nat) (x : Int × Unit) : Option (Int) :=
 if ((Int.tmod x.1 (8380417:Int)) < (0:Int)) then
  some (IntKind.i32.wrap (IntKind.i64.wrap ((Int.tmod x.1 (8380417:Int)) + (8380417:Int))))
 else
  some (IntKind.i32.wrap (Int.tmod x.1 (8380417:Int)))
theorem b7V : p_dring_below_E.Ok Try.prog := AE.of_ok (all_cons a88 (all_cons u4 c6)) c6
theorem b9v (hE : p_dring_below_E.Ok Try.prog) {g : Ds [.int .i64] → Option (Rs [.int .i32])} (hg : ∀ x r, g x = some r → ∃ N, a5I N x = some r) : c8 Try.prog 45 ⟨[.int .i64], [.int .i32], g⟩ :=
 i5 (E := p_dring_below_E) (H := c1s) (L := fun N => LT.nil) (c := c1t) (ks := a5h) (rs := a5i) (F := a5I) hE mix Try.func45 (by kernel_rfl) (fun N => OkAll.nil) (fun _ _ => by kernel_rfl) hg
noncomputable abbrev i7 : Sig := ⟨[.int .i64], [.int .i32], u1⟩
noncomputable def p_dring_Reduce_1_E : AE := AE.of [(2, ty2), (21, ty21)] [(45, i7)]
noncomputable def b53 : Hints := [(3000000, [2])]
noncomputable def b54 : Code := (Try.f66).body.getD .skip
abbrev a2x : List Kd := [.int .i32]
abbrev a2y : List Kd := [.int .i32]
noncomputable def a2c (N : Nat) (x : Int × Unit) : Option (Int) :=
 (u1 ((IntKind.i64.wrap x.1), ())).bind fun r1 => (
 some r1)
theorem b2V (e0 : c8 Try.prog 45 i7) : p_dring_Reduce_1_E.Ok Try.prog := AE.of_ok (all_cons a88 (all_cons u4 c6)) (all_cons ⟨e0, o5⟩ c6)
theorem b4l (hE : p_dring_Reduce_1_E.Ok Try.prog) {g : Ds [.int .i32] → Option (Rs [.int .i32])} (hg : ∀ x r, g x = some r → ∃ N, a2c N x = some r) : c8 Try.prog 66 ⟨[.int .i32], [.int .i32], g⟩ :=
 i5 (E := p_dring_Reduce_1_E) (H := b53) (L := fun N => LT.nil) (c := b54) (ks := a2x) (rs := a2y) (F := a2c) hE mix Try.func66 (by kernel_rfl) (fun N => OkAll.nil) (fun _ _ => by kernel_rfl) hg
noncomputable abbrev a44 : Sig := ⟨[.int .i32], [.int .i32], a1Y⟩
noncomputable def p_dring_each__dring_Reduce_1_E : AE := AE.of [(21, ty21), (40, ty40)] [(66, a44)]
noncomputable def U1 : Hints := [(2, [1, 2, 4, 7, 8]), (2000000, [2, 4]), (2000001, [1, 2, 4, 7, 8]), (3000000, [4])]
noncomputable def F3 : Code := (Try.f57).body.getD .skip
noncomputable def a3i : Shape := mkS { tmps := V :: .sc (.fn 66) :: .sc (.ptr 0 0 false) :: V :: .sc (.ptr 1 0 false) :: V :: V :: .agg [.xs b32 (some 256)] :: .sc (.int .i64) :: pv 10 [], mem := [.live [.xs b32 (some 256)] (.own), .live [.xs b32 (some 256)] (.own)] } [.xs, .int, .xs, .xs]
abbrev W12 : Type := List Int × Int × List Int × List Int × Unit
noncomputable def o9 (N : Nat) (β : Type) (x : W12) (kn : W12 → Option β) (ke : W5 → Option β) : Option β :=
 if (x.2.1 < (256:Int)) then
  if 0 ≤ x.2.1 then (
  if x.2.1 < 256 then (
  if (x.2.1.toNat) < 256 then (
  (a1Y ((List.getD x.1 (x.2.1.toNat) 0), ())).bind fun r1 => (
  if 0 ≤ x.2.1 then (
  if x.2.1 < 256 then (
  if (x.2.1.toNat) < 256 then (
  kn (x.1, (IntKind.i64.wrap (x.2.1 + (1:Int))), (List.set x.2.2.1 (x.2.1.toNat) r1), x.2.2.2.1, ())) else none) else none) else none)) else none) else none) else none
 else
  ke (x.2.2.1, x.2.2.2.1, ())
noncomputable def a2R : Go' W5 := fun y K => K (.exit 0) (fSt { tmps := V :: V :: .sc (.ptr 0 0 false) :: V :: .sc (.ptr 1 0 false) :: pv 14 [], mem := [.live [.xs b32 (some 256)] (.own), .live [.xs b32 (some 256)] (.own)] } [.xs, .xs] y)
noncomputable def O7 (N : Nat) : LT := upd (LT.nil) 2 (o6 a3i N (o9 N) a2R)
theorem a2S (N : Nat) : OkAll p_dring_each__dring_Reduce_1_E U1 N (O7 N) (w9 F3) :=
 d6 (c := d7 2 F3) (OkAll.nil) (by kernel_rfl) (fun x => by kernel_rfl) (fun β x kn ke => by kernel_rfl)
abbrev l9 : List Kd := [.xs b32 256, .fnc 66]
abbrev m5 : List Kd := [.xs b32 256]
noncomputable def z9 (N : Nat) (x : List Int × Unit × Unit) : Option (List Int) :=
 m7 (o9 N) N (x.1, (0:Int), x.1, (List.replicate 256 0), ()) fun y2 => (
 some y2.1)
theorem a3A (e0 : c8 Try.prog 66 a44) : p_dring_each__dring_Reduce_1_E.Ok Try.prog := AE.of_ok (all_cons u4 (all_cons q8 c6)) (all_cons ⟨e0, b1j⟩ c6)
theorem a39 (hE : p_dring_each__dring_Reduce_1_E.Ok Try.prog) {g : Ds l9 → Option (Rs m5)} (hg : ∀ x r, g x = some r → ∃ N, z9 N x = some r) : c8 Try.prog 57 ⟨l9, m5, g⟩ :=
 i5 (E := p_dring_each__dring_Reduce_1_E) (H := U1) (L := fun N => O7 N) (c := F3) (ks := l9) (rs := m5) (F := z9) hE mix Try.func57 (by kernel_rfl) (fun N => a2S N) (fun _ _ => by kernel_rfl) hg
noncomputable abbrev I8 : Sig := ⟨[.xs b32 256, .fnc 66], [.xs b32 256], z8⟩
noncomputable def p_dring_Reduce_E : AE := AE.of [(40, ty40)] [(57, I8)]
noncomputable def b9s : Hints := [(3000000, [2])]
noncomputable def b9t : Code := (Try.f47).body.getD .skip
abbrev D7 : List Kd := [.xs b32 256]
abbrev a35 : List Kd := [.xs b32 256]
noncomputable def a4p (N : Nat) (x : List Int × Unit) : Option (List Int) :=
 (z8 (x.1, (), ())).bind fun r1 => (
 some r1)
theorem b55 (e0 : c8 Try.prog 57 I8) : p_dring_Reduce_E.Ok Try.prog := AE.of_ok (all_cons q8 c6) (all_cons ⟨e0, a02⟩ c6)
theorem b7Q (hE : p_dring_Reduce_E.Ok Try.prog) {g : Ds D7 → Option (Rs D7)} (hg : ∀ x r, g x = some r → ∃ N, a4p N x = some r) : c8 Try.prog 47 ⟨D7, D7, g⟩ :=
 i5 (E := p_dring_Reduce_E) (H := b9s) (L := fun N => LT.nil) (c := b9t) (ks := D7) (rs := a35) (F := a4p) hE mix Try.func47 (by kernel_rfl) (fun N => OkAll.nil) (fun _ _ => by kernel_rfl) hg
noncomputable def p_dring_near_E : AE := AE.of [] []
noncomputable def c2A : Hints := [(3000000, [4])]
noncomputable def c2B : Code := (Try.f48).body.getD .skip
abbrev a0K : List Kd := [.int .i32, .int .i32]
abbrev a6l : List Kd := [.int .i32]
noncomputable def a7d (N : Nat) (x : Int × Int × Unit) : Option (Int) :=
 if x.2.1 = 0 then none else (
 if ((Int.tmod x.1 x.2.1) > (IntKind.i32.wrap (Int.tdiv x.2.1 (2:Int)))) then
  some (IntKind.i32.wrap ((Int.tmod x.1 x.2.1) - x.2.1))
 else
  some (Int.tmod x.1 x.2.1))
theorem b9x : p_dring_near_E.Ok Try.prog := AE.of_ok c6 c6
theorem c1v (hE : p_dring_near_E.Ok Try.prog) {g : Ds a0K → Option (Rs [.int .i32])} (hg : ∀ x r, g x = some r → ∃ N, a7d N x = some r) : c8 Try.prog 48 ⟨a0K, [.int .i32], g⟩ :=
 i5 (E := p_dring_near_E) (H := c2A) (L := fun N => LT.nil) (c := c2B) (ks := a0K) (rs := a6l) (F := a7d) hE mix Try.func48 (by kernel_rfl) (fun N => OkAll.nil) (fun _ _ => by kernel_rfl) hg
noncomputable abbrev a4B : Sig := ⟨[.int .i32, .int .i32], [.int .i32], a4L⟩
noncomputable def p_dring_parts_E : AE := AE.of [(2, ty2), (21, ty21)] [(45, i7), (48, a4B)]
noncomputable def c1x : Hints := [(3000000, [2, 3])]
noncomputable def c1y : Code := (Try.f68).body.getD .skip
abbrev a5k : List Kd := [.int .i32]
abbrev Y4 : List Kd := [.int .i32, .int .i32]
noncomputable def a5K (N : Nat) (x : Int × Unit) : Option (Int × Int) :=
 (u1 ((IntKind.i64.wrap x.1), ())).bind fun r1 => (
 (a4L (r1, (523776:Int), ())).bind fun r2 => (
 if ((IntKind.i32.wrap (r1 - r2)) = (8380416:Int)) then
  some ((0:Int), (IntKind.i32.wrap (r2 - (1:Int))))
 else
  some ((IntKind.i32.wrap (Int.tdiv (IntKind.i32.wrap (r1 - r2)) (523776:Int))), r2)))
theorem b7Z (e0 : c8 Try.prog 45 i7) (e1 : c8 Try.prog 48 a4B) : p_dring_parts_E.Ok Try.prog := AE.of_ok (all_cons a88 (all_cons u4 c6)) (all_cons ⟨e0, o5⟩ (all_cons ⟨e1, a8l⟩ c6))
theorem b9z (hE : p_dring_parts_E.Ok Try.prog) {g : Ds [.int .i32] → Option (Rs Y4)} (hg : ∀ x r, g x = some r → ∃ N, a5K N x = some r) : c8 Try.prog 68 ⟨[.int .i32], Y4, g⟩ :=
 i5 (E := p_dring_parts_E) (H := c1x) (L := fun N => LT.nil) (c := c1y) (ks := a5k) (rs := Y4) (F := a5K) hE mix Try.func68 (by kernel_rfl) (fun N => OkAll.nil) (fun _ _ => by kernel_rfl) hg
noncomputable abbrev E0 : Sig := ⟨[.xs b32 256], [.xs b32 256], Q1⟩
noncomputable def p_dring_Power2Round_E : AE := AE.of [(21, ty21), (40, ty40)] [(47, E0), (48, a4B)]
noncomputable def a4R : Hints := [(2, [2, 3, 7, 8]), (2000000, [2, 3]), (2000001, [2, 3, 7, 8]), (3000000, [2, 3])]
noncomputable def a0G : Code := (Try.f20).body.getD .skip
noncomputable def a8E : Shape := mkS { tmps := V :: V :: .sc (.ptr 0 0 false) :: .sc (.ptr 1 0 false) :: pv 3 (.agg [.xs b32 (some 256)] :: .sc (.int .i64) :: pv 18 []), mem := [.live [.xs b32 (some 256)] (.own), .live [.xs b32 (some 256)] (.own)] } [.xs, .int, .xs, .xs]
noncomputable def G2 (N : Nat) (β : Type) (x : W12) (kn : W12 → Option β) (ke : W5 → Option β) : Option β :=
 if (x.2.1 < (256:Int)) then
  if 0 ≤ x.2.1 then (
  if x.2.1 < 256 then (
  if (x.2.1.toNat) < 256 then (
  (a4L ((List.getD x.1 (x.2.1.toNat) 0), (8192:Int), ())).bind fun r2 => (
  if 0 ≤ x.2.1 then (
  if x.2.1 < 256 then (
  if (x.2.1.toNat) < 256 then (
  if 0 ≤ x.2.1 then (
  if x.2.1 < 256 then (
  if (x.2.1.toNat) < 256 then (
  if 0 ≤ x.2.1 then (
  if x.2.1 < 256 then (
  if (x.2.1.toNat) < 256 then (
  kn (x.1, (IntKind.i64.wrap (x.2.1 + (1:Int))), (List.set x.2.2.1 (x.2.1.toNat) (b9c IntKind.i32 (IntKind.i32.wrap ((List.getD x.1 (x.2.1.toNat) 0) - (List.getD (List.set x.2.2.2.1 (x.2.1.toNat) r2) (x.2.1.toNat) 0))) (13:Int))), (List.set x.2.2.2.1 (x.2.1.toNat) r2), ())) else none) else none) else none) else none) else none) else none) else none) else none) else none)) else none) else none) else none
 else
  ke (x.2.2.1, x.2.2.2.1, ())
noncomputable def a7M : Go' W5 := fun y K => K (.exit 0) (fSt { tmps := V :: V :: .sc (.ptr 0 0 false) :: .sc (.ptr 1 0 false) :: pv 23 [], mem := [.live [.xs b32 (some 256)] (.own), .live [.xs b32 (some 256)] (.own)] } [.xs, .xs] y)
noncomputable def a2J (N : Nat) : LT := upd (LT.nil) 2 (o6 a8E N (G2 N) a7M)
theorem a7N (N : Nat) : OkAll p_dring_Power2Round_E a4R N (a2J N) (w9 a0G) :=
 d6 (c := d7 2 a0G) (OkAll.nil) (by kernel_rfl) (fun x => by kernel_rfl) (fun β x kn ke => by kernel_rfl)
abbrev C4 : List Kd := [.xs b32 256]
abbrev C5 : List Kd := [.xs b32 256, .xs b32 256]
noncomputable def V2 (N : Nat) (x : List Int × Unit) : Option (List Int × List Int) :=
 (Q1 (x.1, ())).bind fun r1 => (
 m7 (G2 N) N (r1, (0:Int), (List.replicate 256 0), (List.replicate 256 0), ()) fun y3 => (
 some (y3.1, y3.2.1)))
theorem a9G (e0 : c8 Try.prog 47 E0) (e1 : c8 Try.prog 48 a4B) : p_dring_Power2Round_E.Ok Try.prog := AE.of_ok (all_cons u4 (all_cons q8 c6)) (all_cons ⟨e0, U4⟩ (all_cons ⟨e1, a8l⟩ c6))
theorem b0J (hE : p_dring_Power2Round_E.Ok Try.prog) {g : Ds C4 → Option (Rs C5)} (hg : ∀ x r, g x = some r → ∃ N, V2 N x = some r) : c8 Try.prog 20 ⟨C4, C5, g⟩ :=
 i5 (E := p_dring_Power2Round_E) (H := a4R) (L := fun N => a2J N) (c := a0G) (ks := C4) (rs := C5) (F := V2) hE mix Try.func20 (by kernel_rfl) (fun N => a7N N) (fun _ _ => by kernel_rfl) hg
noncomputable abbrev a9b : Sig := ⟨[.int .i32], [.int .i32, .int .i32], a5C⟩
noncomputable def p_dring_Decompose_E : AE := AE.of [(21, ty21), (40, ty40)] [(68, a9b)]
noncomputable def a6f : Hints := [(2, [2, 3, 6, 7]), (2000000, [2, 3]), (2000001, [2, 3, 6, 7]), (3000000, [2, 3])]
noncomputable def a2v : Code := (Try.f53).body.getD .skip
noncomputable def b0C : Shape := mkS { tmps := V :: V :: .sc (.ptr 0 0 false) :: .sc (.ptr 1 0 false) :: V :: V :: .agg [.xs b32 (some 256)] :: .sc (.int .i64) :: pv 15 [], mem := [.live [.xs b32 (some 256)] (.own), .live [.xs b32 (some 256)] (.own)] } [.xs, .int, .xs, .xs]
noncomputable def M3 (N : Nat) (β : Type) (x : W12) (kn : W12 → Option β) (ke : W5 → Option β) : Option β :=
 if (x.2.1 < (256:Int)) then
  if 0 ≤ x.2.1 then (
  if x.2.1 < 256 then (
  if (x.2.1.toNat) < 256 then (
  (a5C ((List.getD x.1 (x.2.1.toNat) 0), ())).bind fun r1 => (
  if 0 ≤ x.2.1 then (
  if x.2.1 < 256 then (
  if (x.2.1.toNat) < 256 then (
  if 0 ≤ x.2.1 then (
  if x.2.1 < 256 then (
  if (x.2.1.toNat) < 256 then (
  kn (x.1, (IntKind.i64.wrap (x.2.1 + (1:Int))), (List.set x.2.2.1 (x.2.1.toNat) r1.1), (List.set x.2.2.2.1 (x.2.1.toNat) r1.2), ())) else none) else none) else none) else none) else none) else none)) else none) else none) else none
 else
  ke (x.2.2.1, x.2.2.2.1, ())
noncomputable def a9x : Go' W5 := fun y K => K (.exit 0) (fSt { tmps := V :: V :: .sc (.ptr 0 0 false) :: .sc (.ptr 1 0 false) :: pv 19 [], mem := [.live [.xs b32 (some 256)] (.own), .live [.xs b32 (some 256)] (.own)] } [.xs, .xs] y)
noncomputable def a3I (N : Nat) : LT := upd (LT.nil) 2 (o6 b0C N (M3 N) a9x)
theorem a9y (N : Nat) : OkAll p_dring_Decompose_E a6f N (a3I N) (w9 a2v) :=
 d6 (c := d7 2 a2v) (OkAll.nil) (by kernel_rfl) (fun x => by kernel_rfl) (fun β x kn ke => by kernel_rfl)
abbrev H3 : List Kd := [.xs b32 256]
abbrev H4 : List Kd := [.xs b32 256, .xs b32 256]
noncomputable def a08 (N : Nat) (x : List Int × Unit) : Option (List Int × List Int) :=
 m7 (M3 N) N (x.1, (0:Int), (List.replicate 256 0), (List.replicate 256 0), ()) fun y2 => (
 some (y2.1, y2.2.1))
theorem b1A (e0 : c8 Try.prog 68 a9b) : p_dring_Decompose_E.Ok Try.prog := AE.of_ok (all_cons u4 (all_cons q8 c6)) (all_cons ⟨e0, b5w⟩ c6)
theorem b2P (hE : p_dring_Decompose_E.Ok Try.prog) {g : Ds H3 → Option (Rs H4)} (hg : ∀ x r, g x = some r → ∃ N, a08 N x = some r) : c8 Try.prog 53 ⟨H3, H4, g⟩ :=
 i5 (E := p_dring_Decompose_E) (H := a6f) (L := fun N => a3I N) (c := a2v) (ks := H3) (rs := H4) (F := a08) hE mix Try.func53 (by kernel_rfl) (fun N => a9y N) (fun _ _ => by kernel_rfl) hg
noncomputable def p_dring_times_E : AE := AE.of [(2, ty2), (21, ty21)] [(45, i7)]
noncomputable def c1z : Hints := [(3000000, [4])]
noncomputable def c1A : Code := (Try.f60).body.getD .skip
abbrev Y6 : List Kd := [.int .i32, .int .i32]
abbrev a5m : List Kd := [.int .i32]
noncomputable def a5L (N : Nat) (x : Int × Int × Unit) : Option (Int) :=
 (u1 ((IntKind.i64.wrap ((IntKind.i64.wrap x.1) * (IntKind.i64.wrap x.2.1))), ())).bind fun r1 => (
 some r1)
theorem b71 (e0 : c8 Try.prog 45 i7) : p_dring_times_E.Ok Try.prog := AE.of_ok (all_cons a88 (all_cons u4 c6)) (all_cons ⟨e0, o5⟩ c6)
theorem b9A (hE : p_dring_times_E.Ok Try.prog) {g : Ds Y6 → Option (Rs [.int .i32])} (hg : ∀ x r, g x = some r → ∃ N, a5L N x = some r) : c8 Try.prog 60 ⟨Y6, [.int .i32], g⟩ :=
 i5 (E := p_dring_times_E) (H := c1z) (L := fun N => LT.nil) (c := c1A) (ks := Y6) (rs := a5m) (F := a5L) hE mix Try.func60 (by kernel_rfl) (fun N => OkAll.nil) (fun _ _ => by kernel_rfl) hg
noncomputable def p_bits_Reverse8_s0 : ByteArray := ⟨#[0, 128, 64, 192, 32, 160, 96, 224, 16, 144, 80, 208, 48, 176, 112, 240, 8, 136, 72, 200, 40, 168, 104, 232, 24, 152, 88, 216, 56, 184, 120, 248, 4, 132, 68, 196, 36, 164, 100, 228, 20, 148, 84, 212, 52, 180, 116, 244, 12, 140, 76, 204, 44, 172, 108, 236, 28, 156, 92, 220, 60, 188, 124, 252, 2, 130, 66, 194, 34, 162, 98, 226, 18, 146, 82, 210, 50, 178, 114, 242, 10, 138, 74, 202, 42, 170, 106, 234, 26, 154, 90, 218, 58, 186, 122, 250, 6, 134, 70, 198, 38, 166, 102, 230, 22, 150, 86, 214, 54, 182, 118, 246, 14, 142, 78, 206, 46, 174, 110, 238, 30, 158, 94, 222, 62, 190, 126, 254, 1, 129, 65, 193, 33, 161, 97, 225, 17, 145, 81, 209, 49, 177, 113, 241, 9, 137, 73, 201, 41, 169, 105, 233, 25, 153, 89, 217, 57, 185, 121, 249, 5, 133, 69, 197, 37, 165, 101, 229, 21, 149, 85, 213, 53, 181, 117, 245, 13, 141, 77, 205, 45, 173, 109, 237, 29, 157, 93, 221, 61, 189, 125, 253, 3, 131, 67, 195, 35, 163, 99, 227, 19, 147, 83, 211, 51, 179, 115, 243, 11, 139, 75, 203, 43, 171, 107, 235, 27, 155, 91, 219, 59, 187, 123, 251, 7, 135, 71, 199, 39, 167, 103, 231, 23, 151, 87, 215, 55, 183, 119, 247, 15, 143, 79, 207, 47, 175, 111, 239, 31, 159, 95, 223, 63, 191, 127, 255]⟩
noncomputable def p_bits_Reverse8_E : AE := AE.of [(9, ty9)] []
noncomputable def b7x : Hints := [(3000000, [2])]
noncomputable def b7y : Code := (Try.f69).body.getD .skip
abbrev a29 : List Kd := [.int .u8]
abbrev a3a : List Kd := [.int .u8]
noncomputable def a28 (N : Nat) (x : Int × Unit) : Option (Int) :=
 if 0 ≤ x.1 then (
 if x.1 < ((ByteArray.size p_bits_Reverse8_s0 : Nat) : Int) then (
 some (bt p_bits_Reverse8_s0 (x.1.toNat))) else none) else none
theorem b4d : p_bits_Reverse8_E.Ok Try.prog := AE.of_ok (all_cons d8s c6) c6
theorem b5P (hE : p_bits_Reverse8_E.Ok Try.prog) {g : Ds [.int .u8] → Option (Rs [.int .u8])} (hg : ∀ x r, g x = some r → ∃ N, a28 N x = some r) : c8 Try.prog 69 ⟨[.int .u8], [.int .u8], g⟩ :=
 i5 (E := p_bits_Reverse8_E) (H := b7x) (L := fun N => LT.nil) (c := b7y) (ks := a29) (rs := a3a) (F := a28) hE mix Try.func69 (by kernel_rfl) (fun N => OkAll.nil) (fun _ _ => by kernel_rfl) hg
noncomputable abbrev A3 : Sig := ⟨[.int .i32, .int .i32], [.int .i32], N6⟩
noncomputable abbrev a5X : Sig := ⟨[.int .u8], [.int .u8], a2Y⟩
noncomputable def p_dring_powers_E : AE := AE.of [(3, ty3), (5, ty5), (21, ty21), (39, ty39)] [(60, A3), (69, a5X)]
noncomputable def a5l : Hints := [(4, [0, 1, 2, 3]), (8, [0, 1, 2, 17]), (2000000, [0, 1, 2]), (2000001, [0, 1, 2, 3]), (2000002, [0, 2]), (2000003, [0, 1, 2, 17]), (3000000, [0])]
noncomputable def Y5 : Code := (Try.f59).body.getD .skip
noncomputable def b4t : Shape := mkS { tmps := .sc (.ptr 0 0 false) :: .sc (.ptr 1 0 false) :: .sc (.ptr 2 0 false) :: .sc (.int .i64) :: pv 25 [], mem := [.live [.xs b32 (some 256)] (.own), .live [.xs b32 (some 256)] (.own), .live [.xs b32 (some 256)] (.own)] } [.int, .xs, .xs, .xs]
noncomputable def L0 (N : Nat) (β : Type) (x : W4) (kn : W4 → Option β) (ke : W3 → Option β) : Option β :=
 if (x.1 < (256:Int)) then
  if 0 ≤ (IntKind.i64.wrap (x.1 - (1:Int))) then (
  if (IntKind.i64.wrap (x.1 - (1:Int))) < 256 then (
  if ((IntKind.i64.wrap (x.1 - (1:Int))).toNat) < 256 then (
  (N6 ((List.getD x.2.2.1 ((IntKind.i64.wrap (x.1 - (1:Int))).toNat) 0), (1753:Int), ())).bind fun r1 => (
  if 0 ≤ x.1 then (
  if x.1 < 256 then (
  if (x.1.toNat) < 256 then (
  kn ((IntKind.i64.wrap (x.1 + (1:Int))), x.2.1, (List.set x.2.2.1 (x.1.toNat) r1), x.2.2.2.1, ())) else none) else none) else none)) else none) else none) else none
 else
  ke (x.2.1, x.2.2.1, x.2.2.2.1, ())
noncomputable def b3a : Go' W3 := fun y K => K (.exit 0) (fSt { tmps := .sc (.ptr 0 0 false) :: .sc (.ptr 1 0 false) :: .sc (.ptr 2 0 false) :: pv 26 [], mem := [.live [.xs b32 (some 256)] (.own), .live [.xs b32 (some 256)] (.own), .live [.xs b32 (some 256)] (.own)] } [.xs, .xs, .xs] y)
noncomputable def a6m (N : Nat) : LT := upd (LT.nil) 4 (o6 b4t N (L0 N) b3a)
theorem b3b (N : Nat) : OkAll p_dring_powers_E a5l N (a6m N) (w9 Y5) :=
 d6 (c := d7 4 Y5) (OkAll.nil) (by kernel_rfl) (fun x => by kernel_rfl) (fun β x kn ke => by kernel_rfl)
noncomputable def b4u : Shape := mkS { tmps := .sc (.ptr 0 0 false) :: .sc (.ptr 1 0 false) :: .sc (.ptr 2 0 false) :: pv 14 (.sc (.int .i64) :: pv 11 []), mem := [.live [.xs b32 (some 256)] (.own), .live [.xs b32 (some 256)] (.own), .live [.xs b32 (some 256)] (.own)] } [.int, .xs, .xs, .xs]
noncomputable def L4 (N : Nat) (β : Type) (x : W4) (kn : W4 → Option β) (ke : W5 → Option β) : Option β :=
 if (x.1 < (256:Int)) then
  (a2Y ((IntKind.u8.wrap x.1), ())).bind fun r3 => (
  if 0 ≤ r3 then (
  if r3 < 256 then (
  if (r3.toNat) < 256 then (
  if 0 ≤ x.1 then (
  if x.1 < 256 then (
  if (x.1.toNat) < 256 then (
  kn ((IntKind.i64.wrap (x.1 + (1:Int))), x.2.1, x.2.2.1, (List.set x.2.2.2.1 (x.1.toNat) (List.getD x.2.2.1 (r3.toNat) 0)), ())) else none) else none) else none) else none) else none) else none)
 else
  ke (x.2.1, x.2.2.2.1, ())
noncomputable def b3c : Go' W5 := fun y K => K (.exit 2) (fSt { tmps := .sc (.ptr 0 0 false) :: V :: .sc (.ptr 1 0 false) :: pv 26 [], mem := [.live [.xs b32 (some 256)] (.own), .live [.xs b32 (some 256)] (.own)] } [.xs, .xs] y)
noncomputable def a6n (N : Nat) : LT := upd (a6m N) 8 (o6 b4u N (L4 N) b3c)
theorem b3d (N : Nat) : OkAll p_dring_powers_E a5l N (a6n N) (w9 Y5) :=
 d6 (c := d7 8 Y5) (b3b N) (by kernel_rfl) (fun x => by kernel_rfl) (fun β x kn ke => by kernel_rfl)
abbrev a4b : List Kd := []
abbrev S6 : List Kd := [.xs b32 256]
noncomputable def a4s (N : Nat) (x : Unit) : Option (List Int) :=
 m7 (L0 N) N ((1:Int), (List.replicate 256 0), (List.set (List.replicate 256 0) 0 (1:Int)), (List.replicate 256 0), ()) fun y2 => (
 m7 (L4 N) N ((0:Int), y2.1, y2.2.1, y2.2.2.1, ()) fun y4 => (
 some y4.2.1))
theorem b6e (e0 : c8 Try.prog 60 A3) (e1 : c8 Try.prog 69 a5X) : p_dring_powers_E.Ok Try.prog := AE.of_ok (all_cons a5x (all_cons Z1 (all_cons u4 (all_cons c8i c6)))) (all_cons ⟨e0, N5⟩ (all_cons ⟨e1, b2L⟩ c6))
theorem b70 (hE : p_dring_powers_E.Ok Try.prog) {g : Ds [] → Option (Rs S6)} (hg : ∀ x r, g x = some r → ∃ N, a4s N x = some r) : c8 Try.prog 59 ⟨[], S6, g⟩ :=
 i5 (E := p_dring_powers_E) (H := a5l) (L := fun N => a6n N) (c := Y5) (ks := a4b) (rs := S6) (F := a4s) hE mix Try.func59 (by kernel_rfl) (fun N => b3d N) (fun _ _ => by kernel_rfl) hg
noncomputable abbrev a1x : Sig := ⟨[], [.xs b32 256], a1A⟩
noncomputable def p_dring_Ntt_E : AE := AE.of [(2, ty2), (21, ty21), (39, ty39), (40, ty40)] [(47, E0), (59, a1x), (60, A3), (45, i7)]
noncomputable def a5H : Hints := [(5, [1, 2, 3, 4, 5]), (8, [1, 2, 3, 4, 5, 6]), (12, [1, 2, 3, 4, 5, 6, 7]), (2000000, [1, 2]), (2000001, [1, 2, 3, 4, 5]), (2000002, [1, 2, 3, 4, 5]), (2000003, [1, 2, 3, 4, 5, 6]), (2000004, [1, 2, 3, 4, 5, 6]), (2000005, [1, 2, 3, 4, 5, 6, 7]), (3000000, [2])]
noncomputable def V1 : Code := (Try.f32).body.getD .skip
noncomputable def b7K : Shape := mkS { tmps := V :: .sc (.ptr 0 0 false) :: .sc (.ptr 1 0 false) :: .sc (.ptr 2 0 false) :: .sc (.int .i64) :: .sc (.int .i64) :: .sc (.int .i64) :: .sc (.int .i64) :: pv 56 [], mem := [.live [.xs b32 (some 256)] (.own), .live [.xs b32 (some 256)] (.own), .live [.xs b32 (some 256)] (.own)] } [.int, .int, .int, .int, .xs, .xs, .xs]
abbrev W13 : Type := Int × Int × Int × Int × List Int × List Int × List Int × Unit
abbrev W14 : Type := Int × Int × Int × List Int × List Int × List Int × Unit
noncomputable def J4 (N : Nat) (β : Type) (x : W13) (kn : W13 → Option β) (ke : W14 → Option β) : Option β :=
 if (x.2.2.2.1 < (IntKind.i64.wrap (x.2.2.1 + x.2.1))) then
  if 0 ≤ x.1 then (
  if x.1 < 256 then (
  if (x.1.toNat) < 256 then (
  if 0 ≤ (IntKind.i64.wrap (x.2.2.2.1 + x.2.1)) then (
  if (IntKind.i64.wrap (x.2.2.2.1 + x.2.1)) < 256 then (
  if ((IntKind.i64.wrap (x.2.2.2.1 + x.2.1)).toNat) < 256 then (
  (N6 ((List.getD x.2.2.2.2.2.2.1 (x.1.toNat) 0), (List.getD x.2.2.2.2.1 ((IntKind.i64.wrap (x.2.2.2.1 + x.2.1)).toNat) 0), ())).bind fun r3 => (
  if 0 ≤ x.2.2.2.1 then (
  if x.2.2.2.1 < 256 then (
  if (x.2.2.2.1.toNat) < 256 then (
  (u1 ((IntKind.i64.wrap ((IntKind.i64.wrap (List.getD x.2.2.2.2.1 (x.2.2.2.1.toNat) 0)) + (IntKind.i64.wrap r3))), ())).bind fun r4 => (
  if 0 ≤ x.2.2.2.1 then (
  if x.2.2.2.1 < 256 then (
  if (x.2.2.2.1.toNat) < 256 then (
  (u1 ((IntKind.i64.wrap ((IntKind.i64.wrap (List.getD x.2.2.2.2.1 (x.2.2.2.1.toNat) 0)) - (IntKind.i64.wrap r3))), ())).bind fun r5 => (
  if 0 ≤ x.2.2.2.1 then (
  if x.2.2.2.1 < 256 then (
  if (x.2.2.2.1.toNat) < 256 then (
  if 0 ≤ (IntKind.i64.wrap (x.2.2.2.1 + x.2.1)) then (
  if (IntKind.i64.wrap (x.2.2.2.1 + x.2.1)) < 256 then (
  if ((IntKind.i64.wrap (x.2.2.2.1 + x.2.1)).toNat) < 256 then (
  kn (x.1, x.2.1, x.2.2.1, (IntKind.i64.wrap (x.2.2.2.1 + (1:Int))), (List.set (List.set x.2.2.2.2.1 (x.2.2.2.1.toNat) r4) ((IntKind.i64.wrap (x.2.2.2.1 + x.2.1)).toNat) r5), x.2.2.2.2.2.1, x.2.2.2.2.2.2.1, ())) else none) else none) else none) else none) else none) else none)) else none) else none) else none)) else none) else none) else none)) else none) else none) else none) else none) else none) else none
 else
  ke (x.1, x.2.1, x.2.2.1, x.2.2.2.2.1, x.2.2.2.2.2.1, x.2.2.2.2.2.2.1, ())
noncomputable def b5Z : Go' W14 := fun y K => K (.exit 4) (fSt { tmps := V :: .sc (.ptr 0 0 false) :: .sc (.ptr 1 0 false) :: .sc (.ptr 2 0 false) :: .sc (.int .i64) :: .sc (.int .i64) :: .sc (.int .i64) :: pv 57 [], mem := [.live [.xs b32 (some 256)] (.own), .live [.xs b32 (some 256)] (.own), .live [.xs b32 (some 256)] (.own)] } [.int, .int, .int, .xs, .xs, .xs] y)
noncomputable def a8C (N : Nat) : LT := upd (LT.nil) 12 (o6 b7K N (J4 N) b5Z)
theorem b50 (N : Nat) : OkAll p_dring_Ntt_E a5H N (a8C N) (w9 V1) :=
 d6 (c := d7 12 V1) (OkAll.nil) (by kernel_rfl) (fun x => by kernel_rfl) (fun β x kn ke => by kernel_rfl)
noncomputable def b9q : Shape := mkS { tmps := V :: .sc (.ptr 0 0 false) :: .sc (.ptr 1 0 false) :: .sc (.ptr 2 0 false) :: .sc (.int .i64) :: .sc (.int .i64) :: .sc (.int .i64) :: pv 57 [], mem := [.live [.xs b32 (some 256)] (.own), .live [.xs b32 (some 256)] (.own), .live [.xs b32 (some 256)] (.own)] } [.int, .int, .int, .xs, .xs, .xs]
abbrev W15 : Type := Int × Int × List Int × List Int × List Int × Unit
noncomputable def N0 (N : Nat) (β : Type) (x : W14) (kn : W14 → Option β) (ke : W15 → Option β) : Option β :=
 if (x.2.2.1 < (256:Int)) then
  m7 (J4 N) N ((IntKind.i64.wrap (x.1 + (1:Int))), x.2.1, x.2.2.1, x.2.2.1, x.2.2.2.1, x.2.2.2.2.1, x.2.2.2.2.2.1, ()) fun y6 => (
  kn (y6.1, y6.2.1, (IntKind.i64.wrap (y6.2.2.1 + (IntKind.i64.wrap ((2:Int) * y6.2.1)))), y6.2.2.2.1, y6.2.2.2.2.1, y6.2.2.2.2.2.1, ()))
 else
  ke (x.1, x.2.1, x.2.2.2.1, x.2.2.2.2.1, x.2.2.2.2.2.1, ())
noncomputable def b7N : Go' W15 := fun y K => K (.exit 2) (fSt { tmps := V :: .sc (.ptr 0 0 false) :: .sc (.ptr 1 0 false) :: .sc (.ptr 2 0 false) :: .sc (.int .i64) :: .sc (.int .i64) :: pv 58 [], mem := [.live [.xs b32 (some 256)] (.own), .live [.xs b32 (some 256)] (.own), .live [.xs b32 (some 256)] (.own)] } [.int, .int, .xs, .xs, .xs] y)
noncomputable def b0i (N : Nat) : LT := upd (a8C N) 8 (o6 b9q N (N0 N) b7N)
theorem b7O (N : Nat) : OkAll p_dring_Ntt_E a5H N (b0i N) (w9 V1) :=
 d6 (c := d7 8 V1) (b50 N) (by kernel_rfl) (fun x => by kernel_rfl) (fun β x kn ke => by kernel_rfl)
noncomputable def b9p : Shape := mkS { tmps := V :: .sc (.ptr 0 0 false) :: .sc (.ptr 1 0 false) :: .sc (.ptr 2 0 false) :: .sc (.int .i64) :: .sc (.int .i64) :: pv 58 [], mem := [.live [.xs b32 (some 256)] (.own), .live [.xs b32 (some 256)] (.own), .live [.xs b32 (some 256)] (.own)] } [.int, .int, .xs, .xs, .xs]
noncomputable def Y0 (N : Nat) (β : Type) (x : W15) (kn : W15 → Option β) (ke : W5 → Option β) : Option β :=
 if (x.2.1 ≥ (1:Int)) then
  m7 (N0 N) N (x.1, x.2.1, (0:Int), x.2.2.1, x.2.2.2.1, x.2.2.2.2.1, ()) fun y7 => (
  kn (y7.1, (IntKind.i64.wrap (Int.tdiv y7.2.1 (2:Int))), y7.2.2.1, y7.2.2.2.1, y7.2.2.2.2.1, ()))
 else
  ke (x.2.2.1, x.2.2.2.1, ())
noncomputable def b7L : Go' W5 := fun y K => K (.exit 0) (fSt { tmps := V :: .sc (.ptr 0 0 false) :: .sc (.ptr 1 0 false) :: pv 61 [], mem := [.live [.xs b32 (some 256)] (.own), .live [.xs b32 (some 256)] (.own)] } [.xs, .xs] y)
noncomputable def b0h (N : Nat) : LT := upd (b0i N) 5 (o6 b9p N (Y0 N) b7L)
theorem b7M (N : Nat) : OkAll p_dring_Ntt_E a5H N (b0h N) (w9 V1) :=
 d6 (c := d7 5 V1) (b7O N) (by kernel_rfl) (fun x => by kernel_rfl) (fun β x kn ke => by kernel_rfl)
abbrev Q4 : List Kd := [.xs b32 256]
abbrev a7K : List Kd := [.xs b32 256]
noncomputable def a9B (N : Nat) (x : List Int × Unit) : Option (List Int) :=
 (Q1 (x.1, ())).bind fun r1 => (
 (a1A (())).bind fun r2 => (
 m7 (Y0 N) N ((0:Int), (128:Int), r1, (List.replicate 256 0), r2, ()) fun y8 => (
 some y8.1)))
theorem c1p (e0 : c8 Try.prog 47 E0) (e1 : c8 Try.prog 59 a1x) (e2 : c8 Try.prog 60 A3) (e3 : c8 Try.prog 45 i7) : p_dring_Ntt_E.Ok Try.prog := AE.of_ok (all_cons a88 (all_cons u4 (all_cons c8i (all_cons q8 c6)))) (all_cons ⟨e0, U4⟩ (all_cons ⟨e1, a6a⟩ (all_cons ⟨e2, N5⟩ (all_cons ⟨e3, o5⟩ c6))))
theorem c2w (hE : p_dring_Ntt_E.Ok Try.prog) {g : Ds Q4 → Option (Rs Q4)} (hg : ∀ x r, g x = some r → ∃ N, a9B N x = some r) : c8 Try.prog 32 ⟨Q4, Q4, g⟩ :=
 i5 (E := p_dring_Ntt_E) (H := a5H) (L := fun N => b0h N) (c := V1) (ks := Q4) (rs := a7K) (F := a9B) hE mix Try.func32 (by kernel_rfl) (fun N => b7M N) (fun _ _ => by kernel_rfl) hg
noncomputable def p_dring_Inv_1_E : AE := AE.of [] [(60, A3)]
noncomputable def c1j : Hints := [(3000000, [2])]
noncomputable def c1k : Code := (Try.f61).body.getD .skip
abbrev a5c : List Kd := [.int .i32]
abbrev a5d : List Kd := [.int .i32]
noncomputable def a5F (N : Nat) (x : Int × Unit) : Option (Int) :=
 (N6 (x.1, (8347681:Int), ())).bind fun r1 => (
 some r1)
theorem b7C (e0 : c8 Try.prog 60 A3) : p_dring_Inv_1_E.Ok Try.prog := AE.of_ok c6 (all_cons ⟨e0, N5⟩ c6)
theorem b9k (hE : p_dring_Inv_1_E.Ok Try.prog) {g : Ds [.int .i32] → Option (Rs [.int .i32])} (hg : ∀ x r, g x = some r → ∃ N, a5F N x = some r) : c8 Try.prog 61 ⟨[.int .i32], [.int .i32], g⟩ :=
 i5 (E := p_dring_Inv_1_E) (H := c1j) (L := fun N => LT.nil) (c := c1k) (ks := a5c) (rs := a5d) (F := a5F) hE mix Try.func61 (by kernel_rfl) (fun N => OkAll.nil) (fun _ _ => by kernel_rfl) hg
noncomputable abbrev a9a : Sig := ⟨[.int .i32], [.int .i32], a5B⟩
noncomputable def p_dring_each__dring_Inv_1_E : AE := AE.of [(21, ty21), (40, ty40)] [(61, a9a)]
noncomputable def a0H : Hints := [(2, [1, 2, 4, 7, 8]), (2000000, [2, 4]), (2000001, [1, 2, 4, 7, 8]), (3000000, [4])]
noncomputable def K9 : Code := (Try.f57).body.getD .skip
noncomputable def a4S : Shape := mkS { tmps := V :: .sc (.fn 61) :: .sc (.ptr 0 0 false) :: V :: .sc (.ptr 1 0 false) :: V :: V :: .agg [.xs b32 (some 256)] :: .sc (.int .i64) :: pv 10 [], mem := [.live [.xs b32 (some 256)] (.own), .live [.xs b32 (some 256)] (.own)] } [.xs, .int, .xs, .xs]
noncomputable def u5 (N : Nat) (β : Type) (x : W12) (kn : W12 → Option β) (ke : W5 → Option β) : Option β :=
 if (x.2.1 < (256:Int)) then
  if 0 ≤ x.2.1 then (
  if x.2.1 < 256 then (
  if (x.2.1.toNat) < 256 then (
  (a5B ((List.getD x.1 (x.2.1.toNat) 0), ())).bind fun r1 => (
  if 0 ≤ x.2.1 then (
  if x.2.1 < 256 then (
  if (x.2.1.toNat) < 256 then (
  kn (x.1, (IntKind.i64.wrap (x.2.1 + (1:Int))), (List.set x.2.2.1 (x.2.1.toNat) r1), x.2.2.2.1, ())) else none) else none) else none)) else none) else none) else none
 else
  ke (x.2.2.1, x.2.2.2.1, ())
noncomputable def a37 : Go' W5 := fun y K => K (.exit 0) (fSt { tmps := V :: V :: .sc (.ptr 0 0 false) :: V :: .sc (.ptr 1 0 false) :: pv 14 [], mem := [.live [.xs b32 (some 256)] (.own), .live [.xs b32 (some 256)] (.own)] } [.xs, .xs] y)
noncomputable def U0 (N : Nat) : LT := upd (LT.nil) 2 (o6 a4S N (u5 N) a37)
theorem a38 (N : Nat) : OkAll p_dring_each__dring_Inv_1_E a0H N (U0 N) (w9 K9) :=
 d6 (c := d7 2 K9) (OkAll.nil) (by kernel_rfl) (fun x => by kernel_rfl) (fun β x kn ke => by kernel_rfl)
abbrev o7 : List Kd := [.xs b32 256, .fnc 61]
abbrev o8 : List Kd := [.xs b32 256]
noncomputable def E4 (N : Nat) (x : List Int × Unit × Unit) : Option (List Int) :=
 m7 (u5 N) N (x.1, (0:Int), x.1, (List.replicate 256 0), ()) fun y2 => (
 some y2.1)
theorem a5j (e0 : c8 Try.prog 61 a9a) : p_dring_each__dring_Inv_1_E.Ok Try.prog := AE.of_ok (all_cons u4 (all_cons q8 c6)) (all_cons ⟨e0, b5v⟩ c6)
theorem a5J (hE : p_dring_each__dring_Inv_1_E.Ok Try.prog) {g : Ds o7 → Option (Rs o8)} (hg : ∀ x r, g x = some r → ∃ N, E4 N x = some r) : c8 Try.prog 57 ⟨o7, o8, g⟩ :=
 i5 (E := p_dring_each__dring_Inv_1_E) (H := a0H) (L := fun N => U0 N) (c := K9) (ks := o7) (rs := o8) (F := E4) hE mix Try.func57 (by kernel_rfl) (fun N => a38 N) (fun _ _ => by kernel_rfl) hg
noncomputable abbrev P9 : Sig := ⟨[.xs b32 256, .fnc 61], [.xs b32 256], E2⟩
noncomputable def p_dring_Inv_E : AE := AE.of [(2, ty2), (21, ty21), (39, ty39), (40, ty40)] [(47, E0), (59, a1x), (45, i7), (60, A3), (57, P9)]
noncomputable def a5G : Hints := [(5, [1, 2, 3, 4, 5]), (8, [1, 2, 3, 4, 5, 6]), (12, [1, 2, 3, 4, 5, 6, 7]), (2000000, [1, 2]), (2000001, [1, 2, 3, 4, 5]), (2000002, [1, 2, 3, 4, 5]), (2000003, [1, 2, 3, 4, 5, 6]), (2000004, [1, 2, 3, 4, 5, 6]), (2000005, [1, 2, 3, 4, 5, 6, 7]), (3000000, [2])]
noncomputable def V0 : Code := (Try.f36).body.getD .skip
noncomputable def b7D : Shape := mkS { tmps := V :: .sc (.ptr 0 0 false) :: .sc (.ptr 1 0 false) :: .sc (.ptr 2 0 false) :: .sc (.int .i64) :: .sc (.int .i64) :: .sc (.int .i64) :: .sc (.int .i64) :: pv 54 [], mem := [.live [.xs b32 (some 256)] (.own), .live [.xs b32 (some 256)] (.own), .live [.xs b32 (some 256)] (.own)] } [.int, .int, .int, .int, .xs, .xs, .xs]
noncomputable def J3 (N : Nat) (β : Type) (x : W13) (kn : W13 → Option β) (ke : W14 → Option β) : Option β :=
 if (x.2.2.2.1 < (IntKind.i64.wrap (x.2.2.1 + x.2.1))) then
  if 0 ≤ x.2.2.2.1 then (
  if x.2.2.2.1 < 256 then (
  if (x.2.2.2.1.toNat) < 256 then (
  if 0 ≤ (IntKind.i64.wrap (x.2.2.2.1 + x.2.1)) then (
  if (IntKind.i64.wrap (x.2.2.2.1 + x.2.1)) < 256 then (
  if ((IntKind.i64.wrap (x.2.2.2.1 + x.2.1)).toNat) < 256 then (
  (u1 ((IntKind.i64.wrap ((IntKind.i64.wrap (List.getD x.2.2.2.2.1 (x.2.2.2.1.toNat) 0)) + (IntKind.i64.wrap (List.getD x.2.2.2.2.1 ((IntKind.i64.wrap (x.2.2.2.1 + x.2.1)).toNat) 0)))), ())).bind fun r3 => (
  if 0 ≤ x.1 then (
  if x.1 < 256 then (
  if (x.1.toNat) < 256 then (
  (N6 ((List.getD x.2.2.2.2.2.2.1 (x.1.toNat) 0), (IntKind.i32.wrap ((List.getD x.2.2.2.2.1 ((IntKind.i64.wrap (x.2.2.2.1 + x.2.1)).toNat) 0) - (List.getD x.2.2.2.2.1 (x.2.2.2.1.toNat) 0))), ())).bind fun r4 => (
  if 0 ≤ x.2.2.2.1 then (
  if x.2.2.2.1 < 256 then (
  if (x.2.2.2.1.toNat) < 256 then (
  if 0 ≤ (IntKind.i64.wrap (x.2.2.2.1 + x.2.1)) then (
  if (IntKind.i64.wrap (x.2.2.2.1 + x.2.1)) < 256 then (
  if ((IntKind.i64.wrap (x.2.2.2.1 + x.2.1)).toNat) < 256 then (
  kn (x.1, x.2.1, x.2.2.1, (IntKind.i64.wrap (x.2.2.2.1 + (1:Int))), (List.set (List.set x.2.2.2.2.1 (x.2.2.2.1.toNat) r3) ((IntKind.i64.wrap (x.2.2.2.1 + x.2.1)).toNat) r4), x.2.2.2.2.2.1, x.2.2.2.2.2.2.1, ())) else none) else none) else none) else none) else none) else none)) else none) else none) else none)) else none) else none) else none) else none) else none) else none
 else
  ke (x.1, x.2.1, x.2.2.1, x.2.2.2.2.1, x.2.2.2.2.2.1, x.2.2.2.2.2.2.1, ())
noncomputable def b5U : Go' W14 := fun y K => K (.exit 4) (fSt { tmps := V :: .sc (.ptr 0 0 false) :: .sc (.ptr 1 0 false) :: .sc (.ptr 2 0 false) :: .sc (.int .i64) :: .sc (.int .i64) :: .sc (.int .i64) :: pv 55 [], mem := [.live [.xs b32 (some 256)] (.own), .live [.xs b32 (some 256)] (.own), .live [.xs b32 (some 256)] (.own)] } [.int, .int, .int, .xs, .xs, .xs] y)
noncomputable def a8A (N : Nat) : LT := upd (LT.nil) 12 (o6 b7D N (J3 N) b5U)
theorem b5V (N : Nat) : OkAll p_dring_Inv_E a5G N (a8A N) (w9 V0) :=
 d6 (c := d7 12 V0) (OkAll.nil) (by kernel_rfl) (fun x => by kernel_rfl) (fun β x kn ke => by kernel_rfl)
noncomputable def b9m : Shape := mkS { tmps := V :: .sc (.ptr 0 0 false) :: .sc (.ptr 1 0 false) :: .sc (.ptr 2 0 false) :: .sc (.int .i64) :: .sc (.int .i64) :: .sc (.int .i64) :: pv 55 [], mem := [.live [.xs b32 (some 256)] (.own), .live [.xs b32 (some 256)] (.own), .live [.xs b32 (some 256)] (.own)] } [.int, .int, .int, .xs, .xs, .xs]
noncomputable def M9 (N : Nat) (β : Type) (x : W14) (kn : W14 → Option β) (ke : W15 → Option β) : Option β :=
 if (x.2.2.1 < (256:Int)) then
  m7 (J3 N) N ((IntKind.i64.wrap (x.1 - (1:Int))), x.2.1, x.2.2.1, x.2.2.1, x.2.2.2.1, x.2.2.2.2.1, x.2.2.2.2.2.1, ()) fun y5 => (
  kn (y5.1, y5.2.1, (IntKind.i64.wrap (y5.2.2.1 + (IntKind.i64.wrap ((2:Int) * y5.2.1)))), y5.2.2.2.1, y5.2.2.2.2.1, y5.2.2.2.2.2.1, ()))
 else
  ke (x.1, x.2.1, x.2.2.2.1, x.2.2.2.2.1, x.2.2.2.2.2.1, ())
noncomputable def b7G : Go' W15 := fun y K => K (.exit 2) (fSt { tmps := V :: .sc (.ptr 0 0 false) :: .sc (.ptr 1 0 false) :: .sc (.ptr 2 0 false) :: .sc (.int .i64) :: .sc (.int .i64) :: pv 56 [], mem := [.live [.xs b32 (some 256)] (.own), .live [.xs b32 (some 256)] (.own), .live [.xs b32 (some 256)] (.own)] } [.int, .int, .xs, .xs, .xs] y)
noncomputable def b0f (N : Nat) : LT := upd (a8A N) 8 (o6 b9m N (M9 N) b7G)
theorem b7H (N : Nat) : OkAll p_dring_Inv_E a5G N (b0f N) (w9 V0) :=
 d6 (c := d7 8 V0) (b5V N) (by kernel_rfl) (fun x => by kernel_rfl) (fun β x kn ke => by kernel_rfl)
noncomputable def b9l : Shape := mkS { tmps := V :: .sc (.ptr 0 0 false) :: .sc (.ptr 1 0 false) :: .sc (.ptr 2 0 false) :: .sc (.int .i64) :: .sc (.int .i64) :: pv 56 [], mem := [.live [.xs b32 (some 256)] (.own), .live [.xs b32 (some 256)] (.own), .live [.xs b32 (some 256)] (.own)] } [.int, .int, .xs, .xs, .xs]
noncomputable def X9 (N : Nat) (β : Type) (x : W15) (kn : W15 → Option β) (ke : W5 → Option β) : Option β :=
 if (x.2.1 ≤ (128:Int)) then
  m7 (M9 N) N (x.1, x.2.1, (0:Int), x.2.2.1, x.2.2.2.1, x.2.2.2.2.1, ()) fun y6 => (
  kn (y6.1, (IntKind.i64.wrap (y6.2.1 * (2:Int))), y6.2.2.1, y6.2.2.2.1, y6.2.2.2.2.1, ()))
 else
  ke (x.2.2.1, x.2.2.2.1, ())
noncomputable def b7E : Go' W5 := fun y K => K (.exit 0) (fSt { tmps := V :: .sc (.ptr 0 0 false) :: .sc (.ptr 1 0 false) :: pv 59 [], mem := [.live [.xs b32 (some 256)] (.own), .live [.xs b32 (some 256)] (.own)] } [.xs, .xs] y)
noncomputable def b0e (N : Nat) : LT := upd (b0f N) 5 (o6 b9l N (X9 N) b7E)
theorem b7F (N : Nat) : OkAll p_dring_Inv_E a5G N (b0e N) (w9 V0) :=
 d6 (c := d7 5 V0) (b7H N) (by kernel_rfl) (fun x => by kernel_rfl) (fun β x kn ke => by kernel_rfl)
abbrev Q3 : List Kd := [.xs b32 256]
abbrev a7I : List Kd := [.xs b32 256]
noncomputable def a9z (N : Nat) (x : List Int × Unit) : Option (List Int) :=
 (Q1 (x.1, ())).bind fun r1 => (
 (a1A (())).bind fun r2 => (
 m7 (X9 N) N ((256:Int), (1:Int), r1, (List.replicate 256 0), r2, ()) fun y7 => (
 (E2 (y7.1, (), ())).bind fun r8 => (
 some r8))))
theorem c1l (e0 : c8 Try.prog 47 E0) (e1 : c8 Try.prog 59 a1x) (e2 : c8 Try.prog 45 i7) (e3 : c8 Try.prog 60 A3) (e4 : c8 Try.prog 57 P9) : p_dring_Inv_E.Ok Try.prog := AE.of_ok (all_cons a88 (all_cons u4 (all_cons c8i (all_cons q8 c6)))) (all_cons ⟨e0, U4⟩ (all_cons ⟨e1, a6a⟩ (all_cons ⟨e2, o5⟩ (all_cons ⟨e3, N5⟩ (all_cons ⟨e4, a02⟩ c6)))))
theorem c2s (hE : p_dring_Inv_E.Ok Try.prog) {g : Ds Q3 → Option (Rs Q3)} (hg : ∀ x r, g x = some r → ∃ N, a9z N x = some r) : c8 Try.prog 36 ⟨Q3, Q3, g⟩ :=
 i5 (E := p_dring_Inv_E) (H := a5G) (L := fun N => b0e N) (c := V0) (ks := Q3) (rs := a7I) (F := a9z) hE mix Try.func36 (by kernel_rfl) (fun N => b7F N) (fun _ _ => by kernel_rfl) hg
noncomputable def p_dring_MulNtt_E : AE := AE.of [(21, ty21), (40, ty40)] [(60, A3)]
noncomputable def b0g : Hints := [(2, [2, 3, 4, 6]), (2000000, [2, 4]), (2000001, [2, 3, 4, 6]), (3000000, [4])]
noncomputable def a5e : Code := (Try.f38).body.getD .skip
noncomputable def b4j : Shape := mkS { tmps := V :: V :: .sc (.ptr 0 0 false) :: .sc (.ptr 1 0 false) :: .sc (.ptr 2 0 false) :: V :: .sc (.int .i64) :: pv 13 [], mem := [.live [.xs b32 (some 256)] (.own), .live [.xs b32 (some 256)] (.own), .live [.xs b32 (some 256)] (.own)] } [.int, .xs, .xs, .xs]
noncomputable def K4 (N : Nat) (β : Type) (x : W4) (kn : W4 → Option β) (ke : W5 → Option β) : Option β :=
 if (x.1 < (256:Int)) then
  if 0 ≤ x.1 then (
  if x.1 < 256 then (
  if (x.1.toNat) < 256 then (
  if 0 ≤ x.1 then (
  if x.1 < 256 then (
  if (x.1.toNat) < 256 then (
  (N6 ((List.getD x.2.1 (x.1.toNat) 0), (List.getD x.2.2.1 (x.1.toNat) 0), ())).bind fun r1 => (
  if 0 ≤ x.1 then (
  if x.1 < 256 then (
  if (x.1.toNat) < 256 then (
  kn ((IntKind.i64.wrap (x.1 + (1:Int))), (List.set x.2.1 (x.1.toNat) r1), x.2.2.1, x.2.2.2.1, ())) else none) else none) else none)) else none) else none) else none) else none) else none) else none
 else
  ke (x.2.1, x.2.2.2.1, ())
noncomputable def b2R : Go' W5 := fun y K => K (.exit 0) (fSt { tmps := V :: V :: .sc (.ptr 0 0 false) :: V :: .sc (.ptr 1 0 false) :: pv 15 [], mem := [.live [.xs b32 (some 256)] (.own), .live [.xs b32 (some 256)] (.own)] } [.xs, .xs] y)
noncomputable def a6g (N : Nat) : LT := upd (LT.nil) 2 (o6 b4j N (K4 N) b2R)
theorem b2S (N : Nat) : OkAll p_dring_MulNtt_E b0g N (a6g N) (w9 a5e) :=
 d6 (c := d7 2 a5e) (OkAll.nil) (by kernel_rfl) (fun x => by kernel_rfl) (fun β x kn ke => by kernel_rfl)
abbrev R8 : List Kd := [.xs b32 256, .xs b32 256]
abbrev R9 : List Kd := [.xs b32 256]
noncomputable def a4o (N : Nat) (x : List Int × List Int × Unit) : Option (List Int) :=
 m7 (K4 N) N ((0:Int), x.1, x.2.1, (List.replicate 256 0), ()) fun y2 => (
 some y2.1)
theorem b5W (e0 : c8 Try.prog 60 A3) : p_dring_MulNtt_E.Ok Try.prog := AE.of_ok (all_cons u4 (all_cons q8 c6)) (all_cons ⟨e0, N5⟩ c6)
theorem b7I (hE : p_dring_MulNtt_E.Ok Try.prog) {g : Ds R8 → Option (Rs R9)} (hg : ∀ x r, g x = some r → ∃ N, a4o N x = some r) : c8 Try.prog 38 ⟨R8, R9, g⟩ :=
 i5 (E := p_dring_MulNtt_E) (H := b0g) (L := fun N => a6g N) (c := a5e) (ks := R8) (rs := R9) (F := a4o) hE mix Try.func38 (by kernel_rfl) (fun N => b2S N) (fun _ _ => by kernel_rfl) hg
noncomputable abbrev a2l : Sig := ⟨[.xs b32 256], [.xs b32 256], a0u⟩
noncomputable abbrev P8 : Sig := ⟨[.xs b32 256, .xs b32 256], [.xs b32 256], Z4⟩
noncomputable abbrev a2k : Sig := ⟨[.xs b32 256], [.xs b32 256], a31⟩
noncomputable def p_dring_Mul_E : AE := AE.of [(21, ty21), (40, ty40)] [(32, a2l), (38, P8), (36, a2k)]
noncomputable def c4g : Hints := [(3000000, [4])]
noncomputable def c4h : Code := (Try.f54).body.getD .skip
abbrev a1F : List Kd := [.xs b32 256, .xs b32 256]
abbrev a1G : List Kd := [.xs b32 256]
noncomputable def a9A (N : Nat) (x : List Int × List Int × Unit) : Option (List Int) :=
 if (x.1 = (List.replicate 256 0)) then
  some (List.replicate 256 0)
 else
  if (x.2.1 = (List.replicate 256 0)) then
   some (List.replicate 256 0)
  else
   (a0u (x.1, ())).bind fun r1 => (
   (a0u (x.2.1, ())).bind fun r2 => (
   (Z4 (r1, r2, ())).bind fun r3 => (
   (a31 (r3, ())).bind fun r4 => (
   some r4))))
theorem c1n (e0 : c8 Try.prog 32 a2l) (e1 : c8 Try.prog 38 P8) (e2 : c8 Try.prog 36 a2k) : p_dring_Mul_E.Ok Try.prog := AE.of_ok (all_cons u4 (all_cons q8 c6)) (all_cons ⟨e0, a5a⟩ (all_cons ⟨e1, a2r⟩ (all_cons ⟨e2, a49⟩ c6)))
theorem c2v (hE : p_dring_Mul_E.Ok Try.prog) {g : Ds a1F → Option (Rs a1G)} (hg : ∀ x r, g x = some r → ∃ N, a9A N x = some r) : c8 Try.prog 54 ⟨a1F, a1G, g⟩ :=
 i5 (E := p_dring_Mul_E) (H := c4g) (L := fun N => LT.nil) (c := c4h) (ks := a1F) (rs := a1G) (F := a9A) hE mix Try.func54 (by kernel_rfl) (fun N => OkAll.nil) (fun _ _ => by kernel_rfl) hg
noncomputable def p_dring_centred_E : AE := AE.of [(2, ty2), (21, ty21)] [(45, i7)]
noncomputable def b7W : Hints := [(3000000, [2])]
noncomputable def b7X : Code := (Try.f67).body.getD .skip
abbrev a3g : List Kd := [.int .i32]
abbrev a3h : List Kd := [.int .i32]
noncomputable def a3f (N : Nat) (x : Int × Unit) : Option (Int) :=
 (u1 ((IntKind.i64.wrap x.1), ())).bind fun r1 => (
 if (r1 > (4190208:Int)) then
  some (IntKind.i32.wrap (r1 - (8380417:Int)))
 else
  some r1)
theorem b4q (e0 : c8 Try.prog 45 i7) : p_dring_centred_E.Ok Try.prog := AE.of_ok (all_cons a88 (all_cons u4 c6)) (all_cons ⟨e0, o5⟩ c6)
theorem b6a (hE : p_dring_centred_E.Ok Try.prog) {g : Ds [.int .i32] → Option (Rs [.int .i32])} (hg : ∀ x r, g x = some r → ∃ N, a3f N x = some r) : c8 Try.prog 67 ⟨[.int .i32], [.int .i32], g⟩ :=
 i5 (E := p_dring_centred_E) (H := b7W) (L := fun N => LT.nil) (c := b7X) (ks := a3g) (rs := a3h) (F := a3f) hE mix Try.func67 (by kernel_rfl) (fun N => OkAll.nil) (fun _ _ => by kernel_rfl) hg
noncomputable abbrev a50 : Sig := ⟨[.int .i32], [.int .i32], a2Z⟩
noncomputable def p_dring_each__dring_centred_E : AE := AE.of [(21, ty21), (40, ty40)] [(67, a50)]
noncomputable def Y3 : Hints := [(2, [1, 2, 4, 7, 8]), (2000000, [2, 4]), (2000001, [1, 2, 4, 7, 8]), (3000000, [4])]
noncomputable def H1 : Code := (Try.f57).body.getD .skip
noncomputable def a3B : Shape := mkS { tmps := V :: .sc (.fn 67) :: .sc (.ptr 0 0 false) :: V :: .sc (.ptr 1 0 false) :: V :: V :: .agg [.xs b32 (some 256)] :: .sc (.int .i64) :: pv 10 [], mem := [.live [.xs b32 (some 256)] (.own), .live [.xs b32 (some 256)] (.own)] } [.xs, .int, .xs, .xs]
noncomputable def s8 (N : Nat) (β : Type) (x : W12) (kn : W12 → Option β) (ke : W5 → Option β) : Option β :=
 if (x.2.1 < (256:Int)) then
  if 0 ≤ x.2.1 then (
  if x.2.1 < 256 then (
  if (x.2.1.toNat) < 256 then (
  (a2Z ((List.getD x.1 (x.2.1.toNat) 0), ())).bind fun r1 => (
  if 0 ≤ x.2.1 then (
  if x.2.1 < 256 then (
  if (x.2.1.toNat) < 256 then (
  kn (x.1, (IntKind.i64.wrap (x.2.1 + (1:Int))), (List.set x.2.2.1 (x.2.1.toNat) r1), x.2.2.2.1, ())) else none) else none) else none)) else none) else none) else none
 else
  ke (x.2.2.1, x.2.2.2.1, ())
noncomputable def a3j : Go' W5 := fun y K => K (.exit 0) (fSt { tmps := V :: V :: .sc (.ptr 0 0 false) :: V :: .sc (.ptr 1 0 false) :: pv 14 [], mem := [.live [.xs b32 (some 256)] (.own), .live [.xs b32 (some 256)] (.own)] } [.xs, .xs] y)
noncomputable def Q7 (N : Nat) : LT := upd (LT.nil) 2 (o6 a3B N (s8 N) a3j)
theorem a3k (N : Nat) : OkAll p_dring_each__dring_centred_E Y3 N (Q7 N) (w9 H1) :=
 d6 (c := d7 2 H1) (OkAll.nil) (by kernel_rfl) (fun x => by kernel_rfl) (fun β x kn ke => by kernel_rfl)
abbrev m9 : List Kd := [.xs b32 256, .fnc 67]
abbrev n6 : List Kd := [.xs b32 256]
noncomputable def A8 (N : Nat) (x : List Int × Unit × Unit) : Option (List Int) :=
 m7 (s8 N) N (x.1, (0:Int), x.1, (List.replicate 256 0), ()) fun y2 => (
 some y2.1)
theorem a4a (e0 : c8 Try.prog 67 a50) : p_dring_each__dring_centred_E.Ok Try.prog := AE.of_ok (all_cons u4 (all_cons q8 c6)) (all_cons ⟨e0, b2N⟩ c6)
theorem a4T (hE : p_dring_each__dring_centred_E.Ok Try.prog) {g : Ds m9 → Option (Rs n6)} (hg : ∀ x r, g x = some r → ∃ N, A8 N x = some r) : c8 Try.prog 57 ⟨m9, n6, g⟩ :=
 i5 (E := p_dring_each__dring_centred_E) (H := Y3) (L := fun N => Q7 N) (c := H1) (ks := m9) (rs := n6) (F := A8) hE mix Try.func57 (by kernel_rfl) (fun N => a3k N) (fun _ _ => by kernel_rfl) hg
noncomputable abbrev J5 : Sig := ⟨[.xs b32 256, .fnc 67], [.xs b32 256], A6⟩
noncomputable def p_dring_Center_E : AE := AE.of [(40, ty40)] [(57, J5)]
noncomputable def b9i : Hints := [(3000000, [2])]
noncomputable def b9j : Code := (Try.f50).body.getD .skip
abbrev D6 : List Kd := [.xs b32 256]
abbrev a34 : List Kd := [.xs b32 256]
noncomputable def a4n (N : Nat) (x : List Int × Unit) : Option (List Int) :=
 (A6 (x.1, (), ())).bind fun r1 => (
 some r1)
theorem b5T (e0 : c8 Try.prog 57 J5) : p_dring_Center_E.Ok Try.prog := AE.of_ok (all_cons q8 c6) (all_cons ⟨e0, a02⟩ c6)
theorem b7B (hE : p_dring_Center_E.Ok Try.prog) {g : Ds D6 → Option (Rs D6)} (hg : ∀ x r, g x = some r → ∃ N, a4n N x = some r) : c8 Try.prog 50 ⟨D6, D6, g⟩ :=
 i5 (E := p_dring_Center_E) (H := b9i) (L := fun N => LT.nil) (c := b9j) (ks := D6) (rs := a34) (F := a4n) hE mix Try.func50 (by kernel_rfl) (fun N => OkAll.nil) (fun _ _ => by kernel_rfl) hg
noncomputable abbrev a1v : Sig := ⟨[.xs b32 256], [.xs b32 256], a1z⟩
noncomputable def p_dring_Norm_E : AE := AE.of [(21, ty21), (40, ty40)] [(50, a1v)]
noncomputable def b3H : Hints := [(3, [3, 7, 8]), (2000000, [3]), (2000001, [3, 7, 8]), (3000000, [2])]
noncomputable def a7J : Code := (Try.f30).body.getD .skip
noncomputable def b7J : Shape := mkS { tmps := pv 3 (.sc (.int .i32) :: pv 3 (.agg [.xs b32 (some 256)] :: .sc (.int .i64) :: pv 9 [])), mem := [] } [.int, .xs, .int]
abbrev W16 : Type := Int × List Int × Int × Unit
noncomputable def a09 (N : Nat) (β : Type) (x : W16) (kn : W16 → Option β) (ke : ((Int × Unit)) → Option β) : Option β :=
 if (x.2.2.1 < (256:Int)) then
  if 0 ≤ x.2.2.1 then (
  if x.2.2.1 < 256 then (
  if (x.2.2.1.toNat) < 256 then (
  kn ((if (IntKind.i32.wrap (0 - (List.getD x.2.1 (x.2.2.1.toNat) 0))) > (if (List.getD x.2.1 (x.2.2.1.toNat) 0) > x.1 then (List.getD x.2.1 (x.2.2.1.toNat) 0) else x.1) then (IntKind.i32.wrap (0 - (List.getD x.2.1 (x.2.2.1.toNat) 0))) else (if (List.getD x.2.1 (x.2.2.1.toNat) 0) > x.1 then (List.getD x.2.1 (x.2.2.1.toNat) 0) else x.1)), x.2.1, (IntKind.i64.wrap (x.2.2.1 + (1:Int))), ())) else none) else none) else none
 else
  ke (x.1, ())
noncomputable def b5X : Go' ((Int × Unit)) := fun y K => K (.exit 0) (fSt { tmps := pv 3 (.sc (.int .i32) :: pv 14 []), mem := [] } [.int] y)
noncomputable def a8B (N : Nat) : LT := upd (LT.nil) 3 (o6 b7J N (a09 N) b5X)
theorem b5Y (N : Nat) : OkAll p_dring_Norm_E b3H N (a8B N) (w9 a7J) :=
 d6 (c := d7 3 a7J) (OkAll.nil) (by kernel_rfl) (fun x => by kernel_rfl) (fun β x kn ke => by kernel_rfl)
abbrev a0D : List Kd := [.xs b32 256]
abbrev a6h : List Kd := [.int .i32]
noncomputable def a7a (N : Nat) (x : List Int × Unit) : Option (Int) :=
 (a1z (x.1, ())).bind fun r1 => (
 m7 (a09 N) N ((0:Int), r1, (0:Int), ()) fun y2 => (
 some y2.1))
theorem b9o (e0 : c8 Try.prog 50 a1v) : p_dring_Norm_E.Ok Try.prog := AE.of_ok (all_cons u4 (all_cons q8 c6)) (all_cons ⟨e0, a58⟩ c6)
theorem c1o (hE : p_dring_Norm_E.Ok Try.prog) {g : Ds a0D → Option (Rs [.int .i32])} (hg : ∀ x r, g x = some r → ∃ N, a7a N x = some r) : c8 Try.prog 30 ⟨a0D, [.int .i32], g⟩ :=
 i5 (E := p_dring_Norm_E) (H := b3H) (L := fun N => a8B N) (c := a7J) (ks := a0D) (rs := a6h) (F := a7a) hE mix Try.func30 (by kernel_rfl) (fun N => b5Y N) (fun _ _ => by kernel_rfl) hg
noncomputable def p_dring_Add_E : AE := AE.of [(2, ty2), (21, ty21), (40, ty40)] [(45, i7)]
noncomputable def b5Q : Hints := [(2, [2, 3, 4, 6]), (2000000, [2, 4]), (2000001, [2, 3, 4, 6]), (3000000, [4])]
noncomputable def a9w : Code := (Try.f21).body.getD .skip
noncomputable def b9g : Shape := mkS { tmps := V :: V :: .sc (.ptr 0 0 false) :: .sc (.ptr 1 0 false) :: .sc (.ptr 2 0 false) :: V :: .sc (.int .i64) :: pv 16 [], mem := [.live [.xs b32 (some 256)] (.own), .live [.xs b32 (some 256)] (.own), .live [.xs b32 (some 256)] (.own)] } [.int, .xs, .xs, .xs]
noncomputable def a2a (N : Nat) (β : Type) (x : W4) (kn : W4 → Option β) (ke : W5 → Option β) : Option β :=
 if (x.1 < (256:Int)) then
  if 0 ≤ x.1 then (
  if x.1 < 256 then (
  if (x.1.toNat) < 256 then (
  if 0 ≤ x.1 then (
  if x.1 < 256 then (
  if (x.1.toNat) < 256 then (
  (u1 ((IntKind.i64.wrap ((IntKind.i64.wrap (List.getD x.2.1 (x.1.toNat) 0)) + (IntKind.i64.wrap (List.getD x.2.2.1 (x.1.toNat) 0)))), ())).bind fun r1 => (
  if 0 ≤ x.1 then (
  if x.1 < 256 then (
  if (x.1.toNat) < 256 then (
  kn ((IntKind.i64.wrap (x.1 + (1:Int))), (List.set x.2.1 (x.1.toNat) r1), x.2.2.1, x.2.2.2.1, ())) else none) else none) else none)) else none) else none) else none) else none) else none) else none
 else
  ke (x.2.1, x.2.2.2.1, ())
noncomputable def b7z : Go' W5 := fun y K => K (.exit 0) (fSt { tmps := V :: V :: .sc (.ptr 0 0 false) :: V :: .sc (.ptr 1 0 false) :: pv 18 [], mem := [.live [.xs b32 (some 256)] (.own), .live [.xs b32 (some 256)] (.own)] } [.xs, .xs] y)
noncomputable def b0d (N : Nat) : LT := upd (LT.nil) 2 (o6 b9g N (a2a N) b7z)
theorem b7A (N : Nat) : OkAll p_dring_Add_E b5Q N (b0d N) (w9 a9w) :=
 d6 (c := d7 2 a9w) (OkAll.nil) (by kernel_rfl) (fun x => by kernel_rfl) (fun β x kn ke => by kernel_rfl)
abbrev a1C : List Kd := [.xs b32 256, .xs b32 256]
abbrev a1D : List Kd := [.xs b32 256]
noncomputable def a9v (N : Nat) (x : List Int × List Int × Unit) : Option (List Int) :=
 m7 (a2a N) N ((0:Int), x.1, x.2.1, (List.replicate 256 0), ()) fun y2 => (
 some y2.1)
theorem c1h (e0 : c8 Try.prog 45 i7) : p_dring_Add_E.Ok Try.prog := AE.of_ok (all_cons a88 (all_cons u4 (all_cons q8 c6))) (all_cons ⟨e0, o5⟩ c6)
theorem c2r (hE : p_dring_Add_E.Ok Try.prog) {g : Ds a1C → Option (Rs a1D)} (hg : ∀ x r, g x = some r → ∃ N, a9v N x = some r) : c8 Try.prog 21 ⟨a1C, a1D, g⟩ :=
 i5 (E := p_dring_Add_E) (H := b5Q) (L := fun N => b0d N) (c := a9w) (ks := a1C) (rs := a1D) (F := a9v) hE mix Try.func21 (by kernel_rfl) (fun N => b7A N) (fun _ _ => by kernel_rfl) hg
noncomputable def p_dring_Sub_E : AE := AE.of [(2, ty2), (21, ty21), (40, ty40)] [(45, i7)]
noncomputable def b57 : Hints := [(2, [2, 3, 4, 6]), (2000000, [2, 4]), (2000001, [2, 3, 4, 6]), (3000000, [4])]
noncomputable def a9J : Code := (Try.f37).body.getD .skip
noncomputable def b9u : Shape := mkS { tmps := V :: V :: .sc (.ptr 0 0 false) :: .sc (.ptr 1 0 false) :: .sc (.ptr 2 0 false) :: V :: .sc (.int .i64) :: pv 16 [], mem := [.live [.xs b32 (some 256)] (.own), .live [.xs b32 (some 256)] (.own), .live [.xs b32 (some 256)] (.own)] } [.int, .xs, .xs, .xs]
noncomputable def a2d (N : Nat) (β : Type) (x : W4) (kn : W4 → Option β) (ke : W5 → Option β) : Option β :=
 if (x.1 < (256:Int)) then
  if 0 ≤ x.1 then (
  if x.1 < 256 then (
  if (x.1.toNat) < 256 then (
  if 0 ≤ x.1 then (
  if x.1 < 256 then (
  if (x.1.toNat) < 256 then (
  (u1 ((IntKind.i64.wrap ((IntKind.i64.wrap (List.getD x.2.1 (x.1.toNat) 0)) - (IntKind.i64.wrap (List.getD x.2.2.1 (x.1.toNat) 0)))), ())).bind fun r1 => (
  if 0 ≤ x.1 then (
  if x.1 < 256 then (
  if (x.1.toNat) < 256 then (
  kn ((IntKind.i64.wrap (x.1 + (1:Int))), (List.set x.2.1 (x.1.toNat) r1), x.2.2.1, x.2.2.2.1, ())) else none) else none) else none)) else none) else none) else none) else none) else none) else none
 else
  ke (x.2.1, x.2.2.2.1, ())
noncomputable def b7S : Go' W5 := fun y K => K (.exit 0) (fSt { tmps := V :: V :: .sc (.ptr 0 0 false) :: V :: .sc (.ptr 1 0 false) :: pv 18 [], mem := [.live [.xs b32 (some 256)] (.own), .live [.xs b32 (some 256)] (.own)] } [.xs, .xs] y)
noncomputable def b0k (N : Nat) : LT := upd (LT.nil) 2 (o6 b9u N (a2d N) b7S)
theorem b7T (N : Nat) : OkAll p_dring_Sub_E b57 N (b0k N) (w9 a9J) :=
 d6 (c := d7 2 a9J) (OkAll.nil) (by kernel_rfl) (fun x => by kernel_rfl) (fun β x kn ke => by kernel_rfl)
abbrev a1H : List Kd := [.xs b32 256, .xs b32 256]
abbrev a1I : List Kd := [.xs b32 256]
noncomputable def a9I (N : Nat) (x : List Int × List Int × Unit) : Option (List Int) :=
 m7 (a2d N) N ((0:Int), x.1, x.2.1, (List.replicate 256 0), ()) fun y2 => (
 some y2.1)
theorem c1r (e0 : c8 Try.prog 45 i7) : p_dring_Sub_E.Ok Try.prog := AE.of_ok (all_cons a88 (all_cons u4 (all_cons q8 c6))) (all_cons ⟨e0, o5⟩ c6)
theorem c2x (hE : p_dring_Sub_E.Ok Try.prog) {g : Ds a1H → Option (Rs a1I)} (hg : ∀ x r, g x = some r → ∃ N, a9I N x = some r) : c8 Try.prog 37 ⟨a1H, a1I, g⟩ :=
 i5 (E := p_dring_Sub_E) (H := b57) (L := fun N => b0k N) (c := a9J) (ks := a1H) (rs := a1I) (F := a9I) hE mix Try.func37 (by kernel_rfl) (fun N => b7T N) (fun _ _ => by kernel_rfl) hg
noncomputable abbrev D2 : Sig := ⟨[.xs b32 256], [.xs b32 256, .xs b32 256], x3⟩
noncomputable abbrev U3 : Sig := ⟨[.xs b32 256, .xs b32 256], [.xs b32 256], Q0⟩
noncomputable def p_dring_MakeHint_E : AE := AE.of [(4, ty4), (21, ty21), (40, ty40), (76, ty76)] [(53, D2), (21, U3)]
noncomputable def a68 : Hints := [(6, [4, 6, 7, 9, 11, 25]), (2000000, [4, 6, 11]), (2000001, [4, 6, 7, 9, 11, 25]), (3000000, [4, 5])]
noncomputable def a3b : Code := (Try.f55).body.getD .skip
noncomputable def b1B : Shape := mkS { tmps := pv 4 (.sc (.ptr 0 0 false) :: V :: .sc (.ptr 1 0 false) :: .sc (.ptr 2 0 false) :: V :: .sc (.ptr 3 0 false) :: V :: .sc (.int .i64) :: pv 13 (.sc (.int .i64) :: pv 19 [])), mem := [.live [.xs .bool (some 256)] (.own), .live [.xs .bool (some 256)] (.own), .live [.xs b32 (some 256)] (.own), .live [.xs b32 (some 256)] (.own)] } [.int, .int, .xs, .xs, .xs, .xs]
abbrev W17 : Type := Int × Int × List Int × List Int × List Int × List Int × Unit
abbrev W18 : Type := Int × List Int × List Int × Unit
noncomputable def O3 (N : Nat) (β : Type) (x : W17) (kn : W17 → Option β) (ke : W18 → Option β) : Option β :=
 if (x.2.1 < (256:Int)) then
  if 0 ≤ x.2.1 then (
  if x.2.1 < 256 then (
  if (x.2.1.toNat) < 256 then (
  if 0 ≤ x.2.1 then (
  if x.2.1 < 256 then (
  if (x.2.1.toNat) < 256 then (
  if 0 ≤ x.2.1 then (
  if x.2.1 < 256 then (
  if (x.2.1.toNat) < 256 then (
  if 0 ≤ x.2.1 then (
  if x.2.1 < 256 then (
  if (x.2.1.toNat) < 256 then (
  if ((List.getD (List.set x.2.2.2.1 (x.2.1.toNat) (if ((List.getD x.2.2.2.2.1 (x.2.1.toNat) 0) ≠ (List.getD x.2.2.2.2.2.1 (x.2.1.toNat) 0)) then (1:Int) else 0)) (x.2.1.toNat) 0) ≠ 0) then
   kn ((IntKind.i64.wrap (x.1 + (1:Int))), (IntKind.i64.wrap (x.2.1 + (1:Int))), x.2.2.1, (List.set x.2.2.2.1 (x.2.1.toNat) (if ((List.getD x.2.2.2.2.1 (x.2.1.toNat) 0) ≠ (List.getD x.2.2.2.2.2.1 (x.2.1.toNat) 0)) then (1:Int) else 0)), x.2.2.2.2.1, x.2.2.2.2.2.1, ())
  else
   kn (x.1, (IntKind.i64.wrap (x.2.1 + (1:Int))), x.2.2.1, (List.set x.2.2.2.1 (x.2.1.toNat) (if ((List.getD x.2.2.2.2.1 (x.2.1.toNat) 0) ≠ (List.getD x.2.2.2.2.2.1 (x.2.1.toNat) 0)) then (1:Int) else 0)), x.2.2.2.2.1, x.2.2.2.2.2.1, ())) else none) else none) else none) else none) else none) else none) else none) else none) else none) else none) else none) else none
 else
  ke (x.1, x.2.2.1, x.2.2.2.1, ())
noncomputable def b0D : Go' W18 := fun y K => K (.exit 0) (fSt { tmps := pv 4 (.sc (.ptr 0 0 false) :: V :: .sc (.ptr 1 0 false) :: pv 4 (.sc (.int .i64) :: pv 33 [])), mem := [.live [.xs .bool (some 256)] (.own), .live [.xs .bool (some 256)] (.own)] } [.int, .xs, .xs] y)
noncomputable def a4O (N : Nat) : LT := upd (LT.nil) 6 (o6 b1B N (O3 N) b0D)
theorem b0E (N : Nat) : OkAll p_dring_MakeHint_E a68 N (a4O N) (w9 a3b) :=
 d6 (c := d7 6 a3b) (OkAll.nil) (by kernel_rfl) (fun x => by kernel_rfl) (fun β x kn ke => by kernel_rfl)
abbrev K0 : List Kd := [.xs b32 256, .xs b32 256]
abbrev K3 : List Kd := [.xs .bool 256, .int .i64]
noncomputable def a2b (N : Nat) (x : List Int × List Int × Unit) : Option (List Int × Int) :=
 (x3 (x.2.1, ())).bind fun r1 => (
 (Q0 (x.2.1, x.1, ())).bind fun r2 => (
 (x3 (r2, ())).bind fun r3 => (
 m7 (O3 N) N ((0:Int), (0:Int), (List.replicate 256 0), (List.replicate 256 0), r1.1, r3.1, ()) fun y4 => (
 some (y4.2.2.1, y4.1)))))
theorem b2Q (e0 : c8 Try.prog 53 D2) (e1 : c8 Try.prog 21 U3) : p_dring_MakeHint_E.Ok Try.prog := AE.of_ok (all_cons c3B (all_cons u4 (all_cons q8 (all_cons b8x c6)))) (all_cons ⟨e0, a0a⟩ (all_cons ⟨e1, a1X⟩ c6))
theorem b4i (hE : p_dring_MakeHint_E.Ok Try.prog) {g : Ds K0 → Option (Rs K3)} (hg : ∀ x r, g x = some r → ∃ N, a2b N x = some r) : c8 Try.prog 55 ⟨K0, K3, g⟩ :=
 i5 (E := p_dring_MakeHint_E) (H := a68) (L := fun N => a4O N) (c := a3b) (ks := K0) (rs := K3) (F := a2b) hE mix Try.func55 (by kernel_rfl) (fun N => b0E N) (fun _ _ => by kernel_rfl) hg
noncomputable def p_dring_UseHint_E : AE := AE.of [(4, ty4), (21, ty21), (40, ty40), (76, ty76)] [(53, D2)]
noncomputable def a8K : Hints := [(3, [4, 5, 6, 14, 15]), (2000000, [4, 5]), (2000001, [4, 5, 6, 14, 15]), (2000002, [4, 5, 6, 14, 15]), (3000000, [4])]
noncomputable def a36 : Code := (Try.f39).body.getD .skip
noncomputable def b29 : Shape := mkS { tmps := pv 4 (.sc (.ptr 0 0 false) :: .sc (.ptr 1 0 false) :: .sc (.ptr 2 0 false) :: pv 7 (.agg [.xs .bool (some 256)] :: .sc (.int .i64) :: pv 30 [])), mem := [.live [.xs b32 (some 256)] (.own), .live [.xs b32 (some 256)] (.own), .live [.xs b32 (some 256)] (.own)] } [.xs, .int, .xs, .xs, .xs]
noncomputable def R1 (N : Nat) (β : Type) (x : W6) (kn : W6 → Option β) (ke : W5 → Option β) : Option β :=
 if (x.2.1 < (256:Int)) then
  if 0 ≤ x.2.1 then (
  if x.2.1 < 256 then (
  if (x.2.1.toNat) < 256 then (
  if ((List.getD x.1 (x.2.1.toNat) 0) ≠ 0) then
   if 0 ≤ x.2.1 then (
   if x.2.1 < 256 then (
   if (x.2.1.toNat) < 256 then (
   if ((List.getD x.2.2.2.2.1 (x.2.1.toNat) 0) > (0:Int)) then
    if 0 ≤ x.2.1 then (
    if x.2.1 < 256 then (
    if (x.2.1.toNat) < 256 then (
    if 0 ≤ x.2.1 then (
    if x.2.1 < 256 then (
    if (x.2.1.toNat) < 256 then (
    kn (x.1, (IntKind.i64.wrap (x.2.1 + (1:Int))), x.2.2.1, (List.set x.2.2.2.1 (x.2.1.toNat) (Int.tmod (IntKind.i32.wrap ((List.getD x.2.2.2.1 (x.2.1.toNat) 0) + (1:Int))) (16:Int))), x.2.2.2.2.1, ())) else none) else none) else none) else none) else none) else none
   else
    if ((List.getD x.1 (x.2.1.toNat) 0) ≠ 0) then
     if 0 ≤ x.2.1 then (
     if x.2.1 < 256 then (
     if (x.2.1.toNat) < 256 then (
     if 0 ≤ x.2.1 then (
     if x.2.1 < 256 then (
     if (x.2.1.toNat) < 256 then (
     kn (x.1, (IntKind.i64.wrap (x.2.1 + (1:Int))), x.2.2.1, (List.set x.2.2.2.1 (x.2.1.toNat) (Int.tmod (IntKind.i32.wrap ((IntKind.i32.wrap ((List.getD x.2.2.2.1 (x.2.1.toNat) 0) + (16:Int))) - (1:Int))) (16:Int))), x.2.2.2.2.1, ())) else none) else none) else none) else none) else none) else none
    else
     kn (x.1, (IntKind.i64.wrap (x.2.1 + (1:Int))), x.2.2.1, x.2.2.2.1, x.2.2.2.2.1, ())) else none) else none) else none
  else
   if ((List.getD x.1 (x.2.1.toNat) 0) ≠ 0) then
    if 0 ≤ x.2.1 then (
    if x.2.1 < 256 then (
    if (x.2.1.toNat) < 256 then (
    if 0 ≤ x.2.1 then (
    if x.2.1 < 256 then (
    if (x.2.1.toNat) < 256 then (
    kn (x.1, (IntKind.i64.wrap (x.2.1 + (1:Int))), x.2.2.1, (List.set x.2.2.2.1 (x.2.1.toNat) (Int.tmod (IntKind.i32.wrap ((IntKind.i32.wrap ((List.getD x.2.2.2.1 (x.2.1.toNat) 0) + (16:Int))) - (1:Int))) (16:Int))), x.2.2.2.2.1, ())) else none) else none) else none) else none) else none) else none
   else
    kn (x.1, (IntKind.i64.wrap (x.2.1 + (1:Int))), x.2.2.1, x.2.2.2.1, x.2.2.2.2.1, ())) else none) else none) else none
 else
  ke (x.2.2.1, x.2.2.2.1, ())
noncomputable def b1G : Go' W5 := fun y K => K (.exit 0) (fSt { tmps := pv 4 (.sc (.ptr 0 0 false) :: .sc (.ptr 1 0 false) :: pv 40 []), mem := [.live [.xs b32 (some 256)] (.own), .live [.xs b32 (some 256)] (.own)] } [.xs, .xs] y)
noncomputable def a5r (N : Nat) : LT := upd (LT.nil) 3 (o6 b29 N (R1 N) b1G)
theorem b1H (N : Nat) : OkAll p_dring_UseHint_E a8K N (a5r N) (w9 a36) :=
 d6 (c := d7 3 a36) (OkAll.nil) (by kernel_rfl) (fun x => by kernel_rfl) (fun β x kn ke => by kernel_rfl)
abbrev O5 : List Kd := [.xs .bool 256, .xs b32 256]
abbrev O6 : List Kd := [.xs b32 256]
noncomputable def a3e (N : Nat) (x : List Int × List Int × Unit) : Option (List Int) :=
 (x3 (x.2.1, ())).bind fun r1 => (
 m7 (R1 N) N (x.1, (0:Int), (List.replicate 256 0), r1.1, r1.2, ()) fun y2 => (
 some y2.2.1))
theorem b4p (e0 : c8 Try.prog 53 D2) : p_dring_UseHint_E.Ok Try.prog := AE.of_ok (all_cons c3B (all_cons u4 (all_cons q8 (all_cons b8x c6)))) (all_cons ⟨e0, a0a⟩ c6)
theorem b59 (hE : p_dring_UseHint_E.Ok Try.prog) {g : Ds O5 → Option (Rs O6)} (hg : ∀ x r, g x = some r → ∃ N, a3e N x = some r) : c8 Try.prog 39 ⟨O5, O6, g⟩ :=
 i5 (E := p_dring_UseHint_E) (H := a8K) (L := fun N => a5r N) (c := a36) (ks := O5) (rs := O6) (F := a3e) hE mix Try.func39 (by kernel_rfl) (fun N => b1H N) (fun _ _ => by kernel_rfl) hg
end Go.Ax.TryP
set_option linter.unusedVariables false
namespace Go.Ax.TryP
open Go.Proofs
theorem b97 {a : List Int} : a42 [.xs (.int .i32) 256] (a, ()) ↔ E5 256 a := by simp [a42, v8]
theorem b1p {a : List Int} (h : E5 256 a) (i : Nat) : -2147483648 ≤ a.getD i 0 ∧ a.getD i 0 ≤ 2147483647 := rows.at h (by omega) i
theorem c8W (a : List Int) : rows 0 8380416 256 (B8 a) := rows.range fun i _ => by omega
theorem c30 (a : List Int) (i : Nat) : 0 ≤ (B8 a).getD i 0 ∧ (B8 a).getD i 0 ≤ 8380416 := rows.at (c8W a) (by omega) i
theorem b2w {a : List Int} {i : Nat} (hi : i < 256) : (B8 a).getD i 0 = a.getD i 0 % 8380417 := i9 hi
theorem c4v : ∀ x r, u1 x = some r → ∃ N, a5I N x = some r := by
 refine d9 (ks := a5h) (rs := a5i) fun x hw _ => ⟨0, ?_⟩
 obtain ⟨(z : Int), u⟩ := x
 have h := d4y (a := z) (b := 8380417) (by omega)
 have h1 := Int.emod_nonneg z (show (8380417 : Int) ≠ 0 by omega)
 have h2 := Int.emod_lt_of_pos z (show (0 : Int) < 8380417 by omega)
 unfold a5I
 simp only at h ⊢
 split
 ·rename_i hlt
  rw [if_pos hlt] at h
  rw [h, c7 (by omega) (by omega), M4 (by omega) (by omega)]
 ·rename_i hlt
  rw [if_neg hlt] at h
  rw [h, M4 (by omega) (by omega)]
theorem a5z {z : Int} (h1 : -9223372036854775808 ≤ z) (h2 : z ≤ 9223372036854775807) : u1 (z, ()) = some (z % 8380417) :=
 d8 (ks := a5h) (rs := a5i) (x := (z, ())) ⟨u2.2 ⟨h1, h2⟩, trivial⟩ trivial
theorem b9S : ∀ x r, a1Y x = some r → ∃ N, a2c N x = some r := by
 refine d9 (ks := a2x) (rs := a2y) fun x hw _ => ⟨0, ?_⟩
 obtain ⟨(z : Int), u⟩ := x
 have hz := s9.1 hw.1
 simp only at hz
 unfold a2c
 simp only
 rw [c7 (by omega) (by omega), a5z (by omega) (by omega)]
 rfl
theorem c60 {z : Int} (h1 : -2147483648 ≤ z) (h2 : z ≤ 2147483647) : a1Y (z, ()) = some (z % 8380417) :=
 d8 (ks := a2x) (rs := a2y) (x := (z, ())) ⟨s9.2 ⟨h1, h2⟩, trivial⟩ trivial
theorem a5O : ∀ x r, z8 x = some r → ∃ N, z9 N x = some r := by
 refine d9 (ks := l9) (rs := m5) fun x hw _ => ⟨257, ?_⟩
 obtain ⟨(a : List Int), u, u'⟩ := x
 have ha : E5 256 a := v8.1 hw.1
 have hl := ha.1
 unfold z9
 refine (J0 (s := fun i => (a, (i : Int), part (fun i => a.getD i 0 % 8380417) i a, List.replicate 256 0, ())) (y := (B8 a, List.replicate 256 0, ())) 256 ?_ ?_ 257 (by omega)).trans ?_
 ·intro i hi kn
  have h0 := b1p ha i
  unfold o9
  simp (disch := omega) only [if_pos, c7, Int.toNat_natCast, c60, Option.bind_some]
  rw [u3 (by omega) rfl, Int.natCast_add]
  rfl
 ·intro kn
  unfold o9
  simp (disch := omega) only [if_neg]
  rw [B7 hl]
  rfl
 ·rfl
theorem c2Q : ∀ x r, Q1 x = some r → ∃ N, a4p N x = some r := by
 refine d9 (ks := D7) (rs := a35) fun x hw _ => ⟨0, ?_⟩
 obtain ⟨(a : List Int), u⟩ := x
 unfold a4p
 have h : z8 (a, (), ()) = some (B8 a) := d8 (ks := l9) (rs := m5) (x := (a, (), ())) ⟨hw.1, trivial, trivial⟩ trivial
 simp only
 rw [h]
 rfl
theorem b5l {a : List Int} (h : E5 256 a) : Q1 (a, ()) = some (B8 a) :=
 d8 (ks := D7) (rs := a35) (x := (a, ())) (b97.2 h) trivial
theorem c6i : ∀ x r, a4L x = some r → ∃ N, a7d N x = some r := by
 refine d9 (ks := a0K) (rs := a6l) fun x hw hq => ⟨0, ?_⟩
 obtain ⟨(z : Int), (m : Int), u⟩ := x
 obtain ⟨h1, h2, h3, h4⟩ : 0 ≤ z ∧ z ≤ 8380416 ∧ 0 < m ∧ m ≤ 523776 := hq
 have e1 := Int.emod_nonneg z (show m ≠ 0 by omega)
 have e2 := Int.emod_lt_of_pos z h3
 unfold a7d b2O
 simp only [a96 h1, a95 (show (0 : Int) ≤ m by omega)]
 rw [if_neg (by omega), M4 (x := m / 2) (by omega) (by omega)]
 split
 ·rw [M4 (by omega) (by omega)]
 ·rfl
theorem d1d {z m : Int} (h1 : 0 ≤ z) (h2 : z ≤ 8380416) (h3 : 0 < m) (h4 : m ≤ 523776) : a4L (z, m, ()) = some (b2O z m) :=
 d8 (ks := a0K) (rs := a6l) (x := (z, m, ())) ⟨s9.2 ⟨by omega, by omega⟩, s9.2 ⟨show -2147483648 ≤ m by omega, show m ≤ 2147483647 by omega⟩, trivial⟩ ⟨h1, h2, h3, h4⟩
theorem c0S {z m : Int} (hz : 0 ≤ z) (h3 : 0 < m) : b2O z m ≤ m / 2 ∧ 2 * b2O z m ≥ -m ∧ b2O z m ≤ z ∧ z - b2O z m ≤ z + m := by
 have e1 := Int.emod_nonneg z (show m ≠ 0 by omega)
 have e2 := Int.emod_lt_of_pos z h3
 have e3 : z % m ≤ z := by
  have := Int.mul_ediv_add_emod z m
  have := Int.mul_nonneg (show 0 ≤ m by omega) (Int.ediv_nonneg hz (show 0 ≤ m by omega))
  omega
 unfold b2O
 split <;> omega
theorem c4w : ∀ x r, a5C x = some r → ∃ N, a5K N x = some r := by
 refine d9 (ks := a5k) (rs := Y4) fun x hw _ => ⟨0, ?_⟩
 obtain ⟨(z : Int), u⟩ := x
 have hz := s9.1 hw.1
 simp only at hz
 have h1 : 0 ≤ z % 8380417 ∧ z % 8380417 ≤ 8380416 := by omega
 have hb := c0S (z := z % 8380417) (m := 523776) (by omega) (by omega)
 unfold a5K fDh fDl d45
 simp (disch := omega) only [c7, a5z, d1d, Option.bind_some, M4]
 generalize b2O (z % 8380417) 523776 = y at hb
 generalize z % 8380417 = x at h1 hb
 rw [a95 (by omega), M4 (x := (x - y) / 523776) (by omega) (by omega)]
 split <;> rfl
theorem d3x {z : Int} (h1 : -2147483648 ≤ z) (h2 : z ≤ 2147483647) : a5C (z, ()) = some (fDh z, fDl z) :=
 d8 (ks := a5k) (rs := Y4) (x := (z, ())) ⟨s9.2 ⟨h1, h2⟩, trivial⟩ trivial
theorem d30 {x d : Int} (h : 0 ≤ d) (h1 : d ≤ 31) : b9c .i32 x d = x / 2 ^ d.toNat := by
 unfold b9c
 rw [show min d.toNat IntKind.i32.bits = d.toNat by simp [IntKind.bits]; omega]
 exact Int.fdiv_eq_ediv_of_nonneg _ (Int.le_of_lt (Int.pow_pos (by omega)))
theorem b43 : ∀ x r, U7 x = some r → ∃ N, V2 N x = some r := by
 refine d9 (ks := C4) (rs := C5) fun x hw _ => ⟨257, ?_⟩
 obtain ⟨(a : List Int), u⟩ := x
 have ha := b97.1 hw
 have hl := ha.1
 unfold V2
 have hz : (List.replicate 256 (0 : Int)).length = 256 := List.length_replicate ..
 generalize List.replicate 256 (0 : Int) = Z at hz ⊢
 simp only [b5l ha, Option.bind_some]
 refine (J0 (s := fun i => (B8 a, (i : Int), part (fun i => fPh (a.getD i 0)) i (Z), part (fun i => fPl (a.getD i 0)) i (Z), ())) (y := (p9 fun i => fPh (a.getD i 0), p9 fun i => fPl (a.getD i 0), ())) 256 ?_ ?_ 257 (by omega)).trans ?_
 ·intro i hi kn
  have h0 := c30 a i
  have hb := c0S (z := a.getD i 0 % 8380417) (m := 8192) (by omega) (by omega)
  have hp : ∀ h : Nat → Int, (part h i (Z)).length = 256 := fun h => by rw [a9X (by omega), hz]
  have hp1 := hp (fun i => fPh (a.getD i 0))
  have hp2 := hp (fun i => fPl (a.getD i 0))
  unfold G2
  simp (disch := omega) only [if_pos, c7, Int.toNat_natCast, d1d, Option.bind_some, a2t, b2w, M4, d30]
  rw [u3 (h := fun i => fPh (a.getD i 0)) (by omega) (by simp only [fPh, fPl]; rfl), u3 (h := fun i => fPl (a.getD i 0)) (z := b2O (a.getD i 0 % 8380417) 8192) (by omega) rfl, Int.natCast_add]
  rfl
 ·intro kn
  unfold G2
  simp (disch := omega) only [if_neg]
  rw [B7 hz, B7 hz]
  rfl
 ·rfl
theorem b8j : ∀ x r, x3 x = some r → ∃ N, a08 N x = some r := by
 refine d9 (ks := H3) (rs := H4) fun x hw _ => ⟨257, ?_⟩
 obtain ⟨(a : List Int), u⟩ := x
 have ha := b97.1 hw
 have hl := ha.1
 unfold a08
 have hz : (List.replicate 256 (0 : Int)).length = 256 := List.length_replicate ..
 generalize List.replicate 256 (0 : Int) = Z at hz ⊢
 refine (J0 (s := fun i => (a, (i : Int), part (fun i => fDh (a.getD i 0)) i (Z), part (fun i => fDl (a.getD i 0)) i (Z), ())) (y := (p9 fun i => fDh (a.getD i 0), p9 fun i => fDl (a.getD i 0), ())) 256 ?_ ?_ 257 (by omega)).trans ?_
 ·intro i hi kn
  have h0 := b1p ha i
  unfold M3
  simp (disch := omega) only [if_pos, c7, Int.toNat_natCast, d3x, Option.bind_some]
  rw [u3 (h := fun i => fDh (a.getD i 0)) (by omega) rfl, u3 (h := fun i => fDl (a.getD i 0)) (by omega) rfl, Int.natCast_add]
  rfl
 ·intro kn
  unfold M3
  simp (disch := omega) only [if_neg]
  rw [B7 hz, B7 hz]
  rfl
 ·rfl
theorem d7i {a : List Int} (h : E5 256 a) : U7 (a, ()) = some (c31 a) :=
 d8 (ks := C4) (rs := C5) (x := (a, ())) (b97.2 h) trivial
theorem c5d {a : List Int} (h : E5 256 a) : x3 (a, ()) = some (b5h a) :=
 d8 (ks := H3) (rs := H4) (x := (a, ())) (b97.2 h) trivial
theorem d78 : (List.replicate 256 (0 : Int)).length = 256 := List.length_replicate ..
theorem d8T {n : Nat} {a : List Int} : Kd.wf (.xs .bool n) a ↔ a.length = n ∧ ∀ z ∈ a, z = 0 ∨ z = 1 := by simp [Kd.wf]
theorem c24 {a b : List Int} : a42 [.xs (.int .i32) 256, .xs (.int .i32) 256] (a, b, ()) ↔ E5 256 a ∧ E5 256 b := by simp [a42, v8]
theorem d1K (z : Int) : -4190208 ≤ c2m z ∧ c2m z ≤ 4190208 := by unfold c2m; split <;> omega
theorem b2v {a : List Int} {i : Nat} (hi : i < 256) : (b35 a).getD i 0 = c2m (a.getD i 0) := i9 hi
theorem c1S : ∀ x r, a2Z x = some r → ∃ N, a3f N x = some r := by
 refine d9 (ks := a3g) (rs := a3h) fun x hw _ => ⟨0, ?_⟩
 obtain ⟨(z : Int), u⟩ := x
 have hz := s9.1 hw.1
 simp only at hz
 have h1 : 0 ≤ z % 8380417 ∧ z % 8380417 ≤ 8380416 := by omega
 unfold a3f c2m
 simp (disch := omega) only [c7, a5z, Option.bind_some, M4]
 split <;> rfl
theorem c9O {z : Int} (h1 : -2147483648 ≤ z) (h2 : z ≤ 2147483647) : a2Z (z, ()) = some (c2m z) :=
 d8 (ks := a3g) (rs := a3h) (x := (z, ())) ⟨s9.2 ⟨h1, h2⟩, trivial⟩ trivial
theorem a6G : ∀ x r, A6 x = some r → ∃ N, A8 N x = some r := by
 refine d9 (ks := m9) (rs := n6) fun x hw _ => ⟨257, ?_⟩
 obtain ⟨(a : List Int), u, u'⟩ := x
 have ha : E5 256 a := v8.1 hw.1
 have hl := ha.1
 unfold A8
 refine (J0 (s := fun i => (a, (i : Int), part (fun i => c2m (a.getD i 0)) i a, List.replicate 256 0, ())) (y := (b35 a, List.replicate 256 0, ())) 256 ?_ ?_ 257 (by omega)).trans ?_
 ·intro i hi kn
  have h0 := b1p ha i
  unfold s8
  simp (disch := omega) only [if_pos, c7, Int.toNat_natCast, c9O, Option.bind_some]
  rw [u3 (by omega) rfl, Int.natCast_add]
  rfl
 ·intro kn
  unfold s8
  simp (disch := omega) only [if_neg]
  rw [B7 hl]
  rfl
 ·rfl
theorem c2O : ∀ x r, a1z x = some r → ∃ N, a4n N x = some r := by
 refine d9 (ks := D6) (rs := a34) fun x hw _ => ⟨0, ?_⟩
 obtain ⟨(a : List Int), u⟩ := x
 unfold a4n
 have h : A6 (a, (), ()) = some (b35 a) := d8 (ks := m9) (rs := n6) (x := (a, (), ())) ⟨hw.1, trivial, trivial⟩ trivial
 simp only
 rw [h]
 rfl
theorem c5c {a : List Int} (h : E5 256 a) : a1z (a, ()) = some (b35 a) :=
 d8 (ks := D6) (rs := a34) (x := (a, ())) (b97.2 h) trivial
theorem d0q (a : List Int) : b7u a 0 = 0 := by unfold b7u; rfl
theorem b7v (a : List Int) (n : Nat) : b7u a (n + 1) = if d1Z (c2m (a.getD n 0)) > b7u a n then d1Z (c2m (a.getD n 0)) else b7u a n := by
 unfold b7u
 rw [List.range_succ, List.foldl_append]
 rfl
theorem d6j (a : List Int) (n : Nat) : 0 ≤ b7u a n ∧ b7u a n ≤ 4190208 := by
 induction n with
 | zero => unfold b7u; exact ⟨Int.le_refl 0, (by decide : (0 : Int) ≤ 4190208)⟩
 | succ n ih =>
  rw [b7v]
  have := d1K (a.getD n 0)
  unfold d1Z
  split <;> split <;> omega
theorem c9f {a : List Int} {m : Int} (h0 : 0 ≤ m) {n : Nat} : b7u a n ≤ m ↔ ∀ i, i < n → d1Z (c2m (a.getD i 0)) ≤ m := by
 induction n with
 | zero => exact ⟨fun _ i hi => by omega, fun _ => by unfold b7u; exact h0⟩
 | succ n ih =>
  rw [b7v]
  constructor
  ·intro h i hi
   by_cases e : i = n
   ·subst e; split at h <;> omega
   ·refine ih.1 ?_ i (by omega)
    split at h <;> omega
  ·intro h
   have h1 := ih.2 fun i hi => h i (by omega)
   have h2 := h n (by omega)
   split <;> omega
theorem c6f : ∀ x r, T8 x = some r → ∃ N, a7a N x = some r := by
 refine d9 (ks := a0D) (rs := a6h) fun x hw _ => ⟨257, ?_⟩
 obtain ⟨(a : List Int), u⟩ := x
 have ha := b97.1 hw
 unfold a7a
 simp only [c5c ha, Option.bind_some]
 refine (i8 (s := fun i => (b7u a i, b35 a, (i : Int), ())) (y := (a1r a, ())) 256 (by rw [d0q]; rfl) ?_ ?_ 257 (by omega)).trans ?_
 ·intro i hi kn
  have hb := d6j a i
  have hc := d1K (a.getD i 0)
  unfold a09
  simp (disch := omega) only [if_pos, c7, Int.toNat_natCast, b2v, M4]
  rw [b7v, Int.natCast_add]
  unfold d1Z
  congr 2
  split <;> split <;> split <;> (try split) <;> omega
 ·intro kn
  unfold a09
  simp (disch := omega) only [if_neg]
  rfl
 ·rfl
theorem c0p {a : List Int} (h : E5 256 a) : T8 (a, ()) = some (a1r a) :=
 d8 (ks := a0D) (rs := a6h) (x := (a, ())) (b97.2 h) trivial
theorem c7Q : ∀ x r, Q0 x = some r → ∃ N, a9v N x = some r := by
 refine d9 (ks := a1C) (rs := a1D) fun x hw _ => ⟨257, ?_⟩
 obtain ⟨(a : List Int), (b : List Int), u⟩ := x
 obtain ⟨ha, hb⟩ := c24.1 hw
 have hl := ha.1
 unfold a9v
 refine (J0 (s := fun i => ((i : Int), part (fun i => (a.getD i 0 + b.getD i 0) % 8380417) i a, b, List.replicate 256 0, ())) (y := (b0x a b, List.replicate 256 0, ())) 256 ?_ ?_ 257 (by omega)).trans ?_
 ·intro i hi kn
  have h0 := b1p ha i
  have h1 := b1p hb i
  unfold a2a
  simp (disch := omega) only [if_pos, c7, Int.toNat_natCast, a4w, a5z, Option.bind_some]
  rw [u3 (by omega) rfl, Int.natCast_add]
  rfl
 ·intro kn
  unfold a2a
  simp (disch := omega) only [if_neg]
  rw [B7 hl]
  rfl
 ·rfl
theorem c7U : ∀ x r, a0v x = some r → ∃ N, a9I N x = some r := by
 refine d9 (ks := a1H) (rs := a1I) fun x hw _ => ⟨257, ?_⟩
 obtain ⟨(a : List Int), (b : List Int), u⟩ := x
 obtain ⟨ha, hb⟩ := c24.1 hw
 have hl := ha.1
 unfold a9I
 refine (J0 (s := fun i => ((i : Int), part (fun i => (a.getD i 0 - b.getD i 0) % 8380417) i a, b, List.replicate 256 0, ())) (y := (b5x a b, List.replicate 256 0, ())) 256 ?_ ?_ 257 (by omega)).trans ?_
 ·intro i hi kn
  have h0 := b1p ha i
  have h1 := b1p hb i
  unfold a2d
  simp (disch := omega) only [if_pos, c7, Int.toNat_natCast, a4w, a5z, Option.bind_some]
  rw [u3 (by omega) rfl, Int.natCast_add]
  rfl
 ·intro kn
  unfold a2d
  simp (disch := omega) only [if_neg]
  rw [B7 hl]
  rfl
 ·rfl
theorem b1m (a b : List Int) : E5 256 (b0x a b) := rows.range fun i _ => by omega
theorem c0R (a b : List Int) : E5 256 (b5x a b) := rows.range fun i _ => by omega
theorem c98 {a b : List Int} {i : Nat} (hi : i < 256) : (b0x a b).getD i 0 = (a.getD i 0 + b.getD i 0) % 8380417 := i9 hi
theorem c5b {a b : List Int} (h : E5 256 a) (h' : E5 256 b) : Q0 (a, b, ()) = some (b0x a b) :=
 d8 (ks := a1C) (rs := a1D) (x := (a, b, ())) (c24.2 ⟨h, h'⟩) trivial
theorem c5u (h : Nat → Int) : c7a h 0 = 0 := by unfold c7a; rfl
theorem c0B (h : Nat → Int) (n : Nat) : c7a h (n + 1) = if h n ≠ 0 then c7a h n + 1 else c7a h n := by
 unfold c7a
 rw [List.range_succ, List.foldl_append]
 rfl
theorem d40 (h : Nat → Int) (n : Nat) : 0 ≤ c7a h n ∧ c7a h n ≤ n := by
 induction n with
 | zero => unfold c7a; exact ⟨Int.le_refl 0, Int.le_refl 0⟩
 | succ n ih =>
  rw [c0B]
  split <;> omega
theorem d1Y (z r : List Int) (i : Nat) : a25 z r i = 0 ∨ a25 z r i = 1 := by unfold a25; split <;> simp
theorem b9Q : ∀ x r, X6 x = some r → ∃ N, a2b N x = some r := by
 refine d9 (ks := K0) (rs := K3) fun x hw _ => ⟨257, ?_⟩
 obtain ⟨(z : List Int), (r : List Int), u⟩ := x
 obtain ⟨hz, hr⟩ := c24.1 hw
 unfold a2b
 simp only [c5d hr, c5b hr hz, c5d (b1m r z), Option.bind_some]
 have hZ := d78
 generalize List.replicate 256 (0 : Int) = Z at hZ ⊢
 refine (i8 (s := fun i => (c7a (a25 z r) i, (i : Int), Z, part (a25 z r) i Z, (b5h r).1, (b5h (b0x r z)).1, ())) (y := (c7a (a25 z r) 256, Z, p9 (a25 z r), ())) 256 (by rw [c5u]; rfl) ?_ ?_ 257 (by omega)).trans ?_
 ·intro i hi kn
  have hb := d40 (a25 z r) i
  have g1 : (i : Int) < 256 := by omega
  have g0 : (0 : Int) ≤ i := by omega
  have e1 : (b5h r).1.getD i 0 = fDh (r.getD i 0) := by rw [show (b5h r).1 = p9 fun i => fDh (r.getD i 0) from rfl, i9 hi]
  have e2 : (b5h (b0x r z)).1.getD i 0 = fDh ((r.getD i 0 + z.getD i 0) % 8380417) := by
   rw [show (b5h (b0x r z)).1 = p9 fun i => fDh ((b0x r z).getD i 0) from rfl, i9 hi, c98 hi]
  have hpl : (part (a25 z r) i Z).length = 256 := by rw [a9X (by omega), hZ]
  have e3 : (part (a25 z r) i Z).set i (if fDh (r.getD i 0) ≠ fDh ((r.getD i 0 + z.getD i 0) % 8380417) then (1 : Int) else 0) = part (a25 z r) (i + 1) Z := u3 (by omega) rfl
  have e4 : (part (a25 z r) (i + 1) Z).getD i 0 = a25 z r i := b8M (by omega)
  unfold O3
  simp only [g1, g0, hi, if_true, Int.toNat_natCast, e1, e2, e3, e4]
  simp (disch := omega) only [c7]
  rw [c0B, Int.natCast_add]
  split <;> rfl
 ·intro kn
  unfold O3
  simp (disch := omega) only [if_neg]
  rw [B7 hZ]
  rfl
 ·rfl
theorem d8v {h r : List Int} : a42 [.xs .bool 256, .xs (.int .i32) 256] (h, r, ()) ↔ (h.length = 256 ∧ ∀ z ∈ h, z = 0 ∨ z = 1) ∧ E5 256 r := by simp only [a42, v8, d8T, and_true]
theorem d1N (z : Int) : 0 ≤ fDh z ∧ fDh z ≤ 15 := by
 unfold fDh d45 b2O
 split <;> split at * <;> omega
theorem d80 (z : Int) : -261888 ≤ fDl z ∧ fDl z ≤ 261888 := by
 unfold fDl d45 b2O
 split <;> split at * <;> omega
theorem c1R : ∀ x r, a0w x = some r → ∃ N, a3e N x = some r := by
 refine d9 (ks := O5) (rs := O6) fun x hw _ => ⟨257, ?_⟩
 obtain ⟨(h : List Int), (r : List Int), u⟩ := x
 obtain ⟨hh, hr⟩ := d8v.1 hw
 unfold a3e
 simp only [c5d hr, Option.bind_some]
 have hlen : (b5h r).1.length = 256 := a1y _
 refine (J0 (s := fun i => (h, (i : Int), List.replicate 256 0, part (fun i => b61 (h.getD i 0) (r.getD i 0)) i (b5h r).1, (b5h r).2, ())) (y := (List.replicate 256 0, d53 h r, ())) 256 ?_ ?_ 257 (by omega)).trans ?_
 ·intro i hi kn
  have g1 : (i : Int) < 256 := by omega
  have g0 : (0 : Int) ≤ i := by omega
  have e1 : (b5h r).1.getD i 0 = fDh (r.getD i 0) := by rw [show (b5h r).1 = p9 fun i => fDh (r.getD i 0) from rfl, i9 hi]
  have e2 : (b5h r).2.getD i 0 = fDl (r.getD i 0) := by rw [show (b5h r).2 = p9 fun i => fDl (r.getD i 0) from rfl, i9 hi]
  have hb := d1N (r.getD i 0)
  have hpl : (part (fun i => b61 (h.getD i 0) (r.getD i 0)) i (b5h r).1).length = 256 := by rw [a9X (by omega)]; exact hlen
  unfold R1
  simp only [g1, g0, hi, if_true, Int.toNat_natCast, a4w, e1, e2]
  simp (disch := omega) only [c7, M4, a96]
  by_cases hz : h.getD i 0 = 0
  ·have e5 : part (fun i => b61 (h.getD i 0) (r.getD i 0)) (i + 1) (b5h r).1 = part (fun i => b61 (h.getD i 0) (r.getD i 0)) i (b5h r).1 := by
    rw [← u3 (h := fun i => b61 (h.getD i 0) (r.getD i 0)) (z := fDh (r.getD i 0)) (by omega) (by unfold b61; rw [hz]; rfl)]
    refine rows.ext (n := 256) (by rw [List.length_set, hpl]) hpl fun j hj => ?_
    by_cases hji : i = j
    ·subst hji; rw [a2t (by omega), a4w, e1]
    ·rw [getD_set_ne hji]
   simp only [hz, ne_eq, not_true_eq_false, if_false]
   rw [e5, Int.natCast_add]
   rfl
  ·simp only [hz, ne_eq, not_false_eq_true, if_true]
   split
   ·rename_i hgt
    rw [u3 (h := fun i => b61 (h.getD i 0) (r.getD i 0)) (by omega) (by unfold b61; rw [if_pos hz, if_pos hgt]), Int.natCast_add]
    rfl
   ·rename_i hgt
    rw [u3 (h := fun i => b61 (h.getD i 0) (r.getD i 0)) (by omega) (by unfold b61; rw [if_pos hz, if_neg hgt]; congr 1; omega), Int.natCast_add]
    rfl
 ·intro kn
  unfold R1
  simp (disch := omega) only [if_neg]
  rw [B7 hlen]
  rfl
 ·rfl
theorem d7j {h r : List Int} (hh : h.length = 256 ∧ ∀ z ∈ h, z = 0 ∨ z = 1) (hr : E5 256 r) : a0w (h, r, ()) = some (d53 h r) :=
 d8 (ks := O5) (rs := O6) (x := (h, r, ())) (d8v.2 ⟨hh, hr⟩) trivial
theorem d5y {z r : List Int} (hz : E5 256 z) (hr : E5 256 r) : X6 (z, r, ()) = some (d1O z r) :=
 d8 (ks := K0) (rs := K3) (x := (z, r, ())) (c24.2 ⟨hz, hr⟩) trivial
theorem d57 (z r : List Int) : (d1O z r).1.length = 256 ∧ ∀ y ∈ (d1O z r).1, y = 0 ∨ y = 1 := by
 refine ⟨a1y _, fun y hy => ?_⟩
 obtain ⟨i, _, rfl⟩ := List.mem_map.1 hy
 exact d1Y z r i
theorem d7C (z : Int) : -4095 ≤ fPl z ∧ fPl z ≤ 4096 := by unfold fPl b2O; split <;> omega
theorem d7B (z : Int) : 0 ≤ fPh z ∧ fPh z ≤ 1023 := by unfold fPh fPl b2O; split <;> omega
end Go.Ax.TryP
set_option linter.unusedVariables false
namespace Go.Ax.TryP
open Go.Proofs
theorem a0r {h h' : Nat → Int} (e : ∀ i, i < 256 → h i = h' i) : p9 h = p9 h' := List.map_congr_left fun i hi => e i (List.mem_range.1 hi)
theorem c5z {h h' : Nat → Int} {j : Nat} {v : Int} (hj : h' j = v) (e : ∀ i, i < 256 → i ≠ j → h' i = h i) : (p9 h).set j v = p9 h' := by
 apply List.ext_getElem?
 intro i
 rw [List.getElem?_set]
 by_cases hij : j = i
 ·subst hij
  simp only [if_true]
  by_cases hl : j < 256
  ·simp [p9, hl, hj]
  ·simp [p9, hl]
 ·rw [if_neg hij]
  by_cases hl : i < 256
  ·simp [p9, hl, e i hl (Ne.symm hij)]
  ·simp [p9, hl]
theorem a5S {a : List Int} (h : a.length = 256) : p9 (fun i => a.getD i 0) = a := by
 apply List.ext_getElem?
 intro i
 by_cases hl : i < 256
 ·simp [p9, hl, List.getD_eq_getElem?_getD, List.getElem?_eq_getElem (show i < a.length by omega)]
 ·simp [p9, hl, List.getElem?_eq_none (show a.length ≤ i by omega)]
def dred (a : List Int) : Prop := a.length = 256 ∧ ∀ i, 0 ≤ a.getD i 0 ∧ a.getD i 0 < 8380417
theorem b5s (a : List Int) : dred (B8 a) := ⟨(c8W a).1, fun i => by have := c30 a i; omega⟩
theorem a57 {h : Nat → Int} (hh : ∀ i, i < 256 → 0 ≤ h i ∧ h i < 8380417) : dred (p9 h) := by
 refine ⟨by simp [p9], fun i => ?_⟩
 by_cases hi : i < 256
 ·rw [i9 hi]; exact hh i hi
 ·rw [List.getD_eq_getElem?_getD, List.getElem?_eq_none (by simp [p9]; omega)]; simp
theorem dred.i32 {a : List Int} (h : dred a) : E5 256 a := by
 refine ⟨h.1, fun z hz => ?_⟩
 obtain ⟨i, hi, rfl⟩ := List.getElem_of_mem hz
 have := h.2 i
 rw [List.getD_eq_getElem?_getD, List.getElem?_eq_getElem hi] at this
 simp only [Option.getD_some] at this
 omega
theorem c7e (s : Nat) (a : List Int) (j : Nat) : 0 ≤ b7i s a j ∧ b7i s a j < 8380417 := by unfold b7i; split <;> omega
theorem c7g (s : Nat) (a : List Int) : dred (a9h s a) := by exact a57 fun i _ => c7e s a i
theorem c8U {s m b r : Nat} (hm : s * m = 128) (hs : 0 < s) (hr : r < s) (a : List Int) : b7i s a (2 * s * b + r) = (a.getD (2 * s * b + r) 0 + w5 (m + b) * a.getD (2 * s * b + r + s) 0 % 8380417) % 8380417 := by
 have e1 : (2 * s * b + r) % (2 * s) = r := by rw [Nat.mul_add_mod]; exact Nat.mod_eq_of_lt (by omega)
 have e2 : (2 * s * b + r) / (2 * s) = b := by rw [Nat.mul_add_div (by omega), Nat.div_eq_of_lt (by omega), Nat.add_zero]
 have e3 : 128 / s = m := by rw [← hm, Nat.mul_div_cancel_left _ hs]
 unfold b7i
 rw [e1, e2, e3, if_pos hr]
theorem c8T {s m b r : Nat} (hm : s * m = 128) (hs : 0 < s) (hr : r < s) (a : List Int) : b7i s a (2 * s * b + r + s) = (a.getD (2 * s * b + r) 0 - w5 (m + b) * a.getD (2 * s * b + r + s) 0 % 8380417) % 8380417 := by
 have e1 : (2 * s * b + r + s) % (2 * s) = r + s := by rw [Nat.add_assoc, Nat.mul_add_mod]; exact Nat.mod_eq_of_lt (by omega)
 have e2 : (2 * s * b + r + s) / (2 * s) = b := by rw [Nat.add_assoc, Nat.mul_add_div (by omega), Nat.div_eq_of_lt (by omega), Nat.add_zero]
 have e3 : 128 / s = m := by rw [← hm, Nat.mul_div_cancel_left _ hs]
 unfold b7i
 rw [e1, e2, e3, if_neg (by omega), Nat.add_sub_cancel]
theorem c7c (s : Nat) (a : List Int) (j : Nat) : 0 ≤ b7h s a j ∧ b7h s a j < 8380417 := by unfold b7h; split <;> omega
theorem c7f (s : Nat) (a : List Int) : dred (a48 s a) := a57 fun i _ => c7c s a i
theorem c0J (a : List Int) : ∀ i, dred (a7E a i)
 | 0 => b5s a
 | _ + 1 => c7f _ _
theorem c8S {s b r : Nat} (hs : 0 < s) (hr : r < s) (a : List Int) : b7h s a (2 * s * b + r) = (a.getD (2 * s * b + r) 0 + a.getD (2 * s * b + r + s) 0) % 8380417 := by
 have e1 : (2 * s * b + r) % (2 * s) = r := by rw [Nat.mul_add_mod]; exact Nat.mod_eq_of_lt (by omega)
 unfold b7h
 rw [e1, if_pos hr]
theorem c8R {s m b r : Nat} (hm : s * m = 128) (hs : 0 < s) (hr : r < s) (a : List Int) : b7h s a (2 * s * b + r + s) = w5 (2 * m - 1 - b) * (a.getD (2 * s * b + r + s) 0 - a.getD (2 * s * b + r) 0) % 8380417 := by
 have e1 : (2 * s * b + r + s) % (2 * s) = r + s := by rw [Nat.add_assoc, Nat.mul_add_mod]; exact Nat.mod_eq_of_lt (by omega)
 have e2 : (2 * s * b + r + s) / (2 * s) = b := by rw [Nat.add_assoc, Nat.mul_add_div (by omega), Nat.div_eq_of_lt (by omega), Nat.add_zero]
 have e3 : 128 / s = m := by rw [← hm, Nat.mul_div_cancel_left _ hs]
 unfold b7h
 rw [e1, e2, e3, if_neg (by omega), Nat.add_sub_cancel]
def dcg (x y : Int) : Prop := ∃ k : Int, x = y + 8380417 * k
theorem dcg.refl (x : Int) : dcg x x := ⟨0, by omega⟩
theorem dcg.of_eq {x y : Int} (h : x = y) : dcg x y := by subst h; exact dcg.refl _
theorem dcg.symm {x y : Int} (h : dcg x y) : dcg y x := by obtain ⟨k, h⟩ := h; exact ⟨-k, by omega⟩
theorem dcg.trans {x y z : Int} (h : dcg x y) (g : dcg y z) : dcg x z := by obtain ⟨k, h⟩ := h; obtain ⟨l, g⟩ := g; exact ⟨k + l, by omega⟩
theorem dcg.add {x y z w : Int} (h : dcg x y) (g : dcg z w) : dcg (x + z) (y + w) := by obtain ⟨k, h⟩ := h; obtain ⟨l, g⟩ := g; exact ⟨k + l, by omega⟩
theorem dcg.sub {x y z w : Int} (h : dcg x y) (g : dcg z w) : dcg (x - z) (y - w) := by obtain ⟨k, h⟩ := h; obtain ⟨l, g⟩ := g; exact ⟨k - l, by omega⟩
theorem dcg.mul {x y z w : Int} (h : dcg x y) (g : dcg z w) : dcg (x * z) (y * w) := by
 obtain ⟨k, h⟩ := h; obtain ⟨l, g⟩ := g
 exact ⟨y * l + k * w + 8380417 * (k * l), by subst h; subst g; grind⟩
theorem dcg.mod (x : Int) : dcg (x % 8380417) x := ⟨-(x / 8380417), by omega⟩
theorem dcg.eq {x y : Int} (h : dcg x y) (hx : 0 ≤ x ∧ x < 8380417) (hy : 0 ≤ y ∧ y < 8380417) : x = y := by obtain ⟨k, h⟩ := h; omega
theorem c5B {s m : Nat} (hm : s * m = 128) (hs : 0 < s) {j : Nat} (hj : j < 256) : ∃ b r, b < m ∧ r < s ∧ (j = 2 * s * b + r ∨ j = 2 * s * b + r + s) := by
 have h1 := Nat.div_add_mod j (2 * s)
 have h2 := Nat.mod_lt j (show 2 * s > 0 by omega)
 have hall : 2 * s * m = 256 := by rw [Nat.mul_assoc, hm]
 have hb : j / (2 * s) < m := by rw [Nat.div_lt_iff_lt_mul (by omega), Nat.mul_comm, hall]; exact hj
 by_cases hr : j % (2 * s) < s
 ·exact ⟨_, _, hb, hr, .inl h1.symm⟩
 ·exact ⟨j / (2 * s), j % (2 * s) - s, hb, by omega, .inr (by omega)⟩
theorem a8f {s m b r : Nat} (hm : s * m = 128) (hb : b < m) (hr : r < s) : 2 * s * b + r + s < 256 := by
 have h1 : s * (b + 1) ≤ s * m := Nat.mul_le_mul_left _ (by omega)
 rw [hm, Nat.mul_add] at h1
 rw [Nat.mul_assoc]
 omega
def dlin (c d : Int) (x y z : List Int) : Prop := ∀ i, i < 256 → dcg (z.getD i 0) (c * x.getD i 0 + d * y.getD i 0)
theorem d1F {s m b r : Nat} (hm : s * m = 128) (hs : 0 < s) (hb : b < m) (hr : r < s) (a : List Int) :
  dcg ((a9h s a).getD (2 * s * b + r) 0) (a.getD (2 * s * b + r) 0 + w5 (m + b) * a.getD (2 * s * b + r + s) 0) := by
 have hl := a8f hm hb hr
 rw [a9h, i9 (by omega), c8U hm hs hr]
 exact (dcg.mod _).trans ((dcg.refl _).add (dcg.mod _))
theorem d1E {s m b r : Nat} (hm : s * m = 128) (hs : 0 < s) (hb : b < m) (hr : r < s) (a : List Int) :
  dcg ((a9h s a).getD (2 * s * b + r + s) 0) (a.getD (2 * s * b + r) 0 - w5 (m + b) * a.getD (2 * s * b + r + s) 0) := by
 have hl := a8f hm hb hr
 rw [a9h, i9 (by omega), c8T hm hs hr]
 exact (dcg.mod _).trans ((dcg.refl _).sub (dcg.mod _))
theorem c8Q {s m b r : Nat} (hm : s * m = 128) (hs : 0 < s) (hb : b < m) (hr : r < s) (a : List Int) :
  dcg ((a48 s a).getD (2 * s * b + r) 0) (a.getD (2 * s * b + r) 0 + a.getD (2 * s * b + r + s) 0) := by
 have hl := a8f hm hb hr
 rw [a48, i9 (by omega), c8S hs hr]
 exact dcg.mod _
theorem c8P {s m b r : Nat} (hm : s * m = 128) (hs : 0 < s) (hb : b < m) (hr : r < s) (a : List Int) :
  dcg ((a48 s a).getD (2 * s * b + r + s) 0) (w5 (2 * m - 1 - b) * (a.getD (2 * s * b + r + s) 0 - a.getD (2 * s * b + r) 0)) := by
 have hl := a8f hm hb hr
 rw [a48, i9 (by omega), c8R hm hs hr]
 exact dcg.mod _
theorem d5W {s m : Nat} (hm : s * m = 128) (hs : 0 < s) {c d : Int} {x y z : List Int} (h : dlin c d x y z) : dlin c d (a48 s x) (a48 s y) (a48 s z) := by
 intro i hi
 obtain ⟨b, r, hb, hr, hj | hj⟩ := c5B hm hs hi
 ·subst hj
  have hl := a8f hm hb hr
  have h1 := h (2 * s * b + r) (by omega)
  have h2 := h (2 * s * b + r + s) (by omega)
  refine (c8Q hm hs hb hr z).trans ((h1.add h2).trans (dcg.symm ?_))
  refine (((dcg.refl c).mul (c8Q hm hs hb hr x)).add ((dcg.refl d).mul (c8Q hm hs hb hr y))).trans (dcg.of_eq ?_)
  grind
 ·subst hj
  have hl := a8f hm hb hr
  have h1 := h (2 * s * b + r) (by omega)
  have h2 := h (2 * s * b + r + s) (by omega)
  refine (c8P hm hs hb hr z).trans (((dcg.refl _).mul (h2.sub h1)).trans (dcg.symm ?_))
  refine (((dcg.refl c).mul (c8P hm hs hb hr x)).add ((dcg.refl d).mul (c8P hm hs hb hr y))).trans (dcg.of_eq ?_)
  grind
theorem c7h : (List.range 8).all (fun t => (List.range (2 ^ t)).all fun b => w5 (2 * 2 ^ t - 1 - b) * w5 (2 ^ t + b) % 8380417 == 8380416) = true := by decide +kernel
theorem c96 {t b : Nat} (ht : t < 8) (hb : b < 2 ^ t) : dcg (w5 (2 * 2 ^ t - 1 - b) * w5 (2 ^ t + b)) (-1) := by
 have h1 := List.all_eq_true.1 c7h t (List.mem_range.2 ht)
 have h2 := List.all_eq_true.1 h1 b (List.mem_range.2 hb)
 have h3 := eq_of_beq h2
 exact ⟨(w5 (2 * 2 ^ t - 1 - b) * w5 (2 ^ t + b)) / 8380417 + 1, by omega⟩
theorem d7v {s t : Nat} (ht : t < 8) (hm : s * 2 ^ t = 128) (hs : 0 < s) (x : List Int) : dlin 2 0 x x (a48 s (a9h s x)) := by
 intro i hi
 obtain ⟨b, r, hb, hr, hj | hj⟩ := c5B hm hs hi
 ·subst hj
  refine (c8Q hm hs hb hr _).trans (((d1F hm hs hb hr x).add (d1E hm hs hb hr x)).trans (dcg.of_eq ?_))
  grind
 ·subst hj
  refine (c8P hm hs hb hr _).trans (((dcg.refl _).mul ((d1E hm hs hb hr x).sub (d1F hm hs hb hr x))).trans ?_)
  have hz := (c96 ht hb).mul (dcg.refl (-2 * x.getD (2 * s * b + r + s) 0))
  refine (dcg.of_eq ?_).trans (hz.trans (dcg.of_eq ?_)) <;> grind
theorem c0K (a : List Int) : ∀ i, dred (a3V a i)
 | 0 => b5s a
 | _ + 1 => c7g _ _
theorem c8N (a : List Int) : a04 a = a3V a 8 := rfl
def c3U (i : Nat) : Int := 1753 ^ (2 * d4i i + 1) % 8380417
theorem dlin.trans1 {c d : Int} {x y z : List Int} (h : dlin c 0 y y z) (g : dlin d 0 x x y) : dlin (c * d) 0 x x z := by
 intro i hi
 refine (h i hi).trans ((((dcg.refl c).mul (g i hi)).add (dcg.refl _)).trans (dcg.of_eq ?_))
 grind
theorem b5r : ∀ t, t < 8 → (128 / 2 ^ t) * 2 ^ t = 128 ∧ 0 < 128 / 2 ^ t ∧ 2 ^ (7 - t) = 128 / 2 ^ t := by decide
theorem d3K {a b : List Int} (ha : dred a) (hb : dred b) (h : dlin 1 0 a a b) : b = a := by
 rw [← a5S ha.1, ← a5S hb.1]
 refine a0r fun i hi => ?_
 have := h i hi
 exact dcg.eq (this.trans (dcg.of_eq (by grind))) (hb.2 i) (ha.2 i)
theorem c0H {a : List Int} (h : dred a) : B8 a = a := by
 conv => rhs; rw [← a5S h.1]
 refine a0r fun i hi => ?_
 have := h.2 i
 omega
theorem b1d (a : List Int) : dred (a04 a) := by rw [c8N]; exact c0K a 8
theorem c5A (a : List Int) : dred (b36 a) := a57 fun i _ => by omega
theorem c0F (a : List Int) : ∀ k, k ≤ 8 → dlin (2 ^ k) 0 (a3V a (8 - k)) (a3V a (8 - k)) (a7E (a04 a) k)
 | 0, _ => by
  rw [a7E, c0H (b1d a), c8N]
  intro i _
  exact dcg.of_eq (by grind)
 | k + 1, hk => by
  have ih := c0F a k (by omega)
  obtain ⟨f1, f2, f3⟩ := b5r (7 - k) (by omega)
  rw [show 7 - (7 - k) = k by omega] at f3
  have e : 8 - k = (7 - k) + 1 := by omega
  have e2 : 8 - (k + 1) = 7 - k := by omega
  rw [e, a3V] at ih
  rw [a7E, e2, f3]
  have h1 := d5W f1 f2 ih
  have h2 := d7v (by omega) f1 f2 (a3V a (7 - k))
  have := h1.trans1 h2
  rwa [Int.pow_succ]
theorem c9Z (a : List Int) : b36 (a04 a) = B8 a := by
 have h := c0F a 8 (Nat.le_refl _)
 rw [Nat.sub_self, a3V] at h
 refine d3K (b5s a) (c5A _) ?_
 intro i hi
 rw [b36, i9 hi]
 refine (dcg.mod _).trans (((h i hi).mul (dcg.refl 8347681)).trans ⟨255 * (B8 a).getD i 0, by grind⟩)
theorem c3c (a b : List Int) : dred (a6b a b) := a57 fun i _ => by omega
def a3E : Nat → (Nat → Int) → Int
 | 0, _ => 0
 | n + 1, f => a3E n f + f n
theorem a2D {n : Nat} {f g : Nat → Int} (h : ∀ i, i < n → f i = g i) : a3E n f = a3E n g := by
 induction n with
 | zero => rfl
 | succ n ih => rw [a3E, a3E, ih fun i hi => h i (by omega), h n (by omega)]
theorem d1H {n : Nat} {f g : Nat → Int} (h : ∀ i, i < n → dcg (f i) (g i)) : dcg (a3E n f) (a3E n g) := by
 induction n with
 | zero => exact dcg.refl _
 | succ n ih => exact (ih fun i hi => h i (by omega)).add (h n (by omega))
theorem c3W (n : Nat) (f g : Nat → Int) : a3E n (fun i => f i + g i) = a3E n f + a3E n g := by
 induction n with
 | zero => rfl
 | succ n ih => rw [a3E, a3E, a3E, ih]; omega
theorem c3X (n : Nat) (c : Int) (f : Nat → Int) : a3E n (fun i => c * f i) = c * a3E n f := by
 induction n with
 | zero => simp [a3E]
 | succ n ih => rw [a3E, a3E, ih]; grind
theorem b3C (n : Nat) (c : Int) (f : Nat → Int) : a3E n (fun i => f i * c) = a3E n f * c := by
 induction n with
 | zero => simp [a3E]
 | succ n ih => rw [a3E, a3E, ih]; grind
theorem c0L (n : Nat) : a3E n (fun _ => 0) = 0 := by
 induction n with
 | zero => rfl
 | succ n ih => rw [a3E, ih]; rfl
theorem d1I (n m : Nat) (f : Nat → Nat → Int) : a3E n (fun i => a3E m (f i)) = a3E m (fun j => a3E n fun i => f i j) := by
 induction n with
 | zero => simp [a3E, c0L]
 | succ n ih => rw [a3E, ih, ← c3W]; rfl
theorem d3M (n : Nat) (f : Nat → Int) : a3E (2 * n) f = a3E n fun i => f (2 * i) + f (2 * i + 1) := by
 induction n with
 | zero => rfl
 | succ n ih => rw [show 2 * (n + 1) = 2 * n + 1 + 1 by omega, a3E, a3E, ih, a3E]; omega
theorem b7k (n m : Nat) (f : Nat → Int) : a3E (n + m) f = a3E n f + a3E m fun i => f (n + i) := by
 induction m with
 | zero => simp [a3E]
 | succ m ih => rw [← Nat.add_assoc, a3E, ih, a3E]; omega
def d1C : Nat → Nat → Int
 | 0, _ => -1
 | t + 1, b => if b % 2 = 0 then w5 (2 ^ t + b / 2) else - w5 (2 ^ t + b / 2)
theorem c7b : (List.range 8).all (fun t => (List.range (2 ^ t)).all fun b => (w5 (2 ^ t + b) * w5 (2 ^ t + b) - d1C t b) % 8380417 == 0) = true := by decide +kernel
theorem d5T {t b : Nat} (ht : t < 8) (hb : b < 2 ^ t) : dcg (d1C t b) (w5 (2 ^ t + b) * w5 (2 ^ t + b)) := by
 have h1 := List.all_eq_true.1 c7b t (List.mem_range.2 ht)
 have h3 := eq_of_beq (List.all_eq_true.1 h1 b (List.mem_range.2 hb))
 exact ⟨-((w5 (2 ^ t + b) * w5 (2 ^ t + b) - d1C t b) / 8380417), by omega⟩
theorem c3Q : (List.range 256).all (fun i => (d1C 8 i - c3U i) % 8380417 == 0) = true := by decide +kernel
theorem d1D {i : Nat} (hi : i < 256) : dcg (d1C 8 i) (c3U i) := by
 have h3 := eq_of_beq (List.all_eq_true.1 c3Q i (List.mem_range.2 hi))
 exact ⟨(d1C 8 i - c3U i) / 8380417, by omega⟩
theorem dcg.pow {x y : Int} (h : dcg x y) (n : Nat) : dcg (x ^ n) (y ^ n) := by
 induction n with
 | zero => rw [Int.pow_zero, Int.pow_zero]; exact dcg.refl _
 | succ n ih => rw [Int.pow_succ, Int.pow_succ]; exact ih.mul h
def dev (a : List Int) (n L r : Nat) (c : Int) : Int := a3E n fun j => a.getD (j * L + r) 0 * c ^ j
theorem c8M (a : List Int) (n s r : Nat) (z : Int) : dev a (2 * n) s r z = dev a n (2 * s) r (z * z) + z * dev a n (2 * s) (r + s) (z * z) := by
 unfold dev
 rw [d3M, ← c3X, ← c3W]
 refine a2D fun i _ => ?_
 rw [show 2 * i * s + r = i * (2 * s) + r by grind, show (2 * i + 1) * s + r = i * (2 * s) + (r + s) by grind]
 rw [Int.pow_succ, Int.pow_mul, show z ^ 2 = z * z by rw [Int.pow_succ, Int.pow_succ, Int.pow_zero, Int.one_mul]]
 grind
theorem c5y {a : List Int} {n L r : Nat} {c d : Int} (h : dcg c d) : dcg (dev a n L r c) (dev a n L r d) := d1H fun j _ => (dcg.refl _).mul (h.pow j)
theorem c5C (a : List Int) : ∀ t, t ≤ 8 → ∀ b r, b < 2 ^ t → r < 256 / 2 ^ t → dcg ((a3V a t).getD (256 / 2 ^ t * b + r) 0) (dev (B8 a) (2 ^ t) (256 / 2 ^ t) r (d1C t b))
 | 0, _, b, r, hb, _ => by
  have : b = 0 := by simpa using hb
  subst this
  simp only [a3V, Nat.pow_zero, dev, a3E, Int.pow_zero]
  exact dcg.of_eq (by simp)
 | t + 1, ht, b, r, hb, hr => by
  obtain ⟨f1, f2, _⟩ := b5r t (by omega)
  have e1 : 256 / 2 ^ (t + 1) = 128 / 2 ^ t := (by decide : ∀ t, t < 8 → 256 / 2 ^ (t + 1) = 128 / 2 ^ t) t (by omega)
  have e2 : 256 / 2 ^ t = 2 * (128 / 2 ^ t) := (by decide : ∀ t, t < 8 → 256 / 2 ^ t = 2 * (128 / 2 ^ t)) t (by omega)
  rw [e1] at hr ⊢
  have ih := c5C a t (by omega) (b / 2)
  rw [e2] at ih
  have hb2 : b / 2 < 2 ^ t := by rw [Nat.pow_succ] at hb; omega
  have i1 := ih r hb2 (by omega)
  have i2 := ih (r + 128 / 2 ^ t) hb2 (by omega)
  have hsq := d5T (by omega) hb2
  have p2 : 2 ^ (t + 1) = 2 * 2 ^ t := by rw [Nat.pow_succ, Nat.mul_comm]
  rw [a3V, p2]
  generalize hS : 128 / 2 ^ t = s at *
  rw [← Nat.add_assoc] at i2
  rcases Nat.mod_two_eq_zero_or_one b with hm | hm
  ·have hc : d1C (t + 1) b = w5 (2 ^ t + b / 2) := by rw [d1C, if_pos hm]
   have hidx : s * b + r = 2 * s * (b / 2) + r := by
    have : b = 2 * (b / 2) := by omega
    conv => lhs; rw [this]
    grind
   rw [hidx, hc, c8M]
   refine (d1F f1 f2 hb2 hr _).trans ((i1.trans (c5y hsq)).add ((dcg.refl _).mul (i2.trans (c5y hsq))))
  ·have hc : d1C (t + 1) b = - w5 (2 ^ t + b / 2) := by rw [d1C, if_neg (by omega)]
   have hidx : s * b + r = 2 * s * (b / 2) + r + s := by
    have : b = 2 * (b / 2) + 1 := by omega
    conv => lhs; rw [this]
    grind
   have hneg : (- w5 (2 ^ t + b / 2)) * (- w5 (2 ^ t + b / 2)) = w5 (2 ^ t + b / 2) * w5 (2 ^ t + b / 2) := by grind
   rw [hidx, hc, c8M, hneg]
   refine (d1E f1 f2 hb2 hr _).trans (((i1.trans (c5y hsq)).sub ((dcg.refl _).mul (i2.trans (c5y hsq)))).trans (dcg.of_eq ?_))
   grind
def dE (a : List Int) (p : Int) : Int := a3E 256 fun k => (B8 a).getD k 0 * p ^ k
theorem c7d (a : List Int) {i : Nat} (hi : i < 256) : dcg ((a04 a).getD i 0) (dE a (c3U i)) := by
 have h := (c5C a 8 (Nat.le_refl _) i 0 hi (by decide)).trans (c5y (d1D hi))
 rw [show 256 / 2 ^ 8 * i + 0 = i by omega] at h
 refine h.trans (dcg.of_eq (a2D fun j _ => ?_))
 rw [show j * (256 / 2 ^ 8) + 0 = j by omega]
theorem c3V : (List.range 256).all (fun i => (c3U i ^ 256 + 1) % 8380417 == 0) = true := by decide +kernel
theorem d1G {i : Nat} (hi : i < 256) : dcg (c3U i ^ 256) (-1) := by
 have h3 := eq_of_beq (List.all_eq_true.1 c3V i (List.mem_range.2 hi))
 exact ⟨(c3U i ^ 256 + 1) / 8380417, by omega⟩
def dcv (a b : List Int) (i n : Nat) : Int := a3E i fun u => if u ≤ n ∧ n < u + 256 then (B8 a).getD u 0 * (B8 b).getD (n - u) 0 else 0
theorem d3H (a b : List Int) (i n : Nat) : dcv a b (i + 1) n = if i ≤ n ∧ n < i + 256 then dcv a b i n + (B8 a).getD i 0 * (B8 b).getD (n - i) 0 else dcv a b i n := by
 unfold dcv
 rw [a3E]
 split <;> omega
def c0Q (a b : List Int) : List Int := p9 fun j => (dcv a b 256 j - dcv a b 256 (j + 256)) % 8380417
theorem c94 {v : Nat} (hv : v ≤ 256) (g : Nat → Int) (p : Int) : a3E 512 (fun j => if v ≤ j ∧ j < v + 256 then g (j - v) * p ^ j else 0) = p ^ v * a3E 256 fun k => g k * p ^ k := by
 rw [show 512 = v + (256 + (256 - v)) by omega, b7k, b7k, ← c3X]
 rw [a2D (n := v) (g := fun _ => 0) (fun i hi => if_neg (by omega)), c0L]
 rw [a2D (n := 256 - v) (g := fun _ => 0) (fun i hi => if_neg (by omega)), c0L]
 rw [Int.zero_add, Int.add_zero]
 refine a2D fun i hi => ?_
 rw [if_pos (by omega), show v + i - v = i by omega, Int.pow_add]
 grind
theorem d8Y (a b : List Int) (p : Int) : a3E 512 (fun n => dcv a b 256 n * p ^ n) = dE a p * dE b p := by
 have h1 : a3E 512 (fun n => dcv a b 256 n * p ^ n) = a3E 256 fun u => (B8 a).getD u 0 * a3E 512 fun n => if u ≤ n ∧ n < u + 256 then (B8 b).getD (n - u) 0 * p ^ n else 0 := by
  rw [show (fun u => (B8 a).getD u 0 * a3E 512 fun n => if u ≤ n ∧ n < u + 256 then (B8 b).getD (n - u) 0 * p ^ n else 0) = fun u => a3E 512 fun n => (B8 a).getD u 0 * (if u ≤ n ∧ n < u + 256 then (B8 b).getD (n - u) 0 * p ^ n else 0) from funext fun u => (c3X _ _ _).symm]
  rw [d1I]
  refine a2D fun j _ => ?_
  unfold dcv
  rw [← b3C]
  refine a2D fun u _ => ?_
  split <;> grind
 rw [h1]
 unfold dE
 rw [← b3C]
 refine a2D fun u hu => ?_
 rw [c94 (v := u) (by omega) (fun k => (B8 b).getD k 0) p]
 grind
theorem d5S (a b : List Int) {i : Nat} (hi : i < 256) : dcg (dE (c0Q a b) (c3U i)) (a3E 512 fun n => dcv a b 256 n * c3U i ^ n) := by
 rw [show 512 = 256 + 256 from rfl, b7k, ← c3W]
 have hr : dred (c0Q a b) := a57 fun i _ => by omega
 unfold dE
 rw [c0H hr]
 refine d1H fun j hj => ?_
 rw [c0Q, i9 hj, show 256 + j = j + 256 by omega, Int.pow_add, show j + 256 = 256 + j by omega]
 refine ((dcg.mod _).mul (dcg.refl _)).trans (dcg.symm (((dcg.refl _).add ((dcg.refl _).mul ((dcg.refl _).mul (d1G hi)))).trans (dcg.of_eq (by grind))))
theorem d3J {a b : List Int} (ha : dred a) (hb : dred b) (h : ∀ i, i < 256 → dcg (a.getD i 0) (b.getD i 0)) : a = b := by
 rw [← a5S ha.1, ← a5S hb.1]
 exact a0r fun j hj => dcg.eq (h j hj) (ha.2 j) (hb.2 j)
theorem d5X {i : Nat} (hi : i < 256) (a b : List Int) : dcg ((a6b a b).getD i 0) (a.getD i 0 * b.getD i 0) := by rw [a6b, i9 hi]; exact dcg.mod _
theorem d1L (a b : List Int) : c0Q a b = b0y a b := by
 have hr : dred (c0Q a b) := a57 fun i _ => by omega
 have key : a04 (c0Q a b) = a6b (a04 a) (a04 b) := by
  refine d3J (b1d _) (c3c _ _) fun i hi => ?_
  refine ((c7d _ hi).trans ((d5S a b hi).trans (dcg.of_eq (d8Y a b _)))).trans (dcg.symm ((d5X hi _ _).trans ?_))
  exact (c7d a hi).mul (c7d b hi)
 rw [b0y, ← key, c9Z, c0H hr]
theorem c7k (a b : List Int) : a6b a b = a6b b a := a0r fun i _ => by rw [Int.mul_comm]
theorem c99 (a b : List Int) : b0y a b = b0y b a := by rw [b0y, c7k, b0y]
theorem d0a (b : List Int) : b0y (List.replicate 256 0) b = List.replicate 256 0 := by
 rw [← d1L]
 have hz : ∀ n i, dcv (List.replicate 256 0) b i n = 0 := by
  intro n i
  induction i with
  | zero => rfl
  | succ i ih =>
   have : (B8 (List.replicate 256 0)).getD i 0 = 0 := by
    by_cases hi : i < 256
    ·rw [B8, i9 hi, b3G]; rfl
    ·exact b5y (by have := (b5s (List.replicate 256 0)).1; omega)
   rw [d3H, ih, this]
   split <;> omega
 have : c0Q (List.replicate 256 0) b = p9 fun _ => 0 := a0r fun i _ => by rw [hz, hz]; rfl
 rw [this, p9, List.map_const', List.length_range]
theorem c3p : ∀ n, n < 256 → bt p_bits_Reverse8_s0 n = (d4i n : Int) ∧ d4i n < 256 := by decide +kernel
theorem c1Q : ∀ x r, a2Y x = some r → ∃ N, a28 N x = some r := by
 refine d9 (ks := a29) (rs := a3a) fun x hw _ => ⟨0, ?_⟩
 obtain ⟨(n : Int), u⟩ := x
 simp only [a42, Kd.wf, U8] at hw
 have hs : p_bits_Reverse8_s0.size = 256 := by decide +kernel
 have ht := (c3p n.toNat (by omega)).1
 unfold a28
 rw [hs]
 simp (disch := omega) only [if_pos]
 rw [ht]
theorem d5G {n : Int} (h : 0 ≤ n ∧ n ≤ 255) : a2Y (n, ()) = some (d4i n.toNat : Int) :=
 d8 (ks := a29) (rs := a3a) (by simp only [a42, Kd.wf, U8]; exact ⟨h, trivial⟩) trivial
theorem d59 {a b : Int} (h : -2147483648 ≤ a ∧ a ≤ 2147483647) (h' : -2147483648 ≤ b ∧ b ≤ 2147483647) : -4611686018427387904 ≤ a * b ∧ a * b ≤ 4611686018427387904 := by
 have h1 : a.natAbs * b.natAbs ≤ 2147483648 * 2147483648 := Nat.mul_le_mul (by omega) (by omega)
 rw [← Int.natAbs_mul] at h1
 omega
theorem c4x : ∀ x r, N6 x = some r → ∃ N, a5L N x = some r := by
 refine d9 (ks := Y6) (rs := a5m) fun x hw _ => ⟨0, ?_⟩
 obtain ⟨(a : Int), (b : Int), u⟩ := x
 have ha : -2147483648 ≤ a ∧ a ≤ 2147483647 := s9.1 hw.1
 have hb : -2147483648 ≤ b ∧ b ≤ 2147483647 := s9.1 hw.2.1
 have hm := d59 ha hb
 unfold a5L
 dsimp only
 rw [c7 (x := a) (by omega) (by omega), c7 (x := b) (by omega) (by omega), c7 (by omega) (by omega), a5z (by omega) (by omega)]
 rfl
theorem b5m {a b : Int} (h : -2147483648 ≤ a ∧ a ≤ 2147483647) (h' : -2147483648 ≤ b ∧ b ≤ 2147483647) : N6 (a, b, ()) = some (a * b % 8380417) :=
 d8 (ks := Y6) (rs := a5m) (x := (a, b, ())) ⟨s9.2 h, s9.2 h', trivial⟩ trivial
def dh (j : Nat) : Int := 1753 ^ j % 8380417
theorem d3I (j : Nat) : 0 ≤ dh j ∧ dh j ≤ 8380416 := by unfold dh; omega
theorem c0M (j : Nat) : 0 ≤ w5 j ∧ w5 j ≤ 8380416 := by unfold w5; omega
theorem d5V (j : Nat) : dh j * 1753 % 8380417 = dh (j + 1) := by
 unfold dh
 rw [Int.pow_succ]
 generalize (1753 : Int) ^ j = m
 omega
theorem c2T : ∀ x r, a1A x = some r → ∃ N, a4s N x = some r := by
 refine d9 (ks := a4b) (rs := S6) fun x hw _ => ⟨300, ?_⟩
 unfold a4s
 have hZ : (List.replicate 256 (0 : Int)).length = 256 := List.length_replicate ..
 have e0 : (List.replicate 256 (0 : Int)).set 0 1 = part dh 1 (List.replicate 256 0) := by
  have h := c0g (h := dh) (i := 0) (a := List.replicate 256 0) (by omega)
  rw [b6H] at h
  exact h
 generalize hz : List.replicate 256 (0 : Int) = Z at hZ e0 ⊢
 refine (i8 (F := L0 300) (s := fun i => (((i + 1 : Nat) : Int), Z, part dh (i + 1) Z, Z, ())) (y := (Z, (List.range 256).map dh, Z, ())) 255 ?_ ?_ ?_ 300 (by omega)).trans ?_
 ·rw [e0]; rfl
 ·intro i hi kn
  have hb := d3I i
  have hg : (part dh (i + 1) Z).getD i 0 = dh i := b8M (by omega)
  have e1 : ((i + 1 : Nat) : Int) - 1 = (i : Int) := by omega
  unfold L0
  dsimp only
  rw [c7 (by omega) (by omega), e1, if_pos (by omega), if_pos (by omega), if_pos (by omega), Int.toNat_natCast, if_pos (by omega), hg, b5m (by omega) (by omega), d5V]
  simp only [Option.bind_some]
  rw [if_pos (by omega), if_pos (by omega), Int.toNat_natCast, if_pos (by omega), u3 (h := dh) (i := i + 1) (a := Z) (by omega) rfl, c7 (by omega) (by omega)]
  rfl
 ·intro kn
  unfold L0
  dsimp only
  rw [if_neg (by omega), B7 hZ]
 dsimp only
 refine (J0 (F := L4 300) (s := fun i => ((i : Int), Z, (List.range 256).map dh, part w5 i Z, ())) (y := (Z, (List.range 256).map w5, ())) 256 ?_ ?_ 300 (by omega)).trans ?_
 ·intro i hi kn
  have hr := (c3p i hi).2
  have hg : ((List.range 256).map dh).getD (d4i i) 0 = dh (d4i i) := Q2 hr
  unfold L4
  dsimp only
  rw [if_pos (by omega), b8y (by omega) (by omega), d5G (by omega), Int.toNat_natCast]
  simp only [Option.bind_some]
  rw [if_pos (by omega), if_pos (by omega), Int.toNat_natCast, if_pos hr, if_pos (by omega), if_pos (by omega), if_pos (by omega), hg, c7 (by omega) (by omega),
   u3 (h := w5) (i := i) (a := Z) (z := dh (d4i i)) (by omega) rfl, Int.natCast_add]
  rfl
 ·intro kn
  unfold L4
  dsimp only
  rw [if_neg (by omega), B7 hZ]
 ·rfl
theorem c5j : a1A () = some ((List.range 256).map w5) := d8 (ks := a4b) (rs := S6) trivial trivial
def b30 (s at' r j : Nat) : Prop := j < at' ∨ (at' ≤ j ∧ j < at' + r) ∨ (at' + s ≤ j ∧ j < at' + s + r)
instance (s at' r j : Nat) : Decidable (b30 s at' r j) := by unfold b30; infer_instance
def b65 (h : Nat → Int) (s : Nat) (a : List Int) (at' r j : Nat) : Int := if b30 s at' r j then h j else a.getD j 0
theorem d1B {h : Nat → Int} {s : Nat} {a : List Int} {c r : Nat} (hs : 0 < s) (hr : r < s) (hc : c + 2 * s ≤ 256) : (p9 (b65 h s a c r)).getD (c + r) 0 = a.getD (c + r) 0 := by
 rw [i9 (by omega), b65, if_neg (by unfold b30; omega)]
theorem d1A {h : Nat → Int} {s : Nat} {a : List Int} {c r : Nat} (hr : r < s) (hc : c + 2 * s ≤ 256) : (p9 (b65 h s a c r)).getD (c + r + s) 0 = a.getD (c + r + s) 0 := by
 rw [i9 (by omega), b65, if_neg (by unfold b30; omega)]
theorem c5w {h : Nat → Int} {s : Nat} {a : List Int} {c r : Nat} (hr : r < s) :
  ((p9 (b65 h s a c r)).set (c + r) (h (c + r))).set (c + r + s) (h (c + r + s)) = p9 (b65 h s a c (r + 1)) := by
 rw [c5z (h' := fun j => if j = c + r then h j else b65 h s a c r j) (by simp) (fun i _ hi => by simp [hi])]
 rw [c5z (h' := b65 h s a c (r + 1)) ?_ ?_]
 ·unfold b65; rw [if_pos (by unfold b30; omega)]
 ·intro i hi hne
  by_cases hh : i = c + r
  ·rw [if_pos hh, hh]; unfold b65; rw [if_pos (by unfold b30; omega)]
  ·rw [if_neg hh]; unfold b65
   by_cases hd : b30 s c r i
   ·rw [if_pos hd, if_pos (by unfold b30 at *; omega)]
   ·rw [if_neg hd, if_neg (by unfold b30 at *; omega)]
theorem c5v {h : Nat → Int} {s : Nat} {a : List Int} {c : Nat} : p9 (b65 h s a c s) = p9 (b65 h s a (c + 2 * s) 0) := by
 refine a0r fun i hi => ?_
 unfold b65
 by_cases hd : b30 s c s i
 ·rw [if_pos hd, if_pos (by unfold b30 at *; omega)]
 ·rw [if_neg hd, if_neg (by unfold b30 at *; omega)]
theorem c5x {h : Nat → Int} {s : Nat} {a : List Int} (ha : a.length = 256) : p9 (b65 h s a 0 0) = a := by
 refine (a0r fun i hi => ?_).trans (a5S ha)
 unfold b65
 rw [if_neg (by unfold b30; omega)]
theorem c8L {h : Nat → Int} {s : Nat} {a : List Int} : p9 (b65 h s a 256 0) = p9 h := by
 refine a0r fun i hi => ?_
 unfold b65
 rw [if_pos (by unfold b30; omega)]
theorem d8D {s m b : Nat} (hm : s * m = 128) (hb : b < m) : 2 * s * b + 2 * s ≤ 256 := by
 have : s * (b + 1) ≤ s * m := Nat.mul_le_mul_left _ (by omega)
 rw [hm, Nat.mul_add] at this
 rw [Nat.mul_assoc]
 omega
theorem c92 {β : Type} {s m b : Nat} (hm : s * m = 128) (hs : 0 < s) (hs128 : s ≤ 128) (hb : b < m) (hm128 : m ≤ 128) {a : List Int} (ha : dred a) (res : List Int) (K : Int × Int × Int × List Int × List Int × List Int × Unit → Option β) :
  m7 (J4 300) 300 (((m + b : Nat) : Int), (s : Int), ((2 * s * b : Nat) : Int), ((2 * s * b : Nat) : Int), p9 (b65 (b7i s a) s a (2 * s * b) 0), res, (List.range 256).map w5, ()) K
   = K (((m + b : Nat) : Int), (s : Int), ((2 * s * b : Nat) : Int), p9 (b65 (b7i s a) s a (2 * s * (b + 1)) 0), res, (List.range 256).map w5, ()) := by
 have hat := d8D hm hb
 have hnext : 2 * s * (b + 1) = 2 * s * b + 2 * s := by rw [Nat.mul_add, Nat.mul_one]
 rw [hnext]
 have hk : m + b < 256 := by omega
 have hz := c0M (m + b)
 have hzg : ((List.range 256).map w5).getD (m + b) 0 = w5 (m + b) := Q2 (by omega)
 have hlo := fun r (hr : r < s) => c8U (b := b) hm hs hr a
 have hhi := fun r (hr : r < s) => c8T (b := b) hm hs hr a
 generalize 2 * s * b = c at *
 generalize m + b = k at *
 refine J0 (F := J4 300) (s := fun r => ((k : Int), (s : Int), (c : Int), ((c + r : Nat) : Int), p9 (b65 (b7i s a) s a c r), res, (List.range 256).map w5, ())) (y := ((k : Int), (s : Int), (c : Int), p9 (b65 (b7i s a) s a (c + 2 * s) 0), res, (List.range 256).map w5, ())) s ?_ ?_ 300 (by omega)
 ·intro r hr kn
  have h1 := ha.2 (c + r)
  have h2 := ha.2 (c + r + s)
  have hl := hlo r hr
  have hh := hhi r hr
  have ec : ((c + r : Nat) : Int) + (s : Int) = ((c + r + s : Nat) : Int) := by omega
  have ht := b5m (a := w5 k) (b := a.getD (c + r + s) 0) (by omega) (by omega)
  have hT : 0 ≤ w5 k * a.getD (c + r + s) 0 % 8380417 ∧ w5 k * a.getD (c + r + s) 0 % 8380417 ≤ 8380416 := by omega
  unfold J4
  simp (disch := omega) only [if_pos, c7, ec, Int.toNat_natCast, hzg, d1B hs hr (a := a) (c := c), d1A hr (a := a) (c := c), ht, Option.bind_some]
  simp (disch := omega) only [a5z, Option.bind_some]
  rw [← hl, ← hh, c5w hr]
  rfl
 ·intro kn
  unfold J4
  simp (disch := omega) only [if_neg, c7]
  rw [c5v]
theorem c93 {β : Type} {s m : Nat} (hm : s * m = 128) (hs : 0 < s) (hs128 : s ≤ 128) (hm0 : 0 < m) (hm128 : m ≤ 128) {a : List Int} (ha : dred a) (res : List Int) (K : Int × Int × List Int × List Int × List Int × Unit → Option β) :
  m7 (N0 300) 300 (((m - 1 : Nat) : Int), (s : Int), 0, a, res, (List.range 256).map w5, ()) K = K (((2 * m - 1 : Nat) : Int), (s : Int), a9h s a, res, (List.range 256).map w5, ()) := by
 have hall : 2 * s * m = 256 := by rw [Nat.mul_assoc, hm]
 refine i8 (F := N0 300) (s := fun b => (((m + b - 1 : Nat) : Int), (s : Int), ((2 * s * b : Nat) : Int), p9 (b65 (b7i s a) s a (2 * s * b) 0), res, (List.range 256).map w5, ())) (y := (((2 * m - 1 : Nat) : Int), (s : Int), a9h s a, res, (List.range 256).map w5, ())) m ?_ ?_ ?_ 300 (by omega)
 ·rw [Nat.mul_zero, c5x ha.1]; rfl
 ·intro b hb kn
  have hat := d8D hm hb
  have hnext : 2 * s * (b + 1) = 2 * s * b + 2 * s := by rw [Nat.mul_add, Nat.mul_one]
  unfold N0
  dsimp only
  rw [if_pos (by omega), c7 (by omega) (by omega), show ((m + b - 1 : Nat) : Int) + 1 = ((m + b : Nat) : Int) by omega]
  refine (c92 hm hs hs128 hb hm128 ha res _).trans ?_
  rw [hnext]
  simp (disch := omega) only [c7]
  rw [show m + (b + 1) - 1 = m + b by omega, show ((2 * s * b : Nat) : Int) + 2 * (s : Int) = ((2 * s * b + 2 * s : Nat) : Int) by omega]
 ·intro kn
  unfold N0
  dsimp only
  rw [if_neg (by omega), hall, c8L, show m + m - 1 = 2 * m - 1 by omega]
  rfl
theorem c5D : ∀ i, i < 8 → (128 / 2 ^ i) * 2 ^ i = 128 ∧ 0 < 128 / 2 ^ i ∧ 128 / 2 ^ i ≤ 128 ∧ 128 / 2 ^ i / 2 = 128 / 2 ^ (i + 1) ∧ 0 < 2 ^ i ∧ 2 ^ i ≤ 128 ∧ 2 * 2 ^ i = 2 ^ (i + 1) := by decide
theorem c7T : ∀ x r, a0u x = some r → ∃ N, a9B N x = some r := by
 refine d9 (ks := Q4) (rs := a7K) fun x hw _ => ⟨300, ?_⟩
 obtain ⟨(a : List Int), u⟩ := x
 have ha := b97.1 hw
 unfold a9B
 dsimp only
 rw [b5l ha, c5j]
 simp only [Option.bind_some]
 generalize List.replicate 256 (0 : Int) = Z
 refine (J0 (F := Y0 300) (s := fun i => (((2 ^ i - 1 : Nat) : Int), ((128 / 2 ^ i : Nat) : Int), a3V a i, Z, (List.range 256).map w5, ())) (y := (a04 a, Z, ())) 8 ?_ ?_ 300 (by omega)).trans ?_
 ·intro i hi kn
  obtain ⟨f1, f2, f3, f4, f5, f6, f7⟩ := c5D i hi
  unfold Y0
  dsimp only
  rw [if_pos (by omega)]
  refine (c93 f1 f2 f3 f5 f6 (c0K a i) _ _).trans ?_
  simp (disch := omega) only [a95, c7]
  have e1 : ((128 / 2 ^ i : Nat) : Int) / 2 = ((128 / 2 ^ (i + 1) : Nat) : Int) := by rw [← f4]; omega
  rw [e1, f7]
  rfl
 ·intro kn
  unfold Y0
  dsimp only
  rw [if_neg (by decide)]
  rfl
 ·rfl
theorem c0m {a : List Int} (h : E5 256 a) : a0u (a, ()) = some (a04 a) := d8 (ks := Q4) (rs := a7K) (x := (a, ())) (b97.2 h) trivial
theorem c90 {β : Type} {s m b : Nat} (hm : s * m = 128) (hs : 0 < s) (hs128 : s ≤ 128) (hb : b < m) (hm128 : m ≤ 128) {a : List Int} (ha : dred a) (res : List Int) (K : Int × Int × Int × List Int × List Int × List Int × Unit → Option β) :
  m7 (J3 300) 300 (((2 * m - 1 - b : Nat) : Int), (s : Int), ((2 * s * b : Nat) : Int), ((2 * s * b : Nat) : Int), p9 (b65 (b7h s a) s a (2 * s * b) 0), res, (List.range 256).map w5, ()) K
   = K (((2 * m - 1 - b : Nat) : Int), (s : Int), ((2 * s * b : Nat) : Int), p9 (b65 (b7h s a) s a (2 * s * (b + 1)) 0), res, (List.range 256).map w5, ()) := by
 have hat := d8D hm hb
 have hnext : 2 * s * (b + 1) = 2 * s * b + 2 * s := by rw [Nat.mul_add, Nat.mul_one]
 rw [hnext]
 have hk : 2 * m - 1 - b < 256 := by omega
 have hz := c0M (2 * m - 1 - b)
 have hzg : ((List.range 256).map w5).getD (2 * m - 1 - b) 0 = w5 (2 * m - 1 - b) := Q2 hk
 have hlo := fun r (hr : r < s) => c8S (b := b) hs hr a
 have hhi := fun r (hr : r < s) => c8R (b := b) hm hs hr a
 generalize 2 * s * b = c at *
 generalize 2 * m - 1 - b = k at *
 refine J0 (F := J3 300) (s := fun r => ((k : Int), (s : Int), (c : Int), ((c + r : Nat) : Int), p9 (b65 (b7h s a) s a c r), res, (List.range 256).map w5, ())) (y := ((k : Int), (s : Int), (c : Int), p9 (b65 (b7h s a) s a (c + 2 * s) 0), res, (List.range 256).map w5, ())) s ?_ ?_ 300 (by omega)
 ·intro r hr kn
  have h1 := ha.2 (c + r)
  have h2 := ha.2 (c + r + s)
  have hl := hlo r hr
  have hh := hhi r hr
  have ec : ((c + r : Nat) : Int) + (s : Int) = ((c + r + s : Nat) : Int) := by omega
  have ht := b5m (a := w5 k) (b := a.getD (c + r + s) 0 - a.getD (c + r) 0) (by omega) (by omega)
  unfold J3
  simp (disch := omega) only [if_pos, c7, M4, ec, Int.toNat_natCast, hzg, d1B hs hr (a := a) (c := c), d1A hr (a := a) (c := c), ht, a5z, Option.bind_some]
  rw [← hl, ← hh, c5w hr]
  rfl
 ·intro kn
  unfold J3
  simp (disch := omega) only [if_neg, c7]
  rw [c5v]
theorem c91 {β : Type} {s m : Nat} (hm : s * m = 128) (hs : 0 < s) (hs128 : s ≤ 128) (hm0 : 0 < m) (hm128 : m ≤ 128) {a : List Int} (ha : dred a) (res : List Int) (K : Int × Int × List Int × List Int × List Int × Unit → Option β) :
  m7 (M9 300) 300 (((2 * m : Nat) : Int), (s : Int), 0, a, res, (List.range 256).map w5, ()) K = K (((m : Nat) : Int), (s : Int), a48 s a, res, (List.range 256).map w5, ()) := by
 have hall : 2 * s * m = 256 := by rw [Nat.mul_assoc, hm]
 refine i8 (F := M9 300) (s := fun b => (((2 * m - b : Nat) : Int), (s : Int), ((2 * s * b : Nat) : Int), p9 (b65 (b7h s a) s a (2 * s * b) 0), res, (List.range 256).map w5, ())) (y := (((m : Nat) : Int), (s : Int), a48 s a, res, (List.range 256).map w5, ())) m ?_ ?_ ?_ 300 (by omega)
 ·rw [Nat.mul_zero, c5x ha.1]; rfl
 ·intro b hb kn
  have hat := d8D hm hb
  have hnext : 2 * s * (b + 1) = 2 * s * b + 2 * s := by rw [Nat.mul_add, Nat.mul_one]
  unfold M9
  dsimp only
  rw [if_pos (by omega), c7 (by omega) (by omega), show ((2 * m - b : Nat) : Int) - 1 = ((2 * m - 1 - b : Nat) : Int) by omega]
  refine (c90 hm hs hs128 hb hm128 ha res _).trans ?_
  rw [hnext]
  simp (disch := omega) only [c7]
  rw [show 2 * m - 1 - b = 2 * m - (b + 1) by omega, show ((2 * s * b : Nat) : Int) + 2 * (s : Int) = ((2 * s * b + 2 * s : Nat) : Int) by omega]
 ·intro kn
  unfold M9
  dsimp only
  rw [if_neg (by omega), hall, c8L, show 2 * m - m = m by omega]
  rfl
theorem c4u : ∀ x r, a5B x = some r → ∃ N, a5F N x = some r := by
 refine d9 (ks := a5c) (rs := a5d) fun x hw _ => ⟨0, ?_⟩
 obtain ⟨(a : Int), u⟩ := x
 have ha : -2147483648 ≤ a ∧ a ≤ 2147483647 := s9.1 hw.1
 unfold a5F
 dsimp only
 rw [b5m ha (by omega)]
 rfl
theorem d3s {a : Int} (h : -2147483648 ≤ a) (h' : a ≤ 2147483647) : a5B (a, ()) = some (a * 8347681 % 8380417) :=
 d8 (ks := a5c) (rs := a5d) (x := (a, ())) ⟨s9.2 ⟨h, h'⟩, trivial⟩ trivial
theorem a76 : ∀ x r, E2 x = some r → ∃ N, E4 N x = some r := by
 refine d9 (ks := o7) (rs := o8) fun x hw _ => ⟨257, ?_⟩
 obtain ⟨(a : List Int), u, u'⟩ := x
 have ha : E5 256 a := v8.1 hw.1
 have hl := ha.1
 unfold E4
 refine (J0 (s := fun i => (a, (i : Int), part (fun i => a.getD i 0 * 8347681 % 8380417) i a, List.replicate 256 0, ())) (y := (p9 fun i => a.getD i 0 * 8347681 % 8380417, List.replicate 256 0, ())) 256 ?_ ?_ 257 (by omega)).trans ?_
 ·intro i hi kn
  have h0 := b1p ha i
  unfold u5
  simp (disch := omega) only [if_pos, c7, Int.toNat_natCast, d3s, Option.bind_some]
  rw [u3 (by omega) rfl, Int.natCast_add]
  rfl
 ·intro kn
  unfold u5
  simp (disch := omega) only [if_neg]
  rw [B7 hl]
  rfl
 ·rfl
theorem c3S : ∀ i, i < 8 → 2 ^ i * (128 / 2 ^ i) = 128 ∧ 0 < 2 ^ i ∧ 2 ^ i ≤ 128 ∧ 0 < 128 / 2 ^ i ∧ 128 / 2 ^ i ≤ 128 ∧ 2 * (128 / 2 ^ i) = 256 / 2 ^ i ∧ 128 / 2 ^ i = 256 / 2 ^ (i + 1) ∧ 2 * 2 ^ i = 2 ^ (i + 1) := by decide
theorem c7R : ∀ x r, a31 x = some r → ∃ N, a9z N x = some r := by
 refine d9 (ks := Q3) (rs := a7I) fun x hw _ => ⟨300, ?_⟩
 obtain ⟨(a : List Int), u⟩ := x
 have ha := b97.1 hw
 unfold a9z
 dsimp only
 rw [b5l ha, c5j]
 simp only [Option.bind_some]
 generalize List.replicate 256 (0 : Int) = Z
 refine (J0 (F := X9 300) (s := fun i => (((256 / 2 ^ i : Nat) : Int), ((2 ^ i : Nat) : Int), a7E a i, Z, (List.range 256).map w5, ())) (y := (a7E a 8, Z, ())) 8 ?_ ?_ 300 (by omega)).trans ?_
 ·intro i hi kn
  obtain ⟨f1, f2, f3, f4, f5, f6, f7, f8⟩ := c3S i hi
  unfold X9
  dsimp only
  rw [if_pos (show ((2 ^ i : Nat) : Int) ≤ 128 from Int.ofNat_le.2 f3), ← f6]
  refine (c91 f1 f2 f3 f4 f5 (c0J a i) _ _).trans ?_
  simp (disch := omega) only [c7]
  rw [f7, show ((2 ^ i : Nat) : Int) * 2 = ((2 ^ (i + 1) : Nat) : Int) by omega]
  rfl
 ·intro kn
  unfold X9
  dsimp only
  rw [if_neg (by decide)]
 have hr := (c0J a 8).i32
 have h : E2 (a7E a 8, (), ()) = some (b36 a) := d8 (ks := o7) (rs := o8) (x := (a7E a 8, (), ())) ⟨v8.2 hr, trivial, trivial⟩ trivial
 dsimp only
 rw [h]
 rfl
theorem c6Y {a : List Int} (h : E5 256 a) : a31 (a, ()) = some (b36 a) := d8 (ks := Q3) (rs := a7I) (x := (a, ())) (b97.2 h) trivial
theorem c2P : ∀ x r, Z4 x = some r → ∃ N, a4o N x = some r := by
 refine d9 (ks := R8) (rs := R9) fun x hw _ => ⟨300, ?_⟩
 obtain ⟨(a : List Int), (b : List Int), u⟩ := x
 obtain ⟨ha, hb⟩ := c24.1 hw
 unfold a4o
 generalize List.replicate 256 (0 : Int) = Z
 refine (J0 (F := K4 300) (s := fun i => ((i : Int), part (fun j => a.getD j 0 * b.getD j 0 % 8380417) i a, b, Z, ())) (y := (a6b a b, Z, ())) 256 ?_ ?_ 300 (by omega)).trans ?_
 ·intro i hi kn
  have h1 := b1p ha i
  have h2 := b1p hb i
  have hp : (part (fun j => a.getD j 0 * b.getD j 0 % 8380417) i a).getD i 0 = a.getD i 0 := b6G (Nat.le_refl i)
  unfold K4
  dsimp only
  rw [if_pos (by omega), if_pos (by omega), if_pos (by omega), Int.toNat_natCast, if_pos hi, if_pos (by omega), if_pos (by omega), if_pos hi, hp, b5m h1 h2]
  simp only [Option.bind_some]
  rw [if_pos (by omega), if_pos (by omega), if_pos hi, u3 (h := fun j => a.getD j 0 * b.getD j 0 % 8380417) (i := i) (a := a) (z := a.getD i 0 * b.getD i 0 % 8380417) (by rw [ha.1]; exact hi) rfl, c7 (by omega) (by omega), Int.natCast_add]
  rfl
 ·intro kn
  unfold K4
  dsimp only
  rw [if_neg (by omega), B7 ha.1]
  rfl
 ·rfl
theorem c0o {a b : List Int} (h : E5 256 a) (h' : E5 256 b) : Z4 (a, b, ()) = some (a6b a b) := d8 (ks := R8) (rs := R9) (x := (a, b, ())) (c24.2 ⟨h, h'⟩) trivial
theorem c7S : ∀ x r, U6 x = some r → ∃ N, a9A N x = some r := by
 refine d9 (ks := a1F) (rs := a1G) fun x hw _ => ⟨0, ?_⟩
 obtain ⟨(a : List Int), (b : List Int), u⟩ := x
 obtain ⟨ha, hb⟩ := c24.1 hw
 show _ = some (b0y a b)
 unfold a9A
 have hz := d0a
 dsimp only
 generalize List.replicate 256 (0 : Int) = Z at hz ⊢
 by_cases h1 : a = Z
 ·rw [if_pos h1, h1, hz]
 ·rw [if_neg h1]
  by_cases h2 : b = Z
  ·rw [if_pos h2, h2, c99, hz]
  ·rw [if_neg h2, c0m ha, c0m hb]
   simp only [Option.bind_some]
   rw [c0o (b1d a).i32 (b1d b).i32]
   simp only [Option.bind_some]
   rw [c6Y (c3c _ _).i32]
   rfl
theorem c6Z {a b : List Int} (h : E5 256 a) (h' : E5 256 b) : U6 (a, b, ()) = some (b0y a b) := d8 (ks := a1F) (rs := a1G) (x := (a, b, ())) (c24.2 ⟨h, h'⟩) trivial
theorem d09 {a b : List Int} (h : E5 256 a) (h' : E5 256 b) : a0v (a, b, ()) = some (b5x a b) := d8 (ks := a1H) (rs := a1I) (x := (a, b, ())) (c24.2 ⟨h, h'⟩) trivial
end Go.Ax.TryP
