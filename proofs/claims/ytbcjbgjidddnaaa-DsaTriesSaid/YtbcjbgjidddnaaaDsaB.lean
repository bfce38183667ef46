/- A part of the proof: DdS1, DdP1, DdQ1, DdQ2. -/
import Derived.Test.YtbcjbgjidddnaaaDsaA
set_option linter.unusedVariables false
namespace Go.Ax.TryP
open Go.Proofs
def p9 (h : Nat → Int) : List Int := (List.range 256).map h
def B8 (a : List Int) : List Int := p9 fun i => a.getD i 0 % 8380417
def d4w (n : Nat) : Nat := (List.range 8).foldl (fun s i => 2 * s + n / 2 ^ i % 2) 0
def w5 (k : Nat) : Int := 1753 ^ d4w k % 8380417
def b7m (s : Nat) (a : List Int) (j : Nat) : Int :=
 if j % (2 * s) < s then (a.getD j 0 + w5 (128 / s + j / (2 * s)) * a.getD (j + s) 0 % 8380417) % 8380417
 else (a.getD (j - s) 0 - w5 (128 / s + j / (2 * s)) * a.getD j 0 % 8380417) % 8380417
def a9i (s : Nat) (a : List Int) : List Int := p9 (b7m s a)
def a3Y (a : List Int) : Nat → List Int
 | 0 => B8 a
 | i + 1 => a9i (128 / 2 ^ i) (a3Y a i)
def a05 (a : List Int) : List Int := a3Y a 8
def blk (m : Nat) (a : List Int) (b : Nat) : List Int := (a.drop (b * m)).take m
theorem a1A (h : Nat → Int) : (p9 h).length = 256 := by simp [p9]
theorem i9 {h : Nat → Int} {i : Nat} (hi : i < 256) : (p9 h).getD i 0 = h i := Q2 hi
def b7l (s : Nat) (a : List Int) (j : Nat) : Int :=
 if j % (2 * s) < s then (a.getD j 0 + a.getD (j + s) 0) % 8380417
 else w5 (2 * (128 / s) - 1 - j / (2 * s)) * (a.getD j 0 - a.getD (j - s) 0) % 8380417
def a48 (s : Nat) (a : List Int) : List Int := p9 (b7l s a)
def a7G (a : List Int) : Nat → List Int
 | 0 => B8 a
 | i + 1 => a48 (2 ^ i) (a7G a i)
def b4a (a : List Int) : List Int := p9 fun j => (a7G a 8).getD j 0 * 8347681 % 8380417
def b8G : List Int := List.replicate 256 0
def b2R (x m : Int) : Int := if x % m > m / 2 then x % m - m else x % m
def fPl (z : Int) : Int := b2R (z % 8380417) 8192
def fPh (z : Int) : Int := (z % 8380417 - fPl z) / 8192
def d5i (z : Int) : Int := b2R (z % 8380417) 523776
def fDl (z : Int) : Int := if z % 8380417 - d5i z = 8380416 then d5i z - 1 else d5i z
def fDh (z : Int) : Int := if z % 8380417 - d5i z = 8380416 then 0 else (z % 8380417 - d5i z) / 523776
def c35 (a : List Int) : List Int × List Int := (p9 fun i => fPh (a.getD i 0), p9 fun i => fPl (a.getD i 0))
def b5j (a : List Int) : List Int × List Int := (p9 fun i => fDh (a.getD i 0), p9 fun i => fDl (a.getD i 0))
noncomputable def u1 : Int × Unit → Option Int := a0n (ks := [.int .i64]) (rs := [.int .i32]) (fun _ => True) fun x => x.1 % 8380417
noncomputable def a2a : Int × Unit → Option Int := a0n (ks := [.int .i32]) (rs := [.int .i32]) (fun _ => True) fun x => x.1 % 8380417
noncomputable def z8 : List Int × Unit × Unit → Option (List Int) := a0n (ks := [.xs (.int .i32) 256, .fnc 66]) (rs := [.xs (.int .i32) 256]) (fun _ => True) fun x => B8 x.1
noncomputable def Q1 : List Int × Unit → Option (List Int) := a0n (ks := [.xs (.int .i32) 256]) (rs := [.xs (.int .i32) 256]) (fun _ => True) fun x => B8 x.1
noncomputable def a4N : Int × Int × Unit → Option Int := a0n (ks := [.int .i32, .int .i32]) (rs := [.int .i32]) (fun x => 0 ≤ x.1 ∧ x.1 ≤ 8380416 ∧ 0 < x.2.1 ∧ x.2.1 ≤ 523776) fun x => b2R x.1 x.2.1
noncomputable def a5C : Int × Unit → Option (Int × Int) := a0n (ks := [.int .i32]) (rs := [.int .i32, .int .i32]) (fun _ => True) fun x => (fDh x.1, fDl x.1)
noncomputable def U5 : List Int × Unit → Option (List Int × List Int) := a0n (ks := [.xs (.int .i32) 256]) (rs := [.xs (.int .i32) 256, .xs (.int .i32) 256]) (fun _ => True) fun x => c35 x.1
noncomputable def x3 : List Int × Unit → Option (List Int × List Int) := a0n (ks := [.xs (.int .i32) 256]) (rs := [.xs (.int .i32) 256, .xs (.int .i32) 256]) (fun _ => True) fun x => b5j x.1
def a6d (a b : List Int) : List Int := p9 fun j => a.getD j 0 * b.getD j 0 % 8380417
def b0C (a b : List Int) : List Int := b4a (a6d (a05 a) (a05 b))
noncomputable def N5 : Int × Int × Unit → Option Int := a0n (ks := [.int .i32, .int .i32]) (rs := [.int .i32]) (fun _ => True) fun x => x.1 * x.2.1 % 8380417
noncomputable def a1C : Unit → Option (List Int) := a0n (ks := []) (rs := [.xs (.int .i32) 256]) (fun _ => True) fun _ => (List.range 256).map w5
noncomputable def a0w : List Int × Unit → Option (List Int) := a0n (ks := [.xs (.int .i32) 256]) (rs := [.xs (.int .i32) 256]) (fun _ => True) fun x => a05 x.1
noncomputable def a5B : Int × Unit → Option Int := a0n (ks := [.int .i32]) (rs := [.int .i32]) (fun _ => True) fun x => x.1 * 8347681 % 8380417
noncomputable def E3 : List Int × Unit × Unit → Option (List Int) := a0n (ks := [.xs (.int .i32) 256, .fnc 61]) (rs := [.xs (.int .i32) 256]) (fun _ => True) fun x => p9 fun j => x.1.getD j 0 * 8347681 % 8380417
noncomputable def a34 : List Int × Unit → Option (List Int) := a0n (ks := [.xs (.int .i32) 256]) (rs := [.xs (.int .i32) 256]) (fun _ => True) fun x => b4a x.1
noncomputable def Z7 : List Int × List Int × Unit → Option (List Int) := a0n (ks := [.xs (.int .i32) 256, .xs (.int .i32) 256]) (rs := [.xs (.int .i32) 256]) (fun _ => True) fun x => a6d x.1 x.2.1
noncomputable def U4 : List Int × List Int × Unit → Option (List Int) := a0n (ks := [.xs (.int .i32) 256, .xs (.int .i32) 256]) (rs := [.xs (.int .i32) 256]) (fun _ => True) fun x => b0C x.1 x.2.1
noncomputable def a25 : Int × Unit → Option (Int) := a0n (ks := [.int .u8]) (rs := [.int .u8]) (fun _ => True) fun x => (d4w x.1.toNat : Int)
def c2r (z : Int) : Int := if z % 8380417 > 4190208 then z % 8380417 - 8380417 else z % 8380417
def b39 (a : List Int) : List Int := p9 fun i => c2r (a.getD i 0)
def d2a (z : Int) : Int := if z < 0 then -z else z
@[irreducible] def b7z (a : List Int) (n : Nat) : Int := (List.range n).foldl (fun m i => if d2a (c2r (a.getD i 0)) > m then d2a (c2r (a.getD i 0)) else m) 0
def a1t (a : List Int) : Int := b7z a 256
def b0B (a b : List Int) : List Int := p9 fun i => (a.getD i 0 + b.getD i 0) % 8380417
def b5A (a b : List Int) : List Int := p9 fun i => (a.getD i 0 - b.getD i 0) % 8380417
def a27 (z r : List Int) (i : Nat) : Int := if fDh (r.getD i 0) ≠ fDh ((r.getD i 0 + z.getD i 0) % 8380417) then 1 else 0
@[irreducible] def c7m (h : Nat → Int) (n : Nat) : Int := (List.range n).foldl (fun m i => if h i ≠ 0 then m + 1 else m) 0
def d1Z (z r : List Int) : List Int × Int := (p9 (a27 z r), c7m (a27 z r) 256)
def b67 (h r : Int) : Int := if h ≠ 0 then if fDl r > 0 then (fDh r + 1) % 16 else (fDh r + 15) % 16 else fDh r
def d6e (h r : List Int) : List Int := p9 fun i => b67 (h.getD i 0) (r.getD i 0)
noncomputable def a26 : Int × Unit → Option Int := a0n (ks := [.int .i32]) (rs := [.int .i32]) (fun _ => True) fun x => c2r x.1
noncomputable def A6 : List Int × Unit × Unit → Option (List Int) := a0n (ks := [.xs (.int .i32) 256, .fnc 67]) (rs := [.xs (.int .i32) 256]) (fun _ => True) fun x => b39 x.1
noncomputable def a1B : List Int × Unit → Option (List Int) := a0n (ks := [.xs (.int .i32) 256]) (rs := [.xs (.int .i32) 256]) (fun _ => True) fun x => b39 x.1
noncomputable def T4 : List Int × Unit → Option Int := a0n (ks := [.xs (.int .i32) 256]) (rs := [.int .i32]) (fun _ => True) fun x => a1t x.1
noncomputable def Q0 : List Int × List Int × Unit → Option (List Int) := a0n (ks := [.xs (.int .i32) 256, .xs (.int .i32) 256]) (rs := [.xs (.int .i32) 256]) (fun _ => True) fun x => b0B x.1 x.2.1
noncomputable def a0x : List Int × List Int × Unit → Option (List Int) := a0n (ks := [.xs (.int .i32) 256, .xs (.int .i32) 256]) (rs := [.xs (.int .i32) 256]) (fun _ => True) fun x => b5A x.1 x.2.1
noncomputable def X6 : List Int × List Int × Unit → Option (List Int × Int) := a0n (ks := [.xs (.int .i32) 256, .xs (.int .i32) 256]) (rs := [.xs .bool 256, .int .i64]) (fun _ => True) fun x => d1Z x.1 x.2.1
noncomputable def a0y : List Int × List Int × Unit → Option (List Int) := a0n (ks := [.xs .bool 256, .xs (.int .i32) 256]) (rs := [.xs (.int .i32) 256]) (fun _ => True) fun x => d6e x.1 x.2.1
end Go.Ax.TryP
set_option linter.unusedVariables false
namespace Go.Ax.TryP
open Go.Proofs
noncomputable def p_dring_below_E : AE := AE.of [(2, ty2), (21, ty21)] []
noncomputable def c1v : Hints := [(3000000, [2])]
noncomputable def c1w : Code := (Try.f45).body.getD .skip
abbrev a5h : List Kd := [.int .i64]
abbrev a5i : List Kd := [.int .i32]
noncomputable def a5J (N : Nat) (x : Int × Unit) : Option (Int) :=
 if ((Int.tmod x.1 (8380417:Int)) < (0:Int)) then
  some (IntKind.i32.wrap (IntKind.i64.wrap ((Int.tmod x.1 (8380417:Int)) + (8380417:Int))))
 else
  some (IntKind.i32.wrap (Int.tmod x.1 (8380417:Int)))
theorem b70 : p_dring_below_E.Ok Try.prog := AE.of_ok (all_cons a88 (all_cons u4 c6)) c6
theorem b9y (hE : p_dring_below_E.Ok Try.prog) {g : Ds [.int .i64] → Option (Rs [.int .i32])} (hg : ∀ x r, g x = some r → ∃ N, a5J N x = some r) : c8 Try.prog 45 ⟨[.int .i64], [.int .i32], g⟩ :=
 i5 (E := p_dring_below_E) (H := c1v) (L := fun N => LT.nil) (c := c1w) (ks := a5h) (rs := a5i) (F := a5J) hE mix Try.func45 (by kernel_rfl) (fun N => OkAll.nil) (fun _ _ => by kernel_rfl) hg
noncomputable abbrev i7 : Sig := ⟨[.int .i64], [.int .i32], u1⟩
noncomputable def p_dring_Reduce_1_E : AE := AE.of [(2, ty2), (21, ty21)] [(45, i7)]
noncomputable def b56 : Hints := [(3000000, [2])]
noncomputable def b57 : Code := (Try.f66).body.getD .skip
abbrev a2y : List Kd := [.int .i32]
abbrev a2z : List Kd := [.int .i32]
noncomputable def a2e (N : Nat) (x : Int × Unit) : Option (Int) :=
 (u1 ((IntKind.i64.wrap x.1), ())).bind fun r1 => (
 some r1)
theorem b2Y (e0 : c8 Try.prog 45 i7) : p_dring_Reduce_1_E.Ok Try.prog := AE.of_ok (all_cons a88 (all_cons u4 c6)) (all_cons ⟨e0, o5⟩ c6)
theorem b4p (hE : p_dring_Reduce_1_E.Ok Try.prog) {g : Ds [.int .i32] → Option (Rs [.int .i32])} (hg : ∀ x r, g x = some r → ∃ N, a2e N x = some r) : c8 Try.prog 66 ⟨[.int .i32], [.int .i32], g⟩ :=
 i5 (E := p_dring_Reduce_1_E) (H := b56) (L := fun N => LT.nil) (c := b57) (ks := a2y) (rs := a2z) (F := a2e) hE mix Try.func66 (by kernel_rfl) (fun N => OkAll.nil) (fun _ _ => by kernel_rfl) hg
noncomputable abbrev a44 : Sig := ⟨[.int .i32], [.int .i32], a2a⟩
noncomputable def p_dring_each__dring_Reduce_1_E : AE := AE.of [(21, ty21), (40, ty40)] [(66, a44)]
noncomputable def T7 : Hints := [(2, [1, 2, 4, 7, 8]), (2000000, [2, 4]), (2000001, [1, 2, 4, 7, 8]), (3000000, [4])]
noncomputable def F4 : Code := (Try.f57).body.getD .skip
noncomputable def a3k : Shape := mkS { tmps := V :: .sc (.fn 66) :: .sc (.ptr 0 0 false) :: V :: .sc (.ptr 1 0 false) :: V :: V :: .agg [.xs b32 (some 256)] :: .sc (.int .i64) :: pv 10 [], mem := [.live [.xs b32 (some 256)] (.own), .live [.xs b32 (some 256)] (.own)] } [.xs, .int, .xs, .xs]
abbrev W12 : Type := List Int × Int × List Int × List Int × Unit
noncomputable def o9 (N : Nat) (β : Type) (x : W12) (kn : W12 → Option β) (ke : W5 → Option β) : Option β :=
 if (x.2.1 < (256:Int)) then
  if 0 ≤ x.2.1 then (
  if x.2.1 < 256 then (
  if (x.2.1.toNat) < 256 then (
  (a2a ((List.getD x.1 (x.2.1.toNat) 0), ())).bind fun r1 => (
  if 0 ≤ x.2.1 then (
  if x.2.1 < 256 then (
  if (x.2.1.toNat) < 256 then (
  kn (x.1, (IntKind.i64.wrap (x.2.1 + (1:Int))), (List.set x.2.2.1 (x.2.1.toNat) r1), x.2.2.2.1, ())) else none) else none) else none)) else none) else none) else none
 else
  ke (x.2.2.1, x.2.2.2.1, ())
noncomputable def a2T : Go' W5 := fun y K => K (.exit 0) (fSt { tmps := V :: V :: .sc (.ptr 0 0 false) :: V :: .sc (.ptr 1 0 false) :: pv 14 [], mem := [.live [.xs b32 (some 256)] (.own), .live [.xs b32 (some 256)] (.own)] } [.xs, .xs] y)
noncomputable def O6 (N : Nat) : LT := upd (LT.nil) 2 (o6 a3k N (o9 N) a2T)
theorem a2U (N : Nat) : OkAll p_dring_each__dring_Reduce_1_E T7 N (O6 N) (w9 F4) :=
 d6 (c := d7 2 F4) (OkAll.nil) (by kernel_rfl) (fun x => by kernel_rfl) (fun β x kn ke => by kernel_rfl)
abbrev l9 : List Kd := [.xs b32 256, .fnc 66]
abbrev m5 : List Kd := [.xs b32 256]
noncomputable def z9 (N : Nat) (x : List Int × Unit × Unit) : Option (List Int) :=
 m7 (o9 N) N (x.1, (0:Int), x.1, (List.replicate 256 0), ()) fun y2 => (
 some y2.1)
theorem a3C (e0 : c8 Try.prog 66 a44) : p_dring_each__dring_Reduce_1_E.Ok Try.prog := AE.of_ok (all_cons u4 (all_cons q8 c6)) (all_cons ⟨e0, b1o⟩ c6)
theorem a4c (hE : p_dring_each__dring_Reduce_1_E.Ok Try.prog) {g : Ds l9 → Option (Rs m5)} (hg : ∀ x r, g x = some r → ∃ N, z9 N x = some r) : c8 Try.prog 57 ⟨l9, m5, g⟩ :=
 i5 (E := p_dring_each__dring_Reduce_1_E) (H := T7) (L := fun N => O6 N) (c := F4) (ks := l9) (rs := m5) (F := z9) hE mix Try.func57 (by kernel_rfl) (fun N => a2U N) (fun _ _ => by kernel_rfl) hg
noncomputable abbrev I8 : Sig := ⟨[.xs b32 256, .fnc 66], [.xs b32 256], z8⟩
noncomputable def p_dring_Reduce_E : AE := AE.of [(40, ty40)] [(57, I8)]
noncomputable def b9v : Hints := [(3000000, [2])]
noncomputable def b9w : Code := (Try.f47).body.getD .skip
abbrev D7 : List Kd := [.xs b32 256]
abbrev a38 : List Kd := [.xs b32 256]
noncomputable def a4s (N : Nat) (x : List Int × Unit) : Option (List Int) :=
 (z8 (x.1, (), ())).bind fun r1 => (
 some r1)
theorem b58 (e0 : c8 Try.prog 57 I8) : p_dring_Reduce_E.Ok Try.prog := AE.of_ok (all_cons q8 c6) (all_cons ⟨e0, a03⟩ c6)
theorem b7V (hE : p_dring_Reduce_E.Ok Try.prog) {g : Ds D7 → Option (Rs D7)} (hg : ∀ x r, g x = some r → ∃ N, a4s N x = some r) : c8 Try.prog 47 ⟨D7, D7, g⟩ :=
 i5 (E := p_dring_Reduce_E) (H := b9v) (L := fun N => LT.nil) (c := b9w) (ks := D7) (rs := a38) (F := a4s) hE mix Try.func47 (by kernel_rfl) (fun N => OkAll.nil) (fun _ _ => by kernel_rfl) hg
noncomputable def p_dring_near_E : AE := AE.of [] []
noncomputable def c2E : Hints := [(3000000, [4])]
noncomputable def c2F : Code := (Try.f48).body.getD .skip
abbrev a0L : List Kd := [.int .i32, .int .i32]
abbrev a6n : List Kd := [.int .i32]
noncomputable def a7g (N : Nat) (x : Int × Int × Unit) : Option (Int) :=
 if x.2.1 = 0 then none else (
 if ((Int.tmod x.1 x.2.1) > (IntKind.i32.wrap (Int.tdiv x.2.1 (2:Int)))) then
  some (IntKind.i32.wrap ((Int.tmod x.1 x.2.1) - x.2.1))
 else
  some (Int.tmod x.1 x.2.1))
theorem b9A : p_dring_near_E.Ok Try.prog := AE.of_ok c6 c6
theorem c1y (hE : p_dring_near_E.Ok Try.prog) {g : Ds a0L → Option (Rs [.int .i32])} (hg : ∀ x r, g x = some r → ∃ N, a7g N x = some r) : c8 Try.prog 48 ⟨a0L, [.int .i32], g⟩ :=
 i5 (E := p_dring_near_E) (H := c2E) (L := fun N => LT.nil) (c := c2F) (ks := a0L) (rs := a6n) (F := a7g) hE mix Try.func48 (by kernel_rfl) (fun N => OkAll.nil) (fun _ _ => by kernel_rfl) hg
noncomputable abbrev a4E : Sig := ⟨[.int .i32, .int .i32], [.int .i32], a4N⟩
noncomputable def p_dring_parts_E : AE := AE.of [(2, ty2), (21, ty21)] [(45, i7), (48, a4E)]
noncomputable def c1A : Hints := [(3000000, [2, 3])]
noncomputable def c1B : Code := (Try.f68).body.getD .skip
abbrev a5k : List Kd := [.int .i32]
abbrev Y4 : List Kd := [.int .i32, .int .i32]
noncomputable def a5L (N : Nat) (x : Int × Unit) : Option (Int × Int) :=
 (u1 ((IntKind.i64.wrap x.1), ())).bind fun r1 => (
 (a4N (r1, (523776:Int), ())).bind fun r2 => (
 if ((IntKind.i32.wrap (r1 - r2)) = (8380416:Int)) then
  some ((0:Int), (IntKind.i32.wrap (r2 - (1:Int))))
 else
  some ((IntKind.i32.wrap (Int.tdiv (IntKind.i32.wrap (r1 - r2)) (523776:Int))), r2)))
theorem b74 (e0 : c8 Try.prog 45 i7) (e1 : c8 Try.prog 48 a4E) : p_dring_parts_E.Ok Try.prog := AE.of_ok (all_cons a88 (all_cons u4 c6)) (all_cons ⟨e0, o5⟩ (all_cons ⟨e1, a8m⟩ c6))
theorem b9C (hE : p_dring_parts_E.Ok Try.prog) {g : Ds [.int .i32] → Option (Rs Y4)} (hg : ∀ x r, g x = some r → ∃ N, a5L N x = some r) : c8 Try.prog 68 ⟨[.int .i32], Y4, g⟩ :=
 i5 (E := p_dring_parts_E) (H := c1A) (L := fun N => LT.nil) (c := c1B) (ks := a5k) (rs := Y4) (F := a5L) hE mix Try.func68 (by kernel_rfl) (fun N => OkAll.nil) (fun _ _ => by kernel_rfl) hg
noncomputable abbrev E1 : Sig := ⟨[.xs b32 256], [.xs b32 256], Q1⟩
noncomputable def p_dring_Power2Round_E : AE := AE.of [(21, ty21), (40, ty40)] [(47, E1), (48, a4E)]
noncomputable def a4S : Hints := [(2, [2, 3, 7, 8]), (2000000, [2, 3]), (2000001, [2, 3, 7, 8]), (3000000, [2, 3])]
noncomputable def a0H : Code := (Try.f20).body.getD .skip
noncomputable def a8E : Shape := mkS { tmps := V :: V :: .sc (.ptr 0 0 false) :: .sc (.ptr 1 0 false) :: pv 3 (.agg [.xs b32 (some 256)] :: .sc (.int .i64) :: pv 18 []), mem := [.live [.xs b32 (some 256)] (.own), .live [.xs b32 (some 256)] (.own)] } [.xs, .int, .xs, .xs]
noncomputable def G2 (N : Nat) (β : Type) (x : W12) (kn : W12 → Option β) (ke : W5 → Option β) : Option β :=
 if (x.2.1 < (256:Int)) then
  if 0 ≤ x.2.1 then (
  if x.2.1 < 256 then (
  if (x.2.1.toNat) < 256 then (
  (a4N ((List.getD x.1 (x.2.1.toNat) 0), (8192:Int), ())).bind fun r2 => (
  if 0 ≤ x.2.1 then (
  if x.2.1 < 256 then (
  if (x.2.1.toNat) < 256 then (
  if 0 ≤ x.2.1 then (
  if x.2.1 < 256 then (
  if (x.2.1.toNat) < 256 then (
  if 0 ≤ x.2.1 then (
  if x.2.1 < 256 then (
  if (x.2.1.toNat) < 256 then (
  kn (x.1, (IntKind.i64.wrap (x.2.1 + (1:Int))), (List.set x.2.2.1 (x.2.1.toNat) (b9g IntKind.i32 (IntKind.i32.wrap ((List.getD x.1 (x.2.1.toNat) 0) - (List.getD (List.set x.2.2.2.1 (x.2.1.toNat) r2) (x.2.1.toNat) 0))) (13:Int))), (List.set x.2.2.2.1 (x.2.1.toNat) r2), ())) else none) else none) else none) else none) else none) else none) else none) else none) else none)) else none) else none) else none
 else
  ke (x.2.2.1, x.2.2.2.1, ())
noncomputable def a7O : Go' W5 := fun y K => K (.exit 0) (fSt { tmps := V :: V :: .sc (.ptr 0 0 false) :: .sc (.ptr 1 0 false) :: pv 23 [], mem := [.live [.xs b32 (some 256)] (.own), .live [.xs b32 (some 256)] (.own)] } [.xs, .xs] y)
noncomputable def a2L (N : Nat) : LT := upd (LT.nil) 2 (o6 a8E N (G2 N) a7O)
theorem a7P (N : Nat) : OkAll p_dring_Power2Round_E a4S N (a2L N) (w9 a0H) :=
 d6 (c := d7 2 a0H) (OkAll.nil) (by kernel_rfl) (fun x => by kernel_rfl) (fun β x kn ke => by kernel_rfl)
abbrev C4 : List Kd := [.xs b32 256]
abbrev C5 : List Kd := [.xs b32 256, .xs b32 256]
noncomputable def V0 (N : Nat) (x : List Int × Unit) : Option (List Int × List Int) :=
 (Q1 (x.1, ())).bind fun r1 => (
 m7 (G2 N) N (r1, (0:Int), (List.replicate 256 0), (List.replicate 256 0), ()) fun y3 => (
 some (y3.1, y3.2.1)))
theorem a9H (e0 : c8 Try.prog 47 E1) (e1 : c8 Try.prog 48 a4E) : p_dring_Power2Round_E.Ok Try.prog := AE.of_ok (all_cons u4 (all_cons q8 c6)) (all_cons ⟨e0, U2⟩ (all_cons ⟨e1, a8m⟩ c6))
theorem b0N (hE : p_dring_Power2Round_E.Ok Try.prog) {g : Ds C4 → Option (Rs C5)} (hg : ∀ x r, g x = some r → ∃ N, V0 N x = some r) : c8 Try.prog 20 ⟨C4, C5, g⟩ :=
 i5 (E := p_dring_Power2Round_E) (H := a4S) (L := fun N => a2L N) (c := a0H) (ks := C4) (rs := C5) (F := V0) hE mix Try.func20 (by kernel_rfl) (fun N => a7P N) (fun _ _ => by kernel_rfl) hg
noncomputable abbrev a9b : Sig := ⟨[.int .i32], [.int .i32, .int .i32], a5C⟩
noncomputable def p_dring_Decompose_E : AE := AE.of [(21, ty21), (40, ty40)] [(68, a9b)]
noncomputable def a6h : Hints := [(2, [2, 3, 6, 7]), (2000000, [2, 3]), (2000001, [2, 3, 6, 7]), (3000000, [2, 3])]
noncomputable def a2w : Code := (Try.f53).body.getD .skip
noncomputable def b0G : Shape := mkS { tmps := V :: V :: .sc (.ptr 0 0 false) :: .sc (.ptr 1 0 false) :: V :: V :: .agg [.xs b32 (some 256)] :: .sc (.int .i64) :: pv 15 [], mem := [.live [.xs b32 (some 256)] (.own), .live [.xs b32 (some 256)] (.own)] } [.xs, .int, .xs, .xs]
noncomputable def M3 (N : Nat) (β : Type) (x : W12) (kn : W12 → Option β) (ke : W5 → Option β) : Option β :=
 if (x.2.1 < (256:Int)) then
  if 0 ≤ x.2.1 then (
  if x.2.1 < 256 then (
  if (x.2.1.toNat) < 256 then (
  (a5C ((List.getD x.1 (x.2.1.toNat) 0), ())).bind fun r1 => (
  if 0 ≤ x.2.1 then (
  if x.2.1 < 256 then (
  if (x.2.1.toNat) < 256 then (
  if 0 ≤ x.2.1 then (
  if x.2.1 < 256 then (
  if (x.2.1.toNat) < 256 then (
  kn (x.1, (IntKind.i64.wrap (x.2.1 + (1:Int))), (List.set x.2.2.1 (x.2.1.toNat) r1.1), (List.set x.2.2.2.1 (x.2.1.toNat) r1.2), ())) else none) else none) else none) else none) else none) else none)) else none) else none) else none
 else
  ke (x.2.2.1, x.2.2.2.1, ())
noncomputable def a9y : Go' W5 := fun y K => K (.exit 0) (fSt { tmps := V :: V :: .sc (.ptr 0 0 false) :: .sc (.ptr 1 0 false) :: pv 19 [], mem := [.live [.xs b32 (some 256)] (.own), .live [.xs b32 (some 256)] (.own)] } [.xs, .xs] y)
noncomputable def a3M (N : Nat) : LT := upd (LT.nil) 2 (o6 b0G N (M3 N) a9y)
theorem a9z (N : Nat) : OkAll p_dring_Decompose_E a6h N (a3M N) (w9 a2w) :=
 d6 (c := d7 2 a2w) (OkAll.nil) (by kernel_rfl) (fun x => by kernel_rfl) (fun β x kn ke => by kernel_rfl)
abbrev H3 : List Kd := [.xs b32 256]
abbrev H4 : List Kd := [.xs b32 256, .xs b32 256]
noncomputable def a09 (N : Nat) (x : List Int × Unit) : Option (List Int × List Int) :=
 m7 (M3 N) N (x.1, (0:Int), (List.replicate 256 0), (List.replicate 256 0), ()) fun y2 => (
 some (y2.1, y2.2.1))
theorem b1F (e0 : c8 Try.prog 68 a9b) : p_dring_Decompose_E.Ok Try.prog := AE.of_ok (all_cons u4 (all_cons q8 c6)) (all_cons ⟨e0, b5y⟩ c6)
theorem b2S (hE : p_dring_Decompose_E.Ok Try.prog) {g : Ds H3 → Option (Rs H4)} (hg : ∀ x r, g x = some r → ∃ N, a09 N x = some r) : c8 Try.prog 53 ⟨H3, H4, g⟩ :=
 i5 (E := p_dring_Decompose_E) (H := a6h) (L := fun N => a3M N) (c := a2w) (ks := H3) (rs := H4) (F := a09) hE mix Try.func53 (by kernel_rfl) (fun N => a9z N) (fun _ _ => by kernel_rfl) hg
noncomputable def p_dring_times_E : AE := AE.of [(2, ty2), (21, ty21)] [(45, i7)]
noncomputable def c1C : Hints := [(3000000, [4])]
noncomputable def c1D : Code := (Try.f60).body.getD .skip
abbrev Y6 : List Kd := [.int .i32, .int .i32]
abbrev a5m : List Kd := [.int .i32]
noncomputable def a5M (N : Nat) (x : Int × Int × Unit) : Option (Int) :=
 (u1 ((IntKind.i64.wrap ((IntKind.i64.wrap x.1) * (IntKind.i64.wrap x.2.1))), ())).bind fun r1 => (
 some r1)
theorem b76 (e0 : c8 Try.prog 45 i7) : p_dring_times_E.Ok Try.prog := AE.of_ok (all_cons a88 (all_cons u4 c6)) (all_cons ⟨e0, o5⟩ c6)
theorem b9D (hE : p_dring_times_E.Ok Try.prog) {g : Ds Y6 → Option (Rs [.int .i32])} (hg : ∀ x r, g x = some r → ∃ N, a5M N x = some r) : c8 Try.prog 60 ⟨Y6, [.int .i32], g⟩ :=
 i5 (E := p_dring_times_E) (H := c1C) (L := fun N => LT.nil) (c := c1D) (ks := Y6) (rs := a5m) (F := a5M) hE mix Try.func60 (by kernel_rfl) (fun N => OkAll.nil) (fun _ _ => by kernel_rfl) hg
noncomputable def p_bits_Reverse8_s0 : ByteArray := ⟨#[0, 128, 64, 192, 32, 160, 96, 224, 16, 144, 80, 208, 48, 176, 112, 240, 8, 136, 72, 200, 40, 168, 104, 232, 24, 152, 88, 216, 56, 184, 120, 248, 4, 132, 68, 196, 36, 164, 100, 228, 20, 148, 84, 212, 52, 180, 116, 244, 12, 140, 76, 204, 44, 172, 108, 236, 28, 156, 92, 220, 60, 188, 124, 252, 2, 130, 66, 194, 34, 162, 98, 226, 18, 146, 82, 210, 50, 178, 114, 242, 10, 138, 74, 202, 42, 170, 106, 234, 26, 154, 90, 218, 58, 186, 122, 250, 6, 134, 70, 198, 38, 166, 102, 230, 22, 150, 86, 214, 54, 182, 118, 246, 14, 142, 78, 206, 46, 174, 110, 238, 30, 158, 94, 222, 62, 190, 126, 254, 1, 129, 65, 193, 33, 161, 97, 225, 17, 145, 81, 209, 49, 177, 113, 241, 9, 137, 73, 201, 41, 169, 105, 233, 25, 153, 89, 217, 57, 185, 121, 249, 5, 133, 69, 197, 37, 165, 101, 229, 21, 149, 85, 213, 53, 181, 117, 245, 13, 141, 77, 205, 45, 173, 109, 237, 29, 157, 93, 221, 61, 189, 125, 253, 3, 131, 67, 195, 35, 163, 99, 227, 19, 147, 83, 211, 51, 179, 115, 243, 11, 139, 75, 203, 43, 171, 107, 235, 27, 155, 91, 219, 59, 187, 123, 251, 7, 135, 71, 199, 39, 167, 103, 231, 23, 151, 87, 215, 55, 183, 119, 247, 15, 143, 79, 207, 47, 175, 111, 239, 31, 159, 95, 223, 63, 191, 127, 255]⟩
noncomputable def p_bits_Reverse8_E : AE := AE.of [(9, ty9)] []
noncomputable def b7C : Hints := [(3000000, [2])]
noncomputable def b7D : Code := (Try.f69).body.getD .skip
abbrev a3b : List Kd := [.int .u8]
abbrev a3c : List Kd := [.int .u8]
noncomputable def a3a (N : Nat) (x : Int × Unit) : Option (Int) :=
 if 0 ≤ x.1 then (
 if x.1 < ((ByteArray.size p_bits_Reverse8_s0 : Nat) : Int) then (
 some (bt p_bits_Reverse8_s0 (x.1.toNat))) else none) else none
theorem b4h : p_bits_Reverse8_E.Ok Try.prog := AE.of_ok (all_cons d5x c6) c6
theorem b5S (hE : p_bits_Reverse8_E.Ok Try.prog) {g : Ds [.int .u8] → Option (Rs [.int .u8])} (hg : ∀ x r, g x = some r → ∃ N, a3a N x = some r) : c8 Try.prog 69 ⟨[.int .u8], [.int .u8], g⟩ :=
 i5 (E := p_bits_Reverse8_E) (H := b7C) (L := fun N => LT.nil) (c := b7D) (ks := a3b) (rs := a3c) (F := a3a) hE mix Try.func69 (by kernel_rfl) (fun N => OkAll.nil) (fun _ _ => by kernel_rfl) hg
noncomputable abbrev A3 : Sig := ⟨[.int .i32, .int .i32], [.int .i32], N5⟩
noncomputable abbrev a5Z : Sig := ⟨[.int .u8], [.int .u8], a25⟩
noncomputable def p_dring_powers_E : AE := AE.of [(3, ty3), (5, ty5), (21, ty21), (39, ty39)] [(60, A3), (69, a5Z)]
noncomputable def a5l : Hints := [(4, [0, 1, 2, 3]), (8, [0, 1, 2, 17]), (2000000, [0, 1, 2]), (2000001, [0, 1, 2, 3]), (2000002, [0, 2]), (2000003, [0, 1, 2, 17]), (3000000, [0])]
noncomputable def Y5 : Code := (Try.f59).body.getD .skip
noncomputable def b4x : Shape := mkS { tmps := .sc (.ptr 0 0 false) :: .sc (.ptr 1 0 false) :: .sc (.ptr 2 0 false) :: .sc (.int .i64) :: pv 25 [], mem := [.live [.xs b32 (some 256)] (.own), .live [.xs b32 (some 256)] (.own), .live [.xs b32 (some 256)] (.own)] } [.int, .xs, .xs, .xs]
noncomputable def L0 (N : Nat) (β : Type) (x : W4) (kn : W4 → Option β) (ke : W3 → Option β) : Option β :=
 if (x.1 < (256:Int)) then
  if 0 ≤ (IntKind.i64.wrap (x.1 - (1:Int))) then (
  if (IntKind.i64.wrap (x.1 - (1:Int))) < 256 then (
  if ((IntKind.i64.wrap (x.1 - (1:Int))).toNat) < 256 then (
  (N5 ((List.getD x.2.2.1 ((IntKind.i64.wrap (x.1 - (1:Int))).toNat) 0), (1753:Int), ())).bind fun r1 => (
  if 0 ≤ x.1 then (
  if x.1 < 256 then (
  if (x.1.toNat) < 256 then (
  kn ((IntKind.i64.wrap (x.1 + (1:Int))), x.2.1, (List.set x.2.2.1 (x.1.toNat) r1), x.2.2.2.1, ())) else none) else none) else none)) else none) else none) else none
 else
  ke (x.2.1, x.2.2.1, x.2.2.2.1, ())
noncomputable def b3d : Go' W3 := fun y K => K (.exit 0) (fSt { tmps := .sc (.ptr 0 0 false) :: .sc (.ptr 1 0 false) :: .sc (.ptr 2 0 false) :: pv 26 [], mem := [.live [.xs b32 (some 256)] (.own), .live [.xs b32 (some 256)] (.own), .live [.xs b32 (some 256)] (.own)] } [.xs, .xs, .xs] y)
noncomputable def a6o (N : Nat) : LT := upd (LT.nil) 4 (o6 b4x N (L0 N) b3d)
theorem b3e (N : Nat) : OkAll p_dring_powers_E a5l N (a6o N) (w9 Y5) :=
 d6 (c := d7 4 Y5) (OkAll.nil) (by kernel_rfl) (fun x => by kernel_rfl) (fun β x kn ke => by kernel_rfl)
noncomputable def b4y : Shape := mkS { tmps := .sc (.ptr 0 0 false) :: .sc (.ptr 1 0 false) :: .sc (.ptr 2 0 false) :: pv 14 (.sc (.int .i64) :: pv 11 []), mem := [.live [.xs b32 (some 256)] (.own), .live [.xs b32 (some 256)] (.own), .live [.xs b32 (some 256)] (.own)] } [.int, .xs, .xs, .xs]
noncomputable def L4 (N : Nat) (β : Type) (x : W4) (kn : W4 → Option β) (ke : W5 → Option β) : Option β :=
 if (x.1 < (256:Int)) then
  (a25 ((IntKind.u8.wrap x.1), ())).bind fun r3 => (
  if 0 ≤ r3 then (
  if r3 < 256 then (
  if (r3.toNat) < 256 then (
  if 0 ≤ x.1 then (
  if x.1 < 256 then (
  if (x.1.toNat) < 256 then (
  kn ((IntKind.i64.wrap (x.1 + (1:Int))), x.2.1, x.2.2.1, (List.set x.2.2.2.1 (x.1.toNat) (List.getD x.2.2.1 (r3.toNat) 0)), ())) else none) else none) else none) else none) else none) else none)
 else
  ke (x.2.1, x.2.2.2.1, ())
noncomputable def b3f : Go' W5 := fun y K => K (.exit 2) (fSt { tmps := .sc (.ptr 0 0 false) :: V :: .sc (.ptr 1 0 false) :: pv 26 [], mem := [.live [.xs b32 (some 256)] (.own), .live [.xs b32 (some 256)] (.own)] } [.xs, .xs] y)
noncomputable def a6p (N : Nat) : LT := upd (a6o N) 8 (o6 b4y N (L4 N) b3f)
theorem b3g (N : Nat) : OkAll p_dring_powers_E a5l N (a6p N) (w9 Y5) :=
 d6 (c := d7 8 Y5) (b3e N) (by kernel_rfl) (fun x => by kernel_rfl) (fun β x kn ke => by kernel_rfl)
abbrev a4e : List Kd := []
abbrev S4 : List Kd := [.xs b32 256]
noncomputable def a4v (N : Nat) (x : Unit) : Option (List Int) :=
 m7 (L0 N) N ((1:Int), (List.replicate 256 0), (List.set (List.replicate 256 0) 0 (1:Int)), (List.replicate 256 0), ()) fun y2 => (
 m7 (L4 N) N ((0:Int), y2.1, y2.2.1, y2.2.2.1, ()) fun y4 => (
 some y4.2.1))
theorem b6h (e0 : c8 Try.prog 60 A3) (e1 : c8 Try.prog 69 a5Z) : p_dring_powers_E.Ok Try.prog := AE.of_ok (all_cons a5x (all_cons T9 (all_cons u4 (all_cons c8u c6)))) (all_cons ⟨e0, N4⟩ (all_cons ⟨e1, b2O⟩ c6))
theorem b75 (hE : p_dring_powers_E.Ok Try.prog) {g : Ds [] → Option (Rs S4)} (hg : ∀ x r, g x = some r → ∃ N, a4v N x = some r) : c8 Try.prog 59 ⟨[], S4, g⟩ :=
 i5 (E := p_dring_powers_E) (H := a5l) (L := fun N => a6p N) (c := Y5) (ks := a4e) (rs := S4) (F := a4v) hE mix Try.func59 (by kernel_rfl) (fun N => b3g N) (fun _ _ => by kernel_rfl) hg
noncomputable abbrev a1z : Sig := ⟨[], [.xs b32 256], a1C⟩
noncomputable def p_dring_Ntt_E : AE := AE.of [(2, ty2), (21, ty21), (39, ty39), (40, ty40)] [(47, E1), (59, a1z), (60, A3), (45, i7)]
noncomputable def a5I : Hints := [(5, [1, 2, 3, 4, 5]), (8, [1, 2, 3, 4, 5, 6]), (12, [1, 2, 3, 4, 5, 6, 7]), (2000000, [1, 2]), (2000001, [1, 2, 3, 4, 5]), (2000002, [1, 2, 3, 4, 5]), (2000003, [1, 2, 3, 4, 5, 6]), (2000004, [1, 2, 3, 4, 5, 6]), (2000005, [1, 2, 3, 4, 5, 6, 7]), (3000000, [2])]
noncomputable def U9 : Code := (Try.f32).body.getD .skip
noncomputable def b7P : Shape := mkS { tmps := V :: .sc (.ptr 0 0 false) :: .sc (.ptr 1 0 false) :: .sc (.ptr 2 0 false) :: .sc (.int .i64) :: .sc (.int .i64) :: .sc (.int .i64) :: .sc (.int .i64) :: pv 56 [], mem := [.live [.xs b32 (some 256)] (.own), .live [.xs b32 (some 256)] (.own), .live [.xs b32 (some 256)] (.own)] } [.int, .int, .int, .int, .xs, .xs, .xs]
abbrev W13 : Type := Int × Int × Int × Int × List Int × List Int × List Int × Unit
abbrev W14 : Type := Int × Int × Int × List Int × List Int × List Int × Unit
noncomputable def J4 (N : Nat) (β : Type) (x : W13) (kn : W13 → Option β) (ke : W14 → Option β) : Option β :=
 if (x.2.2.2.1 < (IntKind.i64.wrap (x.2.2.1 + x.2.1))) then
  if 0 ≤ x.1 then (
  if x.1 < 256 then (
  if (x.1.toNat) < 256 then (
  if 0 ≤ (IntKind.i64.wrap (x.2.2.2.1 + x.2.1)) then (
  if (IntKind.i64.wrap (x.2.2.2.1 + x.2.1)) < 256 then (
  if ((IntKind.i64.wrap (x.2.2.2.1 + x.2.1)).toNat) < 256 then (
  (N5 ((List.getD x.2.2.2.2.2.2.1 (x.1.toNat) 0), (List.getD x.2.2.2.2.1 ((IntKind.i64.wrap (x.2.2.2.1 + x.2.1)).toNat) 0), ())).bind fun r3 => (
  if 0 ≤ x.2.2.2.1 then (
  if x.2.2.2.1 < 256 then (
  if (x.2.2.2.1.toNat) < 256 then (
  (u1 ((IntKind.i64.wrap ((IntKind.i64.wrap (List.getD x.2.2.2.2.1 (x.2.2.2.1.toNat) 0)) + (IntKind.i64.wrap r3))), ())).bind fun r4 => (
  if 0 ≤ x.2.2.2.1 then (
  if x.2.2.2.1 < 256 then (
  if (x.2.2.2.1.toNat) < 256 then (
  (u1 ((IntKind.i64.wrap ((IntKind.i64.wrap (List.getD x.2.2.2.2.1 (x.2.2.2.1.toNat) 0)) - (IntKind.i64.wrap r3))), ())).bind fun r5 => (
  if 0 ≤ x.2.2.2.1 then (
  if x.2.2.2.1 < 256 then (
  if (x.2.2.2.1.toNat) < 256 then (
  if 0 ≤ (IntKind.i64.wrap (x.2.2.2.1 + x.2.1)) then (
  if (IntKind.i64.wrap (x.2.2.2.1 + x.2.1)) < 256 then (
  if ((IntKind.i64.wrap (x.2.2.2.1 + x.2.1)).toNat) < 256 then (
  kn (x.1, x.2.1, x.2.2.1, (IntKind.i64.wrap (x.2.2.2.1 + (1:Int))), (List.set (List.set x.2.2.2.2.1 (x.2.2.2.1.toNat) r4) ((IntKind.i64.wrap (x.2.2.2.1 + x.2.1)).toNat) r5), x.2.2.2.2.2.1, x.2.2.2.2.2.2.1, ())) else none) else none) else none) else none) else none) else none)) else none) else none) else none)) else none) else none) else none)) else none) else none) else none) else none) else none) else none
 else
  ke (x.1, x.2.1, x.2.2.1, x.2.2.2.2.1, x.2.2.2.2.2.1, x.2.2.2.2.2.2.1, ())
noncomputable def b52 : Go' W14 := fun y K => K (.exit 4) (fSt { tmps := V :: .sc (.ptr 0 0 false) :: .sc (.ptr 1 0 false) :: .sc (.ptr 2 0 false) :: .sc (.int .i64) :: .sc (.int .i64) :: .sc (.int .i64) :: pv 57 [], mem := [.live [.xs b32 (some 256)] (.own), .live [.xs b32 (some 256)] (.own), .live [.xs b32 (some 256)] (.own)] } [.int, .int, .int, .xs, .xs, .xs] y)
noncomputable def a8C (N : Nat) : LT := upd (LT.nil) 12 (o6 b7P N (J4 N) b52)
theorem b53 (N : Nat) : OkAll p_dring_Ntt_E a5I N (a8C N) (w9 U9) :=
 d6 (c := d7 12 U9) (OkAll.nil) (by kernel_rfl) (fun x => by kernel_rfl) (fun β x kn ke => by kernel_rfl)
noncomputable def b9t : Shape := mkS { tmps := V :: .sc (.ptr 0 0 false) :: .sc (.ptr 1 0 false) :: .sc (.ptr 2 0 false) :: .sc (.int .i64) :: .sc (.int .i64) :: .sc (.int .i64) :: pv 57 [], mem := [.live [.xs b32 (some 256)] (.own), .live [.xs b32 (some 256)] (.own), .live [.xs b32 (some 256)] (.own)] } [.int, .int, .int, .xs, .xs, .xs]
abbrev W15 : Type := Int × Int × List Int × List Int × List Int × Unit
noncomputable def N0 (N : Nat) (β : Type) (x : W14) (kn : W14 → Option β) (ke : W15 → Option β) : Option β :=
 if (x.2.2.1 < (256:Int)) then
  m7 (J4 N) N ((IntKind.i64.wrap (x.1 + (1:Int))), x.2.1, x.2.2.1, x.2.2.1, x.2.2.2.1, x.2.2.2.2.1, x.2.2.2.2.2.1, ()) fun y6 => (
  kn (y6.1, y6.2.1, (IntKind.i64.wrap (y6.2.2.1 + (IntKind.i64.wrap ((2:Int) * y6.2.1)))), y6.2.2.2.1, y6.2.2.2.2.1, y6.2.2.2.2.2.1, ()))
 else
  ke (x.1, x.2.1, x.2.2.2.1, x.2.2.2.2.1, x.2.2.2.2.2.1, ())
noncomputable def b7S : Go' W15 := fun y K => K (.exit 2) (fSt { tmps := V :: .sc (.ptr 0 0 false) :: .sc (.ptr 1 0 false) :: .sc (.ptr 2 0 false) :: .sc (.int .i64) :: .sc (.int .i64) :: pv 58 [], mem := [.live [.xs b32 (some 256)] (.own), .live [.xs b32 (some 256)] (.own), .live [.xs b32 (some 256)] (.own)] } [.int, .int, .xs, .xs, .xs] y)
noncomputable def b0m (N : Nat) : LT := upd (a8C N) 8 (o6 b9t N (N0 N) b7S)
theorem b7T (N : Nat) : OkAll p_dring_Ntt_E a5I N (b0m N) (w9 U9) :=
 d6 (c := d7 8 U9) (b53 N) (by kernel_rfl) (fun x => by kernel_rfl) (fun β x kn ke => by kernel_rfl)
noncomputable def b9s : Shape := mkS { tmps := V :: .sc (.ptr 0 0 false) :: .sc (.ptr 1 0 false) :: .sc (.ptr 2 0 false) :: .sc (.int .i64) :: .sc (.int .i64) :: pv 58 [], mem := [.live [.xs b32 (some 256)] (.own), .live [.xs b32 (some 256)] (.own), .live [.xs b32 (some 256)] (.own)] } [.int, .int, .xs, .xs, .xs]
noncomputable def Y0 (N : Nat) (β : Type) (x : W15) (kn : W15 → Option β) (ke : W5 → Option β) : Option β :=
 if (x.2.1 ≥ (1:Int)) then
  m7 (N0 N) N (x.1, x.2.1, (0:Int), x.2.2.1, x.2.2.2.1, x.2.2.2.2.1, ()) fun y7 => (
  kn (y7.1, (IntKind.i64.wrap (Int.tdiv y7.2.1 (2:Int))), y7.2.2.1, y7.2.2.2.1, y7.2.2.2.2.1, ()))
 else
  ke (x.2.2.1, x.2.2.2.1, ())
noncomputable def b7Q : Go' W5 := fun y K => K (.exit 0) (fSt { tmps := V :: .sc (.ptr 0 0 false) :: .sc (.ptr 1 0 false) :: pv 61 [], mem := [.live [.xs b32 (some 256)] (.own), .live [.xs b32 (some 256)] (.own)] } [.xs, .xs] y)
noncomputable def b0l (N : Nat) : LT := upd (b0m N) 5 (o6 b9s N (Y0 N) b7Q)
theorem b7R (N : Nat) : OkAll p_dring_Ntt_E a5I N (b0l N) (w9 U9) :=
 d6 (c := d7 5 U9) (b7T N) (by kernel_rfl) (fun x => by kernel_rfl) (fun β x kn ke => by kernel_rfl)
abbrev Q4 : List Kd := [.xs b32 256]
abbrev a7M : List Kd := [.xs b32 256]
noncomputable def a9C (N : Nat) (x : List Int × Unit) : Option (List Int) :=
 (Q1 (x.1, ())).bind fun r1 => (
 (a1C (())).bind fun r2 => (
 m7 (Y0 N) N ((0:Int), (128:Int), r1, (List.replicate 256 0), r2, ()) fun y8 => (
 some y8.1)))
theorem c1s (e0 : c8 Try.prog 47 E1) (e1 : c8 Try.prog 59 a1z) (e2 : c8 Try.prog 60 A3) (e3 : c8 Try.prog 45 i7) : p_dring_Ntt_E.Ok Try.prog := AE.of_ok (all_cons a88 (all_cons u4 (all_cons c8u (all_cons q8 c6)))) (all_cons ⟨e0, U2⟩ (all_cons ⟨e1, a6c⟩ (all_cons ⟨e2, N4⟩ (all_cons ⟨e3, o5⟩ c6))))
theorem c2A (hE : p_dring_Ntt_E.Ok Try.prog) {g : Ds Q4 → Option (Rs Q4)} (hg : ∀ x r, g x = some r → ∃ N, a9C N x = some r) : c8 Try.prog 32 ⟨Q4, Q4, g⟩ :=
 i5 (E := p_dring_Ntt_E) (H := a5I) (L := fun N => b0l N) (c := U9) (ks := Q4) (rs := a7M) (F := a9C) hE mix Try.func32 (by kernel_rfl) (fun N => b7R N) (fun _ _ => by kernel_rfl) hg
noncomputable def p_dring_Inv_1_E : AE := AE.of [] [(60, A3)]
noncomputable def c1m : Hints := [(3000000, [2])]
noncomputable def c1n : Code := (Try.f61).body.getD .skip
abbrev a5c : List Kd := [.int .i32]
abbrev a5d : List Kd := [.int .i32]
noncomputable def a5G (N : Nat) (x : Int × Unit) : Option (Int) :=
 (N5 (x.1, (8347681:Int), ())).bind fun r1 => (
 some r1)
theorem b7H (e0 : c8 Try.prog 60 A3) : p_dring_Inv_1_E.Ok Try.prog := AE.of_ok c6 (all_cons ⟨e0, N4⟩ c6)
theorem b9n (hE : p_dring_Inv_1_E.Ok Try.prog) {g : Ds [.int .i32] → Option (Rs [.int .i32])} (hg : ∀ x r, g x = some r → ∃ N, a5G N x = some r) : c8 Try.prog 61 ⟨[.int .i32], [.int .i32], g⟩ :=
 i5 (E := p_dring_Inv_1_E) (H := c1m) (L := fun N => LT.nil) (c := c1n) (ks := a5c) (rs := a5d) (F := a5G) hE mix Try.func61 (by kernel_rfl) (fun N => OkAll.nil) (fun _ _ => by kernel_rfl) hg
noncomputable abbrev a9a : Sig := ⟨[.int .i32], [.int .i32], a5B⟩
noncomputable def p_dring_each__dring_Inv_1_E : AE := AE.of [(21, ty21), (40, ty40)] [(61, a9a)]
noncomputable def a0I : Hints := [(2, [1, 2, 4, 7, 8]), (2000000, [2, 4]), (2000001, [1, 2, 4, 7, 8]), (3000000, [4])]
noncomputable def K9 : Code := (Try.f57).body.getD .skip
noncomputable def a4T : Shape := mkS { tmps := V :: .sc (.fn 61) :: .sc (.ptr 0 0 false) :: V :: .sc (.ptr 1 0 false) :: V :: V :: .agg [.xs b32 (some 256)] :: .sc (.int .i64) :: pv 10 [], mem := [.live [.xs b32 (some 256)] (.own), .live [.xs b32 (some 256)] (.own)] } [.xs, .int, .xs, .xs]
noncomputable def u5 (N : Nat) (β : Type) (x : W12) (kn : W12 → Option β) (ke : W5 → Option β) : Option β :=
 if (x.2.1 < (256:Int)) then
  if 0 ≤ x.2.1 then (
  if x.2.1 < 256 then (
  if (x.2.1.toNat) < 256 then (
  (a5B ((List.getD x.1 (x.2.1.toNat) 0), ())).bind fun r1 => (
  if 0 ≤ x.2.1 then (
  if x.2.1 < 256 then (
  if (x.2.1.toNat) < 256 then (
  kn (x.1, (IntKind.i64.wrap (x.2.1 + (1:Int))), (List.set x.2.2.1 (x.2.1.toNat) r1), x.2.2.2.1, ())) else none) else none) else none)) else none) else none) else none
 else
  ke (x.2.2.1, x.2.2.2.1, ())
noncomputable def a4a : Go' W5 := fun y K => K (.exit 0) (fSt { tmps := V :: V :: .sc (.ptr 0 0 false) :: V :: .sc (.ptr 1 0 false) :: pv 14 [], mem := [.live [.xs b32 (some 256)] (.own), .live [.xs b32 (some 256)] (.own)] } [.xs, .xs] y)
noncomputable def T6 (N : Nat) : LT := upd (LT.nil) 2 (o6 a4T N (u5 N) a4a)
theorem a4b (N : Nat) : OkAll p_dring_each__dring_Inv_1_E a0I N (T6 N) (w9 K9) :=
 d6 (c := d7 2 K9) (OkAll.nil) (by kernel_rfl) (fun x => by kernel_rfl) (fun β x kn ke => by kernel_rfl)
abbrev o7 : List Kd := [.xs b32 256, .fnc 61]
abbrev o8 : List Kd := [.xs b32 256]
noncomputable def E5 (N : Nat) (x : List Int × Unit × Unit) : Option (List Int) :=
 m7 (u5 N) N (x.1, (0:Int), x.1, (List.replicate 256 0), ()) fun y2 => (
 some y2.1)
theorem a5j (e0 : c8 Try.prog 61 a9a) : p_dring_each__dring_Inv_1_E.Ok Try.prog := AE.of_ok (all_cons u4 (all_cons q8 c6)) (all_cons ⟨e0, b5x⟩ c6)
theorem a5K (hE : p_dring_each__dring_Inv_1_E.Ok Try.prog) {g : Ds o7 → Option (Rs o8)} (hg : ∀ x r, g x = some r → ∃ N, E5 N x = some r) : c8 Try.prog 57 ⟨o7, o8, g⟩ :=
 i5 (E := p_dring_each__dring_Inv_1_E) (H := a0I) (L := fun N => T6 N) (c := K9) (ks := o7) (rs := o8) (F := E5) hE mix Try.func57 (by kernel_rfl) (fun N => a4b N) (fun _ _ => by kernel_rfl) hg
noncomputable abbrev P9 : Sig := ⟨[.xs b32 256, .fnc 61], [.xs b32 256], E3⟩
noncomputable def p_dring_Inv_E : AE := AE.of [(2, ty2), (21, ty21), (39, ty39), (40, ty40)] [(47, E1), (59, a1z), (45, i7), (60, A3), (57, P9)]
noncomputable def a5H : Hints := [(5, [1, 2, 3, 4, 5]), (8, [1, 2, 3, 4, 5, 6]), (12, [1, 2, 3, 4, 5, 6, 7]), (2000000, [1, 2]), (2000001, [1, 2, 3, 4, 5]), (2000002, [1, 2, 3, 4, 5]), (2000003, [1, 2, 3, 4, 5, 6]), (2000004, [1, 2, 3, 4, 5, 6]), (2000005, [1, 2, 3, 4, 5, 6, 7]), (3000000, [2])]
noncomputable def U8 : Code := (Try.f36).body.getD .skip
noncomputable def b7I : Shape := mkS { tmps := V :: .sc (.ptr 0 0 false) :: .sc (.ptr 1 0 false) :: .sc (.ptr 2 0 false) :: .sc (.int .i64) :: .sc (.int .i64) :: .sc (.int .i64) :: .sc (.int .i64) :: pv 54 [], mem := [.live [.xs b32 (some 256)] (.own), .live [.xs b32 (some 256)] (.own), .live [.xs b32 (some 256)] (.own)] } [.int, .int, .int, .int, .xs, .xs, .xs]
noncomputable def J3 (N : Nat) (β : Type) (x : W13) (kn : W13 → Option β) (ke : W14 → Option β) : Option β :=
 if (x.2.2.2.1 < (IntKind.i64.wrap (x.2.2.1 + x.2.1))) then
  if 0 ≤ x.2.2.2.1 then (
  if x.2.2.2.1 < 256 then (
  if (x.2.2.2.1.toNat) < 256 then (
  if 0 ≤ (IntKind.i64.wrap (x.2.2.2.1 + x.2.1)) then (
  if (IntKind.i64.wrap (x.2.2.2.1 + x.2.1)) < 256 then (
  if ((IntKind.i64.wrap (x.2.2.2.1 + x.2.1)).toNat) < 256 then (
  (u1 ((IntKind.i64.wrap ((IntKind.i64.wrap (List.getD x.2.2.2.2.1 (x.2.2.2.1.toNat) 0)) + (IntKind.i64.wrap (List.getD x.2.2.2.2.1 ((IntKind.i64.wrap (x.2.2.2.1 + x.2.1)).toNat) 0)))), ())).bind fun r3 => (
  if 0 ≤ x.1 then (
  if x.1 < 256 then (
  if (x.1.toNat) < 256 then (
  (N5 ((List.getD x.2.2.2.2.2.2.1 (x.1.toNat) 0), (IntKind.i32.wrap ((List.getD x.2.2.2.2.1 ((IntKind.i64.wrap (x.2.2.2.1 + x.2.1)).toNat) 0) - (List.getD x.2.2.2.2.1 (x.2.2.2.1.toNat) 0))), ())).bind fun r4 => (
  if 0 ≤ x.2.2.2.1 then (
  if x.2.2.2.1 < 256 then (
  if (x.2.2.2.1.toNat) < 256 then (
  if 0 ≤ (IntKind.i64.wrap (x.2.2.2.1 + x.2.1)) then (
  if (IntKind.i64.wrap (x.2.2.2.1 + x.2.1)) < 256 then (
  if ((IntKind.i64.wrap (x.2.2.2.1 + x.2.1)).toNat) < 256 then (
  kn (x.1, x.2.1, x.2.2.1, (IntKind.i64.wrap (x.2.2.2.1 + (1:Int))), (List.set (List.set x.2.2.2.2.1 (x.2.2.2.1.toNat) r3) ((IntKind.i64.wrap (x.2.2.2.1 + x.2.1)).toNat) r4), x.2.2.2.2.2.1, x.2.2.2.2.2.2.1, ())) else none) else none) else none) else none) else none) else none)) else none) else none) else none)) else none) else none) else none) else none) else none) else none
 else
  ke (x.1, x.2.1, x.2.2.1, x.2.2.2.2.1, x.2.2.2.2.2.1, x.2.2.2.2.2.2.1, ())
noncomputable def b5X : Go' W14 := fun y K => K (.exit 4) (fSt { tmps := V :: .sc (.ptr 0 0 false) :: .sc (.ptr 1 0 false) :: .sc (.ptr 2 0 false) :: .sc (.int .i64) :: .sc (.int .i64) :: .sc (.int .i64) :: pv 55 [], mem := [.live [.xs b32 (some 256)] (.own), .live [.xs b32 (some 256)] (.own), .live [.xs b32 (some 256)] (.own)] } [.int, .int, .int, .xs, .xs, .xs] y)
noncomputable def a8A (N : Nat) : LT := upd (LT.nil) 12 (o6 b7I N (J3 N) b5X)
theorem b5Y (N : Nat) : OkAll p_dring_Inv_E a5H N (a8A N) (w9 U8) :=
 d6 (c := d7 12 U8) (OkAll.nil) (by kernel_rfl) (fun x => by kernel_rfl) (fun β x kn ke => by kernel_rfl)
noncomputable def b9p : Shape := mkS { tmps := V :: .sc (.ptr 0 0 false) :: .sc (.ptr 1 0 false) :: .sc (.ptr 2 0 false) :: .sc (.int .i64) :: .sc (.int .i64) :: .sc (.int .i64) :: pv 55 [], mem := [.live [.xs b32 (some 256)] (.own), .live [.xs b32 (some 256)] (.own), .live [.xs b32 (some 256)] (.own)] } [.int, .int, .int, .xs, .xs, .xs]
noncomputable def M9 (N : Nat) (β : Type) (x : W14) (kn : W14 → Option β) (ke : W15 → Option β) : Option β :=
 if (x.2.2.1 < (256:Int)) then
  m7 (J3 N) N ((IntKind.i64.wrap (x.1 - (1:Int))), x.2.1, x.2.2.1, x.2.2.1, x.2.2.2.1, x.2.2.2.2.1, x.2.2.2.2.2.1, ()) fun y5 => (
  kn (y5.1, y5.2.1, (IntKind.i64.wrap (y5.2.2.1 + (IntKind.i64.wrap ((2:Int) * y5.2.1)))), y5.2.2.2.1, y5.2.2.2.2.1, y5.2.2.2.2.2.1, ()))
 else
  ke (x.1, x.2.1, x.2.2.2.1, x.2.2.2.2.1, x.2.2.2.2.2.1, ())
noncomputable def b7L : Go' W15 := fun y K => K (.exit 2) (fSt { tmps := V :: .sc (.ptr 0 0 false) :: .sc (.ptr 1 0 false) :: .sc (.ptr 2 0 false) :: .sc (.int .i64) :: .sc (.int .i64) :: pv 56 [], mem := [.live [.xs b32 (some 256)] (.own), .live [.xs b32 (some 256)] (.own), .live [.xs b32 (some 256)] (.own)] } [.int, .int, .xs, .xs, .xs] y)
noncomputable def b0j (N : Nat) : LT := upd (a8A N) 8 (o6 b9p N (M9 N) b7L)
theorem b7M (N : Nat) : OkAll p_dring_Inv_E a5H N (b0j N) (w9 U8) :=
 d6 (c := d7 8 U8) (b5Y N) (by kernel_rfl) (fun x => by kernel_rfl) (fun β x kn ke => by kernel_rfl)
noncomputable def b9o : Shape := mkS { tmps := V :: .sc (.ptr 0 0 false) :: .sc (.ptr 1 0 false) :: .sc (.ptr 2 0 false) :: .sc (.int .i64) :: .sc (.int .i64) :: pv 56 [], mem := [.live [.xs b32 (some 256)] (.own), .live [.xs b32 (some 256)] (.own), .live [.xs b32 (some 256)] (.own)] } [.int, .int, .xs, .xs, .xs]
noncomputable def X9 (N : Nat) (β : Type) (x : W15) (kn : W15 → Option β) (ke : W5 → Option β) : Option β :=
 if (x.2.1 ≤ (128:Int)) then
  m7 (M9 N) N (x.1, x.2.1, (0:Int), x.2.2.1, x.2.2.2.1, x.2.2.2.2.1, ()) fun y6 => (
  kn (y6.1, (IntKind.i64.wrap (y6.2.1 * (2:Int))), y6.2.2.1, y6.2.2.2.1, y6.2.2.2.2.1, ()))
 else
  ke (x.2.2.1, x.2.2.2.1, ())
noncomputable def b7J : Go' W5 := fun y K => K (.exit 0) (fSt { tmps := V :: .sc (.ptr 0 0 false) :: .sc (.ptr 1 0 false) :: pv 59 [], mem := [.live [.xs b32 (some 256)] (.own), .live [.xs b32 (some 256)] (.own)] } [.xs, .xs] y)
noncomputable def b0i (N : Nat) : LT := upd (b0j N) 5 (o6 b9o N (X9 N) b7J)
theorem b7K (N : Nat) : OkAll p_dring_Inv_E a5H N (b0i N) (w9 U8) :=
 d6 (c := d7 5 U8) (b7M N) (by kernel_rfl) (fun x => by kernel_rfl) (fun β x kn ke => by kernel_rfl)
abbrev Q3 : List Kd := [.xs b32 256]
abbrev a7K : List Kd := [.xs b32 256]
noncomputable def a9A (N : Nat) (x : List Int × Unit) : Option (List Int) :=
 (Q1 (x.1, ())).bind fun r1 => (
 (a1C (())).bind fun r2 => (
 m7 (X9 N) N ((256:Int), (1:Int), r1, (List.replicate 256 0), r2, ()) fun y7 => (
 (E3 (y7.1, (), ())).bind fun r8 => (
 some r8))))
theorem c1o (e0 : c8 Try.prog 47 E1) (e1 : c8 Try.prog 59 a1z) (e2 : c8 Try.prog 45 i7) (e3 : c8 Try.prog 60 A3) (e4 : c8 Try.prog 57 P9) : p_dring_Inv_E.Ok Try.prog := AE.of_ok (all_cons a88 (all_cons u4 (all_cons c8u (all_cons q8 c6)))) (all_cons ⟨e0, U2⟩ (all_cons ⟨e1, a6c⟩ (all_cons ⟨e2, o5⟩ (all_cons ⟨e3, N4⟩ (all_cons ⟨e4, a03⟩ c6)))))
theorem c2w (hE : p_dring_Inv_E.Ok Try.prog) {g : Ds Q3 → Option (Rs Q3)} (hg : ∀ x r, g x = some r → ∃ N, a9A N x = some r) : c8 Try.prog 36 ⟨Q3, Q3, g⟩ :=
 i5 (E := p_dring_Inv_E) (H := a5H) (L := fun N => b0i N) (c := U8) (ks := Q3) (rs := a7K) (F := a9A) hE mix Try.func36 (by kernel_rfl) (fun N => b7K N) (fun _ _ => by kernel_rfl) hg
noncomputable def p_dring_MulNtt_E : AE := AE.of [(21, ty21), (40, ty40)] [(60, A3)]
noncomputable def b0k : Hints := [(2, [2, 3, 4, 6]), (2000000, [2, 4]), (2000001, [2, 3, 4, 6]), (3000000, [4])]
noncomputable def a5e : Code := (Try.f38).body.getD .skip
noncomputable def b4n : Shape := mkS { tmps := V :: V :: .sc (.ptr 0 0 false) :: .sc (.ptr 1 0 false) :: .sc (.ptr 2 0 false) :: V :: .sc (.int .i64) :: pv 13 [], mem := [.live [.xs b32 (some 256)] (.own), .live [.xs b32 (some 256)] (.own), .live [.xs b32 (some 256)] (.own)] } [.int, .xs, .xs, .xs]
noncomputable def K4 (N : Nat) (β : Type) (x : W4) (kn : W4 → Option β) (ke : W5 → Option β) : Option β :=
 if (x.1 < (256:Int)) then
  if 0 ≤ x.1 then (
  if x.1 < 256 then (
  if (x.1.toNat) < 256 then (
  if 0 ≤ x.1 then (
  if x.1 < 256 then (
  if (x.1.toNat) < 256 then (
  (N5 ((List.getD x.2.1 (x.1.toNat) 0), (List.getD x.2.2.1 (x.1.toNat) 0), ())).bind fun r1 => (
  if 0 ≤ x.1 then (
  if x.1 < 256 then (
  if (x.1.toNat) < 256 then (
  kn ((IntKind.i64.wrap (x.1 + (1:Int))), (List.set x.2.1 (x.1.toNat) r1), x.2.2.1, x.2.2.2.1, ())) else none) else none) else none)) else none) else none) else none) else none) else none) else none
 else
  ke (x.2.1, x.2.2.2.1, ())
noncomputable def b2U : Go' W5 := fun y K => K (.exit 0) (fSt { tmps := V :: V :: .sc (.ptr 0 0 false) :: V :: .sc (.ptr 1 0 false) :: pv 15 [], mem := [.live [.xs b32 (some 256)] (.own), .live [.xs b32 (some 256)] (.own)] } [.xs, .xs] y)
noncomputable def a6i (N : Nat) : LT := upd (LT.nil) 2 (o6 b4n N (K4 N) b2U)
theorem b2V (N : Nat) : OkAll p_dring_MulNtt_E b0k N (a6i N) (w9 a5e) :=
 d6 (c := d7 2 a5e) (OkAll.nil) (by kernel_rfl) (fun x => by kernel_rfl) (fun β x kn ke => by kernel_rfl)
abbrev R6 : List Kd := [.xs b32 256, .xs b32 256]
abbrev R7 : List Kd := [.xs b32 256]
noncomputable def a4r (N : Nat) (x : List Int × List Int × Unit) : Option (List Int) :=
 m7 (K4 N) N ((0:Int), x.1, x.2.1, (List.replicate 256 0), ()) fun y2 => (
 some y2.1)
theorem b5Z (e0 : c8 Try.prog 60 A3) : p_dring_MulNtt_E.Ok Try.prog := AE.of_ok (all_cons u4 (all_cons q8 c6)) (all_cons ⟨e0, N4⟩ c6)
theorem b7N (hE : p_dring_MulNtt_E.Ok Try.prog) {g : Ds R6 → Option (Rs R7)} (hg : ∀ x r, g x = some r → ∃ N, a4r N x = some r) : c8 Try.prog 38 ⟨R6, R7, g⟩ :=
 i5 (E := p_dring_MulNtt_E) (H := b0k) (L := fun N => a6i N) (c := a5e) (ks := R6) (rs := R7) (F := a4r) hE mix Try.func38 (by kernel_rfl) (fun N => b2V N) (fun _ _ => by kernel_rfl) hg
noncomputable abbrev a2n : Sig := ⟨[.xs b32 256], [.xs b32 256], a0w⟩
noncomputable abbrev P8 : Sig := ⟨[.xs b32 256, .xs b32 256], [.xs b32 256], Z7⟩
noncomputable abbrev a2m : Sig := ⟨[.xs b32 256], [.xs b32 256], a34⟩
noncomputable def p_dring_Mul_E : AE := AE.of [(21, ty21), (40, ty40)] [(32, a2n), (38, P8), (36, a2m)]
noncomputable def c4n : Hints := [(3000000, [4])]
noncomputable def c4o : Code := (Try.f54).body.getD .skip
abbrev a1H : List Kd := [.xs b32 256, .xs b32 256]
abbrev a1I : List Kd := [.xs b32 256]
noncomputable def a9B (N : Nat) (x : List Int × List Int × Unit) : Option (List Int) :=
 if (x.1 = (List.replicate 256 0)) then
  some (List.replicate 256 0)
 else
  if (x.2.1 = (List.replicate 256 0)) then
   some (List.replicate 256 0)
  else
   (a0w (x.1, ())).bind fun r1 => (
   (a0w (x.2.1, ())).bind fun r2 => (
   (Z7 (r1, r2, ())).bind fun r3 => (
   (a34 (r3, ())).bind fun r4 => (
   some r4))))
theorem c1q (e0 : c8 Try.prog 32 a2n) (e1 : c8 Try.prog 38 P8) (e2 : c8 Try.prog 36 a2m) : p_dring_Mul_E.Ok Try.prog := AE.of_ok (all_cons u4 (all_cons q8 c6)) (all_cons ⟨e0, a5a⟩ (all_cons ⟨e1, a2s⟩ (all_cons ⟨e2, a49⟩ c6)))
theorem c2z (hE : p_dring_Mul_E.Ok Try.prog) {g : Ds a1H → Option (Rs a1I)} (hg : ∀ x r, g x = some r → ∃ N, a9B N x = some r) : c8 Try.prog 54 ⟨a1H, a1I, g⟩ :=
 i5 (E := p_dring_Mul_E) (H := c4n) (L := fun N => LT.nil) (c := c4o) (ks := a1H) (rs := a1I) (F := a9B) hE mix Try.func54 (by kernel_rfl) (fun N => OkAll.nil) (fun _ _ => by kernel_rfl) hg
noncomputable def p_dring_centred_E : AE := AE.of [(2, ty2), (21, ty21)] [(45, i7)]
noncomputable def b71 : Hints := [(3000000, [2])]
noncomputable def b72 : Code := (Try.f67).body.getD .skip
abbrev a3i : List Kd := [.int .i32]
abbrev a3j : List Kd := [.int .i32]
noncomputable def a3h (N : Nat) (x : Int × Unit) : Option (Int) :=
 (u1 ((IntKind.i64.wrap x.1), ())).bind fun r1 => (
 if (r1 > (4190208:Int)) then
  some (IntKind.i32.wrap (r1 - (8380417:Int)))
 else
  some r1)
theorem b4u (e0 : c8 Try.prog 45 i7) : p_dring_centred_E.Ok Try.prog := AE.of_ok (all_cons a88 (all_cons u4 c6)) (all_cons ⟨e0, o5⟩ c6)
theorem b6d (hE : p_dring_centred_E.Ok Try.prog) {g : Ds [.int .i32] → Option (Rs [.int .i32])} (hg : ∀ x r, g x = some r → ∃ N, a3h N x = some r) : c8 Try.prog 67 ⟨[.int .i32], [.int .i32], g⟩ :=
 i5 (E := p_dring_centred_E) (H := b71) (L := fun N => LT.nil) (c := b72) (ks := a3i) (rs := a3j) (F := a3h) hE mix Try.func67 (by kernel_rfl) (fun N => OkAll.nil) (fun _ _ => by kernel_rfl) hg
noncomputable abbrev a52 : Sig := ⟨[.int .i32], [.int .i32], a26⟩
noncomputable def p_dring_each__dring_centred_E : AE := AE.of [(21, ty21), (40, ty40)] [(67, a52)]
noncomputable def Y3 : Hints := [(2, [1, 2, 4, 7, 8]), (2000000, [2, 4]), (2000001, [1, 2, 4, 7, 8]), (3000000, [4])]
noncomputable def H1 : Code := (Try.f57).body.getD .skip
noncomputable def a3D : Shape := mkS { tmps := V :: .sc (.fn 67) :: .sc (.ptr 0 0 false) :: V :: .sc (.ptr 1 0 false) :: V :: V :: .agg [.xs b32 (some 256)] :: .sc (.int .i64) :: pv 10 [], mem := [.live [.xs b32 (some 256)] (.own), .live [.xs b32 (some 256)] (.own)] } [.xs, .int, .xs, .xs]
noncomputable def s8 (N : Nat) (β : Type) (x : W12) (kn : W12 → Option β) (ke : W5 → Option β) : Option β :=
 if (x.2.1 < (256:Int)) then
  if 0 ≤ x.2.1 then (
  if x.2.1 < 256 then (
  if (x.2.1.toNat) < 256 then (
  (a26 ((List.getD x.1 (x.2.1.toNat) 0), ())).bind fun r1 => (
  if 0 ≤ x.2.1 then (
  if x.2.1 < 256 then (
  if (x.2.1.toNat) < 256 then (
  kn (x.1, (IntKind.i64.wrap (x.2.1 + (1:Int))), (List.set x.2.2.1 (x.2.1.toNat) r1), x.2.2.2.1, ())) else none) else none) else none)) else none) else none) else none
 else
  ke (x.2.2.1, x.2.2.2.1, ())
noncomputable def a3l : Go' W5 := fun y K => K (.exit 0) (fSt { tmps := V :: V :: .sc (.ptr 0 0 false) :: V :: .sc (.ptr 1 0 false) :: pv 14 [], mem := [.live [.xs b32 (some 256)] (.own), .live [.xs b32 (some 256)] (.own)] } [.xs, .xs] y)
noncomputable def Q7 (N : Nat) : LT := upd (LT.nil) 2 (o6 a3D N (s8 N) a3l)
theorem a3m (N : Nat) : OkAll p_dring_each__dring_centred_E Y3 N (Q7 N) (w9 H1) :=
 d6 (c := d7 2 H1) (OkAll.nil) (by kernel_rfl) (fun x => by kernel_rfl) (fun β x kn ke => by kernel_rfl)
abbrev m9 : List Kd := [.xs b32 256, .fnc 67]
abbrev n6 : List Kd := [.xs b32 256]
noncomputable def A8 (N : Nat) (x : List Int × Unit × Unit) : Option (List Int) :=
 m7 (s8 N) N (x.1, (0:Int), x.1, (List.replicate 256 0), ()) fun y2 => (
 some y2.1)
theorem a4d (e0 : c8 Try.prog 67 a52) : p_dring_each__dring_centred_E.Ok Try.prog := AE.of_ok (all_cons u4 (all_cons q8 c6)) (all_cons ⟨e0, b2Q⟩ c6)
theorem a4U (hE : p_dring_each__dring_centred_E.Ok Try.prog) {g : Ds m9 → Option (Rs n6)} (hg : ∀ x r, g x = some r → ∃ N, A8 N x = some r) : c8 Try.prog 57 ⟨m9, n6, g⟩ :=
 i5 (E := p_dring_each__dring_centred_E) (H := Y3) (L := fun N => Q7 N) (c := H1) (ks := m9) (rs := n6) (F := A8) hE mix Try.func57 (by kernel_rfl) (fun N => a3m N) (fun _ _ => by kernel_rfl) hg
noncomputable abbrev J5 : Sig := ⟨[.xs b32 256, .fnc 67], [.xs b32 256], A6⟩
noncomputable def p_dring_Center_E : AE := AE.of [(40, ty40)] [(57, J5)]
noncomputable def b9l : Hints := [(3000000, [2])]
noncomputable def b9m : Code := (Try.f50).body.getD .skip
abbrev D6 : List Kd := [.xs b32 256]
abbrev a37 : List Kd := [.xs b32 256]
noncomputable def a4q (N : Nat) (x : List Int × Unit) : Option (List Int) :=
 (A6 (x.1, (), ())).bind fun r1 => (
 some r1)
theorem b5W (e0 : c8 Try.prog 57 J5) : p_dring_Center_E.Ok Try.prog := AE.of_ok (all_cons q8 c6) (all_cons ⟨e0, a03⟩ c6)
theorem b7G (hE : p_dring_Center_E.Ok Try.prog) {g : Ds D6 → Option (Rs D6)} (hg : ∀ x r, g x = some r → ∃ N, a4q N x = some r) : c8 Try.prog 50 ⟨D6, D6, g⟩ :=
 i5 (E := p_dring_Center_E) (H := b9l) (L := fun N => LT.nil) (c := b9m) (ks := D6) (rs := a37) (F := a4q) hE mix Try.func50 (by kernel_rfl) (fun N => OkAll.nil) (fun _ _ => by kernel_rfl) hg
noncomputable abbrev a1x : Sig := ⟨[.xs b32 256], [.xs b32 256], a1B⟩
noncomputable def p_dring_Norm_E : AE := AE.of [(21, ty21), (40, ty40)] [(50, a1x)]
noncomputable def b3L : Hints := [(3, [3, 7, 8]), (2000000, [3]), (2000001, [3, 7, 8]), (3000000, [2])]
noncomputable def a7L : Code := (Try.f30).body.getD .skip
noncomputable def b7O : Shape := mkS { tmps := pv 3 (.sc (.int .i32) :: pv 3 (.agg [.xs b32 (some 256)] :: .sc (.int .i64) :: pv 9 [])), mem := [] } [.int, .xs, .int]
abbrev W16 : Type := Int × List Int × Int × Unit
noncomputable def a1a (N : Nat) (β : Type) (x : W16) (kn : W16 → Option β) (ke : ((Int × Unit)) → Option β) : Option β :=
 if (x.2.2.1 < (256:Int)) then
  if 0 ≤ x.2.2.1 then (
  if x.2.2.1 < 256 then (
  if (x.2.2.1.toNat) < 256 then (
  kn ((if (IntKind.i32.wrap (0 - (List.getD x.2.1 (x.2.2.1.toNat) 0))) > (if (List.getD x.2.1 (x.2.2.1.toNat) 0) > x.1 then (List.getD x.2.1 (x.2.2.1.toNat) 0) else x.1) then (IntKind.i32.wrap (0 - (List.getD x.2.1 (x.2.2.1.toNat) 0))) else (if (List.getD x.2.1 (x.2.2.1.toNat) 0) > x.1 then (List.getD x.2.1 (x.2.2.1.toNat) 0) else x.1)), x.2.1, (IntKind.i64.wrap (x.2.2.1 + (1:Int))), ())) else none) else none) else none
 else
  ke (x.1, ())
noncomputable def b50 : Go' ((Int × Unit)) := fun y K => K (.exit 0) (fSt { tmps := pv 3 (.sc (.int .i32) :: pv 14 []), mem := [] } [.int] y)
noncomputable def a8B (N : Nat) : LT := upd (LT.nil) 3 (o6 b7O N (a1a N) b50)
theorem b51 (N : Nat) : OkAll p_dring_Norm_E b3L N (a8B N) (w9 a7L) :=
 d6 (c := d7 3 a7L) (OkAll.nil) (by kernel_rfl) (fun x => by kernel_rfl) (fun β x kn ke => by kernel_rfl)
abbrev a0E : List Kd := [.xs b32 256]
abbrev a6j : List Kd := [.int .i32]
noncomputable def a7d (N : Nat) (x : List Int × Unit) : Option (Int) :=
 (a1B (x.1, ())).bind fun r1 => (
 m7 (a1a N) N ((0:Int), r1, (0:Int), ()) fun y2 => (
 some y2.1))
theorem b9r (e0 : c8 Try.prog 50 a1x) : p_dring_Norm_E.Ok Try.prog := AE.of_ok (all_cons u4 (all_cons q8 c6)) (all_cons ⟨e0, a6a⟩ c6)
theorem c1r (hE : p_dring_Norm_E.Ok Try.prog) {g : Ds a0E → Option (Rs [.int .i32])} (hg : ∀ x r, g x = some r → ∃ N, a7d N x = some r) : c8 Try.prog 30 ⟨a0E, [.int .i32], g⟩ :=
 i5 (E := p_dring_Norm_E) (H := b3L) (L := fun N => a8B N) (c := a7L) (ks := a0E) (rs := a6j) (F := a7d) hE mix Try.func30 (by kernel_rfl) (fun N => b51 N) (fun _ _ => by kernel_rfl) hg
noncomputable def p_dring_Add_E : AE := AE.of [(2, ty2), (21, ty21), (40, ty40)] [(45, i7)]
noncomputable def b5T : Hints := [(2, [2, 3, 4, 6]), (2000000, [2, 4]), (2000001, [2, 3, 4, 6]), (3000000, [4])]
noncomputable def a9x : Code := (Try.f21).body.getD .skip
noncomputable def b9j : Shape := mkS { tmps := V :: V :: .sc (.ptr 0 0 false) :: .sc (.ptr 1 0 false) :: .sc (.ptr 2 0 false) :: V :: .sc (.int .i64) :: pv 16 [], mem := [.live [.xs b32 (some 256)] (.own), .live [.xs b32 (some 256)] (.own), .live [.xs b32 (some 256)] (.own)] } [.int, .xs, .xs, .xs]
noncomputable def a2c (N : Nat) (β : Type) (x : W4) (kn : W4 → Option β) (ke : W5 → Option β) : Option β :=
 if (x.1 < (256:Int)) then
  if 0 ≤ x.1 then (
  if x.1 < 256 then (
  if (x.1.toNat) < 256 then (
  if 0 ≤ x.1 then (
  if x.1 < 256 then (
  if (x.1.toNat) < 256 then (
  (u1 ((IntKind.i64.wrap ((IntKind.i64.wrap (List.getD x.2.1 (x.1.toNat) 0)) + (IntKind.i64.wrap (List.getD x.2.2.1 (x.1.toNat) 0)))), ())).bind fun r1 => (
  if 0 ≤ x.1 then (
  if x.1 < 256 then (
  if (x.1.toNat) < 256 then (
  kn ((IntKind.i64.wrap (x.1 + (1:Int))), (List.set x.2.1 (x.1.toNat) r1), x.2.2.1, x.2.2.2.1, ())) else none) else none) else none)) else none) else none) else none) else none) else none) else none
 else
  ke (x.2.1, x.2.2.2.1, ())
noncomputable def b7E : Go' W5 := fun y K => K (.exit 0) (fSt { tmps := V :: V :: .sc (.ptr 0 0 false) :: V :: .sc (.ptr 1 0 false) :: pv 18 [], mem := [.live [.xs b32 (some 256)] (.own), .live [.xs b32 (some 256)] (.own)] } [.xs, .xs] y)
noncomputable def b0h (N : Nat) : LT := upd (LT.nil) 2 (o6 b9j N (a2c N) b7E)
theorem b7F (N : Nat) : OkAll p_dring_Add_E b5T N (b0h N) (w9 a9x) :=
 d6 (c := d7 2 a9x) (OkAll.nil) (by kernel_rfl) (fun x => by kernel_rfl) (fun β x kn ke => by kernel_rfl)
abbrev a1E : List Kd := [.xs b32 256, .xs b32 256]
abbrev a1F : List Kd := [.xs b32 256]
noncomputable def a9w (N : Nat) (x : List Int × List Int × Unit) : Option (List Int) :=
 m7 (a2c N) N ((0:Int), x.1, x.2.1, (List.replicate 256 0), ()) fun y2 => (
 some y2.1)
theorem c1k (e0 : c8 Try.prog 45 i7) : p_dring_Add_E.Ok Try.prog := AE.of_ok (all_cons a88 (all_cons u4 (all_cons q8 c6))) (all_cons ⟨e0, o5⟩ c6)
theorem c2v (hE : p_dring_Add_E.Ok Try.prog) {g : Ds a1E → Option (Rs a1F)} (hg : ∀ x r, g x = some r → ∃ N, a9w N x = some r) : c8 Try.prog 21 ⟨a1E, a1F, g⟩ :=
 i5 (E := p_dring_Add_E) (H := b5T) (L := fun N => b0h N) (c := a9x) (ks := a1E) (rs := a1F) (F := a9w) hE mix Try.func21 (by kernel_rfl) (fun N => b7F N) (fun _ _ => by kernel_rfl) hg
noncomputable def p_dring_Sub_E : AE := AE.of [(2, ty2), (21, ty21), (40, ty40)] [(45, i7)]
noncomputable def b6a : Hints := [(2, [2, 3, 4, 6]), (2000000, [2, 4]), (2000001, [2, 3, 4, 6]), (3000000, [4])]
noncomputable def a9K : Code := (Try.f37).body.getD .skip
noncomputable def b9x : Shape := mkS { tmps := V :: V :: .sc (.ptr 0 0 false) :: .sc (.ptr 1 0 false) :: .sc (.ptr 2 0 false) :: V :: .sc (.int .i64) :: pv 16 [], mem := [.live [.xs b32 (some 256)] (.own), .live [.xs b32 (some 256)] (.own), .live [.xs b32 (some 256)] (.own)] } [.int, .xs, .xs, .xs]
noncomputable def a2f (N : Nat) (β : Type) (x : W4) (kn : W4 → Option β) (ke : W5 → Option β) : Option β :=
 if (x.1 < (256:Int)) then
  if 0 ≤ x.1 then (
  if x.1 < 256 then (
  if (x.1.toNat) < 256 then (
  if 0 ≤ x.1 then (
  if x.1 < 256 then (
  if (x.1.toNat) < 256 then (
  (u1 ((IntKind.i64.wrap ((IntKind.i64.wrap (List.getD x.2.1 (x.1.toNat) 0)) - (IntKind.i64.wrap (List.getD x.2.2.1 (x.1.toNat) 0)))), ())).bind fun r1 => (
  if 0 ≤ x.1 then (
  if x.1 < 256 then (
  if (x.1.toNat) < 256 then (
  kn ((IntKind.i64.wrap (x.1 + (1:Int))), (List.set x.2.1 (x.1.toNat) r1), x.2.2.1, x.2.2.2.1, ())) else none) else none) else none)) else none) else none) else none) else none) else none) else none
 else
  ke (x.2.1, x.2.2.2.1, ())
noncomputable def b7X : Go' W5 := fun y K => K (.exit 0) (fSt { tmps := V :: V :: .sc (.ptr 0 0 false) :: V :: .sc (.ptr 1 0 false) :: pv 18 [], mem := [.live [.xs b32 (some 256)] (.own), .live [.xs b32 (some 256)] (.own)] } [.xs, .xs] y)
noncomputable def b0o (N : Nat) : LT := upd (LT.nil) 2 (o6 b9x N (a2f N) b7X)
theorem b7Y (N : Nat) : OkAll p_dring_Sub_E b6a N (b0o N) (w9 a9K) :=
 d6 (c := d7 2 a9K) (OkAll.nil) (by kernel_rfl) (fun x => by kernel_rfl) (fun β x kn ke => by kernel_rfl)
abbrev a1J : List Kd := [.xs b32 256, .xs b32 256]
abbrev a1K : List Kd := [.xs b32 256]
noncomputable def a9J (N : Nat) (x : List Int × List Int × Unit) : Option (List Int) :=
 m7 (a2f N) N ((0:Int), x.1, x.2.1, (List.replicate 256 0), ()) fun y2 => (
 some y2.1)
theorem c1u (e0 : c8 Try.prog 45 i7) : p_dring_Sub_E.Ok Try.prog := AE.of_ok (all_cons a88 (all_cons u4 (all_cons q8 c6))) (all_cons ⟨e0, o5⟩ c6)
theorem c2B (hE : p_dring_Sub_E.Ok Try.prog) {g : Ds a1J → Option (Rs a1K)} (hg : ∀ x r, g x = some r → ∃ N, a9J N x = some r) : c8 Try.prog 37 ⟨a1J, a1K, g⟩ :=
 i5 (E := p_dring_Sub_E) (H := b6a) (L := fun N => b0o N) (c := a9K) (ks := a1J) (rs := a1K) (F := a9J) hE mix Try.func37 (by kernel_rfl) (fun N => b7Y N) (fun _ _ => by kernel_rfl) hg
noncomputable abbrev D2 : Sig := ⟨[.xs b32 256], [.xs b32 256, .xs b32 256], x3⟩
noncomputable abbrev U0 : Sig := ⟨[.xs b32 256, .xs b32 256], [.xs b32 256], Q0⟩
noncomputable def p_dring_MakeHint_E : AE := AE.of [(4, ty4), (21, ty21), (40, ty40), (76, ty76)] [(53, D2), (21, U0)]
noncomputable def a7b : Hints := [(6, [4, 6, 7, 9, 11, 25]), (2000000, [4, 6, 11]), (2000001, [4, 6, 7, 9, 11, 25]), (3000000, [4, 5])]
noncomputable def a3d : Code := (Try.f55).body.getD .skip
noncomputable def b1G : Shape := mkS { tmps := pv 4 (.sc (.ptr 0 0 false) :: V :: .sc (.ptr 1 0 false) :: .sc (.ptr 2 0 false) :: V :: .sc (.ptr 3 0 false) :: V :: .sc (.int .i64) :: pv 13 (.sc (.int .i64) :: pv 19 [])), mem := [.live [.xs .bool (some 256)] (.own), .live [.xs .bool (some 256)] (.own), .live [.xs b32 (some 256)] (.own), .live [.xs b32 (some 256)] (.own)] } [.int, .int, .xs, .xs, .xs, .xs]
abbrev W17 : Type := Int × Int × List Int × List Int × List Int × List Int × Unit
abbrev W18 : Type := Int × List Int × List Int × Unit
noncomputable def O2 (N : Nat) (β : Type) (x : W17) (kn : W17 → Option β) (ke : W18 → Option β) : Option β :=
 if (x.2.1 < (256:Int)) then
  if 0 ≤ x.2.1 then (
  if x.2.1 < 256 then (
  if (x.2.1.toNat) < 256 then (
  if 0 ≤ x.2.1 then (
  if x.2.1 < 256 then (
  if (x.2.1.toNat) < 256 then (
  if 0 ≤ x.2.1 then (
  if x.2.1 < 256 then (
  if (x.2.1.toNat) < 256 then (
  if 0 ≤ x.2.1 then (
  if x.2.1 < 256 then (
  if (x.2.1.toNat) < 256 then (
  if ((List.getD (List.set x.2.2.2.1 (x.2.1.toNat) (if ((List.getD x.2.2.2.2.1 (x.2.1.toNat) 0) ≠ (List.getD x.2.2.2.2.2.1 (x.2.1.toNat) 0)) then (1:Int) else 0)) (x.2.1.toNat) 0) ≠ 0) then
   kn ((IntKind.i64.wrap (x.1 + (1:Int))), (IntKind.i64.wrap (x.2.1 + (1:Int))), x.2.2.1, (List.set x.2.2.2.1 (x.2.1.toNat) (if ((List.getD x.2.2.2.2.1 (x.2.1.toNat) 0) ≠ (List.getD x.2.2.2.2.2.1 (x.2.1.toNat) 0)) then (1:Int) else 0)), x.2.2.2.2.1, x.2.2.2.2.2.1, ())
  else
   kn (x.1, (IntKind.i64.wrap (x.2.1 + (1:Int))), x.2.2.1, (List.set x.2.2.2.1 (x.2.1.toNat) (if ((List.getD x.2.2.2.2.1 (x.2.1.toNat) 0) ≠ (List.getD x.2.2.2.2.2.1 (x.2.1.toNat) 0)) then (1:Int) else 0)), x.2.2.2.2.1, x.2.2.2.2.2.1, ())) else none) else none) else none) else none) else none) else none) else none) else none) else none) else none) else none) else none
 else
  ke (x.1, x.2.2.1, x.2.2.2.1, ())
noncomputable def b0H : Go' W18 := fun y K => K (.exit 0) (fSt { tmps := pv 4 (.sc (.ptr 0 0 false) :: V :: .sc (.ptr 1 0 false) :: pv 4 (.sc (.int .i64) :: pv 33 [])), mem := [.live [.xs .bool (some 256)] (.own), .live [.xs .bool (some 256)] (.own)] } [.int, .xs, .xs] y)
noncomputable def a4P (N : Nat) : LT := upd (LT.nil) 6 (o6 b1G N (O2 N) b0H)
theorem b0I (N : Nat) : OkAll p_dring_MakeHint_E a7b N (a4P N) (w9 a3d) :=
 d6 (c := d7 6 a3d) (OkAll.nil) (by kernel_rfl) (fun x => by kernel_rfl) (fun β x kn ke => by kernel_rfl)
abbrev K0 : List Kd := [.xs b32 256, .xs b32 256]
abbrev K3 : List Kd := [.xs .bool 256, .int .i64]
noncomputable def a2d (N : Nat) (x : List Int × List Int × Unit) : Option (List Int × Int) :=
 (x3 (x.2.1, ())).bind fun r1 => (
 (Q0 (x.2.1, x.1, ())).bind fun r2 => (
 (x3 (r2, ())).bind fun r3 => (
 m7 (O2 N) N ((0:Int), (0:Int), (List.replicate 256 0), (List.replicate 256 0), r1.1, r3.1, ()) fun y4 => (
 some (y4.2.2.1, y4.1)))))
theorem b2T (e0 : c8 Try.prog 53 D2) (e1 : c8 Try.prog 21 U0) : p_dring_MakeHint_E.Ok Try.prog := AE.of_ok (all_cons c3F (all_cons u4 (all_cons q8 (all_cons b8C c6)))) (all_cons ⟨e0, a0c⟩ (all_cons ⟨e1, a1Z⟩ c6))
theorem b4m (hE : p_dring_MakeHint_E.Ok Try.prog) {g : Ds K0 → Option (Rs K3)} (hg : ∀ x r, g x = some r → ∃ N, a2d N x = some r) : c8 Try.prog 55 ⟨K0, K3, g⟩ :=
 i5 (E := p_dring_MakeHint_E) (H := a7b) (L := fun N => a4P N) (c := a3d) (ks := K0) (rs := K3) (F := a2d) hE mix Try.func55 (by kernel_rfl) (fun N => b0I N) (fun _ _ => by kernel_rfl) hg
noncomputable def p_dring_UseHint_E : AE := AE.of [(4, ty4), (21, ty21), (40, ty40), (76, ty76)] [(53, D2)]
noncomputable def a8K : Hints := [(3, [4, 5, 6, 14, 15]), (2000000, [4, 5]), (2000001, [4, 5, 6, 14, 15]), (2000002, [4, 5, 6, 14, 15]), (3000000, [4])]
noncomputable def a39 : Code := (Try.f39).body.getD .skip
noncomputable def b3c : Shape := mkS { tmps := pv 4 (.sc (.ptr 0 0 false) :: .sc (.ptr 1 0 false) :: .sc (.ptr 2 0 false) :: pv 7 (.agg [.xs .bool (some 256)] :: .sc (.int .i64) :: pv 30 [])), mem := [.live [.xs b32 (some 256)] (.own), .live [.xs b32 (some 256)] (.own), .live [.xs b32 (some 256)] (.own)] } [.xs, .int, .xs, .xs, .xs]
noncomputable def R0 (N : Nat) (β : Type) (x : W6) (kn : W6 → Option β) (ke : W5 → Option β) : Option β :=
 if (x.2.1 < (256:Int)) then
  if 0 ≤ x.2.1 then (
  if x.2.1 < 256 then (
  if (x.2.1.toNat) < 256 then (
  if ((List.getD x.1 (x.2.1.toNat) 0) ≠ 0) then
   if 0 ≤ x.2.1 then (
   if x.2.1 < 256 then (
   if (x.2.1.toNat) < 256 then (
   if ((List.getD x.2.2.2.2.1 (x.2.1.toNat) 0) > (0:Int)) then
    if 0 ≤ x.2.1 then (
    if x.2.1 < 256 then (
    if (x.2.1.toNat) < 256 then (
    if 0 ≤ x.2.1 then (
    if x.2.1 < 256 then (
    if (x.2.1.toNat) < 256 then (
    kn (x.1, (IntKind.i64.wrap (x.2.1 + (1:Int))), x.2.2.1, (List.set x.2.2.2.1 (x.2.1.toNat) (Int.tmod (IntKind.i32.wrap ((List.getD x.2.2.2.1 (x.2.1.toNat) 0) + (1:Int))) (16:Int))), x.2.2.2.2.1, ())) else none) else none) else none) else none) else none) else none
   else
    if ((List.getD x.1 (x.2.1.toNat) 0) ≠ 0) then
     if 0 ≤ x.2.1 then (
     if x.2.1 < 256 then (
     if (x.2.1.toNat) < 256 then (
     if 0 ≤ x.2.1 then (
     if x.2.1 < 256 then (
     if (x.2.1.toNat) < 256 then (
     kn (x.1, (IntKind.i64.wrap (x.2.1 + (1:Int))), x.2.2.1, (List.set x.2.2.2.1 (x.2.1.toNat) (Int.tmod (IntKind.i32.wrap ((IntKind.i32.wrap ((List.getD x.2.2.2.1 (x.2.1.toNat) 0) + (16:Int))) - (1:Int))) (16:Int))), x.2.2.2.2.1, ())) else none) else none) else none) else none) else none) else none
    else
     kn (x.1, (IntKind.i64.wrap (x.2.1 + (1:Int))), x.2.2.1, x.2.2.2.1, x.2.2.2.2.1, ())) else none) else none) else none
  else
   if ((List.getD x.1 (x.2.1.toNat) 0) ≠ 0) then
    if 0 ≤ x.2.1 then (
    if x.2.1 < 256 then (
    if (x.2.1.toNat) < 256 then (
    if 0 ≤ x.2.1 then (
    if x.2.1 < 256 then (
    if (x.2.1.toNat) < 256 then (
    kn (x.1, (IntKind.i64.wrap (x.2.1 + (1:Int))), x.2.2.1, (List.set x.2.2.2.1 (x.2.1.toNat) (Int.tmod (IntKind.i32.wrap ((IntKind.i32.wrap ((List.getD x.2.2.2.1 (x.2.1.toNat) 0) + (16:Int))) - (1:Int))) (16:Int))), x.2.2.2.2.1, ())) else none) else none) else none) else none) else none) else none
   else
    kn (x.1, (IntKind.i64.wrap (x.2.1 + (1:Int))), x.2.2.1, x.2.2.2.1, x.2.2.2.2.1, ())) else none) else none) else none
 else
  ke (x.2.2.1, x.2.2.2.1, ())
noncomputable def b1L : Go' W5 := fun y K => K (.exit 0) (fSt { tmps := pv 4 (.sc (.ptr 0 0 false) :: .sc (.ptr 1 0 false) :: pv 40 []), mem := [.live [.xs b32 (some 256)] (.own), .live [.xs b32 (some 256)] (.own)] } [.xs, .xs] y)
noncomputable def a5s (N : Nat) : LT := upd (LT.nil) 3 (o6 b3c N (R0 N) b1L)
theorem b1M (N : Nat) : OkAll p_dring_UseHint_E a8K N (a5s N) (w9 a39) :=
 d6 (c := d7 3 a39) (OkAll.nil) (by kernel_rfl) (fun x => by kernel_rfl) (fun β x kn ke => by kernel_rfl)
abbrev O4 : List Kd := [.xs .bool 256, .xs b32 256]
abbrev O5 : List Kd := [.xs b32 256]
noncomputable def a3g (N : Nat) (x : List Int × List Int × Unit) : Option (List Int) :=
 (x3 (x.2.1, ())).bind fun r1 => (
 m7 (R0 N) N (x.1, (0:Int), (List.replicate 256 0), r1.1, r1.2, ()) fun y2 => (
 some y2.2.1))
theorem b4t (e0 : c8 Try.prog 53 D2) : p_dring_UseHint_E.Ok Try.prog := AE.of_ok (all_cons c3F (all_cons u4 (all_cons q8 (all_cons b8C c6)))) (all_cons ⟨e0, a0c⟩ c6)
theorem b6c (hE : p_dring_UseHint_E.Ok Try.prog) {g : Ds O4 → Option (Rs O5)} (hg : ∀ x r, g x = some r → ∃ N, a3g N x = some r) : c8 Try.prog 39 ⟨O4, O5, g⟩ :=
 i5 (E := p_dring_UseHint_E) (H := a8K) (L := fun N => a5s N) (c := a39) (ks := O4) (rs := O5) (F := a3g) hE mix Try.func39 (by kernel_rfl) (fun N => b1M N) (fun _ _ => by kernel_rfl) hg
end Go.Ax.TryP
set_option linter.unusedVariables false
namespace Go.Ax.TryP
open Go.Proofs
theorem c0c {a : List Int} : a3G [.xs (.int .i32) 256] (a, ()) ↔ E6 256 a := by simp [a3G, v8]
theorem b1u {a : List Int} (h : E6 256 a) (i : Nat) : -2147483648 ≤ a.getD i 0 ∧ a.getD i 0 ≤ 2147483647 := rows.at h (by omega) i
theorem c88 (a : List Int) : rows 0 8380416 256 (B8 a) := rows.range fun i _ => by omega
theorem c34 (a : List Int) (i : Nat) : 0 ≤ (B8 a).getD i 0 ∧ (B8 a).getD i 0 ≤ 8380416 := rows.at (c88 a) (by omega) i
theorem b2B {a : List Int} {i : Nat} (hi : i < 256) : (B8 a).getD i 0 = a.getD i 0 % 8380417 := i9 hi
theorem c4C : ∀ x r, u1 x = some r → ∃ N, a5J N x = some r := by
 refine d9 (ks := a5h) (rs := a5i) fun x hw _ => ⟨0, ?_⟩
 obtain ⟨(z : Int), u⟩ := x
 have h := d4K (a := z) (b := 8380417) (by omega)
 have h1 := Int.emod_nonneg z (show (8380417 : Int) ≠ 0 by omega)
 have h2 := Int.emod_lt_of_pos z (show (0 : Int) < 8380417 by omega)
 unfold a5J
 simp only at h ⊢
 split
 ·rename_i hlt
  rw [if_pos hlt] at h
  rw [h, c7 (by omega) (by omega), M4 (by omega) (by omega)]
 ·rename_i hlt
  rw [if_neg hlt] at h
  rw [h, M4 (by omega) (by omega)]
theorem a5z {z : Int} (h1 : -9223372036854775808 ≤ z) (h2 : z ≤ 9223372036854775807) : u1 (z, ()) = some (z % 8380417) :=
 d8 (ks := a5h) (rs := a5i) (x := (z, ())) ⟨u2.2 ⟨h1, h2⟩, trivial⟩ trivial
theorem b9W : ∀ x r, a2a x = some r → ∃ N, a2e N x = some r := by
 refine d9 (ks := a2y) (rs := a2z) fun x hw _ => ⟨0, ?_⟩
 obtain ⟨(z : Int), u⟩ := x
 have hz := s9.1 hw.1
 simp only at hz
 unfold a2e
 simp only
 rw [c7 (by omega) (by omega), a5z (by omega) (by omega)]
 rfl
theorem c7c {z : Int} (h1 : -2147483648 ≤ z) (h2 : z ≤ 2147483647) : a2a (z, ()) = some (z % 8380417) :=
 d8 (ks := a2y) (rs := a2z) (x := (z, ())) ⟨s9.2 ⟨h1, h2⟩, trivial⟩ trivial
theorem a5Q : ∀ x r, z8 x = some r → ∃ N, z9 N x = some r := by
 refine d9 (ks := l9) (rs := m5) fun x hw _ => ⟨257, ?_⟩
 obtain ⟨(a : List Int), u, u'⟩ := x
 have ha : E6 256 a := v8.1 hw.1
 have hl := ha.1
 unfold z9
 refine (J0 (s := fun i => (a, (i : Int), part (fun i => a.getD i 0 % 8380417) i a, List.replicate 256 0, ())) (y := (B8 a, List.replicate 256 0, ())) 256 ?_ ?_ 257 (by omega)).trans ?_
 ·intro i hi kn
  have h0 := b1u ha i
  unfold o9
  simp (disch := omega) only [if_pos, c7, Int.toNat_natCast, c7c, Option.bind_some]
  rw [u3 (by omega) rfl, Int.natCast_add]
  rfl
 ·intro kn
  unfold o9
  simp (disch := omega) only [if_neg]
  rw [B7 hl]
  rfl
 ·rfl
theorem c2U : ∀ x r, Q1 x = some r → ∃ N, a4s N x = some r := by
 refine d9 (ks := D7) (rs := a38) fun x hw _ => ⟨0, ?_⟩
 obtain ⟨(a : List Int), u⟩ := x
 unfold a4s
 have h : z8 (a, (), ()) = some (B8 a) := d8 (ks := l9) (rs := m5) (x := (a, (), ())) ⟨hw.1, trivial, trivial⟩ trivial
 simp only
 rw [h]
 rfl
theorem b5n {a : List Int} (h : E6 256 a) : Q1 (a, ()) = some (B8 a) :=
 d8 (ks := D7) (rs := a38) (x := (a, ())) (c0c.2 h) trivial
theorem c6s : ∀ x r, a4N x = some r → ∃ N, a7g N x = some r := by
 refine d9 (ks := a0L) (rs := a6n) fun x hw hq => ⟨0, ?_⟩
 obtain ⟨(z : Int), (m : Int), u⟩ := x
 obtain ⟨h1, h2, h3, h4⟩ : 0 ≤ z ∧ z ≤ 8380416 ∧ 0 < m ∧ m ≤ 523776 := hq
 have e1 := Int.emod_nonneg z (show m ≠ 0 by omega)
 have e2 := Int.emod_lt_of_pos z h3
 unfold a7g b2R
 simp only [a97 h1, a96 (show (0 : Int) ≤ m by omega)]
 rw [if_neg (by omega), M4 (x := m / 2) (by omega) (by omega)]
 split
 ·rw [M4 (by omega) (by omega)]
 ·rfl
theorem d1q {z m : Int} (h1 : 0 ≤ z) (h2 : z ≤ 8380416) (h3 : 0 < m) (h4 : m ≤ 523776) : a4N (z, m, ()) = some (b2R z m) :=
 d8 (ks := a0L) (rs := a6n) (x := (z, m, ())) ⟨s9.2 ⟨by omega, by omega⟩, s9.2 ⟨show -2147483648 ≤ m by omega, show m ≤ 2147483647 by omega⟩, trivial⟩ ⟨h1, h2, h3, h4⟩
theorem c0U {z m : Int} (hz : 0 ≤ z) (h3 : 0 < m) : b2R z m ≤ m / 2 ∧ 2 * b2R z m ≥ -m ∧ b2R z m ≤ z ∧ z - b2R z m ≤ z + m := by
 have e1 := Int.emod_nonneg z (show m ≠ 0 by omega)
 have e2 := Int.emod_lt_of_pos z h3
 have e3 : z % m ≤ z := by
  have := Int.mul_ediv_add_emod z m
  have := Int.mul_nonneg (show 0 ≤ m by omega) (Int.ediv_nonneg hz (show 0 ≤ m by omega))
  omega
 unfold b2R
 split <;> omega
theorem c4D : ∀ x r, a5C x = some r → ∃ N, a5L N x = some r := by
 refine d9 (ks := a5k) (rs := Y4) fun x hw _ => ⟨0, ?_⟩
 obtain ⟨(z : Int), u⟩ := x
 have hz := s9.1 hw.1
 simp only at hz
 have h1 : 0 ≤ z % 8380417 ∧ z % 8380417 ≤ 8380416 := by omega
 have hb := c0U (z := z % 8380417) (m := 523776) (by omega) (by omega)
 unfold a5L fDh fDl d5i
 simp (disch := omega) only [c7, a5z, d1q, Option.bind_some, M4]
 generalize b2R (z % 8380417) 523776 = y at hb
 generalize z % 8380417 = x at h1 hb
 rw [a96 (by omega), M4 (x := (x - y) / 523776) (by omega) (by omega)]
 split <;> rfl
theorem d3L {z : Int} (h1 : -2147483648 ≤ z) (h2 : z ≤ 2147483647) : a5C (z, ()) = some (fDh z, fDl z) :=
 d8 (ks := a5k) (rs := Y4) (x := (z, ())) ⟨s9.2 ⟨h1, h2⟩, trivial⟩ trivial
theorem d4e {x d : Int} (h : 0 ≤ d) (h1 : d ≤ 31) : b9g .i32 x d = x / 2 ^ d.toNat := by
 unfold b9g
 rw [show min d.toNat IntKind.i32.bits = d.toNat by simp [IntKind.bits]; omega]
 exact Int.fdiv_eq_ediv_of_nonneg _ (Int.le_of_lt (Int.pow_pos (by omega)))
theorem b45 : ∀ x r, U5 x = some r → ∃ N, V0 N x = some r := by
 refine d9 (ks := C4) (rs := C5) fun x hw _ => ⟨257, ?_⟩
 obtain ⟨(a : List Int), u⟩ := x
 have ha := c0c.1 hw
 have hl := ha.1
 unfold V0
 have hz : (List.replicate 256 (0 : Int)).length = 256 := List.length_replicate ..
 generalize List.replicate 256 (0 : Int) = Z at hz ⊢
 simp only [b5n ha, Option.bind_some]
 refine (J0 (s := fun i => (B8 a, (i : Int), part (fun i => fPh (a.getD i 0)) i (Z), part (fun i => fPl (a.getD i 0)) i (Z), ())) (y := (p9 fun i => fPh (a.getD i 0), p9 fun i => fPl (a.getD i 0), ())) 256 ?_ ?_ 257 (by omega)).trans ?_
 ·intro i hi kn
  have h0 := c34 a i
  have hb := c0U (z := a.getD i 0 % 8380417) (m := 8192) (by omega) (by omega)
  have hp : ∀ h : Nat → Int, (part h i (Z)).length = 256 := fun h => by rw [a9Y (by omega), hz]
  have hp1 := hp (fun i => fPh (a.getD i 0))
  have hp2 := hp (fun i => fPl (a.getD i 0))
  unfold G2
  simp (disch := omega) only [if_pos, c7, Int.toNat_natCast, d1q, Option.bind_some, a2u, b2B, M4, d4e]
  rw [u3 (h := fun i => fPh (a.getD i 0)) (by omega) (by simp only [fPh, fPl]; rfl), u3 (h := fun i => fPl (a.getD i 0)) (z := b2R (a.getD i 0 % 8380417) 8192) (by omega) rfl, Int.natCast_add]
  rfl
 ·intro kn
  unfold G2
  simp (disch := omega) only [if_neg]
  rw [B7 hz, B7 hz]
  rfl
 ·rfl
theorem b8p : ∀ x r, x3 x = some r → ∃ N, a09 N x = some r := by
 refine d9 (ks := H3) (rs := H4) fun x hw _ => ⟨257, ?_⟩
 obtain ⟨(a : List Int), u⟩ := x
 have ha := c0c.1 hw
 have hl := ha.1
 unfold a09
 have hz : (List.replicate 256 (0 : Int)).length = 256 := List.length_replicate ..
 generalize List.replicate 256 (0 : Int) = Z at hz ⊢
 refine (J0 (s := fun i => (a, (i : Int), part (fun i => fDh (a.getD i 0)) i (Z), part (fun i => fDl (a.getD i 0)) i (Z), ())) (y := (p9 fun i => fDh (a.getD i 0), p9 fun i => fDl (a.getD i 0), ())) 256 ?_ ?_ 257 (by omega)).trans ?_
 ·intro i hi kn
  have h0 := b1u ha i
  unfold M3
  simp (disch := omega) only [if_pos, c7, Int.toNat_natCast, d3L, Option.bind_some]
  rw [u3 (h := fun i => fDh (a.getD i 0)) (by omega) rfl, u3 (h := fun i => fDl (a.getD i 0)) (by omega) rfl, Int.natCast_add]
  rfl
 ·intro kn
  unfold M3
  simp (disch := omega) only [if_neg]
  rw [B7 hz, B7 hz]
  rfl
 ·rfl
theorem d7x {a : List Int} (h : E6 256 a) : U5 (a, ()) = some (c35 a) :=
 d8 (ks := C4) (rs := C5) (x := (a, ())) (c0c.2 h) trivial
theorem c5l {a : List Int} (h : E6 256 a) : x3 (a, ()) = some (b5j a) :=
 d8 (ks := H3) (rs := H4) (x := (a, ())) (c0c.2 h) trivial
theorem d8o : (List.replicate 256 (0 : Int)).length = 256 := List.length_replicate ..
theorem d88 {n : Nat} {a : List Int} : Kd.wf (.xs .bool n) a ↔ a.length = n ∧ ∀ z ∈ a, z = 0 ∨ z = 1 := by simp [Kd.wf]
theorem c28 {a b : List Int} : a3G [.xs (.int .i32) 256, .xs (.int .i32) 256] (a, b, ()) ↔ E6 256 a ∧ E6 256 b := by simp [a3G, v8]
theorem d1V (z : Int) : -4190208 ≤ c2r z ∧ c2r z ≤ 4190208 := by unfold c2r; split <;> omega
theorem b2A {a : List Int} {i : Nat} (hi : i < 256) : (b39 a).getD i 0 = c2r (a.getD i 0) := i9 hi
theorem c1X : ∀ x r, a26 x = some r → ∃ N, a3h N x = some r := by
 refine d9 (ks := a3i) (rs := a3j) fun x hw _ => ⟨0, ?_⟩
 obtain ⟨(z : Int), u⟩ := x
 have hz := s9.1 hw.1
 simp only at hz
 have h1 : 0 ≤ z % 8380417 ∧ z % 8380417 ≤ 8380416 := by omega
 unfold a3h c2r
 simp (disch := omega) only [c7, a5z, Option.bind_some, M4]
 split <;> rfl
theorem c91 {z : Int} (h1 : -2147483648 ≤ z) (h2 : z ≤ 2147483647) : a26 (z, ()) = some (c2r z) :=
 d8 (ks := a3i) (rs := a3j) (x := (z, ())) ⟨s9.2 ⟨h1, h2⟩, trivial⟩ trivial
theorem a6J : ∀ x r, A6 x = some r → ∃ N, A8 N x = some r := by
 refine d9 (ks := m9) (rs := n6) fun x hw _ => ⟨257, ?_⟩
 obtain ⟨(a : List Int), u, u'⟩ := x
 have ha : E6 256 a := v8.1 hw.1
 have hl := ha.1
 unfold A8
 refine (J0 (s := fun i => (a, (i : Int), part (fun i => c2r (a.getD i 0)) i a, List.replicate 256 0, ())) (y := (b39 a, List.replicate 256 0, ())) 256 ?_ ?_ 257 (by omega)).trans ?_
 ·intro i hi kn
  have h0 := b1u ha i
  unfold s8
  simp (disch := omega) only [if_pos, c7, Int.toNat_natCast, c91, Option.bind_some]
  rw [u3 (by omega) rfl, Int.natCast_add]
  rfl
 ·intro kn
  unfold s8
  simp (disch := omega) only [if_neg]
  rw [B7 hl]
  rfl
 ·rfl
theorem c2S : ∀ x r, a1B x = some r → ∃ N, a4q N x = some r := by
 refine d9 (ks := D6) (rs := a37) fun x hw _ => ⟨0, ?_⟩
 obtain ⟨(a : List Int), u⟩ := x
 unfold a4q
 have h : A6 (a, (), ()) = some (b39 a) := d8 (ks := m9) (rs := n6) (x := (a, (), ())) ⟨hw.1, trivial, trivial⟩ trivial
 simp only
 rw [h]
 rfl
theorem c5k {a : List Int} (h : E6 256 a) : a1B (a, ()) = some (b39 a) :=
 d8 (ks := D6) (rs := a37) (x := (a, ())) (c0c.2 h) trivial
theorem d0D (a : List Int) : b7z a 0 = 0 := by unfold b7z; rfl
theorem b7A (a : List Int) (n : Nat) : b7z a (n + 1) = if d2a (c2r (a.getD n 0)) > b7z a n then d2a (c2r (a.getD n 0)) else b7z a n := by
 unfold b7z
 rw [List.range_succ, List.foldl_append]
 rfl
theorem d6v (a : List Int) (n : Nat) : 0 ≤ b7z a n ∧ b7z a n ≤ 4190208 := by
 induction n with
 | zero => unfold b7z; exact ⟨Int.le_refl 0, (by decide : (0 : Int) ≤ 4190208)⟩
 | succ n ih =>
  rw [b7A]
  have := d1V (a.getD n 0)
  unfold d2a
  split <;> split <;> omega
theorem c9r {a : List Int} {m : Int} (h0 : 0 ≤ m) {n : Nat} : b7z a n ≤ m ↔ ∀ i, i < n → d2a (c2r (a.getD i 0)) ≤ m := by
 induction n with
 | zero => exact ⟨fun _ i hi => by omega, fun _ => by unfold b7z; exact h0⟩
 | succ n ih =>
  rw [b7A]
  constructor
  ·intro h i hi
   by_cases e : i = n
   ·subst e; split at h <;> omega
   ·refine ih.1 ?_ i (by omega)
    split at h <;> omega
  ·intro h
   have h1 := ih.2 fun i hi => h i (by omega)
   have h2 := h n (by omega)
   split <;> omega
theorem c6p : ∀ x r, T4 x = some r → ∃ N, a7d N x = some r := by
 refine d9 (ks := a0E) (rs := a6j) fun x hw _ => ⟨257, ?_⟩
 obtain ⟨(a : List Int), u⟩ := x
 have ha := c0c.1 hw
 unfold a7d
 simp only [c5k ha, Option.bind_some]
 refine (i8 (s := fun i => (b7z a i, b39 a, (i : Int), ())) (y := (a1t a, ())) 256 (by rw [d0D]; rfl) ?_ ?_ 257 (by omega)).trans ?_
 ·intro i hi kn
  have hb := d6v a i
  have hc := d1V (a.getD i 0)
  unfold a1a
  simp (disch := omega) only [if_pos, c7, Int.toNat_natCast, b2A, M4]
  rw [b7A, Int.natCast_add]
  unfold d2a
  congr 2
  split <;> split <;> split <;> (try split) <;> omega
 ·intro kn
  unfold a1a
  simp (disch := omega) only [if_neg]
  rfl
 ·rfl
theorem c0r {a : List Int} (h : E6 256 a) : T4 (a, ()) = some (a1t a) :=
 d8 (ks := a0E) (rs := a6j) (x := (a, ())) (c0c.2 h) trivial
theorem c72 : ∀ x r, Q0 x = some r → ∃ N, a9w N x = some r := by
 refine d9 (ks := a1E) (rs := a1F) fun x hw _ => ⟨257, ?_⟩
 obtain ⟨(a : List Int), (b : List Int), u⟩ := x
 obtain ⟨ha, hb⟩ := c28.1 hw
 have hl := ha.1
 unfold a9w
 refine (J0 (s := fun i => ((i : Int), part (fun i => (a.getD i 0 + b.getD i 0) % 8380417) i a, b, List.replicate 256 0, ())) (y := (b0B a b, List.replicate 256 0, ())) 256 ?_ ?_ 257 (by omega)).trans ?_
 ·intro i hi kn
  have h0 := b1u ha i
  have h1 := b1u hb i
  unfold a2c
  simp (disch := omega) only [if_pos, c7, Int.toNat_natCast, a4z, a5z, Option.bind_some]
  rw [u3 (by omega) rfl, Int.natCast_add]
  rfl
 ·intro kn
  unfold a2c
  simp (disch := omega) only [if_neg]
  rw [B7 hl]
  rfl
 ·rfl
theorem c76 : ∀ x r, a0x x = some r → ∃ N, a9J N x = some r := by
 refine d9 (ks := a1J) (rs := a1K) fun x hw _ => ⟨257, ?_⟩
 obtain ⟨(a : List Int), (b : List Int), u⟩ := x
 obtain ⟨ha, hb⟩ := c28.1 hw
 have hl := ha.1
 unfold a9J
 refine (J0 (s := fun i => ((i : Int), part (fun i => (a.getD i 0 - b.getD i 0) % 8380417) i a, b, List.replicate 256 0, ())) (y := (b5A a b, List.replicate 256 0, ())) 256 ?_ ?_ 257 (by omega)).trans ?_
 ·intro i hi kn
  have h0 := b1u ha i
  have h1 := b1u hb i
  unfold a2f
  simp (disch := omega) only [if_pos, c7, Int.toNat_natCast, a4z, a5z, Option.bind_some]
  rw [u3 (by omega) rfl, Int.natCast_add]
  rfl
 ·intro kn
  unfold a2f
  simp (disch := omega) only [if_neg]
  rw [B7 hl]
  rfl
 ·rfl
theorem b1r (a b : List Int) : E6 256 (b0B a b) := rows.range fun i _ => by omega
theorem c0T (a b : List Int) : E6 256 (b5A a b) := rows.range fun i _ => by omega
theorem d0l {a b : List Int} {i : Nat} (hi : i < 256) : (b0B a b).getD i 0 = (a.getD i 0 + b.getD i 0) % 8380417 := i9 hi
theorem c5j {a b : List Int} (h : E6 256 a) (h' : E6 256 b) : Q0 (a, b, ()) = some (b0B a b) :=
 d8 (ks := a1E) (rs := a1F) (x := (a, b, ())) (c28.2 ⟨h, h'⟩) trivial
theorem c5E (h : Nat → Int) : c7m h 0 = 0 := by unfold c7m; rfl
theorem c0C (h : Nat → Int) (n : Nat) : c7m h (n + 1) = if h n ≠ 0 then c7m h n + 1 else c7m h n := by
 unfold c7m
 rw [List.range_succ, List.foldl_append]
 rfl
theorem d5c (h : Nat → Int) (n : Nat) : 0 ≤ c7m h n ∧ c7m h n ≤ n := by
 induction n with
 | zero => unfold c7m; exact ⟨Int.le_refl 0, Int.le_refl 0⟩
 | succ n ih =>
  rw [c0C]
  split <;> omega
theorem d19 (z r : List Int) (i : Nat) : a27 z r i = 0 ∨ a27 z r i = 1 := by unfold a27; split <;> simp
theorem b9U : ∀ x r, X6 x = some r → ∃ N, a2d N x = some r := by
 refine d9 (ks := K0) (rs := K3) fun x hw _ => ⟨257, ?_⟩
 obtain ⟨(z : List Int), (r : List Int), u⟩ := x
 obtain ⟨hz, hr⟩ := c28.1 hw
 unfold a2d
 simp only [c5l hr, c5j hr hz, c5l (b1r r z), Option.bind_some]
 have hZ := d8o
 generalize List.replicate 256 (0 : Int) = Z at hZ ⊢
 refine (i8 (s := fun i => (c7m (a27 z r) i, (i : Int), Z, part (a27 z r) i Z, (b5j r).1, (b5j (b0B r z)).1, ())) (y := (c7m (a27 z r) 256, Z, p9 (a27 z r), ())) 256 (by rw [c5E]; rfl) ?_ ?_ 257 (by omega)).trans ?_
 ·intro i hi kn
  have hb := d5c (a27 z r) i
  have g1 : (i : Int) < 256 := by omega
  have g0 : (0 : Int) ≤ i := by omega
  have e1 : (b5j r).1.getD i 0 = fDh (r.getD i 0) := by rw [show (b5j r).1 = p9 fun i => fDh (r.getD i 0) from rfl, i9 hi]
  have e2 : (b5j (b0B r z)).1.getD i 0 = fDh ((r.getD i 0 + z.getD i 0) % 8380417) := by
   rw [show (b5j (b0B r z)).1 = p9 fun i => fDh ((b0B r z).getD i 0) from rfl, i9 hi, d0l hi]
  have hpl : (part (a27 z r) i Z).length = 256 := by rw [a9Y (by omega), hZ]
  have e3 : (part (a27 z r) i Z).set i (if fDh (r.getD i 0) ≠ fDh ((r.getD i 0 + z.getD i 0) % 8380417) then (1 : Int) else 0) = part (a27 z r) (i + 1) Z := u3 (by omega) rfl
  have e4 : (part (a27 z r) (i + 1) Z).getD i 0 = a27 z r i := b8R (by omega)
  unfold O2
  simp only [g1, g0, hi, if_true, Int.toNat_natCast, e1, e2, e3, e4]
  simp (disch := omega) only [c7]
  rw [c0C, Int.natCast_add]
  split <;> rfl
 ·intro kn
  unfold O2
  simp (disch := omega) only [if_neg]
  rw [B7 hZ]
  rfl
 ·rfl
theorem d8J {h r : List Int} : a3G [.xs .bool 256, .xs (.int .i32) 256] (h, r, ()) ↔ (h.length = 256 ∧ ∀ z ∈ h, z = 0 ∨ z = 1) ∧ E6 256 r := by simp only [a3G, v8, d88, and_true]
theorem d1Y (z : Int) : 0 ≤ fDh z ∧ fDh z ≤ 15 := by
 unfold fDh d5i b2R
 split <;> split at * <;> omega
theorem d9f (z : Int) : -261888 ≤ fDl z ∧ fDl z ≤ 261888 := by
 unfold fDl d5i b2R
 split <;> split at * <;> omega
theorem c1W : ∀ x r, a0y x = some r → ∃ N, a3g N x = some r := by
 refine d9 (ks := O4) (rs := O5) fun x hw _ => ⟨257, ?_⟩
 obtain ⟨(h : List Int), (r : List Int), u⟩ := x
 obtain ⟨hh, hr⟩ := d8J.1 hw
 unfold a3g
 simp only [c5l hr, Option.bind_some]
 have hlen : (b5j r).1.length = 256 := a1A _
 refine (J0 (s := fun i => (h, (i : Int), List.replicate 256 0, part (fun i => b67 (h.getD i 0) (r.getD i 0)) i (b5j r).1, (b5j r).2, ())) (y := (List.replicate 256 0, d6e h r, ())) 256 ?_ ?_ 257 (by omega)).trans ?_
 ·intro i hi kn
  have g1 : (i : Int) < 256 := by omega
  have g0 : (0 : Int) ≤ i := by omega
  have e1 : (b5j r).1.getD i 0 = fDh (r.getD i 0) := by rw [show (b5j r).1 = p9 fun i => fDh (r.getD i 0) from rfl, i9 hi]
  have e2 : (b5j r).2.getD i 0 = fDl (r.getD i 0) := by rw [show (b5j r).2 = p9 fun i => fDl (r.getD i 0) from rfl, i9 hi]
  have hb := d1Y (r.getD i 0)
  have hpl : (part (fun i => b67 (h.getD i 0) (r.getD i 0)) i (b5j r).1).length = 256 := by rw [a9Y (by omega)]; exact hlen
  unfold R0
  simp only [g1, g0, hi, if_true, Int.toNat_natCast, a4z, e1, e2]
  simp (disch := omega) only [c7, M4, a97]
  by_cases hz : h.getD i 0 = 0
  ·have e5 : part (fun i => b67 (h.getD i 0) (r.getD i 0)) (i + 1) (b5j r).1 = part (fun i => b67 (h.getD i 0) (r.getD i 0)) i (b5j r).1 := by
    rw [← u3 (h := fun i => b67 (h.getD i 0) (r.getD i 0)) (z := fDh (r.getD i 0)) (by omega) (by unfold b67; rw [hz]; rfl)]
    refine rows.ext (n := 256) (by rw [List.length_set, hpl]) hpl fun j hj => ?_
    by_cases hji : i = j
    ·subst hji; rw [a2u (by omega), a4z, e1]
    ·rw [getD_set_ne hji]
   simp only [hz, ne_eq, not_true_eq_false, if_false]
   rw [e5, Int.natCast_add]
   rfl
  ·simp only [hz, ne_eq, not_false_eq_true, if_true]
   split
   ·rename_i hgt
    rw [u3 (h := fun i => b67 (h.getD i 0) (r.getD i 0)) (by omega) (by unfold b67; rw [if_pos hz, if_pos hgt]), Int.natCast_add]
    rfl
   ·rename_i hgt
    rw [u3 (h := fun i => b67 (h.getD i 0) (r.getD i 0)) (by omega) (by unfold b67; rw [if_pos hz, if_neg hgt]; congr 1; omega), Int.natCast_add]
    rfl
 ·intro kn
  unfold R0
  simp (disch := omega) only [if_neg]
  rw [B7 hlen]
  rfl
 ·rfl
theorem d7y {h r : List Int} (hh : h.length = 256 ∧ ∀ z ∈ h, z = 0 ∨ z = 1) (hr : E6 256 r) : a0y (h, r, ()) = some (d6e h r) :=
 d8 (ks := O4) (rs := O5) (x := (h, r, ())) (d8J.2 ⟨hh, hr⟩) trivial
theorem d5J {z r : List Int} (hz : E6 256 z) (hr : E6 256 r) : X6 (z, r, ()) = some (d1Z z r) :=
 d8 (ks := K0) (rs := K3) (x := (z, r, ())) (c28.2 ⟨hz, hr⟩) trivial
theorem d6i (z r : List Int) : (d1Z z r).1.length = 256 ∧ ∀ y ∈ (d1Z z r).1, y = 0 ∨ y = 1 := by
 refine ⟨a1A _, fun y hy => ?_⟩
 obtain ⟨i, _, rfl⟩ := List.mem_map.1 hy
 exact d19 z r i
theorem d7R (z : Int) : -4095 ≤ fPl z ∧ fPl z ≤ 4096 := by unfold fPl b2R; split <;> omega
theorem d7Q (z : Int) : 0 ≤ fPh z ∧ fPh z ≤ 1023 := by unfold fPh fPl b2R; split <;> omega
end Go.Ax.TryP
set_option linter.unusedVariables false
namespace Go.Ax.TryP
open Go.Proofs
theorem a0t {h h' : Nat → Int} (e : ∀ i, i < 256 → h i = h' i) : p9 h = p9 h' := List.map_congr_left fun i hi => e i (List.mem_range.1 hi)
theorem c5J {h h' : Nat → Int} {j : Nat} {v : Int} (hj : h' j = v) (e : ∀ i, i < 256 → i ≠ j → h' i = h i) : (p9 h).set j v = p9 h' := by
 apply List.ext_getElem?
 intro i
 rw [List.getElem?_set]
 by_cases hij : j = i
 ·subst hij
  simp only [if_true]
  by_cases hl : j < 256
  ·simp [p9, hl, hj]
  ·simp [p9, hl]
 ·rw [if_neg hij]
  by_cases hl : i < 256
  ·simp [p9, hl, e i hl (Ne.symm hij)]
  ·simp [p9, hl]
theorem a5U {a : List Int} (h : a.length = 256) : p9 (fun i => a.getD i 0) = a := by
 apply List.ext_getElem?
 intro i
 by_cases hl : i < 256
 ·simp [p9, hl, List.getD_eq_getElem?_getD, List.getElem?_eq_getElem (show i < a.length by omega)]
 ·simp [p9, hl, List.getElem?_eq_none (show a.length ≤ i by omega)]
def dred (a : List Int) : Prop := a.length = 256 ∧ ∀ i, 0 ≤ a.getD i 0 ∧ a.getD i 0 < 8380417
theorem b5u (a : List Int) : dred (B8 a) := ⟨(c88 a).1, fun i => by have := c34 a i; omega⟩
theorem a59 {h : Nat → Int} (hh : ∀ i, i < 256 → 0 ≤ h i ∧ h i < 8380417) : dred (p9 h) := by
 refine ⟨by simp [p9], fun i => ?_⟩
 by_cases hi : i < 256
 ·rw [i9 hi]; exact hh i hi
 ·rw [List.getD_eq_getElem?_getD, List.getElem?_eq_none (by simp [p9]; omega)]; simp
theorem dred.i32 {a : List Int} (h : dred a) : E6 256 a := by
 refine ⟨h.1, fun z hz => ?_⟩
 obtain ⟨i, hi, rfl⟩ := List.getElem_of_mem hz
 have := h.2 i
 rw [List.getD_eq_getElem?_getD, List.getElem?_eq_getElem hi] at this
 simp only [Option.getD_some] at this
 omega
theorem c7q (s : Nat) (a : List Int) (j : Nat) : 0 ≤ b7m s a j ∧ b7m s a j < 8380417 := by unfold b7m; split <;> omega
theorem c7s (s : Nat) (a : List Int) : dred (a9i s a) := by exact a59 fun i _ => c7q s a i
theorem c86 {s m b r : Nat} (hm : s * m = 128) (hs : 0 < s) (hr : r < s) (a : List Int) : b7m s a (2 * s * b + r) = (a.getD (2 * s * b + r) 0 + w5 (m + b) * a.getD (2 * s * b + r + s) 0 % 8380417) % 8380417 := by
 have e1 : (2 * s * b + r) % (2 * s) = r := by rw [Nat.mul_add_mod]; exact Nat.mod_eq_of_lt (by omega)
 have e2 : (2 * s * b + r) / (2 * s) = b := by rw [Nat.mul_add_div (by omega), Nat.div_eq_of_lt (by omega), Nat.add_zero]
 have e3 : 128 / s = m := by rw [← hm, Nat.mul_div_cancel_left _ hs]
 unfold b7m
 rw [e1, e2, e3, if_pos hr]
theorem c85 {s m b r : Nat} (hm : s * m = 128) (hs : 0 < s) (hr : r < s) (a : List Int) : b7m s a (2 * s * b + r + s) = (a.getD (2 * s * b + r) 0 - w5 (m + b) * a.getD (2 * s * b + r + s) 0 % 8380417) % 8380417 := by
 have e1 : (2 * s * b + r + s) % (2 * s) = r + s := by rw [Nat.add_assoc, Nat.mul_add_mod]; exact Nat.mod_eq_of_lt (by omega)
 have e2 : (2 * s * b + r + s) / (2 * s) = b := by rw [Nat.add_assoc, Nat.mul_add_div (by omega), Nat.div_eq_of_lt (by omega), Nat.add_zero]
 have e3 : 128 / s = m := by rw [← hm, Nat.mul_div_cancel_left _ hs]
 unfold b7m
 rw [e1, e2, e3, if_neg (by omega), Nat.add_sub_cancel]
theorem c7o (s : Nat) (a : List Int) (j : Nat) : 0 ≤ b7l s a j ∧ b7l s a j < 8380417 := by unfold b7l; split <;> omega
theorem c7r (s : Nat) (a : List Int) : dred (a48 s a) := a59 fun i _ => c7o s a i
theorem c0K (a : List Int) : ∀ i, dred (a7G a i)
 | 0 => b5u a
 | _ + 1 => c7r _ _
theorem c84 {s b r : Nat} (hs : 0 < s) (hr : r < s) (a : List Int) : b7l s a (2 * s * b + r) = (a.getD (2 * s * b + r) 0 + a.getD (2 * s * b + r + s) 0) % 8380417 := by
 have e1 : (2 * s * b + r) % (2 * s) = r := by rw [Nat.mul_add_mod]; exact Nat.mod_eq_of_lt (by omega)
 unfold b7l
 rw [e1, if_pos hr]
theorem c83 {s m b r : Nat} (hm : s * m = 128) (hs : 0 < s) (hr : r < s) (a : List Int) : b7l s a (2 * s * b + r + s) = w5 (2 * m - 1 - b) * (a.getD (2 * s * b + r + s) 0 - a.getD (2 * s * b + r) 0) % 8380417 := by
 have e1 : (2 * s * b + r + s) % (2 * s) = r + s := by rw [Nat.add_assoc, Nat.mul_add_mod]; exact Nat.mod_eq_of_lt (by omega)
 have e2 : (2 * s * b + r + s) / (2 * s) = b := by rw [Nat.add_assoc, Nat.mul_add_div (by omega), Nat.div_eq_of_lt (by omega), Nat.add_zero]
 have e3 : 128 / s = m := by rw [← hm, Nat.mul_div_cancel_left _ hs]
 unfold b7l
 rw [e1, e2, e3, if_neg (by omega), Nat.add_sub_cancel]
def dcg (x y : Int) : Prop := ∃ k : Int, x = y + 8380417 * k
theorem dcg.refl (x : Int) : dcg x x := ⟨0, by omega⟩
theorem dcg.of_eq {x y : Int} (h : x = y) : dcg x y := by subst h; exact dcg.refl _
theorem dcg.symm {x y : Int} (h : dcg x y) : dcg y x := by obtain ⟨k, h⟩ := h; exact ⟨-k, by omega⟩
theorem dcg.trans {x y z : Int} (h : dcg x y) (g : dcg y z) : dcg x z := by obtain ⟨k, h⟩ := h; obtain ⟨l, g⟩ := g; exact ⟨k + l, by omega⟩
theorem dcg.add {x y z w : Int} (h : dcg x y) (g : dcg z w) : dcg (x + z) (y + w) := by obtain ⟨k, h⟩ := h; obtain ⟨l, g⟩ := g; exact ⟨k + l, by omega⟩
theorem dcg.sub {x y z w : Int} (h : dcg x y) (g : dcg z w) : dcg (x - z) (y - w) := by obtain ⟨k, h⟩ := h; obtain ⟨l, g⟩ := g; exact ⟨k - l, by omega⟩
theorem dcg.mul {x y z w : Int} (h : dcg x y) (g : dcg z w) : dcg (x * z) (y * w) := by
 obtain ⟨k, h⟩ := h; obtain ⟨l, g⟩ := g
 exact ⟨y * l + k * w + 8380417 * (k * l), by subst h; subst g; grind⟩
theorem dcg.mod (x : Int) : dcg (x % 8380417) x := ⟨-(x / 8380417), by omega⟩
theorem dcg.eq {x y : Int} (h : dcg x y) (hx : 0 ≤ x ∧ x < 8380417) (hy : 0 ≤ y ∧ y < 8380417) : x = y := by obtain ⟨k, h⟩ := h; omega
theorem c5L {s m : Nat} (hm : s * m = 128) (hs : 0 < s) {j : Nat} (hj : j < 256) : ∃ b r, b < m ∧ r < s ∧ (j = 2 * s * b + r ∨ j = 2 * s * b + r + s) := by
 have h1 := Nat.div_add_mod j (2 * s)
 have h2 := Nat.mod_lt j (show 2 * s > 0 by omega)
 have hall : 2 * s * m = 256 := by rw [Nat.mul_assoc, hm]
 have hb : j / (2 * s) < m := by rw [Nat.div_lt_iff_lt_mul (by omega), Nat.mul_comm, hall]; exact hj
 by_cases hr : j % (2 * s) < s
 ·exact ⟨_, _, hb, hr, .inl h1.symm⟩
 ·exact ⟨j / (2 * s), j % (2 * s) - s, hb, by omega, .inr (by omega)⟩
theorem a8g {s m b r : Nat} (hm : s * m = 128) (hb : b < m) (hr : r < s) : 2 * s * b + r + s < 256 := by
 have h1 : s * (b + 1) ≤ s * m := Nat.mul_le_mul_left _ (by omega)
 rw [hm, Nat.mul_add] at h1
 rw [Nat.mul_assoc]
 omega
def dlin (c d : Int) (x y z : List Int) : Prop := ∀ i, i < 256 → dcg (z.getD i 0) (c * x.getD i 0 + d * y.getD i 0)
theorem d1Q {s m b r : Nat} (hm : s * m = 128) (hs : 0 < s) (hb : b < m) (hr : r < s) (a : List Int) :
  dcg ((a9i s a).getD (2 * s * b + r) 0) (a.getD (2 * s * b + r) 0 + w5 (m + b) * a.getD (2 * s * b + r + s) 0) := by
 have hl := a8g hm hb hr
 rw [a9i, i9 (by omega), c86 hm hs hr]
 exact (dcg.mod _).trans ((dcg.refl _).add (dcg.mod _))
theorem d1P {s m b r : Nat} (hm : s * m = 128) (hs : 0 < s) (hb : b < m) (hr : r < s) (a : List Int) :
  dcg ((a9i s a).getD (2 * s * b + r + s) 0) (a.getD (2 * s * b + r) 0 - w5 (m + b) * a.getD (2 * s * b + r + s) 0) := by
 have hl := a8g hm hb hr
 rw [a9i, i9 (by omega), c85 hm hs hr]
 exact (dcg.mod _).trans ((dcg.refl _).sub (dcg.mod _))
theorem c82 {s m b r : Nat} (hm : s * m = 128) (hs : 0 < s) (hb : b < m) (hr : r < s) (a : List Int) :
  dcg ((a48 s a).getD (2 * s * b + r) 0) (a.getD (2 * s * b + r) 0 + a.getD (2 * s * b + r + s) 0) := by
 have hl := a8g hm hb hr
 rw [a48, i9 (by omega), c84 hs hr]
 exact dcg.mod _
theorem c81 {s m b r : Nat} (hm : s * m = 128) (hs : 0 < s) (hb : b < m) (hr : r < s) (a : List Int) :
  dcg ((a48 s a).getD (2 * s * b + r + s) 0) (w5 (2 * m - 1 - b) * (a.getD (2 * s * b + r + s) 0 - a.getD (2 * s * b + r) 0)) := by
 have hl := a8g hm hb hr
 rw [a48, i9 (by omega), c83 hm hs hr]
 exact dcg.mod _
theorem d57 {s m : Nat} (hm : s * m = 128) (hs : 0 < s) {c d : Int} {x y z : List Int} (h : dlin c d x y z) : dlin c d (a48 s x) (a48 s y) (a48 s z) := by
 intro i hi
 obtain ⟨b, r, hb, hr, hj | hj⟩ := c5L hm hs hi
 ·subst hj
  have hl := a8g hm hb hr
  have h1 := h (2 * s * b + r) (by omega)
  have h2 := h (2 * s * b + r + s) (by omega)
  refine (c82 hm hs hb hr z).trans ((h1.add h2).trans (dcg.symm ?_))
  refine (((dcg.refl c).mul (c82 hm hs hb hr x)).add ((dcg.refl d).mul (c82 hm hs hb hr y))).trans (dcg.of_eq ?_)
  grind
 ·subst hj
  have hl := a8g hm hb hr
  have h1 := h (2 * s * b + r) (by omega)
  have h2 := h (2 * s * b + r + s) (by omega)
  refine (c81 hm hs hb hr z).trans (((dcg.refl _).mul (h2.sub h1)).trans (dcg.symm ?_))
  refine (((dcg.refl c).mul (c81 hm hs hb hr x)).add ((dcg.refl d).mul (c81 hm hs hb hr y))).trans (dcg.of_eq ?_)
  grind
theorem c7t : (List.range 8).all (fun t => (List.range (2 ^ t)).all fun b => w5 (2 * 2 ^ t - 1 - b) * w5 (2 ^ t + b) % 8380417 == 8380416) = true := by decide +kernel
theorem d0j {t b : Nat} (ht : t < 8) (hb : b < 2 ^ t) : dcg (w5 (2 * 2 ^ t - 1 - b) * w5 (2 ^ t + b)) (-1) := by
 have h1 := List.all_eq_true.1 c7t t (List.mem_range.2 ht)
 have h2 := List.all_eq_true.1 h1 b (List.mem_range.2 hb)
 have h3 := eq_of_beq h2
 exact ⟨(w5 (2 * 2 ^ t - 1 - b) * w5 (2 ^ t + b)) / 8380417 + 1, by omega⟩
theorem d7K {s t : Nat} (ht : t < 8) (hm : s * 2 ^ t = 128) (hs : 0 < s) (x : List Int) : dlin 2 0 x x (a48 s (a9i s x)) := by
 intro i hi
 obtain ⟨b, r, hb, hr, hj | hj⟩ := c5L hm hs hi
 ·subst hj
  refine (c82 hm hs hb hr _).trans (((d1Q hm hs hb hr x).add (d1P hm hs hb hr x)).trans (dcg.of_eq ?_))
  grind
 ·subst hj
  refine (c81 hm hs hb hr _).trans (((dcg.refl _).mul ((d1P hm hs hb hr x).sub (d1Q hm hs hb hr x))).trans ?_)
  have hz := (d0j ht hb).mul (dcg.refl (-2 * x.getD (2 * s * b + r + s) 0))
  refine (dcg.of_eq ?_).trans (hz.trans (dcg.of_eq ?_)) <;> grind
theorem c0L (a : List Int) : ∀ i, dred (a3Y a i)
 | 0 => b5u a
 | _ + 1 => c7s _ _
theorem c8Z (a : List Int) : a05 a = a3Y a 8 := rfl
def c3Y (i : Nat) : Int := 1753 ^ (2 * d4w i + 1) % 8380417
theorem dlin.trans1 {c d : Int} {x y z : List Int} (h : dlin c 0 y y z) (g : dlin d 0 x x y) : dlin (c * d) 0 x x z := by
 intro i hi
 refine (h i hi).trans ((((dcg.refl c).mul (g i hi)).add (dcg.refl _)).trans (dcg.of_eq ?_))
 grind
theorem b5t : ∀ t, t < 8 → (128 / 2 ^ t) * 2 ^ t = 128 ∧ 0 < 128 / 2 ^ t ∧ 2 ^ (7 - t) = 128 / 2 ^ t := by decide
theorem d3Y {a b : List Int} (ha : dred a) (hb : dred b) (h : dlin 1 0 a a b) : b = a := by
 rw [← a5U ha.1, ← a5U hb.1]
 refine a0t fun i hi => ?_
 have := h i hi
 exact dcg.eq (this.trans (dcg.of_eq (by grind))) (hb.2 i) (ha.2 i)
theorem c0I {a : List Int} (h : dred a) : B8 a = a := by
 conv => rhs; rw [← a5U h.1]
 refine a0t fun i hi => ?_
 have := h.2 i
 omega
theorem b1i (a : List Int) : dred (a05 a) := by rw [c8Z]; exact c0L a 8
theorem c5K (a : List Int) : dred (b4a a) := a59 fun i _ => by omega
theorem c0G (a : List Int) : ∀ k, k ≤ 8 → dlin (2 ^ k) 0 (a3Y a (8 - k)) (a3Y a (8 - k)) (a7G (a05 a) k)
 | 0, _ => by
  rw [a7G, c0I (b1i a), c8Z]
  intro i _
  exact dcg.of_eq (by grind)
 | k + 1, hk => by
  have ih := c0G a k (by omega)
  obtain ⟨f1, f2, f3⟩ := b5t (7 - k) (by omega)
  rw [show 7 - (7 - k) = k by omega] at f3
  have e : 8 - k = (7 - k) + 1 := by omega
  have e2 : 8 - (k + 1) = 7 - k := by omega
  rw [e, a3Y] at ih
  rw [a7G, e2, f3]
  have h1 := d57 f1 f2 ih
  have h2 := d7K (by omega) f1 f2 (a3Y a (7 - k))
  have := h1.trans1 h2
  rwa [Int.pow_succ]
theorem d0c (a : List Int) : b4a (a05 a) = B8 a := by
 have h := c0G a 8 (Nat.le_refl _)
 rw [Nat.sub_self, a3Y] at h
 refine d3Y (b5u a) (c5K _) ?_
 intro i hi
 rw [b4a, i9 hi]
 refine (dcg.mod _).trans (((h i hi).mul (dcg.refl 8347681)).trans ⟨255 * (B8 a).getD i 0, by grind⟩)
theorem c3g (a b : List Int) : dred (a6d a b) := a59 fun i _ => by omega
def a3H : Nat → (Nat → Int) → Int
 | 0, _ => 0
 | n + 1, f => a3H n f + f n
theorem a2E {n : Nat} {f g : Nat → Int} (h : ∀ i, i < n → f i = g i) : a3H n f = a3H n g := by
 induction n with
 | zero => rfl
 | succ n ih => rw [a3H, a3H, ih fun i hi => h i (by omega), h n (by omega)]
theorem d1S {n : Nat} {f g : Nat → Int} (h : ∀ i, i < n → dcg (f i) (g i)) : dcg (a3H n f) (a3H n g) := by
 induction n with
 | zero => exact dcg.refl _
 | succ n ih => exact (ih fun i hi => h i (by omega)).add (h n (by omega))
theorem c30 (n : Nat) (f g : Nat → Int) : a3H n (fun i => f i + g i) = a3H n f + a3H n g := by
 induction n with
 | zero => rfl
 | succ n ih => rw [a3H, a3H, a3H, ih]; omega
theorem c31 (n : Nat) (c : Int) (f : Nat → Int) : a3H n (fun i => c * f i) = c * a3H n f := by
 induction n with
 | zero => simp [a3H]
 | succ n ih => rw [a3H, a3H, ih]; grind
theorem b3G (n : Nat) (c : Int) (f : Nat → Int) : a3H n (fun i => f i * c) = a3H n f * c := by
 induction n with
 | zero => simp [a3H]
 | succ n ih => rw [a3H, a3H, ih]; grind
theorem c0N (n : Nat) : a3H n (fun _ => 0) = 0 := by
 induction n with
 | zero => rfl
 | succ n ih => rw [a3H, ih]; rfl
theorem d1T (n m : Nat) (f : Nat → Nat → Int) : a3H n (fun i => a3H m (f i)) = a3H m (fun j => a3H n fun i => f i j) := by
 induction n with
 | zero => simp [a3H, c0N]
 | succ n ih => rw [a3H, ih, ← c30]; rfl
theorem d30 (n : Nat) (f : Nat → Int) : a3H (2 * n) f = a3H n fun i => f (2 * i) + f (2 * i + 1) := by
 induction n with
 | zero => rfl
 | succ n ih => rw [show 2 * (n + 1) = 2 * n + 1 + 1 by omega, a3H, a3H, ih, a3H]; omega
theorem b7o (n m : Nat) (f : Nat → Int) : a3H (n + m) f = a3H n f + a3H m fun i => f (n + i) := by
 induction m with
 | zero => simp [a3H]
 | succ m ih => rw [← Nat.add_assoc, a3H, ih, a3H]; omega
def d1N : Nat → Nat → Int
 | 0, _ => -1
 | t + 1, b => if b % 2 = 0 then w5 (2 ^ t + b / 2) else - w5 (2 ^ t + b / 2)
theorem c7n : (List.range 8).all (fun t => (List.range (2 ^ t)).all fun b => (w5 (2 ^ t + b) * w5 (2 ^ t + b) - d1N t b) % 8380417 == 0) = true := by decide +kernel
theorem d54 {t b : Nat} (ht : t < 8) (hb : b < 2 ^ t) : dcg (d1N t b) (w5 (2 ^ t + b) * w5 (2 ^ t + b)) := by
 have h1 := List.all_eq_true.1 c7n t (List.mem_range.2 ht)
 have h3 := eq_of_beq (List.all_eq_true.1 h1 b (List.mem_range.2 hb))
 exact ⟨-((w5 (2 ^ t + b) * w5 (2 ^ t + b) - d1N t b) / 8380417), by omega⟩
theorem c3U : (List.range 256).all (fun i => (d1N 8 i - c3Y i) % 8380417 == 0) = true := by decide +kernel
theorem d1O {i : Nat} (hi : i < 256) : dcg (d1N 8 i) (c3Y i) := by
 have h3 := eq_of_beq (List.all_eq_true.1 c3U i (List.mem_range.2 hi))
 exact ⟨(d1N 8 i - c3Y i) / 8380417, by omega⟩
theorem dcg.pow {x y : Int} (h : dcg x y) (n : Nat) : dcg (x ^ n) (y ^ n) := by
 induction n with
 | zero => rw [Int.pow_zero, Int.pow_zero]; exact dcg.refl _
 | succ n ih => rw [Int.pow_succ, Int.pow_succ]; exact ih.mul h
def dev (a : List Int) (n L r : Nat) (c : Int) : Int := a3H n fun j => a.getD (j * L + r) 0 * c ^ j
theorem c8Y (a : List Int) (n s r : Nat) (z : Int) : dev a (2 * n) s r z = dev a n (2 * s) r (z * z) + z * dev a n (2 * s) (r + s) (z * z) := by
 unfold dev
 rw [d30, ← c31, ← c30]
 refine a2E fun i _ => ?_
 rw [show 2 * i * s + r = i * (2 * s) + r by grind, show (2 * i + 1) * s + r = i * (2 * s) + (r + s) by grind]
 rw [Int.pow_succ, Int.pow_mul, show z ^ 2 = z * z by rw [Int.pow_succ, Int.pow_succ, Int.pow_zero, Int.one_mul]]
 grind
theorem c5I {a : List Int} {n L r : Nat} {c d : Int} (h : dcg c d) : dcg (dev a n L r c) (dev a n L r d) := d1S fun j _ => (dcg.refl _).mul (h.pow j)
theorem c5M (a : List Int) : ∀ t, t ≤ 8 → ∀ b r, b < 2 ^ t → r < 256 / 2 ^ t → dcg ((a3Y a t).getD (256 / 2 ^ t * b + r) 0) (dev (B8 a) (2 ^ t) (256 / 2 ^ t) r (d1N t b))
 | 0, _, b, r, hb, _ => by
  have : b = 0 := by simpa using hb
  subst this
  simp only [a3Y, Nat.pow_zero, dev, a3H, Int.pow_zero]
  exact dcg.of_eq (by simp)
 | t + 1, ht, b, r, hb, hr => by
  obtain ⟨f1, f2, _⟩ := b5t t (by omega)
  have e1 : 256 / 2 ^ (t + 1) = 128 / 2 ^ t := (by decide : ∀ t, t < 8 → 256 / 2 ^ (t + 1) = 128 / 2 ^ t) t (by omega)
  have e2 : 256 / 2 ^ t = 2 * (128 / 2 ^ t) := (by decide : ∀ t, t < 8 → 256 / 2 ^ t = 2 * (128 / 2 ^ t)) t (by omega)
  rw [e1] at hr ⊢
  have ih := c5M a t (by omega) (b / 2)
  rw [e2] at ih
  have hb2 : b / 2 < 2 ^ t := by rw [Nat.pow_succ] at hb; omega
  have i1 := ih r hb2 (by omega)
  have i2 := ih (r + 128 / 2 ^ t) hb2 (by omega)
  have hsq := d54 (by omega) hb2
  have p2 : 2 ^ (t + 1) = 2 * 2 ^ t := by rw [Nat.pow_succ, Nat.mul_comm]
  rw [a3Y, p2]
  generalize hS : 128 / 2 ^ t = s at *
  rw [← Nat.add_assoc] at i2
  rcases Nat.mod_two_eq_zero_or_one b with hm | hm
  ·have hc : d1N (t + 1) b = w5 (2 ^ t + b / 2) := by rw [d1N, if_pos hm]
   have hidx : s * b + r = 2 * s * (b / 2) + r := by
    have : b = 2 * (b / 2) := by omega
    conv => lhs; rw [this]
    grind
   rw [hidx, hc, c8Y]
   refine (d1Q f1 f2 hb2 hr _).trans ((i1.trans (c5I hsq)).add ((dcg.refl _).mul (i2.trans (c5I hsq))))
  ·have hc : d1N (t + 1) b = - w5 (2 ^ t + b / 2) := by rw [d1N, if_neg (by omega)]
   have hidx : s * b + r = 2 * s * (b / 2) + r + s := by
    have : b = 2 * (b / 2) + 1 := by omega
    conv => lhs; rw [this]
    grind
   have hneg : (- w5 (2 ^ t + b / 2)) * (- w5 (2 ^ t + b / 2)) = w5 (2 ^ t + b / 2) * w5 (2 ^ t + b / 2) := by grind
   rw [hidx, hc, c8Y, hneg]
   refine (d1P f1 f2 hb2 hr _).trans (((i1.trans (c5I hsq)).sub ((dcg.refl _).mul (i2.trans (c5I hsq)))).trans (dcg.of_eq ?_))
   grind
def dE (a : List Int) (p : Int) : Int := a3H 256 fun k => (B8 a).getD k 0 * p ^ k
theorem c7p (a : List Int) {i : Nat} (hi : i < 256) : dcg ((a05 a).getD i 0) (dE a (c3Y i)) := by
 have h := (c5M a 8 (Nat.le_refl _) i 0 hi (by decide)).trans (c5I (d1O hi))
 rw [show 256 / 2 ^ 8 * i + 0 = i by omega] at h
 refine h.trans (dcg.of_eq (a2E fun j _ => ?_))
 rw [show j * (256 / 2 ^ 8) + 0 = j by omega]
theorem c3Z : (List.range 256).all (fun i => (c3Y i ^ 256 + 1) % 8380417 == 0) = true := by decide +kernel
theorem d1R {i : Nat} (hi : i < 256) : dcg (c3Y i ^ 256) (-1) := by
 have h3 := eq_of_beq (List.all_eq_true.1 c3Z i (List.mem_range.2 hi))
 exact ⟨(c3Y i ^ 256 + 1) / 8380417, by omega⟩
def dcv (a b : List Int) (i n : Nat) : Int := a3H i fun u => if u ≤ n ∧ n < u + 256 then (B8 a).getD u 0 * (B8 b).getD (n - u) 0 else 0
theorem d3V (a b : List Int) (i n : Nat) : dcv a b (i + 1) n = if i ≤ n ∧ n < i + 256 then dcv a b i n + (B8 a).getD i 0 * (B8 b).getD (n - i) 0 else dcv a b i n := by
 unfold dcv
 rw [a3H]
 split <;> omega
def c0S (a b : List Int) : List Int := p9 fun j => (dcv a b 256 j - dcv a b 256 (j + 256)) % 8380417
theorem d0h {v : Nat} (hv : v ≤ 256) (g : Nat → Int) (p : Int) : a3H 512 (fun j => if v ≤ j ∧ j < v + 256 then g (j - v) * p ^ j else 0) = p ^ v * a3H 256 fun k => g k * p ^ k := by
 rw [show 512 = v + (256 + (256 - v)) by omega, b7o, b7o, ← c31]
 rw [a2E (n := v) (g := fun _ => 0) (fun i hi => if_neg (by omega)), c0N]
 rw [a2E (n := 256 - v) (g := fun _ => 0) (fun i hi => if_neg (by omega)), c0N]
 rw [Int.zero_add, Int.add_zero]
 refine a2E fun i hi => ?_
 rw [if_pos (by omega), show v + i - v = i by omega, Int.pow_add]
 grind
theorem d9d (a b : List Int) (p : Int) : a3H 512 (fun n => dcv a b 256 n * p ^ n) = dE a p * dE b p := by
 have h1 : a3H 512 (fun n => dcv a b 256 n * p ^ n) = a3H 256 fun u => (B8 a).getD u 0 * a3H 512 fun n => if u ≤ n ∧ n < u + 256 then (B8 b).getD (n - u) 0 * p ^ n else 0 := by
  rw [show (fun u => (B8 a).getD u 0 * a3H 512 fun n => if u ≤ n ∧ n < u + 256 then (B8 b).getD (n - u) 0 * p ^ n else 0) = fun u => a3H 512 fun n => (B8 a).getD u 0 * (if u ≤ n ∧ n < u + 256 then (B8 b).getD (n - u) 0 * p ^ n else 0) from funext fun u => (c31 _ _ _).symm]
  rw [d1T]
  refine a2E fun j _ => ?_
  unfold dcv
  rw [← b3G]
  refine a2E fun u _ => ?_
  split <;> grind
 rw [h1]
 unfold dE
 rw [← b3G]
 refine a2E fun u hu => ?_
 rw [d0h (v := u) (by omega) (fun k => (B8 b).getD k 0) p]
 grind
theorem d53 (a b : List Int) {i : Nat} (hi : i < 256) : dcg (dE (c0S a b) (c3Y i)) (a3H 512 fun n => dcv a b 256 n * c3Y i ^ n) := by
 rw [show 512 = 256 + 256 from rfl, b7o, ← c30]
 have hr : dred (c0S a b) := a59 fun i _ => by omega
 unfold dE
 rw [c0I hr]
 refine d1S fun j hj => ?_
 rw [c0S, i9 hj, show 256 + j = j + 256 by omega, Int.pow_add, show j + 256 = 256 + j by omega]
 refine ((dcg.mod _).mul (dcg.refl _)).trans (dcg.symm (((dcg.refl _).add ((dcg.refl _).mul ((dcg.refl _).mul (d1R hi)))).trans (dcg.of_eq (by grind))))
theorem d3X {a b : List Int} (ha : dred a) (hb : dred b) (h : ∀ i, i < 256 → dcg (a.getD i 0) (b.getD i 0)) : a = b := by
 rw [← a5U ha.1, ← a5U hb.1]
 exact a0t fun j hj => dcg.eq (h j hj) (ha.2 j) (hb.2 j)
theorem d58 {i : Nat} (hi : i < 256) (a b : List Int) : dcg ((a6d a b).getD i 0) (a.getD i 0 * b.getD i 0) := by rw [a6d, i9 hi]; exact dcg.mod _
theorem d1W (a b : List Int) : c0S a b = b0C a b := by
 have hr : dred (c0S a b) := a59 fun i _ => by omega
 have key : a05 (c0S a b) = a6d (a05 a) (a05 b) := by
  refine d3X (b1i _) (c3g _ _) fun i hi => ?_
  refine ((c7p _ hi).trans ((d53 a b hi).trans (dcg.of_eq (d9d a b _)))).trans (dcg.symm ((d58 hi _ _).trans ?_))
  exact (c7p a hi).mul (c7p b hi)
 rw [b0C, ← key, d0c, c0I hr]
theorem c7x (a b : List Int) : a6d a b = a6d b a := a0t fun i _ => by rw [Int.mul_comm]
theorem d0m (a b : List Int) : b0C a b = b0C b a := by rw [b0C, c7x, b0C]
theorem d0n (b : List Int) : b0C (List.replicate 256 0) b = List.replicate 256 0 := by
 rw [← d1W]
 have hz : ∀ n i, dcv (List.replicate 256 0) b i n = 0 := by
  intro n i
  induction i with
  | zero => rfl
  | succ i ih =>
   have : (B8 (List.replicate 256 0)).getD i 0 = 0 := by
    by_cases hi : i < 256
    ·rw [B8, i9 hi, b3K]; rfl
    ·exact b5B (by have := (b5u (List.replicate 256 0)).1; omega)
   rw [d3V, ih, this]
   split <;> omega
 have : c0S (List.replicate 256 0) b = p9 fun _ => 0 := a0t fun i _ => by rw [hz, hz]; rfl
 rw [this, p9, List.map_const', List.length_range]
theorem c3t : ∀ n, n < 256 → bt p_bits_Reverse8_s0 n = (d4w n : Int) ∧ d4w n < 256 := by decide +kernel
theorem c1V : ∀ x r, a25 x = some r → ∃ N, a3a N x = some r := by
 refine d9 (ks := a3b) (rs := a3c) fun x hw _ => ⟨0, ?_⟩
 obtain ⟨(n : Int), u⟩ := x
 simp only [a3G, Kd.wf, U6] at hw
 have hs : p_bits_Reverse8_s0.size = 256 := by decide +kernel
 have ht := (c3t n.toNat (by omega)).1
 unfold a3a
 rw [hs]
 simp (disch := omega) only [if_pos]
 rw [ht]
theorem d5R {n : Int} (h : 0 ≤ n ∧ n ≤ 255) : a25 (n, ()) = some (d4w n.toNat : Int) :=
 d8 (ks := a3b) (rs := a3c) (by simp only [a3G, Kd.wf, U6]; exact ⟨h, trivial⟩) trivial
theorem d6k {a b : Int} (h : -2147483648 ≤ a ∧ a ≤ 2147483647) (h' : -2147483648 ≤ b ∧ b ≤ 2147483647) : -4611686018427387904 ≤ a * b ∧ a * b ≤ 4611686018427387904 := by
 have h1 : a.natAbs * b.natAbs ≤ 2147483648 * 2147483648 := Nat.mul_le_mul (by omega) (by omega)
 rw [← Int.natAbs_mul] at h1
 omega
theorem c4E : ∀ x r, N5 x = some r → ∃ N, a5M N x = some r := by
 refine d9 (ks := Y6) (rs := a5m) fun x hw _ => ⟨0, ?_⟩
 obtain ⟨(a : Int), (b : Int), u⟩ := x
 have ha : -2147483648 ≤ a ∧ a ≤ 2147483647 := s9.1 hw.1
 have hb : -2147483648 ≤ b ∧ b ≤ 2147483647 := s9.1 hw.2.1
 have hm := d6k ha hb
 unfold a5M
 dsimp only
 rw [c7 (x := a) (by omega) (by omega), c7 (x := b) (by omega) (by omega), c7 (by omega) (by omega), a5z (by omega) (by omega)]
 rfl
theorem b5o {a b : Int} (h : -2147483648 ≤ a ∧ a ≤ 2147483647) (h' : -2147483648 ≤ b ∧ b ≤ 2147483647) : N5 (a, b, ()) = some (a * b % 8380417) :=
 d8 (ks := Y6) (rs := a5m) (x := (a, b, ())) ⟨s9.2 h, s9.2 h', trivial⟩ trivial
def dh (j : Nat) : Int := 1753 ^ j % 8380417
theorem d3W (j : Nat) : 0 ≤ dh j ∧ dh j ≤ 8380416 := by unfold dh; omega
theorem c0O (j : Nat) : 0 ≤ w5 j ∧ w5 j ≤ 8380416 := by unfold w5; omega
theorem d56 (j : Nat) : dh j * 1753 % 8380417 = dh (j + 1) := by
 unfold dh
 rw [Int.pow_succ]
 generalize (1753 : Int) ^ j = m
 omega
theorem c2X : ∀ x r, a1C x = some r → ∃ N, a4v N x = some r := by
 refine d9 (ks := a4e) (rs := S4) fun x hw _ => ⟨300, ?_⟩
 unfold a4v
 have hZ : (List.replicate 256 (0 : Int)).length = 256 := List.length_replicate ..
 have e0 : (List.replicate 256 (0 : Int)).set 0 1 = part dh 1 (List.replicate 256 0) := by
  have h := c0i (h := dh) (i := 0) (a := List.replicate 256 0) (by omega)
  rw [b6M] at h
  exact h
 generalize hz : List.replicate 256 (0 : Int) = Z at hZ e0 ⊢
 refine (i8 (F := L0 300) (s := fun i => (((i + 1 : Nat) : Int), Z, part dh (i + 1) Z, Z, ())) (y := (Z, (List.range 256).map dh, Z, ())) 255 ?_ ?_ ?_ 300 (by omega)).trans ?_
 ·rw [e0]; rfl
 ·intro i hi kn
  have hb := d3W i
  have hg : (part dh (i + 1) Z).getD i 0 = dh i := b8R (by omega)
  have e1 : ((i + 1 : Nat) : Int) - 1 = (i : Int) := by omega
  unfold L0
  dsimp only
  rw [c7 (by omega) (by omega), e1, if_pos (by omega), if_pos (by omega), if_pos (by omega), Int.toNat_natCast, if_pos (by omega), hg, b5o (by omega) (by omega), d56]
  simp only [Option.bind_some]
  rw [if_pos (by omega), if_pos (by omega), Int.toNat_natCast, if_pos (by omega), u3 (h := dh) (i := i + 1) (a := Z) (by omega) rfl, c7 (by omega) (by omega)]
  rfl
 ·intro kn
  unfold L0
  dsimp only
  rw [if_neg (by omega), B7 hZ]
 dsimp only
 refine (J0 (F := L4 300) (s := fun i => ((i : Int), Z, (List.range 256).map dh, part w5 i Z, ())) (y := (Z, (List.range 256).map w5, ())) 256 ?_ ?_ 300 (by omega)).trans ?_
 ·intro i hi kn
  have hr := (c3t i hi).2
  have hg : ((List.range 256).map dh).getD (d4w i) 0 = dh (d4w i) := Q2 hr
  unfold L4
  dsimp only
  rw [if_pos (by omega), b8D (by omega) (by omega), d5R (by omega), Int.toNat_natCast]
  simp only [Option.bind_some]
  rw [if_pos (by omega), if_pos (by omega), Int.toNat_natCast, if_pos hr, if_pos (by omega), if_pos (by omega), if_pos (by omega), hg, c7 (by omega) (by omega),
   u3 (h := w5) (i := i) (a := Z) (z := dh (d4w i)) (by omega) rfl, Int.natCast_add]
  rfl
 ·intro kn
  unfold L4
  dsimp only
  rw [if_neg (by omega), B7 hZ]
 ·rfl
theorem c5s : a1C () = some ((List.range 256).map w5) := d8 (ks := a4e) (rs := S4) trivial trivial
def b35 (s at' r j : Nat) : Prop := j < at' ∨ (at' ≤ j ∧ j < at' + r) ∨ (at' + s ≤ j ∧ j < at' + s + r)
instance (s at' r j : Nat) : Decidable (b35 s at' r j) := by unfold b35; infer_instance
def b7a (h : Nat → Int) (s : Nat) (a : List Int) (at' r j : Nat) : Int := if b35 s at' r j then h j else a.getD j 0
theorem d1M {h : Nat → Int} {s : Nat} {a : List Int} {c r : Nat} (hs : 0 < s) (hr : r < s) (hc : c + 2 * s ≤ 256) : (p9 (b7a h s a c r)).getD (c + r) 0 = a.getD (c + r) 0 := by
 rw [i9 (by omega), b7a, if_neg (by unfold b35; omega)]
theorem d1L {h : Nat → Int} {s : Nat} {a : List Int} {c r : Nat} (hr : r < s) (hc : c + 2 * s ≤ 256) : (p9 (b7a h s a c r)).getD (c + r + s) 0 = a.getD (c + r + s) 0 := by
 rw [i9 (by omega), b7a, if_neg (by unfold b35; omega)]
theorem c5G {h : Nat → Int} {s : Nat} {a : List Int} {c r : Nat} (hr : r < s) :
  ((p9 (b7a h s a c r)).set (c + r) (h (c + r))).set (c + r + s) (h (c + r + s)) = p9 (b7a h s a c (r + 1)) := by
 rw [c5J (h' := fun j => if j = c + r then h j else b7a h s a c r j) (by simp) (fun i _ hi => by simp [hi])]
 rw [c5J (h' := b7a h s a c (r + 1)) ?_ ?_]
 ·unfold b7a; rw [if_pos (by unfold b35; omega)]
 ·intro i hi hne
  by_cases hh : i = c + r
  ·rw [if_pos hh, hh]; unfold b7a; rw [if_pos (by unfold b35; omega)]
  ·rw [if_neg hh]; unfold b7a
   by_cases hd : b35 s c r i
   ·rw [if_pos hd, if_pos (by unfold b35 at *; omega)]
   ·rw [if_neg hd, if_neg (by unfold b35 at *; omega)]
theorem c5F {h : Nat → Int} {s : Nat} {a : List Int} {c : Nat} : p9 (b7a h s a c s) = p9 (b7a h s a (c + 2 * s) 0) := by
 refine a0t fun i hi => ?_
 unfold b7a
 by_cases hd : b35 s c s i
 ·rw [if_pos hd, if_pos (by unfold b35 at *; omega)]
 ·rw [if_neg hd, if_neg (by unfold b35 at *; omega)]
theorem c5H {h : Nat → Int} {s : Nat} {a : List Int} (ha : a.length = 256) : p9 (b7a h s a 0 0) = a := by
 refine (a0t fun i hi => ?_).trans (a5U ha)
 unfold b7a
 rw [if_neg (by unfold b35; omega)]
theorem c8X {h : Nat → Int} {s : Nat} {a : List Int} : p9 (b7a h s a 256 0) = p9 h := by
 refine a0t fun i hi => ?_
 unfold b7a
 rw [if_pos (by unfold b35; omega)]
theorem d8S {s m b : Nat} (hm : s * m = 128) (hb : b < m) : 2 * s * b + 2 * s ≤ 256 := by
 have : s * (b + 1) ≤ s * m := Nat.mul_le_mul_left _ (by omega)
 rw [hm, Nat.mul_add] at this
 rw [Nat.mul_assoc]
 omega
theorem d0f {β : Type} {s m b : Nat} (hm : s * m = 128) (hs : 0 < s) (hs128 : s ≤ 128) (hb : b < m) (hm128 : m ≤ 128) {a : List Int} (ha : dred a) (res : List Int) (K : Int × Int × Int × List Int × List Int × List Int × Unit → Option β) :
  m7 (J4 300) 300 (((m + b : Nat) : Int), (s : Int), ((2 * s * b : Nat) : Int), ((2 * s * b : Nat) : Int), p9 (b7a (b7m s a) s a (2 * s * b) 0), res, (List.range 256).map w5, ()) K
   = K (((m + b : Nat) : Int), (s : Int), ((2 * s * b : Nat) : Int), p9 (b7a (b7m s a) s a (2 * s * (b + 1)) 0), res, (List.range 256).map w5, ()) := by
 have hat := d8S hm hb
 have hnext : 2 * s * (b + 1) = 2 * s * b + 2 * s := by rw [Nat.mul_add, Nat.mul_one]
 rw [hnext]
 have hk : m + b < 256 := by omega
 have hz := c0O (m + b)
 have hzg : ((List.range 256).map w5).getD (m + b) 0 = w5 (m + b) := Q2 (by omega)
 have hlo := fun r (hr : r < s) => c86 (b := b) hm hs hr a
 have hhi := fun r (hr : r < s) => c85 (b := b) hm hs hr a
 generalize 2 * s * b = c at *
 generalize m + b = k at *
 refine J0 (F := J4 300) (s := fun r => ((k : Int), (s : Int), (c : Int), ((c + r : Nat) : Int), p9 (b7a (b7m s a) s a c r), res, (List.range 256).map w5, ())) (y := ((k : Int), (s : Int), (c : Int), p9 (b7a (b7m s a) s a (c + 2 * s) 0), res, (List.range 256).map w5, ())) s ?_ ?_ 300 (by omega)
 ·intro r hr kn
  have h1 := ha.2 (c + r)
  have h2 := ha.2 (c + r + s)
  have hl := hlo r hr
  have hh := hhi r hr
  have ec : ((c + r : Nat) : Int) + (s : Int) = ((c + r + s : Nat) : Int) := by omega
  have ht := b5o (a := w5 k) (b := a.getD (c + r + s) 0) (by omega) (by omega)
  have hT : 0 ≤ w5 k * a.getD (c + r + s) 0 % 8380417 ∧ w5 k * a.getD (c + r + s) 0 % 8380417 ≤ 8380416 := by omega
  unfold J4
  simp (disch := omega) only [if_pos, c7, ec, Int.toNat_natCast, hzg, d1M hs hr (a := a) (c := c), d1L hr (a := a) (c := c), ht, Option.bind_some]
  simp (disch := omega) only [a5z, Option.bind_some]
  rw [← hl, ← hh, c5G hr]
  rfl
 ·intro kn
  unfold J4
  simp (disch := omega) only [if_neg, c7]
  rw [c5F]
theorem d0g {β : Type} {s m : Nat} (hm : s * m = 128) (hs : 0 < s) (hs128 : s ≤ 128) (hm0 : 0 < m) (hm128 : m ≤ 128) {a : List Int} (ha : dred a) (res : List Int) (K : Int × Int × List Int × List Int × List Int × Unit → Option β) :
  m7 (N0 300) 300 (((m - 1 : Nat) : Int), (s : Int), 0, a, res, (List.range 256).map w5, ()) K = K (((2 * m - 1 : Nat) : Int), (s : Int), a9i s a, res, (List.range 256).map w5, ()) := by
 have hall : 2 * s * m = 256 := by rw [Nat.mul_assoc, hm]
 refine i8 (F := N0 300) (s := fun b => (((m + b - 1 : Nat) : Int), (s : Int), ((2 * s * b : Nat) : Int), p9 (b7a (b7m s a) s a (2 * s * b) 0), res, (List.range 256).map w5, ())) (y := (((2 * m - 1 : Nat) : Int), (s : Int), a9i s a, res, (List.range 256).map w5, ())) m ?_ ?_ ?_ 300 (by omega)
 ·rw [Nat.mul_zero, c5H ha.1]; rfl
 ·intro b hb kn
  have hat := d8S hm hb
  have hnext : 2 * s * (b + 1) = 2 * s * b + 2 * s := by rw [Nat.mul_add, Nat.mul_one]
  unfold N0
  dsimp only
  rw [if_pos (by omega), c7 (by omega) (by omega), show ((m + b - 1 : Nat) : Int) + 1 = ((m + b : Nat) : Int) by omega]
  refine (d0f hm hs hs128 hb hm128 ha res _).trans ?_
  rw [hnext]
  simp (disch := omega) only [c7]
  rw [show m + (b + 1) - 1 = m + b by omega, show ((2 * s * b : Nat) : Int) + 2 * (s : Int) = ((2 * s * b + 2 * s : Nat) : Int) by omega]
 ·intro kn
  unfold N0
  dsimp only
  rw [if_neg (by omega), hall, c8X, show m + m - 1 = 2 * m - 1 by omega]
  rfl
theorem c5N : ∀ i, i < 8 → (128 / 2 ^ i) * 2 ^ i = 128 ∧ 0 < 128 / 2 ^ i ∧ 128 / 2 ^ i ≤ 128 ∧ 128 / 2 ^ i / 2 = 128 / 2 ^ (i + 1) ∧ 0 < 2 ^ i ∧ 2 ^ i ≤ 128 ∧ 2 * 2 ^ i = 2 ^ (i + 1) := by decide
theorem c75 : ∀ x r, a0w x = some r → ∃ N, a9C N x = some r := by
 refine d9 (ks := Q4) (rs := a7M) fun x hw _ => ⟨300, ?_⟩
 obtain ⟨(a : List Int), u⟩ := x
 have ha := c0c.1 hw
 unfold a9C
 dsimp only
 rw [b5n ha, c5s]
 simp only [Option.bind_some]
 generalize List.replicate 256 (0 : Int) = Z
 refine (J0 (F := Y0 300) (s := fun i => (((2 ^ i - 1 : Nat) : Int), ((128 / 2 ^ i : Nat) : Int), a3Y a i, Z, (List.range 256).map w5, ())) (y := (a05 a, Z, ())) 8 ?_ ?_ 300 (by omega)).trans ?_
 ·intro i hi kn
  obtain ⟨f1, f2, f3, f4, f5, f6, f7⟩ := c5N i hi
  unfold Y0
  dsimp only
  rw [if_pos (by omega)]
  refine (d0g f1 f2 f3 f5 f6 (c0L a i) _ _).trans ?_
  simp (disch := omega) only [a96, c7]
  have e1 : ((128 / 2 ^ i : Nat) : Int) / 2 = ((128 / 2 ^ (i + 1) : Nat) : Int) := by rw [← f4]; omega
  rw [e1, f7]
  rfl
 ·intro kn
  unfold Y0
  dsimp only
  rw [if_neg (by decide)]
  rfl
 ·rfl
theorem c0o {a : List Int} (h : E6 256 a) : a0w (a, ()) = some (a05 a) := d8 (ks := Q4) (rs := a7M) (x := (a, ())) (c0c.2 h) trivial
theorem d0d {β : Type} {s m b : Nat} (hm : s * m = 128) (hs : 0 < s) (hs128 : s ≤ 128) (hb : b < m) (hm128 : m ≤ 128) {a : List Int} (ha : dred a) (res : List Int) (K : Int × Int × Int × List Int × List Int × List Int × Unit → Option β) :
  m7 (J3 300) 300 (((2 * m - 1 - b : Nat) : Int), (s : Int), ((2 * s * b : Nat) : Int), ((2 * s * b : Nat) : Int), p9 (b7a (b7l s a) s a (2 * s * b) 0), res, (List.range 256).map w5, ()) K
   = K (((2 * m - 1 - b : Nat) : Int), (s : Int), ((2 * s * b : Nat) : Int), p9 (b7a (b7l s a) s a (2 * s * (b + 1)) 0), res, (List.range 256).map w5, ()) := by
 have hat := d8S hm hb
 have hnext : 2 * s * (b + 1) = 2 * s * b + 2 * s := by rw [Nat.mul_add, Nat.mul_one]
 rw [hnext]
 have hk : 2 * m - 1 - b < 256 := by omega
 have hz := c0O (2 * m - 1 - b)
 have hzg : ((List.range 256).map w5).getD (2 * m - 1 - b) 0 = w5 (2 * m - 1 - b) := Q2 hk
 have hlo := fun r (hr : r < s) => c84 (b := b) hs hr a
 have hhi := fun r (hr : r < s) => c83 (b := b) hm hs hr a
 generalize 2 * s * b = c at *
 generalize 2 * m - 1 - b = k at *
 refine J0 (F := J3 300) (s := fun r => ((k : Int), (s : Int), (c : Int), ((c + r : Nat) : Int), p9 (b7a (b7l s a) s a c r), res, (List.range 256).map w5, ())) (y := ((k : Int), (s : Int), (c : Int), p9 (b7a (b7l s a) s a (c + 2 * s) 0), res, (List.range 256).map w5, ())) s ?_ ?_ 300 (by omega)
 ·intro r hr kn
  have h1 := ha.2 (c + r)
  have h2 := ha.2 (c + r + s)
  have hl := hlo r hr
  have hh := hhi r hr
  have ec : ((c + r : Nat) : Int) + (s : Int) = ((c + r + s : Nat) : Int) := by omega
  have ht := b5o (a := w5 k) (b := a.getD (c + r + s) 0 - a.getD (c + r) 0) (by omega) (by omega)
  unfold J3
  simp (disch := omega) only [if_pos, c7, M4, ec, Int.toNat_natCast, hzg, d1M hs hr (a := a) (c := c), d1L hr (a := a) (c := c), ht, a5z, Option.bind_some]
  rw [← hl, ← hh, c5G hr]
  rfl
 ·intro kn
  unfold J3
  simp (disch := omega) only [if_neg, c7]
  rw [c5F]
theorem d0e {β : Type} {s m : Nat} (hm : s * m = 128) (hs : 0 < s) (hs128 : s ≤ 128) (hm0 : 0 < m) (hm128 : m ≤ 128) {a : List Int} (ha : dred a) (res : List Int) (K : Int × Int × List Int × List Int × List Int × Unit → Option β) :
  m7 (M9 300) 300 (((2 * m : Nat) : Int), (s : Int), 0, a, res, (List.range 256).map w5, ()) K = K (((m : Nat) : Int), (s : Int), a48 s a, res, (List.range 256).map w5, ()) := by
 have hall : 2 * s * m = 256 := by rw [Nat.mul_assoc, hm]
 refine i8 (F := M9 300) (s := fun b => (((2 * m - b : Nat) : Int), (s : Int), ((2 * s * b : Nat) : Int), p9 (b7a (b7l s a) s a (2 * s * b) 0), res, (List.range 256).map w5, ())) (y := (((m : Nat) : Int), (s : Int), a48 s a, res, (List.range 256).map w5, ())) m ?_ ?_ ?_ 300 (by omega)
 ·rw [Nat.mul_zero, c5H ha.1]; rfl
 ·intro b hb kn
  have hat := d8S hm hb
  have hnext : 2 * s * (b + 1) = 2 * s * b + 2 * s := by rw [Nat.mul_add, Nat.mul_one]
  unfold M9
  dsimp only
  rw [if_pos (by omega), c7 (by omega) (by omega), show ((2 * m - b : Nat) : Int) - 1 = ((2 * m - 1 - b : Nat) : Int) by omega]
  refine (d0d hm hs hs128 hb hm128 ha res _).trans ?_
  rw [hnext]
  simp (disch := omega) only [c7]
  rw [show 2 * m - 1 - b = 2 * m - (b + 1) by omega, show ((2 * s * b : Nat) : Int) + 2 * (s : Int) = ((2 * s * b + 2 * s : Nat) : Int) by omega]
 ·intro kn
  unfold M9
  dsimp only
  rw [if_neg (by omega), hall, c8X, show 2 * m - m = m by omega]
  rfl
theorem c4B : ∀ x r, a5B x = some r → ∃ N, a5G N x = some r := by
 refine d9 (ks := a5c) (rs := a5d) fun x hw _ => ⟨0, ?_⟩
 obtain ⟨(a : Int), u⟩ := x
 have ha : -2147483648 ≤ a ∧ a ≤ 2147483647 := s9.1 hw.1
 unfold a5G
 dsimp only
 rw [b5o ha (by omega)]
 rfl
theorem d3G {a : Int} (h : -2147483648 ≤ a) (h' : a ≤ 2147483647) : a5B (a, ()) = some (a * 8347681 % 8380417) :=
 d8 (ks := a5c) (rs := a5d) (x := (a, ())) ⟨s9.2 ⟨h, h'⟩, trivial⟩ trivial
theorem a78 : ∀ x r, E3 x = some r → ∃ N, E5 N x = some r := by
 refine d9 (ks := o7) (rs := o8) fun x hw _ => ⟨257, ?_⟩
 obtain ⟨(a : List Int), u, u'⟩ := x
 have ha : E6 256 a := v8.1 hw.1
 have hl := ha.1
 unfold E5
 refine (J0 (s := fun i => (a, (i : Int), part (fun i => a.getD i 0 * 8347681 % 8380417) i a, List.replicate 256 0, ())) (y := (p9 fun i => a.getD i 0 * 8347681 % 8380417, List.replicate 256 0, ())) 256 ?_ ?_ 257 (by omega)).trans ?_
 ·intro i hi kn
  have h0 := b1u ha i
  unfold u5
  simp (disch := omega) only [if_pos, c7, Int.toNat_natCast, d3G, Option.bind_some]
  rw [u3 (by omega) rfl, Int.natCast_add]
  rfl
 ·intro kn
  unfold u5
  simp (disch := omega) only [if_neg]
  rw [B7 hl]
  rfl
 ·rfl
theorem c3W : ∀ i, i < 8 → 2 ^ i * (128 / 2 ^ i) = 128 ∧ 0 < 2 ^ i ∧ 2 ^ i ≤ 128 ∧ 0 < 128 / 2 ^ i ∧ 128 / 2 ^ i ≤ 128 ∧ 2 * (128 / 2 ^ i) = 256 / 2 ^ i ∧ 128 / 2 ^ i = 256 / 2 ^ (i + 1) ∧ 2 * 2 ^ i = 2 ^ (i + 1) := by decide
theorem c73 : ∀ x r, a34 x = some r → ∃ N, a9A N x = some r := by
 refine d9 (ks := Q3) (rs := a7K) fun x hw _ => ⟨300, ?_⟩
 obtain ⟨(a : List Int), u⟩ := x
 have ha := c0c.1 hw
 unfold a9A
 dsimp only
 rw [b5n ha, c5s]
 simp only [Option.bind_some]
 generalize List.replicate 256 (0 : Int) = Z
 refine (J0 (F := X9 300) (s := fun i => (((256 / 2 ^ i : Nat) : Int), ((2 ^ i : Nat) : Int), a7G a i, Z, (List.range 256).map w5, ())) (y := (a7G a 8, Z, ())) 8 ?_ ?_ 300 (by omega)).trans ?_
 ·intro i hi kn
  obtain ⟨f1, f2, f3, f4, f5, f6, f7, f8⟩ := c3W i hi
  unfold X9
  dsimp only
  rw [if_pos (show ((2 ^ i : Nat) : Int) ≤ 128 from Int.ofNat_le.2 f3), ← f6]
  refine (d0e f1 f2 f3 f4 f5 (c0K a i) _ _).trans ?_
  simp (disch := omega) only [c7]
  rw [f7, show ((2 ^ i : Nat) : Int) * 2 = ((2 ^ (i + 1) : Nat) : Int) by omega]
  rfl
 ·intro kn
  unfold X9
  dsimp only
  rw [if_neg (by decide)]
 have hr := (c0K a 8).i32
 have h : E3 (a7G a 8, (), ()) = some (b4a a) := d8 (ks := o7) (rs := o8) (x := (a7G a 8, (), ())) ⟨v8.2 hr, trivial, trivial⟩ trivial
 dsimp only
 rw [h]
 rfl
theorem c7a {a : List Int} (h : E6 256 a) : a34 (a, ()) = some (b4a a) := d8 (ks := Q3) (rs := a7K) (x := (a, ())) (c0c.2 h) trivial
theorem c2T : ∀ x r, Z7 x = some r → ∃ N, a4r N x = some r := by
 refine d9 (ks := R6) (rs := R7) fun x hw _ => ⟨300, ?_⟩
 obtain ⟨(a : List Int), (b : List Int), u⟩ := x
 obtain ⟨ha, hb⟩ := c28.1 hw
 unfold a4r
 generalize List.replicate 256 (0 : Int) = Z
 refine (J0 (F := K4 300) (s := fun i => ((i : Int), part (fun j => a.getD j 0 * b.getD j 0 % 8380417) i a, b, Z, ())) (y := (a6d a b, Z, ())) 256 ?_ ?_ 300 (by omega)).trans ?_
 ·intro i hi kn
  have h1 := b1u ha i
  have h2 := b1u hb i
  have hp : (part (fun j => a.getD j 0 * b.getD j 0 % 8380417) i a).getD i 0 = a.getD i 0 := b6L (Nat.le_refl i)
  unfold K4
  dsimp only
  rw [if_pos (by omega), if_pos (by omega), if_pos (by omega), Int.toNat_natCast, if_pos hi, if_pos (by omega), if_pos (by omega), if_pos hi, hp, b5o h1 h2]
  simp only [Option.bind_some]
  rw [if_pos (by omega), if_pos (by omega), if_pos hi, u3 (h := fun j => a.getD j 0 * b.getD j 0 % 8380417) (i := i) (a := a) (z := a.getD i 0 * b.getD i 0 % 8380417) (by rw [ha.1]; exact hi) rfl, c7 (by omega) (by omega), Int.natCast_add]
  rfl
 ·intro kn
  unfold K4
  dsimp only
  rw [if_neg (by omega), B7 ha.1]
  rfl
 ·rfl
theorem c0q {a b : List Int} (h : E6 256 a) (h' : E6 256 b) : Z7 (a, b, ()) = some (a6d a b) := d8 (ks := R6) (rs := R7) (x := (a, b, ())) (c28.2 ⟨h, h'⟩) trivial
theorem c74 : ∀ x r, U4 x = some r → ∃ N, a9B N x = some r := by
 refine d9 (ks := a1H) (rs := a1I) fun x hw _ => ⟨0, ?_⟩
 obtain ⟨(a : List Int), (b : List Int), u⟩ := x
 obtain ⟨ha, hb⟩ := c28.1 hw
 show _ = some (b0C a b)
 unfold a9B
 have hz := d0n
 dsimp only
 generalize List.replicate 256 (0 : Int) = Z at hz ⊢
 by_cases h1 : a = Z
 ·rw [if_pos h1, h1, hz]
 ·rw [if_neg h1]
  by_cases h2 : b = Z
  ·rw [if_pos h2, h2, d0m, hz]
  ·rw [if_neg h2, c0o ha, c0o hb]
   simp only [Option.bind_some]
   rw [c0q (b1i a).i32 (b1i b).i32]
   simp only [Option.bind_some]
   rw [c7a (c3g _ _).i32]
   rfl
theorem c7b {a b : List Int} (h : E6 256 a) (h' : E6 256 b) : U4 (a, b, ()) = some (b0C a b) := d8 (ks := a1H) (rs := a1I) (x := (a, b, ())) (c28.2 ⟨h, h'⟩) trivial
theorem d1m {a b : List Int} (h : E6 256 a) (h' : E6 256 b) : a0x (a, b, ()) = some (b5A a b) := d8 (ks := a1J) (rs := a1K) (x := (a, b, ())) (c28.2 ⟨h, h'⟩) trivial
end Go.Ax.TryP
