/- A part of the proof: DdS1, DdP1, DdQ1, DdQ2. -/
import Derived.Test.YtbcjbgjidddnaaaDsaA
set_option linter.unusedVariables false
namespace Go.Ax.TryP
open Go.Proofs
def o5 (h : Nat → Int) : List Int := (List.range 256).map h
def o8 (a : List Int) : List Int := o5 fun i => a.getD i 0 % 8380417
def d5q (n : Nat) : Nat := (List.range 8).foldl (fun s i => 2 * s + n / 2 ^ i % 2) 0
def w7 (k : Nat) : Int := 1753 ^ d5q k % 8380417
def b7F (s : Nat) (a : List Int) (j : Nat) : Int :=
 if j % (2 * s) < s then (a.getD j 0 + w7 (128 / s + j / (2 * s)) * a.getD (j + s) 0 % 8380417) % 8380417
 else (a.getD (j - s) 0 - w7 (128 / s + j / (2 * s)) * a.getD j 0 % 8380417) % 8380417
def a4e (s : Nat) (a : List Int) : List Int := o5 (b7F s a)
def K4 (a : List Int) : Nat → List Int
 | 0 => o8 a
 | i + 1 => a4e (128 / 2 ^ i) (K4 a i)
def j9 (a : List Int) : List Int := K4 a 8
def blk (m : Nat) (a : List Int) (b : Nat) : List Int := (a.drop (b * m)).take m
theorem a1M (h : Nat → Int) : (o5 h).length = 256 := by simp [o5]
theorem d6 {h : Nat → Int} {i : Nat} (hi : i < 256) : (o5 h).getD i 0 = h i := Q6 hi
def b7D (s : Nat) (a : List Int) (j : Nat) : Int :=
 if j % (2 * s) < s then (a.getD j 0 + a.getD (j + s) 0) % 8380417
 else w7 (2 * (128 / s) - 1 - j / (2 * s)) * (a.getD j 0 - a.getD (j - s) 0) % 8380417
def a4d (s : Nat) (a : List Int) : List Int := o5 (b7D s a)
def a2D (a : List Int) : Nat → List Int
 | 0 => o8 a
 | i + 1 => a4d (2 ^ i) (a2D a i)
def a5x (a : List Int) : List Int := o5 fun j => (a2D a 8).getD j 0 * 8347681 % 8380417
def dzeros : List Int := List.replicate 256 0
def a9I (x m : Int) : Int := if x % m > m / 2 then x % m - m else x % m
def fPl (z : Int) : Int := a9I (z % 8380417) 8192
def fPh (z : Int) : Int := (z % 8380417 - fPl z) / 8192
def d4e (z : Int) : Int := a9I (z % 8380417) 523776
def fDl (z : Int) : Int := if z % 8380417 - d4e z = 8380416 then d4e z - 1 else d4e z
def fDh (z : Int) : Int := if z % 8380417 - d4e z = 8380416 then 0 else (z % 8380417 - d4e z) / 523776
def c1o (a : List Int) : List Int × List Int := (o5 fun i => fPh (a.getD i 0), o5 fun i => fPl (a.getD i 0))
def b1M (a : List Int) : List Int × List Int := (o5 fun i => fDh (a.getD i 0), o5 fun i => fDl (a.getD i 0))
noncomputable def u3 : Int × Unit → Option Int := a0u (ks := [.int .i64]) (rs := [.int .i32]) (fun _ => True) fun x => x.1 % 8380417
noncomputable def a2m : Int × Unit → Option Int := a0u (ks := [.int .i32]) (rs := [.int .i32]) (fun _ => True) fun x => x.1 % 8380417
noncomputable def A0 : List Int × Unit × Unit → Option (List Int) := a0u (ks := [.xs (.int .i32) 256, .fnc 66]) (rs := [.xs (.int .i32) 256]) (fun _ => True) fun x => o8 x.1
noncomputable def Q5 : List Int × Unit → Option (List Int) := a0u (ks := [.xs (.int .i32) 256]) (rs := [.xs (.int .i32) 256]) (fun _ => True) fun x => o8 x.1
noncomputable def a49 : Int × Int × Unit → Option Int := a0u (ks := [.int .i32, .int .i32]) (rs := [.int .i32]) (fun x => 0 ≤ x.1 ∧ x.1 ≤ 8380416 ∧ 0 < x.2.1 ∧ x.2.1 ≤ 523776) fun x => a9I x.1 x.2.1
noncomputable def a5Z : Int × Unit → Option (Int × Int) := a0u (ks := [.int .i32]) (rs := [.int .i32, .int .i32]) (fun _ => True) fun x => (fDh x.1, fDl x.1)
noncomputable def U8 : List Int × Unit → Option (List Int × List Int) := a0u (ks := [.xs (.int .i32) 256]) (rs := [.xs (.int .i32) 256, .xs (.int .i32) 256]) (fun _ => True) fun x => c1o x.1
noncomputable def x5 : List Int × Unit → Option (List Int × List Int) := a0u (ks := [.xs (.int .i32) 256]) (rs := [.xs (.int .i32) 256, .xs (.int .i32) 256]) (fun _ => True) fun x => b1M x.1
def a45 (a b : List Int) : List Int := o5 fun j => a.getD j 0 * b.getD j 0 % 8380417
def a3S (a b : List Int) : List Int := a5x (a45 (j9 a) (j9 b))
noncomputable def O0 : Int × Int × Unit → Option Int := a0u (ks := [.int .i32, .int .i32]) (rs := [.int .i32]) (fun _ => True) fun x => x.1 * x.2.1 % 8380417
noncomputable def a1O : Unit → Option (List Int) := a0u (ks := []) (rs := [.xs (.int .i32) 256]) (fun _ => True) fun _ => (List.range 256).map w7
noncomputable def a0E : List Int × Unit → Option (List Int) := a0u (ks := [.xs (.int .i32) 256]) (rs := [.xs (.int .i32) 256]) (fun _ => True) fun x => j9 x.1
noncomputable def a5Y : Int × Unit → Option Int := a0u (ks := [.int .i32]) (rs := [.int .i32]) (fun _ => True) fun x => x.1 * 8347681 % 8380417
noncomputable def E4 : List Int × Unit × Unit → Option (List Int) := a0u (ks := [.xs (.int .i32) 256, .fnc 61]) (rs := [.xs (.int .i32) 256]) (fun _ => True) fun x => o5 fun j => x.1.getD j 0 * 8347681 % 8380417
noncomputable def a4j : List Int × Unit → Option (List Int) := a0u (ks := [.xs (.int .i32) 256]) (rs := [.xs (.int .i32) 256]) (fun _ => True) fun x => a5x x.1
noncomputable def a0c : List Int × List Int × Unit → Option (List Int) := a0u (ks := [.xs (.int .i32) 256, .xs (.int .i32) 256]) (rs := [.xs (.int .i32) 256]) (fun _ => True) fun x => a45 x.1 x.2.1
noncomputable def U7 : List Int × List Int × Unit → Option (List Int) := a0u (ks := [.xs (.int .i32) 256, .xs (.int .i32) 256]) (rs := [.xs (.int .i32) 256]) (fun _ => True) fun x => a3S x.1 x.2.1
noncomputable def a3k : Int × Unit → Option (Int) := a0u (ks := [.int .u8]) (rs := [.int .u8]) (fun _ => True) fun x => (d5q x.1.toNat : Int)
def a44 (z : Int) : Int := if z % 8380417 > 4190208 then z % 8380417 - 8380417 else z % 8380417
def a1i (a : List Int) : List Int := o5 fun i => a44 (a.getD i 0)
def b1Q (z : Int) : Int := if z < 0 then -z else z
@[irreducible] def b4B (a : List Int) (n : Nat) : Int := (List.range n).foldl (fun m i => if b1Q (a44 (a.getD i 0)) > m then b1Q (a44 (a.getD i 0)) else m) 0
def a0i (a : List Int) : Int := b4B a 256
def a1F (a b : List Int) : List Int := o5 fun i => (a.getD i 0 + b.getD i 0) % 8380417
def a46 (a b : List Int) : List Int := o5 fun i => (a.getD i 0 - b.getD i 0) % 8380417
def a2U (z r : List Int) (i : Nat) : Int := if fDh (r.getD i 0) ≠ fDh ((r.getD i 0 + z.getD i 0) % 8380417) then 1 else 0
@[irreducible] def c71 (h : Nat → Int) (n : Nat) : Int := (List.range n).foldl (fun m i => if h i ≠ 0 then m + 1 else m) 0
def d00 (z r : List Int) : List Int × Int := (o5 (a2U z r), c71 (a2U z r) 256)
def b33 (h r : Int) : Int := if h ≠ 0 then if fDl r > 0 then (fDh r + 1) % 16 else (fDh r + 15) % 16 else fDh r
def d6c (h r : List Int) : List Int := o5 fun i => b33 (h.getD i 0) (r.getD i 0)
noncomputable def a3l : Int × Unit → Option Int := a0u (ks := [.int .i32]) (rs := [.int .i32]) (fun _ => True) fun x => a44 x.1
noncomputable def A9 : List Int × Unit × Unit → Option (List Int) := a0u (ks := [.xs (.int .i32) 256, .fnc 67]) (rs := [.xs (.int .i32) 256]) (fun _ => True) fun x => a1i x.1
noncomputable def a1N : List Int × Unit → Option (List Int) := a0u (ks := [.xs (.int .i32) 256]) (rs := [.xs (.int .i32) 256]) (fun _ => True) fun x => a1i x.1
noncomputable def U0 : List Int × Unit → Option Int := a0u (ks := [.xs (.int .i32) 256]) (rs := [.int .i32]) (fun _ => True) fun x => a0i x.1
noncomputable def Q4 : List Int × List Int × Unit → Option (List Int) := a0u (ks := [.xs (.int .i32) 256, .xs (.int .i32) 256]) (rs := [.xs (.int .i32) 256]) (fun _ => True) fun x => a1F x.1 x.2.1
noncomputable def a0F : List Int × List Int × Unit → Option (List Int) := a0u (ks := [.xs (.int .i32) 256, .xs (.int .i32) 256]) (rs := [.xs (.int .i32) 256]) (fun _ => True) fun x => a46 x.1 x.2.1
noncomputable def X9 : List Int × List Int × Unit → Option (List Int × Int) := a0u (ks := [.xs (.int .i32) 256, .xs (.int .i32) 256]) (rs := [.xs .bool 256, .int .i64]) (fun _ => True) fun x => d00 x.1 x.2.1
noncomputable def a0G : List Int × List Int × Unit → Option (List Int) := a0u (ks := [.xs .bool 256, .xs (.int .i32) 256]) (rs := [.xs (.int .i32) 256]) (fun _ => True) fun x => d6c x.1 x.2.1
end Go.Ax.TryP
set_option linter.unusedVariables false
namespace Go.Ax.TryP
open Go.Proofs
noncomputable def p_dring_below_E : AE := AE.of [(2, ty2), (21, ty21)] []
noncomputable def c12 : Hints := [(3000000, [2])]
noncomputable def c13 : Code := (Try.f45).body.getD .skip
abbrev a5E : List Kd := [.int .i64]
abbrev a5F : List Kd := [.int .i32]
noncomputable def a54 (N : Nat) (x : Int × Unit) : Option (Int) :=
 if ((Int.tmod x.1 (8380417:Int)) < (0:Int)) then
  some (IntKind.i32.wrap (IntKind.i64.wrap ((Int.tmod x.1 (8380417:Int)) + (8380417:Int))))
 else
  some (IntKind.i32.wrap (Int.tmod x.1 (8380417:Int)))
theorem b8k : p_dring_below_E.Ok Try.prog := AE.of_ok (all_cons a9v (all_cons u6 c6)) c6
theorem b9V (hE : p_dring_below_E.Ok Try.prog) {g : Ds [.int .i64] → Option (Rs [.int .i32])} (hg : ∀ x r, g x = some r → ∃ N, a54 N x = some r) : c8 Try.prog 45 ⟨[.int .i64], [.int .i32], g⟩ :=
 i6 (E := p_dring_below_E) (H := c12) (L := fun N => LT.nil) (c := c13) (ks := a5E) (rs := a5F) (F := a54) hE mix Try.func45 (by kernel_rfl) (fun N => OkAll.nil) (fun _ _ => by kernel_rfl) hg
noncomputable abbrev i8 : Sig := ⟨[.int .i64], [.int .i32], u3⟩
noncomputable def p_dring_Reduce_1_E : AE := AE.of [(2, ty2), (21, ty21)] [(45, i8)]
noncomputable def b6q : Hints := [(3000000, [2])]
noncomputable def b6r : Code := (Try.f66).body.getD .skip
abbrev a2J : List Kd := [.int .i32]
abbrev a2K : List Kd := [.int .i32]
noncomputable def a2q (N : Nat) (x : Int × Unit) : Option (Int) :=
 (u3 ((IntKind.i64.wrap x.1), ())).bind fun r1 => (
 some r1)
theorem b3r (e0 : c8 Try.prog 45 i8) : p_dring_Reduce_1_E.Ok Try.prog := AE.of_ok (all_cons a9v (all_cons u6 c6)) (all_cons ⟨e0, o7⟩ c6)
theorem b4K (hE : p_dring_Reduce_1_E.Ok Try.prog) {g : Ds [.int .i32] → Option (Rs [.int .i32])} (hg : ∀ x r, g x = some r → ∃ N, a2q N x = some r) : c8 Try.prog 66 ⟨[.int .i32], [.int .i32], g⟩ :=
 i6 (E := p_dring_Reduce_1_E) (H := b6q) (L := fun N => LT.nil) (c := b6r) (ks := a2J) (rs := a2K) (F := a2q) hE mix Try.func66 (by kernel_rfl) (fun N => OkAll.nil) (fun _ _ => by kernel_rfl) hg
noncomputable abbrev a5r : Sig := ⟨[.int .i32], [.int .i32], a2m⟩
noncomputable def p_dring_each__dring_Reduce_1_E : AE := AE.of [(21, ty21), (40, ty40)] [(66, a5r)]
noncomputable def U2 : Hints := [(2, [1, 2, 4, 7, 8]), (2000000, [2, 4]), (2000001, [1, 2, 4, 7, 8]), (3000000, [4])]
noncomputable def F5 : Code := (Try.f57).body.getD .skip
noncomputable def a3z : Shape := mkS { tmps := V :: .sc (.fn 66) :: .sc (.ptr 0 0 false) :: V :: .sc (.ptr 1 0 false) :: V :: V :: .agg [.xs b32 (some 256)] :: .sc (.int .i64) :: pv 10 [], mem := [.live [.xs b32 (some 256)] (.own), .live [.xs b32 (some 256)] (.own)] } [.xs, .int, .xs, .xs]
abbrev W12 : Type := List Int × Int × List Int × List Int × Unit
noncomputable def q8 (N : Nat) (β : Type) (x : W12) (kn : W12 → Option β) (ke : W5 → Option β) : Option β :=
 if (x.2.1 < (256:Int)) then
  if 0 ≤ x.2.1 then (
  if x.2.1 < 256 then (
  if (x.2.1.toNat) < 256 then (
  (a2m ((List.getD x.1 (x.2.1.toNat) 0), ())).bind fun r1 => (
  if 0 ≤ x.2.1 then (
  if x.2.1 < 256 then (
  if (x.2.1.toNat) < 256 then (
  kn (x.1, (IntKind.i64.wrap (x.2.1 + (1:Int))), (List.set x.2.2.1 (x.2.1.toNat) r1), x.2.2.2.1, ())) else none) else none) else none)) else none) else none) else none
 else
  ke (x.2.2.1, x.2.2.2.1, ())
noncomputable def a3b : Go' W5 := fun y K => K (.exit 0) (fSt { tmps := V :: V :: .sc (.ptr 0 0 false) :: V :: .sc (.ptr 1 0 false) :: pv 14 [], mem := [.live [.xs b32 (some 256)] (.own), .live [.xs b32 (some 256)] (.own)] } [.xs, .xs] y)
noncomputable def P1 (N : Nat) : LT := upd (LT.nil) 2 (o9 a3z N (q8 N) a3b)
theorem a3c (N : Nat) : OkAll p_dring_each__dring_Reduce_1_E U2 N (P1 N) (x4 F5) :=
 d7 (c := d8 2 F5) (OkAll.nil) (by kernel_rfl) (fun x => by kernel_rfl) (fun β x kn ke => by kernel_rfl)
abbrev m5 : List Kd := [.xs b32 256, .fnc 66]
abbrev m6 : List Kd := [.xs b32 256]
noncomputable def A3 (N : Nat) (x : List Int × Unit × Unit) : Option (List Int) :=
 m9 (q8 N) N (x.1, (0:Int), x.1, (List.replicate 256 0), ()) fun y2 => (
 some y2.1)
theorem a3T (e0 : c8 Try.prog 66 a5r) : p_dring_each__dring_Reduce_1_E.Ok Try.prog := AE.of_ok (all_cons u6 (all_cons s5 c6)) (all_cons ⟨e0, b1I⟩ c6)
theorem a4r (hE : p_dring_each__dring_Reduce_1_E.Ok Try.prog) {g : Ds m5 → Option (Rs m6)} (hg : ∀ x r, g x = some r → ∃ N, A3 N x = some r) : c8 Try.prog 57 ⟨m5, m6, g⟩ :=
 i6 (E := p_dring_each__dring_Reduce_1_E) (H := U2) (L := fun N => P1 N) (c := F5) (ks := m5) (rs := m6) (F := A3) hE mix Try.func57 (by kernel_rfl) (fun N => a3c N) (fun _ _ => by kernel_rfl) hg
noncomputable abbrev J0 : Sig := ⟨[.xs b32 256, .fnc 66], [.xs b32 256], A0⟩
noncomputable def p_dring_Reduce_E : AE := AE.of [(40, ty40)] [(57, J0)]
noncomputable def b9S : Hints := [(3000000, [2])]
noncomputable def b9T : Code := (Try.f47).body.getD .skip
abbrev D9 : List Kd := [.xs b32 256]
abbrev a4n : List Kd := [.xs b32 256]
noncomputable def a4H (N : Nat) (x : List Int × Unit) : Option (List Int) :=
 (A0 (x.1, (), ())).bind fun r1 => (
 some r1)
theorem b6s (e0 : c8 Try.prog 57 J0) : p_dring_Reduce_E.Ok Try.prog := AE.of_ok (all_cons s5 c6) (all_cons ⟨e0, a1g⟩ c6)
theorem b8f (hE : p_dring_Reduce_E.Ok Try.prog) {g : Ds D9 → Option (Rs D9)} (hg : ∀ x r, g x = some r → ∃ N, a4H N x = some r) : c8 Try.prog 47 ⟨D9, D9, g⟩ :=
 i6 (E := p_dring_Reduce_E) (H := b9S) (L := fun N => LT.nil) (c := b9T) (ks := D9) (rs := a4n) (F := a4H) hE mix Try.func47 (by kernel_rfl) (fun N => OkAll.nil) (fun _ _ => by kernel_rfl) hg
noncomputable def p_dring_near_E : AE := AE.of [] []
noncomputable def c3c : Hints := [(3000000, [4])]
noncomputable def c3d : Code := (Try.f48).body.getD .skip
abbrev a0W : List Kd := [.int .i32, .int .i32]
abbrev a6G : List Kd := [.int .i32]
noncomputable def a7A (N : Nat) (x : Int × Int × Unit) : Option (Int) :=
 if x.2.1 = 0 then none else (
 if ((Int.tmod x.1 x.2.1) > (IntKind.i32.wrap (Int.tdiv x.2.1 (2:Int)))) then
  some (IntKind.i32.wrap ((Int.tmod x.1 x.2.1) - x.2.1))
 else
  some (Int.tmod x.1 x.2.1))
theorem b9X : p_dring_near_E.Ok Try.prog := AE.of_ok c6 c6
theorem c15 (hE : p_dring_near_E.Ok Try.prog) {g : Ds a0W → Option (Rs [.int .i32])} (hg : ∀ x r, g x = some r → ∃ N, a7A N x = some r) : c8 Try.prog 48 ⟨a0W, [.int .i32], g⟩ :=
 i6 (E := p_dring_near_E) (H := c3c) (L := fun N => LT.nil) (c := c3d) (ks := a0W) (rs := a6G) (F := a7A) hE mix Try.func48 (by kernel_rfl) (fun N => OkAll.nil) (fun _ _ => by kernel_rfl) hg
noncomputable abbrev a4U : Sig := ⟨[.int .i32, .int .i32], [.int .i32], a49⟩
noncomputable def p_dring_parts_E : AE := AE.of [(2, ty2), (21, ty21)] [(45, i8), (48, a4U)]
noncomputable def c17 : Hints := [(3000000, [2, 3])]
noncomputable def c18 : Code := (Try.f68).body.getD .skip
abbrev a5H : List Kd := [.int .i32]
abbrev Y7 : List Kd := [.int .i32, .int .i32]
noncomputable def a56 (N : Nat) (x : Int × Unit) : Option (Int × Int) :=
 (u3 ((IntKind.i64.wrap x.1), ())).bind fun r1 => (
 (a49 (r1, (523776:Int), ())).bind fun r2 => (
 if ((IntKind.i32.wrap (r1 - r2)) = (8380416:Int)) then
  some ((0:Int), (IntKind.i32.wrap (r2 - (1:Int))))
 else
  some ((IntKind.i32.wrap (Int.tdiv (IntKind.i32.wrap (r1 - r2)) (523776:Int))), r2)))
theorem b8o (e0 : c8 Try.prog 45 i8) (e1 : c8 Try.prog 48 a4U) : p_dring_parts_E.Ok Try.prog := AE.of_ok (all_cons a9v (all_cons u6 c6)) (all_cons ⟨e0, o7⟩ (all_cons ⟨e1, a8G⟩ c6))
theorem b9Z (hE : p_dring_parts_E.Ok Try.prog) {g : Ds [.int .i32] → Option (Rs Y7)} (hg : ∀ x r, g x = some r → ∃ N, a56 N x = some r) : c8 Try.prog 68 ⟨[.int .i32], Y7, g⟩ :=
 i6 (E := p_dring_parts_E) (H := c17) (L := fun N => LT.nil) (c := c18) (ks := a5H) (rs := Y7) (F := a56) hE mix Try.func68 (by kernel_rfl) (fun N => OkAll.nil) (fun _ _ => by kernel_rfl) hg
noncomputable abbrev E2 : Sig := ⟨[.xs b32 256], [.xs b32 256], Q5⟩
noncomputable def p_dring_Power2Round_E : AE := AE.of [(21, ty21), (40, ty40)] [(47, E2), (48, a4U)]
noncomputable def a5e : Hints := [(2, [2, 3, 7, 8]), (2000000, [2, 3]), (2000001, [2, 3, 7, 8]), (3000000, [2, 3])]
noncomputable def a0S : Code := (Try.f20).body.getD .skip
noncomputable def a81 : Shape := mkS { tmps := V :: V :: .sc (.ptr 0 0 false) :: .sc (.ptr 1 0 false) :: pv 3 (.agg [.xs b32 (some 256)] :: .sc (.int .i64) :: pv 18 []), mem := [.live [.xs b32 (some 256)] (.own), .live [.xs b32 (some 256)] (.own)] } [.xs, .int, .xs, .xs]
noncomputable def G4 (N : Nat) (β : Type) (x : W12) (kn : W12 → Option β) (ke : W5 → Option β) : Option β :=
 if (x.2.1 < (256:Int)) then
  if 0 ≤ x.2.1 then (
  if x.2.1 < 256 then (
  if (x.2.1.toNat) < 256 then (
  (a49 ((List.getD x.1 (x.2.1.toNat) 0), (8192:Int), ())).bind fun r2 => (
  if 0 ≤ x.2.1 then (
  if x.2.1 < 256 then (
  if (x.2.1.toNat) < 256 then (
  if 0 ≤ x.2.1 then (
  if x.2.1 < 256 then (
  if (x.2.1.toNat) < 256 then (
  if 0 ≤ x.2.1 then (
  if x.2.1 < 256 then (
  if (x.2.1.toNat) < 256 then (
  kn (x.1, (IntKind.i64.wrap (x.2.1 + (1:Int))), (List.set x.2.2.1 (x.2.1.toNat) (b9D IntKind.i32 (IntKind.i32.wrap ((List.getD x.1 (x.2.1.toNat) 0) - (List.getD (List.set x.2.2.2.1 (x.2.1.toNat) r2) (x.2.1.toNat) 0))) (13:Int))), (List.set x.2.2.2.1 (x.2.1.toNat) r2), ())) else none) else none) else none) else none) else none) else none) else none) else none) else none)) else none) else none) else none
 else
  ke (x.2.2.1, x.2.2.2.1, ())
noncomputable def a77 : Go' W5 := fun y K => K (.exit 0) (fSt { tmps := V :: V :: .sc (.ptr 0 0 false) :: .sc (.ptr 1 0 false) :: pv 23 [], mem := [.live [.xs b32 (some 256)] (.own), .live [.xs b32 (some 256)] (.own)] } [.xs, .xs] y)
noncomputable def a2W (N : Nat) : LT := upd (LT.nil) 2 (o9 a81 N (G4 N) a77)
theorem a78 (N : Nat) : OkAll p_dring_Power2Round_E a5e N (a2W N) (x4 a0S) :=
 d7 (c := d8 2 a0S) (OkAll.nil) (by kernel_rfl) (fun x => by kernel_rfl) (fun β x kn ke => by kernel_rfl)
abbrev C6 : List Kd := [.xs b32 256]
abbrev C7 : List Kd := [.xs b32 256, .xs b32 256]
noncomputable def V2 (N : Nat) (x : List Int × Unit) : Option (List Int × List Int) :=
 (Q5 (x.1, ())).bind fun r1 => (
 m9 (G4 N) N (r1, (0:Int), (List.replicate 256 0), (List.replicate 256 0), ()) fun y3 => (
 some (y3.1, y3.2.1)))
theorem a96 (e0 : c8 Try.prog 47 E2) (e1 : c8 Try.prog 48 a4U) : p_dring_Power2Round_E.Ok Try.prog := AE.of_ok (all_cons u6 (all_cons s5 c6)) (all_cons ⟨e0, U5⟩ (all_cons ⟨e1, a8G⟩ c6))
theorem b08 (hE : p_dring_Power2Round_E.Ok Try.prog) {g : Ds C6 → Option (Rs C7)} (hg : ∀ x r, g x = some r → ∃ N, V2 N x = some r) : c8 Try.prog 20 ⟨C6, C7, g⟩ :=
 i6 (E := p_dring_Power2Round_E) (H := a5e) (L := fun N => a2W N) (c := a0S) (ks := C6) (rs := C7) (F := V2) hE mix Try.func20 (by kernel_rfl) (fun N => a78 N) (fun _ _ => by kernel_rfl) hg
noncomputable abbrev a9A : Sig := ⟨[.int .i32], [.int .i32, .int .i32], a5Z⟩
noncomputable def p_dring_Decompose_E : AE := AE.of [(21, ty21), (40, ty40)] [(68, a9A)]
noncomputable def a6A : Hints := [(2, [2, 3, 6, 7]), (2000000, [2, 3]), (2000001, [2, 3, 6, 7]), (3000000, [2, 3])]
noncomputable def a2H : Code := (Try.f53).body.getD .skip
noncomputable def b01 : Shape := mkS { tmps := V :: V :: .sc (.ptr 0 0 false) :: .sc (.ptr 1 0 false) :: V :: V :: .agg [.xs b32 (some 256)] :: .sc (.int .i64) :: pv 15 [], mem := [.live [.xs b32 (some 256)] (.own), .live [.xs b32 (some 256)] (.own)] } [.xs, .int, .xs, .xs]
noncomputable def M8 (N : Nat) (β : Type) (x : W12) (kn : W12 → Option β) (ke : W5 → Option β) : Option β :=
 if (x.2.1 < (256:Int)) then
  if 0 ≤ x.2.1 then (
  if x.2.1 < 256 then (
  if (x.2.1.toNat) < 256 then (
  (a5Z ((List.getD x.1 (x.2.1.toNat) 0), ())).bind fun r1 => (
  if 0 ≤ x.2.1 then (
  if x.2.1 < 256 then (
  if (x.2.1.toNat) < 256 then (
  if 0 ≤ x.2.1 then (
  if x.2.1 < 256 then (
  if (x.2.1.toNat) < 256 then (
  kn (x.1, (IntKind.i64.wrap (x.2.1 + (1:Int))), (List.set x.2.2.1 (x.2.1.toNat) r1.1), (List.set x.2.2.2.1 (x.2.1.toNat) r1.2), ())) else none) else none) else none) else none) else none) else none)) else none) else none) else none
 else
  ke (x.2.2.1, x.2.2.2.1, ())
noncomputable def a9X : Go' W5 := fun y K => K (.exit 0) (fSt { tmps := V :: V :: .sc (.ptr 0 0 false) :: .sc (.ptr 1 0 false) :: pv 19 [], mem := [.live [.xs b32 (some 256)] (.own), .live [.xs b32 (some 256)] (.own)] } [.xs, .xs] y)
noncomputable def a31 (N : Nat) : LT := upd (LT.nil) 2 (o9 b01 N (M8 N) a9X)
theorem a9Y (N : Nat) : OkAll p_dring_Decompose_E a6A N (a31 N) (x4 a2H) :=
 d7 (c := d8 2 a2H) (OkAll.nil) (by kernel_rfl) (fun x => by kernel_rfl) (fun β x kn ke => by kernel_rfl)
abbrev H5 : List Kd := [.xs b32 256]
abbrev H6 : List Kd := [.xs b32 256, .xs b32 256]
noncomputable def a1m (N : Nat) (x : List Int × Unit) : Option (List Int × List Int) :=
 m9 (M8 N) N (x.1, (0:Int), (List.replicate 256 0), (List.replicate 256 0), ()) fun y2 => (
 some (y2.1, y2.2.1))
theorem b2c (e0 : c8 Try.prog 68 a9A) : p_dring_Decompose_E.Ok Try.prog := AE.of_ok (all_cons u6 (all_cons s5 c6)) (all_cons ⟨e0, b5V⟩ c6)
theorem b3l (hE : p_dring_Decompose_E.Ok Try.prog) {g : Ds H5 → Option (Rs H6)} (hg : ∀ x r, g x = some r → ∃ N, a1m N x = some r) : c8 Try.prog 53 ⟨H5, H6, g⟩ :=
 i6 (E := p_dring_Decompose_E) (H := a6A) (L := fun N => a31 N) (c := a2H) (ks := H5) (rs := H6) (F := a1m) hE mix Try.func53 (by kernel_rfl) (fun N => a9Y N) (fun _ _ => by kernel_rfl) hg
noncomputable def p_dring_times_E : AE := AE.of [(2, ty2), (21, ty21)] [(45, i8)]
noncomputable def c19 : Hints := [(3000000, [4])]
noncomputable def c2a : Code := (Try.f60).body.getD .skip
abbrev Y9 : List Kd := [.int .i32, .int .i32]
abbrev a5J : List Kd := [.int .i32]
noncomputable def a57 (N : Nat) (x : Int × Int × Unit) : Option (Int) :=
 (u3 ((IntKind.i64.wrap ((IntKind.i64.wrap x.1) * (IntKind.i64.wrap x.2.1))), ())).bind fun r1 => (
 some r1)
theorem b8q (e0 : c8 Try.prog 45 i8) : p_dring_times_E.Ok Try.prog := AE.of_ok (all_cons a9v (all_cons u6 c6)) (all_cons ⟨e0, o7⟩ c6)
theorem b90 (hE : p_dring_times_E.Ok Try.prog) {g : Ds Y9 → Option (Rs [.int .i32])} (hg : ∀ x r, g x = some r → ∃ N, a57 N x = some r) : c8 Try.prog 60 ⟨Y9, [.int .i32], g⟩ :=
 i6 (E := p_dring_times_E) (H := c19) (L := fun N => LT.nil) (c := c2a) (ks := Y9) (rs := a5J) (F := a57) hE mix Try.func60 (by kernel_rfl) (fun N => OkAll.nil) (fun _ _ => by kernel_rfl) hg
noncomputable def p_bits_Reverse8_s0 : ByteArray := ⟨#[0, 128, 64, 192, 32, 160, 96, 224, 16, 144, 80, 208, 48, 176, 112, 240, 8, 136, 72, 200, 40, 168, 104, 232, 24, 152, 88, 216, 56, 184, 120, 248, 4, 132, 68, 196, 36, 164, 100, 228, 20, 148, 84, 212, 52, 180, 116, 244, 12, 140, 76, 204, 44, 172, 108, 236, 28, 156, 92, 220, 60, 188, 124, 252, 2, 130, 66, 194, 34, 162, 98, 226, 18, 146, 82, 210, 50, 178, 114, 242, 10, 138, 74, 202, 42, 170, 106, 234, 26, 154, 90, 218, 58, 186, 122, 250, 6, 134, 70, 198, 38, 166, 102, 230, 22, 150, 86, 214, 54, 182, 118, 246, 14, 142, 78, 206, 46, 174, 110, 238, 30, 158, 94, 222, 62, 190, 126, 254, 1, 129, 65, 193, 33, 161, 97, 225, 17, 145, 81, 209, 49, 177, 113, 241, 9, 137, 73, 201, 41, 169, 105, 233, 25, 153, 89, 217, 57, 185, 121, 249, 5, 133, 69, 197, 37, 165, 101, 229, 21, 149, 85, 213, 53, 181, 117, 245, 13, 141, 77, 205, 45, 173, 109, 237, 29, 157, 93, 221, 61, 189, 125, 253, 3, 131, 67, 195, 35, 163, 99, 227, 19, 147, 83, 211, 51, 179, 115, 243, 11, 139, 75, 203, 43, 171, 107, 235, 27, 155, 91, 219, 59, 187, 123, 251, 7, 135, 71, 199, 39, 167, 103, 231, 23, 151, 87, 215, 55, 183, 119, 247, 15, 143, 79, 207, 47, 175, 111, 239, 31, 159, 95, 223, 63, 191, 127, 255]⟩
noncomputable def p_bits_Reverse8_E : AE := AE.of [(9, ty9)] []
noncomputable def b7W : Hints := [(3000000, [2])]
noncomputable def b7X : Code := (Try.f69).body.getD .skip
abbrev a3q : List Kd := [.int .u8]
abbrev a3r : List Kd := [.int .u8]
noncomputable def a3p (N : Nat) (x : Int × Unit) : Option (Int) :=
 if 0 ≤ x.1 then (
 if x.1 < ((ByteArray.size p_bits_Reverse8_s0 : Nat) : Int) then (
 some (bt p_bits_Reverse8_s0 (x.1.toNat))) else none) else none
theorem b4C : p_bits_Reverse8_E.Ok Try.prog := AE.of_ok (all_cons d9D c6) c6
theorem b6c (hE : p_bits_Reverse8_E.Ok Try.prog) {g : Ds [.int .u8] → Option (Rs [.int .u8])} (hg : ∀ x r, g x = some r → ∃ N, a3p N x = some r) : c8 Try.prog 69 ⟨[.int .u8], [.int .u8], g⟩ :=
 i6 (E := p_bits_Reverse8_E) (H := b7W) (L := fun N => LT.nil) (c := b7X) (ks := a3q) (rs := a3r) (F := a3p) hE mix Try.func69 (by kernel_rfl) (fun N => OkAll.nil) (fun _ _ => by kernel_rfl) hg
noncomputable abbrev A5 : Sig := ⟨[.int .i32, .int .i32], [.int .i32], O0⟩
noncomputable abbrev a6j : Sig := ⟨[.int .u8], [.int .u8], a3k⟩
noncomputable def p_dring_powers_E : AE := AE.of [(3, ty3), (5, ty5), (21, ty21), (39, ty39)] [(60, A5), (69, a6j)]
noncomputable def a5I : Hints := [(4, [0, 1, 2, 3]), (8, [0, 1, 2, 17]), (2000000, [0, 1, 2]), (2000001, [0, 1, 2, 3]), (2000002, [0, 2]), (2000003, [0, 1, 2, 17]), (3000000, [0])]
noncomputable def Y8 : Code := (Try.f59).body.getD .skip
noncomputable def b4S : Shape := mkS { tmps := .sc (.ptr 0 0 false) :: .sc (.ptr 1 0 false) :: .sc (.ptr 2 0 false) :: .sc (.int .i64) :: pv 25 [], mem := [.live [.xs b32 (some 256)] (.own), .live [.xs b32 (some 256)] (.own), .live [.xs b32 (some 256)] (.own)] } [.int, .xs, .xs, .xs]
noncomputable def L8 (N : Nat) (β : Type) (x : W4) (kn : W4 → Option β) (ke : W3 → Option β) : Option β :=
 if (x.1 < (256:Int)) then
  if 0 ≤ (IntKind.i64.wrap (x.1 - (1:Int))) then (
  if (IntKind.i64.wrap (x.1 - (1:Int))) < 256 then (
  if ((IntKind.i64.wrap (x.1 - (1:Int))).toNat) < 256 then (
  (O0 ((List.getD x.2.2.1 ((IntKind.i64.wrap (x.1 - (1:Int))).toNat) 0), (1753:Int), ())).bind fun r1 => (
  if 0 ≤ x.1 then (
  if x.1 < 256 then (
  if (x.1.toNat) < 256 then (
  kn ((IntKind.i64.wrap (x.1 + (1:Int))), x.2.1, (List.set x.2.2.1 (x.1.toNat) r1), x.2.2.2.1, ())) else none) else none) else none)) else none) else none) else none
 else
  ke (x.2.1, x.2.2.1, x.2.2.2.1, ())
noncomputable def b3B : Go' W3 := fun y K => K (.exit 0) (fSt { tmps := .sc (.ptr 0 0 false) :: .sc (.ptr 1 0 false) :: .sc (.ptr 2 0 false) :: pv 26 [], mem := [.live [.xs b32 (some 256)] (.own), .live [.xs b32 (some 256)] (.own), .live [.xs b32 (some 256)] (.own)] } [.xs, .xs, .xs] y)
noncomputable def a6H (N : Nat) : LT := upd (LT.nil) 4 (o9 b4S N (L8 N) b3B)
theorem b3C (N : Nat) : OkAll p_dring_powers_E a5I N (a6H N) (x4 Y8) :=
 d7 (c := d8 4 Y8) (OkAll.nil) (by kernel_rfl) (fun x => by kernel_rfl) (fun β x kn ke => by kernel_rfl)
noncomputable def b4T : Shape := mkS { tmps := .sc (.ptr 0 0 false) :: .sc (.ptr 1 0 false) :: .sc (.ptr 2 0 false) :: pv 14 (.sc (.int .i64) :: pv 11 []), mem := [.live [.xs b32 (some 256)] (.own), .live [.xs b32 (some 256)] (.own), .live [.xs b32 (some 256)] (.own)] } [.int, .xs, .xs, .xs]
noncomputable def L9 (N : Nat) (β : Type) (x : W4) (kn : W4 → Option β) (ke : W5 → Option β) : Option β :=
 if (x.1 < (256:Int)) then
  (a3k ((IntKind.u8.wrap x.1), ())).bind fun r3 => (
  if 0 ≤ r3 then (
  if r3 < 256 then (
  if (r3.toNat) < 256 then (
  if 0 ≤ x.1 then (
  if x.1 < 256 then (
  if (x.1.toNat) < 256 then (
  kn ((IntKind.i64.wrap (x.1 + (1:Int))), x.2.1, x.2.2.1, (List.set x.2.2.2.1 (x.1.toNat) (List.getD x.2.2.1 (r3.toNat) 0)), ())) else none) else none) else none) else none) else none) else none)
 else
  ke (x.2.1, x.2.2.2.1, ())
noncomputable def b3D : Go' W5 := fun y K => K (.exit 2) (fSt { tmps := .sc (.ptr 0 0 false) :: V :: .sc (.ptr 1 0 false) :: pv 26 [], mem := [.live [.xs b32 (some 256)] (.own), .live [.xs b32 (some 256)] (.own)] } [.xs, .xs] y)
noncomputable def a6I (N : Nat) : LT := upd (a6H N) 8 (o9 b4T N (L9 N) b3D)
theorem b3E (N : Nat) : OkAll p_dring_powers_E a5I N (a6I N) (x4 Y8) :=
 d7 (c := d8 8 Y8) (b3C N) (by kernel_rfl) (fun x => by kernel_rfl) (fun β x kn ke => by kernel_rfl)
abbrev a4t : List Kd := []
abbrev T0 : List Kd := [.xs b32 256]
noncomputable def a4K (N : Nat) (x : Unit) : Option (List Int) :=
 m9 (L8 N) N ((1:Int), (List.replicate 256 0), (List.set (List.replicate 256 0) 0 (1:Int)), (List.replicate 256 0), ()) fun y2 => (
 m9 (L9 N) N ((0:Int), y2.1, y2.2.1, y2.2.2.1, ()) fun y4 => (
 some y4.2.1))
theorem b6B (e0 : c8 Try.prog 60 A5) (e1 : c8 Try.prog 69 a6j) : p_dring_powers_E.Ok Try.prog := AE.of_ok (all_cons a5T (all_cons Z8 (all_cons u6 (all_cons c9d c6)))) (all_cons ⟨e0, N9⟩ (all_cons ⟨e1, b3i⟩ c6))
theorem b8p (hE : p_dring_powers_E.Ok Try.prog) {g : Ds [] → Option (Rs T0)} (hg : ∀ x r, g x = some r → ∃ N, a4K N x = some r) : c8 Try.prog 59 ⟨[], T0, g⟩ :=
 i6 (E := p_dring_powers_E) (H := a5I) (L := fun N => a6I N) (c := Y8) (ks := a4t) (rs := T0) (F := a4K) hE mix Try.func59 (by kernel_rfl) (fun N => b3E N) (fun _ _ => by kernel_rfl) hg
noncomputable abbrev a1L : Sig := ⟨[], [.xs b32 256], a1O⟩
noncomputable def p_dring_Ntt_E : AE := AE.of [(2, ty2), (21, ty21), (39, ty39), (40, ty40)] [(47, E2), (59, a1L), (60, A5), (45, i8)]
noncomputable def a53 : Hints := [(5, [1, 2, 3, 4, 5]), (8, [1, 2, 3, 4, 5, 6]), (12, [1, 2, 3, 4, 5, 6, 7]), (2000000, [1, 2]), (2000001, [1, 2, 3, 4, 5]), (2000002, [1, 2, 3, 4, 5]), (2000003, [1, 2, 3, 4, 5, 6]), (2000004, [1, 2, 3, 4, 5, 6]), (2000005, [1, 2, 3, 4, 5, 6, 7]), (3000000, [2])]
noncomputable def V1 : Code := (Try.f32).body.getD .skip
noncomputable def b79 : Shape := mkS { tmps := V :: .sc (.ptr 0 0 false) :: .sc (.ptr 1 0 false) :: .sc (.ptr 2 0 false) :: .sc (.int .i64) :: .sc (.int .i64) :: .sc (.int .i64) :: .sc (.int .i64) :: pv 56 [], mem := [.live [.xs b32 (some 256)] (.own), .live [.xs b32 (some 256)] (.own), .live [.xs b32 (some 256)] (.own)] } [.int, .int, .int, .int, .xs, .xs, .xs]
abbrev W13 : Type := Int × Int × Int × Int × List Int × List Int × List Int × Unit
abbrev W14 : Type := Int × Int × Int × List Int × List Int × List Int × Unit
noncomputable def J8 (N : Nat) (β : Type) (x : W13) (kn : W13 → Option β) (ke : W14 → Option β) : Option β :=
 if (x.2.2.2.1 < (IntKind.i64.wrap (x.2.2.1 + x.2.1))) then
  if 0 ≤ x.1 then (
  if x.1 < 256 then (
  if (x.1.toNat) < 256 then (
  if 0 ≤ (IntKind.i64.wrap (x.2.2.2.1 + x.2.1)) then (
  if (IntKind.i64.wrap (x.2.2.2.1 + x.2.1)) < 256 then (
  if ((IntKind.i64.wrap (x.2.2.2.1 + x.2.1)).toNat) < 256 then (
  (O0 ((List.getD x.2.2.2.2.2.2.1 (x.1.toNat) 0), (List.getD x.2.2.2.2.1 ((IntKind.i64.wrap (x.2.2.2.1 + x.2.1)).toNat) 0), ())).bind fun r3 => (
  if 0 ≤ x.2.2.2.1 then (
  if x.2.2.2.1 < 256 then (
  if (x.2.2.2.1.toNat) < 256 then (
  (u3 ((IntKind.i64.wrap ((IntKind.i64.wrap (List.getD x.2.2.2.2.1 (x.2.2.2.1.toNat) 0)) + (IntKind.i64.wrap r3))), ())).bind fun r4 => (
  if 0 ≤ x.2.2.2.1 then (
  if x.2.2.2.1 < 256 then (
  if (x.2.2.2.1.toNat) < 256 then (
  (u3 ((IntKind.i64.wrap ((IntKind.i64.wrap (List.getD x.2.2.2.2.1 (x.2.2.2.1.toNat) 0)) - (IntKind.i64.wrap r3))), ())).bind fun r5 => (
  if 0 ≤ x.2.2.2.1 then (
  if x.2.2.2.1 < 256 then (
  if (x.2.2.2.1.toNat) < 256 then (
  if 0 ≤ (IntKind.i64.wrap (x.2.2.2.1 + x.2.1)) then (
  if (IntKind.i64.wrap (x.2.2.2.1 + x.2.1)) < 256 then (
  if ((IntKind.i64.wrap (x.2.2.2.1 + x.2.1)).toNat) < 256 then (
  kn (x.1, x.2.1, x.2.2.1, (IntKind.i64.wrap (x.2.2.2.1 + (1:Int))), (List.set (List.set x.2.2.2.2.1 (x.2.2.2.1.toNat) r4) ((IntKind.i64.wrap (x.2.2.2.1 + x.2.1)).toNat) r5), x.2.2.2.2.2.1, x.2.2.2.2.2.2.1, ())) else none) else none) else none) else none) else none) else none)) else none) else none) else none)) else none) else none) else none)) else none) else none) else none) else none) else none) else none
 else
  ke (x.1, x.2.1, x.2.2.1, x.2.2.2.2.1, x.2.2.2.2.2.1, x.2.2.2.2.2.2.1, ())
noncomputable def b6m : Go' W14 := fun y K => K (.exit 4) (fSt { tmps := V :: .sc (.ptr 0 0 false) :: .sc (.ptr 1 0 false) :: .sc (.ptr 2 0 false) :: .sc (.int .i64) :: .sc (.int .i64) :: .sc (.int .i64) :: pv 57 [], mem := [.live [.xs b32 (some 256)] (.own), .live [.xs b32 (some 256)] (.own), .live [.xs b32 (some 256)] (.own)] } [.int, .int, .int, .xs, .xs, .xs] y)
noncomputable def a8Z (N : Nat) : LT := upd (LT.nil) 12 (o9 b79 N (J8 N) b6m)
theorem b6n (N : Nat) : OkAll p_dring_Ntt_E a53 N (a8Z N) (x4 V1) :=
 d7 (c := d8 12 V1) (OkAll.nil) (by kernel_rfl) (fun x => by kernel_rfl) (fun β x kn ke => by kernel_rfl)
noncomputable def b9Q : Shape := mkS { tmps := V :: .sc (.ptr 0 0 false) :: .sc (.ptr 1 0 false) :: .sc (.ptr 2 0 false) :: .sc (.int .i64) :: .sc (.int .i64) :: .sc (.int .i64) :: pv 57 [], mem := [.live [.xs b32 (some 256)] (.own), .live [.xs b32 (some 256)] (.own), .live [.xs b32 (some 256)] (.own)] } [.int, .int, .int, .xs, .xs, .xs]
abbrev W15 : Type := Int × Int × List Int × List Int × List Int × Unit
noncomputable def N5 (N : Nat) (β : Type) (x : W14) (kn : W14 → Option β) (ke : W15 → Option β) : Option β :=
 if (x.2.2.1 < (256:Int)) then
  m9 (J8 N) N ((IntKind.i64.wrap (x.1 + (1:Int))), x.2.1, x.2.2.1, x.2.2.1, x.2.2.2.1, x.2.2.2.2.1, x.2.2.2.2.2.1, ()) fun y6 => (
  kn (y6.1, y6.2.1, (IntKind.i64.wrap (y6.2.2.1 + (IntKind.i64.wrap ((2:Int) * y6.2.1)))), y6.2.2.2.1, y6.2.2.2.2.1, y6.2.2.2.2.2.1, ()))
 else
  ke (x.1, x.2.1, x.2.2.2.1, x.2.2.2.2.1, x.2.2.2.2.2.1, ())
noncomputable def b8c : Go' W15 := fun y K => K (.exit 2) (fSt { tmps := V :: .sc (.ptr 0 0 false) :: .sc (.ptr 1 0 false) :: .sc (.ptr 2 0 false) :: .sc (.int .i64) :: .sc (.int .i64) :: pv 58 [], mem := [.live [.xs b32 (some 256)] (.own), .live [.xs b32 (some 256)] (.own), .live [.xs b32 (some 256)] (.own)] } [.int, .int, .xs, .xs, .xs] y)
noncomputable def b0K (N : Nat) : LT := upd (a8Z N) 8 (o9 b9Q N (N5 N) b8c)
theorem b8d (N : Nat) : OkAll p_dring_Ntt_E a53 N (b0K N) (x4 V1) :=
 d7 (c := d8 8 V1) (b6n N) (by kernel_rfl) (fun x => by kernel_rfl) (fun β x kn ke => by kernel_rfl)
noncomputable def b9P : Shape := mkS { tmps := V :: .sc (.ptr 0 0 false) :: .sc (.ptr 1 0 false) :: .sc (.ptr 2 0 false) :: .sc (.int .i64) :: .sc (.int .i64) :: pv 58 [], mem := [.live [.xs b32 (some 256)] (.own), .live [.xs b32 (some 256)] (.own), .live [.xs b32 (some 256)] (.own)] } [.int, .int, .xs, .xs, .xs]
noncomputable def Y3 (N : Nat) (β : Type) (x : W15) (kn : W15 → Option β) (ke : W5 → Option β) : Option β :=
 if (x.2.1 ≥ (1:Int)) then
  m9 (N5 N) N (x.1, x.2.1, (0:Int), x.2.2.1, x.2.2.2.1, x.2.2.2.2.1, ()) fun y7 => (
  kn (y7.1, (IntKind.i64.wrap (Int.tdiv y7.2.1 (2:Int))), y7.2.2.1, y7.2.2.2.1, y7.2.2.2.2.1, ()))
 else
  ke (x.2.2.1, x.2.2.2.1, ())
noncomputable def b8a : Go' W5 := fun y K => K (.exit 0) (fSt { tmps := V :: .sc (.ptr 0 0 false) :: .sc (.ptr 1 0 false) :: pv 61 [], mem := [.live [.xs b32 (some 256)] (.own), .live [.xs b32 (some 256)] (.own)] } [.xs, .xs] y)
noncomputable def b0J (N : Nat) : LT := upd (b0K N) 5 (o9 b9P N (Y3 N) b8a)
theorem b8b (N : Nat) : OkAll p_dring_Ntt_E a53 N (b0J N) (x4 V1) :=
 d7 (c := d8 5 V1) (b8d N) (by kernel_rfl) (fun x => by kernel_rfl) (fun β x kn ke => by kernel_rfl)
abbrev Q8 : List Kd := [.xs b32 256]
abbrev a75 : List Kd := [.xs b32 256]
noncomputable def a91 (N : Nat) (x : List Int × Unit) : Option (List Int) :=
 (Q5 (x.1, ())).bind fun r1 => (
 (a1O (())).bind fun r2 => (
 m9 (Y3 N) N ((0:Int), (128:Int), r1, (List.replicate 256 0), r2, ()) fun y8 => (
 some y8.1)))
theorem c1Z (e0 : c8 Try.prog 47 E2) (e1 : c8 Try.prog 59 a1L) (e2 : c8 Try.prog 60 A5) (e3 : c8 Try.prog 45 i8) : p_dring_Ntt_E.Ok Try.prog := AE.of_ok (all_cons a9v (all_cons u6 (all_cons c9d (all_cons s5 c6)))) (all_cons ⟨e0, U5⟩ (all_cons ⟨e1, a6w⟩ (all_cons ⟨e2, N9⟩ (all_cons ⟨e3, o7⟩ c6))))
theorem c28 (hE : p_dring_Ntt_E.Ok Try.prog) {g : Ds Q8 → Option (Rs Q8)} (hg : ∀ x r, g x = some r → ∃ N, a91 N x = some r) : c8 Try.prog 32 ⟨Q8, Q8, g⟩ :=
 i6 (E := p_dring_Ntt_E) (H := a53) (L := fun N => b0J N) (c := V1) (ks := Q8) (rs := a75) (F := a91) hE mix Try.func32 (by kernel_rfl) (fun N => b8b N) (fun _ _ => by kernel_rfl) hg
noncomputable def p_dring_Inv_1_E : AE := AE.of [] [(60, A5)]
noncomputable def c1T : Hints := [(3000000, [2])]
noncomputable def c1U : Code := (Try.f61).body.getD .skip
abbrev a5z : List Kd := [.int .i32]
abbrev a5A : List Kd := [.int .i32]
noncomputable def a51 (N : Nat) (x : Int × Unit) : Option (Int) :=
 (O0 (x.1, (8347681:Int), ())).bind fun r1 => (
 some r1)
theorem b71 (e0 : c8 Try.prog 60 A5) : p_dring_Inv_1_E.Ok Try.prog := AE.of_ok c6 (all_cons ⟨e0, N9⟩ c6)
theorem b9K (hE : p_dring_Inv_1_E.Ok Try.prog) {g : Ds [.int .i32] → Option (Rs [.int .i32])} (hg : ∀ x r, g x = some r → ∃ N, a51 N x = some r) : c8 Try.prog 61 ⟨[.int .i32], [.int .i32], g⟩ :=
 i6 (E := p_dring_Inv_1_E) (H := c1T) (L := fun N => LT.nil) (c := c1U) (ks := a5z) (rs := a5A) (F := a51) hE mix Try.func61 (by kernel_rfl) (fun N => OkAll.nil) (fun _ _ => by kernel_rfl) hg
noncomputable abbrev a9z : Sig := ⟨[.int .i32], [.int .i32], a5Y⟩
noncomputable def p_dring_each__dring_Inv_1_E : AE := AE.of [(21, ty21), (40, ty40)] [(61, a9z)]
noncomputable def a0T : Hints := [(2, [1, 2, 4, 7, 8]), (2000000, [2, 4]), (2000001, [1, 2, 4, 7, 8]), (3000000, [4])]
noncomputable def L7 : Code := (Try.f57).body.getD .skip
noncomputable def a5f : Shape := mkS { tmps := V :: .sc (.fn 61) :: .sc (.ptr 0 0 false) :: V :: .sc (.ptr 1 0 false) :: V :: V :: .agg [.xs b32 (some 256)] :: .sc (.int .i64) :: pv 10 [], mem := [.live [.xs b32 (some 256)] (.own), .live [.xs b32 (some 256)] (.own)] } [.xs, .int, .xs, .xs]
noncomputable def u7 (N : Nat) (β : Type) (x : W12) (kn : W12 → Option β) (ke : W5 → Option β) : Option β :=
 if (x.2.1 < (256:Int)) then
  if 0 ≤ x.2.1 then (
  if x.2.1 < 256 then (
  if (x.2.1.toNat) < 256 then (
  (a5Y ((List.getD x.1 (x.2.1.toNat) 0), ())).bind fun r1 => (
  if 0 ≤ x.2.1 then (
  if x.2.1 < 256 then (
  if (x.2.1.toNat) < 256 then (
  kn (x.1, (IntKind.i64.wrap (x.2.1 + (1:Int))), (List.set x.2.2.1 (x.2.1.toNat) r1), x.2.2.2.1, ())) else none) else none) else none)) else none) else none) else none
 else
  ke (x.2.2.1, x.2.2.2.1, ())
noncomputable def a4p : Go' W5 := fun y K => K (.exit 0) (fSt { tmps := V :: V :: .sc (.ptr 0 0 false) :: V :: .sc (.ptr 1 0 false) :: pv 14 [], mem := [.live [.xs b32 (some 256)] (.own), .live [.xs b32 (some 256)] (.own)] } [.xs, .xs] y)
noncomputable def U1 (N : Nat) : LT := upd (LT.nil) 2 (o9 a5f N (u7 N) a4p)
theorem a4q (N : Nat) : OkAll p_dring_each__dring_Inv_1_E a0T N (U1 N) (x4 L7) :=
 d7 (c := d8 2 L7) (OkAll.nil) (by kernel_rfl) (fun x => by kernel_rfl) (fun β x kn ke => by kernel_rfl)
abbrev p8 : List Kd := [.xs b32 256, .fnc 61]
abbrev p9 : List Kd := [.xs b32 256]
noncomputable def E6 (N : Nat) (x : List Int × Unit × Unit) : Option (List Int) :=
 m9 (u7 N) N (x.1, (0:Int), x.1, (List.replicate 256 0), ()) fun y2 => (
 some y2.1)
theorem a5G (e0 : c8 Try.prog 61 a9z) : p_dring_each__dring_Inv_1_E.Ok Try.prog := AE.of_ok (all_cons u6 (all_cons s5 c6)) (all_cons ⟨e0, b5U⟩ c6)
theorem a55 (hE : p_dring_each__dring_Inv_1_E.Ok Try.prog) {g : Ds p8 → Option (Rs p9)} (hg : ∀ x r, g x = some r → ∃ N, E6 N x = some r) : c8 Try.prog 57 ⟨p8, p9, g⟩ :=
 i6 (E := p_dring_each__dring_Inv_1_E) (H := a0T) (L := fun N => U1 N) (c := L7) (ks := p8) (rs := p9) (F := E6) hE mix Try.func57 (by kernel_rfl) (fun N => a4q N) (fun _ _ => by kernel_rfl) hg
noncomputable abbrev Q3 : Sig := ⟨[.xs b32 256, .fnc 61], [.xs b32 256], E4⟩
noncomputable def p_dring_Inv_E : AE := AE.of [(2, ty2), (21, ty21), (39, ty39), (40, ty40)] [(47, E2), (59, a1L), (45, i8), (60, A5), (57, Q3)]
noncomputable def a52 : Hints := [(5, [1, 2, 3, 4, 5]), (8, [1, 2, 3, 4, 5, 6]), (12, [1, 2, 3, 4, 5, 6, 7]), (2000000, [1, 2]), (2000001, [1, 2, 3, 4, 5]), (2000002, [1, 2, 3, 4, 5]), (2000003, [1, 2, 3, 4, 5, 6]), (2000004, [1, 2, 3, 4, 5, 6]), (2000005, [1, 2, 3, 4, 5, 6, 7]), (3000000, [2])]
noncomputable def V0 : Code := (Try.f36).body.getD .skip
noncomputable def b72 : Shape := mkS { tmps := V :: .sc (.ptr 0 0 false) :: .sc (.ptr 1 0 false) :: .sc (.ptr 2 0 false) :: .sc (.int .i64) :: .sc (.int .i64) :: .sc (.int .i64) :: .sc (.int .i64) :: pv 54 [], mem := [.live [.xs b32 (some 256)] (.own), .live [.xs b32 (some 256)] (.own), .live [.xs b32 (some 256)] (.own)] } [.int, .int, .int, .int, .xs, .xs, .xs]
noncomputable def J7 (N : Nat) (β : Type) (x : W13) (kn : W13 → Option β) (ke : W14 → Option β) : Option β :=
 if (x.2.2.2.1 < (IntKind.i64.wrap (x.2.2.1 + x.2.1))) then
  if 0 ≤ x.2.2.2.1 then (
  if x.2.2.2.1 < 256 then (
  if (x.2.2.2.1.toNat) < 256 then (
  if 0 ≤ (IntKind.i64.wrap (x.2.2.2.1 + x.2.1)) then (
  if (IntKind.i64.wrap (x.2.2.2.1 + x.2.1)) < 256 then (
  if ((IntKind.i64.wrap (x.2.2.2.1 + x.2.1)).toNat) < 256 then (
  (u3 ((IntKind.i64.wrap ((IntKind.i64.wrap (List.getD x.2.2.2.2.1 (x.2.2.2.1.toNat) 0)) + (IntKind.i64.wrap (List.getD x.2.2.2.2.1 ((IntKind.i64.wrap (x.2.2.2.1 + x.2.1)).toNat) 0)))), ())).bind fun r3 => (
  if 0 ≤ x.1 then (
  if x.1 < 256 then (
  if (x.1.toNat) < 256 then (
  (O0 ((List.getD x.2.2.2.2.2.2.1 (x.1.toNat) 0), (IntKind.i32.wrap ((List.getD x.2.2.2.2.1 ((IntKind.i64.wrap (x.2.2.2.1 + x.2.1)).toNat) 0) - (List.getD x.2.2.2.2.1 (x.2.2.2.1.toNat) 0))), ())).bind fun r4 => (
  if 0 ≤ x.2.2.2.1 then (
  if x.2.2.2.1 < 256 then (
  if (x.2.2.2.1.toNat) < 256 then (
  if 0 ≤ (IntKind.i64.wrap (x.2.2.2.1 + x.2.1)) then (
  if (IntKind.i64.wrap (x.2.2.2.1 + x.2.1)) < 256 then (
  if ((IntKind.i64.wrap (x.2.2.2.1 + x.2.1)).toNat) < 256 then (
  kn (x.1, x.2.1, x.2.2.1, (IntKind.i64.wrap (x.2.2.2.1 + (1:Int))), (List.set (List.set x.2.2.2.2.1 (x.2.2.2.1.toNat) r3) ((IntKind.i64.wrap (x.2.2.2.1 + x.2.1)).toNat) r4), x.2.2.2.2.2.1, x.2.2.2.2.2.2.1, ())) else none) else none) else none) else none) else none) else none)) else none) else none) else none)) else none) else none) else none) else none) else none) else none
 else
  ke (x.1, x.2.1, x.2.2.1, x.2.2.2.2.1, x.2.2.2.2.2.1, x.2.2.2.2.2.2.1, ())
noncomputable def b6h : Go' W14 := fun y K => K (.exit 4) (fSt { tmps := V :: .sc (.ptr 0 0 false) :: .sc (.ptr 1 0 false) :: .sc (.ptr 2 0 false) :: .sc (.int .i64) :: .sc (.int .i64) :: .sc (.int .i64) :: pv 55 [], mem := [.live [.xs b32 (some 256)] (.own), .live [.xs b32 (some 256)] (.own), .live [.xs b32 (some 256)] (.own)] } [.int, .int, .int, .xs, .xs, .xs] y)
noncomputable def a8X (N : Nat) : LT := upd (LT.nil) 12 (o9 b72 N (J7 N) b6h)
theorem b6i (N : Nat) : OkAll p_dring_Inv_E a52 N (a8X N) (x4 V0) :=
 d7 (c := d8 12 V0) (OkAll.nil) (by kernel_rfl) (fun x => by kernel_rfl) (fun β x kn ke => by kernel_rfl)
noncomputable def b9M : Shape := mkS { tmps := V :: .sc (.ptr 0 0 false) :: .sc (.ptr 1 0 false) :: .sc (.ptr 2 0 false) :: .sc (.int .i64) :: .sc (.int .i64) :: .sc (.int .i64) :: pv 55 [], mem := [.live [.xs b32 (some 256)] (.own), .live [.xs b32 (some 256)] (.own), .live [.xs b32 (some 256)] (.own)] } [.int, .int, .int, .xs, .xs, .xs]
noncomputable def N4 (N : Nat) (β : Type) (x : W14) (kn : W14 → Option β) (ke : W15 → Option β) : Option β :=
 if (x.2.2.1 < (256:Int)) then
  m9 (J7 N) N ((IntKind.i64.wrap (x.1 - (1:Int))), x.2.1, x.2.2.1, x.2.2.1, x.2.2.2.1, x.2.2.2.2.1, x.2.2.2.2.2.1, ()) fun y5 => (
  kn (y5.1, y5.2.1, (IntKind.i64.wrap (y5.2.2.1 + (IntKind.i64.wrap ((2:Int) * y5.2.1)))), y5.2.2.2.1, y5.2.2.2.2.1, y5.2.2.2.2.2.1, ()))
 else
  ke (x.1, x.2.1, x.2.2.2.1, x.2.2.2.2.1, x.2.2.2.2.2.1, ())
noncomputable def b75 : Go' W15 := fun y K => K (.exit 2) (fSt { tmps := V :: .sc (.ptr 0 0 false) :: .sc (.ptr 1 0 false) :: .sc (.ptr 2 0 false) :: .sc (.int .i64) :: .sc (.int .i64) :: pv 56 [], mem := [.live [.xs b32 (some 256)] (.own), .live [.xs b32 (some 256)] (.own), .live [.xs b32 (some 256)] (.own)] } [.int, .int, .xs, .xs, .xs] y)
noncomputable def b0H (N : Nat) : LT := upd (a8X N) 8 (o9 b9M N (N4 N) b75)
theorem b76 (N : Nat) : OkAll p_dring_Inv_E a52 N (b0H N) (x4 V0) :=
 d7 (c := d8 8 V0) (b6i N) (by kernel_rfl) (fun x => by kernel_rfl) (fun β x kn ke => by kernel_rfl)
noncomputable def b9L : Shape := mkS { tmps := V :: .sc (.ptr 0 0 false) :: .sc (.ptr 1 0 false) :: .sc (.ptr 2 0 false) :: .sc (.int .i64) :: .sc (.int .i64) :: pv 56 [], mem := [.live [.xs b32 (some 256)] (.own), .live [.xs b32 (some 256)] (.own), .live [.xs b32 (some 256)] (.own)] } [.int, .int, .xs, .xs, .xs]
noncomputable def Y2 (N : Nat) (β : Type) (x : W15) (kn : W15 → Option β) (ke : W5 → Option β) : Option β :=
 if (x.2.1 ≤ (128:Int)) then
  m9 (N4 N) N (x.1, x.2.1, (0:Int), x.2.2.1, x.2.2.2.1, x.2.2.2.2.1, ()) fun y6 => (
  kn (y6.1, (IntKind.i64.wrap (y6.2.1 * (2:Int))), y6.2.2.1, y6.2.2.2.1, y6.2.2.2.2.1, ()))
 else
  ke (x.2.2.1, x.2.2.2.1, ())
noncomputable def b73 : Go' W5 := fun y K => K (.exit 0) (fSt { tmps := V :: .sc (.ptr 0 0 false) :: .sc (.ptr 1 0 false) :: pv 59 [], mem := [.live [.xs b32 (some 256)] (.own), .live [.xs b32 (some 256)] (.own)] } [.xs, .xs] y)
noncomputable def b0G (N : Nat) : LT := upd (b0H N) 5 (o9 b9L N (Y2 N) b73)
theorem b74 (N : Nat) : OkAll p_dring_Inv_E a52 N (b0G N) (x4 V0) :=
 d7 (c := d8 5 V0) (b76 N) (by kernel_rfl) (fun x => by kernel_rfl) (fun β x kn ke => by kernel_rfl)
abbrev Q7 : List Kd := [.xs b32 256]
abbrev a73 : List Kd := [.xs b32 256]
noncomputable def a9Z (N : Nat) (x : List Int × Unit) : Option (List Int) :=
 (Q5 (x.1, ())).bind fun r1 => (
 (a1O (())).bind fun r2 => (
 m9 (Y2 N) N ((256:Int), (1:Int), r1, (List.replicate 256 0), r2, ()) fun y7 => (
 (E4 (y7.1, (), ())).bind fun r8 => (
 some r8))))
theorem c1V (e0 : c8 Try.prog 47 E2) (e1 : c8 Try.prog 59 a1L) (e2 : c8 Try.prog 45 i8) (e3 : c8 Try.prog 60 A5) (e4 : c8 Try.prog 57 Q3) : p_dring_Inv_E.Ok Try.prog := AE.of_ok (all_cons a9v (all_cons u6 (all_cons c9d (all_cons s5 c6)))) (all_cons ⟨e0, U5⟩ (all_cons ⟨e1, a6w⟩ (all_cons ⟨e2, o7⟩ (all_cons ⟨e3, N9⟩ (all_cons ⟨e4, a1g⟩ c6)))))
theorem c24 (hE : p_dring_Inv_E.Ok Try.prog) {g : Ds Q7 → Option (Rs Q7)} (hg : ∀ x r, g x = some r → ∃ N, a9Z N x = some r) : c8 Try.prog 36 ⟨Q7, Q7, g⟩ :=
 i6 (E := p_dring_Inv_E) (H := a52) (L := fun N => b0G N) (c := V0) (ks := Q7) (rs := a73) (F := a9Z) hE mix Try.func36 (by kernel_rfl) (fun N => b74 N) (fun _ _ => by kernel_rfl) hg
noncomputable def p_dring_MulNtt_E : AE := AE.of [(21, ty21), (40, ty40)] [(60, A5)]
noncomputable def b0I : Hints := [(2, [2, 3, 4, 6]), (2000000, [2, 4]), (2000001, [2, 3, 4, 6]), (3000000, [4])]
noncomputable def a5B : Code := (Try.f38).body.getD .skip
noncomputable def b4I : Shape := mkS { tmps := V :: V :: .sc (.ptr 0 0 false) :: .sc (.ptr 1 0 false) :: .sc (.ptr 2 0 false) :: V :: .sc (.int .i64) :: pv 13 [], mem := [.live [.xs b32 (some 256)] (.own), .live [.xs b32 (some 256)] (.own), .live [.xs b32 (some 256)] (.own)] } [.int, .xs, .xs, .xs]
noncomputable def K9 (N : Nat) (β : Type) (x : W4) (kn : W4 → Option β) (ke : W5 → Option β) : Option β :=
 if (x.1 < (256:Int)) then
  if 0 ≤ x.1 then (
  if x.1 < 256 then (
  if (x.1.toNat) < 256 then (
  if 0 ≤ x.1 then (
  if x.1 < 256 then (
  if (x.1.toNat) < 256 then (
  (O0 ((List.getD x.2.1 (x.1.toNat) 0), (List.getD x.2.2.1 (x.1.toNat) 0), ())).bind fun r1 => (
  if 0 ≤ x.1 then (
  if x.1 < 256 then (
  if (x.1.toNat) < 256 then (
  kn ((IntKind.i64.wrap (x.1 + (1:Int))), (List.set x.2.1 (x.1.toNat) r1), x.2.2.1, x.2.2.2.1, ())) else none) else none) else none)) else none) else none) else none) else none) else none) else none
 else
  ke (x.2.1, x.2.2.2.1, ())
noncomputable def b3n : Go' W5 := fun y K => K (.exit 0) (fSt { tmps := V :: V :: .sc (.ptr 0 0 false) :: V :: .sc (.ptr 1 0 false) :: pv 15 [], mem := [.live [.xs b32 (some 256)] (.own), .live [.xs b32 (some 256)] (.own)] } [.xs, .xs] y)
noncomputable def a6B (N : Nat) : LT := upd (LT.nil) 2 (o9 b4I N (K9 N) b3n)
theorem b3o (N : Nat) : OkAll p_dring_MulNtt_E b0I N (a6B N) (x4 a5B) :=
 d7 (c := d8 2 a5B) (OkAll.nil) (by kernel_rfl) (fun x => by kernel_rfl) (fun β x kn ke => by kernel_rfl)
abbrev S2 : List Kd := [.xs b32 256, .xs b32 256]
abbrev S3 : List Kd := [.xs b32 256]
noncomputable def a4G (N : Nat) (x : List Int × List Int × Unit) : Option (List Int) :=
 m9 (K9 N) N ((0:Int), x.1, x.2.1, (List.replicate 256 0), ()) fun y2 => (
 some y2.1)
theorem b6j (e0 : c8 Try.prog 60 A5) : p_dring_MulNtt_E.Ok Try.prog := AE.of_ok (all_cons u6 (all_cons s5 c6)) (all_cons ⟨e0, N9⟩ c6)
theorem b77 (hE : p_dring_MulNtt_E.Ok Try.prog) {g : Ds S2 → Option (Rs S3)} (hg : ∀ x r, g x = some r → ∃ N, a4G N x = some r) : c8 Try.prog 38 ⟨S2, S3, g⟩ :=
 i6 (E := p_dring_MulNtt_E) (H := b0I) (L := fun N => a6B N) (c := a5B) (ks := S2) (rs := S3) (F := a4G) hE mix Try.func38 (by kernel_rfl) (fun N => b3o N) (fun _ _ => by kernel_rfl) hg
noncomputable abbrev a2y : Sig := ⟨[.xs b32 256], [.xs b32 256], a0E⟩
noncomputable abbrev Q2 : Sig := ⟨[.xs b32 256, .xs b32 256], [.xs b32 256], a0c⟩
noncomputable abbrev a2x : Sig := ⟨[.xs b32 256], [.xs b32 256], a4j⟩
noncomputable def p_dring_Mul_E : AE := AE.of [(21, ty21), (40, ty40)] [(32, a2y), (38, Q2), (36, a2x)]
noncomputable def c4X : Hints := [(3000000, [4])]
noncomputable def c4Y : Code := (Try.f54).body.getD .skip
abbrev a1T : List Kd := [.xs b32 256, .xs b32 256]
abbrev a1U : List Kd := [.xs b32 256]
noncomputable def a90 (N : Nat) (x : List Int × List Int × Unit) : Option (List Int) :=
 if (x.1 = (List.replicate 256 0)) then
  some (List.replicate 256 0)
 else
  if (x.2.1 = (List.replicate 256 0)) then
   some (List.replicate 256 0)
  else
   (a0E (x.1, ())).bind fun r1 => (
   (a0E (x.2.1, ())).bind fun r2 => (
   (a0c (r1, r2, ())).bind fun r3 => (
   (a4j (r3, ())).bind fun r4 => (
   some r4))))
theorem c1X (e0 : c8 Try.prog 32 a2y) (e1 : c8 Try.prog 38 Q2) (e2 : c8 Try.prog 36 a2x) : p_dring_Mul_E.Ok Try.prog := AE.of_ok (all_cons u6 (all_cons s5 c6)) (all_cons ⟨e0, a5w⟩ (all_cons ⟨e1, a2E⟩ (all_cons ⟨e2, a5v⟩ c6)))
theorem c27 (hE : p_dring_Mul_E.Ok Try.prog) {g : Ds a1T → Option (Rs a1U)} (hg : ∀ x r, g x = some r → ∃ N, a90 N x = some r) : c8 Try.prog 54 ⟨a1T, a1U, g⟩ :=
 i6 (E := p_dring_Mul_E) (H := c4X) (L := fun N => LT.nil) (c := c4Y) (ks := a1T) (rs := a1U) (F := a90) hE mix Try.func54 (by kernel_rfl) (fun N => OkAll.nil) (fun _ _ => by kernel_rfl) hg
noncomputable def p_dring_centred_E : AE := AE.of [(2, ty2), (21, ty21)] [(45, i8)]
noncomputable def b8l : Hints := [(3000000, [2])]
noncomputable def b8m : Code := (Try.f67).body.getD .skip
abbrev a3x : List Kd := [.int .i32]
abbrev a3y : List Kd := [.int .i32]
noncomputable def a3w (N : Nat) (x : Int × Unit) : Option (Int) :=
 (u3 ((IntKind.i64.wrap x.1), ())).bind fun r1 => (
 if (r1 > (4190208:Int)) then
  some (IntKind.i32.wrap (r1 - (8380417:Int)))
 else
  some r1)
theorem b4P (e0 : c8 Try.prog 45 i8) : p_dring_centred_E.Ok Try.prog := AE.of_ok (all_cons a9v (all_cons u6 c6)) (all_cons ⟨e0, o7⟩ c6)
theorem b6x (hE : p_dring_centred_E.Ok Try.prog) {g : Ds [.int .i32] → Option (Rs [.int .i32])} (hg : ∀ x r, g x = some r → ∃ N, a3w N x = some r) : c8 Try.prog 67 ⟨[.int .i32], [.int .i32], g⟩ :=
 i6 (E := p_dring_centred_E) (H := b8l) (L := fun N => LT.nil) (c := b8m) (ks := a3x) (rs := a3y) (F := a3w) hE mix Try.func67 (by kernel_rfl) (fun N => OkAll.nil) (fun _ _ => by kernel_rfl) hg
noncomputable abbrev a6m : Sig := ⟨[.int .i32], [.int .i32], a3l⟩
noncomputable def p_dring_each__dring_centred_E : AE := AE.of [(21, ty21), (40, ty40)] [(67, a6m)]
noncomputable def Y6 : Hints := [(2, [1, 2, 4, 7, 8]), (2000000, [2, 4]), (2000001, [1, 2, 4, 7, 8]), (3000000, [4])]
noncomputable def H3 : Code := (Try.f57).body.getD .skip
noncomputable def a3U : Shape := mkS { tmps := V :: .sc (.fn 67) :: .sc (.ptr 0 0 false) :: V :: .sc (.ptr 1 0 false) :: V :: V :: .agg [.xs b32 (some 256)] :: .sc (.int .i64) :: pv 10 [], mem := [.live [.xs b32 (some 256)] (.own), .live [.xs b32 (some 256)] (.own)] } [.xs, .int, .xs, .xs]
noncomputable def t6 (N : Nat) (β : Type) (x : W12) (kn : W12 → Option β) (ke : W5 → Option β) : Option β :=
 if (x.2.1 < (256:Int)) then
  if 0 ≤ x.2.1 then (
  if x.2.1 < 256 then (
  if (x.2.1.toNat) < 256 then (
  (a3l ((List.getD x.1 (x.2.1.toNat) 0), ())).bind fun r1 => (
  if 0 ≤ x.2.1 then (
  if x.2.1 < 256 then (
  if (x.2.1.toNat) < 256 then (
  kn (x.1, (IntKind.i64.wrap (x.2.1 + (1:Int))), (List.set x.2.2.1 (x.2.1.toNat) r1), x.2.2.2.1, ())) else none) else none) else none)) else none) else none) else none
 else
  ke (x.2.2.1, x.2.2.2.1, ())
noncomputable def a3A : Go' W5 := fun y K => K (.exit 0) (fSt { tmps := V :: V :: .sc (.ptr 0 0 false) :: V :: .sc (.ptr 1 0 false) :: pv 14 [], mem := [.live [.xs b32 (some 256)] (.own), .live [.xs b32 (some 256)] (.own)] } [.xs, .xs] y)
noncomputable def R1 (N : Nat) : LT := upd (LT.nil) 2 (o9 a3U N (t6 N) a3A)
theorem a3B (N : Nat) : OkAll p_dring_each__dring_centred_E Y6 N (R1 N) (x4 H3) :=
 d7 (c := d8 2 H3) (OkAll.nil) (by kernel_rfl) (fun x => by kernel_rfl) (fun β x kn ke => by kernel_rfl)
abbrev n6 : List Kd := [.xs b32 256, .fnc 67]
abbrev n7 : List Kd := [.xs b32 256]
noncomputable def B1 (N : Nat) (x : List Int × Unit × Unit) : Option (List Int) :=
 m9 (t6 N) N (x.1, (0:Int), x.1, (List.replicate 256 0), ()) fun y2 => (
 some y2.1)
theorem a4s (e0 : c8 Try.prog 67 a6m) : p_dring_each__dring_centred_E.Ok Try.prog := AE.of_ok (all_cons u6 (all_cons s5 c6)) (all_cons ⟨e0, b3k⟩ c6)
theorem a5g (hE : p_dring_each__dring_centred_E.Ok Try.prog) {g : Ds n6 → Option (Rs n7)} (hg : ∀ x r, g x = some r → ∃ N, B1 N x = some r) : c8 Try.prog 57 ⟨n6, n7, g⟩ :=
 i6 (E := p_dring_each__dring_centred_E) (H := Y6) (L := fun N => R1 N) (c := H3) (ks := n6) (rs := n7) (F := B1) hE mix Try.func57 (by kernel_rfl) (fun N => a3B N) (fun _ _ => by kernel_rfl) hg
noncomputable abbrev J9 : Sig := ⟨[.xs b32 256, .fnc 67], [.xs b32 256], A9⟩
noncomputable def p_dring_Center_E : AE := AE.of [(40, ty40)] [(57, J9)]
noncomputable def b9I : Hints := [(3000000, [2])]
noncomputable def b9J : Code := (Try.f50).body.getD .skip
abbrev D8 : List Kd := [.xs b32 256]
abbrev a4m : List Kd := [.xs b32 256]
noncomputable def a4F (N : Nat) (x : List Int × Unit) : Option (List Int) :=
 (A9 (x.1, (), ())).bind fun r1 => (
 some r1)
theorem b6g (e0 : c8 Try.prog 57 J9) : p_dring_Center_E.Ok Try.prog := AE.of_ok (all_cons s5 c6) (all_cons ⟨e0, a1g⟩ c6)
theorem b70 (hE : p_dring_Center_E.Ok Try.prog) {g : Ds D8 → Option (Rs D8)} (hg : ∀ x r, g x = some r → ∃ N, a4F N x = some r) : c8 Try.prog 50 ⟨D8, D8, g⟩ :=
 i6 (E := p_dring_Center_E) (H := b9I) (L := fun N => LT.nil) (c := b9J) (ks := D8) (rs := a4m) (F := a4F) hE mix Try.func50 (by kernel_rfl) (fun N => OkAll.nil) (fun _ _ => by kernel_rfl) hg
noncomputable abbrev a1J : Sig := ⟨[.xs b32 256], [.xs b32 256], a1N⟩
noncomputable def p_dring_Norm_E : AE := AE.of [(21, ty21), (40, ty40)] [(50, a1J)]
noncomputable def b4a : Hints := [(3, [3, 7, 8]), (2000000, [3]), (2000001, [3, 7, 8]), (3000000, [2])]
noncomputable def a74 : Code := (Try.f30).body.getD .skip
noncomputable def b78 : Shape := mkS { tmps := pv 3 (.sc (.int .i32) :: pv 3 (.agg [.xs b32 (some 256)] :: .sc (.int .i64) :: pv 9 [])), mem := [] } [.int, .xs, .int]
abbrev W16 : Type := Int × List Int × Int × Unit
noncomputable def a1n (N : Nat) (β : Type) (x : W16) (kn : W16 → Option β) (ke : ((Int × Unit)) → Option β) : Option β :=
 if (x.2.2.1 < (256:Int)) then
  if 0 ≤ x.2.2.1 then (
  if x.2.2.1 < 256 then (
  if (x.2.2.1.toNat) < 256 then (
  kn ((if (IntKind.i32.wrap (0 - (List.getD x.2.1 (x.2.2.1.toNat) 0))) > (if (List.getD x.2.1 (x.2.2.1.toNat) 0) > x.1 then (List.getD x.2.1 (x.2.2.1.toNat) 0) else x.1) then (IntKind.i32.wrap (0 - (List.getD x.2.1 (x.2.2.1.toNat) 0))) else (if (List.getD x.2.1 (x.2.2.1.toNat) 0) > x.1 then (List.getD x.2.1 (x.2.2.1.toNat) 0) else x.1)), x.2.1, (IntKind.i64.wrap (x.2.2.1 + (1:Int))), ())) else none) else none) else none
 else
  ke (x.1, ())
noncomputable def b6k : Go' ((Int × Unit)) := fun y K => K (.exit 0) (fSt { tmps := pv 3 (.sc (.int .i32) :: pv 14 []), mem := [] } [.int] y)
noncomputable def a8Y (N : Nat) : LT := upd (LT.nil) 3 (o9 b78 N (a1n N) b6k)
theorem b6l (N : Nat) : OkAll p_dring_Norm_E b4a N (a8Y N) (x4 a74) :=
 d7 (c := d8 3 a74) (OkAll.nil) (by kernel_rfl) (fun x => by kernel_rfl) (fun β x kn ke => by kernel_rfl)
abbrev a0P : List Kd := [.xs b32 256]
abbrev a6C : List Kd := [.int .i32]
noncomputable def a7x (N : Nat) (x : List Int × Unit) : Option (Int) :=
 (a1N (x.1, ())).bind fun r1 => (
 m9 (a1n N) N ((0:Int), r1, (0:Int), ()) fun y2 => (
 some y2.1))
theorem b9O (e0 : c8 Try.prog 50 a1J) : p_dring_Norm_E.Ok Try.prog := AE.of_ok (all_cons u6 (all_cons s5 c6)) (all_cons ⟨e0, a6u⟩ c6)
theorem c1Y (hE : p_dring_Norm_E.Ok Try.prog) {g : Ds a0P → Option (Rs [.int .i32])} (hg : ∀ x r, g x = some r → ∃ N, a7x N x = some r) : c8 Try.prog 30 ⟨a0P, [.int .i32], g⟩ :=
 i6 (E := p_dring_Norm_E) (H := b4a) (L := fun N => a8Y N) (c := a74) (ks := a0P) (rs := a6C) (F := a7x) hE mix Try.func30 (by kernel_rfl) (fun N => b6l N) (fun _ _ => by kernel_rfl) hg
noncomputable def p_dring_Add_E : AE := AE.of [(2, ty2), (21, ty21), (40, ty40)] [(45, i8)]
noncomputable def b6d : Hints := [(2, [2, 3, 4, 6]), (2000000, [2, 4]), (2000001, [2, 3, 4, 6]), (3000000, [4])]
noncomputable def a9W : Code := (Try.f21).body.getD .skip
noncomputable def b9G : Shape := mkS { tmps := V :: V :: .sc (.ptr 0 0 false) :: .sc (.ptr 1 0 false) :: .sc (.ptr 2 0 false) :: V :: .sc (.int .i64) :: pv 16 [], mem := [.live [.xs b32 (some 256)] (.own), .live [.xs b32 (some 256)] (.own), .live [.xs b32 (some 256)] (.own)] } [.int, .xs, .xs, .xs]
noncomputable def a2o (N : Nat) (β : Type) (x : W4) (kn : W4 → Option β) (ke : W5 → Option β) : Option β :=
 if (x.1 < (256:Int)) then
  if 0 ≤ x.1 then (
  if x.1 < 256 then (
  if (x.1.toNat) < 256 then (
  if 0 ≤ x.1 then (
  if x.1 < 256 then (
  if (x.1.toNat) < 256 then (
  (u3 ((IntKind.i64.wrap ((IntKind.i64.wrap (List.getD x.2.1 (x.1.toNat) 0)) + (IntKind.i64.wrap (List.getD x.2.2.1 (x.1.toNat) 0)))), ())).bind fun r1 => (
  if 0 ≤ x.1 then (
  if x.1 < 256 then (
  if (x.1.toNat) < 256 then (
  kn ((IntKind.i64.wrap (x.1 + (1:Int))), (List.set x.2.1 (x.1.toNat) r1), x.2.2.1, x.2.2.2.1, ())) else none) else none) else none)) else none) else none) else none) else none) else none) else none
 else
  ke (x.2.1, x.2.2.2.1, ())
noncomputable def b7Y : Go' W5 := fun y K => K (.exit 0) (fSt { tmps := V :: V :: .sc (.ptr 0 0 false) :: V :: .sc (.ptr 1 0 false) :: pv 18 [], mem := [.live [.xs b32 (some 256)] (.own), .live [.xs b32 (some 256)] (.own)] } [.xs, .xs] y)
noncomputable def b0F (N : Nat) : LT := upd (LT.nil) 2 (o9 b9G N (a2o N) b7Y)
theorem b7Z (N : Nat) : OkAll p_dring_Add_E b6d N (b0F N) (x4 a9W) :=
 d7 (c := d8 2 a9W) (OkAll.nil) (by kernel_rfl) (fun x => by kernel_rfl) (fun β x kn ke => by kernel_rfl)
abbrev a1Q : List Kd := [.xs b32 256, .xs b32 256]
abbrev a1R : List Kd := [.xs b32 256]
noncomputable def a9V (N : Nat) (x : List Int × List Int × Unit) : Option (List Int) :=
 m9 (a2o N) N ((0:Int), x.1, x.2.1, (List.replicate 256 0), ()) fun y2 => (
 some y2.1)
theorem c1R (e0 : c8 Try.prog 45 i8) : p_dring_Add_E.Ok Try.prog := AE.of_ok (all_cons a9v (all_cons u6 (all_cons s5 c6))) (all_cons ⟨e0, o7⟩ c6)
theorem c23 (hE : p_dring_Add_E.Ok Try.prog) {g : Ds a1Q → Option (Rs a1R)} (hg : ∀ x r, g x = some r → ∃ N, a9V N x = some r) : c8 Try.prog 21 ⟨a1Q, a1R, g⟩ :=
 i6 (E := p_dring_Add_E) (H := b6d) (L := fun N => b0F N) (c := a9W) (ks := a1Q) (rs := a1R) (F := a9V) hE mix Try.func21 (by kernel_rfl) (fun N => b7Z N) (fun _ _ => by kernel_rfl) hg
noncomputable def p_dring_Sub_E : AE := AE.of [(2, ty2), (21, ty21), (40, ty40)] [(45, i8)]
noncomputable def b6u : Hints := [(2, [2, 3, 4, 6]), (2000000, [2, 4]), (2000001, [2, 3, 4, 6]), (3000000, [4])]
noncomputable def a99 : Code := (Try.f37).body.getD .skip
noncomputable def b9U : Shape := mkS { tmps := V :: V :: .sc (.ptr 0 0 false) :: .sc (.ptr 1 0 false) :: .sc (.ptr 2 0 false) :: V :: .sc (.int .i64) :: pv 16 [], mem := [.live [.xs b32 (some 256)] (.own), .live [.xs b32 (some 256)] (.own), .live [.xs b32 (some 256)] (.own)] } [.int, .xs, .xs, .xs]
noncomputable def a2r (N : Nat) (β : Type) (x : W4) (kn : W4 → Option β) (ke : W5 → Option β) : Option β :=
 if (x.1 < (256:Int)) then
  if 0 ≤ x.1 then (
  if x.1 < 256 then (
  if (x.1.toNat) < 256 then (
  if 0 ≤ x.1 then (
  if x.1 < 256 then (
  if (x.1.toNat) < 256 then (
  (u3 ((IntKind.i64.wrap ((IntKind.i64.wrap (List.getD x.2.1 (x.1.toNat) 0)) - (IntKind.i64.wrap (List.getD x.2.2.1 (x.1.toNat) 0)))), ())).bind fun r1 => (
  if 0 ≤ x.1 then (
  if x.1 < 256 then (
  if (x.1.toNat) < 256 then (
  kn ((IntKind.i64.wrap (x.1 + (1:Int))), (List.set x.2.1 (x.1.toNat) r1), x.2.2.1, x.2.2.2.1, ())) else none) else none) else none)) else none) else none) else none) else none) else none) else none
 else
  ke (x.2.1, x.2.2.2.1, ())
noncomputable def b8h : Go' W5 := fun y K => K (.exit 0) (fSt { tmps := V :: V :: .sc (.ptr 0 0 false) :: V :: .sc (.ptr 1 0 false) :: pv 18 [], mem := [.live [.xs b32 (some 256)] (.own), .live [.xs b32 (some 256)] (.own)] } [.xs, .xs] y)
noncomputable def b0M (N : Nat) : LT := upd (LT.nil) 2 (o9 b9U N (a2r N) b8h)
theorem b8i (N : Nat) : OkAll p_dring_Sub_E b6u N (b0M N) (x4 a99) :=
 d7 (c := d8 2 a99) (OkAll.nil) (by kernel_rfl) (fun x => by kernel_rfl) (fun β x kn ke => by kernel_rfl)
abbrev a1V : List Kd := [.xs b32 256, .xs b32 256]
abbrev a1W : List Kd := [.xs b32 256]
noncomputable def a98 (N : Nat) (x : List Int × List Int × Unit) : Option (List Int) :=
 m9 (a2r N) N ((0:Int), x.1, x.2.1, (List.replicate 256 0), ()) fun y2 => (
 some y2.1)
theorem c11 (e0 : c8 Try.prog 45 i8) : p_dring_Sub_E.Ok Try.prog := AE.of_ok (all_cons a9v (all_cons u6 (all_cons s5 c6))) (all_cons ⟨e0, o7⟩ c6)
theorem c29 (hE : p_dring_Sub_E.Ok Try.prog) {g : Ds a1V → Option (Rs a1W)} (hg : ∀ x r, g x = some r → ∃ N, a98 N x = some r) : c8 Try.prog 37 ⟨a1V, a1W, g⟩ :=
 i6 (E := p_dring_Sub_E) (H := b6u) (L := fun N => b0M N) (c := a99) (ks := a1V) (rs := a1W) (F := a98) hE mix Try.func37 (by kernel_rfl) (fun N => b8i N) (fun _ _ => by kernel_rfl) hg
noncomputable abbrev D4 : Sig := ⟨[.xs b32 256], [.xs b32 256, .xs b32 256], x5⟩
noncomputable abbrev U4 : Sig := ⟨[.xs b32 256, .xs b32 256], [.xs b32 256], Q4⟩
noncomputable def p_dring_MakeHint_E : AE := AE.of [(4, ty4), (21, ty21), (40, ty40), (76, ty76)] [(53, D4), (21, U4)]
noncomputable def a7v : Hints := [(6, [4, 6, 7, 9, 11, 25]), (2000000, [4, 6, 11]), (2000001, [4, 6, 7, 9, 11, 25]), (3000000, [4, 5])]
noncomputable def a3s : Code := (Try.f55).body.getD .skip
noncomputable def b2d : Shape := mkS { tmps := pv 4 (.sc (.ptr 0 0 false) :: V :: .sc (.ptr 1 0 false) :: .sc (.ptr 2 0 false) :: V :: .sc (.ptr 3 0 false) :: V :: .sc (.int .i64) :: pv 13 (.sc (.int .i64) :: pv 19 [])), mem := [.live [.xs .bool (some 256)] (.own), .live [.xs .bool (some 256)] (.own), .live [.xs b32 (some 256)] (.own), .live [.xs b32 (some 256)] (.own)] } [.int, .int, .xs, .xs, .xs, .xs]
abbrev W17 : Type := Int × Int × List Int × List Int × List Int × List Int × Unit
abbrev W18 : Type := Int × List Int × List Int × Unit
noncomputable def O7 (N : Nat) (β : Type) (x : W17) (kn : W17 → Option β) (ke : W18 → Option β) : Option β :=
 if (x.2.1 < (256:Int)) then
  if 0 ≤ x.2.1 then (
  if x.2.1 < 256 then (
  if (x.2.1.toNat) < 256 then (
  if 0 ≤ x.2.1 then (
  if x.2.1 < 256 then (
  if (x.2.1.toNat) < 256 then (
  if 0 ≤ x.2.1 then (
  if x.2.1 < 256 then (
  if (x.2.1.toNat) < 256 then (
  if 0 ≤ x.2.1 then (
  if x.2.1 < 256 then (
  if (x.2.1.toNat) < 256 then (
  if ((List.getD (List.set x.2.2.2.1 (x.2.1.toNat) (if ((List.getD x.2.2.2.2.1 (x.2.1.toNat) 0) ≠ (List.getD x.2.2.2.2.2.1 (x.2.1.toNat) 0)) then (1:Int) else 0)) (x.2.1.toNat) 0) ≠ 0) then
   kn ((IntKind.i64.wrap (x.1 + (1:Int))), (IntKind.i64.wrap (x.2.1 + (1:Int))), x.2.2.1, (List.set x.2.2.2.1 (x.2.1.toNat) (if ((List.getD x.2.2.2.2.1 (x.2.1.toNat) 0) ≠ (List.getD x.2.2.2.2.2.1 (x.2.1.toNat) 0)) then (1:Int) else 0)), x.2.2.2.2.1, x.2.2.2.2.2.1, ())
  else
   kn (x.1, (IntKind.i64.wrap (x.2.1 + (1:Int))), x.2.2.1, (List.set x.2.2.2.1 (x.2.1.toNat) (if ((List.getD x.2.2.2.2.1 (x.2.1.toNat) 0) ≠ (List.getD x.2.2.2.2.2.1 (x.2.1.toNat) 0)) then (1:Int) else 0)), x.2.2.2.2.1, x.2.2.2.2.2.1, ())) else none) else none) else none) else none) else none) else none) else none) else none) else none) else none) else none) else none
 else
  ke (x.1, x.2.2.1, x.2.2.2.1, ())
noncomputable def b02 : Go' W18 := fun y K => K (.exit 0) (fSt { tmps := pv 4 (.sc (.ptr 0 0 false) :: V :: .sc (.ptr 1 0 false) :: pv 4 (.sc (.int .i64) :: pv 33 [])), mem := [.live [.xs .bool (some 256)] (.own), .live [.xs .bool (some 256)] (.own)] } [.int, .xs, .xs] y)
noncomputable def a5b (N : Nat) : LT := upd (LT.nil) 6 (o9 b2d N (O7 N) b02)
theorem b03 (N : Nat) : OkAll p_dring_MakeHint_E a7v N (a5b N) (x4 a3s) :=
 d7 (c := d8 6 a3s) (OkAll.nil) (by kernel_rfl) (fun x => by kernel_rfl) (fun β x kn ke => by kernel_rfl)
abbrev K7 : List Kd := [.xs b32 256, .xs b32 256]
abbrev K8 : List Kd := [.xs .bool 256, .int .i64]
noncomputable def a2p (N : Nat) (x : List Int × List Int × Unit) : Option (List Int × Int) :=
 (x5 (x.2.1, ())).bind fun r1 => (
 (Q4 (x.2.1, x.1, ())).bind fun r2 => (
 (x5 (r2, ())).bind fun r3 => (
 m9 (O7 N) N ((0:Int), (0:Int), (List.replicate 256 0), (List.replicate 256 0), r1.1, r3.1, ()) fun y4 => (
 some (y4.2.2.1, y4.1)))))
theorem b3m (e0 : c8 Try.prog 53 D4) (e1 : c8 Try.prog 21 U4) : p_dring_MakeHint_E.Ok Try.prog := AE.of_ok (all_cons c2R (all_cons u6 (all_cons s5 (all_cons b8X c6)))) (all_cons ⟨e0, a0h⟩ (all_cons ⟨e1, a2l⟩ c6))
theorem b4H (hE : p_dring_MakeHint_E.Ok Try.prog) {g : Ds K7 → Option (Rs K8)} (hg : ∀ x r, g x = some r → ∃ N, a2p N x = some r) : c8 Try.prog 55 ⟨K7, K8, g⟩ :=
 i6 (E := p_dring_MakeHint_E) (H := a7v) (L := fun N => a5b N) (c := a3s) (ks := K7) (rs := K8) (F := a2p) hE mix Try.func55 (by kernel_rfl) (fun N => b03 N) (fun _ _ => by kernel_rfl) hg
noncomputable def p_dring_UseHint_E : AE := AE.of [(4, ty4), (21, ty21), (40, ty40), (76, ty76)] [(53, D4)]
noncomputable def a87 : Hints := [(3, [4, 5, 6, 14, 15]), (2000000, [4, 5]), (2000001, [4, 5, 6, 14, 15]), (2000002, [4, 5, 6, 14, 15]), (3000000, [4])]
noncomputable def a4o : Code := (Try.f39).body.getD .skip
noncomputable def b3A : Shape := mkS { tmps := pv 4 (.sc (.ptr 0 0 false) :: .sc (.ptr 1 0 false) :: .sc (.ptr 2 0 false) :: pv 7 (.agg [.xs .bool (some 256)] :: .sc (.int .i64) :: pv 30 [])), mem := [.live [.xs b32 (some 256)] (.own), .live [.xs b32 (some 256)] (.own), .live [.xs b32 (some 256)] (.own)] } [.xs, .int, .xs, .xs, .xs]
noncomputable def R7 (N : Nat) (β : Type) (x : W6) (kn : W6 → Option β) (ke : W5 → Option β) : Option β :=
 if (x.2.1 < (256:Int)) then
  if 0 ≤ x.2.1 then (
  if x.2.1 < 256 then (
  if (x.2.1.toNat) < 256 then (
  if ((List.getD x.1 (x.2.1.toNat) 0) ≠ 0) then
   if 0 ≤ x.2.1 then (
   if x.2.1 < 256 then (
   if (x.2.1.toNat) < 256 then (
   if ((List.getD x.2.2.2.2.1 (x.2.1.toNat) 0) > (0:Int)) then
    if 0 ≤ x.2.1 then (
    if x.2.1 < 256 then (
    if (x.2.1.toNat) < 256 then (
    if 0 ≤ x.2.1 then (
    if x.2.1 < 256 then (
    if (x.2.1.toNat) < 256 then (
    kn (x.1, (IntKind.i64.wrap (x.2.1 + (1:Int))), x.2.2.1, (List.set x.2.2.2.1 (x.2.1.toNat) (Int.tmod (IntKind.i32.wrap ((List.getD x.2.2.2.1 (x.2.1.toNat) 0) + (1:Int))) (16:Int))), x.2.2.2.2.1, ())) else none) else none) else none) else none) else none) else none
   else
    if ((List.getD x.1 (x.2.1.toNat) 0) ≠ 0) then
     if 0 ≤ x.2.1 then (
     if x.2.1 < 256 then (
     if (x.2.1.toNat) < 256 then (
     if 0 ≤ x.2.1 then (
     if x.2.1 < 256 then (
     if (x.2.1.toNat) < 256 then (
     kn (x.1, (IntKind.i64.wrap (x.2.1 + (1:Int))), x.2.2.1, (List.set x.2.2.2.1 (x.2.1.toNat) (Int.tmod (IntKind.i32.wrap ((IntKind.i32.wrap ((List.getD x.2.2.2.1 (x.2.1.toNat) 0) + (16:Int))) - (1:Int))) (16:Int))), x.2.2.2.2.1, ())) else none) else none) else none) else none) else none) else none
    else
     kn (x.1, (IntKind.i64.wrap (x.2.1 + (1:Int))), x.2.2.1, x.2.2.2.1, x.2.2.2.2.1, ())) else none) else none) else none
  else
   if ((List.getD x.1 (x.2.1.toNat) 0) ≠ 0) then
    if 0 ≤ x.2.1 then (
    if x.2.1 < 256 then (
    if (x.2.1.toNat) < 256 then (
    if 0 ≤ x.2.1 then (
    if x.2.1 < 256 then (
    if (x.2.1.toNat) < 256 then (
    kn (x.1, (IntKind.i64.wrap (x.2.1 + (1:Int))), x.2.2.1, (List.set x.2.2.2.1 (x.2.1.toNat) (Int.tmod (IntKind.i32.wrap ((IntKind.i32.wrap ((List.getD x.2.2.2.1 (x.2.1.toNat) 0) + (16:Int))) - (1:Int))) (16:Int))), x.2.2.2.2.1, ())) else none) else none) else none) else none) else none) else none
   else
    kn (x.1, (IntKind.i64.wrap (x.2.1 + (1:Int))), x.2.2.1, x.2.2.2.1, x.2.2.2.2.1, ())) else none) else none) else none
 else
  ke (x.2.2.1, x.2.2.2.1, ())
noncomputable def b2i : Go' W5 := fun y K => K (.exit 0) (fSt { tmps := pv 4 (.sc (.ptr 0 0 false) :: .sc (.ptr 1 0 false) :: pv 40 []), mem := [.live [.xs b32 (some 256)] (.own), .live [.xs b32 (some 256)] (.own)] } [.xs, .xs] y)
noncomputable def a5O (N : Nat) : LT := upd (LT.nil) 3 (o9 b3A N (R7 N) b2i)
theorem b2j (N : Nat) : OkAll p_dring_UseHint_E a87 N (a5O N) (x4 a4o) :=
 d7 (c := d8 3 a4o) (OkAll.nil) (by kernel_rfl) (fun x => by kernel_rfl) (fun β x kn ke => by kernel_rfl)
abbrev O9 : List Kd := [.xs .bool 256, .xs b32 256]
abbrev P0 : List Kd := [.xs b32 256]
noncomputable def a3v (N : Nat) (x : List Int × List Int × Unit) : Option (List Int) :=
 (x5 (x.2.1, ())).bind fun r1 => (
 m9 (R7 N) N (x.1, (0:Int), (List.replicate 256 0), r1.1, r1.2, ()) fun y2 => (
 some y2.2.1))
theorem b4O (e0 : c8 Try.prog 53 D4) : p_dring_UseHint_E.Ok Try.prog := AE.of_ok (all_cons c2R (all_cons u6 (all_cons s5 (all_cons b8X c6)))) (all_cons ⟨e0, a0h⟩ c6)
theorem b6w (hE : p_dring_UseHint_E.Ok Try.prog) {g : Ds O9 → Option (Rs P0)} (hg : ∀ x r, g x = some r → ∃ N, a3v N x = some r) : c8 Try.prog 39 ⟨O9, P0, g⟩ :=
 i6 (E := p_dring_UseHint_E) (H := a87) (L := fun N => a5O N) (c := a4o) (ks := O9) (rs := P0) (F := a3v) hE mix Try.func39 (by kernel_rfl) (fun N => b2j N) (fun _ _ => by kernel_rfl) hg
end Go.Ax.TryP
set_option linter.unusedVariables false
namespace Go.Ax.TryP
open Go.Proofs
theorem c0y {a : List Int} : a5p [.xs (.int .i32) 256] (a, ()) ↔ E7 256 a := by simp [a5p, w3]
theorem b1P {a : List Int} (h : E7 256 a) (i : Nat) : -2147483648 ≤ a.getD i 0 ∧ a.getD i 0 ≤ 2147483647 := rows.at h (by omega) i
theorem c4F (a : List Int) : rows 0 8380416 256 (o8 a) := rows.range fun i _ => by omega
theorem c4E (a : List Int) (i : Nat) : 0 ≤ (o8 a).getD i 0 ∧ (o8 a).getD i 0 ≤ 8380416 := rows.at (c4F a) (by omega) i
theorem a8N {a : List Int} {i : Nat} (hi : i < 256) : (o8 a).getD i 0 = a.getD i 0 % 8380417 := d6 hi
theorem c5d : ∀ x r, u3 x = some r → ∃ N, a54 N x = some r := by
 refine i0 (ks := a5E) (rs := a5F) fun x hw _ => ⟨0, ?_⟩
 obtain ⟨(z : Int), u⟩ := x
 have h := d5F (a := z) (b := 8380417) (by omega)
 have h1 := Int.emod_nonneg z (show (8380417 : Int) ≠ 0 by omega)
 have h2 := Int.emod_lt_of_pos z (show (0 : Int) < 8380417 by omega)
 unfold a54
 simp only at h ⊢
 split
 ·rename_i hlt
  rw [if_pos hlt] at h
  rw [h, c7 (by omega) (by omega), M9 (by omega) (by omega)]
 ·rename_i hlt
  rw [if_neg hlt] at h
  rw [h, M9 (by omega) (by omega)]
theorem a5V {z : Int} (h1 : -9223372036854775808 ≤ z) (h2 : z ≤ 9223372036854775807) : u3 (z, ()) = some (z % 8380417) :=
 d9 (ks := a5E) (rs := a5F) (x := (z, ())) ⟨u4.2 ⟨h1, h2⟩, trivial⟩ trivial
theorem c0i : ∀ x r, a2m x = some r → ∃ N, a2q N x = some r := by
 refine i0 (ks := a2J) (rs := a2K) fun x hw _ => ⟨0, ?_⟩
 obtain ⟨(z : Int), u⟩ := x
 have hz := t7.1 hw.1
 simp only at hz
 unfold a2q
 simp only
 rw [c7 (by omega) (by omega), a5V (by omega) (by omega)]
 rfl
theorem c7S {z : Int} (h1 : -2147483648 ≤ z) (h2 : z ≤ 2147483647) : a2m (z, ()) = some (z % 8380417) :=
 d9 (ks := a2J) (rs := a2K) (x := (z, ())) ⟨t7.2 ⟨h1, h2⟩, trivial⟩ trivial
theorem a6a : ∀ x r, A0 x = some r → ∃ N, A3 N x = some r := by
 refine i0 (ks := m5) (rs := m6) fun x hw _ => ⟨257, ?_⟩
 obtain ⟨(a : List Int), u, u'⟩ := x
 have ha : E7 256 a := w3.1 hw.1
 have hl := ha.1
 unfold A3
 refine (J2 (s := fun i => (a, (i : Int), part (fun i => a.getD i 0 % 8380417) i a, List.replicate 256 0, ())) (y := (o8 a, List.replicate 256 0, ())) 256 ?_ ?_ 257 (by omega)).trans ?_
 ·intro i hi kn
  have h0 := b1P ha i
  unfold q8
  simp (disch := omega) only [if_pos, c7, Int.toNat_natCast, c7S, Option.bind_some]
  rw [u5 (by omega) rfl, Int.natCast_add]
  rfl
 ·intro kn
  unfold q8
  simp (disch := omega) only [if_neg]
  rw [C3 hl]
  rfl
 ·rfl
theorem c3s : ∀ x r, Q5 x = some r → ∃ N, a4H N x = some r := by
 refine i0 (ks := D9) (rs := a4n) fun x hw _ => ⟨0, ?_⟩
 obtain ⟨(a : List Int), u⟩ := x
 unfold a4H
 have h : A0 (a, (), ()) = some (o8 a) := d9 (ks := m5) (rs := m6) (x := (a, (), ())) ⟨hw.1, trivial, trivial⟩ trivial
 simp only
 rw [h]
 rfl
theorem b5I {a : List Int} (h : E7 256 a) : Q5 (a, ()) = some (o8 a) :=
 d9 (ks := D9) (rs := a4n) (x := (a, ())) (c0y.2 h) trivial
theorem c66 : ∀ x r, a49 x = some r → ∃ N, a7A N x = some r := by
 refine i0 (ks := a0W) (rs := a6G) fun x hw hq => ⟨0, ?_⟩
 obtain ⟨(z : Int), (m : Int), u⟩ := x
 obtain ⟨h1, h2, h3, h4⟩ : 0 ≤ z ∧ z ≤ 8380416 ∧ 0 < m ∧ m ≤ 523776 := hq
 have e1 := Int.emod_nonneg z (show m ≠ 0 by omega)
 have e2 := Int.emod_lt_of_pos z h3
 unfold a7A a9I
 simp only [b0w h1, b0v (show (0 : Int) ≤ m by omega)]
 rw [if_neg (by omega), M9 (x := m / 2) (by omega) (by omega)]
 split
 ·rw [M9 (by omega) (by omega)]
 ·rfl
theorem d13 {z m : Int} (h1 : 0 ≤ z) (h2 : z ≤ 8380416) (h3 : 0 < m) (h4 : m ≤ 523776) : a49 (z, m, ()) = some (a9I z m) :=
 d9 (ks := a0W) (rs := a6G) (x := (z, m, ())) ⟨t7.2 ⟨by omega, by omega⟩, t7.2 ⟨show -2147483648 ≤ m by omega, show m ≤ 2147483647 by omega⟩, trivial⟩ ⟨h1, h2, h3, h4⟩
theorem c1n {z m : Int} (hz : 0 ≤ z) (h3 : 0 < m) : a9I z m ≤ m / 2 ∧ 2 * a9I z m ≥ -m ∧ a9I z m ≤ z ∧ z - a9I z m ≤ z + m := by
 have e1 := Int.emod_nonneg z (show m ≠ 0 by omega)
 have e2 := Int.emod_lt_of_pos z h3
 have e3 : z % m ≤ z := by
  have := Int.mul_ediv_add_emod z m
  have := Int.mul_nonneg (show 0 ≤ m by omega) (Int.ediv_nonneg hz (show 0 ≤ m by omega))
  omega
 unfold a9I
 split <;> omega
theorem c5e : ∀ x r, a5Z x = some r → ∃ N, a56 N x = some r := by
 refine i0 (ks := a5H) (rs := Y7) fun x hw _ => ⟨0, ?_⟩
 obtain ⟨(z : Int), u⟩ := x
 have hz := t7.1 hw.1
 simp only at hz
 have h1 : 0 ≤ z % 8380417 ∧ z % 8380417 ≤ 8380416 := by omega
 have hb := c1n (z := z % 8380417) (m := 523776) (by omega) (by omega)
 unfold a56 fDh fDl d4e
 simp (disch := omega) only [c7, a5V, d13, Option.bind_some, M9]
 generalize a9I (z % 8380417) 523776 = y at hb
 generalize z % 8380417 = x at h1 hb
 rw [b0v (by omega), M9 (x := (x - y) / 523776) (by omega) (by omega)]
 split <;> rfl
theorem d4x {z : Int} (h1 : -2147483648 ≤ z) (h2 : z ≤ 2147483647) : a5Z (z, ()) = some (fDh z, fDl z) :=
 d9 (ks := a5H) (rs := Y7) (x := (z, ())) ⟨t7.2 ⟨h1, h2⟩, trivial⟩ trivial
theorem d45 {x d : Int} (h : 0 ≤ d) (h1 : d ≤ 31) : b9D .i32 x d = x / 2 ^ d.toNat := by
 unfold b9D
 rw [show min d.toNat IntKind.i32.bits = d.toNat by simp [IntKind.bits]; omega]
 exact Int.fdiv_eq_ediv_of_nonneg _ (Int.le_of_lt (Int.pow_pos (by omega)))
theorem b5q : ∀ x r, U8 x = some r → ∃ N, V2 N x = some r := by
 refine i0 (ks := C6) (rs := C7) fun x hw _ => ⟨257, ?_⟩
 obtain ⟨(a : List Int), u⟩ := x
 have ha := c0y.1 hw
 have hl := ha.1
 unfold V2
 have hz : (List.replicate 256 (0 : Int)).length = 256 := List.length_replicate ..
 generalize List.replicate 256 (0 : Int) = Z at hz ⊢
 simp only [b5I ha, Option.bind_some]
 refine (J2 (s := fun i => (o8 a, (i : Int), part (fun i => fPh (a.getD i 0)) i (Z), part (fun i => fPl (a.getD i 0)) i (Z), ())) (y := (o5 fun i => fPh (a.getD i 0), o5 fun i => fPl (a.getD i 0), ())) 256 ?_ ?_ 257 (by omega)).trans ?_
 ·intro i hi kn
  have h0 := c4E a i
  have hb := c1n (z := a.getD i 0 % 8380417) (m := 8192) (by omega) (by omega)
  have hp : ∀ h : Nat → Int, (part h i (Z)).length = 256 := fun h => by rw [b0n (by omega), hz]
  have hp1 := hp (fun i => fPh (a.getD i 0))
  have hp2 := hp (fun i => fPl (a.getD i 0))
  unfold G4
  simp (disch := omega) only [if_pos, c7, Int.toNat_natCast, d13, Option.bind_some, a0K, a8N, M9, d45]
  rw [u5 (h := fun i => fPh (a.getD i 0)) (by omega) (by simp only [fPh, fPl]; rfl), u5 (h := fun i => fPl (a.getD i 0)) (z := a9I (a.getD i 0 % 8380417) 8192) (by omega) rfl, Int.natCast_add]
  rfl
 ·intro kn
  unfold G4
  simp (disch := omega) only [if_neg]
  rw [C3 hz, C3 hz]
  rfl
 ·rfl
theorem b8J : ∀ x r, x5 x = some r → ∃ N, a1m N x = some r := by
 refine i0 (ks := H5) (rs := H6) fun x hw _ => ⟨257, ?_⟩
 obtain ⟨(a : List Int), u⟩ := x
 have ha := c0y.1 hw
 have hl := ha.1
 unfold a1m
 have hz : (List.replicate 256 (0 : Int)).length = 256 := List.length_replicate ..
 generalize List.replicate 256 (0 : Int) = Z at hz ⊢
 refine (J2 (s := fun i => (a, (i : Int), part (fun i => fDh (a.getD i 0)) i (Z), part (fun i => fDl (a.getD i 0)) i (Z), ())) (y := (o5 fun i => fDh (a.getD i 0), o5 fun i => fDl (a.getD i 0), ())) 256 ?_ ?_ 257 (by omega)).trans ?_
 ·intro i hi kn
  have h0 := b1P ha i
  unfold M8
  simp (disch := omega) only [if_pos, c7, Int.toNat_natCast, d4x, Option.bind_some]
  rw [u5 (h := fun i => fDh (a.getD i 0)) (by omega) rfl, u5 (h := fun i => fDl (a.getD i 0)) (by omega) rfl, Int.natCast_add]
  rfl
 ·intro kn
  unfold M8
  simp (disch := omega) only [if_neg]
  rw [C3 hz, C3 hz]
  rfl
 ·rfl
theorem d8o {a : List Int} (h : E7 256 a) : U8 (a, ()) = some (c1o a) :=
 d9 (ks := C6) (rs := C7) (x := (a, ())) (c0y.2 h) trivial
theorem c5W {a : List Int} (h : E7 256 a) : x5 (a, ()) = some (b1M a) :=
 d9 (ks := H5) (rs := H6) (x := (a, ())) (c0y.2 h) trivial
theorem d9h : (List.replicate 256 (0 : Int)).length = 256 := List.length_replicate ..
theorem d94 {n : Nat} {a : List Int} : Kd.wf (.xs .bool n) a ↔ a.length = n ∧ ∀ z ∈ a, z = 0 ∨ z = 1 := by simp [Kd.wf]
theorem c3G {a b : List Int} : a5p [.xs (.int .i32) 256, .xs (.int .i32) 256] (a, b, ()) ↔ E7 256 a ∧ E7 256 b := by simp [a5p, w3]
theorem c6q (z : Int) : -4190208 ≤ a44 z ∧ a44 z ≤ 4190208 := by unfold a44; split <;> omega
theorem c6r (a : List Int) : E7 256 (a1i a) := rows.range fun i _ => by have := c6q (a.getD i 0); omega
theorem a6d {a : List Int} {i : Nat} (hi : i < 256) : (a1i a).getD i 0 = a44 (a.getD i 0) := d6 hi
theorem c2s : ∀ x r, a3l x = some r → ∃ N, a3w N x = some r := by
 refine i0 (ks := a3x) (rs := a3y) fun x hw _ => ⟨0, ?_⟩
 obtain ⟨(z : Int), u⟩ := x
 have hz := t7.1 hw.1
 simp only at hz
 have h1 : 0 ≤ z % 8380417 ∧ z % 8380417 ≤ 8380416 := by omega
 unfold a3w a44
 simp (disch := omega) only [c7, a5V, Option.bind_some, M9]
 split <;> rfl
theorem d0G {z : Int} (h1 : -2147483648 ≤ z) (h2 : z ≤ 2147483647) : a3l (z, ()) = some (a44 z) :=
 d9 (ks := a3x) (rs := a3y) (x := (z, ())) ⟨t7.2 ⟨h1, h2⟩, trivial⟩ trivial
theorem a61 : ∀ x r, A9 x = some r → ∃ N, B1 N x = some r := by
 refine i0 (ks := n6) (rs := n7) fun x hw _ => ⟨257, ?_⟩
 obtain ⟨(a : List Int), u, u'⟩ := x
 have ha : E7 256 a := w3.1 hw.1
 have hl := ha.1
 unfold B1
 refine (J2 (s := fun i => (a, (i : Int), part (fun i => a44 (a.getD i 0)) i a, List.replicate 256 0, ())) (y := (a1i a, List.replicate 256 0, ())) 256 ?_ ?_ 257 (by omega)).trans ?_
 ·intro i hi kn
  have h0 := b1P ha i
  unfold t6
  simp (disch := omega) only [if_pos, c7, Int.toNat_natCast, d0G, Option.bind_some]
  rw [u5 (by omega) rfl, Int.natCast_add]
  rfl
 ·intro kn
  unfold t6
  simp (disch := omega) only [if_neg]
  rw [C3 hl]
  rfl
 ·rfl
theorem c3q : ∀ x r, a1N x = some r → ∃ N, a4F N x = some r := by
 refine i0 (ks := D8) (rs := a4m) fun x hw _ => ⟨0, ?_⟩
 obtain ⟨(a : List Int), u⟩ := x
 unfold a4F
 have h : A9 (a, (), ()) = some (a1i a) := d9 (ks := n6) (rs := n7) (x := (a, (), ())) ⟨hw.1, trivial, trivial⟩ trivial
 simp only
 rw [h]
 rfl
theorem c5V {a : List Int} (h : E7 256 a) : a1N (a, ()) = some (a1i a) :=
 d9 (ks := D8) (rs := a4m) (x := (a, ())) (c0y.2 h) trivial
theorem b7T (a : List Int) : b4B a 0 = 0 := by unfold b4B; rfl
theorem a8W (a : List Int) (n : Nat) : b4B a (n + 1) = if b1Q (a44 (a.getD n 0)) > b4B a n then b1Q (a44 (a.getD n 0)) else b4B a n := by
 unfold b4B
 rw [List.range_succ, List.foldl_append]
 rfl
theorem d7p (a : List Int) (n : Nat) : 0 ≤ b4B a n ∧ b4B a n ≤ 4190208 := by
 induction n with
 | zero => unfold b4B; exact ⟨Int.le_refl 0, (by decide : (0 : Int) ≤ 4190208)⟩
 | succ n ih =>
  rw [a8W]
  have := c6q (a.getD n 0)
  unfold b1Q
  split <;> split <;> omega
theorem c99 {a : List Int} {m : Int} (h0 : 0 ≤ m) {n : Nat} : b4B a n ≤ m ↔ ∀ i, i < n → b1Q (a44 (a.getD i 0)) ≤ m := by
 induction n with
 | zero => exact ⟨fun _ i hi => by omega, fun _ => by unfold b4B; exact h0⟩
 | succ n ih =>
  rw [a8W]
  constructor
  ·intro h i hi
   by_cases e : i = n
   ·subst e; split at h <;> omega
   ·refine ih.1 ?_ i (by omega)
    split at h <;> omega
  ·intro h
   have h1 := ih.2 fun i hi => h i (by omega)
   have h2 := h n (by omega)
   split <;> omega
theorem c63 : ∀ x r, U0 x = some r → ∃ N, a7x N x = some r := by
 refine i0 (ks := a0P) (rs := a6C) fun x hw _ => ⟨257, ?_⟩
 obtain ⟨(a : List Int), u⟩ := x
 have ha := c0y.1 hw
 unfold a7x
 simp only [c5V ha, Option.bind_some]
 refine (i9 (s := fun i => (b4B a i, a1i a, (i : Int), ())) (y := (a0i a, ())) 256 (by rw [b7T]; rfl) ?_ ?_ 257 (by omega)).trans ?_
 ·intro i hi kn
  have hb := d7p a i
  have hc := c6q (a.getD i 0)
  unfold a1n
  simp (disch := omega) only [if_pos, c7, Int.toNat_natCast, a6d, M9]
  rw [a8W, Int.natCast_add]
  unfold b1Q
  congr 2
  split <;> split <;> split <;> (try split) <;> omega
 ·intro kn
  unfold a1n
  simp (disch := omega) only [if_neg]
  rfl
 ·rfl
theorem c0P {a : List Int} (h : E7 256 a) : U0 (a, ()) = some (a0i a) :=
 d9 (ks := a0P) (rs := a6C) (x := (a, ())) (c0y.2 h) trivial
theorem c8I : ∀ x r, Q4 x = some r → ∃ N, a9V N x = some r := by
 refine i0 (ks := a1Q) (rs := a1R) fun x hw _ => ⟨257, ?_⟩
 obtain ⟨(a : List Int), (b : List Int), u⟩ := x
 obtain ⟨ha, hb⟩ := c3G.1 hw
 have hl := ha.1
 unfold a9V
 refine (J2 (s := fun i => ((i : Int), part (fun i => (a.getD i 0 + b.getD i 0) % 8380417) i a, b, List.replicate 256 0, ())) (y := (a1F a b, List.replicate 256 0, ())) 256 ?_ ?_ 257 (by omega)).trans ?_
 ·intro i hi kn
  have h0 := b1P ha i
  have h1 := b1P hb i
  unfold a2o
  simp (disch := omega) only [if_pos, c7, Int.toNat_natCast, a4O, a5V, Option.bind_some]
  rw [u5 (by omega) rfl, Int.natCast_add]
  rfl
 ·intro kn
  unfold a2o
  simp (disch := omega) only [if_neg]
  rw [C3 hl]
  rfl
 ·rfl
theorem c8M : ∀ x r, a0F x = some r → ∃ N, a98 N x = some r := by
 refine i0 (ks := a1V) (rs := a1W) fun x hw _ => ⟨257, ?_⟩
 obtain ⟨(a : List Int), (b : List Int), u⟩ := x
 obtain ⟨ha, hb⟩ := c3G.1 hw
 have hl := ha.1
 unfold a98
 refine (J2 (s := fun i => ((i : Int), part (fun i => (a.getD i 0 - b.getD i 0) % 8380417) i a, b, List.replicate 256 0, ())) (y := (a46 a b, List.replicate 256 0, ())) 256 ?_ ?_ 257 (by omega)).trans ?_
 ·intro i hi kn
  have h0 := b1P ha i
  have h1 := b1P hb i
  unfold a2r
  simp (disch := omega) only [if_pos, c7, Int.toNat_natCast, a4O, a5V, Option.bind_some]
  rw [u5 (by omega) rfl, Int.natCast_add]
  rfl
 ·intro kn
  unfold a2r
  simp (disch := omega) only [if_neg]
  rw [C3 hl]
  rfl
 ·rfl
theorem b1L (a b : List Int) : E7 256 (a1F a b) := rows.range fun i _ => by omega
theorem c1m (a b : List Int) : E7 256 (a46 a b) := rows.range fun i _ => by omega
theorem c3Q {a b : List Int} {i : Nat} (hi : i < 256) : (a1F a b).getD i 0 = (a.getD i 0 + b.getD i 0) % 8380417 := d6 hi
theorem c5U {a b : List Int} (h : E7 256 a) (h' : E7 256 b) : Q4 (a, b, ()) = some (a1F a b) :=
 d9 (ks := a1Q) (rs := a1R) (x := (a, b, ())) (c3G.2 ⟨h, h'⟩) trivial
theorem c6f (h : Nat → Int) : c71 h 0 = 0 := by unfold c71; rfl
theorem c01 (h : Nat → Int) (n : Nat) : c71 h (n + 1) = if h n ≠ 0 then c71 h n + 1 else c71 h n := by
 unfold c71
 rw [List.range_succ, List.foldl_append]
 rfl
theorem d57 (h : Nat → Int) (n : Nat) : 0 ≤ c71 h n ∧ c71 h n ≤ n := by
 induction n with
 | zero => unfold c71; exact ⟨Int.le_refl 0, Int.le_refl 0⟩
 | succ n ih =>
  rw [c01]
  split <;> omega
theorem d2Q (z r : List Int) (i : Nat) : a2U z r i = 0 ∨ a2U z r i = 1 := by unfold a2U; split <;> simp
theorem c0g : ∀ x r, X9 x = some r → ∃ N, a2p N x = some r := by
 refine i0 (ks := K7) (rs := K8) fun x hw _ => ⟨257, ?_⟩
 obtain ⟨(z : List Int), (r : List Int), u⟩ := x
 obtain ⟨hz, hr⟩ := c3G.1 hw
 unfold a2p
 simp only [c5W hr, c5U hr hz, c5W (b1L r z), Option.bind_some]
 have hZ := d9h
 generalize List.replicate 256 (0 : Int) = Z at hZ ⊢
 refine (i9 (s := fun i => (c71 (a2U z r) i, (i : Int), Z, part (a2U z r) i Z, (b1M r).1, (b1M (a1F r z)).1, ())) (y := (c71 (a2U z r) 256, Z, o5 (a2U z r), ())) 256 (by rw [c6f]; rfl) ?_ ?_ 257 (by omega)).trans ?_
 ·intro i hi kn
  have hb := d57 (a2U z r) i
  have g1 : (i : Int) < 256 := by omega
  have g0 : (0 : Int) ≤ i := by omega
  have e1 : (b1M r).1.getD i 0 = fDh (r.getD i 0) := by rw [show (b1M r).1 = o5 fun i => fDh (r.getD i 0) from rfl, d6 hi]
  have e2 : (b1M (a1F r z)).1.getD i 0 = fDh ((r.getD i 0 + z.getD i 0) % 8380417) := by
   rw [show (b1M (a1F r z)).1 = o5 fun i => fDh ((a1F r z).getD i 0) from rfl, d6 hi, c3Q hi]
  have hpl : (part (a2U z r) i Z).length = 256 := by rw [b0n (by omega), hZ]
  have e3 : (part (a2U z r) i Z).set i (if fDh (r.getD i 0) ≠ fDh ((r.getD i 0 + z.getD i 0) % 8380417) then (1 : Int) else 0) = part (a2U z r) (i + 1) Z := u5 (by omega) rfl
  have e4 : (part (a2U z r) (i + 1) Z).getD i 0 = a2U z r i := b9c (by omega)
  unfold O7
  simp only [g1, g0, hi, if_true, Int.toNat_natCast, e1, e2, e3, e4]
  simp (disch := omega) only [c7]
  rw [c01, Int.natCast_add]
  split <;> rfl
 ·intro kn
  unfold O7
  simp (disch := omega) only [if_neg]
  rw [C3 hZ]
  rfl
 ·rfl
theorem d9G {h r : List Int} : a5p [.xs .bool 256, .xs (.int .i32) 256] (h, r, ()) ↔ (h.length = 256 ∧ ∀ z ∈ h, z = 0 ∨ z = 1) ∧ E7 256 r := by simp only [a5p, w3, d94, and_true]
theorem d2F (z : Int) : 0 ≤ fDh z ∧ fDh z ≤ 15 := by
 unfold fDh d4e a9I
 split <;> split at * <;> omega
theorem d8G (z : Int) : -261888 ≤ fDl z ∧ fDl z ≤ 261888 := by
 unfold fDl d4e a9I
 split <;> split at * <;> omega
theorem c2r : ∀ x r, a0G x = some r → ∃ N, a3v N x = some r := by
 refine i0 (ks := O9) (rs := P0) fun x hw _ => ⟨257, ?_⟩
 obtain ⟨(h : List Int), (r : List Int), u⟩ := x
 obtain ⟨hh, hr⟩ := d9G.1 hw
 unfold a3v
 simp only [c5W hr, Option.bind_some]
 have hlen : (b1M r).1.length = 256 := a1M _
 refine (J2 (s := fun i => (h, (i : Int), List.replicate 256 0, part (fun i => b33 (h.getD i 0) (r.getD i 0)) i (b1M r).1, (b1M r).2, ())) (y := (List.replicate 256 0, d6c h r, ())) 256 ?_ ?_ 257 (by omega)).trans ?_
 ·intro i hi kn
  have g1 : (i : Int) < 256 := by omega
  have g0 : (0 : Int) ≤ i := by omega
  have e1 : (b1M r).1.getD i 0 = fDh (r.getD i 0) := by rw [show (b1M r).1 = o5 fun i => fDh (r.getD i 0) from rfl, d6 hi]
  have e2 : (b1M r).2.getD i 0 = fDl (r.getD i 0) := by rw [show (b1M r).2 = o5 fun i => fDl (r.getD i 0) from rfl, d6 hi]
  have hb := d2F (r.getD i 0)
  have hpl : (part (fun i => b33 (h.getD i 0) (r.getD i 0)) i (b1M r).1).length = 256 := by rw [b0n (by omega)]; exact hlen
  unfold R7
  simp only [g1, g0, hi, if_true, Int.toNat_natCast, a4O, e1, e2]
  simp (disch := omega) only [c7, M9, b0w]
  by_cases hz : h.getD i 0 = 0
  ·have e5 : part (fun i => b33 (h.getD i 0) (r.getD i 0)) (i + 1) (b1M r).1 = part (fun i => b33 (h.getD i 0) (r.getD i 0)) i (b1M r).1 := by
    rw [← u5 (h := fun i => b33 (h.getD i 0) (r.getD i 0)) (z := fDh (r.getD i 0)) (by omega) (by unfold b33; rw [hz]; rfl)]
    refine rows.ext (n := 256) (by rw [List.length_set, hpl]) hpl fun j hj => ?_
    by_cases hji : i = j
    ·subst hji; rw [a0K (by omega), a4O, e1]
    ·rw [getD_set_ne hji]
   simp only [hz, ne_eq, not_true_eq_false, if_false]
   rw [e5, Int.natCast_add]
   rfl
  ·simp only [hz, ne_eq, not_false_eq_true, if_true]
   split
   ·rename_i hgt
    rw [u5 (h := fun i => b33 (h.getD i 0) (r.getD i 0)) (by omega) (by unfold b33; rw [if_pos hz, if_pos hgt]), Int.natCast_add]
    rfl
   ·rename_i hgt
    rw [u5 (h := fun i => b33 (h.getD i 0) (r.getD i 0)) (by omega) (by unfold b33; rw [if_pos hz, if_neg hgt]; congr 1; omega), Int.natCast_add]
    rfl
 ·intro kn
  unfold R7
  simp (disch := omega) only [if_neg]
  rw [C3 hlen]
  rfl
 ·rfl
theorem d8p {h r : List Int} (hh : h.length = 256 ∧ ∀ z ∈ h, z = 0 ∨ z = 1) (hr : E7 256 r) : a0G (h, r, ()) = some (d6c h r) :=
 d9 (ks := O9) (rs := P0) (x := (h, r, ())) (d9G.2 ⟨hh, hr⟩) trivial
theorem d6E {z r : List Int} (hz : E7 256 z) (hr : E7 256 r) : X9 (z, r, ()) = some (d00 z r) :=
 d9 (ks := K7) (rs := K8) (x := (z, r, ())) (c3G.2 ⟨hz, hr⟩) trivial
theorem d7d (z r : List Int) : (d00 z r).1.length = 256 ∧ ∀ y ∈ (d00 z r).1, y = 0 ∨ y = 1 := by
 refine ⟨a1M _, fun y hy => ?_⟩
 obtain ⟨i, _, rfl⟩ := List.mem_map.1 hy
 exact d2Q z r i
theorem d8J (z : Int) : -4095 ≤ fPl z ∧ fPl z ≤ 4096 := by unfold fPl a9I; split <;> omega
theorem d69 (z : Int) : 0 ≤ fPh z ∧ fPh z ≤ 1023 := by unfold fPh fPl a9I; split <;> omega
theorem d8I (z : Int) : fPh z * 8192 + fPl z - z % 8380417 = 0 := by unfold fPh fPl a9I; split <;> omega
theorem d5b {r z : Int} (hz : -261888 ≤ a44 z ∧ a44 z ≤ 261888) : b33 (if fDh r ≠ fDh ((r + z) % 8380417) then 1 else 0) r = fDh ((r + z) % 8380417) := by
 have hy : ((r + z) % 8380417 = r % 8380417 + a44 z) ∨ ((r + z) % 8380417 = r % 8380417 + a44 z - 8380417) ∨ ((r + z) % 8380417 = r % 8380417 + a44 z + 8380417) := by
  unfold a44 at *
  split <;> omega
 have hm : ((r + z) % 8380417) % 8380417 = (r + z) % 8380417 := by omega
 have hR : 0 ≤ r % 8380417 ∧ r % 8380417 < 8380417 := by omega
 have hY : 0 ≤ (r + z) % 8380417 ∧ (r + z) % 8380417 < 8380417 := by omega
 unfold b33
 by_cases he : fDh r = fDh ((r + z) % 8380417)
 ·simp [he]
 ·simp only [he, ne_eq, not_false_eq_true, if_true]
  rw [if_pos (by omega)]
  unfold fDh fDl d4e a9I at *
  rw [hm] at *
  generalize r % 8380417 = R at *
  generalize (r + z) % 8380417 = Y at *
  generalize a44 z = c at *
  split at * <;> split at * <;> split at * <;> split at * <;> (try split at *) <;> omega
end Go.Ax.TryP
set_option linter.unusedVariables false
namespace Go.Ax.TryP
open Go.Proofs
theorem A6 {h h' : Nat → Int} (e : ∀ i, i < 256 → h i = h' i) : o5 h = o5 h' := List.map_congr_left fun i hi => e i (List.mem_range.1 hi)
theorem c6k {h h' : Nat → Int} {j : Nat} {v : Int} (hj : h' j = v) (e : ∀ i, i < 256 → i ≠ j → h' i = h i) : (o5 h).set j v = o5 h' := by
 apply List.ext_getElem?
 intro i
 rw [List.getElem?_set]
 by_cases hij : j = i
 ·subst hij
  simp only [if_true]
  by_cases hl : j < 256
  ·simp [o5, hl, hj]
  ·simp [o5, hl]
 ·rw [if_neg hij]
  by_cases hl : i < 256
  ·simp [o5, hl, e i hl (Ne.symm hij)]
  ·simp [o5, hl]
theorem a1f {a : List Int} (h : a.length = 256) : o5 (fun i => a.getD i 0) = a := by
 apply List.ext_getElem?
 intro i
 by_cases hl : i < 256
 ·simp [o5, hl, List.getD_eq_getElem?_getD, List.getElem?_eq_getElem (show i < a.length by omega)]
 ·simp [o5, hl, List.getElem?_eq_none (show a.length ≤ i by omega)]
def dred (a : List Int) : Prop := a.length = 256 ∧ ∀ i, 0 ≤ a.getD i 0 ∧ a.getD i 0 < 8380417
theorem b1C (a : List Int) : dred (o8 a) := ⟨(c4F a).1, fun i => by have := c4E a i; omega⟩
theorem a3h {h : Nat → Int} (hh : ∀ i, i < 256 → 0 ≤ h i ∧ h i < 8380417) : dred (o5 h) := by
 refine ⟨by simp [o5], fun i => ?_⟩
 by_cases hi : i < 256
 ·rw [d6 hi]; exact hh i hi
 ·rw [List.getD_eq_getElem?_getD, List.getElem?_eq_none (by simp [o5]; omega)]; simp
theorem dred.i32 {a : List Int} (h : dred a) : E7 256 a := by
 refine ⟨h.1, fun z hz => ?_⟩
 obtain ⟨i, hi, rfl⟩ := List.getElem_of_mem hz
 have := h.2 i
 rw [List.getD_eq_getElem?_getD, List.getElem?_eq_getElem hi] at this
 simp only [Option.getD_some] at this
 omega
theorem c75 (s : Nat) (a : List Int) (j : Nat) : 0 ≤ b7F s a j ∧ b7F s a j < 8380417 := by unfold b7F; split <;> omega
theorem c77 (s : Nat) (a : List Int) : dred (a4e s a) := by exact a3h fun i _ => c75 s a i
theorem c9O {s m b r : Nat} (hm : s * m = 128) (hs : 0 < s) (hr : r < s) (a : List Int) : b7F s a (2 * s * b + r) = (a.getD (2 * s * b + r) 0 + w7 (m + b) * a.getD (2 * s * b + r + s) 0 % 8380417) % 8380417 := by
 have e1 : (2 * s * b + r) % (2 * s) = r := by rw [Nat.mul_add_mod]; exact Nat.mod_eq_of_lt (by omega)
 have e2 : (2 * s * b + r) / (2 * s) = b := by rw [Nat.mul_add_div (by omega), Nat.div_eq_of_lt (by omega), Nat.add_zero]
 have e3 : 128 / s = m := by rw [← hm, Nat.mul_div_cancel_left _ hs]
 unfold b7F
 rw [e1, e2, e3, if_pos hr]
theorem c9N {s m b r : Nat} (hm : s * m = 128) (hs : 0 < s) (hr : r < s) (a : List Int) : b7F s a (2 * s * b + r + s) = (a.getD (2 * s * b + r) 0 - w7 (m + b) * a.getD (2 * s * b + r + s) 0 % 8380417) % 8380417 := by
 have e1 : (2 * s * b + r + s) % (2 * s) = r + s := by rw [Nat.add_assoc, Nat.mul_add_mod]; exact Nat.mod_eq_of_lt (by omega)
 have e2 : (2 * s * b + r + s) / (2 * s) = b := by rw [Nat.add_assoc, Nat.mul_add_div (by omega), Nat.div_eq_of_lt (by omega), Nat.add_zero]
 have e3 : 128 / s = m := by rw [← hm, Nat.mul_div_cancel_left _ hs]
 unfold b7F
 rw [e1, e2, e3, if_neg (by omega), Nat.add_sub_cancel]
theorem c73 (s : Nat) (a : List Int) (j : Nat) : 0 ≤ b7D s a j ∧ b7D s a j < 8380417 := by unfold b7D; split <;> omega
theorem c76 (s : Nat) (a : List Int) : dred (a4d s a) := a3h fun i _ => c73 s a i
theorem c1d (a : List Int) : ∀ i, dred (a2D a i)
 | 0 => b1C a
 | _ + 1 => c76 _ _
theorem c9L {s b r : Nat} (hs : 0 < s) (hr : r < s) (a : List Int) : b7D s a (2 * s * b + r) = (a.getD (2 * s * b + r) 0 + a.getD (2 * s * b + r + s) 0) % 8380417 := by
 have e1 : (2 * s * b + r) % (2 * s) = r := by rw [Nat.mul_add_mod]; exact Nat.mod_eq_of_lt (by omega)
 unfold b7D
 rw [e1, if_pos hr]
theorem c9K {s m b r : Nat} (hm : s * m = 128) (hs : 0 < s) (hr : r < s) (a : List Int) : b7D s a (2 * s * b + r + s) = w7 (2 * m - 1 - b) * (a.getD (2 * s * b + r + s) 0 - a.getD (2 * s * b + r) 0) % 8380417 := by
 have e1 : (2 * s * b + r + s) % (2 * s) = r + s := by rw [Nat.add_assoc, Nat.mul_add_mod]; exact Nat.mod_eq_of_lt (by omega)
 have e2 : (2 * s * b + r + s) / (2 * s) = b := by rw [Nat.add_assoc, Nat.mul_add_div (by omega), Nat.div_eq_of_lt (by omega), Nat.add_zero]
 have e3 : 128 / s = m := by rw [← hm, Nat.mul_div_cancel_left _ hs]
 unfold b7D
 rw [e1, e2, e3, if_neg (by omega), Nat.add_sub_cancel]
def dcg (x y : Int) : Prop := ∃ k : Int, x = y + 8380417 * k
theorem dcg.refl (x : Int) : dcg x x := ⟨0, by omega⟩
theorem dcg.of_eq {x y : Int} (h : x = y) : dcg x y := by subst h; exact dcg.refl _
theorem dcg.symm {x y : Int} (h : dcg x y) : dcg y x := by obtain ⟨k, h⟩ := h; exact ⟨-k, by omega⟩
theorem dcg.trans {x y z : Int} (h : dcg x y) (g : dcg y z) : dcg x z := by obtain ⟨k, h⟩ := h; obtain ⟨l, g⟩ := g; exact ⟨k + l, by omega⟩
theorem dcg.add {x y z w : Int} (h : dcg x y) (g : dcg z w) : dcg (x + z) (y + w) := by obtain ⟨k, h⟩ := h; obtain ⟨l, g⟩ := g; exact ⟨k + l, by omega⟩
theorem dcg.sub {x y z w : Int} (h : dcg x y) (g : dcg z w) : dcg (x - z) (y - w) := by obtain ⟨k, h⟩ := h; obtain ⟨l, g⟩ := g; exact ⟨k - l, by omega⟩
theorem dcg.mul {x y z w : Int} (h : dcg x y) (g : dcg z w) : dcg (x * z) (y * w) := by
 obtain ⟨k, h⟩ := h; obtain ⟨l, g⟩ := g
 exact ⟨y * l + k * w + 8380417 * (k * l), by subst h; subst g; grind⟩
theorem dcg.mod (x : Int) : dcg (x % 8380417) x := ⟨-(x / 8380417), by omega⟩
theorem dcg.eq {x y : Int} (h : dcg x y) (hx : 0 ≤ x ∧ x < 8380417) (hy : 0 ≤ y ∧ y < 8380417) : x = y := by obtain ⟨k, h⟩ := h; omega
theorem dcg.emod {x y : Int} (h : dcg x y) : x % 8380417 = y % 8380417 := by obtain ⟨k, h⟩ := h; omega
theorem b5R {s m : Nat} (hm : s * m = 128) (hs : 0 < s) {j : Nat} (hj : j < 256) : ∃ b r, b < m ∧ r < s ∧ (j = 2 * s * b + r ∨ j = 2 * s * b + r + s) := by
 have h1 := Nat.div_add_mod j (2 * s)
 have h2 := Nat.mod_lt j (show 2 * s > 0 by omega)
 have hall : 2 * s * m = 256 := by rw [Nat.mul_assoc, hm]
 have hb : j / (2 * s) < m := by rw [Nat.div_lt_iff_lt_mul (by omega), Nat.mul_comm, hall]; exact hj
 by_cases hr : j % (2 * s) < s
 ·exact ⟨_, _, hb, hr, .inl h1.symm⟩
 ·exact ⟨j / (2 * s), j % (2 * s) - s, hb, by omega, .inr (by omega)⟩
theorem a4Z {s m b r : Nat} (hm : s * m = 128) (hb : b < m) (hr : r < s) : 2 * s * b + r + s < 256 := by
 have h1 : s * (b + 1) ≤ s * m := Nat.mul_le_mul_left _ (by omega)
 rw [hm, Nat.mul_add] at h1
 rw [Nat.mul_assoc]
 omega
def dlin (c d : Int) (x y z : List Int) : Prop := ∀ i, i < 256 → dcg (z.getD i 0) (c * x.getD i 0 + d * y.getD i 0)
theorem c1b {s m b r : Nat} (hm : s * m = 128) (hs : 0 < s) (hb : b < m) (hr : r < s) (a : List Int) :
  dcg ((a4e s a).getD (2 * s * b + r) 0) (a.getD (2 * s * b + r) 0 + w7 (m + b) * a.getD (2 * s * b + r + s) 0) := by
 have hl := a4Z hm hb hr
 rw [a4e, d6 (by omega), c9O hm hs hr]
 exact (dcg.mod _).trans ((dcg.refl _).add (dcg.mod _))
theorem c1a {s m b r : Nat} (hm : s * m = 128) (hs : 0 < s) (hb : b < m) (hr : r < s) (a : List Int) :
  dcg ((a4e s a).getD (2 * s * b + r + s) 0) (a.getD (2 * s * b + r) 0 - w7 (m + b) * a.getD (2 * s * b + r + s) 0) := by
 have hl := a4Z hm hb hr
 rw [a4e, d6 (by omega), c9N hm hs hr]
 exact (dcg.mod _).trans ((dcg.refl _).sub (dcg.mod _))
theorem c3P {s m b r : Nat} (hm : s * m = 128) (hs : 0 < s) (hb : b < m) (hr : r < s) (a : List Int) :
  dcg ((a4d s a).getD (2 * s * b + r) 0) (a.getD (2 * s * b + r) 0 + a.getD (2 * s * b + r + s) 0) := by
 have hl := a4Z hm hb hr
 rw [a4d, d6 (by omega), c9L hs hr]
 exact dcg.mod _
theorem c3O {s m b r : Nat} (hm : s * m = 128) (hs : 0 < s) (hb : b < m) (hr : r < s) (a : List Int) :
  dcg ((a4d s a).getD (2 * s * b + r + s) 0) (w7 (2 * m - 1 - b) * (a.getD (2 * s * b + r + s) 0 - a.getD (2 * s * b + r) 0)) := by
 have hl := a4Z hm hb hr
 rw [a4d, d6 (by omega), c9K hm hs hr]
 exact dcg.mod _
theorem d2z {s m : Nat} (hm : s * m = 128) (hs : 0 < s) {c d : Int} {x y z : List Int} (h : dlin c d x y z) : dlin c d (a4e s x) (a4e s y) (a4e s z) := by
 intro i hi
 obtain ⟨b, r, hb, hr, hj | hj⟩ := b5R hm hs hi
 ·subst hj
  have hl := a4Z hm hb hr
  have h1 := h (2 * s * b + r) (by omega)
  have h2 := h (2 * s * b + r + s) (by omega)
  refine (c1b hm hs hb hr z).trans ((h1.add ((dcg.refl _).mul h2)).trans (dcg.symm ?_))
  refine (((dcg.refl c).mul (c1b hm hs hb hr x)).add ((dcg.refl d).mul (c1b hm hs hb hr y))).trans (dcg.of_eq ?_)
  grind
 ·subst hj
  have hl := a4Z hm hb hr
  have h1 := h (2 * s * b + r) (by omega)
  have h2 := h (2 * s * b + r + s) (by omega)
  refine (c1a hm hs hb hr z).trans ((h1.sub ((dcg.refl _).mul h2)).trans (dcg.symm ?_))
  refine (((dcg.refl c).mul (c1a hm hs hb hr x)).add ((dcg.refl d).mul (c1a hm hs hb hr y))).trans (dcg.of_eq ?_)
  grind
theorem d62 {s m : Nat} (hm : s * m = 128) (hs : 0 < s) {c d : Int} {x y z : List Int} (h : dlin c d x y z) : dlin c d (a4d s x) (a4d s y) (a4d s z) := by
 intro i hi
 obtain ⟨b, r, hb, hr, hj | hj⟩ := b5R hm hs hi
 ·subst hj
  have hl := a4Z hm hb hr
  have h1 := h (2 * s * b + r) (by omega)
  have h2 := h (2 * s * b + r + s) (by omega)
  refine (c3P hm hs hb hr z).trans ((h1.add h2).trans (dcg.symm ?_))
  refine (((dcg.refl c).mul (c3P hm hs hb hr x)).add ((dcg.refl d).mul (c3P hm hs hb hr y))).trans (dcg.of_eq ?_)
  grind
 ·subst hj
  have hl := a4Z hm hb hr
  have h1 := h (2 * s * b + r) (by omega)
  have h2 := h (2 * s * b + r + s) (by omega)
  refine (c3O hm hs hb hr z).trans (((dcg.refl _).mul (h2.sub h1)).trans (dcg.symm ?_))
  refine (((dcg.refl c).mul (c3O hm hs hb hr x)).add ((dcg.refl d).mul (c3O hm hs hb hr y))).trans (dcg.of_eq ?_)
  grind
theorem c79 : (List.range 8).all (fun t => (List.range (2 ^ t)).all fun b => w7 (2 * 2 ^ t - 1 - b) * w7 (2 ^ t + b) % 8380417 == 8380416) = true := by decide +kernel
theorem b7J {t b : Nat} (ht : t < 8) (hb : b < 2 ^ t) : dcg (w7 (2 * 2 ^ t - 1 - b) * w7 (2 ^ t + b)) (-1) := by
 have h1 := List.all_eq_true.1 c79 t (List.mem_range.2 ht)
 have h2 := List.all_eq_true.1 h1 b (List.mem_range.2 hb)
 have h3 := eq_of_beq h2
 exact ⟨(w7 (2 * 2 ^ t - 1 - b) * w7 (2 ^ t + b)) / 8380417 + 1, by omega⟩
theorem d8A {s t : Nat} (ht : t < 8) (hm : s * 2 ^ t = 128) (hs : 0 < s) (x : List Int) : dlin 2 0 x x (a4d s (a4e s x)) := by
 intro i hi
 obtain ⟨b, r, hb, hr, hj | hj⟩ := b5R hm hs hi
 ·subst hj
  refine (c3P hm hs hb hr _).trans (((c1b hm hs hb hr x).add (c1a hm hs hb hr x)).trans (dcg.of_eq ?_))
  grind
 ·subst hj
  refine (c3O hm hs hb hr _).trans (((dcg.refl _).mul ((c1a hm hs hb hr x).sub (c1b hm hs hb hr x))).trans ?_)
  have hz := (b7J ht hb).mul (dcg.refl (-2 * x.getD (2 * s * b + r + s) 0))
  refine (dcg.of_eq ?_).trans (hz.trans (dcg.of_eq ?_)) <;> grind
theorem d8B {s t : Nat} (ht : t < 8) (hm : s * 2 ^ t = 128) (hs : 0 < s) (x : List Int) : dlin 2 0 x x (a4e s (a4d s x)) := by
 intro i hi
 obtain ⟨b, r, hb, hr, hj | hj⟩ := b5R hm hs hi
 ·subst hj
  refine (c1b hm hs hb hr _).trans (((c3P hm hs hb hr x).add ((dcg.refl _).mul (c3O hm hs hb hr x))).trans ?_)
  have hz := (b7J ht hb).mul (dcg.refl (x.getD (2 * s * b + r + s) 0 - x.getD (2 * s * b + r) 0))
  refine (dcg.of_eq ?_).trans (((dcg.refl (x.getD (2 * s * b + r) 0 + x.getD (2 * s * b + r + s) 0)).add hz).trans (dcg.of_eq ?_)) <;> grind
 ·subst hj
  refine (c1a hm hs hb hr _).trans (((c3P hm hs hb hr x).sub ((dcg.refl _).mul (c3O hm hs hb hr x))).trans ?_)
  have hz := (b7J ht hb).mul (dcg.refl (x.getD (2 * s * b + r + s) 0 - x.getD (2 * s * b + r) 0))
  refine (dcg.of_eq ?_).trans (((dcg.refl (x.getD (2 * s * b + r) 0 + x.getD (2 * s * b + r + s) 0)).sub hz).trans (dcg.of_eq ?_)) <;> grind
theorem c1e (a : List Int) : ∀ i, dred (K4 a i)
 | 0 => b1C a
 | _ + 1 => c77 _ _
theorem a3g (a : List Int) : j9 a = K4 a 8 := rfl
def c4B (i : Nat) : Int := 1753 ^ (2 * d5q i + 1) % 8380417
theorem dlin.trans1 {c d : Int} {x y z : List Int} (h : dlin c 0 y y z) (g : dlin d 0 x x y) : dlin (c * d) 0 x x z := by
 intro i hi
 refine (h i hi).trans ((((dcg.refl c).mul (g i hi)).add (dcg.refl _)).trans (dcg.of_eq ?_))
 grind
theorem a5X : ∀ t, t < 8 → (128 / 2 ^ t) * 2 ^ t = 128 ∧ 0 < 128 / 2 ^ t ∧ 2 ^ (7 - t) = 128 / 2 ^ t := by decide
theorem c9Q {a b : List Int} (ha : dred a) (hb : dred b) (h : dlin 1 0 a a b) : b = a := by
 rw [← a1f ha.1, ← a1f hb.1]
 refine A6 fun i hi => ?_
 have := h i hi
 exact dcg.eq (this.trans (dcg.of_eq (by grind))) (hb.2 i) (ha.2 i)
theorem a0B {a : List Int} (h : dred a) : o8 a = a := by
 conv => rhs; rw [← a1f h.1]
 refine A6 fun i hi => ?_
 have := h.2 i
 omega
theorem a6t (a : List Int) : dred (j9 a) := by rw [a3g]; exact c1e a 8
theorem b1B (a : List Int) : dred (a5x a) := a3h fun i _ => by omega
theorem c06 (a : List Int) : ∀ k, k ≤ 8 → dlin (2 ^ k) 0 (K4 a (8 - k)) (K4 a (8 - k)) (a2D (j9 a) k)
 | 0, _ => by
  rw [a2D, a0B (a6t a), a3g]
  intro i _
  exact dcg.of_eq (by grind)
 | k + 1, hk => by
  have ih := c06 a k (by omega)
  obtain ⟨f1, f2, f3⟩ := a5X (7 - k) (by omega)
  rw [show 7 - (7 - k) = k by omega] at f3
  have e : 8 - k = (7 - k) + 1 := by omega
  have e2 : 8 - (k + 1) = 7 - k := by omega
  rw [e, K4] at ih
  rw [a2D, e2, f3]
  have h1 := d62 f1 f2 ih
  have h2 := d8A (by omega) f1 f2 (K4 a (7 - k))
  have := h1.trans1 h2
  rwa [Int.pow_succ]
theorem b7C (a : List Int) : a5x (j9 a) = o8 a := by
 have h := c06 a 8 (Nat.le_refl _)
 rw [Nat.sub_self, K4] at h
 refine c9Q (b1C a) (b1B _) ?_
 intro i hi
 rw [a5x, d6 hi]
 refine (dcg.mod _).trans (((h i hi).mul (dcg.refl 8347681)).trans ⟨255 * (o8 a).getD i 0, by grind⟩)
theorem b80 (a : List Int) : ∀ k, k ≤ 8 → dlin (8347681 * 2 ^ k) 0 (a2D a (8 - k)) (a2D a (8 - k)) (K4 (a5x a) k)
 | 0, _ => by
  rw [K4, a0B (b1B a)]
  intro i hi
  rw [a5x, d6 hi]
  exact (dcg.mod _).trans (dcg.of_eq (by grind))
 | k + 1, hk => by
  have ih := b80 a k (by omega)
  obtain ⟨f1, f2, f3⟩ := a5X k (by omega)
  have e : 8 - k = (7 - k) + 1 := by omega
  have e2 : 8 - (k + 1) = 7 - k := by omega
  rw [e, a2D, f3] at ih
  rw [K4, e2]
  have h1 := d2z f1 f2 ih
  have h2 := d8B (by omega) f1 f2 (a2D a (7 - k))
  have := h1.trans1 h2
  rwa [Int.pow_succ, ← Int.mul_assoc]
theorem b2W (a : List Int) : j9 (a5x a) = o8 a := by
 have h := b80 a 8 (Nat.le_refl _)
 rw [Nat.sub_self, a2D, ← a3g] at h
 refine c9Q (b1C a) (a6t _) ?_
 intro i hi
 refine (h i hi).trans ⟨255 * (o8 a).getD i 0, by grind⟩
theorem b4t {c d : Int} {x y z : List Int} (h : dlin c d (o8 x) (o8 y) (o8 z)) : ∀ k, k ≤ 8 → dlin c d (K4 x k) (K4 y k) (K4 z k)
 | 0, _ => h
 | k + 1, hk => by
  obtain ⟨f1, f2, _⟩ := a5X k (by omega)
  exact d2z f1 f2 (b4t h k (by omega))
theorem b5O (a b : List Int) : dred (a1F a b) := a3h fun i _ => by omega
theorem c6l (a b : List Int) : dred (a46 a b) := a3h fun i _ => by omega
theorem b7H (a b : List Int) : dred (a45 a b) := a3h fun i _ => by omega
theorem d4L (a b : List Int) : dlin 1 1 (o8 a) (o8 b) (o8 (a1F a b)) := by
 intro i hi
 rw [a0B (b5O a b), a1F, d6 hi, o8, d6 hi, o8, d6 hi]
 refine (dcg.mod _).trans (dcg.symm ((((dcg.refl 1).mul (dcg.mod _)).add ((dcg.refl 1).mul (dcg.mod _))).trans (dcg.of_eq (by grind))))
theorem d4O {x y z : List Int} (hz : dred z) (h : dlin 1 1 x y z) : z = a1F x y := by
 conv => lhs; rw [← a1f hz.1]
 refine A6 fun i hi => ?_
 refine dcg.eq ((h i hi).trans (dcg.symm ((dcg.mod _).trans (dcg.of_eq (by grind))))) (hz.2 i) (by omega)
theorem c08 (a b : List Int) : j9 (a1F a b) = a1F (j9 a) (j9 b) := by
 refine d4O (a6t _) ?_
 have := b4t (d4L a b) 8 (Nat.le_refl _)
 rwa [← a3g, ← a3g, ← a3g] at this
def Z9 : Nat → (Nat → Int) → Int
 | 0, _ => 0
 | n + 1, f => Z9 n f + f n
theorem a0a {n : Nat} {f g : Nat → Int} (h : ∀ i, i < n → f i = g i) : Z9 n f = Z9 n g := by
 induction n with
 | zero => rfl
 | succ n ih => rw [Z9, Z9, ih fun i hi => h i (by omega), h n (by omega)]
theorem c78 {n : Nat} {f g : Nat → Int} (h : ∀ i, i < n → dcg (f i) (g i)) : dcg (Z9 n f) (Z9 n g) := by
 induction n with
 | zero => exact dcg.refl _
 | succ n ih => exact (ih fun i hi => h i (by omega)).add (h n (by omega))
theorem c0A (n : Nat) (f g : Nat → Int) : Z9 n (fun i => f i + g i) = Z9 n f + Z9 n g := by
 induction n with
 | zero => rfl
 | succ n ih => rw [Z9, Z9, Z9, ih]; omega
theorem b5S (n : Nat) (c : Int) (f : Nat → Int) : Z9 n (fun i => c * f i) = c * Z9 n f := by
 induction n with
 | zero => simp [Z9]
 | succ n ih => rw [Z9, Z9, ih]; grind
theorem b36 (n : Nat) (c : Int) (f : Nat → Int) : Z9 n (fun i => f i * c) = Z9 n f * c := by
 induction n with
 | zero => simp [Z9]
 | succ n ih => rw [Z9, Z9, ih]; grind
theorem b5T (n : Nat) : Z9 n (fun _ => 0) = 0 := by
 induction n with
 | zero => rfl
 | succ n ih => rw [Z9, ih]; rfl
theorem d2C (n m : Nat) (f : Nat → Nat → Int) : Z9 n (fun i => Z9 m (f i)) = Z9 m (fun j => Z9 n fun i => f i j) := by
 induction n with
 | zero => simp [Z9, b5T]
 | succ n ih => rw [Z9, ih, ← c0A]; rfl
theorem d4Q (n : Nat) (f : Nat → Int) : Z9 (2 * n) f = Z9 n fun i => f (2 * i) + f (2 * i + 1) := by
 induction n with
 | zero => rfl
 | succ n ih => rw [show 2 * (n + 1) = 2 * n + 1 + 1 by omega, Z9, Z9, ih, Z9]; omega
theorem b7I (n m : Nat) (f : Nat → Int) : Z9 (n + m) f = Z9 n f + Z9 m fun i => f (n + i) := by
 induction m with
 | zero => simp [Z9]
 | succ m ih => rw [← Nat.add_assoc, Z9, ih, Z9]; omega
def d2x : Nat → Nat → Int
 | 0, _ => -1
 | t + 1, b => if b % 2 = 0 then w7 (2 ^ t + b / 2) else - w7 (2 ^ t + b / 2)
theorem c72 : (List.range 8).all (fun t => (List.range (2 ^ t)).all fun b => (w7 (2 ^ t + b) * w7 (2 ^ t + b) - d2x t b) % 8380417 == 0) = true := by decide +kernel
theorem d6Z {t b : Nat} (ht : t < 8) (hb : b < 2 ^ t) : dcg (d2x t b) (w7 (2 ^ t + b) * w7 (2 ^ t + b)) := by
 have h1 := List.all_eq_true.1 c72 t (List.mem_range.2 ht)
 have h3 := eq_of_beq (List.all_eq_true.1 h1 b (List.mem_range.2 hb))
 exact ⟨-((w7 (2 ^ t + b) * w7 (2 ^ t + b) - d2x t b) / 8380417), by omega⟩
theorem c4x : (List.range 256).all (fun i => (d2x 8 i - c4B i) % 8380417 == 0) = true := by decide +kernel
theorem d2y {i : Nat} (hi : i < 256) : dcg (d2x 8 i) (c4B i) := by
 have h3 := eq_of_beq (List.all_eq_true.1 c4x i (List.mem_range.2 hi))
 exact ⟨(d2x 8 i - c4B i) / 8380417, by omega⟩
theorem dcg.pow {x y : Int} (h : dcg x y) (n : Nat) : dcg (x ^ n) (y ^ n) := by
 induction n with
 | zero => rw [Int.pow_zero, Int.pow_zero]; exact dcg.refl _
 | succ n ih => rw [Int.pow_succ, Int.pow_succ]; exact ih.mul h
def dev (a : List Int) (n L r : Nat) (c : Int) : Int := Z9 n fun j => a.getD (j * L + r) 0 * c ^ j
theorem c9I (a : List Int) (n s r : Nat) (z : Int) : dev a (2 * n) s r z = dev a n (2 * s) r (z * z) + z * dev a n (2 * s) (r + s) (z * z) := by
 unfold dev
 rw [d4Q, ← b5S, ← c0A]
 refine a0a fun i _ => ?_
 rw [show 2 * i * s + r = i * (2 * s) + r by grind, show (2 * i + 1) * s + r = i * (2 * s) + (r + s) by grind]
 rw [Int.pow_succ, Int.pow_mul, show z ^ 2 = z * z by rw [Int.pow_succ, Int.pow_succ, Int.pow_zero, Int.one_mul]]
 grind
theorem c6j {a : List Int} {n L r : Nat} {c d : Int} (h : dcg c d) : dcg (dev a n L r c) (dev a n L r d) := c78 fun j _ => (dcg.refl _).mul (h.pow j)
theorem c6m (a : List Int) : ∀ t, t ≤ 8 → ∀ b r, b < 2 ^ t → r < 256 / 2 ^ t → dcg ((K4 a t).getD (256 / 2 ^ t * b + r) 0) (dev (o8 a) (2 ^ t) (256 / 2 ^ t) r (d2x t b))
 | 0, _, b, r, hb, _ => by
  have : b = 0 := by simpa using hb
  subst this
  simp only [K4, Nat.pow_zero, dev, Z9, Int.pow_zero]
  exact dcg.of_eq (by simp)
 | t + 1, ht, b, r, hb, hr => by
  obtain ⟨f1, f2, _⟩ := a5X t (by omega)
  have e1 : 256 / 2 ^ (t + 1) = 128 / 2 ^ t := (by decide : ∀ t, t < 8 → 256 / 2 ^ (t + 1) = 128 / 2 ^ t) t (by omega)
  have e2 : 256 / 2 ^ t = 2 * (128 / 2 ^ t) := (by decide : ∀ t, t < 8 → 256 / 2 ^ t = 2 * (128 / 2 ^ t)) t (by omega)
  rw [e1] at hr ⊢
  have ih := c6m a t (by omega) (b / 2)
  rw [e2] at ih
  have hb2 : b / 2 < 2 ^ t := by rw [Nat.pow_succ] at hb; omega
  have i1 := ih r hb2 (by omega)
  have i2 := ih (r + 128 / 2 ^ t) hb2 (by omega)
  have hsq := d6Z (by omega) hb2
  have p2 : 2 ^ (t + 1) = 2 * 2 ^ t := by rw [Nat.pow_succ, Nat.mul_comm]
  rw [K4, p2]
  generalize hS : 128 / 2 ^ t = s at *
  rw [← Nat.add_assoc] at i2
  rcases Nat.mod_two_eq_zero_or_one b with hm | hm
  ·have hc : d2x (t + 1) b = w7 (2 ^ t + b / 2) := by rw [d2x, if_pos hm]
   have hidx : s * b + r = 2 * s * (b / 2) + r := by
    have : b = 2 * (b / 2) := by omega
    conv => lhs; rw [this]
    grind
   rw [hidx, hc, c9I]
   refine (c1b f1 f2 hb2 hr _).trans ((i1.trans (c6j hsq)).add ((dcg.refl _).mul (i2.trans (c6j hsq))))
  ·have hc : d2x (t + 1) b = - w7 (2 ^ t + b / 2) := by rw [d2x, if_neg (by omega)]
   have hidx : s * b + r = 2 * s * (b / 2) + r + s := by
    have : b = 2 * (b / 2) + 1 := by omega
    conv => lhs; rw [this]
    grind
   have hneg : (- w7 (2 ^ t + b / 2)) * (- w7 (2 ^ t + b / 2)) = w7 (2 ^ t + b / 2) * w7 (2 ^ t + b / 2) := by grind
   rw [hidx, hc, c9I, hneg]
   refine (c1a f1 f2 hb2 hr _).trans (((i1.trans (c6j hsq)).sub ((dcg.refl _).mul (i2.trans (c6j hsq)))).trans (dcg.of_eq ?_))
   grind
def dE (a : List Int) (p : Int) : Int := Z9 256 fun k => (o8 a).getD k 0 * p ^ k
theorem c74 (a : List Int) {i : Nat} (hi : i < 256) : dcg ((j9 a).getD i 0) (dE a (c4B i)) := by
 have h := (c6m a 8 (Nat.le_refl _) i 0 hi (by decide)).trans (c6j (d2y hi))
 rw [show 256 / 2 ^ 8 * i + 0 = i by omega] at h
 refine h.trans (dcg.of_eq (a0a fun j _ => ?_))
 rw [show j * (256 / 2 ^ 8) + 0 = j by omega]
theorem c4C : (List.range 256).all (fun i => (c4B i ^ 256 + 1) % 8380417 == 0) = true := by decide +kernel
theorem d2A {i : Nat} (hi : i < 256) : dcg (c4B i ^ 256) (-1) := by
 have h3 := eq_of_beq (List.all_eq_true.1 c4C i (List.mem_range.2 hi))
 exact ⟨(c4B i ^ 256 + 1) / 8380417, by omega⟩
def dcv (a b : List Int) (i n : Nat) : Int := Z9 i fun u => if u ≤ n ∧ n < u + 256 then (o8 a).getD u 0 * (o8 b).getD (n - u) 0 else 0
theorem d4M (a b : List Int) (i n : Nat) : dcv a b (i + 1) n = if i ≤ n ∧ n < i + 256 then dcv a b i n + (o8 a).getD i 0 * (o8 b).getD (n - i) 0 else dcv a b i n := by
 unfold dcv
 rw [Z9]
 split <;> omega
def b82 (a b : List Int) : List Int := o5 fun j => (dcv a b 256 j - dcv a b 256 (j + 256)) % 8380417
theorem d0V {v : Nat} (hv : v ≤ 256) (g : Nat → Int) (p : Int) : Z9 512 (fun j => if v ≤ j ∧ j < v + 256 then g (j - v) * p ^ j else 0) = p ^ v * Z9 256 fun k => g k * p ^ k := by
 rw [show 512 = v + (256 + (256 - v)) by omega, b7I, b7I, ← b5S]
 rw [a0a (n := v) (g := fun _ => 0) (fun i hi => if_neg (by omega)), b5T]
 rw [a0a (n := 256 - v) (g := fun _ => 0) (fun i hi => if_neg (by omega)), b5T]
 rw [Int.zero_add, Int.add_zero]
 refine a0a fun i hi => ?_
 rw [if_pos (by omega), show v + i - v = i by omega, Int.pow_add]
 grind
theorem d99 (a b : List Int) (p : Int) : Z9 512 (fun n => dcv a b 256 n * p ^ n) = dE a p * dE b p := by
 have h1 : Z9 512 (fun n => dcv a b 256 n * p ^ n) = Z9 256 fun u => (o8 a).getD u 0 * Z9 512 fun n => if u ≤ n ∧ n < u + 256 then (o8 b).getD (n - u) 0 * p ^ n else 0 := by
  rw [show (fun u => (o8 a).getD u 0 * Z9 512 fun n => if u ≤ n ∧ n < u + 256 then (o8 b).getD (n - u) 0 * p ^ n else 0) = fun u => Z9 512 fun n => (o8 a).getD u 0 * (if u ≤ n ∧ n < u + 256 then (o8 b).getD (n - u) 0 * p ^ n else 0) from funext fun u => (b5S _ _ _).symm]
  rw [d2C]
  refine a0a fun j _ => ?_
  unfold dcv
  rw [← b36]
  refine a0a fun u _ => ?_
  split <;> grind
 rw [h1]
 unfold dE
 rw [← b36]
 refine a0a fun u hu => ?_
 rw [d0V (v := u) (by omega) (fun k => (o8 b).getD k 0) p]
 grind
theorem d6Y (a b : List Int) {i : Nat} (hi : i < 256) : dcg (dE (b82 a b) (c4B i)) (Z9 512 fun n => dcv a b 256 n * c4B i ^ n) := by
 rw [show 512 = 256 + 256 from rfl, b7I, ← c0A]
 have hr : dred (b82 a b) := a3h fun i _ => by omega
 unfold dE
 rw [a0B hr]
 refine c78 fun j hj => ?_
 rw [b82, d6 hj, show 256 + j = j + 256 by omega, Int.pow_add, show j + 256 = 256 + j by omega]
 refine ((dcg.mod _).mul (dcg.refl _)).trans (dcg.symm (((dcg.refl _).add ((dcg.refl _).mul ((dcg.refl _).mul (d2A hi)))).trans (dcg.of_eq (by grind))))
theorem c9M {a b : List Int} (ha : dred a) (hb : dred b) (h : ∀ i, i < 256 → dcg (a.getD i 0) (b.getD i 0)) : a = b := by
 rw [← a1f ha.1, ← a1f hb.1]
 exact A6 fun j hj => dcg.eq (h j hj) (ha.2 j) (hb.2 j)
theorem b7E {i : Nat} (hi : i < 256) (a b : List Int) : dcg ((a45 a b).getD i 0) (a.getD i 0 * b.getD i 0) := by rw [a45, d6 hi]; exact dcg.mod _
theorem c6s (a b : List Int) : b82 a b = a3S a b := by
 have hr : dred (b82 a b) := a3h fun i _ => by omega
 have key : j9 (b82 a b) = a45 (j9 a) (j9 b) := by
  refine c9M (a6t _) (b7H _ _) fun i hi => ?_
  refine ((c74 _ hi).trans ((d6Y a b hi).trans (dcg.of_eq (d99 a b _)))).trans (dcg.symm ((b7E hi _ _).trans ?_))
  exact (c74 a hi).mul (c74 b hi)
 rw [a3S, ← key, b7C, a0B hr]
theorem c4w {i : Nat} (hi : i < 256) (a b : List Int) : dcg ((a1F a b).getD i 0) (a.getD i 0 + b.getD i 0) := by rw [a1F, d6 hi]; exact dcg.mod _
theorem d2B {i : Nat} (hi : i < 256) (a b : List Int) : dcg ((a46 a b).getD i 0) (a.getD i 0 - b.getD i 0) := by rw [a46, d6 hi]; exact dcg.mod _
theorem c1c {i : Nat} (hi : i < 256) (a : List Int) : dcg ((o8 a).getD i 0) (a.getD i 0) := by rw [o8, d6 hi]; exact dcg.mod _
theorem c1l (a b : List Int) : j9 (a3S a b) = a45 (j9 a) (j9 b) := by
 rw [a3S, b2W, a0B (b7H _ _)]
theorem c8c (a b : List Int) : a45 a b = a45 b a := A6 fun i _ => by rw [Int.mul_comm]
theorem d0Y (a b : List Int) : a3S a b = a3S b a := by rw [a3S, c8c, a3S]
theorem d0Z (b : List Int) : a3S (List.replicate 256 0) b = List.replicate 256 0 := by
 rw [← c6s]
 have hz : ∀ n i, dcv (List.replicate 256 0) b i n = 0 := by
  intro n i
  induction i with
  | zero => rfl
  | succ i ih =>
   have : (o8 (List.replicate 256 0)).getD i 0 = 0 := by
    by_cases hi : i < 256
    ·rw [o8, d6 hi, a4E]; rfl
    ·exact b5W (by have := (b1C (List.replicate 256 0)).1; omega)
   rw [d4M, ih, this]
   split <;> omega
 have : b82 (List.replicate 256 0) b = o5 fun _ => 0 := A6 fun i _ => by rw [hz, hz]; rfl
 rw [this, o5, List.map_const', List.length_range]
theorem c34 : ∀ n, n < 256 → bt p_bits_Reverse8_s0 n = (d5q n : Int) ∧ d5q n < 256 := by decide +kernel
theorem c2q : ∀ x r, a3k x = some r → ∃ N, a3p N x = some r := by
 refine i0 (ks := a3q) (rs := a3r) fun x hw _ => ⟨0, ?_⟩
 obtain ⟨(n : Int), u⟩ := x
 simp only [a5p, Kd.wf, a0n] at hw
 have hs : p_bits_Reverse8_s0.size = 256 := by decide +kernel
 have ht := (c34 n.toNat (by omega)).1
 unfold a3p
 rw [hs]
 simp (disch := omega) only [if_pos]
 rw [ht]
theorem d6M {n : Int} (h : 0 ≤ n ∧ n ≤ 255) : a3k (n, ()) = some (d5q n.toNat : Int) :=
 d9 (ks := a3q) (rs := a3r) (by simp only [a5p, Kd.wf, a0n]; exact ⟨h, trivial⟩) trivial
theorem d7e {a b : Int} (h : -2147483648 ≤ a ∧ a ≤ 2147483647) (h' : -2147483648 ≤ b ∧ b ≤ 2147483647) : -4611686018427387904 ≤ a * b ∧ a * b ≤ 4611686018427387904 := by
 have h1 : a.natAbs * b.natAbs ≤ 2147483648 * 2147483648 := Nat.mul_le_mul (by omega) (by omega)
 rw [← Int.natAbs_mul] at h1
 omega
theorem c5f : ∀ x r, O0 x = some r → ∃ N, a57 N x = some r := by
 refine i0 (ks := Y9) (rs := a5J) fun x hw _ => ⟨0, ?_⟩
 obtain ⟨(a : Int), (b : Int), u⟩ := x
 have ha : -2147483648 ≤ a ∧ a ≤ 2147483647 := t7.1 hw.1
 have hb : -2147483648 ≤ b ∧ b ≤ 2147483647 := t7.1 hw.2.1
 have hm := d7e ha hb
 unfold a57
 dsimp only
 rw [c7 (x := a) (by omega) (by omega), c7 (x := b) (by omega) (by omega), c7 (by omega) (by omega), a5V (by omega) (by omega)]
 rfl
theorem b5J {a b : Int} (h : -2147483648 ≤ a ∧ a ≤ 2147483647) (h' : -2147483648 ≤ b ∧ b ≤ 2147483647) : O0 (a, b, ()) = some (a * b % 8380417) :=
 d9 (ks := Y9) (rs := a5J) (x := (a, b, ())) ⟨t7.2 h, t7.2 h', trivial⟩ trivial
def dh (j : Nat) : Int := 1753 ^ j % 8380417
theorem d4N (j : Nat) : 0 ≤ dh j ∧ dh j ≤ 8380416 := by unfold dh; omega
theorem c1g (j : Nat) : 0 ≤ w7 j ∧ w7 j ≤ 8380416 := by unfold w7; omega
theorem d61 (j : Nat) : dh j * 1753 % 8380417 = dh (j + 1) := by
 unfold dh
 rw [Int.pow_succ]
 generalize (1753 : Int) ^ j = m
 omega
theorem c3v : ∀ x r, a1O x = some r → ∃ N, a4K N x = some r := by
 refine i0 (ks := a4t) (rs := T0) fun x hw _ => ⟨300, ?_⟩
 unfold a4K
 have hZ : (List.replicate 256 (0 : Int)).length = 256 := List.length_replicate ..
 have e0 : (List.replicate 256 (0 : Int)).set 0 1 = part dh 1 (List.replicate 256 0) := by
  have h := c0F (h := dh) (i := 0) (a := List.replicate 256 0) (by omega)
  rw [b67] at h
  exact h
 generalize hz : List.replicate 256 (0 : Int) = Z at hZ e0 ⊢
 refine (i9 (F := L8 300) (s := fun i => (((i + 1 : Nat) : Int), Z, part dh (i + 1) Z, Z, ())) (y := (Z, (List.range 256).map dh, Z, ())) 255 ?_ ?_ ?_ 300 (by omega)).trans ?_
 ·rw [e0]; rfl
 ·intro i hi kn
  have hb := d4N i
  have hg : (part dh (i + 1) Z).getD i 0 = dh i := b9c (by omega)
  have e1 : ((i + 1 : Nat) : Int) - 1 = (i : Int) := by omega
  unfold L8
  dsimp only
  rw [c7 (by omega) (by omega), e1, if_pos (by omega), if_pos (by omega), if_pos (by omega), Int.toNat_natCast, if_pos (by omega), hg, b5J (by omega) (by omega), d61]
  simp only [Option.bind_some]
  rw [if_pos (by omega), if_pos (by omega), Int.toNat_natCast, if_pos (by omega), u5 (h := dh) (i := i + 1) (a := Z) (by omega) rfl, c7 (by omega) (by omega)]
  rfl
 ·intro kn
  unfold L8
  dsimp only
  rw [if_neg (by omega), C3 hZ]
 dsimp only
 refine (J2 (F := L9 300) (s := fun i => ((i : Int), Z, (List.range 256).map dh, part w7 i Z, ())) (y := (Z, (List.range 256).map w7, ())) 256 ?_ ?_ 300 (by omega)).trans ?_
 ·intro i hi kn
  have hr := (c34 i hi).2
  have hg : ((List.range 256).map dh).getD (d5q i) 0 = dh (d5q i) := Q6 hr
  unfold L9
  dsimp only
  rw [if_pos (by omega), b8Y (by omega) (by omega), d6M (by omega), Int.toNat_natCast]
  simp only [Option.bind_some]
  rw [if_pos (by omega), if_pos (by omega), Int.toNat_natCast, if_pos hr, if_pos (by omega), if_pos (by omega), if_pos (by omega), hg, c7 (by omega) (by omega),
   u5 (h := w7) (i := i) (a := Z) (z := dh (d5q i)) (by omega) rfl, Int.natCast_add]
  rfl
 ·intro kn
  unfold L9
  dsimp only
  rw [if_neg (by omega), C3 hZ]
 ·rfl
theorem c52 : a1O () = some ((List.range 256).map w7) := d9 (ks := a4t) (rs := T0) trivial trivial
def b4s (s at' r j : Nat) : Prop := j < at' ∨ (at' ≤ j ∧ j < at' + r) ∨ (at' + s ≤ j ∧ j < at' + s + r)
instance (s at' r j : Nat) : Decidable (b4s s at' r j) := by unfold b4s; infer_instance
def b7t (h : Nat → Int) (s : Nat) (a : List Int) (at' r j : Nat) : Int := if b4s s at' r j then h j else a.getD j 0
theorem d2w {h : Nat → Int} {s : Nat} {a : List Int} {c r : Nat} (hs : 0 < s) (hr : r < s) (hc : c + 2 * s ≤ 256) : (o5 (b7t h s a c r)).getD (c + r) 0 = a.getD (c + r) 0 := by
 rw [d6 (by omega), b7t, if_neg (by unfold b4s; omega)]
theorem d2v {h : Nat → Int} {s : Nat} {a : List Int} {c r : Nat} (hr : r < s) (hc : c + 2 * s ≤ 256) : (o5 (b7t h s a c r)).getD (c + r + s) 0 = a.getD (c + r + s) 0 := by
 rw [d6 (by omega), b7t, if_neg (by unfold b4s; omega)]
theorem c6h {h : Nat → Int} {s : Nat} {a : List Int} {c r : Nat} (hr : r < s) :
  ((o5 (b7t h s a c r)).set (c + r) (h (c + r))).set (c + r + s) (h (c + r + s)) = o5 (b7t h s a c (r + 1)) := by
 rw [c6k (h' := fun j => if j = c + r then h j else b7t h s a c r j) (by simp) (fun i _ hi => by simp [hi])]
 rw [c6k (h' := b7t h s a c (r + 1)) ?_ ?_]
 ·unfold b7t; rw [if_pos (by unfold b4s; omega)]
 ·intro i hi hne
  by_cases hh : i = c + r
  ·rw [if_pos hh, hh]; unfold b7t; rw [if_pos (by unfold b4s; omega)]
  ·rw [if_neg hh]; unfold b7t
   by_cases hd : b4s s c r i
   ·rw [if_pos hd, if_pos (by unfold b4s at *; omega)]
   ·rw [if_neg hd, if_neg (by unfold b4s at *; omega)]
theorem c6g {h : Nat → Int} {s : Nat} {a : List Int} {c : Nat} : o5 (b7t h s a c s) = o5 (b7t h s a (c + 2 * s) 0) := by
 refine A6 fun i hi => ?_
 unfold b7t
 by_cases hd : b4s s c s i
 ·rw [if_pos hd, if_pos (by unfold b4s at *; omega)]
 ·rw [if_neg hd, if_neg (by unfold b4s at *; omega)]
theorem c6i {h : Nat → Int} {s : Nat} {a : List Int} (ha : a.length = 256) : o5 (b7t h s a 0 0) = a := by
 refine (A6 fun i hi => ?_).trans (a1f ha)
 unfold b7t
 rw [if_neg (by unfold b4s; omega)]
theorem c9H {h : Nat → Int} {s : Nat} {a : List Int} : o5 (b7t h s a 256 0) = o5 h := by
 refine A6 fun i hi => ?_
 unfold b7t
 rw [if_pos (by unfold b4s; omega)]
theorem d9P {s m b : Nat} (hm : s * m = 128) (hb : b < m) : 2 * s * b + 2 * s ≤ 256 := by
 have : s * (b + 1) ≤ s * m := Nat.mul_le_mul_left _ (by omega)
 rw [hm, Nat.mul_add] at this
 rw [Nat.mul_assoc]
 omega
theorem d0T {β : Type} {s m b : Nat} (hm : s * m = 128) (hs : 0 < s) (hs128 : s ≤ 128) (hb : b < m) (hm128 : m ≤ 128) {a : List Int} (ha : dred a) (res : List Int) (K : Int × Int × Int × List Int × List Int × List Int × Unit → Option β) :
  m9 (J8 300) 300 (((m + b : Nat) : Int), (s : Int), ((2 * s * b : Nat) : Int), ((2 * s * b : Nat) : Int), o5 (b7t (b7F s a) s a (2 * s * b) 0), res, (List.range 256).map w7, ()) K
   = K (((m + b : Nat) : Int), (s : Int), ((2 * s * b : Nat) : Int), o5 (b7t (b7F s a) s a (2 * s * (b + 1)) 0), res, (List.range 256).map w7, ()) := by
 have hat := d9P hm hb
 have hnext : 2 * s * (b + 1) = 2 * s * b + 2 * s := by rw [Nat.mul_add, Nat.mul_one]
 rw [hnext]
 have hk : m + b < 256 := by omega
 have hz := c1g (m + b)
 have hzg : ((List.range 256).map w7).getD (m + b) 0 = w7 (m + b) := Q6 (by omega)
 have hlo := fun r (hr : r < s) => c9O (b := b) hm hs hr a
 have hhi := fun r (hr : r < s) => c9N (b := b) hm hs hr a
 generalize 2 * s * b = c at *
 generalize m + b = k at *
 refine J2 (F := J8 300) (s := fun r => ((k : Int), (s : Int), (c : Int), ((c + r : Nat) : Int), o5 (b7t (b7F s a) s a c r), res, (List.range 256).map w7, ())) (y := ((k : Int), (s : Int), (c : Int), o5 (b7t (b7F s a) s a (c + 2 * s) 0), res, (List.range 256).map w7, ())) s ?_ ?_ 300 (by omega)
 ·intro r hr kn
  have h1 := ha.2 (c + r)
  have h2 := ha.2 (c + r + s)
  have hl := hlo r hr
  have hh := hhi r hr
  have ec : ((c + r : Nat) : Int) + (s : Int) = ((c + r + s : Nat) : Int) := by omega
  have ht := b5J (a := w7 k) (b := a.getD (c + r + s) 0) (by omega) (by omega)
  have hT : 0 ≤ w7 k * a.getD (c + r + s) 0 % 8380417 ∧ w7 k * a.getD (c + r + s) 0 % 8380417 ≤ 8380416 := by omega
  unfold J8
  simp (disch := omega) only [if_pos, c7, ec, Int.toNat_natCast, hzg, d2w hs hr (a := a) (c := c), d2v hr (a := a) (c := c), ht, Option.bind_some]
  simp (disch := omega) only [a5V, Option.bind_some]
  rw [← hl, ← hh, c6h hr]
  rfl
 ·intro kn
  unfold J8
  simp (disch := omega) only [if_neg, c7]
  rw [c6g]
theorem d0U {β : Type} {s m : Nat} (hm : s * m = 128) (hs : 0 < s) (hs128 : s ≤ 128) (hm0 : 0 < m) (hm128 : m ≤ 128) {a : List Int} (ha : dred a) (res : List Int) (K : Int × Int × List Int × List Int × List Int × Unit → Option β) :
  m9 (N5 300) 300 (((m - 1 : Nat) : Int), (s : Int), 0, a, res, (List.range 256).map w7, ()) K = K (((2 * m - 1 : Nat) : Int), (s : Int), a4e s a, res, (List.range 256).map w7, ()) := by
 have hall : 2 * s * m = 256 := by rw [Nat.mul_assoc, hm]
 refine i9 (F := N5 300) (s := fun b => (((m + b - 1 : Nat) : Int), (s : Int), ((2 * s * b : Nat) : Int), o5 (b7t (b7F s a) s a (2 * s * b) 0), res, (List.range 256).map w7, ())) (y := (((2 * m - 1 : Nat) : Int), (s : Int), a4e s a, res, (List.range 256).map w7, ())) m ?_ ?_ ?_ 300 (by omega)
 ·rw [Nat.mul_zero, c6i ha.1]; rfl
 ·intro b hb kn
  have hat := d9P hm hb
  have hnext : 2 * s * (b + 1) = 2 * s * b + 2 * s := by rw [Nat.mul_add, Nat.mul_one]
  unfold N5
  dsimp only
  rw [if_pos (by omega), c7 (by omega) (by omega), show ((m + b - 1 : Nat) : Int) + 1 = ((m + b : Nat) : Int) by omega]
  refine (d0T hm hs hs128 hb hm128 ha res _).trans ?_
  rw [hnext]
  simp (disch := omega) only [c7]
  rw [show m + (b + 1) - 1 = m + b by omega, show ((2 * s * b : Nat) : Int) + 2 * (s : Int) = ((2 * s * b + 2 * s : Nat) : Int) by omega]
 ·intro kn
  unfold N5
  dsimp only
  rw [if_neg (by omega), hall, c9H, show m + m - 1 = 2 * m - 1 by omega]
  rfl
theorem c6n : ∀ i, i < 8 → (128 / 2 ^ i) * 2 ^ i = 128 ∧ 0 < 128 / 2 ^ i ∧ 128 / 2 ^ i ≤ 128 ∧ 128 / 2 ^ i / 2 = 128 / 2 ^ (i + 1) ∧ 0 < 2 ^ i ∧ 2 ^ i ≤ 128 ∧ 2 * 2 ^ i = 2 ^ (i + 1) := by decide
theorem c8L : ∀ x r, a0E x = some r → ∃ N, a91 N x = some r := by
 refine i0 (ks := Q8) (rs := a75) fun x hw _ => ⟨300, ?_⟩
 obtain ⟨(a : List Int), u⟩ := x
 have ha := c0y.1 hw
 unfold a91
 dsimp only
 rw [b5I ha, c52]
 simp only [Option.bind_some]
 generalize List.replicate 256 (0 : Int) = Z
 refine (J2 (F := Y3 300) (s := fun i => (((2 ^ i - 1 : Nat) : Int), ((128 / 2 ^ i : Nat) : Int), K4 a i, Z, (List.range 256).map w7, ())) (y := (j9 a, Z, ())) 8 ?_ ?_ 300 (by omega)).trans ?_
 ·intro i hi kn
  obtain ⟨f1, f2, f3, f4, f5, f6, f7⟩ := c6n i hi
  unfold Y3
  dsimp only
  rw [if_pos (by omega)]
  refine (d0U f1 f2 f3 f5 f6 (c1e a i) _ _).trans ?_
  simp (disch := omega) only [b0v, c7]
  have e1 : ((128 / 2 ^ i : Nat) : Int) / 2 = ((128 / 2 ^ (i + 1) : Nat) : Int) := by rw [← f4]; omega
  rw [e1, f7]
  rfl
 ·intro kn
  unfold Y3
  dsimp only
  rw [if_neg (by decide)]
  rfl
 ·rfl
theorem c0M {a : List Int} (h : E7 256 a) : a0E (a, ()) = some (j9 a) := d9 (ks := Q8) (rs := a75) (x := (a, ())) (c0y.2 h) trivial
theorem d0R {β : Type} {s m b : Nat} (hm : s * m = 128) (hs : 0 < s) (hs128 : s ≤ 128) (hb : b < m) (hm128 : m ≤ 128) {a : List Int} (ha : dred a) (res : List Int) (K : Int × Int × Int × List Int × List Int × List Int × Unit → Option β) :
  m9 (J7 300) 300 (((2 * m - 1 - b : Nat) : Int), (s : Int), ((2 * s * b : Nat) : Int), ((2 * s * b : Nat) : Int), o5 (b7t (b7D s a) s a (2 * s * b) 0), res, (List.range 256).map w7, ()) K
   = K (((2 * m - 1 - b : Nat) : Int), (s : Int), ((2 * s * b : Nat) : Int), o5 (b7t (b7D s a) s a (2 * s * (b + 1)) 0), res, (List.range 256).map w7, ()) := by
 have hat := d9P hm hb
 have hnext : 2 * s * (b + 1) = 2 * s * b + 2 * s := by rw [Nat.mul_add, Nat.mul_one]
 rw [hnext]
 have hk : 2 * m - 1 - b < 256 := by omega
 have hz := c1g (2 * m - 1 - b)
 have hzg : ((List.range 256).map w7).getD (2 * m - 1 - b) 0 = w7 (2 * m - 1 - b) := Q6 hk
 have hlo := fun r (hr : r < s) => c9L (b := b) hs hr a
 have hhi := fun r (hr : r < s) => c9K (b := b) hm hs hr a
 generalize 2 * s * b = c at *
 generalize 2 * m - 1 - b = k at *
 refine J2 (F := J7 300) (s := fun r => ((k : Int), (s : Int), (c : Int), ((c + r : Nat) : Int), o5 (b7t (b7D s a) s a c r), res, (List.range 256).map w7, ())) (y := ((k : Int), (s : Int), (c : Int), o5 (b7t (b7D s a) s a (c + 2 * s) 0), res, (List.range 256).map w7, ())) s ?_ ?_ 300 (by omega)
 ·intro r hr kn
  have h1 := ha.2 (c + r)
  have h2 := ha.2 (c + r + s)
  have hl := hlo r hr
  have hh := hhi r hr
  have ec : ((c + r : Nat) : Int) + (s : Int) = ((c + r + s : Nat) : Int) := by omega
  have ht := b5J (a := w7 k) (b := a.getD (c + r + s) 0 - a.getD (c + r) 0) (by omega) (by omega)
  unfold J7
  simp (disch := omega) only [if_pos, c7, M9, ec, Int.toNat_natCast, hzg, d2w hs hr (a := a) (c := c), d2v hr (a := a) (c := c), ht, a5V, Option.bind_some]
  rw [← hl, ← hh, c6h hr]
  rfl
 ·intro kn
  unfold J7
  simp (disch := omega) only [if_neg, c7]
  rw [c6g]
theorem d0S {β : Type} {s m : Nat} (hm : s * m = 128) (hs : 0 < s) (hs128 : s ≤ 128) (hm0 : 0 < m) (hm128 : m ≤ 128) {a : List Int} (ha : dred a) (res : List Int) (K : Int × Int × List Int × List Int × List Int × Unit → Option β) :
  m9 (N4 300) 300 (((2 * m : Nat) : Int), (s : Int), 0, a, res, (List.range 256).map w7, ()) K = K (((m : Nat) : Int), (s : Int), a4d s a, res, (List.range 256).map w7, ()) := by
 have hall : 2 * s * m = 256 := by rw [Nat.mul_assoc, hm]
 refine i9 (F := N4 300) (s := fun b => (((2 * m - b : Nat) : Int), (s : Int), ((2 * s * b : Nat) : Int), o5 (b7t (b7D s a) s a (2 * s * b) 0), res, (List.range 256).map w7, ())) (y := (((m : Nat) : Int), (s : Int), a4d s a, res, (List.range 256).map w7, ())) m ?_ ?_ ?_ 300 (by omega)
 ·rw [Nat.mul_zero, c6i ha.1]; rfl
 ·intro b hb kn
  have hat := d9P hm hb
  have hnext : 2 * s * (b + 1) = 2 * s * b + 2 * s := by rw [Nat.mul_add, Nat.mul_one]
  unfold N4
  dsimp only
  rw [if_pos (by omega), c7 (by omega) (by omega), show ((2 * m - b : Nat) : Int) - 1 = ((2 * m - 1 - b : Nat) : Int) by omega]
  refine (d0R hm hs hs128 hb hm128 ha res _).trans ?_
  rw [hnext]
  simp (disch := omega) only [c7]
  rw [show 2 * m - 1 - b = 2 * m - (b + 1) by omega, show ((2 * s * b : Nat) : Int) + 2 * (s : Int) = ((2 * s * b + 2 * s : Nat) : Int) by omega]
 ·intro kn
  unfold N4
  dsimp only
  rw [if_neg (by omega), hall, c9H, show 2 * m - m = m by omega]
  rfl
theorem c5c : ∀ x r, a5Y x = some r → ∃ N, a51 N x = some r := by
 refine i0 (ks := a5z) (rs := a5A) fun x hw _ => ⟨0, ?_⟩
 obtain ⟨(a : Int), u⟩ := x
 have ha : -2147483648 ≤ a ∧ a ≤ 2147483647 := t7.1 hw.1
 unfold a51
 dsimp only
 rw [b5J ha (by omega)]
 rfl
theorem d4s {a : Int} (h : -2147483648 ≤ a) (h' : a ≤ 2147483647) : a5Y (a, ()) = some (a * 8347681 % 8380417) :=
 d9 (ks := a5z) (rs := a5A) (x := (a, ())) ⟨t7.2 ⟨h, h'⟩, trivial⟩ trivial
theorem a8r : ∀ x r, E4 x = some r → ∃ N, E6 N x = some r := by
 refine i0 (ks := p8) (rs := p9) fun x hw _ => ⟨257, ?_⟩
 obtain ⟨(a : List Int), u, u'⟩ := x
 have ha : E7 256 a := w3.1 hw.1
 have hl := ha.1
 unfold E6
 refine (J2 (s := fun i => (a, (i : Int), part (fun i => a.getD i 0 * 8347681 % 8380417) i a, List.replicate 256 0, ())) (y := (o5 fun i => a.getD i 0 * 8347681 % 8380417, List.replicate 256 0, ())) 256 ?_ ?_ 257 (by omega)).trans ?_
 ·intro i hi kn
  have h0 := b1P ha i
  unfold u7
  simp (disch := omega) only [if_pos, c7, Int.toNat_natCast, d4s, Option.bind_some]
  rw [u5 (by omega) rfl, Int.natCast_add]
  rfl
 ·intro kn
  unfold u7
  simp (disch := omega) only [if_neg]
  rw [C3 hl]
  rfl
 ·rfl
theorem c4z : ∀ i, i < 8 → 2 ^ i * (128 / 2 ^ i) = 128 ∧ 0 < 2 ^ i ∧ 2 ^ i ≤ 128 ∧ 0 < 128 / 2 ^ i ∧ 128 / 2 ^ i ≤ 128 ∧ 2 * (128 / 2 ^ i) = 256 / 2 ^ i ∧ 128 / 2 ^ i = 256 / 2 ^ (i + 1) ∧ 2 * 2 ^ i = 2 ^ (i + 1) := by decide
theorem c8J : ∀ x r, a4j x = some r → ∃ N, a9Z N x = some r := by
 refine i0 (ks := Q7) (rs := a73) fun x hw _ => ⟨300, ?_⟩
 obtain ⟨(a : List Int), u⟩ := x
 have ha := c0y.1 hw
 unfold a9Z
 dsimp only
 rw [b5I ha, c52]
 simp only [Option.bind_some]
 generalize List.replicate 256 (0 : Int) = Z
 refine (J2 (F := Y2 300) (s := fun i => (((256 / 2 ^ i : Nat) : Int), ((2 ^ i : Nat) : Int), a2D a i, Z, (List.range 256).map w7, ())) (y := (a2D a 8, Z, ())) 8 ?_ ?_ 300 (by omega)).trans ?_
 ·intro i hi kn
  obtain ⟨f1, f2, f3, f4, f5, f6, f7, f8⟩ := c4z i hi
  unfold Y2
  dsimp only
  rw [if_pos (show ((2 ^ i : Nat) : Int) ≤ 128 from Int.ofNat_le.2 f3), ← f6]
  refine (d0S f1 f2 f3 f4 f5 (c1d a i) _ _).trans ?_
  simp (disch := omega) only [c7]
  rw [f7, show ((2 ^ i : Nat) : Int) * 2 = ((2 ^ (i + 1) : Nat) : Int) by omega]
  rfl
 ·intro kn
  unfold Y2
  dsimp only
  rw [if_neg (by decide)]
 have hr := (c1d a 8).i32
 have h : E4 (a2D a 8, (), ()) = some (a5x a) := d9 (ks := p8) (rs := p9) (x := (a2D a 8, (), ())) ⟨w3.2 hr, trivial, trivial⟩ trivial
 dsimp only
 rw [h]
 rfl
theorem c7Q {a : List Int} (h : E7 256 a) : a4j (a, ()) = some (a5x a) := d9 (ks := Q7) (rs := a73) (x := (a, ())) (c0y.2 h) trivial
theorem c3r : ∀ x r, a0c x = some r → ∃ N, a4G N x = some r := by
 refine i0 (ks := S2) (rs := S3) fun x hw _ => ⟨300, ?_⟩
 obtain ⟨(a : List Int), (b : List Int), u⟩ := x
 obtain ⟨ha, hb⟩ := c3G.1 hw
 unfold a4G
 generalize List.replicate 256 (0 : Int) = Z
 refine (J2 (F := K9 300) (s := fun i => ((i : Int), part (fun j => a.getD j 0 * b.getD j 0 % 8380417) i a, b, Z, ())) (y := (a45 a b, Z, ())) 256 ?_ ?_ 300 (by omega)).trans ?_
 ·intro i hi kn
  have h1 := b1P ha i
  have h2 := b1P hb i
  have hp : (part (fun j => a.getD j 0 * b.getD j 0 % 8380417) i a).getD i 0 = a.getD i 0 := b66 (Nat.le_refl i)
  unfold K9
  dsimp only
  rw [if_pos (by omega), if_pos (by omega), if_pos (by omega), Int.toNat_natCast, if_pos hi, if_pos (by omega), if_pos (by omega), if_pos hi, hp, b5J h1 h2]
  simp only [Option.bind_some]
  rw [if_pos (by omega), if_pos (by omega), if_pos hi, u5 (h := fun j => a.getD j 0 * b.getD j 0 % 8380417) (i := i) (a := a) (z := a.getD i 0 * b.getD i 0 % 8380417) (by rw [ha.1]; exact hi) rfl, c7 (by omega) (by omega), Int.natCast_add]
  rfl
 ·intro kn
  unfold K9
  dsimp only
  rw [if_neg (by omega), C3 ha.1]
  rfl
 ·rfl
theorem c0O {a b : List Int} (h : E7 256 a) (h' : E7 256 b) : a0c (a, b, ()) = some (a45 a b) := d9 (ks := S2) (rs := S3) (x := (a, b, ())) (c3G.2 ⟨h, h'⟩) trivial
theorem c8K : ∀ x r, U7 x = some r → ∃ N, a90 N x = some r := by
 refine i0 (ks := a1T) (rs := a1U) fun x hw _ => ⟨0, ?_⟩
 obtain ⟨(a : List Int), (b : List Int), u⟩ := x
 obtain ⟨ha, hb⟩ := c3G.1 hw
 show _ = some (a3S a b)
 unfold a90
 have hz := d0Z
 dsimp only
 generalize List.replicate 256 (0 : Int) = Z at hz ⊢
 by_cases h1 : a = Z
 ·rw [if_pos h1, h1, hz]
 ·rw [if_neg h1]
  by_cases h2 : b = Z
  ·rw [if_pos h2, h2, d0Y, hz]
  ·rw [if_neg h2, c0M ha, c0M hb]
   simp only [Option.bind_some]
   rw [c0O (a6t a).i32 (a6t b).i32]
   simp only [Option.bind_some]
   rw [c7Q (b7H _ _).i32]
   rfl
theorem c7R {a b : List Int} (h : E7 256 a) (h' : E7 256 b) : U7 (a, b, ()) = some (a3S a b) := d9 (ks := a1T) (rs := a1U) (x := (a, b, ())) (c3G.2 ⟨h, h'⟩) trivial
theorem d1Z {a b : List Int} (h : E7 256 a) (h' : E7 256 b) : a0F (a, b, ()) = some (a46 a b) := d9 (ks := a1V) (rs := a1W) (x := (a, b, ())) (c3G.2 ⟨h, h'⟩) trivial
end Go.Ax.TryP
