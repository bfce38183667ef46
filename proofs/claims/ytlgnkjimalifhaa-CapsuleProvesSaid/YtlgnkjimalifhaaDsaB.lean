/- A part of the proof: DdS1, DdP1, DdQ1, DdQ2. -/
import Derived.Test.YtlgnkjimalifhaaDsaA
set_option linter.unusedVariables false
namespace Go.Ax.TryP
open Go.Proofs
def x7 (h : Nat → Int) : List Int := (List.range 256).map h
def a03 (a : List Int) : List Int := x7 fun i => a.getD i 0 % 8380417
def d2M (n : Nat) : Nat := (List.range 8).foldl (fun s i => 2 * s + n / 2 ^ i % 2) 0
def R9 (k : Nat) : Int := 1753 ^ d2M k % 8380417
def b5F (s : Nat) (a : List Int) (j : Nat) : Int :=
 if j % (2 * s) < s then (a.getD j 0 + R9 (128 / s + j / (2 * s)) * a.getD (j + s) 0 % 8380417) % 8380417
 else (a.getD (j - s) 0 - R9 (128 / s + j / (2 * s)) * a.getD j 0 % 8380417) % 8380417
def c2m (s : Nat) (a : List Int) : List Int := x7 (b5F s a)
def b86 (a : List Int) : Nat → List Int
 | 0 => a03 a
 | i + 1 => c2m (128 / 2 ^ i) (b86 a i)
def a2P (a : List Int) : List Int := b86 a 8
def blk (m : Nat) (a : List Int) (b : Nat) : List Int := (a.drop (b * m)).take m
theorem b3G (h : Nat → Int) : (x7 h).length = 256 := by simp [x7]
theorem a0B {h : Nat → Int} {i : Nat} (hi : i < 256) : (x7 h).getD i 0 = h i := u9 hi
def b5E (s : Nat) (a : List Int) (j : Nat) : Int :=
 if j % (2 * s) < s then (a.getD j 0 + a.getD (j + s) 0) % 8380417
 else R9 (2 * (128 / s) - 1 - j / (2 * s)) * (a.getD j 0 - a.getD (j - s) 0) % 8380417
def c2k (s : Nat) (a : List Int) : List Int := x7 (b5E s a)
def b2o (a : List Int) : Nat → List Int
 | 0 => a03 a
 | i + 1 => c2k (2 ^ i) (b2o a i)
def c3Y (a : List Int) : List Int := x7 fun j => (b2o a 8).getD j 0 * 8347681 % 8380417
def d4K : List Int := List.replicate 256 0
def b9d (x m : Int) : Int := if x % m > m / 2 then x % m - m else x % m
def d3v (z : Int) : Int := b9d (z % 8380417) 523776
def fDl (z : Int) : Int := if z % 8380417 - d3v z = 8380416 then d3v z - 1 else d3v z
def fDh (z : Int) : Int := if z % 8380417 - d3v z = 8380416 then 0 else (z % 8380417 - d3v z) / 523776
def c85 (a : List Int) : List Int × List Int := (x7 fun i => fDh (a.getD i 0), x7 fun i => fDl (a.getD i 0))
noncomputable def w8 : Int × Unit → Option Int := P0 (ks := [.int .i64]) (rs := [.int .i32]) (fun _ => True) fun x => x.1 % 8380417
noncomputable def a1v : Int × Unit → Option Int := P0 (ks := [.int .i32]) (rs := [.int .i32]) (fun _ => True) fun x => x.1 % 8380417
noncomputable def A7 : List Int × Unit × Unit → Option (List Int) := P0 (ks := [.xs (.int .i32) 256, .fnc 69]) (rs := [.xs (.int .i32) 256]) (fun _ => True) fun x => a03 x.1
noncomputable def X8 : List Int × Unit → Option (List Int) := P0 (ks := [.xs (.int .i32) 256]) (rs := [.xs (.int .i32) 256]) (fun _ => True) fun x => a03 x.1
noncomputable def a54 : Int × Int × Unit → Option Int := P0 (ks := [.int .i32, .int .i32]) (rs := [.int .i32]) (fun x => 0 ≤ x.1 ∧ x.1 ≤ 8380416 ∧ 0 < x.2.1 ∧ x.2.1 ≤ 523776) fun x => b9d x.1 x.2.1
noncomputable def a4t : Int × Unit → Option (Int × Int) := P0 (ks := [.int .i32]) (rs := [.int .i32, .int .i32]) (fun _ => True) fun x => (fDh x.1, fDl x.1)
noncomputable def a0D : List Int × Unit → Option (List Int × List Int) := P0 (ks := [.xs (.int .i32) 256]) (rs := [.xs (.int .i32) 256, .xs (.int .i32) 256]) (fun _ => True) fun x => c85 x.1
def b3Q (a b : List Int) : List Int := x7 fun j => a.getD j 0 * b.getD j 0 % 8380417
def d4O (a b : List Int) : List Int := c3Y (b3Q (a2P a) (a2P b))
noncomputable def L9 : Int × Int × Unit → Option Int := P0 (ks := [.int .i32, .int .i32]) (rs := [.int .i32]) (fun _ => True) fun x => x.1 * x.2.1 % 8380417
noncomputable def a06 : Unit → Option (List Int) := P0 (ks := []) (rs := [.xs (.int .i32) 256]) (fun _ => True) fun _ => (List.range 256).map R9
noncomputable def a24 : List Int × Unit → Option (List Int) := P0 (ks := [.xs (.int .i32) 256]) (rs := [.xs (.int .i32) 256]) (fun _ => True) fun x => a2P x.1
noncomputable def a4s : Int × Unit → Option Int := P0 (ks := [.int .i32]) (rs := [.int .i32]) (fun _ => True) fun x => x.1 * 8347681 % 8380417
noncomputable def E0 : List Int × Unit × Unit → Option (List Int) := P0 (ks := [.xs (.int .i32) 256, .fnc 55]) (rs := [.xs (.int .i32) 256]) (fun _ => True) fun x => x7 fun j => x.1.getD j 0 * 8347681 % 8380417
noncomputable def a8b : List Int × Unit → Option (List Int) := P0 (ks := [.xs (.int .i32) 256]) (rs := [.xs (.int .i32) 256]) (fun _ => True) fun x => c3Y x.1
noncomputable def a05 : List Int × List Int × Unit → Option (List Int) := P0 (ks := [.xs (.int .i32) 256, .xs (.int .i32) 256]) (rs := [.xs (.int .i32) 256]) (fun _ => True) fun x => b3Q x.1 x.2.1
noncomputable def a2i : Int × Unit → Option (Int) := P0 (ks := [.int .u8]) (rs := [.int .u8]) (fun _ => True) fun x => (d2M x.1.toNat : Int)
def c8d (z : Int) : Int := if z % 8380417 > 4190208 then z % 8380417 - 8380417 else z % 8380417
def c5y (a : List Int) : List Int := x7 fun i => c8d (a.getD i 0)
def d4l (z : Int) : Int := if z < 0 then -z else z
@[irreducible] def b9t (a : List Int) (n : Nat) : Int := (List.range n).foldl (fun m i => if d4l (c8d (a.getD i 0)) > m then d4l (c8d (a.getD i 0)) else m) 0
def c9O (a : List Int) : Int := b9t a 256
def c8e (a b : List Int) : List Int := x7 fun i => (a.getD i 0 + b.getD i 0) % 8380417
def c3Z (a b : List Int) : List Int := x7 fun i => (a.getD i 0 - b.getD i 0) % 8380417
def d2H (z r : List Int) (i : Nat) : Int := if fDh (r.getD i 0) ≠ fDh ((r.getD i 0 + z.getD i 0) % 8380417) then 1 else 0
@[irreducible] def d6s (h : Nat → Int) (n : Nat) : Int := (List.range n).foldl (fun m i => if h i ≠ 0 then m + 1 else m) 0
def d5X (z r : List Int) : List Int × Int := (x7 (d2H z r), d6s (d2H z r) 256)
def b5r (h r : Int) : Int := if h ≠ 0 then if fDl r > 0 then (fDh r + 1) % 16 else (fDh r + 15) % 16 else fDh r
def d3w (h r : List Int) : List Int := x7 fun i => b5r (h.getD i 0) (r.getD i 0)
noncomputable def a2j : Int × Unit → Option Int := P0 (ks := [.int .i32]) (rs := [.int .i32]) (fun _ => True) fun x => c8d x.1
noncomputable def B3 : List Int × Unit × Unit → Option (List Int) := P0 (ks := [.xs (.int .i32) 256, .fnc 68]) (rs := [.xs (.int .i32) 256]) (fun _ => True) fun x => c5y x.1
noncomputable def a3q : List Int × Unit → Option (List Int) := P0 (ks := [.xs (.int .i32) 256]) (rs := [.xs (.int .i32) 256]) (fun _ => True) fun x => c5y x.1
noncomputable def a52 : List Int × Unit → Option Int := P0 (ks := [.xs (.int .i32) 256]) (rs := [.int .i32]) (fun _ => True) fun x => c9O x.1
noncomputable def a8a : List Int × List Int × Unit → Option (List Int) := P0 (ks := [.xs (.int .i32) 256, .xs (.int .i32) 256]) (rs := [.xs (.int .i32) 256]) (fun _ => True) fun x => c8e x.1 x.2.1
noncomputable def a8c : List Int × List Int × Unit → Option (List Int) := P0 (ks := [.xs (.int .i32) 256, .xs (.int .i32) 256]) (rs := [.xs (.int .i32) 256]) (fun _ => True) fun x => c3Z x.1 x.2.1
noncomputable def a0c : List Int × List Int × Unit → Option (List Int) := P0 (ks := [.xs .bool 256, .xs (.int .i32) 256]) (rs := [.xs (.int .i32) 256]) (fun _ => True) fun x => d3w x.1 x.2.1
end Go.Ax.TryP
set_option linter.unusedVariables false
namespace Go.Ax.TryP
open Go.Proofs
noncomputable def p_dring_below_E : AE := AE.of [(2, ty2), (21, ty21)] []
noncomputable def b9N : Hints := [(3000000, [2])]
noncomputable def b9O : Code := (Try.f52).body.getD .skip
abbrev a37 : List Kd := [.int .i64]
abbrev a38 : List Kd := [.int .i32]
noncomputable def a4A (N : Nat) (x : Int × Unit) : Option (Int) :=
 if ((Int.tmod x.1 (8380417:Int)) < (0:Int)) then
  some (IntKind.i32.wrap (IntKind.i64.wrap ((Int.tmod x.1 (8380417:Int)) + (8380417:Int))))
 else
  some (IntKind.i32.wrap (Int.tmod x.1 (8380417:Int)))
theorem b6v : p_dring_below_E.Ok Try.prog := AE.of_ok (all_cons b0I (all_cons G6 b5)) b5
theorem b70 (hE : p_dring_below_E.Ok Try.prog) {g : Ds [.int .i64] → Option (Rs [.int .i32])} (hg : ∀ x r, g x = some r → ∃ N, a4A N x = some r) : b6 Try.prog 52 ⟨[.int .i64], [.int .i32], g⟩ :=
 d6 (E := p_dring_below_E) (H := b9N) (L := fun N => LT.nil) (c := b9O) (ks := a37) (rs := a38) (F := a4A) hE mix Try.func52 (by kernel_rfl) (fun N => OkAll.nil) (fun _ _ => by kernel_rfl) hg
noncomputable abbrev i7 : Sig := ⟨[.int .i64], [.int .i32], w8⟩
noncomputable def p_dring_Reduce_1_E : AE := AE.of [(2, ty2), (21, ty21)] [(52, i7)]
noncomputable def b4x : Hints := [(3000000, [2])]
noncomputable def b4y : Code := (Try.f69).body.getD .skip
abbrev a1T : List Kd := [.int .i32]
abbrev a1U : List Kd := [.int .i32]
noncomputable def a1A (N : Nat) (x : Int × Unit) : Option (Int) :=
 (w8 ((IntKind.i64.wrap x.1), ())).bind fun r1 => (
 some r1)
theorem b1k (e0 : b6 Try.prog 52 i7) : p_dring_Reduce_1_E.Ok Try.prog := AE.of_ok (all_cons b0I (all_cons G6 b5)) (all_cons ⟨e0, u5⟩ b5)
theorem b2O (hE : p_dring_Reduce_1_E.Ok Try.prog) {g : Ds [.int .i32] → Option (Rs [.int .i32])} (hg : ∀ x r, g x = some r → ∃ N, a1A N x = some r) : b6 Try.prog 69 ⟨[.int .i32], [.int .i32], g⟩ :=
 d6 (E := p_dring_Reduce_1_E) (H := b4x) (L := fun N => LT.nil) (c := b4y) (ks := a1T) (rs := a1U) (F := a1A) hE mix Try.func69 (by kernel_rfl) (fun N => OkAll.nil) (fun _ _ => by kernel_rfl) hg
noncomputable abbrev a3Y : Sig := ⟨[.int .i32], [.int .i32], a1v⟩
noncomputable def p_dring_each__dring_Reduce_1_E : AE := AE.of [(21, ty21), (53, ty53)] [(69, a3Y)]
noncomputable def S3 : Hints := [(2, [1, 2, 4, 7, 8]), (2000000, [2, 4]), (2000001, [1, 2, 4, 7, 8]), (3000000, [4])]
noncomputable def F2 : Code := (Try.f46).body.getD .skip
noncomputable def a2y : Shape := mkS { tmps := V :: .sc (.fn 69) :: .sc (.ptr 0 0 false) :: V :: .sc (.ptr 1 0 false) :: V :: V :: .agg [.xs b32 (some 256)] :: .sc (.int .i64) :: pv 10 [], mem := [.live [.xs b32 (some 256)] (.own), .live [.xs b32 (some 256)] (.own)] } [.xs, .int, .xs, .xs]
abbrev W12 : Type := List Int × Int × List Int × List Int × Unit
noncomputable def n4 (N : Nat) (β : Type) (x : W12) (kn : W12 → Option β) (ke : W5 → Option β) : Option β :=
 if (x.2.1 < (256:Int)) then
  if 0 ≤ x.2.1 then (
  if x.2.1 < 256 then (
  if (x.2.1.toNat) < 256 then (
  (a1v ((List.getD x.1 (x.2.1.toNat) 0), ())).bind fun r1 => (
  if 0 ≤ x.2.1 then (
  if x.2.1 < 256 then (
  if (x.2.1.toNat) < 256 then (
  kn (x.1, (IntKind.i64.wrap (x.2.1 + (1:Int))), (List.set x.2.2.1 (x.2.1.toNat) r1), x.2.2.2.1, ())) else none) else none) else none)) else none) else none) else none
 else
  ke (x.2.2.1, x.2.2.2.1, ())
noncomputable def a2a : Go' W5 := fun y K => K (.exit 0) (fSt { tmps := V :: V :: .sc (.ptr 0 0 false) :: V :: .sc (.ptr 1 0 false) :: pv 14 [], mem := [.live [.xs b32 (some 256)] (.own), .live [.xs b32 (some 256)] (.own)] } [.xs, .xs] y)
noncomputable def N1 (N : Nat) : LT := upd (LT.nil) 2 (C6 a2y N (n4 N) a2a)
theorem a2b (N : Nat) : OkAll p_dring_each__dring_Reduce_1_E S3 N (N1 N) (E4 F2) :=
 d8 (c := d9 2 F2) (OkAll.nil) (by kernel_rfl) (fun x => by kernel_rfl) (fun β x kn ke => by kernel_rfl)
abbrev i9 : List Kd := [.xs b32 256, .fnc 69]
abbrev j4 : List Kd := [.xs b32 256]
noncomputable def A8 (N : Nat) (x : List Int × Unit × Unit) : Option (List Int) :=
 E1 (n4 N) N (x.1, (0:Int), x.1, (List.replicate 256 0), ()) fun y2 => (
 some y2.1)
theorem a2Q (e0 : b6 Try.prog 69 a3Y) : p_dring_each__dring_Reduce_1_E.Ok Try.prog := AE.of_ok (all_cons G6 (all_cons G7 b5)) (all_cons ⟨e0, a9M⟩ b5)
theorem a3d (hE : p_dring_each__dring_Reduce_1_E.Ok Try.prog) {g : Ds i9 → Option (Rs j4)} (hg : ∀ x r, g x = some r → ∃ N, A8 N x = some r) : b6 Try.prog 46 ⟨i9, j4, g⟩ :=
 d6 (E := p_dring_each__dring_Reduce_1_E) (H := S3) (L := fun N => N1 N) (c := F2) (ks := i9) (rs := j4) (F := A8) hE mix Try.func46 (by kernel_rfl) (fun N => a2b N) (fun _ _ => by kernel_rfl) hg
noncomputable abbrev I0 : Sig := ⟨[.xs b32 256, .fnc 69], [.xs b32 256], A7⟩
noncomputable def p_dring_Reduce_E : AE := AE.of [(53, ty53)] [(46, I0)]
noncomputable def b7X : Hints := [(3000000, [2])]
noncomputable def b7Y : Code := (Try.f49).body.getD .skip
abbrev D7 : List Kd := [.xs b32 256]
abbrev a29 : List Kd := [.xs b32 256]
noncomputable def a3w (N : Nat) (x : List Int × Unit) : Option (List Int) :=
 (A7 (x.1, (), ())).bind fun r1 => (
 some r1)
theorem b4z (e0 : b6 Try.prog 46 I0) : p_dring_Reduce_E.Ok Try.prog := AE.of_ok (all_cons G7 b5) (all_cons ⟨e0, a0C⟩ b5)
theorem b6q (hE : p_dring_Reduce_E.Ok Try.prog) {g : Ds D7 → Option (Rs D7)} (hg : ∀ x r, g x = some r → ∃ N, a3w N x = some r) : b6 Try.prog 49 ⟨D7, D7, g⟩ :=
 d6 (E := p_dring_Reduce_E) (H := b7X) (L := fun N => LT.nil) (c := b7Y) (ks := D7) (rs := a29) (F := a3w) hE mix Try.func49 (by kernel_rfl) (fun N => OkAll.nil) (fun _ _ => by kernel_rfl) hg
noncomputable def p_dring_near_E : AE := AE.of [] []
noncomputable def c0S : Hints := [(3000000, [4])]
noncomputable def c0T : Code := (Try.f77).body.getD .skip
abbrev a0n : List Kd := [.int .i32, .int .i32]
abbrev a5l : List Kd := [.int .i32]
noncomputable def a6f (N : Nat) (x : Int × Int × Unit) : Option (Int) :=
 if x.2.1 = 0 then none else (
 if ((Int.tmod x.1 x.2.1) > (IntKind.i32.wrap (Int.tdiv x.2.1 (2:Int)))) then
  some (IntKind.i32.wrap ((Int.tmod x.1 x.2.1) - x.2.1))
 else
  some (Int.tmod x.1 x.2.1))
theorem b71 : p_dring_near_E.Ok Try.prog := AE.of_ok b5 b5
theorem b9P (hE : p_dring_near_E.Ok Try.prog) {g : Ds a0n → Option (Rs [.int .i32])} (hg : ∀ x r, g x = some r → ∃ N, a6f N x = some r) : b6 Try.prog 77 ⟨a0n, [.int .i32], g⟩ :=
 d6 (E := p_dring_near_E) (H := c0S) (L := fun N => LT.nil) (c := c0T) (ks := a0n) (rs := a5l) (F := a6f) hE mix Try.func77 (by kernel_rfl) (fun N => OkAll.nil) (fun _ _ => by kernel_rfl) hg
noncomputable abbrev a9z : Sig := ⟨[.int .i32, .int .i32], [.int .i32], a54⟩
noncomputable def p_dring_parts_E : AE := AE.of [(2, ty2), (21, ty21)] [(52, i7), (77, a9z)]
noncomputable def b9R : Hints := [(3000000, [2, 3])]
noncomputable def b9S : Code := (Try.f71).body.getD .skip
abbrev a4a : List Kd := [.int .i32]
abbrev V8 : List Kd := [.int .i32, .int .i32]
noncomputable def a4C (N : Nat) (x : Int × Unit) : Option (Int × Int) :=
 (w8 ((IntKind.i64.wrap x.1), ())).bind fun r1 => (
 (a54 (r1, (523776:Int), ())).bind fun r2 => (
 if ((IntKind.i32.wrap (r1 - r2)) = (8380416:Int)) then
  some ((0:Int), (IntKind.i32.wrap (r2 - (1:Int))))
 else
  some ((IntKind.i32.wrap (Int.tdiv (IntKind.i32.wrap (r1 - r2)) (523776:Int))), r2)))
theorem b6z (e0 : b6 Try.prog 52 i7) (e1 : b6 Try.prog 77 a9z) : p_dring_parts_E.Ok Try.prog := AE.of_ok (all_cons b0I (all_cons G6 b5)) (all_cons ⟨e0, u5⟩ (all_cons ⟨e1, b5K⟩ b5))
theorem b73 (hE : p_dring_parts_E.Ok Try.prog) {g : Ds [.int .i32] → Option (Rs V8)} (hg : ∀ x r, g x = some r → ∃ N, a4C N x = some r) : b6 Try.prog 71 ⟨[.int .i32], V8, g⟩ :=
 d6 (E := p_dring_parts_E) (H := b9R) (L := fun N => LT.nil) (c := b9S) (ks := a4a) (rs := V8) (F := a4C) hE mix Try.func71 (by kernel_rfl) (fun N => OkAll.nil) (fun _ _ => by kernel_rfl) hg
noncomputable abbrev a7Z : Sig := ⟨[.int .i32], [.int .i32, .int .i32], a4t⟩
noncomputable def p_dring_Decompose_E : AE := AE.of [(21, ty21), (53, ty53)] [(71, a7Z)]
noncomputable def a5f : Hints := [(2, [2, 3, 6, 7]), (2000000, [2, 3]), (2000001, [2, 3, 6, 7]), (3000000, [2, 3])]
noncomputable def a1S : Code := (Try.f56).body.getD .skip
noncomputable def a9k : Shape := mkS { tmps := V :: V :: .sc (.ptr 0 0 false) :: .sc (.ptr 1 0 false) :: V :: V :: .agg [.xs b32 (some 256)] :: .sc (.int .i64) :: pv 15 [], mem := [.live [.xs b32 (some 256)] (.own), .live [.xs b32 (some 256)] (.own)] } [.xs, .int, .xs, .xs]
noncomputable def K4 (N : Nat) (β : Type) (x : W12) (kn : W12 → Option β) (ke : W5 → Option β) : Option β :=
 if (x.2.1 < (256:Int)) then
  if 0 ≤ x.2.1 then (
  if x.2.1 < 256 then (
  if (x.2.1.toNat) < 256 then (
  (a4t ((List.getD x.1 (x.2.1.toNat) 0), ())).bind fun r1 => (
  if 0 ≤ x.2.1 then (
  if x.2.1 < 256 then (
  if (x.2.1.toNat) < 256 then (
  if 0 ≤ x.2.1 then (
  if x.2.1 < 256 then (
  if (x.2.1.toNat) < 256 then (
  kn (x.1, (IntKind.i64.wrap (x.2.1 + (1:Int))), (List.set x.2.2.1 (x.2.1.toNat) r1.1), (List.set x.2.2.2.1 (x.2.1.toNat) r1.2), ())) else none) else none) else none) else none) else none) else none)) else none) else none) else none
 else
  ke (x.2.2.1, x.2.2.2.1, ())
noncomputable def a8t : Go' W5 := fun y K => K (.exit 0) (fSt { tmps := V :: V :: .sc (.ptr 0 0 false) :: .sc (.ptr 1 0 false) :: pv 19 [], mem := [.live [.xs b32 (some 256)] (.own), .live [.xs b32 (some 256)] (.own)] } [.xs, .xs] y)
noncomputable def a2Y (N : Nat) : LT := upd (LT.nil) 2 (C6 a9k N (K4 N) a8t)
theorem a8u (N : Nat) : OkAll p_dring_Decompose_E a5f N (a2Y N) (E4 a1S) :=
 d8 (c := d9 2 a1S) (OkAll.nil) (by kernel_rfl) (fun x => by kernel_rfl) (fun β x kn ke => by kernel_rfl)
abbrev G8 : List Kd := [.xs b32 256]
abbrev G9 : List Kd := [.xs b32 256, .xs b32 256]
noncomputable def a0G (N : Nat) (x : List Int × Unit) : Option (List Int × List Int) :=
 E1 (K4 N) N (x.1, (0:Int), (List.replicate 256 0), (List.replicate 256 0), ()) fun y2 => (
 some (y2.1, y2.2.1))
theorem a93 (e0 : b6 Try.prog 71 a7Z) : p_dring_Decompose_E.Ok Try.prog := AE.of_ok (all_cons G6 (all_cons G7 b5)) (all_cons ⟨e0, b3N⟩ b5)
theorem b1h (hE : p_dring_Decompose_E.Ok Try.prog) {g : Ds G8 → Option (Rs G9)} (hg : ∀ x r, g x = some r → ∃ N, a0G N x = some r) : b6 Try.prog 56 ⟨G8, G9, g⟩ :=
 d6 (E := p_dring_Decompose_E) (H := a5f) (L := fun N => a2Y N) (c := a1S) (ks := G8) (rs := G9) (F := a0G) hE mix Try.func56 (by kernel_rfl) (fun N => a8u N) (fun _ _ => by kernel_rfl) hg
noncomputable def p_dring_times_E : AE := AE.of [(2, ty2), (21, ty21)] [(52, i7)]
noncomputable def b9T : Hints := [(3000000, [4])]
noncomputable def b9U : Code := (Try.f51).body.getD .skip
abbrev X0 : List Kd := [.int .i32, .int .i32]
abbrev a4c : List Kd := [.int .i32]
noncomputable def a4D (N : Nat) (x : Int × Int × Unit) : Option (Int) :=
 (w8 ((IntKind.i64.wrap ((IntKind.i64.wrap x.1) * (IntKind.i64.wrap x.2.1))), ())).bind fun r1 => (
 some r1)
theorem b6B (e0 : b6 Try.prog 52 i7) : p_dring_times_E.Ok Try.prog := AE.of_ok (all_cons b0I (all_cons G6 b5)) (all_cons ⟨e0, u5⟩ b5)
theorem b74 (hE : p_dring_times_E.Ok Try.prog) {g : Ds X0 → Option (Rs [.int .i32])} (hg : ∀ x r, g x = some r → ∃ N, a4D N x = some r) : b6 Try.prog 51 ⟨X0, [.int .i32], g⟩ :=
 d6 (E := p_dring_times_E) (H := b9T) (L := fun N => LT.nil) (c := b9U) (ks := X0) (rs := a4c) (F := a4D) hE mix Try.func51 (by kernel_rfl) (fun N => OkAll.nil) (fun _ _ => by kernel_rfl) hg
noncomputable def p_bits_Reverse8_s0 : ByteArray := ⟨#[0, 128, 64, 192, 32, 160, 96, 224, 16, 144, 80, 208, 48, 176, 112, 240, 8, 136, 72, 200, 40, 168, 104, 232, 24, 152, 88, 216, 56, 184, 120, 248, 4, 132, 68, 196, 36, 164, 100, 228, 20, 148, 84, 212, 52, 180, 116, 244, 12, 140, 76, 204, 44, 172, 108, 236, 28, 156, 92, 220, 60, 188, 124, 252, 2, 130, 66, 194, 34, 162, 98, 226, 18, 146, 82, 210, 50, 178, 114, 242, 10, 138, 74, 202, 42, 170, 106, 234, 26, 154, 90, 218, 58, 186, 122, 250, 6, 134, 70, 198, 38, 166, 102, 230, 22, 150, 86, 214, 54, 182, 118, 246, 14, 142, 78, 206, 46, 174, 110, 238, 30, 158, 94, 222, 62, 190, 126, 254, 1, 129, 65, 193, 33, 161, 97, 225, 17, 145, 81, 209, 49, 177, 113, 241, 9, 137, 73, 201, 41, 169, 105, 233, 25, 153, 89, 217, 57, 185, 121, 249, 5, 133, 69, 197, 37, 165, 101, 229, 21, 149, 85, 213, 53, 181, 117, 245, 13, 141, 77, 205, 45, 173, 109, 237, 29, 157, 93, 221, 61, 189, 125, 253, 3, 131, 67, 195, 35, 163, 99, 227, 19, 147, 83, 211, 51, 179, 115, 243, 11, 139, 75, 203, 43, 171, 107, 235, 27, 155, 91, 219, 59, 187, 123, 251, 7, 135, 71, 199, 39, 167, 103, 231, 23, 151, 87, 215, 55, 183, 119, 247, 15, 143, 79, 207, 47, 175, 111, 239, 31, 159, 95, 223, 63, 191, 127, 255]⟩
noncomputable def p_bits_Reverse8_E : AE := AE.of [(9, ty9)] []
noncomputable def b5X : Hints := [(3000000, [2])]
noncomputable def b5Y : Code := (Try.f70).body.getD .skip
abbrev a2n : List Kd := [.int .u8]
abbrev a2o : List Kd := [.int .u8]
noncomputable def a2m (N : Nat) (x : Int × Unit) : Option (Int) :=
 if 0 ≤ x.1 then (
 if x.1 < ((ByteArray.size p_bits_Reverse8_s0 : Nat) : Int) then (
 some (bt p_bits_Reverse8_s0 (x.1.toNat))) else none) else none
theorem b2B : p_bits_Reverse8_E.Ok Try.prog := AE.of_ok (all_cons d2V b5) b5
theorem b38 (hE : p_bits_Reverse8_E.Ok Try.prog) {g : Ds [.int .u8] → Option (Rs [.int .u8])} (hg : ∀ x r, g x = some r → ∃ N, a2m N x = some r) : b6 Try.prog 70 ⟨[.int .u8], [.int .u8], g⟩ :=
 d6 (E := p_bits_Reverse8_E) (H := b5X) (L := fun N => LT.nil) (c := b5Y) (ks := a2n) (rs := a2o) (F := a2m) hE mix Try.func70 (by kernel_rfl) (fun N => OkAll.nil) (fun _ _ => by kernel_rfl) hg
noncomputable abbrev B1 : Sig := ⟨[.int .i32, .int .i32], [.int .i32], L9⟩
noncomputable abbrev a4Q : Sig := ⟨[.int .u8], [.int .u8], a2i⟩
noncomputable def p_dring_powers_E : AE := AE.of [(3, ty3), (5, ty5), (21, ty21), (52, ty52)] [(51, B1), (70, a4Q)]
noncomputable def a4b : Hints := [(4, [0, 1, 2, 3]), (8, [0, 1, 2, 17]), (2000000, [0, 1, 2]), (2000001, [0, 1, 2, 3]), (2000002, [0, 2]), (2000003, [0, 1, 2, 17]), (3000000, [0])]
noncomputable def V9 : Code := (Try.f50).body.getD .skip
noncomputable def b2W : Shape := mkS { tmps := .sc (.ptr 0 0 false) :: .sc (.ptr 1 0 false) :: .sc (.ptr 2 0 false) :: .sc (.int .i64) :: pv 25 [], mem := [.live [.xs b32 (some 256)] (.own), .live [.xs b32 (some 256)] (.own), .live [.xs b32 (some 256)] (.own)] } [.int, .xs, .xs, .xs]
noncomputable def J3 (N : Nat) (β : Type) (x : W4) (kn : W4 → Option β) (ke : W3 → Option β) : Option β :=
 if (x.1 < (256:Int)) then
  if 0 ≤ (IntKind.i64.wrap (x.1 - (1:Int))) then (
  if (IntKind.i64.wrap (x.1 - (1:Int))) < 256 then (
  if ((IntKind.i64.wrap (x.1 - (1:Int))).toNat) < 256 then (
  (L9 ((List.getD x.2.2.1 ((IntKind.i64.wrap (x.1 - (1:Int))).toNat) 0), (1753:Int), ())).bind fun r1 => (
  if 0 ≤ x.1 then (
  if x.1 < 256 then (
  if (x.1.toNat) < 256 then (
  kn ((IntKind.i64.wrap (x.1 + (1:Int))), x.2.1, (List.set x.2.2.1 (x.1.toNat) r1), x.2.2.2.1, ())) else none) else none) else none)) else none) else none) else none
 else
  ke (x.2.1, x.2.2.1, x.2.2.2.1, ())
noncomputable def b1u : Go' W3 := fun y K => K (.exit 0) (fSt { tmps := .sc (.ptr 0 0 false) :: .sc (.ptr 1 0 false) :: .sc (.ptr 2 0 false) :: pv 26 [], mem := [.live [.xs b32 (some 256)] (.own), .live [.xs b32 (some 256)] (.own), .live [.xs b32 (some 256)] (.own)] } [.xs, .xs, .xs] y)
noncomputable def a5m (N : Nat) : LT := upd (LT.nil) 4 (C6 b2W N (J3 N) b1u)
theorem b1v (N : Nat) : OkAll p_dring_powers_E a4b N (a5m N) (E4 V9) :=
 d8 (c := d9 4 V9) (OkAll.nil) (by kernel_rfl) (fun x => by kernel_rfl) (fun β x kn ke => by kernel_rfl)
noncomputable def b2X : Shape := mkS { tmps := .sc (.ptr 0 0 false) :: .sc (.ptr 1 0 false) :: .sc (.ptr 2 0 false) :: pv 14 (.sc (.int .i64) :: pv 11 []), mem := [.live [.xs b32 (some 256)] (.own), .live [.xs b32 (some 256)] (.own), .live [.xs b32 (some 256)] (.own)] } [.int, .xs, .xs, .xs]
noncomputable def J4 (N : Nat) (β : Type) (x : W4) (kn : W4 → Option β) (ke : W5 → Option β) : Option β :=
 if (x.1 < (256:Int)) then
  (a2i ((IntKind.u8.wrap x.1), ())).bind fun r3 => (
  if 0 ≤ r3 then (
  if r3 < 256 then (
  if (r3.toNat) < 256 then (
  if 0 ≤ x.1 then (
  if x.1 < 256 then (
  if (x.1.toNat) < 256 then (
  kn ((IntKind.i64.wrap (x.1 + (1:Int))), x.2.1, x.2.2.1, (List.set x.2.2.2.1 (x.1.toNat) (List.getD x.2.2.1 (r3.toNat) 0)), ())) else none) else none) else none) else none) else none) else none)
 else
  ke (x.2.1, x.2.2.2.1, ())
noncomputable def b1w : Go' W5 := fun y K => K (.exit 2) (fSt { tmps := .sc (.ptr 0 0 false) :: V :: .sc (.ptr 1 0 false) :: pv 26 [], mem := [.live [.xs b32 (some 256)] (.own), .live [.xs b32 (some 256)] (.own)] } [.xs, .xs] y)
noncomputable def a5n (N : Nat) : LT := upd (a5m N) 8 (C6 b2X N (J4 N) b1w)
theorem b1x (N : Nat) : OkAll p_dring_powers_E a4b N (a5n N) (E4 V9) :=
 d8 (c := d9 8 V9) (b1v N) (by kernel_rfl) (fun x => by kernel_rfl) (fun β x kn ke => by kernel_rfl)
abbrev a3f : List Kd := []
abbrev Q8 : List Kd := [.xs b32 256]
noncomputable def a3z (N : Nat) (x : Unit) : Option (List Int) :=
 E1 (J3 N) N ((1:Int), (List.replicate 256 0), (List.set (List.replicate 256 0) 0 (1:Int)), (List.replicate 256 0), ()) fun y2 => (
 E1 (J4 N) N ((0:Int), y2.1, y2.2.1, y2.2.2.1, ()) fun y4 => (
 some y4.2.1))
theorem b4I (e0 : b6 Try.prog 51 B1) (e1 : b6 Try.prog 70 a4Q) : p_dring_powers_E.Ok Try.prog := AE.of_ok (all_cons a2O (all_cons S6 (all_cons G6 (all_cons c6A b5)))) (all_cons ⟨e0, L6⟩ (all_cons ⟨e1, b07⟩ b5))
theorem b6A (hE : p_dring_powers_E.Ok Try.prog) {g : Ds [] → Option (Rs Q8)} (hg : ∀ x r, g x = some r → ∃ N, a3z N x = some r) : b6 Try.prog 50 ⟨[], Q8, g⟩ :=
 d6 (E := p_dring_powers_E) (H := a4b) (L := fun N => a5n N) (c := V9) (ks := a3f) (rs := Q8) (F := a3z) hE mix Try.func50 (by kernel_rfl) (fun N => b1x N) (fun _ _ => by kernel_rfl) hg
noncomputable abbrev O1 : Sig := ⟨[.xs b32 256], [.xs b32 256], X8⟩
noncomputable abbrev a01 : Sig := ⟨[], [.xs b32 256], a06⟩
noncomputable def p_dring_Ntt_E : AE := AE.of [(2, ty2), (21, ty21), (52, ty52), (53, ty53)] [(49, O1), (50, a01), (51, B1), (52, i7)]
noncomputable def a4z : Hints := [(5, [1, 2, 3, 4, 5]), (8, [1, 2, 3, 4, 5, 6]), (12, [1, 2, 3, 4, 5, 6, 7]), (2000000, [1, 2]), (2000001, [1, 2, 3, 4, 5]), (2000002, [1, 2, 3, 4, 5]), (2000003, [1, 2, 3, 4, 5, 6]), (2000004, [1, 2, 3, 4, 5, 6]), (2000005, [1, 2, 3, 4, 5, 6, 7]), (3000000, [2])]
noncomputable def T0 : Code := (Try.f25).body.getD .skip
noncomputable def b6k : Shape := mkS { tmps := V :: .sc (.ptr 0 0 false) :: .sc (.ptr 1 0 false) :: .sc (.ptr 2 0 false) :: .sc (.int .i64) :: .sc (.int .i64) :: .sc (.int .i64) :: .sc (.int .i64) :: pv 56 [], mem := [.live [.xs b32 (some 256)] (.own), .live [.xs b32 (some 256)] (.own), .live [.xs b32 (some 256)] (.own)] } [.int, .int, .int, .int, .xs, .xs, .xs]
abbrev W13 : Type := Int × Int × Int × Int × List Int × List Int × List Int × Unit
abbrev W14 : Type := Int × Int × Int × List Int × List Int × List Int × Unit
noncomputable def I2 (N : Nat) (β : Type) (x : W13) (kn : W13 → Option β) (ke : W14 → Option β) : Option β :=
 if (x.2.2.2.1 < (IntKind.i64.wrap (x.2.2.1 + x.2.1))) then
  if 0 ≤ x.1 then (
  if x.1 < 256 then (
  if (x.1.toNat) < 256 then (
  if 0 ≤ (IntKind.i64.wrap (x.2.2.2.1 + x.2.1)) then (
  if (IntKind.i64.wrap (x.2.2.2.1 + x.2.1)) < 256 then (
  if ((IntKind.i64.wrap (x.2.2.2.1 + x.2.1)).toNat) < 256 then (
  (L9 ((List.getD x.2.2.2.2.2.2.1 (x.1.toNat) 0), (List.getD x.2.2.2.2.1 ((IntKind.i64.wrap (x.2.2.2.1 + x.2.1)).toNat) 0), ())).bind fun r3 => (
  if 0 ≤ x.2.2.2.1 then (
  if x.2.2.2.1 < 256 then (
  if (x.2.2.2.1.toNat) < 256 then (
  (w8 ((IntKind.i64.wrap ((IntKind.i64.wrap (List.getD x.2.2.2.2.1 (x.2.2.2.1.toNat) 0)) + (IntKind.i64.wrap r3))), ())).bind fun r4 => (
  if 0 ≤ x.2.2.2.1 then (
  if x.2.2.2.1 < 256 then (
  if (x.2.2.2.1.toNat) < 256 then (
  (w8 ((IntKind.i64.wrap ((IntKind.i64.wrap (List.getD x.2.2.2.2.1 (x.2.2.2.1.toNat) 0)) - (IntKind.i64.wrap r3))), ())).bind fun r5 => (
  if 0 ≤ x.2.2.2.1 then (
  if x.2.2.2.1 < 256 then (
  if (x.2.2.2.1.toNat) < 256 then (
  if 0 ≤ (IntKind.i64.wrap (x.2.2.2.1 + x.2.1)) then (
  if (IntKind.i64.wrap (x.2.2.2.1 + x.2.1)) < 256 then (
  if ((IntKind.i64.wrap (x.2.2.2.1 + x.2.1)).toNat) < 256 then (
  kn (x.1, x.2.1, x.2.2.1, (IntKind.i64.wrap (x.2.2.2.1 + (1:Int))), (List.set (List.set x.2.2.2.2.1 (x.2.2.2.1.toNat) r4) ((IntKind.i64.wrap (x.2.2.2.1 + x.2.1)).toNat) r5), x.2.2.2.2.2.1, x.2.2.2.2.2.2.1, ())) else none) else none) else none) else none) else none) else none)) else none) else none) else none)) else none) else none) else none)) else none) else none) else none) else none) else none) else none
 else
  ke (x.1, x.2.1, x.2.2.1, x.2.2.2.2.1, x.2.2.2.2.2.1, x.2.2.2.2.2.2.1, ())
noncomputable def b4t : Go' W14 := fun y K => K (.exit 4) (fSt { tmps := V :: .sc (.ptr 0 0 false) :: .sc (.ptr 1 0 false) :: .sc (.ptr 2 0 false) :: .sc (.int .i64) :: .sc (.int .i64) :: .sc (.int .i64) :: pv 57 [], mem := [.live [.xs b32 (some 256)] (.own), .live [.xs b32 (some 256)] (.own), .live [.xs b32 (some 256)] (.own)] } [.int, .int, .int, .xs, .xs, .xs] y)
noncomputable def a7w (N : Nat) : LT := upd (LT.nil) 12 (C6 b6k N (I2 N) b4t)
theorem b4u (N : Nat) : OkAll p_dring_Ntt_E a4z N (a7w N) (E4 T0) :=
 d8 (c := d9 12 T0) (OkAll.nil) (by kernel_rfl) (fun x => by kernel_rfl) (fun β x kn ke => by kernel_rfl)
noncomputable def b7V : Shape := mkS { tmps := V :: .sc (.ptr 0 0 false) :: .sc (.ptr 1 0 false) :: .sc (.ptr 2 0 false) :: .sc (.int .i64) :: .sc (.int .i64) :: .sc (.int .i64) :: pv 57 [], mem := [.live [.xs b32 (some 256)] (.own), .live [.xs b32 (some 256)] (.own), .live [.xs b32 (some 256)] (.own)] } [.int, .int, .int, .xs, .xs, .xs]
abbrev W15 : Type := Int × Int × List Int × List Int × List Int × Unit
noncomputable def L5 (N : Nat) (β : Type) (x : W14) (kn : W14 → Option β) (ke : W15 → Option β) : Option β :=
 if (x.2.2.1 < (256:Int)) then
  E1 (I2 N) N ((IntKind.i64.wrap (x.1 + (1:Int))), x.2.1, x.2.2.1, x.2.2.1, x.2.2.2.1, x.2.2.2.2.1, x.2.2.2.2.2.1, ()) fun y6 => (
  kn (y6.1, y6.2.1, (IntKind.i64.wrap (y6.2.2.1 + (IntKind.i64.wrap ((2:Int) * y6.2.1)))), y6.2.2.2.1, y6.2.2.2.2.1, y6.2.2.2.2.2.1, ()))
 else
  ke (x.1, x.2.1, x.2.2.2.1, x.2.2.2.2.1, x.2.2.2.2.2.1, ())
noncomputable def b6n : Go' W15 := fun y K => K (.exit 2) (fSt { tmps := V :: .sc (.ptr 0 0 false) :: .sc (.ptr 1 0 false) :: .sc (.ptr 2 0 false) :: .sc (.int .i64) :: .sc (.int .i64) :: pv 58 [], mem := [.live [.xs b32 (some 256)] (.own), .live [.xs b32 (some 256)] (.own), .live [.xs b32 (some 256)] (.own)] } [.int, .int, .xs, .xs, .xs] y)
noncomputable def a83 (N : Nat) : LT := upd (a7w N) 8 (C6 b7V N (L5 N) b6n)
theorem b6o (N : Nat) : OkAll p_dring_Ntt_E a4z N (a83 N) (E4 T0) :=
 d8 (c := d9 8 T0) (b4u N) (by kernel_rfl) (fun x => by kernel_rfl) (fun β x kn ke => by kernel_rfl)
noncomputable def b7U : Shape := mkS { tmps := V :: .sc (.ptr 0 0 false) :: .sc (.ptr 1 0 false) :: .sc (.ptr 2 0 false) :: .sc (.int .i64) :: .sc (.int .i64) :: pv 58 [], mem := [.live [.xs b32 (some 256)] (.own), .live [.xs b32 (some 256)] (.own), .live [.xs b32 (some 256)] (.own)] } [.int, .int, .xs, .xs, .xs]
noncomputable def V5 (N : Nat) (β : Type) (x : W15) (kn : W15 → Option β) (ke : W5 → Option β) : Option β :=
 if (x.2.1 ≥ (1:Int)) then
  E1 (L5 N) N (x.1, x.2.1, (0:Int), x.2.2.1, x.2.2.2.1, x.2.2.2.2.1, ()) fun y7 => (
  kn (y7.1, (IntKind.i64.wrap (Int.tdiv y7.2.1 (2:Int))), y7.2.2.1, y7.2.2.2.1, y7.2.2.2.2.1, ()))
 else
  ke (x.2.2.1, x.2.2.2.1, ())
noncomputable def b6l : Go' W5 := fun y K => K (.exit 0) (fSt { tmps := V :: .sc (.ptr 0 0 false) :: .sc (.ptr 1 0 false) :: pv 61 [], mem := [.live [.xs b32 (some 256)] (.own), .live [.xs b32 (some 256)] (.own)] } [.xs, .xs] y)
noncomputable def a82 (N : Nat) : LT := upd (a83 N) 5 (C6 b7U N (V5 N) b6l)
theorem b6m (N : Nat) : OkAll p_dring_Ntt_E a4z N (a82 N) (E4 T0) :=
 d8 (c := d9 5 T0) (b6o N) (by kernel_rfl) (fun x => by kernel_rfl) (fun β x kn ke => by kernel_rfl)
abbrev O4 : List Kd := [.xs b32 256]
abbrev a6K : List Kd := [.xs b32 256]
noncomputable def a8w (N : Nat) (x : List Int × Unit) : Option (List Int) :=
 (X8 (x.1, ())).bind fun r1 => (
 (a06 (())).bind fun r2 => (
 E1 (V5 N) N ((0:Int), (128:Int), r1, (List.replicate 256 0), r2, ()) fun y8 => (
 some y8.1)))
theorem b9K (e0 : b6 Try.prog 49 O1) (e1 : b6 Try.prog 50 a01) (e2 : b6 Try.prog 51 B1) (e3 : b6 Try.prog 52 i7) : p_dring_Ntt_E.Ok Try.prog := AE.of_ok (all_cons b0I (all_cons G6 (all_cons c6A (all_cons G7 b5)))) (all_cons ⟨e0, a1M⟩ (all_cons ⟨e1, a44⟩ (all_cons ⟨e2, L6⟩ (all_cons ⟨e3, u5⟩ b5))))
theorem c0Q (hE : p_dring_Ntt_E.Ok Try.prog) {g : Ds O4 → Option (Rs O4)} (hg : ∀ x r, g x = some r → ∃ N, a8w N x = some r) : b6 Try.prog 25 ⟨O4, O4, g⟩ :=
 d6 (E := p_dring_Ntt_E) (H := a4z) (L := fun N => a82 N) (c := T0) (ks := O4) (rs := a6K) (F := a8w) hE mix Try.func25 (by kernel_rfl) (fun N => b6m N) (fun _ _ => by kernel_rfl) hg
noncomputable def p_dring_Inv_1_E : AE := AE.of [] [(51, B1)]
noncomputable def b9G : Hints := [(3000000, [2])]
noncomputable def b9H : Code := (Try.f55).body.getD .skip
abbrev a32 : List Kd := [.int .i32]
abbrev a33 : List Kd := [.int .i32]
noncomputable def a4x (N : Nat) (x : Int × Unit) : Option (Int) :=
 (L9 (x.1, (8347681:Int), ())).bind fun r1 => (
 some r1)
theorem b6c (e0 : b6 Try.prog 51 B1) : p_dring_Inv_1_E.Ok Try.prog := AE.of_ok b5 (all_cons ⟨e0, L6⟩ b5)
theorem b7Q (hE : p_dring_Inv_1_E.Ok Try.prog) {g : Ds [.int .i32] → Option (Rs [.int .i32])} (hg : ∀ x r, g x = some r → ∃ N, a4x N x = some r) : b6 Try.prog 55 ⟨[.int .i32], [.int .i32], g⟩ :=
 d6 (E := p_dring_Inv_1_E) (H := b9G) (L := fun N => LT.nil) (c := b9H) (ks := a32) (rs := a33) (F := a4x) hE mix Try.func55 (by kernel_rfl) (fun N => OkAll.nil) (fun _ _ => by kernel_rfl) hg
noncomputable abbrev a7Y : Sig := ⟨[.int .i32], [.int .i32], a4s⟩
noncomputable def p_dring_each__dring_Inv_1_E : AE := AE.of [(21, ty21), (53, ty53)] [(55, a7Y)]
noncomputable def a0m : Hints := [(2, [1, 2, 4, 7, 8]), (2000000, [2, 4]), (2000001, [1, 2, 4, 7, 8]), (3000000, [4])]
noncomputable def J2 : Code := (Try.f46).body.getD .skip
noncomputable def a3Q : Shape := mkS { tmps := V :: .sc (.fn 55) :: .sc (.ptr 0 0 false) :: V :: .sc (.ptr 1 0 false) :: V :: V :: .agg [.xs b32 (some 256)] :: .sc (.int .i64) :: pv 10 [], mem := [.live [.xs b32 (some 256)] (.own), .live [.xs b32 (some 256)] (.own)] } [.xs, .int, .xs, .xs]
noncomputable def u6 (N : Nat) (β : Type) (x : W12) (kn : W12 → Option β) (ke : W5 → Option β) : Option β :=
 if (x.2.1 < (256:Int)) then
  if 0 ≤ x.2.1 then (
  if x.2.1 < 256 then (
  if (x.2.1.toNat) < 256 then (
  (a4s ((List.getD x.1 (x.2.1.toNat) 0), ())).bind fun r1 => (
  if 0 ≤ x.2.1 then (
  if x.2.1 < 256 then (
  if (x.2.1.toNat) < 256 then (
  kn (x.1, (IntKind.i64.wrap (x.2.1 + (1:Int))), (List.set x.2.2.1 (x.2.1.toNat) r1), x.2.2.2.1, ())) else none) else none) else none)) else none) else none) else none
 else
  ke (x.2.2.1, x.2.2.2.1, ())
noncomputable def a3b : Go' W5 := fun y K => K (.exit 0) (fSt { tmps := V :: V :: .sc (.ptr 0 0 false) :: V :: .sc (.ptr 1 0 false) :: pv 14 [], mem := [.live [.xs b32 (some 256)] (.own), .live [.xs b32 (some 256)] (.own)] } [.xs, .xs] y)
noncomputable def S2 (N : Nat) : LT := upd (LT.nil) 2 (C6 a3Q N (u6 N) a3b)
theorem a3c (N : Nat) : OkAll p_dring_each__dring_Inv_1_E a0m N (S2 N) (E4 J2) :=
 d8 (c := d9 2 J2) (OkAll.nil) (by kernel_rfl) (fun x => by kernel_rfl) (fun β x kn ke => by kernel_rfl)
abbrev m6 : List Kd := [.xs b32 256, .fnc 55]
abbrev m7 : List Kd := [.xs b32 256]
noncomputable def E3 (N : Nat) (x : List Int × Unit × Unit) : Option (List Int) :=
 E1 (u6 N) N (x.1, (0:Int), x.1, (List.replicate 256 0), ()) fun y2 => (
 some y2.1)
theorem a39 (e0 : b6 Try.prog 55 a7Y) : p_dring_each__dring_Inv_1_E.Ok Try.prog := AE.of_ok (all_cons G6 (all_cons G7 b5)) (all_cons ⟨e0, b3M⟩ b5)
theorem a4B (hE : p_dring_each__dring_Inv_1_E.Ok Try.prog) {g : Ds m6 → Option (Rs m7)} (hg : ∀ x r, g x = some r → ∃ N, E3 N x = some r) : b6 Try.prog 46 ⟨m6, m7, g⟩ :=
 d6 (E := p_dring_each__dring_Inv_1_E) (H := a0m) (L := fun N => S2 N) (c := J2) (ks := m6) (rs := m7) (F := E3) hE mix Try.func46 (by kernel_rfl) (fun N => a3c N) (fun _ _ => by kernel_rfl) hg
noncomputable abbrev O2 : Sig := ⟨[.xs b32 256, .fnc 55], [.xs b32 256], E0⟩
noncomputable def p_dring_Inv_E : AE := AE.of [(2, ty2), (21, ty21), (52, ty52), (53, ty53)] [(49, O1), (50, a01), (52, i7), (51, B1), (46, O2)]
noncomputable def a4y : Hints := [(5, [1, 2, 3, 4, 5]), (8, [1, 2, 3, 4, 5, 6]), (12, [1, 2, 3, 4, 5, 6, 7]), (2000000, [1, 2]), (2000001, [1, 2, 3, 4, 5]), (2000002, [1, 2, 3, 4, 5]), (2000003, [1, 2, 3, 4, 5, 6]), (2000004, [1, 2, 3, 4, 5, 6]), (2000005, [1, 2, 3, 4, 5, 6, 7]), (3000000, [2])]
noncomputable def S9 : Code := (Try.f30).body.getD .skip
noncomputable def b6d : Shape := mkS { tmps := V :: .sc (.ptr 0 0 false) :: .sc (.ptr 1 0 false) :: .sc (.ptr 2 0 false) :: .sc (.int .i64) :: .sc (.int .i64) :: .sc (.int .i64) :: .sc (.int .i64) :: pv 54 [], mem := [.live [.xs b32 (some 256)] (.own), .live [.xs b32 (some 256)] (.own), .live [.xs b32 (some 256)] (.own)] } [.int, .int, .int, .int, .xs, .xs, .xs]
noncomputable def I1 (N : Nat) (β : Type) (x : W13) (kn : W13 → Option β) (ke : W14 → Option β) : Option β :=
 if (x.2.2.2.1 < (IntKind.i64.wrap (x.2.2.1 + x.2.1))) then
  if 0 ≤ x.2.2.2.1 then (
  if x.2.2.2.1 < 256 then (
  if (x.2.2.2.1.toNat) < 256 then (
  if 0 ≤ (IntKind.i64.wrap (x.2.2.2.1 + x.2.1)) then (
  if (IntKind.i64.wrap (x.2.2.2.1 + x.2.1)) < 256 then (
  if ((IntKind.i64.wrap (x.2.2.2.1 + x.2.1)).toNat) < 256 then (
  (w8 ((IntKind.i64.wrap ((IntKind.i64.wrap (List.getD x.2.2.2.2.1 (x.2.2.2.1.toNat) 0)) + (IntKind.i64.wrap (List.getD x.2.2.2.2.1 ((IntKind.i64.wrap (x.2.2.2.1 + x.2.1)).toNat) 0)))), ())).bind fun r3 => (
  if 0 ≤ x.1 then (
  if x.1 < 256 then (
  if (x.1.toNat) < 256 then (
  (L9 ((List.getD x.2.2.2.2.2.2.1 (x.1.toNat) 0), (IntKind.i32.wrap ((List.getD x.2.2.2.2.1 ((IntKind.i64.wrap (x.2.2.2.1 + x.2.1)).toNat) 0) - (List.getD x.2.2.2.2.1 (x.2.2.2.1.toNat) 0))), ())).bind fun r4 => (
  if 0 ≤ x.2.2.2.1 then (
  if x.2.2.2.1 < 256 then (
  if (x.2.2.2.1.toNat) < 256 then (
  if 0 ≤ (IntKind.i64.wrap (x.2.2.2.1 + x.2.1)) then (
  if (IntKind.i64.wrap (x.2.2.2.1 + x.2.1)) < 256 then (
  if ((IntKind.i64.wrap (x.2.2.2.1 + x.2.1)).toNat) < 256 then (
  kn (x.1, x.2.1, x.2.2.1, (IntKind.i64.wrap (x.2.2.2.1 + (1:Int))), (List.set (List.set x.2.2.2.2.1 (x.2.2.2.1.toNat) r3) ((IntKind.i64.wrap (x.2.2.2.1 + x.2.1)).toNat) r4), x.2.2.2.2.2.1, x.2.2.2.2.2.2.1, ())) else none) else none) else none) else none) else none) else none)) else none) else none) else none)) else none) else none) else none) else none) else none) else none
 else
  ke (x.1, x.2.1, x.2.2.1, x.2.2.2.2.1, x.2.2.2.2.2.1, x.2.2.2.2.2.2.1, ())
noncomputable def b4o : Go' W14 := fun y K => K (.exit 4) (fSt { tmps := V :: .sc (.ptr 0 0 false) :: .sc (.ptr 1 0 false) :: .sc (.ptr 2 0 false) :: .sc (.int .i64) :: .sc (.int .i64) :: .sc (.int .i64) :: pv 55 [], mem := [.live [.xs b32 (some 256)] (.own), .live [.xs b32 (some 256)] (.own), .live [.xs b32 (some 256)] (.own)] } [.int, .int, .int, .xs, .xs, .xs] y)
noncomputable def a7u (N : Nat) : LT := upd (LT.nil) 12 (C6 b6d N (I1 N) b4o)
theorem b4p (N : Nat) : OkAll p_dring_Inv_E a4y N (a7u N) (E4 S9) :=
 d8 (c := d9 12 S9) (OkAll.nil) (by kernel_rfl) (fun x => by kernel_rfl) (fun β x kn ke => by kernel_rfl)
noncomputable def b7S : Shape := mkS { tmps := V :: .sc (.ptr 0 0 false) :: .sc (.ptr 1 0 false) :: .sc (.ptr 2 0 false) :: .sc (.int .i64) :: .sc (.int .i64) :: .sc (.int .i64) :: pv 55 [], mem := [.live [.xs b32 (some 256)] (.own), .live [.xs b32 (some 256)] (.own), .live [.xs b32 (some 256)] (.own)] } [.int, .int, .int, .xs, .xs, .xs]
noncomputable def L4 (N : Nat) (β : Type) (x : W14) (kn : W14 → Option β) (ke : W15 → Option β) : Option β :=
 if (x.2.2.1 < (256:Int)) then
  E1 (I1 N) N ((IntKind.i64.wrap (x.1 - (1:Int))), x.2.1, x.2.2.1, x.2.2.1, x.2.2.2.1, x.2.2.2.2.1, x.2.2.2.2.2.1, ()) fun y5 => (
  kn (y5.1, y5.2.1, (IntKind.i64.wrap (y5.2.2.1 + (IntKind.i64.wrap ((2:Int) * y5.2.1)))), y5.2.2.2.1, y5.2.2.2.2.1, y5.2.2.2.2.2.1, ()))
 else
  ke (x.1, x.2.1, x.2.2.2.1, x.2.2.2.2.1, x.2.2.2.2.2.1, ())
noncomputable def b6g : Go' W15 := fun y K => K (.exit 2) (fSt { tmps := V :: .sc (.ptr 0 0 false) :: .sc (.ptr 1 0 false) :: .sc (.ptr 2 0 false) :: .sc (.int .i64) :: .sc (.int .i64) :: pv 56 [], mem := [.live [.xs b32 (some 256)] (.own), .live [.xs b32 (some 256)] (.own), .live [.xs b32 (some 256)] (.own)] } [.int, .int, .xs, .xs, .xs] y)
noncomputable def a80 (N : Nat) : LT := upd (a7u N) 8 (C6 b7S N (L4 N) b6g)
theorem b6h (N : Nat) : OkAll p_dring_Inv_E a4y N (a80 N) (E4 S9) :=
 d8 (c := d9 8 S9) (b4p N) (by kernel_rfl) (fun x => by kernel_rfl) (fun β x kn ke => by kernel_rfl)
noncomputable def b7R : Shape := mkS { tmps := V :: .sc (.ptr 0 0 false) :: .sc (.ptr 1 0 false) :: .sc (.ptr 2 0 false) :: .sc (.int .i64) :: .sc (.int .i64) :: pv 56 [], mem := [.live [.xs b32 (some 256)] (.own), .live [.xs b32 (some 256)] (.own), .live [.xs b32 (some 256)] (.own)] } [.int, .int, .xs, .xs, .xs]
noncomputable def V4 (N : Nat) (β : Type) (x : W15) (kn : W15 → Option β) (ke : W5 → Option β) : Option β :=
 if (x.2.1 ≤ (128:Int)) then
  E1 (L4 N) N (x.1, x.2.1, (0:Int), x.2.2.1, x.2.2.2.1, x.2.2.2.2.1, ()) fun y6 => (
  kn (y6.1, (IntKind.i64.wrap (y6.2.1 * (2:Int))), y6.2.2.1, y6.2.2.2.1, y6.2.2.2.2.1, ()))
 else
  ke (x.2.2.1, x.2.2.2.1, ())
noncomputable def b6e : Go' W5 := fun y K => K (.exit 0) (fSt { tmps := V :: .sc (.ptr 0 0 false) :: .sc (.ptr 1 0 false) :: pv 59 [], mem := [.live [.xs b32 (some 256)] (.own), .live [.xs b32 (some 256)] (.own)] } [.xs, .xs] y)
noncomputable def a8Z (N : Nat) : LT := upd (a80 N) 5 (C6 b7R N (V4 N) b6e)
theorem b6f (N : Nat) : OkAll p_dring_Inv_E a4y N (a8Z N) (E4 S9) :=
 d8 (c := d9 5 S9) (b6h N) (by kernel_rfl) (fun x => by kernel_rfl) (fun β x kn ke => by kernel_rfl)
abbrev O3 : List Kd := [.xs b32 256]
abbrev a6I : List Kd := [.xs b32 256]
noncomputable def a8v (N : Nat) (x : List Int × Unit) : Option (List Int) :=
 (X8 (x.1, ())).bind fun r1 => (
 (a06 (())).bind fun r2 => (
 E1 (V4 N) N ((256:Int), (1:Int), r1, (List.replicate 256 0), r2, ()) fun y7 => (
 (E0 (y7.1, (), ())).bind fun r8 => (
 some r8))))
theorem b9I (e0 : b6 Try.prog 49 O1) (e1 : b6 Try.prog 50 a01) (e2 : b6 Try.prog 52 i7) (e3 : b6 Try.prog 51 B1) (e4 : b6 Try.prog 46 O2) : p_dring_Inv_E.Ok Try.prog := AE.of_ok (all_cons b0I (all_cons G6 (all_cons c6A (all_cons G7 b5)))) (all_cons ⟨e0, a1M⟩ (all_cons ⟨e1, a44⟩ (all_cons ⟨e2, u5⟩ (all_cons ⟨e3, L6⟩ (all_cons ⟨e4, a0C⟩ b5)))))
theorem c0P (hE : p_dring_Inv_E.Ok Try.prog) {g : Ds O3 → Option (Rs O3)} (hg : ∀ x r, g x = some r → ∃ N, a8v N x = some r) : b6 Try.prog 30 ⟨O3, O3, g⟩ :=
 d6 (E := p_dring_Inv_E) (H := a4y) (L := fun N => a8Z N) (c := S9) (ks := O3) (rs := a6I) (F := a8v) hE mix Try.func30 (by kernel_rfl) (fun N => b6f N) (fun _ _ => by kernel_rfl) hg
noncomputable def p_dring_MulNtt_E : AE := AE.of [(21, ty21), (53, ty53)] [(51, B1)]
noncomputable def a81 : Hints := [(2, [2, 3, 4, 6]), (2000000, [2, 4]), (2000001, [2, 3, 4, 6]), (3000000, [4])]
noncomputable def a34 : Code := (Try.f32).body.getD .skip
noncomputable def b2N : Shape := mkS { tmps := V :: V :: .sc (.ptr 0 0 false) :: .sc (.ptr 1 0 false) :: .sc (.ptr 2 0 false) :: V :: .sc (.int .i64) :: pv 13 [], mem := [.live [.xs b32 (some 256)] (.own), .live [.xs b32 (some 256)] (.own), .live [.xs b32 (some 256)] (.own)] } [.int, .xs, .xs, .xs]
noncomputable def J0 (N : Nat) (β : Type) (x : W4) (kn : W4 → Option β) (ke : W5 → Option β) : Option β :=
 if (x.1 < (256:Int)) then
  if 0 ≤ x.1 then (
  if x.1 < 256 then (
  if (x.1.toNat) < 256 then (
  if 0 ≤ x.1 then (
  if x.1 < 256 then (
  if (x.1.toNat) < 256 then (
  (L9 ((List.getD x.2.1 (x.1.toNat) 0), (List.getD x.2.2.1 (x.1.toNat) 0), ())).bind fun r1 => (
  if 0 ≤ x.1 then (
  if x.1 < 256 then (
  if (x.1.toNat) < 256 then (
  kn ((IntKind.i64.wrap (x.1 + (1:Int))), (List.set x.2.1 (x.1.toNat) r1), x.2.2.1, x.2.2.2.1, ())) else none) else none) else none)) else none) else none) else none) else none) else none) else none
 else
  ke (x.2.1, x.2.2.2.1, ())
noncomputable def b1i : Go' W5 := fun y K => K (.exit 0) (fSt { tmps := V :: V :: .sc (.ptr 0 0 false) :: V :: .sc (.ptr 1 0 false) :: pv 15 [], mem := [.live [.xs b32 (some 256)] (.own), .live [.xs b32 (some 256)] (.own)] } [.xs, .xs] y)
noncomputable def a5g (N : Nat) : LT := upd (LT.nil) 2 (C6 b2N N (J0 N) b1i)
theorem b1j (N : Nat) : OkAll p_dring_MulNtt_E a81 N (a5g N) (E4 a34) :=
 d8 (c := d9 2 a34) (OkAll.nil) (by kernel_rfl) (fun x => by kernel_rfl) (fun β x kn ke => by kernel_rfl)
abbrev Q0 : List Kd := [.xs b32 256, .xs b32 256]
abbrev Q1 : List Kd := [.xs b32 256]
noncomputable def a3v (N : Nat) (x : List Int × List Int × Unit) : Option (List Int) :=
 E1 (J0 N) N ((0:Int), x.1, x.2.1, (List.replicate 256 0), ()) fun y2 => (
 some y2.1)
theorem b4q (e0 : b6 Try.prog 51 B1) : p_dring_MulNtt_E.Ok Try.prog := AE.of_ok (all_cons G6 (all_cons G7 b5)) (all_cons ⟨e0, L6⟩ b5)
theorem b6i (hE : p_dring_MulNtt_E.Ok Try.prog) {g : Ds Q0 → Option (Rs Q1)} (hg : ∀ x r, g x = some r → ∃ N, a3v N x = some r) : b6 Try.prog 32 ⟨Q0, Q1, g⟩ :=
 d6 (E := p_dring_MulNtt_E) (H := a81) (L := fun N => a5g N) (c := a34) (ks := Q0) (rs := Q1) (F := a3v) hE mix Try.func32 (by kernel_rfl) (fun N => b1j N) (fun _ _ => by kernel_rfl) hg
noncomputable def p_dring_centred_E : AE := AE.of [(2, ty2), (21, ty21)] [(52, i7)]
noncomputable def b6w : Hints := [(3000000, [2])]
noncomputable def b6x : Code := (Try.f68).body.getD .skip
abbrev a2w : List Kd := [.int .i32]
abbrev a2x : List Kd := [.int .i32]
noncomputable def a2v (N : Nat) (x : Int × Unit) : Option (Int) :=
 (w8 ((IntKind.i64.wrap x.1), ())).bind fun r1 => (
 if (r1 > (4190208:Int)) then
  some (IntKind.i32.wrap (r1 - (8380417:Int)))
 else
  some r1)
theorem b2T (e0 : b6 Try.prog 52 i7) : p_dring_centred_E.Ok Try.prog := AE.of_ok (all_cons b0I (all_cons G6 b5)) (all_cons ⟨e0, u5⟩ b5)
theorem b4E (hE : p_dring_centred_E.Ok Try.prog) {g : Ds [.int .i32] → Option (Rs [.int .i32])} (hg : ∀ x r, g x = some r → ∃ N, a2v N x = some r) : b6 Try.prog 68 ⟨[.int .i32], [.int .i32], g⟩ :=
 d6 (E := p_dring_centred_E) (H := b6w) (L := fun N => LT.nil) (c := b6x) (ks := a2w) (rs := a2x) (F := a2v) hE mix Try.func68 (by kernel_rfl) (fun N => OkAll.nil) (fun _ _ => by kernel_rfl) hg
noncomputable abbrev a4T : Sig := ⟨[.int .i32], [.int .i32], a2j⟩
noncomputable def p_dring_each__dring_centred_E : AE := AE.of [(21, ty21), (53, ty53)] [(68, a4T)]
noncomputable def V7 : Hints := [(2, [1, 2, 4, 7, 8]), (2000000, [2, 4]), (2000001, [1, 2, 4, 7, 8]), (3000000, [4])]
noncomputable def G5 : Code := (Try.f46).body.getD .skip
noncomputable def a2R : Shape := mkS { tmps := V :: .sc (.fn 68) :: .sc (.ptr 0 0 false) :: V :: .sc (.ptr 1 0 false) :: V :: V :: .agg [.xs b32 (some 256)] :: .sc (.int .i64) :: pv 10 [], mem := [.live [.xs b32 (some 256)] (.own), .live [.xs b32 (some 256)] (.own)] } [.xs, .int, .xs, .xs]
noncomputable def p8 (N : Nat) (β : Type) (x : W12) (kn : W12 → Option β) (ke : W5 → Option β) : Option β :=
 if (x.2.1 < (256:Int)) then
  if 0 ≤ x.2.1 then (
  if x.2.1 < 256 then (
  if (x.2.1.toNat) < 256 then (
  (a2j ((List.getD x.1 (x.2.1.toNat) 0), ())).bind fun r1 => (
  if 0 ≤ x.2.1 then (
  if x.2.1 < 256 then (
  if (x.2.1.toNat) < 256 then (
  kn (x.1, (IntKind.i64.wrap (x.2.1 + (1:Int))), (List.set x.2.2.1 (x.2.1.toNat) r1), x.2.2.2.1, ())) else none) else none) else none)) else none) else none) else none
 else
  ke (x.2.2.1, x.2.2.2.1, ())
noncomputable def a2z : Go' W5 := fun y K => K (.exit 0) (fSt { tmps := V :: V :: .sc (.ptr 0 0 false) :: V :: .sc (.ptr 1 0 false) :: pv 14 [], mem := [.live [.xs b32 (some 256)] (.own), .live [.xs b32 (some 256)] (.own)] } [.xs, .xs] y)
noncomputable def O6 (N : Nat) : LT := upd (LT.nil) 2 (C6 a2R N (p8 N) a2z)
theorem a2A (N : Nat) : OkAll p_dring_each__dring_centred_E V7 N (O6 N) (E4 G5) :=
 d8 (c := d9 2 G5) (OkAll.nil) (by kernel_rfl) (fun x => by kernel_rfl) (fun β x kn ke => by kernel_rfl)
abbrev j8 : List Kd := [.xs b32 256, .fnc 68]
abbrev j9 : List Kd := [.xs b32 256]
noncomputable def B6 (N : Nat) (x : List Int × Unit × Unit) : Option (List Int) :=
 E1 (p8 N) N (x.1, (0:Int), x.1, (List.replicate 256 0), ()) fun y2 => (
 some y2.1)
theorem a3e (e0 : b6 Try.prog 68 a4T) : p_dring_each__dring_centred_E.Ok Try.prog := AE.of_ok (all_cons G6 (all_cons G7 b5)) (all_cons ⟨e0, b09⟩ b5)
theorem a3R (hE : p_dring_each__dring_centred_E.Ok Try.prog) {g : Ds j8 → Option (Rs j9)} (hg : ∀ x r, g x = some r → ∃ N, B6 N x = some r) : b6 Try.prog 46 ⟨j8, j9, g⟩ :=
 d6 (E := p_dring_each__dring_centred_E) (H := V7) (L := fun N => O6 N) (c := G5) (ks := j8) (rs := j9) (F := B6) hE mix Try.func46 (by kernel_rfl) (fun N => a2A N) (fun _ _ => by kernel_rfl) hg
noncomputable abbrev I3 : Sig := ⟨[.xs b32 256, .fnc 68], [.xs b32 256], B3⟩
noncomputable def p_dring_Center_E : AE := AE.of [(53, ty53)] [(46, I3)]
noncomputable def b7O : Hints := [(3000000, [2])]
noncomputable def b7P : Code := (Try.f48).body.getD .skip
abbrev D6 : List Kd := [.xs b32 256]
abbrev a28 : List Kd := [.xs b32 256]
noncomputable def a3u (N : Nat) (x : List Int × Unit) : Option (List Int) :=
 (B3 (x.1, (), ())).bind fun r1 => (
 some r1)
theorem b4n (e0 : b6 Try.prog 46 I3) : p_dring_Center_E.Ok Try.prog := AE.of_ok (all_cons G7 b5) (all_cons ⟨e0, a0C⟩ b5)
theorem b6b (hE : p_dring_Center_E.Ok Try.prog) {g : Ds D6 → Option (Rs D6)} (hg : ∀ x r, g x = some r → ∃ N, a3u N x = some r) : b6 Try.prog 48 ⟨D6, D6, g⟩ :=
 d6 (E := p_dring_Center_E) (H := b7O) (L := fun N => LT.nil) (c := b7P) (ks := D6) (rs := a28) (F := a3u) hE mix Try.func48 (by kernel_rfl) (fun N => OkAll.nil) (fun _ _ => by kernel_rfl) hg
noncomputable abbrev a6w : Sig := ⟨[.xs b32 256], [.xs b32 256], a3q⟩
noncomputable def p_dring_Norm_E : AE := AE.of [(21, ty21), (53, ty53)] [(48, a6w)]
noncomputable def b1Y : Hints := [(3, [3, 7, 8]), (2000000, [3]), (2000001, [3, 7, 8]), (3000000, [2])]
noncomputable def a6J : Code := (Try.f23).body.getD .skip
noncomputable def b6j : Shape := mkS { tmps := pv 3 (.sc (.int .i32) :: pv 3 (.agg [.xs b32 (some 256)] :: .sc (.int .i64) :: pv 9 [])), mem := [] } [.int, .xs, .int]
abbrev W16 : Type := Int × List Int × Int × Unit
noncomputable def a0H (N : Nat) (β : Type) (x : W16) (kn : W16 → Option β) (ke : ((Int × Unit)) → Option β) : Option β :=
 if (x.2.2.1 < (256:Int)) then
  if 0 ≤ x.2.2.1 then (
  if x.2.2.1 < 256 then (
  if (x.2.2.1.toNat) < 256 then (
  kn ((if (IntKind.i32.wrap (0 - (List.getD x.2.1 (x.2.2.1.toNat) 0))) > (if (List.getD x.2.1 (x.2.2.1.toNat) 0) > x.1 then (List.getD x.2.1 (x.2.2.1.toNat) 0) else x.1) then (IntKind.i32.wrap (0 - (List.getD x.2.1 (x.2.2.1.toNat) 0))) else (if (List.getD x.2.1 (x.2.2.1.toNat) 0) > x.1 then (List.getD x.2.1 (x.2.2.1.toNat) 0) else x.1)), x.2.1, (IntKind.i64.wrap (x.2.2.1 + (1:Int))), ())) else none) else none) else none
 else
  ke (x.1, ())
noncomputable def b4r : Go' ((Int × Unit)) := fun y K => K (.exit 0) (fSt { tmps := pv 3 (.sc (.int .i32) :: pv 14 []), mem := [] } [.int] y)
noncomputable def a7v (N : Nat) : LT := upd (LT.nil) 3 (C6 b6j N (a0H N) b4r)
theorem b4s (N : Nat) : OkAll p_dring_Norm_E b1Y N (a7v N) (E4 a6J) :=
 d8 (c := d9 3 a6J) (OkAll.nil) (by kernel_rfl) (fun x => by kernel_rfl) (fun β x kn ke => by kernel_rfl)
abbrev a0j : List Kd := [.xs b32 256]
abbrev a5h : List Kd := [.int .i32]
noncomputable def a6e (N : Nat) (x : List Int × Unit) : Option (Int) :=
 (a3q (x.1, ())).bind fun r1 => (
 E1 (a0H N) N ((0:Int), r1, (0:Int), ()) fun y2 => (
 some y2.1))
theorem b7T (e0 : b6 Try.prog 48 a6w) : p_dring_Norm_E.Ok Try.prog := AE.of_ok (all_cons G6 (all_cons G7 b5)) (all_cons ⟨e0, b2r⟩ b5)
theorem b9J (hE : p_dring_Norm_E.Ok Try.prog) {g : Ds a0j → Option (Rs [.int .i32])} (hg : ∀ x r, g x = some r → ∃ N, a6e N x = some r) : b6 Try.prog 23 ⟨a0j, [.int .i32], g⟩ :=
 d6 (E := p_dring_Norm_E) (H := b1Y) (L := fun N => a7v N) (c := a6J) (ks := a0j) (rs := a5h) (F := a6e) hE mix Try.func23 (by kernel_rfl) (fun N => b4s N) (fun _ _ => by kernel_rfl) hg
noncomputable def p_dring_Add_E : AE := AE.of [(2, ty2), (21, ty21), (53, ty53)] [(52, i7)]
noncomputable def b4k : Hints := [(2, [2, 3, 4, 6]), (2000000, [2, 4]), (2000001, [2, 3, 4, 6]), (3000000, [4])]
noncomputable def a8s : Code := (Try.f54).body.getD .skip
noncomputable def b7M : Shape := mkS { tmps := V :: V :: .sc (.ptr 0 0 false) :: .sc (.ptr 1 0 false) :: .sc (.ptr 2 0 false) :: V :: .sc (.int .i64) :: pv 16 [], mem := [.live [.xs b32 (some 256)] (.own), .live [.xs b32 (some 256)] (.own), .live [.xs b32 (some 256)] (.own)] } [.int, .xs, .xs, .xs]
noncomputable def a1z (N : Nat) (β : Type) (x : W4) (kn : W4 → Option β) (ke : W5 → Option β) : Option β :=
 if (x.1 < (256:Int)) then
  if 0 ≤ x.1 then (
  if x.1 < 256 then (
  if (x.1.toNat) < 256 then (
  if 0 ≤ x.1 then (
  if x.1 < 256 then (
  if (x.1.toNat) < 256 then (
  (w8 ((IntKind.i64.wrap ((IntKind.i64.wrap (List.getD x.2.1 (x.1.toNat) 0)) + (IntKind.i64.wrap (List.getD x.2.2.1 (x.1.toNat) 0)))), ())).bind fun r1 => (
  if 0 ≤ x.1 then (
  if x.1 < 256 then (
  if (x.1.toNat) < 256 then (
  kn ((IntKind.i64.wrap (x.1 + (1:Int))), (List.set x.2.1 (x.1.toNat) r1), x.2.2.1, x.2.2.2.1, ())) else none) else none) else none)) else none) else none) else none) else none) else none) else none
 else
  ke (x.2.1, x.2.2.2.1, ())
noncomputable def b59 : Go' W5 := fun y K => K (.exit 0) (fSt { tmps := V :: V :: .sc (.ptr 0 0 false) :: V :: .sc (.ptr 1 0 false) :: pv 18 [], mem := [.live [.xs b32 (some 256)] (.own), .live [.xs b32 (some 256)] (.own)] } [.xs, .xs] y)
noncomputable def a8Y (N : Nat) : LT := upd (LT.nil) 2 (C6 b7M N (a1z N) b59)
theorem b6a (N : Nat) : OkAll p_dring_Add_E b4k N (a8Y N) (E4 a8s) :=
 d8 (c := d9 2 a8s) (OkAll.nil) (by kernel_rfl) (fun x => by kernel_rfl) (fun β x kn ke => by kernel_rfl)
abbrev a08 : List Kd := [.xs b32 256, .xs b32 256]
abbrev a09 : List Kd := [.xs b32 256]
noncomputable def a8r (N : Nat) (x : List Int × List Int × Unit) : Option (List Int) :=
 E1 (a1z N) N ((0:Int), x.1, x.2.1, (List.replicate 256 0), ()) fun y2 => (
 some y2.1)
theorem b9E (e0 : b6 Try.prog 52 i7) : p_dring_Add_E.Ok Try.prog := AE.of_ok (all_cons b0I (all_cons G6 (all_cons G7 b5))) (all_cons ⟨e0, u5⟩ b5)
theorem c0O (hE : p_dring_Add_E.Ok Try.prog) {g : Ds a08 → Option (Rs a09)} (hg : ∀ x r, g x = some r → ∃ N, a8r N x = some r) : b6 Try.prog 54 ⟨a08, a09, g⟩ :=
 d6 (E := p_dring_Add_E) (H := b4k) (L := fun N => a8Y N) (c := a8s) (ks := a08) (rs := a09) (F := a8r) hE mix Try.func54 (by kernel_rfl) (fun N => b6a N) (fun _ _ => by kernel_rfl) hg
noncomputable def p_dring_Sub_E : AE := AE.of [(2, ty2), (21, ty21), (53, ty53)] [(52, i7)]
noncomputable def b4B : Hints := [(2, [2, 3, 4, 6]), (2000000, [2, 4]), (2000001, [2, 3, 4, 6]), (3000000, [4])]
noncomputable def a8y : Code := (Try.f31).body.getD .skip
noncomputable def b7Z : Shape := mkS { tmps := V :: V :: .sc (.ptr 0 0 false) :: .sc (.ptr 1 0 false) :: .sc (.ptr 2 0 false) :: V :: .sc (.int .i64) :: pv 16 [], mem := [.live [.xs b32 (some 256)] (.own), .live [.xs b32 (some 256)] (.own), .live [.xs b32 (some 256)] (.own)] } [.int, .xs, .xs, .xs]
noncomputable def a1B (N : Nat) (β : Type) (x : W4) (kn : W4 → Option β) (ke : W5 → Option β) : Option β :=
 if (x.1 < (256:Int)) then
  if 0 ≤ x.1 then (
  if x.1 < 256 then (
  if (x.1.toNat) < 256 then (
  if 0 ≤ x.1 then (
  if x.1 < 256 then (
  if (x.1.toNat) < 256 then (
  (w8 ((IntKind.i64.wrap ((IntKind.i64.wrap (List.getD x.2.1 (x.1.toNat) 0)) - (IntKind.i64.wrap (List.getD x.2.2.1 (x.1.toNat) 0)))), ())).bind fun r1 => (
  if 0 ≤ x.1 then (
  if x.1 < 256 then (
  if (x.1.toNat) < 256 then (
  kn ((IntKind.i64.wrap (x.1 + (1:Int))), (List.set x.2.1 (x.1.toNat) r1), x.2.2.1, x.2.2.2.1, ())) else none) else none) else none)) else none) else none) else none) else none) else none) else none
 else
  ke (x.2.1, x.2.2.2.1, ())
noncomputable def b6s : Go' W5 := fun y K => K (.exit 0) (fSt { tmps := V :: V :: .sc (.ptr 0 0 false) :: V :: .sc (.ptr 1 0 false) :: pv 18 [], mem := [.live [.xs b32 (some 256)] (.own), .live [.xs b32 (some 256)] (.own)] } [.xs, .xs] y)
noncomputable def a85 (N : Nat) : LT := upd (LT.nil) 2 (C6 b7Z N (a1B N) b6s)
theorem b6t (N : Nat) : OkAll p_dring_Sub_E b4B N (a85 N) (E4 a8y) :=
 d8 (c := d9 2 a8y) (OkAll.nil) (by kernel_rfl) (fun x => by kernel_rfl) (fun β x kn ke => by kernel_rfl)
abbrev a1b : List Kd := [.xs b32 256, .xs b32 256]
abbrev a1c : List Kd := [.xs b32 256]
noncomputable def a8x (N : Nat) (x : List Int × List Int × Unit) : Option (List Int) :=
 E1 (a1B N) N ((0:Int), x.1, x.2.1, (List.replicate 256 0), ()) fun y2 => (
 some y2.1)
theorem b9M (e0 : b6 Try.prog 52 i7) : p_dring_Sub_E.Ok Try.prog := AE.of_ok (all_cons b0I (all_cons G6 (all_cons G7 b5))) (all_cons ⟨e0, u5⟩ b5)
theorem c0R (hE : p_dring_Sub_E.Ok Try.prog) {g : Ds a1b → Option (Rs a1c)} (hg : ∀ x r, g x = some r → ∃ N, a8x N x = some r) : b6 Try.prog 31 ⟨a1b, a1c, g⟩ :=
 d6 (E := p_dring_Sub_E) (H := b4B) (L := fun N => a85 N) (c := a8y) (ks := a1b) (rs := a1c) (F := a8x) hE mix Try.func31 (by kernel_rfl) (fun N => b6t N) (fun _ _ => by kernel_rfl) hg
noncomputable abbrev a2Z : Sig := ⟨[.xs b32 256], [.xs b32 256, .xs b32 256], a0D⟩
noncomputable def p_dring_UseHint_E : AE := AE.of [(4, ty4), (21, ty21), (53, ty53), (74, ty74)] [(56, a2Z)]
noncomputable def a7A : Hints := [(3, [4, 5, 6, 14, 15]), (2000000, [4, 5]), (2000001, [4, 5, 6, 14, 15]), (2000002, [4, 5, 6, 14, 15]), (3000000, [4])]
noncomputable def a3a : Code := (Try.f33).body.getD .skip
noncomputable def b1t : Shape := mkS { tmps := pv 4 (.sc (.ptr 0 0 false) :: .sc (.ptr 1 0 false) :: .sc (.ptr 2 0 false) :: pv 7 (.agg [.xs .bool (some 256)] :: .sc (.int .i64) :: pv 30 [])), mem := [.live [.xs b32 (some 256)] (.own), .live [.xs b32 (some 256)] (.own), .live [.xs b32 (some 256)] (.own)] } [.xs, .int, .xs, .xs, .xs]
noncomputable def O9 (N : Nat) (β : Type) (x : W6) (kn : W6 → Option β) (ke : W5 → Option β) : Option β :=
 if (x.2.1 < (256:Int)) then
  if 0 ≤ x.2.1 then (
  if x.2.1 < 256 then (
  if (x.2.1.toNat) < 256 then (
  if ((List.getD x.1 (x.2.1.toNat) 0) ≠ 0) then
   if 0 ≤ x.2.1 then (
   if x.2.1 < 256 then (
   if (x.2.1.toNat) < 256 then (
   if ((List.getD x.2.2.2.2.1 (x.2.1.toNat) 0) > (0:Int)) then
    if 0 ≤ x.2.1 then (
    if x.2.1 < 256 then (
    if (x.2.1.toNat) < 256 then (
    if 0 ≤ x.2.1 then (
    if x.2.1 < 256 then (
    if (x.2.1.toNat) < 256 then (
    kn (x.1, (IntKind.i64.wrap (x.2.1 + (1:Int))), x.2.2.1, (List.set x.2.2.2.1 (x.2.1.toNat) (Int.tmod (IntKind.i32.wrap ((List.getD x.2.2.2.1 (x.2.1.toNat) 0) + (1:Int))) (16:Int))), x.2.2.2.2.1, ())) else none) else none) else none) else none) else none) else none
   else
    if ((List.getD x.1 (x.2.1.toNat) 0) ≠ 0) then
     if 0 ≤ x.2.1 then (
     if x.2.1 < 256 then (
     if (x.2.1.toNat) < 256 then (
     if 0 ≤ x.2.1 then (
     if x.2.1 < 256 then (
     if (x.2.1.toNat) < 256 then (
     kn (x.1, (IntKind.i64.wrap (x.2.1 + (1:Int))), x.2.2.1, (List.set x.2.2.2.1 (x.2.1.toNat) (Int.tmod (IntKind.i32.wrap ((IntKind.i32.wrap ((List.getD x.2.2.2.1 (x.2.1.toNat) 0) + (16:Int))) - (1:Int))) (16:Int))), x.2.2.2.2.1, ())) else none) else none) else none) else none) else none) else none
    else
     kn (x.1, (IntKind.i64.wrap (x.2.1 + (1:Int))), x.2.2.1, x.2.2.2.1, x.2.2.2.2.1, ())) else none) else none) else none
  else
   if ((List.getD x.1 (x.2.1.toNat) 0) ≠ 0) then
    if 0 ≤ x.2.1 then (
    if x.2.1 < 256 then (
    if (x.2.1.toNat) < 256 then (
    if 0 ≤ x.2.1 then (
    if x.2.1 < 256 then (
    if (x.2.1.toNat) < 256 then (
    kn (x.1, (IntKind.i64.wrap (x.2.1 + (1:Int))), x.2.2.1, (List.set x.2.2.2.1 (x.2.1.toNat) (Int.tmod (IntKind.i32.wrap ((IntKind.i32.wrap ((List.getD x.2.2.2.1 (x.2.1.toNat) 0) + (16:Int))) - (1:Int))) (16:Int))), x.2.2.2.2.1, ())) else none) else none) else none) else none) else none) else none
   else
    kn (x.1, (IntKind.i64.wrap (x.2.1 + (1:Int))), x.2.2.1, x.2.2.2.1, x.2.2.2.2.1, ())) else none) else none) else none
 else
  ke (x.2.2.1, x.2.2.2.1, ())
noncomputable def a95 : Go' W5 := fun y K => K (.exit 0) (fSt { tmps := pv 4 (.sc (.ptr 0 0 false) :: .sc (.ptr 1 0 false) :: pv 40 []), mem := [.live [.xs b32 (some 256)] (.own), .live [.xs b32 (some 256)] (.own)] } [.xs, .xs] y)
noncomputable def a4m (N : Nat) : LT := upd (LT.nil) 3 (C6 b1t N (O9 N) a95)
theorem a96 (N : Nat) : OkAll p_dring_UseHint_E a7A N (a4m N) (E4 a3a) :=
 d8 (c := d9 3 a3a) (OkAll.nil) (by kernel_rfl) (fun x => by kernel_rfl) (fun β x kn ke => by kernel_rfl)
abbrev M9 : List Kd := [.xs .bool 256, .xs b32 256]
abbrev N0 : List Kd := [.xs b32 256]
noncomputable def a2u (N : Nat) (x : List Int × List Int × Unit) : Option (List Int) :=
 (a0D (x.2.1, ())).bind fun r1 => (
 E1 (O9 N) N (x.1, (0:Int), (List.replicate 256 0), r1.1, r1.2, ()) fun y2 => (
 some y2.2.1))
theorem b2S (e0 : b6 Try.prog 56 a2Z) : p_dring_UseHint_E.Ok Try.prog := AE.of_ok (all_cons c0E (all_cons G6 (all_cons G7 (all_cons c6D b5)))) (all_cons ⟨e0, a9d⟩ b5)
theorem b4D (hE : p_dring_UseHint_E.Ok Try.prog) {g : Ds M9 → Option (Rs N0)} (hg : ∀ x r, g x = some r → ∃ N, a2u N x = some r) : b6 Try.prog 33 ⟨M9, N0, g⟩ :=
 d6 (E := p_dring_UseHint_E) (H := a7A) (L := fun N => a4m N) (c := a3a) (ks := M9) (rs := N0) (F := a2u) hE mix Try.func33 (by kernel_rfl) (fun N => a96 N) (fun _ _ => by kernel_rfl) hg
end Go.Ax.TryP
set_option linter.unusedVariables false
namespace Go.Ax.TryP
open Go.Proofs
theorem c1s {a : List Int} : a2U [.xs (.int .i32) 256] (a, ()) ↔ a2c 256 a := by simp [a2U, Y3]
theorem a9Q {a : List Int} (h : a2c 256 a) (i : Nat) : -2147483648 ≤ a.getD i 0 ∧ a.getD i 0 ≤ 2147483647 := rows.at h (by omega) i
theorem c66 (a : List Int) : rows 0 8380416 256 (a03 a) := rows.range fun i _ => by omega
theorem c65 (a : List Int) (i : Nat) : 0 ≤ (a03 a).getD i 0 ∧ (a03 a).getD i 0 ≤ 8380416 := rows.at (c66 a) (by omega) i
theorem c8g {a : List Int} {i : Nat} (hi : i < 256) : (a03 a).getD i 0 = a.getD i 0 % 8380417 := a0B hi
theorem c2T : ∀ x r, w8 x = some r → ∃ N, a4A N x = some r := by
 refine c8 (ks := a37) (rs := a38) fun x hw _ => ⟨0, ?_⟩
 obtain ⟨(z : Int), u⟩ := x
 have h := d2g (a := z) (b := 8380417) (by omega)
 have h1 := Int.emod_nonneg z (show (8380417 : Int) ≠ 0 by omega)
 have h2 := Int.emod_lt_of_pos z (show (0 : Int) < 8380417 by omega)
 unfold a4A
 simp only at h ⊢
 split
 ·rename_i hlt
  rw [if_pos hlt] at h
  rw [h, b7 (by omega) (by omega), a0O (by omega) (by omega)]
 ·rename_i hlt
  rw [if_neg hlt] at h
  rw [h, a0O (by omega) (by omega)]
theorem a5Y {z : Int} (h1 : -9223372036854775808 ≤ z) (h2 : z ≤ 9223372036854775807) : w8 (z, ()) = some (z % 8380417) :=
 c7 (ks := a37) (rs := a38) (x := (z, ())) ⟨j7.2 ⟨h1, h2⟩, trivial⟩ trivial
theorem b8m : ∀ x r, a1v x = some r → ∃ N, a1A N x = some r := by
 refine c8 (ks := a1T) (rs := a1U) fun x hw _ => ⟨0, ?_⟩
 obtain ⟨(z : Int), u⟩ := x
 have hz := u2.1 hw.1
 simp only at hz
 unfold a1A
 simp only
 rw [b7 (by omega) (by omega), a5Y (by omega) (by omega)]
 rfl
theorem c5h {z : Int} (h1 : -2147483648 ≤ z) (h2 : z ≤ 2147483647) : a1v (z, ()) = some (z % 8380417) :=
 c7 (ks := a1T) (rs := a1U) (x := (z, ())) ⟨u2.2 ⟨h1, h2⟩, trivial⟩ trivial
theorem a4J : ∀ x r, A7 x = some r → ∃ N, A8 N x = some r := by
 refine c8 (ks := i9) (rs := j4) fun x hw _ => ⟨257, ?_⟩
 obtain ⟨(a : List Int), u, u'⟩ := x
 have ha : a2c 256 a := Y3.1 hw.1
 have hl := ha.1
 unfold A8
 refine (K3 (s := fun i => (a, (i : Int), part (fun i => a.getD i 0 % 8380417) i a, List.replicate 256 0, ())) (y := (a03 a, List.replicate 256 0, ())) 256 ?_ ?_ 257 (by omega)).trans ?_
 ·intro i hi kn
  have h0 := a9Q ha i
  unfold n4
  simp (disch := omega) only [if_pos, b7, Int.toNat_natCast, c5h, Option.bind_some]
  rw [F6 (by omega) rfl, Int.natCast_add]
  rfl
 ·intro kn
  unfold n4
  simp (disch := omega) only [if_neg]
  rw [N9 hl]
  rfl
 ·rfl
theorem c1c : ∀ x r, X8 x = some r → ∃ N, a3w N x = some r := by
 refine c8 (ks := D7) (rs := a29) fun x hw _ => ⟨0, ?_⟩
 obtain ⟨(a : List Int), u⟩ := x
 unfold a3w
 have h : A7 (a, (), ()) = some (a03 a) := c7 (ks := i9) (rs := j4) (x := (a, (), ())) ⟨hw.1, trivial, trivial⟩ trivial
 simp only
 rw [h]
 rfl
theorem b8O {a : List Int} (h : a2c 256 a) : X8 (a, ()) = some (a03 a) :=
 c7 (ks := D7) (rs := a29) (x := (a, ())) (c1s.2 h) trivial
theorem c4B : ∀ x r, a54 x = some r → ∃ N, a6f N x = some r := by
 refine c8 (ks := a0n) (rs := a5l) fun x hw hq => ⟨0, ?_⟩
 obtain ⟨(z : Int), (m : Int), u⟩ := x
 obtain ⟨h1, h2, h3, h4⟩ : 0 ≤ z ∧ z ≤ 8380416 ∧ 0 < m ∧ m ≤ 523776 := hq
 have e1 := Int.emod_nonneg z (show m ≠ 0 by omega)
 have e2 := Int.emod_lt_of_pos z h3
 unfold a6f b9d
 simp only [b01 h1, a6u (show (0 : Int) ≤ m by omega)]
 rw [if_neg (by omega), a0O (x := m / 2) (by omega) (by omega)]
 split
 ·rw [a0O (by omega) (by omega)]
 ·rfl
theorem d3e {z m : Int} (h1 : 0 ≤ z) (h2 : z ≤ 8380416) (h3 : 0 < m) (h4 : m ≤ 523776) : a54 (z, m, ()) = some (b9d z m) :=
 c7 (ks := a0n) (rs := a5l) (x := (z, m, ())) ⟨u2.2 ⟨by omega, by omega⟩, u2.2 ⟨show -2147483648 ≤ m by omega, show m ≤ 2147483647 by omega⟩, trivial⟩ ⟨h1, h2, h3, h4⟩
theorem c5z {z m : Int} (hz : 0 ≤ z) (h3 : 0 < m) : b9d z m ≤ m / 2 ∧ 2 * b9d z m ≥ -m ∧ b9d z m ≤ z ∧ z - b9d z m ≤ z + m := by
 have e1 := Int.emod_nonneg z (show m ≠ 0 by omega)
 have e2 := Int.emod_lt_of_pos z h3
 have e3 : z % m ≤ z := by
  have := Int.mul_ediv_add_emod z m
  have := Int.mul_nonneg (show 0 ≤ m by omega) (Int.ediv_nonneg hz (show 0 ≤ m by omega))
  omega
 unfold b9d
 split <;> omega
theorem c2U : ∀ x r, a4t x = some r → ∃ N, a4C N x = some r := by
 refine c8 (ks := a4a) (rs := V8) fun x hw _ => ⟨0, ?_⟩
 obtain ⟨(z : Int), u⟩ := x
 have hz := u2.1 hw.1
 simp only at hz
 have h1 : 0 ≤ z % 8380417 ∧ z % 8380417 ≤ 8380416 := by omega
 have hb := c5z (z := z % 8380417) (m := 523776) (by omega) (by omega)
 unfold a4C fDh fDl d3v
 simp (disch := omega) only [b7, a5Y, d3e, Option.bind_some, a0O]
 generalize b9d (z % 8380417) 523776 = y at hb
 generalize z % 8380417 = x at h1 hb
 rw [a6u (by omega), a0O (x := (x - y) / 523776) (by omega) (by omega)]
 split <;> rfl
theorem d1j {z : Int} (h1 : -2147483648 ≤ z) (h2 : z ≤ 2147483647) : a4t (z, ()) = some (fDh z, fDl z) :=
 c7 (ks := a4a) (rs := V8) (x := (z, ())) ⟨u2.2 ⟨h1, h2⟩, trivial⟩ trivial
theorem b6N : ∀ x r, a0D x = some r → ∃ N, a0G N x = some r := by
 refine c8 (ks := G8) (rs := G9) fun x hw _ => ⟨257, ?_⟩
 obtain ⟨(a : List Int), u⟩ := x
 have ha := c1s.1 hw
 have hl := ha.1
 unfold a0G
 have hz : (List.replicate 256 (0 : Int)).length = 256 := List.length_replicate ..
 generalize List.replicate 256 (0 : Int) = Z at hz ⊢
 refine (K3 (s := fun i => (a, (i : Int), part (fun i => fDh (a.getD i 0)) i (Z), part (fun i => fDl (a.getD i 0)) i (Z), ())) (y := (x7 fun i => fDh (a.getD i 0), x7 fun i => fDl (a.getD i 0), ())) 256 ?_ ?_ 257 (by omega)).trans ?_
 ·intro i hi kn
  have h0 := a9Q ha i
  unfold K4
  simp (disch := omega) only [if_pos, b7, Int.toNat_natCast, d1j, Option.bind_some]
  rw [F6 (h := fun i => fDh (a.getD i 0)) (by omega) rfl, F6 (h := fun i => fDl (a.getD i 0)) (by omega) rfl, Int.natCast_add]
  rfl
 ·intro kn
  unfold K4
  simp (disch := omega) only [if_neg]
  rw [N9 hz, N9 hz]
  rfl
 ·rfl
theorem d4v {a : List Int} (h : a2c 256 a) : a0D (a, ()) = some (c85 a) :=
 c7 (ks := G8) (rs := G9) (x := (a, ())) (c1s.2 h) trivial
theorem d5T {n : Nat} {a : List Int} : Kd.wf (.xs .bool n) a ↔ a.length = n ∧ ∀ z ∈ a, z = 0 ∨ z = 1 := by simp [Kd.wf]
theorem c84 {a b : List Int} : a2U [.xs (.int .i32) 256, .xs (.int .i32) 256] (a, b, ()) ↔ a2c 256 a ∧ a2c 256 b := by simp [a2U, Y3]
theorem d2F (z : Int) : -4190208 ≤ c8d z ∧ c8d z ≤ 4190208 := by unfold c8d; split <;> omega
theorem c8f {a : List Int} {i : Nat} (hi : i < 256) : (c5y a).getD i 0 = c8d (a.getD i 0) := a0B hi
theorem c0i : ∀ x r, a2j x = some r → ∃ N, a2v N x = some r := by
 refine c8 (ks := a2w) (rs := a2x) fun x hw _ => ⟨0, ?_⟩
 obtain ⟨(z : Int), u⟩ := x
 have hz := u2.1 hw.1
 simp only at hz
 have h1 : 0 ≤ z % 8380417 ∧ z % 8380417 ≤ 8380416 := by omega
 unfold a2v c8d
 simp (disch := omega) only [b7, a5Y, Option.bind_some, a0O]
 split <;> rfl
theorem c7S {z : Int} (h1 : -2147483648 ≤ z) (h2 : z ≤ 2147483647) : a2j (z, ()) = some (c8d z) :=
 c7 (ks := a2w) (rs := a2x) (x := (z, ())) ⟨u2.2 ⟨h1, h2⟩, trivial⟩ trivial
theorem a5E : ∀ x r, B3 x = some r → ∃ N, B6 N x = some r := by
 refine c8 (ks := j8) (rs := j9) fun x hw _ => ⟨257, ?_⟩
 obtain ⟨(a : List Int), u, u'⟩ := x
 have ha : a2c 256 a := Y3.1 hw.1
 have hl := ha.1
 unfold B6
 refine (K3 (s := fun i => (a, (i : Int), part (fun i => c8d (a.getD i 0)) i a, List.replicate 256 0, ())) (y := (c5y a, List.replicate 256 0, ())) 256 ?_ ?_ 257 (by omega)).trans ?_
 ·intro i hi kn
  have h0 := a9Q ha i
  unfold p8
  simp (disch := omega) only [if_pos, b7, Int.toNat_natCast, c7S, Option.bind_some]
  rw [F6 (by omega) rfl, Int.natCast_add]
  rfl
 ·intro kn
  unfold p8
  simp (disch := omega) only [if_neg]
  rw [N9 hl]
  rfl
 ·rfl
theorem c1a : ∀ x r, a3q x = some r → ∃ N, a3u N x = some r := by
 refine c8 (ks := D6) (rs := a28) fun x hw _ => ⟨0, ?_⟩
 obtain ⟨(a : List Int), u⟩ := x
 unfold a3u
 have h : B3 (a, (), ()) = some (c5y a) := c7 (ks := j8) (rs := j9) (x := (a, (), ())) ⟨hw.1, trivial, trivial⟩ trivial
 simp only
 rw [h]
 rfl
theorem c9g {a : List Int} (h : a2c 256 a) : a3q (a, ()) = some (c5y a) :=
 c7 (ks := D6) (rs := a28) (x := (a, ())) (c1s.2 h) trivial
theorem c8v (a : List Int) : b9t a 0 = 0 := by unfold b9t; rfl
theorem c1H (a : List Int) (n : Nat) : b9t a (n + 1) = if d4l (c8d (a.getD n 0)) > b9t a n then d4l (c8d (a.getD n 0)) else b9t a n := by
 unfold b9t
 rw [List.range_succ, List.foldl_append]
 rfl
theorem d3L (a : List Int) (n : Nat) : 0 ≤ b9t a n ∧ b9t a n ≤ 4190208 := by
 induction n with
 | zero => unfold b9t; exact ⟨Int.le_refl 0, (by decide : (0 : Int) ≤ 4190208)⟩
 | succ n ih =>
  rw [c1H]
  have := d2F (a.getD n 0)
  unfold d4l
  split <;> split <;> omega
theorem c4z : ∀ x r, a52 x = some r → ∃ N, a6e N x = some r := by
 refine c8 (ks := a0j) (rs := a5h) fun x hw _ => ⟨257, ?_⟩
 obtain ⟨(a : List Int), u⟩ := x
 have ha := c1s.1 hw
 unfold a6e
 simp only [c9g ha, Option.bind_some]
 refine (j6 (s := fun i => (b9t a i, c5y a, (i : Int), ())) (y := (c9O a, ())) 256 (by rw [c8v]; rfl) ?_ ?_ 257 (by omega)).trans ?_
 ·intro i hi kn
  have hb := d3L a i
  have hc := d2F (a.getD i 0)
  unfold a0H
  simp (disch := omega) only [if_pos, b7, Int.toNat_natCast, c8f, a0O]
  rw [c1H, Int.natCast_add]
  unfold d4l
  congr 2
  split <;> split <;> split <;> (try split) <;> omega
 ·intro kn
  unfold a0H
  simp (disch := omega) only [if_neg]
  rfl
 ·rfl
theorem d27 {a : List Int} (h : a2c 256 a) : a52 (a, ()) = some (c9O a) :=
 c7 (ks := a0j) (rs := a5h) (x := (a, ())) (c1s.2 h) trivial
theorem c50 : ∀ x r, a8a x = some r → ∃ N, a8r N x = some r := by
 refine c8 (ks := a08) (rs := a09) fun x hw _ => ⟨257, ?_⟩
 obtain ⟨(a : List Int), (b : List Int), u⟩ := x
 obtain ⟨ha, hb⟩ := c84.1 hw
 have hl := ha.1
 unfold a8r
 refine (K3 (s := fun i => ((i : Int), part (fun i => (a.getD i 0 + b.getD i 0) % 8380417) i a, b, List.replicate 256 0, ())) (y := (c8e a b, List.replicate 256 0, ())) 256 ?_ ?_ 257 (by omega)).trans ?_
 ·intro i hi kn
  have h0 := a9Q ha i
  have h1 := a9Q hb i
  unfold a1z
  simp (disch := omega) only [if_pos, b7, Int.toNat_natCast, a3D, a5Y, Option.bind_some]
  rw [F6 (by omega) rfl, Int.natCast_add]
  rfl
 ·intro kn
  unfold a1z
  simp (disch := omega) only [if_neg]
  rw [N9 hl]
  rfl
 ·rfl
theorem c53 : ∀ x r, a8c x = some r → ∃ N, a8x N x = some r := by
 refine c8 (ks := a1b) (rs := a1c) fun x hw _ => ⟨257, ?_⟩
 obtain ⟨(a : List Int), (b : List Int), u⟩ := x
 obtain ⟨ha, hb⟩ := c84.1 hw
 have hl := ha.1
 unfold a8x
 refine (K3 (s := fun i => ((i : Int), part (fun i => (a.getD i 0 - b.getD i 0) % 8380417) i a, b, List.replicate 256 0, ())) (y := (c3Z a b, List.replicate 256 0, ())) 256 ?_ ?_ 257 (by omega)).trans ?_
 ·intro i hi kn
  have h0 := a9Q ha i
  have h1 := a9Q hb i
  unfold a1B
  simp (disch := omega) only [if_pos, b7, Int.toNat_natCast, a3D, a5Y, Option.bind_some]
  rw [F6 (by omega) rfl, Int.natCast_add]
  rfl
 ·intro kn
  unfold a1B
  simp (disch := omega) only [if_neg]
  rw [N9 hl]
  rfl
 ·rfl
theorem c9M (a b : List Int) : a2c 256 (c8e a b) := rows.range fun i _ => by omega
theorem c9N (a b : List Int) : a2c 256 (c3Z a b) := rows.range fun i _ => by omega
theorem d4u {a b : List Int} (h : a2c 256 a) (h' : a2c 256 b) : a8a (a, b, ()) = some (c8e a b) :=
 c7 (ks := a08) (rs := a09) (x := (a, b, ())) (c84.2 ⟨h, h'⟩) trivial
theorem d5y {h r : List Int} : a2U [.xs .bool 256, .xs (.int .i32) 256] (h, r, ()) ↔ (h.length = 256 ∧ ∀ z ∈ h, z = 0 ∨ z = 1) ∧ a2c 256 r := by simp only [a2U, Y3, d5T, and_true]
theorem d3u (z : Int) : 0 ≤ fDh z ∧ fDh z ≤ 15 := by
 unfold fDh d3v b9d
 split <;> split at * <;> omega
theorem c0h : ∀ x r, a0c x = some r → ∃ N, a2u N x = some r := by
 refine c8 (ks := M9) (rs := N0) fun x hw _ => ⟨257, ?_⟩
 obtain ⟨(h : List Int), (r : List Int), u⟩ := x
 obtain ⟨hh, hr⟩ := d5y.1 hw
 unfold a2u
 simp only [d4v hr, Option.bind_some]
 have hlen : (c85 r).1.length = 256 := b3G _
 refine (K3 (s := fun i => (h, (i : Int), List.replicate 256 0, part (fun i => b5r (h.getD i 0) (r.getD i 0)) i (c85 r).1, (c85 r).2, ())) (y := (List.replicate 256 0, d3w h r, ())) 256 ?_ ?_ 257 (by omega)).trans ?_
 ·intro i hi kn
  have g1 : (i : Int) < 256 := by omega
  have g0 : (0 : Int) ≤ i := by omega
  have e1 : (c85 r).1.getD i 0 = fDh (r.getD i 0) := by rw [show (c85 r).1 = x7 fun i => fDh (r.getD i 0) from rfl, a0B hi]
  have e2 : (c85 r).2.getD i 0 = fDl (r.getD i 0) := by rw [show (c85 r).2 = x7 fun i => fDl (r.getD i 0) from rfl, a0B hi]
  have hb := d3u (r.getD i 0)
  have hpl : (part (fun i => b5r (h.getD i 0) (r.getD i 0)) i (c85 r).1).length = 256 := by rw [c0a (by omega)]; exact hlen
  unfold O9
  simp only [g1, g0, hi, if_true, Int.toNat_natCast, a3D, e1, e2]
  simp (disch := omega) only [b7, a0O, b01]
  by_cases hz : h.getD i 0 = 0
  ·have e5 : part (fun i => b5r (h.getD i 0) (r.getD i 0)) (i + 1) (c85 r).1 = part (fun i => b5r (h.getD i 0) (r.getD i 0)) i (c85 r).1 := by
    rw [← F6 (h := fun i => b5r (h.getD i 0) (r.getD i 0)) (z := fDh (r.getD i 0)) (by omega) (by unfold b5r; rw [hz]; rfl)]
    refine rows.ext (n := 256) (by rw [List.length_set, hpl]) hpl fun j hj => ?_
    by_cases hji : i = j
    ·subst hji; rw [a1N (by omega), a3D, e1]
    ·rw [getD_set_ne hji]
   simp only [hz, ne_eq, not_true_eq_false, if_false]
   rw [e5, Int.natCast_add]
   rfl
  ·simp only [hz, ne_eq, not_false_eq_true, if_true]
   split
   ·rename_i hgt
    rw [F6 (h := fun i => b5r (h.getD i 0) (r.getD i 0)) (by omega) (by unfold b5r; rw [if_pos hz, if_pos hgt]), Int.natCast_add]
    rfl
   ·rename_i hgt
    rw [F6 (h := fun i => b5r (h.getD i 0) (r.getD i 0)) (by omega) (by unfold b5r; rw [if_pos hz, if_neg hgt]; congr 1; omega), Int.natCast_add]
    rfl
 ·intro kn
  unfold O9
  simp (disch := omega) only [if_neg]
  rw [N9 hlen]
  rfl
 ·rfl
theorem d4A {h r : List Int} (hh : h.length = 256 ∧ ∀ z ∈ h, z = 0 ∨ z = 1) (hr : a2c 256 r) : a0c (h, r, ()) = some (d3w h r) :=
 c7 (ks := M9) (rs := N0) (x := (h, r, ())) (d5y.2 ⟨hh, hr⟩) trivial
end Go.Ax.TryP
set_option linter.unusedVariables false
namespace Go.Ax.TryP
open Go.Proofs
theorem b2p {h h' : Nat → Int} (e : ∀ i, i < 256 → h i = h' i) : x7 h = x7 h' := List.map_congr_left fun i hi => e i (List.mem_range.1 hi)
theorem c3S {h h' : Nat → Int} {j : Nat} {v : Int} (hj : h' j = v) (e : ∀ i, i < 256 → i ≠ j → h' i = h i) : (x7 h).set j v = x7 h' := by
 apply List.ext_getElem?
 intro i
 rw [List.getElem?_set]
 by_cases hij : j = i
 ·subst hij
  simp only [if_true]
  by_cases hl : j < 256
  ·simp [x7, hl, hj]
  ·simp [x7, hl]
 ·rw [if_neg hij]
  by_cases hl : i < 256
  ·simp [x7, hl, e i hl (Ne.symm hij)]
  ·simp [x7, hl]
theorem c79 {a : List Int} (h : a.length = 256) : x7 (fun i => a.getD i 0) = a := by
 apply List.ext_getElem?
 intro i
 by_cases hl : i < 256
 ·simp [x7, hl, List.getD_eq_getElem?_getD, List.getElem?_eq_getElem (show i < a.length by omega)]
 ·simp [x7, hl, List.getElem?_eq_none (show a.length ≤ i by omega)]
def dred (a : List Int) : Prop := a.length = 256 ∧ ∀ i, 0 ≤ a.getD i 0 ∧ a.getD i 0 < 8380417
theorem c3T (a : List Int) : dred (a03 a) := ⟨(c66 a).1, fun i => by have := c65 a i; omega⟩
theorem b3H {h : Nat → Int} (hh : ∀ i, i < 256 → 0 ≤ h i ∧ h i < 8380417) : dred (x7 h) := by
 refine ⟨by simp [x7], fun i => ?_⟩
 by_cases hi : i < 256
 ·rw [a0B hi]; exact hh i hi
 ·rw [List.getD_eq_getElem?_getD, List.getElem?_eq_none (by simp [x7]; omega)]; simp
theorem dred.i32 {a : List Int} (h : dred a) : a2c 256 a := by
 refine ⟨h.1, fun z hz => ?_⟩
 obtain ⟨i, hi, rfl⟩ := List.getElem_of_mem hz
 have := h.2 i
 rw [List.getD_eq_getElem?_getD, List.getElem?_eq_getElem hi] at this
 simp only [Option.getD_some] at this
 omega
theorem c5s (s : Nat) (a : List Int) (j : Nat) : 0 ≤ b5F s a j ∧ b5F s a j < 8380417 := by unfold b5F; split <;> omega
theorem c5u (s : Nat) (a : List Int) : dred (c2m s a) := by exact b3H fun i _ => c5s s a i
theorem d1z {s m b r : Nat} (hm : s * m = 128) (hs : 0 < s) (hr : r < s) (a : List Int) : b5F s a (2 * s * b + r) = (a.getD (2 * s * b + r) 0 + R9 (m + b) * a.getD (2 * s * b + r + s) 0 % 8380417) % 8380417 := by
 have e1 : (2 * s * b + r) % (2 * s) = r := by rw [Nat.mul_add_mod]; exact Nat.mod_eq_of_lt (by omega)
 have e2 : (2 * s * b + r) / (2 * s) = b := by rw [Nat.mul_add_div (by omega), Nat.div_eq_of_lt (by omega), Nat.add_zero]
 have e3 : 128 / s = m := by rw [← hm, Nat.mul_div_cancel_left _ hs]
 unfold b5F
 rw [e1, e2, e3, if_pos hr]
theorem d1y {s m b r : Nat} (hm : s * m = 128) (hs : 0 < s) (hr : r < s) (a : List Int) : b5F s a (2 * s * b + r + s) = (a.getD (2 * s * b + r) 0 - R9 (m + b) * a.getD (2 * s * b + r + s) 0 % 8380417) % 8380417 := by
 have e1 : (2 * s * b + r + s) % (2 * s) = r + s := by rw [Nat.add_assoc, Nat.mul_add_mod]; exact Nat.mod_eq_of_lt (by omega)
 have e2 : (2 * s * b + r + s) / (2 * s) = b := by rw [Nat.add_assoc, Nat.mul_add_div (by omega), Nat.div_eq_of_lt (by omega), Nat.add_zero]
 have e3 : 128 / s = m := by rw [← hm, Nat.mul_div_cancel_left _ hs]
 unfold b5F
 rw [e1, e2, e3, if_neg (by omega), Nat.add_sub_cancel]
theorem c5r (s : Nat) (a : List Int) (j : Nat) : 0 ≤ b5E s a j ∧ b5E s a j < 8380417 := by unfold b5E; split <;> omega
theorem c5t (s : Nat) (a : List Int) : dred (c2k s a) := b3H fun i _ => c5r s a i
theorem b87 (a : List Int) : ∀ i, dred (b2o a i)
 | 0 => c3T a
 | _ + 1 => c5t _ _
theorem d1x {s b r : Nat} (hs : 0 < s) (hr : r < s) (a : List Int) : b5E s a (2 * s * b + r) = (a.getD (2 * s * b + r) 0 + a.getD (2 * s * b + r + s) 0) % 8380417 := by
 have e1 : (2 * s * b + r) % (2 * s) = r := by rw [Nat.mul_add_mod]; exact Nat.mod_eq_of_lt (by omega)
 unfold b5E
 rw [e1, if_pos hr]
theorem d1w {s m b r : Nat} (hm : s * m = 128) (hs : 0 < s) (hr : r < s) (a : List Int) : b5E s a (2 * s * b + r + s) = R9 (2 * m - 1 - b) * (a.getD (2 * s * b + r + s) 0 - a.getD (2 * s * b + r) 0) % 8380417 := by
 have e1 : (2 * s * b + r + s) % (2 * s) = r + s := by rw [Nat.add_assoc, Nat.mul_add_mod]; exact Nat.mod_eq_of_lt (by omega)
 have e2 : (2 * s * b + r + s) / (2 * s) = b := by rw [Nat.add_assoc, Nat.mul_add_div (by omega), Nat.div_eq_of_lt (by omega), Nat.add_zero]
 have e3 : 128 / s = m := by rw [← hm, Nat.mul_div_cancel_left _ hs]
 unfold b5E
 rw [e1, e2, e3, if_neg (by omega), Nat.add_sub_cancel]
def dcg (x y : Int) : Prop := ∃ k : Int, x = y + 8380417 * k
theorem dcg.refl (x : Int) : dcg x x := ⟨0, by omega⟩
theorem dcg.symm {x y : Int} (h : dcg x y) : dcg y x := by obtain ⟨k, h⟩ := h; exact ⟨-k, by omega⟩
theorem dcg.trans {x y z : Int} (h : dcg x y) (g : dcg y z) : dcg x z := by obtain ⟨k, h⟩ := h; obtain ⟨l, g⟩ := g; exact ⟨k + l, by omega⟩
theorem dcg.add {x y z w : Int} (h : dcg x y) (g : dcg z w) : dcg (x + z) (y + w) := by obtain ⟨k, h⟩ := h; obtain ⟨l, g⟩ := g; exact ⟨k + l, by omega⟩
theorem dcg.sub {x y z w : Int} (h : dcg x y) (g : dcg z w) : dcg (x - z) (y - w) := by obtain ⟨k, h⟩ := h; obtain ⟨l, g⟩ := g; exact ⟨k - l, by omega⟩
theorem dcg.mul {x y z w : Int} (h : dcg x y) (g : dcg z w) : dcg (x * z) (y * w) := by
 obtain ⟨k, h⟩ := h; obtain ⟨l, g⟩ := g
 exact ⟨y * l + k * w + 8380417 * (k * l), by subst h; subst g; grind⟩
theorem b88 (a : List Int) : ∀ i, dred (b86 a i)
 | 0 => c3T a
 | _ + 1 => c5u _ _
theorem d1u (a : List Int) : a2P a = b86 a 8 := rfl
theorem c9K (a : List Int) : dred (a2P a) := by rw [d1u]; exact b88 a 8
theorem c9J (a : List Int) : dred (c3Y a) := b3H fun i _ => by omega
theorem c1N : ∀ n, n < 256 → bt p_bits_Reverse8_s0 n = (d2M n : Int) ∧ d2M n < 256 := by decide +kernel
theorem c0d : ∀ x r, a2i x = some r → ∃ N, a2m N x = some r := by
 refine c8 (ks := a2n) (rs := a2o) fun x hw _ => ⟨0, ?_⟩
 obtain ⟨(n : Int), u⟩ := x
 simp only [a2U, Kd.wf, a0F] at hw
 have hs : p_bits_Reverse8_s0.size = 256 := by decide +kernel
 have ht := (c1N n.toNat (by omega)).1
 unfold a2m
 rw [hs]
 simp (disch := omega) only [if_pos]
 rw [ht]
theorem d3h {n : Int} (h : 0 ≤ n ∧ n ≤ 255) : a2i (n, ()) = some (d2M n.toNat : Int) :=
 c7 (ks := a2n) (rs := a2o) (by simp only [a2U, Kd.wf, a0F]; exact ⟨h, trivial⟩) trivial
theorem d3C {a b : Int} (h : -2147483648 ≤ a ∧ a ≤ 2147483647) (h' : -2147483648 ≤ b ∧ b ≤ 2147483647) : -4611686018427387904 ≤ a * b ∧ a * b ≤ 4611686018427387904 := by
 have h1 : a.natAbs * b.natAbs ≤ 2147483648 * 2147483648 := Nat.mul_le_mul (by omega) (by omega)
 rw [← Int.natAbs_mul] at h1
 omega
theorem c2V : ∀ x r, L9 x = some r → ∃ N, a4D N x = some r := by
 refine c8 (ks := X0) (rs := a4c) fun x hw _ => ⟨0, ?_⟩
 obtain ⟨(a : Int), (b : Int), u⟩ := x
 have ha : -2147483648 ≤ a ∧ a ≤ 2147483647 := u2.1 hw.1
 have hb : -2147483648 ≤ b ∧ b ≤ 2147483647 := u2.1 hw.2.1
 have hm := d3C ha hb
 unfold a4D
 dsimp only
 rw [b7 (x := a) (by omega) (by omega), b7 (x := b) (by omega) (by omega), b7 (by omega) (by omega), a5Y (by omega) (by omega)]
 rfl
theorem b3A {a b : Int} (h : -2147483648 ≤ a ∧ a ≤ 2147483647) (h' : -2147483648 ≤ b ∧ b ≤ 2147483647) : L9 (a, b, ()) = some (a * b % 8380417) :=
 c7 (ks := X0) (rs := a4c) (x := (a, b, ())) ⟨u2.2 h, u2.2 h', trivial⟩ trivial
def dh (j : Nat) : Int := 1753 ^ j % 8380417
theorem d1v (j : Nat) : 0 ≤ dh j ∧ dh j ≤ 8380416 := by unfold dh; omega
theorem b89 (j : Nat) : 0 ≤ R9 j ∧ R9 j ≤ 8380416 := by unfold R9; omega
theorem d3p (j : Nat) : dh j * 1753 % 8380417 = dh (j + 1) := by
 unfold dh
 rw [Int.pow_succ]
 generalize (1753 : Int) ^ j = m
 omega
theorem c1f : ∀ x r, a06 x = some r → ∃ N, a3z N x = some r := by
 refine c8 (ks := a3f) (rs := Q8) fun x hw _ => ⟨300, ?_⟩
 unfold a3z
 have hZ : (List.replicate 256 (0 : Int)).length = 256 := List.length_replicate ..
 have e0 : (List.replicate 256 (0 : Int)).set 0 1 = part dh 1 (List.replicate 256 0) := by
  have h := b8I (h := dh) (i := 0) (a := List.replicate 256 0) (by omega)
  rw [b47] at h
  exact h
 generalize hz : List.replicate 256 (0 : Int) = Z at hZ e0 ⊢
 refine (j6 (F := J3 300) (s := fun i => (((i + 1 : Nat) : Int), Z, part dh (i + 1) Z, Z, ())) (y := (Z, (List.range 256).map dh, Z, ())) 255 ?_ ?_ ?_ 300 (by omega)).trans ?_
 ·rw [e0]; rfl
 ·intro i hi kn
  have hb := d1v i
  have hg : (part dh (i + 1) Z).getD i 0 = dh i := c4s (by omega)
  have e1 : ((i + 1 : Nat) : Int) - 1 = (i : Int) := by omega
  unfold J3
  dsimp only
  rw [b7 (by omega) (by omega), e1, if_pos (by omega), if_pos (by omega), if_pos (by omega), Int.toNat_natCast, if_pos (by omega), hg, b3A (by omega) (by omega), d3p]
  simp only [Option.bind_some]
  rw [if_pos (by omega), if_pos (by omega), Int.toNat_natCast, if_pos (by omega), F6 (h := dh) (i := i + 1) (a := Z) (by omega) rfl, b7 (by omega) (by omega)]
  rfl
 ·intro kn
  unfold J3
  dsimp only
  rw [if_neg (by omega), N9 hZ]
 dsimp only
 refine (K3 (F := J4 300) (s := fun i => ((i : Int), Z, (List.range 256).map dh, part R9 i Z, ())) (y := (Z, (List.range 256).map R9, ())) 256 ?_ ?_ 300 (by omega)).trans ?_
 ·intro i hi kn
  have hr := (c1N i hi).2
  have hg : ((List.range 256).map dh).getD (d2M i) 0 = dh (d2M i) := u9 hr
  unfold J4
  dsimp only
  rw [if_pos (by omega), c3p (by omega) (by omega), d3h (by omega), Int.toNat_natCast]
  simp only [Option.bind_some]
  rw [if_pos (by omega), if_pos (by omega), Int.toNat_natCast, if_pos hr, if_pos (by omega), if_pos (by omega), if_pos (by omega), hg, b7 (by omega) (by omega),
   F6 (h := R9) (i := i) (a := Z) (z := dh (d2M i)) (by omega) rfl, Int.natCast_add]
  rfl
 ·intro kn
  unfold J4
  dsimp only
  rw [if_neg (by omega), N9 hZ]
 ·rfl
theorem c3E : a06 () = some ((List.range 256).map R9) := c7 (ks := a3f) (rs := Q8) trivial trivial
def b2n (s at' r j : Nat) : Prop := j < at' ∨ (at' ≤ j ∧ j < at' + r) ∨ (at' + s ≤ j ∧ j < at' + s + r)
instance (s at' r j : Nat) : Decidable (b2n s at' r j) := by unfold b2n; infer_instance
def b5u (h : Nat → Int) (s : Nat) (a : List Int) (at' r j : Nat) : Int := if b2n s at' r j then h j else a.getD j 0
theorem c9I {h : Nat → Int} {s : Nat} {a : List Int} {c r : Nat} (hs : 0 < s) (hr : r < s) (hc : c + 2 * s ≤ 256) : (x7 (b5u h s a c r)).getD (c + r) 0 = a.getD (c + r) 0 := by
 rw [a0B (by omega), b5u, if_neg (by unfold b2n; omega)]
theorem c9H {h : Nat → Int} {s : Nat} {a : List Int} {c r : Nat} (hr : r < s) (hc : c + 2 * s ≤ 256) : (x7 (b5u h s a c r)).getD (c + r + s) 0 = a.getD (c + r + s) 0 := by
 rw [a0B (by omega), b5u, if_neg (by unfold b2n; omega)]
theorem c3Q {h : Nat → Int} {s : Nat} {a : List Int} {c r : Nat} (hr : r < s) :
  ((x7 (b5u h s a c r)).set (c + r) (h (c + r))).set (c + r + s) (h (c + r + s)) = x7 (b5u h s a c (r + 1)) := by
 rw [c3S (h' := fun j => if j = c + r then h j else b5u h s a c r j) (by simp) (fun i _ hi => by simp [hi])]
 rw [c3S (h' := b5u h s a c (r + 1)) ?_ ?_]
 ·unfold b5u; rw [if_pos (by unfold b2n; omega)]
 ·intro i hi hne
  by_cases hh : i = c + r
  ·rw [if_pos hh, hh]; unfold b5u; rw [if_pos (by unfold b2n; omega)]
  ·rw [if_neg hh]; unfold b5u
   by_cases hd : b2n s c r i
   ·rw [if_pos hd, if_pos (by unfold b2n at *; omega)]
   ·rw [if_neg hd, if_neg (by unfold b2n at *; omega)]
theorem c3P {h : Nat → Int} {s : Nat} {a : List Int} {c : Nat} : x7 (b5u h s a c s) = x7 (b5u h s a (c + 2 * s) 0) := by
 refine b2p fun i hi => ?_
 unfold b5u
 by_cases hd : b2n s c s i
 ·rw [if_pos hd, if_pos (by unfold b2n at *; omega)]
 ·rw [if_neg hd, if_neg (by unfold b2n at *; omega)]
theorem c3R {h : Nat → Int} {s : Nat} {a : List Int} (ha : a.length = 256) : x7 (b5u h s a 0 0) = a := by
 refine (b2p fun i hi => ?_).trans (c79 ha)
 unfold b5u
 rw [if_neg (by unfold b2n; omega)]
theorem c62 {h : Nat → Int} {s : Nat} {a : List Int} : x7 (b5u h s a 256 0) = x7 h := by
 refine b2p fun i hi => ?_
 unfold b5u
 rw [if_pos (by unfold b2n; omega)]
theorem d5H {s m b : Nat} (hm : s * m = 128) (hb : b < m) : 2 * s * b + 2 * s ≤ 256 := by
 have : s * (b + 1) ≤ s * m := Nat.mul_le_mul_left _ (by omega)
 rw [hm, Nat.mul_add] at this
 rw [Nat.mul_assoc]
 omega
theorem c77 {β : Type} {s m b : Nat} (hm : s * m = 128) (hs : 0 < s) (hs128 : s ≤ 128) (hb : b < m) (hm128 : m ≤ 128) {a : List Int} (ha : dred a) (res : List Int) (K : Int × Int × Int × List Int × List Int × List Int × Unit → Option β) :
  E1 (I2 300) 300 (((m + b : Nat) : Int), (s : Int), ((2 * s * b : Nat) : Int), ((2 * s * b : Nat) : Int), x7 (b5u (b5F s a) s a (2 * s * b) 0), res, (List.range 256).map R9, ()) K
   = K (((m + b : Nat) : Int), (s : Int), ((2 * s * b : Nat) : Int), x7 (b5u (b5F s a) s a (2 * s * (b + 1)) 0), res, (List.range 256).map R9, ()) := by
 have hat := d5H hm hb
 have hnext : 2 * s * (b + 1) = 2 * s * b + 2 * s := by rw [Nat.mul_add, Nat.mul_one]
 rw [hnext]
 have hk : m + b < 256 := by omega
 have hz := b89 (m + b)
 have hzg : ((List.range 256).map R9).getD (m + b) 0 = R9 (m + b) := u9 (by omega)
 have hlo := fun r (hr : r < s) => d1z (b := b) hm hs hr a
 have hhi := fun r (hr : r < s) => d1y (b := b) hm hs hr a
 generalize 2 * s * b = c at *
 generalize m + b = k at *
 refine K3 (F := I2 300) (s := fun r => ((k : Int), (s : Int), (c : Int), ((c + r : Nat) : Int), x7 (b5u (b5F s a) s a c r), res, (List.range 256).map R9, ())) (y := ((k : Int), (s : Int), (c : Int), x7 (b5u (b5F s a) s a (c + 2 * s) 0), res, (List.range 256).map R9, ())) s ?_ ?_ 300 (by omega)
 ·intro r hr kn
  have h1 := ha.2 (c + r)
  have h2 := ha.2 (c + r + s)
  have hl := hlo r hr
  have hh := hhi r hr
  have ec : ((c + r : Nat) : Int) + (s : Int) = ((c + r + s : Nat) : Int) := by omega
  have ht := b3A (a := R9 k) (b := a.getD (c + r + s) 0) (by omega) (by omega)
  have hT : 0 ≤ R9 k * a.getD (c + r + s) 0 % 8380417 ∧ R9 k * a.getD (c + r + s) 0 % 8380417 ≤ 8380416 := by omega
  unfold I2
  simp (disch := omega) only [if_pos, b7, ec, Int.toNat_natCast, hzg, c9I hs hr (a := a) (c := c), c9H hr (a := a) (c := c), ht, Option.bind_some]
  simp (disch := omega) only [a5Y, Option.bind_some]
  rw [← hl, ← hh, c3Q hr]
  rfl
 ·intro kn
  unfold I2
  simp (disch := omega) only [if_neg, b7]
  rw [c3P]
theorem c78 {β : Type} {s m : Nat} (hm : s * m = 128) (hs : 0 < s) (hs128 : s ≤ 128) (hm0 : 0 < m) (hm128 : m ≤ 128) {a : List Int} (ha : dred a) (res : List Int) (K : Int × Int × List Int × List Int × List Int × Unit → Option β) :
  E1 (L5 300) 300 (((m - 1 : Nat) : Int), (s : Int), 0, a, res, (List.range 256).map R9, ()) K = K (((2 * m - 1 : Nat) : Int), (s : Int), c2m s a, res, (List.range 256).map R9, ()) := by
 have hall : 2 * s * m = 256 := by rw [Nat.mul_assoc, hm]
 refine j6 (F := L5 300) (s := fun b => (((m + b - 1 : Nat) : Int), (s : Int), ((2 * s * b : Nat) : Int), x7 (b5u (b5F s a) s a (2 * s * b) 0), res, (List.range 256).map R9, ())) (y := (((2 * m - 1 : Nat) : Int), (s : Int), c2m s a, res, (List.range 256).map R9, ())) m ?_ ?_ ?_ 300 (by omega)
 ·rw [Nat.mul_zero, c3R ha.1]; rfl
 ·intro b hb kn
  have hat := d5H hm hb
  have hnext : 2 * s * (b + 1) = 2 * s * b + 2 * s := by rw [Nat.mul_add, Nat.mul_one]
  unfold L5
  dsimp only
  rw [if_pos (by omega), b7 (by omega) (by omega), show ((m + b - 1 : Nat) : Int) + 1 = ((m + b : Nat) : Int) by omega]
  refine (c77 hm hs hs128 hb hm128 ha res _).trans ?_
  rw [hnext]
  simp (disch := omega) only [b7]
  rw [show m + (b + 1) - 1 = m + b by omega, show ((2 * s * b : Nat) : Int) + 2 * (s : Int) = ((2 * s * b + 2 * s : Nat) : Int) by omega]
 ·intro kn
  unfold L5
  dsimp only
  rw [if_neg (by omega), hall, c62, show m + m - 1 = 2 * m - 1 by omega]
  rfl
theorem c3U : ∀ i, i < 8 → (128 / 2 ^ i) * 2 ^ i = 128 ∧ 0 < 128 / 2 ^ i ∧ 128 / 2 ^ i ≤ 128 ∧ 128 / 2 ^ i / 2 = 128 / 2 ^ (i + 1) ∧ 0 < 2 ^ i ∧ 2 ^ i ≤ 128 ∧ 2 * 2 ^ i = 2 ^ (i + 1) := by decide
theorem c52 : ∀ x r, a24 x = some r → ∃ N, a8w N x = some r := by
 refine c8 (ks := O4) (rs := a6K) fun x hw _ => ⟨300, ?_⟩
 obtain ⟨(a : List Int), u⟩ := x
 have ha := c1s.1 hw
 unfold a8w
 dsimp only
 rw [b8O ha, c3E]
 simp only [Option.bind_some]
 generalize List.replicate 256 (0 : Int) = Z
 refine (K3 (F := V5 300) (s := fun i => (((2 ^ i - 1 : Nat) : Int), ((128 / 2 ^ i : Nat) : Int), b86 a i, Z, (List.range 256).map R9, ())) (y := (a2P a, Z, ())) 8 ?_ ?_ 300 (by omega)).trans ?_
 ·intro i hi kn
  obtain ⟨f1, f2, f3, f4, f5, f6, f7⟩ := c3U i hi
  unfold V5
  dsimp only
  rw [if_pos (by omega)]
  refine (c78 f1 f2 f3 f5 f6 (b88 a i) _ _).trans ?_
  simp (disch := omega) only [a6u, b7]
  have e1 : ((128 / 2 ^ i : Nat) : Int) / 2 = ((128 / 2 ^ (i + 1) : Nat) : Int) := by rw [← f4]; omega
  rw [e1, f7]
  rfl
 ·intro kn
  unfold V5
  dsimp only
  rw [if_neg (by decide)]
  rfl
 ·rfl
theorem c5g {a : List Int} (h : a2c 256 a) : a24 (a, ()) = some (a2P a) := c7 (ks := O4) (rs := a6K) (x := (a, ())) (c1s.2 h) trivial
theorem c75 {β : Type} {s m b : Nat} (hm : s * m = 128) (hs : 0 < s) (hs128 : s ≤ 128) (hb : b < m) (hm128 : m ≤ 128) {a : List Int} (ha : dred a) (res : List Int) (K : Int × Int × Int × List Int × List Int × List Int × Unit → Option β) :
  E1 (I1 300) 300 (((2 * m - 1 - b : Nat) : Int), (s : Int), ((2 * s * b : Nat) : Int), ((2 * s * b : Nat) : Int), x7 (b5u (b5E s a) s a (2 * s * b) 0), res, (List.range 256).map R9, ()) K
   = K (((2 * m - 1 - b : Nat) : Int), (s : Int), ((2 * s * b : Nat) : Int), x7 (b5u (b5E s a) s a (2 * s * (b + 1)) 0), res, (List.range 256).map R9, ()) := by
 have hat := d5H hm hb
 have hnext : 2 * s * (b + 1) = 2 * s * b + 2 * s := by rw [Nat.mul_add, Nat.mul_one]
 rw [hnext]
 have hk : 2 * m - 1 - b < 256 := by omega
 have hz := b89 (2 * m - 1 - b)
 have hzg : ((List.range 256).map R9).getD (2 * m - 1 - b) 0 = R9 (2 * m - 1 - b) := u9 hk
 have hlo := fun r (hr : r < s) => d1x (b := b) hs hr a
 have hhi := fun r (hr : r < s) => d1w (b := b) hm hs hr a
 generalize 2 * s * b = c at *
 generalize 2 * m - 1 - b = k at *
 refine K3 (F := I1 300) (s := fun r => ((k : Int), (s : Int), (c : Int), ((c + r : Nat) : Int), x7 (b5u (b5E s a) s a c r), res, (List.range 256).map R9, ())) (y := ((k : Int), (s : Int), (c : Int), x7 (b5u (b5E s a) s a (c + 2 * s) 0), res, (List.range 256).map R9, ())) s ?_ ?_ 300 (by omega)
 ·intro r hr kn
  have h1 := ha.2 (c + r)
  have h2 := ha.2 (c + r + s)
  have hl := hlo r hr
  have hh := hhi r hr
  have ec : ((c + r : Nat) : Int) + (s : Int) = ((c + r + s : Nat) : Int) := by omega
  have ht := b3A (a := R9 k) (b := a.getD (c + r + s) 0 - a.getD (c + r) 0) (by omega) (by omega)
  unfold I1
  simp (disch := omega) only [if_pos, b7, a0O, ec, Int.toNat_natCast, hzg, c9I hs hr (a := a) (c := c), c9H hr (a := a) (c := c), ht, a5Y, Option.bind_some]
  rw [← hl, ← hh, c3Q hr]
  rfl
 ·intro kn
  unfold I1
  simp (disch := omega) only [if_neg, b7]
  rw [c3P]
theorem c76 {β : Type} {s m : Nat} (hm : s * m = 128) (hs : 0 < s) (hs128 : s ≤ 128) (hm0 : 0 < m) (hm128 : m ≤ 128) {a : List Int} (ha : dred a) (res : List Int) (K : Int × Int × List Int × List Int × List Int × Unit → Option β) :
  E1 (L4 300) 300 (((2 * m : Nat) : Int), (s : Int), 0, a, res, (List.range 256).map R9, ()) K = K (((m : Nat) : Int), (s : Int), c2k s a, res, (List.range 256).map R9, ()) := by
 have hall : 2 * s * m = 256 := by rw [Nat.mul_assoc, hm]
 refine j6 (F := L4 300) (s := fun b => (((2 * m - b : Nat) : Int), (s : Int), ((2 * s * b : Nat) : Int), x7 (b5u (b5E s a) s a (2 * s * b) 0), res, (List.range 256).map R9, ())) (y := (((m : Nat) : Int), (s : Int), c2k s a, res, (List.range 256).map R9, ())) m ?_ ?_ ?_ 300 (by omega)
 ·rw [Nat.mul_zero, c3R ha.1]; rfl
 ·intro b hb kn
  have hat := d5H hm hb
  have hnext : 2 * s * (b + 1) = 2 * s * b + 2 * s := by rw [Nat.mul_add, Nat.mul_one]
  unfold L4
  dsimp only
  rw [if_pos (by omega), b7 (by omega) (by omega), show ((2 * m - b : Nat) : Int) - 1 = ((2 * m - 1 - b : Nat) : Int) by omega]
  refine (c75 hm hs hs128 hb hm128 ha res _).trans ?_
  rw [hnext]
  simp (disch := omega) only [b7]
  rw [show 2 * m - 1 - b = 2 * m - (b + 1) by omega, show ((2 * s * b : Nat) : Int) + 2 * (s : Int) = ((2 * s * b + 2 * s : Nat) : Int) by omega]
 ·intro kn
  unfold L4
  dsimp only
  rw [if_neg (by omega), hall, c62, show 2 * m - m = m by omega]
  rfl
theorem c2S : ∀ x r, a4s x = some r → ∃ N, a4x N x = some r := by
 refine c8 (ks := a32) (rs := a33) fun x hw _ => ⟨0, ?_⟩
 obtain ⟨(a : Int), u⟩ := x
 have ha : -2147483648 ≤ a ∧ a ≤ 2147483647 := u2.1 hw.1
 unfold a4x
 dsimp only
 rw [b3A ha (by omega)]
 rfl
theorem d1d {a : Int} (h : -2147483648 ≤ a) (h' : a ≤ 2147483647) : a4s (a, ()) = some (a * 8347681 % 8380417) :=
 c7 (ks := a32) (rs := a33) (x := (a, ())) ⟨u2.2 ⟨h, h'⟩, trivial⟩ trivial
theorem a66 : ∀ x r, E0 x = some r → ∃ N, E3 N x = some r := by
 refine c8 (ks := m6) (rs := m7) fun x hw _ => ⟨257, ?_⟩
 obtain ⟨(a : List Int), u, u'⟩ := x
 have ha : a2c 256 a := Y3.1 hw.1
 have hl := ha.1
 unfold E3
 refine (K3 (s := fun i => (a, (i : Int), part (fun i => a.getD i 0 * 8347681 % 8380417) i a, List.replicate 256 0, ())) (y := (x7 fun i => a.getD i 0 * 8347681 % 8380417, List.replicate 256 0, ())) 256 ?_ ?_ 257 (by omega)).trans ?_
 ·intro i hi kn
  have h0 := a9Q ha i
  unfold u6
  simp (disch := omega) only [if_pos, b7, Int.toNat_natCast, d1d, Option.bind_some]
  rw [F6 (by omega) rfl, Int.natCast_add]
  rfl
 ·intro kn
  unfold u6
  simp (disch := omega) only [if_neg]
  rw [N9 hl]
  rfl
 ·rfl
theorem c2l : ∀ i, i < 8 → 2 ^ i * (128 / 2 ^ i) = 128 ∧ 0 < 2 ^ i ∧ 2 ^ i ≤ 128 ∧ 0 < 128 / 2 ^ i ∧ 128 / 2 ^ i ≤ 128 ∧ 2 * (128 / 2 ^ i) = 256 / 2 ^ i ∧ 128 / 2 ^ i = 256 / 2 ^ (i + 1) ∧ 2 * 2 ^ i = 2 ^ (i + 1) := by decide
theorem c51 : ∀ x r, a8b x = some r → ∃ N, a8v N x = some r := by
 refine c8 (ks := O3) (rs := a6I) fun x hw _ => ⟨300, ?_⟩
 obtain ⟨(a : List Int), u⟩ := x
 have ha := c1s.1 hw
 unfold a8v
 dsimp only
 rw [b8O ha, c3E]
 simp only [Option.bind_some]
 generalize List.replicate 256 (0 : Int) = Z
 refine (K3 (F := V4 300) (s := fun i => (((256 / 2 ^ i : Nat) : Int), ((2 ^ i : Nat) : Int), b2o a i, Z, (List.range 256).map R9, ())) (y := (b2o a 8, Z, ())) 8 ?_ ?_ 300 (by omega)).trans ?_
 ·intro i hi kn
  obtain ⟨f1, f2, f3, f4, f5, f6, f7, f8⟩ := c2l i hi
  unfold V4
  dsimp only
  rw [if_pos (show ((2 ^ i : Nat) : Int) ≤ 128 from Int.ofNat_le.2 f3), ← f6]
  refine (c76 f1 f2 f3 f4 f5 (b87 a i) _ _).trans ?_
  simp (disch := omega) only [b7]
  rw [f7, show ((2 ^ i : Nat) : Int) * 2 = ((2 ^ (i + 1) : Nat) : Int) by omega]
  rfl
 ·intro kn
  unfold V4
  dsimp only
  rw [if_neg (by decide)]
 have hr := (b87 a 8).i32
 have h : E0 (b2o a 8, (), ()) = some (c3Y a) := c7 (ks := m6) (rs := m7) (x := (b2o a 8, (), ())) ⟨Y3.2 hr, trivial, trivial⟩ trivial
 dsimp only
 rw [h]
 rfl
theorem d26 {a : List Int} (h : a2c 256 a) : a8b (a, ()) = some (c3Y a) := c7 (ks := O3) (rs := a6I) (x := (a, ())) (c1s.2 h) trivial
theorem c1b : ∀ x r, a05 x = some r → ∃ N, a3v N x = some r := by
 refine c8 (ks := Q0) (rs := Q1) fun x hw _ => ⟨300, ?_⟩
 obtain ⟨(a : List Int), (b : List Int), u⟩ := x
 obtain ⟨ha, hb⟩ := c84.1 hw
 unfold a3v
 generalize List.replicate 256 (0 : Int) = Z
 refine (K3 (F := J0 300) (s := fun i => ((i : Int), part (fun j => a.getD j 0 * b.getD j 0 % 8380417) i a, b, Z, ())) (y := (b3Q a b, Z, ())) 256 ?_ ?_ 300 (by omega)).trans ?_
 ·intro i hi kn
  have h1 := a9Q ha i
  have h2 := a9Q hb i
  have hp : (part (fun j => a.getD j 0 * b.getD j 0 % 8380417) i a).getD i 0 = a.getD i 0 := b46 (Nat.le_refl i)
  unfold J0
  dsimp only
  rw [if_pos (by omega), if_pos (by omega), if_pos (by omega), Int.toNat_natCast, if_pos hi, if_pos (by omega), if_pos (by omega), if_pos hi, hp, b3A h1 h2]
  simp only [Option.bind_some]
  rw [if_pos (by omega), if_pos (by omega), if_pos hi, F6 (h := fun j => a.getD j 0 * b.getD j 0 % 8380417) (i := i) (a := a) (z := a.getD i 0 * b.getD i 0 % 8380417) (by rw [ha.1]; exact hi) rfl, b7 (by omega) (by omega), Int.natCast_add]
  rfl
 ·intro kn
  unfold J0
  dsimp only
  rw [if_neg (by omega), N9 ha.1]
  rfl
 ·rfl
theorem c3x {a b : List Int} (h : a2c 256 a) (h' : a2c 256 b) : a05 (a, b, ()) = some (b3Q a b) := c7 (ks := Q0) (rs := Q1) (x := (a, b, ())) (c84.2 ⟨h, h'⟩) trivial
theorem d4z {a b : List Int} (h : a2c 256 a) (h' : a2c 256 b) : a8c (a, b, ()) = some (c3Z a b) := c7 (ks := a1b) (rs := a1c) (x := (a, b, ())) (c84.2 ⟨h, h'⟩) trivial
end Go.Ax.TryP
