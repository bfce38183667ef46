/- A part of the proof: DeS, DeP, DeQ, DeQ2, DeQ3. -/
import Derived.Test.YtlgnkjimalifhaaDsaB
set_option linter.unusedVariables false
namespace Go.Ax.TryP
open Go.Proofs
def c2d (s : List Int) (t : Nat) : Int := shk s (3 * t) + 256 * shk s (3 * t + 1) + 65536 * (shk s (3 * t + 2) % 128)
def b7F (s : List Int) (t : Nat) : List Int := if c2d s t < 8380417 then [c2d s t] else []
def b3x (f : Nat → List Int) : Nat → List Int
 | 0 => []
 | t + 1 => b3x f t ++ f t
@[irreducible] def d13 (s : List Int) : List Int × Int := if s.length ≠ 34 then (z256, 1) else if (b3x (b7F s) 1024).length < 256 then (z256, 130) else ((b3x (b7F s) 1024).take 256, 0)
def d5Z (s : List Int) (t : Nat) : Int := if t % 2 = 0 then shb s (t / 2) % 16 else shb s (t / 2) / 16
def d6x (eta h : Int) : List Int := if eta = 2 then (if h < 15 then [(2 - h % 5) % 8380417] else []) else (if h < 9 then [(4 - h) % 8380417] else [])
def d6d (eta : Int) (s : List Int) (t : Nat) : List Int := d6x eta (d5Z s t)
@[irreducible] def d6q (eta : Int) (s : List Int) : List Int × Int := if (eta ≠ 2 ∧ eta ≠ 4) ∨ s.length ≠ 66 then (z256, 1) else if (b3x (d6d eta s) 2048).length < 256 then (z256, 130) else ((b3x (d6d eta s) 2048).take 256, 0)
def c7J (w : Nat) (b : List Int) : List Int := x7 fun i => c1r w fun k => b8S b (i * w + k)
def a8R (top : Int) (w : Nat) (b : List Int) : List Int := x7 fun i => top - c1r w fun k => b8S b (i * w + k)
noncomputable def X9 : List Int × Unit → Option (List Int × Int) := P0 (ks := [.sl (.int .u8)]) (rs := [.xs (.int .i32) 256, .int .i64]) (fun _ => True) fun x => d13 x.1
def wOk (w : Int) (b : List Int) : Prop := 1 ≤ w ∧ w ≤ 23 ∧ (b.length : Int) = 32 * w
noncomputable def Y0 : Int × List Int × Unit → Option (List Int × Int) := P0 (ks := [.int .i64, .sl (.int .u8)]) (rs := [.xs (.int .i32) 256, .int .i64]) (fun x => wOk x.1 x.2.1) fun x => (c7J x.1.toNat x.2.1, 0)
noncomputable def O7 : Int × Int × Unit → Option Int := P0 (ks := [.int .i32, .rp (.int .i32)]) (rs := [.int .i32]) (fun x => 0 ≤ x.1 ∧ 0 ≤ x.2.1) fun x => x.2.1 - x.1
noncomputable def n8 : List Int × Int × Unit → Option (List Int) := P0 (ks := [.xs (.int .i32) 256, .fcl 47 .i32]) (rs := [.xs (.int .i32) 256]) (fun x => (∀ z ∈ x.1, 0 ≤ z) ∧ 0 ≤ x.2.1) fun x => x7 fun i => x.2.1 - x.1.getD i 0
noncomputable def L8 : Int × Int × List Int × Unit → Option (List Int × Int) := P0 (ks := [.int .i32, .int .i64, .sl (.int .u8)]) (rs := [.xs (.int .i32) 256, .int .i64]) (fun x => (0 ≤ x.1 ∧ x.1 < 8380417) ∧ wOk x.2.1 x.2.2.1) fun x => (a8R x.1 x.2.1.toNat x.2.2.1, 0)
def a4M (s : List Int) (i : Nat) : Nat → Nat → Nat
 | 0, at' => at'
 | n + 1, at' => if at' < 1032 ∧ (i : Int) < shb s at' then a4M s i n (at' + 1) else at'
def c3J (s : List Int) (n i at' : Nat) (c : List Int) : List Int := (c.set i (c.getD (shb s at').toNat 0)).set (shb s at').toNat (if c7W (shb s (n / 8)) (n % 8) = 1 then 8380416 else 1)
def b5B (tau : Nat) (s : List Int) : Nat → Option (List Int × Nat)
 | 0 => some (z256, 8)
 | k + 1 => match b5B tau s k with
  | none => none
  | some (c, at') => if a4M s (256 - tau + k) 1032 at' = 1032 then none else some (c3J s k (256 - tau + k) (a4M s (256 - tau + k) 1032 at') c, a4M s (256 - tau + k) 1032 at' + 1)
@[irreducible] def b8R (tau : Int) (s : List Int) : List Int × Int := if tau < 1 ∨ 64 < tau then (z256, 1) else match b5B tau.toNat s tau.toNat with
 | none => (z256, 130)
 | some (c, _) => (c, 0)
noncomputable def a51 : Int × List Int × Unit → Option (List Int × Int) := P0 (ks := [.int .i64, .sl (.int .u8)]) (rs := [.xs (.int .i32) 256, .int .i64]) (fun x => x.2.1.length ≤ 1000) fun x => b8R x.1 x.2.1
def b2m (b : List Int) (m : Nat) : Nat → Nat
 | 0 => 0
 | k + 1 => (b.getD (m + k) 0).toNat
def b3V (b : List Int) (k a : Nat) (h : List Int) : Nat → List Int
 | 0 => h
 | j + 1 => (b3V b k a h j).set (k * 256 + (b.getD (a + j) 0).toNat) 1
def b2x (b : List Int) (m : Nat) (h : List Int) : Nat → List Int
 | 0 => h
 | k + 1 => b3V b k (b2m b m k) (b2x b m h k) (b2m b m (k + 1) - b2m b m k)
def okR (b : List Int) (m n : Nat) : Prop := ∀ k, k < n → b2m b m k ≤ b2m b m (k + 1) ∧ b2m b m (k + 1) ≤ m
def d1D (b : List Int) (a e : Nat) : Prop := ∀ i, a < i → i < e → b.getD (i - 1) 0 < b.getD i 0
def okG (b : List Int) (m n : Nat) : Prop := ∀ k, k < n → d1D b (b2m b m k) (b2m b m (k + 1))
def okZ (b : List Int) (m n : Nat) : Prop := ∀ j, b2m b m n ≤ j → j < m → b.getD j 0 = 0
open Classical in
noncomputable def b0J (n most : Int) (b : List Int) : List Int × Int := if (n < 0 ∨ 16 < n) ∨ (most < 0 ∨ 255 < most) ∨ (b.length : Int) ≠ most + n then ([], 1) else
 if okR b most.toNat n.toNat ∧ okG b most.toNat n.toNat ∧ okZ b most.toNat n.toNat then (b2x b most.toNat (List.replicate (n.toNat * 256) 0) n.toNat, 0) else ([], 150)
noncomputable def I4 : Int × Int × List Int × Unit → Option (List Int × Int) := P0 (ks := [.int .i64, .int .i64, .sl (.int .u8)]) (rs := [.sla .bool 256, .int .i64]) (fun _ => True) fun x => b0J x.1 x.2.1 x.2.2.1
noncomputable def a2l : List Int × List Int × Unit → Option Bool := P0 (ks := [.sl (.int .u8), .sl (.int .u8)]) (rs := [.bool]) (fun _ => True) fun x => decide (x.1 = x.2.1)
end Go.Ax.TryP
set_option linter.unusedVariables false
namespace Go.Ax.TryP
open Go.Proofs
noncomputable def p_dring_RejNtt_E : AE := AE.of [(5, ty5), (21, ty21), (26, ty26), (38, ty38), (53, ty53)] [(65, P1), (66, P2)]
noncomputable def a84 : Hints := [(7, [2, 4, 5, 6, 17, 999999]), (2000000, [2]), (2000001, [2, 4, 5, 6, 17]), (3000000, [2, 3])]
noncomputable def a35 : Code := (Try.f53).body.getD .skip
noncomputable def b2P : Shape := mkS { tmps := V :: V :: .sc (.ptr 0 0 false) :: V :: .sc (.ptr 1 0 false) :: .sc (.ptr 2 0 false) :: .sc (.int .i64) :: pv 10 (.sc (.int .i64) :: pv 37 []), mem := [.live [.xs b32 (some 256)] (.own), .live [.xs b32 (some 256)] (.own), .live [.one (.bool), .xs (.int .u64) (some 25), .one (.int .i64), .one (.int .i64), .one (.int .i64)] (.own)] } [.int, .int, .xs, .xs, .bool, .xs, .int, .int, .int]
abbrev W17 : Type := Int × Int × List Int × List Int × Bool × List Int × Int × Int × Int × Unit
abbrev W18 : Type := (List Int × Unit) ⊕ (Int × List Int × Unit)
noncomputable def x5 (N : Nat) (β : Type) (x : W17) (kn : W17 → Option β) (ke : W18 → Option β) : Option β :=
 if (x.2.1 < (1024:Int)) then
  (l9 ((x.2.2.2.2.1, x.2.2.2.2.2.1, x.2.2.2.2.2.2.1, x.2.2.2.2.2.2.2.1, x.2.2.2.2.2.2.2.2.1, ()), (3:Int), ())).bind fun r2 => (
  if (r2.2.1 ≠ (0:Int)) then
   ke (.inl (x.2.2.1, ()))
  else
   if 0 ≤ (0:Int) then (
   if (0:Int) < (((List.length r2.1) : Nat) : Int) then (
   if 0 < (List.length r2.1) then (
   if 0 ≤ (1:Int) then (
   if (1:Int) < (((List.length r2.1) : Nat) : Int) then (
   if 1 < (List.length r2.1) then (
   if 0 ≤ (2:Int) then (
   if (2:Int) < (((List.length r2.1) : Nat) : Int) then (
   if 2 < (List.length r2.1) then (
   if ((ior IntKind.i32 (ior IntKind.i32 (IntKind.i32.wrap (List.getD r2.1 0 0)) (b1X IntKind.i32 (IntKind.i32.wrap (List.getD r2.1 1 0)) (8:Int))) (b1X IntKind.i32 (IntKind.i32.wrap (b9j IntKind.u8 (List.getD r2.1 2 0) (127:Int))) (16:Int))) ≥ (8380417:Int)) then
    kn (x.1, (IntKind.i64.wrap (x.2.1 + (1:Int))), x.2.2.1, x.2.2.2.1, (decide (r2.2.2.1 = true)), r2.2.2.2.1, r2.2.2.2.2.1, r2.2.2.2.2.2.1, r2.2.2.2.2.2.2.1, ())
   else
    if 0 ≤ x.1 then (
    if x.1 < 256 then (
    if (x.1.toNat) < 256 then (
    if ((IntKind.i64.wrap (x.1 + (1:Int))) = (256:Int)) then
     ke (.inr ((0:Int), (List.set x.2.2.2.1 (x.1.toNat) (ior IntKind.i32 (ior IntKind.i32 (IntKind.i32.wrap (List.getD r2.1 0 0)) (b1X IntKind.i32 (IntKind.i32.wrap (List.getD r2.1 1 0)) (8:Int))) (b1X IntKind.i32 (IntKind.i32.wrap (b9j IntKind.u8 (List.getD r2.1 2 0) (127:Int))) (16:Int)))), ()))
    else
     kn ((IntKind.i64.wrap (x.1 + (1:Int))), (IntKind.i64.wrap (x.2.1 + (1:Int))), x.2.2.1, (List.set x.2.2.2.1 (x.1.toNat) (ior IntKind.i32 (ior IntKind.i32 (IntKind.i32.wrap (List.getD r2.1 0 0)) (b1X IntKind.i32 (IntKind.i32.wrap (List.getD r2.1 1 0)) (8:Int))) (b1X IntKind.i32 (IntKind.i32.wrap (b9j IntKind.u8 (List.getD r2.1 2 0) (127:Int))) (16:Int)))), (decide (r2.2.2.1 = true)), r2.2.2.2.1, r2.2.2.2.2.1, r2.2.2.2.2.2.1, r2.2.2.2.2.2.2.1, ())) else none) else none) else none) else none) else none) else none) else none) else none) else none) else none) else none) else none)
 else
  ke (.inl (x.2.2.1, ()))
noncomputable def b1l : Go' W18 := fun y K => match y with
 | .inl y => K (.exit 0) (fSt { tmps := V :: V :: .sc (.ptr 0 0 false) :: pv 52 [], mem := [.live [.xs b32 (some 256)] (.own)] } [.xs] y)
 | .inr y => K .ret (fSt { tmps := V :: V :: .sc (.ptr 0 0 false) :: .sc (.int .i64) :: pv 51 [], mem := [.live [.xs b32 (some 256)] (.own)] } [.int, .xs] y)
noncomputable def a5i (N : Nat) : LT := upd (LT.nil) 7 (C6 b2P N (x5 N) b1l)
theorem b1m (N : Nat) : OkAll p_dring_RejNtt_E a84 N (a5i N) (E4 a35) :=
 d8 (c := d9 7 a35) (OkAll.nil) (by kernel_rfl) (fun x => by kernel_rfl) (fun β x kn ke => by kernel_rfl)
abbrev Q3 : List Kd := [.sl b8]
abbrev Q4 : List Kd := [.xs b32 256, .int .i64]
noncomputable def a3x (N : Nat) (x : List Int × Unit) : Option (List Int × Int) :=
 if ((((List.length x.1) : Nat) : Int) ≠ (34:Int)) then
  some ((List.replicate 256 0), (1:Int))
 else
  (D4 ([x.1], ())).bind fun r1 => (
  E1 (x5 N) N ((0:Int), (0:Int), (List.replicate 256 0), (List.replicate 256 0), (decide (r1.1 = true)), r1.2.1, r1.2.2.1, r1.2.2.2.1, r1.2.2.2.2.1, ()) fun y => (match y with
  | .inl y3 => (
   some ((List.replicate 256 0), (130:Int)))
  | .inr y4 => (
   some (y4.2.1, y4.1))))
theorem b4A (e0 : b6 Try.prog 65 P1) (e1 : b6 Try.prog 66 P2) : p_dring_RejNtt_E.Ok Try.prog := AE.of_ok (all_cons S6 (all_cons G6 (all_cons w7 (all_cons a1Z (all_cons G7 b5))))) (all_cons ⟨e0, a2V⟩ (all_cons ⟨e1, a2W⟩ b5))
theorem b6r (hE : p_dring_RejNtt_E.Ok Try.prog) {g : Ds Q3 → Option (Rs Q4)} (hg : ∀ x r, g x = some r → ∃ N, a3x N x = some r) : b6 Try.prog 53 ⟨Q3, Q4, g⟩ :=
 d6 (E := p_dring_RejNtt_E) (H := a84) (L := fun N => a5i N) (c := a35) (ks := Q3) (rs := Q4) (F := a3x) hE mix Try.func53 (by kernel_rfl) (fun N => b1m N) (fun _ _ => by kernel_rfl) hg
noncomputable def p_dring_Unpack_E : AE := AE.of [(5, ty5), (21, ty21), (26, ty26), (53, ty53)] []
noncomputable def a36 : Hints := [(5, [0, 1, 4, 6, 24]), (8, [0, 1, 4, 6, 7, 24, 27, 28]), (2000000, [4, 6]), (2000001, [0, 1, 4, 6, 24]), (2000002, [0, 1, 4, 6, 24]), (2000003, [0, 1, 4, 6, 7, 24, 27, 28]), (3000000, [4, 5])]
noncomputable def V6 : Code := (Try.f29).body.getD .skip
noncomputable def b2R : Shape := mkS { tmps := .sc (.int .i64) :: .sc (.vec 0 none 1) :: V :: V :: .sc (.ptr 1 0 false) :: V :: .sc (.ptr 2 0 false) :: .sc (.int .i64) :: pv 16 (.sc (.int .i64) :: V :: V :: .sc (.int .i64) :: .sc (.int .i64) :: pv 27 []), mem := [.live [.xs b8 none] (.ro), .live [.xs b32 (some 256)] (.own), .live [.xs b32 (some 256)] (.own)] } [.int, .nat, .int, .int, .int, .int, .nat, .xs, .xs, .xs]
abbrev W19 : Type := Int × Nat × Int × Int × Int × Int × Nat × List Int × List Int × List Int × Unit
abbrev W20 : Type := Int × Nat × Int × Nat × List Int × List Int × List Int × Unit
noncomputable def J1 (N : Nat) (β : Type) (x : W19) (kn : W19 → Option β) (ke : W20 → Option β) : Option β :=
 if (x.2.2.2.2.2.1 < x.2.2.2.2.1) then
  if 0 ≤ x.2.2.1 then (
  if x.2.2.1 < 256 then (
  if (x.2.2.1.toNat) < 256 then (
  if 0 ≤ (IntKind.i64.wrap (Int.tdiv (IntKind.i64.wrap ((IntKind.i64.wrap (x.2.2.1 * x.1)) + x.2.2.2.2.2.1)) (8:Int))) then (
  if (IntKind.i64.wrap (Int.tdiv (IntKind.i64.wrap ((IntKind.i64.wrap (x.2.2.1 * x.1)) + x.2.2.2.2.2.1)) (8:Int))) < ((x.2.1 : Nat) : Int) then (
  if ((IntKind.i64.wrap (Int.tdiv (IntKind.i64.wrap ((IntKind.i64.wrap (x.2.2.1 * x.1)) + x.2.2.2.2.2.1)) (8:Int))).toNat) < x.2.2.2.2.2.2.1 then (
  if (Int.tmod (IntKind.i64.wrap ((IntKind.i64.wrap (x.2.2.1 * x.1)) + x.2.2.2.2.2.1)) (8:Int)) < 0 then none else (
  if x.2.2.2.2.2.1 < 0 then none else (
  if 0 ≤ x.2.2.1 then (
  if x.2.2.1 < 256 then (
  if (x.2.2.1.toNat) < 256 then (
  kn (x.1, x.2.1, x.2.2.1, x.2.2.2.1, x.2.2.2.2.1, (IntKind.i64.wrap (x.2.2.2.2.2.1 + (1:Int))), x.2.2.2.2.2.2.1, x.2.2.2.2.2.2.2.1, x.2.2.2.2.2.2.2.2.1, (List.set x.2.2.2.2.2.2.2.2.2.1 (x.2.2.1.toNat) (ior IntKind.i32 (List.getD x.2.2.2.2.2.2.2.2.2.1 (x.2.2.1.toNat) 0) (b1X IntKind.i32 (IntKind.i32.wrap (b9j IntKind.u8 (c2w IntKind.u8 (List.getD x.2.2.2.2.2.2.2.1 ((IntKind.i64.wrap (Int.tdiv (IntKind.i64.wrap ((IntKind.i64.wrap (x.2.2.1 * x.1)) + x.2.2.2.2.2.1)) (8:Int))).toNat) 0) (Int.tmod (IntKind.i64.wrap ((IntKind.i64.wrap (x.2.2.1 * x.1)) + x.2.2.2.2.2.1)) (8:Int))) (1:Int))) x.2.2.2.2.2.1))), ())) else none) else none) else none))) else none) else none) else none) else none) else none) else none
 else
  ke (x.1, x.2.1, x.2.2.2.1, x.2.2.2.2.2.2.1, x.2.2.2.2.2.2.2.1, x.2.2.2.2.2.2.2.2.1, x.2.2.2.2.2.2.2.2.2.1, ())
noncomputable def b1r : Go' W20 := fun y K => K (.exit 2) (fSt { tmps := .sc (.int .i64) :: .sc (.vec 0 none 1) :: V :: V :: .sc (.ptr 1 0 false) :: V :: .sc (.ptr 2 0 false) :: pv 17 (.sc (.int .i64) :: pv 31 []), mem := [.live [.xs b8 none] (.ro), .live [.xs b32 (some 256)] (.own), .live [.xs b32 (some 256)] (.own)] } [.int, .nat, .int, .nat, .xs, .xs, .xs] y)
noncomputable def a5k (N : Nat) : LT := upd (LT.nil) 8 (C6 b2R N (J1 N) b1r)
theorem b1s (N : Nat) : OkAll p_dring_Unpack_E a36 N (a5k N) (E4 V6) :=
 d8 (c := d9 8 V6) (OkAll.nil) (by kernel_rfl) (fun x => by kernel_rfl) (fun β x kn ke => by kernel_rfl)
noncomputable def b2Q : Shape := mkS { tmps := .sc (.int .i64) :: .sc (.vec 0 none 1) :: V :: V :: .sc (.ptr 1 0 false) :: V :: .sc (.ptr 2 0 false) :: pv 17 (.sc (.int .i64) :: pv 31 []), mem := [.live [.xs b8 none] (.ro), .live [.xs b32 (some 256)] (.own), .live [.xs b32 (some 256)] (.own)] } [.int, .nat, .int, .nat, .xs, .xs, .xs]
noncomputable def D8 (N : Nat) (β : Type) (x : W20) (kn : W20 → Option β) (ke : W5 → Option β) : Option β :=
 if (x.2.2.1 < (256:Int)) then
  E1 (J1 N) N (x.1, x.2.1, x.2.2.1, x.2.2.1, x.1, (0:Int), x.2.2.2.1, x.2.2.2.2.1, x.2.2.2.2.2.1, x.2.2.2.2.2.2.1, ()) fun y1 => (
  kn (y1.1, y1.2.1, (IntKind.i64.wrap (y1.2.2.1 + (1:Int))), y1.2.2.2.1, y1.2.2.2.2.1, y1.2.2.2.2.2.1, y1.2.2.2.2.2.2.1, ()))
 else
  ke (x.2.2.2.2.2.1, x.2.2.2.2.2.2.1, ())
noncomputable def b1p : Go' W5 := fun y K => K (.exit 0) (fSt { tmps := pv 4 (.sc (.ptr 0 0 false) :: V :: .sc (.ptr 1 0 false) :: pv 49 []), mem := [.live [.xs b32 (some 256)] (.own), .live [.xs b32 (some 256)] (.own)] } [.xs, .xs] y)
noncomputable def a5j (N : Nat) : LT := upd (a5k N) 5 (C6 b2Q N (D8 N) b1p)
theorem b1q (N : Nat) : OkAll p_dring_Unpack_E a36 N (a5j N) (E4 V6) :=
 d8 (c := d9 5 V6) (b1s N) (by kernel_rfl) (fun x => by kernel_rfl) (fun β x kn ke => by kernel_rfl)
abbrev Q5 : List Kd := [.int .i64, .sl b8]
abbrev Q6 : List Kd := [.xs b32 256, .int .i64]
noncomputable def a3y (N : Nat) (x : Int × List Int × Unit) : Option (List Int × Int) :=
 if (x.1 < (1:Int)) then
  some ((List.replicate 256 0), (1:Int))
 else
  if (x.1 > (23:Int)) then
   some ((List.replicate 256 0), (1:Int))
  else
   if ((((List.length x.2.1) : Nat) : Int) ≠ (IntKind.i64.wrap ((32:Int) * x.1))) then
    some ((List.replicate 256 0), (1:Int))
   else
    E1 (D8 N) N (x.1, (List.length x.2.1), (0:Int), (List.length x.2.1), x.2.1, (List.replicate 256 0), (List.replicate 256 0), ()) fun y2 => (
    some (y2.2.1, (0:Int)))
theorem b4C : p_dring_Unpack_E.Ok Try.prog := AE.of_ok (all_cons S6 (all_cons G6 (all_cons w7 (all_cons G7 b5)))) b5
theorem b6u (hE : p_dring_Unpack_E.Ok Try.prog) {g : Ds Q5 → Option (Rs Q6)} (hg : ∀ x r, g x = some r → ∃ N, a3y N x = some r) : b6 Try.prog 29 ⟨Q5, Q6, g⟩ :=
 d6 (E := p_dring_Unpack_E) (H := a36) (L := fun N => a5j N) (c := V6) (ks := Q5) (rs := Q6) (F := a3y) hE mix Try.func29 (by kernel_rfl) (fun N => b1q N) (fun _ _ => by kernel_rfl) hg
noncomputable def p_dring_UnpackFrom_1_E : AE := AE.of [(21, ty21)] []
noncomputable def a9l : Hints := [(3000000, [3])]
noncomputable def a9m : Code := (Try.f47).body.getD .skip
abbrev B5 : List Kd := [.int .i32, .rp (.int .i32)]
abbrev T1 : List Kd := [.int .i32]
noncomputable def O8 (N : Nat) (x : Int × Int × Unit) : Option (Int) :=
 some (IntKind.i32.wrap ((List.getD [x.2.1] 0 0) - x.1))
theorem a7y : p_dring_UnpackFrom_1_E.Ok Try.prog := AE.of_ok (all_cons G6 b5) b5
theorem a8z (hE : p_dring_UnpackFrom_1_E.Ok Try.prog) {g : Ds B5 → Option (Rs [.int .i32])} (hg : ∀ x r, g x = some r → ∃ N, O8 N x = some r) : b6 Try.prog 47 ⟨B5, [.int .i32], g⟩ :=
 d6 (E := p_dring_UnpackFrom_1_E) (H := a9l) (L := fun N => LT.nil) (c := a9m) (ks := B5) (rs := T1) (F := O8) hE mix Try.func47 (by kernel_rfl) (fun N => OkAll.nil) (fun _ _ => by kernel_rfl) hg
noncomputable abbrev a0U : Sig := ⟨[.int .i32, .rp (.int .i32)], [.int .i32], O7⟩
noncomputable def p_dring_each__dring_UnpackFrom_1_E : AE := AE.of [(21, ty21), (53, ty53)] [(47, a0U)]
noncomputable def K5 : Hints := [(2, [1, 2, 4, 7, 8]), (2000000, [2, 4]), (2000001, [1, 2, 4, 7, 8]), (3000000, [4])]
noncomputable def A9 : Code := (Try.f46).body.getD .skip
noncomputable def a0W : Shape := mkS { tmps := V :: .sc (.clo 47 0 0) :: .sc (.ptr 1 0 false) :: V :: .sc (.ptr 2 0 false) :: V :: V :: .agg [.xs b32 (some 256)] :: .sc (.int .i64) :: pv 10 [], mem := [.live [.xs b32 (some 1)] (.ro), .live [.xs b32 (some 256)] (.own), .live [.xs b32 (some 256)] (.own)] } [.xs, .int, .xs, .xs, .xs]
noncomputable def i3 (N : Nat) (β : Type) (x : W6) (kn : W6 → Option β) (ke : W5 → Option β) : Option β :=
 if (x.2.1 < (256:Int)) then
  if 0 ≤ x.2.1 then (
  if x.2.1 < 256 then (
  if (x.2.1.toNat) < 256 then (
  (O7 ((List.getD x.1 (x.2.1.toNat) 0), (List.getD x.2.2.1 0 0), ())).bind fun r1 => (
  if 0 ≤ x.2.1 then (
  if x.2.1 < 256 then (
  if (x.2.1.toNat) < 256 then (
  kn (x.1, (IntKind.i64.wrap (x.2.1 + (1:Int))), x.2.2.1, (List.set x.2.2.2.1 (x.2.1.toNat) r1), x.2.2.2.2.1, ())) else none) else none) else none)) else none) else none) else none
 else
  ke (x.2.2.2.1, x.2.2.2.2.1, ())
noncomputable def a0I : Go' W5 := fun y K => K (.exit 0) (fSt { tmps := V :: V :: .sc (.ptr 0 0 false) :: V :: .sc (.ptr 1 0 false) :: pv 14 [], mem := [.live [.xs b32 (some 256)] (.own), .live [.xs b32 (some 256)] (.own)] } [.xs, .xs] y)
noncomputable def H0 (N : Nat) : LT := upd (LT.nil) 2 (C6 a0W N (i3 N) a0I)
theorem a0J (N : Nat) : OkAll p_dring_each__dring_UnpackFrom_1_E K5 N (H0 N) (E4 A9) :=
 d8 (c := d9 2 A9) (OkAll.nil) (by kernel_rfl) (fun x => by kernel_rfl) (fun β x kn ke => by kernel_rfl)
abbrev i4 : List Kd := [.xs b32 256, .fcl 47 .i32]
abbrev i5 : List Kd := [.xs b32 256]
noncomputable def n9 (N : Nat) (x : List Int × Int × Unit) : Option (List Int) :=
 E1 (i3 N) N (x.1, (0:Int), [x.2.1], x.1, (List.replicate 256 0), ()) fun y2 => (
 some y2.1)
theorem a1f (e0 : b6 Try.prog 47 a0U) : p_dring_each__dring_UnpackFrom_1_E.Ok Try.prog := AE.of_ok (all_cons G6 (all_cons G7 b5)) (all_cons ⟨e0, a6B⟩ b5)
theorem a1V (hE : p_dring_each__dring_UnpackFrom_1_E.Ok Try.prog) {g : Ds i4 → Option (Rs i5)} (hg : ∀ x r, g x = some r → ∃ N, n9 N x = some r) : b6 Try.prog 46 ⟨i4, i5, g⟩ :=
 d6 (E := p_dring_each__dring_UnpackFrom_1_E) (H := K5) (L := fun N => H0 N) (c := A9) (ks := i4) (rs := i5) (F := n9) hE mix Try.func46 (by kernel_rfl) (fun N => a0J N) (fun _ _ => by kernel_rfl) hg
noncomputable abbrev a00 : Sig := ⟨[.int .i64, .sl b8], [.xs b32 256, .int .i64], Y0⟩
noncomputable abbrev C3 : Sig := ⟨[.xs b32 256, .fcl 47 .i32], [.xs b32 256], n8⟩
noncomputable def p_dring_UnpackFrom_E : AE := AE.of [(21, ty21), (53, ty53)] [(29, a00), (46, C3)]
noncomputable def b1n : Hints := [(3000000, [6, 7])]
noncomputable def b1o : Code := (Try.f22).body.getD .skip
abbrev F0 : List Kd := [.int .i32, .int .i64, .sl b8]
abbrev F1 : List Kd := [.xs b32 256, .int .i64]
noncomputable def Y7 (N : Nat) (x : Int × Int × List Int × Unit) : Option (List Int × Int) :=
 (Y0 (x.2.1, x.2.2.1, ())).bind fun r1 => (
 if (r1.2 ≠ (0:Int)) then
  some ((List.replicate 256 0), (1:Int))
 else
  if (x.1 < (0:Int)) then
   some ((List.replicate 256 0), (1:Int))
  else
   if (x.1 ≥ (8380417:Int)) then
    some ((List.replicate 256 0), (1:Int))
   else
    (n8 (r1.1, (List.getD (x.1 :: []) 0 0), ())).bind fun r2 => (
    some (r2, (0:Int))))
theorem a9n (e0 : b6 Try.prog 29 a00) (e1 : b6 Try.prog 46 C3) : p_dring_UnpackFrom_E.Ok Try.prog := AE.of_ok (all_cons G6 (all_cons G7 b5)) (all_cons ⟨e0, a43⟩ (all_cons ⟨e1, a0C⟩ b5))
theorem a94 (hE : p_dring_UnpackFrom_E.Ok Try.prog) {g : Ds F0 → Option (Rs F1)} (hg : ∀ x r, g x = some r → ∃ N, Y7 N x = some r) : b6 Try.prog 22 ⟨F0, F1, g⟩ :=
 d6 (E := p_dring_UnpackFrom_E) (H := b1n) (L := fun N => LT.nil) (c := b1o) (ks := F0) (rs := F1) (F := Y7) hE mix Try.func22 (by kernel_rfl) (fun N => OkAll.nil) (fun _ _ => by kernel_rfl) hg
noncomputable abbrev a02 : Sig := ⟨[.int .i64, .int .i64, .sls b8], [.sl b8, .int .i64], Y1⟩
noncomputable def p_dring_Ball_E : AE := AE.of [(3, ty3), (5, ty5), (21, ty21), (26, ty26), (38, ty38), (53, ty53)] [(44, a02)]
noncomputable def a6H : Hints := [(10, [0, 4, 6, 7, 9, 10, 11]), (12, [0, 4, 6, 7, 9, 10, 11]), (2000000, [4]), (2000001, [0, 4, 6, 7, 9, 10, 11]), (2000002, [0, 4, 6, 7, 9, 10, 11]), (2000003, [0, 4, 6, 7, 9, 10, 11]), (3000000, [4, 5])]
noncomputable def a1a : Code := (Try.f26).body.getD .skip
noncomputable def b4m : Shape := mkS { tmps := .sc (.int .i64) :: pv 3 (.sc (.ptr 0 0 false) :: V :: .sc (.ptr 1 0 false) :: .sc (.sl 2 (some 8) none none 1) :: V :: .sc (.sl 2 (some 0) (some 8) none 1) :: .sc (.int .i64) :: .sc (.int .i64) :: pv 80 []), mem := [.live [.xs b32 (some 256)] (.own), .live [.xs b32 (some 256)] (.own), .live [.xs b8 none] (.own)] } [.int, .nat, .nat, .nat, .int, .int, .xs, .xs, .nat, .xs]
abbrev W21 : Type := Int × Nat × Nat × Nat × Int × Int × List Int × List Int × Nat × List Int × Unit
noncomputable def M7 (N : Nat) (β : Type) (x : W21) (kn : W21 → Option β) (ke : W21 → Option β) : Option β :=
 if (x.2.2.2.2.1 < ((x.2.1 : Nat) : Int)) then
  if 0 ≤ x.2.2.2.2.1 then (
  if x.2.2.2.2.1 < ((x.2.1 : Nat) : Int) then (
  if (8 + (x.2.2.2.2.1.toNat)) < x.2.2.2.2.2.2.2.2.1 then (
  if ((IntKind.i64.wrap (List.getD x.2.2.2.2.2.2.2.2.2.1 (8 + (x.2.2.2.2.1.toNat)) 0)) > x.2.2.2.2.2.1) then
   kn (x.1, x.2.1, x.2.2.1, x.2.2.2.1, (IntKind.i64.wrap (x.2.2.2.2.1 + (1:Int))), x.2.2.2.2.2.1, x.2.2.2.2.2.2.1, x.2.2.2.2.2.2.2.1, x.2.2.2.2.2.2.2.2.1, x.2.2.2.2.2.2.2.2.2.1, ())
  else
   ke (x.1, x.2.1, x.2.2.1, x.2.2.2.1, x.2.2.2.2.1, x.2.2.2.2.2.1, x.2.2.2.2.2.2.1, x.2.2.2.2.2.2.2.1, x.2.2.2.2.2.2.2.2.1, x.2.2.2.2.2.2.2.2.2.1, ())) else none) else none) else none
 else
  ke (x.1, x.2.1, x.2.2.1, x.2.2.2.1, x.2.2.2.2.1, x.2.2.2.2.2.1, x.2.2.2.2.2.2.1, x.2.2.2.2.2.2.2.1, x.2.2.2.2.2.2.2.2.1, x.2.2.2.2.2.2.2.2.2.1, ())
noncomputable def b2L : Go' W21 := fun y K => K (.exit 2) (fSt { tmps := .sc (.int .i64) :: pv 3 (.sc (.ptr 0 0 false) :: V :: .sc (.ptr 1 0 false) :: .sc (.sl 2 (some 8) none none 1) :: V :: .sc (.sl 2 (some 0) (some 8) none 1) :: .sc (.int .i64) :: .sc (.int .i64) :: pv 80 []), mem := [.live [.xs b32 (some 256)] (.own), .live [.xs b32 (some 256)] (.own), .live [.xs b8 none] (.own)] } [.int, .nat, .nat, .nat, .int, .int, .xs, .xs, .nat, .xs] y)
noncomputable def a6d (N : Nat) : LT := upd (LT.nil) 12 (C6 b4m N (M7 N) b2L)
theorem b2M (N : Nat) : OkAll p_dring_Ball_E a6H N (a6d N) (E4 a1a) :=
 d8 (c := d9 12 a1a) (OkAll.nil) (by kernel_rfl) (fun x => by kernel_rfl) (fun β x kn ke => by kernel_rfl)
noncomputable def b4l : Shape := mkS { tmps := .sc (.int .i64) :: pv 3 (.sc (.ptr 0 0 false) :: V :: .sc (.ptr 1 0 false) :: .sc (.sl 2 (some 8) none none 1) :: V :: .sc (.sl 2 (some 0) (some 8) none 1) :: .sc (.int .i64) :: .sc (.int .i64) :: pv 80 []), mem := [.live [.xs b32 (some 256)] (.own), .live [.xs b32 (some 256)] (.own), .live [.xs b8 none] (.own)] } [.int, .nat, .nat, .nat, .int, .int, .xs, .xs, .nat, .xs]
noncomputable def F8 (N : Nat) (β : Type) (x : W21) (kn : W21 → Option β) (ke : W18 → Option β) : Option β :=
 if (x.2.2.2.2.2.1 < (256:Int)) then
  E1 (M7 N) N (x.1, x.2.1, x.2.2.1, x.2.2.2.1, x.2.2.2.2.1, x.2.2.2.2.2.1, x.2.2.2.2.2.2.1, x.2.2.2.2.2.2.2.1, x.2.2.2.2.2.2.2.2.1, x.2.2.2.2.2.2.2.2.2.1, ()) fun y2 => (
  if (y2.2.2.2.2.1 = ((y2.2.1 : Nat) : Int)) then
   ke (.inl (y2.2.2.2.2.2.2.1, ()))
  else
   if 0 ≤ y2.2.2.2.2.1 then (
   if y2.2.2.2.2.1 < ((y2.2.1 : Nat) : Int) then (
   if (8 + (y2.2.2.2.2.1.toNat)) < y2.2.2.2.2.2.2.2.2.1 then (
   if 0 ≤ (List.getD y2.2.2.2.2.2.2.2.2.2.1 (8 + (y2.2.2.2.2.1.toNat)) 0) then (
   if (List.getD y2.2.2.2.2.2.2.2.2.2.1 (8 + (y2.2.2.2.2.1.toNat)) 0) < 256 then (
   if ((List.getD y2.2.2.2.2.2.2.2.2.2.1 (8 + (y2.2.2.2.2.1.toNat)) 0).toNat) < 256 then (
   if 0 ≤ y2.2.2.2.2.2.1 then (
   if y2.2.2.2.2.2.1 < 256 then (
   if (y2.2.2.2.2.2.1.toNat) < 256 then (
   if 0 ≤ (List.getD y2.2.2.2.2.2.2.2.2.2.1 (8 + (y2.2.2.2.2.1.toNat)) 0) then (
   if (List.getD y2.2.2.2.2.2.2.2.2.2.1 (8 + (y2.2.2.2.2.1.toNat)) 0) < 256 then (
   if ((List.getD y2.2.2.2.2.2.2.2.2.2.1 (8 + (y2.2.2.2.2.1.toNat)) 0).toNat) < 256 then (
   if 0 ≤ (IntKind.i64.wrap (Int.tdiv (IntKind.i64.wrap ((IntKind.i64.wrap (y2.2.2.2.2.2.1 + y2.1)) - (256:Int))) (8:Int))) then (
   if (IntKind.i64.wrap (Int.tdiv (IntKind.i64.wrap ((IntKind.i64.wrap (y2.2.2.2.2.2.1 + y2.1)) - (256:Int))) (8:Int))) < (8:Int) then (
   if ((IntKind.i64.wrap (Int.tdiv (IntKind.i64.wrap ((IntKind.i64.wrap (y2.2.2.2.2.2.1 + y2.1)) - (256:Int))) (8:Int))).toNat) < y2.2.2.2.2.2.2.2.2.1 then (
   if (Int.tmod (IntKind.i64.wrap ((IntKind.i64.wrap (y2.2.2.2.2.2.1 + y2.1)) - (256:Int))) (8:Int)) < 0 then none else (
   if ((b9j IntKind.u8 (c2w IntKind.u8 (List.getD y2.2.2.2.2.2.2.2.2.2.1 ((IntKind.i64.wrap (Int.tdiv (IntKind.i64.wrap ((IntKind.i64.wrap (y2.2.2.2.2.2.1 + y2.1)) - (256:Int))) (8:Int))).toNat) 0) (Int.tmod (IntKind.i64.wrap ((IntKind.i64.wrap (y2.2.2.2.2.2.1 + y2.1)) - (256:Int))) (8:Int))) (1:Int)) = (1:Int)) then
    if 0 ≤ (List.getD y2.2.2.2.2.2.2.2.2.2.1 (8 + (y2.2.2.2.2.1.toNat)) 0) then (
    if (List.getD y2.2.2.2.2.2.2.2.2.2.1 (8 + (y2.2.2.2.2.1.toNat)) 0) < 256 then (
    if ((List.getD y2.2.2.2.2.2.2.2.2.2.1 (8 + (y2.2.2.2.2.1.toNat)) 0).toNat) < 256 then (
    if (y2.2.2.2.2.2.1 = (255:Int)) then
     ke (.inr ((0:Int), (List.set (List.set (List.set y2.2.2.2.2.2.2.2.1 (y2.2.2.2.2.2.1.toNat) (List.getD y2.2.2.2.2.2.2.2.1 ((List.getD y2.2.2.2.2.2.2.2.2.2.1 (8 + (y2.2.2.2.2.1.toNat)) 0).toNat) 0)) ((List.getD y2.2.2.2.2.2.2.2.2.2.1 (8 + (y2.2.2.2.2.1.toNat)) 0).toNat) (1:Int)) ((List.getD y2.2.2.2.2.2.2.2.2.2.1 (8 + (y2.2.2.2.2.1.toNat)) 0).toNat) (8380416:Int)), ()))
    else
     kn (y2.1, y2.2.1, y2.2.2.1, y2.2.2.2.1, (IntKind.i64.wrap (y2.2.2.2.2.1 + (1:Int))), (IntKind.i64.wrap (y2.2.2.2.2.2.1 + (1:Int))), y2.2.2.2.2.2.2.1, (List.set (List.set (List.set y2.2.2.2.2.2.2.2.1 (y2.2.2.2.2.2.1.toNat) (List.getD y2.2.2.2.2.2.2.2.1 ((List.getD y2.2.2.2.2.2.2.2.2.2.1 (8 + (y2.2.2.2.2.1.toNat)) 0).toNat) 0)) ((List.getD y2.2.2.2.2.2.2.2.2.2.1 (8 + (y2.2.2.2.2.1.toNat)) 0).toNat) (1:Int)) ((List.getD y2.2.2.2.2.2.2.2.2.2.1 (8 + (y2.2.2.2.2.1.toNat)) 0).toNat) (8380416:Int)), y2.2.2.2.2.2.2.2.2.1, y2.2.2.2.2.2.2.2.2.2.1, ())) else none) else none) else none
   else
    if (y2.2.2.2.2.2.1 = (255:Int)) then
     ke (.inr ((0:Int), (List.set (List.set y2.2.2.2.2.2.2.2.1 (y2.2.2.2.2.2.1.toNat) (List.getD y2.2.2.2.2.2.2.2.1 ((List.getD y2.2.2.2.2.2.2.2.2.2.1 (8 + (y2.2.2.2.2.1.toNat)) 0).toNat) 0)) ((List.getD y2.2.2.2.2.2.2.2.2.2.1 (8 + (y2.2.2.2.2.1.toNat)) 0).toNat) (1:Int)), ()))
    else
     kn (y2.1, y2.2.1, y2.2.2.1, y2.2.2.2.1, (IntKind.i64.wrap (y2.2.2.2.2.1 + (1:Int))), (IntKind.i64.wrap (y2.2.2.2.2.2.1 + (1:Int))), y2.2.2.2.2.2.2.1, (List.set (List.set y2.2.2.2.2.2.2.2.1 (y2.2.2.2.2.2.1.toNat) (List.getD y2.2.2.2.2.2.2.2.1 ((List.getD y2.2.2.2.2.2.2.2.2.2.1 (8 + (y2.2.2.2.2.1.toNat)) 0).toNat) 0)) ((List.getD y2.2.2.2.2.2.2.2.2.2.1 (8 + (y2.2.2.2.2.1.toNat)) 0).toNat) (1:Int)), y2.2.2.2.2.2.2.2.2.1, y2.2.2.2.2.2.2.2.2.2.1, ()))) else none) else none) else none) else none) else none) else none) else none) else none) else none) else none) else none) else none) else none) else none) else none)
 else
  ke (.inl (x.2.2.2.2.2.2.1, ()))
noncomputable def b2J : Go' W18 := fun y K => match y with
 | .inl y => K (.exit 0) (fSt { tmps := pv 4 (.sc (.ptr 0 0 false) :: pv 87 []), mem := [.live [.xs b32 (some 256)] (.own)] } [.xs] y)
 | .inr y => K .ret (fSt { tmps := pv 4 (.sc (.ptr 0 0 false) :: .sc (.int .i64) :: pv 86 []), mem := [.live [.xs b32 (some 256)] (.own)] } [.int, .xs] y)
noncomputable def a6c (N : Nat) : LT := upd (a6d N) 10 (C6 b4l N (F8 N) b2J)
theorem b2K (N : Nat) : OkAll p_dring_Ball_E a6H N (a6c N) (E4 a1a) :=
 d8 (c := d9 10 a1a) (b2M N) (by kernel_rfl) (fun x => by kernel_rfl) (fun β x kn ke => by kernel_rfl)
abbrev a0h : List Kd := [.int .i64, .sl b8]
abbrev a0i : List Kd := [.xs b32 256, .int .i64]
noncomputable def a6b (N : Nat) (x : Int × List Int × Unit) : Option (List Int × Int) :=
 if (x.1 < (1:Int)) then
  some ((List.replicate 256 0), (1:Int))
 else
  if (x.1 > (64:Int)) then
   some ((List.replicate 256 0), (1:Int))
  else
   (Y1 ((256:Int), (1032:Int), [x.2.1], ())).bind fun r1 => (
   if (r1.2 ≠ (0:Int)) then
    some ((List.replicate 256 0), (130:Int))
   else
    if 8 ≤ (List.length r1.1) then (
    if 8 ≤ (List.length r1.1) then (
    E1 (F8 N) N (x.1, ((List.length r1.1) - 8), ((List.length r1.1) - 8), (List.length r1.1), (0:Int), (IntKind.i64.wrap ((256:Int) - x.1)), (List.replicate 256 0), (List.replicate 256 0), (List.length r1.1), r1.1, ()) fun y => (match y with
    | .inl y3 => (
     some ((List.replicate 256 0), (130:Int)))
    | .inr y4 => (
     some (y4.2.1, y4.1)))) else none) else none)
theorem b7N (e0 : b6 Try.prog 44 a02) : p_dring_Ball_E.Ok Try.prog := AE.of_ok (all_cons a2O (all_cons S6 (all_cons G6 (all_cons w7 (all_cons a1Z (all_cons G7 b5)))))) (all_cons ⟨e0, a47⟩ b5)
theorem b9F (hE : p_dring_Ball_E.Ok Try.prog) {g : Ds a0h → Option (Rs a0i)} (hg : ∀ x r, g x = some r → ∃ N, a6b N x = some r) : b6 Try.prog 26 ⟨a0h, a0i, g⟩ :=
 d6 (E := p_dring_Ball_E) (H := a6H) (L := fun N => a6c N) (c := a1a) (ks := a0h) (rs := a0i) (F := a6b) hE mix Try.func26 (by kernel_rfl) (fun N => b2K N) (fun _ _ => by kernel_rfl) hg
noncomputable def p_dring_UnpackHints_E : AE := AE.of [(3, ty3), (4, ty4), (5, ty5), (26, ty26), (60, ty60), (74, ty74)] []
noncomputable def M8 : Hints := [(6, [1, 2, 8, 9, 40, 41]), (12, [1, 2, 8, 9, 10, 11, 12, 40, 41]), (20, [8, 93, 94, 95]), (2000000, [1, 2, 8, 9]), (2000001, [1, 2, 8, 9, 40, 41]), (2000002, [1, 2, 8, 11, 40, 41]), (2000003, [1, 2, 8, 9, 10, 11, 12, 40, 41]), (2000004, [8]), (2000005, [8, 93, 94, 95]), (3000000, [6, 7])]
noncomputable def t6 : Code := (Try.f24).body.getD .skip
noncomputable def a6M : Shape := mkS { tmps := V :: .sc (.int .i64) :: .sc (.vec 0 none 1) :: pv 5 (.sc (.vec 1 none 256) :: .sc (.int .i64) :: .sc (.int .i64) :: .sc (.int .i64) :: .sc (.int .i64) :: pv 27 (.sc (.int .i64) :: .sc (.int .i64) :: pv 61 [])), mem := [.live [.xs b8 none] (.ro), .live [.xs .bool none] (.own)] } [.int, .nat, .nat, .int, .int, .int, .int, .int, .int, .nat, .xs, .nat, .xs]
abbrev W22 : Type := Int × Nat × Nat × Int × Int × Int × Int × Int × Int × Nat × List Int × Nat × List Int × Unit
abbrev W23 : Type := (Int × Unit) ⊕ (Int × Nat × Nat × Int × Int × Int × Nat × List Int × Nat × List Int × Unit)
noncomputable def v0 (N : Nat) (β : Type) (x : W22) (kn : W22 → Option β) (ke : W23 → Option β) : Option β :=
 if (x.2.2.2.2.2.2.1 < x.2.2.2.2.2.1) then
  if (x.2.2.2.2.2.2.1 > x.2.2.2.1) then
   if 0 ≤ x.2.2.2.2.2.2.1 then (
   if x.2.2.2.2.2.2.1 < ((x.2.1 : Nat) : Int) then (
   if (x.2.2.2.2.2.2.1.toNat) < x.2.2.2.2.2.2.2.2.2.1 then (
   if 0 ≤ (IntKind.i64.wrap (x.2.2.2.2.2.2.1 - (1:Int))) then (
   if (IntKind.i64.wrap (x.2.2.2.2.2.2.1 - (1:Int))) < ((x.2.1 : Nat) : Int) then (
   if ((IntKind.i64.wrap (x.2.2.2.2.2.2.1 - (1:Int))).toNat) < x.2.2.2.2.2.2.2.2.2.1 then (
   if ((List.getD x.2.2.2.2.2.2.2.2.2.2.1 (x.2.2.2.2.2.2.1.toNat) 0) ≤ (List.getD x.2.2.2.2.2.2.2.2.2.2.1 ((IntKind.i64.wrap (x.2.2.2.2.2.2.1 - (1:Int))).toNat) 0)) then
    ke (.inl ((150:Int), ()))
   else
    if 0 ≤ x.2.2.2.2.2.2.1 then (
    if x.2.2.2.2.2.2.1 < ((x.2.1 : Nat) : Int) then (
    if (x.2.2.2.2.2.2.1.toNat) < x.2.2.2.2.2.2.2.2.2.1 then (
    if 0 ≤ x.2.2.2.2.1 then (
    if x.2.2.2.2.1 < ((x.2.2.1 : Nat) : Int) then (
    if 0 ≤ (List.getD x.2.2.2.2.2.2.2.2.2.2.1 (x.2.2.2.2.2.2.1.toNat) 0) then (
    if (List.getD x.2.2.2.2.2.2.2.2.2.2.1 (x.2.2.2.2.2.2.1.toNat) 0) < 256 then (
    if (((x.2.2.2.2.1.toNat) * 256) + ((List.getD x.2.2.2.2.2.2.2.2.2.2.1 (x.2.2.2.2.2.2.1.toNat) 0).toNat)) < x.2.2.2.2.2.2.2.2.2.2.2.1 then (
    kn (x.1, x.2.1, x.2.2.1, x.2.2.2.1, x.2.2.2.2.1, x.2.2.2.2.2.1, (IntKind.i64.wrap (x.2.2.2.2.2.2.1 + (1:Int))), x.2.2.2.2.2.2.2.1, x.2.2.2.2.2.2.2.2.1, x.2.2.2.2.2.2.2.2.2.1, x.2.2.2.2.2.2.2.2.2.2.1, x.2.2.2.2.2.2.2.2.2.2.2.1, (List.set x.2.2.2.2.2.2.2.2.2.2.2.2.1 (((x.2.2.2.2.1.toNat) * 256) + ((List.getD x.2.2.2.2.2.2.2.2.2.2.1 (x.2.2.2.2.2.2.1.toNat) 0).toNat)) (1:Int)), ())) else none) else none) else none) else none) else none) else none) else none) else none) else none) else none) else none) else none) else none) else none
  else
   if 0 ≤ x.2.2.2.2.2.2.1 then (
   if x.2.2.2.2.2.2.1 < ((x.2.1 : Nat) : Int) then (
   if (x.2.2.2.2.2.2.1.toNat) < x.2.2.2.2.2.2.2.2.2.1 then (
   if 0 ≤ x.2.2.2.2.1 then (
   if x.2.2.2.2.1 < ((x.2.2.1 : Nat) : Int) then (
   if 0 ≤ (List.getD x.2.2.2.2.2.2.2.2.2.2.1 (x.2.2.2.2.2.2.1.toNat) 0) then (
   if (List.getD x.2.2.2.2.2.2.2.2.2.2.1 (x.2.2.2.2.2.2.1.toNat) 0) < 256 then (
   if (((x.2.2.2.2.1.toNat) * 256) + ((List.getD x.2.2.2.2.2.2.2.2.2.2.1 (x.2.2.2.2.2.2.1.toNat) 0).toNat)) < x.2.2.2.2.2.2.2.2.2.2.2.1 then (
   kn (x.1, x.2.1, x.2.2.1, x.2.2.2.1, x.2.2.2.2.1, x.2.2.2.2.2.1, (IntKind.i64.wrap (x.2.2.2.2.2.2.1 + (1:Int))), x.2.2.2.2.2.2.2.1, x.2.2.2.2.2.2.2.2.1, x.2.2.2.2.2.2.2.2.2.1, x.2.2.2.2.2.2.2.2.2.2.1, x.2.2.2.2.2.2.2.2.2.2.2.1, (List.set x.2.2.2.2.2.2.2.2.2.2.2.2.1 (((x.2.2.2.2.1.toNat) * 256) + ((List.getD x.2.2.2.2.2.2.2.2.2.2.1 (x.2.2.2.2.2.2.1.toNat) 0).toNat)) (1:Int)), ())) else none) else none) else none) else none) else none) else none) else none) else none
 else
  ke (.inr (x.1, x.2.1, x.2.2.1, x.2.2.2.2.2.1, x.2.2.2.2.2.2.2.1, x.2.2.2.2.2.2.2.2.1, x.2.2.2.2.2.2.2.2.2.1, x.2.2.2.2.2.2.2.2.2.2.1, x.2.2.2.2.2.2.2.2.2.2.2.1, x.2.2.2.2.2.2.2.2.2.2.2.2.1, ()))
noncomputable def a5O : Go' W23 := fun y K => match y with
 | .inl y => K .ret (fSt { tmps := pv 6 (.sc (.nilsl) :: .sc (.int .i64) :: pv 95 []), mem := [] } [.int] y)
 | .inr y => K (.exit 2) (fSt { tmps := V :: .sc (.int .i64) :: .sc (.vec 0 none 1) :: pv 5 (.sc (.vec 1 none 256) :: V :: V :: .sc (.int .i64) :: pv 28 (.sc (.int .i64) :: .sc (.int .i64) :: pv 61 [])), mem := [.live [.xs b8 none] (.ro), .live [.xs .bool none] (.own)] } [.int, .nat, .nat, .int, .int, .int, .nat, .xs, .nat, .xs] y)
noncomputable def a1d (N : Nat) : LT := upd (LT.nil) 12 (C6 a6M N (v0 N) a5O)
theorem a5P (N : Nat) : OkAll p_dring_UnpackHints_E M8 N (a1d N) (E4 t6) :=
 d8 (c := d9 12 t6) (OkAll.nil) (by kernel_rfl) (fun x => by kernel_rfl) (fun β x kn ke => by kernel_rfl)
noncomputable def a7z : Shape := mkS { tmps := V :: .sc (.int .i64) :: .sc (.vec 0 none 1) :: pv 5 (.sc (.vec 1 none 256) :: .sc (.int .i64) :: pv 30 (.sc (.int .i64) :: .sc (.int .i64) :: pv 61 [])), mem := [.live [.xs b8 none] (.ro), .live [.xs .bool none] (.own)] } [.int, .nat, .nat, .int, .int, .int, .nat, .xs, .nat, .xs]
abbrev W24 : Type := Int × Nat × Nat × Int × Int × Int × Nat × List Int × Nat × List Int × Unit
abbrev W25 : Type := (Int × Unit) ⊕ (Int × Nat × Nat × Int × Nat × List Int × Nat × List Int × Unit)
noncomputable def n5 (N : Nat) (β : Type) (x : W24) (kn : W24 → Option β) (ke : W25 → Option β) : Option β :=
 if (x.2.2.2.2.2.1 < x.2.2.2.2.1) then
  if 0 ≤ (IntKind.i64.wrap (x.1 + x.2.2.2.2.2.1)) then (
  if (IntKind.i64.wrap (x.1 + x.2.2.2.2.2.1)) < ((x.2.1 : Nat) : Int) then (
  if ((IntKind.i64.wrap (x.1 + x.2.2.2.2.2.1)).toNat) < x.2.2.2.2.2.2.1 then (
  if ((IntKind.i64.wrap (List.getD x.2.2.2.2.2.2.2.1 ((IntKind.i64.wrap (x.1 + x.2.2.2.2.2.1)).toNat) 0)) < x.2.2.2.1) then
   ke (.inl ((150:Int), ()))
  else
   if ((IntKind.i64.wrap (List.getD x.2.2.2.2.2.2.2.1 ((IntKind.i64.wrap (x.1 + x.2.2.2.2.2.1)).toNat) 0)) > x.1) then
    ke (.inl ((150:Int), ()))
   else
    E1 (v0 N) N (x.1, x.2.1, x.2.2.1, x.2.2.2.1, x.2.2.2.2.2.1, (IntKind.i64.wrap (List.getD x.2.2.2.2.2.2.2.1 ((IntKind.i64.wrap (x.1 + x.2.2.2.2.2.1)).toNat) 0)), x.2.2.2.1, x.2.2.2.2.1, x.2.2.2.2.2.1, x.2.2.2.2.2.2.1, x.2.2.2.2.2.2.2.1, x.2.2.2.2.2.2.2.2.1, x.2.2.2.2.2.2.2.2.2.1, ()) fun y => (match y with
    | .inl y1 => (
     ke (.inl (y1.1, ())))
    | .inr y2 => (
     kn (y2.1, y2.2.1, y2.2.2.1, y2.2.2.2.1, y2.2.2.2.2.1, (IntKind.i64.wrap (y2.2.2.2.2.2.1 + (1:Int))), y2.2.2.2.2.2.2.1, y2.2.2.2.2.2.2.2.1, y2.2.2.2.2.2.2.2.2.1, y2.2.2.2.2.2.2.2.2.2.1, ())))) else none) else none) else none
 else
  ke (.inr (x.1, x.2.1, x.2.2.1, x.2.2.2.1, x.2.2.2.2.2.2.1, x.2.2.2.2.2.2.2.1, x.2.2.2.2.2.2.2.2.1, x.2.2.2.2.2.2.2.2.2.1, ()))
noncomputable def a6O : Go' W25 := fun y K => match y with
 | .inl y => K .ret (fSt { tmps := pv 6 (.sc (.nilsl) :: .sc (.int .i64) :: pv 95 []), mem := [] } [.int] y)
 | .inr y => K (.exit 0) (fSt { tmps := V :: .sc (.int .i64) :: .sc (.vec 0 none 1) :: pv 5 (.sc (.vec 1 none 256) :: .sc (.int .i64) :: pv 93 []), mem := [.live [.xs b8 none] (.ro), .live [.xs .bool none] (.own)] } [.int, .nat, .nat, .int, .nat, .xs, .nat, .xs] y)
noncomputable def a13 (N : Nat) : LT := upd (a1d N) 6 (C6 a7z N (n5 N) a6O)
theorem a6P (N : Nat) : OkAll p_dring_UnpackHints_E M8 N (a13 N) (E4 t6) :=
 d8 (c := d9 6 t6) (a5P N) (by kernel_rfl) (fun x => by kernel_rfl) (fun β x kn ke => by kernel_rfl)
noncomputable def a6N : Shape := mkS { tmps := pv 8 (.sc (.vec 0 none 256) :: pv 84 (.sc (.sl 1 none none none 1) :: .sc (.int .i64) :: .sc (.int .i64) :: pv 7 [])), mem := [.live [.xs .bool none] (.own), .live [.xs b8 none] (.ro)] } [.nat, .nat, .nat, .nat, .int, .int, .nat, .xs, .nat, .xs]
abbrev W26 : Type := Nat × Nat × Nat × Nat × Int × Int × Nat × List Int × Nat × List Int × Unit
abbrev W27 : Type := (Int × Unit) ⊕ (Nat × Nat × List Int × Unit)
noncomputable def w5 (N : Nat) (β : Type) (x : W26) (kn : W26 → Option β) (ke : W27 → Option β) : Option β :=
 if (x.2.2.2.2.2.1 < x.2.2.2.2.1) then
  if 0 ≤ x.2.2.2.2.2.1 then (
  if x.2.2.2.2.2.1 < ((x.2.2.1 : Nat) : Int) then (
  if (c0I x.2.1 (x.2.2.2.2.2.1.toNat)) < x.2.2.2.2.2.2.2.2.1 then (
  if ((List.getD x.2.2.2.2.2.2.2.2.2.1 (c0I x.2.1 (x.2.2.2.2.2.1.toNat)) 0) ≠ (0:Int)) then
   ke (.inl ((150:Int), ()))
  else
   kn (x.1, x.2.1, x.2.2.1, x.2.2.2.1, x.2.2.2.2.1, (IntKind.i64.wrap (x.2.2.2.2.2.1 + (1:Int))), x.2.2.2.2.2.2.1, x.2.2.2.2.2.2.2.1, x.2.2.2.2.2.2.2.2.1, x.2.2.2.2.2.2.2.2.2.1, ())) else none) else none) else none
 else
  ke (.inr (x.1, x.2.2.2.2.2.2.1, x.2.2.2.2.2.2.2.1, ()))
noncomputable def a5Q : Go' W27 := fun y K => match y with
 | .inl y => K .ret (fSt { tmps := pv 6 (.sc (.nilsl) :: .sc (.int .i64) :: pv 95 []), mem := [] } [.int] y)
 | .inr y => K (.exit 4) (fSt { tmps := pv 8 (.sc (.vec 0 none 256) :: pv 94 []), mem := [.live [.xs .bool none] (.own)] } [.nat, .nat, .xs] y)
noncomputable def a1e (N : Nat) : LT := upd (a13 N) 20 (C6 a6N N (w5 N) a5Q)
theorem a5R (N : Nat) : OkAll p_dring_UnpackHints_E M8 N (a1e N) (E4 t6) :=
 d8 (c := d9 20 t6) (a6P N) (by kernel_rfl) (fun x => by kernel_rfl) (fun β x kn ke => by kernel_rfl)
abbrev C8 : List Kd := [.int .i64, .int .i64, .sl b8]
abbrev C9 : List Kd := [.sla .bool 256, .int .i64]
noncomputable def T2 (N : Nat) (x : Int × Int × List Int × Unit) : Option (List Int × Int) :=
 if (x.1 < (0:Int)) then
  some ([], (1:Int))
 else
  if (x.1 > (16:Int)) then
   some ([], (1:Int))
  else
   if (x.2.1 < (0:Int)) then
    some ([], (1:Int))
   else
    if (x.2.1 > (255:Int)) then
     some ([], (1:Int))
    else
     if ((((List.length x.2.2.1) : Nat) : Int) ≠ (IntKind.i64.wrap (x.2.1 + x.1))) then
      some ([], (1:Int))
     else
      if 0 ≤ x.1 then (
      if x.1 = x.1 then (
      if x.1 * 256 ≤ 281474976710656 then (
      E1 (n5 N) N (x.2.1, (List.length x.2.2.1), (x.1.toNat), (0:Int), (((x.1.toNat) : Nat) : Int), (0:Int), (List.length x.2.2.1), x.2.2.1, ((x.1.toNat) * 256), (List.replicate ((x.1.toNat) * 256) 0), ()) fun y => (match y with
      | .inl y3 => (
       some ([], y3.1))
      | .inr y4 => (
       if 0 ≤ y4.1 then (
       if y4.1 ≤ ((y4.2.1 : Nat) : Int) then (
       if 0 ≤ y4.2.2.2.1 then (
       if y4.2.2.2.1 ≤ (((y4.1.toNat) : Nat) : Int) then (
       E1 (w5 N) N (y4.2.2.1, (y4.2.2.2.1.toNat), (c6x (y4.1.toNat) (y4.2.2.2.1.toNat)), (c6x y4.2.1 (y4.2.2.2.1.toNat)), (((c6x (y4.1.toNat) (y4.2.2.2.1.toNat)) : Nat) : Int), (0:Int), y4.2.2.2.2.2.2.1, y4.2.2.2.2.2.2.2.1, y4.2.2.2.2.1, y4.2.2.2.2.2.1, ()) fun y => (match y with
       | .inl y5 => (
        some ([], y5.1))
       | .inr y6 => (
        some (y6.2.2.1, (0:Int))))) else none) else none) else none) else none))) else none) else none) else none
theorem a8A : p_dring_UnpackHints_E.Ok Try.prog := AE.of_ok (all_cons a2O (all_cons c0E (all_cons S6 (all_cons w7 (all_cons d0P (all_cons c6D b5)))))) b5
theorem a9o (hE : p_dring_UnpackHints_E.Ok Try.prog) {g : Ds C8 → Option (Rs C9)} (hg : ∀ x r, g x = some r → ∃ N, T2 N x = some r) : b6 Try.prog 24 ⟨C8, C9, g⟩ :=
 d6 (E := p_dring_UnpackHints_E) (H := M8) (L := fun N => a1e N) (c := t6) (ks := C8) (rs := C9) (F := T2) hE mix Try.func24 (by kernel_rfl) (fun N => a5R N) (fun _ _ => by kernel_rfl) hg
noncomputable def p_ref01_Equal_E : AE := AE.of [(5, ty5), (9, ty9), (26, ty26)] []
noncomputable def b97 : Hints := [(3000000, [4])]
noncomputable def b98 : Code := (Try.f12).body.getD .skip
abbrev X5 : List Kd := [.sl b8, .sl b8]
abbrev a4e : List Kd := [.bool]
noncomputable def a4F (N : Nat) (x : List Int × List Int × Unit) : Option (Bool) :=
 some (decide ((strOfNums x.1) = (strOfNums x.2.1)))
theorem b6M : p_ref01_Equal_E.Ok Try.prog := AE.of_ok (all_cons S6 (all_cons d2V (all_cons w7 b5))) b5
theorem b8f (hE : p_ref01_Equal_E.Ok Try.prog) {g : Ds X5 → Option (Rs [.bool])} (hg : ∀ x r, g x = some r → ∃ N, a4F N x = some r) : b6 Try.prog 12 ⟨X5, [.bool], g⟩ :=
 d6 (E := p_ref01_Equal_E) (H := b97) (L := fun N => LT.nil) (c := b98) (ks := X5) (rs := a4e) (F := a4F) hE mix Try.func12 (by kernel_rfl) (fun N => OkAll.nil) (fun _ _ => by kernel_rfl) hg
end Go.Ax.TryP
set_option linter.unusedVariables false
namespace Go.Ax.TryP
open Go.Proofs
theorem d19 {rate : Nat} {e : Int} {l : List Int} {n p : Nat} (h : p < n) : (a4g rate e l n).getD p 0 = b3y rate (Z8 rate e (z25, 0) l) p := by
 unfold a4g
 rw [List.getD_eq_getElem?_getD, List.getElem?_map, List.getElem?_range h]
 rfl
def c8x (L : List Int) : List Int := L ++ List.replicate (256 - L.length) 0
theorem d0o {L : List Int} {c : Int} (h : L.length < 256) : (c8x L).set L.length c = c8x (L ++ [c]) := by
 unfold c8x
 rw [List.set_append_right _ _ (Nat.le_refl _), Nat.sub_self, List.append_assoc]
 obtain ⟨k, hk⟩ : ∃ k, 256 - L.length = k + 1 := ⟨255 - L.length, by omega⟩
 rw [hk, List.replicate_succ, List.set_cons_zero, List.length_append, List.length_singleton, show 256 - (L.length + 1) = k by omega]
 rfl
theorem c8y {L : List Int} (h : L.length = 256) : c8x L = L := by simp [c8x, h]
theorem d2e {L : List Int} (h : L.length ≤ 256) : L.take 256 = L := List.take_of_length_le h
theorem c6M (f : Nat → List Int) (t : Nat) : ∀ d : Nat, ∃ r, b3x f (t + d) = b3x f t ++ r
 | 0 => ⟨[], by simp⟩
 | d + 1 => by
  obtain ⟨r, h⟩ := c6M f t d
  exact ⟨r ++ f (t + d), by rw [← Nat.add_assoc, b3x, h, List.append_assoc]⟩
theorem c9c {f : Nat → List Int} {t u : Nat} (h : t ≤ u) (h2 : 256 ≤ (b3x f t).length) : 256 ≤ (b3x f u).length ∧ (b3x f u).take 256 = (b3x f t).take 256 := by
 obtain ⟨r, e⟩ := c6M f t (u - t)
 rw [show t + (u - t) = u by omega] at e
 rw [e]
 exact ⟨by simp; omega, by rw [List.take_append_of_le_length h2]⟩
theorem a7V {n : Nat} (h : n < 2 ^ 31) : IntKind.i32.wrap (n : Int) = n := a0O (by omega) (by omega)
theorem c5K {m n : Nat} (hm : m < 2 ^ 31) (hn : n < 2 ^ 31) : ior .i32 (m : Int) (n : Int) = ((m ||| n : Nat) : Int) := by
 unfold ior
 rw [BitVec.toNat_or, a1t (k := .i32) (Nat.lt_of_lt_of_le hm (by decide)), a1t (k := .i32) (Nat.lt_of_lt_of_le hn (by decide))]
 exact a7V (Nat.or_lt_two_pow hm hn)
theorem b8D {m s : Nat} (hs : s ≤ 32) (h : m * 2 ^ s < 2 ^ 31) : b1X .i32 (m : Int) (s : Int) = ((m * 2 ^ s : Nat) : Int) := by
 unfold b1X
 rw [Int.toNat_natCast, Nat.min_eq_left (show s ≤ IntKind.i32.bits from hs)]
 have : (m : Int) * 2 ^ s = ((m * 2 ^ s : Nat) : Int) := by simp
 rw [this]
 exact a7V h
theorem d5U {x y z : Int} (hx : 0 ≤ x ∧ x ≤ 255) (hy : 0 ≤ y ∧ y ≤ 255) (hz : 0 ≤ z ∧ z ≤ 255) :
  ior IntKind.i32 (ior IntKind.i32 (IntKind.i32.wrap x) (b1X IntKind.i32 (IntKind.i32.wrap y) (8:Int))) (b1X IntKind.i32 (IntKind.i32.wrap (b9j IntKind.u8 z (127:Int))) (16:Int)) = x + 256 * y + 65536 * (z % 128) := by
 obtain ⟨x, rfl⟩ : ∃ m : Nat, x = m := ⟨x.toNat, by omega⟩
 obtain ⟨y, rfl⟩ : ∃ m : Nat, y = m := ⟨y.toNat, by omega⟩
 obtain ⟨z, rfl⟩ : ∃ m : Nat, z = m := ⟨z.toNat, by omega⟩
 have e : b9j .u8 (z : Int) 127 = ((z % 128 : Nat) : Int) := by
  rw [show (127 : Int) = ((127 : Nat) : Int) from rfl, c2s rfl (by simp [IntKind.bits]; omega) (by decide), show (127 : Nat) = 2 ^ 7 - 1 from rfl, Nat.and_two_pow_sub_one_eq_mod]
 have h1 : x ||| y * 2 ^ 8 = x + y * 2 ^ 8 := c4l (by omega)
 have h2 : (x + y * 2 ^ 8) ||| (z % 128) * 2 ^ 16 = x + y * 2 ^ 8 + (z % 128) * 2 ^ 16 := c4l (by omega)
 rw [e, a7V (n := x) (by omega), a7V (n := y) (by omega), a7V (n := z % 128) (by omega), show (8 : Int) = ((8 : Nat) : Int) from rfl, show (16 : Int) = ((16 : Nat) : Int) from rfl, b8D (by omega) (by omega), b8D (by omega) (by omega), c5K (by omega) (by omega), h1, c5K (by omega) (by omega), h2]
 omega
theorem d1V {s : List Int} {t : Nat} (h : c2d s t < 8380417) : b3x (b7F s) (t + 1) = b3x (b7F s) t ++ [c2d s t] := by show _ ++ b7F s t = _; rw [b7F, if_pos h]
theorem d3O {s : List Int} {t : Nat} (h : ¬ c2d s t < 8380417) : b3x (b7F s) (t + 1) = b3x (b7F s) t := by show _ ++ b7F s t = _; rw [b7F, if_neg h, List.append_nil]
abbrev rA (s : List Int) : List Int := Z8 168 31 (z25, 0) s
def rjX (s : List Int) (t : Nat) : Int × Int × List Int × List Int × Bool × List Int × Int × Int × Int × Unit :=
 (((b3x (b7F s) t).length : Int), (t : Int), z256, c8x (b3x (b7F s) t), true, (T7 168 (rA s) (3 * t)).1, 168, ((T7 168 (rA s) (3 * t)).2 : Int), 3 * (t : Int), ())
abbrev Orj := (List Int × Unit) ⊕ (Int × List Int × Unit)
theorem c9j {s : List Int} {t : Nat} (ht : t < 1024) : l9 ((true, (T7 168 (rA s) (3 * t)).1, 168, ((T7 168 (rA s) (3 * t)).2 : Int), 3 * (t : Int), ()), 3, ())
  = some ([shk s (3 * t), shk s (3 * t + 1), shk s (3 * t + 2)], 0, (true, (T7 168 (rA s) (3 * (t + 1))).1, 168, ((T7 168 (rA s) (3 * (t + 1))).2 : Int), 3 * ((t + 1 : Nat) : Int), ())) := by
 have h := c9i (rate := 168) (A := rA s) (P := 3 * t) (n := 3) (by omega) (c3t 168 (by omega) 31 s) (by omega) (c := 3 * (t : Int)) (by omega)
 rw [show 3 * (t + 1) = 3 * t + 3 by omega, show (3 : Int) * ((t + 1 : Nat) : Int) = 3 * (t : Int) + ((3 : Nat) : Int) by omega]
 exact h
theorem d3Y {s : List Int} {t : Nat} (ht : t < 1024) (hL : (b3x (b7F s) t).length < 256) {N : Nat} {β : Type} (kn : _ → Option β) (ke : Orj → Option β) :
  x5 N β (rjX s t) kn ke = if (b3x (b7F s) (t + 1)).length < 256 then kn (rjX s (t + 1)) else ke (.inr (0, (b3x (b7F s) (t + 1)).take 256, ())) := by
 have b0 := c8R s (3 * t)
 have b1 := c8R s (3 * t + 1)
 have b2 := c8R s (3 * t + 2)
 have wt : IntKind.i64.wrap ((t : Int) + 1) = ((t + 1 : Nat) : Int) := by rw [b7 (by omega) (by omega)]; omega
 unfold x5 rjX
 dsimp only
 rw [if_pos (by omega), c9j ht, Option.bind_some]
 dsimp only
 rw [if_neg (by omega), if_pos (by omega), if_pos (by simp), if_pos (by simp), if_pos (by omega), if_pos (by simp), if_pos (by simp), if_pos (by omega), if_pos (by simp), if_pos (by simp)]
 have e : ior IntKind.i32 (ior IntKind.i32 (IntKind.i32.wrap (List.getD [shk s (3 * t), shk s (3 * t + 1), shk s (3 * t + 2)] 0 0)) (b1X IntKind.i32 (IntKind.i32.wrap (List.getD [shk s (3 * t), shk s (3 * t + 1), shk s (3 * t + 2)] 1 0)) (8:Int))) (b1X IntKind.i32 (IntKind.i32.wrap (b9j IntKind.u8 (List.getD [shk s (3 * t), shk s (3 * t + 1), shk s (3 * t + 2)] 2 0) (127:Int))) (16:Int)) = c2d s t := d5U b0 b1 b2
 rw [e, wt]
 by_cases h : c2d s t < 8380417
 ·rw [if_neg (by omega), if_pos (by omega), if_pos (by omega), if_pos (by omega), Int.toNat_natCast, d0o hL, d1V h, List.length_append, List.length_singleton, b7 (by omega) (by omega)]
  by_cases g : (b3x (b7F s) t).length + 1 < 256
  ·rw [if_neg (by omega), if_pos g]
   rfl
  ·rw [if_pos (by omega), if_neg g]
   have gl : (b3x (b7F s) t ++ [c2d s t]).length = 256 := by rw [List.length_append, List.length_singleton]; omega
   rw [c8y gl, d2e (by omega)]
 ·rw [if_pos (by omega), d3O h, if_pos hL]
  rfl
theorem d2N {s : List Int} {N : Nat} {β : Type} (k : Orj → Option β) : ∀ j t : Nat, t + j = 1024 → (b3x (b7F s) t).length < 256 → ∀ n, j < n →
  E1 (x5 N) n (rjX s t) k = if (b3x (b7F s) 1024).length < 256 then k (.inl (z256, ())) else k (.inr (0, (b3x (b7F s) 1024).take 256, ()))
 | 0, t, h, hL, n, hn => by
  obtain ⟨n, rfl⟩ : ∃ m, n = m + 1 := ⟨n - 1, by omega⟩
  have h : t = 1024 := by omega
  subst h
  rw [if_pos hL]
  simp only [E1]
  unfold x5 rjX
  dsimp only
  rw [if_neg (by omega)]
 | j + 1, t, h, hL, n, hn => by
  obtain ⟨n, rfl⟩ : ∃ m, n = m + 1 := ⟨n - 1, by omega⟩
  simp only [E1]
  rw [d3Y (by omega) hL]
  split
  ·rename_i h2
   exact d2N k j (t + 1) (by omega) h2 n (by omega)
  ·rename_i h2
   obtain ⟨q1, q2⟩ := c9c (f := b7F s) (t := t + 1) (u := 1024) (by omega) (by omega)
   rw [if_neg (by omega), q2]
theorem c3z {l : List Int} (hl : l.length ≤ 4294967000 ∧ ∀ z ∈ l, 0 ≤ z ∧ z ≤ 255) : D4 ([l], ()) = some (true, rA l, 168, 0, 0, ()) := by
 have e := b8P (c7t hl)
 rwa [d4R] at e
theorem c1d : ∀ x r, X9 x = some r → ∃ N, a3x N x = some r := by
 refine c8 (ks := Q3) (rs := Q4) fun x hw hq => ⟨1025, ?_⟩
 obtain ⟨(l : List Int), u⟩ := x
 have hl := a8S.1 hw.1
 unfold a3x d13
 dsimp only
 by_cases h : l.length = 34
 ·rw [if_neg (by omega), if_neg (by omega)]
  rw [c3z ⟨by show l.length ≤ _; omega, hl.2⟩, Option.bind_some]
  have hst : T7 168 (rA l) (3 * 0) = (rA l, 0) := b61 _ (by omega) (by omega)
  have hx : rjX l 0 = ((0 : Int), (0 : Int), z256, z256, true, rA l, 168, 0, 0, ()) := by unfold rjX; rw [hst]; rfl
  show E1 (x5 1025) 1025 ((0 : Int), (0 : Int), z256, z256, true, rA l, 168, 0, 0, ()) _ = _
  rw [← hx]
  refine (d2N _ 1024 0 (by omega) (by show 0 < 256; omega) _ (by omega)).trans ?_
  generalize b3x (b7F l) 1024 = L
  by_cases g : L.length < 256
  ·rw [if_pos g, if_pos g]
  ·rw [if_neg g, if_neg g]
 ·rw [if_pos (by omega), if_pos h]
abbrev Ob := (Int × List Int × Unit) ⊕ (Int × Int × Nat × Int × Int × List Int × List Int × Nat × List Int × Unit)
theorem c3A {l : List Int} {n : Nat} (hn : n ≤ 1048576) (hl : l.length ≤ 4294967000 ∧ ∀ z ∈ l, 0 ≤ z ∧ z ≤ 255) : Y1 (256, (n : Int), [l], ()) = some (a4g 136 31 l n, 0) := by
 have e := c6P (b := 256) (.inr rfl) hn (c7t hl)
 rwa [d4R, if_neg (by omega)] at e
theorem c2c {b : List Int} (h : ∀ z ∈ b, 0 ≤ z ∧ z ≤ 255) (i : Nat) : 0 ≤ b.getD i 0 ∧ b.getD i 0 ≤ 255 := by
 by_cases hi : i < b.length
 ·exact h _ (a57 hi)
 ·rw [b8B (by omega)]; omega
theorem d5e {k : Nat} (h : k ≤ 23) : (2 : Int) ^ k ≤ 8388608 := by
 have : 2 ^ k ≤ 2 ^ 23 := Nat.pow_le_pow_right (by omega) h
 have e : ((2 ^ k : Nat) : Int) = (2 : Int) ^ k := by simp
 omega
theorem d40 {i d n : Nat} (hi : i < n) : i * d + d ≤ n * d := by
 have h : (i + 1) * d ≤ n * d := Nat.mul_le_mul_right d hi
 rwa [Nat.succ_mul] at h
theorem c2a (b : List Int) (t : Nat) : 0 ≤ b8S b t ∧ b8S b t ≤ 1 := c9w _ _
theorem d4f {d : Int} {b : List Int} : a2U [.int .i64, .sl (.int .u8)] (d, b, ()) ↔ (-9223372036854775808 ≤ d ∧ d ≤ 9223372036854775807) ∧ (b.length ≤ maxLen ∧ ∀ z ∈ b, 0 ≤ z ∧ z ≤ 255) := by
 have : Kd.wf (.int .i64) d ↔ -9223372036854775808 ≤ d ∧ d ≤ 9223372036854775807 := j7
 simp only [a2U, a8S, and_true, this]
def d0e (w : Nat) (b : List Int) (i : Nat) : Int := c1r w fun k => b8S b (i * w + k)
theorem d0f {w : Nat} (b : List Int) (i : Nat) (hw : w ≤ 23) : 0 ≤ d0e w b i ∧ d0e w b i < 8388608 := by
 have := c10 (n := w) (c := fun k => b8S b (i * w + k)) fun s _ => c2a b _
 have := d5e hw
 unfold d0e
 omega
theorem set_same {l : List Int} {i : Nat} {v : Int} (h : l.getD i 0 = v) (hi : i < l.length) : l.set i v = l := by
 subst h
 refine rows.ext (by simp) rfl fun j _ => ?_
 by_cases hj : i = j
 ·subst hj; exact a1N hi
 ·exact getD_set_ne hj
theorem c91 {A b : Int} {s : Nat} (hA : 0 ≤ A ∧ A < 2 ^ s) (hb : 0 ≤ b ∧ b ≤ 1) (hs : s ≤ 22) : ior .i32 A (b1X .i32 b (s : Int)) = A + b * 2 ^ s := by
 obtain ⟨m, rfl⟩ := Int.eq_ofNat_of_zero_le hA.1
 obtain ⟨c, rfl⟩ := Int.eq_ofNat_of_zero_le hb.1
 have hc : c ≤ 1 := by omega
 have hm : m < 2 ^ s := by have := hA.2; exact_mod_cast this
 have hp : 2 ^ s ≤ 2 ^ 22 := Nat.pow_le_pow_right (by omega) hs
 have hc2 : c * 2 ^ s ≤ 2 ^ s := by have := Nat.mul_le_mul_right (2 ^ s) hc; omega
 rw [b8D (by omega) (by omega), c5K (by omega) (by omega), c4l hm]
 simp
theorem c1e : ∀ x r, Y0 x = some r → ∃ N, a3y N x = some r := by
 refine c8 (ks := Q5) (rs := Q6) fun x hw hq => ⟨300, ?_⟩
 obtain ⟨(d : Int), (b : List Int), u⟩ := x
 obtain ⟨hd, hb⟩ := d4f.1 hw
 obtain ⟨h0, h1, hl⟩ : 1 ≤ d ∧ d ≤ 23 ∧ (b.length : Int) = 32 * d := hq
 unfold a3y
 dsimp only
 obtain ⟨n, rfl⟩ : ∃ n : Nat, d = n := ⟨d.toNat, by omega⟩
 rw [if_neg (by omega), if_neg (by omega), b7 (by omega) (by omega), if_neg (by omega), Int.toNat_natCast]
 have hn : n ≤ 23 := by omega
 have hZ : z256.length = 256 := List.length_replicate ..
 have hZ0 : ∀ i, z256.getD i 0 = 0 := b1W 256
 show E1 (D8 300) 300 ((n : Int), b.length, (0 : Int), b.length, b, z256, z256, ()) _ = some (c7J n b, 0)
 generalize z256 = Z at hZ hZ0 ⊢
 refine (K3 (F := D8 300) (s := fun i => ((n : Int), b.length, (i : Int), b.length, b, Z, part (d0e n b) i Z, ())) (y := (Z, c7J n b, ())) 256 ?_ ?_ 300 (by omega)).trans ?_
 ·intro i hi kn
  have hpl : (part (d0e n b) i Z).length = 256 := by rw [c0a (by omega), hZ]
  unfold D8
  dsimp only
  rw [if_pos (by omega)]
  refine (j6 (F := J1 300) (s := fun k => ((n : Int), b.length, (i : Int), (i : Int), (n : Int), (k : Int), b.length, b, Z, (part (d0e n b) i Z).set i (c1r k fun k => b8S b (i * n + k)), ()))
   (y := ((n : Int), b.length, (i : Int), b.length, b, Z, part (d0e n b) (i + 1) Z, ())) n ?_ ?_ ?_ 300 (by omega)).trans ?_
  ·rw [set_same (by rw [b46 (Nat.le_refl i), hZ0]; rfl) (by omega)]
   rfl
  ·intro k hk kn
   have hle := d40 (d := n) hi
   have hz := c2c hb.2 ((i * n + k) / 8)
   have hbit := c2a b (i * n + k)
   have em : (i : Int) * n = ((i * n : Nat) : Int) := by simp
   have ea : ((i * n : Nat) : Int) + k = ((i * n + k : Nat) : Int) := by simp
   have ed : ((i * n + k : Nat) : Int) / 8 = (((i * n + k) / 8 : Nat) : Int) := by omega
   have er : ((i * n + k : Nat) : Int) % 8 = (((i * n + k) % 8 : Nat) : Int) := by omega
   have hs := c10 (n := k) (c := fun k => b8S b (i * n + k)) fun s _ => c2a b _
   unfold J1
   dsimp only
   rw [if_pos (by omega), em, b7 (x := ((i * n : Nat) : Int)) (by omega) (by omega), ea, b7 (x := ((i * n + k : Nat) : Int)) (by omega) (by omega), a6u (by omega), b01 (by omega), ed, er,
    b7 (x := (((i * n + k) / 8 : Nat) : Int)) (by omega) (by omega), b7 (by omega) (by omega)]
   simp (disch := omega) only [if_pos, if_neg, Int.toNat_natCast]
   rw [d2z hz.1 hz.2 (by omega), show c7W (b.getD ((i * n + k) / 8) 0) ((i * n + k) % 8) = b8S b (i * n + k) from rfl, a0O (by omega) (by omega), a1N (by omega), List.set_set,
    c91 hs hbit (by omega), Int.natCast_add]
   rfl
  ·intro kn
   unfold J1
   dsimp only
   rw [if_neg (by omega), F6 (h := d0e n b) (i := i) (a := Z) (z := c1r n fun k => b8S b (i * n + k)) (by omega) rfl]
  ·dsimp only
   rw [b7 (by omega) (by omega), Int.natCast_add]
   rfl
 ·intro kn
  unfold D8
  dsimp only
  rw [if_neg (by omega), N9 hZ]
  rfl
 ·rfl
theorem c3B {n : Nat} {b : List Int} (h : 1 ≤ n ∧ n ≤ 23 ∧ b.length = 32 * n) (hb : ∀ z ∈ b, 0 ≤ z ∧ z ≤ 255) : Y0 ((n : Int), b, ()) = some (c7J n b, 0) := by
 have hM : 1000000 ≤ maxLen := by decide
 have := c7 (ks := Q5) (rs := Q6) (x := ((n : Int), b, ())) (Q := fun x => wOk x.1 x.2.1) (f := fun x => (c7J x.1.toNat x.2.1, 0)) (d4f.2 ⟨by omega, by omega, hb⟩) ⟨by show (1 : Int) ≤ n; omega, by show (n : Int) ≤ 23; omega, by show (b.length : Int) = 32 * (n : Int); omega⟩
 exact this
theorem d0U {n : Nat} {b : List Int} {i : Nat} (hi : i < 256) : (c7J n b).getD i 0 = d0e n b i := a0B hi
theorem d2j {n : Nat} (hn : n ≤ 23) (b : List Int) : a2c 256 (c7J n b) := rows.range fun i _ => by have := d0f b i hn; unfold d0e at this; omega
theorem b1O : ∀ x r, O7 x = some r → ∃ N, O8 N x = some r := by
 refine c8 (ks := B5) (rs := T1) fun x hw hq => ⟨0, ?_⟩
 obtain ⟨(z : Int), (t : Int), u⟩ := x
 have h1 : -2147483648 ≤ z ∧ z ≤ 2147483647 := u2.1 hw.1
 have h2 : -2147483648 ≤ t ∧ t ≤ 2147483647 := u2.1 hw.2.1
 obtain ⟨h3, h4⟩ : 0 ≤ z ∧ 0 ≤ t := hq
 unfold O8
 show some (IntKind.i32.wrap (t - z)) = some (t - z)
 rw [a0O (by omega) (by omega)]
theorem b8Q {z t : Int} (h1 : 0 ≤ z ∧ z ≤ 2147483647) (h2 : 0 ≤ t ∧ t ≤ 2147483647) : O7 (z, t, ()) = some (t - z) :=
 c7 (ks := B5) (rs := T1) (x := (z, t, ())) ⟨u2.2 (show _ ≤ z ∧ z ≤ _ by omega), u2.2 (show _ ≤ t ∧ t ≤ _ by omega), trivial⟩ ⟨h1.1, h2.1⟩
theorem a2S : ∀ x r, n8 x = some r → ∃ N, n9 N x = some r := by
 refine c8 (ks := i4) (rs := i5) fun x hw hq => ⟨300, ?_⟩
 obtain ⟨(a : List Int), (t : Int), u⟩ := x
 have ha : a2c 256 a := Y3.1 hw.1
 have h2 : -2147483648 ≤ t ∧ t ≤ 2147483647 := u2.1 hw.2.1
 obtain ⟨h3, h4⟩ : (∀ z ∈ a, 0 ≤ z) ∧ 0 ≤ t := hq
 unfold n9
 refine (K3 (F := i3 300) (s := fun i => (a, (i : Int), [t], part (fun i => t - a.getD i 0) i a, z256, ())) (y := (x7 fun i => t - a.getD i 0, z256, ())) 256 ?_ ?_ 300 (by omega)).trans ?_
 ·intro i hi kn
  have hz := a9Q ha i
  have hz0 : 0 ≤ a.getD i 0 := h3 _ (a57 (by rw [ha.1]; exact hi))
  unfold i3
  dsimp only
  rw [if_pos (by omega), if_pos (by omega), if_pos (by omega), if_pos (by omega), Int.toNat_natCast]
  refine (congrArg (fun o => Option.bind o _) (b8Q ⟨hz0, hz.2⟩ ⟨h4, h2.2⟩)).trans ?_
  rw [Option.bind_some, if_pos (by omega), if_pos (by omega), if_pos (by omega), b7 (by omega) (by omega), F6 (h := fun i => t - a.getD i 0) (by rw [ha.1]; exact hi) rfl]
  rfl
 ·intro kn
  unfold i3
  dsimp only
  rw [if_neg (by omega), N9 ha.1]
  rfl
 ·rfl
theorem d3c {a : List Int} {t : Int} (ha : a2c 256 a) (h : ∀ z ∈ a, 0 ≤ z) (h2 : 0 ≤ t ∧ t ≤ 2147483647) : n8 (a, t, ()) = some (x7 fun i => t - a.getD i 0) :=
 c7 (ks := i4) (rs := i5) (x := (a, t, ())) ⟨Y3.2 ha, u2.2 (show _ ≤ t ∧ t ≤ _ by omega), trivial⟩ ⟨h, h2.1⟩
theorem d4b (t : Int) (n : Nat) (b : List Int) : (x7 fun i => t - (c7J n b).getD i 0) = a8R t n b := by
 unfold a8R x7
 exact List.map_congr_left fun i hi => by rw [d0U (List.mem_range.1 hi)]; rfl
theorem d2X {t d : Int} {b : List Int} : a2U [.int .i32, .int .i64, .sl (.int .u8)] (t, d, b, ()) ↔ (-2147483648 ≤ t ∧ t ≤ 2147483647) ∧ (-9223372036854775808 ≤ d ∧ d ≤ 9223372036854775807) ∧ (b.length ≤ maxLen ∧ ∀ z ∈ b, 0 ≤ z ∧ z ≤ 255) := by
 have : Kd.wf (.int .i64) d ↔ -9223372036854775808 ≤ d ∧ d ≤ 9223372036854775807 := j7
 have h2 : Kd.wf (.int .i32) t ↔ -2147483648 ≤ t ∧ t ≤ 2147483647 := u2
 simp only [a2U, a8S, and_true, this, h2]
theorem b5b : ∀ x r, L8 x = some r → ∃ N, Y7 N x = some r := by
 refine c8 (ks := F0) (rs := F1) fun x hw hq => ⟨0, ?_⟩
 obtain ⟨(t : Int), (d : Int), (b : List Int), u⟩ := x
 obtain ⟨ht, hd, hb⟩ := d2X.1 hw
 obtain ⟨⟨ht0, ht1⟩, h0, h1, hl⟩ : (0 ≤ t ∧ t < 8380417) ∧ 1 ≤ d ∧ d ≤ 23 ∧ (b.length : Int) = 32 * d := hq
 obtain ⟨n, rfl⟩ : ∃ n : Nat, d = n := ⟨d.toNat, by omega⟩
 unfold Y7
 dsimp only
 rw [c3B ⟨by omega, by omega, by omega⟩ hb.2, Option.bind_some, if_neg (by simp), if_neg (by omega), if_neg (by omega)]
 have hn : n ≤ 23 := by omega
 refine (congrArg (fun o => Option.bind o _) (d3c (t := t) (d2j hn b) (fun z hz => by obtain ⟨i, _, rfl⟩ := List.mem_map.1 hz; exact (d0f b i hn).1) ⟨ht0, by omega⟩)).trans ?_
 rw [Option.bind_some, d4b, Int.toNat_natCast]
theorem c17 {n : Nat} {t : Int} {b : List Int} (ht : 0 ≤ t ∧ t < 8380417) (h : 1 ≤ n ∧ n ≤ 23 ∧ b.length = 32 * n) (hb : ∀ z ∈ b, 0 ≤ z ∧ z ≤ 255) : L8 (t, (n : Int), b, ()) = some (a8R t n b, 0) := by
 have hM : 1000000 ≤ maxLen := by decide
 have := c7 (ks := F0) (rs := F1) (x := (t, (n : Int), b, ())) (Q := fun x => (0 ≤ x.1 ∧ x.1 < 8380417) ∧ wOk x.2.1 x.2.2.1) (f := fun x => (a8R x.1 x.2.1.toNat x.2.2.1, 0)) (d2X.2 ⟨by omega, by omega, by omega, hb⟩) ⟨ht, by show (1 : Int) ≤ n; omega, by show (n : Int) ≤ 23; omega, by show (b.length : Int) = 32 * (n : Int); omega⟩
 exact this
end Go.Ax.TryP
set_option linter.unusedVariables false
set_option maxRecDepth 4000
namespace Go.Ax.TryP
open Go.Proofs
abbrev d34 (s : List Int) : List Int := a4g 136 31 s 1032
theorem c3e {s : List Int} {p : Nat} (h : p < 1032) : (d34 s).getD p 0 = shb s p := d19 h
theorem d0A {s : List Int} {i : Nat} : ∀ j at', at' ≤ 1032 → 1032 - at' ≤ j → at' ≤ a4M s i j at' ∧ a4M s i j at' ≤ 1032 ∧ (a4M s i j at' < 1032 → shb s (a4M s i j at') ≤ i)
 | 0, at', h1, h2 => by
  have e : at' = 1032 := by omega
  subst e
  exact ⟨Nat.le_refl _, Nat.le_refl _, fun h => absurd h (by simp [a4M])⟩
 | j + 1, at', h1, h2 => by
  unfold a4M
  by_cases h : at' < 1032 ∧ (i : Int) < shb s at'
  ·rw [if_pos h]
   obtain ⟨a, b, c⟩ := d0A (s := s) (i := i) j (at' + 1) (by omega) (by omega)
   exact ⟨by omega, b, c⟩
  ·rw [if_neg h]
   exact ⟨Nat.le_refl _, h1, fun h3 => by omega⟩
abbrev Id1 := Int × Nat × Nat × Nat × Int × Int × List Int × List Int × Nat × List Int × Unit
def bdX (tau : Int) (s : List Int) (p i : Nat) (c : List Int) : Id1 := (tau, 1024, 1024, 1032, ((p - 8 : Nat) : Int), (i : Int), z256, c, 1032, d34 s, ())
theorem c9s {tau : Int} {s : List Int} {i : Nat} {c : List Int} {N : Nat} {β : Type} (K : Id1 → Option β) : ∀ j p, 8 ≤ p → p ≤ 1032 → 1032 - p ≤ j → ∀ n, j < n →
  E1 (M7 N) n (bdX tau s p i c) K = K (bdX tau s (a4M s i j p) i c)
 | j, p, h0, h1, h2, n, hn => by
  obtain ⟨n, rfl⟩ : ∃ m, n = m + 1 := ⟨n - 1, by omega⟩
  simp only [E1]
  by_cases hp : p < 1032
  ·obtain ⟨j, rfl⟩ : ∃ i, j = i + 1 := ⟨j - 1, by omega⟩
   have hs := d32 s p
   have e : (d34 s).getD (8 + (p - 8)) 0 = shb s p := by rw [show 8 + (p - 8) = p by omega]; exact c3e hp
   have ew : IntKind.i64.wrap (((p - 8 : Nat) : Int) + 1) = ((p + 1 - 8 : Nat) : Int) := by rw [b7 (by omega) (by omega)]; omega
   unfold M7
   rw [show a4M s i (j + 1) p = if p < 1032 ∧ (i : Int) < shb s p then a4M s i j (p + 1) else p from rfl]
   unfold bdX
   dsimp only
   rw [if_pos (by omega), if_pos (by omega), if_pos (by omega), Int.toNat_natCast, if_pos (by omega), e, b7 (x := shb s p) (by omega) (by omega)]
   by_cases h : (i : Int) < shb s p
   ·rw [if_pos h, if_pos ⟨hp, h⟩, ew]
    exact c9s (N := N) K j (p + 1) (by omega) (by omega) (by omega) n (by omega)
   ·rw [if_neg (by omega), if_neg (by omega)]
  ·have e : a4M s i j p = p := by
    cases j with
    | zero => rfl
    | succ j => unfold a4M; rw [if_neg (by omega)]
   rw [e]
   unfold M7 bdX
   dsimp only
   rw [if_neg (by omega)]
theorem c3K {tau : Nat} {s : List Int} {k : Nat} (h : b5B tau s k = none) : ∀ d, b5B tau s (k + d) = none
 | 0 => h
 | d + 1 => by rw [← Nat.add_assoc, b5B, c3K h d]
abbrev Ok1 := (List Int × Unit) ⊕ (Int × List Int × Unit)
theorem d3k {tau : Nat} (ht : tau ≤ 64) {s : List Int} {k p : Nat} (hk : k < tau) {c : List Int} (hp : 8 ≤ p ∧ p ≤ 1032) {N : Nat} (hN : 1032 < N) {β : Type} (kn : Id1 → Option β) (ke : Ok1 → Option β) :
  F8 N β (bdX tau s p (256 - tau + k) c) kn ke
  = if a4M s (256 - tau + k) 1032 p = 1032 then ke (.inl (z256, ())) else
   if k + 1 = tau then ke (.inr (0, c3J s k (256 - tau + k) (a4M s (256 - tau + k) 1032 p) c, ())) else kn (bdX tau s (a4M s (256 - tau + k) 1032 p + 1) (256 - tau + (k + 1)) (c3J s k (256 - tau + k) (a4M s (256 - tau + k) 1032 p) c)) := by
 obtain ⟨a1, a2, a3⟩ := d0A (s := s) (i := 256 - tau + k) 1032 p hp.2 (by omega)
 unfold F8
 have hi : (bdX tau s p (256 - tau + k) c).2.2.2.2.2.1 = ((256 - tau + k : Nat) : Int) := rfl
 rw [hi, if_pos (by omega)]
 refine (c9s (N := N) _ 1032 p hp.1 hp.2 (by omega) N hN).trans ?_
 generalize a4M s (256 - tau + k) 1032 p = r at a1 a2 a3
 unfold bdX
 dsimp only
 by_cases hr : r = 1032
 ·subst hr
  rw [if_pos (by omega), if_pos rfl]
 ·have hs := d32 s r
  have hs2 := a3 (by omega)
  have hk8 := d32 s (k / 8)
  have e : (d34 s).getD (8 + (r - 8)) 0 = shb s r := by rw [show 8 + (r - 8) = r by omega]; exact c3e (by omega)
  have e8 : (d34 s).getD (k / 8) 0 = shb s (k / 8) := c3e (by omega)
  have ek : IntKind.i64.wrap (IntKind.i64.wrap (((256 - tau + k : Nat) : Int) + tau) - 256) = (k : Int) := by rw [b7 (x := ((256 - tau + k : Nat) : Int) + tau) (by omega) (by omega), b7 (by omega) (by omega)]; omega
  have ed : IntKind.i64.wrap (Int.tdiv (k : Int) 8) = ((k / 8 : Nat) : Int) := by rw [a6u (by omega), b7 (by omega) (by omega)]; omega
  have em : Int.tmod (k : Int) 8 = ((k % 8 : Nat) : Int) := by rw [b01 (by omega)]; omega
  have w1 : IntKind.i64.wrap (((r - 8 : Nat) : Int) + 1) = ((r + 1 - 8 : Nat) : Int) := by rw [b7 (by omega) (by omega)]; omega
  have w2 : IntKind.i64.wrap (((256 - tau + k : Nat) : Int) + 1) = ((256 - tau + (k + 1) : Nat) : Int) := by rw [b7 (by omega) (by omega)]; omega
  rw [if_neg (by omega), if_pos (by omega), if_pos (by omega), if_neg hr]
  simp only [Int.toNat_natCast, ek, ed, em, e, e8, w1, w2]
  rw [if_pos (by omega), if_pos (by omega), if_pos (by omega), if_pos (by omega), if_pos (by omega), if_pos (by omega), if_pos (by omega), if_pos (by omega), if_pos (by omega), if_pos (by omega), if_pos (by omega), if_pos (by omega), if_pos (by omega), if_neg (by omega)]
  rw [d2z hk8.1 hk8.2 (by omega)]
  unfold c3J
  by_cases hb : c7W (shb s (k / 8)) (k % 8) = 1
  ·rw [if_pos hb, if_pos hs.1, if_pos (by omega), if_pos (by omega), if_pos hb, List.set_set]
   by_cases h2 : k + 1 = tau
   ·rw [if_pos (by omega), if_pos h2]
   ·rw [if_neg (by omega), if_neg h2]
  ·rw [if_neg hb, if_neg hb]
   by_cases h2 : k + 1 = tau
   ·rw [if_pos (by omega), if_pos h2]
   ·rw [if_neg (by omega), if_neg h2]
def d5R {β : Type} (o : Option (List Int × Nat)) (f : Option β) (g : List Int → Option β) : Option β := match o with
 | none => f
 | some (c, _) => g c
theorem d2y {tau : Nat} (ht : tau ≤ 64) {s : List Int} {N : Nat} (hN : 1032 < N) {β : Type} (K : Ok1 → Option β) : ∀ j k p c, k + (j + 1) = tau → b5B tau s k = some (c, p) → 8 ≤ p ∧ p ≤ 1032 → ∀ n, j < n →
  E1 (F8 N) n (bdX tau s p (256 - tau + k) c) K = d5R (b5B tau s tau) (K (.inl (z256, ()))) fun c => K (.inr (0, c, ()))
 | j, k, p, c, h, hb, hp, n, hn => by
  obtain ⟨n, rfl⟩ : ∃ m, n = m + 1 := ⟨n - 1, by omega⟩
  simp only [E1]
  obtain ⟨a1, a2, a3⟩ := d0A (s := s) (i := 256 - tau + k) 1032 p hp.2 (by omega)
  have e1 : b5B tau s (k + 1) = if a4M s (256 - tau + k) 1032 p = 1032 then none else some (c3J s k (256 - tau + k) (a4M s (256 - tau + k) 1032 p) c, a4M s (256 - tau + k) 1032 p + 1) := by rw [b5B, hb]
  rw [d3k ht (by omega) hp hN]
  by_cases hr : a4M s (256 - tau + k) 1032 p = 1032
  ·rw [if_pos hr] at e1 ⊢
   have := c3K e1 j
   rw [show k + 1 + j = tau by omega] at this
   rw [this]
   rfl
  ·rw [if_neg hr] at e1 ⊢
   by_cases h2 : k + 1 = tau
   ·rw [if_pos h2]
    rw [h2] at e1
    rw [e1]
    rfl
   ·rw [if_neg h2]
    obtain ⟨j, rfl⟩ : ∃ i, j = i + 1 := ⟨j - 1, by omega⟩
    exact d2y ht hN K j (k + 1) _ _ (by omega) e1 (by omega) n (by omega)
theorem c4y : ∀ x r, a51 x = some r → ∃ N, a6b N x = some r := by
 refine c8 (ks := a0h) (rs := a0i) fun x hw hq => ⟨1133, ?_⟩
 obtain ⟨(tau : Int), (l : List Int), u⟩ := x
 obtain ⟨hd, hl⟩ := d4f.1 hw
 have hq : l.length ≤ 1000 := hq
 unfold a6b b8R
 dsimp only
 by_cases h1 : tau < 1
 ·rw [if_pos h1, if_pos (.inl h1)]
 by_cases h2 : 64 < tau
 ·rw [if_neg h1, if_pos h2, if_pos (.inr h2)]
 rw [if_neg h1, if_neg h2, if_neg (by omega : ¬(tau < 1 ∨ 64 < tau))]
 refine (congrArg (fun o => Option.bind o _) (c3A (l := l) (n := 1032) (by omega) ⟨by omega, hl.2⟩)).trans ?_
 rw [Option.bind_some, if_neg (by simp)]
 dsimp only
 rw [d0D, if_pos (by omega), if_pos (by omega), b7 (by omega) (by omega)]
 obtain ⟨n, rfl⟩ : ∃ n : Nat, tau = n := ⟨tau.toNat, by omega⟩
 have hx : ((n : Int), 1032 - 8, 1032 - 8, 1032, (0 : Int), (256 : Int) - n, z256, z256, 1032, d34 l, ()) = bdX n l 8 (256 - n + 0) z256 := by
  unfold bdX
  rw [show ((256 - n + 0 : Nat) : Int) = 256 - (n : Int) by omega]
  rfl
 show E1 (F8 1133) (100 + 1033) ((n : Int), 1032 - 8, 1032 - 8, 1032, (0 : Int), (256 : Int) - n, z256, z256, 1032, d34 l, ()) _ = _
 rw [hx, Int.toNat_natCast]
 refine (d2y (tau := n) (by omega) (N := 1133) (by omega) _ (n - 1) 0 8 z256 (by omega) rfl ⟨by omega, by omega⟩ _ (by omega)).trans ?_
 cases b5B n l n with
 | none => rfl
 | some v => rfl
end Go.Ax.TryP
set_option linter.unusedVariables false
namespace Go.Ax.TryP
open Go.Proofs
abbrev Op := (Int × Unit) ⊕ (Nat × Int × Nat × Int × Int × Int × Int × Nat × List Int × Nat × List Int × Unit)
theorem d5x {a b : List Int} : a2U [.sl (.int .u8), .sl (.int .u8)] (a, b, ()) ↔ (a.length ≤ maxLen ∧ ∀ z ∈ a, 0 ≤ z ∧ z ≤ 255) ∧ (b.length ≤ maxLen ∧ ∀ z ∈ b, 0 ≤ z ∧ z ≤ 255) := by simp only [a2U, a8S, and_true]
theorem c2X : ∀ x r, a2l x = some r → ∃ N, a4F N x = some r := by
 refine c8 (ks := X5) (rs := a4e) fun x hw hq => ⟨0, ?_⟩
 obtain ⟨(a : List Int), (b : List Int), u⟩ := x
 obtain ⟨ha, hb⟩ := d5x.1 hw
 unfold a4F
 exact congrArg some (c5v ha.2 hb.2)
theorem d1c {a b : List Int} (ha : a.length ≤ 1000000 ∧ ∀ z ∈ a, 0 ≤ z ∧ z ≤ 255) (hb : b.length ≤ 1000000 ∧ ∀ z ∈ b, 0 ≤ z ∧ z ≤ 255) : a2l (a, b, ()) = some (decide (a = b)) := by
 have hM : 1000000 ≤ maxLen := by decide
 exact c7 (ks := X5) (rs := a4e) (x := (a, b, ())) (d5x.2 ⟨⟨by omega, ha.2⟩, by omega, hb.2⟩) trivial
open Classical
theorem d4D {b : List Int} (h : ∀ z ∈ b, 0 ≤ z ∧ z ≤ 255) (i : Nat) : 0 ≤ b.getD i 0 ∧ b.getD i 0 ≤ 255 := by
 by_cases hi : i < b.length
 ·exact h _ (a57 hi)
 ·rw [b8B (by omega)]; omega
abbrev Ou := (Int × Unit) ⊕ (Int × Nat × Nat × Int × Int × Int × Nat × List Int × Nat × List Int × Unit)
theorem d4a {b h : List Int} {n m k a e : Nat} (hb : ∀ z ∈ b, 0 ≤ z ∧ z ≤ 255) (hl : b.length = m + n) (hm : m ≤ 255) (hn : n ≤ 16) (hk : k < n) (he : e ≤ m) {nI : Int} {N : Nat} {β : Type} (K : Ou → Option β) : ∀ j i, i + j = e → a ≤ i → d1D b a i → ∀ q, j < q →
  E1 (v0 N) q ((m : Int), b.length, n, (a : Int), (k : Int), (e : Int), (i : Int), nI, (k : Int), b.length, b, n * 256, b3V b k a h (i - a), ()) K
  = if d1D b a e then K (.inr ((m : Int), b.length, n, (e : Int), nI, (k : Int), b.length, b, n * 256, b3V b k a h (e - a), ())) else K (.inl (150, ()))
 | 0, i, hi, ha, hg, q, hq => by
  obtain ⟨q, rfl⟩ : ∃ m, q = m + 1 := ⟨q - 1, by omega⟩
  have hi : i = e := by omega
  subst hi
  rw [if_pos hg]
  simp only [E1]
  unfold v0
  dsimp only
  rw [if_neg (by omega)]
 | j + 1, i, hi, ha, hg, q, hq => by
  obtain ⟨q, rfl⟩ : ∃ m, q = m + 1 := ⟨q - 1, by omega⟩
  have b0 := d4D hb i
  have em : (b3V b k a h (i - a)).set (k * 256 + (b.getD i 0).toNat) 1 = b3V b k a h (i + 1 - a) := by
   rw [show i + 1 - a = (i - a) + 1 by omega, b3V, show a + (i - a) = i by omega]
  simp only [E1]
  unfold v0
  dsimp only
  rw [if_pos (by omega)]
  by_cases g : (a : Int) < i
  ·have ew : IntKind.i64.wrap ((i : Int) - 1) = ((i - 1 : Nat) : Int) := by rw [b7 (by omega) (by omega)]; omega
   rw [if_pos g, if_pos (by omega), if_pos (by omega), ew, Int.toNat_natCast, Int.toNat_natCast, Int.toNat_natCast, if_pos (by omega), if_pos (by omega), if_pos (by omega), if_pos (by omega)]
   by_cases c : b.getD i 0 ≤ b.getD (i - 1) 0
   ·rw [if_pos c, if_neg ?_]
    intro h2
    have := h2 i (by omega) (by omega)
    omega
   ·rw [if_neg c, if_pos (by omega), if_pos (by omega), if_pos (by omega), if_pos (by omega), if_pos (by omega), if_pos b0.1, if_pos (by omega), if_pos (by omega), b7 (by omega) (by omega), em]
    refine d4a (N := N) hb hl hm hn hk he K j (i + 1) (by omega) (by omega) ?_ q (by omega)
    intro i2 h1 h2
    by_cases h3 : i2 = i
    ·subst h3; omega
    ·exact hg i2 h1 (by omega)
  ·rw [if_neg g, if_pos (by omega), if_pos (by omega), Int.toNat_natCast, Int.toNat_natCast, if_pos (by omega), if_pos (by omega), if_pos (by omega), if_pos b0.1, if_pos (by omega), if_pos (by omega), b7 (by omega) (by omega), em]
   exact d4a (N := N) hb hl hm hn hk he K j (i + 1) (by omega) (by omega) (fun i2 h1 h2 => by omega) q (by omega)
abbrev Ov := (Int × Unit) ⊕ (Int × Nat × Nat × Int × Nat × List Int × Nat × List Int × Unit)
theorem d2W {b h : List Int} {n m : Nat} (hb : ∀ z ∈ b, 0 ≤ z ∧ z ≤ 255) (hl : b.length = m + n) (hm : m ≤ 255) (hn : n ≤ 16) {N : Nat} (hN : 300 < N) {β : Type} (K : Ov → Option β) : ∀ j k, k + j = n → b2m b m k ≤ m → okR b m k → okG b m k → ∀ q, j < q →
  E1 (n5 N) q ((m : Int), b.length, n, (b2m b m k : Int), (n : Int), (k : Int), b.length, b, n * 256, b2x b m h k, ()) K
  = if okR b m n ∧ okG b m n then K (.inr ((m : Int), b.length, n, (b2m b m n : Int), b.length, b, n * 256, b2x b m h n, ())) else K (.inl (150, ()))
 | 0, k, hk, hc, hr, hg, q, hq => by
  obtain ⟨q, rfl⟩ : ∃ m, q = m + 1 := ⟨q - 1, by omega⟩
  have hk : k = n := by omega
  subst hk
  rw [if_pos ⟨hr, hg⟩]
  simp only [E1]
  unfold n5
  dsimp only
  rw [if_neg (by omega)]
 | j + 1, k, hk, hc, hr, hg, q, hq => by
  obtain ⟨q, rfl⟩ : ∃ m, q = m + 1 := ⟨q - 1, by omega⟩
  have b0 := d4D hb (m + k)
  have ew : IntKind.i64.wrap ((m : Int) + k) = ((m + k : Nat) : Int) := by rw [b7 (by omega) (by omega)]; omega
  have ec : b.getD (m + k) 0 = (b2m b m (k + 1) : Int) := by
   show _ = (((b.getD (m + k) 0).toNat : Nat) : Int)
   omega
  simp only [E1]
  unfold n5
  dsimp only
  rw [if_pos (by omega), ew, if_pos (by omega), if_pos (by omega), Int.toNat_natCast, if_pos (by omega), b7 (x := b.getD (m + k) 0) (by omega) (by omega), ec]
  by_cases c1 : (b2m b m (k + 1) : Int) < b2m b m k
  ·rw [if_pos c1, if_neg ?_]
   intro h2
   have := h2.1 k (by omega)
   omega
  rw [if_neg c1]
  by_cases c2 : (m : Int) < b2m b m (k + 1)
  ·rw [if_pos c2, if_neg ?_]
   intro h2
   have := h2.1 k (by omega)
   omega
  rw [if_neg c2]
  have e0 : b2x b m h k = b3V b k (b2m b m k) (b2x b m h k) (b2m b m k - b2m b m k) := by rw [Nat.sub_self]; rfl
  have := d4a (N := N) (b := b) (h := b2x b m h k) (n := n) (m := m) (k := k) (a := b2m b m k) (e := b2m b m (k + 1)) (nI := (n : Int)) hb hl hm hn (by omega) (by omega) (fun y => match y with
    | .inl y1 => (
     K (.inl (y1.1, ())))
    | .inr y2 => (
     E1 (n5 N) q (y2.1, y2.2.1, y2.2.2.1, y2.2.2.2.1, y2.2.2.2.2.1, (IntKind.i64.wrap (y2.2.2.2.2.2.1 + (1:Int))), y2.2.2.2.2.2.2.1, y2.2.2.2.2.2.2.2.1, y2.2.2.2.2.2.2.2.2.1, y2.2.2.2.2.2.2.2.2.2.1, ()) K)) (b2m b m (k + 1) - b2m b m k) (b2m b m k) (by omega) (Nat.le_refl _) (fun i2 h1 h2 => by omega) N (by omega)
  rw [← e0] at this
  refine this.trans ?_
  clear this
  by_cases g : d1D b (b2m b m k) (b2m b m (k + 1))
  ·rw [if_pos g]
   dsimp only
   rw [b7 (by omega) (by omega)]
   refine d2W hb hl hm hn hN K j (k + 1) (by omega) (by omega) ?_ ?_ q (by omega)
   ·intro k2 h2
    by_cases h3 : k2 = k
    ·subst h3; omega
    ·exact hr k2 (by omega)
   ·intro k2 h2
    by_cases h3 : k2 = k
    ·subst h3; exact g
    ·exact hg k2 (by omega)
  ·rw [if_neg g, if_neg ?_]
   intro h2
   exact g (h2.2 k (by omega))
abbrev Ow := (Int × Unit) ⊕ (Nat × Nat × List Int × Unit)
theorem d0S {b h : List Int} {n m a : Nat} (hl : b.length = m + n) (hm : m ≤ 255) (ha : a ≤ m) {L : Nat} {N : Nat} {β : Type} (K : Ow → Option β) : ∀ j i, a + i + j = m → (∀ i2, a ≤ i2 → i2 < a + i → b.getD i2 0 = 0) → ∀ q, j < q →
  E1 (w5 N) q (n, a, m - a, L, ((m - a : Nat) : Int), (i : Int), n * 256, h, b.length, b, ()) K
  = if ∀ i2, a ≤ i2 → i2 < m → b.getD i2 0 = 0 then K (.inr (n, n * 256, h, ())) else K (.inl (150, ()))
 | 0, i, hi, hz, q, hq => by
  obtain ⟨q, rfl⟩ : ∃ m, q = m + 1 := ⟨q - 1, by omega⟩
  rw [if_pos (fun i2 h1 h2 => hz i2 h1 (by omega))]
  simp only [E1]
  unfold w5
  dsimp only
  rw [if_neg (by omega)]
 | j + 1, i, hi, hz, q, hq => by
  obtain ⟨q, rfl⟩ : ∃ m, q = m + 1 := ⟨q - 1, by omega⟩
  simp only [E1]
  unfold w5
  dsimp only
  have ea : c0I a i = a + i := a1L a i
  rw [if_pos (by omega), if_pos (by omega), if_pos (by omega), Int.toNat_natCast, ea, if_pos (by omega), b7 (by omega) (by omega)]
  by_cases c : b.getD (a + i) 0 ≠ 0
  ·rw [if_pos c, if_neg ?_]
   exact fun h2 => c (h2 (a + i) (by omega) (by omega))
  ·rw [if_neg c]
   refine d0S (N := N) hl hm ha K j (i + 1) (by omega) ?_ q (by omega)
   intro i2 h1 h2
   by_cases h3 : i2 = a + i
   ·subst h3; omega
   ·exact hz i2 h1 (by omega)
theorem d4J {b : List Int} {m : Nat} : ∀ {n : Nat}, okR b m n → b2m b m n ≤ m
 | 0, _ => Nat.zero_le _
 | n + 1, h => (h n (by omega)).2
theorem d5z {n m : Int} {b : List Int} : a2U [.int .i64, .int .i64, .sl (.int .u8)] (n, m, b, ()) ↔ (-9223372036854775808 ≤ n ∧ n ≤ 9223372036854775807) ∧ (-9223372036854775808 ≤ m ∧ m ≤ 9223372036854775807) ∧ (b.length ≤ maxLen ∧ ∀ z ∈ b, 0 ≤ z ∧ z ≤ 255) := by
 have : Kd.wf (.int .i64) n ↔ -9223372036854775808 ≤ n ∧ n ≤ 9223372036854775807 := j7
 have h2 : Kd.wf (.int .i64) m ↔ -9223372036854775808 ≤ m ∧ m ≤ 9223372036854775807 := j7
 simp only [a2U, a8S, and_true, this, h2]
theorem b3n : ∀ x r, I4 x = some r → ∃ N, T2 N x = some r := by
 refine c8 (ks := C8) (rs := C9) fun x hw hq => ⟨400, ?_⟩
 obtain ⟨(n : Int), (most : Int), (b : List Int), u⟩ := x
 obtain ⟨h1, h2, hb⟩ := d5z.1 hw
 unfold T2 b0J
 dsimp only
 by_cases c1 : n < 0
 ·rw [if_pos c1, if_pos (.inl (.inl c1))]
 rw [if_neg c1]
 by_cases c2 : 16 < n
 ·rw [if_pos c2, if_pos (.inl (.inr c2))]
 rw [if_neg c2]
 by_cases c3 : most < 0
 ·rw [if_pos c3, if_pos (.inr (.inl (.inl c3)))]
 rw [if_neg c3]
 by_cases c4 : 255 < most
 ·rw [if_pos c4, if_pos (.inr (.inl (.inr c4)))]
 rw [if_neg c4, b7 (by omega) (by omega)]
 by_cases c5 : (b.length : Int) ≠ most + n
 ·rw [if_pos c5, if_pos (.inr (.inr c5))]
 rw [if_neg c5, if_neg (by omega : ¬((n < 0 ∨ 16 < n) ∨ (most < 0 ∨ 255 < most) ∨ (b.length : Int) ≠ most + n)), if_pos (by omega), if_pos rfl, if_pos (by omega)]
 obtain ⟨m, rfl⟩ : ∃ m : Nat, most = m := ⟨most.toNat, by omega⟩
 obtain ⟨n, rfl⟩ : ∃ m : Nat, n = m := ⟨n.toNat, by omega⟩
 rw [Int.toNat_natCast, Int.toNat_natCast]
 have hl : b.length = m + n := by omega
 refine (d2W hb.2 hl (by omega) (by omega) (N := 400) (by omega) _ n 0 (by omega) (Nat.zero_le _) (fun k hk => by omega) (fun k hk => by omega) 400 (by omega)).trans ?_
 by_cases h : okR b m n ∧ okG b m n
 ·have hc := d4J h.1
  rw [if_pos h]
  dsimp only
  rw [if_pos (by omega), if_pos (by omega), if_pos (by omega), Int.toNat_natCast, Int.toNat_natCast, if_pos (by omega)]
  have es : c6x m (b2m b m n) = m - b2m b m n := R8 _ _
  rw [es]
  refine (d0S (N := 400) hl (by omega) hc _ (m - b2m b m n) 0 (by omega) (fun i2 h1 h2 => by omega) 400 (by omega)).trans ?_
  by_cases hz : ∀ i2, b2m b m n ≤ i2 → i2 < m → b.getD i2 0 = 0
  ·rw [if_pos hz, if_pos ⟨h.1, h.2, hz⟩]
  ·rw [if_neg hz, if_neg (fun g => hz g.2.2)]
 ·rw [if_neg h, if_neg (fun g => h ⟨g.1, g.2.1⟩)]
theorem b3W (b : List Int) (k a : Nat) (h : List Int) : ∀ j, (b3V b k a h j).length = h.length
 | 0 => rfl
 | j + 1 => by rw [b3V, List.length_set, b3W b k a h j]
theorem c33 (b : List Int) (m : Nat) (h : List Int) : ∀ k, (b2x b m h k).length = h.length
 | 0 => rfl
 | k + 1 => by rw [b2x, b3W, c33 b m h k]
theorem c7g {b : List Int} {k a : Nat} {h : List Int} (h0 : ∀ i, h.getD i 0 = 0 ∨ h.getD i 0 = 1) : ∀ j i, (b3V b k a h j).getD i 0 = 0 ∨ (b3V b k a h j).getD i 0 = 1
 | 0, i => h0 i
 | j + 1, i => by
  by_cases e : k * 256 + (b.getD (a + j) 0).toNat = i ∧ i < h.length
  ·rw [b3V, e.1, a1N (by rw [b3W]; exact e.2)]
   exact .inr rfl
  ·by_cases e2 : k * 256 + (b.getD (a + j) 0).toNat = i
   ·rw [b8B (by rw [b3W]; omega)]
    exact .inl rfl
   ·rw [b3V, getD_set_ne e2]
    exact c7g h0 j i
theorem c7a {b : List Int} {m : Nat} {h : List Int} (h0 : ∀ i, h.getD i 0 = 0 ∨ h.getD i 0 = 1) : ∀ k i, (b2x b m h k).getD i 0 = 0 ∨ (b2x b m h k).getD i 0 = 1
 | 0, i => h0 i
 | k + 1, i => by rw [b2x]; exact c7g (c7a h0 k) _ i
end Go.Ax.TryP
