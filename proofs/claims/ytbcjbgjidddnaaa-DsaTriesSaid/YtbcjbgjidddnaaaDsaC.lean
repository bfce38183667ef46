/- A part of the proof: DeS, DeP, DeQ, DeQ2, DeQ3. -/
import Derived.Test.YtbcjbgjidddnaaaDsaB
set_option linter.unusedVariables false
namespace Go.Ax.TryP
open Go.Proofs
def c2p (s : List Int) (t : Nat) : Int := shk s (3 * t) + 256 * shk s (3 * t + 1) + 65536 * (shk s (3 * t + 2) % 128)
def b1C (s : List Int) (t : Nat) : List Int := if c2p s t < 8380417 then [c2p s t] else []
def a1k (f : Nat → List Int) : Nat → List Int
 | 0 => []
 | t + 1 => a1k f t ++ f t
@[irreducible] def d2R (s : List Int) : List Int × Int := if s.length ≠ 34 then (z256, 1) else if (a1k (b1C s) 1024).length < 256 then (z256, 130) else ((a1k (b1C s) 1024).take 256, 0)
def a8v (s : List Int) (t : Nat) : Int := if t % 2 = 0 then shb s (t / 2) % 16 else shb s (t / 2) / 16
def d5z (eta h : Int) : List Int := if eta = 2 then (if h < 15 then [(2 - h % 5) % 8380417] else []) else (if h < 9 then [(4 - h) % 8380417] else [])
def a5A (eta : Int) (s : List Int) (t : Nat) : List Int := d5z eta (a8v s t)
@[irreducible] def c8O (eta : Int) (s : List Int) : List Int × Int := if (eta ≠ 2 ∧ eta ≠ 4) ∨ s.length ≠ 66 then (z256, 1) else if (a1k (a5A eta s) 2048).length < 256 then (z256, 130) else ((a1k (a5A eta s) 2048).take 256, 0)
def c9U (w : Nat) (b : List Int) : List Int := p9 fun i => c27 w fun k => b7j b (i * w + k)
def a2j (top : Int) (w : Nat) (b : List Int) : List Int := p9 fun i => top - c27 w fun k => b7j b (i * w + k)
@[irreducible] def c56 (w : Int) (s : List Int) : List Int × Int := if (w ≠ 18 ∧ w ≠ 20) ∨ s.length ≠ 66 then (z256, 1) else (a2j (2 ^ (w - 1).toNat) w.toNat (a0f 136 31 s (32 * w.toNat)), 0)
noncomputable def Z8 : List Int × Unit → Option (List Int × Int) := a0n (ks := [.sl (.int .u8)]) (rs := [.xs (.int .i32) 256, .int .i64]) (fun _ => True) fun x => d2R x.1
def c7D (eta h : Int) : Int × Bool := if eta = 2 ∧ h < 15 then (2 - h % 5, true) else if eta = 4 ∧ h < 9 then (4 - h, true) else (0, false)
noncomputable def a65 : Int × Int × Unit → Option (Int × Bool) := a0n (ks := [.int .i64, .int .u8]) (rs := [.int .i32, .bool]) (fun _ => True) fun x => c7D x.1 x.2.1
noncomputable def G0 : Int × List Int × Unit → Option (List Int × Int) := a0n (ks := [.int .i64, .sl (.int .u8)]) (rs := [.xs (.int .i32) 256, .int .i64]) (fun _ => True) fun x => c8O x.1 x.2.1
def wOk (w : Int) (b : List Int) : Prop := 1 ≤ w ∧ w ≤ 23 ∧ (b.length : Int) = 32 * w
noncomputable def Z9 : Int × List Int × Unit → Option (List Int × Int) := a0n (ks := [.int .i64, .sl (.int .u8)]) (rs := [.xs (.int .i32) 256, .int .i64]) (fun x => wOk x.1 x.2.1) fun x => (c9U x.1.toNat x.2.1, 0)
noncomputable def Q8 : Int × Int × Unit → Option Int := a0n (ks := [.int .i32, .rp (.int .i32)]) (rs := [.int .i32]) (fun x => 0 ≤ x.1 ∧ 0 ≤ x.2.1) fun x => x.2.1 - x.1
noncomputable def s6 : List Int × Int × Unit → Option (List Int) := a0n (ks := [.xs (.int .i32) 256, .fcl 58 .i32]) (rs := [.xs (.int .i32) 256]) (fun x => (∀ z ∈ x.1, 0 ≤ z) ∧ 0 ≤ x.2.1) fun x => p9 fun i => x.2.1 - x.1.getD i 0
noncomputable def j4 : Int × Int × List Int × Unit → Option (List Int × Int) := a0n (ks := [.int .i32, .int .i64, .sl (.int .u8)]) (rs := [.xs (.int .i32) 256, .int .i64]) (fun x => (0 ≤ x.1 ∧ x.1 < 8380417) ∧ wOk x.2.1 x.2.2.1) fun x => (a2j x.1 x.2.1.toNat x.2.2.1, 0)
noncomputable def a64 : Int × List Int × Unit → Option (List Int × Int) := a0n (ks := [.int .i64, .sl (.int .u8)]) (rs := [.xs (.int .i32) 256, .int .i64]) (fun _ => True) fun x => c56 x.1 x.2.1
def a5S (s : List Int) (i : Nat) : Nat → Nat → Nat
 | 0, at' => at'
 | n + 1, at' => if at' < 1032 ∧ (i : Int) < shb s at' then a5S s i n (at' + 1) else at'
def c5w (s : List Int) (n i at' : Nat) (c : List Int) : List Int := (c.set i (c.getD (shb s at').toNat 0)).set (shb s at').toNat (if c7i (shb s (n / 8)) (n % 8) = 1 then 8380416 else 1)
def b7i (tau : Nat) (s : List Int) : Nat → Option (List Int × Nat)
 | 0 => some (z256, 8)
 | k + 1 => match b7i tau s k with
  | none => none
  | some (c, at') => if a5S s (256 - tau + k) 1032 at' = 1032 then none else some (c5w s k (256 - tau + k) (a5S s (256 - tau + k) 1032 at') c, a5S s (256 - tau + k) 1032 at' + 1)
@[irreducible] def a47 (tau : Int) (s : List Int) : List Int × Int := if tau < 1 ∨ 64 < tau then (z256, 1) else match b7i tau.toNat s tau.toNat with
 | none => (z256, 130)
 | some (c, _) => (c, 0)
noncomputable def a4M : Int × List Int × Unit → Option (List Int × Int) := a0n (ks := [.int .i64, .sl (.int .u8)]) (rs := [.xs (.int .i32) 256, .int .i64]) (fun x => x.2.1.length ≤ 1000) fun x => a47 x.1 x.2.1
def b3Y (f : Nat → List Int) : Nat → List Int
 | 0 => []
 | t + 1 => b3Y f t ++ f t
def mkP (l : List Int) (k i : Nat) : List Int := if l.getD (k * 256 + i) 0 ≠ 0 then [(i : Int)] else []
def d5p (l : List Int) (k : Nat) : List Int := b3Y (mkP l k) 256
def b0d (l : List Int) (n : Nat) : List Int := b3Y (d5p l) n
def d5e (l : List Int) (k : Nat) : Int := ((b0d l (k + 1)).length : Int)
def c4y (l : List Int) (most : Int) : List Int × Int := if (l.length / 256 > 16 ∨ most < 0) ∨ 255 < most then ([], 1) else if most < ((b0d l (l.length / 256)).length : Int) then ([], 3) else
 (b0d l (l.length / 256) ++ List.replicate (most.toNat - (b0d l (l.length / 256)).length) 0 ++ (List.range (l.length / 256)).map (d5e l), 0)
def b34 (b : List Int) (m : Nat) : Nat → Nat
 | 0 => 0
 | k + 1 => (b.getD (m + k) 0).toNat
def b5H (b : List Int) (k a : Nat) (h : List Int) : Nat → List Int
 | 0 => h
 | j + 1 => (b5H b k a h j).set (k * 256 + (b.getD (a + j) 0).toNat) 1
def b4d (b : List Int) (m : Nat) (h : List Int) : Nat → List Int
 | 0 => h
 | k + 1 => b5H b k (b34 b m k) (b4d b m h k) (b34 b m (k + 1) - b34 b m k)
def okR (b : List Int) (m n : Nat) : Prop := ∀ k, k < n → b34 b m k ≤ b34 b m (k + 1) ∧ b34 b m (k + 1) ≤ m
def d35 (b : List Int) (a e : Nat) : Prop := ∀ i, a < i → i < e → b.getD (i - 1) 0 < b.getD i 0
def okG (b : List Int) (m n : Nat) : Prop := ∀ k, k < n → d35 b (b34 b m k) (b34 b m (k + 1))
def okZ (b : List Int) (m n : Nat) : Prop := ∀ j, b34 b m n ≤ j → j < m → b.getD j 0 = 0
open Classical in
noncomputable def b2v (n most : Int) (b : List Int) : List Int × Int := if (n < 0 ∨ 16 < n) ∨ (most < 0 ∨ 255 < most) ∨ (b.length : Int) ≠ most + n then ([], 1) else
 if okR b most.toNat n.toNat ∧ okG b most.toNat n.toNat ∧ okZ b most.toNat n.toNat then (b4d b most.toNat (List.replicate (n.toNat * 256) 0) n.toNat, 0) else ([], 150)
noncomputable def a06 : List Int × Int × Unit → Option (List Int × Int) := a0n (ks := [.sla .bool 256, .int .i64]) (rs := [.sl (.int .u8), .int .i64]) (fun _ => True) fun x => c4y x.1 x.2.1
noncomputable def J8 : Int × Int × List Int × Unit → Option (List Int × Int) := a0n (ks := [.int .i64, .int .i64, .sl (.int .u8)]) (rs := [.sla .bool 256, .int .i64]) (fun _ => True) fun x => b2v x.1 x.2.1 x.2.2.1
noncomputable def a5D : List Int × List Int × Unit → Option Bool := a0n (ks := [.sl (.int .u8), .sl (.int .u8)]) (rs := [.bool]) (fun _ => True) fun x => decide (x.1 = x.2.1)
end Go.Ax.TryP
set_option linter.unusedVariables false
namespace Go.Ax.TryP
open Go.Proofs
noncomputable def p_dring_RejNtt_E : AE := AE.of [(5, ty5), (21, ty21), (23, ty23), (35, ty35), (40, ty40)] [(63, R3), (64, R4)]
noncomputable def b0n : Hints := [(7, [2, 4, 5, 6, 17, 999999]), (2000000, [2]), (2000001, [2, 4, 5, 6, 17]), (3000000, [2, 3])]
noncomputable def a5f : Code := (Try.f46).body.getD .skip
noncomputable def b4q : Shape := mkS { tmps := V :: V :: .sc (.ptr 0 0 false) :: V :: .sc (.ptr 1 0 false) :: .sc (.ptr 2 0 false) :: .sc (.int .i64) :: pv 10 (.sc (.int .i64) :: pv 37 []), mem := [.live [.xs b32 (some 256)] (.own), .live [.xs b32 (some 256)] (.own), .live [.one (.bool), .xs (.int .u64) (some 25), .one (.int .i64), .one (.int .i64), .one (.int .i64)] (.own)] } [.int, .int, .xs, .xs, .bool, .xs, .int, .int, .int]
abbrev W19 : Type := Int × Int × List Int × List Int × Bool × List Int × Int × Int × Int × Unit
abbrev W20 : Type := (List Int × Unit) ⊕ (Int × List Int × Unit)
noncomputable def w7 (N : Nat) (β : Type) (x : W19) (kn : W19 → Option β) (ke : W20 → Option β) : Option β :=
 if (x.2.1 < (1024:Int)) then
  (o0 ((x.2.2.2.2.1, x.2.2.2.2.2.1, x.2.2.2.2.2.2.1, x.2.2.2.2.2.2.2.1, x.2.2.2.2.2.2.2.2.1, ()), (3:Int), ())).bind fun r2 => (
  if (r2.2.1 ≠ (0:Int)) then
   ke (.inl (x.2.2.1, ()))
  else
   if 0 ≤ (0:Int) then (
   if (0:Int) < (((List.length r2.1) : Nat) : Int) then (
   if 0 < (List.length r2.1) then (
   if 0 ≤ (1:Int) then (
   if (1:Int) < (((List.length r2.1) : Nat) : Int) then (
   if 1 < (List.length r2.1) then (
   if 0 ≤ (2:Int) then (
   if (2:Int) < (((List.length r2.1) : Nat) : Int) then (
   if 2 < (List.length r2.1) then (
   if ((ior IntKind.i32 (ior IntKind.i32 (IntKind.i32.wrap (List.getD r2.1 0 0)) (b0E IntKind.i32 (IntKind.i32.wrap (List.getD r2.1 1 0)) (8:Int))) (b0E IntKind.i32 (IntKind.i32.wrap (b8M IntKind.u8 (List.getD r2.1 2 0) (127:Int))) (16:Int))) ≥ (8380417:Int)) then
    kn (x.1, (IntKind.i64.wrap (x.2.1 + (1:Int))), x.2.2.1, x.2.2.2.1, (decide (r2.2.2.1 = true)), r2.2.2.2.1, r2.2.2.2.2.1, r2.2.2.2.2.2.1, r2.2.2.2.2.2.2.1, ())
   else
    if 0 ≤ x.1 then (
    if x.1 < 256 then (
    if (x.1.toNat) < 256 then (
    if ((IntKind.i64.wrap (x.1 + (1:Int))) = (256:Int)) then
     ke (.inr ((0:Int), (List.set x.2.2.2.1 (x.1.toNat) (ior IntKind.i32 (ior IntKind.i32 (IntKind.i32.wrap (List.getD r2.1 0 0)) (b0E IntKind.i32 (IntKind.i32.wrap (List.getD r2.1 1 0)) (8:Int))) (b0E IntKind.i32 (IntKind.i32.wrap (b8M IntKind.u8 (List.getD r2.1 2 0) (127:Int))) (16:Int)))), ()))
    else
     kn ((IntKind.i64.wrap (x.1 + (1:Int))), (IntKind.i64.wrap (x.2.1 + (1:Int))), x.2.2.1, (List.set x.2.2.2.1 (x.1.toNat) (ior IntKind.i32 (ior IntKind.i32 (IntKind.i32.wrap (List.getD r2.1 0 0)) (b0E IntKind.i32 (IntKind.i32.wrap (List.getD r2.1 1 0)) (8:Int))) (b0E IntKind.i32 (IntKind.i32.wrap (b8M IntKind.u8 (List.getD r2.1 2 0) (127:Int))) (16:Int)))), (decide (r2.2.2.1 = true)), r2.2.2.2.1, r2.2.2.2.2.1, r2.2.2.2.2.2.1, r2.2.2.2.2.2.2.1, ())) else none) else none) else none) else none) else none) else none) else none) else none) else none) else none) else none) else none)
 else
  ke (.inl (x.2.2.1, ()))
noncomputable def b2Z : Go' W20 := fun y K => match y with
 | .inl y => K (.exit 0) (fSt { tmps := V :: V :: .sc (.ptr 0 0 false) :: pv 52 [], mem := [.live [.xs b32 (some 256)] (.own)] } [.xs] y)
 | .inr y => K .ret (fSt { tmps := V :: V :: .sc (.ptr 0 0 false) :: .sc (.int .i64) :: pv 51 [], mem := [.live [.xs b32 (some 256)] (.own)] } [.int, .xs] y)
noncomputable def a6k (N : Nat) : LT := upd (LT.nil) 7 (o6 b4q N (w7 N) b2Z)
theorem b25 (N : Nat) : OkAll p_dring_RejNtt_E b0n N (a6k N) (w9 a5f) :=
 d6 (c := d7 7 a5f) (OkAll.nil) (by kernel_rfl) (fun x => by kernel_rfl) (fun β x kn ke => by kernel_rfl)
abbrev R9 : List Kd := [.sl b8]
abbrev S0 : List Kd := [.xs b32 256, .int .i64]
noncomputable def a4t (N : Nat) (x : List Int × Unit) : Option (List Int × Int) :=
 if ((((List.length x.1) : Nat) : Int) ≠ (34:Int)) then
  some ((List.replicate 256 0), (1:Int))
 else
  (D4 ([x.1], ())).bind fun r1 => (
  m7 (w7 N) N ((0:Int), (0:Int), (List.replicate 256 0), (List.replicate 256 0), (decide (r1.1 = true)), r1.2.1, r1.2.2.1, r1.2.2.2.1, r1.2.2.2.2.1, ()) fun y => (match y with
  | .inl y3 => (
   some ((List.replicate 256 0), (130:Int)))
  | .inr y4 => (
   some (y4.2.1, y4.1))))
theorem b59 (e0 : c8 Try.prog 63 R3) (e1 : c8 Try.prog 64 R4) : p_dring_RejNtt_E.Ok Try.prog := AE.of_ok (all_cons T9 (all_cons u4 (all_cons E0 (all_cons a2D (all_cons q8 c6))))) (all_cons ⟨e0, a3I⟩ (all_cons ⟨e1, a3J⟩ c6))
theorem b7W (hE : p_dring_RejNtt_E.Ok Try.prog) {g : Ds R9 → Option (Rs S0)} (hg : ∀ x r, g x = some r → ∃ N, a4t N x = some r) : c8 Try.prog 46 ⟨R9, S0, g⟩ :=
 i5 (E := p_dring_RejNtt_E) (H := b0n) (L := fun N => a6k N) (c := a5f) (ks := R9) (rs := S0) (F := a4t) hE mix Try.func46 (by kernel_rfl) (fun N => b25 N) (fun _ _ => by kernel_rfl) hg
noncomputable def p_dring_half_E : AE := AE.of [(5, ty5), (21, ty21)] []
noncomputable def c2C : Hints := [(2000000, []), (3000000, [4, 5])]
noncomputable def c2D : Code := (Try.f44).body.getD .skip
abbrev a0J : List Kd := [.int .i64, .int .u8]
abbrev a0K : List Kd := [.int .i32, .bool]
noncomputable def a7f (N : Nat) (x : Int × Int × Unit) : Option (Int × Bool) :=
 if (x.1 = (2:Int)) then
  if (x.2.1 < (15:Int)) then
   some ((IntKind.i32.wrap ((2:Int) - (IntKind.i32.wrap (Int.tmod x.2.1 (5:Int))))), true)
  else
   if (x.1 = (4:Int)) then
    if (x.2.1 < (9:Int)) then
     some ((IntKind.i32.wrap ((4:Int) - (IntKind.i32.wrap x.2.1))), true)
    else
     some ((0:Int), false)
   else
    some ((0:Int), false)
 else
  if (x.1 = (4:Int)) then
   if (x.2.1 < (9:Int)) then
    some ((IntKind.i32.wrap ((4:Int) - (IntKind.i32.wrap x.2.1))), true)
   else
    some ((0:Int), false)
  else
   some ((0:Int), false)
theorem b9z : p_dring_half_E.Ok Try.prog := AE.of_ok (all_cons T9 (all_cons u4 c6)) c6
theorem c1x (hE : p_dring_half_E.Ok Try.prog) {g : Ds a0J → Option (Rs a0K)} (hg : ∀ x r, g x = some r → ∃ N, a7f N x = some r) : c8 Try.prog 44 ⟨a0J, a0K, g⟩ :=
 i5 (E := p_dring_half_E) (H := c2C) (L := fun N => LT.nil) (c := c2D) (ks := a0J) (rs := a0K) (F := a7f) hE mix Try.func44 (by kernel_rfl) (fun N => OkAll.nil) (fun _ _ => by kernel_rfl) hg
noncomputable abbrev E2 : Sig := ⟨[.int .i64, .int .i64, .sls b8], [.sl b8, .int .i64], v3⟩
noncomputable abbrev b07 : Sig := ⟨[.int .i64, .int .u8], [.int .i32, .bool], a65⟩
noncomputable def p_dring_RejBounded_E : AE := AE.of [(2, ty2), (5, ty5), (21, ty21), (23, ty23), (35, ty35), (40, ty40), (83, ty83)] [(42, E2), (44, b07), (45, i7)]
noncomputable def a1u : Hints := [(9, [0, 4, 6, 9, 37, 38, 39]), (12, [0, 4, 6, 9, 37, 38, 39, 47, 48]), (2000000, [4]), (2000001, [0, 4, 6, 9, 37, 38, 39]), (2000002, [0, 4, 6, 9, 37, 38, 39]), (2000003, [0, 4, 6, 9, 37, 38, 39, 47, 48]), (3000000, [4, 5])]
noncomputable def H7 : Code := (Try.f15).body.getD .skip
noncomputable def a8F : Shape := mkS { tmps := .sc (.int .i64) :: pv 3 (.sc (.ptr 0 0 false) :: V :: .sc (.ptr 1 0 false) :: V :: V :: .sc (.int .i64) :: pv 27 (.sc (.vec 2 none 1) :: .sc (.int .i64) :: .sc (.int .i64) :: pv 7 (.agg [.xs b8 (some 2)] :: .sc (.int .i64) :: pv 23 []))), mem := [.live [.xs b32 (some 256)] (.own), .live [.xs b32 (some 256)] (.own), .live [.xs b8 none] (.own)] } [.int, .int, .nat, .int, .int, .xs, .int, .xs, .xs, .nat, .xs]
abbrev W21 : Type := Int × Int × Nat × Int × Int × List Int × Int × List Int × List Int × Nat × List Int × Unit
abbrev W22 : Type := (Int × List Int × Unit) ⊕ (Int × Int × Nat × Int × Int × List Int × List Int × Nat × List Int × Unit)
noncomputable def q9 (N : Nat) (β : Type) (x : W21) (kn : W21 → Option β) (ke : W22 → Option β) : Option β :=
 if (x.2.2.2.2.2.2.1 < (2:Int)) then
  if 0 ≤ x.2.2.2.2.2.2.1 then (
  if x.2.2.2.2.2.2.1 < 2 then (
  if (x.2.2.2.2.2.2.1.toNat) < 2 then (
  (a65 (x.1, (List.getD x.2.2.2.2.2.1 (x.2.2.2.2.2.2.1.toNat) 0), ())).bind fun r2 => (
  if (¬ (r2.2 = true)) then
   kn (x.1, x.2.1, x.2.2.1, x.2.2.2.1, x.2.2.2.2.1, x.2.2.2.2.2.1, (IntKind.i64.wrap (x.2.2.2.2.2.2.1 + (1:Int))), x.2.2.2.2.2.2.2.1, x.2.2.2.2.2.2.2.2.1, x.2.2.2.2.2.2.2.2.2.1, x.2.2.2.2.2.2.2.2.2.2.1, ())
  else
   (u1 ((IntKind.i64.wrap r2.1), ())).bind fun r3 => (
   if 0 ≤ x.2.1 then (
   if x.2.1 < 256 then (
   if (x.2.1.toNat) < 256 then (
   if ((IntKind.i64.wrap (x.2.1 + (1:Int))) = (256:Int)) then
    ke (.inl ((0:Int), (List.set x.2.2.2.2.2.2.2.2.1 (x.2.1.toNat) r3), ()))
   else
    kn (x.1, (IntKind.i64.wrap (x.2.1 + (1:Int))), x.2.2.1, x.2.2.2.1, x.2.2.2.2.1, x.2.2.2.2.2.1, (IntKind.i64.wrap (x.2.2.2.2.2.2.1 + (1:Int))), x.2.2.2.2.2.2.2.1, (List.set x.2.2.2.2.2.2.2.2.1 (x.2.1.toNat) r3), x.2.2.2.2.2.2.2.2.2.1, x.2.2.2.2.2.2.2.2.2.2.1, ())) else none) else none) else none))) else none) else none) else none
 else
  ke (.inr (x.1, x.2.1, x.2.2.1, x.2.2.2.1, x.2.2.2.2.1, x.2.2.2.2.2.2.2.1, x.2.2.2.2.2.2.2.2.1, x.2.2.2.2.2.2.2.2.2.1, x.2.2.2.2.2.2.2.2.2.2.1, ()))
noncomputable def a7Q : Go' W22 := fun y K => match y with
 | .inl y => K .ret (fSt { tmps := pv 4 (.sc (.ptr 0 0 false) :: .sc (.int .i64) :: pv 66 []), mem := [.live [.xs b32 (some 256)] (.own)] } [.int, .xs] y)
 | .inr y => K (.exit 2) (fSt { tmps := .sc (.int .i64) :: pv 3 (.sc (.ptr 0 0 false) :: V :: .sc (.ptr 1 0 false) :: V :: V :: .sc (.int .i64) :: pv 27 (.sc (.vec 2 none 1) :: .sc (.int .i64) :: .sc (.int .i64) :: pv 32 [])), mem := [.live [.xs b32 (some 256)] (.own), .live [.xs b32 (some 256)] (.own), .live [.xs b8 none] (.own)] } [.int, .int, .nat, .int, .int, .xs, .xs, .nat, .xs] y)
noncomputable def a2M (N : Nat) : LT := upd (LT.nil) 12 (o6 a8F N (q9 N) a7Q)
theorem a7R (N : Nat) : OkAll p_dring_RejBounded_E a1u N (a2M N) (w9 H7) :=
 d6 (c := d7 12 H7) (OkAll.nil) (by kernel_rfl) (fun x => by kernel_rfl) (fun β x kn ke => by kernel_rfl)
noncomputable def a9I : Shape := mkS { tmps := .sc (.int .i64) :: pv 3 (.sc (.ptr 0 0 false) :: V :: .sc (.ptr 1 0 false) :: V :: V :: .sc (.int .i64) :: pv 27 (.sc (.vec 2 none 1) :: .sc (.int .i64) :: .sc (.int .i64) :: pv 32 [])), mem := [.live [.xs b32 (some 256)] (.own), .live [.xs b32 (some 256)] (.own), .live [.xs b8 none] (.own)] } [.int, .int, .nat, .int, .int, .xs, .xs, .nat, .xs]
abbrev W23 : Type := Int × Int × Nat × Int × Int × List Int × List Int × Nat × List Int × Unit
abbrev W24 : Type := (Int × List Int × Unit) ⊕ (List Int × Unit)
noncomputable def j8 (N : Nat) (β : Type) (x : W23) (kn : W23 → Option β) (ke : W24 → Option β) : Option β :=
 if (x.2.2.2.2.1 < x.2.2.2.1) then
  if 0 ≤ x.2.2.2.2.1 then (
  if x.2.2.2.2.1 < ((x.2.2.1 : Nat) : Int) then (
  if (x.2.2.2.2.1.toNat) < x.2.2.2.2.2.2.2.1 then (
  m7 (q9 N) N (x.1, x.2.1, x.2.2.1, x.2.2.2.1, x.2.2.2.2.1, (List.set (List.set (List.replicate 2 0) 0 (b8M IntKind.u8 (List.getD x.2.2.2.2.2.2.2.2.1 (x.2.2.2.2.1.toNat) 0) (15:Int))) 1 (b9g IntKind.u8 (List.getD x.2.2.2.2.2.2.2.2.1 (x.2.2.2.2.1.toNat) 0) (4:Int))), (0:Int), x.2.2.2.2.2.1, x.2.2.2.2.2.2.1, x.2.2.2.2.2.2.2.1, x.2.2.2.2.2.2.2.2.1, ()) fun y => (match y with
  | .inl y4 => (
   ke (.inl (y4.1, y4.2.1, ())))
  | .inr y5 => (
   kn (y5.1, y5.2.1, y5.2.2.1, y5.2.2.2.1, (IntKind.i64.wrap (y5.2.2.2.2.1 + (1:Int))), y5.2.2.2.2.2.1, y5.2.2.2.2.2.2.1, y5.2.2.2.2.2.2.2.1, y5.2.2.2.2.2.2.2.2.1, ())))) else none) else none) else none
 else
  ke (.inr (x.2.2.2.2.2.1, ()))
noncomputable def a8G : Go' W24 := fun y K => match y with
 | .inl y => K .ret (fSt { tmps := pv 4 (.sc (.ptr 0 0 false) :: .sc (.int .i64) :: pv 66 []), mem := [.live [.xs b32 (some 256)] (.own)] } [.int, .xs] y)
 | .inr y => K (.exit 0) (fSt { tmps := pv 4 (.sc (.ptr 0 0 false) :: pv 67 []), mem := [.live [.xs b32 (some 256)] (.own)] } [.xs] y)
noncomputable def a3f (N : Nat) : LT := upd (a2M N) 9 (o6 a9I N (j8 N) a8G)
theorem a8H (N : Nat) : OkAll p_dring_RejBounded_E a1u N (a3f N) (w9 H7) :=
 d6 (c := d7 9 H7) (a7R N) (by kernel_rfl) (fun x => by kernel_rfl) (fun β x kn ke => by kernel_rfl)
abbrev E8 : List Kd := [.int .i64, .sl b8]
abbrev E9 : List Kd := [.xs b32 256, .int .i64]
noncomputable def a0h (N : Nat) (x : Int × List Int × Unit) : Option (List Int × Int) :=
 if (x.1 ≠ (2:Int)) then
  if (x.1 ≠ (4:Int)) then
   some ((List.replicate 256 0), (1:Int))
  else
   if ((((List.length x.2.1) : Nat) : Int) ≠ (66:Int)) then
    some ((List.replicate 256 0), (1:Int))
   else
    (v3 ((256:Int), (1024:Int), [x.2.1], ())).bind fun r1 => (
    if (r1.2 ≠ (0:Int)) then
     some ((List.replicate 256 0), (130:Int))
    else
     m7 (j8 N) N (x.1, (0:Int), (List.length r1.1), (((List.length r1.1) : Nat) : Int), (0:Int), (List.replicate 256 0), (List.replicate 256 0), (List.length r1.1), r1.1, ()) fun y => (match y with
     | .inl y6 => (
      some (y6.2.1, y6.1))
     | .inr y7 => (
      some ((List.replicate 256 0), (130:Int)))))
 else
  if ((((List.length x.2.1) : Nat) : Int) ≠ (66:Int)) then
   some ((List.replicate 256 0), (1:Int))
  else
   (v3 ((256:Int), (1024:Int), [x.2.1], ())).bind fun r8 => (
   if (r8.2 ≠ (0:Int)) then
    some ((List.replicate 256 0), (130:Int))
   else
    m7 (j8 N) N (x.1, (0:Int), (List.length r8.1), (((List.length r8.1) : Nat) : Int), (0:Int), (List.replicate 256 0), (List.replicate 256 0), (List.length r8.1), r8.1, ()) fun y => (match y with
    | .inl y9 => (
     some (y9.2.1, y9.1))
    | .inr y10 => (
     some ((List.replicate 256 0), (130:Int)))))
theorem b0O (e0 : c8 Try.prog 42 E2) (e1 : c8 Try.prog 44 b07) (e2 : c8 Try.prog 45 i7) : p_dring_RejBounded_E.Ok Try.prog := AE.of_ok (all_cons a88 (all_cons T9 (all_cons u4 (all_cons E0 (all_cons a2D (all_cons q8 (all_cons d68 c6))))))) (all_cons ⟨e0, U3⟩ (all_cons ⟨e1, b7q⟩ (all_cons ⟨e2, o5⟩ c6)))
theorem b1J (hE : p_dring_RejBounded_E.Ok Try.prog) {g : Ds E8 → Option (Rs E9)} (hg : ∀ x r, g x = some r → ∃ N, a0h N x = some r) : c8 Try.prog 15 ⟨E8, E9, g⟩ :=
 i5 (E := p_dring_RejBounded_E) (H := a1u) (L := fun N => a3f N) (c := H7) (ks := E8) (rs := E9) (F := a0h) hE mix Try.func15 (by kernel_rfl) (fun N => a8H N) (fun _ _ => by kernel_rfl) hg
noncomputable def p_dring_Unpack_E : AE := AE.of [(5, ty5), (21, ty21), (23, ty23), (40, ty40)] []
noncomputable def a5g : Hints := [(5, [0, 1, 4, 6, 24]), (8, [0, 1, 4, 6, 7, 24, 27, 28]), (2000000, [4, 6]), (2000001, [0, 1, 4, 6, 24]), (2000002, [0, 1, 4, 6, 24]), (2000003, [0, 1, 4, 6, 7, 24, 27, 28]), (3000000, [4, 5])]
noncomputable def Y2 : Code := (Try.f35).body.getD .skip
noncomputable def b4s : Shape := mkS { tmps := .sc (.int .i64) :: .sc (.vec 0 none 1) :: V :: V :: .sc (.ptr 1 0 false) :: V :: .sc (.ptr 2 0 false) :: .sc (.int .i64) :: pv 16 (.sc (.int .i64) :: V :: V :: .sc (.int .i64) :: .sc (.int .i64) :: pv 27 []), mem := [.live [.xs b8 none] (.ro), .live [.xs b32 (some 256)] (.own), .live [.xs b32 (some 256)] (.own)] } [.int, .nat, .int, .int, .int, .int, .nat, .xs, .xs, .xs]
abbrev W25 : Type := Int × Nat × Int × Int × Int × Int × Nat × List Int × List Int × List Int × Unit
abbrev W26 : Type := Int × Nat × Int × Nat × List Int × List Int × List Int × Unit
noncomputable def K8 (N : Nat) (β : Type) (x : W25) (kn : W25 → Option β) (ke : W26 → Option β) : Option β :=
 if (x.2.2.2.2.2.1 < x.2.2.2.2.1) then
  if 0 ≤ x.2.2.1 then (
  if x.2.2.1 < 256 then (
  if (x.2.2.1.toNat) < 256 then (
  if 0 ≤ (IntKind.i64.wrap (Int.tdiv (IntKind.i64.wrap ((IntKind.i64.wrap (x.2.2.1 * x.1)) + x.2.2.2.2.2.1)) (8:Int))) then (
  if (IntKind.i64.wrap (Int.tdiv (IntKind.i64.wrap ((IntKind.i64.wrap (x.2.2.1 * x.1)) + x.2.2.2.2.2.1)) (8:Int))) < ((x.2.1 : Nat) : Int) then (
  if ((IntKind.i64.wrap (Int.tdiv (IntKind.i64.wrap ((IntKind.i64.wrap (x.2.2.1 * x.1)) + x.2.2.2.2.2.1)) (8:Int))).toNat) < x.2.2.2.2.2.2.1 then (
  if (Int.tmod (IntKind.i64.wrap ((IntKind.i64.wrap (x.2.2.1 * x.1)) + x.2.2.2.2.2.1)) (8:Int)) < 0 then none else (
  if x.2.2.2.2.2.1 < 0 then none else (
  if 0 ≤ x.2.2.1 then (
  if x.2.2.1 < 256 then (
  if (x.2.2.1.toNat) < 256 then (
  kn (x.1, x.2.1, x.2.2.1, x.2.2.2.1, x.2.2.2.2.1, (IntKind.i64.wrap (x.2.2.2.2.2.1 + (1:Int))), x.2.2.2.2.2.2.1, x.2.2.2.2.2.2.2.1, x.2.2.2.2.2.2.2.2.1, (List.set x.2.2.2.2.2.2.2.2.2.1 (x.2.2.1.toNat) (ior IntKind.i32 (List.getD x.2.2.2.2.2.2.2.2.2.1 (x.2.2.1.toNat) 0) (b0E IntKind.i32 (IntKind.i32.wrap (b8M IntKind.u8 (b9g IntKind.u8 (List.getD x.2.2.2.2.2.2.2.1 ((IntKind.i64.wrap (Int.tdiv (IntKind.i64.wrap ((IntKind.i64.wrap (x.2.2.1 * x.1)) + x.2.2.2.2.2.1)) (8:Int))).toNat) 0) (Int.tmod (IntKind.i64.wrap ((IntKind.i64.wrap (x.2.2.1 * x.1)) + x.2.2.2.2.2.1)) (8:Int))) (1:Int))) x.2.2.2.2.2.1))), ())) else none) else none) else none))) else none) else none) else none) else none) else none) else none
 else
  ke (x.1, x.2.1, x.2.2.2.1, x.2.2.2.2.2.2.1, x.2.2.2.2.2.2.2.1, x.2.2.2.2.2.2.2.2.1, x.2.2.2.2.2.2.2.2.2.1, ())
noncomputable def b3a : Go' W26 := fun y K => K (.exit 2) (fSt { tmps := .sc (.int .i64) :: .sc (.vec 0 none 1) :: V :: V :: .sc (.ptr 1 0 false) :: V :: .sc (.ptr 2 0 false) :: pv 17 (.sc (.int .i64) :: pv 31 []), mem := [.live [.xs b8 none] (.ro), .live [.xs b32 (some 256)] (.own), .live [.xs b32 (some 256)] (.own)] } [.int, .nat, .int, .nat, .xs, .xs, .xs] y)
noncomputable def a6m (N : Nat) : LT := upd (LT.nil) 8 (o6 b4s N (K8 N) b3a)
theorem b3b (N : Nat) : OkAll p_dring_Unpack_E a5g N (a6m N) (w9 Y2) :=
 d6 (c := d7 8 Y2) (OkAll.nil) (by kernel_rfl) (fun x => by kernel_rfl) (fun β x kn ke => by kernel_rfl)
noncomputable def b4r : Shape := mkS { tmps := .sc (.int .i64) :: .sc (.vec 0 none 1) :: V :: V :: .sc (.ptr 1 0 false) :: V :: .sc (.ptr 2 0 false) :: pv 17 (.sc (.int .i64) :: pv 31 []), mem := [.live [.xs b8 none] (.ro), .live [.xs b32 (some 256)] (.own), .live [.xs b32 (some 256)] (.own)] } [.int, .nat, .int, .nat, .xs, .xs, .xs]
noncomputable def D8 (N : Nat) (β : Type) (x : W26) (kn : W26 → Option β) (ke : W5 → Option β) : Option β :=
 if (x.2.2.1 < (256:Int)) then
  m7 (K8 N) N (x.1, x.2.1, x.2.2.1, x.2.2.1, x.1, (0:Int), x.2.2.2.1, x.2.2.2.2.1, x.2.2.2.2.2.1, x.2.2.2.2.2.2.1, ()) fun y1 => (
  kn (y1.1, y1.2.1, (IntKind.i64.wrap (y1.2.2.1 + (1:Int))), y1.2.2.2.1, y1.2.2.2.2.1, y1.2.2.2.2.2.1, y1.2.2.2.2.2.2.1, ()))
 else
  ke (x.2.2.2.2.2.1, x.2.2.2.2.2.2.1, ())
noncomputable def b28 : Go' W5 := fun y K => K (.exit 0) (fSt { tmps := pv 4 (.sc (.ptr 0 0 false) :: V :: .sc (.ptr 1 0 false) :: pv 49 []), mem := [.live [.xs b32 (some 256)] (.own), .live [.xs b32 (some 256)] (.own)] } [.xs, .xs] y)
noncomputable def a6l (N : Nat) : LT := upd (a6m N) 5 (o6 b4r N (D8 N) b28)
theorem b29 (N : Nat) : OkAll p_dring_Unpack_E a5g N (a6l N) (w9 Y2) :=
 d6 (c := d7 5 Y2) (b3b N) (by kernel_rfl) (fun x => by kernel_rfl) (fun β x kn ke => by kernel_rfl)
abbrev S1 : List Kd := [.int .i64, .sl b8]
abbrev S2 : List Kd := [.xs b32 256, .int .i64]
noncomputable def a4u (N : Nat) (x : Int × List Int × Unit) : Option (List Int × Int) :=
 if (x.1 < (1:Int)) then
  some ((List.replicate 256 0), (1:Int))
 else
  if (x.1 > (23:Int)) then
   some ((List.replicate 256 0), (1:Int))
  else
   if ((((List.length x.2.1) : Nat) : Int) ≠ (IntKind.i64.wrap ((32:Int) * x.1))) then
    some ((List.replicate 256 0), (1:Int))
   else
    m7 (D8 N) N (x.1, (List.length x.2.1), (0:Int), (List.length x.2.1), x.2.1, (List.replicate 256 0), (List.replicate 256 0), ()) fun y2 => (
    some (y2.2.1, (0:Int)))
theorem b6b : p_dring_Unpack_E.Ok Try.prog := AE.of_ok (all_cons T9 (all_cons u4 (all_cons E0 (all_cons q8 c6)))) c6
theorem b7Z (hE : p_dring_Unpack_E.Ok Try.prog) {g : Ds S1 → Option (Rs S2)} (hg : ∀ x r, g x = some r → ∃ N, a4u N x = some r) : c8 Try.prog 35 ⟨S1, S2, g⟩ :=
 i5 (E := p_dring_Unpack_E) (H := a5g) (L := fun N => a6l N) (c := Y2) (ks := S1) (rs := S2) (F := a4u) hE mix Try.func35 (by kernel_rfl) (fun N => b29 N) (fun _ _ => by kernel_rfl) hg
noncomputable def p_dring_UnpackFrom_1_E : AE := AE.of [(21, ty21)] []
noncomputable def b0P : Hints := [(3000000, [3])]
noncomputable def b0Q : Code := (Try.f58).body.getD .skip
abbrev A7 : List Kd := [.int .i32, .rp (.int .i32)]
abbrev V1 : List Kd := [.int .i32]
noncomputable def Q9 (N : Nat) (x : Int × Int × Unit) : Option (Int) :=
 some (IntKind.i32.wrap ((List.getD [x.2.1] 0 0) - x.1))
theorem a8I : p_dring_UnpackFrom_1_E.Ok Try.prog := AE.of_ok (all_cons u4 c6) c6
theorem a9L (hE : p_dring_UnpackFrom_1_E.Ok Try.prog) {g : Ds A7 → Option (Rs [.int .i32])} (hg : ∀ x r, g x = some r → ∃ N, Q9 N x = some r) : c8 Try.prog 58 ⟨A7, [.int .i32], g⟩ :=
 i5 (E := p_dring_UnpackFrom_1_E) (H := b0P) (L := fun N => LT.nil) (c := b0Q) (ks := A7) (rs := V1) (F := Q9) hE mix Try.func58 (by kernel_rfl) (fun N => OkAll.nil) (fun _ _ => by kernel_rfl) hg
noncomputable abbrev a1q : Sig := ⟨[.int .i32, .rp (.int .i32)], [.int .i32], Q8⟩
noncomputable def p_dring_each__dring_UnpackFrom_1_E : AE := AE.of [(21, ty21), (40, ty40)] [(58, a1q)]
noncomputable def M5 : Hints := [(2, [1, 2, 4, 7, 8]), (2000000, [2, 4]), (2000001, [1, 2, 4, 7, 8]), (3000000, [4])]
noncomputable def A0 : Code := (Try.f57).body.getD .skip
noncomputable def a1v : Shape := mkS { tmps := V :: .sc (.clo 58 0 0) :: .sc (.ptr 1 0 false) :: V :: .sc (.ptr 2 0 false) :: V :: V :: .agg [.xs b32 (some 256)] :: .sc (.int .i64) :: pv 10 [], mem := [.live [.xs b32 (some 1)] (.ro), .live [.xs b32 (some 256)] (.own), .live [.xs b32 (some 256)] (.own)] } [.xs, .int, .xs, .xs, .xs]
noncomputable def i6 (N : Nat) (β : Type) (x : W6) (kn : W6 → Option β) (ke : W5 → Option β) : Option β :=
 if (x.2.1 < (256:Int)) then
  if 0 ≤ x.2.1 then (
  if x.2.1 < 256 then (
  if (x.2.1.toNat) < 256 then (
  (Q8 ((List.getD x.1 (x.2.1.toNat) 0), (List.getD x.2.2.1 0 0), ())).bind fun r1 => (
  if 0 ≤ x.2.1 then (
  if x.2.1 < 256 then (
  if (x.2.1.toNat) < 256 then (
  kn (x.1, (IntKind.i64.wrap (x.2.1 + (1:Int))), x.2.2.1, (List.set x.2.2.2.1 (x.2.1.toNat) r1), x.2.2.2.2.1, ())) else none) else none) else none)) else none) else none) else none
 else
  ke (x.2.2.2.1, x.2.2.2.2.1, ())
noncomputable def a1c : Go' W5 := fun y K => K (.exit 0) (fSt { tmps := V :: V :: .sc (.ptr 0 0 false) :: V :: .sc (.ptr 1 0 false) :: pv 14 [], mem := [.live [.xs b32 (some 256)] (.own), .live [.xs b32 (some 256)] (.own)] } [.xs, .xs] y)
noncomputable def H8 (N : Nat) : LT := upd (LT.nil) 2 (o6 a1v N (i6 N) a1c)
theorem a1d (N : Nat) : OkAll p_dring_each__dring_UnpackFrom_1_E M5 N (H8 N) (w9 A0) :=
 d6 (c := d7 2 A0) (OkAll.nil) (by kernel_rfl) (fun x => by kernel_rfl) (fun β x kn ke => by kernel_rfl)
abbrev j5 : List Kd := [.xs b32 256, .fcl 58 .i32]
abbrev j6 : List Kd := [.xs b32 256]
noncomputable def s7 (N : Nat) (x : List Int × Int × Unit) : Option (List Int) :=
 m7 (i6 N) N (x.1, (0:Int), [x.2.1], x.1, (List.replicate 256 0), ()) fun y2 => (
 some y2.1)
theorem a1N (e0 : c8 Try.prog 58 a1q) : p_dring_each__dring_UnpackFrom_1_E.Ok Try.prog := AE.of_ok (all_cons u4 (all_cons q8 c6)) (all_cons ⟨e0, a7H⟩ c6)
theorem a2A (hE : p_dring_each__dring_UnpackFrom_1_E.Ok Try.prog) {g : Ds j5 → Option (Rs j6)} (hg : ∀ x r, g x = some r → ∃ N, s7 N x = some r) : c8 Try.prog 57 ⟨j5, j6, g⟩ :=
 i5 (E := p_dring_each__dring_UnpackFrom_1_E) (H := M5) (L := fun N => H8 N) (c := A0) (ks := j5) (rs := j6) (F := s7) hE mix Try.func57 (by kernel_rfl) (fun N => a1d N) (fun _ _ => by kernel_rfl) hg
noncomputable abbrev a1y : Sig := ⟨[.int .i64, .sl b8], [.xs b32 256, .int .i64], Z9⟩
noncomputable abbrev B4 : Sig := ⟨[.xs b32 256, .fcl 58 .i32], [.xs b32 256], s6⟩
noncomputable def p_dring_UnpackFrom_E : AE := AE.of [(21, ty21), (40, ty40)] [(35, a1y), (57, B4)]
noncomputable def b26 : Hints := [(3000000, [6, 7])]
noncomputable def b27 : Code := (Try.f29).body.getD .skip
abbrev F0 : List Kd := [.int .i32, .int .i64, .sl b8]
abbrev F3 : List Kd := [.xs b32 256, .int .i64]
noncomputable def a0i (N : Nat) (x : Int × Int × List Int × Unit) : Option (List Int × Int) :=
 (Z9 (x.2.1, x.2.2.1, ())).bind fun r1 => (
 if (r1.2 ≠ (0:Int)) then
  some ((List.replicate 256 0), (1:Int))
 else
  if (x.1 < (0:Int)) then
   some ((List.replicate 256 0), (1:Int))
  else
   if (x.1 ≥ (8380417:Int)) then
    some ((List.replicate 256 0), (1:Int))
   else
    (s6 (r1.1, (List.getD (x.1 :: []) 0 0), ())).bind fun r2 => (
    some (r2, (0:Int))))
theorem b0R (e0 : c8 Try.prog 35 a1y) (e1 : c8 Try.prog 57 B4) : p_dring_UnpackFrom_E.Ok Try.prog := AE.of_ok (all_cons u4 (all_cons q8 c6)) (all_cons ⟨e0, a6b⟩ (all_cons ⟨e1, a03⟩ c6))
theorem b1K (hE : p_dring_UnpackFrom_E.Ok Try.prog) {g : Ds F0 → Option (Rs F3)} (hg : ∀ x r, g x = some r → ∃ N, a0i N x = some r) : c8 Try.prog 29 ⟨F0, F3, g⟩ :=
 i5 (E := p_dring_UnpackFrom_E) (H := b26) (L := fun N => LT.nil) (c := b27) (ks := F0) (rs := F3) (F := a0i) hE mix Try.func29 (by kernel_rfl) (fun N => OkAll.nil) (fun _ _ => by kernel_rfl) hg
noncomputable abbrev o4 : Sig := ⟨[.int .i32, .int .i64, .sl b8], [.xs b32 256, .int .i64], j4⟩
noncomputable def p_dring_Mask_E : AE := AE.of [(21, ty21), (23, ty23), (35, ty35), (40, ty40)] [(42, E2), (29, o4)]
noncomputable def c2x : Hints := [(3000000, [4, 5])]
noncomputable def c2y : Code := (Try.f52).body.getD .skip
abbrev a0C : List Kd := [.int .i64, .sl b8]
abbrev a0D : List Kd := [.xs b32 256, .int .i64]
noncomputable def a7c (N : Nat) (x : Int × List Int × Unit) : Option (List Int × Int) :=
 if (x.1 ≠ (18:Int)) then
  if (x.1 ≠ (20:Int)) then
   some ((List.replicate 256 0), (1:Int))
  else
   if ((((List.length x.2.1) : Nat) : Int) ≠ (66:Int)) then
    some ((List.replicate 256 0), (1:Int))
   else
    (v3 ((256:Int), (IntKind.i64.wrap ((32:Int) * x.1)), [x.2.1], ())).bind fun r1 => (
    if (r1.2 ≠ (0:Int)) then
     some ((List.replicate 256 0), r1.2)
    else
     if (IntKind.i64.wrap (x.1 - (1:Int))) < 0 then none else (
     (j4 ((b0E IntKind.i32 (1:Int) (IntKind.i64.wrap (x.1 - (1:Int)))), x.1, r1.1, ())).bind fun r2 => (
     some (r2.1, r2.2))))
 else
  if ((((List.length x.2.1) : Nat) : Int) ≠ (66:Int)) then
   some ((List.replicate 256 0), (1:Int))
  else
   (v3 ((256:Int), (IntKind.i64.wrap ((32:Int) * x.1)), [x.2.1], ())).bind fun r3 => (
   if (r3.2 ≠ (0:Int)) then
    some ((List.replicate 256 0), r3.2)
   else
    if (IntKind.i64.wrap (x.1 - (1:Int))) < 0 then none else (
    (j4 ((b0E IntKind.i32 (1:Int) (IntKind.i64.wrap (x.1 - (1:Int)))), x.1, r3.1, ())).bind fun r4 => (
    some (r4.1, r4.2))))
theorem b9q (e0 : c8 Try.prog 42 E2) (e1 : c8 Try.prog 29 o4) : p_dring_Mask_E.Ok Try.prog := AE.of_ok (all_cons u4 (all_cons E0 (all_cons a2D (all_cons q8 c6)))) (all_cons ⟨e0, U3⟩ (all_cons ⟨e1, I9⟩ c6))
theorem c1p (hE : p_dring_Mask_E.Ok Try.prog) {g : Ds a0C → Option (Rs a0D)} (hg : ∀ x r, g x = some r → ∃ N, a7c N x = some r) : c8 Try.prog 52 ⟨a0C, a0D, g⟩ :=
 i5 (E := p_dring_Mask_E) (H := c2x) (L := fun N => LT.nil) (c := c2y) (ks := a0C) (rs := a0D) (F := a7c) hE mix Try.func52 (by kernel_rfl) (fun N => OkAll.nil) (fun _ _ => by kernel_rfl) hg
noncomputable def p_dring_Ball_E : AE := AE.of [(3, ty3), (5, ty5), (21, ty21), (23, ty23), (35, ty35), (40, ty40)] [(42, E2)]
noncomputable def a7J : Hints := [(10, [0, 4, 6, 7, 9, 10, 11]), (12, [0, 4, 6, 7, 9, 10, 11]), (2000000, [4]), (2000001, [0, 4, 6, 7, 9, 10, 11]), (2000002, [0, 4, 6, 7, 9, 10, 11]), (2000003, [0, 4, 6, 7, 9, 10, 11]), (3000000, [4, 5])]
noncomputable def a1G : Code := (Try.f33).body.getD .skip
noncomputable def b5V : Shape := mkS { tmps := .sc (.int .i64) :: pv 3 (.sc (.ptr 0 0 false) :: V :: .sc (.ptr 1 0 false) :: .sc (.sl 2 (some 8) none none 1) :: V :: .sc (.sl 2 (some 0) (some 8) none 1) :: .sc (.int .i64) :: .sc (.int .i64) :: pv 80 []), mem := [.live [.xs b32 (some 256)] (.own), .live [.xs b32 (some 256)] (.own), .live [.xs b8 none] (.own)] } [.int, .nat, .nat, .nat, .int, .int, .xs, .xs, .nat, .xs]
abbrev W27 : Type := Int × Nat × Nat × Nat × Int × Int × List Int × List Int × Nat × List Int × Unit
noncomputable def O1 (N : Nat) (β : Type) (x : W27) (kn : W27 → Option β) (ke : W27 → Option β) : Option β :=
 if (x.2.2.2.2.1 < ((x.2.1 : Nat) : Int)) then
  if 0 ≤ x.2.2.2.2.1 then (
  if x.2.2.2.2.1 < ((x.2.1 : Nat) : Int) then (
  if (8 + (x.2.2.2.2.1.toNat)) < x.2.2.2.2.2.2.2.2.1 then (
  if ((IntKind.i64.wrap (List.getD x.2.2.2.2.2.2.2.2.2.1 (8 + (x.2.2.2.2.1.toNat)) 0)) > x.2.2.2.2.2.1) then
   kn (x.1, x.2.1, x.2.2.1, x.2.2.2.1, (IntKind.i64.wrap (x.2.2.2.2.1 + (1:Int))), x.2.2.2.2.2.1, x.2.2.2.2.2.2.1, x.2.2.2.2.2.2.2.1, x.2.2.2.2.2.2.2.2.1, x.2.2.2.2.2.2.2.2.2.1, ())
  else
   ke (x.1, x.2.1, x.2.2.1, x.2.2.2.1, x.2.2.2.2.1, x.2.2.2.2.2.1, x.2.2.2.2.2.2.1, x.2.2.2.2.2.2.2.1, x.2.2.2.2.2.2.2.2.1, x.2.2.2.2.2.2.2.2.2.1, ())) else none) else none) else none
 else
  ke (x.1, x.2.1, x.2.2.1, x.2.2.2.1, x.2.2.2.2.1, x.2.2.2.2.2.1, x.2.2.2.2.2.2.1, x.2.2.2.2.2.2.2.1, x.2.2.2.2.2.2.2.2.1, x.2.2.2.2.2.2.2.2.2.1, ())
noncomputable def b4k : Go' W27 := fun y K => K (.exit 2) (fSt { tmps := .sc (.int .i64) :: pv 3 (.sc (.ptr 0 0 false) :: V :: .sc (.ptr 1 0 false) :: .sc (.sl 2 (some 8) none none 1) :: V :: .sc (.sl 2 (some 0) (some 8) none 1) :: .sc (.int .i64) :: .sc (.int .i64) :: pv 80 []), mem := [.live [.xs b32 (some 256)] (.own), .live [.xs b32 (some 256)] (.own), .live [.xs b8 none] (.own)] } [.int, .nat, .nat, .nat, .int, .int, .xs, .xs, .nat, .xs] y)
noncomputable def a7a (N : Nat) : LT := upd (LT.nil) 12 (o6 b5V N (O1 N) b4k)
theorem b4l (N : Nat) : OkAll p_dring_Ball_E a7J N (a7a N) (w9 a1G) :=
 d6 (c := d7 12 a1G) (OkAll.nil) (by kernel_rfl) (fun x => by kernel_rfl) (fun β x kn ke => by kernel_rfl)
noncomputable def b5U : Shape := mkS { tmps := .sc (.int .i64) :: pv 3 (.sc (.ptr 0 0 false) :: V :: .sc (.ptr 1 0 false) :: .sc (.sl 2 (some 8) none none 1) :: V :: .sc (.sl 2 (some 0) (some 8) none 1) :: .sc (.int .i64) :: .sc (.int .i64) :: pv 80 []), mem := [.live [.xs b32 (some 256)] (.own), .live [.xs b32 (some 256)] (.own), .live [.xs b8 none] (.own)] } [.int, .nat, .nat, .nat, .int, .int, .xs, .xs, .nat, .xs]
noncomputable def G1 (N : Nat) (β : Type) (x : W27) (kn : W27 → Option β) (ke : W20 → Option β) : Option β :=
 if (x.2.2.2.2.2.1 < (256:Int)) then
  m7 (O1 N) N (x.1, x.2.1, x.2.2.1, x.2.2.2.1, x.2.2.2.2.1, x.2.2.2.2.2.1, x.2.2.2.2.2.2.1, x.2.2.2.2.2.2.2.1, x.2.2.2.2.2.2.2.2.1, x.2.2.2.2.2.2.2.2.2.1, ()) fun y2 => (
  if (y2.2.2.2.2.1 = ((y2.2.1 : Nat) : Int)) then
   ke (.inl (y2.2.2.2.2.2.2.1, ()))
  else
   if 0 ≤ y2.2.2.2.2.1 then (
   if y2.2.2.2.2.1 < ((y2.2.1 : Nat) : Int) then (
   if (8 + (y2.2.2.2.2.1.toNat)) < y2.2.2.2.2.2.2.2.2.1 then (
   if 0 ≤ (List.getD y2.2.2.2.2.2.2.2.2.2.1 (8 + (y2.2.2.2.2.1.toNat)) 0) then (
   if (List.getD y2.2.2.2.2.2.2.2.2.2.1 (8 + (y2.2.2.2.2.1.toNat)) 0) < 256 then (
   if ((List.getD y2.2.2.2.2.2.2.2.2.2.1 (8 + (y2.2.2.2.2.1.toNat)) 0).toNat) < 256 then (
   if 0 ≤ y2.2.2.2.2.2.1 then (
   if y2.2.2.2.2.2.1 < 256 then (
   if (y2.2.2.2.2.2.1.toNat) < 256 then (
   if 0 ≤ (List.getD y2.2.2.2.2.2.2.2.2.2.1 (8 + (y2.2.2.2.2.1.toNat)) 0) then (
   if (List.getD y2.2.2.2.2.2.2.2.2.2.1 (8 + (y2.2.2.2.2.1.toNat)) 0) < 256 then (
   if ((List.getD y2.2.2.2.2.2.2.2.2.2.1 (8 + (y2.2.2.2.2.1.toNat)) 0).toNat) < 256 then (
   if 0 ≤ (IntKind.i64.wrap (Int.tdiv (IntKind.i64.wrap ((IntKind.i64.wrap (y2.2.2.2.2.2.1 + y2.1)) - (256:Int))) (8:Int))) then (
   if (IntKind.i64.wrap (Int.tdiv (IntKind.i64.wrap ((IntKind.i64.wrap (y2.2.2.2.2.2.1 + y2.1)) - (256:Int))) (8:Int))) < (8:Int) then (
   if ((IntKind.i64.wrap (Int.tdiv (IntKind.i64.wrap ((IntKind.i64.wrap (y2.2.2.2.2.2.1 + y2.1)) - (256:Int))) (8:Int))).toNat) < y2.2.2.2.2.2.2.2.2.1 then (
   if (Int.tmod (IntKind.i64.wrap ((IntKind.i64.wrap (y2.2.2.2.2.2.1 + y2.1)) - (256:Int))) (8:Int)) < 0 then none else (
   if ((b8M IntKind.u8 (b9g IntKind.u8 (List.getD y2.2.2.2.2.2.2.2.2.2.1 ((IntKind.i64.wrap (Int.tdiv (IntKind.i64.wrap ((IntKind.i64.wrap (y2.2.2.2.2.2.1 + y2.1)) - (256:Int))) (8:Int))).toNat) 0) (Int.tmod (IntKind.i64.wrap ((IntKind.i64.wrap (y2.2.2.2.2.2.1 + y2.1)) - (256:Int))) (8:Int))) (1:Int)) = (1:Int)) then
    if 0 ≤ (List.getD y2.2.2.2.2.2.2.2.2.2.1 (8 + (y2.2.2.2.2.1.toNat)) 0) then (
    if (List.getD y2.2.2.2.2.2.2.2.2.2.1 (8 + (y2.2.2.2.2.1.toNat)) 0) < 256 then (
    if ((List.getD y2.2.2.2.2.2.2.2.2.2.1 (8 + (y2.2.2.2.2.1.toNat)) 0).toNat) < 256 then (
    if (y2.2.2.2.2.2.1 = (255:Int)) then
     ke (.inr ((0:Int), (List.set (List.set (List.set y2.2.2.2.2.2.2.2.1 (y2.2.2.2.2.2.1.toNat) (List.getD y2.2.2.2.2.2.2.2.1 ((List.getD y2.2.2.2.2.2.2.2.2.2.1 (8 + (y2.2.2.2.2.1.toNat)) 0).toNat) 0)) ((List.getD y2.2.2.2.2.2.2.2.2.2.1 (8 + (y2.2.2.2.2.1.toNat)) 0).toNat) (1:Int)) ((List.getD y2.2.2.2.2.2.2.2.2.2.1 (8 + (y2.2.2.2.2.1.toNat)) 0).toNat) (8380416:Int)), ()))
    else
     kn (y2.1, y2.2.1, y2.2.2.1, y2.2.2.2.1, (IntKind.i64.wrap (y2.2.2.2.2.1 + (1:Int))), (IntKind.i64.wrap (y2.2.2.2.2.2.1 + (1:Int))), y2.2.2.2.2.2.2.1, (List.set (List.set (List.set y2.2.2.2.2.2.2.2.1 (y2.2.2.2.2.2.1.toNat) (List.getD y2.2.2.2.2.2.2.2.1 ((List.getD y2.2.2.2.2.2.2.2.2.2.1 (8 + (y2.2.2.2.2.1.toNat)) 0).toNat) 0)) ((List.getD y2.2.2.2.2.2.2.2.2.2.1 (8 + (y2.2.2.2.2.1.toNat)) 0).toNat) (1:Int)) ((List.getD y2.2.2.2.2.2.2.2.2.2.1 (8 + (y2.2.2.2.2.1.toNat)) 0).toNat) (8380416:Int)), y2.2.2.2.2.2.2.2.2.1, y2.2.2.2.2.2.2.2.2.2.1, ())) else none) else none) else none
   else
    if (y2.2.2.2.2.2.1 = (255:Int)) then
     ke (.inr ((0:Int), (List.set (List.set y2.2.2.2.2.2.2.2.1 (y2.2.2.2.2.2.1.toNat) (List.getD y2.2.2.2.2.2.2.2.1 ((List.getD y2.2.2.2.2.2.2.2.2.2.1 (8 + (y2.2.2.2.2.1.toNat)) 0).toNat) 0)) ((List.getD y2.2.2.2.2.2.2.2.2.2.1 (8 + (y2.2.2.2.2.1.toNat)) 0).toNat) (1:Int)), ()))
    else
     kn (y2.1, y2.2.1, y2.2.2.1, y2.2.2.2.1, (IntKind.i64.wrap (y2.2.2.2.2.1 + (1:Int))), (IntKind.i64.wrap (y2.2.2.2.2.2.1 + (1:Int))), y2.2.2.2.2.2.2.1, (List.set (List.set y2.2.2.2.2.2.2.2.1 (y2.2.2.2.2.2.1.toNat) (List.getD y2.2.2.2.2.2.2.2.1 ((List.getD y2.2.2.2.2.2.2.2.2.2.1 (8 + (y2.2.2.2.2.1.toNat)) 0).toNat) 0)) ((List.getD y2.2.2.2.2.2.2.2.2.2.1 (8 + (y2.2.2.2.2.1.toNat)) 0).toNat) (1:Int)), y2.2.2.2.2.2.2.2.2.1, y2.2.2.2.2.2.2.2.2.2.1, ()))) else none) else none) else none) else none) else none) else none) else none) else none) else none) else none) else none) else none) else none) else none) else none)
 else
  ke (.inl (x.2.2.2.2.2.2.1, ()))
noncomputable def b4i : Go' W20 := fun y K => match y with
 | .inl y => K (.exit 0) (fSt { tmps := pv 4 (.sc (.ptr 0 0 false) :: pv 87 []), mem := [.live [.xs b32 (some 256)] (.own)] } [.xs] y)
 | .inr y => K .ret (fSt { tmps := pv 4 (.sc (.ptr 0 0 false) :: .sc (.int .i64) :: pv 86 []), mem := [.live [.xs b32 (some 256)] (.own)] } [.int, .xs] y)
noncomputable def a69 (N : Nat) : LT := upd (a7a N) 10 (o6 b5U N (G1 N) b4i)
theorem b4j (N : Nat) : OkAll p_dring_Ball_E a7J N (a69 N) (w9 a1G) :=
 d6 (c := d7 10 a1G) (b4l N) (by kernel_rfl) (fun x => by kernel_rfl) (fun β x kn ke => by kernel_rfl)
abbrev a0A : List Kd := [.int .i64, .sl b8]
abbrev a0B : List Kd := [.xs b32 256, .int .i64]
noncomputable def a68 (N : Nat) (x : Int × List Int × Unit) : Option (List Int × Int) :=
 if (x.1 < (1:Int)) then
  some ((List.replicate 256 0), (1:Int))
 else
  if (x.1 > (64:Int)) then
   some ((List.replicate 256 0), (1:Int))
  else
   (v3 ((256:Int), (1032:Int), [x.2.1], ())).bind fun r1 => (
   if (r1.2 ≠ (0:Int)) then
    some ((List.replicate 256 0), (130:Int))
   else
    if 8 ≤ (List.length r1.1) then (
    if 8 ≤ (List.length r1.1) then (
    m7 (G1 N) N (x.1, ((List.length r1.1) - 8), ((List.length r1.1) - 8), (List.length r1.1), (0:Int), (IntKind.i64.wrap ((256:Int) - x.1)), (List.replicate 256 0), (List.replicate 256 0), (List.length r1.1), r1.1, ()) fun y => (match y with
    | .inl y3 => (
     some ((List.replicate 256 0), (130:Int)))
    | .inr y4 => (
     some (y4.2.1, y4.1)))) else none) else none)
theorem b9k (e0 : c8 Try.prog 42 E2) : p_dring_Ball_E.Ok Try.prog := AE.of_ok (all_cons a5x (all_cons T9 (all_cons u4 (all_cons E0 (all_cons a2D (all_cons q8 c6)))))) (all_cons ⟨e0, U3⟩ c6)
theorem c1l (hE : p_dring_Ball_E.Ok Try.prog) {g : Ds a0A → Option (Rs a0B)} (hg : ∀ x r, g x = some r → ∃ N, a68 N x = some r) : c8 Try.prog 33 ⟨a0A, a0B, g⟩ :=
 i5 (E := p_dring_Ball_E) (H := a7J) (L := fun N => a69 N) (c := a1G) (ks := a0A) (rs := a0B) (F := a68) hE mix Try.func33 (by kernel_rfl) (fun N => b4j N) (fun _ _ => by kernel_rfl) hg
noncomputable def p_dring_PackHints_E : AE := AE.of [(3, ty3), (4, ty4), (5, ty5), (23, ty23), (69, ty69), (76, ty76)] []
noncomputable def a2x : Hints := [(6, [0, 1, 6, 7, 27, 28]), (9, [0, 1, 6, 7, 8, 27, 28, 31]), (2000000, [6]), (2000001, [0, 1, 6, 7, 27, 28]), (2000002, [0, 1, 6, 7, 8, 27, 28]), (2000003, [0, 1, 6, 7, 8, 27, 28, 31]), (3000000, [4, 5])]
noncomputable def K7 : Code := (Try.f56).body.getD .skip
noncomputable def b0M : Shape := mkS { tmps := .sc (.vec 0 none 256) :: .sc (.int .i64) :: pv 4 (.sc (.vec 1 none 1) :: .sc (.int .i64) :: .sc (.int .i64) :: pv 18 (.sc (.int .i64) :: .sc (.int .i64) :: V :: V :: .sc (.int .i64) :: pv 29 [])), mem := [.live [.xs .bool none] (.ro), .live [.xs b8 none] (.own)] } [.nat, .int, .nat, .int, .int, .int, .int, .int, .nat, .xs, .nat, .xs]
abbrev W28 : Type := Nat × Int × Nat × Int × Int × Int × Int × Int × Nat × List Int × Nat × List Int × Unit
abbrev W29 : Type := (Int × Unit) ⊕ (Nat × Int × Nat × Int × Int × Int × Int × Nat × List Int × Nat × List Int × Unit)
noncomputable def C3 (N : Nat) (β : Type) (x : W28) (kn : W28 → Option β) (ke : W29 → Option β) : Option β :=
 if (x.2.2.2.2.2.2.2.1 < (256:Int)) then
  if 0 ≤ x.2.2.2.2.1 then (
  if x.2.2.2.2.1 < ((x.1 : Nat) : Int) then (
  if 0 ≤ x.2.2.2.2.2.2.2.1 then (
  if x.2.2.2.2.2.2.2.1 < 256 then (
  if (((x.2.2.2.2.1.toNat) * 256) + (x.2.2.2.2.2.2.2.1.toNat)) < x.2.2.2.2.2.2.2.2.1 then (
  if (¬ ((List.getD x.2.2.2.2.2.2.2.2.2.1 (((x.2.2.2.2.1.toNat) * 256) + (x.2.2.2.2.2.2.2.1.toNat)) 0) ≠ 0)) then
   kn (x.1, x.2.1, x.2.2.1, x.2.2.2.1, x.2.2.2.2.1, x.2.2.2.2.2.1, x.2.2.2.2.2.2.1, (IntKind.i64.wrap (x.2.2.2.2.2.2.2.1 + (1:Int))), x.2.2.2.2.2.2.2.2.1, x.2.2.2.2.2.2.2.2.2.1, x.2.2.2.2.2.2.2.2.2.2.1, x.2.2.2.2.2.2.2.2.2.2.2.1, ())
  else
   if (x.2.2.2.1 = x.2.1) then
    ke (.inl ((3:Int), ()))
   else
    if 0 ≤ x.2.2.2.1 then (
    if x.2.2.2.1 < ((x.2.2.1 : Nat) : Int) then (
    if (x.2.2.2.1.toNat) < x.2.2.2.2.2.2.2.2.2.2.1 then (
    kn (x.1, x.2.1, x.2.2.1, (IntKind.i64.wrap (x.2.2.2.1 + (1:Int))), x.2.2.2.2.1, x.2.2.2.2.2.1, x.2.2.2.2.2.2.1, (IntKind.i64.wrap (x.2.2.2.2.2.2.2.1 + (1:Int))), x.2.2.2.2.2.2.2.2.1, x.2.2.2.2.2.2.2.2.2.1, x.2.2.2.2.2.2.2.2.2.2.1, (List.set x.2.2.2.2.2.2.2.2.2.2.2.1 (x.2.2.2.1.toNat) (IntKind.u8.wrap x.2.2.2.2.2.2.2.1)), ())) else none) else none) else none) else none) else none) else none) else none) else none
 else
  ke (.inr (x.1, x.2.1, x.2.2.1, x.2.2.2.1, x.2.2.2.2.1, x.2.2.2.2.2.1, x.2.2.2.2.2.2.1, x.2.2.2.2.2.2.2.2.1, x.2.2.2.2.2.2.2.2.2.1, x.2.2.2.2.2.2.2.2.2.2.1, x.2.2.2.2.2.2.2.2.2.2.2.1, ()))
noncomputable def a9F : Go' W29 := fun y K => match y with
 | .inl y => K .ret (fSt { tmps := pv 4 (.sc (.nilsl) :: .sc (.int .i64) :: pv 55 []), mem := [] } [.int] y)
 | .inr y => K (.exit 2) (fSt { tmps := .sc (.vec 0 none 256) :: .sc (.int .i64) :: pv 4 (.sc (.vec 1 none 1) :: .sc (.int .i64) :: .sc (.int .i64) :: pv 18 (.sc (.int .i64) :: .sc (.int .i64) :: pv 32 [])), mem := [.live [.xs .bool none] (.ro), .live [.xs b8 none] (.own)] } [.nat, .int, .nat, .int, .int, .int, .int, .nat, .xs, .nat, .xs] y)
noncomputable def a3O (N : Nat) : LT := upd (LT.nil) 9 (o6 b0M N (C3 N) a9F)
theorem a9G (N : Nat) : OkAll p_dring_PackHints_E a2x N (a3O N) (w9 K7) :=
 d6 (c := d7 9 K7) (OkAll.nil) (by kernel_rfl) (fun x => by kernel_rfl) (fun β x kn ke => by kernel_rfl)
noncomputable def b0L : Shape := mkS { tmps := .sc (.vec 0 none 256) :: .sc (.int .i64) :: pv 4 (.sc (.vec 1 none 1) :: .sc (.int .i64) :: pv 19 (.sc (.int .i64) :: .sc (.int .i64) :: pv 32 [])), mem := [.live [.xs .bool none] (.ro), .live [.xs b8 none] (.own)] } [.nat, .int, .nat, .int, .int, .int, .nat, .xs, .nat, .xs]
abbrev W30 : Type := Nat × Int × Nat × Int × Int × Int × Nat × List Int × Nat × List Int × Unit
abbrev W31 : Type := (Int × Unit) ⊕ (Nat × Nat × List Int × Unit)
noncomputable def u9 (N : Nat) (β : Type) (x : W30) (kn : W30 → Option β) (ke : W31 → Option β) : Option β :=
 if (x.2.2.2.2.2.1 < x.2.2.2.2.1) then
  m7 (C3 N) N (x.1, x.2.1, x.2.2.1, x.2.2.2.1, x.2.2.2.2.2.1, x.2.2.2.2.1, x.2.2.2.2.2.1, (0:Int), x.2.2.2.2.2.2.1, x.2.2.2.2.2.2.2.1, x.2.2.2.2.2.2.2.2.1, x.2.2.2.2.2.2.2.2.2.1, ()) fun y => (match y with
  | .inl y1 => (
   ke (.inl (y1.1, ())))
  | .inr y2 => (
   if 0 ≤ (IntKind.i64.wrap (y2.2.1 + y2.2.2.2.2.1)) then (
   if (IntKind.i64.wrap (y2.2.1 + y2.2.2.2.2.1)) < ((y2.2.2.1 : Nat) : Int) then (
   if ((IntKind.i64.wrap (y2.2.1 + y2.2.2.2.2.1)).toNat) < y2.2.2.2.2.2.2.2.2.2.1 then (
   kn (y2.1, y2.2.1, y2.2.2.1, y2.2.2.2.1, y2.2.2.2.2.2.1, (IntKind.i64.wrap (y2.2.2.2.2.2.2.1 + (1:Int))), y2.2.2.2.2.2.2.2.1, y2.2.2.2.2.2.2.2.2.1, y2.2.2.2.2.2.2.2.2.2.1, (List.set y2.2.2.2.2.2.2.2.2.2.2.1 ((IntKind.i64.wrap (y2.2.1 + y2.2.2.2.2.1)).toNat) (IntKind.u8.wrap y2.2.2.2.1)), ())) else none) else none) else none))
 else
  ke (.inr (x.2.2.1, x.2.2.2.2.2.2.2.2.1, x.2.2.2.2.2.2.2.2.2.1, ()))
noncomputable def a9D : Go' W31 := fun y K => match y with
 | .inl y => K .ret (fSt { tmps := pv 4 (.sc (.nilsl) :: .sc (.int .i64) :: pv 55 []), mem := [] } [.int] y)
 | .inr y => K (.exit 0) (fSt { tmps := pv 6 (.sc (.vec 0 none 1) :: pv 54 []), mem := [.live [.xs b8 none] (.own)] } [.nat, .nat, .xs] y)
noncomputable def a3N (N : Nat) : LT := upd (a3O N) 6 (o6 b0L N (u9 N) a9D)
theorem a9E (N : Nat) : OkAll p_dring_PackHints_E a2x N (a3N N) (w9 K7) :=
 d6 (c := d7 6 K7) (a9G N) (by kernel_rfl) (fun x => by kernel_rfl) (fun β x kn ke => by kernel_rfl)
abbrev H5 : List Kd := [.sla .bool 256, .int .i64]
abbrev H6 : List Kd := [.sl b8, .int .i64]
noncomputable def a1b (N : Nat) (x : List Int × Int × Unit) : Option (List Int × Int) :=
 if ((((List.length x.1 / 256) : Nat) : Int) > (16:Int)) then
  some ([], (1:Int))
 else
  if (x.2.1 < (0:Int)) then
   some ([], (1:Int))
  else
   if (x.2.1 > (255:Int)) then
    some ([], (1:Int))
   else
    if 0 ≤ (IntKind.i64.wrap (x.2.1 + (((List.length x.1 / 256) : Nat) : Int))) then (
    if (IntKind.i64.wrap (x.2.1 + (((List.length x.1 / 256) : Nat) : Int))) = (IntKind.i64.wrap (x.2.1 + (((List.length x.1 / 256) : Nat) : Int))) then (
    if (IntKind.i64.wrap (x.2.1 + (((List.length x.1 / 256) : Nat) : Int))) * 1 ≤ 281474976710656 then (
    m7 (u9 N) N ((List.length x.1 / 256), x.2.1, ((IntKind.i64.wrap (x.2.1 + (((List.length x.1 / 256) : Nat) : Int))).toNat), (0:Int), (((List.length x.1 / 256) : Nat) : Int), (0:Int), (List.length x.1), x.1, ((IntKind.i64.wrap (x.2.1 + (((List.length x.1 / 256) : Nat) : Int))).toNat), (List.replicate ((IntKind.i64.wrap (x.2.1 + (((List.length x.1 / 256) : Nat) : Int))).toNat) 0), ()) fun y => (match y with
    | .inl y3 => (
     some ([], y3.1))
    | .inr y4 => (
     some (y4.2.2.1, (0:Int))))) else none) else none) else none
theorem b1I : p_dring_PackHints_E.Ok Try.prog := AE.of_ok (all_cons a5x (all_cons c3F (all_cons T9 (all_cons E0 (all_cons c41 (all_cons b8C c6)))))) c6
theorem b2X (hE : p_dring_PackHints_E.Ok Try.prog) {g : Ds H5 → Option (Rs H6)} (hg : ∀ x r, g x = some r → ∃ N, a1b N x = some r) : c8 Try.prog 56 ⟨H5, H6, g⟩ :=
 i5 (E := p_dring_PackHints_E) (H := a2x) (L := fun N => a3N N) (c := K7) (ks := H5) (rs := H6) (F := a1b) hE mix Try.func56 (by kernel_rfl) (fun N => a9E N) (fun _ _ => by kernel_rfl) hg
noncomputable def p_dring_UnpackHints_E : AE := AE.of [(3, ty3), (4, ty4), (5, ty5), (23, ty23), (69, ty69), (76, ty76)] []
noncomputable def O3 : Hints := [(6, [1, 2, 8, 9, 40, 41]), (12, [1, 2, 8, 9, 10, 11, 12, 40, 41]), (20, [8, 93, 94, 95]), (2000000, [1, 2, 8, 9]), (2000001, [1, 2, 8, 9, 40, 41]), (2000002, [1, 2, 8, 11, 40, 41]), (2000003, [1, 2, 8, 9, 10, 11, 12, 40, 41]), (2000004, [8]), (2000005, [8, 93, 94, 95]), (3000000, [6, 7])]
noncomputable def t6 : Code := (Try.f31).body.getD .skip
noncomputable def a7S : Shape := mkS { tmps := V :: .sc (.int .i64) :: .sc (.vec 0 none 1) :: pv 5 (.sc (.vec 1 none 256) :: .sc (.int .i64) :: .sc (.int .i64) :: .sc (.int .i64) :: .sc (.int .i64) :: pv 27 (.sc (.int .i64) :: .sc (.int .i64) :: pv 61 [])), mem := [.live [.xs b8 none] (.ro), .live [.xs .bool none] (.own)] } [.int, .nat, .nat, .int, .int, .int, .int, .int, .int, .nat, .xs, .nat, .xs]
abbrev W32 : Type := Int × Nat × Nat × Int × Int × Int × Int × Int × Int × Nat × List Int × Nat × List Int × Unit
abbrev W33 : Type := (Int × Unit) ⊕ (Int × Nat × Nat × Int × Int × Int × Nat × List Int × Nat × List Int × Unit)
noncomputable def v4 (N : Nat) (β : Type) (x : W32) (kn : W32 → Option β) (ke : W33 → Option β) : Option β :=
 if (x.2.2.2.2.2.2.1 < x.2.2.2.2.2.1) then
  if (x.2.2.2.2.2.2.1 > x.2.2.2.1) then
   if 0 ≤ x.2.2.2.2.2.2.1 then (
   if x.2.2.2.2.2.2.1 < ((x.2.1 : Nat) : Int) then (
   if (x.2.2.2.2.2.2.1.toNat) < x.2.2.2.2.2.2.2.2.2.1 then (
   if 0 ≤ (IntKind.i64.wrap (x.2.2.2.2.2.2.1 - (1:Int))) then (
   if (IntKind.i64.wrap (x.2.2.2.2.2.2.1 - (1:Int))) < ((x.2.1 : Nat) : Int) then (
   if ((IntKind.i64.wrap (x.2.2.2.2.2.2.1 - (1:Int))).toNat) < x.2.2.2.2.2.2.2.2.2.1 then (
   if ((List.getD x.2.2.2.2.2.2.2.2.2.2.1 (x.2.2.2.2.2.2.1.toNat) 0) ≤ (List.getD x.2.2.2.2.2.2.2.2.2.2.1 ((IntKind.i64.wrap (x.2.2.2.2.2.2.1 - (1:Int))).toNat) 0)) then
    ke (.inl ((150:Int), ()))
   else
    if 0 ≤ x.2.2.2.2.2.2.1 then (
    if x.2.2.2.2.2.2.1 < ((x.2.1 : Nat) : Int) then (
    if (x.2.2.2.2.2.2.1.toNat) < x.2.2.2.2.2.2.2.2.2.1 then (
    if 0 ≤ x.2.2.2.2.1 then (
    if x.2.2.2.2.1 < ((x.2.2.1 : Nat) : Int) then (
    if 0 ≤ (List.getD x.2.2.2.2.2.2.2.2.2.2.1 (x.2.2.2.2.2.2.1.toNat) 0) then (
    if (List.getD x.2.2.2.2.2.2.2.2.2.2.1 (x.2.2.2.2.2.2.1.toNat) 0) < 256 then (
    if (((x.2.2.2.2.1.toNat) * 256) + ((List.getD x.2.2.2.2.2.2.2.2.2.2.1 (x.2.2.2.2.2.2.1.toNat) 0).toNat)) < x.2.2.2.2.2.2.2.2.2.2.2.1 then (
    kn (x.1, x.2.1, x.2.2.1, x.2.2.2.1, x.2.2.2.2.1, x.2.2.2.2.2.1, (IntKind.i64.wrap (x.2.2.2.2.2.2.1 + (1:Int))), x.2.2.2.2.2.2.2.1, x.2.2.2.2.2.2.2.2.1, x.2.2.2.2.2.2.2.2.2.1, x.2.2.2.2.2.2.2.2.2.2.1, x.2.2.2.2.2.2.2.2.2.2.2.1, (List.set x.2.2.2.2.2.2.2.2.2.2.2.2.1 (((x.2.2.2.2.1.toNat) * 256) + ((List.getD x.2.2.2.2.2.2.2.2.2.2.1 (x.2.2.2.2.2.2.1.toNat) 0).toNat)) (1:Int)), ())) else none) else none) else none) else none) else none) else none) else none) else none) else none) else none) else none) else none) else none) else none
  else
   if 0 ≤ x.2.2.2.2.2.2.1 then (
   if x.2.2.2.2.2.2.1 < ((x.2.1 : Nat) : Int) then (
   if (x.2.2.2.2.2.2.1.toNat) < x.2.2.2.2.2.2.2.2.2.1 then (
   if 0 ≤ x.2.2.2.2.1 then (
   if x.2.2.2.2.1 < ((x.2.2.1 : Nat) : Int) then (
   if 0 ≤ (List.getD x.2.2.2.2.2.2.2.2.2.2.1 (x.2.2.2.2.2.2.1.toNat) 0) then (
   if (List.getD x.2.2.2.2.2.2.2.2.2.2.1 (x.2.2.2.2.2.2.1.toNat) 0) < 256 then (
   if (((x.2.2.2.2.1.toNat) * 256) + ((List.getD x.2.2.2.2.2.2.2.2.2.2.1 (x.2.2.2.2.2.2.1.toNat) 0).toNat)) < x.2.2.2.2.2.2.2.2.2.2.2.1 then (
   kn (x.1, x.2.1, x.2.2.1, x.2.2.2.1, x.2.2.2.2.1, x.2.2.2.2.2.1, (IntKind.i64.wrap (x.2.2.2.2.2.2.1 + (1:Int))), x.2.2.2.2.2.2.2.1, x.2.2.2.2.2.2.2.2.1, x.2.2.2.2.2.2.2.2.2.1, x.2.2.2.2.2.2.2.2.2.2.1, x.2.2.2.2.2.2.2.2.2.2.2.1, (List.set x.2.2.2.2.2.2.2.2.2.2.2.2.1 (((x.2.2.2.2.1.toNat) * 256) + ((List.getD x.2.2.2.2.2.2.2.2.2.2.1 (x.2.2.2.2.2.2.1.toNat) 0).toNat)) (1:Int)), ())) else none) else none) else none) else none) else none) else none) else none) else none
 else
  ke (.inr (x.1, x.2.1, x.2.2.1, x.2.2.2.2.2.1, x.2.2.2.2.2.2.2.1, x.2.2.2.2.2.2.2.2.1, x.2.2.2.2.2.2.2.2.2.1, x.2.2.2.2.2.2.2.2.2.2.1, x.2.2.2.2.2.2.2.2.2.2.2.1, x.2.2.2.2.2.2.2.2.2.2.2.2.1, ()))
noncomputable def a6S : Go' W33 := fun y K => match y with
 | .inl y => K .ret (fSt { tmps := pv 6 (.sc (.nilsl) :: .sc (.int .i64) :: pv 95 []), mem := [] } [.int] y)
 | .inr y => K (.exit 2) (fSt { tmps := V :: .sc (.int .i64) :: .sc (.vec 0 none 1) :: pv 5 (.sc (.vec 1 none 256) :: V :: V :: .sc (.int .i64) :: pv 28 (.sc (.int .i64) :: .sc (.int .i64) :: pv 61 [])), mem := [.live [.xs b8 none] (.ro), .live [.xs .bool none] (.own)] } [.int, .nat, .nat, .int, .int, .int, .nat, .xs, .nat, .xs] y)
noncomputable def a1L (N : Nat) : LT := upd (LT.nil) 12 (o6 a7S N (v4 N) a6S)
theorem a6T (N : Nat) : OkAll p_dring_UnpackHints_E O3 N (a1L N) (w9 t6) :=
 d6 (c := d7 12 t6) (OkAll.nil) (by kernel_rfl) (fun x => by kernel_rfl) (fun β x kn ke => by kernel_rfl)
noncomputable def a8J : Shape := mkS { tmps := V :: .sc (.int .i64) :: .sc (.vec 0 none 1) :: pv 5 (.sc (.vec 1 none 256) :: .sc (.int .i64) :: pv 30 (.sc (.int .i64) :: .sc (.int .i64) :: pv 61 [])), mem := [.live [.xs b8 none] (.ro), .live [.xs .bool none] (.own)] } [.int, .nat, .nat, .int, .int, .int, .nat, .xs, .nat, .xs]
abbrev W34 : Type := Int × Nat × Nat × Int × Int × Int × Nat × List Int × Nat × List Int × Unit
abbrev W35 : Type := (Int × Unit) ⊕ (Int × Nat × Nat × Int × Nat × List Int × Nat × List Int × Unit)
noncomputable def s5 (N : Nat) (β : Type) (x : W34) (kn : W34 → Option β) (ke : W35 → Option β) : Option β :=
 if (x.2.2.2.2.2.1 < x.2.2.2.2.1) then
  if 0 ≤ (IntKind.i64.wrap (x.1 + x.2.2.2.2.2.1)) then (
  if (IntKind.i64.wrap (x.1 + x.2.2.2.2.2.1)) < ((x.2.1 : Nat) : Int) then (
  if ((IntKind.i64.wrap (x.1 + x.2.2.2.2.2.1)).toNat) < x.2.2.2.2.2.2.1 then (
  if ((IntKind.i64.wrap (List.getD x.2.2.2.2.2.2.2.1 ((IntKind.i64.wrap (x.1 + x.2.2.2.2.2.1)).toNat) 0)) < x.2.2.2.1) then
   ke (.inl ((150:Int), ()))
  else
   if ((IntKind.i64.wrap (List.getD x.2.2.2.2.2.2.2.1 ((IntKind.i64.wrap (x.1 + x.2.2.2.2.2.1)).toNat) 0)) > x.1) then
    ke (.inl ((150:Int), ()))
   else
    m7 (v4 N) N (x.1, x.2.1, x.2.2.1, x.2.2.2.1, x.2.2.2.2.2.1, (IntKind.i64.wrap (List.getD x.2.2.2.2.2.2.2.1 ((IntKind.i64.wrap (x.1 + x.2.2.2.2.2.1)).toNat) 0)), x.2.2.2.1, x.2.2.2.2.1, x.2.2.2.2.2.1, x.2.2.2.2.2.2.1, x.2.2.2.2.2.2.2.1, x.2.2.2.2.2.2.2.2.1, x.2.2.2.2.2.2.2.2.2.1, ()) fun y => (match y with
    | .inl y1 => (
     ke (.inl (y1.1, ())))
    | .inr y2 => (
     kn (y2.1, y2.2.1, y2.2.2.1, y2.2.2.2.1, y2.2.2.2.2.1, (IntKind.i64.wrap (y2.2.2.2.2.2.1 + (1:Int))), y2.2.2.2.2.2.2.1, y2.2.2.2.2.2.2.2.1, y2.2.2.2.2.2.2.2.2.1, y2.2.2.2.2.2.2.2.2.2.1, ())))) else none) else none) else none
 else
  ke (.inr (x.1, x.2.1, x.2.2.1, x.2.2.2.1, x.2.2.2.2.2.2.1, x.2.2.2.2.2.2.2.1, x.2.2.2.2.2.2.2.2.1, x.2.2.2.2.2.2.2.2.2.1, ()))
noncomputable def a7U : Go' W35 := fun y K => match y with
 | .inl y => K .ret (fSt { tmps := pv 6 (.sc (.nilsl) :: .sc (.int .i64) :: pv 95 []), mem := [] } [.int] y)
 | .inr y => K (.exit 0) (fSt { tmps := V :: .sc (.int .i64) :: .sc (.vec 0 none 1) :: pv 5 (.sc (.vec 1 none 256) :: .sc (.int .i64) :: pv 93 []), mem := [.live [.xs b8 none] (.ro), .live [.xs .bool none] (.own)] } [.int, .nat, .nat, .int, .nat, .xs, .nat, .xs] y)
noncomputable def a2N (N : Nat) : LT := upd (a1L N) 6 (o6 a8J N (s5 N) a7U)
theorem a7V (N : Nat) : OkAll p_dring_UnpackHints_E O3 N (a2N N) (w9 t6) :=
 d6 (c := d7 6 t6) (a6T N) (by kernel_rfl) (fun x => by kernel_rfl) (fun β x kn ke => by kernel_rfl)
noncomputable def a7T : Shape := mkS { tmps := pv 8 (.sc (.vec 0 none 256) :: pv 84 (.sc (.sl 1 none none none 1) :: .sc (.int .i64) :: .sc (.int .i64) :: pv 7 [])), mem := [.live [.xs .bool none] (.own), .live [.xs b8 none] (.ro)] } [.nat, .nat, .nat, .nat, .int, .int, .nat, .xs, .nat, .xs]
abbrev W36 : Type := Nat × Nat × Nat × Nat × Int × Int × Nat × List Int × Nat × List Int × Unit
noncomputable def v5 (N : Nat) (β : Type) (x : W36) (kn : W36 → Option β) (ke : W31 → Option β) : Option β :=
 if (x.2.2.2.2.2.1 < x.2.2.2.2.1) then
  if 0 ≤ x.2.2.2.2.2.1 then (
  if x.2.2.2.2.2.1 < ((x.2.2.1 : Nat) : Int) then (
  if (c2m x.2.1 (x.2.2.2.2.2.1.toNat)) < x.2.2.2.2.2.2.2.2.1 then (
  if ((List.getD x.2.2.2.2.2.2.2.2.2.1 (c2m x.2.1 (x.2.2.2.2.2.1.toNat)) 0) ≠ (0:Int)) then
   ke (.inl ((150:Int), ()))
  else
   kn (x.1, x.2.1, x.2.2.1, x.2.2.2.1, x.2.2.2.2.1, (IntKind.i64.wrap (x.2.2.2.2.2.1 + (1:Int))), x.2.2.2.2.2.2.1, x.2.2.2.2.2.2.2.1, x.2.2.2.2.2.2.2.2.1, x.2.2.2.2.2.2.2.2.2.1, ())) else none) else none) else none
 else
  ke (.inr (x.1, x.2.2.2.2.2.2.1, x.2.2.2.2.2.2.2.1, ()))
noncomputable def a6U : Go' W31 := fun y K => match y with
 | .inl y => K .ret (fSt { tmps := pv 6 (.sc (.nilsl) :: .sc (.int .i64) :: pv 95 []), mem := [] } [.int] y)
 | .inr y => K (.exit 4) (fSt { tmps := pv 8 (.sc (.vec 0 none 256) :: pv 94 []), mem := [.live [.xs .bool none] (.own)] } [.nat, .nat, .xs] y)
noncomputable def a1M (N : Nat) : LT := upd (a2N N) 20 (o6 a7T N (v5 N) a6U)
theorem a6V (N : Nat) : OkAll p_dring_UnpackHints_E O3 N (a1M N) (w9 t6) :=
 d6 (c := d7 20 t6) (a7V N) (by kernel_rfl) (fun x => by kernel_rfl) (fun β x kn ke => by kernel_rfl)
abbrev C6 : List Kd := [.int .i64, .int .i64, .sl b8]
abbrev C7 : List Kd := [.sla .bool 256, .int .i64]
noncomputable def V2 (N : Nat) (x : Int × Int × List Int × Unit) : Option (List Int × Int) :=
 if (x.1 < (0:Int)) then
  some ([], (1:Int))
 else
  if (x.1 > (16:Int)) then
   some ([], (1:Int))
  else
   if (x.2.1 < (0:Int)) then
    some ([], (1:Int))
   else
    if (x.2.1 > (255:Int)) then
     some ([], (1:Int))
    else
     if ((((List.length x.2.2.1) : Nat) : Int) ≠ (IntKind.i64.wrap (x.2.1 + x.1))) then
      some ([], (1:Int))
     else
      if 0 ≤ x.1 then (
      if x.1 = x.1 then (
      if x.1 * 256 ≤ 281474976710656 then (
      m7 (s5 N) N (x.2.1, (List.length x.2.2.1), (x.1.toNat), (0:Int), (((x.1.toNat) : Nat) : Int), (0:Int), (List.length x.2.2.1), x.2.2.1, ((x.1.toNat) * 256), (List.replicate ((x.1.toNat) * 256) 0), ()) fun y => (match y with
      | .inl y3 => (
       some ([], y3.1))
      | .inr y4 => (
       if 0 ≤ y4.1 then (
       if y4.1 ≤ ((y4.2.1 : Nat) : Int) then (
       if 0 ≤ y4.2.2.2.1 then (
       if y4.2.2.2.1 ≤ (((y4.1.toNat) : Nat) : Int) then (
       m7 (v5 N) N (y4.2.2.1, (y4.2.2.2.1.toNat), (c9M (y4.1.toNat) (y4.2.2.2.1.toNat)), (c9M y4.2.1 (y4.2.2.2.1.toNat)), (((c9M (y4.1.toNat) (y4.2.2.2.1.toNat)) : Nat) : Int), (0:Int), y4.2.2.2.2.2.2.1, y4.2.2.2.2.2.2.2.1, y4.2.2.2.2.1, y4.2.2.2.2.2.1, ()) fun y => (match y with
       | .inl y5 => (
        some ([], y5.1))
       | .inr y6 => (
        some (y6.2.2.1, (0:Int))))) else none) else none) else none) else none))) else none) else none) else none
theorem a9M : p_dring_UnpackHints_E.Ok Try.prog := AE.of_ok (all_cons a5x (all_cons c3F (all_cons T9 (all_cons E0 (all_cons c41 (all_cons b8C c6)))))) c6
theorem b0S (hE : p_dring_UnpackHints_E.Ok Try.prog) {g : Ds C6 → Option (Rs C7)} (hg : ∀ x r, g x = some r → ∃ N, V2 N x = some r) : c8 Try.prog 31 ⟨C6, C7, g⟩ :=
 i5 (E := p_dring_UnpackHints_E) (H := O3) (L := fun N => a1M N) (c := t6) (ks := C6) (rs := C7) (F := V2) hE mix Try.func31 (by kernel_rfl) (fun N => a6V N) (fun _ _ => by kernel_rfl) hg
noncomputable def p_ref01_Equal_E : AE := AE.of [(5, ty5), (9, ty9), (23, ty23)] []
noncomputable def c1P : Hints := [(3000000, [4])]
noncomputable def c1Q : Code := (Try.f11).body.getD .skip
abbrev Z1 : List Kd := [.sl b8, .sl b8]
abbrev a5o : List Kd := [.bool]
noncomputable def a5N (N : Nat) (x : List Int × List Int × Unit) : Option (Bool) :=
 some (decide ((strOfNums x.1) = (strOfNums x.2.1)))
theorem b8n : p_ref01_Equal_E.Ok Try.prog := AE.of_ok (all_cons T9 (all_cons d5x (all_cons E0 c6))) c6
theorem b9T (hE : p_ref01_Equal_E.Ok Try.prog) {g : Ds Z1 → Option (Rs [.bool])} (hg : ∀ x r, g x = some r → ∃ N, a5N N x = some r) : c8 Try.prog 11 ⟨Z1, [.bool], g⟩ :=
 i5 (E := p_ref01_Equal_E) (H := c1P) (L := fun N => LT.nil) (c := c1Q) (ks := Z1) (rs := a5o) (F := a5N) hE mix Try.func11 (by kernel_rfl) (fun N => OkAll.nil) (fun _ _ => by kernel_rfl) hg
end Go.Ax.TryP
set_option linter.unusedVariables false
namespace Go.Ax.TryP
open Go.Proofs
theorem c9K {rate : Nat} {e : Int} {l : List Int} {n p : Nat} (h : p < n) : (a0f rate e l n).getD p 0 = b2I rate (Q6 rate e (z25, 0) l) p := by
 unfold a0f
 rw [List.getD_eq_getElem?_getD, List.getElem?_map, List.getElem?_range h]
 rfl
def c6h (L : List Int) : List Int := L ++ List.replicate (256 - L.length) 0
theorem c6i {L : List Int} {c : Int} (h : L.length < 256) : (c6h L).set L.length c = c6h (L ++ [c]) := by
 unfold c6h
 rw [List.set_append_right _ _ (Nat.le_refl _), Nat.sub_self, List.append_assoc]
 obtain ⟨k, hk⟩ : ∃ k, 256 - L.length = k + 1 := ⟨255 - L.length, by omega⟩
 rw [hk, List.replicate_succ, List.set_cons_zero, List.length_append, List.length_singleton, show 256 - (L.length + 1) = k by omega]
 rfl
theorem c3p {L : List Int} (h : L.length = 256) : c6h L = L := by simp [c6h, h]
theorem c9N {L : List Int} (h : L.length ≤ 256) : L.take 256 = L := List.take_of_length_le h
theorem c8C (f : Nat → List Int) (t : Nat) : ∀ d : Nat, ∃ r, a1k f (t + d) = a1k f t ++ r
 | 0 => ⟨[], by simp⟩
 | d + 1 => by
  obtain ⟨r, h⟩ := c8C f t d
  exact ⟨r ++ f (t + d), by rw [← Nat.add_assoc, a1k, h, List.append_assoc]⟩
theorem b1c {f : Nat → List Int} {t u : Nat} (h : t ≤ u) (h2 : 256 ≤ (a1k f t).length) : 256 ≤ (a1k f u).length ∧ (a1k f u).take 256 = (a1k f t).take 256 := by
 obtain ⟨r, e⟩ := c8C f t (u - t)
 rw [show t + (u - t) = u by omega] at e
 rw [e]
 exact ⟨by simp; omega, by rw [List.take_append_of_le_length h2]⟩
theorem a89 {n : Nat} (h : n < 2 ^ 31) : IntKind.i32.wrap (n : Int) = n := M4 (by omega) (by omega)
theorem c7K {m n : Nat} (hm : m < 2 ^ 31) (hn : n < 2 ^ 31) : ior .i32 (m : Int) (n : Int) = ((m ||| n : Nat) : Int) := by
 unfold ior
 rw [BitVec.toNat_or, a1Y (k := .i32) (Nat.lt_of_lt_of_le hm (by decide)), a1Y (k := .i32) (Nat.lt_of_lt_of_le hn (by decide))]
 exact a89 (Nat.or_lt_two_pow hm hn)
theorem b5D {m s : Nat} (hs : s ≤ 32) (h : m * 2 ^ s < 2 ^ 31) : b0E .i32 (m : Int) (s : Int) = ((m * 2 ^ s : Nat) : Int) := by
 unfold b0E
 rw [Int.toNat_natCast, Nat.min_eq_left (show s ≤ IntKind.i32.bits from hs)]
 have : (m : Int) * 2 ^ s = ((m * 2 ^ s : Nat) : Int) := by simp
 rw [this]
 exact a89 h
theorem d89 {x y z : Int} (hx : 0 ≤ x ∧ x ≤ 255) (hy : 0 ≤ y ∧ y ≤ 255) (hz : 0 ≤ z ∧ z ≤ 255) :
  ior IntKind.i32 (ior IntKind.i32 (IntKind.i32.wrap x) (b0E IntKind.i32 (IntKind.i32.wrap y) (8:Int))) (b0E IntKind.i32 (IntKind.i32.wrap (b8M IntKind.u8 z (127:Int))) (16:Int)) = x + 256 * y + 65536 * (z % 128) := by
 obtain ⟨x, rfl⟩ : ∃ m : Nat, x = m := ⟨x.toNat, by omega⟩
 obtain ⟨y, rfl⟩ : ∃ m : Nat, y = m := ⟨y.toNat, by omega⟩
 obtain ⟨z, rfl⟩ : ∃ m : Nat, z = m := ⟨z.toNat, by omega⟩
 have e : b8M .u8 (z : Int) 127 = ((z % 128 : Nat) : Int) := by
  rw [show (127 : Int) = ((127 : Nat) : Int) from rfl, b5C rfl (by simp [IntKind.bits]; omega) (by decide), show (127 : Nat) = 2 ^ 7 - 1 from rfl, Nat.and_two_pow_sub_one_eq_mod]
 have h1 : x ||| y * 2 ^ 8 = x + y * 2 ^ 8 := c9u (by omega)
 have h2 : (x + y * 2 ^ 8) ||| (z % 128) * 2 ^ 16 = x + y * 2 ^ 8 + (z % 128) * 2 ^ 16 := c9u (by omega)
 rw [e, a89 (n := x) (by omega), a89 (n := y) (by omega), a89 (n := z % 128) (by omega), show (8 : Int) = ((8 : Nat) : Int) from rfl, show (16 : Int) = ((16 : Nat) : Int) from rfl, b5D (by omega) (by omega), b5D (by omega) (by omega), c7K (by omega) (by omega), h1, c7K (by omega) (by omega), h2]
 omega
theorem d4n {s : List Int} {t : Nat} (h : c2p s t < 8380417) : a1k (b1C s) (t + 1) = a1k (b1C s) t ++ [c2p s t] := by show _ ++ b1C s t = _; rw [b1C, if_pos h]
theorem d6C {s : List Int} {t : Nat} (h : ¬ c2p s t < 8380417) : a1k (b1C s) (t + 1) = a1k (b1C s) t := by show _ ++ b1C s t = _; rw [b1C, if_neg h, List.append_nil]
abbrev rA (s : List Int) : List Int := Q6 168 31 (z25, 0) s
def rjX (s : List Int) (t : Nat) : Int × Int × List Int × List Int × Bool × List Int × Int × Int × Int × Unit :=
 (((a1k (b1C s) t).length : Int), (t : Int), z256, c6h (a1k (b1C s) t), true, (V8 168 (rA s) (3 * t)).1, 168, ((V8 168 (rA s) (3 * t)).2 : Int), 3 * (t : Int), ())
abbrev Orj := (List Int × Unit) ⊕ (Int × List Int × Unit)
theorem d1l {s : List Int} {t : Nat} (ht : t < 1024) : o0 ((true, (V8 168 (rA s) (3 * t)).1, 168, ((V8 168 (rA s) (3 * t)).2 : Int), 3 * (t : Int), ()), 3, ())
  = some ([shk s (3 * t), shk s (3 * t + 1), shk s (3 * t + 2)], 0, (true, (V8 168 (rA s) (3 * (t + 1))).1, 168, ((V8 168 (rA s) (3 * (t + 1))).2 : Int), 3 * ((t + 1 : Nat) : Int), ())) := by
 have h := d1k (rate := 168) (A := rA s) (P := 3 * t) (n := 3) (by omega) (c5e 168 (by omega) 31 s) (by omega) (c := 3 * (t : Int)) (by omega)
 rw [show 3 * (t + 1) = 3 * t + 3 by omega, show (3 : Int) * ((t + 1 : Nat) : Int) = 3 * (t : Int) + ((3 : Nat) : Int) by omega]
 exact h
theorem d6N {s : List Int} {t : Nat} (ht : t < 1024) (hL : (a1k (b1C s) t).length < 256) {N : Nat} {β : Type} (kn : _ → Option β) (ke : Orj → Option β) :
  w7 N β (rjX s t) kn ke = if (a1k (b1C s) (t + 1)).length < 256 then kn (rjX s (t + 1)) else ke (.inr (0, (a1k (b1C s) (t + 1)).take 256, ())) := by
 have b0 := d0Y s (3 * t)
 have b1 := d0Y s (3 * t + 1)
 have b2 := d0Y s (3 * t + 2)
 have wt : IntKind.i64.wrap ((t : Int) + 1) = ((t + 1 : Nat) : Int) := by rw [c7 (by omega) (by omega)]; omega
 unfold w7 rjX
 dsimp only
 rw [if_pos (by omega), d1l ht, Option.bind_some]
 dsimp only
 rw [if_neg (by omega), if_pos (by omega), if_pos (by simp), if_pos (by simp), if_pos (by omega), if_pos (by simp), if_pos (by simp), if_pos (by omega), if_pos (by simp), if_pos (by simp)]
 have e : ior IntKind.i32 (ior IntKind.i32 (IntKind.i32.wrap (List.getD [shk s (3 * t), shk s (3 * t + 1), shk s (3 * t + 2)] 0 0)) (b0E IntKind.i32 (IntKind.i32.wrap (List.getD [shk s (3 * t), shk s (3 * t + 1), shk s (3 * t + 2)] 1 0)) (8:Int))) (b0E IntKind.i32 (IntKind.i32.wrap (b8M IntKind.u8 (List.getD [shk s (3 * t), shk s (3 * t + 1), shk s (3 * t + 2)] 2 0) (127:Int))) (16:Int)) = c2p s t := d89 b0 b1 b2
 rw [e, wt]
 by_cases h : c2p s t < 8380417
 ·rw [if_neg (by omega), if_pos (by omega), if_pos (by omega), if_pos (by omega), Int.toNat_natCast, c6i hL, d4n h, List.length_append, List.length_singleton, c7 (by omega) (by omega)]
  by_cases g : (a1k (b1C s) t).length + 1 < 256
  ·rw [if_neg (by omega), if_pos g]
   rfl
  ·rw [if_pos (by omega), if_neg g]
   have gl : (a1k (b1C s) t ++ [c2p s t]).length = 256 := by rw [List.length_append, List.length_singleton]; omega
   rw [c3p gl, c9N (by omega)]
 ·rw [if_pos (by omega), d6C h, if_pos hL]
  rfl
theorem d5o {s : List Int} {N : Nat} {β : Type} (k : Orj → Option β) : ∀ j t : Nat, t + j = 1024 → (a1k (b1C s) t).length < 256 → ∀ n, j < n →
  m7 (w7 N) n (rjX s t) k = if (a1k (b1C s) 1024).length < 256 then k (.inl (z256, ())) else k (.inr (0, (a1k (b1C s) 1024).take 256, ()))
 | 0, t, h, hL, n, hn => by
  obtain ⟨n, rfl⟩ : ∃ m, n = m + 1 := ⟨n - 1, by omega⟩
  have h : t = 1024 := by omega
  subst h
  rw [if_pos hL]
  simp only [m7]
  unfold w7 rjX
  dsimp only
  rw [if_neg (by omega)]
 | j + 1, t, h, hL, n, hn => by
  obtain ⟨n, rfl⟩ : ∃ m, n = m + 1 := ⟨n - 1, by omega⟩
  simp only [m7]
  rw [d6N (by omega) hL]
  split
  ·rename_i h2
   exact d5o k j (t + 1) (by omega) h2 n (by omega)
  ·rename_i h2
   obtain ⟨q1, q2⟩ := b1c (f := b1C s) (t := t + 1) (u := 1024) (by omega) (by omega)
   rw [if_neg (by omega), q2]
theorem c5n {l : List Int} (hl : l.length ≤ 4294967000 ∧ ∀ z ∈ l, 0 ≤ z ∧ z ≤ 255) : D4 ([l], ()) = some (true, rA l, 168, 0, 0, ()) := by
 have e := c0s (c9t hl)
 rwa [d7T] at e
theorem c2V : ∀ x r, Z8 x = some r → ∃ N, a4t N x = some r := by
 refine d9 (ks := R9) (rs := S0) fun x hw hq => ⟨1025, ?_⟩
 obtain ⟨(l : List Int), u⟩ := x
 have hl := a98.1 hw.1
 unfold a4t d2R
 dsimp only
 by_cases h : l.length = 34
 ·rw [if_neg (by omega), if_neg (by omega)]
  rw [c5n ⟨by show l.length ≤ _; omega, hl.2⟩, Option.bind_some]
  have hst : V8 168 (rA l) (3 * 0) = (rA l, 0) := b8B _ (by omega) (by omega)
  have hx : rjX l 0 = ((0 : Int), (0 : Int), z256, z256, true, rA l, 168, 0, 0, ()) := by unfold rjX; rw [hst]; rfl
  show m7 (w7 1025) 1025 ((0 : Int), (0 : Int), z256, z256, true, rA l, 168, 0, 0, ()) _ = _
  rw [← hx]
  refine (d5o _ 1024 0 (by omega) (by show 0 < 256; omega) _ (by omega)).trans ?_
  generalize a1k (b1C l) 1024 = L
  by_cases g : L.length < 256
  ·rw [if_pos g, if_pos g]
  ·rw [if_neg g, if_neg g]
 ·rw [if_pos (by omega), if_pos h]
theorem c6r : ∀ x r, a65 x = some r → ∃ N, a7f N x = some r := by
 refine d9 (ks := a0J) (rs := a0K) fun x hw hq => ⟨0, ?_⟩
 obtain ⟨(eta : Int), (h : Int), u⟩ := x
 have hh : 0 ≤ h ∧ h ≤ 255 := U6.1 hw.2.1
 have e2 : Int.tmod h 5 = h % 5 := Int.tmod_eq_emod_of_nonneg hh.1
 unfold a7f c7D
 dsimp only
 rw [e2, M4 (x := h) (by omega) (by omega), M4 (x := h % 5) (by omega) (by omega), M4 (x := 2 - h % 5) (by omega) (by omega), M4 (x := 4 - h) (by omega) (by omega)]
 by_cases h1 : eta = 2
 ·subst h1
  by_cases h3 : h < 15
  ·rw [if_pos rfl, if_pos h3, if_pos ⟨rfl, h3⟩]
  ·rw [if_pos rfl, if_neg h3, if_neg (by omega), if_neg (by omega), if_neg (by omega)]
 ·rw [if_neg h1, if_neg (by omega : ¬(eta = 2 ∧ h < 15))]
  by_cases h2 : eta = 4
  ·by_cases h3 : h < 9
   ·rw [if_pos h2, if_pos h3, if_pos ⟨h2, h3⟩]
   ·rw [if_pos h2, if_neg h3, if_neg (by omega)]
  ·rw [if_neg h2, if_neg (by omega)]
theorem d5N {eta h : Int} (he : eta = 2 ∨ eta = 4) (hh : 0 ≤ h ∧ h ≤ 255) : a65 (eta, h, ()) = some (c7D eta h) :=
 d8 (ks := a0J) (rs := a0K) (x := (eta, h, ())) ⟨u2.2 (by show _ ≤ eta ∧ eta ≤ _; omega), U6.2 hh, trivial⟩ trivial
def okH (eta h : Int) : Prop := (eta = 2 ∧ h < 15) ∨ (eta = 4 ∧ h < 9)
def nmH (eta h : Int) : Int := if eta = 2 then 2 - h % 5 else 4 - h
theorem d36 {eta h : Int} (k : okH eta h) : c7D eta h = (nmH eta h, true) := by
 unfold c7D nmH
 rcases k with ⟨rfl, k⟩ | ⟨rfl, k⟩
 ·rw [if_pos ⟨rfl, k⟩, if_pos rfl]
 ·rw [if_neg (by omega), if_pos ⟨rfl, k⟩, if_neg (by omega)]
theorem d6h {eta h : Int} (k : ¬ okH eta h) : c7D eta h = (0, false) := by
 unfold c7D
 unfold okH at k
 rw [if_neg (by omega), if_neg (by omega)]
theorem d7d {eta h : Int} (k : okH eta h) : d5z eta h = [nmH eta h % 8380417] := by
 unfold d5z nmH
 rcases k with ⟨rfl, k⟩ | ⟨rfl, k⟩
 ·rw [if_pos rfl, if_pos k, if_pos rfl]
 ·rw [if_neg (by omega), if_pos k, if_neg (by omega)]
theorem d8H {eta h : Int} (he : eta = 2 ∨ eta = 4) (k : ¬ okH eta h) : d5z eta h = [] := by
 unfold d5z
 unfold okH at k
 rcases he with rfl | rfl
 ·rw [if_pos rfl, if_neg (by omega)]
 ·rw [if_neg (by omega), if_neg (by omega)]
theorem d18 (s : List Int) (t : Nat) : 0 ≤ a8v s t ∧ a8v s t ≤ 15 := by
 have := d20 s (t / 2)
 unfold a8v
 split <;> omega
theorem d1z {eta : Int} {s : List Int} {t : Nat} (h : okH eta (a8v s t)) : a1k (a5A eta s) (t + 1) = a1k (a5A eta s) t ++ [nmH eta (a8v s t) % 8380417] := by show _ ++ a5A eta s t = _; rw [a5A, d7d h]
theorem d49 {eta : Int} {s : List Int} {t : Nat} (he : eta = 2 ∨ eta = 4) (h : ¬ okH eta (a8v s t)) : a1k (a5A eta s) (t + 1) = a1k (a5A eta s) t := by show _ ++ a5A eta s t = _; rw [a5A, d8H he h, List.append_nil]
theorem d9p {eta h : Int} (hh : 0 ≤ h ∧ h ≤ 15) : -11 ≤ nmH eta h ∧ nmH eta h ≤ 4 := by unfold nmH; split <;> omega
abbrev spB (s : List Int) : List Int := a0f 136 31 s 1024
abbrev Ib := Int × Int × Nat × Int × Int × List Int × Int × List Int × List Int × Nat × List Int × Unit
abbrev Ob := (Int × List Int × Unit) ⊕ (Int × Int × Nat × Int × Int × List Int × List Int × Nat × List Int × Unit)
def biX (eta : Int) (s : List Int) (q j : Nat) (cs : List Int) : Ib :=
 (eta, ((a1k (a5A eta s) (2 * q + j)).length : Int), 1024, 1024, (q : Int), cs, (j : Int), z256, c6h (a1k (a5A eta s) (2 * q + j)), 1024, spB s, ())
theorem d1x {eta : Int} (he : eta = 2 ∨ eta = 4) {s : List Int} {q j : Nat} (hj : j < 2) {cs : List Int} (hc : cs.getD j 0 = a8v s (2 * q + j)) (hL : (a1k (a5A eta s) (2 * q + j)).length < 256) {N : Nat} {β : Type} (kn : Ib → Option β) (ke : Ob → Option β) :
  q9 N β (biX eta s q j cs) kn ke = if (a1k (a5A eta s) (2 * q + j + 1)).length < 256 then kn (biX eta s q (j + 1) cs) else ke (.inl (0, (a1k (a5A eta s) (2 * q + j + 1)).take 256, ())) := by
 have hb := d18 s (2 * q + j)
 have hn := d9p (eta := eta) hb
 have wj : IntKind.i64.wrap ((j : Int) + 1) = ((j + 1 : Nat) : Int) := by rw [c7 (by omega) (by omega)]; omega
 unfold q9 biX
 dsimp only
 rw [if_pos (by omega), if_pos (by omega), if_pos (by omega), if_pos (by omega), Int.toNat_natCast, hc, d5N he (by omega), Option.bind_some]
 by_cases h : okH eta (a8v s (2 * q + j))
 ·rw [d36 h, if_neg (by simp)]
  dsimp only
  rw [c7 (x := nmH _ _) (by omega) (by omega), a5z (by omega) (by omega), Option.bind_some, if_pos (by omega), if_pos (by omega), if_pos (by omega), Int.toNat_natCast, c6i hL, d1z h, List.length_append, List.length_singleton, c7 (by omega) (by omega), wj]
  by_cases g : (a1k (a5A eta s) (2 * q + j)).length + 1 < 256
  ·rw [if_neg (by omega), if_pos g, show 2 * q + (j + 1) = 2 * q + j + 1 by omega, d1z h, List.length_append, List.length_singleton]
   rfl
  ·rw [if_pos (by omega), if_neg g]
   have gl : (a1k (a5A eta s) (2 * q + j) ++ [nmH eta (a8v s (2 * q + j)) % 8380417]).length = 256 := by rw [List.length_append, List.length_singleton]; omega
   rw [c3p gl, c9N (by omega)]
 ·rw [d6h h, if_pos (by simp), d49 he h, if_pos hL, wj, show 2 * q + (j + 1) = 2 * q + j + 1 by omega, d49 he h]
abbrev Jb := Int × Int × Nat × Int × Int × List Int × List Int × Nat × List Int × Unit
def boX (eta : Int) (s : List Int) (q : Nat) : Jb :=
 (eta, ((a1k (a5A eta s) (2 * q)).length : Int), 1024, 1024, (q : Int), z256, c6h (a1k (a5A eta s) (2 * q)), 1024, spB s, ())
theorem d70 {s : List Int} {q : Nat} (hq : q < 1024) :
  List.set (List.set (List.replicate 2 (0 : Int)) 0 (b8M IntKind.u8 (List.getD (spB s) q 0) (15:Int))) 1 (b9g IntKind.u8 (List.getD (spB s) q 0) (4:Int)) = [a8v s (2 * q), a8v s (2 * q + 1)] := by
 have e : (spB s).getD q 0 = shb s q := c9K hq
 have hb := d20 s q
 rw [e]
 have e0 : a8v s (2 * q) = shb s q % 16 := by unfold a8v; rw [if_pos (by omega), show 2 * q / 2 = q by omega]
 have e1 : a8v s (2 * q + 1) = shb s q / 16 := by unfold a8v; rw [if_neg (by omega), show (2 * q + 1) / 2 = q by omega]
 rw [e0, e1]
 generalize shb s q = y at hb
 obtain ⟨y, rfl⟩ : ∃ m : Nat, y = m := ⟨y.toNat, by omega⟩
 have a : b8M .u8 (y : Int) 15 = ((y % 16 : Nat) : Int) := by
  rw [show (15 : Int) = ((15 : Nat) : Int) from rfl, b5C rfl (by simp [IntKind.bits]; omega) (by decide), show (15 : Nat) = 2 ^ 4 - 1 from rfl, Nat.and_two_pow_sub_one_eq_mod]
 have b : b9g .u8 (y : Int) 4 = ((y / 16 : Nat) : Int) := by
  rw [show (4 : Int) = ((4 : Nat) : Int) from rfl, a9p (by decide)]
 rw [a, b]
 simp
theorem d5X {eta : Int} (he : eta = 2 ∨ eta = 4) {s : List Int} {q : Nat} (hq : q < 1024) (hL : (a1k (a5A eta s) (2 * q)).length < 256) {N : Nat} {β : Type} (kn : Jb → Option β) (ke : (Int × List Int × Unit) ⊕ (List Int × Unit) → Option β) :
  j8 (N + 3) β (boX eta s q) kn ke = if (a1k (a5A eta s) (2 * (q + 1))).length < 256 then kn (boX eta s (q + 1)) else ke (.inl (0, (a1k (a5A eta s) (2 * (q + 1))).take 256, ())) := by
 have wq : IntKind.i64.wrap ((q : Int) + 1) = ((q + 1 : Nat) : Int) := by rw [c7 (by omega) (by omega)]; omega
 unfold j8 boX
 dsimp only
 rw [if_pos (by omega), if_pos (by omega), if_pos (by omega), if_pos (by omega), Int.toNat_natCast, d70 hq]
 show m7 (q9 (N + 3)) (N + 3) (biX eta s q 0 [a8v s (2 * q), a8v s (2 * q + 1)]) _ = _
 simp only [m7]
 rw [d1x he (j := 0) (by omega) rfl hL]
 rw [show 2 * (q + 1) = 2 * q + 0 + 1 + 1 by omega]
 by_cases g : (a1k (a5A eta s) (2 * q + 0 + 1)).length < 256
 ·rw [if_pos g, d1x he (j := 1) (by omega) rfl g]
  show (if (a1k (a5A eta s) (2 * q + 0 + 1 + 1)).length < 256 then _ else _) = _
  by_cases g2 : (a1k (a5A eta s) (2 * q + 0 + 1 + 1)).length < 256
  ·rw [if_pos g2, if_pos g2]
   unfold q9 biX
   dsimp only
   rw [if_neg (by omega), wq]
  ·rw [if_neg g2, if_neg g2]
 ·rw [if_neg g]
  obtain ⟨q1, q2⟩ := b1c (f := a5A eta s) (t := 2 * q + 0 + 1) (u := 2 * q + 0 + 1 + 1) (by omega) (by omega)
  rw [if_neg (by omega), q2]
theorem d5a {eta : Int} (he : eta = 2 ∨ eta = 4) {s : List Int} {N : Nat} {β : Type} (k : (Int × List Int × Unit) ⊕ (List Int × Unit) → Option β) : ∀ j q : Nat, q + j = 1024 → (a1k (a5A eta s) (2 * q)).length < 256 → ∀ n, j < n →
  m7 (j8 (N + 3)) n (boX eta s q) k = if (a1k (a5A eta s) 2048).length < 256 then k (.inr (z256, ())) else k (.inl (0, (a1k (a5A eta s) 2048).take 256, ()))
 | 0, q, h, hL, n, hn => by
  obtain ⟨n, rfl⟩ : ∃ m, n = m + 1 := ⟨n - 1, by omega⟩
  have h : q = 1024 := by omega
  subst h
  rw [if_pos hL]
  simp only [m7]
  unfold j8 boX
  dsimp only
  rw [if_neg (by omega)]
 | j + 1, q, h, hL, n, hn => by
  obtain ⟨n, rfl⟩ : ∃ m, n = m + 1 := ⟨n - 1, by omega⟩
  simp only [m7]
  rw [d5X he (by omega) hL]
  split
  ·rename_i h2
   exact d5a he k j (q + 1) (by omega) h2 n (by omega)
  ·rename_i h2
   obtain ⟨q1, q2⟩ := b1c (f := a5A eta s) (t := 2 * (q + 1)) (u := 2048) (by omega) (by omega)
   rw [if_neg (by omega), q2]
theorem b1e {l : List Int} {n : Nat} (hn : n ≤ 1048576) (hl : l.length ≤ 4294967000 ∧ ∀ z ∈ l, 0 ≤ z ∧ z ≤ 255) : v3 (256, (n : Int), [l], ()) = some (a0f 136 31 l n, 0) := by
 have e := c8H (b := 256) (.inr rfl) hn (c9t hl)
 rwa [d7T, if_neg (by omega)] at e
theorem b6N : ∀ x r, G0 x = some r → ∃ N, a0h N x = some r := by
 refine d9 (ks := E8) (rs := E9) fun x hw hq => ⟨1025 + 3, ?_⟩
 obtain ⟨(eta : Int), (l : List Int), u⟩ := x
 have hl := a98.1 hw.2.1
 unfold a0h c8O
 dsimp only
 have main : (eta = 2 ∨ eta = 4) → l.length = 66 → ∀ F : _ → Option (List Int × Int), (∀ y, F (.inl y) = some (y.2.1, y.1)) → (∀ y, F (.inr y) = some (z256, 130)) →
   m7 (j8 (1025 + 3)) (1025 + 3) (eta, (0 : Int), (spB l).length, (((spB l).length : Nat) : Int), (0 : Int), z256, z256, (spB l).length, spB l, ()) F = some (if (a1k (a5A eta l) 2048).length < 256 then (z256, 130) else ((a1k (a5A eta l) 2048).take 256, 0)) := by
  intro he h F F1 F2
  rw [c4S]
  have hx : boX eta l 0 = (eta, (0 : Int), 1024, ((1024 : Nat) : Int), (0 : Int), z256, z256, 1024, spB l, ()) := rfl
  rw [← hx]
  refine (d5a he _ 1024 0 (by omega) (by show 0 < 256; omega) _ (by omega)).trans ?_
  generalize a1k (a5A eta l) 2048 = L
  by_cases g : L.length < 256
  ·rw [if_pos g, if_pos g, F2]
  ·rw [if_neg g, if_neg g, F1]
 by_cases he : eta = 2 ∨ eta = 4
 ·by_cases h : l.length = 66
  ·rw [if_neg (by omega : ¬((eta ≠ 2 ∧ eta ≠ 4) ∨ l.length ≠ 66))]
   have e := b1e (l := l) (n := 1024) (by omega) ⟨by omega, hl.2⟩
   rcases he with h2 | h4
   ·rw [if_neg (by omega), if_neg (by omega)]
    refine (congrArg (fun o => Option.bind o _) e).trans ?_
    rw [Option.bind_some, if_neg (by simp)]
    dsimp only; refine (main (.inl h2) h _ ?_ ?_) <;> intro y <;> rfl
   ·rw [if_pos (by omega), if_neg (by omega), if_neg (by omega)]
    refine (congrArg (fun o => Option.bind o _) e).trans ?_
    rw [Option.bind_some, if_neg (by simp)]
    dsimp only; refine (main (.inr h4) h _ ?_ ?_) <;> intro y <;> rfl
  ·rw [if_pos (show (eta ≠ 2 ∧ eta ≠ 4) ∨ l.length ≠ 66 from .inr h)]
   rcases he with h2 | h4
   ·rw [if_neg (by omega), if_pos (by omega)]
   ·rw [if_pos (by omega), if_neg (by omega), if_pos (by omega)]
 ·rw [if_pos (by omega), if_pos (by omega), if_pos (by omega)]
theorem d5Y {b : List Int} (h : ∀ z ∈ b, 0 ≤ z ∧ z ≤ 255) (i : Nat) : 0 ≤ b.getD i 0 ∧ b.getD i 0 ≤ 255 := by
 by_cases hi : i < b.length
 ·exact h _ (a5E hi)
 ·rw [b5B (by omega)]; omega
theorem d8k {k : Nat} (h : k ≤ 23) : (2 : Int) ^ k ≤ 8388608 := by
 have : 2 ^ k ≤ 2 ^ 23 := Nat.pow_le_pow_right (by omega) h
 have e : ((2 ^ k : Nat) : Int) = (2 : Int) ^ k := by simp
 omega
theorem d73 {i d n : Nat} (hi : i < n) : i * d + d ≤ n * d := by
 have h : (i + 1) * d ≤ n * d := Nat.mul_le_mul_right d hi
 rwa [Nat.succ_mul] at h
theorem c3O (b : List Int) (t : Nat) : 0 ≤ b7j b t ∧ b7j b t ≤ 1 := d1y _ _
theorem d4S {d : Int} {b : List Int} : a3G [.int .i64, .sl (.int .u8)] (d, b, ()) ↔ (-9223372036854775808 ≤ d ∧ d ≤ 9223372036854775807) ∧ (b.length ≤ maxLen ∧ ∀ z ∈ b, 0 ≤ z ∧ z ≤ 255) := by
 have : Kd.wf (.int .i64) d ↔ -9223372036854775808 ≤ d ∧ d ≤ 9223372036854775807 := u2
 simp only [a3G, a98, and_true, this]
def d2y (w : Nat) (b : List Int) (i : Nat) : Int := c27 w fun k => b7j b (i * w + k)
theorem d2z {w : Nat} (b : List Int) (i : Nat) (hw : w ≤ 23) : 0 ≤ d2y w b i ∧ d2y w b i < 8388608 := by
 have := c3E (n := w) (c := fun k => b7j b (i * w + k)) fun s _ => c3O b _
 have := d8k hw
 unfold d2y
 omega
theorem set_same {l : List Int} {i : Nat} {v : Int} (h : l.getD i 0 = v) (hi : i < l.length) : l.set i v = l := by
 subst h
 refine rows.ext (by simp) rfl fun j _ => ?_
 by_cases hj : i = j
 ·subst hj; exact a2u hi
 ·exact getD_set_ne hj
theorem d2g {A b : Int} {s : Nat} (hA : 0 ≤ A ∧ A < 2 ^ s) (hb : 0 ≤ b ∧ b ≤ 1) (hs : s ≤ 22) : ior .i32 A (b0E .i32 b (s : Int)) = A + b * 2 ^ s := by
 obtain ⟨m, rfl⟩ := Int.eq_ofNat_of_zero_le hA.1
 obtain ⟨c, rfl⟩ := Int.eq_ofNat_of_zero_le hb.1
 have hc : c ≤ 1 := by omega
 have hm : m < 2 ^ s := by have := hA.2; exact_mod_cast this
 have hp : 2 ^ s ≤ 2 ^ 22 := Nat.pow_le_pow_right (by omega) hs
 have hc2 : c * 2 ^ s ≤ 2 ^ s := by have := Nat.mul_le_mul_right (2 ^ s) hc; omega
 rw [b5D (by omega) (by omega), c7K (by omega) (by omega), c9u hm]
 simp
theorem c2W : ∀ x r, Z9 x = some r → ∃ N, a4u N x = some r := by
 refine d9 (ks := S1) (rs := S2) fun x hw hq => ⟨300, ?_⟩
 obtain ⟨(d : Int), (b : List Int), u⟩ := x
 obtain ⟨hd, hb⟩ := d4S.1 hw
 obtain ⟨h0, h1, hl⟩ : 1 ≤ d ∧ d ≤ 23 ∧ (b.length : Int) = 32 * d := hq
 unfold a4u
 dsimp only
 obtain ⟨n, rfl⟩ : ∃ n : Nat, d = n := ⟨d.toNat, by omega⟩
 rw [if_neg (by omega), if_neg (by omega), c7 (by omega) (by omega), if_neg (by omega), Int.toNat_natCast]
 have hn : n ≤ 23 := by omega
 have hZ : z256.length = 256 := List.length_replicate ..
 have hZ0 : ∀ i, z256.getD i 0 = 0 := b3K 256
 show m7 (D8 300) 300 ((n : Int), b.length, (0 : Int), b.length, b, z256, z256, ()) _ = some (c9U n b, 0)
 generalize z256 = Z at hZ hZ0 ⊢
 refine (J0 (F := D8 300) (s := fun i => ((n : Int), b.length, (i : Int), b.length, b, Z, part (d2y n b) i Z, ())) (y := (Z, c9U n b, ())) 256 ?_ ?_ 300 (by omega)).trans ?_
 ·intro i hi kn
  have hpl : (part (d2y n b) i Z).length = 256 := by rw [a9Y (by omega), hZ]
  unfold D8
  dsimp only
  rw [if_pos (by omega)]
  refine (i8 (F := K8 300) (s := fun k => ((n : Int), b.length, (i : Int), (i : Int), (n : Int), (k : Int), b.length, b, Z, (part (d2y n b) i Z).set i (c27 k fun k => b7j b (i * n + k)), ()))
   (y := ((n : Int), b.length, (i : Int), b.length, b, Z, part (d2y n b) (i + 1) Z, ())) n ?_ ?_ ?_ 300 (by omega)).trans ?_
  ·rw [set_same (by rw [b6L (Nat.le_refl i), hZ0]; rfl) (by omega)]
   rfl
  ·intro k hk kn
   have hle := d73 (d := n) hi
   have hz := d5Y hb.2 ((i * n + k) / 8)
   have hbit := c3O b (i * n + k)
   have em : (i : Int) * n = ((i * n : Nat) : Int) := by simp
   have ea : ((i * n : Nat) : Int) + k = ((i * n + k : Nat) : Int) := by simp
   have ed : ((i * n + k : Nat) : Int) / 8 = (((i * n + k) / 8 : Nat) : Int) := by omega
   have er : ((i * n + k : Nat) : Int) % 8 = (((i * n + k) % 8 : Nat) : Int) := by omega
   have hs := c3E (n := k) (c := fun k => b7j b (i * n + k)) fun s _ => c3O b _
   unfold K8
   dsimp only
   rw [if_pos (by omega), em, c7 (x := ((i * n : Nat) : Int)) (by omega) (by omega), ea, c7 (x := ((i * n + k : Nat) : Int)) (by omega) (by omega), a96 (by omega), a97 (by omega), ed, er,
    c7 (x := (((i * n + k) / 8 : Nat) : Int)) (by omega) (by omega), c7 (by omega) (by omega)]
   simp (disch := omega) only [if_pos, if_neg, Int.toNat_natCast]
   rw [d43 hz.1 hz.2 (by omega), show c7i (b.getD ((i * n + k) / 8) 0) ((i * n + k) % 8) = b7j b (i * n + k) from rfl, M4 (by omega) (by omega), a2u (by omega), List.set_set,
    d2g hs hbit (by omega), Int.natCast_add]
   rfl
  ·intro kn
   unfold K8
   dsimp only
   rw [if_neg (by omega), u3 (h := d2y n b) (i := i) (a := Z) (z := c27 n fun k => b7j b (i * n + k)) (by omega) rfl]
  ·dsimp only
   rw [c7 (by omega) (by omega), Int.natCast_add]
   rfl
 ·intro kn
  unfold D8
  dsimp only
  rw [if_neg (by omega), B7 hZ]
  rfl
 ·rfl
theorem c5o {n : Nat} {b : List Int} (h : 1 ≤ n ∧ n ≤ 23 ∧ b.length = 32 * n) (hb : ∀ z ∈ b, 0 ≤ z ∧ z ≤ 255) : Z9 ((n : Int), b, ()) = some (c9U n b, 0) := by
 have hM : 1000000 ≤ maxLen := by decide
 have := d8 (ks := S1) (rs := S2) (x := ((n : Int), b, ())) (Q := fun x => wOk x.1 x.2.1) (f := fun x => (c9U x.1.toNat x.2.1, 0)) (d4S.2 ⟨by omega, by omega, hb⟩) ⟨by show (1 : Int) ≤ n; omega, by show (n : Int) ≤ 23; omega, by show (b.length : Int) = 32 * (n : Int); omega⟩
 exact this
theorem d3m {n : Nat} {b : List Int} {i : Nat} (hi : i < 256) : (c9U n b).getD i 0 = d2y n b i := i9 hi
theorem d4O {n : Nat} (hn : n ≤ 23) (b : List Int) : E6 256 (c9U n b) := rows.range fun i _ => by have := d2z b i hn; unfold d2y at this; omega
theorem b3z : ∀ x r, Q8 x = some r → ∃ N, Q9 N x = some r := by
 refine d9 (ks := A7) (rs := V1) fun x hw hq => ⟨0, ?_⟩
 obtain ⟨(z : Int), (t : Int), u⟩ := x
 have h1 : -2147483648 ≤ z ∧ z ≤ 2147483647 := s9.1 hw.1
 have h2 : -2147483648 ≤ t ∧ t ≤ 2147483647 := s9.1 hw.2.1
 obtain ⟨h3, h4⟩ : 0 ≤ z ∧ 0 ≤ t := hq
 unfold Q9
 show some (IntKind.i32.wrap (t - z)) = some (t - z)
 rw [M4 (by omega) (by omega)]
theorem c0t {z t : Int} (h1 : 0 ≤ z ∧ z ≤ 2147483647) (h2 : 0 ≤ t ∧ t ≤ 2147483647) : Q8 (z, t, ()) = some (t - z) :=
 d8 (ks := A7) (rs := V1) (x := (z, t, ())) ⟨s9.2 (show _ ≤ z ∧ z ≤ _ by omega), s9.2 (show _ ≤ t ∧ t ≤ _ by omega), trivial⟩ ⟨h1.1, h2.1⟩
theorem a3E : ∀ x r, s6 x = some r → ∃ N, s7 N x = some r := by
 refine d9 (ks := j5) (rs := j6) fun x hw hq => ⟨300, ?_⟩
 obtain ⟨(a : List Int), (t : Int), u⟩ := x
 have ha : E6 256 a := v8.1 hw.1
 have h2 : -2147483648 ≤ t ∧ t ≤ 2147483647 := s9.1 hw.2.1
 obtain ⟨h3, h4⟩ : (∀ z ∈ a, 0 ≤ z) ∧ 0 ≤ t := hq
 unfold s7
 refine (J0 (F := i6 300) (s := fun i => (a, (i : Int), [t], part (fun i => t - a.getD i 0) i a, z256, ())) (y := (p9 fun i => t - a.getD i 0, z256, ())) 256 ?_ ?_ 300 (by omega)).trans ?_
 ·intro i hi kn
  have hz := b1u ha i
  have hz0 : 0 ≤ a.getD i 0 := h3 _ (a5E (by rw [ha.1]; exact hi))
  unfold i6
  dsimp only
  rw [if_pos (by omega), if_pos (by omega), if_pos (by omega), if_pos (by omega), Int.toNat_natCast]
  refine (congrArg (fun o => Option.bind o _) (c0t ⟨hz0, hz.2⟩ ⟨h4, h2.2⟩)).trans ?_
  rw [Option.bind_some, if_pos (by omega), if_pos (by omega), if_pos (by omega), c7 (by omega) (by omega), u3 (h := fun i => t - a.getD i 0) (by rw [ha.1]; exact hi) rfl]
  rfl
 ·intro kn
  unfold i6
  dsimp only
  rw [if_neg (by omega), B7 ha.1]
  rfl
 ·rfl
theorem d5M {a : List Int} {t : Int} (ha : E6 256 a) (h : ∀ z ∈ a, 0 ≤ z) (h2 : 0 ≤ t ∧ t ≤ 2147483647) : s6 (a, t, ()) = some (p9 fun i => t - a.getD i 0) :=
 d8 (ks := j5) (rs := j6) (x := (a, t, ())) ⟨v8.2 ha, s9.2 (show _ ≤ t ∧ t ≤ _ by omega), trivial⟩ ⟨h, h2.1⟩
theorem d7a (t : Int) (n : Nat) (b : List Int) : (p9 fun i => t - (c9U n b).getD i 0) = a2j t n b := by
 unfold a2j p9
 exact List.map_congr_left fun i hi => by rw [d3m (List.mem_range.1 hi)]; rfl
theorem d5A {t d : Int} {b : List Int} : a3G [.int .i32, .int .i64, .sl (.int .u8)] (t, d, b, ()) ↔ (-2147483648 ≤ t ∧ t ≤ 2147483647) ∧ (-9223372036854775808 ≤ d ∧ d ≤ 9223372036854775807) ∧ (b.length ≤ maxLen ∧ ∀ z ∈ b, 0 ≤ z ∧ z ≤ 255) := by
 have : Kd.wf (.int .i64) d ↔ -9223372036854775808 ≤ d ∧ d ≤ 9223372036854775807 := u2
 have h2 : Kd.wf (.int .i32) t ↔ -2147483648 ≤ t ∧ t ≤ 2147483647 := s9
 simp only [a3G, a98, and_true, this, h2]
theorem b6O : ∀ x r, j4 x = some r → ∃ N, a0i N x = some r := by
 refine d9 (ks := F0) (rs := F3) fun x hw hq => ⟨0, ?_⟩
 obtain ⟨(t : Int), (d : Int), (b : List Int), u⟩ := x
 obtain ⟨ht, hd, hb⟩ := d5A.1 hw
 obtain ⟨⟨ht0, ht1⟩, h0, h1, hl⟩ : (0 ≤ t ∧ t < 8380417) ∧ 1 ≤ d ∧ d ≤ 23 ∧ (b.length : Int) = 32 * d := hq
 obtain ⟨n, rfl⟩ : ∃ n : Nat, d = n := ⟨d.toNat, by omega⟩
 unfold a0i
 dsimp only
 rw [c5o ⟨by omega, by omega, by omega⟩ hb.2, Option.bind_some, if_neg (by simp), if_neg (by omega), if_neg (by omega)]
 have hn : n ≤ 23 := by omega
 refine (congrArg (fun o => Option.bind o _) (d5M (t := t) (d4O hn b) (fun z hz => by obtain ⟨i, _, rfl⟩ := List.mem_map.1 hz; exact (d2z b i hn).1) ⟨ht0, by omega⟩)).trans ?_
 rw [Option.bind_some, d7a, Int.toNat_natCast]
theorem a5y {n : Nat} {t : Int} {b : List Int} (ht : 0 ≤ t ∧ t < 8380417) (h : 1 ≤ n ∧ n ≤ 23 ∧ b.length = 32 * n) (hb : ∀ z ∈ b, 0 ≤ z ∧ z ≤ 255) : j4 (t, (n : Int), b, ()) = some (a2j t n b, 0) := by
 have hM : 1000000 ≤ maxLen := by decide
 have := d8 (ks := F0) (rs := F3) (x := (t, (n : Int), b, ())) (Q := fun x => (0 ≤ x.1 ∧ x.1 < 8380417) ∧ wOk x.2.1 x.2.2.1) (f := fun x => (a2j x.1 x.2.1.toNat x.2.2.1, 0)) (d5A.2 ⟨by omega, by omega, by omega, hb⟩) ⟨ht, by show (1 : Int) ≤ n; omega, by show (n : Int) ≤ 23; omega, by show (b.length : Int) = 32 * (n : Int); omega⟩
 exact this
theorem d0y {w : Int} (hw : w = 18 ∨ w = 20) {l : List Int} (hl : l.length = 66) (hb : ∀ z ∈ l, 0 ≤ z ∧ z ≤ 255) :
  v3 (256, IntKind.i64.wrap (32 * w), [l], ()) = some (a0f 136 31 l (32 * w.toNat), 0)
  ∧ j4 (b0E IntKind.i32 1 (IntKind.i64.wrap (w - 1)), w, a0f 136 31 l (32 * w.toNat), ()) = some (a2j (2 ^ (w - 1).toNat) w.toNat (a0f 136 31 l (32 * w.toNat)), 0)
  ∧ ¬ IntKind.i64.wrap (w - 1) < 0 := by
 obtain ⟨n, rfl⟩ : ∃ n : Nat, w = n := ⟨w.toNat, by omega⟩
 have hn : n = 18 ∨ n = 20 := by omega
 rw [show ((n : Int) - 1).toNat = n - 1 by omega, Int.toNat_natCast]
 have e1 : IntKind.i64.wrap (32 * (n : Int)) = ((32 * n : Nat) : Int) := by rw [c7 (by omega) (by omega)]; omega
 have e2 : IntKind.i64.wrap ((n : Int) - 1) = ((n - 1 : Nat) : Int) := by rw [c7 (by omega) (by omega)]; omega
 have e3 : b0E IntKind.i32 1 ((n - 1 : Nat) : Int) = 2 ^ (n - 1) := by
  have := b5D (m := 1) (s := n - 1) (by omega) (by rcases hn with rfl | rfl <;> decide)
  refine this.trans ?_
  simp
 have e4 : (2 : Int) ^ (n - 1) < 8380417 := by rcases hn with rfl | rfl <;> decide
 rw [e1, e2, e3]
 exact ⟨b1e (by omega) ⟨by omega, hb⟩, a5y ⟨Int.le_of_lt (c9x _), e4⟩ ⟨by omega, by omega, c4S _ _ _ _⟩ (d8B _ _ _ _), by omega⟩
theorem c6o : ∀ x r, a64 x = some r → ∃ N, a7c N x = some r := by
 refine d9 (ks := a0C) (rs := a0D) fun x hw hq => ⟨0, ?_⟩
 obtain ⟨(w : Int), (l : List Int), u⟩ := x
 obtain ⟨hd, hl⟩ := d4S.1 hw
 unfold a7c c56
 dsimp only
 by_cases he : w = 18 ∨ w = 20
 ·by_cases h : l.length = 66
  ·rw [if_neg (by omega : ¬((w ≠ 18 ∧ w ≠ 20) ∨ l.length ≠ 66))]
   obtain ⟨a1, a2, a3⟩ := d0y he h hl.2
   rcases he with h2 | h4
   ·rw [if_neg (by omega), if_neg (by omega)]
    refine (congrArg (fun o => Option.bind o _) a1).trans ?_
    rw [Option.bind_some, if_neg (by simp)]
    refine (if_neg a3).trans ?_
    exact congrArg (fun o => Option.bind o _) a2
   ·rw [if_pos (by omega), if_neg (by omega), if_neg (by omega)]
    refine (congrArg (fun o => Option.bind o _) a1).trans ?_
    rw [Option.bind_some, if_neg (by simp)]
    refine (if_neg a3).trans ?_
    exact congrArg (fun o => Option.bind o _) a2
  ·rw [if_pos (show (w ≠ 18 ∧ w ≠ 20) ∨ l.length ≠ 66 from .inr h)]
   rcases he with h2 | h4
   ·rw [if_neg (by omega), if_pos (by omega)]
   ·rw [if_pos (by omega), if_neg (by omega), if_pos (by omega)]
 ·rw [if_pos (by omega), if_pos (by omega), if_pos (by omega)]
end Go.Ax.TryP
set_option linter.unusedVariables false
set_option maxRecDepth 4000
namespace Go.Ax.TryP
open Go.Proofs
abbrev d60 (s : List Int) : List Int := a0f 136 31 s 1032
theorem c4R {s : List Int} {p : Nat} (h : p < 1032) : (d60 s).getD p 0 = shb s p := c9K h
theorem d25 {s : List Int} {i : Nat} : ∀ j at', at' ≤ 1032 → 1032 - at' ≤ j → at' ≤ a5S s i j at' ∧ a5S s i j at' ≤ 1032 ∧ (a5S s i j at' < 1032 → shb s (a5S s i j at') ≤ i)
 | 0, at', h1, h2 => by
  have e : at' = 1032 := by omega
  subst e
  exact ⟨Nat.le_refl _, Nat.le_refl _, fun h => absurd h (by simp [a5S])⟩
 | j + 1, at', h1, h2 => by
  unfold a5S
  by_cases h : at' < 1032 ∧ (i : Int) < shb s at'
  ·rw [if_pos h]
   obtain ⟨a, b, c⟩ := d25 (s := s) (i := i) j (at' + 1) (by omega) (by omega)
   exact ⟨by omega, b, c⟩
  ·rw [if_neg h]
   exact ⟨Nat.le_refl _, h1, fun h3 => by omega⟩
abbrev Id1 := Int × Nat × Nat × Nat × Int × Int × List Int × List Int × Nat × List Int × Unit
def bdX (tau : Int) (s : List Int) (p i : Nat) (c : List Int) : Id1 := (tau, 1024, 1024, 1032, ((p - 8 : Nat) : Int), (i : Int), z256, c, 1032, d60 s, ())
theorem d1w {tau : Int} {s : List Int} {i : Nat} {c : List Int} {N : Nat} {β : Type} (K : Id1 → Option β) : ∀ j p, 8 ≤ p → p ≤ 1032 → 1032 - p ≤ j → ∀ n, j < n →
  m7 (O1 N) n (bdX tau s p i c) K = K (bdX tau s (a5S s i j p) i c)
 | j, p, h0, h1, h2, n, hn => by
  obtain ⟨n, rfl⟩ : ∃ m, n = m + 1 := ⟨n - 1, by omega⟩
  simp only [m7]
  by_cases hp : p < 1032
  ·obtain ⟨j, rfl⟩ : ∃ i, j = i + 1 := ⟨j - 1, by omega⟩
   have hs := d20 s p
   have e : (d60 s).getD (8 + (p - 8)) 0 = shb s p := by rw [show 8 + (p - 8) = p by omega]; exact c4R hp
   have ew : IntKind.i64.wrap (((p - 8 : Nat) : Int) + 1) = ((p + 1 - 8 : Nat) : Int) := by rw [c7 (by omega) (by omega)]; omega
   unfold O1
   rw [show a5S s i (j + 1) p = if p < 1032 ∧ (i : Int) < shb s p then a5S s i j (p + 1) else p from rfl]
   unfold bdX
   dsimp only
   rw [if_pos (by omega), if_pos (by omega), if_pos (by omega), Int.toNat_natCast, if_pos (by omega), e, c7 (x := shb s p) (by omega) (by omega)]
   by_cases h : (i : Int) < shb s p
   ·rw [if_pos h, if_pos ⟨hp, h⟩, ew]
    exact d1w (N := N) K j (p + 1) (by omega) (by omega) (by omega) n (by omega)
   ·rw [if_neg (by omega), if_neg (by omega)]
  ·have e : a5S s i j p = p := by
    cases j with
    | zero => rfl
    | succ j => unfold a5S; rw [if_neg (by omega)]
   rw [e]
   unfold O1 bdX
   dsimp only
   rw [if_neg (by omega)]
theorem c5x {tau : Nat} {s : List Int} {k : Nat} (h : b7i tau s k = none) : ∀ d, b7i tau s (k + d) = none
 | 0 => h
 | d + 1 => by rw [← Nat.add_assoc, b7i, c5x h d]
abbrev Ok1 := (List Int × Unit) ⊕ (Int × List Int × Unit)
theorem d5U {tau : Nat} (ht : tau ≤ 64) {s : List Int} {k p : Nat} (hk : k < tau) {c : List Int} (hp : 8 ≤ p ∧ p ≤ 1032) {N : Nat} (hN : 1032 < N) {β : Type} (kn : Id1 → Option β) (ke : Ok1 → Option β) :
  G1 N β (bdX tau s p (256 - tau + k) c) kn ke
  = if a5S s (256 - tau + k) 1032 p = 1032 then ke (.inl (z256, ())) else
   if k + 1 = tau then ke (.inr (0, c5w s k (256 - tau + k) (a5S s (256 - tau + k) 1032 p) c, ())) else kn (bdX tau s (a5S s (256 - tau + k) 1032 p + 1) (256 - tau + (k + 1)) (c5w s k (256 - tau + k) (a5S s (256 - tau + k) 1032 p) c)) := by
 obtain ⟨a1, a2, a3⟩ := d25 (s := s) (i := 256 - tau + k) 1032 p hp.2 (by omega)
 unfold G1
 have hi : (bdX tau s p (256 - tau + k) c).2.2.2.2.2.1 = ((256 - tau + k : Nat) : Int) := rfl
 rw [hi, if_pos (by omega)]
 refine (d1w (N := N) _ 1032 p hp.1 hp.2 (by omega) N hN).trans ?_
 generalize a5S s (256 - tau + k) 1032 p = r at a1 a2 a3
 unfold bdX
 dsimp only
 by_cases hr : r = 1032
 ·subst hr
  rw [if_pos (by omega), if_pos rfl]
 ·have hs := d20 s r
  have hs2 := a3 (by omega)
  have hk8 := d20 s (k / 8)
  have e : (d60 s).getD (8 + (r - 8)) 0 = shb s r := by rw [show 8 + (r - 8) = r by omega]; exact c4R (by omega)
  have e8 : (d60 s).getD (k / 8) 0 = shb s (k / 8) := c4R (by omega)
  have ek : IntKind.i64.wrap (IntKind.i64.wrap (((256 - tau + k : Nat) : Int) + tau) - 256) = (k : Int) := by rw [c7 (x := ((256 - tau + k : Nat) : Int) + tau) (by omega) (by omega), c7 (by omega) (by omega)]; omega
  have ed : IntKind.i64.wrap (Int.tdiv (k : Int) 8) = ((k / 8 : Nat) : Int) := by rw [a96 (by omega), c7 (by omega) (by omega)]; omega
  have em : Int.tmod (k : Int) 8 = ((k % 8 : Nat) : Int) := by rw [a97 (by omega)]; omega
  have w1 : IntKind.i64.wrap (((r - 8 : Nat) : Int) + 1) = ((r + 1 - 8 : Nat) : Int) := by rw [c7 (by omega) (by omega)]; omega
  have w2 : IntKind.i64.wrap (((256 - tau + k : Nat) : Int) + 1) = ((256 - tau + (k + 1) : Nat) : Int) := by rw [c7 (by omega) (by omega)]; omega
  rw [if_neg (by omega), if_pos (by omega), if_pos (by omega), if_neg hr]
  simp only [Int.toNat_natCast, ek, ed, em, e, e8, w1, w2]
  rw [if_pos (by omega), if_pos (by omega), if_pos (by omega), if_pos (by omega), if_pos (by omega), if_pos (by omega), if_pos (by omega), if_pos (by omega), if_pos (by omega), if_pos (by omega), if_pos (by omega), if_pos (by omega), if_pos (by omega), if_neg (by omega)]
  rw [d43 hk8.1 hk8.2 (by omega)]
  unfold c5w
  by_cases hb : c7i (shb s (k / 8)) (k % 8) = 1
  ·rw [if_pos hb, if_pos hs.1, if_pos (by omega), if_pos (by omega), if_pos hb, List.set_set]
   by_cases h2 : k + 1 = tau
   ·rw [if_pos (by omega), if_pos h2]
   ·rw [if_neg (by omega), if_neg h2]
  ·rw [if_neg hb, if_neg hb]
   by_cases h2 : k + 1 = tau
   ·rw [if_pos (by omega), if_pos h2]
   ·rw [if_neg (by omega), if_neg h2]
def d85 {β : Type} (o : Option (List Int × Nat)) (f : Option β) (g : List Int → Option β) : Option β := match o with
 | none => f
 | some (c, _) => g c
theorem d42 {tau : Nat} (ht : tau ≤ 64) {s : List Int} {N : Nat} (hN : 1032 < N) {β : Type} (K : Ok1 → Option β) : ∀ j k p c, k + (j + 1) = tau → b7i tau s k = some (c, p) → 8 ≤ p ∧ p ≤ 1032 → ∀ n, j < n →
  m7 (G1 N) n (bdX tau s p (256 - tau + k) c) K = d85 (b7i tau s tau) (K (.inl (z256, ()))) fun c => K (.inr (0, c, ()))
 | j, k, p, c, h, hb, hp, n, hn => by
  obtain ⟨n, rfl⟩ : ∃ m, n = m + 1 := ⟨n - 1, by omega⟩
  simp only [m7]
  obtain ⟨a1, a2, a3⟩ := d25 (s := s) (i := 256 - tau + k) 1032 p hp.2 (by omega)
  have e1 : b7i tau s (k + 1) = if a5S s (256 - tau + k) 1032 p = 1032 then none else some (c5w s k (256 - tau + k) (a5S s (256 - tau + k) 1032 p) c, a5S s (256 - tau + k) 1032 p + 1) := by rw [b7i, hb]
  rw [d5U ht (by omega) hp hN]
  by_cases hr : a5S s (256 - tau + k) 1032 p = 1032
  ·rw [if_pos hr] at e1 ⊢
   have := c5x e1 j
   rw [show k + 1 + j = tau by omega] at this
   rw [this]
   rfl
  ·rw [if_neg hr] at e1 ⊢
   by_cases h2 : k + 1 = tau
   ·rw [if_pos h2]
    rw [h2] at e1
    rw [e1]
    rfl
   ·rw [if_neg h2]
    obtain ⟨j, rfl⟩ : ∃ i, j = i + 1 := ⟨j - 1, by omega⟩
    exact d42 ht hN K j (k + 1) _ _ (by omega) e1 (by omega) n (by omega)
theorem c6n : ∀ x r, a4M x = some r → ∃ N, a68 N x = some r := by
 refine d9 (ks := a0A) (rs := a0B) fun x hw hq => ⟨1133, ?_⟩
 obtain ⟨(tau : Int), (l : List Int), u⟩ := x
 obtain ⟨hd, hl⟩ := d4S.1 hw
 have hq : l.length ≤ 1000 := hq
 unfold a68 a47
 dsimp only
 by_cases h1 : tau < 1
 ·rw [if_pos h1, if_pos (.inl h1)]
 by_cases h2 : 64 < tau
 ·rw [if_neg h1, if_pos h2, if_pos (.inr h2)]
 rw [if_neg h1, if_neg h2, if_neg (by omega : ¬(tau < 1 ∨ 64 < tau))]
 refine (congrArg (fun o => Option.bind o _) (b1e (l := l) (n := 1032) (by omega) ⟨by omega, hl.2⟩)).trans ?_
 rw [Option.bind_some, if_neg (by simp)]
 dsimp only
 rw [c4S, if_pos (by omega), if_pos (by omega), c7 (by omega) (by omega)]
 obtain ⟨n, rfl⟩ : ∃ n : Nat, tau = n := ⟨tau.toNat, by omega⟩
 have hx : ((n : Int), 1032 - 8, 1032 - 8, 1032, (0 : Int), (256 : Int) - n, z256, z256, 1032, d60 l, ()) = bdX n l 8 (256 - n + 0) z256 := by
  unfold bdX
  rw [show ((256 - n + 0 : Nat) : Int) = 256 - (n : Int) by omega]
  rfl
 show m7 (G1 1133) (100 + 1033) ((n : Int), 1032 - 8, 1032 - 8, 1032, (0 : Int), (256 : Int) - n, z256, z256, 1032, d60 l, ()) _ = _
 rw [hx, Int.toNat_natCast]
 refine (d42 (tau := n) (by omega) (N := 1133) (by omega) _ (n - 1) 0 8 z256 (by omega) rfl ⟨by omega, by omega⟩ _ (by omega)).trans ?_
 cases b7i n l n with
 | none => rfl
 | some v => rfl
end Go.Ax.TryP
set_option linter.unusedVariables false
namespace Go.Ax.TryP
open Go.Proofs
theorem c8B (f : Nat → List Int) (t : Nat) : ∀ d : Nat, ∃ r, b3Y f (t + d) = b3Y f t ++ r
 | 0 => ⟨[], by simp⟩
 | d + 1 => by
  obtain ⟨r, h⟩ := c8B f t d
  exact ⟨r ++ f (t + d), by rw [← Nat.add_assoc, b3Y, h, List.append_assoc]⟩
theorem c68 (f : Nat → List Int) {t u : Nat} (h : t ≤ u) : (b3Y f t).length ≤ (b3Y f u).length := by
 obtain ⟨r, e⟩ := c8B f t (u - t)
 rw [show t + (u - t) = u by omega] at e
 rw [e, List.length_append]
 omega
theorem d6t {l : List Int} {k i : Nat} (h : l.getD (k * 256 + i) 0 ≠ 0) : b3Y (mkP l k) (i + 1) = b3Y (mkP l k) i ++ [(i : Int)] := by rw [b3Y, mkP, if_pos h]
theorem d5l {l : List Int} {k i : Nat} (h : ¬ l.getD (k * 256 + i) 0 ≠ 0) : b3Y (mkP l k) (i + 1) = b3Y (mkP l k) i := by rw [b3Y, mkP, if_neg h, List.append_nil]
def d2I (m : Nat) (P E : List Int) : List Int := P ++ List.replicate (m - P.length) 0 ++ E
theorem d4q {m : Nat} {P E : List Int} (h : P.length < m) (v : Int) : (d2I m P E).set P.length v = d2I m (P ++ [v]) E := by
 unfold d2I
 obtain ⟨d, hd⟩ : ∃ d, m - P.length = d + 1 := ⟨m - P.length - 1, by omega⟩
 rw [List.append_assoc, List.set_append_right _ _ (Nat.le_refl _), Nat.sub_self, hd, List.replicate_succ, List.cons_append, List.set_cons_zero, List.length_append, List.length_singleton, show m - (P.length + 1) = d by omega]
 simp
theorem d4p {m : Nat} {P E : List Int} (h : P.length ≤ m) (k : Nat) (v : Int) : (d2I m P E).set (m + k) v = d2I m P (E.set k v) := by
 unfold d2I
 have hl : (P ++ List.replicate (m - P.length) 0).length = m := by rw [List.length_append, List.length_replicate]; omega
 rw [List.set_append_right _ _ (by omega), hl, show m + k - m = k by omega]
theorem c5g (l : List Int) (k : Nat) : b0d l (k + 1) = b0d l k ++ b3Y (mkP l k) 256 := rfl
abbrev Op := (Int × Unit) ⊕ (Nat × Int × Nat × Int × Int × Int × Int × Nat × List Int × Nat × List Int × Unit)
theorem d6K {l E : List Int} {n m k : Nat} (hl : l.length = n * 256) (hk : k < n) (hm : m ≤ 255) {L N : Nat} {nI : Int} {β : Type} (K : Op → Option β) (hL : L = m + n) : ∀ j i, i + j = 256 → (b0d l k ++ b3Y (mkP l k) i).length ≤ m → ∀ q, j < q →
  m7 (C3 N) q (n, (m : Int), L, ((b0d l k ++ b3Y (mkP l k) i).length : Int), (k : Int), nI, (k : Int), (i : Int), l.length, l, L, d2I m (b0d l k ++ b3Y (mkP l k) i) E, ()) K
  = if (b0d l (k + 1)).length ≤ m then K (.inr (n, (m : Int), L, ((b0d l (k + 1)).length : Int), (k : Int), nI, (k : Int), l.length, l, L, d2I m (b0d l (k + 1)) E, ())) else K (.inl (3, ()))
 | 0, i, hi, hP, q, hq => by
  obtain ⟨q, rfl⟩ : ∃ m, q = m + 1 := ⟨q - 1, by omega⟩
  have hi : i = 256 := by omega
  subst hi
  rw [c5g, if_pos hP]
  simp only [m7]
  unfold C3
  dsimp only
  rw [if_neg (by omega)]
 | j + 1, i, hi, hP, q, hq => by
  obtain ⟨q, rfl⟩ : ∃ m, q = m + 1 := ⟨q - 1, by omega⟩
  simp only [m7]
  unfold C3
  dsimp only
  rw [if_pos (by omega), if_pos (by omega), if_pos (by omega), if_pos (by omega), if_pos (by omega), Int.toNat_natCast, Int.toNat_natCast, if_pos (by omega), c7 (x := (i : Int) + 1) (by omega) (by omega)]
  by_cases h : l.getD (k * 256 + i) 0 ≠ 0
  ·rw [if_neg (by omega)]
   have hp := d6t h
   by_cases g : (b0d l k ++ b3Y (mkP l k) i).length = m
   ·rw [if_pos (by omega), if_neg ?_]
    have := c68 (mkP l k) (show i + 1 ≤ 256 by omega)
    rw [hp, List.length_append, List.length_singleton] at this
    rw [c5g, List.length_append]
    rw [List.length_append] at g
    omega
   ·rw [if_neg (by omega), if_pos (by omega), if_pos (by omega), Int.toNat_natCast, if_pos (by omega), d4q (by omega), b8D (by omega) (by omega), c7 (by omega) (by omega)]
    have e : b0d l k ++ b3Y (mkP l k) i ++ [(i : Int)] = b0d l k ++ b3Y (mkP l k) (i + 1) := by rw [hp, List.append_assoc]
    have el : ((b0d l k ++ b3Y (mkP l k) i).length : Int) + 1 = ((b0d l k ++ b3Y (mkP l k) (i + 1)).length : Int) := by rw [← e, List.length_append (bs := [(i : Int)]), List.length_singleton]; omega
    rw [e, el]
    exact d6K (N := N) hl hk hm K hL j (i + 1) (by omega) (by omega) q (by omega)
  ·rw [if_pos h, ← d5l h]
   rw [← d5l h] at hP
   exact d6K (N := N) hl hk hm K hL j (i + 1) (by omega) hP q (by omega)
abbrev Oq := (Int × Unit) ⊕ (Nat × Nat × List Int × Unit)
theorem d5m {l : List Int} {n m : Nat} (hl : l.length = n * 256) (hm : m ≤ 255) (hn : n ≤ 16) {N : Nat} (hN : 300 < N) {β : Type} (K : Oq → Option β) : ∀ j k, k + j = n → (b0d l k).length ≤ m → ∀ q, j < q →
  m7 (u9 N) q (n, (m : Int), m + n, ((b0d l k).length : Int), (n : Int), (k : Int), l.length, l, m + n, d2I m (b0d l k) (part (d5e l) k (List.replicate n 0)), ()) K
  = if (b0d l n).length ≤ m then K (.inr (m + n, m + n, d2I m (b0d l n) ((List.range n).map (d5e l)), ())) else K (.inl (3, ()))
 | 0, k, hk, hP, q, hq => by
  obtain ⟨q, rfl⟩ : ∃ m, q = m + 1 := ⟨q - 1, by omega⟩
  have hk : k = n := by omega
  subst hk
  rw [if_pos hP]
  simp only [m7]
  unfold u9
  dsimp only
  rw [if_neg (by omega), B7 (List.length_replicate ..)]
 | j + 1, k, hk, hP, q, hq => by
  obtain ⟨q, rfl⟩ : ∃ m, q = m + 1 := ⟨q - 1, by omega⟩
  simp only [m7]
  unfold u9
  dsimp only
  rw [if_pos (by omega)]
  have e0 : b0d l k = b0d l k ++ b3Y (mkP l k) 0 := (List.append_nil _).symm
  have := d6K (N := N) (l := l) (E := part (d5e l) k (List.replicate n 0)) (n := n) (m := m) (k := k) (L := m + n) (nI := (n : Int)) hl (by omega) hm (fun y => match y with
   | .inl y1 => K (.inl (y1.1, ()))
   | .inr y2 => (if 0 ≤ (IntKind.i64.wrap (y2.2.1 + y2.2.2.2.2.1)) then (
   if (IntKind.i64.wrap (y2.2.1 + y2.2.2.2.2.1)) < ((y2.2.2.1 : Nat) : Int) then (
   if ((IntKind.i64.wrap (y2.2.1 + y2.2.2.2.2.1)).toNat) < y2.2.2.2.2.2.2.2.2.2.1 then (
   m7 (u9 N) q (y2.1, y2.2.1, y2.2.2.1, y2.2.2.2.1, y2.2.2.2.2.2.1, (IntKind.i64.wrap (y2.2.2.2.2.2.2.1 + (1:Int))), y2.2.2.2.2.2.2.2.1, y2.2.2.2.2.2.2.2.2.1, y2.2.2.2.2.2.2.2.2.2.1, (List.set y2.2.2.2.2.2.2.2.2.2.2.1 ((IntKind.i64.wrap (y2.2.1 + y2.2.2.2.2.1)).toNat) (IntKind.u8.wrap y2.2.2.2.1)), ()) K) else none) else none) else none)) rfl 256 0 (by omega) (by rw [← e0]; exact hP) N (by omega)
  rw [← e0] at this
  refine this.trans ?_
  clear this
  by_cases h : (b0d l (k + 1)).length ≤ m
  ·rw [if_pos h]
   have ew : IntKind.i64.wrap ((m : Int) + k) = ((m + k : Nat) : Int) := by rw [c7 (by omega) (by omega)]; omega
   dsimp only
   rw [ew, if_pos (by omega), if_pos (by omega), Int.toNat_natCast, if_pos (by omega), c7 (by omega) (by omega), b8D (by omega) (by omega), d4p h, u3 (h := d5e l) (i := k) (z := ((b0d l (k + 1)).length : Int)) (by rw [List.length_replicate]; omega) rfl]
   exact d5m hl hm hn hN K j (k + 1) (by omega) h q (by omega)
  ·rw [if_neg h, if_neg ?_]
   have := c68 (d5p l) (show k + 1 ≤ n by omega)
   exact fun h2 => h (Nat.le_trans this h2)
theorem d4R {l : List Int} (h : Kd.wf (.sla .bool 256) l) : ∃ n, l.length = n * 256 ∧ ∀ z ∈ l, z = 0 ∨ z = 1 := by
 obtain ⟨⟨n, h1, _⟩, h2⟩ := h
 exact ⟨n, h1, h2⟩
theorem b8q : ∀ x r, a06 x = some r → ∃ N, a1b N x = some r := by
 refine d9 (ks := H5) (rs := H6) fun x hw hq => ⟨400, ?_⟩
 obtain ⟨(l : List Int), (most : Int), u⟩ := x
 obtain ⟨n, (hl : l.length = n * 256), _⟩ := d4R hw.1
 have en : l.length / 256 = n := by omega
 unfold a1b c4y
 dsimp only
 rw [en]
 by_cases h1 : n > 16
 ·rw [if_pos (by omega), if_pos (.inl (.inl h1))]
 rw [if_neg (by omega)]
 by_cases h2 : most < 0
 ·rw [if_pos h2, if_pos (.inl (.inr h2))]
 rw [if_neg h2]
 by_cases h3 : 255 < most
 ·rw [if_pos h3, if_pos (.inr h3)]
 rw [if_neg h3, if_neg (by omega : ¬((n > 16 ∨ most < 0) ∨ 255 < most))]
 obtain ⟨m, rfl⟩ : ∃ m : Nat, most = m := ⟨most.toNat, by omega⟩
 have ew : IntKind.i64.wrap ((m : Int) + n) = ((m + n : Nat) : Int) := by rw [c7 (by omega) (by omega)]; omega
 rw [ew, if_pos (by omega), if_pos rfl, if_pos (by omega), Int.toNat_natCast, Int.toNat_natCast]
 have ez : List.replicate (m + n) (0 : Int) = d2I m (b0d l 0) (part (d5e l) 0 (List.replicate n 0)) := by
  show _ = [] ++ List.replicate (m - 0) 0 ++ ((List.range 0).map (d5e l) ++ List.drop 0 (List.replicate n 0))
  simp
 rw [ez]
 refine (d5m hl (by omega) (by omega) (N := 400) (by omega) _ n 0 (by omega) (by show 0 ≤ m; omega) 400 (by omega)).trans ?_
 by_cases h : (b0d l n).length ≤ m
 ·rw [if_pos h, if_neg (by omega)]
  rfl
 ·rw [if_neg h, if_pos (by omega)]
theorem d8I {a b : List Int} : a3G [.sl (.int .u8), .sl (.int .u8)] (a, b, ()) ↔ (a.length ≤ maxLen ∧ ∀ z ∈ a, 0 ≤ z ∧ z ≤ 255) ∧ (b.length ≤ maxLen ∧ ∀ z ∈ b, 0 ≤ z ∧ z ≤ 255) := by simp only [a3G, a98, and_true]
theorem c4F : ∀ x r, a5D x = some r → ∃ N, a5N N x = some r := by
 refine d9 (ks := Z1) (rs := a5o) fun x hw hq => ⟨0, ?_⟩
 obtain ⟨(a : List Int), (b : List Int), u⟩ := x
 obtain ⟨ha, hb⟩ := d8I.1 hw
 unfold a5N
 exact congrArg some (c7u ha.2 hb.2)
theorem d3F {a b : List Int} (ha : a.length ≤ 1000000 ∧ ∀ z ∈ a, 0 ≤ z ∧ z ≤ 255) (hb : b.length ≤ 1000000 ∧ ∀ z ∈ b, 0 ≤ z ∧ z ≤ 255) : a5D (a, b, ()) = some (decide (a = b)) := by
 have hM : 1000000 ≤ maxLen := by decide
 exact d8 (ks := Z1) (rs := a5o) (x := (a, b, ())) (d8I.2 ⟨⟨by omega, ha.2⟩, by omega, hb.2⟩) trivial
open Classical
theorem d7E {b : List Int} (h : ∀ z ∈ b, 0 ≤ z ∧ z ≤ 255) (i : Nat) : 0 ≤ b.getD i 0 ∧ b.getD i 0 ≤ 255 := by
 by_cases hi : i < b.length
 ·exact h _ (a5E hi)
 ·rw [b5B (by omega)]; omega
abbrev Ou := (Int × Unit) ⊕ (Int × Nat × Nat × Int × Int × Int × Nat × List Int × Nat × List Int × Unit)
theorem d69 {b h : List Int} {n m k a e : Nat} (hb : ∀ z ∈ b, 0 ≤ z ∧ z ≤ 255) (hl : b.length = m + n) (hm : m ≤ 255) (hn : n ≤ 16) (hk : k < n) (he : e ≤ m) {nI : Int} {N : Nat} {β : Type} (K : Ou → Option β) : ∀ j i, i + j = e → a ≤ i → d35 b a i → ∀ q, j < q →
  m7 (v4 N) q ((m : Int), b.length, n, (a : Int), (k : Int), (e : Int), (i : Int), nI, (k : Int), b.length, b, n * 256, b5H b k a h (i - a), ()) K
  = if d35 b a e then K (.inr ((m : Int), b.length, n, (e : Int), nI, (k : Int), b.length, b, n * 256, b5H b k a h (e - a), ())) else K (.inl (150, ()))
 | 0, i, hi, ha, hg, q, hq => by
  obtain ⟨q, rfl⟩ : ∃ m, q = m + 1 := ⟨q - 1, by omega⟩
  have hi : i = e := by omega
  subst hi
  rw [if_pos hg]
  simp only [m7]
  unfold v4
  dsimp only
  rw [if_neg (by omega)]
 | j + 1, i, hi, ha, hg, q, hq => by
  obtain ⟨q, rfl⟩ : ∃ m, q = m + 1 := ⟨q - 1, by omega⟩
  have b0 := d7E hb i
  have em : (b5H b k a h (i - a)).set (k * 256 + (b.getD i 0).toNat) 1 = b5H b k a h (i + 1 - a) := by
   rw [show i + 1 - a = (i - a) + 1 by omega, b5H, show a + (i - a) = i by omega]
  simp only [m7]
  unfold v4
  dsimp only
  rw [if_pos (by omega)]
  by_cases g : (a : Int) < i
  ·have ew : IntKind.i64.wrap ((i : Int) - 1) = ((i - 1 : Nat) : Int) := by rw [c7 (by omega) (by omega)]; omega
   rw [if_pos g, if_pos (by omega), if_pos (by omega), ew, Int.toNat_natCast, Int.toNat_natCast, Int.toNat_natCast, if_pos (by omega), if_pos (by omega), if_pos (by omega), if_pos (by omega)]
   by_cases c : b.getD i 0 ≤ b.getD (i - 1) 0
   ·rw [if_pos c, if_neg ?_]
    intro h2
    have := h2 i (by omega) (by omega)
    omega
   ·rw [if_neg c, if_pos (by omega), if_pos (by omega), if_pos (by omega), if_pos (by omega), if_pos (by omega), if_pos b0.1, if_pos (by omega), if_pos (by omega), c7 (by omega) (by omega), em]
    refine d69 (N := N) hb hl hm hn hk he K j (i + 1) (by omega) (by omega) ?_ q (by omega)
    intro i2 h1 h2
    by_cases h3 : i2 = i
    ·subst h3; omega
    ·exact hg i2 h1 (by omega)
  ·rw [if_neg g, if_pos (by omega), if_pos (by omega), Int.toNat_natCast, Int.toNat_natCast, if_pos (by omega), if_pos (by omega), if_pos (by omega), if_pos b0.1, if_pos (by omega), if_pos (by omega), c7 (by omega) (by omega), em]
   exact d69 (N := N) hb hl hm hn hk he K j (i + 1) (by omega) (by omega) (fun i2 h1 h2 => by omega) q (by omega)
abbrev Ov := (Int × Unit) ⊕ (Int × Nat × Nat × Int × Nat × List Int × Nat × List Int × Unit)
theorem d5y {b h : List Int} {n m : Nat} (hb : ∀ z ∈ b, 0 ≤ z ∧ z ≤ 255) (hl : b.length = m + n) (hm : m ≤ 255) (hn : n ≤ 16) {N : Nat} (hN : 300 < N) {β : Type} (K : Ov → Option β) : ∀ j k, k + j = n → b34 b m k ≤ m → okR b m k → okG b m k → ∀ q, j < q →
  m7 (s5 N) q ((m : Int), b.length, n, (b34 b m k : Int), (n : Int), (k : Int), b.length, b, n * 256, b4d b m h k, ()) K
  = if okR b m n ∧ okG b m n then K (.inr ((m : Int), b.length, n, (b34 b m n : Int), b.length, b, n * 256, b4d b m h n, ())) else K (.inl (150, ()))
 | 0, k, hk, hc, hr, hg, q, hq => by
  obtain ⟨q, rfl⟩ : ∃ m, q = m + 1 := ⟨q - 1, by omega⟩
  have hk : k = n := by omega
  subst hk
  rw [if_pos ⟨hr, hg⟩]
  simp only [m7]
  unfold s5
  dsimp only
  rw [if_neg (by omega)]
 | j + 1, k, hk, hc, hr, hg, q, hq => by
  obtain ⟨q, rfl⟩ : ∃ m, q = m + 1 := ⟨q - 1, by omega⟩
  have b0 := d7E hb (m + k)
  have ew : IntKind.i64.wrap ((m : Int) + k) = ((m + k : Nat) : Int) := by rw [c7 (by omega) (by omega)]; omega
  have ec : b.getD (m + k) 0 = (b34 b m (k + 1) : Int) := by
   show _ = (((b.getD (m + k) 0).toNat : Nat) : Int)
   omega
  simp only [m7]
  unfold s5
  dsimp only
  rw [if_pos (by omega), ew, if_pos (by omega), if_pos (by omega), Int.toNat_natCast, if_pos (by omega), c7 (x := b.getD (m + k) 0) (by omega) (by omega), ec]
  by_cases c1 : (b34 b m (k + 1) : Int) < b34 b m k
  ·rw [if_pos c1, if_neg ?_]
   intro h2
   have := h2.1 k (by omega)
   omega
  rw [if_neg c1]
  by_cases c2 : (m : Int) < b34 b m (k + 1)
  ·rw [if_pos c2, if_neg ?_]
   intro h2
   have := h2.1 k (by omega)
   omega
  rw [if_neg c2]
  have e0 : b4d b m h k = b5H b k (b34 b m k) (b4d b m h k) (b34 b m k - b34 b m k) := by rw [Nat.sub_self]; rfl
  have := d69 (N := N) (b := b) (h := b4d b m h k) (n := n) (m := m) (k := k) (a := b34 b m k) (e := b34 b m (k + 1)) (nI := (n : Int)) hb hl hm hn (by omega) (by omega) (fun y => match y with
    | .inl y1 => (
     K (.inl (y1.1, ())))
    | .inr y2 => (
     m7 (s5 N) q (y2.1, y2.2.1, y2.2.2.1, y2.2.2.2.1, y2.2.2.2.2.1, (IntKind.i64.wrap (y2.2.2.2.2.2.1 + (1:Int))), y2.2.2.2.2.2.2.1, y2.2.2.2.2.2.2.2.1, y2.2.2.2.2.2.2.2.2.1, y2.2.2.2.2.2.2.2.2.2.1, ()) K)) (b34 b m (k + 1) - b34 b m k) (b34 b m k) (by omega) (Nat.le_refl _) (fun i2 h1 h2 => by omega) N (by omega)
  rw [← e0] at this
  refine this.trans ?_
  clear this
  by_cases g : d35 b (b34 b m k) (b34 b m (k + 1))
  ·rw [if_pos g]
   dsimp only
   rw [c7 (by omega) (by omega)]
   refine d5y hb hl hm hn hN K j (k + 1) (by omega) (by omega) ?_ ?_ q (by omega)
   ·intro k2 h2
    by_cases h3 : k2 = k
    ·subst h3; omega
    ·exact hr k2 (by omega)
   ·intro k2 h2
    by_cases h3 : k2 = k
    ·subst h3; exact g
    ·exact hg k2 (by omega)
  ·rw [if_neg g, if_neg ?_]
   intro h2
   exact g (h2.2 k (by omega))
abbrev Ow := (Int × Unit) ⊕ (Nat × Nat × List Int × Unit)
theorem d3k {b h : List Int} {n m a : Nat} (hl : b.length = m + n) (hm : m ≤ 255) (ha : a ≤ m) {L : Nat} {N : Nat} {β : Type} (K : Ow → Option β) : ∀ j i, a + i + j = m → (∀ i2, a ≤ i2 → i2 < a + i → b.getD i2 0 = 0) → ∀ q, j < q →
  m7 (v5 N) q (n, a, m - a, L, ((m - a : Nat) : Int), (i : Int), n * 256, h, b.length, b, ()) K
  = if ∀ i2, a ≤ i2 → i2 < m → b.getD i2 0 = 0 then K (.inr (n, n * 256, h, ())) else K (.inl (150, ()))
 | 0, i, hi, hz, q, hq => by
  obtain ⟨q, rfl⟩ : ∃ m, q = m + 1 := ⟨q - 1, by omega⟩
  rw [if_pos (fun i2 h1 h2 => hz i2 h1 (by omega))]
  simp only [m7]
  unfold v5
  dsimp only
  rw [if_neg (by omega)]
 | j + 1, i, hi, hz, q, hq => by
  obtain ⟨q, rfl⟩ : ∃ m, q = m + 1 := ⟨q - 1, by omega⟩
  simp only [m7]
  unfold v5
  dsimp only
  have ea : c2m a i = a + i := a2r a i
  rw [if_pos (by omega), if_pos (by omega), if_pos (by omega), Int.toNat_natCast, ea, if_pos (by omega), c7 (by omega) (by omega)]
  by_cases c : b.getD (a + i) 0 ≠ 0
  ·rw [if_pos c, if_neg ?_]
   exact fun h2 => c (h2 (a + i) (by omega) (by omega))
  ·rw [if_neg c]
   refine d3k (N := N) hl hm ha K j (i + 1) (by omega) ?_ q (by omega)
   intro i2 h1 h2
   by_cases h3 : i2 = a + i
   ·subst h3; omega
   ·exact hz i2 h1 (by omega)
theorem d7J {b : List Int} {m : Nat} : ∀ {n : Nat}, okR b m n → b34 b m n ≤ m
 | 0, _ => Nat.zero_le _
 | n + 1, h => (h n (by omega)).2
theorem d8K {n m : Int} {b : List Int} : a3G [.int .i64, .int .i64, .sl (.int .u8)] (n, m, b, ()) ↔ (-9223372036854775808 ≤ n ∧ n ≤ 9223372036854775807) ∧ (-9223372036854775808 ≤ m ∧ m ≤ 9223372036854775807) ∧ (b.length ≤ maxLen ∧ ∀ z ∈ b, 0 ≤ z ∧ z ≤ 255) := by
 have : Kd.wf (.int .i64) n ↔ -9223372036854775808 ≤ n ∧ n ≤ 9223372036854775807 := u2
 have h2 : Kd.wf (.int .i64) m ↔ -9223372036854775808 ≤ m ∧ m ≤ 9223372036854775807 := u2
 simp only [a3G, a98, and_true, this, h2]
theorem b46 : ∀ x r, J8 x = some r → ∃ N, V2 N x = some r := by
 refine d9 (ks := C6) (rs := C7) fun x hw hq => ⟨400, ?_⟩
 obtain ⟨(n : Int), (most : Int), (b : List Int), u⟩ := x
 obtain ⟨h1, h2, hb⟩ := d8K.1 hw
 unfold V2 b2v
 dsimp only
 by_cases c1 : n < 0
 ·rw [if_pos c1, if_pos (.inl (.inl c1))]
 rw [if_neg c1]
 by_cases c2 : 16 < n
 ·rw [if_pos c2, if_pos (.inl (.inr c2))]
 rw [if_neg c2]
 by_cases c3 : most < 0
 ·rw [if_pos c3, if_pos (.inr (.inl (.inl c3)))]
 rw [if_neg c3]
 by_cases c4 : 255 < most
 ·rw [if_pos c4, if_pos (.inr (.inl (.inr c4)))]
 rw [if_neg c4, c7 (by omega) (by omega)]
 by_cases c5 : (b.length : Int) ≠ most + n
 ·rw [if_pos c5, if_pos (.inr (.inr c5))]
 rw [if_neg c5, if_neg (by omega : ¬((n < 0 ∨ 16 < n) ∨ (most < 0 ∨ 255 < most) ∨ (b.length : Int) ≠ most + n)), if_pos (by omega), if_pos rfl, if_pos (by omega)]
 obtain ⟨m, rfl⟩ : ∃ m : Nat, most = m := ⟨most.toNat, by omega⟩
 obtain ⟨n, rfl⟩ : ∃ m : Nat, n = m := ⟨n.toNat, by omega⟩
 rw [Int.toNat_natCast, Int.toNat_natCast]
 have hl : b.length = m + n := by omega
 refine (d5y hb.2 hl (by omega) (by omega) (N := 400) (by omega) _ n 0 (by omega) (Nat.zero_le _) (fun k hk => by omega) (fun k hk => by omega) 400 (by omega)).trans ?_
 by_cases h : okR b m n ∧ okG b m n
 ·have hc := d7J h.1
  rw [if_pos h]
  dsimp only
  rw [if_pos (by omega), if_pos (by omega), if_pos (by omega), Int.toNat_natCast, Int.toNat_natCast, if_pos (by omega)]
  have es : c9M m (b34 b m n) = m - b34 b m n := V9 _ _
  rw [es]
  refine (d3k (N := 400) hl (by omega) hc _ (m - b34 b m n) 0 (by omega) (fun i2 h1 h2 => by omega) 400 (by omega)).trans ?_
  by_cases hz : ∀ i2, b34 b m n ≤ i2 → i2 < m → b.getD i2 0 = 0
  ·rw [if_pos hz, if_pos ⟨h.1, h.2, hz⟩]
  ·rw [if_neg hz, if_neg (fun g => hz g.2.2)]
 ·rw [if_neg h, if_neg (fun g => h ⟨g.1, g.2.1⟩)]
theorem b5I (b : List Int) (k a : Nat) (h : List Int) : ∀ j, (b5H b k a h j).length = h.length
 | 0 => rfl
 | j + 1 => by rw [b5H, List.length_set, b5I b k a h j]
theorem c5U (b : List Int) (m : Nat) (h : List Int) : ∀ k, (b4d b m h k).length = h.length
 | 0 => rfl
 | k + 1 => by rw [b4d, b5I, c5U b m h k]
theorem c9k {b : List Int} {k a : Nat} {h : List Int} (h0 : ∀ i, h.getD i 0 = 0 ∨ h.getD i 0 = 1) : ∀ j i, (b5H b k a h j).getD i 0 = 0 ∨ (b5H b k a h j).getD i 0 = 1
 | 0, i => h0 i
 | j + 1, i => by
  by_cases e : k * 256 + (b.getD (a + j) 0).toNat = i ∧ i < h.length
  ·rw [b5H, e.1, a2u (by rw [b5I]; exact e.2)]
   exact .inr rfl
  ·by_cases e2 : k * 256 + (b.getD (a + j) 0).toNat = i
   ·rw [b5B (by rw [b5I]; omega)]
    exact .inl rfl
   ·rw [b5H, getD_set_ne e2]
    exact c9k h0 j i
theorem c9d {b : List Int} {m : Nat} {h : List Int} (h0 : ∀ i, h.getD i 0 = 0 ∨ h.getD i 0 = 1) : ∀ k i, (b4d b m h k).getD i 0 = 0 ∨ (b4d b m h k).getD i 0 = 1
 | 0, i => h0 i
 | k + 1, i => by rw [b4d]; exact c9k (c9d h0 k) _ i
def d9C (s : List Int) : Prop := s.Pairwise (· < ·)
theorem c6G (l : List Int) (k : Nat) : ∀ t, d9C (b3Y (mkP l k) t) ∧ ∀ z ∈ b3Y (mkP l k) t, 0 ≤ z ∧ z < t
 | 0 => ⟨List.Pairwise.nil, fun z hz => absurd hz (by simp [b3Y])⟩
 | t + 1 => by
  obtain ⟨h1, h2⟩ := c6G l k t
  rw [b3Y]
  unfold mkP
  split
  ·refine ⟨List.pairwise_append.2 ⟨h1, List.pairwise_singleton .., fun a ha c hc => ?_⟩, fun z hz => ?_⟩
   ·rw [List.mem_singleton] at hc
    have := h2 a ha
    omega
   ·rcases List.mem_append.1 hz with e | e
    ·have := h2 z e; omega
    ·rw [List.mem_singleton] at e; omega
  ·rw [List.append_nil]
   exact ⟨h1, fun z hz => by have := h2 z hz; omega⟩
theorem d6Q (l : List Int) (k : Nat) : d9C (d5p l k) ∧ ∀ z ∈ d5p l k, 0 ≤ z ∧ z < 256 := c6G l k 256
end Go.Ax.TryP
