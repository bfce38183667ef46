/- A part of the proof: DeS, DeP, DeQ, DeQ2, DeQ3. -/
import Derived.Test.YtbcjbgjidddnaaaDsaB
set_option linter.unusedVariables false
namespace Go.Ax.TryP
open Go.Proofs
def c2k (s : List Int) (t : Nat) : Int := shk s (3 * t) + 256 * shk s (3 * t + 1) + 65536 * (shk s (3 * t + 2) % 128)
def b1x (s : List Int) (t : Nat) : List Int := if c2k s t < 8380417 then [c2k s t] else []
def a1j (f : Nat → List Int) : Nat → List Int
 | 0 => []
 | t + 1 => a1j f t ++ f t
@[irreducible] def d2E (s : List Int) : List Int × Int := if s.length ≠ 34 then (z256, 1) else if (a1j (b1x s) 1024).length < 256 then (z256, 130) else ((a1j (b1x s) 1024).take 256, 0)
def a8v (s : List Int) (t : Nat) : Int := if t % 2 = 0 then shb s (t / 2) % 16 else shb s (t / 2) / 16
def d5m (eta h : Int) : List Int := if eta = 2 then (if h < 15 then [(2 - h % 5) % 8380417] else []) else (if h < 9 then [(4 - h) % 8380417] else [])
def a5A (eta : Int) (s : List Int) (t : Nat) : List Int := d5m eta (a8v s t)
@[irreducible] def c8C (eta : Int) (s : List Int) : List Int × Int := if (eta ≠ 2 ∧ eta ≠ 4) ∨ s.length ≠ 66 then (z256, 1) else if (a1j (a5A eta s) 2048).length < 256 then (z256, 130) else ((a1j (a5A eta s) 2048).take 256, 0)
def c9H (w : Nat) (b : List Int) : List Int := p9 fun i => c23 w fun k => b7f b (i * w + k)
def a2h (top : Int) (w : Nat) (b : List Int) : List Int := p9 fun i => top - c23 w fun k => b7f b (i * w + k)
@[irreducible] def c5W (w : Int) (s : List Int) : List Int × Int := if (w ≠ 18 ∧ w ≠ 20) ∨ s.length ≠ 66 then (z256, 1) else (a2h (2 ^ (w - 1).toNat) w.toNat (a0d 136 31 s (32 * w.toNat)), 0)
noncomputable def Z7 : List Int × Unit → Option (List Int × Int) := a0l (ks := [.sl (.int .u8)]) (rs := [.xs (.int .i32) 256, .int .i64]) (fun _ => True) fun x => d2E x.1
def c7q (eta h : Int) : Int × Bool := if eta = 2 ∧ h < 15 then (2 - h % 5, true) else if eta = 4 ∧ h < 9 then (4 - h, true) else (0, false)
noncomputable def a62 : Int × Int × Unit → Option (Int × Bool) := a0l (ks := [.int .i64, .int .u8]) (rs := [.int .i32, .bool]) (fun _ => True) fun x => c7q x.1 x.2.1
noncomputable def G0 : Int × List Int × Unit → Option (List Int × Int) := a0l (ks := [.int .i64, .sl (.int .u8)]) (rs := [.xs (.int .i32) 256, .int .i64]) (fun _ => True) fun x => c8C x.1 x.2.1
def wOk (w : Int) (b : List Int) : Prop := 1 ≤ w ∧ w ≤ 23 ∧ (b.length : Int) = 32 * w
noncomputable def Z8 : Int × List Int × Unit → Option (List Int × Int) := a0l (ks := [.int .i64, .sl (.int .u8)]) (rs := [.xs (.int .i32) 256, .int .i64]) (fun x => wOk x.1 x.2.1) fun x => (c9H x.1.toNat x.2.1, 0)
noncomputable def Q9 : Int × Int × Unit → Option Int := a0l (ks := [.int .i32, .rp (.int .i32)]) (rs := [.int .i32]) (fun x => 0 ≤ x.1 ∧ 0 ≤ x.2.1) fun x => x.2.1 - x.1
noncomputable def s6 : List Int × Int × Unit → Option (List Int) := a0l (ks := [.xs (.int .i32) 256, .fcl 58 .i32]) (rs := [.xs (.int .i32) 256]) (fun x => (∀ z ∈ x.1, 0 ≤ z) ∧ 0 ≤ x.2.1) fun x => p9 fun i => x.2.1 - x.1.getD i 0
noncomputable def j4 : Int × Int × List Int × Unit → Option (List Int × Int) := a0l (ks := [.int .i32, .int .i64, .sl (.int .u8)]) (rs := [.xs (.int .i32) 256, .int .i64]) (fun x => (0 ≤ x.1 ∧ x.1 < 8380417) ∧ wOk x.2.1 x.2.2.1) fun x => (a2h x.1 x.2.1.toNat x.2.2.1, 0)
noncomputable def a61 : Int × List Int × Unit → Option (List Int × Int) := a0l (ks := [.int .i64, .sl (.int .u8)]) (rs := [.xs (.int .i32) 256, .int .i64]) (fun _ => True) fun x => c5W x.1 x.2.1
def a5Q (s : List Int) (i : Nat) : Nat → Nat → Nat
 | 0, at' => at'
 | n + 1, at' => if at' < 1032 ∧ (i : Int) < shb s at' then a5Q s i n (at' + 1) else at'
def c5n (s : List Int) (n i at' : Nat) (c : List Int) : List Int := (c.set i (c.getD (shb s at').toNat 0)).set (shb s at').toNat (if c66 (shb s (n / 8)) (n % 8) = 1 then 8380416 else 1)
def b7e (tau : Nat) (s : List Int) : Nat → Option (List Int × Nat)
 | 0 => some (z256, 8)
 | k + 1 => match b7e tau s k with
  | none => none
  | some (c, at') => if a5Q s (256 - tau + k) 1032 at' = 1032 then none else some (c5n s k (256 - tau + k) (a5Q s (256 - tau + k) 1032 at') c, a5Q s (256 - tau + k) 1032 at' + 1)
@[irreducible] def a47 (tau : Int) (s : List Int) : List Int × Int := if tau < 1 ∨ 64 < tau then (z256, 1) else match b7e tau.toNat s tau.toNat with
 | none => (z256, 130)
 | some (c, _) => (c, 0)
noncomputable def a4K : Int × List Int × Unit → Option (List Int × Int) := a0l (ks := [.int .i64, .sl (.int .u8)]) (rs := [.xs (.int .i32) 256, .int .i64]) (fun x => x.2.1.length ≤ 1000) fun x => a47 x.1 x.2.1
def b3U (f : Nat → List Int) : Nat → List Int
 | 0 => []
 | t + 1 => b3U f t ++ f t
def mkP (l : List Int) (k i : Nat) : List Int := if l.getD (k * 256 + i) 0 ≠ 0 then [(i : Int)] else []
def d5d (l : List Int) (k : Nat) : List Int := b3U (mkP l k) 256
def a7A (l : List Int) (n : Nat) : List Int := b3U (d5d l) n
def d41 (l : List Int) (k : Nat) : Int := ((a7A l (k + 1)).length : Int)
def b40 (l : List Int) (most : Int) : List Int × Int := if (l.length / 256 > 16 ∨ most < 0) ∨ 255 < most then ([], 1) else if most < ((a7A l (l.length / 256)).length : Int) then ([], 3) else
 (a7A l (l.length / 256) ++ List.replicate (most.toNat - (a7A l (l.length / 256)).length) 0 ++ (List.range (l.length / 256)).map (d41 l), 0)
def b3Z (b : List Int) (m : Nat) : Nat → Nat
 | 0 => 0
 | k + 1 => (b.getD (m + k) 0).toNat
def b5E (b : List Int) (k a : Nat) (h : List Int) : Nat → List Int
 | 0 => h
 | j + 1 => (b5E b k a h j).set (k * 256 + (b.getD (a + j) 0).toNat) 1
def b39 (b : List Int) (m : Nat) (h : List Int) : Nat → List Int
 | 0 => h
 | k + 1 => b5E b k (b3Z b m k) (b39 b m h k) (b3Z b m (k + 1) - b3Z b m k)
def okR (b : List Int) (m n : Nat) : Prop := ∀ k, k < n → b3Z b m k ≤ b3Z b m (k + 1) ∧ b3Z b m (k + 1) ≤ m
def d3R (b : List Int) (a e : Nat) : Prop := ∀ i, a < i → i < e → b.getD (i - 1) 0 < b.getD i 0
def okG (b : List Int) (m n : Nat) : Prop := ∀ k, k < n → d3R b (b3Z b m k) (b3Z b m (k + 1))
def okZ (b : List Int) (m n : Nat) : Prop := ∀ j, b3Z b m n ≤ j → j < m → b.getD j 0 = 0
open Classical in
noncomputable def a8b (n most : Int) (b : List Int) : List Int × Int := if (n < 0 ∨ 16 < n) ∨ (most < 0 ∨ 255 < most) ∨ (b.length : Int) ≠ most + n then ([], 1) else
 if okR b most.toNat n.toNat ∧ okG b most.toNat n.toNat ∧ okZ b most.toNat n.toNat then (b39 b most.toNat (List.replicate (n.toNat * 256) 0) n.toNat, 0) else ([], 150)
noncomputable def a05 : List Int × Int × Unit → Option (List Int × Int) := a0l (ks := [.sla .bool 256, .int .i64]) (rs := [.sl (.int .u8), .int .i64]) (fun _ => True) fun x => b40 x.1 x.2.1
noncomputable def J8 : Int × Int × List Int × Unit → Option (List Int × Int) := a0l (ks := [.int .i64, .int .i64, .sl (.int .u8)]) (rs := [.sla .bool 256, .int .i64]) (fun _ => True) fun x => a8b x.1 x.2.1 x.2.2.1
end Go.Ax.TryP
set_option linter.unusedVariables false
namespace Go.Ax.TryP
open Go.Proofs
noncomputable def p_dring_RejNtt_E : AE := AE.of [(5, ty5), (21, ty21), (23, ty23), (35, ty35), (40, ty40)] [(63, R5), (64, R6)]
noncomputable def b0j : Hints := [(7, [2, 4, 5, 6, 17, 999999]), (2000000, [2]), (2000001, [2, 4, 5, 6, 17]), (3000000, [2, 3])]
noncomputable def a5f : Code := (Try.f46).body.getD .skip
noncomputable def b4m : Shape := mkS { tmps := V :: V :: .sc (.ptr 0 0 false) :: V :: .sc (.ptr 1 0 false) :: .sc (.ptr 2 0 false) :: .sc (.int .i64) :: pv 10 (.sc (.int .i64) :: pv 37 []), mem := [.live [.xs b32 (some 256)] (.own), .live [.xs b32 (some 256)] (.own), .live [.one (.bool), .xs (.int .u64) (some 25), .one (.int .i64), .one (.int .i64), .one (.int .i64)] (.own)] } [.int, .int, .xs, .xs, .bool, .xs, .int, .int, .int]
abbrev W19 : Type := Int × Int × List Int × List Int × Bool × List Int × Int × Int × Int × Unit
abbrev W20 : Type := (List Int × Unit) ⊕ (Int × List Int × Unit)
noncomputable def w7 (N : Nat) (β : Type) (x : W19) (kn : W19 → Option β) (ke : W20 → Option β) : Option β :=
 if (x.2.1 < (1024:Int)) then
  (o0 ((x.2.2.2.2.1, x.2.2.2.2.2.1, x.2.2.2.2.2.2.1, x.2.2.2.2.2.2.2.1, x.2.2.2.2.2.2.2.2.1, ()), (3:Int), ())).bind fun r2 => (
  if (r2.2.1 ≠ (0:Int)) then
   ke (.inl (x.2.2.1, ()))
  else
   if 0 ≤ (0:Int) then (
   if (0:Int) < (((List.length r2.1) : Nat) : Int) then (
   if 0 < (List.length r2.1) then (
   if 0 ≤ (1:Int) then (
   if (1:Int) < (((List.length r2.1) : Nat) : Int) then (
   if 1 < (List.length r2.1) then (
   if 0 ≤ (2:Int) then (
   if (2:Int) < (((List.length r2.1) : Nat) : Int) then (
   if 2 < (List.length r2.1) then (
   if ((ior IntKind.i32 (ior IntKind.i32 (IntKind.i32.wrap (List.getD r2.1 0 0)) (b0A IntKind.i32 (IntKind.i32.wrap (List.getD r2.1 1 0)) (8:Int))) (b0A IntKind.i32 (IntKind.i32.wrap (b8H IntKind.u8 (List.getD r2.1 2 0) (127:Int))) (16:Int))) ≥ (8380417:Int)) then
    kn (x.1, (IntKind.i64.wrap (x.2.1 + (1:Int))), x.2.2.1, x.2.2.2.1, (decide (r2.2.2.1 = true)), r2.2.2.2.1, r2.2.2.2.2.1, r2.2.2.2.2.2.1, r2.2.2.2.2.2.2.1, ())
   else
    if 0 ≤ x.1 then (
    if x.1 < 256 then (
    if (x.1.toNat) < 256 then (
    if ((IntKind.i64.wrap (x.1 + (1:Int))) = (256:Int)) then
     ke (.inr ((0:Int), (List.set x.2.2.2.1 (x.1.toNat) (ior IntKind.i32 (ior IntKind.i32 (IntKind.i32.wrap (List.getD r2.1 0 0)) (b0A IntKind.i32 (IntKind.i32.wrap (List.getD r2.1 1 0)) (8:Int))) (b0A IntKind.i32 (IntKind.i32.wrap (b8H IntKind.u8 (List.getD r2.1 2 0) (127:Int))) (16:Int)))), ()))
    else
     kn ((IntKind.i64.wrap (x.1 + (1:Int))), (IntKind.i64.wrap (x.2.1 + (1:Int))), x.2.2.1, (List.set x.2.2.2.1 (x.1.toNat) (ior IntKind.i32 (ior IntKind.i32 (IntKind.i32.wrap (List.getD r2.1 0 0)) (b0A IntKind.i32 (IntKind.i32.wrap (List.getD r2.1 1 0)) (8:Int))) (b0A IntKind.i32 (IntKind.i32.wrap (b8H IntKind.u8 (List.getD r2.1 2 0) (127:Int))) (16:Int)))), (decide (r2.2.2.1 = true)), r2.2.2.2.1, r2.2.2.2.2.1, r2.2.2.2.2.2.1, r2.2.2.2.2.2.2.1, ())) else none) else none) else none) else none) else none) else none) else none) else none) else none) else none) else none) else none)
 else
  ke (.inl (x.2.2.1, ()))
noncomputable def b2W : Go' W20 := fun y K => match y with
 | .inl y => K (.exit 0) (fSt { tmps := V :: V :: .sc (.ptr 0 0 false) :: pv 52 [], mem := [.live [.xs b32 (some 256)] (.own)] } [.xs] y)
 | .inr y => K .ret (fSt { tmps := V :: V :: .sc (.ptr 0 0 false) :: .sc (.int .i64) :: pv 51 [], mem := [.live [.xs b32 (some 256)] (.own)] } [.int, .xs] y)
noncomputable def a6i (N : Nat) : LT := upd (LT.nil) 7 (o6 b4m N (w7 N) b2W)
theorem b2X (N : Nat) : OkAll p_dring_RejNtt_E b0j N (a6i N) (w9 a5f) :=
 d6 (c := d7 7 a5f) (OkAll.nil) (by kernel_rfl) (fun x => by kernel_rfl) (fun β x kn ke => by kernel_rfl)
abbrev S1 : List Kd := [.sl b8]
abbrev S2 : List Kd := [.xs b32 256, .int .i64]
noncomputable def a4q (N : Nat) (x : List Int × Unit) : Option (List Int × Int) :=
 if ((((List.length x.1) : Nat) : Int) ≠ (34:Int)) then
  some ((List.replicate 256 0), (1:Int))
 else
  (D4 ([x.1], ())).bind fun r1 => (
  m7 (w7 N) N ((0:Int), (0:Int), (List.replicate 256 0), (List.replicate 256 0), (decide (r1.1 = true)), r1.2.1, r1.2.2.1, r1.2.2.2.1, r1.2.2.2.2.1, ()) fun y => (match y with
  | .inl y3 => (
   some ((List.replicate 256 0), (130:Int)))
  | .inr y4 => (
   some (y4.2.1, y4.1))))
theorem b56 (e0 : c8 Try.prog 63 R5) (e1 : c8 Try.prog 64 R6) : p_dring_RejNtt_E.Ok Try.prog := AE.of_ok (all_cons Z1 (all_cons u4 (all_cons F8 (all_cons a2C (all_cons q8 c6))))) (all_cons ⟨e0, a3F⟩ (all_cons ⟨e1, a3G⟩ c6))
theorem b7R (hE : p_dring_RejNtt_E.Ok Try.prog) {g : Ds S1 → Option (Rs S2)} (hg : ∀ x r, g x = some r → ∃ N, a4q N x = some r) : c8 Try.prog 46 ⟨S1, S2, g⟩ :=
 i5 (E := p_dring_RejNtt_E) (H := b0j) (L := fun N => a6i N) (c := a5f) (ks := S1) (rs := S2) (F := a4q) hE mix Try.func46 (by kernel_rfl) (fun N => b2X N) (fun _ _ => by kernel_rfl) hg
noncomputable def p_dring_half_E : AE := AE.of [(5, ty5), (21, ty21)] []
noncomputable def c2y : Hints := [(2000000, []), (3000000, [4, 5])]
noncomputable def c2z : Code := (Try.f44).body.getD .skip
abbrev a0I : List Kd := [.int .i64, .int .u8]
abbrev a0J : List Kd := [.int .i32, .bool]
noncomputable def a7c (N : Nat) (x : Int × Int × Unit) : Option (Int × Bool) :=
 if (x.1 = (2:Int)) then
  if (x.2.1 < (15:Int)) then
   some ((IntKind.i32.wrap ((2:Int) - (IntKind.i32.wrap (Int.tmod x.2.1 (5:Int))))), true)
  else
   if (x.1 = (4:Int)) then
    if (x.2.1 < (9:Int)) then
     some ((IntKind.i32.wrap ((4:Int) - (IntKind.i32.wrap x.2.1))), true)
    else
     some ((0:Int), false)
   else
    some ((0:Int), false)
 else
  if (x.1 = (4:Int)) then
   if (x.2.1 < (9:Int)) then
    some ((IntKind.i32.wrap ((4:Int) - (IntKind.i32.wrap x.2.1))), true)
   else
    some ((0:Int), false)
  else
   some ((0:Int), false)
theorem b9w : p_dring_half_E.Ok Try.prog := AE.of_ok (all_cons Z1 (all_cons u4 c6)) c6
theorem c1u (hE : p_dring_half_E.Ok Try.prog) {g : Ds a0I → Option (Rs a0J)} (hg : ∀ x r, g x = some r → ∃ N, a7c N x = some r) : c8 Try.prog 44 ⟨a0I, a0J, g⟩ :=
 i5 (E := p_dring_half_E) (H := c2y) (L := fun N => LT.nil) (c := c2z) (ks := a0I) (rs := a0J) (F := a7c) hE mix Try.func44 (by kernel_rfl) (fun N => OkAll.nil) (fun _ _ => by kernel_rfl) hg
noncomputable abbrev E1 : Sig := ⟨[.int .i64, .int .i64, .sls b8], [.sl b8, .int .i64], v3⟩
noncomputable abbrev b03 : Sig := ⟨[.int .i64, .int .u8], [.int .i32, .bool], a62⟩
noncomputable def p_dring_RejBounded_E : AE := AE.of [(2, ty2), (5, ty5), (21, ty21), (23, ty23), (35, ty35), (40, ty40), (83, ty83)] [(42, E1), (44, b03), (45, i7)]
noncomputable def a1s : Hints := [(9, [0, 4, 6, 9, 37, 38, 39]), (12, [0, 4, 6, 9, 37, 38, 39, 47, 48]), (2000000, [4]), (2000001, [0, 4, 6, 9, 37, 38, 39]), (2000002, [0, 4, 6, 9, 37, 38, 39]), (2000003, [0, 4, 6, 9, 37, 38, 39, 47, 48]), (3000000, [4, 5])]
noncomputable def H7 : Code := (Try.f15).body.getD .skip
noncomputable def a8F : Shape := mkS { tmps := .sc (.int .i64) :: pv 3 (.sc (.ptr 0 0 false) :: V :: .sc (.ptr 1 0 false) :: V :: V :: .sc (.int .i64) :: pv 27 (.sc (.vec 2 none 1) :: .sc (.int .i64) :: .sc (.int .i64) :: pv 7 (.agg [.xs b8 (some 2)] :: .sc (.int .i64) :: pv 23 []))), mem := [.live [.xs b32 (some 256)] (.own), .live [.xs b32 (some 256)] (.own), .live [.xs b8 none] (.own)] } [.int, .int, .nat, .int, .int, .xs, .int, .xs, .xs, .nat, .xs]
abbrev W21 : Type := Int × Int × Nat × Int × Int × List Int × Int × List Int × List Int × Nat × List Int × Unit
abbrev W22 : Type := (Int × List Int × Unit) ⊕ (Int × Int × Nat × Int × Int × List Int × List Int × Nat × List Int × Unit)
noncomputable def q9 (N : Nat) (β : Type) (x : W21) (kn : W21 → Option β) (ke : W22 → Option β) : Option β :=
 if (x.2.2.2.2.2.2.1 < (2:Int)) then
  if 0 ≤ x.2.2.2.2.2.2.1 then (
  if x.2.2.2.2.2.2.1 < 2 then (
  if (x.2.2.2.2.2.2.1.toNat) < 2 then (
  (a62 (x.1, (List.getD x.2.2.2.2.2.1 (x.2.2.2.2.2.2.1.toNat) 0), ())).bind fun r2 => (
  if (¬ (r2.2 = true)) then
   kn (x.1, x.2.1, x.2.2.1, x.2.2.2.1, x.2.2.2.2.1, x.2.2.2.2.2.1, (IntKind.i64.wrap (x.2.2.2.2.2.2.1 + (1:Int))), x.2.2.2.2.2.2.2.1, x.2.2.2.2.2.2.2.2.1, x.2.2.2.2.2.2.2.2.2.1, x.2.2.2.2.2.2.2.2.2.2.1, ())
  else
   (u1 ((IntKind.i64.wrap r2.1), ())).bind fun r3 => (
   if 0 ≤ x.2.1 then (
   if x.2.1 < 256 then (
   if (x.2.1.toNat) < 256 then (
   if ((IntKind.i64.wrap (x.2.1 + (1:Int))) = (256:Int)) then
    ke (.inl ((0:Int), (List.set x.2.2.2.2.2.2.2.2.1 (x.2.1.toNat) r3), ()))
   else
    kn (x.1, (IntKind.i64.wrap (x.2.1 + (1:Int))), x.2.2.1, x.2.2.2.1, x.2.2.2.2.1, x.2.2.2.2.2.1, (IntKind.i64.wrap (x.2.2.2.2.2.2.1 + (1:Int))), x.2.2.2.2.2.2.2.1, (List.set x.2.2.2.2.2.2.2.2.1 (x.2.1.toNat) r3), x.2.2.2.2.2.2.2.2.2.1, x.2.2.2.2.2.2.2.2.2.2.1, ())) else none) else none) else none))) else none) else none) else none
 else
  ke (.inr (x.1, x.2.1, x.2.2.1, x.2.2.2.1, x.2.2.2.2.1, x.2.2.2.2.2.2.2.1, x.2.2.2.2.2.2.2.2.1, x.2.2.2.2.2.2.2.2.2.1, x.2.2.2.2.2.2.2.2.2.2.1, ()))
noncomputable def a7O : Go' W22 := fun y K => match y with
 | .inl y => K .ret (fSt { tmps := pv 4 (.sc (.ptr 0 0 false) :: .sc (.int .i64) :: pv 66 []), mem := [.live [.xs b32 (some 256)] (.own)] } [.int, .xs] y)
 | .inr y => K (.exit 2) (fSt { tmps := .sc (.int .i64) :: pv 3 (.sc (.ptr 0 0 false) :: V :: .sc (.ptr 1 0 false) :: V :: V :: .sc (.int .i64) :: pv 27 (.sc (.vec 2 none 1) :: .sc (.int .i64) :: .sc (.int .i64) :: pv 32 [])), mem := [.live [.xs b32 (some 256)] (.own), .live [.xs b32 (some 256)] (.own), .live [.xs b8 none] (.own)] } [.int, .int, .nat, .int, .int, .xs, .xs, .nat, .xs] y)
noncomputable def a2K (N : Nat) : LT := upd (LT.nil) 12 (o6 a8F N (q9 N) a7O)
theorem a7P (N : Nat) : OkAll p_dring_RejBounded_E a1s N (a2K N) (w9 H7) :=
 d6 (c := d7 12 H7) (OkAll.nil) (by kernel_rfl) (fun x => by kernel_rfl) (fun β x kn ke => by kernel_rfl)
noncomputable def a9H : Shape := mkS { tmps := .sc (.int .i64) :: pv 3 (.sc (.ptr 0 0 false) :: V :: .sc (.ptr 1 0 false) :: V :: V :: .sc (.int .i64) :: pv 27 (.sc (.vec 2 none 1) :: .sc (.int .i64) :: .sc (.int .i64) :: pv 32 [])), mem := [.live [.xs b32 (some 256)] (.own), .live [.xs b32 (some 256)] (.own), .live [.xs b8 none] (.own)] } [.int, .int, .nat, .int, .int, .xs, .xs, .nat, .xs]
abbrev W23 : Type := Int × Int × Nat × Int × Int × List Int × List Int × Nat × List Int × Unit
abbrev W24 : Type := (Int × List Int × Unit) ⊕ (List Int × Unit)
noncomputable def j8 (N : Nat) (β : Type) (x : W23) (kn : W23 → Option β) (ke : W24 → Option β) : Option β :=
 if (x.2.2.2.2.1 < x.2.2.2.1) then
  if 0 ≤ x.2.2.2.2.1 then (
  if x.2.2.2.2.1 < ((x.2.2.1 : Nat) : Int) then (
  if (x.2.2.2.2.1.toNat) < x.2.2.2.2.2.2.2.1 then (
  m7 (q9 N) N (x.1, x.2.1, x.2.2.1, x.2.2.2.1, x.2.2.2.2.1, (List.set (List.set (List.replicate 2 0) 0 (b8H IntKind.u8 (List.getD x.2.2.2.2.2.2.2.2.1 (x.2.2.2.2.1.toNat) 0) (15:Int))) 1 (b9c IntKind.u8 (List.getD x.2.2.2.2.2.2.2.2.1 (x.2.2.2.2.1.toNat) 0) (4:Int))), (0:Int), x.2.2.2.2.2.1, x.2.2.2.2.2.2.1, x.2.2.2.2.2.2.2.1, x.2.2.2.2.2.2.2.2.1, ()) fun y => (match y with
  | .inl y4 => (
   ke (.inl (y4.1, y4.2.1, ())))
  | .inr y5 => (
   kn (y5.1, y5.2.1, y5.2.2.1, y5.2.2.2.1, (IntKind.i64.wrap (y5.2.2.2.2.1 + (1:Int))), y5.2.2.2.2.2.1, y5.2.2.2.2.2.2.1, y5.2.2.2.2.2.2.2.1, y5.2.2.2.2.2.2.2.2.1, ())))) else none) else none) else none
 else
  ke (.inr (x.2.2.2.2.2.1, ()))
noncomputable def a8G : Go' W24 := fun y K => match y with
 | .inl y => K .ret (fSt { tmps := pv 4 (.sc (.ptr 0 0 false) :: .sc (.int .i64) :: pv 66 []), mem := [.live [.xs b32 (some 256)] (.own)] } [.int, .xs] y)
 | .inr y => K (.exit 0) (fSt { tmps := pv 4 (.sc (.ptr 0 0 false) :: pv 67 []), mem := [.live [.xs b32 (some 256)] (.own)] } [.xs] y)
noncomputable def a3d (N : Nat) : LT := upd (a2K N) 9 (o6 a9H N (j8 N) a8G)
theorem a8H (N : Nat) : OkAll p_dring_RejBounded_E a1s N (a3d N) (w9 H7) :=
 d6 (c := d7 9 H7) (a7P N) (by kernel_rfl) (fun x => by kernel_rfl) (fun β x kn ke => by kernel_rfl)
abbrev E7 : List Kd := [.int .i64, .sl b8]
abbrev E8 : List Kd := [.xs b32 256, .int .i64]
noncomputable def a0f (N : Nat) (x : Int × List Int × Unit) : Option (List Int × Int) :=
 if (x.1 ≠ (2:Int)) then
  if (x.1 ≠ (4:Int)) then
   some ((List.replicate 256 0), (1:Int))
  else
   if ((((List.length x.2.1) : Nat) : Int) ≠ (66:Int)) then
    some ((List.replicate 256 0), (1:Int))
   else
    (v3 ((256:Int), (1024:Int), [x.2.1], ())).bind fun r1 => (
    if (r1.2 ≠ (0:Int)) then
     some ((List.replicate 256 0), (130:Int))
    else
     m7 (j8 N) N (x.1, (0:Int), (List.length r1.1), (((List.length r1.1) : Nat) : Int), (0:Int), (List.replicate 256 0), (List.replicate 256 0), (List.length r1.1), r1.1, ()) fun y => (match y with
     | .inl y6 => (
      some (y6.2.1, y6.1))
     | .inr y7 => (
      some ((List.replicate 256 0), (130:Int)))))
 else
  if ((((List.length x.2.1) : Nat) : Int) ≠ (66:Int)) then
   some ((List.replicate 256 0), (1:Int))
  else
   (v3 ((256:Int), (1024:Int), [x.2.1], ())).bind fun r8 => (
   if (r8.2 ≠ (0:Int)) then
    some ((List.replicate 256 0), (130:Int))
   else
    m7 (j8 N) N (x.1, (0:Int), (List.length r8.1), (((List.length r8.1) : Nat) : Int), (0:Int), (List.replicate 256 0), (List.replicate 256 0), (List.length r8.1), r8.1, ()) fun y => (match y with
    | .inl y9 => (
     some (y9.2.1, y9.1))
    | .inr y10 => (
     some ((List.replicate 256 0), (130:Int)))))
theorem b0K (e0 : c8 Try.prog 42 E1) (e1 : c8 Try.prog 44 b03) (e2 : c8 Try.prog 45 i7) : p_dring_RejBounded_E.Ok Try.prog := AE.of_ok (all_cons a88 (all_cons Z1 (all_cons u4 (all_cons F8 (all_cons a2C (all_cons q8 (all_cons d6V c6))))))) (all_cons ⟨e0, U5⟩ (all_cons ⟨e1, b7m⟩ (all_cons ⟨e2, o5⟩ c6)))
theorem b1E (hE : p_dring_RejBounded_E.Ok Try.prog) {g : Ds E7 → Option (Rs E8)} (hg : ∀ x r, g x = some r → ∃ N, a0f N x = some r) : c8 Try.prog 15 ⟨E7, E8, g⟩ :=
 i5 (E := p_dring_RejBounded_E) (H := a1s) (L := fun N => a3d N) (c := H7) (ks := E7) (rs := E8) (F := a0f) hE mix Try.func15 (by kernel_rfl) (fun N => a8H N) (fun _ _ => by kernel_rfl) hg
noncomputable def p_dring_Unpack_E : AE := AE.of [(5, ty5), (21, ty21), (23, ty23), (40, ty40)] []
noncomputable def a5g : Hints := [(5, [0, 1, 4, 6, 24]), (8, [0, 1, 4, 6, 7, 24, 27, 28]), (2000000, [4, 6]), (2000001, [0, 1, 4, 6, 24]), (2000002, [0, 1, 4, 6, 24]), (2000003, [0, 1, 4, 6, 7, 24, 27, 28]), (3000000, [4, 5])]
noncomputable def Y2 : Code := (Try.f35).body.getD .skip
noncomputable def b4o : Shape := mkS { tmps := .sc (.int .i64) :: .sc (.vec 0 none 1) :: V :: V :: .sc (.ptr 1 0 false) :: V :: .sc (.ptr 2 0 false) :: .sc (.int .i64) :: pv 16 (.sc (.int .i64) :: V :: V :: .sc (.int .i64) :: .sc (.int .i64) :: pv 27 []), mem := [.live [.xs b8 none] (.ro), .live [.xs b32 (some 256)] (.own), .live [.xs b32 (some 256)] (.own)] } [.int, .nat, .int, .int, .int, .int, .nat, .xs, .xs, .xs]
abbrev W25 : Type := Int × Nat × Int × Int × Int × Int × Nat × List Int × List Int × List Int × Unit
abbrev W26 : Type := Int × Nat × Int × Nat × List Int × List Int × List Int × Unit
noncomputable def K8 (N : Nat) (β : Type) (x : W25) (kn : W25 → Option β) (ke : W26 → Option β) : Option β :=
 if (x.2.2.2.2.2.1 < x.2.2.2.2.1) then
  if 0 ≤ x.2.2.1 then (
  if x.2.2.1 < 256 then (
  if (x.2.2.1.toNat) < 256 then (
  if 0 ≤ (IntKind.i64.wrap (Int.tdiv (IntKind.i64.wrap ((IntKind.i64.wrap (x.2.2.1 * x.1)) + x.2.2.2.2.2.1)) (8:Int))) then (
  if (IntKind.i64.wrap (Int.tdiv (IntKind.i64.wrap ((IntKind.i64.wrap (x.2.2.1 * x.1)) + x.2.2.2.2.2.1)) (8:Int))) < ((x.2.1 : Nat) : Int) then (
  if ((IntKind.i64.wrap (Int.tdiv (IntKind.i64.wrap ((IntKind.i64.wrap (x.2.2.1 * x.1)) + x.2.2.2.2.2.1)) (8:Int))).toNat) < x.2.2.2.2.2.2.1 then (
  if (Int.tmod (IntKind.i64.wrap ((IntKind.i64.wrap (x.2.2.1 * x.1)) + x.2.2.2.2.2.1)) (8:Int)) < 0 then none else (
  if x.2.2.2.2.2.1 < 0 then none else (
  if 0 ≤ x.2.2.1 then (
  if x.2.2.1 < 256 then (
  if (x.2.2.1.toNat) < 256 then (
  kn (x.1, x.2.1, x.2.2.1, x.2.2.2.1, x.2.2.2.2.1, (IntKind.i64.wrap (x.2.2.2.2.2.1 + (1:Int))), x.2.2.2.2.2.2.1, x.2.2.2.2.2.2.2.1, x.2.2.2.2.2.2.2.2.1, (List.set x.2.2.2.2.2.2.2.2.2.1 (x.2.2.1.toNat) (ior IntKind.i32 (List.getD x.2.2.2.2.2.2.2.2.2.1 (x.2.2.1.toNat) 0) (b0A IntKind.i32 (IntKind.i32.wrap (b8H IntKind.u8 (b9c IntKind.u8 (List.getD x.2.2.2.2.2.2.2.1 ((IntKind.i64.wrap (Int.tdiv (IntKind.i64.wrap ((IntKind.i64.wrap (x.2.2.1 * x.1)) + x.2.2.2.2.2.1)) (8:Int))).toNat) 0) (Int.tmod (IntKind.i64.wrap ((IntKind.i64.wrap (x.2.2.1 * x.1)) + x.2.2.2.2.2.1)) (8:Int))) (1:Int))) x.2.2.2.2.2.1))), ())) else none) else none) else none))) else none) else none) else none) else none) else none) else none
 else
  ke (x.1, x.2.1, x.2.2.2.1, x.2.2.2.2.2.2.1, x.2.2.2.2.2.2.2.1, x.2.2.2.2.2.2.2.2.1, x.2.2.2.2.2.2.2.2.2.1, ())
noncomputable def b27 : Go' W26 := fun y K => K (.exit 2) (fSt { tmps := .sc (.int .i64) :: .sc (.vec 0 none 1) :: V :: V :: .sc (.ptr 1 0 false) :: V :: .sc (.ptr 2 0 false) :: pv 17 (.sc (.int .i64) :: pv 31 []), mem := [.live [.xs b8 none] (.ro), .live [.xs b32 (some 256)] (.own), .live [.xs b32 (some 256)] (.own)] } [.int, .nat, .int, .nat, .xs, .xs, .xs] y)
noncomputable def a6k (N : Nat) : LT := upd (LT.nil) 8 (o6 b4o N (K8 N) b27)
theorem b28 (N : Nat) : OkAll p_dring_Unpack_E a5g N (a6k N) (w9 Y2) :=
 d6 (c := d7 8 Y2) (OkAll.nil) (by kernel_rfl) (fun x => by kernel_rfl) (fun β x kn ke => by kernel_rfl)
noncomputable def b4n : Shape := mkS { tmps := .sc (.int .i64) :: .sc (.vec 0 none 1) :: V :: V :: .sc (.ptr 1 0 false) :: V :: .sc (.ptr 2 0 false) :: pv 17 (.sc (.int .i64) :: pv 31 []), mem := [.live [.xs b8 none] (.ro), .live [.xs b32 (some 256)] (.own), .live [.xs b32 (some 256)] (.own)] } [.int, .nat, .int, .nat, .xs, .xs, .xs]
noncomputable def D8 (N : Nat) (β : Type) (x : W26) (kn : W26 → Option β) (ke : W5 → Option β) : Option β :=
 if (x.2.2.1 < (256:Int)) then
  m7 (K8 N) N (x.1, x.2.1, x.2.2.1, x.2.2.1, x.1, (0:Int), x.2.2.2.1, x.2.2.2.2.1, x.2.2.2.2.2.1, x.2.2.2.2.2.2.1, ()) fun y1 => (
  kn (y1.1, y1.2.1, (IntKind.i64.wrap (y1.2.2.1 + (1:Int))), y1.2.2.2.1, y1.2.2.2.2.1, y1.2.2.2.2.2.1, y1.2.2.2.2.2.2.1, ()))
 else
  ke (x.2.2.2.2.2.1, x.2.2.2.2.2.2.1, ())
noncomputable def b25 : Go' W5 := fun y K => K (.exit 0) (fSt { tmps := pv 4 (.sc (.ptr 0 0 false) :: V :: .sc (.ptr 1 0 false) :: pv 49 []), mem := [.live [.xs b32 (some 256)] (.own), .live [.xs b32 (some 256)] (.own)] } [.xs, .xs] y)
noncomputable def a6j (N : Nat) : LT := upd (a6k N) 5 (o6 b4n N (D8 N) b25)
theorem b26 (N : Nat) : OkAll p_dring_Unpack_E a5g N (a6j N) (w9 Y2) :=
 d6 (c := d7 5 Y2) (b28 N) (by kernel_rfl) (fun x => by kernel_rfl) (fun β x kn ke => by kernel_rfl)
abbrev S3 : List Kd := [.int .i64, .sl b8]
abbrev S4 : List Kd := [.xs b32 256, .int .i64]
noncomputable def a4r (N : Nat) (x : Int × List Int × Unit) : Option (List Int × Int) :=
 if (x.1 < (1:Int)) then
  some ((List.replicate 256 0), (1:Int))
 else
  if (x.1 > (23:Int)) then
   some ((List.replicate 256 0), (1:Int))
  else
   if ((((List.length x.2.1) : Nat) : Int) ≠ (IntKind.i64.wrap ((32:Int) * x.1))) then
    some ((List.replicate 256 0), (1:Int))
   else
    m7 (D8 N) N (x.1, (List.length x.2.1), (0:Int), (List.length x.2.1), x.2.1, (List.replicate 256 0), (List.replicate 256 0), ()) fun y2 => (
    some (y2.2.1, (0:Int)))
theorem b58 : p_dring_Unpack_E.Ok Try.prog := AE.of_ok (all_cons Z1 (all_cons u4 (all_cons F8 (all_cons q8 c6)))) c6
theorem b7U (hE : p_dring_Unpack_E.Ok Try.prog) {g : Ds S3 → Option (Rs S4)} (hg : ∀ x r, g x = some r → ∃ N, a4r N x = some r) : c8 Try.prog 35 ⟨S3, S4, g⟩ :=
 i5 (E := p_dring_Unpack_E) (H := a5g) (L := fun N => a6j N) (c := Y2) (ks := S3) (rs := S4) (F := a4r) hE mix Try.func35 (by kernel_rfl) (fun N => b26 N) (fun _ _ => by kernel_rfl) hg
noncomputable def p_dring_UnpackFrom_1_E : AE := AE.of [(21, ty21)] []
noncomputable def b0L : Hints := [(3000000, [3])]
noncomputable def b0M : Code := (Try.f58).body.getD .skip
abbrev A7 : List Kd := [.int .i32, .rp (.int .i32)]
abbrev V3 : List Kd := [.int .i32]
noncomputable def R0 (N : Nat) (x : Int × Int × Unit) : Option (Int) :=
 some (IntKind.i32.wrap ((List.getD [x.2.1] 0 0) - x.1))
theorem a8I : p_dring_UnpackFrom_1_E.Ok Try.prog := AE.of_ok (all_cons u4 c6) c6
theorem a9K (hE : p_dring_UnpackFrom_1_E.Ok Try.prog) {g : Ds A7 → Option (Rs [.int .i32])} (hg : ∀ x r, g x = some r → ∃ N, R0 N x = some r) : c8 Try.prog 58 ⟨A7, [.int .i32], g⟩ :=
 i5 (E := p_dring_UnpackFrom_1_E) (H := b0L) (L := fun N => LT.nil) (c := b0M) (ks := A7) (rs := V3) (F := R0) hE mix Try.func58 (by kernel_rfl) (fun N => OkAll.nil) (fun _ _ => by kernel_rfl) hg
noncomputable abbrev a1p : Sig := ⟨[.int .i32, .rp (.int .i32)], [.int .i32], Q9⟩
noncomputable def p_dring_each__dring_UnpackFrom_1_E : AE := AE.of [(21, ty21), (40, ty40)] [(58, a1p)]
noncomputable def M5 : Hints := [(2, [1, 2, 4, 7, 8]), (2000000, [2, 4]), (2000001, [1, 2, 4, 7, 8]), (3000000, [4])]
noncomputable def A0 : Code := (Try.f57).body.getD .skip
noncomputable def a1t : Shape := mkS { tmps := V :: .sc (.clo 58 0 0) :: .sc (.ptr 1 0 false) :: V :: .sc (.ptr 2 0 false) :: V :: V :: .agg [.xs b32 (some 256)] :: .sc (.int .i64) :: pv 10 [], mem := [.live [.xs b32 (some 1)] (.ro), .live [.xs b32 (some 256)] (.own), .live [.xs b32 (some 256)] (.own)] } [.xs, .int, .xs, .xs, .xs]
noncomputable def i6 (N : Nat) (β : Type) (x : W6) (kn : W6 → Option β) (ke : W5 → Option β) : Option β :=
 if (x.2.1 < (256:Int)) then
  if 0 ≤ x.2.1 then (
  if x.2.1 < 256 then (
  if (x.2.1.toNat) < 256 then (
  (Q9 ((List.getD x.1 (x.2.1.toNat) 0), (List.getD x.2.2.1 0 0), ())).bind fun r1 => (
  if 0 ≤ x.2.1 then (
  if x.2.1 < 256 then (
  if (x.2.1.toNat) < 256 then (
  kn (x.1, (IntKind.i64.wrap (x.2.1 + (1:Int))), x.2.2.1, (List.set x.2.2.2.1 (x.2.1.toNat) r1), x.2.2.2.2.1, ())) else none) else none) else none)) else none) else none) else none
 else
  ke (x.2.2.2.1, x.2.2.2.2.1, ())
noncomputable def a1b : Go' W5 := fun y K => K (.exit 0) (fSt { tmps := V :: V :: .sc (.ptr 0 0 false) :: V :: .sc (.ptr 1 0 false) :: pv 14 [], mem := [.live [.xs b32 (some 256)] (.own), .live [.xs b32 (some 256)] (.own)] } [.xs, .xs] y)
noncomputable def H8 (N : Nat) : LT := upd (LT.nil) 2 (o6 a1t N (i6 N) a1b)
theorem a1c (N : Nat) : OkAll p_dring_each__dring_UnpackFrom_1_E M5 N (H8 N) (w9 A0) :=
 d6 (c := d7 2 A0) (OkAll.nil) (by kernel_rfl) (fun x => by kernel_rfl) (fun β x kn ke => by kernel_rfl)
abbrev j5 : List Kd := [.xs b32 256, .fcl 58 .i32]
abbrev j6 : List Kd := [.xs b32 256]
noncomputable def s7 (N : Nat) (x : List Int × Int × Unit) : Option (List Int) :=
 m7 (i6 N) N (x.1, (0:Int), [x.2.1], x.1, (List.replicate 256 0), ()) fun y2 => (
 some y2.1)
theorem a1L (e0 : c8 Try.prog 58 a1p) : p_dring_each__dring_UnpackFrom_1_E.Ok Try.prog := AE.of_ok (all_cons u4 (all_cons q8 c6)) (all_cons ⟨e0, a7F⟩ c6)
theorem a2z (hE : p_dring_each__dring_UnpackFrom_1_E.Ok Try.prog) {g : Ds j5 → Option (Rs j6)} (hg : ∀ x r, g x = some r → ∃ N, s7 N x = some r) : c8 Try.prog 57 ⟨j5, j6, g⟩ :=
 i5 (E := p_dring_each__dring_UnpackFrom_1_E) (H := M5) (L := fun N => H8 N) (c := A0) (ks := j5) (rs := j6) (F := s7) hE mix Try.func57 (by kernel_rfl) (fun N => a1c N) (fun _ _ => by kernel_rfl) hg
noncomputable abbrev a1w : Sig := ⟨[.int .i64, .sl b8], [.xs b32 256, .int .i64], Z8⟩
noncomputable abbrev B4 : Sig := ⟨[.xs b32 256, .fcl 58 .i32], [.xs b32 256], s6⟩
noncomputable def p_dring_UnpackFrom_E : AE := AE.of [(21, ty21), (40, ty40)] [(35, a1w), (57, B4)]
noncomputable def b2Y : Hints := [(3000000, [6, 7])]
noncomputable def b2Z : Code := (Try.f29).body.getD .skip
abbrev E9 : List Kd := [.int .i32, .int .i64, .sl b8]
abbrev F0 : List Kd := [.xs b32 256, .int .i64]
noncomputable def a0g (N : Nat) (x : Int × Int × List Int × Unit) : Option (List Int × Int) :=
 (Z8 (x.2.1, x.2.2.1, ())).bind fun r1 => (
 if (r1.2 ≠ (0:Int)) then
  some ((List.replicate 256 0), (1:Int))
 else
  if (x.1 < (0:Int)) then
   some ((List.replicate 256 0), (1:Int))
  else
   if (x.1 ≥ (8380417:Int)) then
    some ((List.replicate 256 0), (1:Int))
   else
    (s6 (r1.1, (List.getD (x.1 :: []) 0 0), ())).bind fun r2 => (
    some (r2, (0:Int))))
theorem b0N (e0 : c8 Try.prog 35 a1w) (e1 : c8 Try.prog 57 B4) : p_dring_UnpackFrom_E.Ok Try.prog := AE.of_ok (all_cons u4 (all_cons q8 c6)) (all_cons ⟨e0, a59⟩ (all_cons ⟨e1, a02⟩ c6))
theorem b1F (hE : p_dring_UnpackFrom_E.Ok Try.prog) {g : Ds E9 → Option (Rs F0)} (hg : ∀ x r, g x = some r → ∃ N, a0g N x = some r) : c8 Try.prog 29 ⟨E9, F0, g⟩ :=
 i5 (E := p_dring_UnpackFrom_E) (H := b2Y) (L := fun N => LT.nil) (c := b2Z) (ks := E9) (rs := F0) (F := a0g) hE mix Try.func29 (by kernel_rfl) (fun N => OkAll.nil) (fun _ _ => by kernel_rfl) hg
noncomputable abbrev o4 : Sig := ⟨[.int .i32, .int .i64, .sl b8], [.xs b32 256, .int .i64], j4⟩
noncomputable def p_dring_Mask_E : AE := AE.of [(21, ty21), (23, ty23), (35, ty35), (40, ty40)] [(42, E1), (29, o4)]
noncomputable def c2t : Hints := [(3000000, [4, 5])]
noncomputable def c2u : Code := (Try.f52).body.getD .skip
abbrev a0B : List Kd := [.int .i64, .sl b8]
abbrev a0C : List Kd := [.xs b32 256, .int .i64]
noncomputable def a69 (N : Nat) (x : Int × List Int × Unit) : Option (List Int × Int) :=
 if (x.1 ≠ (18:Int)) then
  if (x.1 ≠ (20:Int)) then
   some ((List.replicate 256 0), (1:Int))
  else
   if ((((List.length x.2.1) : Nat) : Int) ≠ (66:Int)) then
    some ((List.replicate 256 0), (1:Int))
   else
    (v3 ((256:Int), (IntKind.i64.wrap ((32:Int) * x.1)), [x.2.1], ())).bind fun r1 => (
    if (r1.2 ≠ (0:Int)) then
     some ((List.replicate 256 0), r1.2)
    else
     if (IntKind.i64.wrap (x.1 - (1:Int))) < 0 then none else (
     (j4 ((b0A IntKind.i32 (1:Int) (IntKind.i64.wrap (x.1 - (1:Int)))), x.1, r1.1, ())).bind fun r2 => (
     some (r2.1, r2.2))))
 else
  if ((((List.length x.2.1) : Nat) : Int) ≠ (66:Int)) then
   some ((List.replicate 256 0), (1:Int))
  else
   (v3 ((256:Int), (IntKind.i64.wrap ((32:Int) * x.1)), [x.2.1], ())).bind fun r3 => (
   if (r3.2 ≠ (0:Int)) then
    some ((List.replicate 256 0), r3.2)
   else
    if (IntKind.i64.wrap (x.1 - (1:Int))) < 0 then none else (
    (j4 ((b0A IntKind.i32 (1:Int) (IntKind.i64.wrap (x.1 - (1:Int)))), x.1, r3.1, ())).bind fun r4 => (
    some (r4.1, r4.2))))
theorem b9n (e0 : c8 Try.prog 42 E1) (e1 : c8 Try.prog 29 o4) : p_dring_Mask_E.Ok Try.prog := AE.of_ok (all_cons u4 (all_cons F8 (all_cons a2C (all_cons q8 c6)))) (all_cons ⟨e0, U5⟩ (all_cons ⟨e1, I9⟩ c6))
theorem c1m (hE : p_dring_Mask_E.Ok Try.prog) {g : Ds a0B → Option (Rs a0C)} (hg : ∀ x r, g x = some r → ∃ N, a69 N x = some r) : c8 Try.prog 52 ⟨a0B, a0C, g⟩ :=
 i5 (E := p_dring_Mask_E) (H := c2t) (L := fun N => LT.nil) (c := c2u) (ks := a0B) (rs := a0C) (F := a69) hE mix Try.func52 (by kernel_rfl) (fun N => OkAll.nil) (fun _ _ => by kernel_rfl) hg
noncomputable def p_dring_Ball_E : AE := AE.of [(3, ty3), (5, ty5), (21, ty21), (23, ty23), (35, ty35), (40, ty40)] [(42, E1)]
noncomputable def a7H : Hints := [(10, [0, 4, 6, 7, 9, 10, 11]), (12, [0, 4, 6, 7, 9, 10, 11]), (2000000, [4]), (2000001, [0, 4, 6, 7, 9, 10, 11]), (2000002, [0, 4, 6, 7, 9, 10, 11]), (2000003, [0, 4, 6, 7, 9, 10, 11]), (3000000, [4, 5])]
noncomputable def a1E : Code := (Try.f33).body.getD .skip
noncomputable def b5S : Shape := mkS { tmps := .sc (.int .i64) :: pv 3 (.sc (.ptr 0 0 false) :: V :: .sc (.ptr 1 0 false) :: .sc (.sl 2 (some 8) none none 1) :: V :: .sc (.sl 2 (some 0) (some 8) none 1) :: .sc (.int .i64) :: .sc (.int .i64) :: pv 80 []), mem := [.live [.xs b32 (some 256)] (.own), .live [.xs b32 (some 256)] (.own), .live [.xs b8 none] (.own)] } [.int, .nat, .nat, .nat, .int, .int, .xs, .xs, .nat, .xs]
abbrev W27 : Type := Int × Nat × Nat × Nat × Int × Int × List Int × List Int × Nat × List Int × Unit
noncomputable def O2 (N : Nat) (β : Type) (x : W27) (kn : W27 → Option β) (ke : W27 → Option β) : Option β :=
 if (x.2.2.2.2.1 < ((x.2.1 : Nat) : Int)) then
  if 0 ≤ x.2.2.2.2.1 then (
  if x.2.2.2.2.1 < ((x.2.1 : Nat) : Int) then (
  if (8 + (x.2.2.2.2.1.toNat)) < x.2.2.2.2.2.2.2.2.1 then (
  if ((IntKind.i64.wrap (List.getD x.2.2.2.2.2.2.2.2.2.1 (8 + (x.2.2.2.2.1.toNat)) 0)) > x.2.2.2.2.2.1) then
   kn (x.1, x.2.1, x.2.2.1, x.2.2.2.1, (IntKind.i64.wrap (x.2.2.2.2.1 + (1:Int))), x.2.2.2.2.2.1, x.2.2.2.2.2.2.1, x.2.2.2.2.2.2.2.1, x.2.2.2.2.2.2.2.2.1, x.2.2.2.2.2.2.2.2.2.1, ())
  else
   ke (x.1, x.2.1, x.2.2.1, x.2.2.2.1, x.2.2.2.2.1, x.2.2.2.2.2.1, x.2.2.2.2.2.2.1, x.2.2.2.2.2.2.2.1, x.2.2.2.2.2.2.2.2.1, x.2.2.2.2.2.2.2.2.2.1, ())) else none) else none) else none
 else
  ke (x.1, x.2.1, x.2.2.1, x.2.2.2.1, x.2.2.2.2.1, x.2.2.2.2.2.1, x.2.2.2.2.2.2.1, x.2.2.2.2.2.2.2.1, x.2.2.2.2.2.2.2.2.1, x.2.2.2.2.2.2.2.2.2.1, ())
noncomputable def b4g : Go' W27 := fun y K => K (.exit 2) (fSt { tmps := .sc (.int .i64) :: pv 3 (.sc (.ptr 0 0 false) :: V :: .sc (.ptr 1 0 false) :: .sc (.sl 2 (some 8) none none 1) :: V :: .sc (.sl 2 (some 0) (some 8) none 1) :: .sc (.int .i64) :: .sc (.int .i64) :: pv 80 []), mem := [.live [.xs b32 (some 256)] (.own), .live [.xs b32 (some 256)] (.own), .live [.xs b8 none] (.own)] } [.int, .nat, .nat, .nat, .int, .int, .xs, .xs, .nat, .xs] y)
noncomputable def a67 (N : Nat) : LT := upd (LT.nil) 12 (o6 b5S N (O2 N) b4g)
theorem b4h (N : Nat) : OkAll p_dring_Ball_E a7H N (a67 N) (w9 a1E) :=
 d6 (c := d7 12 a1E) (OkAll.nil) (by kernel_rfl) (fun x => by kernel_rfl) (fun β x kn ke => by kernel_rfl)
noncomputable def b5R : Shape := mkS { tmps := .sc (.int .i64) :: pv 3 (.sc (.ptr 0 0 false) :: V :: .sc (.ptr 1 0 false) :: .sc (.sl 2 (some 8) none none 1) :: V :: .sc (.sl 2 (some 0) (some 8) none 1) :: .sc (.int .i64) :: .sc (.int .i64) :: pv 80 []), mem := [.live [.xs b32 (some 256)] (.own), .live [.xs b32 (some 256)] (.own), .live [.xs b8 none] (.own)] } [.int, .nat, .nat, .nat, .int, .int, .xs, .xs, .nat, .xs]
noncomputable def G1 (N : Nat) (β : Type) (x : W27) (kn : W27 → Option β) (ke : W20 → Option β) : Option β :=
 if (x.2.2.2.2.2.1 < (256:Int)) then
  m7 (O2 N) N (x.1, x.2.1, x.2.2.1, x.2.2.2.1, x.2.2.2.2.1, x.2.2.2.2.2.1, x.2.2.2.2.2.2.1, x.2.2.2.2.2.2.2.1, x.2.2.2.2.2.2.2.2.1, x.2.2.2.2.2.2.2.2.2.1, ()) fun y2 => (
  if (y2.2.2.2.2.1 = ((y2.2.1 : Nat) : Int)) then
   ke (.inl (y2.2.2.2.2.2.2.1, ()))
  else
   if 0 ≤ y2.2.2.2.2.1 then (
   if y2.2.2.2.2.1 < ((y2.2.1 : Nat) : Int) then (
   if (8 + (y2.2.2.2.2.1.toNat)) < y2.2.2.2.2.2.2.2.2.1 then (
   if 0 ≤ (List.getD y2.2.2.2.2.2.2.2.2.2.1 (8 + (y2.2.2.2.2.1.toNat)) 0) then (
   if (List.getD y2.2.2.2.2.2.2.2.2.2.1 (8 + (y2.2.2.2.2.1.toNat)) 0) < 256 then (
   if ((List.getD y2.2.2.2.2.2.2.2.2.2.1 (8 + (y2.2.2.2.2.1.toNat)) 0).toNat) < 256 then (
   if 0 ≤ y2.2.2.2.2.2.1 then (
   if y2.2.2.2.2.2.1 < 256 then (
   if (y2.2.2.2.2.2.1.toNat) < 256 then (
   if 0 ≤ (List.getD y2.2.2.2.2.2.2.2.2.2.1 (8 + (y2.2.2.2.2.1.toNat)) 0) then (
   if (List.getD y2.2.2.2.2.2.2.2.2.2.1 (8 + (y2.2.2.2.2.1.toNat)) 0) < 256 then (
   if ((List.getD y2.2.2.2.2.2.2.2.2.2.1 (8 + (y2.2.2.2.2.1.toNat)) 0).toNat) < 256 then (
   if 0 ≤ (IntKind.i64.wrap (Int.tdiv (IntKind.i64.wrap ((IntKind.i64.wrap (y2.2.2.2.2.2.1 + y2.1)) - (256:Int))) (8:Int))) then (
   if (IntKind.i64.wrap (Int.tdiv (IntKind.i64.wrap ((IntKind.i64.wrap (y2.2.2.2.2.2.1 + y2.1)) - (256:Int))) (8:Int))) < (8:Int) then (
   if ((IntKind.i64.wrap (Int.tdiv (IntKind.i64.wrap ((IntKind.i64.wrap (y2.2.2.2.2.2.1 + y2.1)) - (256:Int))) (8:Int))).toNat) < y2.2.2.2.2.2.2.2.2.1 then (
   if (Int.tmod (IntKind.i64.wrap ((IntKind.i64.wrap (y2.2.2.2.2.2.1 + y2.1)) - (256:Int))) (8:Int)) < 0 then none else (
   if ((b8H IntKind.u8 (b9c IntKind.u8 (List.getD y2.2.2.2.2.2.2.2.2.2.1 ((IntKind.i64.wrap (Int.tdiv (IntKind.i64.wrap ((IntKind.i64.wrap (y2.2.2.2.2.2.1 + y2.1)) - (256:Int))) (8:Int))).toNat) 0) (Int.tmod (IntKind.i64.wrap ((IntKind.i64.wrap (y2.2.2.2.2.2.1 + y2.1)) - (256:Int))) (8:Int))) (1:Int)) = (1:Int)) then
    if 0 ≤ (List.getD y2.2.2.2.2.2.2.2.2.2.1 (8 + (y2.2.2.2.2.1.toNat)) 0) then (
    if (List.getD y2.2.2.2.2.2.2.2.2.2.1 (8 + (y2.2.2.2.2.1.toNat)) 0) < 256 then (
    if ((List.getD y2.2.2.2.2.2.2.2.2.2.1 (8 + (y2.2.2.2.2.1.toNat)) 0).toNat) < 256 then (
    if (y2.2.2.2.2.2.1 = (255:Int)) then
     ke (.inr ((0:Int), (List.set (List.set (List.set y2.2.2.2.2.2.2.2.1 (y2.2.2.2.2.2.1.toNat) (List.getD y2.2.2.2.2.2.2.2.1 ((List.getD y2.2.2.2.2.2.2.2.2.2.1 (8 + (y2.2.2.2.2.1.toNat)) 0).toNat) 0)) ((List.getD y2.2.2.2.2.2.2.2.2.2.1 (8 + (y2.2.2.2.2.1.toNat)) 0).toNat) (1:Int)) ((List.getD y2.2.2.2.2.2.2.2.2.2.1 (8 + (y2.2.2.2.2.1.toNat)) 0).toNat) (8380416:Int)), ()))
    else
     kn (y2.1, y2.2.1, y2.2.2.1, y2.2.2.2.1, (IntKind.i64.wrap (y2.2.2.2.2.1 + (1:Int))), (IntKind.i64.wrap (y2.2.2.2.2.2.1 + (1:Int))), y2.2.2.2.2.2.2.1, (List.set (List.set (List.set y2.2.2.2.2.2.2.2.1 (y2.2.2.2.2.2.1.toNat) (List.getD y2.2.2.2.2.2.2.2.1 ((List.getD y2.2.2.2.2.2.2.2.2.2.1 (8 + (y2.2.2.2.2.1.toNat)) 0).toNat) 0)) ((List.getD y2.2.2.2.2.2.2.2.2.2.1 (8 + (y2.2.2.2.2.1.toNat)) 0).toNat) (1:Int)) ((List.getD y2.2.2.2.2.2.2.2.2.2.1 (8 + (y2.2.2.2.2.1.toNat)) 0).toNat) (8380416:Int)), y2.2.2.2.2.2.2.2.2.1, y2.2.2.2.2.2.2.2.2.2.1, ())) else none) else none) else none
   else
    if (y2.2.2.2.2.2.1 = (255:Int)) then
     ke (.inr ((0:Int), (List.set (List.set y2.2.2.2.2.2.2.2.1 (y2.2.2.2.2.2.1.toNat) (List.getD y2.2.2.2.2.2.2.2.1 ((List.getD y2.2.2.2.2.2.2.2.2.2.1 (8 + (y2.2.2.2.2.1.toNat)) 0).toNat) 0)) ((List.getD y2.2.2.2.2.2.2.2.2.2.1 (8 + (y2.2.2.2.2.1.toNat)) 0).toNat) (1:Int)), ()))
    else
     kn (y2.1, y2.2.1, y2.2.2.1, y2.2.2.2.1, (IntKind.i64.wrap (y2.2.2.2.2.1 + (1:Int))), (IntKind.i64.wrap (y2.2.2.2.2.2.1 + (1:Int))), y2.2.2.2.2.2.2.1, (List.set (List.set y2.2.2.2.2.2.2.2.1 (y2.2.2.2.2.2.1.toNat) (List.getD y2.2.2.2.2.2.2.2.1 ((List.getD y2.2.2.2.2.2.2.2.2.2.1 (8 + (y2.2.2.2.2.1.toNat)) 0).toNat) 0)) ((List.getD y2.2.2.2.2.2.2.2.2.2.1 (8 + (y2.2.2.2.2.1.toNat)) 0).toNat) (1:Int)), y2.2.2.2.2.2.2.2.2.1, y2.2.2.2.2.2.2.2.2.2.1, ()))) else none) else none) else none) else none) else none) else none) else none) else none) else none) else none) else none) else none) else none) else none) else none)
 else
  ke (.inl (x.2.2.2.2.2.2.1, ()))
noncomputable def b4e : Go' W20 := fun y K => match y with
 | .inl y => K (.exit 0) (fSt { tmps := pv 4 (.sc (.ptr 0 0 false) :: pv 87 []), mem := [.live [.xs b32 (some 256)] (.own)] } [.xs] y)
 | .inr y => K .ret (fSt { tmps := pv 4 (.sc (.ptr 0 0 false) :: .sc (.int .i64) :: pv 86 []), mem := [.live [.xs b32 (some 256)] (.own)] } [.int, .xs] y)
noncomputable def a66 (N : Nat) : LT := upd (a67 N) 10 (o6 b5R N (G1 N) b4e)
theorem b4f (N : Nat) : OkAll p_dring_Ball_E a7H N (a66 N) (w9 a1E) :=
 d6 (c := d7 10 a1E) (b4h N) (by kernel_rfl) (fun x => by kernel_rfl) (fun β x kn ke => by kernel_rfl)
abbrev a0z : List Kd := [.int .i64, .sl b8]
abbrev a0A : List Kd := [.xs b32 256, .int .i64]
noncomputable def a65 (N : Nat) (x : Int × List Int × Unit) : Option (List Int × Int) :=
 if (x.1 < (1:Int)) then
  some ((List.replicate 256 0), (1:Int))
 else
  if (x.1 > (64:Int)) then
   some ((List.replicate 256 0), (1:Int))
  else
   (v3 ((256:Int), (1032:Int), [x.2.1], ())).bind fun r1 => (
   if (r1.2 ≠ (0:Int)) then
    some ((List.replicate 256 0), (130:Int))
   else
    if 8 ≤ (List.length r1.1) then (
    if 8 ≤ (List.length r1.1) then (
    m7 (G1 N) N (x.1, ((List.length r1.1) - 8), ((List.length r1.1) - 8), (List.length r1.1), (0:Int), (IntKind.i64.wrap ((256:Int) - x.1)), (List.replicate 256 0), (List.replicate 256 0), (List.length r1.1), r1.1, ()) fun y => (match y with
    | .inl y3 => (
     some ((List.replicate 256 0), (130:Int)))
    | .inr y4 => (
     some (y4.2.1, y4.1)))) else none) else none)
theorem b9h (e0 : c8 Try.prog 42 E1) : p_dring_Ball_E.Ok Try.prog := AE.of_ok (all_cons a5x (all_cons Z1 (all_cons u4 (all_cons F8 (all_cons a2C (all_cons q8 c6)))))) (all_cons ⟨e0, U5⟩ c6)
theorem c1i (hE : p_dring_Ball_E.Ok Try.prog) {g : Ds a0z → Option (Rs a0A)} (hg : ∀ x r, g x = some r → ∃ N, a65 N x = some r) : c8 Try.prog 33 ⟨a0z, a0A, g⟩ :=
 i5 (E := p_dring_Ball_E) (H := a7H) (L := fun N => a66 N) (c := a1E) (ks := a0z) (rs := a0A) (F := a65) hE mix Try.func33 (by kernel_rfl) (fun N => b4f N) (fun _ _ => by kernel_rfl) hg
noncomputable def p_dring_PackHints_E : AE := AE.of [(3, ty3), (4, ty4), (5, ty5), (23, ty23), (69, ty69), (76, ty76)] []
noncomputable def a2w : Hints := [(6, [0, 1, 6, 7, 27, 28]), (9, [0, 1, 6, 7, 8, 27, 28, 31]), (2000000, [6]), (2000001, [0, 1, 6, 7, 27, 28]), (2000002, [0, 1, 6, 7, 8, 27, 28]), (2000003, [0, 1, 6, 7, 8, 27, 28, 31]), (3000000, [4, 5])]
noncomputable def K7 : Code := (Try.f56).body.getD .skip
noncomputable def b0I : Shape := mkS { tmps := .sc (.vec 0 none 256) :: .sc (.int .i64) :: pv 4 (.sc (.vec 1 none 1) :: .sc (.int .i64) :: .sc (.int .i64) :: pv 18 (.sc (.int .i64) :: .sc (.int .i64) :: V :: V :: .sc (.int .i64) :: pv 29 [])), mem := [.live [.xs .bool none] (.ro), .live [.xs b8 none] (.own)] } [.nat, .int, .nat, .int, .int, .int, .int, .int, .nat, .xs, .nat, .xs]
abbrev W28 : Type := Nat × Int × Nat × Int × Int × Int × Int × Int × Nat × List Int × Nat × List Int × Unit
abbrev W29 : Type := (Int × Unit) ⊕ (Nat × Int × Nat × Int × Int × Int × Int × Nat × List Int × Nat × List Int × Unit)
noncomputable def C3 (N : Nat) (β : Type) (x : W28) (kn : W28 → Option β) (ke : W29 → Option β) : Option β :=
 if (x.2.2.2.2.2.2.2.1 < (256:Int)) then
  if 0 ≤ x.2.2.2.2.1 then (
  if x.2.2.2.2.1 < ((x.1 : Nat) : Int) then (
  if 0 ≤ x.2.2.2.2.2.2.2.1 then (
  if x.2.2.2.2.2.2.2.1 < 256 then (
  if (((x.2.2.2.2.1.toNat) * 256) + (x.2.2.2.2.2.2.2.1.toNat)) < x.2.2.2.2.2.2.2.2.1 then (
  if (¬ ((List.getD x.2.2.2.2.2.2.2.2.2.1 (((x.2.2.2.2.1.toNat) * 256) + (x.2.2.2.2.2.2.2.1.toNat)) 0) ≠ 0)) then
   kn (x.1, x.2.1, x.2.2.1, x.2.2.2.1, x.2.2.2.2.1, x.2.2.2.2.2.1, x.2.2.2.2.2.2.1, (IntKind.i64.wrap (x.2.2.2.2.2.2.2.1 + (1:Int))), x.2.2.2.2.2.2.2.2.1, x.2.2.2.2.2.2.2.2.2.1, x.2.2.2.2.2.2.2.2.2.2.1, x.2.2.2.2.2.2.2.2.2.2.2.1, ())
  else
   if (x.2.2.2.1 = x.2.1) then
    ke (.inl ((3:Int), ()))
   else
    if 0 ≤ x.2.2.2.1 then (
    if x.2.2.2.1 < ((x.2.2.1 : Nat) : Int) then (
    if (x.2.2.2.1.toNat) < x.2.2.2.2.2.2.2.2.2.2.1 then (
    kn (x.1, x.2.1, x.2.2.1, (IntKind.i64.wrap (x.2.2.2.1 + (1:Int))), x.2.2.2.2.1, x.2.2.2.2.2.1, x.2.2.2.2.2.2.1, (IntKind.i64.wrap (x.2.2.2.2.2.2.2.1 + (1:Int))), x.2.2.2.2.2.2.2.2.1, x.2.2.2.2.2.2.2.2.2.1, x.2.2.2.2.2.2.2.2.2.2.1, (List.set x.2.2.2.2.2.2.2.2.2.2.2.1 (x.2.2.2.1.toNat) (IntKind.u8.wrap x.2.2.2.2.2.2.2.1)), ())) else none) else none) else none) else none) else none) else none) else none) else none
 else
  ke (.inr (x.1, x.2.1, x.2.2.1, x.2.2.2.1, x.2.2.2.2.1, x.2.2.2.2.2.1, x.2.2.2.2.2.2.1, x.2.2.2.2.2.2.2.2.1, x.2.2.2.2.2.2.2.2.2.1, x.2.2.2.2.2.2.2.2.2.2.1, x.2.2.2.2.2.2.2.2.2.2.2.1, ()))
noncomputable def a9E : Go' W29 := fun y K => match y with
 | .inl y => K .ret (fSt { tmps := pv 4 (.sc (.nilsl) :: .sc (.int .i64) :: pv 55 []), mem := [] } [.int] y)
 | .inr y => K (.exit 2) (fSt { tmps := .sc (.vec 0 none 256) :: .sc (.int .i64) :: pv 4 (.sc (.vec 1 none 1) :: .sc (.int .i64) :: .sc (.int .i64) :: pv 18 (.sc (.int .i64) :: .sc (.int .i64) :: pv 32 [])), mem := [.live [.xs .bool none] (.ro), .live [.xs b8 none] (.own)] } [.nat, .int, .nat, .int, .int, .int, .int, .nat, .xs, .nat, .xs] y)
noncomputable def a3K (N : Nat) : LT := upd (LT.nil) 9 (o6 b0I N (C3 N) a9E)
theorem a9F (N : Nat) : OkAll p_dring_PackHints_E a2w N (a3K N) (w9 K7) :=
 d6 (c := d7 9 K7) (OkAll.nil) (by kernel_rfl) (fun x => by kernel_rfl) (fun β x kn ke => by kernel_rfl)
noncomputable def b0H : Shape := mkS { tmps := .sc (.vec 0 none 256) :: .sc (.int .i64) :: pv 4 (.sc (.vec 1 none 1) :: .sc (.int .i64) :: pv 19 (.sc (.int .i64) :: .sc (.int .i64) :: pv 32 [])), mem := [.live [.xs .bool none] (.ro), .live [.xs b8 none] (.own)] } [.nat, .int, .nat, .int, .int, .int, .nat, .xs, .nat, .xs]
abbrev W30 : Type := Nat × Int × Nat × Int × Int × Int × Nat × List Int × Nat × List Int × Unit
abbrev W31 : Type := (Int × Unit) ⊕ (Nat × Nat × List Int × Unit)
noncomputable def u9 (N : Nat) (β : Type) (x : W30) (kn : W30 → Option β) (ke : W31 → Option β) : Option β :=
 if (x.2.2.2.2.2.1 < x.2.2.2.2.1) then
  m7 (C3 N) N (x.1, x.2.1, x.2.2.1, x.2.2.2.1, x.2.2.2.2.2.1, x.2.2.2.2.1, x.2.2.2.2.2.1, (0:Int), x.2.2.2.2.2.2.1, x.2.2.2.2.2.2.2.1, x.2.2.2.2.2.2.2.2.1, x.2.2.2.2.2.2.2.2.2.1, ()) fun y => (match y with
  | .inl y1 => (
   ke (.inl (y1.1, ())))
  | .inr y2 => (
   if 0 ≤ (IntKind.i64.wrap (y2.2.1 + y2.2.2.2.2.1)) then (
   if (IntKind.i64.wrap (y2.2.1 + y2.2.2.2.2.1)) < ((y2.2.2.1 : Nat) : Int) then (
   if ((IntKind.i64.wrap (y2.2.1 + y2.2.2.2.2.1)).toNat) < y2.2.2.2.2.2.2.2.2.2.1 then (
   kn (y2.1, y2.2.1, y2.2.2.1, y2.2.2.2.1, y2.2.2.2.2.2.1, (IntKind.i64.wrap (y2.2.2.2.2.2.2.1 + (1:Int))), y2.2.2.2.2.2.2.2.1, y2.2.2.2.2.2.2.2.2.1, y2.2.2.2.2.2.2.2.2.2.1, (List.set y2.2.2.2.2.2.2.2.2.2.2.1 ((IntKind.i64.wrap (y2.2.1 + y2.2.2.2.2.1)).toNat) (IntKind.u8.wrap y2.2.2.2.1)), ())) else none) else none) else none))
 else
  ke (.inr (x.2.2.1, x.2.2.2.2.2.2.2.2.1, x.2.2.2.2.2.2.2.2.2.1, ()))
noncomputable def a9C : Go' W31 := fun y K => match y with
 | .inl y => K .ret (fSt { tmps := pv 4 (.sc (.nilsl) :: .sc (.int .i64) :: pv 55 []), mem := [] } [.int] y)
 | .inr y => K (.exit 0) (fSt { tmps := pv 6 (.sc (.vec 0 none 1) :: pv 54 []), mem := [.live [.xs b8 none] (.own)] } [.nat, .nat, .xs] y)
noncomputable def a3J (N : Nat) : LT := upd (a3K N) 6 (o6 b0H N (u9 N) a9C)
theorem a9D (N : Nat) : OkAll p_dring_PackHints_E a2w N (a3J N) (w9 K7) :=
 d6 (c := d7 6 K7) (a9F N) (by kernel_rfl) (fun x => by kernel_rfl) (fun β x kn ke => by kernel_rfl)
abbrev H5 : List Kd := [.sla .bool 256, .int .i64]
abbrev H6 : List Kd := [.sl b8, .int .i64]
noncomputable def a1a (N : Nat) (x : List Int × Int × Unit) : Option (List Int × Int) :=
 if ((((List.length x.1 / 256) : Nat) : Int) > (16:Int)) then
  some ([], (1:Int))
 else
  if (x.2.1 < (0:Int)) then
   some ([], (1:Int))
  else
   if (x.2.1 > (255:Int)) then
    some ([], (1:Int))
   else
    if 0 ≤ (IntKind.i64.wrap (x.2.1 + (((List.length x.1 / 256) : Nat) : Int))) then (
    if (IntKind.i64.wrap (x.2.1 + (((List.length x.1 / 256) : Nat) : Int))) = (IntKind.i64.wrap (x.2.1 + (((List.length x.1 / 256) : Nat) : Int))) then (
    if (IntKind.i64.wrap (x.2.1 + (((List.length x.1 / 256) : Nat) : Int))) * 1 ≤ 281474976710656 then (
    m7 (u9 N) N ((List.length x.1 / 256), x.2.1, ((IntKind.i64.wrap (x.2.1 + (((List.length x.1 / 256) : Nat) : Int))).toNat), (0:Int), (((List.length x.1 / 256) : Nat) : Int), (0:Int), (List.length x.1), x.1, ((IntKind.i64.wrap (x.2.1 + (((List.length x.1 / 256) : Nat) : Int))).toNat), (List.replicate ((IntKind.i64.wrap (x.2.1 + (((List.length x.1 / 256) : Nat) : Int))).toNat) 0), ()) fun y => (match y with
    | .inl y3 => (
     some ([], y3.1))
    | .inr y4 => (
     some (y4.2.2.1, (0:Int))))) else none) else none) else none
theorem b1D : p_dring_PackHints_E.Ok Try.prog := AE.of_ok (all_cons a5x (all_cons c3B (all_cons Z1 (all_cons F8 (all_cons c4S (all_cons b8x c6)))))) c6
theorem b2U (hE : p_dring_PackHints_E.Ok Try.prog) {g : Ds H5 → Option (Rs H6)} (hg : ∀ x r, g x = some r → ∃ N, a1a N x = some r) : c8 Try.prog 56 ⟨H5, H6, g⟩ :=
 i5 (E := p_dring_PackHints_E) (H := a2w) (L := fun N => a3J N) (c := K7) (ks := H5) (rs := H6) (F := a1a) hE mix Try.func56 (by kernel_rfl) (fun N => a9D N) (fun _ _ => by kernel_rfl) hg
noncomputable def p_dring_UnpackHints_E : AE := AE.of [(3, ty3), (4, ty4), (5, ty5), (23, ty23), (69, ty69), (76, ty76)] []
noncomputable def O4 : Hints := [(6, [1, 2, 8, 9, 40, 41]), (12, [1, 2, 8, 9, 10, 11, 12, 40, 41]), (20, [8, 93, 94, 95]), (2000000, [1, 2, 8, 9]), (2000001, [1, 2, 8, 9, 40, 41]), (2000002, [1, 2, 8, 11, 40, 41]), (2000003, [1, 2, 8, 9, 10, 11, 12, 40, 41]), (2000004, [8]), (2000005, [8, 93, 94, 95]), (3000000, [6, 7])]
noncomputable def t6 : Code := (Try.f31).body.getD .skip
noncomputable def a7Q : Shape := mkS { tmps := V :: .sc (.int .i64) :: .sc (.vec 0 none 1) :: pv 5 (.sc (.vec 1 none 256) :: .sc (.int .i64) :: .sc (.int .i64) :: .sc (.int .i64) :: .sc (.int .i64) :: pv 27 (.sc (.int .i64) :: .sc (.int .i64) :: pv 61 [])), mem := [.live [.xs b8 none] (.ro), .live [.xs .bool none] (.own)] } [.int, .nat, .nat, .int, .int, .int, .int, .int, .int, .nat, .xs, .nat, .xs]
abbrev W32 : Type := Int × Nat × Nat × Int × Int × Int × Int × Int × Int × Nat × List Int × Nat × List Int × Unit
abbrev W33 : Type := (Int × Unit) ⊕ (Int × Nat × Nat × Int × Int × Int × Nat × List Int × Nat × List Int × Unit)
noncomputable def v4 (N : Nat) (β : Type) (x : W32) (kn : W32 → Option β) (ke : W33 → Option β) : Option β :=
 if (x.2.2.2.2.2.2.1 < x.2.2.2.2.2.1) then
  if (x.2.2.2.2.2.2.1 > x.2.2.2.1) then
   if 0 ≤ x.2.2.2.2.2.2.1 then (
   if x.2.2.2.2.2.2.1 < ((x.2.1 : Nat) : Int) then (
   if (x.2.2.2.2.2.2.1.toNat) < x.2.2.2.2.2.2.2.2.2.1 then (
   if 0 ≤ (IntKind.i64.wrap (x.2.2.2.2.2.2.1 - (1:Int))) then (
   if (IntKind.i64.wrap (x.2.2.2.2.2.2.1 - (1:Int))) < ((x.2.1 : Nat) : Int) then (
   if ((IntKind.i64.wrap (x.2.2.2.2.2.2.1 - (1:Int))).toNat) < x.2.2.2.2.2.2.2.2.2.1 then (
   if ((List.getD x.2.2.2.2.2.2.2.2.2.2.1 (x.2.2.2.2.2.2.1.toNat) 0) ≤ (List.getD x.2.2.2.2.2.2.2.2.2.2.1 ((IntKind.i64.wrap (x.2.2.2.2.2.2.1 - (1:Int))).toNat) 0)) then
    ke (.inl ((150:Int), ()))
   else
    if 0 ≤ x.2.2.2.2.2.2.1 then (
    if x.2.2.2.2.2.2.1 < ((x.2.1 : Nat) : Int) then (
    if (x.2.2.2.2.2.2.1.toNat) < x.2.2.2.2.2.2.2.2.2.1 then (
    if 0 ≤ x.2.2.2.2.1 then (
    if x.2.2.2.2.1 < ((x.2.2.1 : Nat) : Int) then (
    if 0 ≤ (List.getD x.2.2.2.2.2.2.2.2.2.2.1 (x.2.2.2.2.2.2.1.toNat) 0) then (
    if (List.getD x.2.2.2.2.2.2.2.2.2.2.1 (x.2.2.2.2.2.2.1.toNat) 0) < 256 then (
    if (((x.2.2.2.2.1.toNat) * 256) + ((List.getD x.2.2.2.2.2.2.2.2.2.2.1 (x.2.2.2.2.2.2.1.toNat) 0).toNat)) < x.2.2.2.2.2.2.2.2.2.2.2.1 then (
    kn (x.1, x.2.1, x.2.2.1, x.2.2.2.1, x.2.2.2.2.1, x.2.2.2.2.2.1, (IntKind.i64.wrap (x.2.2.2.2.2.2.1 + (1:Int))), x.2.2.2.2.2.2.2.1, x.2.2.2.2.2.2.2.2.1, x.2.2.2.2.2.2.2.2.2.1, x.2.2.2.2.2.2.2.2.2.2.1, x.2.2.2.2.2.2.2.2.2.2.2.1, (List.set x.2.2.2.2.2.2.2.2.2.2.2.2.1 (((x.2.2.2.2.1.toNat) * 256) + ((List.getD x.2.2.2.2.2.2.2.2.2.2.1 (x.2.2.2.2.2.2.1.toNat) 0).toNat)) (1:Int)), ())) else none) else none) else none) else none) else none) else none) else none) else none) else none) else none) else none) else none) else none) else none
  else
   if 0 ≤ x.2.2.2.2.2.2.1 then (
   if x.2.2.2.2.2.2.1 < ((x.2.1 : Nat) : Int) then (
   if (x.2.2.2.2.2.2.1.toNat) < x.2.2.2.2.2.2.2.2.2.1 then (
   if 0 ≤ x.2.2.2.2.1 then (
   if x.2.2.2.2.1 < ((x.2.2.1 : Nat) : Int) then (
   if 0 ≤ (List.getD x.2.2.2.2.2.2.2.2.2.2.1 (x.2.2.2.2.2.2.1.toNat) 0) then (
   if (List.getD x.2.2.2.2.2.2.2.2.2.2.1 (x.2.2.2.2.2.2.1.toNat) 0) < 256 then (
   if (((x.2.2.2.2.1.toNat) * 256) + ((List.getD x.2.2.2.2.2.2.2.2.2.2.1 (x.2.2.2.2.2.2.1.toNat) 0).toNat)) < x.2.2.2.2.2.2.2.2.2.2.2.1 then (
   kn (x.1, x.2.1, x.2.2.1, x.2.2.2.1, x.2.2.2.2.1, x.2.2.2.2.2.1, (IntKind.i64.wrap (x.2.2.2.2.2.2.1 + (1:Int))), x.2.2.2.2.2.2.2.1, x.2.2.2.2.2.2.2.2.1, x.2.2.2.2.2.2.2.2.2.1, x.2.2.2.2.2.2.2.2.2.2.1, x.2.2.2.2.2.2.2.2.2.2.2.1, (List.set x.2.2.2.2.2.2.2.2.2.2.2.2.1 (((x.2.2.2.2.1.toNat) * 256) + ((List.getD x.2.2.2.2.2.2.2.2.2.2.1 (x.2.2.2.2.2.2.1.toNat) 0).toNat)) (1:Int)), ())) else none) else none) else none) else none) else none) else none) else none) else none
 else
  ke (.inr (x.1, x.2.1, x.2.2.1, x.2.2.2.2.2.1, x.2.2.2.2.2.2.2.1, x.2.2.2.2.2.2.2.2.1, x.2.2.2.2.2.2.2.2.2.1, x.2.2.2.2.2.2.2.2.2.2.1, x.2.2.2.2.2.2.2.2.2.2.2.1, x.2.2.2.2.2.2.2.2.2.2.2.2.1, ()))
noncomputable def a6P : Go' W33 := fun y K => match y with
 | .inl y => K .ret (fSt { tmps := pv 6 (.sc (.nilsl) :: .sc (.int .i64) :: pv 95 []), mem := [] } [.int] y)
 | .inr y => K (.exit 2) (fSt { tmps := V :: .sc (.int .i64) :: .sc (.vec 0 none 1) :: pv 5 (.sc (.vec 1 none 256) :: V :: V :: .sc (.int .i64) :: pv 28 (.sc (.int .i64) :: .sc (.int .i64) :: pv 61 [])), mem := [.live [.xs b8 none] (.ro), .live [.xs .bool none] (.own)] } [.int, .nat, .nat, .int, .int, .int, .nat, .xs, .nat, .xs] y)
noncomputable def a1J (N : Nat) : LT := upd (LT.nil) 12 (o6 a7Q N (v4 N) a6P)
theorem a6Q (N : Nat) : OkAll p_dring_UnpackHints_E O4 N (a1J N) (w9 t6) :=
 d6 (c := d7 12 t6) (OkAll.nil) (by kernel_rfl) (fun x => by kernel_rfl) (fun β x kn ke => by kernel_rfl)
noncomputable def a8J : Shape := mkS { tmps := V :: .sc (.int .i64) :: .sc (.vec 0 none 1) :: pv 5 (.sc (.vec 1 none 256) :: .sc (.int .i64) :: pv 30 (.sc (.int .i64) :: .sc (.int .i64) :: pv 61 [])), mem := [.live [.xs b8 none] (.ro), .live [.xs .bool none] (.own)] } [.int, .nat, .nat, .int, .int, .int, .nat, .xs, .nat, .xs]
abbrev W34 : Type := Int × Nat × Nat × Int × Int × Int × Nat × List Int × Nat × List Int × Unit
abbrev W35 : Type := (Int × Unit) ⊕ (Int × Nat × Nat × Int × Nat × List Int × Nat × List Int × Unit)
noncomputable def s5 (N : Nat) (β : Type) (x : W34) (kn : W34 → Option β) (ke : W35 → Option β) : Option β :=
 if (x.2.2.2.2.2.1 < x.2.2.2.2.1) then
  if 0 ≤ (IntKind.i64.wrap (x.1 + x.2.2.2.2.2.1)) then (
  if (IntKind.i64.wrap (x.1 + x.2.2.2.2.2.1)) < ((x.2.1 : Nat) : Int) then (
  if ((IntKind.i64.wrap (x.1 + x.2.2.2.2.2.1)).toNat) < x.2.2.2.2.2.2.1 then (
  if ((IntKind.i64.wrap (List.getD x.2.2.2.2.2.2.2.1 ((IntKind.i64.wrap (x.1 + x.2.2.2.2.2.1)).toNat) 0)) < x.2.2.2.1) then
   ke (.inl ((150:Int), ()))
  else
   if ((IntKind.i64.wrap (List.getD x.2.2.2.2.2.2.2.1 ((IntKind.i64.wrap (x.1 + x.2.2.2.2.2.1)).toNat) 0)) > x.1) then
    ke (.inl ((150:Int), ()))
   else
    m7 (v4 N) N (x.1, x.2.1, x.2.2.1, x.2.2.2.1, x.2.2.2.2.2.1, (IntKind.i64.wrap (List.getD x.2.2.2.2.2.2.2.1 ((IntKind.i64.wrap (x.1 + x.2.2.2.2.2.1)).toNat) 0)), x.2.2.2.1, x.2.2.2.2.1, x.2.2.2.2.2.1, x.2.2.2.2.2.2.1, x.2.2.2.2.2.2.2.1, x.2.2.2.2.2.2.2.2.1, x.2.2.2.2.2.2.2.2.2.1, ()) fun y => (match y with
    | .inl y1 => (
     ke (.inl (y1.1, ())))
    | .inr y2 => (
     kn (y2.1, y2.2.1, y2.2.2.1, y2.2.2.2.1, y2.2.2.2.2.1, (IntKind.i64.wrap (y2.2.2.2.2.2.1 + (1:Int))), y2.2.2.2.2.2.2.1, y2.2.2.2.2.2.2.2.1, y2.2.2.2.2.2.2.2.2.1, y2.2.2.2.2.2.2.2.2.2.1, ())))) else none) else none) else none
 else
  ke (.inr (x.1, x.2.1, x.2.2.1, x.2.2.2.1, x.2.2.2.2.2.2.1, x.2.2.2.2.2.2.2.1, x.2.2.2.2.2.2.2.2.1, x.2.2.2.2.2.2.2.2.2.1, ()))
noncomputable def a7S : Go' W35 := fun y K => match y with
 | .inl y => K .ret (fSt { tmps := pv 6 (.sc (.nilsl) :: .sc (.int .i64) :: pv 95 []), mem := [] } [.int] y)
 | .inr y => K (.exit 0) (fSt { tmps := V :: .sc (.int .i64) :: .sc (.vec 0 none 1) :: pv 5 (.sc (.vec 1 none 256) :: .sc (.int .i64) :: pv 93 []), mem := [.live [.xs b8 none] (.ro), .live [.xs .bool none] (.own)] } [.int, .nat, .nat, .int, .nat, .xs, .nat, .xs] y)
noncomputable def a2L (N : Nat) : LT := upd (a1J N) 6 (o6 a8J N (s5 N) a7S)
theorem a7T (N : Nat) : OkAll p_dring_UnpackHints_E O4 N (a2L N) (w9 t6) :=
 d6 (c := d7 6 t6) (a6Q N) (by kernel_rfl) (fun x => by kernel_rfl) (fun β x kn ke => by kernel_rfl)
noncomputable def a7R : Shape := mkS { tmps := pv 8 (.sc (.vec 0 none 256) :: pv 84 (.sc (.sl 1 none none none 1) :: .sc (.int .i64) :: .sc (.int .i64) :: pv 7 [])), mem := [.live [.xs .bool none] (.own), .live [.xs b8 none] (.ro)] } [.nat, .nat, .nat, .nat, .int, .int, .nat, .xs, .nat, .xs]
abbrev W36 : Type := Nat × Nat × Nat × Nat × Int × Int × Nat × List Int × Nat × List Int × Unit
noncomputable def v5 (N : Nat) (β : Type) (x : W36) (kn : W36 → Option β) (ke : W31 → Option β) : Option β :=
 if (x.2.2.2.2.2.1 < x.2.2.2.2.1) then
  if 0 ≤ x.2.2.2.2.2.1 then (
  if x.2.2.2.2.2.1 < ((x.2.2.1 : Nat) : Int) then (
  if (c2h x.2.1 (x.2.2.2.2.2.1.toNat)) < x.2.2.2.2.2.2.2.2.1 then (
  if ((List.getD x.2.2.2.2.2.2.2.2.2.1 (c2h x.2.1 (x.2.2.2.2.2.1.toNat)) 0) ≠ (0:Int)) then
   ke (.inl ((150:Int), ()))
  else
   kn (x.1, x.2.1, x.2.2.1, x.2.2.2.1, x.2.2.2.2.1, (IntKind.i64.wrap (x.2.2.2.2.2.1 + (1:Int))), x.2.2.2.2.2.2.1, x.2.2.2.2.2.2.2.1, x.2.2.2.2.2.2.2.2.1, x.2.2.2.2.2.2.2.2.2.1, ())) else none) else none) else none
 else
  ke (.inr (x.1, x.2.2.2.2.2.2.1, x.2.2.2.2.2.2.2.1, ()))
noncomputable def a6R : Go' W31 := fun y K => match y with
 | .inl y => K .ret (fSt { tmps := pv 6 (.sc (.nilsl) :: .sc (.int .i64) :: pv 95 []), mem := [] } [.int] y)
 | .inr y => K (.exit 4) (fSt { tmps := pv 8 (.sc (.vec 0 none 256) :: pv 94 []), mem := [.live [.xs .bool none] (.own)] } [.nat, .nat, .xs] y)
noncomputable def a1K (N : Nat) : LT := upd (a2L N) 20 (o6 a7R N (v5 N) a6R)
theorem a6S (N : Nat) : OkAll p_dring_UnpackHints_E O4 N (a1K N) (w9 t6) :=
 d6 (c := d7 20 t6) (a7T N) (by kernel_rfl) (fun x => by kernel_rfl) (fun β x kn ke => by kernel_rfl)
abbrev C6 : List Kd := [.int .i64, .int .i64, .sl b8]
abbrev C7 : List Kd := [.sla .bool 256, .int .i64]
noncomputable def V4 (N : Nat) (x : Int × Int × List Int × Unit) : Option (List Int × Int) :=
 if (x.1 < (0:Int)) then
  some ([], (1:Int))
 else
  if (x.1 > (16:Int)) then
   some ([], (1:Int))
  else
   if (x.2.1 < (0:Int)) then
    some ([], (1:Int))
   else
    if (x.2.1 > (255:Int)) then
     some ([], (1:Int))
    else
     if ((((List.length x.2.2.1) : Nat) : Int) ≠ (IntKind.i64.wrap (x.2.1 + x.1))) then
      some ([], (1:Int))
     else
      if 0 ≤ x.1 then (
      if x.1 = x.1 then (
      if x.1 * 256 ≤ 281474976710656 then (
      m7 (s5 N) N (x.2.1, (List.length x.2.2.1), (x.1.toNat), (0:Int), (((x.1.toNat) : Nat) : Int), (0:Int), (List.length x.2.2.1), x.2.2.1, ((x.1.toNat) * 256), (List.replicate ((x.1.toNat) * 256) 0), ()) fun y => (match y with
      | .inl y3 => (
       some ([], y3.1))
      | .inr y4 => (
       if 0 ≤ y4.1 then (
       if y4.1 ≤ ((y4.2.1 : Nat) : Int) then (
       if 0 ≤ y4.2.2.2.1 then (
       if y4.2.2.2.1 ≤ (((y4.1.toNat) : Nat) : Int) then (
       m7 (v5 N) N (y4.2.2.1, (y4.2.2.2.1.toNat), (c9A (y4.1.toNat) (y4.2.2.2.1.toNat)), (c9A y4.2.1 (y4.2.2.2.1.toNat)), (((c9A (y4.1.toNat) (y4.2.2.2.1.toNat)) : Nat) : Int), (0:Int), y4.2.2.2.2.2.2.1, y4.2.2.2.2.2.2.2.1, y4.2.2.2.2.1, y4.2.2.2.2.2.1, ()) fun y => (match y with
       | .inl y5 => (
        some ([], y5.1))
       | .inr y6 => (
        some (y6.2.2.1, (0:Int))))) else none) else none) else none) else none))) else none) else none) else none
theorem a9L : p_dring_UnpackHints_E.Ok Try.prog := AE.of_ok (all_cons a5x (all_cons c3B (all_cons Z1 (all_cons F8 (all_cons c4S (all_cons b8x c6)))))) c6
theorem b0O (hE : p_dring_UnpackHints_E.Ok Try.prog) {g : Ds C6 → Option (Rs C7)} (hg : ∀ x r, g x = some r → ∃ N, V4 N x = some r) : c8 Try.prog 31 ⟨C6, C7, g⟩ :=
 i5 (E := p_dring_UnpackHints_E) (H := O4) (L := fun N => a1K N) (c := t6) (ks := C6) (rs := C7) (F := V4) hE mix Try.func31 (by kernel_rfl) (fun N => a6S N) (fun _ _ => by kernel_rfl) hg
end Go.Ax.TryP
set_option linter.unusedVariables false
namespace Go.Ax.TryP
open Go.Proofs
theorem c9y {rate : Nat} {e : Int} {l : List Int} {n p : Nat} (h : p < n) : (a0d rate e l n).getD p 0 = b2E rate (Q6 rate e (z25, 0) l) p := by
 unfold a0d
 rw [List.getD_eq_getElem?_getD, List.getElem?_map, List.getElem?_range h]
 rfl
def c57 (L : List Int) : List Int := L ++ List.replicate (256 - L.length) 0
theorem c58 {L : List Int} {c : Int} (h : L.length < 256) : (c57 L).set L.length c = c57 (L ++ [c]) := by
 unfold c57
 rw [List.set_append_right _ _ (Nat.le_refl _), Nat.sub_self, List.append_assoc]
 obtain ⟨k, hk⟩ : ∃ k, 256 - L.length = k + 1 := ⟨255 - L.length, by omega⟩
 rw [hk, List.replicate_succ, List.set_cons_zero, List.length_append, List.length_singleton, show 256 - (L.length + 1) = k by omega]
 rfl
theorem c3l {L : List Int} (h : L.length = 256) : c57 L = L := by simp [c57, h]
theorem c9B {L : List Int} (h : L.length ≤ 256) : L.take 256 = L := List.take_of_length_le h
theorem c8q (f : Nat → List Int) (t : Nat) : ∀ d : Nat, ∃ r, a1j f (t + d) = a1j f t ++ r
 | 0 => ⟨[], by simp⟩
 | d + 1 => by
  obtain ⟨r, h⟩ := c8q f t d
  exact ⟨r ++ f (t + d), by rw [← Nat.add_assoc, a1j, h, List.append_assoc]⟩
theorem b07 {f : Nat → List Int} {t u : Nat} (h : t ≤ u) (h2 : 256 ≤ (a1j f t).length) : 256 ≤ (a1j f u).length ∧ (a1j f u).take 256 = (a1j f t).take 256 := by
 obtain ⟨r, e⟩ := c8q f t (u - t)
 rw [show t + (u - t) = u by omega] at e
 rw [e]
 exact ⟨by simp; omega, by rw [List.take_append_of_le_length h2]⟩
theorem a89 {n : Nat} (h : n < 2 ^ 31) : IntKind.i32.wrap (n : Int) = n := M4 (by omega) (by omega)
theorem c7x {m n : Nat} (hm : m < 2 ^ 31) (hn : n < 2 ^ 31) : ior .i32 (m : Int) (n : Int) = ((m ||| n : Nat) : Int) := by
 unfold ior
 rw [BitVec.toNat_or, a1W (k := .i32) (Nat.lt_of_lt_of_le hm (by decide)), a1W (k := .i32) (Nat.lt_of_lt_of_le hn (by decide))]
 exact a89 (Nat.or_lt_two_pow hm hn)
theorem b5A {m s : Nat} (hs : s ≤ 32) (h : m * 2 ^ s < 2 ^ 31) : b0A .i32 (m : Int) (s : Int) = ((m * 2 ^ s : Nat) : Int) := by
 unfold b0A
 rw [Int.toNat_natCast, Nat.min_eq_left (show s ≤ IntKind.i32.bits from hs)]
 have : (m : Int) * 2 ^ s = ((m * 2 ^ s : Nat) : Int) := by simp
 rw [this]
 exact a89 h
theorem d8U {x y z : Int} (hx : 0 ≤ x ∧ x ≤ 255) (hy : 0 ≤ y ∧ y ≤ 255) (hz : 0 ≤ z ∧ z ≤ 255) :
  ior IntKind.i32 (ior IntKind.i32 (IntKind.i32.wrap x) (b0A IntKind.i32 (IntKind.i32.wrap y) (8:Int))) (b0A IntKind.i32 (IntKind.i32.wrap (b8H IntKind.u8 z (127:Int))) (16:Int)) = x + 256 * y + 65536 * (z % 128) := by
 obtain ⟨x, rfl⟩ : ∃ m : Nat, x = m := ⟨x.toNat, by omega⟩
 obtain ⟨y, rfl⟩ : ∃ m : Nat, y = m := ⟨y.toNat, by omega⟩
 obtain ⟨z, rfl⟩ : ∃ m : Nat, z = m := ⟨z.toNat, by omega⟩
 have e : b8H .u8 (z : Int) 127 = ((z % 128 : Nat) : Int) := by
  rw [show (127 : Int) = ((127 : Nat) : Int) from rfl, b5z rfl (by simp [IntKind.bits]; omega) (by decide), show (127 : Nat) = 2 ^ 7 - 1 from rfl, Nat.and_two_pow_sub_one_eq_mod]
 have h1 : x ||| y * 2 ^ 8 = x + y * 2 ^ 8 := c9i (by omega)
 have h2 : (x + y * 2 ^ 8) ||| (z % 128) * 2 ^ 16 = x + y * 2 ^ 8 + (z % 128) * 2 ^ 16 := c9i (by omega)
 rw [e, a89 (n := x) (by omega), a89 (n := y) (by omega), a89 (n := z % 128) (by omega), show (8 : Int) = ((8 : Nat) : Int) from rfl, show (16 : Int) = ((16 : Nat) : Int) from rfl, b5A (by omega) (by omega), b5A (by omega) (by omega), c7x (by omega) (by omega), h1, c7x (by omega) (by omega), h2]
 omega
theorem d39 {s : List Int} {t : Nat} (h : c2k s t < 8380417) : a1j (b1x s) (t + 1) = a1j (b1x s) t ++ [c2k s t] := by show _ ++ b1x s t = _; rw [b1x, if_pos h]
theorem d6q {s : List Int} {t : Nat} (h : ¬ c2k s t < 8380417) : a1j (b1x s) (t + 1) = a1j (b1x s) t := by show _ ++ b1x s t = _; rw [b1x, if_neg h, List.append_nil]
abbrev rA (s : List Int) : List Int := Q6 168 31 (z25, 0) s
def rjX (s : List Int) (t : Nat) : Int × Int × List Int × List Int × Bool × List Int × Int × Int × Int × Unit :=
 (((a1j (b1x s) t).length : Int), (t : Int), z256, c57 (a1j (b1x s) t), true, (V9 168 (rA s) (3 * t)).1, 168, ((V9 168 (rA s) (3 * t)).2 : Int), 3 * (t : Int), ())
abbrev Orj := (List Int × Unit) ⊕ (Int × List Int × Unit)
theorem d08 {s : List Int} {t : Nat} (ht : t < 1024) : o0 ((true, (V9 168 (rA s) (3 * t)).1, 168, ((V9 168 (rA s) (3 * t)).2 : Int), 3 * (t : Int), ()), 3, ())
  = some ([shk s (3 * t), shk s (3 * t + 1), shk s (3 * t + 2)], 0, (true, (V9 168 (rA s) (3 * (t + 1))).1, 168, ((V9 168 (rA s) (3 * (t + 1))).2 : Int), 3 * ((t + 1 : Nat) : Int), ())) := by
 have h := d07 (rate := 168) (A := rA s) (P := 3 * t) (n := 3) (by omega) (c46 168 (by omega) 31 s) (by omega) (c := 3 * (t : Int)) (by omega)
 rw [show 3 * (t + 1) = 3 * t + 3 by omega, show (3 : Int) * ((t + 1 : Nat) : Int) = 3 * (t : Int) + ((3 : Nat) : Int) by omega]
 exact h
theorem d6B {s : List Int} {t : Nat} (ht : t < 1024) (hL : (a1j (b1x s) t).length < 256) {N : Nat} {β : Type} (kn : _ → Option β) (ke : Orj → Option β) :
  w7 N β (rjX s t) kn ke = if (a1j (b1x s) (t + 1)).length < 256 then kn (rjX s (t + 1)) else ke (.inr (0, (a1j (b1x s) (t + 1)).take 256, ())) := by
 have b0 := d0K s (3 * t)
 have b1 := d0K s (3 * t + 1)
 have b2 := d0K s (3 * t + 2)
 have wt : IntKind.i64.wrap ((t : Int) + 1) = ((t + 1 : Nat) : Int) := by rw [c7 (by omega) (by omega)]; omega
 unfold w7 rjX
 dsimp only
 rw [if_pos (by omega), d08 ht, Option.bind_some]
 dsimp only
 rw [if_neg (by omega), if_pos (by omega), if_pos (by simp), if_pos (by simp), if_pos (by omega), if_pos (by simp), if_pos (by simp), if_pos (by omega), if_pos (by simp), if_pos (by simp)]
 have e : ior IntKind.i32 (ior IntKind.i32 (IntKind.i32.wrap (List.getD [shk s (3 * t), shk s (3 * t + 1), shk s (3 * t + 2)] 0 0)) (b0A IntKind.i32 (IntKind.i32.wrap (List.getD [shk s (3 * t), shk s (3 * t + 1), shk s (3 * t + 2)] 1 0)) (8:Int))) (b0A IntKind.i32 (IntKind.i32.wrap (b8H IntKind.u8 (List.getD [shk s (3 * t), shk s (3 * t + 1), shk s (3 * t + 2)] 2 0) (127:Int))) (16:Int)) = c2k s t := d8U b0 b1 b2
 rw [e, wt]
 by_cases h : c2k s t < 8380417
 ·rw [if_neg (by omega), if_pos (by omega), if_pos (by omega), if_pos (by omega), Int.toNat_natCast, c58 hL, d39 h, List.length_append, List.length_singleton, c7 (by omega) (by omega)]
  by_cases g : (a1j (b1x s) t).length + 1 < 256
  ·rw [if_neg (by omega), if_pos g]
   rfl
  ·rw [if_pos (by omega), if_neg g]
   have gl : (a1j (b1x s) t ++ [c2k s t]).length = 256 := by rw [List.length_append, List.length_singleton]; omega
   rw [c3l gl, c9B (by omega)]
 ·rw [if_pos (by omega), d6q h, if_pos hL]
  rfl
theorem d5c {s : List Int} {N : Nat} {β : Type} (k : Orj → Option β) : ∀ j t : Nat, t + j = 1024 → (a1j (b1x s) t).length < 256 → ∀ n, j < n →
  m7 (w7 N) n (rjX s t) k = if (a1j (b1x s) 1024).length < 256 then k (.inl (z256, ())) else k (.inr (0, (a1j (b1x s) 1024).take 256, ()))
 | 0, t, h, hL, n, hn => by
  obtain ⟨n, rfl⟩ : ∃ m, n = m + 1 := ⟨n - 1, by omega⟩
  have h : t = 1024 := by omega
  subst h
  rw [if_pos hL]
  simp only [m7]
  unfold w7 rjX
  dsimp only
  rw [if_neg (by omega)]
 | j + 1, t, h, hL, n, hn => by
  obtain ⟨n, rfl⟩ : ∃ m, n = m + 1 := ⟨n - 1, by omega⟩
  simp only [m7]
  rw [d6B (by omega) hL]
  split
  ·rename_i h2
   exact d5c k j (t + 1) (by omega) h2 n (by omega)
  ·rename_i h2
   obtain ⟨q1, q2⟩ := b07 (f := b1x s) (t := t + 1) (u := 1024) (by omega) (by omega)
   rw [if_neg (by omega), q2]
theorem c5f {l : List Int} (hl : l.length ≤ 4294967000 ∧ ∀ z ∈ l, 0 ≤ z ∧ z ≤ 255) : D4 ([l], ()) = some (true, rA l, 168, 0, 0, ()) := by
 have e := c0q (c9h hl)
 rwa [d7E] at e
theorem c2R : ∀ x r, Z7 x = some r → ∃ N, a4q N x = some r := by
 refine d9 (ks := S1) (rs := S2) fun x hw hq => ⟨1025, ?_⟩
 obtain ⟨(l : List Int), u⟩ := x
 have hl := b2I.1 hw.1
 unfold a4q d2E
 dsimp only
 by_cases h : l.length = 34
 ·rw [if_neg (by omega), if_neg (by omega)]
  rw [c5f ⟨by show l.length ≤ _; omega, hl.2⟩, Option.bind_some]
  have hst : V9 168 (rA l) (3 * 0) = (rA l, 0) := b8w _ (by omega) (by omega)
  have hx : rjX l 0 = ((0 : Int), (0 : Int), z256, z256, true, rA l, 168, 0, 0, ()) := by unfold rjX; rw [hst]; rfl
  show m7 (w7 1025) 1025 ((0 : Int), (0 : Int), z256, z256, true, rA l, 168, 0, 0, ()) _ = _
  rw [← hx]
  refine (d5c _ 1024 0 (by omega) (by show 0 < 256; omega) _ (by omega)).trans ?_
  generalize a1j (b1x l) 1024 = L
  by_cases g : L.length < 256
  ·rw [if_pos g, if_pos g]
  ·rw [if_neg g, if_neg g]
 ·rw [if_pos (by omega), if_pos h]
theorem c6h : ∀ x r, a62 x = some r → ∃ N, a7c N x = some r := by
 refine d9 (ks := a0I) (rs := a0J) fun x hw hq => ⟨0, ?_⟩
 obtain ⟨(eta : Int), (h : Int), u⟩ := x
 have hh : 0 ≤ h ∧ h ≤ 255 := U8.1 hw.2.1
 have e2 : Int.tmod h 5 = h % 5 := Int.tmod_eq_emod_of_nonneg hh.1
 unfold a7c c7q
 dsimp only
 rw [e2, M4 (x := h) (by omega) (by omega), M4 (x := h % 5) (by omega) (by omega), M4 (x := 2 - h % 5) (by omega) (by omega), M4 (x := 4 - h) (by omega) (by omega)]
 by_cases h1 : eta = 2
 ·subst h1
  by_cases h3 : h < 15
  ·rw [if_pos rfl, if_pos h3, if_pos ⟨rfl, h3⟩]
  ·rw [if_pos rfl, if_neg h3, if_neg (by omega), if_neg (by omega), if_neg (by omega)]
 ·rw [if_neg h1, if_neg (by omega : ¬(eta = 2 ∧ h < 15))]
  by_cases h2 : eta = 4
  ·by_cases h3 : h < 9
   ·rw [if_pos h2, if_pos h3, if_pos ⟨h2, h3⟩]
   ·rw [if_pos h2, if_neg h3, if_neg (by omega)]
  ·rw [if_neg h2, if_neg (by omega)]
theorem d5C {eta h : Int} (he : eta = 2 ∨ eta = 4) (hh : 0 ≤ h ∧ h ≤ 255) : a62 (eta, h, ()) = some (c7q eta h) :=
 d8 (ks := a0I) (rs := a0J) (x := (eta, h, ())) ⟨u2.2 (by show _ ≤ eta ∧ eta ≤ _; omega), U8.2 hh, trivial⟩ trivial
def okH (eta h : Int) : Prop := (eta = 2 ∧ h < 15) ∨ (eta = 4 ∧ h < 9)
def nmH (eta h : Int) : Int := if eta = 2 then 2 - h % 5 else 4 - h
theorem d3S {eta h : Int} (k : okH eta h) : c7q eta h = (nmH eta h, true) := by
 unfold c7q nmH
 rcases k with ⟨rfl, k⟩ | ⟨rfl, k⟩
 ·rw [if_pos ⟨rfl, k⟩, if_pos rfl]
 ·rw [if_neg (by omega), if_pos ⟨rfl, k⟩, if_neg (by omega)]
theorem d56 {eta h : Int} (k : ¬ okH eta h) : c7q eta h = (0, false) := by
 unfold c7q
 unfold okH at k
 rw [if_neg (by omega), if_neg (by omega)]
theorem d60 {eta h : Int} (k : okH eta h) : d5m eta h = [nmH eta h % 8380417] := by
 unfold d5m nmH
 rcases k with ⟨rfl, k⟩ | ⟨rfl, k⟩
 ·rw [if_pos rfl, if_pos k, if_pos rfl]
 ·rw [if_neg (by omega), if_pos k, if_neg (by omega)]
theorem d8u {eta h : Int} (he : eta = 2 ∨ eta = 4) (k : ¬ okH eta h) : d5m eta h = [] := by
 unfold d5m
 unfold okH at k
 rcases he with rfl | rfl
 ·rw [if_pos rfl, if_neg (by omega)]
 ·rw [if_neg (by omega), if_neg (by omega)]
theorem d1X (s : List Int) (t : Nat) : 0 ≤ a8v s t ∧ a8v s t ≤ 15 := by
 have := d2N s (t / 2)
 unfold a8v
 split <;> omega
theorem d1m {eta : Int} {s : List Int} {t : Nat} (h : okH eta (a8v s t)) : a1j (a5A eta s) (t + 1) = a1j (a5A eta s) t ++ [nmH eta (a8v s t) % 8380417] := by show _ ++ a5A eta s t = _; rw [a5A, d60 h]
theorem d4X {eta : Int} {s : List Int} {t : Nat} (he : eta = 2 ∨ eta = 4) (h : ¬ okH eta (a8v s t)) : a1j (a5A eta s) (t + 1) = a1j (a5A eta s) t := by show _ ++ a5A eta s t = _; rw [a5A, d8u he h, List.append_nil]
theorem d9a {eta h : Int} (hh : 0 ≤ h ∧ h ≤ 15) : -11 ≤ nmH eta h ∧ nmH eta h ≤ 4 := by unfold nmH; split <;> omega
abbrev spB (s : List Int) : List Int := a0d 136 31 s 1024
abbrev Ib := Int × Int × Nat × Int × Int × List Int × Int × List Int × List Int × Nat × List Int × Unit
abbrev Ob := (Int × List Int × Unit) ⊕ (Int × Int × Nat × Int × Int × List Int × List Int × Nat × List Int × Unit)
def biX (eta : Int) (s : List Int) (q j : Nat) (cs : List Int) : Ib :=
 (eta, ((a1j (a5A eta s) (2 * q + j)).length : Int), 1024, 1024, (q : Int), cs, (j : Int), z256, c57 (a1j (a5A eta s) (2 * q + j)), 1024, spB s, ())
theorem d1k {eta : Int} (he : eta = 2 ∨ eta = 4) {s : List Int} {q j : Nat} (hj : j < 2) {cs : List Int} (hc : cs.getD j 0 = a8v s (2 * q + j)) (hL : (a1j (a5A eta s) (2 * q + j)).length < 256) {N : Nat} {β : Type} (kn : Ib → Option β) (ke : Ob → Option β) :
  q9 N β (biX eta s q j cs) kn ke = if (a1j (a5A eta s) (2 * q + j + 1)).length < 256 then kn (biX eta s q (j + 1) cs) else ke (.inl (0, (a1j (a5A eta s) (2 * q + j + 1)).take 256, ())) := by
 have hb := d1X s (2 * q + j)
 have hn := d9a (eta := eta) hb
 have wj : IntKind.i64.wrap ((j : Int) + 1) = ((j + 1 : Nat) : Int) := by rw [c7 (by omega) (by omega)]; omega
 unfold q9 biX
 dsimp only
 rw [if_pos (by omega), if_pos (by omega), if_pos (by omega), if_pos (by omega), Int.toNat_natCast, hc, d5C he (by omega), Option.bind_some]
 by_cases h : okH eta (a8v s (2 * q + j))
 ·rw [d3S h, if_neg (by simp)]
  dsimp only
  rw [c7 (x := nmH _ _) (by omega) (by omega), a5z (by omega) (by omega), Option.bind_some, if_pos (by omega), if_pos (by omega), if_pos (by omega), Int.toNat_natCast, c58 hL, d1m h, List.length_append, List.length_singleton, c7 (by omega) (by omega), wj]
  by_cases g : (a1j (a5A eta s) (2 * q + j)).length + 1 < 256
  ·rw [if_neg (by omega), if_pos g, show 2 * q + (j + 1) = 2 * q + j + 1 by omega, d1m h, List.length_append, List.length_singleton]
   rfl
  ·rw [if_pos (by omega), if_neg g]
   have gl : (a1j (a5A eta s) (2 * q + j) ++ [nmH eta (a8v s (2 * q + j)) % 8380417]).length = 256 := by rw [List.length_append, List.length_singleton]; omega
   rw [c3l gl, c9B (by omega)]
 ·rw [d56 h, if_pos (by simp), d4X he h, if_pos hL, wj, show 2 * q + (j + 1) = 2 * q + j + 1 by omega, d4X he h]
abbrev Jb := Int × Int × Nat × Int × Int × List Int × List Int × Nat × List Int × Unit
def boX (eta : Int) (s : List Int) (q : Nat) : Jb :=
 (eta, ((a1j (a5A eta s) (2 * q)).length : Int), 1024, 1024, (q : Int), z256, c57 (a1j (a5A eta s) (2 * q)), 1024, spB s, ())
theorem d7L {s : List Int} {q : Nat} (hq : q < 1024) :
  List.set (List.set (List.replicate 2 (0 : Int)) 0 (b8H IntKind.u8 (List.getD (spB s) q 0) (15:Int))) 1 (b9c IntKind.u8 (List.getD (spB s) q 0) (4:Int)) = [a8v s (2 * q), a8v s (2 * q + 1)] := by
 have e : (spB s).getD q 0 = shb s q := c9y hq
 have hb := d2N s q
 rw [e]
 have e0 : a8v s (2 * q) = shb s q % 16 := by unfold a8v; rw [if_pos (by omega), show 2 * q / 2 = q by omega]
 have e1 : a8v s (2 * q + 1) = shb s q / 16 := by unfold a8v; rw [if_neg (by omega), show (2 * q + 1) / 2 = q by omega]
 rw [e0, e1]
 generalize shb s q = y at hb
 obtain ⟨y, rfl⟩ : ∃ m : Nat, y = m := ⟨y.toNat, by omega⟩
 have a : b8H .u8 (y : Int) 15 = ((y % 16 : Nat) : Int) := by
  rw [show (15 : Int) = ((15 : Nat) : Int) from rfl, b5z rfl (by simp [IntKind.bits]; omega) (by decide), show (15 : Nat) = 2 ^ 4 - 1 from rfl, Nat.and_two_pow_sub_one_eq_mod]
 have b : b9c .u8 (y : Int) 4 = ((y / 16 : Nat) : Int) := by
  rw [show (4 : Int) = ((4 : Nat) : Int) from rfl, a9o (by decide)]
 rw [a, b]
 simp
theorem d5M {eta : Int} (he : eta = 2 ∨ eta = 4) {s : List Int} {q : Nat} (hq : q < 1024) (hL : (a1j (a5A eta s) (2 * q)).length < 256) {N : Nat} {β : Type} (kn : Jb → Option β) (ke : (Int × List Int × Unit) ⊕ (List Int × Unit) → Option β) :
  j8 (N + 3) β (boX eta s q) kn ke = if (a1j (a5A eta s) (2 * (q + 1))).length < 256 then kn (boX eta s (q + 1)) else ke (.inl (0, (a1j (a5A eta s) (2 * (q + 1))).take 256, ())) := by
 have wq : IntKind.i64.wrap ((q : Int) + 1) = ((q + 1 : Nat) : Int) := by rw [c7 (by omega) (by omega)]; omega
 unfold j8 boX
 dsimp only
 rw [if_pos (by omega), if_pos (by omega), if_pos (by omega), if_pos (by omega), Int.toNat_natCast, d7L hq]
 show m7 (q9 (N + 3)) (N + 3) (biX eta s q 0 [a8v s (2 * q), a8v s (2 * q + 1)]) _ = _
 simp only [m7]
 rw [d1k he (j := 0) (by omega) rfl hL]
 rw [show 2 * (q + 1) = 2 * q + 0 + 1 + 1 by omega]
 by_cases g : (a1j (a5A eta s) (2 * q + 0 + 1)).length < 256
 ·rw [if_pos g, d1k he (j := 1) (by omega) rfl g]
  show (if (a1j (a5A eta s) (2 * q + 0 + 1 + 1)).length < 256 then _ else _) = _
  by_cases g2 : (a1j (a5A eta s) (2 * q + 0 + 1 + 1)).length < 256
  ·rw [if_pos g2, if_pos g2]
   unfold q9 biX
   dsimp only
   rw [if_neg (by omega), wq]
  ·rw [if_neg g2, if_neg g2]
 ·rw [if_neg g]
  obtain ⟨q1, q2⟩ := b07 (f := a5A eta s) (t := 2 * q + 0 + 1) (u := 2 * q + 0 + 1 + 1) (by omega) (by omega)
  rw [if_neg (by omega), q2]
theorem d4Y {eta : Int} (he : eta = 2 ∨ eta = 4) {s : List Int} {N : Nat} {β : Type} (k : (Int × List Int × Unit) ⊕ (List Int × Unit) → Option β) : ∀ j q : Nat, q + j = 1024 → (a1j (a5A eta s) (2 * q)).length < 256 → ∀ n, j < n →
  m7 (j8 (N + 3)) n (boX eta s q) k = if (a1j (a5A eta s) 2048).length < 256 then k (.inr (z256, ())) else k (.inl (0, (a1j (a5A eta s) 2048).take 256, ()))
 | 0, q, h, hL, n, hn => by
  obtain ⟨n, rfl⟩ : ∃ m, n = m + 1 := ⟨n - 1, by omega⟩
  have h : q = 1024 := by omega
  subst h
  rw [if_pos hL]
  simp only [m7]
  unfold j8 boX
  dsimp only
  rw [if_neg (by omega)]
 | j + 1, q, h, hL, n, hn => by
  obtain ⟨n, rfl⟩ : ∃ m, n = m + 1 := ⟨n - 1, by omega⟩
  simp only [m7]
  rw [d5M he (by omega) hL]
  split
  ·rename_i h2
   exact d4Y he k j (q + 1) (by omega) h2 n (by omega)
  ·rename_i h2
   obtain ⟨q1, q2⟩ := b07 (f := a5A eta s) (t := 2 * (q + 1)) (u := 2048) (by omega) (by omega)
   rw [if_neg (by omega), q2]
theorem b09 {l : List Int} {n : Nat} (hn : n ≤ 1048576) (hl : l.length ≤ 4294967000 ∧ ∀ z ∈ l, 0 ≤ z ∧ z ≤ 255) : v3 (256, (n : Int), [l], ()) = some (a0d 136 31 l n, 0) := by
 have e := c8v (b := 256) (.inr rfl) hn (c9h hl)
 rwa [d7E, if_neg (by omega)] at e
theorem b6I : ∀ x r, G0 x = some r → ∃ N, a0f N x = some r := by
 refine d9 (ks := E7) (rs := E8) fun x hw hq => ⟨1025 + 3, ?_⟩
 obtain ⟨(eta : Int), (l : List Int), u⟩ := x
 have hl := b2I.1 hw.2.1
 unfold a0f c8C
 dsimp only
 have main : (eta = 2 ∨ eta = 4) → l.length = 66 → ∀ F : _ → Option (List Int × Int), (∀ y, F (.inl y) = some (y.2.1, y.1)) → (∀ y, F (.inr y) = some (z256, 130)) →
   m7 (j8 (1025 + 3)) (1025 + 3) (eta, (0 : Int), (spB l).length, (((spB l).length : Nat) : Int), (0 : Int), z256, z256, (spB l).length, spB l, ()) F = some (if (a1j (a5A eta l) 2048).length < 256 then (z256, 130) else ((a1j (a5A eta l) 2048).take 256, 0)) := by
  intro he h F F1 F2
  rw [c4K]
  have hx : boX eta l 0 = (eta, (0 : Int), 1024, ((1024 : Nat) : Int), (0 : Int), z256, z256, 1024, spB l, ()) := rfl
  rw [← hx]
  refine (d4Y he _ 1024 0 (by omega) (by show 0 < 256; omega) _ (by omega)).trans ?_
  generalize a1j (a5A eta l) 2048 = L
  by_cases g : L.length < 256
  ·rw [if_pos g, if_pos g, F2]
  ·rw [if_neg g, if_neg g, F1]
 by_cases he : eta = 2 ∨ eta = 4
 ·by_cases h : l.length = 66
  ·rw [if_neg (by omega : ¬((eta ≠ 2 ∧ eta ≠ 4) ∨ l.length ≠ 66))]
   have e := b09 (l := l) (n := 1024) (by omega) ⟨by omega, hl.2⟩
   rcases he with h2 | h4
   ·rw [if_neg (by omega), if_neg (by omega)]
    refine (congrArg (fun o => Option.bind o _) e).trans ?_
    rw [Option.bind_some, if_neg (by simp)]
    dsimp only; refine (main (.inl h2) h _ ?_ ?_) <;> intro y <;> rfl
   ·rw [if_pos (by omega), if_neg (by omega), if_neg (by omega)]
    refine (congrArg (fun o => Option.bind o _) e).trans ?_
    rw [Option.bind_some, if_neg (by simp)]
    dsimp only; refine (main (.inr h4) h _ ?_ ?_) <;> intro y <;> rfl
  ·rw [if_pos (show (eta ≠ 2 ∧ eta ≠ 4) ∨ l.length ≠ 66 from .inr h)]
   rcases he with h2 | h4
   ·rw [if_neg (by omega), if_pos (by omega)]
   ·rw [if_pos (by omega), if_neg (by omega), if_pos (by omega)]
 ·rw [if_pos (by omega), if_pos (by omega), if_pos (by omega)]
theorem d5N {b : List Int} (h : ∀ z ∈ b, 0 ≤ z ∧ z ≤ 255) (i : Nat) : 0 ≤ b.getD i 0 ∧ b.getD i 0 ≤ 255 := by
 by_cases hi : i < b.length
 ·exact h _ (a5D hi)
 ·rw [b5y (by omega)]; omega
theorem d74 {k : Nat} (h : k ≤ 23) : (2 : Int) ^ k ≤ 8388608 := by
 have : 2 ^ k ≤ 2 ^ 23 := Nat.pow_le_pow_right (by omega) h
 have e : ((2 ^ k : Nat) : Int) = (2 : Int) ^ k := by simp
 omega
theorem d7O {i d n : Nat} (hi : i < n) : i * d + d ≤ n * d := by
 have h : (i + 1) * d ≤ n * d := Nat.mul_le_mul_right d hi
 rwa [Nat.succ_mul] at h
theorem c3K (b : List Int) (t : Nat) : 0 ≤ b7f b t ∧ b7f b t ≤ 1 := d1l _ _
theorem d4G {d : Int} {b : List Int} : a42 [.int .i64, .sl (.int .u8)] (d, b, ()) ↔ (-9223372036854775808 ≤ d ∧ d ≤ 9223372036854775807) ∧ (b.length ≤ maxLen ∧ ∀ z ∈ b, 0 ≤ z ∧ z ≤ 255) := by
 have : Kd.wf (.int .i64) d ↔ -9223372036854775808 ≤ d ∧ d ≤ 9223372036854775807 := u2
 simp only [a42, b2I, and_true, this]
def d2n (w : Nat) (b : List Int) (i : Nat) : Int := c23 w fun k => b7f b (i * w + k)
theorem d2o {w : Nat} (b : List Int) (i : Nat) (hw : w ≤ 23) : 0 ≤ d2n w b i ∧ d2n w b i < 8388608 := by
 have := c3A (n := w) (c := fun k => b7f b (i * w + k)) fun s _ => c3K b _
 have := d74 hw
 unfold d2n
 omega
theorem set_same {l : List Int} {i : Nat} {v : Int} (h : l.getD i 0 = v) (hi : i < l.length) : l.set i v = l := by
 subst h
 refine rows.ext (by simp) rfl fun j _ => ?_
 by_cases hj : i = j
 ·subst hj; exact a2t hi
 ·exact getD_set_ne hj
theorem d15 {A b : Int} {s : Nat} (hA : 0 ≤ A ∧ A < 2 ^ s) (hb : 0 ≤ b ∧ b ≤ 1) (hs : s ≤ 22) : ior .i32 A (b0A .i32 b (s : Int)) = A + b * 2 ^ s := by
 obtain ⟨m, rfl⟩ := Int.eq_ofNat_of_zero_le hA.1
 obtain ⟨c, rfl⟩ := Int.eq_ofNat_of_zero_le hb.1
 have hc : c ≤ 1 := by omega
 have hm : m < 2 ^ s := by have := hA.2; exact_mod_cast this
 have hp : 2 ^ s ≤ 2 ^ 22 := Nat.pow_le_pow_right (by omega) hs
 have hc2 : c * 2 ^ s ≤ 2 ^ s := by have := Nat.mul_le_mul_right (2 ^ s) hc; omega
 rw [b5A (by omega) (by omega), c7x (by omega) (by omega), c9i hm]
 simp
theorem c2S : ∀ x r, Z8 x = some r → ∃ N, a4r N x = some r := by
 refine d9 (ks := S3) (rs := S4) fun x hw hq => ⟨300, ?_⟩
 obtain ⟨(d : Int), (b : List Int), u⟩ := x
 obtain ⟨hd, hb⟩ := d4G.1 hw
 obtain ⟨h0, h1, hl⟩ : 1 ≤ d ∧ d ≤ 23 ∧ (b.length : Int) = 32 * d := hq
 unfold a4r
 dsimp only
 obtain ⟨n, rfl⟩ : ∃ n : Nat, d = n := ⟨d.toNat, by omega⟩
 rw [if_neg (by omega), if_neg (by omega), c7 (by omega) (by omega), if_neg (by omega), Int.toNat_natCast]
 have hn : n ≤ 23 := by omega
 have hZ : z256.length = 256 := List.length_replicate ..
 have hZ0 : ∀ i, z256.getD i 0 = 0 := b3G 256
 show m7 (D8 300) 300 ((n : Int), b.length, (0 : Int), b.length, b, z256, z256, ()) _ = some (c9H n b, 0)
 generalize z256 = Z at hZ hZ0 ⊢
 refine (J0 (F := D8 300) (s := fun i => ((n : Int), b.length, (i : Int), b.length, b, Z, part (d2n n b) i Z, ())) (y := (Z, c9H n b, ())) 256 ?_ ?_ 300 (by omega)).trans ?_
 ·intro i hi kn
  have hpl : (part (d2n n b) i Z).length = 256 := by rw [a9X (by omega), hZ]
  unfold D8
  dsimp only
  rw [if_pos (by omega)]
  refine (i8 (F := K8 300) (s := fun k => ((n : Int), b.length, (i : Int), (i : Int), (n : Int), (k : Int), b.length, b, Z, (part (d2n n b) i Z).set i (c23 k fun k => b7f b (i * n + k)), ()))
   (y := ((n : Int), b.length, (i : Int), b.length, b, Z, part (d2n n b) (i + 1) Z, ())) n ?_ ?_ ?_ 300 (by omega)).trans ?_
  ·rw [set_same (by rw [b6G (Nat.le_refl i), hZ0]; rfl) (by omega)]
   rfl
  ·intro k hk kn
   have hle := d7O (d := n) hi
   have hz := d5N hb.2 ((i * n + k) / 8)
   have hbit := c3K b (i * n + k)
   have em : (i : Int) * n = ((i * n : Nat) : Int) := by simp
   have ea : ((i * n : Nat) : Int) + k = ((i * n + k : Nat) : Int) := by simp
   have ed : ((i * n + k : Nat) : Int) / 8 = (((i * n + k) / 8 : Nat) : Int) := by omega
   have er : ((i * n + k : Nat) : Int) % 8 = (((i * n + k) % 8 : Nat) : Int) := by omega
   have hs := c3A (n := k) (c := fun k => b7f b (i * n + k)) fun s _ => c3K b _
   unfold K8
   dsimp only
   rw [if_pos (by omega), em, c7 (x := ((i * n : Nat) : Int)) (by omega) (by omega), ea, c7 (x := ((i * n + k : Nat) : Int)) (by omega) (by omega), a95 (by omega), a96 (by omega), ed, er,
    c7 (x := (((i * n + k) / 8 : Nat) : Int)) (by omega) (by omega), c7 (by omega) (by omega)]
   simp (disch := omega) only [if_pos, if_neg, Int.toNat_natCast]
   rw [d4R hz.1 hz.2 (by omega), show c66 (b.getD ((i * n + k) / 8) 0) ((i * n + k) % 8) = b7f b (i * n + k) from rfl, M4 (by omega) (by omega), a2t (by omega), List.set_set,
    d15 hs hbit (by omega), Int.natCast_add]
   rfl
  ·intro kn
   unfold K8
   dsimp only
   rw [if_neg (by omega), u3 (h := d2n n b) (i := i) (a := Z) (z := c23 n fun k => b7f b (i * n + k)) (by omega) rfl]
  ·dsimp only
   rw [c7 (by omega) (by omega), Int.natCast_add]
   rfl
 ·intro kn
  unfold D8
  dsimp only
  rw [if_neg (by omega), B7 hZ]
  rfl
 ·rfl
theorem c5g {n : Nat} {b : List Int} (h : 1 ≤ n ∧ n ≤ 23 ∧ b.length = 32 * n) (hb : ∀ z ∈ b, 0 ≤ z ∧ z ≤ 255) : Z8 ((n : Int), b, ()) = some (c9H n b, 0) := by
 have hM : 1000000 ≤ maxLen := by decide
 have := d8 (ks := S3) (rs := S4) (x := ((n : Int), b, ())) (Q := fun x => wOk x.1 x.2.1) (f := fun x => (c9H x.1.toNat x.2.1, 0)) (d4G.2 ⟨by omega, by omega, hb⟩) ⟨by show (1 : Int) ≤ n; omega, by show (n : Int) ≤ 23; omega, by show (b.length : Int) = 32 * (n : Int); omega⟩
 exact this
theorem d28 {n : Nat} {b : List Int} {i : Nat} (hi : i < 256) : (c9H n b).getD i 0 = d2n n b i := i9 hi
theorem d4C {n : Nat} (hn : n ≤ 23) (b : List Int) : E5 256 (c9H n b) := rows.range fun i _ => by have := d2o b i hn; unfold d2n at this; omega
theorem b3w : ∀ x r, Q9 x = some r → ∃ N, R0 N x = some r := by
 refine d9 (ks := A7) (rs := V3) fun x hw hq => ⟨0, ?_⟩
 obtain ⟨(z : Int), (t : Int), u⟩ := x
 have h1 : -2147483648 ≤ z ∧ z ≤ 2147483647 := s9.1 hw.1
 have h2 : -2147483648 ≤ t ∧ t ≤ 2147483647 := s9.1 hw.2.1
 obtain ⟨h3, h4⟩ : 0 ≤ z ∧ 0 ≤ t := hq
 unfold R0
 show some (IntKind.i32.wrap (t - z)) = some (t - z)
 rw [M4 (by omega) (by omega)]
theorem c0r {z t : Int} (h1 : 0 ≤ z ∧ z ≤ 2147483647) (h2 : 0 ≤ t ∧ t ≤ 2147483647) : Q9 (z, t, ()) = some (t - z) :=
 d8 (ks := A7) (rs := V3) (x := (z, t, ())) ⟨s9.2 (show _ ≤ z ∧ z ≤ _ by omega), s9.2 (show _ ≤ t ∧ t ≤ _ by omega), trivial⟩ ⟨h1.1, h2.1⟩
theorem a3C : ∀ x r, s6 x = some r → ∃ N, s7 N x = some r := by
 refine d9 (ks := j5) (rs := j6) fun x hw hq => ⟨300, ?_⟩
 obtain ⟨(a : List Int), (t : Int), u⟩ := x
 have ha : E5 256 a := v8.1 hw.1
 have h2 : -2147483648 ≤ t ∧ t ≤ 2147483647 := s9.1 hw.2.1
 obtain ⟨h3, h4⟩ : (∀ z ∈ a, 0 ≤ z) ∧ 0 ≤ t := hq
 unfold s7
 refine (J0 (F := i6 300) (s := fun i => (a, (i : Int), [t], part (fun i => t - a.getD i 0) i a, z256, ())) (y := (p9 fun i => t - a.getD i 0, z256, ())) 256 ?_ ?_ 300 (by omega)).trans ?_
 ·intro i hi kn
  have hz := b1p ha i
  have hz0 : 0 ≤ a.getD i 0 := h3 _ (a5D (by rw [ha.1]; exact hi))
  unfold i6
  dsimp only
  rw [if_pos (by omega), if_pos (by omega), if_pos (by omega), if_pos (by omega), Int.toNat_natCast]
  refine (congrArg (fun o => Option.bind o _) (c0r ⟨hz0, hz.2⟩ ⟨h4, h2.2⟩)).trans ?_
  rw [Option.bind_some, if_pos (by omega), if_pos (by omega), if_pos (by omega), c7 (by omega) (by omega), u3 (h := fun i => t - a.getD i 0) (by rw [ha.1]; exact hi) rfl]
  rfl
 ·intro kn
  unfold i6
  dsimp only
  rw [if_neg (by omega), B7 ha.1]
  rfl
 ·rfl
theorem d5B {a : List Int} {t : Int} (ha : E5 256 a) (h : ∀ z ∈ a, 0 ≤ z) (h2 : 0 ≤ t ∧ t ≤ 2147483647) : s6 (a, t, ()) = some (p9 fun i => t - a.getD i 0) :=
 d8 (ks := j5) (rs := j6) (x := (a, t, ())) ⟨v8.2 ha, s9.2 (show _ ≤ t ∧ t ≤ _ by omega), trivial⟩ ⟨h, h2.1⟩
theorem d6X (t : Int) (n : Nat) (b : List Int) : (p9 fun i => t - (c9H n b).getD i 0) = a2h t n b := by
 unfold a2h p9
 exact List.map_congr_left fun i hi => by rw [d28 (List.mem_range.1 hi)]; rfl
theorem d5o {t d : Int} {b : List Int} : a42 [.int .i32, .int .i64, .sl (.int .u8)] (t, d, b, ()) ↔ (-2147483648 ≤ t ∧ t ≤ 2147483647) ∧ (-9223372036854775808 ≤ d ∧ d ≤ 9223372036854775807) ∧ (b.length ≤ maxLen ∧ ∀ z ∈ b, 0 ≤ z ∧ z ≤ 255) := by
 have : Kd.wf (.int .i64) d ↔ -9223372036854775808 ≤ d ∧ d ≤ 9223372036854775807 := u2
 have h2 : Kd.wf (.int .i32) t ↔ -2147483648 ≤ t ∧ t ≤ 2147483647 := s9
 simp only [a42, b2I, and_true, this, h2]
theorem b6J : ∀ x r, j4 x = some r → ∃ N, a0g N x = some r := by
 refine d9 (ks := E9) (rs := F0) fun x hw hq => ⟨0, ?_⟩
 obtain ⟨(t : Int), (d : Int), (b : List Int), u⟩ := x
 obtain ⟨ht, hd, hb⟩ := d5o.1 hw
 obtain ⟨⟨ht0, ht1⟩, h0, h1, hl⟩ : (0 ≤ t ∧ t < 8380417) ∧ 1 ≤ d ∧ d ≤ 23 ∧ (b.length : Int) = 32 * d := hq
 obtain ⟨n, rfl⟩ : ∃ n : Nat, d = n := ⟨d.toNat, by omega⟩
 unfold a0g
 dsimp only
 rw [c5g ⟨by omega, by omega, by omega⟩ hb.2, Option.bind_some, if_neg (by simp), if_neg (by omega), if_neg (by omega)]
 have hn : n ≤ 23 := by omega
 refine (congrArg (fun o => Option.bind o _) (d5B (t := t) (d4C hn b) (fun z hz => by obtain ⟨i, _, rfl⟩ := List.mem_map.1 hz; exact (d2o b i hn).1) ⟨ht0, by omega⟩)).trans ?_
 rw [Option.bind_some, d6X, Int.toNat_natCast]
theorem a5y {n : Nat} {t : Int} {b : List Int} (ht : 0 ≤ t ∧ t < 8380417) (h : 1 ≤ n ∧ n ≤ 23 ∧ b.length = 32 * n) (hb : ∀ z ∈ b, 0 ≤ z ∧ z ≤ 255) : j4 (t, (n : Int), b, ()) = some (a2h t n b, 0) := by
 have hM : 1000000 ≤ maxLen := by decide
 have := d8 (ks := E9) (rs := F0) (x := (t, (n : Int), b, ())) (Q := fun x => (0 ≤ x.1 ∧ x.1 < 8380417) ∧ wOk x.2.1 x.2.2.1) (f := fun x => (a2h x.1 x.2.1.toNat x.2.2.1, 0)) (d5o.2 ⟨by omega, by omega, by omega, hb⟩) ⟨ht, by show (1 : Int) ≤ n; omega, by show (n : Int) ≤ 23; omega, by show (b.length : Int) = 32 * (n : Int); omega⟩
 exact this
theorem d0l {w : Int} (hw : w = 18 ∨ w = 20) {l : List Int} (hl : l.length = 66) (hb : ∀ z ∈ l, 0 ≤ z ∧ z ≤ 255) :
  v3 (256, IntKind.i64.wrap (32 * w), [l], ()) = some (a0d 136 31 l (32 * w.toNat), 0)
  ∧ j4 (b0A IntKind.i32 1 (IntKind.i64.wrap (w - 1)), w, a0d 136 31 l (32 * w.toNat), ()) = some (a2h (2 ^ (w - 1).toNat) w.toNat (a0d 136 31 l (32 * w.toNat)), 0)
  ∧ ¬ IntKind.i64.wrap (w - 1) < 0 := by
 obtain ⟨n, rfl⟩ : ∃ n : Nat, w = n := ⟨w.toNat, by omega⟩
 have hn : n = 18 ∨ n = 20 := by omega
 rw [show ((n : Int) - 1).toNat = n - 1 by omega, Int.toNat_natCast]
 have e1 : IntKind.i64.wrap (32 * (n : Int)) = ((32 * n : Nat) : Int) := by rw [c7 (by omega) (by omega)]; omega
 have e2 : IntKind.i64.wrap ((n : Int) - 1) = ((n - 1 : Nat) : Int) := by rw [c7 (by omega) (by omega)]; omega
 have e3 : b0A IntKind.i32 1 ((n - 1 : Nat) : Int) = 2 ^ (n - 1) := by
  have := b5A (m := 1) (s := n - 1) (by omega) (by rcases hn with rfl | rfl <;> decide)
  refine this.trans ?_
  simp
 have e4 : (2 : Int) ^ (n - 1) < 8380417 := by rcases hn with rfl | rfl <;> decide
 rw [e1, e2, e3]
 exact ⟨b09 (by omega) ⟨by omega, hb⟩, a5y ⟨Int.le_of_lt (c9l _), e4⟩ ⟨by omega, by omega, c4K _ _ _ _⟩ (d8l _ _ _ _), by omega⟩
theorem c6e : ∀ x r, a61 x = some r → ∃ N, a69 N x = some r := by
 refine d9 (ks := a0B) (rs := a0C) fun x hw hq => ⟨0, ?_⟩
 obtain ⟨(w : Int), (l : List Int), u⟩ := x
 obtain ⟨hd, hl⟩ := d4G.1 hw
 unfold a69 c5W
 dsimp only
 by_cases he : w = 18 ∨ w = 20
 ·by_cases h : l.length = 66
  ·rw [if_neg (by omega : ¬((w ≠ 18 ∧ w ≠ 20) ∨ l.length ≠ 66))]
   obtain ⟨a1, a2, a3⟩ := d0l he h hl.2
   rcases he with h2 | h4
   ·rw [if_neg (by omega), if_neg (by omega)]
    refine (congrArg (fun o => Option.bind o _) a1).trans ?_
    rw [Option.bind_some, if_neg (by simp)]
    refine (if_neg a3).trans ?_
    exact congrArg (fun o => Option.bind o _) a2
   ·rw [if_pos (by omega), if_neg (by omega), if_neg (by omega)]
    refine (congrArg (fun o => Option.bind o _) a1).trans ?_
    rw [Option.bind_some, if_neg (by simp)]
    refine (if_neg a3).trans ?_
    exact congrArg (fun o => Option.bind o _) a2
  ·rw [if_pos (show (w ≠ 18 ∧ w ≠ 20) ∨ l.length ≠ 66 from .inr h)]
   rcases he with h2 | h4
   ·rw [if_neg (by omega), if_pos (by omega)]
   ·rw [if_pos (by omega), if_neg (by omega), if_pos (by omega)]
 ·rw [if_pos (by omega), if_pos (by omega), if_pos (by omega)]
end Go.Ax.TryP
set_option linter.unusedVariables false
set_option maxRecDepth 4000
namespace Go.Ax.TryP
open Go.Proofs
abbrev d6N (s : List Int) : List Int := a0d 136 31 s 1032
theorem c4J {s : List Int} {p : Nat} (h : p < 1032) : (d6N s).getD p 0 = shb s p := c9y h
theorem d2R {s : List Int} {i : Nat} : ∀ j at', at' ≤ 1032 → 1032 - at' ≤ j → at' ≤ a5Q s i j at' ∧ a5Q s i j at' ≤ 1032 ∧ (a5Q s i j at' < 1032 → shb s (a5Q s i j at') ≤ i)
 | 0, at', h1, h2 => by
  have e : at' = 1032 := by omega
  subst e
  exact ⟨Nat.le_refl _, Nat.le_refl _, fun h => absurd h (by simp [a5Q])⟩
 | j + 1, at', h1, h2 => by
  unfold a5Q
  by_cases h : at' < 1032 ∧ (i : Int) < shb s at'
  ·rw [if_pos h]
   obtain ⟨a, b, c⟩ := d2R (s := s) (i := i) j (at' + 1) (by omega) (by omega)
   exact ⟨by omega, b, c⟩
  ·rw [if_neg h]
   exact ⟨Nat.le_refl _, h1, fun h3 => by omega⟩
abbrev Id1 := Int × Nat × Nat × Nat × Int × Int × List Int × List Int × Nat × List Int × Unit
def bdX (tau : Int) (s : List Int) (p i : Nat) (c : List Int) : Id1 := (tau, 1024, 1024, 1032, ((p - 8 : Nat) : Int), (i : Int), z256, c, 1032, d6N s, ())
theorem d1j {tau : Int} {s : List Int} {i : Nat} {c : List Int} {N : Nat} {β : Type} (K : Id1 → Option β) : ∀ j p, 8 ≤ p → p ≤ 1032 → 1032 - p ≤ j → ∀ n, j < n →
  m7 (O2 N) n (bdX tau s p i c) K = K (bdX tau s (a5Q s i j p) i c)
 | j, p, h0, h1, h2, n, hn => by
  obtain ⟨n, rfl⟩ : ∃ m, n = m + 1 := ⟨n - 1, by omega⟩
  simp only [m7]
  by_cases hp : p < 1032
  ·obtain ⟨j, rfl⟩ : ∃ i, j = i + 1 := ⟨j - 1, by omega⟩
   have hs := d2N s p
   have e : (d6N s).getD (8 + (p - 8)) 0 = shb s p := by rw [show 8 + (p - 8) = p by omega]; exact c4J hp
   have ew : IntKind.i64.wrap (((p - 8 : Nat) : Int) + 1) = ((p + 1 - 8 : Nat) : Int) := by rw [c7 (by omega) (by omega)]; omega
   unfold O2
   rw [show a5Q s i (j + 1) p = if p < 1032 ∧ (i : Int) < shb s p then a5Q s i j (p + 1) else p from rfl]
   unfold bdX
   dsimp only
   rw [if_pos (by omega), if_pos (by omega), if_pos (by omega), Int.toNat_natCast, if_pos (by omega), e, c7 (x := shb s p) (by omega) (by omega)]
   by_cases h : (i : Int) < shb s p
   ·rw [if_pos h, if_pos ⟨hp, h⟩, ew]
    exact d1j (N := N) K j (p + 1) (by omega) (by omega) (by omega) n (by omega)
   ·rw [if_neg (by omega), if_neg (by omega)]
  ·have e : a5Q s i j p = p := by
    cases j with
    | zero => rfl
    | succ j => unfold a5Q; rw [if_neg (by omega)]
   rw [e]
   unfold O2 bdX
   dsimp only
   rw [if_neg (by omega)]
theorem c5o {tau : Nat} {s : List Int} {k : Nat} (h : b7e tau s k = none) : ∀ d, b7e tau s (k + d) = none
 | 0 => h
 | d + 1 => by rw [← Nat.add_assoc, b7e, c5o h d]
abbrev Ok1 := (List Int × Unit) ⊕ (Int × List Int × Unit)
theorem d5J {tau : Nat} (ht : tau ≤ 64) {s : List Int} {k p : Nat} (hk : k < tau) {c : List Int} (hp : 8 ≤ p ∧ p ≤ 1032) {N : Nat} (hN : 1032 < N) {β : Type} (kn : Id1 → Option β) (ke : Ok1 → Option β) :
  G1 N β (bdX tau s p (256 - tau + k) c) kn ke
  = if a5Q s (256 - tau + k) 1032 p = 1032 then ke (.inl (z256, ())) else
   if k + 1 = tau then ke (.inr (0, c5n s k (256 - tau + k) (a5Q s (256 - tau + k) 1032 p) c, ())) else kn (bdX tau s (a5Q s (256 - tau + k) 1032 p + 1) (256 - tau + (k + 1)) (c5n s k (256 - tau + k) (a5Q s (256 - tau + k) 1032 p) c)) := by
 obtain ⟨a1, a2, a3⟩ := d2R (s := s) (i := 256 - tau + k) 1032 p hp.2 (by omega)
 unfold G1
 have hi : (bdX tau s p (256 - tau + k) c).2.2.2.2.2.1 = ((256 - tau + k : Nat) : Int) := rfl
 rw [hi, if_pos (by omega)]
 refine (d1j (N := N) _ 1032 p hp.1 hp.2 (by omega) N hN).trans ?_
 generalize a5Q s (256 - tau + k) 1032 p = r at a1 a2 a3
 unfold bdX
 dsimp only
 by_cases hr : r = 1032
 ·subst hr
  rw [if_pos (by omega), if_pos rfl]
 ·have hs := d2N s r
  have hs2 := a3 (by omega)
  have hk8 := d2N s (k / 8)
  have e : (d6N s).getD (8 + (r - 8)) 0 = shb s r := by rw [show 8 + (r - 8) = r by omega]; exact c4J (by omega)
  have e8 : (d6N s).getD (k / 8) 0 = shb s (k / 8) := c4J (by omega)
  have ek : IntKind.i64.wrap (IntKind.i64.wrap (((256 - tau + k : Nat) : Int) + tau) - 256) = (k : Int) := by rw [c7 (x := ((256 - tau + k : Nat) : Int) + tau) (by omega) (by omega), c7 (by omega) (by omega)]; omega
  have ed : IntKind.i64.wrap (Int.tdiv (k : Int) 8) = ((k / 8 : Nat) : Int) := by rw [a95 (by omega), c7 (by omega) (by omega)]; omega
  have em : Int.tmod (k : Int) 8 = ((k % 8 : Nat) : Int) := by rw [a96 (by omega)]; omega
  have w1 : IntKind.i64.wrap (((r - 8 : Nat) : Int) + 1) = ((r + 1 - 8 : Nat) : Int) := by rw [c7 (by omega) (by omega)]; omega
  have w2 : IntKind.i64.wrap (((256 - tau + k : Nat) : Int) + 1) = ((256 - tau + (k + 1) : Nat) : Int) := by rw [c7 (by omega) (by omega)]; omega
  rw [if_neg (by omega), if_pos (by omega), if_pos (by omega), if_neg hr]
  simp only [Int.toNat_natCast, ek, ed, em, e, e8, w1, w2]
  rw [if_pos (by omega), if_pos (by omega), if_pos (by omega), if_pos (by omega), if_pos (by omega), if_pos (by omega), if_pos (by omega), if_pos (by omega), if_pos (by omega), if_pos (by omega), if_pos (by omega), if_pos (by omega), if_pos (by omega), if_neg (by omega)]
  rw [d4R hk8.1 hk8.2 (by omega)]
  unfold c5n
  by_cases hb : c66 (shb s (k / 8)) (k % 8) = 1
  ·rw [if_pos hb, if_pos hs.1, if_pos (by omega), if_pos (by omega), if_pos hb, List.set_set]
   by_cases h2 : k + 1 = tau
   ·rw [if_pos (by omega), if_pos h2]
   ·rw [if_neg (by omega), if_neg h2]
  ·rw [if_neg hb, if_neg hb]
   by_cases h2 : k + 1 = tau
   ·rw [if_pos (by omega), if_pos h2]
   ·rw [if_neg (by omega), if_neg h2]
def d8Q {β : Type} (o : Option (List Int × Nat)) (f : Option β) (g : List Int → Option β) : Option β := match o with
 | none => f
 | some (c, _) => g c
theorem d4Q {tau : Nat} (ht : tau ≤ 64) {s : List Int} {N : Nat} (hN : 1032 < N) {β : Type} (K : Ok1 → Option β) : ∀ j k p c, k + (j + 1) = tau → b7e tau s k = some (c, p) → 8 ≤ p ∧ p ≤ 1032 → ∀ n, j < n →
  m7 (G1 N) n (bdX tau s p (256 - tau + k) c) K = d8Q (b7e tau s tau) (K (.inl (z256, ()))) fun c => K (.inr (0, c, ()))
 | j, k, p, c, h, hb, hp, n, hn => by
  obtain ⟨n, rfl⟩ : ∃ m, n = m + 1 := ⟨n - 1, by omega⟩
  simp only [m7]
  obtain ⟨a1, a2, a3⟩ := d2R (s := s) (i := 256 - tau + k) 1032 p hp.2 (by omega)
  have e1 : b7e tau s (k + 1) = if a5Q s (256 - tau + k) 1032 p = 1032 then none else some (c5n s k (256 - tau + k) (a5Q s (256 - tau + k) 1032 p) c, a5Q s (256 - tau + k) 1032 p + 1) := by rw [b7e, hb]
  rw [d5J ht (by omega) hp hN]
  by_cases hr : a5Q s (256 - tau + k) 1032 p = 1032
  ·rw [if_pos hr] at e1 ⊢
   have := c5o e1 j
   rw [show k + 1 + j = tau by omega] at this
   rw [this]
   rfl
  ·rw [if_neg hr] at e1 ⊢
   by_cases h2 : k + 1 = tau
   ·rw [if_pos h2]
    rw [h2] at e1
    rw [e1]
    rfl
   ·rw [if_neg h2]
    obtain ⟨j, rfl⟩ : ∃ i, j = i + 1 := ⟨j - 1, by omega⟩
    exact d4Q ht hN K j (k + 1) _ _ (by omega) e1 (by omega) n (by omega)
theorem c6d : ∀ x r, a4K x = some r → ∃ N, a65 N x = some r := by
 refine d9 (ks := a0z) (rs := a0A) fun x hw hq => ⟨1133, ?_⟩
 obtain ⟨(tau : Int), (l : List Int), u⟩ := x
 obtain ⟨hd, hl⟩ := d4G.1 hw
 have hq : l.length ≤ 1000 := hq
 unfold a65 a47
 dsimp only
 by_cases h1 : tau < 1
 ·rw [if_pos h1, if_pos (.inl h1)]
 by_cases h2 : 64 < tau
 ·rw [if_neg h1, if_pos h2, if_pos (.inr h2)]
 rw [if_neg h1, if_neg h2, if_neg (by omega : ¬(tau < 1 ∨ 64 < tau))]
 refine (congrArg (fun o => Option.bind o _) (b09 (l := l) (n := 1032) (by omega) ⟨by omega, hl.2⟩)).trans ?_
 rw [Option.bind_some, if_neg (by simp)]
 dsimp only
 rw [c4K, if_pos (by omega), if_pos (by omega), c7 (by omega) (by omega)]
 obtain ⟨n, rfl⟩ : ∃ n : Nat, tau = n := ⟨tau.toNat, by omega⟩
 have hx : ((n : Int), 1032 - 8, 1032 - 8, 1032, (0 : Int), (256 : Int) - n, z256, z256, 1032, d6N l, ()) = bdX n l 8 (256 - n + 0) z256 := by
  unfold bdX
  rw [show ((256 - n + 0 : Nat) : Int) = 256 - (n : Int) by omega]
  rfl
 show m7 (G1 1133) (100 + 1033) ((n : Int), 1032 - 8, 1032 - 8, 1032, (0 : Int), (256 : Int) - n, z256, z256, 1032, d6N l, ()) _ = _
 rw [hx, Int.toNat_natCast]
 refine (d4Q (tau := n) (by omega) (N := 1133) (by omega) _ (n - 1) 0 8 z256 (by omega) rfl ⟨by omega, by omega⟩ _ (by omega)).trans ?_
 cases b7e n l n with
 | none => rfl
 | some v => rfl
end Go.Ax.TryP
set_option linter.unusedVariables false
namespace Go.Ax.TryP
open Go.Proofs
theorem c8p (f : Nat → List Int) (t : Nat) : ∀ d : Nat, ∃ r, b3U f (t + d) = b3U f t ++ r
 | 0 => ⟨[], by simp⟩
 | d + 1 => by
  obtain ⟨r, h⟩ := c8p f t d
  exact ⟨r ++ f (t + d), by rw [← Nat.add_assoc, b3U, h, List.append_assoc]⟩
theorem c6W (f : Nat → List Int) {t u : Nat} (h : t ≤ u) : (b3U f t).length ≤ (b3U f u).length := by
 obtain ⟨r, e⟩ := c8p f t (u - t)
 rw [show t + (u - t) = u by omega] at e
 rw [e, List.length_append]
 omega
theorem d6i {l : List Int} {k i : Nat} (h : l.getD (k * 256 + i) 0 ≠ 0) : b3U (mkP l k) (i + 1) = b3U (mkP l k) i ++ [(i : Int)] := by rw [b3U, mkP, if_pos h]
theorem d48 {l : List Int} {k i : Nat} (h : ¬ l.getD (k * 256 + i) 0 ≠ 0) : b3U (mkP l k) (i + 1) = b3U (mkP l k) i := by rw [b3U, mkP, if_neg h, List.append_nil]
def d2w (m : Nat) (P E : List Int) : List Int := P ++ List.replicate (m - P.length) 0 ++ E
theorem d4c {m : Nat} {P E : List Int} (h : P.length < m) (v : Int) : (d2w m P E).set P.length v = d2w m (P ++ [v]) E := by
 unfold d2w
 obtain ⟨d, hd⟩ : ∃ d, m - P.length = d + 1 := ⟨m - P.length - 1, by omega⟩
 rw [List.append_assoc, List.set_append_right _ _ (Nat.le_refl _), Nat.sub_self, hd, List.replicate_succ, List.cons_append, List.set_cons_zero, List.length_append, List.length_singleton, show m - (P.length + 1) = d by omega]
 simp
theorem d4b {m : Nat} {P E : List Int} (h : P.length ≤ m) (k : Nat) (v : Int) : (d2w m P E).set (m + k) v = d2w m P (E.set k v) := by
 unfold d2w
 have hl : (P ++ List.replicate (m - P.length) 0).length = m := by rw [List.length_append, List.length_replicate]; omega
 rw [List.set_append_right _ _ (by omega), hl, show m + k - m = k by omega]
theorem c48 (l : List Int) (k : Nat) : a7A l (k + 1) = a7A l k ++ b3U (mkP l k) 256 := rfl
abbrev Op := (Int × Unit) ⊕ (Nat × Int × Nat × Int × Int × Int × Int × Nat × List Int × Nat × List Int × Unit)
theorem d6y {l E : List Int} {n m k : Nat} (hl : l.length = n * 256) (hk : k < n) (hm : m ≤ 255) {L N : Nat} {nI : Int} {β : Type} (K : Op → Option β) (hL : L = m + n) : ∀ j i, i + j = 256 → (a7A l k ++ b3U (mkP l k) i).length ≤ m → ∀ q, j < q →
  m7 (C3 N) q (n, (m : Int), L, ((a7A l k ++ b3U (mkP l k) i).length : Int), (k : Int), nI, (k : Int), (i : Int), l.length, l, L, d2w m (a7A l k ++ b3U (mkP l k) i) E, ()) K
  = if (a7A l (k + 1)).length ≤ m then K (.inr (n, (m : Int), L, ((a7A l (k + 1)).length : Int), (k : Int), nI, (k : Int), l.length, l, L, d2w m (a7A l (k + 1)) E, ())) else K (.inl (3, ()))
 | 0, i, hi, hP, q, hq => by
  obtain ⟨q, rfl⟩ : ∃ m, q = m + 1 := ⟨q - 1, by omega⟩
  have hi : i = 256 := by omega
  subst hi
  rw [c48, if_pos hP]
  simp only [m7]
  unfold C3
  dsimp only
  rw [if_neg (by omega)]
 | j + 1, i, hi, hP, q, hq => by
  obtain ⟨q, rfl⟩ : ∃ m, q = m + 1 := ⟨q - 1, by omega⟩
  simp only [m7]
  unfold C3
  dsimp only
  rw [if_pos (by omega), if_pos (by omega), if_pos (by omega), if_pos (by omega), if_pos (by omega), Int.toNat_natCast, Int.toNat_natCast, if_pos (by omega), c7 (x := (i : Int) + 1) (by omega) (by omega)]
  by_cases h : l.getD (k * 256 + i) 0 ≠ 0
  ·rw [if_neg (by omega)]
   have hp := d6i h
   by_cases g : (a7A l k ++ b3U (mkP l k) i).length = m
   ·rw [if_pos (by omega), if_neg ?_]
    have := c6W (mkP l k) (show i + 1 ≤ 256 by omega)
    rw [hp, List.length_append, List.length_singleton] at this
    rw [c48, List.length_append]
    rw [List.length_append] at g
    omega
   ·rw [if_neg (by omega), if_pos (by omega), if_pos (by omega), Int.toNat_natCast, if_pos (by omega), d4c (by omega), b8y (by omega) (by omega), c7 (by omega) (by omega)]
    have e : a7A l k ++ b3U (mkP l k) i ++ [(i : Int)] = a7A l k ++ b3U (mkP l k) (i + 1) := by rw [hp, List.append_assoc]
    have el : ((a7A l k ++ b3U (mkP l k) i).length : Int) + 1 = ((a7A l k ++ b3U (mkP l k) (i + 1)).length : Int) := by rw [← e, List.length_append (bs := [(i : Int)]), List.length_singleton]; omega
    rw [e, el]
    exact d6y (N := N) hl hk hm K hL j (i + 1) (by omega) (by omega) q (by omega)
  ·rw [if_pos h, ← d48 h]
   rw [← d48 h] at hP
   exact d6y (N := N) hl hk hm K hL j (i + 1) (by omega) hP q (by omega)
abbrev Oq := (Int × Unit) ⊕ (Nat × Nat × List Int × Unit)
theorem d5a {l : List Int} {n m : Nat} (hl : l.length = n * 256) (hm : m ≤ 255) (hn : n ≤ 16) {N : Nat} (hN : 300 < N) {β : Type} (K : Oq → Option β) : ∀ j k, k + j = n → (a7A l k).length ≤ m → ∀ q, j < q →
  m7 (u9 N) q (n, (m : Int), m + n, ((a7A l k).length : Int), (n : Int), (k : Int), l.length, l, m + n, d2w m (a7A l k) (part (d41 l) k (List.replicate n 0)), ()) K
  = if (a7A l n).length ≤ m then K (.inr (m + n, m + n, d2w m (a7A l n) ((List.range n).map (d41 l)), ())) else K (.inl (3, ()))
 | 0, k, hk, hP, q, hq => by
  obtain ⟨q, rfl⟩ : ∃ m, q = m + 1 := ⟨q - 1, by omega⟩
  have hk : k = n := by omega
  subst hk
  rw [if_pos hP]
  simp only [m7]
  unfold u9
  dsimp only
  rw [if_neg (by omega), B7 (List.length_replicate ..)]
 | j + 1, k, hk, hP, q, hq => by
  obtain ⟨q, rfl⟩ : ∃ m, q = m + 1 := ⟨q - 1, by omega⟩
  simp only [m7]
  unfold u9
  dsimp only
  rw [if_pos (by omega)]
  have e0 : a7A l k = a7A l k ++ b3U (mkP l k) 0 := (List.append_nil _).symm
  have := d6y (N := N) (l := l) (E := part (d41 l) k (List.replicate n 0)) (n := n) (m := m) (k := k) (L := m + n) (nI := (n : Int)) hl (by omega) hm (fun y => match y with
   | .inl y1 => K (.inl (y1.1, ()))
   | .inr y2 => (if 0 ≤ (IntKind.i64.wrap (y2.2.1 + y2.2.2.2.2.1)) then (
   if (IntKind.i64.wrap (y2.2.1 + y2.2.2.2.2.1)) < ((y2.2.2.1 : Nat) : Int) then (
   if ((IntKind.i64.wrap (y2.2.1 + y2.2.2.2.2.1)).toNat) < y2.2.2.2.2.2.2.2.2.2.1 then (
   m7 (u9 N) q (y2.1, y2.2.1, y2.2.2.1, y2.2.2.2.1, y2.2.2.2.2.2.1, (IntKind.i64.wrap (y2.2.2.2.2.2.2.1 + (1:Int))), y2.2.2.2.2.2.2.2.1, y2.2.2.2.2.2.2.2.2.1, y2.2.2.2.2.2.2.2.2.2.1, (List.set y2.2.2.2.2.2.2.2.2.2.2.1 ((IntKind.i64.wrap (y2.2.1 + y2.2.2.2.2.1)).toNat) (IntKind.u8.wrap y2.2.2.2.1)), ()) K) else none) else none) else none)) rfl 256 0 (by omega) (by rw [← e0]; exact hP) N (by omega)
  rw [← e0] at this
  refine this.trans ?_
  clear this
  by_cases h : (a7A l (k + 1)).length ≤ m
  ·rw [if_pos h]
   have ew : IntKind.i64.wrap ((m : Int) + k) = ((m + k : Nat) : Int) := by rw [c7 (by omega) (by omega)]; omega
   dsimp only
   rw [ew, if_pos (by omega), if_pos (by omega), Int.toNat_natCast, if_pos (by omega), c7 (by omega) (by omega), b8y (by omega) (by omega), d4b h, u3 (h := d41 l) (i := k) (z := ((a7A l (k + 1)).length : Int)) (by rw [List.length_replicate]; omega) rfl]
   exact d5a hl hm hn hN K j (k + 1) (by omega) h q (by omega)
  ·rw [if_neg h, if_neg ?_]
   have := c6W (d5d l) (show k + 1 ≤ n by omega)
   exact fun h2 => h (Nat.le_trans this h2)
theorem d4F {l : List Int} (h : Kd.wf (.sla .bool 256) l) : ∃ n, l.length = n * 256 ∧ ∀ z ∈ l, z = 0 ∨ z = 1 := by
 obtain ⟨⟨n, h1, _⟩, h2⟩ := h
 exact ⟨n, h1, h2⟩
theorem b8k : ∀ x r, a05 x = some r → ∃ N, a1a N x = some r := by
 refine d9 (ks := H5) (rs := H6) fun x hw hq => ⟨400, ?_⟩
 obtain ⟨(l : List Int), (most : Int), u⟩ := x
 obtain ⟨n, (hl : l.length = n * 256), _⟩ := d4F hw.1
 have en : l.length / 256 = n := by omega
 unfold a1a b40
 dsimp only
 rw [en]
 by_cases h1 : n > 16
 ·rw [if_pos (by omega), if_pos (.inl (.inl h1))]
 rw [if_neg (by omega)]
 by_cases h2 : most < 0
 ·rw [if_pos h2, if_pos (.inl (.inr h2))]
 rw [if_neg h2]
 by_cases h3 : 255 < most
 ·rw [if_pos h3, if_pos (.inr h3)]
 rw [if_neg h3, if_neg (by omega : ¬((n > 16 ∨ most < 0) ∨ 255 < most))]
 obtain ⟨m, rfl⟩ : ∃ m : Nat, most = m := ⟨most.toNat, by omega⟩
 have ew : IntKind.i64.wrap ((m : Int) + n) = ((m + n : Nat) : Int) := by rw [c7 (by omega) (by omega)]; omega
 rw [ew, if_pos (by omega), if_pos rfl, if_pos (by omega), Int.toNat_natCast, Int.toNat_natCast]
 have ez : List.replicate (m + n) (0 : Int) = d2w m (a7A l 0) (part (d41 l) 0 (List.replicate n 0)) := by
  show _ = [] ++ List.replicate (m - 0) 0 ++ ((List.range 0).map (d41 l) ++ List.drop 0 (List.replicate n 0))
  simp
 rw [ez]
 refine (d5a hl (by omega) (by omega) (N := 400) (by omega) _ n 0 (by omega) (by show 0 ≤ m; omega) 400 (by omega)).trans ?_
 by_cases h : (a7A l n).length ≤ m
 ·rw [if_pos h, if_neg (by omega)]
  rfl
 ·rw [if_neg h, if_pos (by omega)]
open Classical
theorem d7p {b : List Int} (h : ∀ z ∈ b, 0 ≤ z ∧ z ≤ 255) (i : Nat) : 0 ≤ b.getD i 0 ∧ b.getD i 0 ≤ 255 := by
 by_cases hi : i < b.length
 ·exact h _ (a5D hi)
 ·rw [b5y (by omega)]; omega
abbrev Ou := (Int × Unit) ⊕ (Int × Nat × Nat × Int × Int × Int × Nat × List Int × Nat × List Int × Unit)
theorem d6W {b h : List Int} {n m k a e : Nat} (hb : ∀ z ∈ b, 0 ≤ z ∧ z ≤ 255) (hl : b.length = m + n) (hm : m ≤ 255) (hn : n ≤ 16) (hk : k < n) (he : e ≤ m) {nI : Int} {N : Nat} {β : Type} (K : Ou → Option β) : ∀ j i, i + j = e → a ≤ i → d3R b a i → ∀ q, j < q →
  m7 (v4 N) q ((m : Int), b.length, n, (a : Int), (k : Int), (e : Int), (i : Int), nI, (k : Int), b.length, b, n * 256, b5E b k a h (i - a), ()) K
  = if d3R b a e then K (.inr ((m : Int), b.length, n, (e : Int), nI, (k : Int), b.length, b, n * 256, b5E b k a h (e - a), ())) else K (.inl (150, ()))
 | 0, i, hi, ha, hg, q, hq => by
  obtain ⟨q, rfl⟩ : ∃ m, q = m + 1 := ⟨q - 1, by omega⟩
  have hi : i = e := by omega
  subst hi
  rw [if_pos hg]
  simp only [m7]
  unfold v4
  dsimp only
  rw [if_neg (by omega)]
 | j + 1, i, hi, ha, hg, q, hq => by
  obtain ⟨q, rfl⟩ : ∃ m, q = m + 1 := ⟨q - 1, by omega⟩
  have b0 := d7p hb i
  have em : (b5E b k a h (i - a)).set (k * 256 + (b.getD i 0).toNat) 1 = b5E b k a h (i + 1 - a) := by
   rw [show i + 1 - a = (i - a) + 1 by omega, b5E, show a + (i - a) = i by omega]
  simp only [m7]
  unfold v4
  dsimp only
  rw [if_pos (by omega)]
  by_cases g : (a : Int) < i
  ·have ew : IntKind.i64.wrap ((i : Int) - 1) = ((i - 1 : Nat) : Int) := by rw [c7 (by omega) (by omega)]; omega
   rw [if_pos g, if_pos (by omega), if_pos (by omega), ew, Int.toNat_natCast, Int.toNat_natCast, Int.toNat_natCast, if_pos (by omega), if_pos (by omega), if_pos (by omega), if_pos (by omega)]
   by_cases c : b.getD i 0 ≤ b.getD (i - 1) 0
   ·rw [if_pos c, if_neg ?_]
    intro h2
    have := h2 i (by omega) (by omega)
    omega
   ·rw [if_neg c, if_pos (by omega), if_pos (by omega), if_pos (by omega), if_pos (by omega), if_pos (by omega), if_pos b0.1, if_pos (by omega), if_pos (by omega), c7 (by omega) (by omega), em]
    refine d6W (N := N) hb hl hm hn hk he K j (i + 1) (by omega) (by omega) ?_ q (by omega)
    intro i2 h1 h2
    by_cases h3 : i2 = i
    ·subst h3; omega
    ·exact hg i2 h1 (by omega)
  ·rw [if_neg g, if_pos (by omega), if_pos (by omega), Int.toNat_natCast, Int.toNat_natCast, if_pos (by omega), if_pos (by omega), if_pos (by omega), if_pos b0.1, if_pos (by omega), if_pos (by omega), c7 (by omega) (by omega), em]
   exact d6W (N := N) hb hl hm hn hk he K j (i + 1) (by omega) (by omega) (fun i2 h1 h2 => by omega) q (by omega)
abbrev Ov := (Int × Unit) ⊕ (Int × Nat × Nat × Int × Nat × List Int × Nat × List Int × Unit)
theorem d5l {b h : List Int} {n m : Nat} (hb : ∀ z ∈ b, 0 ≤ z ∧ z ≤ 255) (hl : b.length = m + n) (hm : m ≤ 255) (hn : n ≤ 16) {N : Nat} (hN : 300 < N) {β : Type} (K : Ov → Option β) : ∀ j k, k + j = n → b3Z b m k ≤ m → okR b m k → okG b m k → ∀ q, j < q →
  m7 (s5 N) q ((m : Int), b.length, n, (b3Z b m k : Int), (n : Int), (k : Int), b.length, b, n * 256, b39 b m h k, ()) K
  = if okR b m n ∧ okG b m n then K (.inr ((m : Int), b.length, n, (b3Z b m n : Int), b.length, b, n * 256, b39 b m h n, ())) else K (.inl (150, ()))
 | 0, k, hk, hc, hr, hg, q, hq => by
  obtain ⟨q, rfl⟩ : ∃ m, q = m + 1 := ⟨q - 1, by omega⟩
  have hk : k = n := by omega
  subst hk
  rw [if_pos ⟨hr, hg⟩]
  simp only [m7]
  unfold s5
  dsimp only
  rw [if_neg (by omega)]
 | j + 1, k, hk, hc, hr, hg, q, hq => by
  obtain ⟨q, rfl⟩ : ∃ m, q = m + 1 := ⟨q - 1, by omega⟩
  have b0 := d7p hb (m + k)
  have ew : IntKind.i64.wrap ((m : Int) + k) = ((m + k : Nat) : Int) := by rw [c7 (by omega) (by omega)]; omega
  have ec : b.getD (m + k) 0 = (b3Z b m (k + 1) : Int) := by
   show _ = (((b.getD (m + k) 0).toNat : Nat) : Int)
   omega
  simp only [m7]
  unfold s5
  dsimp only
  rw [if_pos (by omega), ew, if_pos (by omega), if_pos (by omega), Int.toNat_natCast, if_pos (by omega), c7 (x := b.getD (m + k) 0) (by omega) (by omega), ec]
  by_cases c1 : (b3Z b m (k + 1) : Int) < b3Z b m k
  ·rw [if_pos c1, if_neg ?_]
   intro h2
   have := h2.1 k (by omega)
   omega
  rw [if_neg c1]
  by_cases c2 : (m : Int) < b3Z b m (k + 1)
  ·rw [if_pos c2, if_neg ?_]
   intro h2
   have := h2.1 k (by omega)
   omega
  rw [if_neg c2]
  have e0 : b39 b m h k = b5E b k (b3Z b m k) (b39 b m h k) (b3Z b m k - b3Z b m k) := by rw [Nat.sub_self]; rfl
  have := d6W (N := N) (b := b) (h := b39 b m h k) (n := n) (m := m) (k := k) (a := b3Z b m k) (e := b3Z b m (k + 1)) (nI := (n : Int)) hb hl hm hn (by omega) (by omega) (fun y => match y with
    | .inl y1 => (
     K (.inl (y1.1, ())))
    | .inr y2 => (
     m7 (s5 N) q (y2.1, y2.2.1, y2.2.2.1, y2.2.2.2.1, y2.2.2.2.2.1, (IntKind.i64.wrap (y2.2.2.2.2.2.1 + (1:Int))), y2.2.2.2.2.2.2.1, y2.2.2.2.2.2.2.2.1, y2.2.2.2.2.2.2.2.2.1, y2.2.2.2.2.2.2.2.2.2.1, ()) K)) (b3Z b m (k + 1) - b3Z b m k) (b3Z b m k) (by omega) (Nat.le_refl _) (fun i2 h1 h2 => by omega) N (by omega)
  rw [← e0] at this
  refine this.trans ?_
  clear this
  by_cases g : d3R b (b3Z b m k) (b3Z b m (k + 1))
  ·rw [if_pos g]
   dsimp only
   rw [c7 (by omega) (by omega)]
   refine d5l hb hl hm hn hN K j (k + 1) (by omega) (by omega) ?_ ?_ q (by omega)
   ·intro k2 h2
    by_cases h3 : k2 = k
    ·subst h3; omega
    ·exact hr k2 (by omega)
   ·intro k2 h2
    by_cases h3 : k2 = k
    ·subst h3; exact g
    ·exact hg k2 (by omega)
  ·rw [if_neg g, if_neg ?_]
   intro h2
   exact g (h2.2 k (by omega))
abbrev Ow := (Int × Unit) ⊕ (Nat × Nat × List Int × Unit)
theorem d26 {b h : List Int} {n m a : Nat} (hl : b.length = m + n) (hm : m ≤ 255) (ha : a ≤ m) {L : Nat} {N : Nat} {β : Type} (K : Ow → Option β) : ∀ j i, a + i + j = m → (∀ i2, a ≤ i2 → i2 < a + i → b.getD i2 0 = 0) → ∀ q, j < q →
  m7 (v5 N) q (n, a, m - a, L, ((m - a : Nat) : Int), (i : Int), n * 256, h, b.length, b, ()) K
  = if ∀ i2, a ≤ i2 → i2 < m → b.getD i2 0 = 0 then K (.inr (n, n * 256, h, ())) else K (.inl (150, ()))
 | 0, i, hi, hz, q, hq => by
  obtain ⟨q, rfl⟩ : ∃ m, q = m + 1 := ⟨q - 1, by omega⟩
  rw [if_pos (fun i2 h1 h2 => hz i2 h1 (by omega))]
  simp only [m7]
  unfold v5
  dsimp only
  rw [if_neg (by omega)]
 | j + 1, i, hi, hz, q, hq => by
  obtain ⟨q, rfl⟩ : ∃ m, q = m + 1 := ⟨q - 1, by omega⟩
  simp only [m7]
  unfold v5
  dsimp only
  have ea : c2h a i = a + i := a2p a i
  rw [if_pos (by omega), if_pos (by omega), if_pos (by omega), Int.toNat_natCast, ea, if_pos (by omega), c7 (by omega) (by omega)]
  by_cases c : b.getD (a + i) 0 ≠ 0
  ·rw [if_pos c, if_neg ?_]
   exact fun h2 => c (h2 (a + i) (by omega) (by omega))
  ·rw [if_neg c]
   refine d26 (N := N) hl hm ha K j (i + 1) (by omega) ?_ q (by omega)
   intro i2 h1 h2
   by_cases h3 : i2 = a + i
   ·subst h3; omega
   ·exact hz i2 h1 (by omega)
theorem d7u {b : List Int} {m : Nat} : ∀ {n : Nat}, okR b m n → b3Z b m n ≤ m
 | 0, _ => Nat.zero_le _
 | n + 1, h => (h n (by omega)).2
theorem d8w {n m : Int} {b : List Int} : a42 [.int .i64, .int .i64, .sl (.int .u8)] (n, m, b, ()) ↔ (-9223372036854775808 ≤ n ∧ n ≤ 9223372036854775807) ∧ (-9223372036854775808 ≤ m ∧ m ≤ 9223372036854775807) ∧ (b.length ≤ maxLen ∧ ∀ z ∈ b, 0 ≤ z ∧ z ≤ 255) := by
 have : Kd.wf (.int .i64) n ↔ -9223372036854775808 ≤ n ∧ n ≤ 9223372036854775807 := u2
 have h2 : Kd.wf (.int .i64) m ↔ -9223372036854775808 ≤ m ∧ m ≤ 9223372036854775807 := u2
 simp only [a42, b2I, and_true, this, h2]
theorem b44 : ∀ x r, J8 x = some r → ∃ N, V4 N x = some r := by
 refine d9 (ks := C6) (rs := C7) fun x hw hq => ⟨400, ?_⟩
 obtain ⟨(n : Int), (most : Int), (b : List Int), u⟩ := x
 obtain ⟨h1, h2, hb⟩ := d8w.1 hw
 unfold V4 a8b
 dsimp only
 by_cases c1 : n < 0
 ·rw [if_pos c1, if_pos (.inl (.inl c1))]
 rw [if_neg c1]
 by_cases c2 : 16 < n
 ·rw [if_pos c2, if_pos (.inl (.inr c2))]
 rw [if_neg c2]
 by_cases c3 : most < 0
 ·rw [if_pos c3, if_pos (.inr (.inl (.inl c3)))]
 rw [if_neg c3]
 by_cases c4 : 255 < most
 ·rw [if_pos c4, if_pos (.inr (.inl (.inr c4)))]
 rw [if_neg c4, c7 (by omega) (by omega)]
 by_cases c5 : (b.length : Int) ≠ most + n
 ·rw [if_pos c5, if_pos (.inr (.inr c5))]
 rw [if_neg c5, if_neg (by omega : ¬((n < 0 ∨ 16 < n) ∨ (most < 0 ∨ 255 < most) ∨ (b.length : Int) ≠ most + n)), if_pos (by omega), if_pos rfl, if_pos (by omega)]
 obtain ⟨m, rfl⟩ : ∃ m : Nat, most = m := ⟨most.toNat, by omega⟩
 obtain ⟨n, rfl⟩ : ∃ m : Nat, n = m := ⟨n.toNat, by omega⟩
 rw [Int.toNat_natCast, Int.toNat_natCast]
 have hl : b.length = m + n := by omega
 refine (d5l hb.2 hl (by omega) (by omega) (N := 400) (by omega) _ n 0 (by omega) (Nat.zero_le _) (fun k hk => by omega) (fun k hk => by omega) 400 (by omega)).trans ?_
 by_cases h : okR b m n ∧ okG b m n
 ·have hc := d7u h.1
  rw [if_pos h]
  dsimp only
  rw [if_pos (by omega), if_pos (by omega), if_pos (by omega), Int.toNat_natCast, Int.toNat_natCast, if_pos (by omega)]
  have es : c9A m (b3Z b m n) = m - b3Z b m n := X0 _ _
  rw [es]
  refine (d26 (N := 400) hl (by omega) hc _ (m - b3Z b m n) 0 (by omega) (fun i2 h1 h2 => by omega) 400 (by omega)).trans ?_
  by_cases hz : ∀ i2, b3Z b m n ≤ i2 → i2 < m → b.getD i2 0 = 0
  ·rw [if_pos hz, if_pos ⟨h.1, h.2, hz⟩]
  ·rw [if_neg hz, if_neg (fun g => hz g.2.2)]
 ·rw [if_neg h, if_neg (fun g => h ⟨g.1, g.2.1⟩)]
theorem b5F (b : List Int) (k a : Nat) (h : List Int) : ∀ j, (b5E b k a h j).length = h.length
 | 0 => rfl
 | j + 1 => by rw [b5E, List.length_set, b5F b k a h j]
theorem c5K (b : List Int) (m : Nat) (h : List Int) : ∀ k, (b39 b m h k).length = h.length
 | 0 => rfl
 | k + 1 => by rw [b39, b5F, c5K b m h k]
theorem c88 {b : List Int} {k a : Nat} {h : List Int} (h0 : ∀ i, h.getD i 0 = 0 ∨ h.getD i 0 = 1) : ∀ j i, (b5E b k a h j).getD i 0 = 0 ∨ (b5E b k a h j).getD i 0 = 1
 | 0, i => h0 i
 | j + 1, i => by
  by_cases e : k * 256 + (b.getD (a + j) 0).toNat = i ∧ i < h.length
  ·rw [b5E, e.1, a2t (by rw [b5F]; exact e.2)]
   exact .inr rfl
  ·by_cases e2 : k * 256 + (b.getD (a + j) 0).toNat = i
   ·rw [b5y (by rw [b5F]; omega)]
    exact .inl rfl
   ·rw [b5E, getD_set_ne e2]
    exact c88 h0 j i
theorem c81 {b : List Int} {m : Nat} {h : List Int} (h0 : ∀ i, h.getD i 0 = 0 ∨ h.getD i 0 = 1) : ∀ k i, (b39 b m h k).getD i 0 = 0 ∨ (b39 b m h k).getD i 0 = 1
 | 0, i => h0 i
 | k + 1, i => by rw [b39]; exact c88 (c81 h0 k) _ i
def d9n (s : List Int) : Prop := s.Pairwise (· < ·)
theorem c6w (l : List Int) (k : Nat) : ∀ t, d9n (b3U (mkP l k) t) ∧ ∀ z ∈ b3U (mkP l k) t, 0 ≤ z ∧ z < t
 | 0 => ⟨List.Pairwise.nil, fun z hz => absurd hz (by simp [b3U])⟩
 | t + 1 => by
  obtain ⟨h1, h2⟩ := c6w l k t
  rw [b3U]
  unfold mkP
  split
  ·refine ⟨List.pairwise_append.2 ⟨h1, List.pairwise_singleton .., fun a ha c hc => ?_⟩, fun z hz => ?_⟩
   ·rw [List.mem_singleton] at hc
    have := h2 a ha
    omega
   ·rcases List.mem_append.1 hz with e | e
    ·have := h2 z e; omega
    ·rw [List.mem_singleton] at e; omega
  ·rw [List.append_nil]
   exact ⟨h1, fun z hz => by have := h2 z hz; omega⟩
theorem d6E (l : List Int) (k : Nat) : d9n (d5d l k) ∧ ∀ z ∈ d5d l k, 0 ≤ z ∧ z < 256 := c6w l k 256
end Go.Ax.TryP
