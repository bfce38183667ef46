/- A part of the proof: DeS, DeP, DeQ, DeQ2, DeQ3. -/
import Derived.Test.YtbcjbgjidddnaaaDsaB
set_option linter.unusedVariables false
namespace Go.Ax.TryP
open Go.Proofs
def c2Y (s : List Int) (t : Nat) : Int := shk s (3 * t) + 256 * shk s (3 * t + 1) + 65536 * (shk s (3 * t + 2) % 128)
def b1Z (s : List Int) (t : Nat) : List Int := if c2Y s t < 8380417 then [c2Y s t] else []
def a1w (f : Nat → List Int) : Nat → List Int
 | 0 => []
 | t + 1 => a1w f t ++ f t
@[irreducible] def d3z (s : List Int) : List Int × Int := if s.length ≠ 34 then (z256, 1) else if (a1w (b1Z s) 1024).length < 256 then (z256, 130) else ((a1w (b1Z s) 1024).take 256, 0)
def a8Q (s : List Int) (t : Nat) : Int := if t % 2 = 0 then shb s (t / 2) % 16 else shb s (t / 2) / 16
def d6t (eta h : Int) : List Int := if eta = 2 then (if h < 15 then [(2 - h % 5) % 8380417] else []) else (if h < 9 then [(4 - h) % 8380417] else [])
def a5W (eta : Int) (s : List Int) (t : Nat) : List Int := d6t eta (a8Q s t)
@[irreducible] def c9x (eta : Int) (s : List Int) : List Int × Int := if (eta ≠ 2 ∧ eta ≠ 4) ∨ s.length ≠ 66 then (z256, 1) else if (a1w (a5W eta s) 2048).length < 256 then (z256, 130) else ((a1w (a5W eta s) 2048).take 256, 0)
def c7H (w : Nat) (b : List Int) : List Int := o5 fun i => b7u w fun k => b3g b (i * w + k)
def a0t (top : Int) (w : Nat) (b : List Int) : List Int := o5 fun i => top - b7u w fun k => b3g b (i * w + k)
@[irreducible] def c6J (w : Int) (s : List Int) : List Int × Int := if (w ≠ 18 ∧ w ≠ 20) ∨ s.length ≠ 66 then (z256, 1) else (a0t (2 ^ (w - 1).toNat) w.toNat (a0l 136 31 s (32 * w.toNat)), 0)
noncomputable def a0d : List Int × Unit → Option (List Int × Int) := a0u (ks := [.sl (.int .u8)]) (rs := [.xs (.int .i32) 256, .int .i64]) (fun _ => True) fun x => d3z x.1
def c8i (eta h : Int) : Int × Bool := if eta = 2 ∧ h < 15 then (2 - h % 5, true) else if eta = 4 ∧ h < 9 then (4 - h, true) else (0, false)
noncomputable def a7p : Int × Int × Unit → Option (Int × Bool) := a0u (ks := [.int .i64, .int .u8]) (rs := [.int .i32, .bool]) (fun _ => True) fun x => c8i x.1 x.2.1
noncomputable def G2 : Int × List Int × Unit → Option (List Int × Int) := a0u (ks := [.int .i64, .sl (.int .u8)]) (rs := [.xs (.int .i32) 256, .int .i64]) (fun _ => True) fun x => c9x x.1 x.2.1
def wOk (w : Int) (b : List Int) : Prop := 1 ≤ w ∧ w ≤ 23 ∧ (b.length : Int) = 32 * w
noncomputable def a0e : Int × List Int × Unit → Option (List Int × Int) := a0u (ks := [.int .i64, .sl (.int .u8)]) (rs := [.xs (.int .i32) 256, .int .i64]) (fun x => wOk x.1 x.2.1) fun x => (c7H x.1.toNat x.2.1, 0)
noncomputable def R5 : Int × Int × Unit → Option Int := a0u (ks := [.int .i32, .rp (.int .i32)]) (rs := [.int .i32]) (fun x => 0 ≤ x.1 ∧ 0 ≤ x.2.1) fun x => x.2.1 - x.1
noncomputable def s8 : List Int × Int × Unit → Option (List Int) := a0u (ks := [.xs (.int .i32) 256, .fcl 58 .i32]) (rs := [.xs (.int .i32) 256]) (fun x => (∀ z ∈ x.1, 0 ≤ z) ∧ 0 ≤ x.2.1) fun x => o5 fun i => x.2.1 - x.1.getD i 0
noncomputable def j4 : Int × Int × List Int × Unit → Option (List Int × Int) := a0u (ks := [.int .i32, .int .i64, .sl (.int .u8)]) (rs := [.xs (.int .i32) 256, .int .i64]) (fun x => (0 ≤ x.1 ∧ x.1 < 8380417) ∧ wOk x.2.1 x.2.2.1) fun x => (a0t x.1 x.2.1.toNat x.2.2.1, 0)
noncomputable def a7o : Int × List Int × Unit → Option (List Int × Int) := a0u (ks := [.int .i64, .sl (.int .u8)]) (rs := [.xs (.int .i32) 256, .int .i64]) (fun _ => True) fun x => c6J x.1 x.2.1
def a5M (s : List Int) (i : Nat) : Nat → Nat → Nat
 | 0, at' => at'
 | n + 1, at' => if at' < 1032 ∧ (i : Int) < shb s at' then a5M s i n (at' + 1) else at'
def c2V (s : List Int) (n i at' : Nat) (c : List Int) : List Int := (c.set i (c.getD (shb s at').toNat 0)).set (shb s at').toNat (if c2W (shb s (n / 8)) (n % 8) = 1 then 8380416 else 1)
def b3f (tau : Nat) (s : List Int) : Nat → Option (List Int × Nat)
 | 0 => some (z256, 8)
 | k + 1 => match b3f tau s k with
  | none => none
  | some (c, at') => if a5M s (256 - tau + k) 1032 at' = 1032 then none else some (c2V s k (256 - tau + k) (a5M s (256 - tau + k) 1032 at') c, a5M s (256 - tau + k) 1032 at' + 1)
@[irreducible] def a4b (tau : Int) (s : List Int) : List Int × Int := if tau < 1 ∨ 64 < tau then (z256, 1) else match b3f tau.toNat s tau.toNat with
 | none => (z256, 130)
 | some (c, _) => (c, 0)
noncomputable def a48 : Int × List Int × Unit → Option (List Int × Int) := a0u (ks := [.int .i64, .sl (.int .u8)]) (rs := [.xs (.int .i32) 256, .int .i64]) (fun x => x.2.1.length ≤ 1000) fun x => a4b x.1 x.2.1
def b2S (f : Nat → List Int) : Nat → List Int
 | 0 => []
 | t + 1 => b2S f t ++ f t
def mkP (l : List Int) (k i : Nat) : List Int := if l.getD (k * 256 + i) 0 ≠ 0 then [(i : Int)] else []
def c5K (l : List Int) (k : Nat) : List Int := b2S (mkP l k) 256
def X6 (l : List Int) (n : Nat) : List Int := b2S (c5K l) n
def c7J (l : List Int) (k : Nat) : Int := ((X6 l (k + 1)).length : Int)
def b8H (l : List Int) (most : Int) : List Int × Int := if (l.length / 256 > 16 ∨ most < 0) ∨ 255 < most then ([], 1) else if most < ((X6 l (l.length / 256)).length : Int) then ([], 3) else
 (X6 l (l.length / 256) ++ List.replicate (most.toNat - (X6 l (l.length / 256)).length) 0 ++ (List.range (l.length / 256)).map (c7J l), 0)
def a7k (b : List Int) (m : Nat) : Nat → Nat
 | 0 => 0
 | k + 1 => (b.getD (m + k) 0).toNat
def a9Q (b : List Int) (k a : Nat) (h : List Int) : Nat → List Int
 | 0 => h
 | j + 1 => (a9Q b k a h j).set (k * 256 + (b.getD (a + j) 0).toNat) 1
def a8R (b : List Int) (m : Nat) (h : List Int) : Nat → List Int
 | 0 => h
 | k + 1 => a9Q b k (a7k b m k) (a8R b m h k) (a7k b m (k + 1) - a7k b m k)
def okR (b : List Int) (m n : Nat) : Prop := ∀ k, k < n → a7k b m k ≤ a7k b m (k + 1) ∧ a7k b m (k + 1) ≤ m
def d4V (b : List Int) (a e : Nat) : Prop := ∀ i, a < i → i < e → b.getD (i - 1) 0 < b.getD i 0
def okG (b : List Int) (m n : Nat) : Prop := ∀ k, k < n → d4V b (a7k b m k) (a7k b m (k + 1))
def okZ (b : List Int) (m n : Nat) : Prop := ∀ j, a7k b m n ≤ j → j < m → b.getD j 0 = 0
open Classical in
noncomputable def a8w (n most : Int) (b : List Int) : List Int × Int := if (n < 0 ∨ 16 < n) ∨ (most < 0 ∨ 255 < most) ∨ (b.length : Int) ≠ most + n then ([], 1) else
 if okR b most.toNat n.toNat ∧ okG b most.toNat n.toNat ∧ okZ b most.toNat n.toNat then (a8R b most.toNat (List.replicate (n.toNat * 256) 0) n.toNat, 0) else ([], 150)
noncomputable def a1j : List Int × Int × Unit → Option (List Int × Int) := a0u (ks := [.sla .bool 256, .int .i64]) (rs := [.sl (.int .u8), .int .i64]) (fun _ => True) fun x => b8H x.1 x.2.1
noncomputable def K5 : Int × Int × List Int × Unit → Option (List Int × Int) := a0u (ks := [.int .i64, .int .i64, .sl (.int .u8)]) (rs := [.sla .bool 256, .int .i64]) (fun _ => True) fun x => a8w x.1 x.2.1 x.2.2.1
end Go.Ax.TryP
set_option linter.unusedVariables false
namespace Go.Ax.TryP
open Go.Proofs
noncomputable def p_dring_RejNtt_E : AE := AE.of [(5, ty5), (21, ty21), (23, ty23), (35, ty35), (40, ty40)] [(63, R9), (64, S0)]
noncomputable def b0L : Hints := [(7, [2, 4, 5, 6, 17, 999999]), (2000000, [2]), (2000001, [2, 4, 5, 6, 17]), (3000000, [2, 3])]
noncomputable def a5C : Code := (Try.f46).body.getD .skip
noncomputable def b4L : Shape := mkS { tmps := V :: V :: .sc (.ptr 0 0 false) :: V :: .sc (.ptr 1 0 false) :: .sc (.ptr 2 0 false) :: .sc (.int .i64) :: pv 10 (.sc (.int .i64) :: pv 37 []), mem := [.live [.xs b32 (some 256)] (.own), .live [.xs b32 (some 256)] (.own), .live [.one (.bool), .xs (.int .u64) (some 25), .one (.int .i64), .one (.int .i64), .one (.int .i64)] (.own)] } [.int, .int, .xs, .xs, .bool, .xs, .int, .int, .int]
abbrev W19 : Type := Int × Int × List Int × List Int × Bool × List Int × Int × Int × Int × Unit
abbrev W20 : Type := (List Int × Unit) ⊕ (Int × List Int × Unit)
noncomputable def w9 (N : Nat) (β : Type) (x : W19) (kn : W19 → Option β) (ke : W20 → Option β) : Option β :=
 if (x.2.1 < (1024:Int)) then
  (o3 ((x.2.2.2.2.1, x.2.2.2.2.2.1, x.2.2.2.2.2.2.1, x.2.2.2.2.2.2.2.1, x.2.2.2.2.2.2.2.2.1, ()), (3:Int), ())).bind fun r2 => (
  if (r2.2.1 ≠ (0:Int)) then
   ke (.inl (x.2.2.1, ()))
  else
   if 0 ≤ (0:Int) then (
   if (0:Int) < (((List.length r2.1) : Nat) : Int) then (
   if 0 < (List.length r2.1) then (
   if 0 ≤ (1:Int) then (
   if (1:Int) < (((List.length r2.1) : Nat) : Int) then (
   if 1 < (List.length r2.1) then (
   if 0 ≤ (2:Int) then (
   if (2:Int) < (((List.length r2.1) : Nat) : Int) then (
   if 2 < (List.length r2.1) then (
   if ((ior IntKind.i32 (ior IntKind.i32 (IntKind.i32.wrap (List.getD r2.1 0 0)) (b0Z IntKind.i32 (IntKind.i32.wrap (List.getD r2.1 1 0)) (8:Int))) (b0Z IntKind.i32 (IntKind.i32.wrap (b87 IntKind.u8 (List.getD r2.1 2 0) (127:Int))) (16:Int))) ≥ (8380417:Int)) then
    kn (x.1, (IntKind.i64.wrap (x.2.1 + (1:Int))), x.2.2.1, x.2.2.2.1, (decide (r2.2.2.1 = true)), r2.2.2.2.1, r2.2.2.2.2.1, r2.2.2.2.2.2.1, r2.2.2.2.2.2.2.1, ())
   else
    if 0 ≤ x.1 then (
    if x.1 < 256 then (
    if (x.1.toNat) < 256 then (
    if ((IntKind.i64.wrap (x.1 + (1:Int))) = (256:Int)) then
     ke (.inr ((0:Int), (List.set x.2.2.2.1 (x.1.toNat) (ior IntKind.i32 (ior IntKind.i32 (IntKind.i32.wrap (List.getD r2.1 0 0)) (b0Z IntKind.i32 (IntKind.i32.wrap (List.getD r2.1 1 0)) (8:Int))) (b0Z IntKind.i32 (IntKind.i32.wrap (b87 IntKind.u8 (List.getD r2.1 2 0) (127:Int))) (16:Int)))), ()))
    else
     kn ((IntKind.i64.wrap (x.1 + (1:Int))), (IntKind.i64.wrap (x.2.1 + (1:Int))), x.2.2.1, (List.set x.2.2.2.1 (x.1.toNat) (ior IntKind.i32 (ior IntKind.i32 (IntKind.i32.wrap (List.getD r2.1 0 0)) (b0Z IntKind.i32 (IntKind.i32.wrap (List.getD r2.1 1 0)) (8:Int))) (b0Z IntKind.i32 (IntKind.i32.wrap (b87 IntKind.u8 (List.getD r2.1 2 0) (127:Int))) (16:Int)))), (decide (r2.2.2.1 = true)), r2.2.2.2.1, r2.2.2.2.2.1, r2.2.2.2.2.2.1, r2.2.2.2.2.2.2.1, ())) else none) else none) else none) else none) else none) else none) else none) else none) else none) else none) else none) else none)
 else
  ke (.inl (x.2.2.1, ()))
noncomputable def b3s : Go' W20 := fun y K => match y with
 | .inl y => K (.exit 0) (fSt { tmps := V :: V :: .sc (.ptr 0 0 false) :: pv 52 [], mem := [.live [.xs b32 (some 256)] (.own)] } [.xs] y)
 | .inr y => K .ret (fSt { tmps := V :: V :: .sc (.ptr 0 0 false) :: .sc (.int .i64) :: pv 51 [], mem := [.live [.xs b32 (some 256)] (.own)] } [.int, .xs] y)
noncomputable def a6D (N : Nat) : LT := upd (LT.nil) 7 (o9 b4L N (w9 N) b3s)
theorem b3t (N : Nat) : OkAll p_dring_RejNtt_E b0L N (a6D N) (x4 a5C) :=
 d7 (c := d8 7 a5C) (OkAll.nil) (by kernel_rfl) (fun x => by kernel_rfl) (fun β x kn ke => by kernel_rfl)
abbrev S5 : List Kd := [.sl b8]
abbrev S6 : List Kd := [.xs b32 256, .int .i64]
noncomputable def a4I (N : Nat) (x : List Int × Unit) : Option (List Int × Int) :=
 if ((((List.length x.1) : Nat) : Int) ≠ (34:Int)) then
  some ((List.replicate 256 0), (1:Int))
 else
  (D6 ([x.1], ())).bind fun r1 => (
  m9 (w9 N) N ((0:Int), (0:Int), (List.replicate 256 0), (List.replicate 256 0), (decide (r1.1 = true)), r1.2.1, r1.2.2.1, r1.2.2.2.1, r1.2.2.2.2.1, ()) fun y => (match y with
  | .inl y3 => (
   some ((List.replicate 256 0), (130:Int)))
  | .inr y4 => (
   some (y4.2.1, y4.1))))
theorem b6t (e0 : c8 Try.prog 63 R9) (e1 : c8 Try.prog 64 S0) : p_dring_RejNtt_E.Ok Try.prog := AE.of_ok (all_cons Z8 (all_cons u6 (all_cons G0 (all_cons a2P (all_cons s5 c6))))) (all_cons ⟨e0, a3X⟩ (all_cons ⟨e1, a3Y⟩ c6))
theorem b8g (hE : p_dring_RejNtt_E.Ok Try.prog) {g : Ds S5 → Option (Rs S6)} (hg : ∀ x r, g x = some r → ∃ N, a4I N x = some r) : c8 Try.prog 46 ⟨S5, S6, g⟩ :=
 i6 (E := p_dring_RejNtt_E) (H := b0L) (L := fun N => a6D N) (c := a5C) (ks := S5) (rs := S6) (F := a4I) hE mix Try.func46 (by kernel_rfl) (fun N => b3t N) (fun _ _ => by kernel_rfl) hg
noncomputable def p_dring_half_E : AE := AE.of [(5, ty5), (21, ty21)] []
noncomputable def c3a : Hints := [(2000000, []), (3000000, [4, 5])]
noncomputable def c3b : Code := (Try.f44).body.getD .skip
abbrev a0U : List Kd := [.int .i64, .int .u8]
abbrev a0V : List Kd := [.int .i32, .bool]
noncomputable def a7z (N : Nat) (x : Int × Int × Unit) : Option (Int × Bool) :=
 if (x.1 = (2:Int)) then
  if (x.2.1 < (15:Int)) then
   some ((IntKind.i32.wrap ((2:Int) - (IntKind.i32.wrap (Int.tmod x.2.1 (5:Int))))), true)
  else
   if (x.1 = (4:Int)) then
    if (x.2.1 < (9:Int)) then
     some ((IntKind.i32.wrap ((4:Int) - (IntKind.i32.wrap x.2.1))), true)
    else
     some ((0:Int), false)
   else
    some ((0:Int), false)
 else
  if (x.1 = (4:Int)) then
   if (x.2.1 < (9:Int)) then
    some ((IntKind.i32.wrap ((4:Int) - (IntKind.i32.wrap x.2.1))), true)
   else
    some ((0:Int), false)
  else
   some ((0:Int), false)
theorem b9W : p_dring_half_E.Ok Try.prog := AE.of_ok (all_cons Z8 (all_cons u6 c6)) c6
theorem c14 (hE : p_dring_half_E.Ok Try.prog) {g : Ds a0U → Option (Rs a0V)} (hg : ∀ x r, g x = some r → ∃ N, a7z N x = some r) : c8 Try.prog 44 ⟨a0U, a0V, g⟩ :=
 i6 (E := p_dring_half_E) (H := c3a) (L := fun N => LT.nil) (c := c3b) (ks := a0U) (rs := a0V) (F := a7z) hE mix Try.func44 (by kernel_rfl) (fun N => OkAll.nil) (fun _ _ => by kernel_rfl) hg
noncomputable abbrev E3 : Sig := ⟨[.int .i64, .int .i64, .sls b8], [.sl b8, .int .i64], v5⟩
noncomputable abbrev b1r : Sig := ⟨[.int .i64, .int .u8], [.int .i32, .bool], a7p⟩
noncomputable def p_dring_RejBounded_E : AE := AE.of [(2, ty2), (5, ty5), (21, ty21), (23, ty23), (35, ty35), (40, ty40), (83, ty83)] [(42, E3), (44, b1r), (45, i8)]
noncomputable def a1G : Hints := [(9, [0, 4, 6, 9, 37, 38, 39]), (12, [0, 4, 6, 9, 37, 38, 39, 47, 48]), (2000000, [4]), (2000001, [0, 4, 6, 9, 37, 38, 39]), (2000002, [0, 4, 6, 9, 37, 38, 39]), (2000003, [0, 4, 6, 9, 37, 38, 39, 47, 48]), (3000000, [4, 5])]
noncomputable def H9 : Code := (Try.f15).body.getD .skip
noncomputable def a82 : Shape := mkS { tmps := .sc (.int .i64) :: pv 3 (.sc (.ptr 0 0 false) :: V :: .sc (.ptr 1 0 false) :: V :: V :: .sc (.int .i64) :: pv 27 (.sc (.vec 2 none 1) :: .sc (.int .i64) :: .sc (.int .i64) :: pv 7 (.agg [.xs b8 (some 2)] :: .sc (.int .i64) :: pv 23 []))), mem := [.live [.xs b32 (some 256)] (.own), .live [.xs b32 (some 256)] (.own), .live [.xs b8 none] (.own)] } [.int, .int, .nat, .int, .int, .xs, .int, .xs, .xs, .nat, .xs]
abbrev W21 : Type := Int × Int × Nat × Int × Int × List Int × Int × List Int × List Int × Nat × List Int × Unit
abbrev W22 : Type := (Int × List Int × Unit) ⊕ (Int × Int × Nat × Int × Int × List Int × List Int × Nat × List Int × Unit)
noncomputable def s6 (N : Nat) (β : Type) (x : W21) (kn : W21 → Option β) (ke : W22 → Option β) : Option β :=
 if (x.2.2.2.2.2.2.1 < (2:Int)) then
  if 0 ≤ x.2.2.2.2.2.2.1 then (
  if x.2.2.2.2.2.2.1 < 2 then (
  if (x.2.2.2.2.2.2.1.toNat) < 2 then (
  (a7p (x.1, (List.getD x.2.2.2.2.2.1 (x.2.2.2.2.2.2.1.toNat) 0), ())).bind fun r2 => (
  if (¬ (r2.2 = true)) then
   kn (x.1, x.2.1, x.2.2.1, x.2.2.2.1, x.2.2.2.2.1, x.2.2.2.2.2.1, (IntKind.i64.wrap (x.2.2.2.2.2.2.1 + (1:Int))), x.2.2.2.2.2.2.2.1, x.2.2.2.2.2.2.2.2.1, x.2.2.2.2.2.2.2.2.2.1, x.2.2.2.2.2.2.2.2.2.2.1, ())
  else
   (u3 ((IntKind.i64.wrap r2.1), ())).bind fun r3 => (
   if 0 ≤ x.2.1 then (
   if x.2.1 < 256 then (
   if (x.2.1.toNat) < 256 then (
   if ((IntKind.i64.wrap (x.2.1 + (1:Int))) = (256:Int)) then
    ke (.inl ((0:Int), (List.set x.2.2.2.2.2.2.2.2.1 (x.2.1.toNat) r3), ()))
   else
    kn (x.1, (IntKind.i64.wrap (x.2.1 + (1:Int))), x.2.2.1, x.2.2.2.1, x.2.2.2.2.1, x.2.2.2.2.2.1, (IntKind.i64.wrap (x.2.2.2.2.2.2.1 + (1:Int))), x.2.2.2.2.2.2.2.1, (List.set x.2.2.2.2.2.2.2.2.1 (x.2.1.toNat) r3), x.2.2.2.2.2.2.2.2.2.1, x.2.2.2.2.2.2.2.2.2.2.1, ())) else none) else none) else none))) else none) else none) else none
 else
  ke (.inr (x.1, x.2.1, x.2.2.1, x.2.2.2.1, x.2.2.2.2.1, x.2.2.2.2.2.2.2.1, x.2.2.2.2.2.2.2.2.1, x.2.2.2.2.2.2.2.2.2.1, x.2.2.2.2.2.2.2.2.2.2.1, ()))
noncomputable def a79 : Go' W22 := fun y K => match y with
 | .inl y => K .ret (fSt { tmps := pv 4 (.sc (.ptr 0 0 false) :: .sc (.int .i64) :: pv 66 []), mem := [.live [.xs b32 (some 256)] (.own)] } [.int, .xs] y)
 | .inr y => K (.exit 2) (fSt { tmps := .sc (.int .i64) :: pv 3 (.sc (.ptr 0 0 false) :: V :: .sc (.ptr 1 0 false) :: V :: V :: .sc (.int .i64) :: pv 27 (.sc (.vec 2 none 1) :: .sc (.int .i64) :: .sc (.int .i64) :: pv 32 [])), mem := [.live [.xs b32 (some 256)] (.own), .live [.xs b32 (some 256)] (.own), .live [.xs b8 none] (.own)] } [.int, .int, .nat, .int, .int, .xs, .xs, .nat, .xs] y)
noncomputable def a2X (N : Nat) : LT := upd (LT.nil) 12 (o9 a82 N (s6 N) a79)
theorem a8a (N : Nat) : OkAll p_dring_RejBounded_E a1G N (a2X N) (x4 H9) :=
 d7 (c := d8 12 H9) (OkAll.nil) (by kernel_rfl) (fun x => by kernel_rfl) (fun β x kn ke => by kernel_rfl)
noncomputable def a97 : Shape := mkS { tmps := .sc (.int .i64) :: pv 3 (.sc (.ptr 0 0 false) :: V :: .sc (.ptr 1 0 false) :: V :: V :: .sc (.int .i64) :: pv 27 (.sc (.vec 2 none 1) :: .sc (.int .i64) :: .sc (.int .i64) :: pv 32 [])), mem := [.live [.xs b32 (some 256)] (.own), .live [.xs b32 (some 256)] (.own), .live [.xs b8 none] (.own)] } [.int, .int, .nat, .int, .int, .xs, .xs, .nat, .xs]
abbrev W23 : Type := Int × Int × Nat × Int × Int × List Int × List Int × Nat × List Int × Unit
abbrev W24 : Type := (Int × List Int × Unit) ⊕ (List Int × Unit)
noncomputable def j8 (N : Nat) (β : Type) (x : W23) (kn : W23 → Option β) (ke : W24 → Option β) : Option β :=
 if (x.2.2.2.2.1 < x.2.2.2.1) then
  if 0 ≤ x.2.2.2.2.1 then (
  if x.2.2.2.2.1 < ((x.2.2.1 : Nat) : Int) then (
  if (x.2.2.2.2.1.toNat) < x.2.2.2.2.2.2.2.1 then (
  m9 (s6 N) N (x.1, x.2.1, x.2.2.1, x.2.2.2.1, x.2.2.2.2.1, (List.set (List.set (List.replicate 2 0) 0 (b87 IntKind.u8 (List.getD x.2.2.2.2.2.2.2.2.1 (x.2.2.2.2.1.toNat) 0) (15:Int))) 1 (b9D IntKind.u8 (List.getD x.2.2.2.2.2.2.2.2.1 (x.2.2.2.2.1.toNat) 0) (4:Int))), (0:Int), x.2.2.2.2.2.1, x.2.2.2.2.2.2.1, x.2.2.2.2.2.2.2.1, x.2.2.2.2.2.2.2.2.1, ()) fun y => (match y with
  | .inl y4 => (
   ke (.inl (y4.1, y4.2.1, ())))
  | .inr y5 => (
   kn (y5.1, y5.2.1, y5.2.2.1, y5.2.2.2.1, (IntKind.i64.wrap (y5.2.2.2.2.1 + (1:Int))), y5.2.2.2.2.2.1, y5.2.2.2.2.2.2.1, y5.2.2.2.2.2.2.2.1, y5.2.2.2.2.2.2.2.2.1, ())))) else none) else none) else none
 else
  ke (.inr (x.2.2.2.2.2.1, ()))
noncomputable def a83 : Go' W24 := fun y K => match y with
 | .inl y => K .ret (fSt { tmps := pv 4 (.sc (.ptr 0 0 false) :: .sc (.int .i64) :: pv 66 []), mem := [.live [.xs b32 (some 256)] (.own)] } [.int, .xs] y)
 | .inr y => K (.exit 0) (fSt { tmps := pv 4 (.sc (.ptr 0 0 false) :: pv 67 []), mem := [.live [.xs b32 (some 256)] (.own)] } [.xs] y)
noncomputable def a3u (N : Nat) : LT := upd (a2X N) 9 (o9 a97 N (j8 N) a83)
theorem a84 (N : Nat) : OkAll p_dring_RejBounded_E a1G N (a3u N) (x4 H9) :=
 d7 (c := d8 9 H9) (a8a N) (by kernel_rfl) (fun x => by kernel_rfl) (fun β x kn ke => by kernel_rfl)
abbrev E9 : List Kd := [.int .i64, .sl b8]
abbrev F0 : List Kd := [.xs b32 256, .int .i64]
noncomputable def a0o (N : Nat) (x : Int × List Int × Unit) : Option (List Int × Int) :=
 if (x.1 ≠ (2:Int)) then
  if (x.1 ≠ (4:Int)) then
   some ((List.replicate 256 0), (1:Int))
  else
   if ((((List.length x.2.1) : Nat) : Int) ≠ (66:Int)) then
    some ((List.replicate 256 0), (1:Int))
   else
    (v5 ((256:Int), (1024:Int), [x.2.1], ())).bind fun r1 => (
    if (r1.2 ≠ (0:Int)) then
     some ((List.replicate 256 0), (130:Int))
    else
     m9 (j8 N) N (x.1, (0:Int), (List.length r1.1), (((List.length r1.1) : Nat) : Int), (0:Int), (List.replicate 256 0), (List.replicate 256 0), (List.length r1.1), r1.1, ()) fun y => (match y with
     | .inl y6 => (
      some (y6.2.1, y6.1))
     | .inr y7 => (
      some ((List.replicate 256 0), (130:Int)))))
 else
  if ((((List.length x.2.1) : Nat) : Int) ≠ (66:Int)) then
   some ((List.replicate 256 0), (1:Int))
  else
   (v5 ((256:Int), (1024:Int), [x.2.1], ())).bind fun r8 => (
   if (r8.2 ≠ (0:Int)) then
    some ((List.replicate 256 0), (130:Int))
   else
    m9 (j8 N) N (x.1, (0:Int), (List.length r8.1), (((List.length r8.1) : Nat) : Int), (0:Int), (List.replicate 256 0), (List.replicate 256 0), (List.length r8.1), r8.1, ()) fun y => (match y with
    | .inl y9 => (
     some (y9.2.1, y9.1))
    | .inr y10 => (
     some ((List.replicate 256 0), (130:Int)))))
theorem b09 (e0 : c8 Try.prog 42 E3) (e1 : c8 Try.prog 44 b1r) (e2 : c8 Try.prog 45 i8) : p_dring_RejBounded_E.Ok Try.prog := AE.of_ok (all_cons a9v (all_cons Z8 (all_cons u6 (all_cons G0 (all_cons a2P (all_cons s5 (all_cons d71 c6))))))) (all_cons ⟨e0, U6⟩ (all_cons ⟨e1, b7L⟩ (all_cons ⟨e2, o7⟩ c6)))
theorem b2g (hE : p_dring_RejBounded_E.Ok Try.prog) {g : Ds E9 → Option (Rs F0)} (hg : ∀ x r, g x = some r → ∃ N, a0o N x = some r) : c8 Try.prog 15 ⟨E9, F0, g⟩ :=
 i6 (E := p_dring_RejBounded_E) (H := a1G) (L := fun N => a3u N) (c := H9) (ks := E9) (rs := F0) (F := a0o) hE mix Try.func15 (by kernel_rfl) (fun N => a84 N) (fun _ _ => by kernel_rfl) hg
noncomputable def p_dring_Unpack_E : AE := AE.of [(5, ty5), (21, ty21), (23, ty23), (40, ty40)] []
noncomputable def a5D : Hints := [(5, [0, 1, 4, 6, 24]), (8, [0, 1, 4, 6, 7, 24, 27, 28]), (2000000, [4, 6]), (2000001, [0, 1, 4, 6, 24]), (2000002, [0, 1, 4, 6, 24]), (2000003, [0, 1, 4, 6, 7, 24, 27, 28]), (3000000, [4, 5])]
noncomputable def Y5 : Code := (Try.f35).body.getD .skip
noncomputable def b4N : Shape := mkS { tmps := .sc (.int .i64) :: .sc (.vec 0 none 1) :: V :: V :: .sc (.ptr 1 0 false) :: V :: .sc (.ptr 2 0 false) :: .sc (.int .i64) :: pv 16 (.sc (.int .i64) :: V :: V :: .sc (.int .i64) :: .sc (.int .i64) :: pv 27 []), mem := [.live [.xs b8 none] (.ro), .live [.xs b32 (some 256)] (.own), .live [.xs b32 (some 256)] (.own)] } [.int, .nat, .int, .int, .int, .int, .nat, .xs, .xs, .xs]
abbrev W25 : Type := Int × Nat × Int × Int × Int × Int × Nat × List Int × List Int × List Int × Unit
abbrev W26 : Type := Int × Nat × Int × Nat × List Int × List Int × List Int × Unit
noncomputable def L6 (N : Nat) (β : Type) (x : W25) (kn : W25 → Option β) (ke : W26 → Option β) : Option β :=
 if (x.2.2.2.2.2.1 < x.2.2.2.2.1) then
  if 0 ≤ x.2.2.1 then (
  if x.2.2.1 < 256 then (
  if (x.2.2.1.toNat) < 256 then (
  if 0 ≤ (IntKind.i64.wrap (Int.tdiv (IntKind.i64.wrap ((IntKind.i64.wrap (x.2.2.1 * x.1)) + x.2.2.2.2.2.1)) (8:Int))) then (
  if (IntKind.i64.wrap (Int.tdiv (IntKind.i64.wrap ((IntKind.i64.wrap (x.2.2.1 * x.1)) + x.2.2.2.2.2.1)) (8:Int))) < ((x.2.1 : Nat) : Int) then (
  if ((IntKind.i64.wrap (Int.tdiv (IntKind.i64.wrap ((IntKind.i64.wrap (x.2.2.1 * x.1)) + x.2.2.2.2.2.1)) (8:Int))).toNat) < x.2.2.2.2.2.2.1 then (
  if (Int.tmod (IntKind.i64.wrap ((IntKind.i64.wrap (x.2.2.1 * x.1)) + x.2.2.2.2.2.1)) (8:Int)) < 0 then none else (
  if x.2.2.2.2.2.1 < 0 then none else (
  if 0 ≤ x.2.2.1 then (
  if x.2.2.1 < 256 then (
  if (x.2.2.1.toNat) < 256 then (
  kn (x.1, x.2.1, x.2.2.1, x.2.2.2.1, x.2.2.2.2.1, (IntKind.i64.wrap (x.2.2.2.2.2.1 + (1:Int))), x.2.2.2.2.2.2.1, x.2.2.2.2.2.2.2.1, x.2.2.2.2.2.2.2.2.1, (List.set x.2.2.2.2.2.2.2.2.2.1 (x.2.2.1.toNat) (ior IntKind.i32 (List.getD x.2.2.2.2.2.2.2.2.2.1 (x.2.2.1.toNat) 0) (b0Z IntKind.i32 (IntKind.i32.wrap (b87 IntKind.u8 (b9D IntKind.u8 (List.getD x.2.2.2.2.2.2.2.1 ((IntKind.i64.wrap (Int.tdiv (IntKind.i64.wrap ((IntKind.i64.wrap (x.2.2.1 * x.1)) + x.2.2.2.2.2.1)) (8:Int))).toNat) 0) (Int.tmod (IntKind.i64.wrap ((IntKind.i64.wrap (x.2.2.1 * x.1)) + x.2.2.2.2.2.1)) (8:Int))) (1:Int))) x.2.2.2.2.2.1))), ())) else none) else none) else none))) else none) else none) else none) else none) else none) else none
 else
  ke (x.1, x.2.1, x.2.2.2.1, x.2.2.2.2.2.2.1, x.2.2.2.2.2.2.2.1, x.2.2.2.2.2.2.2.2.1, x.2.2.2.2.2.2.2.2.2.1, ())
noncomputable def b3y : Go' W26 := fun y K => K (.exit 2) (fSt { tmps := .sc (.int .i64) :: .sc (.vec 0 none 1) :: V :: V :: .sc (.ptr 1 0 false) :: V :: .sc (.ptr 2 0 false) :: pv 17 (.sc (.int .i64) :: pv 31 []), mem := [.live [.xs b8 none] (.ro), .live [.xs b32 (some 256)] (.own), .live [.xs b32 (some 256)] (.own)] } [.int, .nat, .int, .nat, .xs, .xs, .xs] y)
noncomputable def a6F (N : Nat) : LT := upd (LT.nil) 8 (o9 b4N N (L6 N) b3y)
theorem b3z (N : Nat) : OkAll p_dring_Unpack_E a5D N (a6F N) (x4 Y5) :=
 d7 (c := d8 8 Y5) (OkAll.nil) (by kernel_rfl) (fun x => by kernel_rfl) (fun β x kn ke => by kernel_rfl)
noncomputable def b4M : Shape := mkS { tmps := .sc (.int .i64) :: .sc (.vec 0 none 1) :: V :: V :: .sc (.ptr 1 0 false) :: V :: .sc (.ptr 2 0 false) :: pv 17 (.sc (.int .i64) :: pv 31 []), mem := [.live [.xs b8 none] (.ro), .live [.xs b32 (some 256)] (.own), .live [.xs b32 (some 256)] (.own)] } [.int, .nat, .int, .nat, .xs, .xs, .xs]
noncomputable def E0 (N : Nat) (β : Type) (x : W26) (kn : W26 → Option β) (ke : W5 → Option β) : Option β :=
 if (x.2.2.1 < (256:Int)) then
  m9 (L6 N) N (x.1, x.2.1, x.2.2.1, x.2.2.1, x.1, (0:Int), x.2.2.2.1, x.2.2.2.2.1, x.2.2.2.2.2.1, x.2.2.2.2.2.2.1, ()) fun y1 => (
  kn (y1.1, y1.2.1, (IntKind.i64.wrap (y1.2.2.1 + (1:Int))), y1.2.2.2.1, y1.2.2.2.2.1, y1.2.2.2.2.2.1, y1.2.2.2.2.2.2.1, ()))
 else
  ke (x.2.2.2.2.2.1, x.2.2.2.2.2.2.1, ())
noncomputable def b3w : Go' W5 := fun y K => K (.exit 0) (fSt { tmps := pv 4 (.sc (.ptr 0 0 false) :: V :: .sc (.ptr 1 0 false) :: pv 49 []), mem := [.live [.xs b32 (some 256)] (.own), .live [.xs b32 (some 256)] (.own)] } [.xs, .xs] y)
noncomputable def a6E (N : Nat) : LT := upd (a6F N) 5 (o9 b4M N (E0 N) b3w)
theorem b3x (N : Nat) : OkAll p_dring_Unpack_E a5D N (a6E N) (x4 Y5) :=
 d7 (c := d8 5 Y5) (b3z N) (by kernel_rfl) (fun x => by kernel_rfl) (fun β x kn ke => by kernel_rfl)
abbrev S7 : List Kd := [.int .i64, .sl b8]
abbrev S8 : List Kd := [.xs b32 256, .int .i64]
noncomputable def a4J (N : Nat) (x : Int × List Int × Unit) : Option (List Int × Int) :=
 if (x.1 < (1:Int)) then
  some ((List.replicate 256 0), (1:Int))
 else
  if (x.1 > (23:Int)) then
   some ((List.replicate 256 0), (1:Int))
  else
   if ((((List.length x.2.1) : Nat) : Int) ≠ (IntKind.i64.wrap ((32:Int) * x.1))) then
    some ((List.replicate 256 0), (1:Int))
   else
    m9 (E0 N) N (x.1, (List.length x.2.1), (0:Int), (List.length x.2.1), x.2.1, (List.replicate 256 0), (List.replicate 256 0), ()) fun y2 => (
    some (y2.2.1, (0:Int)))
theorem b6v : p_dring_Unpack_E.Ok Try.prog := AE.of_ok (all_cons Z8 (all_cons u6 (all_cons G0 (all_cons s5 c6)))) c6
theorem b8j (hE : p_dring_Unpack_E.Ok Try.prog) {g : Ds S7 → Option (Rs S8)} (hg : ∀ x r, g x = some r → ∃ N, a4J N x = some r) : c8 Try.prog 35 ⟨S7, S8, g⟩ :=
 i6 (E := p_dring_Unpack_E) (H := a5D) (L := fun N => a6E N) (c := Y5) (ks := S7) (rs := S8) (F := a4J) hE mix Try.func35 (by kernel_rfl) (fun N => b3x N) (fun _ _ => by kernel_rfl) hg
noncomputable def p_dring_UnpackFrom_1_E : AE := AE.of [(21, ty21)] []
noncomputable def b1a : Hints := [(3000000, [3])]
noncomputable def b1b : Code := (Try.f58).body.getD .skip
abbrev B0 : List Kd := [.int .i32, .rp (.int .i32)]
abbrev V3 : List Kd := [.int .i32]
noncomputable def R6 (N : Nat) (x : Int × Int × Unit) : Option (Int) :=
 some (IntKind.i32.wrap ((List.getD [x.2.1] 0 0) - x.1))
theorem a85 : p_dring_UnpackFrom_1_E.Ok Try.prog := AE.of_ok (all_cons u6 c6) c6
theorem b0a (hE : p_dring_UnpackFrom_1_E.Ok Try.prog) {g : Ds B0 → Option (Rs [.int .i32])} (hg : ∀ x r, g x = some r → ∃ N, R6 N x = some r) : c8 Try.prog 58 ⟨B0, [.int .i32], g⟩ :=
 i6 (E := p_dring_UnpackFrom_1_E) (H := b1a) (L := fun N => LT.nil) (c := b1b) (ks := B0) (rs := V3) (F := R6) hE mix Try.func58 (by kernel_rfl) (fun N => OkAll.nil) (fun _ _ => by kernel_rfl) hg
noncomputable abbrev a1C : Sig := ⟨[.int .i32, .rp (.int .i32)], [.int .i32], R5⟩
noncomputable def p_dring_each__dring_UnpackFrom_1_E : AE := AE.of [(21, ty21), (40, ty40)] [(58, a1C)]
noncomputable def N1 : Hints := [(2, [1, 2, 4, 7, 8]), (2000000, [2, 4]), (2000001, [1, 2, 4, 7, 8]), (3000000, [4])]
noncomputable def A4 : Code := (Try.f57).body.getD .skip
noncomputable def a1H : Shape := mkS { tmps := V :: .sc (.clo 58 0 0) :: .sc (.ptr 1 0 false) :: V :: .sc (.ptr 2 0 false) :: V :: V :: .agg [.xs b32 (some 256)] :: .sc (.int .i64) :: pv 10 [], mem := [.live [.xs b32 (some 1)] (.ro), .live [.xs b32 (some 256)] (.own), .live [.xs b32 (some 256)] (.own)] } [.xs, .int, .xs, .xs, .xs]
noncomputable def i7 (N : Nat) (β : Type) (x : W6) (kn : W6 → Option β) (ke : W5 → Option β) : Option β :=
 if (x.2.1 < (256:Int)) then
  if 0 ≤ x.2.1 then (
  if x.2.1 < 256 then (
  if (x.2.1.toNat) < 256 then (
  (R5 ((List.getD x.1 (x.2.1.toNat) 0), (List.getD x.2.2.1 0 0), ())).bind fun r1 => (
  if 0 ≤ x.2.1 then (
  if x.2.1 < 256 then (
  if (x.2.1.toNat) < 256 then (
  kn (x.1, (IntKind.i64.wrap (x.2.1 + (1:Int))), x.2.2.1, (List.set x.2.2.2.1 (x.2.1.toNat) r1), x.2.2.2.2.1, ())) else none) else none) else none)) else none) else none) else none
 else
  ke (x.2.2.2.1, x.2.2.2.2.1, ())
noncomputable def a1p : Go' W5 := fun y K => K (.exit 0) (fSt { tmps := V :: V :: .sc (.ptr 0 0 false) :: V :: .sc (.ptr 1 0 false) :: pv 14 [], mem := [.live [.xs b32 (some 256)] (.own), .live [.xs b32 (some 256)] (.own)] } [.xs, .xs] y)
noncomputable def I0 (N : Nat) : LT := upd (LT.nil) 2 (o9 a1H N (i7 N) a1p)
theorem a1q (N : Nat) : OkAll p_dring_each__dring_UnpackFrom_1_E N1 N (I0 N) (x4 A4) :=
 d7 (c := d8 2 A4) (OkAll.nil) (by kernel_rfl) (fun x => by kernel_rfl) (fun β x kn ke => by kernel_rfl)
abbrev j5 : List Kd := [.xs b32 256, .fcl 58 .i32]
abbrev j6 : List Kd := [.xs b32 256]
noncomputable def s9 (N : Nat) (x : List Int × Int × Unit) : Option (List Int) :=
 m9 (i7 N) N (x.1, (0:Int), [x.2.1], x.1, (List.replicate 256 0), ()) fun y2 => (
 some y2.1)
theorem a1Z (e0 : c8 Try.prog 58 a1C) : p_dring_each__dring_UnpackFrom_1_E.Ok Try.prog := AE.of_ok (all_cons u6 (all_cons s5 c6)) (all_cons ⟨e0, a70⟩ c6)
theorem a2L (hE : p_dring_each__dring_UnpackFrom_1_E.Ok Try.prog) {g : Ds j5 → Option (Rs j6)} (hg : ∀ x r, g x = some r → ∃ N, s9 N x = some r) : c8 Try.prog 57 ⟨j5, j6, g⟩ :=
 i6 (E := p_dring_each__dring_UnpackFrom_1_E) (H := N1) (L := fun N => I0 N) (c := A4) (ks := j5) (rs := j6) (F := s9) hE mix Try.func57 (by kernel_rfl) (fun N => a1q N) (fun _ _ => by kernel_rfl) hg
noncomputable abbrev a1K : Sig := ⟨[.int .i64, .sl b8], [.xs b32 256, .int .i64], a0e⟩
noncomputable abbrev B7 : Sig := ⟨[.xs b32 256, .fcl 58 .i32], [.xs b32 256], s8⟩
noncomputable def p_dring_UnpackFrom_E : AE := AE.of [(21, ty21), (40, ty40)] [(35, a1K), (57, B7)]
noncomputable def b3u : Hints := [(3000000, [6, 7])]
noncomputable def b3v : Code := (Try.f29).body.getD .skip
abbrev F3 : List Kd := [.int .i32, .int .i64, .sl b8]
abbrev F4 : List Kd := [.xs b32 256, .int .i64]
noncomputable def a0p (N : Nat) (x : Int × Int × List Int × Unit) : Option (List Int × Int) :=
 (a0e (x.2.1, x.2.2.1, ())).bind fun r1 => (
 if (r1.2 ≠ (0:Int)) then
  some ((List.replicate 256 0), (1:Int))
 else
  if (x.1 < (0:Int)) then
   some ((List.replicate 256 0), (1:Int))
  else
   if (x.1 ≥ (8380417:Int)) then
    some ((List.replicate 256 0), (1:Int))
   else
    (s8 (r1.1, (List.getD (x.1 :: []) 0 0), ())).bind fun r2 => (
    some (r2, (0:Int))))
theorem b1c (e0 : c8 Try.prog 35 a1K) (e1 : c8 Try.prog 57 B7) : p_dring_UnpackFrom_E.Ok Try.prog := AE.of_ok (all_cons u6 (all_cons s5 c6)) (all_cons ⟨e0, a6v⟩ (all_cons ⟨e1, a1g⟩ c6))
theorem b2h (hE : p_dring_UnpackFrom_E.Ok Try.prog) {g : Ds F3 → Option (Rs F4)} (hg : ∀ x r, g x = some r → ∃ N, a0p N x = some r) : c8 Try.prog 29 ⟨F3, F4, g⟩ :=
 i6 (E := p_dring_UnpackFrom_E) (H := b3u) (L := fun N => LT.nil) (c := b3v) (ks := F3) (rs := F4) (F := a0p) hE mix Try.func29 (by kernel_rfl) (fun N => OkAll.nil) (fun _ _ => by kernel_rfl) hg
noncomputable abbrev o6 : Sig := ⟨[.int .i32, .int .i64, .sl b8], [.xs b32 256, .int .i64], j4⟩
noncomputable def p_dring_Mask_E : AE := AE.of [(21, ty21), (23, ty23), (35, ty35), (40, ty40)] [(42, E3), (29, o6)]
noncomputable def c25 : Hints := [(3000000, [4, 5])]
noncomputable def c26 : Code := (Try.f52).body.getD .skip
abbrev a0N : List Kd := [.int .i64, .sl b8]
abbrev a0O : List Kd := [.xs b32 256, .int .i64]
noncomputable def a7w (N : Nat) (x : Int × List Int × Unit) : Option (List Int × Int) :=
 if (x.1 ≠ (18:Int)) then
  if (x.1 ≠ (20:Int)) then
   some ((List.replicate 256 0), (1:Int))
  else
   if ((((List.length x.2.1) : Nat) : Int) ≠ (66:Int)) then
    some ((List.replicate 256 0), (1:Int))
   else
    (v5 ((256:Int), (IntKind.i64.wrap ((32:Int) * x.1)), [x.2.1], ())).bind fun r1 => (
    if (r1.2 ≠ (0:Int)) then
     some ((List.replicate 256 0), r1.2)
    else
     if (IntKind.i64.wrap (x.1 - (1:Int))) < 0 then none else (
     (j4 ((b0Z IntKind.i32 (1:Int) (IntKind.i64.wrap (x.1 - (1:Int)))), x.1, r1.1, ())).bind fun r2 => (
     some (r2.1, r2.2))))
 else
  if ((((List.length x.2.1) : Nat) : Int) ≠ (66:Int)) then
   some ((List.replicate 256 0), (1:Int))
  else
   (v5 ((256:Int), (IntKind.i64.wrap ((32:Int) * x.1)), [x.2.1], ())).bind fun r3 => (
   if (r3.2 ≠ (0:Int)) then
    some ((List.replicate 256 0), r3.2)
   else
    if (IntKind.i64.wrap (x.1 - (1:Int))) < 0 then none else (
    (j4 ((b0Z IntKind.i32 (1:Int) (IntKind.i64.wrap (x.1 - (1:Int)))), x.1, r3.1, ())).bind fun r4 => (
    some (r4.1, r4.2))))
theorem b9N (e0 : c8 Try.prog 42 E3) (e1 : c8 Try.prog 29 o6) : p_dring_Mask_E.Ok Try.prog := AE.of_ok (all_cons u6 (all_cons G0 (all_cons a2P (all_cons s5 c6)))) (all_cons ⟨e0, U6⟩ (all_cons ⟨e1, J1⟩ c6))
theorem c1W (hE : p_dring_Mask_E.Ok Try.prog) {g : Ds a0N → Option (Rs a0O)} (hg : ∀ x r, g x = some r → ∃ N, a7w N x = some r) : c8 Try.prog 52 ⟨a0N, a0O, g⟩ :=
 i6 (E := p_dring_Mask_E) (H := c25) (L := fun N => LT.nil) (c := c26) (ks := a0N) (rs := a0O) (F := a7w) hE mix Try.func52 (by kernel_rfl) (fun N => OkAll.nil) (fun _ _ => by kernel_rfl) hg
noncomputable def p_dring_Ball_E : AE := AE.of [(3, ty3), (5, ty5), (21, ty21), (23, ty23), (35, ty35), (40, ty40)] [(42, E3)]
noncomputable def a72 : Hints := [(10, [0, 4, 6, 7, 9, 10, 11]), (12, [0, 4, 6, 7, 9, 10, 11]), (2000000, [4]), (2000001, [0, 4, 6, 7, 9, 10, 11]), (2000002, [0, 4, 6, 7, 9, 10, 11]), (2000003, [0, 4, 6, 7, 9, 10, 11]), (3000000, [4, 5])]
noncomputable def a1S : Code := (Try.f33).body.getD .skip
noncomputable def b6f : Shape := mkS { tmps := .sc (.int .i64) :: pv 3 (.sc (.ptr 0 0 false) :: V :: .sc (.ptr 1 0 false) :: .sc (.sl 2 (some 8) none none 1) :: V :: .sc (.sl 2 (some 0) (some 8) none 1) :: .sc (.int .i64) :: .sc (.int .i64) :: pv 80 []), mem := [.live [.xs b32 (some 256)] (.own), .live [.xs b32 (some 256)] (.own), .live [.xs b8 none] (.own)] } [.int, .nat, .nat, .nat, .int, .int, .xs, .xs, .nat, .xs]
abbrev W27 : Type := Int × Nat × Nat × Nat × Int × Int × List Int × List Int × Nat × List Int × Unit
noncomputable def O6 (N : Nat) (β : Type) (x : W27) (kn : W27 → Option β) (ke : W27 → Option β) : Option β :=
 if (x.2.2.2.2.1 < ((x.2.1 : Nat) : Int)) then
  if 0 ≤ x.2.2.2.2.1 then (
  if x.2.2.2.2.1 < ((x.2.1 : Nat) : Int) then (
  if (8 + (x.2.2.2.2.1.toNat)) < x.2.2.2.2.2.2.2.2.1 then (
  if ((IntKind.i64.wrap (List.getD x.2.2.2.2.2.2.2.2.2.1 (8 + (x.2.2.2.2.1.toNat)) 0)) > x.2.2.2.2.2.1) then
   kn (x.1, x.2.1, x.2.2.1, x.2.2.2.1, (IntKind.i64.wrap (x.2.2.2.2.1 + (1:Int))), x.2.2.2.2.2.1, x.2.2.2.2.2.2.1, x.2.2.2.2.2.2.2.1, x.2.2.2.2.2.2.2.2.1, x.2.2.2.2.2.2.2.2.2.1, ())
  else
   ke (x.1, x.2.1, x.2.2.1, x.2.2.2.1, x.2.2.2.2.1, x.2.2.2.2.2.1, x.2.2.2.2.2.2.1, x.2.2.2.2.2.2.2.1, x.2.2.2.2.2.2.2.2.1, x.2.2.2.2.2.2.2.2.2.1, ())) else none) else none) else none
 else
  ke (x.1, x.2.1, x.2.2.1, x.2.2.2.1, x.2.2.2.2.1, x.2.2.2.2.2.1, x.2.2.2.2.2.2.1, x.2.2.2.2.2.2.2.1, x.2.2.2.2.2.2.2.2.1, x.2.2.2.2.2.2.2.2.2.1, ())
noncomputable def b4F : Go' W27 := fun y K => K (.exit 2) (fSt { tmps := .sc (.int .i64) :: pv 3 (.sc (.ptr 0 0 false) :: V :: .sc (.ptr 1 0 false) :: .sc (.sl 2 (some 8) none none 1) :: V :: .sc (.sl 2 (some 0) (some 8) none 1) :: .sc (.int .i64) :: .sc (.int .i64) :: pv 80 []), mem := [.live [.xs b32 (some 256)] (.own), .live [.xs b32 (some 256)] (.own), .live [.xs b8 none] (.own)] } [.int, .nat, .nat, .nat, .int, .int, .xs, .xs, .nat, .xs] y)
noncomputable def a7u (N : Nat) : LT := upd (LT.nil) 12 (o9 b6f N (O6 N) b4F)
theorem b4G (N : Nat) : OkAll p_dring_Ball_E a72 N (a7u N) (x4 a1S) :=
 d7 (c := d8 12 a1S) (OkAll.nil) (by kernel_rfl) (fun x => by kernel_rfl) (fun β x kn ke => by kernel_rfl)
noncomputable def b6e : Shape := mkS { tmps := .sc (.int .i64) :: pv 3 (.sc (.ptr 0 0 false) :: V :: .sc (.ptr 1 0 false) :: .sc (.sl 2 (some 8) none none 1) :: V :: .sc (.sl 2 (some 0) (some 8) none 1) :: .sc (.int .i64) :: .sc (.int .i64) :: pv 80 []), mem := [.live [.xs b32 (some 256)] (.own), .live [.xs b32 (some 256)] (.own), .live [.xs b8 none] (.own)] } [.int, .nat, .nat, .nat, .int, .int, .xs, .xs, .nat, .xs]
noncomputable def G3 (N : Nat) (β : Type) (x : W27) (kn : W27 → Option β) (ke : W20 → Option β) : Option β :=
 if (x.2.2.2.2.2.1 < (256:Int)) then
  m9 (O6 N) N (x.1, x.2.1, x.2.2.1, x.2.2.2.1, x.2.2.2.2.1, x.2.2.2.2.2.1, x.2.2.2.2.2.2.1, x.2.2.2.2.2.2.2.1, x.2.2.2.2.2.2.2.2.1, x.2.2.2.2.2.2.2.2.2.1, ()) fun y2 => (
  if (y2.2.2.2.2.1 = ((y2.2.1 : Nat) : Int)) then
   ke (.inl (y2.2.2.2.2.2.2.1, ()))
  else
   if 0 ≤ y2.2.2.2.2.1 then (
   if y2.2.2.2.2.1 < ((y2.2.1 : Nat) : Int) then (
   if (8 + (y2.2.2.2.2.1.toNat)) < y2.2.2.2.2.2.2.2.2.1 then (
   if 0 ≤ (List.getD y2.2.2.2.2.2.2.2.2.2.1 (8 + (y2.2.2.2.2.1.toNat)) 0) then (
   if (List.getD y2.2.2.2.2.2.2.2.2.2.1 (8 + (y2.2.2.2.2.1.toNat)) 0) < 256 then (
   if ((List.getD y2.2.2.2.2.2.2.2.2.2.1 (8 + (y2.2.2.2.2.1.toNat)) 0).toNat) < 256 then (
   if 0 ≤ y2.2.2.2.2.2.1 then (
   if y2.2.2.2.2.2.1 < 256 then (
   if (y2.2.2.2.2.2.1.toNat) < 256 then (
   if 0 ≤ (List.getD y2.2.2.2.2.2.2.2.2.2.1 (8 + (y2.2.2.2.2.1.toNat)) 0) then (
   if (List.getD y2.2.2.2.2.2.2.2.2.2.1 (8 + (y2.2.2.2.2.1.toNat)) 0) < 256 then (
   if ((List.getD y2.2.2.2.2.2.2.2.2.2.1 (8 + (y2.2.2.2.2.1.toNat)) 0).toNat) < 256 then (
   if 0 ≤ (IntKind.i64.wrap (Int.tdiv (IntKind.i64.wrap ((IntKind.i64.wrap (y2.2.2.2.2.2.1 + y2.1)) - (256:Int))) (8:Int))) then (
   if (IntKind.i64.wrap (Int.tdiv (IntKind.i64.wrap ((IntKind.i64.wrap (y2.2.2.2.2.2.1 + y2.1)) - (256:Int))) (8:Int))) < (8:Int) then (
   if ((IntKind.i64.wrap (Int.tdiv (IntKind.i64.wrap ((IntKind.i64.wrap (y2.2.2.2.2.2.1 + y2.1)) - (256:Int))) (8:Int))).toNat) < y2.2.2.2.2.2.2.2.2.1 then (
   if (Int.tmod (IntKind.i64.wrap ((IntKind.i64.wrap (y2.2.2.2.2.2.1 + y2.1)) - (256:Int))) (8:Int)) < 0 then none else (
   if ((b87 IntKind.u8 (b9D IntKind.u8 (List.getD y2.2.2.2.2.2.2.2.2.2.1 ((IntKind.i64.wrap (Int.tdiv (IntKind.i64.wrap ((IntKind.i64.wrap (y2.2.2.2.2.2.1 + y2.1)) - (256:Int))) (8:Int))).toNat) 0) (Int.tmod (IntKind.i64.wrap ((IntKind.i64.wrap (y2.2.2.2.2.2.1 + y2.1)) - (256:Int))) (8:Int))) (1:Int)) = (1:Int)) then
    if 0 ≤ (List.getD y2.2.2.2.2.2.2.2.2.2.1 (8 + (y2.2.2.2.2.1.toNat)) 0) then (
    if (List.getD y2.2.2.2.2.2.2.2.2.2.1 (8 + (y2.2.2.2.2.1.toNat)) 0) < 256 then (
    if ((List.getD y2.2.2.2.2.2.2.2.2.2.1 (8 + (y2.2.2.2.2.1.toNat)) 0).toNat) < 256 then (
    if (y2.2.2.2.2.2.1 = (255:Int)) then
     ke (.inr ((0:Int), (List.set (List.set (List.set y2.2.2.2.2.2.2.2.1 (y2.2.2.2.2.2.1.toNat) (List.getD y2.2.2.2.2.2.2.2.1 ((List.getD y2.2.2.2.2.2.2.2.2.2.1 (8 + (y2.2.2.2.2.1.toNat)) 0).toNat) 0)) ((List.getD y2.2.2.2.2.2.2.2.2.2.1 (8 + (y2.2.2.2.2.1.toNat)) 0).toNat) (1:Int)) ((List.getD y2.2.2.2.2.2.2.2.2.2.1 (8 + (y2.2.2.2.2.1.toNat)) 0).toNat) (8380416:Int)), ()))
    else
     kn (y2.1, y2.2.1, y2.2.2.1, y2.2.2.2.1, (IntKind.i64.wrap (y2.2.2.2.2.1 + (1:Int))), (IntKind.i64.wrap (y2.2.2.2.2.2.1 + (1:Int))), y2.2.2.2.2.2.2.1, (List.set (List.set (List.set y2.2.2.2.2.2.2.2.1 (y2.2.2.2.2.2.1.toNat) (List.getD y2.2.2.2.2.2.2.2.1 ((List.getD y2.2.2.2.2.2.2.2.2.2.1 (8 + (y2.2.2.2.2.1.toNat)) 0).toNat) 0)) ((List.getD y2.2.2.2.2.2.2.2.2.2.1 (8 + (y2.2.2.2.2.1.toNat)) 0).toNat) (1:Int)) ((List.getD y2.2.2.2.2.2.2.2.2.2.1 (8 + (y2.2.2.2.2.1.toNat)) 0).toNat) (8380416:Int)), y2.2.2.2.2.2.2.2.2.1, y2.2.2.2.2.2.2.2.2.2.1, ())) else none) else none) else none
   else
    if (y2.2.2.2.2.2.1 = (255:Int)) then
     ke (.inr ((0:Int), (List.set (List.set y2.2.2.2.2.2.2.2.1 (y2.2.2.2.2.2.1.toNat) (List.getD y2.2.2.2.2.2.2.2.1 ((List.getD y2.2.2.2.2.2.2.2.2.2.1 (8 + (y2.2.2.2.2.1.toNat)) 0).toNat) 0)) ((List.getD y2.2.2.2.2.2.2.2.2.2.1 (8 + (y2.2.2.2.2.1.toNat)) 0).toNat) (1:Int)), ()))
    else
     kn (y2.1, y2.2.1, y2.2.2.1, y2.2.2.2.1, (IntKind.i64.wrap (y2.2.2.2.2.1 + (1:Int))), (IntKind.i64.wrap (y2.2.2.2.2.2.1 + (1:Int))), y2.2.2.2.2.2.2.1, (List.set (List.set y2.2.2.2.2.2.2.2.1 (y2.2.2.2.2.2.1.toNat) (List.getD y2.2.2.2.2.2.2.2.1 ((List.getD y2.2.2.2.2.2.2.2.2.2.1 (8 + (y2.2.2.2.2.1.toNat)) 0).toNat) 0)) ((List.getD y2.2.2.2.2.2.2.2.2.2.1 (8 + (y2.2.2.2.2.1.toNat)) 0).toNat) (1:Int)), y2.2.2.2.2.2.2.2.2.1, y2.2.2.2.2.2.2.2.2.2.1, ()))) else none) else none) else none) else none) else none) else none) else none) else none) else none) else none) else none) else none) else none) else none) else none)
 else
  ke (.inl (x.2.2.2.2.2.2.1, ()))
noncomputable def b4D : Go' W20 := fun y K => match y with
 | .inl y => K (.exit 0) (fSt { tmps := pv 4 (.sc (.ptr 0 0 false) :: pv 87 []), mem := [.live [.xs b32 (some 256)] (.own)] } [.xs] y)
 | .inr y => K .ret (fSt { tmps := pv 4 (.sc (.ptr 0 0 false) :: .sc (.int .i64) :: pv 86 []), mem := [.live [.xs b32 (some 256)] (.own)] } [.int, .xs] y)
noncomputable def a7t (N : Nat) : LT := upd (a7u N) 10 (o9 b6e N (G3 N) b4D)
theorem b4E (N : Nat) : OkAll p_dring_Ball_E a72 N (a7t N) (x4 a1S) :=
 d7 (c := d8 10 a1S) (b4G N) (by kernel_rfl) (fun x => by kernel_rfl) (fun β x kn ke => by kernel_rfl)
abbrev a0L : List Kd := [.int .i64, .sl b8]
abbrev a0M : List Kd := [.xs b32 256, .int .i64]
noncomputable def a7s (N : Nat) (x : Int × List Int × Unit) : Option (List Int × Int) :=
 if (x.1 < (1:Int)) then
  some ((List.replicate 256 0), (1:Int))
 else
  if (x.1 > (64:Int)) then
   some ((List.replicate 256 0), (1:Int))
  else
   (v5 ((256:Int), (1032:Int), [x.2.1], ())).bind fun r1 => (
   if (r1.2 ≠ (0:Int)) then
    some ((List.replicate 256 0), (130:Int))
   else
    if 8 ≤ (List.length r1.1) then (
    if 8 ≤ (List.length r1.1) then (
    m9 (G3 N) N (x.1, ((List.length r1.1) - 8), ((List.length r1.1) - 8), (List.length r1.1), (0:Int), (IntKind.i64.wrap ((256:Int) - x.1)), (List.replicate 256 0), (List.replicate 256 0), (List.length r1.1), r1.1, ()) fun y => (match y with
    | .inl y3 => (
     some ((List.replicate 256 0), (130:Int)))
    | .inr y4 => (
     some (y4.2.1, y4.1)))) else none) else none)
theorem b9H (e0 : c8 Try.prog 42 E3) : p_dring_Ball_E.Ok Try.prog := AE.of_ok (all_cons a5T (all_cons Z8 (all_cons u6 (all_cons G0 (all_cons a2P (all_cons s5 c6)))))) (all_cons ⟨e0, U6⟩ c6)
theorem c1S (hE : p_dring_Ball_E.Ok Try.prog) {g : Ds a0L → Option (Rs a0M)} (hg : ∀ x r, g x = some r → ∃ N, a7s N x = some r) : c8 Try.prog 33 ⟨a0L, a0M, g⟩ :=
 i6 (E := p_dring_Ball_E) (H := a72) (L := fun N => a7t N) (c := a1S) (ks := a0L) (rs := a0M) (F := a7s) hE mix Try.func33 (by kernel_rfl) (fun N => b4E N) (fun _ _ => by kernel_rfl) hg
noncomputable def p_dring_PackHints_E : AE := AE.of [(3, ty3), (4, ty4), (5, ty5), (23, ty23), (69, ty69), (76, ty76)] []
noncomputable def a2I : Hints := [(6, [0, 1, 6, 7, 27, 28]), (9, [0, 1, 6, 7, 8, 27, 28, 31]), (2000000, [6]), (2000001, [0, 1, 6, 7, 27, 28]), (2000002, [0, 1, 6, 7, 8, 27, 28]), (2000003, [0, 1, 6, 7, 8, 27, 28, 31]), (3000000, [4, 5])]
noncomputable def L5 : Code := (Try.f56).body.getD .skip
noncomputable def b07 : Shape := mkS { tmps := .sc (.vec 0 none 256) :: .sc (.int .i64) :: pv 4 (.sc (.vec 1 none 1) :: .sc (.int .i64) :: .sc (.int .i64) :: pv 18 (.sc (.int .i64) :: .sc (.int .i64) :: V :: V :: .sc (.int .i64) :: pv 29 [])), mem := [.live [.xs .bool none] (.ro), .live [.xs b8 none] (.own)] } [.nat, .int, .nat, .int, .int, .int, .int, .int, .nat, .xs, .nat, .xs]
abbrev W28 : Type := Nat × Int × Nat × Int × Int × Int × Int × Int × Nat × List Int × Nat × List Int × Unit
abbrev W29 : Type := (Int × Unit) ⊕ (Nat × Int × Nat × Int × Int × Int × Int × Nat × List Int × Nat × List Int × Unit)
noncomputable def C5 (N : Nat) (β : Type) (x : W28) (kn : W28 → Option β) (ke : W29 → Option β) : Option β :=
 if (x.2.2.2.2.2.2.2.1 < (256:Int)) then
  if 0 ≤ x.2.2.2.2.1 then (
  if x.2.2.2.2.1 < ((x.1 : Nat) : Int) then (
  if 0 ≤ x.2.2.2.2.2.2.2.1 then (
  if x.2.2.2.2.2.2.2.1 < 256 then (
  if (((x.2.2.2.2.1.toNat) * 256) + (x.2.2.2.2.2.2.2.1.toNat)) < x.2.2.2.2.2.2.2.2.1 then (
  if (¬ ((List.getD x.2.2.2.2.2.2.2.2.2.1 (((x.2.2.2.2.1.toNat) * 256) + (x.2.2.2.2.2.2.2.1.toNat)) 0) ≠ 0)) then
   kn (x.1, x.2.1, x.2.2.1, x.2.2.2.1, x.2.2.2.2.1, x.2.2.2.2.2.1, x.2.2.2.2.2.2.1, (IntKind.i64.wrap (x.2.2.2.2.2.2.2.1 + (1:Int))), x.2.2.2.2.2.2.2.2.1, x.2.2.2.2.2.2.2.2.2.1, x.2.2.2.2.2.2.2.2.2.2.1, x.2.2.2.2.2.2.2.2.2.2.2.1, ())
  else
   if (x.2.2.2.1 = x.2.1) then
    ke (.inl ((3:Int), ()))
   else
    if 0 ≤ x.2.2.2.1 then (
    if x.2.2.2.1 < ((x.2.2.1 : Nat) : Int) then (
    if (x.2.2.2.1.toNat) < x.2.2.2.2.2.2.2.2.2.2.1 then (
    kn (x.1, x.2.1, x.2.2.1, (IntKind.i64.wrap (x.2.2.2.1 + (1:Int))), x.2.2.2.2.1, x.2.2.2.2.2.1, x.2.2.2.2.2.2.1, (IntKind.i64.wrap (x.2.2.2.2.2.2.2.1 + (1:Int))), x.2.2.2.2.2.2.2.2.1, x.2.2.2.2.2.2.2.2.2.1, x.2.2.2.2.2.2.2.2.2.2.1, (List.set x.2.2.2.2.2.2.2.2.2.2.2.1 (x.2.2.2.1.toNat) (IntKind.u8.wrap x.2.2.2.2.2.2.2.1)), ())) else none) else none) else none) else none) else none) else none) else none) else none
 else
  ke (.inr (x.1, x.2.1, x.2.2.1, x.2.2.2.1, x.2.2.2.2.1, x.2.2.2.2.2.1, x.2.2.2.2.2.2.1, x.2.2.2.2.2.2.2.2.1, x.2.2.2.2.2.2.2.2.2.1, x.2.2.2.2.2.2.2.2.2.2.1, x.2.2.2.2.2.2.2.2.2.2.2.1, ()))
noncomputable def a94 : Go' W29 := fun y K => match y with
 | .inl y => K .ret (fSt { tmps := pv 4 (.sc (.nilsl) :: .sc (.int .i64) :: pv 55 []), mem := [] } [.int] y)
 | .inr y => K (.exit 2) (fSt { tmps := .sc (.vec 0 none 256) :: .sc (.int .i64) :: pv 4 (.sc (.vec 1 none 1) :: .sc (.int .i64) :: .sc (.int .i64) :: pv 18 (.sc (.int .i64) :: .sc (.int .i64) :: pv 32 [])), mem := [.live [.xs .bool none] (.ro), .live [.xs b8 none] (.own)] } [.nat, .int, .nat, .int, .int, .int, .int, .nat, .xs, .nat, .xs] y)
noncomputable def a33 (N : Nat) : LT := upd (LT.nil) 9 (o9 b07 N (C5 N) a94)
theorem a95 (N : Nat) : OkAll p_dring_PackHints_E a2I N (a33 N) (x4 L5) :=
 d7 (c := d8 9 L5) (OkAll.nil) (by kernel_rfl) (fun x => by kernel_rfl) (fun β x kn ke => by kernel_rfl)
noncomputable def b06 : Shape := mkS { tmps := .sc (.vec 0 none 256) :: .sc (.int .i64) :: pv 4 (.sc (.vec 1 none 1) :: .sc (.int .i64) :: pv 19 (.sc (.int .i64) :: .sc (.int .i64) :: pv 32 [])), mem := [.live [.xs .bool none] (.ro), .live [.xs b8 none] (.own)] } [.nat, .int, .nat, .int, .int, .int, .nat, .xs, .nat, .xs]
abbrev W30 : Type := Nat × Int × Nat × Int × Int × Int × Nat × List Int × Nat × List Int × Unit
abbrev W31 : Type := (Int × Unit) ⊕ (Nat × Nat × List Int × Unit)
noncomputable def v3 (N : Nat) (β : Type) (x : W30) (kn : W30 → Option β) (ke : W31 → Option β) : Option β :=
 if (x.2.2.2.2.2.1 < x.2.2.2.2.1) then
  m9 (C5 N) N (x.1, x.2.1, x.2.2.1, x.2.2.2.1, x.2.2.2.2.2.1, x.2.2.2.2.1, x.2.2.2.2.2.1, (0:Int), x.2.2.2.2.2.2.1, x.2.2.2.2.2.2.2.1, x.2.2.2.2.2.2.2.2.1, x.2.2.2.2.2.2.2.2.2.1, ()) fun y => (match y with
  | .inl y1 => (
   ke (.inl (y1.1, ())))
  | .inr y2 => (
   if 0 ≤ (IntKind.i64.wrap (y2.2.1 + y2.2.2.2.2.1)) then (
   if (IntKind.i64.wrap (y2.2.1 + y2.2.2.2.2.1)) < ((y2.2.2.1 : Nat) : Int) then (
   if ((IntKind.i64.wrap (y2.2.1 + y2.2.2.2.2.1)).toNat) < y2.2.2.2.2.2.2.2.2.2.1 then (
   kn (y2.1, y2.2.1, y2.2.2.1, y2.2.2.2.1, y2.2.2.2.2.2.1, (IntKind.i64.wrap (y2.2.2.2.2.2.2.1 + (1:Int))), y2.2.2.2.2.2.2.2.1, y2.2.2.2.2.2.2.2.2.1, y2.2.2.2.2.2.2.2.2.2.1, (List.set y2.2.2.2.2.2.2.2.2.2.2.1 ((IntKind.i64.wrap (y2.2.1 + y2.2.2.2.2.1)).toNat) (IntKind.u8.wrap y2.2.2.2.1)), ())) else none) else none) else none))
 else
  ke (.inr (x.2.2.1, x.2.2.2.2.2.2.2.2.1, x.2.2.2.2.2.2.2.2.2.1, ()))
noncomputable def a92 : Go' W31 := fun y K => match y with
 | .inl y => K .ret (fSt { tmps := pv 4 (.sc (.nilsl) :: .sc (.int .i64) :: pv 55 []), mem := [] } [.int] y)
 | .inr y => K (.exit 0) (fSt { tmps := pv 6 (.sc (.vec 0 none 1) :: pv 54 []), mem := [.live [.xs b8 none] (.own)] } [.nat, .nat, .xs] y)
noncomputable def a32 (N : Nat) : LT := upd (a33 N) 6 (o9 b06 N (v3 N) a92)
theorem a93 (N : Nat) : OkAll p_dring_PackHints_E a2I N (a32 N) (x4 L5) :=
 d7 (c := d8 6 L5) (a95 N) (by kernel_rfl) (fun x => by kernel_rfl) (fun β x kn ke => by kernel_rfl)
abbrev H7 : List Kd := [.sla .bool 256, .int .i64]
abbrev H8 : List Kd := [.sl b8, .int .i64]
noncomputable def a1o (N : Nat) (x : List Int × Int × Unit) : Option (List Int × Int) :=
 if ((((List.length x.1 / 256) : Nat) : Int) > (16:Int)) then
  some ([], (1:Int))
 else
  if (x.2.1 < (0:Int)) then
   some ([], (1:Int))
  else
   if (x.2.1 > (255:Int)) then
    some ([], (1:Int))
   else
    if 0 ≤ (IntKind.i64.wrap (x.2.1 + (((List.length x.1 / 256) : Nat) : Int))) then (
    if (IntKind.i64.wrap (x.2.1 + (((List.length x.1 / 256) : Nat) : Int))) = (IntKind.i64.wrap (x.2.1 + (((List.length x.1 / 256) : Nat) : Int))) then (
    if (IntKind.i64.wrap (x.2.1 + (((List.length x.1 / 256) : Nat) : Int))) * 1 ≤ 281474976710656 then (
    m9 (v3 N) N ((List.length x.1 / 256), x.2.1, ((IntKind.i64.wrap (x.2.1 + (((List.length x.1 / 256) : Nat) : Int))).toNat), (0:Int), (((List.length x.1 / 256) : Nat) : Int), (0:Int), (List.length x.1), x.1, ((IntKind.i64.wrap (x.2.1 + (((List.length x.1 / 256) : Nat) : Int))).toNat), (List.replicate ((IntKind.i64.wrap (x.2.1 + (((List.length x.1 / 256) : Nat) : Int))).toNat) 0), ()) fun y => (match y with
    | .inl y3 => (
     some ([], y3.1))
    | .inr y4 => (
     some (y4.2.2.1, (0:Int))))) else none) else none) else none
theorem b2f : p_dring_PackHints_E.Ok Try.prog := AE.of_ok (all_cons a5T (all_cons c2R (all_cons Z8 (all_cons G0 (all_cons c5A (all_cons b8X c6)))))) c6
theorem b3q (hE : p_dring_PackHints_E.Ok Try.prog) {g : Ds H7 → Option (Rs H8)} (hg : ∀ x r, g x = some r → ∃ N, a1o N x = some r) : c8 Try.prog 56 ⟨H7, H8, g⟩ :=
 i6 (E := p_dring_PackHints_E) (H := a2I) (L := fun N => a32 N) (c := L5) (ks := H7) (rs := H8) (F := a1o) hE mix Try.func56 (by kernel_rfl) (fun N => a93 N) (fun _ _ => by kernel_rfl) hg
noncomputable def p_dring_UnpackHints_E : AE := AE.of [(3, ty3), (4, ty4), (5, ty5), (23, ty23), (69, ty69), (76, ty76)] []
noncomputable def O8 : Hints := [(6, [1, 2, 8, 9, 40, 41]), (12, [1, 2, 8, 9, 10, 11, 12, 40, 41]), (20, [8, 93, 94, 95]), (2000000, [1, 2, 8, 9]), (2000001, [1, 2, 8, 9, 40, 41]), (2000002, [1, 2, 8, 11, 40, 41]), (2000003, [1, 2, 8, 9, 10, 11, 12, 40, 41]), (2000004, [8]), (2000005, [8, 93, 94, 95]), (3000000, [6, 7])]
noncomputable def t8 : Code := (Try.f31).body.getD .skip
noncomputable def a8b : Shape := mkS { tmps := V :: .sc (.int .i64) :: .sc (.vec 0 none 1) :: pv 5 (.sc (.vec 1 none 256) :: .sc (.int .i64) :: .sc (.int .i64) :: .sc (.int .i64) :: .sc (.int .i64) :: pv 27 (.sc (.int .i64) :: .sc (.int .i64) :: pv 61 [])), mem := [.live [.xs b8 none] (.ro), .live [.xs .bool none] (.own)] } [.int, .nat, .nat, .int, .int, .int, .int, .int, .int, .nat, .xs, .nat, .xs]
abbrev W32 : Type := Int × Nat × Nat × Int × Int × Int × Int × Int × Int × Nat × List Int × Nat × List Int × Unit
abbrev W33 : Type := (Int × Unit) ⊕ (Int × Nat × Nat × Int × Int × Int × Nat × List Int × Nat × List Int × Unit)
noncomputable def v6 (N : Nat) (β : Type) (x : W32) (kn : W32 → Option β) (ke : W33 → Option β) : Option β :=
 if (x.2.2.2.2.2.2.1 < x.2.2.2.2.2.1) then
  if (x.2.2.2.2.2.2.1 > x.2.2.2.1) then
   if 0 ≤ x.2.2.2.2.2.2.1 then (
   if x.2.2.2.2.2.2.1 < ((x.2.1 : Nat) : Int) then (
   if (x.2.2.2.2.2.2.1.toNat) < x.2.2.2.2.2.2.2.2.2.1 then (
   if 0 ≤ (IntKind.i64.wrap (x.2.2.2.2.2.2.1 - (1:Int))) then (
   if (IntKind.i64.wrap (x.2.2.2.2.2.2.1 - (1:Int))) < ((x.2.1 : Nat) : Int) then (
   if ((IntKind.i64.wrap (x.2.2.2.2.2.2.1 - (1:Int))).toNat) < x.2.2.2.2.2.2.2.2.2.1 then (
   if ((List.getD x.2.2.2.2.2.2.2.2.2.2.1 (x.2.2.2.2.2.2.1.toNat) 0) ≤ (List.getD x.2.2.2.2.2.2.2.2.2.2.1 ((IntKind.i64.wrap (x.2.2.2.2.2.2.1 - (1:Int))).toNat) 0)) then
    ke (.inl ((150:Int), ()))
   else
    if 0 ≤ x.2.2.2.2.2.2.1 then (
    if x.2.2.2.2.2.2.1 < ((x.2.1 : Nat) : Int) then (
    if (x.2.2.2.2.2.2.1.toNat) < x.2.2.2.2.2.2.2.2.2.1 then (
    if 0 ≤ x.2.2.2.2.1 then (
    if x.2.2.2.2.1 < ((x.2.2.1 : Nat) : Int) then (
    if 0 ≤ (List.getD x.2.2.2.2.2.2.2.2.2.2.1 (x.2.2.2.2.2.2.1.toNat) 0) then (
    if (List.getD x.2.2.2.2.2.2.2.2.2.2.1 (x.2.2.2.2.2.2.1.toNat) 0) < 256 then (
    if (((x.2.2.2.2.1.toNat) * 256) + ((List.getD x.2.2.2.2.2.2.2.2.2.2.1 (x.2.2.2.2.2.2.1.toNat) 0).toNat)) < x.2.2.2.2.2.2.2.2.2.2.2.1 then (
    kn (x.1, x.2.1, x.2.2.1, x.2.2.2.1, x.2.2.2.2.1, x.2.2.2.2.2.1, (IntKind.i64.wrap (x.2.2.2.2.2.2.1 + (1:Int))), x.2.2.2.2.2.2.2.1, x.2.2.2.2.2.2.2.2.1, x.2.2.2.2.2.2.2.2.2.1, x.2.2.2.2.2.2.2.2.2.2.1, x.2.2.2.2.2.2.2.2.2.2.2.1, (List.set x.2.2.2.2.2.2.2.2.2.2.2.2.1 (((x.2.2.2.2.1.toNat) * 256) + ((List.getD x.2.2.2.2.2.2.2.2.2.2.1 (x.2.2.2.2.2.2.1.toNat) 0).toNat)) (1:Int)), ())) else none) else none) else none) else none) else none) else none) else none) else none) else none) else none) else none) else none) else none) else none
  else
   if 0 ≤ x.2.2.2.2.2.2.1 then (
   if x.2.2.2.2.2.2.1 < ((x.2.1 : Nat) : Int) then (
   if (x.2.2.2.2.2.2.1.toNat) < x.2.2.2.2.2.2.2.2.2.1 then (
   if 0 ≤ x.2.2.2.2.1 then (
   if x.2.2.2.2.1 < ((x.2.2.1 : Nat) : Int) then (
   if 0 ≤ (List.getD x.2.2.2.2.2.2.2.2.2.2.1 (x.2.2.2.2.2.2.1.toNat) 0) then (
   if (List.getD x.2.2.2.2.2.2.2.2.2.2.1 (x.2.2.2.2.2.2.1.toNat) 0) < 256 then (
   if (((x.2.2.2.2.1.toNat) * 256) + ((List.getD x.2.2.2.2.2.2.2.2.2.2.1 (x.2.2.2.2.2.2.1.toNat) 0).toNat)) < x.2.2.2.2.2.2.2.2.2.2.2.1 then (
   kn (x.1, x.2.1, x.2.2.1, x.2.2.2.1, x.2.2.2.2.1, x.2.2.2.2.2.1, (IntKind.i64.wrap (x.2.2.2.2.2.2.1 + (1:Int))), x.2.2.2.2.2.2.2.1, x.2.2.2.2.2.2.2.2.1, x.2.2.2.2.2.2.2.2.2.1, x.2.2.2.2.2.2.2.2.2.2.1, x.2.2.2.2.2.2.2.2.2.2.2.1, (List.set x.2.2.2.2.2.2.2.2.2.2.2.2.1 (((x.2.2.2.2.1.toNat) * 256) + ((List.getD x.2.2.2.2.2.2.2.2.2.2.1 (x.2.2.2.2.2.2.1.toNat) 0).toNat)) (1:Int)), ())) else none) else none) else none) else none) else none) else none) else none) else none
 else
  ke (.inr (x.1, x.2.1, x.2.2.1, x.2.2.2.2.2.1, x.2.2.2.2.2.2.2.1, x.2.2.2.2.2.2.2.2.1, x.2.2.2.2.2.2.2.2.2.1, x.2.2.2.2.2.2.2.2.2.2.1, x.2.2.2.2.2.2.2.2.2.2.2.1, x.2.2.2.2.2.2.2.2.2.2.2.2.1, ()))
noncomputable def a7a : Go' W33 := fun y K => match y with
 | .inl y => K .ret (fSt { tmps := pv 6 (.sc (.nilsl) :: .sc (.int .i64) :: pv 95 []), mem := [] } [.int] y)
 | .inr y => K (.exit 2) (fSt { tmps := V :: .sc (.int .i64) :: .sc (.vec 0 none 1) :: pv 5 (.sc (.vec 1 none 256) :: V :: V :: .sc (.int .i64) :: pv 28 (.sc (.int .i64) :: .sc (.int .i64) :: pv 61 [])), mem := [.live [.xs b8 none] (.ro), .live [.xs .bool none] (.own)] } [.int, .nat, .nat, .int, .int, .int, .nat, .xs, .nat, .xs] y)
noncomputable def a1X (N : Nat) : LT := upd (LT.nil) 12 (o9 a8b N (v6 N) a7a)
theorem a7b (N : Nat) : OkAll p_dring_UnpackHints_E O8 N (a1X N) (x4 t8) :=
 d7 (c := d8 12 t8) (OkAll.nil) (by kernel_rfl) (fun x => by kernel_rfl) (fun β x kn ke => by kernel_rfl)
noncomputable def a86 : Shape := mkS { tmps := V :: .sc (.int .i64) :: .sc (.vec 0 none 1) :: pv 5 (.sc (.vec 1 none 256) :: .sc (.int .i64) :: pv 30 (.sc (.int .i64) :: .sc (.int .i64) :: pv 61 [])), mem := [.live [.xs b8 none] (.ro), .live [.xs .bool none] (.own)] } [.int, .nat, .nat, .int, .int, .int, .nat, .xs, .nat, .xs]
abbrev W34 : Type := Int × Nat × Nat × Int × Int × Int × Nat × List Int × Nat × List Int × Unit
abbrev W35 : Type := (Int × Unit) ⊕ (Int × Nat × Nat × Int × Nat × List Int × Nat × List Int × Unit)
noncomputable def s7 (N : Nat) (β : Type) (x : W34) (kn : W34 → Option β) (ke : W35 → Option β) : Option β :=
 if (x.2.2.2.2.2.1 < x.2.2.2.2.1) then
  if 0 ≤ (IntKind.i64.wrap (x.1 + x.2.2.2.2.2.1)) then (
  if (IntKind.i64.wrap (x.1 + x.2.2.2.2.2.1)) < ((x.2.1 : Nat) : Int) then (
  if ((IntKind.i64.wrap (x.1 + x.2.2.2.2.2.1)).toNat) < x.2.2.2.2.2.2.1 then (
  if ((IntKind.i64.wrap (List.getD x.2.2.2.2.2.2.2.1 ((IntKind.i64.wrap (x.1 + x.2.2.2.2.2.1)).toNat) 0)) < x.2.2.2.1) then
   ke (.inl ((150:Int), ()))
  else
   if ((IntKind.i64.wrap (List.getD x.2.2.2.2.2.2.2.1 ((IntKind.i64.wrap (x.1 + x.2.2.2.2.2.1)).toNat) 0)) > x.1) then
    ke (.inl ((150:Int), ()))
   else
    m9 (v6 N) N (x.1, x.2.1, x.2.2.1, x.2.2.2.1, x.2.2.2.2.2.1, (IntKind.i64.wrap (List.getD x.2.2.2.2.2.2.2.1 ((IntKind.i64.wrap (x.1 + x.2.2.2.2.2.1)).toNat) 0)), x.2.2.2.1, x.2.2.2.2.1, x.2.2.2.2.2.1, x.2.2.2.2.2.2.1, x.2.2.2.2.2.2.2.1, x.2.2.2.2.2.2.2.2.1, x.2.2.2.2.2.2.2.2.2.1, ()) fun y => (match y with
    | .inl y1 => (
     ke (.inl (y1.1, ())))
    | .inr y2 => (
     kn (y2.1, y2.2.1, y2.2.2.1, y2.2.2.2.1, y2.2.2.2.2.1, (IntKind.i64.wrap (y2.2.2.2.2.2.1 + (1:Int))), y2.2.2.2.2.2.2.1, y2.2.2.2.2.2.2.2.1, y2.2.2.2.2.2.2.2.2.1, y2.2.2.2.2.2.2.2.2.2.1, ())))) else none) else none) else none
 else
  ke (.inr (x.1, x.2.1, x.2.2.1, x.2.2.2.1, x.2.2.2.2.2.2.1, x.2.2.2.2.2.2.2.1, x.2.2.2.2.2.2.2.2.1, x.2.2.2.2.2.2.2.2.2.1, ()))
noncomputable def a8d : Go' W35 := fun y K => match y with
 | .inl y => K .ret (fSt { tmps := pv 6 (.sc (.nilsl) :: .sc (.int .i64) :: pv 95 []), mem := [] } [.int] y)
 | .inr y => K (.exit 0) (fSt { tmps := V :: .sc (.int .i64) :: .sc (.vec 0 none 1) :: pv 5 (.sc (.vec 1 none 256) :: .sc (.int .i64) :: pv 93 []), mem := [.live [.xs b8 none] (.ro), .live [.xs .bool none] (.own)] } [.int, .nat, .nat, .int, .nat, .xs, .nat, .xs] y)
noncomputable def a2Y (N : Nat) : LT := upd (a1X N) 6 (o9 a86 N (s7 N) a8d)
theorem a8e (N : Nat) : OkAll p_dring_UnpackHints_E O8 N (a2Y N) (x4 t8) :=
 d7 (c := d8 6 t8) (a7b N) (by kernel_rfl) (fun x => by kernel_rfl) (fun β x kn ke => by kernel_rfl)
noncomputable def a8c : Shape := mkS { tmps := pv 8 (.sc (.vec 0 none 256) :: pv 84 (.sc (.sl 1 none none none 1) :: .sc (.int .i64) :: .sc (.int .i64) :: pv 7 [])), mem := [.live [.xs .bool none] (.own), .live [.xs b8 none] (.ro)] } [.nat, .nat, .nat, .nat, .int, .int, .nat, .xs, .nat, .xs]
abbrev W36 : Type := Nat × Nat × Nat × Nat × Int × Int × Nat × List Int × Nat × List Int × Unit
noncomputable def v7 (N : Nat) (β : Type) (x : W36) (kn : W36 → Option β) (ke : W31 → Option β) : Option β :=
 if (x.2.2.2.2.2.1 < x.2.2.2.2.1) then
  if 0 ≤ x.2.2.2.2.2.1 then (
  if x.2.2.2.2.2.1 < ((x.2.2.1 : Nat) : Int) then (
  if (c2U x.2.1 (x.2.2.2.2.2.1.toNat)) < x.2.2.2.2.2.2.2.2.1 then (
  if ((List.getD x.2.2.2.2.2.2.2.2.2.1 (c2U x.2.1 (x.2.2.2.2.2.1.toNat)) 0) ≠ (0:Int)) then
   ke (.inl ((150:Int), ()))
  else
   kn (x.1, x.2.1, x.2.2.1, x.2.2.2.1, x.2.2.2.2.1, (IntKind.i64.wrap (x.2.2.2.2.2.1 + (1:Int))), x.2.2.2.2.2.2.1, x.2.2.2.2.2.2.2.1, x.2.2.2.2.2.2.2.2.1, x.2.2.2.2.2.2.2.2.2.1, ())) else none) else none) else none
 else
  ke (.inr (x.1, x.2.2.2.2.2.2.1, x.2.2.2.2.2.2.2.1, ()))
noncomputable def a7c : Go' W31 := fun y K => match y with
 | .inl y => K .ret (fSt { tmps := pv 6 (.sc (.nilsl) :: .sc (.int .i64) :: pv 95 []), mem := [] } [.int] y)
 | .inr y => K (.exit 4) (fSt { tmps := pv 8 (.sc (.vec 0 none 256) :: pv 94 []), mem := [.live [.xs .bool none] (.own)] } [.nat, .nat, .xs] y)
noncomputable def a1Y (N : Nat) : LT := upd (a2Y N) 20 (o9 a8c N (v7 N) a7c)
theorem a7d (N : Nat) : OkAll p_dring_UnpackHints_E O8 N (a1Y N) (x4 t8) :=
 d7 (c := d8 20 t8) (a8e N) (by kernel_rfl) (fun x => by kernel_rfl) (fun β x kn ke => by kernel_rfl)
abbrev C8 : List Kd := [.int .i64, .int .i64, .sl b8]
abbrev C9 : List Kd := [.sla .bool 256, .int .i64]
noncomputable def V4 (N : Nat) (x : Int × Int × List Int × Unit) : Option (List Int × Int) :=
 if (x.1 < (0:Int)) then
  some ([], (1:Int))
 else
  if (x.1 > (16:Int)) then
   some ([], (1:Int))
  else
   if (x.2.1 < (0:Int)) then
    some ([], (1:Int))
   else
    if (x.2.1 > (255:Int)) then
     some ([], (1:Int))
    else
     if ((((List.length x.2.2.1) : Nat) : Int) ≠ (IntKind.i64.wrap (x.2.1 + x.1))) then
      some ([], (1:Int))
     else
      if 0 ≤ x.1 then (
      if x.1 = x.1 then (
      if x.1 * 256 ≤ 281474976710656 then (
      m9 (s7 N) N (x.2.1, (List.length x.2.2.1), (x.1.toNat), (0:Int), (((x.1.toNat) : Nat) : Int), (0:Int), (List.length x.2.2.1), x.2.2.1, ((x.1.toNat) * 256), (List.replicate ((x.1.toNat) * 256) 0), ()) fun y => (match y with
      | .inl y3 => (
       some ([], y3.1))
      | .inr y4 => (
       if 0 ≤ y4.1 then (
       if y4.1 ≤ ((y4.2.1 : Nat) : Int) then (
       if 0 ≤ y4.2.2.2.1 then (
       if y4.2.2.2.1 ≤ (((y4.1.toNat) : Nat) : Int) then (
       m9 (v7 N) N (y4.2.2.1, (y4.2.2.2.1.toNat), (d0t (y4.1.toNat) (y4.2.2.2.1.toNat)), (d0t y4.2.1 (y4.2.2.2.1.toNat)), (((d0t (y4.1.toNat) (y4.2.2.2.1.toNat)) : Nat) : Int), (0:Int), y4.2.2.2.2.2.2.1, y4.2.2.2.2.2.2.2.1, y4.2.2.2.2.1, y4.2.2.2.2.2.1, ()) fun y => (match y with
       | .inl y5 => (
        some ([], y5.1))
       | .inr y6 => (
        some (y6.2.2.1, (0:Int))))) else none) else none) else none) else none))) else none) else none) else none
theorem b0b : p_dring_UnpackHints_E.Ok Try.prog := AE.of_ok (all_cons a5T (all_cons c2R (all_cons Z8 (all_cons G0 (all_cons c5A (all_cons b8X c6)))))) c6
theorem b1d (hE : p_dring_UnpackHints_E.Ok Try.prog) {g : Ds C8 → Option (Rs C9)} (hg : ∀ x r, g x = some r → ∃ N, V4 N x = some r) : c8 Try.prog 31 ⟨C8, C9, g⟩ :=
 i6 (E := p_dring_UnpackHints_E) (H := O8) (L := fun N => a1Y N) (c := t8) (ks := C8) (rs := C9) (F := V4) hE mix Try.func31 (by kernel_rfl) (fun N => a7d N) (fun _ _ => by kernel_rfl) hg
end Go.Ax.TryP
set_option linter.unusedVariables false
namespace Go.Ax.TryP
open Go.Proofs
theorem d0r {rate : Nat} {e : Int} {l : List Int} {n p : Nat} (h : p < n) : (a0l rate e l n).getD p 0 = b29 rate (R0 rate e (z25, 0) l) p := by
 unfold a0l
 rw [List.getD_eq_getElem?_getD, List.getElem?_map, List.getElem?_range h]
 rfl
def c6U (L : List Int) : List Int := L ++ List.replicate (256 - L.length) 0
theorem c6V {L : List Int} {c : Int} (h : L.length < 256) : (c6U L).set L.length c = c6U (L ++ [c]) := by
 unfold c6U
 rw [List.set_append_right _ _ (Nat.le_refl _), Nat.sub_self, List.append_assoc]
 obtain ⟨k, hk⟩ : ∃ k, 256 - L.length = k + 1 := ⟨255 - L.length, by omega⟩
 rw [hk, List.replicate_succ, List.set_cons_zero, List.length_append, List.length_singleton, show 256 - (L.length + 1) = k by omega]
 rfl
theorem c30 {L : List Int} (h : L.length = 256) : c6U L = L := by simp [c6U, h]
theorem d0v {L : List Int} (h : L.length ≤ 256) : L.take 256 = L := List.take_of_length_le h
theorem c9m (f : Nat → List Int) (t : Nat) : ∀ d : Nat, ∃ r, a1w f (t + d) = a1w f t ++ r
 | 0 => ⟨[], by simp⟩
 | d + 1 => by
  obtain ⟨r, h⟩ := c9m f t d
  exact ⟨r ++ f (t + d), by rw [← Nat.add_assoc, a1w, h, List.append_assoc]⟩
theorem b1v {f : Nat → List Int} {t u : Nat} (h : t ≤ u) (h2 : 256 ≤ (a1w f t).length) : 256 ≤ (a1w f u).length ∧ (a1w f u).take 256 = (a1w f t).take 256 := by
 obtain ⟨r, e⟩ := c9m f t (u - t)
 rw [show t + (u - t) = u by omega] at e
 rw [e]
 exact ⟨by simp; omega, by rw [List.take_append_of_le_length h2]⟩
theorem a9w {n : Nat} (h : n < 2 ^ 31) : IntKind.i32.wrap (n : Int) = n := M9 (by omega) (by omega)
theorem c8p {m n : Nat} (hm : m < 2 ^ 31) (hn : n < 2 ^ 31) : ior .i32 (m : Int) (n : Int) = ((m ||| n : Nat) : Int) := by
 unfold ior
 rw [BitVec.toNat_or, a2k (k := .i32) (Nat.lt_of_lt_of_le hm (by decide)), a2k (k := .i32) (Nat.lt_of_lt_of_le hn (by decide))]
 exact a9w (Nat.or_lt_two_pow hm hn)
theorem b5Z {m s : Nat} (hs : s ≤ 32) (h : m * 2 ^ s < 2 ^ 31) : b0Z .i32 (m : Int) (s : Int) = ((m * 2 ^ s : Nat) : Int) := by
 unfold b0Z
 rw [Int.toNat_natCast, Nat.min_eq_left (show s ≤ IntKind.i32.bits from hs)]
 have : (m : Int) * 2 ^ s = ((m * 2 ^ s : Nat) : Int) := by simp
 rw [this]
 exact a9w h
theorem d95 {x y z : Int} (hx : 0 ≤ x ∧ x ≤ 255) (hy : 0 ≤ y ∧ y ≤ 255) (hz : 0 ≤ z ∧ z ≤ 255) :
  ior IntKind.i32 (ior IntKind.i32 (IntKind.i32.wrap x) (b0Z IntKind.i32 (IntKind.i32.wrap y) (8:Int))) (b0Z IntKind.i32 (IntKind.i32.wrap (b87 IntKind.u8 z (127:Int))) (16:Int)) = x + 256 * y + 65536 * (z % 128) := by
 obtain ⟨x, rfl⟩ : ∃ m : Nat, x = m := ⟨x.toNat, by omega⟩
 obtain ⟨y, rfl⟩ : ∃ m : Nat, y = m := ⟨y.toNat, by omega⟩
 obtain ⟨z, rfl⟩ : ∃ m : Nat, z = m := ⟨z.toNat, by omega⟩
 have e : b87 .u8 (z : Int) 127 = ((z % 128 : Nat) : Int) := by
  rw [show (127 : Int) = ((127 : Nat) : Int) from rfl, b5Y rfl (by simp [IntKind.bits]; omega) (by decide), show (127 : Nat) = 2 ^ 7 - 1 from rfl, Nat.and_two_pow_sub_one_eq_mod]
 have h1 : x ||| y * 2 ^ 8 = x + y * 2 ^ 8 := d0d (by omega)
 have h2 : (x + y * 2 ^ 8) ||| (z % 128) * 2 ^ 16 = x + y * 2 ^ 8 + (z % 128) * 2 ^ 16 := d0d (by omega)
 rw [e, a9w (n := x) (by omega), a9w (n := y) (by omega), a9w (n := z % 128) (by omega), show (8 : Int) = ((8 : Nat) : Int) from rfl, show (16 : Int) = ((16 : Nat) : Int) from rfl, b5Z (by omega) (by omega), b5Z (by omega) (by omega), c8p (by omega) (by omega), h1, c8p (by omega) (by omega), h2]
 omega
theorem d5g {s : List Int} {t : Nat} (h : c2Y s t < 8380417) : a1w (b1Z s) (t + 1) = a1w (b1Z s) t ++ [c2Y s t] := by show _ ++ b1Z s t = _; rw [b1Z, if_pos h]
theorem d7z {s : List Int} {t : Nat} (h : ¬ c2Y s t < 8380417) : a1w (b1Z s) (t + 1) = a1w (b1Z s) t := by show _ ++ b1Z s t = _; rw [b1Z, if_neg h, List.append_nil]
abbrev rA (s : List Int) : List Int := R0 168 31 (z25, 0) s
def rjX (s : List Int) (t : Nat) : Int × Int × List Int × List Int × Bool × List Int × Int × Int × Int × Unit :=
 (((a1w (b1Z s) t).length : Int), (t : Int), z256, c6U (a1w (b1Z s) t), true, (X1 168 (rA s) (3 * t)).1, 168, ((X1 168 (rA s) (3 * t)).2 : Int), 3 * (t : Int), ())
abbrev Orj := (List Int × Unit) ⊕ (Int × List Int × Unit)
theorem d1Y {s : List Int} {t : Nat} (ht : t < 1024) : o3 ((true, (X1 168 (rA s) (3 * t)).1, 168, ((X1 168 (rA s) (3 * t)).2 : Int), 3 * (t : Int), ()), 3, ())
  = some ([shk s (3 * t), shk s (3 * t + 1), shk s (3 * t + 2)], 0, (true, (X1 168 (rA s) (3 * (t + 1))).1, 168, ((X1 168 (rA s) (3 * (t + 1))).2 : Int), 3 * ((t + 1 : Nat) : Int), ())) := by
 have h := d1X (rate := 168) (A := rA s) (P := 3 * t) (n := 3) (by omega) (c5P 168 (by omega) 31 s) (by omega) (c := 3 * (t : Int)) (by omega)
 rw [show 3 * (t + 1) = 3 * t + 3 by omega, show (3 : Int) * ((t + 1 : Nat) : Int) = 3 * (t : Int) + ((3 : Nat) : Int) by omega]
 exact h
theorem d7L {s : List Int} {t : Nat} (ht : t < 1024) (hL : (a1w (b1Z s) t).length < 256) {N : Nat} {β : Type} (kn : _ → Option β) (ke : Orj → Option β) :
  w9 N β (rjX s t) kn ke = if (a1w (b1Z s) (t + 1)).length < 256 then kn (rjX s (t + 1)) else ke (.inr (0, (a1w (b1Z s) (t + 1)).take 256, ())) := by
 have b0 := d1A s (3 * t)
 have b1 := d1A s (3 * t + 1)
 have b2 := d1A s (3 * t + 2)
 have wt : IntKind.i64.wrap ((t : Int) + 1) = ((t + 1 : Nat) : Int) := by rw [c7 (by omega) (by omega)]; omega
 unfold w9 rjX
 dsimp only
 rw [if_pos (by omega), d1Y ht, Option.bind_some]
 dsimp only
 rw [if_neg (by omega), if_pos (by omega), if_pos (by simp), if_pos (by simp), if_pos (by omega), if_pos (by simp), if_pos (by simp), if_pos (by omega), if_pos (by simp), if_pos (by simp)]
 have e : ior IntKind.i32 (ior IntKind.i32 (IntKind.i32.wrap (List.getD [shk s (3 * t), shk s (3 * t + 1), shk s (3 * t + 2)] 0 0)) (b0Z IntKind.i32 (IntKind.i32.wrap (List.getD [shk s (3 * t), shk s (3 * t + 1), shk s (3 * t + 2)] 1 0)) (8:Int))) (b0Z IntKind.i32 (IntKind.i32.wrap (b87 IntKind.u8 (List.getD [shk s (3 * t), shk s (3 * t + 1), shk s (3 * t + 2)] 2 0) (127:Int))) (16:Int)) = c2Y s t := d95 b0 b1 b2
 rw [e, wt]
 by_cases h : c2Y s t < 8380417
 ·rw [if_neg (by omega), if_pos (by omega), if_pos (by omega), if_pos (by omega), Int.toNat_natCast, c6V hL, d5g h, List.length_append, List.length_singleton, c7 (by omega) (by omega)]
  by_cases g : (a1w (b1Z s) t).length + 1 < 256
  ·rw [if_neg (by omega), if_pos g]
   rfl
  ·rw [if_pos (by omega), if_neg g]
   have gl : (a1w (b1Z s) t ++ [c2Y s t]).length = 256 := by rw [List.length_append, List.length_singleton]; omega
   rw [c30 gl, d0v (by omega)]
 ·rw [if_pos (by omega), d7z h, if_pos hL]
  rfl
theorem d6k {s : List Int} {N : Nat} {β : Type} (k : Orj → Option β) : ∀ j t : Nat, t + j = 1024 → (a1w (b1Z s) t).length < 256 → ∀ n, j < n →
  m9 (w9 N) n (rjX s t) k = if (a1w (b1Z s) 1024).length < 256 then k (.inl (z256, ())) else k (.inr (0, (a1w (b1Z s) 1024).take 256, ()))
 | 0, t, h, hL, n, hn => by
  obtain ⟨n, rfl⟩ : ∃ m, n = m + 1 := ⟨n - 1, by omega⟩
  have h : t = 1024 := by omega
  subst h
  rw [if_pos hL]
  simp only [m9]
  unfold w9 rjX
  dsimp only
  rw [if_neg (by omega)]
 | j + 1, t, h, hL, n, hn => by
  obtain ⟨n, rfl⟩ : ∃ m, n = m + 1 := ⟨n - 1, by omega⟩
  simp only [m9]
  rw [d7L (by omega) hL]
  split
  ·rename_i h2
   exact d6k k j (t + 1) (by omega) h2 n (by omega)
  ·rename_i h2
   obtain ⟨q1, q2⟩ := b1v (f := b1Z s) (t := t + 1) (u := 1024) (by omega) (by omega)
   rw [if_neg (by omega), q2]
theorem c5Y {l : List Int} (hl : l.length ≤ 4294967000 ∧ ∀ z ∈ l, 0 ≤ z ∧ z ≤ 255) : D6 ([l], ()) = some (true, rA l, 168, 0, 0, ()) := by
 have e := c0Q (d0c hl)
 rwa [d8L] at e
theorem c3t : ∀ x r, a0d x = some r → ∃ N, a4I N x = some r := by
 refine i0 (ks := S5) (rs := S6) fun x hw hq => ⟨1025, ?_⟩
 obtain ⟨(l : List Int), u⟩ := x
 have hl := b3d.1 hw.1
 unfold a4I d3z
 dsimp only
 by_cases h : l.length = 34
 ·rw [if_neg (by omega), if_neg (by omega)]
  rw [c5Y ⟨by show l.length ≤ _; omega, hl.2⟩, Option.bind_some]
  have hst : X1 168 (rA l) (3 * 0) = (rA l, 0) := b8W _ (by omega) (by omega)
  have hx : rjX l 0 = ((0 : Int), (0 : Int), z256, z256, true, rA l, 168, 0, 0, ()) := by unfold rjX; rw [hst]; rfl
  show m9 (w9 1025) 1025 ((0 : Int), (0 : Int), z256, z256, true, rA l, 168, 0, 0, ()) _ = _
  rw [← hx]
  refine (d6k _ 1024 0 (by omega) (by show 0 < 256; omega) _ (by omega)).trans ?_
  generalize a1w (b1Z l) 1024 = L
  by_cases g : L.length < 256
  ·rw [if_pos g, if_pos g]
  ·rw [if_neg g, if_neg g]
 ·rw [if_pos (by omega), if_pos h]
theorem c65 : ∀ x r, a7p x = some r → ∃ N, a7z N x = some r := by
 refine i0 (ks := a0U) (rs := a0V) fun x hw hq => ⟨0, ?_⟩
 obtain ⟨(eta : Int), (h : Int), u⟩ := x
 have hh : 0 ≤ h ∧ h ≤ 255 := a0n.1 hw.2.1
 have e2 : Int.tmod h 5 = h % 5 := Int.tmod_eq_emod_of_nonneg hh.1
 unfold a7z c8i
 dsimp only
 rw [e2, M9 (x := h) (by omega) (by omega), M9 (x := h % 5) (by omega) (by omega), M9 (x := 2 - h % 5) (by omega) (by omega), M9 (x := 4 - h) (by omega) (by omega)]
 by_cases h1 : eta = 2
 ·subst h1
  by_cases h3 : h < 15
  ·rw [if_pos rfl, if_pos h3, if_pos ⟨rfl, h3⟩]
  ·rw [if_pos rfl, if_neg h3, if_neg (by omega), if_neg (by omega), if_neg (by omega)]
 ·rw [if_neg h1, if_neg (by omega : ¬(eta = 2 ∧ h < 15))]
  by_cases h2 : eta = 4
  ·by_cases h3 : h < 9
   ·rw [if_pos h2, if_pos h3, if_pos ⟨h2, h3⟩]
   ·rw [if_pos h2, if_neg h3, if_neg (by omega)]
  ·rw [if_neg h2, if_neg (by omega)]
theorem d6I {eta h : Int} (he : eta = 2 ∨ eta = 4) (hh : 0 ≤ h ∧ h ≤ 255) : a7p (eta, h, ()) = some (c8i eta h) :=
 d9 (ks := a0U) (rs := a0V) (x := (eta, h, ())) ⟨u4.2 (by show _ ≤ eta ∧ eta ≤ _; omega), a0n.2 hh, trivial⟩ trivial
def okH (eta h : Int) : Prop := (eta = 2 ∧ h < 15) ∨ (eta = 4 ∧ h < 9)
def nmH (eta h : Int) : Int := if eta = 2 then 2 - h % 5 else 4 - h
theorem d4W {eta h : Int} (k : okH eta h) : c8i eta h = (nmH eta h, true) := by
 unfold c8i nmH
 rcases k with ⟨rfl, k⟩ | ⟨rfl, k⟩
 ·rw [if_pos ⟨rfl, k⟩, if_pos rfl]
 ·rw [if_neg (by omega), if_pos ⟨rfl, k⟩, if_neg (by omega)]
theorem d7c {eta h : Int} (k : ¬ okH eta h) : c8i eta h = (0, false) := by
 unfold c8i
 unfold okH at k
 rw [if_neg (by omega), if_neg (by omega)]
theorem d76 {eta h : Int} (k : okH eta h) : d6t eta h = [nmH eta h % 8380417] := by
 unfold d6t nmH
 rcases k with ⟨rfl, k⟩ | ⟨rfl, k⟩
 ·rw [if_pos rfl, if_pos k, if_pos rfl]
 ·rw [if_neg (by omega), if_pos k, if_neg (by omega)]
theorem d9F {eta h : Int} (he : eta = 2 ∨ eta = 4) (k : ¬ okH eta h) : d6t eta h = [] := by
 unfold d6t
 unfold okH at k
 rcases he with rfl | rfl
 ·rw [if_pos rfl, if_neg (by omega)]
 ·rw [if_neg (by omega), if_neg (by omega)]
theorem d2O (s : List Int) (t : Nat) : 0 ≤ a8Q s t ∧ a8Q s t ≤ 15 := by
 have := d1z s (t / 2)
 unfold a8Q
 split <;> omega
theorem d2f {eta : Int} {s : List Int} {t : Nat} (h : okH eta (a8Q s t)) : a1w (a5W eta s) (t + 1) = a1w (a5W eta s) t ++ [nmH eta (a8Q s t) % 8380417] := by show _ ++ a5W eta s t = _; rw [a5W, d76 h]
theorem d53 {eta : Int} {s : List Int} {t : Nat} (he : eta = 2 ∨ eta = 4) (h : ¬ okH eta (a8Q s t)) : a1w (a5W eta s) (t + 1) = a1w (a5W eta s) t := by show _ ++ a5W eta s t = _; rw [a5W, d9F he h, List.append_nil]
theorem e0j {eta h : Int} (hh : 0 ≤ h ∧ h ≤ 15) : -11 ≤ nmH eta h ∧ nmH eta h ≤ 4 := by unfold nmH; split <;> omega
abbrev spB (s : List Int) : List Int := a0l 136 31 s 1024
abbrev Ib := Int × Int × Nat × Int × Int × List Int × Int × List Int × List Int × Nat × List Int × Unit
abbrev Ob := (Int × List Int × Unit) ⊕ (Int × Int × Nat × Int × Int × List Int × List Int × Nat × List Int × Unit)
def biX (eta : Int) (s : List Int) (q j : Nat) (cs : List Int) : Ib :=
 (eta, ((a1w (a5W eta s) (2 * q + j)).length : Int), 1024, 1024, (q : Int), cs, (j : Int), z256, c6U (a1w (a5W eta s) (2 * q + j)), 1024, spB s, ())
theorem d2a {eta : Int} (he : eta = 2 ∨ eta = 4) {s : List Int} {q j : Nat} (hj : j < 2) {cs : List Int} (hc : cs.getD j 0 = a8Q s (2 * q + j)) (hL : (a1w (a5W eta s) (2 * q + j)).length < 256) {N : Nat} {β : Type} (kn : Ib → Option β) (ke : Ob → Option β) :
  s6 N β (biX eta s q j cs) kn ke = if (a1w (a5W eta s) (2 * q + j + 1)).length < 256 then kn (biX eta s q (j + 1) cs) else ke (.inl (0, (a1w (a5W eta s) (2 * q + j + 1)).take 256, ())) := by
 have hb := d2O s (2 * q + j)
 have hn := e0j (eta := eta) hb
 have wj : IntKind.i64.wrap ((j : Int) + 1) = ((j + 1 : Nat) : Int) := by rw [c7 (by omega) (by omega)]; omega
 unfold s6 biX
 dsimp only
 rw [if_pos (by omega), if_pos (by omega), if_pos (by omega), if_pos (by omega), Int.toNat_natCast, hc, d6I he (by omega), Option.bind_some]
 by_cases h : okH eta (a8Q s (2 * q + j))
 ·rw [d4W h, if_neg (by simp)]
  dsimp only
  rw [c7 (x := nmH _ _) (by omega) (by omega), a5V (by omega) (by omega), Option.bind_some, if_pos (by omega), if_pos (by omega), if_pos (by omega), Int.toNat_natCast, c6V hL, d2f h, List.length_append, List.length_singleton, c7 (by omega) (by omega), wj]
  by_cases g : (a1w (a5W eta s) (2 * q + j)).length + 1 < 256
  ·rw [if_neg (by omega), if_pos g, show 2 * q + (j + 1) = 2 * q + j + 1 by omega, d2f h, List.length_append, List.length_singleton]
   rfl
  ·rw [if_pos (by omega), if_neg g]
   have gl : (a1w (a5W eta s) (2 * q + j) ++ [nmH eta (a8Q s (2 * q + j)) % 8380417]).length = 256 := by rw [List.length_append, List.length_singleton]; omega
   rw [c30 gl, d0v (by omega)]
 ·rw [d7c h, if_pos (by simp), d53 he h, if_pos hL, wj, show 2 * q + (j + 1) = 2 * q + j + 1 by omega, d53 he h]
abbrev Jb := Int × Int × Nat × Int × Int × List Int × List Int × Nat × List Int × Unit
def boX (eta : Int) (s : List Int) (q : Nat) : Jb :=
 (eta, ((a1w (a5W eta s) (2 * q)).length : Int), 1024, 1024, (q : Int), z256, c6U (a1w (a5W eta s) (2 * q)), 1024, spB s, ())
theorem d8S {s : List Int} {q : Nat} (hq : q < 1024) :
  List.set (List.set (List.replicate 2 (0 : Int)) 0 (b87 IntKind.u8 (List.getD (spB s) q 0) (15:Int))) 1 (b9D IntKind.u8 (List.getD (spB s) q 0) (4:Int)) = [a8Q s (2 * q), a8Q s (2 * q + 1)] := by
 have e : (spB s).getD q 0 = shb s q := d0r hq
 have hb := d1z s q
 rw [e]
 have e0 : a8Q s (2 * q) = shb s q % 16 := by unfold a8Q; rw [if_pos (by omega), show 2 * q / 2 = q by omega]
 have e1 : a8Q s (2 * q + 1) = shb s q / 16 := by unfold a8Q; rw [if_neg (by omega), show (2 * q + 1) / 2 = q by omega]
 rw [e0, e1]
 generalize shb s q = y at hb
 obtain ⟨y, rfl⟩ : ∃ m : Nat, y = m := ⟨y.toNat, by omega⟩
 have a : b87 .u8 (y : Int) 15 = ((y % 16 : Nat) : Int) := by
  rw [show (15 : Int) = ((15 : Nat) : Int) from rfl, b5Y rfl (by simp [IntKind.bits]; omega) (by decide), show (15 : Nat) = 2 ^ 4 - 1 from rfl, Nat.and_two_pow_sub_one_eq_mod]
 have b : b9D .u8 (y : Int) 4 = ((y / 16 : Nat) : Int) := by
  rw [show (4 : Int) = ((4 : Nat) : Int) from rfl, a9N (by decide)]
 rw [a, b]
 simp
theorem d6S {eta : Int} (he : eta = 2 ∨ eta = 4) {s : List Int} {q : Nat} (hq : q < 1024) (hL : (a1w (a5W eta s) (2 * q)).length < 256) {N : Nat} {β : Type} (kn : Jb → Option β) (ke : (Int × List Int × Unit) ⊕ (List Int × Unit) → Option β) :
  j8 (N + 3) β (boX eta s q) kn ke = if (a1w (a5W eta s) (2 * (q + 1))).length < 256 then kn (boX eta s (q + 1)) else ke (.inl (0, (a1w (a5W eta s) (2 * (q + 1))).take 256, ())) := by
 have wq : IntKind.i64.wrap ((q : Int) + 1) = ((q + 1 : Nat) : Int) := by rw [c7 (by omega) (by omega)]; omega
 unfold j8 boX
 dsimp only
 rw [if_pos (by omega), if_pos (by omega), if_pos (by omega), if_pos (by omega), Int.toNat_natCast, d8S hq]
 show m9 (s6 (N + 3)) (N + 3) (biX eta s q 0 [a8Q s (2 * q), a8Q s (2 * q + 1)]) _ = _
 simp only [m9]
 rw [d2a he (j := 0) (by omega) rfl hL]
 rw [show 2 * (q + 1) = 2 * q + 0 + 1 + 1 by omega]
 by_cases g : (a1w (a5W eta s) (2 * q + 0 + 1)).length < 256
 ·rw [if_pos g, d2a he (j := 1) (by omega) rfl g]
  show (if (a1w (a5W eta s) (2 * q + 0 + 1 + 1)).length < 256 then _ else _) = _
  by_cases g2 : (a1w (a5W eta s) (2 * q + 0 + 1 + 1)).length < 256
  ·rw [if_pos g2, if_pos g2]
   unfold s6 biX
   dsimp only
   rw [if_neg (by omega), wq]
  ·rw [if_neg g2, if_neg g2]
 ·rw [if_neg g]
  obtain ⟨q1, q2⟩ := b1v (f := a5W eta s) (t := 2 * q + 0 + 1) (u := 2 * q + 0 + 1 + 1) (by omega) (by omega)
  rw [if_neg (by omega), q2]
theorem d54 {eta : Int} (he : eta = 2 ∨ eta = 4) {s : List Int} {N : Nat} {β : Type} (k : (Int × List Int × Unit) ⊕ (List Int × Unit) → Option β) : ∀ j q : Nat, q + j = 1024 → (a1w (a5W eta s) (2 * q)).length < 256 → ∀ n, j < n →
  m9 (j8 (N + 3)) n (boX eta s q) k = if (a1w (a5W eta s) 2048).length < 256 then k (.inr (z256, ())) else k (.inl (0, (a1w (a5W eta s) 2048).take 256, ()))
 | 0, q, h, hL, n, hn => by
  obtain ⟨n, rfl⟩ : ∃ m, n = m + 1 := ⟨n - 1, by omega⟩
  have h : q = 1024 := by omega
  subst h
  rw [if_pos hL]
  simp only [m9]
  unfold j8 boX
  dsimp only
  rw [if_neg (by omega)]
 | j + 1, q, h, hL, n, hn => by
  obtain ⟨n, rfl⟩ : ∃ m, n = m + 1 := ⟨n - 1, by omega⟩
  simp only [m9]
  rw [d6S he (by omega) hL]
  split
  ·rename_i h2
   exact d54 he k j (q + 1) (by omega) h2 n (by omega)
  ·rename_i h2
   obtain ⟨q1, q2⟩ := b1v (f := a5W eta s) (t := 2 * (q + 1)) (u := 2048) (by omega) (by omega)
   rw [if_neg (by omega), q2]
theorem b1x {l : List Int} {n : Nat} (hn : n ≤ 1048576) (hl : l.length ≤ 4294967000 ∧ ∀ z ∈ l, 0 ≤ z ∧ z ≤ 255) : v5 (256, (n : Int), [l], ()) = some (a0l 136 31 l n, 0) := by
 have e := c9r (b := 256) (.inr rfl) hn (d0c hl)
 rwa [d8L, if_neg (by omega)] at e
theorem b68 : ∀ x r, G2 x = some r → ∃ N, a0o N x = some r := by
 refine i0 (ks := E9) (rs := F0) fun x hw hq => ⟨1025 + 3, ?_⟩
 obtain ⟨(eta : Int), (l : List Int), u⟩ := x
 have hl := b3d.1 hw.2.1
 unfold a0o c9x
 dsimp only
 have main : (eta = 2 ∨ eta = 4) → l.length = 66 → ∀ F : _ → Option (List Int × Int), (∀ y, F (.inl y) = some (y.2.1, y.1)) → (∀ y, F (.inr y) = some (z256, 130)) →
   m9 (j8 (1025 + 3)) (1025 + 3) (eta, (0 : Int), (spB l).length, (((spB l).length : Nat) : Int), (0 : Int), z256, z256, (spB l).length, spB l, ()) F = some (if (a1w (a5W eta l) 2048).length < 256 then (z256, 130) else ((a1w (a5W eta l) 2048).take 256, 0)) := by
  intro he h F F1 F2
  rw [c5s]
  have hx : boX eta l 0 = (eta, (0 : Int), 1024, ((1024 : Nat) : Int), (0 : Int), z256, z256, 1024, spB l, ()) := rfl
  rw [← hx]
  refine (d54 he _ 1024 0 (by omega) (by show 0 < 256; omega) _ (by omega)).trans ?_
  generalize a1w (a5W eta l) 2048 = L
  by_cases g : L.length < 256
  ·rw [if_pos g, if_pos g, F2]
  ·rw [if_neg g, if_neg g, F1]
 by_cases he : eta = 2 ∨ eta = 4
 ·by_cases h : l.length = 66
  ·rw [if_neg (by omega : ¬((eta ≠ 2 ∧ eta ≠ 4) ∨ l.length ≠ 66))]
   have e := b1x (l := l) (n := 1024) (by omega) ⟨by omega, hl.2⟩
   rcases he with h2 | h4
   ·rw [if_neg (by omega), if_neg (by omega)]
    refine (congrArg (fun o => Option.bind o _) e).trans ?_
    rw [Option.bind_some, if_neg (by simp)]
    dsimp only; refine (main (.inl h2) h _ ?_ ?_) <;> intro y <;> rfl
   ·rw [if_pos (by omega), if_neg (by omega), if_neg (by omega)]
    refine (congrArg (fun o => Option.bind o _) e).trans ?_
    rw [Option.bind_some, if_neg (by simp)]
    dsimp only; refine (main (.inr h4) h _ ?_ ?_) <;> intro y <;> rfl
  ·rw [if_pos (show (eta ≠ 2 ∧ eta ≠ 4) ∨ l.length ≠ 66 from .inr h)]
   rcases he with h2 | h4
   ·rw [if_neg (by omega), if_pos (by omega)]
   ·rw [if_pos (by omega), if_neg (by omega), if_pos (by omega)]
 ·rw [if_pos (by omega), if_pos (by omega), if_pos (by omega)]
theorem d6T {b : List Int} (h : ∀ z ∈ b, 0 ≤ z ∧ z ≤ 255) (i : Nat) : 0 ≤ b.getD i 0 ∧ b.getD i 0 ≤ 255 := by
 by_cases hi : i < b.length
 ·exact h _ (a3m hi)
 ·rw [b5W (by omega)]; omega
theorem d9d {k : Nat} (h : k ≤ 23) : (2 : Int) ^ k ≤ 8388608 := by
 have : 2 ^ k ≤ 2 ^ 23 := Nat.pow_le_pow_right (by omega) h
 have e : ((2 ^ k : Nat) : Int) = (2 : Int) ^ k := by simp
 omega
theorem d8W {i d n : Nat} (hi : i < n) : i * d + d ≤ n * d := by
 have h : (i + 1) * d ≤ n * d := Nat.mul_le_mul_right d hi
 rwa [Nat.succ_mul] at h
theorem c4q (b : List Int) (t : Nat) : 0 ≤ b3g b t ∧ b3g b t ≤ 1 := d2b _ _
theorem d5P {d : Int} {b : List Int} : a5p [.int .i64, .sl (.int .u8)] (d, b, ()) ↔ (-9223372036854775808 ≤ d ∧ d ≤ 9223372036854775807) ∧ (b.length ≤ maxLen ∧ ∀ z ∈ b, 0 ≤ z ∧ z ≤ 255) := by
 have : Kd.wf (.int .i64) d ↔ -9223372036854775808 ≤ d ∧ d ≤ 9223372036854775807 := u4
 simp only [a5p, b3d, and_true, this]
def d3i (w : Nat) (b : List Int) (i : Nat) : Int := b7u w fun k => b3g b (i * w + k)
theorem d3j {w : Nat} (b : List Int) (i : Nat) (hw : w ≤ 23) : 0 ≤ d3i w b i ∧ d3i w b i < 8388608 := by
 have := c2P (n := w) (c := fun k => b3g b (i * w + k)) fun s _ => c4q b _
 have := d9d hw
 unfold d3i
 omega
theorem set_same {l : List Int} {i : Nat} {v : Int} (h : l.getD i 0 = v) (hi : i < l.length) : l.set i v = l := by
 subst h
 refine rows.ext (by simp) rfl fun j _ => ?_
 by_cases hj : i = j
 ·subst hj; exact a0K hi
 ·exact getD_set_ne hj
theorem d2X {A b : Int} {s : Nat} (hA : 0 ≤ A ∧ A < 2 ^ s) (hb : 0 ≤ b ∧ b ≤ 1) (hs : s ≤ 22) : ior .i32 A (b0Z .i32 b (s : Int)) = A + b * 2 ^ s := by
 obtain ⟨m, rfl⟩ := Int.eq_ofNat_of_zero_le hA.1
 obtain ⟨c, rfl⟩ := Int.eq_ofNat_of_zero_le hb.1
 have hc : c ≤ 1 := by omega
 have hm : m < 2 ^ s := by have := hA.2; exact_mod_cast this
 have hp : 2 ^ s ≤ 2 ^ 22 := Nat.pow_le_pow_right (by omega) hs
 have hc2 : c * 2 ^ s ≤ 2 ^ s := by have := Nat.mul_le_mul_right (2 ^ s) hc; omega
 rw [b5Z (by omega) (by omega), c8p (by omega) (by omega), d0d hm]
 simp
theorem c3u : ∀ x r, a0e x = some r → ∃ N, a4J N x = some r := by
 refine i0 (ks := S7) (rs := S8) fun x hw hq => ⟨300, ?_⟩
 obtain ⟨(d : Int), (b : List Int), u⟩ := x
 obtain ⟨hd, hb⟩ := d5P.1 hw
 obtain ⟨h0, h1, hl⟩ : 1 ≤ d ∧ d ≤ 23 ∧ (b.length : Int) = 32 * d := hq
 unfold a4J
 dsimp only
 obtain ⟨n, rfl⟩ : ∃ n : Nat, d = n := ⟨d.toNat, by omega⟩
 rw [if_neg (by omega), if_neg (by omega), c7 (by omega) (by omega), if_neg (by omega), Int.toNat_natCast]
 have hn : n ≤ 23 := by omega
 have hZ : z256.length = 256 := List.length_replicate ..
 have hZ0 : ∀ i, z256.getD i 0 = 0 := a4E 256
 show m9 (E0 300) 300 ((n : Int), b.length, (0 : Int), b.length, b, z256, z256, ()) _ = some (c7H n b, 0)
 generalize z256 = Z at hZ hZ0 ⊢
 refine (J2 (F := E0 300) (s := fun i => ((n : Int), b.length, (i : Int), b.length, b, Z, part (d3i n b) i Z, ())) (y := (Z, c7H n b, ())) 256 ?_ ?_ 300 (by omega)).trans ?_
 ·intro i hi kn
  have hpl : (part (d3i n b) i Z).length = 256 := by rw [b0n (by omega), hZ]
  unfold E0
  dsimp only
  rw [if_pos (by omega)]
  refine (i9 (F := L6 300) (s := fun k => ((n : Int), b.length, (i : Int), (i : Int), (n : Int), (k : Int), b.length, b, Z, (part (d3i n b) i Z).set i (b7u k fun k => b3g b (i * n + k)), ()))
   (y := ((n : Int), b.length, (i : Int), b.length, b, Z, part (d3i n b) (i + 1) Z, ())) n ?_ ?_ ?_ 300 (by omega)).trans ?_
  ·rw [set_same (by rw [b66 (Nat.le_refl i), hZ0]; rfl) (by omega)]
   rfl
  ·intro k hk kn
   have hle := d8W (d := n) hi
   have hz := d6T hb.2 ((i * n + k) / 8)
   have hbit := c4q b (i * n + k)
   have em : (i : Int) * n = ((i * n : Nat) : Int) := by simp
   have ea : ((i * n : Nat) : Int) + k = ((i * n + k : Nat) : Int) := by simp
   have ed : ((i * n + k : Nat) : Int) / 8 = (((i * n + k) / 8 : Nat) : Int) := by omega
   have er : ((i * n + k : Nat) : Int) % 8 = (((i * n + k) % 8 : Nat) : Int) := by omega
   have hs := c2P (n := k) (c := fun k => b3g b (i * n + k)) fun s _ => c4q b _
   unfold L6
   dsimp only
   rw [if_pos (by omega), em, c7 (x := ((i * n : Nat) : Int)) (by omega) (by omega), ea, c7 (x := ((i * n + k : Nat) : Int)) (by omega) (by omega), b0v (by omega), b0w (by omega), ed, er,
    c7 (x := (((i * n + k) / 8 : Nat) : Int)) (by omega) (by omega), c7 (by omega) (by omega)]
   simp (disch := omega) only [if_pos, if_neg, Int.toNat_natCast]
   rw [d5Z hz.1 hz.2 (by omega), show c2W (b.getD ((i * n + k) / 8) 0) ((i * n + k) % 8) = b3g b (i * n + k) from rfl, M9 (by omega) (by omega), a0K (by omega), List.set_set,
    d2X hs hbit (by omega), Int.natCast_add]
   rfl
  ·intro kn
   unfold L6
   dsimp only
   rw [if_neg (by omega), u5 (h := d3i n b) (i := i) (a := Z) (z := b7u n fun k => b3g b (i * n + k)) (by omega) rfl]
  ·dsimp only
   rw [c7 (by omega) (by omega), Int.natCast_add]
   rfl
 ·intro kn
  unfold E0
  dsimp only
  rw [if_neg (by omega), C3 hZ]
  rfl
 ·rfl
theorem c5Z {n : Nat} {b : List Int} (h : 1 ≤ n ∧ n ≤ 23 ∧ b.length = 32 * n) (hb : ∀ z ∈ b, 0 ≤ z ∧ z ≤ 255) : a0e ((n : Int), b, ()) = some (c7H n b, 0) := by
 have hM : 1000000 ≤ maxLen := by decide
 have := d9 (ks := S7) (rs := S8) (x := ((n : Int), b, ())) (Q := fun x => wOk x.1 x.2.1) (f := fun x => (c7H x.1.toNat x.2.1, 0)) (d5P.2 ⟨by omega, by omega, hb⟩) ⟨by show (1 : Int) ≤ n; omega, by show (n : Int) ≤ 23; omega, by show (b.length : Int) = 32 * (n : Int); omega⟩
 exact this
theorem d36 {n : Nat} {b : List Int} {i : Nat} (hi : i < 256) : (c7H n b).getD i 0 = d3i n b i := d6 hi
theorem d5J {n : Nat} (hn : n ≤ 23) (b : List Int) : E7 256 (c7H n b) := rows.range fun i _ => by have := d3j b i hn; unfold d3i at this; omega
theorem b3X : ∀ x r, R5 x = some r → ∃ N, R6 N x = some r := by
 refine i0 (ks := B0) (rs := V3) fun x hw hq => ⟨0, ?_⟩
 obtain ⟨(z : Int), (t : Int), u⟩ := x
 have h1 : -2147483648 ≤ z ∧ z ≤ 2147483647 := t7.1 hw.1
 have h2 : -2147483648 ≤ t ∧ t ≤ 2147483647 := t7.1 hw.2.1
 obtain ⟨h3, h4⟩ : 0 ≤ z ∧ 0 ≤ t := hq
 unfold R6
 show some (IntKind.i32.wrap (t - z)) = some (t - z)
 rw [M9 (by omega) (by omega)]
theorem c0R {z t : Int} (h1 : 0 ≤ z ∧ z ≤ 2147483647) (h2 : 0 ≤ t ∧ t ≤ 2147483647) : R5 (z, t, ()) = some (t - z) :=
 d9 (ks := B0) (rs := V3) (x := (z, t, ())) ⟨t7.2 (show _ ≤ z ∧ z ≤ _ by omega), t7.2 (show _ ≤ t ∧ t ≤ _ by omega), trivial⟩ ⟨h1.1, h2.1⟩
theorem a3V : ∀ x r, s8 x = some r → ∃ N, s9 N x = some r := by
 refine i0 (ks := j5) (rs := j6) fun x hw hq => ⟨300, ?_⟩
 obtain ⟨(a : List Int), (t : Int), u⟩ := x
 have ha : E7 256 a := w3.1 hw.1
 have h2 : -2147483648 ≤ t ∧ t ≤ 2147483647 := t7.1 hw.2.1
 obtain ⟨h3, h4⟩ : (∀ z ∈ a, 0 ≤ z) ∧ 0 ≤ t := hq
 unfold s9
 refine (J2 (F := i7 300) (s := fun i => (a, (i : Int), [t], part (fun i => t - a.getD i 0) i a, z256, ())) (y := (o5 fun i => t - a.getD i 0, z256, ())) 256 ?_ ?_ 300 (by omega)).trans ?_
 ·intro i hi kn
  have hz := b1P ha i
  have hz0 : 0 ≤ a.getD i 0 := h3 _ (a3m (by rw [ha.1]; exact hi))
  unfold i7
  dsimp only
  rw [if_pos (by omega), if_pos (by omega), if_pos (by omega), if_pos (by omega), Int.toNat_natCast]
  refine (congrArg (fun o => Option.bind o _) (c0R ⟨hz0, hz.2⟩ ⟨h4, h2.2⟩)).trans ?_
  rw [Option.bind_some, if_pos (by omega), if_pos (by omega), if_pos (by omega), c7 (by omega) (by omega), u5 (h := fun i => t - a.getD i 0) (by rw [ha.1]; exact hi) rfl]
  rfl
 ·intro kn
  unfold i7
  dsimp only
  rw [if_neg (by omega), C3 ha.1]
  rfl
 ·rfl
theorem d6H {a : List Int} {t : Int} (ha : E7 256 a) (h : ∀ z ∈ a, 0 ≤ z) (h2 : 0 ≤ t ∧ t ≤ 2147483647) : s8 (a, t, ()) = some (o5 fun i => t - a.getD i 0) :=
 d9 (ks := j5) (rs := j6) (x := (a, t, ())) ⟨w3.2 ha, t7.2 (show _ ≤ t ∧ t ≤ _ by omega), trivial⟩ ⟨h, h2.1⟩
theorem d73 (t : Int) (n : Nat) (b : List Int) : (o5 fun i => t - (c7H n b).getD i 0) = a0t t n b := by
 unfold a0t o5
 exact List.map_congr_left fun i hi => by rw [d36 (List.mem_range.1 hi)]; rfl
theorem d6v {t d : Int} {b : List Int} : a5p [.int .i32, .int .i64, .sl (.int .u8)] (t, d, b, ()) ↔ (-2147483648 ≤ t ∧ t ≤ 2147483647) ∧ (-9223372036854775808 ≤ d ∧ d ≤ 9223372036854775807) ∧ (b.length ≤ maxLen ∧ ∀ z ∈ b, 0 ≤ z ∧ z ≤ 255) := by
 have : Kd.wf (.int .i64) d ↔ -9223372036854775808 ≤ d ∧ d ≤ 9223372036854775807 := u4
 have h2 : Kd.wf (.int .i32) t ↔ -2147483648 ≤ t ∧ t ≤ 2147483647 := t7
 simp only [a5p, b3d, and_true, this, h2]
theorem b69 : ∀ x r, j4 x = some r → ∃ N, a0p N x = some r := by
 refine i0 (ks := F3) (rs := F4) fun x hw hq => ⟨0, ?_⟩
 obtain ⟨(t : Int), (d : Int), (b : List Int), u⟩ := x
 obtain ⟨ht, hd, hb⟩ := d6v.1 hw
 obtain ⟨⟨ht0, ht1⟩, h0, h1, hl⟩ : (0 ≤ t ∧ t < 8380417) ∧ 1 ≤ d ∧ d ≤ 23 ∧ (b.length : Int) = 32 * d := hq
 obtain ⟨n, rfl⟩ : ∃ n : Nat, d = n := ⟨d.toNat, by omega⟩
 unfold a0p
 dsimp only
 rw [c5Z ⟨by omega, by omega, by omega⟩ hb.2, Option.bind_some, if_neg (by simp), if_neg (by omega), if_neg (by omega)]
 have hn : n ≤ 23 := by omega
 refine (congrArg (fun o => Option.bind o _) (d6H (t := t) (d5J hn b) (fun z hz => by obtain ⟨i, _, rfl⟩ := List.mem_map.1 hz; exact (d3j b i hn).1) ⟨ht0, by omega⟩)).trans ?_
 rw [Option.bind_some, d73, Int.toNat_natCast]
theorem a5U {n : Nat} {t : Int} {b : List Int} (ht : 0 ≤ t ∧ t < 8380417) (h : 1 ≤ n ∧ n ≤ 23 ∧ b.length = 32 * n) (hb : ∀ z ∈ b, 0 ≤ z ∧ z ≤ 255) : j4 (t, (n : Int), b, ()) = some (a0t t n b, 0) := by
 have hM : 1000000 ≤ maxLen := by decide
 have := d9 (ks := F3) (rs := F4) (x := (t, (n : Int), b, ())) (Q := fun x => (0 ≤ x.1 ∧ x.1 < 8380417) ∧ wOk x.2.1 x.2.2.1) (f := fun x => (a0t x.1 x.2.1.toNat x.2.2.1, 0)) (d6v.2 ⟨by omega, by omega, by omega, hb⟩) ⟨ht, by show (1 : Int) ≤ n; omega, by show (n : Int) ≤ 23; omega, by show (b.length : Int) = 32 * (n : Int); omega⟩
 exact this
theorem d1b {w : Int} (hw : w = 18 ∨ w = 20) {l : List Int} (hl : l.length = 66) (hb : ∀ z ∈ l, 0 ≤ z ∧ z ≤ 255) :
  v5 (256, IntKind.i64.wrap (32 * w), [l], ()) = some (a0l 136 31 l (32 * w.toNat), 0)
  ∧ j4 (b0Z IntKind.i32 1 (IntKind.i64.wrap (w - 1)), w, a0l 136 31 l (32 * w.toNat), ()) = some (a0t (2 ^ (w - 1).toNat) w.toNat (a0l 136 31 l (32 * w.toNat)), 0)
  ∧ ¬ IntKind.i64.wrap (w - 1) < 0 := by
 obtain ⟨n, rfl⟩ : ∃ n : Nat, w = n := ⟨w.toNat, by omega⟩
 have hn : n = 18 ∨ n = 20 := by omega
 rw [show ((n : Int) - 1).toNat = n - 1 by omega, Int.toNat_natCast]
 have e1 : IntKind.i64.wrap (32 * (n : Int)) = ((32 * n : Nat) : Int) := by rw [c7 (by omega) (by omega)]; omega
 have e2 : IntKind.i64.wrap ((n : Int) - 1) = ((n - 1 : Nat) : Int) := by rw [c7 (by omega) (by omega)]; omega
 have e3 : b0Z IntKind.i32 1 ((n - 1 : Nat) : Int) = 2 ^ (n - 1) := by
  have := b5Z (m := 1) (s := n - 1) (by omega) (by rcases hn with rfl | rfl <;> decide)
  refine this.trans ?_
  simp
 have e4 : (2 : Int) ^ (n - 1) < 8380417 := by rcases hn with rfl | rfl <;> decide
 rw [e1, e2, e3]
 exact ⟨b1x (by omega) ⟨by omega, hb⟩, a5U ⟨Int.le_of_lt (c5a _), e4⟩ ⟨by omega, by omega, c5s _ _ _ _⟩ (d9x _ _ _ _), by omega⟩
theorem c62 : ∀ x r, a7o x = some r → ∃ N, a7w N x = some r := by
 refine i0 (ks := a0N) (rs := a0O) fun x hw hq => ⟨0, ?_⟩
 obtain ⟨(w : Int), (l : List Int), u⟩ := x
 obtain ⟨hd, hl⟩ := d5P.1 hw
 unfold a7w c6J
 dsimp only
 by_cases he : w = 18 ∨ w = 20
 ·by_cases h : l.length = 66
  ·rw [if_neg (by omega : ¬((w ≠ 18 ∧ w ≠ 20) ∨ l.length ≠ 66))]
   obtain ⟨a1, a2, a3⟩ := d1b he h hl.2
   rcases he with h2 | h4
   ·rw [if_neg (by omega), if_neg (by omega)]
    refine (congrArg (fun o => Option.bind o _) a1).trans ?_
    rw [Option.bind_some, if_neg (by simp)]
    refine (if_neg a3).trans ?_
    exact congrArg (fun o => Option.bind o _) a2
   ·rw [if_pos (by omega), if_neg (by omega), if_neg (by omega)]
    refine (congrArg (fun o => Option.bind o _) a1).trans ?_
    rw [Option.bind_some, if_neg (by simp)]
    refine (if_neg a3).trans ?_
    exact congrArg (fun o => Option.bind o _) a2
  ·rw [if_pos (show (w ≠ 18 ∧ w ≠ 20) ∨ l.length ≠ 66 from .inr h)]
   rcases he with h2 | h4
   ·rw [if_neg (by omega), if_pos (by omega)]
   ·rw [if_pos (by omega), if_neg (by omega), if_pos (by omega)]
 ·rw [if_pos (by omega), if_pos (by omega), if_pos (by omega)]
end Go.Ax.TryP
set_option linter.unusedVariables false
set_option maxRecDepth 4000
namespace Go.Ax.TryP
open Go.Proofs
abbrev d7T (s : List Int) : List Int := a0l 136 31 s 1032
theorem c5r {s : List Int} {p : Nat} (h : p < 1032) : (d7T s).getD p 0 = shb s p := d0r h
theorem d3N {s : List Int} {i : Nat} : ∀ j at', at' ≤ 1032 → 1032 - at' ≤ j → at' ≤ a5M s i j at' ∧ a5M s i j at' ≤ 1032 ∧ (a5M s i j at' < 1032 → shb s (a5M s i j at') ≤ i)
 | 0, at', h1, h2 => by
  have e : at' = 1032 := by omega
  subst e
  exact ⟨Nat.le_refl _, Nat.le_refl _, fun h => absurd h (by simp [a5M])⟩
 | j + 1, at', h1, h2 => by
  unfold a5M
  by_cases h : at' < 1032 ∧ (i : Int) < shb s at'
  ·rw [if_pos h]
   obtain ⟨a, b, c⟩ := d3N (s := s) (i := i) j (at' + 1) (by omega) (by omega)
   exact ⟨by omega, b, c⟩
  ·rw [if_neg h]
   exact ⟨Nat.le_refl _, h1, fun h3 => by omega⟩
abbrev Id1 := Int × Nat × Nat × Nat × Int × Int × List Int × List Int × Nat × List Int × Unit
def bdX (tau : Int) (s : List Int) (p i : Nat) (c : List Int) : Id1 := (tau, 1024, 1024, 1032, ((p - 8 : Nat) : Int), (i : Int), z256, c, 1032, d7T s, ())
theorem d19 {tau : Int} {s : List Int} {i : Nat} {c : List Int} {N : Nat} {β : Type} (K : Id1 → Option β) : ∀ j p, 8 ≤ p → p ≤ 1032 → 1032 - p ≤ j → ∀ n, j < n →
  m9 (O6 N) n (bdX tau s p i c) K = K (bdX tau s (a5M s i j p) i c)
 | j, p, h0, h1, h2, n, hn => by
  obtain ⟨n, rfl⟩ : ∃ m, n = m + 1 := ⟨n - 1, by omega⟩
  simp only [m9]
  by_cases hp : p < 1032
  ·obtain ⟨j, rfl⟩ : ∃ i, j = i + 1 := ⟨j - 1, by omega⟩
   have hs := d1z s p
   have e : (d7T s).getD (8 + (p - 8)) 0 = shb s p := by rw [show 8 + (p - 8) = p by omega]; exact c5r hp
   have ew : IntKind.i64.wrap (((p - 8 : Nat) : Int) + 1) = ((p + 1 - 8 : Nat) : Int) := by rw [c7 (by omega) (by omega)]; omega
   unfold O6
   rw [show a5M s i (j + 1) p = if p < 1032 ∧ (i : Int) < shb s p then a5M s i j (p + 1) else p from rfl]
   unfold bdX
   dsimp only
   rw [if_pos (by omega), if_pos (by omega), if_pos (by omega), Int.toNat_natCast, if_pos (by omega), e, c7 (x := shb s p) (by omega) (by omega)]
   by_cases h : (i : Int) < shb s p
   ·rw [if_pos h, if_pos ⟨hp, h⟩, ew]
    exact d19 (N := N) K j (p + 1) (by omega) (by omega) (by omega) n (by omega)
   ·rw [if_neg (by omega), if_neg (by omega)]
  ·have e : a5M s i j p = p := by
    cases j with
    | zero => rfl
    | succ j => unfold a5M; rw [if_neg (by omega)]
   rw [e]
   unfold O6 bdX
   dsimp only
   rw [if_neg (by omega)]
theorem c56 {tau : Nat} {s : List Int} {k : Nat} (h : b3f tau s k = none) : ∀ d, b3f tau s (k + d) = none
 | 0 => h
 | d + 1 => by rw [← Nat.add_assoc, b3f, c56 h d]
abbrev Ok1 := (List Int × Unit) ⊕ (Int × List Int × Unit)
theorem d6P {tau : Nat} (ht : tau ≤ 64) {s : List Int} {k p : Nat} (hk : k < tau) {c : List Int} (hp : 8 ≤ p ∧ p ≤ 1032) {N : Nat} (hN : 1032 < N) {β : Type} (kn : Id1 → Option β) (ke : Ok1 → Option β) :
  G3 N β (bdX tau s p (256 - tau + k) c) kn ke
  = if a5M s (256 - tau + k) 1032 p = 1032 then ke (.inl (z256, ())) else
   if k + 1 = tau then ke (.inr (0, c2V s k (256 - tau + k) (a5M s (256 - tau + k) 1032 p) c, ())) else kn (bdX tau s (a5M s (256 - tau + k) 1032 p + 1) (256 - tau + (k + 1)) (c2V s k (256 - tau + k) (a5M s (256 - tau + k) 1032 p) c)) := by
 obtain ⟨a1, a2, a3⟩ := d3N (s := s) (i := 256 - tau + k) 1032 p hp.2 (by omega)
 unfold G3
 have hi : (bdX tau s p (256 - tau + k) c).2.2.2.2.2.1 = ((256 - tau + k : Nat) : Int) := rfl
 rw [hi, if_pos (by omega)]
 refine (d19 (N := N) _ 1032 p hp.1 hp.2 (by omega) N hN).trans ?_
 generalize a5M s (256 - tau + k) 1032 p = r at a1 a2 a3
 unfold bdX
 dsimp only
 by_cases hr : r = 1032
 ·subst hr
  rw [if_pos (by omega), if_pos rfl]
 ·have hs := d1z s r
  have hs2 := a3 (by omega)
  have hk8 := d1z s (k / 8)
  have e : (d7T s).getD (8 + (r - 8)) 0 = shb s r := by rw [show 8 + (r - 8) = r by omega]; exact c5r (by omega)
  have e8 : (d7T s).getD (k / 8) 0 = shb s (k / 8) := c5r (by omega)
  have ek : IntKind.i64.wrap (IntKind.i64.wrap (((256 - tau + k : Nat) : Int) + tau) - 256) = (k : Int) := by rw [c7 (x := ((256 - tau + k : Nat) : Int) + tau) (by omega) (by omega), c7 (by omega) (by omega)]; omega
  have ed : IntKind.i64.wrap (Int.tdiv (k : Int) 8) = ((k / 8 : Nat) : Int) := by rw [b0v (by omega), c7 (by omega) (by omega)]; omega
  have em : Int.tmod (k : Int) 8 = ((k % 8 : Nat) : Int) := by rw [b0w (by omega)]; omega
  have w1 : IntKind.i64.wrap (((r - 8 : Nat) : Int) + 1) = ((r + 1 - 8 : Nat) : Int) := by rw [c7 (by omega) (by omega)]; omega
  have w2 : IntKind.i64.wrap (((256 - tau + k : Nat) : Int) + 1) = ((256 - tau + (k + 1) : Nat) : Int) := by rw [c7 (by omega) (by omega)]; omega
  rw [if_neg (by omega), if_pos (by omega), if_pos (by omega), if_neg hr]
  simp only [Int.toNat_natCast, ek, ed, em, e, e8, w1, w2]
  rw [if_pos (by omega), if_pos (by omega), if_pos (by omega), if_pos (by omega), if_pos (by omega), if_pos (by omega), if_pos (by omega), if_pos (by omega), if_pos (by omega), if_pos (by omega), if_pos (by omega), if_pos (by omega), if_pos (by omega), if_neg (by omega)]
  rw [d5Z hk8.1 hk8.2 (by omega)]
  unfold c2V
  by_cases hb : c2W (shb s (k / 8)) (k % 8) = 1
  ·rw [if_pos hb, if_pos hs.1, if_pos (by omega), if_pos (by omega), if_pos hb, List.set_set]
   by_cases h2 : k + 1 = tau
   ·rw [if_pos (by omega), if_pos h2]
   ·rw [if_neg (by omega), if_neg h2]
  ·rw [if_neg hb, if_neg hb]
   by_cases h2 : k + 1 = tau
   ·rw [if_pos (by omega), if_pos h2]
   ·rw [if_neg (by omega), if_neg h2]
def d91 {β : Type} (o : Option (List Int × Nat)) (f : Option β) (g : List Int → Option β) : Option β := match o with
 | none => f
 | some (c, _) => g c
theorem d5Y {tau : Nat} (ht : tau ≤ 64) {s : List Int} {N : Nat} (hN : 1032 < N) {β : Type} (K : Ok1 → Option β) : ∀ j k p c, k + (j + 1) = tau → b3f tau s k = some (c, p) → 8 ≤ p ∧ p ≤ 1032 → ∀ n, j < n →
  m9 (G3 N) n (bdX tau s p (256 - tau + k) c) K = d91 (b3f tau s tau) (K (.inl (z256, ()))) fun c => K (.inr (0, c, ()))
 | j, k, p, c, h, hb, hp, n, hn => by
  obtain ⟨n, rfl⟩ : ∃ m, n = m + 1 := ⟨n - 1, by omega⟩
  simp only [m9]
  obtain ⟨a1, a2, a3⟩ := d3N (s := s) (i := 256 - tau + k) 1032 p hp.2 (by omega)
  have e1 : b3f tau s (k + 1) = if a5M s (256 - tau + k) 1032 p = 1032 then none else some (c2V s k (256 - tau + k) (a5M s (256 - tau + k) 1032 p) c, a5M s (256 - tau + k) 1032 p + 1) := by rw [b3f, hb]
  rw [d6P ht (by omega) hp hN]
  by_cases hr : a5M s (256 - tau + k) 1032 p = 1032
  ·rw [if_pos hr] at e1 ⊢
   have := c56 e1 j
   rw [show k + 1 + j = tau by omega] at this
   rw [this]
   rfl
  ·rw [if_neg hr] at e1 ⊢
   by_cases h2 : k + 1 = tau
   ·rw [if_pos h2]
    rw [h2] at e1
    rw [e1]
    rfl
   ·rw [if_neg h2]
    obtain ⟨j, rfl⟩ : ∃ i, j = i + 1 := ⟨j - 1, by omega⟩
    exact d5Y ht hN K j (k + 1) _ _ (by omega) e1 (by omega) n (by omega)
theorem c61 : ∀ x r, a48 x = some r → ∃ N, a7s N x = some r := by
 refine i0 (ks := a0L) (rs := a0M) fun x hw hq => ⟨1133, ?_⟩
 obtain ⟨(tau : Int), (l : List Int), u⟩ := x
 obtain ⟨hd, hl⟩ := d5P.1 hw
 have hq : l.length ≤ 1000 := hq
 unfold a7s a4b
 dsimp only
 by_cases h1 : tau < 1
 ·rw [if_pos h1, if_pos (.inl h1)]
 by_cases h2 : 64 < tau
 ·rw [if_neg h1, if_pos h2, if_pos (.inr h2)]
 rw [if_neg h1, if_neg h2, if_neg (by omega : ¬(tau < 1 ∨ 64 < tau))]
 refine (congrArg (fun o => Option.bind o _) (b1x (l := l) (n := 1032) (by omega) ⟨by omega, hl.2⟩)).trans ?_
 rw [Option.bind_some, if_neg (by simp)]
 dsimp only
 rw [c5s, if_pos (by omega), if_pos (by omega), c7 (by omega) (by omega)]
 obtain ⟨n, rfl⟩ : ∃ n : Nat, tau = n := ⟨tau.toNat, by omega⟩
 have hx : ((n : Int), 1032 - 8, 1032 - 8, 1032, (0 : Int), (256 : Int) - n, z256, z256, 1032, d7T l, ()) = bdX n l 8 (256 - n + 0) z256 := by
  unfold bdX
  rw [show ((256 - n + 0 : Nat) : Int) = 256 - (n : Int) by omega]
  rfl
 show m9 (G3 1133) (100 + 1033) ((n : Int), 1032 - 8, 1032 - 8, 1032, (0 : Int), (256 : Int) - n, z256, z256, 1032, d7T l, ()) _ = _
 rw [hx, Int.toNat_natCast]
 refine (d5Y (tau := n) (by omega) (N := 1133) (by omega) _ (n - 1) 0 8 z256 (by omega) rfl ⟨by omega, by omega⟩ _ (by omega)).trans ?_
 cases b3f n l n with
 | none => rfl
 | some v => rfl
end Go.Ax.TryP
set_option linter.unusedVariables false
namespace Go.Ax.TryP
open Go.Proofs
theorem c4l (f : Nat → List Int) (t : Nat) : ∀ d : Nat, ∃ r, b2S f (t + d) = b2S f t ++ r
 | 0 => ⟨[], by simp⟩
 | d + 1 => by
  obtain ⟨r, h⟩ := c4l f t d
  exact ⟨r ++ f (t + d), by rw [← Nat.add_assoc, b2S, h, List.append_assoc]⟩
theorem c0K (f : Nat → List Int) {t u : Nat} (h : t ≤ u) : (b2S f t).length ≤ (b2S f u).length := by
 obtain ⟨r, e⟩ := c4l f t (u - t)
 rw [show t + (u - t) = u by omega] at e
 rw [e, List.length_append]
 omega
theorem d7n {l : List Int} {k i : Nat} (h : l.getD (k * 256 + i) 0 ≠ 0) : b2S (mkP l k) (i + 1) = b2S (mkP l k) i ++ [(i : Int)] := by rw [b2S, mkP, if_pos h]
theorem d6e {l : List Int} {k i : Nat} (h : ¬ l.getD (k * 256 + i) 0 ≠ 0) : b2S (mkP l k) (i + 1) = b2S (mkP l k) i := by rw [b2S, mkP, if_neg h, List.append_nil]
def d3r (m : Nat) (P E : List Int) : List Int := P ++ List.replicate (m - P.length) 0 ++ E
theorem d5j {m : Nat} {P E : List Int} (h : P.length < m) (v : Int) : (d3r m P E).set P.length v = d3r m (P ++ [v]) E := by
 unfold d3r
 obtain ⟨d, hd⟩ : ∃ d, m - P.length = d + 1 := ⟨m - P.length - 1, by omega⟩
 rw [List.append_assoc, List.set_append_right _ _ (Nat.le_refl _), Nat.sub_self, hd, List.replicate_succ, List.cons_append, List.set_cons_zero, List.length_append, List.length_singleton, show m - (P.length + 1) = d by omega]
 simp
theorem d5i {m : Nat} {P E : List Int} (h : P.length ≤ m) (k : Nat) (v : Int) : (d3r m P E).set (m + k) v = d3r m P (E.set k v) := by
 unfold d3r
 have hl : (P ++ List.replicate (m - P.length) 0).length = m := by rw [List.length_append, List.length_replicate]; omega
 rw [List.set_append_right _ _ (by omega), hl, show m + k - m = k by omega]
theorem c5R (l : List Int) (k : Nat) : X6 l (k + 1) = X6 l k ++ b2S (mkP l k) 256 := rfl
abbrev Op := (Int × Unit) ⊕ (Nat × Int × Nat × Int × Int × Int × Int × Nat × List Int × Nat × List Int × Unit)
theorem d7I {l E : List Int} {n m k : Nat} (hl : l.length = n * 256) (hk : k < n) (hm : m ≤ 255) {L N : Nat} {nI : Int} {β : Type} (K : Op → Option β) (hL : L = m + n) : ∀ j i, i + j = 256 → (X6 l k ++ b2S (mkP l k) i).length ≤ m → ∀ q, j < q →
  m9 (C5 N) q (n, (m : Int), L, ((X6 l k ++ b2S (mkP l k) i).length : Int), (k : Int), nI, (k : Int), (i : Int), l.length, l, L, d3r m (X6 l k ++ b2S (mkP l k) i) E, ()) K
  = if (X6 l (k + 1)).length ≤ m then K (.inr (n, (m : Int), L, ((X6 l (k + 1)).length : Int), (k : Int), nI, (k : Int), l.length, l, L, d3r m (X6 l (k + 1)) E, ())) else K (.inl (3, ()))
 | 0, i, hi, hP, q, hq => by
  obtain ⟨q, rfl⟩ : ∃ m, q = m + 1 := ⟨q - 1, by omega⟩
  have hi : i = 256 := by omega
  subst hi
  rw [c5R, if_pos hP]
  simp only [m9]
  unfold C5
  dsimp only
  rw [if_neg (by omega)]
 | j + 1, i, hi, hP, q, hq => by
  obtain ⟨q, rfl⟩ : ∃ m, q = m + 1 := ⟨q - 1, by omega⟩
  simp only [m9]
  unfold C5
  dsimp only
  rw [if_pos (by omega), if_pos (by omega), if_pos (by omega), if_pos (by omega), if_pos (by omega), Int.toNat_natCast, Int.toNat_natCast, if_pos (by omega), c7 (x := (i : Int) + 1) (by omega) (by omega)]
  by_cases h : l.getD (k * 256 + i) 0 ≠ 0
  ·rw [if_neg (by omega)]
   have hp := d7n h
   by_cases g : (X6 l k ++ b2S (mkP l k) i).length = m
   ·rw [if_pos (by omega), if_neg ?_]
    have := c0K (mkP l k) (show i + 1 ≤ 256 by omega)
    rw [hp, List.length_append, List.length_singleton] at this
    rw [c5R, List.length_append]
    rw [List.length_append] at g
    omega
   ·rw [if_neg (by omega), if_pos (by omega), if_pos (by omega), Int.toNat_natCast, if_pos (by omega), d5j (by omega), b8Y (by omega) (by omega), c7 (by omega) (by omega)]
    have e : X6 l k ++ b2S (mkP l k) i ++ [(i : Int)] = X6 l k ++ b2S (mkP l k) (i + 1) := by rw [hp, List.append_assoc]
    have el : ((X6 l k ++ b2S (mkP l k) i).length : Int) + 1 = ((X6 l k ++ b2S (mkP l k) (i + 1)).length : Int) := by rw [← e, List.length_append (bs := [(i : Int)]), List.length_singleton]; omega
    rw [e, el]
    exact d7I (N := N) hl hk hm K hL j (i + 1) (by omega) (by omega) q (by omega)
  ·rw [if_pos h, ← d6e h]
   rw [← d6e h] at hP
   exact d7I (N := N) hl hk hm K hL j (i + 1) (by omega) hP q (by omega)
abbrev Oq := (Int × Unit) ⊕ (Nat × Nat × List Int × Unit)
theorem d6h {l : List Int} {n m : Nat} (hl : l.length = n * 256) (hm : m ≤ 255) (hn : n ≤ 16) {N : Nat} (hN : 300 < N) {β : Type} (K : Oq → Option β) : ∀ j k, k + j = n → (X6 l k).length ≤ m → ∀ q, j < q →
  m9 (v3 N) q (n, (m : Int), m + n, ((X6 l k).length : Int), (n : Int), (k : Int), l.length, l, m + n, d3r m (X6 l k) (part (c7J l) k (List.replicate n 0)), ()) K
  = if (X6 l n).length ≤ m then K (.inr (m + n, m + n, d3r m (X6 l n) ((List.range n).map (c7J l)), ())) else K (.inl (3, ()))
 | 0, k, hk, hP, q, hq => by
  obtain ⟨q, rfl⟩ : ∃ m, q = m + 1 := ⟨q - 1, by omega⟩
  have hk : k = n := by omega
  subst hk
  rw [if_pos hP]
  simp only [m9]
  unfold v3
  dsimp only
  rw [if_neg (by omega), C3 (List.length_replicate ..)]
 | j + 1, k, hk, hP, q, hq => by
  obtain ⟨q, rfl⟩ : ∃ m, q = m + 1 := ⟨q - 1, by omega⟩
  simp only [m9]
  unfold v3
  dsimp only
  rw [if_pos (by omega)]
  have e0 : X6 l k = X6 l k ++ b2S (mkP l k) 0 := (List.append_nil _).symm
  have := d7I (N := N) (l := l) (E := part (c7J l) k (List.replicate n 0)) (n := n) (m := m) (k := k) (L := m + n) (nI := (n : Int)) hl (by omega) hm (fun y => match y with
   | .inl y1 => K (.inl (y1.1, ()))
   | .inr y2 => (if 0 ≤ (IntKind.i64.wrap (y2.2.1 + y2.2.2.2.2.1)) then (
   if (IntKind.i64.wrap (y2.2.1 + y2.2.2.2.2.1)) < ((y2.2.2.1 : Nat) : Int) then (
   if ((IntKind.i64.wrap (y2.2.1 + y2.2.2.2.2.1)).toNat) < y2.2.2.2.2.2.2.2.2.2.1 then (
   m9 (v3 N) q (y2.1, y2.2.1, y2.2.2.1, y2.2.2.2.1, y2.2.2.2.2.2.1, (IntKind.i64.wrap (y2.2.2.2.2.2.2.1 + (1:Int))), y2.2.2.2.2.2.2.2.1, y2.2.2.2.2.2.2.2.2.1, y2.2.2.2.2.2.2.2.2.2.1, (List.set y2.2.2.2.2.2.2.2.2.2.2.1 ((IntKind.i64.wrap (y2.2.1 + y2.2.2.2.2.1)).toNat) (IntKind.u8.wrap y2.2.2.2.1)), ()) K) else none) else none) else none)) rfl 256 0 (by omega) (by rw [← e0]; exact hP) N (by omega)
  rw [← e0] at this
  refine this.trans ?_
  clear this
  by_cases h : (X6 l (k + 1)).length ≤ m
  ·rw [if_pos h]
   have ew : IntKind.i64.wrap ((m : Int) + k) = ((m + k : Nat) : Int) := by rw [c7 (by omega) (by omega)]; omega
   dsimp only
   rw [ew, if_pos (by omega), if_pos (by omega), Int.toNat_natCast, if_pos (by omega), c7 (by omega) (by omega), b8Y (by omega) (by omega), d5i h, u5 (h := c7J l) (i := k) (z := ((X6 l (k + 1)).length : Int)) (by rw [List.length_replicate]; omega) rfl]
   exact d6h hl hm hn hN K j (k + 1) (by omega) h q (by omega)
  ·rw [if_neg h, if_neg ?_]
   have := c0K (c5K l) (show k + 1 ≤ n by omega)
   exact fun h2 => h (Nat.le_trans this h2)
theorem d5O {l : List Int} (h : Kd.wf (.sla .bool 256) l) : ∃ n, l.length = n * 256 ∧ ∀ z ∈ l, z = 0 ∨ z = 1 := by
 obtain ⟨⟨n, h1, _⟩, h2⟩ := h
 exact ⟨n, h1, h2⟩
theorem b8K : ∀ x r, a1j x = some r → ∃ N, a1o N x = some r := by
 refine i0 (ks := H7) (rs := H8) fun x hw hq => ⟨400, ?_⟩
 obtain ⟨(l : List Int), (most : Int), u⟩ := x
 obtain ⟨n, (hl : l.length = n * 256), _⟩ := d5O hw.1
 have en : l.length / 256 = n := by omega
 unfold a1o b8H
 dsimp only
 rw [en]
 by_cases h1 : n > 16
 ·rw [if_pos (by omega), if_pos (.inl (.inl h1))]
 rw [if_neg (by omega)]
 by_cases h2 : most < 0
 ·rw [if_pos h2, if_pos (.inl (.inr h2))]
 rw [if_neg h2]
 by_cases h3 : 255 < most
 ·rw [if_pos h3, if_pos (.inr h3)]
 rw [if_neg h3, if_neg (by omega : ¬((n > 16 ∨ most < 0) ∨ 255 < most))]
 obtain ⟨m, rfl⟩ : ∃ m : Nat, most = m := ⟨most.toNat, by omega⟩
 have ew : IntKind.i64.wrap ((m : Int) + n) = ((m + n : Nat) : Int) := by rw [c7 (by omega) (by omega)]; omega
 rw [ew, if_pos (by omega), if_pos rfl, if_pos (by omega), Int.toNat_natCast, Int.toNat_natCast]
 have ez : List.replicate (m + n) (0 : Int) = d3r m (X6 l 0) (part (c7J l) 0 (List.replicate n 0)) := by
  show _ = [] ++ List.replicate (m - 0) 0 ++ ((List.range 0).map (c7J l) ++ List.drop 0 (List.replicate n 0))
  simp
 rw [ez]
 refine (d6h hl (by omega) (by omega) (N := 400) (by omega) _ n 0 (by omega) (by show 0 ≤ m; omega) 400 (by omega)).trans ?_
 by_cases h : (X6 l n).length ≤ m
 ·rw [if_pos h, if_neg (by omega)]
  rfl
 ·rw [if_neg h, if_pos (by omega)]
open Classical
theorem d4F {b : List Int} (h : ∀ z ∈ b, 0 ≤ z ∧ z ≤ 255) (i : Nat) : 0 ≤ b.getD i 0 ∧ b.getD i 0 ≤ 255 := by
 by_cases hi : i < b.length
 ·exact h _ (a3m hi)
 ·rw [b5W (by omega)]; omega
abbrev Ou := (Int × Unit) ⊕ (Int × Nat × Nat × Int × Int × Int × Nat × List Int × Nat × List Int × Unit)
theorem d72 {b h : List Int} {n m k a e : Nat} (hb : ∀ z ∈ b, 0 ≤ z ∧ z ≤ 255) (hl : b.length = m + n) (hm : m ≤ 255) (hn : n ≤ 16) (hk : k < n) (he : e ≤ m) {nI : Int} {N : Nat} {β : Type} (K : Ou → Option β) : ∀ j i, i + j = e → a ≤ i → d4V b a i → ∀ q, j < q →
  m9 (v6 N) q ((m : Int), b.length, n, (a : Int), (k : Int), (e : Int), (i : Int), nI, (k : Int), b.length, b, n * 256, a9Q b k a h (i - a), ()) K
  = if d4V b a e then K (.inr ((m : Int), b.length, n, (e : Int), nI, (k : Int), b.length, b, n * 256, a9Q b k a h (e - a), ())) else K (.inl (150, ()))
 | 0, i, hi, ha, hg, q, hq => by
  obtain ⟨q, rfl⟩ : ∃ m, q = m + 1 := ⟨q - 1, by omega⟩
  have hi : i = e := by omega
  subst hi
  rw [if_pos hg]
  simp only [m9]
  unfold v6
  dsimp only
  rw [if_neg (by omega)]
 | j + 1, i, hi, ha, hg, q, hq => by
  obtain ⟨q, rfl⟩ : ∃ m, q = m + 1 := ⟨q - 1, by omega⟩
  have b0 := d4F hb i
  have em : (a9Q b k a h (i - a)).set (k * 256 + (b.getD i 0).toNat) 1 = a9Q b k a h (i + 1 - a) := by
   rw [show i + 1 - a = (i - a) + 1 by omega, a9Q, show a + (i - a) = i by omega]
  simp only [m9]
  unfold v6
  dsimp only
  rw [if_pos (by omega)]
  by_cases g : (a : Int) < i
  ·have ew : IntKind.i64.wrap ((i : Int) - 1) = ((i - 1 : Nat) : Int) := by rw [c7 (by omega) (by omega)]; omega
   rw [if_pos g, if_pos (by omega), if_pos (by omega), ew, Int.toNat_natCast, Int.toNat_natCast, Int.toNat_natCast, if_pos (by omega), if_pos (by omega), if_pos (by omega), if_pos (by omega)]
   by_cases c : b.getD i 0 ≤ b.getD (i - 1) 0
   ·rw [if_pos c, if_neg ?_]
    intro h2
    have := h2 i (by omega) (by omega)
    omega
   ·rw [if_neg c, if_pos (by omega), if_pos (by omega), if_pos (by omega), if_pos (by omega), if_pos (by omega), if_pos b0.1, if_pos (by omega), if_pos (by omega), c7 (by omega) (by omega), em]
    refine d72 (N := N) hb hl hm hn hk he K j (i + 1) (by omega) (by omega) ?_ q (by omega)
    intro i2 h1 h2
    by_cases h3 : i2 = i
    ·subst h3; omega
    ·exact hg i2 h1 (by omega)
  ·rw [if_neg g, if_pos (by omega), if_pos (by omega), Int.toNat_natCast, Int.toNat_natCast, if_pos (by omega), if_pos (by omega), if_pos (by omega), if_pos b0.1, if_pos (by omega), if_pos (by omega), c7 (by omega) (by omega), em]
   exact d72 (N := N) hb hl hm hn hk he K j (i + 1) (by omega) (by omega) (fun i2 h1 h2 => by omega) q (by omega)
abbrev Ov := (Int × Unit) ⊕ (Int × Nat × Nat × Int × Nat × List Int × Nat × List Int × Unit)
theorem d6s {b h : List Int} {n m : Nat} (hb : ∀ z ∈ b, 0 ≤ z ∧ z ≤ 255) (hl : b.length = m + n) (hm : m ≤ 255) (hn : n ≤ 16) {N : Nat} (hN : 300 < N) {β : Type} (K : Ov → Option β) : ∀ j k, k + j = n → a7k b m k ≤ m → okR b m k → okG b m k → ∀ q, j < q →
  m9 (s7 N) q ((m : Int), b.length, n, (a7k b m k : Int), (n : Int), (k : Int), b.length, b, n * 256, a8R b m h k, ()) K
  = if okR b m n ∧ okG b m n then K (.inr ((m : Int), b.length, n, (a7k b m n : Int), b.length, b, n * 256, a8R b m h n, ())) else K (.inl (150, ()))
 | 0, k, hk, hc, hr, hg, q, hq => by
  obtain ⟨q, rfl⟩ : ∃ m, q = m + 1 := ⟨q - 1, by omega⟩
  have hk : k = n := by omega
  subst hk
  rw [if_pos ⟨hr, hg⟩]
  simp only [m9]
  unfold s7
  dsimp only
  rw [if_neg (by omega)]
 | j + 1, k, hk, hc, hr, hg, q, hq => by
  obtain ⟨q, rfl⟩ : ∃ m, q = m + 1 := ⟨q - 1, by omega⟩
  have b0 := d4F hb (m + k)
  have ew : IntKind.i64.wrap ((m : Int) + k) = ((m + k : Nat) : Int) := by rw [c7 (by omega) (by omega)]; omega
  have ec : b.getD (m + k) 0 = (a7k b m (k + 1) : Int) := by
   show _ = (((b.getD (m + k) 0).toNat : Nat) : Int)
   omega
  simp only [m9]
  unfold s7
  dsimp only
  rw [if_pos (by omega), ew, if_pos (by omega), if_pos (by omega), Int.toNat_natCast, if_pos (by omega), c7 (x := b.getD (m + k) 0) (by omega) (by omega), ec]
  by_cases c1 : (a7k b m (k + 1) : Int) < a7k b m k
  ·rw [if_pos c1, if_neg ?_]
   intro h2
   have := h2.1 k (by omega)
   omega
  rw [if_neg c1]
  by_cases c2 : (m : Int) < a7k b m (k + 1)
  ·rw [if_pos c2, if_neg ?_]
   intro h2
   have := h2.1 k (by omega)
   omega
  rw [if_neg c2]
  have e0 : a8R b m h k = a9Q b k (a7k b m k) (a8R b m h k) (a7k b m k - a7k b m k) := by rw [Nat.sub_self]; rfl
  have := d72 (N := N) (b := b) (h := a8R b m h k) (n := n) (m := m) (k := k) (a := a7k b m k) (e := a7k b m (k + 1)) (nI := (n : Int)) hb hl hm hn (by omega) (by omega) (fun y => match y with
    | .inl y1 => (
     K (.inl (y1.1, ())))
    | .inr y2 => (
     m9 (s7 N) q (y2.1, y2.2.1, y2.2.2.1, y2.2.2.2.1, y2.2.2.2.2.1, (IntKind.i64.wrap (y2.2.2.2.2.2.1 + (1:Int))), y2.2.2.2.2.2.2.1, y2.2.2.2.2.2.2.2.1, y2.2.2.2.2.2.2.2.2.1, y2.2.2.2.2.2.2.2.2.2.1, ()) K)) (a7k b m (k + 1) - a7k b m k) (a7k b m k) (by omega) (Nat.le_refl _) (fun i2 h1 h2 => by omega) N (by omega)
  rw [← e0] at this
  refine this.trans ?_
  clear this
  by_cases g : d4V b (a7k b m k) (a7k b m (k + 1))
  ·rw [if_pos g]
   dsimp only
   rw [c7 (by omega) (by omega)]
   refine d6s hb hl hm hn hN K j (k + 1) (by omega) (by omega) ?_ ?_ q (by omega)
   ·intro k2 h2
    by_cases h3 : k2 = k
    ·subst h3; omega
    ·exact hr k2 (by omega)
   ·intro k2 h2
    by_cases h3 : k2 = k
    ·subst h3; exact g
    ·exact hg k2 (by omega)
  ·rw [if_neg g, if_neg ?_]
   intro h2
   exact g (h2.2 k (by omega))
abbrev Ow := (Int × Unit) ⊕ (Nat × Nat × List Int × Unit)
theorem d34 {b h : List Int} {n m a : Nat} (hl : b.length = m + n) (hm : m ≤ 255) (ha : a ≤ m) {L : Nat} {N : Nat} {β : Type} (K : Ow → Option β) : ∀ j i, a + i + j = m → (∀ i2, a ≤ i2 → i2 < a + i → b.getD i2 0 = 0) → ∀ q, j < q →
  m9 (v7 N) q (n, a, m - a, L, ((m - a : Nat) : Int), (i : Int), n * 256, h, b.length, b, ()) K
  = if ∀ i2, a ≤ i2 → i2 < m → b.getD i2 0 = 0 then K (.inr (n, n * 256, h, ())) else K (.inl (150, ()))
 | 0, i, hi, hz, q, hq => by
  obtain ⟨q, rfl⟩ : ∃ m, q = m + 1 := ⟨q - 1, by omega⟩
  rw [if_pos (fun i2 h1 h2 => hz i2 h1 (by omega))]
  simp only [m9]
  unfold v7
  dsimp only
  rw [if_neg (by omega)]
 | j + 1, i, hi, hz, q, hq => by
  obtain ⟨q, rfl⟩ : ∃ m, q = m + 1 := ⟨q - 1, by omega⟩
  simp only [m9]
  unfold v7
  dsimp only
  have ea : c2U a i = a + i := a2C a i
  rw [if_pos (by omega), if_pos (by omega), if_pos (by omega), Int.toNat_natCast, ea, if_pos (by omega), c7 (by omega) (by omega)]
  by_cases c : b.getD (a + i) 0 ≠ 0
  ·rw [if_pos c, if_neg ?_]
   exact fun h2 => c (h2 (a + i) (by omega) (by omega))
  ·rw [if_neg c]
   refine d34 (N := N) hl hm ha K j (i + 1) (by omega) ?_ q (by omega)
   intro i2 h1 h2
   by_cases h3 : i2 = a + i
   ·subst h3; omega
   ·exact hz i2 h1 (by omega)
theorem d8z {b : List Int} {m : Nat} : ∀ {n : Nat}, okR b m n → a7k b m n ≤ m
 | 0, _ => Nat.zero_le _
 | n + 1, h => (h n (by omega)).2
theorem d9H {n m : Int} {b : List Int} : a5p [.int .i64, .int .i64, .sl (.int .u8)] (n, m, b, ()) ↔ (-9223372036854775808 ≤ n ∧ n ≤ 9223372036854775807) ∧ (-9223372036854775808 ≤ m ∧ m ≤ 9223372036854775807) ∧ (b.length ≤ maxLen ∧ ∀ z ∈ b, 0 ≤ z ∧ z ≤ 255) := by
 have : Kd.wf (.int .i64) n ↔ -9223372036854775808 ≤ n ∧ n ≤ 9223372036854775807 := u4
 have h2 : Kd.wf (.int .i64) m ↔ -9223372036854775808 ≤ m ∧ m ≤ 9223372036854775807 := u4
 simp only [a5p, b3d, and_true, this, h2]
theorem b5r : ∀ x r, K5 x = some r → ∃ N, V4 N x = some r := by
 refine i0 (ks := C8) (rs := C9) fun x hw hq => ⟨400, ?_⟩
 obtain ⟨(n : Int), (most : Int), (b : List Int), u⟩ := x
 obtain ⟨h1, h2, hb⟩ := d9H.1 hw
 unfold V4 a8w
 dsimp only
 by_cases c1 : n < 0
 ·rw [if_pos c1, if_pos (.inl (.inl c1))]
 rw [if_neg c1]
 by_cases c2 : 16 < n
 ·rw [if_pos c2, if_pos (.inl (.inr c2))]
 rw [if_neg c2]
 by_cases c3 : most < 0
 ·rw [if_pos c3, if_pos (.inr (.inl (.inl c3)))]
 rw [if_neg c3]
 by_cases c4 : 255 < most
 ·rw [if_pos c4, if_pos (.inr (.inl (.inr c4)))]
 rw [if_neg c4, c7 (by omega) (by omega)]
 by_cases c5 : (b.length : Int) ≠ most + n
 ·rw [if_pos c5, if_pos (.inr (.inr c5))]
 rw [if_neg c5, if_neg (by omega : ¬((n < 0 ∨ 16 < n) ∨ (most < 0 ∨ 255 < most) ∨ (b.length : Int) ≠ most + n)), if_pos (by omega), if_pos rfl, if_pos (by omega)]
 obtain ⟨m, rfl⟩ : ∃ m : Nat, most = m := ⟨most.toNat, by omega⟩
 obtain ⟨n, rfl⟩ : ∃ m : Nat, n = m := ⟨n.toNat, by omega⟩
 rw [Int.toNat_natCast, Int.toNat_natCast]
 have hl : b.length = m + n := by omega
 refine (d6s hb.2 hl (by omega) (by omega) (N := 400) (by omega) _ n 0 (by omega) (Nat.zero_le _) (fun k hk => by omega) (fun k hk => by omega) 400 (by omega)).trans ?_
 by_cases h : okR b m n ∧ okG b m n
 ·have hc := d8z h.1
  rw [if_pos h]
  dsimp only
  rw [if_pos (by omega), if_pos (by omega), if_pos (by omega), Int.toNat_natCast, Int.toNat_natCast, if_pos (by omega)]
  have es : d0t m (a7k b m n) = m - a7k b m n := X2 _ _
  rw [es]
  refine (d34 (N := 400) hl (by omega) hc _ (m - a7k b m n) 0 (by omega) (fun i2 h1 h2 => by omega) 400 (by omega)).trans ?_
  by_cases hz : ∀ i2, a7k b m n ≤ i2 → i2 < m → b.getD i2 0 = 0
  ·rw [if_pos hz, if_pos ⟨h.1, h.2, hz⟩]
  ·rw [if_neg hz, if_neg (fun g => hz g.2.2)]
 ·rw [if_neg h, if_neg (fun g => h ⟨g.1, g.2.1⟩)]
theorem b1X (b : List Int) (k a : Nat) (h : List Int) : ∀ j, (a9Q b k a h j).length = h.length
 | 0 => rfl
 | j + 1 => by rw [a9Q, List.length_set, b1X b k a h j]
theorem b5X (b : List Int) (m : Nat) (h : List Int) : ∀ k, (a8R b m h k).length = h.length
 | 0 => rfl
 | k + 1 => by rw [a8R, b1X, b5X b m h k]
theorem c92 {b : List Int} {k a : Nat} {h : List Int} (h0 : ∀ i, h.getD i 0 = 0 ∨ h.getD i 0 = 1) : ∀ j i, (a9Q b k a h j).getD i 0 = 0 ∨ (a9Q b k a h j).getD i 0 = 1
 | 0, i => h0 i
 | j + 1, i => by
  by_cases e : k * 256 + (b.getD (a + j) 0).toNat = i ∧ i < h.length
  ·rw [a9Q, e.1, a0K (by rw [b1X]; exact e.2)]
   exact .inr rfl
  ·by_cases e2 : k * 256 + (b.getD (a + j) 0).toNat = i
   ·rw [b5W (by rw [b1X]; omega)]
    exact .inl rfl
   ·rw [a9Q, getD_set_ne e2]
    exact c92 h0 j i
theorem c4K {b : List Int} {m : Nat} {h : List Int} (h0 : ∀ i, h.getD i 0 = 0 ∨ h.getD i 0 = 1) : ∀ k i, (a8R b m h k).getD i 0 = 0 ∨ (a8R b m h k).getD i 0 = 1
 | 0, i => h0 i
 | k + 1, i => by rw [a8R]; exact c92 (c4K h0 k) _ i
theorem c6H {b : List Int} (hb : ∀ z ∈ b, 0 ≤ z ∧ z ≤ 255) {k a : Nat} {h : List Int} (hk : k * 256 + 256 ≤ h.length) : ∀ j i, i < 256 → ((a9Q b k a h j).getD (k * 256 + i) 0 ≠ 0 ↔ h.getD (k * 256 + i) 0 ≠ 0 ∨ ∃ t, t < j ∧ b.getD (a + t) 0 = i)
 | 0, i, hi => ⟨.inl, fun h => h.elim id fun ⟨t, ht, _⟩ => by omega⟩
 | j + 1, i, hi => by
  have b0 := d4F hb (a + j)
  have ih := c6H hb hk (a := a) j i hi
  by_cases e : k * 256 + (b.getD (a + j) 0).toNat = k * 256 + i
  ·rw [a9Q, e, a0K (by rw [b1X]; omega)]
   exact ⟨fun _ => .inr ⟨j, by omega, by omega⟩, fun _ => by decide⟩
  ·rw [a9Q, getD_set_ne e, ih]
   constructor
   ·rintro (h1 | ⟨t, ht, h1⟩)
    ·exact .inl h1
    ·exact .inr ⟨t, by omega, h1⟩
   ·rintro (h1 | ⟨t, ht, h1⟩)
    ·exact .inl h1
    ·by_cases h2 : t = j
     ·subst h2; omega
     ·exact .inr ⟨t, by omega, h1⟩
theorem c1H {b : List Int} (hb : ∀ z ∈ b, 0 ≤ z ∧ z ≤ 255) {k a : Nat} {h : List Int} {k2 i : Nat} (hk : k2 ≠ k) (hi : i < 256) : ∀ j, (a9Q b k a h j).getD (k2 * 256 + i) 0 = h.getD (k2 * 256 + i) 0
 | 0 => rfl
 | j + 1 => by
  have b0 := d4F hb (a + j)
  rw [a9Q, getD_set_ne (by omega), c1H hb hk hi j]
theorem c6x {b : List Int} (hb : ∀ z ∈ b, 0 ≤ z ∧ z ≤ 255) {m n : Nat} : ∀ k, k ≤ n → ∀ k2 i, k2 < n → i < 256 → ((a8R b m (List.replicate (n * 256) 0) k).getD (k2 * 256 + i) 0 ≠ 0 ↔ k2 < k ∧ ∃ t, t < a7k b m (k2 + 1) - a7k b m k2 ∧ b.getD (a7k b m k2 + t) 0 = i)
 | 0, _, k2, i, h2, hi => ⟨fun h => absurd (a4E (n * 256) _) h, fun h => by omega⟩
 | k + 1, hk, k2, i, h2, hi => by
  have ih := c6x hb (m := m) k (by omega) k2 i h2 hi
  rw [a8R]
  by_cases e : k2 = k
  ·subst e
   rw [c6H hb (by rw [b5X, List.length_replicate]; omega) _ i hi, ih]
   constructor
   ·rintro (h1 | h1)
    ·omega
    ·exact ⟨by omega, h1⟩
   ·exact fun h1 => .inr h1.2
  ·rw [c1H hb e hi, ih]
   constructor
   ·exact fun h1 => ⟨by omega, h1.2⟩
   ·exact fun h1 => ⟨by omega, h1.2⟩
def e0e (s : List Int) : Prop := s.Pairwise (· < ·)
theorem c7k (l : List Int) (k : Nat) : ∀ t, e0e (b2S (mkP l k) t) ∧ ∀ z ∈ b2S (mkP l k) t, 0 ≤ z ∧ z < t
 | 0 => ⟨List.Pairwise.nil, fun z hz => absurd hz (by simp [b2S])⟩
 | t + 1 => by
  obtain ⟨h1, h2⟩ := c7k l k t
  rw [b2S]
  unfold mkP
  split
  ·refine ⟨List.pairwise_append.2 ⟨h1, List.pairwise_singleton .., fun a ha c hc => ?_⟩, fun z hz => ?_⟩
   ·rw [List.mem_singleton] at hc
    have := h2 a ha
    omega
   ·rcases List.mem_append.1 hz with e | e
    ·have := h2 z e; omega
    ·rw [List.mem_singleton] at e; omega
  ·rw [List.append_nil]
   exact ⟨h1, fun z hz => by have := h2 z hz; omega⟩
theorem d3D (l : List Int) (k : Nat) : e0e (c5K l k) ∧ ∀ z ∈ c5K l k, 0 ≤ z ∧ z < 256 := c7k l k 256
theorem d7g {s : List Int} (hs : e0e s) {i j : Nat} (h : i < j) (hj : j < s.length) : s.getD i 0 < s.getD j 0 := by
 have := List.pairwise_iff_getElem.1 hs i j (by omega) hj h
 rw [List.getD_eq_getElem?_getD, List.getD_eq_getElem?_getD, List.getElem?_eq_getElem (by omega), List.getElem?_eq_getElem hj]
 exact this
end Go.Ax.TryP
