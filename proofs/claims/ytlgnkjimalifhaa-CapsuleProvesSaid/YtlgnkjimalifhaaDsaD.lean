/- A part of the proof: DfS, DfP, DfQ0, DfQ1, DfQ2, DfQ3, DfQ4, DfQ5, DfQ6, DfQ7, DfQ8, DfQ9, DfQ10, DfQ11, DfQ12, DfQ13. -/
import Derived.Test.YtlgnkjimalifhaaDsaC
set_option linter.unusedVariables false
namespace Go.Ax.TryP
open Go.Proofs
noncomputable def c7N {ks rs : List Kd} (Q : Ds ks → Prop) (f : Ds ks → Bool × Int × Rs rs) : Ds ks → Option (Bool × Int × Rs rs) := fun x => @ite _ (a2U ks x ∧ Q x) (Classical.propDecidable _) (some (f x)) none
theorem c6K {ks rs : List Kd} {Q : Ds ks → Prop} {f : Ds ks → Bool × Int × Rs rs} {p : Nat → Ds ks → Option (Int ⊕ Rs rs)} (h : ∀ x, a2U ks x → Q x → ∃ N, p N x = some (xr (f x))) : ∀ x r, c7N Q f x = some r → ∃ N, p N x = some (xr r) := by
 intro x r hx
 unfold c7N at hx
 split at hx
 ·rename_i hq; cases hx; exact h x hq.1 hq.2
 ·cases hx
theorem c6J {ks rs : List Kd} {Q : Ds ks → Prop} {f : Ds ks → Bool × Int × Rs rs} {x : Ds ks} (h : a2U ks x) (hq : Q x) : c7N Q f x = some (f x) := by
 unfold c7N
 rw [if_pos ⟨h, hq⟩]
noncomputable def q9 : List (List Int) × Unit → Option (List Int) := P0 (ks := [.sls (.int .u8)]) (rs := [.sl (.int .u8)]) (fun x => x.1.length ≤ 1000 ∧ x.1.flatten.length ≤ 1000000) fun x => x.1.flatten
noncomputable def a56 : List Int × List Int × Unit → Option Bool := P0 (ks := [.sl (.int .u8), .sl (.int .u8)]) (rs := [.bool]) (fun _ => True) fun x => decide (x.1 = x.2.1)
def inW (w : Nat) (l : List Int) : Prop := ∀ i, i < 256 → 0 ≤ l.getD i 0 ∧ l.getD i 0 < 2 ^ w
def pkE (w : Nat) (l : List Int) (t : Nat) : Int := c7W (l.getD (t / w) 0) (t % w)
def pkW (w : Nat) (l : List Int) : List Int := a4l (pkE w l) (32 * w)
noncomputable def a55 : Int × List Int × Unit → Option (List Int × Int) := P0 (ks := [.int .i64, .xs (.int .i64) 256]) (rs := [.sl (.int .u8), .int .i64]) (fun x => (1 ≤ x.1 ∧ x.1 ≤ 23) ∧ inW x.1.toNat x.2.1) fun x => (pkW x.1.toNat x.2.1, 0)
noncomputable def a53 : Int × List Int × Unit → Option (List Int × Int) := P0 (ks := [.int .i64, .xs (.int .i32) 256]) (rs := [.sl (.int .u8), .int .i64]) (fun x => (1 ≤ x.1 ∧ x.1 ≤ 23) ∧ inW x.1.toNat (a03 x.2.1)) fun x => (pkW x.1.toNat (a03 x.2.1), 0)
def a9c (l : List Int) (n : Nat) : List Int := a4g 136 31 l n
def d6w (n : Int) : List Int := [n % 256, n / 256 % 256]
def chD (r : List Int) (i : Nat) : List Int := (r.drop (i * 256)).take 256
def c7i (tr msg ctx : List Int) : List Int := a9c (tr ++ [0, (ctx.length : Int) % 256] ++ ctx ++ msg) 64
def c2h (mu high : List Int) : List Int := mu ++ ((List.range 6).map fun r => pkW 4 (a03 (chD high r))).flatten
def c5q (mu high : List Int) : List Int := a9c (c2h mu high) 48
noncomputable def a25 : Int × List (List Int) × Unit → Option (List Int) := P0 (ks := [.int .i64, .sls (.int .u8)]) (rs := [.sl (.int .u8)]) (fun x => 0 ≤ x.1 ∧ x.1 ≤ 1000) fun x => a9c x.2.1.flatten x.1.toNat
noncomputable def a48 : List Int × List Int × List Int × Unit → Option (List Int) := P0 (ks := [.sl (.int .u8), .sl (.int .u8), .sl (.int .u8)]) (rs := [.sl (.int .u8)]) (fun _ => True) fun x => c7i x.1 x.2.1 x.2.2.1
noncomputable def a2k : List Int × List Int × Unit → Option (List Int) := P0 (ks := [.sl (.int .u8), .xs (.int .i32) 1536]) (rs := [.sl (.int .u8)]) (fun x => x.1.length ≤ 1000 ∧ ∀ r, r < 6 → inW 4 (a03 (chD x.2.1 r))) fun x => c5q x.1 x.2.1
def c3W (rho : List Int) (r s : Nat) : List Int × Int := d13 (rho ++ [(s : Int), (r : Int)])
def b7c (rho : List Int) : Prop := ∀ r, r < 6 → ∀ s, s < 5 → (c3W rho r s).2 = 0
noncomputable def b2h (rho : List Int) : Bool := @decide (¬ b7c rho) (Classical.propDecidable _)
def d6k (f : Nat → List Int) : List Int := f 0 ++ f 1 ++ f 2 ++ f 3 ++ f 4
def d58 (f : Nat → List Int) : List Int := f 0 ++ f 1 ++ f 2 ++ f 3 ++ f 4 ++ f 5
def d01 (rho : List Int) : List Int := d58 fun r => d6k fun s => (c3W rho r s).1
def c11 (m y : List Int) (r : Nat) : Nat → List Int
 | 0 => List.replicate 256 0
 | s + 1 => c8e (c11 m y r s) (b3Q (chD m (r * 5 + s)) (a2P (chD y s)))
def b6S (m y : List Int) : List Int := d58 fun r => c11 m y r 5
noncomputable def a4N : List Int × Int × Unit → Option (Bool × Int × List Int) := c7N (ks := [.xs (.int .i32) 256, .int .i64]) (rs := [.xs (.int .i32) 256]) (fun _ => True) fun x => (decide (x.2.1 ≠ 0), x.2.1, x.1)
noncomputable def a3M : List Int × Unit → Option (Bool × Int × (List Int × Unit)) := c7N (ks := [.sl (.int .u8)]) (rs := [.op [.xs (.int .i32) 7680]]) (fun x => x.1.length = 32) fun x => (b2h x.1, 130, (d01 x.1, ()))
noncomputable def S7 : List Int × List Int × Unit → Option (List Int) := P0 (ks := [.rp (.xs (.int .i32) 7680), .xs (.int .i32) 1280]) (rs := [.xs (.int .i32) 1536]) (fun _ => True) fun x => b6S x.1 x.2.1
end Go.Ax.TryP
set_option linter.unusedVariables false
namespace Go.Ax.TryP
open Go.Proofs
noncomputable def p_octet_Join_E : AE := AE.of [(5, ty5), (26, ty26), (38, ty38)] []
noncomputable def a61 : Hints := [(3, [0, 3, 9, 10, 11]), (9, [6, 22, 23, 24]), (2000000, [0, 3]), (2000001, [0, 3, 9, 10, 11]), (2000002, [6]), (2000003, [6, 22, 23, 24]), (3000000, [2])]
noncomputable def a1m : Code := (Try.f14).body.getD .skip
noncomputable def b6H : Shape := mkS { tmps := .sc (.frs b8) :: V :: V :: .sc (.int .i64) :: pv 5 (.sc (.frs b8) :: .sc (.int .i64) :: .sc (.int .i64) :: pv 21 []), mem := [] } [.xss, .int, .xss, .int, .int]
abbrev W28 : Type := List (List Int) × Int × List (List Int) × Int × Int × Unit
abbrev W29 : Type := List (List Int) × Int × Unit
noncomputable def R4 (N : Nat) (β : Type) (x : W28) (kn : W28 → Option β) (ke : W29 → Option β) : Option β :=
 if (x.2.2.2.2.1 < x.2.2.2.1) then
  if 0 ≤ x.2.2.2.2.1 then (
  if x.2.2.2.2.1 < ((List.length x.2.2.1 : Nat) : Int) then (
  kn (x.1, (IntKind.i64.wrap (x.2.1 + ((List.length (List.getD x.2.2.1 (x.2.2.2.2.1.toNat) []) : Nat) : Int))), x.2.2.1, x.2.2.2.1, (IntKind.i64.wrap (x.2.2.2.2.1 + (1:Int))), ())) else none) else none
 else
  ke (x.1, x.2.1, ())
noncomputable def b4Y : Go' W29 := fun y K => K (.exit 0) (fSt { tmps := .sc (.frs b8) :: V :: V :: .sc (.int .i64) :: pv 29 [], mem := [] } [.xss, .int] y)
noncomputable def a7L (N : Nat) : LT := upd (LT.nil) 3 (C6 b6H N (R4 N) b4Y)
theorem b4Z (N : Nat) : OkAll p_octet_Join_E a61 N (a7L N) (E4 a1m) :=
 d8 (c := d9 3 a1m) (OkAll.nil) (by kernel_rfl) (fun x => by kernel_rfl) (fun β x kn ke => by kernel_rfl)
noncomputable def b6I : Shape := mkS { tmps := pv 6 (.sc (.vec 0 none 1) :: pv 15 (.sc (.frs b8) :: .sc (.int .i64) :: .sc (.int .i64) :: pv 8 [])), mem := [.live [.xs b8 none] (.own)] } [.nat, .xss, .int, .int, .nat, .xs]
abbrev W30 : Type := Nat × List (List Int) × Int × Int × Nat × List Int × Unit
abbrev W31 : Type := Nat × Nat × List Int × Unit
noncomputable def R5 (N : Nat) (β : Type) (x : W30) (kn : W30 → Option β) (ke : W31 → Option β) : Option β :=
 if (x.2.2.2.1 < x.2.2.1) then
  if 0 ≤ x.2.2.2.1 then (
  if x.2.2.2.1 < ((List.length x.2.1 : Nat) : Int) then (
  if (x.1 + (List.length (List.getD x.2.1 (x.2.2.2.1.toNat) []))) * 1 ≤ 140737488355328 then (
  kn ((x.1 + (List.length (List.getD x.2.1 (x.2.2.2.1.toNat) []))), x.2.1, x.2.2.1, (IntKind.i64.wrap (x.2.2.2.1 + (1:Int))), (x.2.2.2.2.1 + (List.length (List.getD x.2.1 (x.2.2.2.1.toNat) []))), (x.2.2.2.2.2.1 ++ (List.getD x.2.1 (x.2.2.2.1.toNat) [])), ())) else none) else none) else none
 else
  ke (x.1, x.2.2.2.2.1, x.2.2.2.2.2.1, ())
noncomputable def b40 : Go' W31 := fun y K => K (.exit 2) (fSt { tmps := pv 6 (.sc (.vec 0 none 1) :: pv 26 []), mem := [.live [.xs b8 none] (.own)] } [.nat, .nat, .xs] y)
noncomputable def a7M (N : Nat) : LT := upd (a7L N) 9 (C6 b6I N (R5 N) b40)
theorem b41 (N : Nat) : OkAll p_octet_Join_E a61 N (a7M N) (E4 a1m) :=
 d8 (c := d9 9 a1m) (b4Z N) (by kernel_rfl) (fun x => by kernel_rfl) (fun β x kn ke => by kernel_rfl)
abbrev a0v : List Kd := [.sls b8]
abbrev a0w : List Kd := [.sl b8]
noncomputable def a6p (N : Nat) (x : List (List Int) × Unit) : Option (List Int) :=
 E1 (R4 N) N (x.1, (0:Int), x.1, ((List.length x.1 : Nat) : Int), (0:Int), ()) fun y1 => (
 if 0 ≤ (0:Int) then (
 if (0:Int) ≤ y1.2.1 then (
 if y1.2.1 * 1 ≤ 281474976710656 then (
 E1 (R5 N) N (0, y1.1, ((List.length y1.1 : Nat) : Int), (0:Int), 0, (List.replicate 0 0), ()) fun y2 => (
 some y2.2.2.1)) else none) else none) else none)
theorem b8c : p_octet_Join_E.Ok Try.prog := AE.of_ok (all_cons S6 (all_cons w7 (all_cons a1Z b5))) b5
theorem b91 (hE : p_octet_Join_E.Ok Try.prog) {g : Ds a0v → Option (Rs a0w)} (hg : ∀ x r, g x = some r → ∃ N, a6p N x = some r) : b6 Try.prog 14 ⟨a0v, a0w, g⟩ :=
 d6 (E := p_octet_Join_E) (H := a61) (L := fun N => a7M N) (c := a1m) (ks := a0v) (rs := a0w) (F := a6p) hE mix Try.func14 (by kernel_rfl) (fun N => b41 N) (fun _ _ => by kernel_rfl) hg
noncomputable def p_octet_Same_E : AE := AE.of [(5, ty5), (26, ty26)] []
noncomputable def b10 : Hints := [(5, [0, 1, 5, 13, 14]), (2000000, [5]), (2000001, [0, 1, 5, 13, 14]), (3000000, [4])]
noncomputable def a62 : Code := (Try.f34).body.getD .skip
noncomputable def b6J : Shape := mkS { tmps := .sc (.vec 0 none 1) :: .sc (.vec 1 none 1) :: pv 3 (.sc (.int .u8) :: pv 7 (.sc (.int .i64) :: .sc (.int .i64) :: pv 16 [])), mem := [.live [.xs b8 none] (.ro), .live [.xs b8 none] (.ro)] } [.nat, .nat, .int, .int, .int, .nat, .xs, .nat, .xs]
abbrev W32 : Type := Nat × Nat × Int × Int × Int × Nat × List Int × Nat × List Int × Unit
noncomputable def R6 (N : Nat) (β : Type) (x : W32) (kn : W32 → Option β) (ke : ((Int × Unit)) → Option β) : Option β :=
 if (x.2.2.2.2.1 < x.2.2.2.1) then
  if 0 ≤ x.2.2.2.2.1 then (
  if x.2.2.2.2.1 < ((x.1 : Nat) : Int) then (
  if (x.2.2.2.2.1.toNat) < x.2.2.2.2.2.1 then (
  if 0 ≤ x.2.2.2.2.1 then (
  if x.2.2.2.2.1 < ((x.2.1 : Nat) : Int) then (
  if (x.2.2.2.2.1.toNat) < x.2.2.2.2.2.2.2.1 then (
  kn (x.1, x.2.1, (ior IntKind.u8 x.2.2.1 (b9m IntKind.u8 (List.getD x.2.2.2.2.2.2.1 (x.2.2.2.2.1.toNat) 0) (List.getD x.2.2.2.2.2.2.2.2.1 (x.2.2.2.2.1.toNat) 0))), x.2.2.2.1, (IntKind.i64.wrap (x.2.2.2.2.1 + (1:Int))), x.2.2.2.2.2.1, x.2.2.2.2.2.2.1, x.2.2.2.2.2.2.2.1, x.2.2.2.2.2.2.2.2.1, ())) else none) else none) else none) else none) else none) else none
 else
  ke (x.2.2.1, ())
noncomputable def b42 : Go' ((Int × Unit)) := fun y K => K (.exit 0) (fSt { tmps := pv 5 (.sc (.int .u8) :: pv 25 []), mem := [] } [.int] y)
noncomputable def a7N (N : Nat) : LT := upd (LT.nil) 5 (C6 b6J N (R6 N) b42)
theorem b43 (N : Nat) : OkAll p_octet_Same_E b10 N (a7N N) (E4 a62) :=
 d8 (c := d9 5 a62) (OkAll.nil) (by kernel_rfl) (fun x => by kernel_rfl) (fun β x kn ke => by kernel_rfl)
abbrev a0x : List Kd := [.sl b8, .sl b8]
abbrev a5C : List Kd := [.bool]
noncomputable def a6q (N : Nat) (x : List Int × List Int × Unit) : Option (Bool) :=
 if ((((List.length x.1) : Nat) : Int) ≠ (((List.length x.2.1) : Nat) : Int)) then
  some false
 else
  E1 (R6 N) N ((List.length x.1), (List.length x.2.1), (0:Int), (((List.length x.1) : Nat) : Int), (0:Int), (List.length x.1), x.1, (List.length x.2.1), x.2.1, ()) fun y1 => (
  some (decide (y1.1 = (0:Int))))
theorem b8d : p_octet_Same_E.Ok Try.prog := AE.of_ok (all_cons S6 (all_cons w7 b5)) b5
theorem b92 (hE : p_octet_Same_E.Ok Try.prog) {g : Ds a0x → Option (Rs [.bool])} (hg : ∀ x r, g x = some r → ∃ N, a6q N x = some r) : b6 Try.prog 34 ⟨a0x, [.bool], g⟩ :=
 d6 (E := p_octet_Same_E) (H := b10) (L := fun N => a7N N) (c := a62) (ks := a0x) (rs := a5C) (F := a6q) hE mix Try.func34 (by kernel_rfl) (fun N => b43 N) (fun _ _ => by kernel_rfl) hg
noncomputable def p_dring_pack_E : AE := AE.of [(2, ty2), (5, ty5), (26, ty26), (117, ty117)] []
noncomputable def a6Q : Hints := [(5, [0, 6, 20, 21]), (10, [0, 6, 7, 8, 20, 21, 33, 34]), (2000000, [6]), (2000001, [0, 6, 20, 21]), (2000002, [0, 6, 20, 21]), (2000003, [0, 6, 7, 8, 20, 21, 33, 34]), (3000000, [4, 5])]
noncomputable def a1g : Code := (Try.f72).body.getD .skip
noncomputable def b4F : Shape := mkS { tmps := .sc (.int .i64) :: pv 5 (.sc (.vec 0 none 1) :: .sc (.int .i64) :: .sc (.int .i64) :: pv 11 (.agg [.xs b64 (some 256)] :: .sc (.int .i64) :: pv 11 (.sc (.int .i64) :: .sc (.int .i64) :: pv 25 []))), mem := [.live [.xs b8 none] (.own)] } [.int, .nat, .int, .int, .xs, .int, .int, .int, .nat, .xs]
abbrev W33 : Type := Int × Nat × Int × Int × List Int × Int × Int × Int × Nat × List Int × Unit
abbrev W34 : Type := Int × Nat × List Int × Int × Nat × List Int × Unit
noncomputable def N2 (N : Nat) (β : Type) (x : W33) (kn : W33 → Option β) (ke : W34 → Option β) : Option β :=
 if (x.2.2.2.2.2.2.2.1 < x.2.2.2.2.2.2.1) then
  if 0 ≤ (IntKind.i64.wrap (Int.tdiv (IntKind.i64.wrap ((IntKind.i64.wrap (x.2.2.1 * x.1)) + x.2.2.2.2.2.2.2.1)) (8:Int))) then (
  if (IntKind.i64.wrap (Int.tdiv (IntKind.i64.wrap ((IntKind.i64.wrap (x.2.2.1 * x.1)) + x.2.2.2.2.2.2.2.1)) (8:Int))) < ((x.2.1 : Nat) : Int) then (
  if ((IntKind.i64.wrap (Int.tdiv (IntKind.i64.wrap ((IntKind.i64.wrap (x.2.2.1 * x.1)) + x.2.2.2.2.2.2.2.1)) (8:Int))).toNat) < x.2.2.2.2.2.2.2.2.1 then (
  if x.2.2.2.2.2.2.2.1 < 0 then none else (
  if (Int.tmod (IntKind.i64.wrap ((IntKind.i64.wrap (x.2.2.1 * x.1)) + x.2.2.2.2.2.2.2.1)) (8:Int)) < 0 then none else (
  if 0 ≤ (IntKind.i64.wrap (Int.tdiv (IntKind.i64.wrap ((IntKind.i64.wrap (x.2.2.1 * x.1)) + x.2.2.2.2.2.2.2.1)) (8:Int))) then (
  if (IntKind.i64.wrap (Int.tdiv (IntKind.i64.wrap ((IntKind.i64.wrap (x.2.2.1 * x.1)) + x.2.2.2.2.2.2.2.1)) (8:Int))) < ((x.2.1 : Nat) : Int) then (
  if ((IntKind.i64.wrap (Int.tdiv (IntKind.i64.wrap ((IntKind.i64.wrap (x.2.2.1 * x.1)) + x.2.2.2.2.2.2.2.1)) (8:Int))).toNat) < x.2.2.2.2.2.2.2.2.1 then (
  kn (x.1, x.2.1, x.2.2.1, x.2.2.2.1, x.2.2.2.2.1, x.2.2.2.2.2.1, x.2.2.2.2.2.2.1, (IntKind.i64.wrap (x.2.2.2.2.2.2.2.1 + (1:Int))), x.2.2.2.2.2.2.2.2.1, (List.set x.2.2.2.2.2.2.2.2.2.1 ((IntKind.i64.wrap (Int.tdiv (IntKind.i64.wrap ((IntKind.i64.wrap (x.2.2.1 * x.1)) + x.2.2.2.2.2.2.2.1)) (8:Int))).toNat) (ior IntKind.u8 (List.getD x.2.2.2.2.2.2.2.2.2.1 ((IntKind.i64.wrap (Int.tdiv (IntKind.i64.wrap ((IntKind.i64.wrap (x.2.2.1 * x.1)) + x.2.2.2.2.2.2.2.1)) (8:Int))).toNat) 0) (b1X IntKind.u8 (IntKind.u8.wrap (b9j IntKind.i64 (c2w IntKind.i64 x.2.2.2.1 x.2.2.2.2.2.2.2.1) (1:Int))) (Int.tmod (IntKind.i64.wrap ((IntKind.i64.wrap (x.2.2.1 * x.1)) + x.2.2.2.2.2.2.2.1)) (8:Int))))), ())) else none) else none) else none))) else none) else none) else none
 else
  ke (x.1, x.2.1, x.2.2.2.2.1, x.2.2.2.2.2.1, x.2.2.2.2.2.2.2.2.1, x.2.2.2.2.2.2.2.2.2.1, ())
noncomputable def b2U : Go' W34 := fun y K => K (.exit 2) (fSt { tmps := .sc (.int .i64) :: pv 5 (.sc (.vec 0 none 1) :: pv 13 (.agg [.xs b64 (some 256)] :: .sc (.int .i64) :: pv 38 [])), mem := [.live [.xs b8 none] (.own)] } [.int, .nat, .xs, .int, .nat, .xs] y)
noncomputable def a6g (N : Nat) : LT := upd (LT.nil) 10 (C6 b4F N (N2 N) b2U)
theorem b2V (N : Nat) : OkAll p_dring_pack_E a6Q N (a6g N) (E4 a1g) :=
 d8 (c := d9 10 a1g) (OkAll.nil) (by kernel_rfl) (fun x => by kernel_rfl) (fun β x kn ke => by kernel_rfl)
noncomputable def b6y : Shape := mkS { tmps := .sc (.int .i64) :: pv 5 (.sc (.vec 0 none 1) :: pv 13 (.agg [.xs b64 (some 256)] :: .sc (.int .i64) :: pv 38 [])), mem := [.live [.xs b8 none] (.own)] } [.int, .nat, .xs, .int, .nat, .xs]
noncomputable def Q7 (N : Nat) (β : Type) (x : W34) (kn : W34 → Option β) (ke : W27 → Option β) : Option β :=
 if (x.2.2.2.1 < (256:Int)) then
  if 0 ≤ x.2.2.2.1 then (
  if x.2.2.2.1 < 256 then (
  if (x.2.2.2.1.toNat) < 256 then (
  if ((List.getD x.2.2.1 (x.2.2.2.1.toNat) 0) < (0:Int)) then
   ke (.inl ((1:Int), ()))
  else
   if x.1 < 0 then none else (
   if ((List.getD x.2.2.1 (x.2.2.2.1.toNat) 0) ≥ (b1X IntKind.i64 (1:Int) x.1)) then
    ke (.inl ((1:Int), ()))
   else
    E1 (N2 N) N (x.1, x.2.1, x.2.2.2.1, (List.getD x.2.2.1 (x.2.2.2.1.toNat) 0), x.2.2.1, x.2.2.2.1, x.1, (0:Int), x.2.2.2.2.1, x.2.2.2.2.2.1, ()) fun y1 => (
    kn (y1.1, y1.2.1, y1.2.2.1, (IntKind.i64.wrap (y1.2.2.2.1 + (1:Int))), y1.2.2.2.2.1, y1.2.2.2.2.2.1, ())))) else none) else none) else none
 else
  ke (.inr (x.2.1, x.2.2.2.2.1, x.2.2.2.2.2.1, ()))
noncomputable def b4G : Go' W27 := fun y K => match y with
 | .inl y => K .ret (fSt { tmps := pv 4 (.sc (.nilsl) :: .sc (.int .i64) :: pv 54 []), mem := [] } [.int] y)
 | .inr y => K (.exit 0) (fSt { tmps := pv 6 (.sc (.vec 0 none 1) :: pv 53 []), mem := [.live [.xs b8 none] (.own)] } [.nat, .nat, .xs] y)
noncomputable def a7B (N : Nat) : LT := upd (a6g N) 5 (C6 b6y N (Q7 N) b4G)
theorem b4H (N : Nat) : OkAll p_dring_pack_E a6Q N (a7B N) (E4 a1g) :=
 d8 (c := d9 5 a1g) (b2V N) (by kernel_rfl) (fun x => by kernel_rfl) (fun β x kn ke => by kernel_rfl)
abbrev a0o : List Kd := [.int .i64, .xs b64 256]
abbrev a0p : List Kd := [.sl b8, .int .i64]
noncomputable def a3S (N : Nat) (x : Int × List Int × Unit) : Option (List Int × Int) :=
 if (x.1 < (1:Int)) then
  some ([], (1:Int))
 else
  if (x.1 > (23:Int)) then
   some ([], (1:Int))
  else
   if 0 ≤ (IntKind.i64.wrap ((32:Int) * x.1)) then (
   if (IntKind.i64.wrap ((32:Int) * x.1)) = (IntKind.i64.wrap ((32:Int) * x.1)) then (
   if (IntKind.i64.wrap ((32:Int) * x.1)) * 1 ≤ 281474976710656 then (
   E1 (Q7 N) N (x.1, ((IntKind.i64.wrap ((32:Int) * x.1)).toNat), x.2.1, (0:Int), ((IntKind.i64.wrap ((32:Int) * x.1)).toNat), (List.replicate ((IntKind.i64.wrap ((32:Int) * x.1)).toNat) 0), ()) fun y => (match y with
   | .inl y2 => (
    some ([], y2.1))
   | .inr y3 => (
    some (y3.2.2.1, (0:Int))))) else none) else none) else none
theorem b72 : p_dring_pack_E.Ok Try.prog := AE.of_ok (all_cons b0I (all_cons S6 (all_cons w7 (all_cons c7H b5)))) b5
theorem b9Q (hE : p_dring_pack_E.Ok Try.prog) {g : Ds a0o → Option (Rs a0p)} (hg : ∀ x r, g x = some r → ∃ N, a3S N x = some r) : b6 Try.prog 72 ⟨a0o, a0p, g⟩ :=
 d6 (E := p_dring_pack_E) (H := a6Q) (L := fun N => a7B N) (c := a1g) (ks := a0o) (rs := a0p) (F := a3S) hE mix Try.func72 (by kernel_rfl) (fun N => b4H N) (fun _ _ => by kernel_rfl) hg
noncomputable abbrev a9A : Sig := ⟨[.int .i64, .xs b64 256], [.sl b8, .int .i64], a55⟩
noncomputable def p_dring_Pack_E : AE := AE.of [(2, ty2), (21, ty21), (53, ty53), (117, ty117)] [(49, O1), (72, a9A)]
noncomputable def b1Z : Hints := [(3, [0, 6, 10, 11]), (2000000, [0, 6]), (2000001, [0, 6, 10, 11]), (3000000, [4, 5])]
noncomputable def a6L : Code := (Try.f57).body.getD .skip
noncomputable def b6p : Shape := mkS { tmps := .sc (.int .i64) :: pv 5 (.sc (.ptr 0 0 false) :: pv 3 (.agg [.xs b32 (some 256)] :: .sc (.int .i64) :: pv 13 [])), mem := [.live [.xs b64 (some 256)] (.own)] } [.int, .xs, .int, .xs]
abbrev W35 : Type := Int × List Int × Int × List Int × Unit
noncomputable def Q2 (N : Nat) (β : Type) (x : W35) (kn : W35 → Option β) (ke : ((Int × List Int × Unit)) → Option β) : Option β :=
 if (x.2.2.1 < (256:Int)) then
  if 0 ≤ x.2.2.1 then (
  if x.2.2.1 < 256 then (
  if (x.2.2.1.toNat) < 256 then (
  if 0 ≤ x.2.2.1 then (
  if x.2.2.1 < 256 then (
  if (x.2.2.1.toNat) < 256 then (
  kn (x.1, x.2.1, (IntKind.i64.wrap (x.2.2.1 + (1:Int))), (List.set x.2.2.2.1 (x.2.2.1.toNat) (IntKind.i64.wrap (List.getD x.2.1 (x.2.2.1.toNat) 0))), ())) else none) else none) else none) else none) else none) else none
 else
  ke (x.1, x.2.2.2.1, ())
noncomputable def b4v : Go' ((Int × List Int × Unit)) := fun y K => K (.exit 0) (fSt { tmps := .sc (.int .i64) :: pv 5 (.sc (.ptr 0 0 false) :: pv 18 []), mem := [.live [.xs b64 (some 256)] (.own)] } [.int, .xs] y)
noncomputable def a7x (N : Nat) : LT := upd (LT.nil) 3 (C6 b6p N (Q2 N) b4v)
theorem b4w (N : Nat) : OkAll p_dring_Pack_E b1Z N (a7x N) (E4 a6L) :=
 d8 (c := d9 3 a6L) (OkAll.nil) (by kernel_rfl) (fun x => by kernel_rfl) (fun β x kn ke => by kernel_rfl)
abbrev a0k : List Kd := [.int .i64, .xs b32 256]
abbrev a0l : List Kd := [.sl b8, .int .i64]
noncomputable def a3P (N : Nat) (x : Int × List Int × Unit) : Option (List Int × Int) :=
 (X8 (x.2.1, ())).bind fun r1 => (
 E1 (Q2 N) N (x.1, r1, (0:Int), (List.replicate 256 0), ()) fun y2 => (
 (a55 (y2.1, y2.2.1, ())).bind fun r3 => (
 some (r3.1, r3.2))))
theorem b7W (e0 : b6 Try.prog 49 O1) (e1 : b6 Try.prog 72 a9A) : p_dring_Pack_E.Ok Try.prog := AE.of_ok (all_cons b0I (all_cons G6 (all_cons G7 (all_cons c7H b5)))) (all_cons ⟨e0, a1M⟩ (all_cons ⟨e1, b5L⟩ b5))
theorem b9L (hE : p_dring_Pack_E.Ok Try.prog) {g : Ds a0k → Option (Rs a0l)} (hg : ∀ x r, g x = some r → ∃ N, a3P N x = some r) : b6 Try.prog 57 ⟨a0k, a0l, g⟩ :=
 d6 (E := p_dring_Pack_E) (H := b1Z) (L := fun N => a7x N) (c := a6L) (ks := a0k) (rs := a0l) (F := a3P) hE mix Try.func57 (by kernel_rfl) (fun N => b4w N) (fun _ _ => by kernel_rfl) hg
noncomputable def p_dsa_hash_E : AE := AE.ofI [] [(44, a02)] [] [(21, a7n), (43, a9R)] [] [] []
noncomputable def c4m : Hints := [(3000000, [4]), (5000000, [4])]
noncomputable def c4n : Code := (Try.f19).body.getD .skip
abbrev a2B : List Kd := [.int .i64, .sls b8]
abbrev a2C : List Kd := [.sl b8]
noncomputable def a7F (N : Nat) (x : Int × List (List Int) × Unit) : Option (List Int) :=
 (Y1 ((256:Int), x.1, x.2.1, ())).bind fun r1 => (
 if (r1.2 ≠ (0:Int)) then none else (
 some r1.1))
theorem c0U (e0 : b6 Try.prog 44 a02) : p_dsa_hash_E.Ok Try.prog := AE.ofI_ok b5 (all_cons ⟨e0, a47⟩ b5) b5 (all_cons ⟨a4v, Z9⟩ (all_cons ⟨a58, a3o⟩ b5)) b5
theorem c2B (hE : p_dsa_hash_E.Ok Try.prog) {g : Ds a2B → Option (Rs a2C)} (hg : ∀ x r, g x = some r → ∃ N, a7F N x = some r) : b6 Try.prog 19 ⟨a2B, a2C, g⟩ :=
 d6 (E := p_dsa_hash_E) (H := c4m) (L := fun N => LT.nil) (c := c4n) (ks := a2B) (rs := a2C) (F := a7F) hE mix Try.func19 (by kernel_rfl) (fun N => OkAll.nil) (fun _ _ => by kernel_rfl) hg
noncomputable abbrev a20 : Sig := ⟨[.int .i64, .sls b8], [.sl b8], a25⟩
noncomputable def p_dsa_meant_E : AE := AE.of [(3, ty3), (5, ty5), (26, ty26), (38, ty38)] [(19, a20)]
noncomputable def c2C : Hints := [(3000000, [6])]
noncomputable def c2D : Code := (Try.f18).body.getD .skip
abbrev a1j : List Kd := [.sl b8, .sl b8, .sl b8]
abbrev a1k : List Kd := [.sl b8]
noncomputable def a5p (N : Nat) (x : List Int × List Int × List Int × Unit) : Option (List Int) :=
 (a25 ((64:Int), [x.1, (List.set (List.set (List.replicate 2 0) 0 (0:Int)) 1 (IntKind.u8.wrap (((List.length x.2.2.1) : Nat) : Int))), x.2.2.1, x.2.1], ())).bind fun r1 => (
 some r1)
theorem b9X (e0 : b6 Try.prog 19 a20) : p_dsa_meant_E.Ok Try.prog := AE.of_ok (all_cons a2O (all_cons S6 (all_cons w7 (all_cons a1Z b5)))) (all_cons ⟨e0, a46⟩ b5)
theorem c0V (hE : p_dsa_meant_E.Ok Try.prog) {g : Ds a1j → Option (Rs a1k)} (hg : ∀ x r, g x = some r → ∃ N, a5p N x = some r) : b6 Try.prog 18 ⟨a1j, a1k, g⟩ :=
 d6 (E := p_dsa_meant_E) (H := c2C) (L := fun N => LT.nil) (c := c2D) (ks := a1j) (rs := a1k) (F := a5p) hE mix Try.func18 (by kernel_rfl) (fun N => OkAll.nil) (fun _ _ => by kernel_rfl) hg
noncomputable abbrev j5 : Sig := ⟨[.sls b8], [.sl b8], q9⟩
noncomputable abbrev a9y : Sig := ⟨[.int .i64, .xs b32 256], [.sl b8, .int .i64], a53⟩
noncomputable def p_dsa_challenge_E : AE := AE.ofI [(5, ty5), (26, ty26), (38, ty38), (53, ty53), (66, ty66)] [(14, j5), (57, a9y), (19, a20)] [] [(21, a7n), (43, a9R)] [] [] []
noncomputable def a7C : Hints := [(3, [3, 4, 5, 10]), (2000000, [4, 5]), (2000001, [3, 4, 5, 10]), (3000000, [4]), (5000000, [4])]
noncomputable def a3g : Code := (Try.f35).body.getD .skip
noncomputable def b1y : Shape := mkS { tmps := pv 3 (.sc (.ptr 0 0 false) :: .sc (.nilsl) :: .sc (.vec 1 none 1) :: pv 4 (.sc (.int .i64) :: pv 15 [])), mem := [.live [.xs b32 (some 1536)] (.own), .live [.xs b8 none] (.own)] } [.nat, .int, .xs, .nat, .xs]
abbrev W36 : Type := Nat × Int × List Int × Nat × List Int × Unit
noncomputable def H1 (N : Nat) (β : Type) (x : W36) (kn : W36 → Option β) (ke : W27 → Option β) : Option β :=
 if (x.2.1 < (6:Int)) then
  if 0 ≤ x.2.1 then (
  if x.2.1 < 6 then (
  if ((x.2.1.toNat) * 256) + 256 ≤ 1536 then (
  (a53 ((4:Int), (List.take 256 (List.drop ((x.2.1.toNat) * 256) x.2.2.1)), ())).bind fun r2 => (
  if (r2.2 ≠ (0:Int)) then
   ke (.inl (r2.2, ()))
  else
   if (x.1 + (List.length r2.1)) * 1 ≤ 140737488355328 then (
   kn ((x.1 + (List.length r2.1)), (IntKind.i64.wrap (x.2.1 + (1:Int))), x.2.2.1, (x.2.2.2.1 + (List.length r2.1)), (x.2.2.2.2.1 ++ r2.1), ())) else none)) else none) else none) else none
 else
  ke (.inr (x.1, x.2.2.2.1, x.2.2.2.2.1, ()))
noncomputable def a97 : Go' W27 := fun y K => match y with
 | .inl y => K (.pan (.ifi 31 .i64) y.1) (fSt { tmps := pv 4 (.sc (.nilsl) :: pv 21 []), mem := [] } [] ())
 | .inr y => K (.exit 0) (fSt { tmps := pv 4 (.sc (.nilsl) :: .sc (.vec 0 none 1) :: pv 20 []), mem := [.live [.xs b8 none] (.own)] } [.nat, .nat, .xs] y)
noncomputable def a4n (N : Nat) : LT := upd (LT.nil) 3 (C6 b1y N (H1 N) a97)
theorem a98 (N : Nat) : OkAll p_dsa_challenge_E a7C N (a4n N) (E4 a3g) :=
 d8 (c := d9 3 a3g) (OkAll.nil) (by kernel_rfl) (fun x => by kernel_rfl) (fun β x kn ke => by kernel_rfl)
abbrev N3 : List Kd := [.sl b8, .xs b32 1536]
abbrev N4 : List Kd := [.sl b8]
noncomputable def a0r (N : Nat) (x : List Int × List Int × Unit) : Option (List Int) :=
 (q9 ([x.1], ())).bind fun r1 => (
 E1 (H1 N) N ((List.length r1), (0:Int), x.2.1, (List.length r1), r1, ()) fun y => (match y with
 | .inl y3 => (
  none)
 | .inr y4 => (
  (a25 ((48:Int), [y4.2.2.1], ())).bind fun r5 => (
  some r5))))
theorem b24 (e0 : b6 Try.prog 14 j5) (e1 : b6 Try.prog 57 a9y) (e2 : b6 Try.prog 19 a20) : p_dsa_challenge_E.Ok Try.prog := AE.ofI_ok (all_cons S6 (all_cons w7 (all_cons a1Z (all_cons G7 (all_cons c6C b5))))) (all_cons ⟨e0, x8⟩ (all_cons ⟨e1, b5J⟩ (all_cons ⟨e2, a46⟩ b5))) b5 (all_cons ⟨a4v, Z9⟩ (all_cons ⟨a58, a3o⟩ b5)) b5
theorem b4M (hE : p_dsa_challenge_E.Ok Try.prog) {g : Ds N3 → Option (Rs N4)} (hg : ∀ x r, g x = some r → ∃ N, a0r N x = some r) : b6 Try.prog 35 ⟨N3, N4, g⟩ :=
 d6 (E := p_dsa_challenge_E) (H := a7C) (L := fun N => a4n N) (c := a3g) (ks := N3) (rs := N4) (F := a0r) hE mix Try.func35 (by kernel_rfl) (fun N => a98 N) (fun _ _ => by kernel_rfl) hg
noncomputable def p_dsa_poly_E : AE := AE.ofI [(53, ty53)] [] [] [(45, b0R)] [] [] []
noncomputable def c4o : Hints := [(3000000, [4]), (5000000, [4])]
noncomputable def c4p : Code := (Try.f21).body.getD .skip
abbrev a2D : List Kd := [.xs b32 256, .int .i64]
abbrev a2E : List Kd := [.xs b32 256]
noncomputable def b0W (N : Nat) (x : List Int × Int × Unit) : Option (Int ⊕ (List Int)) :=
 if (x.2.1 ≠ (0:Int)) then
  some (.inl x.2.1)
 else
  some (.inr x.1)
theorem c0W : p_dsa_poly_E.Ok Try.prog := AE.ofI_ok (all_cons G7 b5) b5 b5 (all_cons ⟨a8f, a45⟩ b5) b5
theorem c2E (hE : p_dsa_poly_E.Ok Try.prog) {g : Ds a2D → Option (Bool × Int × Rs a2E)} (hg : ∀ x r, g x = some r → ∃ N, b0W N x = some (xr r)) : XOk Try.prog 21 ⟨a2D, a2E, (.ifi 31 .i64), g⟩ :=
 c9S (E := p_dsa_poly_E) (H := c4o) (L := fun N => LT.nil) (c := c4p) (ks := a2D) (rs := a2E) (F := b0W) hE mix Try.func21 (by kernel_rfl) (fun N => OkAll.nil) (fun _ _ => by kernel_rfl) hg
noncomputable abbrev a6x : Sig := ⟨[.sl b8], [.xs b32 256, .int .i64], X9⟩
noncomputable abbrev b5v : XSig := ⟨[.xs b32 256, .int .i64], [.xs b32 256], (.ifi 31 .i64), a4N⟩
noncomputable def p_dsa_expand_E : AE := AE.ofA [(3, ty3), (5, ty5), (26, ty26), (38, ty38), (53, ty53), (55, ty55), (97, ty97)] [(14, j5), (53, a6x)] [(21, b5v)] [] [] [(21, a7n), (43, a9R)] [] [] [] [] [] []
noncomputable def a6R : Hints := [(3, [0, 2, 3, 6]), (6, [0, 2, 3, 4, 6, 9]), (2000000, [2, 3]), (2000001, [0, 2, 3, 6]), (2000002, [0, 2, 3, 6]), (2000003, [0, 2, 3, 4, 6, 9]), (3000000, [2]), (5000000, [2])]
noncomputable def a1h : Code := (Try.f27).body.getD .skip
noncomputable def b6D : Shape := mkS { tmps := .sc (.vec 0 none 1) :: V :: .sc (.nilp) :: .sc (.ptr 1 0 false) :: .sc (.int .i64) :: V :: .sc (.int .i64) :: V :: V :: .sc (.int .i64) :: pv 20 [], mem := [.live [.xs b8 none] (.ro), .live [.xs b32 (some 7680)] (.own)] } [.nat, .int, .int, .int, .nat, .xs, .xs]
abbrev W37 : Type := Nat × Int × Int × Int × Nat × List Int × List Int × Unit
abbrev W38 : Type := (Int × Unit) ⊕ (Nat × Int × Nat × List Int × List Int × Unit)
noncomputable def z8 (N : Nat) (β : Type) (x : W37) (kn : W37 → Option β) (ke : W38 → Option β) : Option β :=
 if (x.2.2.2.1 < (5:Int)) then
  (q9 ([x.2.2.2.2.2.1, (List.set (List.set (List.replicate 2 0) 0 (IntKind.u8.wrap x.2.2.2.1)) 1 (IntKind.u8.wrap x.2.1))], ())).bind fun r1 => (
  (X9 (r1, ())).bind fun r2 => (
  if 0 ≤ x.2.1 then (
  if x.2.1 < 6 then (
  (a4N (r2.1, r2.2, ())).bind fun r3 => (
  if r3.1 = true then
   ke (.inl (r3.2.1, ()))
  else
   (q9 ([x.2.2.2.2.2.1, (List.set (List.set (List.replicate 2 0) 0 (IntKind.u8.wrap x.2.2.2.1)) 1 (IntKind.u8.wrap x.2.1))], ())).bind fun r4 => (
   (X9 (r4, ())).bind fun r5 => (
   (xg (a4N (r5.1, r5.2, ()))).bind fun r6 => (
   if 0 ≤ x.2.1 then (
   if x.2.1 < 6 then (
   if 0 ≤ x.2.2.2.1 then (
   if x.2.2.2.1 < 5 then (
   if (((x.2.1.toNat) * 1280) + ((x.2.2.2.1.toNat) * 256)) + 256 ≤ 7680 then (
   kn (x.1, x.2.1, x.2.2.1, (IntKind.i64.wrap (x.2.2.2.1 + (1:Int))), x.2.2.2.2.1, x.2.2.2.2.2.1, (List.take (((x.2.1.toNat) * 1280) + ((x.2.2.2.1.toNat) * 256)) x.2.2.2.2.2.2.1 ++ r6 ++ List.drop ((((x.2.1.toNat) * 1280) + ((x.2.2.2.1.toNat) * 256)) + 256) x.2.2.2.2.2.2.1), ())) else none) else none) else none) else none) else none))))) else none) else none))
 else
  ke (.inr (x.1, x.2.2.1, x.2.2.2.2.1, x.2.2.2.2.2.1, x.2.2.2.2.2.2.1, ()))
noncomputable def b4P : Go' W38 := fun y K => match y with
 | .inl y => K (.pan (.ifi 31 .i64) y.1) (fSt { tmps := V :: V :: .sc (.nilp) :: pv 27 [], mem := [] } [] ())
 | .inr y => K (.exit 2) (fSt { tmps := .sc (.vec 0 none 1) :: V :: .sc (.nilp) :: .sc (.ptr 1 0 false) :: V :: V :: .sc (.int .i64) :: pv 23 [], mem := [.live [.xs b8 none] (.ro), .live [.xs b32 (some 7680)] (.own)] } [.nat, .int, .nat, .xs, .xs] y)
noncomputable def a7E (N : Nat) : LT := upd (LT.nil) 6 (C6 b6D N (z8 N) b4P)
theorem b4Q (N : Nat) : OkAll p_dsa_expand_E a6R N (a7E N) (E4 a1h) :=
 d8 (c := d9 6 a1h) (OkAll.nil) (by kernel_rfl) (fun x => by kernel_rfl) (fun β x kn ke => by kernel_rfl)
noncomputable def b6C : Shape := mkS { tmps := .sc (.vec 0 none 1) :: V :: .sc (.nilp) :: .sc (.ptr 1 0 false) :: V :: V :: .sc (.int .i64) :: pv 23 [], mem := [.live [.xs b8 none] (.ro), .live [.xs b32 (some 7680)] (.own)] } [.nat, .int, .nat, .xs, .xs]
abbrev W39 : Type := Nat × Int × Nat × List Int × List Int × Unit
abbrev W40 : Type := (Int × Unit) ⊕ (List Int × Unit)
noncomputable def z7 (N : Nat) (β : Type) (x : W39) (kn : W39 → Option β) (ke : W40 → Option β) : Option β :=
 if (x.2.1 < (6:Int)) then
  E1 (z8 N) N (x.1, x.2.1, x.2.1, (0:Int), x.2.2.1, x.2.2.2.1, x.2.2.2.2.1, ()) fun y => (match y with
  | .inl y7 => (
   ke (.inl (y7.1, ())))
  | .inr y8 => (
   kn (y8.1, (IntKind.i64.wrap (y8.2.1 + (1:Int))), y8.2.2.1, y8.2.2.2.1, y8.2.2.2.2.1, ())))
 else
  ke (.inr (x.2.2.2.2.1, ()))
noncomputable def b4N : Go' W40 := fun y K => match y with
 | .inl y => K (.pan (.ifi 31 .i64) y.1) (fSt { tmps := V :: V :: .sc (.nilp) :: pv 27 [], mem := [] } [] ())
 | .inr y => K (.exit 0) (fSt { tmps := V :: V :: .sc (.nilp) :: .sc (.ptr 0 0 false) :: pv 26 [], mem := [.live [.xs b32 (some 7680)] (.own)] } [.xs] y)
noncomputable def a7D (N : Nat) : LT := upd (a7E N) 3 (C6 b6C N (z7 N) b4N)
theorem b4O (N : Nat) : OkAll p_dsa_expand_E a6R N (a7D N) (E4 a1h) :=
 d8 (c := d9 3 a1h) (b4Q N) (by kernel_rfl) (fun x => by kernel_rfl) (fun β x kn ke => by kernel_rfl)
abbrev a0s : List Kd := [.sl b8]
abbrev a0t : List Kd := [.op [.xs b32 7680]]
noncomputable def a6k (N : Nat) (x : List Int × Unit) : Option (Int ⊕ ((List Int × Unit))) :=
 E1 (z7 N) N ((List.length x.1), (0:Int), (List.length x.1), x.1, (List.replicate 7680 0), ()) fun y => (match y with
 | .inl y9 => (
  some (.inl y9.1))
 | .inr y10 => (
  some (.inr (y10.1, ()))))
theorem b76 (e0 : b6 Try.prog 14 j5) (e1 : b6 Try.prog 53 a6x) (e2 : XOk Try.prog 21 b5v) : p_dsa_expand_E.Ok Try.prog := AE.ofA_ok (all_cons a2O (all_cons S6 (all_cons w7 (all_cons a1Z (all_cons G7 (all_cons c6B (all_cons d0R b5))))))) (all_cons ⟨e0, x8⟩ (all_cons ⟨e1, b2s⟩ b5)) (all_cons ⟨e2, Z9⟩ b5) b5 b5 (all_cons ⟨a4v, Z9⟩ (all_cons ⟨a58, a3o⟩ b5)) b5 b5 b5 b5
theorem b9W (hE : p_dsa_expand_E.Ok Try.prog) {g : Ds a0s → Option (Bool × Int × Rs a0t)} (hg : ∀ x r, g x = some r → ∃ N, a6k N x = some (xr r)) : XOk Try.prog 27 ⟨a0s, a0t, (.ifi 31 .i64), g⟩ :=
 c9S (E := p_dsa_expand_E) (H := a6R) (L := fun N => a7D N) (c := a1h) (ks := a0s) (rs := a0t) (F := a6k) hE mix Try.func27 (by kernel_rfl) (fun N => b4O N) (fun _ _ => by kernel_rfl) hg
noncomputable abbrev a4R : Sig := ⟨[.xs b32 256], [.xs b32 256], a24⟩
noncomputable abbrev a0Z : Sig := ⟨[.xs b32 256, .xs b32 256], [.xs b32 256], a05⟩
noncomputable abbrev b2a : Sig := ⟨[.xs b32 256, .xs b32 256], [.xs b32 256], a8a⟩
noncomputable def p_dsa_matrix_raised_E : AE := AE.of [(53, ty53), (55, ty55), (66, ty66), (97, ty97)] [(25, a4R), (32, a0Z), (54, b2a)]
noncomputable def N5 : Hints := [(2, [0, 3, 4, 9]), (8, [0, 3, 4, 6, 19]), (11, [0, 3, 4, 6, 7, 19, 22]), (2000000, [0, 3, 4]), (2000001, [0, 3, 4, 9]), (2000002, [4, 6]), (2000003, [0, 3, 4, 6, 19]), (2000004, [0, 3, 4, 6, 19]), (2000005, [0, 3, 4, 6, 7, 19, 22]), (3000000, [4])]
noncomputable def t7 : Code := (Try.f28).body.getD .skip
noncomputable def a7G : Shape := mkS { tmps := .sc (.ptr 0 0 false) :: V :: V :: .sc (.ptr 1 0 false) :: .sc (.ptr 2 0 false) :: pv 4 (.sc (.int .i64) :: pv 35 []), mem := [.live [.xs b32 (some 7680)] (.ro), .live [.xs b32 (some 1280)] (.own), .live [.xs b32 (some 1536)] (.own)] } [.int, .xs, .xs, .xs]
noncomputable def z9 (N : Nat) (β : Type) (x : W4) (kn : W4 → Option β) (ke : W3 → Option β) : Option β :=
 if (x.1 < (5:Int)) then
  if 0 ≤ x.1 then (
  if x.1 < 5 then (
  if ((x.1.toNat) * 256) + 256 ≤ 1280 then (
  (a24 ((List.take 256 (List.drop ((x.1.toNat) * 256) x.2.2.1)), ())).bind fun r1 => (
  if 0 ≤ x.1 then (
  if x.1 < 5 then (
  if ((x.1.toNat) * 256) + 256 ≤ 1280 then (
  kn ((IntKind.i64.wrap (x.1 + (1:Int))), x.2.1, (List.take ((x.1.toNat) * 256) x.2.2.1 ++ r1 ++ List.drop (((x.1.toNat) * 256) + 256) x.2.2.1), x.2.2.2.1, ())) else none) else none) else none)) else none) else none) else none
 else
  ke (x.2.1, x.2.2.1, x.2.2.2.1, ())
noncomputable def a6T : Go' W3 := fun y K => K (.exit 0) (fSt { tmps := .sc (.ptr 0 0 false) :: V :: V :: .sc (.ptr 1 0 false) :: .sc (.ptr 2 0 false) :: pv 40 [], mem := [.live [.xs b32 (some 7680)] (.ro), .live [.xs b32 (some 1280)] (.own), .live [.xs b32 (some 1536)] (.own)] } [.xs, .xs, .xs] y)
noncomputable def a14 (N : Nat) : LT := upd (LT.nil) 2 (C6 a7G N (z9 N) a6T)
theorem a6U (N : Nat) : OkAll p_dsa_matrix_raised_E N5 N (a14 N) (E4 t7) :=
 d8 (c := d9 2 t7) (OkAll.nil) (by kernel_rfl) (fun x => by kernel_rfl) (fun β x kn ke => by kernel_rfl)
noncomputable def a6S : Shape := mkS { tmps := .sc (.ptr 0 0 false) :: V :: V :: .sc (.ptr 1 0 false) :: .sc (.ptr 2 0 false) :: V :: .sc (.ptr 3 0 false) :: .sc (.int .i64) :: pv 11 (.sc (.int .i64) :: V :: V :: .sc (.int .i64) :: pv 22 []), mem := [.live [.xs b32 (some 7680)] (.ro), .live [.xs b32 (some 1280)] (.own), .live [.xs b32 (some 1536)] (.own), .live [.xs b32 (some 1536)] (.own)] } [.int, .int, .int, .xs, .xs, .xs, .xs]
abbrev W41 : Type := Int × Int × Int × List Int × List Int × List Int × List Int × Unit
abbrev W42 : Type := Int × List Int × List Int × List Int × List Int × Unit
noncomputable def w6 (N : Nat) (β : Type) (x : W41) (kn : W41 → Option β) (ke : W42 → Option β) : Option β :=
 if (x.2.2.1 < (5:Int)) then
  if 0 ≤ x.1 then (
  if x.1 < 6 then (
  if ((x.1.toNat) * 256) + 256 ≤ 1536 then (
  if 0 ≤ x.1 then (
  if x.1 < 6 then (
  if 0 ≤ x.2.2.1 then (
  if x.2.2.1 < 5 then (
  if (((x.1.toNat) * 1280) + ((x.2.2.1.toNat) * 256)) + 256 ≤ 7680 then (
  if 0 ≤ x.2.2.1 then (
  if x.2.2.1 < 5 then (
  if ((x.2.2.1.toNat) * 256) + 256 ≤ 1280 then (
  (a05 ((List.take 256 (List.drop (((x.1.toNat) * 1280) + ((x.2.2.1.toNat) * 256)) x.2.2.2.1)), (List.take 256 (List.drop ((x.2.2.1.toNat) * 256) x.2.2.2.2.1)), ())).bind fun r3 => (
  (a8a ((List.take 256 (List.drop ((x.1.toNat) * 256) x.2.2.2.2.2.2.1)), r3, ())).bind fun r4 => (
  if 0 ≤ x.1 then (
  if x.1 < 6 then (
  if ((x.1.toNat) * 256) + 256 ≤ 1536 then (
  kn (x.1, x.2.1, (IntKind.i64.wrap (x.2.2.1 + (1:Int))), x.2.2.2.1, x.2.2.2.2.1, x.2.2.2.2.2.1, (List.take ((x.1.toNat) * 256) x.2.2.2.2.2.2.1 ++ r4 ++ List.drop (((x.1.toNat) * 256) + 256) x.2.2.2.2.2.2.1), ())) else none) else none) else none))) else none) else none) else none) else none) else none) else none) else none) else none) else none) else none) else none
 else
  ke (x.2.1, x.2.2.2.1, x.2.2.2.2.1, x.2.2.2.2.2.1, x.2.2.2.2.2.2.1, ())
noncomputable def a5S : Go' W42 := fun y K => K (.exit 4) (fSt { tmps := .sc (.ptr 0 0 false) :: V :: V :: .sc (.ptr 1 0 false) :: .sc (.ptr 2 0 false) :: V :: .sc (.ptr 3 0 false) :: pv 12 (.sc (.int .i64) :: pv 25 []), mem := [.live [.xs b32 (some 7680)] (.ro), .live [.xs b32 (some 1280)] (.own), .live [.xs b32 (some 1536)] (.own), .live [.xs b32 (some 1536)] (.own)] } [.int, .xs, .xs, .xs, .xs] y)
noncomputable def a1i (N : Nat) : LT := upd (a14 N) 11 (C6 a6S N (w6 N) a5S)
theorem a5T (N : Nat) : OkAll p_dsa_matrix_raised_E N5 N (a1i N) (E4 t7) :=
 d8 (c := d9 11 t7) (a6U N) (by kernel_rfl) (fun x => by kernel_rfl) (fun β x kn ke => by kernel_rfl)
noncomputable def a7H : Shape := mkS { tmps := .sc (.ptr 0 0 false) :: V :: V :: .sc (.ptr 1 0 false) :: .sc (.ptr 2 0 false) :: V :: .sc (.ptr 3 0 false) :: pv 12 (.sc (.int .i64) :: pv 25 []), mem := [.live [.xs b32 (some 7680)] (.ro), .live [.xs b32 (some 1280)] (.own), .live [.xs b32 (some 1536)] (.own), .live [.xs b32 (some 1536)] (.own)] } [.int, .xs, .xs, .xs, .xs]
noncomputable def A0 (N : Nat) (β : Type) (x : W42) (kn : W42 → Option β) (ke : W5 → Option β) : Option β :=
 if (x.1 < (6:Int)) then
  E1 (w6 N) N (x.1, x.1, (0:Int), x.2.1, x.2.2.1, x.2.2.2.1, x.2.2.2.2.1, ()) fun y5 => (
  kn ((IntKind.i64.wrap (y5.1 + (1:Int))), y5.2.1, y5.2.2.1, y5.2.2.2.1, y5.2.2.2.2.1, ()))
 else
  ke (x.2.2.2.1, x.2.2.2.2.1, ())
noncomputable def a6V : Go' W5 := fun y K => K (.exit 2) (fSt { tmps := pv 4 (.sc (.ptr 0 0 false) :: V :: .sc (.ptr 1 0 false) :: pv 38 []), mem := [.live [.xs b32 (some 1536)] (.own), .live [.xs b32 (some 1536)] (.own)] } [.xs, .xs] y)
noncomputable def a15 (N : Nat) : LT := upd (a1i N) 8 (C6 a7H N (A0 N) a6V)
theorem a6W (N : Nat) : OkAll p_dsa_matrix_raised_E N5 N (a15 N) (E4 t7) :=
 d8 (c := d9 8 t7) (a5T N) (by kernel_rfl) (fun x => by kernel_rfl) (fun β x kn ke => by kernel_rfl)
abbrev D0 : List Kd := [.rp (.xs b32 7680), .xs b32 1280]
abbrev D1 : List Kd := [.xs b32 1536]
noncomputable def J5 (N : Nat) (x : List Int × List Int × Unit) : Option (List Int) :=
 E1 (z9 N) N ((0:Int), x.1, x.2.1, (List.replicate 1536 0), ()) fun y2 => (
 E1 (A0 N) N ((0:Int), y2.1, y2.2.1, y2.2.2.1, (List.replicate 1536 0), ()) fun y6 => (
 some y6.2.1))
theorem a8B (e0 : b6 Try.prog 25 a4R) (e1 : b6 Try.prog 32 a0Z) (e2 : b6 Try.prog 54 b2a) : p_dsa_matrix_raised_E.Ok Try.prog := AE.of_ok (all_cons G7 (all_cons c6B (all_cons c6C (all_cons d0R b5)))) (all_cons ⟨e0, a8W⟩ (all_cons ⟨e1, a42⟩ (all_cons ⟨e2, b7v⟩ b5)))
theorem a9p (hE : p_dsa_matrix_raised_E.Ok Try.prog) {g : Ds D0 → Option (Rs D1)} (hg : ∀ x r, g x = some r → ∃ N, J5 N x = some r) : b6 Try.prog 28 ⟨D0, D1, g⟩ :=
 d6 (E := p_dsa_matrix_raised_E) (H := N5) (L := fun N => a15 N) (c := t7) (ks := D0) (rs := D1) (F := J5) hE mix Try.func28 (by kernel_rfl) (fun N => a6W N) (fun _ _ => by kernel_rfl) hg
end Go.Ax.TryP
set_option linter.unusedVariables false
namespace Go.Ax.TryP
open Go.Proofs
def bytes (zs : List Int) : Prop := ∀ z ∈ zs, 0 ≤ z ∧ z ≤ 255
def c1O (l : List (List Int)) : Prop := l.length ≤ maxLen ∧ ∀ zs ∈ l, zs.length ≤ maxLen ∧ bytes zs
theorem d4h {l : List (List Int)} : Kd.wf (.sls (.int .u8)) l ↔ c1O l := by simp [Kd.wf, c1O, bytes, a0F]
theorem a4h {b : List Int} : Kd.wf (.sl (.int .u8)) b ↔ b.length ≤ maxLen ∧ bytes b := by simp only [a8S]; exact Iff.rfl
theorem c67 {l : List (List Int)} {i : Nat} (hi : i < l.length) : (l.take (i + 1)).flatten = (l.take i).flatten ++ l.getD i [] := by
 rw [List.take_succ_eq_append_getElem hi, List.flatten_append, List.getD_eq_getElem?_getD, List.getElem?_eq_getElem hi]; simp
theorem c9P (l : List (List Int)) (i : Nat) : (l.take i).flatten.length ≤ l.flatten.length := by
 conv => rhs; rw [← List.take_append_drop i l, List.flatten_append, List.length_append]
 omega
theorem c4H : ∀ x r, q9 x = some r → ∃ N, a6p N x = some r := by
 refine c8 (ks := a0v) (rs := a0w) fun x hw hq => ?_
 obtain ⟨(l : List (List Int)), u⟩ := x
 obtain ⟨hq1, hq⟩ : l.length ≤ 1000 ∧ l.flatten.length ≤ 1000000 := hq
 refine ⟨l.length + 1, ?_⟩
 unfold a6p
 dsimp only
 refine (j6 (F := R4 (l.length + 1)) (s := fun i => (l, ((l.take i).flatten.length : Int), l, (l.length : Int), (i : Int), ())) (y := (l, (l.flatten.length : Int), ())) l.length rfl ?_ ?_ _ (by omega)).trans ?_
 ·intro i hi kn
  have h1 := c9P l (i + 1)
  rw [c67 hi] at h1 ⊢
  rw [List.length_append] at h1 ⊢
  unfold R4
  dsimp only
  rw [if_pos (by omega), if_pos (by omega), if_pos (by omega), Int.toNat_natCast, b7 (by omega) (by omega), b7 (by omega) (by omega), Int.natCast_add]
  rfl
 ·intro kn
  unfold R4
  dsimp only
  rw [if_neg (by omega), List.take_length]
 dsimp only
 rw [if_pos (by omega), if_pos (by omega), if_pos (by omega)]
 refine (j6 (F := R5 (l.length + 1)) (s := fun i => ((l.take i).flatten.length, l, (l.length : Int), (i : Int), (l.take i).flatten.length, (l.take i).flatten, ()))
  (y := (l.flatten.length, l.flatten.length, l.flatten, ())) l.length rfl ?_ ?_ _ (by omega)).trans ?_
 ·intro i hi kn
  have h1 := c9P l (i + 1)
  rw [c67 hi] at h1 ⊢
  rw [List.length_append] at h1 ⊢
  unfold R5
  dsimp only
  rw [if_pos (by omega), if_pos (by omega), if_pos (by omega), Int.toNat_natCast, if_pos (by omega), b7 (by omega) (by omega)]
  rfl
 ·intro kn
  unfold R5
  dsimp only
  rw [if_neg (by omega), List.take_length]
 ·rfl
theorem b5A {l : List (List Int)} (h : l.length ≤ 1000 ∧ l.flatten.length ≤ 1000000) (hr : c1O l) : q9 (l, ()) = some l.flatten :=
 c7 (ks := a0v) (rs := a0w) (x := (l, ())) ⟨d4h.2 hr, trivial⟩ h
theorem c48 {b : List Int} (h : bytes b) (i n : Nat) : bytes ((b.drop i).take n) := fun z hz => h z (List.mem_of_mem_drop (List.mem_of_mem_take hz))
theorem d0k {r : List Int} (h : r.length ≤ 1000000 ∧ bytes r) : c1O [r] := by
 have hM : 1000000 ≤ maxLen := by decide
 exact ⟨by simp only [List.length_cons, List.length_nil]; omega, fun zs hz => by rw [List.mem_singleton.1 hz]; exact ⟨by omega, h.2⟩⟩
theorem b8G (r : List Int) : [r].flatten = r := by simp
theorem d2o {a b : Int} (ha : 0 ≤ a ∧ a ≤ 255) (hb : 0 ≤ b ∧ b ≤ 255) {x : Int} (hx : 0 ≤ x ∧ x ≤ 255) :
  (0 ≤ ior .u8 x (b9m .u8 a b) ∧ ior .u8 x (b9m .u8 a b) ≤ 255) ∧ (ior .u8 x (b9m .u8 a b) = 0 ↔ x = 0 ∧ a = b) := by
 obtain ⟨a, rfl⟩ : ∃ m : Nat, a = m := ⟨a.toNat, by omega⟩
 obtain ⟨b, rfl⟩ : ∃ m : Nat, b = m := ⟨b.toNat, by omega⟩
 obtain ⟨x, rfl⟩ : ∃ m : Nat, x = m := ⟨x.toNat, by omega⟩
 have ha' : a < 2 ^ 8 := by omega
 have hb' : b < 2 ^ 8 := by omega
 have hx' : x < 2 ^ 8 := by omega
 have h1 : a ^^^ b < 2 ^ 8 := Nat.xor_lt_two_pow ha' hb'
 have h2 : x ||| (a ^^^ b) < 2 ^ 8 := Nat.or_lt_two_pow hx' h1
 rw [d1M (k := .u8) rfl ha' hb', c2t (k := .u8) rfl hx' h1]
 refine ⟨by omega, ?_⟩
 constructor
 ·intro h
  have h : x ||| (a ^^^ b) = 0 := by omega
  have hz : ∀ i, (x ||| (a ^^^ b)).testBit i = false := fun i => by rw [h]; exact Nat.zero_testBit i
  have hx0 : x = 0 := Nat.eq_of_testBit_eq fun i => by
   have := hz i
   rw [Nat.testBit_or, Bool.or_eq_false_iff] at this
   rw [this.1]; simp
  have hab : a = b := Nat.eq_of_testBit_eq fun i => by
   have := hz i
   rw [Nat.testBit_or, Bool.or_eq_false_iff, Nat.testBit_xor] at this
   have := this.2
   cases h1 : a.testBit i <;> cases h2 : b.testBit i <;> simp_all
  rw [hx0, hab]; simp
 ·rintro ⟨k1, k2⟩
  have k1 : x = 0 := by omega
  have k2 : a = b := by omega
  rw [k1, k2]
  simp
def c6m (a b : List Int) : Nat → Int
 | 0 => 0
 | i + 1 => ior .u8 (c6m a b i) (b9m .u8 (a.getD i 0) (b.getD i 0))
theorem c6W {a : List Int} (h : bytes a) (i : Nat) : 0 ≤ a.getD i 0 ∧ a.getD i 0 ≤ 255 := by
 rw [List.getD_eq_getElem?_getD]
 cases e : a[i]? with
 | none => simp
 | some z => exact h z (List.mem_of_getElem? e)
theorem c1S {a b : List Int} (ha : bytes a) (hb : bytes b) (hl : a.length = b.length) : ∀ i, i ≤ a.length → (0 ≤ c6m a b i ∧ c6m a b i ≤ 255) ∧ (c6m a b i = 0 ↔ a.take i = b.take i)
 | 0, _ => by simp [c6m]
 | i + 1, hi => by
  obtain ⟨h1, h2⟩ := c1S ha hb hl i (by omega)
  obtain ⟨g1, g2⟩ := d2o (c6W ha i) (c6W hb i) h1
  refine ⟨g1, g2.trans ?_⟩
  rw [h2, List.take_succ_eq_append_getElem (show i < a.length by omega), List.take_succ_eq_append_getElem (show i < b.length by omega)]
  have e : List.take i a ++ [a[i]] = List.take i b ++ [b[i]] ↔ List.take i a = List.take i b ∧ a[i] = b[i] :=
   ⟨fun h => by obtain ⟨p, q⟩ := List.append_inj h (by simp; omega); exact ⟨p, by simpa using q⟩, fun h => by rw [h.1, h.2]⟩
  rw [e]
  simp [List.getD_eq_getElem?_getD, List.getElem?_eq_getElem (show i < a.length by omega), List.getElem?_eq_getElem (show i < b.length by omega)]
theorem c4I : ∀ x r, a56 x = some r → ∃ N, a6q N x = some r := by
 refine c8 (ks := a0x) (rs := a5C) fun x hw hq => ?_
 obtain ⟨(a : List Int), (b : List Int), u⟩ := x
 obtain ⟨ha1, ha2⟩ : a.length ≤ maxLen ∧ bytes a := a4h.1 hw.1
 obtain ⟨hb1, hb2⟩ : b.length ≤ maxLen ∧ bytes b := a4h.1 hw.2.1
 have hM : maxLen = 9223372036854775807 := by decide
 refine ⟨a.length + 1, ?_⟩
 unfold a6q
 dsimp only
 by_cases hl : a.length = b.length
 ·rw [if_neg (by omega)]
  refine (j6 (F := R6 (a.length + 1)) (s := fun i => (a.length, b.length, c6m a b i, (a.length : Int), (i : Int), a.length, a, b.length, b, ())) (y := (c6m a b a.length, ())) a.length rfl ?_ ?_ (a.length + 1) (by omega)).trans ?_
  ·intro i hi kn
   unfold R6
   dsimp only
   rw [if_pos (by omega), if_pos (by omega), if_pos (by omega), Int.toNat_natCast, if_pos (by omega), if_pos (by omega), if_pos (by omega), if_pos (by omega), b7 (by omega) (by omega)]
   rfl
  ·intro kn
   unfold R6
   dsimp only
   rw [if_neg (by omega)]
  ·dsimp only
   refine congrArg some (decide_eq_decide.2 ?_)
   rw [(c1S ha2 hb2 hl a.length (Nat.le_refl _)).2, List.take_length, hl, List.take_length]
 ·rw [if_pos (by omega)]
  exact congrArg some (decide_eq_false (fun h => hl (by rw [show a = b from h]))).symm
theorem d29 {a b : List Int} (ha : a.length ≤ maxLen ∧ bytes a) (hb : b.length ≤ maxLen ∧ bytes b) : a56 (a, b, ()) = some (decide (a = b)) :=
 c7 (ks := a0x) (rs := a5C) (x := (a, b, ())) ⟨a4h.2 ha, a4h.2 hb, trivial⟩ trivial
end Go.Ax.TryP
set_option linter.unusedVariables false
namespace Go.Ax.TryP
open Go.Proofs
theorem mB {n : Nat} (h : n ≤ 10000000) : n ≤ maxLen := by
 unfold maxLen
 omega
theorem d3D {d : Int} (h : 0 ≤ d ∧ d ≤ 1000000) : S0 .i64 d := j7.2 (by omega)
theorem c8D : ∀ x r, a4N x = some r → ∃ N, b0W N x = some (xr r) := by
 refine c6K (ks := a2D) (rs := a2E) fun x hw hq => ⟨0, ?_⟩
 obtain ⟨(a : List Int), (e : Int), u⟩ := x
 unfold b0W
 dsimp only
 by_cases h : e = 0
 ·rw [if_neg (by simp [h])]
  simp [xr, h]
 ·rw [if_pos h]
  simp [xr, h]
theorem c8C : ∀ x r, a25 x = some r → ∃ N, a7F N x = some r := by
 refine c8 (ks := a2B) (rs := a2C) fun x hw hq => ⟨0, ?_⟩
 obtain ⟨(n : Int), (l : List (List Int)), u⟩ := x
 have hn : 0 ≤ n ∧ n ≤ 1000 := hq
 have hl : a0y l := a1F.1 hw.2.1
 show a7F 0 (n, l, u) = some (a9c l.flatten n.toNat)
 obtain ⟨m, rfl⟩ : ∃ m : Nat, n = m := ⟨n.toNat, by omega⟩
 have e := c6P (b := 256) (Or.inr rfl) (n := m) (by omega) hl
 rw [if_neg (by decide)] at e
 unfold a7F
 dsimp only
 rw [e, Option.bind_some, if_neg (by simp), Int.toNat_natCast]
 rfl
theorem c5k {n : Nat} {l : List (List Int)} (hn : n ≤ 1000) (hl : a0y l) : a25 ((n : Int), l, ()) = some (a9c l.flatten n) :=
 c7 (ks := a2B) (rs := a2C) (x := ((n : Int), l, ())) (Q := fun x => 0 ≤ x.1 ∧ x.1 ≤ 1000) (f := fun x => a9c x.2.1.flatten x.1.toNat) ⟨d3D ⟨by show 0 ≤ (n : Int); omega, by show (n : Int) ≤ 1000000; omega⟩, a1F.2 hl, trivial⟩ ⟨by show 0 ≤ (n : Int); omega, by show (n : Int) ≤ 1000; omega⟩
theorem c54 : ∀ x r, a48 x = some r → ∃ N, a5p N x = some r := by
 refine c8 (ks := a1j) (rs := a1k) fun x hw hq => ⟨0, ?_⟩
 obtain ⟨(tr : List Int), (msg : List Int), (ctx : List Int), u⟩ := x
 have h1 : tr.length ≤ maxLen ∧ bytes tr := a4h.1 hw.1
 have h2 : msg.length ≤ maxLen ∧ bytes msg := a4h.1 hw.2.1
 have h3 : ctx.length ≤ maxLen ∧ bytes ctx := a4h.1 hw.2.2.1
 show a5p 0 (tr, msg, ctx, u) = some (c7i tr msg ctx)
 unfold a5p
 dsimp only
 have e1 : List.set (List.set (List.replicate 2 (0 : Int)) 0 0) 1 (IntKind.u8.wrap (ctx.length : Int)) = [0, (ctx.length : Int) % 256] := by rw [a8T]; rfl
 have hl : a0y [tr, [0, (ctx.length : Int) % 256], ctx, msg] := ⟨mB (by simp), fun zs hzs => by
  rcases List.mem_cons.1 hzs with rfl | hzs
  ·exact h1
  rcases List.mem_cons.1 hzs with rfl | hzs
  ·refine ⟨mB (by simp), fun z hz => ?_⟩
   rcases List.mem_cons.1 hz with rfl | hz
   ·omega
   ·rw [List.mem_singleton.1 hz]; omega
  rcases List.mem_cons.1 hzs with rfl | hzs
  ·exact h3
  ·rw [List.mem_singleton.1 hzs]; exact h2⟩
 have e2 := c5k (n := 64) (by omega) hl
 rw [show [tr, [0, (ctx.length : Int) % 256], ctx, msg].flatten = tr ++ [0, (ctx.length : Int) % 256] ++ ctx ++ msg by simp] at e2
 rw [e1, show (64 : Int) = ((64 : Nat) : Int) from rfl, e2, Option.bind_some]
 rfl
theorem d1h {tr msg ctx : List Int} (h1 : tr.length ≤ maxLen ∧ bytes tr) (h2 : msg.length ≤ maxLen ∧ bytes msg) (h3 : ctx.length ≤ maxLen ∧ bytes ctx) : a48 (tr, msg, ctx, ()) = some (c7i tr msg ctx) :=
 c7 (ks := a1j) (rs := a1k) (x := (tr, msg, ctx, ())) ⟨a4h.2 h1, a4h.2 h2, a4h.2 h3, trivial⟩ trivial
end Go.Ax.TryP
set_option linter.unusedVariables false
namespace Go.Ax.TryP
open Go.Proofs
theorem d1H {m n : Nat} (hm : m < 2 ^ 60) (hn : n < 2 ^ 60) : b9j .i64 (m : Int) (n : Int) = ((m &&& n : Nat) : Int) := by
 unfold b9j
 rw [BitVec.toNat_and, a1t (k := .i64) (by show m < 2 ^ 64; omega), a1t (k := .i64) (by show n < 2 ^ 64; omega)]
 have h : m &&& n ≤ m := Nat.and_le_left
 exact b7 (by omega) (by omega)
theorem d3l {x : Int} (h0 : 0 ≤ x) (h1 : x < 2 ^ 60) {s : Nat} (hs : s ≤ 60) : b9j .i64 (c2w .i64 x (s : Int)) 1 = c7W x s := by
 obtain ⟨m, rfl⟩ : ∃ m : Nat, x = m := ⟨x.toNat, by omega⟩
 rw [b8E (by show s ≤ 64; omega), c6U, show (1 : Int) = ((1 : Nat) : Int) from rfl, d1H (Nat.lt_of_le_of_lt (Nat.div_le_self _ _) (by omega)) (by decide), d6c]
theorem d5c {w i k : Nat} (l : List Int) (hk : k < w) : pkE w l (i * w + k) = c7W (l.getD i 0) k := by
 unfold pkE
 rw [show (i * w + k) / w = i by rw [Nat.add_comm, Nat.add_mul_div_right _ _ (by omega), Nat.div_eq_of_lt hk, Nat.zero_add], show (i * w + k) % w = k by rw [Nat.add_comm, Nat.add_mul_mod_self_right, Nat.mod_eq_of_lt hk]]
theorem d5d (w : Nat) (l : List Int) (t : Nat) : 0 ≤ pkE w l t ∧ pkE w l t ≤ 1 := c9w _ _
theorem d2K {w : Nat} (h : w ≤ 23) : (2 : Int) ^ w ≤ 8388608 := by
 have h2 : (2 : Nat) ^ w ≤ 8388608 := Nat.le_trans (Nat.pow_le_pow_right (n := 2) (j := 23) (by decide) h) (by decide)
 have h3 : ((2 ^ w : Nat) : Int) = (2 : Int) ^ w := by simp
 rw [← h3]
 omega
theorem c4C : ∀ x r, a55 x = some r → ∃ N, a3S N x = some r := by
 refine c8 (ks := a0o) (rs := a0p) fun x hw hq => ⟨300, ?_⟩
 obtain ⟨(w : Int), (l : List Int), u⟩ := x
 have hw1 : 1 ≤ w ∧ w ≤ 23 := hq.1
 have hin : inW w.toNat l := hq.2
 obtain ⟨d, rfl⟩ : ∃ d : Nat, w = d := ⟨w.toNat, by omega⟩
 have h0 : 1 ≤ d := by omega
 have h1 : d ≤ 23 := by omega
 rw [Int.toNat_natCast] at hin
 have hp := d2K h1
 show a3S 300 ((d : Int), l, u) = some (pkW ((d : Int)).toNat l, 0)
 rw [Int.toNat_natCast]
 have e1 : IntKind.i64.wrap ((32 : Int) * (d : Int)) = ((32 * d : Nat) : Int) := by rw [b7 (by omega) (by omega)]; omega
 have e2 : b1X .i64 (1 : Int) (d : Int) = 2 ^ d := by
  show IntKind.i64.wrap ((1 : Int) * 2 ^ min ((d : Int)).toNat 64) = _
  rw [Int.toNat_natCast, Nat.min_eq_left (by omega), Int.one_mul]
  have : (0 : Int) < 2 ^ d := Int.pow_pos (by omega)
  exact b7 (by omega) (by omega)
 unfold a3S
 dsimp only
 rw [if_neg (by omega), if_neg (by omega), e1, if_pos (by omega), if_pos rfl, if_pos (by omega), Int.toNat_natCast]
 have e0 : List.replicate (32 * d) 0 = a4l (c5e (pkE d l) (0 * d)) (32 * d) := by rw [Nat.zero_mul, c5x]
 rw [e0]
 refine (K3 (F := Q7 300) (s := fun i => ((d : Int), 32 * d, l, (i : Int), 32 * d, a4l (c5e (pkE d l) (i * d)) (32 * d), ())) (y := .inr (32 * d, 32 * d, a4l (pkE d l) (32 * d), ())) 256 ?_ ?_ 300 (by omega)).trans rfl
 ·intro i hi kn
  obtain ⟨z0, z1⟩ := hin i hi
  unfold Q7
  dsimp only
  rw [if_pos (by omega), if_pos (by omega), if_pos (by omega), Int.toNat_natCast, if_pos (by omega), if_neg (by omega), if_neg (by omega), e2, if_neg (by omega)]
  refine (K3 (F := N2 300) (s := fun k => ((d : Int), 32 * d, (i : Int), l.getD i 0, l, (i : Int), (d : Int), (k : Int), 32 * d, a4l (c5e (pkE d l) (i * d + k)) (32 * d), ()))
   (y := ((d : Int), 32 * d, l, (i : Int), 32 * d, a4l (c5e (pkE d l) (i * d + d)) (32 * d), ())) d ?_ ?_ 300 (by omega)).trans ?_
  ·intro k hk kn
   have hle := d40 (d := d) hi
   have hb := c9w (l.getD i 0) k
   have ee := d5c (i := i) l hk
   have em : (i : Int) * d = ((i * d : Nat) : Int) := by simp
   have ea : ((i * d : Nat) : Int) + k = ((i * d + k : Nat) : Int) := by simp
   have ed : ((i * d + k : Nat) : Int) / 8 = (((i * d + k) / 8 : Nat) : Int) := by omega
   have er : ((i * d + k : Nat) : Int) % 8 = (((i * d + k) % 8 : Nat) : Int) := by omega
   unfold N2
   dsimp only
   rw [if_pos (by omega), em, b7 (x := ((i * d : Nat) : Int)) (by omega) (by omega), ea, b7 (x := ((i * d + k : Nat) : Int)) (by omega) (by omega), a6u (by omega), b01 (by omega), ed, er,
    b7 (x := (((i * d + k) / 8 : Nat) : Int)) (by omega) (by omega)]
   simp (disch := omega) only [if_pos, if_neg, Int.toNat_natCast]
   rw [d3l z0 (by omega) (show k ≤ 60 by omega), c3p hb.1 (by omega), ← ee, c5w (fun t _ => d5d d l t) (by omega), b7 (by omega) (by omega), Int.natCast_add]
   rfl
  ·intro kn
   unfold N2
   dsimp only
   rw [if_neg (by omega)]
  ·dsimp only
   rw [b7 (by omega) (by omega), Int.natCast_add, show (i + 1) * d = i * d + d from Nat.succ_mul i d]
   rfl
 ·intro kn
  unfold Q7
  dsimp only
  rw [if_neg (by omega), show 256 * d = 8 * (32 * d) by omega, c8c]
end Go.Ax.TryP
set_option linter.unusedVariables false
namespace Go.Ax.TryP
open Go.Proofs
abbrev d50 (n : Nat) (a : List Int) : Prop := rows (-9223372036854775808) 9223372036854775807 n a
theorem d4e {n : Nat} {a : List Int} : Kd.wf (.xs (.int .i64) n) a ↔ d50 n a := by simp [Kd.wf, rows, j7]
theorem d3g {d : Nat} {l : List Int} (hd : 1 ≤ d ∧ d ≤ 23) (hl : d50 256 l) (hin : inW d l) : a55 ((d : Int), l, ()) = some (pkW d l, 0) :=
 (c7 (ks := a0o) (rs := a0p) (x := ((d : Int), l, ())) (Q := fun x => (1 ≤ x.1 ∧ x.1 ≤ 23) ∧ inW x.1.toNat x.2.1) (f := fun x => (pkW x.1.toNat x.2.1, 0)) ⟨d3D ⟨by show 0 ≤ (d : Int); omega, by show (d : Int) ≤ 1000000; omega⟩, d4e.2 hl, trivial⟩
  ⟨⟨by show 1 ≤ (d : Int); omega, by show (d : Int) ≤ 23; omega⟩, by show inW ((d : Int)).toNat l; rw [Int.toNat_natCast]; exact hin⟩).trans (by show some (pkW ((d : Int)).toNat l, (0 : Int)) = _; rw [Int.toNat_natCast])
theorem d3F {d : Nat} (hd : d ≤ 23) {l : List Int} (hl : l.length = 256) (h : inW d l) : d50 256 l := by
 have hp := d2K hd
 refine ⟨hl, fun z hz => ?_⟩
 obtain ⟨i, hi, rfl⟩ := List.mem_iff_getElem.1 hz
 have := h i (by omega)
 rw [List.getD_eq_getElem?_getD, List.getElem?_eq_getElem hi, Option.getD_some] at this
 omega
theorem d1N {a : List Int} (h : a.length = 256) : (List.range 256).map (fun i => a.getD i 0) = a := by
 refine List.ext_getElem (by simp [h]) fun i h1 h2 => ?_
 rw [List.getElem_map, List.getElem_range, List.getD_eq_getElem?_getD, List.getElem?_eq_getElem h2, Option.getD_some]
theorem c4A : ∀ x r, a53 x = some r → ∃ N, a3P N x = some r := by
 refine c8 (ks := a0k) (rs := a0l) fun x hw hq => ⟨300, ?_⟩
 obtain ⟨(w : Int), (a : List Int), u⟩ := x
 have hw1 : 1 ≤ w ∧ w ≤ 23 := hq.1
 have hin : inW w.toNat (a03 a) := hq.2
 have ha : a2c 256 a := Y3.1 hw.2.1
 obtain ⟨d, rfl⟩ : ∃ d : Nat, w = d := ⟨w.toNat, by omega⟩
 show a3P 300 ((d : Int), a, u) = some (pkW ((d : Int)).toNat (a03 a), 0)
 rw [Int.toNat_natCast] at hin ⊢
 have hl : (a03 a).length = 256 := b3G _
 have hat := c65 a
 unfold a3P
 dsimp only
 rw [b8O ha, Option.bind_some]
 generalize a03 a = r at hin hl hat ⊢
 refine (j6 (F := Q2 300) (s := fun i => ((d : Int), r, (i : Int), part (fun i => r.getD i 0) i (List.replicate 256 0), ())) (y := ((d : Int), r, ())) 256 rfl ?_ ?_ 300 (by omega)).trans ?_
 ·intro i hi kn
  have := hat i
  unfold Q2
  dsimp only
  rw [if_pos (by omega), if_pos (by omega), if_pos (by omega), Int.toNat_natCast, if_pos (by omega), if_pos (by omega), if_pos (by omega), if_pos (by omega), b7 (x := r.getD i 0) (by omega) (by omega), b7 (by omega) (by omega), F6 (h := fun i => r.getD i 0) (by rw [List.length_replicate]; exact hi) rfl]
  rfl
 ·intro kn
  unfold Q2
  dsimp only
  rw [if_neg (by omega), N9 (n := 256) (by rw [List.length_replicate]), d1N hl]
 ·dsimp only
  rw [d3g ⟨by omega, by omega⟩ (d3F (by omega) hl hin) hin, Option.bind_some]
theorem d1e {d : Nat} {a : List Int} (hd : 1 ≤ d ∧ d ≤ 23) (ha : a2c 256 a) (hin : inW d (a03 a)) : a53 ((d : Int), a, ()) = some (pkW d (a03 a), 0) :=
 (c7 (ks := a0k) (rs := a0l) (x := ((d : Int), a, ())) (Q := fun x => (1 ≤ x.1 ∧ x.1 ≤ 23) ∧ inW x.1.toNat (a03 x.2.1)) (f := fun x => (pkW x.1.toNat (a03 x.2.1), 0)) ⟨d3D ⟨by show 0 ≤ (d : Int); omega, by show (d : Int) ≤ 1000000; omega⟩, Y3.2 ha, trivial⟩
  ⟨⟨by show 1 ≤ (d : Int); omega, by show (d : Int) ≤ 23; omega⟩, by show inW ((d : Int)).toNat _; rw [Int.toNat_natCast]; exact hin⟩).trans (by show some (pkW ((d : Int)).toNat (a03 a), (0 : Int)) = _; rw [Int.toNat_natCast])
end Go.Ax.TryP
set_option linter.unusedVariables false
namespace Go.Ax.TryP
open Go.Proofs
end Go.Ax.TryP
set_option linter.unusedVariables false
namespace Go.Ax.TryP
open Go.Proofs
def a4O (f : Nat → List Int) : Nat → List Int
 | 0 => []
 | n + 1 => a4O f n ++ f n
theorem a4K {f : Nat → List Int} {w : Nat} : ∀ {n : Nat}, (∀ i, i < n → (f i).length = w) → (a4O f n).length = n * w
 | 0, _ => by simp [a4O]
 | n + 1, h => by
  rw [a4O, List.length_append, a4K fun i hi => h i (by omega), h n (by omega), Nat.succ_mul]
theorem c5Q {A B C : List Int} {i : Nat} (hA : A.length = i * 256) (hB : B.length = 256) : List.take 256 (List.drop (i * 256) (A ++ B ++ C)) = B := by
 rw [List.append_assoc, List.drop_left' hA, List.take_left' hB]
theorem d0a {A B C v : List Int} {i : Nat} (hA : A.length = i * 256) (hB : B.length = 256) : List.take (i * 256) (A ++ B ++ C) ++ v ++ List.drop (i * 256 + 256) (A ++ B ++ C) = A ++ v ++ C := by
 rw [List.append_assoc A B C, List.take_left' hA, ← List.append_assoc A B C, List.drop_left' (by rw [List.length_append, hA, hB])]
def a4G (f : Nat → List Int) (z : List Int) (i : Nat) : List Int := a4O f i ++ z.drop (i * 256)
theorem b8Y {z : List Int} {n i : Nat} (hz : z.length = n * 256) (hi : i < n) : z.drop (i * 256) = chD z i ++ z.drop ((i + 1) * 256) := by
 unfold chD
 rw [Nat.succ_mul, ← List.drop_drop, List.take_append_drop]
theorem c2f {z : List Int} {n i : Nat} (hz : z.length = n * 256) (hi : i < n) : (chD z i).length = 256 := by
 have : (i + 1) * 256 ≤ n * 256 := Nat.mul_le_mul_right _ hi
 unfold chD
 rw [List.length_take, List.length_drop, hz]
 omega
theorem a7O (f : Nat → List Int) (z : List Int) : a4G f z 0 = z := by simp [a4G, a4O]
theorem b0q {f : Nat → List Int} {z : List Int} {n : Nat} (hz : z.length = n * 256) : a4G f z n = a4O f n := by
 unfold a4G
 rw [List.drop_eq_nil_of_le (by omega), List.append_nil]
theorem d0p {f : Nat → List Int} {z : List Int} {n i : Nat} (hz : z.length = n * 256) (hf : ∀ j, j < n → (f j).length = 256) (hi : i < n) : List.take 256 (List.drop (i * 256) (a4G f z i)) = chD z i := by
 unfold a4G
 rw [b8Y hz hi, ← List.append_assoc]
 exact c5Q (a4K fun j hj => hf j (by omega)) (c2f hz hi)
theorem b45 {f : Nat → List Int} {z : List Int} {n i : Nat} (hz : z.length = n * 256) (hf : ∀ j, j < n → (f j).length = 256) (hi : i < n) : List.take (i * 256) (a4G f z i) ++ f i ++ List.drop (i * 256 + 256) (a4G f z i) = a4G f z (i + 1) := by
 unfold a4G
 rw [b8Y hz hi, ← List.append_assoc, d0a (a4K fun j hj => hf j (by omega)) (c2f hz hi)]
 rfl
theorem d1A {f : Nat → List Int} {n : Nat} (h : ∀ j, j < n → (f j).length = 256) : List.drop (n * 256) (a4O f n ++ f n) = f n := List.drop_left' (a4K h)
theorem c2g {f : Nat → List Int} : ∀ {n i : Nat}, (∀ j, j < n → (f j).length = 256) → i < n → chD (a4O f n) i = f i
 | 0, i, _, hi => absurd hi (Nat.not_lt_zero i)
 | n + 1, i, h, hi => by
  by_cases e : i = n
  ·rw [e]
   have hn := h n (Nat.lt_succ_self n)
   unfold chD a4O
   rw [d1A fun j hj => h j (Nat.lt_succ_of_lt hj)]
   exact List.take_of_length_le (Nat.le_of_eq hn)
  ·have ih := c2g (f := f) (n := n) (i := i) (fun j hj => h j (Nat.lt_succ_of_lt hj)) (by omega)
   have hl := a4K (f := f) (w := 256) (n := n) fun j hj => h j (Nat.lt_succ_of_lt hj)
   have h3 : (i + 1) * 256 ≤ n * 256 := Nat.mul_le_mul_right 256 (show i + 1 ≤ n by omega)
   rw [Nat.succ_mul] at h3
   have h1 : i * 256 ≤ (a4O f n).length := by rw [hl]; exact Nat.le_trans (Nat.le_add_right _ _) h3
   have h2 : 256 ≤ (List.drop (i * 256) (a4O f n)).length := by rw [List.length_drop, hl]; exact Nat.le_sub_of_add_le (by rw [Nat.add_comm]; exact h3)
   unfold chD at ih ⊢
   rw [a4O, List.drop_append_of_le_length h1, List.take_append_of_le_length h2, ih]
end Go.Ax.TryP
set_option linter.unusedVariables false
namespace Go.Ax.TryP
open Go.Proofs
theorem c5p {z : List Int} {n i : Nat} (hz : a2c (n * 256) z) (hi : i < n) : a2c 256 (chD z i) := ⟨c2f hz.1 hi, fun x hx => hz.2 x (List.mem_of_mem_drop (List.mem_of_mem_take hx))⟩
theorem d0s (w : Nat) (l : List Int) : (pkW w l).length = 32 * w := a7l _ _
theorem d0r (w : Nat) (l : List Int) : bytes (pkW w l) := fun z hz => by
 obtain ⟨j, _, rfl⟩ := List.mem_map.1 hz
 have := c10 (n := 8) (c := fun s => pkE w l (8 * j + s)) fun s _ => d5d w l _
 have h8 : (2 : Int) ^ 8 = 256 := by decide
 omega
theorem b8Z (mu high : List Int) : c2h mu high = mu ++ a4O (fun r => pkW 4 (a03 (chD high r))) 6 := by
 unfold c2h
 rw [show List.range 6 = [0, 1, 2, 3, 4, 5] from rfl]
 simp [a4O]
theorem b8V {a b : List Int} (ha : bytes a) (hb : bytes b) : bytes (a ++ b) := fun z hz => by
 rcases List.mem_append.1 hz with h | h
 ·exact ha z h
 ·exact hb z h
theorem c3L {f : Nat → List Int} (h : ∀ i, bytes (f i)) : ∀ n, bytes (a4O f n)
 | 0 => fun z hz => by simp [a4O] at hz
 | n + 1 => b8V (c3L h n) (h n)
theorem c0j : ∀ x r, a2k x = some r → ∃ N, a0r N x = some r := by
 refine c8 (ks := N3) (rs := N4) fun x hw hq => ⟨10, ?_⟩
 obtain ⟨(mu : List Int), (high : List Int), u⟩ := x
 have hmu : mu.length ≤ maxLen ∧ bytes mu := a4h.1 hw.1
 have hh : a2c (6 * 256) high := Y3.1 hw.2.1
 have hl : mu.length ≤ 1000 := hq.1
 have hin : ∀ r, r < 6 → inW 4 (a03 (chD high r)) := hq.2
 show a0r 10 (mu, high, u) = some (c5q mu high)
 have hj := b5A (l := [mu]) ⟨by simp, by simp; omega⟩ ⟨mB (by simp), fun zs hzs => by rw [List.mem_singleton.1 hzs]; exact hmu⟩
 rw [show [mu].flatten = mu by simp] at hj
 unfold a0r
 dsimp only
 rw [hj, Option.bind_some]
 have hF : ∀ n, (a4O (fun r => pkW 4 (a03 (chD high r))) n).length = n * 128 := fun n => a4K fun i _ => d0s 4 _
 refine (j6 (F := H1 10) (s := fun i => (mu.length + i * 128, (i : Int), high, mu.length + i * 128, mu ++ a4O (fun r => pkW 4 (a03 (chD high r))) i, ())) (y := .inr (mu.length + 6 * 128, mu.length + 6 * 128, c2h mu high, ())) 6 (by simp [a4O]) ?_ ?_ 10 (by omega)).trans ?_
 ·intro i hi kn
  have hc : List.take 256 (List.drop (i * 256) high) = chD high i := rfl
  unfold H1
  dsimp only
  have e4 := d1e (d := 4) (by omega) (c5p hh hi) (hin i hi)
  rw [if_pos (by omega), if_pos (by omega), if_pos (by omega), Int.toNat_natCast, if_pos (by omega), hc, show (4 : Int) = ((4 : Nat) : Int) from rfl, e4, Option.bind_some]
  dsimp only
  rw [if_neg (by simp), d0s, if_pos (by omega), b7 (by omega) (by omega), List.append_assoc, show mu.length + i * 128 + 32 * 4 = mu.length + (i + 1) * 128 by omega]
  rfl
 ·intro kn
  unfold H1
  dsimp only
  rw [if_neg (by omega), b8Z]
 ·dsimp only
  have hb : bytes (c2h mu high) := by rw [b8Z]; exact b8V hmu.2 (c3L (fun i => d0r 4 _) 6)
  have hlen : (c2h mu high).length ≤ maxLen := mB (by rw [b8Z, List.length_append, hF]; omega)
  have e := c5k (n := 48) (l := [c2h mu high]) (by omega) ⟨mB (by simp), fun zs hzs => by rw [List.mem_singleton.1 hzs]; exact ⟨hlen, hb⟩⟩
  rw [show [c2h mu high].flatten = c2h mu high by simp] at e
  rw [show (48 : Int) = ((48 : Nat) : Int) from rfl, e, Option.bind_some]
  rfl
end Go.Ax.TryP
set_option linter.unusedVariables false
namespace Go.Ax.TryP
open Go.Proofs
theorem b00 (m y : List Int) (r : Nat) : ∀ s, a2c 256 (c11 m y r s)
 | 0 => rows.zero (by omega) 256
 | s + 1 => c9M _ _
theorem c21 {f : Nat → List Int} (h : ∀ i, a2c 256 (f i)) : ∀ n, a2c (n * 256) (a4O f n)
 | 0 => ⟨by simp [a4O], fun z hz => by simp [a4O] at hz⟩
 | n + 1 => ⟨a4K fun i _ => (h i).1, fun z hz => by
  rcases List.mem_append.1 hz with hz | hz
  ·exact (c21 h n).2 z hz
  ·exact (h n).2 z hz⟩
theorem d1p {i : Nat} (hi : i < 6) : chD (List.replicate 1536 0) i = List.replicate 256 0 := by
 unfold chD
 rw [List.drop_replicate, List.take_replicate, Nat.min_eq_left (by omega)]
theorem d4M (m : List Int) (r s : Nat) : List.take 256 (List.drop (r * 1280 + s * 256) m) = chD m (r * 5 + s) := by
 unfold chD
 rw [show (r * 5 + s) * 256 = r * 1280 + s * 256 by omega]
theorem c2n {a : List Int} (h : dred a) : a2c 256 a := ⟨h.1, fun z hz => by
 obtain ⟨i, hi, rfl⟩ := List.mem_iff_getElem.1 hz
 have := h.2 i
 rw [List.getD_eq_getElem?_getD, List.getElem?_eq_getElem hi, Option.getD_some] at this
 omega⟩
theorem c2o (a : List Int) : a2c 256 (a2P a) := c2n (c9K a)
theorem c1A (a b : List Int) : a2c 256 (b3Q a b) := c2n (b3H fun i _ => by omega)
theorem b3o : ∀ x r, S7 x = some r → ∃ N, J5 N x = some r := by
 refine c8 (ks := D0) (rs := D1) fun x hw hq => ⟨10, ?_⟩
 obtain ⟨(m : List Int), (y : List Int), u⟩ := x
 have hm : a2c (30 * 256) m := Y3.1 hw.1
 have hy : a2c (5 * 256) y := Y3.1 hw.2.1
 show J5 10 (m, y, u) = some (b6S m y)
 have hF : ∀ j, j < 5 → (a2P (chD y j)).length = 256 := fun j _ => (c2o _).1
 have hG : ∀ j, j < 6 → (c11 m y j 5).length = 256 := fun j _ => (b00 m y j 5).1
 have hZ : (List.replicate 1536 (0 : Int)).length = 6 * 256 := by rw [List.length_replicate]
 unfold J5
 dsimp only
 generalize hz : List.replicate 1536 (0 : Int) = Z at hZ
 refine (j6 (F := z9 10) (s := fun i => ((i : Int), m, a4G (fun j => a2P (chD y j)) y i, Z, ())) (y := (m, a4O (fun j => a2P (chD y j)) 5, Z, ())) 5 (by rw [a7O]; rfl) ?_ ?_ 10 (by omega)).trans ?_
 ·intro i hi kn
  unfold z9
  dsimp only
  rw [if_pos (by omega), if_pos (by omega), if_pos (by omega), Int.toNat_natCast, if_pos (by omega), d0p hy.1 hF hi, c5g (c5p hy hi), Option.bind_some, if_pos (by omega), if_pos (by omega), if_pos (by omega), b7 (by omega) (by omega)]
  exact congrArg kn (by rw [b45 (f := fun j => a2P (chD y j)) hy.1 hF hi]; rfl)
 ·intro kn
  unfold z9
  dsimp only
  rw [if_neg (by omega), b0q hy.1]
 dsimp only
 refine (j6 (F := A0 10) (s := fun r => ((r : Int), m, a4O (fun j => a2P (chD y j)) 5, Z, a4G (fun r => c11 m y r 5) Z r, ())) (y := (Z, a4O (fun r => c11 m y r 5) 6, ())) 6 (by rw [a7O]; rfl) ?_ ?_ 10 (by omega)).trans ?_
 ·intro r hr kn
  have hA : (a4O (fun r => c11 m y r 5) r).length = r * 256 := a4K fun j _ => (b00 m y j 5).1
  unfold A0
  dsimp only
  rw [if_pos (by omega)]
  refine (j6 (F := w6 10) (s := fun s => ((r : Int), (r : Int), (s : Int), m, a4O (fun j => a2P (chD y j)) 5, Z, a4O (fun r => c11 m y r 5) r ++ c11 m y r s ++ Z.drop ((r + 1) * 256), ())) (y := ((r : Int), m, a4O (fun j => a2P (chD y j)) 5, Z, a4O (fun r => c11 m y r 5) r ++ c11 m y r 5 ++ Z.drop ((r + 1) * 256), ())) 5 ?_ ?_ ?_ 10 (by omega)).trans ?_
  ·have : a4G (fun r => c11 m y r 5) Z r = a4O (fun r => c11 m y r 5) r ++ c11 m y r 0 ++ Z.drop ((r + 1) * 256) := by
    unfold a4G
    rw [b8Y hZ hr, ← List.append_assoc, ← hz, d1p hr]
    rfl
   rw [this]
   rfl
  ·intro s hs kn
   have hB := (b00 m y r s).1
   have he : r * 5 + s < 30 := by omega
   unfold w6
   dsimp only
   rw [if_pos (by omega), if_pos (by omega), if_pos (by omega), Int.toNat_natCast, if_pos (by omega), if_pos (by omega), if_pos (by omega), if_pos (by omega), if_pos (by omega), Int.toNat_natCast, if_pos (by omega), if_pos (by omega), if_pos (by omega), if_pos (by omega), d4M, show List.take 256 (List.drop (s * 256) (a4O (fun j => a2P (chD y j)) 5)) = a2P (chD y s) from c2g hF hs,
    c3x (c5p hm he) (c2o _), Option.bind_some, c5Q hA hB, d4u (b00 m y r s) (c1A _ _), Option.bind_some, if_pos (by omega), if_pos (by omega), if_pos (by omega), b7 (by omega) (by omega), d0a hA hB]
   rfl
  ·intro kn
   unfold w6
   dsimp only
   rw [if_neg (by omega)]
  ·dsimp only
   rw [b7 (by omega) (by omega)]
   rfl
 ·intro kn
  unfold A0
  dsimp only
  rw [if_neg (by omega), b0q hZ]
 ·rfl
end Go.Ax.TryP
set_option linter.unusedVariables false
namespace Go.Ax.TryP
open Go.Proofs
theorem d3t (a : List Int) : a2c 256 (c3Y a) := c2n (c9J a)
theorem c9o {m y : List Int} (hm : a2c (30 * 256) m) (hy : a2c (5 * 256) y) : S7 (m, y, ()) = some (b6S m y) :=
 c7 (ks := D0) (rs := D1) (x := (m, y, ())) ⟨Y3.2 hm, Y3.2 hy, trivial⟩ trivial
end Go.Ax.TryP
set_option linter.unusedVariables false
namespace Go.Ax.TryP
open Go.Proofs
theorem d1L {X Y β : Type} (F : (β : Type) → X → (X → Option β) → (Y → Option β) → Option β) (n : Nat) (x : X) (k : Y → Option β) : E1 F (n + 1) x k = F β x (fun x' => E1 F n x' k) k := rfl
theorem d1K {X Y β : Type} {F : (β : Type) → X → (X → Option β) → (Y → Option β) → Option β} {K : Y → Option β} (s : Nat → X) (c : Nat → Prop) (bad fine : Y) (n : Nat)
  (h1 : ∀ i, i < n → ∀ kn : X → Option β, (c i → F β (s i) kn K = kn (s (i + 1))) ∧ (¬ c i → F β (s i) kn K = K bad)) (h2 : ∀ kn : X → Option β, F β (s n) kn K = K fine) :
  ∀ j i m : Nat, i + j = n → j < m → ((∀ k, i ≤ k → k < n → c k) → E1 F m (s i) K = K fine) ∧ (¬ (∀ k, i ≤ k → k < n → c k) → E1 F m (s i) K = K bad)
 | 0, i, m + 1, hi, _ => by
  have e : i = n := by omega
  subst e
  exact ⟨fun _ => h2 _, fun h => absurd (fun k h1 h2 => by omega) h⟩
 | j + 1, i, m + 1, hi, hm => by
  rw [d1L]
  obtain ⟨g1, g2⟩ := h1 i (by omega) (fun x' => E1 F m x' K)
  obtain ⟨f1, f2⟩ := d1K (F := F) (K := K) s c bad fine n h1 h2 j (i + 1) m (by omega) (by omega)
  refine ⟨fun h => ?_, fun h => ?_⟩
  ·rw [g1 (h i (by omega) (by omega))]
   exact f1 fun k hk1 hk2 => h k (by omega) hk2
  ·by_cases hc : c i
   ·rw [g1 hc]
    refine f2 fun hh => h fun k hk1 hk2 => ?_
    by_cases e : k = i
    ·subst e; exact hc
    ·exact hh k (by omega) hk2
   ·exact g2 hc
end Go.Ax.TryP
set_option linter.unusedVariables false
namespace Go.Ax.TryP
open Go.Proofs
theorem c9b {f : Nat → List Int} {p : Int → Prop} (h : ∀ t, ∀ z ∈ f t, p z) : ∀ t, ∀ z ∈ b3x f t, p z
 | 0, z, hz => by simp [b3x] at hz
 | t + 1, z, hz => by
  rcases List.mem_append.1 hz with hz | hz
  ·exact c9b h t z hz
  ·exact h t z hz
theorem d5a (s : List Int) (t : Nat) : ∀ z ∈ b7F s t, 0 ≤ z ∧ z < 8380417 := by
 intro z hz
 unfold b7F at hz
 split at hz
 ·rename_i h
  rw [List.mem_singleton] at hz
  subst hz
  refine ⟨?_, h⟩
  have h1 := c8R s (3 * t)
  have h2 := c8R s (3 * t + 1)
  have h3 := c8R s (3 * t + 2)
  unfold c2d
  omega
 ·simp at hz
theorem c7M : a2c 256 (List.replicate 256 0) := rows.zero (by omega) 256
theorem d5j (s : List Int) : a2c 256 (d13 s).1 := by
 unfold d13
 split
 ·exact c7M
 ·split
  ·exact c7M
  ·rename_i h
   generalize hA : b3x (b7F s) 1024 = A at h
   refine ⟨?_, fun z hz => ?_⟩
   ·have h' : 256 ≤ A.length := Nat.le_of_not_lt h
    dsimp only
    rw [List.length_take, Nat.min_eq_left h']
   ·have hz1 : z ∈ A.take 256 := hz
    have hz2 : z ∈ A := List.mem_of_mem_take hz1
    rw [← hA] at hz2
    have := c9b (d5a s) 1024 z hz2
    omega
theorem d5i {s : List Int} (h : s.length = 34) : (d13 s).2 = 0 ∨ (d13 s).2 = 130 := by
 unfold d13
 rw [if_neg (by rw [h]; decide)]
 split
 ·exact .inr rfl
 ·exact .inl rfl
theorem c3X (rho : List Int) (r s : Nat) : a2c 256 (c3W rho r s).1 := d5j _
theorem c7Q {b : List Int} (hb : b.length ≤ maxLen ∧ bytes b) : X9 (b, ()) = some (d13 b) := c7 (ks := Q3) (rs := Q4) (x := (b, ())) ⟨a4h.2 hb, trivial⟩ trivial
theorem c18 {a : List Int} {e : Int} (ha : a2c 256 a) (he : 0 ≤ e ∧ e ≤ 1000000) : a4N (a, e, ()) = some (decide (e ≠ 0), e, a) := c6J (ks := a2D) (rs := a2E) (x := (a, e, ())) (Q := fun _ => True) (f := fun x => (decide (x.2.1 ≠ 0), x.2.1, x.1)) ⟨Y3.2 ha, d3D he, trivial⟩ trivial
end Go.Ax.TryP
set_option linter.unusedVariables false
namespace Go.Ax.TryP
open Go.Proofs
theorem d2P {rho : List Int} (hr : rho.length = 32 ∧ bytes rho) {r s : Nat} (h1 : r < 6) (h2 : s < 5) : c1O [rho, [(s : Int), (r : Int)]] := ⟨mB (by simp), fun zs hzs => by
 rcases List.mem_cons.1 hzs with rfl | hzs
 ·exact ⟨mB (by omega), hr.2⟩
 ·rw [List.mem_singleton.1 hzs]
  refine ⟨mB (by simp), fun z hz => ?_⟩
  rcases List.mem_cons.1 hz with rfl | hz
  ·omega
  ·rw [List.mem_singleton.1 hz]; omega⟩
theorem c9q {rho : List Int} (hr : rho.length = 32 ∧ bytes rho) {r s : Nat} (h1 : r < 6) (h2 : s < 5) : q9 ([rho, [(s : Int), (r : Int)]], ()) = some (rho ++ [(s : Int), (r : Int)]) := by
 have h := b5A (l := [rho, [(s : Int), (r : Int)]]) ⟨by simp, by simp [hr.1]⟩ (d2P hr h1 h2)
 rw [h]
 simp
theorem c5j {rho : List Int} (hr : rho.length = 32 ∧ bytes rho) {r s : Nat} (h1 : r < 6) (h2 : s < 5) : X9 (rho ++ [(s : Int), (r : Int)], ()) = some (c3W rho r s) :=
 c7Q ⟨mB (by rw [List.length_append, hr.1]; simp), b8V hr.2 ((d2P hr h1 h2).2 _ (by simp)).2⟩
theorem d4L {rho : List Int} (hr : rho.length = 32) (r s : Nat) : (c3W rho r s).2 = 0 ∨ (c3W rho r s).2 = 130 := d5i (by rw [List.length_append, hr]; rfl)
end Go.Ax.TryP
set_option linter.unusedVariables false
namespace Go.Ax.TryP
open Go.Proofs
def c9L (rho : List Int) (k : Nat) : List Int := (c3W rho (k / 5) (k % 5)).1
theorem d3s {rho : List Int} {r s : Nat} (hs : s < 5) : c9L rho (r * 5 + s) = (c3W rho r s).1 := by
 unfold c9L
 rw [show (r * 5 + s) / 5 = r by omega, show (r * 5 + s) % 5 = s by omega]
theorem c7h (rho : List Int) : d01 rho = a4O (c9L rho) 30 := by
 simp only [d01, d58, d6k, a4O, List.nil_append, List.append_assoc]
 rfl
theorem d1B (rho : List Int) (k : Nat) : (c9L rho k).length = 256 := (c3X _ _ _).1
theorem d45 (rho : List Int) : a2c (30 * 256) (d01 rho) := by rw [c7h]; exact c21 (fun k => c3X _ _ _) 30
theorem d3V {rho : List Int} {r s : Nat} (h : (c3W rho r s).2 = 0) : xg (a4N ((c3W rho r s).1, (c3W rho r s).2, ())) = some (c3W rho r s).1 := by
 rw [h, c18 (c3X rho r s) (by omega)]
 rfl
theorem d4N {rho Z : List Int} (hr : rho.length = 32 ∧ bytes rho) (hZ : Z.length = 30 * 256) {r : Nat} (h6 : r < 6) {β : Type} (K : (Int × Unit) ⊕ (Nat × Int × Nat × List Int × List Int × Unit) → Option β) :
  ((∀ s, s < 5 → (c3W rho r s).2 = 0) → E1 (z8 10) 10 (32, (r : Int), (r : Int), (0 : Int), 32, rho, a4G (c9L rho) Z (r * 5), ()) K = K (.inr (32, (r : Int), 32, rho, a4G (c9L rho) Z ((r + 1) * 5), ()))) ∧
  (¬ (∀ s, s < 5 → (c3W rho r s).2 = 0) → E1 (z8 10) 10 (32, (r : Int), (r : Int), (0 : Int), 32, rho, a4G (c9L rho) Z (r * 5), ()) K = K (.inl (130, ()))) := by
 have h := d1K (F := z8 10) (K := K) (fun i => (32, (r : Int), (r : Int), (i : Int), 32, rho, a4G (c9L rho) Z (r * 5 + i), ())) (fun s => (c3W rho r s).2 = 0) (.inl (130, ())) (.inr (32, (r : Int), 32, rho, a4G (c9L rho) Z ((r + 1) * 5), ())) 5
  (fun s hs kn => by
   have e1 : List.set (List.set (List.replicate 2 (0 : Int)) 0 (IntKind.u8.wrap (s : Int))) 1 (IntKind.u8.wrap (r : Int)) = [(s : Int), (r : Int)] := by rw [c3p (by omega) (by omega), c3p (by omega) (by omega)]; rfl
   have hk : r * 5 + s < 30 := by omega
   constructor
   ·intro hc
    unfold z8
    dsimp only
    rw [if_pos (by omega), e1, c9q hr h6 hs, Option.bind_some, c5j hr h6 hs, Option.bind_some, if_pos (by omega), if_pos (by omega)]
    rw [c18 (c3X rho r s) (by omega), Option.bind_some, hc]
    rw [if_neg (by simp), Option.bind_some, c5j hr h6 hs, Option.bind_some, d3V hc]
    rw [Option.bind_some, if_pos (by omega), if_pos (by omega), if_pos (by omega), if_pos (by omega), Int.toNat_natCast, Int.toNat_natCast, show r * 1280 + s * 256 = (r * 5 + s) * 256 by omega, if_pos (by omega), b7 (by omega) (by omega), ← d3s hs, b45 (f := c9L rho) hZ (fun j _ => d1B rho j) hk]
    rfl
   ·intro hc
    have he : (c3W rho r s).2 = 130 := (d4L hr.1 r s).resolve_left hc
    unfold z8
    dsimp only
    rw [if_pos (by omega), e1, c9q hr h6 hs, Option.bind_some, c5j hr h6 hs, Option.bind_some, if_pos (by omega), if_pos (by omega), c18 (c3X rho r s) (by omega), Option.bind_some, he]
    rfl)
  (fun kn => by
   unfold z8
   dsimp only
   rw [if_neg (by omega), show r * 5 + 5 = (r + 1) * 5 by omega]) 5 0 10 (by omega) (by omega)
 exact ⟨fun hh => h.1 fun k _ hk => hh k hk, fun hh => h.2 fun hh' => hh fun s hs => hh' s (Nat.zero_le _) hs⟩
end Go.Ax.TryP
set_option linter.unusedVariables false
namespace Go.Ax.TryP
open Go.Proofs
theorem d2E {rho Z : List Int} (hr : rho.length = 32 ∧ bytes rho) (hZ : Z.length = 30 * 256) {β : Type} (K : (Int × Unit) ⊕ (List Int × Unit) → Option β) :
  (b7c rho → E1 (z7 10) 10 (32, (0 : Int), 32, rho, Z, ()) K = K (.inr (d01 rho, ()))) ∧
  (¬ b7c rho → E1 (z7 10) 10 (32, (0 : Int), 32, rho, Z, ()) K = K (.inl (130, ()))) := by
 have h := d1K (F := z7 10) (K := K) (fun r => (32, (r : Int), 32, rho, a4G (c9L rho) Z (r * 5), ())) (fun r => ∀ s, s < 5 → (c3W rho r s).2 = 0) (.inl (130, ())) (.inr (d01 rho, ())) 6
  (fun r hr6 kn => by
   constructor
   ·intro hc
    unfold z7
    dsimp only
    rw [if_pos (by omega)]
    refine ((d4N hr hZ hr6 _).1 hc).trans ?_
    dsimp only
    rw [b7 (by omega) (by omega)]
    rfl
   ·intro hc
    unfold z7
    dsimp only
    rw [if_pos (by omega)]
    exact (d4N hr hZ hr6 _).2 hc)
  (fun kn => by
   unfold z7
   dsimp only
   rw [if_neg (by omega), c7h, show 6 * 5 = 30 from rfl, b0q hZ]) 6 0 10 (by omega) (by omega)
 rw [Nat.zero_mul, a7O] at h
 exact ⟨fun hh => h.1 fun r _ hr6 => hh r hr6, fun hh => h.2 fun hh' => hh fun r hr6 => hh' r (Nat.zero_le _) hr6⟩
theorem c3I {rho : List Int} (h : b7c rho) : b2h rho = false := by unfold b2h; exact @decide_eq_false _ (Classical.propDecidable _) (fun hh => hh h)
theorem c1u {rho : List Int} (h : ¬ b7c rho) : b2h rho = true := by unfold b2h; exact @decide_eq_true _ (Classical.propDecidable _) h
theorem c4E : ∀ x r, a3M x = some r → ∃ N, a6k N x = some (xr r) := by
 refine c6K (ks := a0s) (rs := a0t) fun x hw hq => ⟨10, ?_⟩
 obtain ⟨(rho : List Int), u⟩ := x
 have hl : rho.length = 32 := hq
 have hb : rho.length ≤ maxLen ∧ bytes rho := a4h.1 hw.1
 have hZ : (List.replicate 7680 (0 : Int)).length = 30 * 256 := by rw [List.length_replicate]
 unfold a6k
 dsimp only
 rw [hl]
 generalize List.replicate 7680 (0 : Int) = Z at hZ
 by_cases hc : b7c rho
 ·refine ((d2E ⟨hl, hb.2⟩ hZ _).1 hc).trans ?_
  rw [c3I hc]
  rfl
 ·refine ((d2E ⟨hl, hb.2⟩ hZ _).2 hc).trans ?_
  rw [c1u hc]
  rfl
theorem c9l {rho : List Int} (hr : rho.length = 32 ∧ bytes rho) : a3M (rho, ()) = some (b2h rho, 130, (d01 rho, ())) :=
 c6J (ks := a0s) (rs := a0t) (x := (rho, ())) (Q := fun x => x.1.length = 32) (f := fun x => (b2h x.1, 130, (d01 x.1, ()))) ⟨a4h.2 ⟨mB (by rw [hr.1]; omega), hr.2⟩, trivial⟩ hr.1
end Go.Ax.TryP
