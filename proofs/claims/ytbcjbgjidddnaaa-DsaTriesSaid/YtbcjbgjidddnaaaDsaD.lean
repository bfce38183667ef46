/- A part of the proof: DfS, DfP, DfQ0, DfQ1, DfQ2, DfQ3, DfQ4, DfQ5, DfQ6, DfQ7, DfQ8, DfQ9, DfQ10, DfQ11, DfQ12, DfQ13. -/
import Derived.Test.YtbcjbgjidddnaaaDsaC
set_option linter.unusedVariables false
namespace Go.Ax.TryP
open Go.Proofs
noncomputable def c3K {ks rs : List Kd} (Q : Ds ks → Prop) (f : Ds ks → Bool × Int × Rs rs) : Ds ks → Option (Bool × Int × Rs rs) := fun x => @ite _ (a3G ks x ∧ Q x) (Classical.propDecidable _) (some (f x)) none
theorem b5l {ks rs : List Kd} {Q : Ds ks → Prop} {f : Ds ks → Bool × Int × Rs rs} {p : Nat → Ds ks → Option (Int ⊕ Rs rs)} (h : ∀ x, a3G ks x → Q x → ∃ N, p N x = some (xr (f x))) : ∀ x r, c3K Q f x = some r → ∃ N, p N x = some (xr r) := by
 intro x r hx
 unfold c3K at hx
 split at hx
 ·rename_i hq; cases hx; exact h x hq.1 hq.2
 ·cases hx
theorem b5k {ks rs : List Kd} {Q : Ds ks → Prop} {f : Ds ks → Bool × Int × Rs rs} {x : Ds ks} (h : a3G ks x) (hq : Q x) : c3K Q f x = some (f x) := by
 unfold c3K
 rw [if_pos ⟨h, hq⟩]
noncomputable def m6 : List (List Int) × Unit → Option (List Int) := a0n (ks := [.sls (.int .u8)]) (rs := [.sl (.int .u8)]) (fun x => x.1.length ≤ 1000 ∧ x.1.flatten.length ≤ 1000000) fun x => x.1.flatten
noncomputable def a66 : List Int × List Int × Unit → Option Bool := a0n (ks := [.sl (.int .u8), .sl (.int .u8)]) (rs := [.bool]) (fun _ => True) fun x => decide (x.1 = x.2.1)
def inW (w : Nat) (l : List Int) : Prop := ∀ i, i < 256 → 0 ≤ l.getD i 0 ∧ l.getD i 0 < 2 ^ w
def pkE (w : Nat) (l : List Int) (t : Nat) : Int := c7i (l.getD (t / w) 0) (t % w)
def pkW (w : Nat) (l : List Int) : List Int := a5r (pkE w l) (32 * w)
def a33 (top : Int) (a : List Int) : List Int := p9 fun i => top - (b39 a).getD i 0
noncomputable def a4O : Int × List Int × Unit → Option (List Int × Int) := a0n (ks := [.int .i64, .xs (.int .i64) 256]) (rs := [.sl (.int .u8), .int .i64]) (fun x => (1 ≤ x.1 ∧ x.1 ≤ 23) ∧ inW x.1.toNat x.2.1) fun x => (pkW x.1.toNat x.2.1, 0)
noncomputable def a2G : Int × List Int × Unit → Option (List Int × Int) := a0n (ks := [.int .i64, .xs (.int .i32) 256]) (rs := [.sl (.int .u8), .int .i64]) (fun x => (1 ≤ x.1 ∧ x.1 ≤ 23) ∧ inW x.1.toNat (B8 x.2.1)) fun x => (pkW x.1.toNat (B8 x.2.1), 0)
noncomputable def n9 : Int × Int × List Int × Unit → Option (List Int × Int) := a0n (ks := [.int .i32, .int .i64, .xs (.int .i32) 256]) (rs := [.sl (.int .u8), .int .i64]) (fun x => (1 ≤ x.2.1 ∧ x.2.1 ≤ 23) ∧ (0 ≤ x.1 ∧ x.1 ≤ 1000000) ∧ inW x.2.1.toNat (a33 x.1 x.2.2.1)) fun x => (pkW x.2.1.toNat (a33 x.1 x.2.2.1), 0)
def a3S (l : List Int) (n : Nat) : List Int := a0f 136 31 l n
def c9R (n : Int) : List Int := [n % 256, n / 256 % 256]
def chD (r : List Int) (i : Nat) : List Int := (r.drop (i * 256)).take 256
def c57 (tr msg ctx : List Int) : List Int := a3S (tr ++ [0, (ctx.length : Int) % 256] ++ ctx ++ msg) 64
def c3T (mu high : List Int) : List Int := mu ++ ((List.range 6).map fun r => pkW 4 (B8 (chD high r))).flatten
def c2q (mu high : List Int) : List Int := a3S (c3T mu high) 48
noncomputable def J2 : Int × List (List Int) × Unit → Option (List Int) := a0n (ks := [.int .i64, .sls (.int .u8)]) (rs := [.sl (.int .u8)]) (fun x => 0 ≤ x.1 ∧ x.1 ≤ 1000) fun x => a3S x.2.1.flatten x.1.toNat
noncomputable def a8t : Int × Unit → Option (List Int) := a0n (ks := [.int .i64]) (rs := [.sl (.int .u8)]) (fun x => 0 ≤ x.1 ∧ x.1 ≤ 65535) fun x => c9R x.1
noncomputable def a2t : List Int × List Int × List Int × Unit → Option (List Int) := a0n (ks := [.sl (.int .u8), .sl (.int .u8), .sl (.int .u8)]) (rs := [.sl (.int .u8)]) (fun _ => True) fun x => c57 x.1 x.2.1 x.2.2.1
noncomputable def a0z : List Int × List Int × Unit → Option (List Int) := a0n (ks := [.sl (.int .u8), .xs (.int .i32) 1536]) (rs := [.sl (.int .u8)]) (fun x => x.1.length ≤ 1000 ∧ ∀ r, r < 6 → inW 4 (B8 (chD x.2.1 r))) fun x => c2q x.1 x.2.1
def c47 (rho : List Int) (r s : Nat) : List Int × Int := d2R (rho ++ [(s : Int), (r : Int)])
def a3L (rho : List Int) : Prop := ∀ r, r < 6 → ∀ s, s < 5 → (c47 rho r s).2 = 0
noncomputable def b1f (rho : List Int) : Bool := @decide (¬ a3L rho) (Classical.propDecidable _)
def d9L (f : Nat → List Int) : List Int := f 0 ++ f 1 ++ f 2 ++ f 3 ++ f 4
def d8Y (f : Nat → List Int) : List Int := f 0 ++ f 1 ++ f 2 ++ f 3 ++ f 4 ++ f 5
def c1b (rho : List Int) : List Int := d8Y fun r => d9L fun s => (c47 rho r s).1
def b7b (m y : List Int) (r : Nat) : Nat → List Int
 | 0 => List.replicate 256 0
 | s + 1 => b0B (b7b m y r s) (a6d (chD m (r * 5 + s)) (a05 (chD y s)))
def a93 (m y : List Int) : List Int := d8Y fun r => b7b m y r 5
def b0x (m y : List Int) : List Int := d8Y fun r => b4a (b7b m y r 5)
noncomputable def a5V : List Int × Int × Unit → Option (Bool × Int × List Int) := c3K (ks := [.xs (.int .i32) 256, .int .i64]) (rs := [.xs (.int .i32) 256]) (fun _ => True) fun x => (decide (x.2.1 ≠ 0), x.2.1, x.1)
noncomputable def N6 : List Int × Unit → Option (Bool × Int × (List Int × Unit)) := c3K (ks := [.sl (.int .u8)]) (rs := [.op [.xs (.int .i32) 7680]]) (fun x => x.1.length = 32) fun x => (b1f x.1, 130, (c1b x.1, ()))
noncomputable def J9 : List Int × List Int × Unit → Option (List Int) := a0n (ks := [.rp (.xs (.int .i32) 7680), .xs (.int .i32) 1280]) (rs := [.xs (.int .i32) 1536]) (fun _ => True) fun x => a93 x.1 x.2.1
noncomputable def N7 : List Int × List Int × Unit → Option (List Int) := a0n (ks := [.rp (.xs (.int .i32) 7680), .xs (.int .i32) 1280]) (rs := [.xs (.int .i32) 1536]) (fun _ => True) fun x => b0x x.1 x.2.1
end Go.Ax.TryP
set_option linter.unusedVariables false
namespace Go.Ax.TryP
open Go.Proofs
noncomputable def p_octet_Join_E : AE := AE.of [(5, ty5), (23, ty23), (35, ty35)] []
noncomputable def a76 : Hints := [(3, [0, 3, 9, 10, 11]), (9, [6, 22, 23, 24]), (2000000, [0, 3]), (2000001, [0, 3, 9, 10, 11]), (2000002, [6]), (2000003, [6, 22, 23, 24]), (3000000, [2])]
noncomputable def a1W : Code := (Try.f16).body.getD .skip
noncomputable def b8k : Shape := mkS { tmps := .sc (.frs b8) :: V :: V :: .sc (.int .i64) :: pv 5 (.sc (.frs b8) :: .sc (.int .i64) :: .sc (.int .i64) :: pv 21 []), mem := [] } [.xss, .int, .xss, .int, .int]
abbrev W37 : Type := List (List Int) × Int × List (List Int) × Int × Int × Unit
abbrev W38 : Type := List (List Int) × Int × Unit
noncomputable def S9 (N : Nat) (β : Type) (x : W37) (kn : W37 → Option β) (ke : W38 → Option β) : Option β :=
 if (x.2.2.2.2.1 < x.2.2.2.1) then
  if 0 ≤ x.2.2.2.2.1 then (
  if x.2.2.2.2.1 < ((List.length x.2.2.1 : Nat) : Int) then (
  kn (x.1, (IntKind.i64.wrap (x.2.1 + ((List.length (List.getD x.2.2.1 (x.2.2.2.2.1.toNat) []) : Nat) : Int))), x.2.2.1, x.2.2.2.1, (IntKind.i64.wrap (x.2.2.2.2.1 + (1:Int))), ())) else none) else none
 else
  ke (x.1, x.2.1, ())
noncomputable def b6F : Go' W38 := fun y K => K (.exit 0) (fSt { tmps := .sc (.frs b8) :: V :: V :: .sc (.int .i64) :: pv 29 [], mem := [] } [.xss, .int] y)
noncomputable def a8Y (N : Nat) : LT := upd (LT.nil) 3 (o6 b8k N (S9 N) b6F)
theorem b6G (N : Nat) : OkAll p_octet_Join_E a76 N (a8Y N) (w9 a1W) :=
 d6 (c := d7 3 a1W) (OkAll.nil) (by kernel_rfl) (fun x => by kernel_rfl) (fun β x kn ke => by kernel_rfl)
noncomputable def b8l : Shape := mkS { tmps := pv 6 (.sc (.vec 0 none 1) :: pv 15 (.sc (.frs b8) :: .sc (.int .i64) :: .sc (.int .i64) :: pv 8 [])), mem := [.live [.xs b8 none] (.own)] } [.nat, .xss, .int, .int, .nat, .xs]
abbrev W39 : Type := Nat × List (List Int) × Int × Int × Nat × List Int × Unit
abbrev W40 : Type := Nat × Nat × List Int × Unit
noncomputable def T0 (N : Nat) (β : Type) (x : W39) (kn : W39 → Option β) (ke : W40 → Option β) : Option β :=
 if (x.2.2.2.1 < x.2.2.1) then
  if 0 ≤ x.2.2.2.1 then (
  if x.2.2.2.1 < ((List.length x.2.1 : Nat) : Int) then (
  if (x.1 + (List.length (List.getD x.2.1 (x.2.2.2.1.toNat) []))) * 1 ≤ 140737488355328 then (
  kn ((x.1 + (List.length (List.getD x.2.1 (x.2.2.2.1.toNat) []))), x.2.1, x.2.2.1, (IntKind.i64.wrap (x.2.2.2.1 + (1:Int))), (x.2.2.2.2.1 + (List.length (List.getD x.2.1 (x.2.2.2.1.toNat) []))), (x.2.2.2.2.2.1 ++ (List.getD x.2.1 (x.2.2.2.1.toNat) [])), ())) else none) else none) else none
 else
  ke (x.1, x.2.2.2.2.1, x.2.2.2.2.2.1, ())
noncomputable def b6H : Go' W40 := fun y K => K (.exit 2) (fSt { tmps := pv 6 (.sc (.vec 0 none 1) :: pv 26 []), mem := [.live [.xs b8 none] (.own)] } [.nat, .nat, .xs] y)
noncomputable def a8Z (N : Nat) : LT := upd (a8Y N) 9 (o6 b8l N (T0 N) b6H)
theorem b6I (N : Nat) : OkAll p_octet_Join_E a76 N (a8Z N) (w9 a1W) :=
 d6 (c := d7 9 a1W) (b6G N) (by kernel_rfl) (fun x => by kernel_rfl) (fun β x kn ke => by kernel_rfl)
abbrev a0W : List Kd := [.sls b8]
abbrev a0X : List Kd := [.sl b8]
noncomputable def a7t (N : Nat) (x : List (List Int) × Unit) : Option (List Int) :=
 m7 (S9 N) N (x.1, (0:Int), x.1, ((List.length x.1 : Nat) : Int), (0:Int), ()) fun y1 => (
 if 0 ≤ (0:Int) then (
 if (0:Int) ≤ y1.2.1 then (
 if y1.2.1 * 1 ≤ 281474976710656 then (
 m7 (T0 N) N (0, y1.1, ((List.length y1.1 : Nat) : Int), (0:Int), 0, (List.replicate 0 0), ()) fun y2 => (
 some y2.2.2.1)) else none) else none) else none)
theorem b9R : p_octet_Join_E.Ok Try.prog := AE.of_ok (all_cons T9 (all_cons E0 (all_cons a2D c6))) c6
theorem c1N (hE : p_octet_Join_E.Ok Try.prog) {g : Ds a0W → Option (Rs a0X)} (hg : ∀ x r, g x = some r → ∃ N, a7t N x = some r) : c8 Try.prog 16 ⟨a0W, a0X, g⟩ :=
 i5 (E := p_octet_Join_E) (H := a76) (L := fun N => a8Z N) (c := a1W) (ks := a0W) (rs := a0X) (F := a7t) hE mix Try.func16 (by kernel_rfl) (fun N => b6I N) (fun _ _ => by kernel_rfl) hg
noncomputable def p_octet_Same_E : AE := AE.of [(5, ty5), (23, ty23)] []
noncomputable def b3N : Hints := [(5, [0, 1, 5, 13, 14]), (2000000, [5]), (2000001, [0, 1, 5, 13, 14]), (3000000, [4])]
noncomputable def a77 : Code := (Try.f40).body.getD .skip
noncomputable def b8m : Shape := mkS { tmps := .sc (.vec 0 none 1) :: .sc (.vec 1 none 1) :: pv 3 (.sc (.int .u8) :: pv 7 (.sc (.int .i64) :: .sc (.int .i64) :: pv 16 [])), mem := [.live [.xs b8 none] (.ro), .live [.xs b8 none] (.ro)] } [.nat, .nat, .int, .int, .int, .nat, .xs, .nat, .xs]
abbrev W41 : Type := Nat × Nat × Int × Int × Int × Nat × List Int × Nat × List Int × Unit
noncomputable def T1 (N : Nat) (β : Type) (x : W41) (kn : W41 → Option β) (ke : ((Int × Unit)) → Option β) : Option β :=
 if (x.2.2.2.2.1 < x.2.2.2.1) then
  if 0 ≤ x.2.2.2.2.1 then (
  if x.2.2.2.2.1 < ((x.1 : Nat) : Int) then (
  if (x.2.2.2.2.1.toNat) < x.2.2.2.2.2.1 then (
  if 0 ≤ x.2.2.2.2.1 then (
  if x.2.2.2.2.1 < ((x.2.1 : Nat) : Int) then (
  if (x.2.2.2.2.1.toNat) < x.2.2.2.2.2.2.2.1 then (
  kn (x.1, x.2.1, (ior IntKind.u8 x.2.2.1 (c06 IntKind.u8 (List.getD x.2.2.2.2.2.2.1 (x.2.2.2.2.1.toNat) 0) (List.getD x.2.2.2.2.2.2.2.2.1 (x.2.2.2.2.1.toNat) 0))), x.2.2.2.1, (IntKind.i64.wrap (x.2.2.2.2.1 + (1:Int))), x.2.2.2.2.2.1, x.2.2.2.2.2.2.1, x.2.2.2.2.2.2.2.1, x.2.2.2.2.2.2.2.2.1, ())) else none) else none) else none) else none) else none) else none
 else
  ke (x.2.2.1, ())
noncomputable def b6J : Go' ((Int × Unit)) := fun y K => K (.exit 0) (fSt { tmps := pv 5 (.sc (.int .u8) :: pv 25 []), mem := [] } [.int] y)
noncomputable def a80 (N : Nat) : LT := upd (LT.nil) 5 (o6 b8m N (T1 N) b6J)
theorem b6K (N : Nat) : OkAll p_octet_Same_E b3N N (a80 N) (w9 a77) :=
 d6 (c := d7 5 a77) (OkAll.nil) (by kernel_rfl) (fun x => by kernel_rfl) (fun β x kn ke => by kernel_rfl)
abbrev a0Y : List Kd := [.sl b8, .sl b8]
abbrev a6G : List Kd := [.bool]
noncomputable def a7u (N : Nat) (x : List Int × List Int × Unit) : Option (Bool) :=
 if ((((List.length x.1) : Nat) : Int) ≠ (((List.length x.2.1) : Nat) : Int)) then
  some false
 else
  m7 (T1 N) N ((List.length x.1), (List.length x.2.1), (0:Int), (((List.length x.1) : Nat) : Int), (0:Int), (List.length x.1), x.1, (List.length x.2.1), x.2.1, ()) fun y1 => (
  some (decide (y1.1 = (0:Int))))
theorem b9S : p_octet_Same_E.Ok Try.prog := AE.of_ok (all_cons T9 (all_cons E0 c6)) c6
theorem c1O (hE : p_octet_Same_E.Ok Try.prog) {g : Ds a0Y → Option (Rs [.bool])} (hg : ∀ x r, g x = some r → ∃ N, a7u N x = some r) : c8 Try.prog 40 ⟨a0Y, [.bool], g⟩ :=
 i5 (E := p_octet_Same_E) (H := b3N) (L := fun N => a80 N) (c := a77) (ks := a0Y) (rs := a6G) (F := a7u) hE mix Try.func40 (by kernel_rfl) (fun N => b6K N) (fun _ _ => by kernel_rfl) hg
noncomputable def p_dring_pack_E : AE := AE.of [(2, ty2), (5, ty5), (23, ty23), (91, ty91)] []
noncomputable def a7W : Hints := [(5, [0, 6, 20, 21]), (10, [0, 6, 7, 8, 20, 21, 33, 34]), (2000000, [6]), (2000001, [0, 6, 20, 21]), (2000002, [0, 6, 20, 21]), (2000003, [0, 6, 7, 8, 20, 21, 33, 34]), (3000000, [4, 5])]
noncomputable def a1O : Code := (Try.f49).body.getD .skip
noncomputable def b6e : Shape := mkS { tmps := .sc (.int .i64) :: pv 5 (.sc (.vec 0 none 1) :: .sc (.int .i64) :: .sc (.int .i64) :: pv 11 (.agg [.xs b64 (some 256)] :: .sc (.int .i64) :: pv 11 (.sc (.int .i64) :: .sc (.int .i64) :: pv 25 []))), mem := [.live [.xs b8 none] (.own)] } [.int, .nat, .int, .int, .xs, .int, .int, .int, .nat, .xs]
abbrev W42 : Type := Int × Nat × Int × Int × List Int × Int × Int × Int × Nat × List Int × Unit
abbrev W43 : Type := Int × Nat × List Int × Int × Nat × List Int × Unit
noncomputable def O7 (N : Nat) (β : Type) (x : W42) (kn : W42 → Option β) (ke : W43 → Option β) : Option β :=
 if (x.2.2.2.2.2.2.2.1 < x.2.2.2.2.2.2.1) then
  if 0 ≤ (IntKind.i64.wrap (Int.tdiv (IntKind.i64.wrap ((IntKind.i64.wrap (x.2.2.1 * x.1)) + x.2.2.2.2.2.2.2.1)) (8:Int))) then (
  if (IntKind.i64.wrap (Int.tdiv (IntKind.i64.wrap ((IntKind.i64.wrap (x.2.2.1 * x.1)) + x.2.2.2.2.2.2.2.1)) (8:Int))) < ((x.2.1 : Nat) : Int) then (
  if ((IntKind.i64.wrap (Int.tdiv (IntKind.i64.wrap ((IntKind.i64.wrap (x.2.2.1 * x.1)) + x.2.2.2.2.2.2.2.1)) (8:Int))).toNat) < x.2.2.2.2.2.2.2.2.1 then (
  if x.2.2.2.2.2.2.2.1 < 0 then none else (
  if (Int.tmod (IntKind.i64.wrap ((IntKind.i64.wrap (x.2.2.1 * x.1)) + x.2.2.2.2.2.2.2.1)) (8:Int)) < 0 then none else (
  if 0 ≤ (IntKind.i64.wrap (Int.tdiv (IntKind.i64.wrap ((IntKind.i64.wrap (x.2.2.1 * x.1)) + x.2.2.2.2.2.2.2.1)) (8:Int))) then (
  if (IntKind.i64.wrap (Int.tdiv (IntKind.i64.wrap ((IntKind.i64.wrap (x.2.2.1 * x.1)) + x.2.2.2.2.2.2.2.1)) (8:Int))) < ((x.2.1 : Nat) : Int) then (
  if ((IntKind.i64.wrap (Int.tdiv (IntKind.i64.wrap ((IntKind.i64.wrap (x.2.2.1 * x.1)) + x.2.2.2.2.2.2.2.1)) (8:Int))).toNat) < x.2.2.2.2.2.2.2.2.1 then (
  kn (x.1, x.2.1, x.2.2.1, x.2.2.2.1, x.2.2.2.2.1, x.2.2.2.2.2.1, x.2.2.2.2.2.2.1, (IntKind.i64.wrap (x.2.2.2.2.2.2.2.1 + (1:Int))), x.2.2.2.2.2.2.2.2.1, (List.set x.2.2.2.2.2.2.2.2.2.1 ((IntKind.i64.wrap (Int.tdiv (IntKind.i64.wrap ((IntKind.i64.wrap (x.2.2.1 * x.1)) + x.2.2.2.2.2.2.2.1)) (8:Int))).toNat) (ior IntKind.u8 (List.getD x.2.2.2.2.2.2.2.2.2.1 ((IntKind.i64.wrap (Int.tdiv (IntKind.i64.wrap ((IntKind.i64.wrap (x.2.2.1 * x.1)) + x.2.2.2.2.2.2.2.1)) (8:Int))).toNat) 0) (b0E IntKind.u8 (IntKind.u8.wrap (b8M IntKind.i64 (b9g IntKind.i64 x.2.2.2.1 x.2.2.2.2.2.2.2.1) (1:Int))) (Int.tmod (IntKind.i64.wrap ((IntKind.i64.wrap (x.2.2.1 * x.1)) + x.2.2.2.2.2.2.2.1)) (8:Int))))), ())) else none) else none) else none))) else none) else none) else none
 else
  ke (x.1, x.2.1, x.2.2.2.2.1, x.2.2.2.2.2.1, x.2.2.2.2.2.2.2.2.1, x.2.2.2.2.2.2.2.2.2.1, ())
noncomputable def b4v : Go' W43 := fun y K => K (.exit 2) (fSt { tmps := .sc (.int .i64) :: pv 5 (.sc (.vec 0 none 1) :: pv 13 (.agg [.xs b64 (some 256)] :: .sc (.int .i64) :: pv 38 [])), mem := [.live [.xs b8 none] (.own)] } [.int, .nat, .xs, .int, .nat, .xs] y)
noncomputable def a7h (N : Nat) : LT := upd (LT.nil) 10 (o6 b6e N (O7 N) b4v)
theorem b4w (N : Nat) : OkAll p_dring_pack_E a7W N (a7h N) (w9 a1O) :=
 d6 (c := d7 10 a1O) (OkAll.nil) (by kernel_rfl) (fun x => by kernel_rfl) (fun β x kn ke => by kernel_rfl)
noncomputable def b73 : Shape := mkS { tmps := .sc (.int .i64) :: pv 5 (.sc (.vec 0 none 1) :: pv 13 (.agg [.xs b64 (some 256)] :: .sc (.int .i64) :: pv 38 [])), mem := [.live [.xs b8 none] (.own)] } [.int, .nat, .xs, .int, .nat, .xs]
noncomputable def S3 (N : Nat) (β : Type) (x : W43) (kn : W43 → Option β) (ke : W31 → Option β) : Option β :=
 if (x.2.2.2.1 < (256:Int)) then
  if 0 ≤ x.2.2.2.1 then (
  if x.2.2.2.1 < 256 then (
  if (x.2.2.2.1.toNat) < 256 then (
  if ((List.getD x.2.2.1 (x.2.2.2.1.toNat) 0) < (0:Int)) then
   ke (.inl ((1:Int), ()))
  else
   if x.1 < 0 then none else (
   if ((List.getD x.2.2.1 (x.2.2.2.1.toNat) 0) ≥ (b0E IntKind.i64 (1:Int) x.1)) then
    ke (.inl ((1:Int), ()))
   else
    m7 (O7 N) N (x.1, x.2.1, x.2.2.2.1, (List.getD x.2.2.1 (x.2.2.2.1.toNat) 0), x.2.2.1, x.2.2.2.1, x.1, (0:Int), x.2.2.2.2.1, x.2.2.2.2.2.1, ()) fun y1 => (
    kn (y1.1, y1.2.1, y1.2.2.1, (IntKind.i64.wrap (y1.2.2.2.1 + (1:Int))), y1.2.2.2.2.1, y1.2.2.2.2.2.1, ())))) else none) else none) else none
 else
  ke (.inr (x.2.1, x.2.2.2.2.1, x.2.2.2.2.2.1, ()))
noncomputable def b6f : Go' W31 := fun y K => match y with
 | .inl y => K .ret (fSt { tmps := pv 4 (.sc (.nilsl) :: .sc (.int .i64) :: pv 54 []), mem := [] } [.int] y)
 | .inr y => K (.exit 0) (fSt { tmps := pv 6 (.sc (.vec 0 none 1) :: pv 53 []), mem := [.live [.xs b8 none] (.own)] } [.nat, .nat, .xs] y)
noncomputable def a8L (N : Nat) : LT := upd (a7h N) 5 (o6 b73 N (S3 N) b6f)
theorem b6g (N : Nat) : OkAll p_dring_pack_E a7W N (a8L N) (w9 a1O) :=
 d6 (c := d7 5 a1O) (b4w N) (by kernel_rfl) (fun x => by kernel_rfl) (fun β x kn ke => by kernel_rfl)
abbrev a0M : List Kd := [.int .i64, .xs b64 256]
abbrev a0N : List Kd := [.sl b8, .int .i64]
noncomputable def a4V (N : Nat) (x : Int × List Int × Unit) : Option (List Int × Int) :=
 if (x.1 < (1:Int)) then
  some ([], (1:Int))
 else
  if (x.1 > (23:Int)) then
   some ([], (1:Int))
  else
   if 0 ≤ (IntKind.i64.wrap ((32:Int) * x.1)) then (
   if (IntKind.i64.wrap ((32:Int) * x.1)) = (IntKind.i64.wrap ((32:Int) * x.1)) then (
   if (IntKind.i64.wrap ((32:Int) * x.1)) * 1 ≤ 281474976710656 then (
   m7 (S3 N) N (x.1, ((IntKind.i64.wrap ((32:Int) * x.1)).toNat), x.2.1, (0:Int), ((IntKind.i64.wrap ((32:Int) * x.1)).toNat), (List.replicate ((IntKind.i64.wrap ((32:Int) * x.1)).toNat) 0), ()) fun y => (match y with
   | .inl y2 => (
    some ([], y2.1))
   | .inr y3 => (
    some (y3.2.2.1, (0:Int))))) else none) else none) else none
theorem b9B : p_dring_pack_E.Ok Try.prog := AE.of_ok (all_cons a88 (all_cons T9 (all_cons E0 (all_cons c8w c6)))) c6
theorem c1z (hE : p_dring_pack_E.Ok Try.prog) {g : Ds a0M → Option (Rs a0N)} (hg : ∀ x r, g x = some r → ∃ N, a4V N x = some r) : c8 Try.prog 49 ⟨a0M, a0N, g⟩ :=
 i5 (E := p_dring_pack_E) (H := a7W) (L := fun N => a8L N) (c := a1O) (ks := a0M) (rs := a0N) (F := a4V) hE mix Try.func49 (by kernel_rfl) (fun N => b6g N) (fun _ _ => by kernel_rfl) hg
noncomputable abbrev a4F : Sig := ⟨[.int .i64, .xs b64 256], [.sl b8, .int .i64], a4O⟩
noncomputable def p_dring_Pack_E : AE := AE.of [(2, ty2), (21, ty21), (40, ty40), (91, ty91)] [(47, E1), (49, a4F)]
noncomputable def b3M : Hints := [(3, [0, 6, 10, 11]), (2000000, [0, 6]), (2000001, [0, 6, 10, 11]), (3000000, [4, 5])]
noncomputable def a7N : Code := (Try.f23).body.getD .skip
noncomputable def b7U : Shape := mkS { tmps := .sc (.int .i64) :: pv 5 (.sc (.ptr 0 0 false) :: pv 3 (.agg [.xs b32 (some 256)] :: .sc (.int .i64) :: pv 13 [])), mem := [.live [.xs b64 (some 256)] (.own)] } [.int, .xs, .int, .xs]
abbrev W44 : Type := Int × List Int × Int × List Int × Unit
noncomputable def R8 (N : Nat) (β : Type) (x : W44) (kn : W44 → Option β) (ke : ((Int × List Int × Unit)) → Option β) : Option β :=
 if (x.2.2.1 < (256:Int)) then
  if 0 ≤ x.2.2.1 then (
  if x.2.2.1 < 256 then (
  if (x.2.2.1.toNat) < 256 then (
  if 0 ≤ x.2.2.1 then (
  if x.2.2.1 < 256 then (
  if (x.2.2.1.toNat) < 256 then (
  kn (x.1, x.2.1, (IntKind.i64.wrap (x.2.2.1 + (1:Int))), (List.set x.2.2.2.1 (x.2.2.1.toNat) (IntKind.i64.wrap (List.getD x.2.1 (x.2.2.1.toNat) 0))), ())) else none) else none) else none) else none) else none) else none
 else
  ke (x.1, x.2.2.2.1, ())
noncomputable def b54 : Go' ((Int × List Int × Unit)) := fun y K => K (.exit 0) (fSt { tmps := .sc (.int .i64) :: pv 5 (.sc (.ptr 0 0 false) :: pv 18 []), mem := [.live [.xs b64 (some 256)] (.own)] } [.int, .xs] y)
noncomputable def a8D (N : Nat) : LT := upd (LT.nil) 3 (o6 b7U N (R8 N) b54)
theorem b55 (N : Nat) : OkAll p_dring_Pack_E b3M N (a8D N) (w9 a7N) :=
 d6 (c := d7 3 a7N) (OkAll.nil) (by kernel_rfl) (fun x => by kernel_rfl) (fun β x kn ke => by kernel_rfl)
abbrev a0F : List Kd := [.int .i64, .xs b32 256]
abbrev a0G : List Kd := [.sl b8, .int .i64]
noncomputable def a4Q (N : Nat) (x : Int × List Int × Unit) : Option (List Int × Int) :=
 (Q1 (x.2.1, ())).bind fun r1 => (
 m7 (R8 N) N (x.1, r1, (0:Int), (List.replicate 256 0), ()) fun y2 => (
 (a4O (y2.1, y2.2.1, ())).bind fun r3 => (
 some (r3.1, r3.2))))
theorem b9u (e0 : c8 Try.prog 47 E1) (e1 : c8 Try.prog 49 a4F) : p_dring_Pack_E.Ok Try.prog := AE.of_ok (all_cons a88 (all_cons u4 (all_cons q8 (all_cons c8w c6)))) (all_cons ⟨e0, U2⟩ (all_cons ⟨e1, a8n⟩ c6))
theorem c1t (hE : p_dring_Pack_E.Ok Try.prog) {g : Ds a0F → Option (Rs a0G)} (hg : ∀ x r, g x = some r → ∃ N, a4Q N x = some r) : c8 Try.prog 23 ⟨a0F, a0G, g⟩ :=
 i5 (E := p_dring_Pack_E) (H := b3M) (L := fun N => a8D N) (c := a7N) (ks := a0F) (rs := a0G) (F := a4Q) hE mix Try.func23 (by kernel_rfl) (fun N => b55 N) (fun _ _ => by kernel_rfl) hg
noncomputable def p_dring_PackFrom_E : AE := AE.of [(2, ty2), (21, ty21), (40, ty40), (91, ty91)] [(50, a1x), (49, a4F)]
noncomputable def a7e : Hints := [(3, [0, 1, 8, 12, 13]), (2000000, [1, 8]), (2000001, [0, 1, 8, 12, 13]), (3000000, [6, 7])]
noncomputable def a3e : Code := (Try.f24).body.getD .skip
noncomputable def b1H : Shape := mkS { tmps := .sc (.int .i32) :: .sc (.int .i64) :: pv 6 (.sc (.ptr 0 0 false) :: pv 3 (.agg [.xs b32 (some 256)] :: .sc (.int .i64) :: pv 16 [])), mem := [.live [.xs b64 (some 256)] (.own)] } [.int, .int, .xs, .int, .xs]
abbrev W45 : Type := Int × Int × List Int × Int × List Int × Unit
noncomputable def E7 (N : Nat) (β : Type) (x : W45) (kn : W45 → Option β) (ke : ((Int × List Int × Unit)) → Option β) : Option β :=
 if (x.2.2.2.1 < (256:Int)) then
  if 0 ≤ x.2.2.2.1 then (
  if x.2.2.2.1 < 256 then (
  if (x.2.2.2.1.toNat) < 256 then (
  if 0 ≤ x.2.2.2.1 then (
  if x.2.2.2.1 < 256 then (
  if (x.2.2.2.1.toNat) < 256 then (
  kn (x.1, x.2.1, x.2.2.1, (IntKind.i64.wrap (x.2.2.2.1 + (1:Int))), (List.set x.2.2.2.2.1 (x.2.2.2.1.toNat) (IntKind.i64.wrap ((IntKind.i64.wrap x.1) - (IntKind.i64.wrap (List.getD x.2.2.1 (x.2.2.2.1.toNat) 0))))), ())) else none) else none) else none) else none) else none) else none
 else
  ke (x.2.1, x.2.2.2.2.1, ())
noncomputable def b0J : Go' ((Int × List Int × Unit)) := fun y K => K (.exit 0) (fSt { tmps := V :: .sc (.int .i64) :: pv 6 (.sc (.ptr 0 0 false) :: pv 21 []), mem := [.live [.xs b64 (some 256)] (.own)] } [.int, .xs] y)
noncomputable def a4R (N : Nat) : LT := upd (LT.nil) 3 (o6 b1H N (E7 N) b0J)
theorem b0K (N : Nat) : OkAll p_dring_PackFrom_E a7e N (a4R N) (w9 a3e) :=
 d6 (c := d7 3 a3e) (OkAll.nil) (by kernel_rfl) (fun x => by kernel_rfl) (fun β x kn ke => by kernel_rfl)
abbrev K5 : List Kd := [.int .i32, .int .i64, .xs b32 256]
abbrev K6 : List Kd := [.sl b8, .int .i64]
noncomputable def Y1 (N : Nat) (x : Int × Int × List Int × Unit) : Option (List Int × Int) :=
 (a1B (x.2.2.1, ())).bind fun r1 => (
 m7 (E7 N) N (x.1, x.2.1, r1, (0:Int), (List.replicate 256 0), ()) fun y2 => (
 (a4O (y2.1, y2.2.1, ())).bind fun r3 => (
 some (r3.1, r3.2))))
theorem b2W (e0 : c8 Try.prog 50 a1x) (e1 : c8 Try.prog 49 a4F) : p_dring_PackFrom_E.Ok Try.prog := AE.of_ok (all_cons a88 (all_cons u4 (all_cons q8 (all_cons c8w c6)))) (all_cons ⟨e0, a6a⟩ (all_cons ⟨e1, a8n⟩ c6))
theorem b4o (hE : p_dring_PackFrom_E.Ok Try.prog) {g : Ds K5 → Option (Rs K6)} (hg : ∀ x r, g x = some r → ∃ N, Y1 N x = some r) : c8 Try.prog 24 ⟨K5, K6, g⟩ :=
 i5 (E := p_dring_PackFrom_E) (H := a7e) (L := fun N => a4R N) (c := a3e) (ks := K5) (rs := K6) (F := Y1) hE mix Try.func24 (by kernel_rfl) (fun N => b0K N) (fun _ _ => by kernel_rfl) hg
noncomputable def p_dsa_hash_E : AE := AE.ofI [] [(42, E2)] [] [(14, a08), (22, a6e)] [] [] []
noncomputable def c6c : Hints := [(3000000, [4]), (5000000, [4])]
noncomputable def c6d : Code := (Try.f13).body.getD .skip
abbrev a3p : List Kd := [.int .i64, .sls b8]
abbrev a3q : List Kd := [.sl b8]
noncomputable def a8R (N : Nat) (x : Int × List (List Int) × Unit) : Option (List Int) :=
 (v3 ((256:Int), x.1, x.2.1, ())).bind fun r1 => (
 if (r1.2 ≠ (0:Int)) then none else (
 some r1.1))
theorem c2H (e0 : c8 Try.prog 42 E2) : p_dsa_hash_E.Ok Try.prog := AE.ofI_ok c6 (all_cons ⟨e0, U3⟩ c6) c6 (all_cons ⟨O0, A4⟩ (all_cons ⟨a2K, Z4⟩ c6)) c6
theorem c4q (hE : p_dsa_hash_E.Ok Try.prog) {g : Ds a3p → Option (Rs a3q)} (hg : ∀ x r, g x = some r → ∃ N, a8R N x = some r) : c8 Try.prog 13 ⟨a3p, a3q, g⟩ :=
 i5 (E := p_dsa_hash_E) (H := c6c) (L := fun N => LT.nil) (c := c6d) (ks := a3p) (rs := a3q) (F := a8R) hE mix Try.func13 (by kernel_rfl) (fun N => OkAll.nil) (fun _ _ => by kernel_rfl) hg
noncomputable def p_dsa_two_E : AE := AE.of [(3, ty3), (5, ty5), (23, ty23)] []
noncomputable def c7V : Hints := [(3000000, [2])]
noncomputable def c7W : Code := (Try.f17).body.getD .skip
abbrev b1U : List Kd := [.int .i64]
abbrev a4Z : List Kd := [.sl b8]
noncomputable def b1T (N : Nat) (x : Int × Unit) : Option (List Int) :=
 some (List.set (List.set (List.replicate 2 0) 0 (IntKind.u8.wrap x.1)) 1 (IntKind.u8.wrap (b9g IntKind.i64 x.1 (8:Int))))
theorem c4x : p_dsa_two_E.Ok Try.prog := AE.of_ok (all_cons a5x (all_cons T9 (all_cons E0 c6))) c6
theorem c6g (hE : p_dsa_two_E.Ok Try.prog) {g : Ds [.int .i64] → Option (Rs a4Z)} (hg : ∀ x r, g x = some r → ∃ N, b1T N x = some r) : c8 Try.prog 17 ⟨[.int .i64], a4Z, g⟩ :=
 i5 (E := p_dsa_two_E) (H := c7V) (L := fun N => LT.nil) (c := c7W) (ks := b1U) (rs := a4Z) (F := b1T) hE mix Try.func17 (by kernel_rfl) (fun N => OkAll.nil) (fun _ _ => by kernel_rfl) hg
noncomputable abbrev R1 : Sig := ⟨[.int .i64, .sls b8], [.sl b8], J2⟩
noncomputable def p_dsa_meant_E : AE := AE.of [(3, ty3), (5, ty5), (23, ty23), (35, ty35)] [(13, R1)]
noncomputable def c4r : Hints := [(3000000, [6])]
noncomputable def c4s : Code := (Try.f26).body.getD .skip
abbrev a1R : List Kd := [.sl b8, .sl b8, .sl b8]
abbrev a1S : List Kd := [.sl b8]
noncomputable def a6r (N : Nat) (x : List Int × List Int × List Int × Unit) : Option (List Int) :=
 (J2 ((64:Int), [x.1, (List.set (List.set (List.replicate 2 0) 0 (0:Int)) 1 (IntKind.u8.wrap (((List.length x.2.2.1) : Nat) : Int))), x.2.2.1, x.2.1], ())).bind fun r1 => (
 some r1)
theorem c1H (e0 : c8 Try.prog 13 R1) : p_dsa_meant_E.Ok Try.prog := AE.of_ok (all_cons a5x (all_cons T9 (all_cons E0 (all_cons a2D c6)))) (all_cons ⟨e0, a0v⟩ c6)
theorem c2I (hE : p_dsa_meant_E.Ok Try.prog) {g : Ds a1R → Option (Rs a1S)} (hg : ∀ x r, g x = some r → ∃ N, a6r N x = some r) : c8 Try.prog 26 ⟨a1R, a1S, g⟩ :=
 i5 (E := p_dsa_meant_E) (H := c4r) (L := fun N => LT.nil) (c := c4s) (ks := a1R) (rs := a1S) (F := a6r) hE mix Try.func26 (by kernel_rfl) (fun N => OkAll.nil) (fun _ _ => by kernel_rfl) hg
noncomputable abbrev N3 : Sig := ⟨[.sls b8], [.sl b8], m6⟩
noncomputable abbrev a4D : Sig := ⟨[.int .i64, .xs b32 256], [.sl b8, .int .i64], a2G⟩
noncomputable def p_dsa_challenge_E : AE := AE.ofI [(5, ty5), (23, ty23), (35, ty35), (40, ty40), (44, ty44)] [(16, N3), (23, a4D), (13, R1)] [] [(14, a08), (22, a6e)] [] [] []
noncomputable def a8O : Hints := [(3, [3, 4, 5, 10]), (2000000, [4, 5]), (2000001, [3, 4, 5, 10]), (3000000, [4]), (5000000, [4])]
noncomputable def a4f : Code := (Try.f41).body.getD .skip
noncomputable def b3h : Shape := mkS { tmps := pv 3 (.sc (.ptr 0 0 false) :: .sc (.nilsl) :: .sc (.vec 1 none 1) :: pv 4 (.sc (.int .i64) :: pv 15 [])), mem := [.live [.xs b32 (some 1536)] (.own), .live [.xs b8 none] (.own)] } [.nat, .int, .xs, .nat, .xs]
abbrev W46 : Type := Nat × Int × List Int × Nat × List Int × Unit
noncomputable def H9 (N : Nat) (β : Type) (x : W46) (kn : W46 → Option β) (ke : W31 → Option β) : Option β :=
 if (x.2.1 < (6:Int)) then
  if 0 ≤ x.2.1 then (
  if x.2.1 < 6 then (
  if ((x.2.1.toNat) * 256) + 256 ≤ 1536 then (
  (a2G ((4:Int), (List.take 256 (List.drop ((x.2.1.toNat) * 256) x.2.2.1)), ())).bind fun r2 => (
  if (r2.2 ≠ (0:Int)) then
   ke (.inl (r2.2, ()))
  else
   if (x.1 + (List.length r2.1)) * 1 ≤ 140737488355328 then (
   kn ((x.1 + (List.length r2.1)), (IntKind.i64.wrap (x.2.1 + (1:Int))), x.2.2.1, (x.2.2.2.1 + (List.length r2.1)), (x.2.2.2.2.1 ++ r2.1), ())) else none)) else none) else none) else none
 else
  ke (.inr (x.1, x.2.2.2.1, x.2.2.2.2.1, ()))
noncomputable def b1O : Go' W31 := fun y K => match y with
 | .inl y => K (.pan (.ifi 26 .i64) y.1) (fSt { tmps := pv 4 (.sc (.nilsl) :: pv 21 []), mem := [] } [] ())
 | .inr y => K (.exit 0) (fSt { tmps := pv 4 (.sc (.nilsl) :: .sc (.vec 0 none 1) :: pv 20 []), mem := [.live [.xs b8 none] (.own)] } [.nat, .nat, .xs] y)
noncomputable def a5t (N : Nat) : LT := upd (LT.nil) 3 (o6 b3h N (H9 N) b1O)
theorem b1P (N : Nat) : OkAll p_dsa_challenge_E a8O N (a5t N) (w9 a4f) :=
 d6 (c := d7 3 a4f) (OkAll.nil) (by kernel_rfl) (fun x => by kernel_rfl) (fun β x kn ke => by kernel_rfl)
abbrev O8 : List Kd := [.sl b8, .xs b32 1536]
abbrev O9 : List Kd := [.sl b8]
noncomputable def a0R (N : Nat) (x : List Int × List Int × Unit) : Option (List Int) :=
 (m6 ([x.1], ())).bind fun r1 => (
 m7 (H9 N) N ((List.length r1), (0:Int), x.2.1, (List.length r1), r1, ()) fun y => (match y with
 | .inl y3 => (
  none)
 | .inr y4 => (
  (J2 ((48:Int), [y4.2.2.1], ())).bind fun r5 => (
  some r5))))
theorem b4N (e0 : c8 Try.prog 16 N3) (e1 : c8 Try.prog 23 a4D) (e2 : c8 Try.prog 13 R1) : p_dsa_challenge_E.Ok Try.prog := AE.ofI_ok (all_cons T9 (all_cons E0 (all_cons a2D (all_cons q8 (all_cons b5i c6))))) (all_cons ⟨e0, a04⟩ (all_cons ⟨e1, a8j⟩ (all_cons ⟨e2, a0v⟩ c6))) c6 (all_cons ⟨O0, A4⟩ (all_cons ⟨a2K, Z4⟩ c6)) c6
theorem b6r (hE : p_dsa_challenge_E.Ok Try.prog) {g : Ds O8 → Option (Rs O9)} (hg : ∀ x r, g x = some r → ∃ N, a0R N x = some r) : c8 Try.prog 41 ⟨O8, O9, g⟩ :=
 i5 (E := p_dsa_challenge_E) (H := a8O) (L := fun N => a5t N) (c := a4f) (ks := O8) (rs := O9) (F := a0R) hE mix Try.func41 (by kernel_rfl) (fun N => b1P N) (fun _ _ => by kernel_rfl) hg
noncomputable def p_dsa_poly_E : AE := AE.ofI [(40, ty40)] [] [] [(43, a5W)] [] [] []
noncomputable def c6e : Hints := [(3000000, [4]), (5000000, [4])]
noncomputable def c6f : Code := (Try.f14).body.getD .skip
abbrev a3s : List Kd := [.xs b32 256, .int .i64]
abbrev a3t : List Kd := [.xs b32 256]
noncomputable def b2J (N : Nat) (x : List Int × Int × Unit) : Option (Int ⊕ (List Int)) :=
 if (x.2.1 ≠ (0:Int)) then
  some (.inl x.2.1)
 else
  some (.inr x.1)
theorem c2J : p_dsa_poly_E.Ok Try.prog := AE.ofI_ok (all_cons q8 c6) c6 c6 (all_cons ⟨a28, a0u⟩ c6) c6
theorem c4t (hE : p_dsa_poly_E.Ok Try.prog) {g : Ds a3s → Option (Bool × Int × Rs a3t)} (hg : ∀ x r, g x = some r → ∃ N, b2J N x = some (xr r)) : XOk Try.prog 14 ⟨a3s, a3t, (.ifi 26 .i64), g⟩ :=
 c01 (E := p_dsa_poly_E) (H := c6e) (L := fun N => LT.nil) (c := c6f) (ks := a3s) (rs := a3t) (F := b2J) hE mix Try.func14 (by kernel_rfl) (fun N => OkAll.nil) (fun _ _ => by kernel_rfl) hg
noncomputable abbrev a7B : Sig := ⟨[.sl b8], [.xs b32 256, .int .i64], Z8⟩
noncomputable abbrev b7d : XSig := ⟨[.xs b32 256, .int .i64], [.xs b32 256], (.ifi 26 .i64), a5V⟩
noncomputable def p_dsa_expand_E : AE := AE.ofA [(3, ty3), (5, ty5), (23, ty23), (35, ty35), (40, ty40), (42, ty42), (88, ty88)] [(16, N3), (46, a7B)] [(14, b7d)] [] [] [(14, a08), (22, a6e)] [] [] [] [] [] []
noncomputable def a7X : Hints := [(3, [0, 2, 3, 6]), (6, [0, 2, 3, 4, 6, 9]), (2000000, [2, 3]), (2000001, [0, 2, 3, 6]), (2000002, [0, 2, 3, 6]), (2000003, [0, 2, 3, 4, 6, 9]), (3000000, [2]), (5000000, [2])]
noncomputable def a1P : Code := (Try.f18).body.getD .skip
noncomputable def b8b : Shape := mkS { tmps := .sc (.vec 0 none 1) :: V :: .sc (.nilp) :: .sc (.ptr 1 0 false) :: .sc (.int .i64) :: V :: .sc (.int .i64) :: V :: V :: .sc (.int .i64) :: pv 20 [], mem := [.live [.xs b8 none] (.ro), .live [.xs b32 (some 7680)] (.own)] } [.nat, .int, .int, .int, .nat, .xs, .xs]
abbrev W47 : Type := Nat × Int × Int × Int × Nat × List Int × List Int × Unit
abbrev W48 : Type := (Int × Unit) ⊕ (Nat × Int × Nat × List Int × List Int × Unit)
noncomputable def x6 (N : Nat) (β : Type) (x : W47) (kn : W47 → Option β) (ke : W48 → Option β) : Option β :=
 if (x.2.2.2.1 < (5:Int)) then
  (m6 ([x.2.2.2.2.2.1, (List.set (List.set (List.replicate 2 0) 0 (IntKind.u8.wrap x.2.2.2.1)) 1 (IntKind.u8.wrap x.2.1))], ())).bind fun r1 => (
  (Z8 (r1, ())).bind fun r2 => (
  if 0 ≤ x.2.1 then (
  if x.2.1 < 6 then (
  (a5V (r2.1, r2.2, ())).bind fun r3 => (
  if r3.1 = true then
   ke (.inl (r3.2.1, ()))
  else
   (m6 ([x.2.2.2.2.2.1, (List.set (List.set (List.replicate 2 0) 0 (IntKind.u8.wrap x.2.2.2.1)) 1 (IntKind.u8.wrap x.2.1))], ())).bind fun r4 => (
   (Z8 (r4, ())).bind fun r5 => (
   (xg (a5V (r5.1, r5.2, ()))).bind fun r6 => (
   if 0 ≤ x.2.1 then (
   if x.2.1 < 6 then (
   if 0 ≤ x.2.2.2.1 then (
   if x.2.2.2.1 < 5 then (
   if (((x.2.1.toNat) * 1280) + ((x.2.2.2.1.toNat) * 256)) + 256 ≤ 7680 then (
   kn (x.1, x.2.1, x.2.2.1, (IntKind.i64.wrap (x.2.2.2.1 + (1:Int))), x.2.2.2.2.1, x.2.2.2.2.2.1, (List.take (((x.2.1.toNat) * 1280) + ((x.2.2.2.1.toNat) * 256)) x.2.2.2.2.2.2.1 ++ r6 ++ List.drop ((((x.2.1.toNat) * 1280) + ((x.2.2.2.1.toNat) * 256)) + 256) x.2.2.2.2.2.2.1), ())) else none) else none) else none) else none) else none))))) else none) else none))
 else
  ke (.inr (x.1, x.2.2.1, x.2.2.2.2.1, x.2.2.2.2.2.1, x.2.2.2.2.2.2.1, ()))
noncomputable def b6u : Go' W48 := fun y K => match y with
 | .inl y => K (.pan (.ifi 26 .i64) y.1) (fSt { tmps := V :: V :: .sc (.nilp) :: pv 27 [], mem := [] } [] ())
 | .inr y => K (.exit 2) (fSt { tmps := .sc (.vec 0 none 1) :: V :: .sc (.nilp) :: .sc (.ptr 1 0 false) :: V :: V :: .sc (.int .i64) :: pv 23 [], mem := [.live [.xs b8 none] (.ro), .live [.xs b32 (some 7680)] (.own)] } [.nat, .int, .nat, .xs, .xs] y)
noncomputable def a8Q (N : Nat) : LT := upd (LT.nil) 6 (o6 b8b N (x6 N) b6u)
theorem b6v (N : Nat) : OkAll p_dsa_expand_E a7X N (a8Q N) (w9 a1P) :=
 d6 (c := d7 6 a1P) (OkAll.nil) (by kernel_rfl) (fun x => by kernel_rfl) (fun β x kn ke => by kernel_rfl)
noncomputable def b8a : Shape := mkS { tmps := .sc (.vec 0 none 1) :: V :: .sc (.nilp) :: .sc (.ptr 1 0 false) :: V :: V :: .sc (.int .i64) :: pv 23 [], mem := [.live [.xs b8 none] (.ro), .live [.xs b32 (some 7680)] (.own)] } [.nat, .int, .nat, .xs, .xs]
abbrev W49 : Type := Nat × Int × Nat × List Int × List Int × Unit
abbrev W50 : Type := (Int × Unit) ⊕ (List Int × Unit)
noncomputable def x5 (N : Nat) (β : Type) (x : W49) (kn : W49 → Option β) (ke : W50 → Option β) : Option β :=
 if (x.2.1 < (6:Int)) then
  m7 (x6 N) N (x.1, x.2.1, x.2.1, (0:Int), x.2.2.1, x.2.2.2.1, x.2.2.2.2.1, ()) fun y => (match y with
  | .inl y7 => (
   ke (.inl (y7.1, ())))
  | .inr y8 => (
   kn (y8.1, (IntKind.i64.wrap (y8.2.1 + (1:Int))), y8.2.2.1, y8.2.2.2.1, y8.2.2.2.2.1, ())))
 else
  ke (.inr (x.2.2.2.2.1, ()))
noncomputable def b6s : Go' W50 := fun y K => match y with
 | .inl y => K (.pan (.ifi 26 .i64) y.1) (fSt { tmps := V :: V :: .sc (.nilp) :: pv 27 [], mem := [] } [] ())
 | .inr y => K (.exit 0) (fSt { tmps := V :: V :: .sc (.nilp) :: .sc (.ptr 0 0 false) :: pv 26 [], mem := [.live [.xs b32 (some 7680)] (.own)] } [.xs] y)
noncomputable def a8P (N : Nat) : LT := upd (a8Q N) 3 (o6 b8a N (x5 N) b6s)
theorem b6t (N : Nat) : OkAll p_dsa_expand_E a7X N (a8P N) (w9 a1P) :=
 d6 (c := d7 3 a1P) (b6v N) (by kernel_rfl) (fun x => by kernel_rfl) (fun β x kn ke => by kernel_rfl)
abbrev a0S : List Kd := [.sl b8]
abbrev a0T : List Kd := [.op [.xs b32 7680]]
noncomputable def a7p (N : Nat) (x : List Int × Unit) : Option (Int ⊕ ((List Int × Unit))) :=
 m7 (x5 N) N ((List.length x.1), (0:Int), (List.length x.1), x.1, (List.replicate 7680 0), ()) fun y => (match y with
 | .inl y9 => (
  some (.inl y9.1))
 | .inr y10 => (
  some (.inr (y10.1, ()))))
theorem b9H (e0 : c8 Try.prog 16 N3) (e1 : c8 Try.prog 46 a7B) (e2 : XOk Try.prog 14 b7d) : p_dsa_expand_E.Ok Try.prog := AE.ofA_ok (all_cons a5x (all_cons T9 (all_cons E0 (all_cons a2D (all_cons q8 (all_cons b5h (all_cons d3j c6))))))) (all_cons ⟨e0, a04⟩ (all_cons ⟨e1, b36⟩ c6)) (all_cons ⟨e2, A4⟩ c6) c6 c6 (all_cons ⟨O0, A4⟩ (all_cons ⟨a2K, Z4⟩ c6)) c6 c6 c6 c6
theorem c1G (hE : p_dsa_expand_E.Ok Try.prog) {g : Ds a0S → Option (Bool × Int × Rs a0T)} (hg : ∀ x r, g x = some r → ∃ N, a7p N x = some (xr r)) : XOk Try.prog 18 ⟨a0S, a0T, (.ifi 26 .i64), g⟩ :=
 c01 (E := p_dsa_expand_E) (H := a7X) (L := fun N => a8P N) (c := a1P) (ks := a0S) (rs := a0T) (F := a7p) hE mix Try.func18 (by kernel_rfl) (fun N => b6t N) (fun _ _ => by kernel_rfl) hg
noncomputable def p_dsa_matrix_raised_E : AE := AE.of [(40, ty40), (42, ty42), (44, ty44), (88, ty88)] [(32, a2n), (38, P8), (21, U0)]
noncomputable def P0 : Hints := [(2, [0, 3, 4, 9]), (8, [0, 3, 4, 6, 19]), (11, [0, 3, 4, 6, 7, 19, 22]), (2000000, [0, 3, 4]), (2000001, [0, 3, 4, 9]), (2000002, [4, 6]), (2000003, [0, 3, 4, 6, 19]), (2000004, [0, 3, 4, 6, 19]), (2000005, [0, 3, 4, 6, 7, 19, 22]), (3000000, [4])]
noncomputable def t7 : Code := (Try.f34).body.getD .skip
noncomputable def a8S : Shape := mkS { tmps := .sc (.ptr 0 0 false) :: V :: V :: .sc (.ptr 1 0 false) :: .sc (.ptr 2 0 false) :: pv 4 (.sc (.int .i64) :: pv 35 []), mem := [.live [.xs b32 (some 7680)] (.ro), .live [.xs b32 (some 1280)] (.own), .live [.xs b32 (some 1536)] (.own)] } [.int, .xs, .xs, .xs]
noncomputable def x7 (N : Nat) (β : Type) (x : W4) (kn : W4 → Option β) (ke : W3 → Option β) : Option β :=
 if (x.1 < (5:Int)) then
  if 0 ≤ x.1 then (
  if x.1 < 5 then (
  if ((x.1.toNat) * 256) + 256 ≤ 1280 then (
  (a0w ((List.take 256 (List.drop ((x.1.toNat) * 256) x.2.2.1)), ())).bind fun r1 => (
  if 0 ≤ x.1 then (
  if x.1 < 5 then (
  if ((x.1.toNat) * 256) + 256 ≤ 1280 then (
  kn ((IntKind.i64.wrap (x.1 + (1:Int))), x.2.1, (List.take ((x.1.toNat) * 256) x.2.2.1 ++ r1 ++ List.drop (((x.1.toNat) * 256) + 256) x.2.2.1), x.2.2.2.1, ())) else none) else none) else none)) else none) else none) else none
 else
  ke (x.2.1, x.2.2.1, x.2.2.2.1, ())
noncomputable def a7Z : Go' W3 := fun y K => K (.exit 0) (fSt { tmps := .sc (.ptr 0 0 false) :: V :: V :: .sc (.ptr 1 0 false) :: .sc (.ptr 2 0 false) :: pv 40 [], mem := [.live [.xs b32 (some 7680)] (.ro), .live [.xs b32 (some 1280)] (.own), .live [.xs b32 (some 1536)] (.own)] } [.xs, .xs, .xs] y)
noncomputable def a2O (N : Nat) : LT := upd (LT.nil) 2 (o6 a8S N (x7 N) a7Z)
theorem a70 (N : Nat) : OkAll p_dsa_matrix_raised_E P0 N (a2O N) (w9 t7) :=
 d6 (c := d7 2 t7) (OkAll.nil) (by kernel_rfl) (fun x => by kernel_rfl) (fun β x kn ke => by kernel_rfl)
noncomputable def a7Y : Shape := mkS { tmps := .sc (.ptr 0 0 false) :: V :: V :: .sc (.ptr 1 0 false) :: .sc (.ptr 2 0 false) :: V :: .sc (.ptr 3 0 false) :: .sc (.int .i64) :: pv 11 (.sc (.int .i64) :: V :: V :: .sc (.int .i64) :: pv 22 []), mem := [.live [.xs b32 (some 7680)] (.ro), .live [.xs b32 (some 1280)] (.own), .live [.xs b32 (some 1536)] (.own), .live [.xs b32 (some 1536)] (.own)] } [.int, .int, .int, .xs, .xs, .xs, .xs]
abbrev W51 : Type := Int × Int × Int × List Int × List Int × List Int × List Int × Unit
abbrev W52 : Type := Int × List Int × List Int × List Int × List Int × Unit
noncomputable def v7 (N : Nat) (β : Type) (x : W51) (kn : W51 → Option β) (ke : W52 → Option β) : Option β :=
 if (x.2.2.1 < (5:Int)) then
  if 0 ≤ x.1 then (
  if x.1 < 6 then (
  if ((x.1.toNat) * 256) + 256 ≤ 1536 then (
  if 0 ≤ x.1 then (
  if x.1 < 6 then (
  if 0 ≤ x.2.2.1 then (
  if x.2.2.1 < 5 then (
  if (((x.1.toNat) * 1280) + ((x.2.2.1.toNat) * 256)) + 256 ≤ 7680 then (
  if 0 ≤ x.2.2.1 then (
  if x.2.2.1 < 5 then (
  if ((x.2.2.1.toNat) * 256) + 256 ≤ 1280 then (
  (Z7 ((List.take 256 (List.drop (((x.1.toNat) * 1280) + ((x.2.2.1.toNat) * 256)) x.2.2.2.1)), (List.take 256 (List.drop ((x.2.2.1.toNat) * 256) x.2.2.2.2.1)), ())).bind fun r3 => (
  (Q0 ((List.take 256 (List.drop ((x.1.toNat) * 256) x.2.2.2.2.2.2.1)), r3, ())).bind fun r4 => (
  if 0 ≤ x.1 then (
  if x.1 < 6 then (
  if ((x.1.toNat) * 256) + 256 ≤ 1536 then (
  kn (x.1, x.2.1, (IntKind.i64.wrap (x.2.2.1 + (1:Int))), x.2.2.2.1, x.2.2.2.2.1, x.2.2.2.2.2.1, (List.take ((x.1.toNat) * 256) x.2.2.2.2.2.2.1 ++ r4 ++ List.drop (((x.1.toNat) * 256) + 256) x.2.2.2.2.2.2.1), ())) else none) else none) else none))) else none) else none) else none) else none) else none) else none) else none) else none) else none) else none) else none
 else
  ke (x.2.1, x.2.2.2.1, x.2.2.2.2.1, x.2.2.2.2.2.1, x.2.2.2.2.2.2.1, ())
noncomputable def a6W : Go' W52 := fun y K => K (.exit 4) (fSt { tmps := .sc (.ptr 0 0 false) :: V :: V :: .sc (.ptr 1 0 false) :: .sc (.ptr 2 0 false) :: V :: .sc (.ptr 3 0 false) :: pv 12 (.sc (.int .i64) :: pv 25 []), mem := [.live [.xs b32 (some 7680)] (.ro), .live [.xs b32 (some 1280)] (.own), .live [.xs b32 (some 1536)] (.own), .live [.xs b32 (some 1536)] (.own)] } [.int, .xs, .xs, .xs, .xs] y)
noncomputable def a1Q (N : Nat) : LT := upd (a2O N) 11 (o6 a7Y N (v7 N) a6W)
theorem a6X (N : Nat) : OkAll p_dsa_matrix_raised_E P0 N (a1Q N) (w9 t7) :=
 d6 (c := d7 11 t7) (a70 N) (by kernel_rfl) (fun x => by kernel_rfl) (fun β x kn ke => by kernel_rfl)
noncomputable def a8T : Shape := mkS { tmps := .sc (.ptr 0 0 false) :: V :: V :: .sc (.ptr 1 0 false) :: .sc (.ptr 2 0 false) :: V :: .sc (.ptr 3 0 false) :: pv 12 (.sc (.int .i64) :: pv 25 []), mem := [.live [.xs b32 (some 7680)] (.ro), .live [.xs b32 (some 1280)] (.own), .live [.xs b32 (some 1536)] (.own), .live [.xs b32 (some 1536)] (.own)] } [.int, .xs, .xs, .xs, .xs]
noncomputable def x8 (N : Nat) (β : Type) (x : W52) (kn : W52 → Option β) (ke : W5 → Option β) : Option β :=
 if (x.1 < (6:Int)) then
  m7 (v7 N) N (x.1, x.1, (0:Int), x.2.1, x.2.2.1, x.2.2.2.1, x.2.2.2.2.1, ()) fun y5 => (
  kn ((IntKind.i64.wrap (y5.1 + (1:Int))), y5.2.1, y5.2.2.1, y5.2.2.2.1, y5.2.2.2.2.1, ()))
 else
  ke (x.2.2.2.1, x.2.2.2.2.1, ())
noncomputable def a71 : Go' W5 := fun y K => K (.exit 2) (fSt { tmps := pv 4 (.sc (.ptr 0 0 false) :: V :: .sc (.ptr 1 0 false) :: pv 38 []), mem := [.live [.xs b32 (some 1536)] (.own), .live [.xs b32 (some 1536)] (.own)] } [.xs, .xs] y)
noncomputable def a2P (N : Nat) : LT := upd (a1Q N) 8 (o6 a8T N (x8 N) a71)
theorem a72 (N : Nat) : OkAll p_dsa_matrix_raised_E P0 N (a2P N) (w9 t7) :=
 d6 (c := d7 8 t7) (a6X N) (by kernel_rfl) (fun x => by kernel_rfl) (fun β x kn ke => by kernel_rfl)
abbrev C8 : List Kd := [.rp (.xs b32 7680), .xs b32 1280]
abbrev C9 : List Kd := [.xs b32 1536]
noncomputable def L5 (N : Nat) (x : List Int × List Int × Unit) : Option (List Int) :=
 m7 (x7 N) N ((0:Int), x.1, x.2.1, (List.replicate 1536 0), ()) fun y2 => (
 m7 (x8 N) N ((0:Int), y2.1, y2.2.1, y2.2.2.1, (List.replicate 1536 0), ()) fun y6 => (
 some y6.2.1))
theorem a9N (e0 : c8 Try.prog 32 a2n) (e1 : c8 Try.prog 38 P8) (e2 : c8 Try.prog 21 U0) : p_dsa_matrix_raised_E.Ok Try.prog := AE.of_ok (all_cons q8 (all_cons b5h (all_cons b5i (all_cons d3j c6)))) (all_cons ⟨e0, a5a⟩ (all_cons ⟨e1, a2s⟩ (all_cons ⟨e2, a1Z⟩ c6)))
theorem b0T (hE : p_dsa_matrix_raised_E.Ok Try.prog) {g : Ds C8 → Option (Rs C9)} (hg : ∀ x r, g x = some r → ∃ N, L5 N x = some r) : c8 Try.prog 34 ⟨C8, C9, g⟩ :=
 i5 (E := p_dsa_matrix_raised_E) (H := P0) (L := fun N => a2P N) (c := t7) (ks := C8) (rs := C9) (F := L5) hE mix Try.func34 (by kernel_rfl) (fun N => a72 N) (fun _ _ => by kernel_rfl) hg
noncomputable abbrev J6 : Sig := ⟨[.rp (.xs b32 7680), .xs b32 1280], [.xs b32 1536], J9⟩
noncomputable def p_dsa_matrix_times_E : AE := AE.of [(40, ty40), (42, ty42), (44, ty44)] [(34, J6), (36, a2m)]
noncomputable def a5u : Hints := [(3, [4, 5, 10]), (2000000, [4, 5]), (2000001, [4, 5, 10]), (3000000, [4])]
noncomputable def a1w : Code := (Try.f19).body.getD .skip
noncomputable def a9O : Shape := mkS { tmps := pv 4 (.sc (.ptr 0 0 false) :: .sc (.ptr 1 0 false) :: pv 4 (.sc (.int .i64) :: pv 10 [])), mem := [.live [.xs b32 (some 1536)] (.own), .live [.xs b32 (some 1536)] (.own)] } [.int, .xs, .xs]
noncomputable def A9 (N : Nat) (β : Type) (x : W18) (kn : W18 → Option β) (ke : W5 → Option β) : Option β :=
 if (x.1 < (6:Int)) then
  if 0 ≤ x.1 then (
  if x.1 < 6 then (
  if ((x.1.toNat) * 256) + 256 ≤ 1536 then (
  (a34 ((List.take 256 (List.drop ((x.1.toNat) * 256) x.2.2.1)), ())).bind fun r2 => (
  if 0 ≤ x.1 then (
  if x.1 < 6 then (
  if ((x.1.toNat) * 256) + 256 ≤ 1536 then (
  kn ((IntKind.i64.wrap (x.1 + (1:Int))), x.2.1, (List.take ((x.1.toNat) * 256) x.2.2.1 ++ r2 ++ List.drop (((x.1.toNat) * 256) + 256) x.2.2.1), ())) else none) else none) else none)) else none) else none) else none
 else
  ke (x.2.1, x.2.2.1, ())
noncomputable def a8U : Go' W5 := fun y K => K (.exit 0) (fSt { tmps := pv 4 (.sc (.ptr 0 0 false) :: .sc (.ptr 1 0 false) :: pv 15 []), mem := [.live [.xs b32 (some 1536)] (.own), .live [.xs b32 (some 1536)] (.own)] } [.xs, .xs] y)
noncomputable def a3r (N : Nat) : LT := upd (LT.nil) 3 (o6 a9O N (A9 N) a8U)
theorem a8V (N : Nat) : OkAll p_dsa_matrix_times_E a5u N (a3r N) (w9 a1w) :=
 d6 (c := d7 3 a1w) (OkAll.nil) (by kernel_rfl) (fun x => by kernel_rfl) (fun β x kn ke => by kernel_rfl)
abbrev F5 : List Kd := [.rp (.xs b32 7680), .xs b32 1280]
abbrev F6 : List Kd := [.xs b32 1536]
noncomputable def P1 (N : Nat) (x : List Int × List Int × Unit) : Option (List Int) :=
 (J9 (x.1, x.2.1, ())).bind fun r1 => (
 m7 (A9 N) N ((0:Int), (List.replicate 1536 0), r1, ()) fun y3 => (
 some y3.2.1))
theorem b0U (e0 : c8 Try.prog 34 J6) (e1 : c8 Try.prog 36 a2m) : p_dsa_matrix_times_E.Ok Try.prog := AE.of_ok (all_cons q8 (all_cons b5h (all_cons b5i c6))) (all_cons ⟨e0, a2F⟩ (all_cons ⟨e1, a49⟩ c6))
theorem b1Q (hE : p_dsa_matrix_times_E.Ok Try.prog) {g : Ds F5 → Option (Rs F6)} (hg : ∀ x r, g x = some r → ∃ N, P1 N x = some r) : c8 Try.prog 19 ⟨F5, F6, g⟩ :=
 i5 (E := p_dsa_matrix_times_E) (H := a5u) (L := fun N => a3r N) (c := a1w) (ks := F5) (rs := F6) (F := P1) hE mix Try.func19 (by kernel_rfl) (fun N => a8V N) (fun _ _ => by kernel_rfl) hg
end Go.Ax.TryP
set_option linter.unusedVariables false
namespace Go.Ax.TryP
open Go.Proofs
def bytes (zs : List Int) : Prop := ∀ z ∈ zs, 0 ≤ z ∧ z ≤ 255
def c6I (l : List (List Int)) : Prop := l.length ≤ maxLen ∧ ∀ zs ∈ l, zs.length ≤ maxLen ∧ bytes zs
theorem d3n {l : List (List Int)} : Kd.wf (.sls (.int .u8)) l ↔ c6I l := by simp [Kd.wf, c6I, bytes, U6]
theorem M8 {b : List Int} : Kd.wf (.sl (.int .u8)) b ↔ b.length ≤ maxLen ∧ bytes b := by simp only [a98]; exact Iff.rfl
theorem c89 {l : List (List Int)} {i : Nat} (hi : i < l.length) : (l.take (i + 1)).flatten = (l.take i).flatten ++ l.getD i [] := by
 rw [List.take_succ_eq_append_getElem hi, List.flatten_append, List.getD_eq_getElem?_getD, List.getElem?_eq_getElem hi]; simp
theorem d11 (l : List (List Int)) (i : Nat) : (l.take i).flatten.length ≤ l.flatten.length := by
 conv => rhs; rw [← List.take_append_drop i l, List.flatten_append, List.length_append]
 omega
theorem c6z : ∀ x r, m6 x = some r → ∃ N, a7t N x = some r := by
 refine d9 (ks := a0W) (rs := a0X) fun x hw hq => ?_
 obtain ⟨(l : List (List Int)), u⟩ := x
 obtain ⟨hq1, hq⟩ : l.length ≤ 1000 ∧ l.flatten.length ≤ 1000000 := hq
 refine ⟨l.length + 1, ?_⟩
 unfold a7t
 dsimp only
 refine (i8 (F := S9 (l.length + 1)) (s := fun i => (l, ((l.take i).flatten.length : Int), l, (l.length : Int), (i : Int), ())) (y := (l, (l.flatten.length : Int), ())) l.length rfl ?_ ?_ _ (by omega)).trans ?_
 ·intro i hi kn
  have h1 := d11 l (i + 1)
  rw [c89 hi] at h1 ⊢
  rw [List.length_append] at h1 ⊢
  unfold S9
  dsimp only
  rw [if_pos (by omega), if_pos (by omega), if_pos (by omega), Int.toNat_natCast, c7 (by omega) (by omega), c7 (by omega) (by omega), Int.natCast_add]
  rfl
 ·intro kn
  unfold S9
  dsimp only
  rw [if_neg (by omega), List.take_length]
 dsimp only
 rw [if_pos (by omega), if_pos (by omega), if_pos (by omega)]
 refine (i8 (F := T0 (l.length + 1)) (s := fun i => ((l.take i).flatten.length, l, (l.length : Int), (i : Int), (l.take i).flatten.length, (l.take i).flatten, ()))
  (y := (l.flatten.length, l.flatten.length, l.flatten, ())) l.length rfl ?_ ?_ _ (by omega)).trans ?_
 ·intro i hi kn
  have h1 := d11 l (i + 1)
  rw [c89 hi] at h1 ⊢
  rw [List.length_append] at h1 ⊢
  unfold T0
  dsimp only
  rw [if_pos (by omega), if_pos (by omega), if_pos (by omega), Int.toNat_natCast, if_pos (by omega), c7 (by omega) (by omega)]
  rfl
 ·intro kn
  unfold T0
  dsimp only
  rw [if_neg (by omega), List.take_length]
 ·rfl
theorem c0p {l : List (List Int)} (h : l.length ≤ 1000 ∧ l.flatten.length ≤ 1000000) (hr : c6I l) : m6 (l, ()) = some l.flatten :=
 d8 (ks := a0W) (rs := a0X) (x := (l, ())) ⟨d3n.2 hr, trivial⟩ h
theorem d4U {a b : Int} (ha : 0 ≤ a ∧ a ≤ 255) (hb : 0 ≤ b ∧ b ≤ 255) {x : Int} (hx : 0 ≤ x ∧ x ≤ 255) :
  (0 ≤ ior .u8 x (c06 .u8 a b) ∧ ior .u8 x (c06 .u8 a b) ≤ 255) ∧ (ior .u8 x (c06 .u8 a b) = 0 ↔ x = 0 ∧ a = b) := by
 obtain ⟨a, rfl⟩ : ∃ m : Nat, a = m := ⟨a.toNat, by omega⟩
 obtain ⟨b, rfl⟩ : ∃ m : Nat, b = m := ⟨b.toNat, by omega⟩
 obtain ⟨x, rfl⟩ : ∃ m : Nat, x = m := ⟨x.toNat, by omega⟩
 have ha' : a < 2 ^ 8 := by omega
 have hb' : b < 2 ^ 8 := by omega
 have hx' : x < 2 ^ 8 := by omega
 have h1 : a ^^^ b < 2 ^ 8 := Nat.xor_lt_two_pow ha' hb'
 have h2 : x ||| (a ^^^ b) < 2 ^ 8 := Nat.or_lt_two_pow hx' h1
 rw [c4g (k := .u8) rfl ha' hb', c4c (k := .u8) rfl hx' h1]
 refine ⟨by omega, ?_⟩
 constructor
 ·intro h
  have h : x ||| (a ^^^ b) = 0 := by omega
  have hz : ∀ i, (x ||| (a ^^^ b)).testBit i = false := fun i => by rw [h]; exact Nat.zero_testBit i
  have hx0 : x = 0 := Nat.eq_of_testBit_eq fun i => by
   have := hz i
   rw [Nat.testBit_or, Bool.or_eq_false_iff] at this
   rw [this.1]; simp
  have hab : a = b := Nat.eq_of_testBit_eq fun i => by
   have := hz i
   rw [Nat.testBit_or, Bool.or_eq_false_iff, Nat.testBit_xor] at this
   have := this.2
   cases h1 : a.testBit i <;> cases h2 : b.testBit i <;> simp_all
  rw [hx0, hab]; simp
 ·rintro ⟨k1, k2⟩
  have k1 : x = 0 := by omega
  have k2 : a = b := by omega
  rw [k1, k2]
  simp
def c8j (a b : List Int) : Nat → Int
 | 0 => 0
 | i + 1 => ior .u8 (c8j a b i) (c06 .u8 (a.getD i 0) (b.getD i 0))
theorem c8R {a : List Int} (h : bytes a) (i : Nat) : 0 ≤ a.getD i 0 ∧ a.getD i 0 ≤ 255 := by
 rw [List.getD_eq_getElem?_getD]
 cases e : a[i]? with
 | none => simp
 | some z => exact h z (List.mem_of_getElem? e)
theorem c3w {a b : List Int} (ha : bytes a) (hb : bytes b) (hl : a.length = b.length) : ∀ i, i ≤ a.length → (0 ≤ c8j a b i ∧ c8j a b i ≤ 255) ∧ (c8j a b i = 0 ↔ a.take i = b.take i)
 | 0, _ => by simp [c8j]
 | i + 1, hi => by
  obtain ⟨h1, h2⟩ := c3w ha hb hl i (by omega)
  obtain ⟨g1, g2⟩ := d4U (c8R ha i) (c8R hb i) h1
  refine ⟨g1, g2.trans ?_⟩
  rw [h2, List.take_succ_eq_append_getElem (show i < a.length by omega), List.take_succ_eq_append_getElem (show i < b.length by omega)]
  have e : List.take i a ++ [a[i]] = List.take i b ++ [b[i]] ↔ List.take i a = List.take i b ∧ a[i] = b[i] :=
   ⟨fun h => by obtain ⟨p, q⟩ := List.append_inj h (by simp; omega); exact ⟨p, by simpa using q⟩, fun h => by rw [h.1, h.2]⟩
  rw [e]
  simp [List.getD_eq_getElem?_getD, List.getElem?_eq_getElem (show i < a.length by omega), List.getElem?_eq_getElem (show i < b.length by omega)]
theorem c6A : ∀ x r, a66 x = some r → ∃ N, a7u N x = some r := by
 refine d9 (ks := a0Y) (rs := a6G) fun x hw hq => ?_
 obtain ⟨(a : List Int), (b : List Int), u⟩ := x
 obtain ⟨ha1, ha2⟩ : a.length ≤ maxLen ∧ bytes a := M8.1 hw.1
 obtain ⟨hb1, hb2⟩ : b.length ≤ maxLen ∧ bytes b := M8.1 hw.2.1
 have hM : maxLen = 9223372036854775807 := by decide
 refine ⟨a.length + 1, ?_⟩
 unfold a7u
 dsimp only
 by_cases hl : a.length = b.length
 ·rw [if_neg (by omega)]
  refine (i8 (F := T1 (a.length + 1)) (s := fun i => (a.length, b.length, c8j a b i, (a.length : Int), (i : Int), a.length, a, b.length, b, ())) (y := (c8j a b a.length, ())) a.length rfl ?_ ?_ (a.length + 1) (by omega)).trans ?_
  ·intro i hi kn
   unfold T1
   dsimp only
   rw [if_pos (by omega), if_pos (by omega), if_pos (by omega), Int.toNat_natCast, if_pos (by omega), if_pos (by omega), if_pos (by omega), if_pos (by omega), c7 (by omega) (by omega)]
   rfl
  ·intro kn
   unfold T1
   dsimp only
   rw [if_neg (by omega)]
  ·dsimp only
   refine congrArg some (decide_eq_decide.2 ?_)
   rw [(c3w ha2 hb2 hl a.length (Nat.le_refl _)).2, List.take_length, hl, List.take_length]
 ·rw [if_pos (by omega)]
  exact congrArg some (decide_eq_false (fun h => hl (by rw [show a = b from h]))).symm
theorem d5K {a b : List Int} (ha : a.length ≤ maxLen ∧ bytes a) (hb : b.length ≤ maxLen ∧ bytes b) : a66 (a, b, ()) = some (decide (a = b)) :=
 d8 (ks := a0Y) (rs := a6G) (x := (a, b, ())) ⟨M8.2 ha, M8.2 hb, trivial⟩ trivial
end Go.Ax.TryP
set_option linter.unusedVariables false
namespace Go.Ax.TryP
open Go.Proofs
theorem mB {n : Nat} (h : n ≤ 10000000) : n ≤ maxLen := by
 unfold maxLen
 omega
theorem d08 {d : Int} (h : 0 ≤ d ∧ d ≤ 1000000) : a29 .i64 d := u2.2 (by omega)
theorem d0K : ∀ x r, a5V x = some r → ∃ N, b2J N x = some (xr r) := by
 refine b5l (ks := a3s) (rs := a3t) fun x hw hq => ⟨0, ?_⟩
 obtain ⟨(a : List Int), (e : Int), u⟩ := x
 unfold b2J
 dsimp only
 by_cases h : e = 0
 ·rw [if_neg (by simp [h])]
  simp [xr, h]
 ·rw [if_pos h]
  simp [xr, h]
theorem d0J : ∀ x r, J2 x = some r → ∃ N, a8R N x = some r := by
 refine d9 (ks := a3p) (rs := a3q) fun x hw hq => ⟨0, ?_⟩
 obtain ⟨(n : Int), (l : List (List Int)), u⟩ := x
 have hn : 0 ≤ n ∧ n ≤ 1000 := hq
 have hl : a0Z l := a2k.1 hw.2.1
 show a8R 0 (n, l, u) = some (a3S l.flatten n.toNat)
 obtain ⟨m, rfl⟩ : ∃ m : Nat, n = m := ⟨n.toNat, by omega⟩
 have e := c8H (b := 256) (Or.inr rfl) (n := m) (by omega) hl
 rw [if_neg (by decide)] at e
 unfold a8R
 dsimp only
 rw [e, Option.bind_some, if_neg (by simp), Int.toNat_natCast]
 rfl
theorem b7h {n : Nat} {l : List (List Int)} (hn : n ≤ 1000) (hl : a0Z l) : J2 ((n : Int), l, ()) = some (a3S l.flatten n) :=
 d8 (ks := a3p) (rs := a3q) (x := ((n : Int), l, ())) (Q := fun x => 0 ≤ x.1 ∧ x.1 ≤ 1000) (f := fun x => a3S x.2.1.flatten x.1.toNat) ⟨d08 ⟨by show 0 ≤ (n : Int); omega, by show (n : Int) ≤ 1000000; omega⟩, a2k.2 hl, trivial⟩ ⟨by show 0 ≤ (n : Int); omega, by show (n : Int) ≤ 1000; omega⟩
theorem d2N : ∀ x r, a8t x = some r → ∃ N, b1T N x = some r := by
 refine d9 (ks := b1U) (rs := a4Z) fun x hw hq => ⟨0, ?_⟩
 obtain ⟨(n : Int), u⟩ := x
 have hn : 0 ≤ n ∧ n ≤ 65535 := hq
 obtain ⟨m, rfl⟩ : ∃ m : Nat, n = m := ⟨n.toNat, by omega⟩
 show b1T 0 ((m : Int), u) = some (c9R m)
 have e : b9g .i64 (m : Int) 8 = ((m / 256 : Nat) : Int) := a9p (k := .i64) (m := m) (s := 8) (by decide)
 unfold b1T c9R
 dsimp only
 rw [e, a99, a99]
 rfl
theorem c5u {n : Nat} (hn : n ≤ 65535) : a8t ((n : Int), ()) = some (c9R n) :=
 d8 (ks := b1U) (rs := a4Z) (x := ((n : Int), ())) ⟨d08 ⟨by show 0 ≤ (n : Int); omega, by show (n : Int) ≤ 1000000; omega⟩, trivial⟩ ⟨by show 0 ≤ (n : Int); omega, by show (n : Int) ≤ 65535; omega⟩
theorem c77 : ∀ x r, a2t x = some r → ∃ N, a6r N x = some r := by
 refine d9 (ks := a1R) (rs := a1S) fun x hw hq => ⟨0, ?_⟩
 obtain ⟨(tr : List Int), (msg : List Int), (ctx : List Int), u⟩ := x
 have h1 : tr.length ≤ maxLen ∧ bytes tr := M8.1 hw.1
 have h2 : msg.length ≤ maxLen ∧ bytes msg := M8.1 hw.2.1
 have h3 : ctx.length ≤ maxLen ∧ bytes ctx := M8.1 hw.2.2.1
 show a6r 0 (tr, msg, ctx, u) = some (c57 tr msg ctx)
 unfold a6r
 dsimp only
 have e1 : List.set (List.set (List.replicate 2 (0 : Int)) 0 0) 1 (IntKind.u8.wrap (ctx.length : Int)) = [0, (ctx.length : Int) % 256] := by rw [a99]; rfl
 have hl : a0Z [tr, [0, (ctx.length : Int) % 256], ctx, msg] := ⟨mB (by simp), fun zs hzs => by
  rcases List.mem_cons.1 hzs with rfl | hzs
  ·exact h1
  rcases List.mem_cons.1 hzs with rfl | hzs
  ·refine ⟨mB (by simp), fun z hz => ?_⟩
   rcases List.mem_cons.1 hz with rfl | hz
   ·omega
   ·rw [List.mem_singleton.1 hz]; omega
  rcases List.mem_cons.1 hzs with rfl | hzs
  ·exact h3
  ·rw [List.mem_singleton.1 hzs]; exact h2⟩
 have e2 := b7h (n := 64) (by omega) hl
 rw [show [tr, [0, (ctx.length : Int) % 256], ctx, msg].flatten = tr ++ [0, (ctx.length : Int) % 256] ++ ctx ++ msg by simp] at e2
 rw [e1, show (64 : Int) = ((64 : Nat) : Int) from rfl, e2, Option.bind_some]
 rfl
theorem c8K {tr msg ctx : List Int} (h1 : tr.length ≤ maxLen ∧ bytes tr) (h2 : msg.length ≤ maxLen ∧ bytes msg) (h3 : ctx.length ≤ maxLen ∧ bytes ctx) : a2t (tr, msg, ctx, ()) = some (c57 tr msg ctx) :=
 d8 (ks := a1R) (rs := a1S) (x := (tr, msg, ctx, ())) ⟨M8.2 h1, M8.2 h2, M8.2 h3, trivial⟩ trivial
end Go.Ax.TryP
set_option linter.unusedVariables false
namespace Go.Ax.TryP
open Go.Proofs
theorem d4a {m n : Nat} (hm : m < 2 ^ 60) (hn : n < 2 ^ 60) : b8M .i64 (m : Int) (n : Int) = ((m &&& n : Nat) : Int) := by
 unfold b8M
 rw [BitVec.toNat_and, a1Y (k := .i64) (by show m < 2 ^ 64; omega), a1Y (k := .i64) (by show n < 2 ^ 64; omega)]
 have h : m &&& n ≤ m := Nat.and_le_left
 exact c7 (by omega) (by omega)
theorem d5V {x : Int} (h0 : 0 ≤ x) (h1 : x < 2 ^ 60) {s : Nat} (hs : s ≤ 60) : b8M .i64 (b9g .i64 x (s : Int)) 1 = c7i x s := by
 obtain ⟨m, rfl⟩ : ∃ m : Nat, x = m := ⟨x.toNat, by omega⟩
 rw [a9p (by show s ≤ 64; omega), c8N, show (1 : Int) = ((1 : Nat) : Int) from rfl, d4a (Nat.lt_of_le_of_lt (Nat.div_le_self _ _) (by omega)) (by decide), d9A]
theorem d8i {w i k : Nat} (l : List Int) (hk : k < w) : pkE w l (i * w + k) = c7i (l.getD i 0) k := by
 unfold pkE
 rw [show (i * w + k) / w = i by rw [Nat.add_comm, Nat.add_mul_div_right _ _ (by omega), Nat.div_eq_of_lt hk, Nat.zero_add], show (i * w + k) % w = k by rw [Nat.add_comm, Nat.add_mul_mod_self_right, Nat.mod_eq_of_lt hk]]
theorem d8j (w : Nat) (l : List Int) (t : Nat) : 0 ≤ pkE w l t ∧ pkE w l t ≤ 1 := d1y _ _
theorem d5n {w : Nat} (h : w ≤ 23) : (2 : Int) ^ w ≤ 8388608 := by
 have h2 : (2 : Nat) ^ w ≤ 8388608 := Nat.le_trans (Nat.pow_le_pow_right (n := 2) (j := 23) (by decide) h) (by decide)
 have h3 : ((2 ^ w : Nat) : Int) = (2 : Int) ^ w := by simp
 rw [← h3]
 omega
theorem c6t : ∀ x r, a4O x = some r → ∃ N, a4V N x = some r := by
 refine d9 (ks := a0M) (rs := a0N) fun x hw hq => ⟨300, ?_⟩
 obtain ⟨(w : Int), (l : List Int), u⟩ := x
 have hw1 : 1 ≤ w ∧ w ≤ 23 := hq.1
 have hin : inW w.toNat l := hq.2
 obtain ⟨d, rfl⟩ : ∃ d : Nat, w = d := ⟨w.toNat, by omega⟩
 have h0 : 1 ≤ d := by omega
 have h1 : d ≤ 23 := by omega
 rw [Int.toNat_natCast] at hin
 have hp := d5n h1
 show a4V 300 ((d : Int), l, u) = some (pkW ((d : Int)).toNat l, 0)
 rw [Int.toNat_natCast]
 have e1 : IntKind.i64.wrap ((32 : Int) * (d : Int)) = ((32 * d : Nat) : Int) := by rw [c7 (by omega) (by omega)]; omega
 have e2 : b0E .i64 (1 : Int) (d : Int) = 2 ^ d := by
  show IntKind.i64.wrap ((1 : Int) * 2 ^ min ((d : Int)).toNat 64) = _
  rw [Int.toNat_natCast, Nat.min_eq_left (by omega), Int.one_mul]
  have : (0 : Int) < 2 ^ d := Int.pow_pos (by omega)
  exact c7 (by omega) (by omega)
 unfold a4V
 dsimp only
 rw [if_neg (by omega), if_neg (by omega), e1, if_pos (by omega), if_pos rfl, if_pos (by omega), Int.toNat_natCast]
 have e0 : List.replicate (32 * d) 0 = a5r (c64 (pkE d l) (0 * d)) (32 * d) := by rw [Nat.zero_mul, c7w]
 rw [e0]
 refine (J0 (F := S3 300) (s := fun i => ((d : Int), 32 * d, l, (i : Int), 32 * d, a5r (c64 (pkE d l) (i * d)) (32 * d), ())) (y := .inr (32 * d, 32 * d, a5r (pkE d l) (32 * d), ())) 256 ?_ ?_ 300 (by omega)).trans rfl
 ·intro i hi kn
  obtain ⟨z0, z1⟩ := hin i hi
  unfold S3
  dsimp only
  rw [if_pos (by omega), if_pos (by omega), if_pos (by omega), Int.toNat_natCast, if_pos (by omega), if_neg (by omega), if_neg (by omega), e2, if_neg (by omega)]
  refine (J0 (F := O7 300) (s := fun k => ((d : Int), 32 * d, (i : Int), l.getD i 0, l, (i : Int), (d : Int), (k : Int), 32 * d, a5r (c64 (pkE d l) (i * d + k)) (32 * d), ()))
   (y := ((d : Int), 32 * d, l, (i : Int), 32 * d, a5r (c64 (pkE d l) (i * d + d)) (32 * d), ())) d ?_ ?_ 300 (by omega)).trans ?_
  ·intro k hk kn
   have hle := d73 (d := d) hi
   have hb := d1y (l.getD i 0) k
   have ee := d8i (i := i) l hk
   have em : (i : Int) * d = ((i * d : Nat) : Int) := by simp
   have ea : ((i * d : Nat) : Int) + k = ((i * d + k : Nat) : Int) := by simp
   have ed : ((i * d + k : Nat) : Int) / 8 = (((i * d + k) / 8 : Nat) : Int) := by omega
   have er : ((i * d + k : Nat) : Int) % 8 = (((i * d + k) % 8 : Nat) : Int) := by omega
   unfold O7
   dsimp only
   rw [if_pos (by omega), em, c7 (x := ((i * d : Nat) : Int)) (by omega) (by omega), ea, c7 (x := ((i * d + k : Nat) : Int)) (by omega) (by omega), a96 (by omega), a97 (by omega), ed, er,
    c7 (x := (((i * d + k) / 8 : Nat) : Int)) (by omega) (by omega)]
   simp (disch := omega) only [if_pos, if_neg, Int.toNat_natCast]
   rw [d5V z0 (by omega) (show k ≤ 60 by omega), b8D hb.1 (by omega), ← ee, c7v (fun t _ => d8j d l t) (by omega), c7 (by omega) (by omega), Int.natCast_add]
   rfl
  ·intro kn
   unfold O7
   dsimp only
   rw [if_neg (by omega)]
  ·dsimp only
   rw [c7 (by omega) (by omega), Int.natCast_add, show (i + 1) * d = i * d + d from Nat.succ_mul i d]
   rfl
 ·intro kn
  unfold S3
  dsimp only
  rw [if_neg (by omega), show 256 * d = 8 * (32 * d) by omega, d0k]
end Go.Ax.TryP
set_option linter.unusedVariables false
namespace Go.Ax.TryP
open Go.Proofs
abbrev d9j (n : Nat) (a : List Int) : Prop := rows (-9223372036854775808) 9223372036854775807 n a
theorem d7e {n : Nat} {a : List Int} : Kd.wf (.xs (.int .i64) n) a ↔ d9j n a := by simp [Kd.wf, rows, u2]
theorem d1r {d : Nat} {l : List Int} (hd : 1 ≤ d ∧ d ≤ 23) (hl : d9j 256 l) (hin : inW d l) : a4O ((d : Int), l, ()) = some (pkW d l, 0) :=
 (d8 (ks := a0M) (rs := a0N) (x := ((d : Int), l, ())) (Q := fun x => (1 ≤ x.1 ∧ x.1 ≤ 23) ∧ inW x.1.toNat x.2.1) (f := fun x => (pkW x.1.toNat x.2.1, 0)) ⟨d08 ⟨by show 0 ≤ (d : Int); omega, by show (d : Int) ≤ 1000000; omega⟩, d7e.2 hl, trivial⟩
  ⟨⟨by show 1 ≤ (d : Int); omega, by show (d : Int) ≤ 23; omega⟩, by show inW ((d : Int)).toNat l; rw [Int.toNat_natCast]; exact hin⟩).trans (by show some (pkW ((d : Int)).toNat l, (0 : Int)) = _; rw [Int.toNat_natCast])
theorem d2b {d : Nat} (hd : d ≤ 23) {l : List Int} (hl : l.length = 256) (h : inW d l) : d9j 256 l := by
 have hp := d5n hd
 refine ⟨hl, fun z hz => ?_⟩
 obtain ⟨i, hi, rfl⟩ := List.mem_iff_getElem.1 hz
 have := h i (by omega)
 rw [List.getD_eq_getElem?_getD, List.getElem?_eq_getElem hi, Option.getD_some] at this
 omega
theorem d4f {a : List Int} (h : a.length = 256) : (List.range 256).map (fun i => a.getD i 0) = a := by
 refine List.ext_getElem (by simp [h]) fun i h1 h2 => ?_
 rw [List.getElem_map, List.getElem_range, List.getD_eq_getElem?_getD, List.getElem?_eq_getElem h2, Option.getD_some]
theorem c6q : ∀ x r, a2G x = some r → ∃ N, a4Q N x = some r := by
 refine d9 (ks := a0F) (rs := a0G) fun x hw hq => ⟨300, ?_⟩
 obtain ⟨(w : Int), (a : List Int), u⟩ := x
 have hw1 : 1 ≤ w ∧ w ≤ 23 := hq.1
 have hin : inW w.toNat (B8 a) := hq.2
 have ha : E6 256 a := v8.1 hw.2.1
 obtain ⟨d, rfl⟩ : ∃ d : Nat, w = d := ⟨w.toNat, by omega⟩
 show a4Q 300 ((d : Int), a, u) = some (pkW ((d : Int)).toNat (B8 a), 0)
 rw [Int.toNat_natCast] at hin ⊢
 have hl : (B8 a).length = 256 := a1A _
 have hat := c34 a
 unfold a4Q
 dsimp only
 rw [b5n ha, Option.bind_some]
 generalize B8 a = r at hin hl hat ⊢
 refine (i8 (F := R8 300) (s := fun i => ((d : Int), r, (i : Int), part (fun i => r.getD i 0) i (List.replicate 256 0), ())) (y := ((d : Int), r, ())) 256 rfl ?_ ?_ 300 (by omega)).trans ?_
 ·intro i hi kn
  have := hat i
  unfold R8
  dsimp only
  rw [if_pos (by omega), if_pos (by omega), if_pos (by omega), Int.toNat_natCast, if_pos (by omega), if_pos (by omega), if_pos (by omega), if_pos (by omega), c7 (x := r.getD i 0) (by omega) (by omega), c7 (by omega) (by omega), u3 (h := fun i => r.getD i 0) (by rw [List.length_replicate]; exact hi) rfl]
  rfl
 ·intro kn
  unfold R8
  dsimp only
  rw [if_neg (by omega), B7 (n := 256) (by rw [List.length_replicate]), d4f hl]
 ·dsimp only
  rw [d1r ⟨by omega, by omega⟩ (d2b (by omega) hl hin) hin, Option.bind_some]
theorem c8F {d : Nat} {a : List Int} (hd : 1 ≤ d ∧ d ≤ 23) (ha : E6 256 a) (hin : inW d (B8 a)) : a2G ((d : Int), a, ()) = some (pkW d (B8 a), 0) :=
 (d8 (ks := a0F) (rs := a0G) (x := ((d : Int), a, ())) (Q := fun x => (1 ≤ x.1 ∧ x.1 ≤ 23) ∧ inW x.1.toNat (B8 x.2.1)) (f := fun x => (pkW x.1.toNat (B8 x.2.1), 0)) ⟨d08 ⟨by show 0 ≤ (d : Int); omega, by show (d : Int) ≤ 1000000; omega⟩, v8.2 ha, trivial⟩
  ⟨⟨by show 1 ≤ (d : Int); omega, by show (d : Int) ≤ 23; omega⟩, by show inW ((d : Int)).toNat _; rw [Int.toNat_natCast]; exact hin⟩).trans (by show some (pkW ((d : Int)).toNat (B8 a), (0 : Int)) = _; rw [Int.toNat_natCast])
end Go.Ax.TryP
set_option linter.unusedVariables false
namespace Go.Ax.TryP
open Go.Proofs
theorem d33 (a : List Int) (i : Nat) : -4190208 ≤ (b39 a).getD i 0 ∧ (b39 a).getD i 0 ≤ 4190208 := by
 by_cases hi : i < 256
 ·rw [b2A hi]; have := d1V (a.getD i 0); omega
 ·have hl : (b39 a).length = 256 := a1A _
  rw [List.getD_eq_getElem?_getD, List.getElem?_eq_none (by omega), Option.getD_none]
  omega
theorem b9V : ∀ x r, n9 x = some r → ∃ N, Y1 N x = some r := by
 refine d9 (ks := K5) (rs := K6) fun x hw hq => ⟨300, ?_⟩
 obtain ⟨(top : Int), (w : Int), (a : List Int), u⟩ := x
 have hw1 : 1 ≤ w ∧ w ≤ 23 := hq.1
 have ht : 0 ≤ top ∧ top ≤ 1000000 := hq.2.1
 have hin : inW w.toNat (a33 top a) := hq.2.2
 have ha : E6 256 a := v8.1 hw.2.2.1
 obtain ⟨d, rfl⟩ : ∃ d : Nat, w = d := ⟨w.toNat, by omega⟩
 show Y1 300 (top, (d : Int), a, u) = some (pkW ((d : Int)).toNat (a33 top a), 0)
 rw [Int.toNat_natCast] at hin ⊢
 have hat := d33 a
 have hl : (a33 top a).length = 256 := a1A _
 have hT : a33 top a = (List.range 256).map fun i => top - (b39 a).getD i 0 := rfl
 unfold Y1
 dsimp only
 rw [c5k ha, Option.bind_some]
 generalize b39 a = r at hat hT ⊢
 refine (i8 (F := E7 300) (s := fun i => (top, (d : Int), r, (i : Int), part (fun i => top - r.getD i 0) i (List.replicate 256 0), ())) (y := ((d : Int), a33 top a, ())) 256 rfl ?_ ?_ 300 (by omega)).trans ?_
 ·intro i hi kn
  have := hat i
  unfold E7
  dsimp only
  rw [if_pos (by omega), if_pos (by omega), if_pos (by omega), Int.toNat_natCast, if_pos (by omega), if_pos (by omega), if_pos (by omega), if_pos (by omega), c7 (x := r.getD i 0) (by omega) (by omega), c7 (x := top) (by omega) (by omega), c7 (x := top - r.getD i 0) (by omega) (by omega), c7 (by omega) (by omega), u3 (h := fun i => top - r.getD i 0) (by rw [List.length_replicate]; exact hi) rfl]
  rfl
 ·intro kn
  unfold E7
  dsimp only
  rw [if_neg (by omega), B7 (n := 256) (by rw [List.length_replicate]), hT]
 ·dsimp only
  rw [d1r ⟨by omega, by omega⟩ (d2b (by omega) hl hin) hin, Option.bind_some]
theorem a9f {top : Int} {d : Nat} {a : List Int} (hd : 1 ≤ d ∧ d ≤ 23) (ht : 0 ≤ top ∧ top ≤ 1000000) (ha : E6 256 a) (hin : inW d (a33 top a)) : n9 (top, (d : Int), a, ()) = some (pkW d (a33 top a), 0) :=
 (d8 (ks := K5) (rs := K6) (x := (top, (d : Int), a, ())) (Q := fun x => (1 ≤ x.2.1 ∧ x.2.1 ≤ 23) ∧ (0 ≤ x.1 ∧ x.1 ≤ 1000000) ∧ inW x.2.1.toNat (a33 x.1 x.2.2.1)) (f := fun x => (pkW x.2.1.toNat (a33 x.1 x.2.2.1), 0)) ⟨s9.2 (by omega), d08 ⟨by show 0 ≤ (d : Int); omega, by show (d : Int) ≤ 1000000; omega⟩, v8.2 ha, trivial⟩
  ⟨⟨by show 1 ≤ (d : Int); omega, by show (d : Int) ≤ 23; omega⟩, ht, by show inW ((d : Int)).toNat _; rw [Int.toNat_natCast]; exact hin⟩).trans (by show some (pkW ((d : Int)).toNat (a33 top a), (0 : Int)) = _; rw [Int.toNat_natCast])
end Go.Ax.TryP
set_option linter.unusedVariables false
namespace Go.Ax.TryP
open Go.Proofs
def P7 (f : Nat → List Int) : Nat → List Int
 | 0 => []
 | n + 1 => P7 f n ++ f n
theorem a0k {f : Nat → List Int} {w : Nat} : ∀ {n : Nat}, (∀ i, i < n → (f i).length = w) → (P7 f n).length = n * w
 | 0, _ => by simp [P7]
 | n + 1, h => by
  rw [P7, List.length_append, a0k fun i hi => h i (by omega), h n (by omega), Nat.succ_mul]
theorem c7Q {A B C : List Int} {i : Nat} (hA : A.length = i * 256) (hB : B.length = 256) : List.take 256 (List.drop (i * 256) (A ++ B ++ C)) = B := by
 rw [List.append_assoc, List.drop_left' hA, List.take_left' hB]
theorem d2t {A B C v : List Int} {i : Nat} (hA : A.length = i * 256) (hB : B.length = 256) : List.take (i * 256) (A ++ B ++ C) ++ v ++ List.drop (i * 256 + 256) (A ++ B ++ C) = A ++ v ++ C := by
 rw [List.append_assoc A B C, List.take_left' hA, ← List.append_assoc A B C, List.drop_left' (by rw [List.length_append, hA, hB])]
def a1h (f : Nat → List Int) (z : List Int) (i : Nat) : List Int := P7 f i ++ z.drop (i * 256)
theorem c0z {z : List Int} {n i : Nat} (hz : z.length = n * 256) (hi : i < n) : z.drop (i * 256) = chD z i ++ z.drop ((i + 1) * 256) := by
 unfold chD
 rw [Nat.succ_mul, ← List.drop_drop, List.take_append_drop]
theorem c3S {z : List Int} {n i : Nat} (hz : z.length = n * 256) (hi : i < n) : (chD z i).length = 256 := by
 have : (i + 1) * 256 ≤ n * 256 := Nat.mul_le_mul_right _ hi
 unfold chD
 rw [List.length_take, List.length_drop, hz]
 omega
theorem D9 (f : Nat → List Int) (z : List Int) : a1h f z 0 = z := by simp [a1h, P7]
theorem P5 {f : Nat → List Int} {z : List Int} {n : Nat} (hz : z.length = n * 256) : a1h f z n = P7 f n := by
 unfold a1h
 rw [List.drop_eq_nil_of_le (by omega), List.append_nil]
theorem c6j {f : Nat → List Int} {z : List Int} {n i : Nat} (hz : z.length = n * 256) (hf : ∀ j, j < n → (f j).length = 256) (hi : i < n) : List.take 256 (List.drop (i * 256) (a1h f z i)) = chD z i := by
 unfold a1h
 rw [c0z hz hi, ← List.append_assoc]
 exact c7Q (a0k fun j hj => hf j (by omega)) (c3S hz hi)
theorem P6 {f : Nat → List Int} {z : List Int} {n i : Nat} (hz : z.length = n * 256) (hf : ∀ j, j < n → (f j).length = 256) (hi : i < n) : List.take (i * 256) (a1h f z i) ++ f i ++ List.drop (i * 256 + 256) (a1h f z i) = a1h f z (i + 1) := by
 unfold a1h
 rw [c0z hz hi, ← List.append_assoc, d2t (a0k fun j hj => hf j (by omega)) (c3S hz hi)]
 rfl
theorem d3Z {f : Nat → List Int} {n : Nat} (h : ∀ j, j < n → (f j).length = 256) : List.drop (n * 256) (P7 f n ++ f n) = f n := List.drop_left' (a0k h)
theorem a9h {f : Nat → List Int} : ∀ {n i : Nat}, (∀ j, j < n → (f j).length = 256) → i < n → chD (P7 f n) i = f i
 | 0, i, _, hi => absurd hi (Nat.not_lt_zero i)
 | n + 1, i, h, hi => by
  by_cases e : i = n
  ·rw [e]
   have hn := h n (Nat.lt_succ_self n)
   unfold chD P7
   rw [d3Z fun j hj => h j (Nat.lt_succ_of_lt hj)]
   exact List.take_of_length_le (Nat.le_of_eq hn)
  ·have ih := a9h (f := f) (n := n) (i := i) (fun j hj => h j (Nat.lt_succ_of_lt hj)) (by omega)
   have hl := a0k (f := f) (w := 256) (n := n) fun j hj => h j (Nat.lt_succ_of_lt hj)
   have h3 : (i + 1) * 256 ≤ n * 256 := Nat.mul_le_mul_right 256 (show i + 1 ≤ n by omega)
   rw [Nat.succ_mul] at h3
   have h1 : i * 256 ≤ (P7 f n).length := by rw [hl]; exact Nat.le_trans (Nat.le_add_right _ _) h3
   have h2 : 256 ≤ (List.drop (i * 256) (P7 f n)).length := by rw [List.length_drop, hl]; exact Nat.le_sub_of_add_le (by rw [Nat.add_comm]; exact h3)
   unfold chD at ih ⊢
   rw [P7, List.drop_append_of_le_length h1, List.take_append_of_le_length h2, ih]
end Go.Ax.TryP
set_option linter.unusedVariables false
namespace Go.Ax.TryP
open Go.Proofs
theorem a58 {z : List Int} {n i : Nat} (hz : E6 (n * 256) z) (hi : i < n) : E6 256 (chD z i) := ⟨c3S hz.1 hi, fun x hx => hz.2 x (List.mem_of_mem_drop (List.mem_of_mem_take hx))⟩
theorem a6I (w : Nat) (l : List Int) : (pkW w l).length = 32 * w := a8r _ _
theorem b2h (w : Nat) (l : List Int) : bytes (pkW w l) := fun z hz => by
 obtain ⟨j, _, rfl⟩ := List.mem_map.1 hz
 have := c3E (n := 8) (c := fun s => pkE w l (8 * j + s)) fun s _ => d8j w l _
 have h8 : (2 : Int) ^ 8 = 256 := by decide
 omega
theorem c0B (mu high : List Int) : c3T mu high = mu ++ P7 (fun r => pkW 4 (B8 (chD high r))) 6 := by
 unfold c3T
 rw [show List.range 6 = [0, 1, 2, 3, 4, 5] from rfl]
 simp [P7]
theorem J7 {a b : List Int} (ha : bytes a) (hb : bytes b) : bytes (a ++ b) := fun z hz => by
 rcases List.mem_append.1 hz with h | h
 ·exact ha z h
 ·exact hb z h
theorem a8e {f : Nat → List Int} (h : ∀ i, bytes (f i)) : ∀ n, bytes (P7 f n)
 | 0 => fun z hz => by simp [P7] at hz
 | n + 1 => J7 (a8e h n) (h n)
theorem c1Y : ∀ x r, a0z x = some r → ∃ N, a0R N x = some r := by
 refine d9 (ks := O8) (rs := O9) fun x hw hq => ⟨10, ?_⟩
 obtain ⟨(mu : List Int), (high : List Int), u⟩ := x
 have hmu : mu.length ≤ maxLen ∧ bytes mu := M8.1 hw.1
 have hh : E6 (6 * 256) high := v8.1 hw.2.1
 have hl : mu.length ≤ 1000 := hq.1
 have hin : ∀ r, r < 6 → inW 4 (B8 (chD high r)) := hq.2
 show a0R 10 (mu, high, u) = some (c2q mu high)
 have hj := c0p (l := [mu]) ⟨by simp, by simp; omega⟩ ⟨mB (by simp), fun zs hzs => by rw [List.mem_singleton.1 hzs]; exact hmu⟩
 rw [show [mu].flatten = mu by simp] at hj
 unfold a0R
 dsimp only
 rw [hj, Option.bind_some]
 have hF : ∀ n, (P7 (fun r => pkW 4 (B8 (chD high r))) n).length = n * 128 := fun n => a0k fun i _ => a6I 4 _
 refine (i8 (F := H9 10) (s := fun i => (mu.length + i * 128, (i : Int), high, mu.length + i * 128, mu ++ P7 (fun r => pkW 4 (B8 (chD high r))) i, ())) (y := .inr (mu.length + 6 * 128, mu.length + 6 * 128, c3T mu high, ())) 6 (by simp [P7]) ?_ ?_ 10 (by omega)).trans ?_
 ·intro i hi kn
  have hc : List.take 256 (List.drop (i * 256) high) = chD high i := rfl
  unfold H9
  dsimp only
  have e4 := c8F (d := 4) (by omega) (a58 hh hi) (hin i hi)
  rw [if_pos (by omega), if_pos (by omega), if_pos (by omega), Int.toNat_natCast, if_pos (by omega), hc, show (4 : Int) = ((4 : Nat) : Int) from rfl, e4, Option.bind_some]
  dsimp only
  rw [if_neg (by simp), a6I, if_pos (by omega), c7 (by omega) (by omega), List.append_assoc, show mu.length + i * 128 + 32 * 4 = mu.length + (i + 1) * 128 by omega]
  rfl
 ·intro kn
  unfold H9
  dsimp only
  rw [if_neg (by omega), c0B]
 ·dsimp only
  have hb : bytes (c3T mu high) := by rw [c0B]; exact J7 hmu.2 (a8e (fun i => b2h 4 _) 6)
  have hlen : (c3T mu high).length ≤ maxLen := mB (by rw [c0B, List.length_append, hF]; omega)
  have e := b7h (n := 48) (l := [c3T mu high]) (by omega) ⟨mB (by simp), fun zs hzs => by rw [List.mem_singleton.1 hzs]; exact ⟨hlen, hb⟩⟩
  rw [show [c3T mu high].flatten = c3T mu high by simp] at e
  rw [show (48 : Int) = ((48 : Nat) : Int) from rfl, e, Option.bind_some]
  rfl
end Go.Ax.TryP
set_option linter.unusedVariables false
namespace Go.Ax.TryP
open Go.Proofs
theorem a5T (m y : List Int) (r : Nat) : ∀ s, E6 256 (b7b m y r s)
 | 0 => rows.zero (by omega) 256
 | s + 1 => b1r _ _
theorem a4i {f : Nat → List Int} (h : ∀ i, E6 256 (f i)) : ∀ n, E6 (n * 256) (P7 f n)
 | 0 => ⟨by simp [P7], fun z hz => by simp [P7] at hz⟩
 | n + 1 => ⟨a0k fun i _ => (h i).1, fun z hz => by
  rcases List.mem_append.1 hz with hz | hz
  ·exact (a4i h n).2 z hz
  ·exact (h n).2 z hz⟩
theorem d3R {i : Nat} (hi : i < 6) : chD (List.replicate 1536 0) i = List.replicate 256 0 := by
 unfold chD
 rw [List.drop_replicate, List.take_replicate, Nat.min_eq_left (by omega)]
theorem d7N (m : List Int) (r s : Nat) : List.take 256 (List.drop (r * 1280 + s * 256) m) = chD m (r * 5 + s) := by
 unfold chD
 rw [show (r * 5 + s) * 256 = r * 1280 + s * 256 by omega]
theorem c3X {a : List Int} (h : dred a) : E6 256 a := ⟨h.1, fun z hz => by
 obtain ⟨i, hi, rfl⟩ := List.mem_iff_getElem.1 hz
 have := h.2 i
 rw [List.getD_eq_getElem?_getD, List.getElem?_eq_getElem hi, Option.getD_some] at this
 omega⟩
theorem c33 (a : List Int) : E6 256 (a05 a) := c3X (b1i a)
theorem c3h (a b : List Int) : E6 256 (a6d a b) := c3X (a59 fun i _ => by omega)
theorem b47 : ∀ x r, J9 x = some r → ∃ N, L5 N x = some r := by
 refine d9 (ks := C8) (rs := C9) fun x hw hq => ⟨10, ?_⟩
 obtain ⟨(m : List Int), (y : List Int), u⟩ := x
 have hm : E6 (30 * 256) m := v8.1 hw.1
 have hy : E6 (5 * 256) y := v8.1 hw.2.1
 show L5 10 (m, y, u) = some (a93 m y)
 have hF : ∀ j, j < 5 → (a05 (chD y j)).length = 256 := fun j _ => (c33 _).1
 have hG : ∀ j, j < 6 → (b7b m y j 5).length = 256 := fun j _ => (a5T m y j 5).1
 have hZ : (List.replicate 1536 (0 : Int)).length = 6 * 256 := by rw [List.length_replicate]
 unfold L5
 dsimp only
 generalize hz : List.replicate 1536 (0 : Int) = Z at hZ
 refine (i8 (F := x7 10) (s := fun i => ((i : Int), m, a1h (fun j => a05 (chD y j)) y i, Z, ())) (y := (m, P7 (fun j => a05 (chD y j)) 5, Z, ())) 5 (by rw [D9]; rfl) ?_ ?_ 10 (by omega)).trans ?_
 ·intro i hi kn
  unfold x7
  dsimp only
  rw [if_pos (by omega), if_pos (by omega), if_pos (by omega), Int.toNat_natCast, if_pos (by omega), c6j hy.1 hF hi, c0o (a58 hy hi), Option.bind_some, if_pos (by omega), if_pos (by omega), if_pos (by omega), c7 (by omega) (by omega)]
  exact congrArg kn (by rw [P6 (f := fun j => a05 (chD y j)) hy.1 hF hi]; rfl)
 ·intro kn
  unfold x7
  dsimp only
  rw [if_neg (by omega), P5 hy.1]
 dsimp only
 refine (i8 (F := x8 10) (s := fun r => ((r : Int), m, P7 (fun j => a05 (chD y j)) 5, Z, a1h (fun r => b7b m y r 5) Z r, ())) (y := (Z, P7 (fun r => b7b m y r 5) 6, ())) 6 (by rw [D9]; rfl) ?_ ?_ 10 (by omega)).trans ?_
 ·intro r hr kn
  have hA : (P7 (fun r => b7b m y r 5) r).length = r * 256 := a0k fun j _ => (a5T m y j 5).1
  unfold x8
  dsimp only
  rw [if_pos (by omega)]
  refine (i8 (F := v7 10) (s := fun s => ((r : Int), (r : Int), (s : Int), m, P7 (fun j => a05 (chD y j)) 5, Z, P7 (fun r => b7b m y r 5) r ++ b7b m y r s ++ Z.drop ((r + 1) * 256), ())) (y := ((r : Int), m, P7 (fun j => a05 (chD y j)) 5, Z, P7 (fun r => b7b m y r 5) r ++ b7b m y r 5 ++ Z.drop ((r + 1) * 256), ())) 5 ?_ ?_ ?_ 10 (by omega)).trans ?_
  ·have : a1h (fun r => b7b m y r 5) Z r = P7 (fun r => b7b m y r 5) r ++ b7b m y r 0 ++ Z.drop ((r + 1) * 256) := by
    unfold a1h
    rw [c0z hZ hr, ← List.append_assoc, ← hz, d3R hr]
    rfl
   rw [this]
   rfl
  ·intro s hs kn
   have hB := (a5T m y r s).1
   have he : r * 5 + s < 30 := by omega
   unfold v7
   dsimp only
   rw [if_pos (by omega), if_pos (by omega), if_pos (by omega), Int.toNat_natCast, if_pos (by omega), if_pos (by omega), if_pos (by omega), if_pos (by omega), if_pos (by omega), Int.toNat_natCast, if_pos (by omega), if_pos (by omega), if_pos (by omega), if_pos (by omega), d7N, show List.take 256 (List.drop (s * 256) (P7 (fun j => a05 (chD y j)) 5)) = a05 (chD y s) from a9h hF hs,
    c0q (a58 hm he) (c33 _), Option.bind_some, c7Q hA hB, c5j (a5T m y r s) (c3h _ _), Option.bind_some, if_pos (by omega), if_pos (by omega), if_pos (by omega), c7 (by omega) (by omega), d2t hA hB]
   rfl
  ·intro kn
   unfold v7
   dsimp only
   rw [if_neg (by omega)]
  ·dsimp only
   rw [c7 (by omega) (by omega)]
   rfl
 ·intro kn
  unfold x8
  dsimp only
  rw [if_neg (by omega), P5 hZ]
 ·rfl
end Go.Ax.TryP
set_option linter.unusedVariables false
namespace Go.Ax.TryP
open Go.Proofs
theorem c32 (a : List Int) : E6 256 (b4a a) := c3X (c5K a)
theorem d2O (m y : List Int) : E6 (6 * 256) (a93 m y) := a4i (f := fun r => b7b m y r 5) (fun r => a5T m y r 5) 6
theorem c9P (m y : List Int) : E6 (6 * 256) (b0x m y) := a4i (f := fun r => b4a (b7b m y r 5)) (fun r => c32 _) 6
theorem c5t {m y : List Int} (hm : E6 (30 * 256) m) (hy : E6 (5 * 256) y) : J9 (m, y, ()) = some (a93 m y) :=
 d8 (ks := C8) (rs := C9) (x := (m, y, ())) ⟨v8.2 hm, v8.2 hy, trivial⟩ trivial
theorem b6P : ∀ x r, N7 x = some r → ∃ N, P1 N x = some r := by
 refine d9 (ks := F5) (rs := F6) fun x hw hq => ⟨10, ?_⟩
 obtain ⟨(m : List Int), (y : List Int), u⟩ := x
 have hm : E6 (30 * 256) m := v8.1 hw.1
 have hy : E6 (5 * 256) y := v8.1 hw.2.1
 show P1 10 (m, y, u) = some (b0x m y)
 have hR := d2O m y
 have hF : ∀ j, j < 6 → (b4a (b7b m y j 5)).length = 256 := fun j _ => (c32 _).1
 have hc : ∀ j, j < 6 → chD (a93 m y) j = b7b m y j 5 := fun j hj => a9h (f := fun r => b7b m y r 5) (fun j _ => (a5T m y j 5).1) hj
 unfold P1
 dsimp only
 rw [c5t hm hy, Option.bind_some]
 generalize List.replicate 1536 (0 : Int) = Z
 refine (i8 (F := A9 10) (s := fun i => ((i : Int), Z, a1h (fun j => b4a (b7b m y j 5)) (a93 m y) i, ())) (y := (Z, b0x m y, ())) 6 (by rw [D9]; rfl) ?_ ?_ 10 (by omega)).trans rfl
 ·intro i hi kn
  unfold A9
  dsimp only
  rw [if_pos (by omega), if_pos (by omega), if_pos (by omega), Int.toNat_natCast, if_pos (by omega), c6j hR.1 hF hi, hc i hi, c7a (a5T m y i 5), Option.bind_some, if_pos (by omega), if_pos (by omega), if_pos (by omega), c7 (by omega) (by omega)]
  exact congrArg kn (by rw [P6 (f := fun j => b4a (b7b m y j 5)) hR.1 hF hi]; rfl)
 ·intro kn
  unfold A9
  dsimp only
  rw [if_neg (by omega), P5 hR.1]
  rfl
end Go.Ax.TryP
set_option linter.unusedVariables false
namespace Go.Ax.TryP
open Go.Proofs
theorem c4f {X Y β : Type} (F : (β : Type) → X → (X → Option β) → (Y → Option β) → Option β) (n : Nat) (x : X) (k : Y → Option β) : m7 F (n + 1) x k = F β x (fun x' => m7 F n x' k) k := rfl
theorem c05 {X Y β : Type} {F : (β : Type) → X → (X → Option β) → (Y → Option β) → Option β} {K : Y → Option β} (s : Nat → X) (c : Nat → Prop) (bad fine : Y) (n : Nat)
  (h1 : ∀ i, i < n → ∀ kn : X → Option β, (c i → F β (s i) kn K = kn (s (i + 1))) ∧ (¬ c i → F β (s i) kn K = K bad)) (h2 : ∀ kn : X → Option β, F β (s n) kn K = K fine) :
  ∀ j i m : Nat, i + j = n → j < m → ((∀ k, i ≤ k → k < n → c k) → m7 F m (s i) K = K fine) ∧ (¬ (∀ k, i ≤ k → k < n → c k) → m7 F m (s i) K = K bad)
 | 0, i, m + 1, hi, _ => by
  have e : i = n := by omega
  subst e
  exact ⟨fun _ => h2 _, fun h => absurd (fun k h1 h2 => by omega) h⟩
 | j + 1, i, m + 1, hi, hm => by
  rw [c4f]
  obtain ⟨g1, g2⟩ := h1 i (by omega) (fun x' => m7 F m x' K)
  obtain ⟨f1, f2⟩ := c05 (F := F) (K := K) s c bad fine n h1 h2 j (i + 1) m (by omega) (by omega)
  refine ⟨fun h => ?_, fun h => ?_⟩
  ·rw [g1 (h i (by omega) (by omega))]
   exact f1 fun k hk1 hk2 => h k (by omega) hk2
  ·by_cases hc : c i
   ·rw [g1 hc]
    refine f2 fun hh => h fun k hk1 hk2 => ?_
    by_cases e : k = i
    ·subst e; exact hc
    ·exact hh k (by omega) hk2
   ·exact g2 hc
end Go.Ax.TryP
set_option linter.unusedVariables false
namespace Go.Ax.TryP
open Go.Proofs
theorem c69 {f : Nat → List Int} {p : Int → Prop} (h : ∀ t, ∀ z ∈ f t, p z) : ∀ t, ∀ z ∈ a1k f t, p z
 | 0, z, hz => by simp [a1k] at hz
 | t + 1, z, hz => by
  rcases List.mem_append.1 hz with hz | hz
  ·exact c69 h t z hz
  ·exact h t z hz
theorem d8e (s : List Int) (t : Nat) : ∀ z ∈ b1C s t, 0 ≤ z ∧ z < 8380417 := by
 intro z hz
 unfold b1C at hz
 split at hz
 ·rename_i h
  rw [List.mem_singleton] at hz
  subst hz
  refine ⟨?_, h⟩
  have h1 := d0Y s (3 * t)
  have h2 := d0Y s (3 * t + 1)
  have h3 := d0Y s (3 * t + 2)
  unfold c2p
  omega
 ·simp at hz
theorem c9W : E6 256 (List.replicate 256 0) := rows.zero (by omega) 256
theorem d8n (s : List Int) : E6 256 (d2R s).1 := by
 unfold d2R
 split
 ·exact c9W
 ·split
  ·exact c9W
  ·rename_i h
   generalize hA : a1k (b1C s) 1024 = A at h
   refine ⟨?_, fun z hz => ?_⟩
   ·have h' : 256 ≤ A.length := Nat.le_of_not_lt h
    dsimp only
    rw [List.length_take, Nat.min_eq_left h']
   ·have hz1 : z ∈ A.take 256 := hz
    have hz2 : z ∈ A := List.mem_of_mem_take hz1
    rw [← hA] at hz2
    have := c69 (d8e s) 1024 z hz2
    omega
theorem d8m {s : List Int} (h : s.length = 34) : (d2R s).2 = 0 ∨ (d2R s).2 = 130 := by
 unfold d2R
 rw [if_neg (by rw [h]; decide)]
 split
 ·exact .inr rfl
 ·exact .inl rfl
theorem c5P (rho : List Int) (r s : Nat) : E6 256 (c47 rho r s).1 := d8n _
theorem c9Z {b : List Int} (hb : b.length ≤ maxLen ∧ bytes b) : Z8 (b, ()) = some (d2R b) := d8 (ks := R9) (rs := S0) (x := (b, ())) ⟨M8.2 hb, trivial⟩ trivial
theorem c3N {a : List Int} {e : Int} (ha : E6 256 a) (he : 0 ≤ e ∧ e ≤ 1000000) : a5V (a, e, ()) = some (decide (e ≠ 0), e, a) := b5k (ks := a3s) (rs := a3t) (x := (a, e, ())) (Q := fun _ => True) (f := fun x => (decide (x.2.1 ≠ 0), x.2.1, x.1)) ⟨v8.2 ha, d08 he, trivial⟩ trivial
end Go.Ax.TryP
set_option linter.unusedVariables false
namespace Go.Ax.TryP
open Go.Proofs
theorem d5q {rho : List Int} (hr : rho.length = 32 ∧ bytes rho) {r s : Nat} (h1 : r < 6) (h2 : s < 5) : c6I [rho, [(s : Int), (r : Int)]] := ⟨mB (by simp), fun zs hzs => by
 rcases List.mem_cons.1 hzs with rfl | hzs
 ·exact ⟨mB (by omega), hr.2⟩
 ·rw [List.mem_singleton.1 hzs]
  refine ⟨mB (by simp), fun z hz => ?_⟩
  rcases List.mem_cons.1 hz with rfl | hz
  ·omega
  ·rw [List.mem_singleton.1 hz]; omega⟩
theorem d1t {rho : List Int} (hr : rho.length = 32 ∧ bytes rho) {r s : Nat} (h1 : r < 6) (h2 : s < 5) : m6 ([rho, [(s : Int), (r : Int)]], ()) = some (rho ++ [(s : Int), (r : Int)]) := by
 have h := c0p (l := [rho, [(s : Int), (r : Int)]]) ⟨by simp, by simp [hr.1]⟩ (d5q hr h1 h2)
 rw [h]
 simp
theorem c7e {rho : List Int} (hr : rho.length = 32 ∧ bytes rho) {r s : Nat} (h1 : r < 6) (h2 : s < 5) : Z8 (rho ++ [(s : Int), (r : Int)], ()) = some (c47 rho r s) :=
 c9Z ⟨mB (by rw [List.length_append, hr.1]; simp), J7 hr.2 ((d5q hr h1 h2).2 _ (by simp)).2⟩
theorem d7M {rho : List Int} (hr : rho.length = 32) (r s : Nat) : (c47 rho r s).2 = 0 ∨ (c47 rho r s).2 = 130 := d8m (by rw [List.length_append, hr]; rfl)
end Go.Ax.TryP
set_option linter.unusedVariables false
namespace Go.Ax.TryP
open Go.Proofs
def d1U (rho : List Int) (k : Nat) : List Int := (c47 rho (k / 5) (k % 5)).1
theorem d6b {rho : List Int} {r s : Nat} (hs : s < 5) : d1U rho (r * 5 + s) = (c47 rho r s).1 := by
 unfold d1U
 rw [show (r * 5 + s) / 5 = r by omega, show (r * 5 + s) % 5 = s by omega]
theorem c9l (rho : List Int) : c1b rho = P7 (d1U rho) 30 := by
 simp only [c1b, d8Y, d9L, P7, List.nil_append, List.append_assoc]
 rfl
theorem d32 (rho : List Int) (k : Nat) : (d1U rho k).length = 256 := (c5P _ _ _).1
theorem d2q (rho : List Int) : E6 (30 * 256) (c1b rho) := by rw [c9l]; exact a4i (fun k => c5P _ _ _) 30
theorem d6L {rho : List Int} {r s : Nat} (h : (c47 rho r s).2 = 0) : xg (a5V ((c47 rho r s).1, (c47 rho r s).2, ())) = some (c47 rho r s).1 := by
 rw [h, c3N (c5P rho r s) (by omega)]
 rfl
theorem d7O {rho Z : List Int} (hr : rho.length = 32 ∧ bytes rho) (hZ : Z.length = 30 * 256) {r : Nat} (h6 : r < 6) {β : Type} (K : (Int × Unit) ⊕ (Nat × Int × Nat × List Int × List Int × Unit) → Option β) :
  ((∀ s, s < 5 → (c47 rho r s).2 = 0) → m7 (x6 10) 10 (32, (r : Int), (r : Int), (0 : Int), 32, rho, a1h (d1U rho) Z (r * 5), ()) K = K (.inr (32, (r : Int), 32, rho, a1h (d1U rho) Z ((r + 1) * 5), ()))) ∧
  (¬ (∀ s, s < 5 → (c47 rho r s).2 = 0) → m7 (x6 10) 10 (32, (r : Int), (r : Int), (0 : Int), 32, rho, a1h (d1U rho) Z (r * 5), ()) K = K (.inl (130, ()))) := by
 have h := c05 (F := x6 10) (K := K) (fun i => (32, (r : Int), (r : Int), (i : Int), 32, rho, a1h (d1U rho) Z (r * 5 + i), ())) (fun s => (c47 rho r s).2 = 0) (.inl (130, ())) (.inr (32, (r : Int), 32, rho, a1h (d1U rho) Z ((r + 1) * 5), ())) 5
  (fun s hs kn => by
   have e1 : List.set (List.set (List.replicate 2 (0 : Int)) 0 (IntKind.u8.wrap (s : Int))) 1 (IntKind.u8.wrap (r : Int)) = [(s : Int), (r : Int)] := by rw [b8D (by omega) (by omega), b8D (by omega) (by omega)]; rfl
   have hk : r * 5 + s < 30 := by omega
   constructor
   ·intro hc
    unfold x6
    dsimp only
    rw [if_pos (by omega), e1, d1t hr h6 hs, Option.bind_some, c7e hr h6 hs, Option.bind_some, if_pos (by omega), if_pos (by omega)]
    rw [c3N (c5P rho r s) (by omega), Option.bind_some, hc]
    rw [if_neg (by simp), Option.bind_some, c7e hr h6 hs, Option.bind_some, d6L hc]
    rw [Option.bind_some, if_pos (by omega), if_pos (by omega), if_pos (by omega), if_pos (by omega), Int.toNat_natCast, Int.toNat_natCast, show r * 1280 + s * 256 = (r * 5 + s) * 256 by omega, if_pos (by omega), c7 (by omega) (by omega), ← d6b hs, P6 (f := d1U rho) hZ (fun j _ => d32 rho j) hk]
    rfl
   ·intro hc
    have he : (c47 rho r s).2 = 130 := (d7M hr.1 r s).resolve_left hc
    unfold x6
    dsimp only
    rw [if_pos (by omega), e1, d1t hr h6 hs, Option.bind_some, c7e hr h6 hs, Option.bind_some, if_pos (by omega), if_pos (by omega), c3N (c5P rho r s) (by omega), Option.bind_some, he]
    rfl)
  (fun kn => by
   unfold x6
   dsimp only
   rw [if_neg (by omega), show r * 5 + 5 = (r + 1) * 5 by omega]) 5 0 10 (by omega) (by omega)
 exact ⟨fun hh => h.1 fun k _ hk => hh k hk, fun hh => h.2 fun hh' => hh fun s hs => hh' s (Nat.zero_le _) hs⟩
end Go.Ax.TryP
set_option linter.unusedVariables false
namespace Go.Ax.TryP
open Go.Proofs
theorem d5h {rho Z : List Int} (hr : rho.length = 32 ∧ bytes rho) (hZ : Z.length = 30 * 256) {β : Type} (K : (Int × Unit) ⊕ (List Int × Unit) → Option β) :
  (a3L rho → m7 (x5 10) 10 (32, (0 : Int), 32, rho, Z, ()) K = K (.inr (c1b rho, ()))) ∧
  (¬ a3L rho → m7 (x5 10) 10 (32, (0 : Int), 32, rho, Z, ()) K = K (.inl (130, ()))) := by
 have h := c05 (F := x5 10) (K := K) (fun r => (32, (r : Int), 32, rho, a1h (d1U rho) Z (r * 5), ())) (fun r => ∀ s, s < 5 → (c47 rho r s).2 = 0) (.inl (130, ())) (.inr (c1b rho, ())) 6
  (fun r hr6 kn => by
   constructor
   ·intro hc
    unfold x5
    dsimp only
    rw [if_pos (by omega)]
    refine ((d7O hr hZ hr6 _).1 hc).trans ?_
    dsimp only
    rw [c7 (by omega) (by omega)]
    rfl
   ·intro hc
    unfold x5
    dsimp only
    rw [if_pos (by omega)]
    exact (d7O hr hZ hr6 _).2 hc)
  (fun kn => by
   unfold x5
   dsimp only
   rw [if_neg (by omega), c9l, show 6 * 5 = 30 from rfl, P5 hZ]) 6 0 10 (by omega) (by omega)
 rw [Nat.zero_mul, D9] at h
 exact ⟨fun hh => h.1 fun r _ hr6 => hh r hr6, fun hh => h.2 fun hh' => hh fun r hr6 => hh' r (Nat.zero_le _) hr6⟩
theorem b5q {rho : List Int} (h : a3L rho) : b1f rho = false := by unfold b1f; exact @decide_eq_false _ (Classical.propDecidable _) (fun hh => hh h)
theorem b2w {rho : List Int} (h : ¬ a3L rho) : b1f rho = true := by unfold b1f; exact @decide_eq_true _ (Classical.propDecidable _) h
theorem c6w : ∀ x r, N6 x = some r → ∃ N, a7p N x = some (xr r) := by
 refine b5l (ks := a0S) (rs := a0T) fun x hw hq => ⟨10, ?_⟩
 obtain ⟨(rho : List Int), u⟩ := x
 have hl : rho.length = 32 := hq
 have hb : rho.length ≤ maxLen ∧ bytes rho := M8.1 hw.1
 have hZ : (List.replicate 7680 (0 : Int)).length = 30 * 256 := by rw [List.length_replicate]
 unfold a7p
 dsimp only
 rw [hl]
 generalize List.replicate 7680 (0 : Int) = Z at hZ
 by_cases hc : a3L rho
 ·refine ((d5h ⟨hl, hb.2⟩ hZ _).1 hc).trans ?_
  rw [b5q hc]
  rfl
 ·refine ((d5h ⟨hl, hb.2⟩ hZ _).2 hc).trans ?_
  rw [b2w hc]
  rfl
theorem c0u {rho : List Int} (hr : rho.length = 32 ∧ bytes rho) : N6 (rho, ()) = some (b1f rho, 130, (c1b rho, ())) :=
 b5k (ks := a0S) (rs := a0T) (x := (rho, ())) (Q := fun x => x.1.length = 32) (f := fun x => (b1f x.1, 130, (c1b x.1, ()))) ⟨M8.2 ⟨mB (by rw [hr.1]; omega), hr.2⟩, trivial⟩ hr.1
end Go.Ax.TryP
