/- A part of the proof: DfS, DfP, DfQ0, DfQ1, DfQ2, DfQ3, DfQ4, DfQ5, DfQ6, DfQ7, DfQ8, DfQ9, DfQ10, DfQ11, DfQ12, DfQ13. -/
import Derived.Test.YtbcjbgjidddnaaaDsaC
set_option linter.unusedVariables false
namespace Go.Ax.TryP
open Go.Proofs
noncomputable def c3G {ks rs : List Kd} (Q : Ds ks → Prop) (f : Ds ks → Bool × Int × Rs rs) : Ds ks → Option (Bool × Int × Rs rs) := fun x => @ite _ (a42 ks x ∧ Q x) (Classical.propDecidable _) (some (f x)) none
theorem b5j {ks rs : List Kd} {Q : Ds ks → Prop} {f : Ds ks → Bool × Int × Rs rs} {p : Nat → Ds ks → Option (Int ⊕ Rs rs)} (h : ∀ x, a42 ks x → Q x → ∃ N, p N x = some (xr (f x))) : ∀ x r, c3G Q f x = some r → ∃ N, p N x = some (xr r) := by
 intro x r hx
 unfold c3G at hx
 split at hx
 ·rename_i hq; cases hx; exact h x hq.1 hq.2
 ·cases hx
theorem b5i {ks rs : List Kd} {Q : Ds ks → Prop} {f : Ds ks → Bool × Int × Rs rs} {x : Ds ks} (h : a42 ks x) (hq : Q x) : c3G Q f x = some (f x) := by
 unfold c3G
 rw [if_pos ⟨h, hq⟩]
noncomputable def m6 : List (List Int) × Unit → Option (List Int) := a0l (ks := [.sls (.int .u8)]) (rs := [.sl (.int .u8)]) (fun x => x.1.length ≤ 1000 ∧ x.1.flatten.length ≤ 1000000) fun x => x.1.flatten
noncomputable def a63 : List Int × List Int × Unit → Option Bool := a0l (ks := [.sl (.int .u8), .sl (.int .u8)]) (rs := [.bool]) (fun _ => True) fun x => decide (x.1 = x.2.1)
def inW (w : Nat) (l : List Int) : Prop := ∀ i, i < 256 → 0 ≤ l.getD i 0 ∧ l.getD i 0 < 2 ^ w
def pkE (w : Nat) (l : List Int) (t : Nat) : Int := c66 (l.getD (t / w) 0) (t % w)
def pkW (w : Nat) (l : List Int) : List Int := a5q (pkE w l) (32 * w)
def a30 (top : Int) (a : List Int) : List Int := p9 fun i => top - (b35 a).getD i 0
noncomputable def a4M : Int × List Int × Unit → Option (List Int × Int) := a0l (ks := [.int .i64, .xs (.int .i64) 256]) (rs := [.sl (.int .u8), .int .i64]) (fun x => (1 ≤ x.1 ∧ x.1 ≤ 23) ∧ inW x.1.toNat x.2.1) fun x => (pkW x.1.toNat x.2.1, 0)
noncomputable def a2F : Int × List Int × Unit → Option (List Int × Int) := a0l (ks := [.int .i64, .xs (.int .i32) 256]) (rs := [.sl (.int .u8), .int .i64]) (fun x => (1 ≤ x.1 ∧ x.1 ≤ 23) ∧ inW x.1.toNat (B8 x.2.1)) fun x => (pkW x.1.toNat (B8 x.2.1), 0)
noncomputable def n9 : Int × Int × List Int × Unit → Option (List Int × Int) := a0l (ks := [.int .i32, .int .i64, .xs (.int .i32) 256]) (rs := [.sl (.int .u8), .int .i64]) (fun x => (1 ≤ x.2.1 ∧ x.2.1 ≤ 23) ∧ (0 ≤ x.1 ∧ x.1 ≤ 1000000) ∧ inW x.2.1.toNat (a30 x.1 x.2.2.1)) fun x => (pkW x.2.1.toNat (a30 x.1 x.2.2.1), 0)
def a3O (l : List Int) (n : Nat) : List Int := a0d 136 31 l n
def c9E (n : Int) : List Int := [n % 256, n / 256 % 256]
def chD (r : List Int) (i : Nat) : List Int := (r.drop (i * 256)).take 256
def c5X (tr msg ctx : List Int) : List Int := a3O (tr ++ [0, (ctx.length : Int) % 256] ++ ctx ++ msg) 64
def c3P (mu high : List Int) : List Int := mu ++ ((List.range 6).map fun r => pkW 4 (B8 (chD high r))).flatten
def c2l (mu high : List Int) : List Int := a3O (c3P mu high) 48
noncomputable def J2 : Int × List (List Int) × Unit → Option (List Int) := a0l (ks := [.int .i64, .sls (.int .u8)]) (rs := [.sl (.int .u8)]) (fun x => 0 ≤ x.1 ∧ x.1 ≤ 1000) fun x => a3O x.2.1.flatten x.1.toNat
noncomputable def a8s : Int × Unit → Option (List Int) := a0l (ks := [.int .i64]) (rs := [.sl (.int .u8)]) (fun x => 0 ≤ x.1 ∧ x.1 ≤ 65535) fun x => c9E x.1
noncomputable def a2s : List Int × List Int × List Int × Unit → Option (List Int) := a0l (ks := [.sl (.int .u8), .sl (.int .u8), .sl (.int .u8)]) (rs := [.sl (.int .u8)]) (fun _ => True) fun x => c5X x.1 x.2.1 x.2.2.1
noncomputable def a0y : List Int × List Int × Unit → Option (List Int) := a0l (ks := [.sl (.int .u8), .xs (.int .i32) 1536]) (rs := [.sl (.int .u8)]) (fun x => x.1.length ≤ 1000 ∧ ∀ r, r < 6 → inW 4 (B8 (chD x.2.1 r))) fun x => c2l x.1 x.2.1
def c4Z (rho : List Int) (r s : Nat) : List Int × Int := d2E (rho ++ [(s : Int), (r : Int)])
def a4N (rho : List Int) : Prop := ∀ r, r < 6 → ∀ s, s < 5 → (c4Z rho r s).2 = 0
noncomputable def b1a (rho : List Int) : Bool := @decide (¬ a4N rho) (Classical.propDecidable _)
def d9w (f : Nat → List Int) : List Int := f 0 ++ f 1 ++ f 2 ++ f 3 ++ f 4
def d8J (f : Nat → List Int) : List Int := f 0 ++ f 1 ++ f 2 ++ f 3 ++ f 4 ++ f 5
def c08 (rho : List Int) : List Int := d8J fun r => d9w fun s => (c4Z rho r s).1
def b66 (m y : List Int) (r : Nat) : Nat → List Int
 | 0 => List.replicate 256 0
 | s + 1 => b0x (b66 m y r s) (a6b (chD m (r * 5 + s)) (a04 (chD y s)))
def a92 (m y : List Int) : List Int := d8J fun r => b66 m y r 5
def b0t (m y : List Int) : List Int := d8J fun r => b36 (b66 m y r 5)
noncomputable def a5T : List Int × Int × Unit → Option (Bool × Int × List Int) := c3G (ks := [.xs (.int .i32) 256, .int .i64]) (rs := [.xs (.int .i32) 256]) (fun _ => True) fun x => (decide (x.2.1 ≠ 0), x.2.1, x.1)
noncomputable def N7 : List Int × Unit → Option (Bool × Int × (List Int × Unit)) := c3G (ks := [.sl (.int .u8)]) (rs := [.op [.xs (.int .i32) 7680]]) (fun x => x.1.length = 32) fun x => (b1a x.1, 130, (c08 x.1, ()))
noncomputable def J9 : List Int × List Int × Unit → Option (List Int) := a0l (ks := [.rp (.xs (.int .i32) 7680), .xs (.int .i32) 1280]) (rs := [.xs (.int .i32) 1536]) (fun _ => True) fun x => a92 x.1 x.2.1
noncomputable def N8 : List Int × List Int × Unit → Option (List Int) := a0l (ks := [.rp (.xs (.int .i32) 7680), .xs (.int .i32) 1280]) (rs := [.xs (.int .i32) 1536]) (fun _ => True) fun x => b0t x.1 x.2.1
end Go.Ax.TryP
set_option linter.unusedVariables false
namespace Go.Ax.TryP
open Go.Proofs
noncomputable def p_octet_Join_E : AE := AE.of [(5, ty5), (23, ty23), (35, ty35)] []
noncomputable def a74 : Hints := [(3, [0, 3, 9, 10, 11]), (9, [6, 22, 23, 24]), (2000000, [0, 3]), (2000001, [0, 3, 9, 10, 11]), (2000002, [6]), (2000003, [6, 22, 23, 24]), (3000000, [2])]
noncomputable def a1U : Code := (Try.f16).body.getD .skip
noncomputable def b8f : Shape := mkS { tmps := .sc (.frs b8) :: V :: V :: .sc (.int .i64) :: pv 5 (.sc (.frs b8) :: .sc (.int .i64) :: .sc (.int .i64) :: pv 21 []), mem := [] } [.xss, .int, .xss, .int, .int]
abbrev W37 : Type := List (List Int) × Int × List (List Int) × Int × Int × Unit
abbrev W38 : Type := List (List Int) × Int × Unit
noncomputable def T2 (N : Nat) (β : Type) (x : W37) (kn : W37 → Option β) (ke : W38 → Option β) : Option β :=
 if (x.2.2.2.2.1 < x.2.2.2.1) then
  if 0 ≤ x.2.2.2.2.1 then (
  if x.2.2.2.2.1 < ((List.length x.2.2.1 : Nat) : Int) then (
  kn (x.1, (IntKind.i64.wrap (x.2.1 + ((List.length (List.getD x.2.2.1 (x.2.2.2.2.1.toNat) []) : Nat) : Int))), x.2.2.1, x.2.2.2.1, (IntKind.i64.wrap (x.2.2.2.2.1 + (1:Int))), ())) else none) else none
 else
  ke (x.1, x.2.1, ())
noncomputable def b6A : Go' W38 := fun y K => K (.exit 0) (fSt { tmps := .sc (.frs b8) :: V :: V :: .sc (.int .i64) :: pv 29 [], mem := [] } [.xss, .int] y)
noncomputable def a8Y (N : Nat) : LT := upd (LT.nil) 3 (o6 b8f N (T2 N) b6A)
theorem b6B (N : Nat) : OkAll p_octet_Join_E a74 N (a8Y N) (w9 a1U) :=
 d6 (c := d7 3 a1U) (OkAll.nil) (by kernel_rfl) (fun x => by kernel_rfl) (fun β x kn ke => by kernel_rfl)
noncomputable def b8g : Shape := mkS { tmps := pv 6 (.sc (.vec 0 none 1) :: pv 15 (.sc (.frs b8) :: .sc (.int .i64) :: .sc (.int .i64) :: pv 8 [])), mem := [.live [.xs b8 none] (.own)] } [.nat, .xss, .int, .int, .nat, .xs]
abbrev W39 : Type := Nat × List (List Int) × Int × Int × Nat × List Int × Unit
abbrev W40 : Type := Nat × Nat × List Int × Unit
noncomputable def T3 (N : Nat) (β : Type) (x : W39) (kn : W39 → Option β) (ke : W40 → Option β) : Option β :=
 if (x.2.2.2.1 < x.2.2.1) then
  if 0 ≤ x.2.2.2.1 then (
  if x.2.2.2.1 < ((List.length x.2.1 : Nat) : Int) then (
  if (x.1 + (List.length (List.getD x.2.1 (x.2.2.2.1.toNat) []))) * 1 ≤ 140737488355328 then (
  kn ((x.1 + (List.length (List.getD x.2.1 (x.2.2.2.1.toNat) []))), x.2.1, x.2.2.1, (IntKind.i64.wrap (x.2.2.2.1 + (1:Int))), (x.2.2.2.2.1 + (List.length (List.getD x.2.1 (x.2.2.2.1.toNat) []))), (x.2.2.2.2.2.1 ++ (List.getD x.2.1 (x.2.2.2.1.toNat) [])), ())) else none) else none) else none
 else
  ke (x.1, x.2.2.2.2.1, x.2.2.2.2.2.1, ())
noncomputable def b6C : Go' W40 := fun y K => K (.exit 2) (fSt { tmps := pv 6 (.sc (.vec 0 none 1) :: pv 26 []), mem := [.live [.xs b8 none] (.own)] } [.nat, .nat, .xs] y)
noncomputable def a8Z (N : Nat) : LT := upd (a8Y N) 9 (o6 b8g N (T3 N) b6C)
theorem b6D (N : Nat) : OkAll p_octet_Join_E a74 N (a8Z N) (w9 a1U) :=
 d6 (c := d7 9 a1U) (b6B N) (by kernel_rfl) (fun x => by kernel_rfl) (fun β x kn ke => by kernel_rfl)
abbrev a0V : List Kd := [.sls b8]
abbrev a0W : List Kd := [.sl b8]
noncomputable def a7q (N : Nat) (x : List (List Int) × Unit) : Option (List Int) :=
 m7 (T2 N) N (x.1, (0:Int), x.1, ((List.length x.1 : Nat) : Int), (0:Int), ()) fun y1 => (
 if 0 ≤ (0:Int) then (
 if (0:Int) ≤ y1.2.1 then (
 if y1.2.1 * 1 ≤ 281474976710656 then (
 m7 (T3 N) N (0, y1.1, ((List.length y1.1 : Nat) : Int), (0:Int), 0, (List.replicate 0 0), ()) fun y2 => (
 some y2.2.2.1)) else none) else none) else none)
theorem b9O : p_octet_Join_E.Ok Try.prog := AE.of_ok (all_cons Z1 (all_cons F8 (all_cons a2C c6))) c6
theorem c1K (hE : p_octet_Join_E.Ok Try.prog) {g : Ds a0V → Option (Rs a0W)} (hg : ∀ x r, g x = some r → ∃ N, a7q N x = some r) : c8 Try.prog 16 ⟨a0V, a0W, g⟩ :=
 i5 (E := p_octet_Join_E) (H := a74) (L := fun N => a8Z N) (c := a1U) (ks := a0V) (rs := a0W) (F := a7q) hE mix Try.func16 (by kernel_rfl) (fun N => b6D N) (fun _ _ => by kernel_rfl) hg
noncomputable def p_octet_Same_E : AE := AE.of [(5, ty5), (23, ty23)] []
noncomputable def b3J : Hints := [(5, [0, 1, 5, 13, 14]), (2000000, [5]), (2000001, [0, 1, 5, 13, 14]), (3000000, [4])]
noncomputable def a75 : Code := (Try.f40).body.getD .skip
noncomputable def b8h : Shape := mkS { tmps := .sc (.vec 0 none 1) :: .sc (.vec 1 none 1) :: pv 3 (.sc (.int .u8) :: pv 7 (.sc (.int .i64) :: .sc (.int .i64) :: pv 16 [])), mem := [.live [.xs b8 none] (.ro), .live [.xs b8 none] (.ro)] } [.nat, .nat, .int, .int, .int, .nat, .xs, .nat, .xs]
abbrev W41 : Type := Nat × Nat × Int × Int × Int × Nat × List Int × Nat × List Int × Unit
noncomputable def T4 (N : Nat) (β : Type) (x : W41) (kn : W41 → Option β) (ke : ((Int × Unit)) → Option β) : Option β :=
 if (x.2.2.2.2.1 < x.2.2.2.1) then
  if 0 ≤ x.2.2.2.2.1 then (
  if x.2.2.2.2.1 < ((x.1 : Nat) : Int) then (
  if (x.2.2.2.2.1.toNat) < x.2.2.2.2.2.1 then (
  if 0 ≤ x.2.2.2.2.1 then (
  if x.2.2.2.2.1 < ((x.2.1 : Nat) : Int) then (
  if (x.2.2.2.2.1.toNat) < x.2.2.2.2.2.2.2.1 then (
  kn (x.1, x.2.1, (ior IntKind.u8 x.2.2.1 (b9d IntKind.u8 (List.getD x.2.2.2.2.2.2.1 (x.2.2.2.2.1.toNat) 0) (List.getD x.2.2.2.2.2.2.2.2.1 (x.2.2.2.2.1.toNat) 0))), x.2.2.2.1, (IntKind.i64.wrap (x.2.2.2.2.1 + (1:Int))), x.2.2.2.2.2.1, x.2.2.2.2.2.2.1, x.2.2.2.2.2.2.2.1, x.2.2.2.2.2.2.2.2.1, ())) else none) else none) else none) else none) else none) else none
 else
  ke (x.2.2.1, ())
noncomputable def b6E : Go' ((Int × Unit)) := fun y K => K (.exit 0) (fSt { tmps := pv 5 (.sc (.int .u8) :: pv 25 []), mem := [] } [.int] y)
noncomputable def a80 (N : Nat) : LT := upd (LT.nil) 5 (o6 b8h N (T4 N) b6E)
theorem b6F (N : Nat) : OkAll p_octet_Same_E b3J N (a80 N) (w9 a75) :=
 d6 (c := d7 5 a75) (OkAll.nil) (by kernel_rfl) (fun x => by kernel_rfl) (fun β x kn ke => by kernel_rfl)
abbrev a0X : List Kd := [.sl b8, .sl b8]
abbrev a6D : List Kd := [.bool]
noncomputable def a7r (N : Nat) (x : List Int × List Int × Unit) : Option (Bool) :=
 if ((((List.length x.1) : Nat) : Int) ≠ (((List.length x.2.1) : Nat) : Int)) then
  some false
 else
  m7 (T4 N) N ((List.length x.1), (List.length x.2.1), (0:Int), (((List.length x.1) : Nat) : Int), (0:Int), (List.length x.1), x.1, (List.length x.2.1), x.2.1, ()) fun y1 => (
  some (decide (y1.1 = (0:Int))))
theorem b9P : p_octet_Same_E.Ok Try.prog := AE.of_ok (all_cons Z1 (all_cons F8 c6)) c6
theorem c1L (hE : p_octet_Same_E.Ok Try.prog) {g : Ds a0X → Option (Rs [.bool])} (hg : ∀ x r, g x = some r → ∃ N, a7r N x = some r) : c8 Try.prog 40 ⟨a0X, [.bool], g⟩ :=
 i5 (E := p_octet_Same_E) (H := b3J) (L := fun N => a80 N) (c := a75) (ks := a0X) (rs := a6D) (F := a7r) hE mix Try.func40 (by kernel_rfl) (fun N => b6F N) (fun _ _ => by kernel_rfl) hg
noncomputable def p_dring_pack_E : AE := AE.of [(2, ty2), (5, ty5), (23, ty23), (91, ty91)] []
noncomputable def a7U : Hints := [(5, [0, 6, 20, 21]), (10, [0, 6, 7, 8, 20, 21, 33, 34]), (2000000, [6]), (2000001, [0, 6, 20, 21]), (2000002, [0, 6, 20, 21]), (2000003, [0, 6, 7, 8, 20, 21, 33, 34]), (3000000, [4, 5])]
noncomputable def a1M : Code := (Try.f49).body.getD .skip
noncomputable def b6b : Shape := mkS { tmps := .sc (.int .i64) :: pv 5 (.sc (.vec 0 none 1) :: .sc (.int .i64) :: .sc (.int .i64) :: pv 11 (.agg [.xs b64 (some 256)] :: .sc (.int .i64) :: pv 11 (.sc (.int .i64) :: .sc (.int .i64) :: pv 25 []))), mem := [.live [.xs b8 none] (.own)] } [.int, .nat, .int, .int, .xs, .int, .int, .int, .nat, .xs]
abbrev W42 : Type := Int × Nat × Int × Int × List Int × Int × Int × Int × Nat × List Int × Unit
abbrev W43 : Type := Int × Nat × List Int × Int × Nat × List Int × Unit
noncomputable def O8 (N : Nat) (β : Type) (x : W42) (kn : W42 → Option β) (ke : W43 → Option β) : Option β :=
 if (x.2.2.2.2.2.2.2.1 < x.2.2.2.2.2.2.1) then
  if 0 ≤ (IntKind.i64.wrap (Int.tdiv (IntKind.i64.wrap ((IntKind.i64.wrap (x.2.2.1 * x.1)) + x.2.2.2.2.2.2.2.1)) (8:Int))) then (
  if (IntKind.i64.wrap (Int.tdiv (IntKind.i64.wrap ((IntKind.i64.wrap (x.2.2.1 * x.1)) + x.2.2.2.2.2.2.2.1)) (8:Int))) < ((x.2.1 : Nat) : Int) then (
  if ((IntKind.i64.wrap (Int.tdiv (IntKind.i64.wrap ((IntKind.i64.wrap (x.2.2.1 * x.1)) + x.2.2.2.2.2.2.2.1)) (8:Int))).toNat) < x.2.2.2.2.2.2.2.2.1 then (
  if x.2.2.2.2.2.2.2.1 < 0 then none else (
  if (Int.tmod (IntKind.i64.wrap ((IntKind.i64.wrap (x.2.2.1 * x.1)) + x.2.2.2.2.2.2.2.1)) (8:Int)) < 0 then none else (
  if 0 ≤ (IntKind.i64.wrap (Int.tdiv (IntKind.i64.wrap ((IntKind.i64.wrap (x.2.2.1 * x.1)) + x.2.2.2.2.2.2.2.1)) (8:Int))) then (
  if (IntKind.i64.wrap (Int.tdiv (IntKind.i64.wrap ((IntKind.i64.wrap (x.2.2.1 * x.1)) + x.2.2.2.2.2.2.2.1)) (8:Int))) < ((x.2.1 : Nat) : Int) then (
  if ((IntKind.i64.wrap (Int.tdiv (IntKind.i64.wrap ((IntKind.i64.wrap (x.2.2.1 * x.1)) + x.2.2.2.2.2.2.2.1)) (8:Int))).toNat) < x.2.2.2.2.2.2.2.2.1 then (
  kn (x.1, x.2.1, x.2.2.1, x.2.2.2.1, x.2.2.2.2.1, x.2.2.2.2.2.1, x.2.2.2.2.2.2.1, (IntKind.i64.wrap (x.2.2.2.2.2.2.2.1 + (1:Int))), x.2.2.2.2.2.2.2.2.1, (List.set x.2.2.2.2.2.2.2.2.2.1 ((IntKind.i64.wrap (Int.tdiv (IntKind.i64.wrap ((IntKind.i64.wrap (x.2.2.1 * x.1)) + x.2.2.2.2.2.2.2.1)) (8:Int))).toNat) (ior IntKind.u8 (List.getD x.2.2.2.2.2.2.2.2.2.1 ((IntKind.i64.wrap (Int.tdiv (IntKind.i64.wrap ((IntKind.i64.wrap (x.2.2.1 * x.1)) + x.2.2.2.2.2.2.2.1)) (8:Int))).toNat) 0) (b0A IntKind.u8 (IntKind.u8.wrap (b8H IntKind.i64 (b9c IntKind.i64 x.2.2.2.1 x.2.2.2.2.2.2.2.1) (1:Int))) (Int.tmod (IntKind.i64.wrap ((IntKind.i64.wrap (x.2.2.1 * x.1)) + x.2.2.2.2.2.2.2.1)) (8:Int))))), ())) else none) else none) else none))) else none) else none) else none
 else
  ke (x.1, x.2.1, x.2.2.2.2.1, x.2.2.2.2.2.1, x.2.2.2.2.2.2.2.2.1, x.2.2.2.2.2.2.2.2.2.1, ())
noncomputable def b4r : Go' W43 := fun y K => K (.exit 2) (fSt { tmps := .sc (.int .i64) :: pv 5 (.sc (.vec 0 none 1) :: pv 13 (.agg [.xs b64 (some 256)] :: .sc (.int .i64) :: pv 38 [])), mem := [.live [.xs b8 none] (.own)] } [.int, .nat, .xs, .int, .nat, .xs] y)
noncomputable def a7e (N : Nat) : LT := upd (LT.nil) 10 (o6 b6b N (O8 N) b4r)
theorem b4s (N : Nat) : OkAll p_dring_pack_E a7U N (a7e N) (w9 a1M) :=
 d6 (c := d7 10 a1M) (OkAll.nil) (by kernel_rfl) (fun x => by kernel_rfl) (fun β x kn ke => by kernel_rfl)
noncomputable def b7Y : Shape := mkS { tmps := .sc (.int .i64) :: pv 5 (.sc (.vec 0 none 1) :: pv 13 (.agg [.xs b64 (some 256)] :: .sc (.int .i64) :: pv 38 [])), mem := [.live [.xs b8 none] (.own)] } [.int, .nat, .xs, .int, .nat, .xs]
noncomputable def S5 (N : Nat) (β : Type) (x : W43) (kn : W43 → Option β) (ke : W31 → Option β) : Option β :=
 if (x.2.2.2.1 < (256:Int)) then
  if 0 ≤ x.2.2.2.1 then (
  if x.2.2.2.1 < 256 then (
  if (x.2.2.2.1.toNat) < 256 then (
  if ((List.getD x.2.2.1 (x.2.2.2.1.toNat) 0) < (0:Int)) then
   ke (.inl ((1:Int), ()))
  else
   if x.1 < 0 then none else (
   if ((List.getD x.2.2.1 (x.2.2.2.1.toNat) 0) ≥ (b0A IntKind.i64 (1:Int) x.1)) then
    ke (.inl ((1:Int), ()))
   else
    m7 (O8 N) N (x.1, x.2.1, x.2.2.2.1, (List.getD x.2.2.1 (x.2.2.2.1.toNat) 0), x.2.2.1, x.2.2.2.1, x.1, (0:Int), x.2.2.2.2.1, x.2.2.2.2.2.1, ()) fun y1 => (
    kn (y1.1, y1.2.1, y1.2.2.1, (IntKind.i64.wrap (y1.2.2.2.1 + (1:Int))), y1.2.2.2.2.1, y1.2.2.2.2.2.1, ())))) else none) else none) else none
 else
  ke (.inr (x.2.1, x.2.2.2.2.1, x.2.2.2.2.2.1, ()))
noncomputable def b6c : Go' W31 := fun y K => match y with
 | .inl y => K .ret (fSt { tmps := pv 4 (.sc (.nilsl) :: .sc (.int .i64) :: pv 54 []), mem := [] } [.int] y)
 | .inr y => K (.exit 0) (fSt { tmps := pv 6 (.sc (.vec 0 none 1) :: pv 53 []), mem := [.live [.xs b8 none] (.own)] } [.nat, .nat, .xs] y)
noncomputable def a8L (N : Nat) : LT := upd (a7e N) 5 (o6 b7Y N (S5 N) b6c)
theorem b6d (N : Nat) : OkAll p_dring_pack_E a7U N (a8L N) (w9 a1M) :=
 d6 (c := d7 5 a1M) (b4s N) (by kernel_rfl) (fun x => by kernel_rfl) (fun β x kn ke => by kernel_rfl)
abbrev a0L : List Kd := [.int .i64, .xs b64 256]
abbrev a0M : List Kd := [.sl b8, .int .i64]
noncomputable def a4U (N : Nat) (x : Int × List Int × Unit) : Option (List Int × Int) :=
 if (x.1 < (1:Int)) then
  some ([], (1:Int))
 else
  if (x.1 > (23:Int)) then
   some ([], (1:Int))
  else
   if 0 ≤ (IntKind.i64.wrap ((32:Int) * x.1)) then (
   if (IntKind.i64.wrap ((32:Int) * x.1)) = (IntKind.i64.wrap ((32:Int) * x.1)) then (
   if (IntKind.i64.wrap ((32:Int) * x.1)) * 1 ≤ 281474976710656 then (
   m7 (S5 N) N (x.1, ((IntKind.i64.wrap ((32:Int) * x.1)).toNat), x.2.1, (0:Int), ((IntKind.i64.wrap ((32:Int) * x.1)).toNat), (List.replicate ((IntKind.i64.wrap ((32:Int) * x.1)).toNat) 0), ()) fun y => (match y with
   | .inl y2 => (
    some ([], y2.1))
   | .inr y3 => (
    some (y3.2.2.1, (0:Int))))) else none) else none) else none
theorem b9y : p_dring_pack_E.Ok Try.prog := AE.of_ok (all_cons a88 (all_cons Z1 (all_cons F8 (all_cons c8k c6)))) c6
theorem c1w (hE : p_dring_pack_E.Ok Try.prog) {g : Ds a0L → Option (Rs a0M)} (hg : ∀ x r, g x = some r → ∃ N, a4U N x = some r) : c8 Try.prog 49 ⟨a0L, a0M, g⟩ :=
 i5 (E := p_dring_pack_E) (H := a7U) (L := fun N => a8L N) (c := a1M) (ks := a0L) (rs := a0M) (F := a4U) hE mix Try.func49 (by kernel_rfl) (fun N => b6d N) (fun _ _ => by kernel_rfl) hg
noncomputable abbrev a4C : Sig := ⟨[.int .i64, .xs b64 256], [.sl b8, .int .i64], a4M⟩
noncomputable def p_dring_Pack_E : AE := AE.of [(2, ty2), (21, ty21), (40, ty40), (91, ty91)] [(47, E0), (49, a4C)]
noncomputable def b3I : Hints := [(3, [0, 6, 10, 11]), (2000000, [0, 6]), (2000001, [0, 6, 10, 11]), (3000000, [4, 5])]
noncomputable def a7L : Code := (Try.f23).body.getD .skip
noncomputable def b7P : Shape := mkS { tmps := .sc (.int .i64) :: pv 5 (.sc (.ptr 0 0 false) :: pv 3 (.agg [.xs b32 (some 256)] :: .sc (.int .i64) :: pv 13 [])), mem := [.live [.xs b64 (some 256)] (.own)] } [.int, .xs, .int, .xs]
abbrev W44 : Type := Int × List Int × Int × List Int × Unit
noncomputable def S0 (N : Nat) (β : Type) (x : W44) (kn : W44 → Option β) (ke : ((Int × List Int × Unit)) → Option β) : Option β :=
 if (x.2.2.1 < (256:Int)) then
  if 0 ≤ x.2.2.1 then (
  if x.2.2.1 < 256 then (
  if (x.2.2.1.toNat) < 256 then (
  if 0 ≤ x.2.2.1 then (
  if x.2.2.1 < 256 then (
  if (x.2.2.1.toNat) < 256 then (
  kn (x.1, x.2.1, (IntKind.i64.wrap (x.2.2.1 + (1:Int))), (List.set x.2.2.2.1 (x.2.2.1.toNat) (IntKind.i64.wrap (List.getD x.2.1 (x.2.2.1.toNat) 0))), ())) else none) else none) else none) else none) else none) else none
 else
  ke (x.1, x.2.2.2.1, ())
noncomputable def b51 : Go' ((Int × List Int × Unit)) := fun y K => K (.exit 0) (fSt { tmps := .sc (.int .i64) :: pv 5 (.sc (.ptr 0 0 false) :: pv 18 []), mem := [.live [.xs b64 (some 256)] (.own)] } [.int, .xs] y)
noncomputable def a8D (N : Nat) : LT := upd (LT.nil) 3 (o6 b7P N (S0 N) b51)
theorem b52 (N : Nat) : OkAll p_dring_Pack_E b3I N (a8D N) (w9 a7L) :=
 d6 (c := d7 3 a7L) (OkAll.nil) (by kernel_rfl) (fun x => by kernel_rfl) (fun β x kn ke => by kernel_rfl)
abbrev a0E : List Kd := [.int .i64, .xs b32 256]
abbrev a0F : List Kd := [.sl b8, .int .i64]
noncomputable def a4P (N : Nat) (x : Int × List Int × Unit) : Option (List Int × Int) :=
 (Q1 (x.2.1, ())).bind fun r1 => (
 m7 (S0 N) N (x.1, r1, (0:Int), (List.replicate 256 0), ()) fun y2 => (
 (a4M (y2.1, y2.2.1, ())).bind fun r3 => (
 some (r3.1, r3.2))))
theorem b9r (e0 : c8 Try.prog 47 E0) (e1 : c8 Try.prog 49 a4C) : p_dring_Pack_E.Ok Try.prog := AE.of_ok (all_cons a88 (all_cons u4 (all_cons q8 (all_cons c8k c6)))) (all_cons ⟨e0, U4⟩ (all_cons ⟨e1, a8m⟩ c6))
theorem c1q (hE : p_dring_Pack_E.Ok Try.prog) {g : Ds a0E → Option (Rs a0F)} (hg : ∀ x r, g x = some r → ∃ N, a4P N x = some r) : c8 Try.prog 23 ⟨a0E, a0F, g⟩ :=
 i5 (E := p_dring_Pack_E) (H := b3I) (L := fun N => a8D N) (c := a7L) (ks := a0E) (rs := a0F) (F := a4P) hE mix Try.func23 (by kernel_rfl) (fun N => b52 N) (fun _ _ => by kernel_rfl) hg
noncomputable def p_dring_PackFrom_E : AE := AE.of [(2, ty2), (21, ty21), (40, ty40), (91, ty91)] [(50, a1v), (49, a4C)]
noncomputable def a7b : Hints := [(3, [0, 1, 8, 12, 13]), (2000000, [1, 8]), (2000001, [0, 1, 8, 12, 13]), (3000000, [6, 7])]
noncomputable def a3c : Code := (Try.f24).body.getD .skip
noncomputable def b1C : Shape := mkS { tmps := .sc (.int .i32) :: .sc (.int .i64) :: pv 6 (.sc (.ptr 0 0 false) :: pv 3 (.agg [.xs b32 (some 256)] :: .sc (.int .i64) :: pv 16 [])), mem := [.live [.xs b64 (some 256)] (.own)] } [.int, .int, .xs, .int, .xs]
abbrev W45 : Type := Int × Int × List Int × Int × List Int × Unit
noncomputable def E6 (N : Nat) (β : Type) (x : W45) (kn : W45 → Option β) (ke : ((Int × List Int × Unit)) → Option β) : Option β :=
 if (x.2.2.2.1 < (256:Int)) then
  if 0 ≤ x.2.2.2.1 then (
  if x.2.2.2.1 < 256 then (
  if (x.2.2.2.1.toNat) < 256 then (
  if 0 ≤ x.2.2.2.1 then (
  if x.2.2.2.1 < 256 then (
  if (x.2.2.2.1.toNat) < 256 then (
  kn (x.1, x.2.1, x.2.2.1, (IntKind.i64.wrap (x.2.2.2.1 + (1:Int))), (List.set x.2.2.2.2.1 (x.2.2.2.1.toNat) (IntKind.i64.wrap ((IntKind.i64.wrap x.1) - (IntKind.i64.wrap (List.getD x.2.2.1 (x.2.2.2.1.toNat) 0))))), ())) else none) else none) else none) else none) else none) else none
 else
  ke (x.2.1, x.2.2.2.2.1, ())
noncomputable def b0F : Go' ((Int × List Int × Unit)) := fun y K => K (.exit 0) (fSt { tmps := V :: .sc (.int .i64) :: pv 6 (.sc (.ptr 0 0 false) :: pv 21 []), mem := [.live [.xs b64 (some 256)] (.own)] } [.int, .xs] y)
noncomputable def a4Q (N : Nat) : LT := upd (LT.nil) 3 (o6 b1C N (E6 N) b0F)
theorem b0G (N : Nat) : OkAll p_dring_PackFrom_E a7b N (a4Q N) (w9 a3c) :=
 d6 (c := d7 3 a3c) (OkAll.nil) (by kernel_rfl) (fun x => by kernel_rfl) (fun β x kn ke => by kernel_rfl)
abbrev K5 : List Kd := [.int .i32, .int .i64, .xs b32 256]
abbrev K6 : List Kd := [.sl b8, .int .i64]
noncomputable def Y1 (N : Nat) (x : Int × Int × List Int × Unit) : Option (List Int × Int) :=
 (a1z (x.2.2.1, ())).bind fun r1 => (
 m7 (E6 N) N (x.1, x.2.1, r1, (0:Int), (List.replicate 256 0), ()) fun y2 => (
 (a4M (y2.1, y2.2.1, ())).bind fun r3 => (
 some (r3.1, r3.2))))
theorem b2T (e0 : c8 Try.prog 50 a1v) (e1 : c8 Try.prog 49 a4C) : p_dring_PackFrom_E.Ok Try.prog := AE.of_ok (all_cons a88 (all_cons u4 (all_cons q8 (all_cons c8k c6)))) (all_cons ⟨e0, a58⟩ (all_cons ⟨e1, a8m⟩ c6))
theorem b4k (hE : p_dring_PackFrom_E.Ok Try.prog) {g : Ds K5 → Option (Rs K6)} (hg : ∀ x r, g x = some r → ∃ N, Y1 N x = some r) : c8 Try.prog 24 ⟨K5, K6, g⟩ :=
 i5 (E := p_dring_PackFrom_E) (H := a7b) (L := fun N => a4Q N) (c := a3c) (ks := K5) (rs := K6) (F := Y1) hE mix Try.func24 (by kernel_rfl) (fun N => b0G N) (fun _ _ => by kernel_rfl) hg
noncomputable def p_dsa_hash_E : AE := AE.ofI [] [(42, E1)] [] [(14, a07), (22, a6c)] [] [] []
noncomputable def c52 : Hints := [(3000000, [4]), (5000000, [4])]
noncomputable def c53 : Code := (Try.f13).body.getD .skip
abbrev a3n : List Kd := [.int .i64, .sls b8]
abbrev a3o : List Kd := [.sl b8]
noncomputable def a8R (N : Nat) (x : Int × List (List Int) × Unit) : Option (List Int) :=
 (v3 ((256:Int), x.1, x.2.1, ())).bind fun r1 => (
 if (r1.2 ≠ (0:Int)) then none else (
 some r1.1))
theorem c2D (e0 : c8 Try.prog 42 E1) : p_dsa_hash_E.Ok Try.prog := AE.ofI_ok c6 (all_cons ⟨e0, U5⟩ c6) c6 (all_cons ⟨O1, A4⟩ (all_cons ⟨a2I, Z3⟩ c6)) c6
theorem c4j (hE : p_dsa_hash_E.Ok Try.prog) {g : Ds a3n → Option (Rs a3o)} (hg : ∀ x r, g x = some r → ∃ N, a8R N x = some r) : c8 Try.prog 13 ⟨a3n, a3o, g⟩ :=
 i5 (E := p_dsa_hash_E) (H := c52) (L := fun N => LT.nil) (c := c53) (ks := a3n) (rs := a3o) (F := a8R) hE mix Try.func13 (by kernel_rfl) (fun N => OkAll.nil) (fun _ _ => by kernel_rfl) hg
noncomputable def p_dsa_two_E : AE := AE.of [(3, ty3), (5, ty5), (23, ty23)] []
noncomputable def c7I : Hints := [(3000000, [2])]
noncomputable def c7J : Code := (Try.f17).body.getD .skip
abbrev b1P : List Kd := [.int .i64]
abbrev a4Y : List Kd := [.sl b8]
noncomputable def b1O (N : Nat) (x : Int × Unit) : Option (List Int) :=
 some (List.set (List.set (List.replicate 2 0) 0 (IntKind.u8.wrap x.1)) 1 (IntKind.u8.wrap (b9c IntKind.i64 x.1 (8:Int))))
theorem c4q : p_dsa_two_E.Ok Try.prog := AE.of_ok (all_cons a5x (all_cons Z1 (all_cons F8 c6))) c6
theorem c56 (hE : p_dsa_two_E.Ok Try.prog) {g : Ds [.int .i64] → Option (Rs a4Y)} (hg : ∀ x r, g x = some r → ∃ N, b1O N x = some r) : c8 Try.prog 17 ⟨[.int .i64], a4Y, g⟩ :=
 i5 (E := p_dsa_two_E) (H := c7I) (L := fun N => LT.nil) (c := c7J) (ks := b1P) (rs := a4Y) (F := b1O) hE mix Try.func17 (by kernel_rfl) (fun N => OkAll.nil) (fun _ _ => by kernel_rfl) hg
noncomputable abbrev R4 : Sig := ⟨[.int .i64, .sls b8], [.sl b8], J2⟩
noncomputable def p_dsa_meant_E : AE := AE.of [(3, ty3), (5, ty5), (23, ty23), (35, ty35)] [(13, R4)]
noncomputable def c4k : Hints := [(3000000, [6])]
noncomputable def c4l : Code := (Try.f26).body.getD .skip
abbrev a1P : List Kd := [.sl b8, .sl b8, .sl b8]
abbrev a1Q : List Kd := [.sl b8]
noncomputable def a6p (N : Nat) (x : List Int × List Int × List Int × Unit) : Option (List Int) :=
 (J2 ((64:Int), [x.1, (List.set (List.set (List.replicate 2 0) 0 (0:Int)) 1 (IntKind.u8.wrap (((List.length x.2.2.1) : Nat) : Int))), x.2.2.1, x.2.1], ())).bind fun r1 => (
 some r1)
theorem c1E (e0 : c8 Try.prog 13 R4) : p_dsa_meant_E.Ok Try.prog := AE.of_ok (all_cons a5x (all_cons Z1 (all_cons F8 (all_cons a2C c6)))) (all_cons ⟨e0, a0t⟩ c6)
theorem c2E (hE : p_dsa_meant_E.Ok Try.prog) {g : Ds a1P → Option (Rs a1Q)} (hg : ∀ x r, g x = some r → ∃ N, a6p N x = some r) : c8 Try.prog 26 ⟨a1P, a1Q, g⟩ :=
 i5 (E := p_dsa_meant_E) (H := c4k) (L := fun N => LT.nil) (c := c4l) (ks := a1P) (rs := a1Q) (F := a6p) hE mix Try.func26 (by kernel_rfl) (fun N => OkAll.nil) (fun _ _ => by kernel_rfl) hg
noncomputable abbrev N4 : Sig := ⟨[.sls b8], [.sl b8], m6⟩
noncomputable abbrev a4A : Sig := ⟨[.int .i64, .xs b32 256], [.sl b8, .int .i64], a2F⟩
noncomputable def p_dsa_challenge_E : AE := AE.ofI [(5, ty5), (23, ty23), (35, ty35), (40, ty40), (44, ty44)] [(16, N4), (23, a4A), (13, R4)] [] [(14, a07), (22, a6c)] [] [] []
noncomputable def a8O : Hints := [(3, [3, 4, 5, 10]), (2000000, [4, 5]), (2000001, [3, 4, 5, 10]), (3000000, [4]), (5000000, [4])]
noncomputable def a4c : Code := (Try.f41).body.getD .skip
noncomputable def b3e : Shape := mkS { tmps := pv 3 (.sc (.ptr 0 0 false) :: .sc (.nilsl) :: .sc (.vec 1 none 1) :: pv 4 (.sc (.int .i64) :: pv 15 [])), mem := [.live [.xs b32 (some 1536)] (.own), .live [.xs b8 none] (.own)] } [.nat, .int, .xs, .nat, .xs]
abbrev W46 : Type := Nat × Int × List Int × Nat × List Int × Unit
noncomputable def H9 (N : Nat) (β : Type) (x : W46) (kn : W46 → Option β) (ke : W31 → Option β) : Option β :=
 if (x.2.1 < (6:Int)) then
  if 0 ≤ x.2.1 then (
  if x.2.1 < 6 then (
  if ((x.2.1.toNat) * 256) + 256 ≤ 1536 then (
  (a2F ((4:Int), (List.take 256 (List.drop ((x.2.1.toNat) * 256) x.2.2.1)), ())).bind fun r2 => (
  if (r2.2 ≠ (0:Int)) then
   ke (.inl (r2.2, ()))
  else
   if (x.1 + (List.length r2.1)) * 1 ≤ 140737488355328 then (
   kn ((x.1 + (List.length r2.1)), (IntKind.i64.wrap (x.2.1 + (1:Int))), x.2.2.1, (x.2.2.2.1 + (List.length r2.1)), (x.2.2.2.2.1 ++ r2.1), ())) else none)) else none) else none) else none
 else
  ke (.inr (x.1, x.2.2.2.1, x.2.2.2.2.1, ()))
noncomputable def b1J : Go' W31 := fun y K => match y with
 | .inl y => K (.pan (.ifi 26 .i64) y.1) (fSt { tmps := pv 4 (.sc (.nilsl) :: pv 21 []), mem := [] } [] ())
 | .inr y => K (.exit 0) (fSt { tmps := pv 4 (.sc (.nilsl) :: .sc (.vec 0 none 1) :: pv 20 []), mem := [.live [.xs b8 none] (.own)] } [.nat, .nat, .xs] y)
noncomputable def a5s (N : Nat) : LT := upd (LT.nil) 3 (o6 b3e N (H9 N) b1J)
theorem b1K (N : Nat) : OkAll p_dsa_challenge_E a8O N (a5s N) (w9 a4c) :=
 d6 (c := d7 3 a4c) (OkAll.nil) (by kernel_rfl) (fun x => by kernel_rfl) (fun β x kn ke => by kernel_rfl)
abbrev O9 : List Kd := [.sl b8, .xs b32 1536]
abbrev P0 : List Kd := [.sl b8]
noncomputable def a0Q (N : Nat) (x : List Int × List Int × Unit) : Option (List Int) :=
 (m6 ([x.1], ())).bind fun r1 => (
 m7 (H9 N) N ((List.length r1), (0:Int), x.2.1, (List.length r1), r1, ()) fun y => (match y with
 | .inl y3 => (
  none)
 | .inr y4 => (
  (J2 ((48:Int), [y4.2.2.1], ())).bind fun r5 => (
  some r5))))
theorem b4J (e0 : c8 Try.prog 16 N4) (e1 : c8 Try.prog 23 a4A) (e2 : c8 Try.prog 13 R4) : p_dsa_challenge_E.Ok Try.prog := AE.ofI_ok (all_cons Z1 (all_cons F8 (all_cons a2C (all_cons q8 (all_cons b5g c6))))) (all_cons ⟨e0, a03⟩ (all_cons ⟨e1, a8i⟩ (all_cons ⟨e2, a0t⟩ c6))) c6 (all_cons ⟨O1, A4⟩ (all_cons ⟨a2I, Z3⟩ c6)) c6
theorem b6o (hE : p_dsa_challenge_E.Ok Try.prog) {g : Ds O9 → Option (Rs P0)} (hg : ∀ x r, g x = some r → ∃ N, a0Q N x = some r) : c8 Try.prog 41 ⟨O9, P0, g⟩ :=
 i5 (E := p_dsa_challenge_E) (H := a8O) (L := fun N => a5s N) (c := a4c) (ks := O9) (rs := P0) (F := a0Q) hE mix Try.func41 (by kernel_rfl) (fun N => b1K N) (fun _ _ => by kernel_rfl) hg
noncomputable def p_dsa_poly_E : AE := AE.ofI [(40, ty40)] [] [] [(43, a5U)] [] [] []
noncomputable def c54 : Hints := [(3000000, [4]), (5000000, [4])]
noncomputable def c55 : Code := (Try.f14).body.getD .skip
abbrev a3q : List Kd := [.xs b32 256, .int .i64]
abbrev a3r : List Kd := [.xs b32 256]
noncomputable def b2F (N : Nat) (x : List Int × Int × Unit) : Option (Int ⊕ (List Int)) :=
 if (x.2.1 ≠ (0:Int)) then
  some (.inl x.2.1)
 else
  some (.inr x.1)
theorem c2F : p_dsa_poly_E.Ok Try.prog := AE.ofI_ok (all_cons q8 c6) c6 c6 (all_cons ⟨a26, a0s⟩ c6) c6
theorem c4m (hE : p_dsa_poly_E.Ok Try.prog) {g : Ds a3q → Option (Bool × Int × Rs a3r)} (hg : ∀ x r, g x = some r → ∃ N, b2F N x = some (xr r)) : XOk Try.prog 14 ⟨a3q, a3r, (.ifi 26 .i64), g⟩ :=
 c0Z (E := p_dsa_poly_E) (H := c54) (L := fun N => LT.nil) (c := c55) (ks := a3q) (rs := a3r) (F := b2F) hE mix Try.func14 (by kernel_rfl) (fun N => OkAll.nil) (fun _ _ => by kernel_rfl) hg
noncomputable abbrev a7y : Sig := ⟨[.sl b8], [.xs b32 256, .int .i64], Z7⟩
noncomputable abbrev b68 : XSig := ⟨[.xs b32 256, .int .i64], [.xs b32 256], (.ifi 26 .i64), a5T⟩
noncomputable def p_dsa_expand_E : AE := AE.ofA [(3, ty3), (5, ty5), (23, ty23), (35, ty35), (40, ty40), (42, ty42), (88, ty88)] [(16, N4), (46, a7y)] [(14, b68)] [] [] [(14, a07), (22, a6c)] [] [] [] [] [] []
noncomputable def a7V : Hints := [(3, [0, 2, 3, 6]), (6, [0, 2, 3, 4, 6, 9]), (2000000, [2, 3]), (2000001, [0, 2, 3, 6]), (2000002, [0, 2, 3, 6]), (2000003, [0, 2, 3, 4, 6, 9]), (3000000, [2]), (5000000, [2])]
noncomputable def a1N : Code := (Try.f18).body.getD .skip
noncomputable def b76 : Shape := mkS { tmps := .sc (.vec 0 none 1) :: V :: .sc (.nilp) :: .sc (.ptr 1 0 false) :: .sc (.int .i64) :: V :: .sc (.int .i64) :: V :: V :: .sc (.int .i64) :: pv 20 [], mem := [.live [.xs b8 none] (.ro), .live [.xs b32 (some 7680)] (.own)] } [.nat, .int, .int, .int, .nat, .xs, .xs]
abbrev W47 : Type := Nat × Int × Int × Int × Nat × List Int × List Int × Unit
abbrev W48 : Type := (Int × Unit) ⊕ (Nat × Int × Nat × List Int × List Int × Unit)
noncomputable def x6 (N : Nat) (β : Type) (x : W47) (kn : W47 → Option β) (ke : W48 → Option β) : Option β :=
 if (x.2.2.2.1 < (5:Int)) then
  (m6 ([x.2.2.2.2.2.1, (List.set (List.set (List.replicate 2 0) 0 (IntKind.u8.wrap x.2.2.2.1)) 1 (IntKind.u8.wrap x.2.1))], ())).bind fun r1 => (
  (Z7 (r1, ())).bind fun r2 => (
  if 0 ≤ x.2.1 then (
  if x.2.1 < 6 then (
  (a5T (r2.1, r2.2, ())).bind fun r3 => (
  if r3.1 = true then
   ke (.inl (r3.2.1, ()))
  else
   (m6 ([x.2.2.2.2.2.1, (List.set (List.set (List.replicate 2 0) 0 (IntKind.u8.wrap x.2.2.2.1)) 1 (IntKind.u8.wrap x.2.1))], ())).bind fun r4 => (
   (Z7 (r4, ())).bind fun r5 => (
   (xg (a5T (r5.1, r5.2, ()))).bind fun r6 => (
   if 0 ≤ x.2.1 then (
   if x.2.1 < 6 then (
   if 0 ≤ x.2.2.2.1 then (
   if x.2.2.2.1 < 5 then (
   if (((x.2.1.toNat) * 1280) + ((x.2.2.2.1.toNat) * 256)) + 256 ≤ 7680 then (
   kn (x.1, x.2.1, x.2.2.1, (IntKind.i64.wrap (x.2.2.2.1 + (1:Int))), x.2.2.2.2.1, x.2.2.2.2.2.1, (List.take (((x.2.1.toNat) * 1280) + ((x.2.2.2.1.toNat) * 256)) x.2.2.2.2.2.2.1 ++ r6 ++ List.drop ((((x.2.1.toNat) * 1280) + ((x.2.2.2.1.toNat) * 256)) + 256) x.2.2.2.2.2.2.1), ())) else none) else none) else none) else none) else none))))) else none) else none))
 else
  ke (.inr (x.1, x.2.2.1, x.2.2.2.2.1, x.2.2.2.2.2.1, x.2.2.2.2.2.2.1, ()))
noncomputable def b6r : Go' W48 := fun y K => match y with
 | .inl y => K (.pan (.ifi 26 .i64) y.1) (fSt { tmps := V :: V :: .sc (.nilp) :: pv 27 [], mem := [] } [] ())
 | .inr y => K (.exit 2) (fSt { tmps := .sc (.vec 0 none 1) :: V :: .sc (.nilp) :: .sc (.ptr 1 0 false) :: V :: V :: .sc (.int .i64) :: pv 23 [], mem := [.live [.xs b8 none] (.ro), .live [.xs b32 (some 7680)] (.own)] } [.nat, .int, .nat, .xs, .xs] y)
noncomputable def a8Q (N : Nat) : LT := upd (LT.nil) 6 (o6 b76 N (x6 N) b6r)
theorem b6s (N : Nat) : OkAll p_dsa_expand_E a7V N (a8Q N) (w9 a1N) :=
 d6 (c := d7 6 a1N) (OkAll.nil) (by kernel_rfl) (fun x => by kernel_rfl) (fun β x kn ke => by kernel_rfl)
noncomputable def b75 : Shape := mkS { tmps := .sc (.vec 0 none 1) :: V :: .sc (.nilp) :: .sc (.ptr 1 0 false) :: V :: V :: .sc (.int .i64) :: pv 23 [], mem := [.live [.xs b8 none] (.ro), .live [.xs b32 (some 7680)] (.own)] } [.nat, .int, .nat, .xs, .xs]
abbrev W49 : Type := Nat × Int × Nat × List Int × List Int × Unit
abbrev W50 : Type := (Int × Unit) ⊕ (List Int × Unit)
noncomputable def x5 (N : Nat) (β : Type) (x : W49) (kn : W49 → Option β) (ke : W50 → Option β) : Option β :=
 if (x.2.1 < (6:Int)) then
  m7 (x6 N) N (x.1, x.2.1, x.2.1, (0:Int), x.2.2.1, x.2.2.2.1, x.2.2.2.2.1, ()) fun y => (match y with
  | .inl y7 => (
   ke (.inl (y7.1, ())))
  | .inr y8 => (
   kn (y8.1, (IntKind.i64.wrap (y8.2.1 + (1:Int))), y8.2.2.1, y8.2.2.2.1, y8.2.2.2.2.1, ())))
 else
  ke (.inr (x.2.2.2.2.1, ()))
noncomputable def b6p : Go' W50 := fun y K => match y with
 | .inl y => K (.pan (.ifi 26 .i64) y.1) (fSt { tmps := V :: V :: .sc (.nilp) :: pv 27 [], mem := [] } [] ())
 | .inr y => K (.exit 0) (fSt { tmps := V :: V :: .sc (.nilp) :: .sc (.ptr 0 0 false) :: pv 26 [], mem := [.live [.xs b32 (some 7680)] (.own)] } [.xs] y)
noncomputable def a8P (N : Nat) : LT := upd (a8Q N) 3 (o6 b75 N (x5 N) b6p)
theorem b6q (N : Nat) : OkAll p_dsa_expand_E a7V N (a8P N) (w9 a1N) :=
 d6 (c := d7 3 a1N) (b6s N) (by kernel_rfl) (fun x => by kernel_rfl) (fun β x kn ke => by kernel_rfl)
abbrev a0R : List Kd := [.sl b8]
abbrev a0S : List Kd := [.op [.xs b32 7680]]
noncomputable def a7m (N : Nat) (x : List Int × Unit) : Option (Int ⊕ ((List Int × Unit))) :=
 m7 (x5 N) N ((List.length x.1), (0:Int), (List.length x.1), x.1, (List.replicate 7680 0), ()) fun y => (match y with
 | .inl y9 => (
  some (.inl y9.1))
 | .inr y10 => (
  some (.inr (y10.1, ()))))
theorem b9E (e0 : c8 Try.prog 16 N4) (e1 : c8 Try.prog 46 a7y) (e2 : XOk Try.prog 14 b68) : p_dsa_expand_E.Ok Try.prog := AE.ofA_ok (all_cons a5x (all_cons Z1 (all_cons F8 (all_cons a2C (all_cons q8 (all_cons b5f (all_cons d25 c6))))))) (all_cons ⟨e0, a03⟩ (all_cons ⟨e1, b31⟩ c6)) (all_cons ⟨e2, A4⟩ c6) c6 c6 (all_cons ⟨O1, A4⟩ (all_cons ⟨a2I, Z3⟩ c6)) c6 c6 c6 c6
theorem c1D (hE : p_dsa_expand_E.Ok Try.prog) {g : Ds a0R → Option (Bool × Int × Rs a0S)} (hg : ∀ x r, g x = some r → ∃ N, a7m N x = some (xr r)) : XOk Try.prog 18 ⟨a0R, a0S, (.ifi 26 .i64), g⟩ :=
 c0Z (E := p_dsa_expand_E) (H := a7V) (L := fun N => a8P N) (c := a1N) (ks := a0R) (rs := a0S) (F := a7m) hE mix Try.func18 (by kernel_rfl) (fun N => b6q N) (fun _ _ => by kernel_rfl) hg
noncomputable def p_dsa_matrix_raised_E : AE := AE.of [(40, ty40), (42, ty42), (44, ty44), (88, ty88)] [(32, a2l), (38, P8), (21, U3)]
noncomputable def P1 : Hints := [(2, [0, 3, 4, 9]), (8, [0, 3, 4, 6, 19]), (11, [0, 3, 4, 6, 7, 19, 22]), (2000000, [0, 3, 4]), (2000001, [0, 3, 4, 9]), (2000002, [4, 6]), (2000003, [0, 3, 4, 6, 19]), (2000004, [0, 3, 4, 6, 19]), (2000005, [0, 3, 4, 6, 7, 19, 22]), (3000000, [4])]
noncomputable def t7 : Code := (Try.f34).body.getD .skip
noncomputable def a8S : Shape := mkS { tmps := .sc (.ptr 0 0 false) :: V :: V :: .sc (.ptr 1 0 false) :: .sc (.ptr 2 0 false) :: pv 4 (.sc (.int .i64) :: pv 35 []), mem := [.live [.xs b32 (some 7680)] (.ro), .live [.xs b32 (some 1280)] (.own), .live [.xs b32 (some 1536)] (.own)] } [.int, .xs, .xs, .xs]
noncomputable def x7 (N : Nat) (β : Type) (x : W4) (kn : W4 → Option β) (ke : W3 → Option β) : Option β :=
 if (x.1 < (5:Int)) then
  if 0 ≤ x.1 then (
  if x.1 < 5 then (
  if ((x.1.toNat) * 256) + 256 ≤ 1280 then (
  (a0u ((List.take 256 (List.drop ((x.1.toNat) * 256) x.2.2.1)), ())).bind fun r1 => (
  if 0 ≤ x.1 then (
  if x.1 < 5 then (
  if ((x.1.toNat) * 256) + 256 ≤ 1280 then (
  kn ((IntKind.i64.wrap (x.1 + (1:Int))), x.2.1, (List.take ((x.1.toNat) * 256) x.2.2.1 ++ r1 ++ List.drop (((x.1.toNat) * 256) + 256) x.2.2.1), x.2.2.2.1, ())) else none) else none) else none)) else none) else none) else none
 else
  ke (x.2.1, x.2.2.1, x.2.2.2.1, ())
noncomputable def a7X : Go' W3 := fun y K => K (.exit 0) (fSt { tmps := .sc (.ptr 0 0 false) :: V :: V :: .sc (.ptr 1 0 false) :: .sc (.ptr 2 0 false) :: pv 40 [], mem := [.live [.xs b32 (some 7680)] (.ro), .live [.xs b32 (some 1280)] (.own), .live [.xs b32 (some 1536)] (.own)] } [.xs, .xs, .xs] y)
noncomputable def a2M (N : Nat) : LT := upd (LT.nil) 2 (o6 a8S N (x7 N) a7X)
theorem a7Y (N : Nat) : OkAll p_dsa_matrix_raised_E P1 N (a2M N) (w9 t7) :=
 d6 (c := d7 2 t7) (OkAll.nil) (by kernel_rfl) (fun x => by kernel_rfl) (fun β x kn ke => by kernel_rfl)
noncomputable def a7W : Shape := mkS { tmps := .sc (.ptr 0 0 false) :: V :: V :: .sc (.ptr 1 0 false) :: .sc (.ptr 2 0 false) :: V :: .sc (.ptr 3 0 false) :: .sc (.int .i64) :: pv 11 (.sc (.int .i64) :: V :: V :: .sc (.int .i64) :: pv 22 []), mem := [.live [.xs b32 (some 7680)] (.ro), .live [.xs b32 (some 1280)] (.own), .live [.xs b32 (some 1536)] (.own), .live [.xs b32 (some 1536)] (.own)] } [.int, .int, .int, .xs, .xs, .xs, .xs]
abbrev W51 : Type := Int × Int × Int × List Int × List Int × List Int × List Int × Unit
abbrev W52 : Type := Int × List Int × List Int × List Int × List Int × Unit
noncomputable def v7 (N : Nat) (β : Type) (x : W51) (kn : W51 → Option β) (ke : W52 → Option β) : Option β :=
 if (x.2.2.1 < (5:Int)) then
  if 0 ≤ x.1 then (
  if x.1 < 6 then (
  if ((x.1.toNat) * 256) + 256 ≤ 1536 then (
  if 0 ≤ x.1 then (
  if x.1 < 6 then (
  if 0 ≤ x.2.2.1 then (
  if x.2.2.1 < 5 then (
  if (((x.1.toNat) * 1280) + ((x.2.2.1.toNat) * 256)) + 256 ≤ 7680 then (
  if 0 ≤ x.2.2.1 then (
  if x.2.2.1 < 5 then (
  if ((x.2.2.1.toNat) * 256) + 256 ≤ 1280 then (
  (Z4 ((List.take 256 (List.drop (((x.1.toNat) * 1280) + ((x.2.2.1.toNat) * 256)) x.2.2.2.1)), (List.take 256 (List.drop ((x.2.2.1.toNat) * 256) x.2.2.2.2.1)), ())).bind fun r3 => (
  (Q0 ((List.take 256 (List.drop ((x.1.toNat) * 256) x.2.2.2.2.2.2.1)), r3, ())).bind fun r4 => (
  if 0 ≤ x.1 then (
  if x.1 < 6 then (
  if ((x.1.toNat) * 256) + 256 ≤ 1536 then (
  kn (x.1, x.2.1, (IntKind.i64.wrap (x.2.2.1 + (1:Int))), x.2.2.2.1, x.2.2.2.2.1, x.2.2.2.2.2.1, (List.take ((x.1.toNat) * 256) x.2.2.2.2.2.2.1 ++ r4 ++ List.drop (((x.1.toNat) * 256) + 256) x.2.2.2.2.2.2.1), ())) else none) else none) else none))) else none) else none) else none) else none) else none) else none) else none) else none) else none) else none) else none
 else
  ke (x.2.1, x.2.2.2.1, x.2.2.2.2.1, x.2.2.2.2.2.1, x.2.2.2.2.2.2.1, ())
noncomputable def a6T : Go' W52 := fun y K => K (.exit 4) (fSt { tmps := .sc (.ptr 0 0 false) :: V :: V :: .sc (.ptr 1 0 false) :: .sc (.ptr 2 0 false) :: V :: .sc (.ptr 3 0 false) :: pv 12 (.sc (.int .i64) :: pv 25 []), mem := [.live [.xs b32 (some 7680)] (.ro), .live [.xs b32 (some 1280)] (.own), .live [.xs b32 (some 1536)] (.own), .live [.xs b32 (some 1536)] (.own)] } [.int, .xs, .xs, .xs, .xs] y)
noncomputable def a1O (N : Nat) : LT := upd (a2M N) 11 (o6 a7W N (v7 N) a6T)
theorem a6U (N : Nat) : OkAll p_dsa_matrix_raised_E P1 N (a1O N) (w9 t7) :=
 d6 (c := d7 11 t7) (a7Y N) (by kernel_rfl) (fun x => by kernel_rfl) (fun β x kn ke => by kernel_rfl)
noncomputable def a8T : Shape := mkS { tmps := .sc (.ptr 0 0 false) :: V :: V :: .sc (.ptr 1 0 false) :: .sc (.ptr 2 0 false) :: V :: .sc (.ptr 3 0 false) :: pv 12 (.sc (.int .i64) :: pv 25 []), mem := [.live [.xs b32 (some 7680)] (.ro), .live [.xs b32 (some 1280)] (.own), .live [.xs b32 (some 1536)] (.own), .live [.xs b32 (some 1536)] (.own)] } [.int, .xs, .xs, .xs, .xs]
noncomputable def x8 (N : Nat) (β : Type) (x : W52) (kn : W52 → Option β) (ke : W5 → Option β) : Option β :=
 if (x.1 < (6:Int)) then
  m7 (v7 N) N (x.1, x.1, (0:Int), x.2.1, x.2.2.1, x.2.2.2.1, x.2.2.2.2.1, ()) fun y5 => (
  kn ((IntKind.i64.wrap (y5.1 + (1:Int))), y5.2.1, y5.2.2.1, y5.2.2.2.1, y5.2.2.2.2.1, ()))
 else
  ke (x.2.2.2.1, x.2.2.2.2.1, ())
noncomputable def a7Z : Go' W5 := fun y K => K (.exit 2) (fSt { tmps := pv 4 (.sc (.ptr 0 0 false) :: V :: .sc (.ptr 1 0 false) :: pv 38 []), mem := [.live [.xs b32 (some 1536)] (.own), .live [.xs b32 (some 1536)] (.own)] } [.xs, .xs] y)
noncomputable def a2N (N : Nat) : LT := upd (a1O N) 8 (o6 a8T N (x8 N) a7Z)
theorem a70 (N : Nat) : OkAll p_dsa_matrix_raised_E P1 N (a2N N) (w9 t7) :=
 d6 (c := d7 8 t7) (a6U N) (by kernel_rfl) (fun x => by kernel_rfl) (fun β x kn ke => by kernel_rfl)
abbrev C8 : List Kd := [.rp (.xs b32 7680), .xs b32 1280]
abbrev C9 : List Kd := [.xs b32 1536]
noncomputable def L5 (N : Nat) (x : List Int × List Int × Unit) : Option (List Int) :=
 m7 (x7 N) N ((0:Int), x.1, x.2.1, (List.replicate 1536 0), ()) fun y2 => (
 m7 (x8 N) N ((0:Int), y2.1, y2.2.1, y2.2.2.1, (List.replicate 1536 0), ()) fun y6 => (
 some y6.2.1))
theorem a9M (e0 : c8 Try.prog 32 a2l) (e1 : c8 Try.prog 38 P8) (e2 : c8 Try.prog 21 U3) : p_dsa_matrix_raised_E.Ok Try.prog := AE.of_ok (all_cons q8 (all_cons b5f (all_cons b5g (all_cons d25 c6)))) (all_cons ⟨e0, a5a⟩ (all_cons ⟨e1, a2r⟩ (all_cons ⟨e2, a1X⟩ c6)))
theorem b0P (hE : p_dsa_matrix_raised_E.Ok Try.prog) {g : Ds C8 → Option (Rs C9)} (hg : ∀ x r, g x = some r → ∃ N, L5 N x = some r) : c8 Try.prog 34 ⟨C8, C9, g⟩ :=
 i5 (E := p_dsa_matrix_raised_E) (H := P1) (L := fun N => a2N N) (c := t7) (ks := C8) (rs := C9) (F := L5) hE mix Try.func34 (by kernel_rfl) (fun N => a70 N) (fun _ _ => by kernel_rfl) hg
noncomputable abbrev J6 : Sig := ⟨[.rp (.xs b32 7680), .xs b32 1280], [.xs b32 1536], J9⟩
noncomputable def p_dsa_matrix_times_E : AE := AE.of [(40, ty40), (42, ty42), (44, ty44)] [(34, J6), (36, a2k)]
noncomputable def a5t : Hints := [(3, [4, 5, 10]), (2000000, [4, 5]), (2000001, [4, 5, 10]), (3000000, [4])]
noncomputable def a1u : Code := (Try.f19).body.getD .skip
noncomputable def a9N : Shape := mkS { tmps := pv 4 (.sc (.ptr 0 0 false) :: .sc (.ptr 1 0 false) :: pv 4 (.sc (.int .i64) :: pv 10 [])), mem := [.live [.xs b32 (some 1536)] (.own), .live [.xs b32 (some 1536)] (.own)] } [.int, .xs, .xs]
noncomputable def A9 (N : Nat) (β : Type) (x : W18) (kn : W18 → Option β) (ke : W5 → Option β) : Option β :=
 if (x.1 < (6:Int)) then
  if 0 ≤ x.1 then (
  if x.1 < 6 then (
  if ((x.1.toNat) * 256) + 256 ≤ 1536 then (
  (a31 ((List.take 256 (List.drop ((x.1.toNat) * 256) x.2.2.1)), ())).bind fun r2 => (
  if 0 ≤ x.1 then (
  if x.1 < 6 then (
  if ((x.1.toNat) * 256) + 256 ≤ 1536 then (
  kn ((IntKind.i64.wrap (x.1 + (1:Int))), x.2.1, (List.take ((x.1.toNat) * 256) x.2.2.1 ++ r2 ++ List.drop (((x.1.toNat) * 256) + 256) x.2.2.1), ())) else none) else none) else none)) else none) else none) else none
 else
  ke (x.2.1, x.2.2.1, ())
noncomputable def a8U : Go' W5 := fun y K => K (.exit 0) (fSt { tmps := pv 4 (.sc (.ptr 0 0 false) :: .sc (.ptr 1 0 false) :: pv 15 []), mem := [.live [.xs b32 (some 1536)] (.own), .live [.xs b32 (some 1536)] (.own)] } [.xs, .xs] y)
noncomputable def a3p (N : Nat) : LT := upd (LT.nil) 3 (o6 a9N N (A9 N) a8U)
theorem a8V (N : Nat) : OkAll p_dsa_matrix_times_E a5t N (a3p N) (w9 a1u) :=
 d6 (c := d7 3 a1u) (OkAll.nil) (by kernel_rfl) (fun x => by kernel_rfl) (fun β x kn ke => by kernel_rfl)
abbrev F4 : List Kd := [.rp (.xs b32 7680), .xs b32 1280]
abbrev F5 : List Kd := [.xs b32 1536]
noncomputable def P2 (N : Nat) (x : List Int × List Int × Unit) : Option (List Int) :=
 (J9 (x.1, x.2.1, ())).bind fun r1 => (
 m7 (A9 N) N ((0:Int), (List.replicate 1536 0), r1, ()) fun y3 => (
 some y3.2.1))
theorem b0Q (e0 : c8 Try.prog 34 J6) (e1 : c8 Try.prog 36 a2k) : p_dsa_matrix_times_E.Ok Try.prog := AE.of_ok (all_cons q8 (all_cons b5f (all_cons b5g c6))) (all_cons ⟨e0, a2E⟩ (all_cons ⟨e1, a49⟩ c6))
theorem b1L (hE : p_dsa_matrix_times_E.Ok Try.prog) {g : Ds F4 → Option (Rs F5)} (hg : ∀ x r, g x = some r → ∃ N, P2 N x = some r) : c8 Try.prog 19 ⟨F4, F5, g⟩ :=
 i5 (E := p_dsa_matrix_times_E) (H := a5t) (L := fun N => a3p N) (c := a1u) (ks := F4) (rs := F5) (F := P2) hE mix Try.func19 (by kernel_rfl) (fun N => a8V N) (fun _ _ => by kernel_rfl) hg
end Go.Ax.TryP
set_option linter.unusedVariables false
namespace Go.Ax.TryP
open Go.Proofs
def bytes (zs : List Int) : Prop := ∀ z ∈ zs, 0 ≤ z ∧ z ≤ 255
def c6y (l : List (List Int)) : Prop := l.length ≤ maxLen ∧ ∀ zs ∈ l, zs.length ≤ maxLen ∧ bytes zs
theorem d29 {l : List (List Int)} : Kd.wf (.sls (.int .u8)) l ↔ c6y l := by simp [Kd.wf, c6y, bytes, U8]
theorem M8 {b : List Int} : Kd.wf (.sl (.int .u8)) b ↔ b.length ≤ maxLen ∧ bytes b := by simp only [b2I]; exact Iff.rfl
theorem c8X {l : List (List Int)} {i : Nat} (hi : i < l.length) : (l.take (i + 1)).flatten = (l.take i).flatten ++ l.getD i [] := by
 rw [List.take_succ_eq_append_getElem hi, List.flatten_append, List.getD_eq_getElem?_getD, List.getElem?_eq_getElem hi]; simp
theorem d1Q (l : List (List Int)) (i : Nat) : (l.take i).flatten.length ≤ l.flatten.length := by
 conv => rhs; rw [← List.take_append_drop i l, List.flatten_append, List.length_append]
 omega
theorem c6p : ∀ x r, m6 x = some r → ∃ N, a7q N x = some r := by
 refine d9 (ks := a0V) (rs := a0W) fun x hw hq => ?_
 obtain ⟨(l : List (List Int)), u⟩ := x
 obtain ⟨hq1, hq⟩ : l.length ≤ 1000 ∧ l.flatten.length ≤ 1000000 := hq
 refine ⟨l.length + 1, ?_⟩
 unfold a7q
 dsimp only
 refine (i8 (F := T2 (l.length + 1)) (s := fun i => (l, ((l.take i).flatten.length : Int), l, (l.length : Int), (i : Int), ())) (y := (l, (l.flatten.length : Int), ())) l.length rfl ?_ ?_ _ (by omega)).trans ?_
 ·intro i hi kn
  have h1 := d1Q l (i + 1)
  rw [c8X hi] at h1 ⊢
  rw [List.length_append] at h1 ⊢
  unfold T2
  dsimp only
  rw [if_pos (by omega), if_pos (by omega), if_pos (by omega), Int.toNat_natCast, c7 (by omega) (by omega), c7 (by omega) (by omega), Int.natCast_add]
  rfl
 ·intro kn
  unfold T2
  dsimp only
  rw [if_neg (by omega), List.take_length]
 dsimp only
 rw [if_pos (by omega), if_pos (by omega), if_pos (by omega)]
 refine (i8 (F := T3 (l.length + 1)) (s := fun i => ((l.take i).flatten.length, l, (l.length : Int), (i : Int), (l.take i).flatten.length, (l.take i).flatten, ()))
  (y := (l.flatten.length, l.flatten.length, l.flatten, ())) l.length rfl ?_ ?_ _ (by omega)).trans ?_
 ·intro i hi kn
  have h1 := d1Q l (i + 1)
  rw [c8X hi] at h1 ⊢
  rw [List.length_append] at h1 ⊢
  unfold T3
  dsimp only
  rw [if_pos (by omega), if_pos (by omega), if_pos (by omega), Int.toNat_natCast, if_pos (by omega), c7 (by omega) (by omega)]
  rfl
 ·intro kn
  unfold T3
  dsimp only
  rw [if_neg (by omega), List.take_length]
 ·rfl
theorem c0n {l : List (List Int)} (h : l.length ≤ 1000 ∧ l.flatten.length ≤ 1000000) (hr : c6y l) : m6 (l, ()) = some l.flatten :=
 d8 (ks := a0V) (rs := a0W) (x := (l, ())) ⟨d29.2 hr, trivial⟩ h
theorem d4I {a b : Int} (ha : 0 ≤ a ∧ a ≤ 255) (hb : 0 ≤ b ∧ b ≤ 255) {x : Int} (hx : 0 ≤ x ∧ x ≤ 255) :
  (0 ≤ ior .u8 x (b9d .u8 a b) ∧ ior .u8 x (b9d .u8 a b) ≤ 255) ∧ (ior .u8 x (b9d .u8 a b) = 0 ↔ x = 0 ∧ a = b) := by
 obtain ⟨a, rfl⟩ : ∃ m : Nat, a = m := ⟨a.toNat, by omega⟩
 obtain ⟨b, rfl⟩ : ∃ m : Nat, b = m := ⟨b.toNat, by omega⟩
 obtain ⟨x, rfl⟩ : ∃ m : Nat, x = m := ⟨x.toNat, by omega⟩
 have ha' : a < 2 ^ 8 := by omega
 have hb' : b < 2 ^ 8 := by omega
 have hx' : x < 2 ^ 8 := by omega
 have h1 : a ^^^ b < 2 ^ 8 := Nat.xor_lt_two_pow ha' hb'
 have h2 : x ||| (a ^^^ b) < 2 ^ 8 := Nat.or_lt_two_pow hx' h1
 rw [c0d (k := .u8) rfl ha' hb', c37 (k := .u8) rfl hx' h1]
 refine ⟨by omega, ?_⟩
 constructor
 ·intro h
  have h : x ||| (a ^^^ b) = 0 := by omega
  have hz : ∀ i, (x ||| (a ^^^ b)).testBit i = false := fun i => by rw [h]; exact Nat.zero_testBit i
  have hx0 : x = 0 := Nat.eq_of_testBit_eq fun i => by
   have := hz i
   rw [Nat.testBit_or, Bool.or_eq_false_iff] at this
   rw [this.1]; simp
  have hab : a = b := Nat.eq_of_testBit_eq fun i => by
   have := hz i
   rw [Nat.testBit_or, Bool.or_eq_false_iff, Nat.testBit_xor] at this
   have := this.2
   cases h1 : a.testBit i <;> cases h2 : b.testBit i <;> simp_all
  rw [hx0, hab]; simp
 ·rintro ⟨k1, k2⟩
  have k1 : x = 0 := by omega
  have k2 : a = b := by omega
  rw [k1, k2]
  simp
def c77 (a b : List Int) : Nat → Int
 | 0 => 0
 | i + 1 => ior .u8 (c77 a b i) (b9d .u8 (a.getD i 0) (b.getD i 0))
theorem c8F {a : List Int} (h : bytes a) (i : Nat) : 0 ≤ a.getD i 0 ∧ a.getD i 0 ≤ 255 := by
 rw [List.getD_eq_getElem?_getD]
 cases e : a[i]? with
 | none => simp
 | some z => exact h z (List.mem_of_getElem? e)
theorem c3s {a b : List Int} (ha : bytes a) (hb : bytes b) (hl : a.length = b.length) : ∀ i, i ≤ a.length → (0 ≤ c77 a b i ∧ c77 a b i ≤ 255) ∧ (c77 a b i = 0 ↔ a.take i = b.take i)
 | 0, _ => by simp [c77]
 | i + 1, hi => by
  obtain ⟨h1, h2⟩ := c3s ha hb hl i (by omega)
  obtain ⟨g1, g2⟩ := d4I (c8F ha i) (c8F hb i) h1
  refine ⟨g1, g2.trans ?_⟩
  rw [h2, List.take_succ_eq_append_getElem (show i < a.length by omega), List.take_succ_eq_append_getElem (show i < b.length by omega)]
  have e : List.take i a ++ [a[i]] = List.take i b ++ [b[i]] ↔ List.take i a = List.take i b ∧ a[i] = b[i] :=
   ⟨fun h => by obtain ⟨p, q⟩ := List.append_inj h (by simp; omega); exact ⟨p, by simpa using q⟩, fun h => by rw [h.1, h.2]⟩
  rw [e]
  simp [List.getD_eq_getElem?_getD, List.getElem?_eq_getElem (show i < a.length by omega), List.getElem?_eq_getElem (show i < b.length by omega)]
theorem c6q : ∀ x r, a63 x = some r → ∃ N, a7r N x = some r := by
 refine d9 (ks := a0X) (rs := a6D) fun x hw hq => ?_
 obtain ⟨(a : List Int), (b : List Int), u⟩ := x
 obtain ⟨ha1, ha2⟩ : a.length ≤ maxLen ∧ bytes a := M8.1 hw.1
 obtain ⟨hb1, hb2⟩ : b.length ≤ maxLen ∧ bytes b := M8.1 hw.2.1
 have hM : maxLen = 9223372036854775807 := by decide
 refine ⟨a.length + 1, ?_⟩
 unfold a7r
 dsimp only
 by_cases hl : a.length = b.length
 ·rw [if_neg (by omega)]
  refine (i8 (F := T4 (a.length + 1)) (s := fun i => (a.length, b.length, c77 a b i, (a.length : Int), (i : Int), a.length, a, b.length, b, ())) (y := (c77 a b a.length, ())) a.length rfl ?_ ?_ (a.length + 1) (by omega)).trans ?_
  ·intro i hi kn
   unfold T4
   dsimp only
   rw [if_pos (by omega), if_pos (by omega), if_pos (by omega), Int.toNat_natCast, if_pos (by omega), if_pos (by omega), if_pos (by omega), if_pos (by omega), c7 (by omega) (by omega)]
   rfl
  ·intro kn
   unfold T4
   dsimp only
   rw [if_neg (by omega)]
  ·dsimp only
   refine congrArg some (decide_eq_decide.2 ?_)
   rw [(c3s ha2 hb2 hl a.length (Nat.le_refl _)).2, List.take_length, hl, List.take_length]
 ·rw [if_pos (by omega)]
  exact congrArg some (decide_eq_false (fun h => hl (by rw [show a = b from h]))).symm
theorem d5z {a b : List Int} (ha : a.length ≤ maxLen ∧ bytes a) (hb : b.length ≤ maxLen ∧ bytes b) : a63 (a, b, ()) = some (decide (a = b)) :=
 d8 (ks := a0X) (rs := a6D) (x := (a, b, ())) ⟨M8.2 ha, M8.2 hb, trivial⟩ trivial
end Go.Ax.TryP
set_option linter.unusedVariables false
namespace Go.Ax.TryP
open Go.Proofs
theorem mB {n : Nat} (h : n ≤ 10000000) : n ≤ maxLen := by
 unfold maxLen
 omega
theorem d0V {d : Int} (h : 0 ≤ d ∧ d ≤ 1000000) : a27 .i64 d := u2.2 (by omega)
theorem d0x : ∀ x r, a5T x = some r → ∃ N, b2F N x = some (xr r) := by
 refine b5j (ks := a3q) (rs := a3r) fun x hw hq => ⟨0, ?_⟩
 obtain ⟨(a : List Int), (e : Int), u⟩ := x
 unfold b2F
 dsimp only
 by_cases h : e = 0
 ·rw [if_neg (by simp [h])]
  simp [xr, h]
 ·rw [if_pos h]
  simp [xr, h]
theorem d0w : ∀ x r, J2 x = some r → ∃ N, a8R N x = some r := by
 refine d9 (ks := a3n) (rs := a3o) fun x hw hq => ⟨0, ?_⟩
 obtain ⟨(n : Int), (l : List (List Int)), u⟩ := x
 have hn : 0 ≤ n ∧ n ≤ 1000 := hq
 have hl : a0Y l := a2i.1 hw.2.1
 show a8R 0 (n, l, u) = some (a3O l.flatten n.toNat)
 obtain ⟨m, rfl⟩ : ∃ m : Nat, n = m := ⟨n.toNat, by omega⟩
 have e := c8v (b := 256) (Or.inr rfl) (n := m) (by omega) hl
 rw [if_neg (by decide)] at e
 unfold a8R
 dsimp only
 rw [e, Option.bind_some, if_neg (by simp), Int.toNat_natCast]
 rfl
theorem b7d {n : Nat} {l : List (List Int)} (hn : n ≤ 1000) (hl : a0Y l) : J2 ((n : Int), l, ()) = some (a3O l.flatten n) :=
 d8 (ks := a3n) (rs := a3o) (x := ((n : Int), l, ())) (Q := fun x => 0 ≤ x.1 ∧ x.1 ≤ 1000) (f := fun x => a3O x.2.1.flatten x.1.toNat) ⟨d0V ⟨by show 0 ≤ (n : Int); omega, by show (n : Int) ≤ 1000000; omega⟩, a2i.2 hl, trivial⟩ ⟨by show 0 ≤ (n : Int); omega, by show (n : Int) ≤ 1000; omega⟩
theorem d2A : ∀ x r, a8s x = some r → ∃ N, b1O N x = some r := by
 refine d9 (ks := b1P) (rs := a4Y) fun x hw hq => ⟨0, ?_⟩
 obtain ⟨(n : Int), u⟩ := x
 have hn : 0 ≤ n ∧ n ≤ 65535 := hq
 obtain ⟨m, rfl⟩ : ∃ m : Nat, n = m := ⟨n.toNat, by omega⟩
 show b1O 0 ((m : Int), u) = some (c9E m)
 have e : b9c .i64 (m : Int) 8 = ((m / 256 : Nat) : Int) := a9o (k := .i64) (m := m) (s := 8) (by decide)
 unfold b1O c9E
 dsimp only
 rw [e, a97, a97]
 rfl
theorem c5l {n : Nat} (hn : n ≤ 65535) : a8s ((n : Int), ()) = some (c9E n) :=
 d8 (ks := b1P) (rs := a4Y) (x := ((n : Int), ())) ⟨d0V ⟨by show 0 ≤ (n : Int); omega, by show (n : Int) ≤ 1000000; omega⟩, trivial⟩ ⟨by show 0 ≤ (n : Int); omega, by show (n : Int) ≤ 65535; omega⟩
theorem c7V : ∀ x r, a2s x = some r → ∃ N, a6p N x = some r := by
 refine d9 (ks := a1P) (rs := a1Q) fun x hw hq => ⟨0, ?_⟩
 obtain ⟨(tr : List Int), (msg : List Int), (ctx : List Int), u⟩ := x
 have h1 : tr.length ≤ maxLen ∧ bytes tr := M8.1 hw.1
 have h2 : msg.length ≤ maxLen ∧ bytes msg := M8.1 hw.2.1
 have h3 : ctx.length ≤ maxLen ∧ bytes ctx := M8.1 hw.2.2.1
 show a6p 0 (tr, msg, ctx, u) = some (c5X tr msg ctx)
 unfold a6p
 dsimp only
 have e1 : List.set (List.set (List.replicate 2 (0 : Int)) 0 0) 1 (IntKind.u8.wrap (ctx.length : Int)) = [0, (ctx.length : Int) % 256] := by rw [a97]; rfl
 have hl : a0Y [tr, [0, (ctx.length : Int) % 256], ctx, msg] := ⟨mB (by simp), fun zs hzs => by
  rcases List.mem_cons.1 hzs with rfl | hzs
  ·exact h1
  rcases List.mem_cons.1 hzs with rfl | hzs
  ·refine ⟨mB (by simp), fun z hz => ?_⟩
   rcases List.mem_cons.1 hz with rfl | hz
   ·omega
   ·rw [List.mem_singleton.1 hz]; omega
  rcases List.mem_cons.1 hzs with rfl | hzs
  ·exact h3
  ·rw [List.mem_singleton.1 hzs]; exact h2⟩
 have e2 := b7d (n := 64) (by omega) hl
 rw [show [tr, [0, (ctx.length : Int) % 256], ctx, msg].flatten = tr ++ [0, (ctx.length : Int) % 256] ++ ctx ++ msg by simp] at e2
 rw [e1, show (64 : Int) = ((64 : Nat) : Int) from rfl, e2, Option.bind_some]
 rfl
theorem c8y {tr msg ctx : List Int} (h1 : tr.length ≤ maxLen ∧ bytes tr) (h2 : msg.length ≤ maxLen ∧ bytes msg) (h3 : ctx.length ≤ maxLen ∧ bytes ctx) : a2s (tr, msg, ctx, ()) = some (c5X tr msg ctx) :=
 d8 (ks := a1P) (rs := a1Q) (x := (tr, msg, ctx, ())) ⟨M8.2 h1, M8.2 h2, M8.2 h3, trivial⟩ trivial
end Go.Ax.TryP
set_option linter.unusedVariables false
namespace Go.Ax.TryP
open Go.Proofs
theorem d3W {m n : Nat} (hm : m < 2 ^ 60) (hn : n < 2 ^ 60) : b8H .i64 (m : Int) (n : Int) = ((m &&& n : Nat) : Int) := by
 unfold b8H
 rw [BitVec.toNat_and, a1W (k := .i64) (by show m < 2 ^ 64; omega), a1W (k := .i64) (by show n < 2 ^ 64; omega)]
 have h : m &&& n ≤ m := Nat.and_le_left
 exact c7 (by omega) (by omega)
theorem d5K {x : Int} (h0 : 0 ≤ x) (h1 : x < 2 ^ 60) {s : Nat} (hs : s ≤ 60) : b8H .i64 (b9c .i64 x (s : Int)) 1 = c66 x s := by
 obtain ⟨m, rfl⟩ : ∃ m : Nat, x = m := ⟨x.toNat, by omega⟩
 rw [a9o (by show s ≤ 64; omega), c8B, show (1 : Int) = ((1 : Nat) : Int) from rfl, d3W (Nat.lt_of_le_of_lt (Nat.div_le_self _ _) (by omega)) (by decide), d9l]
theorem d72 {w i k : Nat} (l : List Int) (hk : k < w) : pkE w l (i * w + k) = c66 (l.getD i 0) k := by
 unfold pkE
 rw [show (i * w + k) / w = i by rw [Nat.add_comm, Nat.add_mul_div_right _ _ (by omega), Nat.div_eq_of_lt hk, Nat.zero_add], show (i * w + k) % w = k by rw [Nat.add_comm, Nat.add_mul_mod_self_right, Nat.mod_eq_of_lt hk]]
theorem d73 (w : Nat) (l : List Int) (t : Nat) : 0 ≤ pkE w l t ∧ pkE w l t ≤ 1 := d1l _ _
theorem d5b {w : Nat} (h : w ≤ 23) : (2 : Int) ^ w ≤ 8388608 := by
 have h2 : (2 : Nat) ^ w ≤ 8388608 := Nat.le_trans (Nat.pow_le_pow_right (n := 2) (j := 23) (by decide) h) (by decide)
 have h3 : ((2 ^ w : Nat) : Int) = (2 : Int) ^ w := by simp
 rw [← h3]
 omega
theorem c6j : ∀ x r, a4M x = some r → ∃ N, a4U N x = some r := by
 refine d9 (ks := a0L) (rs := a0M) fun x hw hq => ⟨300, ?_⟩
 obtain ⟨(w : Int), (l : List Int), u⟩ := x
 have hw1 : 1 ≤ w ∧ w ≤ 23 := hq.1
 have hin : inW w.toNat l := hq.2
 obtain ⟨d, rfl⟩ : ∃ d : Nat, w = d := ⟨w.toNat, by omega⟩
 have h0 : 1 ≤ d := by omega
 have h1 : d ≤ 23 := by omega
 rw [Int.toNat_natCast] at hin
 have hp := d5b h1
 show a4U 300 ((d : Int), l, u) = some (pkW ((d : Int)).toNat l, 0)
 rw [Int.toNat_natCast]
 have e1 : IntKind.i64.wrap ((32 : Int) * (d : Int)) = ((32 * d : Nat) : Int) := by rw [c7 (by omega) (by omega)]; omega
 have e2 : b0A .i64 (1 : Int) (d : Int) = 2 ^ d := by
  show IntKind.i64.wrap ((1 : Int) * 2 ^ min ((d : Int)).toNat 64) = _
  rw [Int.toNat_natCast, Nat.min_eq_left (by omega), Int.one_mul]
  have : (0 : Int) < 2 ^ d := Int.pow_pos (by omega)
  exact c7 (by omega) (by omega)
 unfold a4U
 dsimp only
 rw [if_neg (by omega), if_neg (by omega), e1, if_pos (by omega), if_pos rfl, if_pos (by omega), Int.toNat_natCast]
 have e0 : List.replicate (32 * d) 0 = a5q (c6S (pkE d l) (0 * d)) (32 * d) := by rw [Nat.zero_mul, c7j]
 rw [e0]
 refine (J0 (F := S5 300) (s := fun i => ((d : Int), 32 * d, l, (i : Int), 32 * d, a5q (c6S (pkE d l) (i * d)) (32 * d), ())) (y := .inr (32 * d, 32 * d, a5q (pkE d l) (32 * d), ())) 256 ?_ ?_ 300 (by omega)).trans rfl
 ·intro i hi kn
  obtain ⟨z0, z1⟩ := hin i hi
  unfold S5
  dsimp only
  rw [if_pos (by omega), if_pos (by omega), if_pos (by omega), Int.toNat_natCast, if_pos (by omega), if_neg (by omega), if_neg (by omega), e2, if_neg (by omega)]
  refine (J0 (F := O8 300) (s := fun k => ((d : Int), 32 * d, (i : Int), l.getD i 0, l, (i : Int), (d : Int), (k : Int), 32 * d, a5q (c6S (pkE d l) (i * d + k)) (32 * d), ()))
   (y := ((d : Int), 32 * d, l, (i : Int), 32 * d, a5q (c6S (pkE d l) (i * d + d)) (32 * d), ())) d ?_ ?_ 300 (by omega)).trans ?_
  ·intro k hk kn
   have hle := d7O (d := d) hi
   have hb := d1l (l.getD i 0) k
   have ee := d72 (i := i) l hk
   have em : (i : Int) * d = ((i * d : Nat) : Int) := by simp
   have ea : ((i * d : Nat) : Int) + k = ((i * d + k : Nat) : Int) := by simp
   have ed : ((i * d + k : Nat) : Int) / 8 = (((i * d + k) / 8 : Nat) : Int) := by omega
   have er : ((i * d + k : Nat) : Int) % 8 = (((i * d + k) % 8 : Nat) : Int) := by omega
   unfold O8
   dsimp only
   rw [if_pos (by omega), em, c7 (x := ((i * d : Nat) : Int)) (by omega) (by omega), ea, c7 (x := ((i * d + k : Nat) : Int)) (by omega) (by omega), a95 (by omega), a96 (by omega), ed, er,
    c7 (x := (((i * d + k) / 8 : Nat) : Int)) (by omega) (by omega)]
   simp (disch := omega) only [if_pos, if_neg, Int.toNat_natCast]
   rw [d5K z0 (by omega) (show k ≤ 60 by omega), b8y hb.1 (by omega), ← ee, c7i (fun t _ => d73 d l t) (by omega), c7 (by omega) (by omega), Int.natCast_add]
   rfl
  ·intro kn
   unfold O8
   dsimp only
   rw [if_neg (by omega)]
  ·dsimp only
   rw [c7 (by omega) (by omega), Int.natCast_add, show (i + 1) * d = i * d + d from Nat.succ_mul i d]
   rfl
 ·intro kn
  unfold S5
  dsimp only
  rw [if_neg (by omega), show 256 * d = 8 * (32 * d) by omega, c97]
end Go.Ax.TryP
set_option linter.unusedVariables false
namespace Go.Ax.TryP
open Go.Proofs
abbrev d84 (n : Nat) (a : List Int) : Prop := rows (-9223372036854775808) 9223372036854775807 n a
theorem d61 {n : Nat} {a : List Int} : Kd.wf (.xs (.int .i64) n) a ↔ d84 n a := by simp [Kd.wf, rows, u2]
theorem d1e {d : Nat} {l : List Int} (hd : 1 ≤ d ∧ d ≤ 23) (hl : d84 256 l) (hin : inW d l) : a4M ((d : Int), l, ()) = some (pkW d l, 0) :=
 (d8 (ks := a0L) (rs := a0M) (x := ((d : Int), l, ())) (Q := fun x => (1 ≤ x.1 ∧ x.1 ≤ 23) ∧ inW x.1.toNat x.2.1) (f := fun x => (pkW x.1.toNat x.2.1, 0)) ⟨d0V ⟨by show 0 ≤ (d : Int); omega, by show (d : Int) ≤ 1000000; omega⟩, d61.2 hl, trivial⟩
  ⟨⟨by show 1 ≤ (d : Int); omega, by show (d : Int) ≤ 23; omega⟩, by show inW ((d : Int)).toNat l; rw [Int.toNat_natCast]; exact hin⟩).trans (by show some (pkW ((d : Int)).toNat l, (0 : Int)) = _; rw [Int.toNat_natCast])
theorem d10 {d : Nat} (hd : d ≤ 23) {l : List Int} (hl : l.length = 256) (h : inW d l) : d84 256 l := by
 have hp := d5b hd
 refine ⟨hl, fun z hz => ?_⟩
 obtain ⟨i, hi, rfl⟩ := List.mem_iff_getElem.1 hz
 have := h i (by omega)
 rw [List.getD_eq_getElem?_getD, List.getElem?_eq_getElem hi, Option.getD_some] at this
 omega
theorem d31 {a : List Int} (h : a.length = 256) : (List.range 256).map (fun i => a.getD i 0) = a := by
 refine List.ext_getElem (by simp [h]) fun i h1 h2 => ?_
 rw [List.getElem_map, List.getElem_range, List.getD_eq_getElem?_getD, List.getElem?_eq_getElem h2, Option.getD_some]
theorem c6g : ∀ x r, a2F x = some r → ∃ N, a4P N x = some r := by
 refine d9 (ks := a0E) (rs := a0F) fun x hw hq => ⟨300, ?_⟩
 obtain ⟨(w : Int), (a : List Int), u⟩ := x
 have hw1 : 1 ≤ w ∧ w ≤ 23 := hq.1
 have hin : inW w.toNat (B8 a) := hq.2
 have ha : E5 256 a := v8.1 hw.2.1
 obtain ⟨d, rfl⟩ : ∃ d : Nat, w = d := ⟨w.toNat, by omega⟩
 show a4P 300 ((d : Int), a, u) = some (pkW ((d : Int)).toNat (B8 a), 0)
 rw [Int.toNat_natCast] at hin ⊢
 have hl : (B8 a).length = 256 := a1y _
 have hat := c30 a
 unfold a4P
 dsimp only
 rw [b5l ha, Option.bind_some]
 generalize B8 a = r at hin hl hat ⊢
 refine (i8 (F := S0 300) (s := fun i => ((d : Int), r, (i : Int), part (fun i => r.getD i 0) i (List.replicate 256 0), ())) (y := ((d : Int), r, ())) 256 rfl ?_ ?_ 300 (by omega)).trans ?_
 ·intro i hi kn
  have := hat i
  unfold S0
  dsimp only
  rw [if_pos (by omega), if_pos (by omega), if_pos (by omega), Int.toNat_natCast, if_pos (by omega), if_pos (by omega), if_pos (by omega), if_pos (by omega), c7 (x := r.getD i 0) (by omega) (by omega), c7 (by omega) (by omega), u3 (h := fun i => r.getD i 0) (by rw [List.length_replicate]; exact hi) rfl]
  rfl
 ·intro kn
  unfold S0
  dsimp only
  rw [if_neg (by omega), B7 (n := 256) (by rw [List.length_replicate]), d31 hl]
 ·dsimp only
  rw [d1e ⟨by omega, by omega⟩ (d10 (by omega) hl hin) hin, Option.bind_some]
theorem c8t {d : Nat} {a : List Int} (hd : 1 ≤ d ∧ d ≤ 23) (ha : E5 256 a) (hin : inW d (B8 a)) : a2F ((d : Int), a, ()) = some (pkW d (B8 a), 0) :=
 (d8 (ks := a0E) (rs := a0F) (x := ((d : Int), a, ())) (Q := fun x => (1 ≤ x.1 ∧ x.1 ≤ 23) ∧ inW x.1.toNat (B8 x.2.1)) (f := fun x => (pkW x.1.toNat (B8 x.2.1), 0)) ⟨d0V ⟨by show 0 ≤ (d : Int); omega, by show (d : Int) ≤ 1000000; omega⟩, v8.2 ha, trivial⟩
  ⟨⟨by show 1 ≤ (d : Int); omega, by show (d : Int) ≤ 23; omega⟩, by show inW ((d : Int)).toNat _; rw [Int.toNat_natCast]; exact hin⟩).trans (by show some (pkW ((d : Int)).toNat (B8 a), (0 : Int)) = _; rw [Int.toNat_natCast])
end Go.Ax.TryP
set_option linter.unusedVariables false
namespace Go.Ax.TryP
open Go.Proofs
theorem d3P (a : List Int) (i : Nat) : -4190208 ≤ (b35 a).getD i 0 ∧ (b35 a).getD i 0 ≤ 4190208 := by
 by_cases hi : i < 256
 ·rw [b2v hi]; have := d1K (a.getD i 0); omega
 ·have hl : (b35 a).length = 256 := a1y _
  rw [List.getD_eq_getElem?_getD, List.getElem?_eq_none (by omega), Option.getD_none]
  omega
theorem b9R : ∀ x r, n9 x = some r → ∃ N, Y1 N x = some r := by
 refine d9 (ks := K5) (rs := K6) fun x hw hq => ⟨300, ?_⟩
 obtain ⟨(top : Int), (w : Int), (a : List Int), u⟩ := x
 have hw1 : 1 ≤ w ∧ w ≤ 23 := hq.1
 have ht : 0 ≤ top ∧ top ≤ 1000000 := hq.2.1
 have hin : inW w.toNat (a30 top a) := hq.2.2
 have ha : E5 256 a := v8.1 hw.2.2.1
 obtain ⟨d, rfl⟩ : ∃ d : Nat, w = d := ⟨w.toNat, by omega⟩
 show Y1 300 (top, (d : Int), a, u) = some (pkW ((d : Int)).toNat (a30 top a), 0)
 rw [Int.toNat_natCast] at hin ⊢
 have hat := d3P a
 have hl : (a30 top a).length = 256 := a1y _
 have hT : a30 top a = (List.range 256).map fun i => top - (b35 a).getD i 0 := rfl
 unfold Y1
 dsimp only
 rw [c5c ha, Option.bind_some]
 generalize b35 a = r at hat hT ⊢
 refine (i8 (F := E6 300) (s := fun i => (top, (d : Int), r, (i : Int), part (fun i => top - r.getD i 0) i (List.replicate 256 0), ())) (y := ((d : Int), a30 top a, ())) 256 rfl ?_ ?_ 300 (by omega)).trans ?_
 ·intro i hi kn
  have := hat i
  unfold E6
  dsimp only
  rw [if_pos (by omega), if_pos (by omega), if_pos (by omega), Int.toNat_natCast, if_pos (by omega), if_pos (by omega), if_pos (by omega), if_pos (by omega), c7 (x := r.getD i 0) (by omega) (by omega), c7 (x := top) (by omega) (by omega), c7 (x := top - r.getD i 0) (by omega) (by omega), c7 (by omega) (by omega), u3 (h := fun i => top - r.getD i 0) (by rw [List.length_replicate]; exact hi) rfl]
  rfl
 ·intro kn
  unfold E6
  dsimp only
  rw [if_neg (by omega), B7 (n := 256) (by rw [List.length_replicate]), hT]
 ·dsimp only
  rw [d1e ⟨by omega, by omega⟩ (d10 (by omega) hl hin) hin, Option.bind_some]
theorem a9e {top : Int} {d : Nat} {a : List Int} (hd : 1 ≤ d ∧ d ≤ 23) (ht : 0 ≤ top ∧ top ≤ 1000000) (ha : E5 256 a) (hin : inW d (a30 top a)) : n9 (top, (d : Int), a, ()) = some (pkW d (a30 top a), 0) :=
 (d8 (ks := K5) (rs := K6) (x := (top, (d : Int), a, ())) (Q := fun x => (1 ≤ x.2.1 ∧ x.2.1 ≤ 23) ∧ (0 ≤ x.1 ∧ x.1 ≤ 1000000) ∧ inW x.2.1.toNat (a30 x.1 x.2.2.1)) (f := fun x => (pkW x.2.1.toNat (a30 x.1 x.2.2.1), 0)) ⟨s9.2 (by omega), d0V ⟨by show 0 ≤ (d : Int); omega, by show (d : Int) ≤ 1000000; omega⟩, v8.2 ha, trivial⟩
  ⟨⟨by show 1 ≤ (d : Int); omega, by show (d : Int) ≤ 23; omega⟩, ht, by show inW ((d : Int)).toNat _; rw [Int.toNat_natCast]; exact hin⟩).trans (by show some (pkW ((d : Int)).toNat (a30 top a), (0 : Int)) = _; rw [Int.toNat_natCast])
end Go.Ax.TryP
set_option linter.unusedVariables false
namespace Go.Ax.TryP
open Go.Proofs
def N2 (f : Nat → List Int) : Nat → List Int
 | 0 => []
 | n + 1 => N2 f n ++ f n
theorem a0i {f : Nat → List Int} {w : Nat} : ∀ {n : Nat}, (∀ i, i < n → (f i).length = w) → (N2 f n).length = n * w
 | 0, _ => by simp [N2]
 | n + 1, h => by
  rw [N2, List.length_append, a0i fun i hi => h i (by omega), h n (by omega), Nat.succ_mul]
theorem c7D {A B C : List Int} {i : Nat} (hA : A.length = i * 256) (hB : B.length = 256) : List.take 256 (List.drop (i * 256) (A ++ B ++ C)) = B := by
 rw [List.append_assoc, List.drop_left' hA, List.take_left' hB]
theorem d2i {A B C v : List Int} {i : Nat} (hA : A.length = i * 256) (hB : B.length = 256) : List.take (i * 256) (A ++ B ++ C) ++ v ++ List.drop (i * 256 + 256) (A ++ B ++ C) = A ++ v ++ C := by
 rw [List.append_assoc A B C, List.take_left' hA, ← List.append_assoc A B C, List.drop_left' (by rw [List.length_append, hA, hB])]
def a1g (f : Nat → List Int) (z : List Int) (i : Nat) : List Int := N2 f i ++ z.drop (i * 256)
theorem c0y {z : List Int} {n i : Nat} (hz : z.length = n * 256) (hi : i < n) : z.drop (i * 256) = chD z i ++ z.drop ((i + 1) * 256) := by
 unfold chD
 rw [Nat.succ_mul, ← List.drop_drop, List.take_append_drop]
theorem c3O {z : List Int} {n i : Nat} (hz : z.length = n * 256) (hi : i < n) : (chD z i).length = 256 := by
 have : (i + 1) * 256 ≤ n * 256 := Nat.mul_le_mul_right _ hi
 unfold chD
 rw [List.length_take, List.length_drop, hz]
 omega
theorem D9 (f : Nat → List Int) (z : List Int) : a1g f z 0 = z := by simp [a1g, N2]
theorem P6 {f : Nat → List Int} {z : List Int} {n : Nat} (hz : z.length = n * 256) : a1g f z n = N2 f n := by
 unfold a1g
 rw [List.drop_eq_nil_of_le (by omega), List.append_nil]
theorem c59 {f : Nat → List Int} {z : List Int} {n i : Nat} (hz : z.length = n * 256) (hf : ∀ j, j < n → (f j).length = 256) (hi : i < n) : List.take 256 (List.drop (i * 256) (a1g f z i)) = chD z i := by
 unfold a1g
 rw [c0y hz hi, ← List.append_assoc]
 exact c7D (a0i fun j hj => hf j (by omega)) (c3O hz hi)
theorem P7 {f : Nat → List Int} {z : List Int} {n i : Nat} (hz : z.length = n * 256) (hf : ∀ j, j < n → (f j).length = 256) (hi : i < n) : List.take (i * 256) (a1g f z i) ++ f i ++ List.drop (i * 256 + 256) (a1g f z i) = a1g f z (i + 1) := by
 unfold a1g
 rw [c0y hz hi, ← List.append_assoc, d2i (a0i fun j hj => hf j (by omega)) (c3O hz hi)]
 rfl
theorem d3L {f : Nat → List Int} {n : Nat} (h : ∀ j, j < n → (f j).length = 256) : List.drop (n * 256) (N2 f n ++ f n) = f n := List.drop_left' (a0i h)
theorem a9g {f : Nat → List Int} : ∀ {n i : Nat}, (∀ j, j < n → (f j).length = 256) → i < n → chD (N2 f n) i = f i
 | 0, i, _, hi => absurd hi (Nat.not_lt_zero i)
 | n + 1, i, h, hi => by
  by_cases e : i = n
  ·rw [e]
   have hn := h n (Nat.lt_succ_self n)
   unfold chD N2
   rw [d3L fun j hj => h j (Nat.lt_succ_of_lt hj)]
   exact List.take_of_length_le (Nat.le_of_eq hn)
  ·have ih := a9g (f := f) (n := n) (i := i) (fun j hj => h j (Nat.lt_succ_of_lt hj)) (by omega)
   have hl := a0i (f := f) (w := 256) (n := n) fun j hj => h j (Nat.lt_succ_of_lt hj)
   have h3 : (i + 1) * 256 ≤ n * 256 := Nat.mul_le_mul_right 256 (show i + 1 ≤ n by omega)
   rw [Nat.succ_mul] at h3
   have h1 : i * 256 ≤ (N2 f n).length := by rw [hl]; exact Nat.le_trans (Nat.le_add_right _ _) h3
   have h2 : 256 ≤ (List.drop (i * 256) (N2 f n)).length := by rw [List.length_drop, hl]; exact Nat.le_sub_of_add_le (by rw [Nat.add_comm]; exact h3)
   unfold chD at ih ⊢
   rw [N2, List.drop_append_of_le_length h1, List.take_append_of_le_length h2, ih]
end Go.Ax.TryP
set_option linter.unusedVariables false
namespace Go.Ax.TryP
open Go.Proofs
theorem a56 {z : List Int} {n i : Nat} (hz : E5 (n * 256) z) (hi : i < n) : E5 256 (chD z i) := ⟨c3O hz.1 hi, fun x hx => hz.2 x (List.mem_of_mem_drop (List.mem_of_mem_take hx))⟩
theorem a6F (w : Nat) (l : List Int) : (pkW w l).length = 32 * w := a8r _ _
theorem b2d (w : Nat) (l : List Int) : bytes (pkW w l) := fun z hz => by
 obtain ⟨j, _, rfl⟩ := List.mem_map.1 hz
 have := c3A (n := 8) (c := fun s => pkE w l (8 * j + s)) fun s _ => d73 w l _
 have h8 : (2 : Int) ^ 8 = 256 := by decide
 omega
theorem c0A (mu high : List Int) : c3P mu high = mu ++ N2 (fun r => pkW 4 (B8 (chD high r))) 6 := by
 unfold c3P
 rw [show List.range 6 = [0, 1, 2, 3, 4, 5] from rfl]
 simp [N2]
theorem J7 {a b : List Int} (ha : bytes a) (hb : bytes b) : bytes (a ++ b) := fun z hz => by
 rcases List.mem_append.1 hz with h | h
 ·exact ha z h
 ·exact hb z h
theorem a8d {f : Nat → List Int} (h : ∀ i, bytes (f i)) : ∀ n, bytes (N2 f n)
 | 0 => fun z hz => by simp [N2] at hz
 | n + 1 => J7 (a8d h n) (h n)
theorem c1T : ∀ x r, a0y x = some r → ∃ N, a0Q N x = some r := by
 refine d9 (ks := O9) (rs := P0) fun x hw hq => ⟨10, ?_⟩
 obtain ⟨(mu : List Int), (high : List Int), u⟩ := x
 have hmu : mu.length ≤ maxLen ∧ bytes mu := M8.1 hw.1
 have hh : E5 (6 * 256) high := v8.1 hw.2.1
 have hl : mu.length ≤ 1000 := hq.1
 have hin : ∀ r, r < 6 → inW 4 (B8 (chD high r)) := hq.2
 show a0Q 10 (mu, high, u) = some (c2l mu high)
 have hj := c0n (l := [mu]) ⟨by simp, by simp; omega⟩ ⟨mB (by simp), fun zs hzs => by rw [List.mem_singleton.1 hzs]; exact hmu⟩
 rw [show [mu].flatten = mu by simp] at hj
 unfold a0Q
 dsimp only
 rw [hj, Option.bind_some]
 have hF : ∀ n, (N2 (fun r => pkW 4 (B8 (chD high r))) n).length = n * 128 := fun n => a0i fun i _ => a6F 4 _
 refine (i8 (F := H9 10) (s := fun i => (mu.length + i * 128, (i : Int), high, mu.length + i * 128, mu ++ N2 (fun r => pkW 4 (B8 (chD high r))) i, ())) (y := .inr (mu.length + 6 * 128, mu.length + 6 * 128, c3P mu high, ())) 6 (by simp [N2]) ?_ ?_ 10 (by omega)).trans ?_
 ·intro i hi kn
  have hc : List.take 256 (List.drop (i * 256) high) = chD high i := rfl
  unfold H9
  dsimp only
  have e4 := c8t (d := 4) (by omega) (a56 hh hi) (hin i hi)
  rw [if_pos (by omega), if_pos (by omega), if_pos (by omega), Int.toNat_natCast, if_pos (by omega), hc, show (4 : Int) = ((4 : Nat) : Int) from rfl, e4, Option.bind_some]
  dsimp only
  rw [if_neg (by simp), a6F, if_pos (by omega), c7 (by omega) (by omega), List.append_assoc, show mu.length + i * 128 + 32 * 4 = mu.length + (i + 1) * 128 by omega]
  rfl
 ·intro kn
  unfold H9
  dsimp only
  rw [if_neg (by omega), c0A]
 ·dsimp only
  have hb : bytes (c3P mu high) := by rw [c0A]; exact J7 hmu.2 (a8d (fun i => b2d 4 _) 6)
  have hlen : (c3P mu high).length ≤ maxLen := mB (by rw [c0A, List.length_append, hF]; omega)
  have e := b7d (n := 48) (l := [c3P mu high]) (by omega) ⟨mB (by simp), fun zs hzs => by rw [List.mem_singleton.1 hzs]; exact ⟨hlen, hb⟩⟩
  rw [show [c3P mu high].flatten = c3P mu high by simp] at e
  rw [show (48 : Int) = ((48 : Nat) : Int) from rfl, e, Option.bind_some]
  rfl
end Go.Ax.TryP
set_option linter.unusedVariables false
namespace Go.Ax.TryP
open Go.Proofs
theorem a5R (m y : List Int) (r : Nat) : ∀ s, E5 256 (b66 m y r s)
 | 0 => rows.zero (by omega) 256
 | s + 1 => b1m _ _
theorem a4f {f : Nat → List Int} (h : ∀ i, E5 256 (f i)) : ∀ n, E5 (n * 256) (N2 f n)
 | 0 => ⟨by simp [N2], fun z hz => by simp [N2] at hz⟩
 | n + 1 => ⟨a0i fun i _ => (h i).1, fun z hz => by
  rcases List.mem_append.1 hz with hz | hz
  ·exact (a4f h n).2 z hz
  ·exact (h n).2 z hz⟩
theorem d3D {i : Nat} (hi : i < 6) : chD (List.replicate 1536 0) i = List.replicate 256 0 := by
 unfold chD
 rw [List.drop_replicate, List.take_replicate, Nat.min_eq_left (by omega)]
theorem d7y (m : List Int) (r s : Nat) : List.take 256 (List.drop (r * 1280 + s * 256) m) = chD m (r * 5 + s) := by
 unfold chD
 rw [show (r * 5 + s) * 256 = r * 1280 + s * 256 by omega]
theorem c3T {a : List Int} (h : dred a) : E5 256 a := ⟨h.1, fun z hz => by
 obtain ⟨i, hi, rfl⟩ := List.mem_iff_getElem.1 hz
 have := h.2 i
 rw [List.getD_eq_getElem?_getD, List.getElem?_eq_getElem hi, Option.getD_some] at this
 omega⟩
theorem c3Z (a : List Int) : E5 256 (a04 a) := c3T (b1d a)
theorem c3d (a b : List Int) : E5 256 (a6b a b) := c3T (a57 fun i _ => by omega)
theorem b45 : ∀ x r, J9 x = some r → ∃ N, L5 N x = some r := by
 refine d9 (ks := C8) (rs := C9) fun x hw hq => ⟨10, ?_⟩
 obtain ⟨(m : List Int), (y : List Int), u⟩ := x
 have hm : E5 (30 * 256) m := v8.1 hw.1
 have hy : E5 (5 * 256) y := v8.1 hw.2.1
 show L5 10 (m, y, u) = some (a92 m y)
 have hF : ∀ j, j < 5 → (a04 (chD y j)).length = 256 := fun j _ => (c3Z _).1
 have hG : ∀ j, j < 6 → (b66 m y j 5).length = 256 := fun j _ => (a5R m y j 5).1
 have hZ : (List.replicate 1536 (0 : Int)).length = 6 * 256 := by rw [List.length_replicate]
 unfold L5
 dsimp only
 generalize hz : List.replicate 1536 (0 : Int) = Z at hZ
 refine (i8 (F := x7 10) (s := fun i => ((i : Int), m, a1g (fun j => a04 (chD y j)) y i, Z, ())) (y := (m, N2 (fun j => a04 (chD y j)) 5, Z, ())) 5 (by rw [D9]; rfl) ?_ ?_ 10 (by omega)).trans ?_
 ·intro i hi kn
  unfold x7
  dsimp only
  rw [if_pos (by omega), if_pos (by omega), if_pos (by omega), Int.toNat_natCast, if_pos (by omega), c59 hy.1 hF hi, c0m (a56 hy hi), Option.bind_some, if_pos (by omega), if_pos (by omega), if_pos (by omega), c7 (by omega) (by omega)]
  exact congrArg kn (by rw [P7 (f := fun j => a04 (chD y j)) hy.1 hF hi]; rfl)
 ·intro kn
  unfold x7
  dsimp only
  rw [if_neg (by omega), P6 hy.1]
 dsimp only
 refine (i8 (F := x8 10) (s := fun r => ((r : Int), m, N2 (fun j => a04 (chD y j)) 5, Z, a1g (fun r => b66 m y r 5) Z r, ())) (y := (Z, N2 (fun r => b66 m y r 5) 6, ())) 6 (by rw [D9]; rfl) ?_ ?_ 10 (by omega)).trans ?_
 ·intro r hr kn
  have hA : (N2 (fun r => b66 m y r 5) r).length = r * 256 := a0i fun j _ => (a5R m y j 5).1
  unfold x8
  dsimp only
  rw [if_pos (by omega)]
  refine (i8 (F := v7 10) (s := fun s => ((r : Int), (r : Int), (s : Int), m, N2 (fun j => a04 (chD y j)) 5, Z, N2 (fun r => b66 m y r 5) r ++ b66 m y r s ++ Z.drop ((r + 1) * 256), ())) (y := ((r : Int), m, N2 (fun j => a04 (chD y j)) 5, Z, N2 (fun r => b66 m y r 5) r ++ b66 m y r 5 ++ Z.drop ((r + 1) * 256), ())) 5 ?_ ?_ ?_ 10 (by omega)).trans ?_
  ·have : a1g (fun r => b66 m y r 5) Z r = N2 (fun r => b66 m y r 5) r ++ b66 m y r 0 ++ Z.drop ((r + 1) * 256) := by
    unfold a1g
    rw [c0y hZ hr, ← List.append_assoc, ← hz, d3D hr]
    rfl
   rw [this]
   rfl
  ·intro s hs kn
   have hB := (a5R m y r s).1
   have he : r * 5 + s < 30 := by omega
   unfold v7
   dsimp only
   rw [if_pos (by omega), if_pos (by omega), if_pos (by omega), Int.toNat_natCast, if_pos (by omega), if_pos (by omega), if_pos (by omega), if_pos (by omega), if_pos (by omega), Int.toNat_natCast, if_pos (by omega), if_pos (by omega), if_pos (by omega), if_pos (by omega), d7y, show List.take 256 (List.drop (s * 256) (N2 (fun j => a04 (chD y j)) 5)) = a04 (chD y s) from a9g hF hs,
    c0o (a56 hm he) (c3Z _), Option.bind_some, c7D hA hB, c5b (a5R m y r s) (c3d _ _), Option.bind_some, if_pos (by omega), if_pos (by omega), if_pos (by omega), c7 (by omega) (by omega), d2i hA hB]
   rfl
  ·intro kn
   unfold v7
   dsimp only
   rw [if_neg (by omega)]
  ·dsimp only
   rw [c7 (by omega) (by omega)]
   rfl
 ·intro kn
  unfold x8
  dsimp only
  rw [if_neg (by omega), P6 hZ]
 ·rfl
end Go.Ax.TryP
set_option linter.unusedVariables false
namespace Go.Ax.TryP
open Go.Proofs
theorem c3Y (a : List Int) : E5 256 (b36 a) := c3T (c5A a)
theorem d2B (m y : List Int) : E5 (6 * 256) (a92 m y) := a4f (f := fun r => b66 m y r 5) (fun r => a5R m y r 5) 6
theorem c9D (m y : List Int) : E5 (6 * 256) (b0t m y) := a4f (f := fun r => b36 (b66 m y r 5)) (fun r => c3Y _) 6
theorem c5k {m y : List Int} (hm : E5 (30 * 256) m) (hy : E5 (5 * 256) y) : J9 (m, y, ()) = some (a92 m y) :=
 d8 (ks := C8) (rs := C9) (x := (m, y, ())) ⟨v8.2 hm, v8.2 hy, trivial⟩ trivial
theorem b6K : ∀ x r, N8 x = some r → ∃ N, P2 N x = some r := by
 refine d9 (ks := F4) (rs := F5) fun x hw hq => ⟨10, ?_⟩
 obtain ⟨(m : List Int), (y : List Int), u⟩ := x
 have hm : E5 (30 * 256) m := v8.1 hw.1
 have hy : E5 (5 * 256) y := v8.1 hw.2.1
 show P2 10 (m, y, u) = some (b0t m y)
 have hR := d2B m y
 have hF : ∀ j, j < 6 → (b36 (b66 m y j 5)).length = 256 := fun j _ => (c3Y _).1
 have hc : ∀ j, j < 6 → chD (a92 m y) j = b66 m y j 5 := fun j hj => a9g (f := fun r => b66 m y r 5) (fun j _ => (a5R m y j 5).1) hj
 unfold P2
 dsimp only
 rw [c5k hm hy, Option.bind_some]
 generalize List.replicate 1536 (0 : Int) = Z
 refine (i8 (F := A9 10) (s := fun i => ((i : Int), Z, a1g (fun j => b36 (b66 m y j 5)) (a92 m y) i, ())) (y := (Z, b0t m y, ())) 6 (by rw [D9]; rfl) ?_ ?_ 10 (by omega)).trans rfl
 ·intro i hi kn
  unfold A9
  dsimp only
  rw [if_pos (by omega), if_pos (by omega), if_pos (by omega), Int.toNat_natCast, if_pos (by omega), c59 hR.1 hF hi, hc i hi, c6Y (a5R m y i 5), Option.bind_some, if_pos (by omega), if_pos (by omega), if_pos (by omega), c7 (by omega) (by omega)]
  exact congrArg kn (by rw [P7 (f := fun j => b36 (b66 m y j 5)) hR.1 hF hi]; rfl)
 ·intro kn
  unfold A9
  dsimp only
  rw [if_neg (by omega), P6 hR.1]
  rfl
end Go.Ax.TryP
set_option linter.unusedVariables false
namespace Go.Ax.TryP
open Go.Proofs
theorem c4a {X Y β : Type} (F : (β : Type) → X → (X → Option β) → (Y → Option β) → Option β) (n : Nat) (x : X) (k : Y → Option β) : m7 F (n + 1) x k = F β x (fun x' => m7 F n x' k) k := rfl
theorem c03 {X Y β : Type} {F : (β : Type) → X → (X → Option β) → (Y → Option β) → Option β} {K : Y → Option β} (s : Nat → X) (c : Nat → Prop) (bad fine : Y) (n : Nat)
  (h1 : ∀ i, i < n → ∀ kn : X → Option β, (c i → F β (s i) kn K = kn (s (i + 1))) ∧ (¬ c i → F β (s i) kn K = K bad)) (h2 : ∀ kn : X → Option β, F β (s n) kn K = K fine) :
  ∀ j i m : Nat, i + j = n → j < m → ((∀ k, i ≤ k → k < n → c k) → m7 F m (s i) K = K fine) ∧ (¬ (∀ k, i ≤ k → k < n → c k) → m7 F m (s i) K = K bad)
 | 0, i, m + 1, hi, _ => by
  have e : i = n := by omega
  subst e
  exact ⟨fun _ => h2 _, fun h => absurd (fun k h1 h2 => by omega) h⟩
 | j + 1, i, m + 1, hi, hm => by
  rw [c4a]
  obtain ⟨g1, g2⟩ := h1 i (by omega) (fun x' => m7 F m x' K)
  obtain ⟨f1, f2⟩ := c03 (F := F) (K := K) s c bad fine n h1 h2 j (i + 1) m (by omega) (by omega)
  refine ⟨fun h => ?_, fun h => ?_⟩
  ·rw [g1 (h i (by omega) (by omega))]
   exact f1 fun k hk1 hk2 => h k (by omega) hk2
  ·by_cases hc : c i
   ·rw [g1 hc]
    refine f2 fun hh => h fun k hk1 hk2 => ?_
    by_cases e : k = i
    ·subst e; exact hc
    ·exact hh k (by omega) hk2
   ·exact g2 hc
end Go.Ax.TryP
set_option linter.unusedVariables false
namespace Go.Ax.TryP
open Go.Proofs
theorem c6X {f : Nat → List Int} {p : Int → Prop} (h : ∀ t, ∀ z ∈ f t, p z) : ∀ t, ∀ z ∈ a1j f t, p z
 | 0, z, hz => by simp [a1j] at hz
 | t + 1, z, hz => by
  rcases List.mem_append.1 hz with hz | hz
  ·exact c6X h t z hz
  ·exact h t z hz
theorem d7Y (s : List Int) (t : Nat) : ∀ z ∈ b1x s t, 0 ≤ z ∧ z < 8380417 := by
 intro z hz
 unfold b1x at hz
 split at hz
 ·rename_i h
  rw [List.mem_singleton] at hz
  subst hz
  refine ⟨?_, h⟩
  have h1 := d0K s (3 * t)
  have h2 := d0K s (3 * t + 1)
  have h3 := d0K s (3 * t + 2)
  unfold c2k
  omega
 ·simp at hz
theorem c9J : E5 256 (List.replicate 256 0) := rows.zero (by omega) 256
theorem d77 (s : List Int) : E5 256 (d2E s).1 := by
 unfold d2E
 split
 ·exact c9J
 ·split
  ·exact c9J
  ·rename_i h
   generalize hA : a1j (b1x s) 1024 = A at h
   refine ⟨?_, fun z hz => ?_⟩
   ·have h' : 256 ≤ A.length := Nat.le_of_not_lt h
    dsimp only
    rw [List.length_take, Nat.min_eq_left h']
   ·have hz1 : z ∈ A.take 256 := hz
    have hz2 : z ∈ A := List.mem_of_mem_take hz1
    rw [← hA] at hz2
    have := c6X (d7Y s) 1024 z hz2
    omega
theorem d76 {s : List Int} (h : s.length = 34) : (d2E s).2 = 0 ∨ (d2E s).2 = 130 := by
 unfold d2E
 rw [if_neg (by rw [h]; decide)]
 split
 ·exact .inr rfl
 ·exact .inl rfl
theorem c5F (rho : List Int) (r s : Nat) : E5 256 (c4Z rho r s).1 := d77 _
theorem c9M {b : List Int} (hb : b.length ≤ maxLen ∧ bytes b) : Z7 (b, ()) = some (d2E b) := d8 (ks := S1) (rs := S2) (x := (b, ())) ⟨M8.2 hb, trivial⟩ trivial
theorem c3J {a : List Int} {e : Int} (ha : E5 256 a) (he : 0 ≤ e ∧ e ≤ 1000000) : a5T (a, e, ()) = some (decide (e ≠ 0), e, a) := b5i (ks := a3q) (rs := a3r) (x := (a, e, ())) (Q := fun _ => True) (f := fun x => (decide (x.2.1 ≠ 0), x.2.1, x.1)) ⟨v8.2 ha, d0V he, trivial⟩ trivial
end Go.Ax.TryP
set_option linter.unusedVariables false
namespace Go.Ax.TryP
open Go.Proofs
theorem d5e {rho : List Int} (hr : rho.length = 32 ∧ bytes rho) {r s : Nat} (h1 : r < 6) (h2 : s < 5) : c6y [rho, [(s : Int), (r : Int)]] := ⟨mB (by simp), fun zs hzs => by
 rcases List.mem_cons.1 hzs with rfl | hzs
 ·exact ⟨mB (by omega), hr.2⟩
 ·rw [List.mem_singleton.1 hzs]
  refine ⟨mB (by simp), fun z hz => ?_⟩
  rcases List.mem_cons.1 hz with rfl | hz
  ·omega
  ·rw [List.mem_singleton.1 hz]; omega⟩
theorem d1g {rho : List Int} (hr : rho.length = 32 ∧ bytes rho) {r s : Nat} (h1 : r < 6) (h2 : s < 5) : m6 ([rho, [(s : Int), (r : Int)]], ()) = some (rho ++ [(s : Int), (r : Int)]) := by
 have h := c0n (l := [rho, [(s : Int), (r : Int)]]) ⟨by simp, by simp [hr.1]⟩ (d5e hr h1 h2)
 rw [h]
 simp
theorem c62 {rho : List Int} (hr : rho.length = 32 ∧ bytes rho) {r s : Nat} (h1 : r < 6) (h2 : s < 5) : Z7 (rho ++ [(s : Int), (r : Int)], ()) = some (c4Z rho r s) :=
 c9M ⟨mB (by rw [List.length_append, hr.1]; simp), J7 hr.2 ((d5e hr h1 h2).2 _ (by simp)).2⟩
theorem d7x {rho : List Int} (hr : rho.length = 32) (r s : Nat) : (c4Z rho r s).2 = 0 ∨ (c4Z rho r s).2 = 130 := d76 (by rw [List.length_append, hr]; rfl)
end Go.Ax.TryP
set_option linter.unusedVariables false
namespace Go.Ax.TryP
open Go.Proofs
def d1J (rho : List Int) (k : Nat) : List Int := (c4Z rho (k / 5) (k % 5)).1
theorem d50 {rho : List Int} {r s : Nat} (hs : s < 5) : d1J rho (r * 5 + s) = (c4Z rho r s).1 := by
 unfold d1J
 rw [show (r * 5 + s) / 5 = r by omega, show (r * 5 + s) % 5 = s by omega]
theorem c89 (rho : List Int) : c08 rho = N2 (d1J rho) 30 := by
 simp only [c08, d8J, d9w, N2, List.nil_append, List.append_assoc]
 rfl
theorem d3O (rho : List Int) (k : Nat) : (d1J rho k).length = 256 := (c5F _ _ _).1
theorem d2f (rho : List Int) : E5 (30 * 256) (c08 rho) := by rw [c89]; exact a4f (fun k => c5F _ _ _) 30
theorem d6z {rho : List Int} {r s : Nat} (h : (c4Z rho r s).2 = 0) : xg (a5T ((c4Z rho r s).1, (c4Z rho r s).2, ())) = some (c4Z rho r s).1 := by
 rw [h, c3J (c5F rho r s) (by omega)]
 rfl
theorem d7z {rho Z : List Int} (hr : rho.length = 32 ∧ bytes rho) (hZ : Z.length = 30 * 256) {r : Nat} (h6 : r < 6) {β : Type} (K : (Int × Unit) ⊕ (Nat × Int × Nat × List Int × List Int × Unit) → Option β) :
  ((∀ s, s < 5 → (c4Z rho r s).2 = 0) → m7 (x6 10) 10 (32, (r : Int), (r : Int), (0 : Int), 32, rho, a1g (d1J rho) Z (r * 5), ()) K = K (.inr (32, (r : Int), 32, rho, a1g (d1J rho) Z ((r + 1) * 5), ()))) ∧
  (¬ (∀ s, s < 5 → (c4Z rho r s).2 = 0) → m7 (x6 10) 10 (32, (r : Int), (r : Int), (0 : Int), 32, rho, a1g (d1J rho) Z (r * 5), ()) K = K (.inl (130, ()))) := by
 have h := c03 (F := x6 10) (K := K) (fun i => (32, (r : Int), (r : Int), (i : Int), 32, rho, a1g (d1J rho) Z (r * 5 + i), ())) (fun s => (c4Z rho r s).2 = 0) (.inl (130, ())) (.inr (32, (r : Int), 32, rho, a1g (d1J rho) Z ((r + 1) * 5), ())) 5
  (fun s hs kn => by
   have e1 : List.set (List.set (List.replicate 2 (0 : Int)) 0 (IntKind.u8.wrap (s : Int))) 1 (IntKind.u8.wrap (r : Int)) = [(s : Int), (r : Int)] := by rw [b8y (by omega) (by omega), b8y (by omega) (by omega)]; rfl
   have hk : r * 5 + s < 30 := by omega
   constructor
   ·intro hc
    unfold x6
    dsimp only
    rw [if_pos (by omega), e1, d1g hr h6 hs, Option.bind_some, c62 hr h6 hs, Option.bind_some, if_pos (by omega), if_pos (by omega)]
    rw [c3J (c5F rho r s) (by omega), Option.bind_some, hc]
    rw [if_neg (by simp), Option.bind_some, c62 hr h6 hs, Option.bind_some, d6z hc]
    rw [Option.bind_some, if_pos (by omega), if_pos (by omega), if_pos (by omega), if_pos (by omega), Int.toNat_natCast, Int.toNat_natCast, show r * 1280 + s * 256 = (r * 5 + s) * 256 by omega, if_pos (by omega), c7 (by omega) (by omega), ← d50 hs, P7 (f := d1J rho) hZ (fun j _ => d3O rho j) hk]
    rfl
   ·intro hc
    have he : (c4Z rho r s).2 = 130 := (d7x hr.1 r s).resolve_left hc
    unfold x6
    dsimp only
    rw [if_pos (by omega), e1, d1g hr h6 hs, Option.bind_some, c62 hr h6 hs, Option.bind_some, if_pos (by omega), if_pos (by omega), c3J (c5F rho r s) (by omega), Option.bind_some, he]
    rfl)
  (fun kn => by
   unfold x6
   dsimp only
   rw [if_neg (by omega), show r * 5 + 5 = (r + 1) * 5 by omega]) 5 0 10 (by omega) (by omega)
 exact ⟨fun hh => h.1 fun k _ hk => hh k hk, fun hh => h.2 fun hh' => hh fun s hs => hh' s (Nat.zero_le _) hs⟩
end Go.Ax.TryP
set_option linter.unusedVariables false
namespace Go.Ax.TryP
open Go.Proofs
theorem d44 {rho Z : List Int} (hr : rho.length = 32 ∧ bytes rho) (hZ : Z.length = 30 * 256) {β : Type} (K : (Int × Unit) ⊕ (List Int × Unit) → Option β) :
  (a4N rho → m7 (x5 10) 10 (32, (0 : Int), 32, rho, Z, ()) K = K (.inr (c08 rho, ()))) ∧
  (¬ a4N rho → m7 (x5 10) 10 (32, (0 : Int), 32, rho, Z, ()) K = K (.inl (130, ()))) := by
 have h := c03 (F := x5 10) (K := K) (fun r => (32, (r : Int), 32, rho, a1g (d1J rho) Z (r * 5), ())) (fun r => ∀ s, s < 5 → (c4Z rho r s).2 = 0) (.inl (130, ())) (.inr (c08 rho, ())) 6
  (fun r hr6 kn => by
   constructor
   ·intro hc
    unfold x5
    dsimp only
    rw [if_pos (by omega)]
    refine ((d7z hr hZ hr6 _).1 hc).trans ?_
    dsimp only
    rw [c7 (by omega) (by omega)]
    rfl
   ·intro hc
    unfold x5
    dsimp only
    rw [if_pos (by omega)]
    exact (d7z hr hZ hr6 _).2 hc)
  (fun kn => by
   unfold x5
   dsimp only
   rw [if_neg (by omega), c89, show 6 * 5 = 30 from rfl, P6 hZ]) 6 0 10 (by omega) (by omega)
 rw [Nat.zero_mul, D9] at h
 exact ⟨fun hh => h.1 fun r _ hr6 => hh r hr6, fun hh => h.2 fun hh' => hh fun r hr6 => hh' r (Nat.zero_le _) hr6⟩
theorem b5o {rho : List Int} (h : a4N rho) : b1a rho = false := by unfold b1a; exact @decide_eq_false _ (Classical.propDecidable _) (fun hh => hh h)
theorem b2r {rho : List Int} (h : ¬ a4N rho) : b1a rho = true := by unfold b1a; exact @decide_eq_true _ (Classical.propDecidable _) h
theorem c6m : ∀ x r, N7 x = some r → ∃ N, a7m N x = some (xr r) := by
 refine b5j (ks := a0R) (rs := a0S) fun x hw hq => ⟨10, ?_⟩
 obtain ⟨(rho : List Int), u⟩ := x
 have hl : rho.length = 32 := hq
 have hb : rho.length ≤ maxLen ∧ bytes rho := M8.1 hw.1
 have hZ : (List.replicate 7680 (0 : Int)).length = 30 * 256 := by rw [List.length_replicate]
 unfold a7m
 dsimp only
 rw [hl]
 generalize List.replicate 7680 (0 : Int) = Z at hZ
 by_cases hc : a4N rho
 ·refine ((d44 ⟨hl, hb.2⟩ hZ _).1 hc).trans ?_
  rw [b5o hc]
  rfl
 ·refine ((d44 ⟨hl, hb.2⟩ hZ _).2 hc).trans ?_
  rw [b2r hc]
  rfl
theorem c0t {rho : List Int} (hr : rho.length = 32 ∧ bytes rho) : N7 (rho, ()) = some (b1a rho, 130, (c08 rho, ())) :=
 b5i (ks := a0R) (rs := a0S) (x := (rho, ())) (Q := fun x => x.1.length = 32) (f := fun x => (b1a x.1, 130, (c08 x.1, ()))) ⟨M8.2 ⟨mB (by rw [hr.1]; omega), hr.2⟩, trivial⟩ hr.1
end Go.Ax.TryP
