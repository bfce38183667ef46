/- A part of the proof: DfS, DfP, DfQ0, DfQ1, DfQ2, DfQ3, DfQ4, DfQ5, DfQ6, DfQ7, DfQ8, DfQ9, DfQ10, DfQ11, DfQ12, DfQ13. -/
import Derived.Test.YtbcjbgjidddnaaaDsaC
set_option linter.unusedVariables false
namespace Go.Ax.TryP
open Go.Proofs
noncomputable def c4k {ks rs : List Kd} (Q : Ds ks → Prop) (f : Ds ks → Bool × Int × Rs rs) : Ds ks → Option (Bool × Int × Rs rs) := fun x => @ite _ (a5p ks x ∧ Q x) (Classical.propDecidable _) (some (f x)) none
theorem b5F {ks rs : List Kd} {Q : Ds ks → Prop} {f : Ds ks → Bool × Int × Rs rs} {p : Nat → Ds ks → Option (Int ⊕ Rs rs)} (h : ∀ x, a5p ks x → Q x → ∃ N, p N x = some (xr (f x))) : ∀ x r, c4k Q f x = some r → ∃ N, p N x = some (xr r) := by
 intro x r hx
 unfold c4k at hx
 split at hx
 ·rename_i hq; cases hx; exact h x hq.1 hq.2
 ·cases hx
theorem b5E {ks rs : List Kd} {Q : Ds ks → Prop} {f : Ds ks → Bool × Int × Rs rs} {x : Ds ks} (h : a5p ks x) (hq : Q x) : c4k Q f x = some (f x) := by
 unfold c4k
 rw [if_pos ⟨h, hq⟩]
noncomputable def m7 : List (List Int) × Unit → Option (List Int) := a0u (ks := [.sls (.int .u8)]) (rs := [.sl (.int .u8)]) (fun x => x.1.length ≤ 1000 ∧ x.1.flatten.length ≤ 1000000) fun x => x.1.flatten
noncomputable def a7q : List Int × List Int × Unit → Option Bool := a0u (ks := [.sl (.int .u8), .sl (.int .u8)]) (rs := [.bool]) (fun _ => True) fun x => decide (x.1 = x.2.1)
def inW (w : Nat) (l : List Int) : Prop := ∀ i, i < 256 → 0 ≤ l.getD i 0 ∧ l.getD i 0 < 2 ^ w
def pkE (w : Nat) (l : List Int) (t : Nat) : Int := c2W (l.getD (t / w) 0) (t % w)
def pkW (w : Nat) (l : List Int) : List Int := a43 (pkE w l) (32 * w)
def a3a (top : Int) (a : List Int) : List Int := o5 fun i => top - (a1i a).getD i 0
noncomputable def a5a : Int × List Int × Unit → Option (List Int × Int) := a0u (ks := [.int .i64, .xs (.int .i64) 256]) (rs := [.sl (.int .u8), .int .i64]) (fun x => (1 ≤ x.1 ∧ x.1 ≤ 23) ∧ inW x.1.toNat x.2.1) fun x => (pkW x.1.toNat x.2.1, 0)
noncomputable def a2R : Int × List Int × Unit → Option (List Int × Int) := a0u (ks := [.int .i64, .xs (.int .i32) 256]) (rs := [.sl (.int .u8), .int .i64]) (fun x => (1 ≤ x.1 ∧ x.1 ≤ 23) ∧ inW x.1.toNat (o8 x.2.1)) fun x => (pkW x.1.toNat (o8 x.2.1), 0)
noncomputable def o0 : Int × Int × List Int × Unit → Option (List Int × Int) := a0u (ks := [.int .i32, .int .i64, .xs (.int .i32) 256]) (rs := [.sl (.int .u8), .int .i64]) (fun x => (1 ≤ x.2.1 ∧ x.2.1 ≤ 23) ∧ (0 ≤ x.1 ∧ x.1 ≤ 1000000) ∧ inW x.2.1.toNat (a3a x.1 x.2.2.1)) fun x => (pkW x.2.1.toNat (a3a x.1 x.2.2.1), 0)
def a3Q (l : List Int) (n : Nat) : List Int := a0l 136 31 l n
def c7G (n : Int) : List Int := [n % 256, n / 256 % 256]
def chD (r : List Int) (i : Nat) : List Int := (r.drop (i * 256)).take 256
def c6K (tr msg ctx : List Int) : List Int := a3Q (tr ++ [0, (ctx.length : Int) % 256] ++ ctx ++ msg) 64
def c4v (mu high : List Int) : List Int := mu ++ ((List.range 6).map fun r => pkW 4 (o8 (chD high r))).flatten
def b9y (mu high : List Int) : List Int := a3Q (c4v mu high) 48
noncomputable def J6 : Int × List (List Int) × Unit → Option (List Int) := a0u (ks := [.int .i64, .sls (.int .u8)]) (rs := [.sl (.int .u8)]) (fun x => 0 ≤ x.1 ∧ x.1 ≤ 1000) fun x => a3Q x.2.1.flatten x.1.toNat
noncomputable def a8O : Int × Unit → Option (List Int) := a0u (ks := [.int .i64]) (rs := [.sl (.int .u8)]) (fun x => 0 ≤ x.1 ∧ x.1 ≤ 65535) fun x => c7G x.1
noncomputable def a2F : List Int × List Int × List Int × Unit → Option (List Int) := a0u (ks := [.sl (.int .u8), .sl (.int .u8), .sl (.int .u8)]) (rs := [.sl (.int .u8)]) (fun _ => True) fun x => c6K x.1 x.2.1 x.2.2.1
noncomputable def a0I : List Int × List Int × Unit → Option (List Int) := a0u (ks := [.sl (.int .u8), .xs (.int .i32) 1536]) (rs := [.sl (.int .u8)]) (fun x => x.1.length ≤ 1000 ∧ ∀ r, r < 6 → inW 4 (o8 (chD x.2.1 r))) fun x => b9y x.1 x.2.1
def c5H (rho : List Int) (r s : Nat) : List Int × Int := d3z (rho ++ [(s : Int), (r : Int)])
def a30 (rho : List Int) : Prop := ∀ r, r < 6 → ∀ s, s < 5 → (c5H rho r s).2 = 0
noncomputable def b1y (rho : List Int) : Bool := @decide (¬ a30 rho) (Classical.propDecidable _)
def e0H (f : Nat → List Int) : List Int := f 0 ++ f 1 ++ f 2 ++ f 3 ++ f 4
def d9V (f : Nat → List Int) : List Int := f 0 ++ f 1 ++ f 2 ++ f 3 ++ f 4 ++ f 5
def a67 (rho : List Int) : List Int := d9V fun r => e0H fun s => (c5H rho r s).1
def a4R (m y : List Int) (r : Nat) : Nat → List Int
 | 0 => List.replicate 256 0
 | s + 1 => a1F (a4R m y r s) (a45 (chD m (r * 5 + s)) (j9 (chD y s)))
def b0s (m y : List Int) : List Int := d9V fun r => a4R m y r 5
def R3 (m y : List Int) : List Int := d9V fun r => a5x (a4R m y r 5)
noncomputable def a6e : List Int × Int × Unit → Option (Bool × Int × List Int) := c4k (ks := [.xs (.int .i32) 256, .int .i64]) (rs := [.xs (.int .i32) 256]) (fun _ => True) fun x => (decide (x.2.1 ≠ 0), x.2.1, x.1)
noncomputable def O1 : List Int × Unit → Option (Bool × Int × (List Int × Unit)) := c4k (ks := [.sl (.int .u8)]) (rs := [.op [.xs (.int .i32) 7680]]) (fun x => x.1.length = 32) fun x => (b1y x.1, 130, (a67 x.1, ()))
noncomputable def K6 : List Int × List Int × Unit → Option (List Int) := a0u (ks := [.rp (.xs (.int .i32) 7680), .xs (.int .i32) 1280]) (rs := [.xs (.int .i32) 1536]) (fun _ => True) fun x => b0s x.1 x.2.1
noncomputable def O2 : List Int × List Int × Unit → Option (List Int) := a0u (ks := [.rp (.xs (.int .i32) 7680), .xs (.int .i32) 1280]) (rs := [.xs (.int .i32) 1536]) (fun _ => True) fun x => R3 x.1 x.2.1
end Go.Ax.TryP
set_option linter.unusedVariables false
namespace Go.Ax.TryP
open Go.Proofs
noncomputable def p_octet_Join_E : AE := AE.of [(5, ty5), (23, ty23), (35, ty35)] []
noncomputable def a8p : Hints := [(3, [0, 3, 9, 10, 11]), (9, [6, 22, 23, 24]), (2000000, [0, 3]), (2000001, [0, 3, 9, 10, 11]), (2000002, [6]), (2000003, [6, 22, 23, 24]), (3000000, [2])]
noncomputable def a2i : Code := (Try.f16).body.getD .skip
noncomputable def b8E : Shape := mkS { tmps := .sc (.frs b8) :: V :: V :: .sc (.int .i64) :: pv 5 (.sc (.frs b8) :: .sc (.int .i64) :: .sc (.int .i64) :: pv 21 []), mem := [] } [.xss, .int, .xss, .int, .int]
abbrev W37 : Type := List (List Int) × Int × List (List Int) × Int × Int × Unit
abbrev W38 : Type := List (List Int) × Int × Unit
noncomputable def T5 (N : Nat) (β : Type) (x : W37) (kn : W37 → Option β) (ke : W38 → Option β) : Option β :=
 if (x.2.2.2.2.1 < x.2.2.2.1) then
  if 0 ≤ x.2.2.2.2.1 then (
  if x.2.2.2.2.1 < ((List.length x.2.2.1 : Nat) : Int) then (
  kn (x.1, (IntKind.i64.wrap (x.2.1 + ((List.length (List.getD x.2.2.1 (x.2.2.2.2.1.toNat) []) : Nat) : Int))), x.2.2.1, x.2.2.2.1, (IntKind.i64.wrap (x.2.2.2.2.1 + (1:Int))), ())) else none) else none
 else
  ke (x.1, x.2.1, ())
noncomputable def b6Z : Go' W38 := fun y K => K (.exit 0) (fSt { tmps := .sc (.frs b8) :: V :: V :: .sc (.int .i64) :: pv 29 [], mem := [] } [.xss, .int] y)
noncomputable def a9l (N : Nat) : LT := upd (LT.nil) 3 (o9 b8E N (T5 N) b6Z)
theorem b60 (N : Nat) : OkAll p_octet_Join_E a8p N (a9l N) (x4 a2i) :=
 d7 (c := d8 3 a2i) (OkAll.nil) (by kernel_rfl) (fun x => by kernel_rfl) (fun β x kn ke => by kernel_rfl)
noncomputable def b8F : Shape := mkS { tmps := pv 6 (.sc (.vec 0 none 1) :: pv 15 (.sc (.frs b8) :: .sc (.int .i64) :: .sc (.int .i64) :: pv 8 [])), mem := [.live [.xs b8 none] (.own)] } [.nat, .xss, .int, .int, .nat, .xs]
abbrev W39 : Type := Nat × List (List Int) × Int × Int × Nat × List Int × Unit
abbrev W40 : Type := Nat × Nat × List Int × Unit
noncomputable def T6 (N : Nat) (β : Type) (x : W39) (kn : W39 → Option β) (ke : W40 → Option β) : Option β :=
 if (x.2.2.2.1 < x.2.2.1) then
  if 0 ≤ x.2.2.2.1 then (
  if x.2.2.2.1 < ((List.length x.2.1 : Nat) : Int) then (
  if (x.1 + (List.length (List.getD x.2.1 (x.2.2.2.1.toNat) []))) * 1 ≤ 140737488355328 then (
  kn ((x.1 + (List.length (List.getD x.2.1 (x.2.2.2.1.toNat) []))), x.2.1, x.2.2.1, (IntKind.i64.wrap (x.2.2.2.1 + (1:Int))), (x.2.2.2.2.1 + (List.length (List.getD x.2.1 (x.2.2.2.1.toNat) []))), (x.2.2.2.2.2.1 ++ (List.getD x.2.1 (x.2.2.2.1.toNat) [])), ())) else none) else none) else none
 else
  ke (x.1, x.2.2.2.2.1, x.2.2.2.2.2.1, ())
noncomputable def b61 : Go' W40 := fun y K => K (.exit 2) (fSt { tmps := pv 6 (.sc (.vec 0 none 1) :: pv 26 []), mem := [.live [.xs b8 none] (.own)] } [.nat, .nat, .xs] y)
noncomputable def a9m (N : Nat) : LT := upd (a9l N) 9 (o9 b8F N (T6 N) b61)
theorem b62 (N : Nat) : OkAll p_octet_Join_E a8p N (a9m N) (x4 a2i) :=
 d7 (c := d8 9 a2i) (b60 N) (by kernel_rfl) (fun x => by kernel_rfl) (fun β x kn ke => by kernel_rfl)
abbrev a07 : List Kd := [.sls b8]
abbrev a08 : List Kd := [.sl b8]
noncomputable def a7N (N : Nat) (x : List (List Int) × Unit) : Option (List Int) :=
 m9 (T5 N) N (x.1, (0:Int), x.1, ((List.length x.1 : Nat) : Int), (0:Int), ()) fun y1 => (
 if 0 ≤ (0:Int) then (
 if (0:Int) ≤ y1.2.1 then (
 if y1.2.1 * 1 ≤ 281474976710656 then (
 m9 (T6 N) N (0, y1.1, ((List.length y1.1 : Nat) : Int), (0:Int), 0, (List.replicate 0 0), ()) fun y2 => (
 some y2.2.2.1)) else none) else none) else none)
theorem c0e : p_octet_Join_E.Ok Try.prog := AE.of_ok (all_cons Z8 (all_cons G0 (all_cons a2P c6))) c6
theorem c2k (hE : p_octet_Join_E.Ok Try.prog) {g : Ds a07 → Option (Rs a08)} (hg : ∀ x r, g x = some r → ∃ N, a7N N x = some r) : c8 Try.prog 16 ⟨a07, a08, g⟩ :=
 i6 (E := p_octet_Join_E) (H := a8p) (L := fun N => a9m N) (c := a2i) (ks := a07) (rs := a08) (F := a7N) hE mix Try.func16 (by kernel_rfl) (fun N => b62 N) (fun _ _ => by kernel_rfl) hg
noncomputable def p_octet_Same_E : AE := AE.of [(5, ty5), (23, ty23)] []
noncomputable def b4c : Hints := [(5, [0, 1, 5, 13, 14]), (2000000, [5]), (2000001, [0, 1, 5, 13, 14]), (3000000, [4])]
noncomputable def a8q : Code := (Try.f40).body.getD .skip
noncomputable def b8G : Shape := mkS { tmps := .sc (.vec 0 none 1) :: .sc (.vec 1 none 1) :: pv 3 (.sc (.int .u8) :: pv 7 (.sc (.int .i64) :: .sc (.int .i64) :: pv 16 [])), mem := [.live [.xs b8 none] (.ro), .live [.xs b8 none] (.ro)] } [.nat, .nat, .int, .int, .int, .nat, .xs, .nat, .xs]
abbrev W41 : Type := Nat × Nat × Int × Int × Int × Nat × List Int × Nat × List Int × Unit
noncomputable def T7 (N : Nat) (β : Type) (x : W41) (kn : W41 → Option β) (ke : ((Int × Unit)) → Option β) : Option β :=
 if (x.2.2.2.2.1 < x.2.2.2.1) then
  if 0 ≤ x.2.2.2.2.1 then (
  if x.2.2.2.2.1 < ((x.1 : Nat) : Int) then (
  if (x.2.2.2.2.1.toNat) < x.2.2.2.2.2.1 then (
  if 0 ≤ x.2.2.2.2.1 then (
  if x.2.2.2.2.1 < ((x.2.1 : Nat) : Int) then (
  if (x.2.2.2.2.1.toNat) < x.2.2.2.2.2.2.2.1 then (
  kn (x.1, x.2.1, (ior IntKind.u8 x.2.2.1 (c1C IntKind.u8 (List.getD x.2.2.2.2.2.2.1 (x.2.2.2.2.1.toNat) 0) (List.getD x.2.2.2.2.2.2.2.2.1 (x.2.2.2.2.1.toNat) 0))), x.2.2.2.1, (IntKind.i64.wrap (x.2.2.2.2.1 + (1:Int))), x.2.2.2.2.2.1, x.2.2.2.2.2.2.1, x.2.2.2.2.2.2.2.1, x.2.2.2.2.2.2.2.2.1, ())) else none) else none) else none) else none) else none) else none
 else
  ke (x.2.2.1, ())
noncomputable def b63 : Go' ((Int × Unit)) := fun y K => K (.exit 0) (fSt { tmps := pv 5 (.sc (.int .u8) :: pv 25 []), mem := [] } [.int] y)
noncomputable def a9n (N : Nat) : LT := upd (LT.nil) 5 (o9 b8G N (T7 N) b63)
theorem b65 (N : Nat) : OkAll p_octet_Same_E b4c N (a9n N) (x4 a8q) :=
 d7 (c := d8 5 a8q) (OkAll.nil) (by kernel_rfl) (fun x => by kernel_rfl) (fun β x kn ke => by kernel_rfl)
abbrev a09 : List Kd := [.sl b8, .sl b8]
abbrev a6Z : List Kd := [.bool]
noncomputable def a7O (N : Nat) (x : List Int × List Int × Unit) : Option (Bool) :=
 if ((((List.length x.1) : Nat) : Int) ≠ (((List.length x.2.1) : Nat) : Int)) then
  some false
 else
  m9 (T7 N) N ((List.length x.1), (List.length x.2.1), (0:Int), (((List.length x.1) : Nat) : Int), (0:Int), (List.length x.1), x.1, (List.length x.2.1), x.2.1, ()) fun y1 => (
  some (decide (y1.1 = (0:Int))))
theorem c0f : p_octet_Same_E.Ok Try.prog := AE.of_ok (all_cons Z8 (all_cons G0 c6)) c6
theorem c2l (hE : p_octet_Same_E.Ok Try.prog) {g : Ds a09 → Option (Rs [.bool])} (hg : ∀ x r, g x = some r → ∃ N, a7O N x = some r) : c8 Try.prog 40 ⟨a09, [.bool], g⟩ :=
 i6 (E := p_octet_Same_E) (H := b4c) (L := fun N => a9n N) (c := a8q) (ks := a09) (rs := a6Z) (F := a7O) hE mix Try.func40 (by kernel_rfl) (fun N => b65 N) (fun _ _ => by kernel_rfl) hg
noncomputable def p_dring_pack_E : AE := AE.of [(2, ty2), (5, ty5), (23, ty23), (91, ty91)] []
noncomputable def a8f : Hints := [(5, [0, 6, 20, 21]), (10, [0, 6, 7, 8, 20, 21, 33, 34]), (2000000, [6]), (2000001, [0, 6, 20, 21]), (2000002, [0, 6, 20, 21]), (2000003, [0, 6, 7, 8, 20, 21, 33, 34]), (3000000, [4, 5])]
noncomputable def a2a : Code := (Try.f49).body.getD .skip
noncomputable def b6y : Shape := mkS { tmps := .sc (.int .i64) :: pv 5 (.sc (.vec 0 none 1) :: .sc (.int .i64) :: .sc (.int .i64) :: pv 11 (.agg [.xs b64 (some 256)] :: .sc (.int .i64) :: pv 11 (.sc (.int .i64) :: .sc (.int .i64) :: pv 25 []))), mem := [.live [.xs b8 none] (.own)] } [.int, .nat, .int, .int, .xs, .int, .int, .int, .nat, .xs]
abbrev W42 : Type := Int × Nat × Int × Int × List Int × Int × Int × Int × Nat × List Int × Unit
abbrev W43 : Type := Int × Nat × List Int × Int × Nat × List Int × Unit
noncomputable def P2 (N : Nat) (β : Type) (x : W42) (kn : W42 → Option β) (ke : W43 → Option β) : Option β :=
 if (x.2.2.2.2.2.2.2.1 < x.2.2.2.2.2.2.1) then
  if 0 ≤ (IntKind.i64.wrap (Int.tdiv (IntKind.i64.wrap ((IntKind.i64.wrap (x.2.2.1 * x.1)) + x.2.2.2.2.2.2.2.1)) (8:Int))) then (
  if (IntKind.i64.wrap (Int.tdiv (IntKind.i64.wrap ((IntKind.i64.wrap (x.2.2.1 * x.1)) + x.2.2.2.2.2.2.2.1)) (8:Int))) < ((x.2.1 : Nat) : Int) then (
  if ((IntKind.i64.wrap (Int.tdiv (IntKind.i64.wrap ((IntKind.i64.wrap (x.2.2.1 * x.1)) + x.2.2.2.2.2.2.2.1)) (8:Int))).toNat) < x.2.2.2.2.2.2.2.2.1 then (
  if x.2.2.2.2.2.2.2.1 < 0 then none else (
  if (Int.tmod (IntKind.i64.wrap ((IntKind.i64.wrap (x.2.2.1 * x.1)) + x.2.2.2.2.2.2.2.1)) (8:Int)) < 0 then none else (
  if 0 ≤ (IntKind.i64.wrap (Int.tdiv (IntKind.i64.wrap ((IntKind.i64.wrap (x.2.2.1 * x.1)) + x.2.2.2.2.2.2.2.1)) (8:Int))) then (
  if (IntKind.i64.wrap (Int.tdiv (IntKind.i64.wrap ((IntKind.i64.wrap (x.2.2.1 * x.1)) + x.2.2.2.2.2.2.2.1)) (8:Int))) < ((x.2.1 : Nat) : Int) then (
  if ((IntKind.i64.wrap (Int.tdiv (IntKind.i64.wrap ((IntKind.i64.wrap (x.2.2.1 * x.1)) + x.2.2.2.2.2.2.2.1)) (8:Int))).toNat) < x.2.2.2.2.2.2.2.2.1 then (
  kn (x.1, x.2.1, x.2.2.1, x.2.2.2.1, x.2.2.2.2.1, x.2.2.2.2.2.1, x.2.2.2.2.2.2.1, (IntKind.i64.wrap (x.2.2.2.2.2.2.2.1 + (1:Int))), x.2.2.2.2.2.2.2.2.1, (List.set x.2.2.2.2.2.2.2.2.2.1 ((IntKind.i64.wrap (Int.tdiv (IntKind.i64.wrap ((IntKind.i64.wrap (x.2.2.1 * x.1)) + x.2.2.2.2.2.2.2.1)) (8:Int))).toNat) (ior IntKind.u8 (List.getD x.2.2.2.2.2.2.2.2.2.1 ((IntKind.i64.wrap (Int.tdiv (IntKind.i64.wrap ((IntKind.i64.wrap (x.2.2.1 * x.1)) + x.2.2.2.2.2.2.2.1)) (8:Int))).toNat) 0) (b0Z IntKind.u8 (IntKind.u8.wrap (b87 IntKind.i64 (b9D IntKind.i64 x.2.2.2.1 x.2.2.2.2.2.2.2.1) (1:Int))) (Int.tmod (IntKind.i64.wrap ((IntKind.i64.wrap (x.2.2.1 * x.1)) + x.2.2.2.2.2.2.2.1)) (8:Int))))), ())) else none) else none) else none))) else none) else none) else none
 else
  ke (x.1, x.2.1, x.2.2.2.2.1, x.2.2.2.2.2.1, x.2.2.2.2.2.2.2.2.1, x.2.2.2.2.2.2.2.2.2.1, ())
noncomputable def b4Q : Go' W43 := fun y K => K (.exit 2) (fSt { tmps := .sc (.int .i64) :: pv 5 (.sc (.vec 0 none 1) :: pv 13 (.agg [.xs b64 (some 256)] :: .sc (.int .i64) :: pv 38 [])), mem := [.live [.xs b8 none] (.own)] } [.int, .nat, .xs, .int, .nat, .xs] y)
noncomputable def a7B (N : Nat) : LT := upd (LT.nil) 10 (o9 b6y N (P2 N) b4Q)
theorem b4R (N : Nat) : OkAll p_dring_pack_E a8f N (a7B N) (x4 a2a) :=
 d7 (c := d8 10 a2a) (OkAll.nil) (by kernel_rfl) (fun x => by kernel_rfl) (fun β x kn ke => by kernel_rfl)
noncomputable def b8n : Shape := mkS { tmps := .sc (.int .i64) :: pv 5 (.sc (.vec 0 none 1) :: pv 13 (.agg [.xs b64 (some 256)] :: .sc (.int .i64) :: pv 38 [])), mem := [.live [.xs b8 none] (.own)] } [.int, .nat, .xs, .int, .nat, .xs]
noncomputable def S9 (N : Nat) (β : Type) (x : W43) (kn : W43 → Option β) (ke : W31 → Option β) : Option β :=
 if (x.2.2.2.1 < (256:Int)) then
  if 0 ≤ x.2.2.2.1 then (
  if x.2.2.2.1 < 256 then (
  if (x.2.2.2.1.toNat) < 256 then (
  if ((List.getD x.2.2.1 (x.2.2.2.1.toNat) 0) < (0:Int)) then
   ke (.inl ((1:Int), ()))
  else
   if x.1 < 0 then none else (
   if ((List.getD x.2.2.1 (x.2.2.2.1.toNat) 0) ≥ (b0Z IntKind.i64 (1:Int) x.1)) then
    ke (.inl ((1:Int), ()))
   else
    m9 (P2 N) N (x.1, x.2.1, x.2.2.2.1, (List.getD x.2.2.1 (x.2.2.2.1.toNat) 0), x.2.2.1, x.2.2.2.1, x.1, (0:Int), x.2.2.2.2.1, x.2.2.2.2.2.1, ()) fun y1 => (
    kn (y1.1, y1.2.1, y1.2.2.1, (IntKind.i64.wrap (y1.2.2.2.1 + (1:Int))), y1.2.2.2.2.1, y1.2.2.2.2.2.1, ())))) else none) else none) else none
 else
  ke (.inr (x.2.1, x.2.2.2.2.1, x.2.2.2.2.2.1, ()))
noncomputable def b6z : Go' W31 := fun y K => match y with
 | .inl y => K .ret (fSt { tmps := pv 4 (.sc (.nilsl) :: .sc (.int .i64) :: pv 54 []), mem := [] } [.int] y)
 | .inr y => K (.exit 0) (fSt { tmps := pv 6 (.sc (.vec 0 none 1) :: pv 53 []), mem := [.live [.xs b8 none] (.own)] } [.nat, .nat, .xs] y)
noncomputable def a88 (N : Nat) : LT := upd (a7B N) 5 (o9 b8n N (S9 N) b6z)
theorem b6A (N : Nat) : OkAll p_dring_pack_E a8f N (a88 N) (x4 a2a) :=
 d7 (c := d8 5 a2a) (b4R N) (by kernel_rfl) (fun x => by kernel_rfl) (fun β x kn ke => by kernel_rfl)
abbrev a0X : List Kd := [.int .i64, .xs b64 256]
abbrev a0Y : List Kd := [.sl b8, .int .i64]
noncomputable def a5h (N : Nat) (x : Int × List Int × Unit) : Option (List Int × Int) :=
 if (x.1 < (1:Int)) then
  some ([], (1:Int))
 else
  if (x.1 > (23:Int)) then
   some ([], (1:Int))
  else
   if 0 ≤ (IntKind.i64.wrap ((32:Int) * x.1)) then (
   if (IntKind.i64.wrap ((32:Int) * x.1)) = (IntKind.i64.wrap ((32:Int) * x.1)) then (
   if (IntKind.i64.wrap ((32:Int) * x.1)) * 1 ≤ 281474976710656 then (
   m9 (S9 N) N (x.1, ((IntKind.i64.wrap ((32:Int) * x.1)).toNat), x.2.1, (0:Int), ((IntKind.i64.wrap ((32:Int) * x.1)).toNat), (List.replicate ((IntKind.i64.wrap ((32:Int) * x.1)).toNat) 0), ()) fun y => (match y with
   | .inl y2 => (
    some ([], y2.1))
   | .inr y3 => (
    some (y3.2.2.1, (0:Int))))) else none) else none) else none
theorem b9Y : p_dring_pack_E.Ok Try.prog := AE.of_ok (all_cons a9v (all_cons Z8 (all_cons G0 (all_cons c9f c6)))) c6
theorem c16 (hE : p_dring_pack_E.Ok Try.prog) {g : Ds a0X → Option (Rs a0Y)} (hg : ∀ x r, g x = some r → ∃ N, a5h N x = some r) : c8 Try.prog 49 ⟨a0X, a0Y, g⟩ :=
 i6 (E := p_dring_pack_E) (H := a8f) (L := fun N => a88 N) (c := a2a) (ks := a0X) (rs := a0Y) (F := a5h) hE mix Try.func49 (by kernel_rfl) (fun N => b6A N) (fun _ _ => by kernel_rfl) hg
noncomputable abbrev a4V : Sig := ⟨[.int .i64, .xs b64 256], [.sl b8, .int .i64], a5a⟩
noncomputable def p_dring_Pack_E : AE := AE.of [(2, ty2), (21, ty21), (40, ty40), (91, ty91)] [(47, E2), (49, a4V)]
noncomputable def b4b : Hints := [(3, [0, 6, 10, 11]), (2000000, [0, 6]), (2000001, [0, 6, 10, 11]), (3000000, [4, 5])]
noncomputable def a76 : Code := (Try.f23).body.getD .skip
noncomputable def b8e : Shape := mkS { tmps := .sc (.int .i64) :: pv 5 (.sc (.ptr 0 0 false) :: pv 3 (.agg [.xs b32 (some 256)] :: .sc (.int .i64) :: pv 13 [])), mem := [.live [.xs b64 (some 256)] (.own)] } [.int, .xs, .int, .xs]
abbrev W44 : Type := Int × List Int × Int × List Int × Unit
noncomputable def S4 (N : Nat) (β : Type) (x : W44) (kn : W44 → Option β) (ke : ((Int × List Int × Unit)) → Option β) : Option β :=
 if (x.2.2.1 < (256:Int)) then
  if 0 ≤ x.2.2.1 then (
  if x.2.2.1 < 256 then (
  if (x.2.2.1.toNat) < 256 then (
  if 0 ≤ x.2.2.1 then (
  if x.2.2.1 < 256 then (
  if (x.2.2.1.toNat) < 256 then (
  kn (x.1, x.2.1, (IntKind.i64.wrap (x.2.2.1 + (1:Int))), (List.set x.2.2.2.1 (x.2.2.1.toNat) (IntKind.i64.wrap (List.getD x.2.1 (x.2.2.1.toNat) 0))), ())) else none) else none) else none) else none) else none) else none
 else
  ke (x.1, x.2.2.2.1, ())
noncomputable def b6o : Go' ((Int × List Int × Unit)) := fun y K => K (.exit 0) (fSt { tmps := .sc (.int .i64) :: pv 5 (.sc (.ptr 0 0 false) :: pv 18 []), mem := [.live [.xs b64 (some 256)] (.own)] } [.int, .xs] y)
noncomputable def a80 (N : Nat) : LT := upd (LT.nil) 3 (o9 b8e N (S4 N) b6o)
theorem b6p (N : Nat) : OkAll p_dring_Pack_E b4b N (a80 N) (x4 a76) :=
 d7 (c := d8 3 a76) (OkAll.nil) (by kernel_rfl) (fun x => by kernel_rfl) (fun β x kn ke => by kernel_rfl)
abbrev a0Q : List Kd := [.int .i64, .xs b32 256]
abbrev a0R : List Kd := [.sl b8, .int .i64]
noncomputable def a5c (N : Nat) (x : Int × List Int × Unit) : Option (List Int × Int) :=
 (Q5 (x.2.1, ())).bind fun r1 => (
 m9 (S4 N) N (x.1, r1, (0:Int), (List.replicate 256 0), ()) fun y2 => (
 (a5a (y2.1, y2.2.1, ())).bind fun r3 => (
 some (r3.1, r3.2))))
theorem b9R (e0 : c8 Try.prog 47 E2) (e1 : c8 Try.prog 49 a4V) : p_dring_Pack_E.Ok Try.prog := AE.of_ok (all_cons a9v (all_cons u6 (all_cons s5 (all_cons c9f c6)))) (all_cons ⟨e0, U5⟩ (all_cons ⟨e1, a8H⟩ c6))
theorem c10 (hE : p_dring_Pack_E.Ok Try.prog) {g : Ds a0Q → Option (Rs a0R)} (hg : ∀ x r, g x = some r → ∃ N, a5c N x = some r) : c8 Try.prog 23 ⟨a0Q, a0R, g⟩ :=
 i6 (E := p_dring_Pack_E) (H := b4b) (L := fun N => a80 N) (c := a76) (ks := a0Q) (rs := a0R) (F := a5c) hE mix Try.func23 (by kernel_rfl) (fun N => b6p N) (fun _ _ => by kernel_rfl) hg
noncomputable def p_dring_PackFrom_E : AE := AE.of [(2, ty2), (21, ty21), (40, ty40), (91, ty91)] [(50, a1J), (49, a4V)]
noncomputable def a7y : Hints := [(3, [0, 1, 8, 12, 13]), (2000000, [1, 8]), (2000001, [0, 1, 8, 12, 13]), (3000000, [6, 7])]
noncomputable def a3t : Code := (Try.f24).body.getD .skip
noncomputable def b2e : Shape := mkS { tmps := .sc (.int .i32) :: .sc (.int .i64) :: pv 6 (.sc (.ptr 0 0 false) :: pv 3 (.agg [.xs b32 (some 256)] :: .sc (.int .i64) :: pv 16 [])), mem := [.live [.xs b64 (some 256)] (.own)] } [.int, .int, .xs, .int, .xs]
abbrev W45 : Type := Int × Int × List Int × Int × List Int × Unit
noncomputable def E8 (N : Nat) (β : Type) (x : W45) (kn : W45 → Option β) (ke : ((Int × List Int × Unit)) → Option β) : Option β :=
 if (x.2.2.2.1 < (256:Int)) then
  if 0 ≤ x.2.2.2.1 then (
  if x.2.2.2.1 < 256 then (
  if (x.2.2.2.1.toNat) < 256 then (
  if 0 ≤ x.2.2.2.1 then (
  if x.2.2.2.1 < 256 then (
  if (x.2.2.2.1.toNat) < 256 then (
  kn (x.1, x.2.1, x.2.2.1, (IntKind.i64.wrap (x.2.2.2.1 + (1:Int))), (List.set x.2.2.2.2.1 (x.2.2.2.1.toNat) (IntKind.i64.wrap ((IntKind.i64.wrap x.1) - (IntKind.i64.wrap (List.getD x.2.2.1 (x.2.2.2.1.toNat) 0))))), ())) else none) else none) else none) else none) else none) else none
 else
  ke (x.2.1, x.2.2.2.2.1, ())
noncomputable def b04 : Go' ((Int × List Int × Unit)) := fun y K => K (.exit 0) (fSt { tmps := V :: .sc (.int .i64) :: pv 6 (.sc (.ptr 0 0 false) :: pv 21 []), mem := [.live [.xs b64 (some 256)] (.own)] } [.int, .xs] y)
noncomputable def a5d (N : Nat) : LT := upd (LT.nil) 3 (o9 b2e N (E8 N) b04)
theorem b05 (N : Nat) : OkAll p_dring_PackFrom_E a7y N (a5d N) (x4 a3t) :=
 d7 (c := d8 3 a3t) (OkAll.nil) (by kernel_rfl) (fun x => by kernel_rfl) (fun β x kn ke => by kernel_rfl)
abbrev L0 : List Kd := [.int .i32, .int .i64, .xs b32 256]
abbrev L4 : List Kd := [.sl b8, .int .i64]
noncomputable def Y4 (N : Nat) (x : Int × Int × List Int × Unit) : Option (List Int × Int) :=
 (a1N (x.2.2.1, ())).bind fun r1 => (
 m9 (E8 N) N (x.1, x.2.1, r1, (0:Int), (List.replicate 256 0), ()) fun y2 => (
 (a5a (y2.1, y2.2.1, ())).bind fun r3 => (
 some (r3.1, r3.2))))
theorem b3p (e0 : c8 Try.prog 50 a1J) (e1 : c8 Try.prog 49 a4V) : p_dring_PackFrom_E.Ok Try.prog := AE.of_ok (all_cons a9v (all_cons u6 (all_cons s5 (all_cons c9f c6)))) (all_cons ⟨e0, a6u⟩ (all_cons ⟨e1, a8H⟩ c6))
theorem b4J (hE : p_dring_PackFrom_E.Ok Try.prog) {g : Ds L0 → Option (Rs L4)} (hg : ∀ x r, g x = some r → ∃ N, Y4 N x = some r) : c8 Try.prog 24 ⟨L0, L4, g⟩ :=
 i6 (E := p_dring_PackFrom_E) (H := a7y) (L := fun N => a5d N) (c := a3t) (ks := L0) (rs := L4) (F := Y4) hE mix Try.func24 (by kernel_rfl) (fun N => b05 N) (fun _ _ => by kernel_rfl) hg
noncomputable def p_dsa_hash_E : AE := AE.ofI [] [(42, E3)] [] [(14, a1l), (22, a6x)] [] [] []
noncomputable def c6P : Hints := [(3000000, [4]), (5000000, [4])]
noncomputable def c6Q : Code := (Try.f13).body.getD .skip
abbrev a3E : List Kd := [.int .i64, .sls b8]
abbrev a3F : List Kd := [.sl b8]
noncomputable def a9e (N : Nat) (x : Int × List (List Int) × Unit) : Option (List Int) :=
 (v5 ((256:Int), x.1, x.2.1, ())).bind fun r1 => (
 if (r1.2 ≠ (0:Int)) then none else (
 some r1.1))
theorem c3f (e0 : c8 Try.prog 42 E3) : p_dsa_hash_E.Ok Try.prog := AE.ofI_ok c6 (all_cons ⟨e0, U6⟩ c6) c6 (all_cons ⟨O5, A7⟩ (all_cons ⟨a2V, a0b⟩ c6)) c6
theorem c40 (hE : p_dsa_hash_E.Ok Try.prog) {g : Ds a3E → Option (Rs a3F)} (hg : ∀ x r, g x = some r → ∃ N, a9e N x = some r) : c8 Try.prog 13 ⟨a3E, a3F, g⟩ :=
 i6 (E := p_dsa_hash_E) (H := c6P) (L := fun N => LT.nil) (c := c6Q) (ks := a3E) (rs := a3F) (F := a9e) hE mix Try.func13 (by kernel_rfl) (fun N => OkAll.nil) (fun _ _ => by kernel_rfl) hg
noncomputable def p_dsa_two_E : AE := AE.of [(3, ty3), (5, ty5), (23, ty23)] []
noncomputable def c8B : Hints := [(3000000, [2])]
noncomputable def c8C : Code := (Try.f17).body.getD .skip
abbrev b2r : List Kd := [.int .i64]
abbrev a5l : List Kd := [.sl b8]
noncomputable def b2q (N : Nat) (x : Int × Unit) : Option (List Int) :=
 some (List.set (List.set (List.replicate 2 0) 0 (IntKind.u8.wrap x.1)) 1 (IntKind.u8.wrap (b9D IntKind.i64 x.1 (8:Int))))
theorem c47 : p_dsa_two_E.Ok Try.prog := AE.of_ok (all_cons a5T (all_cons Z8 (all_cons G0 c6))) c6
theorem c6T (hE : p_dsa_two_E.Ok Try.prog) {g : Ds [.int .i64] → Option (Rs a5l)} (hg : ∀ x r, g x = some r → ∃ N, b2q N x = some r) : c8 Try.prog 17 ⟨[.int .i64], a5l, g⟩ :=
 i6 (E := p_dsa_two_E) (H := c8B) (L := fun N => LT.nil) (c := c8C) (ks := b2r) (rs := a5l) (F := b2q) hE mix Try.func17 (by kernel_rfl) (fun N => OkAll.nil) (fun _ _ => by kernel_rfl) hg
noncomputable abbrev R8 : Sig := ⟨[.int .i64, .sls b8], [.sl b8], J6⟩
noncomputable def p_dsa_meant_E : AE := AE.of [(3, ty3), (5, ty5), (23, ty23), (35, ty35)] [(13, R8)]
noncomputable def c41 : Hints := [(3000000, [6])]
noncomputable def c42 : Code := (Try.f26).body.getD .skip
abbrev a2d : List Kd := [.sl b8, .sl b8, .sl b8]
abbrev a2e : List Kd := [.sl b8]
noncomputable def a6K (N : Nat) (x : List Int × List Int × List Int × Unit) : Option (List Int) :=
 (J6 ((64:Int), [x.1, (List.set (List.set (List.replicate 2 0) 0 (0:Int)) 1 (IntKind.u8.wrap (((List.length x.2.2.1) : Nat) : Int))), x.2.2.1, x.2.1], ())).bind fun r1 => (
 some r1)
theorem c2e (e0 : c8 Try.prog 13 R8) : p_dsa_meant_E.Ok Try.prog := AE.of_ok (all_cons a5T (all_cons Z8 (all_cons G0 (all_cons a2P c6)))) (all_cons ⟨e0, a0D⟩ c6)
theorem c3g (hE : p_dsa_meant_E.Ok Try.prog) {g : Ds a2d → Option (Rs a2e)} (hg : ∀ x r, g x = some r → ∃ N, a6K N x = some r) : c8 Try.prog 26 ⟨a2d, a2e, g⟩ :=
 i6 (E := p_dsa_meant_E) (H := c41) (L := fun N => LT.nil) (c := c42) (ks := a2d) (rs := a2e) (F := a6K) hE mix Try.func26 (by kernel_rfl) (fun N => OkAll.nil) (fun _ _ => by kernel_rfl) hg
noncomputable abbrev N8 : Sig := ⟨[.sls b8], [.sl b8], m7⟩
noncomputable abbrev a4T : Sig := ⟨[.int .i64, .xs b32 256], [.sl b8, .int .i64], a2R⟩
noncomputable def p_dsa_challenge_E : AE := AE.ofI [(5, ty5), (23, ty23), (35, ty35), (40, ty40), (44, ty44)] [(16, N8), (23, a4T), (13, R8)] [] [(14, a1l), (22, a6x)] [] [] []
noncomputable def a9b : Hints := [(3, [3, 4, 5, 10]), (2000000, [4, 5]), (2000001, [3, 4, 5, 10]), (3000000, [4]), (5000000, [4])]
noncomputable def a4u : Code := (Try.f41).body.getD .skip
noncomputable def b3F : Shape := mkS { tmps := pv 3 (.sc (.ptr 0 0 false) :: .sc (.nilsl) :: .sc (.vec 1 none 1) :: pv 4 (.sc (.int .i64) :: pv 15 [])), mem := [.live [.xs b32 (some 1536)] (.own), .live [.xs b8 none] (.own)] } [.nat, .int, .xs, .nat, .xs]
abbrev W46 : Type := Nat × Int × List Int × Nat × List Int × Unit
noncomputable def I1 (N : Nat) (β : Type) (x : W46) (kn : W46 → Option β) (ke : W31 → Option β) : Option β :=
 if (x.2.1 < (6:Int)) then
  if 0 ≤ x.2.1 then (
  if x.2.1 < 6 then (
  if ((x.2.1.toNat) * 256) + 256 ≤ 1536 then (
  (a2R ((4:Int), (List.take 256 (List.drop ((x.2.1.toNat) * 256) x.2.2.1)), ())).bind fun r2 => (
  if (r2.2 ≠ (0:Int)) then
   ke (.inl (r2.2, ()))
  else
   if (x.1 + (List.length r2.1)) * 1 ≤ 140737488355328 then (
   kn ((x.1 + (List.length r2.1)), (IntKind.i64.wrap (x.2.1 + (1:Int))), x.2.2.1, (x.2.2.2.1 + (List.length r2.1)), (x.2.2.2.2.1 ++ r2.1), ())) else none)) else none) else none) else none
 else
  ke (.inr (x.1, x.2.2.2.1, x.2.2.2.2.1, ()))
noncomputable def b2l : Go' W31 := fun y K => match y with
 | .inl y => K (.pan (.ifi 26 .i64) y.1) (fSt { tmps := pv 4 (.sc (.nilsl) :: pv 21 []), mem := [] } [] ())
 | .inr y => K (.exit 0) (fSt { tmps := pv 4 (.sc (.nilsl) :: .sc (.vec 0 none 1) :: pv 20 []), mem := [.live [.xs b8 none] (.own)] } [.nat, .nat, .xs] y)
noncomputable def a5P (N : Nat) : LT := upd (LT.nil) 3 (o9 b3F N (I1 N) b2l)
theorem b2m (N : Nat) : OkAll p_dsa_challenge_E a9b N (a5P N) (x4 a4u) :=
 d7 (c := d8 3 a4u) (OkAll.nil) (by kernel_rfl) (fun x => by kernel_rfl) (fun β x kn ke => by kernel_rfl)
abbrev P3 : List Kd := [.sl b8, .xs b32 1536]
abbrev P4 : List Kd := [.sl b8]
noncomputable def a02 (N : Nat) (x : List Int × List Int × Unit) : Option (List Int) :=
 (m7 ([x.1], ())).bind fun r1 => (
 m9 (I1 N) N ((List.length r1), (0:Int), x.2.1, (List.length r1), r1, ()) fun y => (match y with
 | .inl y3 => (
  none)
 | .inr y4 => (
  (J6 ((48:Int), [y4.2.2.1], ())).bind fun r5 => (
  some r5))))
theorem b48 (e0 : c8 Try.prog 16 N8) (e1 : c8 Try.prog 23 a4T) (e2 : c8 Try.prog 13 R8) : p_dsa_challenge_E.Ok Try.prog := AE.ofI_ok (all_cons Z8 (all_cons G0 (all_cons a2P (all_cons s5 (all_cons b5D c6))))) (all_cons ⟨e0, a1h⟩ (all_cons ⟨e1, a8D⟩ (all_cons ⟨e2, a0D⟩ c6))) c6 (all_cons ⟨O5, A7⟩ (all_cons ⟨a2V, a0b⟩ c6)) c6
theorem b6L (hE : p_dsa_challenge_E.Ok Try.prog) {g : Ds P3 → Option (Rs P4)} (hg : ∀ x r, g x = some r → ∃ N, a02 N x = some r) : c8 Try.prog 41 ⟨P3, P4, g⟩ :=
 i6 (E := p_dsa_challenge_E) (H := a9b) (L := fun N => a5P N) (c := a4u) (ks := P3) (rs := P4) (F := a02) hE mix Try.func41 (by kernel_rfl) (fun N => b2m N) (fun _ _ => by kernel_rfl) hg
noncomputable def p_dsa_poly_E : AE := AE.ofI [(40, ty40)] [] [] [(43, a6f)] [] [] []
noncomputable def c6R : Hints := [(3000000, [4]), (5000000, [4])]
noncomputable def c6S : Code := (Try.f14).body.getD .skip
abbrev a3H : List Kd := [.xs b32 256, .int .i64]
abbrev a3I : List Kd := [.xs b32 256]
noncomputable def b3a (N : Nat) (x : List Int × Int × Unit) : Option (Int ⊕ (List Int)) :=
 if (x.2.1 ≠ (0:Int)) then
  some (.inl x.2.1)
 else
  some (.inr x.1)
theorem c3h : p_dsa_poly_E.Ok Try.prog := AE.ofI_ok (all_cons s5 c6) c6 c6 (all_cons ⟨a3n, a0C⟩ c6) c6
theorem c43 (hE : p_dsa_poly_E.Ok Try.prog) {g : Ds a3H → Option (Bool × Int × Rs a3I)} (hg : ∀ x r, g x = some r → ∃ N, b3a N x = some (xr r)) : XOk Try.prog 14 ⟨a3H, a3I, (.ifi 26 .i64), g⟩ :=
 c1v (E := p_dsa_poly_E) (H := c6R) (L := fun N => LT.nil) (c := c6S) (ks := a3H) (rs := a3I) (F := b3a) hE mix Try.func14 (by kernel_rfl) (fun N => OkAll.nil) (fun _ _ => by kernel_rfl) hg
noncomputable abbrev a7V : Sig := ⟨[.sl b8], [.xs b32 256, .int .i64], a0d⟩
noncomputable abbrev b7w : XSig := ⟨[.xs b32 256, .int .i64], [.xs b32 256], (.ifi 26 .i64), a6e⟩
noncomputable def p_dsa_expand_E : AE := AE.ofA [(3, ty3), (5, ty5), (23, ty23), (35, ty35), (40, ty40), (42, ty42), (88, ty88)] [(16, N8), (46, a7V)] [(14, b7w)] [] [] [(14, a1l), (22, a6x)] [] [] [] [] [] []
noncomputable def a8g : Hints := [(3, [0, 2, 3, 6]), (6, [0, 2, 3, 4, 6, 9]), (2000000, [2, 3]), (2000001, [0, 2, 3, 6]), (2000002, [0, 2, 3, 6]), (2000003, [0, 2, 3, 4, 6, 9]), (3000000, [2]), (5000000, [2])]
noncomputable def a2b : Code := (Try.f18).body.getD .skip
noncomputable def b8v : Shape := mkS { tmps := .sc (.vec 0 none 1) :: V :: .sc (.nilp) :: .sc (.ptr 1 0 false) :: .sc (.int .i64) :: V :: .sc (.int .i64) :: V :: V :: .sc (.int .i64) :: pv 20 [], mem := [.live [.xs b8 none] (.ro), .live [.xs b32 (some 7680)] (.own)] } [.nat, .int, .int, .int, .nat, .xs, .xs]
abbrev W47 : Type := Nat × Int × Int × Int × Nat × List Int × List Int × Unit
abbrev W48 : Type := (Int × Unit) ⊕ (Nat × Int × Nat × List Int × List Int × Unit)
noncomputable def x8 (N : Nat) (β : Type) (x : W47) (kn : W47 → Option β) (ke : W48 → Option β) : Option β :=
 if (x.2.2.2.1 < (5:Int)) then
  (m7 ([x.2.2.2.2.2.1, (List.set (List.set (List.replicate 2 0) 0 (IntKind.u8.wrap x.2.2.2.1)) 1 (IntKind.u8.wrap x.2.1))], ())).bind fun r1 => (
  (a0d (r1, ())).bind fun r2 => (
  if 0 ≤ x.2.1 then (
  if x.2.1 < 6 then (
  (a6e (r2.1, r2.2, ())).bind fun r3 => (
  if r3.1 = true then
   ke (.inl (r3.2.1, ()))
  else
   (m7 ([x.2.2.2.2.2.1, (List.set (List.set (List.replicate 2 0) 0 (IntKind.u8.wrap x.2.2.2.1)) 1 (IntKind.u8.wrap x.2.1))], ())).bind fun r4 => (
   (a0d (r4, ())).bind fun r5 => (
   (xg (a6e (r5.1, r5.2, ()))).bind fun r6 => (
   if 0 ≤ x.2.1 then (
   if x.2.1 < 6 then (
   if 0 ≤ x.2.2.2.1 then (
   if x.2.2.2.1 < 5 then (
   if (((x.2.1.toNat) * 1280) + ((x.2.2.2.1.toNat) * 256)) + 256 ≤ 7680 then (
   kn (x.1, x.2.1, x.2.2.1, (IntKind.i64.wrap (x.2.2.2.1 + (1:Int))), x.2.2.2.2.1, x.2.2.2.2.2.1, (List.take (((x.2.1.toNat) * 1280) + ((x.2.2.2.1.toNat) * 256)) x.2.2.2.2.2.2.1 ++ r6 ++ List.drop ((((x.2.1.toNat) * 1280) + ((x.2.2.2.1.toNat) * 256)) + 256) x.2.2.2.2.2.2.1), ())) else none) else none) else none) else none) else none))))) else none) else none))
 else
  ke (.inr (x.1, x.2.2.1, x.2.2.2.2.1, x.2.2.2.2.2.1, x.2.2.2.2.2.2.1, ()))
noncomputable def b6O : Go' W48 := fun y K => match y with
 | .inl y => K (.pan (.ifi 26 .i64) y.1) (fSt { tmps := V :: V :: .sc (.nilp) :: pv 27 [], mem := [] } [] ())
 | .inr y => K (.exit 2) (fSt { tmps := .sc (.vec 0 none 1) :: V :: .sc (.nilp) :: .sc (.ptr 1 0 false) :: V :: V :: .sc (.int .i64) :: pv 23 [], mem := [.live [.xs b8 none] (.ro), .live [.xs b32 (some 7680)] (.own)] } [.nat, .int, .nat, .xs, .xs] y)
noncomputable def a9d (N : Nat) : LT := upd (LT.nil) 6 (o9 b8v N (x8 N) b6O)
theorem b6P (N : Nat) : OkAll p_dsa_expand_E a8g N (a9d N) (x4 a2b) :=
 d7 (c := d8 6 a2b) (OkAll.nil) (by kernel_rfl) (fun x => by kernel_rfl) (fun β x kn ke => by kernel_rfl)
noncomputable def b8u : Shape := mkS { tmps := .sc (.vec 0 none 1) :: V :: .sc (.nilp) :: .sc (.ptr 1 0 false) :: V :: V :: .sc (.int .i64) :: pv 23 [], mem := [.live [.xs b8 none] (.ro), .live [.xs b32 (some 7680)] (.own)] } [.nat, .int, .nat, .xs, .xs]
abbrev W49 : Type := Nat × Int × Nat × List Int × List Int × Unit
abbrev W50 : Type := (Int × Unit) ⊕ (List Int × Unit)
noncomputable def x7 (N : Nat) (β : Type) (x : W49) (kn : W49 → Option β) (ke : W50 → Option β) : Option β :=
 if (x.2.1 < (6:Int)) then
  m9 (x8 N) N (x.1, x.2.1, x.2.1, (0:Int), x.2.2.1, x.2.2.2.1, x.2.2.2.2.1, ()) fun y => (match y with
  | .inl y7 => (
   ke (.inl (y7.1, ())))
  | .inr y8 => (
   kn (y8.1, (IntKind.i64.wrap (y8.2.1 + (1:Int))), y8.2.2.1, y8.2.2.2.1, y8.2.2.2.2.1, ())))
 else
  ke (.inr (x.2.2.2.2.1, ()))
noncomputable def b6M : Go' W50 := fun y K => match y with
 | .inl y => K (.pan (.ifi 26 .i64) y.1) (fSt { tmps := V :: V :: .sc (.nilp) :: pv 27 [], mem := [] } [] ())
 | .inr y => K (.exit 0) (fSt { tmps := V :: V :: .sc (.nilp) :: .sc (.ptr 0 0 false) :: pv 26 [], mem := [.live [.xs b32 (some 7680)] (.own)] } [.xs] y)
noncomputable def a9c (N : Nat) : LT := upd (a9d N) 3 (o9 b8u N (x7 N) b6M)
theorem b6N (N : Nat) : OkAll p_dsa_expand_E a8g N (a9c N) (x4 a2b) :=
 d7 (c := d8 3 a2b) (b6P N) (by kernel_rfl) (fun x => by kernel_rfl) (fun β x kn ke => by kernel_rfl)
abbrev a03 : List Kd := [.sl b8]
abbrev a04 : List Kd := [.op [.xs b32 7680]]
noncomputable def a7J (N : Nat) (x : List Int × Unit) : Option (Int ⊕ ((List Int × Unit))) :=
 m9 (x7 N) N ((List.length x.1), (0:Int), (List.length x.1), x.1, (List.replicate 7680 0), ()) fun y => (match y with
 | .inl y9 => (
  some (.inl y9.1))
 | .inr y10 => (
  some (.inr (y10.1, ()))))
theorem b94 (e0 : c8 Try.prog 16 N8) (e1 : c8 Try.prog 46 a7V) (e2 : XOk Try.prog 14 b7w) : p_dsa_expand_E.Ok Try.prog := AE.ofA_ok (all_cons a5T (all_cons Z8 (all_cons G0 (all_cons a2P (all_cons s5 (all_cons b5C (all_cons d33 c6))))))) (all_cons ⟨e0, a1h⟩ (all_cons ⟨e1, b4u⟩ c6)) (all_cons ⟨e2, A7⟩ c6) c6 c6 (all_cons ⟨O5, A7⟩ (all_cons ⟨a2V, a0b⟩ c6)) c6 c6 c6 c6
theorem c2d (hE : p_dsa_expand_E.Ok Try.prog) {g : Ds a03 → Option (Bool × Int × Rs a04)} (hg : ∀ x r, g x = some r → ∃ N, a7J N x = some (xr r)) : XOk Try.prog 18 ⟨a03, a04, (.ifi 26 .i64), g⟩ :=
 c1v (E := p_dsa_expand_E) (H := a8g) (L := fun N => a9c N) (c := a2b) (ks := a03) (rs := a04) (F := a7J) hE mix Try.func18 (by kernel_rfl) (fun N => b6N N) (fun _ _ => by kernel_rfl) hg
noncomputable def p_dsa_matrix_raised_E : AE := AE.of [(40, ty40), (42, ty42), (44, ty44), (88, ty88)] [(32, a2y), (38, Q2), (21, U4)]
noncomputable def P5 : Hints := [(2, [0, 3, 4, 9]), (8, [0, 3, 4, 6, 19]), (11, [0, 3, 4, 6, 7, 19, 22]), (2000000, [0, 3, 4]), (2000001, [0, 3, 4, 9]), (2000002, [4, 6]), (2000003, [0, 3, 4, 6, 19]), (2000004, [0, 3, 4, 6, 19]), (2000005, [0, 3, 4, 6, 7, 19, 22]), (3000000, [4])]
noncomputable def u1 : Code := (Try.f34).body.getD .skip
noncomputable def a9f : Shape := mkS { tmps := .sc (.ptr 0 0 false) :: V :: V :: .sc (.ptr 1 0 false) :: .sc (.ptr 2 0 false) :: pv 4 (.sc (.int .i64) :: pv 35 []), mem := [.live [.xs b32 (some 7680)] (.ro), .live [.xs b32 (some 1280)] (.own), .live [.xs b32 (some 1536)] (.own)] } [.int, .xs, .xs, .xs]
noncomputable def x9 (N : Nat) (β : Type) (x : W4) (kn : W4 → Option β) (ke : W3 → Option β) : Option β :=
 if (x.1 < (5:Int)) then
  if 0 ≤ x.1 then (
  if x.1 < 5 then (
  if ((x.1.toNat) * 256) + 256 ≤ 1280 then (
  (a0E ((List.take 256 (List.drop ((x.1.toNat) * 256) x.2.2.1)), ())).bind fun r1 => (
  if 0 ≤ x.1 then (
  if x.1 < 5 then (
  if ((x.1.toNat) * 256) + 256 ≤ 1280 then (
  kn ((IntKind.i64.wrap (x.1 + (1:Int))), x.2.1, (List.take ((x.1.toNat) * 256) x.2.2.1 ++ r1 ++ List.drop (((x.1.toNat) * 256) + 256) x.2.2.1), x.2.2.2.1, ())) else none) else none) else none)) else none) else none) else none
 else
  ke (x.2.1, x.2.2.1, x.2.2.2.1, ())
noncomputable def a8i : Go' W3 := fun y K => K (.exit 0) (fSt { tmps := .sc (.ptr 0 0 false) :: V :: V :: .sc (.ptr 1 0 false) :: .sc (.ptr 2 0 false) :: pv 40 [], mem := [.live [.xs b32 (some 7680)] (.ro), .live [.xs b32 (some 1280)] (.own), .live [.xs b32 (some 1536)] (.own)] } [.xs, .xs, .xs] y)
noncomputable def a2Z (N : Nat) : LT := upd (LT.nil) 2 (o9 a9f N (x9 N) a8i)
theorem a8j (N : Nat) : OkAll p_dsa_matrix_raised_E P5 N (a2Z N) (x4 u1) :=
 d7 (c := d8 2 u1) (OkAll.nil) (by kernel_rfl) (fun x => by kernel_rfl) (fun β x kn ke => by kernel_rfl)
noncomputable def a8h : Shape := mkS { tmps := .sc (.ptr 0 0 false) :: V :: V :: .sc (.ptr 1 0 false) :: .sc (.ptr 2 0 false) :: V :: .sc (.ptr 3 0 false) :: .sc (.int .i64) :: pv 11 (.sc (.int .i64) :: V :: V :: .sc (.int .i64) :: pv 22 []), mem := [.live [.xs b32 (some 7680)] (.ro), .live [.xs b32 (some 1280)] (.own), .live [.xs b32 (some 1536)] (.own), .live [.xs b32 (some 1536)] (.own)] } [.int, .int, .int, .xs, .xs, .xs, .xs]
abbrev W51 : Type := Int × Int × Int × List Int × List Int × List Int × List Int × Unit
abbrev W52 : Type := Int × List Int × List Int × List Int × List Int × Unit
noncomputable def v9 (N : Nat) (β : Type) (x : W51) (kn : W51 → Option β) (ke : W52 → Option β) : Option β :=
 if (x.2.2.1 < (5:Int)) then
  if 0 ≤ x.1 then (
  if x.1 < 6 then (
  if ((x.1.toNat) * 256) + 256 ≤ 1536 then (
  if 0 ≤ x.1 then (
  if x.1 < 6 then (
  if 0 ≤ x.2.2.1 then (
  if x.2.2.1 < 5 then (
  if (((x.1.toNat) * 1280) + ((x.2.2.1.toNat) * 256)) + 256 ≤ 7680 then (
  if 0 ≤ x.2.2.1 then (
  if x.2.2.1 < 5 then (
  if ((x.2.2.1.toNat) * 256) + 256 ≤ 1280 then (
  (a0c ((List.take 256 (List.drop (((x.1.toNat) * 1280) + ((x.2.2.1.toNat) * 256)) x.2.2.2.1)), (List.take 256 (List.drop ((x.2.2.1.toNat) * 256) x.2.2.2.2.1)), ())).bind fun r3 => (
  (Q4 ((List.take 256 (List.drop ((x.1.toNat) * 256) x.2.2.2.2.2.2.1)), r3, ())).bind fun r4 => (
  if 0 ≤ x.1 then (
  if x.1 < 6 then (
  if ((x.1.toNat) * 256) + 256 ≤ 1536 then (
  kn (x.1, x.2.1, (IntKind.i64.wrap (x.2.2.1 + (1:Int))), x.2.2.2.1, x.2.2.2.2.1, x.2.2.2.2.2.1, (List.take ((x.1.toNat) * 256) x.2.2.2.2.2.2.1 ++ r4 ++ List.drop (((x.1.toNat) * 256) + 256) x.2.2.2.2.2.2.1), ())) else none) else none) else none))) else none) else none) else none) else none) else none) else none) else none) else none) else none) else none) else none
 else
  ke (x.2.1, x.2.2.2.1, x.2.2.2.2.1, x.2.2.2.2.2.1, x.2.2.2.2.2.2.1, ())
noncomputable def a7e : Go' W52 := fun y K => K (.exit 4) (fSt { tmps := .sc (.ptr 0 0 false) :: V :: V :: .sc (.ptr 1 0 false) :: .sc (.ptr 2 0 false) :: V :: .sc (.ptr 3 0 false) :: pv 12 (.sc (.int .i64) :: pv 25 []), mem := [.live [.xs b32 (some 7680)] (.ro), .live [.xs b32 (some 1280)] (.own), .live [.xs b32 (some 1536)] (.own), .live [.xs b32 (some 1536)] (.own)] } [.int, .xs, .xs, .xs, .xs] y)
noncomputable def a2c (N : Nat) : LT := upd (a2Z N) 11 (o9 a8h N (v9 N) a7e)
theorem a7f (N : Nat) : OkAll p_dsa_matrix_raised_E P5 N (a2c N) (x4 u1) :=
 d7 (c := d8 11 u1) (a8j N) (by kernel_rfl) (fun x => by kernel_rfl) (fun β x kn ke => by kernel_rfl)
noncomputable def a9g : Shape := mkS { tmps := .sc (.ptr 0 0 false) :: V :: V :: .sc (.ptr 1 0 false) :: .sc (.ptr 2 0 false) :: V :: .sc (.ptr 3 0 false) :: pv 12 (.sc (.int .i64) :: pv 25 []), mem := [.live [.xs b32 (some 7680)] (.ro), .live [.xs b32 (some 1280)] (.own), .live [.xs b32 (some 1536)] (.own), .live [.xs b32 (some 1536)] (.own)] } [.int, .xs, .xs, .xs, .xs]
noncomputable def y0 (N : Nat) (β : Type) (x : W52) (kn : W52 → Option β) (ke : W5 → Option β) : Option β :=
 if (x.1 < (6:Int)) then
  m9 (v9 N) N (x.1, x.1, (0:Int), x.2.1, x.2.2.1, x.2.2.2.1, x.2.2.2.2.1, ()) fun y5 => (
  kn ((IntKind.i64.wrap (y5.1 + (1:Int))), y5.2.1, y5.2.2.1, y5.2.2.2.1, y5.2.2.2.2.1, ()))
 else
  ke (x.2.2.2.1, x.2.2.2.2.1, ())
noncomputable def a8k : Go' W5 := fun y K => K (.exit 2) (fSt { tmps := pv 4 (.sc (.ptr 0 0 false) :: V :: .sc (.ptr 1 0 false) :: pv 38 []), mem := [.live [.xs b32 (some 1536)] (.own), .live [.xs b32 (some 1536)] (.own)] } [.xs, .xs] y)
noncomputable def a25 (N : Nat) : LT := upd (a2c N) 8 (o9 a9g N (y0 N) a8k)
theorem a8l (N : Nat) : OkAll p_dsa_matrix_raised_E P5 N (a25 N) (x4 u1) :=
 d7 (c := d8 8 u1) (a7f N) (by kernel_rfl) (fun x => by kernel_rfl) (fun β x kn ke => by kernel_rfl)
abbrev D0 : List Kd := [.rp (.xs b32 7680), .xs b32 1280]
abbrev D1 : List Kd := [.xs b32 1536]
noncomputable def M0 (N : Nat) (x : List Int × List Int × Unit) : Option (List Int) :=
 m9 (x9 N) N ((0:Int), x.1, x.2.1, (List.replicate 1536 0), ()) fun y2 => (
 m9 (y0 N) N ((0:Int), y2.1, y2.2.1, y2.2.2.1, (List.replicate 1536 0), ()) fun y6 => (
 some y6.2.1))
theorem b0c (e0 : c8 Try.prog 32 a2y) (e1 : c8 Try.prog 38 Q2) (e2 : c8 Try.prog 21 U4) : p_dsa_matrix_raised_E.Ok Try.prog := AE.of_ok (all_cons s5 (all_cons b5C (all_cons b5D (all_cons d33 c6)))) (all_cons ⟨e0, a5w⟩ (all_cons ⟨e1, a2E⟩ (all_cons ⟨e2, a2l⟩ c6)))
theorem b1e (hE : p_dsa_matrix_raised_E.Ok Try.prog) {g : Ds D0 → Option (Rs D1)} (hg : ∀ x r, g x = some r → ∃ N, M0 N x = some r) : c8 Try.prog 34 ⟨D0, D1, g⟩ :=
 i6 (E := p_dsa_matrix_raised_E) (H := P5) (L := fun N => a25 N) (c := u1) (ks := D0) (rs := D1) (F := M0) hE mix Try.func34 (by kernel_rfl) (fun N => a8l N) (fun _ _ => by kernel_rfl) hg
noncomputable abbrev K0 : Sig := ⟨[.rp (.xs b32 7680), .xs b32 1280], [.xs b32 1536], K6⟩
noncomputable def p_dsa_matrix_times_E : AE := AE.of [(40, ty40), (42, ty42), (44, ty44)] [(34, K0), (36, a2x)]
noncomputable def a5Q : Hints := [(3, [4, 5, 10]), (2000000, [4, 5]), (2000001, [4, 5, 10]), (3000000, [4])]
noncomputable def a1I : Code := (Try.f19).body.getD .skip
noncomputable def b0d : Shape := mkS { tmps := pv 4 (.sc (.ptr 0 0 false) :: .sc (.ptr 1 0 false) :: pv 4 (.sc (.int .i64) :: pv 10 [])), mem := [.live [.xs b32 (some 1536)] (.own), .live [.xs b32 (some 1536)] (.own)] } [.int, .xs, .xs]
noncomputable def B2 (N : Nat) (β : Type) (x : W18) (kn : W18 → Option β) (ke : W5 → Option β) : Option β :=
 if (x.1 < (6:Int)) then
  if 0 ≤ x.1 then (
  if x.1 < 6 then (
  if ((x.1.toNat) * 256) + 256 ≤ 1536 then (
  (a4j ((List.take 256 (List.drop ((x.1.toNat) * 256) x.2.2.1)), ())).bind fun r2 => (
  if 0 ≤ x.1 then (
  if x.1 < 6 then (
  if ((x.1.toNat) * 256) + 256 ≤ 1536 then (
  kn ((IntKind.i64.wrap (x.1 + (1:Int))), x.2.1, (List.take ((x.1.toNat) * 256) x.2.2.1 ++ r2 ++ List.drop (((x.1.toNat) * 256) + 256) x.2.2.1), ())) else none) else none) else none)) else none) else none) else none
 else
  ke (x.2.1, x.2.2.1, ())
noncomputable def a9h : Go' W5 := fun y K => K (.exit 0) (fSt { tmps := pv 4 (.sc (.ptr 0 0 false) :: .sc (.ptr 1 0 false) :: pv 15 []), mem := [.live [.xs b32 (some 1536)] (.own), .live [.xs b32 (some 1536)] (.own)] } [.xs, .xs] y)
noncomputable def a3G (N : Nat) : LT := upd (LT.nil) 3 (o9 b0d N (B2 N) a9h)
theorem a9i (N : Nat) : OkAll p_dsa_matrix_times_E a5Q N (a3G N) (x4 a1I) :=
 d7 (c := d8 3 a1I) (OkAll.nil) (by kernel_rfl) (fun x => by kernel_rfl) (fun β x kn ke => by kernel_rfl)
abbrev F6 : List Kd := [.rp (.xs b32 7680), .xs b32 1280]
abbrev F7 : List Kd := [.xs b32 1536]
noncomputable def P6 (N : Nat) (x : List Int × List Int × Unit) : Option (List Int) :=
 (K6 (x.1, x.2.1, ())).bind fun r1 => (
 m9 (B2 N) N ((0:Int), (List.replicate 1536 0), r1, ()) fun y3 => (
 some y3.2.1))
theorem b1f (e0 : c8 Try.prog 34 K0) (e1 : c8 Try.prog 36 a2x) : p_dsa_matrix_times_E.Ok Try.prog := AE.of_ok (all_cons s5 (all_cons b5C (all_cons b5D c6))) (all_cons ⟨e0, a2Q⟩ (all_cons ⟨e1, a5v⟩ c6))
theorem b2n (hE : p_dsa_matrix_times_E.Ok Try.prog) {g : Ds F6 → Option (Rs F7)} (hg : ∀ x r, g x = some r → ∃ N, P6 N x = some r) : c8 Try.prog 19 ⟨F6, F7, g⟩ :=
 i6 (E := p_dsa_matrix_times_E) (H := a5Q) (L := fun N => a3G N) (c := a1I) (ks := F6) (rs := F7) (F := P6) hE mix Try.func19 (by kernel_rfl) (fun N => a9i N) (fun _ _ => by kernel_rfl) hg
end Go.Ax.TryP
set_option linter.unusedVariables false
namespace Go.Ax.TryP
open Go.Proofs
def bytes (zs : List Int) : Prop := ∀ z ∈ zs, 0 ≤ z ∧ z ≤ 255
def c7m (l : List (List Int)) : Prop := l.length ≤ maxLen ∧ ∀ zs ∈ l, zs.length ≤ maxLen ∧ bytes zs
theorem d38 {l : List (List Int)} : Kd.wf (.sls (.int .u8)) l ↔ c7m l := by simp [Kd.wf, c7m, bytes, a0n]
theorem N0 {b : List Int} : Kd.wf (.sl (.int .u8)) b ↔ b.length ≤ maxLen ∧ bytes b := by simp only [b3d]; exact Iff.rfl
theorem c9T {l : List (List Int)} {i : Nat} (hi : i < l.length) : (l.take (i + 1)).flatten = (l.take i).flatten ++ l.getD i [] := by
 rw [List.take_succ_eq_append_getElem hi, List.flatten_append, List.getD_eq_getElem?_getD, List.getElem?_eq_getElem hi]; simp
theorem d2H (l : List (List Int)) (i : Nat) : (l.take i).flatten.length ≤ l.flatten.length := by
 conv => rhs; rw [← List.take_append_drop i l, List.flatten_append, List.length_append]
 omega
theorem c7d : ∀ x r, m7 x = some r → ∃ N, a7N N x = some r := by
 refine i0 (ks := a07) (rs := a08) fun x hw hq => ?_
 obtain ⟨(l : List (List Int)), u⟩ := x
 obtain ⟨hq1, hq⟩ : l.length ≤ 1000 ∧ l.flatten.length ≤ 1000000 := hq
 refine ⟨l.length + 1, ?_⟩
 unfold a7N
 dsimp only
 refine (i9 (F := T5 (l.length + 1)) (s := fun i => (l, ((l.take i).flatten.length : Int), l, (l.length : Int), (i : Int), ())) (y := (l, (l.flatten.length : Int), ())) l.length rfl ?_ ?_ _ (by omega)).trans ?_
 ·intro i hi kn
  have h1 := d2H l (i + 1)
  rw [c9T hi] at h1 ⊢
  rw [List.length_append] at h1 ⊢
  unfold T5
  dsimp only
  rw [if_pos (by omega), if_pos (by omega), if_pos (by omega), Int.toNat_natCast, c7 (by omega) (by omega), c7 (by omega) (by omega), Int.natCast_add]
  rfl
 ·intro kn
  unfold T5
  dsimp only
  rw [if_neg (by omega), List.take_length]
 dsimp only
 rw [if_pos (by omega), if_pos (by omega), if_pos (by omega)]
 refine (i9 (F := T6 (l.length + 1)) (s := fun i => ((l.take i).flatten.length, l, (l.length : Int), (i : Int), (l.take i).flatten.length, (l.take i).flatten, ()))
  (y := (l.flatten.length, l.flatten.length, l.flatten, ())) l.length rfl ?_ ?_ _ (by omega)).trans ?_
 ·intro i hi kn
  have h1 := d2H l (i + 1)
  rw [c9T hi] at h1 ⊢
  rw [List.length_append] at h1 ⊢
  unfold T6
  dsimp only
  rw [if_pos (by omega), if_pos (by omega), if_pos (by omega), Int.toNat_natCast, if_pos (by omega), c7 (by omega) (by omega)]
  rfl
 ·intro kn
  unfold T6
  dsimp only
  rw [if_neg (by omega), List.take_length]
 ·rfl
theorem c0N {l : List (List Int)} (h : l.length ≤ 1000 ∧ l.flatten.length ≤ 1000000) (hr : c7m l) : m7 (l, ()) = some l.flatten :=
 d9 (ks := a07) (rs := a08) (x := (l, ())) ⟨d38.2 hr, trivial⟩ h
theorem d5R {a b : Int} (ha : 0 ≤ a ∧ a ≤ 255) (hb : 0 ≤ b ∧ b ≤ 255) {x : Int} (hx : 0 ≤ x ∧ x ≤ 255) :
  (0 ≤ ior .u8 x (c1C .u8 a b) ∧ ior .u8 x (c1C .u8 a b) ≤ 255) ∧ (ior .u8 x (c1C .u8 a b) = 0 ↔ x = 0 ∧ a = b) := by
 obtain ⟨a, rfl⟩ : ∃ m : Nat, a = m := ⟨a.toNat, by omega⟩
 obtain ⟨b, rfl⟩ : ∃ m : Nat, b = m := ⟨b.toNat, by omega⟩
 obtain ⟨x, rfl⟩ : ∃ m : Nat, x = m := ⟨x.toNat, by omega⟩
 have ha' : a < 2 ^ 8 := by omega
 have hb' : b < 2 ^ 8 := by omega
 have hx' : x < 2 ^ 8 := by omega
 have h1 : a ^^^ b < 2 ^ 8 := Nat.xor_lt_two_pow ha' hb'
 have h2 : x ||| (a ^^^ b) < 2 ^ 8 := Nat.or_lt_two_pow hx' h1
 rw [c4P (k := .u8) rfl ha' hb', c4L (k := .u8) rfl hx' h1]
 refine ⟨by omega, ?_⟩
 constructor
 ·intro h
  have h : x ||| (a ^^^ b) = 0 := by omega
  have hz : ∀ i, (x ||| (a ^^^ b)).testBit i = false := fun i => by rw [h]; exact Nat.zero_testBit i
  have hx0 : x = 0 := Nat.eq_of_testBit_eq fun i => by
   have := hz i
   rw [Nat.testBit_or, Bool.or_eq_false_iff] at this
   rw [this.1]; simp
  have hab : a = b := Nat.eq_of_testBit_eq fun i => by
   have := hz i
   rw [Nat.testBit_or, Bool.or_eq_false_iff, Nat.testBit_xor] at this
   have := this.2
   cases h1 : a.testBit i <;> cases h2 : b.testBit i <;> simp_all
  rw [hx0, hab]; simp
 ·rintro ⟨k1, k2⟩
  have k1 : x = 0 := by omega
  have k2 : a = b := by omega
  rw [k1, k2]
  simp
def c8Z (a b : List Int) : Nat → Int
 | 0 => 0
 | i + 1 => ior .u8 (c8Z a b i) (c1C .u8 (a.getD i 0) (b.getD i 0))
theorem c9A {a : List Int} (h : bytes a) (i : Nat) : 0 ≤ a.getD i 0 ∧ a.getD i 0 ≤ 255 := by
 rw [List.getD_eq_getElem?_getD]
 cases e : a[i]? with
 | none => simp
 | some z => exact h z (List.mem_of_getElem? e)
theorem c37 {a b : List Int} (ha : bytes a) (hb : bytes b) (hl : a.length = b.length) : ∀ i, i ≤ a.length → (0 ≤ c8Z a b i ∧ c8Z a b i ≤ 255) ∧ (c8Z a b i = 0 ↔ a.take i = b.take i)
 | 0, _ => by simp [c8Z]
 | i + 1, hi => by
  obtain ⟨h1, h2⟩ := c37 ha hb hl i (by omega)
  obtain ⟨g1, g2⟩ := d5R (c9A ha i) (c9A hb i) h1
  refine ⟨g1, g2.trans ?_⟩
  rw [h2, List.take_succ_eq_append_getElem (show i < a.length by omega), List.take_succ_eq_append_getElem (show i < b.length by omega)]
  have e : List.take i a ++ [a[i]] = List.take i b ++ [b[i]] ↔ List.take i a = List.take i b ∧ a[i] = b[i] :=
   ⟨fun h => by obtain ⟨p, q⟩ := List.append_inj h (by simp; omega); exact ⟨p, by simpa using q⟩, fun h => by rw [h.1, h.2]⟩
  rw [e]
  simp [List.getD_eq_getElem?_getD, List.getElem?_eq_getElem (show i < a.length by omega), List.getElem?_eq_getElem (show i < b.length by omega)]
theorem c7e : ∀ x r, a7q x = some r → ∃ N, a7O N x = some r := by
 refine i0 (ks := a09) (rs := a6Z) fun x hw hq => ?_
 obtain ⟨(a : List Int), (b : List Int), u⟩ := x
 obtain ⟨ha1, ha2⟩ : a.length ≤ maxLen ∧ bytes a := N0.1 hw.1
 obtain ⟨hb1, hb2⟩ : b.length ≤ maxLen ∧ bytes b := N0.1 hw.2.1
 have hM : maxLen = 9223372036854775807 := by decide
 refine ⟨a.length + 1, ?_⟩
 unfold a7O
 dsimp only
 by_cases hl : a.length = b.length
 ·rw [if_neg (by omega)]
  refine (i9 (F := T7 (a.length + 1)) (s := fun i => (a.length, b.length, c8Z a b i, (a.length : Int), (i : Int), a.length, a, b.length, b, ())) (y := (c8Z a b a.length, ())) a.length rfl ?_ ?_ (a.length + 1) (by omega)).trans ?_
  ·intro i hi kn
   unfold T7
   dsimp only
   rw [if_pos (by omega), if_pos (by omega), if_pos (by omega), Int.toNat_natCast, if_pos (by omega), if_pos (by omega), if_pos (by omega), if_pos (by omega), c7 (by omega) (by omega)]
   rfl
  ·intro kn
   unfold T7
   dsimp only
   rw [if_neg (by omega)]
  ·dsimp only
   refine congrArg some (decide_eq_decide.2 ?_)
   rw [(c37 ha2 hb2 hl a.length (Nat.le_refl _)).2, List.take_length, hl, List.take_length]
 ·rw [if_pos (by omega)]
  exact congrArg some (decide_eq_false (fun h => hl (by rw [show a = b from h]))).symm
theorem d6F {a b : List Int} (ha : a.length ≤ maxLen ∧ bytes a) (hb : b.length ≤ maxLen ∧ bytes b) : a7q (a, b, ()) = some (decide (a = b)) :=
 d9 (ks := a09) (rs := a6Z) (x := (a, b, ())) ⟨N0.2 ha, N0.2 hb, trivial⟩ trivial
end Go.Ax.TryP
set_option linter.unusedVariables false
namespace Go.Ax.TryP
open Go.Proofs
theorem mB {n : Nat} (h : n ≤ 10000000) : n ≤ maxLen := by
 unfold maxLen
 omega
theorem d1K {d : Int} (h : 0 ≤ d ∧ d ≤ 1000000) : a3o .i64 d := u4.2 (by omega)
theorem d1m : ∀ x r, a6e x = some r → ∃ N, b3a N x = some (xr r) := by
 refine b5F (ks := a3H) (rs := a3I) fun x hw hq => ⟨0, ?_⟩
 obtain ⟨(a : List Int), (e : Int), u⟩ := x
 unfold b3a
 dsimp only
 by_cases h : e = 0
 ·rw [if_neg (by simp [h])]
  simp [xr, h]
 ·rw [if_pos h]
  simp [xr, h]
theorem d1l : ∀ x r, J6 x = some r → ∃ N, a9e N x = some r := by
 refine i0 (ks := a3E) (rs := a3F) fun x hw hq => ⟨0, ?_⟩
 obtain ⟨(n : Int), (l : List (List Int)), u⟩ := x
 have hn : 0 ≤ n ∧ n ≤ 1000 := hq
 have hl : a1a l := a2v.1 hw.2.1
 show a9e 0 (n, l, u) = some (a3Q l.flatten n.toNat)
 obtain ⟨m, rfl⟩ : ∃ m : Nat, n = m := ⟨n.toNat, by omega⟩
 have e := c9r (b := 256) (Or.inr rfl) (n := m) (by omega) hl
 rw [if_neg (by decide)] at e
 unfold a9e
 dsimp only
 rw [e, Option.bind_some, if_neg (by simp), Int.toNat_natCast]
 rfl
theorem b7A {n : Nat} {l : List (List Int)} (hn : n ≤ 1000) (hl : a1a l) : J6 ((n : Int), l, ()) = some (a3Q l.flatten n) :=
 d9 (ks := a3E) (rs := a3F) (x := ((n : Int), l, ())) (Q := fun x => 0 ≤ x.1 ∧ x.1 ≤ 1000) (f := fun x => a3Q x.2.1.flatten x.1.toNat) ⟨d1K ⟨by show 0 ≤ (n : Int); omega, by show (n : Int) ≤ 1000000; omega⟩, a2v.2 hl, trivial⟩ ⟨by show 0 ≤ (n : Int); omega, by show (n : Int) ≤ 1000; omega⟩
theorem d3v : ∀ x r, a8O x = some r → ∃ N, b2q N x = some r := by
 refine i0 (ks := b2r) (rs := a5l) fun x hw hq => ⟨0, ?_⟩
 obtain ⟨(n : Int), u⟩ := x
 have hn : 0 ≤ n ∧ n ≤ 65535 := hq
 obtain ⟨m, rfl⟩ : ∃ m : Nat, n = m := ⟨n.toNat, by omega⟩
 show b2q 0 ((m : Int), u) = some (c7G m)
 have e : b9D .i64 (m : Int) 8 = ((m / 256 : Nat) : Int) := a9N (k := .i64) (m := m) (s := 8) (by decide)
 unfold b2q c7G
 dsimp only
 rw [e, b0x, b0x]
 rfl
theorem c54 {n : Nat} (hn : n ≤ 65535) : a8O ((n : Int), ()) = some (c7G n) :=
 d9 (ks := b2r) (rs := a5l) (x := ((n : Int), ())) ⟨d1K ⟨by show 0 ≤ (n : Int); omega, by show (n : Int) ≤ 1000000; omega⟩, trivial⟩ ⟨by show 0 ≤ (n : Int); omega, by show (n : Int) ≤ 65535; omega⟩
theorem c8N : ∀ x r, a2F x = some r → ∃ N, a6K N x = some r := by
 refine i0 (ks := a2d) (rs := a2e) fun x hw hq => ⟨0, ?_⟩
 obtain ⟨(tr : List Int), (msg : List Int), (ctx : List Int), u⟩ := x
 have h1 : tr.length ≤ maxLen ∧ bytes tr := N0.1 hw.1
 have h2 : msg.length ≤ maxLen ∧ bytes msg := N0.1 hw.2.1
 have h3 : ctx.length ≤ maxLen ∧ bytes ctx := N0.1 hw.2.2.1
 show a6K 0 (tr, msg, ctx, u) = some (c6K tr msg ctx)
 unfold a6K
 dsimp only
 have e1 : List.set (List.set (List.replicate 2 (0 : Int)) 0 0) 1 (IntKind.u8.wrap (ctx.length : Int)) = [0, (ctx.length : Int) % 256] := by rw [b0x]; rfl
 have hl : a1a [tr, [0, (ctx.length : Int) % 256], ctx, msg] := ⟨mB (by simp), fun zs hzs => by
  rcases List.mem_cons.1 hzs with rfl | hzs
  ·exact h1
  rcases List.mem_cons.1 hzs with rfl | hzs
  ·refine ⟨mB (by simp), fun z hz => ?_⟩
   rcases List.mem_cons.1 hz with rfl | hz
   ·omega
   ·rw [List.mem_singleton.1 hz]; omega
  rcases List.mem_cons.1 hzs with rfl | hzs
  ·exact h3
  ·rw [List.mem_singleton.1 hzs]; exact h2⟩
 have e2 := b7A (n := 64) (by omega) hl
 rw [show [tr, [0, (ctx.length : Int) % 256], ctx, msg].flatten = tr ++ [0, (ctx.length : Int) % 256] ++ ctx ++ msg by simp] at e2
 rw [e1, show (64 : Int) = ((64 : Nat) : Int) from rfl, e2, Option.bind_some]
 rfl
theorem c9u {tr msg ctx : List Int} (h1 : tr.length ≤ maxLen ∧ bytes tr) (h2 : msg.length ≤ maxLen ∧ bytes msg) (h3 : ctx.length ≤ maxLen ∧ bytes ctx) : a2F (tr, msg, ctx, ()) = some (c6K tr msg ctx) :=
 d9 (ks := a2d) (rs := a2e) (x := (tr, msg, ctx, ())) ⟨N0.2 h1, N0.2 h2, N0.2 h3, trivial⟩ trivial
end Go.Ax.TryP
set_option linter.unusedVariables false
namespace Go.Ax.TryP
open Go.Proofs
theorem d40 {m n : Nat} (hm : m < 2 ^ 60) (hn : n < 2 ^ 60) : b87 .i64 (m : Int) (n : Int) = ((m &&& n : Nat) : Int) := by
 unfold b87
 rw [BitVec.toNat_and, a2k (k := .i64) (by show m < 2 ^ 64; omega), a2k (k := .i64) (by show n < 2 ^ 64; omega)]
 have h : m &&& n ≤ m := Nat.and_le_left
 exact c7 (by omega) (by omega)
theorem d6Q {x : Int} (h0 : 0 ≤ x) (h1 : x < 2 ^ 60) {s : Nat} (hs : s ≤ 60) : b87 .i64 (b9D .i64 x (s : Int)) 1 = c2W x s := by
 obtain ⟨m, rfl⟩ : ∃ m : Nat, x = m := ⟨x.toNat, by omega⟩
 rw [a9N (by show s ≤ 64; omega), c4r, show (1 : Int) = ((1 : Nat) : Int) from rfl, d40 (Nat.lt_of_le_of_lt (Nat.div_le_self _ _) (by omega)) (by decide), e0x]
theorem d6g {w i k : Nat} (l : List Int) (hk : k < w) : pkE w l (i * w + k) = c2W (l.getD i 0) k := by
 unfold pkE
 rw [show (i * w + k) / w = i by rw [Nat.add_comm, Nat.add_mul_div_right _ _ (by omega), Nat.div_eq_of_lt hk, Nat.zero_add], show (i * w + k) % w = k by rw [Nat.add_comm, Nat.add_mul_mod_self_right, Nat.mod_eq_of_lt hk]]
theorem d7G (w : Nat) (l : List Int) (t : Nat) : 0 ≤ pkE w l t ∧ pkE w l t ≤ 1 := d2b _ _
theorem d6j {w : Nat} (h : w ≤ 23) : (2 : Int) ^ w ≤ 8388608 := by
 have h2 : (2 : Nat) ^ w ≤ 8388608 := Nat.le_trans (Nat.pow_le_pow_right (n := 2) (j := 23) (by decide) h) (by decide)
 have h3 : ((2 ^ w : Nat) : Int) = (2 : Int) ^ w := by simp
 rw [← h3]
 omega
theorem c67 : ∀ x r, a5a x = some r → ∃ N, a5h N x = some r := by
 refine i0 (ks := a0X) (rs := a0Y) fun x hw hq => ⟨300, ?_⟩
 obtain ⟨(w : Int), (l : List Int), u⟩ := x
 have hw1 : 1 ≤ w ∧ w ≤ 23 := hq.1
 have hin : inW w.toNat l := hq.2
 obtain ⟨d, rfl⟩ : ∃ d : Nat, w = d := ⟨w.toNat, by omega⟩
 have h0 : 1 ≤ d := by omega
 have h1 : d ≤ 23 := by omega
 rw [Int.toNat_natCast] at hin
 have hp := d6j h1
 show a5h 300 ((d : Int), l, u) = some (pkW ((d : Int)).toNat l, 0)
 rw [Int.toNat_natCast]
 have e1 : IntKind.i64.wrap ((32 : Int) * (d : Int)) = ((32 * d : Nat) : Int) := by rw [c7 (by omega) (by omega)]; omega
 have e2 : b0Z .i64 (1 : Int) (d : Int) = 2 ^ d := by
  show IntKind.i64.wrap ((1 : Int) * 2 ^ min ((d : Int)).toNat 64) = _
  rw [Int.toNat_natCast, Nat.min_eq_left (by omega), Int.one_mul]
  have : (0 : Int) < 2 ^ d := Int.pow_pos (by omega)
  exact c7 (by omega) (by omega)
 unfold a5h
 dsimp only
 rw [if_neg (by omega), if_neg (by omega), e1, if_pos (by omega), if_pos rfl, if_pos (by omega), Int.toNat_natCast]
 have e0 : List.replicate (32 * d) 0 = a43 (c7L (pkE d l) (0 * d)) (32 * d) := by rw [Nat.zero_mul, c8b]
 rw [e0]
 refine (J2 (F := S9 300) (s := fun i => ((d : Int), 32 * d, l, (i : Int), 32 * d, a43 (c7L (pkE d l) (i * d)) (32 * d), ())) (y := .inr (32 * d, 32 * d, a43 (pkE d l) (32 * d), ())) 256 ?_ ?_ 300 (by omega)).trans rfl
 ·intro i hi kn
  obtain ⟨z0, z1⟩ := hin i hi
  unfold S9
  dsimp only
  rw [if_pos (by omega), if_pos (by omega), if_pos (by omega), Int.toNat_natCast, if_pos (by omega), if_neg (by omega), if_neg (by omega), e2, if_neg (by omega)]
  refine (J2 (F := P2 300) (s := fun k => ((d : Int), 32 * d, (i : Int), l.getD i 0, l, (i : Int), (d : Int), (k : Int), 32 * d, a43 (c7L (pkE d l) (i * d + k)) (32 * d), ()))
   (y := ((d : Int), 32 * d, l, (i : Int), 32 * d, a43 (c7L (pkE d l) (i * d + d)) (32 * d), ())) d ?_ ?_ 300 (by omega)).trans ?_
  ·intro k hk kn
   have hle := d8W (d := d) hi
   have hb := d2b (l.getD i 0) k
   have ee := d6g (i := i) l hk
   have em : (i : Int) * d = ((i * d : Nat) : Int) := by simp
   have ea : ((i * d : Nat) : Int) + k = ((i * d + k : Nat) : Int) := by simp
   have ed : ((i * d + k : Nat) : Int) / 8 = (((i * d + k) / 8 : Nat) : Int) := by omega
   have er : ((i * d + k : Nat) : Int) % 8 = (((i * d + k) % 8 : Nat) : Int) := by omega
   unfold P2
   dsimp only
   rw [if_pos (by omega), em, c7 (x := ((i * d : Nat) : Int)) (by omega) (by omega), ea, c7 (x := ((i * d + k : Nat) : Int)) (by omega) (by omega), b0v (by omega), b0w (by omega), ed, er,
    c7 (x := (((i * d + k) / 8 : Nat) : Int)) (by omega) (by omega)]
   simp (disch := omega) only [if_pos, if_neg, Int.toNat_natCast]
   rw [d6Q z0 (by omega) (show k ≤ 60 by omega), b8Y hb.1 (by omega), ← ee, c8a (fun t _ => d7G d l t) (by omega), c7 (by omega) (by omega), Int.natCast_add]
   rfl
  ·intro kn
   unfold P2
   dsimp only
   rw [if_neg (by omega)]
  ·dsimp only
   rw [c7 (by omega) (by omega), Int.natCast_add, show (i + 1) * d = i * d + d from Nat.succ_mul i d]
   rfl
 ·intro kn
  unfold S9
  dsimp only
  rw [if_neg (by omega), show 256 * d = 8 * (32 * d) by omega, d0X]
end Go.Ax.TryP
set_option linter.unusedVariables false
namespace Go.Ax.TryP
open Go.Proofs
abbrev e0d (n : Nat) (a : List Int) : Prop := rows (-9223372036854775808) 9223372036854775807 n a
theorem d77 {n : Nat} {a : List Int} : Kd.wf (.xs (.int .i64) n) a ↔ e0d n a := by simp [Kd.wf, rows, u4]
theorem d14 {d : Nat} {l : List Int} (hd : 1 ≤ d ∧ d ≤ 23) (hl : e0d 256 l) (hin : inW d l) : a5a ((d : Int), l, ()) = some (pkW d l, 0) :=
 (d9 (ks := a0X) (rs := a0Y) (x := ((d : Int), l, ())) (Q := fun x => (1 ≤ x.1 ∧ x.1 ≤ 23) ∧ inW x.1.toNat x.2.1) (f := fun x => (pkW x.1.toNat x.2.1, 0)) ⟨d1K ⟨by show 0 ≤ (d : Int); omega, by show (d : Int) ≤ 1000000; omega⟩, d77.2 hl, trivial⟩
  ⟨⟨by show 1 ≤ (d : Int); omega, by show (d : Int) ≤ 23; omega⟩, by show inW ((d : Int)).toNat l; rw [Int.toNat_natCast]; exact hin⟩).trans (by show some (pkW ((d : Int)).toNat l, (0 : Int)) = _; rw [Int.toNat_natCast])
theorem d2S {d : Nat} (hd : d ≤ 23) {l : List Int} (hl : l.length = 256) (h : inW d l) : e0d 256 l := by
 have hp := d6j hd
 refine ⟨hl, fun z hz => ?_⟩
 obtain ⟨i, hi, rfl⟩ := List.mem_iff_getElem.1 hz
 have := h i (by omega)
 rw [List.getD_eq_getElem?_getD, List.getElem?_eq_getElem hi, Option.getD_some] at this
 omega
theorem d46 {a : List Int} (h : a.length = 256) : (List.range 256).map (fun i => a.getD i 0) = a := by
 refine List.ext_getElem (by simp [h]) fun i h1 h2 => ?_
 rw [List.getElem_map, List.getElem_range, List.getD_eq_getElem?_getD, List.getElem?_eq_getElem h2, Option.getD_some]
theorem c64 : ∀ x r, a2R x = some r → ∃ N, a5c N x = some r := by
 refine i0 (ks := a0Q) (rs := a0R) fun x hw hq => ⟨300, ?_⟩
 obtain ⟨(w : Int), (a : List Int), u⟩ := x
 have hw1 : 1 ≤ w ∧ w ≤ 23 := hq.1
 have hin : inW w.toNat (o8 a) := hq.2
 have ha : E7 256 a := w3.1 hw.2.1
 obtain ⟨d, rfl⟩ : ∃ d : Nat, w = d := ⟨w.toNat, by omega⟩
 show a5c 300 ((d : Int), a, u) = some (pkW ((d : Int)).toNat (o8 a), 0)
 rw [Int.toNat_natCast] at hin ⊢
 have hl : (o8 a).length = 256 := a1M _
 have hat := c4E a
 unfold a5c
 dsimp only
 rw [b5I ha, Option.bind_some]
 generalize o8 a = r at hin hl hat ⊢
 refine (i9 (F := S4 300) (s := fun i => ((d : Int), r, (i : Int), part (fun i => r.getD i 0) i (List.replicate 256 0), ())) (y := ((d : Int), r, ())) 256 rfl ?_ ?_ 300 (by omega)).trans ?_
 ·intro i hi kn
  have := hat i
  unfold S4
  dsimp only
  rw [if_pos (by omega), if_pos (by omega), if_pos (by omega), Int.toNat_natCast, if_pos (by omega), if_pos (by omega), if_pos (by omega), if_pos (by omega), c7 (x := r.getD i 0) (by omega) (by omega), c7 (by omega) (by omega), u5 (h := fun i => r.getD i 0) (by rw [List.length_replicate]; exact hi) rfl]
  rfl
 ·intro kn
  unfold S4
  dsimp only
  rw [if_neg (by omega), C3 (n := 256) (by rw [List.length_replicate]), d46 hl]
 ·dsimp only
  rw [d14 ⟨by omega, by omega⟩ (d2S (by omega) hl hin) hin, Option.bind_some]
theorem c9p {d : Nat} {a : List Int} (hd : 1 ≤ d ∧ d ≤ 23) (ha : E7 256 a) (hin : inW d (o8 a)) : a2R ((d : Int), a, ()) = some (pkW d (o8 a), 0) :=
 (d9 (ks := a0Q) (rs := a0R) (x := ((d : Int), a, ())) (Q := fun x => (1 ≤ x.1 ∧ x.1 ≤ 23) ∧ inW x.1.toNat (o8 x.2.1)) (f := fun x => (pkW x.1.toNat (o8 x.2.1), 0)) ⟨d1K ⟨by show 0 ≤ (d : Int); omega, by show (d : Int) ≤ 1000000; omega⟩, w3.2 ha, trivial⟩
  ⟨⟨by show 1 ≤ (d : Int); omega, by show (d : Int) ≤ 23; omega⟩, by show inW ((d : Int)).toNat _; rw [Int.toNat_natCast]; exact hin⟩).trans (by show some (pkW ((d : Int)).toNat (o8 a), (0 : Int)) = _; rw [Int.toNat_natCast])
end Go.Ax.TryP
set_option linter.unusedVariables false
namespace Go.Ax.TryP
open Go.Proofs
theorem d4T (a : List Int) (i : Nat) : -4190208 ≤ (a1i a).getD i 0 ∧ (a1i a).getD i 0 ≤ 4190208 := by
 by_cases hi : i < 256
 ·rw [a6d hi]; have := c6q (a.getD i 0); omega
 ·have hl : (a1i a).length = 256 := a1M _
  rw [List.getD_eq_getElem?_getD, List.getElem?_eq_none (by omega), Option.getD_none]
  omega
theorem c0h : ∀ x r, o0 x = some r → ∃ N, Y4 N x = some r := by
 refine i0 (ks := L0) (rs := L4) fun x hw hq => ⟨300, ?_⟩
 obtain ⟨(top : Int), (w : Int), (a : List Int), u⟩ := x
 have hw1 : 1 ≤ w ∧ w ≤ 23 := hq.1
 have ht : 0 ≤ top ∧ top ≤ 1000000 := hq.2.1
 have hin : inW w.toNat (a3a top a) := hq.2.2
 have ha : E7 256 a := w3.1 hw.2.2.1
 obtain ⟨d, rfl⟩ : ∃ d : Nat, w = d := ⟨w.toNat, by omega⟩
 show Y4 300 (top, (d : Int), a, u) = some (pkW ((d : Int)).toNat (a3a top a), 0)
 rw [Int.toNat_natCast] at hin ⊢
 have hat := d4T a
 have hl : (a3a top a).length = 256 := a1M _
 have hT : a3a top a = (List.range 256).map fun i => top - (a1i a).getD i 0 := rfl
 unfold Y4
 dsimp only
 rw [c5V ha, Option.bind_some]
 generalize a1i a = r at hat hT ⊢
 refine (i9 (F := E8 300) (s := fun i => (top, (d : Int), r, (i : Int), part (fun i => top - r.getD i 0) i (List.replicate 256 0), ())) (y := ((d : Int), a3a top a, ())) 256 rfl ?_ ?_ 300 (by omega)).trans ?_
 ·intro i hi kn
  have := hat i
  unfold E8
  dsimp only
  rw [if_pos (by omega), if_pos (by omega), if_pos (by omega), Int.toNat_natCast, if_pos (by omega), if_pos (by omega), if_pos (by omega), if_pos (by omega), c7 (x := r.getD i 0) (by omega) (by omega), c7 (x := top) (by omega) (by omega), c7 (x := top - r.getD i 0) (by omega) (by omega), c7 (by omega) (by omega), u5 (h := fun i => top - r.getD i 0) (by rw [List.length_replicate]; exact hi) rfl]
  rfl
 ·intro kn
  unfold E8
  dsimp only
  rw [if_neg (by omega), C3 (n := 256) (by rw [List.length_replicate]), hT]
 ·dsimp only
  rw [d14 ⟨by omega, by omega⟩ (d2S (by omega) hl hin) hin, Option.bind_some]
theorem a9D {top : Int} {d : Nat} {a : List Int} (hd : 1 ≤ d ∧ d ≤ 23) (ht : 0 ≤ top ∧ top ≤ 1000000) (ha : E7 256 a) (hin : inW d (a3a top a)) : o0 (top, (d : Int), a, ()) = some (pkW d (a3a top a), 0) :=
 (d9 (ks := L0) (rs := L4) (x := (top, (d : Int), a, ())) (Q := fun x => (1 ≤ x.2.1 ∧ x.2.1 ≤ 23) ∧ (0 ≤ x.1 ∧ x.1 ≤ 1000000) ∧ inW x.2.1.toNat (a3a x.1 x.2.2.1)) (f := fun x => (pkW x.2.1.toNat (a3a x.1 x.2.2.1), 0)) ⟨t7.2 (by omega), d1K ⟨by show 0 ≤ (d : Int); omega, by show (d : Int) ≤ 1000000; omega⟩, w3.2 ha, trivial⟩
  ⟨⟨by show 1 ≤ (d : Int); omega, by show (d : Int) ≤ 23; omega⟩, ht, by show inW ((d : Int)).toNat _; rw [Int.toNat_natCast]; exact hin⟩).trans (by show some (pkW ((d : Int)).toNat (a3a top a), (0 : Int)) = _; rw [Int.toNat_natCast])
end Go.Ax.TryP
set_option linter.unusedVariables false
namespace Go.Ax.TryP
open Go.Proofs
def J4 (f : Nat → List Int) : Nat → List Int
 | 0 => []
 | n + 1 => J4 f n ++ f n
theorem X0 {f : Nat → List Int} {w : Nat} : ∀ {n : Nat}, (∀ i, i < n → (f i).length = w) → (J4 f n).length = n * w
 | 0, _ => by simp [J4]
 | n + 1, h => by
  rw [J4, List.length_append, X0 fun i hi => h i (by omega), h n (by omega), Nat.succ_mul]
theorem c8v {A B C : List Int} {i : Nat} (hA : A.length = i * 256) (hB : B.length = 256) : List.take 256 (List.drop (i * 256) (A ++ B ++ C)) = B := by
 rw [List.append_assoc, List.drop_left' hA, List.take_left' hB]
theorem d3c {A B C v : List Int} {i : Nat} (hA : A.length = i * 256) (hB : B.length = 256) : List.take (i * 256) (A ++ B ++ C) ++ v ++ List.drop (i * 256 + 256) (A ++ B ++ C) = A ++ v ++ C := by
 rw [List.append_assoc A B C, List.take_left' hA, ← List.append_assoc A B C, List.drop_left' (by rw [List.length_append, hA, hB])]
def a1u (f : Nat → List Int) (z : List Int) (i : Nat) : List Int := J4 f i ++ z.drop (i * 256)
theorem c0Y {z : List Int} {n i : Nat} (hz : z.length = n * 256) (hi : i < n) : z.drop (i * 256) = chD z i ++ z.drop ((i + 1) * 256) := by
 unfold chD
 rw [Nat.succ_mul, ← List.drop_drop, List.take_append_drop]
theorem c4u {z : List Int} {n i : Nat} (hz : z.length = n * 256) (hi : i < n) : (chD z i).length = 256 := by
 have : (i + 1) * 256 ≤ n * 256 := Nat.mul_le_mul_right _ hi
 unfold chD
 rw [List.length_take, List.length_drop, hz]
 omega
theorem E1 (f : Nat → List Int) (z : List Int) : a1u f z 0 = z := by simp [a1u, J4]
theorem Q0 {f : Nat → List Int} {z : List Int} {n : Nat} (hz : z.length = n * 256) : a1u f z n = J4 f n := by
 unfold a1u
 rw [List.drop_eq_nil_of_le (by omega), List.append_nil]
theorem c6W {f : Nat → List Int} {z : List Int} {n i : Nat} (hz : z.length = n * 256) (hf : ∀ j, j < n → (f j).length = 256) (hi : i < n) : List.take 256 (List.drop (i * 256) (a1u f z i)) = chD z i := by
 unfold a1u
 rw [c0Y hz hi, ← List.append_assoc]
 exact c8v (X0 fun j hj => hf j (by omega)) (c4u hz hi)
theorem Q1 {f : Nat → List Int} {z : List Int} {n i : Nat} (hz : z.length = n * 256) (hf : ∀ j, j < n → (f j).length = 256) (hi : i < n) : List.take (i * 256) (a1u f z i) ++ f i ++ List.drop (i * 256 + 256) (a1u f z i) = a1u f z (i + 1) := by
 unfold a1u
 rw [c0Y hz hi, ← List.append_assoc, d3c (X0 fun j hj => hf j (by omega)) (c4u hz hi)]
 rfl
theorem d4P {f : Nat → List Int} {n : Nat} (h : ∀ j, j < n → (f j).length = 256) : List.drop (n * 256) (J4 f n ++ f n) = f n := List.drop_left' (X0 h)
theorem a0A {f : Nat → List Int} : ∀ {n i : Nat}, (∀ j, j < n → (f j).length = 256) → i < n → chD (J4 f n) i = f i
 | 0, i, _, hi => absurd hi (Nat.not_lt_zero i)
 | n + 1, i, h, hi => by
  by_cases e : i = n
  ·rw [e]
   have hn := h n (Nat.lt_succ_self n)
   unfold chD J4
   rw [d4P fun j hj => h j (Nat.lt_succ_of_lt hj)]
   exact List.take_of_length_le (Nat.le_of_eq hn)
  ·have ih := a0A (f := f) (n := n) (i := i) (fun j hj => h j (Nat.lt_succ_of_lt hj)) (by omega)
   have hl := X0 (f := f) (w := 256) (n := n) fun j hj => h j (Nat.lt_succ_of_lt hj)
   have h3 : (i + 1) * 256 ≤ n * 256 := Nat.mul_le_mul_right 256 (show i + 1 ≤ n by omega)
   rw [Nat.succ_mul] at h3
   have h1 : i * 256 ≤ (J4 f n).length := by rw [hl]; exact Nat.le_trans (Nat.le_add_right _ _) h3
   have h2 : 256 ≤ (List.drop (i * 256) (J4 f n)).length := by rw [List.length_drop, hl]; exact Nat.le_sub_of_add_le (by rw [Nat.add_comm]; exact h3)
   unfold chD at ih ⊢
   rw [J4, List.drop_append_of_le_length h1, List.take_append_of_le_length h2, ih]
end Go.Ax.TryP
set_option linter.unusedVariables false
namespace Go.Ax.TryP
open Go.Proofs
theorem a6s {z : List Int} {n i : Nat} (hz : E7 (n * 256) z) (hi : i < n) : E7 256 (chD z i) := ⟨c4u hz.1 hi, fun x hx => hz.2 x (List.mem_of_mem_drop (List.mem_of_mem_take hx))⟩
theorem a2O (w : Nat) (l : List Int) : (pkW w l).length = 32 * w := a8M _ _
theorem b2E (w : Nat) (l : List Int) : bytes (pkW w l) := fun z hz => by
 obtain ⟨j, _, rfl⟩ := List.mem_map.1 hz
 have := c2P (n := 8) (c := fun s => pkE w l (8 * j + s)) fun s _ => d7G w l _
 have h8 : (2 : Int) ^ 8 = 256 := by decide
 omega
theorem c00 (mu high : List Int) : c4v mu high = mu ++ J4 (fun r => pkW 4 (o8 (chD high r))) 6 := by
 unfold c4v
 rw [show List.range 6 = [0, 1, 2, 3, 4, 5] from rfl]
 simp [J4]
theorem K3 {a b : List Int} (ha : bytes a) (hb : bytes b) : bytes (a ++ b) := fun z hz => by
 rcases List.mem_append.1 hz with h | h
 ·exact ha z h
 ·exact hb z h
theorem a8y {f : Nat → List Int} (h : ∀ i, bytes (f i)) : ∀ n, bytes (J4 f n)
 | 0 => fun z hz => by simp [J4] at hz
 | n + 1 => K3 (a8y h n) (h n)
theorem c2t : ∀ x r, a0I x = some r → ∃ N, a02 N x = some r := by
 refine i0 (ks := P3) (rs := P4) fun x hw hq => ⟨10, ?_⟩
 obtain ⟨(mu : List Int), (high : List Int), u⟩ := x
 have hmu : mu.length ≤ maxLen ∧ bytes mu := N0.1 hw.1
 have hh : E7 (6 * 256) high := w3.1 hw.2.1
 have hl : mu.length ≤ 1000 := hq.1
 have hin : ∀ r, r < 6 → inW 4 (o8 (chD high r)) := hq.2
 show a02 10 (mu, high, u) = some (b9y mu high)
 have hj := c0N (l := [mu]) ⟨by simp, by simp; omega⟩ ⟨mB (by simp), fun zs hzs => by rw [List.mem_singleton.1 hzs]; exact hmu⟩
 rw [show [mu].flatten = mu by simp] at hj
 unfold a02
 dsimp only
 rw [hj, Option.bind_some]
 have hF : ∀ n, (J4 (fun r => pkW 4 (o8 (chD high r))) n).length = n * 128 := fun n => X0 fun i _ => a2O 4 _
 refine (i9 (F := I1 10) (s := fun i => (mu.length + i * 128, (i : Int), high, mu.length + i * 128, mu ++ J4 (fun r => pkW 4 (o8 (chD high r))) i, ())) (y := .inr (mu.length + 6 * 128, mu.length + 6 * 128, c4v mu high, ())) 6 (by simp [J4]) ?_ ?_ 10 (by omega)).trans ?_
 ·intro i hi kn
  have hc : List.take 256 (List.drop (i * 256) high) = chD high i := rfl
  unfold I1
  dsimp only
  have e4 := c9p (d := 4) (by omega) (a6s hh hi) (hin i hi)
  rw [if_pos (by omega), if_pos (by omega), if_pos (by omega), Int.toNat_natCast, if_pos (by omega), hc, show (4 : Int) = ((4 : Nat) : Int) from rfl, e4, Option.bind_some]
  dsimp only
  rw [if_neg (by simp), a2O, if_pos (by omega), c7 (by omega) (by omega), List.append_assoc, show mu.length + i * 128 + 32 * 4 = mu.length + (i + 1) * 128 by omega]
  rfl
 ·intro kn
  unfold I1
  dsimp only
  rw [if_neg (by omega), c00]
 ·dsimp only
  have hb : bytes (c4v mu high) := by rw [c00]; exact K3 hmu.2 (a8y (fun i => b2E 4 _) 6)
  have hlen : (c4v mu high).length ≤ maxLen := mB (by rw [c00, List.length_append, hF]; omega)
  have e := b7A (n := 48) (l := [c4v mu high]) (by omega) ⟨mB (by simp), fun zs hzs => by rw [List.mem_singleton.1 hzs]; exact ⟨hlen, hb⟩⟩
  rw [show [c4v mu high].flatten = c4v mu high by simp] at e
  rw [show (48 : Int) = ((48 : Nat) : Int) from rfl, e, Option.bind_some]
  rfl
end Go.Ax.TryP
set_option linter.unusedVariables false
namespace Go.Ax.TryP
open Go.Proofs
theorem a6c (m y : List Int) (r : Nat) : ∀ s, E7 256 (a4R m y r s)
 | 0 => rows.zero (by omega) 256
 | s + 1 => b1L _ _
theorem a4x {f : Nat → List Int} (h : ∀ i, E7 256 (f i)) : ∀ n, E7 (n * 256) (J4 f n)
 | 0 => ⟨by simp [J4], fun z hz => by simp [J4] at hz⟩
 | n + 1 => ⟨X0 fun i _ => (h i).1, fun z hz => by
  rcases List.mem_append.1 hz with hz | hz
  ·exact (a4x h n).2 z hz
  ·exact (h n).2 z hz⟩
theorem d4H {i : Nat} (hi : i < 6) : chD (List.replicate 1536 0) i = List.replicate 256 0 := by
 unfold chD
 rw [List.drop_replicate, List.take_replicate, Nat.min_eq_left (by omega)]
theorem d8E (m : List Int) (r s : Nat) : List.take 256 (List.drop (r * 1280 + s * 256) m) = chD m (r * 5 + s) := by
 unfold chD
 rw [show (r * 5 + s) * 256 = r * 1280 + s * 256 by omega]
theorem c4A {a : List Int} (h : dred a) : E7 256 a := ⟨h.1, fun z hz => by
 obtain ⟨i, hi, rfl⟩ := List.mem_iff_getElem.1 hz
 have := h.2 i
 rw [List.getD_eq_getElem?_getD, List.getElem?_eq_getElem hi, Option.getD_some] at this
 omega⟩
theorem c4D (a : List Int) : E7 256 (j9 a) := c4A (a6t a)
theorem c3R (a b : List Int) : E7 256 (a45 a b) := c4A (a3h fun i _ => by omega)
theorem b5s : ∀ x r, K6 x = some r → ∃ N, M0 N x = some r := by
 refine i0 (ks := D0) (rs := D1) fun x hw hq => ⟨10, ?_⟩
 obtain ⟨(m : List Int), (y : List Int), u⟩ := x
 have hm : E7 (30 * 256) m := w3.1 hw.1
 have hy : E7 (5 * 256) y := w3.1 hw.2.1
 show M0 10 (m, y, u) = some (b0s m y)
 have hF : ∀ j, j < 5 → (j9 (chD y j)).length = 256 := fun j _ => (c4D _).1
 have hG : ∀ j, j < 6 → (a4R m y j 5).length = 256 := fun j _ => (a6c m y j 5).1
 have hZ : (List.replicate 1536 (0 : Int)).length = 6 * 256 := by rw [List.length_replicate]
 unfold M0
 dsimp only
 generalize hz : List.replicate 1536 (0 : Int) = Z at hZ
 refine (i9 (F := x9 10) (s := fun i => ((i : Int), m, a1u (fun j => j9 (chD y j)) y i, Z, ())) (y := (m, J4 (fun j => j9 (chD y j)) 5, Z, ())) 5 (by rw [E1]; rfl) ?_ ?_ 10 (by omega)).trans ?_
 ·intro i hi kn
  unfold x9
  dsimp only
  rw [if_pos (by omega), if_pos (by omega), if_pos (by omega), Int.toNat_natCast, if_pos (by omega), c6W hy.1 hF hi, c0M (a6s hy hi), Option.bind_some, if_pos (by omega), if_pos (by omega), if_pos (by omega), c7 (by omega) (by omega)]
  exact congrArg kn (by rw [Q1 (f := fun j => j9 (chD y j)) hy.1 hF hi]; rfl)
 ·intro kn
  unfold x9
  dsimp only
  rw [if_neg (by omega), Q0 hy.1]
 dsimp only
 refine (i9 (F := y0 10) (s := fun r => ((r : Int), m, J4 (fun j => j9 (chD y j)) 5, Z, a1u (fun r => a4R m y r 5) Z r, ())) (y := (Z, J4 (fun r => a4R m y r 5) 6, ())) 6 (by rw [E1]; rfl) ?_ ?_ 10 (by omega)).trans ?_
 ·intro r hr kn
  have hA : (J4 (fun r => a4R m y r 5) r).length = r * 256 := X0 fun j _ => (a6c m y j 5).1
  unfold y0
  dsimp only
  rw [if_pos (by omega)]
  refine (i9 (F := v9 10) (s := fun s => ((r : Int), (r : Int), (s : Int), m, J4 (fun j => j9 (chD y j)) 5, Z, J4 (fun r => a4R m y r 5) r ++ a4R m y r s ++ Z.drop ((r + 1) * 256), ())) (y := ((r : Int), m, J4 (fun j => j9 (chD y j)) 5, Z, J4 (fun r => a4R m y r 5) r ++ a4R m y r 5 ++ Z.drop ((r + 1) * 256), ())) 5 ?_ ?_ ?_ 10 (by omega)).trans ?_
  ·have : a1u (fun r => a4R m y r 5) Z r = J4 (fun r => a4R m y r 5) r ++ a4R m y r 0 ++ Z.drop ((r + 1) * 256) := by
    unfold a1u
    rw [c0Y hZ hr, ← List.append_assoc, ← hz, d4H hr]
    rfl
   rw [this]
   rfl
  ·intro s hs kn
   have hB := (a6c m y r s).1
   have he : r * 5 + s < 30 := by omega
   unfold v9
   dsimp only
   rw [if_pos (by omega), if_pos (by omega), if_pos (by omega), Int.toNat_natCast, if_pos (by omega), if_pos (by omega), if_pos (by omega), if_pos (by omega), if_pos (by omega), Int.toNat_natCast, if_pos (by omega), if_pos (by omega), if_pos (by omega), if_pos (by omega), d8E, show List.take 256 (List.drop (s * 256) (J4 (fun j => j9 (chD y j)) 5)) = j9 (chD y s) from a0A hF hs,
    c0O (a6s hm he) (c4D _), Option.bind_some, c8v hA hB, c5U (a6c m y r s) (c3R _ _), Option.bind_some, if_pos (by omega), if_pos (by omega), if_pos (by omega), c7 (by omega) (by omega), d3c hA hB]
   rfl
  ·intro kn
   unfold v9
   dsimp only
   rw [if_neg (by omega)]
  ·dsimp only
   rw [c7 (by omega) (by omega)]
   rfl
 ·intro kn
  unfold y0
  dsimp only
  rw [if_neg (by omega), Q0 hZ]
 ·rfl
end Go.Ax.TryP
set_option linter.unusedVariables false
namespace Go.Ax.TryP
open Go.Proofs
theorem c1k (a : List Int) : E7 256 (a5x a) := c4A (b1B a)
theorem d3w (m y : List Int) : E7 (6 * 256) (b0s m y) := a4x (f := fun r => a4R m y r 5) (fun r => a6c m y r 5) 6
theorem d0x (m y : List Int) : E7 (6 * 256) (R3 m y) := a4x (f := fun r => a5x (a4R m y r 5)) (fun r => c1k _) 6
theorem c53 {m y : List Int} (hm : E7 (30 * 256) m) (hy : E7 (5 * 256) y) : K6 (m, y, ()) = some (b0s m y) :=
 d9 (ks := D0) (rs := D1) (x := (m, y, ())) ⟨w3.2 hm, w3.2 hy, trivial⟩ trivial
theorem b7a : ∀ x r, O2 x = some r → ∃ N, P6 N x = some r := by
 refine i0 (ks := F6) (rs := F7) fun x hw hq => ⟨10, ?_⟩
 obtain ⟨(m : List Int), (y : List Int), u⟩ := x
 have hm : E7 (30 * 256) m := w3.1 hw.1
 have hy : E7 (5 * 256) y := w3.1 hw.2.1
 show P6 10 (m, y, u) = some (R3 m y)
 have hR := d3w m y
 have hF : ∀ j, j < 6 → (a5x (a4R m y j 5)).length = 256 := fun j _ => (c1k _).1
 have hc : ∀ j, j < 6 → chD (b0s m y) j = a4R m y j 5 := fun j hj => a0A (f := fun r => a4R m y r 5) (fun j _ => (a6c m y j 5).1) hj
 unfold P6
 dsimp only
 rw [c53 hm hy, Option.bind_some]
 generalize List.replicate 1536 (0 : Int) = Z
 refine (i9 (F := B2 10) (s := fun i => ((i : Int), Z, a1u (fun j => a5x (a4R m y j 5)) (b0s m y) i, ())) (y := (Z, R3 m y, ())) 6 (by rw [E1]; rfl) ?_ ?_ 10 (by omega)).trans rfl
 ·intro i hi kn
  unfold B2
  dsimp only
  rw [if_pos (by omega), if_pos (by omega), if_pos (by omega), Int.toNat_natCast, if_pos (by omega), c6W hR.1 hF hi, hc i hi, c7Q (a6c m y i 5), Option.bind_some, if_pos (by omega), if_pos (by omega), if_pos (by omega), c7 (by omega) (by omega)]
  exact congrArg kn (by rw [Q1 (f := fun j => a5x (a4R m y j 5)) hR.1 hF hi]; rfl)
 ·intro kn
  unfold B2
  dsimp only
  rw [if_neg (by omega), Q0 hR.1]
  rfl
end Go.Ax.TryP
set_option linter.unusedVariables false
namespace Go.Ax.TryP
open Go.Proofs
theorem c4O {X Y β : Type} (F : (β : Type) → X → (X → Option β) → (Y → Option β) → Option β) (n : Nat) (x : X) (k : Y → Option β) : m9 F (n + 1) x k = F β x (fun x' => m9 F n x' k) k := rfl
theorem c1B {X Y β : Type} {F : (β : Type) → X → (X → Option β) → (Y → Option β) → Option β} {K : Y → Option β} (s : Nat → X) (c : Nat → Prop) (bad fine : Y) (n : Nat)
  (h1 : ∀ i, i < n → ∀ kn : X → Option β, (c i → F β (s i) kn K = kn (s (i + 1))) ∧ (¬ c i → F β (s i) kn K = K bad)) (h2 : ∀ kn : X → Option β, F β (s n) kn K = K fine) :
  ∀ j i m : Nat, i + j = n → j < m → ((∀ k, i ≤ k → k < n → c k) → m9 F m (s i) K = K fine) ∧ (¬ (∀ k, i ≤ k → k < n → c k) → m9 F m (s i) K = K bad)
 | 0, i, m + 1, hi, _ => by
  have e : i = n := by omega
  subst e
  exact ⟨fun _ => h2 _, fun h => absurd (fun k h1 h2 => by omega) h⟩
 | j + 1, i, m + 1, hi, hm => by
  rw [c4O]
  obtain ⟨g1, g2⟩ := h1 i (by omega) (fun x' => m9 F m x' K)
  obtain ⟨f1, f2⟩ := c1B (F := F) (K := K) s c bad fine n h1 h2 j (i + 1) m (by omega) (by omega)
  refine ⟨fun h => ?_, fun h => ?_⟩
  ·rw [g1 (h i (by omega) (by omega))]
   exact f1 fun k hk1 hk2 => h k (by omega) hk2
  ·by_cases hc : c i
   ·rw [g1 hc]
    refine f2 fun hh => h fun k hk1 hk2 => ?_
    by_cases e : k = i
    ·subst e; exact hc
    ·exact hh k (by omega) hk2
   ·exact g2 hc
end Go.Ax.TryP
set_option linter.unusedVariables false
namespace Go.Ax.TryP
open Go.Proofs
theorem c7P {f : Nat → List Int} {p : Int → Prop} (h : ∀ t, ∀ z ∈ f t, p z) : ∀ t, ∀ z ∈ a1w f t, p z
 | 0, z, hz => by simp [a1w] at hz
 | t + 1, z, hz => by
  rcases List.mem_append.1 hz with hz | hz
  ·exact c7P h t z hz
  ·exact h t z hz
theorem d89 (s : List Int) (t : Nat) : ∀ z ∈ b1Z s t, 0 ≤ z ∧ z < 8380417 := by
 intro z hz
 unfold b1Z at hz
 split at hz
 ·rename_i h
  rw [List.mem_singleton] at hz
  subst hz
  refine ⟨?_, h⟩
  have h1 := d1A s (3 * t)
  have h2 := d1A s (3 * t + 1)
  have h3 := d1A s (3 * t + 2)
  unfold c2Y
  omega
 ·simp at hz
theorem d0B : E7 256 (List.replicate 256 0) := rows.zero (by omega) 256
theorem d9g (s : List Int) : E7 256 (d3z s).1 := by
 unfold d3z
 split
 ·exact d0B
 ·split
  ·exact d0B
  ·rename_i h
   generalize hA : a1w (b1Z s) 1024 = A at h
   refine ⟨?_, fun z hz => ?_⟩
   ·have h' : 256 ≤ A.length := Nat.le_of_not_lt h
    dsimp only
    rw [List.length_take, Nat.min_eq_left h']
   ·have hz1 : z ∈ A.take 256 := hz
    have hz2 : z ∈ A := List.mem_of_mem_take hz1
    rw [← hA] at hz2
    have := c7P (d89 s) 1024 z hz2
    omega
theorem d9f {s : List Int} (h : s.length = 34) : (d3z s).2 = 0 ∨ (d3z s).2 = 130 := by
 unfold d3z
 rw [if_neg (by rw [h]; decide)]
 split
 ·exact .inr rfl
 ·exact .inl rfl
theorem c6p (rho : List Int) (r s : Nat) : E7 256 (c5H rho r s).1 := d9g _
theorem d0E {b : List Int} (hb : b.length ≤ maxLen ∧ bytes b) : a0d (b, ()) = some (d3z b) := d9 (ks := S5) (rs := S6) (x := (b, ())) ⟨N0.2 hb, trivial⟩ trivial
theorem c4o {a : List Int} {e : Int} (ha : E7 256 a) (he : 0 ≤ e ∧ e ≤ 1000000) : a6e (a, e, ()) = some (decide (e ≠ 0), e, a) := b5E (ks := a3H) (rs := a3I) (x := (a, e, ())) (Q := fun _ => True) (f := fun x => (decide (x.2.1 ≠ 0), x.2.1, x.1)) ⟨w3.2 ha, d1K he, trivial⟩ trivial
end Go.Ax.TryP
set_option linter.unusedVariables false
namespace Go.Ax.TryP
open Go.Proofs
theorem d6l {rho : List Int} (hr : rho.length = 32 ∧ bytes rho) {r s : Nat} (h1 : r < 6) (h2 : s < 5) : c7m [rho, [(s : Int), (r : Int)]] := ⟨mB (by simp), fun zs hzs => by
 rcases List.mem_cons.1 hzs with rfl | hzs
 ·exact ⟨mB (by omega), hr.2⟩
 ·rw [List.mem_singleton.1 hzs]
  refine ⟨mB (by simp), fun z hz => ?_⟩
  rcases List.mem_cons.1 hz with rfl | hz
  ·omega
  ·rw [List.mem_singleton.1 hz]; omega⟩
theorem d16 {rho : List Int} (hr : rho.length = 32 ∧ bytes rho) {r s : Nat} (h1 : r < 6) (h2 : s < 5) : m7 ([rho, [(s : Int), (r : Int)]], ()) = some (rho ++ [(s : Int), (r : Int)]) := by
 have h := c0N (l := [rho, [(s : Int), (r : Int)]]) ⟨by simp, by simp [hr.1]⟩ (d6l hr h1 h2)
 rw [h]
 simp
theorem c7U {rho : List Int} (hr : rho.length = 32 ∧ bytes rho) {r s : Nat} (h1 : r < 6) (h2 : s < 5) : a0d (rho ++ [(s : Int), (r : Int)], ()) = some (c5H rho r s) :=
 d0E ⟨mB (by rw [List.length_append, hr.1]; simp), K3 hr.2 ((d6l hr h1 h2).2 _ (by simp)).2⟩
theorem d8D {rho : List Int} (hr : rho.length = 32) (r s : Nat) : (c5H rho r s).2 = 0 ∨ (c5H rho r s).2 = 130 := d9f (by rw [List.length_append, hr]; rfl)
end Go.Ax.TryP
set_option linter.unusedVariables false
namespace Go.Ax.TryP
open Go.Proofs
def d2D (rho : List Int) (k : Nat) : List Int := (c5H rho (k / 5) (k % 5)).1
theorem d66 {rho : List Int} {r s : Nat} (hs : s < 5) : d2D rho (r * 5 + s) = (c5H rho r s).1 := by
 unfold d2D
 rw [show (r * 5 + s) / 5 = r by omega, show (r * 5 + s) % 5 = s by omega]
theorem c93 (rho : List Int) : a67 rho = J4 (d2D rho) 30 := by
 simp only [a67, d9V, e0H, J4, List.nil_append, List.append_assoc]
 rfl
theorem d4S (rho : List Int) (k : Nat) : (d2D rho k).length = 256 := (c6p _ _ _).1
theorem d28 (rho : List Int) : E7 (30 * 256) (a67 rho) := by rw [c93]; exact a4x (fun k => c6p _ _ _) 30
theorem d7J {rho : List Int} {r s : Nat} (h : (c5H rho r s).2 = 0) : xg (a6e ((c5H rho r s).1, (c5H rho r s).2, ())) = some (c5H rho r s).1 := by
 rw [h, c4o (c6p rho r s) (by omega)]
 rfl
theorem d8F {rho Z : List Int} (hr : rho.length = 32 ∧ bytes rho) (hZ : Z.length = 30 * 256) {r : Nat} (h6 : r < 6) {β : Type} (K : (Int × Unit) ⊕ (Nat × Int × Nat × List Int × List Int × Unit) → Option β) :
  ((∀ s, s < 5 → (c5H rho r s).2 = 0) → m9 (x8 10) 10 (32, (r : Int), (r : Int), (0 : Int), 32, rho, a1u (d2D rho) Z (r * 5), ()) K = K (.inr (32, (r : Int), 32, rho, a1u (d2D rho) Z ((r + 1) * 5), ()))) ∧
  (¬ (∀ s, s < 5 → (c5H rho r s).2 = 0) → m9 (x8 10) 10 (32, (r : Int), (r : Int), (0 : Int), 32, rho, a1u (d2D rho) Z (r * 5), ()) K = K (.inl (130, ()))) := by
 have h := c1B (F := x8 10) (K := K) (fun i => (32, (r : Int), (r : Int), (i : Int), 32, rho, a1u (d2D rho) Z (r * 5 + i), ())) (fun s => (c5H rho r s).2 = 0) (.inl (130, ())) (.inr (32, (r : Int), 32, rho, a1u (d2D rho) Z ((r + 1) * 5), ())) 5
  (fun s hs kn => by
   have e1 : List.set (List.set (List.replicate 2 (0 : Int)) 0 (IntKind.u8.wrap (s : Int))) 1 (IntKind.u8.wrap (r : Int)) = [(s : Int), (r : Int)] := by rw [b8Y (by omega) (by omega), b8Y (by omega) (by omega)]; rfl
   have hk : r * 5 + s < 30 := by omega
   constructor
   ·intro hc
    unfold x8
    dsimp only
    rw [if_pos (by omega), e1, d16 hr h6 hs, Option.bind_some, c7U hr h6 hs, Option.bind_some, if_pos (by omega), if_pos (by omega)]
    rw [c4o (c6p rho r s) (by omega), Option.bind_some, hc]
    rw [if_neg (by simp), Option.bind_some, c7U hr h6 hs, Option.bind_some, d7J hc]
    rw [Option.bind_some, if_pos (by omega), if_pos (by omega), if_pos (by omega), if_pos (by omega), Int.toNat_natCast, Int.toNat_natCast, show r * 1280 + s * 256 = (r * 5 + s) * 256 by omega, if_pos (by omega), c7 (by omega) (by omega), ← d66 hs, Q1 (f := d2D rho) hZ (fun j _ => d4S rho j) hk]
    rfl
   ·intro hc
    have he : (c5H rho r s).2 = 130 := (d8D hr.1 r s).resolve_left hc
    unfold x8
    dsimp only
    rw [if_pos (by omega), e1, d16 hr h6 hs, Option.bind_some, c7U hr h6 hs, Option.bind_some, if_pos (by omega), if_pos (by omega), c4o (c6p rho r s) (by omega), Option.bind_some, he]
    rfl)
  (fun kn => by
   unfold x8
   dsimp only
   rw [if_neg (by omega), show r * 5 + 5 = (r + 1) * 5 by omega]) 5 0 10 (by omega) (by omega)
 exact ⟨fun hh => h.1 fun k _ hk => hh k hk, fun hh => h.2 fun hh' => hh fun s hs => hh' s (Nat.zero_le _) hs⟩
end Go.Ax.TryP
set_option linter.unusedVariables false
namespace Go.Ax.TryP
open Go.Proofs
theorem d6b {rho Z : List Int} (hr : rho.length = 32 ∧ bytes rho) (hZ : Z.length = 30 * 256) {β : Type} (K : (Int × Unit) ⊕ (List Int × Unit) → Option β) :
  (a30 rho → m9 (x7 10) 10 (32, (0 : Int), 32, rho, Z, ()) K = K (.inr (a67 rho, ()))) ∧
  (¬ a30 rho → m9 (x7 10) 10 (32, (0 : Int), 32, rho, Z, ()) K = K (.inl (130, ()))) := by
 have h := c1B (F := x7 10) (K := K) (fun r => (32, (r : Int), 32, rho, a1u (d2D rho) Z (r * 5), ())) (fun r => ∀ s, s < 5 → (c5H rho r s).2 = 0) (.inl (130, ())) (.inr (a67 rho, ())) 6
  (fun r hr6 kn => by
   constructor
   ·intro hc
    unfold x7
    dsimp only
    rw [if_pos (by omega)]
    refine ((d8F hr hZ hr6 _).1 hc).trans ?_
    dsimp only
    rw [c7 (by omega) (by omega)]
    rfl
   ·intro hc
    unfold x7
    dsimp only
    rw [if_pos (by omega)]
    exact (d8F hr hZ hr6 _).2 hc)
  (fun kn => by
   unfold x7
   dsimp only
   rw [if_neg (by omega), c93, show 6 * 5 = 30 from rfl, Q0 hZ]) 6 0 10 (by omega) (by omega)
 rw [Nat.zero_mul, E1] at h
 exact ⟨fun hh => h.1 fun r _ hr6 => hh r hr6, fun hh => h.2 fun hh' => hh fun r hr6 => hh' r (Nat.zero_le _) hr6⟩
theorem b5L {rho : List Int} (h : a30 rho) : b1y rho = false := by unfold b1y; exact @decide_eq_false _ (Classical.propDecidable _) (fun hh => hh h)
theorem b2T {rho : List Int} (h : ¬ a30 rho) : b1y rho = true := by unfold b1y; exact @decide_eq_true _ (Classical.propDecidable _) h
theorem c7a : ∀ x r, O1 x = some r → ∃ N, a7J N x = some (xr r) := by
 refine b5F (ks := a03) (rs := a04) fun x hw hq => ⟨10, ?_⟩
 obtain ⟨(rho : List Int), u⟩ := x
 have hl : rho.length = 32 := hq
 have hb : rho.length ≤ maxLen ∧ bytes rho := N0.1 hw.1
 have hZ : (List.replicate 7680 (0 : Int)).length = 30 * 256 := by rw [List.length_replicate]
 unfold a7J
 dsimp only
 rw [hl]
 generalize List.replicate 7680 (0 : Int) = Z at hZ
 by_cases hc : a30 rho
 ·refine ((d6b ⟨hl, hb.2⟩ hZ _).1 hc).trans ?_
  rw [b5L hc]
  rfl
 ·refine ((d6b ⟨hl, hb.2⟩ hZ _).2 hc).trans ?_
  rw [b2T hc]
  rfl
theorem c0T {rho : List Int} (hr : rho.length = 32 ∧ bytes rho) : O1 (rho, ()) = some (b1y rho, 130, (a67 rho, ())) :=
 b5E (ks := a03) (rs := a04) (x := (rho, ())) (Q := fun x => x.1.length = 32) (f := fun x => (b1y x.1, 130, (a67 x.1, ()))) ⟨N0.2 ⟨mB (by rw [hr.1]; omega), hr.2⟩, trivial⟩ hr.1
end Go.Ax.TryP
