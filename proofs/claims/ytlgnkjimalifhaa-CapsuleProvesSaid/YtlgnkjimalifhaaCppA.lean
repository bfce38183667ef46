/- A part of the proof: CpS, CpP, CpQ1, CpQ2, CpQ3, CpQ4, CpQ5. -/
import Derived.Test.YtlgnkjimalifhaaDsaE
set_option linter.unusedVariables false
namespace Go.Ax.TryP
open Go.Proofs
def d5G (b : List Int) (s : Nat) : Nat → List (List Int)
 | 0 => []
 | n + 1 => d5G b s n ++ [(b.drop (n * s)).take s]
def b49 (n s : Nat) : Nat := (n + s - 1) / s
def c6Y (b : List Int) (size : Int) : List (List Int) × Int := if size < 1 ∨ 1024 < size then ([], 1) else if b.length = 0 then ([], 4) else if 256 * size < (b.length : Int) then ([], 3) else (d5G b size.toNat (b49 b.length size.toNat), 0)
noncomputable def a1u : List Int × Int × Unit → Option (List (List Int) × Int) := P0 (ks := [.sl (.int .u8), .int .i64]) (rs := [.sls (.int .u8), .int .i64]) (fun x => x.1.length ≤ 1000000) fun x => c6Y x.1 x.2.1
def a74 (n : Int) (w : Nat) : List Int := (List.range w).map fun i => n / 2 ^ (8 * (w - 1 - i)) % 256
noncomputable def a26 : Int × Int × Unit → Option (List Int) := P0 (ks := [.int .u64, .int .i64]) (rs := [.sl (.int .u8)]) (fun x => 0 ≤ x.2.1 ∧ x.2.1 ≤ 8) fun x => a74 x.1 x.2.1.toNat
noncomputable def a49 : Int × Unit → Option (List Int) := P0 (ks := [.int .u16]) (rs := [.sl (.int .u8)]) (fun _ => True) fun x => a74 x.1 2
noncomputable def a5a : Int × Unit → Option (List Int) := P0 (ks := [.int .u32]) (rs := [.sl (.int .u8)]) (fun _ => True) fun x => a74 x.1 4
noncomputable def a5b : Int × Unit → Option (List Int) := P0 (ks := [.int .u64]) (rs := [.sl (.int .u8)]) (fun _ => True) fun x => a74 x.1 8
def d02 (lo hi : Int) : Bool := decide (lo < hi ∧ hi ≤ 1152921504606846976)
noncomputable def b0Q : (Int × Int × Unit) × Unit → Option Bool := P0 (ks := [.cat [.int .u64, .int .u64]]) (rs := [.bool]) (fun _ => True) fun x => d02 x.1.1 x.1.2.1
noncomputable def b0P : List Int × Unit → Option Bool := P0 (ks := [.sla (.int .u64) 2]) (rs := [.bool]) (fun x => x.1.length = 2) fun x => d02 (x.1.getD 0 0) (x.1.getD 1 0)
def d2B (n : Int) : Bool := decide (0 ≤ n ∧ n < 16)
noncomputable def L7 : Int × Unit → Option Bool := P0 (ks := [.int .i64]) (rs := [.bool]) (fun _ => True) fun x => d2B x.1
abbrev Cp := Int × Int × Int × Int × Int × Int × List Int × List Int × List Int × List Int × Unit
def a0X (c : Cp) : Bool := d2B c.1 && (d2B c.2.1 && (decide (c.1 ≠ c.2.1) && (d02 c.2.2.2.2.1 c.2.2.2.2.2.1 && decide (1 ≤ c.2.2.2.2.2.2.1.length ∧ c.2.2.2.2.2.2.1.length ≤ 68))))
def a5I (c : Cp) : List Int := [c.1 % 256, c.2.1 % 256] ++ a74 c.2.2.1 4 ++ a74 c.2.2.2.1 4 ++ a74 c.2.2.2.2.1 8 ++ a74 c.2.2.2.2.2.1 8 ++ a74 (c.2.2.2.2.2.2.1.length : Int) 2 ++ c.2.2.2.2.2.2.1
noncomputable def U5 : Cp × Unit → Option Bool := P0 (ks := [.cat [.int .i64, .int .i64, .int .u32, .int .u32, .int .u64, .int .u64, .sl (.int .u8), .sl (.int .u8), .sl (.int .u8), .sl (.int .u8)]]) (rs := [.bool]) (fun _ => True) fun x => a0X x.1
noncomputable def a04 : Cp × Unit → Option (List Int) := P0 (ks := [.cat [.int .i64, .int .i64, .int .u32, .int .u32, .int .u64, .int .u64, .sl (.int .u8), .sl (.int .u8), .sl (.int .u8), .sl (.int .u8)]]) (rs := [.sl (.int .u8)]) (fun x => x.1.2.2.2.2.2.2.1.length ≤ 60000) fun x => a5I x.1
noncomputable def a3p : Cp × Unit → Option (List Int) := P0 (ks := [.cat [.int .i64, .int .i64, .int .u32, .int .u32, .int .u64, .int .u64, .sl (.int .u8), .sl (.int .u8), .sl (.int .u8), .sl (.int .u8)]]) (rs := [.sl (.int .u8)]) (fun _ => True) fun x => if a0X x.1 = true then a5I x.1 else []
noncomputable def a12 : Unit → Option Bool := P0 (ks := []) (rs := [.bool]) (fun _ => True) fun _ => true
abbrev cpL : List FK := [.int .i64, .int .i64, .int .u32, .int .u32, .int .u64, .int .u64, .sl (.int .u8), .sl (.int .u8), .sl (.int .u8), .sl (.int .u8)]
def d4C (c : Cp) : Bool := decide (9000 < c.2.2.2.2.2.2.1.length) || decide (9000 < c.2.2.2.2.2.2.2.1.length) || decide (9000 < c.2.2.2.2.2.2.2.2.1.length) || decide (9000 < c.2.2.2.2.2.2.2.2.2.1.length)
noncomputable def a8d : Cp × Unit → Option Bool := P0 (ks := [.cat cpL]) (rs := [.bool]) (fun _ => True) fun x => d4C x.1
def T8 (c : Cp) : Bool := a0X c && decide (c.2.2.2.2.2.2.2.1.length = 1088 ∧ 33 ≤ c.2.2.2.2.2.2.2.2.1.length ∧ c.2.2.2.2.2.2.2.2.1.length ≤ 288)
def c8q (c : Cp) : Bool := T8 c && decide (c.2.2.2.2.2.2.2.2.2.1.length = 3309)
noncomputable def U6 : Cp × Unit → Option Bool := P0 (ks := [.cat cpL]) (rs := [.bool]) (fun _ => True) fun x => T8 x.1
noncomputable def a0a : Cp × Unit → Option Int := P0 (ks := [.cat cpL]) (rs := [.int .i64]) (fun _ => True) fun x => if c8q x.1 = true then 0 else 230
def titleS : List Int := [108, 105, 118, 101, 114, 121, 32, 99, 97, 112, 115, 117, 108, 101]
def t8 (c : Cp) : List Int := a5I c ++ c.2.2.2.2.2.2.2.1 ++ a74 (c.2.2.2.2.2.2.2.2.1.length : Int) 2 ++ c.2.2.2.2.2.2.2.2.1
noncomputable def a0b : Cp × Unit → Option (List Int) := P0 (ks := [.cat cpL]) (rs := [.sl (.int .u8)]) (fun x => x.1.2.2.2.2.2.2.1.length ≤ 60000 ∧ x.1.2.2.2.2.2.2.2.1.length ≤ 60000 ∧ x.1.2.2.2.2.2.2.2.2.1.length ≤ 60000) fun x => t8 x.1
noncomputable def P3 : Cp × Unit → Option (List Int) := P0 (ks := [.cat cpL]) (rs := [.sl (.int .u8)]) (fun _ => True) fun x => if T8 x.1 = true then titleS ++ t8 x.1 else []
def c4w (c : Cp) : List Int × Int := if c8q c = true then (t8 c ++ c.2.2.2.2.2.2.2.2.2.1, 0) else ([], 230)
noncomputable def a4r : Cp × Unit → Option (List Int × Int) := P0 (ks := [.cat cpL]) (rs := [.sl (.int .u8), .int .i64]) (fun _ => True) fun x => c4w x.1
def a7b (b : List Int) : Int := b.foldl (fun a z => a * 256 + z) 0
abbrev Rd := List Int × Bool × Unit
abbrev rdL : List FK := [.fs (.int .u8), .bool]
def tk (s : Rd) (n : Nat) : List Int × Rd := if s.2.1 = true ∨ s.1.length < n then (List.replicate (min n 8) 0, (s.1, true, ())) else (s.1.take n, (s.1.drop n, false, ()))
def nmS (s : Rd) (n : Nat) : Int × Rd := (a7b (tk s n).1, (tk s n).2)
def txS (s : Rd) (n : Nat) : List Int × Rd := tk (nmS s n).2 (nmS s n).1.toNat
noncomputable def q8 : Rd × Int × Unit → Option (List Int × Rd) := P0 (ks := [.io rdL, .int .i64]) (rs := [.sl (.int .u8), .cat rdL]) (fun x => 0 ≤ x.2.1 ∧ x.2.1 ≤ 100000 ∧ x.1.1.length ≤ 1000000) fun x => tk x.1 x.2.1.toNat
noncomputable def d7 : Rd × Int × Unit → Option (Int × Rd) := P0 (ks := [.io rdL, .int .i64]) (rs := [.int .u64, .cat rdL]) (fun x => 1 ≤ x.2.1 ∧ x.2.1 ≤ 8 ∧ x.1.1.length ≤ 1000000) fun x => nmS x.1 x.2.1.toNat
noncomputable def E6 : Rd × Int × Unit → Option (List Int × Rd) := P0 (ks := [.io rdL, .int .i64]) (rs := [.sl (.int .u8), .cat rdL]) (fun x => 1 ≤ x.2.1 ∧ x.2.1 ≤ 2 ∧ x.1.1.length ≤ 1000000) fun x => txS x.1 x.2.1.toNat
noncomputable def a4u : List Int × Unit → Option (Int × Int) := P0 (ks := [.sl (.int .u8)]) (rs := [.int .u64, .int .i64]) (fun x => 1 ≤ x.1.length ∧ x.1.length ≤ 8) fun x => (a7b x.1, 0)
def pc (b : List Int) (i n : Nat) : List Int := (b.drop i).take n
def gN (b : List Int) : Nat := (a7b (pc b 26 2)).toNat
def gM (b : List Int) : Nat := (a7b (pc b (28 + gN b + 1088) 2)).toNat
def gK (b : List Int) : Nat := 28 + gN b + 1088 + 2 + gM b + 3309
def gC (b : List Int) : Cp := (b.getD 0 0, b.getD 1 0, a7b (pc b 2 4), a7b (pc b 6 4), a7b (pc b 10 8), a7b (pc b 18 8), pc b 28 (gN b), pc b (28 + gN b) 1088, pc b (28 + gN b + 1088 + 2) (gM b), pc b (28 + gN b + 1088 + 2 + gM b) 3309, ())
def zC : Cp := (0, 0, 0, 0, 0, 0, [], [], [], [], ())
def b7D (b : List Int) : Cp × Int := if gK b = b.length ∧ c8q (gC b) = true then (gC b, 0) else (zC, 230)
noncomputable def a4q : List Int × Unit → Option (Cp × Int) := P0 (ks := [.fsl (.int .u8)]) (rs := [.cat cpL, .int .i64]) (fun x => x.1.length ≤ 1000000) fun x => b7D x.1
noncomputable def d5f (b pk : List Int) : Int := if (b7D b).2 ≠ 0 then (b7D b).2 else if d0V pk (if T8 (b7D b).1 = true then titleS ++ t8 (b7D b).1 else []) [108, 105, 118, 101, 114, 121] (b7D b).1.2.2.2.2.2.2.2.2.2.1 ≠ 0 then 223 else 0
noncomputable def L0 : List Int × List Int × Unit → Option Int := P0 (ks := [.sl (.int .u8), .sl (.int .u8)]) (rs := [.int .i64]) (fun x => x.1.length ≤ 1000000) fun x => d5f x.1 x.2.1
noncomputable def a3N : Cp × List Int × Unit → Option Bool := P0 (ks := [.cat cpL, .sl (.int .u8)]) (rs := [.bool]) (fun _ => True) fun _ => true
end Go.Ax.TryP
set_option linter.unusedVariables false
namespace Go.Ax.TryP
open Go.Proofs
noncomputable def p_octet_BigOf_E : AE := AE.of [(5, ty5), (23, ty23), (26, ty26)] []
noncomputable def b0n : Hints := [(5, [4, 15, 16, 17]), (2000000, [4]), (2000001, [4, 15, 16, 17]), (3000000, [2, 3])]
noncomputable def a5B : Code := (Try.f63).body.getD .skip
noncomputable def b4X : Shape := mkS { tmps := pv 4 (.sc (.int .u64) :: pv 10 (.sc (.vec 0 none 1) :: .sc (.int .i64) :: .sc (.int .i64) :: pv 10 [])), mem := [.live [.xs b8 none] (.ro)] } [.int, .nat, .int, .int, .nat, .xs]
abbrev W49 : Type := Int × Nat × Int × Int × Nat × List Int × Unit
noncomputable def N8 (N : Nat) (β : Type) (x : W49) (kn : W49 → Option β) (ke : ((Int × Unit)) → Option β) : Option β :=
 if (x.2.2.2.1 < x.2.2.1) then
  if 0 ≤ x.2.2.2.1 then (
  if x.2.2.2.1 < ((x.2.1 : Nat) : Int) then (
  if (x.2.2.2.1.toNat) < x.2.2.2.2.1 then (
  kn ((ior IntKind.u64 (b1X IntKind.u64 x.1 (8:Int)) (IntKind.u64.wrap (List.getD x.2.2.2.2.2.1 (x.2.2.2.1.toNat) 0))), x.2.1, x.2.2.1, (IntKind.i64.wrap (x.2.2.2.1 + (1:Int))), x.2.2.2.2.1, x.2.2.2.2.2.1, ())) else none) else none) else none
 else
  ke (x.1, ())
noncomputable def b3i : Go' ((Int × Unit)) := fun y K => K (.exit 0) (fSt { tmps := pv 4 (.sc (.int .u64) :: pv 23 []), mem := [] } [.int] y)
noncomputable def a6o (N : Nat) : LT := upd (LT.nil) 5 (C6 b4X N (N8 N) b3i)
theorem b3j (N : Nat) : OkAll p_octet_BigOf_E b0n N (a6o N) (E4 a5B) :=
 d8 (c := d9 5 a5B) (OkAll.nil) (by kernel_rfl) (fun x => by kernel_rfl) (fun β x kn ke => by kernel_rfl)
abbrev X2 : List Kd := [.sl b8]
abbrev X3 : List Kd := [.int .u64, .int .i64]
noncomputable def a4E (N : Nat) (x : List Int × Unit) : Option (Int × Int) :=
 if ((((List.length x.1) : Nat) : Int) < (1:Int)) then
  some ((0:Int), (1:Int))
 else
  if ((((List.length x.1) : Nat) : Int) > (8:Int)) then
   some ((0:Int), (1:Int))
  else
   E1 (N8 N) N ((0:Int), (List.length x.1), (((List.length x.1) : Nat) : Int), (0:Int), (List.length x.1), x.1, ()) fun y1 => (
   some (y1.1, (0:Int)))
theorem b6G : p_octet_BigOf_E.Ok Try.prog := AE.of_ok (all_cons S6 (all_cons a1Y (all_cons w7 b5))) b5
theorem b8b (hE : p_octet_BigOf_E.Ok Try.prog) {g : Ds X2 → Option (Rs X3)} (hg : ∀ x r, g x = some r → ∃ N, a4E N x = some r) : b6 Try.prog 63 ⟨X2, X3, g⟩ :=
 d6 (E := p_octet_BigOf_E) (H := b0n) (L := fun N => a6o N) (c := a5B) (ks := X2) (rs := X3) (F := a4E) hE mix Try.func63 (by kernel_rfl) (fun N => b3j N) (fun _ _ => by kernel_rfl) hg
noncomputable def p_octet_big_E : AE := AE.of [(5, ty5), (23, ty23), (26, ty26)] []
noncomputable def b44 : Hints := [(3, [0, 1, 5, 10, 11]), (2000000, [5]), (2000001, [0, 1, 5, 10, 11]), (3000000, [4])]
noncomputable def a8J : Code := (Try.f62).body.getD .skip
noncomputable def b8e : Shape := mkS { tmps := .sc (.int .u64) :: .sc (.int .i64) :: pv 3 (.sc (.vec 0 none 1) :: pv 4 (.sc (.int .i64) :: .sc (.int .i64) :: pv 15 [])), mem := [.live [.xs b8 none] (.own)] } [.int, .int, .nat, .int, .int, .nat, .xs]
abbrev W50 : Type := Int × Int × Nat × Int × Int × Nat × List Int × Unit
noncomputable def X4 (N : Nat) (β : Type) (x : W50) (kn : W50 → Option β) (ke : W31 → Option β) : Option β :=
 if (x.2.2.2.2.1 < x.2.2.2.1) then
  if (IntKind.i64.wrap ((8:Int) * x.2.2.2.2.1)) < 0 then none else (
  if 0 ≤ (IntKind.i64.wrap ((IntKind.i64.wrap (x.2.1 - (1:Int))) - x.2.2.2.2.1)) then (
  if (IntKind.i64.wrap ((IntKind.i64.wrap (x.2.1 - (1:Int))) - x.2.2.2.2.1)) < ((x.2.2.1 : Nat) : Int) then (
  if ((IntKind.i64.wrap ((IntKind.i64.wrap (x.2.1 - (1:Int))) - x.2.2.2.2.1)).toNat) < x.2.2.2.2.2.1 then (
  kn (x.1, x.2.1, x.2.2.1, x.2.2.2.1, (IntKind.i64.wrap (x.2.2.2.2.1 + (1:Int))), x.2.2.2.2.2.1, (List.set x.2.2.2.2.2.2.1 ((IntKind.i64.wrap ((IntKind.i64.wrap (x.2.1 - (1:Int))) - x.2.2.2.2.1)).toNat) (IntKind.u8.wrap (c2w IntKind.u64 x.1 (IntKind.i64.wrap ((8:Int) * x.2.2.2.2.1))))), ())) else none) else none) else none)
 else
  ke (x.2.2.1, x.2.2.2.2.2.1, x.2.2.2.2.2.2.1, ())
noncomputable def b6K : Go' W31 := fun y K => K (.exit 0) (fSt { tmps := pv 5 (.sc (.vec 0 none 1) :: pv 21 []), mem := [.live [.xs b8 none] (.own)] } [.nat, .nat, .xs] y)
noncomputable def a86 (N : Nat) : LT := upd (LT.nil) 3 (C6 b8e N (X4 N) b6K)
theorem b6L (N : Nat) : OkAll p_octet_big_E b44 N (a86 N) (E4 a8J) :=
 d8 (c := d9 3 a8J) (OkAll.nil) (by kernel_rfl) (fun x => by kernel_rfl) (fun β x kn ke => by kernel_rfl)
abbrev a1q : List Kd := [.int .u64, .int .i64]
abbrev a1r : List Kd := [.sl b8]
noncomputable def a8I (N : Nat) (x : Int × Int × Unit) : Option (List Int) :=
 if 0 ≤ x.2.1 then (
 if x.2.1 = x.2.1 then (
 if x.2.1 * 1 ≤ 281474976710656 then (
 E1 (X4 N) N (x.1, x.2.1, (x.2.1.toNat), (((x.2.1.toNat) : Nat) : Int), (0:Int), (x.2.1.toNat), (List.replicate (x.2.1.toNat) 0), ()) fun y1 => (
 some y1.2.2.1)) else none) else none) else none
theorem b96 : p_octet_big_E.Ok Try.prog := AE.of_ok (all_cons S6 (all_cons a1Y (all_cons w7 b5))) b5
theorem c05 (hE : p_octet_big_E.Ok Try.prog) {g : Ds a1q → Option (Rs a1r)} (hg : ∀ x r, g x = some r → ∃ N, a8I N x = some r) : b6 Try.prog 62 ⟨a1q, a1r, g⟩ :=
 d6 (E := p_octet_big_E) (H := b44) (L := fun N => a86 N) (c := a8J) (ks := a1q) (rs := a1r) (F := a8I) hE mix Try.func62 (by kernel_rfl) (fun N => b6L N) (fun _ _ => by kernel_rfl) hg
noncomputable abbrev a1K : Sig := ⟨[.int .u64, .int .i64], [.sl b8], a26⟩
noncomputable def p_octet_U16_E : AE := AE.of [(23, ty23), (77, ty77)] [(62, a1K)]
noncomputable def c2H : Hints := [(3000000, [2])]
noncomputable def c2I : Code := (Try.f39).body.getD .skip
abbrev a63 : List Kd := [.int .u16]
abbrev a1n : List Kd := [.sl b8]
noncomputable def a8F (N : Nat) (x : Int × Unit) : Option (List Int) :=
 (a26 ((IntKind.u64.wrap x.1), (2:Int), ())).bind fun r1 => (
 some r1)
theorem b93 (e0 : b6 Try.prog 62 a1K) : p_octet_U16_E.Ok Try.prog := AE.of_ok (all_cons a1Y (all_cons c6E b5)) (all_cons ⟨e0, a30⟩ b5)
theorem c02 (hE : p_octet_U16_E.Ok Try.prog) {g : Ds [.int .u16] → Option (Rs a1n)} (hg : ∀ x r, g x = some r → ∃ N, a8F N x = some r) : b6 Try.prog 39 ⟨[.int .u16], a1n, g⟩ :=
 d6 (E := p_octet_U16_E) (H := c2H) (L := fun N => LT.nil) (c := c2I) (ks := a63) (rs := a1n) (F := a8F) hE mix Try.func39 (by kernel_rfl) (fun N => OkAll.nil) (fun _ _ => by kernel_rfl) hg
noncomputable def p_octet_U32_E : AE := AE.of [(22, ty22), (23, ty23)] [(62, a1K)]
noncomputable def c2J : Hints := [(3000000, [2])]
noncomputable def c2K : Code := (Try.f60).body.getD .skip
abbrev a64 : List Kd := [.int .u32]
abbrev a1o : List Kd := [.sl b8]
noncomputable def a8G (N : Nat) (x : Int × Unit) : Option (List Int) :=
 (a26 ((IntKind.u64.wrap x.1), (4:Int), ())).bind fun r1 => (
 some r1)
theorem b94 (e0 : b6 Try.prog 62 a1K) : p_octet_U32_E.Ok Try.prog := AE.of_ok (all_cons c3l (all_cons a1Y b5)) (all_cons ⟨e0, a30⟩ b5)
theorem c03 (hE : p_octet_U32_E.Ok Try.prog) {g : Ds [.int .u32] → Option (Rs a1o)} (hg : ∀ x r, g x = some r → ∃ N, a8G N x = some r) : b6 Try.prog 60 ⟨[.int .u32], a1o, g⟩ :=
 d6 (E := p_octet_U32_E) (H := c2J) (L := fun N => LT.nil) (c := c2K) (ks := a64) (rs := a1o) (F := a8G) hE mix Try.func60 (by kernel_rfl) (fun N => OkAll.nil) (fun _ _ => by kernel_rfl) hg
noncomputable def p_octet_U64_E : AE := AE.of [] [(62, a1K)]
noncomputable def c2L : Hints := [(3000000, [2])]
noncomputable def c2M : Code := (Try.f61).body.getD .skip
abbrev a65 : List Kd := [.int .u64]
abbrev a1p : List Kd := [.sl b8]
noncomputable def a8H (N : Nat) (x : Int × Unit) : Option (List Int) :=
 (a26 (x.1, (8:Int), ())).bind fun r1 => (
 some r1)
theorem b95 (e0 : b6 Try.prog 62 a1K) : p_octet_U64_E.Ok Try.prog := AE.of_ok b5 (all_cons ⟨e0, a30⟩ b5)
theorem c04 (hE : p_octet_U64_E.Ok Try.prog) {g : Ds [.int .u64] → Option (Rs a1p)} (hg : ∀ x r, g x = some r → ∃ N, a8H N x = some r) : b6 Try.prog 61 ⟨[.int .u64], a1p, g⟩ :=
 d6 (E := p_octet_U64_E) (H := c2L) (L := fun N => LT.nil) (c := c2M) (ks := a65) (rs := a1p) (F := a8H) hE mix Try.func61 (by kernel_rfl) (fun N => OkAll.nil) (fun _ _ => by kernel_rfl) hg
noncomputable def p_span_one_E : AE := AE.of [(23, ty23), (25, ty25)] []
noncomputable def c4q : Hints := [(3000000, [2])]
noncomputable def c4r : Code := (Try.f73).body.getD .skip
abbrev a2K : List Kd := [.cat [.int .u64, .int .u64]]
abbrev a8L : List Kd := [.bool]
noncomputable def b0Y (N : Nat) (x : (Int × Int × Unit) × Unit) : Option (Bool) :=
 if (x.1.1 < x.1.2.1) then
  some (decide (x.1.2.1 ≤ (1152921504606846976:Int)))
 else
  some false
theorem c07 : p_span_one_E.Ok Try.prog := AE.of_ok (all_cons a1Y (all_cons b63 b5)) b5
theorem c2O (hE : p_span_one_E.Ok Try.prog) {g : Ds a2K → Option (Rs [.bool])} (hg : ∀ x r, g x = some r → ∃ N, b0Y N x = some r) : b6 Try.prog 73 ⟨a2K, [.bool], g⟩ :=
 d6 (E := p_span_one_E) (H := c4q) (L := fun N => LT.nil) (c := c4r) (ks := a2K) (rs := a8L) (F := b0Y) hE mix Try.func73 (by kernel_rfl) (fun N => OkAll.nil) (fun _ _ => by kernel_rfl) hg
noncomputable abbrev b5x : Sig := ⟨[.cat [.int .u64, .int .u64]], [.bool], b0Q⟩
noncomputable def p_span_May_E : AE := AE.of [(23, ty23), (25, ty25), (104, ty104)] [(73, b5x)]
noncomputable def b7e : Hints := [(2, [0, 5, 6, 7]), (2000000, [0]), (2000001, [0, 5, 6, 7]), (3000000, [2])]
noncomputable def b0o : Code := (Try.f59).body.getD .skip
noncomputable def b99 : Shape := mkS { tmps := .sc (.vec 0 none 2) :: pv 4 (.sc (.vec 0 none 2) :: .sc (.int .i64) :: .sc (.int .i64) :: pv 26 []), mem := [.live [.xs (.int .u64) none] (.ro)] } [.nat, .nat, .int, .int, .nat, .xs]
abbrev W51 : Type := Nat × Nat × Int × Int × Nat × List Int × Unit
abbrev W52 : Type := (Bool × Unit) ⊕ (Nat × Nat × List Int × Unit)
noncomputable def a2J (N : Nat) (β : Type) (x : W51) (kn : W51 → Option β) (ke : W52 → Option β) : Option β :=
 if (x.2.2.2.1 < x.2.2.1) then
  if 0 ≤ x.2.2.2.1 then (
  if x.2.2.2.1 < ((x.2.1 : Nat) : Int) then (
  if ((x.2.2.2.1.toNat) * 2) + 2 ≤ x.2.2.2.2.1 then (
  (b0Q (((List.getD (List.take 1 (List.take 2 (List.drop ((x.2.2.2.1.toNat) * 2) x.2.2.2.2.2.1))) 0 0), (List.getD (List.drop 1 (List.take 2 (List.drop ((x.2.2.2.1.toNat) * 2) x.2.2.2.2.2.1))) 0 0), ()), ())).bind fun r1 => (
  if (¬ (r1 = true)) then
   ke (.inl (false, ()))
  else
   if (x.2.2.2.1 > (0:Int)) then
    if 0 ≤ (IntKind.i64.wrap (x.2.2.2.1 - (1:Int))) then (
    if (IntKind.i64.wrap (x.2.2.2.1 - (1:Int))) < ((x.1 : Nat) : Int) then (
    if (1 + (((IntKind.i64.wrap (x.2.2.2.1 - (1:Int))).toNat) * 2)) < x.2.2.2.2.1 then (
    if ((List.getD (List.take 2 (List.drop ((x.2.2.2.1.toNat) * 2) x.2.2.2.2.2.1)) 0 0) ≤ (List.getD x.2.2.2.2.2.1 (1 + (((IntKind.i64.wrap (x.2.2.2.1 - (1:Int))).toNat) * 2)) 0)) then
     ke (.inl (false, ()))
    else
     kn (x.1, x.2.1, x.2.2.1, (IntKind.i64.wrap (x.2.2.2.1 + (1:Int))), x.2.2.2.2.1, x.2.2.2.2.2.1, ())) else none) else none) else none
   else
    kn (x.1, x.2.1, x.2.2.1, (IntKind.i64.wrap (x.2.2.2.1 + (1:Int))), x.2.2.2.2.1, x.2.2.2.2.2.1, ()))) else none) else none) else none
 else
  ke (.inr (x.1, x.2.2.2.2.1, x.2.2.2.2.2.1, ()))
noncomputable def b8g : Go' W52 := fun y K => match y with
 | .inl y => K .ret (fSt { tmps := V :: V :: .sc (.bool) :: pv 31 [], mem := [] } [.bool] y)
 | .inr y => K (.exit 0) (fSt { tmps := .sc (.vec 0 none 2) :: pv 33 [], mem := [.live [.xs (.int .u64) none] (.ro)] } [.nat, .nat, .xs] y)
noncomputable def b0p (N : Nat) : LT := upd (LT.nil) 2 (C6 b99 N (a2J N) b8g)
theorem b8h (N : Nat) : OkAll p_span_May_E b7e N (b0p N) (E4 b0o) :=
 d8 (c := d9 2 b0o) (OkAll.nil) (by kernel_rfl) (fun x => by kernel_rfl) (fun β x kn ke => by kernel_rfl)
abbrev a2I : List Kd := [.sla (.int .u64) 2]
abbrev a8K : List Kd := [.bool]
noncomputable def b0X (N : Nat) (x : List Int × Unit) : Option (Bool) :=
 E1 (a2J N) N ((List.length x.1 / 2), (List.length x.1 / 2), (((List.length x.1 / 2) : Nat) : Int), (0:Int), (List.length x.1), x.1, ()) fun y => (match y with
 | .inl y2 => (
  some y2.1)
 | .inr y3 => (
  some (decide (((y3.1 : Nat) : Int) ≤ (64:Int)))))
theorem c06 (e0 : b6 Try.prog 73 b5x) : p_span_May_E.Ok Try.prog := AE.of_ok (all_cons a1Y (all_cons b63 (all_cons c7G b5))) (all_cons ⟨e0, b9c⟩ b5)
theorem c2N (hE : p_span_May_E.Ok Try.prog) {g : Ds a2I → Option (Rs [.bool])} (hg : ∀ x r, g x = some r → ∃ N, b0X N x = some r) : b6 Try.prog 59 ⟨a2I, [.bool], g⟩ :=
 d6 (E := p_span_May_E) (H := b7e) (L := fun N => b0p N) (c := b0o) (ks := a2I) (rs := a8K) (F := b0X) hE mix Try.func59 (by kernel_rfl) (fun N => b8h N) (fun _ _ => by kernel_rfl) hg
noncomputable def p_capsule_Chunks_E : AE := AE.of [(5, ty5), (26, ty26), (38, ty38)] [(14, j5)]
noncomputable def a6a : Hints := [(9, [0, 1, 6, 7]), (2000000, [0, 1]), (2000001, [6]), (2000002, [0, 1, 6, 7]), (3000000, [4, 5]), (7000009, [6, 0])]
noncomputable def a2q : Code := (Try.f10).body.getD .skip
noncomputable def a91 : Shape := mkS { tmps := .sc (.vec 0 none 1) :: .sc (.int .i64) :: pv 4 (.sc (.vec 1 none 1) :: .sc (.int .i64) :: pv 40 []), mem := [.live [.xs b8 none] (.ro), .live [.rw b8] (.own)] } [.nat, .int, .nat, .int, .nat, .xs, .xss]
abbrev W53 : Type := Nat × Int × Nat × Int × Nat × List Int × List (List Int) × Unit
abbrev W54 : Type := Nat × List (List Int) × Unit
noncomputable def E7 (N : Nat) (β : Type) (x : W53) (kn : W53 → Option β) (ke : W54 → Option β) : Option β :=
 if (x.2.2.2.1 < ((x.1 : Nat) : Int)) then
  if 0 ≤ (if ((x.1 : Nat) : Int) < (IntKind.i64.wrap (x.2.2.2.1 + x.2.1)) then ((x.1 : Nat) : Int) else (IntKind.i64.wrap (x.2.2.2.1 + x.2.1))) then (
  if (if ((x.1 : Nat) : Int) < (IntKind.i64.wrap (x.2.2.2.1 + x.2.1)) then ((x.1 : Nat) : Int) else (IntKind.i64.wrap (x.2.2.2.1 + x.2.1))) ≤ ((x.1 : Nat) : Int) then (
  if 0 ≤ x.2.2.2.1 then (
  if x.2.2.2.1 ≤ ((((if ((x.1 : Nat) : Int) < (IntKind.i64.wrap (x.2.2.2.1 + x.2.1)) then ((x.1 : Nat) : Int) else (IntKind.i64.wrap (x.2.2.2.1 + x.2.1))).toNat) : Nat) : Int) then (
  (q9 ([(List.take (c6x ((if ((x.1 : Nat) : Int) < (IntKind.i64.wrap (x.2.2.2.1 + x.2.1)) then ((x.1 : Nat) : Int) else (IntKind.i64.wrap (x.2.2.2.1 + x.2.1))).toNat) (x.2.2.2.1.toNat)) (List.drop (x.2.2.2.1.toNat) x.2.2.2.2.2.1))], ())).bind fun r1 => (
  if (x.2.2.1 + 1) * 24 ≤ 140737488355328 then (
  kn (x.1, x.2.1, (x.2.2.1 + 1), (IntKind.i64.wrap (x.2.2.2.1 + x.2.1)), x.2.2.2.2.1, x.2.2.2.2.2.1, (x.2.2.2.2.2.2.1 ++ [r1]), ())) else none)) else none) else none) else none) else none
 else
  ke (x.2.2.1, x.2.2.2.2.2.2.1, ())
noncomputable def a9h : Go' W54 := fun y K => K (.exit 1) (fSt { tmps := pv 6 (.sc (.vec 0 none 1) :: pv 41 []), mem := [.live [.rw b8] (.own)] } [.nat, .xss] y)
noncomputable def a3O (N : Nat) : LT := upd (LT.nil) 9 (C6 a91 N (E7 N) a9h)
theorem a9i (N : Nat) : OkAll p_capsule_Chunks_E a6a N (a3O N) (E4 a2q) :=
 d8 (c := d9 9 a2q) (OkAll.nil) (by kernel_rfl) (fun x => by kernel_rfl) (fun β x kn ke => by kernel_rfl)
abbrev I5 : List Kd := [.sl b8, .int .i64]
abbrev I6 : List Kd := [.sls b8, .int .i64]
noncomputable def a1x (N : Nat) (x : List Int × Int × Unit) : Option (List (List Int) × Int) :=
 if (x.2.1 < (1:Int)) then
  some ([], (1:Int))
 else
  if (x.2.1 > (1024:Int)) then
   some ([], (1:Int))
  else
   if ((((List.length x.1) : Nat) : Int) = (0:Int)) then
    some ([], (4:Int))
   else
    if x.2.1 = 0 then none else (
    if ((IntKind.i64.wrap (Int.tdiv (IntKind.i64.wrap ((((List.length x.1) : Nat) : Int) - (1:Int))) x.2.1)) ≥ (256:Int)) then
     some ([], (3:Int))
    else
     E1 (E7 N) N ((List.length x.1), x.2.1, 0, (0:Int), (List.length x.1), x.1, [], ()) fun y2 => (
     some (y2.2.1, (0:Int))))
theorem b1b (e0 : b6 Try.prog 14 j5) : p_capsule_Chunks_E.Ok Try.prog := AE.of_ok (all_cons S6 (all_cons w7 (all_cons a1Z b5))) (all_cons ⟨e0, x8⟩ b5)
theorem b2D (hE : p_capsule_Chunks_E.Ok Try.prog) {g : Ds I5 → Option (Rs I6)} (hg : ∀ x r, g x = some r → ∃ N, a1x N x = some r) : b6 Try.prog 10 ⟨I5, I6, g⟩ :=
 d6 (E := p_capsule_Chunks_E) (H := a6a) (L := fun N => a3O N) (c := a2q) (ks := I5) (rs := I6) (F := a1x) hE mix Try.func10 (by kernel_rfl) (fun N => a9i N) (fun _ _ => by kernel_rfl) hg
noncomputable def p_capsule_spoken_1_E : AE := AE.of [] []
noncomputable def b1d : Hints := [(3000000, [2])]
noncomputable def b1e : Code := (Try.f58).body.getD .skip
abbrev a0f : List Kd := [.int .i64]
abbrev a0g : List Kd := [.bool]
noncomputable def Y6 (N : Nat) (x : Int × Unit) : Option (Bool) :=
 if (x.1 ≥ (0:Int)) then
  some (decide (x.1 < (16:Int)))
 else
  some false
theorem a9j : p_capsule_spoken_1_E.Ok Try.prog := AE.of_ok b5 b5
theorem a92 (hE : p_capsule_spoken_1_E.Ok Try.prog) {g : Ds [.int .i64] → Option (Rs [.bool])} (hg : ∀ x r, g x = some r → ∃ N, Y6 N x = some r) : b6 Try.prog 58 ⟨[.int .i64], [.bool], g⟩ :=
 d6 (E := p_capsule_spoken_1_E) (H := b1d) (L := fun N => LT.nil) (c := b1e) (ks := a0f) (rs := a0g) (F := Y6) hE mix Try.func58 (by kernel_rfl) (fun N => OkAll.nil) (fun _ _ => by kernel_rfl) hg
noncomputable abbrev a2d : Sig := ⟨[.int .i64], [.bool], L7⟩
noncomputable abbrev b5w : Sig := ⟨[.sla (.int .u64) 2], [.bool], b0P⟩
noncomputable def p_capsule_spoken_E : AE := AE.of [(3, ty3), (25, ty25), (26, ty26), (28, ty28), (104, ty104)] [(58, a2d), (59, b5w)]
noncomputable def b4g : Hints := [(3000000, [2])]
noncomputable def b4h : Code := (Try.f37).body.getD .skip
abbrev I8 : List Kd := [.cat [.int .i64, .int .i64, .int .u32, .int .u32, .int .u64, .int .u64, .sl b8, .sl b8, .sl b8, .sl b8]]
abbrev a1Q : List Kd := [.bool]
noncomputable def a1y (N : Nat) (x : (Int × Int × Int × Int × Int × Int × List Int × List Int × List Int × List Int × Unit) × Unit) : Option (Bool) :=
 (L7 (x.1.1, ())).bind fun r1 => (
 if (r1 = true) then
  (L7 (x.1.2.1, ())).bind fun r2 => (
  if (r2 = true) then
   if (x.1.1 ≠ x.1.2.1) then
    (b0P ((x.1.2.2.2.2.1 :: (x.1.2.2.2.2.2.1 :: [])), ())).bind fun r3 => (
    if (r3 = true) then
     if (((List.length x.1.2.2.2.2.2.2.1 : Nat) : Int) ≥ (1:Int)) then
      some (decide (((List.length x.1.2.2.2.2.2.2.1 : Nat) : Int) ≤ (68:Int)))
     else
      some false
    else
     some false)
   else
    some false
  else
   some false)
 else
  some false)
theorem b1f (e0 : b6 Try.prog 58 a2d) (e1 : b6 Try.prog 59 b5w) : p_capsule_spoken_E.Ok Try.prog := AE.of_ok (all_cons a2O (all_cons b63 (all_cons w7 (all_cons a3n (all_cons c7G b5))))) (all_cons ⟨e0, a76⟩ (all_cons ⟨e1, b9b⟩ b5))
theorem b2H (hE : p_capsule_spoken_E.Ok Try.prog) {g : Ds I8 → Option (Rs [.bool])} (hg : ∀ x r, g x = some r → ∃ N, a1y N x = some r) : b6 Try.prog 37 ⟨I8, [.bool], g⟩ :=
 d6 (E := p_capsule_spoken_E) (H := b4g) (L := fun N => LT.nil) (c := b4h) (ks := I8) (rs := a1Q) (F := a1y) hE mix Try.func37 (by kernel_rfl) (fun N => OkAll.nil) (fun _ _ => by kernel_rfl) hg
noncomputable abbrev b2f : Sig := ⟨[.int .u32], [.sl b8], a5a⟩
noncomputable abbrev b2g : Sig := ⟨[.int .u64], [.sl b8], a5b⟩
noncomputable abbrev a4V : Sig := ⟨[.int .u16], [.sl b8], a49⟩
noncomputable def p_capsule_said_E : AE := AE.of [(3, ty3), (5, ty5), (22, ty22), (23, ty23), (25, ty25), (26, ty26), (28, ty28), (38, ty38), (77, ty77)] [(60, b2f), (61, b2g), (39, a4V), (14, j5)]
noncomputable def b7K : Hints := [(3000000, [2])]
noncomputable def b7L : Code := (Try.f38).body.getD .skip
abbrev P8 : List Kd := [.cat [.int .i64, .int .i64, .int .u32, .int .u32, .int .u64, .int .u64, .sl b8, .sl b8, .sl b8, .sl b8]]
abbrev P9 : List Kd := [.sl b8]
noncomputable def a3t (N : Nat) (x : (Int × Int × Int × Int × Int × Int × List Int × List Int × List Int × List Int × Unit) × Unit) : Option (List Int) :=
 (a5a (x.1.2.2.1, ())).bind fun r1 => (
 (a5a (x.1.2.2.2.1, ())).bind fun r2 => (
 (a5b (x.1.2.2.2.2.1, ())).bind fun r3 => (
 (a5b (x.1.2.2.2.2.2.1, ())).bind fun r4 => (
 (a49 ((IntKind.u16.wrap ((List.length x.1.2.2.2.2.2.2.1 : Nat) : Int)), ())).bind fun r5 => (
 (q9 ([(List.set (List.set (List.replicate 2 0) 0 (IntKind.u8.wrap x.1.1)) 1 (IntKind.u8.wrap x.1.2.1)), r1, r2, r3, r4, r5, x.1.2.2.2.2.2.2.1], ())).bind fun r6 => (
 some r6))))))
theorem b4f (e0 : b6 Try.prog 60 b2f) (e1 : b6 Try.prog 61 b2g) (e2 : b6 Try.prog 39 a4V) (e3 : b6 Try.prog 14 j5) : p_capsule_said_E.Ok Try.prog := AE.of_ok (all_cons a2O (all_cons S6 (all_cons c3l (all_cons a1Y (all_cons b63 (all_cons w7 (all_cons a3n (all_cons a1Z (all_cons c6E b5))))))))) (all_cons ⟨e0, b7A⟩ (all_cons ⟨e1, b7B⟩ (all_cons ⟨e2, a8X⟩ (all_cons ⟨e3, x8⟩ b5))))
theorem b58 (hE : p_capsule_said_E.Ok Try.prog) {g : Ds P8 → Option (Rs P9)} (hg : ∀ x r, g x = some r → ∃ N, a3t N x = some r) : b6 Try.prog 38 ⟨P8, P9, g⟩ :=
 d6 (E := p_capsule_said_E) (H := b7K) (L := fun N => LT.nil) (c := b7L) (ks := P8) (rs := P9) (F := a3t) hE mix Try.func38 (by kernel_rfl) (fun N => OkAll.nil) (fun _ _ => by kernel_rfl) hg
noncomputable abbrev T9 : Sig := ⟨[.cat [.int .i64, .int .i64, .int .u32, .int .u32, .int .u64, .int .u64, .sl b8, .sl b8, .sl b8, .sl b8]], [.bool], U5⟩
noncomputable abbrev a0Y : Sig := ⟨[.cat [.int .i64, .int .i64, .int .u32, .int .u32, .int .u64, .int .u64, .sl b8, .sl b8, .sl b8, .sl b8]], [.sl b8], a04⟩
noncomputable def p_capsule_Said_E : AE := AE.of [(28, ty28)] [(37, T9), (38, a0Y)]
noncomputable def b7I : Hints := [(3000000, [2])]
noncomputable def b7J : Code := (Try.f11).body.getD .skip
abbrev P6 : List Kd := [.cat [.int .i64, .int .i64, .int .u32, .int .u32, .int .u64, .int .u64, .sl b8, .sl b8, .sl b8, .sl b8]]
abbrev P7 : List Kd := [.sl b8]
noncomputable def a3s (N : Nat) (x : (Int × Int × Int × Int × Int × Int × List Int × List Int × List Int × List Int × Unit) × Unit) : Option (List Int) :=
 (U5 ((x.1.1, x.1.2.1, x.1.2.2.1, x.1.2.2.2.1, x.1.2.2.2.2.1, x.1.2.2.2.2.2.1, x.1.2.2.2.2.2.2.1, x.1.2.2.2.2.2.2.2.1, x.1.2.2.2.2.2.2.2.2.1, x.1.2.2.2.2.2.2.2.2.2.1, ()), ())).bind fun r1 => (
 if (¬ (r1 = true)) then
  some []
 else
  (a04 ((x.1.1, x.1.2.1, x.1.2.2.1, x.1.2.2.2.1, x.1.2.2.2.2.1, x.1.2.2.2.2.2.1, x.1.2.2.2.2.2.2.1, x.1.2.2.2.2.2.2.2.1, x.1.2.2.2.2.2.2.2.2.1, x.1.2.2.2.2.2.2.2.2.2.1, ()), ())).bind fun r2 => (
  some r2))
theorem b4c (e0 : b6 Try.prog 37 T9) (e1 : b6 Try.prog 38 a0Y) : p_capsule_Said_E.Ok Try.prog := AE.of_ok (all_cons a3n b5) (all_cons ⟨e0, a3G⟩ (all_cons ⟨e1, a41⟩ b5))
theorem b53 (hE : p_capsule_Said_E.Ok Try.prog) {g : Ds P6 → Option (Rs P7)} (hg : ∀ x r, g x = some r → ∃ N, a3s N x = some r) : b6 Try.prog 11 ⟨P6, P7, g⟩ :=
 d6 (E := p_capsule_Said_E) (H := b7I) (L := fun N => LT.nil) (c := b7J) (ks := P6) (rs := P7) (F := a3s) hE mix Try.func11 (by kernel_rfl) (fun N => OkAll.nil) (fun _ _ => by kernel_rfl) hg
noncomputable abbrev a3W : Sig := ⟨[.sl b8, .int .i64], [.sls b8, .int .i64], a1u⟩
noncomputable abbrev a6v : Sig := ⟨[.cat [.int .i64, .int .i64, .int .u32, .int .u32, .int .u64, .int .u64, .sl b8, .sl b8, .sl b8, .sl b8]], [.sl b8], a3p⟩
noncomputable abbrev a71 : Sig := ⟨[.sl b8, .sl b8], [.bool], a2l⟩
noncomputable def p_law23_live_E : AE := AE.of [(3, ty3), (5, ty5), (22, ty22), (23, ty23), (25, ty25), (26, ty26), (28, ty28), (38, ty38)] [(10, a3W), (11, a6v), (12, a71)]
noncomputable def c00 : Hints := [(3000000, [0])]
noncomputable def c01 : Code := (Try.f4).body.getD .skip
abbrev b0l : List Kd := []
abbrev b0m : List Kd := [.bool]
noncomputable def a6n (N : Nat) (x : Unit) : Option (Bool) :=
 (a1u ((List.set (List.set (List.set (List.set (List.set (List.replicate 5 0) 0 (1:Int)) 1 (2:Int)) 2 (3:Int)) 3 (4:Int)) 4 (5:Int)), (2:Int), ())).bind fun r1 => (
 (a3p (((List.getD (List.set [0] 0 (1:Int)) 0 0), (List.getD (List.set [0] 0 (2:Int)) 0 0), (List.getD (List.set [0] 0 (3:Int)) 0 0), (List.getD (List.set [0] 0 (4:Int)) 0 0), (List.getD (List.take 1 (List.set (List.set (List.replicate 2 0) 0 (5:Int)) 1 (6:Int))) 0 0), (List.getD (List.drop 1 (List.set (List.set (List.replicate 2 0) 0 (5:Int)) 1 (6:Int))) 0 0), (List.set (List.replicate 1 0) 0 (7:Int)), [], [], [], ()), ())).bind fun r2 => (
 if (((List.length r1.1 : Nat) : Int) = (3:Int)) then
  if (r1.2 = (0:Int)) then
   if 0 ≤ (2:Int) then (
   if (2:Int) < ((List.length r1.1 : Nat) : Int) then (
   (a2l ((List.getD r1.1 2 []), (List.set (List.replicate 1 0) 0 (5:Int)), ())).bind fun r3 => (
   if (r3 = true) then
    if ((((List.length r2) : Nat) : Int) = (29:Int)) then
     if 0 ≤ (0:Int) then (
     if (0:Int) < (((List.length r2) : Nat) : Int) then (
     if 0 < (List.length r2) then (
     if ((List.getD r2 0 0) = (1:Int)) then
      if 0 ≤ (5:Int) then (
      if (5:Int) < (((List.length r2) : Nat) : Int) then (
      if 5 < (List.length r2) then (
      if ((List.getD r2 5 0) = (3:Int)) then
       if 0 ≤ (28:Int) then (
       if (28:Int) < (((List.length r2) : Nat) : Int) then (
       if 28 < (List.length r2) then (
       some (decide ((List.getD r2 28 0) = (7:Int)))) else none) else none) else none
      else
       some false) else none) else none) else none
     else
      some false) else none) else none) else none
    else
     some false
   else
    some false)) else none) else none
  else
   some false
 else
  some false))
theorem b8a (e0 : b6 Try.prog 10 a3W) (e1 : b6 Try.prog 11 a6v) (e2 : b6 Try.prog 12 a71) : p_law23_live_E.Ok Try.prog := AE.of_ok (all_cons a2O (all_cons S6 (all_cons c3l (all_cons a1Y (all_cons b63 (all_cons w7 (all_cons a3n (all_cons a1Z b5)))))))) (all_cons ⟨e0, a9K⟩ (all_cons ⟨e1, b2q⟩ (all_cons ⟨e2, b3P⟩ b5)))
theorem b90 (hE : p_law23_live_E.Ok Try.prog) {g : Ds [] → Option (Rs [.bool])} (hg : ∀ x r, g x = some r → ∃ N, a6n N x = some r) : b6 Try.prog 4 ⟨[], [.bool], g⟩ :=
 d6 (E := p_law23_live_E) (H := c00) (L := fun N => LT.nil) (c := c01) (ks := b0l) (rs := b0m) (F := a6n) hE mix Try.func4 (by kernel_rfl) (fun N => OkAll.nil) (fun _ _ => by kernel_rfl) hg
noncomputable def p_law23_big_E : AE := AE.of [(26, ty26), (28, ty28)] []
noncomputable def c2F : Hints := [(3000000, [2])]
noncomputable def c2G : Code := (Try.f5).body.getD .skip
abbrev a1l : List Kd := [.cat [.int .i64, .int .i64, .int .u32, .int .u32, .int .u64, .int .u64, .sl b8, .sl b8, .sl b8, .sl b8]]
abbrev a60 : List Kd := [.bool]
noncomputable def a5A (N : Nat) (x : (Int × Int × Int × Int × Int × Int × List Int × List Int × List Int × List Int × Unit) × Unit) : Option (Bool) :=
 if (((List.length x.1.2.2.2.2.2.2.1 : Nat) : Int) > (9000:Int)) then
  some true
 else
  if (((List.length x.1.2.2.2.2.2.2.2.1 : Nat) : Int) > (9000:Int)) then
   some true
  else
   if (((List.length x.1.2.2.2.2.2.2.2.2.1 : Nat) : Int) > (9000:Int)) then
    some true
   else
    some (decide (((List.length x.1.2.2.2.2.2.2.2.2.2.1 : Nat) : Int) > (9000:Int)))
theorem b9Z : p_law23_big_E.Ok Try.prog := AE.of_ok (all_cons w7 (all_cons a3n b5)) b5
theorem c0Z (hE : p_law23_big_E.Ok Try.prog) {g : Ds a1l → Option (Rs [.bool])} (hg : ∀ x r, g x = some r → ∃ N, a5A N x = some r) : b6 Try.prog 5 ⟨a1l, [.bool], g⟩ :=
 d6 (E := p_law23_big_E) (H := c2F) (L := fun N => LT.nil) (c := c2G) (ks := a1l) (rs := a60) (F := a5A) hE mix Try.func5 (by kernel_rfl) (fun N => OkAll.nil) (fun _ _ => by kernel_rfl) hg
noncomputable def p_capsule_worded_E : AE := AE.of [(26, ty26), (28, ty28)] [(37, T9)]
noncomputable def b4i : Hints := [(3000000, [2])]
noncomputable def b4j : Code := (Try.f36).body.getD .skip
abbrev I9 : List Kd := [.cat [.int .i64, .int .i64, .int .u32, .int .u32, .int .u64, .int .u64, .sl b8, .sl b8, .sl b8, .sl b8]]
abbrev a1R : List Kd := [.bool]
noncomputable def V3 (N : Nat) (x : (Int × Int × Int × Int × Int × Int × List Int × List Int × List Int × List Int × Unit) × Unit) : Option (Bool) :=
 (U5 ((x.1.1, x.1.2.1, x.1.2.2.1, x.1.2.2.2.1, x.1.2.2.2.2.1, x.1.2.2.2.2.2.1, x.1.2.2.2.2.2.2.1, x.1.2.2.2.2.2.2.2.1, x.1.2.2.2.2.2.2.2.2.1, x.1.2.2.2.2.2.2.2.2.2.1, ()), ())).bind fun r1 => (
 if (r1 = true) then
  if (((List.length x.1.2.2.2.2.2.2.2.1 : Nat) : Int) = (1088:Int)) then
   if ((IntKind.i64.wrap (((List.length x.1.2.2.2.2.2.2.2.2.1 : Nat) : Int) - (32:Int))) ≥ (1:Int)) then
    some (decide ((IntKind.i64.wrap (((List.length x.1.2.2.2.2.2.2.2.2.1 : Nat) : Int) - (32:Int))) ≤ (256:Int)))
   else
    some false
  else
   some false
 else
  some false)
theorem b1g (e0 : b6 Try.prog 37 T9) : p_capsule_worded_E.Ok Try.prog := AE.of_ok (all_cons w7 (all_cons a3n b5)) (all_cons ⟨e0, a3G⟩ b5)
theorem b2I (hE : p_capsule_worded_E.Ok Try.prog) {g : Ds I9 → Option (Rs [.bool])} (hg : ∀ x r, g x = some r → ∃ N, V3 N x = some r) : b6 Try.prog 36 ⟨I9, [.bool], g⟩ :=
 d6 (E := p_capsule_worded_E) (H := b4i) (L := fun N => LT.nil) (c := b4j) (ks := I9) (rs := a1R) (F := V3) hE mix Try.func36 (by kernel_rfl) (fun N => OkAll.nil) (fun _ _ => by kernel_rfl) hg
noncomputable abbrev U0 : Sig := ⟨[.cat [.int .i64, .int .i64, .int .u32, .int .u32, .int .u64, .int .u64, .sl b8, .sl b8, .sl b8, .sl b8]], [.bool], U6⟩
noncomputable def p_capsule_Check_E : AE := AE.of [(26, ty26), (28, ty28)] [(36, U0)]
noncomputable def b5Z : Hints := [(3000000, [2])]
noncomputable def b50 : Code := (Try.f13).body.getD .skip
abbrev M2 : List Kd := [.cat [.int .i64, .int .i64, .int .u32, .int .u32, .int .u64, .int .u64, .sl b8, .sl b8, .sl b8, .sl b8]]
abbrev a2p : List Kd := [.int .i64]
noncomputable def a0d (N : Nat) (x : (Int × Int × Int × Int × Int × Int × List Int × List Int × List Int × List Int × Unit) × Unit) : Option (Int) :=
 (U6 ((x.1.1, x.1.2.1, x.1.2.2.1, x.1.2.2.2.1, x.1.2.2.2.2.1, x.1.2.2.2.2.2.1, x.1.2.2.2.2.2.2.1, x.1.2.2.2.2.2.2.2.1, x.1.2.2.2.2.2.2.2.2.1, x.1.2.2.2.2.2.2.2.2.2.1, ()), ())).bind fun r1 => (
 if (¬ (r1 = true)) then
  some (230:Int)
 else
  if (((List.length x.1.2.2.2.2.2.2.2.2.2.1 : Nat) : Int) ≠ (3309:Int)) then
   some (230:Int)
  else
   some (0:Int))
theorem b2C (e0 : b6 Try.prog 36 U0) : p_capsule_Check_E.Ok Try.prog := AE.of_ok (all_cons w7 (all_cons a3n b5)) (all_cons ⟨e0, a3H⟩ b5)
theorem b39 (hE : p_capsule_Check_E.Ok Try.prog) {g : Ds M2 → Option (Rs [.int .i64])} (hg : ∀ x r, g x = some r → ∃ N, a0d N x = some r) : b6 Try.prog 13 ⟨M2, [.int .i64], g⟩ :=
 d6 (E := p_capsule_Check_E) (H := b5Z) (L := fun N => LT.nil) (c := b50) (ks := M2) (rs := a2p) (F := a0d) hE mix Try.func13 (by kernel_rfl) (fun N => OkAll.nil) (fun _ _ => by kernel_rfl) hg
noncomputable def p_capsule_inner_E : AE := AE.of [(3, ty3), (26, ty26), (28, ty28), (38, ty38), (77, ty77)] [(38, a0Y), (39, a4V), (14, j5)]
noncomputable def b56 : Hints := [(3000000, [2])]
noncomputable def b57 : Code := (Try.f15).body.getD .skip
abbrev M5 : List Kd := [.cat [.int .i64, .int .i64, .int .u32, .int .u32, .int .u64, .int .u64, .sl b8, .sl b8, .sl b8, .sl b8]]
abbrev M6 : List Kd := [.sl b8]
noncomputable def a2t (N : Nat) (x : (Int × Int × Int × Int × Int × Int × List Int × List Int × List Int × List Int × Unit) × Unit) : Option (List Int) :=
 (a04 ((x.1.1, x.1.2.1, x.1.2.2.1, x.1.2.2.2.1, x.1.2.2.2.2.1, x.1.2.2.2.2.2.1, x.1.2.2.2.2.2.2.1, x.1.2.2.2.2.2.2.2.1, x.1.2.2.2.2.2.2.2.2.1, x.1.2.2.2.2.2.2.2.2.2.1, ()), ())).bind fun r1 => (
 (a49 ((IntKind.u16.wrap ((List.length x.1.2.2.2.2.2.2.2.2.1 : Nat) : Int)), ())).bind fun r2 => (
 (q9 ([r1, x.1.2.2.2.2.2.2.2.1, r2, x.1.2.2.2.2.2.2.2.2.1], ())).bind fun r3 => (
 some r3)))
theorem b2G (e0 : b6 Try.prog 38 a0Y) (e1 : b6 Try.prog 39 a4V) (e2 : b6 Try.prog 14 j5) : p_capsule_inner_E.Ok Try.prog := AE.of_ok (all_cons a2O (all_cons w7 (all_cons a3n (all_cons a1Z (all_cons c6E b5))))) (all_cons ⟨e0, a41⟩ (all_cons ⟨e1, a8X⟩ (all_cons ⟨e2, x8⟩ b5)))
theorem b4e (hE : p_capsule_inner_E.Ok Try.prog) {g : Ds M5 → Option (Rs M6)} (hg : ∀ x r, g x = some r → ∃ N, a2t N x = some r) : b6 Try.prog 15 ⟨M5, M6, g⟩ :=
 d6 (E := p_capsule_inner_E) (H := b56) (L := fun N => LT.nil) (c := b57) (ks := M5) (rs := M6) (F := a2t) hE mix Try.func15 (by kernel_rfl) (fun N => OkAll.nil) (fun _ _ => by kernel_rfl) hg
noncomputable abbrev Z2 : Sig := ⟨[.cat [.int .i64, .int .i64, .int .u32, .int .u32, .int .u64, .int .u64, .sl b8, .sl b8, .sl b8, .sl b8]], [.sl b8], a0b⟩
noncomputable def p_capsule_Words_E : AE := AE.of [(5, ty5), (26, ty26), (28, ty28), (38, ty38)] [(36, U0), (15, Z2), (14, j5)]
noncomputable def b54 : Hints := [(3000000, [2])]
noncomputable def b55 : Code := (Try.f9).body.getD .skip
abbrev M3 : List Kd := [.cat [.int .i64, .int .i64, .int .u32, .int .u32, .int .u64, .int .u64, .sl b8, .sl b8, .sl b8, .sl b8]]
abbrev M4 : List Kd := [.sl b8]
noncomputable def a0e (N : Nat) (x : (Int × Int × Int × Int × Int × Int × List Int × List Int × List Int × List Int × Unit) × Unit) : Option (List Int) :=
 (U6 ((x.1.1, x.1.2.1, x.1.2.2.1, x.1.2.2.2.1, x.1.2.2.2.2.1, x.1.2.2.2.2.2.1, x.1.2.2.2.2.2.2.1, x.1.2.2.2.2.2.2.2.1, x.1.2.2.2.2.2.2.2.2.1, x.1.2.2.2.2.2.2.2.2.2.1, ()), ())).bind fun r1 => (
 if (¬ (r1 = true)) then
  some []
 else
  if 0 < 14 then (
  (a0b ((x.1.1, x.1.2.1, x.1.2.2.1, x.1.2.2.2.1, x.1.2.2.2.2.1, x.1.2.2.2.2.2.1, x.1.2.2.2.2.2.2.1, x.1.2.2.2.2.2.2.2.1, x.1.2.2.2.2.2.2.2.2.1, x.1.2.2.2.2.2.2.2.2.2.1, ()), ())).bind fun r2 => (
  (q9 ([(List.set (List.set (List.set (List.set (List.set (List.set (List.set (List.set (List.set (List.set (List.set (List.set (List.set (List.set (List.replicate 14 0) 0 (108:Int)) 1 (105:Int)) 2 (118:Int)) 3 (101:Int)) 4 (114:Int)) 5 (121:Int)) 6 (32:Int)) 7 (99:Int)) 8 (97:Int)) 9 (112:Int)) 10 (115:Int)) 11 (117:Int)) 12 (108:Int)) 13 (101:Int)), r2], ())).bind fun r3 => (
  some r3))) else none)
theorem b2F (e0 : b6 Try.prog 36 U0) (e1 : b6 Try.prog 15 Z2) (e2 : b6 Try.prog 14 j5) : p_capsule_Words_E.Ok Try.prog := AE.of_ok (all_cons S6 (all_cons w7 (all_cons a3n (all_cons a1Z b5)))) (all_cons ⟨e0, a3H⟩ (all_cons ⟨e1, a4k⟩ (all_cons ⟨e2, x8⟩ b5)))
theorem b4d (hE : p_capsule_Words_E.Ok Try.prog) {g : Ds M3 → Option (Rs M4)} (hg : ∀ x r, g x = some r → ∃ N, a0e N x = some r) : b6 Try.prog 9 ⟨M3, M4, g⟩ :=
 d6 (E := p_capsule_Words_E) (H := b54) (L := fun N => LT.nil) (c := b55) (ks := M3) (rs := M4) (F := a0e) hE mix Try.func9 (by kernel_rfl) (fun N => OkAll.nil) (fun _ _ => by kernel_rfl) hg
noncomputable abbrev Z0 : Sig := ⟨[.cat [.int .i64, .int .i64, .int .u32, .int .u32, .int .u64, .int .u64, .sl b8, .sl b8, .sl b8, .sl b8]], [.int .i64], a0a⟩
noncomputable def p_capsule_Put_E : AE := AE.of [(26, ty26), (28, ty28), (38, ty38)] [(13, Z0), (15, Z2), (14, j5)]
noncomputable def b9C : Hints := [(3000000, [2, 3])]
noncomputable def b9D : Code := (Try.f6).body.getD .skip
abbrev V1 : List Kd := [.cat [.int .i64, .int .i64, .int .u32, .int .u32, .int .u64, .int .u64, .sl b8, .sl b8, .sl b8, .sl b8]]
abbrev V2 : List Kd := [.sl b8, .int .i64]
noncomputable def a2s (N : Nat) (x : (Int × Int × Int × Int × Int × Int × List Int × List Int × List Int × List Int × Unit) × Unit) : Option (List Int × Int) :=
 (a0a ((x.1.1, x.1.2.1, x.1.2.2.1, x.1.2.2.2.1, x.1.2.2.2.2.1, x.1.2.2.2.2.2.1, x.1.2.2.2.2.2.2.1, x.1.2.2.2.2.2.2.2.1, x.1.2.2.2.2.2.2.2.2.1, x.1.2.2.2.2.2.2.2.2.2.1, ()), ())).bind fun r1 => (
 if (r1 ≠ (0:Int)) then
  some ([], r1)
 else
  (a0b ((x.1.1, x.1.2.1, x.1.2.2.1, x.1.2.2.2.1, x.1.2.2.2.2.1, x.1.2.2.2.2.2.1, x.1.2.2.2.2.2.2.1, x.1.2.2.2.2.2.2.2.1, x.1.2.2.2.2.2.2.2.2.1, x.1.2.2.2.2.2.2.2.2.2.1, ()), ())).bind fun r2 => (
  (q9 ([r2, x.1.2.2.2.2.2.2.2.2.2.1], ())).bind fun r3 => (
  some (r3, (0:Int)))))
theorem b52 (e0 : b6 Try.prog 13 Z0) (e1 : b6 Try.prog 15 Z2) (e2 : b6 Try.prog 14 j5) : p_capsule_Put_E.Ok Try.prog := AE.of_ok (all_cons w7 (all_cons a3n (all_cons a1Z b5))) (all_cons ⟨e0, a4i⟩ (all_cons ⟨e1, a4k⟩ (all_cons ⟨e2, x8⟩ b5)))
theorem b7H (hE : p_capsule_Put_E.Ok Try.prog) {g : Ds V1 → Option (Rs V2)} (hg : ∀ x r, g x = some r → ∃ N, a2s N x = some r) : b6 Try.prog 6 ⟨V1, V2, g⟩ :=
 d6 (E := p_capsule_Put_E) (H := b9C) (L := fun N => LT.nil) (c := b9D) (ks := V1) (rs := V2) (F := a2s) hE mix Try.func6 (by kernel_rfl) (fun N => OkAll.nil) (fun _ _ => by kernel_rfl) hg
noncomputable def p_capsule_reader_take_E : AE := AE.of [(4, ty4), (5, ty5), (26, ty26), (38, ty38), (80, ty80)] [(14, j5)]
noncomputable def a8n : Hints := [(3000000, [4])]
noncomputable def a8o : Code := (Try.f42).body.getD .skip
abbrev x9 : List Kd := [.io [.fs b8, .bool], .int .i64]
abbrev y0 : List Kd := [.sl b8, .cat [.fs b8, .bool]]
noncomputable def E8 (N : Nat) (x : (List Int × Bool × Unit) × Int × Unit) : Option (List Int × (List Int × Bool × Unit)) :=
 if (x.1.2.1 = true) then
  if 0 ≤ (if (8:Int) < x.2.1 then (8:Int) else x.2.1) then (
  if (if (8:Int) < x.2.1 then (8:Int) else x.2.1) = (if (8:Int) < x.2.1 then (8:Int) else x.2.1) then (
  if (if (8:Int) < x.2.1 then (8:Int) else x.2.1) * 1 ≤ 281474976710656 then (
  some ((List.replicate ((if (8:Int) < x.2.1 then (8:Int) else x.2.1).toNat) 0), (x.1.1, true, ()))) else none) else none) else none
 else
  if (((List.length x.1.1 : Nat) : Int) < x.2.1) then
   if 0 ≤ (if (8:Int) < x.2.1 then (8:Int) else x.2.1) then (
   if (if (8:Int) < x.2.1 then (8:Int) else x.2.1) = (if (8:Int) < x.2.1 then (8:Int) else x.2.1) then (
   if (if (8:Int) < x.2.1 then (8:Int) else x.2.1) * 1 ≤ 281474976710656 then (
   some ((List.replicate ((if (8:Int) < x.2.1 then (8:Int) else x.2.1).toNat) 0), (x.1.1, true, ()))) else none) else none) else none
  else
   if 0 ≤ x.2.1 then (
   if x.2.1 ≤ (((List.length x.1.1) : Nat) : Int) then (
   (q9 ([(List.take ((x.2.1.toNat) - 0) (List.drop 0 x.1.1))], ())).bind fun r1 => (
   if 0 ≤ x.2.1 then (
   if x.2.1 ≤ (((List.length x.1.1) : Nat) : Int) then (
   some (r1, ((List.take ((List.length x.1.1) - (x.2.1.toNat)) (List.drop (x.2.1.toNat) x.1.1)), (decide (x.1.2.1 = true)), ()))) else none) else none)) else none) else none
theorem a6F (e0 : b6 Try.prog 14 j5) : p_capsule_reader_take_E.Ok Try.prog := AE.of_ok (all_cons c0E (all_cons S6 (all_cons w7 (all_cons a1Z (all_cons d0Q b5))))) (all_cons ⟨e0, x8⟩ b5)
theorem a7s (hE : p_capsule_reader_take_E.Ok Try.prog) {g : Ds x9 → Option (Rs y0)} (hg : ∀ x r, g x = some r → ∃ N, E8 N x = some r) : b6 Try.prog 42 ⟨x9, y0, g⟩ :=
 d6 (E := p_capsule_reader_take_E) (H := a8n) (L := fun N => LT.nil) (c := a8o) (ks := x9) (rs := y0) (F := E8) hE mix Try.func42 (by kernel_rfl) (fun N => OkAll.nil) (fun _ _ => by kernel_rfl) hg
noncomputable abbrev p9 : Sig := ⟨[.io [.fs b8, .bool], .int .i64], [.sl b8, .cat [.fs b8, .bool]], q8⟩
noncomputable abbrev a70 : Sig := ⟨[.sl b8], [.int .u64, .int .i64], a4u⟩
noncomputable def p_capsule_reader_number_E : AE := AE.of [] [(42, p9), (63, a70)]
noncomputable def a6D : Hints := [(3000000, [4])]
noncomputable def a6E : Code := (Try.f40).body.getD .skip
abbrev u3 : List Kd := [.io [.fs b8, .bool], .int .i64]
abbrev u4 : List Kd := [.int .u64, .cat [.fs b8, .bool]]
noncomputable def B4 (N : Nat) (x : (List Int × Bool × Unit) × Int × Unit) : Option (Int × (List Int × Bool × Unit)) :=
 (q8 ((x.1.1, (decide (x.1.2.1 = true)), ()), x.2.1, ())).bind fun r1 => (
 (a4u (r1.1, ())).bind fun r2 => (
 some (r2.1, (r1.2.1, (decide (r1.2.2.1 = true)), ()))))
theorem a5e (e0 : b6 Try.prog 42 p9) (e1 : b6 Try.prog 63 a70) : p_capsule_reader_number_E.Ok Try.prog := AE.of_ok b5 (all_cons ⟨e0, K7⟩ (all_cons ⟨e1, b3O⟩ b5))
theorem a5N (hE : p_capsule_reader_number_E.Ok Try.prog) {g : Ds u3 → Option (Rs u4)} (hg : ∀ x r, g x = some r → ∃ N, B4 N x = some r) : b6 Try.prog 40 ⟨u3, u4, g⟩ :=
 d6 (E := p_capsule_reader_number_E) (H := a6D) (L := fun N => LT.nil) (c := a6E) (ks := u3) (rs := u4) (F := B4) hE mix Try.func40 (by kernel_rfl) (fun N => OkAll.nil) (fun _ _ => by kernel_rfl) hg
noncomputable abbrev B0 : Sig := ⟨[.io [.fs b8, .bool], .int .i64], [.int .u64, .cat [.fs b8, .bool]], d7⟩
noncomputable def p_capsule_reader_text_E : AE := AE.of [(3, ty3), (23, ty23)] [(40, B0), (42, p9)]
noncomputable def a8p : Hints := [(3000000, [4])]
noncomputable def a8q : Code := (Try.f41).body.getD .skip
abbrev z4 : List Kd := [.io [.fs b8, .bool], .int .i64]
abbrev z6 : List Kd := [.sl b8, .cat [.fs b8, .bool]]
noncomputable def E9 (N : Nat) (x : (List Int × Bool × Unit) × Int × Unit) : Option (List Int × (List Int × Bool × Unit)) :=
 (d7 ((x.1.1, (decide (x.1.2.1 = true)), ()), x.2.1, ())).bind fun r1 => (
 (q8 ((r1.2.1, (decide (r1.2.2.1 = true)), ()), (IntKind.i64.wrap r1.1), ())).bind fun r2 => (
 some (r2.1, (r2.2.1, (decide (r2.2.2.1 = true)), ()))))
theorem a6G (e0 : b6 Try.prog 40 B0) (e1 : b6 Try.prog 42 p9) : p_capsule_reader_text_E.Ok Try.prog := AE.of_ok (all_cons a2O (all_cons a1Y b5)) (all_cons ⟨e0, Y4⟩ (all_cons ⟨e1, K7⟩ b5))
theorem a7t (hE : p_capsule_reader_text_E.Ok Try.prog) {g : Ds z4 → Option (Rs z6)} (hg : ∀ x r, g x = some r → ∃ N, E9 N x = some r) : b6 Try.prog 41 ⟨z4, z6, g⟩ :=
 d6 (E := p_capsule_reader_text_E) (H := a8p) (L := fun N => LT.nil) (c := a8q) (ks := z4) (rs := z6) (F := E9) hE mix Try.func41 (by kernel_rfl) (fun N => OkAll.nil) (fun _ _ => by kernel_rfl) hg
noncomputable abbrev Z3 : Sig := ⟨[.io [.fs b8, .bool], .int .i64], [.sl b8, .cat [.fs b8, .bool]], E6⟩
noncomputable def p_capsule_Get_E : AE := AE.of [(3, ty3), (4, ty4), (22, ty22), (23, ty23), (25, ty25), (26, ty26), (28, ty28), (80, ty80)] [(40, B0), (41, Z3), (42, p9), (13, Z0)]
noncomputable def b9A : Hints := [(3000000, [2, 3])]
noncomputable def b9B : Code := (Try.f16).body.getD .skip
abbrev U8 : List Kd := [.fsl b8]
abbrev U9 : List Kd := [.cat [.int .i64, .int .i64, .int .u32, .int .u32, .int .u64, .int .u64, .sl b8, .sl b8, .sl b8, .sl b8], .int .i64]
noncomputable def a2r (N : Nat) (x : List Int × Unit) : Option ((Int × Int × Int × Int × Int × Int × List Int × List Int × List Int × List Int × Unit) × Int) :=
 (d7 ((x.1, ((List.getD [0] 0 0) != 0), ()), (1:Int), ())).bind fun r1 => (
 (d7 ((r1.2.1, (decide (r1.2.2.1 = true)), ()), (1:Int), ())).bind fun r2 => (
 (d7 ((r2.2.1, (decide (r2.2.2.1 = true)), ()), (4:Int), ())).bind fun r3 => (
 (d7 ((r3.2.1, (decide (r3.2.2.1 = true)), ()), (4:Int), ())).bind fun r4 => (
 (d7 ((r4.2.1, (decide (r4.2.2.1 = true)), ()), (8:Int), ())).bind fun r5 => (
 (d7 ((r5.2.1, (decide (r5.2.2.1 = true)), ()), (8:Int), ())).bind fun r6 => (
 (E6 ((r6.2.1, (decide (r6.2.2.1 = true)), ()), (2:Int), ())).bind fun r7 => (
 (q8 ((r7.2.1, (decide (r7.2.2.1 = true)), ()), (1088:Int), ())).bind fun r8 => (
 (E6 ((r8.2.1, (decide (r8.2.2.1 = true)), ()), (2:Int), ())).bind fun r9 => (
 (q8 ((r9.2.1, (decide (r9.2.2.1 = true)), ()), (3309:Int), ())).bind fun r10 => (
 if (r10.2.2.1 = true) then
  some (((List.getD [0] 0 0), (List.getD [0] 0 0), (List.getD [0] 0 0), (List.getD [0] 0 0), (List.getD (List.take 1 (List.replicate 2 0)) 0 0), (List.getD (List.drop 1 (List.replicate 2 0)) 0 0), [], [], [], [], ()), (230:Int))
 else
  if (((List.length r10.2.1 : Nat) : Int) > (0:Int)) then
   some (((List.getD [0] 0 0), (List.getD [0] 0 0), (List.getD [0] 0 0), (List.getD [0] 0 0), (List.getD (List.take 1 (List.replicate 2 0)) 0 0), (List.getD (List.drop 1 (List.replicate 2 0)) 0 0), [], [], [], [], ()), (230:Int))
  else
   (a0a (((List.getD (List.set [0] 0 (IntKind.i64.wrap r1.1)) 0 0), (List.getD (List.set [0] 0 (IntKind.i64.wrap r2.1)) 0 0), (List.getD (List.set [0] 0 (IntKind.u32.wrap r3.1)) 0 0), (List.getD (List.set [0] 0 (IntKind.u32.wrap r4.1)) 0 0), (List.getD (List.take 1 (List.set (List.set (List.replicate 2 0) 0 r5.1) 1 r6.1)) 0 0), (List.getD (List.drop 1 (List.set (List.set (List.replicate 2 0) 0 r5.1) 1 r6.1)) 0 0), r7.1, r8.1, r9.1, r10.1, ()), ())).bind fun r11 => (
   if (r11 ≠ (0:Int)) then
    some (((List.getD [0] 0 0), (List.getD [0] 0 0), (List.getD [0] 0 0), (List.getD [0] 0 0), (List.getD (List.take 1 (List.replicate 2 0)) 0 0), (List.getD (List.drop 1 (List.replicate 2 0)) 0 0), [], [], [], [], ()), (230:Int))
   else
    some (((List.getD (List.set [0] 0 (IntKind.i64.wrap r1.1)) 0 0), (List.getD (List.set [0] 0 (IntKind.i64.wrap r2.1)) 0 0), (List.getD (List.set [0] 0 (IntKind.u32.wrap r3.1)) 0 0), (List.getD (List.set [0] 0 (IntKind.u32.wrap r4.1)) 0 0), (List.getD (List.take 1 (List.set (List.set (List.replicate 2 0) 0 r5.1) 1 r6.1)) 0 0), (List.getD (List.drop 1 (List.set (List.set (List.replicate 2 0) 0 r5.1) 1 r6.1)) 0 0), r7.1, r8.1, r9.1, r10.1, ()), (0:Int)))))))))))))
theorem b51 (e0 : b6 Try.prog 40 B0) (e1 : b6 Try.prog 41 Z3) (e2 : b6 Try.prog 42 p9) (e3 : b6 Try.prog 13 Z0) : p_capsule_Get_E.Ok Try.prog := AE.of_ok (all_cons a2O (all_cons c0E (all_cons c3l (all_cons a1Y (all_cons b63 (all_cons w7 (all_cons a3n (all_cons d0Q b5)))))))) (all_cons ⟨e0, Y4⟩ (all_cons ⟨e1, a5K⟩ (all_cons ⟨e2, K7⟩ (all_cons ⟨e3, a4i⟩ b5))))
theorem b7G (hE : p_capsule_Get_E.Ok Try.prog) {g : Ds U8 → Option (Rs U9)} (hg : ∀ x r, g x = some r → ∃ N, a2r N x = some r) : b6 Try.prog 16 ⟨U8, U9, g⟩ :=
 d6 (E := p_capsule_Get_E) (H := b9A) (L := fun N => LT.nil) (c := b9B) (ks := U8) (rs := U9) (F := a2r) hE mix Try.func16 (by kernel_rfl) (fun N => OkAll.nil) (fun _ _ => by kernel_rfl) hg
noncomputable abbrev a7W : Sig := ⟨[.fsl b8], [.cat [.int .i64, .int .i64, .int .u32, .int .u32, .int .u64, .int .u64, .sl b8, .sl b8, .sl b8, .sl b8], .int .i64], a4q⟩
noncomputable abbrev Z1 : Sig := ⟨[.cat [.int .i64, .int .i64, .int .u32, .int .u32, .int .u64, .int .u64, .sl b8, .sl b8, .sl b8, .sl b8]], [.sl b8], P3⟩
noncomputable abbrev a3E : Sig := ⟨[.sl b8, .sl b8, .sl b8, .sl b8], [.int .i64], a3L⟩
noncomputable def p_capsule_Proved_E : AE := AE.of [(5, ty5), (26, ty26), (28, ty28)] [(16, a7W), (9, Z1), (8, a3E)]
noncomputable def b4a : Hints := [(3000000, [4])]
noncomputable def b4b : Code := (Try.f7).body.getD .skip
abbrev I7 : List Kd := [.sl b8, .sl b8]
abbrev a1P : List Kd := [.int .i64]
noncomputable def V0 (N : Nat) (x : List Int × List Int × Unit) : Option (Int) :=
 (a4q (x.1, ())).bind fun r1 => (
 if (r1.2 ≠ (0:Int)) then
  some r1.2
 else
  (P3 ((r1.1.1, r1.1.2.1, r1.1.2.2.1, r1.1.2.2.2.1, r1.1.2.2.2.2.1, r1.1.2.2.2.2.2.1, r1.1.2.2.2.2.2.2.1, r1.1.2.2.2.2.2.2.2.1, r1.1.2.2.2.2.2.2.2.2.1, r1.1.2.2.2.2.2.2.2.2.2.1, ()), ())).bind fun r2 => (
  if 0 < 6 then (
  (a3L (x.2.1, r2, (List.set (List.set (List.set (List.set (List.set (List.set (List.replicate 6 0) 0 (108:Int)) 1 (105:Int)) 2 (118:Int)) 3 (101:Int)) 4 (114:Int)) 5 (121:Int)), r1.1.2.2.2.2.2.2.2.2.2.1, ())).bind fun r3 => (
  if (r3 ≠ (0:Int)) then
   some (223:Int)
  else
   some (0:Int))) else none))
theorem b1c (e0 : b6 Try.prog 16 a7W) (e1 : b6 Try.prog 9 Z1) (e2 : b6 Try.prog 8 a3E) : p_capsule_Proved_E.Ok Try.prog := AE.of_ok (all_cons S6 (all_cons w7 (all_cons a3n b5))) (all_cons ⟨e0, b3K⟩ (all_cons ⟨e1, a4j⟩ (all_cons ⟨e2, a7h⟩ b5)))
theorem b2E (hE : p_capsule_Proved_E.Ok Try.prog) {g : Ds I7 → Option (Rs [.int .i64])} (hg : ∀ x r, g x = some r → ∃ N, V0 N x = some r) : b6 Try.prog 7 ⟨I7, [.int .i64], g⟩ :=
 d6 (E := p_capsule_Proved_E) (H := b4a) (L := fun N => LT.nil) (c := b4b) (ks := I7) (rs := a1P) (F := V0) hE mix Try.func7 (by kernel_rfl) (fun N => OkAll.nil) (fun _ _ => by kernel_rfl) hg
noncomputable abbrev a9D : Sig := ⟨[], [.bool], a12⟩
noncomputable abbrev b2e : Sig := ⟨[.cat [.int .i64, .int .i64, .int .u32, .int .u32, .int .u64, .int .u64, .sl b8, .sl b8, .sl b8, .sl b8]], [.bool], a8d⟩
noncomputable abbrev a7X : Sig := ⟨[.cat [.int .i64, .int .i64, .int .u32, .int .u32, .int .u64, .int .u64, .sl b8, .sl b8, .sl b8, .sl b8]], [.sl b8, .int .i64], a4r⟩
noncomputable abbrev a3X : Sig := ⟨[.sl b8, .sl b8], [.int .i64], L0⟩
noncomputable def p_law23_CapsuleProves_E : AE := AE.of [(4, ty4), (5, ty5), (26, ty26), (28, ty28)] [(4, a9D), (5, b2e), (6, a7X), (7, a3X), (9, Z1), (8, a3E)]
noncomputable def a8D : Hints := [(3000000, [4])]
noncomputable def a8E : Code := (Try.f3).body.getD .skip
abbrev G1 : List Kd := [.cat [.int .i64, .int .i64, .int .u32, .int .u32, .int .u64, .int .u64, .sl b8, .sl b8, .sl b8, .sl b8], .sl b8]
abbrev a16 : List Kd := [.bool]
noncomputable def F5 (N : Nat) (x : (Int × Int × Int × Int × Int × Int × List Int × List Int × List Int × List Int × Unit) × List Int × Unit) : Option (Bool) :=
 (a12 (())).bind fun r1 => (
 if (¬ (r1 = true)) then
  (a12 (())).bind fun r2 => (
  some (decide (r2 = true)))
 else
  (a8d ((x.1.1, x.1.2.1, x.1.2.2.1, x.1.2.2.2.1, x.1.2.2.2.2.1, x.1.2.2.2.2.2.1, x.1.2.2.2.2.2.2.1, x.1.2.2.2.2.2.2.2.1, x.1.2.2.2.2.2.2.2.2.1, x.1.2.2.2.2.2.2.2.2.2.1, ()), ())).bind fun r3 => (
  if (r3 = true) then
   (a12 (())).bind fun r4 => (
   some (decide (r4 = true)))
  else
   (a4r ((x.1.1, x.1.2.1, x.1.2.2.1, x.1.2.2.2.1, x.1.2.2.2.2.1, x.1.2.2.2.2.2.1, x.1.2.2.2.2.2.2.1, x.1.2.2.2.2.2.2.2.1, x.1.2.2.2.2.2.2.2.2.1, x.1.2.2.2.2.2.2.2.2.2.1, ()), ())).bind fun r5 => (
   if (r5.2 ≠ (0:Int)) then
    (L0 (r5.1, x.2.1, ())).bind fun r6 => (
    some (decide (r6 = (230:Int))))
   else
    (P3 ((x.1.1, x.1.2.1, x.1.2.2.1, x.1.2.2.2.1, x.1.2.2.2.2.1, x.1.2.2.2.2.2.1, x.1.2.2.2.2.2.2.1, x.1.2.2.2.2.2.2.2.1, x.1.2.2.2.2.2.2.2.2.1, x.1.2.2.2.2.2.2.2.2.2.1, ()), ())).bind fun r7 => (
    if 0 < 6 then (
    (a3L (x.2.1, r7, (List.set (List.set (List.set (List.set (List.set (List.set (List.replicate 6 0) 0 (108:Int)) 1 (105:Int)) 2 (118:Int)) 3 (101:Int)) 4 (114:Int)) 5 (121:Int)), x.1.2.2.2.2.2.2.2.2.2.1, ())).bind fun r8 => (
    (L0 (r5.1, x.2.1, ())).bind fun r9 => (
    if ((decide (r9 = (0:Int))) = (decide (r8 = (0:Int)))) then
     if (r8 = (0:Int)) then
      some true
     else
      (L0 (r5.1, x.2.1, ())).bind fun r10 => (
      some (decide (r10 = (223:Int))))
    else
     some false))) else none))))
theorem a6Z (e0 : b6 Try.prog 4 a9D) (e1 : b6 Try.prog 5 b2e) (e2 : b6 Try.prog 6 a7X) (e3 : b6 Try.prog 7 a3X) (e4 : b6 Try.prog 9 Z1) (e5 : b6 Try.prog 8 a3E) : p_law23_CapsuleProves_E.Ok Try.prog := AE.of_ok (all_cons c0E (all_cons S6 (all_cons w7 (all_cons a3n b5)))) (all_cons ⟨e0, b5O⟩ (all_cons ⟨e1, b7z⟩ (all_cons ⟨e2, b3L⟩ (all_cons ⟨e3, a9L⟩ (all_cons ⟨e4, a4j⟩ (all_cons ⟨e5, a7h⟩ b5))))))
theorem a7K (hE : p_law23_CapsuleProves_E.Ok Try.prog) {g : Ds G1 → Option (Rs [.bool])} (hg : ∀ x r, g x = some r → ∃ N, F5 N x = some r) : b6 Try.prog 3 ⟨G1, [.bool], g⟩ :=
 d6 (E := p_law23_CapsuleProves_E) (H := a8D) (L := fun N => LT.nil) (c := a8E) (ks := G1) (rs := a16) (F := F5) hE mix Try.func3 (by kernel_rfl) (fun N => OkAll.nil) (fun _ _ => by kernel_rfl) hg
end Go.Ax.TryP
set_option linter.unusedVariables false
namespace Go.Ax.TryP
open Go.Proofs
theorem b0K {b : List Int} : Kd.wf (.sl (.int .u8)) b ↔ b.length ≤ maxLen ∧ bytes b := by simp only [a8S]; exact Iff.rfl
theorem b3l {n s i : Nat} (hs : 1 ≤ s) : i < b49 n s ↔ i * s < n := by
 unfold b49
 rw [Nat.lt_div_iff_mul_lt (by omega)]
 omega
theorem d2f {b : List Int} {i s : Nat} : ((b.drop i).take (min b.length (i + s) - i)) = (b.drop i).take s := by
 by_cases h : i + s ≤ b.length
 ·rw [Nat.min_eq_right h, show i + s - i = s by omega]
 ·rw [Nat.min_eq_left (by omega), List.take_of_length_le (by rw [List.length_drop]; omega), List.take_of_length_le (by rw [List.length_drop]; omega)]
theorem b8i : ∀ x r, a1u x = some r → ∃ N, a1x N x = some r := by
 refine c8 (ks := I5) (rs := I6) fun x hw hq => ?_
 obtain ⟨(b : List Int), (size : Int), u⟩ := x
 have hq : b.length ≤ 1000000 := hq
 have hb : bytes b := (b0K.1 hw.1).2
 refine ⟨b.length + 2, ?_⟩
 unfold a1x c6Y
 dsimp only
 by_cases h1 : size < 1
 ·rw [if_pos h1, if_pos (.inl h1)]
 by_cases h2 : 1024 < size
 ·rw [if_neg h1, if_pos h2, if_pos (.inr h2)]
 rw [if_neg h1, if_neg h2, if_neg (by omega : ¬(size < 1 ∨ 1024 < size))]
 by_cases h3 : b.length = 0
 ·rw [if_pos (by omega), if_pos h3]
 obtain ⟨s, rfl⟩ : ∃ s : Nat, size = s := ⟨size.toNat, by omega⟩
 have hd : ((b.length : Int) - 1).tdiv s = (((b.length - 1) / s : Nat) : Int) := by
  rw [a6u (by omega), show (b.length : Int) - 1 = ((b.length - 1 : Nat) : Int) by omega]
  simp
 have hdl : (b.length - 1) / s ≤ b.length - 1 := Nat.div_le_self _ _
 have hdm : (256 ≤ (b.length - 1) / s) ↔ 256 * s < b.length := by rw [Nat.le_div_iff_mul_le (by omega)]; omega
 rw [if_neg (by omega), if_neg h3, if_neg (by omega), b7 (x := (b.length : Int) - 1) (by omega) (by omega), hd, Int.toNat_natCast]
 generalize (b.length - 1) / s = q at hdl hdm
 rw [b7 (by omega) (by omega)]
 by_cases h4 : 256 * s < b.length
 ·rw [if_pos (by omega), if_pos (by omega)]
 rw [if_neg (by omega), if_neg (by omega)]
 have hp : b49 b.length s ≤ b.length := by
  rcases Nat.lt_or_ge b.length (b49 b.length s) with h | h
  ·have := (b3l (n := b.length) (s := s) (by omega)).1 h
   have := Nat.le_mul_of_pos_right b.length (show 0 < s by omega)
   omega
  ·exact h
 refine (j6 (F := E7 (b.length + 2)) (s := fun i => (b.length, (s : Int), i, ((i * s : Nat) : Int), b.length, b, d5G b s i, ())) (y := (b49 b.length s, d5G b s (b49 b.length s), ())) (b49 b.length s) ?_ ?_ ?_ (b.length + 2) (by omega)).trans ?_
 ·rw [Nat.zero_mul]; rfl
 ·intro i hi kn
  have hi2 := (b3l (n := b.length) (s := s) (by omega)).1 hi
  have ea : ((i * s : Nat) : Int) + (s : Int) = ((i * s + s : Nat) : Int) := by simp
  unfold E7
  dsimp only
  rw [if_pos (by omega), ea, b7 (x := ((i * s + s : Nat) : Int)) (by omega) (by omega)]
  have em : (if ((b.length : Nat) : Int) < ((i * s + s : Nat) : Int) then ((b.length : Nat) : Int) else ((i * s + s : Nat) : Int)) = ((min b.length (i * s + s) : Nat) : Int) := by split <;> omega
  rw [em, if_pos (by omega), if_pos (by omega), if_pos (by omega), Int.toNat_natCast, Int.toNat_natCast, if_pos (by omega), R8, d2f]
  have hlen : ((b.drop (i * s)).take s).length ≤ 1000000 := by rw [List.length_take, List.length_drop]; omega
  rw [b5A ⟨by simp, by rw [b8G]; exact hlen⟩ (d0k ⟨hlen, c48 hb _ _⟩), Option.bind_some, b8G, if_pos (by omega), Nat.succ_mul]
  rfl
 ·intro kn
  have hn : ¬ b49 b.length s * s < b.length := fun h => absurd ((b3l (n := b.length) (s := s) (by omega)).2 h) (Nat.lt_irrefl _)
  unfold E7
  dsimp only
  rw [if_neg (by omega)]
 ·rfl
end Go.Ax.TryP
set_option linter.unusedVariables false
namespace Go.Ax.TryP
open Go.Proofs
end Go.Ax.TryP
set_option linter.unusedVariables false
namespace Go.Ax.TryP
open Go.Proofs
theorem P5 {n : Int} : S0 .u64 n ↔ 0 ≤ n ∧ n ≤ 18446744073709551615 := by simp [S0, Lit.wf, IntKind.min, IntKind.max, IntKind.signed, IntKind.bits]
theorem b5V {n : Int} : S0 .u32 n ↔ 0 ≤ n ∧ n ≤ 4294967295 := by simp [S0, Lit.wf, IntKind.min, IntKind.max, IntKind.signed, IntKind.bits]
theorem c1I {n : Int} : S0 .u16 n ↔ 0 ≤ n ∧ n ≤ 65535 := by simp [S0, Lit.wf, IntKind.min, IntKind.max, IntKind.signed, IntKind.bits]
def c7V (n : Int) (w i : Nat) : List Int := (List.range w).map fun j => if w - i ≤ j then n / 2 ^ (8 * (w - 1 - j)) % 256 else 0
theorem d1m (n : Int) (w : Nat) : c7V n w w = a74 n w := List.map_congr_left fun j _ => by rw [if_pos (by omega)]
theorem c9u (n : Int) (w : Nat) : c7V n w 0 = List.replicate w 0 := by
 refine rows.ext (n := w) (by simp [c7V]) (by simp) fun j hj => ?_
 rw [b1W]
 unfold c7V
 rw [u9 hj, if_neg (by omega)]
theorem c9t (n : Int) {w i : Nat} (hi : i < w) : (c7V n w i).set (w - 1 - i) (n / 2 ^ (8 * i) % 256) = c7V n w (i + 1) := by
 have hl : (c7V n w i).length = w := by simp [c7V]
 refine rows.ext (n := w) (by simp [c7V]) (by simp [c7V]) fun j hj => ?_
 by_cases e : w - 1 - i = j
 ·subst e
  rw [a1N (by omega)]
  unfold c7V
  rw [u9 hj, if_pos (by omega), show w - 1 - (w - 1 - i) = i by omega]
 ·rw [getD_set_ne e]
  unfold c7V
  rw [u9 hj, u9 hj]
  by_cases h : w - i ≤ j
  ·rw [if_pos h, if_pos (by omega)]
  ·rw [if_neg h, if_neg (by omega)]
theorem c59 : ∀ x r, a26 x = some r → ∃ N, a8I N x = some r := by
 refine c8 (ks := a1q) (rs := a1r) fun x hw hq => ⟨10, ?_⟩
 obtain ⟨(n : Int), (w : Int), u⟩ := x
 have hn : 0 ≤ n ∧ n ≤ 18446744073709551615 := P5.1 hw.1
 obtain ⟨h0, h1⟩ : 0 ≤ w ∧ w ≤ 8 := hq
 obtain ⟨w, rfl⟩ : ∃ m : Nat, w = m := ⟨w.toNat, by omega⟩
 obtain ⟨n, rfl⟩ : ∃ m : Nat, n = m := ⟨n.toNat, by omega⟩
 unfold a8I
 dsimp only
 rw [if_pos h0, if_pos rfl, if_pos (by omega), Int.toNat_natCast]
 refine (j6 (F := X4 10) (s := fun i => ((n : Int), (w : Int), w, (w : Int), (i : Int), w, c7V n w i, ())) (y := (w, w, a74 n w, ())) w ?_ ?_ ?_ 10 (by omega)).trans ?_
 ·rw [c9u]; rfl
 ·intro i hi kn
  have e1 : IntKind.i64.wrap (8 * (i : Int)) = ((8 * i : Nat) : Int) := by rw [b7 (by omega) (by omega)]; omega
  have e2 : IntKind.i64.wrap (IntKind.i64.wrap ((w : Int) - 1) - i) = ((w - 1 - i : Nat) : Int) := by rw [b7 (x := (w : Int) - 1) (by omega) (by omega), b7 (by omega) (by omega)]; omega
  have e3 : IntKind.u8.wrap (c2w IntKind.u64 (n : Int) ((8 * i : Nat) : Int)) = (n : Int) / 2 ^ (8 * i) % 256 := by
   rw [b8E (k := .u64) (show 8 * i ≤ 64 by omega), a8T]
   simp
  unfold X4
  dsimp only
  rw [if_pos (by omega), e1, e2, if_neg (by omega), if_pos (by omega), if_pos (by omega), Int.toNat_natCast, if_pos (by omega), e3, c9t _ hi, b7 (by omega) (by omega)]
  rfl
 ·intro kn
  unfold X4
  dsimp only
  rw [if_neg (by omega), d1m]
 ·rfl
theorem c9k {n : Int} (hn : 0 ≤ n ∧ n ≤ 18446744073709551615) {w : Nat} (hw : w ≤ 8) : a26 (n, (w : Int), ()) = some (a74 n w) := by
 have := c7 (ks := a1q) (rs := a1r) (x := (n, (w : Int), ())) (Q := fun x => 0 ≤ x.2.1 ∧ x.2.1 ≤ 8) (f := fun x => a74 x.1 x.2.1.toNat) ⟨P5.2 hn, (j7 (n := (w : Int))).2 (by omega), trivial⟩ ⟨by show (0 : Int) ≤ w; omega, by show (w : Int) ≤ 8; omega⟩
 exact this
theorem c0G {x : Int} (h0 : 0 ≤ x) (h1 : x ≤ 18446744073709551615) : IntKind.u64.wrap x = x := by simp [IntKind.wrap, IntKind.signed, IntKind.bits]; omega
theorem c56 : ∀ x r, a49 x = some r → ∃ N, a8F N x = some r := by
 refine c8 (ks := a63) (rs := a1n) fun x hw hq => ⟨0, ?_⟩
 obtain ⟨(n : Int), u⟩ := x
 have hn : 0 ≤ n ∧ n ≤ 65535 := c1I.1 hw.1
 unfold a8F
 dsimp only
 rw [c0G (by omega) (by omega)]
 exact congrArg (fun o => Option.bind o _) (c9k (n := n) (by omega) (w := 2) (by omega))
theorem c57 : ∀ x r, a5a x = some r → ∃ N, a8G N x = some r := by
 refine c8 (ks := a64) (rs := a1o) fun x hw hq => ⟨0, ?_⟩
 obtain ⟨(n : Int), u⟩ := x
 have hn : 0 ≤ n ∧ n ≤ 4294967295 := b5V.1 hw.1
 unfold a8G
 dsimp only
 rw [c0G (by omega) (by omega)]
 exact congrArg (fun o => Option.bind o _) (c9k (n := n) (by omega) (w := 4) (by omega))
theorem c58 : ∀ x r, a5b x = some r → ∃ N, a8H N x = some r := by
 refine c8 (ks := a65) (rs := a1p) fun x hw hq => ⟨0, ?_⟩
 obtain ⟨(n : Int), u⟩ := x
 have hn : 0 ≤ n ∧ n ≤ 18446744073709551615 := P5.1 hw.1
 unfold a8H
 exact congrArg (fun o => Option.bind o _) (c9k (n := n) hn (w := 8) (by omega))
theorem d2t {n : Int} (h : 0 ≤ n ∧ n ≤ 65535) : a49 (n, ()) = some (a74 n 2) := c7 (ks := a63) (rs := a1n) (x := (n, ())) ⟨c1I.2 h, trivial⟩ trivial
theorem d2u {n : Int} (h : 0 ≤ n ∧ n ≤ 4294967295) : a5a (n, ()) = some (a74 n 4) := c7 (ks := a64) (rs := a1o) (x := (n, ())) ⟨b5V.2 h, trivial⟩ trivial
theorem d2v {n : Int} (h : 0 ≤ n ∧ n ≤ 18446744073709551615) : a5b (n, ()) = some (a74 n 8) := c7 (ks := a65) (rs := a1p) (x := (n, ())) ⟨P5.2 h, trivial⟩ trivial
theorem c8F : ∀ x r, b0Q x = some r → ∃ N, b0Y N x = some r := by
 refine c8 (ks := a2K) (rs := a8L) fun x hw hq => ⟨0, ?_⟩
 unfold b0Y d02
 by_cases h : x.1.1 < x.1.2.1
 ·rw [if_pos h]
  exact congrArg some (decide_eq_decide.2 ⟨fun g => ⟨h, g⟩, fun g => g.2⟩)
 ·rw [if_neg h]
  exact congrArg some (by simp [h])
theorem d4B {lo hi : Int} (h1 : 0 ≤ lo ∧ lo ≤ 18446744073709551615) (h2 : 0 ≤ hi ∧ hi ≤ 18446744073709551615) : b0Q ((lo, hi, ()), ()) = some (d02 lo hi) :=
 c7 (ks := a2K) (rs := a8L) (x := ((lo, hi, ()), ())) ⟨⟨P5.2 h1, P5.2 h2, trivial⟩, trivial⟩ trivial
theorem c8E : ∀ x r, b0P x = some r → ∃ N, b0X N x = some r := by
 refine c8 (ks := a2I) (rs := a8K) fun x hw hq => ⟨3, ?_⟩
 obtain ⟨(l : List Int), u⟩ := x
 have hl : l.length = 2 := hq
 obtain ⟨a, b, rfl⟩ : ∃ a b, l = [a, b] := by
  match l, hl with
  | [a, b], _ => exact ⟨a, b, rfl⟩
 have hb : ∀ z ∈ [a, b], S0 .u64 z := hw.1.2
 have ha1 := P5.1 (hb a (by simp))
 have hb1 := P5.1 (hb b (by simp))
 unfold b0X
 dsimp only
 rw [show ([a, b] : List Int).length / 2 = 1 by simp, show ([a, b] : List Int).length = 2 from rfl]
 show E1 (a2J 3) 3 (1, 1, (1 : Int), (0 : Int), 2, [a, b], ()) _ = some (d02 a b)
 simp only [E1]
 unfold a2J
 dsimp only
 rw [if_pos (by omega), if_pos (by omega), if_pos (by omega), if_pos (by omega)]
 refine (congrArg (fun o => Option.bind o _) (d4B ha1 hb1)).trans ?_
 rw [Option.bind_some]
 by_cases h : d02 a b = true
 ·rw [if_neg (by simp [h]), if_neg (by omega), b7 (by omega) (by omega), if_neg (by omega), h]
  rfl
 ·rw [if_pos h]
  have : d02 a b = false := by simpa using h
  rw [this]
theorem d4x {a b : Int} (h1 : 0 ≤ a ∧ a ≤ 18446744073709551615) (h2 : 0 ≤ b ∧ b ≤ 18446744073709551615) : b0P ([a, b], ()) = some (d02 a b) := by
 have hM : 1 ≤ maxLen := by decide
 have w : Kd.wf (.sla (.int .u64) 2) [a, b] := ⟨⟨1, rfl, hM⟩, fun z hz => by
  rcases List.mem_cons.1 hz with rfl | hz
  ·exact P5.2 h1
  ·rw [List.mem_singleton.1 hz]; exact P5.2 h2⟩
 exact c7 (ks := a2I) (rs := a8K) (x := ([a, b], ())) ⟨w, trivial⟩ rfl
theorem b5a : ∀ x r, L7 x = some r → ∃ N, Y6 N x = some r := by
 refine c8 (ks := a0f) (rs := a0g) fun x hw hq => ⟨0, ?_⟩
 obtain ⟨(n : Int), u⟩ := x
 unfold Y6 d2B
 dsimp only
 by_cases h : n ≥ 0
 ·rw [if_pos h]
  exact congrArg some (decide_eq_decide.2 ⟨fun g => ⟨h, g⟩, fun g => g.2⟩)
 ·rw [if_neg h]
  exact congrArg some (decide_eq_false (by omega)).symm
theorem d2x {n : Int} (h : -9223372036854775808 ≤ n ∧ n ≤ 9223372036854775807) : L7 (n, ()) = some (d2B n) :=
 c7 (ks := a0f) (rs := a0g) (x := (n, ())) ⟨j7.2 h, trivial⟩ trivial
end Go.Ax.TryP
set_option linter.unusedVariables false
namespace Go.Ax.TryP
open Go.Proofs
def b3D (c : Cp) : Prop := (-9223372036854775808 ≤ c.1 ∧ c.1 ≤ 9223372036854775807) ∧ (-9223372036854775808 ≤ c.2.1 ∧ c.2.1 ≤ 9223372036854775807) ∧ (0 ≤ c.2.2.1 ∧ c.2.2.1 ≤ 4294967295) ∧ (0 ≤ c.2.2.2.1 ∧ c.2.2.2.1 ≤ 4294967295) ∧ (0 ≤ c.2.2.2.2.1 ∧ c.2.2.2.2.1 ≤ 18446744073709551615) ∧ (0 ≤ c.2.2.2.2.2.1 ∧ c.2.2.2.2.2.1 ≤ 18446744073709551615)
 ∧ (c.2.2.2.2.2.2.1.length ≤ maxLen ∧ bytes c.2.2.2.2.2.2.1) ∧ (c.2.2.2.2.2.2.2.1.length ≤ maxLen ∧ bytes c.2.2.2.2.2.2.2.1) ∧ (c.2.2.2.2.2.2.2.2.1.length ≤ maxLen ∧ bytes c.2.2.2.2.2.2.2.2.1) ∧ (c.2.2.2.2.2.2.2.2.2.1.length ≤ maxLen ∧ bytes c.2.2.2.2.2.2.2.2.2.1)
abbrev cpK : Kd := .cat [.int .i64, .int .i64, .int .u32, .int .u32, .int .u64, .int .u64, .sl (.int .u8), .sl (.int .u8), .sl (.int .u8), .sl (.int .u8)]
theorem a9u {c : Cp} : Kd.wf cpK c ↔ b3D c := by
 have h1 : ∀ n, S0 .i64 n ↔ -9223372036854775808 ≤ n ∧ n ≤ 9223372036854775807 := fun _ => j7
 have h2 : ∀ n, S0 .u32 n ↔ 0 ≤ n ∧ n ≤ 4294967295 := fun _ => b5V
 have h3 : ∀ n, S0 .u64 n ↔ 0 ≤ n ∧ n ≤ 18446744073709551615 := fun _ => P5
 have h4 : ∀ n, S0 .u8 n ↔ 0 ≤ n ∧ n ≤ 255 := fun _ => a0F
 simp only [Kd.wf, c5c, FK.wf, b3D, bytes, h1, h2, h3, h4, and_true]
theorem b8k : ∀ x r, U5 x = some r → ∃ N, a1y N x = some r := by
 refine c8 (ks := I8) (rs := a1Q) fun x hw hq => ⟨0, ?_⟩
 obtain ⟨c, u⟩ := x
 obtain ⟨h1, h2, _, _, h5, h6, _⟩ := a9u.1 hw.1
 unfold a1y
 dsimp only
 rw [d2x h1, Option.bind_some]
 show _ = some (a0X c)
 unfold a0X
 cases d2B c.1 with
 | false => rfl
 | true =>
  rw [if_pos rfl, d2x h2, Option.bind_some]
  cases d2B c.2.1 with
  | false => rfl
  | true =>
   rw [if_pos rfl]
   by_cases hne : c.1 ≠ c.2.1
   ·rw [if_pos hne, d4x h5 h6, Option.bind_some]
    have : decide (c.1 ≠ c.2.1) = true := decide_eq_true hne
    rw [this]
    cases d02 c.2.2.2.2.1 c.2.2.2.2.2.1 with
    | false => rfl
    | true =>
     rw [if_pos rfl]
     by_cases h : ((c.2.2.2.2.2.2.1.length : Nat) : Int) ≥ 1
     ·rw [if_pos h]
      simp only [Bool.true_and]
      exact congrArg some (decide_eq_decide.2 (by omega))
     ·rw [if_neg h]
      simp only [Bool.true_and]
      exact congrArg some (decide_eq_false (by omega)).symm
   ·rw [if_neg hne]
    have : decide (c.1 ≠ c.2.1) = false := decide_eq_false hne
    rw [this]
    rfl
theorem c3F {c : Cp} (h : b3D c) : U5 (c, ()) = some (a0X c) :=
 c7 (ks := I8) (rs := a1Q) (x := (c, ())) ⟨a9u.2 h, trivial⟩ trivial
theorem D9 (n : Int) (w : Nat) : (a74 n w).length = w := by simp [a74]
theorem K9 (n : Int) (w : Nat) : bytes (a74 n w) := fun z hz => by
 obtain ⟨i, _, rfl⟩ := List.mem_map.1 hz
 omega
theorem c5a (a b : Int) : bytes [a % 256, b % 256] := fun z hz => by
 rcases List.mem_cons.1 hz with rfl | hz
 ·omega
 ·rw [List.mem_singleton.1 hz]; omega
theorem c09 : ∀ x r, a04 x = some r → ∃ N, a3t N x = some r := by
 refine c8 (ks := P8) (rs := P9) fun x hw hq => ⟨0, ?_⟩
 obtain ⟨c, u⟩ := x
 obtain ⟨h1, h2, h3, h4, h5, h6, h7, _⟩ := a9u.1 hw.1
 have hq : c.2.2.2.2.2.2.1.length ≤ 60000 := hq
 have hM : 1000000 ≤ maxLen := by decide
 have w16 : IntKind.u16.wrap ((c.2.2.2.2.2.2.1.length : Nat) : Int) = (c.2.2.2.2.2.2.1.length : Int) := by rw [b7t]; omega
 have e2 : List.set (List.set (List.replicate 2 (0 : Int)) 0 (IntKind.u8.wrap c.1)) 1 (IntKind.u8.wrap c.2.1) = [c.1 % 256, c.2.1 % 256] := by rw [a8T, a8T]; rfl
 unfold a3t
 dsimp only
 rw [d2u h3, Option.bind_some, d2u h4, Option.bind_some, d2v h5, Option.bind_some, d2v h6, Option.bind_some, w16, d2t (by omega), Option.bind_some, e2]
 have hf : [[c.1 % 256, c.2.1 % 256], a74 c.2.2.1 4, a74 c.2.2.2.1 4, a74 c.2.2.2.2.1 8, a74 c.2.2.2.2.2.1 8, a74 (c.2.2.2.2.2.2.1.length : Int) 2, c.2.2.2.2.2.2.1].flatten = a5I c := by
  unfold a5I
  simp only [List.flatten_cons, List.flatten_nil, List.append_nil, List.append_assoc]
 rw [b5A ⟨by simp, ?_⟩ ⟨?_, ?_⟩, Option.bind_some, hf]
 ·simp only [List.flatten_cons, List.flatten_nil, List.length_append, D9, List.length_cons, List.length_nil]
  omega
 ·simp only [List.length_cons, List.length_nil]
  omega
 ·intro zs hz
  simp only [List.mem_cons, List.not_mem_nil, or_false] at hz
  rcases hz with rfl | rfl | rfl | rfl | rfl | rfl | rfl
  ·exact ⟨by simp only [List.length_cons, List.length_nil]; omega, c5a _ _⟩
  ·exact ⟨by rw [D9]; omega, K9 _ _⟩
  ·exact ⟨by rw [D9]; omega, K9 _ _⟩
  ·exact ⟨by rw [D9]; omega, K9 _ _⟩
  ·exact ⟨by rw [D9]; omega, K9 _ _⟩
  ·exact ⟨by rw [D9]; omega, K9 _ _⟩
  ·exact ⟨by omega, h7.2⟩
theorem c9p {c : Cp} (h : b3D c) (hl : c.2.2.2.2.2.2.1.length ≤ 60000) : a04 (c, ()) = some (a5I c) :=
 c7 (ks := P8) (rs := P9) (x := (c, ())) ⟨a9u.2 h, trivial⟩ hl
theorem c08 : ∀ x r, a3p x = some r → ∃ N, a3s N x = some r := by
 refine c8 (ks := P6) (rs := P7) fun x hw hq => ⟨0, ?_⟩
 obtain ⟨c, u⟩ := x
 have hc : b3D c := a9u.1 hw.1
 unfold a3s
 refine (congrArg (fun o => Option.bind o _) (c3F hc)).trans ?_
 rw [Option.bind_some]
 by_cases h : a0X c = true
 ·rw [if_neg (by simp [h]), if_pos h]
  have hl : c.2.2.2.2.2.2.1.length ≤ 60000 := by
   unfold a0X at h
   simp only [Bool.and_eq_true, decide_eq_true_eq] at h
   omega
  exact congrArg (fun o => Option.bind o _) (c9p hc hl)
 ·rw [if_pos h, if_neg h]
theorem d28 {c : Cp} (h : b3D c) : a3p (c, ()) = some (if a0X c = true then a5I c else []) :=
 c7 (ks := P6) (rs := P7) (x := (c, ())) ⟨a9u.2 h, trivial⟩ trivial
theorem c9h {b : List Int} (h : b.length ≤ 1000000 ∧ bytes b) {size : Int} (hs : -9223372036854775808 ≤ size ∧ size ≤ 9223372036854775807) : a1u (b, size, ()) = some (c6Y b size) := by
 have hM : 1000000 ≤ maxLen := by decide
 exact c7 (ks := I5) (rs := I6) (x := (b, size, ())) ⟨(b0K (b := b)).2 ⟨by omega, h.2⟩, j7.2 hs, trivial⟩ h.1
def cp0 : Cp := (1, 2, 3, 4, 5, 6, [7], [], [], [], ())
theorem d4G : b3D cp0 := by
 have hM : 1000000 ≤ maxLen := by decide
 refine ⟨by decide, by decide, by decide, by decide, by decide, by decide, ⟨?_, ?_⟩, ⟨Nat.zero_le _, ?_⟩, ⟨Nat.zero_le _, ?_⟩, Nat.zero_le _, ?_⟩
 ·show 1 ≤ maxLen; omega
 ·intro z hz
  have hz : z ∈ [7] := hz
  rw [List.mem_singleton.1 hz]; omega
 ·intro z hz; cases hz
 ·intro z hz; cases hz
 ·intro z hz; cases hz
theorem d1t : (if a0X cp0 = true then a5I cp0 else []) = [1, 2, 0, 0, 0, 3, 0, 0, 0, 4, 0, 0, 0, 0, 0, 0, 0, 5, 0, 0, 0, 0, 0, 0, 0, 6, 0, 1, 7] := by decide +kernel
theorem d4F : c6Y [1, 2, 3, 4, 5] 2 = ([[1, 2], [3, 4], [5]], 0) := by decide +kernel
theorem c4G : ∀ x r, a12 x = some r → ∃ N, a6n N x = some r := by
 refine c8 (ks := b0l) (rs := b0m) fun x hw hq => ⟨0, ?_⟩
 have hb5 : bytes [1, 2, 3, 4, 5] := fun z hz => by
  simp only [List.mem_cons, List.not_mem_nil, or_false] at hz
  omega
 have c1 := c9h (b := [1, 2, 3, 4, 5]) ⟨by simp, hb5⟩ (size := 2) (by omega)
 rw [d4F] at c1
 have c2 := d28 d4G
 rw [d1t] at c2
 have c3 : a2l ([5], [5], ()) = some true := by
  have hb : bytes [5] := fun z hz => by rw [List.mem_singleton.1 hz]; omega
  have := d1c (a := [5]) (b := [5]) ⟨by simp, hb⟩ ⟨by simp, hb⟩
  rw [this]
  rfl
 unfold a6n
 refine (congrArg (fun o => Option.bind o _) c1).trans ?_
 rw [Option.bind_some]
 refine (congrArg (fun o => Option.bind o _) c2).trans ?_
 rw [Option.bind_some, if_pos (by decide), if_pos (by decide), if_pos (by decide), if_pos (by decide)]
 refine (congrArg (fun o => Option.bind o _) c3).trans ?_
 rw [Option.bind_some, if_pos rfl, if_pos (by decide), if_pos (by decide), if_pos (by decide), if_pos (by decide), if_pos (by decide), if_pos (by decide), if_pos (by decide), if_pos (by decide), if_pos (by decide), if_pos (by decide), if_pos (by decide), if_pos (by decide)]
 rfl
theorem d3d : a12 () = some true := c7 (ks := []) (rs := [.bool]) (x := ()) trivial trivial
end Go.Ax.TryP
set_option linter.unusedVariables false
namespace Go.Ax.TryP
open Go.Proofs
end Go.Ax.TryP
