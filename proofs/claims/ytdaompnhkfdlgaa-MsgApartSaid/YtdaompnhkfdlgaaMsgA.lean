/- A part of the proof: MsgI, MsgS, MsgP, MsgQ1, MsgQ2, MsgQ3, MsgQ4, MsgQ5, MsgQ6, MsgW. -/
import Derived.Test.YtdaompnhkfdlgaaMsgT
import Derived.Test.YtdaompnhkfdlgaaAxD
set_option linter.unusedVariables false
namespace Go.Ax.TryP
open Go.Proofs
theorem b6P : a9B Try.prog 81 "livery/msg.at" 90 := fun v w => by kernel_rfl
theorem b6Q : a9B Try.prog 95 "livery/msg.at" 91 := fun v w => by kernel_rfl
theorem b6R : a9B Try.prog 98 "livery/msg.at" 92 := fun v w => by kernel_rfl
theorem b4Q : a9B Try.prog 101 "livery/msg.at" 93 := fun v w => by kernel_rfl
theorem b4R : a9B Try.prog 102 "livery/msg.at" 94 := fun v w => by kernel_rfl
noncomputable def b1n : AE := AE.ofI [] [] [] [] [] [] []
noncomputable def a6a : Inl := a49 b1n 0 Try.f12
theorem a4I : S5 Try.prog 12 a6a := F2 (AE.ofI_ok c6 c6 c6 c6 c6) mix Try.func12 0
noncomputable def a7n : AE := AE.ofI [(3, ty3), (9, ty9), (25, ty25), (26, ty26), (28, ty28), (29, ty29), (31, ty31), (69, ty69), (73, ty73), (79, ty79), (81, ty81), (93, ty93), (95, ty95), (96, ty96), (98, ty98), (99, ty99), (101, ty101), (102, ty102)] [] [] [(12, a6a)] [31, 34, 44, 61, 71, 81, 91, 101] [(3, 8)] []
noncomputable def a1q : Inl := a49 a7n 0 Try.f57
theorem a1r : S5 Try.prog 57 a1q := F2 (AE.ofI_ok (all_cons a0a (all_cons b20 (all_cons a0I (all_cons V0 (all_cons a0J (all_cons s5 (all_cons H7 (all_cons b2a (all_cons b2b (all_cons b2c (all_cons b2d (all_cons b2e (all_cons b2f (all_cons b2g (all_cons b2h (all_cons b2i (all_cons a9t (all_cons a9u c6)))))))))))))))))) c6 c6 (all_cons ⟨a4I, S8⟩ c6) c6) mix Try.func57 0
noncomputable def a6c : AE := AE.ofI [] [] [] [] [] [] []
noncomputable def a0j : Inl := a49 a6c 0 Try.f90
theorem a0R : S5 Try.prog 90 a0j := F2 (AE.ofI_ok c6 c6 c6 c6 c6) mix Try.func90 0
noncomputable def a39 : AE := AE.ofI [] [] [] [] [] [] []
noncomputable def M8 : Inl := a49 a39 0 Try.f91
theorem Q6 : S5 Try.prog 91 M8 := F2 (AE.ofI_ok c6 c6 c6 c6 c6) mix Try.func91 0
noncomputable def a6e : AE := AE.ofI [] [] [] [] [] [] []
noncomputable def a0k : Inl := a49 a6e 0 Try.f92
theorem a0S : S5 Try.prog 92 a0k := F2 (AE.ofI_ok c6 c6 c6 c6 c6) mix Try.func92 0
noncomputable def a6b : AE := AE.ofI [] [] [] [] [] [] []
noncomputable def a0i : Inl := a49 a6b 0 Try.f93
theorem a0Q : S5 Try.prog 93 a0i := F2 (AE.ofI_ok c6 c6 c6 c6 c6) mix Try.func93 0
noncomputable def a48 : AE := AE.ofI [] [] [] [] [] [] []
noncomputable def T1 : Inl := a49 a48 0 Try.f94
theorem X1 : S5 Try.prog 94 T1 := F2 (AE.ofI_ok c6 c6 c6 c6 c6) mix Try.func94 0
noncomputable def a8J : AE := AE.ofI [(3, ty3), (25, ty25), (26, ty26), (93, ty93), (95, ty95), (96, ty96), (98, ty98), (99, ty99), (101, ty101), (102, ty102)] [] [] [] [] [] []
noncomputable def a6d : Inl := a49 a8J 0 Try.f63
theorem a7o : S5 Try.prog 63 a6d := F2 (AE.ofI_ok (all_cons a0a (all_cons a0I (all_cons V0 (all_cons b2e (all_cons b2f (all_cons b2g (all_cons b2h (all_cons b2i (all_cons a9t (all_cons a9u c6)))))))))) c6 c6 c6 c6) mix Try.func63 0
end Go.Ax.TryP
namespace Go.Ax.TryP
open Go.Proofs
noncomputable def l5 : List (List Int) × Unit → Option (List Int) := a0Z (ks := [.sls (.int .u8)]) (rs := [.sl (.int .u8)]) (fun x => x.1.length ≤ 1000 ∧ x.1.flatten.length ≤ 1000000) fun x => x.1.flatten
noncomputable def v4 : List (List Int) × Unit → Option (List Int) := a0Z (ks := [.sls (.int .u8)]) (rs := [.sl (.int .u8)]) (fun x => x.1.length ≤ 1000 ∧ x.1.flatten.length ≤ 1000000) fun x => x.1.flatten
noncomputable def m8 : List Int × List Int × Unit → Option Bool := a0Z (ks := [.sl (.int .u8), .sl (.int .u8)]) (rs := [.bool]) (fun _ => True) fun x => decide (x.1 = x.2.1)
noncomputable def E2 : List Int × List Int × Unit → Option Bool := a0Z (ks := [.sl (.int .u8), .sl (.int .u8)]) (rs := [.bool]) (fun _ => True) fun x => decide (x.1 = x.2.1)
def D1 (n : Int) (w : Nat) : List Int := (List.range w).map fun i => n / 2 ^ (8 * (w - 1 - i)) % 256
noncomputable def M7 : Int × Int × Unit → Option (List Int) := a0Z (ks := [.int .u64, .int .i64]) (rs := [.sl (.int .u8)]) (fun x => 0 ≤ x.2.1 ∧ x.2.1 ≤ 8) fun x => D1 x.1 x.2.1.toNat
noncomputable def G6 : Int × Int × Unit → Option (List Int) := a0Z (ks := [.int .u64, .int .i64]) (rs := [.sl (.int .u8)]) (fun x => 0 ≤ x.2.1 ∧ x.2.1 ≤ 8) fun x => D1 x.1 x.2.1.toNat
noncomputable def j9 : Int × Unit → Option (List Int) := a0Z (ks := [.int .u16]) (rs := [.sl (.int .u8)]) (fun _ => True) fun x => D1 x.1 2
def b4w (n w : Int) : Int := if w < 8 ∧ n / 2 ^ (8 * w.toNat) ≠ 0 then 3 else 0
noncomputable def Q4 : Int × Int × Unit → Option Int := a0Z (ks := [.int .u64, .int .i64]) (rs := [.int .i64]) (fun x => 1 ≤ x.2.1 ∧ x.2.1 ≤ 8) fun x => b4w x.1 x.2.1
noncomputable def c7 : Int × Int × Unit → Option (List Int × Int) := a0Z (ks := [.int .u64, .int .i64]) (rs := [.sl (.int .u8), .int .i64]) (fun x => 1 ≤ x.2.1 ∧ x.2.1 ≤ 8 ∧ b4w x.1 x.2.1 = 0) fun x => (D1 x.1 x.2.1.toNat, 0)
def b5B (lo hi : Int) : Bool := decide (lo < hi ∧ hi ≤ 1152921504606846976)
noncomputable def a15 : (Int × Int × Unit) × Unit → Option Bool := a0Z (ks := [.cat [.int .u64, .int .u64]]) (rs := [.bool]) (fun _ => True) fun x => b5B x.1.1 x.1.2.1
noncomputable def a14 : List Int × Unit → Option Bool := a0Z (ks := [.sla (.int .u64) 2]) (rs := [.bool]) (fun x => x.1.length = 2) fun x => b5B (x.1.getD 0 0) (x.1.getD 1 0)
noncomputable def Q3 : List Int × Unit → Option (List Int) := a0Z (ks := [.sl (.int .u8)]) (rs := [.sl .bool]) (fun x => x.1.length ≤ 1000000) fun x => p9 x.1
noncomputable def i0 : List Int × Unit → Option (List Int) := a0Z (ks := [.sl (.int .u8)]) (rs := [.sl (.int .u8)]) (fun x => x.1.length ≤ 1000000) fun x => x.1
def a38 (k : Int) : List Int := if k = 1 then [107, 114, 100, 99] else if k = 2 then [107, 114, 99, 115] else if k = 3 then [112, 110, 100] else if k = 4 then [110, 100] else if k = 5 then [107, 114, 115] else if k = 6 then [107, 114, 115] else []
def b8U (k : Int) : ByteArray := if k = 1 then ⟨#[107, 114, 100, 99]⟩ else if k = 2 then ⟨#[107, 114, 99, 115]⟩ else if k = 3 then ⟨#[112, 110, 100]⟩ else if k = 4 then ⟨#[110, 100]⟩ else if k = 5 then ⟨#[107, 114, 115]⟩ else if k = 6 then ⟨#[107, 114, 115]⟩ else ⟨#[]⟩
noncomputable def a25 : Int × Unit → Option ByteArray := a0Z (ks := [.int .i64]) (rs := [.str]) (fun _ => True) fun x => b8U x.1
def a5b (k : Int) : ByteArray := if k = 1 then ⟨#[111, 102, 102, 101, 114]⟩ else if k = 2 then ⟨#[97, 99, 99, 101, 112, 116]⟩ else if k = 3 then ⟨#[99, 104, 117, 110, 107]⟩ else if k = 4 then ⟨#[104, 97, 118, 101]⟩ else if k = 5 then ⟨#[99, 111, 110, 102, 105, 114, 109]⟩ else if k = 6 then ⟨#[114, 101, 102, 117, 115, 101]⟩ else if k = 7 then ⟨#[99, 97, 110, 99, 101, 108]⟩ else if k = 8 then ⟨#[112, 114, 111, 98, 101]⟩ else ⟨#[]⟩
noncomputable def V7 : Int × Unit → Option ByteArray := a0Z (ks := [.int .i64]) (rs := [.str]) (fun _ => True) fun x => a5b x.1
def p8 (k c : Int) : Bool := decide (c ∈ a38 k)
noncomputable def F0 : Int × Int × Unit → Option Bool := a0Z (ks := [.int .i64, .int .i32]) (rs := [.bool]) (fun _ => True) fun x => p8 x.1 x.2.1
def b5x (n : Int) : Bool := decide (0 ≤ n ∧ n < 16)
noncomputable def I5 : Int × Unit → Option Bool := a0Z (ks := [.int .i64]) (rs := [.bool]) (fun _ => True) fun x => b5x x.1
def a7t (k : Int) : Int := if k = 1 then 68 else 1024
noncomputable def a13 : Int × Unit → Option Int := a0Z (ks := [.int .i64]) (rs := [.int .i64]) (fun _ => True) fun x => a7t x.1
def a2n (is : Bool) (n : Nat) (m : Int) : Bool := if is = true then decide (1 ≤ n ∧ (n : Int) ≤ m) else decide (n = 0)
noncomputable def E1 : Bool × List Int × Int × Unit → Option Bool := a0Z (ks := [.bool, .sl (.int .u8), .int .i64]) (rs := [.bool]) (fun _ => True) fun x => a2n x.1 x.2.1.length x.2.2.1
def b1v (n : Int) (b : List Int) : Bool := decide ((b.length : Int) = (n + 7) / 8) && (List.range (8 * b.length)).all fun i => decide (a5Q b i = 0) || decide ((i : Int) < n)
noncomputable def Q0 : Int × List Int × Unit → Option Bool := a0Z (ks := [.int .i64, .sl (.int .u8)]) (rs := [.bool]) (fun x => 0 ≤ x.1 ∧ x.1 ≤ 1000) fun x => b1v x.1 x.2.1
abbrev Ms := Int × Int × Int × Int × Int × Int × Int × Int × Int × List Int × List Int × List Int × Unit
abbrev msL : List FK := [.int .i64, .int .i64, .int .i64, .int .u32, .int .u32, .int .u64, .int .u64, .int .i64, .int .i64, .sl (.int .u8), .sl (.int .u8), .sl (.int .u8)]
def a2U (m : Ms) : Bool := if p8 m.1 114 = true then b5B m.2.2.2.2.2.1 m.2.2.2.2.2.2.1 else decide (m.2.2.2.2.2.1 = 0 ∧ m.2.2.2.2.2.2.1 = 0 ∧ m.2.2.2.2.1 = 0)
noncomputable def Q2 : Ms × Unit → Option Bool := a0Z (ks := [.cat msL]) (rs := [.bool]) (fun _ => True) fun x => a2U x.1
def O7 (m : Ms) : Bool := decide (p8 m.1 110 = decide (m.2.2.2.2.2.2.2.2.1 ≠ 0)) && (decide (0 ≤ m.2.2.2.2.2.2.2.2.1 ∧ m.2.2.2.2.2.2.2.2.1 ≤ 256) && (if p8 m.1 112 = true then decide (0 ≤ m.2.2.2.2.2.2.2.1 ∧ m.2.2.2.2.2.2.2.1 < m.2.2.2.2.2.2.2.2.1) else decide (m.2.2.2.2.2.2.2.1 = 0)))
noncomputable def Q1 : Ms × Unit → Option Bool := a0Z (ks := [.cat msL]) (rs := [.bool]) (fun _ => True) fun x => O7 x.1
def okS (m : Ms) : Bool := b5x m.2.1 && (b5x m.2.2.1 && (decide (m.2.1 ≠ m.2.2.1) && (a2U m && (O7 m && (a2n (p8 m.1 100) m.2.2.2.2.2.2.2.2.2.1.length (a7t m.1) && (a2n (p8 m.1 99) m.2.2.2.2.2.2.2.2.2.2.1.length 6446 && (a2n (p8 m.1 115) m.2.2.2.2.2.2.2.2.2.2.2.1.length 3309 && (if m.1 = 4 then b1v m.2.2.2.2.2.2.2.2.1 m.2.2.2.2.2.2.2.2.2.1 else true))))))))
def x8 (m : Ms) : Int := if a5b m.1 = ⟨#[]⟩ then 211 else if okS m = true then 0 else 210
noncomputable def u2 : Ms × Unit → Option Int := a0Z (ks := [.cat msL]) (rs := [.int .i64]) (fun _ => True) fun x => x8 x.1
def B1 (m : Ms) (all : Bool) (c : Int) : List Int := if c = 107 then D1 m.2.2.2.2.1 4 else if c = 114 then D1 m.2.2.2.2.2.1 8 ++ D1 m.2.2.2.2.2.2.1 8 else if c = 112 then D1 m.2.2.2.2.2.2.2.1 2 else if c = 110 then D1 m.2.2.2.2.2.2.2.2.1 2
 else if c = 100 then D1 (m.2.2.2.2.2.2.2.2.2.1.length : Int) 2 ++ m.2.2.2.2.2.2.2.2.2.1 else if c = 99 then D1 (m.2.2.2.2.2.2.2.2.2.2.1.length : Int) 2 ++ m.2.2.2.2.2.2.2.2.2.2.1 else if c = 115 ∧ all = true then D1 (m.2.2.2.2.2.2.2.2.2.2.2.1.length : Int) 2 ++ m.2.2.2.2.2.2.2.2.2.2.2.1 else []
def a2j (m : Ms) : List Int := [m.1 % 256, m.2.1 % 256, m.2.2.1 % 256] ++ D1 m.2.2.2.1 4
def o5 (m : Ms) (all : Bool) : List Int := a2j m ++ ((a38 m.1).map (B1 m all)).flatten
def b78 (m : Ms) : Prop := (0 ≤ m.2.1 ∧ m.2.1 ≤ 255) ∧ (0 ≤ m.2.2.1 ∧ m.2.2.1 ≤ 255) ∧ (0 ≤ m.2.2.2.2.2.2.2.1 ∧ m.2.2.2.2.2.2.2.1 ≤ 65535) ∧ (0 ≤ m.2.2.2.2.2.2.2.2.1 ∧ m.2.2.2.2.2.2.2.2.1 ≤ 65535) ∧ m.2.2.2.2.2.2.2.2.2.1.length ≤ 60000 ∧ m.2.2.2.2.2.2.2.2.2.2.1.length ≤ 60000 ∧ m.2.2.2.2.2.2.2.2.2.2.2.1.length ≤ 60000
noncomputable def a1Z : Ms × Bool × Unit → Option (List Int) := a0Z (ks := [.cat msL, .bool]) (rs := [.sl (.int .u8)]) (fun x => b78 x.1) fun x => o5 x.1 x.2.1
noncomputable def a1p : List Int × Unit → Option (List Int) := a0Z (ks := [.sl (.int .u8)]) (rs := [.sl (.int .u8)]) (fun x => x.1.length ≤ 60000) fun x => D1 (x.1.length : Int) 2 ++ x.1
def b1a (m : Ms) : List Int × Int := if x8 m = 0 then (o5 m true, 0) else ([], x8 m)
noncomputable def V8 : Ms × Unit → Option (List Int × Int) := a0Z (ks := [.cat msL]) (rs := [.sl (.int .u8), .int .i64]) (fun _ => True) fun x => b1a x.1
noncomputable def v3 : Unit → Option Bool := a0Z (ks := []) (rs := [.bool]) (fun _ => True) fun _ => true
end Go.Ax.TryP
set_option linter.unusedVariables false
namespace Go.Ax.TryP
open Go.Proofs
noncomputable def p_octet_Join_E : AE := AE.of [(5, ty5), (29, ty29), (42, ty42)] []
noncomputable def U0 : Hints := [(3, [0, 3, 9, 10, 11]), (9, [6, 22, 23, 24]), (2000000, [0, 3]), (2000001, [0, 3, 9, 10, 11]), (2000002, [6]), (2000003, [6, 22, 23, 24]), (3000000, [2])]
noncomputable def C5 : Code := (Try.f37).body.getD .skip
noncomputable def a4o : Shape := mkS { tmps := .sc (.frs b8) :: V :: V :: .sc (.int .i64) :: pv 5 (.sc (.frs b8) :: .sc (.int .i64) :: .sc (.int .i64) :: pv 21 []), mem := [] } [.xss, .int, .xss, .int, .int]
abbrev W0 : Type := List (List Int) × Int × List (List Int) × Int × Int × Unit
abbrev W1 : Type := List (List Int) × Int × Unit
noncomputable def u4 (N : Nat) (β : Type) (x : W0) (kn : W0 → Option β) (ke : W1 → Option β) : Option β :=
 if (x.2.2.2.2.1 < x.2.2.2.1) then
  if 0 ≤ x.2.2.2.2.1 then (
  if x.2.2.2.2.1 < ((List.length x.2.2.1 : Nat) : Int) then (
  kn (x.1, (IntKind.i64.wrap (x.2.1 + ((List.length (List.getD x.2.2.1 (x.2.2.2.2.1.toNat) []) : Nat) : Int))), x.2.2.1, x.2.2.2.1, (IntKind.i64.wrap (x.2.2.2.2.1 + (1:Int))), ())) else none) else none
 else
  ke (x.1, x.2.1, ())
noncomputable def a3q : Go' W1 := fun y K => K (.exit 0) (fSt { tmps := .sc (.frs b8) :: V :: V :: .sc (.int .i64) :: pv 29 [], mem := [] } [.xss, .int] y)
noncomputable def Z0 (N : Nat) : LT := upd (LT.nil) 3 (a4c a4o N (u4 N) a3q)
theorem a3r (N : Nat) : OkAll p_octet_Join_E U0 N (Z0 N) (w3 C5) :=
 S6 (c := U9 3 C5) (OkAll.nil) (by kernel_rfl) (fun x => by kernel_rfl) (fun β x kn ke => by kernel_rfl)
noncomputable def a4p : Shape := mkS { tmps := pv 6 (.sc (.vec 0 none 1) :: pv 15 (.sc (.frs b8) :: .sc (.int .i64) :: .sc (.int .i64) :: pv 8 [])), mem := [.live [.xs b8 none] (.own)] } [.nat, .xss, .int, .int, .nat, .xs]
abbrev W2 : Type := Nat × List (List Int) × Int × Int × Nat × List Int × Unit
abbrev W3 : Type := Nat × Nat × List Int × Unit
noncomputable def u5 (N : Nat) (β : Type) (x : W2) (kn : W2 → Option β) (ke : W3 → Option β) : Option β :=
 if (x.2.2.2.1 < x.2.2.1) then
  if 0 ≤ x.2.2.2.1 then (
  if x.2.2.2.1 < ((List.length x.2.1 : Nat) : Int) then (
  if (x.1 + (List.length (List.getD x.2.1 (x.2.2.2.1.toNat) []))) * 1 ≤ 140737488355328 then (
  kn ((x.1 + (List.length (List.getD x.2.1 (x.2.2.2.1.toNat) []))), x.2.1, x.2.2.1, (IntKind.i64.wrap (x.2.2.2.1 + (1:Int))), (x.2.2.2.2.1 + (List.length (List.getD x.2.1 (x.2.2.2.1.toNat) []))), (x.2.2.2.2.2.1 ++ (List.getD x.2.1 (x.2.2.2.1.toNat) [])), ())) else none) else none) else none
 else
  ke (x.1, x.2.2.2.2.1, x.2.2.2.2.2.1, ())
noncomputable def a3s : Go' W3 := fun y K => K (.exit 2) (fSt { tmps := pv 6 (.sc (.vec 0 none 1) :: pv 26 []), mem := [.live [.xs b8 none] (.own)] } [.nat, .nat, .xs] y)
noncomputable def Z1 (N : Nat) : LT := upd (Z0 N) 9 (a4c a4p N (u5 N) a3s)
theorem a3t (N : Nat) : OkAll p_octet_Join_E U0 N (Z1 N) (w3 C5) :=
 S6 (c := U9 9 C5) (a3r N) (by kernel_rfl) (fun x => by kernel_rfl) (fun β x kn ke => by kernel_rfl)
abbrev y9 : List Kd := [.sls b8]
abbrev z0 : List Kd := [.sl b8]
noncomputable def R8 (N : Nat) (x : List (List Int) × Unit) : Option (List Int) :=
 a5a (u4 N) N (x.1, (0:Int), x.1, ((List.length x.1 : Nat) : Int), (0:Int), ()) fun y1 => (
 if 0 ≤ (0:Int) then (
 if (0:Int) ≤ y1.2.1 then (
 if y1.2.1 * 1 ≤ 281474976710656 then (
 a5a (u5 N) N (0, y1.1, ((List.length y1.1 : Nat) : Int), (0:Int), 0, (List.replicate 0 0), ()) fun y2 => (
 some y2.2.2.1)) else none) else none) else none)
theorem a5p : p_octet_Join_E.Ok Try.prog := AE.of_ok (all_cons a0Y (all_cons s5 (all_cons a9w c6))) c6
theorem a6K (hE : p_octet_Join_E.Ok Try.prog) {g : Ds y9 → Option (Rs z0)} (hg : ∀ x r, g x = some r → ∃ N, R8 N x = some r) : i1 Try.prog 37 ⟨y9, z0, g⟩ :=
 o9 (E := p_octet_Join_E) (H := U0) (L := fun N => Z1 N) (c := C5) (ks := y9) (rs := z0) (F := R8) hE mix Try.func37 (by kernel_rfl) (fun N => a3t N) (fun _ _ => by kernel_rfl) hg
noncomputable def p_ref01_Join_E : AE := AE.of [(5, ty5), (29, ty29), (42, ty42)] []
noncomputable def a2w : Hints := [(3, [3, 7, 8, 9]), (2000000, [3]), (2000001, [3, 7, 8, 9]), (3000000, [2])]
noncomputable def U3 : Code := (Try.f31).body.getD .skip
noncomputable def a4u : Shape := mkS { tmps := pv 3 (.sc (.vec 0 none 1) :: pv 3 (.sc (.frs b8) :: .sc (.int .i64) :: .sc (.int .i64) :: pv 8 [])), mem := [.live [.xs b8 none] (.own)] } [.nat, .xss, .int, .int, .nat, .xs]
noncomputable def u7 (N : Nat) (β : Type) (x : W2) (kn : W2 → Option β) (ke : W3 → Option β) : Option β :=
 if (x.2.2.2.1 < x.2.2.1) then
  if 0 ≤ x.2.2.2.1 then (
  if x.2.2.2.1 < ((List.length x.2.1 : Nat) : Int) then (
  if (x.1 + (List.length (List.getD x.2.1 (x.2.2.2.1.toNat) []))) * 1 ≤ 140737488355328 then (
  kn ((x.1 + (List.length (List.getD x.2.1 (x.2.2.2.1.toNat) []))), x.2.1, x.2.2.1, (IntKind.i64.wrap (x.2.2.2.1 + (1:Int))), (x.2.2.2.2.1 + (List.length (List.getD x.2.1 (x.2.2.2.1.toNat) []))), (x.2.2.2.2.2.1 ++ (List.getD x.2.1 (x.2.2.2.1.toNat) [])), ())) else none) else none) else none
 else
  ke (x.1, x.2.2.2.2.1, x.2.2.2.2.2.1, ())
noncomputable def a3x : Go' W3 := fun y K => K (.exit 0) (fSt { tmps := pv 3 (.sc (.vec 0 none 1) :: pv 14 []), mem := [.live [.xs b8 none] (.own)] } [.nat, .nat, .xs] y)
noncomputable def Z4 (N : Nat) : LT := upd (LT.nil) 3 (a4c a4u N (u7 N) a3x)
theorem a3y (N : Nat) : OkAll p_ref01_Join_E a2w N (Z4 N) (w3 U3) :=
 S6 (c := U9 3 U3) (OkAll.nil) (by kernel_rfl) (fun x => by kernel_rfl) (fun β x kn ke => by kernel_rfl)
abbrev z8 : List Kd := [.sls b8]
abbrev z9 : List Kd := [.sl b8]
noncomputable def S0 (N : Nat) (x : List (List Int) × Unit) : Option (List Int) :=
 a5a (u7 N) N (0, x.1, ((List.length x.1 : Nat) : Int), (0:Int), 0, (List.replicate 0 0), ()) fun y1 => (
 some y1.2.2.1)
theorem a5u : p_ref01_Join_E.Ok Try.prog := AE.of_ok (all_cons a0Y (all_cons s5 (all_cons a9w c6))) c6
theorem a6R (hE : p_ref01_Join_E.Ok Try.prog) {g : Ds z8 → Option (Rs z9)} (hg : ∀ x r, g x = some r → ∃ N, S0 N x = some r) : i1 Try.prog 31 ⟨z8, z9, g⟩ :=
 o9 (E := p_ref01_Join_E) (H := a2w) (L := fun N => Z4 N) (c := U3) (ks := z8) (rs := z9) (F := S0) hE mix Try.func31 (by kernel_rfl) (fun N => a3y N) (fun _ _ => by kernel_rfl) hg
noncomputable def p_ref01_Equal_E : AE := AE.of [(5, ty5), (9, ty9), (29, ty29)] []
noncomputable def a6P : Hints := [(3000000, [4])]
noncomputable def a6Q : Code := (Try.f19).body.getD .skip
abbrev s7 : List Kd := [.sl b8, .sl b8]
abbrev D6 : List Kd := [.bool]
noncomputable def L5 (N : Nat) (x : List Int × List Int × Unit) : Option (Bool) :=
 some (decide ((strOfNums x.1) = (strOfNums x.2.1)))
theorem a4t : p_ref01_Equal_E.Ok Try.prog := AE.of_ok (all_cons a0Y (all_cons b20 (all_cons s5 c6))) c6
theorem a5t (hE : p_ref01_Equal_E.Ok Try.prog) {g : Ds s7 → Option (Rs [.bool])} (hg : ∀ x r, g x = some r → ∃ N, L5 N x = some r) : i1 Try.prog 19 ⟨s7, [.bool], g⟩ :=
 o9 (E := p_ref01_Equal_E) (H := a6P) (L := fun N => LT.nil) (c := a6Q) (ks := s7) (rs := D6) (F := L5) hE mix Try.func19 (by kernel_rfl) (fun N => OkAll.nil) (fun _ _ => by kernel_rfl) hg
noncomputable def p_octet_big_E : AE := AE.of [(5, ty5), (26, ty26), (29, ty29)] []
noncomputable def a3w : Hints := [(3, [0, 1, 5, 10, 11]), (2000000, [5]), (2000001, [0, 1, 5, 10, 11]), (3000000, [4])]
noncomputable def a0y : Code := (Try.f71).body.getD .skip
noncomputable def a5r : Shape := mkS { tmps := .sc (.int .u64) :: .sc (.int .i64) :: pv 3 (.sc (.vec 0 none 1) :: pv 4 (.sc (.int .i64) :: .sc (.int .i64) :: pv 15 [])), mem := [.live [.xs b8 none] (.own)] } [.int, .int, .nat, .int, .int, .nat, .xs]
abbrev W4 : Type := Int × Int × Nat × Int × Int × Nat × List Int × Unit
noncomputable def w8 (N : Nat) (β : Type) (x : W4) (kn : W4 → Option β) (ke : W3 → Option β) : Option β :=
 if (x.2.2.2.2.1 < x.2.2.2.1) then
  if (IntKind.i64.wrap ((8:Int) * x.2.2.2.2.1)) < 0 then none else (
  if 0 ≤ (IntKind.i64.wrap ((IntKind.i64.wrap (x.2.1 - (1:Int))) - x.2.2.2.2.1)) then (
  if (IntKind.i64.wrap ((IntKind.i64.wrap (x.2.1 - (1:Int))) - x.2.2.2.2.1)) < ((x.2.2.1 : Nat) : Int) then (
  if ((IntKind.i64.wrap ((IntKind.i64.wrap (x.2.1 - (1:Int))) - x.2.2.2.2.1)).toNat) < x.2.2.2.2.2.1 then (
  kn (x.1, x.2.1, x.2.2.1, x.2.2.2.1, (IntKind.i64.wrap (x.2.2.2.2.1 + (1:Int))), x.2.2.2.2.2.1, (List.set x.2.2.2.2.2.2.1 ((IntKind.i64.wrap ((IntKind.i64.wrap (x.2.1 - (1:Int))) - x.2.2.2.2.1)).toNat) (IntKind.u8.wrap (b5A IntKind.u64 x.1 (IntKind.i64.wrap ((8:Int) * x.2.2.2.2.1))))), ())) else none) else none) else none)
 else
  ke (x.2.2.1, x.2.2.2.2.2.1, x.2.2.2.2.2.2.1, ())
noncomputable def a4r : Go' W3 := fun y K => K (.exit 0) (fSt { tmps := pv 5 (.sc (.vec 0 none 1) :: pv 21 []), mem := [.live [.xs b8 none] (.own)] } [.nat, .nat, .xs] y)
noncomputable def a0W (N : Nat) : LT := upd (LT.nil) 3 (a4c a5r N (w8 N) a4r)
theorem a4s (N : Nat) : OkAll p_octet_big_E a3w N (a0W N) (w3 a0y) :=
 S6 (c := U9 3 a0y) (OkAll.nil) (by kernel_rfl) (fun x => by kernel_rfl) (fun β x kn ke => by kernel_rfl)
abbrev C7 : List Kd := [.int .u64, .int .i64]
abbrev C8 : List Kd := [.sl b8]
noncomputable def a0x (N : Nat) (x : Int × Int × Unit) : Option (List Int) :=
 if 0 ≤ x.2.1 then (
 if x.2.1 = x.2.1 then (
 if x.2.1 * 1 ≤ 281474976710656 then (
 a5a (w8 N) N (x.1, x.2.1, (x.2.1.toNat), (((x.2.1.toNat) : Nat) : Int), (0:Int), (x.2.1.toNat), (List.replicate (x.2.1.toNat) 0), ()) fun y1 => (
 some y1.2.2.1)) else none) else none) else none
theorem a6N : p_octet_big_E.Ok Try.prog := AE.of_ok (all_cons a0Y (all_cons V0 (all_cons s5 c6))) c6
theorem a7O (hE : p_octet_big_E.Ok Try.prog) {g : Ds C7 → Option (Rs C8)} (hg : ∀ x r, g x = some r → ∃ N, a0x N x = some r) : i1 Try.prog 71 ⟨C7, C8, g⟩ :=
 o9 (E := p_octet_big_E) (H := a3w) (L := fun N => a0W N) (c := a0y) (ks := C7) (rs := C8) (F := a0x) hE mix Try.func71 (by kernel_rfl) (fun N => a4s N) (fun _ _ => by kernel_rfl) hg
noncomputable abbrev M2 : Sig := ⟨[.int .u64, .int .i64], [.sl b8], M7⟩
noncomputable def p_octet_U16_E : AE := AE.of [(26, ty26), (84, ty84)] [(71, M2)]
noncomputable def a86 : Hints := [(3000000, [2])]
noncomputable def a87 : Code := (Try.f61).body.getD .skip
abbrev U2 : List Kd := [.int .u16]
abbrev C6 : List Kd := [.sl b8]
noncomputable def a0w (N : Nat) (x : Int × Unit) : Option (List Int) :=
 (M7 ((IntKind.u64.wrap x.1), (2:Int), ())).bind fun r1 => (
 some r1)
theorem a6M (e0 : i1 Try.prog 71 M2) : p_octet_U16_E.Ok Try.prog := AE.of_ok (all_cons V0 (all_cons b5q c6)) (all_cons ⟨e0, a0O⟩ c6)
theorem a7N (hE : p_octet_U16_E.Ok Try.prog) {g : Ds [.int .u16] → Option (Rs C6)} (hg : ∀ x r, g x = some r → ∃ N, a0w N x = some r) : i1 Try.prog 61 ⟨[.int .u16], C6, g⟩ :=
 o9 (E := p_octet_U16_E) (H := a86) (L := fun N => LT.nil) (c := a87) (ks := U2) (rs := C6) (F := a0w) hE mix Try.func61 (by kernel_rfl) (fun N => OkAll.nil) (fun _ _ => by kernel_rfl) hg
noncomputable def p_octet_fits_E : AE := AE.of [] []
noncomputable def a7P : Hints := [(2000000, []), (3000000, [4])]
noncomputable def a7Q : Code := (Try.f72).body.getD .skip
abbrev z7 : List Kd := [.int .u64, .int .i64]
abbrev O4 : List Kd := [.int .i64]
noncomputable def J7 (N : Nat) (x : Int × Int × Unit) : Option (Int) :=
 if (x.2.1 < (1:Int)) then
  some (1:Int)
 else
  if (x.2.1 > (8:Int)) then
   some (1:Int)
  else
   if (x.2.1 < (8:Int)) then
    if (IntKind.i64.wrap ((8:Int) * x.2.1)) < 0 then none else (
    if ((b5A IntKind.u64 x.1 (IntKind.i64.wrap ((8:Int) * x.2.1))) ≠ (0:Int)) then
     some (3:Int)
    else
     some (0:Int))
   else
    some (0:Int)
theorem a5s : p_octet_fits_E.Ok Try.prog := AE.of_ok c6 c6
theorem a6O (hE : p_octet_fits_E.Ok Try.prog) {g : Ds z7 → Option (Rs [.int .i64])} (hg : ∀ x r, g x = some r → ∃ N, J7 N x = some r) : i1 Try.prog 72 ⟨z7, [.int .i64], g⟩ :=
 o9 (E := p_octet_fits_E) (H := a7P) (L := fun N => LT.nil) (c := a7Q) (ks := z7) (rs := O4) (F := J7) hE mix Try.func72 (by kernel_rfl) (fun N => OkAll.nil) (fun _ _ => by kernel_rfl) hg
noncomputable abbrev a1e : Sig := ⟨[.int .u64, .int .i64], [.int .i64], Q4⟩
noncomputable def p_octet_Big_E : AE := AE.of [] [(72, a1e), (71, M2)]
noncomputable def a84 : Hints := [(3000000, [4, 5])]
noncomputable def a85 : Code := (Try.f62).body.getD .skip
abbrev B9 : List Kd := [.int .u64, .int .i64]
abbrev C3 : List Kd := [.sl b8, .int .i64]
noncomputable def a0v (N : Nat) (x : Int × Int × Unit) : Option (List Int × Int) :=
 (Q4 (x.1, x.2.1, ())).bind fun r1 => (
 if (r1 ≠ (0:Int)) then
  some ([], r1)
 else
  (M7 (x.1, x.2.1, ())).bind fun r2 => (
  some (r2, (0:Int))))
theorem a6I (e0 : i1 Try.prog 72 a1e) (e1 : i1 Try.prog 71 M2) : p_octet_Big_E.Ok Try.prog := AE.of_ok c6 (all_cons ⟨e0, a34⟩ (all_cons ⟨e1, a0O⟩ c6))
theorem a7M (hE : p_octet_Big_E.Ok Try.prog) {g : Ds B9 → Option (Rs C3)} (hg : ∀ x r, g x = some r → ∃ N, a0v N x = some r) : i1 Try.prog 62 ⟨B9, C3, g⟩ :=
 o9 (E := p_octet_Big_E) (H := a84) (L := fun N => LT.nil) (c := a85) (ks := B9) (rs := C3) (F := a0v) hE mix Try.func62 (by kernel_rfl) (fun N => OkAll.nil) (fun _ _ => by kernel_rfl) hg
noncomputable def p_span_one_E : AE := AE.of [(26, ty26), (28, ty28)] []
noncomputable def b0l : Hints := [(3000000, [2])]
noncomputable def b0m : Code := (Try.f73).body.getD .skip
abbrev F9 : List Kd := [.cat [.int .u64, .int .u64]]
abbrev a0A : List Kd := [.bool]
noncomputable def a2e (N : Nat) (x : (Int × Int × Unit) × Unit) : Option (Bool) :=
 if (x.1.1 < x.1.2.1) then
  some (decide (x.1.2.1 ≤ (1152921504606846976:Int)))
 else
  some false
theorem a7U : p_span_one_E.Ok Try.prog := AE.of_ok (all_cons V0 (all_cons a0J c6)) c6
theorem a89 (hE : p_span_one_E.Ok Try.prog) {g : Ds F9 → Option (Rs [.bool])} (hg : ∀ x r, g x = some r → ∃ N, a2e N x = some r) : i1 Try.prog 73 ⟨F9, [.bool], g⟩ :=
 o9 (E := p_span_one_E) (H := b0l) (L := fun N => LT.nil) (c := b0m) (ks := F9) (rs := a0A) (F := a2e) hE mix Try.func73 (by kernel_rfl) (fun N => OkAll.nil) (fun _ _ => by kernel_rfl) hg
noncomputable abbrev a3P : Sig := ⟨[.cat [.int .u64, .int .u64]], [.bool], a15⟩
noncomputable def p_span_May_E : AE := AE.of [(26, ty26), (28, ty28), (90, ty90)] [(73, a3P)]
noncomputable def a4N : Hints := [(2, [0, 5, 6, 7]), (2000000, [0]), (2000001, [0, 5, 6, 7]), (3000000, [2])]
noncomputable def a1M : Code := (Try.f66).body.getD .skip
noncomputable def a6T : Shape := mkS { tmps := .sc (.vec 0 none 2) :: pv 4 (.sc (.vec 0 none 2) :: .sc (.int .i64) :: .sc (.int .i64) :: pv 26 []), mem := [.live [.xs (.int .u64) none] (.ro)] } [.nat, .nat, .int, .int, .nat, .xs]
abbrev W5 : Type := Nat × Nat × Int × Int × Nat × List Int × Unit
abbrev W6 : Type := (Bool × Unit) ⊕ (Nat × Nat × List Int × Unit)
noncomputable def F8 (N : Nat) (β : Type) (x : W5) (kn : W5 → Option β) (ke : W6 → Option β) : Option β :=
 if (x.2.2.2.1 < x.2.2.1) then
  if 0 ≤ x.2.2.2.1 then (
  if x.2.2.2.1 < ((x.2.1 : Nat) : Int) then (
  if ((x.2.2.2.1.toNat) * 2) + 2 ≤ x.2.2.2.2.1 then (
  (a15 (((List.getD (List.take 1 (List.take 2 (List.drop ((x.2.2.2.1.toNat) * 2) x.2.2.2.2.2.1))) 0 0), (List.getD (List.drop 1 (List.take 2 (List.drop ((x.2.2.2.1.toNat) * 2) x.2.2.2.2.2.1))) 0 0), ()), ())).bind fun r1 => (
  if (¬ (r1 = true)) then
   ke (.inl (false, ()))
  else
   if (x.2.2.2.1 > (0:Int)) then
    if 0 ≤ (IntKind.i64.wrap (x.2.2.2.1 - (1:Int))) then (
    if (IntKind.i64.wrap (x.2.2.2.1 - (1:Int))) < ((x.1 : Nat) : Int) then (
    if (1 + (((IntKind.i64.wrap (x.2.2.2.1 - (1:Int))).toNat) * 2)) < x.2.2.2.2.1 then (
    if ((List.getD (List.take 2 (List.drop ((x.2.2.2.1.toNat) * 2) x.2.2.2.2.2.1)) 0 0) ≤ (List.getD x.2.2.2.2.2.1 (1 + (((IntKind.i64.wrap (x.2.2.2.1 - (1:Int))).toNat) * 2)) 0)) then
     ke (.inl (false, ()))
    else
     kn (x.1, x.2.1, x.2.2.1, (IntKind.i64.wrap (x.2.2.2.1 + (1:Int))), x.2.2.2.2.1, x.2.2.2.2.2.1, ())) else none) else none) else none
   else
    kn (x.1, x.2.1, x.2.2.1, (IntKind.i64.wrap (x.2.2.2.1 + (1:Int))), x.2.2.2.2.1, x.2.2.2.2.2.1, ()))) else none) else none) else none
 else
  ke (.inr (x.1, x.2.2.2.2.1, x.2.2.2.2.2.1, ()))
noncomputable def a5w : Go' W6 := fun y K => match y with
 | .inl y => K .ret (fSt { tmps := V :: V :: .sc (.bool) :: pv 31 [], mem := [] } [.bool] y)
 | .inr y => K (.exit 0) (fSt { tmps := .sc (.vec 0 none 2) :: pv 33 [], mem := [.live [.xs (.int .u64) none] (.ro)] } [.nat, .nat, .xs] y)
noncomputable def a1N (N : Nat) : LT := upd (LT.nil) 2 (a4c a6T N (F8 N) a5w)
theorem a5x (N : Nat) : OkAll p_span_May_E a4N N (a1N N) (w3 a1M) :=
 S6 (c := U9 2 a1M) (OkAll.nil) (by kernel_rfl) (fun x => by kernel_rfl) (fun β x kn ke => by kernel_rfl)
abbrev F7 : List Kd := [.sla (.int .u64) 2]
abbrev a0z : List Kd := [.bool]
noncomputable def a2d (N : Nat) (x : List Int × Unit) : Option (Bool) :=
 a5a (F8 N) N ((List.length x.1 / 2), (List.length x.1 / 2), (((List.length x.1 / 2) : Nat) : Int), (0:Int), (List.length x.1), x.1, ()) fun y => (match y with
 | .inl y2 => (
  some y2.1)
 | .inr y3 => (
  some (decide (((y3.1 : Nat) : Int) ≤ (64:Int)))))
theorem a7T (e0 : i1 Try.prog 73 a3P) : p_span_May_E.Ok Try.prog := AE.of_ok (all_cons V0 (all_cons a0J (all_cons b5r c6))) (all_cons ⟨e0, a56⟩ c6)
theorem a88 (hE : p_span_May_E.Ok Try.prog) {g : Ds F7 → Option (Rs [.bool])} (hg : ∀ x r, g x = some r → ∃ N, a2d N x = some r) : i1 Try.prog 66 ⟨F7, [.bool], g⟩ :=
 o9 (E := p_span_May_E) (H := a4N) (L := fun N => a1N N) (c := a1M) (ks := F7) (rs := a0z) (F := a2d) hE mix Try.func66 (by kernel_rfl) (fun N => a5x N) (fun _ _ => by kernel_rfl) hg
noncomputable def p_octet_Bits_E : AE := AE.of [(4, ty4), (5, ty5), (29, ty29), (43, ty43)] []
noncomputable def T9 : Hints := [(3, [3, 11, 12, 13]), (6, [3, 5, 11, 12, 13, 17]), (2000000, [3]), (2000001, [3, 11, 12, 13]), (2000002, [3, 11, 12, 13]), (2000003, [3, 5, 11, 12, 13, 17]), (3000000, [2])]
noncomputable def C4 : Code := (Try.f40).body.getD .skip
noncomputable def a4n : Shape := mkS { tmps := pv 3 (.sc (.vec 0 none 1) :: V :: .sc (.int .u8) :: pv 5 (.sc (.vec 1 none 1) :: .sc (.int .i64) :: .sc (.int .i64) :: pv 3 (.sc (.int .i64) :: pv 13 []))), mem := [.live [.xs .bool none] (.own), .live [.xs b8 none] (.ro)] } [.nat, .int, .nat, .int, .int, .int, .nat, .xs, .nat, .xs]
abbrev W7 : Type := Nat × Int × Nat × Int × Int × Int × Nat × List Int × Nat × List Int × Unit
abbrev W8 : Type := Nat × Nat × Int × Int × Nat × List Int × Nat × List Int × Unit
noncomputable def A7 (N : Nat) (β : Type) (x : W7) (kn : W7 → Option β) (ke : W8 → Option β) : Option β :=
 if (x.2.2.2.2.2.1 < (8:Int)) then
  if x.2.2.2.2.2.1 < 0 then none else (
  if (x.1 + 1) * 1 ≤ 140737488355328 then (
  kn ((x.1 + 1), x.2.1, x.2.2.1, x.2.2.2.1, x.2.2.2.2.1, (IntKind.i64.wrap (x.2.2.2.2.2.1 + (1:Int))), (x.2.2.2.2.2.2.1 + 1), (x.2.2.2.2.2.2.2.1 ++ (List.set (List.replicate 1 0) 0 (if ((b7O IntKind.u8 (b5A IntKind.u8 x.2.1 x.2.2.2.2.2.1) (1:Int)) = (1:Int)) then (1:Int) else 0))), x.2.2.2.2.2.2.2.2.1, x.2.2.2.2.2.2.2.2.2.1, ())) else none)
 else
  ke (x.1, x.2.2.1, x.2.2.2.1, x.2.2.2.2.1, x.2.2.2.2.2.2.1, x.2.2.2.2.2.2.2.1, x.2.2.2.2.2.2.2.2.1, x.2.2.2.2.2.2.2.2.2.1, ())
noncomputable def a3o : Go' W8 := fun y K => K (.exit 2) (fSt { tmps := pv 3 (.sc (.vec 0 none 1) :: pv 7 (.sc (.vec 1 none 1) :: .sc (.int .i64) :: .sc (.int .i64) :: pv 17 [])), mem := [.live [.xs .bool none] (.own), .live [.xs b8 none] (.ro)] } [.nat, .nat, .int, .int, .nat, .xs, .nat, .xs] y)
noncomputable def Y9 (N : Nat) : LT := upd (LT.nil) 6 (a4c a4n N (A7 N) a3o)
theorem a3p (N : Nat) : OkAll p_octet_Bits_E T9 N (Y9 N) (w3 C4) :=
 S6 (c := U9 6 C4) (OkAll.nil) (by kernel_rfl) (fun x => by kernel_rfl) (fun β x kn ke => by kernel_rfl)
noncomputable def a4m : Shape := mkS { tmps := pv 3 (.sc (.vec 0 none 1) :: pv 7 (.sc (.vec 1 none 1) :: .sc (.int .i64) :: .sc (.int .i64) :: pv 17 [])), mem := [.live [.xs .bool none] (.own), .live [.xs b8 none] (.ro)] } [.nat, .nat, .int, .int, .nat, .xs, .nat, .xs]
noncomputable def A6 (N : Nat) (β : Type) (x : W8) (kn : W8 → Option β) (ke : W3 → Option β) : Option β :=
 if (x.2.2.2.1 < x.2.2.1) then
  if 0 ≤ x.2.2.2.1 then (
  if x.2.2.2.1 < ((x.2.1 : Nat) : Int) then (
  if (x.2.2.2.1.toNat) < x.2.2.2.2.2.2.1 then (
  a5a (A7 N) N (x.1, (List.getD x.2.2.2.2.2.2.2.1 (x.2.2.2.1.toNat) 0), x.2.1, x.2.2.1, x.2.2.2.1, (0:Int), x.2.2.2.2.1, x.2.2.2.2.2.1, x.2.2.2.2.2.2.1, x.2.2.2.2.2.2.2.1, ()) fun y1 => (
  kn (y1.1, y1.2.1, y1.2.2.1, (IntKind.i64.wrap (y1.2.2.2.1 + (1:Int))), y1.2.2.2.2.1, y1.2.2.2.2.2.1, y1.2.2.2.2.2.2.1, y1.2.2.2.2.2.2.2.1, ()))) else none) else none) else none
 else
  ke (x.1, x.2.2.2.2.1, x.2.2.2.2.2.1, ())
noncomputable def a3m : Go' W3 := fun y K => K (.exit 0) (fSt { tmps := pv 3 (.sc (.vec 0 none 1) :: pv 27 []), mem := [.live [.xs .bool none] (.own)] } [.nat, .nat, .xs] y)
noncomputable def Y7 (N : Nat) : LT := upd (Y9 N) 3 (a4c a4m N (A6 N) a3m)
theorem a3n (N : Nat) : OkAll p_octet_Bits_E T9 N (Y7 N) (w3 C4) :=
 S6 (c := U9 3 C4) (a3p N) (by kernel_rfl) (fun x => by kernel_rfl) (fun β x kn ke => by kernel_rfl)
abbrev y8 : List Kd := [.sl b8]
abbrev O2 : List Kd := [.sl .bool]
noncomputable def R7 (N : Nat) (x : List Int × Unit) : Option (List Int) :=
 if 0 ≤ (0:Int) then (
 if (0:Int) ≤ (IntKind.i64.wrap ((8:Int) * (((List.length x.1) : Nat) : Int))) then (
 if (IntKind.i64.wrap ((8:Int) * (((List.length x.1) : Nat) : Int))) * 1 ≤ 281474976710656 then (
 a5a (A6 N) N (0, (List.length x.1), (((List.length x.1) : Nat) : Int), (0:Int), 0, (List.replicate 0 0), (List.length x.1), x.1, ()) fun y2 => (
 some y2.2.2.1)) else none) else none) else none
theorem a5o : p_octet_Bits_E.Ok Try.prog := AE.of_ok (all_cons b2Z (all_cons a0Y (all_cons s5 (all_cons b5o c6)))) c6
theorem a6J (hE : p_octet_Bits_E.Ok Try.prog) {g : Ds y8 → Option (Rs [.sl .bool])} (hg : ∀ x r, g x = some r → ∃ N, R7 N x = some r) : i1 Try.prog 40 ⟨y8, [.sl .bool], g⟩ :=
 o9 (E := p_octet_Bits_E) (H := T9) (L := fun N => Y7 N) (c := C4) (ks := y8) (rs := O2) (F := R7) hE mix Try.func40 (by kernel_rfl) (fun N => a3n N) (fun _ _ => by kernel_rfl) hg
noncomputable def p_msg_Has_E : AE := AE.ofI [] [] [] [] [] [] []
noncomputable def b1B : Hints := [(2000000, []), (3000000, [2])]
noncomputable def b1C : Code := (Try.f12).body.getD .skip
abbrev a1G : List Kd := [.int .i64]
abbrev a1H : List Kd := [.str]
noncomputable def a3i (N : Nat) (x : Int × Unit) : Option (ByteArray) :=
 if (x.1 = (1:Int)) then
  some (⟨#[107, 114, 100, 99]⟩ : ByteArray)
 else
  if (x.1 = (2:Int)) then
   some (⟨#[107, 114, 99, 115]⟩ : ByteArray)
  else
   if (x.1 = (3:Int)) then
    some (⟨#[112, 110, 100]⟩ : ByteArray)
   else
    if (x.1 = (4:Int)) then
     some (⟨#[110, 100]⟩ : ByteArray)
    else
     if (x.1 = (5:Int)) then
      some (⟨#[107, 114, 115]⟩ : ByteArray)
     else
      if (x.1 = (6:Int)) then
       some (⟨#[107, 114, 115]⟩ : ByteArray)
      else
       some (⟨#[]⟩ : ByteArray)
theorem a8X : p_msg_Has_E.Ok Try.prog := AE.ofI_ok c6 c6 c6 c6 c6
theorem b0a (hE : p_msg_Has_E.Ok Try.prog) {g : Ds [.int .i64] → Option (Rs [.str])} (hg : ∀ x r, g x = some r → ∃ N, a3i N x = some r) : i1 Try.prog 12 ⟨[.int .i64], [.str], g⟩ :=
 o9 (E := p_msg_Has_E) (H := b1B) (L := fun N => LT.nil) (c := b1C) (ks := a1G) (rs := a1H) (F := a3i) hE mix Try.func12 (by kernel_rfl) (fun N => OkAll.nil) (fun _ _ => by kernel_rfl) hg
noncomputable def p_msg_Name_E : AE := AE.of [(9, ty9), (52, ty52)] []
noncomputable def b0b : Hints := [(3000000, [2])]
noncomputable def b0c : Code := (Try.f14).body.getD .skip
abbrev a0q : List Kd := [.int .i64]
abbrev a0r : List Kd := [.str]
noncomputable def Y4 (N : Nat) (x : Int × Unit) : Option (ByteArray) :=
 if (x.1 < (0:Int)) then
  some (⟨#[]⟩ : ByteArray)
 else
  if (x.1 ≥ (9:Int)) then
   some (⟨#[]⟩ : ByteArray)
  else
   if 0 ≤ x.1 then (
   if x.1 < 9 then (
   if (x.1.toNat) = 0 then
    some (⟨#[]⟩ : ByteArray)
   else
    if (x.1.toNat) = 1 then
     some (⟨#[111, 102, 102, 101, 114]⟩ : ByteArray)
    else
     if (x.1.toNat) = 2 then
      some (⟨#[97, 99, 99, 101, 112, 116]⟩ : ByteArray)
     else
      if (x.1.toNat) = 3 then
       some (⟨#[99, 104, 117, 110, 107]⟩ : ByteArray)
      else
       if (x.1.toNat) = 4 then
        some (⟨#[104, 97, 118, 101]⟩ : ByteArray)
       else
        if (x.1.toNat) = 5 then
         some (⟨#[99, 111, 110, 102, 105, 114, 109]⟩ : ByteArray)
        else
         if (x.1.toNat) = 6 then
          some (⟨#[114, 101, 102, 117, 115, 101]⟩ : ByteArray)
         else
          if (x.1.toNat) = 7 then
           some (⟨#[99, 97, 110, 99, 101, 108]⟩ : ByteArray)
          else
           if (x.1.toNat) = 8 then (
           some (⟨#[112, 114, 111, 98, 101]⟩ : ByteArray)) else none) else none) else none
theorem a7A : p_msg_Name_E.Ok Try.prog := AE.of_ok (all_cons b20 (all_cons b7J c6)) c6
theorem a8Y (hE : p_msg_Name_E.Ok Try.prog) {g : Ds [.int .i64] → Option (Rs [.str])} (hg : ∀ x r, g x = some r → ∃ N, Y4 N x = some r) : i1 Try.prog 14 ⟨[.int .i64], [.str], g⟩ :=
 o9 (E := p_msg_Name_E) (H := b0b) (L := fun N => LT.nil) (c := b0c) (ks := a0q) (rs := a0r) (F := Y4) hE mix Try.func14 (by kernel_rfl) (fun N => OkAll.nil) (fun _ _ => by kernel_rfl) hg
noncomputable def p_msg_has_E : AE := AE.ofI [(9, ty9)] [] [] [(12, a6a)] [11] [(2, 8)] []
noncomputable def b1F : Hints := [(3000000, [4])]
noncomputable def b1G : Code := (Try.f36).body.getD .skip
abbrev J2 : List Kd := [.int .i64, .int .i32]
abbrev a1K : List Kd := [.bool]
noncomputable def a1J (N : Nat) (x : Int × Int × Unit) : Option (Bool) :=
 if (x.1 = (1:Int)) then
  if ((107:Int) = x.2.1) then
   some true
  else
   if ((114:Int) = x.2.1) then
    some true
   else
    if ((100:Int) = x.2.1) then
     some true
    else
     if ((99:Int) = x.2.1) then
      some true
     else
      some false
 else
  if (x.1 = (2:Int)) then
   if ((107:Int) = x.2.1) then
    some true
   else
    if ((114:Int) = x.2.1) then
     some true
    else
     if ((99:Int) = x.2.1) then
      some true
     else
      if ((115:Int) = x.2.1) then
       some true
      else
       some false
  else
   if (x.1 = (3:Int)) then
    if ((112:Int) = x.2.1) then
     some true
    else
     if ((110:Int) = x.2.1) then
      some true
     else
      if ((100:Int) = x.2.1) then
       some true
      else
       some false
   else
    if (x.1 = (4:Int)) then
     if ((110:Int) = x.2.1) then
      some true
     else
      if ((100:Int) = x.2.1) then
       some true
      else
       some false
    else
     if (x.1 = (5:Int)) then
      if ((107:Int) = x.2.1) then
       some true
      else
       if ((114:Int) = x.2.1) then
        some true
       else
        if ((115:Int) = x.2.1) then
         some true
        else
         some false
     else
      if (x.1 = (6:Int)) then
       if ((107:Int) = x.2.1) then
        some true
       else
        if ((114:Int) = x.2.1) then
         some true
        else
         if ((115:Int) = x.2.1) then
          some true
         else
          some false
      else
       some false
theorem a82 : p_msg_has_E.Ok Try.prog := AE.ofI_ok (all_cons b20 c6) c6 c6 (all_cons ⟨a4I, S8⟩ c6) c6
theorem b0i (hE : p_msg_has_E.Ok Try.prog) {g : Ds J2 → Option (Rs [.bool])} (hg : ∀ x r, g x = some r → ∃ N, a1J N x = some r) : i1 Try.prog 36 ⟨J2, [.bool], g⟩ :=
 o9 (E := p_msg_has_E) (H := b1F) (L := fun N => LT.nil) (c := b1G) (ks := J2) (rs := a1K) (F := a1J) hE mix Try.func36 (by kernel_rfl) (fun N => OkAll.nil) (fun _ _ => by kernel_rfl) hg
noncomputable def p_msg_device_E : AE := AE.of [] []
noncomputable def a7C : Hints := [(3000000, [2])]
noncomputable def a7D : Code := (Try.f43).body.getD .skip
abbrev N5 : List Kd := [.int .i64]
abbrev N6 : List Kd := [.bool]
noncomputable def R5 (N : Nat) (x : Int × Unit) : Option (Bool) :=
 if (x.1 ≥ (0:Int)) then
  some (decide (x.1 < (16:Int)))
 else
  some false
theorem a5i : p_msg_device_E.Ok Try.prog := AE.of_ok c6 c6
theorem a6D (hE : p_msg_device_E.Ok Try.prog) {g : Ds [.int .i64] → Option (Rs [.bool])} (hg : ∀ x r, g x = some r → ∃ N, R5 N x = some r) : i1 Try.prog 43 ⟨[.int .i64], [.bool], g⟩ :=
 o9 (E := p_msg_device_E) (H := a7C) (L := fun N => LT.nil) (c := a7D) (ks := N5) (rs := N6) (F := R5) hE mix Try.func43 (by kernel_rfl) (fun N => OkAll.nil) (fun _ _ => by kernel_rfl) hg
noncomputable def p_msg_most_E : AE := AE.of [] []
noncomputable def b0j : Hints := [(3000000, [2])]
noncomputable def b0k : Code := (Try.f47).body.getD .skip
abbrev a0t : List Kd := [.int .i64]
abbrev a0u : List Kd := [.int .i64]
noncomputable def a2c (N : Nat) (x : Int × Unit) : Option (Int) :=
 if (x.1 = (1:Int)) then
  some (68:Int)
 else
  some (1024:Int)
theorem a7F : p_msg_most_E.Ok Try.prog := AE.of_ok c6 c6
theorem a83 (hE : p_msg_most_E.Ok Try.prog) {g : Ds [.int .i64] → Option (Rs [.int .i64])} (hg : ∀ x r, g x = some r → ∃ N, a2c N x = some r) : i1 Try.prog 47 ⟨[.int .i64], [.int .i64], g⟩ :=
 o9 (E := p_msg_most_E) (H := b0j) (L := fun N => LT.nil) (c := b0k) (ks := a0t) (rs := a0u) (F := a2c) hE mix Try.func47 (by kernel_rfl) (fun N => OkAll.nil) (fun _ _ => by kernel_rfl) hg
noncomputable def p_msg_within_E : AE := AE.of [(29, ty29)] []
noncomputable def a7K : Hints := [(3000000, [6])]
noncomputable def a7L : Code := (Try.f46).body.getD .skip
abbrev y7 : List Kd := [.bool, .sl b8, .int .i64]
abbrev O0 : List Kd := [.bool]
noncomputable def J6 (N : Nat) (x : Bool × List Int × Int × Unit) : Option (Bool) :=
 if (¬ (x.1 = true)) then
  some (decide ((((List.length x.2.1) : Nat) : Int) = (0:Int)))
 else
  if ((((List.length x.2.1) : Nat) : Int) ≥ (1:Int)) then
   some (decide ((((List.length x.2.1) : Nat) : Int) ≤ x.2.2.1))
  else
   some false
theorem a5m : p_msg_within_E.Ok Try.prog := AE.of_ok (all_cons s5 c6) c6
theorem a6H (hE : p_msg_within_E.Ok Try.prog) {g : Ds y7 → Option (Rs [.bool])} (hg : ∀ x r, g x = some r → ∃ N, J6 N x = some r) : i1 Try.prog 46 ⟨y7, [.bool], g⟩ :=
 o9 (E := p_msg_within_E) (H := a7K) (L := fun N => LT.nil) (c := a7L) (ks := y7) (rs := O0) (F := J6) hE mix Try.func46 (by kernel_rfl) (fun N => OkAll.nil) (fun _ _ => by kernel_rfl) hg
noncomputable abbrev a1b : Sig := ⟨[.sl b8], [.sl .bool], Q3⟩
noncomputable def p_msg_marked_E : AE := AE.of [(4, ty4), (29, ty29), (43, ty43)] [(40, a1b)]
noncomputable def a2u : Hints := [(4, [0, 14, 15, 16]), (2000000, []), (2000001, [0, 14, 15, 16]), (3000000, [4])]
noncomputable def T7 : Code := (Try.f48).body.getD .skip
noncomputable def a4k : Shape := mkS { tmps := .sc (.int .i64) :: pv 13 (.sc (.vec 0 none 1) :: .sc (.int .i64) :: .sc (.int .i64) :: pv 11 []), mem := [.live [.xs .bool none] (.own)] } [.int, .nat, .int, .int, .nat, .xs]
abbrev W9 : Type := Int × Nat × Int × Int × Nat × List Int × Unit
abbrev W10 : Type := (Bool × Unit) ⊕ (Unit)
noncomputable def H2 (N : Nat) (β : Type) (x : W9) (kn : W9 → Option β) (ke : W10 → Option β) : Option β :=
 if (x.2.2.2.1 < x.2.2.1) then
  if 0 ≤ x.2.2.2.1 then (
  if x.2.2.2.1 < ((x.2.1 : Nat) : Int) then (
  if (x.2.2.2.1.toNat) < x.2.2.2.2.1 then (
  if ((List.getD x.2.2.2.2.2.1 (x.2.2.2.1.toNat) 0) ≠ 0) then
   if (x.2.2.2.1 ≥ x.1) then
    ke (.inl (false, ()))
   else
    kn (x.1, x.2.1, x.2.2.1, (IntKind.i64.wrap (x.2.2.2.1 + (1:Int))), x.2.2.2.2.1, x.2.2.2.2.2.1, ())
  else
   kn (x.1, x.2.1, x.2.2.1, (IntKind.i64.wrap (x.2.2.2.1 + (1:Int))), x.2.2.2.2.1, x.2.2.2.2.2.1, ())) else none) else none) else none
 else
  ke (.inr (()))
noncomputable def a3j : Go' W10 := fun y K => match y with
 | .inl y => K .ret (fSt { tmps := pv 4 (.sc (.bool) :: pv 23 []), mem := [] } [.bool] y)
 | .inr y => K (.exit 0) (fSt { tmps := pv 28 [], mem := [] } [] ())
noncomputable def Y6 (N : Nat) : LT := upd (LT.nil) 4 (a4c a4k N (H2 N) a3j)
theorem a3k (N : Nat) : OkAll p_msg_marked_E a2u N (Y6 N) (w3 T7) :=
 S6 (c := U9 4 T7) (OkAll.nil) (by kernel_rfl) (fun x => by kernel_rfl) (fun β x kn ke => by kernel_rfl)
abbrev y4 : List Kd := [.int .i64, .sl b8]
abbrev N7 : List Kd := [.bool]
noncomputable def J3 (N : Nat) (x : Int × List Int × Unit) : Option (Bool) :=
 if ((((List.length x.2.1) : Nat) : Int) ≠ (IntKind.i64.wrap (Int.tdiv (IntKind.i64.wrap (x.1 + (7:Int))) (8:Int)))) then
  some false
 else
  (Q3 (x.2.1, ())).bind fun r1 => (
  a5a (H2 N) N (x.1, (List.length r1), (((List.length r1) : Nat) : Int), (0:Int), (List.length r1), r1, ()) fun y => (match y with
  | .inl y2 => (
   some y2.1)
  | .inr y3 => (
   some true)))
theorem a5j (e0 : i1 Try.prog 40 a1b) : p_msg_marked_E.Ok Try.prog := AE.of_ok (all_cons b2Z (all_cons s5 (all_cons b5o c6))) (all_cons ⟨e0, a31⟩ c6)
theorem a6E (hE : p_msg_marked_E.Ok Try.prog) {g : Ds y4 → Option (Rs [.bool])} (hg : ∀ x r, g x = some r → ∃ N, J3 N x = some r) : i1 Try.prog 48 ⟨y4, [.bool], g⟩ :=
 o9 (E := p_msg_marked_E) (H := a2u) (L := fun N => Y6 N) (c := T7) (ks := y4) (rs := N7) (F := J3) hE mix Try.func48 (by kernel_rfl) (fun N => a3k N) (fun _ _ => by kernel_rfl) hg
noncomputable abbrev M1 : Sig := ⟨[.int .i64, .int .i32], [.bool], F0⟩
noncomputable abbrev a3O : Sig := ⟨[.sla (.int .u64) 2], [.bool], a14⟩
noncomputable def p_msg_ranged_E : AE := AE.ofQ [(3, ty3), (25, ty25), (26, ty26), (28, ty28), (31, ty31), (90, ty90)] [(36, M1), (66, a3O)] [(28, .u64, 2)]
noncomputable def a7I : Hints := [(3000000, [2])]
noncomputable def a7J : Code := (Try.f44).body.getD .skip
abbrev y6 : List Kd := [.cat [.int .i64, .int .i64, .int .i64, .int .u32, .int .u32, .int .u64, .int .u64, .int .i64, .int .i64, .sl b8, .sl b8, .sl b8]]
abbrev N9 : List Kd := [.bool]
noncomputable def J5 (N : Nat) (x : (Int × Int × Int × Int × Int × Int × Int × Int × Int × List Int × List Int × List Int × Unit) × Unit) : Option (Bool) :=
 (F0 (x.1.1, (114:Int), ())).bind fun r1 => (
 if (¬ (r1 = true)) then
  if ((x.1.2.2.2.2.2.1 :: (x.1.2.2.2.2.2.2.1 :: [])) = (List.replicate 2 0)) then
   some (decide (x.1.2.2.2.2.1 = (0:Int)))
  else
   some false
 else
  (a14 ((x.1.2.2.2.2.2.1 :: (x.1.2.2.2.2.2.2.1 :: [])), ())).bind fun r2 => (
  some (decide (r2 = true))))
theorem a5l (e0 : i1 Try.prog 36 M1) (e1 : i1 Try.prog 66 a3O) : p_msg_ranged_E.Ok Try.prog := AE.ofQ_ok (all_cons a0a (all_cons a0I (all_cons V0 (all_cons a0J (all_cons H7 (all_cons b5r c6)))))) (all_cons ⟨e0, S9⟩ (all_cons ⟨e1, a55⟩ c6)) (all_cons D0 c6)
theorem a6G (hE : p_msg_ranged_E.Ok Try.prog) {g : Ds y6 → Option (Rs [.bool])} (hg : ∀ x r, g x = some r → ∃ N, J5 N x = some r) : i1 Try.prog 44 ⟨y6, [.bool], g⟩ :=
 o9 (E := p_msg_ranged_E) (H := a7I) (L := fun N => LT.nil) (c := a7J) (ks := y6) (rs := N9) (F := J5) hE mix Try.func44 (by kernel_rfl) (fun N => OkAll.nil) (fun _ _ => by kernel_rfl) hg
noncomputable def p_msg_parted_E : AE := AE.ofQ [(3, ty3), (4, ty4), (31, ty31)] [(36, M1)] [(28, .u64, 2)]
noncomputable def a7G : Hints := [(3000000, [2])]
noncomputable def a7H : Code := (Try.f45).body.getD .skip
abbrev y5 : List Kd := [.cat [.int .i64, .int .i64, .int .i64, .int .u32, .int .u32, .int .u64, .int .u64, .int .i64, .int .i64, .sl b8, .sl b8, .sl b8]]
abbrev N8 : List Kd := [.bool]
noncomputable def J4 (N : Nat) (x : (Int × Int × Int × Int × Int × Int × Int × Int × Int × List Int × List Int × List Int × Unit) × Unit) : Option (Bool) :=
 (F0 (x.1.1, (110:Int), ())).bind fun r1 => (
 if ((decide (r1 = true)) ≠ (decide (x.1.2.2.2.2.2.2.2.2.1 ≠ (0:Int)))) then
  some false
 else
  if (x.1.2.2.2.2.2.2.2.2.1 < (0:Int)) then
   some false
  else
   if (x.1.2.2.2.2.2.2.2.2.1 > (256:Int)) then
    some false
   else
    (F0 (x.1.1, (112:Int), ())).bind fun r2 => (
    if (¬ (r2 = true)) then
     some (decide (x.1.2.2.2.2.2.2.2.1 = (0:Int)))
    else
     if (x.1.2.2.2.2.2.2.2.1 ≥ (0:Int)) then
      some (decide (x.1.2.2.2.2.2.2.2.1 < x.1.2.2.2.2.2.2.2.2.1))
     else
      some false))
theorem a5k (e0 : i1 Try.prog 36 M1) : p_msg_parted_E.Ok Try.prog := AE.ofQ_ok (all_cons a0a (all_cons b2Z (all_cons H7 c6))) (all_cons ⟨e0, S9⟩ c6) (all_cons D0 c6)
theorem a6F (hE : p_msg_parted_E.Ok Try.prog) {g : Ds y5 → Option (Rs [.bool])} (hg : ∀ x r, g x = some r → ∃ N, J4 N x = some r) : i1 Try.prog 45 ⟨y5, [.bool], g⟩ :=
 o9 (E := p_msg_parted_E) (H := a7G) (L := fun N => LT.nil) (c := a7H) (ks := y5) (rs := N8) (F := J4) hE mix Try.func45 (by kernel_rfl) (fun N => OkAll.nil) (fun _ _ => by kernel_rfl) hg
noncomputable abbrev V3 : Sig := ⟨[.int .i64], [.str], V7⟩
noncomputable abbrev a06 : Sig := ⟨[.int .i64], [.bool], I5⟩
noncomputable abbrev a09 : Sig := ⟨[.cat [.int .i64, .int .i64, .int .i64, .int .u32, .int .u32, .int .u64, .int .u64, .int .i64, .int .i64, .sl b8, .sl b8, .sl b8]], [.bool], Q2⟩
noncomputable abbrev a08 : Sig := ⟨[.cat [.int .i64, .int .i64, .int .i64, .int .u32, .int .u32, .int .u64, .int .u64, .int .i64, .int .i64, .sl b8, .sl b8, .sl b8]], [.bool], Q1⟩
noncomputable abbrev a3N : Sig := ⟨[.int .i64], [.int .i64], a13⟩
noncomputable abbrev a1a : Sig := ⟨[.bool, .sl b8, .int .i64], [.bool], E1⟩
noncomputable abbrev a07 : Sig := ⟨[.int .i64, .sl b8], [.bool], Q0⟩
noncomputable def p_msg_Check_E : AE := AE.ofQ [(3, ty3), (29, ty29), (31, ty31)] [(14, V3), (43, a06), (44, a09), (45, a08), (36, M1), (47, a3N), (46, a1a), (48, a07)] [(28, .u64, 2)]
noncomputable def a8U : Hints := [(3000000, [2])]
noncomputable def a8V : Code := (Try.f25).body.getD .skip
abbrev B8 : List Kd := [.cat [.int .i64, .int .i64, .int .i64, .int .u32, .int .u32, .int .u64, .int .u64, .int .i64, .int .i64, .sl b8, .sl b8, .sl b8]]
abbrev T4 : List Kd := [.int .i64]
noncomputable def N3 (N : Nat) (x : (Int × Int × Int × Int × Int × Int × Int × Int × Int × List Int × List Int × List Int × Unit) × Unit) : Option (Int) :=
 (V7 (x.1.1, ())).bind fun r1 => (
 if (r1 = (⟨#[]⟩ : ByteArray)) then
  some (211:Int)
 else
  (I5 (x.1.2.1, ())).bind fun r2 => (
  if (r2 = true) then
   (I5 (x.1.2.2.1, ())).bind fun r3 => (
   if (r3 = true) then
    if (x.1.2.1 ≠ x.1.2.2.1) then
     (Q2 ((x.1.1, x.1.2.1, x.1.2.2.1, x.1.2.2.2.1, x.1.2.2.2.2.1, x.1.2.2.2.2.2.1, x.1.2.2.2.2.2.2.1, x.1.2.2.2.2.2.2.2.1, x.1.2.2.2.2.2.2.2.2.1, x.1.2.2.2.2.2.2.2.2.2.1, x.1.2.2.2.2.2.2.2.2.2.2.1, x.1.2.2.2.2.2.2.2.2.2.2.2.1, ()), ())).bind fun r4 => (
     if (r4 = true) then
      (Q1 ((x.1.1, x.1.2.1, x.1.2.2.1, x.1.2.2.2.1, x.1.2.2.2.2.1, x.1.2.2.2.2.2.1, x.1.2.2.2.2.2.2.1, x.1.2.2.2.2.2.2.2.1, x.1.2.2.2.2.2.2.2.2.1, x.1.2.2.2.2.2.2.2.2.2.1, x.1.2.2.2.2.2.2.2.2.2.2.1, x.1.2.2.2.2.2.2.2.2.2.2.2.1, ()), ())).bind fun r5 => (
      if (r5 = true) then
       (F0 (x.1.1, (100:Int), ())).bind fun r6 => (
       (a13 (x.1.1, ())).bind fun r7 => (
       (E1 ((decide (r6 = true)), x.1.2.2.2.2.2.2.2.2.2.1, r7, ())).bind fun r8 => (
       if (r8 = true) then
        (F0 (x.1.1, (99:Int), ())).bind fun r9 => (
        (E1 ((decide (r9 = true)), x.1.2.2.2.2.2.2.2.2.2.2.1, (6446:Int), ())).bind fun r10 => (
        if (r10 = true) then
         (F0 (x.1.1, (115:Int), ())).bind fun r11 => (
         (E1 ((decide (r11 = true)), x.1.2.2.2.2.2.2.2.2.2.2.2.1, (3309:Int), ())).bind fun r12 => (
         if (¬ (r12 = true)) then
          some (210:Int)
         else
          if (x.1.1 = (4:Int)) then
           (Q0 (x.1.2.2.2.2.2.2.2.2.1, x.1.2.2.2.2.2.2.2.2.2.1, ())).bind fun r13 => (
           if (¬ (r13 = true)) then
            some (210:Int)
           else
            some (0:Int))
          else
           some (0:Int)))
        else
         some (210:Int)))
       else
        some (210:Int))))
      else
       some (210:Int))
     else
      some (210:Int))
    else
     some (210:Int)
   else
    some (210:Int))
  else
   some (210:Int)))
theorem a6z (e0 : i1 Try.prog 14 V3) (e1 : i1 Try.prog 43 a06) (e2 : i1 Try.prog 44 a09) (e3 : i1 Try.prog 45 a08) (e4 : i1 Try.prog 36 M1) (e5 : i1 Try.prog 47 a3N) (e6 : i1 Try.prog 46 a1a) (e7 : i1 Try.prog 48 a07) : p_msg_Check_E.Ok Try.prog := AE.ofQ_ok (all_cons a0a (all_cons s5 (all_cons H7 c6))) (all_cons ⟨e0, a1m⟩ (all_cons ⟨e1, a3W⟩ (all_cons ⟨e2, a3Z⟩ (all_cons ⟨e3, a3Y⟩ (all_cons ⟨e4, S9⟩ (all_cons ⟨e5, a54⟩ (all_cons ⟨e6, a30⟩ (all_cons ⟨e7, a3X⟩ c6)))))))) (all_cons D0 c6)
theorem a7x (hE : p_msg_Check_E.Ok Try.prog) {g : Ds B8 → Option (Rs [.int .i64])} (hg : ∀ x r, g x = some r → ∃ N, N3 N x = some r) : i1 Try.prog 25 ⟨B8, [.int .i64], g⟩ :=
 o9 (E := p_msg_Check_E) (H := a8U) (L := fun N => LT.nil) (c := a8V) (ks := B8) (rs := T4) (F := N3) hE mix Try.func25 (by kernel_rfl) (fun N => OkAll.nil) (fun _ _ => by kernel_rfl) hg
noncomputable abbrev a2C : Sig := ⟨[.int .u64, .int .i64], [.sl b8, .int .i64], c7⟩
noncomputable abbrev a2D : Sig := ⟨[.int .u16], [.sl b8], j9⟩
noncomputable abbrev a1c : Sig := ⟨[.sls b8], [.sl b8], l5⟩
noncomputable def p_msg_form_E : AE := AE.ofI [(3, ty3), (5, ty5), (29, ty29), (31, ty31), (42, ty42), (69, ty69), (73, ty73), (79, ty79), (81, ty81), (84, ty84)] [(62, a2C), (61, a2D), (37, a1c)] [(28, .u64, 2)] [(57, a1q), (63, a6d), (90, a0j), (91, M8), (92, a0k), (93, a0i), (94, T1)] [19, 20, 28] [(3, 20)] [(81, "livery/msg.at", 90), (95, "livery/msg.at", 91), (98, "livery/msg.at", 92), (101, "livery/msg.at", 93), (102, "livery/msg.at", 94)]
noncomputable def b0g : Hints := [(3000000, [4])]
noncomputable def b0h : Code := (Try.f34).body.getD .skip
abbrev F5 : List Kd := [.cat [.int .i64, .int .i64, .int .i64, .int .u32, .int .u32, .int .u64, .int .u64, .int .i64, .int .i64, .sl b8, .sl b8, .sl b8], .bool]
abbrev F6 : List Kd := [.sl b8]
noncomputable def i6 (N : Nat) (x : (Int × Int × Int × Int × Int × Int × Int × Int × Int × List Int × List Int × List Int × Unit) × Bool × Unit) : Option (List Int) :=
 if (x.1.1 = (1:Int)) then
  if (3 + 1) * 16 ≤ 140737488355328 then (
  if (4 + 2) * 16 ≤ 140737488355328 then (
  if (6 + 1) * 16 ≤ 140737488355328 then (
  if (7 + 1) * 16 ≤ 140737488355328 then (
  (c7 ((IntKind.u64.wrap x.1.2.1), (1:Int), ())).bind fun r1 => (
  if (1 + (List.length r1.1)) * 1 ≤ 140737488355328 then (
  (c7 ((IntKind.u64.wrap x.1.2.2.1), (1:Int), ())).bind fun r2 => (
  if ((1 + (List.length r1.1)) + (List.length r2.1)) * 1 ≤ 140737488355328 then (
  (c7 ((IntKind.u64.wrap x.1.2.2.2.1), (4:Int), ())).bind fun r3 => (
  if (((1 + (List.length r1.1)) + (List.length r2.1)) + (List.length r3.1)) * 1 ≤ 140737488355328 then (
  (c7 ((IntKind.u64.wrap x.1.2.2.2.2.1), (4:Int), ())).bind fun r4 => (
  if ((((1 + (List.length r1.1)) + (List.length r2.1)) + (List.length r3.1)) + (List.length r4.1)) * 1 ≤ 140737488355328 then (
  (c7 (x.1.2.2.2.2.2.1, (8:Int), ())).bind fun r5 => (
  if (((((1 + (List.length r1.1)) + (List.length r2.1)) + (List.length r3.1)) + (List.length r4.1)) + (List.length r5.1)) * 1 ≤ 140737488355328 then (
  (c7 (x.1.2.2.2.2.2.2.1, (8:Int), ())).bind fun r6 => (
  if ((((((1 + (List.length r1.1)) + (List.length r2.1)) + (List.length r3.1)) + (List.length r4.1)) + (List.length r5.1)) + (List.length r6.1)) * 1 ≤ 140737488355328 then (
  (j9 ((IntKind.u16.wrap ((List.length x.1.2.2.2.2.2.2.2.2.2.1 : Nat) : Int)), ())).bind fun r7 => (
  (l5 ([(((((((List.set (List.replicate 1 0) 0 (IntKind.u8.wrap x.1.1)) ++ r1.1) ++ r2.1) ++ r3.1) ++ r4.1) ++ r5.1) ++ r6.1), r7, x.1.2.2.2.2.2.2.2.2.2.1], ())).bind fun r8 => (
  (j9 ((IntKind.u16.wrap ((List.length x.1.2.2.2.2.2.2.2.2.2.2.1 : Nat) : Int)), ())).bind fun r9 => (
  (l5 ([r8, r9, x.1.2.2.2.2.2.2.2.2.2.2.1], ())).bind fun r10 => (
  some r10))))) else none)) else none)) else none)) else none)) else none)) else none)) else none) else none) else none) else none
 else
  if (x.1.1 = (2:Int)) then
   if (3 + 1) * 16 ≤ 140737488355328 then (
   if (4 + 2) * 16 ≤ 140737488355328 then (
   if (6 + 1) * 16 ≤ 140737488355328 then (
   if (x.2.1 = true) then
    if (7 + 1) * 16 ≤ 140737488355328 then (
    (c7 ((IntKind.u64.wrap x.1.2.1), (1:Int), ())).bind fun r11 => (
    if (1 + (List.length r11.1)) * 1 ≤ 140737488355328 then (
    (c7 ((IntKind.u64.wrap x.1.2.2.1), (1:Int), ())).bind fun r12 => (
    if ((1 + (List.length r11.1)) + (List.length r12.1)) * 1 ≤ 140737488355328 then (
    (c7 ((IntKind.u64.wrap x.1.2.2.2.1), (4:Int), ())).bind fun r13 => (
    if (((1 + (List.length r11.1)) + (List.length r12.1)) + (List.length r13.1)) * 1 ≤ 140737488355328 then (
    (c7 ((IntKind.u64.wrap x.1.2.2.2.2.1), (4:Int), ())).bind fun r14 => (
    if ((((1 + (List.length r11.1)) + (List.length r12.1)) + (List.length r13.1)) + (List.length r14.1)) * 1 ≤ 140737488355328 then (
    (c7 (x.1.2.2.2.2.2.1, (8:Int), ())).bind fun r15 => (
    if (((((1 + (List.length r11.1)) + (List.length r12.1)) + (List.length r13.1)) + (List.length r14.1)) + (List.length r15.1)) * 1 ≤ 140737488355328 then (
    (c7 (x.1.2.2.2.2.2.2.1, (8:Int), ())).bind fun r16 => (
    if ((((((1 + (List.length r11.1)) + (List.length r12.1)) + (List.length r13.1)) + (List.length r14.1)) + (List.length r15.1)) + (List.length r16.1)) * 1 ≤ 140737488355328 then (
    (j9 ((IntKind.u16.wrap ((List.length x.1.2.2.2.2.2.2.2.2.2.2.1 : Nat) : Int)), ())).bind fun r17 => (
    (l5 ([(((((((List.set (List.replicate 1 0) 0 (IntKind.u8.wrap x.1.1)) ++ r11.1) ++ r12.1) ++ r13.1) ++ r14.1) ++ r15.1) ++ r16.1), r17, x.1.2.2.2.2.2.2.2.2.2.2.1], ())).bind fun r18 => (
    (j9 ((IntKind.u16.wrap ((List.length x.1.2.2.2.2.2.2.2.2.2.2.2.1 : Nat) : Int)), ())).bind fun r19 => (
    (l5 ([r18, r19, x.1.2.2.2.2.2.2.2.2.2.2.2.1], ())).bind fun r20 => (
    some r20))))) else none)) else none)) else none)) else none)) else none)) else none)) else none
   else
    (c7 ((IntKind.u64.wrap x.1.2.1), (1:Int), ())).bind fun r21 => (
    if (1 + (List.length r21.1)) * 1 ≤ 140737488355328 then (
    (c7 ((IntKind.u64.wrap x.1.2.2.1), (1:Int), ())).bind fun r22 => (
    if ((1 + (List.length r21.1)) + (List.length r22.1)) * 1 ≤ 140737488355328 then (
    (c7 ((IntKind.u64.wrap x.1.2.2.2.1), (4:Int), ())).bind fun r23 => (
    if (((1 + (List.length r21.1)) + (List.length r22.1)) + (List.length r23.1)) * 1 ≤ 140737488355328 then (
    (c7 ((IntKind.u64.wrap x.1.2.2.2.2.1), (4:Int), ())).bind fun r24 => (
    if ((((1 + (List.length r21.1)) + (List.length r22.1)) + (List.length r23.1)) + (List.length r24.1)) * 1 ≤ 140737488355328 then (
    (c7 (x.1.2.2.2.2.2.1, (8:Int), ())).bind fun r25 => (
    if (((((1 + (List.length r21.1)) + (List.length r22.1)) + (List.length r23.1)) + (List.length r24.1)) + (List.length r25.1)) * 1 ≤ 140737488355328 then (
    (c7 (x.1.2.2.2.2.2.2.1, (8:Int), ())).bind fun r26 => (
    if ((((((1 + (List.length r21.1)) + (List.length r22.1)) + (List.length r23.1)) + (List.length r24.1)) + (List.length r25.1)) + (List.length r26.1)) * 1 ≤ 140737488355328 then (
    (j9 ((IntKind.u16.wrap ((List.length x.1.2.2.2.2.2.2.2.2.2.2.1 : Nat) : Int)), ())).bind fun r27 => (
    (l5 ([(((((((List.set (List.replicate 1 0) 0 (IntKind.u8.wrap x.1.1)) ++ r21.1) ++ r22.1) ++ r23.1) ++ r24.1) ++ r25.1) ++ r26.1), r27, x.1.2.2.2.2.2.2.2.2.2.2.1], ())).bind fun r28 => (
    some r28))) else none)) else none)) else none)) else none)) else none)) else none)) else none) else none) else none
  else
   if (x.1.1 = (3:Int)) then
    if (3 + 1) * 16 ≤ 140737488355328 then (
    if (4 + 1) * 16 ≤ 140737488355328 then (
    if (5 + 1) * 16 ≤ 140737488355328 then (
    (c7 ((IntKind.u64.wrap x.1.2.1), (1:Int), ())).bind fun r29 => (
    if (1 + (List.length r29.1)) * 1 ≤ 140737488355328 then (
    (c7 ((IntKind.u64.wrap x.1.2.2.1), (1:Int), ())).bind fun r30 => (
    if ((1 + (List.length r29.1)) + (List.length r30.1)) * 1 ≤ 140737488355328 then (
    (c7 ((IntKind.u64.wrap x.1.2.2.2.1), (4:Int), ())).bind fun r31 => (
    if (((1 + (List.length r29.1)) + (List.length r30.1)) + (List.length r31.1)) * 1 ≤ 140737488355328 then (
    (c7 ((IntKind.u64.wrap x.1.2.2.2.2.2.2.2.1), (2:Int), ())).bind fun r32 => (
    if ((((1 + (List.length r29.1)) + (List.length r30.1)) + (List.length r31.1)) + (List.length r32.1)) * 1 ≤ 140737488355328 then (
    (c7 ((IntKind.u64.wrap x.1.2.2.2.2.2.2.2.2.1), (2:Int), ())).bind fun r33 => (
    if (((((1 + (List.length r29.1)) + (List.length r30.1)) + (List.length r31.1)) + (List.length r32.1)) + (List.length r33.1)) * 1 ≤ 140737488355328 then (
    (j9 ((IntKind.u16.wrap ((List.length x.1.2.2.2.2.2.2.2.2.2.1 : Nat) : Int)), ())).bind fun r34 => (
    (l5 ([((((((List.set (List.replicate 1 0) 0 (IntKind.u8.wrap x.1.1)) ++ r29.1) ++ r30.1) ++ r31.1) ++ r32.1) ++ r33.1), r34, x.1.2.2.2.2.2.2.2.2.2.1], ())).bind fun r35 => (
    some r35))) else none)) else none)) else none)) else none)) else none)) else none) else none) else none
   else
    if (x.1.1 = (4:Int)) then
     if (3 + 1) * 16 ≤ 140737488355328 then (
     if (4 + 1) * 16 ≤ 140737488355328 then (
     (c7 ((IntKind.u64.wrap x.1.2.1), (1:Int), ())).bind fun r36 => (
     if (1 + (List.length r36.1)) * 1 ≤ 140737488355328 then (
     (c7 ((IntKind.u64.wrap x.1.2.2.1), (1:Int), ())).bind fun r37 => (
     if ((1 + (List.length r36.1)) + (List.length r37.1)) * 1 ≤ 140737488355328 then (
     (c7 ((IntKind.u64.wrap x.1.2.2.2.1), (4:Int), ())).bind fun r38 => (
     if (((1 + (List.length r36.1)) + (List.length r37.1)) + (List.length r38.1)) * 1 ≤ 140737488355328 then (
     (c7 ((IntKind.u64.wrap x.1.2.2.2.2.2.2.2.2.1), (2:Int), ())).bind fun r39 => (
     if ((((1 + (List.length r36.1)) + (List.length r37.1)) + (List.length r38.1)) + (List.length r39.1)) * 1 ≤ 140737488355328 then (
     (j9 ((IntKind.u16.wrap ((List.length x.1.2.2.2.2.2.2.2.2.2.1 : Nat) : Int)), ())).bind fun r40 => (
     (l5 ([(((((List.set (List.replicate 1 0) 0 (IntKind.u8.wrap x.1.1)) ++ r36.1) ++ r37.1) ++ r38.1) ++ r39.1), r40, x.1.2.2.2.2.2.2.2.2.2.1], ())).bind fun r41 => (
     some r41))) else none)) else none)) else none)) else none)) else none) else none
    else
     if (x.1.1 = (5:Int)) then
      if (3 + 1) * 16 ≤ 140737488355328 then (
      if (4 + 2) * 16 ≤ 140737488355328 then (
      if (x.2.1 = true) then
       if (6 + 1) * 16 ≤ 140737488355328 then (
       (c7 ((IntKind.u64.wrap x.1.2.1), (1:Int), ())).bind fun r42 => (
       if (1 + (List.length r42.1)) * 1 ≤ 140737488355328 then (
       (c7 ((IntKind.u64.wrap x.1.2.2.1), (1:Int), ())).bind fun r43 => (
       if ((1 + (List.length r42.1)) + (List.length r43.1)) * 1 ≤ 140737488355328 then (
       (c7 ((IntKind.u64.wrap x.1.2.2.2.1), (4:Int), ())).bind fun r44 => (
       if (((1 + (List.length r42.1)) + (List.length r43.1)) + (List.length r44.1)) * 1 ≤ 140737488355328 then (
       (c7 ((IntKind.u64.wrap x.1.2.2.2.2.1), (4:Int), ())).bind fun r45 => (
       if ((((1 + (List.length r42.1)) + (List.length r43.1)) + (List.length r44.1)) + (List.length r45.1)) * 1 ≤ 140737488355328 then (
       (c7 (x.1.2.2.2.2.2.1, (8:Int), ())).bind fun r46 => (
       if (((((1 + (List.length r42.1)) + (List.length r43.1)) + (List.length r44.1)) + (List.length r45.1)) + (List.length r46.1)) * 1 ≤ 140737488355328 then (
       (c7 (x.1.2.2.2.2.2.2.1, (8:Int), ())).bind fun r47 => (
       if ((((((1 + (List.length r42.1)) + (List.length r43.1)) + (List.length r44.1)) + (List.length r45.1)) + (List.length r46.1)) + (List.length r47.1)) * 1 ≤ 140737488355328 then (
       (j9 ((IntKind.u16.wrap ((List.length x.1.2.2.2.2.2.2.2.2.2.2.2.1 : Nat) : Int)), ())).bind fun r48 => (
       (l5 ([(((((((List.set (List.replicate 1 0) 0 (IntKind.u8.wrap x.1.1)) ++ r42.1) ++ r43.1) ++ r44.1) ++ r45.1) ++ r46.1) ++ r47.1), r48, x.1.2.2.2.2.2.2.2.2.2.2.2.1], ())).bind fun r49 => (
       some r49))) else none)) else none)) else none)) else none)) else none)) else none)) else none
      else
       (c7 ((IntKind.u64.wrap x.1.2.1), (1:Int), ())).bind fun r50 => (
       if (1 + (List.length r50.1)) * 1 ≤ 140737488355328 then (
       (c7 ((IntKind.u64.wrap x.1.2.2.1), (1:Int), ())).bind fun r51 => (
       if ((1 + (List.length r50.1)) + (List.length r51.1)) * 1 ≤ 140737488355328 then (
       (c7 ((IntKind.u64.wrap x.1.2.2.2.1), (4:Int), ())).bind fun r52 => (
       if (((1 + (List.length r50.1)) + (List.length r51.1)) + (List.length r52.1)) * 1 ≤ 140737488355328 then (
       (c7 ((IntKind.u64.wrap x.1.2.2.2.2.1), (4:Int), ())).bind fun r53 => (
       if ((((1 + (List.length r50.1)) + (List.length r51.1)) + (List.length r52.1)) + (List.length r53.1)) * 1 ≤ 140737488355328 then (
       (c7 (x.1.2.2.2.2.2.1, (8:Int), ())).bind fun r54 => (
       if (((((1 + (List.length r50.1)) + (List.length r51.1)) + (List.length r52.1)) + (List.length r53.1)) + (List.length r54.1)) * 1 ≤ 140737488355328 then (
       (c7 (x.1.2.2.2.2.2.2.1, (8:Int), ())).bind fun r55 => (
       if ((((((1 + (List.length r50.1)) + (List.length r51.1)) + (List.length r52.1)) + (List.length r53.1)) + (List.length r54.1)) + (List.length r55.1)) * 1 ≤ 140737488355328 then (
       some (((((((List.set (List.replicate 1 0) 0 (IntKind.u8.wrap x.1.1)) ++ r50.1) ++ r51.1) ++ r52.1) ++ r53.1) ++ r54.1) ++ r55.1)) else none)) else none)) else none)) else none)) else none)) else none)) else none) else none
     else
      if (x.1.1 = (6:Int)) then
       if (3 + 1) * 16 ≤ 140737488355328 then (
       if (4 + 2) * 16 ≤ 140737488355328 then (
       if (x.2.1 = true) then
        if (6 + 1) * 16 ≤ 140737488355328 then (
        (c7 ((IntKind.u64.wrap x.1.2.1), (1:Int), ())).bind fun r56 => (
        if (1 + (List.length r56.1)) * 1 ≤ 140737488355328 then (
        (c7 ((IntKind.u64.wrap x.1.2.2.1), (1:Int), ())).bind fun r57 => (
        if ((1 + (List.length r56.1)) + (List.length r57.1)) * 1 ≤ 140737488355328 then (
        (c7 ((IntKind.u64.wrap x.1.2.2.2.1), (4:Int), ())).bind fun r58 => (
        if (((1 + (List.length r56.1)) + (List.length r57.1)) + (List.length r58.1)) * 1 ≤ 140737488355328 then (
        (c7 ((IntKind.u64.wrap x.1.2.2.2.2.1), (4:Int), ())).bind fun r59 => (
        if ((((1 + (List.length r56.1)) + (List.length r57.1)) + (List.length r58.1)) + (List.length r59.1)) * 1 ≤ 140737488355328 then (
        (c7 (x.1.2.2.2.2.2.1, (8:Int), ())).bind fun r60 => (
        if (((((1 + (List.length r56.1)) + (List.length r57.1)) + (List.length r58.1)) + (List.length r59.1)) + (List.length r60.1)) * 1 ≤ 140737488355328 then (
        (c7 (x.1.2.2.2.2.2.2.1, (8:Int), ())).bind fun r61 => (
        if ((((((1 + (List.length r56.1)) + (List.length r57.1)) + (List.length r58.1)) + (List.length r59.1)) + (List.length r60.1)) + (List.length r61.1)) * 1 ≤ 140737488355328 then (
        (j9 ((IntKind.u16.wrap ((List.length x.1.2.2.2.2.2.2.2.2.2.2.2.1 : Nat) : Int)), ())).bind fun r62 => (
        (l5 ([(((((((List.set (List.replicate 1 0) 0 (IntKind.u8.wrap x.1.1)) ++ r56.1) ++ r57.1) ++ r58.1) ++ r59.1) ++ r60.1) ++ r61.1), r62, x.1.2.2.2.2.2.2.2.2.2.2.2.1], ())).bind fun r63 => (
        some r63))) else none)) else none)) else none)) else none)) else none)) else none)) else none
       else
        (c7 ((IntKind.u64.wrap x.1.2.1), (1:Int), ())).bind fun r64 => (
        if (1 + (List.length r64.1)) * 1 ≤ 140737488355328 then (
        (c7 ((IntKind.u64.wrap x.1.2.2.1), (1:Int), ())).bind fun r65 => (
        if ((1 + (List.length r64.1)) + (List.length r65.1)) * 1 ≤ 140737488355328 then (
        (c7 ((IntKind.u64.wrap x.1.2.2.2.1), (4:Int), ())).bind fun r66 => (
        if (((1 + (List.length r64.1)) + (List.length r65.1)) + (List.length r66.1)) * 1 ≤ 140737488355328 then (
        (c7 ((IntKind.u64.wrap x.1.2.2.2.2.1), (4:Int), ())).bind fun r67 => (
        if ((((1 + (List.length r64.1)) + (List.length r65.1)) + (List.length r66.1)) + (List.length r67.1)) * 1 ≤ 140737488355328 then (
        (c7 (x.1.2.2.2.2.2.1, (8:Int), ())).bind fun r68 => (
        if (((((1 + (List.length r64.1)) + (List.length r65.1)) + (List.length r66.1)) + (List.length r67.1)) + (List.length r68.1)) * 1 ≤ 140737488355328 then (
        (c7 (x.1.2.2.2.2.2.2.1, (8:Int), ())).bind fun r69 => (
        if ((((((1 + (List.length r64.1)) + (List.length r65.1)) + (List.length r66.1)) + (List.length r67.1)) + (List.length r68.1)) + (List.length r69.1)) * 1 ≤ 140737488355328 then (
        some (((((((List.set (List.replicate 1 0) 0 (IntKind.u8.wrap x.1.1)) ++ r64.1) ++ r65.1) ++ r66.1) ++ r67.1) ++ r68.1) ++ r69.1)) else none)) else none)) else none)) else none)) else none)) else none)) else none) else none
      else
       (c7 ((IntKind.u64.wrap x.1.2.1), (1:Int), ())).bind fun r70 => (
       if (1 + (List.length r70.1)) * 1 ≤ 140737488355328 then (
       (c7 ((IntKind.u64.wrap x.1.2.2.1), (1:Int), ())).bind fun r71 => (
       if ((1 + (List.length r70.1)) + (List.length r71.1)) * 1 ≤ 140737488355328 then (
       (c7 ((IntKind.u64.wrap x.1.2.2.2.1), (4:Int), ())).bind fun r72 => (
       if (((1 + (List.length r70.1)) + (List.length r71.1)) + (List.length r72.1)) * 1 ≤ 140737488355328 then (
       some ((((List.set (List.replicate 1 0) 0 (IntKind.u8.wrap x.1.1)) ++ r70.1) ++ r71.1) ++ r72.1)) else none)) else none)) else none)
theorem a7E (e0 : i1 Try.prog 62 a2C) (e1 : i1 Try.prog 61 a2D) (e2 : i1 Try.prog 37 a1c) : p_msg_form_E.Ok Try.prog := AE.ofI_ok (all_cons a0a (all_cons a0Y (all_cons s5 (all_cons H7 (all_cons a9w (all_cons b2a (all_cons b2b (all_cons b2c (all_cons b2d (all_cons b5q c6)))))))))) (all_cons ⟨e0, a45⟩ (all_cons ⟨e1, a46⟩ (all_cons ⟨e2, a32⟩ c6))) (all_cons D0 c6) (all_cons ⟨a1r, V6⟩ (all_cons ⟨a7o, a44⟩ (all_cons ⟨a0R, P6⟩ (all_cons ⟨Q6, L1⟩ (all_cons ⟨a0S, P7⟩ (all_cons ⟨a0Q, P5⟩ (all_cons ⟨X1, M5⟩ c6))))))) (all_cons b6P (all_cons b6Q (all_cons b6R (all_cons b4Q (all_cons b4R c6)))))
theorem a81 (hE : p_msg_form_E.Ok Try.prog) {g : Ds F5 → Option (Rs F6)} (hg : ∀ x r, g x = some r → ∃ N, i6 N x = some r) : i1 Try.prog 34 ⟨F5, F6, g⟩ :=
 o9 (E := p_msg_form_E) (H := b0g) (L := fun N => LT.nil) (c := b0h) (ks := F5) (rs := F6) (F := i6) hE mix Try.func34 (by kernel_rfl) (fun N => OkAll.nil) (fun _ _ => by kernel_rfl) hg
noncomputable abbrev M0 : Sig := ⟨[.cat [.int .i64, .int .i64, .int .i64, .int .u32, .int .u32, .int .u64, .int .u64, .int .i64, .int .i64, .sl b8, .sl b8, .sl b8]], [.int .i64], u2⟩
noncomputable abbrev a3M : Sig := ⟨[.cat [.int .i64, .int .i64, .int .i64, .int .u32, .int .u32, .int .u64, .int .u64, .int .i64, .int .i64, .sl b8, .sl b8, .sl b8], .bool], [.sl b8], a1Z⟩
noncomputable def p_msg_Put_E : AE := AE.ofQ [(31, ty31)] [(25, M0), (34, a3M)] [(28, .u64, 2)]
noncomputable def b1D : Hints := [(3000000, [2, 3])]
noncomputable def b1E : Code := (Try.f17).body.getD .skip
abbrev J0 : List Kd := [.cat [.int .i64, .int .i64, .int .i64, .int .u32, .int .u32, .int .u64, .int .u64, .int .i64, .int .i64, .sl b8, .sl b8, .sl b8]]
abbrev J1 : List Kd := [.sl b8, .int .i64]
noncomputable def a1I (N : Nat) (x : (Int × Int × Int × Int × Int × Int × Int × Int × Int × List Int × List Int × List Int × Unit) × Unit) : Option (List Int × Int) :=
 (u2 ((x.1.1, x.1.2.1, x.1.2.2.1, x.1.2.2.2.1, x.1.2.2.2.2.1, x.1.2.2.2.2.2.1, x.1.2.2.2.2.2.2.1, x.1.2.2.2.2.2.2.2.1, x.1.2.2.2.2.2.2.2.2.1, x.1.2.2.2.2.2.2.2.2.2.1, x.1.2.2.2.2.2.2.2.2.2.2.1, x.1.2.2.2.2.2.2.2.2.2.2.2.1, ()), ())).bind fun r1 => (
 if (r1 ≠ (0:Int)) then
  some ([], r1)
 else
  (a1Z ((x.1.1, x.1.2.1, x.1.2.2.1, x.1.2.2.2.1, x.1.2.2.2.2.1, x.1.2.2.2.2.2.1, x.1.2.2.2.2.2.2.1, x.1.2.2.2.2.2.2.2.1, x.1.2.2.2.2.2.2.2.2.1, x.1.2.2.2.2.2.2.2.2.2.1, x.1.2.2.2.2.2.2.2.2.2.2.1, x.1.2.2.2.2.2.2.2.2.2.2.2.1, ()), true, ())).bind fun r2 => (
  some (r2, (0:Int))))
theorem a8Z (e0 : i1 Try.prog 25 M0) (e1 : i1 Try.prog 34 a3M) : p_msg_Put_E.Ok Try.prog := AE.ofQ_ok (all_cons H7 c6) (all_cons ⟨e0, a0N⟩ (all_cons ⟨e1, a53⟩ c6)) (all_cons D0 c6)
theorem b0d (hE : p_msg_Put_E.Ok Try.prog) {g : Ds J0 → Option (Rs J1)} (hg : ∀ x r, g x = some r → ∃ N, a1I N x = some r) : i1 Try.prog 17 ⟨J0, J1, g⟩ :=
 o9 (E := p_msg_Put_E) (H := b1D) (L := fun N => LT.nil) (c := b1E) (ks := J0) (rs := J1) (F := a1I) hE mix Try.func17 (by kernel_rfl) (fun N => OkAll.nil) (fun _ _ => by kernel_rfl) hg
noncomputable abbrev a05 : Sig := ⟨[.cat [.int .i64, .int .i64, .int .i64, .int .u32, .int .u32, .int .u64, .int .u64, .int .i64, .int .i64, .sl b8, .sl b8, .sl b8]], [.sl b8, .int .i64], V8⟩
noncomputable abbrev v6 : Sig := ⟨[.sl b8, .sl b8], [.bool], m8⟩
noncomputable abbrev a5N : Sig := ⟨[.int .i64], [.str], a25⟩
noncomputable def p_law21_live_E : AE := AE.ofQ [(3, ty3), (5, ty5), (25, ty25), (28, ty28), (29, ty29), (31, ty31)] [(17, a05), (19, v6), (12, a5N)] [(28, .u64, 2)]
noncomputable def a7v : Hints := [(3000000, [0])]
noncomputable def a7w : Code := (Try.f11).body.getD .skip
abbrev a1C : List Kd := []
abbrev a1D : List Kd := [.bool]
noncomputable def Q9 (N : Nat) (x : Unit) : Option (Bool) :=
 (V8 (((List.getD (List.set [0] 0 (8:Int)) 0 0), (List.getD (List.set [0] 0 (1:Int)) 0 0), (List.getD (List.set [0] 0 (2:Int)) 0 0), (List.getD (List.set [0] 0 (3:Int)) 0 0), (List.getD [0] 0 0), (List.getD (List.take 1 (List.replicate 2 0)) 0 0), (List.getD (List.drop 1 (List.replicate 2 0)) 0 0), (List.getD [0] 0 0), (List.getD [0] 0 0), [], [], [], ()), ())).bind fun r1 => (
 (m8 (r1.1, (List.set (List.set (List.set (List.set (List.set (List.set (List.set (List.replicate 7 0) 0 (8:Int)) 1 (1:Int)) 2 (2:Int)) 3 (0:Int)) 4 (0:Int)) 5 (0:Int)) 6 (3:Int)), ())).bind fun r2 => (
 if (r2 = true) then
  if (r1.2 = (0:Int)) then
   (a25 ((3:Int), ())).bind fun r3 => (
   some (decide (r3 = (⟨#[112, 110, 100]⟩ : ByteArray))))
  else
   some false
 else
  some false))
theorem a5c (e0 : i1 Try.prog 17 a05) (e1 : i1 Try.prog 19 v6) (e2 : i1 Try.prog 12 a5N) : p_law21_live_E.Ok Try.prog := AE.ofQ_ok (all_cons a0a (all_cons a0Y (all_cons a0I (all_cons a0J (all_cons s5 (all_cons H7 c6)))))) (all_cons ⟨e0, a2q⟩ (all_cons ⟨e1, E8⟩ (all_cons ⟨e2, S8⟩ c6))) (all_cons D0 c6)
theorem a6y (hE : p_law21_live_E.Ok Try.prog) {g : Ds [] → Option (Rs [.bool])} (hg : ∀ x r, g x = some r → ∃ N, Q9 N x = some r) : i1 Try.prog 11 ⟨[], [.bool], g⟩ :=
 o9 (E := p_law21_live_E) (H := a7v) (L := fun N => LT.nil) (c := a7w) (ks := a1C) (rs := a1D) (F := Q9) hE mix Try.func11 (by kernel_rfl) (fun N => OkAll.nil) (fun _ _ => by kernel_rfl) hg
noncomputable def p_octet_Same_E : AE := AE.ofQ [(5, ty5), (29, ty29)] [] [(28, .u64, 2)]
noncomputable def a2v : Hints := [(5, [0, 1, 5, 13, 14]), (2000000, [5]), (2000001, [0, 1, 5, 13, 14]), (3000000, [4])]
noncomputable def U1 : Code := (Try.f52).body.getD .skip
noncomputable def a4q : Shape := mkS { tmps := .sc (.vec 0 none 1) :: .sc (.vec 1 none 1) :: pv 3 (.sc (.int .u8) :: pv 7 (.sc (.int .i64) :: .sc (.int .i64) :: pv 16 [])), mem := [.live [.xs b8 none] (.ro), .live [.xs b8 none] (.ro)] } [.nat, .nat, .int, .int, .int, .nat, .xs, .nat, .xs]
abbrev W11 : Type := Nat × Nat × Int × Int × Int × Nat × List Int × Nat × List Int × Unit
noncomputable def u6 (N : Nat) (β : Type) (x : W11) (kn : W11 → Option β) (ke : ((Int × Unit)) → Option β) : Option β :=
 if (x.2.2.2.2.1 < x.2.2.2.1) then
  if 0 ≤ x.2.2.2.2.1 then (
  if x.2.2.2.2.1 < ((x.1 : Nat) : Int) then (
  if (x.2.2.2.2.1.toNat) < x.2.2.2.2.2.1 then (
  if 0 ≤ x.2.2.2.2.1 then (
  if x.2.2.2.2.1 < ((x.2.1 : Nat) : Int) then (
  if (x.2.2.2.2.1.toNat) < x.2.2.2.2.2.2.2.1 then (
  kn (x.1, x.2.1, (ior IntKind.u8 x.2.2.1 (b4K IntKind.u8 (List.getD x.2.2.2.2.2.2.1 (x.2.2.2.2.1.toNat) 0) (List.getD x.2.2.2.2.2.2.2.2.1 (x.2.2.2.2.1.toNat) 0))), x.2.2.2.1, (IntKind.i64.wrap (x.2.2.2.2.1 + (1:Int))), x.2.2.2.2.2.1, x.2.2.2.2.2.2.1, x.2.2.2.2.2.2.2.1, x.2.2.2.2.2.2.2.2.1, ())) else none) else none) else none) else none) else none) else none
 else
  ke (x.2.2.1, ())
noncomputable def a3u : Go' ((Int × Unit)) := fun y K => K (.exit 0) (fSt { tmps := pv 5 (.sc (.int .u8) :: pv 25 []), mem := [] } [.int] y)
noncomputable def Z2 (N : Nat) : LT := upd (LT.nil) 5 (a4c a4q N (u6 N) a3u)
theorem a3v (N : Nat) : OkAll p_octet_Same_E a2v N (Z2 N) (w3 U1) :=
 S6 (c := U9 5 U1) (OkAll.nil) (by kernel_rfl) (fun x => by kernel_rfl) (fun β x kn ke => by kernel_rfl)
abbrev z6 : List Kd := [.sl b8, .sl b8]
abbrev O3 : List Kd := [.bool]
noncomputable def R9 (N : Nat) (x : List Int × List Int × Unit) : Option (Bool) :=
 if ((((List.length x.1) : Nat) : Int) ≠ (((List.length x.2.1) : Nat) : Int)) then
  some false
 else
  a5a (u6 N) N ((List.length x.1), (List.length x.2.1), (0:Int), (((List.length x.1) : Nat) : Int), (0:Int), (List.length x.1), x.1, (List.length x.2.1), x.2.1, ()) fun y1 => (
  some (decide (y1.1 = (0:Int))))
theorem a5q : p_octet_Same_E.Ok Try.prog := AE.ofQ_ok (all_cons a0Y (all_cons s5 c6)) c6 (all_cons D0 c6)
theorem a6L (hE : p_octet_Same_E.Ok Try.prog) {g : Ds z6 → Option (Rs [.bool])} (hg : ∀ x r, g x = some r → ∃ N, R9 N x = some r) : i1 Try.prog 52 ⟨z6, [.bool], g⟩ :=
 o9 (E := p_octet_Same_E) (H := a2v) (L := fun N => Z2 N) (c := U1) (ks := z6) (rs := O3) (F := R9) hE mix Try.func52 (by kernel_rfl) (fun N => a3v N) (fun _ _ => by kernel_rfl) hg
end Go.Ax.TryP
set_option linter.unusedVariables false
namespace Go.Ax.TryP
open Go.Proofs
def bytes (zs : List Int) : Prop := ∀ z ∈ zs, 0 ≤ z ∧ z ≤ 255
def b0K (l : List (List Int)) : Prop := l.length ≤ maxLen ∧ ∀ zs ∈ l, zs.length ≤ maxLen ∧ bytes zs
theorem b5t {l : List (List Int)} : Kd.wf (.sls (.int .u8)) l ↔ b0K l := by simp [Kd.wf, b0K, bytes, a8Q]
theorem V1 {b : List Int} : Kd.wf (.sl (.int .u8)) b ↔ b.length ≤ maxLen ∧ bytes b := by simp only [b6E]; exact Iff.rfl
theorem a8H {l : List (List Int)} {i : Nat} (hi : i < l.length) : (l.take (i + 1)).flatten = (l.take i).flatten ++ l.getD i [] := by
 rw [List.take_succ_eq_append_getElem hi, List.flatten_append, List.getD_eq_getElem?_getD, List.getElem?_eq_getElem hi]; simp
theorem b1h (l : List (List Int)) (i : Nat) : (l.take i).flatten.length ≤ l.flatten.length := by
 conv => rhs; rw [← List.take_append_drop i l, List.flatten_append, List.length_append]
 omega
theorem b0A : ∀ x r, v4 x = some r → ∃ N, S0 N x = some r := by
 refine j7 (ks := z8) (rs := z9) fun x hw hq => ?_
 obtain ⟨(l : List (List Int)), u⟩ := x
 obtain ⟨hq1, hq⟩ : l.length ≤ 1000 ∧ l.flatten.length ≤ 1000000 := hq
 refine ⟨l.length + 1, ?_⟩
 unfold S0
 dsimp only
 refine (I6 (F := u7 (l.length + 1)) (s := fun i => ((l.take i).flatten.length, l, (l.length : Int), (i : Int), (l.take i).flatten.length, (l.take i).flatten, ()))
  (y := (l.flatten.length, l.flatten.length, l.flatten, ())) l.length rfl ?_ ?_ _ (by omega)).trans ?_
 ·intro i hi kn
  have h1 := b1h l (i + 1)
  rw [a8H hi] at h1 ⊢
  rw [List.length_append] at h1 ⊢
  unfold u7
  dsimp only
  rw [if_pos (by omega), if_pos (by omega), if_pos (by omega), Int.toNat_natCast, if_pos (by omega), i2 (by omega) (by omega)]
  rfl
 ·intro kn
  unfold u7
  dsimp only
  rw [if_neg (by omega), List.take_length]
 ·rfl
theorem b0x : ∀ x r, l5 x = some r → ∃ N, R8 N x = some r := by
 refine j7 (ks := y9) (rs := z0) fun x hw hq => ?_
 obtain ⟨(l : List (List Int)), u⟩ := x
 obtain ⟨hq1, hq⟩ : l.length ≤ 1000 ∧ l.flatten.length ≤ 1000000 := hq
 refine ⟨l.length + 1, ?_⟩
 unfold R8
 dsimp only
 refine (I6 (F := u4 (l.length + 1)) (s := fun i => (l, ((l.take i).flatten.length : Int), l, (l.length : Int), (i : Int), ())) (y := (l, (l.flatten.length : Int), ())) l.length rfl ?_ ?_ _ (by omega)).trans ?_
 ·intro i hi kn
  have h1 := b1h l (i + 1)
  rw [a8H hi] at h1 ⊢
  rw [List.length_append] at h1 ⊢
  unfold u4
  dsimp only
  rw [if_pos (by omega), if_pos (by omega), if_pos (by omega), Int.toNat_natCast, i2 (by omega) (by omega), i2 (by omega) (by omega), Int.natCast_add]
  rfl
 ·intro kn
  unfold u4
  dsimp only
  rw [if_neg (by omega), List.take_length]
 dsimp only
 rw [if_pos (by omega), if_pos (by omega), if_pos (by omega)]
 refine (I6 (F := u5 (l.length + 1)) (s := fun i => ((l.take i).flatten.length, l, (l.length : Int), (i : Int), (l.take i).flatten.length, (l.take i).flatten, ()))
  (y := (l.flatten.length, l.flatten.length, l.flatten, ())) l.length rfl ?_ ?_ _ (by omega)).trans ?_
 ·intro i hi kn
  have h1 := b1h l (i + 1)
  rw [a8H hi] at h1 ⊢
  rw [List.length_append] at h1 ⊢
  unfold u5
  dsimp only
  rw [if_pos (by omega), if_pos (by omega), if_pos (by omega), Int.toNat_natCast, if_pos (by omega), i2 (by omega) (by omega)]
  rfl
 ·intro kn
  unfold u5
  dsimp only
  rw [if_neg (by omega), List.take_length]
 ·rfl
theorem b68 {l : List (List Int)} (h : l.length ≤ 1000 ∧ l.flatten.length ≤ 1000000) (hr : b0K l) : l5 (l, ()) = some l.flatten :=
 j5 (ks := y9) (rs := z0) (x := (l, ())) ⟨b5t.2 hr, trivial⟩ h
theorem b5M {l : List (List Int)} (h : l.length ≤ 1000 ∧ l.flatten.length ≤ 1000000) (hr : b0K l) : v4 (l, ()) = some l.flatten :=
 j5 (ks := z8) (rs := z9) (x := (l, ())) ⟨b5t.2 hr, trivial⟩ h
theorem a9d : ∀ x r, m8 x = some r → ∃ N, L5 N x = some r := by
 refine j7 (ks := s7) (rs := D6) fun x hw hq => ⟨0, ?_⟩
 obtain ⟨(a : List Int), (b : List Int), u⟩ := x
 unfold L5
 exact congrArg some (b1g (V1.1 hw.1).2 (V1.1 hw.2.1).2)
theorem b5L {a b : List Int} (ha : a.length ≤ 1000000 ∧ bytes a) (hb : b.length ≤ 1000000 ∧ bytes b) : m8 (a, b, ()) = some (decide (a = b)) := by
 have hM : 1000000 ≤ maxLen := by decide
 exact j5 (ks := s7) (rs := D6) (x := (a, b, ())) ⟨(V1 (b := a)).2 ⟨by omega, ha.2⟩, (V1 (b := b)).2 ⟨by omega, hb.2⟩, trivial⟩ trivial
theorem o6 {n : Int} : x4 .u64 n ↔ 0 ≤ n ∧ n ≤ 18446744073709551615 := by simp [x4, Lit.wf, IntKind.min, IntKind.max, IntKind.signed, IntKind.bits]
theorem b3x {n : Int} : x4 .u32 n ↔ 0 ≤ n ∧ n ≤ 4294967295 := by simp [x4, Lit.wf, IntKind.min, IntKind.max, IntKind.signed, IntKind.bits]
theorem a8f {n : Int} : x4 .u16 n ↔ 0 ≤ n ∧ n ≤ 65535 := by simp [x4, Lit.wf, IntKind.min, IntKind.max, IntKind.signed, IntKind.bits]
def b26 (n : Int) (w i : Nat) : List Int := (List.range w).map fun j => if w - i ≤ j then n / 2 ^ (8 * (w - 1 - j)) % 256 else 0
theorem b5O (n : Int) (w : Nat) : b26 n w w = D1 n w := List.map_congr_left fun j _ => by rw [if_pos (by omega)]
theorem b4k (n : Int) (w : Nat) : b26 n w 0 = List.replicate w 0 := by
 refine rows.ext (n := w) (by simp [b26]) (by simp) fun j hj => ?_
 rw [a7m]
 unfold b26
 rw [B6 hj, if_neg (by omega)]
theorem b4j (n : Int) {w i : Nat} (hi : i < w) : (b26 n w i).set (w - 1 - i) (n / 2 ^ (8 * i) % 256) = b26 n w (i + 1) := by
 have hl : (b26 n w i).length = w := by simp [b26]
 refine rows.ext (n := w) (by simp [b26]) (by simp [b26]) fun j hj => ?_
 by_cases e : w - 1 - i = j
 ·subst e
  rw [b1m (by omega)]
  unfold b26
  rw [B6 hj, if_pos (by omega), show w - 1 - (w - 1 - i) = i by omega]
 ·rw [getD_set_ne e]
  unfold b26
  rw [B6 hj, B6 hj]
  by_cases h : w - i ≤ j
  ·rw [if_pos h, if_pos (by omega)]
  ·rw [if_neg h, if_neg (by omega)]
theorem b1N : ∀ x r, M7 x = some r → ∃ N, a0x N x = some r := by
 refine j7 (ks := C7) (rs := C8) fun x hw hq => ⟨10, ?_⟩
 obtain ⟨(n : Int), (w : Int), u⟩ := x
 have hn : 0 ≤ n ∧ n ≤ 18446744073709551615 := o6.1 hw.1
 obtain ⟨h0, h1⟩ : 0 ≤ w ∧ w ≤ 8 := hq
 obtain ⟨w, rfl⟩ : ∃ m : Nat, w = m := ⟨w.toNat, by omega⟩
 obtain ⟨n, rfl⟩ : ∃ m : Nat, n = m := ⟨n.toNat, by omega⟩
 unfold a0x
 dsimp only
 rw [if_pos h0, if_pos rfl, if_pos (by omega), Int.toNat_natCast]
 refine (I6 (F := w8 10) (s := fun i => ((n : Int), (w : Int), w, (w : Int), (i : Int), w, b26 n w i, ())) (y := (w, w, D1 n w, ())) w ?_ ?_ ?_ 10 (by omega)).trans ?_
 ·rw [b4k]; rfl
 ·intro i hi kn
  have e1 : IntKind.i64.wrap (8 * (i : Int)) = ((8 * i : Nat) : Int) := by rw [i2 (by omega) (by omega)]; omega
  have e2 : IntKind.i64.wrap (IntKind.i64.wrap ((w : Int) - 1) - i) = ((w - 1 - i : Nat) : Int) := by rw [i2 (x := (w : Int) - 1) (by omega) (by omega), i2 (by omega) (by omega)]; omega
  have e3 : IntKind.u8.wrap (b5A IntKind.u64 (n : Int) ((8 * i : Nat) : Int)) = (n : Int) / 2 ^ (8 * i) % 256 := by
   rw [a8L (k := .u64) (show 8 * i ≤ 64 by omega), a7g]
   simp
  unfold w8
  dsimp only
  rw [if_pos (by omega), e1, e2, if_neg (by omega), if_pos (by omega), if_pos (by omega), Int.toNat_natCast, if_pos (by omega), e3, b4j _ hi, i2 (by omega) (by omega)]
  rfl
 ·intro kn
  unfold w8
  dsimp only
  rw [if_neg (by omega), b5O]
 ·rfl
theorem b6K {n : Int} (hn : 0 ≤ n ∧ n ≤ 18446744073709551615) {w : Nat} (hw : w ≤ 8) : M7 (n, (w : Int), ()) = some (D1 n w) := by
 have := j5 (ks := C7) (rs := C8) (x := (n, (w : Int), ())) (Q := fun x => 0 ≤ x.2.1 ∧ x.2.1 ≤ 8) (f := fun x => D1 x.1 x.2.1.toNat) ⟨o6.2 hn, (y0 (n := (w : Int))).2 (by omega), trivial⟩ ⟨by show (0 : Int) ≤ w; omega, by show (w : Int) ≤ 8; omega⟩
 exact this
theorem K0 {x : Int} (h0 : 0 ≤ x) (h1 : x ≤ 18446744073709551615) : IntKind.u64.wrap x = x := by simp [IntKind.wrap, IntKind.signed, IntKind.bits]; omega
theorem b1M : ∀ x r, j9 x = some r → ∃ N, a0w N x = some r := by
 refine j7 (ks := U2) (rs := C6) fun x hw hq => ⟨0, ?_⟩
 obtain ⟨(n : Int), u⟩ := x
 have hn : 0 ≤ n ∧ n ≤ 65535 := a8f.1 hw.1
 unfold a0w
 dsimp only
 rw [K0 (by omega) (by omega)]
 exact congrArg (fun o => Option.bind o _) (b6K (n := n) (by omega) (w := 2) (by omega))
theorem b4c {n : Int} (h : 0 ≤ n ∧ n ≤ 65535) : j9 (n, ()) = some (D1 n 2) := j5 (ks := U2) (rs := C6) (x := (n, ())) ⟨a8f.2 h, trivial⟩ trivial
theorem b3E : ∀ x r, a15 x = some r → ∃ N, a2e N x = some r := by
 refine j7 (ks := F9) (rs := a0A) fun x hw hq => ⟨0, ?_⟩
 unfold a2e b5B
 by_cases h : x.1.1 < x.1.2.1
 ·rw [if_pos h]
  exact congrArg some (decide_eq_decide.2 ⟨fun g => ⟨h, g⟩, fun g => g.2⟩)
 ·rw [if_neg h]
  exact congrArg some (by simp [h])
theorem b7Z {lo hi : Int} (h1 : 0 ≤ lo ∧ lo ≤ 18446744073709551615) (h2 : 0 ≤ hi ∧ hi ≤ 18446744073709551615) : a15 ((lo, hi, ()), ()) = some (b5B lo hi) :=
 j5 (ks := F9) (rs := a0A) (x := ((lo, hi, ()), ())) ⟨⟨o6.2 h1, o6.2 h2, trivial⟩, trivial⟩ trivial
theorem b3D : ∀ x r, a14 x = some r → ∃ N, a2d N x = some r := by
 refine j7 (ks := F7) (rs := a0z) fun x hw hq => ⟨3, ?_⟩
 obtain ⟨(l : List Int), u⟩ := x
 have hl : l.length = 2 := hq
 obtain ⟨a, b, rfl⟩ : ∃ a b, l = [a, b] := by
  match l, hl with
  | [a, b], _ => exact ⟨a, b, rfl⟩
 have hb : ∀ z ∈ [a, b], x4 .u64 z := hw.1.2
 have ha1 := o6.1 (hb a (by simp))
 have hb1 := o6.1 (hb b (by simp))
 unfold a2d
 dsimp only
 rw [show ([a, b] : List Int).length / 2 = 1 by simp, show ([a, b] : List Int).length = 2 from rfl]
 show a5a (F8 3) 3 (1, 1, (1 : Int), (0 : Int), 2, [a, b], ()) _ = some (b5B a b)
 simp only [a5a]
 unfold F8
 dsimp only
 rw [if_pos (by omega), if_pos (by omega), if_pos (by omega), if_pos (by omega)]
 refine (congrArg (fun o => Option.bind o _) (b7Z ha1 hb1)).trans ?_
 rw [Option.bind_some]
 by_cases h : b5B a b = true
 ·rw [if_neg (by simp [h]), if_neg (by omega), i2 (by omega) (by omega), if_neg (by omega), h]
  rfl
 ·rw [if_pos h]
  have : b5B a b = false := by simpa using h
  rw [this]
theorem b7Y {a b : Int} (h1 : 0 ≤ a ∧ a ≤ 18446744073709551615) (h2 : 0 ≤ b ∧ b ≤ 18446744073709551615) : a14 ([a, b], ()) = some (b5B a b) := by
 have hM : 1 ≤ maxLen := by decide
 have w : Kd.wf (.sla (.int .u64) 2) [a, b] := ⟨⟨1, rfl, hM⟩, fun z hz => by
  rcases List.mem_cons.1 hz with rfl | hz
  ·exact o6.2 h1
  ·rw [List.mem_singleton.1 hz]; exact o6.2 h2⟩
 exact j5 (ks := F7) (rs := a0z) (x := ([a, b], ())) ⟨w, trivial⟩ rfl
theorem d9 (n : Int) (w : Nat) : (D1 n w).length = w := by simp [D1]
theorem i9 (n : Int) (w : Nat) : bytes (D1 n w) := fun z hz => by
 obtain ⟨i, _, rfl⟩ := List.mem_map.1 hz
 omega
end Go.Ax.TryP
set_option linter.unusedVariables false
namespace Go.Ax.TryP
open Go.Proofs
theorem b3w {n : Int} : x4 .i32 n ↔ -2147483648 ≤ n ∧ n ≤ 2147483647 := by simp [x4, Lit.wf, IntKind.min, IntKind.max, IntKind.signed, IntKind.bits]
theorem b8o : maxLen = 9223372036854775807 := by decide
theorem b44 : ∀ x r, a25 x = some r → ∃ N, a3i N x = some r := by
 refine j7 (ks := a1G) (rs := a1H) fun x hw hq => ⟨0, ?_⟩
 unfold a3i b8U
 repeat' split
 all_goals rfl
theorem b7X {k : Int} (h : -9223372036854775808 ≤ k ∧ k ≤ 9223372036854775807) : a25 (k, ()) = some (b8U k) := j5 (ks := a1G) (rs := a1H) (x := (k, ())) ⟨y0.2 h, trivial⟩ trivial
theorem b6l {k : Int} (h : k < 1 ∨ 8 < k) : a5b k = ⟨#[]⟩ := by
 unfold a5b
 repeat' (split; (try omega))
 rfl
theorem b3z : ∀ x r, V7 x = some r → ∃ N, Y4 N x = some r := by
 refine j7 (ks := a0q) (rs := a0r) fun x hw hq => ⟨0, ?_⟩
 obtain ⟨(k : Int), u⟩ := x
 show Y4 0 (k, u) = some (a5b k)
 by_cases h : k < 1 ∨ 8 < k
 ·rw [b6l h]
  unfold Y4
  dsimp only
  by_cases h0 : k < 0
  ·rw [if_pos h0]
  by_cases h9 : 9 ≤ k
  ·rw [if_neg h0, if_pos h9]
  have : k = 0 := by omega
  subst this
  rfl
 ·have : k = 1 ∨ k = 2 ∨ k = 3 ∨ k = 4 ∨ k = 5 ∨ k = 6 ∨ k = 7 ∨ k = 8 := by omega
  rcases this with rfl | rfl | rfl | rfl | rfl | rfl | rfl | rfl <;> rfl
theorem b4a {k : Int} (h : -9223372036854775808 ≤ k ∧ k ≤ 9223372036854775807) : V7 (k, ()) = some (a5b k) := j5 (ks := a0q) (rs := a0r) (x := (k, ())) ⟨y0.2 h, trivial⟩ trivial
theorem b46 : ∀ x r, F0 x = some r → ∃ N, a1J N x = some r := by
 refine j7 (ks := J2) (rs := a1K) fun x hw hq => ⟨0, ?_⟩
 obtain ⟨(k : Int), (c : Int), u⟩ := x
 show a1J 0 (k, c, u) = some (p8 k c)
 unfold a1J p8 a38
 dsimp only
 repeat' split
 all_goals simp_all [eq_comm]
theorem a71 {k c : Int} (h : -9223372036854775808 ≤ k ∧ k ≤ 9223372036854775807) (hc : -2147483648 ≤ c ∧ c ≤ 2147483647) : F0 (k, c, ()) = some (p8 k c) := j5 (ks := J2) (rs := a1K) (x := (k, c, ())) ⟨y0.2 h, b3w.2 hc, trivial⟩ trivial
theorem b0r : ∀ x r, I5 x = some r → ∃ N, R5 N x = some r := by
 refine j7 (ks := N5) (rs := N6) fun x hw hq => ⟨0, ?_⟩
 obtain ⟨(n : Int), u⟩ := x
 unfold R5 b5x
 dsimp only
 by_cases h : n ≥ 0
 ·rw [if_pos h]
  exact congrArg some (decide_eq_decide.2 ⟨fun g => ⟨h, g⟩, fun g => g.2⟩)
 ·rw [if_neg h]
  exact congrArg some (decide_eq_false (by omega)).symm
theorem a9J {n : Int} (h : -9223372036854775808 ≤ n ∧ n ≤ 9223372036854775807) : I5 (n, ()) = some (b5x n) :=
 j5 (ks := N5) (rs := N6) (x := (n, ())) ⟨y0.2 h, trivial⟩ trivial
theorem b3C : ∀ x r, a13 x = some r → ∃ N, a2c N x = some r := by
 refine j7 (ks := a0t) (rs := a0u) fun x hw hq => ⟨0, ?_⟩
 unfold a2c a7t
 split <;> rfl
theorem b7c {k : Int} (h : -9223372036854775808 ≤ k ∧ k ≤ 9223372036854775807) : a13 (k, ()) = some (a7t k) := j5 (ks := a0t) (rs := a0u) (x := (k, ())) ⟨y0.2 h, trivial⟩ trivial
theorem b0v : ∀ x r, E1 x = some r → ∃ N, J6 N x = some r := by
 refine j7 (ks := y7) (rs := O0) fun x hw hq => ⟨0, ?_⟩
 obtain ⟨(is : Bool), (b : List Int), (m : Int), u⟩ := x
 show J6 0 (is, b, m, u) = some (a2n is b.length m)
 unfold J6 a2n
 dsimp only
 cases is with
 | false =>
  rw [if_pos (by simp), if_neg (by simp)]
  exact congrArg some (decide_eq_decide.2 (by omega))
 | true =>
  rw [if_neg (by simp), if_pos rfl]
  by_cases h : (b.length : Int) ≥ 1
  ·rw [if_pos h]
   exact congrArg some (decide_eq_decide.2 (by omega))
  ·rw [if_neg h]
   exact congrArg some (decide_eq_false (by omega)).symm
theorem a5P {is : Bool} {b : List Int} {m : Int} (hb : b.length ≤ maxLen ∧ bytes b) (hm : -9223372036854775808 ≤ m ∧ m ≤ 9223372036854775807) : E1 (is, b, m, ()) = some (a2n is b.length m) :=
 j5 (ks := y7) (rs := O0) (x := (is, b, m, ())) ⟨trivial, V1.2 hb, y0.2 hm, trivial⟩ trivial
theorem b0z : ∀ x r, Q4 x = some r → ∃ N, J7 N x = some r := by
 refine j7 (ks := z7) (rs := O4) fun x hw hq => ⟨0, ?_⟩
 obtain ⟨(n : Int), (w : Int), u⟩ := x
 have hn : 0 ≤ n ∧ n ≤ 18446744073709551615 := o6.1 hw.1
 obtain ⟨h0, h1⟩ : 1 ≤ w ∧ w ≤ 8 := hq
 obtain ⟨w, rfl⟩ : ∃ m : Nat, w = m := ⟨w.toNat, by omega⟩
 obtain ⟨n, rfl⟩ : ∃ m : Nat, n = m := ⟨n.toNat, by omega⟩
 show J7 0 ((n : Int), (w : Int), u) = some (b4w n w)
 unfold J7 b4w
 dsimp only
 rw [if_neg (by omega), if_neg (by omega)]
 by_cases h : (w : Int) < 8
 ·have e1 : IntKind.i64.wrap (8 * (w : Int)) = ((8 * w : Nat) : Int) := by rw [i2 (by omega) (by omega)]; omega
  rw [if_pos h, e1, if_neg (by omega), a8L (k := .u64) (show 8 * w ≤ 64 by omega), Int.toNat_natCast]
  have e2 : ((n / 2 ^ (8 * w) : Nat) : Int) = (n : Int) / 2 ^ (8 * w) := by simp
  rw [e2]
  by_cases h2 : (n : Int) / 2 ^ (8 * w) ≠ 0
  ·rw [if_pos h2, if_pos ⟨h, h2⟩]
  ·rw [if_neg h2, if_neg (fun g => h2 g.2)]
 ·rw [if_neg h, if_neg (fun g => h g.1)]
theorem b69 {n : Int} (hn : 0 ≤ n ∧ n ≤ 18446744073709551615) {w : Int} (hw : 1 ≤ w ∧ w ≤ 8) : Q4 (n, w, ()) = some (b4w n w) :=
 j5 (ks := z7) (rs := O4) (x := (n, w, ())) ⟨o6.2 hn, (y0 (n := w)).2 (by omega), trivial⟩ hw
theorem b1L : ∀ x r, c7 x = some r → ∃ N, a0v N x = some r := by
 refine j7 (ks := B9) (rs := C3) fun x hw hq => ⟨0, ?_⟩
 obtain ⟨(n : Int), (w : Int), u⟩ := x
 have hn : 0 ≤ n ∧ n ≤ 18446744073709551615 := o6.1 hw.1
 obtain ⟨h0, h1, h2⟩ : 1 ≤ w ∧ w ≤ 8 ∧ b4w n w = 0 := hq
 obtain ⟨w, rfl⟩ : ∃ m : Nat, w = m := ⟨w.toNat, by omega⟩
 unfold a0v
 dsimp only
 rw [b69 hn ⟨h0, h1⟩, Option.bind_some, h2, if_neg (by omega)]
 exact congrArg (fun o => Option.bind o _) (b6K hn (w := w) (by omega))
theorem a4C {n : Int} (hn : 0 ≤ n ∧ n ≤ 18446744073709551615) {w : Nat} (hw : 1 ≤ w ∧ w ≤ 8) (hf : b4w n w = 0) : c7 (n, (w : Int), ()) = some (D1 n w, 0) :=
 j5 (ks := B9) (rs := C3) (x := (n, (w : Int), ())) ⟨o6.2 hn, (y0 (n := (w : Int))).2 (by omega), trivial⟩ ⟨by show (1 : Int) ≤ w; omega, by show (w : Int) ≤ 8; omega, hf⟩
theorem a78 {n : Int} (h0 : 0 ≤ n) {w : Nat} (h : n < 2 ^ (8 * w)) : b4w n w = 0 := by
 unfold b4w
 rw [if_neg]
 rintro ⟨_, h2⟩
 rw [Int.toNat_natCast] at h2
 exact h2 (Int.ediv_eq_zero_of_lt h0 h)
theorem b77 {n : Int} : b4w n 8 = 0 := by
 unfold b4w
 rw [if_neg (by omega)]
end Go.Ax.TryP
set_option linter.unusedVariables false
namespace Go.Ax.TryP
open Go.Proofs
theorem a8A {a : List Int} (h : bytes a) (i : Nat) : 0 ≤ a.getD i 0 ∧ a.getD i 0 ≤ 255 := by
 rw [List.getD_eq_getElem?_getD]
 cases e : a[i]? with
 | none => simp
 | some z => exact h z (List.mem_of_getElem? e)
theorem b7s (v : Int) : (List.replicate 1 (0 : Int)).set 0 v = [v] := rfl
theorem b0w : ∀ x r, Q3 x = some r → ∃ N, R7 N x = some r := by
 refine j7 (ks := y8) (rs := O2) fun x hw hq => ⟨x.1.length + 10, ?_⟩
 obtain ⟨(b : List Int), u⟩ := x
 have hq : b.length ≤ 1000000 := hq
 have hb : bytes b := (V1.1 hw.1).2
 unfold R7
 dsimp only
 rw [i2 (by omega) (by omega), if_pos (by omega), if_pos (by omega), if_pos (by omega)]
 refine (a8M (s := fun i => (8 * i, b.length, (b.length : Int), (i : Int), 8 * i, (List.range (8 * i)).map (a5Q b), b.length, b, ())) (y := (8 * b.length, 8 * b.length, p9 b, ())) b.length ?_ ?_ _ (by omega)).trans ?_
 ·intro i hi kn
  have g1 : (i : Int) < (b.length : Int) := by omega
  have g0 : (0 : Int) ≤ i := by omega
  have hz := a8A hb i
  unfold A6
  simp only [g1, g0, hi, if_true, Int.toNat_natCast]
  refine (a8M (s := fun r => (8 * i + r, b.getD i 0, b.length, (b.length : Int), (i : Int), (r : Int), 8 * i + r, (List.range (8 * i + r)).map (a5Q b), b.length, b, ())) (y := (8 * i + 8, b.length, (b.length : Int), (i : Int), 8 * i + 8, (List.range (8 * i + 8)).map (a5Q b), b.length, b, ())) 8 ?_ ?_ (b.length + 10) (by omega)).trans ?_
  ·intro r hr kn
   have e2 : (if b7O .u8 (b5A .u8 (b.getD i 0) (r : Int)) 1 = 1 then (1 : Int) else 0) = a5Q b (8 * i + r) := by
    rw [b71 hz.1 hz.2 (by omega)]
    unfold a5Q
    rw [show (8 * i + r) / 8 = i by omega, show (8 * i + r) % 8 = r by omega]
    have := b70 (b.getD i 0) r
    split <;> omega
   unfold A7
   dsimp only
   rw [if_pos (by omega), if_neg (by omega), if_pos (by omega), e2, i2 (by omega) (by omega), b7s, a7r, show 8 * i + r + 1 = 8 * i + (r + 1) by omega]
   rfl
  ·intro kn
   unfold A7
   dsimp only
   rw [if_neg (by omega)]
  ·simp (disch := omega) only [i2]
   rw [Int.natCast_add, show 8 * i + 8 = 8 * (i + 1) by omega]
   rfl
 ·intro kn
  unfold A6
  simp (disch := omega) only [if_neg]
  rfl
 ·rfl
theorem b67 {b : List Int} (h : b.length ≤ 1000000) (hb : bytes b) : Q3 (b, ()) = some (p9 b) := by
 have hM : 1000000 ≤ maxLen := by decide
 exact j5 (ks := y8) (rs := O2) (x := (b, ())) ⟨(V1 (b := b)).2 ⟨by omega, hb⟩, trivial⟩ h
def a7i (n : Int) (b : List Int) (i : Nat) : Prop := i < 8 * b.length ∧ a5Q b i ≠ 0 ∧ n ≤ (i : Int)
theorem a6m {n : Int} {b : List Int} : b1v n b = true ↔ (b.length : Int) = (n + 7) / 8 ∧ ∀ i, ¬ a7i n b i := by
 unfold b1v a7i
 simp only [Bool.and_eq_true, decide_eq_true_eq, List.all_eq_true, List.mem_range, Bool.or_eq_true]
 refine and_congr_right fun _ => forall_congr' fun i => ?_
 constructor
 ·rintro h ⟨h1, h2, h3⟩
  rcases h h1 with h | h
  ·exact h2 h
  ·omega
 ·intro h h1
  by_cases h2 : a5Q b i = 0
  ·exact .inl h2
  ·exact .inr (by
    rcases Int.lt_or_le (i : Int) n with h3 | h3
    ·exact h3
    ·exact absurd ⟨h1, h2, h3⟩ h)
theorem b4N {n : Int} {b : List Int} (h : ∃ i, a7i n b i) : ∃ i, a7i n b i ∧ ∀ j, j < i → ¬ a7i n b j := by
 obtain ⟨i, hi⟩ := h
 induction i using Nat.strongRecOn with
 | _ i ih =>
  by_cases h : ∃ j, j < i ∧ a7i n b j
  ·obtain ⟨j, h1, h2⟩ := h
   exact ih j h1 h2
  ·exact ⟨i, hi, fun j hj hb => h ⟨j, hj, hb⟩⟩
theorem b4T {F : Nat → (β : Type) → (Int × Nat × Int × Int × Nat × List Int × Unit) → ((Int × Nat × Int × Int × Nat × List Int × Unit) → Option β) → (((Bool × Unit) ⊕ Unit) → Option β) → Option β}
  (hF : ∀ N, F N = fun β x kn ke => if x.2.2.2.1 < x.2.2.1 then (if 0 ≤ x.2.2.2.1 then (if x.2.2.2.1 < ((x.2.1 : Nat) : Int) then (if x.2.2.2.1.toNat < x.2.2.2.2.1 then (if List.getD x.2.2.2.2.2.1 x.2.2.2.1.toNat 0 ≠ 0 then (if x.2.2.2.1 ≥ x.1 then ke (.inl (false, ())) else kn (x.1, x.2.1, x.2.2.1, IntKind.i64.wrap (x.2.2.2.1 + 1), x.2.2.2.2.1, x.2.2.2.2.2.1, ())) else kn (x.1, x.2.1, x.2.2.1, IntKind.i64.wrap (x.2.2.2.1 + 1), x.2.2.2.2.1, x.2.2.2.2.2.1, ())) else none) else none) else none) else ke (.inr ()))
  {n : Int} {b : List Int} (hl : b.length ≤ 1000000) {N : Nat} (hN : 8 * b.length < N) {β : Type} (K : ((Bool × Unit) ⊕ Unit) → Option β) :
  ((∃ i, a7i n b i) → a5a (F N) N (n, (p9 b).length, (((p9 b).length : Nat) : Int), (0 : Int), (p9 b).length, p9 b, ()) K = K (.inl (false, ()))) ∧
  ((¬ ∃ i, a7i n b i) → a5a (F N) N (n, (p9 b).length, (((p9 b).length : Nat) : Int), (0 : Int), (p9 b).length, p9 b, ()) K = K (.inr ())) := by
 have e := b27 b
 have i7 : ∀ (i : Nat), i < 8 * b.length → ¬ a7i n b i → ∀ (kn : (Int × Nat × Int × Int × Nat × List Int × Unit) → Option β) (ke : ((Bool × Unit) ⊕ Unit) → Option β), F N β (n, (p9 b).length, (((p9 b).length : Nat) : Int), (i : Int), (p9 b).length, p9 b, ()) kn ke = kn (n, (p9 b).length, (((p9 b).length : Nat) : Int), ((i + 1 : Nat) : Int), (p9 b).length, p9 b, ()) := by
  intro i hi hb kn ke
  rw [hF]
  dsimp only
  rw [if_pos (by omega), if_pos (by omega), if_pos (by omega), Int.toNat_natCast, if_pos (by omega), a5R hi, i2 (by omega) (by omega)]
  by_cases h2 : a5Q b i ≠ 0
  ·rw [if_pos h2, if_neg (fun h3 => hb ⟨hi, h2, h3⟩)]
   rfl
  ·rw [if_neg h2]
   rfl
 refine ⟨fun hex => ?_, fun hex => ?_⟩
 ·obtain ⟨i, hi, hmin⟩ := b4N hex
  refine I6 (F := F N) (s := fun i => (n, (p9 b).length, (((p9 b).length : Nat) : Int), (i : Int), (p9 b).length, p9 b, ())) (y := .inl (false, ())) i rfl ?_ ?_ N (by have := hi.1; omega)
  ·exact fun j hj kn => i7 j (by have := hi.1; omega) (hmin j hj) kn K
  ·intro kn
   obtain ⟨k1, k2, k3⟩ := hi
   rw [hF]
   dsimp only
   rw [if_pos (by omega), if_pos (by omega), if_pos (by omega), Int.toNat_natCast, if_pos (by omega), a5R k1, if_pos k2, if_pos k3]
 ·refine I6 (F := F N) (s := fun i => (n, (p9 b).length, (((p9 b).length : Nat) : Int), (i : Int), (p9 b).length, p9 b, ())) (y := .inr ()) (8 * b.length) rfl ?_ ?_ N (by omega)
  ·exact fun j hj kn => i7 j hj (fun h => hex ⟨j, h⟩) kn K
  ·intro kn
   rw [hF]
   dsimp only
   rw [if_neg (by omega)]
theorem b0s : ∀ x r, Q0 x = some r → ∃ N, J3 N x = some r := by
 refine j7 (ks := y4) (rs := N7) fun x hw hq => ?_
 obtain ⟨(n : Int), (b : List Int), u⟩ := x
 obtain ⟨h0, h1⟩ : 0 ≤ n ∧ n ≤ 1000 := hq
 have hb : bytes b := (V1.1 hw.2.1).2
 refine ⟨8 * b.length + 1, ?_⟩
 show J3 (8 * b.length + 1) (n, b, u) = some (b1v n b)
 unfold J3
 dsimp only
 rw [i2 (x := n + 7) (by omega) (by omega), b6C (by omega), i2 (by omega) (by omega)]
 by_cases hl : (b.length : Int) = (n + 7) / 8
 ·rw [if_neg (fun h => h hl), b67 (by omega) hb, Option.bind_some]
  obtain ⟨k1, k2⟩ := b4T (F := H2) (fun _ => rfl) (n := n) (b := b) (by omega) (N := 8 * b.length + 1) (by omega) (fun y => match y with | .inl y2 => some y2.1 | .inr _ => some true)
  by_cases hex : ∃ i, a7i n b i
  ·refine (k1 hex).trans (congrArg some ?_)
   obtain ⟨i, hi⟩ := hex
   exact (Bool.eq_false_iff.2 fun h => (a6m.1 h).2 i hi).symm
  ·exact (k2 hex).trans (congrArg some (a6m.2 ⟨hl, fun i hi => hex ⟨i, hi⟩⟩).symm)
 ·rw [if_pos hl]
  exact congrArg some (Bool.eq_false_iff.2 fun h => hl (a6m.1 h).1).symm
theorem b4f {n : Int} {b : List Int} (hn : 0 ≤ n ∧ n ≤ 1000) (hb : b.length ≤ maxLen ∧ bytes b) : Q0 (n, b, ()) = some (b1v n b) :=
 j5 (ks := y4) (rs := N7) (x := (n, b, ())) ⟨(y0 (n := n)).2 (by omega), V1.2 hb, trivial⟩ hn
end Go.Ax.TryP
set_option linter.unusedVariables false
namespace Go.Ax.TryP
open Go.Proofs
def a19 (c : Ms) : Prop := (-9223372036854775808 ≤ c.1 ∧ c.1 ≤ 9223372036854775807) ∧ (-9223372036854775808 ≤ c.2.1 ∧ c.2.1 ≤ 9223372036854775807) ∧ (-9223372036854775808 ≤ c.2.2.1 ∧ c.2.2.1 ≤ 9223372036854775807) ∧ (0 ≤ c.2.2.2.1 ∧ c.2.2.2.1 ≤ 4294967295) ∧ (0 ≤ c.2.2.2.2.1 ∧ c.2.2.2.2.1 ≤ 4294967295) ∧ (0 ≤ c.2.2.2.2.2.1 ∧ c.2.2.2.2.2.1 ≤ 18446744073709551615) ∧ (0 ≤ c.2.2.2.2.2.2.1 ∧ c.2.2.2.2.2.2.1 ≤ 18446744073709551615)
 ∧ (-9223372036854775808 ≤ c.2.2.2.2.2.2.2.1 ∧ c.2.2.2.2.2.2.2.1 ≤ 9223372036854775807) ∧ (-9223372036854775808 ≤ c.2.2.2.2.2.2.2.2.1 ∧ c.2.2.2.2.2.2.2.2.1 ≤ 9223372036854775807)
 ∧ (c.2.2.2.2.2.2.2.2.2.1.length ≤ maxLen ∧ bytes c.2.2.2.2.2.2.2.2.2.1) ∧ (c.2.2.2.2.2.2.2.2.2.2.1.length ≤ maxLen ∧ bytes c.2.2.2.2.2.2.2.2.2.2.1) ∧ (c.2.2.2.2.2.2.2.2.2.2.2.1.length ≤ maxLen ∧ bytes c.2.2.2.2.2.2.2.2.2.2.2.1)
theorem V2 {c : Ms} : Kd.wf (.cat msL) c ↔ a19 c := by
 have h1 : ∀ n, x4 .i64 n ↔ -9223372036854775808 ≤ n ∧ n ≤ 9223372036854775807 := fun _ => y0
 have h2 : ∀ n, x4 .u32 n ↔ 0 ≤ n ∧ n ≤ 4294967295 := fun _ => b3x
 have h3 : ∀ n, x4 .u64 n ↔ 0 ≤ n ∧ n ≤ 18446744073709551615 := fun _ => o6
 have h4 : ∀ n, x4 .u8 n ↔ 0 ≤ n ∧ n ≤ 255 := fun _ => a8Q
 simp only [Kd.wf, b4v, FK.wf, a19, bytes, h1, h2, h3, h4, and_true]
theorem b6S (c : Ms) : (c.1, c.2.1, c.2.2.1, c.2.2.2.1, c.2.2.2.2.1, c.2.2.2.2.2.1, c.2.2.2.2.2.2.1, c.2.2.2.2.2.2.2.1, c.2.2.2.2.2.2.2.2.1, c.2.2.2.2.2.2.2.2.2.1, c.2.2.2.2.2.2.2.2.2.2.1, c.2.2.2.2.2.2.2.2.2.2.2.1, ()) = c := rfl
theorem b2Y {a b : Int} : a :: b :: [] = List.replicate 2 (0 : Int) ↔ a = 0 ∧ b = 0 := by simp
theorem b0u : ∀ x r, Q2 x = some r → ∃ N, J5 N x = some r := by
 refine j7 (ks := y6) (rs := N9) fun x hw hq => ⟨0, ?_⟩
 obtain ⟨(c : Ms), u⟩ := x
 obtain ⟨h1, _, _, _, _, h6, h7, _⟩ := V2.1 hw.1
 show J5 0 (c, u) = some (a2U c)
 unfold J5 a2U
 dsimp only
 rw [a71 h1 (by omega), Option.bind_some]
 cases p8 c.1 114 with
 | true =>
  rw [if_neg (by simp), if_pos rfl, b7Y h6 h7, Option.bind_some]
  cases b5B c.2.2.2.2.2.1 c.2.2.2.2.2.2.1 <;> rfl
 | false =>
  rw [if_pos (by simp), if_neg (show ¬ (false = true) by simp)]
  by_cases h : c.2.2.2.2.2.1 = 0 ∧ c.2.2.2.2.2.2.1 = 0
  ·rw [if_pos (b2Y.2 h)]
   exact congrArg some (decide_eq_decide.2 (by simp [h.1, h.2]))
  ·rw [if_neg (fun g => h (b2Y.1 g))]
   exact congrArg some (decide_eq_false (fun g => h ⟨g.1, g.2.1⟩)).symm
theorem b4i {c : Ms} (h : a19 c) : Q2 (c, ()) = some (a2U c) := j5 (ks := y6) (rs := N9) (x := (c, ())) ⟨V2.2 h, trivial⟩ trivial
theorem b0t : ∀ x r, Q1 x = some r → ∃ N, J4 N x = some r := by
 refine j7 (ks := y5) (rs := N8) fun x hw hq => ⟨0, ?_⟩
 obtain ⟨(c : Ms), u⟩ := x
 obtain ⟨h1, _⟩ := V2.1 hw.1
 show J4 0 (c, u) = some (O7 c)
 unfold J4 O7
 dsimp only
 rw [a71 h1 (by omega), Option.bind_some]
 have e1 : decide (p8 c.1 110 = true) = p8 c.1 110 := by cases p8 c.1 110 <;> rfl
 rw [e1]
 by_cases k1 : p8 c.1 110 = decide (c.2.2.2.2.2.2.2.2.1 ≠ 0)
 ·rw [if_neg (fun h => h k1), decide_eq_true k1, Bool.true_and]
  by_cases k2 : c.2.2.2.2.2.2.2.2.1 < 0
  ·rw [if_pos k2, decide_eq_false (by omega), Bool.false_and]
  by_cases k3 : c.2.2.2.2.2.2.2.2.1 > 256
  ·rw [if_neg k2, if_pos k3, decide_eq_false (by omega), Bool.false_and]
  rw [if_neg k2, if_neg k3, decide_eq_true (show 0 ≤ c.2.2.2.2.2.2.2.2.1 ∧ c.2.2.2.2.2.2.2.2.1 ≤ 256 by omega), Bool.true_and, a71 h1 (by omega), Option.bind_some]
  cases p8 c.1 112 with
  | false => rw [if_pos (by simp), if_neg (by simp)]
  | true =>
   rw [if_neg (by simp), if_pos rfl]
   by_cases k4 : c.2.2.2.2.2.2.2.1 ≥ 0
   ·rw [if_pos k4]
    exact congrArg some (decide_eq_decide.2 (by omega))
   ·rw [if_neg k4]
    exact congrArg some (decide_eq_false (by omega)).symm
 ·rw [if_pos k1, decide_eq_false k1, Bool.false_and]
theorem b4h {c : Ms} (h : a19 c) : Q1 (c, ()) = some (O7 c) := j5 (ks := y5) (rs := N8) (x := (c, ())) ⟨V2.2 h, trivial⟩ trivial
theorem b7g (b : Bool) : decide (b = true) = b := by cases b <;> rfl
theorem b2O {c : Ms} (h : O7 c = true) : 0 ≤ c.2.2.2.2.2.2.2.2.1 ∧ c.2.2.2.2.2.2.2.2.1 ≤ 256 := by
 unfold O7 at h
 simp only [Bool.and_eq_true, decide_eq_true_eq] at h
 exact h.2.1
theorem b1K : ∀ x r, u2 x = some r → ∃ N, N3 N x = some r := by
 refine j7 (ks := B8) (rs := T4) fun x hw hq => ⟨0, ?_⟩
 obtain ⟨(c : Ms), u⟩ := x
 have hc : a19 c := V2.1 hw.1
 have hc2 := hc
 obtain ⟨h1, h2, h3, _, _, _, _, _, _, h10, h11, h12⟩ := hc2
 show N3 0 (c, u) = some (x8 c)
 have hmost : -9223372036854775808 ≤ a7t c.1 ∧ a7t c.1 ≤ 9223372036854775807 := by unfold a7t; split <;> omega
 unfold N3 x8
 dsimp only
 rw [b6S, b4a h1, Option.bind_some]
 by_cases hn : a5b c.1 = ⟨#[]⟩
 ·rw [if_pos hn, if_pos hn]
 rw [if_neg hn, if_neg hn, a9J h2, Option.bind_some]
 unfold okS
 cases b5x c.2.1 with
 | false => rfl
 | true =>
 rw [if_pos rfl, a9J h3, Option.bind_some, Bool.true_and]
 cases b5x c.2.2.1 with
 | false => rfl
 | true =>
 rw [if_pos rfl, Bool.true_and]
 by_cases hne : c.2.1 ≠ c.2.2.1
 ·rw [if_pos hne, decide_eq_true hne, Bool.true_and, b4i hc, Option.bind_some]
  cases a2U c with
  | false => rfl
  | true =>
  rw [if_pos rfl, Bool.true_and, b4h hc, Option.bind_some]
  cases hp : O7 c with
  | false => rfl
  | true =>
  rw [if_pos rfl, Bool.true_and, a71 h1 (by omega), Option.bind_some, b7c h1, Option.bind_some, b7g, a5P h10 hmost, Option.bind_some]
  cases a2n (p8 c.1 100) c.2.2.2.2.2.2.2.2.2.1.length (a7t c.1) with
  | false => rfl
  | true =>
  rw [if_pos rfl, Bool.true_and, a71 h1 (by omega), Option.bind_some, b7g, a5P h11 (by omega), Option.bind_some]
  cases a2n (p8 c.1 99) c.2.2.2.2.2.2.2.2.2.2.1.length 6446 with
  | false => rfl
  | true =>
  rw [if_pos rfl, Bool.true_and, a71 h1 (by omega), Option.bind_some, b7g, a5P h12 (by omega), Option.bind_some]
  cases a2n (p8 c.1 115) c.2.2.2.2.2.2.2.2.2.2.2.1.length 3309 with
  | false => rfl
  | true =>
  rw [if_neg (by simp), Bool.true_and]
  by_cases h4 : c.1 = 4
  ·have hpl := b2O hp
   rw [if_pos h4, if_pos h4, b4f (by omega) h10, Option.bind_some]
   cases b1v c.2.2.2.2.2.2.2.2.1 c.2.2.2.2.2.2.2.2.2.1 <;> rfl
  ·rw [if_neg h4, if_neg h4]
   rfl
 ·rw [if_neg hne, decide_eq_false hne]
  rfl
theorem b2o {c : Ms} (h : a19 c) : u2 (c, ()) = some (x8 c) := j5 (ks := B8) (rs := T4) (x := (c, ())) ⟨V2.2 h, trivial⟩ trivial
theorem b8r {c : Ms} (h : okS c = true) : b78 c := by
 have hp : O7 c = true := by
  unfold okS at h
  simp only [Bool.and_eq_true] at h
  exact h.2.2.2.2.1
 have hpl := b2O hp
 have hw : ∀ (is : Bool) (n : Nat) (m : Int), m ≤ 60000 → a2n is n m = true → n ≤ 60000 := by
  intro is n m hm hw
  unfold a2n at hw
  split at hw
  ·simp only [decide_eq_true_eq] at hw; omega
  ·simp only [decide_eq_true_eq] at hw; omega
 have hm : a7t c.1 ≤ 60000 := by unfold a7t; split <;> omega
 have hpart : 0 ≤ c.2.2.2.2.2.2.2.1 ∧ c.2.2.2.2.2.2.2.1 ≤ 65535 := by
  unfold O7 at hp
  simp only [Bool.and_eq_true] at hp
  have := hp.2.2
  split at this
  ·simp only [decide_eq_true_eq] at this; omega
  ·simp only [decide_eq_true_eq] at this; omega
 unfold okS at h
 simp only [Bool.and_eq_true, b5x, decide_eq_true_eq] at h
 obtain ⟨a1, a2, _, _, _, a6, a7, a8, _⟩ := h
 exact ⟨by omega, by omega, hpart, by omega, hw _ _ _ hm a6, hw _ _ _ (by omega) a7, hw _ _ _ (by omega) a8⟩
end Go.Ax.TryP
set_option linter.unusedVariables false
set_option linter.unusedSimpArgs false
namespace Go.Ax.TryP
open Go.Proofs
theorem u3 {a b : List Int} : bytes (a ++ b) ↔ bytes a ∧ bytes b := by
 simp only [bytes, List.mem_append]
 exact ⟨fun h => ⟨fun z hz => h z (.inl hz), fun z hz => h z (.inr hz)⟩, fun h z hz => hz.elim (h.1 z) (h.2 z)⟩
theorem H8 (k : Int) : List.set (List.replicate 1 (0 : Int)) 0 (IntKind.u8.wrap k) = [k % 256] := by rw [a7g]; rfl
theorem E7 (k : Int) : bytes [k % 256] := fun z hz => by rw [List.mem_singleton.1 hz]; omega
theorem V4 : bytes [] := fun z hz => by cases hz
theorem a8N {a b d : List Int} (ha : a.length ≤ 300000) (hb : b.length ≤ 300000) (hd : d.length ≤ 300000) (ka : bytes a) (kb : bytes b) (kd : bytes d) : l5 ([a, b, d], ()) = some (a ++ (b ++ d)) := by
 have hM : 1000000 ≤ maxLen := by decide
 rw [b68 ⟨by simp, by simp only [List.flatten_cons, List.flatten_nil, List.length_append, List.length_nil]; omega⟩ ⟨by simp only [List.length_cons, List.length_nil]; omega, fun zs hz => ?_⟩]
 ·simp
 ·simp only [List.mem_cons, List.not_mem_nil, or_false] at hz
  rcases hz with rfl | rfl | rfl
  ·exact ⟨by omega, ka⟩
  ·exact ⟨by omega, kb⟩
  ·exact ⟨by omega, kd⟩
structure Bs (fr to tid key lo hi pt pts : Int) (d ce sg : List Int) : Prop where
 b2 : c7 (IntKind.u64.wrap fr, 1, ()) = some (D1 fr 1, 0)
 b3 : c7 (IntKind.u64.wrap to, 1, ()) = some (D1 to 1, 0)
 b4 : c7 (IntKind.u64.wrap tid, 4, ()) = some (D1 tid 4, 0)
 b5 : c7 (IntKind.u64.wrap key, 4, ()) = some (D1 key 4, 0)
 b6 : c7 (lo, 8, ()) = some (D1 lo 8, 0)
 b7 : c7 (hi, 8, ()) = some (D1 hi 8, 0)
 b8 : c7 (IntKind.u64.wrap pt, 2, ()) = some (D1 pt 2, 0)
 b9 : c7 (IntKind.u64.wrap pts, 2, ()) = some (D1 pts 2, 0)
 u10 : j9 (IntKind.u16.wrap (d.length : Int), ()) = some (D1 (d.length : Int) 2)
 u11 : j9 (IntKind.u16.wrap (ce.length : Int), ()) = some (D1 (ce.length : Int) 2)
 u12 : j9 (IntKind.u16.wrap (sg.length : Int), ()) = some (D1 (sg.length : Int) 2)
 o2 : D1 fr 1 = [fr % 256]
 o3 : D1 to 1 = [to % 256]
 l10 : d.length ≤ 60000
 l11 : ce.length ≤ 60000
 l12 : sg.length ≤ 60000
 y10 : bytes d
 y11 : bytes ce
 y12 : bytes sg
theorem b8S {fr to tid key lo hi pt pts : Int} {d ce sg : List Int} (B : Bs fr to tid key lo hi pt pts d ce sg) (all : Bool) : ([1 % 256] ++ D1 fr 1 ++ D1 to 1 ++ D1 tid 4 ++ D1 key 4 ++ D1 lo 8 ++ D1 hi 8 ++ (D1 (d.length : Int) 2 ++ d)) ++ (D1 (ce.length : Int) 2 ++ ce) = o5 (1, fr, to, tid, key, lo, hi, pt, pts, d, ce, sg, ()) all := by
 simp [o5, a2j, a38, B1, B.o2, B.o3]
theorem b79 {fr to tid key lo hi pt pts : Int} {d ce sg : List Int} (B : Bs fr to tid key lo hi pt pts d ce sg) (all : Bool) : i6 0 ((1, fr, to, tid, key, lo, hi, pt, pts, d, ce, sg, ()), all, ()) = some (o5 (1, fr, to, tid, key, lo, hi, pt, pts, d, ce, sg, ()) all) := by
 have l10 := B.l10
 have l11 := B.l11
 have l12 := B.l12
 unfold i6
 dsimp only
 rw [if_pos (show (1 : Int) = 1 from rfl)]
 rw [if_pos (by omega), if_pos (by omega), if_pos (by omega), if_pos (by omega), B.b2, Option.bind_some, if_pos (by simp only [d9]; omega), B.b3, Option.bind_some, if_pos (by simp only [d9]; omega), B.b4, Option.bind_some, if_pos (by simp only [d9]; omega), B.b5, Option.bind_some, if_pos (by simp only [d9]; omega), B.b6, Option.bind_some, if_pos (by simp only [d9]; omega), B.b7, Option.bind_some, if_pos (by simp only [d9]; omega), B.u10, Option.bind_some, H8]
 dsimp only
 rw [a8N (by simp only [List.length_append, d9, List.length_cons, List.length_nil]; omega) (by rw [d9]; omega) (by omega) (by simp only [u3, i9, E7, and_self]) (i9 _ _) B.y10, Option.bind_some, B.u11, Option.bind_some]
 rw [a8N (by simp only [List.length_append, d9, List.length_cons, List.length_nil]; omega) (by rw [d9]; omega) (by omega) (by simp only [u3, i9, E7, B.y10, and_self]) (i9 _ _) B.y11, Option.bind_some]
 exact congrArg some (b8S B all)
theorem b5X {fr to tid key lo hi pt pts : Int} {d ce sg : List Int} (B : Bs fr to tid key lo hi pt pts d ce sg) : i6 0 ((2, fr, to, tid, key, lo, hi, pt, pts, d, ce, sg, ()), true, ()) = some (o5 (2, fr, to, tid, key, lo, hi, pt, pts, d, ce, sg, ()) true) := by
 have l10 := B.l10
 have l11 := B.l11
 have l12 := B.l12
 unfold i6
 dsimp only
 rw [if_neg (by omega), if_pos (show (2 : Int) = 2 from rfl)]
 rw [if_pos (by omega), if_pos (by omega), if_pos (by omega), if_pos rfl]
 simp (disch := omega) only [if_pos, B.b2, B.b3, B.b4, B.b5, B.b6, B.b7, B.u11, B.u12, Option.bind_some, d9, H8]
 rw [a8N (by simp only [List.length_append, d9, List.length_cons, List.length_nil]; omega) (by rw [d9]; omega) (by omega) (by simp only [u3, i9, E7, and_self]) (i9 _ _) B.y11, Option.bind_some]
 rw [a8N (by simp only [List.length_append, d9, List.length_cons, List.length_nil]; omega) (by rw [d9]; omega) (by omega) (by simp only [u3, i9, E7, B.y11, and_self]) (i9 _ _) B.y12, Option.bind_some]
 simp [o5, a2j, a38, B1, B.o2, B.o3]
theorem b5W {fr to tid key lo hi pt pts : Int} {d ce sg : List Int} (B : Bs fr to tid key lo hi pt pts d ce sg) : i6 0 ((2, fr, to, tid, key, lo, hi, pt, pts, d, ce, sg, ()), false, ()) = some (o5 (2, fr, to, tid, key, lo, hi, pt, pts, d, ce, sg, ()) false) := by
 have l10 := B.l10
 have l11 := B.l11
 have l12 := B.l12
 unfold i6
 dsimp only
 rw [if_neg (by omega), if_pos (show (2 : Int) = 2 from rfl)]
 rw [if_pos (by omega), if_pos (by omega), if_pos (by omega), if_neg (show ¬ (false = true) by simp)]
 simp (disch := omega) only [if_pos, B.b2, B.b3, B.b4, B.b5, B.b6, B.b7, B.u11, B.u12, Option.bind_some, d9, H8]
 rw [a8N (by simp only [List.length_append, d9, List.length_cons, List.length_nil]; omega) (by rw [d9]; omega) (by omega) (by simp only [u3, i9, E7, and_self]) (i9 _ _) B.y11, Option.bind_some]
 simp [o5, a2j, a38, B1, B.o2, B.o3]
theorem b8a {fr to tid key lo hi pt pts : Int} {d ce sg : List Int} (B : Bs fr to tid key lo hi pt pts d ce sg) (all : Bool) : i6 0 ((3, fr, to, tid, key, lo, hi, pt, pts, d, ce, sg, ()), all, ()) = some (o5 (3, fr, to, tid, key, lo, hi, pt, pts, d, ce, sg, ()) all) := by
 have l10 := B.l10
 have l11 := B.l11
 have l12 := B.l12
 unfold i6
 dsimp only
 rw [if_neg (by omega), if_neg (by omega), if_pos (show (3 : Int) = 3 from rfl)]
 simp (disch := omega) only [if_pos, B.b2, B.b3, B.b4, B.b8, B.b9, B.u10, Option.bind_some, d9, H8]
 rw [a8N (by simp only [List.length_append, d9, List.length_cons, List.length_nil]; omega) (by rw [d9]; omega) (by omega) (by simp only [u3, i9, E7, and_self]) (i9 _ _) B.y10, Option.bind_some]
 simp [o5, a2j, a38, B1, B.o2, B.o3]
theorem b8b {fr to tid key lo hi pt pts : Int} {d ce sg : List Int} (B : Bs fr to tid key lo hi pt pts d ce sg) (all : Bool) : i6 0 ((4, fr, to, tid, key, lo, hi, pt, pts, d, ce, sg, ()), all, ()) = some (o5 (4, fr, to, tid, key, lo, hi, pt, pts, d, ce, sg, ()) all) := by
 have l10 := B.l10
 have l11 := B.l11
 have l12 := B.l12
 unfold i6
 dsimp only
 rw [if_neg (by omega), if_neg (by omega), if_neg (by omega), if_pos (show (4 : Int) = 4 from rfl)]
 simp (disch := omega) only [if_pos, B.b2, B.b3, B.b4, B.b9, B.u10, Option.bind_some, d9, H8]
 rw [a8N (by simp only [List.length_append, d9, List.length_cons, List.length_nil]; omega) (by rw [d9]; omega) (by omega) (by simp only [u3, i9, E7, and_self]) (i9 _ _) B.y10, Option.bind_some]
 simp [o5, a2j, a38, B1, B.o2, B.o3]
theorem b5Z {fr to tid key lo hi pt pts : Int} {d ce sg : List Int} (B : Bs fr to tid key lo hi pt pts d ce sg) : i6 0 ((5, fr, to, tid, key, lo, hi, pt, pts, d, ce, sg, ()), true, ()) = some (o5 (5, fr, to, tid, key, lo, hi, pt, pts, d, ce, sg, ()) true) := by
 have l10 := B.l10
 have l11 := B.l11
 have l12 := B.l12
 unfold i6
 dsimp only
 rw [if_neg (by omega), if_neg (by omega), if_neg (by omega), if_neg (by omega), if_pos (show (5 : Int) = 5 from rfl)]
 rw [if_pos (by omega), if_pos (by omega), if_pos rfl]
 simp (disch := omega) only [if_pos, B.b2, B.b3, B.b4, B.b5, B.b6, B.b7, B.u12, Option.bind_some, d9, H8]
 rw [a8N (by simp only [List.length_append, d9, List.length_cons, List.length_nil]; omega) (by rw [d9]; omega) (by omega) (by simp only [u3, i9, E7, and_self]) (i9 _ _) B.y12, Option.bind_some]
 simp [o5, a2j, a38, B1, B.o2, B.o3]
theorem b5Y {fr to tid key lo hi pt pts : Int} {d ce sg : List Int} (B : Bs fr to tid key lo hi pt pts d ce sg) : i6 0 ((5, fr, to, tid, key, lo, hi, pt, pts, d, ce, sg, ()), false, ()) = some (o5 (5, fr, to, tid, key, lo, hi, pt, pts, d, ce, sg, ()) false) := by
 have l10 := B.l10
 have l11 := B.l11
 have l12 := B.l12
 unfold i6
 dsimp only
 rw [if_neg (by omega), if_neg (by omega), if_neg (by omega), if_neg (by omega), if_pos (show (5 : Int) = 5 from rfl)]
 rw [if_pos (by omega), if_pos (by omega), if_neg (show ¬ (false = true) by simp)]
 simp (disch := omega) only [if_pos, B.b2, B.b3, B.b4, B.b5, B.b6, B.b7, B.u12, Option.bind_some, d9, H8]
 simp [o5, a2j, a38, B1, B.o2, B.o3]
theorem b51 {fr to tid key lo hi pt pts : Int} {d ce sg : List Int} (B : Bs fr to tid key lo hi pt pts d ce sg) : i6 0 ((6, fr, to, tid, key, lo, hi, pt, pts, d, ce, sg, ()), true, ()) = some (o5 (6, fr, to, tid, key, lo, hi, pt, pts, d, ce, sg, ()) true) := by
 have l10 := B.l10
 have l11 := B.l11
 have l12 := B.l12
 unfold i6
 dsimp only
 rw [if_neg (by omega), if_neg (by omega), if_neg (by omega), if_neg (by omega), if_neg (by omega), if_pos (show (6 : Int) = 6 from rfl)]
 rw [if_pos (by omega), if_pos (by omega), if_pos rfl]
 simp (disch := omega) only [if_pos, B.b2, B.b3, B.b4, B.b5, B.b6, B.b7, B.u12, Option.bind_some, d9, H8]
 rw [a8N (by simp only [List.length_append, d9, List.length_cons, List.length_nil]; omega) (by rw [d9]; omega) (by omega) (by simp only [u3, i9, E7, and_self]) (i9 _ _) B.y12, Option.bind_some]
 simp [o5, a2j, a38, B1, B.o2, B.o3]
theorem b50 {fr to tid key lo hi pt pts : Int} {d ce sg : List Int} (B : Bs fr to tid key lo hi pt pts d ce sg) : i6 0 ((6, fr, to, tid, key, lo, hi, pt, pts, d, ce, sg, ()), false, ()) = some (o5 (6, fr, to, tid, key, lo, hi, pt, pts, d, ce, sg, ()) false) := by
 have l10 := B.l10
 have l11 := B.l11
 have l12 := B.l12
 unfold i6
 dsimp only
 rw [if_neg (by omega), if_neg (by omega), if_neg (by omega), if_neg (by omega), if_neg (by omega), if_pos (show (6 : Int) = 6 from rfl)]
 rw [if_pos (by omega), if_pos (by omega), if_neg (show ¬ (false = true) by simp)]
 simp (disch := omega) only [if_pos, B.b2, B.b3, B.b4, B.b5, B.b6, B.b7, B.u12, Option.bind_some, d9, H8]
 simp [o5, a2j, a38, B1, B.o2, B.o3]
theorem b8c {fr to tid key lo hi pt pts : Int} {d ce sg : List Int} (B : Bs fr to tid key lo hi pt pts d ce sg) (all : Bool) {k : Int} (g : k ≠ 1 ∧ k ≠ 2 ∧ k ≠ 3 ∧ k ≠ 4 ∧ k ≠ 5 ∧ k ≠ 6) : i6 0 ((k, fr, to, tid, key, lo, hi, pt, pts, d, ce, sg, ()), all, ()) = some (o5 (k, fr, to, tid, key, lo, hi, pt, pts, d, ce, sg, ()) all) := by
 obtain ⟨g1, g2, g3, g4, g5, g6⟩ := g
 unfold i6
 dsimp only
 rw [if_neg g1, if_neg g2, if_neg g3, if_neg g4, if_neg g5, if_neg g6]
 simp (disch := omega) only [if_pos, B.b2, B.b3, B.b4, Option.bind_some, d9, H8]
 simp [o5, a2j, a38, g1, g2, g3, g4, g5, g6, B.o2, B.o3]
theorem b3B : ∀ x r, a1Z x = some r → ∃ N, i6 N x = some r := by
 refine j7 (ks := F5) (rs := F6) fun x hw hq => ⟨0, ?_⟩
 obtain ⟨(c : Ms), (all : Bool), u⟩ := x
 obtain ⟨h1, h2, h3, h4, h5, h6, h7, h8, h9, h10, h11, h12⟩ := V2.1 hw.1
 obtain ⟨f2, f3, f8, f9, f10, f11, f12⟩ : b78 c := hq
 show i6 0 (c, all, u) = some (o5 c all)
 obtain ⟨k, fr, to, tid, key, lo, hi, pt, pts, d, ce, sg, ⟨⟩⟩ := c
 dsimp only at h1 h2 h3 h4 h5 h6 h7 h8 h9 h10 h11 h12 f2 f3 f8 f9 f10 f11 f12
 have o1 : ∀ n : Int, D1 n 1 = [n % 256] := fun n => by simp [D1]
 have B : Bs fr to tid key lo hi pt pts d ce sg := by
  refine ⟨?_, ?_, ?_, ?_, a4C h6 (w := 8) (by omega) b77, a4C h7 (w := 8) (by omega) b77, ?_, ?_, ?_, ?_, ?_, o1 fr, o1 to, f10, f11, f12, h10.2, h11.2, h12.2⟩
  ·rw [K0 (by omega) (by omega)]; exact a4C (by omega) (w := 1) (by omega) (a78 (by omega) (w := 1) (by omega))
  ·rw [K0 (by omega) (by omega)]; exact a4C (by omega) (w := 1) (by omega) (a78 (by omega) (w := 1) (by omega))
  ·rw [K0 (by omega) (by omega)]; exact a4C (by omega) (w := 4) (by omega) (a78 (by omega) (w := 4) (by omega))
  ·rw [K0 (by omega) (by omega)]; exact a4C (by omega) (w := 4) (by omega) (a78 (by omega) (w := 4) (by omega))
  ·rw [K0 (by omega) (by omega)]; exact a4C (by omega) (w := 2) (by omega) (a78 (by omega) (w := 2) (by omega))
  ·rw [K0 (by omega) (by omega)]; exact a4C (by omega) (w := 2) (by omega) (a78 (by omega) (w := 2) (by omega))
  ·rw [a1U, show (d.length : Int) % 65536 = d.length by omega]; exact b4c (by omega)
  ·rw [a1U, show (ce.length : Int) % 65536 = ce.length by omega]; exact b4c (by omega)
  ·rw [a1U, show (sg.length : Int) % 65536 = sg.length by omega]; exact b4c (by omega)
 have hk : k = 1 ∨ k = 2 ∨ k = 3 ∨ k = 4 ∨ k = 5 ∨ k = 6 ∨ (k ≠ 1 ∧ k ≠ 2 ∧ k ≠ 3 ∧ k ≠ 4 ∧ k ≠ 5 ∧ k ≠ 6) := by omega
 rcases hk with rfl | rfl | rfl | rfl | rfl | rfl | hk
 ·exact b79 B all
 ·cases all with
  | true => exact b5X B
  | false => exact b5W B
 ·exact b8a B all
 ·exact b8b B all
 ·cases all with
  | true => exact b5Z B
  | false => exact b5Y B
 ·cases all with
  | true => exact b51 B
  | false => exact b50 B
 ·exact b8c B all hk
theorem b7a {c : Ms} (h : a19 c) (hf : b78 c) (all : Bool) : a1Z (c, all, ()) = some (o5 c all) := j5 (ks := F5) (rs := F6) (x := (c, all, ())) ⟨V2.2 h, trivial, trivial⟩ hf
end Go.Ax.TryP
set_option linter.unusedVariables false
namespace Go.Ax.TryP
open Go.Proofs
theorem a8C {c : Ms} (h : x8 c = 0) : okS c = true := by
 unfold x8 at h
 split at h
 ·omega
 ·split at h
  ·assumption
  ·omega
theorem b45 : ∀ x r, V8 x = some r → ∃ N, a1I N x = some r := by
 refine j7 (ks := J0) (rs := J1) fun x hw hq => ⟨0, ?_⟩
 obtain ⟨(c : Ms), u⟩ := x
 have hc : a19 c := V2.1 hw.1
 show a1I 0 (c, u) = some (b1a c)
 unfold a1I b1a
 dsimp only
 rw [b6S, b2o hc, Option.bind_some]
 by_cases h : x8 c = 0
 ·rw [if_neg (fun g => g h), if_pos h, b7a hc (b8r (a8C h)) true, Option.bind_some]
 ·rw [if_pos h, if_neg h]
theorem b4b {c : Ms} (h : a19 c) : V8 (c, ()) = some (b1a c) := j5 (ks := J0) (rs := J1) (x := (c, ())) ⟨V2.2 h, trivial⟩ trivial
def ms0 : Ms := (8, 1, 2, 3, 0, 0, 0, 0, 0, [], [], [], ())
theorem b8q : a19 ms0 := by
 have hM : 1000000 ≤ maxLen := by decide
 exact ⟨by decide, by decide, by decide, by decide, by decide, by decide, by decide, by decide, by decide, ⟨Nat.zero_le _, V4⟩, ⟨Nat.zero_le _, V4⟩, Nat.zero_le _, V4⟩
theorem b7q : b1a ms0 = ([8, 1, 2, 0, 0, 0, 3], 0) := by decide +kernel
theorem b0q : ∀ x r, v3 x = some r → ∃ N, Q9 N x = some r := by
 refine j7 (ks := a1C) (rs := a1D) fun x hw hq => ⟨0, ?_⟩
 have c1 := b4b b8q
 rw [b7q] at c1
 have hb : bytes [8, 1, 2, 0, 0, 0, 3] := fun z hz => by
  simp only [List.mem_cons, List.not_mem_nil, or_false] at hz
  omega
 have c2 : m8 ([8, 1, 2, 0, 0, 0, 3], [8, 1, 2, 0, 0, 0, 3], ()) = some true := by
  rw [b5L ⟨by simp, hb⟩ ⟨by simp, hb⟩]
  rfl
 have c3 := b7X (k := 3) (by omega)
 unfold Q9
 refine (congrArg (fun o => Option.bind o _) c1).trans ?_
 rw [Option.bind_some]
 refine (congrArg (fun o => Option.bind o _) c2).trans ?_
 rw [Option.bind_some, if_pos rfl, if_pos rfl]
 refine (congrArg (fun o => Option.bind o _) c3).trans ?_
 rfl
theorem b7b : v3 () = some true := j5 (ks := []) (rs := [.bool]) (x := ()) trivial trivial
end Go.Ax.TryP
namespace Go.Ax.TryP
open Go.Proofs
theorem b0V : i1 Try.prog 37 a1c := a6K (a5p) b0x
theorem a0G : i1 Try.prog 19 v6 := a5t (a4t) a9d
theorem a66 : i1 Try.prog 71 M2 := a7O (a6N) b1N
theorem b1U : i1 Try.prog 61 a2D := a7N (a6M a66) b1M
theorem b0X : i1 Try.prog 72 a1e := a6O (a5s) b0z
theorem b1T : i1 Try.prog 62 a2C := a7M (a6I b0X a66) b1L
theorem b3P : i1 Try.prog 73 a3P := a89 (a7U) b3E
theorem b3O : i1 Try.prog 66 a3O := a88 (a7T b3P) b3D
theorem b0U : i1 Try.prog 40 a1b := a6J (a5o) b0w
theorem b5c : i1 Try.prog 12 a5N := b0a (a8X) b44
theorem a8n : i1 Try.prog 14 V3 := a8Y (a7A) b3z
theorem a65 : i1 Try.prog 36 M1 := b0i (a82) b46
theorem b0P : i1 Try.prog 43 a06 := a6D (a5i) b0r
theorem b3N : i1 Try.prog 47 a3N := a83 (a7F) b3C
theorem b0T : i1 Try.prog 46 a1a := a6H (a5m) b0v
theorem b0Q : i1 Try.prog 48 a07 := a6E (a5j b0U) b0s
theorem b0S : i1 Try.prog 44 a09 := a6G (a5l a65 b3O) b0u
theorem b0R : i1 Try.prog 45 a08 := a6F (a5k a65) b0t
theorem a64 : i1 Try.prog 25 M0 := a7x (a6z a8n b0P b0S b0R a65 b3N b0T b0Q) b1K
theorem b3M : i1 Try.prog 34 a3M := a81 (a7E b1T b1U b0V) b3B
theorem b0O : i1 Try.prog 17 a05 := b0d (a8Z a64 b3M) b45
noncomputable abbrev a04 : Sig := ⟨[], [.bool], v3⟩
theorem b0N : i1 Try.prog 11 a04 := a6y (a5c b0O a0G b5c) b0q
end Go.Ax.TryP
