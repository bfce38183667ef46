/- A part of the proof: MsgI, MsgS, MsgP, MsgQ1, MsgQ2, MsgQ3, MsgQ4, MsgQ5, MsgQ6, MsgW. -/
import Derived.Test.YtdaompnhkfdlgaaMsgT
import Derived.Test.YtdaompnhkfdlgaaAxD
set_option linter.unusedVariables false
namespace Go.Ax.TryP
open Go.Proofs
theorem b59 : a9l Try.prog 81 "livery/msg.at" 90 := fun v w => by kernel_rfl
theorem b6a : a9l Try.prog 95 "livery/msg.at" 91 := fun v w => by kernel_rfl
theorem b6b : a9l Try.prog 98 "livery/msg.at" 92 := fun v w => by kernel_rfl
theorem b4h : a9l Try.prog 101 "livery/msg.at" 93 := fun v w => by kernel_rfl
theorem b4i : a9l Try.prog 102 "livery/msg.at" 94 := fun v w => by kernel_rfl
noncomputable def b0X : AE := AE.ofI [] [] [] [] [] [] []
noncomputable def a5U : Inl := a4U b0X 0 Try.f12
theorem a4t : T2 Try.prog 12 a5U := G2 (AE.ofI_ok d0 d0 d0 d0 d0) mix Try.func12 0
noncomputable def a66 : AE := AE.ofI [(3, ty3), (9, ty9), (25, ty25), (26, ty26), (28, ty28), (29, ty29), (31, ty31), (69, ty69), (73, ty73), (79, ty79), (81, ty81), (93, ty93), (95, ty95), (96, ty96), (98, ty98), (99, ty99), (101, ty101), (102, ty102)] [] [] [(12, a5U)] [31, 34, 44, 61, 71, 81, 91, 101] [(3, 8)] []
noncomputable def a1j : Inl := a4U a66 0 Try.f57
theorem a1k : T2 Try.prog 57 a1j := G2 (AE.ofI_ok (all_cons a0Q (all_cons b2z (all_cons a1O (all_cons V3 (all_cons a1P (all_cons x8 (all_cons M0 (all_cons b1G (all_cons b1H (all_cons b1I (all_cons b1J (all_cons b1K (all_cons b1L (all_cons b1M (all_cons b1N (all_cons b1O (all_cons a9d (all_cons a9e d0)))))))))))))))))) d0 d0 (all_cons ⟨a4t, T4⟩ d0) d0) mix Try.func57 0
noncomputable def a5W : AE := AE.ofI [] [] [] [] [] [] []
noncomputable def a0g : Inl := a4U a5W 0 Try.f90
theorem a0J : T2 Try.prog 90 a0g := G2 (AE.ofI_ok d0 d0 d0 d0 d0) mix Try.func90 0
noncomputable def a3X : AE := AE.ofI [] [] [] [] [] [] []
noncomputable def N8 : Inl := a4U a3X 0 Try.f91
theorem R5 : T2 Try.prog 91 N8 := G2 (AE.ofI_ok d0 d0 d0 d0 d0) mix Try.func91 0
noncomputable def a5Y : AE := AE.ofI [] [] [] [] [] [] []
noncomputable def a0h : Inl := a4U a5Y 0 Try.f92
theorem a0K : T2 Try.prog 92 a0h := G2 (AE.ofI_ok d0 d0 d0 d0 d0) mix Try.func92 0
noncomputable def a5V : AE := AE.ofI [] [] [] [] [] [] []
noncomputable def a0f : Inl := a4U a5V 0 Try.f93
theorem a0I : T2 Try.prog 93 a0f := G2 (AE.ofI_ok d0 d0 d0 d0 d0) mix Try.func93 0
noncomputable def a4T : AE := AE.ofI [] [] [] [] [] [] []
noncomputable def T7 : Inl := a4U a4T 0 Try.f94
theorem X1 : T2 Try.prog 94 T7 := G2 (AE.ofI_ok d0 d0 d0 d0 d0) mix Try.func94 0
noncomputable def a8s : AE := AE.ofI [(3, ty3), (25, ty25), (26, ty26), (93, ty93), (95, ty95), (96, ty96), (98, ty98), (99, ty99), (101, ty101), (102, ty102)] [] [] [] [] [] []
noncomputable def a5X : Inl := a4U a8s 0 Try.f63
theorem a67 : T2 Try.prog 63 a5X := G2 (AE.ofI_ok (all_cons a0Q (all_cons a1O (all_cons V3 (all_cons b1K (all_cons b1L (all_cons b1M (all_cons b1N (all_cons b1O (all_cons a9d (all_cons a9e d0)))))))))) d0 d0 d0 d0) mix Try.func63 0
end Go.Ax.TryP
namespace Go.Ax.TryP
open Go.Proofs
noncomputable def o7 : List (List Int) × Unit → Option (List Int) := a1S (ks := [.sls (.int .u8)]) (rs := [.sl (.int .u8)]) (fun x => x.1.length ≤ 1000 ∧ x.1.flatten.length ≤ 1000000) fun x => x.1.flatten
noncomputable def k9 : List Int × List Int × Unit → Option Bool := a1S (ks := [.sl (.int .u8), .sl (.int .u8)]) (rs := [.bool]) (fun _ => True) fun x => decide (x.1 = x.2.1)
def D0 (n : Int) (w : Nat) : List Int := (List.range w).map fun i => n / 2 ^ (8 * (w - 1 - i)) % 256
noncomputable def N7 : Int × Int × Unit → Option (List Int) := a1S (ks := [.int .u64, .int .i64]) (rs := [.sl (.int .u8)]) (fun x => 0 ≤ x.2.1 ∧ x.2.1 ≤ 8) fun x => D0 x.1 x.2.1.toNat
noncomputable def H6 : Int × Int × Unit → Option (List Int) := a1S (ks := [.int .u64, .int .i64]) (rs := [.sl (.int .u8)]) (fun x => 0 ≤ x.2.1 ∧ x.2.1 ≤ 8) fun x => D0 x.1 x.2.1.toNat
noncomputable def o5 : Int × Unit → Option (List Int) := a1S (ks := [.int .u16]) (rs := [.sl (.int .u8)]) (fun _ => True) fun x => D0 x.1 2
def b3Y (n w : Int) : Int := if w < 8 ∧ n / 2 ^ (8 * w.toNat) ≠ 0 then 3 else 0
noncomputable def R4 : Int × Int × Unit → Option Int := a1S (ks := [.int .u64, .int .i64]) (rs := [.int .i64]) (fun x => 1 ≤ x.2.1 ∧ x.2.1 ≤ 8) fun x => b3Y x.1 x.2.1
noncomputable def d7 : Int × Int × Unit → Option (List Int × Int) := a1S (ks := [.int .u64, .int .i64]) (rs := [.sl (.int .u8), .int .i64]) (fun x => 1 ≤ x.2.1 ∧ x.2.1 ≤ 8 ∧ b3Y x.1 x.2.1 = 0) fun x => (D0 x.1 x.2.1.toNat, 0)
def b44 (lo hi : Int) : Bool := decide (lo < hi ∧ hi ≤ 1152921504606846976)
noncomputable def a1Z : (Int × Int × Unit) × Unit → Option Bool := a1S (ks := [.cat [.int .u64, .int .u64]]) (rs := [.bool]) (fun _ => True) fun x => b44 x.1.1 x.1.2.1
noncomputable def a1Y : List Int × Unit → Option Bool := a1S (ks := [.sla (.int .u64) 2]) (rs := [.bool]) (fun x => x.1.length = 2) fun x => b44 (x.1.getD 0 0) (x.1.getD 1 0)
noncomputable def R3 : List Int × Unit → Option (List Int) := a1S (ks := [.sl (.int .u8)]) (rs := [.sl .bool]) (fun x => x.1.length ≤ 1000000) fun x => u7 x.1
noncomputable def i4 : List Int × Unit → Option (List Int) := a1S (ks := [.sl (.int .u8)]) (rs := [.sl (.int .u8)]) (fun x => x.1.length ≤ 1000000) fun x => x.1
def a3W (k : Int) : List Int := if k = 1 then [107, 114, 100, 99] else if k = 2 then [107, 114, 99, 115] else if k = 3 then [112, 110, 100] else if k = 4 then [110, 100] else if k = 5 then [107, 114, 115] else if k = 6 then [107, 114, 115] else []
def b8m (k : Int) : ByteArray := if k = 1 then ⟨#[107, 114, 100, 99]⟩ else if k = 2 then ⟨#[107, 114, 99, 115]⟩ else if k = 3 then ⟨#[112, 110, 100]⟩ else if k = 4 then ⟨#[110, 100]⟩ else if k = 5 then ⟨#[107, 114, 115]⟩ else if k = 6 then ⟨#[107, 114, 115]⟩ else ⟨#[]⟩
noncomputable def a2Z : Int × Unit → Option ByteArray := a1S (ks := [.int .i64]) (rs := [.str]) (fun _ => True) fun x => b8m x.1
def a4V (k : Int) : ByteArray := if k = 1 then ⟨#[111, 102, 102, 101, 114]⟩ else if k = 2 then ⟨#[97, 99, 99, 101, 112, 116]⟩ else if k = 3 then ⟨#[99, 104, 117, 110, 107]⟩ else if k = 4 then ⟨#[104, 97, 118, 101]⟩ else if k = 5 then ⟨#[99, 111, 110, 102, 105, 114, 109]⟩ else if k = 6 then ⟨#[114, 101, 102, 117, 115, 101]⟩ else if k = 7 then ⟨#[99, 97, 110, 99, 101, 108]⟩ else if k = 8 then ⟨#[112, 114, 111, 98, 101]⟩ else ⟨#[]⟩
noncomputable def V8 : Int × Unit → Option ByteArray := a1S (ks := [.int .i64]) (rs := [.str]) (fun _ => True) fun x => a4V x.1
def u6 (k c : Int) : Bool := decide (c ∈ a3W k)
noncomputable def G0 : Int × Int × Unit → Option Bool := a1S (ks := [.int .i64, .int .i32]) (rs := [.bool]) (fun _ => True) fun x => u6 x.1 x.2.1
def b40 (n : Int) : Bool := decide (0 ≤ n ∧ n < 16)
noncomputable def J4 : Int × Unit → Option Bool := a1S (ks := [.int .i64]) (rs := [.bool]) (fun _ => True) fun x => b40 x.1
def a7c (k : Int) : Int := if k = 1 then 68 else 1024
noncomputable def a1X : Int × Unit → Option Int := a1S (ks := [.int .i64]) (rs := [.int .i64]) (fun _ => True) fun x => a7c x.1
def a2i (is : Bool) (n : Nat) (m : Int) : Bool := if is = true then decide (1 ≤ n ∧ (n : Int) ≤ m) else decide (n = 0)
noncomputable def F2 : Bool × List Int × Int × Unit → Option Bool := a1S (ks := [.bool, .sl (.int .u8), .int .i64]) (rs := [.bool]) (fun _ => True) fun x => a2i x.1 x.2.1.length x.2.2.1
def b05 (n : Int) (b : List Int) : Bool := decide ((b.length : Int) = (n + 7) / 8) && (List.range (8 * b.length)).all fun i => decide (a5z b i = 0) || decide ((i : Int) < n)
noncomputable def Q9 : Int × List Int × Unit → Option Bool := a1S (ks := [.int .i64, .sl (.int .u8)]) (rs := [.bool]) (fun x => 0 ≤ x.1 ∧ x.1 ≤ 1000) fun x => b05 x.1 x.2.1
abbrev Ms := Int × Int × Int × Int × Int × Int × Int × Int × Int × List Int × List Int × List Int × Unit
abbrev msL : List FK := [.int .i64, .int .i64, .int .i64, .int .u32, .int .u32, .int .u64, .int .u64, .int .i64, .int .i64, .sl (.int .u8), .sl (.int .u8), .sl (.int .u8)]
def a2N (m : Ms) : Bool := if u6 m.1 114 = true then b44 m.2.2.2.2.2.1 m.2.2.2.2.2.2.1 else decide (m.2.2.2.2.2.1 = 0 ∧ m.2.2.2.2.2.2.1 = 0 ∧ m.2.2.2.2.1 = 0)
noncomputable def R1 : Ms × Unit → Option Bool := a1S (ks := [.cat msL]) (rs := [.bool]) (fun _ => True) fun x => a2N x.1
def P5 (m : Ms) : Bool := decide (u6 m.1 110 = decide (m.2.2.2.2.2.2.2.2.1 ≠ 0)) && (decide (0 ≤ m.2.2.2.2.2.2.2.2.1 ∧ m.2.2.2.2.2.2.2.2.1 ≤ 256) && (if u6 m.1 112 = true then decide (0 ≤ m.2.2.2.2.2.2.2.1 ∧ m.2.2.2.2.2.2.2.1 < m.2.2.2.2.2.2.2.2.1) else decide (m.2.2.2.2.2.2.2.1 = 0)))
noncomputable def R0 : Ms × Unit → Option Bool := a1S (ks := [.cat msL]) (rs := [.bool]) (fun _ => True) fun x => P5 x.1
def okS (m : Ms) : Bool := b40 m.2.1 && (b40 m.2.2.1 && (decide (m.2.1 ≠ m.2.2.1) && (a2N m && (P5 m && (a2i (u6 m.1 100) m.2.2.2.2.2.2.2.2.2.1.length (a7c m.1) && (a2i (u6 m.1 99) m.2.2.2.2.2.2.2.2.2.2.1.length 6446 && (a2i (u6 m.1 115) m.2.2.2.2.2.2.2.2.2.2.2.1.length 3309 && (if m.1 = 4 then b05 m.2.2.2.2.2.2.2.2.1 m.2.2.2.2.2.2.2.2.2.1 else true))))))))
def H1 (m : Ms) : Int := if a4V m.1 = ⟨#[]⟩ then 211 else if okS m = true then 0 else 210
noncomputable def s7 : Ms × Unit → Option Int := a1S (ks := [.cat msL]) (rs := [.int .i64]) (fun _ => True) fun x => H1 x.1
def v8 (m : Ms) (all : Bool) (c : Int) : List Int := if c = 107 then D0 m.2.2.2.2.1 4 else if c = 114 then D0 m.2.2.2.2.2.1 8 ++ D0 m.2.2.2.2.2.2.1 8 else if c = 112 then D0 m.2.2.2.2.2.2.2.1 2 else if c = 110 then D0 m.2.2.2.2.2.2.2.2.1 2
 else if c = 100 then D0 (m.2.2.2.2.2.2.2.2.2.1.length : Int) 2 ++ m.2.2.2.2.2.2.2.2.2.1 else if c = 99 then D0 (m.2.2.2.2.2.2.2.2.2.2.1.length : Int) 2 ++ m.2.2.2.2.2.2.2.2.2.2.1 else if c = 115 ∧ all = true then D0 (m.2.2.2.2.2.2.2.2.2.2.2.1.length : Int) 2 ++ m.2.2.2.2.2.2.2.2.2.2.2.1 else []
def a1i (m : Ms) : List Int := [m.1 % 256, m.2.1 % 256, m.2.2.1 % 256] ++ D0 m.2.2.2.1 4
def w7 (m : Ms) (all : Bool) : List Int := a1i m ++ ((a3W m.1).map (v8 m all)).flatten
def b7x (m : Ms) : Prop := (0 ≤ m.2.1 ∧ m.2.1 ≤ 255) ∧ (0 ≤ m.2.2.1 ∧ m.2.2.1 ≤ 255) ∧ (0 ≤ m.2.2.2.2.2.2.2.1 ∧ m.2.2.2.2.2.2.2.1 ≤ 65535) ∧ (0 ≤ m.2.2.2.2.2.2.2.2.1 ∧ m.2.2.2.2.2.2.2.2.1 ≤ 65535) ∧ m.2.2.2.2.2.2.2.2.2.1.length ≤ 60000 ∧ m.2.2.2.2.2.2.2.2.2.2.1.length ≤ 60000 ∧ m.2.2.2.2.2.2.2.2.2.2.2.1.length ≤ 60000
noncomputable def a1W : Ms × Bool × Unit → Option (List Int) := a1S (ks := [.cat msL, .bool]) (rs := [.sl (.int .u8)]) (fun x => b7x x.1) fun x => w7 x.1 x.2.1
noncomputable def a1h : List Int × Unit → Option (List Int) := a1S (ks := [.sl (.int .u8)]) (rs := [.sl (.int .u8)]) (fun x => x.1.length ≤ 60000) fun x => D0 (x.1.length : Int) 2 ++ x.1
def b2p (m : Ms) : List Int × Int := if H1 m = 0 then (w7 m true, 0) else ([], H1 m)
noncomputable def J3 : Ms × Unit → Option (List Int × Int) := a1S (ks := [.cat msL]) (rs := [.sl (.int .u8), .int .i64]) (fun _ => True) fun x => b2p x.1
noncomputable def A0 : Unit → Option Bool := a1S (ks := []) (rs := [.bool]) (fun _ => True) fun _ => true
end Go.Ax.TryP
set_option linter.unusedVariables false
namespace Go.Ax.TryP
open Go.Proofs
noncomputable def p_octet_Join_E : AE := AE.of [(5, ty5), (29, ty29), (42, ty42)] []
noncomputable def U6 : Hints := [(3, [0, 3, 9, 10, 11]), (9, [6, 22, 23, 24]), (2000000, [0, 3]), (2000001, [0, 3, 9, 10, 11]), (2000002, [6]), (2000003, [6, 22, 23, 24]), (3000000, [2])]
noncomputable def D7 : Code := (Try.f37).body.getD .skip
noncomputable def a4d : Shape := mkS { tmps := .sc (.frs b8) :: V :: V :: .sc (.int .i64) :: pv 5 (.sc (.frs b8) :: .sc (.int .i64) :: .sc (.int .i64) :: pv 21 []), mem := [] } [.xss, .int, .xss, .int, .int]
abbrev W0 : Type := List (List Int) × Int × List (List Int) × Int × Int × Unit
abbrev W1 : Type := List (List Int) × Int × Unit
noncomputable def w4 (N : Nat) (β : Type) (x : W0) (kn : W0 → Option β) (ke : W1 → Option β) : Option β :=
 if (x.2.2.2.2.1 < x.2.2.2.1) then
  if 0 ≤ x.2.2.2.2.1 then (
  if x.2.2.2.2.1 < ((List.length x.2.2.1 : Nat) : Int) then (
  kn (x.1, (IntKind.i64.wrap (x.2.1 + ((List.length (List.getD x.2.2.1 (x.2.2.2.2.1.toNat) []) : Nat) : Int))), x.2.2.1, x.2.2.2.1, (IntKind.i64.wrap (x.2.2.2.2.1 + (1:Int))), ())) else none) else none
 else
  ke (x.1, x.2.1, ())
noncomputable def a3j : Go' W1 := fun y K => K (.exit 0) (fSt { tmps := .sc (.frs b8) :: V :: V :: .sc (.int .i64) :: pv 29 [], mem := [] } [.xss, .int] y)
noncomputable def Z0 (N : Nat) : LT := upd (LT.nil) 3 (a57 a4d N (w4 N) a3j)
theorem a3k (N : Nat) : OkAll p_octet_Join_E U6 N (Z0 N) (y7 D7) :=
 a07 (c := a1N 3 D7) (OkAll.nil) (by kernel_rfl) (fun x => by kernel_rfl) (fun β x kn ke => by kernel_rfl)
noncomputable def a4e : Shape := mkS { tmps := pv 6 (.sc (.vec 0 none 1) :: pv 15 (.sc (.frs b8) :: .sc (.int .i64) :: .sc (.int .i64) :: pv 8 [])), mem := [.live [.xs b8 none] (.own)] } [.nat, .xss, .int, .int, .nat, .xs]
abbrev W2 : Type := Nat × List (List Int) × Int × Int × Nat × List Int × Unit
abbrev W3 : Type := Nat × Nat × List Int × Unit
noncomputable def w5 (N : Nat) (β : Type) (x : W2) (kn : W2 → Option β) (ke : W3 → Option β) : Option β :=
 if (x.2.2.2.1 < x.2.2.1) then
  if 0 ≤ x.2.2.2.1 then (
  if x.2.2.2.1 < ((List.length x.2.1 : Nat) : Int) then (
  if (x.1 + (List.length (List.getD x.2.1 (x.2.2.2.1.toNat) []))) * 1 ≤ 140737488355328 then (
  kn ((x.1 + (List.length (List.getD x.2.1 (x.2.2.2.1.toNat) []))), x.2.1, x.2.2.1, (IntKind.i64.wrap (x.2.2.2.1 + (1:Int))), (x.2.2.2.2.1 + (List.length (List.getD x.2.1 (x.2.2.2.1.toNat) []))), (x.2.2.2.2.2.1 ++ (List.getD x.2.1 (x.2.2.2.1.toNat) [])), ())) else none) else none) else none
 else
  ke (x.1, x.2.2.2.2.1, x.2.2.2.2.2.1, ())
noncomputable def a3l : Go' W3 := fun y K => K (.exit 2) (fSt { tmps := pv 6 (.sc (.vec 0 none 1) :: pv 26 []), mem := [.live [.xs b8 none] (.own)] } [.nat, .nat, .xs] y)
noncomputable def Z1 (N : Nat) : LT := upd (Z0 N) 9 (a57 a4e N (w5 N) a3l)
theorem a3m (N : Nat) : OkAll p_octet_Join_E U6 N (Z1 N) (y7 D7) :=
 a07 (c := a1N 9 D7) (a3k N) (by kernel_rfl) (fun x => by kernel_rfl) (fun β x kn ke => by kernel_rfl)
abbrev B1 : List Kd := [.sls b8]
abbrev B2 : List Kd := [.sl b8]
noncomputable def S7 (N : Nat) (x : List (List Int) × Unit) : Option (List Int) :=
 a51 (w4 N) N (x.1, (0:Int), x.1, ((List.length x.1 : Nat) : Int), (0:Int), ()) fun y1 => (
 if 0 ≤ (0:Int) then (
 if (0:Int) ≤ y1.2.1 then (
 if y1.2.1 * 1 ≤ 281474976710656 then (
 a51 (w5 N) N (0, y1.1, ((List.length y1.1 : Nat) : Int), (0:Int), 0, (List.replicate 0 0), ()) fun y2 => (
 some y2.2.2.1)) else none) else none) else none)
theorem a49 : p_octet_Join_E.Ok Try.prog := AE.of_ok (all_cons a3y (all_cons x8 (all_cons b4Q d0))) d0
theorem a6v (hE : p_octet_Join_E.Ok Try.prog) {g : Ds B1 → Option (Rs B2)} (hg : ∀ x r, g x = some r → ∃ N, S7 N x = some r) : i6 Try.prog 37 ⟨B1, B2, g⟩ :=
 v9 (E := p_octet_Join_E) (H := U6) (L := fun N => Z1 N) (c := D7) (ks := B1) (rs := B2) (F := S7) hE mix Try.func37 (by kernel_rfl) (fun N => a3m N) (fun _ _ => by kernel_rfl) hg
noncomputable def p_ref01_Equal_E : AE := AE.of [(5, ty5), (9, ty9), (29, ty29)] []
noncomputable def a6z : Hints := [(3000000, [4])]
noncomputable def a6A : Code := (Try.f19).body.getD .skip
abbrev v4 : List Kd := [.sl b8, .sl b8]
abbrev E6 : List Kd := [.bool]
noncomputable def M6 (N : Nat) (x : List Int × List Int × Unit) : Option (Bool) :=
 some (decide ((strOfNums x.1) = (strOfNums x.2.1)))
theorem a4h : p_ref01_Equal_E.Ok Try.prog := AE.of_ok (all_cons a3y (all_cons b2z (all_cons x8 d0))) d0
theorem a5c (hE : p_ref01_Equal_E.Ok Try.prog) {g : Ds v4 → Option (Rs [.bool])} (hg : ∀ x r, g x = some r → ∃ N, M6 N x = some r) : i6 Try.prog 19 ⟨v4, [.bool], g⟩ :=
 v9 (E := p_ref01_Equal_E) (H := a6z) (L := fun N => LT.nil) (c := a6A) (ks := v4) (rs := E6) (F := M6) hE mix Try.func19 (by kernel_rfl) (fun N => OkAll.nil) (fun _ _ => by kernel_rfl) hg
noncomputable def p_octet_big_E : AE := AE.of [(5, ty5), (26, ty26), (29, ty29)] []
noncomputable def a3n : Hints := [(3, [0, 1, 5, 10, 11]), (2000000, [5]), (2000001, [0, 1, 5, 10, 11]), (3000000, [4])]
noncomputable def a0u : Code := (Try.f71).body.getD .skip
noncomputable def a5a : Shape := mkS { tmps := .sc (.int .u64) :: .sc (.int .i64) :: pv 3 (.sc (.vec 0 none 1) :: pv 4 (.sc (.int .i64) :: .sc (.int .i64) :: pv 15 [])), mem := [.live [.xs b8 none] (.own)] } [.int, .int, .nat, .int, .int, .nat, .xs]
abbrev W4 : Type := Int × Int × Nat × Int × Int × Nat × List Int × Unit
noncomputable def y5 (N : Nat) (β : Type) (x : W4) (kn : W4 → Option β) (ke : W3 → Option β) : Option β :=
 if (x.2.2.2.2.1 < x.2.2.2.1) then
  if (IntKind.i64.wrap ((8:Int) * x.2.2.2.2.1)) < 0 then none else (
  if 0 ≤ (IntKind.i64.wrap ((IntKind.i64.wrap (x.2.1 - (1:Int))) - x.2.2.2.2.1)) then (
  if (IntKind.i64.wrap ((IntKind.i64.wrap (x.2.1 - (1:Int))) - x.2.2.2.2.1)) < ((x.2.2.1 : Nat) : Int) then (
  if ((IntKind.i64.wrap ((IntKind.i64.wrap (x.2.1 - (1:Int))) - x.2.2.2.2.1)).toNat) < x.2.2.2.2.2.1 then (
  kn (x.1, x.2.1, x.2.2.1, x.2.2.2.1, (IntKind.i64.wrap (x.2.2.2.2.1 + (1:Int))), x.2.2.2.2.2.1, (List.set x.2.2.2.2.2.2.1 ((IntKind.i64.wrap ((IntKind.i64.wrap (x.2.1 - (1:Int))) - x.2.2.2.2.1)).toNat) (IntKind.u8.wrap (b43 IntKind.u64 x.1 (IntKind.i64.wrap ((8:Int) * x.2.2.2.2.1))))), ())) else none) else none) else none)
 else
  ke (x.2.2.1, x.2.2.2.2.2.1, x.2.2.2.2.2.2.1, ())
noncomputable def a4f : Go' W3 := fun y K => K (.exit 0) (fSt { tmps := pv 5 (.sc (.vec 0 none 1) :: pv 21 []), mem := [.live [.xs b8 none] (.own)] } [.nat, .nat, .xs] y)
noncomputable def a0O (N : Nat) : LT := upd (LT.nil) 3 (a57 a5a N (y5 N) a4f)
theorem a4g (N : Nat) : OkAll p_octet_big_E a3n N (a0O N) (y7 a0u) :=
 a07 (c := a1N 3 a0u) (OkAll.nil) (by kernel_rfl) (fun x => by kernel_rfl) (fun β x kn ke => by kernel_rfl)
abbrev D9 : List Kd := [.int .u64, .int .i64]
abbrev E0 : List Kd := [.sl b8]
noncomputable def a0t (N : Nat) (x : Int × Int × Unit) : Option (List Int) :=
 if 0 ≤ x.2.1 then (
 if x.2.1 = x.2.1 then (
 if x.2.1 * 1 ≤ 281474976710656 then (
 a51 (y5 N) N (x.1, x.2.1, (x.2.1.toNat), (((x.2.1.toNat) : Nat) : Int), (0:Int), (x.2.1.toNat), (List.replicate (x.2.1.toNat) 0), ()) fun y1 => (
 some y1.2.2.1)) else none) else none) else none
theorem a6x : p_octet_big_E.Ok Try.prog := AE.of_ok (all_cons a3y (all_cons V3 (all_cons x8 d0))) d0
theorem a7x (hE : p_octet_big_E.Ok Try.prog) {g : Ds D9 → Option (Rs E0)} (hg : ∀ x r, g x = some r → ∃ N, a0t N x = some r) : i6 Try.prog 71 ⟨D9, E0, g⟩ :=
 v9 (E := p_octet_big_E) (H := a3n) (L := fun N => a0O N) (c := a0u) (ks := D9) (rs := E0) (F := a0t) hE mix Try.func71 (by kernel_rfl) (fun N => a4g N) (fun _ _ => by kernel_rfl) hg
noncomputable abbrev N3 : Sig := ⟨[.int .u64, .int .i64], [.sl b8], N7⟩
noncomputable def p_octet_U16_E : AE := AE.of [(26, ty26), (84, ty84)] [(71, N3)]
noncomputable def a8Q : Hints := [(3000000, [2])]
noncomputable def a8R : Code := (Try.f61).body.getD .skip
abbrev U7 : List Kd := [.int .u16]
abbrev D8 : List Kd := [.sl b8]
noncomputable def a0s (N : Nat) (x : Int × Unit) : Option (List Int) :=
 (N7 ((IntKind.u64.wrap x.1), (2:Int), ())).bind fun r1 => (
 some r1)
theorem a6w (e0 : i6 Try.prog 71 N3) : p_octet_U16_E.Ok Try.prog := AE.of_ok (all_cons V3 (all_cons b4U d0)) (all_cons ⟨e0, a0H⟩ d0)
theorem a7w (hE : p_octet_U16_E.Ok Try.prog) {g : Ds [.int .u16] → Option (Rs D8)} (hg : ∀ x r, g x = some r → ∃ N, a0s N x = some r) : i6 Try.prog 61 ⟨[.int .u16], D8, g⟩ :=
 v9 (E := p_octet_U16_E) (H := a8Q) (L := fun N => LT.nil) (c := a8R) (ks := U7) (rs := D8) (F := a0s) hE mix Try.func61 (by kernel_rfl) (fun N => OkAll.nil) (fun _ _ => by kernel_rfl) hg
noncomputable def p_octet_fits_E : AE := AE.of [] []
noncomputable def a7y : Hints := [(2000000, []), (3000000, [4])]
noncomputable def a7z : Code := (Try.f72).body.getD .skip
abbrev B3 : List Kd := [.int .u64, .int .i64]
abbrev P2 : List Kd := [.int .i64]
noncomputable def K7 (N : Nat) (x : Int × Int × Unit) : Option (Int) :=
 if (x.2.1 < (1:Int)) then
  some (1:Int)
 else
  if (x.2.1 > (8:Int)) then
   some (1:Int)
  else
   if (x.2.1 < (8:Int)) then
    if (IntKind.i64.wrap ((8:Int) * x.2.1)) < 0 then none else (
    if ((b43 IntKind.u64 x.1 (IntKind.i64.wrap ((8:Int) * x.2.1))) ≠ (0:Int)) then
     some (3:Int)
    else
     some (0:Int))
   else
    some (0:Int)
theorem a5b : p_octet_fits_E.Ok Try.prog := AE.of_ok d0 d0
theorem a6y (hE : p_octet_fits_E.Ok Try.prog) {g : Ds B3 → Option (Rs [.int .i64])} (hg : ∀ x r, g x = some r → ∃ N, K7 N x = some r) : i6 Try.prog 72 ⟨B3, [.int .i64], g⟩ :=
 v9 (E := p_octet_fits_E) (H := a7y) (L := fun N => LT.nil) (c := a7z) (ks := B3) (rs := P2) (F := K7) hE mix Try.func72 (by kernel_rfl) (fun N => OkAll.nil) (fun _ _ => by kernel_rfl) hg
noncomputable abbrev a05 : Sig := ⟨[.int .u64, .int .i64], [.int .i64], R4⟩
noncomputable def p_octet_Big_E : AE := AE.of [] [(72, a05), (71, N3)]
noncomputable def a8O : Hints := [(3000000, [4, 5])]
noncomputable def a8P : Code := (Try.f62).body.getD .skip
abbrev D4 : List Kd := [.int .u64, .int .i64]
abbrev D5 : List Kd := [.sl b8, .int .i64]
noncomputable def a0r (N : Nat) (x : Int × Int × Unit) : Option (List Int × Int) :=
 (R4 (x.1, x.2.1, ())).bind fun r1 => (
 if (r1 ≠ (0:Int)) then
  some ([], r1)
 else
  (N7 (x.1, x.2.1, ())).bind fun r2 => (
  some (r2, (0:Int))))
theorem a6t (e0 : i6 Try.prog 72 a05) (e1 : i6 Try.prog 71 N3) : p_octet_Big_E.Ok Try.prog := AE.of_ok d0 (all_cons ⟨e0, a3T⟩ (all_cons ⟨e1, a0H⟩ d0))
theorem a7v (hE : p_octet_Big_E.Ok Try.prog) {g : Ds D4 → Option (Rs D5)} (hg : ∀ x r, g x = some r → ∃ N, a0r N x = some r) : i6 Try.prog 62 ⟨D4, D5, g⟩ :=
 v9 (E := p_octet_Big_E) (H := a8O) (L := fun N => LT.nil) (c := a8P) (ks := D4) (rs := D5) (F := a0r) hE mix Try.func62 (by kernel_rfl) (fun N => OkAll.nil) (fun _ _ => by kernel_rfl) hg
noncomputable def p_span_one_E : AE := AE.of [(26, ty26), (28, ty28)] []
noncomputable def a93 : Hints := [(3000000, [2])]
noncomputable def a94 : Code := (Try.f73).body.getD .skip
abbrev G8 : List Kd := [.cat [.int .u64, .int .u64]]
abbrev a0w : List Kd := [.bool]
noncomputable def a2a (N : Nat) (x : (Int × Int × Unit) × Unit) : Option (Bool) :=
 if (x.1.1 < x.1.2.1) then
  some (decide (x.1.2.1 ≤ (1152921504606846976:Int)))
 else
  some false
theorem a7D : p_span_one_E.Ok Try.prog := AE.of_ok (all_cons V3 (all_cons a1P d0)) d0
theorem a8T (hE : p_span_one_E.Ok Try.prog) {g : Ds G8 → Option (Rs [.bool])} (hg : ∀ x r, g x = some r → ∃ N, a2a N x = some r) : i6 Try.prog 73 ⟨G8, [.bool], g⟩ :=
 v9 (E := p_span_one_E) (H := a93) (L := fun N => LT.nil) (c := a94) (ks := G8) (rs := a0w) (F := a2a) hE mix Try.func73 (by kernel_rfl) (fun N => OkAll.nil) (fun _ _ => by kernel_rfl) hg
noncomputable abbrev a3F : Sig := ⟨[.cat [.int .u64, .int .u64]], [.bool], a1Z⟩
noncomputable def p_span_May_E : AE := AE.of [(26, ty26), (28, ty28), (90, ty90)] [(73, a3F)]
noncomputable def a4y : Hints := [(2, [0, 5, 6, 7]), (2000000, [0]), (2000001, [0, 5, 6, 7]), (3000000, [2])]
noncomputable def a1F : Code := (Try.f66).body.getD .skip
noncomputable def a6C : Shape := mkS { tmps := .sc (.vec 0 none 2) :: pv 4 (.sc (.vec 0 none 2) :: .sc (.int .i64) :: .sc (.int .i64) :: pv 26 []), mem := [.live [.xs (.int .u64) none] (.ro)] } [.nat, .nat, .int, .int, .nat, .xs]
abbrev W5 : Type := Nat × Nat × Int × Int × Nat × List Int × Unit
abbrev W6 : Type := (Bool × Unit) ⊕ (Nat × Nat × List Int × Unit)
noncomputable def G7 (N : Nat) (β : Type) (x : W5) (kn : W5 → Option β) (ke : W6 → Option β) : Option β :=
 if (x.2.2.2.1 < x.2.2.1) then
  if 0 ≤ x.2.2.2.1 then (
  if x.2.2.2.1 < ((x.2.1 : Nat) : Int) then (
  if ((x.2.2.2.1.toNat) * 2) + 2 ≤ x.2.2.2.2.1 then (
  (a1Z (((List.getD (List.take 1 (List.take 2 (List.drop ((x.2.2.2.1.toNat) * 2) x.2.2.2.2.2.1))) 0 0), (List.getD (List.drop 1 (List.take 2 (List.drop ((x.2.2.2.1.toNat) * 2) x.2.2.2.2.2.1))) 0 0), ()), ())).bind fun r1 => (
  if (¬ (r1 = true)) then
   ke (.inl (false, ()))
  else
   if (x.2.2.2.1 > (0:Int)) then
    if 0 ≤ (IntKind.i64.wrap (x.2.2.2.1 - (1:Int))) then (
    if (IntKind.i64.wrap (x.2.2.2.1 - (1:Int))) < ((x.1 : Nat) : Int) then (
    if (1 + (((IntKind.i64.wrap (x.2.2.2.1 - (1:Int))).toNat) * 2)) < x.2.2.2.2.1 then (
    if ((List.getD (List.take 2 (List.drop ((x.2.2.2.1.toNat) * 2) x.2.2.2.2.2.1)) 0 0) ≤ (List.getD x.2.2.2.2.2.1 (1 + (((IntKind.i64.wrap (x.2.2.2.1 - (1:Int))).toNat) * 2)) 0)) then
     ke (.inl (false, ()))
    else
     kn (x.1, x.2.1, x.2.2.1, (IntKind.i64.wrap (x.2.2.2.1 + (1:Int))), x.2.2.2.2.1, x.2.2.2.2.2.1, ())) else none) else none) else none
   else
    kn (x.1, x.2.1, x.2.2.1, (IntKind.i64.wrap (x.2.2.2.1 + (1:Int))), x.2.2.2.2.1, x.2.2.2.2.2.1, ()))) else none) else none) else none
 else
  ke (.inr (x.1, x.2.2.2.2.1, x.2.2.2.2.2.1, ()))
noncomputable def a5e : Go' W6 := fun y K => match y with
 | .inl y => K .ret (fSt { tmps := V :: V :: .sc (.bool) :: pv 31 [], mem := [] } [.bool] y)
 | .inr y => K (.exit 0) (fSt { tmps := .sc (.vec 0 none 2) :: pv 33 [], mem := [.live [.xs (.int .u64) none] (.ro)] } [.nat, .nat, .xs] y)
noncomputable def a1G (N : Nat) : LT := upd (LT.nil) 2 (a57 a6C N (G7 N) a5e)
theorem a5f (N : Nat) : OkAll p_span_May_E a4y N (a1G N) (y7 a1F) :=
 a07 (c := a1N 2 a1F) (OkAll.nil) (by kernel_rfl) (fun x => by kernel_rfl) (fun β x kn ke => by kernel_rfl)
abbrev G6 : List Kd := [.sla (.int .u64) 2]
abbrev a0v : List Kd := [.bool]
noncomputable def a19 (N : Nat) (x : List Int × Unit) : Option (Bool) :=
 a51 (G7 N) N ((List.length x.1 / 2), (List.length x.1 / 2), (((List.length x.1 / 2) : Nat) : Int), (0:Int), (List.length x.1), x.1, ()) fun y => (match y with
 | .inl y2 => (
  some y2.1)
 | .inr y3 => (
  some (decide (((y3.1 : Nat) : Int) ≤ (64:Int)))))
theorem a7C (e0 : i6 Try.prog 73 a3F) : p_span_May_E.Ok Try.prog := AE.of_ok (all_cons V3 (all_cons a1P (all_cons b4V d0))) (all_cons ⟨e0, a5O⟩ d0)
theorem a8S (hE : p_span_May_E.Ok Try.prog) {g : Ds G6 → Option (Rs [.bool])} (hg : ∀ x r, g x = some r → ∃ N, a19 N x = some r) : i6 Try.prog 66 ⟨G6, [.bool], g⟩ :=
 v9 (E := p_span_May_E) (H := a4y) (L := fun N => a1G N) (c := a1F) (ks := G6) (rs := a0v) (F := a19) hE mix Try.func66 (by kernel_rfl) (fun N => a5f N) (fun _ _ => by kernel_rfl) hg
noncomputable def p_octet_Bits_E : AE := AE.of [(4, ty4), (5, ty5), (29, ty29), (43, ty43)] []
noncomputable def U5 : Hints := [(3, [3, 11, 12, 13]), (6, [3, 5, 11, 12, 13, 17]), (2000000, [3]), (2000001, [3, 11, 12, 13]), (2000002, [3, 11, 12, 13]), (2000003, [3, 5, 11, 12, 13, 17]), (3000000, [2])]
noncomputable def D6 : Code := (Try.f40).body.getD .skip
noncomputable def a4c : Shape := mkS { tmps := pv 3 (.sc (.vec 0 none 1) :: V :: .sc (.int .u8) :: pv 5 (.sc (.vec 1 none 1) :: .sc (.int .i64) :: .sc (.int .i64) :: pv 3 (.sc (.int .i64) :: pv 13 []))), mem := [.live [.xs .bool none] (.own), .live [.xs b8 none] (.ro)] } [.nat, .int, .nat, .int, .int, .int, .nat, .xs, .nat, .xs]
abbrev W7 : Type := Nat × Int × Nat × Int × Int × Int × Nat × List Int × Nat × List Int × Unit
abbrev W8 : Type := Nat × Nat × Int × Int × Nat × List Int × Nat × List Int × Unit
noncomputable def B9 (N : Nat) (β : Type) (x : W7) (kn : W7 → Option β) (ke : W8 → Option β) : Option β :=
 if (x.2.2.2.2.2.1 < (8:Int)) then
  if x.2.2.2.2.2.1 < 0 then none else (
  if (x.1 + 1) * 1 ≤ 140737488355328 then (
  kn ((x.1 + 1), x.2.1, x.2.2.1, x.2.2.2.1, x.2.2.2.2.1, (IntKind.i64.wrap (x.2.2.2.2.2.1 + (1:Int))), (x.2.2.2.2.2.2.1 + 1), (x.2.2.2.2.2.2.2.1 ++ (List.set (List.replicate 1 0) 0 (if ((b7c IntKind.u8 (b43 IntKind.u8 x.2.1 x.2.2.2.2.2.1) (1:Int)) = (1:Int)) then (1:Int) else 0))), x.2.2.2.2.2.2.2.2.1, x.2.2.2.2.2.2.2.2.2.1, ())) else none)
 else
  ke (x.1, x.2.2.1, x.2.2.2.1, x.2.2.2.2.1, x.2.2.2.2.2.2.1, x.2.2.2.2.2.2.2.1, x.2.2.2.2.2.2.2.2.1, x.2.2.2.2.2.2.2.2.2.1, ())
noncomputable def a3h : Go' W8 := fun y K => K (.exit 2) (fSt { tmps := pv 3 (.sc (.vec 0 none 1) :: pv 7 (.sc (.vec 1 none 1) :: .sc (.int .i64) :: .sc (.int .i64) :: pv 17 [])), mem := [.live [.xs .bool none] (.own), .live [.xs b8 none] (.ro)] } [.nat, .nat, .int, .int, .nat, .xs, .nat, .xs] y)
noncomputable def Y9 (N : Nat) : LT := upd (LT.nil) 6 (a57 a4c N (B9 N) a3h)
theorem a3i (N : Nat) : OkAll p_octet_Bits_E U5 N (Y9 N) (y7 D6) :=
 a07 (c := a1N 6 D6) (OkAll.nil) (by kernel_rfl) (fun x => by kernel_rfl) (fun β x kn ke => by kernel_rfl)
noncomputable def a4b : Shape := mkS { tmps := pv 3 (.sc (.vec 0 none 1) :: pv 7 (.sc (.vec 1 none 1) :: .sc (.int .i64) :: .sc (.int .i64) :: pv 17 [])), mem := [.live [.xs .bool none] (.own), .live [.xs b8 none] (.ro)] } [.nat, .nat, .int, .int, .nat, .xs, .nat, .xs]
noncomputable def B8 (N : Nat) (β : Type) (x : W8) (kn : W8 → Option β) (ke : W3 → Option β) : Option β :=
 if (x.2.2.2.1 < x.2.2.1) then
  if 0 ≤ x.2.2.2.1 then (
  if x.2.2.2.1 < ((x.2.1 : Nat) : Int) then (
  if (x.2.2.2.1.toNat) < x.2.2.2.2.2.2.1 then (
  a51 (B9 N) N (x.1, (List.getD x.2.2.2.2.2.2.2.1 (x.2.2.2.1.toNat) 0), x.2.1, x.2.2.1, x.2.2.2.1, (0:Int), x.2.2.2.2.1, x.2.2.2.2.2.1, x.2.2.2.2.2.2.1, x.2.2.2.2.2.2.2.1, ()) fun y1 => (
  kn (y1.1, y1.2.1, y1.2.2.1, (IntKind.i64.wrap (y1.2.2.2.1 + (1:Int))), y1.2.2.2.2.1, y1.2.2.2.2.2.1, y1.2.2.2.2.2.2.1, y1.2.2.2.2.2.2.2.1, ()))) else none) else none) else none
 else
  ke (x.1, x.2.2.2.2.1, x.2.2.2.2.2.1, ())
noncomputable def a3f : Go' W3 := fun y K => K (.exit 0) (fSt { tmps := pv 3 (.sc (.vec 0 none 1) :: pv 27 []), mem := [.live [.xs .bool none] (.own)] } [.nat, .nat, .xs] y)
noncomputable def Y7 (N : Nat) : LT := upd (Y9 N) 3 (a57 a4b N (B8 N) a3f)
theorem a3g (N : Nat) : OkAll p_octet_Bits_E U5 N (Y7 N) (y7 D6) :=
 a07 (c := a1N 3 D6) (a3i N) (by kernel_rfl) (fun x => by kernel_rfl) (fun β x kn ke => by kernel_rfl)
abbrev B0 : List Kd := [.sl b8]
abbrev P1 : List Kd := [.sl .bool]
noncomputable def S6 (N : Nat) (x : List Int × Unit) : Option (List Int) :=
 if 0 ≤ (0:Int) then (
 if (0:Int) ≤ (IntKind.i64.wrap ((8:Int) * (((List.length x.1) : Nat) : Int))) then (
 if (IntKind.i64.wrap ((8:Int) * (((List.length x.1) : Nat) : Int))) * 1 ≤ 281474976710656 then (
 a51 (B8 N) N (0, (List.length x.1), (((List.length x.1) : Nat) : Int), (0:Int), 0, (List.replicate 0 0), (List.length x.1), x.1, ()) fun y2 => (
 some y2.2.2.1)) else none) else none) else none
theorem a48 : p_octet_Bits_E.Ok Try.prog := AE.of_ok (all_cons b4S (all_cons a3y (all_cons x8 (all_cons b4R d0)))) d0
theorem a6u (hE : p_octet_Bits_E.Ok Try.prog) {g : Ds B0 → Option (Rs [.sl .bool])} (hg : ∀ x r, g x = some r → ∃ N, S6 N x = some r) : i6 Try.prog 40 ⟨B0, [.sl .bool], g⟩ :=
 v9 (E := p_octet_Bits_E) (H := U5) (L := fun N => Y7 N) (c := D6) (ks := B0) (rs := P1) (F := S6) hE mix Try.func40 (by kernel_rfl) (fun N => a3g N) (fun _ _ => by kernel_rfl) hg
noncomputable def p_msg_Has_E : AE := AE.ofI [] [] [] [] [] [] []
noncomputable def b1b : Hints := [(2000000, []), (3000000, [2])]
noncomputable def b1c : Code := (Try.f12).body.getD .skip
abbrev a1z : List Kd := [.int .i64]
abbrev a1A : List Kd := [.str]
noncomputable def a3b (N : Nat) (x : Int × Unit) : Option (ByteArray) :=
 if (x.1 = (1:Int)) then
  some (⟨#[107, 114, 100, 99]⟩ : ByteArray)
 else
  if (x.1 = (2:Int)) then
   some (⟨#[107, 114, 99, 115]⟩ : ByteArray)
  else
   if (x.1 = (3:Int)) then
    some (⟨#[112, 110, 100]⟩ : ByteArray)
   else
    if (x.1 = (4:Int)) then
     some (⟨#[110, 100]⟩ : ByteArray)
    else
     if (x.1 = (5:Int)) then
      some (⟨#[107, 114, 115]⟩ : ByteArray)
     else
      if (x.1 = (6:Int)) then
       some (⟨#[107, 114, 115]⟩ : ByteArray)
      else
       some (⟨#[]⟩ : ByteArray)
theorem a8I : p_msg_Has_E.Ok Try.prog := AE.ofI_ok d0 d0 d0 d0 d0
theorem a9U (hE : p_msg_Has_E.Ok Try.prog) {g : Ds [.int .i64] → Option (Rs [.str])} (hg : ∀ x r, g x = some r → ∃ N, a3b N x = some r) : i6 Try.prog 12 ⟨[.int .i64], [.str], g⟩ :=
 v9 (E := p_msg_Has_E) (H := b1b) (L := fun N => LT.nil) (c := b1c) (ks := a1z) (rs := a1A) (F := a3b) hE mix Try.func12 (by kernel_rfl) (fun N => OkAll.nil) (fun _ _ => by kernel_rfl) hg
noncomputable def p_msg_Name_E : AE := AE.of [(9, ty9), (52, ty52)] []
noncomputable def a9V : Hints := [(3000000, [2])]
noncomputable def a9W : Code := (Try.f14).body.getD .skip
abbrev a0n : List Kd := [.int .i64]
abbrev a0o : List Kd := [.str]
noncomputable def Y5 (N : Nat) (x : Int × Unit) : Option (ByteArray) :=
 if (x.1 < (0:Int)) then
  some (⟨#[]⟩ : ByteArray)
 else
  if (x.1 ≥ (9:Int)) then
   some (⟨#[]⟩ : ByteArray)
  else
   if 0 ≤ x.1 then (
   if x.1 < 9 then (
   if (x.1.toNat) = 0 then
    some (⟨#[]⟩ : ByteArray)
   else
    if (x.1.toNat) = 1 then
     some (⟨#[111, 102, 102, 101, 114]⟩ : ByteArray)
    else
     if (x.1.toNat) = 2 then
      some (⟨#[97, 99, 99, 101, 112, 116]⟩ : ByteArray)
     else
      if (x.1.toNat) = 3 then
       some (⟨#[99, 104, 117, 110, 107]⟩ : ByteArray)
      else
       if (x.1.toNat) = 4 then
        some (⟨#[104, 97, 118, 101]⟩ : ByteArray)
       else
        if (x.1.toNat) = 5 then
         some (⟨#[99, 111, 110, 102, 105, 114, 109]⟩ : ByteArray)
        else
         if (x.1.toNat) = 6 then
          some (⟨#[114, 101, 102, 117, 115, 101]⟩ : ByteArray)
         else
          if (x.1.toNat) = 7 then
           some (⟨#[99, 97, 110, 99, 101, 108]⟩ : ByteArray)
          else
           if (x.1.toNat) = 8 then (
           some (⟨#[112, 114, 111, 98, 101]⟩ : ByteArray)) else none) else none) else none
theorem a7k : p_msg_Name_E.Ok Try.prog := AE.of_ok (all_cons b2z (all_cons b67 d0)) d0
theorem a8J (hE : p_msg_Name_E.Ok Try.prog) {g : Ds [.int .i64] → Option (Rs [.str])} (hg : ∀ x r, g x = some r → ∃ N, Y5 N x = some r) : i6 Try.prog 14 ⟨[.int .i64], [.str], g⟩ :=
 v9 (E := p_msg_Name_E) (H := a9V) (L := fun N => LT.nil) (c := a9W) (ks := a0n) (rs := a0o) (F := Y5) hE mix Try.func14 (by kernel_rfl) (fun N => OkAll.nil) (fun _ _ => by kernel_rfl) hg
noncomputable def p_msg_has_E : AE := AE.ofI [(9, ty9)] [] [] [(12, a5U)] [11] [(2, 8)] []
noncomputable def b1f : Hints := [(3000000, [4])]
noncomputable def b1g : Code := (Try.f36).body.getD .skip
abbrev K0 : List Kd := [.int .i64, .int .i32]
abbrev a1D : List Kd := [.bool]
noncomputable def a1C (N : Nat) (x : Int × Int × Unit) : Option (Bool) :=
 if (x.1 = (1:Int)) then
  if ((107:Int) = x.2.1) then
   some true
  else
   if ((114:Int) = x.2.1) then
    some true
   else
    if ((100:Int) = x.2.1) then
     some true
    else
     if ((99:Int) = x.2.1) then
      some true
     else
      some false
 else
  if (x.1 = (2:Int)) then
   if ((107:Int) = x.2.1) then
    some true
   else
    if ((114:Int) = x.2.1) then
     some true
    else
     if ((99:Int) = x.2.1) then
      some true
     else
      if ((115:Int) = x.2.1) then
       some true
      else
       some false
  else
   if (x.1 = (3:Int)) then
    if ((112:Int) = x.2.1) then
     some true
    else
     if ((110:Int) = x.2.1) then
      some true
     else
      if ((100:Int) = x.2.1) then
       some true
      else
       some false
   else
    if (x.1 = (4:Int)) then
     if ((110:Int) = x.2.1) then
      some true
     else
      if ((100:Int) = x.2.1) then
       some true
      else
       some false
    else
     if (x.1 = (5:Int)) then
      if ((107:Int) = x.2.1) then
       some true
      else
       if ((114:Int) = x.2.1) then
        some true
       else
        if ((115:Int) = x.2.1) then
         some true
        else
         some false
     else
      if (x.1 = (6:Int)) then
       if ((107:Int) = x.2.1) then
        some true
       else
        if ((114:Int) = x.2.1) then
         some true
        else
         if ((115:Int) = x.2.1) then
          some true
         else
          some false
      else
       some false
theorem a8M : p_msg_has_E.Ok Try.prog := AE.ofI_ok (all_cons b2z d0) d0 d0 (all_cons ⟨a4t, T4⟩ d0) d0
theorem a90 (hE : p_msg_has_E.Ok Try.prog) {g : Ds K0 → Option (Rs [.bool])} (hg : ∀ x r, g x = some r → ∃ N, a1C N x = some r) : i6 Try.prog 36 ⟨K0, [.bool], g⟩ :=
 v9 (E := p_msg_has_E) (H := b1f) (L := fun N => LT.nil) (c := b1g) (ks := K0) (rs := a1D) (F := a1C) hE mix Try.func36 (by kernel_rfl) (fun N => OkAll.nil) (fun _ _ => by kernel_rfl) hg
noncomputable def p_msg_device_E : AE := AE.of [] []
noncomputable def a7l : Hints := [(3000000, [2])]
noncomputable def a7m : Code := (Try.f43).body.getD .skip
abbrev O4 : List Kd := [.int .i64]
abbrev O5 : List Kd := [.bool]
noncomputable def S4 (N : Nat) (x : Int × Unit) : Option (Bool) :=
 if (x.1 ≥ (0:Int)) then
  some (decide (x.1 < (16:Int)))
 else
  some false
theorem a42 : p_msg_device_E.Ok Try.prog := AE.of_ok d0 d0
theorem a6o (hE : p_msg_device_E.Ok Try.prog) {g : Ds [.int .i64] → Option (Rs [.bool])} (hg : ∀ x r, g x = some r → ∃ N, S4 N x = some r) : i6 Try.prog 43 ⟨[.int .i64], [.bool], g⟩ :=
 v9 (E := p_msg_device_E) (H := a7l) (L := fun N => LT.nil) (c := a7m) (ks := O4) (rs := O5) (F := S4) hE mix Try.func43 (by kernel_rfl) (fun N => OkAll.nil) (fun _ _ => by kernel_rfl) hg
noncomputable def p_msg_most_E : AE := AE.of [] []
noncomputable def a91 : Hints := [(3000000, [2])]
noncomputable def a92 : Code := (Try.f47).body.getD .skip
abbrev a0p : List Kd := [.int .i64]
abbrev a0q : List Kd := [.int .i64]
noncomputable def a18 (N : Nat) (x : Int × Unit) : Option (Int) :=
 if (x.1 = (1:Int)) then
  some (68:Int)
 else
  some (1024:Int)
theorem a7o : p_msg_most_E.Ok Try.prog := AE.of_ok d0 d0
theorem a8N (hE : p_msg_most_E.Ok Try.prog) {g : Ds [.int .i64] → Option (Rs [.int .i64])} (hg : ∀ x r, g x = some r → ∃ N, a18 N x = some r) : i6 Try.prog 47 ⟨[.int .i64], [.int .i64], g⟩ :=
 v9 (E := p_msg_most_E) (H := a91) (L := fun N => LT.nil) (c := a92) (ks := a0p) (rs := a0q) (F := a18) hE mix Try.func47 (by kernel_rfl) (fun N => OkAll.nil) (fun _ _ => by kernel_rfl) hg
noncomputable def p_msg_within_E : AE := AE.of [(29, ty29)] []
noncomputable def a7t : Hints := [(3000000, [6])]
noncomputable def a7u : Code := (Try.f46).body.getD .skip
abbrev A9 : List Kd := [.bool, .sl b8, .int .i64]
abbrev O9 : List Kd := [.bool]
noncomputable def K6 (N : Nat) (x : Bool × List Int × Int × Unit) : Option (Bool) :=
 if (¬ (x.1 = true)) then
  some (decide ((((List.length x.2.1) : Nat) : Int) = (0:Int)))
 else
  if ((((List.length x.2.1) : Nat) : Int) ≥ (1:Int)) then
   some (decide ((((List.length x.2.1) : Nat) : Int) ≤ x.2.2.1))
  else
   some false
theorem a46 : p_msg_within_E.Ok Try.prog := AE.of_ok (all_cons x8 d0) d0
theorem a6s (hE : p_msg_within_E.Ok Try.prog) {g : Ds A9 → Option (Rs [.bool])} (hg : ∀ x r, g x = some r → ∃ N, K6 N x = some r) : i6 Try.prog 46 ⟨A9, [.bool], g⟩ :=
 v9 (E := p_msg_within_E) (H := a7t) (L := fun N => LT.nil) (c := a7u) (ks := A9) (rs := O9) (F := K6) hE mix Try.func46 (by kernel_rfl) (fun N => OkAll.nil) (fun _ _ => by kernel_rfl) hg
noncomputable abbrev a03 : Sig := ⟨[.sl b8], [.sl .bool], R3⟩
noncomputable def p_msg_marked_E : AE := AE.of [(4, ty4), (29, ty29), (43, ty43)] [(40, a03)]
noncomputable def a2p : Hints := [(4, [0, 14, 15, 16]), (2000000, []), (2000001, [0, 14, 15, 16]), (3000000, [4])]
noncomputable def U4 : Code := (Try.f48).body.getD .skip
noncomputable def a39 : Shape := mkS { tmps := .sc (.int .i64) :: pv 13 (.sc (.vec 0 none 1) :: .sc (.int .i64) :: .sc (.int .i64) :: pv 11 []), mem := [.live [.xs .bool none] (.own)] } [.int, .nat, .int, .int, .nat, .xs]
abbrev W9 : Type := Int × Nat × Int × Int × Nat × List Int × Unit
abbrev W10 : Type := (Bool × Unit) ⊕ (Unit)
noncomputable def I2 (N : Nat) (β : Type) (x : W9) (kn : W9 → Option β) (ke : W10 → Option β) : Option β :=
 if (x.2.2.2.1 < x.2.2.1) then
  if 0 ≤ x.2.2.2.1 then (
  if x.2.2.2.1 < ((x.2.1 : Nat) : Int) then (
  if (x.2.2.2.1.toNat) < x.2.2.2.2.1 then (
  if ((List.getD x.2.2.2.2.2.1 (x.2.2.2.1.toNat) 0) ≠ 0) then
   if (x.2.2.2.1 ≥ x.1) then
    ke (.inl (false, ()))
   else
    kn (x.1, x.2.1, x.2.2.1, (IntKind.i64.wrap (x.2.2.2.1 + (1:Int))), x.2.2.2.2.1, x.2.2.2.2.2.1, ())
  else
   kn (x.1, x.2.1, x.2.2.1, (IntKind.i64.wrap (x.2.2.2.1 + (1:Int))), x.2.2.2.2.1, x.2.2.2.2.2.1, ())) else none) else none) else none
 else
  ke (.inr (()))
noncomputable def a3c : Go' W10 := fun y K => match y with
 | .inl y => K .ret (fSt { tmps := pv 4 (.sc (.bool) :: pv 23 []), mem := [] } [.bool] y)
 | .inr y => K (.exit 0) (fSt { tmps := pv 28 [], mem := [] } [] ())
noncomputable def Y6 (N : Nat) : LT := upd (LT.nil) 4 (a57 a39 N (I2 N) a3c)
theorem a3d (N : Nat) : OkAll p_msg_marked_E a2p N (Y6 N) (y7 U4) :=
 a07 (c := a1N 4 U4) (OkAll.nil) (by kernel_rfl) (fun x => by kernel_rfl) (fun β x kn ke => by kernel_rfl)
abbrev A6 : List Kd := [.int .i64, .sl b8]
abbrev O6 : List Kd := [.bool]
noncomputable def K3 (N : Nat) (x : Int × List Int × Unit) : Option (Bool) :=
 if ((((List.length x.2.1) : Nat) : Int) ≠ (IntKind.i64.wrap (Int.tdiv (IntKind.i64.wrap (x.1 + (7:Int))) (8:Int)))) then
  some false
 else
  (R3 (x.2.1, ())).bind fun r1 => (
  a51 (I2 N) N (x.1, (List.length r1), (((List.length r1) : Nat) : Int), (0:Int), (List.length r1), r1, ()) fun y => (match y with
  | .inl y2 => (
   some y2.1)
  | .inr y3 => (
   some true)))
theorem a43 (e0 : i6 Try.prog 40 a03) : p_msg_marked_E.Ok Try.prog := AE.of_ok (all_cons b4S (all_cons x8 (all_cons b4R d0))) (all_cons ⟨e0, a3R⟩ d0)
theorem a6p (hE : p_msg_marked_E.Ok Try.prog) {g : Ds A6 → Option (Rs [.bool])} (hg : ∀ x r, g x = some r → ∃ N, K3 N x = some r) : i6 Try.prog 48 ⟨A6, [.bool], g⟩ :=
 v9 (E := p_msg_marked_E) (H := a2p) (L := fun N => Y6 N) (c := U4) (ks := A6) (rs := O6) (F := K3) hE mix Try.func48 (by kernel_rfl) (fun N => a3d N) (fun _ _ => by kernel_rfl) hg
noncomputable abbrev N2 : Sig := ⟨[.int .i64, .int .i32], [.bool], G0⟩
noncomputable abbrev a3E : Sig := ⟨[.sla (.int .u64) 2], [.bool], a1Y⟩
noncomputable def p_msg_ranged_E : AE := AE.ofQ [(3, ty3), (25, ty25), (26, ty26), (28, ty28), (31, ty31), (90, ty90)] [(36, N2), (66, a3E)] [(28, .u64, 2)]
noncomputable def a7r : Hints := [(3000000, [2])]
noncomputable def a7s : Code := (Try.f44).body.getD .skip
abbrev A8 : List Kd := [.cat [.int .i64, .int .i64, .int .i64, .int .u32, .int .u32, .int .u64, .int .u64, .int .i64, .int .i64, .sl b8, .sl b8, .sl b8]]
abbrev O8 : List Kd := [.bool]
noncomputable def K5 (N : Nat) (x : (Int × Int × Int × Int × Int × Int × Int × Int × Int × List Int × List Int × List Int × Unit) × Unit) : Option (Bool) :=
 (G0 (x.1.1, (114:Int), ())).bind fun r1 => (
 if (¬ (r1 = true)) then
  if ((x.1.2.2.2.2.2.1 :: (x.1.2.2.2.2.2.2.1 :: [])) = (List.replicate 2 0)) then
   some (decide (x.1.2.2.2.2.1 = (0:Int)))
  else
   some false
 else
  (a1Y ((x.1.2.2.2.2.2.1 :: (x.1.2.2.2.2.2.2.1 :: [])), ())).bind fun r2 => (
  some (decide (r2 = true))))
theorem a45 (e0 : i6 Try.prog 36 N2) (e1 : i6 Try.prog 66 a3E) : p_msg_ranged_E.Ok Try.prog := AE.ofQ_ok (all_cons a0Q (all_cons a1O (all_cons V3 (all_cons a1P (all_cons M0 (all_cons b4V d0)))))) (all_cons ⟨e0, T5⟩ (all_cons ⟨e1, a5N⟩ d0)) (all_cons L0 d0)
theorem a6r (hE : p_msg_ranged_E.Ok Try.prog) {g : Ds A8 → Option (Rs [.bool])} (hg : ∀ x r, g x = some r → ∃ N, K5 N x = some r) : i6 Try.prog 44 ⟨A8, [.bool], g⟩ :=
 v9 (E := p_msg_ranged_E) (H := a7r) (L := fun N => LT.nil) (c := a7s) (ks := A8) (rs := O8) (F := K5) hE mix Try.func44 (by kernel_rfl) (fun N => OkAll.nil) (fun _ _ => by kernel_rfl) hg
noncomputable def p_msg_parted_E : AE := AE.ofQ [(3, ty3), (4, ty4), (31, ty31)] [(36, N2)] [(28, .u64, 2)]
noncomputable def a7p : Hints := [(3000000, [2])]
noncomputable def a7q : Code := (Try.f45).body.getD .skip
abbrev A7 : List Kd := [.cat [.int .i64, .int .i64, .int .i64, .int .u32, .int .u32, .int .u64, .int .u64, .int .i64, .int .i64, .sl b8, .sl b8, .sl b8]]
abbrev O7 : List Kd := [.bool]
noncomputable def K4 (N : Nat) (x : (Int × Int × Int × Int × Int × Int × Int × Int × Int × List Int × List Int × List Int × Unit) × Unit) : Option (Bool) :=
 (G0 (x.1.1, (110:Int), ())).bind fun r1 => (
 if ((decide (r1 = true)) ≠ (decide (x.1.2.2.2.2.2.2.2.2.1 ≠ (0:Int)))) then
  some false
 else
  if (x.1.2.2.2.2.2.2.2.2.1 < (0:Int)) then
   some false
  else
   if (x.1.2.2.2.2.2.2.2.2.1 > (256:Int)) then
    some false
   else
    (G0 (x.1.1, (112:Int), ())).bind fun r2 => (
    if (¬ (r2 = true)) then
     some (decide (x.1.2.2.2.2.2.2.2.1 = (0:Int)))
    else
     if (x.1.2.2.2.2.2.2.2.1 ≥ (0:Int)) then
      some (decide (x.1.2.2.2.2.2.2.2.1 < x.1.2.2.2.2.2.2.2.2.1))
     else
      some false))
theorem a44 (e0 : i6 Try.prog 36 N2) : p_msg_parted_E.Ok Try.prog := AE.ofQ_ok (all_cons a0Q (all_cons b4S (all_cons M0 d0))) (all_cons ⟨e0, T5⟩ d0) (all_cons L0 d0)
theorem a6q (hE : p_msg_parted_E.Ok Try.prog) {g : Ds A7 → Option (Rs [.bool])} (hg : ∀ x r, g x = some r → ∃ N, K4 N x = some r) : i6 Try.prog 45 ⟨A7, [.bool], g⟩ :=
 v9 (E := p_msg_parted_E) (H := a7p) (L := fun N => LT.nil) (c := a7q) (ks := A7) (rs := O7) (F := K4) hE mix Try.func45 (by kernel_rfl) (fun N => OkAll.nil) (fun _ _ => by kernel_rfl) hg
noncomputable abbrev V4 : Sig := ⟨[.int .i64], [.str], V8⟩
noncomputable abbrev a0Y : Sig := ⟨[.int .i64], [.bool], J4⟩
noncomputable abbrev a01 : Sig := ⟨[.cat [.int .i64, .int .i64, .int .i64, .int .u32, .int .u32, .int .u64, .int .u64, .int .i64, .int .i64, .sl b8, .sl b8, .sl b8]], [.bool], R1⟩
noncomputable abbrev a00 : Sig := ⟨[.cat [.int .i64, .int .i64, .int .i64, .int .u32, .int .u32, .int .u64, .int .u64, .int .i64, .int .i64, .sl b8, .sl b8, .sl b8]], [.bool], R0⟩
noncomputable abbrev a3D : Sig := ⟨[.int .i64], [.int .i64], a1X⟩
noncomputable abbrev a02 : Sig := ⟨[.bool, .sl b8, .int .i64], [.bool], F2⟩
noncomputable abbrev a0Z : Sig := ⟨[.int .i64, .sl b8], [.bool], Q9⟩
noncomputable def p_msg_Check_E : AE := AE.ofQ [(3, ty3), (29, ty29), (31, ty31)] [(14, V4), (43, a0Y), (44, a01), (45, a00), (36, N2), (47, a3D), (46, a02), (48, a0Z)] [(28, .u64, 2)]
noncomputable def a8F : Hints := [(3000000, [2])]
noncomputable def a8G : Code := (Try.f25).body.getD .skip
abbrev D3 : List Kd := [.cat [.int .i64, .int .i64, .int .i64, .int .u32, .int .u32, .int .u64, .int .u64, .int .i64, .int .i64, .sl b8, .sl b8, .sl b8]]
abbrev U1 : List Kd := [.int .i64]
noncomputable def O2 (N : Nat) (x : (Int × Int × Int × Int × Int × Int × Int × Int × Int × List Int × List Int × List Int × Unit) × Unit) : Option (Int) :=
 (V8 (x.1.1, ())).bind fun r1 => (
 if (r1 = (⟨#[]⟩ : ByteArray)) then
  some (211:Int)
 else
  (J4 (x.1.2.1, ())).bind fun r2 => (
  if (r2 = true) then
   (J4 (x.1.2.2.1, ())).bind fun r3 => (
   if (r3 = true) then
    if (x.1.2.1 ≠ x.1.2.2.1) then
     (R1 ((x.1.1, x.1.2.1, x.1.2.2.1, x.1.2.2.2.1, x.1.2.2.2.2.1, x.1.2.2.2.2.2.1, x.1.2.2.2.2.2.2.1, x.1.2.2.2.2.2.2.2.1, x.1.2.2.2.2.2.2.2.2.1, x.1.2.2.2.2.2.2.2.2.2.1, x.1.2.2.2.2.2.2.2.2.2.2.1, x.1.2.2.2.2.2.2.2.2.2.2.2.1, ()), ())).bind fun r4 => (
     if (r4 = true) then
      (R0 ((x.1.1, x.1.2.1, x.1.2.2.1, x.1.2.2.2.1, x.1.2.2.2.2.1, x.1.2.2.2.2.2.1, x.1.2.2.2.2.2.2.1, x.1.2.2.2.2.2.2.2.1, x.1.2.2.2.2.2.2.2.2.1, x.1.2.2.2.2.2.2.2.2.2.1, x.1.2.2.2.2.2.2.2.2.2.2.1, x.1.2.2.2.2.2.2.2.2.2.2.2.1, ()), ())).bind fun r5 => (
      if (r5 = true) then
       (G0 (x.1.1, (100:Int), ())).bind fun r6 => (
       (a1X (x.1.1, ())).bind fun r7 => (
       (F2 ((decide (r6 = true)), x.1.2.2.2.2.2.2.2.2.2.1, r7, ())).bind fun r8 => (
       if (r8 = true) then
        (G0 (x.1.1, (99:Int), ())).bind fun r9 => (
        (F2 ((decide (r9 = true)), x.1.2.2.2.2.2.2.2.2.2.2.1, (6446:Int), ())).bind fun r10 => (
        if (r10 = true) then
         (G0 (x.1.1, (115:Int), ())).bind fun r11 => (
         (F2 ((decide (r11 = true)), x.1.2.2.2.2.2.2.2.2.2.2.2.1, (3309:Int), ())).bind fun r12 => (
         if (¬ (r12 = true)) then
          some (210:Int)
         else
          if (x.1.1 = (4:Int)) then
           (Q9 (x.1.2.2.2.2.2.2.2.2.1, x.1.2.2.2.2.2.2.2.2.2.1, ())).bind fun r13 => (
           if (¬ (r13 = true)) then
            some (210:Int)
           else
            some (0:Int))
          else
           some (0:Int)))
        else
         some (210:Int)))
       else
        some (210:Int))))
      else
       some (210:Int))
     else
      some (210:Int))
    else
     some (210:Int)
   else
    some (210:Int))
  else
   some (210:Int)))
theorem a6k (e0 : i6 Try.prog 14 V4) (e1 : i6 Try.prog 43 a0Y) (e2 : i6 Try.prog 44 a01) (e3 : i6 Try.prog 45 a00) (e4 : i6 Try.prog 36 N2) (e5 : i6 Try.prog 47 a3D) (e6 : i6 Try.prog 46 a02) (e7 : i6 Try.prog 48 a0Z) : p_msg_Check_E.Ok Try.prog := AE.ofQ_ok (all_cons a0Q (all_cons x8 (all_cons M0 d0))) (all_cons ⟨e0, a1d⟩ (all_cons ⟨e1, a3M⟩ (all_cons ⟨e2, a3P⟩ (all_cons ⟨e3, a3O⟩ (all_cons ⟨e4, T5⟩ (all_cons ⟨e5, a5M⟩ (all_cons ⟨e6, a3Q⟩ (all_cons ⟨e7, a3N⟩ d0)))))))) (all_cons L0 d0)
theorem a7h (hE : p_msg_Check_E.Ok Try.prog) {g : Ds D3 → Option (Rs [.int .i64])} (hg : ∀ x r, g x = some r → ∃ N, O2 N x = some r) : i6 Try.prog 25 ⟨D3, [.int .i64], g⟩ :=
 v9 (E := p_msg_Check_E) (H := a8F) (L := fun N => LT.nil) (c := a8G) (ks := D3) (rs := U1) (F := O2) hE mix Try.func25 (by kernel_rfl) (fun N => OkAll.nil) (fun _ _ => by kernel_rfl) hg
noncomputable abbrev a2v : Sig := ⟨[.int .u64, .int .i64], [.sl b8, .int .i64], d7⟩
noncomputable abbrev a2w : Sig := ⟨[.int .u16], [.sl b8], o5⟩
noncomputable abbrev a04 : Sig := ⟨[.sls b8], [.sl b8], o7⟩
noncomputable def p_msg_form_E : AE := AE.ofI [(3, ty3), (5, ty5), (29, ty29), (31, ty31), (42, ty42), (69, ty69), (73, ty73), (79, ty79), (81, ty81), (84, ty84)] [(62, a2v), (61, a2w), (37, a04)] [(28, .u64, 2)] [(57, a1j), (63, a5X), (90, a0g), (91, N8), (92, a0h), (93, a0f), (94, T7)] [19, 20, 28] [(3, 20)] [(81, "livery/msg.at", 90), (95, "livery/msg.at", 91), (98, "livery/msg.at", 92), (101, "livery/msg.at", 93), (102, "livery/msg.at", 94)]
noncomputable def a9Y : Hints := [(3000000, [4])]
noncomputable def a9Z : Code := (Try.f34).body.getD .skip
abbrev G4 : List Kd := [.cat [.int .i64, .int .i64, .int .i64, .int .u32, .int .u32, .int .u64, .int .u64, .int .i64, .int .i64, .sl b8, .sl b8, .sl b8], .bool]
abbrev G5 : List Kd := [.sl b8]
noncomputable def j4 (N : Nat) (x : (Int × Int × Int × Int × Int × Int × Int × Int × Int × List Int × List Int × List Int × Unit) × Bool × Unit) : Option (List Int) :=
 if (x.1.1 = (1:Int)) then
  if (3 + 1) * 16 ≤ 140737488355328 then (
  if (4 + 2) * 16 ≤ 140737488355328 then (
  if (6 + 1) * 16 ≤ 140737488355328 then (
  if (7 + 1) * 16 ≤ 140737488355328 then (
  (d7 ((IntKind.u64.wrap x.1.2.1), (1:Int), ())).bind fun r1 => (
  if (1 + (List.length r1.1)) * 1 ≤ 140737488355328 then (
  (d7 ((IntKind.u64.wrap x.1.2.2.1), (1:Int), ())).bind fun r2 => (
  if ((1 + (List.length r1.1)) + (List.length r2.1)) * 1 ≤ 140737488355328 then (
  (d7 ((IntKind.u64.wrap x.1.2.2.2.1), (4:Int), ())).bind fun r3 => (
  if (((1 + (List.length r1.1)) + (List.length r2.1)) + (List.length r3.1)) * 1 ≤ 140737488355328 then (
  (d7 ((IntKind.u64.wrap x.1.2.2.2.2.1), (4:Int), ())).bind fun r4 => (
  if ((((1 + (List.length r1.1)) + (List.length r2.1)) + (List.length r3.1)) + (List.length r4.1)) * 1 ≤ 140737488355328 then (
  (d7 (x.1.2.2.2.2.2.1, (8:Int), ())).bind fun r5 => (
  if (((((1 + (List.length r1.1)) + (List.length r2.1)) + (List.length r3.1)) + (List.length r4.1)) + (List.length r5.1)) * 1 ≤ 140737488355328 then (
  (d7 (x.1.2.2.2.2.2.2.1, (8:Int), ())).bind fun r6 => (
  if ((((((1 + (List.length r1.1)) + (List.length r2.1)) + (List.length r3.1)) + (List.length r4.1)) + (List.length r5.1)) + (List.length r6.1)) * 1 ≤ 140737488355328 then (
  (o5 ((IntKind.u16.wrap ((List.length x.1.2.2.2.2.2.2.2.2.2.1 : Nat) : Int)), ())).bind fun r7 => (
  (o7 ([(((((((List.set (List.replicate 1 0) 0 (IntKind.u8.wrap x.1.1)) ++ r1.1) ++ r2.1) ++ r3.1) ++ r4.1) ++ r5.1) ++ r6.1), r7, x.1.2.2.2.2.2.2.2.2.2.1], ())).bind fun r8 => (
  (o5 ((IntKind.u16.wrap ((List.length x.1.2.2.2.2.2.2.2.2.2.2.1 : Nat) : Int)), ())).bind fun r9 => (
  (o7 ([r8, r9, x.1.2.2.2.2.2.2.2.2.2.2.1], ())).bind fun r10 => (
  some r10))))) else none)) else none)) else none)) else none)) else none)) else none)) else none) else none) else none) else none
 else
  if (x.1.1 = (2:Int)) then
   if (3 + 1) * 16 ≤ 140737488355328 then (
   if (4 + 2) * 16 ≤ 140737488355328 then (
   if (6 + 1) * 16 ≤ 140737488355328 then (
   if (x.2.1 = true) then
    if (7 + 1) * 16 ≤ 140737488355328 then (
    (d7 ((IntKind.u64.wrap x.1.2.1), (1:Int), ())).bind fun r11 => (
    if (1 + (List.length r11.1)) * 1 ≤ 140737488355328 then (
    (d7 ((IntKind.u64.wrap x.1.2.2.1), (1:Int), ())).bind fun r12 => (
    if ((1 + (List.length r11.1)) + (List.length r12.1)) * 1 ≤ 140737488355328 then (
    (d7 ((IntKind.u64.wrap x.1.2.2.2.1), (4:Int), ())).bind fun r13 => (
    if (((1 + (List.length r11.1)) + (List.length r12.1)) + (List.length r13.1)) * 1 ≤ 140737488355328 then (
    (d7 ((IntKind.u64.wrap x.1.2.2.2.2.1), (4:Int), ())).bind fun r14 => (
    if ((((1 + (List.length r11.1)) + (List.length r12.1)) + (List.length r13.1)) + (List.length r14.1)) * 1 ≤ 140737488355328 then (
    (d7 (x.1.2.2.2.2.2.1, (8:Int), ())).bind fun r15 => (
    if (((((1 + (List.length r11.1)) + (List.length r12.1)) + (List.length r13.1)) + (List.length r14.1)) + (List.length r15.1)) * 1 ≤ 140737488355328 then (
    (d7 (x.1.2.2.2.2.2.2.1, (8:Int), ())).bind fun r16 => (
    if ((((((1 + (List.length r11.1)) + (List.length r12.1)) + (List.length r13.1)) + (List.length r14.1)) + (List.length r15.1)) + (List.length r16.1)) * 1 ≤ 140737488355328 then (
    (o5 ((IntKind.u16.wrap ((List.length x.1.2.2.2.2.2.2.2.2.2.2.1 : Nat) : Int)), ())).bind fun r17 => (
    (o7 ([(((((((List.set (List.replicate 1 0) 0 (IntKind.u8.wrap x.1.1)) ++ r11.1) ++ r12.1) ++ r13.1) ++ r14.1) ++ r15.1) ++ r16.1), r17, x.1.2.2.2.2.2.2.2.2.2.2.1], ())).bind fun r18 => (
    (o5 ((IntKind.u16.wrap ((List.length x.1.2.2.2.2.2.2.2.2.2.2.2.1 : Nat) : Int)), ())).bind fun r19 => (
    (o7 ([r18, r19, x.1.2.2.2.2.2.2.2.2.2.2.2.1], ())).bind fun r20 => (
    some r20))))) else none)) else none)) else none)) else none)) else none)) else none)) else none
   else
    (d7 ((IntKind.u64.wrap x.1.2.1), (1:Int), ())).bind fun r21 => (
    if (1 + (List.length r21.1)) * 1 ≤ 140737488355328 then (
    (d7 ((IntKind.u64.wrap x.1.2.2.1), (1:Int), ())).bind fun r22 => (
    if ((1 + (List.length r21.1)) + (List.length r22.1)) * 1 ≤ 140737488355328 then (
    (d7 ((IntKind.u64.wrap x.1.2.2.2.1), (4:Int), ())).bind fun r23 => (
    if (((1 + (List.length r21.1)) + (List.length r22.1)) + (List.length r23.1)) * 1 ≤ 140737488355328 then (
    (d7 ((IntKind.u64.wrap x.1.2.2.2.2.1), (4:Int), ())).bind fun r24 => (
    if ((((1 + (List.length r21.1)) + (List.length r22.1)) + (List.length r23.1)) + (List.length r24.1)) * 1 ≤ 140737488355328 then (
    (d7 (x.1.2.2.2.2.2.1, (8:Int), ())).bind fun r25 => (
    if (((((1 + (List.length r21.1)) + (List.length r22.1)) + (List.length r23.1)) + (List.length r24.1)) + (List.length r25.1)) * 1 ≤ 140737488355328 then (
    (d7 (x.1.2.2.2.2.2.2.1, (8:Int), ())).bind fun r26 => (
    if ((((((1 + (List.length r21.1)) + (List.length r22.1)) + (List.length r23.1)) + (List.length r24.1)) + (List.length r25.1)) + (List.length r26.1)) * 1 ≤ 140737488355328 then (
    (o5 ((IntKind.u16.wrap ((List.length x.1.2.2.2.2.2.2.2.2.2.2.1 : Nat) : Int)), ())).bind fun r27 => (
    (o7 ([(((((((List.set (List.replicate 1 0) 0 (IntKind.u8.wrap x.1.1)) ++ r21.1) ++ r22.1) ++ r23.1) ++ r24.1) ++ r25.1) ++ r26.1), r27, x.1.2.2.2.2.2.2.2.2.2.2.1], ())).bind fun r28 => (
    some r28))) else none)) else none)) else none)) else none)) else none)) else none)) else none) else none) else none
  else
   if (x.1.1 = (3:Int)) then
    if (3 + 1) * 16 ≤ 140737488355328 then (
    if (4 + 1) * 16 ≤ 140737488355328 then (
    if (5 + 1) * 16 ≤ 140737488355328 then (
    (d7 ((IntKind.u64.wrap x.1.2.1), (1:Int), ())).bind fun r29 => (
    if (1 + (List.length r29.1)) * 1 ≤ 140737488355328 then (
    (d7 ((IntKind.u64.wrap x.1.2.2.1), (1:Int), ())).bind fun r30 => (
    if ((1 + (List.length r29.1)) + (List.length r30.1)) * 1 ≤ 140737488355328 then (
    (d7 ((IntKind.u64.wrap x.1.2.2.2.1), (4:Int), ())).bind fun r31 => (
    if (((1 + (List.length r29.1)) + (List.length r30.1)) + (List.length r31.1)) * 1 ≤ 140737488355328 then (
    (d7 ((IntKind.u64.wrap x.1.2.2.2.2.2.2.2.1), (2:Int), ())).bind fun r32 => (
    if ((((1 + (List.length r29.1)) + (List.length r30.1)) + (List.length r31.1)) + (List.length r32.1)) * 1 ≤ 140737488355328 then (
    (d7 ((IntKind.u64.wrap x.1.2.2.2.2.2.2.2.2.1), (2:Int), ())).bind fun r33 => (
    if (((((1 + (List.length r29.1)) + (List.length r30.1)) + (List.length r31.1)) + (List.length r32.1)) + (List.length r33.1)) * 1 ≤ 140737488355328 then (
    (o5 ((IntKind.u16.wrap ((List.length x.1.2.2.2.2.2.2.2.2.2.1 : Nat) : Int)), ())).bind fun r34 => (
    (o7 ([((((((List.set (List.replicate 1 0) 0 (IntKind.u8.wrap x.1.1)) ++ r29.1) ++ r30.1) ++ r31.1) ++ r32.1) ++ r33.1), r34, x.1.2.2.2.2.2.2.2.2.2.1], ())).bind fun r35 => (
    some r35))) else none)) else none)) else none)) else none)) else none)) else none) else none) else none
   else
    if (x.1.1 = (4:Int)) then
     if (3 + 1) * 16 ≤ 140737488355328 then (
     if (4 + 1) * 16 ≤ 140737488355328 then (
     (d7 ((IntKind.u64.wrap x.1.2.1), (1:Int), ())).bind fun r36 => (
     if (1 + (List.length r36.1)) * 1 ≤ 140737488355328 then (
     (d7 ((IntKind.u64.wrap x.1.2.2.1), (1:Int), ())).bind fun r37 => (
     if ((1 + (List.length r36.1)) + (List.length r37.1)) * 1 ≤ 140737488355328 then (
     (d7 ((IntKind.u64.wrap x.1.2.2.2.1), (4:Int), ())).bind fun r38 => (
     if (((1 + (List.length r36.1)) + (List.length r37.1)) + (List.length r38.1)) * 1 ≤ 140737488355328 then (
     (d7 ((IntKind.u64.wrap x.1.2.2.2.2.2.2.2.2.1), (2:Int), ())).bind fun r39 => (
     if ((((1 + (List.length r36.1)) + (List.length r37.1)) + (List.length r38.1)) + (List.length r39.1)) * 1 ≤ 140737488355328 then (
     (o5 ((IntKind.u16.wrap ((List.length x.1.2.2.2.2.2.2.2.2.2.1 : Nat) : Int)), ())).bind fun r40 => (
     (o7 ([(((((List.set (List.replicate 1 0) 0 (IntKind.u8.wrap x.1.1)) ++ r36.1) ++ r37.1) ++ r38.1) ++ r39.1), r40, x.1.2.2.2.2.2.2.2.2.2.1], ())).bind fun r41 => (
     some r41))) else none)) else none)) else none)) else none)) else none) else none
    else
     if (x.1.1 = (5:Int)) then
      if (3 + 1) * 16 ≤ 140737488355328 then (
      if (4 + 2) * 16 ≤ 140737488355328 then (
      if (x.2.1 = true) then
       if (6 + 1) * 16 ≤ 140737488355328 then (
       (d7 ((IntKind.u64.wrap x.1.2.1), (1:Int), ())).bind fun r42 => (
       if (1 + (List.length r42.1)) * 1 ≤ 140737488355328 then (
       (d7 ((IntKind.u64.wrap x.1.2.2.1), (1:Int), ())).bind fun r43 => (
       if ((1 + (List.length r42.1)) + (List.length r43.1)) * 1 ≤ 140737488355328 then (
       (d7 ((IntKind.u64.wrap x.1.2.2.2.1), (4:Int), ())).bind fun r44 => (
       if (((1 + (List.length r42.1)) + (List.length r43.1)) + (List.length r44.1)) * 1 ≤ 140737488355328 then (
       (d7 ((IntKind.u64.wrap x.1.2.2.2.2.1), (4:Int), ())).bind fun r45 => (
       if ((((1 + (List.length r42.1)) + (List.length r43.1)) + (List.length r44.1)) + (List.length r45.1)) * 1 ≤ 140737488355328 then (
       (d7 (x.1.2.2.2.2.2.1, (8:Int), ())).bind fun r46 => (
       if (((((1 + (List.length r42.1)) + (List.length r43.1)) + (List.length r44.1)) + (List.length r45.1)) + (List.length r46.1)) * 1 ≤ 140737488355328 then (
       (d7 (x.1.2.2.2.2.2.2.1, (8:Int), ())).bind fun r47 => (
       if ((((((1 + (List.length r42.1)) + (List.length r43.1)) + (List.length r44.1)) + (List.length r45.1)) + (List.length r46.1)) + (List.length r47.1)) * 1 ≤ 140737488355328 then (
       (o5 ((IntKind.u16.wrap ((List.length x.1.2.2.2.2.2.2.2.2.2.2.2.1 : Nat) : Int)), ())).bind fun r48 => (
       (o7 ([(((((((List.set (List.replicate 1 0) 0 (IntKind.u8.wrap x.1.1)) ++ r42.1) ++ r43.1) ++ r44.1) ++ r45.1) ++ r46.1) ++ r47.1), r48, x.1.2.2.2.2.2.2.2.2.2.2.2.1], ())).bind fun r49 => (
       some r49))) else none)) else none)) else none)) else none)) else none)) else none)) else none
      else
       (d7 ((IntKind.u64.wrap x.1.2.1), (1:Int), ())).bind fun r50 => (
       if (1 + (List.length r50.1)) * 1 ≤ 140737488355328 then (
       (d7 ((IntKind.u64.wrap x.1.2.2.1), (1:Int), ())).bind fun r51 => (
       if ((1 + (List.length r50.1)) + (List.length r51.1)) * 1 ≤ 140737488355328 then (
       (d7 ((IntKind.u64.wrap x.1.2.2.2.1), (4:Int), ())).bind fun r52 => (
       if (((1 + (List.length r50.1)) + (List.length r51.1)) + (List.length r52.1)) * 1 ≤ 140737488355328 then (
       (d7 ((IntKind.u64.wrap x.1.2.2.2.2.1), (4:Int), ())).bind fun r53 => (
       if ((((1 + (List.length r50.1)) + (List.length r51.1)) + (List.length r52.1)) + (List.length r53.1)) * 1 ≤ 140737488355328 then (
       (d7 (x.1.2.2.2.2.2.1, (8:Int), ())).bind fun r54 => (
       if (((((1 + (List.length r50.1)) + (List.length r51.1)) + (List.length r52.1)) + (List.length r53.1)) + (List.length r54.1)) * 1 ≤ 140737488355328 then (
       (d7 (x.1.2.2.2.2.2.2.1, (8:Int), ())).bind fun r55 => (
       if ((((((1 + (List.length r50.1)) + (List.length r51.1)) + (List.length r52.1)) + (List.length r53.1)) + (List.length r54.1)) + (List.length r55.1)) * 1 ≤ 140737488355328 then (
       some (((((((List.set (List.replicate 1 0) 0 (IntKind.u8.wrap x.1.1)) ++ r50.1) ++ r51.1) ++ r52.1) ++ r53.1) ++ r54.1) ++ r55.1)) else none)) else none)) else none)) else none)) else none)) else none)) else none) else none
     else
      if (x.1.1 = (6:Int)) then
       if (3 + 1) * 16 ≤ 140737488355328 then (
       if (4 + 2) * 16 ≤ 140737488355328 then (
       if (x.2.1 = true) then
        if (6 + 1) * 16 ≤ 140737488355328 then (
        (d7 ((IntKind.u64.wrap x.1.2.1), (1:Int), ())).bind fun r56 => (
        if (1 + (List.length r56.1)) * 1 ≤ 140737488355328 then (
        (d7 ((IntKind.u64.wrap x.1.2.2.1), (1:Int), ())).bind fun r57 => (
        if ((1 + (List.length r56.1)) + (List.length r57.1)) * 1 ≤ 140737488355328 then (
        (d7 ((IntKind.u64.wrap x.1.2.2.2.1), (4:Int), ())).bind fun r58 => (
        if (((1 + (List.length r56.1)) + (List.length r57.1)) + (List.length r58.1)) * 1 ≤ 140737488355328 then (
        (d7 ((IntKind.u64.wrap x.1.2.2.2.2.1), (4:Int), ())).bind fun r59 => (
        if ((((1 + (List.length r56.1)) + (List.length r57.1)) + (List.length r58.1)) + (List.length r59.1)) * 1 ≤ 140737488355328 then (
        (d7 (x.1.2.2.2.2.2.1, (8:Int), ())).bind fun r60 => (
        if (((((1 + (List.length r56.1)) + (List.length r57.1)) + (List.length r58.1)) + (List.length r59.1)) + (List.length r60.1)) * 1 ≤ 140737488355328 then (
        (d7 (x.1.2.2.2.2.2.2.1, (8:Int), ())).bind fun r61 => (
        if ((((((1 + (List.length r56.1)) + (List.length r57.1)) + (List.length r58.1)) + (List.length r59.1)) + (List.length r60.1)) + (List.length r61.1)) * 1 ≤ 140737488355328 then (
        (o5 ((IntKind.u16.wrap ((List.length x.1.2.2.2.2.2.2.2.2.2.2.2.1 : Nat) : Int)), ())).bind fun r62 => (
        (o7 ([(((((((List.set (List.replicate 1 0) 0 (IntKind.u8.wrap x.1.1)) ++ r56.1) ++ r57.1) ++ r58.1) ++ r59.1) ++ r60.1) ++ r61.1), r62, x.1.2.2.2.2.2.2.2.2.2.2.2.1], ())).bind fun r63 => (
        some r63))) else none)) else none)) else none)) else none)) else none)) else none)) else none
       else
        (d7 ((IntKind.u64.wrap x.1.2.1), (1:Int), ())).bind fun r64 => (
        if (1 + (List.length r64.1)) * 1 ≤ 140737488355328 then (
        (d7 ((IntKind.u64.wrap x.1.2.2.1), (1:Int), ())).bind fun r65 => (
        if ((1 + (List.length r64.1)) + (List.length r65.1)) * 1 ≤ 140737488355328 then (
        (d7 ((IntKind.u64.wrap x.1.2.2.2.1), (4:Int), ())).bind fun r66 => (
        if (((1 + (List.length r64.1)) + (List.length r65.1)) + (List.length r66.1)) * 1 ≤ 140737488355328 then (
        (d7 ((IntKind.u64.wrap x.1.2.2.2.2.1), (4:Int), ())).bind fun r67 => (
        if ((((1 + (List.length r64.1)) + (List.length r65.1)) + (List.length r66.1)) + (List.length r67.1)) * 1 ≤ 140737488355328 then (
        (d7 (x.1.2.2.2.2.2.1, (8:Int), ())).bind fun r68 => (
        if (((((1 + (List.length r64.1)) + (List.length r65.1)) + (List.length r66.1)) + (List.length r67.1)) + (List.length r68.1)) * 1 ≤ 140737488355328 then (
        (d7 (x.1.2.2.2.2.2.2.1, (8:Int), ())).bind fun r69 => (
        if ((((((1 + (List.length r64.1)) + (List.length r65.1)) + (List.length r66.1)) + (List.length r67.1)) + (List.length r68.1)) + (List.length r69.1)) * 1 ≤ 140737488355328 then (
        some (((((((List.set (List.replicate 1 0) 0 (IntKind.u8.wrap x.1.1)) ++ r64.1) ++ r65.1) ++ r66.1) ++ r67.1) ++ r68.1) ++ r69.1)) else none)) else none)) else none)) else none)) else none)) else none)) else none) else none
      else
       (d7 ((IntKind.u64.wrap x.1.2.1), (1:Int), ())).bind fun r70 => (
       if (1 + (List.length r70.1)) * 1 ≤ 140737488355328 then (
       (d7 ((IntKind.u64.wrap x.1.2.2.1), (1:Int), ())).bind fun r71 => (
       if ((1 + (List.length r70.1)) + (List.length r71.1)) * 1 ≤ 140737488355328 then (
       (d7 ((IntKind.u64.wrap x.1.2.2.2.1), (4:Int), ())).bind fun r72 => (
       if (((1 + (List.length r70.1)) + (List.length r71.1)) + (List.length r72.1)) * 1 ≤ 140737488355328 then (
       some ((((List.set (List.replicate 1 0) 0 (IntKind.u8.wrap x.1.1)) ++ r70.1) ++ r71.1) ++ r72.1)) else none)) else none)) else none)
theorem a7n (e0 : i6 Try.prog 62 a2v) (e1 : i6 Try.prog 61 a2w) (e2 : i6 Try.prog 37 a04) : p_msg_form_E.Ok Try.prog := AE.ofI_ok (all_cons a0Q (all_cons a3y (all_cons x8 (all_cons M0 (all_cons b4Q (all_cons b1G (all_cons b1H (all_cons b1I (all_cons b1J (all_cons b4U d0)))))))))) (all_cons ⟨e0, a4Q⟩ (all_cons ⟨e1, a4R⟩ (all_cons ⟨e2, a3S⟩ d0))) (all_cons L0 d0) (all_cons ⟨a1k, V7⟩ (all_cons ⟨a67, a4P⟩ (all_cons ⟨a0J, Q5⟩ (all_cons ⟨R5, M2⟩ (all_cons ⟨a0K, Q6⟩ (all_cons ⟨a0I, Q4⟩ (all_cons ⟨X1, N6⟩ d0))))))) (all_cons b59 (all_cons b6a (all_cons b6b (all_cons b4h (all_cons b4i d0)))))
theorem a8L (hE : p_msg_form_E.Ok Try.prog) {g : Ds G4 → Option (Rs G5)} (hg : ∀ x r, g x = some r → ∃ N, j4 N x = some r) : i6 Try.prog 34 ⟨G4, G5, g⟩ :=
 v9 (E := p_msg_form_E) (H := a9Y) (L := fun N => LT.nil) (c := a9Z) (ks := G4) (rs := G5) (F := j4) hE mix Try.func34 (by kernel_rfl) (fun N => OkAll.nil) (fun _ _ => by kernel_rfl) hg
noncomputable abbrev E8 : Sig := ⟨[.cat [.int .i64, .int .i64, .int .i64, .int .u32, .int .u32, .int .u64, .int .u64, .int .i64, .int .i64, .sl b8, .sl b8, .sl b8]], [.int .i64], s7⟩
noncomputable abbrev a3C : Sig := ⟨[.cat [.int .i64, .int .i64, .int .i64, .int .u32, .int .u32, .int .u64, .int .u64, .int .i64, .int .i64, .sl b8, .sl b8, .sl b8], .bool], [.sl b8], a1W⟩
noncomputable def p_msg_Put_E : AE := AE.ofQ [(31, ty31)] [(25, E8), (34, a3C)] [(28, .u64, 2)]
noncomputable def b1d : Hints := [(3000000, [2, 3])]
noncomputable def b1e : Code := (Try.f17).body.getD .skip
abbrev J8 : List Kd := [.cat [.int .i64, .int .i64, .int .i64, .int .u32, .int .u32, .int .u64, .int .u64, .int .i64, .int .i64, .sl b8, .sl b8, .sl b8]]
abbrev J9 : List Kd := [.sl b8, .int .i64]
noncomputable def a1B (N : Nat) (x : (Int × Int × Int × Int × Int × Int × Int × Int × Int × List Int × List Int × List Int × Unit) × Unit) : Option (List Int × Int) :=
 (s7 ((x.1.1, x.1.2.1, x.1.2.2.1, x.1.2.2.2.1, x.1.2.2.2.2.1, x.1.2.2.2.2.2.1, x.1.2.2.2.2.2.2.1, x.1.2.2.2.2.2.2.2.1, x.1.2.2.2.2.2.2.2.2.1, x.1.2.2.2.2.2.2.2.2.2.1, x.1.2.2.2.2.2.2.2.2.2.2.1, x.1.2.2.2.2.2.2.2.2.2.2.2.1, ()), ())).bind fun r1 => (
 if (r1 ≠ (0:Int)) then
  some ([], r1)
 else
  (a1W ((x.1.1, x.1.2.1, x.1.2.2.1, x.1.2.2.2.1, x.1.2.2.2.2.1, x.1.2.2.2.2.2.1, x.1.2.2.2.2.2.2.1, x.1.2.2.2.2.2.2.2.1, x.1.2.2.2.2.2.2.2.2.1, x.1.2.2.2.2.2.2.2.2.2.1, x.1.2.2.2.2.2.2.2.2.2.2.1, x.1.2.2.2.2.2.2.2.2.2.2.2.1, ()), true, ())).bind fun r2 => (
  some (r2, (0:Int))))
theorem a8K (e0 : i6 Try.prog 25 E8) (e1 : i6 Try.prog 34 a3C) : p_msg_Put_E.Ok Try.prog := AE.ofQ_ok (all_cons M0 d0) (all_cons ⟨e0, L3⟩ (all_cons ⟨e1, a5L⟩ d0)) (all_cons L0 d0)
theorem a9X (hE : p_msg_Put_E.Ok Try.prog) {g : Ds J8 → Option (Rs J9)} (hg : ∀ x r, g x = some r → ∃ N, a1B N x = some r) : i6 Try.prog 17 ⟨J8, J9, g⟩ :=
 v9 (E := p_msg_Put_E) (H := b1d) (L := fun N => LT.nil) (c := b1e) (ks := J8) (rs := J9) (F := a1B) hE mix Try.func17 (by kernel_rfl) (fun N => OkAll.nil) (fun _ _ => by kernel_rfl) hg
noncomputable abbrev a0X : Sig := ⟨[.cat [.int .i64, .int .i64, .int .i64, .int .u32, .int .u32, .int .u64, .int .u64, .int .i64, .int .i64, .sl b8, .sl b8, .sl b8]], [.sl b8, .int .i64], J3⟩
noncomputable abbrev x5 : Sig := ⟨[.sl b8, .sl b8], [.bool], k9⟩
noncomputable abbrev a5w : Sig := ⟨[.int .i64], [.str], a2Z⟩
noncomputable def p_law21_live_E : AE := AE.ofQ [(3, ty3), (5, ty5), (25, ty25), (28, ty28), (29, ty29), (31, ty31)] [(17, a0X), (19, x5), (12, a5w)] [(28, .u64, 2)]
noncomputable def a7f : Hints := [(3000000, [0])]
noncomputable def a7g : Code := (Try.f11).body.getD .skip
abbrev a1v : List Kd := []
abbrev a1w : List Kd := [.bool]
noncomputable def R9 (N : Nat) (x : Unit) : Option (Bool) :=
 (J3 (((List.getD (List.set [0] 0 (8:Int)) 0 0), (List.getD (List.set [0] 0 (1:Int)) 0 0), (List.getD (List.set [0] 0 (2:Int)) 0 0), (List.getD (List.set [0] 0 (3:Int)) 0 0), (List.getD [0] 0 0), (List.getD (List.take 1 (List.replicate 2 0)) 0 0), (List.getD (List.drop 1 (List.replicate 2 0)) 0 0), (List.getD [0] 0 0), (List.getD [0] 0 0), [], [], [], ()), ())).bind fun r1 => (
 (k9 (r1.1, (List.set (List.set (List.set (List.set (List.set (List.set (List.set (List.replicate 7 0) 0 (8:Int)) 1 (1:Int)) 2 (2:Int)) 3 (0:Int)) 4 (0:Int)) 5 (0:Int)) 6 (3:Int)), ())).bind fun r2 => (
 if (r2 = true) then
  if (r1.2 = (0:Int)) then
   (a2Z ((3:Int), ())).bind fun r3 => (
   some (decide (r3 = (⟨#[112, 110, 100]⟩ : ByteArray))))
  else
   some false
 else
  some false))
theorem a4W (e0 : i6 Try.prog 17 a0X) (e1 : i6 Try.prog 19 x5) (e2 : i6 Try.prog 12 a5w) : p_law21_live_E.Ok Try.prog := AE.ofQ_ok (all_cons a0Q (all_cons a3y (all_cons a1O (all_cons a1P (all_cons x8 (all_cons M0 d0)))))) (all_cons ⟨e0, a2l⟩ (all_cons ⟨e1, F8⟩ (all_cons ⟨e2, T4⟩ d0))) (all_cons L0 d0)
theorem a6j (hE : p_law21_live_E.Ok Try.prog) {g : Ds [] → Option (Rs [.bool])} (hg : ∀ x r, g x = some r → ∃ N, R9 N x = some r) : i6 Try.prog 11 ⟨[], [.bool], g⟩ :=
 v9 (E := p_law21_live_E) (H := a7f) (L := fun N => LT.nil) (c := a7g) (ks := a1v) (rs := a1w) (F := R9) hE mix Try.func11 (by kernel_rfl) (fun N => OkAll.nil) (fun _ _ => by kernel_rfl) hg
end Go.Ax.TryP
set_option linter.unusedVariables false
namespace Go.Ax.TryP
open Go.Proofs
def bytes (zs : List Int) : Prop := ∀ z ∈ zs, 0 ≤ z ∧ z ≤ 255
def b4B (l : List (List Int)) : Prop := l.length ≤ maxLen ∧ ∀ zs ∈ l, zs.length ≤ maxLen ∧ bytes zs
theorem b69 {l : List (List Int)} : Kd.wf (.sls (.int .u8)) l ↔ b4B l := by simp [Kd.wf, b4B, bytes, a8B]
theorem a1Q {b : List Int} : Kd.wf (.sl (.int .u8)) b ↔ b.length ≤ maxLen ∧ bytes b := by simp only [b5Z]; exact Iff.rfl
theorem b17 {l : List (List Int)} {i : Nat} (hi : i < l.length) : (l.take (i + 1)).flatten = (l.take i).flatten ++ l.getD i [] := by
 rw [List.take_succ_eq_append_getElem hi, List.flatten_append, List.getD_eq_getElem?_getD, List.getElem?_eq_getElem hi]; simp
theorem b3Z (l : List (List Int)) (i : Nat) : (l.take i).flatten.length ≤ l.flatten.length := by
 conv => rhs; rw [← List.take_append_drop i l, List.flatten_append, List.length_append]
 omega
theorem b0f : ∀ x r, o7 x = some r → ∃ N, S7 N x = some r := by
 refine s0 (ks := B1) (rs := B2) fun x hw hq => ?_
 obtain ⟨(l : List (List Int)), u⟩ := x
 obtain ⟨hq1, hq⟩ : l.length ≤ 1000 ∧ l.flatten.length ≤ 1000000 := hq
 refine ⟨l.length + 1, ?_⟩
 unfold S7
 dsimp only
 refine (X3 (F := w4 (l.length + 1)) (s := fun i => (l, ((l.take i).flatten.length : Int), l, (l.length : Int), (i : Int), ())) (y := (l, (l.flatten.length : Int), ())) l.length rfl ?_ ?_ _ (by omega)).trans ?_
 ·intro i hi kn
  have h1 := b3Z l (i + 1)
  rw [b17 hi] at h1 ⊢
  rw [List.length_append] at h1 ⊢
  unfold w4
  dsimp only
  rw [if_pos (by omega), if_pos (by omega), if_pos (by omega), Int.toNat_natCast, i5 (by omega) (by omega), i5 (by omega) (by omega), Int.natCast_add]
  rfl
 ·intro kn
  unfold w4
  dsimp only
  rw [if_neg (by omega), List.take_length]
 dsimp only
 rw [if_pos (by omega), if_pos (by omega), if_pos (by omega)]
 refine (X3 (F := w5 (l.length + 1)) (s := fun i => ((l.take i).flatten.length, l, (l.length : Int), (i : Int), (l.take i).flatten.length, (l.take i).flatten, ()))
  (y := (l.flatten.length, l.flatten.length, l.flatten, ())) l.length rfl ?_ ?_ _ (by omega)).trans ?_
 ·intro i hi kn
  have h1 := b3Z l (i + 1)
  rw [b17 hi] at h1 ⊢
  rw [List.length_append] at h1 ⊢
  unfold w5
  dsimp only
  rw [if_pos (by omega), if_pos (by omega), if_pos (by omega), Int.toNat_natCast, if_pos (by omega), i5 (by omega) (by omega)]
  rfl
 ·intro kn
  unfold w5
  dsimp only
  rw [if_neg (by omega), List.take_length]
 ·rfl
theorem b6q {l : List (List Int)} (h : l.length ≤ 1000 ∧ l.flatten.length ≤ 1000000) (hr : b4B l) : o7 (l, ()) = some l.flatten :=
 o8 (ks := B1) (rs := B2) (x := (l, ())) ⟨b69.2 hr, trivial⟩ h
theorem a8X : ∀ x r, k9 x = some r → ∃ N, M6 N x = some r := by
 refine s0 (ks := v4) (rs := E6) fun x hw hq => ⟨0, ?_⟩
 obtain ⟨(a : List Int), (b : List Int), u⟩ := x
 unfold M6
 exact congrArg some (b0R (a1Q.1 hw.1).2 (a1Q.1 hw.2.1).2)
theorem b5e {a b : List Int} (ha : a.length ≤ 1000000 ∧ bytes a) (hb : b.length ≤ 1000000 ∧ bytes b) : k9 (a, b, ()) = some (decide (a = b)) := by
 have hM : 1000000 ≤ maxLen := by decide
 exact o8 (ks := v4) (rs := E6) (x := (a, b, ())) ⟨(a1Q (b := a)).2 ⟨by omega, ha.2⟩, (a1Q (b := b)).2 ⟨by omega, hb.2⟩, trivial⟩ trivial
theorem u3 {n : Int} : y8 .u64 n ↔ 0 ≤ n ∧ n ≤ 18446744073709551615 := by simp [y8, Lit.wf, IntKind.min, IntKind.max, IntKind.signed, IntKind.bits]
theorem b24 {n : Int} : y8 .u32 n ↔ 0 ≤ n ∧ n ≤ 4294967295 := by simp [y8, Lit.wf, IntKind.min, IntKind.max, IntKind.signed, IntKind.bits]
theorem a7Z {n : Int} : y8 .u16 n ↔ 0 ≤ n ∧ n ≤ 65535 := by simp [y8, Lit.wf, IntKind.min, IntKind.max, IntKind.signed, IntKind.bits]
def b2E (n : Int) (w i : Nat) : List Int := (List.range w).map fun j => if w - i ≤ j then n / 2 ^ (8 * (w - 1 - j)) % 256 else 0
theorem b5g (n : Int) (w : Nat) : b2E n w w = D0 n w := List.map_congr_left fun j _ => by rw [if_pos (by omega)]
theorem b3N (n : Int) (w : Nat) : b2E n w 0 = List.replicate w 0 := by
 refine rows.ext (n := w) (by simp [b2E]) (by simp) fun j hj => ?_
 rw [a65]
 unfold b2E
 rw [D1 hj, if_neg (by omega)]
theorem b3M (n : Int) {w i : Nat} (hi : i < w) : (b2E n w i).set (w - 1 - i) (n / 2 ^ (8 * i) % 256) = b2E n w (i + 1) := by
 have hl : (b2E n w i).length = w := by simp [b2E]
 refine rows.ext (n := w) (by simp [b2E]) (by simp [b2E]) fun j hj => ?_
 by_cases e : w - 1 - i = j
 ·subst e
  rw [b0W (by omega)]
  unfold b2E
  rw [D1 hj, if_pos (by omega), show w - 1 - (w - 1 - i) = i by omega]
 ·rw [getD_set_ne e]
  unfold b2E
  rw [D1 hj, D1 hj]
  by_cases h : w - i ≤ j
  ·rw [if_pos h, if_pos (by omega)]
  ·rw [if_neg h, if_neg (by omega)]
theorem b1n : ∀ x r, N7 x = some r → ∃ N, a0t N x = some r := by
 refine s0 (ks := D9) (rs := E0) fun x hw hq => ⟨10, ?_⟩
 obtain ⟨(n : Int), (w : Int), u⟩ := x
 have hn : 0 ≤ n ∧ n ≤ 18446744073709551615 := u3.1 hw.1
 obtain ⟨h0, h1⟩ : 0 ≤ w ∧ w ≤ 8 := hq
 obtain ⟨w, rfl⟩ : ∃ m : Nat, w = m := ⟨w.toNat, by omega⟩
 obtain ⟨n, rfl⟩ : ∃ m : Nat, n = m := ⟨n.toNat, by omega⟩
 unfold a0t
 dsimp only
 rw [if_pos h0, if_pos rfl, if_pos (by omega), Int.toNat_natCast]
 refine (X3 (F := y5 10) (s := fun i => ((n : Int), (w : Int), w, (w : Int), (i : Int), w, b2E n w i, ())) (y := (w, w, D0 n w, ())) w ?_ ?_ ?_ 10 (by omega)).trans ?_
 ·rw [b3N]; rfl
 ·intro i hi kn
  have e1 : IntKind.i64.wrap (8 * (i : Int)) = ((8 * i : Nat) : Int) := by rw [i5 (by omega) (by omega)]; omega
  have e2 : IntKind.i64.wrap (IntKind.i64.wrap ((w : Int) - 1) - i) = ((w - 1 - i : Nat) : Int) := by rw [i5 (x := (w : Int) - 1) (by omega) (by omega), i5 (by omega) (by omega)]; omega
  have e3 : IntKind.u8.wrap (b43 IntKind.u64 (n : Int) ((8 * i : Nat) : Int)) = (n : Int) / 2 ^ (8 * i) % 256 := by
   rw [a8u (k := .u64) (show 8 * i ≤ 64 by omega), a6Z]
   simp
  unfold y5
  dsimp only
  rw [if_pos (by omega), e1, e2, if_neg (by omega), if_pos (by omega), if_pos (by omega), Int.toNat_natCast, if_pos (by omega), e3, b3M _ hi, i5 (by omega) (by omega)]
  rfl
 ·intro kn
  unfold y5
  dsimp only
  rw [if_neg (by omega), b5g]
 ·rfl
theorem b54 {n : Int} (hn : 0 ≤ n ∧ n ≤ 18446744073709551615) {w : Nat} (hw : w ≤ 8) : N7 (n, (w : Int), ()) = some (D0 n w) := by
 have := o8 (ks := D9) (rs := E0) (x := (n, (w : Int), ())) (Q := fun x => 0 ≤ x.2.1 ∧ x.2.1 ≤ 8) (f := fun x => D0 x.1 x.2.1.toNat) ⟨u3.2 hn, (A4 (n := (w : Int))).2 (by omega), trivial⟩ ⟨by show (0 : Int) ≤ w; omega, by show (w : Int) ≤ 8; omega⟩
 exact this
theorem L1 {x : Int} (h0 : 0 ≤ x) (h1 : x ≤ 18446744073709551615) : IntKind.u64.wrap x = x := by simp [IntKind.wrap, IntKind.signed, IntKind.bits]; omega
theorem b1m : ∀ x r, o5 x = some r → ∃ N, a0s N x = some r := by
 refine s0 (ks := U7) (rs := D8) fun x hw hq => ⟨0, ?_⟩
 obtain ⟨(n : Int), u⟩ := x
 have hn : 0 ≤ n ∧ n ≤ 65535 := a7Z.1 hw.1
 unfold a0s
 dsimp only
 rw [L1 (by omega) (by omega)]
 exact congrArg (fun o => Option.bind o _) (b54 (n := n) (by omega) (w := 2) (by omega))
theorem b3G {n : Int} (h : 0 ≤ n ∧ n ≤ 65535) : o5 (n, ()) = some (D0 n 2) := o8 (ks := U7) (rs := D8) (x := (n, ())) ⟨a7Z.2 h, trivial⟩ trivial
theorem b3a : ∀ x r, a1Z x = some r → ∃ N, a2a N x = some r := by
 refine s0 (ks := G8) (rs := a0w) fun x hw hq => ⟨0, ?_⟩
 unfold a2a b44
 by_cases h : x.1.1 < x.1.2.1
 ·rw [if_pos h]
  exact congrArg some (decide_eq_decide.2 ⟨fun g => ⟨h, g⟩, fun g => g.2⟩)
 ·rw [if_neg h]
  exact congrArg some (by simp [h])
theorem b7n {lo hi : Int} (h1 : 0 ≤ lo ∧ lo ≤ 18446744073709551615) (h2 : 0 ≤ hi ∧ hi ≤ 18446744073709551615) : a1Z ((lo, hi, ()), ()) = some (b44 lo hi) :=
 o8 (ks := G8) (rs := a0w) (x := ((lo, hi, ()), ())) ⟨⟨u3.2 h1, u3.2 h2, trivial⟩, trivial⟩ trivial
theorem b29 : ∀ x r, a1Y x = some r → ∃ N, a19 N x = some r := by
 refine s0 (ks := G6) (rs := a0v) fun x hw hq => ⟨3, ?_⟩
 obtain ⟨(l : List Int), u⟩ := x
 have hl : l.length = 2 := hq
 obtain ⟨a, b, rfl⟩ : ∃ a b, l = [a, b] := by
  match l, hl with
  | [a, b], _ => exact ⟨a, b, rfl⟩
 have hb : ∀ z ∈ [a, b], y8 .u64 z := hw.1.2
 have ha1 := u3.1 (hb a (by simp))
 have hb1 := u3.1 (hb b (by simp))
 unfold a19
 dsimp only
 rw [show ([a, b] : List Int).length / 2 = 1 by simp, show ([a, b] : List Int).length = 2 from rfl]
 show a51 (G7 3) 3 (1, 1, (1 : Int), (0 : Int), 2, [a, b], ()) _ = some (b44 a b)
 simp only [a51]
 unfold G7
 dsimp only
 rw [if_pos (by omega), if_pos (by omega), if_pos (by omega), if_pos (by omega)]
 refine (congrArg (fun o => Option.bind o _) (b7n ha1 hb1)).trans ?_
 rw [Option.bind_some]
 by_cases h : b44 a b = true
 ·rw [if_neg (by simp [h]), if_neg (by omega), i5 (by omega) (by omega), if_neg (by omega), h]
  rfl
 ·rw [if_pos h]
  have : b44 a b = false := by simpa using h
  rw [this]
theorem b7m {a b : Int} (h1 : 0 ≤ a ∧ a ≤ 18446744073709551615) (h2 : 0 ≤ b ∧ b ≤ 18446744073709551615) : a1Y ([a, b], ()) = some (b44 a b) := by
 have hM : 1 ≤ maxLen := by decide
 have w : Kd.wf (.sla (.int .u64) 2) [a, b] := ⟨⟨1, rfl, hM⟩, fun z hz => by
  rcases List.mem_cons.1 hz with rfl | hz
  ·exact u3.2 h1
  ·rw [List.mem_singleton.1 hz]; exact u3.2 h2⟩
 exact o8 (ks := G6) (rs := a0v) (x := ([a, b], ())) ⟨w, trivial⟩ rfl
theorem i2 (n : Int) (w : Nat) : (D0 n w).length = w := by simp [D0]
theorem j8 (n : Int) (w : Nat) : bytes (D0 n w) := fun z hz => by
 obtain ⟨i, _, rfl⟩ := List.mem_map.1 hz
 omega
end Go.Ax.TryP
set_option linter.unusedVariables false
namespace Go.Ax.TryP
open Go.Proofs
theorem b23 {n : Int} : y8 .i32 n ↔ -2147483648 ≤ n ∧ n ≤ 2147483647 := by simp [y8, Lit.wf, IntKind.min, IntKind.max, IntKind.signed, IntKind.bits]
theorem b6K : maxLen = 9223372036854775807 := by decide
theorem b4u : ∀ x r, a2Z x = some r → ∃ N, a3b N x = some r := by
 refine s0 (ks := a1z) (rs := a1A) fun x hw hq => ⟨0, ?_⟩
 unfold a3b b8m
 repeat' split
 all_goals rfl
theorem b7l {k : Int} (h : -9223372036854775808 ≤ k ∧ k ≤ 9223372036854775807) : a2Z (k, ()) = some (b8m k) := o8 (ks := a1z) (rs := a1A) (x := (k, ())) ⟨A4.2 h, trivial⟩ trivial
theorem b5J {k : Int} (h : k < 1 ∨ 8 < k) : a4V k = ⟨#[]⟩ := by
 unfold a4V
 repeat' (split; (try omega))
 rfl
theorem b26 : ∀ x r, V8 x = some r → ∃ N, Y5 N x = some r := by
 refine s0 (ks := a0n) (rs := a0o) fun x hw hq => ⟨0, ?_⟩
 obtain ⟨(k : Int), u⟩ := x
 show Y5 0 (k, u) = some (a4V k)
 by_cases h : k < 1 ∨ 8 < k
 ·rw [b5J h]
  unfold Y5
  dsimp only
  by_cases h0 : k < 0
  ·rw [if_pos h0]
  by_cases h9 : 9 ≤ k
  ·rw [if_neg h0, if_pos h9]
  have : k = 0 := by omega
  subst this
  rfl
 ·have : k = 1 ∨ k = 2 ∨ k = 3 ∨ k = 4 ∨ k = 5 ∨ k = 6 ∨ k = 7 ∨ k = 8 := by omega
  rcases this with rfl | rfl | rfl | rfl | rfl | rfl | rfl | rfl <;> rfl
theorem b3E {k : Int} (h : -9223372036854775808 ≤ k ∧ k ≤ 9223372036854775807) : V8 (k, ()) = some (a4V k) := o8 (ks := a0n) (rs := a0o) (x := (k, ())) ⟨A4.2 h, trivial⟩ trivial
theorem b4w : ∀ x r, G0 x = some r → ∃ N, a1C N x = some r := by
 refine s0 (ks := K0) (rs := a1D) fun x hw hq => ⟨0, ?_⟩
 obtain ⟨(k : Int), (c : Int), u⟩ := x
 show a1C 0 (k, c, u) = some (u6 k c)
 unfold a1C u6 a3W
 dsimp only
 repeat' split
 all_goals simp_all [eq_comm]
theorem a7K {k c : Int} (h : -9223372036854775808 ≤ k ∧ k ≤ 9223372036854775807) (hc : -2147483648 ≤ c ∧ c ≤ 2147483647) : G0 (k, c, ()) = some (u6 k c) := o8 (ks := K0) (rs := a1D) (x := (k, c, ())) ⟨A4.2 h, b23.2 hc, trivial⟩ trivial
theorem a99 : ∀ x r, J4 x = some r → ∃ N, S4 N x = some r := by
 refine s0 (ks := O4) (rs := O5) fun x hw hq => ⟨0, ?_⟩
 obtain ⟨(n : Int), u⟩ := x
 unfold S4 b40
 dsimp only
 by_cases h : n ≥ 0
 ·rw [if_pos h]
  exact congrArg some (decide_eq_decide.2 ⟨fun g => ⟨h, g⟩, fun g => g.2⟩)
 ·rw [if_neg h]
  exact congrArg some (decide_eq_false (by omega)).symm
theorem a9s {n : Int} (h : -9223372036854775808 ≤ n ∧ n ≤ 9223372036854775807) : J4 (n, ()) = some (b40 n) :=
 o8 (ks := O4) (rs := O5) (x := (n, ())) ⟨A4.2 h, trivial⟩ trivial
theorem b28 : ∀ x r, a1X x = some r → ∃ N, a18 N x = some r := by
 refine s0 (ks := a0p) (rs := a0q) fun x hw hq => ⟨0, ?_⟩
 unfold a18 a7c
 split <;> rfl
theorem b6v {k : Int} (h : -9223372036854775808 ≤ k ∧ k ≤ 9223372036854775807) : a1X (k, ()) = some (a7c k) := o8 (ks := a0p) (rs := a0q) (x := (k, ())) ⟨A4.2 h, trivial⟩ trivial
theorem b0d : ∀ x r, F2 x = some r → ∃ N, K6 N x = some r := by
 refine s0 (ks := A9) (rs := O9) fun x hw hq => ⟨0, ?_⟩
 obtain ⟨(is : Bool), (b : List Int), (m : Int), u⟩ := x
 show K6 0 (is, b, m, u) = some (a2i is b.length m)
 unfold K6 a2i
 dsimp only
 cases is with
 | false =>
  rw [if_pos (by simp), if_neg (by simp)]
  exact congrArg some (decide_eq_decide.2 (by omega))
 | true =>
  rw [if_neg (by simp), if_pos rfl]
  by_cases h : (b.length : Int) ≥ 1
  ·rw [if_pos h]
   exact congrArg some (decide_eq_decide.2 (by omega))
  ·rw [if_neg h]
   exact congrArg some (decide_eq_false (by omega)).symm
theorem a5y {is : Bool} {b : List Int} {m : Int} (hb : b.length ≤ maxLen ∧ bytes b) (hm : -9223372036854775808 ≤ m ∧ m ≤ 9223372036854775807) : F2 (is, b, m, ()) = some (a2i is b.length m) :=
 o8 (ks := A9) (rs := O9) (x := (is, b, m, ())) ⟨trivial, a1Q.2 hb, A4.2 hm, trivial⟩ trivial
theorem b0g : ∀ x r, R4 x = some r → ∃ N, K7 N x = some r := by
 refine s0 (ks := B3) (rs := P2) fun x hw hq => ⟨0, ?_⟩
 obtain ⟨(n : Int), (w : Int), u⟩ := x
 have hn : 0 ≤ n ∧ n ≤ 18446744073709551615 := u3.1 hw.1
 obtain ⟨h0, h1⟩ : 1 ≤ w ∧ w ≤ 8 := hq
 obtain ⟨w, rfl⟩ : ∃ m : Nat, w = m := ⟨w.toNat, by omega⟩
 obtain ⟨n, rfl⟩ : ∃ m : Nat, n = m := ⟨n.toNat, by omega⟩
 show K7 0 ((n : Int), (w : Int), u) = some (b3Y n w)
 unfold K7 b3Y
 dsimp only
 rw [if_neg (by omega), if_neg (by omega)]
 by_cases h : (w : Int) < 8
 ·have e1 : IntKind.i64.wrap (8 * (w : Int)) = ((8 * w : Nat) : Int) := by rw [i5 (by omega) (by omega)]; omega
  rw [if_pos h, e1, if_neg (by omega), a8u (k := .u64) (show 8 * w ≤ 64 by omega), Int.toNat_natCast]
  have e2 : ((n / 2 ^ (8 * w) : Nat) : Int) = (n : Int) / 2 ^ (8 * w) := by simp
  rw [e2]
  by_cases h2 : (n : Int) / 2 ^ (8 * w) ≠ 0
  ·rw [if_pos h2, if_pos ⟨h, h2⟩]
  ·rw [if_neg h2, if_neg (fun g => h2 g.2)]
 ·rw [if_neg h, if_neg (fun g => h g.1)]
theorem b6s {n : Int} (hn : 0 ≤ n ∧ n ≤ 18446744073709551615) {w : Int} (hw : 1 ≤ w ∧ w ≤ 8) : R4 (n, w, ()) = some (b3Y n w) :=
 o8 (ks := B3) (rs := P2) (x := (n, w, ())) ⟨u3.2 hn, (A4 (n := w)).2 (by omega), trivial⟩ hw
theorem b1l : ∀ x r, d7 x = some r → ∃ N, a0r N x = some r := by
 refine s0 (ks := D4) (rs := D5) fun x hw hq => ⟨0, ?_⟩
 obtain ⟨(n : Int), (w : Int), u⟩ := x
 have hn : 0 ≤ n ∧ n ≤ 18446744073709551615 := u3.1 hw.1
 obtain ⟨h0, h1, h2⟩ : 1 ≤ w ∧ w ≤ 8 ∧ b3Y n w = 0 := hq
 obtain ⟨w, rfl⟩ : ∃ m : Nat, w = m := ⟨w.toNat, by omega⟩
 unfold a0r
 dsimp only
 rw [b6s hn ⟨h0, h1⟩, Option.bind_some, h2, if_neg (by omega)]
 exact congrArg (fun o => Option.bind o _) (b54 hn (w := w) (by omega))
theorem a4n {n : Int} (hn : 0 ≤ n ∧ n ≤ 18446744073709551615) {w : Nat} (hw : 1 ≤ w ∧ w ≤ 8) (hf : b3Y n w = 0) : d7 (n, (w : Int), ()) = some (D0 n w, 0) :=
 o8 (ks := D4) (rs := D5) (x := (n, (w : Int), ())) ⟨u3.2 hn, (A4 (n := (w : Int))).2 (by omega), trivial⟩ ⟨by show (1 : Int) ≤ w; omega, by show (w : Int) ≤ 8; omega, hf⟩
theorem a7S {n : Int} (h0 : 0 ≤ n) {w : Nat} (h : n < 2 ^ (8 * w)) : b3Y n w = 0 := by
 unfold b3Y
 rw [if_neg]
 rintro ⟨_, h2⟩
 rw [Int.toNat_natCast] at h2
 exact h2 (Int.ediv_eq_zero_of_lt h0 h)
theorem b7w {n : Int} : b3Y n 8 = 0 := by
 unfold b3Y
 rw [if_neg (by omega)]
end Go.Ax.TryP
set_option linter.unusedVariables false
namespace Go.Ax.TryP
open Go.Proofs
theorem b0O {a : List Int} (h : bytes a) (i : Nat) : 0 ≤ a.getD i 0 ∧ a.getD i 0 ≤ 255 := by
 rw [List.getD_eq_getElem?_getD]
 cases e : a[i]? with
 | none => simp
 | some z => exact h z (List.mem_of_getElem? e)
theorem b6N (v : Int) : (List.replicate 1 (0 : Int)).set 0 v = [v] := rfl
theorem b0e : ∀ x r, R3 x = some r → ∃ N, S6 N x = some r := by
 refine s0 (ks := B0) (rs := P1) fun x hw hq => ⟨x.1.length + 10, ?_⟩
 obtain ⟨(b : List Int), u⟩ := x
 have hq : b.length ≤ 1000000 := hq
 have hb : bytes b := (a1Q.1 hw.1).2
 unfold S6
 dsimp only
 rw [i5 (by omega) (by omega), if_pos (by omega), if_pos (by omega), if_pos (by omega)]
 refine (a8v (s := fun i => (8 * i, b.length, (b.length : Int), (i : Int), 8 * i, (List.range (8 * i)).map (a5z b), b.length, b, ())) (y := (8 * b.length, 8 * b.length, u7 b, ())) b.length ?_ ?_ _ (by omega)).trans ?_
 ·intro i hi kn
  have g1 : (i : Int) < (b.length : Int) := by omega
  have g0 : (0 : Int) ≤ i := by omega
  have hz := b0O hb i
  unfold B8
  simp only [g1, g0, hi, if_true, Int.toNat_natCast]
  refine (a8v (s := fun r => (8 * i + r, b.getD i 0, b.length, (b.length : Int), (i : Int), (r : Int), 8 * i + r, (List.range (8 * i + r)).map (a5z b), b.length, b, ())) (y := (8 * i + 8, b.length, (b.length : Int), (i : Int), 8 * i + 8, (List.range (8 * i + 8)).map (a5z b), b.length, b, ())) 8 ?_ ?_ (b.length + 10) (by omega)).trans ?_
  ·intro r hr kn
   have e2 : (if b7c .u8 (b43 .u8 (b.getD i 0) (r : Int)) 1 = 1 then (1 : Int) else 0) = a5z b (8 * i + r) := by
    rw [b7q hz.1 hz.2 (by omega)]
    unfold a5z
    rw [show (8 * i + r) / 8 = i by omega, show (8 * i + r) % 8 = r by omega]
    have := b7p (b.getD i 0) r
    split <;> omega
   unfold B9
   dsimp only
   rw [if_pos (by omega), if_neg (by omega), if_pos (by omega), e2, i5 (by omega) (by omega), b6N, a7a, show 8 * i + r + 1 = 8 * i + (r + 1) by omega]
   rfl
  ·intro kn
   unfold B9
   dsimp only
   rw [if_neg (by omega)]
  ·simp (disch := omega) only [i5]
   rw [Int.natCast_add, show 8 * i + 8 = 8 * (i + 1) by omega]
   rfl
 ·intro kn
  unfold B8
  simp (disch := omega) only [if_neg]
  rfl
 ·rfl
theorem b6p {b : List Int} (h : b.length ≤ 1000000) (hb : bytes b) : R3 (b, ()) = some (u7 b) := by
 have hM : 1000000 ≤ maxLen := by decide
 exact o8 (ks := B0) (rs := P1) (x := (b, ())) ⟨(a1Q (b := b)).2 ⟨by omega, hb⟩, trivial⟩ h
def a61 (n : Int) (b : List Int) (i : Nat) : Prop := i < 8 * b.length ∧ a5z b i ≠ 0 ∧ n ≤ (i : Int)
theorem a58 {n : Int} {b : List Int} : b05 n b = true ↔ (b.length : Int) = (n + 7) / 8 ∧ ∀ i, ¬ a61 n b i := by
 unfold b05 a61
 simp only [Bool.and_eq_true, decide_eq_true_eq, List.all_eq_true, List.mem_range, Bool.or_eq_true]
 refine and_congr_right fun _ => forall_congr' fun i => ?_
 constructor
 ·rintro h ⟨h1, h2, h3⟩
  rcases h h1 with h | h
  ·exact h2 h
  ·omega
 ·intro h h1
  by_cases h2 : a5z b i = 0
  ·exact .inl h2
  ·exact .inr (by
    rcases Int.lt_or_le (i : Int) n with h3 | h3
    ·exact h3
    ·exact absurd ⟨h1, h2, h3⟩ h)
theorem b4e {n : Int} {b : List Int} (h : ∃ i, a61 n b i) : ∃ i, a61 n b i ∧ ∀ j, j < i → ¬ a61 n b j := by
 obtain ⟨i, hi⟩ := h
 induction i using Nat.strongRecOn with
 | _ i ih =>
  by_cases h : ∃ j, j < i ∧ a61 n b j
  ·obtain ⟨j, h1, h2⟩ := h
   exact ih j h1 h2
  ·exact ⟨i, hi, fun j hj hb => h ⟨j, hj, hb⟩⟩
theorem b4k {F : Nat → (β : Type) → (Int × Nat × Int × Int × Nat × List Int × Unit) → ((Int × Nat × Int × Int × Nat × List Int × Unit) → Option β) → (((Bool × Unit) ⊕ Unit) → Option β) → Option β}
  (hF : ∀ N, F N = fun β x kn ke => if x.2.2.2.1 < x.2.2.1 then (if 0 ≤ x.2.2.2.1 then (if x.2.2.2.1 < ((x.2.1 : Nat) : Int) then (if x.2.2.2.1.toNat < x.2.2.2.2.1 then (if List.getD x.2.2.2.2.2.1 x.2.2.2.1.toNat 0 ≠ 0 then (if x.2.2.2.1 ≥ x.1 then ke (.inl (false, ())) else kn (x.1, x.2.1, x.2.2.1, IntKind.i64.wrap (x.2.2.2.1 + 1), x.2.2.2.2.1, x.2.2.2.2.2.1, ())) else kn (x.1, x.2.1, x.2.2.1, IntKind.i64.wrap (x.2.2.2.1 + 1), x.2.2.2.2.1, x.2.2.2.2.2.1, ())) else none) else none) else none) else ke (.inr ()))
  {n : Int} {b : List Int} (hl : b.length ≤ 1000000) {N : Nat} (hN : 8 * b.length < N) {β : Type} (K : ((Bool × Unit) ⊕ Unit) → Option β) :
  ((∃ i, a61 n b i) → a51 (F N) N (n, (u7 b).length, (((u7 b).length : Nat) : Int), (0 : Int), (u7 b).length, u7 b, ()) K = K (.inl (false, ()))) ∧
  ((¬ ∃ i, a61 n b i) → a51 (F N) N (n, (u7 b).length, (((u7 b).length : Nat) : Int), (0 : Int), (u7 b).length, u7 b, ()) K = K (.inr ())) := by
 have e := b2F b
 have j6 : ∀ (i : Nat), i < 8 * b.length → ¬ a61 n b i → ∀ (kn : (Int × Nat × Int × Int × Nat × List Int × Unit) → Option β) (ke : ((Bool × Unit) ⊕ Unit) → Option β), F N β (n, (u7 b).length, (((u7 b).length : Nat) : Int), (i : Int), (u7 b).length, u7 b, ()) kn ke = kn (n, (u7 b).length, (((u7 b).length : Nat) : Int), ((i + 1 : Nat) : Int), (u7 b).length, u7 b, ()) := by
  intro i hi hb kn ke
  rw [hF]
  dsimp only
  rw [if_pos (by omega), if_pos (by omega), if_pos (by omega), Int.toNat_natCast, if_pos (by omega), a5A hi, i5 (by omega) (by omega)]
  by_cases h2 : a5z b i ≠ 0
  ·rw [if_pos h2, if_neg (fun h3 => hb ⟨hi, h2, h3⟩)]
   rfl
  ·rw [if_neg h2]
   rfl
 refine ⟨fun hex => ?_, fun hex => ?_⟩
 ·obtain ⟨i, hi, hmin⟩ := b4e hex
  refine X3 (F := F N) (s := fun i => (n, (u7 b).length, (((u7 b).length : Nat) : Int), (i : Int), (u7 b).length, u7 b, ())) (y := .inl (false, ())) i rfl ?_ ?_ N (by have := hi.1; omega)
  ·exact fun j hj kn => j6 j (by have := hi.1; omega) (hmin j hj) kn K
  ·intro kn
   obtain ⟨k1, k2, k3⟩ := hi
   rw [hF]
   dsimp only
   rw [if_pos (by omega), if_pos (by omega), if_pos (by omega), Int.toNat_natCast, if_pos (by omega), a5A k1, if_pos k2, if_pos k3]
 ·refine X3 (F := F N) (s := fun i => (n, (u7 b).length, (((u7 b).length : Nat) : Int), (i : Int), (u7 b).length, u7 b, ())) (y := .inr ()) (8 * b.length) rfl ?_ ?_ N (by omega)
  ·exact fun j hj kn => j6 j hj (fun h => hex ⟨j, h⟩) kn K
  ·intro kn
   rw [hF]
   dsimp only
   rw [if_neg (by omega)]
theorem b0a : ∀ x r, Q9 x = some r → ∃ N, K3 N x = some r := by
 refine s0 (ks := A6) (rs := O6) fun x hw hq => ?_
 obtain ⟨(n : Int), (b : List Int), u⟩ := x
 obtain ⟨h0, h1⟩ : 0 ≤ n ∧ n ≤ 1000 := hq
 have hb : bytes b := (a1Q.1 hw.2.1).2
 refine ⟨8 * b.length + 1, ?_⟩
 show K3 (8 * b.length + 1) (n, b, u) = some (b05 n b)
 unfold K3
 dsimp only
 rw [i5 (x := n + 7) (by omega) (by omega), b5X (by omega), i5 (by omega) (by omega)]
 by_cases hl : (b.length : Int) = (n + 7) / 8
 ·rw [if_neg (fun h => h hl), b6p (by omega) hb, Option.bind_some]
  obtain ⟨k1, k2⟩ := b4k (F := I2) (fun _ => rfl) (n := n) (b := b) (by omega) (N := 8 * b.length + 1) (by omega) (fun y => match y with | .inl y2 => some y2.1 | .inr _ => some true)
  by_cases hex : ∃ i, a61 n b i
  ·refine (k1 hex).trans (congrArg some ?_)
   obtain ⟨i, hi⟩ := hex
   exact (Bool.eq_false_iff.2 fun h => (a58.1 h).2 i hi).symm
  ·exact (k2 hex).trans (congrArg some (a58.2 ⟨hl, fun i hi => hex ⟨i, hi⟩⟩).symm)
 ·rw [if_pos hl]
  exact congrArg some (Bool.eq_false_iff.2 fun h => hl (a58.1 h).1).symm
theorem b3I {n : Int} {b : List Int} (hn : 0 ≤ n ∧ n ≤ 1000) (hb : b.length ≤ maxLen ∧ bytes b) : Q9 (n, b, ()) = some (b05 n b) :=
 o8 (ks := A6) (rs := O6) (x := (n, b, ())) ⟨(A4 (n := n)).2 (by omega), a1Q.2 hb, trivial⟩ hn
end Go.Ax.TryP
set_option linter.unusedVariables false
namespace Go.Ax.TryP
open Go.Proofs
def a0T (c : Ms) : Prop := (-9223372036854775808 ≤ c.1 ∧ c.1 ≤ 9223372036854775807) ∧ (-9223372036854775808 ≤ c.2.1 ∧ c.2.1 ≤ 9223372036854775807) ∧ (-9223372036854775808 ≤ c.2.2.1 ∧ c.2.2.1 ≤ 9223372036854775807) ∧ (0 ≤ c.2.2.2.1 ∧ c.2.2.2.1 ≤ 4294967295) ∧ (0 ≤ c.2.2.2.2.1 ∧ c.2.2.2.2.1 ≤ 4294967295) ∧ (0 ≤ c.2.2.2.2.2.1 ∧ c.2.2.2.2.2.1 ≤ 18446744073709551615) ∧ (0 ≤ c.2.2.2.2.2.2.1 ∧ c.2.2.2.2.2.2.1 ≤ 18446744073709551615)
 ∧ (-9223372036854775808 ≤ c.2.2.2.2.2.2.2.1 ∧ c.2.2.2.2.2.2.2.1 ≤ 9223372036854775807) ∧ (-9223372036854775808 ≤ c.2.2.2.2.2.2.2.2.1 ∧ c.2.2.2.2.2.2.2.2.1 ≤ 9223372036854775807)
 ∧ (c.2.2.2.2.2.2.2.2.2.1.length ≤ maxLen ∧ bytes c.2.2.2.2.2.2.2.2.2.1) ∧ (c.2.2.2.2.2.2.2.2.2.2.1.length ≤ maxLen ∧ bytes c.2.2.2.2.2.2.2.2.2.2.1) ∧ (c.2.2.2.2.2.2.2.2.2.2.2.1.length ≤ maxLen ∧ bytes c.2.2.2.2.2.2.2.2.2.2.2.1)
theorem a2h {c : Ms} : Kd.wf (.cat msL) c ↔ a0T c := by
 have h1 : ∀ n, y8 .i64 n ↔ -9223372036854775808 ≤ n ∧ n ≤ 9223372036854775807 := fun _ => A4
 have h2 : ∀ n, y8 .u32 n ↔ 0 ≤ n ∧ n ≤ 4294967295 := fun _ => b24
 have h3 : ∀ n, y8 .u64 n ↔ 0 ≤ n ∧ n ≤ 18446744073709551615 := fun _ => u3
 have h4 : ∀ n, y8 .u8 n ↔ 0 ≤ n ∧ n ≤ 255 := fun _ => a8B
 simp only [Kd.wf, b3X, FK.wf, a0T, bytes, h1, h2, h3, h4, and_true]
theorem b6c (c : Ms) : (c.1, c.2.1, c.2.2.1, c.2.2.2.1, c.2.2.2.2.1, c.2.2.2.2.2.1, c.2.2.2.2.2.2.1, c.2.2.2.2.2.2.2.1, c.2.2.2.2.2.2.2.2.1, c.2.2.2.2.2.2.2.2.2.1, c.2.2.2.2.2.2.2.2.2.2.1, c.2.2.2.2.2.2.2.2.2.2.2.1, ()) = c := rfl
theorem b2y {a b : Int} : a :: b :: [] = List.replicate 2 (0 : Int) ↔ a = 0 ∧ b = 0 := by simp
theorem b0c : ∀ x r, R1 x = some r → ∃ N, K5 N x = some r := by
 refine s0 (ks := A8) (rs := O8) fun x hw hq => ⟨0, ?_⟩
 obtain ⟨(c : Ms), u⟩ := x
 obtain ⟨h1, _, _, _, _, h6, h7, _⟩ := a2h.1 hw.1
 show K5 0 (c, u) = some (a2N c)
 unfold K5 a2N
 dsimp only
 rw [a7K h1 (by omega), Option.bind_some]
 cases u6 c.1 114 with
 | true =>
  rw [if_neg (by simp), if_pos rfl, b7m h6 h7, Option.bind_some]
  cases b44 c.2.2.2.2.2.1 c.2.2.2.2.2.2.1 <;> rfl
 | false =>
  rw [if_pos (by simp), if_neg (show ¬ (false = true) by simp)]
  by_cases h : c.2.2.2.2.2.1 = 0 ∧ c.2.2.2.2.2.2.1 = 0
  ·rw [if_pos (b2y.2 h)]
   exact congrArg some (decide_eq_decide.2 (by simp [h.1, h.2]))
  ·rw [if_neg (fun g => h (b2y.1 g))]
   exact congrArg some (decide_eq_false (fun g => h ⟨g.1, g.2.1⟩)).symm
theorem b3K {c : Ms} (h : a0T c) : R1 (c, ()) = some (a2N c) := o8 (ks := A8) (rs := O8) (x := (c, ())) ⟨a2h.2 h, trivial⟩ trivial
theorem b0b : ∀ x r, R0 x = some r → ∃ N, K4 N x = some r := by
 refine s0 (ks := A7) (rs := O7) fun x hw hq => ⟨0, ?_⟩
 obtain ⟨(c : Ms), u⟩ := x
 obtain ⟨h1, _⟩ := a2h.1 hw.1
 show K4 0 (c, u) = some (P5 c)
 unfold K4 P5
 dsimp only
 rw [a7K h1 (by omega), Option.bind_some]
 have e1 : decide (u6 c.1 110 = true) = u6 c.1 110 := by cases u6 c.1 110 <;> rfl
 rw [e1]
 by_cases k1 : u6 c.1 110 = decide (c.2.2.2.2.2.2.2.2.1 ≠ 0)
 ·rw [if_neg (fun h => h k1), decide_eq_true k1, Bool.true_and]
  by_cases k2 : c.2.2.2.2.2.2.2.2.1 < 0
  ·rw [if_pos k2, decide_eq_false (by omega), Bool.false_and]
  by_cases k3 : c.2.2.2.2.2.2.2.2.1 > 256
  ·rw [if_neg k2, if_pos k3, decide_eq_false (by omega), Bool.false_and]
  rw [if_neg k2, if_neg k3, decide_eq_true (show 0 ≤ c.2.2.2.2.2.2.2.2.1 ∧ c.2.2.2.2.2.2.2.2.1 ≤ 256 by omega), Bool.true_and, a7K h1 (by omega), Option.bind_some]
  cases u6 c.1 112 with
  | false => rw [if_pos (by simp), if_neg (by simp)]
  | true =>
   rw [if_neg (by simp), if_pos rfl]
   by_cases k4 : c.2.2.2.2.2.2.2.1 ≥ 0
   ·rw [if_pos k4]
    exact congrArg some (decide_eq_decide.2 (by omega))
   ·rw [if_neg k4]
    exact congrArg some (decide_eq_false (by omega)).symm
 ·rw [if_pos k1, decide_eq_false k1, Bool.false_and]
theorem b3J {c : Ms} (h : a0T c) : R0 (c, ()) = some (P5 c) := o8 (ks := A7) (rs := O7) (x := (c, ())) ⟨a2h.2 h, trivial⟩ trivial
theorem b6z (b : Bool) : decide (b = true) = b := by cases b <;> rfl
theorem b2o {c : Ms} (h : P5 c = true) : 0 ≤ c.2.2.2.2.2.2.2.2.1 ∧ c.2.2.2.2.2.2.2.2.1 ≤ 256 := by
 unfold P5 at h
 simp only [Bool.and_eq_true, decide_eq_true_eq] at h
 exact h.2.1
theorem b1k : ∀ x r, s7 x = some r → ∃ N, O2 N x = some r := by
 refine s0 (ks := D3) (rs := U1) fun x hw hq => ⟨0, ?_⟩
 obtain ⟨(c : Ms), u⟩ := x
 have hc : a0T c := a2h.1 hw.1
 have hc2 := hc
 obtain ⟨h1, h2, h3, _, _, _, _, _, _, h10, h11, h12⟩ := hc2
 show O2 0 (c, u) = some (H1 c)
 have hmost : -9223372036854775808 ≤ a7c c.1 ∧ a7c c.1 ≤ 9223372036854775807 := by unfold a7c; split <;> omega
 unfold O2 H1
 dsimp only
 rw [b6c, b3E h1, Option.bind_some]
 by_cases hn : a4V c.1 = ⟨#[]⟩
 ·rw [if_pos hn, if_pos hn]
 rw [if_neg hn, if_neg hn, a9s h2, Option.bind_some]
 unfold okS
 cases b40 c.2.1 with
 | false => rfl
 | true =>
 rw [if_pos rfl, a9s h3, Option.bind_some, Bool.true_and]
 cases b40 c.2.2.1 with
 | false => rfl
 | true =>
 rw [if_pos rfl, Bool.true_and]
 by_cases hne : c.2.1 ≠ c.2.2.1
 ·rw [if_pos hne, decide_eq_true hne, Bool.true_and, b3K hc, Option.bind_some]
  cases a2N c with
  | false => rfl
  | true =>
  rw [if_pos rfl, Bool.true_and, b3J hc, Option.bind_some]
  cases hp : P5 c with
  | false => rfl
  | true =>
  rw [if_pos rfl, Bool.true_and, a7K h1 (by omega), Option.bind_some, b6v h1, Option.bind_some, b6z, a5y h10 hmost, Option.bind_some]
  cases a2i (u6 c.1 100) c.2.2.2.2.2.2.2.2.2.1.length (a7c c.1) with
  | false => rfl
  | true =>
  rw [if_pos rfl, Bool.true_and, a7K h1 (by omega), Option.bind_some, b6z, a5y h11 (by omega), Option.bind_some]
  cases a2i (u6 c.1 99) c.2.2.2.2.2.2.2.2.2.2.1.length 6446 with
  | false => rfl
  | true =>
  rw [if_pos rfl, Bool.true_and, a7K h1 (by omega), Option.bind_some, b6z, a5y h12 (by omega), Option.bind_some]
  cases a2i (u6 c.1 115) c.2.2.2.2.2.2.2.2.2.2.2.1.length 3309 with
  | false => rfl
  | true =>
  rw [if_neg (by simp), Bool.true_and]
  by_cases h4 : c.1 = 4
  ·have hpl := b2o hp
   rw [if_pos h4, if_pos h4, b3I (by omega) h10, Option.bind_some]
   cases b05 c.2.2.2.2.2.2.2.2.1 c.2.2.2.2.2.2.2.2.2.1 <;> rfl
  ·rw [if_neg h4, if_neg h4]
   rfl
 ·rw [if_neg hne, decide_eq_false hne]
  rfl
theorem a8i {c : Ms} (h : a0T c) : s7 (c, ()) = some (H1 c) := o8 (ks := D3) (rs := U1) (x := (c, ())) ⟨a2h.2 h, trivial⟩ trivial
theorem b7P {c : Ms} (h : okS c = true) : b7x c := by
 have hp : P5 c = true := by
  unfold okS at h
  simp only [Bool.and_eq_true] at h
  exact h.2.2.2.2.1
 have hpl := b2o hp
 have hw : ∀ (is : Bool) (n : Nat) (m : Int), m ≤ 60000 → a2i is n m = true → n ≤ 60000 := by
  intro is n m hm hw
  unfold a2i at hw
  split at hw
  ·simp only [decide_eq_true_eq] at hw; omega
  ·simp only [decide_eq_true_eq] at hw; omega
 have hm : a7c c.1 ≤ 60000 := by unfold a7c; split <;> omega
 have hpart : 0 ≤ c.2.2.2.2.2.2.2.1 ∧ c.2.2.2.2.2.2.2.1 ≤ 65535 := by
  unfold P5 at hp
  simp only [Bool.and_eq_true] at hp
  have := hp.2.2
  split at this
  ·simp only [decide_eq_true_eq] at this; omega
  ·simp only [decide_eq_true_eq] at this; omega
 unfold okS at h
 simp only [Bool.and_eq_true, b40, decide_eq_true_eq] at h
 obtain ⟨a1, a2, _, _, _, a6, a7, a8, _⟩ := h
 exact ⟨by omega, by omega, hpart, by omega, hw _ _ _ hm a6, hw _ _ _ (by omega) a7, hw _ _ _ (by omega) a8⟩
end Go.Ax.TryP
set_option linter.unusedVariables false
set_option linter.unusedSimpArgs false
namespace Go.Ax.TryP
open Go.Proofs
theorem w3 {a b : List Int} : bytes (a ++ b) ↔ bytes a ∧ bytes b := by
 simp only [bytes, List.mem_append]
 exact ⟨fun h => ⟨fun z hz => h z (.inl hz), fun z hz => h z (.inr hz)⟩, fun h z hz => hz.elim (h.1 z) (h.2 z)⟩
theorem I7 (k : Int) : List.set (List.replicate 1 (0 : Int)) 0 (IntKind.u8.wrap k) = [k % 256] := by rw [a6Z]; rfl
theorem F7 (k : Int) : bytes [k % 256] := fun z hz => by rw [List.mem_singleton.1 hz]; omega
theorem V5 : bytes [] := fun z hz => by cases hz
theorem a8w {a b d : List Int} (ha : a.length ≤ 300000) (hb : b.length ≤ 300000) (hd : d.length ≤ 300000) (ka : bytes a) (kb : bytes b) (kd : bytes d) : o7 ([a, b, d], ()) = some (a ++ (b ++ d)) := by
 have hM : 1000000 ≤ maxLen := by decide
 rw [b6q ⟨by simp, by simp only [List.flatten_cons, List.flatten_nil, List.length_append, List.length_nil]; omega⟩ ⟨by simp only [List.length_cons, List.length_nil]; omega, fun zs hz => ?_⟩]
 ·simp
 ·simp only [List.mem_cons, List.not_mem_nil, or_false] at hz
  rcases hz with rfl | rfl | rfl
  ·exact ⟨by omega, ka⟩
  ·exact ⟨by omega, kb⟩
  ·exact ⟨by omega, kd⟩
structure Bs (fr to tid key lo hi pt pts : Int) (d ce sg : List Int) : Prop where
 b2 : d7 (IntKind.u64.wrap fr, 1, ()) = some (D0 fr 1, 0)
 b3 : d7 (IntKind.u64.wrap to, 1, ()) = some (D0 to 1, 0)
 b4 : d7 (IntKind.u64.wrap tid, 4, ()) = some (D0 tid 4, 0)
 b5 : d7 (IntKind.u64.wrap key, 4, ()) = some (D0 key 4, 0)
 b6 : d7 (lo, 8, ()) = some (D0 lo 8, 0)
 b7 : d7 (hi, 8, ()) = some (D0 hi 8, 0)
 b8 : d7 (IntKind.u64.wrap pt, 2, ()) = some (D0 pt 2, 0)
 b9 : d7 (IntKind.u64.wrap pts, 2, ()) = some (D0 pts 2, 0)
 u10 : o5 (IntKind.u16.wrap (d.length : Int), ()) = some (D0 (d.length : Int) 2)
 u11 : o5 (IntKind.u16.wrap (ce.length : Int), ()) = some (D0 (ce.length : Int) 2)
 u12 : o5 (IntKind.u16.wrap (sg.length : Int), ()) = some (D0 (sg.length : Int) 2)
 o2 : D0 fr 1 = [fr % 256]
 o3 : D0 to 1 = [to % 256]
 l10 : d.length ≤ 60000
 l11 : ce.length ≤ 60000
 l12 : sg.length ≤ 60000
 y10 : bytes d
 y11 : bytes ce
 y12 : bytes sg
theorem b8k {fr to tid key lo hi pt pts : Int} {d ce sg : List Int} (B : Bs fr to tid key lo hi pt pts d ce sg) (all : Bool) : ([1 % 256] ++ D0 fr 1 ++ D0 to 1 ++ D0 tid 4 ++ D0 key 4 ++ D0 lo 8 ++ D0 hi 8 ++ (D0 (d.length : Int) 2 ++ d)) ++ (D0 (ce.length : Int) 2 ++ ce) = w7 (1, fr, to, tid, key, lo, hi, pt, pts, d, ce, sg, ()) all := by
 simp [w7, a1i, a3W, v8, B.o2, B.o3]
theorem b7y {fr to tid key lo hi pt pts : Int} {d ce sg : List Int} (B : Bs fr to tid key lo hi pt pts d ce sg) (all : Bool) : j4 0 ((1, fr, to, tid, key, lo, hi, pt, pts, d, ce, sg, ()), all, ()) = some (w7 (1, fr, to, tid, key, lo, hi, pt, pts, d, ce, sg, ()) all) := by
 have l10 := B.l10
 have l11 := B.l11
 have l12 := B.l12
 unfold j4
 dsimp only
 rw [if_pos (show (1 : Int) = 1 from rfl)]
 rw [if_pos (by omega), if_pos (by omega), if_pos (by omega), if_pos (by omega), B.b2, Option.bind_some, if_pos (by simp only [i2]; omega), B.b3, Option.bind_some, if_pos (by simp only [i2]; omega), B.b4, Option.bind_some, if_pos (by simp only [i2]; omega), B.b5, Option.bind_some, if_pos (by simp only [i2]; omega), B.b6, Option.bind_some, if_pos (by simp only [i2]; omega), B.b7, Option.bind_some, if_pos (by simp only [i2]; omega), B.u10, Option.bind_some, I7]
 dsimp only
 rw [a8w (by simp only [List.length_append, i2, List.length_cons, List.length_nil]; omega) (by rw [i2]; omega) (by omega) (by simp only [w3, j8, F7, and_self]) (j8 _ _) B.y10, Option.bind_some, B.u11, Option.bind_some]
 rw [a8w (by simp only [List.length_append, i2, List.length_cons, List.length_nil]; omega) (by rw [i2]; omega) (by omega) (by simp only [w3, j8, F7, B.y10, and_self]) (j8 _ _) B.y11, Option.bind_some]
 exact congrArg some (b8k B all)
theorem b5p {fr to tid key lo hi pt pts : Int} {d ce sg : List Int} (B : Bs fr to tid key lo hi pt pts d ce sg) : j4 0 ((2, fr, to, tid, key, lo, hi, pt, pts, d, ce, sg, ()), true, ()) = some (w7 (2, fr, to, tid, key, lo, hi, pt, pts, d, ce, sg, ()) true) := by
 have l10 := B.l10
 have l11 := B.l11
 have l12 := B.l12
 unfold j4
 dsimp only
 rw [if_neg (by omega), if_pos (show (2 : Int) = 2 from rfl)]
 rw [if_pos (by omega), if_pos (by omega), if_pos (by omega), if_pos rfl]
 simp (disch := omega) only [if_pos, B.b2, B.b3, B.b4, B.b5, B.b6, B.b7, B.u11, B.u12, Option.bind_some, i2, I7]
 rw [a8w (by simp only [List.length_append, i2, List.length_cons, List.length_nil]; omega) (by rw [i2]; omega) (by omega) (by simp only [w3, j8, F7, and_self]) (j8 _ _) B.y11, Option.bind_some]
 rw [a8w (by simp only [List.length_append, i2, List.length_cons, List.length_nil]; omega) (by rw [i2]; omega) (by omega) (by simp only [w3, j8, F7, B.y11, and_self]) (j8 _ _) B.y12, Option.bind_some]
 simp [w7, a1i, a3W, v8, B.o2, B.o3]
theorem b5o {fr to tid key lo hi pt pts : Int} {d ce sg : List Int} (B : Bs fr to tid key lo hi pt pts d ce sg) : j4 0 ((2, fr, to, tid, key, lo, hi, pt, pts, d, ce, sg, ()), false, ()) = some (w7 (2, fr, to, tid, key, lo, hi, pt, pts, d, ce, sg, ()) false) := by
 have l10 := B.l10
 have l11 := B.l11
 have l12 := B.l12
 unfold j4
 dsimp only
 rw [if_neg (by omega), if_pos (show (2 : Int) = 2 from rfl)]
 rw [if_pos (by omega), if_pos (by omega), if_pos (by omega), if_neg (show ¬ (false = true) by simp)]
 simp (disch := omega) only [if_pos, B.b2, B.b3, B.b4, B.b5, B.b6, B.b7, B.u11, B.u12, Option.bind_some, i2, I7]
 rw [a8w (by simp only [List.length_append, i2, List.length_cons, List.length_nil]; omega) (by rw [i2]; omega) (by omega) (by simp only [w3, j8, F7, and_self]) (j8 _ _) B.y11, Option.bind_some]
 simp [w7, a1i, a3W, v8, B.o2, B.o3]
theorem b7z {fr to tid key lo hi pt pts : Int} {d ce sg : List Int} (B : Bs fr to tid key lo hi pt pts d ce sg) (all : Bool) : j4 0 ((3, fr, to, tid, key, lo, hi, pt, pts, d, ce, sg, ()), all, ()) = some (w7 (3, fr, to, tid, key, lo, hi, pt, pts, d, ce, sg, ()) all) := by
 have l10 := B.l10
 have l11 := B.l11
 have l12 := B.l12
 unfold j4
 dsimp only
 rw [if_neg (by omega), if_neg (by omega), if_pos (show (3 : Int) = 3 from rfl)]
 simp (disch := omega) only [if_pos, B.b2, B.b3, B.b4, B.b8, B.b9, B.u10, Option.bind_some, i2, I7]
 rw [a8w (by simp only [List.length_append, i2, List.length_cons, List.length_nil]; omega) (by rw [i2]; omega) (by omega) (by simp only [w3, j8, F7, and_self]) (j8 _ _) B.y10, Option.bind_some]
 simp [w7, a1i, a3W, v8, B.o2, B.o3]
theorem b7A {fr to tid key lo hi pt pts : Int} {d ce sg : List Int} (B : Bs fr to tid key lo hi pt pts d ce sg) (all : Bool) : j4 0 ((4, fr, to, tid, key, lo, hi, pt, pts, d, ce, sg, ()), all, ()) = some (w7 (4, fr, to, tid, key, lo, hi, pt, pts, d, ce, sg, ()) all) := by
 have l10 := B.l10
 have l11 := B.l11
 have l12 := B.l12
 unfold j4
 dsimp only
 rw [if_neg (by omega), if_neg (by omega), if_neg (by omega), if_pos (show (4 : Int) = 4 from rfl)]
 simp (disch := omega) only [if_pos, B.b2, B.b3, B.b4, B.b9, B.u10, Option.bind_some, i2, I7]
 rw [a8w (by simp only [List.length_append, i2, List.length_cons, List.length_nil]; omega) (by rw [i2]; omega) (by omega) (by simp only [w3, j8, F7, and_self]) (j8 _ _) B.y10, Option.bind_some]
 simp [w7, a1i, a3W, v8, B.o2, B.o3]
theorem b5r {fr to tid key lo hi pt pts : Int} {d ce sg : List Int} (B : Bs fr to tid key lo hi pt pts d ce sg) : j4 0 ((5, fr, to, tid, key, lo, hi, pt, pts, d, ce, sg, ()), true, ()) = some (w7 (5, fr, to, tid, key, lo, hi, pt, pts, d, ce, sg, ()) true) := by
 have l10 := B.l10
 have l11 := B.l11
 have l12 := B.l12
 unfold j4
 dsimp only
 rw [if_neg (by omega), if_neg (by omega), if_neg (by omega), if_neg (by omega), if_pos (show (5 : Int) = 5 from rfl)]
 rw [if_pos (by omega), if_pos (by omega), if_pos rfl]
 simp (disch := omega) only [if_pos, B.b2, B.b3, B.b4, B.b5, B.b6, B.b7, B.u12, Option.bind_some, i2, I7]
 rw [a8w (by simp only [List.length_append, i2, List.length_cons, List.length_nil]; omega) (by rw [i2]; omega) (by omega) (by simp only [w3, j8, F7, and_self]) (j8 _ _) B.y12, Option.bind_some]
 simp [w7, a1i, a3W, v8, B.o2, B.o3]
theorem b5q {fr to tid key lo hi pt pts : Int} {d ce sg : List Int} (B : Bs fr to tid key lo hi pt pts d ce sg) : j4 0 ((5, fr, to, tid, key, lo, hi, pt, pts, d, ce, sg, ()), false, ()) = some (w7 (5, fr, to, tid, key, lo, hi, pt, pts, d, ce, sg, ()) false) := by
 have l10 := B.l10
 have l11 := B.l11
 have l12 := B.l12
 unfold j4
 dsimp only
 rw [if_neg (by omega), if_neg (by omega), if_neg (by omega), if_neg (by omega), if_pos (show (5 : Int) = 5 from rfl)]
 rw [if_pos (by omega), if_pos (by omega), if_neg (show ¬ (false = true) by simp)]
 simp (disch := omega) only [if_pos, B.b2, B.b3, B.b4, B.b5, B.b6, B.b7, B.u12, Option.bind_some, i2, I7]
 simp [w7, a1i, a3W, v8, B.o2, B.o3]
theorem b5t {fr to tid key lo hi pt pts : Int} {d ce sg : List Int} (B : Bs fr to tid key lo hi pt pts d ce sg) : j4 0 ((6, fr, to, tid, key, lo, hi, pt, pts, d, ce, sg, ()), true, ()) = some (w7 (6, fr, to, tid, key, lo, hi, pt, pts, d, ce, sg, ()) true) := by
 have l10 := B.l10
 have l11 := B.l11
 have l12 := B.l12
 unfold j4
 dsimp only
 rw [if_neg (by omega), if_neg (by omega), if_neg (by omega), if_neg (by omega), if_neg (by omega), if_pos (show (6 : Int) = 6 from rfl)]
 rw [if_pos (by omega), if_pos (by omega), if_pos rfl]
 simp (disch := omega) only [if_pos, B.b2, B.b3, B.b4, B.b5, B.b6, B.b7, B.u12, Option.bind_some, i2, I7]
 rw [a8w (by simp only [List.length_append, i2, List.length_cons, List.length_nil]; omega) (by rw [i2]; omega) (by omega) (by simp only [w3, j8, F7, and_self]) (j8 _ _) B.y12, Option.bind_some]
 simp [w7, a1i, a3W, v8, B.o2, B.o3]
theorem b5s {fr to tid key lo hi pt pts : Int} {d ce sg : List Int} (B : Bs fr to tid key lo hi pt pts d ce sg) : j4 0 ((6, fr, to, tid, key, lo, hi, pt, pts, d, ce, sg, ()), false, ()) = some (w7 (6, fr, to, tid, key, lo, hi, pt, pts, d, ce, sg, ()) false) := by
 have l10 := B.l10
 have l11 := B.l11
 have l12 := B.l12
 unfold j4
 dsimp only
 rw [if_neg (by omega), if_neg (by omega), if_neg (by omega), if_neg (by omega), if_neg (by omega), if_pos (show (6 : Int) = 6 from rfl)]
 rw [if_pos (by omega), if_pos (by omega), if_neg (show ¬ (false = true) by simp)]
 simp (disch := omega) only [if_pos, B.b2, B.b3, B.b4, B.b5, B.b6, B.b7, B.u12, Option.bind_some, i2, I7]
 simp [w7, a1i, a3W, v8, B.o2, B.o3]
theorem b7B {fr to tid key lo hi pt pts : Int} {d ce sg : List Int} (B : Bs fr to tid key lo hi pt pts d ce sg) (all : Bool) {k : Int} (g : k ≠ 1 ∧ k ≠ 2 ∧ k ≠ 3 ∧ k ≠ 4 ∧ k ≠ 5 ∧ k ≠ 6) : j4 0 ((k, fr, to, tid, key, lo, hi, pt, pts, d, ce, sg, ()), all, ()) = some (w7 (k, fr, to, tid, key, lo, hi, pt, pts, d, ce, sg, ()) all) := by
 obtain ⟨g1, g2, g3, g4, g5, g6⟩ := g
 unfold j4
 dsimp only
 rw [if_neg g1, if_neg g2, if_neg g3, if_neg g4, if_neg g5, if_neg g6]
 simp (disch := omega) only [if_pos, B.b2, B.b3, B.b4, Option.bind_some, i2, I7]
 simp [w7, a1i, a3W, g1, g2, g3, g4, g5, g6, B.o2, B.o3]
theorem b27 : ∀ x r, a1W x = some r → ∃ N, j4 N x = some r := by
 refine s0 (ks := G4) (rs := G5) fun x hw hq => ⟨0, ?_⟩
 obtain ⟨(c : Ms), (all : Bool), u⟩ := x
 obtain ⟨h1, h2, h3, h4, h5, h6, h7, h8, h9, h10, h11, h12⟩ := a2h.1 hw.1
 obtain ⟨f2, f3, f8, f9, f10, f11, f12⟩ : b7x c := hq
 show j4 0 (c, all, u) = some (w7 c all)
 obtain ⟨k, fr, to, tid, key, lo, hi, pt, pts, d, ce, sg, ⟨⟩⟩ := c
 dsimp only at h1 h2 h3 h4 h5 h6 h7 h8 h9 h10 h11 h12 f2 f3 f8 f9 f10 f11 f12
 have o1 : ∀ n : Int, D0 n 1 = [n % 256] := fun n => by simp [D0]
 have B : Bs fr to tid key lo hi pt pts d ce sg := by
  refine ⟨?_, ?_, ?_, ?_, a4n h6 (w := 8) (by omega) b7w, a4n h7 (w := 8) (by omega) b7w, ?_, ?_, ?_, ?_, ?_, o1 fr, o1 to, f10, f11, f12, h10.2, h11.2, h12.2⟩
  ·rw [L1 (by omega) (by omega)]; exact a4n (by omega) (w := 1) (by omega) (a7S (by omega) (w := 1) (by omega))
  ·rw [L1 (by omega) (by omega)]; exact a4n (by omega) (w := 1) (by omega) (a7S (by omega) (w := 1) (by omega))
  ·rw [L1 (by omega) (by omega)]; exact a4n (by omega) (w := 4) (by omega) (a7S (by omega) (w := 4) (by omega))
  ·rw [L1 (by omega) (by omega)]; exact a4n (by omega) (w := 4) (by omega) (a7S (by omega) (w := 4) (by omega))
  ·rw [L1 (by omega) (by omega)]; exact a4n (by omega) (w := 2) (by omega) (a7S (by omega) (w := 2) (by omega))
  ·rw [L1 (by omega) (by omega)]; exact a4n (by omega) (w := 2) (by omega) (a7S (by omega) (w := 2) (by omega))
  ·rw [a1R, show (d.length : Int) % 65536 = d.length by omega]; exact b3G (by omega)
  ·rw [a1R, show (ce.length : Int) % 65536 = ce.length by omega]; exact b3G (by omega)
  ·rw [a1R, show (sg.length : Int) % 65536 = sg.length by omega]; exact b3G (by omega)
 have hk : k = 1 ∨ k = 2 ∨ k = 3 ∨ k = 4 ∨ k = 5 ∨ k = 6 ∨ (k ≠ 1 ∧ k ≠ 2 ∧ k ≠ 3 ∧ k ≠ 4 ∧ k ≠ 5 ∧ k ≠ 6) := by omega
 rcases hk with rfl | rfl | rfl | rfl | rfl | rfl | hk
 ·exact b7y B all
 ·cases all with
  | true => exact b5p B
  | false => exact b5o B
 ·exact b7z B all
 ·exact b7A B all
 ·cases all with
  | true => exact b5r B
  | false => exact b5q B
 ·cases all with
  | true => exact b5t B
  | false => exact b5s B
 ·exact b7B B all hk
theorem b6t {c : Ms} (h : a0T c) (hf : b7x c) (all : Bool) : a1W (c, all, ()) = some (w7 c all) := o8 (ks := G4) (rs := G5) (x := (c, all, ())) ⟨a2h.2 h, trivial, trivial⟩ hf
end Go.Ax.TryP
set_option linter.unusedVariables false
namespace Go.Ax.TryP
open Go.Proofs
theorem a8l {c : Ms} (h : H1 c = 0) : okS c = true := by
 unfold H1 at h
 split at h
 ·omega
 ·split at h
  ·assumption
  ·omega
theorem b4v : ∀ x r, J3 x = some r → ∃ N, a1B N x = some r := by
 refine s0 (ks := J8) (rs := J9) fun x hw hq => ⟨0, ?_⟩
 obtain ⟨(c : Ms), u⟩ := x
 have hc : a0T c := a2h.1 hw.1
 show a1B 0 (c, u) = some (b2p c)
 unfold a1B b2p
 dsimp only
 rw [b6c, a8i hc, Option.bind_some]
 by_cases h : H1 c = 0
 ·rw [if_neg (fun g => g h), if_pos h, b6t hc (b7P (a8l h)) true, Option.bind_some]
 ·rw [if_pos h, if_neg h]
theorem b3F {c : Ms} (h : a0T c) : J3 (c, ()) = some (b2p c) := o8 (ks := J8) (rs := J9) (x := (c, ())) ⟨a2h.2 h, trivial⟩ trivial
def ms0 : Ms := (8, 1, 2, 3, 0, 0, 0, 0, 0, [], [], [], ())
theorem b7O : a0T ms0 := by
 have hM : 1000000 ≤ maxLen := by decide
 exact ⟨by decide, by decide, by decide, by decide, by decide, by decide, by decide, by decide, by decide, ⟨Nat.zero_le _, V5⟩, ⟨Nat.zero_le _, V5⟩, Nat.zero_le _, V5⟩
theorem b6L : b2p ms0 = ([8, 1, 2, 0, 0, 0, 3], 0) := by decide +kernel
theorem a98 : ∀ x r, A0 x = some r → ∃ N, R9 N x = some r := by
 refine s0 (ks := a1v) (rs := a1w) fun x hw hq => ⟨0, ?_⟩
 have c1 := b3F b7O
 rw [b6L] at c1
 have hb : bytes [8, 1, 2, 0, 0, 0, 3] := fun z hz => by
  simp only [List.mem_cons, List.not_mem_nil, or_false] at hz
  omega
 have c2 : k9 ([8, 1, 2, 0, 0, 0, 3], [8, 1, 2, 0, 0, 0, 3], ()) = some true := by
  rw [b5e ⟨by simp, hb⟩ ⟨by simp, hb⟩]
  rfl
 have c3 := b7l (k := 3) (by omega)
 unfold R9
 refine (congrArg (fun o => Option.bind o _) c1).trans ?_
 rw [Option.bind_some]
 refine (congrArg (fun o => Option.bind o _) c2).trans ?_
 rw [Option.bind_some, if_pos rfl, if_pos rfl]
 refine (congrArg (fun o => Option.bind o _) c3).trans ?_
 rfl
theorem b6u : A0 () = some true := o8 (ks := []) (rs := [.bool]) (x := ()) trivial trivial
end Go.Ax.TryP
namespace Go.Ax.TryP
open Go.Proofs
theorem b0y : i6 Try.prog 37 a04 := a6v (a49) b0f
theorem a0C : i6 Try.prog 19 x5 := a5c (a4h) a8X
theorem a6P : i6 Try.prog 71 N3 := a7x (a6x) b1n
theorem b1u : i6 Try.prog 61 a2w := a7w (a6w a6P) b1m
theorem b0z : i6 Try.prog 72 a05 := a6y (a5b) b0g
theorem b1t : i6 Try.prog 62 a2v := a7v (a6t b0z a6P) b1l
theorem b3k : i6 Try.prog 73 a3F := a8T (a7D) b3a
theorem b3j : i6 Try.prog 66 a3E := a8S (a7C b3k) b29
theorem b0x : i6 Try.prog 40 a03 := a6u (a48) b0e
theorem b4D : i6 Try.prog 12 a5w := a9U (a8I) b4u
theorem a77 : i6 Try.prog 14 V4 := a8J (a7k) b26
theorem a6O : i6 Try.prog 36 N2 := a90 (a8M) b4w
theorem b0s : i6 Try.prog 43 a0Y := a6o (a42) a99
theorem b3i : i6 Try.prog 47 a3D := a8N (a7o) b28
theorem b0w : i6 Try.prog 46 a02 := a6s (a46) b0d
theorem b0t : i6 Try.prog 48 a0Z := a6p (a43 b0x) b0a
theorem b0v : i6 Try.prog 44 a01 := a6r (a45 a6O b3j) b0c
theorem b0u : i6 Try.prog 45 a00 := a6q (a44 a6O) b0b
theorem a2O : i6 Try.prog 25 E8 := a7h (a6k a77 b0s b0v b0u a6O b3i b0w b0t) b1k
theorem b3h : i6 Try.prog 34 a3C := a8L (a7n b1t b1u b0y) b27
theorem b0r : i6 Try.prog 17 a0X := a9X (a8K a2O b3h) b4v
noncomputable abbrev a0W : Sig := ⟨[], [.bool], A0⟩
theorem b0q : i6 Try.prog 11 a0W := a6j (a4W b0r a0C b4D) a98
end Go.Ax.TryP
