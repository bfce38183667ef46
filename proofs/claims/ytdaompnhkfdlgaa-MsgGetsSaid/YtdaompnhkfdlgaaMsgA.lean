/- A part of the proof: MsgI, MsgS, MsgP, MsgQ1, MsgQ2, MsgQ3, MsgQ4, MsgQ5, MsgQ6, MsgW. -/
import Derived.Test.YtdaompnhkfdlgaaMsgT
import Derived.Test.YtdaompnhkfdlgaaAxD
set_option linter.unusedVariables false
namespace Go.Ax.TryP
open Go.Proofs
theorem b9S : b2A Try.prog 81 "livery/msg.at" 90 := fun v w => by kernel_rfl
theorem b9T : b2A Try.prog 95 "livery/msg.at" 91 := fun v w => by kernel_rfl
theorem b9U : b2A Try.prog 98 "livery/msg.at" 92 := fun v w => by kernel_rfl
theorem b7O : b2A Try.prog 101 "livery/msg.at" 93 := fun v w => by kernel_rfl
theorem b7P : b2A Try.prog 102 "livery/msg.at" 94 := fun v w => by kernel_rfl
noncomputable def b4l : AE := AE.ofI [] [] [] [] [] [] []
noncomputable def a8P : Inl := a6D b4l 0 Try.f12
theorem a7e : Y4 Try.prog 12 a8P := H5 (AE.ofI_ok c6 c6 c6 c6 c6) mix Try.func12 0
noncomputable def b1x : AE := AE.ofI [] [] [] [] [] [] []
noncomputable def a4N : Inl := a6D b1x 0 Try.f13
theorem a4n : Y4 Try.prog 13 a4N := H5 (AE.ofI_ok c6 c6 c6 c6 c6) mix Try.func13 0
noncomputable def a95 : AE := AE.ofI [(3, ty3), (9, ty9), (25, ty25), (26, ty26), (28, ty28), (29, ty29), (31, ty31), (69, ty69), (73, ty73), (79, ty79), (81, ty81), (93, ty93), (95, ty95), (96, ty96), (98, ty98), (99, ty99), (101, ty101), (102, ty102)] [] [] [(12, a8P)] [31, 34, 44, 61, 71, 81, 91, 101] [(3, 8)] []
noncomputable def a23 : Inl := a6D a95 0 Try.f57
theorem a24 : Y4 Try.prog 57 a23 := H5 (AE.ofI_ok (all_cons X9 (all_cons a9X (all_cons a2k (all_cons I7 (all_cons a00 (all_cons v6 (all_cons N5 (all_cons b5b (all_cons b5c (all_cons b5e (all_cons b5f (all_cons b5g (all_cons b5h (all_cons b5i (all_cons b5j (all_cons b5k (all_cons b2s (all_cons b2t c6)))))))))))))))))) c6 c6 (all_cons ⟨a7e, a0D⟩ c6) c6) mix Try.func57 0
noncomputable def a8R : AE := AE.ofI [] [] [] [] [] [] []
noncomputable def a1P : Inl := a6D a8R 0 Try.f90
theorem a2t : Y4 Try.prog 90 a1P := H5 (AE.ofI_ok c6 c6 c6 c6 c6) mix Try.func90 0
noncomputable def a6C : AE := AE.ofI [] [] [] [] [] [] []
noncomputable def T7 : Inl := a6D a6C 0 Try.f91
theorem a0f : Y4 Try.prog 91 T7 := H5 (AE.ofI_ok c6 c6 c6 c6 c6) mix Try.func91 0
noncomputable def a8T : AE := AE.ofI [] [] [] [] [] [] []
noncomputable def a1Q : Inl := a6D a8T 0 Try.f92
theorem a2u : Y4 Try.prog 92 a1Q := H5 (AE.ofI_ok c6 c6 c6 c6 c6) mix Try.func92 0
noncomputable def a8Q : AE := AE.ofI [] [] [] [] [] [] []
noncomputable def a1O : Inl := a6D a8Q 0 Try.f93
theorem a2s : Y4 Try.prog 93 a1O := H5 (AE.ofI_ok c6 c6 c6 c6 c6) mix Try.func93 0
noncomputable def a7J : AE := AE.ofI [] [] [] [] [] [] []
noncomputable def a0G : Inl := a6D a7J 0 Try.f94
theorem a1a : Y4 Try.prog 94 a0G := H5 (AE.ofI_ok c6 c6 c6 c6 c6) mix Try.func94 0
noncomputable def b1w : AE := AE.ofI [(3, ty3), (25, ty25), (26, ty26), (93, ty93), (95, ty95), (96, ty96), (98, ty98), (99, ty99), (101, ty101), (102, ty102)] [] [] [] [] [] []
noncomputable def a8S : Inl := a6D b1w 0 Try.f63
theorem a96 : Y4 Try.prog 63 a8S := H5 (AE.ofI_ok (all_cons X9 (all_cons a2k (all_cons I7 (all_cons b5g (all_cons b5h (all_cons b5i (all_cons b5j (all_cons b5k (all_cons b2s (all_cons b2t c6)))))))))) c6 c6 c6 c6) mix Try.func63 0
end Go.Ax.TryP
namespace Go.Ax.TryP
open Go.Proofs
noncomputable def o7 : List (List Int) × Unit → Option (List Int) := Y2 (ks := [.sls (.int .u8)]) (rs := [.sl (.int .u8)]) (fun x => x.1.length ≤ 1000 ∧ x.1.flatten.length ≤ 1000000) fun x => x.1.flatten
noncomputable def C7 : List (List Int) × Unit → Option (List Int) := Y2 (ks := [.sls (.int .u8)]) (rs := [.sl (.int .u8)]) (fun x => x.1.length ≤ 1000 ∧ x.1.flatten.length ≤ 1000000) fun x => x.1.flatten
noncomputable def u6 : List Int × List Int × Unit → Option Bool := Y2 (ks := [.sl (.int .u8), .sl (.int .u8)]) (rs := [.bool]) (fun _ => True) fun x => decide (x.1 = x.2.1)
def L9 (n : Int) (w : Nat) : List Int := (List.range w).map fun i => n / 2 ^ (8 * (w - 1 - i)) % 256
noncomputable def T6 : Int × Int × Unit → Option (List Int) := Y2 (ks := [.int .u64, .int .i64]) (rs := [.sl (.int .u8)]) (fun x => 0 ≤ x.2.1 ∧ x.2.1 ≤ 8) fun x => L9 x.1 x.2.1.toNat
noncomputable def M1 : Int × Int × Unit → Option (List Int) := Y2 (ks := [.int .u64, .int .i64]) (rs := [.sl (.int .u8)]) (fun x => 0 ≤ x.2.1 ∧ x.2.1 ≤ 8) fun x => L9 x.1 x.2.1.toNat
noncomputable def n9 : Int × Unit → Option (List Int) := Y2 (ks := [.int .u16]) (rs := [.sl (.int .u8)]) (fun _ => True) fun x => L9 x.1 2
def b7v (n w : Int) : Int := if w < 8 ∧ n / 2 ^ (8 * w.toNat) ≠ 0 then 3 else 0
noncomputable def a0c : Int × Int × Unit → Option Int := Y2 (ks := [.int .u64, .int .i64]) (rs := [.int .i64]) (fun x => 1 ≤ x.2.1 ∧ x.2.1 ≤ 8) fun x => b7v x.1 x.2.1
noncomputable def c7 : Int × Int × Unit → Option (List Int × Int) := Y2 (ks := [.int .u64, .int .i64]) (rs := [.sl (.int .u8), .int .i64]) (fun x => 1 ≤ x.2.1 ∧ x.2.1 ≤ 8 ∧ b7v x.1 x.2.1 = 0) fun x => (L9 x.1 x.2.1.toNat, 0)
def b4x (lo hi : Int) : Bool := decide (lo < hi ∧ hi ≤ 1152921504606846976)
noncomputable def a3M : (Int × Int × Unit) × Unit → Option Bool := Y2 (ks := [.cat [.int .u64, .int .u64]]) (rs := [.bool]) (fun _ => True) fun x => b4x x.1.1 x.1.2.1
noncomputable def a3L : List Int × Unit → Option Bool := Y2 (ks := [.sla (.int .u64) 2]) (rs := [.bool]) (fun x => x.1.length = 2) fun x => b4x (x.1.getD 0 0) (x.1.getD 1 0)
noncomputable def I3 : (Int × Int × Unit) × Unit → Option Bool := Y2 (ks := [.cat [.int .u64, .int .u64]]) (rs := [.bool]) (fun _ => True) fun x => b4x x.1.1 x.1.2.1
noncomputable def a0b : List Int × Unit → Option (List Int) := Y2 (ks := [.sl (.int .u8)]) (rs := [.sl .bool]) (fun x => x.1.length ≤ 1000000) fun x => w3 x.1
noncomputable def a0d : List Int × Unit → Option (List Int) := Y2 (ks := [.sl (.int .u8)]) (rs := [.sl .bool]) (fun x => x.1.length ≤ 1000000) fun x => w3 x.1
noncomputable def i4 : List Int × Unit → Option (List Int) := Y2 (ks := [.sl (.int .u8)]) (rs := [.sl (.int .u8)]) (fun x => x.1.length ≤ 1000000) fun x => x.1
def a8h (k : Int) : List Int := if k = 1 then [107, 114, 100, 99] else if k = 2 then [107, 114, 99, 115] else if k = 3 then [112, 110, 100] else if k = 4 then [110, 100] else if k = 5 then [107, 114, 115] else if k = 6 then [107, 114, 115] else []
def c11 (k : Int) : ByteArray := if k = 1 then ⟨#[107, 114, 100, 99]⟩ else if k = 2 then ⟨#[107, 114, 99, 115]⟩ else if k = 3 then ⟨#[112, 110, 100]⟩ else if k = 4 then ⟨#[110, 100]⟩ else if k = 5 then ⟨#[107, 114, 115]⟩ else if k = 6 then ⟨#[107, 114, 115]⟩ else ⟨#[]⟩
noncomputable def a5n : Int × Unit → Option ByteArray := Y2 (ks := [.int .i64]) (rs := [.str]) (fun _ => True) fun x => c11 x.1
def a5v (k : Int) : ByteArray := if k = 1 then ⟨#[111, 102, 102, 101, 114]⟩ else if k = 2 then ⟨#[97, 99, 99, 101, 112, 116]⟩ else if k = 3 then ⟨#[99, 104, 117, 110, 107]⟩ else if k = 4 then ⟨#[104, 97, 118, 101]⟩ else if k = 5 then ⟨#[99, 111, 110, 102, 105, 114, 109]⟩ else if k = 6 then ⟨#[114, 101, 102, 117, 115, 101]⟩ else if k = 7 then ⟨#[99, 97, 110, 99, 101, 108]⟩ else if k = 8 then ⟨#[112, 114, 111, 98, 101]⟩ else ⟨#[]⟩
noncomputable def a07 : Int × Unit → Option ByteArray := Y2 (ks := [.int .i64]) (rs := [.str]) (fun _ => True) fun x => a5v x.1
noncomputable def O6 : Int × Unit → Option ByteArray := Y2 (ks := [.int .i64]) (rs := [.str]) (fun _ => True) fun x => a5v x.1
def a2r (k c : Int) : Bool := decide (c ∈ a8h k)
noncomputable def K3 : Int × Int × Unit → Option Bool := Y2 (ks := [.int .i64, .int .i32]) (rs := [.bool]) (fun _ => True) fun x => a2r x.1 x.2.1
noncomputable def l5 : Int × Int × Unit → Option Bool := Y2 (ks := [.int .i64, .int .i32]) (rs := [.bool]) (fun _ => True) fun x => a2r x.1 x.2.1
def b5A (n : Int) : Bool := decide (0 ≤ n ∧ n < 16)
noncomputable def O5 : Int × Unit → Option Bool := Y2 (ks := [.int .i64]) (rs := [.bool]) (fun _ => True) fun x => b5A x.1
def a5t (k : Int) : Int := if k = 1 then 68 else 1024
noncomputable def a3K : Int × Unit → Option Int := Y2 (ks := [.int .i64]) (rs := [.int .i64]) (fun _ => True) fun x => a5t x.1
def Y9 (is : Bool) (n : Nat) (m : Int) : Bool := if is = true then decide (1 ≤ n ∧ (n : Int) ≤ m) else decide (n = 0)
noncomputable def J0 : Bool × List Int × Int × Unit → Option Bool := Y2 (ks := [.bool, .sl (.int .u8), .int .i64]) (rs := [.bool]) (fun _ => True) fun x => Y9 x.1 x.2.1.length x.2.2.1
noncomputable def S7 : Bool × List Int × Int × Unit → Option Bool := Y2 (ks := [.bool, .sl (.int .u8), .int .i64]) (rs := [.bool]) (fun _ => True) fun x => Y9 x.1 x.2.1.length x.2.2.1
def a7K (n : Int) (b : List Int) : Bool := decide ((b.length : Int) = (n + 7) / 8) && (List.range (8 * b.length)).all fun i => decide (a3Y b i = 0) || decide ((i : Int) < n)
noncomputable def Z7 : Int × List Int × Unit → Option Bool := Y2 (ks := [.int .i64, .sl (.int .u8)]) (rs := [.bool]) (fun x => 0 ≤ x.1 ∧ x.1 ≤ 1000) fun x => a7K x.1 x.2.1
noncomputable def N7 : Int × List Int × Unit → Option Bool := Y2 (ks := [.int .i64, .sl (.int .u8)]) (rs := [.bool]) (fun x => 0 ≤ x.1 ∧ x.1 ≤ 1000) fun x => a7K x.1 x.2.1
abbrev Ms := Int × Int × Int × Int × Int × Int × Int × Int × Int × List Int × List Int × List Int × Unit
abbrev msL : List FK := [.int .i64, .int .i64, .int .i64, .int .u32, .int .u32, .int .u64, .int .u64, .int .i64, .int .i64, .sl (.int .u8), .sl (.int .u8), .sl (.int .u8)]
def a3y (m : Ms) : Bool := if a2r m.1 114 = true then b4x m.2.2.2.2.2.1 m.2.2.2.2.2.2.1 else decide (m.2.2.2.2.2.1 = 0 ∧ m.2.2.2.2.2.2.1 = 0 ∧ m.2.2.2.2.1 = 0)
noncomputable def a0a : Ms × Unit → Option Bool := Y2 (ks := [.cat msL]) (rs := [.bool]) (fun _ => True) fun x => a3y x.1
def R5 (m : Ms) : Bool := decide (a2r m.1 110 = decide (m.2.2.2.2.2.2.2.2.1 ≠ 0)) && (decide (0 ≤ m.2.2.2.2.2.2.2.2.1 ∧ m.2.2.2.2.2.2.2.2.1 ≤ 256) && (if a2r m.1 112 = true then decide (0 ≤ m.2.2.2.2.2.2.2.1 ∧ m.2.2.2.2.2.2.2.1 < m.2.2.2.2.2.2.2.2.1) else decide (m.2.2.2.2.2.2.2.1 = 0)))
noncomputable def Z9 : Ms × Unit → Option Bool := Y2 (ks := [.cat msL]) (rs := [.bool]) (fun _ => True) fun x => R5 x.1
def okS (m : Ms) : Bool := b5A m.2.1 && (b5A m.2.2.1 && (decide (m.2.1 ≠ m.2.2.1) && (a3y m && (R5 m && (Y9 (a2r m.1 100) m.2.2.2.2.2.2.2.2.2.1.length (a5t m.1) && (Y9 (a2r m.1 99) m.2.2.2.2.2.2.2.2.2.2.1.length 6446 && (Y9 (a2r m.1 115) m.2.2.2.2.2.2.2.2.2.2.2.1.length 3309 && (if m.1 = 4 then a7K m.2.2.2.2.2.2.2.2.1 m.2.2.2.2.2.2.2.2.2.1 else true))))))))
def A4 (m : Ms) : Int := if a5v m.1 = ⟨#[]⟩ then 211 else if okS m = true then 0 else 210
noncomputable def y9 : Ms × Unit → Option Int := Y2 (ks := [.cat msL]) (rs := [.int .i64]) (fun _ => True) fun x => A4 x.1
noncomputable def i3 : Ms × Unit → Option Int := Y2 (ks := [.cat msL]) (rs := [.int .i64]) (fun _ => True) fun x => A4 x.1
def a4l (m : Ms) (all : Bool) (c : Int) : List Int := if c = 107 then L9 m.2.2.2.2.1 4 else if c = 114 then L9 m.2.2.2.2.2.1 8 ++ L9 m.2.2.2.2.2.2.1 8 else if c = 112 then L9 m.2.2.2.2.2.2.2.1 2 else if c = 110 then L9 m.2.2.2.2.2.2.2.2.1 2
 else if c = 100 then L9 (m.2.2.2.2.2.2.2.2.2.1.length : Int) 2 ++ m.2.2.2.2.2.2.2.2.2.1 else if c = 99 then L9 (m.2.2.2.2.2.2.2.2.2.2.1.length : Int) 2 ++ m.2.2.2.2.2.2.2.2.2.2.1 else if c = 115 ∧ all = true then L9 (m.2.2.2.2.2.2.2.2.2.2.2.1.length : Int) 2 ++ m.2.2.2.2.2.2.2.2.2.2.2.1 else []
def a8O (m : Ms) : List Int := [m.1 % 256, m.2.1 % 256, m.2.2.1 % 256] ++ L9 m.2.2.2.1 4
def Q5 (m : Ms) (all : Bool) : List Int := a8O m ++ ((a8h m.1).map (a4l m all)).flatten
def c1N (m : Ms) : Prop := (0 ≤ m.2.1 ∧ m.2.1 ≤ 255) ∧ (0 ≤ m.2.2.1 ∧ m.2.2.1 ≤ 255) ∧ (0 ≤ m.2.2.2.2.2.2.2.1 ∧ m.2.2.2.2.2.2.2.1 ≤ 65535) ∧ (0 ≤ m.2.2.2.2.2.2.2.2.1 ∧ m.2.2.2.2.2.2.2.2.1 ≤ 65535) ∧ m.2.2.2.2.2.2.2.2.2.1.length ≤ 60000 ∧ m.2.2.2.2.2.2.2.2.2.2.1.length ≤ 60000 ∧ m.2.2.2.2.2.2.2.2.2.2.2.1.length ≤ 60000
noncomputable def a3J : Ms × Bool × Unit → Option (List Int) := Y2 (ks := [.cat msL, .bool]) (rs := [.sl (.int .u8)]) (fun x => c1N x.1) fun x => Q5 x.1 x.2.1
noncomputable def a22 : List Int × Unit → Option (List Int) := Y2 (ks := [.sl (.int .u8)]) (rs := [.sl (.int .u8)]) (fun x => x.1.length ≤ 60000) fun x => L9 (x.1.length : Int) 2 ++ x.1
def c1u (m : Ms) : List Int × Int := if A4 m = 0 then (Q5 m true, 0) else ([], A4 m)
noncomputable def a5o : Ms × Unit → Option (List Int × Int) := Y2 (ks := [.cat msL]) (rs := [.sl (.int .u8), .int .i64]) (fun _ => True) fun x => c1u x.1
noncomputable def I9 : Unit → Option Bool := Y2 (ks := []) (rs := [.bool]) (fun _ => True) fun _ => true
end Go.Ax.TryP
set_option linter.unusedVariables false
namespace Go.Ax.TryP
open Go.Proofs
noncomputable def p_octet_Join_E : AE := AE.of [(5, ty5), (29, ty29), (42, ty42)] []
noncomputable def a0N : Hints := [(3, [0, 3, 9, 10, 11]), (9, [6, 22, 23, 24]), (2000000, [0, 3]), (2000001, [0, 3, 9, 10, 11]), (2000002, [6]), (2000003, [6, 22, 23, 24]), (3000000, [2])]
noncomputable def G3 : Code := (Try.f37).body.getD .skip
noncomputable def a6R : Shape := mkS { tmps := .sc (.frs b8) :: V :: V :: .sc (.int .i64) :: pv 5 (.sc (.frs b8) :: .sc (.int .i64) :: .sc (.int .i64) :: pv 21 []), mem := [] } [.xss, .int, .xss, .int, .int]
abbrev W0 : Type := List (List Int) × Int × List (List Int) × Int × Int × Unit
abbrev W1 : Type := List (List Int) × Int × Unit
noncomputable def z4 (N : Nat) (β : Type) (x : W0) (kn : W0 → Option β) (ke : W1 → Option β) : Option β :=
 if (x.2.2.2.2.1 < x.2.2.2.1) then
  if 0 ≤ x.2.2.2.2.1 then (
  if x.2.2.2.2.1 < ((List.length x.2.2.1 : Nat) : Int) then (
  kn (x.1, (IntKind.i64.wrap (x.2.1 + ((List.length (List.getD x.2.2.1 (x.2.2.2.2.1.toNat) []) : Nat) : Int))), x.2.2.1, x.2.2.2.1, (IntKind.i64.wrap (x.2.2.2.2.1 + (1:Int))), ())) else none) else none
 else
  ke (x.1, x.2.1, ())
noncomputable def a5M : Go' W1 := fun y K => K (.exit 0) (fSt { tmps := .sc (.frs b8) :: V :: V :: .sc (.int .i64) :: pv 29 [], mem := [] } [.xss, .int] y)
noncomputable def a1t (N : Nat) : LT := upd (LT.nil) 3 (a3c a6R N (z4 N) a5M)
theorem a5N (N : Nat) : OkAll p_octet_Join_E a0N N (a1t N) (x9 G3) :=
 J4 (c := L5 3 G3) (OkAll.nil) (by kernel_rfl) (fun x => by kernel_rfl) (fun β x kn ke => by kernel_rfl)
noncomputable def a6S : Shape := mkS { tmps := pv 6 (.sc (.vec 0 none 1) :: pv 15 (.sc (.frs b8) :: .sc (.int .i64) :: .sc (.int .i64) :: pv 8 [])), mem := [.live [.xs b8 none] (.own)] } [.nat, .xss, .int, .int, .nat, .xs]
abbrev W2 : Type := Nat × List (List Int) × Int × Int × Nat × List Int × Unit
abbrev W3 : Type := Nat × Nat × List Int × Unit
noncomputable def z5 (N : Nat) (β : Type) (x : W2) (kn : W2 → Option β) (ke : W3 → Option β) : Option β :=
 if (x.2.2.2.1 < x.2.2.1) then
  if 0 ≤ x.2.2.2.1 then (
  if x.2.2.2.1 < ((List.length x.2.1 : Nat) : Int) then (
  if (x.1 + (List.length (List.getD x.2.1 (x.2.2.2.1.toNat) []))) * 1 ≤ 140737488355328 then (
  kn ((x.1 + (List.length (List.getD x.2.1 (x.2.2.2.1.toNat) []))), x.2.1, x.2.2.1, (IntKind.i64.wrap (x.2.2.2.1 + (1:Int))), (x.2.2.2.2.1 + (List.length (List.getD x.2.1 (x.2.2.2.1.toNat) []))), (x.2.2.2.2.2.1 ++ (List.getD x.2.1 (x.2.2.2.1.toNat) [])), ())) else none) else none) else none
 else
  ke (x.1, x.2.2.2.2.1, x.2.2.2.2.2.1, ())
noncomputable def a5O : Go' W3 := fun y K => K (.exit 2) (fSt { tmps := pv 6 (.sc (.vec 0 none 1) :: pv 26 []), mem := [.live [.xs b8 none] (.own)] } [.nat, .nat, .xs] y)
noncomputable def a1u (N : Nat) : LT := upd (a1t N) 9 (a3c a6S N (z5 N) a5O)
theorem a5P (N : Nat) : OkAll p_octet_Join_E a0N N (a1u N) (x9 G3) :=
 J4 (c := L5 9 G3) (a5N N) (by kernel_rfl) (fun x => by kernel_rfl) (fun β x kn ke => by kernel_rfl)
abbrev D5 : List Kd := [.sls b8]
abbrev D6 : List Kd := [.sl b8]
noncomputable def a0r (N : Nat) (x : List (List Int) × Unit) : Option (List Int) :=
 a5p (z4 N) N (x.1, (0:Int), x.1, ((List.length x.1 : Nat) : Int), (0:Int), ()) fun y1 => (
 if 0 ≤ (0:Int) then (
 if (0:Int) ≤ y1.2.1 then (
 if y1.2.1 * 1 ≤ 281474976710656 then (
 a5p (z5 N) N (0, y1.1, ((List.length y1.1 : Nat) : Int), (0:Int), 0, (List.replicate 0 0), ()) fun y2 => (
 some y2.2.2.1)) else none) else none) else none)
theorem a7Y : p_octet_Join_E.Ok Try.prog := AE.of_ok (all_cons Y0 (all_cons v6 (all_cons a9W c6))) c6
theorem a9m (hE : p_octet_Join_E.Ok Try.prog) {g : Ds D5 → Option (Rs D6)} (hg : ∀ x r, g x = some r → ∃ N, a0r N x = some r) : i0 Try.prog 37 ⟨D5, D6, g⟩ :=
 p8 (E := p_octet_Join_E) (H := a0N) (L := fun N => a1u N) (c := G3) (ks := D5) (rs := D6) (F := a0r) hE mix Try.func37 (by kernel_rfl) (fun N => a5P N) (fun _ _ => by kernel_rfl) hg
noncomputable def p_ref01_Join_E : AE := AE.of [(5, ty5), (29, ty29), (42, ty42)] []
noncomputable def a4s : Hints := [(3, [3, 7, 8, 9]), (2000000, [3]), (2000001, [3, 7, 8, 9]), (3000000, [2])]
noncomputable def a0Q : Code := (Try.f31).body.getD .skip
noncomputable def a6Y : Shape := mkS { tmps := pv 3 (.sc (.vec 0 none 1) :: pv 3 (.sc (.frs b8) :: .sc (.int .i64) :: .sc (.int .i64) :: pv 8 [])), mem := [.live [.xs b8 none] (.own)] } [.nat, .xss, .int, .int, .nat, .xs]
noncomputable def z6 (N : Nat) (β : Type) (x : W2) (kn : W2 → Option β) (ke : W3 → Option β) : Option β :=
 if (x.2.2.2.1 < x.2.2.1) then
  if 0 ≤ x.2.2.2.1 then (
  if x.2.2.2.1 < ((List.length x.2.1 : Nat) : Int) then (
  if (x.1 + (List.length (List.getD x.2.1 (x.2.2.2.1.toNat) []))) * 1 ≤ 140737488355328 then (
  kn ((x.1 + (List.length (List.getD x.2.1 (x.2.2.2.1.toNat) []))), x.2.1, x.2.2.1, (IntKind.i64.wrap (x.2.2.2.1 + (1:Int))), (x.2.2.2.2.1 + (List.length (List.getD x.2.1 (x.2.2.2.1.toNat) []))), (x.2.2.2.2.2.1 ++ (List.getD x.2.1 (x.2.2.2.1.toNat) [])), ())) else none) else none) else none
 else
  ke (x.1, x.2.2.2.2.1, x.2.2.2.2.2.1, ())
noncomputable def a5V : Go' W3 := fun y K => K (.exit 0) (fSt { tmps := pv 3 (.sc (.vec 0 none 1) :: pv 14 []), mem := [.live [.xs b8 none] (.own)] } [.nat, .nat, .xs] y)
noncomputable def a1x (N : Nat) : LT := upd (LT.nil) 3 (a3c a6Y N (z6 N) a5V)
theorem a5W (N : Nat) : OkAll p_ref01_Join_E a4s N (a1x N) (x9 a0Q) :=
 J4 (c := L5 3 a0Q) (OkAll.nil) (by kernel_rfl) (fun x => by kernel_rfl) (fun β x kn ke => by kernel_rfl)
abbrev D9 : List Kd := [.sls b8]
abbrev E0 : List Kd := [.sl b8]
noncomputable def a0t (N : Nat) (x : List (List Int) × Unit) : Option (List Int) :=
 a5p (z6 N) N (0, x.1, ((List.length x.1 : Nat) : Int), (0:Int), 0, (List.replicate 0 0), ()) fun y1 => (
 some y1.2.2.1)
theorem a73 : p_ref01_Join_E.Ok Try.prog := AE.of_ok (all_cons Y0 (all_cons v6 (all_cons a9W c6))) c6
theorem a9t (hE : p_ref01_Join_E.Ok Try.prog) {g : Ds D9 → Option (Rs E0)} (hg : ∀ x r, g x = some r → ∃ N, a0t N x = some r) : i0 Try.prog 31 ⟨D9, E0, g⟩ :=
 p8 (E := p_ref01_Join_E) (H := a4s) (L := fun N => a1x N) (c := a0Q) (ks := D9) (rs := E0) (F := a0t) hE mix Try.func31 (by kernel_rfl) (fun N => a5W N) (fun _ _ => by kernel_rfl) hg
noncomputable def p_ref01_Equal_E : AE := AE.of [(5, ty5), (9, ty9), (29, ty29)] []
noncomputable def a9r : Hints := [(3000000, [4])]
noncomputable def a9s : Code := (Try.f19).body.getD .skip
abbrev x8 : List Kd := [.sl b8, .sl b8]
abbrev I0 : List Kd := [.bool]
noncomputable def S3 (N : Nat) (x : List Int × List Int × Unit) : Option (Bool) :=
 some (decide ((strOfNums x.1) = (strOfNums x.2.1)))
theorem a6X : p_ref01_Equal_E.Ok Try.prog := AE.of_ok (all_cons Y0 (all_cons a9X (all_cons v6 c6))) c6
theorem a72 (hE : p_ref01_Equal_E.Ok Try.prog) {g : Ds x8 → Option (Rs [.bool])} (hg : ∀ x r, g x = some r → ∃ N, S3 N x = some r) : i0 Try.prog 19 ⟨x8, [.bool], g⟩ :=
 p8 (E := p_ref01_Equal_E) (H := a9r) (L := fun N => LT.nil) (c := a9s) (ks := x8) (rs := I0) (F := S3) hE mix Try.func19 (by kernel_rfl) (fun N => OkAll.nil) (fun _ _ => by kernel_rfl) hg
noncomputable def p_octet_big_E : AE := AE.of [(5, ty5), (26, ty26), (29, ty29)] []
noncomputable def a5Q : Hints := [(3, [0, 1, 5, 10, 11]), (2000000, [5]), (2000001, [0, 1, 5, 10, 11]), (3000000, [4])]
noncomputable def a16 : Code := (Try.f71).body.getD .skip
noncomputable def a7Z : Shape := mkS { tmps := .sc (.int .u64) :: .sc (.int .i64) :: pv 3 (.sc (.vec 0 none 1) :: pv 4 (.sc (.int .i64) :: .sc (.int .i64) :: pv 15 [])), mem := [.live [.xs b8 none] (.own)] } [.int, .int, .nat, .int, .int, .nat, .xs]
abbrev W4 : Type := Int × Int × Nat × Int × Int × Nat × List Int × Unit
noncomputable def B4 (N : Nat) (β : Type) (x : W4) (kn : W4 → Option β) (ke : W3 → Option β) : Option β :=
 if (x.2.2.2.2.1 < x.2.2.2.1) then
  if (IntKind.i64.wrap ((8:Int) * x.2.2.2.2.1)) < 0 then none else (
  if 0 ≤ (IntKind.i64.wrap ((IntKind.i64.wrap (x.2.1 - (1:Int))) - x.2.2.2.2.1)) then (
  if (IntKind.i64.wrap ((IntKind.i64.wrap (x.2.1 - (1:Int))) - x.2.2.2.2.1)) < ((x.2.2.1 : Nat) : Int) then (
  if ((IntKind.i64.wrap ((IntKind.i64.wrap (x.2.1 - (1:Int))) - x.2.2.2.2.1)).toNat) < x.2.2.2.2.2.1 then (
  kn (x.1, x.2.1, x.2.2.1, x.2.2.2.1, (IntKind.i64.wrap (x.2.2.2.2.1 + (1:Int))), x.2.2.2.2.2.1, (List.set x.2.2.2.2.2.2.1 ((IntKind.i64.wrap ((IntKind.i64.wrap (x.2.1 - (1:Int))) - x.2.2.2.2.1)).toNat) (IntKind.u8.wrap (b8E IntKind.u64 x.1 (IntKind.i64.wrap ((8:Int) * x.2.2.2.2.1))))), ())) else none) else none) else none)
 else
  ke (x.2.2.1, x.2.2.2.2.2.1, x.2.2.2.2.2.2.1, ())
noncomputable def a6T : Go' W3 := fun y K => K (.exit 0) (fSt { tmps := pv 5 (.sc (.vec 0 none 1) :: pv 21 []), mem := [.live [.xs b8 none] (.own)] } [.nat, .nat, .xs] y)
noncomputable def a2y (N : Nat) : LT := upd (LT.nil) 3 (a3c a7Z N (B4 N) a6T)
theorem a6U (N : Nat) : OkAll p_octet_big_E a5Q N (a2y N) (x9 a16) :=
 J4 (c := L5 3 a16) (OkAll.nil) (by kernel_rfl) (fun x => by kernel_rfl) (fun β x kn ke => by kernel_rfl)
abbrev G5 : List Kd := [.int .u64, .int .i64]
abbrev G6 : List Kd := [.sl b8]
noncomputable def a15 (N : Nat) (x : Int × Int × Unit) : Option (List Int) :=
 if 0 ≤ x.2.1 then (
 if x.2.1 = x.2.1 then (
 if x.2.1 * 1 ≤ 281474976710656 then (
 a5p (B4 N) N (x.1, x.2.1, (x.2.1.toNat), (((x.2.1.toNat) : Nat) : Int), (0:Int), (x.2.1.toNat), (List.replicate (x.2.1.toNat) 0), ()) fun y1 => (
 some y1.2.2.1)) else none) else none) else none
theorem a9o : p_octet_big_E.Ok Try.prog := AE.of_ok (all_cons Y0 (all_cons I7 (all_cons v6 c6))) c6
theorem b0t (hE : p_octet_big_E.Ok Try.prog) {g : Ds G5 → Option (Rs G6)} (hg : ∀ x r, g x = some r → ∃ N, a15 N x = some r) : i0 Try.prog 71 ⟨G5, G6, g⟩ :=
 p8 (E := p_octet_big_E) (H := a5Q) (L := fun N => a2y N) (c := a16) (ks := G5) (rs := G6) (F := a15) hE mix Try.func71 (by kernel_rfl) (fun N => a6U N) (fun _ _ => by kernel_rfl) hg
noncomputable abbrev T1 : Sig := ⟨[.int .u64, .int .i64], [.sl b8], T6⟩
noncomputable def p_octet_U16_E : AE := AE.of [(26, ty26), (84, ty84)] [(71, T1)]
noncomputable def b1R : Hints := [(3000000, [2])]
noncomputable def b1S : Code := (Try.f61).body.getD .skip
abbrev a0O : List Kd := [.int .u16]
abbrev G4 : List Kd := [.sl b8]
noncomputable def a14 (N : Nat) (x : Int × Unit) : Option (List Int) :=
 (T6 ((IntKind.u64.wrap x.1), (2:Int), ())).bind fun r1 => (
 some r1)
theorem a9n (e0 : i0 Try.prog 71 T1) : p_octet_U16_E.Ok Try.prog := AE.of_ok (all_cons I7 (all_cons b8w c6)) (all_cons ⟨e0, a2p⟩ c6)
theorem b0s (hE : p_octet_U16_E.Ok Try.prog) {g : Ds [.int .u16] → Option (Rs G4)} (hg : ∀ x r, g x = some r → ∃ N, a14 N x = some r) : i0 Try.prog 61 ⟨[.int .u16], G4, g⟩ :=
 p8 (E := p_octet_U16_E) (H := b1R) (L := fun N => LT.nil) (c := b1S) (ks := a0O) (rs := G4) (F := a14) hE mix Try.func61 (by kernel_rfl) (fun N => OkAll.nil) (fun _ _ => by kernel_rfl) hg
noncomputable def p_octet_fits_E : AE := AE.of [] []
noncomputable def b0u : Hints := [(2000000, []), (3000000, [4])]
noncomputable def b0v : Code := (Try.f72).body.getD .skip
abbrev D7 : List Kd := [.int .u64, .int .i64]
abbrev V1 : List Kd := [.int .i64]
noncomputable def P7 (N : Nat) (x : Int × Int × Unit) : Option (Int) :=
 if (x.2.1 < (1:Int)) then
  some (1:Int)
 else
  if (x.2.1 > (8:Int)) then
   some (1:Int)
  else
   if (x.2.1 < (8:Int)) then
    if (IntKind.i64.wrap ((8:Int) * x.2.1)) < 0 then none else (
    if ((b8E IntKind.u64 x.1 (IntKind.i64.wrap ((8:Int) * x.2.1))) ≠ (0:Int)) then
     some (3:Int)
    else
     some (0:Int))
   else
    some (0:Int)
theorem a70 : p_octet_fits_E.Ok Try.prog := AE.of_ok c6 c6
theorem a9p (hE : p_octet_fits_E.Ok Try.prog) {g : Ds D7 → Option (Rs [.int .i64])} (hg : ∀ x r, g x = some r → ∃ N, P7 N x = some r) : i0 Try.prog 72 ⟨D7, [.int .i64], g⟩ :=
 p8 (E := p_octet_fits_E) (H := b0u) (L := fun N => LT.nil) (c := b0v) (ks := D7) (rs := V1) (F := P7) hE mix Try.func72 (by kernel_rfl) (fun N => OkAll.nil) (fun _ _ => by kernel_rfl) hg
noncomputable abbrev a2Q : Sig := ⟨[.int .u64, .int .i64], [.int .i64], a0c⟩
noncomputable def p_octet_Big_E : AE := AE.of [] [(72, a2Q), (71, T1)]
noncomputable def b1P : Hints := [(3000000, [4, 5])]
noncomputable def b1Q : Code := (Try.f62).body.getD .skip
abbrev G0 : List Kd := [.int .u64, .int .i64]
abbrev G1 : List Kd := [.sl b8, .int .i64]
noncomputable def a13 (N : Nat) (x : Int × Int × Unit) : Option (List Int × Int) :=
 (a0c (x.1, x.2.1, ())).bind fun r1 => (
 if (r1 ≠ (0:Int)) then
  some ([], r1)
 else
  (T6 (x.1, x.2.1, ())).bind fun r2 => (
  some (r2, (0:Int))))
theorem a9k (e0 : i0 Try.prog 72 a2Q) (e1 : i0 Try.prog 71 T1) : p_octet_Big_E.Ok Try.prog := AE.of_ok c6 (all_cons ⟨e0, a6y⟩ (all_cons ⟨e1, a2p⟩ c6))
theorem b0r (hE : p_octet_Big_E.Ok Try.prog) {g : Ds G0 → Option (Rs G1)} (hg : ∀ x r, g x = some r → ∃ N, a13 N x = some r) : i0 Try.prog 62 ⟨G0, G1, g⟩ :=
 p8 (E := p_octet_Big_E) (H := b1P) (L := fun N => LT.nil) (c := b1Q) (ks := G0) (rs := G1) (F := a13) hE mix Try.func62 (by kernel_rfl) (fun N => OkAll.nil) (fun _ _ => by kernel_rfl) hg
noncomputable def p_span_one_E : AE := AE.of [(26, ty26), (28, ty28)] []
noncomputable def b3l : Hints := [(3000000, [2])]
noncomputable def b3m : Code := (Try.f73).body.getD .skip
abbrev L3 : List Kd := [.cat [.int .u64, .int .u64]]
abbrev a2c : List Kd := [.bool]
noncomputable def a3U (N : Nat) (x : (Int × Int × Unit) × Unit) : Option (Bool) :=
 if (x.1.1 < x.1.2.1) then
  some (decide (x.1.2.1 ≤ (1152921504606846976:Int)))
 else
  some false
theorem b0F : p_span_one_E.Ok Try.prog := AE.of_ok (all_cons I7 (all_cons a00 c6)) c6
theorem b14 (hE : p_span_one_E.Ok Try.prog) {g : Ds L3 → Option (Rs [.bool])} (hg : ∀ x r, g x = some r → ∃ N, a3U N x = some r) : i0 Try.prog 73 ⟨L3, [.bool], g⟩ :=
 p8 (E := p_span_one_E) (H := b3l) (L := fun N => LT.nil) (c := b3m) (ks := L3) (rs := a2c) (F := a3U) hE mix Try.func73 (by kernel_rfl) (fun N => OkAll.nil) (fun _ _ => by kernel_rfl) hg
noncomputable abbrev a6j : Sig := ⟨[.cat [.int .u64, .int .u64]], [.bool], a3M⟩
noncomputable def p_span_May_E : AE := AE.of [(26, ty26), (28, ty28), (90, ty90)] [(73, a6j)]
noncomputable def a7j : Hints := [(2, [0, 5, 6, 7]), (2000000, [0]), (2000001, [0, 5, 6, 7]), (3000000, [2])]
noncomputable def a3v : Code := (Try.f66).body.getD .skip
noncomputable def a9z : Shape := mkS { tmps := .sc (.vec 0 none 2) :: pv 4 (.sc (.vec 0 none 2) :: .sc (.int .i64) :: .sc (.int .i64) :: pv 26 []), mem := [.live [.xs (.int .u64) none] (.ro)] } [.nat, .nat, .int, .int, .nat, .xs]
abbrev W5 : Type := Nat × Nat × Int × Int × Nat × List Int × Unit
abbrev W6 : Type := (Bool × Unit) ⊕ (Nat × Nat × List Int × Unit)
noncomputable def L2 (N : Nat) (β : Type) (x : W5) (kn : W5 → Option β) (ke : W6 → Option β) : Option β :=
 if (x.2.2.2.1 < x.2.2.1) then
  if 0 ≤ x.2.2.2.1 then (
  if x.2.2.2.1 < ((x.2.1 : Nat) : Int) then (
  if ((x.2.2.2.1.toNat) * 2) + 2 ≤ x.2.2.2.2.1 then (
  (a3M (((List.getD (List.take 1 (List.take 2 (List.drop ((x.2.2.2.1.toNat) * 2) x.2.2.2.2.2.1))) 0 0), (List.getD (List.drop 1 (List.take 2 (List.drop ((x.2.2.2.1.toNat) * 2) x.2.2.2.2.2.1))) 0 0), ()), ())).bind fun r1 => (
  if (¬ (r1 = true)) then
   ke (.inl (false, ()))
  else
   if (x.2.2.2.1 > (0:Int)) then
    if 0 ≤ (IntKind.i64.wrap (x.2.2.2.1 - (1:Int))) then (
    if (IntKind.i64.wrap (x.2.2.2.1 - (1:Int))) < ((x.1 : Nat) : Int) then (
    if (1 + (((IntKind.i64.wrap (x.2.2.2.1 - (1:Int))).toNat) * 2)) < x.2.2.2.2.1 then (
    if ((List.getD (List.take 2 (List.drop ((x.2.2.2.1.toNat) * 2) x.2.2.2.2.2.1)) 0 0) ≤ (List.getD x.2.2.2.2.2.1 (1 + (((IntKind.i64.wrap (x.2.2.2.1 - (1:Int))).toNat) * 2)) 0)) then
     ke (.inl (false, ()))
    else
     kn (x.1, x.2.1, x.2.2.1, (IntKind.i64.wrap (x.2.2.2.1 + (1:Int))), x.2.2.2.2.1, x.2.2.2.2.2.1, ())) else none) else none) else none
   else
    kn (x.1, x.2.1, x.2.2.1, (IntKind.i64.wrap (x.2.2.2.1 + (1:Int))), x.2.2.2.2.1, x.2.2.2.2.2.1, ()))) else none) else none) else none
 else
  ke (.inr (x.1, x.2.2.2.2.1, x.2.2.2.2.2.1, ()))
noncomputable def a77 : Go' W6 := fun y K => match y with
 | .inl y => K .ret (fSt { tmps := V :: V :: .sc (.bool) :: pv 31 [], mem := [] } [.bool] y)
 | .inr y => K (.exit 0) (fSt { tmps := .sc (.vec 0 none 2) :: pv 33 [], mem := [.live [.xs (.int .u64) none] (.ro)] } [.nat, .nat, .xs] y)
noncomputable def a3w (N : Nat) : LT := upd (LT.nil) 2 (a3c a9z N (L2 N) a77)
theorem a78 (N : Nat) : OkAll p_span_May_E a7j N (a3w N) (x9 a3v) :=
 J4 (c := L5 2 a3v) (OkAll.nil) (by kernel_rfl) (fun x => by kernel_rfl) (fun β x kn ke => by kernel_rfl)
abbrev L1 : List Kd := [.sla (.int .u64) 2]
abbrev a2b : List Kd := [.bool]
noncomputable def a3T (N : Nat) (x : List Int × Unit) : Option (Bool) :=
 a5p (L2 N) N ((List.length x.1 / 2), (List.length x.1 / 2), (((List.length x.1 / 2) : Nat) : Int), (0:Int), (List.length x.1), x.1, ()) fun y => (match y with
 | .inl y2 => (
  some y2.1)
 | .inr y3 => (
  some (decide (((y3.1 : Nat) : Int) ≤ (64:Int)))))
theorem b0E (e0 : i0 Try.prog 73 a6j) : p_span_May_E.Ok Try.prog := AE.of_ok (all_cons I7 (all_cons a00 (all_cons b8x c6))) (all_cons ⟨e0, a8K⟩ c6)
theorem b13 (hE : p_span_May_E.Ok Try.prog) {g : Ds L1 → Option (Rs [.bool])} (hg : ∀ x r, g x = some r → ∃ N, a3T N x = some r) : i0 Try.prog 66 ⟨L1, [.bool], g⟩ :=
 p8 (E := p_span_May_E) (H := a7j) (L := fun N => a3w N) (c := a3v) (ks := L1) (rs := a2b) (F := a3T) hE mix Try.func66 (by kernel_rfl) (fun N => a78 N) (fun _ _ => by kernel_rfl) hg
noncomputable def p_octet_Bits_E : AE := AE.of [(4, ty4), (5, ty5), (29, ty29), (43, ty43)] []
noncomputable def a0M : Hints := [(3, [3, 11, 12, 13]), (6, [3, 5, 11, 12, 13, 17]), (2000000, [3]), (2000001, [3, 11, 12, 13]), (2000002, [3, 11, 12, 13]), (2000003, [3, 5, 11, 12, 13, 17]), (3000000, [2])]
noncomputable def G2 : Code := (Try.f40).body.getD .skip
noncomputable def a6Q : Shape := mkS { tmps := pv 3 (.sc (.vec 0 none 1) :: V :: .sc (.int .u8) :: pv 5 (.sc (.vec 1 none 1) :: .sc (.int .i64) :: .sc (.int .i64) :: pv 3 (.sc (.int .i64) :: pv 13 []))), mem := [.live [.xs .bool none] (.own), .live [.xs b8 none] (.ro)] } [.nat, .int, .nat, .int, .int, .int, .nat, .xs, .nat, .xs]
abbrev W7 : Type := Nat × Int × Nat × Int × Int × Int × Nat × List Int × Nat × List Int × Unit
abbrev W8 : Type := Nat × Nat × Int × Int × Nat × List Int × Nat × List Int × Unit
noncomputable def E7 (N : Nat) (β : Type) (x : W7) (kn : W7 → Option β) (ke : W8 → Option β) : Option β :=
 if (x.2.2.2.2.2.1 < (8:Int)) then
  if x.2.2.2.2.2.1 < 0 then none else (
  if (x.1 + 1) * 1 ≤ 140737488355328 then (
  kn ((x.1 + 1), x.2.1, x.2.2.1, x.2.2.2.1, x.2.2.2.2.1, (IntKind.i64.wrap (x.2.2.2.2.2.1 + (1:Int))), (x.2.2.2.2.2.2.1 + 1), (x.2.2.2.2.2.2.2.1 ++ (List.set (List.replicate 1 0) 0 (if ((c0R IntKind.u8 (b8E IntKind.u8 x.2.1 x.2.2.2.2.2.1) (1:Int)) = (1:Int)) then (1:Int) else 0))), x.2.2.2.2.2.2.2.2.1, x.2.2.2.2.2.2.2.2.2.1, ())) else none)
 else
  ke (x.1, x.2.2.1, x.2.2.2.1, x.2.2.2.2.1, x.2.2.2.2.2.2.1, x.2.2.2.2.2.2.2.1, x.2.2.2.2.2.2.2.2.1, x.2.2.2.2.2.2.2.2.2.1, ())
noncomputable def a5K : Go' W8 := fun y K => K (.exit 2) (fSt { tmps := pv 3 (.sc (.vec 0 none 1) :: pv 7 (.sc (.vec 1 none 1) :: .sc (.int .i64) :: .sc (.int .i64) :: pv 17 [])), mem := [.live [.xs .bool none] (.own), .live [.xs b8 none] (.ro)] } [.nat, .nat, .int, .int, .nat, .xs, .nat, .xs] y)
noncomputable def a1s (N : Nat) : LT := upd (LT.nil) 6 (a3c a6Q N (E7 N) a5K)
theorem a5L (N : Nat) : OkAll p_octet_Bits_E a0M N (a1s N) (x9 G2) :=
 J4 (c := L5 6 G2) (OkAll.nil) (by kernel_rfl) (fun x => by kernel_rfl) (fun β x kn ke => by kernel_rfl)
noncomputable def a6P : Shape := mkS { tmps := pv 3 (.sc (.vec 0 none 1) :: pv 7 (.sc (.vec 1 none 1) :: .sc (.int .i64) :: .sc (.int .i64) :: pv 17 [])), mem := [.live [.xs .bool none] (.own), .live [.xs b8 none] (.ro)] } [.nat, .nat, .int, .int, .nat, .xs, .nat, .xs]
noncomputable def E6 (N : Nat) (β : Type) (x : W8) (kn : W8 → Option β) (ke : W3 → Option β) : Option β :=
 if (x.2.2.2.1 < x.2.2.1) then
  if 0 ≤ x.2.2.2.1 then (
  if x.2.2.2.1 < ((x.2.1 : Nat) : Int) then (
  if (x.2.2.2.1.toNat) < x.2.2.2.2.2.2.1 then (
  a5p (E7 N) N (x.1, (List.getD x.2.2.2.2.2.2.2.1 (x.2.2.2.1.toNat) 0), x.2.1, x.2.2.1, x.2.2.2.1, (0:Int), x.2.2.2.2.1, x.2.2.2.2.2.1, x.2.2.2.2.2.2.1, x.2.2.2.2.2.2.2.1, ()) fun y1 => (
  kn (y1.1, y1.2.1, y1.2.2.1, (IntKind.i64.wrap (y1.2.2.2.1 + (1:Int))), y1.2.2.2.2.1, y1.2.2.2.2.2.1, y1.2.2.2.2.2.2.1, y1.2.2.2.2.2.2.2.1, ()))) else none) else none) else none
 else
  ke (x.1, x.2.2.2.2.1, x.2.2.2.2.2.1, ())
noncomputable def a5I : Go' W3 := fun y K => K (.exit 0) (fSt { tmps := pv 3 (.sc (.vec 0 none 1) :: pv 27 []), mem := [.live [.xs .bool none] (.own)] } [.nat, .nat, .xs] y)
noncomputable def a1r (N : Nat) : LT := upd (a1s N) 3 (a3c a6P N (E6 N) a5I)
theorem a5J (N : Nat) : OkAll p_octet_Bits_E a0M N (a1r N) (x9 G2) :=
 J4 (c := L5 3 G2) (a5L N) (by kernel_rfl) (fun x => by kernel_rfl) (fun β x kn ke => by kernel_rfl)
abbrev D4 : List Kd := [.sl b8]
abbrev V0 : List Kd := [.sl .bool]
noncomputable def a0q (N : Nat) (x : List Int × Unit) : Option (List Int) :=
 if 0 ≤ (0:Int) then (
 if (0:Int) ≤ (IntKind.i64.wrap ((8:Int) * (((List.length x.1) : Nat) : Int))) then (
 if (IntKind.i64.wrap ((8:Int) * (((List.length x.1) : Nat) : Int))) * 1 ≤ 281474976710656 then (
 a5p (E6 N) N (0, (List.length x.1), (((List.length x.1) : Nat) : Int), (0:Int), 0, (List.replicate 0 0), (List.length x.1), x.1, ()) fun y2 => (
 some y2.2.2.1)) else none) else none) else none
theorem a7X : p_octet_Bits_E.Ok Try.prog := AE.of_ok (all_cons b38 (all_cons Y0 (all_cons v6 (all_cons b2u c6)))) c6
theorem a9l (hE : p_octet_Bits_E.Ok Try.prog) {g : Ds D4 → Option (Rs [.sl .bool])} (hg : ∀ x r, g x = some r → ∃ N, a0q N x = some r) : i0 Try.prog 40 ⟨D4, [.sl .bool], g⟩ :=
 p8 (E := p_octet_Bits_E) (H := a0M) (L := fun N => a1r N) (c := G2) (ks := D4) (rs := V0) (F := a0q) hE mix Try.func40 (by kernel_rfl) (fun N => a5J N) (fun _ _ => by kernel_rfl) hg
noncomputable def p_msg_Has_E : AE := AE.ofI [] [] [] [] [] [] []
noncomputable def b4A : Hints := [(2000000, []), (3000000, [2])]
noncomputable def b4B : Code := (Try.f12).body.getD .skip
abbrev a3m : List Kd := [.int .i64]
abbrev a3n : List Kd := [.str]
noncomputable def a5E (N : Nat) (x : Int × Unit) : Option (ByteArray) :=
 if (x.1 = (1:Int)) then
  some (⟨#[107, 114, 100, 99]⟩ : ByteArray)
 else
  if (x.1 = (2:Int)) then
   some (⟨#[107, 114, 99, 115]⟩ : ByteArray)
  else
   if (x.1 = (3:Int)) then
    some (⟨#[112, 110, 100]⟩ : ByteArray)
   else
    if (x.1 = (4:Int)) then
     some (⟨#[110, 100]⟩ : ByteArray)
    else
     if (x.1 = (5:Int)) then
      some (⟨#[107, 114, 115]⟩ : ByteArray)
     else
      if (x.1 = (6:Int)) then
       some (⟨#[107, 114, 115]⟩ : ByteArray)
      else
       some (⟨#[]⟩ : ByteArray)
theorem b1J : p_msg_Has_E.Ok Try.prog := AE.ofI_ok c6 c6 c6 c6 c6
theorem b3a (hE : p_msg_Has_E.Ok Try.prog) {g : Ds [.int .i64] → Option (Rs [.str])} (hg : ∀ x r, g x = some r → ∃ N, a5E N x = some r) : i0 Try.prog 12 ⟨[.int .i64], [.str], g⟩ :=
 p8 (E := p_msg_Has_E) (H := b4A) (L := fun N => LT.nil) (c := b4B) (ks := a3m) (rs := a3n) (F := a5E) hE mix Try.func12 (by kernel_rfl) (fun N => OkAll.nil) (fun _ _ => by kernel_rfl) hg
noncomputable def p_msg_Name_E : AE := AE.of [(9, ty9), (52, ty52)] []
noncomputable def b3b : Hints := [(3000000, [2])]
noncomputable def b3c : Code := (Try.f14).body.getD .skip
abbrev a1W : List Kd := [.int .i64]
abbrev a1X : List Kd := [.str]
noncomputable def a1p (N : Nat) (x : Int × Unit) : Option (ByteArray) :=
 if (x.1 < (0:Int)) then
  some (⟨#[]⟩ : ByteArray)
 else
  if (x.1 ≥ (9:Int)) then
   some (⟨#[]⟩ : ByteArray)
  else
   if 0 ≤ x.1 then (
   if x.1 < 9 then (
   if (x.1.toNat) = 0 then
    some (⟨#[]⟩ : ByteArray)
   else
    if (x.1.toNat) = 1 then
     some (⟨#[111, 102, 102, 101, 114]⟩ : ByteArray)
    else
     if (x.1.toNat) = 2 then
      some (⟨#[97, 99, 99, 101, 112, 116]⟩ : ByteArray)
     else
      if (x.1.toNat) = 3 then
       some (⟨#[99, 104, 117, 110, 107]⟩ : ByteArray)
      else
       if (x.1.toNat) = 4 then
        some (⟨#[104, 97, 118, 101]⟩ : ByteArray)
       else
        if (x.1.toNat) = 5 then
         some (⟨#[99, 111, 110, 102, 105, 114, 109]⟩ : ByteArray)
        else
         if (x.1.toNat) = 6 then
          some (⟨#[114, 101, 102, 117, 115, 101]⟩ : ByteArray)
         else
          if (x.1.toNat) = 7 then
           some (⟨#[99, 97, 110, 99, 101, 108]⟩ : ByteArray)
          else
           if (x.1.toNat) = 8 then (
           some (⟨#[112, 114, 111, 98, 101]⟩ : ByteArray)) else none) else none) else none
theorem b0g : p_msg_Name_E.Ok Try.prog := AE.of_ok (all_cons a9X (all_cons c0L c6)) c6
theorem b1K (hE : p_msg_Name_E.Ok Try.prog) {g : Ds [.int .i64] → Option (Rs [.str])} (hg : ∀ x r, g x = some r → ∃ N, a1p N x = some r) : i0 Try.prog 14 ⟨[.int .i64], [.str], g⟩ :=
 p8 (E := p_msg_Name_E) (H := b3b) (L := fun N => LT.nil) (c := b3c) (ks := a1W) (rs := a1X) (F := a1p) hE mix Try.func14 (by kernel_rfl) (fun N => OkAll.nil) (fun _ _ => by kernel_rfl) hg
noncomputable def p_ref21_Name_E : AE := AE.of [(9, ty9), (53, ty53)] []
noncomputable def b0y : Hints := [(3000000, [2])]
noncomputable def b0z : Code := (Try.f15).body.getD .skip
abbrev X1 : List Kd := [.int .i64]
abbrev X2 : List Kd := [.str]
noncomputable def P8 (N : Nat) (x : Int × Unit) : Option (ByteArray) :=
 if (x.1 < (1:Int)) then
  some (⟨#[]⟩ : ByteArray)
 else
  if (x.1 > (8:Int)) then
   some (⟨#[]⟩ : ByteArray)
  else
   if 0 ≤ x.1 then (
   if x.1 < (9:Int) then (
   if (x.1.toNat) = 0 then
    some (⟨#[]⟩ : ByteArray)
   else
    if (x.1.toNat) = 1 then
     some (⟨#[111, 102, 102, 101, 114]⟩ : ByteArray)
    else
     if (x.1.toNat) = 2 then
      some (⟨#[97, 99, 99, 101, 112, 116]⟩ : ByteArray)
     else
      if (x.1.toNat) = 3 then
       some (⟨#[99, 104, 117, 110, 107]⟩ : ByteArray)
      else
       if (x.1.toNat) = 4 then
        some (⟨#[104, 97, 118, 101]⟩ : ByteArray)
       else
        if (x.1.toNat) = 5 then
         some (⟨#[99, 111, 110, 102, 105, 114, 109]⟩ : ByteArray)
        else
         if (x.1.toNat) = 6 then
          some (⟨#[114, 101, 102, 117, 115, 101]⟩ : ByteArray)
         else
          if (x.1.toNat) = 7 then
           some (⟨#[99, 97, 110, 99, 101, 108]⟩ : ByteArray)
          else
           if (x.1.toNat) = 8 then (
           some (⟨#[112, 114, 111, 98, 101]⟩ : ByteArray)) else none) else none) else none
theorem a75 : p_ref21_Name_E.Ok Try.prog := AE.of_ok (all_cons a9X (all_cons c0M c6)) c6
theorem a9w (hE : p_ref21_Name_E.Ok Try.prog) {g : Ds [.int .i64] → Option (Rs [.str])} (hg : ∀ x r, g x = some r → ∃ N, P8 N x = some r) : i0 Try.prog 15 ⟨[.int .i64], [.str], g⟩ :=
 p8 (E := p_ref21_Name_E) (H := b0y) (L := fun N => LT.nil) (c := b0z) (ks := X1) (rs := X2) (F := P8) hE mix Try.func15 (by kernel_rfl) (fun N => OkAll.nil) (fun _ _ => by kernel_rfl) hg
noncomputable def p_msg_has_E : AE := AE.ofI [(9, ty9)] [] [] [(12, a8P)] [11] [(2, 8)] []
noncomputable def b4E : Hints := [(3000000, [4])]
noncomputable def b4F : Code := (Try.f36).body.getD .skip
abbrev P2 : List Kd := [.int .i64, .int .i32]
abbrev a3q : List Kd := [.bool]
noncomputable def a3p (N : Nat) (x : Int × Int × Unit) : Option (Bool) :=
 if (x.1 = (1:Int)) then
  if ((107:Int) = x.2.1) then
   some true
  else
   if ((114:Int) = x.2.1) then
    some true
   else
    if ((100:Int) = x.2.1) then
     some true
    else
     if ((99:Int) = x.2.1) then
      some true
     else
      some false
 else
  if (x.1 = (2:Int)) then
   if ((107:Int) = x.2.1) then
    some true
   else
    if ((114:Int) = x.2.1) then
     some true
    else
     if ((99:Int) = x.2.1) then
      some true
     else
      if ((115:Int) = x.2.1) then
       some true
      else
       some false
  else
   if (x.1 = (3:Int)) then
    if ((112:Int) = x.2.1) then
     some true
    else
     if ((110:Int) = x.2.1) then
      some true
     else
      if ((100:Int) = x.2.1) then
       some true
      else
       some false
   else
    if (x.1 = (4:Int)) then
     if ((110:Int) = x.2.1) then
      some true
     else
      if ((100:Int) = x.2.1) then
       some true
      else
       some false
    else
     if (x.1 = (5:Int)) then
      if ((107:Int) = x.2.1) then
       some true
      else
       if ((114:Int) = x.2.1) then
        some true
       else
        if ((115:Int) = x.2.1) then
         some true
        else
         some false
     else
      if (x.1 = (6:Int)) then
       if ((107:Int) = x.2.1) then
        some true
       else
        if ((114:Int) = x.2.1) then
         some true
        else
         if ((115:Int) = x.2.1) then
          some true
         else
          some false
      else
       some false
theorem b1N : p_msg_has_E.Ok Try.prog := AE.ofI_ok (all_cons a9X c6) c6 c6 (all_cons ⟨a7e, a0D⟩ c6) c6
theorem b3g (hE : p_msg_has_E.Ok Try.prog) {g : Ds P2 → Option (Rs [.bool])} (hg : ∀ x r, g x = some r → ∃ N, a3p N x = some r) : i0 Try.prog 36 ⟨P2, [.bool], g⟩ :=
 p8 (E := p_msg_has_E) (H := b4E) (L := fun N => LT.nil) (c := b4F) (ks := P2) (rs := a3q) (F := a3p) hE mix Try.func36 (by kernel_rfl) (fun N => OkAll.nil) (fun _ _ => by kernel_rfl) hg
noncomputable def p_msg_device_E : AE := AE.of [] []
noncomputable def b0h : Hints := [(3000000, [2])]
noncomputable def b0i : Code := (Try.f43).body.getD .skip
abbrev U3 : List Kd := [.int .i64]
abbrev U4 : List Kd := [.bool]
noncomputable def a0o (N : Nat) (x : Int × Unit) : Option (Bool) :=
 if (x.1 ≥ (0:Int)) then
  some (decide (x.1 < (16:Int)))
 else
  some false
theorem a7R : p_msg_device_E.Ok Try.prog := AE.of_ok c6 c6
theorem a9f (hE : p_msg_device_E.Ok Try.prog) {g : Ds [.int .i64] → Option (Rs [.bool])} (hg : ∀ x r, g x = some r → ∃ N, a0o N x = some r) : i0 Try.prog 43 ⟨[.int .i64], [.bool], g⟩ :=
 p8 (E := p_msg_device_E) (H := b0h) (L := fun N => LT.nil) (c := b0i) (ks := U3) (rs := U4) (F := a0o) hE mix Try.func43 (by kernel_rfl) (fun N => OkAll.nil) (fun _ _ => by kernel_rfl) hg
noncomputable def p_msg_most_E : AE := AE.of [] []
noncomputable def b3h : Hints := [(3000000, [2])]
noncomputable def b3i : Code := (Try.f47).body.getD .skip
abbrev a1Y : List Kd := [.int .i64]
abbrev a1Z : List Kd := [.int .i64]
noncomputable def a3S (N : Nat) (x : Int × Unit) : Option (Int) :=
 if (x.1 = (1:Int)) then
  some (68:Int)
 else
  some (1024:Int)
theorem b0k : p_msg_most_E.Ok Try.prog := AE.of_ok c6 c6
theorem b1O (hE : p_msg_most_E.Ok Try.prog) {g : Ds [.int .i64] → Option (Rs [.int .i64])} (hg : ∀ x r, g x = some r → ∃ N, a3S N x = some r) : i0 Try.prog 47 ⟨[.int .i64], [.int .i64], g⟩ :=
 p8 (E := p_msg_most_E) (H := b3h) (L := fun N => LT.nil) (c := b3i) (ks := a1Y) (rs := a1Z) (F := a3S) hE mix Try.func47 (by kernel_rfl) (fun N => OkAll.nil) (fun _ _ => by kernel_rfl) hg
noncomputable def p_msg_within_E : AE := AE.of [(29, ty29)] []
noncomputable def b0p : Hints := [(3000000, [6])]
noncomputable def b0q : Code := (Try.f46).body.getD .skip
abbrev D3 : List Kd := [.bool, .sl b8, .int .i64]
abbrev U8 : List Kd := [.bool]
noncomputable def P6 (N : Nat) (x : Bool × List Int × Int × Unit) : Option (Bool) :=
 if (¬ (x.1 = true)) then
  some (decide ((((List.length x.2.1) : Nat) : Int) = (0:Int)))
 else
  if ((((List.length x.2.1) : Nat) : Int) ≥ (1:Int)) then
   some (decide ((((List.length x.2.1) : Nat) : Int) ≤ x.2.2.1))
  else
   some false
theorem a7V : p_msg_within_E.Ok Try.prog := AE.of_ok (all_cons v6 c6) c6
theorem a9j (hE : p_msg_within_E.Ok Try.prog) {g : Ds D3 → Option (Rs [.bool])} (hg : ∀ x r, g x = some r → ∃ N, P6 N x = some r) : i0 Try.prog 46 ⟨D3, [.bool], g⟩ :=
 p8 (E := p_msg_within_E) (H := b0p) (L := fun N => LT.nil) (c := b0q) (ks := D3) (rs := U8) (F := P6) hE mix Try.func46 (by kernel_rfl) (fun N => OkAll.nil) (fun _ _ => by kernel_rfl) hg
noncomputable abbrev a2O : Sig := ⟨[.sl b8], [.sl .bool], a0b⟩
noncomputable def p_msg_marked_E : AE := AE.of [(4, ty4), (29, ty29), (43, ty43)] [(40, a2O)]
noncomputable def a4r : Hints := [(4, [0, 14, 15, 16]), (2000000, []), (2000001, [0, 14, 15, 16]), (3000000, [4])]
noncomputable def a0L : Code := (Try.f48).body.getD .skip
noncomputable def a6N : Shape := mkS { tmps := .sc (.int .i64) :: pv 13 (.sc (.vec 0 none 1) :: .sc (.int .i64) :: .sc (.int .i64) :: pv 11 []), mem := [.live [.xs .bool none] (.own)] } [.int, .nat, .int, .int, .nat, .xs]
abbrev W9 : Type := Int × Nat × Int × Int × Nat × List Int × Unit
abbrev W10 : Type := (Bool × Unit) ⊕ (Unit)
noncomputable def M8 (N : Nat) (β : Type) (x : W9) (kn : W9 → Option β) (ke : W10 → Option β) : Option β :=
 if (x.2.2.2.1 < x.2.2.1) then
  if 0 ≤ x.2.2.2.1 then (
  if x.2.2.2.1 < ((x.2.1 : Nat) : Int) then (
  if (x.2.2.2.1.toNat) < x.2.2.2.2.1 then (
  if ((List.getD x.2.2.2.2.2.1 (x.2.2.2.1.toNat) 0) ≠ 0) then
   if (x.2.2.2.1 ≥ x.1) then
    ke (.inl (false, ()))
   else
    kn (x.1, x.2.1, x.2.2.1, (IntKind.i64.wrap (x.2.2.2.1 + (1:Int))), x.2.2.2.2.1, x.2.2.2.2.2.1, ())
  else
   kn (x.1, x.2.1, x.2.2.1, (IntKind.i64.wrap (x.2.2.2.1 + (1:Int))), x.2.2.2.2.1, x.2.2.2.2.2.1, ())) else none) else none) else none
 else
  ke (.inr (()))
noncomputable def a5F : Go' W10 := fun y K => match y with
 | .inl y => K .ret (fSt { tmps := pv 4 (.sc (.bool) :: pv 23 []), mem := [] } [.bool] y)
 | .inr y => K (.exit 0) (fSt { tmps := pv 28 [], mem := [] } [] ())
noncomputable def a1q (N : Nat) : LT := upd (LT.nil) 4 (a3c a6N N (M8 N) a5F)
theorem a5G (N : Nat) : OkAll p_msg_marked_E a4r N (a1q N) (x9 a0L) :=
 J4 (c := L5 4 a0L) (OkAll.nil) (by kernel_rfl) (fun x => by kernel_rfl) (fun β x kn ke => by kernel_rfl)
abbrev D0 : List Kd := [.int .i64, .sl b8]
abbrev U5 : List Kd := [.bool]
noncomputable def P3 (N : Nat) (x : Int × List Int × Unit) : Option (Bool) :=
 if ((((List.length x.2.1) : Nat) : Int) ≠ (IntKind.i64.wrap (Int.tdiv (IntKind.i64.wrap (x.1 + (7:Int))) (8:Int)))) then
  some false
 else
  (a0b (x.2.1, ())).bind fun r1 => (
  a5p (M8 N) N (x.1, (List.length r1), (((List.length r1) : Nat) : Int), (0:Int), (List.length r1), r1, ()) fun y => (match y with
  | .inl y2 => (
   some y2.1)
  | .inr y3 => (
   some true)))
theorem a7S (e0 : i0 Try.prog 40 a2O) : p_msg_marked_E.Ok Try.prog := AE.of_ok (all_cons b38 (all_cons v6 (all_cons b2u c6))) (all_cons ⟨e0, a6w⟩ c6)
theorem a9g (hE : p_msg_marked_E.Ok Try.prog) {g : Ds D0 → Option (Rs [.bool])} (hg : ∀ x r, g x = some r → ∃ N, P3 N x = some r) : i0 Try.prog 48 ⟨D0, [.bool], g⟩ :=
 p8 (E := p_msg_marked_E) (H := a4r) (L := fun N => a1q N) (c := a0L) (ks := D0) (rs := U5) (F := P3) hE mix Try.func48 (by kernel_rfl) (fun N => a5G N) (fun _ _ => by kernel_rfl) hg
noncomputable abbrev T0 : Sig := ⟨[.int .i64, .int .i32], [.bool], K3⟩
noncomputable abbrev a6i : Sig := ⟨[.sla (.int .u64) 2], [.bool], a3L⟩
noncomputable def p_msg_ranged_E : AE := AE.ofQ [(3, ty3), (25, ty25), (26, ty26), (28, ty28), (31, ty31), (90, ty90)] [(36, T0), (66, a6i)] [(28, .u64, 2)]
noncomputable def b0n : Hints := [(3000000, [2])]
noncomputable def b0o : Code := (Try.f44).body.getD .skip
abbrev D2 : List Kd := [.cat [.int .i64, .int .i64, .int .i64, .int .u32, .int .u32, .int .u64, .int .u64, .int .i64, .int .i64, .sl b8, .sl b8, .sl b8]]
abbrev U7 : List Kd := [.bool]
noncomputable def P5 (N : Nat) (x : (Int × Int × Int × Int × Int × Int × Int × Int × Int × List Int × List Int × List Int × Unit) × Unit) : Option (Bool) :=
 (K3 (x.1.1, (114:Int), ())).bind fun r1 => (
 if (¬ (r1 = true)) then
  if ((x.1.2.2.2.2.2.1 :: (x.1.2.2.2.2.2.2.1 :: [])) = (List.replicate 2 0)) then
   some (decide (x.1.2.2.2.2.1 = (0:Int)))
  else
   some false
 else
  (a3L ((x.1.2.2.2.2.2.1 :: (x.1.2.2.2.2.2.2.1 :: [])), ())).bind fun r2 => (
  some (decide (r2 = true))))
theorem a7U (e0 : i0 Try.prog 36 T0) (e1 : i0 Try.prog 66 a6i) : p_msg_ranged_E.Ok Try.prog := AE.ofQ_ok (all_cons X9 (all_cons a2k (all_cons I7 (all_cons a00 (all_cons N5 (all_cons b8x c6)))))) (all_cons ⟨e0, a0E⟩ (all_cons ⟨e1, a8J⟩ c6)) (all_cons A0 c6)
theorem a9i (hE : p_msg_ranged_E.Ok Try.prog) {g : Ds D2 → Option (Rs [.bool])} (hg : ∀ x r, g x = some r → ∃ N, P5 N x = some r) : i0 Try.prog 44 ⟨D2, [.bool], g⟩ :=
 p8 (E := p_msg_ranged_E) (H := b0n) (L := fun N => LT.nil) (c := b0o) (ks := D2) (rs := U7) (F := P5) hE mix Try.func44 (by kernel_rfl) (fun N => OkAll.nil) (fun _ _ => by kernel_rfl) hg
noncomputable def p_msg_parted_E : AE := AE.ofQ [(3, ty3), (4, ty4), (31, ty31)] [(36, T0)] [(28, .u64, 2)]
noncomputable def b0l : Hints := [(3000000, [2])]
noncomputable def b0m : Code := (Try.f45).body.getD .skip
abbrev D1 : List Kd := [.cat [.int .i64, .int .i64, .int .i64, .int .u32, .int .u32, .int .u64, .int .u64, .int .i64, .int .i64, .sl b8, .sl b8, .sl b8]]
abbrev U6 : List Kd := [.bool]
noncomputable def P4 (N : Nat) (x : (Int × Int × Int × Int × Int × Int × Int × Int × Int × List Int × List Int × List Int × Unit) × Unit) : Option (Bool) :=
 (K3 (x.1.1, (110:Int), ())).bind fun r1 => (
 if ((decide (r1 = true)) ≠ (decide (x.1.2.2.2.2.2.2.2.2.1 ≠ (0:Int)))) then
  some false
 else
  if (x.1.2.2.2.2.2.2.2.2.1 < (0:Int)) then
   some false
  else
   if (x.1.2.2.2.2.2.2.2.2.1 > (256:Int)) then
    some false
   else
    (K3 (x.1.1, (112:Int), ())).bind fun r2 => (
    if (¬ (r2 = true)) then
     some (decide (x.1.2.2.2.2.2.2.2.1 = (0:Int)))
    else
     if (x.1.2.2.2.2.2.2.2.1 ≥ (0:Int)) then
      some (decide (x.1.2.2.2.2.2.2.2.1 < x.1.2.2.2.2.2.2.2.2.1))
     else
      some false))
theorem a7T (e0 : i0 Try.prog 36 T0) : p_msg_parted_E.Ok Try.prog := AE.ofQ_ok (all_cons X9 (all_cons b38 (all_cons N5 c6))) (all_cons ⟨e0, a0E⟩ c6) (all_cons A0 c6)
theorem a9h (hE : p_msg_parted_E.Ok Try.prog) {g : Ds D1 → Option (Rs [.bool])} (hg : ∀ x r, g x = some r → ∃ N, P4 N x = some r) : i0 Try.prog 45 ⟨D1, [.bool], g⟩ :=
 p8 (E := p_msg_parted_E) (H := b0l) (L := fun N => LT.nil) (c := b0m) (ks := D1) (rs := U6) (F := P4) hE mix Try.func45 (by kernel_rfl) (fun N => OkAll.nil) (fun _ _ => by kernel_rfl) hg
noncomputable abbrev a01 : Sig := ⟨[.int .i64], [.str], a07⟩
noncomputable abbrev a2J : Sig := ⟨[.int .i64], [.bool], O5⟩
noncomputable abbrev a2M : Sig := ⟨[.cat [.int .i64, .int .i64, .int .i64, .int .u32, .int .u32, .int .u64, .int .u64, .int .i64, .int .i64, .sl b8, .sl b8, .sl b8]], [.bool], a0a⟩
noncomputable abbrev a2L : Sig := ⟨[.cat [.int .i64, .int .i64, .int .i64, .int .u32, .int .u32, .int .u64, .int .u64, .int .i64, .int .i64, .sl b8, .sl b8, .sl b8]], [.bool], Z9⟩
noncomputable abbrev a6g : Sig := ⟨[.int .i64], [.int .i64], a3K⟩
noncomputable abbrev a2N : Sig := ⟨[.bool, .sl b8, .int .i64], [.bool], J0⟩
noncomputable abbrev a2K : Sig := ⟨[.int .i64, .sl b8], [.bool], Z7⟩
noncomputable def p_msg_Check_E : AE := AE.ofQ [(3, ty3), (29, ty29), (31, ty31)] [(14, a01), (43, a2J), (44, a2M), (45, a2L), (36, T0), (47, a6g), (46, a2N), (48, a2K)] [(28, .u64, 2)]
noncomputable def b1G : Hints := [(3000000, [2])]
noncomputable def b1H : Code := (Try.f25).body.getD .skip
abbrev F9 : List Kd := [.cat [.int .i64, .int .i64, .int .i64, .int .u32, .int .u32, .int .u64, .int .u64, .int .i64, .int .i64, .sl b8, .sl b8, .sl b8]]
abbrev a0I : List Kd := [.int .i64]
noncomputable def U1 (N : Nat) (x : (Int × Int × Int × Int × Int × Int × Int × Int × Int × List Int × List Int × List Int × Unit) × Unit) : Option (Int) :=
 (a07 (x.1.1, ())).bind fun r1 => (
 if (r1 = (⟨#[]⟩ : ByteArray)) then
  some (211:Int)
 else
  (O5 (x.1.2.1, ())).bind fun r2 => (
  if (r2 = true) then
   (O5 (x.1.2.2.1, ())).bind fun r3 => (
   if (r3 = true) then
    if (x.1.2.1 ≠ x.1.2.2.1) then
     (a0a ((x.1.1, x.1.2.1, x.1.2.2.1, x.1.2.2.2.1, x.1.2.2.2.2.1, x.1.2.2.2.2.2.1, x.1.2.2.2.2.2.2.1, x.1.2.2.2.2.2.2.2.1, x.1.2.2.2.2.2.2.2.2.1, x.1.2.2.2.2.2.2.2.2.2.1, x.1.2.2.2.2.2.2.2.2.2.2.1, x.1.2.2.2.2.2.2.2.2.2.2.2.1, ()), ())).bind fun r4 => (
     if (r4 = true) then
      (Z9 ((x.1.1, x.1.2.1, x.1.2.2.1, x.1.2.2.2.1, x.1.2.2.2.2.1, x.1.2.2.2.2.2.1, x.1.2.2.2.2.2.2.1, x.1.2.2.2.2.2.2.2.1, x.1.2.2.2.2.2.2.2.2.1, x.1.2.2.2.2.2.2.2.2.2.1, x.1.2.2.2.2.2.2.2.2.2.2.1, x.1.2.2.2.2.2.2.2.2.2.2.2.1, ()), ())).bind fun r5 => (
      if (r5 = true) then
       (K3 (x.1.1, (100:Int), ())).bind fun r6 => (
       (a3K (x.1.1, ())).bind fun r7 => (
       (J0 ((decide (r6 = true)), x.1.2.2.2.2.2.2.2.2.2.1, r7, ())).bind fun r8 => (
       if (r8 = true) then
        (K3 (x.1.1, (99:Int), ())).bind fun r9 => (
        (J0 ((decide (r9 = true)), x.1.2.2.2.2.2.2.2.2.2.2.1, (6446:Int), ())).bind fun r10 => (
        if (r10 = true) then
         (K3 (x.1.1, (115:Int), ())).bind fun r11 => (
         (J0 ((decide (r11 = true)), x.1.2.2.2.2.2.2.2.2.2.2.2.1, (3309:Int), ())).bind fun r12 => (
         if (¬ (r12 = true)) then
          some (210:Int)
         else
          if (x.1.1 = (4:Int)) then
           (Z7 (x.1.2.2.2.2.2.2.2.2.1, x.1.2.2.2.2.2.2.2.2.2.1, ())).bind fun r13 => (
           if (¬ (r13 = true)) then
            some (210:Int)
           else
            some (0:Int))
          else
           some (0:Int)))
        else
         some (210:Int)))
       else
        some (210:Int))))
      else
       some (210:Int))
     else
      some (210:Int))
    else
     some (210:Int)
   else
    some (210:Int))
  else
   some (210:Int)))
theorem a9b (e0 : i0 Try.prog 14 a01) (e1 : i0 Try.prog 43 a2J) (e2 : i0 Try.prog 44 a2M) (e3 : i0 Try.prog 45 a2L) (e4 : i0 Try.prog 36 T0) (e5 : i0 Try.prog 47 a6g) (e6 : i0 Try.prog 46 a2N) (e7 : i0 Try.prog 48 a2K) : p_msg_Check_E.Ok Try.prog := AE.ofQ_ok (all_cons X9 (all_cons v6 (all_cons N5 c6))) (all_cons ⟨e0, a2Y⟩ (all_cons ⟨e1, a6r⟩ (all_cons ⟨e2, a6u⟩ (all_cons ⟨e3, a6t⟩ (all_cons ⟨e4, a0E⟩ (all_cons ⟨e5, a8H⟩ (all_cons ⟨e6, a6v⟩ (all_cons ⟨e7, a6s⟩ c6)))))))) (all_cons A0 c6)
theorem b0d (hE : p_msg_Check_E.Ok Try.prog) {g : Ds F9 → Option (Rs [.int .i64])} (hg : ∀ x r, g x = some r → ∃ N, U1 N x = some r) : i0 Try.prog 25 ⟨F9, [.int .i64], g⟩ :=
 p8 (E := p_msg_Check_E) (H := b1G) (L := fun N => LT.nil) (c := b1H) (ks := F9) (rs := a0I) (F := U1) hE mix Try.func25 (by kernel_rfl) (fun N => OkAll.nil) (fun _ _ => by kernel_rfl) hg
noncomputable abbrev a4x : Sig := ⟨[.int .u64, .int .i64], [.sl b8, .int .i64], c7⟩
noncomputable abbrev a4y : Sig := ⟨[.int .u16], [.sl b8], n9⟩
noncomputable abbrev a2P : Sig := ⟨[.sls b8], [.sl b8], o7⟩
noncomputable def p_msg_form_E : AE := AE.ofI [(3, ty3), (5, ty5), (29, ty29), (31, ty31), (42, ty42), (69, ty69), (73, ty73), (79, ty79), (81, ty81), (84, ty84)] [(62, a4x), (61, a4y), (37, a2P)] [(28, .u64, 2)] [(57, a23), (63, a8S), (90, a1P), (91, T7), (92, a1Q), (93, a1O), (94, a0G)] [19, 20, 28] [(3, 20)] [(81, "livery/msg.at", 90), (95, "livery/msg.at", 91), (98, "livery/msg.at", 92), (101, "livery/msg.at", 93), (102, "livery/msg.at", 94)]
noncomputable def b3e : Hints := [(3000000, [4])]
noncomputable def b3f : Code := (Try.f34).body.getD .skip
abbrev K7 : List Kd := [.cat [.int .i64, .int .i64, .int .i64, .int .u32, .int .u32, .int .u64, .int .u64, .int .i64, .int .i64, .sl b8, .sl b8, .sl b8], .bool]
abbrev K8 : List Kd := [.sl b8]
noncomputable def j4 (N : Nat) (x : (Int × Int × Int × Int × Int × Int × Int × Int × Int × List Int × List Int × List Int × Unit) × Bool × Unit) : Option (List Int) :=
 if (x.1.1 = (1:Int)) then
  if (3 + 1) * 16 ≤ 140737488355328 then (
  if (4 + 2) * 16 ≤ 140737488355328 then (
  if (6 + 1) * 16 ≤ 140737488355328 then (
  if (7 + 1) * 16 ≤ 140737488355328 then (
  (c7 ((IntKind.u64.wrap x.1.2.1), (1:Int), ())).bind fun r1 => (
  if (1 + (List.length r1.1)) * 1 ≤ 140737488355328 then (
  (c7 ((IntKind.u64.wrap x.1.2.2.1), (1:Int), ())).bind fun r2 => (
  if ((1 + (List.length r1.1)) + (List.length r2.1)) * 1 ≤ 140737488355328 then (
  (c7 ((IntKind.u64.wrap x.1.2.2.2.1), (4:Int), ())).bind fun r3 => (
  if (((1 + (List.length r1.1)) + (List.length r2.1)) + (List.length r3.1)) * 1 ≤ 140737488355328 then (
  (c7 ((IntKind.u64.wrap x.1.2.2.2.2.1), (4:Int), ())).bind fun r4 => (
  if ((((1 + (List.length r1.1)) + (List.length r2.1)) + (List.length r3.1)) + (List.length r4.1)) * 1 ≤ 140737488355328 then (
  (c7 (x.1.2.2.2.2.2.1, (8:Int), ())).bind fun r5 => (
  if (((((1 + (List.length r1.1)) + (List.length r2.1)) + (List.length r3.1)) + (List.length r4.1)) + (List.length r5.1)) * 1 ≤ 140737488355328 then (
  (c7 (x.1.2.2.2.2.2.2.1, (8:Int), ())).bind fun r6 => (
  if ((((((1 + (List.length r1.1)) + (List.length r2.1)) + (List.length r3.1)) + (List.length r4.1)) + (List.length r5.1)) + (List.length r6.1)) * 1 ≤ 140737488355328 then (
  (n9 ((IntKind.u16.wrap ((List.length x.1.2.2.2.2.2.2.2.2.2.1 : Nat) : Int)), ())).bind fun r7 => (
  (o7 ([(((((((List.set (List.replicate 1 0) 0 (IntKind.u8.wrap x.1.1)) ++ r1.1) ++ r2.1) ++ r3.1) ++ r4.1) ++ r5.1) ++ r6.1), r7, x.1.2.2.2.2.2.2.2.2.2.1], ())).bind fun r8 => (
  (n9 ((IntKind.u16.wrap ((List.length x.1.2.2.2.2.2.2.2.2.2.2.1 : Nat) : Int)), ())).bind fun r9 => (
  (o7 ([r8, r9, x.1.2.2.2.2.2.2.2.2.2.2.1], ())).bind fun r10 => (
  some r10))))) else none)) else none)) else none)) else none)) else none)) else none)) else none) else none) else none) else none
 else
  if (x.1.1 = (2:Int)) then
   if (3 + 1) * 16 ≤ 140737488355328 then (
   if (4 + 2) * 16 ≤ 140737488355328 then (
   if (6 + 1) * 16 ≤ 140737488355328 then (
   if (x.2.1 = true) then
    if (7 + 1) * 16 ≤ 140737488355328 then (
    (c7 ((IntKind.u64.wrap x.1.2.1), (1:Int), ())).bind fun r11 => (
    if (1 + (List.length r11.1)) * 1 ≤ 140737488355328 then (
    (c7 ((IntKind.u64.wrap x.1.2.2.1), (1:Int), ())).bind fun r12 => (
    if ((1 + (List.length r11.1)) + (List.length r12.1)) * 1 ≤ 140737488355328 then (
    (c7 ((IntKind.u64.wrap x.1.2.2.2.1), (4:Int), ())).bind fun r13 => (
    if (((1 + (List.length r11.1)) + (List.length r12.1)) + (List.length r13.1)) * 1 ≤ 140737488355328 then (
    (c7 ((IntKind.u64.wrap x.1.2.2.2.2.1), (4:Int), ())).bind fun r14 => (
    if ((((1 + (List.length r11.1)) + (List.length r12.1)) + (List.length r13.1)) + (List.length r14.1)) * 1 ≤ 140737488355328 then (
    (c7 (x.1.2.2.2.2.2.1, (8:Int), ())).bind fun r15 => (
    if (((((1 + (List.length r11.1)) + (List.length r12.1)) + (List.length r13.1)) + (List.length r14.1)) + (List.length r15.1)) * 1 ≤ 140737488355328 then (
    (c7 (x.1.2.2.2.2.2.2.1, (8:Int), ())).bind fun r16 => (
    if ((((((1 + (List.length r11.1)) + (List.length r12.1)) + (List.length r13.1)) + (List.length r14.1)) + (List.length r15.1)) + (List.length r16.1)) * 1 ≤ 140737488355328 then (
    (n9 ((IntKind.u16.wrap ((List.length x.1.2.2.2.2.2.2.2.2.2.2.1 : Nat) : Int)), ())).bind fun r17 => (
    (o7 ([(((((((List.set (List.replicate 1 0) 0 (IntKind.u8.wrap x.1.1)) ++ r11.1) ++ r12.1) ++ r13.1) ++ r14.1) ++ r15.1) ++ r16.1), r17, x.1.2.2.2.2.2.2.2.2.2.2.1], ())).bind fun r18 => (
    (n9 ((IntKind.u16.wrap ((List.length x.1.2.2.2.2.2.2.2.2.2.2.2.1 : Nat) : Int)), ())).bind fun r19 => (
    (o7 ([r18, r19, x.1.2.2.2.2.2.2.2.2.2.2.2.1], ())).bind fun r20 => (
    some r20))))) else none)) else none)) else none)) else none)) else none)) else none)) else none
   else
    (c7 ((IntKind.u64.wrap x.1.2.1), (1:Int), ())).bind fun r21 => (
    if (1 + (List.length r21.1)) * 1 ≤ 140737488355328 then (
    (c7 ((IntKind.u64.wrap x.1.2.2.1), (1:Int), ())).bind fun r22 => (
    if ((1 + (List.length r21.1)) + (List.length r22.1)) * 1 ≤ 140737488355328 then (
    (c7 ((IntKind.u64.wrap x.1.2.2.2.1), (4:Int), ())).bind fun r23 => (
    if (((1 + (List.length r21.1)) + (List.length r22.1)) + (List.length r23.1)) * 1 ≤ 140737488355328 then (
    (c7 ((IntKind.u64.wrap x.1.2.2.2.2.1), (4:Int), ())).bind fun r24 => (
    if ((((1 + (List.length r21.1)) + (List.length r22.1)) + (List.length r23.1)) + (List.length r24.1)) * 1 ≤ 140737488355328 then (
    (c7 (x.1.2.2.2.2.2.1, (8:Int), ())).bind fun r25 => (
    if (((((1 + (List.length r21.1)) + (List.length r22.1)) + (List.length r23.1)) + (List.length r24.1)) + (List.length r25.1)) * 1 ≤ 140737488355328 then (
    (c7 (x.1.2.2.2.2.2.2.1, (8:Int), ())).bind fun r26 => (
    if ((((((1 + (List.length r21.1)) + (List.length r22.1)) + (List.length r23.1)) + (List.length r24.1)) + (List.length r25.1)) + (List.length r26.1)) * 1 ≤ 140737488355328 then (
    (n9 ((IntKind.u16.wrap ((List.length x.1.2.2.2.2.2.2.2.2.2.2.1 : Nat) : Int)), ())).bind fun r27 => (
    (o7 ([(((((((List.set (List.replicate 1 0) 0 (IntKind.u8.wrap x.1.1)) ++ r21.1) ++ r22.1) ++ r23.1) ++ r24.1) ++ r25.1) ++ r26.1), r27, x.1.2.2.2.2.2.2.2.2.2.2.1], ())).bind fun r28 => (
    some r28))) else none)) else none)) else none)) else none)) else none)) else none)) else none) else none) else none
  else
   if (x.1.1 = (3:Int)) then
    if (3 + 1) * 16 ≤ 140737488355328 then (
    if (4 + 1) * 16 ≤ 140737488355328 then (
    if (5 + 1) * 16 ≤ 140737488355328 then (
    (c7 ((IntKind.u64.wrap x.1.2.1), (1:Int), ())).bind fun r29 => (
    if (1 + (List.length r29.1)) * 1 ≤ 140737488355328 then (
    (c7 ((IntKind.u64.wrap x.1.2.2.1), (1:Int), ())).bind fun r30 => (
    if ((1 + (List.length r29.1)) + (List.length r30.1)) * 1 ≤ 140737488355328 then (
    (c7 ((IntKind.u64.wrap x.1.2.2.2.1), (4:Int), ())).bind fun r31 => (
    if (((1 + (List.length r29.1)) + (List.length r30.1)) + (List.length r31.1)) * 1 ≤ 140737488355328 then (
    (c7 ((IntKind.u64.wrap x.1.2.2.2.2.2.2.2.1), (2:Int), ())).bind fun r32 => (
    if ((((1 + (List.length r29.1)) + (List.length r30.1)) + (List.length r31.1)) + (List.length r32.1)) * 1 ≤ 140737488355328 then (
    (c7 ((IntKind.u64.wrap x.1.2.2.2.2.2.2.2.2.1), (2:Int), ())).bind fun r33 => (
    if (((((1 + (List.length r29.1)) + (List.length r30.1)) + (List.length r31.1)) + (List.length r32.1)) + (List.length r33.1)) * 1 ≤ 140737488355328 then (
    (n9 ((IntKind.u16.wrap ((List.length x.1.2.2.2.2.2.2.2.2.2.1 : Nat) : Int)), ())).bind fun r34 => (
    (o7 ([((((((List.set (List.replicate 1 0) 0 (IntKind.u8.wrap x.1.1)) ++ r29.1) ++ r30.1) ++ r31.1) ++ r32.1) ++ r33.1), r34, x.1.2.2.2.2.2.2.2.2.2.1], ())).bind fun r35 => (
    some r35))) else none)) else none)) else none)) else none)) else none)) else none) else none) else none
   else
    if (x.1.1 = (4:Int)) then
     if (3 + 1) * 16 ≤ 140737488355328 then (
     if (4 + 1) * 16 ≤ 140737488355328 then (
     (c7 ((IntKind.u64.wrap x.1.2.1), (1:Int), ())).bind fun r36 => (
     if (1 + (List.length r36.1)) * 1 ≤ 140737488355328 then (
     (c7 ((IntKind.u64.wrap x.1.2.2.1), (1:Int), ())).bind fun r37 => (
     if ((1 + (List.length r36.1)) + (List.length r37.1)) * 1 ≤ 140737488355328 then (
     (c7 ((IntKind.u64.wrap x.1.2.2.2.1), (4:Int), ())).bind fun r38 => (
     if (((1 + (List.length r36.1)) + (List.length r37.1)) + (List.length r38.1)) * 1 ≤ 140737488355328 then (
     (c7 ((IntKind.u64.wrap x.1.2.2.2.2.2.2.2.2.1), (2:Int), ())).bind fun r39 => (
     if ((((1 + (List.length r36.1)) + (List.length r37.1)) + (List.length r38.1)) + (List.length r39.1)) * 1 ≤ 140737488355328 then (
     (n9 ((IntKind.u16.wrap ((List.length x.1.2.2.2.2.2.2.2.2.2.1 : Nat) : Int)), ())).bind fun r40 => (
     (o7 ([(((((List.set (List.replicate 1 0) 0 (IntKind.u8.wrap x.1.1)) ++ r36.1) ++ r37.1) ++ r38.1) ++ r39.1), r40, x.1.2.2.2.2.2.2.2.2.2.1], ())).bind fun r41 => (
     some r41))) else none)) else none)) else none)) else none)) else none) else none
    else
     if (x.1.1 = (5:Int)) then
      if (3 + 1) * 16 ≤ 140737488355328 then (
      if (4 + 2) * 16 ≤ 140737488355328 then (
      if (x.2.1 = true) then
       if (6 + 1) * 16 ≤ 140737488355328 then (
       (c7 ((IntKind.u64.wrap x.1.2.1), (1:Int), ())).bind fun r42 => (
       if (1 + (List.length r42.1)) * 1 ≤ 140737488355328 then (
       (c7 ((IntKind.u64.wrap x.1.2.2.1), (1:Int), ())).bind fun r43 => (
       if ((1 + (List.length r42.1)) + (List.length r43.1)) * 1 ≤ 140737488355328 then (
       (c7 ((IntKind.u64.wrap x.1.2.2.2.1), (4:Int), ())).bind fun r44 => (
       if (((1 + (List.length r42.1)) + (List.length r43.1)) + (List.length r44.1)) * 1 ≤ 140737488355328 then (
       (c7 ((IntKind.u64.wrap x.1.2.2.2.2.1), (4:Int), ())).bind fun r45 => (
       if ((((1 + (List.length r42.1)) + (List.length r43.1)) + (List.length r44.1)) + (List.length r45.1)) * 1 ≤ 140737488355328 then (
       (c7 (x.1.2.2.2.2.2.1, (8:Int), ())).bind fun r46 => (
       if (((((1 + (List.length r42.1)) + (List.length r43.1)) + (List.length r44.1)) + (List.length r45.1)) + (List.length r46.1)) * 1 ≤ 140737488355328 then (
       (c7 (x.1.2.2.2.2.2.2.1, (8:Int), ())).bind fun r47 => (
       if ((((((1 + (List.length r42.1)) + (List.length r43.1)) + (List.length r44.1)) + (List.length r45.1)) + (List.length r46.1)) + (List.length r47.1)) * 1 ≤ 140737488355328 then (
       (n9 ((IntKind.u16.wrap ((List.length x.1.2.2.2.2.2.2.2.2.2.2.2.1 : Nat) : Int)), ())).bind fun r48 => (
       (o7 ([(((((((List.set (List.replicate 1 0) 0 (IntKind.u8.wrap x.1.1)) ++ r42.1) ++ r43.1) ++ r44.1) ++ r45.1) ++ r46.1) ++ r47.1), r48, x.1.2.2.2.2.2.2.2.2.2.2.2.1], ())).bind fun r49 => (
       some r49))) else none)) else none)) else none)) else none)) else none)) else none)) else none
      else
       (c7 ((IntKind.u64.wrap x.1.2.1), (1:Int), ())).bind fun r50 => (
       if (1 + (List.length r50.1)) * 1 ≤ 140737488355328 then (
       (c7 ((IntKind.u64.wrap x.1.2.2.1), (1:Int), ())).bind fun r51 => (
       if ((1 + (List.length r50.1)) + (List.length r51.1)) * 1 ≤ 140737488355328 then (
       (c7 ((IntKind.u64.wrap x.1.2.2.2.1), (4:Int), ())).bind fun r52 => (
       if (((1 + (List.length r50.1)) + (List.length r51.1)) + (List.length r52.1)) * 1 ≤ 140737488355328 then (
       (c7 ((IntKind.u64.wrap x.1.2.2.2.2.1), (4:Int), ())).bind fun r53 => (
       if ((((1 + (List.length r50.1)) + (List.length r51.1)) + (List.length r52.1)) + (List.length r53.1)) * 1 ≤ 140737488355328 then (
       (c7 (x.1.2.2.2.2.2.1, (8:Int), ())).bind fun r54 => (
       if (((((1 + (List.length r50.1)) + (List.length r51.1)) + (List.length r52.1)) + (List.length r53.1)) + (List.length r54.1)) * 1 ≤ 140737488355328 then (
       (c7 (x.1.2.2.2.2.2.2.1, (8:Int), ())).bind fun r55 => (
       if ((((((1 + (List.length r50.1)) + (List.length r51.1)) + (List.length r52.1)) + (List.length r53.1)) + (List.length r54.1)) + (List.length r55.1)) * 1 ≤ 140737488355328 then (
       some (((((((List.set (List.replicate 1 0) 0 (IntKind.u8.wrap x.1.1)) ++ r50.1) ++ r51.1) ++ r52.1) ++ r53.1) ++ r54.1) ++ r55.1)) else none)) else none)) else none)) else none)) else none)) else none)) else none) else none
     else
      if (x.1.1 = (6:Int)) then
       if (3 + 1) * 16 ≤ 140737488355328 then (
       if (4 + 2) * 16 ≤ 140737488355328 then (
       if (x.2.1 = true) then
        if (6 + 1) * 16 ≤ 140737488355328 then (
        (c7 ((IntKind.u64.wrap x.1.2.1), (1:Int), ())).bind fun r56 => (
        if (1 + (List.length r56.1)) * 1 ≤ 140737488355328 then (
        (c7 ((IntKind.u64.wrap x.1.2.2.1), (1:Int), ())).bind fun r57 => (
        if ((1 + (List.length r56.1)) + (List.length r57.1)) * 1 ≤ 140737488355328 then (
        (c7 ((IntKind.u64.wrap x.1.2.2.2.1), (4:Int), ())).bind fun r58 => (
        if (((1 + (List.length r56.1)) + (List.length r57.1)) + (List.length r58.1)) * 1 ≤ 140737488355328 then (
        (c7 ((IntKind.u64.wrap x.1.2.2.2.2.1), (4:Int), ())).bind fun r59 => (
        if ((((1 + (List.length r56.1)) + (List.length r57.1)) + (List.length r58.1)) + (List.length r59.1)) * 1 ≤ 140737488355328 then (
        (c7 (x.1.2.2.2.2.2.1, (8:Int), ())).bind fun r60 => (
        if (((((1 + (List.length r56.1)) + (List.length r57.1)) + (List.length r58.1)) + (List.length r59.1)) + (List.length r60.1)) * 1 ≤ 140737488355328 then (
        (c7 (x.1.2.2.2.2.2.2.1, (8:Int), ())).bind fun r61 => (
        if ((((((1 + (List.length r56.1)) + (List.length r57.1)) + (List.length r58.1)) + (List.length r59.1)) + (List.length r60.1)) + (List.length r61.1)) * 1 ≤ 140737488355328 then (
        (n9 ((IntKind.u16.wrap ((List.length x.1.2.2.2.2.2.2.2.2.2.2.2.1 : Nat) : Int)), ())).bind fun r62 => (
        (o7 ([(((((((List.set (List.replicate 1 0) 0 (IntKind.u8.wrap x.1.1)) ++ r56.1) ++ r57.1) ++ r58.1) ++ r59.1) ++ r60.1) ++ r61.1), r62, x.1.2.2.2.2.2.2.2.2.2.2.2.1], ())).bind fun r63 => (
        some r63))) else none)) else none)) else none)) else none)) else none)) else none)) else none
       else
        (c7 ((IntKind.u64.wrap x.1.2.1), (1:Int), ())).bind fun r64 => (
        if (1 + (List.length r64.1)) * 1 ≤ 140737488355328 then (
        (c7 ((IntKind.u64.wrap x.1.2.2.1), (1:Int), ())).bind fun r65 => (
        if ((1 + (List.length r64.1)) + (List.length r65.1)) * 1 ≤ 140737488355328 then (
        (c7 ((IntKind.u64.wrap x.1.2.2.2.1), (4:Int), ())).bind fun r66 => (
        if (((1 + (List.length r64.1)) + (List.length r65.1)) + (List.length r66.1)) * 1 ≤ 140737488355328 then (
        (c7 ((IntKind.u64.wrap x.1.2.2.2.2.1), (4:Int), ())).bind fun r67 => (
        if ((((1 + (List.length r64.1)) + (List.length r65.1)) + (List.length r66.1)) + (List.length r67.1)) * 1 ≤ 140737488355328 then (
        (c7 (x.1.2.2.2.2.2.1, (8:Int), ())).bind fun r68 => (
        if (((((1 + (List.length r64.1)) + (List.length r65.1)) + (List.length r66.1)) + (List.length r67.1)) + (List.length r68.1)) * 1 ≤ 140737488355328 then (
        (c7 (x.1.2.2.2.2.2.2.1, (8:Int), ())).bind fun r69 => (
        if ((((((1 + (List.length r64.1)) + (List.length r65.1)) + (List.length r66.1)) + (List.length r67.1)) + (List.length r68.1)) + (List.length r69.1)) * 1 ≤ 140737488355328 then (
        some (((((((List.set (List.replicate 1 0) 0 (IntKind.u8.wrap x.1.1)) ++ r64.1) ++ r65.1) ++ r66.1) ++ r67.1) ++ r68.1) ++ r69.1)) else none)) else none)) else none)) else none)) else none)) else none)) else none) else none
      else
       (c7 ((IntKind.u64.wrap x.1.2.1), (1:Int), ())).bind fun r70 => (
       if (1 + (List.length r70.1)) * 1 ≤ 140737488355328 then (
       (c7 ((IntKind.u64.wrap x.1.2.2.1), (1:Int), ())).bind fun r71 => (
       if ((1 + (List.length r70.1)) + (List.length r71.1)) * 1 ≤ 140737488355328 then (
       (c7 ((IntKind.u64.wrap x.1.2.2.2.1), (4:Int), ())).bind fun r72 => (
       if (((1 + (List.length r70.1)) + (List.length r71.1)) + (List.length r72.1)) * 1 ≤ 140737488355328 then (
       some ((((List.set (List.replicate 1 0) 0 (IntKind.u8.wrap x.1.1)) ++ r70.1) ++ r71.1) ++ r72.1)) else none)) else none)) else none)
theorem b0j (e0 : i0 Try.prog 62 a4x) (e1 : i0 Try.prog 61 a4y) (e2 : i0 Try.prog 37 a2P) : p_msg_form_E.Ok Try.prog := AE.ofI_ok (all_cons X9 (all_cons Y0 (all_cons v6 (all_cons N5 (all_cons a9W (all_cons b5b (all_cons b5c (all_cons b5e (all_cons b5f (all_cons b8w c6)))))))))) (all_cons ⟨e0, a7D⟩ (all_cons ⟨e1, a7E⟩ (all_cons ⟨e2, a6x⟩ c6))) (all_cons A0 c6) (all_cons ⟨a24, a03⟩ (all_cons ⟨a96, a7C⟩ (all_cons ⟨a2t, Z2⟩ (all_cons ⟨a0f, R8⟩ (all_cons ⟨a2u, Z4⟩ (all_cons ⟨a2s, Z1⟩ (all_cons ⟨a1a, T5⟩ c6))))))) (all_cons b9S (all_cons b9T (all_cons b9U (all_cons b7O (all_cons b7P c6)))))
theorem b1M (hE : p_msg_form_E.Ok Try.prog) {g : Ds K7 → Option (Rs K8)} (hg : ∀ x r, g x = some r → ∃ N, j4 N x = some r) : i0 Try.prog 34 ⟨K7, K8, g⟩ :=
 p8 (E := p_msg_form_E) (H := b3e) (L := fun N => LT.nil) (c := b3f) (ks := K7) (rs := K8) (F := j4) hE mix Try.func34 (by kernel_rfl) (fun N => OkAll.nil) (fun _ _ => by kernel_rfl) hg
noncomputable abbrev S9 : Sig := ⟨[.cat [.int .i64, .int .i64, .int .i64, .int .u32, .int .u32, .int .u64, .int .u64, .int .i64, .int .i64, .sl b8, .sl b8, .sl b8]], [.int .i64], y9⟩
noncomputable abbrev a6f : Sig := ⟨[.cat [.int .i64, .int .i64, .int .i64, .int .u32, .int .u32, .int .u64, .int .u64, .int .i64, .int .i64, .sl b8, .sl b8, .sl b8], .bool], [.sl b8], a3J⟩
noncomputable def p_msg_Put_E : AE := AE.ofQ [(31, ty31)] [(25, S9), (34, a6f)] [(28, .u64, 2)]
noncomputable def b4C : Hints := [(3000000, [2, 3])]
noncomputable def b4D : Code := (Try.f17).body.getD .skip
abbrev P0 : List Kd := [.cat [.int .i64, .int .i64, .int .i64, .int .u32, .int .u32, .int .u64, .int .u64, .int .i64, .int .i64, .sl b8, .sl b8, .sl b8]]
abbrev P1 : List Kd := [.sl b8, .int .i64]
noncomputable def a3o (N : Nat) (x : (Int × Int × Int × Int × Int × Int × Int × Int × Int × List Int × List Int × List Int × Unit) × Unit) : Option (List Int × Int) :=
 (y9 ((x.1.1, x.1.2.1, x.1.2.2.1, x.1.2.2.2.1, x.1.2.2.2.2.1, x.1.2.2.2.2.2.1, x.1.2.2.2.2.2.2.1, x.1.2.2.2.2.2.2.2.1, x.1.2.2.2.2.2.2.2.2.1, x.1.2.2.2.2.2.2.2.2.2.1, x.1.2.2.2.2.2.2.2.2.2.2.1, x.1.2.2.2.2.2.2.2.2.2.2.2.1, ()), ())).bind fun r1 => (
 if (r1 ≠ (0:Int)) then
  some ([], r1)
 else
  (a3J ((x.1.1, x.1.2.1, x.1.2.2.1, x.1.2.2.2.1, x.1.2.2.2.2.1, x.1.2.2.2.2.2.1, x.1.2.2.2.2.2.2.1, x.1.2.2.2.2.2.2.2.1, x.1.2.2.2.2.2.2.2.2.1, x.1.2.2.2.2.2.2.2.2.2.1, x.1.2.2.2.2.2.2.2.2.2.2.1, x.1.2.2.2.2.2.2.2.2.2.2.2.1, ()), true, ())).bind fun r2 => (
  some (r2, (0:Int))))
theorem b1L (e0 : i0 Try.prog 25 S9) (e1 : i0 Try.prog 34 a6f) : p_msg_Put_E.Ok Try.prog := AE.ofQ_ok (all_cons N5 c6) (all_cons ⟨e0, a2o⟩ (all_cons ⟨e1, a8G⟩ c6)) (all_cons A0 c6)
theorem b3d (hE : p_msg_Put_E.Ok Try.prog) {g : Ds P0 → Option (Rs P1)} (hg : ∀ x r, g x = some r → ∃ N, a3o N x = some r) : i0 Try.prog 17 ⟨P0, P1, g⟩ :=
 p8 (E := p_msg_Put_E) (H := b4C) (L := fun N => LT.nil) (c := b4D) (ks := P0) (rs := P1) (F := a3o) hE mix Try.func17 (by kernel_rfl) (fun N => OkAll.nil) (fun _ _ => by kernel_rfl) hg
noncomputable abbrev a8q : Sig := ⟨[.cat [.int .i64, .int .i64, .int .i64, .int .u32, .int .u32, .int .u64, .int .u64, .int .i64, .int .i64, .sl b8, .sl b8, .sl b8]], [.sl b8, .int .i64], a5o⟩
noncomputable abbrev A7 : Sig := ⟨[.sl b8, .sl b8], [.bool], u6⟩
noncomputable abbrev a8p : Sig := ⟨[.int .i64], [.str], a5n⟩
noncomputable def p_law21_live_E : AE := AE.ofQ [(3, ty3), (5, ty5), (25, ty25), (28, ty28), (29, ty29), (31, ty31)] [(17, a8q), (19, A7), (12, a8p)] [(28, .u64, 2)]
noncomputable def b0b : Hints := [(3000000, [0])]
noncomputable def b0c : Code := (Try.f11).body.getD .skip
abbrev a3i : List Kd := []
abbrev a3j : List Kd := [.bool]
noncomputable def a0j (N : Nat) (x : Unit) : Option (Bool) :=
 (a5o (((List.getD (List.set [0] 0 (8:Int)) 0 0), (List.getD (List.set [0] 0 (1:Int)) 0 0), (List.getD (List.set [0] 0 (2:Int)) 0 0), (List.getD (List.set [0] 0 (3:Int)) 0 0), (List.getD [0] 0 0), (List.getD (List.take 1 (List.replicate 2 0)) 0 0), (List.getD (List.drop 1 (List.replicate 2 0)) 0 0), (List.getD [0] 0 0), (List.getD [0] 0 0), [], [], [], ()), ())).bind fun r1 => (
 (u6 (r1.1, (List.set (List.set (List.set (List.set (List.set (List.set (List.set (List.replicate 7 0) 0 (8:Int)) 1 (1:Int)) 2 (2:Int)) 3 (0:Int)) 4 (0:Int)) 5 (0:Int)) 6 (3:Int)), ())).bind fun r2 => (
 if (r2 = true) then
  if (r1.2 = (0:Int)) then
   (a5n ((3:Int), ())).bind fun r3 => (
   some (decide (r3 = (⟨#[112, 110, 100]⟩ : ByteArray))))
  else
   some false
 else
  some false))
theorem a7L (e0 : i0 Try.prog 17 a8q) (e1 : i0 Try.prog 19 A7) (e2 : i0 Try.prog 12 a8p) : p_law21_live_E.Ok Try.prog := AE.ofQ_ok (all_cons X9 (all_cons Y0 (all_cons a2k (all_cons a00 (all_cons v6 (all_cons N5 c6)))))) (all_cons ⟨e0, a93⟩ (all_cons ⟨e1, J8⟩ (all_cons ⟨e2, a0D⟩ c6))) (all_cons A0 c6)
theorem a9a (hE : p_law21_live_E.Ok Try.prog) {g : Ds [] → Option (Rs [.bool])} (hg : ∀ x r, g x = some r → ∃ N, a0j N x = some r) : i0 Try.prog 11 ⟨[], [.bool], g⟩ :=
 p8 (E := p_law21_live_E) (H := b0b) (L := fun N => LT.nil) (c := b0c) (ks := a3i) (rs := a3j) (F := a0j) hE mix Try.func11 (by kernel_rfl) (fun N => OkAll.nil) (fun _ _ => by kernel_rfl) hg
noncomputable def p_ref21_has_E : AE := AE.ofI [(9, ty9)] [] [(28, .u64, 2)] [(13, a4N)] [11] [(2, 8)] []
noncomputable def b1X : Hints := [(3000000, [4])]
noncomputable def b1Y : Code := (Try.f38).body.getD .skip
abbrev H1 : List Kd := [.int .i64, .int .i32]
abbrev a0S : List Kd := [.bool]
noncomputable def X4 (N : Nat) (x : Int × Int × Unit) : Option (Bool) :=
 if (x.1 = (1:Int)) then
  if ((107:Int) = x.2.1) then
   some true
  else
   if ((114:Int) = x.2.1) then
    some true
   else
    if ((100:Int) = x.2.1) then
     some true
    else
     if ((99:Int) = x.2.1) then
      some true
     else
      some false
 else
  if (x.1 = (2:Int)) then
   if ((107:Int) = x.2.1) then
    some true
   else
    if ((114:Int) = x.2.1) then
     some true
    else
     if ((99:Int) = x.2.1) then
      some true
     else
      if ((115:Int) = x.2.1) then
       some true
      else
       some false
  else
   if (x.1 = (3:Int)) then
    if ((112:Int) = x.2.1) then
     some true
    else
     if ((110:Int) = x.2.1) then
      some true
     else
      if ((100:Int) = x.2.1) then
       some true
      else
       some false
   else
    if (x.1 = (4:Int)) then
     if ((110:Int) = x.2.1) then
      some true
     else
      if ((100:Int) = x.2.1) then
       some true
      else
       some false
    else
     if (x.1 = (5:Int)) then
      if ((107:Int) = x.2.1) then
       some true
      else
       if ((114:Int) = x.2.1) then
        some true
       else
        if ((115:Int) = x.2.1) then
         some true
        else
         some false
     else
      if (x.1 = (6:Int)) then
       if ((107:Int) = x.2.1) then
        some true
       else
        if ((114:Int) = x.2.1) then
         some true
        else
         if ((115:Int) = x.2.1) then
          some true
         else
          some false
      else
       some false
theorem a9y : p_ref21_has_E.Ok Try.prog := AE.ofI_ok (all_cons a9X c6) c6 (all_cons A0 c6) (all_cons ⟨a4n, a2q⟩ c6) c6
theorem b0C (hE : p_ref21_has_E.Ok Try.prog) {g : Ds H1 → Option (Rs [.bool])} (hg : ∀ x r, g x = some r → ∃ N, X4 N x = some r) : i0 Try.prog 38 ⟨H1, [.bool], g⟩ :=
 p8 (E := p_ref21_has_E) (H := b1X) (L := fun N => LT.nil) (c := b1Y) (ks := H1) (rs := a0S) (F := X4) hE mix Try.func38 (by kernel_rfl) (fun N => OkAll.nil) (fun _ _ => by kernel_rfl) hg
noncomputable def p_ref21_so_E : AE := AE.ofQ [(29, ty29)] [] [(28, .u64, 2)]
noncomputable def b3j : Hints := [(3000000, [6])]
noncomputable def b3k : Code := (Try.f50).body.getD .skip
abbrev L0 : List Kd := [.bool, .sl b8, .int .i64]
abbrev a2a : List Kd := [.bool]
noncomputable def a1z (N : Nat) (x : Bool × List Int × Int × Unit) : Option (Bool) :=
 if (x.1 = true) then
  if ((((List.length x.2.1) : Nat) : Int) ≥ (1:Int)) then
   if ((((List.length x.2.1) : Nat) : Int) ≤ x.2.2.1) then
    some true
   else
    if (¬ (x.1 = true)) then
     some (decide ((((List.length x.2.1) : Nat) : Int) = (0:Int)))
    else
     some false
  else
   if (¬ (x.1 = true)) then
    some (decide ((((List.length x.2.1) : Nat) : Int) = (0:Int)))
   else
    some false
 else
  if (¬ (x.1 = true)) then
   some (decide ((((List.length x.2.1) : Nat) : Int) = (0:Int)))
  else
   some false
theorem b0D : p_ref21_so_E.Ok Try.prog := AE.ofQ_ok (all_cons v6 c6) c6 (all_cons A0 c6)
theorem b1Z (hE : p_ref21_so_E.Ok Try.prog) {g : Ds L0 → Option (Rs [.bool])} (hg : ∀ x r, g x = some r → ∃ N, a1z N x = some r) : i0 Try.prog 50 ⟨L0, [.bool], g⟩ :=
 p8 (E := p_ref21_so_E) (H := b3j) (L := fun N => LT.nil) (c := b3k) (ks := L0) (rs := a2a) (F := a1z) hE mix Try.func50 (by kernel_rfl) (fun N => OkAll.nil) (fun _ _ => by kernel_rfl) hg
noncomputable abbrev a2R : Sig := ⟨[.sl b8], [.sl .bool], a0d⟩
noncomputable def p_ref21_marked_E : AE := AE.ofQ [(4, ty4), (29, ty29), (43, ty43)] [(41, a2R)] [(28, .u64, 2)]
noncomputable def a2A : Hints := [(4, [0, 14, 15, 16]), (2000000, []), (2000001, [0, 14, 15, 16]), (3000000, [4])]
noncomputable def R4 : Code := (Try.f51).body.getD .skip
noncomputable def a46 : Shape := mkS { tmps := .sc (.int .i64) :: pv 13 (.sc (.vec 0 none 1) :: .sc (.int .i64) :: .sc (.int .i64) :: pv 11 []), mem := [.live [.xs .bool none] (.own)] } [.int, .nat, .int, .int, .nat, .xs]
noncomputable def I6 (N : Nat) (β : Type) (x : W9) (kn : W9 → Option β) (ke : W10 → Option β) : Option β :=
 if (x.2.2.2.1 < x.2.2.1) then
  if 0 ≤ x.2.2.2.1 then (
  if x.2.2.2.1 < ((x.2.1 : Nat) : Int) then (
  if (x.2.2.2.1.toNat) < x.2.2.2.2.1 then (
  if ((List.getD x.2.2.2.2.2.1 (x.2.2.2.1.toNat) 0) ≠ 0) then
   if (x.2.2.2.1 ≥ x.1) then
    ke (.inl (false, ()))
   else
    kn (x.1, x.2.1, x.2.2.1, (IntKind.i64.wrap (x.2.2.2.1 + (1:Int))), x.2.2.2.2.1, x.2.2.2.2.2.1, ())
  else
   kn (x.1, x.2.1, x.2.2.1, (IntKind.i64.wrap (x.2.2.2.1 + (1:Int))), x.2.2.2.2.1, x.2.2.2.2.2.1, ())) else none) else none) else none
 else
  ke (.inr (()))
noncomputable def a4d : Go' W10 := fun y K => match y with
 | .inl y => K .ret (fSt { tmps := pv 4 (.sc (.bool) :: pv 23 []), mem := [] } [.bool] y)
 | .inr y => K (.exit 0) (fSt { tmps := pv 28 [], mem := [] } [] ())
noncomputable def X5 (N : Nat) : LT := upd (LT.nil) 4 (a3c a46 N (I6 N) a4d)
theorem a4e (N : Nat) : OkAll p_ref21_marked_E a2A N (X5 N) (x9 R4) :=
 J4 (c := L5 4 R4) (OkAll.nil) (by kernel_rfl) (fun x => by kernel_rfl) (fun β x kn ke => by kernel_rfl)
abbrev z8 : List Kd := [.int .i64, .sl b8]
abbrev N0 : List Kd := [.bool]
noncomputable def H2 (N : Nat) (x : Int × List Int × Unit) : Option (Bool) :=
 if ((((List.length x.2.1) : Nat) : Int) ≠ (IntKind.i64.wrap (Int.tdiv (IntKind.i64.wrap (x.1 + (7:Int))) (8:Int)))) then
  some false
 else
  (a0d (x.2.1, ())).bind fun r1 => (
  a5p (I6 N) N (x.1, (List.length r1), (((List.length r1) : Nat) : Int), (0:Int), (List.length r1), r1, ()) fun y => (match y with
  | .inl y2 => (
   some y2.1)
  | .inr y3 => (
   some true)))
theorem a50 (e0 : i0 Try.prog 41 a2R) : p_ref21_marked_E.Ok Try.prog := AE.ofQ_ok (all_cons b38 (all_cons v6 (all_cons b2u c6))) (all_cons ⟨e0, a6z⟩ c6) (all_cons A0 c6)
theorem a61 (hE : p_ref21_marked_E.Ok Try.prog) {g : Ds z8 → Option (Rs [.bool])} (hg : ∀ x r, g x = some r → ∃ N, H2 N x = some r) : i0 Try.prog 51 ⟨z8, [.bool], g⟩ :=
 p8 (E := p_ref21_marked_E) (H := a2A) (L := fun N => X5 N) (c := R4) (ks := z8) (rs := N0) (F := H2) hE mix Try.func51 (by kernel_rfl) (fun N => a4e N) (fun _ _ => by kernel_rfl) hg
noncomputable def p_ref01_Bits_E : AE := AE.ofQ [(3, ty3), (4, ty4), (5, ty5), (29, ty29), (43, ty43)] [] [(28, .u64, 2)]
noncomputable def a0P : Hints := [(3, [3, 8, 9, 10]), (7, [3, 6, 8, 9, 10, 16]), (2000000, [3]), (2000001, [3, 8, 9, 10]), (2000002, [3, 8, 9, 10]), (2000003, [3, 6, 8, 9, 10, 16]), (3000000, [2])]
noncomputable def G7 : Code := (Try.f41).body.getD .skip
noncomputable def a6W : Shape := mkS { tmps := pv 3 (.sc (.vec 0 none 1) :: V :: V :: .sc (.int .i64) :: V :: .sc (.vec 1 none 1) :: .sc (.int .i64) :: .sc (.int .i64) :: pv 5 (.sc (.int .i64) :: pv 12 [])), mem := [.live [.xs .bool none] (.own), .live [.xs b8 none] (.ro)] } [.nat, .int, .nat, .int, .int, .int, .nat, .xs, .nat, .xs]
noncomputable def E9 (N : Nat) (β : Type) (x : W7) (kn : W7 → Option β) (ke : W8 → Option β) : Option β :=
 if (x.2.2.2.2.2.1 < (8:Int)) then
  if (x.1 + 1) * 1 ≤ 140737488355328 then (
  kn ((x.1 + 1), (IntKind.i64.wrap (Int.tdiv x.2.1 (2:Int))), x.2.2.1, x.2.2.2.1, x.2.2.2.2.1, (IntKind.i64.wrap (x.2.2.2.2.2.1 + (1:Int))), (x.2.2.2.2.2.2.1 + 1), (x.2.2.2.2.2.2.2.1 ++ (List.set (List.replicate 1 0) 0 (if ((Int.tmod x.2.1 (2:Int)) = (1:Int)) then (1:Int) else 0))), x.2.2.2.2.2.2.2.2.1, x.2.2.2.2.2.2.2.2.2.1, ())) else none
 else
  ke (x.1, x.2.2.1, x.2.2.2.1, x.2.2.2.2.1, x.2.2.2.2.2.2.1, x.2.2.2.2.2.2.2.1, x.2.2.2.2.2.2.2.2.1, x.2.2.2.2.2.2.2.2.2.1, ())
noncomputable def a5T : Go' W8 := fun y K => K (.exit 2) (fSt { tmps := pv 3 (.sc (.vec 0 none 1) :: pv 4 (.sc (.vec 1 none 1) :: .sc (.int .i64) :: .sc (.int .i64) :: pv 18 [])), mem := [.live [.xs .bool none] (.own), .live [.xs b8 none] (.ro)] } [.nat, .nat, .int, .int, .nat, .xs, .nat, .xs] y)
noncomputable def a1w (N : Nat) : LT := upd (LT.nil) 7 (a3c a6W N (E9 N) a5T)
theorem a5U (N : Nat) : OkAll p_ref01_Bits_E a0P N (a1w N) (x9 G7) :=
 J4 (c := L5 7 G7) (OkAll.nil) (by kernel_rfl) (fun x => by kernel_rfl) (fun β x kn ke => by kernel_rfl)
noncomputable def a6V : Shape := mkS { tmps := pv 3 (.sc (.vec 0 none 1) :: pv 4 (.sc (.vec 1 none 1) :: .sc (.int .i64) :: .sc (.int .i64) :: pv 18 [])), mem := [.live [.xs .bool none] (.own), .live [.xs b8 none] (.ro)] } [.nat, .nat, .int, .int, .nat, .xs, .nat, .xs]
noncomputable def E8 (N : Nat) (β : Type) (x : W8) (kn : W8 → Option β) (ke : W3 → Option β) : Option β :=
 if (x.2.2.2.1 < x.2.2.1) then
  if 0 ≤ x.2.2.2.1 then (
  if x.2.2.2.1 < ((x.2.1 : Nat) : Int) then (
  if (x.2.2.2.1.toNat) < x.2.2.2.2.2.2.1 then (
  a5p (E9 N) N (x.1, (IntKind.i64.wrap (List.getD x.2.2.2.2.2.2.2.1 (x.2.2.2.1.toNat) 0)), x.2.1, x.2.2.1, x.2.2.2.1, (0:Int), x.2.2.2.2.1, x.2.2.2.2.2.1, x.2.2.2.2.2.2.1, x.2.2.2.2.2.2.2.1, ()) fun y1 => (
  kn (y1.1, y1.2.1, y1.2.2.1, (IntKind.i64.wrap (y1.2.2.2.1 + (1:Int))), y1.2.2.2.2.1, y1.2.2.2.2.2.1, y1.2.2.2.2.2.2.1, y1.2.2.2.2.2.2.2.1, ()))) else none) else none) else none
 else
  ke (x.1, x.2.2.2.2.1, x.2.2.2.2.2.1, ())
noncomputable def a5R : Go' W3 := fun y K => K (.exit 0) (fSt { tmps := pv 3 (.sc (.vec 0 none 1) :: pv 25 []), mem := [.live [.xs .bool none] (.own)] } [.nat, .nat, .xs] y)
noncomputable def a1v (N : Nat) : LT := upd (a1w N) 3 (a3c a6V N (E8 N) a5R)
theorem a5S (N : Nat) : OkAll p_ref01_Bits_E a0P N (a1v N) (x9 G7) :=
 J4 (c := L5 3 G7) (a5U N) (by kernel_rfl) (fun x => by kernel_rfl) (fun β x kn ke => by kernel_rfl)
abbrev D8 : List Kd := [.sl b8]
abbrev V2 : List Kd := [.sl .bool]
noncomputable def a0s (N : Nat) (x : List Int × Unit) : Option (List Int) :=
 a5p (E8 N) N (0, (List.length x.1), (((List.length x.1) : Nat) : Int), (0:Int), 0, (List.replicate 0 0), (List.length x.1), x.1, ()) fun y2 => (
 some y2.2.2.1)
theorem a71 : p_ref01_Bits_E.Ok Try.prog := AE.ofQ_ok (all_cons X9 (all_cons b38 (all_cons Y0 (all_cons v6 (all_cons b2u c6))))) c6 (all_cons A0 c6)
theorem a9q (hE : p_ref01_Bits_E.Ok Try.prog) {g : Ds D8 → Option (Rs [.sl .bool])} (hg : ∀ x r, g x = some r → ∃ N, a0s N x = some r) : i0 Try.prog 41 ⟨D8, [.sl .bool], g⟩ :=
 p8 (E := p_ref01_Bits_E) (H := a0P) (L := fun N => a1v N) (c := G7) (ks := D8) (rs := V2) (F := a0s) hE mix Try.func41 (by kernel_rfl) (fun N => a5S N) (fun _ _ => by kernel_rfl) hg
noncomputable def p_ref19_One_E : AE := AE.ofQ [(26, ty26), (28, ty28)] [] [(28, .u64, 2)]
noncomputable def b1T : Hints := [(3000000, [2])]
noncomputable def b1U : Code := (Try.f49).body.getD .skip
abbrev G8 : List Kd := [.cat [.int .u64, .int .u64]]
abbrev a0R : List Kd := [.bool]
noncomputable def V4 (N : Nat) (x : (Int × Int × Unit) × Unit) : Option (Bool) :=
 if (x.1.1 < x.1.2.1) then
  some (decide (x.1.2.1 ≤ (1152921504606846976:Int)))
 else
  some false
theorem a9u : p_ref19_One_E.Ok Try.prog := AE.ofQ_ok (all_cons I7 (all_cons a00 c6)) c6 (all_cons A0 c6)
theorem b0w (hE : p_ref19_One_E.Ok Try.prog) {g : Ds G8 → Option (Rs [.bool])} (hg : ∀ x r, g x = some r → ∃ N, V4 N x = some r) : i0 Try.prog 49 ⟨G8, [.bool], g⟩ :=
 p8 (E := p_ref19_One_E) (H := b1T) (L := fun N => LT.nil) (c := b1U) (ks := G8) (rs := a0R) (F := V4) hE mix Try.func49 (by kernel_rfl) (fun N => OkAll.nil) (fun _ _ => by kernel_rfl) hg
end Go.Ax.TryP
set_option linter.unusedVariables false
namespace Go.Ax.TryP
open Go.Proofs
def bytes (zs : List Int) : Prop := ∀ z ∈ zs, 0 ≤ z ∧ z ≤ 255
def b1a (l : List (List Int)) : Prop := l.length ≤ maxLen ∧ ∀ zs ∈ l, zs.length ≤ maxLen ∧ bytes zs
theorem b8z {l : List (List Int)} : Kd.wf (.sls (.int .u8)) l ↔ b1a l := by simp [Kd.wf, b1a, bytes, a5x]
theorem Q2 {b : List Int} : Kd.wf (.sl (.int .u8)) b ↔ b.length ≤ maxLen ∧ bytes b := by simp only [b9H]; exact Iff.rfl
theorem b1u {l : List (List Int)} {i : Nat} (hi : i < l.length) : (l.take (i + 1)).flatten = (l.take i).flatten ++ l.getD i [] := by
 rw [List.take_succ_eq_append_getElem hi, List.flatten_append, List.getD_eq_getElem?_getD, List.getElem?_eq_getElem hi]; simp
theorem b4f (l : List (List Int)) (i : Nat) : (l.take i).flatten.length ≤ l.flatten.length := by
 conv => rhs; rw [← List.take_append_drop i l, List.flatten_append, List.length_append]
 omega
theorem b3A : ∀ x r, C7 x = some r → ∃ N, a0t N x = some r := by
 refine j9 (ks := D9) (rs := E0) fun x hw hq => ?_
 obtain ⟨(l : List (List Int)), u⟩ := x
 obtain ⟨hq1, hq⟩ : l.length ≤ 1000 ∧ l.flatten.length ≤ 1000000 := hq
 refine ⟨l.length + 1, ?_⟩
 unfold a0t
 dsimp only
 refine (K5 (F := z6 (l.length + 1)) (s := fun i => ((l.take i).flatten.length, l, (l.length : Int), (i : Int), (l.take i).flatten.length, (l.take i).flatten, ()))
  (y := (l.flatten.length, l.flatten.length, l.flatten, ())) l.length rfl ?_ ?_ _ (by omega)).trans ?_
 ·intro i hi kn
  have h1 := b4f l (i + 1)
  rw [b1u hi] at h1 ⊢
  rw [List.length_append] at h1 ⊢
  unfold z6
  dsimp only
  rw [if_pos (by omega), if_pos (by omega), if_pos (by omega), Int.toNat_natCast, if_pos (by omega), f7 (by omega) (by omega)]
  rfl
 ·intro kn
  unfold z6
  dsimp only
  rw [if_neg (by omega), List.take_length]
 ·rfl
theorem b3x : ∀ x r, o7 x = some r → ∃ N, a0r N x = some r := by
 refine j9 (ks := D5) (rs := D6) fun x hw hq => ?_
 obtain ⟨(l : List (List Int)), u⟩ := x
 obtain ⟨hq1, hq⟩ : l.length ≤ 1000 ∧ l.flatten.length ≤ 1000000 := hq
 refine ⟨l.length + 1, ?_⟩
 unfold a0r
 dsimp only
 refine (K5 (F := z4 (l.length + 1)) (s := fun i => (l, ((l.take i).flatten.length : Int), l, (l.length : Int), (i : Int), ())) (y := (l, (l.flatten.length : Int), ())) l.length rfl ?_ ?_ _ (by omega)).trans ?_
 ·intro i hi kn
  have h1 := b4f l (i + 1)
  rw [b1u hi] at h1 ⊢
  rw [List.length_append] at h1 ⊢
  unfold z4
  dsimp only
  rw [if_pos (by omega), if_pos (by omega), if_pos (by omega), Int.toNat_natCast, f7 (by omega) (by omega), f7 (by omega) (by omega), Int.natCast_add]
  rfl
 ·intro kn
  unfold z4
  dsimp only
  rw [if_neg (by omega), List.take_length]
 dsimp only
 rw [if_pos (by omega), if_pos (by omega), if_pos (by omega)]
 refine (K5 (F := z5 (l.length + 1)) (s := fun i => ((l.take i).flatten.length, l, (l.length : Int), (i : Int), (l.take i).flatten.length, (l.take i).flatten, ()))
  (y := (l.flatten.length, l.flatten.length, l.flatten, ())) l.length rfl ?_ ?_ _ (by omega)).trans ?_
 ·intro i hi kn
  have h1 := b4f l (i + 1)
  rw [b1u hi] at h1 ⊢
  rw [List.length_append] at h1 ⊢
  unfold z5
  dsimp only
  rw [if_pos (by omega), if_pos (by omega), if_pos (by omega), Int.toNat_natCast, if_pos (by omega), f7 (by omega) (by omega)]
  rfl
 ·intro kn
  unfold z5
  dsimp only
  rw [if_neg (by omega), List.take_length]
 ·rfl
theorem c0b {l : List (List Int)} (h : l.length ≤ 1000 ∧ l.flatten.length ≤ 1000000) (hr : b1a l) : o7 (l, ()) = some l.flatten :=
 j6 (ks := D5) (rs := D6) (x := (l, ())) ⟨b8z.2 hr, trivial⟩ h
theorem b5r {l : List (List Int)} (h : l.length ≤ 1000 ∧ l.flatten.length ≤ 1000000) (hr : b1a l) : C7 (l, ()) = some l.flatten :=
 j6 (ks := D9) (rs := E0) (x := (l, ())) ⟨b8z.2 hr, trivial⟩ h
theorem b19 : ∀ x r, u6 x = some r → ∃ N, S3 N x = some r := by
 refine j9 (ks := x8) (rs := I0) fun x hw hq => ⟨0, ?_⟩
 obtain ⟨(a : List Int), (b : List Int), u⟩ := x
 unfold S3
 exact congrArg some (b4e (Q2.1 hw.1).2 (Q2.1 hw.2.1).2)
theorem b8P {a b : List Int} (ha : a.length ≤ 1000000 ∧ bytes a) (hb : b.length ≤ 1000000 ∧ bytes b) : u6 (a, b, ()) = some (decide (a = b)) := by
 have hM : 1000000 ≤ maxLen := by decide
 exact j6 (ks := x8) (rs := I0) (x := (a, b, ())) ⟨(Q2 (b := a)).2 ⟨by omega, ha.2⟩, (Q2 (b := b)).2 ⟨by omega, hb.2⟩, trivial⟩ trivial
theorem u5 {n : Int} : B7 .u64 n ↔ 0 ≤ n ∧ n ≤ 18446744073709551615 := by simp [B7, Lit.wf, IntKind.min, IntKind.max, IntKind.signed, IntKind.bits]
theorem b6A {n : Int} : B7 .u32 n ↔ 0 ≤ n ∧ n ≤ 4294967295 := by simp [B7, Lit.wf, IntKind.min, IntKind.max, IntKind.signed, IntKind.bits]
theorem b04 {n : Int} : B7 .u16 n ↔ 0 ≤ n ∧ n ≤ 65535 := by simp [B7, Lit.wf, IntKind.min, IntKind.max, IntKind.signed, IntKind.bits]
def b6c (n : Int) (w i : Nat) : List Int := (List.range w).map fun j => if w - i ≤ j then n / 2 ^ (8 * (w - 1 - j)) % 256 else 0
theorem b8T (n : Int) (w : Nat) : b6c n w w = L9 n w := List.map_congr_left fun j _ => by rw [if_pos (by omega)]
theorem b7k (n : Int) (w : Nat) : b6c n w 0 = List.replicate w 0 := by
 refine rows.ext (n := w) (by simp [b6c]) (by simp) fun j hj => ?_
 rw [a94]
 unfold b6c
 rw [F8 hj, if_neg (by omega)]
theorem b7j (n : Int) {w i : Nat} (hi : i < w) : (b6c n w i).set (w - 1 - i) (n / 2 ^ (8 * i) % 256) = b6c n w (i + 1) := by
 have hl : (b6c n w i).length = w := by simp [b6c]
 refine rows.ext (n := w) (by simp [b6c]) (by simp [b6c]) fun j hj => ?_
 by_cases e : w - 1 - i = j
 ·subst e
  rw [b4k (by omega)]
  unfold b6c
  rw [F8 hj, if_pos (by omega), show w - 1 - (w - 1 - i) = i by omega]
 ·rw [getD_set_ne e]
  unfold b6c
  rw [F8 hj, F8 hj]
  by_cases h : w - i ≤ j
  ·rw [if_pos h, if_pos (by omega)]
  ·rw [if_neg h, if_neg (by omega)]
theorem b4L : ∀ x r, T6 x = some r → ∃ N, a15 N x = some r := by
 refine j9 (ks := G5) (rs := G6) fun x hw hq => ⟨10, ?_⟩
 obtain ⟨(n : Int), (w : Int), u⟩ := x
 have hn : 0 ≤ n ∧ n ≤ 18446744073709551615 := u5.1 hw.1
 obtain ⟨h0, h1⟩ : 0 ≤ w ∧ w ≤ 8 := hq
 obtain ⟨w, rfl⟩ : ∃ m : Nat, w = m := ⟨w.toNat, by omega⟩
 obtain ⟨n, rfl⟩ : ∃ m : Nat, n = m := ⟨n.toNat, by omega⟩
 unfold a15
 dsimp only
 rw [if_pos h0, if_pos rfl, if_pos (by omega), Int.toNat_natCast]
 refine (K5 (F := B4 10) (s := fun i => ((n : Int), (w : Int), w, (w : Int), (i : Int), w, b6c n w i, ())) (y := (w, w, L9 n w, ())) w ?_ ?_ ?_ 10 (by omega)).trans ?_
 ·rw [b7k]; rfl
 ·intro i hi kn
  have e1 : IntKind.i64.wrap (8 * (i : Int)) = ((8 * i : Nat) : Int) := by rw [f7 (by omega) (by omega)]; omega
  have e2 : IntKind.i64.wrap (IntKind.i64.wrap ((w : Int) - 1) - i) = ((w - 1 - i : Nat) : Int) := by rw [f7 (x := (w : Int) - 1) (by omega) (by omega), f7 (by omega) (by omega)]; omega
  have e3 : IntKind.u8.wrap (b8E IntKind.u64 (n : Int) ((8 * i : Nat) : Int)) = (n : Int) / 2 ^ (8 * i) % 256 := by
   rw [b1z (k := .u64) (show 8 * i ≤ 64 by omega), a5a]
   simp
  unfold B4
  dsimp only
  rw [if_pos (by omega), e1, e2, if_neg (by omega), if_pos (by omega), if_pos (by omega), Int.toNat_natCast, if_pos (by omega), e3, b7j _ hi, f7 (by omega) (by omega)]
  rfl
 ·intro kn
  unfold B4
  dsimp only
  rw [if_neg (by omega), b8T]
 ·rfl
theorem b9M {n : Int} (hn : 0 ≤ n ∧ n ≤ 18446744073709551615) {w : Nat} (hw : w ≤ 8) : T6 (n, (w : Int), ()) = some (L9 n w) := by
 have := j6 (ks := G5) (rs := G6) (x := (n, (w : Int), ())) (Q := fun x => 0 ≤ x.2.1 ∧ x.2.1 ≤ 8) (f := fun x => L9 x.1 x.2.1.toNat) ⟨u5.2 hn, (s0 (n := (w : Int))).2 (by omega), trivial⟩ ⟨by show (0 : Int) ≤ w; omega, by show (w : Int) ≤ 8; omega⟩
 exact this
theorem E3 {x : Int} (h0 : 0 ≤ x) (h1 : x ≤ 18446744073709551615) : IntKind.u64.wrap x = x := by simp [IntKind.wrap, IntKind.signed, IntKind.bits]; omega
theorem b4K : ∀ x r, n9 x = some r → ∃ N, a14 N x = some r := by
 refine j9 (ks := a0O) (rs := G4) fun x hw hq => ⟨0, ?_⟩
 obtain ⟨(n : Int), u⟩ := x
 have hn : 0 ≤ n ∧ n ≤ 65535 := b04.1 hw.1
 unfold a14
 dsimp only
 rw [E3 (by omega) (by omega)]
 exact congrArg (fun o => Option.bind o _) (b9M (n := n) (by omega) (w := 2) (by omega))
theorem b7f {n : Int} (h : 0 ≤ n ∧ n ≤ 65535) : n9 (n, ()) = some (L9 n 2) := j6 (ks := a0O) (rs := G4) (x := (n, ())) ⟨b04.2 h, trivial⟩ trivial
theorem b6H : ∀ x r, a3M x = some r → ∃ N, a3U N x = some r := by
 refine j9 (ks := L3) (rs := a2c) fun x hw hq => ⟨0, ?_⟩
 unfold a3U b4x
 by_cases h : x.1.1 < x.1.2.1
 ·rw [if_pos h]
  exact congrArg some (decide_eq_decide.2 ⟨fun g => ⟨h, g⟩, fun g => g.2⟩)
 ·rw [if_neg h]
  exact congrArg some (by simp [h])
theorem c04 {lo hi : Int} (h1 : 0 ≤ lo ∧ lo ≤ 18446744073709551615) (h2 : 0 ≤ hi ∧ hi ≤ 18446744073709551615) : a3M ((lo, hi, ()), ()) = some (b4x lo hi) :=
 j6 (ks := L3) (rs := a2c) (x := ((lo, hi, ()), ())) ⟨⟨u5.2 h1, u5.2 h2, trivial⟩, trivial⟩ trivial
theorem b6G : ∀ x r, a3L x = some r → ∃ N, a3T N x = some r := by
 refine j9 (ks := L1) (rs := a2b) fun x hw hq => ⟨3, ?_⟩
 obtain ⟨(l : List Int), u⟩ := x
 have hl : l.length = 2 := hq
 obtain ⟨a, b, rfl⟩ : ∃ a b, l = [a, b] := by
  match l, hl with
  | [a, b], _ => exact ⟨a, b, rfl⟩
 have hb : ∀ z ∈ [a, b], B7 .u64 z := hw.1.2
 have ha1 := u5.1 (hb a (by simp))
 have hb1 := u5.1 (hb b (by simp))
 unfold a3T
 dsimp only
 rw [show ([a, b] : List Int).length / 2 = 1 by simp, show ([a, b] : List Int).length = 2 from rfl]
 show a5p (L2 3) 3 (1, 1, (1 : Int), (0 : Int), 2, [a, b], ()) _ = some (b4x a b)
 simp only [a5p]
 unfold L2
 dsimp only
 rw [if_pos (by omega), if_pos (by omega), if_pos (by omega), if_pos (by omega)]
 refine (congrArg (fun o => Option.bind o _) (c04 ha1 hb1)).trans ?_
 rw [Option.bind_some]
 by_cases h : b4x a b = true
 ·rw [if_neg (by simp [h]), if_neg (by omega), f7 (by omega) (by omega), if_neg (by omega), h]
  rfl
 ·rw [if_pos h]
  have : b4x a b = false := by simpa using h
  rw [this]
theorem c01 {a b : Int} (h1 : 0 ≤ a ∧ a ≤ 18446744073709551615) (h2 : 0 ≤ b ∧ b ≤ 18446744073709551615) : a3L ([a, b], ()) = some (b4x a b) := by
 have hM : 1 ≤ maxLen := by decide
 have w : Kd.wf (.sla (.int .u64) 2) [a, b] := ⟨⟨1, rfl, hM⟩, fun z hz => by
  rcases List.mem_cons.1 hz with rfl | hz
  ·exact u5.2 h1
  ·rw [List.mem_singleton.1 hz]; exact u5.2 h2⟩
 exact j6 (ks := L1) (rs := a2b) (x := ([a, b], ())) ⟨w, trivial⟩ rfl
theorem j5 (n : Int) (w : Nat) : (L9 n w).length = w := by simp [L9]
theorem l7 (n : Int) (w : Nat) : bytes (L9 n w) := fun z hz => by
 obtain ⟨i, _, rfl⟩ := List.mem_map.1 hz
 omega
end Go.Ax.TryP
set_option linter.unusedVariables false
namespace Go.Ax.TryP
open Go.Proofs
theorem b03 {n : Int} : B7 .i32 n ↔ -2147483648 ≤ n ∧ n ≤ 2147483647 := by simp [B7, Lit.wf, IntKind.min, IntKind.max, IntKind.signed, IntKind.bits]
theorem b7R : maxLen = 9223372036854775807 := by decide
theorem b77 : ∀ x r, a5n x = some r → ∃ N, a5E N x = some r := by
 refine j9 (ks := a3m) (rs := a3n) fun x hw hq => ⟨0, ?_⟩
 unfold a5E c11
 repeat' split
 all_goals rfl
theorem c00 {k : Int} (h : -9223372036854775808 ≤ k ∧ k ≤ 9223372036854775807) : a5n (k, ()) = some (c11 k) := j6 (ks := a3m) (rs := a3n) (x := (k, ())) ⟨s0.2 h, trivial⟩ trivial
theorem b5R {k : Int} (h : k < 1 ∨ 8 < k) : a5v k = ⟨#[]⟩ := by
 unfold a5v
 repeat' (split; (try omega))
 rfl
theorem b6C : ∀ x r, a07 x = some r → ∃ N, a1p N x = some r := by
 refine j9 (ks := a1W) (rs := a1X) fun x hw hq => ⟨0, ?_⟩
 obtain ⟨(k : Int), u⟩ := x
 show a1p 0 (k, u) = some (a5v k)
 by_cases h : k < 1 ∨ 8 < k
 ·rw [b5R h]
  unfold a1p
  dsimp only
  by_cases h0 : k < 0
  ·rw [if_pos h0]
  by_cases h9 : 9 ≤ k
  ·rw [if_neg h0, if_pos h9]
  have : k = 0 := by omega
  subst this
  rfl
 ·have : k = 1 ∨ k = 2 ∨ k = 3 ∨ k = 4 ∨ k = 5 ∨ k = 6 ∨ k = 7 ∨ k = 8 := by omega
  rcases this with rfl | rfl | rfl | rfl | rfl | rfl | rfl | rfl <;> rfl
theorem b3B : ∀ x r, O6 x = some r → ∃ N, P8 N x = some r := by
 refine j9 (ks := X1) (rs := X2) fun x hw hq => ⟨0, ?_⟩
 obtain ⟨(k : Int), u⟩ := x
 show P8 0 (k, u) = some (a5v k)
 by_cases h : k < 1 ∨ 8 < k
 ·rw [b5R h]
  unfold P8
  dsimp only
  by_cases h0 : k < 1
  ·rw [if_pos h0]
  ·rw [if_neg h0, if_pos (by omega)]
 ·have : k = 1 ∨ k = 2 ∨ k = 3 ∨ k = 4 ∨ k = 5 ∨ k = 6 ∨ k = 7 ∨ k = 8 := by omega
  rcases this with rfl | rfl | rfl | rfl | rfl | rfl | rfl | rfl <;> rfl
theorem b7d {k : Int} (h : -9223372036854775808 ≤ k ∧ k ≤ 9223372036854775807) : a07 (k, ()) = some (a5v k) := j6 (ks := a1W) (rs := a1X) (x := (k, ())) ⟨s0.2 h, trivial⟩ trivial
theorem b5s {k : Int} (h : -9223372036854775808 ≤ k ∧ k ≤ 9223372036854775807) : O6 (k, ()) = some (a5v k) := j6 (ks := X1) (rs := X2) (x := (k, ())) ⟨s0.2 h, trivial⟩ trivial
theorem b79 : ∀ x r, K3 x = some r → ∃ N, a3p N x = some r := by
 refine j9 (ks := P2) (rs := a3q) fun x hw hq => ⟨0, ?_⟩
 obtain ⟨(k : Int), (c : Int), u⟩ := x
 show a3p 0 (k, c, u) = some (a2r k c)
 unfold a3p a2r a8h
 dsimp only
 repeat' split
 all_goals simp_all [eq_comm]
theorem b4O : ∀ x r, l5 x = some r → ∃ N, X4 N x = some r := by
 refine j9 (ks := H1) (rs := a0S) fun x hw hq => ⟨0, ?_⟩
 obtain ⟨(k : Int), (c : Int), u⟩ := x
 show X4 0 (k, c, u) = some (a2r k c)
 unfold X4 a2r a8h
 dsimp only
 repeat' split
 all_goals simp_all [eq_comm]
theorem b0Q {k c : Int} (h : -9223372036854775808 ≤ k ∧ k ≤ 9223372036854775807) (hc : -2147483648 ≤ c ∧ c ≤ 2147483647) : K3 (k, c, ()) = some (a2r k c) := j6 (ks := P2) (rs := a3q) (x := (k, c, ())) ⟨s0.2 h, b03.2 hc, trivial⟩ trivial
theorem a4C {k c : Int} (h : -9223372036854775808 ≤ k ∧ k ≤ 9223372036854775807) (hc : -2147483648 ≤ c ∧ c ≤ 2147483647) : l5 (k, c, ()) = some (a2r k c) := j6 (ks := H1) (rs := a0S) (x := (k, c, ())) ⟨s0.2 h, b03.2 hc, trivial⟩ trivial
theorem b3r : ∀ x r, O5 x = some r → ∃ N, a0o N x = some r := by
 refine j9 (ks := U3) (rs := U4) fun x hw hq => ⟨0, ?_⟩
 obtain ⟨(n : Int), u⟩ := x
 unfold a0o b5A
 dsimp only
 by_cases h : n ≥ 0
 ·rw [if_pos h]
  exact congrArg some (decide_eq_decide.2 ⟨fun g => ⟨h, g⟩, fun g => g.2⟩)
 ·rw [if_neg h]
  exact congrArg some (decide_eq_false (by omega)).symm
theorem b2H {n : Int} (h : -9223372036854775808 ≤ n ∧ n ≤ 9223372036854775807) : O5 (n, ()) = some (b5A n) :=
 j6 (ks := U3) (rs := U4) (x := (n, ())) ⟨s0.2 h, trivial⟩ trivial
theorem b6E : ∀ x r, a3K x = some r → ∃ N, a3S N x = some r := by
 refine j9 (ks := a1Y) (rs := a1Z) fun x hw hq => ⟨0, ?_⟩
 unfold a3S a5t
 split <;> rfl
theorem c0g {k : Int} (h : -9223372036854775808 ≤ k ∧ k ≤ 9223372036854775807) : a3K (k, ()) = some (a5t k) := j6 (ks := a1Y) (rs := a1Z) (x := (k, ())) ⟨s0.2 h, trivial⟩ trivial
theorem b3v : ∀ x r, J0 x = some r → ∃ N, P6 N x = some r := by
 refine j9 (ks := D3) (rs := U8) fun x hw hq => ⟨0, ?_⟩
 obtain ⟨(is : Bool), (b : List Int), (m : Int), u⟩ := x
 show P6 0 (is, b, m, u) = some (Y9 is b.length m)
 unfold P6 Y9
 dsimp only
 cases is with
 | false =>
  rw [if_pos (by simp), if_neg (by simp)]
  exact congrArg some (decide_eq_decide.2 (by omega))
 | true =>
  rw [if_neg (by simp), if_pos rfl]
  by_cases h : (b.length : Int) ≥ 1
  ·rw [if_pos h]
   exact congrArg some (decide_eq_decide.2 (by omega))
  ·rw [if_neg h]
   exact congrArg some (decide_eq_false (by omega)).symm
theorem a8s {is : Bool} {b : List Int} {m : Int} (hb : b.length ≤ maxLen ∧ bytes b) (hm : -9223372036854775808 ≤ m ∧ m ≤ 9223372036854775807) : J0 (is, b, m, ()) = some (Y9 is b.length m) :=
 j6 (ks := D3) (rs := U8) (x := (is, b, m, ())) ⟨trivial, Q2.2 hb, s0.2 hm, trivial⟩ trivial
theorem b3y : ∀ x r, a0c x = some r → ∃ N, P7 N x = some r := by
 refine j9 (ks := D7) (rs := V1) fun x hw hq => ⟨0, ?_⟩
 obtain ⟨(n : Int), (w : Int), u⟩ := x
 have hn : 0 ≤ n ∧ n ≤ 18446744073709551615 := u5.1 hw.1
 obtain ⟨h0, h1⟩ : 1 ≤ w ∧ w ≤ 8 := hq
 obtain ⟨w, rfl⟩ : ∃ m : Nat, w = m := ⟨w.toNat, by omega⟩
 obtain ⟨n, rfl⟩ : ∃ m : Nat, n = m := ⟨n.toNat, by omega⟩
 show P7 0 ((n : Int), (w : Int), u) = some (b7v n w)
 unfold P7 b7v
 dsimp only
 rw [if_neg (by omega), if_neg (by omega)]
 by_cases h : (w : Int) < 8
 ·have e1 : IntKind.i64.wrap (8 * (w : Int)) = ((8 * w : Nat) : Int) := by rw [f7 (by omega) (by omega)]; omega
  rw [if_pos h, e1, if_neg (by omega), b1z (k := .u64) (show 8 * w ≤ 64 by omega), Int.toNat_natCast]
  have e2 : ((n / 2 ^ (8 * w) : Nat) : Int) = (n : Int) / 2 ^ (8 * w) := by simp
  rw [e2]
  by_cases h2 : (n : Int) / 2 ^ (8 * w) ≠ 0
  ·rw [if_pos h2, if_pos ⟨h, h2⟩]
  ·rw [if_neg h2, if_neg (fun g => h2 g.2)]
 ·rw [if_neg h, if_neg (fun g => h g.1)]
theorem c0c {n : Int} (hn : 0 ≤ n ∧ n ≤ 18446744073709551615) {w : Int} (hw : 1 ≤ w ∧ w ≤ 8) : a0c (n, w, ()) = some (b7v n w) :=
 j6 (ks := D7) (rs := V1) (x := (n, w, ())) ⟨u5.2 hn, (s0 (n := w)).2 (by omega), trivial⟩ hw
theorem b4J : ∀ x r, c7 x = some r → ∃ N, a13 N x = some r := by
 refine j9 (ks := G0) (rs := G1) fun x hw hq => ⟨0, ?_⟩
 obtain ⟨(n : Int), (w : Int), u⟩ := x
 have hn : 0 ≤ n ∧ n ≤ 18446744073709551615 := u5.1 hw.1
 obtain ⟨h0, h1, h2⟩ : 1 ≤ w ∧ w ≤ 8 ∧ b7v n w = 0 := hq
 obtain ⟨w, rfl⟩ : ∃ m : Nat, w = m := ⟨w.toNat, by omega⟩
 unfold a13
 dsimp only
 rw [c0c hn ⟨h0, h1⟩, Option.bind_some, h2, if_neg (by omega)]
 exact congrArg (fun o => Option.bind o _) (b9M hn (w := w) (by omega))
theorem a68 {n : Int} (hn : 0 ≤ n ∧ n ≤ 18446744073709551615) {w : Nat} (hw : 1 ≤ w ∧ w ≤ 8) (hf : b7v n w = 0) : c7 (n, (w : Int), ()) = some (L9 n w, 0) :=
 j6 (ks := G0) (rs := G1) (x := (n, (w : Int), ())) ⟨u5.2 hn, (s0 (n := (w : Int))).2 (by omega), trivial⟩ ⟨by show (1 : Int) ≤ w; omega, by show (w : Int) ≤ 8; omega, hf⟩
theorem b0W {n : Int} (h0 : 0 ≤ n) {w : Nat} (h : n < 2 ^ (8 * w)) : b7v n w = 0 := by
 unfold b7v
 rw [if_neg]
 rintro ⟨_, h2⟩
 rw [Int.toNat_natCast] at h2
 exact h2 (Int.ediv_eq_zero_of_lt h0 h)
theorem c1b {n : Int} : b7v n 8 = 0 := by
 unfold b7v
 rw [if_neg (by omega)]
end Go.Ax.TryP
set_option linter.unusedVariables false
namespace Go.Ax.TryP
open Go.Proofs
theorem a6m {a : List Int} (h : bytes a) (i : Nat) : 0 ≤ a.getD i 0 ∧ a.getD i 0 ≤ 255 := by
 rw [List.getD_eq_getElem?_getD]
 cases e : a[i]? with
 | none => simp
 | some z => exact h z (List.mem_of_getElem? e)
theorem b7Y (v : Int) : (List.replicate 1 (0 : Int)).set 0 v = [v] := rfl
theorem b3z : ∀ x r, a0d x = some r → ∃ N, a0s N x = some r := by
 refine j9 (ks := D8) (rs := V2) fun x hw hq => ⟨x.1.length + 10, ?_⟩
 obtain ⟨(b : List Int), u⟩ := x
 have hq : b.length ≤ 1000000 := hq
 have hb : bytes b := (Q2.1 hw.1).2
 unfold a0s
 refine (a5q (s := fun i => (8 * i, b.length, (b.length : Int), (i : Int), 8 * i, (List.range (8 * i)).map (a3Y b), b.length, b, ())) (y := (8 * b.length, 8 * b.length, w3 b, ())) b.length ?_ ?_ _ (by simp only; omega)).trans ?_
 ·intro i hi kn
  have g1 : (i : Int) < (b.length : Int) := by omega
  have g0 : (0 : Int) ≤ i := by omega
  have hz := a6m hb i
  unfold E8
  simp only [g1, g0, hi, if_true, Int.toNat_natCast]
  rw [f7 (x := b.getD i 0) (by omega) (by omega)]
  have e0 : b.getD i 0 / 2 ^ 0 = b.getD i 0 := by rw [Int.pow_zero, Int.ediv_one]
  rw [← e0]
  refine (a5q (s := fun r => (8 * i + r, b.getD i 0 / 2 ^ r, b.length, (b.length : Int), (i : Int), (r : Int), 8 * i + r, (List.range (8 * i + r)).map (a3Y b), b.length, b, ())) (y := (8 * i + 8, b.length, (b.length : Int), (i : Int), 8 * i + 8, (List.range (8 * i + 8)).map (a3Y b), b.length, b, ())) 8 ?_ ?_ (b.length + 10) (by omega)).trans ?_
  ·intro r hr kn
   have hp : (0 : Int) < 2 ^ r := b9t r
   have h1 : 0 ≤ b.getD i 0 / 2 ^ r := Int.ediv_nonneg hz.1 (Int.le_of_lt hp)
   have h2 : b.getD i 0 / 2 ^ r ≤ b.getD i 0 := Int.ediv_le_self _ hz.1
   have e1 : b.getD i 0 / 2 ^ r / 2 = b.getD i 0 / 2 ^ (r + 1) := by rw [Int.ediv_ediv_of_nonneg (Int.le_of_lt hp), Int.pow_succ]
   have e2 : (if b.getD i 0 / 2 ^ r % 2 = 1 then (1 : Int) else 0) = a3Y b (8 * i + r) := by
    unfold a3Y b9O
    rw [show (8 * i + r) / 8 = i by omega, show (8 * i + r) % 8 = r by omega]
    split <;> omega
   unfold E9
   simp (disch := omega) only [if_pos, f7, b9F, b2q, b7Y, e1, e2, a4p]
   rw [Int.natCast_add, show 8 * i + r + 1 = 8 * i + (r + 1) by omega]
   rfl
  ·intro kn
   unfold E9
   simp (disch := omega) only [if_neg]
  ·simp (disch := omega) only [f7]
   rw [Int.natCast_add, show 8 * i + 8 = 8 * (i + 1) by omega]
   rfl
 ·intro kn
  unfold E8
  simp (disch := omega) only [if_neg]
  rfl
 ·rfl
theorem b3w : ∀ x r, a0b x = some r → ∃ N, a0q N x = some r := by
 refine j9 (ks := D4) (rs := V0) fun x hw hq => ⟨x.1.length + 10, ?_⟩
 obtain ⟨(b : List Int), u⟩ := x
 have hq : b.length ≤ 1000000 := hq
 have hb : bytes b := (Q2.1 hw.1).2
 unfold a0q
 dsimp only
 rw [f7 (by omega) (by omega), if_pos (by omega), if_pos (by omega), if_pos (by omega)]
 refine (a5q (s := fun i => (8 * i, b.length, (b.length : Int), (i : Int), 8 * i, (List.range (8 * i)).map (a3Y b), b.length, b, ())) (y := (8 * b.length, 8 * b.length, w3 b, ())) b.length ?_ ?_ _ (by omega)).trans ?_
 ·intro i hi kn
  have g1 : (i : Int) < (b.length : Int) := by omega
  have g0 : (0 : Int) ≤ i := by omega
  have hz := a6m hb i
  unfold E6
  simp only [g1, g0, hi, if_true, Int.toNat_natCast]
  refine (a5q (s := fun r => (8 * i + r, b.getD i 0, b.length, (b.length : Int), (i : Int), (r : Int), 8 * i + r, (List.range (8 * i + r)).map (a3Y b), b.length, b, ())) (y := (8 * i + 8, b.length, (b.length : Int), (i : Int), 8 * i + 8, (List.range (8 * i + 8)).map (a3Y b), b.length, b, ())) 8 ?_ ?_ (b.length + 10) (by omega)).trans ?_
  ·intro r hr kn
   have e2 : (if c0R .u8 (b8E .u8 (b.getD i 0) (r : Int)) 1 = 1 then (1 : Int) else 0) = a3Y b (8 * i + r) := by
    rw [c06 hz.1 hz.2 (by omega)]
    unfold a3Y
    rw [show (8 * i + r) / 8 = i by omega, show (8 * i + r) % 8 = r by omega]
    have := c05 (b.getD i 0) r
    split <;> omega
   unfold E7
   dsimp only
   rw [if_pos (by omega), if_neg (by omega), if_pos (by omega), e2, f7 (by omega) (by omega), b7Y, a4p, show 8 * i + r + 1 = 8 * i + (r + 1) by omega]
   rfl
  ·intro kn
   unfold E7
   dsimp only
   rw [if_neg (by omega)]
  ·simp (disch := omega) only [f7]
   rw [Int.natCast_add, show 8 * i + 8 = 8 * (i + 1) by omega]
   rfl
 ·intro kn
  unfold E6
  simp (disch := omega) only [if_neg]
  rfl
 ·rfl
theorem c0a {b : List Int} (h : b.length ≤ 1000000) (hb : bytes b) : a0b (b, ()) = some (w3 b) := by
 have hM : 1000000 ≤ maxLen := by decide
 exact j6 (ks := D4) (rs := V0) (x := (b, ())) ⟨(Q2 (b := b)).2 ⟨by omega, hb⟩, trivial⟩ h
theorem b8O {b : List Int} (h : b.length ≤ 1000000) (hb : bytes b) : a0d (b, ()) = some (w3 b) := by
 have hM : 1000000 ≤ maxLen := by decide
 exact j6 (ks := D8) (rs := V2) (x := (b, ())) ⟨(Q2 (b := b)).2 ⟨by omega, hb⟩, trivial⟩ h
def a8t (n : Int) (b : List Int) (i : Nat) : Prop := i < 8 * b.length ∧ a3Y b i ≠ 0 ∧ n ≤ (i : Int)
theorem a1c {n : Int} {b : List Int} : a7K n b = true ↔ (b.length : Int) = (n + 7) / 8 ∧ ∀ i, ¬ a8t n b i := by
 unfold a7K a8t
 simp only [Bool.and_eq_true, decide_eq_true_eq, List.all_eq_true, List.mem_range, Bool.or_eq_true]
 refine and_congr_right fun _ => forall_congr' fun i => ?_
 constructor
 ·rintro h ⟨h1, h2, h3⟩
  rcases h h1 with h | h
  ·exact h2 h
  ·omega
 ·intro h h1
  by_cases h2 : a3Y b i = 0
  ·exact .inl h2
  ·exact .inr (by
    rcases Int.lt_or_le (i : Int) n with h3 | h3
    ·exact h3
    ·exact absurd ⟨h1, h2, h3⟩ h)
theorem b7L {n : Int} {b : List Int} (h : ∃ i, a8t n b i) : ∃ i, a8t n b i ∧ ∀ j, j < i → ¬ a8t n b j := by
 obtain ⟨i, hi⟩ := h
 induction i using Nat.strongRecOn with
 | _ i ih =>
  by_cases h : ∃ j, j < i ∧ a8t n b j
  ·obtain ⟨j, h1, h2⟩ := h
   exact ih j h1 h2
  ·exact ⟨i, hi, fun j hj hb => h ⟨j, hj, hb⟩⟩
theorem b22 {F : Nat → (β : Type) → (Int × Nat × Int × Int × Nat × List Int × Unit) → ((Int × Nat × Int × Int × Nat × List Int × Unit) → Option β) → (((Bool × Unit) ⊕ Unit) → Option β) → Option β}
  (hF : ∀ N, F N = fun β x kn ke => if x.2.2.2.1 < x.2.2.1 then (if 0 ≤ x.2.2.2.1 then (if x.2.2.2.1 < ((x.2.1 : Nat) : Int) then (if x.2.2.2.1.toNat < x.2.2.2.2.1 then (if List.getD x.2.2.2.2.2.1 x.2.2.2.1.toNat 0 ≠ 0 then (if x.2.2.2.1 ≥ x.1 then ke (.inl (false, ())) else kn (x.1, x.2.1, x.2.2.1, IntKind.i64.wrap (x.2.2.2.1 + 1), x.2.2.2.2.1, x.2.2.2.2.2.1, ())) else kn (x.1, x.2.1, x.2.2.1, IntKind.i64.wrap (x.2.2.2.1 + 1), x.2.2.2.2.1, x.2.2.2.2.2.1, ())) else none) else none) else none) else ke (.inr ()))
  {n : Int} {b : List Int} (hl : b.length ≤ 1000000) {N : Nat} (hN : 8 * b.length < N) {β : Type} (K : ((Bool × Unit) ⊕ Unit) → Option β) :
  ((∃ i, a8t n b i) → a5p (F N) N (n, (w3 b).length, (((w3 b).length : Nat) : Int), (0 : Int), (w3 b).length, w3 b, ()) K = K (.inl (false, ()))) ∧
  ((¬ ∃ i, a8t n b i) → a5p (F N) N (n, (w3 b).length, (((w3 b).length : Nat) : Int), (0 : Int), (w3 b).length, w3 b, ()) K = K (.inr ())) := by
 have e := b6d b
 have j8 : ∀ (i : Nat), i < 8 * b.length → ¬ a8t n b i → ∀ (kn : (Int × Nat × Int × Int × Nat × List Int × Unit) → Option β) (ke : ((Bool × Unit) ⊕ Unit) → Option β), F N β (n, (w3 b).length, (((w3 b).length : Nat) : Int), (i : Int), (w3 b).length, w3 b, ()) kn ke = kn (n, (w3 b).length, (((w3 b).length : Nat) : Int), ((i + 1 : Nat) : Int), (w3 b).length, w3 b, ()) := by
  intro i hi hb kn ke
  rw [hF]
  dsimp only
  rw [if_pos (by omega), if_pos (by omega), if_pos (by omega), Int.toNat_natCast, if_pos (by omega), a8u hi, f7 (by omega) (by omega)]
  by_cases h2 : a3Y b i ≠ 0
  ·rw [if_pos h2, if_neg (fun h3 => hb ⟨hi, h2, h3⟩)]
   rfl
  ·rw [if_neg h2]
   rfl
 refine ⟨fun hex => ?_, fun hex => ?_⟩
 ·obtain ⟨i, hi, hmin⟩ := b7L hex
  refine K5 (F := F N) (s := fun i => (n, (w3 b).length, (((w3 b).length : Nat) : Int), (i : Int), (w3 b).length, w3 b, ())) (y := .inl (false, ())) i rfl ?_ ?_ N (by have := hi.1; omega)
  ·exact fun j hj kn => j8 j (by have := hi.1; omega) (hmin j hj) kn K
  ·intro kn
   obtain ⟨k1, k2, k3⟩ := hi
   rw [hF]
   dsimp only
   rw [if_pos (by omega), if_pos (by omega), if_pos (by omega), Int.toNat_natCast, if_pos (by omega), a8u k1, if_pos k2, if_pos k3]
 ·refine K5 (F := F N) (s := fun i => (n, (w3 b).length, (((w3 b).length : Nat) : Int), (i : Int), (w3 b).length, w3 b, ())) (y := .inr ()) (8 * b.length) rfl ?_ ?_ N (by omega)
  ·exact fun j hj kn => j8 j hj (fun h => hex ⟨j, h⟩) kn K
  ·intro kn
   rw [hF]
   dsimp only
   rw [if_neg (by omega)]
theorem b3s : ∀ x r, Z7 x = some r → ∃ N, P3 N x = some r := by
 refine j9 (ks := D0) (rs := U5) fun x hw hq => ?_
 obtain ⟨(n : Int), (b : List Int), u⟩ := x
 obtain ⟨h0, h1⟩ : 0 ≤ n ∧ n ≤ 1000 := hq
 have hb : bytes b := (Q2.1 hw.2.1).2
 refine ⟨8 * b.length + 1, ?_⟩
 show P3 (8 * b.length + 1) (n, b, u) = some (a7K n b)
 unfold P3
 dsimp only
 rw [f7 (x := n + 7) (by omega) (by omega), b2q (by omega), f7 (by omega) (by omega)]
 by_cases hl : (b.length : Int) = (n + 7) / 8
 ·rw [if_neg (fun h => h hl), c0a (by omega) hb, Option.bind_some]
  obtain ⟨k1, k2⟩ := b22 (F := M8) (fun _ => rfl) (n := n) (b := b) (by omega) (N := 8 * b.length + 1) (by omega) (fun y => match y with | .inl y2 => some y2.1 | .inr _ => some true)
  by_cases hex : ∃ i, a8t n b i
  ·refine (k1 hex).trans (congrArg some ?_)
   obtain ⟨i, hi⟩ := hex
   exact (Bool.eq_false_iff.2 fun h => (a1c.1 h).2 i hi).symm
  ·exact (k2 hex).trans (congrArg some (a1c.2 ⟨hl, fun i hi => hex ⟨i, hi⟩⟩).symm)
 ·rw [if_pos hl]
  exact congrArg some (Bool.eq_false_iff.2 fun h => hl (a1c.1 h).1).symm
theorem b0H : ∀ x r, N7 x = some r → ∃ N, H2 N x = some r := by
 refine j9 (ks := z8) (rs := N0) fun x hw hq => ?_
 obtain ⟨(n : Int), (b : List Int), u⟩ := x
 obtain ⟨h0, h1⟩ : 0 ≤ n ∧ n ≤ 1000 := hq
 have hb : bytes b := (Q2.1 hw.2.1).2
 refine ⟨8 * b.length + 1, ?_⟩
 show H2 (8 * b.length + 1) (n, b, u) = some (a7K n b)
 unfold H2
 dsimp only
 rw [f7 (x := n + 7) (by omega) (by omega), b2q (by omega), f7 (by omega) (by omega)]
 by_cases hl : (b.length : Int) = (n + 7) / 8
 ·rw [if_neg (fun h => h hl), b8O (by omega) hb, Option.bind_some]
  obtain ⟨k1, k2⟩ := b22 (F := I6) (fun _ => rfl) (n := n) (b := b) (by omega) (N := 8 * b.length + 1) (by omega) (fun y => match y with | .inl y2 => some y2.1 | .inr _ => some true)
  by_cases hex : ∃ i, a8t n b i
  ·refine (k1 hex).trans (congrArg some ?_)
   obtain ⟨i, hi⟩ := hex
   exact (Bool.eq_false_iff.2 fun h => (a1c.1 h).2 i hi).symm
  ·exact (k2 hex).trans (congrArg some (a1c.2 ⟨hl, fun i hi => hex ⟨i, hi⟩⟩).symm)
 ·rw [if_pos hl]
  exact congrArg some (Bool.eq_false_iff.2 fun h => hl (a1c.1 h).1).symm
theorem b7g {n : Int} {b : List Int} (hn : 0 ≤ n ∧ n ≤ 1000) (hb : b.length ≤ maxLen ∧ bytes b) : Z7 (n, b, ()) = some (a7K n b) :=
 j6 (ks := D0) (rs := U5) (x := (n, b, ())) ⟨(s0 (n := n)).2 (by omega), Q2.2 hb, trivial⟩ hn
theorem b59 {n : Int} {b : List Int} (hn : 0 ≤ n ∧ n ≤ 1000) (hb : b.length ≤ maxLen ∧ bytes b) : N7 (n, b, ()) = some (a7K n b) :=
 j6 (ks := z8) (rs := N0) (x := (n, b, ())) ⟨(s0 (n := n)).2 (by omega), Q2.2 hb, trivial⟩ hn
end Go.Ax.TryP
set_option linter.unusedVariables false
namespace Go.Ax.TryP
open Go.Proofs
def Y3 (c : Ms) : Prop := (-9223372036854775808 ≤ c.1 ∧ c.1 ≤ 9223372036854775807) ∧ (-9223372036854775808 ≤ c.2.1 ∧ c.2.1 ≤ 9223372036854775807) ∧ (-9223372036854775808 ≤ c.2.2.1 ∧ c.2.2.1 ≤ 9223372036854775807) ∧ (0 ≤ c.2.2.2.1 ∧ c.2.2.2.1 ≤ 4294967295) ∧ (0 ≤ c.2.2.2.2.1 ∧ c.2.2.2.2.1 ≤ 4294967295) ∧ (0 ≤ c.2.2.2.2.2.1 ∧ c.2.2.2.2.2.1 ≤ 18446744073709551615) ∧ (0 ≤ c.2.2.2.2.2.2.1 ∧ c.2.2.2.2.2.2.1 ≤ 18446744073709551615)
 ∧ (-9223372036854775808 ≤ c.2.2.2.2.2.2.2.1 ∧ c.2.2.2.2.2.2.2.1 ≤ 9223372036854775807) ∧ (-9223372036854775808 ≤ c.2.2.2.2.2.2.2.2.1 ∧ c.2.2.2.2.2.2.2.2.1 ≤ 9223372036854775807)
 ∧ (c.2.2.2.2.2.2.2.2.2.1.length ≤ maxLen ∧ bytes c.2.2.2.2.2.2.2.2.2.1) ∧ (c.2.2.2.2.2.2.2.2.2.2.1.length ≤ maxLen ∧ bytes c.2.2.2.2.2.2.2.2.2.2.1) ∧ (c.2.2.2.2.2.2.2.2.2.2.2.1.length ≤ maxLen ∧ bytes c.2.2.2.2.2.2.2.2.2.2.2.1)
theorem a4i {c : Ms} : Kd.wf (.cat msL) c ↔ Y3 c := by
 have h1 : ∀ n, B7 .i64 n ↔ -9223372036854775808 ≤ n ∧ n ≤ 9223372036854775807 := fun _ => s0
 have h2 : ∀ n, B7 .u32 n ↔ 0 ≤ n ∧ n ≤ 4294967295 := fun _ => b6A
 have h3 : ∀ n, B7 .u64 n ↔ 0 ≤ n ∧ n ≤ 18446744073709551615 := fun _ => u5
 have h4 : ∀ n, B7 .u8 n ↔ 0 ≤ n ∧ n ≤ 255 := fun _ => a5x
 simp only [Kd.wf, b7u, FK.wf, Y3, bytes, h1, h2, h3, h4, and_true]
theorem b9V (c : Ms) : (c.1, c.2.1, c.2.2.1, c.2.2.2.1, c.2.2.2.2.1, c.2.2.2.2.2.1, c.2.2.2.2.2.2.1, c.2.2.2.2.2.2.2.1, c.2.2.2.2.2.2.2.2.1, c.2.2.2.2.2.2.2.2.2.1, c.2.2.2.2.2.2.2.2.2.2.1, c.2.2.2.2.2.2.2.2.2.2.2.1, ()) = c := rfl
theorem a8l {a b : Int} : a :: b :: [] = List.replicate 2 (0 : Int) ↔ a = 0 ∧ b = 0 := by simp
theorem b3u : ∀ x r, a0a x = some r → ∃ N, P5 N x = some r := by
 refine j9 (ks := D2) (rs := U7) fun x hw hq => ⟨0, ?_⟩
 obtain ⟨(c : Ms), u⟩ := x
 obtain ⟨h1, _, _, _, _, h6, h7, _⟩ := a4i.1 hw.1
 show P5 0 (c, u) = some (a3y c)
 unfold P5 a3y
 dsimp only
 rw [b0Q h1 (by omega), Option.bind_some]
 cases a2r c.1 114 with
 | true =>
  rw [if_neg (by simp), if_pos rfl, c01 h6 h7, Option.bind_some]
  cases b4x c.2.2.2.2.2.1 c.2.2.2.2.2.2.1 <;> rfl
 | false =>
  rw [if_pos (by simp), if_neg (show ¬ (false = true) by simp)]
  by_cases h : c.2.2.2.2.2.1 = 0 ∧ c.2.2.2.2.2.2.1 = 0
  ·rw [if_pos (a8l.2 h)]
   exact congrArg some (decide_eq_decide.2 (by simp [h.1, h.2]))
  ·rw [if_neg (fun g => h (a8l.1 g))]
   exact congrArg some (decide_eq_false (fun g => h ⟨g.1, g.2.1⟩)).symm
theorem b7i {c : Ms} (h : Y3 c) : a0a (c, ()) = some (a3y c) := j6 (ks := D2) (rs := U7) (x := (c, ())) ⟨a4i.2 h, trivial⟩ trivial
theorem b3t : ∀ x r, Z9 x = some r → ∃ N, P4 N x = some r := by
 refine j9 (ks := D1) (rs := U6) fun x hw hq => ⟨0, ?_⟩
 obtain ⟨(c : Ms), u⟩ := x
 obtain ⟨h1, _⟩ := a4i.1 hw.1
 show P4 0 (c, u) = some (R5 c)
 unfold P4 R5
 dsimp only
 rw [b0Q h1 (by omega), Option.bind_some]
 have e1 : decide (a2r c.1 110 = true) = a2r c.1 110 := by cases a2r c.1 110 <;> rfl
 rw [e1]
 by_cases k1 : a2r c.1 110 = decide (c.2.2.2.2.2.2.2.2.1 ≠ 0)
 ·rw [if_neg (fun h => h k1), decide_eq_true k1, Bool.true_and]
  by_cases k2 : c.2.2.2.2.2.2.2.2.1 < 0
  ·rw [if_pos k2, decide_eq_false (by omega), Bool.false_and]
  by_cases k3 : c.2.2.2.2.2.2.2.2.1 > 256
  ·rw [if_neg k2, if_pos k3, decide_eq_false (by omega), Bool.false_and]
  rw [if_neg k2, if_neg k3, decide_eq_true (show 0 ≤ c.2.2.2.2.2.2.2.2.1 ∧ c.2.2.2.2.2.2.2.2.1 ≤ 256 by omega), Bool.true_and, b0Q h1 (by omega), Option.bind_some]
  cases a2r c.1 112 with
  | false => rw [if_pos (by simp), if_neg (by simp)]
  | true =>
   rw [if_neg (by simp), if_pos rfl]
   by_cases k4 : c.2.2.2.2.2.2.2.1 ≥ 0
   ·rw [if_pos k4]
    exact congrArg some (decide_eq_decide.2 (by omega))
   ·rw [if_neg k4]
    exact congrArg some (decide_eq_false (by omega)).symm
 ·rw [if_pos k1, decide_eq_false k1, Bool.false_and]
theorem b7h {c : Ms} (h : Y3 c) : Z9 (c, ()) = some (R5 c) := j6 (ks := D1) (rs := U6) (x := (c, ())) ⟨a4i.2 h, trivial⟩ trivial
theorem b6l (b : Bool) : decide (b = true) = b := by cases b <;> rfl
theorem b5W {c : Ms} (h : R5 c = true) : 0 ≤ c.2.2.2.2.2.2.2.2.1 ∧ c.2.2.2.2.2.2.2.2.1 ≤ 256 := by
 unfold R5 at h
 simp only [Bool.and_eq_true, decide_eq_true_eq] at h
 exact h.2.1
theorem b4I : ∀ x r, y9 x = some r → ∃ N, U1 N x = some r := by
 refine j9 (ks := F9) (rs := a0I) fun x hw hq => ⟨0, ?_⟩
 obtain ⟨(c : Ms), u⟩ := x
 have hc : Y3 c := a4i.1 hw.1
 have hc2 := hc
 obtain ⟨h1, h2, h3, _, _, _, _, _, _, h10, h11, h12⟩ := hc2
 show U1 0 (c, u) = some (A4 c)
 have hmost : -9223372036854775808 ≤ a5t c.1 ∧ a5t c.1 ≤ 9223372036854775807 := by unfold a5t; split <;> omega
 unfold U1 A4
 dsimp only
 rw [b9V, b7d h1, Option.bind_some]
 by_cases hn : a5v c.1 = ⟨#[]⟩
 ·rw [if_pos hn, if_pos hn]
 rw [if_neg hn, if_neg hn, b2H h2, Option.bind_some]
 unfold okS
 cases b5A c.2.1 with
 | false => rfl
 | true =>
 rw [if_pos rfl, b2H h3, Option.bind_some, Bool.true_and]
 cases b5A c.2.2.1 with
 | false => rfl
 | true =>
 rw [if_pos rfl, Bool.true_and]
 by_cases hne : c.2.1 ≠ c.2.2.1
 ·rw [if_pos hne, decide_eq_true hne, Bool.true_and, b7i hc, Option.bind_some]
  cases a3y c with
  | false => rfl
  | true =>
  rw [if_pos rfl, Bool.true_and, b7h hc, Option.bind_some]
  cases hp : R5 c with
  | false => rfl
  | true =>
  rw [if_pos rfl, Bool.true_and, b0Q h1 (by omega), Option.bind_some, c0g h1, Option.bind_some, b6l, a8s h10 hmost, Option.bind_some]
  cases Y9 (a2r c.1 100) c.2.2.2.2.2.2.2.2.2.1.length (a5t c.1) with
  | false => rfl
  | true =>
  rw [if_pos rfl, Bool.true_and, b0Q h1 (by omega), Option.bind_some, b6l, a8s h11 (by omega), Option.bind_some]
  cases Y9 (a2r c.1 99) c.2.2.2.2.2.2.2.2.2.2.1.length 6446 with
  | false => rfl
  | true =>
  rw [if_pos rfl, Bool.true_and, b0Q h1 (by omega), Option.bind_some, b6l, a8s h12 (by omega), Option.bind_some]
  cases Y9 (a2r c.1 115) c.2.2.2.2.2.2.2.2.2.2.2.1.length 3309 with
  | false => rfl
  | true =>
  rw [if_neg (by simp), Bool.true_and]
  by_cases h4 : c.1 = 4
  ·have hpl := b5W hp
   rw [if_pos h4, if_pos h4, b7g (by omega) h10, Option.bind_some]
   cases a7K c.2.2.2.2.2.2.2.2.1 c.2.2.2.2.2.2.2.2.2.1 <;> rfl
  ·rw [if_neg h4, if_neg h4]
   rfl
 ·rw [if_neg hne, decide_eq_false hne]
  rfl
theorem b5q {c : Ms} (h : Y3 c) : y9 (c, ()) = some (A4 c) := j6 (ks := F9) (rs := a0I) (x := (c, ())) ⟨a4i.2 h, trivial⟩ trivial
theorem c17 {c : Ms} (h : okS c = true) : c1N c := by
 have hp : R5 c = true := by
  unfold okS at h
  simp only [Bool.and_eq_true] at h
  exact h.2.2.2.2.1
 have hpl := b5W hp
 have hw : ∀ (is : Bool) (n : Nat) (m : Int), m ≤ 60000 → Y9 is n m = true → n ≤ 60000 := by
  intro is n m hm hw
  unfold Y9 at hw
  split at hw
  ·simp only [decide_eq_true_eq] at hw; omega
  ·simp only [decide_eq_true_eq] at hw; omega
 have hm : a5t c.1 ≤ 60000 := by unfold a5t; split <;> omega
 have hpart : 0 ≤ c.2.2.2.2.2.2.2.1 ∧ c.2.2.2.2.2.2.2.1 ≤ 65535 := by
  unfold R5 at hp
  simp only [Bool.and_eq_true] at hp
  have := hp.2.2
  split at this
  ·simp only [decide_eq_true_eq] at this; omega
  ·simp only [decide_eq_true_eq] at this; omega
 unfold okS at h
 simp only [Bool.and_eq_true, b5A, decide_eq_true_eq] at h
 obtain ⟨a1, a2, _, _, _, a6, a7, a8, _⟩ := h
 exact ⟨by omega, by omega, hpart, by omega, hw _ _ _ hm a6, hw _ _ _ (by omega) a7, hw _ _ _ (by omega) a8⟩
end Go.Ax.TryP
set_option linter.unusedVariables false
set_option linter.unusedSimpArgs false
namespace Go.Ax.TryP
open Go.Proofs
theorem J6 {a b : List Int} : bytes (a ++ b) ↔ bytes a ∧ bytes b := by
 simp only [bytes, List.mem_append]
 exact ⟨fun h => ⟨fun z hz => h z (.inl hz), fun z hz => h z (.inr hz)⟩, fun h z hz => hz.elim (h.1 z) (h.2 z)⟩
theorem N8 (k : Int) : List.set (List.replicate 1 (0 : Int)) 0 (IntKind.u8.wrap k) = [k % 256] := by rw [a5a]; rfl
theorem J7 (k : Int) : bytes [k % 256] := fun z hz => by rw [List.mem_singleton.1 hz]; omega
theorem a8w : bytes [] := fun z hz => by cases hz
theorem b1A {a b d : List Int} (ha : a.length ≤ 300000) (hb : b.length ≤ 300000) (hd : d.length ≤ 300000) (ka : bytes a) (kb : bytes b) (kd : bytes d) : o7 ([a, b, d], ()) = some (a ++ (b ++ d)) := by
 have hM : 1000000 ≤ maxLen := by decide
 rw [c0b ⟨by simp, by simp only [List.flatten_cons, List.flatten_nil, List.length_append, List.length_nil]; omega⟩ ⟨by simp only [List.length_cons, List.length_nil]; omega, fun zs hz => ?_⟩]
 ·simp
 ·simp only [List.mem_cons, List.not_mem_nil, or_false] at hz
  rcases hz with rfl | rfl | rfl
  ·exact ⟨by omega, ka⟩
  ·exact ⟨by omega, kb⟩
  ·exact ⟨by omega, kd⟩
structure Bs (fr to tid key lo hi pt pts : Int) (d ce sg : List Int) : Prop where
 b2 : c7 (IntKind.u64.wrap fr, 1, ()) = some (L9 fr 1, 0)
 b3 : c7 (IntKind.u64.wrap to, 1, ()) = some (L9 to 1, 0)
 b4 : c7 (IntKind.u64.wrap tid, 4, ()) = some (L9 tid 4, 0)
 b5 : c7 (IntKind.u64.wrap key, 4, ()) = some (L9 key 4, 0)
 b6 : c7 (lo, 8, ()) = some (L9 lo 8, 0)
 b7 : c7 (hi, 8, ()) = some (L9 hi 8, 0)
 b8 : c7 (IntKind.u64.wrap pt, 2, ()) = some (L9 pt 2, 0)
 b9 : c7 (IntKind.u64.wrap pts, 2, ()) = some (L9 pts 2, 0)
 u10 : n9 (IntKind.u16.wrap (d.length : Int), ()) = some (L9 (d.length : Int) 2)
 u11 : n9 (IntKind.u16.wrap (ce.length : Int), ()) = some (L9 (ce.length : Int) 2)
 u12 : n9 (IntKind.u16.wrap (sg.length : Int), ()) = some (L9 (sg.length : Int) 2)
 o2 : L9 fr 1 = [fr % 256]
 o3 : L9 to 1 = [to % 256]
 l10 : d.length ≤ 60000
 l11 : ce.length ≤ 60000
 l12 : sg.length ≤ 60000
 y10 : bytes d
 y11 : bytes ce
 y12 : bytes sg
theorem c1Z {fr to tid key lo hi pt pts : Int} {d ce sg : List Int} (B : Bs fr to tid key lo hi pt pts d ce sg) (all : Bool) : ([1 % 256] ++ L9 fr 1 ++ L9 to 1 ++ L9 tid 4 ++ L9 key 4 ++ L9 lo 8 ++ L9 hi 8 ++ (L9 (d.length : Int) 2 ++ d)) ++ (L9 (ce.length : Int) 2 ++ ce) = Q5 (1, fr, to, tid, key, lo, hi, pt, pts, d, ce, sg, ()) all := by
 simp [Q5, a8O, a8h, a4l, B.o2, B.o3]
theorem c1c {fr to tid key lo hi pt pts : Int} {d ce sg : List Int} (B : Bs fr to tid key lo hi pt pts d ce sg) (all : Bool) : j4 0 ((1, fr, to, tid, key, lo, hi, pt, pts, d, ce, sg, ()), all, ()) = some (Q5 (1, fr, to, tid, key, lo, hi, pt, pts, d, ce, sg, ()) all) := by
 have l10 := B.l10
 have l11 := B.l11
 have l12 := B.l12
 unfold j4
 dsimp only
 rw [if_pos (show (1 : Int) = 1 from rfl)]
 rw [if_pos (by omega), if_pos (by omega), if_pos (by omega), if_pos (by omega), B.b2, Option.bind_some, if_pos (by simp only [j5]; omega), B.b3, Option.bind_some, if_pos (by simp only [j5]; omega), B.b4, Option.bind_some, if_pos (by simp only [j5]; omega), B.b5, Option.bind_some, if_pos (by simp only [j5]; omega), B.b6, Option.bind_some, if_pos (by simp only [j5]; omega), B.b7, Option.bind_some, if_pos (by simp only [j5]; omega), B.u10, Option.bind_some, N8]
 dsimp only
 rw [b1A (by simp only [List.length_append, j5, List.length_cons, List.length_nil]; omega) (by rw [j5]; omega) (by omega) (by simp only [J6, l7, J7, and_self]) (l7 _ _) B.y10, Option.bind_some, B.u11, Option.bind_some]
 rw [b1A (by simp only [List.length_append, j5, List.length_cons, List.length_nil]; omega) (by rw [j5]; omega) (by omega) (by simp only [J6, l7, J7, B.y10, and_self]) (l7 _ _) B.y11, Option.bind_some]
 exact congrArg some (c1Z B all)
theorem b83 {fr to tid key lo hi pt pts : Int} {d ce sg : List Int} (B : Bs fr to tid key lo hi pt pts d ce sg) : j4 0 ((2, fr, to, tid, key, lo, hi, pt, pts, d, ce, sg, ()), true, ()) = some (Q5 (2, fr, to, tid, key, lo, hi, pt, pts, d, ce, sg, ()) true) := by
 have l10 := B.l10
 have l11 := B.l11
 have l12 := B.l12
 unfold j4
 dsimp only
 rw [if_neg (by omega), if_pos (show (2 : Int) = 2 from rfl)]
 rw [if_pos (by omega), if_pos (by omega), if_pos (by omega), if_pos rfl]
 simp (disch := omega) only [if_pos, B.b2, B.b3, B.b4, B.b5, B.b6, B.b7, B.u11, B.u12, Option.bind_some, j5, N8]
 rw [b1A (by simp only [List.length_append, j5, List.length_cons, List.length_nil]; omega) (by rw [j5]; omega) (by omega) (by simp only [J6, l7, J7, and_self]) (l7 _ _) B.y11, Option.bind_some]
 rw [b1A (by simp only [List.length_append, j5, List.length_cons, List.length_nil]; omega) (by rw [j5]; omega) (by omega) (by simp only [J6, l7, J7, B.y11, and_self]) (l7 _ _) B.y12, Option.bind_some]
 simp [Q5, a8O, a8h, a4l, B.o2, B.o3]
theorem b82 {fr to tid key lo hi pt pts : Int} {d ce sg : List Int} (B : Bs fr to tid key lo hi pt pts d ce sg) : j4 0 ((2, fr, to, tid, key, lo, hi, pt, pts, d, ce, sg, ()), false, ()) = some (Q5 (2, fr, to, tid, key, lo, hi, pt, pts, d, ce, sg, ()) false) := by
 have l10 := B.l10
 have l11 := B.l11
 have l12 := B.l12
 unfold j4
 dsimp only
 rw [if_neg (by omega), if_pos (show (2 : Int) = 2 from rfl)]
 rw [if_pos (by omega), if_pos (by omega), if_pos (by omega), if_neg (show ¬ (false = true) by simp)]
 simp (disch := omega) only [if_pos, B.b2, B.b3, B.b4, B.b5, B.b6, B.b7, B.u11, B.u12, Option.bind_some, j5, N8]
 rw [b1A (by simp only [List.length_append, j5, List.length_cons, List.length_nil]; omega) (by rw [j5]; omega) (by omega) (by simp only [J6, l7, J7, and_self]) (l7 _ _) B.y11, Option.bind_some]
 simp [Q5, a8O, a8h, a4l, B.o2, B.o3]
theorem c1d {fr to tid key lo hi pt pts : Int} {d ce sg : List Int} (B : Bs fr to tid key lo hi pt pts d ce sg) (all : Bool) : j4 0 ((3, fr, to, tid, key, lo, hi, pt, pts, d, ce, sg, ()), all, ()) = some (Q5 (3, fr, to, tid, key, lo, hi, pt, pts, d, ce, sg, ()) all) := by
 have l10 := B.l10
 have l11 := B.l11
 have l12 := B.l12
 unfold j4
 dsimp only
 rw [if_neg (by omega), if_neg (by omega), if_pos (show (3 : Int) = 3 from rfl)]
 simp (disch := omega) only [if_pos, B.b2, B.b3, B.b4, B.b8, B.b9, B.u10, Option.bind_some, j5, N8]
 rw [b1A (by simp only [List.length_append, j5, List.length_cons, List.length_nil]; omega) (by rw [j5]; omega) (by omega) (by simp only [J6, l7, J7, and_self]) (l7 _ _) B.y10, Option.bind_some]
 simp [Q5, a8O, a8h, a4l, B.o2, B.o3]
theorem c1e {fr to tid key lo hi pt pts : Int} {d ce sg : List Int} (B : Bs fr to tid key lo hi pt pts d ce sg) (all : Bool) : j4 0 ((4, fr, to, tid, key, lo, hi, pt, pts, d, ce, sg, ()), all, ()) = some (Q5 (4, fr, to, tid, key, lo, hi, pt, pts, d, ce, sg, ()) all) := by
 have l10 := B.l10
 have l11 := B.l11
 have l12 := B.l12
 unfold j4
 dsimp only
 rw [if_neg (by omega), if_neg (by omega), if_neg (by omega), if_pos (show (4 : Int) = 4 from rfl)]
 simp (disch := omega) only [if_pos, B.b2, B.b3, B.b4, B.b9, B.u10, Option.bind_some, j5, N8]
 rw [b1A (by simp only [List.length_append, j5, List.length_cons, List.length_nil]; omega) (by rw [j5]; omega) (by omega) (by simp only [J6, l7, J7, and_self]) (l7 _ _) B.y10, Option.bind_some]
 simp [Q5, a8O, a8h, a4l, B.o2, B.o3]
theorem b85 {fr to tid key lo hi pt pts : Int} {d ce sg : List Int} (B : Bs fr to tid key lo hi pt pts d ce sg) : j4 0 ((5, fr, to, tid, key, lo, hi, pt, pts, d, ce, sg, ()), true, ()) = some (Q5 (5, fr, to, tid, key, lo, hi, pt, pts, d, ce, sg, ()) true) := by
 have l10 := B.l10
 have l11 := B.l11
 have l12 := B.l12
 unfold j4
 dsimp only
 rw [if_neg (by omega), if_neg (by omega), if_neg (by omega), if_neg (by omega), if_pos (show (5 : Int) = 5 from rfl)]
 rw [if_pos (by omega), if_pos (by omega), if_pos rfl]
 simp (disch := omega) only [if_pos, B.b2, B.b3, B.b4, B.b5, B.b6, B.b7, B.u12, Option.bind_some, j5, N8]
 rw [b1A (by simp only [List.length_append, j5, List.length_cons, List.length_nil]; omega) (by rw [j5]; omega) (by omega) (by simp only [J6, l7, J7, and_self]) (l7 _ _) B.y12, Option.bind_some]
 simp [Q5, a8O, a8h, a4l, B.o2, B.o3]
theorem b84 {fr to tid key lo hi pt pts : Int} {d ce sg : List Int} (B : Bs fr to tid key lo hi pt pts d ce sg) : j4 0 ((5, fr, to, tid, key, lo, hi, pt, pts, d, ce, sg, ()), false, ()) = some (Q5 (5, fr, to, tid, key, lo, hi, pt, pts, d, ce, sg, ()) false) := by
 have l10 := B.l10
 have l11 := B.l11
 have l12 := B.l12
 unfold j4
 dsimp only
 rw [if_neg (by omega), if_neg (by omega), if_neg (by omega), if_neg (by omega), if_pos (show (5 : Int) = 5 from rfl)]
 rw [if_pos (by omega), if_pos (by omega), if_neg (show ¬ (false = true) by simp)]
 simp (disch := omega) only [if_pos, B.b2, B.b3, B.b4, B.b5, B.b6, B.b7, B.u12, Option.bind_some, j5, N8]
 simp [Q5, a8O, a8h, a4l, B.o2, B.o3]
theorem b87 {fr to tid key lo hi pt pts : Int} {d ce sg : List Int} (B : Bs fr to tid key lo hi pt pts d ce sg) : j4 0 ((6, fr, to, tid, key, lo, hi, pt, pts, d, ce, sg, ()), true, ()) = some (Q5 (6, fr, to, tid, key, lo, hi, pt, pts, d, ce, sg, ()) true) := by
 have l10 := B.l10
 have l11 := B.l11
 have l12 := B.l12
 unfold j4
 dsimp only
 rw [if_neg (by omega), if_neg (by omega), if_neg (by omega), if_neg (by omega), if_neg (by omega), if_pos (show (6 : Int) = 6 from rfl)]
 rw [if_pos (by omega), if_pos (by omega), if_pos rfl]
 simp (disch := omega) only [if_pos, B.b2, B.b3, B.b4, B.b5, B.b6, B.b7, B.u12, Option.bind_some, j5, N8]
 rw [b1A (by simp only [List.length_append, j5, List.length_cons, List.length_nil]; omega) (by rw [j5]; omega) (by omega) (by simp only [J6, l7, J7, and_self]) (l7 _ _) B.y12, Option.bind_some]
 simp [Q5, a8O, a8h, a4l, B.o2, B.o3]
theorem b86 {fr to tid key lo hi pt pts : Int} {d ce sg : List Int} (B : Bs fr to tid key lo hi pt pts d ce sg) : j4 0 ((6, fr, to, tid, key, lo, hi, pt, pts, d, ce, sg, ()), false, ()) = some (Q5 (6, fr, to, tid, key, lo, hi, pt, pts, d, ce, sg, ()) false) := by
 have l10 := B.l10
 have l11 := B.l11
 have l12 := B.l12
 unfold j4
 dsimp only
 rw [if_neg (by omega), if_neg (by omega), if_neg (by omega), if_neg (by omega), if_neg (by omega), if_pos (show (6 : Int) = 6 from rfl)]
 rw [if_pos (by omega), if_pos (by omega), if_neg (show ¬ (false = true) by simp)]
 simp (disch := omega) only [if_pos, B.b2, B.b3, B.b4, B.b5, B.b6, B.b7, B.u12, Option.bind_some, j5, N8]
 simp [Q5, a8O, a8h, a4l, B.o2, B.o3]
theorem c1f {fr to tid key lo hi pt pts : Int} {d ce sg : List Int} (B : Bs fr to tid key lo hi pt pts d ce sg) (all : Bool) {k : Int} (g : k ≠ 1 ∧ k ≠ 2 ∧ k ≠ 3 ∧ k ≠ 4 ∧ k ≠ 5 ∧ k ≠ 6) : j4 0 ((k, fr, to, tid, key, lo, hi, pt, pts, d, ce, sg, ()), all, ()) = some (Q5 (k, fr, to, tid, key, lo, hi, pt, pts, d, ce, sg, ()) all) := by
 obtain ⟨g1, g2, g3, g4, g5, g6⟩ := g
 unfold j4
 dsimp only
 rw [if_neg g1, if_neg g2, if_neg g3, if_neg g4, if_neg g5, if_neg g6]
 simp (disch := omega) only [if_pos, B.b2, B.b3, B.b4, Option.bind_some, j5, N8]
 simp [Q5, a8O, a8h, g1, g2, g3, g4, g5, g6, B.o2, B.o3]
theorem b6D : ∀ x r, a3J x = some r → ∃ N, j4 N x = some r := by
 refine j9 (ks := K7) (rs := K8) fun x hw hq => ⟨0, ?_⟩
 obtain ⟨(c : Ms), (all : Bool), u⟩ := x
 obtain ⟨h1, h2, h3, h4, h5, h6, h7, h8, h9, h10, h11, h12⟩ := a4i.1 hw.1
 obtain ⟨f2, f3, f8, f9, f10, f11, f12⟩ : c1N c := hq
 show j4 0 (c, all, u) = some (Q5 c all)
 obtain ⟨k, fr, to, tid, key, lo, hi, pt, pts, d, ce, sg, ⟨⟩⟩ := c
 dsimp only at h1 h2 h3 h4 h5 h6 h7 h8 h9 h10 h11 h12 f2 f3 f8 f9 f10 f11 f12
 have o1 : ∀ n : Int, L9 n 1 = [n % 256] := fun n => by simp [L9]
 have B : Bs fr to tid key lo hi pt pts d ce sg := by
  refine ⟨?_, ?_, ?_, ?_, a68 h6 (w := 8) (by omega) c1b, a68 h7 (w := 8) (by omega) c1b, ?_, ?_, ?_, ?_, ?_, o1 fr, o1 to, f10, f11, f12, h10.2, h11.2, h12.2⟩
  ·rw [E3 (by omega) (by omega)]; exact a68 (by omega) (w := 1) (by omega) (b0W (by omega) (w := 1) (by omega))
  ·rw [E3 (by omega) (by omega)]; exact a68 (by omega) (w := 1) (by omega) (b0W (by omega) (w := 1) (by omega))
  ·rw [E3 (by omega) (by omega)]; exact a68 (by omega) (w := 4) (by omega) (b0W (by omega) (w := 4) (by omega))
  ·rw [E3 (by omega) (by omega)]; exact a68 (by omega) (w := 4) (by omega) (b0W (by omega) (w := 4) (by omega))
  ·rw [E3 (by omega) (by omega)]; exact a68 (by omega) (w := 2) (by omega) (b0W (by omega) (w := 2) (by omega))
  ·rw [E3 (by omega) (by omega)]; exact a68 (by omega) (w := 2) (by omega) (b0W (by omega) (w := 2) (by omega))
  ·rw [a3E, show (d.length : Int) % 65536 = d.length by omega]; exact b7f (by omega)
  ·rw [a3E, show (ce.length : Int) % 65536 = ce.length by omega]; exact b7f (by omega)
  ·rw [a3E, show (sg.length : Int) % 65536 = sg.length by omega]; exact b7f (by omega)
 have hk : k = 1 ∨ k = 2 ∨ k = 3 ∨ k = 4 ∨ k = 5 ∨ k = 6 ∨ (k ≠ 1 ∧ k ≠ 2 ∧ k ≠ 3 ∧ k ≠ 4 ∧ k ≠ 5 ∧ k ≠ 6) := by omega
 rcases hk with rfl | rfl | rfl | rfl | rfl | rfl | hk
 ·exact c1c B all
 ·cases all with
  | true => exact b83 B
  | false => exact b82 B
 ·exact c1d B all
 ·exact c1e B all
 ·cases all with
  | true => exact b85 B
  | false => exact b84 B
 ·cases all with
  | true => exact b87 B
  | false => exact b86 B
 ·exact c1f B all hk
theorem c0d {c : Ms} (h : Y3 c) (hf : c1N c) (all : Bool) : a3J (c, all, ()) = some (Q5 c all) := j6 (ks := K7) (rs := K8) (x := (c, all, ())) ⟨a4i.2 h, trivial, trivial⟩ hf
end Go.Ax.TryP
set_option linter.unusedVariables false
namespace Go.Ax.TryP
open Go.Proofs
theorem b8X {c : Ms} (h : A4 c = 0) : okS c = true := by
 unfold A4 at h
 split at h
 ·omega
 ·split at h
  ·assumption
  ·omega
theorem b78 : ∀ x r, a5o x = some r → ∃ N, a3o N x = some r := by
 refine j9 (ks := P0) (rs := P1) fun x hw hq => ⟨0, ?_⟩
 obtain ⟨(c : Ms), u⟩ := x
 have hc : Y3 c := a4i.1 hw.1
 show a3o 0 (c, u) = some (c1u c)
 unfold a3o c1u
 dsimp only
 rw [b9V, b5q hc, Option.bind_some]
 by_cases h : A4 c = 0
 ·rw [if_neg (fun g => g h), if_pos h, c0d hc (c17 (b8X h)) true, Option.bind_some]
 ·rw [if_pos h, if_neg h]
theorem c03 {c : Ms} (h : Y3 c) : a5o (c, ()) = some (c1u c) := j6 (ks := P0) (rs := P1) (x := (c, ())) ⟨a4i.2 h, trivial⟩ trivial
def ms0 : Ms := (8, 1, 2, 3, 0, 0, 0, 0, 0, [], [], [], ())
theorem c1r : Y3 ms0 := by
 have hM : 1000000 ≤ maxLen := by decide
 exact ⟨by decide, by decide, by decide, by decide, by decide, by decide, by decide, by decide, by decide, ⟨Nat.zero_le _, a8w⟩, ⟨Nat.zero_le _, a8w⟩, Nat.zero_le _, a8w⟩
theorem c0t : c1u ms0 = ([8, 1, 2, 0, 0, 0, 3], 0) := by decide +kernel
theorem b3q : ∀ x r, I9 x = some r → ∃ N, a0j N x = some r := by
 refine j9 (ks := a3i) (rs := a3j) fun x hw hq => ⟨0, ?_⟩
 have c1 := c03 c1r
 rw [c0t] at c1
 have hb : bytes [8, 1, 2, 0, 0, 0, 3] := fun z hz => by
  simp only [List.mem_cons, List.not_mem_nil, or_false] at hz
  omega
 have c2 : u6 ([8, 1, 2, 0, 0, 0, 3], [8, 1, 2, 0, 0, 0, 3], ()) = some true := by
  rw [b8P ⟨by simp, hb⟩ ⟨by simp, hb⟩]
  rfl
 have c3 := c00 (k := 3) (by omega)
 unfold a0j
 refine (congrArg (fun o => Option.bind o _) c1).trans ?_
 rw [Option.bind_some]
 refine (congrArg (fun o => Option.bind o _) c2).trans ?_
 rw [Option.bind_some, if_pos rfl, if_pos rfl]
 refine (congrArg (fun o => Option.bind o _) c3).trans ?_
 rfl
theorem c0e : I9 () = some true := j6 (ks := []) (rs := [.bool]) (x := ()) trivial trivial
end Go.Ax.TryP
namespace Go.Ax.TryP
open Go.Proofs
theorem b3V : i0 Try.prog 37 a2P := a9m (a7Y) b3x
theorem a2i : i0 Try.prog 19 A7 := a72 (a6X) b19
theorem a9N : i0 Try.prog 71 T1 := b0t (a9o) b4L
theorem b4W : i0 Try.prog 61 a4y := b0s (a9n a9N) b4K
theorem b3W : i0 Try.prog 72 a2Q := a9p (a70) b3y
theorem b4V : i0 Try.prog 62 a4x := b0r (a9k b3W a9N) b4J
theorem b6S : i0 Try.prog 73 a6j := b14 (b0F) b6H
theorem b6R : i0 Try.prog 66 a6i := b13 (b0E b6S) b6G
theorem b3U : i0 Try.prog 40 a2O := a9l (a7X) b3w
theorem b8f : i0 Try.prog 12 a8p := b3a (b1J) b77
theorem b1d : i0 Try.prog 14 a01 := b1K (b0g) b6C
noncomputable abbrev O2 : Sig := ⟨[.int .i64], [.str], O6⟩
theorem a7s : i0 Try.prog 15 O2 := a9w (a75) b3B
theorem a9M : i0 Try.prog 36 T0 := b3g (b1N) b79
theorem b3P : i0 Try.prog 43 a2J := a9f (a7R) b3r
theorem b6P : i0 Try.prog 47 a6g := b1O (b0k) b6E
theorem b3T : i0 Try.prog 46 a2N := a9j (a7V) b3v
theorem b3Q : i0 Try.prog 48 a2K := a9g (a7S b3U) b3s
theorem b3S : i0 Try.prog 44 a2M := a9i (a7U a9M b6R) b3u
theorem b3R : i0 Try.prog 45 a2L := a9h (a7T a9M) b3t
theorem a9L : i0 Try.prog 25 S9 := b0d (a9b b1d b3P b3S b3R a9M b6P b3T b3Q) b4I
theorem b6O : i0 Try.prog 34 a6f := b1M (b0j b4V b4W b3V) b6D
theorem b8g : i0 Try.prog 17 a8q := b3d (b1L a9L b6O) b78
noncomputable abbrev a2I : Sig := ⟨[], [.bool], I9⟩
theorem b3O : i0 Try.prog 11 a2I := a9a (a7L b8g a2i b8f) b3q
end Go.Ax.TryP
