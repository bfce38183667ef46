/- A part of the proof: SampS, SampP1, SampQ1, SampQ2, SampQ3, SampQ4, SampQ5, SampQ6. -/
import Derived.Test.YtnokmgclkediiaaKecC
/-! ### The samplers modulo 8380417: what the functions answer -/
namespace Go.Ax.TryP
abbrev z256 : List Int := List.replicate 256 0
/-- The bytes of SHAKE128 and of SHAKE256. -/
def shk (l : List Int) (p : Nat) : Int := outB 168 (absorb 168 31 (z25, 0) l) p
def shb (l : List Int) (p : Nat) : Int := outB 136 (absorb 136 31 (z25, 0) l) p
def candD (s : List Int) (t : Nat) : Int := shk s (3 * t) + 256 * shk s (3 * t + 1) + 65536 * (shk s (3 * t + 2) % 128)
def oneD (s : List Int) (t : Nat) : List Int := if candD s t < 8380417 then [candD s t] else []
def accF (f : Nat → List Int) : Nat → List Int
  | 0 => []
  | t + 1 => accF f t ++ f t
def rejS (s : List Int) : List Int × Int := if s.length ≠ 34 then (z256, 1) else if (accF (oneD s) 1024).length < 256 then (z256, 130) else ((accF (oneD s) 1024).take 256, 0)
def halfB (s : List Int) (t : Nat) : Int := if t % 2 = 0 then shb s (t / 2) % 16 else shb s (t / 2) / 16
def valB (eta h : Int) : List Int := if eta = 2 then (if h < 15 then [(2 - h % 5) % 8380417] else []) else (if h < 9 then [(4 - h) % 8380417] else [])
def bndF (eta : Int) (s : List Int) (t : Nat) : List Int := valB eta (halfB s t)
def bndS (eta : Int) (s : List Int) : List Int × Int := if (eta ≠ 2 ∧ eta ≠ 4) ∨ s.length ≠ 66 then (z256, 1) else if (accF (bndF eta s) 2048).length < 256 then (z256, 130) else ((accF (bndF eta s) 2048).take 256, 0)
def unpS (w : Nat) (b : List Int) : List Int := dpoly fun i => sumB w fun k => bitAt b (i * w + k)
def unpFromS (top : Int) (w : Nat) (b : List Int) : List Int := dpoly fun i => top - sumB w fun k => bitAt b (i * w + k)
def maskS (w : Int) (s : List Int) : List Int × Int := if (w ≠ 18 ∧ w ≠ 20) ∨ s.length ≠ 66 then (z256, 1) else (unpFromS (2 ^ (w - 1).toNat) w.toNat (spongeS 136 31 s (32 * w.toNat)), 0)
noncomputable def g_keccak_Shake256 : List (List Int) × Unit → Option Xf := Spec (ks := [.sls (.int .u8)]) (rs := [.op [.bool, .xs (.int .u64) 25, .int .i64, .int .i64, .int .i64]]) (fun _ => True) fun x => (true, absorb 136 31 (z25, 0) x.1.flatten, 136, 0, 0, ())
noncomputable def g_keccak_Shake : Int × Int × List (List Int) × Unit → Option (List Int × Int) := Spec (ks := [.int .i64, .int .i64, .sls (.int .u8)]) (rs := [.sl (.int .u8), .int .i64]) (fun x => (x.1 = 128 ∨ x.1 = 256) ∧ 0 ≤ x.2.1 ∧ x.2.1 ≤ 1048576) fun x => (spongeS (if x.1 = 128 then 168 else 136) 31 x.2.2.1.flatten x.2.1.toNat, 0)
noncomputable def g_dring_RejNtt : List Int × Unit → Option (List Int × Int) := Spec (ks := [.sl (.int .u8)]) (rs := [.xs (.int .i32) 256, .int .i64]) (fun _ => True) fun x => rejS x.1
noncomputable def g_ref15_RejNtt : List Int × Unit → Option (List Int × Int) := Spec (ks := [.sl (.int .u8)]) (rs := [.xs (.int .i32) 256, .int .i64]) (fun _ => True) fun x => rejS x.1
/-- Half a byte's number, or none. -/
def halfS (eta h : Int) : Int × Bool := if eta = 2 ∧ h < 15 then (2 - h % 5, true) else if eta = 4 ∧ h < 9 then (4 - h, true) else (0, false)
noncomputable def g_dring_half : Int × Int × Unit → Option (Int × Bool) := Spec (ks := [.int .i64, .int .u8]) (rs := [.int .i32, .bool]) (fun _ => True) fun x => halfS x.1 x.2.1
noncomputable def g_dring_RejBounded : Int × List Int × Unit → Option (List Int × Int) := Spec (ks := [.int .i64, .sl (.int .u8)]) (rs := [.xs (.int .i32) 256, .int .i64]) (fun _ => True) fun x => bndS x.1 x.2.1
noncomputable def g_ref15_RejBounded : Int × List Int × Unit → Option (List Int × Int) := Spec (ks := [.int .i64, .sl (.int .u8)]) (rs := [.xs (.int .i32) 256, .int .i64]) (fun _ => True) fun x => bndS x.1 x.2.1
noncomputable def g_ref01_Bits : List Int × Unit → Option (List Int) := Spec (ks := [.sl (.int .u8)]) (rs := [.sl .bool]) (fun x => x.1.length ≤ 1000000) fun x => bitsOf x.1
noncomputable def g_ref15_width : Int × Unit → Option Int := Spec (ks := [.int .i64]) (rs := [.int .i64]) (fun x => 0 ≤ x.1 ∧ x.1 ≤ 23) fun x => 2 ^ x.1.toNat
def wOk (w : Int) (b : List Int) : Prop := 1 ≤ w ∧ w ≤ 23 ∧ (b.length : Int) = 32 * w
noncomputable def g_dring_Unpack : Int × List Int × Unit → Option (List Int × Int) := Spec (ks := [.int .i64, .sl (.int .u8)]) (rs := [.xs (.int .i32) 256, .int .i64]) (fun x => wOk x.1 x.2.1) fun x => (unpS x.1.toNat x.2.1, 0)
noncomputable def g_ref15_Unpack : Int × List Int × Unit → Option (List Int × Int) := Spec (ks := [.int .i64, .sl (.int .u8)]) (rs := [.xs (.int .i32) 256, .int .i64]) (fun x => wOk x.1 x.2.1) fun x => (unpS x.1.toNat x.2.1, 0)
noncomputable def g_dring_UnpackFrom_1 : Int × Int × Unit → Option Int := Spec (ks := [.int .i32, .rp (.int .i32)]) (rs := [.int .i32]) (fun x => 0 ≤ x.1 ∧ 0 ≤ x.2.1) fun x => x.2.1 - x.1
noncomputable def g_dring_each__dring_UnpackFrom_1 : List Int × Int × Unit → Option (List Int) := Spec (ks := [.xs (.int .i32) 256, .fcl 82 .i32]) (rs := [.xs (.int .i32) 256]) (fun x => (∀ z ∈ x.1, 0 ≤ z) ∧ 0 ≤ x.2.1) fun x => dpoly fun i => x.2.1 - x.1.getD i 0
noncomputable def g_dring_UnpackFrom : Int × Int × List Int × Unit → Option (List Int × Int) := Spec (ks := [.int .i32, .int .i64, .sl (.int .u8)]) (rs := [.xs (.int .i32) 256, .int .i64]) (fun x => (0 ≤ x.1 ∧ x.1 < 8380417) ∧ wOk x.2.1 x.2.2.1) fun x => (unpFromS x.1 x.2.1.toNat x.2.2.1, 0)
noncomputable def g_ref15_UnpackFrom : Int × Int × List Int × Unit → Option (List Int × Int) := Spec (ks := [.int .i32, .int .i64, .sl (.int .u8)]) (rs := [.xs (.int .i32) 256, .int .i64]) (fun x => (0 ≤ x.1 ∧ x.1 < 8380417) ∧ wOk x.2.1 x.2.2.1) fun x => (unpFromS x.1 x.2.1.toNat x.2.2.1, 0)
noncomputable def g_dring_Mask : Int × List Int × Unit → Option (List Int × Int) := Spec (ks := [.int .i64, .sl (.int .u8)]) (rs := [.xs (.int .i32) 256, .int .i64]) (fun _ => True) fun x => maskS x.1 x.2.1
noncomputable def g_ref15_Mask : Int × List Int × Unit → Option (List Int × Int) := Spec (ks := [.int .i64, .sl (.int .u8)]) (rs := [.xs (.int .i32) 256, .int .i64]) (fun _ => True) fun x => maskS x.1 x.2.1
/-- The first place from one on whose byte is not above i; 1032: there is none. -/
def skipB (s : List Int) (i : Nat) : Nat → Nat → Nat
  | 0, at' => at'
  | n + 1, at' => if at' < 1032 ∧ (i : Int) < shb s at' then skipB s i n (at' + 1) else at'
def ballC (s : List Int) (n i at' : Nat) (c : List Int) : List Int := (c.set i (c.getD (shb s at').toNat 0)).set (shb s at').toNat (if bitI (shb s (n / 8)) (n % 8) = 1 then 8380416 else 1)
def ballN (tau : Nat) (s : List Int) : Nat → Option (List Int × Nat)
  | 0 => some (z256, 8)
  | k + 1 => match ballN tau s k with
    | none => none
    | some (c, at') => if skipB s (256 - tau + k) 1032 at' = 1032 then none else some (ballC s k (256 - tau + k) (skipB s (256 - tau + k) 1032 at') c, skipB s (256 - tau + k) 1032 at' + 1)
def ballS (tau : Int) (s : List Int) : List Int × Int := if tau < 1 ∨ 64 < tau then (z256, 1) else match ballN tau.toNat s tau.toNat with
  | none => (z256, 130)
  | some (c, _) => (c, 0)
noncomputable def g_dring_Ball : Int × List Int × Unit → Option (List Int × Int) := Spec (ks := [.int .i64, .sl (.int .u8)]) (rs := [.xs (.int .i32) 256, .int .i64]) (fun x => x.2.1.length ≤ 1000) fun x => ballS x.1 x.2.1
noncomputable def g_ref15_Ball : Int × List Int × Unit → Option (List Int × Int) := Spec (ks := [.int .i64, .sl (.int .u8)]) (rs := [.xs (.int .i32) 256, .int .i64]) (fun x => x.2.1.length ≤ 1000) fun x => ballS x.1 x.2.1
noncomputable def g_law15_DringSamples : Int × List Int × Unit → Option Bool := Spec (ks := [.int .i64, .sl (.int .u8)]) (rs := [.bool]) (fun _ => True) fun _ => true
noncomputable def g_law15_DringSmall : List Int × Unit → Option Bool := Spec (ks := [.sl (.int .u8)]) (rs := [.bool]) (fun _ => True) fun _ => true
end Go.Ax.TryP
/-! Printed by program (gen.py). -/
set_option linter.unusedVariables false
namespace Go.Ax.TryP
/-! livery/keccak.Shake256 -/
noncomputable def p_keccak_Shake256_E : AE := AE.of [] [(83, ⟨[.int .i64, .sls (.int .u8)], [.op [.bool, .xs (.int .u64) 25, .int .i64, .int .i64, .int .i64]], g_keccak_started⟩)]
noncomputable def p_keccak_Shake256_H : Hints := [(3000000, [2])]
noncomputable def p_keccak_Shake256_c : Code := (Go.Proofs.Try.f80).body.getD .skip
abbrev p_keccak_Shake256_ks : List Kd := [.sls (.int .u8)]
abbrev p_keccak_Shake256_rs : List Kd := [.op [.bool, .xs (.int .u64) 25, .int .i64, .int .i64, .int .i64]]
noncomputable def p_keccak_Shake256 (N : Nat) (x : List (List Int) × Unit) : Option ((Bool × List Int × Int × Int × Int × Unit)) :=
  (g_keccak_started ((136:Int), x.1, ())).bind fun r1 => (
  some ((decide (r1.1 = true)), r1.2.1, r1.2.2.1, r1.2.2.2.1, r1.2.2.2.2.1, ()))
theorem p_keccak_Shake256_eq (N : Nat) (x : Ds [.sls (.int .u8)]) : funL p_keccak_Shake256_E p_keccak_Shake256_H (LT.nil) N Go.Proofs.Try.f80 p_keccak_Shake256_c [.sls (.int .u8)] [.op [.bool, .xs (.int .u64) 25, .int .i64, .int .i64, .int .i64]] x = p_keccak_Shake256 N x := by kernel_rfl
theorem p_keccak_Shake256_Eok (he_keccak_started : SigOk Go.Proofs.Try.prog 83 ⟨[.int .i64, .sls (.int .u8)], [.op [.bool, .xs (.int .u64) 25, .int .i64, .int .i64, .int .i64]], g_keccak_started⟩) : p_keccak_Shake256_E.Ok Go.Proofs.Try.prog := AE.of_ok all_nil (all_cons ⟨he_keccak_started, enters_keccak_started⟩ all_nil)
theorem p_keccak_Shake256_ok (he_keccak_started : SigOk Go.Proofs.Try.prog 83 ⟨[.int .i64, .sls (.int .u8)], [.op [.bool, .xs (.int .u64) 25, .int .i64, .int .i64, .int .i64]], g_keccak_started⟩) {g : Ds [.sls (.int .u8)] → Option (Rs [.op [.bool, .xs (.int .u64) 25, .int .i64, .int .i64, .int .i64]])} (hg : ∀ x r, g x = some r → ∃ N, p_keccak_Shake256 N x = some r) : SigOk Go.Proofs.Try.prog 80 ⟨[.sls (.int .u8)], [.op [.bool, .xs (.int .u64) 25, .int .i64, .int .i64, .int .i64]], g⟩ :=
  fun_of (E := p_keccak_Shake256_E) (H := p_keccak_Shake256_H) (L := fun N => LT.nil) (c := p_keccak_Shake256_c) (ks := p_keccak_Shake256_ks) (rs := p_keccak_Shake256_rs) (F := p_keccak_Shake256) (p_keccak_Shake256_Eok he_keccak_started) mix Go.Proofs.Try.func80 (by kernel_rfl) (fun N => OkAll.nil) p_keccak_Shake256_eq hg

/-! livery/keccak.Shake -/
noncomputable def p_keccak_Shake_E : AE := AE.of [] [(79, ⟨[.int .i64], [.int .i64], g_keccak_may⟩), (72, ⟨[.sls (.int .u8)], [.op [.bool, .xs (.int .u64) 25, .int .i64, .int .i64, .int .i64]], g_keccak_Shake128⟩), (73, ⟨[.io [.bool, .xs (.int .u64) 25, .int .i64, .int .i64, .int .i64], .int .i64], [.sl (.int .u8), .int .i64, .cat [.bool, .xs (.int .u64) 25, .int .i64, .int .i64, .int .i64]], g_keccak_Xof_Read⟩), (80, ⟨[.sls (.int .u8)], [.op [.bool, .xs (.int .u64) 25, .int .i64, .int .i64, .int .i64]], g_keccak_Shake256⟩)]
noncomputable def p_keccak_Shake_H : Hints := [(3000000, [6, 7])]
noncomputable def p_keccak_Shake_c : Code := (Go.Proofs.Try.f69).body.getD .skip
abbrev p_keccak_Shake_ks : List Kd := [.int .i64, .int .i64, .sls (.int .u8)]
abbrev p_keccak_Shake_rs : List Kd := [.sl (.int .u8), .int .i64]
noncomputable def p_keccak_Shake (N : Nat) (x : Int × Int × List (List Int) × Unit) : Option (List Int × Int) :=
  if (x.1 ≠ (128:Int)) then
    if (x.1 ≠ (256:Int)) then
      some ([], (1:Int))
    else
      (g_keccak_may (x.2.1, ())).bind fun r1 => (
      if (r1 ≠ (0:Int)) then
        some ([], r1)
      else
        if (x.1 = (128:Int)) then
          (g_keccak_Shake128 (x.2.2.1, ())).bind fun r2 => (
          (g_keccak_Xof_Read (((decide (r2.1 = true)), r2.2.1, r2.2.2.1, r2.2.2.2.1, r2.2.2.2.2.1, ()), x.2.1, ())).bind fun r3 => (
          some (r3.1, r3.2.1)))
        else
          (g_keccak_Shake256 (x.2.2.1, ())).bind fun r4 => (
          (g_keccak_Xof_Read (((decide (r4.1 = true)), r4.2.1, r4.2.2.1, r4.2.2.2.1, r4.2.2.2.2.1, ()), x.2.1, ())).bind fun r5 => (
          some (r5.1, r5.2.1))))
  else
    (g_keccak_may (x.2.1, ())).bind fun r6 => (
    if (r6 ≠ (0:Int)) then
      some ([], r6)
    else
      if (x.1 = (128:Int)) then
        (g_keccak_Shake128 (x.2.2.1, ())).bind fun r7 => (
        (g_keccak_Xof_Read (((decide (r7.1 = true)), r7.2.1, r7.2.2.1, r7.2.2.2.1, r7.2.2.2.2.1, ()), x.2.1, ())).bind fun r8 => (
        some (r8.1, r8.2.1)))
      else
        (g_keccak_Shake256 (x.2.2.1, ())).bind fun r9 => (
        (g_keccak_Xof_Read (((decide (r9.1 = true)), r9.2.1, r9.2.2.1, r9.2.2.2.1, r9.2.2.2.2.1, ()), x.2.1, ())).bind fun r10 => (
        some (r10.1, r10.2.1))))
theorem p_keccak_Shake_eq (N : Nat) (x : Ds [.int .i64, .int .i64, .sls (.int .u8)]) : funL p_keccak_Shake_E p_keccak_Shake_H (LT.nil) N Go.Proofs.Try.f69 p_keccak_Shake_c [.int .i64, .int .i64, .sls (.int .u8)] [.sl (.int .u8), .int .i64] x = p_keccak_Shake N x := by kernel_rfl
theorem p_keccak_Shake_Eok (he_keccak_may : SigOk Go.Proofs.Try.prog 79 ⟨[.int .i64], [.int .i64], g_keccak_may⟩) (he_keccak_Shake128 : SigOk Go.Proofs.Try.prog 72 ⟨[.sls (.int .u8)], [.op [.bool, .xs (.int .u64) 25, .int .i64, .int .i64, .int .i64]], g_keccak_Shake128⟩) (he_keccak_Xof_Read : SigOk Go.Proofs.Try.prog 73 ⟨[.io [.bool, .xs (.int .u64) 25, .int .i64, .int .i64, .int .i64], .int .i64], [.sl (.int .u8), .int .i64, .cat [.bool, .xs (.int .u64) 25, .int .i64, .int .i64, .int .i64]], g_keccak_Xof_Read⟩) (he_keccak_Shake256 : SigOk Go.Proofs.Try.prog 80 ⟨[.sls (.int .u8)], [.op [.bool, .xs (.int .u64) 25, .int .i64, .int .i64, .int .i64]], g_keccak_Shake256⟩) : p_keccak_Shake_E.Ok Go.Proofs.Try.prog := AE.of_ok all_nil (all_cons ⟨he_keccak_may, enters_keccak_may⟩ (all_cons ⟨he_keccak_Shake128, enters_keccak_Shake128⟩ (all_cons ⟨he_keccak_Xof_Read, enters_keccak_Xof_Read⟩ (all_cons ⟨he_keccak_Shake256, enters_keccak_Shake256⟩ all_nil))))
theorem p_keccak_Shake_ok (he_keccak_may : SigOk Go.Proofs.Try.prog 79 ⟨[.int .i64], [.int .i64], g_keccak_may⟩) (he_keccak_Shake128 : SigOk Go.Proofs.Try.prog 72 ⟨[.sls (.int .u8)], [.op [.bool, .xs (.int .u64) 25, .int .i64, .int .i64, .int .i64]], g_keccak_Shake128⟩) (he_keccak_Xof_Read : SigOk Go.Proofs.Try.prog 73 ⟨[.io [.bool, .xs (.int .u64) 25, .int .i64, .int .i64, .int .i64], .int .i64], [.sl (.int .u8), .int .i64, .cat [.bool, .xs (.int .u64) 25, .int .i64, .int .i64, .int .i64]], g_keccak_Xof_Read⟩) (he_keccak_Shake256 : SigOk Go.Proofs.Try.prog 80 ⟨[.sls (.int .u8)], [.op [.bool, .xs (.int .u64) 25, .int .i64, .int .i64, .int .i64]], g_keccak_Shake256⟩) {g : Ds [.int .i64, .int .i64, .sls (.int .u8)] → Option (Rs [.sl (.int .u8), .int .i64])} (hg : ∀ x r, g x = some r → ∃ N, p_keccak_Shake N x = some r) : SigOk Go.Proofs.Try.prog 69 ⟨[.int .i64, .int .i64, .sls (.int .u8)], [.sl (.int .u8), .int .i64], g⟩ :=
  fun_of (E := p_keccak_Shake_E) (H := p_keccak_Shake_H) (L := fun N => LT.nil) (c := p_keccak_Shake_c) (ks := p_keccak_Shake_ks) (rs := p_keccak_Shake_rs) (F := p_keccak_Shake) (p_keccak_Shake_Eok he_keccak_may he_keccak_Shake128 he_keccak_Xof_Read he_keccak_Shake256) mix Go.Proofs.Try.func69 (by kernel_rfl) (fun N => OkAll.nil) p_keccak_Shake_eq hg

/-! livery/dring.RejNtt -/
noncomputable def p_dring_RejNtt_E : AE := AE.of [(5, ty5), (21, ty21), (23, ty23), (39, ty39), (80, ty80)] [(72, ⟨[.sls (.int .u8)], [.op [.bool, .xs (.int .u64) 25, .int .i64, .int .i64, .int .i64]], g_keccak_Shake128⟩), (73, ⟨[.io [.bool, .xs (.int .u64) 25, .int .i64, .int .i64, .int .i64], .int .i64], [.sl (.int .u8), .int .i64, .cat [.bool, .xs (.int .u64) 25, .int .i64, .int .i64, .int .i64]], g_keccak_Xof_Read⟩)]
noncomputable def p_dring_RejNtt_H : Hints := [(7, [2, 4, 5, 6, 17, 999999]), (2000000, [2]), (2000001, [2, 4, 5, 6, 17]), (3000000, [2, 3])]
noncomputable def p_dring_RejNtt_c : Code := (Go.Proofs.Try.f50).body.getD .skip
noncomputable def p_dring_RejNtt_l7_S : Shape where
  h := { tmps := [.any, .any, .sc (.ptr 0 0 false), .any, .sc (.ptr 1 0 false), .sc (.ptr 2 0 false), .sc (.int .i64), .any, .any, .any, .any, .any, .any, .any, .any, .any, .any, .sc (.int .i64), .any, .any, .any, .any, .any, .any, .any, .any, .any, .any, .any, .any, .any, .any, .any, .any, .any, .any, .any, .any, .any, .any, .any, .any, .any, .any, .any, .any, .any, .any, .any, .any, .any, .any, .any, .any, .any], mem := [.live [.xs (.int .i32) (some 256)] (.own), .live [.xs (.int .i32) (some 256)] (.own), .live [.one (.bool), .xs (.int .u64) (some 25), .one (.int .i64), .one (.int .i64), .one (.int .i64)] (.own)] }
  ks := [.int, .int, .xs, .xs, .bool, .xs, .int, .int, .int]
  st := fun x => { tmps := [.one .any, .one .any, .one (.sc (.ptr 0 0 none)), .one .any, .one (.sc (.ptr 1 0 none)), .one (.sc (.ptr 2 0 none)), .one (.sc (.int .i64 x.1)), .one .any, .one .any, .one .any, .one .any, .one .any, .one .any, .one .any, .one .any, .one .any, .one .any, .one (.sc (.int .i64 x.2.1)), .one .any, .one .any, .one .any, .one .any, .one .any, .one .any, .one .any, .one .any, .one .any, .one .any, .one .any, .one .any, .one .any, .one .any, .one .any, .one .any, .one .any, .one .any, .one .any, .one .any, .one .any, .one .any, .one .any, .one .any, .one .any, .one .any, .one .any, .one .any, .one .any, .one .any, .one .any, .one .any, .one .any, .one .any, .one .any, .one .any, .one .any], mem := [.live { segs := [.xs (.int .i32) 256 x.2.2.1], own := .own }, .live { segs := [.xs (.int .i32) 256 x.2.2.2.1], own := .own }, .live { segs := [.one (.known x.2.2.2.2.1), .xs (.int .u64) 25 x.2.2.2.2.2.1, .one (.int .i64 x.2.2.2.2.2.2.1), .one (.int .i64 x.2.2.2.2.2.2.2.1), .one (.int .i64 x.2.2.2.2.2.2.2.2.1)], own := .own }] }
noncomputable def p_dring_RejNtt_l7_F (N : Nat) (β : Type) (x : (Int × Int × List Int × List Int × Bool × List Int × Int × Int × Int × Unit)) (kn : (Int × Int × List Int × List Int × Bool × List Int × Int × Int × Int × Unit) → Option β) (ke : ((List Int × Unit) ⊕ (Int × List Int × Unit)) → Option β) : Option β :=
  if (x.2.1 < (1024:Int)) then
    (g_keccak_Xof_Read ((x.2.2.2.2.1, x.2.2.2.2.2.1, x.2.2.2.2.2.2.1, x.2.2.2.2.2.2.2.1, x.2.2.2.2.2.2.2.2.1, ()), (3:Int), ())).bind fun r2 => (
    if (r2.2.1 ≠ (0:Int)) then
      ke (.inl (x.2.2.1, ()))
    else
      if 0 ≤ (0:Int) then (
      if (0:Int) < (((List.length r2.1) : Nat) : Int) then (
      if 0 < (List.length r2.1) then (
      if 0 ≤ (1:Int) then (
      if (1:Int) < (((List.length r2.1) : Nat) : Int) then (
      if 1 < (List.length r2.1) then (
      if 0 ≤ (2:Int) then (
      if (2:Int) < (((List.length r2.1) : Nat) : Int) then (
      if 2 < (List.length r2.1) then (
      if ((ior IntKind.i32 (ior IntKind.i32 (IntKind.i32.wrap (List.getD r2.1 0 0)) (ishl IntKind.i32 (IntKind.i32.wrap (List.getD r2.1 1 0)) (8:Int))) (ishl IntKind.i32 (IntKind.i32.wrap (iand IntKind.u8 (List.getD r2.1 2 0) (127:Int))) (16:Int))) ≥ (8380417:Int)) then
        kn (x.1, (IntKind.i64.wrap (x.2.1 + (1:Int))), x.2.2.1, x.2.2.2.1, (decide (r2.2.2.1 = true)), r2.2.2.2.1, r2.2.2.2.2.1, r2.2.2.2.2.2.1, r2.2.2.2.2.2.2.1, ())
      else
        if 0 ≤ x.1 then (
        if x.1 < 256 then (
        if (x.1.toNat) < 256 then (
        if ((IntKind.i64.wrap (x.1 + (1:Int))) = (256:Int)) then
          ke (.inr ((0:Int), (List.set x.2.2.2.1 (x.1.toNat) (ior IntKind.i32 (ior IntKind.i32 (IntKind.i32.wrap (List.getD r2.1 0 0)) (ishl IntKind.i32 (IntKind.i32.wrap (List.getD r2.1 1 0)) (8:Int))) (ishl IntKind.i32 (IntKind.i32.wrap (iand IntKind.u8 (List.getD r2.1 2 0) (127:Int))) (16:Int)))), ()))
        else
          kn ((IntKind.i64.wrap (x.1 + (1:Int))), (IntKind.i64.wrap (x.2.1 + (1:Int))), x.2.2.1, (List.set x.2.2.2.1 (x.1.toNat) (ior IntKind.i32 (ior IntKind.i32 (IntKind.i32.wrap (List.getD r2.1 0 0)) (ishl IntKind.i32 (IntKind.i32.wrap (List.getD r2.1 1 0)) (8:Int))) (ishl IntKind.i32 (IntKind.i32.wrap (iand IntKind.u8 (List.getD r2.1 2 0) (127:Int))) (16:Int)))), (decide (r2.2.2.1 = true)), r2.2.2.2.1, r2.2.2.2.2.1, r2.2.2.2.2.2.1, r2.2.2.2.2.2.2.1, ())) else none) else none) else none) else none) else none) else none) else none) else none) else none) else none) else none) else none)
  else
    ke (.inl (x.2.2.1, ()))
noncomputable def p_dring_RejNtt_l7_go : Go' ((List Int × Unit) ⊕ (Int × List Int × Unit)) := fun y K => match y with
  | .inl y => K (.exit 0) { tmps := [.one .any, .one .any, .one (.sc (.ptr 0 0 none)), .one .any, .one .any, .one .any, .one .any, .one .any, .one .any, .one .any, .one .any, .one .any, .one .any, .one .any, .one .any, .one .any, .one .any, .one .any, .one .any, .one .any, .one .any, .one .any, .one .any, .one .any, .one .any, .one .any, .one .any, .one .any, .one .any, .one .any, .one .any, .one .any, .one .any, .one .any, .one .any, .one .any, .one .any, .one .any, .one .any, .one .any, .one .any, .one .any, .one .any, .one .any, .one .any, .one .any, .one .any, .one .any, .one .any, .one .any, .one .any, .one .any, .one .any, .one .any, .one .any], mem := [.live { segs := [.xs (.int .i32) 256 y.1], own := .own }] }
  | .inr y => K .ret { tmps := [.one .any, .one .any, .one (.sc (.ptr 0 0 none)), .one (.sc (.int .i64 y.1)), .one .any, .one .any, .one .any, .one .any, .one .any, .one .any, .one .any, .one .any, .one .any, .one .any, .one .any, .one .any, .one .any, .one .any, .one .any, .one .any, .one .any, .one .any, .one .any, .one .any, .one .any, .one .any, .one .any, .one .any, .one .any, .one .any, .one .any, .one .any, .one .any, .one .any, .one .any, .one .any, .one .any, .one .any, .one .any, .one .any, .one .any, .one .any, .one .any, .one .any, .one .any, .one .any, .one .any, .one .any, .one .any, .one .any, .one .any, .one .any, .one .any, .one .any, .one .any], mem := [.live { segs := [.xs (.int .i32) 256 y.2.1], own := .own }] }
noncomputable def p_dring_RejNtt_l7_L (N : Nat) : LT := upd (LT.nil) 7 (loopE p_dring_RejNtt_l7_S N (p_dring_RejNtt_l7_F N) p_dring_RejNtt_l7_go)
theorem p_dring_RejNtt_l7_ok (N : Nat) : OkAll p_dring_RejNtt_E p_dring_RejNtt_H N (p_dring_RejNtt_l7_L N) (subs p_dring_RejNtt_c) :=
  addLoop (c := theLoop 7 p_dring_RejNtt_c) (OkAll.nil) (by kernel_rfl) (fun x => by kernel_rfl) (fun β x kn ke => by kernel_rfl)
abbrev p_dring_RejNtt_ks : List Kd := [.sl (.int .u8)]
abbrev p_dring_RejNtt_rs : List Kd := [.xs (.int .i32) 256, .int .i64]
noncomputable def p_dring_RejNtt (N : Nat) (x : List Int × Unit) : Option (List Int × Int) :=
  if ((((List.length x.1) : Nat) : Int) ≠ (34:Int)) then
    some ((List.replicate 256 0), (1:Int))
  else
    (g_keccak_Shake128 ([x.1], ())).bind fun r1 => (
    iter (p_dring_RejNtt_l7_F N) N ((0:Int), (0:Int), (List.replicate 256 0), (List.replicate 256 0), (decide (r1.1 = true)), r1.2.1, r1.2.2.1, r1.2.2.2.1, r1.2.2.2.2.1, ()) fun y => (match y with
    | .inl y3 => (
      some ((List.replicate 256 0), (130:Int)))
    | .inr y4 => (
      some (y4.2.1, y4.1))))
theorem p_dring_RejNtt_eq (N : Nat) (x : Ds [.sl (.int .u8)]) : funL p_dring_RejNtt_E p_dring_RejNtt_H (p_dring_RejNtt_l7_L N) N Go.Proofs.Try.f50 p_dring_RejNtt_c [.sl (.int .u8)] [.xs (.int .i32) 256, .int .i64] x = p_dring_RejNtt N x := by kernel_rfl
theorem p_dring_RejNtt_Eok (he_keccak_Shake128 : SigOk Go.Proofs.Try.prog 72 ⟨[.sls (.int .u8)], [.op [.bool, .xs (.int .u64) 25, .int .i64, .int .i64, .int .i64]], g_keccak_Shake128⟩) (he_keccak_Xof_Read : SigOk Go.Proofs.Try.prog 73 ⟨[.io [.bool, .xs (.int .u64) 25, .int .i64, .int .i64, .int .i64], .int .i64], [.sl (.int .u8), .int .i64, .cat [.bool, .xs (.int .u64) 25, .int .i64, .int .i64, .int .i64]], g_keccak_Xof_Read⟩) : p_dring_RejNtt_E.Ok Go.Proofs.Try.prog := AE.of_ok (all_cons ty5_ok (all_cons ty21_ok (all_cons ty23_ok (all_cons ty39_ok (all_cons ty80_ok all_nil))))) (all_cons ⟨he_keccak_Shake128, enters_keccak_Shake128⟩ (all_cons ⟨he_keccak_Xof_Read, enters_keccak_Xof_Read⟩ all_nil))
theorem p_dring_RejNtt_ok (he_keccak_Shake128 : SigOk Go.Proofs.Try.prog 72 ⟨[.sls (.int .u8)], [.op [.bool, .xs (.int .u64) 25, .int .i64, .int .i64, .int .i64]], g_keccak_Shake128⟩) (he_keccak_Xof_Read : SigOk Go.Proofs.Try.prog 73 ⟨[.io [.bool, .xs (.int .u64) 25, .int .i64, .int .i64, .int .i64], .int .i64], [.sl (.int .u8), .int .i64, .cat [.bool, .xs (.int .u64) 25, .int .i64, .int .i64, .int .i64]], g_keccak_Xof_Read⟩) {g : Ds [.sl (.int .u8)] → Option (Rs [.xs (.int .i32) 256, .int .i64])} (hg : ∀ x r, g x = some r → ∃ N, p_dring_RejNtt N x = some r) : SigOk Go.Proofs.Try.prog 50 ⟨[.sl (.int .u8)], [.xs (.int .i32) 256, .int .i64], g⟩ :=
  fun_of (E := p_dring_RejNtt_E) (H := p_dring_RejNtt_H) (L := fun N => p_dring_RejNtt_l7_L N) (c := p_dring_RejNtt_c) (ks := p_dring_RejNtt_ks) (rs := p_dring_RejNtt_rs) (F := p_dring_RejNtt) (p_dring_RejNtt_Eok he_keccak_Shake128 he_keccak_Xof_Read) mix Go.Proofs.Try.func50 (by kernel_rfl) (fun N => p_dring_RejNtt_l7_ok N) p_dring_RejNtt_eq hg

/-! livery/liveryref15.RejNtt -/
noncomputable def p_ref15_RejNtt_E : AE := AE.of [(5, ty5), (21, ty21), (23, ty23), (39, ty39)] [(74, ⟨[.int .i64, .int .i64, .sl (.int .u8)], [.sl (.int .u8)], g_ref03_Shake⟩)]
noncomputable def p_ref15_RejNtt_H : Hints := [(7, [0, 2, 4, 5, 6, 7]), (2000000, [2, 4, 6]), (2000001, [0, 2, 4, 5, 6, 7]), (3000000, [2, 3])]
noncomputable def p_ref15_RejNtt_c : Code := (Go.Proofs.Try.f51).body.getD .skip
noncomputable def p_ref15_RejNtt_l7_S : Shape where
  h := { tmps := [.sc (.vec 0 none 1), .any, .sc (.ptr 1 0 false), .any, .sc (.ptr 2 0 false), .sc (.vec 3 none 1), .sc (.int .i64), .sc (.int .i64), .any, .any, .any, .any, .any, .any, .any, .any, .any, .any, .any, .any, .any, .any, .any, .any, .any, .any, .any, .any, .any, .any, .any, .any, .any, .any, .any, .any, .any, .any, .any, .any, .any, .any, .any, .any, .any, .any, .any, .any, .any, .any, .any, .any, .any, .any, .any, .any, .any, .any, .any, .any, .any, .any, .any, .any, .any, .any, .any], mem := [.live [.xs (.int .u8) none] (.ro), .live [.xs (.int .i32) (some 256)] (.own), .live [.xs (.int .i32) (some 256)] (.own), .live [.xs (.int .u8) none] (.own)] }
  ks := [.nat, .nat, .int, .int, .nat, .xs, .xs, .xs, .nat, .xs]
  st := fun x => { tmps := [.one (.sc (.vec 0 x.1 1)), .one .any, .one (.sc (.ptr 1 0 none)), .one .any, .one (.sc (.ptr 2 0 none)), .one (.sc (.vec 3 x.2.1 1)), .one (.sc (.int .i64 x.2.2.1)), .one (.sc (.int .i64 x.2.2.2.1)), .one .any, .one .any, .one .any, .one .any, .one .any, .one .any, .one .any, .one .any, .one .any, .one .any, .one .any, .one .any, .one .any, .one .any, .one .any, .one .any, .one .any, .one .any, .one .any, .one .any, .one .any, .one .any, .one .any, .one .any, .one .any, .one .any, .one .any, .one .any, .one .any, .one .any, .one .any, .one .any, .one .any, .one .any, .one .any, .one .any, .one .any, .one .any, .one .any, .one .any, .one .any, .one .any, .one .any, .one .any, .one .any, .one .any, .one .any, .one .any, .one .any, .one .any, .one .any, .one .any, .one .any, .one .any, .one .any, .one .any, .one .any, .one .any, .one .any], mem := [.live { segs := [.xs (.int .u8) x.2.2.2.2.1 x.2.2.2.2.2.1], own := .ro }, .live { segs := [.xs (.int .i32) 256 x.2.2.2.2.2.2.1], own := .own }, .live { segs := [.xs (.int .i32) 256 x.2.2.2.2.2.2.2.1], own := .own }, .live { segs := [.xs (.int .u8) x.2.2.2.2.2.2.2.2.1 x.2.2.2.2.2.2.2.2.2.1], own := .own }] }
noncomputable def p_ref15_RejNtt_l7_F (N : Nat) (β : Type) (x : (Nat × Nat × Int × Int × Nat × List Int × List Int × List Int × Nat × List Int × Unit)) (kn : (Nat × Nat × Int × Int × Nat × List Int × List Int × List Int × Nat × List Int × Unit) → Option β) (ke : ((Int × List Int × List Int × Unit)) → Option β) : Option β :=
  if (x.2.2.2.1 < (1024:Int)) then
    if (x.2.2.1 < (256:Int)) then
      if ((IntKind.i64.wrap ((IntKind.i64.wrap ((3:Int) * x.2.2.2.1)) + (3:Int))) > ((x.2.1 : Nat) : Int)) then
        (g_ref03_Shake ((128:Int), (3072:Int), x.2.2.2.2.2.1, ())).bind fun r2 => (
        if 0 ≤ (IntKind.i64.wrap ((3:Int) * x.2.2.2.1)) then (
        if (IntKind.i64.wrap ((3:Int) * x.2.2.2.1)) < (((List.length r2) : Nat) : Int) then (
        if ((IntKind.i64.wrap ((3:Int) * x.2.2.2.1)).toNat) < (List.length r2) then (
        if 0 ≤ (IntKind.i64.wrap ((IntKind.i64.wrap ((3:Int) * x.2.2.2.1)) + (1:Int))) then (
        if (IntKind.i64.wrap ((IntKind.i64.wrap ((3:Int) * x.2.2.2.1)) + (1:Int))) < (((List.length r2) : Nat) : Int) then (
        if ((IntKind.i64.wrap ((IntKind.i64.wrap ((3:Int) * x.2.2.2.1)) + (1:Int))).toNat) < (List.length r2) then (
        if 0 ≤ (IntKind.i64.wrap ((IntKind.i64.wrap ((3:Int) * x.2.2.2.1)) + (2:Int))) then (
        if (IntKind.i64.wrap ((IntKind.i64.wrap ((3:Int) * x.2.2.2.1)) + (2:Int))) < (((List.length r2) : Nat) : Int) then (
        if ((IntKind.i64.wrap ((IntKind.i64.wrap ((3:Int) * x.2.2.2.1)) + (2:Int))).toNat) < (List.length r2) then (
        if ((IntKind.i32.wrap ((IntKind.i32.wrap ((IntKind.i32.wrap (List.getD r2 ((IntKind.i64.wrap ((3:Int) * x.2.2.2.1)).toNat) 0)) + (IntKind.i32.wrap ((256:Int) * (IntKind.i32.wrap (List.getD r2 ((IntKind.i64.wrap ((IntKind.i64.wrap ((3:Int) * x.2.2.2.1)) + (1:Int))).toNat) 0)))))) + (IntKind.i32.wrap ((65536:Int) * (IntKind.i32.wrap (Int.tmod (List.getD r2 ((IntKind.i64.wrap ((IntKind.i64.wrap ((3:Int) * x.2.2.2.1)) + (2:Int))).toNat) 0) (128:Int))))))) < (8380417:Int)) then
          if 0 ≤ x.2.2.1 then (
          if x.2.2.1 < 256 then (
          if (x.2.2.1.toNat) < 256 then (
          kn (x.1, (List.length r2), (IntKind.i64.wrap (x.2.2.1 + (1:Int))), (IntKind.i64.wrap (x.2.2.2.1 + (1:Int))), x.2.2.2.2.1, x.2.2.2.2.2.1, x.2.2.2.2.2.2.1, (List.set x.2.2.2.2.2.2.2.1 (x.2.2.1.toNat) (IntKind.i32.wrap ((IntKind.i32.wrap ((IntKind.i32.wrap (List.getD r2 ((IntKind.i64.wrap ((3:Int) * x.2.2.2.1)).toNat) 0)) + (IntKind.i32.wrap ((256:Int) * (IntKind.i32.wrap (List.getD r2 ((IntKind.i64.wrap ((IntKind.i64.wrap ((3:Int) * x.2.2.2.1)) + (1:Int))).toNat) 0)))))) + (IntKind.i32.wrap ((65536:Int) * (IntKind.i32.wrap (Int.tmod (List.getD r2 ((IntKind.i64.wrap ((IntKind.i64.wrap ((3:Int) * x.2.2.2.1)) + (2:Int))).toNat) 0) (128:Int)))))))), (List.length r2), r2, ())) else none) else none) else none
        else
          kn (x.1, (List.length r2), x.2.2.1, (IntKind.i64.wrap (x.2.2.2.1 + (1:Int))), x.2.2.2.2.1, x.2.2.2.2.2.1, x.2.2.2.2.2.2.1, x.2.2.2.2.2.2.2.1, (List.length r2), r2, ())) else none) else none) else none) else none) else none) else none) else none) else none) else none)
      else
        if 0 ≤ (IntKind.i64.wrap ((3:Int) * x.2.2.2.1)) then (
        if (IntKind.i64.wrap ((3:Int) * x.2.2.2.1)) < ((x.2.1 : Nat) : Int) then (
        if ((IntKind.i64.wrap ((3:Int) * x.2.2.2.1)).toNat) < x.2.2.2.2.2.2.2.2.1 then (
        if 0 ≤ (IntKind.i64.wrap ((IntKind.i64.wrap ((3:Int) * x.2.2.2.1)) + (1:Int))) then (
        if (IntKind.i64.wrap ((IntKind.i64.wrap ((3:Int) * x.2.2.2.1)) + (1:Int))) < ((x.2.1 : Nat) : Int) then (
        if ((IntKind.i64.wrap ((IntKind.i64.wrap ((3:Int) * x.2.2.2.1)) + (1:Int))).toNat) < x.2.2.2.2.2.2.2.2.1 then (
        if 0 ≤ (IntKind.i64.wrap ((IntKind.i64.wrap ((3:Int) * x.2.2.2.1)) + (2:Int))) then (
        if (IntKind.i64.wrap ((IntKind.i64.wrap ((3:Int) * x.2.2.2.1)) + (2:Int))) < ((x.2.1 : Nat) : Int) then (
        if ((IntKind.i64.wrap ((IntKind.i64.wrap ((3:Int) * x.2.2.2.1)) + (2:Int))).toNat) < x.2.2.2.2.2.2.2.2.1 then (
        if ((IntKind.i32.wrap ((IntKind.i32.wrap ((IntKind.i32.wrap (List.getD x.2.2.2.2.2.2.2.2.2.1 ((IntKind.i64.wrap ((3:Int) * x.2.2.2.1)).toNat) 0)) + (IntKind.i32.wrap ((256:Int) * (IntKind.i32.wrap (List.getD x.2.2.2.2.2.2.2.2.2.1 ((IntKind.i64.wrap ((IntKind.i64.wrap ((3:Int) * x.2.2.2.1)) + (1:Int))).toNat) 0)))))) + (IntKind.i32.wrap ((65536:Int) * (IntKind.i32.wrap (Int.tmod (List.getD x.2.2.2.2.2.2.2.2.2.1 ((IntKind.i64.wrap ((IntKind.i64.wrap ((3:Int) * x.2.2.2.1)) + (2:Int))).toNat) 0) (128:Int))))))) < (8380417:Int)) then
          if 0 ≤ x.2.2.1 then (
          if x.2.2.1 < 256 then (
          if (x.2.2.1.toNat) < 256 then (
          kn (x.1, x.2.1, (IntKind.i64.wrap (x.2.2.1 + (1:Int))), (IntKind.i64.wrap (x.2.2.2.1 + (1:Int))), x.2.2.2.2.1, x.2.2.2.2.2.1, x.2.2.2.2.2.2.1, (List.set x.2.2.2.2.2.2.2.1 (x.2.2.1.toNat) (IntKind.i32.wrap ((IntKind.i32.wrap ((IntKind.i32.wrap (List.getD x.2.2.2.2.2.2.2.2.2.1 ((IntKind.i64.wrap ((3:Int) * x.2.2.2.1)).toNat) 0)) + (IntKind.i32.wrap ((256:Int) * (IntKind.i32.wrap (List.getD x.2.2.2.2.2.2.2.2.2.1 ((IntKind.i64.wrap ((IntKind.i64.wrap ((3:Int) * x.2.2.2.1)) + (1:Int))).toNat) 0)))))) + (IntKind.i32.wrap ((65536:Int) * (IntKind.i32.wrap (Int.tmod (List.getD x.2.2.2.2.2.2.2.2.2.1 ((IntKind.i64.wrap ((IntKind.i64.wrap ((3:Int) * x.2.2.2.1)) + (2:Int))).toNat) 0) (128:Int)))))))), x.2.2.2.2.2.2.2.2.1, x.2.2.2.2.2.2.2.2.2.1, ())) else none) else none) else none
        else
          kn (x.1, x.2.1, x.2.2.1, (IntKind.i64.wrap (x.2.2.2.1 + (1:Int))), x.2.2.2.2.1, x.2.2.2.2.2.1, x.2.2.2.2.2.2.1, x.2.2.2.2.2.2.2.1, x.2.2.2.2.2.2.2.2.1, x.2.2.2.2.2.2.2.2.2.1, ())) else none) else none) else none) else none) else none) else none) else none) else none) else none
    else
      ke (x.2.2.1, x.2.2.2.2.2.2.1, x.2.2.2.2.2.2.2.1, ())
  else
    ke (x.2.2.1, x.2.2.2.2.2.2.1, x.2.2.2.2.2.2.2.1, ())
noncomputable def p_ref15_RejNtt_l7_go : Go' ((Int × List Int × List Int × Unit)) := fun y K => K (.exit 0) { tmps := [.one .any, .one .any, .one (.sc (.ptr 0 0 none)), .one .any, .one (.sc (.ptr 1 0 none)), .one .any, .one (.sc (.int .i64 y.1)), .one .any, .one .any, .one .any, .one .any, .one .any, .one .any, .one .any, .one .any, .one .any, .one .any, .one .any, .one .any, .one .any, .one .any, .one .any, .one .any, .one .any, .one .any, .one .any, .one .any, .one .any, .one .any, .one .any, .one .any, .one .any, .one .any, .one .any, .one .any, .one .any, .one .any, .one .any, .one .any, .one .any, .one .any, .one .any, .one .any, .one .any, .one .any, .one .any, .one .any, .one .any, .one .any, .one .any, .one .any, .one .any, .one .any, .one .any, .one .any, .one .any, .one .any, .one .any, .one .any, .one .any, .one .any, .one .any, .one .any, .one .any, .one .any, .one .any, .one .any], mem := [.live { segs := [.xs (.int .i32) 256 y.2.1], own := .own }, .live { segs := [.xs (.int .i32) 256 y.2.2.1], own := .own }] }
noncomputable def p_ref15_RejNtt_l7_L (N : Nat) : LT := upd (LT.nil) 7 (loopE p_ref15_RejNtt_l7_S N (p_ref15_RejNtt_l7_F N) p_ref15_RejNtt_l7_go)
theorem p_ref15_RejNtt_l7_ok (N : Nat) : OkAll p_ref15_RejNtt_E p_ref15_RejNtt_H N (p_ref15_RejNtt_l7_L N) (subs p_ref15_RejNtt_c) :=
  addLoop (c := theLoop 7 p_ref15_RejNtt_c) (OkAll.nil) (by kernel_rfl) (fun x => by kernel_rfl) (fun β x kn ke => by kernel_rfl)
abbrev p_ref15_RejNtt_ks : List Kd := [.sl (.int .u8)]
abbrev p_ref15_RejNtt_rs : List Kd := [.xs (.int .i32) 256, .int .i64]
noncomputable def p_ref15_RejNtt (N : Nat) (x : List Int × Unit) : Option (List Int × Int) :=
  if ((((List.length x.1) : Nat) : Int) ≠ (34:Int)) then
    some ((List.replicate 256 0), (1:Int))
  else
    (g_ref03_Shake ((128:Int), (840:Int), x.1, ())).bind fun r1 => (
    iter (p_ref15_RejNtt_l7_F N) N ((List.length x.1), (List.length r1), (0:Int), (0:Int), (List.length x.1), x.1, (List.replicate 256 0), (List.replicate 256 0), (List.length r1), r1, ()) fun y3 => (
    if (y3.1 < (256:Int)) then
      some ((List.replicate 256 0), (130:Int))
    else
      some (y3.2.2.1, (0:Int))))
theorem p_ref15_RejNtt_eq (N : Nat) (x : Ds [.sl (.int .u8)]) : funL p_ref15_RejNtt_E p_ref15_RejNtt_H (p_ref15_RejNtt_l7_L N) N Go.Proofs.Try.f51 p_ref15_RejNtt_c [.sl (.int .u8)] [.xs (.int .i32) 256, .int .i64] x = p_ref15_RejNtt N x := by kernel_rfl
theorem p_ref15_RejNtt_Eok (he_ref03_Shake : SigOk Go.Proofs.Try.prog 74 ⟨[.int .i64, .int .i64, .sl (.int .u8)], [.sl (.int .u8)], g_ref03_Shake⟩) : p_ref15_RejNtt_E.Ok Go.Proofs.Try.prog := AE.of_ok (all_cons ty5_ok (all_cons ty21_ok (all_cons ty23_ok (all_cons ty39_ok all_nil)))) (all_cons ⟨he_ref03_Shake, enters_ref03_Shake⟩ all_nil)
theorem p_ref15_RejNtt_ok (he_ref03_Shake : SigOk Go.Proofs.Try.prog 74 ⟨[.int .i64, .int .i64, .sl (.int .u8)], [.sl (.int .u8)], g_ref03_Shake⟩) {g : Ds [.sl (.int .u8)] → Option (Rs [.xs (.int .i32) 256, .int .i64])} (hg : ∀ x r, g x = some r → ∃ N, p_ref15_RejNtt N x = some r) : SigOk Go.Proofs.Try.prog 51 ⟨[.sl (.int .u8)], [.xs (.int .i32) 256, .int .i64], g⟩ :=
  fun_of (E := p_ref15_RejNtt_E) (H := p_ref15_RejNtt_H) (L := fun N => p_ref15_RejNtt_l7_L N) (c := p_ref15_RejNtt_c) (ks := p_ref15_RejNtt_ks) (rs := p_ref15_RejNtt_rs) (F := p_ref15_RejNtt) (p_ref15_RejNtt_Eok he_ref03_Shake) mix Go.Proofs.Try.func51 (by kernel_rfl) (fun N => p_ref15_RejNtt_l7_ok N) p_ref15_RejNtt_eq hg

/-! livery/dring.half -/
noncomputable def p_dring_half_E : AE := AE.of [(5, ty5), (21, ty21)] []
noncomputable def p_dring_half_H : Hints := [(2000000, []), (3000000, [4, 5])]
noncomputable def p_dring_half_c : Code := (Go.Proofs.Try.f70).body.getD .skip
abbrev p_dring_half_ks : List Kd := [.int .i64, .int .u8]
abbrev p_dring_half_rs : List Kd := [.int .i32, .bool]
noncomputable def p_dring_half (N : Nat) (x : Int × Int × Unit) : Option (Int × Bool) :=
  if (x.1 = (2:Int)) then
    if (x.2.1 < (15:Int)) then
      some ((IntKind.i32.wrap ((2:Int) - (IntKind.i32.wrap (Int.tmod x.2.1 (5:Int))))), true)
    else
      if (x.1 = (4:Int)) then
        if (x.2.1 < (9:Int)) then
          some ((IntKind.i32.wrap ((4:Int) - (IntKind.i32.wrap x.2.1))), true)
        else
          some ((0:Int), false)
      else
        some ((0:Int), false)
  else
    if (x.1 = (4:Int)) then
      if (x.2.1 < (9:Int)) then
        some ((IntKind.i32.wrap ((4:Int) - (IntKind.i32.wrap x.2.1))), true)
      else
        some ((0:Int), false)
    else
      some ((0:Int), false)
theorem p_dring_half_eq (N : Nat) (x : Ds [.int .i64, .int .u8]) : funL p_dring_half_E p_dring_half_H (LT.nil) N Go.Proofs.Try.f70 p_dring_half_c [.int .i64, .int .u8] [.int .i32, .bool] x = p_dring_half N x := by kernel_rfl
theorem p_dring_half_Eok : p_dring_half_E.Ok Go.Proofs.Try.prog := AE.of_ok (all_cons ty5_ok (all_cons ty21_ok all_nil)) all_nil
theorem p_dring_half_ok {g : Ds [.int .i64, .int .u8] → Option (Rs [.int .i32, .bool])} (hg : ∀ x r, g x = some r → ∃ N, p_dring_half N x = some r) : SigOk Go.Proofs.Try.prog 70 ⟨[.int .i64, .int .u8], [.int .i32, .bool], g⟩ :=
  fun_of (E := p_dring_half_E) (H := p_dring_half_H) (L := fun N => LT.nil) (c := p_dring_half_c) (ks := p_dring_half_ks) (rs := p_dring_half_rs) (F := p_dring_half) (p_dring_half_Eok) mix Go.Proofs.Try.func70 (by kernel_rfl) (fun N => OkAll.nil) p_dring_half_eq hg

/-! livery/dring.RejBounded -/
noncomputable def p_dring_RejBounded_E : AE := AE.of [(2, ty2), (5, ty5), (21, ty21), (23, ty23), (39, ty39), (68, ty68), (80, ty80)] [(69, ⟨[.int .i64, .int .i64, .sls (.int .u8)], [.sl (.int .u8), .int .i64], g_keccak_Shake⟩), (70, ⟨[.int .i64, .int .u8], [.int .i32, .bool], g_dring_half⟩), (59, ⟨[.int .i64], [.int .i32], g_dring_below⟩)]
noncomputable def p_dring_RejBounded_H : Hints := [(9, [0, 4, 6, 9, 37, 38, 39]), (12, [0, 4, 6, 9, 37, 38, 39, 47, 48]), (2000000, [4]), (2000001, [0, 4, 6, 9, 37, 38, 39]), (2000002, [0, 4, 6, 9, 37, 38, 39]), (2000003, [0, 4, 6, 9, 37, 38, 39, 47, 48]), (3000000, [4, 5])]
noncomputable def p_dring_RejBounded_c : Code := (Go.Proofs.Try.f48).body.getD .skip
noncomputable def p_dring_RejBounded_l12_S : Shape where
  h := { tmps := [.sc (.int .i64), .any, .any, .any, .sc (.ptr 0 0 false), .any, .sc (.ptr 1 0 false), .any, .any, .sc (.int .i64), .any, .any, .any, .any, .any, .any, .any, .any, .any, .any, .any, .any, .any, .any, .any, .any, .any, .any, .any, .any, .any, .any, .any, .any, .any, .any, .any, .sc (.vec 2 none 1), .sc (.int .i64), .sc (.int .i64), .any, .any, .any, .any, .any, .any, .any, .agg [.xs (.int .u8) (some 2)], .sc (.int .i64), .any, .any, .any, .any, .any, .any, .any, .any, .any, .any, .any, .any, .any, .any, .any, .any, .any, .any, .any, .any, .any, .any, .any], mem := [.live [.xs (.int .i32) (some 256)] (.own), .live [.xs (.int .i32) (some 256)] (.own), .live [.xs (.int .u8) none] (.own)] }
  ks := [.int, .int, .nat, .int, .int, .xs, .int, .xs, .xs, .nat, .xs]
  st := fun x => { tmps := [.one (.sc (.int .i64 x.1)), .one .any, .one .any, .one .any, .one (.sc (.ptr 0 0 none)), .one .any, .one (.sc (.ptr 1 0 none)), .one .any, .one .any, .one (.sc (.int .i64 x.2.1)), .one .any, .one .any, .one .any, .one .any, .one .any, .one .any, .one .any, .one .any, .one .any, .one .any, .one .any, .one .any, .one .any, .one .any, .one .any, .one .any, .one .any, .one .any, .one .any, .one .any, .one .any, .one .any, .one .any, .one .any, .one .any, .one .any, .one .any, .one (.sc (.vec 2 x.2.2.1 1)), .one (.sc (.int .i64 x.2.2.2.1)), .one (.sc (.int .i64 x.2.2.2.2.1)), .one .any, .one .any, .one .any, .one .any, .one .any, .one .any, .one .any, .one (.agg [.xs (.int .u8) 2 x.2.2.2.2.2.1]), .one (.sc (.int .i64 x.2.2.2.2.2.2.1)), .one .any, .one .any, .one .any, .one .any, .one .any, .one .any, .one .any, .one .any, .one .any, .one .any, .one .any, .one .any, .one .any, .one .any, .one .any, .one .any, .one .any, .one .any, .one .any, .one .any, .one .any, .one .any, .one .any], mem := [.live { segs := [.xs (.int .i32) 256 x.2.2.2.2.2.2.2.1], own := .own }, .live { segs := [.xs (.int .i32) 256 x.2.2.2.2.2.2.2.2.1], own := .own }, .live { segs := [.xs (.int .u8) x.2.2.2.2.2.2.2.2.2.1 x.2.2.2.2.2.2.2.2.2.2.1], own := .own }] }
noncomputable def p_dring_RejBounded_l12_F (N : Nat) (β : Type) (x : (Int × Int × Nat × Int × Int × List Int × Int × List Int × List Int × Nat × List Int × Unit)) (kn : (Int × Int × Nat × Int × Int × List Int × Int × List Int × List Int × Nat × List Int × Unit) → Option β) (ke : ((Int × List Int × Unit) ⊕ (Int × Int × Nat × Int × Int × List Int × List Int × Nat × List Int × Unit)) → Option β) : Option β :=
  if (x.2.2.2.2.2.2.1 < (2:Int)) then
    if 0 ≤ x.2.2.2.2.2.2.1 then (
    if x.2.2.2.2.2.2.1 < 2 then (
    if (x.2.2.2.2.2.2.1.toNat) < 2 then (
    (g_dring_half (x.1, (List.getD x.2.2.2.2.2.1 (x.2.2.2.2.2.2.1.toNat) 0), ())).bind fun r2 => (
    if (¬ (r2.2 = true)) then
      kn (x.1, x.2.1, x.2.2.1, x.2.2.2.1, x.2.2.2.2.1, x.2.2.2.2.2.1, (IntKind.i64.wrap (x.2.2.2.2.2.2.1 + (1:Int))), x.2.2.2.2.2.2.2.1, x.2.2.2.2.2.2.2.2.1, x.2.2.2.2.2.2.2.2.2.1, x.2.2.2.2.2.2.2.2.2.2.1, ())
    else
      (g_dring_below ((IntKind.i64.wrap r2.1), ())).bind fun r3 => (
      if 0 ≤ x.2.1 then (
      if x.2.1 < 256 then (
      if (x.2.1.toNat) < 256 then (
      if ((IntKind.i64.wrap (x.2.1 + (1:Int))) = (256:Int)) then
        ke (.inl ((0:Int), (List.set x.2.2.2.2.2.2.2.2.1 (x.2.1.toNat) r3), ()))
      else
        kn (x.1, (IntKind.i64.wrap (x.2.1 + (1:Int))), x.2.2.1, x.2.2.2.1, x.2.2.2.2.1, x.2.2.2.2.2.1, (IntKind.i64.wrap (x.2.2.2.2.2.2.1 + (1:Int))), x.2.2.2.2.2.2.2.1, (List.set x.2.2.2.2.2.2.2.2.1 (x.2.1.toNat) r3), x.2.2.2.2.2.2.2.2.2.1, x.2.2.2.2.2.2.2.2.2.2.1, ())) else none) else none) else none))) else none) else none) else none
  else
    ke (.inr (x.1, x.2.1, x.2.2.1, x.2.2.2.1, x.2.2.2.2.1, x.2.2.2.2.2.2.2.1, x.2.2.2.2.2.2.2.2.1, x.2.2.2.2.2.2.2.2.2.1, x.2.2.2.2.2.2.2.2.2.2.1, ()))
noncomputable def p_dring_RejBounded_l12_go : Go' ((Int × List Int × Unit) ⊕ (Int × Int × Nat × Int × Int × List Int × List Int × Nat × List Int × Unit)) := fun y K => match y with
  | .inl y => K .ret { tmps := [.one .any, .one .any, .one .any, .one .any, .one (.sc (.ptr 0 0 none)), .one (.sc (.int .i64 y.1)), .one .any, .one .any, .one .any, .one .any, .one .any, .one .any, .one .any, .one .any, .one .any, .one .any, .one .any, .one .any, .one .any, .one .any, .one .any, .one .any, .one .any, .one .any, .one .any, .one .any, .one .any, .one .any, .one .any, .one .any, .one .any, .one .any, .one .any, .one .any, .one .any, .one .any, .one .any, .one .any, .one .any, .one .any, .one .any, .one .any, .one .any, .one .any, .one .any, .one .any, .one .any, .one .any, .one .any, .one .any, .one .any, .one .any, .one .any, .one .any, .one .any, .one .any, .one .any, .one .any, .one .any, .one .any, .one .any, .one .any, .one .any, .one .any, .one .any, .one .any, .one .any, .one .any, .one .any, .one .any, .one .any, .one .any], mem := [.live { segs := [.xs (.int .i32) 256 y.2.1], own := .own }] }
  | .inr y => K (.exit 2) { tmps := [.one (.sc (.int .i64 y.1)), .one .any, .one .any, .one .any, .one (.sc (.ptr 0 0 none)), .one .any, .one (.sc (.ptr 1 0 none)), .one .any, .one .any, .one (.sc (.int .i64 y.2.1)), .one .any, .one .any, .one .any, .one .any, .one .any, .one .any, .one .any, .one .any, .one .any, .one .any, .one .any, .one .any, .one .any, .one .any, .one .any, .one .any, .one .any, .one .any, .one .any, .one .any, .one .any, .one .any, .one .any, .one .any, .one .any, .one .any, .one .any, .one (.sc (.vec 2 y.2.2.1 1)), .one (.sc (.int .i64 y.2.2.2.1)), .one (.sc (.int .i64 y.2.2.2.2.1)), .one .any, .one .any, .one .any, .one .any, .one .any, .one .any, .one .any, .one .any, .one .any, .one .any, .one .any, .one .any, .one .any, .one .any, .one .any, .one .any, .one .any, .one .any, .one .any, .one .any, .one .any, .one .any, .one .any, .one .any, .one .any, .one .any, .one .any, .one .any, .one .any, .one .any, .one .any, .one .any], mem := [.live { segs := [.xs (.int .i32) 256 y.2.2.2.2.2.1], own := .own }, .live { segs := [.xs (.int .i32) 256 y.2.2.2.2.2.2.1], own := .own }, .live { segs := [.xs (.int .u8) y.2.2.2.2.2.2.2.1 y.2.2.2.2.2.2.2.2.1], own := .own }] }
noncomputable def p_dring_RejBounded_l12_L (N : Nat) : LT := upd (LT.nil) 12 (loopE p_dring_RejBounded_l12_S N (p_dring_RejBounded_l12_F N) p_dring_RejBounded_l12_go)
theorem p_dring_RejBounded_l12_ok (N : Nat) : OkAll p_dring_RejBounded_E p_dring_RejBounded_H N (p_dring_RejBounded_l12_L N) (subs p_dring_RejBounded_c) :=
  addLoop (c := theLoop 12 p_dring_RejBounded_c) (OkAll.nil) (by kernel_rfl) (fun x => by kernel_rfl) (fun β x kn ke => by kernel_rfl)
noncomputable def p_dring_RejBounded_l9_S : Shape where
  h := { tmps := [.sc (.int .i64), .any, .any, .any, .sc (.ptr 0 0 false), .any, .sc (.ptr 1 0 false), .any, .any, .sc (.int .i64), .any, .any, .any, .any, .any, .any, .any, .any, .any, .any, .any, .any, .any, .any, .any, .any, .any, .any, .any, .any, .any, .any, .any, .any, .any, .any, .any, .sc (.vec 2 none 1), .sc (.int .i64), .sc (.int .i64), .any, .any, .any, .any, .any, .any, .any, .any, .any, .any, .any, .any, .any, .any, .any, .any, .any, .any, .any, .any, .any, .any, .any, .any, .any, .any, .any, .any, .any, .any, .any, .any], mem := [.live [.xs (.int .i32) (some 256)] (.own), .live [.xs (.int .i32) (some 256)] (.own), .live [.xs (.int .u8) none] (.own)] }
  ks := [.int, .int, .nat, .int, .int, .xs, .xs, .nat, .xs]
  st := fun x => { tmps := [.one (.sc (.int .i64 x.1)), .one .any, .one .any, .one .any, .one (.sc (.ptr 0 0 none)), .one .any, .one (.sc (.ptr 1 0 none)), .one .any, .one .any, .one (.sc (.int .i64 x.2.1)), .one .any, .one .any, .one .any, .one .any, .one .any, .one .any, .one .any, .one .any, .one .any, .one .any, .one .any, .one .any, .one .any, .one .any, .one .any, .one .any, .one .any, .one .any, .one .any, .one .any, .one .any, .one .any, .one .any, .one .any, .one .any, .one .any, .one .any, .one (.sc (.vec 2 x.2.2.1 1)), .one (.sc (.int .i64 x.2.2.2.1)), .one (.sc (.int .i64 x.2.2.2.2.1)), .one .any, .one .any, .one .any, .one .any, .one .any, .one .any, .one .any, .one .any, .one .any, .one .any, .one .any, .one .any, .one .any, .one .any, .one .any, .one .any, .one .any, .one .any, .one .any, .one .any, .one .any, .one .any, .one .any, .one .any, .one .any, .one .any, .one .any, .one .any, .one .any, .one .any, .one .any, .one .any], mem := [.live { segs := [.xs (.int .i32) 256 x.2.2.2.2.2.1], own := .own }, .live { segs := [.xs (.int .i32) 256 x.2.2.2.2.2.2.1], own := .own }, .live { segs := [.xs (.int .u8) x.2.2.2.2.2.2.2.1 x.2.2.2.2.2.2.2.2.1], own := .own }] }
noncomputable def p_dring_RejBounded_l9_F (N : Nat) (β : Type) (x : (Int × Int × Nat × Int × Int × List Int × List Int × Nat × List Int × Unit)) (kn : (Int × Int × Nat × Int × Int × List Int × List Int × Nat × List Int × Unit) → Option β) (ke : ((Int × List Int × Unit) ⊕ (List Int × Unit)) → Option β) : Option β :=
  if (x.2.2.2.2.1 < x.2.2.2.1) then
    if 0 ≤ x.2.2.2.2.1 then (
    if x.2.2.2.2.1 < ((x.2.2.1 : Nat) : Int) then (
    if (x.2.2.2.2.1.toNat) < x.2.2.2.2.2.2.2.1 then (
    iter (p_dring_RejBounded_l12_F N) N (x.1, x.2.1, x.2.2.1, x.2.2.2.1, x.2.2.2.2.1, (List.set (List.set (List.replicate 2 0) 0 (iand IntKind.u8 (List.getD x.2.2.2.2.2.2.2.2.1 (x.2.2.2.2.1.toNat) 0) (15:Int))) 1 (ishr IntKind.u8 (List.getD x.2.2.2.2.2.2.2.2.1 (x.2.2.2.2.1.toNat) 0) (4:Int))), (0:Int), x.2.2.2.2.2.1, x.2.2.2.2.2.2.1, x.2.2.2.2.2.2.2.1, x.2.2.2.2.2.2.2.2.1, ()) fun y => (match y with
    | .inl y4 => (
      ke (.inl (y4.1, y4.2.1, ())))
    | .inr y5 => (
      kn (y5.1, y5.2.1, y5.2.2.1, y5.2.2.2.1, (IntKind.i64.wrap (y5.2.2.2.2.1 + (1:Int))), y5.2.2.2.2.2.1, y5.2.2.2.2.2.2.1, y5.2.2.2.2.2.2.2.1, y5.2.2.2.2.2.2.2.2.1, ())))) else none) else none) else none
  else
    ke (.inr (x.2.2.2.2.2.1, ()))
noncomputable def p_dring_RejBounded_l9_go : Go' ((Int × List Int × Unit) ⊕ (List Int × Unit)) := fun y K => match y with
  | .inl y => K .ret { tmps := [.one .any, .one .any, .one .any, .one .any, .one (.sc (.ptr 0 0 none)), .one (.sc (.int .i64 y.1)), .one .any, .one .any, .one .any, .one .any, .one .any, .one .any, .one .any, .one .any, .one .any, .one .any, .one .any, .one .any, .one .any, .one .any, .one .any, .one .any, .one .any, .one .any, .one .any, .one .any, .one .any, .one .any, .one .any, .one .any, .one .any, .one .any, .one .any, .one .any, .one .any, .one .any, .one .any, .one .any, .one .any, .one .any, .one .any, .one .any, .one .any, .one .any, .one .any, .one .any, .one .any, .one .any, .one .any, .one .any, .one .any, .one .any, .one .any, .one .any, .one .any, .one .any, .one .any, .one .any, .one .any, .one .any, .one .any, .one .any, .one .any, .one .any, .one .any, .one .any, .one .any, .one .any, .one .any, .one .any, .one .any, .one .any], mem := [.live { segs := [.xs (.int .i32) 256 y.2.1], own := .own }] }
  | .inr y => K (.exit 0) { tmps := [.one .any, .one .any, .one .any, .one .any, .one (.sc (.ptr 0 0 none)), .one .any, .one .any, .one .any, .one .any, .one .any, .one .any, .one .any, .one .any, .one .any, .one .any, .one .any, .one .any, .one .any, .one .any, .one .any, .one .any, .one .any, .one .any, .one .any, .one .any, .one .any, .one .any, .one .any, .one .any, .one .any, .one .any, .one .any, .one .any, .one .any, .one .any, .one .any, .one .any, .one .any, .one .any, .one .any, .one .any, .one .any, .one .any, .one .any, .one .any, .one .any, .one .any, .one .any, .one .any, .one .any, .one .any, .one .any, .one .any, .one .any, .one .any, .one .any, .one .any, .one .any, .one .any, .one .any, .one .any, .one .any, .one .any, .one .any, .one .any, .one .any, .one .any, .one .any, .one .any, .one .any, .one .any, .one .any], mem := [.live { segs := [.xs (.int .i32) 256 y.1], own := .own }] }
noncomputable def p_dring_RejBounded_l9_L (N : Nat) : LT := upd (p_dring_RejBounded_l12_L N) 9 (loopE p_dring_RejBounded_l9_S N (p_dring_RejBounded_l9_F N) p_dring_RejBounded_l9_go)
theorem p_dring_RejBounded_l9_ok (N : Nat) : OkAll p_dring_RejBounded_E p_dring_RejBounded_H N (p_dring_RejBounded_l9_L N) (subs p_dring_RejBounded_c) :=
  addLoop (c := theLoop 9 p_dring_RejBounded_c) (p_dring_RejBounded_l12_ok N) (by kernel_rfl) (fun x => by kernel_rfl) (fun β x kn ke => by kernel_rfl)
abbrev p_dring_RejBounded_ks : List Kd := [.int .i64, .sl (.int .u8)]
abbrev p_dring_RejBounded_rs : List Kd := [.xs (.int .i32) 256, .int .i64]
noncomputable def p_dring_RejBounded (N : Nat) (x : Int × List Int × Unit) : Option (List Int × Int) :=
  if (x.1 ≠ (2:Int)) then
    if (x.1 ≠ (4:Int)) then
      some ((List.replicate 256 0), (1:Int))
    else
      if ((((List.length x.2.1) : Nat) : Int) ≠ (66:Int)) then
        some ((List.replicate 256 0), (1:Int))
      else
        (g_keccak_Shake ((256:Int), (1024:Int), [x.2.1], ())).bind fun r1 => (
        if (r1.2 ≠ (0:Int)) then
          some ((List.replicate 256 0), (130:Int))
        else
          iter (p_dring_RejBounded_l9_F N) N (x.1, (0:Int), (List.length r1.1), (((List.length r1.1) : Nat) : Int), (0:Int), (List.replicate 256 0), (List.replicate 256 0), (List.length r1.1), r1.1, ()) fun y => (match y with
          | .inl y6 => (
            some (y6.2.1, y6.1))
          | .inr y7 => (
            some ((List.replicate 256 0), (130:Int)))))
  else
    if ((((List.length x.2.1) : Nat) : Int) ≠ (66:Int)) then
      some ((List.replicate 256 0), (1:Int))
    else
      (g_keccak_Shake ((256:Int), (1024:Int), [x.2.1], ())).bind fun r8 => (
      if (r8.2 ≠ (0:Int)) then
        some ((List.replicate 256 0), (130:Int))
      else
        iter (p_dring_RejBounded_l9_F N) N (x.1, (0:Int), (List.length r8.1), (((List.length r8.1) : Nat) : Int), (0:Int), (List.replicate 256 0), (List.replicate 256 0), (List.length r8.1), r8.1, ()) fun y => (match y with
        | .inl y9 => (
          some (y9.2.1, y9.1))
        | .inr y10 => (
          some ((List.replicate 256 0), (130:Int)))))
theorem p_dring_RejBounded_eq (N : Nat) (x : Ds [.int .i64, .sl (.int .u8)]) : funL p_dring_RejBounded_E p_dring_RejBounded_H (p_dring_RejBounded_l9_L N) N Go.Proofs.Try.f48 p_dring_RejBounded_c [.int .i64, .sl (.int .u8)] [.xs (.int .i32) 256, .int .i64] x = p_dring_RejBounded N x := by kernel_rfl
theorem p_dring_RejBounded_Eok (he_keccak_Shake : SigOk Go.Proofs.Try.prog 69 ⟨[.int .i64, .int .i64, .sls (.int .u8)], [.sl (.int .u8), .int .i64], g_keccak_Shake⟩) (he_dring_half : SigOk Go.Proofs.Try.prog 70 ⟨[.int .i64, .int .u8], [.int .i32, .bool], g_dring_half⟩) (he_dring_below : SigOk Go.Proofs.Try.prog 59 ⟨[.int .i64], [.int .i32], g_dring_below⟩) : p_dring_RejBounded_E.Ok Go.Proofs.Try.prog := AE.of_ok (all_cons ty2_ok (all_cons ty5_ok (all_cons ty21_ok (all_cons ty23_ok (all_cons ty39_ok (all_cons ty68_ok (all_cons ty80_ok all_nil))))))) (all_cons ⟨he_keccak_Shake, enters_keccak_Shake⟩ (all_cons ⟨he_dring_half, enters_dring_half⟩ (all_cons ⟨he_dring_below, enters_dring_below⟩ all_nil)))
theorem p_dring_RejBounded_ok (he_keccak_Shake : SigOk Go.Proofs.Try.prog 69 ⟨[.int .i64, .int .i64, .sls (.int .u8)], [.sl (.int .u8), .int .i64], g_keccak_Shake⟩) (he_dring_half : SigOk Go.Proofs.Try.prog 70 ⟨[.int .i64, .int .u8], [.int .i32, .bool], g_dring_half⟩) (he_dring_below : SigOk Go.Proofs.Try.prog 59 ⟨[.int .i64], [.int .i32], g_dring_below⟩) {g : Ds [.int .i64, .sl (.int .u8)] → Option (Rs [.xs (.int .i32) 256, .int .i64])} (hg : ∀ x r, g x = some r → ∃ N, p_dring_RejBounded N x = some r) : SigOk Go.Proofs.Try.prog 48 ⟨[.int .i64, .sl (.int .u8)], [.xs (.int .i32) 256, .int .i64], g⟩ :=
  fun_of (E := p_dring_RejBounded_E) (H := p_dring_RejBounded_H) (L := fun N => p_dring_RejBounded_l9_L N) (c := p_dring_RejBounded_c) (ks := p_dring_RejBounded_ks) (rs := p_dring_RejBounded_rs) (F := p_dring_RejBounded) (p_dring_RejBounded_Eok he_keccak_Shake he_dring_half he_dring_below) mix Go.Proofs.Try.func48 (by kernel_rfl) (fun N => p_dring_RejBounded_l9_ok N) p_dring_RejBounded_eq hg

/-! livery/liveryref15.RejBounded -/
noncomputable def p_ref15_RejBounded_E : AE := AE.of [(2, ty2), (5, ty5), (21, ty21), (23, ty23), (39, ty39)] [(74, ⟨[.int .i64, .int .i64, .sl (.int .u8)], [.sl (.int .u8)], g_ref03_Shake⟩), (66, ⟨[.int .i64], [.int .i64], g_ref15_mod⟩)]
noncomputable def p_ref15_RejBounded_H : Hints := [(7, [0, 4, 6, 7, 8, 9]), (2000000, [4, 6, 8]), (2000001, [0, 4, 6, 7, 8, 9]), (3000000, [4, 5])]
noncomputable def p_ref15_RejBounded_c : Code := (Go.Proofs.Try.f52).body.getD .skip
noncomputable def p_ref15_RejBounded_l7_S : Shape where
  h := { tmps := [.sc (.int .i64), .any, .any, .any, .sc (.ptr 0 0 false), .any, .sc (.ptr 1 0 false), .sc (.vec 2 none 1), .sc (.int .i64), .sc (.int .i64), .any, .any, .any, .any, .any, .any, .any, .any, .any, .any, .any, .any, .any, .any, .any, .any, .any, .any, .any, .any, .any, .any, .any, .any, .any, .any, .any, .any, .any, .any, .any, .any, .any, .any, .any, .any, .any, .any, .any, .any, .any, .any, .any, .any, .any, .any, .any, .any, .any, .any, .any, .any, .any, .any, .any, .any, .any, .any, .any, .any, .any, .any, .any, .any, .any, .any, .any, .any, .any, .any, .any, .any, .any], mem := [.live [.xs (.int .i32) (some 256)] (.own), .live [.xs (.int .i32) (some 256)] (.own), .live [.xs (.int .u8) none] (.own)] }
  ks := [.int, .nat, .int, .int, .xs, .xs, .nat, .xs]
  st := fun x => { tmps := [.one (.sc (.int .i64 x.1)), .one .any, .one .any, .one .any, .one (.sc (.ptr 0 0 none)), .one .any, .one (.sc (.ptr 1 0 none)), .one (.sc (.vec 2 x.2.1 1)), .one (.sc (.int .i64 x.2.2.1)), .one (.sc (.int .i64 x.2.2.2.1)), .one .any, .one .any, .one .any, .one .any, .one .any, .one .any, .one .any, .one .any, .one .any, .one .any, .one .any, .one .any, .one .any, .one .any, .one .any, .one .any, .one .any, .one .any, .one .any, .one .any, .one .any, .one .any, .one .any, .one .any, .one .any, .one .any, .one .any, .one .any, .one .any, .one .any, .one .any, .one .any, .one .any, .one .any, .one .any, .one .any, .one .any, .one .any, .one .any, .one .any, .one .any, .one .any, .one .any, .one .any, .one .any, .one .any, .one .any, .one .any, .one .any, .one .any, .one .any, .one .any, .one .any, .one .any, .one .any, .one .any, .one .any, .one .any, .one .any, .one .any, .one .any, .one .any, .one .any, .one .any, .one .any, .one .any, .one .any, .one .any, .one .any, .one .any, .one .any, .one .any, .one .any], mem := [.live { segs := [.xs (.int .i32) 256 x.2.2.2.2.1], own := .own }, .live { segs := [.xs (.int .i32) 256 x.2.2.2.2.2.1], own := .own }, .live { segs := [.xs (.int .u8) x.2.2.2.2.2.2.1 x.2.2.2.2.2.2.2.1], own := .own }] }
noncomputable def p_ref15_RejBounded_l7_F (N : Nat) (β : Type) (x : (Int × Nat × Int × Int × List Int × List Int × Nat × List Int × Unit)) (kn : (Int × Nat × Int × Int × List Int × List Int × Nat × List Int × Unit) → Option β) (ke : ((Int × List Int × List Int × Unit)) → Option β) : Option β :=
  if (x.2.2.2.1 < (2048:Int)) then
    if (x.2.2.1 < (256:Int)) then
      if 0 ≤ (IntKind.i64.wrap (Int.tdiv x.2.2.2.1 (2:Int))) then (
      if (IntKind.i64.wrap (Int.tdiv x.2.2.2.1 (2:Int))) < ((x.2.1 : Nat) : Int) then (
      if ((IntKind.i64.wrap (Int.tdiv x.2.2.2.1 (2:Int))).toNat) < x.2.2.2.2.2.2.1 then (
      if ((Int.tmod x.2.2.2.1 (2:Int)) = (1:Int)) then
        if 0 ≤ (IntKind.i64.wrap (Int.tdiv x.2.2.2.1 (2:Int))) then (
        if (IntKind.i64.wrap (Int.tdiv x.2.2.2.1 (2:Int))) < ((x.2.1 : Nat) : Int) then (
        if ((IntKind.i64.wrap (Int.tdiv x.2.2.2.1 (2:Int))).toNat) < x.2.2.2.2.2.2.1 then (
        if (x.1 = (2:Int)) then
          if ((IntKind.i64.wrap (IntKind.u8.wrap (Int.tdiv (List.getD x.2.2.2.2.2.2.2.1 ((IntKind.i64.wrap (Int.tdiv x.2.2.2.1 (2:Int))).toNat) 0) (16:Int)))) < (15:Int)) then
            (g_ref15_mod ((IntKind.i64.wrap ((2:Int) - (Int.tmod (IntKind.i64.wrap (IntKind.u8.wrap (Int.tdiv (List.getD x.2.2.2.2.2.2.2.1 ((IntKind.i64.wrap (Int.tdiv x.2.2.2.1 (2:Int))).toNat) 0) (16:Int)))) (5:Int)))), ())).bind fun r2 => (
            if 0 ≤ x.2.2.1 then (
            if x.2.2.1 < 256 then (
            if (x.2.2.1.toNat) < 256 then (
            if (x.1 = (4:Int)) then
              if ((IntKind.i64.wrap (IntKind.u8.wrap (Int.tdiv (List.getD x.2.2.2.2.2.2.2.1 ((IntKind.i64.wrap (Int.tdiv x.2.2.2.1 (2:Int))).toNat) 0) (16:Int)))) < (9:Int)) then
                (g_ref15_mod ((IntKind.i64.wrap ((4:Int) - (IntKind.i64.wrap (IntKind.u8.wrap (Int.tdiv (List.getD x.2.2.2.2.2.2.2.1 ((IntKind.i64.wrap (Int.tdiv x.2.2.2.1 (2:Int))).toNat) 0) (16:Int)))))), ())).bind fun r3 => (
                if 0 ≤ (IntKind.i64.wrap (x.2.2.1 + (1:Int))) then (
                if (IntKind.i64.wrap (x.2.2.1 + (1:Int))) < 256 then (
                if ((IntKind.i64.wrap (x.2.2.1 + (1:Int))).toNat) < 256 then (
                kn (x.1, x.2.1, (IntKind.i64.wrap ((IntKind.i64.wrap (x.2.2.1 + (1:Int))) + (1:Int))), (IntKind.i64.wrap (x.2.2.2.1 + (1:Int))), x.2.2.2.2.1, (List.set (List.set x.2.2.2.2.2.1 (x.2.2.1.toNat) (IntKind.i32.wrap r2)) ((IntKind.i64.wrap (x.2.2.1 + (1:Int))).toNat) (IntKind.i32.wrap r3)), x.2.2.2.2.2.2.1, x.2.2.2.2.2.2.2.1, ())) else none) else none) else none)
              else
                kn (x.1, x.2.1, (IntKind.i64.wrap (x.2.2.1 + (1:Int))), (IntKind.i64.wrap (x.2.2.2.1 + (1:Int))), x.2.2.2.2.1, (List.set x.2.2.2.2.2.1 (x.2.2.1.toNat) (IntKind.i32.wrap r2)), x.2.2.2.2.2.2.1, x.2.2.2.2.2.2.2.1, ())
            else
              kn (x.1, x.2.1, (IntKind.i64.wrap (x.2.2.1 + (1:Int))), (IntKind.i64.wrap (x.2.2.2.1 + (1:Int))), x.2.2.2.2.1, (List.set x.2.2.2.2.2.1 (x.2.2.1.toNat) (IntKind.i32.wrap r2)), x.2.2.2.2.2.2.1, x.2.2.2.2.2.2.2.1, ())) else none) else none) else none)
          else
            if (x.1 = (4:Int)) then
              if ((IntKind.i64.wrap (IntKind.u8.wrap (Int.tdiv (List.getD x.2.2.2.2.2.2.2.1 ((IntKind.i64.wrap (Int.tdiv x.2.2.2.1 (2:Int))).toNat) 0) (16:Int)))) < (9:Int)) then
                (g_ref15_mod ((IntKind.i64.wrap ((4:Int) - (IntKind.i64.wrap (IntKind.u8.wrap (Int.tdiv (List.getD x.2.2.2.2.2.2.2.1 ((IntKind.i64.wrap (Int.tdiv x.2.2.2.1 (2:Int))).toNat) 0) (16:Int)))))), ())).bind fun r4 => (
                if 0 ≤ x.2.2.1 then (
                if x.2.2.1 < 256 then (
                if (x.2.2.1.toNat) < 256 then (
                kn (x.1, x.2.1, (IntKind.i64.wrap (x.2.2.1 + (1:Int))), (IntKind.i64.wrap (x.2.2.2.1 + (1:Int))), x.2.2.2.2.1, (List.set x.2.2.2.2.2.1 (x.2.2.1.toNat) (IntKind.i32.wrap r4)), x.2.2.2.2.2.2.1, x.2.2.2.2.2.2.2.1, ())) else none) else none) else none)
              else
                kn (x.1, x.2.1, x.2.2.1, (IntKind.i64.wrap (x.2.2.2.1 + (1:Int))), x.2.2.2.2.1, x.2.2.2.2.2.1, x.2.2.2.2.2.2.1, x.2.2.2.2.2.2.2.1, ())
            else
              kn (x.1, x.2.1, x.2.2.1, (IntKind.i64.wrap (x.2.2.2.1 + (1:Int))), x.2.2.2.2.1, x.2.2.2.2.2.1, x.2.2.2.2.2.2.1, x.2.2.2.2.2.2.2.1, ())
        else
          if (x.1 = (4:Int)) then
            if ((IntKind.i64.wrap (IntKind.u8.wrap (Int.tdiv (List.getD x.2.2.2.2.2.2.2.1 ((IntKind.i64.wrap (Int.tdiv x.2.2.2.1 (2:Int))).toNat) 0) (16:Int)))) < (9:Int)) then
              (g_ref15_mod ((IntKind.i64.wrap ((4:Int) - (IntKind.i64.wrap (IntKind.u8.wrap (Int.tdiv (List.getD x.2.2.2.2.2.2.2.1 ((IntKind.i64.wrap (Int.tdiv x.2.2.2.1 (2:Int))).toNat) 0) (16:Int)))))), ())).bind fun r5 => (
              if 0 ≤ x.2.2.1 then (
              if x.2.2.1 < 256 then (
              if (x.2.2.1.toNat) < 256 then (
              kn (x.1, x.2.1, (IntKind.i64.wrap (x.2.2.1 + (1:Int))), (IntKind.i64.wrap (x.2.2.2.1 + (1:Int))), x.2.2.2.2.1, (List.set x.2.2.2.2.2.1 (x.2.2.1.toNat) (IntKind.i32.wrap r5)), x.2.2.2.2.2.2.1, x.2.2.2.2.2.2.2.1, ())) else none) else none) else none)
            else
              kn (x.1, x.2.1, x.2.2.1, (IntKind.i64.wrap (x.2.2.2.1 + (1:Int))), x.2.2.2.2.1, x.2.2.2.2.2.1, x.2.2.2.2.2.2.1, x.2.2.2.2.2.2.2.1, ())
          else
            kn (x.1, x.2.1, x.2.2.1, (IntKind.i64.wrap (x.2.2.2.1 + (1:Int))), x.2.2.2.2.1, x.2.2.2.2.2.1, x.2.2.2.2.2.2.1, x.2.2.2.2.2.2.2.1, ())) else none) else none) else none
      else
        if (x.1 = (2:Int)) then
          if ((IntKind.i64.wrap (Int.tmod (List.getD x.2.2.2.2.2.2.2.1 ((IntKind.i64.wrap (Int.tdiv x.2.2.2.1 (2:Int))).toNat) 0) (16:Int))) < (15:Int)) then
            (g_ref15_mod ((IntKind.i64.wrap ((2:Int) - (Int.tmod (IntKind.i64.wrap (Int.tmod (List.getD x.2.2.2.2.2.2.2.1 ((IntKind.i64.wrap (Int.tdiv x.2.2.2.1 (2:Int))).toNat) 0) (16:Int))) (5:Int)))), ())).bind fun r6 => (
            if 0 ≤ x.2.2.1 then (
            if x.2.2.1 < 256 then (
            if (x.2.2.1.toNat) < 256 then (
            if (x.1 = (4:Int)) then
              if ((IntKind.i64.wrap (Int.tmod (List.getD x.2.2.2.2.2.2.2.1 ((IntKind.i64.wrap (Int.tdiv x.2.2.2.1 (2:Int))).toNat) 0) (16:Int))) < (9:Int)) then
                (g_ref15_mod ((IntKind.i64.wrap ((4:Int) - (IntKind.i64.wrap (Int.tmod (List.getD x.2.2.2.2.2.2.2.1 ((IntKind.i64.wrap (Int.tdiv x.2.2.2.1 (2:Int))).toNat) 0) (16:Int))))), ())).bind fun r7 => (
                if 0 ≤ (IntKind.i64.wrap (x.2.2.1 + (1:Int))) then (
                if (IntKind.i64.wrap (x.2.2.1 + (1:Int))) < 256 then (
                if ((IntKind.i64.wrap (x.2.2.1 + (1:Int))).toNat) < 256 then (
                kn (x.1, x.2.1, (IntKind.i64.wrap ((IntKind.i64.wrap (x.2.2.1 + (1:Int))) + (1:Int))), (IntKind.i64.wrap (x.2.2.2.1 + (1:Int))), x.2.2.2.2.1, (List.set (List.set x.2.2.2.2.2.1 (x.2.2.1.toNat) (IntKind.i32.wrap r6)) ((IntKind.i64.wrap (x.2.2.1 + (1:Int))).toNat) (IntKind.i32.wrap r7)), x.2.2.2.2.2.2.1, x.2.2.2.2.2.2.2.1, ())) else none) else none) else none)
              else
                kn (x.1, x.2.1, (IntKind.i64.wrap (x.2.2.1 + (1:Int))), (IntKind.i64.wrap (x.2.2.2.1 + (1:Int))), x.2.2.2.2.1, (List.set x.2.2.2.2.2.1 (x.2.2.1.toNat) (IntKind.i32.wrap r6)), x.2.2.2.2.2.2.1, x.2.2.2.2.2.2.2.1, ())
            else
              kn (x.1, x.2.1, (IntKind.i64.wrap (x.2.2.1 + (1:Int))), (IntKind.i64.wrap (x.2.2.2.1 + (1:Int))), x.2.2.2.2.1, (List.set x.2.2.2.2.2.1 (x.2.2.1.toNat) (IntKind.i32.wrap r6)), x.2.2.2.2.2.2.1, x.2.2.2.2.2.2.2.1, ())) else none) else none) else none)
          else
            if (x.1 = (4:Int)) then
              if ((IntKind.i64.wrap (Int.tmod (List.getD x.2.2.2.2.2.2.2.1 ((IntKind.i64.wrap (Int.tdiv x.2.2.2.1 (2:Int))).toNat) 0) (16:Int))) < (9:Int)) then
                (g_ref15_mod ((IntKind.i64.wrap ((4:Int) - (IntKind.i64.wrap (Int.tmod (List.getD x.2.2.2.2.2.2.2.1 ((IntKind.i64.wrap (Int.tdiv x.2.2.2.1 (2:Int))).toNat) 0) (16:Int))))), ())).bind fun r8 => (
                if 0 ≤ x.2.2.1 then (
                if x.2.2.1 < 256 then (
                if (x.2.2.1.toNat) < 256 then (
                kn (x.1, x.2.1, (IntKind.i64.wrap (x.2.2.1 + (1:Int))), (IntKind.i64.wrap (x.2.2.2.1 + (1:Int))), x.2.2.2.2.1, (List.set x.2.2.2.2.2.1 (x.2.2.1.toNat) (IntKind.i32.wrap r8)), x.2.2.2.2.2.2.1, x.2.2.2.2.2.2.2.1, ())) else none) else none) else none)
              else
                kn (x.1, x.2.1, x.2.2.1, (IntKind.i64.wrap (x.2.2.2.1 + (1:Int))), x.2.2.2.2.1, x.2.2.2.2.2.1, x.2.2.2.2.2.2.1, x.2.2.2.2.2.2.2.1, ())
            else
              kn (x.1, x.2.1, x.2.2.1, (IntKind.i64.wrap (x.2.2.2.1 + (1:Int))), x.2.2.2.2.1, x.2.2.2.2.2.1, x.2.2.2.2.2.2.1, x.2.2.2.2.2.2.2.1, ())
        else
          if (x.1 = (4:Int)) then
            if ((IntKind.i64.wrap (Int.tmod (List.getD x.2.2.2.2.2.2.2.1 ((IntKind.i64.wrap (Int.tdiv x.2.2.2.1 (2:Int))).toNat) 0) (16:Int))) < (9:Int)) then
              (g_ref15_mod ((IntKind.i64.wrap ((4:Int) - (IntKind.i64.wrap (Int.tmod (List.getD x.2.2.2.2.2.2.2.1 ((IntKind.i64.wrap (Int.tdiv x.2.2.2.1 (2:Int))).toNat) 0) (16:Int))))), ())).bind fun r9 => (
              if 0 ≤ x.2.2.1 then (
              if x.2.2.1 < 256 then (
              if (x.2.2.1.toNat) < 256 then (
              kn (x.1, x.2.1, (IntKind.i64.wrap (x.2.2.1 + (1:Int))), (IntKind.i64.wrap (x.2.2.2.1 + (1:Int))), x.2.2.2.2.1, (List.set x.2.2.2.2.2.1 (x.2.2.1.toNat) (IntKind.i32.wrap r9)), x.2.2.2.2.2.2.1, x.2.2.2.2.2.2.2.1, ())) else none) else none) else none)
            else
              kn (x.1, x.2.1, x.2.2.1, (IntKind.i64.wrap (x.2.2.2.1 + (1:Int))), x.2.2.2.2.1, x.2.2.2.2.2.1, x.2.2.2.2.2.2.1, x.2.2.2.2.2.2.2.1, ())
          else
            kn (x.1, x.2.1, x.2.2.1, (IntKind.i64.wrap (x.2.2.2.1 + (1:Int))), x.2.2.2.2.1, x.2.2.2.2.2.1, x.2.2.2.2.2.2.1, x.2.2.2.2.2.2.2.1, ())) else none) else none) else none
    else
      ke (x.2.2.1, x.2.2.2.2.1, x.2.2.2.2.2.1, ())
  else
    ke (x.2.2.1, x.2.2.2.2.1, x.2.2.2.2.2.1, ())
noncomputable def p_ref15_RejBounded_l7_go : Go' ((Int × List Int × List Int × Unit)) := fun y K => K (.exit 0) { tmps := [.one .any, .one .any, .one .any, .one .any, .one (.sc (.ptr 0 0 none)), .one .any, .one (.sc (.ptr 1 0 none)), .one .any, .one (.sc (.int .i64 y.1)), .one .any, .one .any, .one .any, .one .any, .one .any, .one .any, .one .any, .one .any, .one .any, .one .any, .one .any, .one .any, .one .any, .one .any, .one .any, .one .any, .one .any, .one .any, .one .any, .one .any, .one .any, .one .any, .one .any, .one .any, .one .any, .one .any, .one .any, .one .any, .one .any, .one .any, .one .any, .one .any, .one .any, .one .any, .one .any, .one .any, .one .any, .one .any, .one .any, .one .any, .one .any, .one .any, .one .any, .one .any, .one .any, .one .any, .one .any, .one .any, .one .any, .one .any, .one .any, .one .any, .one .any, .one .any, .one .any, .one .any, .one .any, .one .any, .one .any, .one .any, .one .any, .one .any, .one .any, .one .any, .one .any, .one .any, .one .any, .one .any, .one .any, .one .any, .one .any, .one .any, .one .any, .one .any], mem := [.live { segs := [.xs (.int .i32) 256 y.2.1], own := .own }, .live { segs := [.xs (.int .i32) 256 y.2.2.1], own := .own }] }
noncomputable def p_ref15_RejBounded_l7_L (N : Nat) : LT := upd (LT.nil) 7 (loopE p_ref15_RejBounded_l7_S N (p_ref15_RejBounded_l7_F N) p_ref15_RejBounded_l7_go)
theorem p_ref15_RejBounded_l7_ok (N : Nat) : OkAll p_ref15_RejBounded_E p_ref15_RejBounded_H N (p_ref15_RejBounded_l7_L N) (subs p_ref15_RejBounded_c) :=
  addLoop (c := theLoop 7 p_ref15_RejBounded_c) (OkAll.nil) (by kernel_rfl) (fun x => by kernel_rfl) (fun β x kn ke => by kernel_rfl)
abbrev p_ref15_RejBounded_ks : List Kd := [.int .i64, .sl (.int .u8)]
abbrev p_ref15_RejBounded_rs : List Kd := [.xs (.int .i32) 256, .int .i64]
noncomputable def p_ref15_RejBounded (N : Nat) (x : Int × List Int × Unit) : Option (List Int × Int) :=
  if (x.1 ≠ (2:Int)) then
    if (x.1 ≠ (4:Int)) then
      some ((List.replicate 256 0), (1:Int))
    else
      if ((((List.length x.2.1) : Nat) : Int) ≠ (66:Int)) then
        some ((List.replicate 256 0), (1:Int))
      else
        (g_ref03_Shake ((256:Int), (1024:Int), x.2.1, ())).bind fun r1 => (
        iter (p_ref15_RejBounded_l7_F N) N (x.1, (List.length r1), (0:Int), (0:Int), (List.replicate 256 0), (List.replicate 256 0), (List.length r1), r1, ()) fun y10 => (
        if (y10.1 < (256:Int)) then
          some ((List.replicate 256 0), (130:Int))
        else
          some (y10.2.2.1, (0:Int))))
  else
    if ((((List.length x.2.1) : Nat) : Int) ≠ (66:Int)) then
      some ((List.replicate 256 0), (1:Int))
    else
      (g_ref03_Shake ((256:Int), (1024:Int), x.2.1, ())).bind fun r11 => (
      iter (p_ref15_RejBounded_l7_F N) N (x.1, (List.length r11), (0:Int), (0:Int), (List.replicate 256 0), (List.replicate 256 0), (List.length r11), r11, ()) fun y12 => (
      if (y12.1 < (256:Int)) then
        some ((List.replicate 256 0), (130:Int))
      else
        some (y12.2.2.1, (0:Int))))
theorem p_ref15_RejBounded_eq (N : Nat) (x : Ds [.int .i64, .sl (.int .u8)]) : funL p_ref15_RejBounded_E p_ref15_RejBounded_H (p_ref15_RejBounded_l7_L N) N Go.Proofs.Try.f52 p_ref15_RejBounded_c [.int .i64, .sl (.int .u8)] [.xs (.int .i32) 256, .int .i64] x = p_ref15_RejBounded N x := by kernel_rfl
theorem p_ref15_RejBounded_Eok (he_ref03_Shake : SigOk Go.Proofs.Try.prog 74 ⟨[.int .i64, .int .i64, .sl (.int .u8)], [.sl (.int .u8)], g_ref03_Shake⟩) (he_ref15_mod : SigOk Go.Proofs.Try.prog 66 ⟨[.int .i64], [.int .i64], g_ref15_mod⟩) : p_ref15_RejBounded_E.Ok Go.Proofs.Try.prog := AE.of_ok (all_cons ty2_ok (all_cons ty5_ok (all_cons ty21_ok (all_cons ty23_ok (all_cons ty39_ok all_nil))))) (all_cons ⟨he_ref03_Shake, enters_ref03_Shake⟩ (all_cons ⟨he_ref15_mod, enters_ref15_mod⟩ all_nil))
theorem p_ref15_RejBounded_ok (he_ref03_Shake : SigOk Go.Proofs.Try.prog 74 ⟨[.int .i64, .int .i64, .sl (.int .u8)], [.sl (.int .u8)], g_ref03_Shake⟩) (he_ref15_mod : SigOk Go.Proofs.Try.prog 66 ⟨[.int .i64], [.int .i64], g_ref15_mod⟩) {g : Ds [.int .i64, .sl (.int .u8)] → Option (Rs [.xs (.int .i32) 256, .int .i64])} (hg : ∀ x r, g x = some r → ∃ N, p_ref15_RejBounded N x = some r) : SigOk Go.Proofs.Try.prog 52 ⟨[.int .i64, .sl (.int .u8)], [.xs (.int .i32) 256, .int .i64], g⟩ :=
  fun_of (E := p_ref15_RejBounded_E) (H := p_ref15_RejBounded_H) (L := fun N => p_ref15_RejBounded_l7_L N) (c := p_ref15_RejBounded_c) (ks := p_ref15_RejBounded_ks) (rs := p_ref15_RejBounded_rs) (F := p_ref15_RejBounded) (p_ref15_RejBounded_Eok he_ref03_Shake he_ref15_mod) mix Go.Proofs.Try.func52 (by kernel_rfl) (fun N => p_ref15_RejBounded_l7_ok N) p_ref15_RejBounded_eq hg

/-! livery/liveryref01.Bits -/
noncomputable def p_ref01_Bits_E : AE := AE.of [(3, ty3), (4, ty4), (5, ty5), (39, ty39), (77, ty77)] []
noncomputable def p_ref01_Bits_H : Hints := [(3, [3, 8, 9, 10]), (7, [3, 6, 8, 9, 10, 16]), (2000000, [3]), (2000001, [3, 8, 9, 10]), (2000002, [3, 8, 9, 10]), (2000003, [3, 6, 8, 9, 10, 16]), (3000000, [2])]
noncomputable def p_ref01_Bits_c : Code := (Go.Proofs.Try.f77).body.getD .skip
noncomputable def p_ref01_Bits_l7_S : Shape where
  h := { tmps := [.any, .any, .any, .sc (.vec 0 none 1), .any, .any, .sc (.int .i64), .any, .sc (.vec 1 none 1), .sc (.int .i64), .sc (.int .i64), .any, .any, .any, .any, .any, .sc (.int .i64), .any, .any, .any, .any, .any, .any, .any, .any, .any, .any, .any, .any], mem := [.live [.xs .bool none] (.own), .live [.xs (.int .u8) none] (.ro)] }
  ks := [.nat, .int, .nat, .int, .int, .int, .nat, .xs, .nat, .xs]
  st := fun x => { tmps := [.one .any, .one .any, .one .any, .one (.sc (.vec 0 x.1 1)), .one .any, .one .any, .one (.sc (.int .i64 x.2.1)), .one .any, .one (.sc (.vec 1 x.2.2.1 1)), .one (.sc (.int .i64 x.2.2.2.1)), .one (.sc (.int .i64 x.2.2.2.2.1)), .one .any, .one .any, .one .any, .one .any, .one .any, .one (.sc (.int .i64 x.2.2.2.2.2.1)), .one .any, .one .any, .one .any, .one .any, .one .any, .one .any, .one .any, .one .any, .one .any, .one .any, .one .any, .one .any], mem := [.live { segs := [.xs .bool x.2.2.2.2.2.2.1 x.2.2.2.2.2.2.2.1], own := .own }, .live { segs := [.xs (.int .u8) x.2.2.2.2.2.2.2.2.1 x.2.2.2.2.2.2.2.2.2.1], own := .ro }] }
noncomputable def p_ref01_Bits_l7_F (N : Nat) (β : Type) (x : (Nat × Int × Nat × Int × Int × Int × Nat × List Int × Nat × List Int × Unit)) (kn : (Nat × Int × Nat × Int × Int × Int × Nat × List Int × Nat × List Int × Unit) → Option β) (ke : ((Nat × Nat × Int × Int × Nat × List Int × Nat × List Int × Unit)) → Option β) : Option β :=
  if (x.2.2.2.2.2.1 < (8:Int)) then
    if (x.1 + 1) * 1 ≤ 140737488355328 then (
    kn ((x.1 + 1), (IntKind.i64.wrap (Int.tdiv x.2.1 (2:Int))), x.2.2.1, x.2.2.2.1, x.2.2.2.2.1, (IntKind.i64.wrap (x.2.2.2.2.2.1 + (1:Int))), (x.2.2.2.2.2.2.1 + 1), (x.2.2.2.2.2.2.2.1 ++ (List.set (List.replicate 1 0) 0 (if ((Int.tmod x.2.1 (2:Int)) = (1:Int)) then (1:Int) else 0))), x.2.2.2.2.2.2.2.2.1, x.2.2.2.2.2.2.2.2.2.1, ())) else none
  else
    ke (x.1, x.2.2.1, x.2.2.2.1, x.2.2.2.2.1, x.2.2.2.2.2.2.1, x.2.2.2.2.2.2.2.1, x.2.2.2.2.2.2.2.2.1, x.2.2.2.2.2.2.2.2.2.1, ())
noncomputable def p_ref01_Bits_l7_go : Go' ((Nat × Nat × Int × Int × Nat × List Int × Nat × List Int × Unit)) := fun y K => K (.exit 2) { tmps := [.one .any, .one .any, .one .any, .one (.sc (.vec 0 y.1 1)), .one .any, .one .any, .one .any, .one .any, .one (.sc (.vec 1 y.2.1 1)), .one (.sc (.int .i64 y.2.2.1)), .one (.sc (.int .i64 y.2.2.2.1)), .one .any, .one .any, .one .any, .one .any, .one .any, .one .any, .one .any, .one .any, .one .any, .one .any, .one .any, .one .any, .one .any, .one .any, .one .any, .one .any, .one .any, .one .any], mem := [.live { segs := [.xs .bool y.2.2.2.2.1 y.2.2.2.2.2.1], own := .own }, .live { segs := [.xs (.int .u8) y.2.2.2.2.2.2.1 y.2.2.2.2.2.2.2.1], own := .ro }] }
noncomputable def p_ref01_Bits_l7_L (N : Nat) : LT := upd (LT.nil) 7 (loopE p_ref01_Bits_l7_S N (p_ref01_Bits_l7_F N) p_ref01_Bits_l7_go)
theorem p_ref01_Bits_l7_ok (N : Nat) : OkAll p_ref01_Bits_E p_ref01_Bits_H N (p_ref01_Bits_l7_L N) (subs p_ref01_Bits_c) :=
  addLoop (c := theLoop 7 p_ref01_Bits_c) (OkAll.nil) (by kernel_rfl) (fun x => by kernel_rfl) (fun β x kn ke => by kernel_rfl)
noncomputable def p_ref01_Bits_l3_S : Shape where
  h := { tmps := [.any, .any, .any, .sc (.vec 0 none 1), .any, .any, .any, .any, .sc (.vec 1 none 1), .sc (.int .i64), .sc (.int .i64), .any, .any, .any, .any, .any, .any, .any, .any, .any, .any, .any, .any, .any, .any, .any, .any, .any, .any], mem := [.live [.xs .bool none] (.own), .live [.xs (.int .u8) none] (.ro)] }
  ks := [.nat, .nat, .int, .int, .nat, .xs, .nat, .xs]
  st := fun x => { tmps := [.one .any, .one .any, .one .any, .one (.sc (.vec 0 x.1 1)), .one .any, .one .any, .one .any, .one .any, .one (.sc (.vec 1 x.2.1 1)), .one (.sc (.int .i64 x.2.2.1)), .one (.sc (.int .i64 x.2.2.2.1)), .one .any, .one .any, .one .any, .one .any, .one .any, .one .any, .one .any, .one .any, .one .any, .one .any, .one .any, .one .any, .one .any, .one .any, .one .any, .one .any, .one .any, .one .any], mem := [.live { segs := [.xs .bool x.2.2.2.2.1 x.2.2.2.2.2.1], own := .own }, .live { segs := [.xs (.int .u8) x.2.2.2.2.2.2.1 x.2.2.2.2.2.2.2.1], own := .ro }] }
noncomputable def p_ref01_Bits_l3_F (N : Nat) (β : Type) (x : (Nat × Nat × Int × Int × Nat × List Int × Nat × List Int × Unit)) (kn : (Nat × Nat × Int × Int × Nat × List Int × Nat × List Int × Unit) → Option β) (ke : ((Nat × Nat × List Int × Unit)) → Option β) : Option β :=
  if (x.2.2.2.1 < x.2.2.1) then
    if 0 ≤ x.2.2.2.1 then (
    if x.2.2.2.1 < ((x.2.1 : Nat) : Int) then (
    if (x.2.2.2.1.toNat) < x.2.2.2.2.2.2.1 then (
    iter (p_ref01_Bits_l7_F N) N (x.1, (IntKind.i64.wrap (List.getD x.2.2.2.2.2.2.2.1 (x.2.2.2.1.toNat) 0)), x.2.1, x.2.2.1, x.2.2.2.1, (0:Int), x.2.2.2.2.1, x.2.2.2.2.2.1, x.2.2.2.2.2.2.1, x.2.2.2.2.2.2.2.1, ()) fun y1 => (
    kn (y1.1, y1.2.1, y1.2.2.1, (IntKind.i64.wrap (y1.2.2.2.1 + (1:Int))), y1.2.2.2.2.1, y1.2.2.2.2.2.1, y1.2.2.2.2.2.2.1, y1.2.2.2.2.2.2.2.1, ()))) else none) else none) else none
  else
    ke (x.1, x.2.2.2.2.1, x.2.2.2.2.2.1, ())
noncomputable def p_ref01_Bits_l3_go : Go' ((Nat × Nat × List Int × Unit)) := fun y K => K (.exit 0) { tmps := [.one .any, .one .any, .one .any, .one (.sc (.vec 0 y.1 1)), .one .any, .one .any, .one .any, .one .any, .one .any, .one .any, .one .any, .one .any, .one .any, .one .any, .one .any, .one .any, .one .any, .one .any, .one .any, .one .any, .one .any, .one .any, .one .any, .one .any, .one .any, .one .any, .one .any, .one .any, .one .any], mem := [.live { segs := [.xs .bool y.2.1 y.2.2.1], own := .own }] }
noncomputable def p_ref01_Bits_l3_L (N : Nat) : LT := upd (p_ref01_Bits_l7_L N) 3 (loopE p_ref01_Bits_l3_S N (p_ref01_Bits_l3_F N) p_ref01_Bits_l3_go)
theorem p_ref01_Bits_l3_ok (N : Nat) : OkAll p_ref01_Bits_E p_ref01_Bits_H N (p_ref01_Bits_l3_L N) (subs p_ref01_Bits_c) :=
  addLoop (c := theLoop 3 p_ref01_Bits_c) (p_ref01_Bits_l7_ok N) (by kernel_rfl) (fun x => by kernel_rfl) (fun β x kn ke => by kernel_rfl)
abbrev p_ref01_Bits_ks : List Kd := [.sl (.int .u8)]
abbrev p_ref01_Bits_rs : List Kd := [.sl .bool]
noncomputable def p_ref01_Bits (N : Nat) (x : List Int × Unit) : Option (List Int) :=
  iter (p_ref01_Bits_l3_F N) N (0, (List.length x.1), (((List.length x.1) : Nat) : Int), (0:Int), 0, (List.replicate 0 0), (List.length x.1), x.1, ()) fun y2 => (
  some y2.2.2.1)
theorem p_ref01_Bits_eq (N : Nat) (x : Ds [.sl (.int .u8)]) : funL p_ref01_Bits_E p_ref01_Bits_H (p_ref01_Bits_l3_L N) N Go.Proofs.Try.f77 p_ref01_Bits_c [.sl (.int .u8)] [.sl .bool] x = p_ref01_Bits N x := by kernel_rfl
theorem p_ref01_Bits_Eok : p_ref01_Bits_E.Ok Go.Proofs.Try.prog := AE.of_ok (all_cons ty3_ok (all_cons ty4_ok (all_cons ty5_ok (all_cons ty39_ok (all_cons ty77_ok all_nil))))) all_nil
theorem p_ref01_Bits_ok {g : Ds [.sl (.int .u8)] → Option (Rs [.sl .bool])} (hg : ∀ x r, g x = some r → ∃ N, p_ref01_Bits N x = some r) : SigOk Go.Proofs.Try.prog 77 ⟨[.sl (.int .u8)], [.sl .bool], g⟩ :=
  fun_of (E := p_ref01_Bits_E) (H := p_ref01_Bits_H) (L := fun N => p_ref01_Bits_l3_L N) (c := p_ref01_Bits_c) (ks := p_ref01_Bits_ks) (rs := p_ref01_Bits_rs) (F := p_ref01_Bits) (p_ref01_Bits_Eok) mix Go.Proofs.Try.func77 (by kernel_rfl) (fun N => p_ref01_Bits_l3_ok N) p_ref01_Bits_eq hg

/-! livery/liveryref15.width -/
noncomputable def p_ref15_width_E : AE := AE.of [] []
noncomputable def p_ref15_width_H : Hints := [(3, [3, 4, 5]), (2000000, [3]), (2000001, [3, 4, 5]), (3000000, [2])]
noncomputable def p_ref15_width_c : Code := (Go.Proofs.Try.f76).body.getD .skip
noncomputable def p_ref15_width_l3_S : Shape where
  h := { tmps := [.any, .any, .any, .sc (.int .i64), .sc (.int .i64), .sc (.int .i64), .any, .any, .any, .any, .any], mem := [] }
  ks := [.int, .int, .int]
  st := fun x => { tmps := [.one .any, .one .any, .one .any, .one (.sc (.int .i64 x.1)), .one (.sc (.int .i64 x.2.1)), .one (.sc (.int .i64 x.2.2.1)), .one .any, .one .any, .one .any, .one .any, .one .any], mem := [] }
noncomputable def p_ref15_width_l3_F (N : Nat) (β : Type) (x : (Int × Int × Int × Unit)) (kn : (Int × Int × Int × Unit) → Option β) (ke : ((Int × Unit)) → Option β) : Option β :=
  if (x.2.2.1 < x.2.1) then
    kn ((IntKind.i64.wrap (x.1 * (2:Int))), x.2.1, (IntKind.i64.wrap (x.2.2.1 + (1:Int))), ())
  else
    ke (x.1, ())
noncomputable def p_ref15_width_l3_go : Go' ((Int × Unit)) := fun y K => K (.exit 0) { tmps := [.one .any, .one .any, .one .any, .one (.sc (.int .i64 y.1)), .one .any, .one .any, .one .any, .one .any, .one .any, .one .any, .one .any], mem := [] }
noncomputable def p_ref15_width_l3_L (N : Nat) : LT := upd (LT.nil) 3 (loopE p_ref15_width_l3_S N (p_ref15_width_l3_F N) p_ref15_width_l3_go)
theorem p_ref15_width_l3_ok (N : Nat) : OkAll p_ref15_width_E p_ref15_width_H N (p_ref15_width_l3_L N) (subs p_ref15_width_c) :=
  addLoop (c := theLoop 3 p_ref15_width_c) (OkAll.nil) (by kernel_rfl) (fun x => by kernel_rfl) (fun β x kn ke => by kernel_rfl)
abbrev p_ref15_width_ks : List Kd := [.int .i64]
abbrev p_ref15_width_rs : List Kd := [.int .i64]
noncomputable def p_ref15_width (N : Nat) (x : Int × Unit) : Option (Int) :=
  iter (p_ref15_width_l3_F N) N ((1:Int), x.1, (0:Int), ()) fun y1 => (
  some y1.1)
theorem p_ref15_width_eq (N : Nat) (x : Ds [.int .i64]) : funL p_ref15_width_E p_ref15_width_H (p_ref15_width_l3_L N) N Go.Proofs.Try.f76 p_ref15_width_c [.int .i64] [.int .i64] x = p_ref15_width N x := by kernel_rfl
theorem p_ref15_width_Eok : p_ref15_width_E.Ok Go.Proofs.Try.prog := AE.of_ok all_nil all_nil
theorem p_ref15_width_ok {g : Ds [.int .i64] → Option (Rs [.int .i64])} (hg : ∀ x r, g x = some r → ∃ N, p_ref15_width N x = some r) : SigOk Go.Proofs.Try.prog 76 ⟨[.int .i64], [.int .i64], g⟩ :=
  fun_of (E := p_ref15_width_E) (H := p_ref15_width_H) (L := fun N => p_ref15_width_l3_L N) (c := p_ref15_width_c) (ks := p_ref15_width_ks) (rs := p_ref15_width_rs) (F := p_ref15_width) (p_ref15_width_Eok) mix Go.Proofs.Try.func76 (by kernel_rfl) (fun N => p_ref15_width_l3_ok N) p_ref15_width_eq hg

/-! livery/dring.Unpack -/
noncomputable def p_dring_Unpack_E : AE := AE.of [(5, ty5), (21, ty21), (23, ty23), (39, ty39)] []
noncomputable def p_dring_Unpack_H : Hints := [(5, [0, 1, 4, 6, 24]), (8, [0, 1, 4, 6, 7, 24, 27, 28]), (2000000, [4, 6]), (2000001, [0, 1, 4, 6, 24]), (2000002, [0, 1, 4, 6, 24]), (2000003, [0, 1, 4, 6, 7, 24, 27, 28]), (3000000, [4, 5])]
noncomputable def p_dring_Unpack_c : Code := (Go.Proofs.Try.f81).body.getD .skip
noncomputable def p_dring_Unpack_l8_S : Shape where
  h := { tmps := [.sc (.int .i64), .sc (.vec 0 none 1), .any, .any, .sc (.ptr 1 0 false), .any, .sc (.ptr 2 0 false), .sc (.int .i64), .any, .any, .any, .any, .any, .any, .any, .any, .any, .any, .any, .any, .any, .any, .any, .any, .sc (.int .i64), .any, .any, .sc (.int .i64), .sc (.int .i64), .any, .any, .any, .any, .any, .any, .any, .any, .any, .any, .any, .any, .any, .any, .any, .any, .any, .any, .any, .any, .any, .any, .any, .any, .any, .any, .any], mem := [.live [.xs (.int .u8) none] (.ro), .live [.xs (.int .i32) (some 256)] (.own), .live [.xs (.int .i32) (some 256)] (.own)] }
  ks := [.int, .nat, .int, .int, .int, .int, .nat, .xs, .xs, .xs]
  st := fun x => { tmps := [.one (.sc (.int .i64 x.1)), .one (.sc (.vec 0 x.2.1 1)), .one .any, .one .any, .one (.sc (.ptr 1 0 none)), .one .any, .one (.sc (.ptr 2 0 none)), .one (.sc (.int .i64 x.2.2.1)), .one .any, .one .any, .one .any, .one .any, .one .any, .one .any, .one .any, .one .any, .one .any, .one .any, .one .any, .one .any, .one .any, .one .any, .one .any, .one .any, .one (.sc (.int .i64 x.2.2.2.1)), .one .any, .one .any, .one (.sc (.int .i64 x.2.2.2.2.1)), .one (.sc (.int .i64 x.2.2.2.2.2.1)), .one .any, .one .any, .one .any, .one .any, .one .any, .one .any, .one .any, .one .any, .one .any, .one .any, .one .any, .one .any, .one .any, .one .any, .one .any, .one .any, .one .any, .one .any, .one .any, .one .any, .one .any, .one .any, .one .any, .one .any, .one .any, .one .any, .one .any], mem := [.live { segs := [.xs (.int .u8) x.2.2.2.2.2.2.1 x.2.2.2.2.2.2.2.1], own := .ro }, .live { segs := [.xs (.int .i32) 256 x.2.2.2.2.2.2.2.2.1], own := .own }, .live { segs := [.xs (.int .i32) 256 x.2.2.2.2.2.2.2.2.2.1], own := .own }] }
noncomputable def p_dring_Unpack_l8_F (N : Nat) (β : Type) (x : (Int × Nat × Int × Int × Int × Int × Nat × List Int × List Int × List Int × Unit)) (kn : (Int × Nat × Int × Int × Int × Int × Nat × List Int × List Int × List Int × Unit) → Option β) (ke : ((Int × Nat × Int × Nat × List Int × List Int × List Int × Unit)) → Option β) : Option β :=
  if (x.2.2.2.2.2.1 < x.2.2.2.2.1) then
    if 0 ≤ x.2.2.1 then (
    if x.2.2.1 < 256 then (
    if (x.2.2.1.toNat) < 256 then (
    if 0 ≤ (IntKind.i64.wrap (Int.tdiv (IntKind.i64.wrap ((IntKind.i64.wrap (x.2.2.1 * x.1)) + x.2.2.2.2.2.1)) (8:Int))) then (
    if (IntKind.i64.wrap (Int.tdiv (IntKind.i64.wrap ((IntKind.i64.wrap (x.2.2.1 * x.1)) + x.2.2.2.2.2.1)) (8:Int))) < ((x.2.1 : Nat) : Int) then (
    if ((IntKind.i64.wrap (Int.tdiv (IntKind.i64.wrap ((IntKind.i64.wrap (x.2.2.1 * x.1)) + x.2.2.2.2.2.1)) (8:Int))).toNat) < x.2.2.2.2.2.2.1 then (
    if (Int.tmod (IntKind.i64.wrap ((IntKind.i64.wrap (x.2.2.1 * x.1)) + x.2.2.2.2.2.1)) (8:Int)) < 0 then none else (
    if x.2.2.2.2.2.1 < 0 then none else (
    if 0 ≤ x.2.2.1 then (
    if x.2.2.1 < 256 then (
    if (x.2.2.1.toNat) < 256 then (
    kn (x.1, x.2.1, x.2.2.1, x.2.2.2.1, x.2.2.2.2.1, (IntKind.i64.wrap (x.2.2.2.2.2.1 + (1:Int))), x.2.2.2.2.2.2.1, x.2.2.2.2.2.2.2.1, x.2.2.2.2.2.2.2.2.1, (List.set x.2.2.2.2.2.2.2.2.2.1 (x.2.2.1.toNat) (ior IntKind.i32 (List.getD x.2.2.2.2.2.2.2.2.2.1 (x.2.2.1.toNat) 0) (ishl IntKind.i32 (IntKind.i32.wrap (iand IntKind.u8 (ishr IntKind.u8 (List.getD x.2.2.2.2.2.2.2.1 ((IntKind.i64.wrap (Int.tdiv (IntKind.i64.wrap ((IntKind.i64.wrap (x.2.2.1 * x.1)) + x.2.2.2.2.2.1)) (8:Int))).toNat) 0) (Int.tmod (IntKind.i64.wrap ((IntKind.i64.wrap (x.2.2.1 * x.1)) + x.2.2.2.2.2.1)) (8:Int))) (1:Int))) x.2.2.2.2.2.1))), ())) else none) else none) else none))) else none) else none) else none) else none) else none) else none
  else
    ke (x.1, x.2.1, x.2.2.2.1, x.2.2.2.2.2.2.1, x.2.2.2.2.2.2.2.1, x.2.2.2.2.2.2.2.2.1, x.2.2.2.2.2.2.2.2.2.1, ())
noncomputable def p_dring_Unpack_l8_go : Go' ((Int × Nat × Int × Nat × List Int × List Int × List Int × Unit)) := fun y K => K (.exit 2) { tmps := [.one (.sc (.int .i64 y.1)), .one (.sc (.vec 0 y.2.1 1)), .one .any, .one .any, .one (.sc (.ptr 1 0 none)), .one .any, .one (.sc (.ptr 2 0 none)), .one .any, .one .any, .one .any, .one .any, .one .any, .one .any, .one .any, .one .any, .one .any, .one .any, .one .any, .one .any, .one .any, .one .any, .one .any, .one .any, .one .any, .one (.sc (.int .i64 y.2.2.1)), .one .any, .one .any, .one .any, .one .any, .one .any, .one .any, .one .any, .one .any, .one .any, .one .any, .one .any, .one .any, .one .any, .one .any, .one .any, .one .any, .one .any, .one .any, .one .any, .one .any, .one .any, .one .any, .one .any, .one .any, .one .any, .one .any, .one .any, .one .any, .one .any, .one .any, .one .any], mem := [.live { segs := [.xs (.int .u8) y.2.2.2.1 y.2.2.2.2.1], own := .ro }, .live { segs := [.xs (.int .i32) 256 y.2.2.2.2.2.1], own := .own }, .live { segs := [.xs (.int .i32) 256 y.2.2.2.2.2.2.1], own := .own }] }
noncomputable def p_dring_Unpack_l8_L (N : Nat) : LT := upd (LT.nil) 8 (loopE p_dring_Unpack_l8_S N (p_dring_Unpack_l8_F N) p_dring_Unpack_l8_go)
theorem p_dring_Unpack_l8_ok (N : Nat) : OkAll p_dring_Unpack_E p_dring_Unpack_H N (p_dring_Unpack_l8_L N) (subs p_dring_Unpack_c) :=
  addLoop (c := theLoop 8 p_dring_Unpack_c) (OkAll.nil) (by kernel_rfl) (fun x => by kernel_rfl) (fun β x kn ke => by kernel_rfl)
noncomputable def p_dring_Unpack_l5_S : Shape where
  h := { tmps := [.sc (.int .i64), .sc (.vec 0 none 1), .any, .any, .sc (.ptr 1 0 false), .any, .sc (.ptr 2 0 false), .any, .any, .any, .any, .any, .any, .any, .any, .any, .any, .any, .any, .any, .any, .any, .any, .any, .sc (.int .i64), .any, .any, .any, .any, .any, .any, .any, .any, .any, .any, .any, .any, .any, .any, .any, .any, .any, .any, .any, .any, .any, .any, .any, .any, .any, .any, .any, .any, .any, .any, .any], mem := [.live [.xs (.int .u8) none] (.ro), .live [.xs (.int .i32) (some 256)] (.own), .live [.xs (.int .i32) (some 256)] (.own)] }
  ks := [.int, .nat, .int, .nat, .xs, .xs, .xs]
  st := fun x => { tmps := [.one (.sc (.int .i64 x.1)), .one (.sc (.vec 0 x.2.1 1)), .one .any, .one .any, .one (.sc (.ptr 1 0 none)), .one .any, .one (.sc (.ptr 2 0 none)), .one .any, .one .any, .one .any, .one .any, .one .any, .one .any, .one .any, .one .any, .one .any, .one .any, .one .any, .one .any, .one .any, .one .any, .one .any, .one .any, .one .any, .one (.sc (.int .i64 x.2.2.1)), .one .any, .one .any, .one .any, .one .any, .one .any, .one .any, .one .any, .one .any, .one .any, .one .any, .one .any, .one .any, .one .any, .one .any, .one .any, .one .any, .one .any, .one .any, .one .any, .one .any, .one .any, .one .any, .one .any, .one .any, .one .any, .one .any, .one .any, .one .any, .one .any, .one .any, .one .any], mem := [.live { segs := [.xs (.int .u8) x.2.2.2.1 x.2.2.2.2.1], own := .ro }, .live { segs := [.xs (.int .i32) 256 x.2.2.2.2.2.1], own := .own }, .live { segs := [.xs (.int .i32) 256 x.2.2.2.2.2.2.1], own := .own }] }
noncomputable def p_dring_Unpack_l5_F (N : Nat) (β : Type) (x : (Int × Nat × Int × Nat × List Int × List Int × List Int × Unit)) (kn : (Int × Nat × Int × Nat × List Int × List Int × List Int × Unit) → Option β) (ke : ((List Int × List Int × Unit)) → Option β) : Option β :=
  if (x.2.2.1 < (256:Int)) then
    iter (p_dring_Unpack_l8_F N) N (x.1, x.2.1, x.2.2.1, x.2.2.1, x.1, (0:Int), x.2.2.2.1, x.2.2.2.2.1, x.2.2.2.2.2.1, x.2.2.2.2.2.2.1, ()) fun y1 => (
    kn (y1.1, y1.2.1, (IntKind.i64.wrap (y1.2.2.1 + (1:Int))), y1.2.2.2.1, y1.2.2.2.2.1, y1.2.2.2.2.2.1, y1.2.2.2.2.2.2.1, ()))
  else
    ke (x.2.2.2.2.2.1, x.2.2.2.2.2.2.1, ())
noncomputable def p_dring_Unpack_l5_go : Go' ((List Int × List Int × Unit)) := fun y K => K (.exit 0) { tmps := [.one .any, .one .any, .one .any, .one .any, .one (.sc (.ptr 0 0 none)), .one .any, .one (.sc (.ptr 1 0 none)), .one .any, .one .any, .one .any, .one .any, .one .any, .one .any, .one .any, .one .any, .one .any, .one .any, .one .any, .one .any, .one .any, .one .any, .one .any, .one .any, .one .any, .one .any, .one .any, .one .any, .one .any, .one .any, .one .any, .one .any, .one .any, .one .any, .one .any, .one .any, .one .any, .one .any, .one .any, .one .any, .one .any, .one .any, .one .any, .one .any, .one .any, .one .any, .one .any, .one .any, .one .any, .one .any, .one .any, .one .any, .one .any, .one .any, .one .any, .one .any, .one .any], mem := [.live { segs := [.xs (.int .i32) 256 y.1], own := .own }, .live { segs := [.xs (.int .i32) 256 y.2.1], own := .own }] }
noncomputable def p_dring_Unpack_l5_L (N : Nat) : LT := upd (p_dring_Unpack_l8_L N) 5 (loopE p_dring_Unpack_l5_S N (p_dring_Unpack_l5_F N) p_dring_Unpack_l5_go)
theorem p_dring_Unpack_l5_ok (N : Nat) : OkAll p_dring_Unpack_E p_dring_Unpack_H N (p_dring_Unpack_l5_L N) (subs p_dring_Unpack_c) :=
  addLoop (c := theLoop 5 p_dring_Unpack_c) (p_dring_Unpack_l8_ok N) (by kernel_rfl) (fun x => by kernel_rfl) (fun β x kn ke => by kernel_rfl)
abbrev p_dring_Unpack_ks : List Kd := [.int .i64, .sl (.int .u8)]
abbrev p_dring_Unpack_rs : List Kd := [.xs (.int .i32) 256, .int .i64]
noncomputable def p_dring_Unpack (N : Nat) (x : Int × List Int × Unit) : Option (List Int × Int) :=
  if (x.1 < (1:Int)) then
    some ((List.replicate 256 0), (1:Int))
  else
    if (x.1 > (23:Int)) then
      some ((List.replicate 256 0), (1:Int))
    else
      if ((((List.length x.2.1) : Nat) : Int) ≠ (IntKind.i64.wrap ((32:Int) * x.1))) then
        some ((List.replicate 256 0), (1:Int))
      else
        iter (p_dring_Unpack_l5_F N) N (x.1, (List.length x.2.1), (0:Int), (List.length x.2.1), x.2.1, (List.replicate 256 0), (List.replicate 256 0), ()) fun y2 => (
        some (y2.2.1, (0:Int)))
theorem p_dring_Unpack_eq (N : Nat) (x : Ds [.int .i64, .sl (.int .u8)]) : funL p_dring_Unpack_E p_dring_Unpack_H (p_dring_Unpack_l5_L N) N Go.Proofs.Try.f81 p_dring_Unpack_c [.int .i64, .sl (.int .u8)] [.xs (.int .i32) 256, .int .i64] x = p_dring_Unpack N x := by kernel_rfl
theorem p_dring_Unpack_Eok : p_dring_Unpack_E.Ok Go.Proofs.Try.prog := AE.of_ok (all_cons ty5_ok (all_cons ty21_ok (all_cons ty23_ok (all_cons ty39_ok all_nil)))) all_nil
theorem p_dring_Unpack_ok {g : Ds [.int .i64, .sl (.int .u8)] → Option (Rs [.xs (.int .i32) 256, .int .i64])} (hg : ∀ x r, g x = some r → ∃ N, p_dring_Unpack N x = some r) : SigOk Go.Proofs.Try.prog 81 ⟨[.int .i64, .sl (.int .u8)], [.xs (.int .i32) 256, .int .i64], g⟩ :=
  fun_of (E := p_dring_Unpack_E) (H := p_dring_Unpack_H) (L := fun N => p_dring_Unpack_l5_L N) (c := p_dring_Unpack_c) (ks := p_dring_Unpack_ks) (rs := p_dring_Unpack_rs) (F := p_dring_Unpack) (p_dring_Unpack_Eok) mix Go.Proofs.Try.func81 (by kernel_rfl) (fun N => p_dring_Unpack_l5_ok N) p_dring_Unpack_eq hg

/-! livery/liveryref15.Unpack -/
noncomputable def p_ref15_Unpack_E : AE := AE.of [(2, ty2), (4, ty4), (21, ty21), (23, ty23), (39, ty39), (77, ty77)] [(77, ⟨[.sl (.int .u8)], [.sl .bool], g_ref01_Bits⟩)]
noncomputable def p_ref15_Unpack_H : Hints := [(6, [0, 4, 6, 7, 28]), (10, [0, 4, 6, 7, 8, 9, 10, 28, 31, 32]), (2000000, [4, 7]), (2000001, [0, 4, 6, 7, 28]), (2000002, [0, 4, 6, 7, 8, 9, 28]), (2000003, [0, 4, 6, 7, 8, 9, 10, 28, 31, 32]), (3000000, [4, 5])]
noncomputable def p_ref15_Unpack_c : Code := (Go.Proofs.Try.f87).body.getD .skip
noncomputable def p_ref15_Unpack_l10_S : Shape where
  h := { tmps := [.sc (.int .i64), .any, .any, .any, .sc (.ptr 0 0 false), .any, .sc (.vec 1 none 1), .sc (.ptr 2 0 false), .sc (.int .i64), .sc (.int .i64), .sc (.int .i64), .any, .any, .any, .any, .any, .any, .any, .any, .any, .any, .any, .any, .any, .any, .any, .any, .any, .sc (.int .i64), .any, .any, .sc (.int .i64), .sc (.int .i64), .any, .any, .any, .any, .any, .any, .any, .any, .any, .any, .any, .any, .any, .any, .any, .any, .any, .any, .any, .any, .any, .any], mem := [.live [.xs (.int .i32) (some 256)] (.own), .live [.xs .bool none] (.own), .live [.xs (.int .i32) (some 256)] (.own)] }
  ks := [.int, .nat, .int, .int, .int, .int, .int, .int, .xs, .nat, .xs, .xs]
  st := fun x => { tmps := [.one (.sc (.int .i64 x.1)), .one .any, .one .any, .one .any, .one (.sc (.ptr 0 0 none)), .one .any, .one (.sc (.vec 1 x.2.1 1)), .one (.sc (.ptr 2 0 none)), .one (.sc (.int .i64 x.2.2.1)), .one (.sc (.int .i64 x.2.2.2.1)), .one (.sc (.int .i64 x.2.2.2.2.1)), .one .any, .one .any, .one .any, .one .any, .one .any, .one .any, .one .any, .one .any, .one .any, .one .any, .one .any, .one .any, .one .any, .one .any, .one .any, .one .any, .one .any, .one (.sc (.int .i64 x.2.2.2.2.2.1)), .one .any, .one .any, .one (.sc (.int .i64 x.2.2.2.2.2.2.1)), .one (.sc (.int .i64 x.2.2.2.2.2.2.2.1)), .one .any, .one .any, .one .any, .one .any, .one .any, .one .any, .one .any, .one .any, .one .any, .one .any, .one .any, .one .any, .one .any, .one .any, .one .any, .one .any, .one .any, .one .any, .one .any, .one .any, .one .any, .one .any], mem := [.live { segs := [.xs (.int .i32) 256 x.2.2.2.2.2.2.2.2.1], own := .own }, .live { segs := [.xs .bool x.2.2.2.2.2.2.2.2.2.1 x.2.2.2.2.2.2.2.2.2.2.1], own := .own }, .live { segs := [.xs (.int .i32) 256 x.2.2.2.2.2.2.2.2.2.2.2.1], own := .own }] }
noncomputable def p_ref15_Unpack_l10_F (N : Nat) (β : Type) (x : (Int × Nat × Int × Int × Int × Int × Int × Int × List Int × Nat × List Int × List Int × Unit)) (kn : (Int × Nat × Int × Int × Int × Int × Int × Int × List Int × Nat × List Int × List Int × Unit) → Option β) (ke : ((Int × Nat × Int × Int × Int × List Int × Nat × List Int × List Int × Unit)) → Option β) : Option β :=
  if (x.2.2.2.2.2.2.2.1 < x.2.2.2.2.2.2.1) then
    if 0 ≤ (IntKind.i64.wrap ((IntKind.i64.wrap (x.2.2.1 * x.1)) + x.2.2.2.2.2.2.2.1)) then (
    if (IntKind.i64.wrap ((IntKind.i64.wrap (x.2.2.1 * x.1)) + x.2.2.2.2.2.2.2.1)) < ((x.2.1 : Nat) : Int) then (
    if ((IntKind.i64.wrap ((IntKind.i64.wrap (x.2.2.1 * x.1)) + x.2.2.2.2.2.2.2.1)).toNat) < x.2.2.2.2.2.2.2.2.2.1 then (
    if ((List.getD x.2.2.2.2.2.2.2.2.2.2.1 ((IntKind.i64.wrap ((IntKind.i64.wrap (x.2.2.1 * x.1)) + x.2.2.2.2.2.2.2.1)).toNat) 0) ≠ 0) then
      kn (x.1, x.2.1, x.2.2.1, (IntKind.i64.wrap (x.2.2.2.1 + x.2.2.2.2.1)), (IntKind.i64.wrap (x.2.2.2.2.1 * (2:Int))), x.2.2.2.2.2.1, x.2.2.2.2.2.2.1, (IntKind.i64.wrap (x.2.2.2.2.2.2.2.1 + (1:Int))), x.2.2.2.2.2.2.2.2.1, x.2.2.2.2.2.2.2.2.2.1, x.2.2.2.2.2.2.2.2.2.2.1, x.2.2.2.2.2.2.2.2.2.2.2.1, ())
    else
      kn (x.1, x.2.1, x.2.2.1, x.2.2.2.1, (IntKind.i64.wrap (x.2.2.2.2.1 * (2:Int))), x.2.2.2.2.2.1, x.2.2.2.2.2.2.1, (IntKind.i64.wrap (x.2.2.2.2.2.2.2.1 + (1:Int))), x.2.2.2.2.2.2.2.2.1, x.2.2.2.2.2.2.2.2.2.1, x.2.2.2.2.2.2.2.2.2.2.1, x.2.2.2.2.2.2.2.2.2.2.2.1, ())) else none) else none) else none
  else
    ke (x.1, x.2.1, x.2.2.1, x.2.2.2.1, x.2.2.2.2.2.1, x.2.2.2.2.2.2.2.2.1, x.2.2.2.2.2.2.2.2.2.1, x.2.2.2.2.2.2.2.2.2.2.1, x.2.2.2.2.2.2.2.2.2.2.2.1, ())
noncomputable def p_ref15_Unpack_l10_go : Go' ((Int × Nat × Int × Int × Int × List Int × Nat × List Int × List Int × Unit)) := fun y K => K (.exit 2) { tmps := [.one (.sc (.int .i64 y.1)), .one .any, .one .any, .one .any, .one (.sc (.ptr 0 0 none)), .one .any, .one (.sc (.vec 1 y.2.1 1)), .one (.sc (.ptr 2 0 none)), .one (.sc (.int .i64 y.2.2.1)), .one (.sc (.int .i64 y.2.2.2.1)), .one .any, .one .any, .one .any, .one .any, .one .any, .one .any, .one .any, .one .any, .one .any, .one .any, .one .any, .one .any, .one .any, .one .any, .one .any, .one .any, .one .any, .one .any, .one (.sc (.int .i64 y.2.2.2.2.1)), .one .any, .one .any, .one .any, .one .any, .one .any, .one .any, .one .any, .one .any, .one .any, .one .any, .one .any, .one .any, .one .any, .one .any, .one .any, .one .any, .one .any, .one .any, .one .any, .one .any, .one .any, .one .any, .one .any, .one .any, .one .any, .one .any], mem := [.live { segs := [.xs (.int .i32) 256 y.2.2.2.2.2.1], own := .own }, .live { segs := [.xs .bool y.2.2.2.2.2.2.1 y.2.2.2.2.2.2.2.1], own := .own }, .live { segs := [.xs (.int .i32) 256 y.2.2.2.2.2.2.2.2.1], own := .own }] }
noncomputable def p_ref15_Unpack_l10_L (N : Nat) : LT := upd (LT.nil) 10 (loopE p_ref15_Unpack_l10_S N (p_ref15_Unpack_l10_F N) p_ref15_Unpack_l10_go)
theorem p_ref15_Unpack_l10_ok (N : Nat) : OkAll p_ref15_Unpack_E p_ref15_Unpack_H N (p_ref15_Unpack_l10_L N) (subs p_ref15_Unpack_c) :=
  addLoop (c := theLoop 10 p_ref15_Unpack_c) (OkAll.nil) (by kernel_rfl) (fun x => by kernel_rfl) (fun β x kn ke => by kernel_rfl)
noncomputable def p_ref15_Unpack_l6_S : Shape where
  h := { tmps := [.sc (.int .i64), .any, .any, .any, .sc (.ptr 0 0 false), .any, .sc (.vec 1 none 1), .sc (.ptr 2 0 false), .any, .any, .any, .any, .any, .any, .any, .any, .any, .any, .any, .any, .any, .any, .any, .any, .any, .any, .any, .any, .sc (.int .i64), .any, .any, .any, .any, .any, .any, .any, .any, .any, .any, .any, .any, .any, .any, .any, .any, .any, .any, .any, .any, .any, .any, .any, .any, .any, .any], mem := [.live [.xs (.int .i32) (some 256)] (.own), .live [.xs .bool none] (.own), .live [.xs (.int .i32) (some 256)] (.own)] }
  ks := [.int, .nat, .int, .xs, .nat, .xs, .xs]
  st := fun x => { tmps := [.one (.sc (.int .i64 x.1)), .one .any, .one .any, .one .any, .one (.sc (.ptr 0 0 none)), .one .any, .one (.sc (.vec 1 x.2.1 1)), .one (.sc (.ptr 2 0 none)), .one .any, .one .any, .one .any, .one .any, .one .any, .one .any, .one .any, .one .any, .one .any, .one .any, .one .any, .one .any, .one .any, .one .any, .one .any, .one .any, .one .any, .one .any, .one .any, .one .any, .one (.sc (.int .i64 x.2.2.1)), .one .any, .one .any, .one .any, .one .any, .one .any, .one .any, .one .any, .one .any, .one .any, .one .any, .one .any, .one .any, .one .any, .one .any, .one .any, .one .any, .one .any, .one .any, .one .any, .one .any, .one .any, .one .any, .one .any, .one .any, .one .any, .one .any], mem := [.live { segs := [.xs (.int .i32) 256 x.2.2.2.1], own := .own }, .live { segs := [.xs .bool x.2.2.2.2.1 x.2.2.2.2.2.1], own := .own }, .live { segs := [.xs (.int .i32) 256 x.2.2.2.2.2.2.1], own := .own }] }
noncomputable def p_ref15_Unpack_l6_F (N : Nat) (β : Type) (x : (Int × Nat × Int × List Int × Nat × List Int × List Int × Unit)) (kn : (Int × Nat × Int × List Int × Nat × List Int × List Int × Unit) → Option β) (ke : ((List Int × List Int × Unit)) → Option β) : Option β :=
  if (x.2.2.1 < (256:Int)) then
    iter (p_ref15_Unpack_l10_F N) N (x.1, x.2.1, x.2.2.1, (0:Int), (1:Int), x.2.2.1, x.1, (0:Int), x.2.2.2.1, x.2.2.2.2.1, x.2.2.2.2.2.1, x.2.2.2.2.2.2.1, ()) fun y2 => (
    if 0 ≤ y2.2.2.1 then (
    if y2.2.2.1 < 256 then (
    if (y2.2.2.1.toNat) < 256 then (
    kn (y2.1, y2.2.1, (IntKind.i64.wrap (y2.2.2.2.2.1 + (1:Int))), y2.2.2.2.2.2.1, y2.2.2.2.2.2.2.1, y2.2.2.2.2.2.2.2.1, (List.set y2.2.2.2.2.2.2.2.2.1 (y2.2.2.1.toNat) (IntKind.i32.wrap y2.2.2.2.1)), ())) else none) else none) else none)
  else
    ke (x.2.2.2.1, x.2.2.2.2.2.2.1, ())
noncomputable def p_ref15_Unpack_l6_go : Go' ((List Int × List Int × Unit)) := fun y K => K (.exit 0) { tmps := [.one .any, .one .any, .one .any, .one .any, .one (.sc (.ptr 0 0 none)), .one .any, .one .any, .one (.sc (.ptr 1 0 none)), .one .any, .one .any, .one .any, .one .any, .one .any, .one .any, .one .any, .one .any, .one .any, .one .any, .one .any, .one .any, .one .any, .one .any, .one .any, .one .any, .one .any, .one .any, .one .any, .one .any, .one .any, .one .any, .one .any, .one .any, .one .any, .one .any, .one .any, .one .any, .one .any, .one .any, .one .any, .one .any, .one .any, .one .any, .one .any, .one .any, .one .any, .one .any, .one .any, .one .any, .one .any, .one .any, .one .any, .one .any, .one .any, .one .any, .one .any], mem := [.live { segs := [.xs (.int .i32) 256 y.1], own := .own }, .live { segs := [.xs (.int .i32) 256 y.2.1], own := .own }] }
noncomputable def p_ref15_Unpack_l6_L (N : Nat) : LT := upd (p_ref15_Unpack_l10_L N) 6 (loopE p_ref15_Unpack_l6_S N (p_ref15_Unpack_l6_F N) p_ref15_Unpack_l6_go)
theorem p_ref15_Unpack_l6_ok (N : Nat) : OkAll p_ref15_Unpack_E p_ref15_Unpack_H N (p_ref15_Unpack_l6_L N) (subs p_ref15_Unpack_c) :=
  addLoop (c := theLoop 6 p_ref15_Unpack_c) (p_ref15_Unpack_l10_ok N) (by kernel_rfl) (fun x => by kernel_rfl) (fun β x kn ke => by kernel_rfl)
abbrev p_ref15_Unpack_ks : List Kd := [.int .i64, .sl (.int .u8)]
abbrev p_ref15_Unpack_rs : List Kd := [.xs (.int .i32) 256, .int .i64]
noncomputable def p_ref15_Unpack (N : Nat) (x : Int × List Int × Unit) : Option (List Int × Int) :=
  if (x.1 < (1:Int)) then
    some ((List.replicate 256 0), (1:Int))
  else
    if (x.1 > (23:Int)) then
      some ((List.replicate 256 0), (1:Int))
    else
      if ((((List.length x.2.1) : Nat) : Int) ≠ (IntKind.i64.wrap ((32:Int) * x.1))) then
        some ((List.replicate 256 0), (1:Int))
      else
        (g_ref01_Bits (x.2.1, ())).bind fun r1 => (
        iter (p_ref15_Unpack_l6_F N) N (x.1, (List.length r1), (0:Int), (List.replicate 256 0), (List.length r1), r1, (List.replicate 256 0), ()) fun y3 => (
        some (y3.2.1, (0:Int))))
theorem p_ref15_Unpack_eq (N : Nat) (x : Ds [.int .i64, .sl (.int .u8)]) : funL p_ref15_Unpack_E p_ref15_Unpack_H (p_ref15_Unpack_l6_L N) N Go.Proofs.Try.f87 p_ref15_Unpack_c [.int .i64, .sl (.int .u8)] [.xs (.int .i32) 256, .int .i64] x = p_ref15_Unpack N x := by kernel_rfl
theorem p_ref15_Unpack_Eok (he_ref01_Bits : SigOk Go.Proofs.Try.prog 77 ⟨[.sl (.int .u8)], [.sl .bool], g_ref01_Bits⟩) : p_ref15_Unpack_E.Ok Go.Proofs.Try.prog := AE.of_ok (all_cons ty2_ok (all_cons ty4_ok (all_cons ty21_ok (all_cons ty23_ok (all_cons ty39_ok (all_cons ty77_ok all_nil)))))) (all_cons ⟨he_ref01_Bits, enters_ref01_Bits⟩ all_nil)
theorem p_ref15_Unpack_ok (he_ref01_Bits : SigOk Go.Proofs.Try.prog 77 ⟨[.sl (.int .u8)], [.sl .bool], g_ref01_Bits⟩) {g : Ds [.int .i64, .sl (.int .u8)] → Option (Rs [.xs (.int .i32) 256, .int .i64])} (hg : ∀ x r, g x = some r → ∃ N, p_ref15_Unpack N x = some r) : SigOk Go.Proofs.Try.prog 87 ⟨[.int .i64, .sl (.int .u8)], [.xs (.int .i32) 256, .int .i64], g⟩ :=
  fun_of (E := p_ref15_Unpack_E) (H := p_ref15_Unpack_H) (L := fun N => p_ref15_Unpack_l6_L N) (c := p_ref15_Unpack_c) (ks := p_ref15_Unpack_ks) (rs := p_ref15_Unpack_rs) (F := p_ref15_Unpack) (p_ref15_Unpack_Eok he_ref01_Bits) mix Go.Proofs.Try.func87 (by kernel_rfl) (fun N => p_ref15_Unpack_l6_ok N) p_ref15_Unpack_eq hg

/-! livery/dring.UnpackFrom$1 -/
noncomputable def p_dring_UnpackFrom_1_E : AE := AE.of [(21, ty21)] []
noncomputable def p_dring_UnpackFrom_1_H : Hints := [(3000000, [3])]
noncomputable def p_dring_UnpackFrom_1_c : Code := (Go.Proofs.Try.f82).body.getD .skip
abbrev p_dring_UnpackFrom_1_ks : List Kd := [.int .i32, .rp (.int .i32)]
abbrev p_dring_UnpackFrom_1_rs : List Kd := [.int .i32]
noncomputable def p_dring_UnpackFrom_1 (N : Nat) (x : Int × Int × Unit) : Option (Int) :=
  some (IntKind.i32.wrap ((List.getD [x.2.1] 0 0) - x.1))
theorem p_dring_UnpackFrom_1_eq (N : Nat) (x : Ds [.int .i32, .rp (.int .i32)]) : funL p_dring_UnpackFrom_1_E p_dring_UnpackFrom_1_H (LT.nil) N Go.Proofs.Try.f82 p_dring_UnpackFrom_1_c [.int .i32, .rp (.int .i32)] [.int .i32] x = p_dring_UnpackFrom_1 N x := by kernel_rfl
theorem p_dring_UnpackFrom_1_Eok : p_dring_UnpackFrom_1_E.Ok Go.Proofs.Try.prog := AE.of_ok (all_cons ty21_ok all_nil) all_nil
theorem p_dring_UnpackFrom_1_ok {g : Ds [.int .i32, .rp (.int .i32)] → Option (Rs [.int .i32])} (hg : ∀ x r, g x = some r → ∃ N, p_dring_UnpackFrom_1 N x = some r) : SigOk Go.Proofs.Try.prog 82 ⟨[.int .i32, .rp (.int .i32)], [.int .i32], g⟩ :=
  fun_of (E := p_dring_UnpackFrom_1_E) (H := p_dring_UnpackFrom_1_H) (L := fun N => LT.nil) (c := p_dring_UnpackFrom_1_c) (ks := p_dring_UnpackFrom_1_ks) (rs := p_dring_UnpackFrom_1_rs) (F := p_dring_UnpackFrom_1) (p_dring_UnpackFrom_1_Eok) mix Go.Proofs.Try.func82 (by kernel_rfl) (fun N => OkAll.nil) p_dring_UnpackFrom_1_eq hg

/-! livery/dring.each -/
noncomputable def p_dring_each__dring_UnpackFrom_1_E : AE := AE.of [(21, ty21), (23, ty23)] [(82, ⟨[.int .i32, .rp (.int .i32)], [.int .i32], g_dring_UnpackFrom_1⟩)]
noncomputable def p_dring_each__dring_UnpackFrom_1_H : Hints := [(2, [1, 2, 4, 7, 8]), (2000000, [2, 4]), (2000001, [1, 2, 4, 7, 8]), (3000000, [4])]
noncomputable def p_dring_each__dring_UnpackFrom_1_c : Code := (Go.Proofs.Try.f57).body.getD .skip
noncomputable def p_dring_each__dring_UnpackFrom_1_l2_S : Shape where
  h := { tmps := [.any, .sc (.clo 82 0 0), .sc (.ptr 1 0 false), .any, .sc (.ptr 2 0 false), .any, .any, .agg [.xs (.int .i32) (some 256)], .sc (.int .i64), .any, .any, .any, .any, .any, .any, .any, .any, .any, .any], mem := [.live [.xs (.int .i32) (some 1)] (.ro), .live [.xs (.int .i32) (some 256)] (.own), .live [.xs (.int .i32) (some 256)] (.own)] }
  ks := [.xs, .int, .xs, .xs, .xs]
  st := fun x => { tmps := [.one .any, .one (.sc (.clo 82 0 0)), .one (.sc (.ptr 1 0 none)), .one .any, .one (.sc (.ptr 2 0 none)), .one .any, .one .any, .one (.agg [.xs (.int .i32) 256 x.1]), .one (.sc (.int .i64 x.2.1)), .one .any, .one .any, .one .any, .one .any, .one .any, .one .any, .one .any, .one .any, .one .any, .one .any], mem := [.live { segs := [.xs (.int .i32) 1 x.2.2.1], own := .ro }, .live { segs := [.xs (.int .i32) 256 x.2.2.2.1], own := .own }, .live { segs := [.xs (.int .i32) 256 x.2.2.2.2.1], own := .own }] }
noncomputable def p_dring_each__dring_UnpackFrom_1_l2_F (N : Nat) (β : Type) (x : (List Int × Int × List Int × List Int × List Int × Unit)) (kn : (List Int × Int × List Int × List Int × List Int × Unit) → Option β) (ke : ((List Int × List Int × Unit)) → Option β) : Option β :=
  if (x.2.1 < (256:Int)) then
    if 0 ≤ x.2.1 then (
    if x.2.1 < 256 then (
    if (x.2.1.toNat) < 256 then (
    (g_dring_UnpackFrom_1 ((List.getD x.1 (x.2.1.toNat) 0), (List.getD x.2.2.1 0 0), ())).bind fun r1 => (
    if 0 ≤ x.2.1 then (
    if x.2.1 < 256 then (
    if (x.2.1.toNat) < 256 then (
    kn (x.1, (IntKind.i64.wrap (x.2.1 + (1:Int))), x.2.2.1, (List.set x.2.2.2.1 (x.2.1.toNat) r1), x.2.2.2.2.1, ())) else none) else none) else none)) else none) else none) else none
  else
    ke (x.2.2.2.1, x.2.2.2.2.1, ())
noncomputable def p_dring_each__dring_UnpackFrom_1_l2_go : Go' ((List Int × List Int × Unit)) := fun y K => K (.exit 0) { tmps := [.one .any, .one .any, .one (.sc (.ptr 0 0 none)), .one .any, .one (.sc (.ptr 1 0 none)), .one .any, .one .any, .one .any, .one .any, .one .any, .one .any, .one .any, .one .any, .one .any, .one .any, .one .any, .one .any, .one .any, .one .any], mem := [.live { segs := [.xs (.int .i32) 256 y.1], own := .own }, .live { segs := [.xs (.int .i32) 256 y.2.1], own := .own }] }
noncomputable def p_dring_each__dring_UnpackFrom_1_l2_L (N : Nat) : LT := upd (LT.nil) 2 (loopE p_dring_each__dring_UnpackFrom_1_l2_S N (p_dring_each__dring_UnpackFrom_1_l2_F N) p_dring_each__dring_UnpackFrom_1_l2_go)
theorem p_dring_each__dring_UnpackFrom_1_l2_ok (N : Nat) : OkAll p_dring_each__dring_UnpackFrom_1_E p_dring_each__dring_UnpackFrom_1_H N (p_dring_each__dring_UnpackFrom_1_l2_L N) (subs p_dring_each__dring_UnpackFrom_1_c) :=
  addLoop (c := theLoop 2 p_dring_each__dring_UnpackFrom_1_c) (OkAll.nil) (by kernel_rfl) (fun x => by kernel_rfl) (fun β x kn ke => by kernel_rfl)
abbrev p_dring_each__dring_UnpackFrom_1_ks : List Kd := [.xs (.int .i32) 256, .fcl 82 .i32]
abbrev p_dring_each__dring_UnpackFrom_1_rs : List Kd := [.xs (.int .i32) 256]
noncomputable def p_dring_each__dring_UnpackFrom_1 (N : Nat) (x : List Int × Int × Unit) : Option (List Int) :=
  iter (p_dring_each__dring_UnpackFrom_1_l2_F N) N (x.1, (0:Int), [x.2.1], x.1, (List.replicate 256 0), ()) fun y2 => (
  some y2.1)
theorem p_dring_each__dring_UnpackFrom_1_eq (N : Nat) (x : Ds [.xs (.int .i32) 256, .fcl 82 .i32]) : funL p_dring_each__dring_UnpackFrom_1_E p_dring_each__dring_UnpackFrom_1_H (p_dring_each__dring_UnpackFrom_1_l2_L N) N Go.Proofs.Try.f57 p_dring_each__dring_UnpackFrom_1_c [.xs (.int .i32) 256, .fcl 82 .i32] [.xs (.int .i32) 256] x = p_dring_each__dring_UnpackFrom_1 N x := by kernel_rfl
theorem p_dring_each__dring_UnpackFrom_1_Eok (he_dring_UnpackFrom_1 : SigOk Go.Proofs.Try.prog 82 ⟨[.int .i32, .rp (.int .i32)], [.int .i32], g_dring_UnpackFrom_1⟩) : p_dring_each__dring_UnpackFrom_1_E.Ok Go.Proofs.Try.prog := AE.of_ok (all_cons ty21_ok (all_cons ty23_ok all_nil)) (all_cons ⟨he_dring_UnpackFrom_1, enters_dring_UnpackFrom_1⟩ all_nil)
theorem p_dring_each__dring_UnpackFrom_1_ok (he_dring_UnpackFrom_1 : SigOk Go.Proofs.Try.prog 82 ⟨[.int .i32, .rp (.int .i32)], [.int .i32], g_dring_UnpackFrom_1⟩) {g : Ds [.xs (.int .i32) 256, .fcl 82 .i32] → Option (Rs [.xs (.int .i32) 256])} (hg : ∀ x r, g x = some r → ∃ N, p_dring_each__dring_UnpackFrom_1 N x = some r) : SigOk Go.Proofs.Try.prog 57 ⟨[.xs (.int .i32) 256, .fcl 82 .i32], [.xs (.int .i32) 256], g⟩ :=
  fun_of (E := p_dring_each__dring_UnpackFrom_1_E) (H := p_dring_each__dring_UnpackFrom_1_H) (L := fun N => p_dring_each__dring_UnpackFrom_1_l2_L N) (c := p_dring_each__dring_UnpackFrom_1_c) (ks := p_dring_each__dring_UnpackFrom_1_ks) (rs := p_dring_each__dring_UnpackFrom_1_rs) (F := p_dring_each__dring_UnpackFrom_1) (p_dring_each__dring_UnpackFrom_1_Eok he_dring_UnpackFrom_1) mix Go.Proofs.Try.func57 (by kernel_rfl) (fun N => p_dring_each__dring_UnpackFrom_1_l2_ok N) p_dring_each__dring_UnpackFrom_1_eq hg

/-! livery/dring.UnpackFrom -/
noncomputable def p_dring_UnpackFrom_E : AE := AE.of [(21, ty21), (23, ty23)] [(81, ⟨[.int .i64, .sl (.int .u8)], [.xs (.int .i32) 256, .int .i64], g_dring_Unpack⟩), (57, ⟨[.xs (.int .i32) 256, .fcl 82 .i32], [.xs (.int .i32) 256], g_dring_each__dring_UnpackFrom_1⟩)]
noncomputable def p_dring_UnpackFrom_H : Hints := [(3000000, [6, 7])]
noncomputable def p_dring_UnpackFrom_c : Code := (Go.Proofs.Try.f71).body.getD .skip
abbrev p_dring_UnpackFrom_ks : List Kd := [.int .i32, .int .i64, .sl (.int .u8)]
abbrev p_dring_UnpackFrom_rs : List Kd := [.xs (.int .i32) 256, .int .i64]
noncomputable def p_dring_UnpackFrom (N : Nat) (x : Int × Int × List Int × Unit) : Option (List Int × Int) :=
  (g_dring_Unpack (x.2.1, x.2.2.1, ())).bind fun r1 => (
  if (r1.2 ≠ (0:Int)) then
    some ((List.replicate 256 0), (1:Int))
  else
    if (x.1 < (0:Int)) then
      some ((List.replicate 256 0), (1:Int))
    else
      if (x.1 ≥ (8380417:Int)) then
        some ((List.replicate 256 0), (1:Int))
      else
        (g_dring_each__dring_UnpackFrom_1 (r1.1, (List.getD (x.1 :: []) 0 0), ())).bind fun r2 => (
        some (r2, (0:Int))))
theorem p_dring_UnpackFrom_eq (N : Nat) (x : Ds [.int .i32, .int .i64, .sl (.int .u8)]) : funL p_dring_UnpackFrom_E p_dring_UnpackFrom_H (LT.nil) N Go.Proofs.Try.f71 p_dring_UnpackFrom_c [.int .i32, .int .i64, .sl (.int .u8)] [.xs (.int .i32) 256, .int .i64] x = p_dring_UnpackFrom N x := by kernel_rfl
theorem p_dring_UnpackFrom_Eok (he_dring_Unpack : SigOk Go.Proofs.Try.prog 81 ⟨[.int .i64, .sl (.int .u8)], [.xs (.int .i32) 256, .int .i64], g_dring_Unpack⟩) (he_dring_each__dring_UnpackFrom_1 : SigOk Go.Proofs.Try.prog 57 ⟨[.xs (.int .i32) 256, .fcl 82 .i32], [.xs (.int .i32) 256], g_dring_each__dring_UnpackFrom_1⟩) : p_dring_UnpackFrom_E.Ok Go.Proofs.Try.prog := AE.of_ok (all_cons ty21_ok (all_cons ty23_ok all_nil)) (all_cons ⟨he_dring_Unpack, enters_dring_Unpack⟩ (all_cons ⟨he_dring_each__dring_UnpackFrom_1, enters_dring_each⟩ all_nil))
theorem p_dring_UnpackFrom_ok (he_dring_Unpack : SigOk Go.Proofs.Try.prog 81 ⟨[.int .i64, .sl (.int .u8)], [.xs (.int .i32) 256, .int .i64], g_dring_Unpack⟩) (he_dring_each__dring_UnpackFrom_1 : SigOk Go.Proofs.Try.prog 57 ⟨[.xs (.int .i32) 256, .fcl 82 .i32], [.xs (.int .i32) 256], g_dring_each__dring_UnpackFrom_1⟩) {g : Ds [.int .i32, .int .i64, .sl (.int .u8)] → Option (Rs [.xs (.int .i32) 256, .int .i64])} (hg : ∀ x r, g x = some r → ∃ N, p_dring_UnpackFrom N x = some r) : SigOk Go.Proofs.Try.prog 71 ⟨[.int .i32, .int .i64, .sl (.int .u8)], [.xs (.int .i32) 256, .int .i64], g⟩ :=
  fun_of (E := p_dring_UnpackFrom_E) (H := p_dring_UnpackFrom_H) (L := fun N => LT.nil) (c := p_dring_UnpackFrom_c) (ks := p_dring_UnpackFrom_ks) (rs := p_dring_UnpackFrom_rs) (F := p_dring_UnpackFrom) (p_dring_UnpackFrom_Eok he_dring_Unpack he_dring_each__dring_UnpackFrom_1) mix Go.Proofs.Try.func71 (by kernel_rfl) (fun N => OkAll.nil) p_dring_UnpackFrom_eq hg

/-! livery/liveryref15.UnpackFrom -/
noncomputable def p_ref15_UnpackFrom_E : AE := AE.of [(21, ty21), (23, ty23)] [(87, ⟨[.int .i64, .sl (.int .u8)], [.xs (.int .i32) 256, .int .i64], g_ref15_Unpack⟩)]
noncomputable def p_ref15_UnpackFrom_H : Hints := [(5, [0, 6, 8, 28]), (2000000, [6, 8]), (2000001, [0, 6, 8, 28]), (3000000, [6, 7])]
noncomputable def p_ref15_UnpackFrom_c : Code := (Go.Proofs.Try.f75).body.getD .skip
noncomputable def p_ref15_UnpackFrom_l5_S : Shape where
  h := { tmps := [.sc (.int .i32), .any, .any, .any, .any, .any, .sc (.ptr 0 0 false), .any, .sc (.ptr 1 0 false), .any, .any, .any, .any, .any, .any, .any, .any, .any, .any, .any, .any, .any, .any, .any, .any, .any, .any, .any, .sc (.int .i64), .any, .any, .any, .any, .any, .any, .any, .any, .any, .any, .any], mem := [.live [.xs (.int .i32) (some 256)] (.own), .live [.xs (.int .i32) (some 256)] (.own)] }
  ks := [.int, .int, .xs, .xs]
  st := fun x => { tmps := [.one (.sc (.int .i32 x.1)), .one .any, .one .any, .one .any, .one .any, .one .any, .one (.sc (.ptr 0 0 none)), .one .any, .one (.sc (.ptr 1 0 none)), .one .any, .one .any, .one .any, .one .any, .one .any, .one .any, .one .any, .one .any, .one .any, .one .any, .one .any, .one .any, .one .any, .one .any, .one .any, .one .any, .one .any, .one .any, .one .any, .one (.sc (.int .i64 x.2.1)), .one .any, .one .any, .one .any, .one .any, .one .any, .one .any, .one .any, .one .any, .one .any, .one .any, .one .any], mem := [.live { segs := [.xs (.int .i32) 256 x.2.2.1], own := .own }, .live { segs := [.xs (.int .i32) 256 x.2.2.2.1], own := .own }] }
noncomputable def p_ref15_UnpackFrom_l5_F (N : Nat) (β : Type) (x : (Int × Int × List Int × List Int × Unit)) (kn : (Int × Int × List Int × List Int × Unit) → Option β) (ke : ((List Int × List Int × Unit)) → Option β) : Option β :=
  if (x.2.1 < (256:Int)) then
    if 0 ≤ x.2.1 then (
    if x.2.1 < 256 then (
    if (x.2.1.toNat) < 256 then (
    if 0 ≤ x.2.1 then (
    if x.2.1 < 256 then (
    if (x.2.1.toNat) < 256 then (
    kn (x.1, (IntKind.i64.wrap (x.2.1 + (1:Int))), x.2.2.1, (List.set x.2.2.2.1 (x.2.1.toNat) (IntKind.i32.wrap (x.1 - (List.getD x.2.2.2.1 (x.2.1.toNat) 0)))), ())) else none) else none) else none) else none) else none) else none
  else
    ke (x.2.2.1, x.2.2.2.1, ())
noncomputable def p_ref15_UnpackFrom_l5_go : Go' ((List Int × List Int × Unit)) := fun y K => K (.exit 0) { tmps := [.one .any, .one .any, .one .any, .one .any, .one .any, .one .any, .one (.sc (.ptr 0 0 none)), .one .any, .one (.sc (.ptr 1 0 none)), .one .any, .one .any, .one .any, .one .any, .one .any, .one .any, .one .any, .one .any, .one .any, .one .any, .one .any, .one .any, .one .any, .one .any, .one .any, .one .any, .one .any, .one .any, .one .any, .one .any, .one .any, .one .any, .one .any, .one .any, .one .any, .one .any, .one .any, .one .any, .one .any, .one .any, .one .any], mem := [.live { segs := [.xs (.int .i32) 256 y.1], own := .own }, .live { segs := [.xs (.int .i32) 256 y.2.1], own := .own }] }
noncomputable def p_ref15_UnpackFrom_l5_L (N : Nat) : LT := upd (LT.nil) 5 (loopE p_ref15_UnpackFrom_l5_S N (p_ref15_UnpackFrom_l5_F N) p_ref15_UnpackFrom_l5_go)
theorem p_ref15_UnpackFrom_l5_ok (N : Nat) : OkAll p_ref15_UnpackFrom_E p_ref15_UnpackFrom_H N (p_ref15_UnpackFrom_l5_L N) (subs p_ref15_UnpackFrom_c) :=
  addLoop (c := theLoop 5 p_ref15_UnpackFrom_c) (OkAll.nil) (by kernel_rfl) (fun x => by kernel_rfl) (fun β x kn ke => by kernel_rfl)
abbrev p_ref15_UnpackFrom_ks : List Kd := [.int .i32, .int .i64, .sl (.int .u8)]
abbrev p_ref15_UnpackFrom_rs : List Kd := [.xs (.int .i32) 256, .int .i64]
noncomputable def p_ref15_UnpackFrom (N : Nat) (x : Int × Int × List Int × Unit) : Option (List Int × Int) :=
  (g_ref15_Unpack (x.2.1, x.2.2.1, ())).bind fun r1 => (
  if (r1.2 ≠ (0:Int)) then
    some ((List.replicate 256 0), (1:Int))
  else
    if (x.1 < (0:Int)) then
      some ((List.replicate 256 0), (1:Int))
    else
      if (x.1 ≥ (8380417:Int)) then
        some ((List.replicate 256 0), (1:Int))
      else
        iter (p_ref15_UnpackFrom_l5_F N) N (x.1, (0:Int), (List.replicate 256 0), r1.1, ()) fun y2 => (
        some (y2.2.1, (0:Int))))
theorem p_ref15_UnpackFrom_eq (N : Nat) (x : Ds [.int .i32, .int .i64, .sl (.int .u8)]) : funL p_ref15_UnpackFrom_E p_ref15_UnpackFrom_H (p_ref15_UnpackFrom_l5_L N) N Go.Proofs.Try.f75 p_ref15_UnpackFrom_c [.int .i32, .int .i64, .sl (.int .u8)] [.xs (.int .i32) 256, .int .i64] x = p_ref15_UnpackFrom N x := by kernel_rfl
theorem p_ref15_UnpackFrom_Eok (he_ref15_Unpack : SigOk Go.Proofs.Try.prog 87 ⟨[.int .i64, .sl (.int .u8)], [.xs (.int .i32) 256, .int .i64], g_ref15_Unpack⟩) : p_ref15_UnpackFrom_E.Ok Go.Proofs.Try.prog := AE.of_ok (all_cons ty21_ok (all_cons ty23_ok all_nil)) (all_cons ⟨he_ref15_Unpack, enters_ref15_Unpack⟩ all_nil)
theorem p_ref15_UnpackFrom_ok (he_ref15_Unpack : SigOk Go.Proofs.Try.prog 87 ⟨[.int .i64, .sl (.int .u8)], [.xs (.int .i32) 256, .int .i64], g_ref15_Unpack⟩) {g : Ds [.int .i32, .int .i64, .sl (.int .u8)] → Option (Rs [.xs (.int .i32) 256, .int .i64])} (hg : ∀ x r, g x = some r → ∃ N, p_ref15_UnpackFrom N x = some r) : SigOk Go.Proofs.Try.prog 75 ⟨[.int .i32, .int .i64, .sl (.int .u8)], [.xs (.int .i32) 256, .int .i64], g⟩ :=
  fun_of (E := p_ref15_UnpackFrom_E) (H := p_ref15_UnpackFrom_H) (L := fun N => p_ref15_UnpackFrom_l5_L N) (c := p_ref15_UnpackFrom_c) (ks := p_ref15_UnpackFrom_ks) (rs := p_ref15_UnpackFrom_rs) (F := p_ref15_UnpackFrom) (p_ref15_UnpackFrom_Eok he_ref15_Unpack) mix Go.Proofs.Try.func75 (by kernel_rfl) (fun N => p_ref15_UnpackFrom_l5_ok N) p_ref15_UnpackFrom_eq hg

/-! livery/dring.Mask -/
noncomputable def p_dring_Mask_E : AE := AE.of [(21, ty21), (23, ty23), (39, ty39), (80, ty80)] [(69, ⟨[.int .i64, .int .i64, .sls (.int .u8)], [.sl (.int .u8), .int .i64], g_keccak_Shake⟩), (71, ⟨[.int .i32, .int .i64, .sl (.int .u8)], [.xs (.int .i32) 256, .int .i64], g_dring_UnpackFrom⟩)]
noncomputable def p_dring_Mask_H : Hints := [(3000000, [4, 5])]
noncomputable def p_dring_Mask_c : Code := (Go.Proofs.Try.f49).body.getD .skip
abbrev p_dring_Mask_ks : List Kd := [.int .i64, .sl (.int .u8)]
abbrev p_dring_Mask_rs : List Kd := [.xs (.int .i32) 256, .int .i64]
noncomputable def p_dring_Mask (N : Nat) (x : Int × List Int × Unit) : Option (List Int × Int) :=
  if (x.1 ≠ (18:Int)) then
    if (x.1 ≠ (20:Int)) then
      some ((List.replicate 256 0), (1:Int))
    else
      if ((((List.length x.2.1) : Nat) : Int) ≠ (66:Int)) then
        some ((List.replicate 256 0), (1:Int))
      else
        (g_keccak_Shake ((256:Int), (IntKind.i64.wrap ((32:Int) * x.1)), [x.2.1], ())).bind fun r1 => (
        if (r1.2 ≠ (0:Int)) then
          some ((List.replicate 256 0), r1.2)
        else
          if (IntKind.i64.wrap (x.1 - (1:Int))) < 0 then none else (
          (g_dring_UnpackFrom ((ishl IntKind.i32 (1:Int) (IntKind.i64.wrap (x.1 - (1:Int)))), x.1, r1.1, ())).bind fun r2 => (
          some (r2.1, r2.2))))
  else
    if ((((List.length x.2.1) : Nat) : Int) ≠ (66:Int)) then
      some ((List.replicate 256 0), (1:Int))
    else
      (g_keccak_Shake ((256:Int), (IntKind.i64.wrap ((32:Int) * x.1)), [x.2.1], ())).bind fun r3 => (
      if (r3.2 ≠ (0:Int)) then
        some ((List.replicate 256 0), r3.2)
      else
        if (IntKind.i64.wrap (x.1 - (1:Int))) < 0 then none else (
        (g_dring_UnpackFrom ((ishl IntKind.i32 (1:Int) (IntKind.i64.wrap (x.1 - (1:Int)))), x.1, r3.1, ())).bind fun r4 => (
        some (r4.1, r4.2))))
theorem p_dring_Mask_eq (N : Nat) (x : Ds [.int .i64, .sl (.int .u8)]) : funL p_dring_Mask_E p_dring_Mask_H (LT.nil) N Go.Proofs.Try.f49 p_dring_Mask_c [.int .i64, .sl (.int .u8)] [.xs (.int .i32) 256, .int .i64] x = p_dring_Mask N x := by kernel_rfl
theorem p_dring_Mask_Eok (he_keccak_Shake : SigOk Go.Proofs.Try.prog 69 ⟨[.int .i64, .int .i64, .sls (.int .u8)], [.sl (.int .u8), .int .i64], g_keccak_Shake⟩) (he_dring_UnpackFrom : SigOk Go.Proofs.Try.prog 71 ⟨[.int .i32, .int .i64, .sl (.int .u8)], [.xs (.int .i32) 256, .int .i64], g_dring_UnpackFrom⟩) : p_dring_Mask_E.Ok Go.Proofs.Try.prog := AE.of_ok (all_cons ty21_ok (all_cons ty23_ok (all_cons ty39_ok (all_cons ty80_ok all_nil)))) (all_cons ⟨he_keccak_Shake, enters_keccak_Shake⟩ (all_cons ⟨he_dring_UnpackFrom, enters_dring_UnpackFrom⟩ all_nil))
theorem p_dring_Mask_ok (he_keccak_Shake : SigOk Go.Proofs.Try.prog 69 ⟨[.int .i64, .int .i64, .sls (.int .u8)], [.sl (.int .u8), .int .i64], g_keccak_Shake⟩) (he_dring_UnpackFrom : SigOk Go.Proofs.Try.prog 71 ⟨[.int .i32, .int .i64, .sl (.int .u8)], [.xs (.int .i32) 256, .int .i64], g_dring_UnpackFrom⟩) {g : Ds [.int .i64, .sl (.int .u8)] → Option (Rs [.xs (.int .i32) 256, .int .i64])} (hg : ∀ x r, g x = some r → ∃ N, p_dring_Mask N x = some r) : SigOk Go.Proofs.Try.prog 49 ⟨[.int .i64, .sl (.int .u8)], [.xs (.int .i32) 256, .int .i64], g⟩ :=
  fun_of (E := p_dring_Mask_E) (H := p_dring_Mask_H) (L := fun N => LT.nil) (c := p_dring_Mask_c) (ks := p_dring_Mask_ks) (rs := p_dring_Mask_rs) (F := p_dring_Mask) (p_dring_Mask_Eok he_keccak_Shake he_dring_UnpackFrom) mix Go.Proofs.Try.func49 (by kernel_rfl) (fun N => OkAll.nil) p_dring_Mask_eq hg

/-! livery/liveryref15.Mask -/
noncomputable def p_ref15_Mask_E : AE := AE.of [(2, ty2), (21, ty21), (23, ty23), (39, ty39)] [(76, ⟨[.int .i64], [.int .i64], g_ref15_width⟩), (74, ⟨[.int .i64, .int .i64, .sl (.int .u8)], [.sl (.int .u8)], g_ref03_Shake⟩), (75, ⟨[.int .i32, .int .i64, .sl (.int .u8)], [.xs (.int .i32) 256, .int .i64], g_ref15_UnpackFrom⟩)]
noncomputable def p_ref15_Mask_H : Hints := [(3000000, [4, 5])]
noncomputable def p_ref15_Mask_c : Code := (Go.Proofs.Try.f53).body.getD .skip
abbrev p_ref15_Mask_ks : List Kd := [.int .i64, .sl (.int .u8)]
abbrev p_ref15_Mask_rs : List Kd := [.xs (.int .i32) 256, .int .i64]
noncomputable def p_ref15_Mask (N : Nat) (x : Int × List Int × Unit) : Option (List Int × Int) :=
  if (x.1 ≠ (18:Int)) then
    if (x.1 ≠ (20:Int)) then
      some ((List.replicate 256 0), (1:Int))
    else
      if ((((List.length x.2.1) : Nat) : Int) ≠ (66:Int)) then
        some ((List.replicate 256 0), (1:Int))
      else
        (g_ref15_width ((IntKind.i64.wrap (x.1 - (1:Int))), ())).bind fun r1 => (
        (g_ref03_Shake ((256:Int), (IntKind.i64.wrap ((32:Int) * x.1)), x.2.1, ())).bind fun r2 => (
        (g_ref15_UnpackFrom ((IntKind.i32.wrap r1), x.1, r2, ())).bind fun r3 => (
        some (r3.1, r3.2))))
  else
    if ((((List.length x.2.1) : Nat) : Int) ≠ (66:Int)) then
      some ((List.replicate 256 0), (1:Int))
    else
      (g_ref15_width ((IntKind.i64.wrap (x.1 - (1:Int))), ())).bind fun r4 => (
      (g_ref03_Shake ((256:Int), (IntKind.i64.wrap ((32:Int) * x.1)), x.2.1, ())).bind fun r5 => (
      (g_ref15_UnpackFrom ((IntKind.i32.wrap r4), x.1, r5, ())).bind fun r6 => (
      some (r6.1, r6.2))))
theorem p_ref15_Mask_eq (N : Nat) (x : Ds [.int .i64, .sl (.int .u8)]) : funL p_ref15_Mask_E p_ref15_Mask_H (LT.nil) N Go.Proofs.Try.f53 p_ref15_Mask_c [.int .i64, .sl (.int .u8)] [.xs (.int .i32) 256, .int .i64] x = p_ref15_Mask N x := by kernel_rfl
theorem p_ref15_Mask_Eok (he_ref15_width : SigOk Go.Proofs.Try.prog 76 ⟨[.int .i64], [.int .i64], g_ref15_width⟩) (he_ref03_Shake : SigOk Go.Proofs.Try.prog 74 ⟨[.int .i64, .int .i64, .sl (.int .u8)], [.sl (.int .u8)], g_ref03_Shake⟩) (he_ref15_UnpackFrom : SigOk Go.Proofs.Try.prog 75 ⟨[.int .i32, .int .i64, .sl (.int .u8)], [.xs (.int .i32) 256, .int .i64], g_ref15_UnpackFrom⟩) : p_ref15_Mask_E.Ok Go.Proofs.Try.prog := AE.of_ok (all_cons ty2_ok (all_cons ty21_ok (all_cons ty23_ok (all_cons ty39_ok all_nil)))) (all_cons ⟨he_ref15_width, enters_ref15_width⟩ (all_cons ⟨he_ref03_Shake, enters_ref03_Shake⟩ (all_cons ⟨he_ref15_UnpackFrom, enters_ref15_UnpackFrom⟩ all_nil)))
theorem p_ref15_Mask_ok (he_ref15_width : SigOk Go.Proofs.Try.prog 76 ⟨[.int .i64], [.int .i64], g_ref15_width⟩) (he_ref03_Shake : SigOk Go.Proofs.Try.prog 74 ⟨[.int .i64, .int .i64, .sl (.int .u8)], [.sl (.int .u8)], g_ref03_Shake⟩) (he_ref15_UnpackFrom : SigOk Go.Proofs.Try.prog 75 ⟨[.int .i32, .int .i64, .sl (.int .u8)], [.xs (.int .i32) 256, .int .i64], g_ref15_UnpackFrom⟩) {g : Ds [.int .i64, .sl (.int .u8)] → Option (Rs [.xs (.int .i32) 256, .int .i64])} (hg : ∀ x r, g x = some r → ∃ N, p_ref15_Mask N x = some r) : SigOk Go.Proofs.Try.prog 53 ⟨[.int .i64, .sl (.int .u8)], [.xs (.int .i32) 256, .int .i64], g⟩ :=
  fun_of (E := p_ref15_Mask_E) (H := p_ref15_Mask_H) (L := fun N => LT.nil) (c := p_ref15_Mask_c) (ks := p_ref15_Mask_ks) (rs := p_ref15_Mask_rs) (F := p_ref15_Mask) (p_ref15_Mask_Eok he_ref15_width he_ref03_Shake he_ref15_UnpackFrom) mix Go.Proofs.Try.func53 (by kernel_rfl) (fun N => OkAll.nil) p_ref15_Mask_eq hg
end Go.Ax.TryP
/-! ### Outputs of both rates; rows that fill up -/
set_option linter.unusedVariables false
namespace Go.Ax.TryP
theorem outB_b (rate : Nat) (a : List Int) (p : Nat) : 0 ≤ outB rate a p ∧ outB rate a p ≤ 255 := by
  unfold outB byteOf
  simp [IntKind.wrap, IntKind.signed, IntKind.bits]; omega
theorem shk_b (l : List Int) (p : Nat) : 0 ≤ shk l p ∧ shk l p ≤ 255 := outB_b 168 _ p
theorem shb_b (l : List Int) (p : Nat) : 0 ≤ shb l p ∧ shb l p ≤ 255 := outB_b 136 _ p
theorem spS_len (rate : Nat) (e : Int) (l : List Int) (n : Nat) : (spongeS rate e l n).length = n := by simp [spongeS]
theorem spS_b (rate : Nat) (e : Int) (l : List Int) (n : Nat) : ∀ z ∈ spongeS rate e l n, 0 ≤ z ∧ z ≤ 255 := by
  intro z hz
  obtain ⟨p, _, rfl⟩ := List.mem_map.1 hz
  exact outB_b rate _ p
theorem spS_get {rate : Nat} {e : Int} {l : List Int} {n p : Nat} (h : p < n) : (spongeS rate e l n).getD p 0 = outB rate (absorb rate e (z25, 0) l) p := by
  unfold spongeS
  rw [List.getD_eq_getElem?_getD, List.getElem?_map, List.getElem?_range h]
  rfl
def padL (L : List Int) : List Int := L ++ List.replicate (256 - L.length) 0
theorem padL_set {L : List Int} {c : Int} (h : L.length < 256) : (padL L).set L.length c = padL (L ++ [c]) := by
  unfold padL
  rw [List.set_append_right _ _ (Nat.le_refl _), Nat.sub_self, List.append_assoc]
  obtain ⟨k, hk⟩ : ∃ k, 256 - L.length = k + 1 := ⟨255 - L.length, by omega⟩
  rw [hk, List.replicate_succ, List.set_cons_zero, List.length_append, List.length_singleton, show 256 - (L.length + 1) = k by omega]
  rfl
theorem padL_full {L : List Int} (h : L.length = 256) : padL L = L := by simp [padL, h]
theorem take256 {L : List Int} (h : L.length ≤ 256) : L.take 256 = L := List.take_of_length_le h
theorem acc_pre (f : Nat → List Int) (t : Nat) : ∀ d : Nat, ∃ r, accF f (t + d) = accF f t ++ r
  | 0 => ⟨[], by simp⟩
  | d + 1 => by
    obtain ⟨r, h⟩ := acc_pre f t d
    exact ⟨r ++ f (t + d), by rw [← Nat.add_assoc, accF, h, List.append_assoc]⟩
theorem acc_full {f : Nat → List Int} {t u : Nat} (h : t ≤ u) (h2 : 256 ≤ (accF f t).length) : 256 ≤ (accF f u).length ∧ (accF f u).take 256 = (accF f t).take 256 := by
  obtain ⟨r, e⟩ := acc_pre f t (u - t)
  rw [show t + (u - t) = u by omega] at e
  rw [e]
  exact ⟨by simp; omega, by rw [List.take_append_of_le_length h2]⟩
theorem stOf_ok {rate : Nat} (hr : 0 < rate) {a : List Int} (ha : u64s 25 a) (p : Nat) : u64s 25 (stOf rate a p).1 ∧ (stOf rate a p).2 ≤ rate := by
  refine ⟨perms_u ha _, ?_⟩
  unfold stOf
  have e := Nat.div_add_mod (p - 1) rate
  have e1 := Nat.mod_lt (p - 1) hr
  rw [Nat.mul_comm] at e
  show p - (p - 1) / rate * rate ≤ rate
  omega
theorem at_Read {rate : Nat} (hr : 8 ≤ rate ∧ rate ≤ 200) {A : List Int} {P n : Nat} (hA : u64s 25 A) (hn : n ≤ 1048576) {c : Int} (hc : 0 ≤ c ∧ c ≤ 1000000) : g_keccak_Xof_Read ((true, (stOf rate A P).1, (rate : Int), ((stOf rate A P).2 : Int), c, ()), (n : Int), ())
    = some ((List.range n).map (fun k => outB rate A (P + k)), 0, (true, (stOf rate A (P + n)).1, (rate : Int), ((stOf rate A (P + n)).2 : Int), c + n, ())) := by
  obtain ⟨h1, h2⟩ := stOf_ok (rate := rate) (by omega) hA P
  have := Spec_at (ks := p_keccak_Xof_Read_ks) (rs := p_keccak_Xof_Read_rs) (x := ((true, (stOf rate A P).1, (rate : Int), ((stOf rate A P).2 : Int), c, ()), (n : Int), ()))
    (Q := fun x => x.1.1 = true ∧ 0 ≤ x.2.1 ∧ x.2.1 ≤ 1048576 ∧ okRate x.1.2.2.1 ∧ 0 ≤ x.1.2.2.2.1 ∧ x.1.2.2.2.1 ≤ x.1.2.2.1)
    (f := fun x => ((List.range x.2.1.toNat).map (fun k => outB x.1.2.2.1.toNat x.1.2.1 (x.1.2.2.2.1.toNat + k)), 0,
    (true, (stOf x.1.2.2.1.toNat x.1.2.1 (x.1.2.2.2.1.toNat + x.2.1.toNat)).1, x.1.2.2.1, ((stOf x.1.2.2.1.toNat x.1.2.1 (x.1.2.2.2.1.toNat + x.2.1.toNat)).2 : Int), IntKind.i64.wrap (x.1.2.2.2.2.1 + x.2.1), ())))
    ⟨wf_xf.2 ⟨h1, by omega, by omega, by omega⟩, (okInt_i64 (n := (n : Int))).2 (by omega), trivial⟩ ⟨rfl, by show (0 : Int) ≤ n; omega, by show (n : Int) ≤ 1048576; omega, ⟨by show (8 : Int) ≤ rate; omega, by show (rate : Int) ≤ 200; omega⟩, by show (0 : Int) ≤ ((stOf rate A P).2 : Int); omega, by show ((stOf rate A P).2 : Int) ≤ rate; omega⟩
  refine Eq.trans this ?_
  have e : ∀ k, outB rate (stOf rate A P).1 ((stOf rate A P).2 + k) = outB rate A (P + k) := outB_st (by omega) A P
  show some ((List.range (n : Int).toNat).map (fun k => outB (rate : Int).toNat (stOf rate A P).1 (((stOf rate A P).2 : Int).toNat + k)), (0 : Int), (true, (stOf (rate : Int).toNat (stOf rate A P).1 (((stOf rate A P).2 : Int).toNat + (n : Int).toNat)).1, (rate : Int), ((stOf (rate : Int).toNat (stOf rate A P).1 (((stOf rate A P).2 : Int).toNat + (n : Int).toNat)).2 : Int), IntKind.i64.wrap (c + n), ())) = _
  simp only [Int.toNat_natCast, e]
  rw [wrap_i64 (by omega) (by omega)]
  by_cases hn0 : n = 0
  · subst hn0
    simp only [Nat.add_zero]
    have : stOf rate (stOf rate A P).1 (stOf rate A P).2 = stOf rate A P := by
      have h := Nat.div_eq_of_lt (show (stOf rate A P).2 - 1 < rate by omega)
      show (perms (((stOf rate A P).2 - 1) / rate) (stOf rate A P).1, (stOf rate A P).2 - ((stOf rate A P).2 - 1) / rate * rate) = _
      rw [h]
      simp [perms]
    rw [this]
  · rw [stOf_st (rate := rate) (by omega) A P n (by omega)]
theorem q_keccak_Shake256 : ∀ x r, g_keccak_Shake256 x = some r → ∃ N, p_keccak_Shake256 N x = some r := by
  refine Spec_of (ks := p_keccak_Shake256_ks) (rs := p_keccak_Shake256_rs) fun x hw hq => ⟨0, ?_⟩
  obtain ⟨(parts : List (List Int)), u⟩ := x
  have hp : partsOk parts := wf_parts.1 hw.1
  unfold p_keccak_Shake256
  refine (congrArg (fun o => Option.bind o _) (at_started (rate := 136) (by omega) hp)).trans ?_
  rw [Option.bind_some]
  rfl
theorem at_Shake256 {parts : List (List Int)} (hl : partsOk parts) : g_keccak_Shake256 (parts, ()) = some (true, absorb 136 31 (z25, 0) parts.flatten, 136, 0, 0, ()) :=
  Spec_at (ks := p_keccak_Shake256_ks) (rs := p_keccak_Shake256_rs) (x := (parts, ())) ⟨wf_parts.2 hl, trivial⟩ trivial
theorem absorb_uu (rate : Nat) (hr : 0 < rate) (e : Int) (l : List Int) : u64s 25 (absorb rate e (z25, 0) l) := absorb_u ⟨z25_u, by show 0 < rate; omega⟩ _ _
theorem at_Read0 {rate : Nat} (hr : 8 ≤ rate ∧ rate ≤ 200) {l : List Int} {n : Nat} (hn : n ≤ 1048576) : ∃ y, g_keccak_Xof_Read ((true, absorb rate 31 (z25, 0) l, (rate : Int), 0, 0, ()), (n : Int), ()) = some (spongeS rate 31 l n, 0, y) := by
  have h := at_Read hr (P := 0) (n := n) (absorb_uu rate (by omega) 31 l) hn (c := 0) (by omega)
  have hst : stOf rate (absorb rate 31 (z25, 0) l) 0 = (absorb rate 31 (z25, 0) l, 0) := stOf_small _ (by omega) (by omega)
  rw [hst] at h
  refine ⟨(true, (stOf rate (absorb rate 31 (z25, 0) l) (0 + n)).1, (rate : Int), ((stOf rate (absorb rate 31 (z25, 0) l) (0 + n)).2 : Int), 0 + (n : Int), ()), h.trans ?_⟩
  simp only [Nat.zero_add]
  rfl
theorem q_keccak_Shake : ∀ x r, g_keccak_Shake x = some r → ∃ N, p_keccak_Shake N x = some r := by
  refine Spec_of (ks := p_keccak_Shake_ks) (rs := p_keccak_Shake_rs) fun x hw hq => ⟨0, ?_⟩
  obtain ⟨(b : Int), (n : Int), (parts : List (List Int)), u⟩ := x
  have hp : partsOk parts := wf_parts.1 hw.2.2.1
  obtain ⟨hb, hn0, hn1⟩ : (b = 128 ∨ b = 256) ∧ 0 ≤ n ∧ n ≤ 1048576 := hq
  obtain ⟨m, rfl⟩ : ∃ m : Nat, n = m := ⟨n.toNat, by omega⟩
  unfold p_keccak_Shake
  dsimp only
  rcases hb with rfl | rfl
  · obtain ⟨y, e⟩ := at_Read0 (rate := 168) (by omega) (l := parts.flatten) (n := m) (by omega)
    rw [if_neg (by simp), at_may (by omega), Option.bind_some, if_neg (by simp), if_pos rfl, at_Shake128 hp, Option.bind_some]
    refine (congrArg (fun o => Option.bind o _) e).trans ?_
    rfl
  · obtain ⟨y, e⟩ := at_Read0 (rate := 136) (by omega) (l := parts.flatten) (n := m) (by omega)
    rw [if_pos (by omega), if_neg (by simp), at_may (by omega), Option.bind_some, if_neg (by simp), if_neg (by omega), at_Shake256 hp, Option.bind_some]
    refine (congrArg (fun o => Option.bind o _) e).trans ?_
    rfl
theorem at_Shake {b : Int} (hb : b = 128 ∨ b = 256) {n : Nat} (hn : n ≤ 1048576) {parts : List (List Int)} (hl : partsOk parts) : g_keccak_Shake (b, (n : Int), parts, ()) = some (spongeS (if b = 128 then 168 else 136) 31 parts.flatten n, 0) := by
  have := Spec_at (ks := p_keccak_Shake_ks) (rs := p_keccak_Shake_rs) (x := (b, (n : Int), parts, ())) (Q := fun x => (x.1 = 128 ∨ x.1 = 256) ∧ 0 ≤ x.2.1 ∧ x.2.1 ≤ 1048576) (f := fun x => (spongeS (if x.1 = 128 then 168 else 136) 31 x.2.2.1.flatten x.2.1.toNat, 0))
    ⟨okInt_i64.2 (by show _ ≤ b ∧ b ≤ _; omega), (okInt_i64 (n := (n : Int))).2 (by omega), wf_parts.2 hl, trivial⟩ ⟨hb, by show (0 : Int) ≤ n; omega, by show (n : Int) ≤ 1048576; omega⟩
  exact this
theorem at_Shake' {b : Int} (hb : b = 128 ∨ b = 256) {l : List Int} {n : Nat} (hl : l.length ≤ 4294967000 ∧ ∀ z ∈ l, 0 ≤ z ∧ z ≤ 255) (hn : n ≤ 1048576) : g_ref03_Shake (b, (n : Int), l, ()) = some (spongeS (if b = 128 then 168 else 136) 31 l n) := by
  have hM : 4294967296 ≤ maxLen := by decide
  have := Spec_at (ks := p_ref03_Shake_ks) (rs := p_ref03_Shake_rs) (x := (b, (n : Int), l, ())) (Q := fun x => 0 ≤ x.2.1 ∧ x.2.1 ≤ 1048576 ∧ x.2.2.1.length ≤ 4294967000) (f := fun x => spongeS (if x.1 = 128 then 168 else 136) 31 x.2.2.1 x.2.1.toNat)
    ⟨okInt_i64.2 (by show _ ≤ b ∧ b ≤ _; omega), (okInt_i64 (n := (n : Int))).2 (by omega), wf_bytes.2 ⟨by show l.length ≤ maxLen; omega, hl.2⟩, trivial⟩ ⟨by show (0 : Int) ≤ n; omega, by show (n : Int) ≤ 1048576; omega, hl.1⟩
  exact this
theorem one_part {l : List Int} (hl : l.length ≤ 4294967000 ∧ ∀ z ∈ l, 0 ≤ z ∧ z ≤ 255) : partsOk [l] := by
  have hM : 4294967296 ≤ maxLen := by decide
  exact ⟨by simp only [List.length_cons, List.length_nil]; omega, fun zs hz => by rw [List.mem_singleton.1 hz]; exact ⟨by omega, hl.2⟩⟩
theorem flat1 (l : List Int) : [l].flatten = l := by simp
end Go.Ax.TryP
/-! ### Rejection, below 8380417: both programs -/
set_option linter.unusedVariables false
namespace Go.Ax.TryP
theorem wrap_nat31 {n : Nat} (h : n < 2 ^ 31) : IntKind.i32.wrap (n : Int) = n := wrap_i32 (by omega) (by omega)
theorem ior_i32 {m n : Nat} (hm : m < 2 ^ 31) (hn : n < 2 ^ 31) : ior .i32 (m : Int) (n : Int) = ((m ||| n : Nat) : Int) := by
  unfold ior
  rw [BitVec.toNat_or, wmask_nat (k := .i32) (Nat.lt_of_lt_of_le hm (by decide)), wmask_nat (k := .i32) (Nat.lt_of_lt_of_le hn (by decide))]
  exact wrap_nat31 (Nat.or_lt_two_pow hm hn)
theorem ishl_i32 {m s : Nat} (hs : s ≤ 32) (h : m * 2 ^ s < 2 ^ 31) : ishl .i32 (m : Int) (s : Int) = ((m * 2 ^ s : Nat) : Int) := by
  unfold ishl
  rw [Int.toNat_natCast, Nat.min_eq_left (show s ≤ IntKind.i32.bits from hs)]
  have : (m : Int) * 2 ^ s = ((m * 2 ^ s : Nat) : Int) := by simp
  rw [this]
  exact wrap_nat31 h
theorem cand3 {x y z : Int} (hx : 0 ≤ x ∧ x ≤ 255) (hy : 0 ≤ y ∧ y ≤ 255) (hz : 0 ≤ z ∧ z ≤ 255) :
    ior IntKind.i32 (ior IntKind.i32 (IntKind.i32.wrap x) (ishl IntKind.i32 (IntKind.i32.wrap y) (8:Int))) (ishl IntKind.i32 (IntKind.i32.wrap (iand IntKind.u8 z (127:Int))) (16:Int)) = x + 256 * y + 65536 * (z % 128) := by
  obtain ⟨x, rfl⟩ : ∃ m : Nat, x = m := ⟨x.toNat, by omega⟩
  obtain ⟨y, rfl⟩ : ∃ m : Nat, y = m := ⟨y.toNat, by omega⟩
  obtain ⟨z, rfl⟩ : ∃ m : Nat, z = m := ⟨z.toNat, by omega⟩
  have e : iand .u8 (z : Int) 127 = ((z % 128 : Nat) : Int) := by
    rw [show (127 : Int) = ((127 : Nat) : Int) from rfl, iand_nat rfl (by simp [IntKind.bits]; omega) (by decide), show (127 : Nat) = 2 ^ 7 - 1 from rfl, Nat.and_two_pow_sub_one_eq_mod]
  have h1 : x ||| y * 2 ^ 8 = x + y * 2 ^ 8 := or_add (by omega)
  have h2 : (x + y * 2 ^ 8) ||| (z % 128) * 2 ^ 16 = x + y * 2 ^ 8 + (z % 128) * 2 ^ 16 := or_add (by omega)
  rw [e, wrap_nat31 (n := x) (by omega), wrap_nat31 (n := y) (by omega), wrap_nat31 (n := z % 128) (by omega), show (8 : Int) = ((8 : Nat) : Int) from rfl, show (16 : Int) = ((16 : Nat) : Int) from rfl, ishl_i32 (by omega) (by omega), ishl_i32 (by omega) (by omega), ior_i32 (by omega) (by omega), h1, ior_i32 (by omega) (by omega), h2]
  omega
theorem candD_b (s : List Int) (t : Nat) : 0 ≤ candD s t ∧ candD s t ≤ 8388607 := by
  have b0 := shk_b s (3 * t)
  have b1 := shk_b s (3 * t + 1)
  have b2 := shk_b s (3 * t + 2)
  unfold candD; omega
theorem oneD_yes {s : List Int} {t : Nat} (h : candD s t < 8380417) : accF (oneD s) (t + 1) = accF (oneD s) t ++ [candD s t] := by show _ ++ oneD s t = _; rw [oneD, if_pos h]
theorem oneD_no {s : List Int} {t : Nat} (h : ¬ candD s t < 8380417) : accF (oneD s) (t + 1) = accF (oneD s) t := by show _ ++ oneD s t = _; rw [oneD, if_neg h, List.append_nil]
abbrev rA (s : List Int) : List Int := absorb 168 31 (z25, 0) s
def rjX (s : List Int) (t : Nat) : Int × Int × List Int × List Int × Bool × List Int × Int × Int × Int × Unit :=
  (((accF (oneD s) t).length : Int), (t : Int), z256, padL (accF (oneD s) t), true, (stOf 168 (rA s) (3 * t)).1, 168, ((stOf 168 (rA s) (3 * t)).2 : Int), 3 * (t : Int), ())
abbrev Orj := (List Int × Unit) ⊕ (Int × List Int × Unit)
theorem at_Read3 {s : List Int} {t : Nat} (ht : t < 1024) : g_keccak_Xof_Read ((true, (stOf 168 (rA s) (3 * t)).1, 168, ((stOf 168 (rA s) (3 * t)).2 : Int), 3 * (t : Int), ()), 3, ())
    = some ([shk s (3 * t), shk s (3 * t + 1), shk s (3 * t + 2)], 0, (true, (stOf 168 (rA s) (3 * (t + 1))).1, 168, ((stOf 168 (rA s) (3 * (t + 1))).2 : Int), 3 * ((t + 1 : Nat) : Int), ())) := by
  have h := at_Read (rate := 168) (A := rA s) (P := 3 * t) (n := 3) (by omega) (absorb_uu 168 (by omega) 31 s) (by omega) (c := 3 * (t : Int)) (by omega)
  rw [show 3 * (t + 1) = 3 * t + 3 by omega, show (3 : Int) * ((t + 1 : Nat) : Int) = 3 * (t : Int) + ((3 : Nat) : Int) by omega]
  exact h
theorem rj_step {s : List Int} {t : Nat} (ht : t < 1024) (hL : (accF (oneD s) t).length < 256) {N : Nat} {β : Type} (kn : _ → Option β) (ke : Orj → Option β) :
    p_dring_RejNtt_l7_F N β (rjX s t) kn ke = if (accF (oneD s) (t + 1)).length < 256 then kn (rjX s (t + 1)) else ke (.inr (0, (accF (oneD s) (t + 1)).take 256, ())) := by
  have b0 := shk_b s (3 * t)
  have b1 := shk_b s (3 * t + 1)
  have b2 := shk_b s (3 * t + 2)
  have wt : IntKind.i64.wrap ((t : Int) + 1) = ((t + 1 : Nat) : Int) := by rw [wrap_i64 (by omega) (by omega)]; omega
  unfold p_dring_RejNtt_l7_F rjX
  dsimp only
  rw [if_pos (by omega), at_Read3 ht, Option.bind_some]
  dsimp only
  rw [if_neg (by omega), if_pos (by omega), if_pos (by simp), if_pos (by simp), if_pos (by omega), if_pos (by simp), if_pos (by simp), if_pos (by omega), if_pos (by simp), if_pos (by simp)]
  have e : ior IntKind.i32 (ior IntKind.i32 (IntKind.i32.wrap (List.getD [shk s (3 * t), shk s (3 * t + 1), shk s (3 * t + 2)] 0 0)) (ishl IntKind.i32 (IntKind.i32.wrap (List.getD [shk s (3 * t), shk s (3 * t + 1), shk s (3 * t + 2)] 1 0)) (8:Int))) (ishl IntKind.i32 (IntKind.i32.wrap (iand IntKind.u8 (List.getD [shk s (3 * t), shk s (3 * t + 1), shk s (3 * t + 2)] 2 0) (127:Int))) (16:Int)) = candD s t := cand3 b0 b1 b2
  rw [e, wt]
  by_cases h : candD s t < 8380417
  · rw [if_neg (by omega), if_pos (by omega), if_pos (by omega), if_pos (by omega), Int.toNat_natCast, padL_set hL, oneD_yes h, List.length_append, List.length_singleton, wrap_i64 (by omega) (by omega)]
    by_cases g : (accF (oneD s) t).length + 1 < 256
    · rw [if_neg (by omega), if_pos g]
      rfl
    · rw [if_pos (by omega), if_neg g]
      have gl : (accF (oneD s) t ++ [candD s t]).length = 256 := by rw [List.length_append, List.length_singleton]; omega
      rw [padL_full gl, take256 (by omega)]
  · rw [if_pos (by omega), oneD_no h, if_pos hL]
    rfl
theorem rj_all {s : List Int} {N : Nat} {β : Type} (k : Orj → Option β) : ∀ j t : Nat, t + j = 1024 → (accF (oneD s) t).length < 256 → ∀ n, j < n →
    iter (p_dring_RejNtt_l7_F N) n (rjX s t) k = if (accF (oneD s) 1024).length < 256 then k (.inl (z256, ())) else k (.inr (0, (accF (oneD s) 1024).take 256, ()))
  | 0, t, h, hL, n, hn => by
    obtain ⟨n, rfl⟩ : ∃ m, n = m + 1 := ⟨n - 1, by omega⟩
    have h : t = 1024 := by omega
    subst h
    rw [if_pos hL]
    simp only [iter]
    unfold p_dring_RejNtt_l7_F rjX
    dsimp only
    rw [if_neg (by omega)]
  | j + 1, t, h, hL, n, hn => by
    obtain ⟨n, rfl⟩ : ∃ m, n = m + 1 := ⟨n - 1, by omega⟩
    simp only [iter]
    rw [rj_step (by omega) hL]
    split
    · rename_i h2
      exact rj_all k j (t + 1) (by omega) h2 n (by omega)
    · rename_i h2
      obtain ⟨q1, q2⟩ := acc_full (f := oneD s) (t := t + 1) (u := 1024) (by omega) (by omega)
      rw [if_neg (by omega), q2]
theorem at_Shake128p {l : List Int} (hl : l.length ≤ 4294967000 ∧ ∀ z ∈ l, 0 ≤ z ∧ z ≤ 255) : g_keccak_Shake128 ([l], ()) = some (true, rA l, 168, 0, 0, ()) := by
  have e := at_Shake128 (one_part hl)
  rwa [flat1] at e
theorem q_dring_RejNtt : ∀ x r, g_dring_RejNtt x = some r → ∃ N, p_dring_RejNtt N x = some r := by
  refine Spec_of (ks := p_dring_RejNtt_ks) (rs := p_dring_RejNtt_rs) fun x hw hq => ⟨1025, ?_⟩
  obtain ⟨(l : List Int), u⟩ := x
  have hl := wf_bytes.1 hw.1
  unfold p_dring_RejNtt rejS
  dsimp only
  by_cases h : l.length = 34
  · rw [if_neg (by omega), if_neg (by omega)]
    rw [at_Shake128p ⟨by show l.length ≤ _; omega, hl.2⟩, Option.bind_some]
    have hst : stOf 168 (rA l) (3 * 0) = (rA l, 0) := stOf_small _ (by omega) (by omega)
    have hx : rjX l 0 = ((0 : Int), (0 : Int), z256, z256, true, rA l, 168, 0, 0, ()) := by unfold rjX; rw [hst]; rfl
    show iter (p_dring_RejNtt_l7_F 1025) 1025 ((0 : Int), (0 : Int), z256, z256, true, rA l, 168, 0, 0, ()) _ = _
    rw [← hx]
    refine (rj_all _ 1024 0 (by omega) (by show 0 < 256; omega) _ (by omega)).trans ?_
    generalize accF (oneD l) 1024 = L
    by_cases g : L.length < 256
    · rw [if_pos g, if_pos g]
    · rw [if_neg g, if_neg g]
  · rw [if_pos (by omega), if_pos h]
/-! the reference -/
abbrev Jn := Nat × Nat × Int × Int × Nat × List Int × List Int × List Int × Nat × List Int × Unit
def rnX (s : List Int) (m t : Nat) (L : List Int) : Jn :=
  (s.length, (spongeS 168 31 s m).length, (L.length : Int), (t : Int), s.length, s, z256, padL L, (spongeS 168 31 s m).length, spongeS 168 31 s m, ())
theorem rn_cand {x y z : Int} (hx : 0 ≤ x ∧ x ≤ 255) (hy : 0 ≤ y ∧ y ≤ 255) (hz : 0 ≤ z ∧ z ≤ 255) :
    IntKind.i32.wrap ((IntKind.i32.wrap ((IntKind.i32.wrap x) + (IntKind.i32.wrap ((256:Int) * (IntKind.i32.wrap y))))) + (IntKind.i32.wrap ((65536:Int) * (IntKind.i32.wrap (Int.tmod z (128:Int)))))) = x + 256 * y + 65536 * (z % 128) := by
  have e2 : Int.tmod z 128 = z % 128 := Int.tmod_eq_emod_of_nonneg hz.1
  rw [e2, wrap_i32 (x := x) (by omega) (by omega), wrap_i32 (x := y) (by omega) (by omega), wrap_i32 (x := 256 * y) (by omega) (by omega), wrap_i32 (x := x + 256 * y) (by omega) (by omega), wrap_i32 (x := z % 128) (by omega) (by omega), wrap_i32 (x := 65536 * (z % 128)) (by omega) (by omega), wrap_i32 (by omega) (by omega)]
theorem rn_step {s : List Int} (hs : s.length ≤ 4294967000 ∧ ∀ z ∈ s, 0 ≤ z ∧ z ≤ 255) {m t : Nat} (hm : 840 ≤ m ∧ m ≤ 3072) (ht : t < 1024) (hL : (accF (oneD s) t).length < 256) {N : Nat} {β : Type} (kn : _ → Option β) (ke : _ → Option β) :
    ∃ m', (840 ≤ m' ∧ m' ≤ 3072) ∧ p_ref15_RejNtt_l7_F N β (rnX s m t (accF (oneD s) t)) kn ke = kn (rnX s m' (t + 1) (accF (oneD s) (t + 1))) := by
  have b0 := shk_b s (3 * t)
  have b1 := shk_b s (3 * t + 1)
  have b2 := shk_b s (3 * t + 2)
  have w3 : IntKind.i64.wrap (3 * (t : Int)) = ((3 * t : Nat) : Int) := by rw [wrap_i64 (by omega) (by omega)]; omega
  have w4 : IntKind.i64.wrap (((3 * t : Nat) : Int) + 1) = ((3 * t + 1 : Nat) : Int) := by rw [wrap_i64 (by omega) (by omega)]; omega
  have w5 : IntKind.i64.wrap (((3 * t : Nat) : Int) + 2) = ((3 * t + 2 : Nat) : Int) := by rw [wrap_i64 (by omega) (by omega)]; omega
  have w6 : IntKind.i64.wrap (((3 * t : Nat) : Int) + 3) = ((3 * t + 3 : Nat) : Int) := by rw [wrap_i64 (by omega) (by omega)]; omega
  have wt : IntKind.i64.wrap ((t : Int) + 1) = ((t + 1 : Nat) : Int) := by rw [wrap_i64 (by omega) (by omega)]; omega
  have g0 : ∀ {m p : Nat}, p < m → (spongeS 168 31 s m).getD p 0 = shk s p := fun h => spS_get h
  unfold p_ref15_RejNtt_l7_F rnX
  dsimp only
  rw [if_pos (by omega), if_pos (by omega)]
  simp only [w3, w4, w5, w6, spS_len, Int.toNat_natCast]
  by_cases h : m < 3 * t + 3
  · refine ⟨3072, by omega, ?_⟩
    rw [if_pos (by omega)]
    refine (congrArg (fun o => Option.bind o _) (at_Shake' (b := 128) (n := 3072) (.inl rfl) hs (by omega))).trans ?_
    rw [Option.bind_some, if_pos rfl]
    simp only [spS_len]
    rw [if_pos (by omega), if_pos (by omega), if_pos (by omega), if_pos (by omega), if_pos (by omega), if_pos (by omega), if_pos (by omega), if_pos (by omega), if_pos (by omega)]
    rw [g0 (m := 3072) (p := 3 * t) (by omega), g0 (m := 3072) (p := 3 * t + 1) (by omega), g0 (m := 3072) (p := 3 * t + 2) (by omega), rn_cand b0 b1 b2]
    show (if candD s t < 8380417 then _ else _) = _
    by_cases hc : candD s t < 8380417
    · rw [if_pos hc, if_pos (by omega), if_pos (by omega), if_pos (by omega), show List.set _ _ (shk s (3 * t) + 256 * shk s (3 * t + 1) + 65536 * (shk s (3 * t + 2) % 128)) = padL (accF (oneD s) t ++ [candD s t]) from padL_set hL, oneD_yes hc, wt, wrap_i64 (by omega) (by omega), List.length_append, List.length_singleton]
      rfl
    · rw [if_neg hc, oneD_no hc, wt]
  · refine ⟨m, hm, ?_⟩
    rw [if_neg (by omega)]
    rw [if_pos (by omega), if_pos (by omega), if_pos (by omega), if_pos (by omega), if_pos (by omega), if_pos (by omega), if_pos (by omega), if_pos (by omega), if_pos (by omega)]
    rw [g0 (m := m) (p := 3 * t) (by omega), g0 (m := m) (p := 3 * t + 1) (by omega), g0 (m := m) (p := 3 * t + 2) (by omega), rn_cand b0 b1 b2]
    show (if candD s t < 8380417 then _ else _) = _
    by_cases hc : candD s t < 8380417
    · rw [if_pos hc, if_pos (by omega), if_pos (by omega), if_pos (by omega), show List.set _ _ (shk s (3 * t) + 256 * shk s (3 * t + 1) + 65536 * (shk s (3 * t + 2) % 128)) = padL (accF (oneD s) t ++ [candD s t]) from padL_set hL, oneD_yes hc, wt, wrap_i64 (by omega) (by omega), List.length_append, List.length_singleton]
      rfl
    · rw [if_neg hc, oneD_no hc, wt]
theorem one_le (s : List Int) (t : Nat) : (accF (oneD s) (t + 1)).length ≤ (accF (oneD s) t).length + 1 := by
  by_cases h : candD s t < 8380417
  · rw [oneD_yes h, List.length_append, List.length_singleton]; omega
  · rw [oneD_no h]; omega
theorem rn_all {s : List Int} (hs : s.length ≤ 4294967000 ∧ ∀ z ∈ s, 0 ≤ z ∧ z ≤ 255) {N : Nat} {β : Type} (k : (Int × List Int × List Int × Unit) → Option β) : ∀ j t m : Nat, t + j = 1024 → (840 ≤ m ∧ m ≤ 3072) → (accF (oneD s) t).length ≤ 256 → ∀ n, j < n →
    iter (p_ref15_RejNtt_l7_F N) n (rnX s m t (accF (oneD s) t)) k = k ((((accF (oneD s) 1024).take 256).length : Int), z256, padL ((accF (oneD s) 1024).take 256), ())
  | j, t, m, h, hm, hL, n, hn => by
    obtain ⟨n, rfl⟩ : ∃ m, n = m + 1 := ⟨n - 1, by omega⟩
    simp only [iter]
    by_cases hd : t < 1024 ∧ (accF (oneD s) t).length < 256
    · obtain ⟨j, rfl⟩ : ∃ i, j = i + 1 := ⟨j - 1, by omega⟩
      obtain ⟨m', hm', e⟩ := rn_step (N := N) hs hm hd.1 hd.2 (iter (p_ref15_RejNtt_l7_F N) n · k) k
      refine e.trans ?_
      have := one_le s t
      exact rn_all hs k j (t + 1) m' (by omega) hm' (by omega) n (by omega)
    · have e : (accF (oneD s) 1024).take 256 = accF (oneD s) t := by
        by_cases h1 : t = 1024
        · rw [h1] at hL; rw [h1, take256 hL]
        · obtain ⟨q1, q2⟩ := acc_full (f := oneD s) (t := t) (u := 1024) (by omega) (by omega)
          rw [q2, take256 hL]
      rw [e]
      unfold p_ref15_RejNtt_l7_F rnX
      dsimp only
      by_cases h3 : (t : Int) < 1024
      · rw [if_pos h3, if_neg (by omega)]
      · rw [if_neg h3]
theorem q_ref15_RejNtt : ∀ x r, g_ref15_RejNtt x = some r → ∃ N, p_ref15_RejNtt N x = some r := by
  refine Spec_of (ks := p_ref15_RejNtt_ks) (rs := p_ref15_RejNtt_rs) fun x hw hq => ⟨1026, ?_⟩
  obtain ⟨(l : List Int), u⟩ := x
  have hl := wf_bytes.1 hw.1
  unfold p_ref15_RejNtt rejS
  dsimp only
  by_cases h : l.length = 34
  · rw [if_neg (by omega), if_neg (by omega)]
    have hs : l.length ≤ 4294967000 ∧ ∀ z ∈ l, 0 ≤ z ∧ z ≤ 255 := ⟨by omega, hl.2⟩
    refine (congrArg (fun o => Option.bind o _) (at_Shake' (b := 128) (n := 840) (.inl rfl) hs (by omega))).trans ?_
    rw [Option.bind_some, if_pos rfl]
    have hx : rnX l 840 0 (accF (oneD l) 0) = (l.length, (spongeS 168 31 l 840).length, (0 : Int), (0 : Int), l.length, l, List.replicate 256 0, List.replicate 256 0, (spongeS 168 31 l 840).length, spongeS 168 31 l 840, ()) := rfl
    rw [← hx]
    refine (rn_all (N := 1026) hs _ 1024 0 840 (by omega) (by omega) (by show 0 ≤ 256; omega) _ (by omega)).trans ?_
    dsimp only
    generalize accF (oneD l) 1024 = L
    by_cases g : L.length < 256
    · rw [if_pos (by rw [List.length_take]; omega), if_pos g]
    · rw [if_neg (by rw [List.length_take]; omega), if_neg g, padL_full (by rw [List.length_take]; omega)]
  · rw [if_pos (by omega), if_pos h]
end Go.Ax.TryP
/-! ### Rejection of small numbers: both programs -/
set_option linter.unusedVariables false
namespace Go.Ax.TryP
theorem q_dring_half : ∀ x r, g_dring_half x = some r → ∃ N, p_dring_half N x = some r := by
  refine Spec_of (ks := p_dring_half_ks) (rs := p_dring_half_rs) fun x hw hq => ⟨0, ?_⟩
  obtain ⟨(eta : Int), (h : Int), u⟩ := x
  have hh : 0 ≤ h ∧ h ≤ 255 := okInt_u8.1 hw.2.1
  have e2 : Int.tmod h 5 = h % 5 := Int.tmod_eq_emod_of_nonneg hh.1
  unfold p_dring_half halfS
  dsimp only
  rw [e2, wrap_i32 (x := h) (by omega) (by omega), wrap_i32 (x := h % 5) (by omega) (by omega), wrap_i32 (x := 2 - h % 5) (by omega) (by omega), wrap_i32 (x := 4 - h) (by omega) (by omega)]
  by_cases h1 : eta = 2
  · subst h1
    by_cases h3 : h < 15
    · rw [if_pos rfl, if_pos h3, if_pos ⟨rfl, h3⟩]
    · rw [if_pos rfl, if_neg h3, if_neg (by omega), if_neg (by omega), if_neg (by omega)]
  · rw [if_neg h1, if_neg (by omega : ¬(eta = 2 ∧ h < 15))]
    by_cases h2 : eta = 4
    · by_cases h3 : h < 9
      · rw [if_pos h2, if_pos h3, if_pos ⟨h2, h3⟩]
      · rw [if_pos h2, if_neg h3, if_neg (by omega)]
    · rw [if_neg h2, if_neg (by omega)]
theorem at_half {eta h : Int} (he : eta = 2 ∨ eta = 4) (hh : 0 ≤ h ∧ h ≤ 255) : g_dring_half (eta, h, ()) = some (halfS eta h) :=
  Spec_at (ks := p_dring_half_ks) (rs := p_dring_half_rs) (x := (eta, h, ())) ⟨okInt_i64.2 (by show _ ≤ eta ∧ eta ≤ _; omega), okInt_u8.2 hh, trivial⟩ trivial
/-- One number that half a byte may bring. -/
def okH (eta h : Int) : Prop := (eta = 2 ∧ h < 15) ∨ (eta = 4 ∧ h < 9)
def nmH (eta h : Int) : Int := if eta = 2 then 2 - h % 5 else 4 - h
theorem half_yes {eta h : Int} (k : okH eta h) : halfS eta h = (nmH eta h, true) := by
  unfold halfS nmH
  rcases k with ⟨rfl, k⟩ | ⟨rfl, k⟩
  · rw [if_pos ⟨rfl, k⟩, if_pos rfl]
  · rw [if_neg (by omega), if_pos ⟨rfl, k⟩, if_neg (by omega)]
theorem half_no {eta h : Int} (k : ¬ okH eta h) : halfS eta h = (0, false) := by
  unfold halfS
  unfold okH at k
  rw [if_neg (by omega), if_neg (by omega)]
theorem val_yes {eta h : Int} (k : okH eta h) : valB eta h = [nmH eta h % 8380417] := by
  unfold valB nmH
  rcases k with ⟨rfl, k⟩ | ⟨rfl, k⟩
  · rw [if_pos rfl, if_pos k, if_pos rfl]
  · rw [if_neg (by omega), if_pos k, if_neg (by omega)]
theorem val_no {eta h : Int} (he : eta = 2 ∨ eta = 4) (k : ¬ okH eta h) : valB eta h = [] := by
  unfold valB
  unfold okH at k
  rcases he with rfl | rfl
  · rw [if_pos rfl, if_neg (by omega)]
  · rw [if_neg (by omega), if_neg (by omega)]
theorem halfB_b (s : List Int) (t : Nat) : 0 ≤ halfB s t ∧ halfB s t ≤ 15 := by
  have := shb_b s (t / 2)
  unfold halfB
  split <;> omega
theorem bnd_yes {eta : Int} {s : List Int} {t : Nat} (h : okH eta (halfB s t)) : accF (bndF eta s) (t + 1) = accF (bndF eta s) t ++ [nmH eta (halfB s t) % 8380417] := by show _ ++ bndF eta s t = _; rw [bndF, val_yes h]
theorem bnd_no {eta : Int} {s : List Int} {t : Nat} (he : eta = 2 ∨ eta = 4) (h : ¬ okH eta (halfB s t)) : accF (bndF eta s) (t + 1) = accF (bndF eta s) t := by show _ ++ bndF eta s t = _; rw [bndF, val_no he h, List.append_nil]
theorem nmH_b {eta h : Int} (hh : 0 ≤ h ∧ h ≤ 15) : -11 ≤ nmH eta h ∧ nmH eta h ≤ 4 := by unfold nmH; split <;> omega
abbrev spB (s : List Int) : List Int := spongeS 136 31 s 1024
abbrev Ib := Int × Int × Nat × Int × Int × List Int × Int × List Int × List Int × Nat × List Int × Unit
abbrev Ob := (Int × List Int × Unit) ⊕ (Int × Int × Nat × Int × Int × List Int × List Int × Nat × List Int × Unit)
/-- The inner loop at half j of byte q. -/
def biX (eta : Int) (s : List Int) (q j : Nat) (cs : List Int) : Ib :=
  (eta, ((accF (bndF eta s) (2 * q + j)).length : Int), 1024, 1024, (q : Int), cs, (j : Int), z256, padL (accF (bndF eta s) (2 * q + j)), 1024, spB s, ())
theorem bi_step {eta : Int} (he : eta = 2 ∨ eta = 4) {s : List Int} {q j : Nat} (hj : j < 2) {cs : List Int} (hc : cs.getD j 0 = halfB s (2 * q + j)) (hL : (accF (bndF eta s) (2 * q + j)).length < 256) {N : Nat} {β : Type} (kn : Ib → Option β) (ke : Ob → Option β) :
    p_dring_RejBounded_l12_F N β (biX eta s q j cs) kn ke = if (accF (bndF eta s) (2 * q + j + 1)).length < 256 then kn (biX eta s q (j + 1) cs) else ke (.inl (0, (accF (bndF eta s) (2 * q + j + 1)).take 256, ())) := by
  have hb := halfB_b s (2 * q + j)
  have hn := nmH_b (eta := eta) hb
  have wj : IntKind.i64.wrap ((j : Int) + 1) = ((j + 1 : Nat) : Int) := by rw [wrap_i64 (by omega) (by omega)]; omega
  unfold p_dring_RejBounded_l12_F biX
  dsimp only
  rw [if_pos (by omega), if_pos (by omega), if_pos (by omega), if_pos (by omega), Int.toNat_natCast, hc, at_half he (by omega), Option.bind_some]
  by_cases h : okH eta (halfB s (2 * q + j))
  · rw [half_yes h, if_neg (by simp)]
    dsimp only
    rw [wrap_i64 (x := nmH _ _) (by omega) (by omega), at_below (by omega) (by omega), Option.bind_some, if_pos (by omega), if_pos (by omega), if_pos (by omega), Int.toNat_natCast, padL_set hL, bnd_yes h, List.length_append, List.length_singleton, wrap_i64 (by omega) (by omega), wj]
    by_cases g : (accF (bndF eta s) (2 * q + j)).length + 1 < 256
    · rw [if_neg (by omega), if_pos g, show 2 * q + (j + 1) = 2 * q + j + 1 by omega, bnd_yes h, List.length_append, List.length_singleton]
      rfl
    · rw [if_pos (by omega), if_neg g]
      have gl : (accF (bndF eta s) (2 * q + j) ++ [nmH eta (halfB s (2 * q + j)) % 8380417]).length = 256 := by rw [List.length_append, List.length_singleton]; omega
      rw [padL_full gl, take256 (by omega)]
  · rw [half_no h, if_pos (by simp), bnd_no he h, if_pos hL, wj, show 2 * q + (j + 1) = 2 * q + j + 1 by omega, bnd_no he h]
abbrev Jb := Int × Int × Nat × Int × Int × List Int × List Int × Nat × List Int × Unit
def boX (eta : Int) (s : List Int) (q : Nat) : Jb :=
  (eta, ((accF (bndF eta s) (2 * q)).length : Int), 1024, 1024, (q : Int), z256, padL (accF (bndF eta s) (2 * q)), 1024, spB s, ())
theorem halves {s : List Int} {q : Nat} (hq : q < 1024) :
    List.set (List.set (List.replicate 2 (0 : Int)) 0 (iand IntKind.u8 (List.getD (spB s) q 0) (15:Int))) 1 (ishr IntKind.u8 (List.getD (spB s) q 0) (4:Int)) = [halfB s (2 * q), halfB s (2 * q + 1)] := by
  have e : (spB s).getD q 0 = shb s q := spS_get hq
  have hb := shb_b s q
  rw [e]
  have e0 : halfB s (2 * q) = shb s q % 16 := by unfold halfB; rw [if_pos (by omega), show 2 * q / 2 = q by omega]
  have e1 : halfB s (2 * q + 1) = shb s q / 16 := by unfold halfB; rw [if_neg (by omega), show (2 * q + 1) / 2 = q by omega]
  rw [e0, e1]
  generalize shb s q = y at hb
  obtain ⟨y, rfl⟩ : ∃ m : Nat, y = m := ⟨y.toNat, by omega⟩
  have a : iand .u8 (y : Int) 15 = ((y % 16 : Nat) : Int) := by
    rw [show (15 : Int) = ((15 : Nat) : Int) from rfl, iand_nat rfl (by simp [IntKind.bits]; omega) (by decide), show (15 : Nat) = 2 ^ 4 - 1 from rfl, Nat.and_two_pow_sub_one_eq_mod]
  have b : ishr .u8 (y : Int) 4 = ((y / 16 : Nat) : Int) := by
    rw [show (4 : Int) = ((4 : Nat) : Int) from rfl, ishr_nat (by decide)]
  rw [a, b]
  simp
theorem bo_step {eta : Int} (he : eta = 2 ∨ eta = 4) {s : List Int} {q : Nat} (hq : q < 1024) (hL : (accF (bndF eta s) (2 * q)).length < 256) {N : Nat} {β : Type} (kn : Jb → Option β) (ke : (Int × List Int × Unit) ⊕ (List Int × Unit) → Option β) :
    p_dring_RejBounded_l9_F (N + 3) β (boX eta s q) kn ke = if (accF (bndF eta s) (2 * (q + 1))).length < 256 then kn (boX eta s (q + 1)) else ke (.inl (0, (accF (bndF eta s) (2 * (q + 1))).take 256, ())) := by
  have wq : IntKind.i64.wrap ((q : Int) + 1) = ((q + 1 : Nat) : Int) := by rw [wrap_i64 (by omega) (by omega)]; omega
  unfold p_dring_RejBounded_l9_F boX
  dsimp only
  rw [if_pos (by omega), if_pos (by omega), if_pos (by omega), if_pos (by omega), Int.toNat_natCast, halves hq]
  show iter (p_dring_RejBounded_l12_F (N + 3)) (N + 3) (biX eta s q 0 [halfB s (2 * q), halfB s (2 * q + 1)]) _ = _
  simp only [iter]
  rw [bi_step he (j := 0) (by omega) rfl hL]
  rw [show 2 * (q + 1) = 2 * q + 0 + 1 + 1 by omega]
  by_cases g : (accF (bndF eta s) (2 * q + 0 + 1)).length < 256
  · rw [if_pos g, bi_step he (j := 1) (by omega) rfl g]
    show (if (accF (bndF eta s) (2 * q + 0 + 1 + 1)).length < 256 then _ else _) = _
    by_cases g2 : (accF (bndF eta s) (2 * q + 0 + 1 + 1)).length < 256
    · rw [if_pos g2, if_pos g2]
      unfold p_dring_RejBounded_l12_F biX
      dsimp only
      rw [if_neg (by omega), wq]
    · rw [if_neg g2, if_neg g2]
  · rw [if_neg g]
    obtain ⟨q1, q2⟩ := acc_full (f := bndF eta s) (t := 2 * q + 0 + 1) (u := 2 * q + 0 + 1 + 1) (by omega) (by omega)
    rw [if_neg (by omega), q2]
theorem bo_all {eta : Int} (he : eta = 2 ∨ eta = 4) {s : List Int} {N : Nat} {β : Type} (k : (Int × List Int × Unit) ⊕ (List Int × Unit) → Option β) : ∀ j q : Nat, q + j = 1024 → (accF (bndF eta s) (2 * q)).length < 256 → ∀ n, j < n →
    iter (p_dring_RejBounded_l9_F (N + 3)) n (boX eta s q) k = if (accF (bndF eta s) 2048).length < 256 then k (.inr (z256, ())) else k (.inl (0, (accF (bndF eta s) 2048).take 256, ()))
  | 0, q, h, hL, n, hn => by
    obtain ⟨n, rfl⟩ : ∃ m, n = m + 1 := ⟨n - 1, by omega⟩
    have h : q = 1024 := by omega
    subst h
    rw [if_pos hL]
    simp only [iter]
    unfold p_dring_RejBounded_l9_F boX
    dsimp only
    rw [if_neg (by omega)]
  | j + 1, q, h, hL, n, hn => by
    obtain ⟨n, rfl⟩ : ∃ m, n = m + 1 := ⟨n - 1, by omega⟩
    simp only [iter]
    rw [bo_step he (by omega) hL]
    split
    · rename_i h2
      exact bo_all he k j (q + 1) (by omega) h2 n (by omega)
    · rename_i h2
      obtain ⟨q1, q2⟩ := acc_full (f := bndF eta s) (t := 2 * (q + 1)) (u := 2048) (by omega) (by omega)
      rw [if_neg (by omega), q2]
theorem at_Shake256p {l : List Int} {n : Nat} (hn : n ≤ 1048576) (hl : l.length ≤ 4294967000 ∧ ∀ z ∈ l, 0 ≤ z ∧ z ≤ 255) : g_keccak_Shake (256, (n : Int), [l], ()) = some (spongeS 136 31 l n, 0) := by
  have e := at_Shake (b := 256) (.inr rfl) hn (one_part hl)
  rwa [flat1, if_neg (by omega)] at e
theorem at_Shake256r {l : List Int} {n : Nat} (hn : n ≤ 1048576) (hl : l.length ≤ 4294967000 ∧ ∀ z ∈ l, 0 ≤ z ∧ z ≤ 255) : g_ref03_Shake (256, (n : Int), l, ()) = some (spongeS 136 31 l n) := by
  have e := at_Shake' (b := 256) (.inr rfl) hl hn
  rwa [if_neg (by omega)] at e
theorem q_dring_RejBounded : ∀ x r, g_dring_RejBounded x = some r → ∃ N, p_dring_RejBounded N x = some r := by
  refine Spec_of (ks := p_dring_RejBounded_ks) (rs := p_dring_RejBounded_rs) fun x hw hq => ⟨1025 + 3, ?_⟩
  obtain ⟨(eta : Int), (l : List Int), u⟩ := x
  have hl := wf_bytes.1 hw.2.1
  unfold p_dring_RejBounded bndS
  dsimp only
  have main : (eta = 2 ∨ eta = 4) → l.length = 66 → ∀ F : _ → Option (List Int × Int), (∀ y, F (.inl y) = some (y.2.1, y.1)) → (∀ y, F (.inr y) = some (z256, 130)) →
      iter (p_dring_RejBounded_l9_F (1025 + 3)) (1025 + 3) (eta, (0 : Int), (spB l).length, (((spB l).length : Nat) : Int), (0 : Int), z256, z256, (spB l).length, spB l, ()) F = some (if (accF (bndF eta l) 2048).length < 256 then (z256, 130) else ((accF (bndF eta l) 2048).take 256, 0)) := by
    intro he h F F1 F2
    rw [spS_len]
    have hx : boX eta l 0 = (eta, (0 : Int), 1024, ((1024 : Nat) : Int), (0 : Int), z256, z256, 1024, spB l, ()) := rfl
    rw [← hx]
    refine (bo_all he _ 1024 0 (by omega) (by show 0 < 256; omega) _ (by omega)).trans ?_
    generalize accF (bndF eta l) 2048 = L
    by_cases g : L.length < 256
    · rw [if_pos g, if_pos g, F2]
    · rw [if_neg g, if_neg g, F1]
  by_cases he : eta = 2 ∨ eta = 4
  · by_cases h : l.length = 66
    · rw [if_neg (by omega : ¬((eta ≠ 2 ∧ eta ≠ 4) ∨ l.length ≠ 66))]
      have e := at_Shake256p (l := l) (n := 1024) (by omega) ⟨by omega, hl.2⟩
      rcases he with h2 | h4
      · rw [if_neg (by omega), if_neg (by omega)]
        refine (congrArg (fun o => Option.bind o _) e).trans ?_
        rw [Option.bind_some, if_neg (by simp)]
        dsimp only; refine (main (.inl h2) h _ ?_ ?_) <;> intro y <;> rfl
      · rw [if_pos (by omega), if_neg (by omega), if_neg (by omega)]
        refine (congrArg (fun o => Option.bind o _) e).trans ?_
        rw [Option.bind_some, if_neg (by simp)]
        dsimp only; refine (main (.inr h4) h _ ?_ ?_) <;> intro y <;> rfl
    · rw [if_pos (show (eta ≠ 2 ∧ eta ≠ 4) ∨ l.length ≠ 66 from .inr h)]
      rcases he with h2 | h4
      · rw [if_neg (by omega), if_pos (by omega)]
      · rw [if_pos (by omega), if_neg (by omega), if_pos (by omega)]
  · rw [if_pos (by omega), if_pos (by omega), if_pos (by omega)]
end Go.Ax.TryP
/-! ### Rejection of small numbers: the reference -/
set_option linter.unusedVariables false
namespace Go.Ax.TryP
abbrev Jc := Int × Nat × Int × Int × List Int × List Int × Nat × List Int × Unit
def rbX (eta : Int) (s : List Int) (t : Nat) : Jc :=
  (eta, 1024, ((accF (bndF eta s) t).length : Int), (t : Int), z256, padL (accF (bndF eta s) t), 1024, spB s, ())
theorem rb_put {eta : Int} {s : List Int} {t : Nat} (h : okH eta (halfB s t)) (hL : (accF (bndF eta s) t).length < 256) (ht : t < 2048) :
    rbX eta s (t + 1) = (eta, 1024, IntKind.i64.wrap (((accF (bndF eta s) t).length : Int) + 1), IntKind.i64.wrap ((t : Int) + 1), z256, List.set (padL (accF (bndF eta s) t)) (accF (bndF eta s) t).length (IntKind.i32.wrap (nmH eta (halfB s t) % 8380417)), 1024, spB s, ()) := by
  rw [wrap_i64 (by omega) (by omega), wrap_i64 (by omega) (by omega), wrap_i32 (by omega) (by omega), padL_set hL]
  unfold rbX
  rw [bnd_yes h, List.length_append, List.length_singleton]
  rfl
theorem rb_not {eta : Int} (he : eta = 2 ∨ eta = 4) {s : List Int} {t : Nat} (h : ¬ okH eta (halfB s t)) (ht : t < 2048) :
    rbX eta s (t + 1) = (eta, 1024, ((accF (bndF eta s) t).length : Int), IntKind.i64.wrap ((t : Int) + 1), z256, padL (accF (bndF eta s) t), 1024, spB s, ()) := by
  rw [wrap_i64 (by omega) (by omega)]
  unfold rbX
  rw [bnd_no he h]
  rfl
theorem rb_step {eta : Int} (he : eta = 2 ∨ eta = 4) {s : List Int} {t : Nat} (ht : t < 2048) (hL : (accF (bndF eta s) t).length < 256) {N : Nat} {β : Type} (kn : _ → Option β) (ke : _ → Option β) :
    p_ref15_RejBounded_l7_F N β (rbX eta s t) kn ke = kn (rbX eta s (t + 1)) := by
  have hb := halfB_b s t
  have hs := shb_b s (t / 2)
  have hn := nmH_b (eta := eta) hb
  have w2 : IntKind.i64.wrap (Int.tdiv (t : Int) 2) = ((t / 2 : Nat) : Int) := by rw [tdiv_pos (by omega), wrap_i64 (by omega) (by omega)]; omega
  have g0 : (spB s).getD (t / 2) 0 = shb s (t / 2) := spS_get (by omega)
  have m2 : Int.tmod (t : Int) 2 = ((t % 2 : Nat) : Int) := by rw [tmod_pos (by omega)]; omega
  by_cases k : okH eta (halfB s t)
  · rw [rb_put k hL ht]
    have em := at_mod (z := nmH eta (halfB s t)) (by omega) (by omega)
    unfold p_ref15_RejBounded_l7_F rbX
    dsimp only
    simp only [w2, m2, g0, Int.toNat_natCast]
    rw [if_pos (by omega), if_pos (by omega), if_pos (by omega), if_pos (by omega), if_pos (by omega)]
    by_cases o : t % 2 = 0
    · have eh : IntKind.i64.wrap (Int.tmod (shb s (t / 2)) 16) = halfB s t := by unfold halfB; rw [if_pos o, tmod_pos hs.1, wrap_i64 (by omega) (by omega)]
      rw [if_neg (by omega), eh]
      rcases k with ⟨rfl, k⟩ | ⟨rfl, k⟩
      · have en : IntKind.i64.wrap (2 - Int.tmod (halfB s t) 5) = nmH 2 (halfB s t) := by rw [tmod_pos hb.1, wrap_i64 (by omega) (by omega)]; rfl
        rw [if_pos rfl, if_pos k, en, em, Option.bind_some, if_pos (by omega), if_pos (by omega), if_pos (by omega), if_neg (by omega)]
      · have en : IntKind.i64.wrap (4 - halfB s t) = nmH 4 (halfB s t) := by rw [wrap_i64 (by omega) (by omega)]; rfl
        rw [if_neg (by omega), if_pos rfl, if_pos k, en, em, Option.bind_some, if_pos (by omega), if_pos (by omega), if_pos (by omega)]
    · have eh : IntKind.i64.wrap (IntKind.u8.wrap (Int.tdiv (shb s (t / 2)) 16)) = halfB s t := by unfold halfB; rw [if_neg o, tdiv_pos hs.1, wrap_u8 (by omega) (by omega), wrap_i64 (by omega) (by omega)]
      rw [if_pos (by omega), eh, if_pos (by omega), if_pos (by omega), if_pos (by omega)]
      rcases k with ⟨rfl, k⟩ | ⟨rfl, k⟩
      · have en : IntKind.i64.wrap (2 - Int.tmod (halfB s t) 5) = nmH 2 (halfB s t) := by rw [tmod_pos hb.1, wrap_i64 (by omega) (by omega)]; rfl
        rw [if_pos rfl, if_pos k, en, em, Option.bind_some, if_pos (by omega), if_pos (by omega), if_pos (by omega), if_neg (by omega)]
      · have en : IntKind.i64.wrap (4 - halfB s t) = nmH 4 (halfB s t) := by rw [wrap_i64 (by omega) (by omega)]; rfl
        rw [if_neg (by omega), if_pos rfl, if_pos k, en, em, Option.bind_some, if_pos (by omega), if_pos (by omega), if_pos (by omega)]
  · rw [rb_not he k ht]
    unfold okH at k
    unfold p_ref15_RejBounded_l7_F rbX
    dsimp only
    simp only [w2, m2, g0, Int.toNat_natCast]
    rw [if_pos (by omega), if_pos (by omega), if_pos (by omega), if_pos (by omega), if_pos (by omega)]
    by_cases o : t % 2 = 0
    · have eh : IntKind.i64.wrap (Int.tmod (shb s (t / 2)) 16) = halfB s t := by unfold halfB; rw [if_pos o, tmod_pos hs.1, wrap_i64 (by omega) (by omega)]
      rw [if_neg (by omega), eh]
      rcases he with rfl | rfl
      · rw [if_pos rfl, if_neg (by omega), if_neg (by omega)]
      · rw [if_neg (by omega), if_pos rfl, if_neg (by omega)]
    · have eh : IntKind.i64.wrap (IntKind.u8.wrap (Int.tdiv (shb s (t / 2)) 16)) = halfB s t := by unfold halfB; rw [if_neg o, tdiv_pos hs.1, wrap_u8 (by omega) (by omega), wrap_i64 (by omega) (by omega)]
      rw [if_pos (by omega), eh, if_pos (by omega), if_pos (by omega), if_pos (by omega)]
      rcases he with rfl | rfl
      · rw [if_pos rfl, if_neg (by omega), if_neg (by omega)]
      · rw [if_neg (by omega), if_pos rfl, if_neg (by omega)]
theorem bnd_le (eta : Int) (he : eta = 2 ∨ eta = 4) (s : List Int) (t : Nat) : (accF (bndF eta s) (t + 1)).length ≤ (accF (bndF eta s) t).length + 1 := by
  by_cases h : okH eta (halfB s t)
  · rw [bnd_yes h, List.length_append, List.length_singleton]; omega
  · rw [bnd_no he h]; omega
theorem rb_all {eta : Int} (he : eta = 2 ∨ eta = 4) {s : List Int} {N : Nat} {β : Type} (k : (Int × List Int × List Int × Unit) → Option β) : ∀ j t : Nat, t + j = 2048 → (accF (bndF eta s) t).length ≤ 256 → ∀ n, j < n →
    iter (p_ref15_RejBounded_l7_F N) n (rbX eta s t) k = k ((((accF (bndF eta s) 2048).take 256).length : Int), z256, padL ((accF (bndF eta s) 2048).take 256), ())
  | j, t, h, hL, n, hn => by
    obtain ⟨n, rfl⟩ : ∃ m, n = m + 1 := ⟨n - 1, by omega⟩
    simp only [iter]
    by_cases hd : t < 2048 ∧ (accF (bndF eta s) t).length < 256
    · obtain ⟨j, rfl⟩ : ∃ i, j = i + 1 := ⟨j - 1, by omega⟩
      refine (rb_step (N := N) he hd.1 hd.2 _ k).trans ?_
      have := bnd_le eta he s t
      exact rb_all he k j (t + 1) (by omega) (by omega) n (by omega)
    · have e : (accF (bndF eta s) 2048).take 256 = accF (bndF eta s) t := by
        by_cases h1 : t = 2048
        · rw [h1] at hL; rw [h1, take256 hL]
        · obtain ⟨q1, q2⟩ := acc_full (f := bndF eta s) (t := t) (u := 2048) (by omega) (by omega)
          rw [q2, take256 hL]
      rw [e]
      unfold p_ref15_RejBounded_l7_F rbX
      dsimp only
      by_cases h3 : (t : Int) < 2048
      · rw [if_pos h3, if_neg (by omega)]
      · rw [if_neg h3]
theorem q_ref15_RejBounded : ∀ x r, g_ref15_RejBounded x = some r → ∃ N, p_ref15_RejBounded N x = some r := by
  refine Spec_of (ks := p_ref15_RejBounded_ks) (rs := p_ref15_RejBounded_rs) fun x hw hq => ⟨2050, ?_⟩
  obtain ⟨(eta : Int), (l : List Int), u⟩ := x
  have hl := wf_bytes.1 hw.2.1
  unfold p_ref15_RejBounded bndS
  dsimp only
  have main : (eta = 2 ∨ eta = 4) → ∀ F : _ → Option (List Int × Int), (∀ y, F y = if y.1 < 256 then some (z256, 130) else some (y.2.2.1, 0)) →
      iter (p_ref15_RejBounded_l7_F 2050) 2050 (eta, (spB l).length, (0 : Int), (0 : Int), z256, z256, (spB l).length, spB l, ()) F = some (if (accF (bndF eta l) 2048).length < 256 then (z256, 130) else ((accF (bndF eta l) 2048).take 256, 0)) := by
    intro he F F1
    rw [spS_len]
    have hx : rbX eta l 0 = (eta, 1024, (0 : Int), (0 : Int), z256, z256, 1024, spB l, ()) := rfl
    rw [← hx]
    refine (rb_all he _ 2048 0 (by omega) (by show 0 ≤ 256; omega) _ (by omega)).trans ?_
    rw [F1]
    dsimp only
    generalize accF (bndF eta l) 2048 = L
    by_cases g : L.length < 256
    · rw [if_pos (by rw [List.length_take]; omega), if_pos g]
    · rw [if_neg (by rw [List.length_take]; omega), if_neg g, padL_full (by rw [List.length_take]; omega)]
  by_cases he : eta = 2 ∨ eta = 4
  · by_cases h : l.length = 66
    · rw [if_neg (by omega : ¬((eta ≠ 2 ∧ eta ≠ 4) ∨ l.length ≠ 66))]
      have e := at_Shake256r (l := l) (n := 1024) (by omega) ⟨by omega, hl.2⟩
      rcases he with h2 | h4
      · rw [if_neg (by omega), if_neg (by omega)]
        refine (congrArg (fun o => Option.bind o _) e).trans ?_
        rw [Option.bind_some]
        refine main (.inl h2) _ ?_
        intro y; rfl
      · rw [if_pos (by omega), if_neg (by omega), if_neg (by omega)]
        refine (congrArg (fun o => Option.bind o _) e).trans ?_
        rw [Option.bind_some]
        refine main (.inr h4) _ ?_
        intro y; rfl
    · rw [if_pos (show (eta ≠ 2 ∧ eta ≠ 4) ∨ l.length ≠ 66 from .inr h)]
      rcases he with h2 | h4
      · rw [if_neg (by omega), if_pos (by omega)]
      · rw [if_pos (by omega), if_neg (by omega), if_pos (by omega)]
  · rw [if_pos (by omega), if_pos (by omega), if_pos (by omega)]
end Go.Ax.TryP
/-! ### Bits of bytes; numbers out of bits -/
set_option linter.unusedVariables false
namespace Go.Ax.TryP
theorem wf_b1 {b : List Int} : wfAll [.sl (.int .u8)] (b, ()) ↔ b.length ≤ maxLen ∧ ∀ z ∈ b, 0 ≤ z ∧ z ≤ 255 := by simp only [wfAll, wf_bytes, and_true]
theorem wf_b2 {a b : List Int} : wfAll [.sl (.int .u8), .sl (.int .u8)] (a, b, ()) ↔ (a.length ≤ maxLen ∧ ∀ z ∈ a, 0 ≤ z ∧ z ≤ 255) ∧ b.length ≤ maxLen ∧ ∀ z ∈ b, 0 ≤ z ∧ z ≤ 255 := by simp only [wfAll, wf_bytes, and_true]
theorem byte_at {b : List Int} (h : ∀ z ∈ b, 0 ≤ z ∧ z ≤ 255) (i : Nat) : 0 ≤ b.getD i 0 ∧ b.getD i 0 ≤ 255 := by
  by_cases hi : i < b.length
  · exact h _ (getD_mem hi)
  · rw [getD_out (by omega)]; omega
theorem one_set (v : Int) : (List.replicate 1 (0 : Int)).set 0 v = [v] := rfl
theorem bool_at {l : List Int} (h : ∀ z ∈ l, z = 0 ∨ z = 1) (i : Nat) : l.getD i 0 = 0 ∨ l.getD i 0 = 1 := by
  by_cases hi : i < l.length
  · exact h _ (getD_mem hi)
  · rw [getD_out (by omega)]; exact .inl rfl

theorem q_ref01_Bits : ∀ x r, g_ref01_Bits x = some r → ∃ N, p_ref01_Bits N x = some r := by
  refine Spec_of (ks := p_ref01_Bits_ks) (rs := p_ref01_Bits_rs) fun x hw hq => ⟨x.1.length + 10, ?_⟩
  obtain ⟨(b : List Int), u⟩ := x
  have hq : b.length ≤ 1000000 := hq
  obtain ⟨_, hb⟩ := wf_b1.1 hw
  unfold p_ref01_Bits
  refine (iter_run (s := fun i => (8 * i, b.length, (b.length : Int), (i : Int), 8 * i, (List.range (8 * i)).map (bitAt b), b.length, b, ())) (y := (8 * b.length, 8 * b.length, bitsOf b, ())) b.length ?_ ?_ _ (by simp only; omega)).trans ?_
  · intro i hi kn
    have g1 : (i : Int) < (b.length : Int) := by omega
    have g0 : (0 : Int) ≤ i := by omega
    have hz := byte_at hb i
    unfold p_ref01_Bits_l3_F
    simp only [g1, g0, hi, if_true, Int.toNat_natCast]
    rw [wrap_i64 (x := b.getD i 0) (by omega) (by omega)]
    have e0 : b.getD i 0 / 2 ^ 0 = b.getD i 0 := by rw [Int.pow_zero, Int.ediv_one]
    rw [← e0]
    refine (iter_run (s := fun r => (8 * i + r, b.getD i 0 / 2 ^ r, b.length, (b.length : Int), (i : Int), (r : Int), 8 * i + r, (List.range (8 * i + r)).map (bitAt b), b.length, b, ())) (y := (8 * i + 8, b.length, (b.length : Int), (i : Int), 8 * i + 8, (List.range (8 * i + 8)).map (bitAt b), b.length, b, ())) 8 ?_ ?_ (b.length + 10) (by omega)).trans ?_
    · intro r hr kn
      have hp : (0 : Int) < 2 ^ r := pow2_pos r
      have h1 : 0 ≤ b.getD i 0 / 2 ^ r := Int.ediv_nonneg hz.1 (Int.le_of_lt hp)
      have h2 : b.getD i 0 / 2 ^ r ≤ b.getD i 0 := Int.ediv_le_self _ hz.1
      have e1 : b.getD i 0 / 2 ^ r / 2 = b.getD i 0 / 2 ^ (r + 1) := by rw [Int.ediv_ediv_of_nonneg (Int.le_of_lt hp), Int.pow_succ]
      have e2 : (if b.getD i 0 / 2 ^ r % 2 = 1 then (1 : Int) else 0) = bitAt b (8 * i + r) := by
        unfold bitAt bitI
        rw [show (8 * i + r) / 8 = i by omega, show (8 * i + r) % 8 = r by omega]
        split <;> omega
      unfold p_ref01_Bits_l7_F
      simp (disch := omega) only [if_pos, wrap_i64, tmod_pos, tdiv_pos, one_set, e1, e2, map_range_succ]
      rw [Int.natCast_add, show 8 * i + r + 1 = 8 * i + (r + 1) by omega]
      rfl
    · intro kn
      unfold p_ref01_Bits_l7_F
      simp (disch := omega) only [if_neg]
    · simp (disch := omega) only [wrap_i64]
      rw [Int.natCast_add, show 8 * i + 8 = 8 * (i + 1) by omega]
      rfl
  · intro kn
    unfold p_ref01_Bits_l3_F
    simp (disch := omega) only [if_neg]
    rfl
  · rfl


theorem at_Bits {b : List Int} (h : b.length ≤ 1000000) (hb : ∀ z ∈ b, 0 ≤ z ∧ z ≤ 255) : g_ref01_Bits (b, ()) = some (bitsOf b) := by
  have hM : 1000000 ≤ maxLen := by decide
  exact Spec_at (ks := p_ref01_Bits_ks) (rs := p_ref01_Bits_rs) (x := (b, ())) (wf_b1.2 ⟨by omega, hb⟩) h
theorem pow_le {k : Nat} (h : k ≤ 23) : (2 : Int) ^ k ≤ 8388608 := by
  have : 2 ^ k ≤ 2 ^ 23 := Nat.pow_le_pow_right (by omega) h
  have e : ((2 ^ k : Nat) : Int) = (2 : Int) ^ k := by simp
  omega
theorem q_ref15_width : ∀ x r, g_ref15_width x = some r → ∃ N, p_ref15_width N x = some r := by
  refine Spec_of (ks := p_ref15_width_ks) (rs := p_ref15_width_rs) fun x hw hq => ⟨30, ?_⟩
  obtain ⟨(w : Int), u⟩ := x
  obtain ⟨h0, h1⟩ : 0 ≤ w ∧ w ≤ 23 := hq
  obtain ⟨n, rfl⟩ : ∃ n : Nat, w = n := ⟨w.toNat, by omega⟩
  unfold p_ref15_width
  refine (iter_from (F := p_ref15_width_l3_F 30) (s := fun k => ((2 : Int) ^ k, (n : Int), (k : Int), ())) (y := ((2 : Int) ^ n, ())) n rfl ?_ ?_ 30 (by omega)).trans ?_
  · intro k hk kn
    have hp := pow2_pos k
    have hp2 := pow_le (k := k) (by omega)
    unfold p_ref15_width_l3_F
    dsimp only
    rw [if_pos (by omega), wrap_i64 (by omega) (by omega), wrap_i64 (by omega) (by omega), ← Int.pow_succ]
    rfl
  · intro kn
    unfold p_ref15_width_l3_F
    dsimp only
    rw [if_neg (by omega)]
  · dsimp only
    rw [Int.toNat_natCast]
theorem at_width {n : Nat} (h : n ≤ 23) : g_ref15_width ((n : Int), ()) = some (2 ^ n) := by
  have := Spec_at (ks := p_ref15_width_ks) (rs := p_ref15_width_rs) (x := ((n : Int), ())) (Q := fun x => 0 ≤ x.1 ∧ x.1 ≤ 23) (f := fun x => (2 : Int) ^ x.1.toNat) ⟨(okInt_i64 (n := (n : Int))).2 (by omega), trivial⟩ ⟨by show (0 : Int) ≤ n; omega, by show (n : Int) ≤ 23; omega⟩
  exact this
theorem id_le {i d n : Nat} (hi : i < n) : i * d + d ≤ n * d := by
  have h : (i + 1) * d ≤ n * d := Nat.mul_le_mul_right d hi
  rwa [Nat.succ_mul] at h
theorem bitAt_b (b : List Int) (t : Nat) : 0 ≤ bitAt b t ∧ bitAt b t ≤ 1 := bitI_b _ _
theorem wf_ib {d : Int} {b : List Int} : wfAll [.int .i64, .sl (.int .u8)] (d, b, ()) ↔ (-9223372036854775808 ≤ d ∧ d ≤ 9223372036854775807) ∧ (b.length ≤ maxLen ∧ ∀ z ∈ b, 0 ≤ z ∧ z ≤ 255) := by
  have : Kd.wf (.int .i64) d ↔ -9223372036854775808 ≤ d ∧ d ≤ 9223372036854775807 := okInt_i64
  simp only [wfAll, wf_bytes, and_true, this]
def numD (w : Nat) (b : List Int) (i : Nat) : Int := sumB w fun k => bitAt b (i * w + k)
theorem numD_b {w : Nat} (b : List Int) (i : Nat) (hw : w ≤ 23) : 0 ≤ numD w b i ∧ numD w b i < 8388608 := by
  have := sumB_b (n := w) (c := fun k => bitAt b (i * w + k)) fun s _ => bitAt_b b _
  have := pow_le hw
  unfold numD
  omega
theorem set_same {l : List Int} {i : Nat} {v : Int} (h : l.getD i 0 = v) (hi : i < l.length) : l.set i v = l := by
  subst h
  refine rows.ext (by simp) rfl fun j _ => ?_
  by_cases hj : i = j
  · subst hj; exact getD_set_eq hi
  · exact getD_set_ne hj
theorem ior_add32 {A b : Int} {s : Nat} (hA : 0 ≤ A ∧ A < 2 ^ s) (hb : 0 ≤ b ∧ b ≤ 1) (hs : s ≤ 22) : ior .i32 A (ishl .i32 b (s : Int)) = A + b * 2 ^ s := by
  obtain ⟨m, rfl⟩ := Int.eq_ofNat_of_zero_le hA.1
  obtain ⟨c, rfl⟩ := Int.eq_ofNat_of_zero_le hb.1
  have hc : c ≤ 1 := by omega
  have hm : m < 2 ^ s := by have := hA.2; exact_mod_cast this
  have hp : 2 ^ s ≤ 2 ^ 22 := Nat.pow_le_pow_right (by omega) hs
  have hc2 : c * 2 ^ s ≤ 2 ^ s := by have := Nat.mul_le_mul_right (2 ^ s) hc; omega
  rw [ishl_i32 (by omega) (by omega), ior_i32 (by omega) (by omega), or_add hm]
  simp
theorem q_dring_Unpack : ∀ x r, g_dring_Unpack x = some r → ∃ N, p_dring_Unpack N x = some r := by
  refine Spec_of (ks := p_dring_Unpack_ks) (rs := p_dring_Unpack_rs) fun x hw hq => ⟨300, ?_⟩
  obtain ⟨(d : Int), (b : List Int), u⟩ := x
  obtain ⟨hd, hb⟩ := wf_ib.1 hw
  obtain ⟨h0, h1, hl⟩ : 1 ≤ d ∧ d ≤ 23 ∧ (b.length : Int) = 32 * d := hq
  unfold p_dring_Unpack
  dsimp only
  obtain ⟨n, rfl⟩ : ∃ n : Nat, d = n := ⟨d.toNat, by omega⟩
  rw [if_neg (by omega), if_neg (by omega), wrap_i64 (by omega) (by omega), if_neg (by omega), Int.toNat_natCast]
  have hn : n ≤ 23 := by omega
  have hZ : z256.length = 256 := List.length_replicate ..
  have hZ0 : ∀ i, z256.getD i 0 = 0 := getD_replicate 256
  show iter (p_dring_Unpack_l5_F 300) 300 ((n : Int), b.length, (0 : Int), b.length, b, z256, z256, ()) _ = some (unpS n b, 0)
  generalize z256 = Z at hZ hZ0 ⊢
  refine (iter_run (F := p_dring_Unpack_l5_F 300) (s := fun i => ((n : Int), b.length, (i : Int), b.length, b, Z, part (numD n b) i Z, ())) (y := (Z, unpS n b, ())) 256 ?_ ?_ 300 (by omega)).trans ?_
  · intro i hi kn
    have hpl : (part (numD n b) i Z).length = 256 := by rw [part_length (by omega), hZ]
    unfold p_dring_Unpack_l5_F
    dsimp only
    rw [if_pos (by omega)]
    refine (iter_from (F := p_dring_Unpack_l8_F 300) (s := fun k => ((n : Int), b.length, (i : Int), (i : Int), (n : Int), (k : Int), b.length, b, Z, (part (numD n b) i Z).set i (sumB k fun k => bitAt b (i * n + k)), ()))
      (y := ((n : Int), b.length, (i : Int), b.length, b, Z, part (numD n b) (i + 1) Z, ())) n ?_ ?_ ?_ 300 (by omega)).trans ?_
    · rw [set_same (by rw [part_getD (Nat.le_refl i), hZ0]; rfl) (by omega)]
      rfl
    · intro k hk kn
      have hle := id_le (d := n) hi
      have hz := byte_at hb.2 ((i * n + k) / 8)
      have hbit := bitAt_b b (i * n + k)
      have em : (i : Int) * n = ((i * n : Nat) : Int) := by simp
      have ea : ((i * n : Nat) : Int) + k = ((i * n + k : Nat) : Int) := by simp
      have ed : ((i * n + k : Nat) : Int) / 8 = (((i * n + k) / 8 : Nat) : Int) := by omega
      have er : ((i * n + k : Nat) : Int) % 8 = (((i * n + k) % 8 : Nat) : Int) := by omega
      have hs := sumB_b (n := k) (c := fun k => bitAt b (i * n + k)) fun s _ => bitAt_b b _
      unfold p_dring_Unpack_l8_F
      dsimp only
      rw [if_pos (by omega), em, wrap_i64 (x := ((i * n : Nat) : Int)) (by omega) (by omega), ea, wrap_i64 (x := ((i * n + k : Nat) : Int)) (by omega) (by omega), tdiv_pos (by omega), tmod_pos (by omega), ed, er,
        wrap_i64 (x := (((i * n + k) / 8 : Nat) : Int)) (by omega) (by omega), wrap_i64 (by omega) (by omega)]
      simp (disch := omega) only [if_pos, if_neg, Int.toNat_natCast]
      rw [bit_u8 hz.1 hz.2 (by omega), show bitI (b.getD ((i * n + k) / 8) 0) ((i * n + k) % 8) = bitAt b (i * n + k) from rfl, wrap_i32 (by omega) (by omega), getD_set_eq (by omega), List.set_set,
        ior_add32 hs hbit (by omega), Int.natCast_add]
      rfl
    · intro kn
      unfold p_dring_Unpack_l8_F
      dsimp only
      rw [if_neg (by omega), part_set' (h := numD n b) (i := i) (a := Z) (z := sumB n fun k => bitAt b (i * n + k)) (by omega) rfl]
    · dsimp only
      rw [wrap_i64 (by omega) (by omega), Int.natCast_add]
      rfl
  · intro kn
    unfold p_dring_Unpack_l5_F
    dsimp only
    rw [if_neg (by omega), part_all hZ]
    rfl
  · rfl
theorem at_Unpack {n : Nat} {b : List Int} (h : 1 ≤ n ∧ n ≤ 23 ∧ b.length = 32 * n) (hb : ∀ z ∈ b, 0 ≤ z ∧ z ≤ 255) : g_dring_Unpack ((n : Int), b, ()) = some (unpS n b, 0) := by
  have hM : 1000000 ≤ maxLen := by decide
  have := Spec_at (ks := p_dring_Unpack_ks) (rs := p_dring_Unpack_rs) (x := ((n : Int), b, ())) (Q := fun x => wOk x.1 x.2.1) (f := fun x => (unpS x.1.toNat x.2.1, 0)) (wf_ib.2 ⟨by omega, by omega, hb⟩) ⟨by show (1 : Int) ≤ n; omega, by show (n : Int) ≤ 23; omega, by show (b.length : Int) = 32 * (n : Int); omega⟩
  exact this
theorem q_ref15_Unpack : ∀ x r, g_ref15_Unpack x = some r → ∃ N, p_ref15_Unpack N x = some r := by
  refine Spec_of (ks := p_ref15_Unpack_ks) (rs := p_ref15_Unpack_rs) fun x hw hq => ⟨300, ?_⟩
  obtain ⟨(d : Int), (b : List Int), u⟩ := x
  obtain ⟨hd, hb⟩ := wf_ib.1 hw
  obtain ⟨h0, h1, hl⟩ : 1 ≤ d ∧ d ≤ 23 ∧ (b.length : Int) = 32 * d := hq
  unfold p_ref15_Unpack
  dsimp only
  obtain ⟨n, rfl⟩ : ∃ n : Nat, d = n := ⟨d.toNat, by omega⟩
  rw [if_neg (by omega), if_neg (by omega), wrap_i64 (by omega) (by omega), if_neg (by omega), Int.toNat_natCast, at_Bits (by omega) hb.2, Option.bind_some]
  have hn : n ≤ 23 := by omega
  have hZ : z256.length = 256 := List.length_replicate ..
  have hL : (bitsOf b).length = 256 * n := by rw [bitsOf_len]; omega
  rw [hL]
  show iter (p_ref15_Unpack_l6_F 300) 300 ((n : Int), 256 * n, (0 : Int), z256, 256 * n, bitsOf b, z256, ()) _ = some (unpS n b, 0)
  generalize z256 = Z at hZ ⊢
  refine (iter_run (F := p_ref15_Unpack_l6_F 300) (s := fun i => ((n : Int), 256 * n, (i : Int), Z, 256 * n, bitsOf b, part (numD n b) i Z, ())) (y := (Z, unpS n b, ())) 256 ?_ ?_ 300 (by omega)).trans ?_
  · intro i hi kn
    have hle := id_le (d := n) hi
    have hnb := numD_b b i hn
    unfold p_ref15_Unpack_l6_F
    dsimp only
    rw [if_pos (by omega)]
    refine (iter_from (F := p_ref15_Unpack_l10_F 300) (s := fun k => ((n : Int), 256 * n, (i : Int), sumB k (fun k => bitAt b (i * n + k)), (2 : Int) ^ k, (i : Int), (n : Int), (k : Int), Z, 256 * n, bitsOf b, part (numD n b) i Z, ()))
      (y := ((n : Int), 256 * n, (i : Int), numD n b i, (i : Int), Z, 256 * n, bitsOf b, part (numD n b) i Z, ())) n ?_ ?_ ?_ 300 (by omega)).trans ?_
    · rfl
    · intro k hk kn
      have hbit := bitAt_b b (i * n + k)
      have hs := sumB_b (n := k) (c := fun k => bitAt b (i * n + k)) fun s _ => bitAt_b b _
      have hp : (0 : Int) < 2 ^ k := pow2_pos k
      have hp2 := pow_le (k := k) (by omega)
      have q1 := bitsOf_getD (b := b) (t := i * n + k) (by omega)
      have ek : (2 : Int) ^ k * 2 = 2 ^ (k + 1) := (Int.pow_succ 2 k).symm
      have em : (i : Int) * n = ((i * n : Nat) : Int) := by simp
      have ea : ((i * n : Nat) : Int) + k = ((i * n + k : Nat) : Int) := by simp
      have ez : (k : Int) + 1 = ((k + 1 : Nat) : Int) := by omega
      unfold p_ref15_Unpack_l10_F
      dsimp only
      rw [if_pos (by omega), em, wrap_i64 (x := ((i * n : Nat) : Int)) (by omega) (by omega), ea, wrap_i64 (x := ((i * n + k : Nat) : Int)) (by omega) (by omega), if_pos (by omega), if_pos (by omega), if_pos (by omega)]
      rw [wrap_i64 (x := (k : Int) + 1) (by omega) (by omega), wrap_i64 (x := (2 : Int) ^ k * 2) (by omega) (by omega), wrap_i64 (by omega) (by omega), ek, ez]
      simp only [Int.toNat_natCast, q1]
      rcases Int.lt_or_eq_of_le hbit.1 with ha | ha
      · rw [if_pos (by omega)]
        have : sumB k (fun k => bitAt b (i * n + k)) + 2 ^ k = sumB (k + 1) fun k => bitAt b (i * n + k) := by
          simp only [sumB]; rw [show bitAt b (i * n + k) = 1 by omega]; omega
        rw [this]
      · rw [if_neg (by omega)]
        have : sumB k (fun k => bitAt b (i * n + k)) = sumB (k + 1) fun k => bitAt b (i * n + k) := by
          simp only [sumB]; rw [← ha]; omega
        rw [this]
    · intro kn
      unfold p_ref15_Unpack_l10_F
      dsimp only
      rw [if_neg (by omega)]
      rfl
    · dsimp only
      rw [if_pos (by omega), if_pos (by omega), if_pos (by omega), wrap_i64 (by omega) (by omega), wrap_i32 (by omega) (by omega), Int.toNat_natCast, part_set' (h := numD n b) (i := i) (a := Z) (z := numD n b i) (by omega) rfl]
      rfl
  · intro kn
    unfold p_ref15_Unpack_l6_F
    dsimp only
    rw [if_neg (by omega), part_all hZ]
    rfl
  · rfl
theorem at_Unpack' {n : Nat} {b : List Int} (h : 1 ≤ n ∧ n ≤ 23 ∧ b.length = 32 * n) (hb : ∀ z ∈ b, 0 ≤ z ∧ z ≤ 255) : g_ref15_Unpack ((n : Int), b, ()) = some (unpS n b, 0) := by
  have hM : 1000000 ≤ maxLen := by decide
  have := Spec_at (ks := p_ref15_Unpack_ks) (rs := p_ref15_Unpack_rs) (x := ((n : Int), b, ())) (Q := fun x => wOk x.1 x.2.1) (f := fun x => (unpS x.1.toNat x.2.1, 0)) (wf_ib.2 ⟨by omega, by omega, hb⟩) ⟨by show (1 : Int) ≤ n; omega, by show (n : Int) ≤ 23; omega, by show (b.length : Int) = 32 * (n : Int); omega⟩
  exact this
end Go.Ax.TryP
/-! ### Numbers below a top; masks -/
set_option linter.unusedVariables false
namespace Go.Ax.TryP
theorem unpS_getD {n : Nat} {b : List Int} {i : Nat} (hi : i < 256) : (unpS n b).getD i 0 = numD n b i := dpoly_getD hi
theorem unpS_i32 {n : Nat} (hn : n ≤ 23) (b : List Int) : i32s 256 (unpS n b) := rows.range fun i _ => by have := numD_b b i hn; unfold numD at this; omega
theorem q_dring_UnpackFrom_1 : ∀ x r, g_dring_UnpackFrom_1 x = some r → ∃ N, p_dring_UnpackFrom_1 N x = some r := by
  refine Spec_of (ks := p_dring_UnpackFrom_1_ks) (rs := p_dring_UnpackFrom_1_rs) fun x hw hq => ⟨0, ?_⟩
  obtain ⟨(z : Int), (t : Int), u⟩ := x
  have h1 : -2147483648 ≤ z ∧ z ≤ 2147483647 := okInt_i32.1 hw.1
  have h2 : -2147483648 ≤ t ∧ t ≤ 2147483647 := okInt_i32.1 hw.2.1
  obtain ⟨h3, h4⟩ : 0 ≤ z ∧ 0 ≤ t := hq
  unfold p_dring_UnpackFrom_1
  show some (IntKind.i32.wrap (t - z)) = some (t - z)
  rw [wrap_i32 (by omega) (by omega)]
theorem at_UnpackFrom_1 {z t : Int} (h1 : 0 ≤ z ∧ z ≤ 2147483647) (h2 : 0 ≤ t ∧ t ≤ 2147483647) : g_dring_UnpackFrom_1 (z, t, ()) = some (t - z) :=
  Spec_at (ks := p_dring_UnpackFrom_1_ks) (rs := p_dring_UnpackFrom_1_rs) (x := (z, t, ())) ⟨okInt_i32.2 (show _ ≤ z ∧ z ≤ _ by omega), okInt_i32.2 (show _ ≤ t ∧ t ≤ _ by omega), trivial⟩ ⟨h1.1, h2.1⟩
theorem q_dring_each__dring_UnpackFrom_1 : ∀ x r, g_dring_each__dring_UnpackFrom_1 x = some r → ∃ N, p_dring_each__dring_UnpackFrom_1 N x = some r := by
  refine Spec_of (ks := p_dring_each__dring_UnpackFrom_1_ks) (rs := p_dring_each__dring_UnpackFrom_1_rs) fun x hw hq => ⟨300, ?_⟩
  obtain ⟨(a : List Int), (t : Int), u⟩ := x
  have ha : i32s 256 a := wf_i32s.1 hw.1
  have h2 : -2147483648 ≤ t ∧ t ≤ 2147483647 := okInt_i32.1 hw.2.1
  obtain ⟨h3, h4⟩ : (∀ z ∈ a, 0 ≤ z) ∧ 0 ≤ t := hq
  unfold p_dring_each__dring_UnpackFrom_1
  refine (iter_run (F := p_dring_each__dring_UnpackFrom_1_l2_F 300) (s := fun i => (a, (i : Int), [t], part (fun i => t - a.getD i 0) i a, z256, ())) (y := (dpoly fun i => t - a.getD i 0, z256, ())) 256 ?_ ?_ 300 (by omega)).trans ?_
  · intro i hi kn
    have hz := i32_at ha i
    have hz0 : 0 ≤ a.getD i 0 := h3 _ (getD_mem (by rw [ha.1]; exact hi))
    unfold p_dring_each__dring_UnpackFrom_1_l2_F
    dsimp only
    rw [if_pos (by omega), if_pos (by omega), if_pos (by omega), if_pos (by omega), Int.toNat_natCast]
    refine (congrArg (fun o => Option.bind o _) (at_UnpackFrom_1 ⟨hz0, hz.2⟩ ⟨h4, h2.2⟩)).trans ?_
    rw [Option.bind_some, if_pos (by omega), if_pos (by omega), if_pos (by omega), wrap_i64 (by omega) (by omega), part_set' (h := fun i => t - a.getD i 0) (by rw [ha.1]; exact hi) rfl]
    rfl
  · intro kn
    unfold p_dring_each__dring_UnpackFrom_1_l2_F
    dsimp only
    rw [if_neg (by omega), part_all ha.1]
    rfl
  · rfl
theorem at_each {a : List Int} {t : Int} (ha : i32s 256 a) (h : ∀ z ∈ a, 0 ≤ z) (h2 : 0 ≤ t ∧ t ≤ 2147483647) : g_dring_each__dring_UnpackFrom_1 (a, t, ()) = some (dpoly fun i => t - a.getD i 0) :=
  Spec_at (ks := p_dring_each__dring_UnpackFrom_1_ks) (rs := p_dring_each__dring_UnpackFrom_1_rs) (x := (a, t, ())) ⟨wf_i32s.2 ha, okInt_i32.2 (show _ ≤ t ∧ t ≤ _ by omega), trivial⟩ ⟨h, h2.1⟩
theorem unpF_eq (t : Int) (n : Nat) (b : List Int) : (dpoly fun i => t - (unpS n b).getD i 0) = unpFromS t n b := by
  unfold unpFromS dpoly
  exact List.map_congr_left fun i hi => by rw [unpS_getD (List.mem_range.1 hi)]; rfl
theorem wf_tib {t d : Int} {b : List Int} : wfAll [.int .i32, .int .i64, .sl (.int .u8)] (t, d, b, ()) ↔ (-2147483648 ≤ t ∧ t ≤ 2147483647) ∧ (-9223372036854775808 ≤ d ∧ d ≤ 9223372036854775807) ∧ (b.length ≤ maxLen ∧ ∀ z ∈ b, 0 ≤ z ∧ z ≤ 255) := by
  have : Kd.wf (.int .i64) d ↔ -9223372036854775808 ≤ d ∧ d ≤ 9223372036854775807 := okInt_i64
  have h2 : Kd.wf (.int .i32) t ↔ -2147483648 ≤ t ∧ t ≤ 2147483647 := okInt_i32
  simp only [wfAll, wf_bytes, and_true, this, h2]
theorem q_dring_UnpackFrom : ∀ x r, g_dring_UnpackFrom x = some r → ∃ N, p_dring_UnpackFrom N x = some r := by
  refine Spec_of (ks := p_dring_UnpackFrom_ks) (rs := p_dring_UnpackFrom_rs) fun x hw hq => ⟨0, ?_⟩
  obtain ⟨(t : Int), (d : Int), (b : List Int), u⟩ := x
  obtain ⟨ht, hd, hb⟩ := wf_tib.1 hw
  obtain ⟨⟨ht0, ht1⟩, h0, h1, hl⟩ : (0 ≤ t ∧ t < 8380417) ∧ 1 ≤ d ∧ d ≤ 23 ∧ (b.length : Int) = 32 * d := hq
  obtain ⟨n, rfl⟩ : ∃ n : Nat, d = n := ⟨d.toNat, by omega⟩
  unfold p_dring_UnpackFrom
  dsimp only
  rw [at_Unpack ⟨by omega, by omega, by omega⟩ hb.2, Option.bind_some, if_neg (by simp), if_neg (by omega), if_neg (by omega)]
  have hn : n ≤ 23 := by omega
  refine (congrArg (fun o => Option.bind o _) (at_each (t := t) (unpS_i32 hn b) (fun z hz => by obtain ⟨i, _, rfl⟩ := List.mem_map.1 hz; exact (numD_b b i hn).1) ⟨ht0, by omega⟩)).trans ?_
  rw [Option.bind_some, unpF_eq, Int.toNat_natCast]
theorem at_UnpackFrom {n : Nat} {t : Int} {b : List Int} (ht : 0 ≤ t ∧ t < 8380417) (h : 1 ≤ n ∧ n ≤ 23 ∧ b.length = 32 * n) (hb : ∀ z ∈ b, 0 ≤ z ∧ z ≤ 255) : g_dring_UnpackFrom (t, (n : Int), b, ()) = some (unpFromS t n b, 0) := by
  have hM : 1000000 ≤ maxLen := by decide
  have := Spec_at (ks := p_dring_UnpackFrom_ks) (rs := p_dring_UnpackFrom_rs) (x := (t, (n : Int), b, ())) (Q := fun x => (0 ≤ x.1 ∧ x.1 < 8380417) ∧ wOk x.2.1 x.2.2.1) (f := fun x => (unpFromS x.1 x.2.1.toNat x.2.2.1, 0)) (wf_tib.2 ⟨by omega, by omega, by omega, hb⟩) ⟨ht, by show (1 : Int) ≤ n; omega, by show (n : Int) ≤ 23; omega, by show (b.length : Int) = 32 * (n : Int); omega⟩
  exact this
theorem q_ref15_UnpackFrom : ∀ x r, g_ref15_UnpackFrom x = some r → ∃ N, p_ref15_UnpackFrom N x = some r := by
  refine Spec_of (ks := p_ref15_UnpackFrom_ks) (rs := p_ref15_UnpackFrom_rs) fun x hw hq => ⟨300, ?_⟩
  obtain ⟨(t : Int), (d : Int), (b : List Int), u⟩ := x
  obtain ⟨ht, hd, hb⟩ := wf_tib.1 hw
  obtain ⟨⟨ht0, ht1⟩, h0, h1, hl⟩ : (0 ≤ t ∧ t < 8380417) ∧ 1 ≤ d ∧ d ≤ 23 ∧ (b.length : Int) = 32 * d := hq
  obtain ⟨n, rfl⟩ : ∃ n : Nat, d = n := ⟨d.toNat, by omega⟩
  have hn : n ≤ 23 := by omega
  unfold p_ref15_UnpackFrom
  dsimp only
  rw [at_Unpack' ⟨by omega, by omega, by omega⟩ hb.2, Option.bind_some, if_neg (by simp), if_neg (by omega), if_neg (by omega), Int.toNat_natCast]
  have hu := unpS_i32 hn b
  rw [← unpF_eq]
  refine (iter_run (F := p_ref15_UnpackFrom_l5_F 300) (s := fun i => (t, (i : Int), z256, part (fun i => t - (unpS n b).getD i 0) i (unpS n b), ())) (y := (z256, dpoly fun i => t - (unpS n b).getD i 0, ())) 256 ?_ ?_ 300 (by omega)).trans ?_
  · intro i hi kn
    have hz : (unpS n b).getD i 0 = numD n b i := unpS_getD hi
    have hz2 := numD_b b i hn
    unfold p_ref15_UnpackFrom_l5_F
    dsimp only
    rw [if_pos (by omega), if_pos (by omega), if_pos (by omega), if_pos (by omega), if_pos (by omega), if_pos (by omega), if_pos (by omega), Int.toNat_natCast, part_getD_self, wrap_i64 (by omega) (by omega), wrap_i32 (by omega) (by omega), part_set' (h := fun i => t - (unpS n b).getD i 0) (by rw [hu.1]; exact hi) rfl]
    rfl
  · intro kn
    unfold p_ref15_UnpackFrom_l5_F
    dsimp only
    rw [if_neg (by omega), part_all hu.1]
    rfl
  · rfl
theorem at_UnpackFrom' {n : Nat} {t : Int} {b : List Int} (ht : 0 ≤ t ∧ t < 8380417) (h : 1 ≤ n ∧ n ≤ 23 ∧ b.length = 32 * n) (hb : ∀ z ∈ b, 0 ≤ z ∧ z ≤ 255) : g_ref15_UnpackFrom (t, (n : Int), b, ()) = some (unpFromS t n b, 0) := by
  have hM : 1000000 ≤ maxLen := by decide
  have := Spec_at (ks := p_ref15_UnpackFrom_ks) (rs := p_ref15_UnpackFrom_rs) (x := (t, (n : Int), b, ())) (Q := fun x => (0 ≤ x.1 ∧ x.1 < 8380417) ∧ wOk x.2.1 x.2.2.1) (f := fun x => (unpFromS x.1 x.2.1.toNat x.2.2.1, 0)) (wf_tib.2 ⟨by omega, by omega, by omega, hb⟩) ⟨ht, by show (1 : Int) ≤ n; omega, by show (n : Int) ≤ 23; omega, by show (b.length : Int) = 32 * (n : Int); omega⟩
  exact this
theorem mask_dring {w : Int} (hw : w = 18 ∨ w = 20) {l : List Int} (hl : l.length = 66) (hb : ∀ z ∈ l, 0 ≤ z ∧ z ≤ 255) :
    g_keccak_Shake (256, IntKind.i64.wrap (32 * w), [l], ()) = some (spongeS 136 31 l (32 * w.toNat), 0)
    ∧ g_dring_UnpackFrom (ishl IntKind.i32 1 (IntKind.i64.wrap (w - 1)), w, spongeS 136 31 l (32 * w.toNat), ()) = some (unpFromS (2 ^ (w - 1).toNat) w.toNat (spongeS 136 31 l (32 * w.toNat)), 0)
    ∧ ¬ IntKind.i64.wrap (w - 1) < 0 := by
  obtain ⟨n, rfl⟩ : ∃ n : Nat, w = n := ⟨w.toNat, by omega⟩
  have hn : n = 18 ∨ n = 20 := by omega
  rw [show ((n : Int) - 1).toNat = n - 1 by omega, Int.toNat_natCast]
  have e1 : IntKind.i64.wrap (32 * (n : Int)) = ((32 * n : Nat) : Int) := by rw [wrap_i64 (by omega) (by omega)]; omega
  have e2 : IntKind.i64.wrap ((n : Int) - 1) = ((n - 1 : Nat) : Int) := by rw [wrap_i64 (by omega) (by omega)]; omega
  have e3 : ishl IntKind.i32 1 ((n - 1 : Nat) : Int) = 2 ^ (n - 1) := by
    have := ishl_i32 (m := 1) (s := n - 1) (by omega) (by rcases hn with rfl | rfl <;> decide)
    refine this.trans ?_
    simp
  have e4 : (2 : Int) ^ (n - 1) < 8380417 := by rcases hn with rfl | rfl <;> decide
  rw [e1, e2, e3]
  exact ⟨at_Shake256p (by omega) ⟨by omega, hb⟩, at_UnpackFrom ⟨Int.le_of_lt (pow2_pos _), e4⟩ ⟨by omega, by omega, spS_len _ _ _ _⟩ (spS_b _ _ _ _), by omega⟩
theorem q_dring_Mask : ∀ x r, g_dring_Mask x = some r → ∃ N, p_dring_Mask N x = some r := by
  refine Spec_of (ks := p_dring_Mask_ks) (rs := p_dring_Mask_rs) fun x hw hq => ⟨0, ?_⟩
  obtain ⟨(w : Int), (l : List Int), u⟩ := x
  obtain ⟨hd, hl⟩ := wf_ib.1 hw
  unfold p_dring_Mask maskS
  dsimp only
  by_cases he : w = 18 ∨ w = 20
  · by_cases h : l.length = 66
    · rw [if_neg (by omega : ¬((w ≠ 18 ∧ w ≠ 20) ∨ l.length ≠ 66))]
      obtain ⟨a1, a2, a3⟩ := mask_dring he h hl.2
      rcases he with h2 | h4
      · rw [if_neg (by omega), if_neg (by omega)]
        refine (congrArg (fun o => Option.bind o _) a1).trans ?_
        rw [Option.bind_some, if_neg (by simp)]
        refine (if_neg a3).trans ?_
        exact congrArg (fun o => Option.bind o _) a2
      · rw [if_pos (by omega), if_neg (by omega), if_neg (by omega)]
        refine (congrArg (fun o => Option.bind o _) a1).trans ?_
        rw [Option.bind_some, if_neg (by simp)]
        refine (if_neg a3).trans ?_
        exact congrArg (fun o => Option.bind o _) a2
    · rw [if_pos (show (w ≠ 18 ∧ w ≠ 20) ∨ l.length ≠ 66 from .inr h)]
      rcases he with h2 | h4
      · rw [if_neg (by omega), if_pos (by omega)]
      · rw [if_pos (by omega), if_neg (by omega), if_pos (by omega)]
  · rw [if_pos (by omega), if_pos (by omega), if_pos (by omega)]
theorem mask_ref15 {w : Int} (hw : w = 18 ∨ w = 20) {l : List Int} (hl : l.length = 66) (hb : ∀ z ∈ l, 0 ≤ z ∧ z ≤ 255) :
    g_ref03_Shake (256, IntKind.i64.wrap (32 * w), l, ()) = some (spongeS 136 31 l (32 * w.toNat))
    ∧ g_ref15_width (IntKind.i64.wrap (w - 1), ()) = some (2 ^ (w - 1).toNat)
    ∧ g_ref15_UnpackFrom (IntKind.i32.wrap (2 ^ (w - 1).toNat), w, spongeS 136 31 l (32 * w.toNat), ()) = some (unpFromS (2 ^ (w - 1).toNat) w.toNat (spongeS 136 31 l (32 * w.toNat)), 0) := by
  obtain ⟨n, rfl⟩ : ∃ n : Nat, w = n := ⟨w.toNat, by omega⟩
  have hn : n = 18 ∨ n = 20 := by omega
  rw [show ((n : Int) - 1).toNat = n - 1 by omega, Int.toNat_natCast]
  have e1 : IntKind.i64.wrap (32 * (n : Int)) = ((32 * n : Nat) : Int) := by rw [wrap_i64 (by omega) (by omega)]; omega
  have e2 : IntKind.i64.wrap ((n : Int) - 1) = ((n - 1 : Nat) : Int) := by rw [wrap_i64 (by omega) (by omega)]; omega
  have e4 : (2 : Int) ^ (n - 1) < 8380417 := by rcases hn with rfl | rfl <;> decide
  have e5 := pow2_pos (n - 1)
  rw [e1, e2, wrap_i32 (by omega) (by omega)]
  exact ⟨at_Shake256r (by omega) ⟨by omega, hb⟩, at_width (by omega), at_UnpackFrom' ⟨by omega, e4⟩ ⟨by omega, by omega, spS_len _ _ _ _⟩ (spS_b _ _ _ _)⟩
theorem q_ref15_Mask : ∀ x r, g_ref15_Mask x = some r → ∃ N, p_ref15_Mask N x = some r := by
  refine Spec_of (ks := p_ref15_Mask_ks) (rs := p_ref15_Mask_rs) fun x hw hq => ⟨0, ?_⟩
  obtain ⟨(w : Int), (l : List Int), u⟩ := x
  obtain ⟨hd, hl⟩ := wf_ib.1 hw
  unfold p_ref15_Mask maskS
  dsimp only
  by_cases he : w = 18 ∨ w = 20
  · by_cases h : l.length = 66
    · rw [if_neg (by omega : ¬((w ≠ 18 ∧ w ≠ 20) ∨ l.length ≠ 66))]
      obtain ⟨a1, a2, a3⟩ := mask_ref15 he h hl.2
      rcases he with h2 | h4
      · rw [if_neg (by omega), if_neg (by omega)]
        refine (congrArg (fun o => Option.bind o _) a2).trans ?_
        rw [Option.bind_some]
        refine (congrArg (fun o => Option.bind o _) a1).trans ?_
        rw [Option.bind_some]
        exact congrArg (fun o => Option.bind o _) a3
      · rw [if_pos (by omega), if_neg (by omega), if_neg (by omega)]
        refine (congrArg (fun o => Option.bind o _) a2).trans ?_
        rw [Option.bind_some]
        refine (congrArg (fun o => Option.bind o _) a1).trans ?_
        rw [Option.bind_some]
        exact congrArg (fun o => Option.bind o _) a3
    · rw [if_pos (show (w ≠ 18 ∧ w ≠ 20) ∨ l.length ≠ 66 from .inr h)]
      rcases he with h2 | h4
      · rw [if_neg (by omega), if_pos (by omega)]
      · rw [if_pos (by omega), if_neg (by omega), if_pos (by omega)]
  · rw [if_pos (by omega), if_pos (by omega), if_pos (by omega)]
end Go.Ax.TryP
