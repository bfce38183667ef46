/- A part of the proof: RingQ5. -/
import Derived.Test.YtefpbeklpfihfaaRingP2
/-! ### The product of transforms -/
namespace Go.Ax.TryP

theorem rev7_table : ∀ n, n < 128 → rev7 n < 128 := by decide +kernel
theorem rev7_fold (n : Nat) : rev7 n = (List.range 8).foldl (fun s i => 2 * s + n / 2 ^ i % 2) 0 / 2 := rfl
/-- So many digits, from behind. -/
def revTo (n : Nat) : Nat → Nat
  | 0 => 0
  | i + 1 => 2 * revTo n i + n / 2 ^ i % 2
theorem revTo_table : ∀ n, n < 128 → revTo n 7 = rev7 n := by decide +kernel
theorem revTo_bound (n : Nat) : ∀ i, revTo n i < 2 ^ i
  | 0 => by simp [revTo]
  | i + 1 => by have := revTo_bound n i; simp only [revTo, Nat.pow_succ]; omega
theorem q59 : ∀ x r, g59 x = some r → ∃ N, p59 N x = some r := by
  refine Spec_of (ks := p59_ks) (rs := p59_rs) fun x hw hq => ⟨20, ?_⟩
  obtain ⟨(d : Int), u⟩ := x
  have hq : 0 ≤ d ∧ d ≤ 127 := hq
  obtain ⟨n, rfl⟩ := Int.eq_ofNat_of_zero_le hq.1
  have hn : n < 128 := by omega
  unfold p59
  refine Eq.trans ?_ ((iter_run (k := fun (y1 : Int × Unit) => some y1.1) (F := p59_l3_F 20) (s := fun i => (((n / 2 ^ i : Nat) : Int), ((revTo n i : Nat) : Int), (i : Int), ())) (y := ((rev7 n : Int), ())) 7 ?_ ?_ 20 (by omega)).trans (by rfl))
  · rw [Nat.pow_zero, Nat.div_one]; rfl
  · intro i hi kn
    have hb := revTo_bound n i
    have hp : 2 ^ i ≤ 64 := (by decide : ∀ i, i < 7 → 2 ^ i ≤ 64) i hi
    have hd : n / 2 ^ i ≤ n := Nat.div_le_self _ _
    have e1 : ((n / 2 ^ i : Nat) : Int) / 2 = ((n / 2 ^ (i + 1) : Nat) : Int) := by rw [Nat.pow_succ, ← Nat.div_div_eq_div_mul]; omega
    have e2 : 2 * ((revTo n i : Nat) : Int) + ((n / 2 ^ i : Nat) : Int) % 2 = ((revTo n (i + 1) : Nat) : Int) := by simp only [revTo]; omega
    unfold p59_l3_F
    dsimp only
    generalize n / 2 ^ i = m at *
    simp (disch := omega) only [if_pos, wrap_i64, tdiv_pos, tmod_pos]
    rw [e1, e2]
    rfl
  · intro kn
    unfold p59_l3_F
    dsimp only
    rw [if_neg (by decide)]
    rw [revTo_table n hn]
theorem at59 {n : Int} (h : 0 ≤ n ∧ n ≤ 127) : g59 (n, ()) = some (rev7 n.toNat : Int) :=
  Spec_at (ks := p59_ks) (rs := p59_rs) (by simp [wfAll, Kd.wf, okInt_i64]; omega) h

theorem q51 : ∀ x r, g51 x = some r → ∃ N, p51 N x = some r := by
  refine Spec_of (ks := p51_ks) (rs := p51_rs) fun x hw hq => ⟨2000, ?_⟩
  obtain ⟨(b : Int), (e : Int), u⟩ := x
  have hq : (0 ≤ b ∧ b ≤ 3328) ∧ 0 ≤ e ∧ e ≤ 1000 := hq
  obtain ⟨n, rfl⟩ := Int.eq_ofNat_of_zero_le hq.2.1
  have hn : n ≤ 1000 := by omega
  unfold p51
  refine Eq.trans ?_ ((iter_run (k := fun (y1 : Int × Unit) => some y1.1) (F := p51_l3_F 2000) (s := fun i => (b, b ^ i % 3329, (n : Int), (i : Int), ())) (y := (b ^ n % 3329, ())) n ?_ ?_ 2000 (by omega)).trans (by rfl))
  · rw [Int.pow_zero]; rfl
  · intro i hi kn
    have h0 : 0 ≤ b ^ i % 3329 ∧ b ^ i % 3329 ≤ 3328 := by omega
    have h1 : 0 ≤ b ^ i % 3329 * b := Int.mul_nonneg h0.1 hq.1.1
    have h2 : b ^ i % 3329 * b ≤ 3328 * 3328 := Int.mul_le_mul h0.2 hq.1.2 hq.1.1 (by omega)
    have e1 : b ^ i % 3329 * b % 3329 = b ^ (i + 1) % 3329 := by rw [Int.pow_succ, Int.mul_emod, Int.emod_emod_of_dvd _ (Int.dvd_refl _), ← Int.mul_emod]
    unfold p51_l3_F
    simp (disch := omega) only [if_pos, wrap_i64, tmod_pos, e1]
    rfl
  · intro kn
    unfold p51_l3_F
    rw [if_neg (by dsimp only; omega)]
theorem at51 {b e : Int} (h : (0 ≤ b ∧ b ≤ 3328) ∧ 0 ≤ e ∧ e ≤ 1000) : g51 (b, e, ()) = some (b ^ e.toNat % 3329) :=
  Spec_at (ks := p51_ks) (rs := p51_rs) (by simp [wfAll, Kd.wf, okInt_i64]; omega) h
theorem q48 : ∀ x r, g48 x = some r → ∃ N, p48 N x = some r := by
  refine Spec_of (ks := p48_ks) (rs := p48_rs) fun x hw hq => ⟨0, ?_⟩
  obtain ⟨(d : Int), u⟩ := x
  have hq : 0 ≤ d ∧ d ≤ 127 := hq
  have h7 := rev7_table d.toNat (by omega)
  unfold p48
  refine (congrArg (fun o => Option.bind o _) (at59 hq)).trans ?_
  simp (disch := omega) only [Option.bind_some, wrap_i64, at51]
  unfold root
  rw [show (2 * ((rev7 d.toNat : Nat) : Int) + 1).toNat = 2 * rev7 d.toNat + 1 by omega]
theorem at48 {n : Int} (h : 0 ≤ n ∧ n ≤ 127) : g48 (n, ()) = some (root n.toNat) :=
  Spec_at (ks := p48_ks) (rs := p48_rs) (by simp [wfAll, Kd.wf, okInt_i64]; omega) h
theorem root_bound (i : Nat) : 0 ≤ root i ∧ root i ≤ 3328 := by unfold root; omega
theorem emod_mul_left (a b : Int) : a % 3329 * b % 3329 = a * b % 3329 := by rw [Int.mul_emod, Int.emod_emod_of_dvd _ (Int.dvd_refl _), ← Int.mul_emod]
theorem zeta_root (i : Nat) : zeta i * zeta i % 3329 * 17 % 3329 = root i := by
  unfold zeta root
  rw [emod_mul_left, Int.mul_assoc, emod_mul_left, Int.mul_comm (17 ^ rev7 i), Int.mul_assoc, emod_mul_left]
  congr 1
  rw [Int.pow_succ, Nat.two_mul, Int.pow_add, Int.mul_comm 17, Int.mul_assoc]
theorem mul_bound {a b : Int} (ha : 0 ≤ a ∧ a ≤ 3328) (hb : 0 ≤ b ∧ b ≤ 3328) : 0 ≤ a * b ∧ a * b ≤ 11075584 := by
  have h1 : a * b ≤ 3328 * 3328 := Int.mul_le_mul ha.2 hb.2 hb.1 (by omega)
  exact ⟨Int.mul_nonneg ha.1 hb.1, by omega⟩
theorem wf_pp {a b : List Int} : wfAll [.xs (.int .u16) 256, .xs (.int .u16) 256] (a, b, ()) ↔ u16s 256 a ∧ u16s 256 b := by simp [wfAll, wf_u16s]

theorem q20 : ∀ x r, g20 x = some r → ∃ N, p20 N x = some r := by
  refine Spec_of (ks := p20_ks) (rs := p20_rs) fun x hw _ => ⟨200, ?_⟩
  obtain ⟨(a : List Int), (b : List Int), u⟩ := x
  obtain ⟨ha, hb⟩ := wf_pp.1 hw
  unfold p20
  simp only [at37 ha, at37 hb, at46, Option.bind_some]
  refine (iter_run (F := p20_l5_F 200) (s := fun i => ((i : Int), fRed a, fRed b, List.replicate 256 0, (List.range 128).map zeta, part (mval a b) (2 * i) (List.replicate 256 0), ())) (y := (List.replicate 256 0, fMulN a b, ())) 128 ?_ ?_ 200 (by omega)).trans ?_
  · intro i hi kn
    have hz := zeta_bound i
    have hzg : ((List.range 128).map zeta).getD i 0 = zeta i := map_range_getD hi
    have e1 : ∀ j, j < 256 → (fRed a).getD j 0 = a.getD j 0 % 3329 := fun j hj => by rw [fRed, poly_getD hj]
    have e2 : ∀ j, j < 256 → (fRed b).getD j 0 = b.getD j 0 % 3329 := fun j hj => by rw [fRed, poly_getD hj]
    have a0 := e1 (2 * i) (by omega)
    have a1 := e1 (2 * i + 1) (by omega)
    have b0 := e2 (2 * i) (by omega)
    have b1 := e2 (2 * i + 1) (by omega)
    have c1 : 2 * (i : Int) = ((2 * i : Nat) : Int) := by omega
    have c2 : ((2 * i : Nat) : Int) + 1 = ((2 * i + 1 : Nat) : Int) := by omega
    have hr := root_bound i
    have m0 : mval a b (2 * i) = ((a.getD (2 * i) 0 % 3329) * (b.getD (2 * i) 0 % 3329) + (a.getD (2 * i + 1) 0 % 3329) * (b.getD (2 * i + 1) 0 % 3329) % 3329 * root i) % 3329 := by
      unfold mval; rw [if_pos (by omega), show 2 * i / 2 = i by omega]
    have m1 : mval a b (2 * i + 1) = ((a.getD (2 * i) 0 % 3329) * (b.getD (2 * i + 1) 0 % 3329) + (a.getD (2 * i + 1) 0 % 3329) * (b.getD (2 * i) 0 % 3329)) % 3329 := by
      unfold mval; rw [if_neg (by omega), show 2 * i + 1 - 1 = 2 * i by omega]
    have ga := fun j => (by omega : 0 ≤ a.getD j 0 % 3329 ∧ a.getD j 0 % 3329 ≤ 3328)
    have gb := fun j => (by omega : 0 ≤ b.getD j 0 % 3329 ∧ b.getD j 0 % 3329 ≤ 3328)
    have t1 := at47 (a := zeta i) (b := zeta i) (by omega) (by omega)
    have t2 := at47 (a := zeta i * zeta i % 3329) (b := 17) (by omega) (by omega)
    rw [zeta_root] at t2
    have x0 := ga (2 * i); have x1 := ga (2 * i + 1); have y0 := gb (2 * i); have y1 := gb (2 * i + 1)
    generalize a.getD (2 * i) 0 % 3329 = A0 at *
    generalize a.getD (2 * i + 1) 0 % 3329 = A1 at *
    generalize b.getD (2 * i) 0 % 3329 = B0 at *
    generalize b.getD (2 * i + 1) 0 % 3329 = B1 at *
    have t3 := at47 (a := A0) (b := B0) (by omega) (by omega)
    have t4 := at47 (a := A1) (b := B1) (by omega) (by omega)
    have t5 := at47 (a := A1 * B1 % 3329) (b := root i) (by omega) (by omega)
    have t6 := at47 (a := A0) (b := B1) (by omega) (by omega)
    have t7 := at47 (a := A1) (b := B0) (by omega) (by omega)
    unfold p20_l5_F
    simp (disch := omega) only [if_pos, wrap_i64, c1, c2, Int.toNat_natCast, hzg, a0, a1, b0, b1, t1, t2, t3, t4, t5, t6, t7, Option.bind_some, wrap_u16, tmod_pos]
    rw [part_set' (h := mval a b) (i := 2 * i) (by rw [List.length_replicate]; omega) (by rw [m0]; omega), part_set' (h := mval a b) (i := 2 * i + 1) (by rw [List.length_replicate]; omega) (by rw [m1]; omega)]
    rfl
  · intro kn
    unfold p20_l5_F
    dsimp only
    rw [if_neg (by decide)]
    rw [part_all (n := 2 * 128) (by rw [List.length_replicate])]
    rfl
  · rfl
theorem q21 : ∀ x r, g21 x = some r → ∃ N, p21 N x = some r := by
  refine Spec_of (ks := p21_ks) (rs := p21_rs) fun x hw _ => ⟨200, ?_⟩
  obtain ⟨(a : List Int), (b : List Int), u⟩ := x
  obtain ⟨ha, hb⟩ := wf_pp.1 hw
  unfold p21
  refine (iter_run (F := p21_l3_F 200) (s := fun i => ((i : Int), a, b, List.replicate 256 0, part (mval a b) (2 * i) (List.replicate 256 0), ())) (y := (List.replicate 256 0, fMulN a b, ())) 128 ?_ ?_ 200 (by omega)).trans ?_
  · intro i hi kn
    have h0 := ha.at (2 * i); have h1 := ha.at (2 * i + 1); have k0 := hb.at (2 * i); have k1 := hb.at (2 * i + 1)
    have c1 : 2 * (i : Int) = ((2 * i : Nat) : Int) := by omega
    have c2 : ((2 * i : Nat) : Int) + 1 = ((2 * i + 1 : Nat) : Int) := by omega
    have hr := root_bound i
    have m0 : mval a b (2 * i) = ((a.getD (2 * i) 0 % 3329) * (b.getD (2 * i) 0 % 3329) + (a.getD (2 * i + 1) 0 % 3329) * (b.getD (2 * i + 1) 0 % 3329) % 3329 * root i) % 3329 := by
      unfold mval; rw [if_pos (by omega), show 2 * i / 2 = i by omega]
    have m1 : mval a b (2 * i + 1) = ((a.getD (2 * i) 0 % 3329) * (b.getD (2 * i + 1) 0 % 3329) + (a.getD (2 * i + 1) 0 % 3329) * (b.getD (2 * i) 0 % 3329)) % 3329 := by
      unfold mval; rw [if_neg (by omega), show 2 * i + 1 - 1 = 2 * i by omega]
    have z0 := mul_bound (a := a.getD (2 * i) 0 % 3329) (b := b.getD (2 * i) 0 % 3329) (by omega) (by omega)
    have z1 := mul_bound (a := a.getD (2 * i + 1) 0 % 3329) (b := b.getD (2 * i + 1) 0 % 3329) (by omega) (by omega)
    have z2 := mul_bound (a := a.getD (2 * i) 0 % 3329) (b := b.getD (2 * i + 1) 0 % 3329) (by omega) (by omega)
    have z3 := mul_bound (a := a.getD (2 * i + 1) 0 % 3329) (b := b.getD (2 * i) 0 % 3329) (by omega) (by omega)
    have z4 := mul_bound (a := (a.getD (2 * i + 1) 0 % 3329) * (b.getD (2 * i + 1) 0 % 3329) % 3329) (b := root i) (by omega) hr
    have t1 := at48 (n := (i : Int)) (by omega)
    simp only [Int.toNat_natCast] at t1
    unfold p21_l3_F
    simp (disch := omega) only [if_pos, c1, wrap_i64, c2, Int.toNat_natCast, t1, Option.bind_some, tmod_pos, wrap_u16]
    rw [part_set' (h := mval a b) (i := 2 * i) (by rw [List.length_replicate]; omega) m0.symm, part_set' (h := mval a b) (i := 2 * i + 1) (by rw [List.length_replicate]; omega) m1.symm]
    rfl
  · intro kn
    unfold p21_l3_F
    dsimp only
    rw [if_neg (by decide)]
    rw [part_all (n := 2 * 128) (by rw [List.length_replicate])]
    rfl
  · rfl
theorem at20 {a b : List Int} (ha : u16s 256 a) (hb : u16s 256 b) : g20 (a, b, ()) = some (fMulN a b) := Spec_at (ks := p20_ks) (rs := p20_rs) (wf_pp.2 ⟨ha, hb⟩) trivial
theorem at21 {a b : List Int} (ha : u16s 256 a) (hb : u16s 256 b) : g21 (a, b, ()) = some (fMulN a b) := Spec_at (ks := p21_ks) (rs := p21_rs) (wf_pp.2 ⟨ha, hb⟩) trivial
theorem q5 : ∀ x r, g5 x = some r → ∃ N, p5 N x = some r := by
  refine Spec_of (ks := p5_ks) (rs := p5_rs) fun x hw _ => ⟨0, ?_⟩
  obtain ⟨(a : List Int), (b : List Int), u⟩ := x
  obtain ⟨ha, hb⟩ := wf_pp.1 hw
  unfold p5
  simp only [at18, at20 ha hb, at21 ha hb, Option.bind_some, if_true, decide_true]
theorem s59 : SigOk Go.Proofs.Try.prog 59 ⟨p59_ks, p59_rs, g59⟩ := p59_ok q59
theorem s51 : SigOk Go.Proofs.Try.prog 51 ⟨p51_ks, p51_rs, g51⟩ := p51_ok q51
theorem s48 : SigOk Go.Proofs.Try.prog 48 ⟨p48_ks, p48_rs, g48⟩ := p48_ok s59 s51 q48
theorem s20 : SigOk Go.Proofs.Try.prog 20 ⟨p20_ks, p20_rs, g20⟩ := p20_ok s37 s46 s47 q20
theorem s21 : SigOk Go.Proofs.Try.prog 21 ⟨p21_ks, p21_rs, g21⟩ := p21_ok s48 q21
theorem s5 : SigOk Go.Proofs.Try.prog 5 ⟨p5_ks, p5_rs, g5⟩ := p5_ok s18 s20 s21 q5
end Go.Ax.TryP
