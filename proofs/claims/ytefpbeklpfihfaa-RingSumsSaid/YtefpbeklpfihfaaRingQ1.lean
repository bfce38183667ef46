/- A part of the proof: RingQ1. -/
import Derived.Test.YtefpbeklpfihfaaRingP1
/-! ### The printed functions compute what is specified -/
namespace Go.Ax.TryP

theorem pow_le {n : Nat} (h : n ≤ 12) : (2 : Int) ^ n ≤ 4096 := (by decide : ∀ n, n ≤ 12 → (2 : Int) ^ n ≤ 4096) n h
theorem wf_one {a : List Int} : wfAll [.xs (.int .u16) 256] (a, ()) ↔ u16s 256 a := by simp [wfAll, wf_u16s]
theorem fRed_u16 (a : List Int) : u16s 256 (fRed a) := u16s.range fun i _ => by omega
theorem fRed_lt (a : List Int) (i : Nat) : 0 ≤ (fRed a).getD i 0 ∧ (fRed a).getD i 0 < 3329 := by
  by_cases hi : i < 256
  · rw [fRed, poly, map_range_getD hi]; omega
  · rw [List.getD_eq_getElem?_getD, List.getElem?_eq_none (by simp [fRed, poly]; omega)]; simp

theorem q37 : ∀ x r, g37 x = some r → ∃ N, p37 N x = some r := by
  refine Spec_of (ks := p37_ks) (rs := p37_rs) fun x hw _ => ⟨257, ?_⟩
  obtain ⟨(a : List Int), u⟩ := x
  have ha := wf_one.1 hw
  have hl := ha.1
  unfold p37
  refine (iter_run (s := fun i => ((i : Int), part (fun i => a.getD i 0 % 3329) i a, List.replicate 256 0, ())) (y := (fRed a, List.replicate 256 0, ())) 256 ?_ ?_ 257 (by omega)).trans ?_
  · intro i hi kn
    have h0 := ha.at i
    unfold p37_l2_F
    simp (disch := omega) only [if_pos, wrap_i64, Int.toNat_natCast, part_getD (Nat.le_refl i)]
    rw [part_set' (by omega) (tmod_pos h0.1), Int.natCast_add]
    rfl
  · intro kn
    unfold p37_l2_F
    simp (disch := omega) only [if_neg]
    rw [part_all hl]
    rfl
  · rfl

theorem q38 : ∀ x r, g38 x = some r → ∃ N, p38 N x = some r := by
  refine Spec_of (ks := p38_ks) (rs := p38_rs) fun x hw _ => ⟨257, ?_⟩
  obtain ⟨(a : List Int), u⟩ := x
  have ha := wf_one.1 hw
  have hl := ha.1
  unfold p38
  refine (iter_run (s := fun i => ((i : Int), part (fun i => a.getD i 0 % 3329) i a, List.replicate 256 0, ())) (y := (fRed a, List.replicate 256 0, ())) 256 ?_ ?_ 257 (by omega)).trans ?_
  · intro i hi kn
    have h0 := ha.at i
    unfold p38_l2_F
    simp (disch := omega) only [if_pos, wrap_i64, Int.toNat_natCast, part_getD (Nat.le_refl i)]
    rw [part_set' (by omega) (tmod_pos h0.1), Int.natCast_add]
    rfl
  · intro kn
    unfold p38_l2_F
    simp (disch := omega) only [if_neg]
    rw [part_all hl]
    rfl
  · rfl

theorem q45 : ∀ x r, g45 x = some r → ∃ N, p45 N x = some r := by
  refine Spec_of (ks := p45_ks) (rs := p45_rs) fun x hw hq => ⟨100, ?_⟩
  obtain ⟨(d : Int), u⟩ := x
  obtain ⟨n, rfl⟩ := Int.eq_ofNat_of_zero_le hq.1
  have hn : n ≤ 12 := by have : (n : Int) ≤ 12 := hq.2; omega
  unfold p45
  refine (iter_run (s := fun i => ((2 : Int) ^ i, (n : Int), (i : Int), ())) (y := ((2 : Int) ^ n, ())) n ?_ ?_ 100 (by omega)).trans ?_
  · intro i hi kn
    have hp : (2 : Int) ^ i ≤ 4096 := pow_le (show i ≤ 12 by omega)
    have hp0 : (0 : Int) < 2 ^ i := Int.pow_pos (by omega)
    unfold p45_l3_F
    simp (disch := omega) only [if_pos, wrap_i64, Int.pow_succ, Int.natCast_add, Int.cast_ofNat_Int]
  · intro kn
    unfold p45_l3_F
    simp (disch := omega) only [if_neg]
  · rfl

theorem q19 : ∀ x r, g19 x = some r → ∃ N, p19 N x = some r := by
  refine Spec_of (ks := p19_ks) (rs := p19_rs) fun x hw hq => ⟨0, ?_⟩
  obtain ⟨(a : Int), (b : Int), (c : Int), u⟩ := x
  obtain ⟨h1, h2, h3, h4, h5, h6⟩ : 0 ≤ a ∧ a ≤ 65535 ∧ 0 < b ∧ b ≤ 65536 ∧ 0 < c ∧ c ≤ 65536 := hq
  have hm0 : 0 ≤ 2 * a * b := Int.mul_nonneg (by omega) (by omega)
  have hm : 2 * a * b ≤ 131070 * 65536 := Int.mul_le_mul (by omega) h4 (by omega) (by omega)
  have hd : (2 * a * b + c) / (2 * c) ≤ 2 * a * b + c := Int.ediv_le_self _ (by omega)
  have hd0 : 0 ≤ (2 * a * b + c) / (2 * c) := Int.ediv_nonneg (by omega) (by omega)
  unfold p19
  simp (disch := omega) only [if_neg, wrap_i64, tdiv_pos]

theorem times_bound {a b : Int} (ha : 0 ≤ a ∧ a ≤ 65535) (hb : 0 ≤ b ∧ b ≤ 65535) : 0 ≤ a * b ∧ a * b ≤ 4294967295 := by
  have h1 : a * b ≤ 65535 * 65535 := Int.mul_le_mul ha.2 hb.2 hb.1 (by omega)
  exact ⟨Int.mul_nonneg ha.1 hb.1, by omega⟩
theorem q47 : ∀ x r, g47 x = some r → ∃ N, p47 N x = some r := by
  refine Spec_of (ks := p47_ks) (rs := p47_rs) fun x hw hq => ⟨0, ?_⟩
  obtain ⟨(a : Int), (b : Int), u⟩ := x
  simp only [wfAll, Kd.wf, okInt_u16] at hw
  obtain ⟨ha, hb, _⟩ := hw
  have hm := times_bound ha hb
  unfold p47
  simp (disch := omega) only [wrap_u32, tmod_pos, wrap_u16]

theorem two_pow {d : Int} (h0 : 0 ≤ d) (h1 : d ≤ 12) : (0 : Int) < 2 ^ d.toNat ∧ (2 : Int) ^ d.toNat ≤ 4096 := by
  obtain ⟨n, rfl⟩ := Int.eq_ofNat_of_zero_le h0
  exact ⟨Int.pow_pos (by omega), pow_le (show n ≤ 12 by omega)⟩
theorem ishl_u32 {x d : Int} (hx : 0 ≤ x) (h0 : 0 ≤ d) (h1 : d ≤ 31) (hx2 : x * 2 ^ d.toNat ≤ 4294967295) : ishl .u32 x d = x * 2 ^ d.toNat := by
  unfold ishl
  rw [show min d.toNat IntKind.u32.bits = d.toNat by simp [IntKind.bits]; omega]
  exact wrap_u32 (Int.mul_nonneg hx (Int.le_of_lt (Int.pow_pos (by omega)))) hx2
theorem fComp_bound {d : Int} (h0 : 1 ≤ d) (h1 : d ≤ 11) (z : Int) : 0 ≤ fComp d z ∧ fComp d z < 2 ^ d.toNat := by
  obtain ⟨p0, p1⟩ := two_pow (show 0 ≤ d by omega) (by omega)
  exact ⟨Int.emod_nonneg _ (by omega), Int.emod_lt_of_pos _ p0⟩
theorem pow_toNat_succ {d : Int} (h0 : 0 ≤ d) : (2 : Int) ^ (d + 1).toNat = 2 ^ d.toNat * 2 := by
  rw [show (d + 1).toNat = d.toNat + 1 by omega, Int.pow_succ]

theorem wf_two {d : Int} {a : List Int} (h : wfAll [.int .i64, .xs (.int .u16) 256] (d, a, ())) : (-9223372036854775808 ≤ d ∧ d ≤ 9223372036854775807) ∧ u16s 256 a := by
  simp only [wfAll, Kd.wf, okInt_i64, okInt_u16] at h
  exact ⟨h.1, h.2.1⟩

theorem q14 : ∀ x r, g14 x = some r → ∃ N, p14 N x = some r := by
  refine Spec_of (ks := p14_ks) (rs := p14_rs) fun x hw _ => ⟨257, ?_⟩
  obtain ⟨(d : Int), (a : List Int), u⟩ := x
  obtain ⟨hd, ha⟩ := wf_two hw
  unfold p14 fCompress
  by_cases h1 : d < 1
  · simp only [h1, if_true, true_or]; rfl
  by_cases h2 : 11 < d
  · simp only [h1, h2, if_false, or_true, if_true]; rfl
  obtain ⟨p0, p1⟩ := two_pow (show 0 ≤ d by omega) (by omega)
  simp only [h1, h2, if_false, or_self]
  rw [show g37 (a, ()) = some (fRed a) from Spec_at hw.2 trivial]
  simp only [Option.bind_some]
  refine (iter_run (s := fun i => (d, fRed a, (i : Int), part (fun i => fComp d (a.getD i 0)) i (fRed a), List.replicate 256 0, ())) (y := (poly fun i => fComp d (a.getD i 0), List.replicate 256 0, ())) 256 ?_ ?_ 257 (by omega)).trans ?_
  · intro i hi kn
    have h0 := ha.at i
    have hr : (fRed a).getD i 0 = a.getD i 0 % 3329 := by rw [fRed, poly, map_range_getD hi]
    have hz : 0 ≤ a.getD i 0 % 3329 ∧ a.getD i 0 % 3329 ≤ 3328 := by omega
    have hl : (fRed a).length = 256 := (fRed_u16 a).1
    generalize hzz : a.getD i 0 % 3329 = z at *
    have hm0 : 0 ≤ z * 2 ^ d.toNat := Int.mul_nonneg hz.1 (by omega)
    have hm : z * 2 ^ d.toNat ≤ 3328 * 4096 := Int.mul_le_mul hz.2 p1 (by omega) (by omega)
    have hsh : ishl .u32 z (d + 1) = z * 2 ^ d.toNat * 2 := by
      rw [ishl_u32 hz.1 (by omega) (by omega) (by rw [pow_toNat_succ (by omega), ← Int.mul_assoc]; omega), pow_toNat_succ (by omega), Int.mul_assoc]
    have h1sh : ishl .u32 1 d = 2 ^ d.toNat := by rw [ishl_u32 (by omega) (by omega) (by omega) (by omega), Int.one_mul]
    unfold p14_l5_F
    simp (disch := omega) only [if_pos, if_neg, wrap_i64, wrap_u32, Int.toNat_natCast, hr, hsh, h1sh, tdiv_pos, tmod_pos]
    have hb := fComp_bound (d := d) (by omega) (by omega) (a.getD i 0)
    have hc : (z * 2 ^ d.toNat * 2 + 3329) / 6658 % 2 ^ d.toNat = fComp d (a.getD i 0) := by
      unfold fComp
      rw [hzz, Int.mul_assoc 2 z, Int.mul_comm 2 (z * _)]
      rfl
    rw [hc]
    simp (disch := omega) only [wrap_u16]
    rw [part_set' (h := fun i => fComp d (a.getD i 0)) (by omega) rfl]
    rfl
  · intro kn
    unfold p14_l5_F
    simp (disch := omega) only [if_neg]
    rw [part_all (fRed_u16 a).1]
    rfl
  · rfl
end Go.Ax.TryP
