/- A part of the proof: RingQ2. -/
import Derived.Test.YtefpbeklpfihfaaRingQ1
/-! ### Compress, Decompress and the law about them -/
namespace Go.Ax.TryP

theorem at19 {a b c : Int} (h1 : 0 ≤ a ∧ a ≤ 65535) (h2 : 0 < b ∧ b ≤ 65536) (h3 : 0 < c ∧ c ≤ 65536) : g19 (a, b, c, ()) = some ((2 * a * b + c) / (2 * c)) :=
  Spec_at (ks := p19_ks) (rs := p19_rs) (by simp [wfAll, Kd.wf, okInt_i64]; omega) ⟨h1.1, h1.2, h2.1, h2.2, h3.1, h3.2⟩
theorem at45 {d : Int} (h : 0 ≤ d ∧ d ≤ 12) : g45 (d, ()) = some (2 ^ d.toNat) :=
  Spec_at (ks := p45_ks) (rs := p45_rs) (by simp [wfAll, Kd.wf, okInt_i64]; omega) h
theorem at37 {a : List Int} (h : u16s 256 a) : g37 (a, ()) = some (fRed a) := Spec_at (ks := p37_ks) (rs := p37_rs) (wf_one.2 h) trivial
theorem at47 {a b : Int} (ha : 0 ≤ a ∧ a ≤ 65535) (hb : 0 ≤ b ∧ b ≤ 65535) : g47 (a, b, ()) = some (a * b % 3329) :=
  Spec_at (ks := p47_ks) (rs := p47_rs) (by simp only [wfAll, Kd.wf, okInt_u16]; exact ⟨ha, hb, trivial⟩) trivial

theorem q15 : ∀ x r, g15 x = some r → ∃ N, p15 N x = some r := by
  refine Spec_of (ks := p15_ks) (rs := p15_rs) fun x hw _ => ⟨257, ?_⟩
  obtain ⟨(d : Int), (a : List Int), u⟩ := x
  obtain ⟨hd, ha⟩ := wf_two hw
  have hal := ha.1
  unfold p15 fCompress
  by_cases h1 : d < 1
  · simp only [h1, if_true, true_or]; rfl
  by_cases h2 : 11 < d
  · simp only [h1, h2, if_false, or_true, if_true]; rfl
  obtain ⟨p0, p1⟩ := two_pow (show 0 ≤ d by omega) (by omega)
  simp only [h1, h2, if_false, or_self]
  refine (iter_run (s := fun i => (d, (i : Int), part (fun i => fComp d (a.getD i 0)) i a, List.replicate 256 0, ())) (y := (poly fun i => fComp d (a.getD i 0), List.replicate 256 0, ())) 256 ?_ ?_ 257 (by omega)).trans ?_
  · intro i hi kn
    have h0 := ha.at i
    have hz : 0 ≤ a.getD i 0 % 3329 ∧ a.getD i 0 % 3329 ≤ 3328 := by omega
    have hb := fComp_bound (d := d) (by omega) (by omega) (a.getD i 0)
    have hn := at19 (a := a.getD i 0 % 3329) (b := 2 ^ d.toNat) (c := 3329) (by omega) (by omega) (by omega)
    have hq0 : 0 ≤ (2 * (a.getD i 0 % 3329) * 2 ^ d.toNat + 3329) / (2 * 3329) :=
      Int.ediv_nonneg (by have := Int.mul_nonneg (a := 2 * (a.getD i 0 % 3329)) (b := 2 ^ d.toNat) (by omega) (by omega); omega) (by omega)
    unfold p15_l4_F
    simp (disch := omega) only [if_pos, if_neg, wrap_i64, Int.toNat_natCast, part_getD (Nat.le_refl i), tmod_pos, at45, Option.bind_some, hn]
    change kn (d, (i : Int) + 1, (part _ i a).set i (IntKind.u16.wrap (fComp d (a.getD i 0))), _) = _
    simp (disch := omega) only [wrap_u16]
    rw [part_set' (h := fun i => fComp d (a.getD i 0)) (by omega) rfl]
    rfl
  · intro kn
    unfold p15_l4_F
    simp (disch := omega) only [if_neg]
    rw [part_all hal]
    rfl
  · rfl

theorem fDecomp_bound {d : Int} (h0 : 1 ≤ d) (h1 : d ≤ 11) (z : Int) : 0 ≤ fDecomp d z ∧ fDecomp d z ≤ 3329 := by
  obtain ⟨p0, p1⟩ := two_pow (show 0 ≤ d by omega) (by omega)
  unfold fDecomp
  have m0 := Int.emod_nonneg z (show (2 : Int) ^ d.toNat ≠ 0 by omega)
  have m1 := Int.emod_lt_of_pos z p0
  generalize z % 2 ^ d.toNat = y at *
  generalize (2 : Int) ^ d.toNat = w at *
  refine ⟨Int.ediv_nonneg (by omega) (by omega), ?_⟩
  refine Int.ediv_le_of_le_mul (by omega) ?_
  have : y * 3329 ≤ w * 3329 := by omega
  omega
theorem q16 : ∀ x r, g16 x = some r → ∃ N, p16 N x = some r := by
  refine Spec_of (ks := p16_ks) (rs := p16_rs) fun x hw _ => ⟨257, ?_⟩
  obtain ⟨(d : Int), (a : List Int), u⟩ := x
  obtain ⟨hd, ha⟩ := wf_two hw
  have hal := ha.1
  unfold p16 fDecompress
  by_cases h1 : d < 1
  · simp only [h1, if_true, true_or]; rfl
  by_cases h2 : 11 < d
  · simp only [h1, h2, if_false, or_true, if_true]; rfl
  obtain ⟨p0, p1⟩ := two_pow (show 0 ≤ d by omega) (by omega)
  simp only [h1, h2, if_false, or_self]
  refine (iter_run (s := fun i => (d, a, (i : Int), part (fun i => fDecomp d (a.getD i 0)) i a, List.replicate 256 0, ())) (y := (poly fun i => fDecomp d (a.getD i 0), List.replicate 256 0, ())) 256 ?_ ?_ 257 (by omega)).trans ?_
  · intro i hi kn
    have h0 := ha.at i
    have hb := fDecomp_bound (d := d) (by omega) (by omega) (a.getD i 0)
    have h1sh : ishl .u32 1 d = 2 ^ d.toNat := by rw [ishl_u32 (by omega) (by omega) (by omega) (by omega), Int.one_mul]
    have m0 := Int.emod_nonneg (a.getD i 0) (show (2 : Int) ^ d.toNat ≠ 0 by omega)
    have m1 := Int.emod_lt_of_pos (a.getD i 0) p0
    have hsr : ∀ x : Int, ishr .u32 x (d + 1) = x / (2 * 2 ^ d.toNat) := by
      intro x
      unfold ishr
      rw [show min (d + 1).toNat IntKind.u32.bits = (d + 1).toNat by simp [IntKind.bits]; omega, pow_toNat_succ (by omega), Int.mul_comm 2, Int.fdiv_eq_ediv_of_nonneg _ (by omega)]
    have hc : (6658 * (a.getD i 0 % 2 ^ d.toNat) + 2 ^ d.toNat) / (2 * 2 ^ d.toNat) = fDecomp d (a.getD i 0) := by
      unfold fDecomp
      rw [show 2 * (a.getD i 0 % 2 ^ d.toNat) * 3329 = 6658 * (a.getD i 0 % 2 ^ d.toNat) by omega]
    unfold p16_l4_F
    simp (disch := omega) only [if_pos, if_neg, wrap_i64, wrap_u32, Int.toNat_natCast, h1sh, tmod_pos, hsr, hc]
    simp (disch := omega) only [wrap_u16]
    rw [part_set' (h := fun i => fDecomp d (a.getD i 0)) (by omega) rfl]
    rfl
  · intro kn
    unfold p16_l4_F
    simp (disch := omega) only [if_neg]
    rw [part_all hal]
    rfl
  · rfl

theorem q17 : ∀ x r, g17 x = some r → ∃ N, p17 N x = some r := by
  refine Spec_of (ks := p17_ks) (rs := p17_rs) fun x hw _ => ⟨257, ?_⟩
  obtain ⟨(d : Int), (a : List Int), u⟩ := x
  obtain ⟨hd, ha⟩ := wf_two hw
  have hal := ha.1
  unfold p17 fDecompress
  by_cases h1 : d < 1
  · simp only [h1, if_true, true_or]; rfl
  by_cases h2 : 11 < d
  · simp only [h1, h2, if_false, or_true, if_true]; rfl
  obtain ⟨p0, p1⟩ := two_pow (show 0 ≤ d by omega) (by omega)
  simp only [h1, h2, if_false, or_self]
  refine (iter_run (s := fun i => (d, (i : Int), part (fun i => fDecomp d (a.getD i 0)) i a, List.replicate 256 0, ())) (y := (poly fun i => fDecomp d (a.getD i 0), List.replicate 256 0, ())) 256 ?_ ?_ 257 (by omega)).trans ?_
  · intro i hi kn
    have h0 := ha.at i
    have hb := fDecomp_bound (d := d) (by omega) (by omega) (a.getD i 0)
    have m0 := Int.emod_nonneg (a.getD i 0) (show (2 : Int) ^ d.toNat ≠ 0 by omega)
    have m1 := Int.emod_lt_of_pos (a.getD i 0) p0
    have hn := at19 (a := a.getD i 0 % 2 ^ d.toNat) (b := 3329) (c := 2 ^ d.toNat) (by omega) (by omega) (by omega)
    unfold p17_l4_F
    simp (disch := omega) only [if_pos, if_neg, wrap_i64, Int.toNat_natCast, part_getD (Nat.le_refl i), tmod_pos, at45, Option.bind_some, hn]
    change kn (d, (i : Int) + 1, (part _ i a).set i (IntKind.u16.wrap (fDecomp d (a.getD i 0))), _) = _
    simp (disch := omega) only [wrap_u16]
    rw [part_set' (h := fun i => fDecomp d (a.getD i 0)) (by omega) rfl]
    rfl
  · intro kn
    unfold p17_l4_F
    simp (disch := omega) only [if_neg]
    rw [part_all hal]
    rfl
  · rfl

/-! #### The powers of 17 -/
theorem rev8_table : ∀ n, n < 256 → bt p58_s0 n = (rev8 n : Int) ∧ rev8 n < 256 := by decide +kernel
theorem q58 : ∀ x r, g58 x = some r → ∃ N, p58 N x = some r := by
  refine Spec_of (ks := p58_ks) (rs := p58_rs) fun x hw _ => ⟨0, ?_⟩
  obtain ⟨(n : Int), u⟩ := x
  simp only [wfAll, Kd.wf, okInt_u8] at hw
  have hs : p58_s0.size = 256 := by decide +kernel
  have ht := (rev8_table n.toNat (by omega)).1
  unfold p58
  rw [hs]
  simp (disch := omega) only [if_pos]
  rw [ht]
end Go.Ax.TryP
