/- A part of the proof: DringQ1. -/
import Derived.Test.YtnokmgclkediiaaDringP1
/-! ### The printed functions compute what is specified (modulo 8380417) -/
namespace Go.Ax.TryP

theorem wf_d1 {a : List Int} : wfAll [.xs (.int .i32) 256] (a, ()) ↔ i32s 256 a := by simp [wfAll, wf_i32s]
theorem i32_at {a : List Int} (h : i32s 256 a) (i : Nat) : -2147483648 ≤ a.getD i 0 ∧ a.getD i 0 ≤ 2147483647 := rows.at h (by omega) i
theorem dpoly_len (h : Nat → Int) : (dpoly h).length = 256 := by simp [dpoly]
theorem dpoly_getD {h : Nat → Int} {i : Nat} (hi : i < 256) : (dpoly h).getD i 0 = h i := map_range_getD hi
theorem fDRed_ok (a : List Int) : rows 0 8380416 256 (fDRed a) := rows.range fun i _ => by omega
theorem fDRed_at (a : List Int) (i : Nat) : 0 ≤ (fDRed a).getD i 0 ∧ (fDRed a).getD i 0 ≤ 8380416 := rows.at (fDRed_ok a) (by omega) i
theorem fDRed_i32 (a : List Int) : i32s 256 (fDRed a) := (fDRed_ok a).mono (by omega) (by omega)
theorem fDRed_getD {a : List Int} {i : Nat} (hi : i < 256) : (fDRed a).getD i 0 = a.getD i 0 % 8380417 := dpoly_getD hi

theorem q_dring_below : ∀ x r, g_dring_below x = some r → ∃ N, p_dring_below N x = some r := by
  refine Spec_of (ks := p_dring_below_ks) (rs := p_dring_below_rs) fun x hw _ => ⟨0, ?_⟩
  obtain ⟨(z : Int), u⟩ := x
  have h := tmod_fix (a := z) (b := 8380417) (by omega)
  have h1 := Int.emod_nonneg z (show (8380417 : Int) ≠ 0 by omega)
  have h2 := Int.emod_lt_of_pos z (show (0 : Int) < 8380417 by omega)
  unfold p_dring_below
  simp only at h ⊢
  split
  · rename_i hlt
    rw [if_pos hlt] at h
    rw [h, wrap_i64 (by omega) (by omega), wrap_i32 (by omega) (by omega)]
  · rename_i hlt
    rw [if_neg hlt] at h
    rw [h, wrap_i32 (by omega) (by omega)]
theorem q_ref15_mod : ∀ x r, g_ref15_mod x = some r → ∃ N, p_ref15_mod N x = some r := by
  refine Spec_of (ks := p_ref15_mod_ks) (rs := p_ref15_mod_rs) fun x hw _ => ⟨0, ?_⟩
  obtain ⟨(z : Int), u⟩ := x
  have h := tmod_fix (a := z) (b := 8380417) (by omega)
  have h1 := Int.emod_nonneg z (show (8380417 : Int) ≠ 0 by omega)
  have h2 := Int.emod_lt_of_pos z (show (0 : Int) < 8380417 by omega)
  unfold p_ref15_mod
  simp only at h ⊢
  split
  · rename_i hlt
    rw [if_pos hlt] at h
    rw [h, wrap_i64 (by omega) (by omega)]
  · rename_i hlt
    rw [if_neg hlt] at h
    rw [h]

theorem at_below {z : Int} (h1 : -9223372036854775808 ≤ z) (h2 : z ≤ 9223372036854775807) : g_dring_below (z, ()) = some (z % 8380417) :=
  Spec_at (ks := p_dring_below_ks) (rs := p_dring_below_rs) (x := (z, ())) ⟨okInt_i64.2 ⟨h1, h2⟩, trivial⟩ trivial
theorem at_mod {z : Int} (h1 : -9223372036854775808 ≤ z) (h2 : z ≤ 9223372036854775807) : g_ref15_mod (z, ()) = some (z % 8380417) :=
  Spec_at (ks := p_ref15_mod_ks) (rs := p_ref15_mod_rs) (x := (z, ())) ⟨okInt_i64.2 ⟨h1, h2⟩, trivial⟩ trivial

theorem q_dring_Reduce_1 : ∀ x r, g_dring_Reduce_1 x = some r → ∃ N, p_dring_Reduce_1 N x = some r := by
  refine Spec_of (ks := p_dring_Reduce_1_ks) (rs := p_dring_Reduce_1_rs) fun x hw _ => ⟨0, ?_⟩
  obtain ⟨(z : Int), u⟩ := x
  have hz := okInt_i32.1 hw.1
  simp only at hz
  unfold p_dring_Reduce_1
  simp only
  rw [wrap_i64 (by omega) (by omega), at_below (by omega) (by omega)]
  rfl
theorem at_Reduce_1 {z : Int} (h1 : -2147483648 ≤ z) (h2 : z ≤ 2147483647) : g_dring_Reduce_1 (z, ()) = some (z % 8380417) :=
  Spec_at (ks := p_dring_Reduce_1_ks) (rs := p_dring_Reduce_1_rs) (x := (z, ())) ⟨okInt_i32.2 ⟨h1, h2⟩, trivial⟩ trivial

theorem q_dring_each__dring_Reduce_1 : ∀ x r, g_dring_each__dring_Reduce_1 x = some r → ∃ N, p_dring_each__dring_Reduce_1 N x = some r := by
  refine Spec_of (ks := p_dring_each__dring_Reduce_1_ks) (rs := p_dring_each__dring_Reduce_1_rs) fun x hw _ => ⟨257, ?_⟩
  obtain ⟨(a : List Int), u, u'⟩ := x
  have ha : i32s 256 a := wf_i32s.1 hw.1
  have hl := ha.1
  unfold p_dring_each__dring_Reduce_1
  refine (iter_run (s := fun i => (a, (i : Int), part (fun i => a.getD i 0 % 8380417) i a, List.replicate 256 0, ())) (y := (fDRed a, List.replicate 256 0, ())) 256 ?_ ?_ 257 (by omega)).trans ?_
  · intro i hi kn
    have h0 := i32_at ha i
    unfold p_dring_each__dring_Reduce_1_l2_F
    simp (disch := omega) only [if_pos, wrap_i64, Int.toNat_natCast, at_Reduce_1, Option.bind_some]
    rw [part_set' (by omega) rfl, Int.natCast_add]
    rfl
  · intro kn
    unfold p_dring_each__dring_Reduce_1_l2_F
    simp (disch := omega) only [if_neg]
    rw [part_all hl]
    rfl
  · rfl
theorem q_dring_Reduce : ∀ x r, g_dring_Reduce x = some r → ∃ N, p_dring_Reduce N x = some r := by
  refine Spec_of (ks := p_dring_Reduce_ks) (rs := p_dring_Reduce_rs) fun x hw _ => ⟨0, ?_⟩
  obtain ⟨(a : List Int), u⟩ := x
  unfold p_dring_Reduce
  have h : g_dring_each__dring_Reduce_1 (a, (), ()) = some (fDRed a) := Spec_at (ks := p_dring_each__dring_Reduce_1_ks) (rs := p_dring_each__dring_Reduce_1_rs) (x := (a, (), ())) ⟨hw.1, trivial, trivial⟩ trivial
  simp only
  rw [h]
  rfl
theorem at_Reduce {a : List Int} (h : i32s 256 a) : g_dring_Reduce (a, ()) = some (fDRed a) :=
  Spec_at (ks := p_dring_Reduce_ks) (rs := p_dring_Reduce_rs) (x := (a, ())) (wf_d1.2 h) trivial

theorem q_ref15_Reduce : ∀ x r, g_ref15_Reduce x = some r → ∃ N, p_ref15_Reduce N x = some r := by
  refine Spec_of (ks := p_ref15_Reduce_ks) (rs := p_ref15_Reduce_rs) fun x hw _ => ⟨257, ?_⟩
  obtain ⟨(a : List Int), u⟩ := x
  have ha := wf_d1.1 hw
  have hl := ha.1
  unfold p_ref15_Reduce
  refine (iter_run (s := fun i => ((i : Int), part (fun i => a.getD i 0 % 8380417) i a, List.replicate 256 0, ())) (y := (fDRed a, List.replicate 256 0, ())) 256 ?_ ?_ 257 (by omega)).trans ?_
  · intro i hi kn
    have h0 := i32_at ha i
    have hm : ∀ z : Int, 0 ≤ z % 8380417 ∧ z % 8380417 < 8380417 := fun z => by omega
    have hm0 := hm (a.getD i 0)
    unfold p_ref15_Reduce_l2_F
    simp (disch := omega) only [if_pos, wrap_i64, Int.toNat_natCast, part_getD_self, at_mod, Option.bind_some, wrap_i32]
    rw [part_set' (by omega) rfl, Int.natCast_add]
    rfl
  · intro kn
    unfold p_ref15_Reduce_l2_F
    simp (disch := omega) only [if_neg]
    rw [part_all hl]
    rfl
  · rfl
theorem at_rReduce {a : List Int} (h : i32s 256 a) : g_ref15_Reduce (a, ()) = some (fDRed a) :=
  Spec_at (ks := p_ref15_Reduce_ks) (rs := p_ref15_Reduce_rs) (x := (a, ())) (wf_d1.2 h) trivial

theorem q_dring_near : ∀ x r, g_dring_near x = some r → ∃ N, p_dring_near N x = some r := by
  refine Spec_of (ks := p_dring_near_ks) (rs := p_dring_near_rs) fun x hw hq => ⟨0, ?_⟩
  obtain ⟨(z : Int), (m : Int), u⟩ := x
  obtain ⟨h1, h2, h3, h4⟩ : 0 ≤ z ∧ z ≤ 8380416 ∧ 0 < m ∧ m ≤ 523776 := hq
  have e1 := Int.emod_nonneg z (show m ≠ 0 by omega)
  have e2 := Int.emod_lt_of_pos z h3
  unfold p_dring_near fNear
  simp only [tmod_pos h1, tdiv_pos (show (0 : Int) ≤ m by omega)]
  rw [if_neg (by omega), wrap_i32 (x := m / 2) (by omega) (by omega)]
  split
  · rw [wrap_i32 (by omega) (by omega)]
  · rfl
theorem at_near {z m : Int} (h1 : 0 ≤ z) (h2 : z ≤ 8380416) (h3 : 0 < m) (h4 : m ≤ 523776) : g_dring_near (z, m, ()) = some (fNear z m) :=
  Spec_at (ks := p_dring_near_ks) (rs := p_dring_near_rs) (x := (z, m, ())) ⟨okInt_i32.2 ⟨by omega, by omega⟩, okInt_i32.2 ⟨show -2147483648 ≤ m by omega, show m ≤ 2147483647 by omega⟩, trivial⟩ ⟨h1, h2, h3, h4⟩
theorem fNear_bound {z m : Int} (hz : 0 ≤ z) (h3 : 0 < m) : fNear z m ≤ m / 2 ∧ 2 * fNear z m ≥ -m ∧ fNear z m ≤ z ∧ z - fNear z m ≤ z + m := by
  have e1 := Int.emod_nonneg z (show m ≠ 0 by omega)
  have e2 := Int.emod_lt_of_pos z h3
  have e3 : z % m ≤ z := by
    have := Int.mul_ediv_add_emod z m
    have := Int.mul_nonneg (show 0 ≤ m by omega) (Int.ediv_nonneg hz (show 0 ≤ m by omega))
    omega
  unfold fNear
  split <;> omega

theorem q_dring_parts : ∀ x r, g_dring_parts x = some r → ∃ N, p_dring_parts N x = some r := by
  refine Spec_of (ks := p_dring_parts_ks) (rs := p_dring_parts_rs) fun x hw _ => ⟨0, ?_⟩
  obtain ⟨(z : Int), u⟩ := x
  have hz := okInt_i32.1 hw.1
  simp only at hz
  have h1 : 0 ≤ z % 8380417 ∧ z % 8380417 ≤ 8380416 := by omega
  have hb := fNear_bound (z := z % 8380417) (m := 523776) (by omega) (by omega)
  unfold p_dring_parts fDh fDl fDl0
  simp (disch := omega) only [wrap_i64, at_below, at_near, Option.bind_some, wrap_i32]
  generalize fNear (z % 8380417) 523776 = y at hb
  generalize z % 8380417 = x at h1 hb
  rw [tdiv_pos (by omega), wrap_i32 (x := (x - y) / 523776) (by omega) (by omega)]
  split <;> rfl
theorem at_parts {z : Int} (h1 : -2147483648 ≤ z) (h2 : z ≤ 2147483647) : g_dring_parts (z, ()) = some (fDh z, fDl z) :=
  Spec_at (ks := p_dring_parts_ks) (rs := p_dring_parts_rs) (x := (z, ())) ⟨okInt_i32.2 ⟨h1, h2⟩, trivial⟩ trivial

theorem ishr_i32 {x d : Int} (h : 0 ≤ d) (h1 : d ≤ 31) : ishr .i32 x d = x / 2 ^ d.toNat := by
  unfold ishr
  rw [show min d.toNat IntKind.i32.bits = d.toNat by simp [IntKind.bits]; omega]
  exact Int.fdiv_eq_ediv_of_nonneg _ (Int.le_of_lt (Int.pow_pos (by omega)))

theorem q_dring_Power2Round : ∀ x r, g_dring_Power2Round x = some r → ∃ N, p_dring_Power2Round N x = some r := by
  refine Spec_of (ks := p_dring_Power2Round_ks) (rs := p_dring_Power2Round_rs) fun x hw _ => ⟨257, ?_⟩
  obtain ⟨(a : List Int), u⟩ := x
  have ha := wf_d1.1 hw
  have hl := ha.1
  unfold p_dring_Power2Round
  have hz : (List.replicate 256 (0 : Int)).length = 256 := List.length_replicate ..
  generalize List.replicate 256 (0 : Int) = Z at hz ⊢
  simp only [at_Reduce ha, Option.bind_some]
  refine (iter_run (s := fun i => (fDRed a, (i : Int), part (fun i => fPh (a.getD i 0)) i (Z), part (fun i => fPl (a.getD i 0)) i (Z), ())) (y := (dpoly fun i => fPh (a.getD i 0), dpoly fun i => fPl (a.getD i 0), ())) 256 ?_ ?_ 257 (by omega)).trans ?_
  · intro i hi kn
    have h0 := fDRed_at a i
    have hb := fNear_bound (z := a.getD i 0 % 8380417) (m := 8192) (by omega) (by omega)
    have hp : ∀ h : Nat → Int, (part h i (Z)).length = 256 := fun h => by rw [part_length (by omega), hz]
    have hp1 := hp (fun i => fPh (a.getD i 0))
    have hp2 := hp (fun i => fPl (a.getD i 0))
    unfold p_dring_Power2Round_l2_F
    simp (disch := omega) only [if_pos, wrap_i64, Int.toNat_natCast, at_near, Option.bind_some, getD_set_eq, fDRed_getD, wrap_i32, ishr_i32]
    rw [part_set' (h := fun i => fPh (a.getD i 0)) (by omega) (by simp only [fPh, fPl]; rfl), part_set' (h := fun i => fPl (a.getD i 0)) (z := fNear (a.getD i 0 % 8380417) 8192) (by omega) rfl, Int.natCast_add]
    rfl
  · intro kn
    unfold p_dring_Power2Round_l2_F
    simp (disch := omega) only [if_neg]
    rw [part_all hz, part_all hz]
    rfl
  · rfl
theorem q_dring_Decompose : ∀ x r, g_dring_Decompose x = some r → ∃ N, p_dring_Decompose N x = some r := by
  refine Spec_of (ks := p_dring_Decompose_ks) (rs := p_dring_Decompose_rs) fun x hw _ => ⟨257, ?_⟩
  obtain ⟨(a : List Int), u⟩ := x
  have ha := wf_d1.1 hw
  have hl := ha.1
  unfold p_dring_Decompose
  have hz : (List.replicate 256 (0 : Int)).length = 256 := List.length_replicate ..
  generalize List.replicate 256 (0 : Int) = Z at hz ⊢
  refine (iter_run (s := fun i => (a, (i : Int), part (fun i => fDh (a.getD i 0)) i (Z), part (fun i => fDl (a.getD i 0)) i (Z), ())) (y := (dpoly fun i => fDh (a.getD i 0), dpoly fun i => fDl (a.getD i 0), ())) 256 ?_ ?_ 257 (by omega)).trans ?_
  · intro i hi kn
    have h0 := i32_at ha i
    unfold p_dring_Decompose_l2_F
    simp (disch := omega) only [if_pos, wrap_i64, Int.toNat_natCast, at_parts, Option.bind_some]
    rw [part_set' (h := fun i => fDh (a.getD i 0)) (by omega) rfl, part_set' (h := fun i => fDl (a.getD i 0)) (by omega) rfl, Int.natCast_add]
    rfl
  · intro kn
    unfold p_dring_Decompose_l2_F
    simp (disch := omega) only [if_neg]
    rw [part_all hz, part_all hz]
    rfl
  · rfl
theorem at_P2R {a : List Int} (h : i32s 256 a) : g_dring_Power2Round (a, ()) = some (fP2R a) :=
  Spec_at (ks := p_dring_Power2Round_ks) (rs := p_dring_Power2Round_rs) (x := (a, ())) (wf_d1.2 h) trivial
theorem at_Dec {a : List Int} (h : i32s 256 a) : g_dring_Decompose (a, ()) = some (fDec a) :=
  Spec_at (ks := p_dring_Decompose_ks) (rs := p_dring_Decompose_rs) (x := (a, ())) (wf_d1.2 h) trivial
theorem at_rP2R {a : List Int} (h : i32s 256 a) : g_ref15_Power2Round (a, ()) = some (fP2R a) :=
  Spec_at (ks := p_ref15_Power2Round_ks) (rs := p_ref15_Power2Round_rs) (x := (a, ())) (wf_d1.2 h) trivial
theorem at_rDec {a : List Int} (h : i32s 256 a) : g_ref15_Decompose (a, ()) = some (fDec a) :=
  Spec_at (ks := p_ref15_Decompose_ks) (rs := p_ref15_Decompose_rs) (x := (a, ())) (wf_d1.2 h) trivial

theorem q_ref15_Power2Round : ∀ x r, g_ref15_Power2Round x = some r → ∃ N, p_ref15_Power2Round N x = some r := by
  refine Spec_of (ks := p_ref15_Power2Round_ks) (rs := p_ref15_Power2Round_rs) fun x hw _ => ⟨257, ?_⟩
  obtain ⟨(a : List Int), u⟩ := x
  have ha := wf_d1.1 hw
  have hl := ha.1
  unfold p_ref15_Power2Round
  have hz : (List.replicate 256 (0 : Int)).length = 256 := List.length_replicate ..
  generalize List.replicate 256 (0 : Int) = Z at hz ⊢
  simp only [at_rReduce ha, Option.bind_some]
  refine (iter_run (s := fun i => ((i : Int), fDRed a, Z, Z, part (fun i => fPh (a.getD i 0)) i (Z), part (fun i => fPl (a.getD i 0)) i (Z), ())) (y := (Z, Z, dpoly fun i => fPh (a.getD i 0), dpoly fun i => fPl (a.getD i 0), ())) 256 ?_ ?_ 257 (by omega)).trans ?_
  · intro i hi kn
    have h0 := fDRed_at a i
    have hb := fNear_bound (z := a.getD i 0 % 8380417) (m := 8192) (by omega) (by omega)
    have hp : ∀ h : Nat → Int, (part h i (Z)).length = 256 := fun h => by rw [part_length (by omega), hz]
    have hp1 := hp (fun i => fPh (a.getD i 0))
    have hp2 := hp (fun i => fPl (a.getD i 0))
    have key : ∀ v : Int, v = fPl (a.getD i 0) → ∀ w : Int, w = fPh (a.getD i 0) → ∀ kn : (Int × List Int × List Int × List Int × List Int × List Int × Unit) → Option (List Int × List Int),
        kn ((i : Int) + 1, fDRed a, Z, Z, (part (fun i => fPh (a.getD i 0)) i (Z)).set i w, (part (fun i => fPl (a.getD i 0)) i (Z)).set i v, ()) =
        kn (((i + 1 : Nat) : Int), fDRed a, Z, Z, part (fun i => fPh (a.getD i 0)) (i + 1) (Z), part (fun i => fPl (a.getD i 0)) (i + 1) (Z), ()) := by
      intro v hv w hw kn
      rw [part_set' (h := fun i => fPh (a.getD i 0)) (by omega) hw, part_set' (h := fun i => fPl (a.getD i 0)) (by omega) hv, Int.natCast_add]
      rfl
    have hA : (fDRed a).getD i 0 = a.getD i 0 % 8380417 := fDRed_getD hi
    have g1 : (i : Int) < 256 := by omega
    have g0 : (0 : Int) ≤ i := by omega
    have s1 : ∀ v : Int, ((part (fun i => fPl (a.getD i 0)) i Z).set i v).getD i 0 = v := fun v => getD_set_eq (by omega)
    unfold p_ref15_Power2Round_l4_F
    simp only [g1, g0, hi, if_true, Int.toNat_natCast, s1, List.set_set, hA]
    simp (disch := omega) only [tmod_pos, tdiv_pos, wrap_i32, wrap_i64]
    split
    · rename_i hgt
      have hv : a.getD i 0 % 8380417 % 8192 - 8192 = fPl (a.getD i 0) := by unfold fPl fNear; rw [if_pos (by omega)]
      refine key _ hv _ ?_ kn
      unfold fPh
      rw [← hv]
    · rename_i hgt
      have hv : a.getD i 0 % 8380417 % 8192 = fPl (a.getD i 0) := by unfold fPl fNear; rw [if_neg (by omega)]
      refine key _ hv _ ?_ kn
      unfold fPh
      rw [← hv]
  · intro kn
    unfold p_ref15_Power2Round_l4_F
    simp (disch := omega) only [if_neg]
    rw [part_all hz, part_all hz]
    rfl
  · rfl
theorem q_ref15_Decompose : ∀ x r, g_ref15_Decompose x = some r → ∃ N, p_ref15_Decompose N x = some r := by
  refine Spec_of (ks := p_ref15_Decompose_ks) (rs := p_ref15_Decompose_rs) fun x hw _ => ⟨257, ?_⟩
  obtain ⟨(a : List Int), u⟩ := x
  have ha := wf_d1.1 hw
  have hl := ha.1
  unfold p_ref15_Decompose
  have hz : (List.replicate 256 (0 : Int)).length = 256 := List.length_replicate ..
  have hz0 : ∀ i, (List.replicate 256 (0 : Int)).getD i 0 = 0 := getD_replicate 256
  generalize List.replicate 256 (0 : Int) = Z at hz hz0 ⊢
  simp only [at_rReduce ha, Option.bind_some]
  refine (iter_run (s := fun i => ((i : Int), fDRed a, Z, Z, part (fun i => fDh (a.getD i 0)) i Z, part (fun i => fDl (a.getD i 0)) i Z, ())) (y := (Z, Z, dpoly fun i => fDh (a.getD i 0), dpoly fun i => fDl (a.getD i 0), ())) 256 ?_ ?_ 257 (by omega)).trans ?_
  · intro i hi kn
    have h0 := fDRed_at a i
    have hp : ∀ h : Nat → Int, (part h i Z).length = 256 := fun h => by rw [part_length (by omega), hz]
    have hp1 := hp (fun i => fDh (a.getD i 0))
    have hp2 := hp (fun i => fDl (a.getD i 0))
    have key : ∀ v : Int, v = fDl (a.getD i 0) → ∀ w : Int, w = fDh (a.getD i 0) → ∀ kn : (Int × List Int × List Int × List Int × List Int × List Int × Unit) → Option (List Int × List Int),
        kn ((i : Int) + 1, fDRed a, Z, Z, (part (fun i => fDh (a.getD i 0)) i Z).set i w, (part (fun i => fDl (a.getD i 0)) i Z).set i v, ()) =
        kn (((i + 1 : Nat) : Int), fDRed a, Z, Z, part (fun i => fDh (a.getD i 0)) (i + 1) Z, part (fun i => fDl (a.getD i 0)) (i + 1) Z, ()) := by
      intro v hv w hw kn
      rw [part_set' (h := fun i => fDh (a.getD i 0)) (by omega) hw, part_set' (h := fun i => fDl (a.getD i 0)) (by omega) hv, Int.natCast_add]
      rfl
    have key0 : ∀ v : Int, v = fDl (a.getD i 0) → fDh (a.getD i 0) = 0 → ∀ kn : (Int × List Int × List Int × List Int × List Int × List Int × Unit) → Option (List Int × List Int),
        kn ((i : Int) + 1, fDRed a, Z, Z, part (fun i => fDh (a.getD i 0)) i Z, (part (fun i => fDl (a.getD i 0)) i Z).set i v, ()) =
        kn (((i + 1 : Nat) : Int), fDRed a, Z, Z, part (fun i => fDh (a.getD i 0)) (i + 1) Z, part (fun i => fDl (a.getD i 0)) (i + 1) Z, ()) := by
      intro v hv hw kn
      have e : part (fun i => fDh (a.getD i 0)) (i + 1) Z = part (fun i => fDh (a.getD i 0)) i Z := by
        rw [← part_set' (h := fun i => fDh (a.getD i 0)) (z := 0) (by omega) hw.symm]
        refine rows.ext (n := 256) (by rw [List.length_set, hp1]) hp1 fun j hj => ?_
        by_cases hji : i = j
        · subst hji
          rw [getD_set_eq (by omega), part_getD_self, hz0]
        · rw [getD_set_ne hji]
      rw [e, part_set' (h := fun i => fDl (a.getD i 0)) (by omega) hv, Int.natCast_add]
      rfl
    have hA : (fDRed a).getD i 0 = a.getD i 0 % 8380417 := fDRed_getD hi
    have g1 : (i : Int) < 256 := by omega
    have g0 : (0 : Int) ≤ i := by omega
    have s1 : ∀ v : Int, ((part (fun i => fDl (a.getD i 0)) i Z).set i v).getD i 0 = v := fun v => getD_set_eq (by omega)
    unfold p_ref15_Decompose_l4_F
    simp only [g1, g0, hi, if_true, Int.toNat_natCast, s1, List.set_set, hA]
    simp (disch := omega) only [tmod_pos, tdiv_pos, wrap_i32, wrap_i64]
    have hnear : fDl0 (a.getD i 0) = if a.getD i 0 % 8380417 % 523776 > 261888 then a.getD i 0 % 8380417 % 523776 - 523776 else a.getD i 0 % 8380417 % 523776 := rfl
    have hdl : fDl (a.getD i 0) = if a.getD i 0 % 8380417 - fDl0 (a.getD i 0) = 8380416 then fDl0 (a.getD i 0) - 1 else fDl0 (a.getD i 0) := rfl
    have hdh : fDh (a.getD i 0) = if a.getD i 0 % 8380417 - fDl0 (a.getD i 0) = 8380416 then 0 else (a.getD i 0 % 8380417 - fDl0 (a.getD i 0)) / 523776 := rfl
    split
    · rename_i hgt
      rw [if_pos hgt] at hnear
      rw [hnear] at hdl hdh
      split
      · rename_i hq
        rw [if_pos hq] at hdl hdh
        exact key0 _ hdl.symm hdh kn
      · rename_i hq
        rw [if_neg hq] at hdl hdh
        exact key _ hdl.symm _ hdh.symm kn
    · rename_i hgt
      rw [if_neg hgt] at hnear
      rw [hnear] at hdl hdh
      split
      · rename_i hq
        rw [if_pos hq] at hdl hdh
        exact key0 _ hdl.symm hdh kn
      · rename_i hq
        rw [if_neg hq] at hdl hdh
        exact key _ hdl.symm _ hdh.symm kn
  · intro kn
    unfold p_ref15_Decompose_l4_F
    simp (disch := omega) only [if_neg]
    rw [part_all hz, part_all hz]
    rfl
  · rfl

theorem q_law15_live : ∀ x r, g_law15_live x = some r → ∃ N, p_law15_live N x = some r := by
  refine Spec_of (ks := p_law15_live_ks) (rs := p_law15_live_rs) fun x hw _ => ⟨0, ?_⟩
  unfold p_law15_live
  have h1 : i32s 256 ((List.replicate 256 (0 : Int)).set 0 8380416) := (rows.zero (by omega) 256).set (by omega)
  have h2 : i32s 256 ((List.replicate 256 (0 : Int)).set 0 4097) := (rows.zero (by omega) 256).set (by omega)
  rw [at_Dec h1, at_P2R h2]
  decide +kernel

theorem q_law15_DringRounds : ∀ x r, g_law15_DringRounds x = some r → ∃ N, p_law15_DringRounds N x = some r := by
  refine Spec_of (ks := p_law15_DringRounds_ks) (rs := p_law15_DringRounds_rs) fun x hw _ => ⟨0, ?_⟩
  obtain ⟨(a : List Int), u⟩ := x
  have ha := wf_d1.1 hw
  have hlive : g_law15_live () = some true := Spec_at (ks := []) (rs := [.bool]) (x := ()) trivial trivial
  unfold p_law15_DringRounds
  simp only [at_P2R ha, at_rP2R ha, at_Dec ha, at_rDec ha, hlive, Option.bind_some, if_true, decide_true]

end Go.Ax.TryP
