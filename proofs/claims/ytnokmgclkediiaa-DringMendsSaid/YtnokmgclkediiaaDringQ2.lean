/- A part of the proof: DringQ2. -/
import Derived.Test.YtnokmgclkediiaaDringP2
/-! ### Centred numbers, sums, hints: the printed functions -/
namespace Go.Ax.TryP

theorem rep256 : (List.replicate 256 (0 : Int)).length = 256 := List.length_replicate ..
theorem bs_wf {n : Nat} {a : List Int} : Kd.wf (.xs .bool n) a ↔ a.length = n ∧ ∀ z ∈ a, z = 0 ∨ z = 1 := by simp [Kd.wf]
theorem wf_d2 {a b : List Int} : wfAll [.xs (.int .i32) 256, .xs (.int .i32) 256] (a, b, ()) ↔ i32s 256 a ∧ i32s 256 b := by simp [wfAll, wf_i32s]
theorem fCen_b (z : Int) : -4190208 ≤ fCen z ∧ fCen z ≤ 4190208 := by unfold fCen; split <;> omega
theorem fDCen_i32 (a : List Int) : i32s 256 (fDCen a) := rows.range fun i _ => by have := fCen_b (a.getD i 0); omega
theorem fDCen_getD {a : List Int} {i : Nat} (hi : i < 256) : (fDCen a).getD i 0 = fCen (a.getD i 0) := dpoly_getD hi

theorem q_dring_centred : ∀ x r, g_dring_centred x = some r → ∃ N, p_dring_centred N x = some r := by
  refine Spec_of (ks := p_dring_centred_ks) (rs := p_dring_centred_rs) fun x hw _ => ⟨0, ?_⟩
  obtain ⟨(z : Int), u⟩ := x
  have hz := okInt_i32.1 hw.1
  simp only at hz
  have h1 : 0 ≤ z % 8380417 ∧ z % 8380417 ≤ 8380416 := by omega
  unfold p_dring_centred fCen
  simp (disch := omega) only [wrap_i64, at_below, Option.bind_some, wrap_i32]
  split <;> rfl
theorem at_centred {z : Int} (h1 : -2147483648 ≤ z) (h2 : z ≤ 2147483647) : g_dring_centred (z, ()) = some (fCen z) :=
  Spec_at (ks := p_dring_centred_ks) (rs := p_dring_centred_rs) (x := (z, ())) ⟨okInt_i32.2 ⟨h1, h2⟩, trivial⟩ trivial

theorem q_dring_each__dring_centred : ∀ x r, g_dring_each__dring_centred x = some r → ∃ N, p_dring_each__dring_centred N x = some r := by
  refine Spec_of (ks := p_dring_each__dring_centred_ks) (rs := p_dring_each__dring_centred_rs) fun x hw _ => ⟨257, ?_⟩
  obtain ⟨(a : List Int), u, u'⟩ := x
  have ha : i32s 256 a := wf_i32s.1 hw.1
  have hl := ha.1
  unfold p_dring_each__dring_centred
  refine (iter_run (s := fun i => (a, (i : Int), part (fun i => fCen (a.getD i 0)) i a, List.replicate 256 0, ())) (y := (fDCen a, List.replicate 256 0, ())) 256 ?_ ?_ 257 (by omega)).trans ?_
  · intro i hi kn
    have h0 := i32_at ha i
    unfold p_dring_each__dring_centred_l2_F
    simp (disch := omega) only [if_pos, wrap_i64, Int.toNat_natCast, at_centred, Option.bind_some]
    rw [part_set' (by omega) rfl, Int.natCast_add]
    rfl
  · intro kn
    unfold p_dring_each__dring_centred_l2_F
    simp (disch := omega) only [if_neg]
    rw [part_all hl]
    rfl
  · rfl
theorem q_dring_Center : ∀ x r, g_dring_Center x = some r → ∃ N, p_dring_Center N x = some r := by
  refine Spec_of (ks := p_dring_Center_ks) (rs := p_dring_Center_rs) fun x hw _ => ⟨0, ?_⟩
  obtain ⟨(a : List Int), u⟩ := x
  unfold p_dring_Center
  have h : g_dring_each__dring_centred (a, (), ()) = some (fDCen a) := Spec_at (ks := p_dring_each__dring_centred_ks) (rs := p_dring_each__dring_centred_rs) (x := (a, (), ())) ⟨hw.1, trivial, trivial⟩ trivial
  simp only
  rw [h]
  rfl
theorem at_Center {a : List Int} (h : i32s 256 a) : g_dring_Center (a, ()) = some (fDCen a) :=
  Spec_at (ks := p_dring_Center_ks) (rs := p_dring_Center_rs) (x := (a, ())) (wf_d1.2 h) trivial
theorem at_rCenter {a : List Int} (h : i32s 256 a) : g_ref15_Center (a, ()) = some (fDCen a) :=
  Spec_at (ks := p_ref15_Center_ks) (rs := p_ref15_Center_rs) (x := (a, ())) (wf_d1.2 h) trivial

theorem q_ref15_Center : ∀ x r, g_ref15_Center x = some r → ∃ N, p_ref15_Center N x = some r := by
  refine Spec_of (ks := p_ref15_Center_ks) (rs := p_ref15_Center_rs) fun x hw _ => ⟨257, ?_⟩
  obtain ⟨(a : List Int), u⟩ := x
  have ha := wf_d1.1 hw
  have hr := fDRed_i32 a
  have hl : (fDRed a).length = 256 := hr.1
  unfold p_ref15_Center
  simp only [at_rReduce ha, Option.bind_some]
  refine (iter_run (s := fun i => ((i : Int), part (fun i => fCen (a.getD i 0)) i (fDRed a), List.replicate 256 0, ())) (y := (fDCen a, List.replicate 256 0, ())) 256 ?_ ?_ 257 (by omega)).trans ?_
  · intro i hi kn
    have h0 := fDRed_at a i
    have hA : (fDRed a).getD i 0 = a.getD i 0 % 8380417 := fDRed_getD hi
    have g1 : (i : Int) < 256 := by omega
    have g0 : (0 : Int) ≤ i := by omega
    unfold p_ref15_Center_l3_F
    simp only [g1, g0, hi, if_true, Int.toNat_natCast, part_getD_self, hA]
    rw [hA] at h0
    simp (disch := omega) only [wrap_i32, wrap_i64]
    split
    · rename_i hgt
      rw [part_set' (by omega) (by unfold fCen; rw [if_pos hgt]), Int.natCast_add]
      rfl
    · rename_i hgt
      have e : part (fun i => fCen (a.getD i 0)) (i + 1) (fDRed a) = part (fun i => fCen (a.getD i 0)) i (fDRed a) := by
        rw [← part_set' (h := fun i => fCen (a.getD i 0)) (z := fCen (a.getD i 0)) (by omega) rfl]
        refine rows.ext (n := 256) (by rw [List.length_set, part_length (by omega)]; exact hl) (by rw [part_length (by omega)]; exact hl) fun j hj => ?_
        by_cases hji : i = j
        · subst hji
          rw [getD_set_eq (by rw [part_length (by omega)]; omega), part_getD_self, hA]
          unfold fCen; rw [if_neg hgt]
        · rw [getD_set_ne hji]
      rw [e, Int.natCast_add]
      rfl
  · intro kn
    unfold p_ref15_Center_l3_F
    simp (disch := omega) only [if_neg]
    rw [part_all hl]
    rfl
  · rfl

theorem normN_zero (a : List Int) : normN a 0 = 0 := by unfold normN; rfl
theorem normN_succ (a : List Int) (n : Nat) : normN a (n + 1) = if iabs (fCen (a.getD n 0)) > normN a n then iabs (fCen (a.getD n 0)) else normN a n := by
  unfold normN
  rw [List.range_succ, List.foldl_append]
  rfl
theorem normN_b (a : List Int) (n : Nat) : 0 ≤ normN a n ∧ normN a n ≤ 4190208 := by
  induction n with
  | zero => unfold normN; exact ⟨Int.le_refl 0, (by decide : (0 : Int) ≤ 4190208)⟩
  | succ n ih =>
    rw [normN_succ]
    have := fCen_b (a.getD n 0)
    unfold iabs
    split <;> split <;> omega
theorem normN_le {a : List Int} {m : Int} (h0 : 0 ≤ m) {n : Nat} : normN a n ≤ m ↔ ∀ i, i < n → iabs (fCen (a.getD i 0)) ≤ m := by
  induction n with
  | zero => exact ⟨fun _ i hi => by omega, fun _ => by unfold normN; exact h0⟩
  | succ n ih =>
    rw [normN_succ]
    constructor
    · intro h i hi
      by_cases e : i = n
      · subst e; split at h <;> omega
      · refine ih.1 ?_ i (by omega)
        split at h <;> omega
    · intro h
      have h1 := ih.2 fun i hi => h i (by omega)
      have h2 := h n (by omega)
      split <;> omega

theorem q_dring_Norm : ∀ x r, g_dring_Norm x = some r → ∃ N, p_dring_Norm N x = some r := by
  refine Spec_of (ks := p_dring_Norm_ks) (rs := p_dring_Norm_rs) fun x hw _ => ⟨257, ?_⟩
  obtain ⟨(a : List Int), u⟩ := x
  have ha := wf_d1.1 hw
  unfold p_dring_Norm
  simp only [at_Center ha, Option.bind_some]
  refine (iter_from (s := fun i => (normN a i, fDCen a, (i : Int), ())) (y := (fNorm a, ())) 256 (by rw [normN_zero]; rfl) ?_ ?_ 257 (by omega)).trans ?_
  · intro i hi kn
    have hb := normN_b a i
    have hc := fCen_b (a.getD i 0)
    unfold p_dring_Norm_l3_F
    simp (disch := omega) only [if_pos, wrap_i64, Int.toNat_natCast, fDCen_getD, wrap_i32]
    rw [normN_succ, Int.natCast_add]
    unfold iabs
    congr 2
    split <;> split <;> split <;> (try split) <;> omega
  · intro kn
    unfold p_dring_Norm_l3_F
    simp (disch := omega) only [if_neg]
    rfl
  · rfl
theorem at_Norm {a : List Int} (h : i32s 256 a) : g_dring_Norm (a, ()) = some (fNorm a) :=
  Spec_at (ks := p_dring_Norm_ks) (rs := p_dring_Norm_rs) (x := (a, ())) (wf_d1.2 h) trivial
theorem q_ref15_size : ∀ x r, g_ref15_size x = some r → ∃ N, p_ref15_size N x = some r := by
  refine Spec_of (ks := p_ref15_size_ks) (rs := p_ref15_size_rs) fun x hw hq => ⟨0, ?_⟩
  obtain ⟨(z : Int), u⟩ := x
  have hz := okInt_i32.1 hw.1
  have hq : -2147483648 < z := hq
  simp only at hz
  unfold p_ref15_size iabs
  simp only
  split
  · rw [wrap_i32 (by omega) (by omega)]; congr 1; omega
  · rfl
theorem at_size {z : Int} (h1 : -2147483648 < z) (h2 : z ≤ 2147483647) : g_ref15_size (z, ()) = some (iabs z) :=
  Spec_at (ks := p_ref15_size_ks) (rs := p_ref15_size_rs) (x := (z, ())) ⟨okInt_i32.2 ⟨show -2147483648 ≤ z by omega, h2⟩, trivial⟩ h1
theorem q_ref15_Norm : ∀ x r, g_ref15_Norm x = some r → ∃ N, p_ref15_Norm N x = some r := by
  refine Spec_of (ks := p_ref15_Norm_ks) (rs := p_ref15_Norm_rs) fun x hw _ => ⟨257, ?_⟩
  obtain ⟨(a : List Int), u⟩ := x
  have ha := wf_d1.1 hw
  unfold p_ref15_Norm
  simp only [at_rCenter ha, Option.bind_some]
  refine (iter_from (s := fun i => (normN a i, (i : Int), fDCen a, ())) (y := (fNorm a, ())) 256 (by rw [normN_zero]; rfl) ?_ ?_ 257 (by omega)).trans ?_
  · intro i hi kn
    have hc := fCen_b (a.getD i 0)
    unfold p_ref15_Norm_l4_F
    simp (disch := omega) only [if_pos, wrap_i64, Int.toNat_natCast, fDCen_getD, at_size, Option.bind_some]
    rw [normN_succ, Int.natCast_add]
    split <;> rfl
  · intro kn
    unfold p_ref15_Norm_l4_F
    simp (disch := omega) only [if_neg]
    rfl
  · rfl

theorem q_dring_Add : ∀ x r, g_dring_Add x = some r → ∃ N, p_dring_Add N x = some r := by
  refine Spec_of (ks := p_dring_Add_ks) (rs := p_dring_Add_rs) fun x hw _ => ⟨257, ?_⟩
  obtain ⟨(a : List Int), (b : List Int), u⟩ := x
  obtain ⟨ha, hb⟩ := wf_d2.1 hw
  have hl := ha.1
  unfold p_dring_Add
  refine (iter_run (s := fun i => ((i : Int), part (fun i => (a.getD i 0 + b.getD i 0) % 8380417) i a, b, List.replicate 256 0, ())) (y := (fDAdd a b, List.replicate 256 0, ())) 256 ?_ ?_ 257 (by omega)).trans ?_
  · intro i hi kn
    have h0 := i32_at ha i
    have h1 := i32_at hb i
    unfold p_dring_Add_l2_F
    simp (disch := omega) only [if_pos, wrap_i64, Int.toNat_natCast, part_getD_self, at_below, Option.bind_some]
    rw [part_set' (by omega) rfl, Int.natCast_add]
    rfl
  · intro kn
    unfold p_dring_Add_l2_F
    simp (disch := omega) only [if_neg]
    rw [part_all hl]
    rfl
  · rfl
theorem q_dring_Sub : ∀ x r, g_dring_Sub x = some r → ∃ N, p_dring_Sub N x = some r := by
  refine Spec_of (ks := p_dring_Sub_ks) (rs := p_dring_Sub_rs) fun x hw _ => ⟨257, ?_⟩
  obtain ⟨(a : List Int), (b : List Int), u⟩ := x
  obtain ⟨ha, hb⟩ := wf_d2.1 hw
  have hl := ha.1
  unfold p_dring_Sub
  refine (iter_run (s := fun i => ((i : Int), part (fun i => (a.getD i 0 - b.getD i 0) % 8380417) i a, b, List.replicate 256 0, ())) (y := (fDSub a b, List.replicate 256 0, ())) 256 ?_ ?_ 257 (by omega)).trans ?_
  · intro i hi kn
    have h0 := i32_at ha i
    have h1 := i32_at hb i
    unfold p_dring_Sub_l2_F
    simp (disch := omega) only [if_pos, wrap_i64, Int.toNat_natCast, part_getD_self, at_below, Option.bind_some]
    rw [part_set' (by omega) rfl, Int.natCast_add]
    rfl
  · intro kn
    unfold p_dring_Sub_l2_F
    simp (disch := omega) only [if_neg]
    rw [part_all hl]
    rfl
  · rfl
theorem q_ref15_Add : ∀ x r, g_ref15_Add x = some r → ∃ N, p_ref15_Add N x = some r := by
  refine Spec_of (ks := p_ref15_Add_ks) (rs := p_ref15_Add_rs) fun x hw _ => ⟨257, ?_⟩
  obtain ⟨(a : List Int), (b : List Int), u⟩ := x
  obtain ⟨ha, hb⟩ := wf_d2.1 hw
  have hl := ha.1
  unfold p_ref15_Add
  refine (iter_run (s := fun i => ((i : Int), part (fun i => (a.getD i 0 + b.getD i 0) % 8380417) i a, b, List.replicate 256 0, ())) (y := (fDAdd a b, List.replicate 256 0, ())) 256 ?_ ?_ 257 (by omega)).trans ?_
  · intro i hi kn
    have h0 := i32_at ha i
    have h1 := i32_at hb i
    have hm : 0 ≤ (a.getD i 0 + b.getD i 0) % 8380417 ∧ (a.getD i 0 + b.getD i 0) % 8380417 < 8380417 := by omega
    unfold p_ref15_Add_l2_F
    simp (disch := omega) only [if_pos, wrap_i64, Int.toNat_natCast, part_getD_self, at_mod, Option.bind_some, wrap_i32]
    rw [part_set' (by omega) rfl, Int.natCast_add]
    rfl
  · intro kn
    unfold p_ref15_Add_l2_F
    simp (disch := omega) only [if_neg]
    rw [part_all hl]
    rfl
  · rfl
theorem q_ref15_Sub : ∀ x r, g_ref15_Sub x = some r → ∃ N, p_ref15_Sub N x = some r := by
  refine Spec_of (ks := p_ref15_Sub_ks) (rs := p_ref15_Sub_rs) fun x hw _ => ⟨257, ?_⟩
  obtain ⟨(a : List Int), (b : List Int), u⟩ := x
  obtain ⟨ha, hb⟩ := wf_d2.1 hw
  have hl := ha.1
  unfold p_ref15_Sub
  refine (iter_run (s := fun i => ((i : Int), part (fun i => (a.getD i 0 - b.getD i 0) % 8380417) i a, b, List.replicate 256 0, ())) (y := (fDSub a b, List.replicate 256 0, ())) 256 ?_ ?_ 257 (by omega)).trans ?_
  · intro i hi kn
    have h0 := i32_at ha i
    have h1 := i32_at hb i
    have hm : 0 ≤ (a.getD i 0 - b.getD i 0) % 8380417 ∧ (a.getD i 0 - b.getD i 0) % 8380417 < 8380417 := by omega
    unfold p_ref15_Sub_l2_F
    simp (disch := omega) only [if_pos, wrap_i64, Int.toNat_natCast, part_getD_self, at_mod, Option.bind_some, wrap_i32]
    rw [part_set' (by omega) rfl, Int.natCast_add]
    rfl
  · intro kn
    unfold p_ref15_Sub_l2_F
    simp (disch := omega) only [if_neg]
    rw [part_all hl]
    rfl
  · rfl
theorem fDAdd_i32 (a b : List Int) : i32s 256 (fDAdd a b) := rows.range fun i _ => by omega
theorem fDSub_i32 (a b : List Int) : i32s 256 (fDSub a b) := rows.range fun i _ => by omega
theorem fDAdd_getD {a b : List Int} {i : Nat} (hi : i < 256) : (fDAdd a b).getD i 0 = (a.getD i 0 + b.getD i 0) % 8380417 := dpoly_getD hi
theorem at_Add {a b : List Int} (h : i32s 256 a) (h' : i32s 256 b) : g_dring_Add (a, b, ()) = some (fDAdd a b) :=
  Spec_at (ks := p_dring_Add_ks) (rs := p_dring_Add_rs) (x := (a, b, ())) (wf_d2.2 ⟨h, h'⟩) trivial
theorem at_rAdd {a b : List Int} (h : i32s 256 a) (h' : i32s 256 b) : g_ref15_Add (a, b, ()) = some (fDAdd a b) :=
  Spec_at (ks := p_ref15_Add_ks) (rs := p_ref15_Add_rs) (x := (a, b, ())) (wf_d2.2 ⟨h, h'⟩) trivial

theorem cntN_zero (h : Nat → Int) : cntN h 0 = 0 := by unfold cntN; rfl
theorem cntN_succ (h : Nat → Int) (n : Nat) : cntN h (n + 1) = if h n ≠ 0 then cntN h n + 1 else cntN h n := by
  unfold cntN
  rw [List.range_succ, List.foldl_append]
  rfl
theorem cntN_b (h : Nat → Int) (n : Nat) : 0 ≤ cntN h n ∧ cntN h n ≤ n := by
  induction n with
  | zero => unfold cntN; exact ⟨Int.le_refl 0, Int.le_refl 0⟩
  | succ n ih =>
    rw [cntN_succ]
    split <;> omega
theorem hintAt_01 (z r : List Int) (i : Nat) : hintAt z r i = 0 ∨ hintAt z r i = 1 := by unfold hintAt; split <;> simp

theorem q_dring_MakeHint : ∀ x r, g_dring_MakeHint x = some r → ∃ N, p_dring_MakeHint N x = some r := by
  refine Spec_of (ks := p_dring_MakeHint_ks) (rs := p_dring_MakeHint_rs) fun x hw _ => ⟨257, ?_⟩
  obtain ⟨(z : List Int), (r : List Int), u⟩ := x
  obtain ⟨hz, hr⟩ := wf_d2.1 hw
  unfold p_dring_MakeHint
  simp only [at_Dec hr, at_Add hr hz, at_Dec (fDAdd_i32 r z), Option.bind_some]
  have hZ := rep256
  generalize List.replicate 256 (0 : Int) = Z at hZ ⊢
  refine (iter_from (s := fun i => (cntN (hintAt z r) i, (i : Int), Z, part (hintAt z r) i Z, (fDec r).1, (fDec (fDAdd r z)).1, ())) (y := (cntN (hintAt z r) 256, Z, dpoly (hintAt z r), ())) 256 (by rw [cntN_zero]; rfl) ?_ ?_ 257 (by omega)).trans ?_
  · intro i hi kn
    have hb := cntN_b (hintAt z r) i
    have g1 : (i : Int) < 256 := by omega
    have g0 : (0 : Int) ≤ i := by omega
    have e1 : (fDec r).1.getD i 0 = fDh (r.getD i 0) := by rw [show (fDec r).1 = dpoly fun i => fDh (r.getD i 0) from rfl, dpoly_getD hi]
    have e2 : (fDec (fDAdd r z)).1.getD i 0 = fDh ((r.getD i 0 + z.getD i 0) % 8380417) := by
      rw [show (fDec (fDAdd r z)).1 = dpoly fun i => fDh ((fDAdd r z).getD i 0) from rfl, dpoly_getD hi, fDAdd_getD hi]
    have hpl : (part (hintAt z r) i Z).length = 256 := by rw [part_length (by omega), hZ]
    have e3 : (part (hintAt z r) i Z).set i (if fDh (r.getD i 0) ≠ fDh ((r.getD i 0 + z.getD i 0) % 8380417) then (1 : Int) else 0) = part (hintAt z r) (i + 1) Z := part_set' (by omega) rfl
    have e4 : (part (hintAt z r) (i + 1) Z).getD i 0 = hintAt z r i := part_getD_lt (by omega)
    unfold p_dring_MakeHint_l6_F
    simp only [g1, g0, hi, if_true, Int.toNat_natCast, e1, e2, e3, e4]
    simp (disch := omega) only [wrap_i64]
    rw [cntN_succ, Int.natCast_add]
    split <;> rfl
  · intro kn
    unfold p_dring_MakeHint_l6_F
    simp (disch := omega) only [if_neg]
    rw [part_all hZ]
    rfl
  · rfl
theorem q_ref15_MakeHint : ∀ x r, g_ref15_MakeHint x = some r → ∃ N, p_ref15_MakeHint N x = some r := by
  refine Spec_of (ks := p_ref15_MakeHint_ks) (rs := p_ref15_MakeHint_rs) fun x hw _ => ⟨257, ?_⟩
  obtain ⟨(z : List Int), (r : List Int), u⟩ := x
  obtain ⟨hz, hr⟩ := wf_d2.1 hw
  unfold p_ref15_MakeHint
  simp only [at_rDec hr, at_rAdd hr hz, at_rDec (fDAdd_i32 r z), Option.bind_some]
  have hZ := rep256
  have hZ0 : ∀ i, (List.replicate 256 (0 : Int)).getD i 0 = 0 := getD_replicate 256
  generalize List.replicate 256 (0 : Int) = Z at hZ hZ0 ⊢
  refine (iter_from (s := fun i => (cntN (hintAt z r) i, (i : Int), Z, (fDec r).1, (fDec (fDAdd r z)).1, part (hintAt z r) i Z, ())) (y := (cntN (hintAt z r) 256, Z, dpoly (hintAt z r), ())) 256 (by rw [cntN_zero]; rfl) ?_ ?_ 257 (by omega)).trans ?_
  · intro i hi kn
    have hb := cntN_b (hintAt z r) i
    have g1 : (i : Int) < 256 := by omega
    have g0 : (0 : Int) ≤ i := by omega
    have e1 : (fDec r).1.getD i 0 = fDh (r.getD i 0) := by rw [show (fDec r).1 = dpoly fun i => fDh (r.getD i 0) from rfl, dpoly_getD hi]
    have e2 : (fDec (fDAdd r z)).1.getD i 0 = fDh ((r.getD i 0 + z.getD i 0) % 8380417) := by
      rw [show (fDec (fDAdd r z)).1 = dpoly fun i => fDh ((fDAdd r z).getD i 0) from rfl, dpoly_getD hi, fDAdd_getD hi]
    have hpl : (part (hintAt z r) i Z).length = 256 := by rw [part_length (by omega), hZ]
    have e3 : hintAt z r i = if fDh (r.getD i 0) ≠ fDh ((r.getD i 0 + z.getD i 0) % 8380417) then (1 : Int) else 0 := rfl
    unfold p_ref15_MakeHint_l6_F
    simp only [g1, g0, hi, if_true, Int.toNat_natCast, e1, e2]
    simp (disch := omega) only [wrap_i64]
    rw [cntN_succ, Int.natCast_add]
    split
    · rename_i hne
      rw [if_pos hne] at e3
      rw [part_set' (h := hintAt z r) (by omega) e3.symm, e3]
      rfl
    · rename_i hne
      rw [if_neg hne] at e3
      have e5 : part (hintAt z r) (i + 1) Z = part (hintAt z r) i Z := by
        rw [← part_set' (h := hintAt z r) (z := 0) (by omega) e3.symm]
        refine rows.ext (n := 256) (by rw [List.length_set, hpl]) hpl fun j hj => ?_
        by_cases hji : i = j
        · subst hji; rw [getD_set_eq (by omega), part_getD_self, hZ0]
        · rw [getD_set_ne hji]
      rw [e5, e3]
      rfl
  · intro kn
    unfold p_ref15_MakeHint_l6_F
    simp (disch := omega) only [if_neg]
    rw [part_all hZ]
    rfl
  · rfl
end Go.Ax.TryP
