/- A part of the proof: DringQ3. -/
import Derived.Test.YtnokmgclkediiaaDringQ2
/-! ### Hints used; the laws on parts, hints and mending -/
namespace Go.Ax.TryP

theorem wf_hd {h r : List Int} : wfAll [.xs .bool 256, .xs (.int .i32) 256] (h, r, ()) ↔ (h.length = 256 ∧ ∀ z ∈ h, z = 0 ∨ z = 1) ∧ i32s 256 r := by simp only [wfAll, wf_i32s, bs_wf, and_true]
theorem fDh_b (z : Int) : 0 ≤ fDh z ∧ fDh z ≤ 15 := by
  unfold fDh fDl0 fNear
  split <;> split at * <;> omega
theorem fDl_b (z : Int) : -261888 ≤ fDl z ∧ fDl z ≤ 261888 := by
  unfold fDl fDl0 fNear
  split <;> split at * <;> omega

theorem q_dring_UseHint : ∀ x r, g_dring_UseHint x = some r → ∃ N, p_dring_UseHint N x = some r := by
  refine Spec_of (ks := p_dring_UseHint_ks) (rs := p_dring_UseHint_rs) fun x hw _ => ⟨257, ?_⟩
  obtain ⟨(h : List Int), (r : List Int), u⟩ := x
  obtain ⟨hh, hr⟩ := wf_hd.1 hw
  unfold p_dring_UseHint
  simp only [at_Dec hr, Option.bind_some]
  have hlen : (fDec r).1.length = 256 := dpoly_len _
  refine (iter_run (s := fun i => (h, (i : Int), List.replicate 256 0, part (fun i => useAt (h.getD i 0) (r.getD i 0)) i (fDec r).1, (fDec r).2, ())) (y := (List.replicate 256 0, fUse h r, ())) 256 ?_ ?_ 257 (by omega)).trans ?_
  · intro i hi kn
    have g1 : (i : Int) < 256 := by omega
    have g0 : (0 : Int) ≤ i := by omega
    have e1 : (fDec r).1.getD i 0 = fDh (r.getD i 0) := by rw [show (fDec r).1 = dpoly fun i => fDh (r.getD i 0) from rfl, dpoly_getD hi]
    have e2 : (fDec r).2.getD i 0 = fDl (r.getD i 0) := by rw [show (fDec r).2 = dpoly fun i => fDl (r.getD i 0) from rfl, dpoly_getD hi]
    have hb := fDh_b (r.getD i 0)
    have hpl : (part (fun i => useAt (h.getD i 0) (r.getD i 0)) i (fDec r).1).length = 256 := by rw [part_length (by omega)]; exact hlen
    unfold p_dring_UseHint_l3_F
    simp only [g1, g0, hi, if_true, Int.toNat_natCast, part_getD_self, e1, e2]
    simp (disch := omega) only [wrap_i64, wrap_i32, tmod_pos]
    by_cases hz : h.getD i 0 = 0
    · have e5 : part (fun i => useAt (h.getD i 0) (r.getD i 0)) (i + 1) (fDec r).1 = part (fun i => useAt (h.getD i 0) (r.getD i 0)) i (fDec r).1 := by
        rw [← part_set' (h := fun i => useAt (h.getD i 0) (r.getD i 0)) (z := fDh (r.getD i 0)) (by omega) (by unfold useAt; rw [hz]; rfl)]
        refine rows.ext (n := 256) (by rw [List.length_set, hpl]) hpl fun j hj => ?_
        by_cases hji : i = j
        · subst hji; rw [getD_set_eq (by omega), part_getD_self, e1]
        · rw [getD_set_ne hji]
      simp only [hz, ne_eq, not_true_eq_false, if_false]
      rw [e5, Int.natCast_add]
      rfl
    · simp only [hz, ne_eq, not_false_eq_true, if_true]
      split
      · rename_i hgt
        rw [part_set' (h := fun i => useAt (h.getD i 0) (r.getD i 0)) (by omega) (by unfold useAt; rw [if_pos hz, if_pos hgt]), Int.natCast_add]
        rfl
      · rename_i hgt
        rw [part_set' (h := fun i => useAt (h.getD i 0) (r.getD i 0)) (by omega) (by unfold useAt; rw [if_pos hz, if_neg hgt]; congr 1; omega), Int.natCast_add]
        rfl
  · intro kn
    unfold p_dring_UseHint_l3_F
    simp (disch := omega) only [if_neg]
    rw [part_all hlen]
    rfl
  · rfl
theorem q_ref15_UseHint : ∀ x r, g_ref15_UseHint x = some r → ∃ N, p_ref15_UseHint N x = some r := by
  refine Spec_of (ks := p_ref15_UseHint_ks) (rs := p_ref15_UseHint_rs) fun x hw _ => ⟨257, ?_⟩
  obtain ⟨(h : List Int), (r : List Int), u⟩ := x
  obtain ⟨hh, hr⟩ := wf_hd.1 hw
  unfold p_ref15_UseHint
  simp only [at_rDec hr, Option.bind_some]
  have hlen : (fDec r).1.length = 256 := dpoly_len _
  refine (iter_run (s := fun i => ((i : Int), h, List.replicate 256 0, part (fun i => useAt (h.getD i 0) (r.getD i 0)) i (fDec r).1, (fDec r).2, ())) (y := (List.replicate 256 0, fUse h r, ())) 256 ?_ ?_ 257 (by omega)).trans ?_
  · intro i hi kn
    have g1 : (i : Int) < 256 := by omega
    have g0 : (0 : Int) ≤ i := by omega
    have e1 : (fDec r).1.getD i 0 = fDh (r.getD i 0) := by rw [show (fDec r).1 = dpoly fun i => fDh (r.getD i 0) from rfl, dpoly_getD hi]
    have e2 : (fDec r).2.getD i 0 = fDl (r.getD i 0) := by rw [show (fDec r).2 = dpoly fun i => fDl (r.getD i 0) from rfl, dpoly_getD hi]
    have hb := fDh_b (r.getD i 0)
    have hpl : (part (fun i => useAt (h.getD i 0) (r.getD i 0)) i (fDec r).1).length = 256 := by rw [part_length (by omega)]; exact hlen
    unfold p_ref15_UseHint_l3_F
    simp only [g1, g0, hi, if_true, Int.toNat_natCast, part_getD_self, e1, e2]
    simp (disch := omega) only [wrap_i64, wrap_i32, tmod_pos]
    by_cases hz : h.getD i 0 = 0
    · have e5 : part (fun i => useAt (h.getD i 0) (r.getD i 0)) (i + 1) (fDec r).1 = part (fun i => useAt (h.getD i 0) (r.getD i 0)) i (fDec r).1 := by
        rw [← part_set' (h := fun i => useAt (h.getD i 0) (r.getD i 0)) (z := fDh (r.getD i 0)) (by omega) (by unfold useAt; rw [hz]; rfl)]
        refine rows.ext (n := 256) (by rw [List.length_set, hpl]) hpl fun j hj => ?_
        by_cases hji : i = j
        · subst hji; rw [getD_set_eq (by omega), part_getD_self, e1]
        · rw [getD_set_ne hji]
      simp only [hz, ne_eq, not_true_eq_false, if_false]
      rw [e5, Int.natCast_add]
      rfl
    · simp only [hz, ne_eq, not_false_eq_true, if_true]
      split
      · rename_i hgt
        rw [part_set' (h := fun i => useAt (h.getD i 0) (r.getD i 0)) (by omega) (by unfold useAt; rw [if_pos hz, if_pos hgt]), Int.natCast_add]
        rfl
      · rename_i hgt
        rw [part_set' (h := fun i => useAt (h.getD i 0) (r.getD i 0)) (by omega) (by unfold useAt; rw [if_pos hz, if_neg hgt]), Int.natCast_add]
        rfl
  · intro kn
    unfold p_ref15_UseHint_l3_F
    simp (disch := omega) only [if_neg]
    rw [part_all hlen]
    rfl
  · rfl

theorem at_Use {h r : List Int} (hh : h.length = 256 ∧ ∀ z ∈ h, z = 0 ∨ z = 1) (hr : i32s 256 r) : g_dring_UseHint (h, r, ()) = some (fUse h r) :=
  Spec_at (ks := p_dring_UseHint_ks) (rs := p_dring_UseHint_rs) (x := (h, r, ())) (wf_hd.2 ⟨hh, hr⟩) trivial
theorem at_rUse {h r : List Int} (hh : h.length = 256 ∧ ∀ z ∈ h, z = 0 ∨ z = 1) (hr : i32s 256 r) : g_ref15_UseHint (h, r, ()) = some (fUse h r) :=
  Spec_at (ks := p_ref15_UseHint_ks) (rs := p_ref15_UseHint_rs) (x := (h, r, ())) (wf_hd.2 ⟨hh, hr⟩) trivial
theorem at_Make {z r : List Int} (hz : i32s 256 z) (hr : i32s 256 r) : g_dring_MakeHint (z, r, ()) = some (fHint z r) :=
  Spec_at (ks := p_dring_MakeHint_ks) (rs := p_dring_MakeHint_rs) (x := (z, r, ())) (wf_d2.2 ⟨hz, hr⟩) trivial
theorem at_rMake {z r : List Int} (hz : i32s 256 z) (hr : i32s 256 r) : g_ref15_MakeHint (z, r, ()) = some (fHint z r) :=
  Spec_at (ks := p_ref15_MakeHint_ks) (rs := p_ref15_MakeHint_rs) (x := (z, r, ())) (wf_d2.2 ⟨hz, hr⟩) trivial
theorem at_live : g_law15_live () = some true := Spec_at (ks := []) (rs := [.bool]) (x := ()) trivial trivial

theorem q_law15_DringHints : ∀ x r, g_law15_DringHints x = some r → ∃ N, p_law15_DringHints N x = some r := by
  refine Spec_of (ks := p_law15_DringHints_ks) (rs := p_law15_DringHints_rs) fun x hw _ => ⟨0, ?_⟩
  obtain ⟨(z : List Int), (r : List Int), (h : List Int), u⟩ := x
  obtain ⟨hz, hr, hh, _⟩ := hw
  have hz := wf_i32s.1 hz
  have hr := wf_i32s.1 hr
  have hh := bs_wf.1 hh
  unfold p_law15_DringHints
  simp only [at_Make hz hr, at_rMake hz hr, at_live, at_Use hh hr, at_rUse hh hr, Option.bind_some, if_true, decide_true]

theorem hint_ok (z r : List Int) : (fHint z r).1.length = 256 ∧ ∀ y ∈ (fHint z r).1, y = 0 ∨ y = 1 := by
  refine ⟨dpoly_len _, fun y hy => ?_⟩
  obtain ⟨i, _, rfl⟩ := List.mem_map.1 hy
  exact hintAt_01 z r i
theorem fPl_b (z : Int) : -4095 ≤ fPl z ∧ fPl z ≤ 4096 := by unfold fPl fNear; split <;> omega
theorem fPh_b (z : Int) : 0 ≤ fPh z ∧ fPh z ≤ 1023 := by unfold fPh fPl fNear; split <;> omega
theorem fP_sum (z : Int) : fPh z * 8192 + fPl z - z % 8380417 = 0 := by unfold fPh fPl fNear; split <;> omega
theorem fD_sum (z : Int) : fDh z * 2 * 261888 + fDl z - z % 8380417 = 0 ∨ fDh z * 2 * 261888 + fDl z - z % 8380417 = -8380417 := by
  unfold fDh fDl fDl0 fNear
  split <;> split at * <;> omega
theorem norm_ok {f : Nat → Int} {m : Int} (h0 : 0 ≤ m) (hm : m ≤ 4190208) (h : ∀ i, i < 256 → -m ≤ f i ∧ f i ≤ m) : fNorm (dpoly f) ≤ m := by
  refine (normN_le h0).2 fun i hi => ?_
  rw [dpoly_getD hi]
  have := h i hi
  unfold iabs fCen
  split <;> split at * <;> omega

theorem q_law15_DringParts : ∀ x r, g_law15_DringParts x = some r → ∃ N, p_law15_DringParts N x = some r := by
  refine Spec_of (ks := p_law15_DringParts_ks) (rs := p_law15_DringParts_rs) fun x hw _ => ⟨257, ?_⟩
  obtain ⟨(a : List Int), u⟩ := x
  have ha := wf_d1.1 hw
  have i1 : i32s 256 (fP2R a).2 := rows.range fun i _ => by have := fPl_b (a.getD i 0); omega
  have i2 : i32s 256 (fDec a).2 := rows.range fun i _ => by have := fDl_b (a.getD i 0); omega
  have n1 : fNorm (fP2R a).2 ≤ 4096 := norm_ok (f := fun i => fPl (a.getD i 0)) (by omega) (by omega) fun i _ => by have := fPl_b (a.getD i 0); omega
  have n2 : fNorm (fDec a).2 ≤ 261888 := norm_ok (f := fun i => fDl (a.getD i 0)) (by omega) (by omega) fun i _ => by have := fDl_b (a.getD i 0); omega
  unfold p_law15_DringParts
  simp only [at_Reduce ha, at_P2R ha, at_Dec ha, at_live, at_Norm i1, at_Norm i2, Option.bind_some, not_true_eq_false, if_false]
  rw [if_neg (by omega), if_neg (by omega)]
  refine (iter_run (s := fun i => ((i : Int), fDRed a, (fP2R a).1, (fP2R a).2, (fDec a).1, (fDec a).2, ())) (y := .inr ()) 256 ?_ ?_ 257 (by omega)).trans ?_
  · intro i hi kn
    have g1 : (i : Int) < 256 := by omega
    have g0 : (0 : Int) ≤ i := by omega
    have e0 : (fDRed a).getD i 0 = a.getD i 0 % 8380417 := fDRed_getD hi
    have e1 : (fP2R a).1.getD i 0 = fPh (a.getD i 0) := by rw [show (fP2R a).1 = dpoly fun i => fPh (a.getD i 0) from rfl, dpoly_getD hi]
    have e2 : (fP2R a).2.getD i 0 = fPl (a.getD i 0) := by rw [show (fP2R a).2 = dpoly fun i => fPl (a.getD i 0) from rfl, dpoly_getD hi]
    have e3 : (fDec a).1.getD i 0 = fDh (a.getD i 0) := by rw [show (fDec a).1 = dpoly fun i => fDh (a.getD i 0) from rfl, dpoly_getD hi]
    have e4 : (fDec a).2.getD i 0 = fDl (a.getD i 0) := by rw [show (fDec a).2 = dpoly fun i => fDl (a.getD i 0) from rfl, dpoly_getD hi]
    have b1 := fPl_b (a.getD i 0)
    have b2 := fPh_b (a.getD i 0)
    have b3 := fDl_b (a.getD i 0)
    have b4 := fDh_b (a.getD i 0)
    have s1 := fP_sum (a.getD i 0)
    have s2 := fD_sum (a.getD i 0)
    unfold p_law15_DringParts_l7_F
    simp only [g1, g0, hi, if_true, Int.toNat_natCast, e0, e1, e2, e3, e4]
    have b0 : 0 ≤ a.getD i 0 % 8380417 ∧ a.getD i 0 % 8380417 < 8380417 := by omega
    generalize a.getD i 0 % 8380417 = R at s1 s2 b0
    generalize fPl (a.getD i 0) = p1 at *
    generalize fPh (a.getD i 0) = p2 at *
    generalize fDl (a.getD i 0) = d1 at *
    generalize fDh (a.getD i 0) = d2 at *
    simp (disch := omega) only [wrap_i64]
    rw [if_neg (by omega)]
    by_cases hs : d2 * 2 * 261888 + d1 - R = 0
    · simp (disch := omega) only [if_neg]
      rfl
    · rw [if_pos hs]
      simp (disch := omega) only [if_neg]
      rfl
  · intro kn
    unfold p_law15_DringParts_l7_F
    simp (disch := omega) only [if_neg]
  · rfl

theorem mend_one {r z : Int} (hz : -261888 ≤ fCen z ∧ fCen z ≤ 261888) : useAt (if fDh r ≠ fDh ((r + z) % 8380417) then 1 else 0) r = fDh ((r + z) % 8380417) := by
  have hy : ((r + z) % 8380417 = r % 8380417 + fCen z) ∨ ((r + z) % 8380417 = r % 8380417 + fCen z - 8380417) ∨ ((r + z) % 8380417 = r % 8380417 + fCen z + 8380417) := by
    unfold fCen at *
    split <;> omega
  have hm : ((r + z) % 8380417) % 8380417 = (r + z) % 8380417 := by omega
  have hR : 0 ≤ r % 8380417 ∧ r % 8380417 < 8380417 := by omega
  have hY : 0 ≤ (r + z) % 8380417 ∧ (r + z) % 8380417 < 8380417 := by omega
  unfold useAt
  by_cases he : fDh r = fDh ((r + z) % 8380417)
  · simp [he]
  · simp only [he, ne_eq, not_false_eq_true, if_true]
    rw [if_pos (by omega)]
    unfold fDh fDl fDl0 fNear at *
    rw [hm] at *
    generalize r % 8380417 = R at *
    generalize (r + z) % 8380417 = Y at *
    generalize fCen z = c at *
    split at * <;> split at * <;> split at * <;> split at * <;> (try split at *) <;> omega

theorem q_law15_DringMends : ∀ x r, g_law15_DringMends x = some r → ∃ N, p_law15_DringMends N x = some r := by
  refine Spec_of (ks := p_law15_DringMends_ks) (rs := p_law15_DringMends_rs) fun x hw _ => ⟨257, ?_⟩
  obtain ⟨(z : List Int), (r : List Int), u⟩ := x
  obtain ⟨hz, hr⟩ := wf_d2.1 hw
  unfold p_law15_DringMends
  simp only [at_live, at_Norm hz, Option.bind_some, not_true_eq_false, if_false]
  by_cases hn : fNorm z > 261888
  · rw [if_pos hn]; rfl
  rw [if_neg hn]
  simp only [at_Make hz hr, at_Add hr hz, at_Dec (fDAdd_i32 r z), Option.bind_some]
  have hu : fUse (fHint z r).1 r = (fDec (fDAdd r z)).1 := by
    refine rows.ext (n := 256) (dpoly_len _) (dpoly_len _) fun i hi => ?_
    have hc : iabs (fCen (z.getD i 0)) ≤ 261888 := (normN_le (by omega)).1 (show normN z 256 ≤ 261888 by have : fNorm z = normN z 256 := rfl; omega) i hi
    have hc2 : -261888 ≤ fCen (z.getD i 0) ∧ fCen (z.getD i 0) ≤ 261888 := by unfold iabs at hc; split at hc <;> omega
    rw [show fUse (fHint z r).1 r = dpoly fun i => useAt ((fHint z r).1.getD i 0) (r.getD i 0) from rfl, dpoly_getD hi,
      show (fDec (fDAdd r z)).1 = dpoly fun i => fDh ((fDAdd r z).getD i 0) from rfl, dpoly_getD hi, fDAdd_getD hi,
      show (fHint z r).1 = dpoly (hintAt z r) from rfl, dpoly_getD hi]
    exact mend_one hc2
  refine (iter_from (s := fun i => ((fHint z r).2, cntN (hintAt z r) i, (i : Int), r, (fHint z r).1, (fDec (fDAdd r z)).1, ())) (y := ((fHint z r).2, cntN (hintAt z r) 256, r, (fHint z r).1, (fDec (fDAdd r z)).1, ())) 256 (by rw [cntN_zero]; rfl) ?_ ?_ 257 (by omega)).trans ?_
  · intro i hi kn
    have hb := cntN_b (hintAt z r) i
    have g1 : (i : Int) < 256 := by omega
    have g0 : (0 : Int) ≤ i := by omega
    have e1 : (fHint z r).1.getD i 0 = hintAt z r i := by rw [show (fHint z r).1 = dpoly (hintAt z r) from rfl, dpoly_getD hi]
    unfold p_law15_DringMends_l7_F
    simp only [g1, g0, hi, if_true, Int.toNat_natCast, e1]
    simp (disch := omega) only [wrap_i64]
    rw [cntN_succ, Int.natCast_add]
    split <;> rfl
  · intro kn
    unfold p_law15_DringMends_l7_F
    simp (disch := omega) only [if_neg]
  · simp only [at_Use (hint_ok z r) hr, Option.bind_some, hu, if_true]
    have : (fHint z r).2 = cntN (hintAt z r) 256 := rfl
    simp only [this, decide_true]
end Go.Ax.TryP
