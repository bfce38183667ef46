/- A part of the proof: RingQ10. -/
import Derived.Test.YtefpbeklpfihfaaRingQ9
/-! ### Sums and products: the printed functions; two laws -/
namespace Go.Ax.TryP

theorem red_u16 {a : List Int} (h : red a) : u16s 256 a := h.u16
theorem q28 : ∀ x r, g28 x = some r → ∃ N, p28 N x = some r := by
  refine Spec_of (ks := p28_ks) (rs := p28_rs) fun x hw _ => ⟨0, ?_⟩
  obtain ⟨(a : List Int), (b : List Int), u⟩ := x
  obtain ⟨ha, hb⟩ := wf_pp.1 hw
  unfold p28
  simp only [at24 ha, at24 hb, at20 (red_fNtt a).u16 (red_fNtt b).u16, at26 (red_fMulN _ _).u16, Option.bind_some]
  rfl
theorem q29 : ∀ x r, g29 x = some r → ∃ N, p29 N x = some r := by
  refine Spec_of (ks := p29_ks) (rs := p29_rs) fun x hw _ => ⟨300, ?_⟩
  obtain ⟨(a : List Int), (b : List Int), u⟩ := x
  obtain ⟨ha, hb⟩ := wf_pp.1 hw
  unfold p29
  simp only [at37 ha, at37 hb, Option.bind_some]
  have hl := (fRed_u16 a).1
  refine (iter_run (F := p29_l3_F 300) (s := fun i => ((i : Int), part (fun j => (a.getD j 0 + b.getD j 0) % 3329) i (fRed a), fRed b, List.replicate 256 0, ())) (y := (fAdd a b, List.replicate 256 0, ())) 256 ?_ ?_ 300 (by omega)).trans ?_
  · intro i hi kn
    have e1 : (fRed a).getD i 0 = a.getD i 0 % 3329 := by rw [fRed, poly_getD hi]
    have e2 : (fRed b).getD i 0 = b.getD i 0 % 3329 := by rw [fRed, poly_getD hi]
    unfold p29_l3_F
    simp (disch := omega) only [if_pos, wrap_i64, Int.toNat_natCast, part_getD (Nat.le_refl i), e1, e2, wrap_u16, tmod_pos]
    rw [part_set' (h := fun j => (a.getD j 0 + b.getD j 0) % 3329) (by omega) (by omega)]
    rfl
  · intro kn
    unfold p29_l3_F
    dsimp only
    rw [if_neg (by decide), part_all hl]
    rfl
  · rfl
theorem q39 : ∀ x r, g39 x = some r → ∃ N, p39 N x = some r := by
  refine Spec_of (ks := p39_ks) (rs := p39_rs) fun x hw _ => ⟨300, ?_⟩
  obtain ⟨(a : List Int), (b : List Int), u⟩ := x
  obtain ⟨ha, hb⟩ := wf_pp.1 hw
  unfold p39
  have hl := ha.1
  refine (iter_run (F := p39_l2_F 300) (s := fun i => ((i : Int), part (fun j => (a.getD j 0 + b.getD j 0) % 3329) i a, b, List.replicate 256 0, ())) (y := (fAdd a b, List.replicate 256 0, ())) 256 ?_ ?_ 300 (by omega)).trans ?_
  · intro i hi kn
    have h1 := ha.at i
    have h2 := hb.at i
    unfold p39_l2_F
    simp (disch := omega) only [if_pos, wrap_i64, Int.toNat_natCast, part_getD (Nat.le_refl i), tmod_pos, wrap_u16]
    rw [part_set' (h := fun j => (a.getD j 0 + b.getD j 0) % 3329) (by omega) rfl]
    rfl
  · intro kn
    unfold p39_l2_F
    dsimp only
    rw [if_neg (by decide), part_all hl]
    rfl
  · rfl
theorem q40 : ∀ x r, g40 x = some r → ∃ N, p40 N x = some r := by
  refine Spec_of (ks := p40_ks) (rs := p40_rs) fun x hw _ => ⟨300, ?_⟩
  obtain ⟨(a : List Int), (b : List Int), u⟩ := x
  obtain ⟨ha, hb⟩ := wf_pp.1 hw
  unfold p40
  simp only [at37 ha, at37 hb, Option.bind_some]
  have hl := (fRed_u16 a).1
  refine (iter_run (F := p40_l3_F 300) (s := fun i => ((i : Int), part (fun j => (a.getD j 0 - b.getD j 0) % 3329) i (fRed a), fRed b, List.replicate 256 0, ())) (y := (fSub a b, List.replicate 256 0, ())) 256 ?_ ?_ 300 (by omega)).trans ?_
  · intro i hi kn
    have e1 : (fRed a).getD i 0 = a.getD i 0 % 3329 := by rw [fRed, poly_getD hi]
    have e2 : (fRed b).getD i 0 = b.getD i 0 % 3329 := by rw [fRed, poly_getD hi]
    unfold p40_l3_F
    simp (disch := omega) only [if_pos, wrap_i64, Int.toNat_natCast, part_getD (Nat.le_refl i), e1, e2, wrap_u16, tmod_pos]
    rw [part_set' (h := fun j => (a.getD j 0 - b.getD j 0) % 3329) (by omega) (by omega)]
    rfl
  · intro kn
    unfold p40_l3_F
    dsimp only
    rw [if_neg (by decide), part_all hl]
    rfl
  · rfl
theorem q41 : ∀ x r, g41 x = some r → ∃ N, p41 N x = some r := by
  refine Spec_of (ks := p41_ks) (rs := p41_rs) fun x hw _ => ⟨300, ?_⟩
  obtain ⟨(a : List Int), (b : List Int), u⟩ := x
  obtain ⟨ha, hb⟩ := wf_pp.1 hw
  unfold p41
  have hl := ha.1
  refine (iter_run (F := p41_l2_F 300) (s := fun i => ((i : Int), part (fun j => (a.getD j 0 - b.getD j 0) % 3329) i a, b, List.replicate 256 0, ())) (y := (fSub a b, List.replicate 256 0, ())) 256 ?_ ?_ 300 (by omega)).trans ?_
  · intro i hi kn
    have h1 := ha.at i
    have h2 := hb.at i
    unfold p41_l2_F
    simp (disch := omega) only [if_pos, wrap_i64, Int.toNat_natCast, part_getD (Nat.le_refl i), tmod_pos, wrap_u16]
    rw [part_set' (h := fun j => (a.getD j 0 - b.getD j 0) % 3329) (by omega) (by omega)]
    rfl
  · intro kn
    unfold p41_l2_F
    dsimp only
    rw [if_neg (by decide), part_all hl]
    rfl
  · rfl
theorem at28 {a b : List Int} (ha : u16s 256 a) (hb : u16s 256 b) : g28 (a, b, ()) = some (fMul a b) := Spec_at (ks := p28_ks) (rs := p28_rs) (wf_pp.2 ⟨ha, hb⟩) trivial
theorem at29 {a b : List Int} (ha : u16s 256 a) (hb : u16s 256 b) : g29 (a, b, ()) = some (fAdd a b) := Spec_at (ks := p29_ks) (rs := p29_rs) (wf_pp.2 ⟨ha, hb⟩) trivial
theorem at39 {a b : List Int} (ha : u16s 256 a) (hb : u16s 256 b) : g39 (a, b, ()) = some (fAdd a b) := Spec_at (ks := p39_ks) (rs := p39_rs) (wf_pp.2 ⟨ha, hb⟩) trivial
theorem at40 {a b : List Int} (ha : u16s 256 a) (hb : u16s 256 b) : g40 (a, b, ()) = some (fSub a b) := Spec_at (ks := p40_ks) (rs := p40_rs) (wf_pp.2 ⟨ha, hb⟩) trivial
theorem at41 {a b : List Int} (ha : u16s 256 a) (hb : u16s 256 b) : g41 (a, b, ()) = some (fSub a b) := Spec_at (ks := p41_ks) (rs := p41_rs) (wf_pp.2 ⟨ha, hb⟩) trivial
theorem at38 {a : List Int} (h : u16s 256 a) : g38 (a, ()) = some (fRed a) := Spec_at (ks := p38_ks) (rs := p38_rs) (wf_one.2 h) trivial

theorem q8 : ∀ x r, g8 x = some r → ∃ N, p8 N x = some r := by
  refine Spec_of (ks := p8_ks) (rs := p8_rs) fun x hw _ => ⟨0, ?_⟩
  obtain ⟨(a : List Int), (b : List Int), u⟩ := x
  obtain ⟨ha, hb⟩ := wf_pp.1 hw
  have hA := (red_fNtt a).u16
  have hB := (red_fNtt b).u16
  unfold p8
  simp only [at24 ha, at24 hb, at18, at28 ha hb, at24 (red_fInv _).u16, at20 hA hB, at29 ha hb, at24 (red_fAdd _ _).u16, at29 hA hB, at26 (red_fMulN _ _).u16, fMul, fNtt_fInv, fRed_red (red_fMulN _ _), fNtt_add, Option.bind_some, if_true, decide_true]
theorem wf_ppp {a b c : List Int} : wfAll [.xs (.int .u16) 256, .xs (.int .u16) 256, .xs (.int .u16) 256] (a, b, c, ()) ↔ u16s 256 a ∧ u16s 256 b ∧ u16s 256 c := by simp [wfAll, wf_u16s]
theorem red_fMul (a b : List Int) : red (fMul a b) := red_fInv _
theorem q11 : ∀ x r, g11 x = some r → ∃ N, p11 N x = some r := by
  refine Spec_of (ks := p11_ks) (rs := p11_rs) fun x hw _ => ⟨0, ?_⟩
  obtain ⟨(a : List Int), (b : List Int), (c : List Int), u⟩ := x
  obtain ⟨ha, hb, hc⟩ := wf_ppp.1 hw
  have e1 : (List.set (List.replicate 256 0) 0 (1:Int)) = ex1 := rfl
  unfold p11
  simp only [e1, at18, at29 ha hb, at29 hb ha, at29 hb hc, at28 ha hb, at28 hb ha, at28 hb hc, at28 ha hc, at40 (red_fAdd _ _).u16 hb, at37 ha, at29 (red_fAdd _ _).u16 hc, at29 ha (red_fAdd _ _).u16,
    at28 (red_fMul _ _).u16 hc, at28 ha (red_fMul _ _).u16, at28 ha (red_fAdd _ _).u16, at29 (red_fMul _ _).u16 (red_fMul _ _).u16, at28 ha ex1_u16, fMul_one, fAdd_comm b a, fMul_comm b a, fSub_fAdd, fAdd_assoc, fMul_assoc, fMul_add,
    Option.bind_some, not_true_eq_false, if_false, ne_eq, if_true, decide_true]
theorem s26 : SigOk Go.Proofs.Try.prog 26 ⟨p26_ks, p26_rs, g26⟩ := p26_ok s37 s46 s47 q26
theorem s28 : SigOk Go.Proofs.Try.prog 28 ⟨p28_ks, p28_rs, g28⟩ := p28_ok s24 s20 s26 q28
theorem s29 : SigOk Go.Proofs.Try.prog 29 ⟨p29_ks, p29_rs, g29⟩ := p29_ok s37 q29
theorem s39 : SigOk Go.Proofs.Try.prog 39 ⟨p39_ks, p39_rs, g39⟩ := p39_ok q39
theorem s40 : SigOk Go.Proofs.Try.prog 40 ⟨p40_ks, p40_rs, g40⟩ := p40_ok s37 q40
theorem s41 : SigOk Go.Proofs.Try.prog 41 ⟨p41_ks, p41_rs, g41⟩ := p41_ok q41
theorem s8 : SigOk Go.Proofs.Try.prog 8 ⟨p8_ks, p8_rs, g8⟩ := p8_ok s24 s18 s28 s20 s29 s26 q8
theorem s11 : SigOk Go.Proofs.Try.prog 11 ⟨p11_ks, p11_rs, g11⟩ := p11_ok s18 s29 s28 s40 s37 q11
end Go.Ax.TryP
