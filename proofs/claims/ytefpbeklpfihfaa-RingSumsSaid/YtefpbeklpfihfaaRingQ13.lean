/- A part of the proof: RingQ13. -/
import Derived.Test.YtefpbeklpfihfaaRingP4
/-! ### The product, as the document reckons it: the printed function -/
namespace Go.Ax.TryP

def sums (h : Nat → Int) : List Int := (List.range 512).map h
theorem sums_getD {h : Nat → Int} {i : Nat} (hi : i < 512) : (sums h).getD i 0 = h i := map_range_getD hi
theorem sums_congr {h h' : Nat → Int} (e : ∀ i, i < 512 → h i = h' i) : sums h = sums h' := List.map_congr_left fun i hi => e i (List.mem_range.1 hi)
theorem sums_set {h h' : Nat → Int} {j : Nat} {v : Int} (hj : h' j = v) (e : ∀ i, i < 512 → i ≠ j → h' i = h i) : (sums h).set j v = sums h' := by
  apply List.ext_getElem?
  intro i
  rw [List.getElem?_set]
  by_cases hij : j = i
  · subst hij
    simp only [if_true]
    by_cases hl : j < 512
    · simp [sums, hl, hj]
    · simp [sums, hl]
  · rw [if_neg hij]
    by_cases hl : i < 512
    · simp [sums, hl, e i hl (Ne.symm hij)]
    · simp [sums, hl]
theorem map_zero (n : Nat) : (List.range n).map (fun _ => (0:Int)) = List.replicate n 0 := by rw [List.map_const', List.length_range]
def cvm (a b : List Int) (i k n : Nat) : Int := if i ≤ n ∧ n < i + k then cv a b (i + 1) n else cv a b i n

theorem q42 : ∀ x r, g42 x = some r → ∃ N, p42 N x = some r := by
  refine Spec_of (ks := p42_ks) (rs := p42_rs) fun x hw _ => ⟨300, ?_⟩
  obtain ⟨(a : List Int), (b : List Int), u⟩ := x
  obtain ⟨ha, hb⟩ := wf_pp.1 hw
  unfold p42
  have hs0 : List.replicate 512 (0:Int) = sums (cv a b 0) := ((sums_congr (h := cv a b 0) (h' := fun _ => 0) fun _ _ => rfl).trans (map_zero 512)).symm
  rw [hs0]
  refine (iter_run (F := p42_l3_F 300) (s := fun i => ((i : Int), a, b, List.replicate 256 0, sums (cv a b i), ())) (y := (List.replicate 256 0, sums (cv a b 256), ())) 256 ?_ ?_ 300 (by omega)).trans ?_
  · intro i hi kn
    unfold p42_l3_F
    dsimp only
    rw [if_pos (by omega)]
    have e0 : sums (cv a b i) = sums (cvm a b i 0) := sums_congr fun n _ => by unfold cvm; rw [if_neg (by omega)]
    rw [e0]
    refine (iter_run (F := p42_l6_F 300) (s := fun k => ((i : Int), (i : Int), (k : Int), a, b, List.replicate 256 0, sums (cvm a b i k), ())) (y := ((i : Int), a, b, List.replicate 256 0, sums (cv a b (i + 1)), ())) 256 ?_ ?_ 300 (by omega)).trans ?_
    · intro k hk kn
      have h1 := ha.at i; have h2 := hb.at k
      have e1 : (fRed a).getD i 0 = a.getD i 0 % 3329 := by rw [fRed, poly_getD hi]
      have e2 : (fRed b).getD k 0 = b.getD k 0 % 3329 := by rw [fRed, poly_getD hk]
      have ec : (i : Int) + (k : Int) = ((i + k : Nat) : Int) := by omega
      have eg : (sums (cvm a b i k)).getD (i + k) 0 = cv a b i (i + k) := by rw [sums_getD (by omega), cvm, if_neg (by omega)]
      have hm := mul_bound (a := a.getD i 0 % 3329) (b := b.getD k 0 % 3329) (by omega) (by omega)
      have hcv := cv_bound a b (i + k) i
      have hcv2 : cv a b i (i + k) ≤ 2835349504 := by
        have : (i : Int) * 11075584 ≤ 256 * 11075584 := by omega
        omega
      unfold p42_l6_F
      simp (disch := omega) only [if_pos, ec, wrap_i64, Int.toNat_natCast, eg, tmod_pos]
      rw [sums_set (h' := cvm a b i (k + 1)) ?_ ?_]
      · rfl
      · unfold cvm
        rw [if_pos (by omega), cv_succ, if_pos (by omega), show i + k - i = k by omega, e1, e2]
      · intro n hn hne
        unfold cvm
        by_cases hc : i ≤ n ∧ n < i + k
        · rw [if_pos hc, if_pos (by omega)]
        · rw [if_neg hc, if_neg (by omega)]
    · intro kn
      unfold p42_l6_F
      dsimp only
      rw [if_neg (by decide)]
      have : sums (cvm a b i 256) = sums (cv a b (i + 1)) := sums_congr fun n _ => by
        unfold cvm
        by_cases hc : i ≤ n ∧ n < i + 256
        · rw [if_pos hc]
        · rw [if_neg hc, cv_succ, if_neg hc]
      rw [this]
    · simp (disch := omega) only [wrap_i64, Int.natCast_add, Int.cast_ofNat_Int]
  · intro kn
    unfold p42_l3_F
    dsimp only
    rw [if_neg (by decide)]
  dsimp only
  refine (iter_run (F := p42_l13_F 300) (s := fun i => ((i : Int), List.replicate 256 0, sums (cv a b 256), part (fun j => (cv a b 256 j - cv a b 256 (j + 256)) % 3329) i (List.replicate 256 0), ())) (y := (List.replicate 256 0, fMulR a b, ())) 256 ?_ ?_ 300 (by omega)).trans ?_
  · intro i hi kn
    have g1 : (sums (cv a b 256)).getD i 0 = cv a b 256 i := sums_getD (by omega)
    have g2 : (sums (cv a b 256)).getD (i + 256) 0 = cv a b 256 (i + 256) := sums_getD (by omega)
    have ec : (i : Int) + 256 = ((i + 256 : Nat) : Int) := by omega
    have h1 := cv_bound a b i 256
    have h2 := cv_bound a b (i + 256) 256
    generalize hx : cv a b 256 i = X at *
    generalize hy : cv a b 256 (i + 256) = Y at *
    unfold p42_l13_F
    simp (disch := omega) only [if_pos, ec, wrap_i64, Int.toNat_natCast, g1, g2, tmod_pos, wrap_u16]
    rw [part_set' (h := fun j => (cv a b 256 j - cv a b 256 (j + 256)) % 3329) (i := i) (by rw [List.length_replicate]; omega) (by rw [hx, hy]; omega)]
    rfl
  · intro kn
    unfold p42_l13_F
    dsimp only
    rw [if_neg (by decide), part_all (n := 256) (by rw [List.length_replicate])]
    rfl
  · rw [fMulR_eq]
theorem at42 {a b : List Int} (ha : u16s 256 a) (hb : u16s 256 b) : g42 (a, b, ()) = some (fMul a b) := Spec_at (ks := p42_ks) (rs := p42_rs) (wf_pp.2 ⟨ha, hb⟩) trivial
theorem q10 : ∀ x r, g10 x = some r → ∃ N, p10 N x = some r := by
  refine Spec_of (ks := p10_ks) (rs := p10_rs) fun x hw _ => ⟨0, ?_⟩
  obtain ⟨(a : List Int), (b : List Int), u⟩ := x
  obtain ⟨ha, hb⟩ := wf_pp.1 hw
  unfold p10
  simp only [at18, at37 ha, at38 ha, at29 ha hb, at39 ha hb, at40 ha hb, at41 ha hb, at28 ha hb, at42 ha hb, Option.bind_some, if_true, decide_true]
theorem s38 : SigOk Go.Proofs.Try.prog 38 ⟨p38_ks, p38_rs, g38⟩ := p38_ok q38
theorem s42 : SigOk Go.Proofs.Try.prog 42 ⟨p42_ks, p42_rs, g42⟩ := p42_ok q42
theorem s10 : SigOk Go.Proofs.Try.prog 10 ⟨p10_ks, p10_rs, g10⟩ := p10_ok s18 s37 s38 s29 s39 s40 s41 s28 s42 q10
end Go.Ax.TryP
