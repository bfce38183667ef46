/- A part of the proof: KecQ17, KecQ18, KecQ19, KecQ20, KecP3, KecQ21, KecQ22, KecQ23, KecQ24, KecW. -/
import Derived.Test.YtefpbeklpfihfaaKecB
/-! ### The reference's sponge: the padding -/
set_option linter.unusedVariables false
namespace Go.Ax.TryP
theorem putS_two {a : List Int} (h : u64s 25 a) {p : Nat} (hp : p < 200) {x y : Int} (hx : 0 ≤ x ∧ x ≤ 255) (hy : 0 ≤ y ∧ y ≤ 255) : putS (putS a p x) p y = putS a p (ixor .u8 x y) := by
  have hl : p / 8 < a.length := by rw [h.1]; omega
  obtain ⟨z, hz⟩ : ∃ z : Nat, at0 a (p / 8) = z := ⟨(at0 a (p / 8)).toNat, by have := h.at (p / 8); omega⟩
  have hzb : z < 2 ^ 64 := by have := (h.at (p / 8)).2; omega
  obtain ⟨x, rfl⟩ : ∃ m : Nat, x = m := ⟨x.toNat, by omega⟩
  obtain ⟨y, rfl⟩ : ∃ m : Nat, y = m := ⟨y.toNat, by omega⟩
  have e : at0 (putS a p x) (p / 8) = x64 (at0 a (p / 8)) (ishl .u64 x ((8 * (p % 8) : Nat) : Int)) := getD_set_eq hl
  unfold putS at e ⊢
  rw [e, List.set_set, hz]
  congr 1
  have hs : 8 * (p % 8) ≤ 56 := by omega
  generalize 8 * (p % 8) = s at *
  have hp2 : (2 : Nat) ^ s ≤ 2 ^ 56 := Nat.pow_le_pow_right (by omega) hs
  have hb : ∀ w : Nat, w ≤ 255 → w * 2 ^ s < 2 ^ 64 := fun w hw => by
    have := Nat.mul_le_mul hw hp2
    omega
  have hxy : x ^^^ y < 2 ^ 8 := Nat.xor_lt_two_pow (by omega) (by omega)
  rw [ixor_nat (k := .u8) rfl (by simp [IntKind.bits]; omega) (by simp [IntKind.bits]; omega)]
  rw [ishl_nat rfl (by simp [IntKind.bits]; omega) (hb x (by omega)), ishl_nat rfl (by simp [IntKind.bits]; omega) (hb y (by omega)), ishl_nat rfl (by simp [IntKind.bits]; omega) (hb _ (by omega))]
  unfold x64
  rw [ixor_nat rfl hzb (hb x (by omega)), ixor_nat rfl (Nat.xor_lt_two_pow hzb (hb x (by omega))) (hb y (by omega)), ixor_nat rfl hzb (hb _ (by omega))]
  congr 1
  rw [Nat.xor_assoc]
  congr 1
  rw [← Nat.shiftLeft_eq, ← Nat.shiftLeft_eq, ← Nat.shiftLeft_eq, Nat.shiftLeft_xor_distrib]
theorem feed_zeros {rate : Nat} {s : List Int × Nat} (hs : okSp rate s) : ∀ k : Nat, s.2 + k < rate → feed rate s (List.replicate k 0) = (s.1, s.2 + k)
  | 0, _ => rfl
  | k + 1, h => by
    rw [List.replicate_succ', feed_append, feed_zeros hs k (by omega), feed_one]
    unfold stepT
    dsimp only
    rw [if_neg (by omega), putS_zero hs.1]
    rfl
end Go.Ax.TryP
/-! ### The reference's sponge: padded texts are absorbed -/
set_option linter.unusedVariables false
namespace Go.Ax.TryP
theorem feed_pos {rate : Nat} : ∀ {s : List Int × Nat} (l : List Int), s.2 < rate → (feed rate s l).2 = (s.2 + l.length) % rate
  | s, [], h => (Nat.mod_eq_of_lt h).symm
  | s, x :: l, h => by
    have h1 : (stepT rate s x).2 < rate ∧ (stepT rate s x).2 % rate = (s.2 + 1) % rate := by
      unfold stepT
      split
      · rename_i e; exact ⟨by show 0 < rate; omega, by show 0 % rate = _; rw [e]; simp⟩
      · exact ⟨by show s.2 + 1 < rate; omega, rfl⟩
    show (feed rate (stepT rate s x) l).2 = _
    rw [feed_pos l h1.1, ← Nat.mod_add_mod, h1.2, Nat.mod_add_mod, List.length_cons]
    congr 1; omega
theorem set_last {l : List Int} {x y : Int} : (l ++ [x]).set l.length y = l ++ [y] := by simp
theorem feed_pad {rate : Nat} {l : List Int} {e : Int} {k : Nat} (hr : 8 ≤ rate ∧ rate ≤ 200) (he : 0 ≤ e ∧ e ≤ 255) (hk : k < rate) (hd : (l.length + 1 + k) % rate = 0) :
    (feed rate (z25, 0) ((l ++ [e] ++ List.replicate k 0).set (l.length + k) (ixor .u8 ((l ++ [e] ++ List.replicate k 0).getD (l.length + k) 0) 128))).1 = absorb rate e (z25, 0) l := by
  have hs : okSp rate (z25, 0) := ⟨z25_u, by show 0 < rate; omega⟩
  have hS := feed_ok l hs
  have hpos := feed_pos l hs.2
  unfold absorb
  dsimp only at hpos
  rw [Nat.zero_add] at hpos
  have hmod : ((feed rate (z25, 0) l).2 + 1 + k) % rate = 0 := by
    rw [hpos, Nat.add_assoc, Nat.mod_add_mod, ← Nat.add_assoc]; exact hd
  cases k with
  | zero =>
    rw [Nat.add_zero, List.replicate_zero, List.append_nil, set_last]
    rw [show (l ++ [e]).getD l.length 0 = e by simp, feed_append, feed_one]
    generalize feed rate (z25, 0) l = S at *
    have h2 := hS.2
    have hp : S.2 + 1 = rate := by
      rw [Nat.add_zero] at hmod
      by_cases h : S.2 + 1 < rate
      · rw [Nat.mod_eq_of_lt h] at hmod; omega
      · omega
    unfold stepT
    rw [if_pos hp, show rate - 1 = S.2 by omega, putS_two hS.1 (by omega) he (by omega)]
  | succ k =>
    rw [List.replicate_succ', ← List.append_assoc, show l.length + (k + 1) = (l ++ [e] ++ List.replicate k 0).length by simp; try omega, set_last]
    have g : List.getD (l ++ [e] ++ List.replicate k (0 : Int) ++ [(0 : Int)]) (l ++ [e] ++ List.replicate k (0 : Int)).length (0 : Int) = 0 := by
      rw [List.getD_eq_getElem?_getD, List.getElem?_append_right (Nat.le_refl _)]; simp
    rw [g]
    rw [feed_append, feed_append, feed_append, feed_one, feed_one]
    generalize feed rate (z25, 0) l = S at *
    have h2 := hS.2
    have hp : S.2 + 1 + (k + 1) = rate := by
      by_cases h : S.2 + 1 + (k + 1) < rate
      · rw [Nat.mod_eq_of_lt h] at hmod; omega
      · rw [Nat.mod_eq_sub_mod (by omega), Nat.mod_eq_of_lt (by omega)] at hmod; omega
    have e1 : stepT rate S e = (putS S.1 S.2 e, S.2 + 1) := by unfold stepT; rw [if_neg (by omega)]
    rw [e1, feed_zeros ⟨putS_u hS.1 _ _, by show S.2 + 1 < rate; omega⟩ k (by show S.2 + 1 + k < rate; omega)]
    unfold stepT
    dsimp only
    rw [if_pos (by omega), show rate - 1 = S.2 + 1 + k by omega]
    rfl
end Go.Ax.TryP
/-! ### The reference's sponge: the padding's loop -/
set_option linter.unusedVariables false
namespace Go.Ax.TryP
def padN (rate L : Nat) : Nat := (rate - L % rate) % rate
theorem padN_ok {rate : Nat} (hr : 0 < rate) (L : Nat) : padN rate L < rate ∧ (L + padN rate L) % rate = 0 ∧ ∀ i, i < padN rate L → (L + i) % rate ≠ 0 := by
  have h1 := Nat.mod_lt L hr
  have e := Nat.div_add_mod L rate
  unfold padN
  by_cases h : L % rate = 0
  · rw [h, Nat.sub_zero, Nat.mod_self]
    exact ⟨hr, h, fun i hi => absurd hi (by omega)⟩
  · rw [Nat.mod_eq_of_lt (show rate - L % rate < rate by omega)]
    refine ⟨by omega, ?_, fun i hi => ?_⟩
    · rw [← Nat.mod_add_mod, show L % rate + (rate - L % rate) = rate by omega, Nat.mod_self]
    · rw [← Nat.mod_add_mod, Nat.mod_eq_of_lt (by omega)]; omega
theorem pad_all {rate : Nat} {n : Int} {b : List Int} {L : Nat} (hr : 8 ≤ rate ∧ rate ≤ 200) (hb : b.length = L) (hL : L ≤ 4294967100) {β : Type} {N : Nat} (hN : rate < N) {k : _ → Option β} :
    iter (p_ref03_Sponge_l2_F N) N ((rate : Int), n, L, L, b, ()) k = k ((rate : Int), n, L + padN rate L, L + padN rate L, b ++ List.replicate (padN rate L) 0, ()) := by
  obtain ⟨h1, h2, h3⟩ := padN_ok (show 0 < rate by omega) L
  have hm : ∀ i : Nat, Int.tmod ((i : Nat) : Int) (rate : Int) = ((i % rate : Nat) : Int) := fun i => by rw [tmod_pos (by omega)]; omega
  refine iter_from (F := p_ref03_Sponge_l2_F N) (s := fun i => ((rate : Int), n, L + i, L + i, b ++ List.replicate i 0, ())) (y := ((rate : Int), n, L + padN rate L, L + padN rate L, b ++ List.replicate (padN rate L) 0, ())) (padN rate L) ?_ ?_ ?_ N (by omega)
  · rw [Nat.add_zero, List.replicate_zero, List.append_nil]
  · intro i hi kn
    have := h3 i hi
    unfold p_ref03_Sponge_l2_F
    dsimp only
    rw [if_neg (by omega), hm, if_pos (by omega), if_pos (by omega), List.append_assoc]
    rw [show (List.replicate 1 (0 : Int)).set 0 0 = [0] from rfl, ← List.replicate_succ']
    rfl
  · intro kn
    unfold p_ref03_Sponge_l2_F
    dsimp only
    rw [if_neg (by omega), hm, h2, if_neg (by simp)]
end Go.Ax.TryP
/-! ### The reference's sponge -/
set_option linter.unusedVariables false
namespace Go.Ax.TryP
theorem at_Join2 {l : List Int} {e : Int} (hl : l.length ≤ 4294967000 ∧ ∀ z ∈ l, 0 ≤ z ∧ z ≤ 255) (he : 0 ≤ e ∧ e ≤ 255) : g_ref01_Join ([l, [e]], ()) = some (l ++ [e]) := by
  have hM : 4294967296 ≤ maxLen := by decide
  have hw : partsOk [l, [e]] := by
    refine ⟨by simp only [List.length_cons, List.length_nil]; omega, fun zs hz => ?_⟩
    rcases List.mem_cons.1 hz with rfl | hz
    · exact ⟨by omega, hl.2⟩
    · rw [List.mem_singleton.1 hz]
      exact ⟨by simp only [List.length_cons, List.length_nil]; omega, fun z hz => by rw [List.mem_singleton.1 hz]; exact he⟩
  have := Spec_at (ks := [.sls (.int .u8)]) (rs := [.sl (.int .u8)]) (x := ([l, [e]], ())) (Q := fun x => x.1.flatten.length ≤ 4294967296) (f := fun x => x.1.flatten) ⟨wf_parts.2 hw, trivial⟩ (by show [l, [e]].flatten.length ≤ 4294967296; simp; omega)
  refine Eq.trans this ?_
  show some ([l, [e]].flatten) = _
  simp
theorem q_ref03_Sponge : ∀ x r, g_ref03_Sponge x = some r → ∃ N, p_ref03_Sponge N x = some r := by
  refine Spec_of (ks := p_ref03_Sponge_ks) (rs := p_ref03_Sponge_rs) fun x hw hq => ?_
  obtain ⟨(r : Int), (e : Int), (l : List Int), (n : Int), u⟩ := x
  have he : 0 ≤ e ∧ e ≤ 255 := okInt_u8.1 hw.2.1
  have hl := wf_bytes.1 hw.2.2.1
  obtain ⟨hr, h0, h1, h2⟩ : (8 ≤ r ∧ r ≤ 200) ∧ 0 ≤ n ∧ n ≤ 1048576 ∧ l.length ≤ 4294967000 := hq
  obtain ⟨rate, rfl⟩ : ∃ m : Nat, r = m := ⟨r.toNat, by omega⟩
  obtain ⟨n, rfl⟩ : ∃ m : Nat, n = m := ⟨n.toNat, by omega⟩
  have hr' : 8 ≤ rate ∧ rate ≤ 200 := by omega
  have hL : (l ++ [e]).length = l.length + 1 := by simp
  obtain ⟨p1, p2, _⟩ := padN_ok (show 0 < rate by omega) (l.length + 1)
  have hf := feed_pad (e := e) hr' he p1 p2
  have hpad := fun {β : Type} {N : Nat} (hN : rate < N) (k : _ → Option β) => pad_all (n := (n : Int)) hr' hL (show l.length + 1 ≤ 4294967100 by omega) hN (k := k)
  generalize padN rate (l.length + 1) = k at *
  have hbz : ∀ z ∈ l ++ [e] ++ List.replicate k (0 : Int), 0 ≤ z ∧ z ≤ 255 := by
    intro z hz
    rcases List.mem_append.1 hz with hz | hz
    · rcases List.mem_append.1 hz with hz | hz
      · exact hl.2 z hz
      · rw [List.mem_singleton.1 hz]; exact he
    · rw [List.eq_of_mem_replicate hz]; omega
  have hblen : (l ++ [e] ++ List.replicate k (0 : Int)).length = l.length + 1 + k := by simp; omega
  generalize l ++ [e] ++ List.replicate k (0 : Int) = B at *
  have hm : l.length + 1 + k = (l.length + 1 + k) / rate * rate := by
    have := Nat.div_add_mod (l.length + 1 + k) rate
    rw [p2, Nat.mul_comm] at this; omega
  have hxb : 0 ≤ ixor .u8 (B.getD (l.length + k) 0) 128 ∧ ixor .u8 (B.getD (l.length + k) 0) 128 ≤ 255 := by
    unfold ixor
    simp [IntKind.wrap, IntKind.signed, IntKind.bits]; omega
  have hz2 : ∀ z ∈ B.set (l.length + k) (ixor .u8 (B.getD (l.length + k) 0) 128), 0 ≤ z ∧ z ≤ 255 := by
    intro z hz
    rcases List.mem_or_eq_of_mem_set hz with hz | hz
    · exact hbz z hz
    · rw [hz]; exact hxb
  have hN1 : (l.length + 1 + k) / rate ≤ l.length + 1 + k := Nat.div_le_self _ _
  refine ⟨l.length + 1 + k + n + 201, ?_⟩
  unfold p_ref03_Sponge
  refine (congrArg (fun o => Option.bind o _) (at_Join2 ⟨h2, hl.2⟩ he)).trans ?_
  rw [Option.bind_some]
  dsimp only
  rw [hL]
  refine (hpad (by omega) _).trans ?_
  dsimp only
  have c1 : IntKind.i64.wrap (((l.length + 1 + k : Nat) : Int) - 1) = ((l.length + k : Nat) : Int) := by rw [wrap_i64 (by omega) (by omega)]; omega
  rw [c1, Int.toNat_natCast, if_pos (by omega), if_pos (by omega), if_pos (by omega), if_pos (by omega), if_pos (by omega), if_pos (by omega)]
  refine (blocks_all (m := (l.length + 1 + k) / rate) hr' (by rw [List.length_set, hblen]) (by omega) hz2 hm (by omega) (by omega)).trans ?_
  dsimp only
  rw [hf]
  refine (squeeze_all hr' (by omega) (absorb_u ⟨z25_u, by show 0 < rate; omega⟩ _ _) (by omega)).trans ?_
  dsimp only
  rw [Int.toNat_natCast, Int.toNat_natCast]
  rfl
end Go.Ax.TryP
/-! Printed by program (gen.py). -/
set_option linter.unusedVariables false
namespace Go.Ax.TryP
/-! livery/liveryref01.Join -/
noncomputable def p_ref01_Join_E : AE := AE.of [(5, ty5), (34, ty34), (67, ty67)] []
noncomputable def p_ref01_Join_H : Hints := [(3, [3, 7, 8, 9]), (2000000, [3]), (2000001, [3, 7, 8, 9]), (3000000, [2])]
noncomputable def p_ref01_Join_c : Code := (Go.Proofs.Try.f67).body.getD .skip
noncomputable def p_ref01_Join_l3_S : Shape where
  h := { tmps := [.any, .any, .any, .sc (.vec 0 none 1), .any, .any, .any, .sc (.frs (.int .u8)), .sc (.int .i64), .sc (.int .i64), .any, .any, .any, .any, .any, .any, .any, .any], mem := [.live [.xs (.int .u8) none] (.own)] }
  ks := [.nat, .xss, .int, .int, .nat, .xs]
  st := fun x => { tmps := [.one .any, .one .any, .one .any, .one (.sc (.vec 0 x.1 1)), .one .any, .one .any, .one .any, .one (.sc (.fr (.xss (.int .u8) x.2.1))), .one (.sc (.int .i64 x.2.2.1)), .one (.sc (.int .i64 x.2.2.2.1)), .one .any, .one .any, .one .any, .one .any, .one .any, .one .any, .one .any, .one .any], mem := [.live { segs := [.xs (.int .u8) x.2.2.2.2.1 x.2.2.2.2.2.1], own := .own }] }
noncomputable def p_ref01_Join_l3_F (N : Nat) (β : Type) (x : (Nat × List (List Int) × Int × Int × Nat × List Int × Unit)) (kn : (Nat × List (List Int) × Int × Int × Nat × List Int × Unit) → Option β) (ke : ((Nat × Nat × List Int × Unit)) → Option β) : Option β :=
  if (x.2.2.2.1 < x.2.2.1) then
    if 0 ≤ x.2.2.2.1 then (
    if x.2.2.2.1 < ((List.length x.2.1 : Nat) : Int) then (
    if (x.1 + (List.length (List.getD x.2.1 (x.2.2.2.1.toNat) []))) * 1 ≤ 140737488355328 then (
    kn ((x.1 + (List.length (List.getD x.2.1 (x.2.2.2.1.toNat) []))), x.2.1, x.2.2.1, (IntKind.i64.wrap (x.2.2.2.1 + (1:Int))), (x.2.2.2.2.1 + (List.length (List.getD x.2.1 (x.2.2.2.1.toNat) []))), (x.2.2.2.2.2.1 ++ (List.getD x.2.1 (x.2.2.2.1.toNat) [])), ())) else none) else none) else none
  else
    ke (x.1, x.2.2.2.2.1, x.2.2.2.2.2.1, ())
noncomputable def p_ref01_Join_l3_go : Go' ((Nat × Nat × List Int × Unit)) := fun y K => K (.exit 0) { tmps := [.one .any, .one .any, .one .any, .one (.sc (.vec 0 y.1 1)), .one .any, .one .any, .one .any, .one .any, .one .any, .one .any, .one .any, .one .any, .one .any, .one .any, .one .any, .one .any, .one .any, .one .any], mem := [.live { segs := [.xs (.int .u8) y.2.1 y.2.2.1], own := .own }] }
noncomputable def p_ref01_Join_l3_L (N : Nat) : LT := upd (LT.nil) 3 (loopE p_ref01_Join_l3_S N (p_ref01_Join_l3_F N) p_ref01_Join_l3_go)
theorem p_ref01_Join_l3_ok (N : Nat) : OkAll p_ref01_Join_E p_ref01_Join_H N (p_ref01_Join_l3_L N) (subs p_ref01_Join_c) :=
  addLoop (c := theLoop 3 p_ref01_Join_c) (OkAll.nil) (by kernel_rfl) (fun x => by kernel_rfl) (fun β x kn ke => by kernel_rfl)
abbrev p_ref01_Join_ks : List Kd := [.sls (.int .u8)]
abbrev p_ref01_Join_rs : List Kd := [.sl (.int .u8)]
noncomputable def p_ref01_Join (N : Nat) (x : List (List Int) × Unit) : Option (List Int) :=
  iter (p_ref01_Join_l3_F N) N (0, x.1, ((List.length x.1 : Nat) : Int), (0:Int), 0, (List.replicate 0 0), ()) fun y1 => (
  some y1.2.2.1)
theorem p_ref01_Join_eq (N : Nat) (x : Ds [.sls (.int .u8)]) : funL p_ref01_Join_E p_ref01_Join_H (p_ref01_Join_l3_L N) N Go.Proofs.Try.f67 p_ref01_Join_c [.sls (.int .u8)] [.sl (.int .u8)] x = p_ref01_Join N x := by kernel_rfl
theorem p_ref01_Join_Eok : p_ref01_Join_E.Ok Go.Proofs.Try.prog := AE.of_ok (all_cons ty5_ok (all_cons ty34_ok (all_cons ty67_ok all_nil))) all_nil
theorem p_ref01_Join_ok {g : Ds [.sls (.int .u8)] → Option (Rs [.sl (.int .u8)])} (hg : ∀ x r, g x = some r → ∃ N, p_ref01_Join N x = some r) : SigOk Go.Proofs.Try.prog 67 ⟨[.sls (.int .u8)], [.sl (.int .u8)], g⟩ :=
  fun_of (E := p_ref01_Join_E) (H := p_ref01_Join_H) (L := fun N => p_ref01_Join_l3_L N) (c := p_ref01_Join_c) (ks := p_ref01_Join_ks) (rs := p_ref01_Join_rs) (F := p_ref01_Join) (p_ref01_Join_Eok) mix Go.Proofs.Try.func67 (by kernel_rfl) (fun N => p_ref01_Join_l3_ok N) p_ref01_Join_eq hg
end Go.Ax.TryP
/-! ### Texts joined -/
set_option linter.unusedVariables false
namespace Go.Ax.TryP
theorem q_ref01_Join : ∀ x r, g_ref01_Join x = some r → ∃ N, p_ref01_Join N x = some r := by
  refine Spec_of (ks := p_ref01_Join_ks) (rs := p_ref01_Join_rs) fun x hw hq => ?_
  obtain ⟨(l : List (List Int)), u⟩ := x
  have hp : partsOk l := wf_parts.1 hw.1
  have hq : l.flatten.length ≤ 4294967296 := hq
  have hM : maxLen ≤ 9223372036854775807 := by decide
  have hl := hp.1
  have hone : ∀ i : Nat, i < l.length → (l.take (i + 1)).flatten = (l.take i).flatten ++ l.getD i [] := fun i hi => by
    rw [List.take_succ_eq_append_getElem hi, List.flatten_append, List.getD_eq_getElem?_getD, List.getElem?_eq_getElem hi]; simp
  have hle : ∀ i : Nat, (l.take i).flatten.length ≤ l.flatten.length := fun i => by
    conv => rhs; rw [← List.take_append_drop i l, List.flatten_append, List.length_append]
    omega
  refine ⟨l.length + 1, ?_⟩
  unfold p_ref01_Join
  dsimp only
  refine (iter_from (F := p_ref01_Join_l3_F (l.length + 1)) (s := fun i => ((l.take i).flatten.length, l, (l.length : Int), (i : Int), (l.take i).flatten.length, (l.take i).flatten, ()))
    (y := (l.flatten.length, l.flatten.length, l.flatten, ())) l.length rfl ?_ ?_ _ (by omega)).trans ?_
  · intro i hi kn
    have h1 := hle (i + 1)
    rw [hone i hi] at h1 ⊢
    rw [List.length_append] at h1 ⊢
    unfold p_ref01_Join_l3_F
    dsimp only
    rw [if_pos (by omega), if_pos (by omega), if_pos (by omega), Int.toNat_natCast, if_pos (by omega), wrap_i64 (by omega) (by omega)]
    rfl
  · intro kn
    unfold p_ref01_Join_l3_F
    dsimp only
    rw [if_neg (by omega), List.take_length]
  · rfl
end Go.Ax.TryP
/-! ### Samples: the inner loop of the first program -/
set_option linter.unusedVariables false
namespace Go.Ax.TryP
abbrev z256 : List Int := List.replicate 256 0
def padL (L : List Int) : List Int := L ++ List.replicate (256 - L.length) 0
theorem padL_set {L : List Int} {c : Int} (h : L.length < 256) : (padL L).set L.length c = padL (L ++ [c]) := by
  unfold padL
  rw [List.set_append_right _ _ (Nat.le_refl _), Nat.sub_self, List.append_assoc]
  obtain ⟨k, hk⟩ : ∃ k, 256 - L.length = k + 1 := ⟨255 - L.length, by omega⟩
  rw [hk, List.replicate_succ, List.set_cons_zero, List.length_append, List.length_singleton, show 256 - (L.length + 1) = k by omega]
  rfl
theorem padL_full {L : List Int} (h : L.length = 256) : padL L = L := by simp [padL, h]
abbrev Il := Int × Int × List Int × Int × List Int × List Int × Bool × List Int × Int × Int × Int × Unit
abbrev Ol := (Int × List Int × Unit) ⊕ (Int × Int × List Int × List Int × Bool × List Int × Int × Int × Int × Unit)
theorem inner_no {N : Nat} {β : Type} {t : Int} {cs z A : List Int} {b : Bool} {r p q : Int} {L : List Int} {j : Nat} (hj : j < 2) (hc : 3329 ≤ cs.getD j 0) (kn : Il → Option β) (ke : Ol → Option β) :
    p_ring_SampleNtt_l11_F N β ((L.length : Int), t, cs, (j : Int), z, padL L, b, A, r, p, q, ()) kn ke = kn ((L.length : Int), t, cs, ((j + 1 : Nat) : Int), z, padL L, b, A, r, p, q, ()) := by
  unfold p_ring_SampleNtt_l11_F
  dsimp only
  rw [if_pos (by omega), if_pos (by omega), if_pos (by omega), if_pos (by omega), Int.toNat_natCast, if_pos hc, wrap_i64 (by omega) (by omega)]
  rfl
theorem inner_yes {N : Nat} {β : Type} {t : Int} {cs z A : List Int} {b : Bool} {r p q : Int} {L : List Int} {j : Nat} (hj : j < 2) (hc : cs.getD j 0 < 3329) (hL : L.length < 255) (kn : Il → Option β) (ke : Ol → Option β) :
    p_ring_SampleNtt_l11_F N β ((L.length : Int), t, cs, (j : Int), z, padL L, b, A, r, p, q, ()) kn ke = kn (((L ++ [cs.getD j 0]).length : Int), t, cs, ((j + 1 : Nat) : Int), z, padL (L ++ [cs.getD j 0]), b, A, r, p, q, ()) := by
  unfold p_ring_SampleNtt_l11_F
  dsimp only
  rw [if_pos (by omega), if_pos (by omega), if_pos (by omega), if_pos (by omega), Int.toNat_natCast, if_neg (by omega), if_pos (by omega), if_pos (by omega), Int.toNat_natCast, if_pos (by omega), wrap_i64 (by omega) (by omega), if_neg (by omega), padL_set (by omega), wrap_i64 (by omega) (by omega), List.length_append, List.length_singleton]
  rfl
theorem inner_full {N : Nat} {β : Type} {t : Int} {cs z A : List Int} {b : Bool} {r p q : Int} {L : List Int} {j : Nat} (hj : j < 2) (hc : cs.getD j 0 < 3329) (hL : L.length = 255) (kn : Il → Option β) (ke : Ol → Option β) :
    p_ring_SampleNtt_l11_F N β ((L.length : Int), t, cs, (j : Int), z, padL L, b, A, r, p, q, ()) kn ke = ke (.inl (0, L ++ [cs.getD j 0], ())) := by
  have hf : padL (L ++ [cs.getD j 0]) = L ++ [cs.getD j 0] := padL_full (by simp [hL])
  unfold p_ring_SampleNtt_l11_F
  dsimp only
  rw [if_pos (by omega), if_pos (by omega), if_pos (by omega), if_pos (by omega), Int.toNat_natCast, if_neg (by omega), if_pos (by omega), if_pos (by omega), Int.toNat_natCast, if_pos (by omega), wrap_i64 (by omega) (by omega), if_pos (by omega), padL_set (by omega), hf]
theorem inner_end {N : Nat} {β : Type} {t : Int} {cs z A a : List Int} {b : Bool} {r p q n : Int} (kn : Il → Option β) (ke : Ol → Option β) :
    p_ring_SampleNtt_l11_F N β (n, t, cs, ((2 : Nat) : Int), z, a, b, A, r, p, q, ()) kn ke = ke (.inr (n, t, z, a, b, A, r, p, q, ())) := by
  unfold p_ring_SampleNtt_l11_F
  dsimp only
  rw [if_neg (by omega)]
/-- What is taken of two candidates. -/
def took (L cs : List Int) : List Int := L ++ cs.filter fun z => decide (z < 3329)
theorem take256 {L : List Int} (h : L.length ≤ 256) : L.take 256 = L := List.take_of_length_le h
theorem inner_all {N : Nat} {β : Type} {t : Int} {z A : List Int} {b : Bool} {r p q : Int} {L : List Int} {c d : Int} (hL : L.length < 256) (ke : Ol → Option β) :
    iter (p_ring_SampleNtt_l11_F (N + 3)) (N + 3) ((L.length : Int), t, [c, d], (0 : Int), z, padL L, b, A, r, p, q, ()) ke
    = if (took L [c, d]).length < 256 then ke (.inr (((took L [c, d]).length : Int), t, z, padL (took L [c, d]), b, A, r, p, q, ())) else ke (.inl (0, (took L [c, d]).take 256, ())) := by
  have s0 : ∀ (L : List Int) (kn : Il → Option β), p_ring_SampleNtt_l11_F (N + 3) β ((L.length : Int), t, [c, d], (0 : Int), z, padL L, b, A, r, p, q, ()) kn ke = p_ring_SampleNtt_l11_F (N + 3) β ((L.length : Int), t, [c, d], ((0 : Nat) : Int), z, padL L, b, A, r, p, q, ()) kn ke := fun _ _ => rfl
  simp only [iter]
  rw [s0]
  by_cases hc : c < 3329
  · by_cases h1 : L.length = 255
    · rw [inner_full (j := 0) (cs := [c, d]) (L := L) (by omega) hc h1, if_neg (by simp [took, hc]; omega)]
      congr 2
      simp [took, hc, h1, List.take_append, take256 (L := L) (by omega)]
    · rw [inner_yes (j := 0) (cs := [c, d]) (L := L) (by omega) hc (by omega)]
      show p_ring_SampleNtt_l11_F (N + 3) β (((L ++ [c]).length : Int), t, [c, d], ((1 : Nat) : Int), z, padL (L ++ [c]), b, A, r, p, q, ()) _ ke = _
      by_cases hd : d < 3329
      · by_cases h2 : L.length = 254
        · rw [inner_full (j := 1) (cs := [c, d]) (L := L ++ [c]) (by omega) hd (by simp; omega), if_neg (by simp [took, hc, hd]; omega)]
          simp [took, hc, hd, h2, List.take_append, take256 (L := L) (by omega)]
        · rw [inner_yes (j := 1) (cs := [c, d]) (L := L ++ [c]) (by omega) hd (by simp; omega)]
          refine (inner_end _ _).trans ?_
          rw [if_pos (by simp [took, hc, hd]; omega)]
          simp [took, hc, hd]
      · rw [inner_no (j := 1) (cs := [c, d]) (L := L ++ [c]) (by omega) (by show 3329 ≤ d; omega)]
        refine (inner_end _ _).trans ?_
        rw [if_pos (by simp [took, hc, hd]; omega)]
        simp [took, hc, hd]
  · rw [inner_no (j := 0) (cs := [c, d]) (L := L) (by omega) (by show 3329 ≤ c; omega)]
    by_cases hd : d < 3329
    · by_cases h2 : L.length = 255
      · rw [inner_full (j := 1) (cs := [c, d]) (L := L) (by omega) hd h2, if_neg (by simp [took, hc, hd]; omega)]
        simp [took, hc, hd, h2, List.take_append, take256 (L := L) (by omega)]
      · rw [inner_yes (j := 1) (cs := [c, d]) (L := L) (by omega) hd (by omega)]
        refine (inner_end _ _).trans ?_
        rw [if_pos (by simp [took, hc, hd]; omega)]
        simp [took, hc, hd]
    · rw [inner_no (j := 1) (cs := [c, d]) (L := L) (by omega) (by show 3329 ≤ d; omega)]
      refine (inner_end _ _).trans ?_
      rw [if_pos (by simp [took, hc, hd]; omega)]
      simp [took, hc, hd]
end Go.Ax.TryP
/-! ### Samples: the first program -/
set_option linter.unusedVariables false
namespace Go.Ax.TryP
theorem outB_b (rate : Nat) (a : List Int) (p : Nat) : 0 ≤ outB rate a p ∧ outB rate a p ≤ 255 := by
  unfold outB byteOf
  simp [IntKind.wrap, IntKind.signed, IntKind.bits]; omega
theorem stOf_ok {rate : Nat} (hr : 0 < rate) {a : List Int} (ha : u64s 25 a) (p : Nat) : u64s 25 (stOf rate a p).1 ∧ (stOf rate a p).2 ≤ rate := by
  refine ⟨perms_u ha _, ?_⟩
  unfold stOf
  have e := Nat.div_add_mod (p - 1) rate
  have e1 := Nat.mod_lt (p - 1) hr
  rw [Nat.mul_comm] at e
  show p - (p - 1) / rate * rate ≤ rate
  omega
theorem at_Read3 {A : List Int} {P : Nat} (hA : u64s 25 A) {c : Int} (hc : 0 ≤ c ∧ c ≤ 1000000) : g_keccak_Xof_Read ((true, (stOf 168 A P).1, 168, ((stOf 168 A P).2 : Int), c, ()), 3, ())
    = some ([outB 168 A P, outB 168 A (P + 1), outB 168 A (P + 2)], 0, (true, (stOf 168 A (P + 3)).1, 168, ((stOf 168 A (P + 3)).2 : Int), c + 3, ())) := by
  obtain ⟨h1, h2⟩ := stOf_ok (rate := 168) (by omega) hA P
  have := Spec_at (ks := p_keccak_Xof_Read_ks) (rs := p_keccak_Xof_Read_rs) (x := ((true, (stOf 168 A P).1, 168, ((stOf 168 A P).2 : Int), c, ()), 3, ()))
    (Q := fun x => x.1.1 = true ∧ 0 ≤ x.2.1 ∧ x.2.1 ≤ 1048576 ∧ okRate x.1.2.2.1 ∧ 0 ≤ x.1.2.2.2.1 ∧ x.1.2.2.2.1 ≤ x.1.2.2.1)
    (f := fun x => ((List.range x.2.1.toNat).map (fun k => outB x.1.2.2.1.toNat x.1.2.1 (x.1.2.2.2.1.toNat + k)), 0,
    (true, (stOf x.1.2.2.1.toNat x.1.2.1 (x.1.2.2.2.1.toNat + x.2.1.toNat)).1, x.1.2.2.1, ((stOf x.1.2.2.1.toNat x.1.2.1 (x.1.2.2.2.1.toNat + x.2.1.toNat)).2 : Int), IntKind.i64.wrap (x.1.2.2.2.2.1 + x.2.1), ())))
    ⟨wf_xf.2 ⟨h1, by omega, by omega, by omega⟩, (okInt_i64 (n := 3)).2 (by omega), trivial⟩ ⟨rfl, by show (0 : Int) ≤ 3; omega, by show (3 : Int) ≤ 1048576; omega, ⟨by show (8 : Int) ≤ 168; omega, by show (168 : Int) ≤ 200; omega⟩, by show (0 : Int) ≤ ((stOf 168 A P).2 : Int); omega, by show ((stOf 168 A P).2 : Int) ≤ 168; omega⟩
  refine Eq.trans this ?_
  have e : ∀ k, outB 168 (stOf 168 A P).1 ((stOf 168 A P).2 + k) = outB 168 A (P + k) := outB_st (by omega) A P
  have e2 := stOf_st (rate := 168) (by omega) A P 3 (by omega)
  show some ((List.range 3).map (fun k => outB 168 (stOf 168 A P).1 (((stOf 168 A P).2 : Int).toNat + k)), (0 : Int), (true, (stOf 168 (stOf 168 A P).1 (((stOf 168 A P).2 : Int).toNat + 3)).1, (168 : Int), ((stOf 168 (stOf 168 A P).1 (((stOf 168 A P).2 : Int).toNat + 3)).2 : Int), IntKind.i64.wrap (c + 3), ())) = _
  rw [Int.toNat_natCast, e2, wrap_i64 (by omega) (by omega)]
  simp only [e]
  rfl
theorem cand0 {x y : Int} (hx : 0 ≤ x ∧ x ≤ 255) (hy : 0 ≤ y ∧ y ≤ 255) : ior .u16 (IntKind.u16.wrap x) (ishl .u16 (IntKind.u16.wrap (iand .u8 y 15)) 8) = x + 256 * (y % 16) := by
  obtain ⟨x, rfl⟩ : ∃ m : Nat, x = m := ⟨x.toNat, by omega⟩
  obtain ⟨y, rfl⟩ : ∃ m : Nat, y = m := ⟨y.toNat, by omega⟩
  have e : iand .u8 (y : Int) 15 = ((y % 16 : Nat) : Int) := by
    rw [show (15 : Int) = ((15 : Nat) : Int) from rfl, iand_nat rfl (by simp [IntKind.bits]; omega) (by decide), show (15 : Nat) = 2 ^ 4 - 1 from rfl, Nat.and_two_pow_sub_one_eq_mod]
  rw [e, wrap_u16 (by omega) (by omega), wrap_u16 (by omega) (by omega), show (8 : Int) = ((8 : Nat) : Int) from rfl, ishl_nat rfl (by decide) (by simp [IntKind.bits]; omega), ior_nat rfl (by simp [IntKind.bits]; omega) (by simp [IntKind.bits]; omega)]
  have h := Nat.two_pow_add_eq_or_of_lt (i := 8) (b := x) (by omega) (y % 16)
  rw [Nat.or_comm, Nat.mul_comm (y % 16), ← h]
  omega
theorem cand1 {y w : Int} (hy : 0 ≤ y ∧ y ≤ 255) (hw : 0 ≤ w ∧ w ≤ 255) : ior .u16 (IntKind.u16.wrap (ishr .u8 y 4)) (ishl .u16 (IntKind.u16.wrap w) 4) = y / 16 + 16 * w := by
  obtain ⟨y, rfl⟩ : ∃ m : Nat, y = m := ⟨y.toNat, by omega⟩
  obtain ⟨w, rfl⟩ : ∃ m : Nat, w = m := ⟨w.toNat, by omega⟩
  rw [show (4 : Int) = ((4 : Nat) : Int) from rfl, ishr_nat (by decide), wrap_u16 (by omega) (by omega), wrap_u16 (by omega) (by omega), ishl_nat rfl (by decide) (by simp [IntKind.bits]; omega), ior_nat rfl (by simp [IntKind.bits]; omega) (by simp [IntKind.bits]; omega)]
  have h := Nat.two_pow_add_eq_or_of_lt (i := 4) (b := y / 2 ^ 4) (by omega) w
  rw [Nat.or_comm, Nat.mul_comm w, ← h]
  omega
theorem acc_pre (seed : List Int) (t : Nat) : ∀ d : Nat, ∃ r, accS seed (t + d) = accS seed t ++ r
  | 0 => ⟨[], by simp⟩
  | d + 1 => by
    obtain ⟨r, h⟩ := acc_pre seed t d
    exact ⟨r ++ (twoOf seed (t + d)).filter fun z => decide (z < 3329), by rw [← Nat.add_assoc, accS, h, List.append_assoc]⟩
theorem acc_took (seed : List Int) (t : Nat) : accS seed (t + 1) = took (accS seed t) (twoOf seed t) := rfl
theorem acc_full {seed : List Int} {t u : Nat} (h : t ≤ u) (h2 : 256 ≤ (accS seed t).length) : 256 ≤ (accS seed u).length ∧ (accS seed u).take 256 = (accS seed t).take 256 := by
  obtain ⟨r, e⟩ := acc_pre seed t (u - t)
  rw [show t + (u - t) = u by omega] at e
  rw [e]
  exact ⟨by simp; omega, by rw [List.take_append_of_le_length h2]⟩
def ntX (seed A : List Int) (t : Nat) : Int × Int × List Int × List Int × Bool × List Int × Int × Int × Int × Unit :=
  (((accS seed t).length : Int), (t : Int), z256, padL (accS seed t), true, (stOf 168 A (3 * t)).1, 168, ((stOf 168 A (3 * t)).2 : Int), 3 * (t : Int), ())
abbrev On := (List Int × Unit) ⊕ (Int × List Int × Unit)
theorem nt_step {seed A : List Int} (hA : A = absorb 168 31 (z25, 0) seed) (hAu : u64s 25 A) {t : Nat} (ht : t < 1024) (hL : (accS seed t).length < 256) {N : Nat} {β : Type} (kn : _ → Option β) (ke : On → Option β) :
    p_ring_SampleNtt_l7_F (N + 3) β (ntX seed A t) kn ke = if (accS seed (t + 1)).length < 256 then kn (ntX seed A (t + 1)) else ke (.inr (0, (accS seed (t + 1)).take 256, ())) := by
  have b0 := outB_b 168 A (3 * t)
  have b1 := outB_b 168 A (3 * t + 1)
  have b2 := outB_b 168 A (3 * t + 2)
  unfold p_ring_SampleNtt_l7_F ntX
  dsimp only
  rw [if_pos (by omega), at_Read3 hAu (by omega), Option.bind_some]
  dsimp only
  rw [if_neg (by omega), if_pos (by omega), if_pos (by simp), if_pos (by simp), if_pos (by omega), if_pos (by simp), if_pos (by simp), if_pos (by omega), if_pos (by simp), if_pos (by simp), if_pos (by omega), if_pos (by simp), if_pos (by simp)]
  have e : List.set (List.set (List.replicate 2 (0 : Int)) 0 (ior IntKind.u16 (IntKind.u16.wrap (outB 168 A (3 * t))) (ishl IntKind.u16 (IntKind.u16.wrap (iand IntKind.u8 (outB 168 A (3 * t + 1)) 15)) 8))) 1 (ior IntKind.u16 (IntKind.u16.wrap (ishr IntKind.u8 (outB 168 A (3 * t + 1)) 4)) (ishl IntKind.u16 (IntKind.u16.wrap (outB 168 A (3 * t + 2))) 4)) = twoOf seed t := by
    rw [cand0 b0 b1, cand1 b1 b2, hA]
    rfl
  show iter (p_ring_SampleNtt_l11_F (N + 3)) (N + 3) (((accS seed t).length : Int), (t : Int), List.set (List.set (List.replicate 2 (0 : Int)) 0 (ior IntKind.u16 (IntKind.u16.wrap (outB 168 A (3 * t))) (ishl IntKind.u16 (IntKind.u16.wrap (iand IntKind.u8 (outB 168 A (3 * t + 1)) 15)) 8))) 1 (ior IntKind.u16 (IntKind.u16.wrap (ishr IntKind.u8 (outB 168 A (3 * t + 1)) 4)) (ishl IntKind.u16 (IntKind.u16.wrap (outB 168 A (3 * t + 2))) 4)), (0 : Int), z256, padL (accS seed t), true, (stOf 168 A (3 * t + 3)).1, 168, ((stOf 168 A (3 * t + 3)).2 : Int), 3 * (t : Int) + 3, ()) _ = _
  rw [e]
  unfold twoOf
  refine (inner_all hL _).trans ?_
  rw [acc_took]
  unfold twoOf
  split
  · dsimp only
    rw [wrap_i64 (by omega) (by omega), show 3 * (t + 1) = 3 * t + 3 by omega, show ((t + 1 : Nat) : Int) = (t : Int) + 1 by omega, show 3 * ((t : Int) + 1) = 3 * (t : Int) + 3 by omega]
  · rfl
theorem nt_all {seed A : List Int} (hA : A = absorb 168 31 (z25, 0) seed) (hAu : u64s 25 A) {N : Nat} {β : Type} (k : On → Option β) : ∀ j t : Nat, t + j = 1024 → (accS seed t).length < 256 → ∀ n, j < n →
    iter (p_ring_SampleNtt_l7_F (N + 3)) n (ntX seed A t) k = if (accS seed 1024).length < 256 then k (.inl (z256, ())) else k (.inr (0, (accS seed 1024).take 256, ()))
  | 0, t, h, hL, n, hn => by
    obtain ⟨n, rfl⟩ : ∃ m, n = m + 1 := ⟨n - 1, by omega⟩
    have h : t = 1024 := by omega
    subst h
    rw [if_pos hL]
    simp only [iter]
    unfold p_ring_SampleNtt_l7_F ntX
    dsimp only
    rw [if_neg (by omega)]
  | j + 1, t, h, hL, n, hn => by
    obtain ⟨n, rfl⟩ : ∃ m, n = m + 1 := ⟨n - 1, by omega⟩
    simp only [iter]
    rw [nt_step hA hAu (by omega) hL]
    split
    · rename_i h2
      exact nt_all hA hAu k j (t + 1) (by omega) h2 n (by omega)
    · rename_i h2
      obtain ⟨q1, q2⟩ := acc_full (seed := seed) (t := t + 1) (u := 1024) (by omega) (by omega)
      rw [if_neg (by omega), q2]
theorem q_ring_SampleNtt : ∀ x r, g_ring_SampleNtt x = some r → ∃ N, p_ring_SampleNtt N x = some r := by
  refine Spec_of (ks := p_ring_SampleNtt_ks) (rs := p_ring_SampleNtt_rs) fun x hw hq => ⟨1025 + 3, ?_⟩
  obtain ⟨(l : List Int), u⟩ := x
  have hl := wf_bytes.1 hw.1
  unfold p_ring_SampleNtt sampleS
  dsimp only
  by_cases h : l.length = 34
  · rw [if_neg (by omega), if_neg (by omega)]
    have hM : 1 ≤ maxLen := by decide
    have hp : partsOk [l] := ⟨by simp only [List.length_cons, List.length_nil]; omega, fun zs hz => by rw [List.mem_singleton.1 hz]; exact hl⟩
    have ef : [l].flatten = l := by simp
    have e := at_Shake128 hp
    rw [ef] at e
    rw [e, Option.bind_some]
    have hAu : u64s 25 (absorb 168 31 (z25, 0) l) := absorb_u ⟨z25_u, by show 0 < 168; omega⟩ _ _
    have hst : stOf 168 (absorb 168 31 (z25, 0) l) (3 * 0) = (absorb 168 31 (z25, 0) l, 0) := stOf_small _ (by omega) (by omega)
    have hx : ntX l (absorb 168 31 (z25, 0) l) 0 = ((0 : Int), (0 : Int), z256, z256, true, absorb 168 31 (z25, 0) l, 168, 0, 0, ()) := by
      unfold ntX; rw [hst]; rfl
    show iter (p_ring_SampleNtt_l7_F (1025 + 3)) (1025 + 3) ((0 : Int), (0 : Int), z256, z256, true, absorb 168 31 (z25, 0) l, 168, 0, 0, ()) _ = _
    rw [← hx]
    refine (nt_all rfl hAu _ 1024 0 (by omega) (by show 0 < 256; omega) _ (by omega)).trans ?_
    generalize accS l 1024 = L
    by_cases g : L.length < 256
    · rw [if_pos g, if_pos g]
    · rw [if_neg g, if_neg g]
  · rw [if_pos (by omega), if_pos h]
end Go.Ax.TryP
/-! ### Samples: the reference -/
set_option linter.unusedVariables false
namespace Go.Ax.TryP
def stepL (L : List Int) (c : Int) : List Int := if c < 3329 ∧ L.length < 256 then L ++ [c] else L
theorem stepL_le {L : List Int} {c : Int} (h : L.length ≤ 256) : (stepL L c).length ≤ 256 := by
  unfold stepL
  split
  · rw [List.length_append, List.length_singleton]; omega
  · exact h
abbrev Ir := Nat × Nat × Int × Int × Int × Int × Nat × List Int × List Int × List Int × Nat × List Int × List Int × Unit
abbrev Jr := Nat × Nat × Int × Int × Nat × List Int × List Int × List Int × Nat × List Int × Unit
theorem rin_step {N : Nat} {β : Type} {a b k m : Nat} {t : Int} {s A B cs L : List Int} {j : Nat} (hj : j < 2) (hL : L.length ≤ 256) (hc : 0 ≤ cs.getD j 0) (kn : Ir → Option β) (ke : Jr → Option β) :
    p_ref13_SampleNtt_l13_F N β (a, b, (L.length : Int), t, 2, (j : Int), k, s, A, padL L, m, B, cs, ()) kn ke
    = kn (a, b, ((stepL L (cs.getD j 0)).length : Int), t, 2, ((j + 1 : Nat) : Int), k, s, A, padL (stepL L (cs.getD j 0)), m, B, cs, ()) := by
  unfold p_ref13_SampleNtt_l13_F
  dsimp only
  rw [if_pos (by omega), if_pos (by omega), if_pos (by omega), if_pos (by omega), Int.toNat_natCast]
  have e : IntKind.i64.wrap ((j : Int) + 1) = ((j + 1 : Nat) : Int) := by rw [wrap_i64 (by omega) (by omega)]; omega
  by_cases h : cs.getD j 0 < 3329
  · rw [if_pos h]
    by_cases g : L.length < 256
    · have es : stepL L (cs.getD j 0) = L ++ [cs.getD j 0] := if_pos ⟨h, g⟩
      rw [if_pos (by omega), if_pos (by omega), if_pos (by omega), if_pos (by omega), Int.toNat_natCast, es, wrap_u16 (by omega) (by omega), padL_set g, e, wrap_i64 (by omega) (by omega), List.length_append, List.length_singleton]
      rfl
    · have es : stepL L (cs.getD j 0) = L := if_neg (by omega)
      rw [if_neg (by omega), es, e]
  · have es : stepL L (cs.getD j 0) = L := if_neg (by omega)
    rw [if_neg h, es, e]
theorem rin_end {N : Nat} {β : Type} {a b k m : Nat} {n t : Int} {s A B cs o : List Int} (kn : Ir → Option β) (ke : Jr → Option β) :
    p_ref13_SampleNtt_l13_F N β (a, b, n, t, 2, ((2 : Nat) : Int), k, s, A, o, m, B, cs, ()) kn ke = ke (a, b, n, t, k, s, A, o, m, B, ()) := by
  unfold p_ref13_SampleNtt_l13_F
  dsimp only
  rw [if_neg (by omega)]
theorem stepL_yes {L : List Int} {c : Int} (h : c < 3329) (g : L.length < 256) : stepL L c = L ++ [c] := if_pos ⟨h, g⟩
theorem stepL_no {L : List Int} {c : Int} (h : ¬ (c < 3329 ∧ L.length < 256)) : stepL L c = L := if_neg h
theorem stepL2 {L : List Int} (c d : Int) (h : L.length < 256) : stepL (stepL L c) d = (took L [c, d]).take 256 := by
  unfold took
  by_cases hc : c < 3329
  · rw [stepL_yes hc h]
    by_cases hd : d < 3329
    · by_cases g : (L ++ [c]).length < 256
      · rw [stepL_yes hd g, List.take_of_length_le (by simp [hc, hd] at g ⊢; omega)]
        simp [hc, hd]
      · have gl : L.length = 255 := by simp at g; omega
        rw [stepL_no (by omega)]
        simp [hc, hd, gl, List.take_append, take256 (L := L) (by omega)]
    · rw [stepL_no (by omega), List.take_of_length_le (by simp [hc, hd]; omega)]
      simp [hc, hd]
  · rw [stepL_no (L := L) (by omega)]
    by_cases hd : d < 3329
    · rw [stepL_yes hd h, List.take_of_length_le (by simp [hc, hd]; omega)]
      simp [hc, hd]
    · rw [stepL_no (by omega), List.take_of_length_le (by simp [hc, hd]; omega)]
      simp [hc, hd]
theorem rin_all {N : Nat} {β : Type} {a b k m : Nat} {t : Int} {s A B L : List Int} {c d : Int} (hL : L.length < 256) (hc : 0 ≤ c) (hd : 0 ≤ d) (ke : Jr → Option β) :
    iter (p_ref13_SampleNtt_l13_F (N + 3)) (N + 3) (a, b, (L.length : Int), t, 2, (0 : Int), k, s, A, padL L, m, B, [c, d], ()) ke
    = ke (a, b, (((took L [c, d]).take 256).length : Int), t, k, s, A, padL ((took L [c, d]).take 256), m, B, ()) := by
  rw [← stepL2 c d hL]
  simp only [iter]
  refine (rin_step (j := 0) (cs := [c, d]) (L := L) (by omega) (by omega) hc _ _).trans ?_
  refine (rin_step (j := 1) (cs := [c, d]) (L := stepL L c) (by omega) (stepL_le (by omega)) hd _ _).trans ?_
  exact rin_end _ _
def rfX (seed : List Int) (m t : Nat) (L : List Int) : Jr :=
  (seed.length, (spongeS 168 31 seed m).length, (L.length : Int), (t : Int), seed.length, seed, z256, padL L, (spongeS 168 31 seed m).length, spongeS 168 31 seed m, ())
theorem spS_len (rate : Nat) (e : Int) (l : List Int) (n : Nat) : (spongeS rate e l n).length = n := by simp [spongeS]
theorem spS_get (seed : List Int) {m p : Nat} (h : p < m) : (spongeS 168 31 seed m).getD p 0 = ntt128 seed p := by
  unfold spongeS ntt128
  rw [List.getD_eq_getElem?_getD, List.getElem?_map, List.getElem?_range h]
  rfl
theorem at_Shake' {l : List Int} {n : Nat} (hl : l.length ≤ 4294967000 ∧ ∀ z ∈ l, 0 ≤ z ∧ z ≤ 255) (hn : n ≤ 1048576) : g_ref03_Shake (128, (n : Int), l, ()) = some (spongeS 168 31 l n) := by
  have hM : 4294967296 ≤ maxLen := by decide
  have := Spec_at (ks := p_ref03_Shake_ks) (rs := p_ref03_Shake_rs) (x := (128, (n : Int), l, ())) (Q := fun x => 0 ≤ x.2.1 ∧ x.2.1 ≤ 1048576 ∧ x.2.2.1.length ≤ 4294967000) (f := fun x => spongeS (if x.1 = 128 then 168 else 136) 31 x.2.2.1 x.2.1.toNat)
    ⟨(okInt_i64 (n := 128)).2 (by omega), (okInt_i64 (n := (n : Int))).2 (by omega), wf_bytes.2 ⟨by show l.length ≤ maxLen; omega, hl.2⟩, trivial⟩ ⟨by show (0 : Int) ≤ n; omega, by show (n : Int) ≤ 1048576; omega, hl.1⟩
  exact this
theorem rcand {x y z : Int} (hx : 0 ≤ x ∧ x ≤ 255) (hy : 0 ≤ y ∧ y ≤ 255) (hz : 0 ≤ z ∧ z ≤ 255) :
    List.set (List.set (List.replicate 2 (0 : Int)) 0 (IntKind.i64.wrap ((IntKind.i64.wrap x) + (IntKind.i64.wrap ((256:Int) * (Int.tmod (IntKind.i64.wrap y) (16:Int))))))) 1 (IntKind.i64.wrap ((IntKind.i64.wrap (Int.tdiv (IntKind.i64.wrap y) (16:Int))) + (IntKind.i64.wrap ((16:Int) * (IntKind.i64.wrap z))))) = [x + 256 * (y % 16), y / 16 + 16 * z] := by
  have e1 : IntKind.i64.wrap y = y := wrap_i64 (by omega) (by omega)
  have e2 : Int.tmod y 16 = y % 16 := Int.tmod_eq_emod_of_nonneg hy.1
  have e3 : Int.tdiv y 16 = y / 16 := Int.tdiv_eq_ediv_of_nonneg hy.1
  rw [e1, e2, e3, wrap_i64 (x := x) (by omega) (by omega), wrap_i64 (x := 256 * (y % 16)) (by omega) (by omega), wrap_i64 (x := x + _) (by omega) (by omega), wrap_i64 (x := z) (by omega) (by omega), wrap_i64 (x := 16 * z) (by omega) (by omega), wrap_i64 (x := y / 16) (by omega) (by omega), wrap_i64 (x := y / 16 + 16 * z) (by omega) (by omega)]
  rfl
theorem rf_step {seed : List Int} (hs : seed.length ≤ 4294967000 ∧ ∀ z ∈ seed, 0 ≤ z ∧ z ≤ 255) {m t : Nat} (hm : 840 ≤ m ∧ m ≤ 3072) (ht : t < 1024) (hL : (accS seed t).length < 256) {N : Nat} {β : Type} (kn : _ → Option β) (ke : _ → Option β) :
    ∃ m', (840 ≤ m' ∧ m' ≤ 3072) ∧ p_ref13_SampleNtt_l7_F (N + 3) β (rfX seed m t (accS seed t)) kn ke = kn (rfX seed m' (t + 1) ((accS seed (t + 1)).take 256)) := by
  have bb : ∀ p, 0 ≤ ntt128 seed p ∧ ntt128 seed p ≤ 255 := fun p => outB_b 168 _ p
  have b0 := bb (3 * t)
  have b1 := bb (3 * t + 1)
  have b2 := bb (3 * t + 2)
  have w3 : IntKind.i64.wrap (3 * (t : Int)) = ((3 * t : Nat) : Int) := by rw [wrap_i64 (by omega) (by omega)]; omega
  have w4 : IntKind.i64.wrap (((3 * t : Nat) : Int) + 1) = ((3 * t + 1 : Nat) : Int) := by rw [wrap_i64 (by omega) (by omega)]; omega
  have w5 : IntKind.i64.wrap (((3 * t : Nat) : Int) + 2) = ((3 * t + 2 : Nat) : Int) := by rw [wrap_i64 (by omega) (by omega)]; omega
  have w6 : IntKind.i64.wrap (((3 * t : Nat) : Int) + 3) = ((3 * t + 3 : Nat) : Int) := by rw [wrap_i64 (by omega) (by omega)]; omega
  have wt : IntKind.i64.wrap ((t : Int) + 1) = ((t + 1 : Nat) : Int) := by rw [wrap_i64 (by omega) (by omega)]; omega
  unfold p_ref13_SampleNtt_l7_F rfX
  dsimp only
  rw [if_pos (by omega), if_pos (by omega)]
  simp only [w3, w4, w5, w6, spS_len, Int.toNat_natCast]
  by_cases h : m < 3 * t + 3
  · refine ⟨3072, by omega, ?_⟩
    rw [if_pos (by omega)]
    refine (congrArg (fun o => Option.bind o _) (at_Shake' (n := 3072) hs (by omega))).trans ?_
    rw [Option.bind_some]
    simp only [spS_len]
    rw [if_pos (by omega), if_pos (by omega), if_pos (by omega), if_pos (by omega), if_pos (by omega), if_pos (by omega), if_pos (by omega), if_pos (by omega), if_pos (by omega)]
    rw [spS_get seed (m := 3072) (p := 3 * t) (by omega), spS_get seed (m := 3072) (p := 3 * t + 1) (by omega), spS_get seed (m := 3072) (p := 3 * t + 2) (by omega), rcand b0 b1 b2]
    refine (rin_all hL (by omega) (by omega) _).trans ?_
    dsimp only
    rw [wt]
    rfl
  · refine ⟨m, hm, ?_⟩
    rw [if_neg (by omega)]
    rw [if_pos (by omega), if_pos (by omega), if_pos (by omega), if_pos (by omega), if_pos (by omega), if_pos (by omega), if_pos (by omega), if_pos (by omega), if_pos (by omega)]
    rw [spS_get seed (m := m) (p := 3 * t) (by omega), spS_get seed (m := m) (p := 3 * t + 1) (by omega), spS_get seed (m := m) (p := 3 * t + 2) (by omega), rcand b0 b1 b2]
    refine (rin_all hL (by omega) (by omega) _).trans ?_
    dsimp only
    rw [wt]
    rfl
theorem rf_all {seed : List Int} (hs : seed.length ≤ 4294967000 ∧ ∀ z ∈ seed, 0 ≤ z ∧ z ≤ 255) {N : Nat} {β : Type} (k : (Int × List Int × List Int × Unit) → Option β) : ∀ j t m : Nat, t + j = 1024 → (840 ≤ m ∧ m ≤ 3072) → (accS seed t).length < 256 → ∀ n, j + 1 < n →
    iter (p_ref13_SampleNtt_l7_F (N + 3)) n (rfX seed m t (accS seed t)) k = k ((((accS seed 1024).take 256).length : Int), z256, padL ((accS seed 1024).take 256), ())
  | 0, t, m, h, hm, hL, n, hn => by
    obtain ⟨n, rfl⟩ : ∃ m, n = m + 1 := ⟨n - 1, by omega⟩
    have h : t = 1024 := by omega
    subst h
    simp only [iter]
    unfold p_ref13_SampleNtt_l7_F rfX
    dsimp only
    rw [if_neg (by omega), List.take_of_length_le (by omega)]
  | j + 1, t, m, h, hm, hL, n, hn => by
    obtain ⟨n, rfl⟩ : ∃ m, n = m + 1 := ⟨n - 1, by omega⟩
    simp only [iter]
    obtain ⟨m', hm', e⟩ := rf_step (N := N) hs hm (by omega) hL (iter (p_ref13_SampleNtt_l7_F (N + 3)) n · k) k
    refine e.trans ?_
    by_cases h2 : (accS seed (t + 1)).length < 256
    · rw [List.take_of_length_le (by omega)]
      exact rf_all hs k j (t + 1) m' (by omega) hm' h2 n (by omega)
    · obtain ⟨q1, q2⟩ := acc_full (seed := seed) (t := t + 1) (u := 1024) (by omega) (by omega)
      obtain ⟨n, rfl⟩ : ∃ m, n = m + 1 := ⟨n - 1, by omega⟩
      simp only [iter]
      rw [q2]
      have hl : ((accS seed (t + 1)).take 256).length = 256 := by rw [List.length_take]; omega
      unfold p_ref13_SampleNtt_l7_F rfX
      dsimp only
      by_cases h3 : ((t + 1 : Nat) : Int) < 1024
      · rw [if_pos h3, if_neg (by omega)]
      · rw [if_neg h3]
theorem q_ref13_SampleNtt : ∀ x r, g_ref13_SampleNtt x = some r → ∃ N, p_ref13_SampleNtt N x = some r := by
  refine Spec_of (ks := p_ref13_SampleNtt_ks) (rs := p_ref13_SampleNtt_rs) fun x hw hq => ⟨1026 + 3, ?_⟩
  obtain ⟨(l : List Int), u⟩ := x
  have hl := wf_bytes.1 hw.1
  unfold p_ref13_SampleNtt sampleS
  dsimp only
  by_cases h : l.length = 34
  · rw [if_neg (by omega), if_neg (by omega)]
    have hs : l.length ≤ 4294967000 ∧ ∀ z ∈ l, 0 ≤ z ∧ z ≤ 255 := ⟨by omega, hl.2⟩
    refine (congrArg (fun o => Option.bind o _) (at_Shake' (n := 840) hs (by omega))).trans ?_
    rw [Option.bind_some]
    have hx : rfX l 840 0 (accS l 0) = (l.length, (spongeS 168 31 l 840).length, (0 : Int), (0 : Int), l.length, l, List.replicate 256 0, List.replicate 256 0, (spongeS 168 31 l 840).length, spongeS 168 31 l 840, ()) := rfl
    rw [← hx]
    refine (rf_all (N := 1026) hs _ 1024 0 840 (by omega) (by omega) (by show 0 < 256; omega) _ (by omega)).trans ?_
    dsimp only
    generalize accS l 1024 = L
    by_cases g : L.length < 256
    · rw [if_pos (by rw [List.length_take]; omega), if_pos g]
    · rw [if_neg (by rw [List.length_take]; omega), if_neg g, padL_full (by rw [List.length_take]; omega)]
  · rw [if_pos (by omega), if_pos h]
theorem q_law13_RingSamples : ∀ x r, g_law13_RingSamples x = some r → ∃ N, p_law13_RingSamples N x = some r := by
  refine Spec_of (ks := p_law13_RingSamples_ks) (rs := p_law13_RingSamples_rs) fun x hw hq => ⟨0, ?_⟩
  have h1 : g_ring_SampleNtt (x.1, ()) = some (sampleS x.1) := Spec_at (ks := p_ring_SampleNtt_ks) (rs := p_ring_SampleNtt_rs) (x := (x.1, ())) ⟨hw.1, trivial⟩ trivial
  have h2 : g_ref13_SampleNtt (x.1, ()) = some (sampleS x.1) := Spec_at (ks := p_ref13_SampleNtt_ks) (rs := p_ref13_SampleNtt_rs) (x := (x.1, ())) ⟨hw.1, trivial⟩ trivial
  unfold p_law13_RingSamples
  rw [h1, Option.bind_some, h2, Option.bind_some, at18, Option.bind_some, if_pos rfl, if_pos rfl]
  simp
end Go.Ax.TryP
/-! Printed by program (wires.py): the functions keep their signatures. -/
namespace Go.Ax.TryP
theorem s_bits_RotateLeft64 : SigOk Go.Proofs.Try.prog 76 ⟨[.int .u64, .int .i64], [.int .u64], g_bits_RotateLeft64⟩ := p_bits_RotateLeft64_ok q_bits_RotateLeft64
theorem s_ref03_turn : SigOk Go.Proofs.Try.prog 77 ⟨[.int .u64, .int .i64], [.int .u64], g_ref03_turn⟩ := p_ref03_turn_ok q_ref03_turn
theorem s_keccak_offsets : SigOk Go.Proofs.Try.prog 71 ⟨[], [.xs (.int .i64) 25], g_keccak_offsets⟩ := p_keccak_offsets_ok q_keccak_offsets
theorem s_keccak_constants : SigOk Go.Proofs.Try.prog 72 ⟨[], [.xs (.int .u64) 24], g_keccak_constants⟩ := p_keccak_constants_ok q_keccak_constants
theorem s_ref03_constants : SigOk Go.Proofs.Try.prog 74 ⟨[], [.xs (.int .u64) 24], g_ref03_constants⟩ := p_ref03_constants_ok q_ref03_constants
theorem s_keccak_mixed : SigOk Go.Proofs.Try.prog 73 ⟨[.xs (.int .u64) 25, .rp (.xs (.int .i64) 25)], [.xs (.int .u64) 25], g_keccak_mixed⟩ := p_keccak_mixed_ok s_bits_RotateLeft64 q_keccak_mixed
theorem s_ref03_round : SigOk Go.Proofs.Try.prog 75 ⟨[.xs (.int .u64) 25, .int .u64], [.xs (.int .u64) 25], g_ref03_round⟩ := p_ref03_round_ok s_ref03_turn q_ref03_round
theorem s_keccak_Permute : SigOk Go.Proofs.Try.prog 66 ⟨[.xs (.int .u64) 25], [.xs (.int .u64) 25], g_keccak_Permute⟩ := p_keccak_Permute_ok s_keccak_offsets s_keccak_constants s_keccak_mixed q_keccak_Permute
theorem s_ref03_Permute : SigOk Go.Proofs.Try.prog 68 ⟨[.xs (.int .u64) 25], [.xs (.int .u64) 25], g_ref03_Permute⟩ := p_ref03_Permute_ok s_ref03_constants s_ref03_round q_ref03_Permute
theorem s_keccak_sponge_put : SigOk Go.Proofs.Try.prog 70 ⟨[.io [.xs (.int .u64) 25, .int .i64, .int .i64], .int .u8], [.cat [.xs (.int .u64) 25, .int .i64, .int .i64]], g_keccak_sponge_put⟩ := p_keccak_sponge_put_ok q_keccak_sponge_put
theorem s_keccak_sponge_takes : SigOk Go.Proofs.Try.prog 65 ⟨[.io [.xs (.int .u64) 25, .int .i64, .int .i64], .int .u8, .sls (.int .u8)], [.cat [.xs (.int .u64) 25, .int .i64, .int .i64]], g_keccak_sponge_takes⟩ := p_keccak_sponge_takes_ok s_keccak_sponge_put s_keccak_Permute q_keccak_sponge_takes
theorem s_keccak_sponge_gives : SigOk Go.Proofs.Try.prog 63 ⟨[.io [.xs (.int .u64) 25, .int .i64, .int .i64], .ios (.int .u8)], [.cat [.xs (.int .u64) 25, .int .i64, .int .i64], .xv (.int .u8)], g_keccak_sponge_gives⟩ := p_keccak_sponge_gives_ok s_keccak_Permute q_keccak_sponge_gives
theorem s_keccak_Xof_none : SigOk Go.Proofs.Try.prog 61 ⟨[.io [.bool, .xs (.int .u64) 25, .int .i64, .int .i64, .int .i64]], [.bool, .cat [.bool, .xs (.int .u64) 25, .int .i64, .int .i64, .int .i64]], g_keccak_Xof_none⟩ := p_keccak_Xof_none_ok q_keccak_Xof_none
theorem s_keccak_may : SigOk Go.Proofs.Try.prog 62 ⟨[.int .i64], [.int .i64], g_keccak_may⟩ := p_keccak_may_ok q_keccak_may
theorem s_keccak_Xof_Read : SigOk Go.Proofs.Try.prog 56 ⟨[.io [.bool, .xs (.int .u64) 25, .int .i64, .int .i64, .int .i64], .int .i64], [.sl (.int .u8), .int .i64, .cat [.bool, .xs (.int .u64) 25, .int .i64, .int .i64, .int .i64]], g_keccak_Xof_Read⟩ := p_keccak_Xof_Read_ok s_keccak_Xof_none s_keccak_may s_keccak_sponge_gives q_keccak_Xof_Read
theorem s_keccak_started : SigOk Go.Proofs.Try.prog 60 ⟨[.int .i64, .sls (.int .u8)], [.op [.bool, .xs (.int .u64) 25, .int .i64, .int .i64, .int .i64]], g_keccak_started⟩ := p_keccak_started_ok s_keccak_sponge_takes q_keccak_started
theorem s_keccak_Shake128 : SigOk Go.Proofs.Try.prog 55 ⟨[.sls (.int .u8)], [.op [.bool, .xs (.int .u64) 25, .int .i64, .int .i64, .int .i64]], g_keccak_Shake128⟩ := p_keccak_Shake128_ok s_keccak_started q_keccak_Shake128
theorem s_ref01_Join : SigOk Go.Proofs.Try.prog 67 ⟨[.sls (.int .u8)], [.sl (.int .u8)], g_ref01_Join⟩ := p_ref01_Join_ok q_ref01_Join
theorem s_ref03_bytes : SigOk Go.Proofs.Try.prog 69 ⟨[.xs (.int .u64) 25, .int .i64], [.sl (.int .u8)], g_ref03_bytes⟩ := p_ref03_bytes_ok q_ref03_bytes
theorem s_ref03_Sponge : SigOk Go.Proofs.Try.prog 64 ⟨[.int .i64, .int .u8, .sl (.int .u8), .int .i64], [.sl (.int .u8)], g_ref03_Sponge⟩ := p_ref03_Sponge_ok s_ref01_Join s_ref03_Permute s_ref03_bytes q_ref03_Sponge
theorem s_ref03_Shake : SigOk Go.Proofs.Try.prog 57 ⟨[.int .i64, .int .i64, .sl (.int .u8)], [.sl (.int .u8)], g_ref03_Shake⟩ := p_ref03_Shake_ok s_ref03_Sponge q_ref03_Shake
theorem s_ring_SampleNtt : SigOk Go.Proofs.Try.prog 43 ⟨[.sl (.int .u8)], [.xs (.int .u16) 256, .int .i64], g_ring_SampleNtt⟩ := p_ring_SampleNtt_ok s_keccak_Shake128 s_keccak_Xof_Read q_ring_SampleNtt
theorem s_ref13_SampleNtt : SigOk Go.Proofs.Try.prog 44 ⟨[.sl (.int .u8)], [.xs (.int .u16) 256, .int .i64], g_ref13_SampleNtt⟩ := p_ref13_SampleNtt_ok s_ref03_Shake q_ref13_SampleNtt
theorem s_law13_RingSamples : SigOk Go.Proofs.Try.prog 13 ⟨[.sl (.int .u8)], [.bool], g_law13_RingSamples⟩ := p_law13_RingSamples_ok s_ring_SampleNtt s_ref13_SampleNtt s_law13_live q_law13_RingSamples
end Go.Ax.TryP
