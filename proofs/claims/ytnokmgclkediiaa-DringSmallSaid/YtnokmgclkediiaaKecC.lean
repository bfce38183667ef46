/- A part of the proof: KecQ17, KecQ18, KecQ19, KecQ20, KecP3, KecQ21. -/
import Derived.Test.YtnokmgclkediiaaKecB
/-! ### The reference's sponge: the padding -/
set_option linter.unusedVariables false
namespace Go.Ax.TryP
theorem putS_two {a : List Int} (h : u64s 25 a) {p : Nat} (hp : p < 200) {x y : Int} (hx : 0 ≤ x ∧ x ≤ 255) (hy : 0 ≤ y ∧ y ≤ 255) : putS (putS a p x) p y = putS a p (ixor .u8 x y) := by
  have hl : p / 8 < a.length := by rw [h.1]; omega
  obtain ⟨z, hz⟩ : ∃ z : Nat, at0 a (p / 8) = z := ⟨(at0 a (p / 8)).toNat, by have := h.at (p / 8); omega⟩
  have hzb : z < 2 ^ 64 := by have := (h.at (p / 8)).2; omega
  obtain ⟨x, rfl⟩ : ∃ m : Nat, x = m := ⟨x.toNat, by omega⟩
  obtain ⟨y, rfl⟩ : ∃ m : Nat, y = m := ⟨y.toNat, by omega⟩
  have e : at0 (putS a p x) (p / 8) = x64 (at0 a (p / 8)) (ishl .u64 x ((8 * (p % 8) : Nat) : Int)) := getD_set_eq hl
  unfold putS at e ⊢
  rw [e, List.set_set, hz]
  congr 1
  have hs : 8 * (p % 8) ≤ 56 := by omega
  generalize 8 * (p % 8) = s at *
  have hp2 : (2 : Nat) ^ s ≤ 2 ^ 56 := Nat.pow_le_pow_right (by omega) hs
  have hb : ∀ w : Nat, w ≤ 255 → w * 2 ^ s < 2 ^ 64 := fun w hw => by
    have := Nat.mul_le_mul hw hp2
    omega
  have hxy : x ^^^ y < 2 ^ 8 := Nat.xor_lt_two_pow (by omega) (by omega)
  rw [ixor_nat (k := .u8) rfl (by simp [IntKind.bits]; omega) (by simp [IntKind.bits]; omega)]
  rw [ishl_nat rfl (by simp [IntKind.bits]; omega) (hb x (by omega)), ishl_nat rfl (by simp [IntKind.bits]; omega) (hb y (by omega)), ishl_nat rfl (by simp [IntKind.bits]; omega) (hb _ (by omega))]
  unfold x64
  rw [ixor_nat rfl hzb (hb x (by omega)), ixor_nat rfl (Nat.xor_lt_two_pow hzb (hb x (by omega))) (hb y (by omega)), ixor_nat rfl hzb (hb _ (by omega))]
  congr 1
  rw [Nat.xor_assoc]
  congr 1
  rw [← Nat.shiftLeft_eq, ← Nat.shiftLeft_eq, ← Nat.shiftLeft_eq, Nat.shiftLeft_xor_distrib]
theorem feed_zeros {rate : Nat} {s : List Int × Nat} (hs : okSp rate s) : ∀ k : Nat, s.2 + k < rate → feed rate s (List.replicate k 0) = (s.1, s.2 + k)
  | 0, _ => rfl
  | k + 1, h => by
    rw [List.replicate_succ', feed_append, feed_zeros hs k (by omega), feed_one]
    unfold stepT
    dsimp only
    rw [if_neg (by omega), putS_zero hs.1]
    rfl
end Go.Ax.TryP
/-! ### The reference's sponge: padded texts are absorbed -/
set_option linter.unusedVariables false
namespace Go.Ax.TryP
theorem feed_pos {rate : Nat} : ∀ {s : List Int × Nat} (l : List Int), s.2 < rate → (feed rate s l).2 = (s.2 + l.length) % rate
  | s, [], h => (Nat.mod_eq_of_lt h).symm
  | s, x :: l, h => by
    have h1 : (stepT rate s x).2 < rate ∧ (stepT rate s x).2 % rate = (s.2 + 1) % rate := by
      unfold stepT
      split
      · rename_i e; exact ⟨by show 0 < rate; omega, by show 0 % rate = _; rw [e]; simp⟩
      · exact ⟨by show s.2 + 1 < rate; omega, rfl⟩
    show (feed rate (stepT rate s x) l).2 = _
    rw [feed_pos l h1.1, ← Nat.mod_add_mod, h1.2, Nat.mod_add_mod, List.length_cons]
    congr 1; omega
theorem set_last {l : List Int} {x y : Int} : (l ++ [x]).set l.length y = l ++ [y] := by simp
theorem feed_pad {rate : Nat} {l : List Int} {e : Int} {k : Nat} (hr : 8 ≤ rate ∧ rate ≤ 200) (he : 0 ≤ e ∧ e ≤ 255) (hk : k < rate) (hd : (l.length + 1 + k) % rate = 0) :
    (feed rate (z25, 0) ((l ++ [e] ++ List.replicate k 0).set (l.length + k) (ixor .u8 ((l ++ [e] ++ List.replicate k 0).getD (l.length + k) 0) 128))).1 = absorb rate e (z25, 0) l := by
  have hs : okSp rate (z25, 0) := ⟨z25_u, by show 0 < rate; omega⟩
  have hS := feed_ok l hs
  have hpos := feed_pos l hs.2
  unfold absorb
  dsimp only at hpos
  rw [Nat.zero_add] at hpos
  have hmod : ((feed rate (z25, 0) l).2 + 1 + k) % rate = 0 := by
    rw [hpos, Nat.add_assoc, Nat.mod_add_mod, ← Nat.add_assoc]; exact hd
  cases k with
  | zero =>
    rw [Nat.add_zero, List.replicate_zero, List.append_nil, set_last]
    rw [show (l ++ [e]).getD l.length 0 = e by simp, feed_append, feed_one]
    generalize feed rate (z25, 0) l = S at *
    have h2 := hS.2
    have hp : S.2 + 1 = rate := by
      rw [Nat.add_zero] at hmod
      by_cases h : S.2 + 1 < rate
      · rw [Nat.mod_eq_of_lt h] at hmod; omega
      · omega
    unfold stepT
    rw [if_pos hp, show rate - 1 = S.2 by omega, putS_two hS.1 (by omega) he (by omega)]
  | succ k =>
    rw [List.replicate_succ', ← List.append_assoc, show l.length + (k + 1) = (l ++ [e] ++ List.replicate k 0).length by simp; try omega, set_last]
    have g : List.getD (l ++ [e] ++ List.replicate k (0 : Int) ++ [(0 : Int)]) (l ++ [e] ++ List.replicate k (0 : Int)).length (0 : Int) = 0 := by
      rw [List.getD_eq_getElem?_getD, List.getElem?_append_right (Nat.le_refl _)]; simp
    rw [g]
    rw [feed_append, feed_append, feed_append, feed_one, feed_one]
    generalize feed rate (z25, 0) l = S at *
    have h2 := hS.2
    have hp : S.2 + 1 + (k + 1) = rate := by
      by_cases h : S.2 + 1 + (k + 1) < rate
      · rw [Nat.mod_eq_of_lt h] at hmod; omega
      · rw [Nat.mod_eq_sub_mod (by omega), Nat.mod_eq_of_lt (by omega)] at hmod; omega
    have e1 : stepT rate S e = (putS S.1 S.2 e, S.2 + 1) := by unfold stepT; rw [if_neg (by omega)]
    rw [e1, feed_zeros ⟨putS_u hS.1 _ _, by show S.2 + 1 < rate; omega⟩ k (by show S.2 + 1 + k < rate; omega)]
    unfold stepT
    dsimp only
    rw [if_pos (by omega), show rate - 1 = S.2 + 1 + k by omega]
    rfl
end Go.Ax.TryP
/-! ### The reference's sponge: the padding's loop -/
set_option linter.unusedVariables false
namespace Go.Ax.TryP
def padN (rate L : Nat) : Nat := (rate - L % rate) % rate
theorem padN_ok {rate : Nat} (hr : 0 < rate) (L : Nat) : padN rate L < rate ∧ (L + padN rate L) % rate = 0 ∧ ∀ i, i < padN rate L → (L + i) % rate ≠ 0 := by
  have h1 := Nat.mod_lt L hr
  have e := Nat.div_add_mod L rate
  unfold padN
  by_cases h : L % rate = 0
  · rw [h, Nat.sub_zero, Nat.mod_self]
    exact ⟨hr, h, fun i hi => absurd hi (by omega)⟩
  · rw [Nat.mod_eq_of_lt (show rate - L % rate < rate by omega)]
    refine ⟨by omega, ?_, fun i hi => ?_⟩
    · rw [← Nat.mod_add_mod, show L % rate + (rate - L % rate) = rate by omega, Nat.mod_self]
    · rw [← Nat.mod_add_mod, Nat.mod_eq_of_lt (by omega)]; omega
theorem pad_all {rate : Nat} {n : Int} {b : List Int} {L : Nat} (hr : 8 ≤ rate ∧ rate ≤ 200) (hb : b.length = L) (hL : L ≤ 4294967100) {β : Type} {N : Nat} (hN : rate < N) {k : _ → Option β} :
    iter (p_ref03_Sponge_l2_F N) N ((rate : Int), n, L, L, b, ()) k = k ((rate : Int), n, L + padN rate L, L + padN rate L, b ++ List.replicate (padN rate L) 0, ()) := by
  obtain ⟨h1, h2, h3⟩ := padN_ok (show 0 < rate by omega) L
  have hm : ∀ i : Nat, Int.tmod ((i : Nat) : Int) (rate : Int) = ((i % rate : Nat) : Int) := fun i => by rw [tmod_pos (by omega)]; omega
  refine iter_from (F := p_ref03_Sponge_l2_F N) (s := fun i => ((rate : Int), n, L + i, L + i, b ++ List.replicate i 0, ())) (y := ((rate : Int), n, L + padN rate L, L + padN rate L, b ++ List.replicate (padN rate L) 0, ())) (padN rate L) ?_ ?_ ?_ N (by omega)
  · rw [Nat.add_zero, List.replicate_zero, List.append_nil]
  · intro i hi kn
    have := h3 i hi
    unfold p_ref03_Sponge_l2_F
    dsimp only
    rw [if_neg (by omega), hm, if_pos (by omega), if_pos (by omega), List.append_assoc]
    rw [show (List.replicate 1 (0 : Int)).set 0 0 = [0] from rfl, ← List.replicate_succ']
    rfl
  · intro kn
    unfold p_ref03_Sponge_l2_F
    dsimp only
    rw [if_neg (by omega), hm, h2, if_neg (by simp)]
end Go.Ax.TryP
/-! ### The reference's sponge -/
set_option linter.unusedVariables false
namespace Go.Ax.TryP
theorem at_Join2 {l : List Int} {e : Int} (hl : l.length ≤ 4294967000 ∧ ∀ z ∈ l, 0 ≤ z ∧ z ≤ 255) (he : 0 ≤ e ∧ e ≤ 255) : g_ref01_Join ([l, [e]], ()) = some (l ++ [e]) := by
  have hM : 4294967296 ≤ maxLen := by decide
  have hw : partsOk [l, [e]] := by
    refine ⟨by simp only [List.length_cons, List.length_nil]; omega, fun zs hz => ?_⟩
    rcases List.mem_cons.1 hz with rfl | hz
    · exact ⟨by omega, hl.2⟩
    · rw [List.mem_singleton.1 hz]
      exact ⟨by simp only [List.length_cons, List.length_nil]; omega, fun z hz => by rw [List.mem_singleton.1 hz]; exact he⟩
  have := Spec_at (ks := [.sls (.int .u8)]) (rs := [.sl (.int .u8)]) (x := ([l, [e]], ())) (Q := fun x => x.1.flatten.length ≤ 4294967296) (f := fun x => x.1.flatten) ⟨wf_parts.2 hw, trivial⟩ (by show [l, [e]].flatten.length ≤ 4294967296; simp; omega)
  refine Eq.trans this ?_
  show some ([l, [e]].flatten) = _
  simp
theorem q_ref03_Sponge : ∀ x r, g_ref03_Sponge x = some r → ∃ N, p_ref03_Sponge N x = some r := by
  refine Spec_of (ks := p_ref03_Sponge_ks) (rs := p_ref03_Sponge_rs) fun x hw hq => ?_
  obtain ⟨(r : Int), (e : Int), (l : List Int), (n : Int), u⟩ := x
  have he : 0 ≤ e ∧ e ≤ 255 := okInt_u8.1 hw.2.1
  have hl := wf_bytes.1 hw.2.2.1
  obtain ⟨hr, h0, h1, h2⟩ : (8 ≤ r ∧ r ≤ 200) ∧ 0 ≤ n ∧ n ≤ 1048576 ∧ l.length ≤ 4294967000 := hq
  obtain ⟨rate, rfl⟩ : ∃ m : Nat, r = m := ⟨r.toNat, by omega⟩
  obtain ⟨n, rfl⟩ : ∃ m : Nat, n = m := ⟨n.toNat, by omega⟩
  have hr' : 8 ≤ rate ∧ rate ≤ 200 := by omega
  have hL : (l ++ [e]).length = l.length + 1 := by simp
  obtain ⟨p1, p2, _⟩ := padN_ok (show 0 < rate by omega) (l.length + 1)
  have hf := feed_pad (e := e) hr' he p1 p2
  have hpad := fun {β : Type} {N : Nat} (hN : rate < N) (k : _ → Option β) => pad_all (n := (n : Int)) hr' hL (show l.length + 1 ≤ 4294967100 by omega) hN (k := k)
  generalize padN rate (l.length + 1) = k at *
  have hbz : ∀ z ∈ l ++ [e] ++ List.replicate k (0 : Int), 0 ≤ z ∧ z ≤ 255 := by
    intro z hz
    rcases List.mem_append.1 hz with hz | hz
    · rcases List.mem_append.1 hz with hz | hz
      · exact hl.2 z hz
      · rw [List.mem_singleton.1 hz]; exact he
    · rw [List.eq_of_mem_replicate hz]; omega
  have hblen : (l ++ [e] ++ List.replicate k (0 : Int)).length = l.length + 1 + k := by simp; omega
  generalize l ++ [e] ++ List.replicate k (0 : Int) = B at *
  have hm : l.length + 1 + k = (l.length + 1 + k) / rate * rate := by
    have := Nat.div_add_mod (l.length + 1 + k) rate
    rw [p2, Nat.mul_comm] at this; omega
  have hxb : 0 ≤ ixor .u8 (B.getD (l.length + k) 0) 128 ∧ ixor .u8 (B.getD (l.length + k) 0) 128 ≤ 255 := by
    unfold ixor
    simp [IntKind.wrap, IntKind.signed, IntKind.bits]; omega
  have hz2 : ∀ z ∈ B.set (l.length + k) (ixor .u8 (B.getD (l.length + k) 0) 128), 0 ≤ z ∧ z ≤ 255 := by
    intro z hz
    rcases List.mem_or_eq_of_mem_set hz with hz | hz
    · exact hbz z hz
    · rw [hz]; exact hxb
  have hN1 : (l.length + 1 + k) / rate ≤ l.length + 1 + k := Nat.div_le_self _ _
  refine ⟨l.length + 1 + k + n + 201, ?_⟩
  unfold p_ref03_Sponge
  refine (congrArg (fun o => Option.bind o _) (at_Join2 ⟨h2, hl.2⟩ he)).trans ?_
  rw [Option.bind_some]
  dsimp only
  rw [hL]
  refine (hpad (by omega) _).trans ?_
  dsimp only
  have c1 : IntKind.i64.wrap (((l.length + 1 + k : Nat) : Int) - 1) = ((l.length + k : Nat) : Int) := by rw [wrap_i64 (by omega) (by omega)]; omega
  rw [c1, Int.toNat_natCast, if_pos (by omega), if_pos (by omega), if_pos (by omega), if_pos (by omega), if_pos (by omega), if_pos (by omega)]
  refine (blocks_all (m := (l.length + 1 + k) / rate) hr' (by rw [List.length_set, hblen]) (by omega) hz2 hm (by omega) (by omega)).trans ?_
  dsimp only
  rw [hf]
  refine (squeeze_all hr' (by omega) (absorb_u ⟨z25_u, by show 0 < rate; omega⟩ _ _) (by omega)).trans ?_
  dsimp only
  rw [Int.toNat_natCast, Int.toNat_natCast]
  rfl
end Go.Ax.TryP
/-! Printed by program (gen.py). -/
set_option linter.unusedVariables false
namespace Go.Ax.TryP
/-! livery/liveryref01.Join -/
noncomputable def p_ref01_Join_E : AE := AE.of [(5, ty5), (39, ty39), (80, ty80)] []
noncomputable def p_ref01_Join_H : Hints := [(3, [3, 7, 8, 9]), (2000000, [3]), (2000001, [3, 7, 8, 9]), (3000000, [2])]
noncomputable def p_ref01_Join_c : Code := (Go.Proofs.Try.f90).body.getD .skip
noncomputable def p_ref01_Join_l3_S : Shape where
  h := { tmps := [.any, .any, .any, .sc (.vec 0 none 1), .any, .any, .any, .sc (.frs (.int .u8)), .sc (.int .i64), .sc (.int .i64), .any, .any, .any, .any, .any, .any, .any, .any], mem := [.live [.xs (.int .u8) none] (.own)] }
  ks := [.nat, .xss, .int, .int, .nat, .xs]
  st := fun x => { tmps := [.one .any, .one .any, .one .any, .one (.sc (.vec 0 x.1 1)), .one .any, .one .any, .one .any, .one (.sc (.fr (.xss (.int .u8) x.2.1))), .one (.sc (.int .i64 x.2.2.1)), .one (.sc (.int .i64 x.2.2.2.1)), .one .any, .one .any, .one .any, .one .any, .one .any, .one .any, .one .any, .one .any], mem := [.live { segs := [.xs (.int .u8) x.2.2.2.2.1 x.2.2.2.2.2.1], own := .own }] }
noncomputable def p_ref01_Join_l3_F (N : Nat) (β : Type) (x : (Nat × List (List Int) × Int × Int × Nat × List Int × Unit)) (kn : (Nat × List (List Int) × Int × Int × Nat × List Int × Unit) → Option β) (ke : ((Nat × Nat × List Int × Unit)) → Option β) : Option β :=
  if (x.2.2.2.1 < x.2.2.1) then
    if 0 ≤ x.2.2.2.1 then (
    if x.2.2.2.1 < ((List.length x.2.1 : Nat) : Int) then (
    if (x.1 + (List.length (List.getD x.2.1 (x.2.2.2.1.toNat) []))) * 1 ≤ 140737488355328 then (
    kn ((x.1 + (List.length (List.getD x.2.1 (x.2.2.2.1.toNat) []))), x.2.1, x.2.2.1, (IntKind.i64.wrap (x.2.2.2.1 + (1:Int))), (x.2.2.2.2.1 + (List.length (List.getD x.2.1 (x.2.2.2.1.toNat) []))), (x.2.2.2.2.2.1 ++ (List.getD x.2.1 (x.2.2.2.1.toNat) [])), ())) else none) else none) else none
  else
    ke (x.1, x.2.2.2.2.1, x.2.2.2.2.2.1, ())
noncomputable def p_ref01_Join_l3_go : Go' ((Nat × Nat × List Int × Unit)) := fun y K => K (.exit 0) { tmps := [.one .any, .one .any, .one .any, .one (.sc (.vec 0 y.1 1)), .one .any, .one .any, .one .any, .one .any, .one .any, .one .any, .one .any, .one .any, .one .any, .one .any, .one .any, .one .any, .one .any, .one .any], mem := [.live { segs := [.xs (.int .u8) y.2.1 y.2.2.1], own := .own }] }
noncomputable def p_ref01_Join_l3_L (N : Nat) : LT := upd (LT.nil) 3 (loopE p_ref01_Join_l3_S N (p_ref01_Join_l3_F N) p_ref01_Join_l3_go)
theorem p_ref01_Join_l3_ok (N : Nat) : OkAll p_ref01_Join_E p_ref01_Join_H N (p_ref01_Join_l3_L N) (subs p_ref01_Join_c) :=
  addLoop (c := theLoop 3 p_ref01_Join_c) (OkAll.nil) (by kernel_rfl) (fun x => by kernel_rfl) (fun β x kn ke => by kernel_rfl)
abbrev p_ref01_Join_ks : List Kd := [.sls (.int .u8)]
abbrev p_ref01_Join_rs : List Kd := [.sl (.int .u8)]
noncomputable def p_ref01_Join (N : Nat) (x : List (List Int) × Unit) : Option (List Int) :=
  iter (p_ref01_Join_l3_F N) N (0, x.1, ((List.length x.1 : Nat) : Int), (0:Int), 0, (List.replicate 0 0), ()) fun y1 => (
  some y1.2.2.1)
theorem p_ref01_Join_eq (N : Nat) (x : Ds [.sls (.int .u8)]) : funL p_ref01_Join_E p_ref01_Join_H (p_ref01_Join_l3_L N) N Go.Proofs.Try.f90 p_ref01_Join_c [.sls (.int .u8)] [.sl (.int .u8)] x = p_ref01_Join N x := by kernel_rfl
theorem p_ref01_Join_Eok : p_ref01_Join_E.Ok Go.Proofs.Try.prog := AE.of_ok (all_cons ty5_ok (all_cons ty39_ok (all_cons ty80_ok all_nil))) all_nil
theorem p_ref01_Join_ok {g : Ds [.sls (.int .u8)] → Option (Rs [.sl (.int .u8)])} (hg : ∀ x r, g x = some r → ∃ N, p_ref01_Join N x = some r) : SigOk Go.Proofs.Try.prog 90 ⟨[.sls (.int .u8)], [.sl (.int .u8)], g⟩ :=
  fun_of (E := p_ref01_Join_E) (H := p_ref01_Join_H) (L := fun N => p_ref01_Join_l3_L N) (c := p_ref01_Join_c) (ks := p_ref01_Join_ks) (rs := p_ref01_Join_rs) (F := p_ref01_Join) (p_ref01_Join_Eok) mix Go.Proofs.Try.func90 (by kernel_rfl) (fun N => p_ref01_Join_l3_ok N) p_ref01_Join_eq hg
end Go.Ax.TryP
/-! ### Texts joined -/
set_option linter.unusedVariables false
namespace Go.Ax.TryP
theorem q_ref01_Join : ∀ x r, g_ref01_Join x = some r → ∃ N, p_ref01_Join N x = some r := by
  refine Spec_of (ks := p_ref01_Join_ks) (rs := p_ref01_Join_rs) fun x hw hq => ?_
  obtain ⟨(l : List (List Int)), u⟩ := x
  have hp : partsOk l := wf_parts.1 hw.1
  have hq : l.flatten.length ≤ 4294967296 := hq
  have hM : maxLen ≤ 9223372036854775807 := by decide
  have hl := hp.1
  have hone : ∀ i : Nat, i < l.length → (l.take (i + 1)).flatten = (l.take i).flatten ++ l.getD i [] := fun i hi => by
    rw [List.take_succ_eq_append_getElem hi, List.flatten_append, List.getD_eq_getElem?_getD, List.getElem?_eq_getElem hi]; simp
  have hle : ∀ i : Nat, (l.take i).flatten.length ≤ l.flatten.length := fun i => by
    conv => rhs; rw [← List.take_append_drop i l, List.flatten_append, List.length_append]
    omega
  refine ⟨l.length + 1, ?_⟩
  unfold p_ref01_Join
  dsimp only
  refine (iter_from (F := p_ref01_Join_l3_F (l.length + 1)) (s := fun i => ((l.take i).flatten.length, l, (l.length : Int), (i : Int), (l.take i).flatten.length, (l.take i).flatten, ()))
    (y := (l.flatten.length, l.flatten.length, l.flatten, ())) l.length rfl ?_ ?_ _ (by omega)).trans ?_
  · intro i hi kn
    have h1 := hle (i + 1)
    rw [hone i hi] at h1 ⊢
    rw [List.length_append] at h1 ⊢
    unfold p_ref01_Join_l3_F
    dsimp only
    rw [if_pos (by omega), if_pos (by omega), if_pos (by omega), Int.toNat_natCast, if_pos (by omega), wrap_i64 (by omega) (by omega)]
    rfl
  · intro kn
    unfold p_ref01_Join_l3_F
    dsimp only
    rw [if_neg (by omega), List.take_length]
  · rfl
end Go.Ax.TryP
