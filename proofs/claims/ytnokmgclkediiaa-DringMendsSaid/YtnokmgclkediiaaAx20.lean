/- A part of the proof: Ax20. -/
import Derived.Test.YtnokmgclkediiaaAx19
/-! ### Functions -/
namespace Go.Ax
open Go.RowKit

variable {P : Program}

section
variable {ρ : Env} {B : Nat} {w0 : World} {st st' : St} {a : Act} {w : World} {E : AE}

def NoOwn (mem : List Slot) : Prop := ∀ (o : Nat) (b : Ob), mem[o]? = some (Slot.live b) → b.own = false

/-- An object that is only read, at the end. -/
theorem MRel.addRO {mem : List Slot} (hm : MRel ρ B w0 mem w) (hno : NoOwn mem) {b : Ob} {l : Loc} (hb : b.own = false) (ho : ObRel (ρ.set mem.length l) w mem.length b) :
    ρ.le (ρ.set mem.length l) ∧ MRel (ρ.set mem.length l) B w0 (mem ++ [.live b]) w ∧ NoOwn (mem ++ [.live b]) := by
  have hn : ρ mem.length = none := hm.free _ (.inl (by simp))
  have hle : ρ.le (ρ.set mem.length l) := Env.le_set hn l
  have look : ∀ i, i ≠ mem.length → (ρ.set mem.length l) i = ρ i := fun i h => if_neg h
  have get : ∀ (i : Nat) (c : Ob), (mem ++ [Slot.live b])[i]? = some (Slot.live c) → (i = mem.length ∧ c = b) ∨ (i ≠ mem.length ∧ mem[i]? = some (Slot.live c)) := by
    intro i c h
    rw [List.getElem?_append] at h
    split at h
    · rename_i hlt; exact .inr ⟨by omega, h⟩
    · rename_i hge
      have : i - mem.length = 0 := by
        have := (List.getElem?_eq_some_iff.1 h).1
        simp at this; omega
      rw [this] at h
      cases h
      exact .inl ⟨by omega, rfl⟩
  have hno' : NoOwn (mem ++ [.live b]) := by
    intro i c h
    rcases get i c h with ⟨_, rfl⟩ | ⟨_, h⟩
    · exact hb
    · exact hno i c h
  refine ⟨hle, ⟨?_, ?_, ?_, ?_, hm.below, hm.size⟩, hno'⟩
  · intro i h
    have hi : i ≠ mem.length := by
      intro e
      subst e
      rw [List.getElem?_append_right (Nat.le_refl _)] at h
      simp at h
    rw [look i hi]
    refine hm.free i ?_
    rw [List.getElem?_append] at h
    split at h
    · exact h
    · rename_i hge; exact .inl (by simpa using hge)
  · intro i c h
    rcases get i c h with ⟨rfl, rfl⟩ | ⟨_, h⟩
    · exact ho
    · exact (hm.ob i c h).env hle
  · intro i c i' c' k k' x y h _ hc
    rw [hno' i c h] at hc
    cases hc
  · intro i c k x h hc
    rw [hno' i c h] at hc
    cases hc

theorem sl_inn {k : CK} {x : List Int} {v : Value} {mem : List Slot} {ρ : Env} (hm : MRel ρ B w0 mem w) (hno : NoOwn mem) (hv : rdSl k w x v) :
    ∃ ρ', ρ.le ρ' ∧ MRel ρ' B w0 (mem ++ [Slot.live { segs := [.xs k x.length x], own := false }]) w ∧ NoOwn (mem ++ [Slot.live { segs := [.xs k x.length x], own := false }]) ∧ A1.rel ρ' (.vec mem.length x.length 1) v := by
    obtain ⟨ad, c, rfl, hc, hrow⟩ := hv
    cases x with
    | nil =>
      obtain ⟨h1, h2, h3⟩ := hm.addRO hno (b := { segs := [.xs k 0 []], own := false }) (l := { a := none, adr := ad, size := 0, cap := c, es := 1 }) rfl
        ⟨_, [], if_pos rfl, ⟨rfl, [], rfl, rfl⟩, rfl, Nat.zero_le _, rfl, fun h => by cases h⟩
      exact ⟨_, h1, h2, h3, _, if_pos rfl, rfl, rfl, rfl, Nat.zero_le _, fun _ => rfl, fun h => absurd h (Nat.lt_irrefl 0)⟩
    | cons z zs =>
      obtain ⟨blk, cs, t, fr, pre, post, rfl, r1, r2⟩ := hrow (by simp)
      obtain ⟨h1, h2, h3⟩ := hm.addRO hno (b := { segs := [.xs k (z :: zs).length (z :: zs)], own := false }) (l := { a := some (blk, pre.length), adr := some ⟨blk, pre.length, none⟩, size := (z :: zs).length, cap := c, es := 1 }) rfl
        ⟨_, (z :: zs).map k.val, if_pos rfl, ⟨rfl, [], by simp, rfl⟩, by simp, hc, cs, t, fr, pre, post, r1, r2, rfl, fun h => by cases h⟩
      exact ⟨_, h1, h2, h3, _, if_pos rfl, rfl, rfl, rfl, hc, (fun h => by cases h), fun _ => rfl⟩

theorem Kd.inn_spec {K : Kd} {x : K.T} {v : Value} {mem : List Slot} (hm : MRel ρ B w0 mem w) (hno : NoOwn mem) (hv : K.rd w x v) :
    ∃ ρ', ρ.le ρ' ∧ MRel ρ' B w0 (mem ++ (K.inn mem.length x).2.map .live) w ∧ NoOwn (mem ++ (K.inn mem.length x).2.map .live) ∧ AV.rel ρ' (K.inn mem.length x).1 v := by
  have plain : ∀ {av : AV}, AV.rel ρ av v → ∃ ρ', ρ.le ρ' ∧ MRel ρ' B w0 (mem ++ ([] : List Ob).map .live) w ∧ NoOwn (mem ++ ([] : List Ob).map .live) ∧ AV.rel ρ' av v := by
    intro av h
    simp only [List.map_nil, List.append_nil]
    exact ⟨ρ, .refl ρ, hm, hno, h⟩
  cases K
  case int k => exact plain hv
  case bool => exact plain (by have := hv; simp only [Kd.inn, Kd.rd] at this ⊢; subst this; simp only [AV.rel, A1.rel]; congr 1; cases x <;> rfl)
  case str => exact plain hv
  case xs k n => exact plain ⟨_, hv.2, hv.1, [], by simp, rfl⟩
  case sls k => exact plain trivial
  case fnc f => exact plain hv
  case rp K =>
    obtain ⟨blk, mid, cs, t, fr, pre, post, rfl, hc, r1, r2⟩ := hv
    cases K with
    | int k =>
      have hc' : mid = [.int k x] := hc
      subst hc'
      simp only [Kd.inn, List.map_cons, List.map_nil]
      obtain ⟨h1, h2, h3⟩ := hm.addRO hno (b := { segs := [.xs (.int k) 1 [x]], own := false }) (l := { a := some (blk, pre.length), adr := some ⟨blk, pre.length, none⟩, size := 1, cap := 1, es := 1 }) rfl
        ⟨_, [.int k x], if_pos rfl, ⟨rfl, [], rfl, rfl⟩, rfl, Nat.le_refl _, cs, t, fr, pre, post, r1, r2, rfl, fun h => by cases h⟩
      exact ⟨_, h1, h2, h3, _, _, _, if_pos rfl, rfl, rfl⟩
    | xs k n =>
      obtain ⟨hl, rfl⟩ := hc
      simp only [Kd.inn, List.map_cons, List.map_nil]
      obtain ⟨h1, h2, h3⟩ := hm.addRO hno (b := { segs := [.xs k n x], own := false }) (l := { a := some (blk, pre.length), adr := some ⟨blk, pre.length, none⟩, size := 1, cap := 1, es := n }) rfl
        ⟨_, x.map k.val, if_pos rfl, ⟨hl, [], by simp, rfl⟩, by simp [hl], Nat.le_refl _, cs, t, fr, pre, post, r1, r2, rfl, fun h => by cases h⟩
      exact ⟨_, h1, h2, h3, _, _, _, if_pos rfl, rfl, rfl⟩
    | sl k =>
      obtain ⟨v, rfl, hv⟩ := hc
      obtain ⟨ρ1, g1, g2, g3, g4⟩ := sl_inn hm hno hv
      have hlen : (mem ++ [Slot.live { segs := [.xs k x.length x], own := false }]).length = mem.length + 1 := by simp
      obtain ⟨h1, h2, h3⟩ := g2.addRO g3 (b := { segs := [.one (.vec mem.length x.length 1)], own := false }) (l := { a := some (blk, pre.length), adr := some ⟨blk, pre.length, none⟩, size := 1, cap := 1, es := 1 }) rfl
        ⟨_, [v], if_pos rfl, ⟨v, [], rfl, A1.rel_le (Env.le_set (g2.free _ (.inl (by simp))) _) g4, rfl⟩, rfl, Nat.le_refl _, cs, t, fr, pre, post, r1, r2, rfl, fun h => by cases h⟩
      rw [hlen] at h1 h2
      simp only [Kd.inn, List.map_cons, List.map_nil]
      refine ⟨_, g1.trans h1, ?_, ?_, _, _, _, if_pos rfl, rfl, rfl⟩
      · simpa using h2
      · simpa using h3
  case sla k m =>
    obtain ⟨ad, c, n, rfl, hzl, hc, hm0, hrow⟩ := hv
    have hn : x.length / m = n := by
      rw [hzl]
      rcases hm0 with rfl | hm0
      · simp
      · exact Nat.mul_div_cancel n hm0
    simp only [Kd.inn, List.map_cons, List.map_nil]
    cases x with
    | nil =>
      by_cases hn0 : n = 0
      · subst hn0
        obtain ⟨h1, h2, h3⟩ := hm.addRO hno (b := { segs := [.xs k 0 []], own := false }) (l := { a := none, adr := ad, size := 0, cap := c, es := m }) rfl
          ⟨_, [], if_pos rfl, ⟨rfl, [], rfl, rfl⟩, by simp, Nat.zero_le _, rfl, fun h => by cases h⟩
        exact ⟨_, h1, h2, h3, _, if_pos rfl, by simp, rfl, rfl, Nat.zero_le _, fun _ => rfl, fun h => absurd h (Nat.lt_irrefl 0)⟩
      · exfalso
        rcases hm0 with h0 | h0
        · exact hn0 h0
        · have := Nat.mul_pos (Nat.pos_of_ne_zero hn0) h0
          rw [← hzl] at this
          exact absurd this (Nat.lt_irrefl 0)
    | cons z zs =>
      obtain ⟨blk, cs, t, fr, pre, post, rfl, r1, r2⟩ := hrow (by simp)
      obtain ⟨h1, h2, h3⟩ := hm.addRO hno (b := { segs := [.xs k (z :: zs).length (z :: zs)], own := false }) (l := { a := some (blk, pre.length), adr := some ⟨blk, pre.length, none⟩, size := n, cap := c, es := m }) rfl
        ⟨_, (z :: zs).map k.val, if_pos rfl, ⟨rfl, [], by simp, rfl⟩, by simpa using hzl, hc, cs, t, fr, pre, post, r1, r2, rfl, fun h => by cases h⟩
      exact ⟨_, h1, h2, h3, _, if_pos rfl, hn.symm, rfl, rfl, hc, (fun h => by cases h), fun _ => rfl⟩
  case sl k => exact sl_inn hm hno hv

theorem innAll_spec : ∀ {ks : List Kd} {x : Ds ks} {vs : List Value} {ρ : Env} {mem : List Slot}, MRel ρ B w0 mem w → NoOwn mem → rdAll w ks x vs →
    ∃ ρ', ρ.le ρ' ∧ MRel ρ' B w0 (mem ++ (innAll ks x mem.length).2) w ∧ (innAll ks x mem.length).1.length = vs.length ∧ ∀ (i : Nat) (v : TV) (u : Value), (innAll ks x mem.length).1[i]? = some v → vs[i]? = some u → TV.rel ρ' v u
  | [], x, vs, ρ, mem, hm, _, h => by
    have h' : vs = [] := h
    subst h'
    simp only [innAll, List.append_nil]
    exact ⟨ρ, .refl ρ, hm, rfl, fun i v u h => by simp at h⟩
  | k :: ks, x, vs, ρ, mem, hm, hno, h => by
    obtain ⟨v, vs', rfl, h1, h2⟩ := h
    obtain ⟨ρ1, g1, g2, g3, g4⟩ := Kd.inn_spec hm hno h1
    obtain ⟨ρ2, q1, q2, q3, q4⟩ := innAll_spec (ks := ks) (x := x.2) g2 g3 h2
    have hl : (mem ++ (k.inn mem.length x.1).2.map Slot.live).length = mem.length + (k.inn mem.length x.1).2.length := by simp
    rw [hl] at q2 q3 q4
    simp only [innAll]
    refine ⟨ρ2, g1.trans q1, by rw [List.append_assoc] at q2; exact q2, by simp [q3], fun i v u e1 e2 => ?_⟩
    cases i with
    | zero => cases e1; cases e2; exact AV.rel_le q1 g4
    | succ i => exact q4 i v u (by simpa using e1) (by simpa using e2)

theorem start_rel {fn : Func} {ks : List Kd} {x : Ds ks} {vs : List Value} (h : rdAll w ks x vs) :
    ∃ ρ, Rel ρ w.heap.size w (startSt fn ks x) { tmps := vs.toArray ++ Array.replicate (fn.ntmps - vs.toArray.size) undef, defers := [] } w := by
  have hm0 : MRel (fun _ => none) w.heap.size w [] w := ⟨fun _ _ => rfl, fun o b h => by simp at h, fun o b o' b' l l' x y h => by simp at h, fun o b l x h => by simp at h, Below.refl _ _, Nat.le_refl _⟩
  obtain ⟨ρ, h1, h2, h3, h4⟩ := innAll_spec hm0 (fun o b h => by simp at h) h
  simp only [List.nil_append, List.length_nil] at h2 h3 h4
  refine ⟨ρ, ?_, ?_, h2, rfl⟩
  · simp only [startSt, List.length_append, List.length_replicate, h3, Array.size_append, List.size_toArray, Array.size_replicate]
  · intro i v hv
    simp only [startSt] at hv
    rw [List.getElem?_append] at hv
    split at hv
    · rename_i hlt
      rw [h3] at hlt
      have e : (vs.toArray ++ Array.replicate (fn.ntmps - vs.toArray.size) undef).getD i undef = vs[i] := by
        rw [Array.getD_eq_getD_getElem?, Array.getElem?_append_left (by simpa using hlt)]
        simp [hlt]
      rw [e]
      exact h4 i v vs[i] hv (List.getElem?_eq_getElem hlt)
    · rw [List.getElem?_replicate] at hv
      split at hv
      · cases hv; trivial
      · cases hv

theorem resOne_spec (hE : E.Ok P) (hr : Rel ρ B w0 st a w) {rv : ResultVar} {x : AV} (h : resOne E st rv = some x) :
    ∃ v, ((match rv with
      | .tmp t => pure (a.tmps.getD t undef)
      | .cell p t => do loadVar t (← asAddr (a.tmps.getD p undef)) : Sem Value)).run P w = .ok v w ∧ AV.rel ρ x v := by
  cases rv with
  | tmp t =>
    simp only [resOne] at h
    split at h
    · rename_i y hy
      cases h
      exact ⟨_, rfl, hr.tm t _ hy⟩
    · cases h
  | cell p t =>
    simp only [resOne] at h
    split at h
    · rename_i o b i hp
      obtain ⟨ad, c, q1, q2, q3⟩ := loadT_spec hE.ty hr h (hr.tm p _ hp)
      exact ⟨c, by simp [q1, asAddr, q2], q3⟩
    · cases h

theorem resAll_spec (hE : E.Ok P) (hr : Rel ρ B w0 st a w) : ∀ {l : List ResultVar} {xs : List AV}, resAll E st l = some xs →
    ∃ vs, relAll ρ xs vs ∧ ∀ acc : Array Value, (l.foldlM (fun (acc : Array Value) (rv : ResultVar) => (do pure (acc.push (← (match rv with
      | .tmp t => pure (a.tmps.getD t undef)
      | .cell p t => do loadVar t (← asAddr (a.tmps.getD p undef)) : Sem Value))) : Sem _)) acc).run P w = .ok (acc ++ vs.toArray) w
  | [], xs, h => by
    simp only [resAll] at h
    cases h
    exact ⟨[], rfl, fun acc => by simp⟩
  | rv :: l, xs, h => by
    simp only [resAll] at h
    split at h
    · rename_i y ys e1 e2
      cases h
      obtain ⟨v, h1, h2⟩ := resOne_spec hE hr e1
      obtain ⟨vs, h3, h4⟩ := resAll_spec hE hr e2
      refine ⟨v :: vs, ⟨v, vs, rfl, h2, h3⟩, fun acc => ?_⟩
      simp only [List.foldlM_cons, Sem.run_bind, h1, Result.andThen_ok, Sem.run_pure]
      rw [h4]
      congr 1
      apply Array.ext'
      simp
    · cases h

theorem results_spec (hE : E.Ok P) (hr : Rel ρ B w0 st a w) {fn : Func} {xs : List AV} (h : resAll E st fn.results.toList = some xs) : ∃ vs, relAll ρ xs vs ∧ (results fn a.tmps).run P w = .ok (valOf vs) w := by
  obtain ⟨vs, h1, h2⟩ := resAll_spec hE hr h
  refine ⟨vs, h1, ?_⟩
  have h3 := h2 #[]
  have hm : (fn.results.mapM fun (rv : ResultVar) => (match rv with
      | .tmp t => pure (a.tmps.getD t undef)
      | .cell p t => do loadVar t (← asAddr (a.tmps.getD p undef)) : Sem Value)).run P w = .ok vs.toArray w := by
    rw [Array.mapM_eq_foldlM, ← Array.foldlM_toList]
    simpa using h3
  unfold results
  rw [Sem.run_bind]
  refine (congrArg (fun r => Result.andThen r _) hm).trans ?_
  cases vs with
  | nil => rfl
  | cons v r =>
    cases r with
    | nil => rfl
    | cons u r => rfl

theorem Kd.out_spec (hm : MRel ρ B w0 st.mem w) {K : Kd} {av : AV} {x : K.T} {ns : List Nat} (h : K.out st av = some (x, ns)) {v : Value} (hv : AV.rel ρ av v) :
    ∃ bs, K.mk B w x v bs ∧ ∀ b ∈ bs, ∃ o ∈ ns, ∃ ob l y, st.look o = some ob ∧ ob.own = true ∧ ρ o = some l ∧ l.a = some y ∧ y.1 = b := by
  have plain : ∀ {K : Kd} {x : K.T} {ns : List Nat}, ((K.get st (.one av)).map fun x => (x, ([] : List Nat))) = some (x, ns) → K.rd w x v := by
    intro K x ns h
    rw [Option.map_eq_some_iff] at h
    obtain ⟨y, h1, h2⟩ := h
    cases h2
    exact Kd.get_spec hm h1 hv
  cases K
  case int k => exact ⟨[], ⟨plain h, rfl⟩, fun b hb => by simp at hb⟩
  case bool => exact ⟨[], ⟨plain h, rfl⟩, fun b hb => by simp at hb⟩
  case str => exact ⟨[], ⟨plain h, rfl⟩, fun b hb => by simp at hb⟩
  case xs k n => exact ⟨[], ⟨plain h, rfl⟩, fun b hb => by simp at hb⟩
  case sls k => cases av <;> simp [Kd.out] at h
  case rp k => cases av <;> simp [Kd.out] at h
  case fnc f => exact ⟨[], ⟨plain h, rfl⟩, fun b hb => by simp at hb⟩
  case sla k m =>
    cases av with
    | any => simp [Kd.out] at h
    | agg l => simp [Kd.out] at h
    | sc y =>
      cases y <;> simp only [Kd.out] at h <;> try (cases h; done)
      · rename_i o len es
        split at h
        · rename_i segs he hm0 hl
          have he := beq_t he
          subst he
          rw [Option.map_eq_some_iff] at h
          obtain ⟨zs, h1, h2⟩ := h
          cases h2
          obtain ⟨l, k1, k2, k3, k4, k5, k6, k7⟩ := hv
          obtain ⟨l', C, g1, g2, g3, g4, g5⟩ := hm.ob o _ (look_live hl)
          rw [k1] at g1; cases g1
          have hC := flatS_spec h1 g2
          have hlen : x.length = l.size * l.es := by have := g3; rw [hC] at this; simpa using this
          cases ha : l.a with
          | none =>
            rw [ha] at g5
            obtain ⟨rfl, hcap⟩ := g5
            obtain ⟨c1, c2⟩ := hcap rfl
            have hz : x = [] := by cases x with
              | nil => rfl
              | cons z zs => simp at hC
            subst hz
            have hs0 : l.size = 0 := k6 ha
            exact ⟨[], .inl ⟨rfl, by rw [k4, hs0, c1, c2], rfl⟩, fun b hb => by simp at hb⟩
          | some p =>
            obtain ⟨blk, off⟩ := p
            rw [ha] at g5
            obtain ⟨cs, t, fr, pre, post, r1, r2, r3, r4⟩ := g5
            obtain ⟨rfl, r5, r6, r7⟩ := r4 rfl
            have hpre : pre = [] := List.eq_nil_of_length_eq_zero r3
            subst hpre
            refine ⟨[blk], .inr ⟨blk, cs, t, fr, post, l.size, l.cap, rfl, hm.ownB o _ l _ (look_live hl) rfl k1 ha, blt_t hm0, by rw [hlen, k3], k5, by rw [r5, k3], ?_, r1, by rw [← hC]; simpa using r2, r6⟩, fun b hb => ⟨o, by simp, _, l, _, hl, rfl, k1, ha, by simpa using (List.mem_singleton.1 hb).symm⟩⟩
            rw [k4, r7]
            simp [Loc.addr, ha]
        · cases h
      · cases h
        exact ⟨[], .inl ⟨rfl, hv, rfl⟩, fun b hb => by simp at hb⟩
  case sl k =>
    cases av with
    | any => simp [Kd.out] at h
    | agg l => simp [Kd.out] at h
    | sc y =>
      cases y <;> simp only [Kd.out] at h <;> try (cases h; done)
      · rename_i o len es
        split at h
        · rename_i segs he hl
          have he := beq_t he
          subst he
          rw [Option.map_eq_some_iff] at h
          obtain ⟨zs, h1, h2⟩ := h
          cases h2
          obtain ⟨l, k1, k2, k3, k4, k5, k6, k7⟩ := hv
          obtain ⟨l', C, g1, g2, g3, g4, g5⟩ := hm.ob o _ (look_live hl)
          rw [k1] at g1; cases g1
          have hC := flatS_spec h1 g2
          have hlen : x.length = l.size := by have := g3; rw [hC, k3] at this; simpa using this
          cases ha : l.a with
          | none =>
            rw [ha] at g5
            obtain ⟨rfl, hcap⟩ := g5
            obtain ⟨c1, c2⟩ := hcap rfl
            have hz : x = [] := by cases x with
              | nil => rfl
              | cons z zs => simp at hC
            subst hz
            have hs0 : l.size = 0 := by simpa using hlen.symm
            exact ⟨[], .inl ⟨rfl, by rw [k4, hs0, c1, c2], rfl⟩, fun b hb => by simp at hb⟩
          | some p =>
            obtain ⟨blk, off⟩ := p
            rw [ha] at g5
            obtain ⟨cs, t, fr, pre, post, r1, r2, r3, r4⟩ := g5
            obtain ⟨rfl, r5, r6, r7⟩ := r4 rfl
            have hpre : pre = [] := List.eq_nil_of_length_eq_zero r3
            subst hpre
            refine ⟨[blk], .inr ⟨blk, cs, t, fr, post, rfl, hm.ownB o _ l _ (look_live hl) rfl k1 ha, ?_, r1, by rw [← hC]; simpa using r2, r6⟩, fun b hb => ⟨o, by simp, _, l, _, hl, rfl, k1, ha, by simpa using (List.mem_singleton.1 hb).symm⟩⟩
            rw [k4, r7, hlen, r5, k3]
            simp [Loc.addr, ha]
        · cases h
      · cases h
        exact ⟨[], .inl ⟨rfl, hv, rfl⟩, fun b hb => by simp at hb⟩

theorem outAll_spec (hm : MRel ρ B w0 st.mem w) : ∀ {ks : List Kd} {l : List AV} {x : Rs ks} {ns : List Nat} {vs : List Value}, outAll st ks l = some (x, ns) → relAll ρ l vs →
    ∃ bs, mkAll B w ks x vs bs ∧ ∀ b ∈ bs, ∃ o ∈ ns, ∃ ob l y, st.look o = some ob ∧ ob.own = true ∧ ρ o = some l ∧ l.a = some y ∧ y.1 = b
  | [], [], x, ns, vs, h, hv => ⟨[], ⟨hv, rfl⟩, fun b hb => by simp at hb⟩
  | [], _ :: _, x, ns, vs, h, hv => by simp [outAll] at h
  | [k], [], x, ns, vs, h, hv => by simp [outAll] at h
  | [k], [y], x, ns, vs, h, hv => by
    obtain ⟨v, vs', rfl, h2, h3⟩ := hv
    cases h3
    obtain ⟨bs, q1, q2⟩ := Kd.out_spec hm h h2
    exact ⟨bs, ⟨v, rfl, q1⟩, q2⟩
  | [k], _ :: _ :: _, x, ns, vs, h, hv => by simp [outAll] at h
  | k :: k2 :: r, [], x, ns, vs, h, hv => by simp [outAll] at h
  | k :: k2 :: r, y :: l, x, ns, vs, h, hv => by
    obtain ⟨v, vs', rfl, h2, h3⟩ := hv
    simp only [outAll] at h
    split at h
    · rename_i p q e1 e2
      split at h
      · rename_i hdis
        cases h
        obtain ⟨b1, q1, q2⟩ := Kd.out_spec hm (x := p.1) (ns := p.2) e1 h2
        obtain ⟨b2, q3, q4⟩ := outAll_spec hm (x := q.1) (ns := q.2) e2 h3
        refine ⟨b1 ++ b2, ⟨v, vs', b1, b2, rfl, rfl, q1, q3, fun b hb1 hb2 => ?_⟩, fun b hb => ?_⟩
        · obtain ⟨o, ho, ob, l1, y1, g1, g2, g3, g4, g5⟩ := q2 b hb1
          obtain ⟨o', ho', ob', l2, y2, f1, f2, f3, f4, f5⟩ := q4 b hb2
          have hne : o ≠ o' := by
            intro e
            subst e
            have := List.all_eq_true.1 hdis o ho
            simp only [Bool.not_eq_true'] at this
            have h' : q.2.contains o = true := List.contains_iff_mem.2 ho'
            rw [h'] at this
            cases this
          exact hm.sep o ob o' ob' l1 l2 y1 y2 (look_live g1) (look_live f1) g2 hne g3 f3 g4 f4 (by rw [g5, f5])
        · rcases List.mem_append.1 hb with hb | hb
          · obtain ⟨o, ho, hrest⟩ := q2 b hb
            exact ⟨o, by simp [ho], hrest⟩
          · obtain ⟨o, ho, hrest⟩ := q4 b hb
            exact ⟨o, by simp [ho], hrest⟩
      · cases h
    · cases h

/-- WHAT THE EVALUATOR ANSWERS FOR A FUNCTION, THE MACHINE'S CALL ANSWERS. -/
theorem fun_sound (hE : E.Ok P) (hmix : P.follows .mixedOrders = true) {f : FuncId} {fn : Func} (hf : P.funcs[f]? = some fn) {H : Hints} {ks rs : List Kd} {g : Ds ks → Option (Rs rs)} (hg : ∀ x r, g x = some r → ∃ n, funK E H n fn ks rs x = some r) :
    SigOk P f ⟨ks, rs, g⟩ := by
  intro x vs w hrd r hx
  obtain ⟨n, hx⟩ := hg x r hx
  unfold funK at hx
  split at hx
  · rename_i c hb
    obtain ⟨ρ, hr⟩ := start_rel (fn := fn) hrd
    refine calls_of_wp hf hb (codeK_sound hE hmix H n c hr hx ?_)
    intro e st' ρ' a' w' hr' hk
    have fin : (match resAll E st' fn.results.toList with
        | some l => match outAll st' rs l with
          | some r => some r.1
          | none => none
        | none => none) = some r → a'.defers = [] ∧ ∃ v, (results fn a'.tmps).run P w' = .ok v w' ∧ ∃ vs' bs, Ending.returned v = .returned (valOf vs') ∧ mkAll w.heap.size w' rs r vs' bs ∧ Below w.heap.size w w' := by
      intro hk
      split at hk
      · rename_i l hl
        split at hk
        · rename_i p hp
          cases hk
          obtain ⟨us, h1, h2⟩ := results_spec hE hr' hl
          obtain ⟨bs, h3, _⟩ := outAll_spec hr'.m (x := p.1) (ns := p.2) hp h1
          exact ⟨hr'.defers, _, h2, us, bs, rfl, h3, hr'.m.below⟩
        · cases hk
      · cases hk
    cases e with
    | normal => exact fin hk
    | ret => exact fin hk
    | exit id => cases hk
  · cases hx
end
end Go.Ax
