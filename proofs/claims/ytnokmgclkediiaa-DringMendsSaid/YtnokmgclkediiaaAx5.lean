/- A part of the proof: Ax5. -/
import Derived.Test.YtnokmgclkediiaaAx4
/-! ### The relation of an abstract state to the machine's -/
namespace Go.Ax
open Go.RowKit

section
variable {ρ : Env} {B : Nat} {w0 : World} {st : St} {a : Act} {w : World} {mem : List Slot}

theorem ofVal_rel (v : Value) : (ofVal v).rel ρ v := by
  unfold ofVal
  split <;> (try split) <;> simp [AV.rel, A1.rel]

theorem Rel.get (hr : Rel ρ B w0 st a w) (x : Operand) : TV.rel ρ (st.get x) (a.eval x) := by
  cases x with
  | tmp t =>
    simp only [St.get, Act.eval, List.getD]
    cases h : st.tmps[t]? with
    | none => trivial
    | some v => exact hr.tm t v h
  | const v => exact ofVal_rel v
  | global g => trivial
  | func f => exact rfl

theorem Rel.put (hr : Rel ρ B w0 st a w) (dst : Option Tmp) {v : TV} {x : Value} (h : TV.rel ρ v x) : Rel ρ B w0 (st.put dst v) (a.put dst x) w := by
  cases dst with
  | none => exact hr
  | some d =>
    refine ⟨by simp [Act.put, St.put, hr.len], ?_, hr.m, hr.defers⟩
    intro i u hu
    simp only [St.put, List.getElem?_set] at hu
    simp only [Act.put, Array.getD_eq_getD_getElem?, Array.getElem?_setIfInBounds]
    by_cases e : d = i
    · subst e
      rw [if_pos rfl] at hu
      split at hu
      · rename_i hlt
        cases hu
        rw [← hr.len] at hlt
        simpa [hlt] using h
      · cases hu
    · rw [if_neg e] at hu
      rw [if_neg e]
      have := hr.tm i u hu
      simpa [Array.getD_eq_getD_getElem?] using this

theorem Rel.le {ρ' : Env} {w' : World} (hr : Rel ρ B w0 st a w) (hl : ρ.le ρ') {mem' : List Slot} (hm : MRel ρ' B w0 mem' w') : Rel ρ' B w0 { st with mem := mem' } a w' :=
  ⟨hr.len, fun i v h => TV.rel_le hl (hr.tm i v h), hm, hr.defers⟩

theorem MRel.lt (hm : MRel ρ B w0 mem w) {o : Nat} {b : Ob} {l : Loc} {x : Nat × Nat} (h : mem[o]? = some (.live b)) (hl : ρ o = some l) (hx : l.a = some x) : x.1 < w.heap.size := by
  obtain ⟨l', C, h1, _, _, _, h2⟩ := hm.ob o b h
  rw [hl] at h1; cases h1
  rw [hx] at h2
  obtain ⟨cs, t, fr, pre, post, h3, _⟩ := h2
  exact (Array.getElem?_eq_some_iff.1 h3).1

theorem ObRel.world {w' : World} {o : Nat} {b : Ob} (h : ObRel ρ w o b) (hw : ∀ l x, ρ o = some l → l.a = some x → w'.heap[x.1]? = w.heap[x.1]?) : ObRel ρ w' o b := by
  obtain ⟨l, C, h1, h2, h3, h4, h5⟩ := h
  refine ⟨l, C, h1, h2, h3, h4, ?_⟩
  cases hx : l.a with
  | none => rw [hx] at h5; exact h5
  | some x =>
    rw [hx] at h5
    obtain ⟨cs, t, fr, pre, post, h6, h7⟩ := h5
    exact ⟨cs, t, fr, pre, post, by rw [hw l x h1 hx]; exact h6, h7⟩

theorem ObRel.env {ρ' : Env} (hl : ρ.le ρ') {o : Nat} {b : Ob} (h : ObRel ρ w o b) : ObRel ρ' w o b := by
  obtain ⟨l, C, h1, h2, h3⟩ := h
  exact ⟨l, C, hl _ _ h1, segRel_le hl h2, h3⟩

/-- Old memory is as it was. -/
theorem MRel.grow {w' : World} (hm : MRel ρ B w0 mem w) (hb : Below w.heap.size w w') : MRel ρ B w0 mem w' :=
  ⟨hm.free, fun o b h => (hm.ob o b h).world fun _ _ hl hx => hb.block _ (hm.lt h hl hx), hm.sep, hm.ownB, hm.below.trans (hb.mono hm.size), Nat.le_trans hm.size hb.size⟩

theorem MRel.drew (hm : MRel ρ B w0 mem w) : MRel ρ B w0 mem w.drew :=
  ⟨hm.free, fun o b h => (hm.ob o b h).world fun _ _ _ _ => rfl, hm.sep, hm.ownB, hm.below.drew, hm.size⟩

theorem MRel.more (hm : MRel ρ B w0 mem w) (n : Nat) : MRel ρ B w0 (mem ++ List.replicate n .free) w := by
  have key : ∀ (o : Nat) (b : Ob), (mem ++ List.replicate n Slot.free)[o]? = some (Slot.live b) → mem[o]? = some (Slot.live b) := by
    intro o b h
    rw [List.getElem?_append] at h
    split at h
    · exact h
    · rw [List.getElem?_replicate] at h
      split at h <;> cases h
  refine ⟨?_, fun o b h => hm.ob o b (key o b h), fun o b o' b' l l' x y h h' => hm.sep o b o' b' l l' x y (key _ _ h) (key _ _ h'), fun o b l x h => hm.ownB o b l x (key _ _ h), hm.below, hm.size⟩
  intro o h
  refine hm.free o ?_
  rw [List.getElem?_append] at h
  split at h
  · exact h
  · rename_i hn; exact .inl (by simpa using hn)

/-- A set of names is let go. -/
theorem MRel.drop {mem' : List Slot} (hm : MRel ρ B w0 mem w) (hlive : ∀ (o : Nat) (b : Ob), mem'[o]? = some (Slot.live b) → mem[o]? = some (Slot.live b)) (hfree : ∀ o, (mem'[o]? = none ∨ mem'[o]? = some .free) → ρ o = none) : MRel ρ B w0 mem' w :=
  ⟨hfree, fun o b h => hm.ob o b (hlive o b h), fun o b o' b' l l' x y h h' => hm.sep o b o' b' l l' x y (hlive _ _ h) (hlive _ _ h'), fun o b l x h => hm.ownB o b l x (hlive _ _ h), hm.below, hm.size⟩

theorem MRel.kill (hm : MRel ρ B w0 mem w) (o : Nat) : MRel ρ B w0 (mem.set o .dead) w := by
  refine hm.drop (fun i b h => ?_) (fun i h => ?_)
  · rw [List.getElem?_set] at h
    split at h
    · split at h <;> cases h
    · exact h
  · rw [List.getElem?_set] at h
    split at h
    · rename_i e
      subst e
      split at h
      · simp at h
      · rename_i hn; exact hm.free _ (.inl (by simpa using hn))
    · exact hm.free _ h

def Env.set (ρ : Env) (o : Nat) (l : Loc) : Env := fun i => if i = o then some l else ρ i
theorem Env.le_set {o : Nat} (h : ρ o = none) (l : Loc) : ρ.le (ρ.set o l) := by
  intro i l' hi
  unfold Env.set
  split
  · rename_i e; subst e; rw [h] at hi; cases hi
  · exact hi

/-- A new object, in a block that no other one has. -/
theorem MRel.add (hm : MRel ρ B w0 mem w) {nm : Nat} (hf : mem[nm]? = some .free) {b : Ob} {l : Loc}
    (hne : ∀ x o b' l' y, l.a = some x → mem[o]? = some (.live b') → ρ o = some l' → l'.a = some y → y.1 ≠ x.1)
    (hB : ∀ x, l.a = some x → B ≤ x.1) (ho : ObRel (ρ.set nm l) w nm b) : ρ.le (ρ.set nm l) ∧ MRel (ρ.set nm l) B w0 (mem.set nm (.live b)) w := by
  have hn : ρ nm = none := hm.free nm (.inr hf)
  have hle : ρ.le (ρ.set nm l) := Env.le_set hn l
  have hlen : nm < mem.length := (List.getElem?_eq_some_iff.1 hf).1
  have other : ∀ i, i ≠ nm → (mem.set nm (.live b))[i]? = mem[i]? := fun i h => List.getElem?_set_ne (Ne.symm h)
  have self : (mem.set nm (Slot.live b))[nm]? = some (.live b) := List.getElem?_set_self hlen
  have look : ∀ i, i ≠ nm → (ρ.set nm l) i = ρ i := fun i h => if_neg h
  have lookn : (ρ.set nm l) nm = some l := if_pos rfl
  refine ⟨hle, ?_, ?_, ?_, ?_, hm.below, hm.size⟩
  · intro i h
    by_cases e : i = nm
    · subst e; rw [self] at h; simp at h
    · rw [other i e] at h; rw [look i e]; exact hm.free i h
  · intro i c h
    by_cases e : i = nm
    · subst e; rw [self] at h; cases h; exact ho
    · rw [other i e] at h; exact (hm.ob i c h).env hle
  · intro i c i' c' k k' x y h h' hc hne' hk hk' hx hy
    by_cases e : i = nm
    · subst e
      rw [lookn] at hk; cases hk
      have e' : i' ≠ i := fun e => hne' e.symm
      rw [other _ e'] at h'; rw [look _ e'] at hk'
      exact fun z => hne x i' c' k' y hx h' hk' hy z.symm
    · rw [other i e] at h; rw [look i e] at hk
      by_cases e' : i' = nm
      · subst e'
        rw [lookn] at hk'; cases hk'
        exact hne y i c k x hy h hk hx
      · rw [other _ e'] at h'; rw [look _ e'] at hk'
        exact hm.sep i c i' c' k k' x y h h' hc hne' hk hk' hx hy
  · intro i c k x h hc hk hx
    by_cases e : i = nm
    · subst e; rw [lookn] at hk; cases hk; exact hB x hx
    · rw [other i e] at h; rw [look i e] at hk; exact hm.ownB i c k x h hc hk hx

/-- An own row is written: what it holds behind it. -/
theorem MRel.write (hm : MRel ρ B w0 mem w) {o : Nat} {b : Ob} (h : mem[o]? = some (.live b)) (hb : b.own = true) {l : Loc} (hl : ρ o = some l) {blk off : Nat} (hx : l.a = some (blk, off))
    {cs : Array Value} {t : TypeId} {fr : Nat × Nat} (hh : w.heap[blk]? = some (.cells cs t fr)) {segs : List Seg} {C : List Value} (hs : segRel ρ segs C) (hC : C.length = l.size * l.es) {cs' : Array Value} (hsz : cs'.size = cs.size) {post : List Value}
    (hcs : cs'.toList = C ++ post) : MRel ρ B w0 (mem.set o (.live { segs, own := true })) (w.setRow blk cs') := by
  have hlen : o < mem.length := (List.getElem?_eq_some_iff.1 h).1
  have other : ∀ i, i ≠ o → (mem.set o (.live { segs, own := true }))[i]? = mem[i]? := fun i h => List.getElem?_set_ne (Ne.symm h)
  have self : (mem.set o (Slot.live { segs, own := true }))[o]? = some (.live { segs, own := true }) := List.getElem?_set_self hlen
  have hBb : B ≤ blk := hm.ownB o b l _ h hb hl hx
  have live' : ∀ (i : Nat) (c : Ob), (mem.set o (Slot.live { segs, own := true }))[i]? = some (Slot.live c) → ∃ c' : Ob, mem[i]? = some (Slot.live c') ∧ c'.own = c.own := by
    intro i c hi
    by_cases e : i = o
    · subst e; rw [self] at hi; cases hi; exact ⟨b, h, hb⟩
    · rw [other i e] at hi; exact ⟨c, hi, rfl⟩
  obtain ⟨l1, C1, g1, _, _, g4, g5⟩ := hm.ob o b h
  rw [hl] at g1; cases g1
  rw [hx] at g5
  obtain ⟨cs1, t1, fr1, pre1, post1, g6, _, g7, g8⟩ := g5
  rw [hh] at g6; cases g6
  refine ⟨?_, ?_, ?_, ?_, ?_, by simpa using hm.size⟩
  · intro i hi
    by_cases e : i = o
    · subst e; rw [self] at hi; simp at hi
    · rw [other i e] at hi; exact hm.free i hi
  · intro i c hi
    by_cases e : i = o
    · subst e
      rw [self] at hi; cases hi
      refine ⟨l, C, hl, hs, hC, g4, ?_⟩
      rw [hx]
      obtain ⟨k1, k2, k3, k4⟩ := g8 hb
      refine ⟨cs', t, fr, [], post, setRow_heap w blk cs cs' t fr hh, by simpa using hcs, ?_, fun _ => ⟨k1, by rw [hsz]; exact k2, by rw [hsz]; exact k3, k4⟩⟩
      simp [k1]
    · rw [other i e] at hi
      refine (hm.ob i c hi).world fun l' x hl' hx' => setRow_other w blk x.1 cs' ?_
      exact fun z => hm.sep o b i c l l' (blk, off) x h hi hb (Ne.symm e) hl hl' hx hx' z.symm
  · intro i c i' c' k k' x y hi hi' hc hne hk hk' hx1 hy1
    obtain ⟨d, hd, he⟩ := live' i c hi
    obtain ⟨d', hd', _⟩ := live' i' c' hi'
    exact hm.sep i d i' d' k k' x y hd hd' (he.trans hc) hne hk hk' hx1 hy1
  · intro i c k x hi hc hk hx1
    obtain ⟨d, hd, he⟩ := live' i c hi
    exact hm.ownB i d k x hd (he.trans hc) hk hx1
  · refine hm.below.trans ⟨rfl, rfl, rfl, by simp, fun k hk => setRow_other w blk k cs' (by omega)⟩
end
end Go.Ax
