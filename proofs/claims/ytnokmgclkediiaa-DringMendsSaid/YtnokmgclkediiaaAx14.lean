/- A part of the proof: Ax14. -/
import Derived.Test.YtnokmgclkediiaaAx13
/-! ### Calls -/
namespace Go.Ax
open Go.RowKit

variable {P : Program}

def rowAt (w : World) (a : Option Addr) (xs : List Value) : Prop :=
  0 < xs.length → ∃ blk cs t fr pre post, a = some ⟨blk, pre.length, none⟩ ∧ w.heap[blk]? = some (.cells cs t fr) ∧ cs.toList = pre ++ xs ++ post
def rdSl (k : CK) (w : World) (zs : List Int) (v : Value) : Prop := ∃ a c, v = .slice a zs.length c ∧ zs.length ≤ c ∧ rowAt w a (zs.map k.val)
/-- The cells of what is only read. -/
def RK.crd (w : World) : (K : RK) → K.T → List Value → Prop
  | .int k, n, cs => cs = [.int k n]
  | .xs k n, zs, cs => zs.length = n ∧ cs = zs.map k.val
  | .sl k, zs, cs => ∃ v, cs = [v] ∧ rdSl k w zs v
def Kd.rd (w : World) : (K : Kd) → K.T → Value → Prop
  | .int k, n, v => v = .int k n
  | .bool, b, v => v = .bool b
  | .str, s, v => v = .string s
  | .xs k n, zs, v => zs.length = n ∧ v = .agg (zs.map k.val).toArray
  | .sl k, zs, v => rdSl k w zs v
  | .sls k, l, v => ∃ a c vs, v = .slice a l.length c ∧ l.length ≤ c ∧ vs.length = l.length ∧ rowAt w a vs ∧ ∀ (i : Nat) (zs : List Int) (u : Value), l[i]? = some zs → vs[i]? = some u → rdSl k w zs u
  | .fnc f, _, v => v = .func (.func f) #[] #[]
  | .rp K, x, v => ∃ blk mid cs t fr pre post, v = .pointer (some ⟨blk, pre.length, none⟩) ∧ K.crd w x mid ∧ w.heap[blk]? = some (.cells cs t fr) ∧ cs.toList = pre ++ mid ++ post
  | .sla k m, zs, v => ∃ a c n, v = .slice a n c ∧ zs.length = n * m ∧ n ≤ c ∧ (n = 0 ∨ 0 < m) ∧ rowAt w a (zs.map k.val)
def rdAll (w : World) : (ks : List Kd) → Ds ks → List Value → Prop
  | [], _, vs => vs = []
  | k :: ks, x, vs => ∃ v vs', vs = v :: vs' ∧ k.rd w x.1 v ∧ rdAll w ks x.2 vs'

def Kd.mk (B : Nat) (w : World) : (K : Kd) → K.T → Value → List Nat → Prop
  | .sl k, zs, v, bs => (zs = [] ∧ v = .slice none 0 0 ∧ bs = []) ∨
      ∃ blk cs t fr post, bs = [blk] ∧ B ≤ blk ∧ v = .slice (some ⟨blk, 0, none⟩) zs.length cs.size ∧ w.heap[blk]? = some (.cells cs t fr) ∧ cs.toList = zs.map k.val ++ post ∧ (cs.size ≤ fr.1 ∨ fr.2 ≤ fr.1)
  | .sls _, _, _, _ => False
  | .rp _, _, _, _ => False
  | .sla k m, zs, v, bs => (zs = [] ∧ v = .slice none 0 0 ∧ bs = []) ∨
      ∃ blk cs t fr post n cap, bs = [blk] ∧ B ≤ blk ∧ 0 < m ∧ zs.length = n * m ∧ n ≤ cap ∧ cs.size = cap * m ∧ v = .slice (some ⟨blk, 0, none⟩) n cap ∧ w.heap[blk]? = some (.cells cs t fr) ∧ cs.toList = zs.map k.val ++ post ∧ (cs.size ≤ fr.1 ∨ fr.2 ≤ fr.1)
  | .fnc f, _, v, bs => v = .func (.func f) #[] #[] ∧ bs = []
  | .int k, n, v, bs => v = .int k n ∧ bs = []
  | .bool, b, v, bs => v = .bool b ∧ bs = []
  | .str, s, v, bs => v = .string s ∧ bs = []
  | .xs k n, zs, v, bs => (zs.length = n ∧ v = .agg (zs.map k.val).toArray) ∧ bs = []
def mkAll (B : Nat) (w : World) : (ks : List Kd) → Rs ks → List Value → List Nat → Prop
  | [], _, vs, bs => vs = [] ∧ bs = []
  | [k], x, vs, bs => ∃ v, vs = [v] ∧ k.mk B w x v bs
  | k :: k2 :: r, x, vs, bs => ∃ v vs' b1 b2, vs = v :: vs' ∧ bs = b1 ++ b2 ∧ k.mk B w x.1 v b1 ∧ mkAll B w (k2 :: r) x.2 vs' b2 ∧ ∀ b ∈ b1, b ∉ b2
def valOf : List Value → Value
  | [v] => v
  | vs => .tuple vs.toArray

/-- A function keeps its signature. -/
def SigOk (P : Program) (f : FuncId) (s : Sig) : Prop :=
  ∀ (x : Ds s.args) (vs : List Value) (w : World), rdAll w s.args x vs → ∀ r, s.g x = some r →
    Calls P f vs.toArray w fun e w' => ∃ vs' bs, e = .returned (valOf vs') ∧ mkAll w.heap.size w' s.res r vs' bs ∧ Below w.heap.size w w'
def Enters (P : Program) (f : FuncId) : Prop := ∃ fn, P.funcs[f]? = some fn ∧ fn.body.isSome = true ∧ (fn.name == "runtime.NumGoroutine") = false
structure AE.Ok (E : AE) (P : Program) : Prop where
  ty : ∀ t i, E.ty t = some i → TyOk P t i
  fn : ∀ f, ∀ s ∈ E.fn f, SigOk P f s ∧ Enters P f

section
variable {ρ : Env} {B : Nat} {w0 : World} {st st' : St} {a : Act} {w : World}

theorem sliceXs_spec (hm : MRel ρ B w0 st.mem w) {k : CK} {x : A1} {zs : List Int} (h : sliceXs k st x = some zs) {v : Value} (hv : A1.rel ρ x v) : rdSl k w zs v := by
  unfold sliceXs at h
  split at h
  · cases h
    exact ⟨none, 0, hv, Nat.le_refl _, fun h => by simp at h⟩
  · rename_i o len es
    split at h
    · rename_i he
      have he := beq_t he
      subst he
      split at h
      · rename_i b hb
        obtain ⟨l, k1, k2, k3, k4, k5, k6, k7⟩ := hv
        obtain ⟨l', C, g1, g2, g3, g4, g5⟩ := hm.ob o b (look_live hb)
        rw [k1] at g1; cases g1
        have hC := flatS_spec h g2
        have hlen : zs.length = l.size := by have := g3; rw [hC, k3] at this; simpa using this
        refine ⟨l.adr, l.cap, by rw [k4, hlen], by omega, fun hpos => ?_⟩
        rw [List.length_map] at hpos
        cases ha : l.a with
        | none => have := k6 ha; omega
        | some p =>
          rw [ha] at g5
          obtain ⟨cs, t, fr, pre, post, r1, r2, r3, _⟩ := g5
          exact ⟨p.1, cs, t, fr, pre, post, by rw [k7 (by omega)]; simp [Loc.addr, ha, r3], r1, by rw [← hC]; exact r2⟩
      · cases h
    · cases h
  · rename_i o off len cap es
    split at h
    · rename_i b he hb
      have he := beq_t he
      subst he
      split at h
      · rename_i k' n ys hs
        split at h
        · rename_i hk
          subst hk
          cases h
          obtain ⟨l, ad, c, k1, k2, k3, k4, k5, k6⟩ := hv
          obtain ⟨l', C, g1, g2, g3, g4, g5⟩ := hm.ob o b (look_live hb)
          rw [k1] at g1; cases g1
          rw [hs] at g2
          obtain ⟨s1, cs', s2, s3⟩ := g2
          cases s3
          simp only [List.append_nil] at s2
          have hyl : off + len ≤ ys.length := by
            have : ys.length = l.size * l.es := by rw [← g3, s2]; simp
            omega
          have hl : ((ys.drop off).take len).length = len := by simp; omega
          refine ⟨ad, c, by rw [hl]; exact k2, by rw [hl]; omega, fun hpos => ?_⟩
          rw [List.length_map, hl] at hpos
          obtain ⟨blk, f, q1, q2⟩ := k6 hpos
          rw [q1] at g5
          obtain ⟨cs, t, fr, pre, post, r1, r2, r3, _⟩ := g5
          subst r3
          refine ⟨blk, cs, t, fr, pre ++ C.take off, C.drop (off + len) ++ post, by rw [q2]; congr 2; simp [s2]; omega, r1, ?_⟩
          rw [r2]
          have : C = C.take off ++ (((ys.drop off).take len).map k.val ++ C.drop (off + len)) := by
            rw [List.map_take, List.map_drop, ← s2, ← List.drop_drop, List.take_append_drop, List.take_append_drop]
          conv => lhs; rw [this]
          simp
        · cases h
      · cases h
    · cases h
  · cases h

theorem slicesXs_spec (hm : MRel ρ B w0 st.mem w) {k : CK} : ∀ {segs : List Seg} {l : List (List Int)} {C : List Value}, slicesXs k st segs = some l → segRel ρ segs C →
    C.length = l.length ∧ ∀ (i : Nat) (zs : List Int) (u : Value), l[i]? = some zs → C[i]? = some u → rdSl k w zs u
  | [], l, C, h, hr => by
    simp only [slicesXs] at h
    cases h; cases hr
    exact ⟨rfl, fun i zs u h => by cases h⟩
  | .one x :: r, l, C, h, hr => by
    obtain ⟨c, cs', h1, h2, h3⟩ := hr
    simp only [slicesXs] at h
    split at h
    · rename_i y ys e1 e2
      cases h
      obtain ⟨q1, q2⟩ := slicesXs_spec hm e2 h3
      subst h1
      refine ⟨by simp [q1], fun i zs u g1 g2 => ?_⟩
      cases i with
      | zero => cases g1; cases g2; exact sliceXs_spec hm e1 h2
      | succ i => exact q2 i zs u (by simpa using g1) (by simpa using g2)
    · cases h
  | .xs _ _ _ :: _, l, C, h, hr => by simp [slicesXs] at h

theorem segsAt_spec {l l2 : List Seg} {b m : Nat} (h : segsAt l b m = some l2) {C : List Value} (hC : segRel ρ l C) : ∃ pre mid post, C = pre ++ mid ++ post ∧ pre.length = b ∧ mid.length = m ∧ segRel ρ l2 mid := by
  unfold segsAt at h
  split at h
  · rename_i l' h1
    obtain ⟨q1, q2⟩ := dropS_spec h1 hC
    obtain ⟨q3, q4⟩ := takeS_spec h q1
    rw [List.length_drop] at q4
    refine ⟨C.take b, (C.drop b).take m, C.drop (b + m), ?_, by simp; omega, by simp; omega, q3⟩
    rw [List.append_assoc, ← List.drop_drop, List.take_append_drop, List.take_append_drop]
  · cases h
theorem RK.get_spec (hm : MRel ρ B w0 st.mem w) {K : RK} {l : List Seg} {b : Nat} {x : K.T} (h : K.get st l b = some x) {C : List Value} (hC : segRel ρ l C) : ∃ pre mid post, C = pre ++ mid ++ post ∧ pre.length = b ∧ K.crd w x mid := by
  cases K with
  | int k =>
    simp only [RK.get] at h
    split at h
    · rename_i l2 h2
      obtain ⟨pre, mid, post, e1, e2, e3, e4⟩ := segsAt_spec h2 hC
      rw [Option.map_eq_some_iff] at h
      obtain ⟨zs, g1, rfl⟩ := h
      have hc := flatS_spec g1 e4
      subst hc
      rw [List.length_map] at e3
      refine ⟨pre, _, post, e1, e2, ?_⟩
      match zs, e3 with
      | [z], _ => rfl
    · cases h
  | xs k n =>
    simp only [RK.get] at h
    split at h
    · rename_i l2 h2
      obtain ⟨pre, mid, post, e1, e2, e3, e4⟩ := segsAt_spec h2 hC
      have hc := flatS_spec h e4
      subst hc
      rw [List.length_map] at e3
      exact ⟨pre, _, post, e1, e2, e3, rfl⟩
    · cases h
  | sl k =>
    simp only [RK.get] at h
    split at h
    · rename_i y h2
      obtain ⟨pre, mid, post, e1, e2, e3, c, cs', e4, e5, e6⟩ := segsAt_spec h2 hC
      cases e6
      subst e4
      exact ⟨pre, _, post, e1, e2, c, rfl, sliceXs_spec hm h e5⟩
    · cases h

theorem Kd.get_spec (hm : MRel ρ B w0 st.mem w) {K : Kd} {tv : TV} {x : K.T} (h : K.get st tv = some x) {v : Value} (hv : TV.rel ρ tv v) : K.rd w x v := by
  cases K
  case int k =>
    cases tv with
    | tup l => simp [Kd.get] at h
    | one y =>
      cases y with
      | any => simp [Kd.get] at h
      | agg l => simp [Kd.get] at h
      | sc y =>
        cases y <;> simp only [Kd.get] at h <;> try (cases h; done)
        split at h
        · rename_i e; subst e; cases h; exact hv
        · cases h
  case bool =>
    cases tv with
    | tup l => simp [Kd.get] at h
    | one y =>
      cases y with
      | any => simp [Kd.get] at h
      | agg l => simp [Kd.get] at h
      | sc y => cases y <;> simp only [Kd.get] at h <;> first | (cases h; done) | (cases h; exact hv)
  case str =>
    cases tv with
    | tup l => simp [Kd.get] at h
    | one y =>
      cases y with
      | any => simp [Kd.get] at h
      | agg l => simp [Kd.get] at h
      | sc y => cases y <;> simp only [Kd.get] at h <;> first | (cases h; done) | (cases h; exact hv)
  case xs k n =>
    cases tv with
    | tup l => simp [Kd.get] at h
    | one y =>
      cases y with
      | any => simp [Kd.get] at h
      | sc y => simp [Kd.get] at h
      | agg l =>
        simp only [Kd.get] at h
        split at h
        · rename_i hl
          obtain ⟨cs, rfl, h2⟩ := hv
          have hc := flatS_spec h h2
          have hlen := segRel_len h2
          rw [hc] at hlen ⊢
          exact ⟨by rw [List.length_map] at hlen; rw [hlen]; exact beq_t hl, rfl⟩
        · cases h
  case sl k =>
    cases tv with
    | tup l => simp [Kd.get] at h
    | one y =>
      cases y with
      | any => simp [Kd.get] at h
      | agg l => simp [Kd.get] at h
      | sc y => exact sliceXs_spec hm h hv
  case sls k =>
    cases tv with
    | tup l => simp [Kd.get] at h
    | one y =>
      cases y with
      | any => simp [Kd.get] at h
      | agg l => simp [Kd.get] at h
      | sc y =>
        cases y <;> simp only [Kd.get] at h <;> try (cases h; done)
        · rename_i o len es
          split at h
          · rename_i he
            have he := beq_t he
            subst he
            split at h
            · rename_i b hb
              obtain ⟨l, k1, k2, k3, k4, k5, k6, k7⟩ := hv
              obtain ⟨l', C, g1, g2, g3, g4, g5⟩ := hm.ob o b (look_live hb)
              rw [k1] at g1; cases g1
              obtain ⟨q1, q2⟩ := slicesXs_spec hm h g2
              have hlen : C.length = l.size := by rw [g3, k3]; simp
              refine ⟨l.adr, l.cap, C, by rw [k4, ← hlen, q1], by omega, q1, fun hpos => ?_, q2⟩
              cases ha : l.a with
              | none => have := k6 ha; omega
              | some p =>
                rw [ha] at g5
                obtain ⟨cs, t, fr, pre, post, r1, r2, r3, _⟩ := g5
                exact ⟨p.1, cs, t, fr, pre, post, by rw [k7 (by omega)]; simp [Loc.addr, ha, r3], r1, r2⟩
            · cases h
          · cases h
        · cases h
          exact ⟨none, 0, [], hv, Nat.le_refl _, rfl, fun h => by simp at h, fun i zs u h => by cases h⟩
  case fnc f =>
    cases tv with
    | tup l => simp [Kd.get] at h
    | one y =>
      cases y with
      | any => simp [Kd.get] at h
      | agg l => simp [Kd.get] at h
      | sc y =>
        cases y <;> simp only [Kd.get] at h <;> try (cases h; done)
        split at h
        · rename_i e; have e := beq_t e; subst e; exact hv
        · cases h
  case rp K =>
    cases tv with
    | tup l => simp [Kd.get] at h
    | one y =>
      cases y with
      | any => simp [Kd.get] at h
      | agg l => simp [Kd.get] at h
      | sc y =>
        cases y <;> try (simp [Kd.get] at h; done)
        rename_i o b i
        cases i <;> simp only [Kd.get] at h <;> try (cases h; done)
        split at h
        · rename_i ob hb
          obtain ⟨l, blk, f, k1, k2, rfl⟩ := hv
          obtain ⟨l', C, g1, g2, g3, g4, g5⟩ := hm.ob o ob (look_live hb)
          rw [k1] at g1; cases g1
          rw [k2] at g5
          obtain ⟨cs, t, fr, pre, post, r1, r2, r3, _⟩ := g5
          obtain ⟨p2, mid, q2, e1, e2, e3⟩ := RK.get_spec hm h g2
          exact ⟨blk, mid, cs, t, fr, pre ++ p2, q2 ++ post, by simp [r3, e2], e3, r1, by rw [r2, e1]; simp⟩
        · cases h
  case sla k m =>
    cases tv with
    | tup l => simp [Kd.get] at h
    | one y =>
      cases y with
      | any => simp [Kd.get] at h
      | agg l => simp [Kd.get] at h
      | sc y =>
        cases y <;> simp only [Kd.get] at h <;> try (cases h; done)
        · rename_i o len es
          split at h
          · rename_i he hm0
            have he := beq_t he
            subst he
            split at h
            · rename_i b hb
              obtain ⟨l, k1, k2, k3, k4, k5, k6, k7⟩ := hv
              obtain ⟨l', C, g1, g2, g3, g4, g5⟩ := hm.ob o b (look_live hb)
              rw [k1] at g1; cases g1
              have hC := flatS_spec h g2
              have hlen : x.length = l.size * l.es := by have := g3; rw [hC] at this; simpa using this
              refine ⟨l.adr, l.cap, l.size, k4, by rw [hlen, k3], k5, .inr (blt_t hm0), fun hpos => ?_⟩
              rw [List.length_map] at hpos
              have hs0 : 0 < l.size := by
                rcases Nat.eq_zero_or_pos l.size with h0 | h0
                · rw [hlen, h0] at hpos; simp at hpos
                · exact h0
              cases ha : l.a with
              | none => have := k6 ha; omega
              | some p =>
                rw [ha] at g5
                obtain ⟨cs, t, fr, pre, post, r1, r2, r3, _⟩ := g5
                exact ⟨p.1, cs, t, fr, pre, post, by rw [k7 hs0]; simp [Loc.addr, ha, r3], r1, by rw [← hC]; exact r2⟩
            · cases h
          · cases h
        · cases h
          exact ⟨none, 0, 0, hv, by simp, Nat.le_refl _, .inl rfl, fun h => by simp at h⟩

theorem getAll_spec (hm : MRel ρ B w0 st.mem w) : ∀ {ks : List Kd} {l : List TV} {x : Ds ks} {vs : List Value}, getAll st ks l = some x → l.length = vs.length →
    (∀ (i : Nat) (v : TV) (u : Value), l[i]? = some v → vs[i]? = some u → TV.rel ρ v u) → rdAll w ks x vs
  | [], [], x, vs, h, hl, _ => List.eq_nil_of_length_eq_zero hl.symm
  | [], _ :: _, x, vs, h, hl, _ => by simp [getAll] at h
  | k :: ks, [], x, vs, h, hl, _ => by simp [getAll] at h
  | k :: ks, v :: l, x, vs, h, hl, hr => by
    simp only [getAll] at h
    split at h
    · rename_i y z e1 e2
      cases h
      cases vs with
      | nil => simp at hl
      | cons u us =>
        exact ⟨u, us, rfl, Kd.get_spec hm e1 (hr 0 v u rfl rfl), getAll_spec hm e2 (by simpa using hl) fun i v u h1 h2 => hr (i + 1) v u (by simpa using h1) (by simpa using h2)⟩
    · cases h

/-- Blocks that live objects lie in. -/
def Used (ρ : Env) (mem : List Slot) (b : Nat) : Prop := ∃ o ob l y, mem[o]? = some (Slot.live ob) ∧ ρ o = some l ∧ l.a = some y ∧ y.1 = b

theorem addOne {mem : List Slot} (hm : MRel ρ B w0 mem w) {nm : Nat} (hf : mem[nm]? = some .free) {b : Ob} {l : Loc} (hne : ∀ x, l.a = some x → ¬ Used ρ mem x.1) (hB : ∀ x, l.a = some x → B ≤ x.1) (ho : ObRel (ρ.set nm l) w nm b) :
    ρ.le (ρ.set nm l) ∧ MRel (ρ.set nm l) B w0 (mem.set nm (.live b)) w ∧ ∀ c, Used (ρ.set nm l) (mem.set nm (.live b)) c → Used ρ mem c ∨ ∃ x, l.a = some x ∧ x.1 = c := by
  obtain ⟨h1, h2⟩ := hm.add hf (b := b) (l := l) (fun x o b' l' y hx hb hl hy he => hne x hx ⟨o, b', l', y, hb, hl, hy, he⟩) hB ho
  refine ⟨h1, h2, ?_⟩
  rintro c ⟨o, ob, k, y, e1, e2, e3, e4⟩
  by_cases e : o = nm
  · subst e
    have : (ρ.set o l) o = some l := if_pos rfl
    rw [this] at e2
    cases e2
    exact .inr ⟨y, e3, e4⟩
  · rw [List.getElem?_set_ne (Ne.symm e)] at e1
    have : (ρ.set nm l) o = ρ o := if_neg e
    rw [this] at e2
    exact .inl ⟨o, ob, k, y, e1, e2, e3, e4⟩

theorem Kd.make_spec {K : Kd} {x : K.T} {v : Value} {bs : List Nat} {B' nm : Nat} (hmk : K.mk B' w x v bs) (hB : B ≤ B') (hm : MRel ρ B w0 st.mem w) (hfresh : ∀ b ∈ bs, ¬ Used ρ st.mem b) {st1 : St} (h : st.newAll nm (K.make nm x).2 = some st1) :
    ∃ ρ', ρ.le ρ' ∧ MRel ρ' B w0 st1.mem w ∧ AV.rel ρ' (K.make nm x).1 v ∧ st1.tmps = st.tmps ∧ ∀ c, Used ρ' st1.mem c → Used ρ st.mem c ∨ c ∈ bs := by
  have plain : ∀ {av : AV}, st.newAll nm [] = some st1 → AV.rel ρ av v → ∃ ρ', ρ.le ρ' ∧ MRel ρ' B w0 st1.mem w ∧ AV.rel ρ' av v ∧ st1.tmps = st.tmps ∧ ∀ c, Used ρ' st1.mem c → Used ρ st.mem c ∨ c ∈ bs := by
    intro av h hv
    simp only [St.newAll] at h
    cases h
    exact ⟨ρ, .refl ρ, hm, hv, rfl, fun c hc => .inl hc⟩
  cases K
  case int k => exact plain h hmk.1
  case bool => exact plain h (by have := hmk.1; simp only [Kd.make, AV.rel, A1.rel, this]; congr 1; cases x <;> rfl)
  case str => exact plain h hmk.1
  case xs k n => exact plain h ⟨_, hmk.1.2, hmk.1.1, [], by simp, rfl⟩
  case sls k => exact hmk.elim
  case rp K => exact hmk.elim
  case fnc f => exact plain h hmk.1
  case sla k m =>
    simp only [Kd.make, St.newAll] at h
    split at h
    · rename_i st2 hn
      cases h
      unfold St.new at hn
      split at hn
      · rename_i hf
        cases hn
        have hnone := hm.free nm (.inr hf)
        rcases hmk with ⟨rfl, rfl, rfl⟩ | ⟨blk, cs, t, fr, post, n, cap, rfl, h1, hm0, hl, hle, hcap, rfl, h3, h4, h5⟩
        · obtain ⟨q1, q2, q3⟩ := addOne hm hf (b := { segs := [.xs k 0 []], own := true }) (l := { a := none, adr := none, size := 0, cap := 0, es := m }) (fun x hx => by cases hx) (fun x hx => by cases hx)
            ⟨_, [], if_pos rfl, ⟨rfl, [], rfl, rfl⟩, by simp, Nat.le_refl _, rfl, fun _ => ⟨rfl, rfl⟩⟩
          refine ⟨_, q1, q2, ⟨_, if_pos rfl, by simp, rfl, rfl, Nat.le_refl _, fun _ => rfl, fun h => absurd h (Nat.lt_irrefl 0)⟩, rfl, fun c hc => ?_⟩
          rcases q3 c hc with h | ⟨x, hx, _⟩
          · exact .inl h
          · cases hx
        · have hn : x.length / m = n := by rw [hl]; exact Nat.mul_div_cancel n hm0
          obtain ⟨q1, q2, q3⟩ := addOne hm hf (b := { segs := [.xs k x.length x], own := true }) (l := { a := some (blk, 0), adr := some ⟨blk, 0, none⟩, size := n, cap := cap, es := m })
            (fun y hy => by cases hy; exact hfresh blk (by simp)) (fun y hy => by cases hy; exact Nat.le_trans hB h1)
            ⟨_, x.map k.val, if_pos rfl, ⟨rfl, [], by simp, rfl⟩, by simpa using hl, hle, cs, t, fr, [], post, h3, by simpa using h4, rfl, fun _ => ⟨rfl, hcap, h5, rfl⟩⟩
          refine ⟨_, q1, q2, ⟨_, if_pos rfl, hn.symm, rfl, rfl, hle, (fun h => by cases h), fun _ => rfl⟩, rfl, fun c hc => ?_⟩
          rcases q3 c hc with h | ⟨y, hy, hc⟩
          · exact .inl h
          · cases hy; exact .inr (by simp [← hc])
      · cases hn
    · cases h
  case sl k =>
    simp only [Kd.make, St.newAll] at h
    split at h
    · rename_i st2 hn
      cases h
      unfold St.new at hn
      split at hn
      · rename_i hf
        cases hn
        have hnone := hm.free nm (.inr hf)
        rcases hmk with ⟨rfl, rfl, rfl⟩ | ⟨blk, cs, t, fr, post, rfl, h1, rfl, h3, h4, h5⟩
        · obtain ⟨q1, q2, q3⟩ := addOne hm hf (b := { segs := [.xs k 0 []], own := true }) (l := { a := none, adr := none, size := 0, cap := 0, es := 1 }) (fun x hx => by cases hx) (fun x hx => by cases hx)
            ⟨_, [], if_pos rfl, ⟨rfl, [], rfl, rfl⟩, rfl, Nat.le_refl _, rfl, fun _ => ⟨rfl, rfl⟩⟩
          refine ⟨_, q1, q2, ⟨_, if_pos rfl, rfl, rfl, rfl, Nat.le_refl _, fun _ => rfl, fun h => absurd h (Nat.lt_irrefl 0)⟩, rfl, fun c hc => ?_⟩
          rcases q3 c hc with h | ⟨x, hx, _⟩
          · exact .inl h
          · cases hx
        · have hsz : cs.size = x.length + post.length := by rw [← Array.length_toList, h4]; simp
          obtain ⟨q1, q2, q3⟩ := addOne hm hf (b := { segs := [.xs k x.length x], own := true }) (l := { a := some (blk, 0), adr := some ⟨blk, 0, none⟩, size := x.length, cap := cs.size, es := 1 })
            (fun y hy => by cases hy; exact hfresh blk (by simp)) (fun y hy => by cases hy; exact Nat.le_trans hB h1)
            ⟨_, x.map k.val, if_pos rfl, ⟨rfl, [], by simp, rfl⟩, by simp, by simp only; omega, cs, t, fr, [], post, h3, by simpa using h4, rfl, fun _ => ⟨rfl, by simp, h5, rfl⟩⟩
          refine ⟨_, q1, q2, ⟨_, if_pos rfl, rfl, rfl, rfl, by simp only; omega, (fun h => by cases h), fun _ => rfl⟩, rfl, fun c hc => ?_⟩
          rcases q3 c hc with h | ⟨y, hy, hc⟩
          · exact .inl h
          · cases hy; exact .inr (by simp [← hc])
      · cases hn
    · cases h

theorem newAll_append {l1 l2 : List Ob} : ∀ {st : St} {nm : Nat}, st.newAll nm (l1 ++ l2) = (st.newAll nm l1).bind fun s => s.newAll (nm + l1.length) l2 := by
  induction l1 with
  | nil => intro st nm; simp [St.newAll]
  | cons b r ih =>
    intro st nm
    simp only [List.cons_append, St.newAll]
    cases st.new nm b with
    | none => rfl
    | some s =>
      show s.newAll (nm + 1) (r ++ l2) = (s.newAll (nm + 1) r).bind fun s' => s'.newAll (nm + (r.length + 1)) l2
      rw [ih, show nm + 1 + r.length = nm + (r.length + 1) by omega]

theorem makeAll_spec {B' : Nat} (hB : B ≤ B') : ∀ {ks : List Kd} {x : Rs ks} {vs : List Value} {bs : List Nat} {nm : Nat} {ρ : Env} {st st1 : St}, mkAll B' w ks x vs bs → MRel ρ B w0 st.mem w → (∀ b ∈ bs, ¬ Used ρ st.mem b) → st.newAll nm (makeAll nm ks x).2 = some st1 →
    ∃ ρ', ρ.le ρ' ∧ MRel ρ' B w0 st1.mem w ∧ relAll ρ' (makeAll nm ks x).1 vs ∧ st1.tmps = st.tmps ∧ ∀ c, Used ρ' st1.mem c → Used ρ st.mem c ∨ c ∈ bs
  | [], x, vs, bs, nm, ρ, st, st1, hmk, hm, hf, h => by
    obtain ⟨rfl, rfl⟩ := hmk
    simp only [makeAll, St.newAll] at h
    cases h
    exact ⟨ρ, .refl ρ, hm, rfl, rfl, fun c hc => .inl hc⟩
  | [k], x, vs, bs, nm, ρ, st, st1, hmk, hm, hf, h => by
    obtain ⟨v, rfl, h1⟩ := hmk
    obtain ⟨ρ', q1, q2, q3, q4, q5⟩ := Kd.make_spec h1 hB hm hf h
    exact ⟨ρ', q1, q2, ⟨v, [], rfl, q3, rfl⟩, q4, q5⟩
  | k :: k2 :: r, x, vs, bs, nm, ρ, st, st1, hmk, hm, hf, h => by
    obtain ⟨v, vs', b1, b2, rfl, rfl, h1, h2, h3⟩ := hmk
    simp only [makeAll] at h
    rw [newAll_append] at h
    cases hs : st.newAll nm (k.make nm x.1).2 with
    | none => rw [hs] at h; cases h
    | some s =>
      rw [hs] at h
      simp only [Option.bind_some] at h
      obtain ⟨ρ1, q1, q2, q3, q4, q5⟩ := Kd.make_spec h1 hB hm (fun b hb => hf b (by simp [hb])) hs
      obtain ⟨ρ2, r1, r2, r3, r4, r5⟩ := makeAll_spec hB h2 q2 (fun b hb hu => by
        rcases q5 b hu with h | h
        · exact hf b (by simp [hb]) h
        · exact h3 b h hb) h
      refine ⟨ρ2, q1.trans r1, r2, ⟨v, vs', rfl, AV.rel_le r1 q3, r3⟩, r4.trans q4, fun c hc => ?_⟩
      rcases r5 c hc with h | h
      · rcases q5 c h with h | h
        · exact .inl h
        · exact .inr (by simp [h])
      · exact .inr (by simp [h])

theorem rel_tvOf {l : List AV} {vs : List Value} (h : relAll ρ l vs) : TV.rel ρ (tvOf l) (valOf vs) := by
  cases l with
  | nil =>
    have h' : vs = [] := h
    subst h'
    exact ⟨[], rfl, rfl⟩
  | cons x r =>
    cases r with
    | nil =>
      obtain ⟨v, vs', rfl, h2, h3⟩ := h
      cases h3
      exact h2
    | cons y r =>
      have h0 := h
      obtain ⟨v, vs', rfl, h2, u, us, rfl, h4, h5⟩ := h
      exact ⟨v :: u :: us, rfl, h0⟩

/-- The machine's step fits the evaluator's, whatever follows. -/
def Fits (P : Program) (ρ : Env) (B : Nat) (w0 : World) (st' : St) (o : Oper) (a : Act) (w : World) : Prop :=
  ∀ (K : Act → World → Prop) (Q : Exit → Act → World → Prop), (∀ v w' ρ', ρ.le ρ' → Rel ρ' B w0 st' (a.put o.dst v) w' → K (a.put o.dst v) w') → o.wp P a w K Q
theorem FitsV.fits {o : Oper} (h : FitsV P ρ B w0 st' o a w) : Fits P ρ B w0 st' o a w := by
  obtain ⟨v, w', ρ', h1, h2, h3⟩ := h
  exact fun K Q hK => wp_val h1 (hK v w' ρ' h2 h3)

theorem mk_new {w' : World} {B' : Nat} : ∀ (ks : List Kd) (x : Rs ks) (vs : List Value) (bs : List Nat), mkAll B' w' ks x vs bs → ∀ b ∈ bs, B' ≤ b := by
  have one : ∀ (K : Kd) (x : K.T) (v : Value) (bs : List Nat), K.mk B' w' x v bs → ∀ b ∈ bs, B' ≤ b := by
    intro K x v bs hk b hb
    cases K
    case sl k =>
      rcases hk with ⟨_, _, rfl⟩ | ⟨blk, _, _, _, _, rfl, h, _⟩
      · simp at hb
      · simp at hb; subst hb; exact h
    case sla k m =>
      rcases hk with ⟨_, _, rfl⟩ | ⟨blk, _, _, _, _, _, _, rfl, h, _⟩
      · simp at hb
      · simp at hb; subst hb; exact h
    case sls k => exact hk.elim
    case rp k => exact hk.elim
    all_goals (have := hk.2; subst this; simp at hb)
  intro ks
  induction ks with
  | nil => intro x vs bs hk b hb; obtain ⟨_, rfl⟩ := hk; simp at hb
  | cons k r ih =>
    cases r with
    | nil => intro x vs bs hk b hb; obtain ⟨v, _, hk⟩ := hk; exact one k x v bs hk b hb
    | cons k2 r =>
      intro x vs bs hk b hb
      obtain ⟨v, vs', b1, b2, _, rfl, h1, h2, _⟩ := hk
      rcases List.mem_append.1 hb with hb | hb
      · exact one k x.1 v b1 h1 b hb
      · exact ih x.2 vs' b2 h2 b hb

theorem callL_sound {o : Oper} {nm : Nat} {f : FuncId} {targs : List TV} {vs : List Value} (hr : Rel ρ B w0 st a w) (hl : targs.length = vs.length) (hrel : ∀ (i : Nat) (v : TV) (u : Value), targs[i]? = some v → vs[i]? = some u → TV.rel ρ v u)
    (hexec : ∀ fn, P.funcs[f]? = some fn → fn.body.isSome = true → (fn.name == "runtime.NumGoroutine") = false → (execOp a.eval o).run P w = .ok (.enter f vs.toArray) w) :
    ∀ {ss : List Sig}, (∀ s ∈ ss, SigOk P f s ∧ Enters P f) → (callL st nm o.dst targs ss).val = some st' → Fits P ρ B w0 st' o a w
  | [], _, h => by simp [callL, T.val_fail] at h
  | s :: ss, hss, h => by
    simp only [callL] at h
    obtain ⟨hsig, fn, hf, hb, hn⟩ := hss s (by simp)
    split at h
    · unfold callS at h
      split at h
      · rename_i x hx
        simp only [T.val_opt] at h
        obtain ⟨r, hg, h⟩ := h
        have hargs := getAll_spec hr.m hx hl hrel
        have hc := hsig x _ w hargs r hg
        split at h
        · rename_i st1 h1
          rw [T.val_ret] at h
          subst h
          intro K Q hK
          unfold Oper.wp
          rw [hexec fn hf hb hn]
          refine hc.mono ?_
          rintro e w' ⟨vs', bs, rfl, hmk, hbelow⟩
          have hm := hr.m.grow hbelow
          have hfresh : ∀ b ∈ bs, ¬ Used ρ st.mem b := by
            rintro b hbm ⟨ob, obj, l, y, e1, e2, e3, e4⟩
            have := hr.m.lt e1 e2 e3
            have := mk_new _ _ _ _ hmk b hbm
            omega
          obtain ⟨ρ', q1, q2, q3, q4, _⟩ := makeAll_spec hr.m.size hmk hm hfresh h1
          have hr1 : Rel ρ' B w0 st1 a w' := ⟨by rw [q4]; exact hr.len, fun i v h => by rw [q4] at h; exact TV.rel_le q1 (hr.tm i v h), q2, hr.defers⟩
          exact hK _ w' ρ' q1 (hr1.put o.dst (rel_tvOf q3))
        · simp [T.val_fail] at h
      · simp [T.val_fail] at h
    · exact callL_sound hr hl hrel hexec (fun s hs => hss s (by simp [hs])) h

theorem sound_call {E : AE} (hE : E.Ok P) {nm : Nat} {o : Oper} {f : FuncId} {args : Array Operand} {ats : Array TypeId} (ho : o.op = .call { callee := .value (.func f), args, argTypes := ats }) (hr : Rel ρ B w0 st a w) (h : (step E nm o st).val = some st') : Fits P ρ B w0 st' o a w := by
  simp only [step, ho] at h
  refine callL_sound (f := f) (vs := args.toList.map a.eval) hr (by simp) (args_rel hr args.toList) (fun fn hf hb hn => ?_) (hE.fn f) h
  have hb' : fn.body ≠ none := by intro hnb; rw [hnb] at hb; cases hb
  have hn' : fn.name ≠ "runtime.NumGoroutine" := by simpa using hn
  have hm : (args.toList.map a.eval).toArray = args.map a.eval := by
    apply Array.ext'; simp
  rw [hm]
  simp [execOp, ho, resolve, Deferred.ofValue, Act.eval, invoke, callFunc, program, Sem.run, hf, hn', hb']

theorem fnOf_spec {tv : TV} {f : FuncId} {cap : List TV} (h : fnOf tv = some (f, cap)) {v : Value} (hv : TV.rel ρ tv v) : ∃ vs : List Value, v = .func (.func f) #[] vs.toArray ∧ cap.length = vs.length ∧ ∀ (i : Nat) (x : TV) (u : Value), cap[i]? = some x → vs[i]? = some u → TV.rel ρ x u := by
  unfold fnOf at h
  split at h
  · cases h
    exact ⟨[], hv, rfl, fun i x u h => by simp at h⟩
  · rename_i o b
    cases h
    obtain ⟨l, blk, g, h1, h2, rfl⟩ := hv
    refine ⟨[.pointer (some ⟨blk, g + b, none⟩)], rfl, rfl, fun i x u e1 e2 => ?_⟩
    cases i with
    | zero => cases e1; cases e2; exact ⟨l, blk, g, h1, h2, rfl⟩
    | succ i => simp at e1
  · cases h

theorem sound_callv {E : AE} (hE : E.Ok P) {nm : Nat} {o : Oper} {t : Tmp} {args : Array Operand} {ats : Array TypeId} (ho : o.op = .call { callee := .value (.tmp t), args, argTypes := ats }) (hr : Rel ρ B w0 st a w) (h : (step E nm o st).val = some st') : Fits P ρ B w0 st' o a w := by
  simp only [step, ho] at h
  split at h
  · rename_i f cap hfn
    obtain ⟨cvs, hv, hcl, hcr⟩ := fnOf_spec hfn (hr.get (.tmp t))
    refine callL_sound (f := f) (vs := args.toList.map a.eval ++ cvs) hr (by simp [hcl]) (fun i v u e1 e2 => ?_) (fun fn hf hb hn => ?_) (hE.fn f) h
    · by_cases hi : i < args.toList.length
      · rw [List.getElem?_append_left (by simpa using hi)] at e1 e2
        exact args_rel hr args.toList i v u e1 e2
      · rw [List.getElem?_append_right (by simpa using hi)] at e1 e2
        rw [List.length_map] at e1 e2
        exact hcr _ v u e1 e2
    · have hb' : fn.body ≠ none := by intro hnb; rw [hnb] at hb; cases hb
      have hn' : fn.name ≠ "runtime.NumGoroutine" := by simpa using hn
      have hm : (args.toList.map a.eval ++ cvs).toArray = args.map a.eval ++ cvs.toArray := by
        apply Array.ext'; simp
      rw [hm]
      simp [execOp, ho, resolve, hv, Deferred.ofValue, invoke, callFunc, program, Sem.run, hf, hn', hb']
  · simp [T.val_fail] at h

theorem sound_makeFunc {E : AE} {nm : Nat} {o : Oper} {f : FuncId} {first captured : Array Operand} (ho : o.op = .makeFunc (.func f) first captured) (hr : Rel ρ B w0 st a w) (h : (step E nm o st).val = some st') : FitsV P ρ B w0 st' o a w := by
  simp only [step, ho] at h
  unfold makeFuncT at h
  split at h
  · rename_i e1 e2
    rw [T.val_ret] at h
    subst h
    refine ⟨.func (.func f) #[] #[], w, ρ, ?_, .refl ρ, hr.putA o.dst rfl⟩
    have h1 : first = #[] := by rw [← Array.toArray_toList (xs := first), e1]
    have h2 : captured = #[] := by rw [← Array.toArray_toList (xs := captured), e2]
    simp [execOp, ho, h1, h2, Instr.makeFunc]
  · rename_i x e1 e2
    have hx := hr.get x
    split at h
    · rename_i ob b e
      rw [e] at hx
      rw [T.val_ret] at h
      subst h
      obtain ⟨l, blk, g, k1, k2, k3⟩ := hx
      refine ⟨.func (.func f) #[] #[.pointer (some ⟨blk, g + b, none⟩)], w, ρ, ?_, .refl ρ, hr.putA o.dst ⟨l, blk, g, k1, k2, rfl⟩⟩
      have h1 : first = #[] := by rw [← Array.toArray_toList (xs := first), e1]
      have h2 : captured = #[x] := by rw [← Array.toArray_toList (xs := captured), e2]
      simp [execOp, ho, h1, h2, k3, Instr.makeFunc]
    · simp [T.val_fail] at h
  · simp [T.val_fail] at h

theorem step_sound {E : AE} (hE : E.Ok P) {nm : Nat} {o : Oper} (hr : Rel ρ B w0 st a w) (h : (step E nm o st).val = some st') : Fits P ρ B w0 st' o a w := by
  cases ho : o.op with
  | move x => exact (sound_move (.inl ho) hr h).fits
  | assign x => exact (sound_move (.inr ho) hr h).fits
  | pick c x y => exact (sound_pick ho hr h).fits
  | alloc t => exact (sound_alloc hE.ty ho hr h).fits
  | box t x => exact (sound_box ho hr h).fits
  | build t ps => exact (sound_build hE.ty ho hr h).fits
  | buildSlice t n ps => exact (sound_buildSlice hE.ty ho hr h).fits
  | load t x => exact (sound_load hE.ty ho hr h).fits
  | store t p x =>
    obtain ⟨w', ρ', h1, h2, h3⟩ := sound_store hE.ty ho hr h
    exact fun K Q hK => wp_skip h1 (hK _ w' ρ' h2 h3)
  | nilCheck x => exact (sound_nilCheck ho hr h).fits
  | binOp op t x y yt => exact (sound_binOp hE.ty ho hr h).fits
  | unOp op t x => exact (sound_unOp ho hr h).fits
  | convert s t x => exact (sound_convert hE.ty ho hr h).fits
  | makeSlice t x y => exact (sound_makeSlice hE.ty ho hr h).fits
  | slice t x lo hi mx =>
    cases mx with
    | none => exact (sound_slice hE.ty ho hr h).fits
    | some m => simp [step, ho, T.val_fail] at h
  | fieldAddr t x f => exact (sound_fieldAddr hE.ty ho hr h).fits
  | field t x f => exact (sound_field hE.ty ho hr h).fits
  | indexAddr t x ix => exact (sound_indexAddr hE.ty ho hr h).fits
  | index t x ix => exact (sound_index hE.ty ho hr h).fits
  | extract x j => exact (sound_extract ho hr h).fits
  | makeFunc fv first captured =>
    cases fv with
    | func f => exact (sound_makeFunc ho hr h).fits
    | _ => simp [step, ho, T.val_fail] at h
  | call c =>
    obtain ⟨callee, args, ats⟩ := c
    cases callee with
    | value f =>
      cases f with
      | func f => exact sound_call hE ho hr h
      | tmp t => exact sound_callv hE ho hr h
      | _ => simp [step, ho, T.val_fail] at h
    | invoke r m => simp [step, ho, T.val_fail] at h
    | builtin b =>
      cases b with
      | len => exact (sound_len hE.ty ho hr h).fits
      | append => exact (sound_append hE.ty ho hr h).fits
      | max => exact (sound_minmax (mx := true) rfl ho hr h).fits
      | min => exact (sound_minmax (mx := false) rfl ho hr h).fits
      | _ => simp [step, ho, T.val_fail] at h
  | _ => simp [step, ho, T.val_fail] at h
end
end Go.Ax
