/- A part of the proof: Ax16. -/
import Derived.Test.YtnokmgclkediiaaAx15
/-! ### Regions, in the order of the text and in any other -/
namespace Go.Ax
open Go.RowKit

variable {P : Program}

def boolOf : Option TV → Option Bool
  | some (.one (.sc (.known b))) => some b
  | some (.one (.sc (.bool p d))) => some (@decide p d)
  | _ => none
def isUndef : Option TV → Bool
  | some (.tup []) => true
  | _ => false
/-- An operation, under its guard. -/
def opV0 (E : AE) (ops : Array Oper) (nm : Nat) (o : Oper) (st : St) : Option St :=
  match o.guard with
  | none => (step E nm o st).val
  | some (j, want) => match (ops[j]?).bind (·.dst) with
    | none => none
    | some d => match isUndef st.tmps[d]? with
      | true => some (st.put o.dst (.tup []))
      | false => match boolOf st.tmps[d]? with
        | some b => if b = want then (step E nm o st).val else some (st.put o.dst (.tup []))
        | none => none
/-- .. at the object that was foretold. -/
def opV (E : AE) (ops : Array Oper) (ft : Option Nat) (nm : Nat) (o : Oper) (st : St) : Option St :=
  match footOk ft o st with
  | true => opV0 E ops nm o st
  | false => none
theorem opV_iff {E : AE} {ops : Array Oper} {ft : Option Nat} {nm : Nat} {o : Oper} {st s : St} : opV E ops ft nm o st = some s ↔ footOk ft o st = true ∧ opV0 E ops nm o st = some s := by
  unfold opV
  split
  · rename_i h; simp [h]
  · rename_i h; simp [h]

section
variable {ρ : Env} {B : Nat} {w0 : World} {st st' : St} {a : Act} {w : World} {nm : Nat} {o : Oper} {ops : Array Oper}

theorem boolOf_rel (hr : Rel ρ B w0 st a w) {d : Nat} {b : Bool} (h : boolOf st.tmps[d]? = some b) : a.tmps[d]? = some (.bool b) := by
  cases e : st.tmps[d]? with
  | none => rw [e] at h; cases h
  | some v =>
    have hv := hr.tm d v e
    have hlt : d < a.tmps.size := by rw [hr.len]; exact (List.getElem?_eq_some_iff.1 e).1
    rw [e] at h
    have key : a.tmps.getD d undef = .bool b := by
      cases v with
      | tup l => cases h
      | one v =>
        cases v with
        | any => cases h
        | agg l => cases h
        | sc v =>
          cases v <;> simp only [boolOf] at h <;> first | (cases h; done) | (cases h; exact hv)
    rw [Array.getD_eq_getD_getElem?] at key
    simp only [Array.getElem?_eq_getElem hlt, Option.getD_some] at key ⊢
    rw [key]

theorem isUndef_rel (hr : Rel ρ B w0 st a w) {d : Nat} (h : isUndef st.tmps[d]? = true) : a.tmps[d]? = some (.tuple #[]) := by
  cases e : st.tmps[d]? with
  | none => rw [e] at h; cases h
  | some v =>
    have hv := hr.tm d v e
    have hlt : d < a.tmps.size := by rw [hr.len]; exact (List.getElem?_eq_some_iff.1 e).1
    rw [e] at h
    cases v with
    | one v => cases h
    | tup l =>
      cases l with
      | cons x l => cases h
      | nil =>
        obtain ⟨vs, h1, h2⟩ := hv
        cases h2
        rw [Array.getD_eq_getD_getElem?] at h1
        simp only [Array.getElem?_eq_getElem hlt, Option.getD_some] at h1 ⊢
        rw [h1]

theorem opV0_sound {E : AE} (hE : E.Ok P) (hr : Rel ρ B w0 st a w) (h : opV0 E ops nm o st = some st') (K : Act → World → Prop) (Q : Exit → Act → World → Prop) (hK : ∀ a' w' ρ', Rel ρ' B w0 st' a' w' → K a' w') :
    if Region.wanted o (yielded ops a.tmps) then o.wp P a w K Q else K (a.put o.dst undef) w := by
  unfold opV0 at h
  split at h
  · rename_i hg
    rw [if_pos (by simp [Region.wanted, hg])]
    exact step_sound hE hr h K Q fun v w' ρ' _ h2 => hK _ _ _ h2
  · rename_i j want hg
    split at h
    · cases h
    · rename_i d hd
      split at h
      · rename_i hu
        have hy : yielded ops a.tmps j = none := by
          unfold yielded
          rw [hd]
          simp only [Option.bind_some, isUndef_rel hr hu]
        rw [if_neg (by simp [Region.wanted, hg, hy])]
        cases h
        exact hK _ _ ρ (hr.put o.dst (v := .tup []) ⟨[], rfl, rfl⟩)
      split at h
      · rename_i b hb
        have hy : yielded ops a.tmps j = some b := by
          unfold yielded
          rw [hd]
          simp only [Option.bind_some, boolOf_rel hr hb]
        split at h
        · rename_i e
          rw [if_pos (by simp [Region.wanted, hg, hy, e])]
          exact step_sound hE hr h K Q fun v w' ρ' _ h2 => hK _ _ _ h2
        · rename_i e
          rw [if_neg (by simp [Region.wanted, hg, hy, e])]
          cases h
          exact hK _ _ ρ (hr.put o.dst (v := .tup []) ⟨[], rfl, rfl⟩)
      · cases h

theorem opV_sound {E : AE} {ft : Option Nat} (hE : E.Ok P) (hr : Rel ρ B w0 st a w) (h : opV E ops ft nm o st = some st') (K : Act → World → Prop) (Q : Exit → Act → World → Prop) (hK : ∀ a' w' ρ', Rel ρ' B w0 st' a' w' → K a' w') :
    if Region.wanted o (yielded ops a.tmps) then o.wp P a w K Q else K (a.put o.dst undef) w := opV0_sound hE hr (opV_iff.1 h).2 K Q hK

/-! #### The order of the text -/
def runV (E : AE) (ops : Array Oper) (fts : List (Option Nat)) : List Oper → Nat → Nat → St → Option St
  | [], _, _, st => some st
  | o :: r, k, nm, st => (opV E ops (fts.getD k none) nm o st).bind (runV E ops fts r (k + 1) (nm + need E o))

theorem runV_sound {E : AE} {fts : List (Option Nat)} (hE : E.Ok P) {Q : Exit → Act → World → Prop} : ∀ {l : List Oper} {k nm : Nat} {ρ : Env} {st st' : St} {a : Act} {w : World}, Rel ρ B w0 st a w → runV E ops fts l k nm st = some st' → (∀ a' w' ρ', Rel ρ' B w0 st' a' w' → Q .normal a' w') → wpList P ops Q l a w
  | [], k, nm, ρ, st, st', a, w, hr, h, hQ => by cases h; exact hQ _ _ _ hr
  | o :: r, k, nm, ρ, st, st', a, w, hr, h, hQ => by
    simp only [runV, Option.bind_eq_some_iff] at h
    obtain ⟨s1, h1, h2⟩ := h
    have := opV_sound hE hr h1 (wpList P ops Q r) Q fun a' w' ρ' hr' => runV_sound hE hr' h2 hQ
    unfold wpList
    split
    · rename_i hw; rw [if_pos hw] at this; exact .inl this
    · rename_i hw; rw [if_neg hw] at this; exact this

/-! #### What an operation adds -/
structure Eff where
  nm : Nat
  news : List Ob
  dst : Option Tmp
  v : TV
def setAll : List Slot → Nat → List Ob → List Slot
  | m, _, [] => m
  | m, nm, b :: r => setAll (m.set nm (.live b)) (nm + 1) r
def app (s : St) (e : Eff) : St := St.put { s with mem := setAll s.mem e.nm e.news } e.dst e.v
def FreeAt (m : List Slot) (nm : Nat) (n : Nat) : Prop := ∀ k, k < n → m[nm + k]? = some .free

theorem setAll_get : ∀ {r : List Ob} {m : List Slot} {nm i : Nat}, FreeAt m nm r.length → (setAll m nm r)[i]? = if nm ≤ i ∧ i < nm + r.length then (r[i - nm]?).map Slot.live else m[i]?
  | [], m, nm, i, _ => by
    rw [if_neg (by simp)]; rfl
  | b :: r, m, nm, i, hf => by
    have h0 := hf 0 (by simp)
    simp only [Nat.add_zero] at h0
    have hlt := (List.getElem?_eq_some_iff.1 h0).1
    have hf' : FreeAt (m.set nm (.live b)) (nm + 1) r.length := by
      intro k hk
      rw [List.getElem?_set_ne (by omega)]
      have := hf (k + 1) (by simp; omega)
      rwa [show nm + (k + 1) = nm + 1 + k by omega] at this
    simp only [setAll]
    rw [setAll_get hf']
    by_cases h1 : nm + 1 ≤ i ∧ i < nm + 1 + r.length
    · rw [if_pos h1, if_pos (by simp; omega), show i - nm = (i - (nm + 1)) + 1 by omega]
      rfl
    · rw [if_neg h1]
      by_cases h2 : i = nm
      · subst h2
        rw [List.getElem?_set_self hlt, if_pos (by simp)]
        simp
      · rw [List.getElem?_set_ne (Ne.symm h2), if_neg (by simp; omega)]
theorem setAll_length : ∀ {r : List Ob} {m : List Slot} {nm : Nat}, (setAll m nm r).length = m.length
  | [], _, _ => rfl
  | _ :: r, m, nm => by simp [setAll, setAll_length (r := r)]

theorem newAll_iff : ∀ {r : List Ob} {s s' : St} {nm : Nat}, s.newAll nm r = some s' ↔ FreeAt s.mem nm r.length ∧ s' = { s with mem := setAll s.mem nm r }
  | [], s, s', nm => by
    simp only [St.newAll, setAll]
    constructor
    · intro h; cases h; exact ⟨fun k hk => by simp at hk, rfl⟩
    · rintro ⟨_, rfl⟩; rfl
  | b :: r, s, s', nm => by
    simp only [St.newAll]
    by_cases hf : s.mem[nm]? = some .free
    · have hn : s.new nm b = some { s with mem := s.mem.set nm (.live b) } := by unfold St.new; rw [hf]
      rw [hn]
      simp only [newAll_iff (r := r), setAll]
      constructor
      · rintro ⟨h1, rfl⟩
        refine ⟨fun k hk => ?_, rfl⟩
        cases k with
        | zero => simpa using hf
        | succ k =>
          have := h1 k (by simpa using hk)
          rw [List.getElem?_set_ne (by omega)] at this
          rwa [show nm + (k + 1) = nm + 1 + k by omega]
      · rintro ⟨h1, rfl⟩
        refine ⟨fun k hk => ?_, rfl⟩
        rw [List.getElem?_set_ne (by omega)]
        have := h1 (k + 1) (by simpa using hk)
        rwa [show nm + (k + 1) = nm + 1 + k by omega] at this
    · have hn : s.new nm b = none := by
        unfold St.new
        split
        · rename_i h; exact absurd h hf
        · rfl
      rw [hn]
      simp only [reduceCtorEq, false_iff, not_and]
      intro h1
      exact absurd (by simpa using h1 0 (by simp)) hf

/-- What the operation looks at, and where. -/
structure Sees (ops : Array Oper) (o : Oper) (Kn : Nat → Prop) (s s2 : St) : Prop where
  get : ∀ x ∈ o.op.operands, s2.get x = s.get x
  guard : ∀ j want d, o.guard = some (j, want) → (ops[j]?).bind (·.dst) = some d → s2.tmps[d]? = s.tmps[d]?
  kn : ∀ x ∈ o.op.operands, (s.get x).kn Kn
  agree : Agree Kn s s2

theorem does_of0 {E : AE} {Kn : Nat → Prop} {s s1 s2 : St} (hs : Sees ops o Kn s s2) (hw : wrOp o.op = false) (h : opV0 E ops nm o s = some s1) :
    ∃ e : Eff, s1 = app s e ∧ FreeAt s.mem e.nm e.news.length ∧ e.dst = o.dst ∧ e.nm = nm ∧ (FreeAt s2.mem e.nm e.news.length → opV0 E ops nm o s2 = some (app s2 e)) := by
  have hm := step_moves (E := E) (nm := nm) hs.agree hs.kn hs.get hw
  have main : (step E nm o s).val = some s1 → ∃ e : Eff, s1 = app s e ∧ FreeAt s.mem e.nm e.news.length ∧ e.dst = o.dst ∧ e.nm = nm ∧ (FreeAt s2.mem e.nm e.news.length → (step E nm o s2).val = some (app s2 e)) := by
    intro h1
    obtain ⟨v, news, st1, g1, rfl, g3⟩ := hm s1 h1
    obtain ⟨f1, rfl⟩ := newAll_iff.1 g1
    exact ⟨⟨nm, news, o.dst, v⟩, rfl, f1, rfl, rfl, fun f2 => g3 _ (newAll_iff.2 ⟨f2, rfl⟩)⟩
  unfold opV0 at h ⊢
  split at h
  · rename_i hg
    exact main h
  · rename_i j want hg
    split at h
    · cases h
    · rename_i d hd
      rw [hs.guard j want d hg hd]
      split at h
      · cases h
        exact ⟨⟨nm, [], o.dst, .tup []⟩, rfl, fun k hk => by simp at hk, rfl, rfl, fun _ => rfl⟩
      split at h
      · rename_i b hb
        split at h
        · rename_i e
          simp only [e, if_true]
          exact main h
        · rename_i e
          simp only [e, if_false]
          cases h
          exact ⟨⟨nm, [], o.dst, .tup []⟩, rfl, fun k hk => by simp at hk, rfl, rfl, fun _ => rfl⟩
      · cases h

theorem footOk_same {ft : Option Nat} {s s2 : St} (hget : ∀ x ∈ o.op.operands, s2.get x = s.get x) : footOk ft o s2 = footOk ft o s := by
  unfold footOk
  cases ft with
  | none => rfl
  | some n =>
    cases o.guard with
    | some g => rfl
    | none =>
      cases ho : o.op <;> simp only [memAddr]
      all_goals (rw [ho] at hget; simp only [Op.operands] at hget; rw [hget _ (by simp)])
theorem does_of {E : AE} {ft : Option Nat} {Kn : Nat → Prop} {s s1 s2 : St} (hs : Sees ops o Kn s s2) (hw : wrOp o.op = false) (h : opV E ops ft nm o s = some s1) :
    ∃ e : Eff, s1 = app s e ∧ FreeAt s.mem e.nm e.news.length ∧ e.dst = o.dst ∧ e.nm = nm ∧ (FreeAt s2.mem e.nm e.news.length → opV E ops ft nm o s2 = some (app s2 e)) := by
  obtain ⟨h1, h2⟩ := opV_iff.1 h
  obtain ⟨e, g1, g2, g3, g4, g5⟩ := does_of0 hs hw h2
  exact ⟨e, g1, g2, g3, g4, fun hf => opV_iff.2 ⟨by rw [footOk_same hs.get]; exact h1, g5 hf⟩⟩

/-- From A to B only new names came, and only the slots D were written. -/
structure Grew (D : List Tmp) (A C : St) : Prop where
  tmps : ∀ t : Nat, t ∉ D → C.tmps[t]? = A.tmps[t]?
  keep : ∀ i : Nat, A.mem[i]? ≠ some Slot.free → C.mem[i]? = A.mem[i]?
  free : ∀ i : Nat, C.mem[i]? = some Slot.free → A.mem[i]? = some Slot.free

theorem Grew.refl (A : St) : Grew [] A A := ⟨fun _ _ => rfl, fun _ _ => rfl, fun _ h => h⟩
theorem Grew.trans {D D' : List Tmp} {A C F : St} (h : Grew D A C) (k : Grew D' C F) : Grew (D ++ D') A F := by
  refine ⟨fun t ht => ?_, fun i hi => ?_, fun i hi => h.free i (k.free i hi)⟩
  · rw [k.tmps t (fun h => ht (by simp [h])), h.tmps t (fun h => ht (by simp [h]))]
  · have := h.keep i hi
    rw [k.keep i (by rw [this]; exact hi), this]
theorem Grew.app (s : St) (e : Eff) (hf : FreeAt s.mem e.nm e.news.length) : Grew e.dst.toList s (app s e) := by
  refine ⟨fun t ht => ?_, fun i hi => ?_, fun i hi => ?_⟩
  · unfold Ax.app St.put
    cases hd : e.dst with
    | none => rfl
    | some d =>
      rw [hd] at ht
      simp only [Option.toList_some, List.mem_singleton] at ht
      exact List.getElem?_set_ne (Ne.symm ht)
  · have hm : (Ax.app s e).mem = setAll s.mem e.nm e.news := by unfold Ax.app St.put; cases e.dst <;> rfl
    rw [hm, setAll_get hf]
    split
    · rename_i h
      have := hf (i - e.nm) (by omega)
      rw [show e.nm + (i - e.nm) = i by omega] at this
      exact absurd this hi
    · rfl
  · have hm : (Ax.app s e).mem = setAll s.mem e.nm e.news := by unfold Ax.app St.put; cases e.dst <;> rfl
    rw [hm, setAll_get hf] at hi
    split at hi
    · rename_i h
      rw [List.getElem?_eq_getElem (show i - e.nm < e.news.length by omega)] at hi
      cases hi
    · exact hi

theorem app_mem (s : St) (e : Eff) : (app s e).mem = setAll s.mem e.nm e.news := by unfold app St.put; cases e.dst <;> rfl

/-- Two effects at places apart commute. -/
theorem app_comm {s : St} {e f : Eff} (he : FreeAt s.mem e.nm e.news.length) (hf : FreeAt s.mem f.nm f.news.length) (hfe : FreeAt (app s e).mem f.nm f.news.length) (hd : ∀ d, e.dst = some d → f.dst ≠ some d) : FreeAt (app s f).mem e.nm e.news.length ∧ app (app s f) e = app (app s e) f := by
  have hap : ∀ i, e.nm ≤ i → i < e.nm + e.news.length → f.nm ≤ i → i < f.nm + f.news.length → False := by
    intro i h1 h2 h3 h4
    have := hfe (i - f.nm) (by omega)
    rw [show f.nm + (i - f.nm) = i by omega, app_mem, setAll_get he, if_pos ⟨h1, h2⟩, List.getElem?_eq_getElem (show i - e.nm < e.news.length by omega)] at this
    cases this
  have hef : FreeAt (app s f).mem e.nm e.news.length := by
    intro k hk
    rw [app_mem, setAll_get hf]
    split
    · rename_i h
      exact (hap (e.nm + k) (by omega) (by omega) h.1 h.2).elim
    · exact he k hk
  refine ⟨hef, ?_⟩
  have hmem : (app (app s f) e).mem = (app (app s e) f).mem := by
    apply List.ext_getElem?
    intro i
    rw [app_mem (app s f), app_mem (app s e), setAll_get hef, setAll_get hfe, app_mem, app_mem, setAll_get he, setAll_get hf]
    split
    · rename_i h
      split
      · rename_i h'
        exact (hap i h.1 h.2 h'.1 h'.2).elim
      · rfl
    · rfl
  have htm : (app (app s f) e).tmps = (app (app s e) f).tmps := by
    unfold app St.put
    cases h1 : e.dst with
    | none => cases f.dst <;> rfl
    | some d =>
      cases h2 : f.dst with
      | none => rfl
      | some d' =>
        have := hd d h1
        rw [h2] at this
        simp only
        rw [List.set_comm]
        intro e; subst e; exact this rfl
  cases h1 : app (app s f) e
  cases h2 : app (app s e) f
  rw [h1, h2] at hmem htm
  simp only at hmem htm
  subst hmem htm
  rfl
end
end Go.Ax
