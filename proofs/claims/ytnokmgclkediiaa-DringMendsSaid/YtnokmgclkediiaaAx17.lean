/- A part of the proof: Ax17. -/
import Derived.Test.YtnokmgclkediiaaAx16r
/-! ### A region that draws its order -/
namespace Go.Ax
open Go.RowKit

variable {P : Program}

def runI (E : AE) (ops : Array Oper) (fts : List (Option Nat)) (nmOf : Nat → Nat) : List Nat → St → Option St
  | [], s => some s
  | i :: r, s => match ops[i]? with
    | some o => (opV E ops (fts.getD i none) (nmOf i) o s).bind (runI E ops fts nmOf r)
    | none => none

section
variable {ρ : Env} {B : Nat} {w0 : World} {a : Act} {w : World} {ops : Array Oper} {E : AE} {fts : List (Option Nat)} {nmOf : Nat → Nat}

theorem runI_append {l1 l2 : List Nat} : ∀ {s : St}, runI E ops fts nmOf (l1 ++ l2) s = (runI E ops fts nmOf l1 s).bind (runI E ops fts nmOf l2) := by
  induction l1 with
  | nil => intro s; rfl
  | cons i r ih =>
    intro s
    simp only [List.cons_append, runI]
    cases ops[i]? with
    | none => rfl
    | some o =>
      simp only
      cases opV E ops (fts.getD i none) (nmOf i) o s with
      | none => rfl
      | some s1 => exact ih

theorem get_eq_of {s s2 : St} {x : Operand} (h : ∀ t, x = .tmp t → s2.tmps[t]? = s.tmps[t]?) : s2.get x = s.get x := by
  cases x with
  | tmp t => simp only [St.get, List.getD, h t rfl]
  | _ => rfl

theorem looks_operand {o : Oper} {t : Tmp} (h : Operand.tmp t ∈ o.op.operands) : t ∈ o.looksAt ops :=
  List.mem_append_left _ (List.mem_filterMap.2 ⟨.tmp t, by simpa using h, rfl⟩)
theorem looks_guard {o : Oper} {j : Nat} {want : Bool} {d : Tmp} (h : o.guard = some (j, want)) (hd : (ops[j]?).bind (·.dst) = some d) : d ∈ o.looksAt ops := by
  refine List.mem_append_right _ ?_
  simp [h, hd]

/-- The chain of operations that write nothing old. -/
theorem chain_grew : ∀ {L : List Nat} {A C : St}, (∀ j ∈ L, ∀ o, ops[j]? = some o → wrOp o.op = false) → runI E ops fts nmOf L A = some C →
    ∃ D : List Tmp, Grew D A C ∧ ∀ t ∈ D, ∃ j ∈ L, ∃ o, ops[j]? = some o ∧ o.dst = some t
  | [], A, C, _, h => by cases h; exact ⟨[], Grew.refl A, fun t ht => by simp at ht⟩
  | i :: r, A, C, hw, h => by
    simp only [runI] at h
    cases ho : ops[i]? with
    | none => rw [ho] at h; cases h
    | some o =>
      rw [ho] at h
      simp only [Option.bind_eq_some_iff] at h
      obtain ⟨A1, h1, h2⟩ := h
      obtain ⟨e, rfl, hf, hd, _⟩ := does_of (sees_refl o A) (hw i (by simp) o ho) h1
      obtain ⟨D, g1, g2⟩ := chain_grew (fun j hj => hw j (by simp [hj])) h2
      refine ⟨e.dst.toList ++ D, (Grew.app A e hf).trans g1, fun t ht => ?_⟩
      rcases List.mem_append.1 ht with ht | ht
      · refine ⟨i, by simp, o, ho, ?_⟩
        rw [← hd]
        cases he : e.dst with
        | none => rw [he] at ht; simp at ht
        | some d => rw [he] at ht; simp at ht; rw [ht]
      · obtain ⟨j, hj, o', ho', hd'⟩ := g2 t ht
        exact ⟨j, by simp [hj], o', ho', hd'⟩

theorem FreeAt.back {D : List Tmp} {A C : St} (h : Grew D A C) {nm n : Nat} (hf : FreeAt C.mem nm n) : FreeAt A.mem nm n := fun k hk => h.free _ (hf k hk)

theorem push {o : Oper} {e : Eff} (he : e.dst = o.dst) : ∀ {L : List Nat} {A C : St}, (∀ j ∈ L, ∀ oj, ops[j]? = some oj → wrOp oj.op = false ∧ oj.apart ops o = true) → runI E ops fts nmOf L A = some C → FreeAt C.mem e.nm e.news.length →
    runI E ops fts nmOf L (app A e) = some (app C e)
  | [], A, C, _, h, _ => by cases h; rfl
  | j :: r, A, C, hL, h, hf => by
    have hLr : ∀ j ∈ r, ∀ oj, ops[j]? = some oj → wrOp oj.op = false ∧ oj.apart ops o = true := fun i hi => hL i (by simp [hi])
    simp only [runI] at h ⊢
    cases ho : ops[j]? with
    | none => rw [ho] at h; cases h
    | some oj =>
      rw [ho] at h
      simp only [Option.bind_eq_some_iff] at h ⊢
      obtain ⟨A1, h1, h2⟩ := h
      obtain ⟨hwj, hap⟩ := hL j (by simp) oj ho
      obtain ⟨_, ha2, ha3⟩ := Oper.apart_spec hap
      obtain ⟨D, g1, _⟩ := chain_grew (fun i hi o' ho' => (hLr i hi o' ho').1) h2
      have hfA1 : FreeAt A1.mem e.nm e.news.length := hf.back g1
      obtain ⟨e0, q1, q2, _, _⟩ := does_of (sees_refl oj A) hwj h1
      have hfA : FreeAt A.mem e.nm e.news.length := by rw [q1] at hfA1; exact hfA1.back (Grew.app A e0 q2)
      have hgr := Grew.app A e hfA
      have hsees : Sees ops oj (fun _ => True) A (app A e) := by
        have ht : ∀ t, t ∈ oj.looksAt ops → (app A e).tmps[t]? = A.tmps[t]? := by
          intro t htl
          refine hgr.tmps t fun hm => ?_
          rw [he] at hm
          cases hd : o.dst with
          | none => rw [hd] at hm; simp at hm
          | some d => rw [hd] at hm; simp at hm; subst hm; exact ha3 t hd htl
        refine ⟨fun x hx => get_eq_of fun t e => ht t (looks_operand (by rw [← e]; exact hx)), fun i want d hg hd => ht d (looks_guard hg hd), (sees_refl (ops := ops) oj A).kn, ⟨fun n b _ hl => ?_, fun _ _ _ _ _ _ _ _ => trivial⟩⟩
        have hl' := look_live hl
        have := hgr.keep n (by rw [hl']; simp)
        unfold St.look
        rw [this, hl']
      obtain ⟨ej, rfl, f1, f2, _, f4⟩ := does_of hsees hwj h1
      obtain ⟨c1, c2⟩ := app_comm f1 hfA hfA1 (fun d hd => by rw [f2] at hd; rw [he]; exact ha2 d hd)
      refine ⟨app (app A e) ej, f4 c1, ?_⟩
      rw [c2]
      exact push he hLr h2 hf

theorem kn_of_rel {v : TV} {x : Value} (h : TV.rel ρ v x) : v.kn fun n => ∃ l, ρ n = some l := by
  cases v with
  | tup l => trivial
  | one v =>
    cases v with
    | any => trivial
    | agg l => trivial
    | sc y =>
      intro o ho
      have h' : A1.rel ρ y x := h
      cases y <;> simp only [A1.name?] at ho <;> first | (cases ho; done) | skip
      · cases ho; obtain ⟨l, _, _, h, _⟩ := h'; exact ⟨l, h⟩
      · cases ho; obtain ⟨l, h, _⟩ := h'; exact ⟨l, h⟩
      · cases ho; obtain ⟨l, _, _, h, _⟩ := h'; exact ⟨l, h⟩
      · cases ho; obtain ⟨l, _, _, h, _⟩ := h'; exact ⟨l, h⟩
      · cases ho; obtain ⟨l, _, _, h, _⟩ := h'; exact ⟨l, h⟩
      · cases ho; obtain ⟨l, _, _, h, _⟩ := h'; exact ⟨l, h⟩

theorem segs_rel_kn : ∀ {l : List Seg} {C : List Value}, segRel ρ l C → ∀ x, Seg.one x ∈ l → x.kn fun n => ∃ l, ρ n = some l
  | [], _, _, x, hx => by simp at hx
  | .xs _ _ _ :: r, _, ⟨_, _, _, h⟩, x, hx => by
    simp only [List.mem_cons, reduceCtorEq, false_or] at hx
    exact segs_rel_kn h x hx
  | .one y :: r, _, ⟨c, _, _, h2, h3⟩, x, hx => by
    simp only [List.mem_cons, Seg.one.injEq] at hx
    rcases hx with rfl | hx
    · exact kn_of_rel (v := .one (.sc x)) h2
    · exact segs_rel_kn h3 x hx

/-- A later operation that nothing holds back comes first. -/
theorem front {o : Oper} {i : Nat} (ho : ops[i]? = some o) (hw : wrOp o.op = false) {L R : List Nat} (hL : ∀ j ∈ L, ∀ oj, ops[j]? = some oj → wrOp oj.op = false ∧ oj.apart ops o = true) {A F : St} (hr : Rel ρ B w0 A a w)
    (h : runI E ops fts nmOf (L ++ i :: R) A = some F) : ∃ A', opV E ops (fts.getD i none) (nmOf i) o A = some A' ∧ runI E ops fts nmOf (L ++ R) A' = some F := by
  rw [runI_append, Option.bind_eq_some_iff] at h
  obtain ⟨C, h1, h2⟩ := h
  simp only [runI, ho, Option.bind_eq_some_iff] at h2
  obtain ⟨C1, h2, h3⟩ := h2
  obtain ⟨D, g1, g2⟩ := chain_grew (fun j hj oj hoj => (hL j hj oj hoj).1) h1
  have ht : ∀ t, t ∈ o.looksAt ops → A.tmps[t]? = C.tmps[t]? := by
    intro t htl
    refine (g1.tmps t fun hm => ?_).symm
    obtain ⟨j, hj, oj, hoj, hd⟩ := g2 t hm
    exact (Oper.apart_spec (hL j hj oj hoj).2).1 t hd htl
  have hget : ∀ x ∈ o.op.operands, A.get x = C.get x := fun x hx => get_eq_of fun t e => ht t (looks_operand (by rw [← e]; exact hx))
  have hsees : Sees ops o (fun n => ∃ l, ρ n = some l) C A := by
    refine ⟨hget, fun j want d hg hd => ht d (looks_guard hg hd), fun x hx => by rw [← hget x hx]; exact kn_of_rel (hr.get x), ⟨fun n b ⟨l, hl⟩ hlk => ?_, fun n b _ hlk => ?_⟩⟩
    · have hk := g1.keep n (fun hf => by rw [hr.m.free n (.inr hf)] at hl; cases hl)
      unfold St.look at hlk ⊢
      rw [hk] at hlk
      exact hlk
    · obtain ⟨l, Cc, _, hs, _⟩ := hr.m.ob n b (look_live hlk)
      exact segs_rel_kn hs
  obtain ⟨e, rfl, f1, f2, _, f4⟩ := does_of hsees hw h2
  refine ⟨app A e, f4 (f1.back g1), ?_⟩
  rw [runI_append, push f2 hL h1 f1]
  exact h3

/-! #### Operations that look at slots alone -/
theorem opV0_reg {o : Oper} {nm : Nat} {s s1 s2 : St} (hr : regOp o.op = true) (hget : ∀ x ∈ o.op.operands, s2.get x = s.get x) (hguard : ∀ j want d, o.guard = some (j, want) → (ops[j]?).bind (·.dst) = some d → s2.tmps[d]? = s.tmps[d]?)
    (h : opV0 E ops nm o s = some s1) : ∃ v, s1 = s.put o.dst v ∧ opV0 E ops nm o s2 = some (s2.put o.dst v) := by
  have hm := step_reg (E := E) (nm := nm) hget hr
  unfold opV0 at h ⊢
  split at h
  · exact hm s1 h
  · rename_i j want hg
    split at h
    · cases h
    · rename_i d hd
      rw [hguard j want d hg hd]
      split at h
      · cases h
        exact ⟨_, rfl, rfl⟩
      split at h
      · rename_i b hb
        split at h
        · rename_i e
          simp only [e, if_true]
          exact hm s1 h
        · rename_i e
          simp only [e, if_false]
          cases h
          exact ⟨_, rfl, rfl⟩
      · cases h

theorem opV_reg {o : Oper} {ft : Option Nat} {nm : Nat} {s s1 s2 : St} (hr : regOp o.op = true) (hget : ∀ x ∈ o.op.operands, s2.get x = s.get x) (hguard : ∀ j want d, o.guard = some (j, want) → (ops[j]?).bind (·.dst) = some d → s2.tmps[d]? = s.tmps[d]?)
    (h : opV E ops ft nm o s = some s1) : ∃ v, s1 = s.put o.dst v ∧ opV E ops ft nm o s2 = some (s2.put o.dst v) := by
  obtain ⟨h1, h2⟩ := opV_iff.1 h
  obtain ⟨v, g1, g2⟩ := opV0_reg hr hget hguard h2
  exact ⟨v, g1, opV_iff.2 ⟨by rw [footOk_same hget]; exact h1, g2⟩⟩

theorem put_put {s : St} {d d' : Option Tmp} {u v : TV} (h : ∀ t, d = some t → d' ≠ some t) : (s.put d u).put d' v = (s.put d' v).put d u := by
  unfold St.put
  cases d with
  | none => cases d' <;> rfl
  | some t =>
    cases d' with
    | none => rfl
    | some t' =>
      simp only
      rw [List.set_comm]
      intro e; subst e; exact h t rfl rfl

theorem opV0_frame {o : Oper} {nm : Nat} {s : St} {d : Option Tmp} {u : TV} (hd1 : ∀ t, d = some t → t ∉ o.looksAt ops) (hd2 : ∀ t, d = some t → o.dst ≠ some t) (hw : wrOp o.op = true) :
    opV0 E ops nm o (s.put d u) = (opV0 E ops nm o s).map (·.put d u) := by
  have ht : ∀ t, t ∈ o.looksAt ops → (s.put d u).tmps[t]? = s.tmps[t]? := by
    intro t htl
    unfold St.put
    cases d with
    | none => rfl
    | some d => exact List.getElem?_set_ne (fun e => by subst e; exact hd1 _ rfl htl)
  have hget : ∀ x ∈ o.op.operands, (s.put d u).get x = s.get x := fun x hx => get_eq_of fun t e => ht t (looks_operand (by rw [← e]; exact hx))
  have hm := step_frame (E := E) (nm := nm) (o := o) (s := s) (d := d) (u := u) hget hd2 hw
  unfold opV0
  split
  · exact hm
  · rename_i j want hg
    cases hd : (ops[j]?).bind (·.dst) with
    | none => rfl
    | some t =>
      simp only
      rw [ht t (looks_guard hg hd)]
      split
      · simp only [Option.map_some, Option.some.injEq]
        exact put_put hd2
      split
      · split
        · exact hm
        · simp only [Option.map_some, Option.some.injEq]
          exact put_put hd2
      · rfl

theorem opV0_frame1 {o : Oper} {nm : Nat} {s s1 : St} {d : Option Tmp} {u : TV} (hd1 : ∀ t, d = some t → t ∉ o.looksAt ops) (hd2 : ∀ t, d = some t → o.dst ≠ some t) (h : opV0 E ops nm o s = some s1) :
    opV0 E ops nm o (s.put d u) = some (s1.put d u) := by
  cases hw : wrOp o.op with
  | true => rw [opV0_frame hd1 hd2 hw, h]; rfl
  | false =>
    have ht : ∀ t, t ∈ o.looksAt ops → (s.put d u).tmps[t]? = s.tmps[t]? := by
      intro t htl
      unfold St.put
      cases d with
      | none => rfl
      | some d => exact List.getElem?_set_ne (fun e => by subst e; exact hd1 _ rfl htl)
    have hmem : (s.put d u).mem = s.mem := by unfold St.put; cases d <;> rfl
    have hsees : Sees ops o (fun _ => True) s (s.put d u) := by
      refine ⟨fun x hx => get_eq_of fun t e => ht t (looks_operand (by rw [← e]; exact hx)), fun i want d hg hd => ht d (looks_guard hg hd), (sees_refl (ops := ops) o s).kn, ⟨fun n b _ hl => ?_, fun _ _ _ _ _ _ _ _ => trivial⟩⟩
      unfold St.look at hl ⊢
      rw [hmem]
      exact hl
    obtain ⟨e, rfl, f1, f2, _, f4⟩ := does_of0 hsees hw h
    rw [f4 (by rw [hmem]; exact f1)]
    unfold app
    rw [hmem, put_put (s := { s with mem := _ }) (d := e.dst) (fun t ht hh => by rw [f2] at ht; exact hd2 t hh ht)]
    cases d <;> rfl

theorem get_put_ne {o : Oper} {s : St} {d : Option Tmp} {u : TV} (hd1 : ∀ t, d = some t → t ∉ o.looksAt ops) : ∀ x ∈ o.op.operands, (s.put d u).get x = s.get x := by
  intro x hx
  refine get_eq_of fun t e => ?_
  have htl : t ∈ o.looksAt ops := looks_operand (by rw [← e]; exact hx)
  unfold St.put
  cases d with
  | none => rfl
  | some d => exact List.getElem?_set_ne (fun e => by subst e; exact hd1 _ rfl htl)
theorem opV_frame {o : Oper} {ft : Option Nat} {nm : Nat} {s : St} {d : Option Tmp} {u : TV} (hd1 : ∀ t, d = some t → t ∉ o.looksAt ops) (hd2 : ∀ t, d = some t → o.dst ≠ some t) (hw : wrOp o.op = true) :
    opV E ops ft nm o (s.put d u) = (opV E ops ft nm o s).map (·.put d u) := by
  unfold opV
  rw [footOk_same (get_put_ne hd1)]
  split
  · exact opV0_frame hd1 hd2 hw
  · rfl
theorem opV_frame1 {o : Oper} {ft : Option Nat} {nm : Nat} {s s1 : St} {d : Option Tmp} {u : TV} (hd1 : ∀ t, d = some t → t ∉ o.looksAt ops) (hd2 : ∀ t, d = some t → o.dst ≠ some t) (h : opV E ops ft nm o s = some s1) :
    opV E ops ft nm o (s.put d u) = some (s1.put d u) := by
  obtain ⟨h1, h2⟩ := opV_iff.1 h
  exact opV_iff.2 ⟨by rw [footOk_same (get_put_ne hd1)]; exact h1, opV0_frame1 hd1 hd2 h2⟩

theorem runI_frame {y : Option Tmp} {u : TV} : ∀ {L : List Nat} {A C : St}, (∀ j ∈ L, ∀ oj, ops[j]? = some oj → (∀ t, y = some t → t ∉ oj.looksAt ops) ∧ ∀ t, y = some t → oj.dst ≠ some t) → runI E ops fts nmOf L A = some C →
    runI E ops fts nmOf L (A.put y u) = some (C.put y u)
  | [], A, C, _, h => by cases h; rfl
  | j :: r, A, C, hL, h => by
    simp only [runI] at h ⊢
    cases ho : ops[j]? with
    | none => rw [ho] at h; cases h
    | some oj =>
      rw [ho] at h
      simp only [Option.bind_eq_some_iff] at h ⊢
      obtain ⟨A1, h1, h2⟩ := h
      obtain ⟨k1, k2⟩ := hL j (by simp) oj ho
      exact ⟨_, opV_frame1 k1 k2 h1, runI_frame (fun i hi => hL i (by simp [hi])) h2⟩

theorem chain_tmps : ∀ {L : List Nat} {A C : St} {t : Nat}, (∀ j ∈ L, ∀ oj, ops[j]? = some oj → oj.dst ≠ some t) → runI E ops fts nmOf L A = some C → C.tmps[t]? = A.tmps[t]?
  | [], A, C, _, _, h => by cases h; rfl
  | j :: r, A, C, t, hL, h => by
    simp only [runI] at h
    cases ho : ops[j]? with
    | none => rw [ho] at h; cases h
    | some oj =>
      rw [ho] at h
      simp only [Option.bind_eq_some_iff] at h
      obtain ⟨A1, h1, h2⟩ := h
      rw [chain_tmps (fun i hi => hL i (by simp [hi])) h2, opV_tmps h1 (hL j (by simp) oj ho)]

theorem front_reg {o : Oper} {i : Nat} (ho : ops[i]? = some o) (hw : regOp o.op = true) {L R : List Nat} (hL : ∀ j ∈ L, ∀ oj, ops[j]? = some oj → oj.apart ops o = true) {A F : St}
    (h : runI E ops fts nmOf (L ++ i :: R) A = some F) : ∃ A', opV E ops (fts.getD i none) (nmOf i) o A = some A' ∧ runI E ops fts nmOf (L ++ R) A' = some F := by
  rw [runI_append, Option.bind_eq_some_iff] at h
  obtain ⟨C, h1, h2⟩ := h
  simp only [runI, ho, Option.bind_eq_some_iff] at h2
  obtain ⟨C1, h2, h3⟩ := h2
  have ht : ∀ t, t ∈ o.looksAt ops → A.tmps[t]? = C.tmps[t]? := fun t htl => (chain_tmps (fun j hj oj hoj hd => (Oper.apart_spec (hL j hj oj hoj)).1 t hd htl) h1).symm
  obtain ⟨v, rfl, g⟩ := opV_reg hw (s2 := A) (fun x hx => get_eq_of fun t e => ht t (looks_operand (by rw [← e]; exact hx))) (fun j want d hg hd => ht d (looks_guard hg hd)) h2
  refine ⟨_, g, ?_⟩
  rw [runI_append, runI_frame (fun j hj oj hoj => ?_) h1]
  · exact h3
  · obtain ⟨_, a2, a3⟩ := Oper.apart_spec (hL j hj oj hoj)
    exact ⟨fun t ht => a3 t ht, fun t ht hd => a2 t hd ht⟩

theorem front_wr {o : Oper} {i : Nat} (ho : ops[i]? = some o) (hw : wrOp o.op = true) {R : List Nat} : ∀ {L : List Nat} {A F : St}, (∀ j ∈ L, ∀ oj, ops[j]? = some oj → oj.apart ops o = true ∧ regOp oj.op = true) →
    runI E ops fts nmOf (L ++ i :: R) A = some F → ∃ A', opV E ops (fts.getD i none) (nmOf i) o A = some A' ∧ runI E ops fts nmOf (L ++ R) A' = some F
  | [], A, F, _, h => by
    simp only [List.nil_append, runI, ho, Option.bind_eq_some_iff] at h
    exact h
  | j :: r, A, F, hL, h => by
    simp only [List.cons_append, runI] at h
    cases hoj : ops[j]? with
    | none => rw [hoj] at h; cases h
    | some oj =>
      rw [hoj] at h
      simp only [Option.bind_eq_some_iff] at h
      obtain ⟨A1, h1, h2⟩ := h
      obtain ⟨hap, hrg⟩ := hL j (by simp) oj hoj
      obtain ⟨a1, a2, a3⟩ := Oper.apart_spec hap
      obtain ⟨A1', g1, g2⟩ := front_wr ho hw (fun k hk => hL k (by simp [hk])) h2
      obtain ⟨v, hv, _⟩ := opV_reg hrg (s2 := A) (fun _ _ => rfl) (fun _ _ _ _ _ => rfl) h1
      subst hv
      rw [opV_frame (fun t ht => a1 t ht) (fun t ht hd => a2 t ht hd) hw, Option.map_eq_some_iff] at g1
      obtain ⟨A', k1, rfl⟩ := g1
      refine ⟨A', k1, ?_⟩
      have ht : ∀ t, t ∈ oj.looksAt ops → A'.tmps[t]? = A.tmps[t]? := fun t htl => opV_tmps k1 (fun hd => a3 t hd htl)
      obtain ⟨v', e1, e2⟩ := opV_reg hrg (s2 := A') (fun x hx => get_eq_of fun t e => ht t (looks_operand (by rw [← e]; exact hx))) (fun j want d hg hd => ht d (looks_guard hg hd)) h1
      simp only [List.cons_append, runI, hoj]
      rw [e2]
      have : A'.put oj.dst v' = A'.put oj.dst v := by
        cases hdst : oj.dst with
        | none => rfl
        | some d =>
          rw [hdst] at e1
          simp only [St.put, St.mk.injEq, and_true] at e1 ⊢
          have hA' : A'.tmps[d]? = A.tmps[d]? := opV_tmps k1 (a2 d hdst)
          by_cases hd : d < A.tmps.length
          · have := congrArg (fun l => l[d]?) e1
            simp only [List.getElem?_set_self hd, Option.some.injEq] at this
            rw [this]
          · rw [List.getElem?_eq_none (l := A.tmps) (Nat.le_of_not_lt hd)] at hA'
            have hge := List.getElem?_eq_none_iff.1 hA'
            rw [List.set_eq_of_length_le hge, List.set_eq_of_length_le hge]
      rw [this]
      exact g2

/-! #### Reads and writes at different objects -/
def storeL (E : AE) (lk : Option Ob) (t : TypeId) (b : Nat) (i : Option Nat) (v : TV) : T (List Seg) :=
  match E.ty t, lk with
  | some ti, some ob => match ob.own with
    | true => match ti.td.agg, v with
      | true, .one (.agg l) => match Nat.beq (segLen l) ti.size with
        | true => writeAgg ob.segs b i ti.size l
        | false => .fail
      | false, .one (.sc a) => modSeg (writeCell i a) ob.segs b
      | _, _ => .fail
    | false => .fail
  | _, _ => .fail
theorem storeT_eq {st : St} {t : TypeId} {ob b : Nat} {i : Option Nat} {v : TV} : storeT E st t ob b i v = (storeL E (st.look ob) t b i v).bind fun l' => .ret (st.upd ob l') := by
  unfold storeT storeL
  cases E.ty t with
  | none => rfl
  | some ti =>
    cases st.look ob with
    | none => rfl
    | some ob' =>
      simp only
      cases ob'.own with
      | false => rfl
      | true =>
        cases ti.td.agg with
        | true =>
          cases v with
          | tup l => rfl
          | one v =>
            cases v with
            | any => rfl
            | sc x => rfl
            | agg l =>
              simp only
              cases Nat.beq (segLen l) ti.size <;> rfl
        | false =>
          cases v with
          | tup l => rfl
          | one v => cases v <;> rfl
theorem loadT_look {s s2 : St} {t : TypeId} {ob b : Nat} {i : Option Nat} (h : s2.look ob = s.look ob) : loadT E s2 t ob b i = loadT E s t ob b i := by
  unfold loadT
  rw [h]
/-- What an operation does at the object that was foretold. -/
theorem opV_mem {o : Oper} {n nm : Nat} {s s1 : St} (h : opV E ops (some n) nm o s = some s1) :
    o.guard = none ∧ ((∃ t p b i x, o.op = .load t p ∧ s.get p = .one (.sc (.ptr n b i)) ∧ (loadT E s t n b i).val = some x ∧ s1 = s.put o.dst (.one x)) ∨
      (∃ t p v b i l, o.op = .store t p v ∧ s.get p = .one (.sc (.ptr n b i)) ∧ (storeL E (s.look n) t b i (s.get v)).val = some l ∧ s1 = (s.upd n l).put o.dst (.one .any))) := by
  obtain ⟨h1, h2⟩ := opV_iff.1 h
  unfold footOk at h1
  simp only at h1
  split at h1
  · rename_i p hg hp
    refine ⟨hg, ?_⟩
    split at h1
    · rename_i ob b i hget
      have he := beq_t h1
      subst he
      unfold opV0 at h2
      rw [hg] at h2
      simp only at h2
      cases ho : o.op <;> rw [ho] at hp <;> simp only [memAddr] at hp <;> try (cases hp; done)
      · rename_i t q
        cases hp
        simp only [step, ho, hget, T.val_bind_iff, T.val_ret] at h2
        obtain ⟨x, g1, rfl⟩ := h2
        exact .inl ⟨t, _, b, i, x, rfl, hget, g1, rfl⟩
      · rename_i t q v
        cases hp
        simp only [step, ho, hget, storeT_eq, T.val_bind_iff, T.val_ret] at h2
        obtain ⟨s', ⟨l, g1, rfl⟩, rfl⟩ := h2
        exact .inr ⟨t, _, v, b, i, l, rfl, hget, g1, rfl⟩
    · cases h1
  · cases h1
theorem opV_load {o : Oper} {n nm : Nat} {s : St} {t : TypeId} {p : Operand} {b : Nat} {i : Option Nat} {x : AV} (hg : o.guard = none) (ho : o.op = .load t p) (hget : s.get p = .one (.sc (.ptr n b i))) (h : (loadT E s t n b i).val = some x) :
    opV E ops (some n) nm o s = some (s.put o.dst (.one x)) := by
  refine opV_iff.2 ⟨?_, ?_⟩
  · unfold footOk
    simp only [hg, ho, memAddr, hget]
    exact Nat.beq_refl n
  · unfold opV0
    simp only [hg, step, ho, hget, T.val_bind_iff, T.val_ret]
    exact ⟨x, h, rfl⟩
theorem opV_store {o : Oper} {n nm : Nat} {s : St} {t : TypeId} {p v : Operand} {b : Nat} {i : Option Nat} {l : List Seg} (hg : o.guard = none) (ho : o.op = .store t p v) (hget : s.get p = .one (.sc (.ptr n b i))) (h : (storeL E (s.look n) t b i (s.get v)).val = some l) :
    opV E ops (some n) nm o s = some ((s.upd n l).put o.dst (.one .any)) := by
  refine opV_iff.2 ⟨?_, ?_⟩
  · unfold footOk
    simp only [hg, ho, memAddr, hget]
    exact Nat.beq_refl n
  · unfold opV0
    simp only [hg, step, ho, hget, storeT_eq, T.val_bind_iff, T.val_ret]
    exact ⟨_, ⟨l, h, rfl⟩, rfl⟩

theorem upd_look {s : St} {n m : Nat} {l : List Seg} (h : n ≠ m) : (s.upd m l).look n = s.look n := by
  unfold St.look St.upd
  simp only
  rw [List.getElem?_set_ne (Ne.symm h)]
theorem upd_put {s : St} {n : Nat} {l : List Seg} {d : Option Tmp} {u : TV} : (s.put d u).upd n l = (s.upd n l).put d u := by
  unfold St.upd St.put; cases d <;> rfl
theorem upd_get {s : St} {n : Nat} {l : List Seg} (x : Operand) : (s.upd n l).get x = s.get x := by cases x <;> rfl
theorem upd_upd {s : St} {n m : Nat} {l l' : List Seg} (h : n ≠ m) : (s.upd n l).upd m l' = (s.upd m l').upd n l := by
  unfold St.upd
  simp only
  rw [List.set_comm _ _ h]

def Held2 (s : St) (n : Nat) : Prop := ∃ x, s.mem[n]? = some x ∧ x ≠ .free
/-- How two operations stand to one another. -/
def Mix (fj fi : Option Nat) (oj o : Oper) : Prop := regOp oj.op = true ∨ (wrOp oj.op = false ∧ wrOp o.op = false) ∨ footDiff fj fi = true

theorem look_same {oj o : Oper} {fj : Option Nat} {n nj : Nat} {A A1 : St} (hmix : Mix fj (some n) oj o) (hn : Held2 A n) (h : opV E ops fj nj oj A = some A1) : A1.look n = A.look n ∧ Held2 A1 n := by
  rcases hmix with hr | ⟨hw, _⟩ | hd
  · obtain ⟨v, rfl, _⟩ := opV_reg hr (s2 := A) (fun _ _ => rfl) (fun _ _ _ _ _ => rfl) h
    exact ⟨put_look _ _ _ _, by unfold Held2; rw [put_mem]; exact hn⟩
  · obtain ⟨e, rfl, hf, _⟩ := does_of (sees_refl oj A) hw h
    obtain ⟨x, hx, hxf⟩ := hn
    have hk := (Grew.app A e hf).keep n (by rw [hx]; simpa using hxf)
    refine ⟨by unfold St.look; rw [hk], x, by rw [hk, hx], hxf⟩
  · cases fj with
    | none => cases hd
    | some m =>
      have hne : n ≠ m := by
        intro e
        subst e
        simp only [footDiff, Nat.beq_refl, Bool.not_true, Bool.false_eq_true] at hd
      obtain ⟨_, h | h⟩ := opV_mem h
      · obtain ⟨t, p, b, i, x, _, _, _, rfl⟩ := h
        exact ⟨put_look _ _ _ _, by unfold Held2; rw [put_mem]; exact hn⟩
      · obtain ⟨t, p, v, b, i, l, _, _, _, rfl⟩ := h
        refine ⟨by rw [put_look, upd_look hne], ?_⟩
        unfold Held2
        rw [put_mem]
        simp only [St.upd]
        rw [List.getElem?_set_ne (Ne.symm hne)]
        exact hn

theorem swap_mem {oj o : Oper} {fj : Option Nat} {n nj ni : Nat} {A A1 A2 : St} (hap : oj.apart ops o = true) (hmix : Mix fj (some n) oj o) (hn : Held2 A n)
    (h1 : opV E ops fj nj oj A = some A1) (h2 : opV E ops (some n) ni o A1 = some A2) : ∃ A', opV E ops (some n) ni o A = some A' ∧ opV E ops fj nj oj A' = some A2 := by
  obtain ⟨a1, a2, a3⟩ := Oper.apart_spec hap
  obtain ⟨hlook, _⟩ := look_same hmix hn h1
  have hget : ∀ x ∈ o.op.operands, A.get x = A1.get x := fun x hx => get_eq_of fun t e => (opV_tmps h1 (fun hd => a1 t hd (looks_operand (by rw [← e]; exact hx)))).symm
  obtain ⟨hg, h | h⟩ := opV_mem h2
  · obtain ⟨t, p, b, i, x, ho, hp, hl, rfl⟩ := h
    refine ⟨_, opV_load hg ho (by rw [hget p (by rw [ho]; simp [Op.operands]), hp]) (by rw [loadT_look hlook] at hl; exact hl), ?_⟩
    exact opV_frame1 (fun t ht => a3 t ht) (fun t ht hd => a2 t hd ht) h1
  · obtain ⟨t, p, v, b, i, l, ho, hp, hl, rfl⟩ := h
    have hgv : A.get v = A1.get v := hget v (by rw [ho]; simp [Op.operands])
    refine ⟨_, opV_store hg ho (by rw [hget p (by rw [ho]; simp [Op.operands]), hp]) (by rw [hlook] at hl; rw [hgv]; exact hl), ?_⟩
    refine opV_frame1 (fun t ht => a3 t ht) (fun t ht hd => a2 t hd ht) ?_
    rcases hmix with hr | ⟨_, hw⟩ | hd
    · obtain ⟨u, rfl, g⟩ := opV_reg hr (s2 := A.upd n l) (fun x _ => upd_get x) (fun _ _ _ _ _ => rfl) h1
      rw [g, upd_put]
    · rw [ho] at hw; cases hw
    · cases fj with
      | none => cases hd
      | some m =>
        have hne : n ≠ m := by
          intro e
          subst e
          simp only [footDiff, Nat.beq_refl, Bool.not_true, Bool.false_eq_true] at hd
        obtain ⟨hgj, h | h⟩ := opV_mem h1
        · obtain ⟨tj, pj, bj, ij, xj, hoj, hpj, hlj, rfl⟩ := h
          rw [opV_load hgj hoj (by rw [upd_get, hpj]) (by rw [loadT_look (upd_look (Ne.symm hne))]; exact hlj), upd_put]
        · obtain ⟨tj, pj, vj, bj, ij, lj, hoj, hpj, hlj, rfl⟩ := h
          rw [opV_store hgj hoj (by rw [upd_get, hpj]) (by rw [upd_look (Ne.symm hne), upd_get]; exact hlj), upd_put, upd_upd hne]

theorem front_mem {o : Oper} {i n : Nat} (ho : ops[i]? = some o) (hf : fts.getD i none = some n) {R : List Nat} : ∀ {L : List Nat} {A F : St}, (∀ j ∈ L, ∀ oj, ops[j]? = some oj → oj.apart ops o = true ∧ Mix (fts.getD j none) (some n) oj o) → Held2 A n →
    runI E ops fts nmOf (L ++ i :: R) A = some F → ∃ A', opV E ops (fts.getD i none) (nmOf i) o A = some A' ∧ runI E ops fts nmOf (L ++ R) A' = some F
  | [], A, F, _, _, h => by
    simp only [List.nil_append, runI, ho, Option.bind_eq_some_iff] at h
    exact h
  | j :: r, A, F, hL, hn, h => by
    simp only [List.cons_append, runI] at h
    cases hoj : ops[j]? with
    | none => rw [hoj] at h; cases h
    | some oj =>
      rw [hoj] at h
      simp only [Option.bind_eq_some_iff] at h
      obtain ⟨A1, h1, h2⟩ := h
      obtain ⟨hap, hmix⟩ := hL j (by simp) oj hoj
      obtain ⟨A1', g1, g2⟩ := front_mem ho hf (fun k hk => hL k (by simp [hk])) (look_same hmix hn h1).2 h2
      rw [hf] at g1 ⊢
      obtain ⟨A', k1, k2⟩ := swap_mem hap hmix hn h1 g1
      refine ⟨A', k1, ?_⟩
      simp only [List.cons_append, runI, hoj, k2, Option.bind_some]
      exact g2

/-! #### The check -/
theorem maskOf_mem {ms : List Nat} {o : Oper} {j : Nat} (h : (maskOf ms o).testBit j = true) : ∃ e ∈ o.after, Region.binds .any e = true ∧ (e.on = j ∨ (ms.getD e.on 0).testBit j = true) := by
  unfold maskOf at h
  have key : ∀ (l : List Edge) (s : Nat), (l.foldl (fun s e => if Region.binds .any e then s ||| 2 ^ e.on ||| ms.getD e.on 0 else s) s).testBit j = true → s.testBit j = true ∨ ∃ e ∈ l, Region.binds .any e = true ∧ (e.on = j ∨ (ms.getD e.on 0).testBit j = true) := by
    intro l
    induction l with
    | nil => intro s h; exact .inl h
    | cons e r ih =>
      intro s h
      rw [List.foldl_cons] at h
      rcases ih _ h with h | ⟨e', he', hb⟩
      · split at h
        · rename_i hb
          rw [Nat.testBit_or, Nat.testBit_or, Bool.or_eq_true, Bool.or_eq_true] at h
          rcases h with (h | h) | h
          · exact .inl h
          · rw [Nat.testBit_two_pow] at h
            exact .inr ⟨e, by simp, hb, .inl (by simpa using h)⟩
          · exact .inr ⟨e, by simp, hb, .inr h⟩
        · exact .inl h
      · exact .inr ⟨e', by simp [he'], hb⟩
  rcases key o.after.toList 0 h with h | ⟨e, he, hb⟩
  · simp at h
  · exact ⟨e, Array.mem_toList_iff.1 he, hb⟩

/-- What the check says of each pair. -/
structure Held (fts : List (Option Nat)) (ops : Array Oper) (pre : List Oper) (ms : List Nat) : Prop where
  len : ms.length = pre.length
  edge : ∀ (i : Nat) (o : Oper), pre[i]? = some o → ∀ e ∈ o.after, Region.binds .any e = true → e.on < i
  mask : ∀ (i : Nat) (o : Oper) (m : Nat), pre[i]? = some o → ms[i]? = some m → ∀ j : Nat, m.testBit j = true → ∃ e ∈ o.after, Region.binds .any e = true ∧ (e.on = j ∨ ∃ m', ms[e.on]? = some m' ∧ m'.testBit j = true)
  pair : ∀ (i : Nat) (o : Oper) (m j : Nat) (oj : Oper), pre[i]? = some o → ms[i]? = some m → j < i → pre[j]? = some oj → m.testBit j = true ∨ indep fts ops j oj i o = true

theorem regionOk_spec : ∀ {r pre : List Oper} {ms : List Nat}, regionOk fts ops r pre ms = true → Held fts ops pre ms → ∃ ms', Held fts ops (pre ++ r) ms'
  | [], pre, ms, _, hc => ⟨ms, by simpa using hc⟩
  | o :: r, pre, ms, h, hc => by
    simp only [regionOk, Bool.and_eq_true] at h
    obtain ⟨⟨h1, h2⟩, h3⟩ := h
    have hedge : ∀ e ∈ o.after, Region.binds .any e = true → e.on < pre.length := by
      intro e he hb
      have := Array.all_eq_true_iff_forall_mem.1 h1 e he
      simp only [hb, Bool.not_true, Bool.false_or] at this
      exact blt_t this
    have hnew : Held fts ops (pre ++ [o]) (ms ++ [maskOf ms o]) := by
      refine ⟨by simp [hc.len], fun i o' ho' e he hb => ?_, fun i o' m' ho' hm' j hj => ?_, fun i o' m' j oj ho' hm' hji hoj => ?_⟩
      · rw [List.getElem?_append] at ho'
        split at ho'
        · exact hc.edge i o' ho' e he hb
        · rename_i hge
          have : i - pre.length = 0 := by
            have := (List.getElem?_eq_some_iff.1 ho').1
            simp at this; omega
          rw [this] at ho'
          cases ho'
          have := hedge e he hb
          omega
      · rw [List.getElem?_append] at ho' hm'
        rw [hc.len] at hm'
        split at ho'
        · rename_i hlt
          rw [if_pos hlt] at hm'
          obtain ⟨e, he, hb, hcase⟩ := hc.mask i o' m' ho' hm' j hj
          refine ⟨e, he, hb, hcase.imp id ?_⟩
          rintro ⟨m2, h2, h3⟩
          exact ⟨m2, by rw [List.getElem?_append_left (List.getElem?_eq_some_iff.1 h2).1]; exact h2, h3⟩
        · rename_i hge
          rw [if_neg hge] at hm'
          have h0 : i - pre.length = 0 := by
            have := (List.getElem?_eq_some_iff.1 ho').1
            simp at this; omega
          rw [h0] at ho' hm'
          cases ho'
          cases hm'
          obtain ⟨e, he, hb, hcase⟩ := maskOf_mem hj
          refine ⟨e, he, hb, hcase.imp id ?_⟩
          intro ht
          have hlt := hedge e he hb
          refine ⟨ms.getD e.on 0, ?_, ht⟩
          rw [List.getElem?_append_left (by rw [hc.len]; exact hlt), List.getD_eq_getElem?_getD, List.getElem?_eq_getElem (by rw [hc.len]; exact hlt)]
          rfl
      · rw [List.getElem?_append] at ho' hm'
        rw [hc.len] at hm'
        split at ho'
        · rename_i hlt
          rw [if_pos hlt] at hm'
          rw [List.getElem?_append_left (by omega)] at hoj
          exact hc.pair i o' m' j oj ho' hm' hji hoj
        · rename_i hge
          rw [if_neg hge] at hm'
          have h0 : i - pre.length = 0 := by
            have := (List.getElem?_eq_some_iff.1 ho').1
            simp at this; omega
          rw [h0] at ho' hm'
          cases ho'
          cases hm'
          have hjl : j < pre.length := by omega
          rw [List.getElem?_append_left hjl] at hoj
          have hmem : (j, oj) ∈ (List.range pre.length).zip pre := by
            rw [List.mem_iff_getElem?]
            refine ⟨j, ?_⟩
            rw [List.getElem?_zip_eq_some]
            exact ⟨by simp [hjl], hoj⟩
          have hall := List.all_eq_true.1 h2 _ hmem
          rw [show i = pre.length by omega]
          simpa using hall
    have := regionOk_spec h3 hnew
    simpa using this

/-- What is held back by the check has been carried out before. -/
theorem before_done {ms : List Nat} (hc : Held fts ops ops.toList ms) {X : Nat → Prop} (hcl : ∀ k o, ops[k]? = some o → ¬ X k → ∀ e ∈ o.after, Region.binds .any e = true → ¬ X e.on) :
    ∀ (i : Nat) (o : Oper) (m : Nat), ops[i]? = some o → ms[i]? = some m → (∀ e ∈ o.after, Region.binds .any e = true → ¬ X e.on) → ∀ j, m.testBit j = true → ¬ X j := by
  intro i
  induction i using Nat.strongRecOn with
  | _ i ih =>
    intro o m ho hm hpre j hj
    have ho' : ops.toList[i]? = some o := by rw [Array.getElem?_toList]; exact ho
    obtain ⟨e, he, hb, hcase⟩ := hc.mask i o m ho' hm j hj
    have hX := hpre e he hb
    rcases hcase with rfl | ⟨m', hm', hj'⟩
    · exact hX
    · have hlt := hc.edge i o ho' e he hb
      have hsz : e.on < ops.size := by
        have := (Array.getElem?_eq_some_iff.1 ho).1
        omega
      obtain ⟨oe, hoe⟩ : ∃ oe, ops[e.on]? = some oe := ⟨ops[e.on], Array.getElem?_eq_getElem hsz⟩
      exact ih e.on hlt oe m' hoe hm' (hcl e.on oe hoe hX) j hj'

theorem wpAny_of {Q : Exit → Act → World → Prop} (hE : E.Ok P) {ms : List Nat} (hc : Held fts ops ops.toList ms) {F : St} (hQ : ∀ a' w' ρ', Rel ρ' B w0 F a' w' → Q .normal a' w') :
    ∀ (fuel : Nat) (R : List Nat) (listed : Array Bool) (ρ : Env) (A : St) (a : Act) (w : World), R.length = fuel → R.Pairwise (· < ·) → (∀ i, i ∈ R ↔ i < ops.size ∧ listed.getD i true = false) → listed.size = ops.size →
      (∀ k o, ops[k]? = some o → k ∉ R → ∀ e ∈ o.after, Region.binds .any e = true → e.on ∉ R) → Rel ρ B w0 A a w → runI E ops fts nmOf R A = some F → wpAny P .any ops Q fuel listed a w := by
  intro fuel
  induction fuel with
  | zero =>
    intro R listed ρ A a w hl _ hmem _ _ hr h
    have : R = [] := List.eq_nil_of_length_eq_zero hl
    subst this
    cases h
    refine ⟨?_, hQ _ _ _ hr⟩
    rw [List.eq_nil_iff_forall_not_mem]
    intro i hi
    obtain ⟨h1, o, ho, _⟩ := mem_ready.1 hi
    have := (hmem i).2 ⟨(Array.getElem?_eq_some_iff.1 ho).1, h1⟩
    simp at this
  | succ fuel ih =>
    intro R listed ρ A a w hl hsort hmem hsize hcl hr h
    refine ⟨fun hnil => ?_, fun i hi => ?_⟩
    · exfalso
      cases R with
      | nil => simp at hl
      | cons i r =>
        obtain ⟨h1, h2⟩ := (hmem i).1 (by simp)
        obtain ⟨o, ho⟩ : ∃ o, ops[i]? = some o := ⟨ops[i], Array.getElem?_eq_getElem h1⟩
        have : i ∈ Region.ready .any ops listed := by
          refine mem_ready.2 ⟨h2, o, ho, fun e he hb => ?_⟩
          have hlt := hc.edge i o (by rw [Array.getElem?_toList]; exact ho) e he hb
          have hnot : e.on ∉ i :: r := by
            intro hm
            rcases List.mem_cons.1 hm with hm | hm
            · omega
            · have := List.rel_of_pairwise_cons hsort hm
              omega
          have : ¬ (e.on < ops.size ∧ listed.getD e.on true = false) := fun hh => hnot ((hmem _).2 hh)
          have hsz : e.on < listed.size := by omega
          cases hg : listed.getD e.on true with
          | false => exact absurd ⟨by omega, hg⟩ this
          | true =>
            rw [Array.getD_eq_getD_getElem?, Array.getElem?_eq_getElem hsz] at hg ⊢
            exact hg
        rw [hnil] at this
        simp at this
    · obtain ⟨h1, o, ho, hpre⟩ := mem_ready.1 hi
      have hiR : i ∈ R := (hmem i).2 ⟨(Array.getElem?_eq_some_iff.1 ho).1, h1⟩
      obtain ⟨L, R2, rfl⟩ := List.append_of_mem hiR
      have hsort' := hsort
      rw [List.pairwise_append] at hsort
      obtain ⟨_, hs2, hs3⟩ := hsort
      have hpreX : ∀ e ∈ o.after, Region.binds .any e = true → e.on ∉ L ++ i :: R2 := by
        intro e he hb hm
        have := (hmem e.on).1 hm
        have h2 := hpre e he hb
        rw [Array.getD_eq_getD_getElem?, Array.getElem?_eq_getElem (show e.on < listed.size by omega)] at h2 this
        simp only [Option.getD_some] at h2 this
        rw [h2] at this
        cases this.2
      obtain ⟨m, hm⟩ : ∃ m, ms[i]? = some m := by
        have hlt := (Array.getElem?_eq_some_iff.1 ho).1
        exact ⟨_, List.getElem?_eq_getElem (show i < ms.length by rw [hc.len]; simpa using hlt)⟩
      have hind : ∀ j ∈ L, ∀ oj, ops[j]? = some oj → indep fts ops j oj i o = true := by
        intro j hj oj hoj
        have hji : j < i := hs3 j hj i (by simp)
        rcases hc.pair i o m j oj (by rw [Array.getElem?_toList]; exact ho) hm hji (by rw [Array.getElem?_toList]; exact hoj) with hb | hb
        · exact absurd (show j ∈ L ++ i :: R2 by simp [hj]) (before_done hc (X := fun k => k ∈ L ++ i :: R2) hcl i o m ho hm hpreX j hb)
        · exact hb
      have hfront : ∃ A', opV E ops (fts.getD i none) (nmOf i) o A = some A' ∧ runI E ops fts nmOf (L ++ R2) A' = some F := by
        cases L with
        | nil =>
          simp only [List.nil_append, runI, ho, Option.bind_eq_some_iff] at h
          exact h
        | cons j0 L' =>
          have hap0 : ∀ j ∈ j0 :: L', ∀ oj, ops[j]? = some oj → oj.apart ops o = true ∧ ((wrOp oj.op = false ∧ wrOp o.op = false) ∨ regOp oj.op = true ∨ regOp o.op = true ∨ footDiff (fts.getD j none) (fts.getD i none) = true) := by
            intro j hj oj hoj
            have := hind j hj oj hoj
            simp only [indep, Bool.and_eq_true, Bool.or_eq_true, Bool.not_eq_true'] at this
            refine ⟨this.1, ?_⟩
            rcases this.2 with ((h | h) | h) | h
            · exact .inl h
            · exact .inr (.inl h)
            · exact .inr (.inr (.inl h))
            · exact .inr (.inr (.inr h))
          cases hro : regOp o.op with
          | true => exact front_reg ho hro (fun j hj oj hoj => (hap0 j hj oj hoj).1) h
          | false =>
            cases hf : fts.getD i none with
            | some n =>
              rw [← hf]
              have hheld : Held2 A n := by
                rw [runI_append, Option.bind_eq_some_iff] at h
                obtain ⟨C, c1, c2⟩ := h
                simp only [runI, ho, Option.bind_eq_some_iff] at c2
                obtain ⟨C1, c2, _⟩ := c2
                rw [hf] at c2
                have key : ∀ p b ix, p ∈ o.op.operands → C.get p = .one (.sc (.ptr n b ix)) → Held2 A n := by
                  intro p b ix hpo hp
                  have hget : A.get p = C.get p := get_eq_of fun t e => (chain_tmps (fun j hj oj hoj hd => (Oper.apart_spec (hap0 j hj oj hoj).1).1 t hd (looks_operand (by rw [← e]; exact hpo))) c1).symm
                  have hv := hr.get p
                  rw [hget, hp] at hv
                  obtain ⟨l, _, _, hl, _⟩ := hv
                  cases hm : A.mem[n]? with
                  | none => rw [hr.m.free n (.inl hm)] at hl; cases hl
                  | some x => exact ⟨x, hm, fun e => by subst e; rw [hr.m.free n (.inr hm)] at hl; cases hl⟩
                obtain ⟨_, c3 | c3⟩ := opV_mem c2
                · obtain ⟨t, p, b, ix, x, hop, hp, _⟩ := c3
                  exact key p b ix (by rw [hop]; simp [Op.operands]) hp
                · obtain ⟨t, p, v, b, ix, x, hop, hp, _⟩ := c3
                  exact key p b ix (by rw [hop]; simp [Op.operands]) hp
              refine front_mem ho hf (fun j hj oj hoj => ?_) hheld h
              obtain ⟨k1, k2⟩ := hap0 j hj oj hoj
              refine ⟨k1, ?_⟩
              rcases k2 with k2 | k2 | k2 | k2
              · exact .inr (.inl k2)
              · exact .inl k2
              · rw [hro] at k2; cases k2
              · exact .inr (.inr (by rw [← hf]; exact k2))
            | none =>
              have hap : ∀ j ∈ j0 :: L', ∀ oj, ops[j]? = some oj → oj.apart ops o = true ∧ ((wrOp oj.op = false ∧ wrOp o.op = false) ∨ regOp oj.op = true ∨ regOp o.op = true) := by
                intro j hj oj hoj
                obtain ⟨k1, k2⟩ := hap0 j hj oj hoj
                refine ⟨k1, ?_⟩
                rcases k2 with k2 | k2 | k2 | k2
                · exact .inl k2
                · exact .inr (.inl k2)
                · exact .inr (.inr k2)
                · rw [hf] at k2; cases hj2 : fts.getD j none <;> rw [hj2] at k2 <;> simp [footDiff] at k2
              rw [← hf]
              cases hw : wrOp o.op with
              | true =>
                refine front_wr ho hw (fun j hj oj hoj => ?_) h
                obtain ⟨k1, k2⟩ := hap j hj oj hoj
                refine ⟨k1, ?_⟩
                rcases k2 with k2 | k2 | k2
                · rw [hw] at k2; cases k2.2
                · exact k2
                · rw [hro] at k2; cases k2
              | false =>
                refine front ho hw (fun j hj oj hoj => ?_) hr h
                obtain ⟨k1, k2⟩ := hap j hj oj hoj
                refine ⟨?_, k1⟩
                rcases k2 with k2 | k2 | k2
                · exact k2.1
                · exact regOp_wr k2
                · rw [hro] at k2; cases k2
      obtain ⟨A', g1, g2⟩ := hfront
      have hs := opV_sound hE hr g1 (wpAny P .any ops Q fuel (listed.setIfInBounds i true)) Q fun a' w' ρ' hr' => by
        have hin : i < listed.size := by have := (Array.getElem?_eq_some_iff.1 ho).1; omega
        have hnin : ∀ k, k ∈ L ++ R2 ↔ k ∈ L ++ i :: R2 ∧ k ≠ i := by
          intro k
          have hnd : i ∉ L ∧ i ∉ R2 := ⟨fun hh => by have := hs3 i hh i (by simp); omega, fun hh => by have := List.rel_of_pairwise_cons hs2 hh; omega⟩
          constructor
          · intro hk
            rcases List.mem_append.1 hk with hk | hk
            · exact ⟨by simp [hk], fun e => hnd.1 (e ▸ hk)⟩
            · exact ⟨by simp [hk], fun e => hnd.2 (e ▸ hk)⟩
          · rintro ⟨hk, hne⟩
            simp only [List.mem_append, List.mem_cons] at hk ⊢
            rcases hk with hk | hk | hk
            · exact .inl hk
            · exact absurd hk hne
            · exact .inr hk
        refine ih (L ++ R2) _ ρ' A' a' w' (by simp at hl ⊢; omega) ?_ ?_ (by simpa using hsize) ?_ hr' g2
        · rw [List.pairwise_append] at hsort' ⊢
          exact ⟨hsort'.1, (List.pairwise_cons.1 hsort'.2.1).2, fun x hx y hy => hsort'.2.2 x hx y (by simp [hy])⟩
        · intro k
          rw [hnin, hmem k]
          by_cases hk : k = i
          · subst hk
            simp only [ne_eq, not_true_eq_false, and_false, false_iff, not_and]
            intro _
            rw [Array.getD_eq_getD_getElem?, Array.getElem?_setIfInBounds_self_of_lt hin]
            simp
          · rw [getD_set_ne true (Ne.symm hk)]
            simp [hk]
        · intro k ok hok hk e he hb hm'
          have hme := (hnin e.on).1 hm'
          by_cases hki : k = i
          · subst hki
            rw [ho] at hok; cases hok
            exact hpreX e he hb hme.1
          · exact hcl k ok hok (fun hh => hk ((hnin k).2 ⟨hh, hki⟩)) e he hb hme.1
      unfold wpOp
      rw [ho]
      simp only
      split
      · rename_i hwd; rw [if_pos hwd] at hs; exact .inl hs
      · rename_i hwd; rw [if_neg hwd] at hs; exact hs
end
end Go.Ax
