/- A part of the proof: Ax17, Ax18, Ax18i, Ax18d, Ax18e, Ax19, Ax20. -/
import Derived.Test.YtdaompnhkfdlgaaAxB
import Derived.Recover
namespace Go.Ax
open Go.RowKit
variable {P : Program}
def a0Y (E : AE) (ops : Array Oper) (fts : List (Option Nat)) (nmOf : Nat → Nat) : List Nat → St → Option St
 | [], s => some s
 | i :: r, s => match ops[i]? with
  | some o => (opV E ops (fts.getD i none) (nmOf i) o s).bind (a0Y E ops fts nmOf r)
  | none => none
section
variable {ρ : Env} {B : Nat} {w0 : Base} {a : Act} {w : World} {ops : Array Oper} {E : AE} [Flat E] {fts : List (Option Nat)} {nmOf : Nat → Nat}
omit [Flat E] in
theorem X7 {l1 l2 : List Nat} : ∀ {s : St}, a0Y E ops fts nmOf (l1 ++ l2) s = (a0Y E ops fts nmOf l1 s).bind (a0Y E ops fts nmOf l2) := by
 induction l1 with
 | nil => intro s; rfl
 | cons i r ih =>
  intro s
  simp only [List.cons_append, a0Y]
  cases ops[i]? with
  | none => rfl
  | some o =>
   simp only
   cases opV E ops (fts.getD i none) (nmOf i) o s with
   | none => rfl
   | some s1 => exact ih
theorem C8 {s s2 : St} {x : Operand} (h : ∀ t, x = .tmp t → s2.tmps[t]? = s.tmps[t]?) : s2.get x = s.get x := by
 cases x with
 | tmp t => simp only [St.get, List.getD, h t rfl]
 | _ => rfl
theorem u7 {o : Oper} {t : Tmp} (h : Operand.tmp t ∈ o.op.operands) : t ∈ o.looksAt ops :=
 List.mem_append_left _ (List.mem_filterMap.2 ⟨.tmp t, by simpa using h, rfl⟩)
theorem M3 {o : Oper} {j : Nat} {want : Bool} {d : Tmp} (h : o.guard = some (j, want)) (hd : (ops[j]?).bind (·.dst) = some d) : d ∈ o.looksAt ops := by
 refine List.mem_append_right _ ?_
 simp [h, hd]
theorem a02 : ∀ {L : List Nat} {A C : St}, (∀ j ∈ L, ∀ o, ops[j]? = some o → a2H o.op = false) → a0Y E ops fts nmOf L A = some C →
  ∃ D : List Tmp, Grew D A C ∧ ∀ t ∈ D, ∃ j ∈ L, ∃ o, ops[j]? = some o ∧ o.dst = some t
 | [], A, C, _, h => by cases h; exact ⟨[], Grew.refl A, fun t ht => by simp at ht⟩
 | i :: r, A, C, hw, h => by
  simp only [a0Y] at h
  cases ho : ops[i]? with
  | none => rw [ho] at h; cases h
  | some o =>
   rw [ho] at h
   simp only [Option.bind_eq_some_iff] at h
   obtain ⟨A1, h1, h2⟩ := h
   obtain ⟨e, rfl, hf, hd, _⟩ := a6p (Q1 o A) (hw i (by simp) o ho) h1
   obtain ⟨D, g1, g2⟩ := a02 (fun j hj => hw j (by simp [hj])) h2
   refine ⟨e.dst.toList ++ D, (Grew.app A e hf).trans g1, fun t ht => ?_⟩
   rcases List.mem_append.1 ht with ht | ht
   ·refine ⟨i, by simp, o, ho, ?_⟩
    rw [← hd]
    cases he : e.dst with
    | none => rw [he] at ht; simp at ht
    | some d => rw [he] at ht; simp at ht; rw [ht]
   ·obtain ⟨j, hj, o', ho', hd'⟩ := g2 t ht
    exact ⟨j, by simp [hj], o', ho', hd'⟩
theorem FreeAt.back {D : List Tmp} {A C : St} (h : Grew D A C) {nm n : Nat} (hf : FreeAt C.mem nm n) : FreeAt A.mem nm n := fun k hk => h.free _ (hf k hk)
theorem push {o : Oper} {e : Eff} (he : e.dst = o.dst) : ∀ {L : List Nat} {A C : St}, (∀ j ∈ L, ∀ oj, ops[j]? = some oj → a2H oj.op = false ∧ oj.apart ops o = true) → a0Y E ops fts nmOf L A = some C → FreeAt C.mem e.nm e.news.length →
  a0Y E ops fts nmOf L (app A e) = some (app C e)
 | [], A, C, _, h, _ => by cases h; rfl
 | j :: r, A, C, hL, h, hf => by
  have hLr : ∀ j ∈ r, ∀ oj, ops[j]? = some oj → a2H oj.op = false ∧ oj.apart ops o = true := fun i hi => hL i (by simp [hi])
  simp only [a0Y] at h ⊢
  cases ho : ops[j]? with
  | none => rw [ho] at h; cases h
  | some oj =>
   rw [ho] at h
   simp only [Option.bind_eq_some_iff] at h ⊢
   obtain ⟨A1, h1, h2⟩ := h
   obtain ⟨hwj, hap⟩ := hL j (by simp) oj ho
   obtain ⟨_, ha2, ha3⟩ := Oper.apart_spec hap
   obtain ⟨D, g1, _⟩ := a02 (fun i hi o' ho' => (hLr i hi o' ho').1) h2
   have hfA1 : FreeAt A1.mem e.nm e.news.length := hf.back g1
   obtain ⟨e0, q1, q2, _, _⟩ := a6p (Q1 oj A) hwj h1
   have hfA : FreeAt A.mem e.nm e.news.length := by rw [q1] at hfA1; exact hfA1.back (Grew.app A e0 q2)
   have hgr := Grew.app A e hfA
   have hsees : Sees ops oj (fun _ => True) A (app A e) := by
    have ht : ∀ t, t ∈ oj.looksAt ops → (app A e).tmps[t]? = A.tmps[t]? := by
     intro t htl
     refine hgr.tmps t fun hm => ?_
     rw [he] at hm
     cases hd : o.dst with
     | none => rw [hd] at hm; simp at hm
     | some d => rw [hd] at hm; simp at hm; subst hm; exact ha3 t hd htl
    refine ⟨fun x hx => C8 fun t e => ht t (u7 (by rw [← e]; exact hx)), fun i want d hg hd => ht d (M3 hg hd), (Q1 (ops := ops) oj A).kn, ⟨fun n b _ hl => ?_, fun _ _ _ _ _ _ _ _ => trivial⟩⟩
    have hl' := d0 hl
    have := hgr.keep n (by rw [hl']; simp)
    unfold St.look
    rw [this, hl']
   obtain ⟨ej, rfl, f1, f2, _, f4⟩ := a6p hsees hwj h1
   obtain ⟨c1, c2⟩ := b8J f1 hfA hfA1 (fun d hd => by rw [f2] at hd; rw [he]; exact ha2 d hd)
   refine ⟨app (app A e) ej, f4 c1, ?_⟩
   rw [c2]
   exact push he hLr h2 hf
theorem A1.kn_of {y : A1} {x : Value} (h' : A1.rel ρ y x) : y.kn fun n => ∃ l, ρ n = some l := by
 intro o ho
 cases y <;> simp only [A1.name?] at ho <;> first | (cases ho; done) | skip
 ·cases ho; obtain ⟨l, _, _, h, _⟩ := h'; exact ⟨l, h⟩
 ·cases ho; obtain ⟨l, h, _⟩ := h'; exact ⟨l, h⟩
 ·cases ho; obtain ⟨l, _, _, h, _⟩ := h'; exact ⟨l, h⟩
 ·cases ho; obtain ⟨l, _, _, h, _⟩ := h'; exact ⟨l, h⟩
 ·cases ho; obtain ⟨l, _, _, h, _⟩ := h'; exact ⟨l, h⟩
 ·cases ho; obtain ⟨l, _, _, h, _⟩ := h'; exact ⟨l, h⟩
theorem N4 : ∀ {l : List Seg} {C : List Value}, i2 ρ l C → ∀ x, Seg.one x ∈ l → x.kn fun n => ∃ l, ρ n = some l
 | [], _, _, x, hx => by simp at hx
 | .xs _ _ _ :: r, _, ⟨_, _, _, h⟩, x, hx => by
  simp only [List.mem_cons, reduceCtorEq, false_or] at hx
  exact N4 h x hx
 | .one y :: r, _, ⟨c, _, _, h2, h3⟩, x, hx => by
  simp only [List.mem_cons, Seg.one.injEq] at hx
  rcases hx with rfl | hx
  ·exact A1.kn_of h2
  ·exact N4 h3 x hx
 | .rw _ _ :: r, _, ⟨_, _, _, _, h⟩, x, hx => by
  simp only [List.mem_cons, reduceCtorEq, false_or] at hx
  exact N4 h x hx
theorem b2V {v : TV} {x : Value} (h : TV.rel ρ v x) : v.kn fun n => ∃ l, ρ n = some l := by
 cases v with
 | tup l => trivial
 | one v =>
  cases v with
  | any => trivial
  | agg l =>
   obtain ⟨cs, _, h2⟩ := h
   exact N4 h2
  | sc y => exact A1.kn_of (show A1.rel ρ y x from h)
theorem c1k {o : Oper} {i : Nat} (ho : ops[i]? = some o) (hw : a2H o.op = false) {L R : List Nat} (hL : ∀ j ∈ L, ∀ oj, ops[j]? = some oj → a2H oj.op = false ∧ oj.apart ops o = true) {A F : St} (hr : Rel ρ B w0 A a w)
  (h : a0Y E ops fts nmOf (L ++ i :: R) A = some F) : ∃ A', opV E ops (fts.getD i none) (nmOf i) o A = some A' ∧ a0Y E ops fts nmOf (L ++ R) A' = some F := by
 rw [X7, Option.bind_eq_some_iff] at h
 obtain ⟨C, h1, h2⟩ := h
 simp only [a0Y, ho, Option.bind_eq_some_iff] at h2
 obtain ⟨C1, h2, h3⟩ := h2
 obtain ⟨D, g1, g2⟩ := a02 (fun j hj oj hoj => (hL j hj oj hoj).1) h1
 have ht : ∀ t, t ∈ o.looksAt ops → A.tmps[t]? = C.tmps[t]? := by
  intro t htl
  refine (g1.tmps t fun hm => ?_).symm
  obtain ⟨j, hj, oj, hoj, hd⟩ := g2 t hm
  exact (Oper.apart_spec (hL j hj oj hoj).2).1 t hd htl
 have hget : ∀ x ∈ o.op.operands, A.get x = C.get x := fun x hx => C8 fun t e => ht t (u7 (by rw [← e]; exact hx))
 have hsees : Sees ops o (fun n => ∃ l, ρ n = some l) C A := by
  refine ⟨hget, fun j want d hg hd => ht d (M3 hg hd), fun x hx => by rw [← hget x hx]; exact b2V (hr.get x), ⟨fun n b ⟨l, hl⟩ hlk => ?_, fun n b _ hlk => ?_⟩⟩
  ·have hk := g1.keep n (fun hf => by rw [hr.m.free n (.inr hf)] at hl; cases hl)
   unfold St.look at hlk ⊢
   rw [hk] at hlk
   exact hlk
  ·obtain ⟨l, Cc, _, hs, _⟩ := hr.m.ob n b (d0 hlk)
   exact N4 hs
 obtain ⟨e, rfl, f1, f2, _, f4⟩ := a6p hsees hw h2
 refine ⟨app A e, f4 (f1.back g1), ?_⟩
 rw [X7, push f2 hL h1 f1]
 exact h3
omit [Flat E] in
theorem b9p {o : Oper} {nm : Nat} {s s1 s2 : St} (hr : a2F E o.op = true) (hget : ∀ x ∈ o.op.operands, s2.get x = s.get x) (hguard : ∀ j want d, o.guard = some (j, want) → (ops[j]?).bind (·.dst) = some d → s2.tmps[d]? = s.tmps[d]?)
  (h : a1V E ops nm o s = some s1) : ∃ v, s1 = s.put o.dst v ∧ a1V E ops nm o s2 = some (s2.put o.dst v) := by
 have hm := b54 (E := E) (nm := nm) hget hr
 unfold a1V at h ⊢
 split at h
 ·exact hm s1 h
 ·rename_i j want hg
  split at h
  ·cases h
  ·rename_i d hd
   rw [hguard j want d hg hd]
   split at h
   ·cases h
    exact ⟨_, rfl, rfl⟩
   split at h
   ·rename_i b hb
    split at h
    ·rename_i e
     simp only [e, if_true]
     exact hm s1 h
    ·rename_i e
     simp only [e, if_false]
     cases h
     exact ⟨_, rfl, rfl⟩
   ·cases h
omit [Flat E] in
theorem a87 {o : Oper} {ft : Option Nat} {nm : Nat} {s s1 s2 : St} (hr : a2F E o.op = true) (hget : ∀ x ∈ o.op.operands, s2.get x = s.get x) (hguard : ∀ j want d, o.guard = some (j, want) → (ops[j]?).bind (·.dst) = some d → s2.tmps[d]? = s.tmps[d]?)
  (h : opV E ops ft nm o s = some s1) : ∃ v, s1 = s.put o.dst v ∧ opV E ops ft nm o s2 = some (s2.put o.dst v) := by
 obtain ⟨h1, h2⟩ := I5.1 h
 obtain ⟨v, g1, g2⟩ := b9p hr hget hguard h2
 exact ⟨v, g1, I5.2 ⟨by rw [a1L hget]; exact h1, g2⟩⟩
theorem b4H {s : St} {d d' : Option Tmp} {u v : TV} (h : ∀ t, d = some t → d' ≠ some t) : (s.put d u).put d' v = (s.put d' v).put d u := by
 unfold St.put
 cases d with
 | none => cases d' <;> rfl
 | some t =>
  cases d' with
  | none => rfl
  | some t' =>
   simp only
   rw [List.set_comm]
   intro e; subst e; exact h t rfl rfl
omit [Flat E] in
theorem b05 {o : Oper} {nm : Nat} {s : St} {d : Option Tmp} {u : TV} (hd1 : ∀ t, d = some t → t ∉ o.looksAt ops) (hd2 : ∀ t, d = some t → o.dst ≠ some t) (hw : a2H o.op = true) :
  a1V E ops nm o (s.put d u) = (a1V E ops nm o s).map (·.put d u) := by
 have ht : ∀ t, t ∈ o.looksAt ops → (s.put d u).tmps[t]? = s.tmps[t]? := by
  intro t htl
  unfold St.put
  cases d with
  | none => rfl
  | some d => exact List.getElem?_set_ne (fun e => by subst e; exact hd1 _ rfl htl)
 have hget : ∀ x ∈ o.op.operands, (s.put d u).get x = s.get x := fun x hx => C8 fun t e => ht t (u7 (by rw [← e]; exact hx))
 have hm := b62 (E := E) (nm := nm) (o := o) (s := s) (d := d) (u := u) hget hd2 hw
 unfold a1V
 split
 ·exact hm
 ·rename_i j want hg
  cases hd : (ops[j]?).bind (·.dst) with
  | none => rfl
  | some t =>
   simp only
   rw [ht t (M3 hg hd)]
   split
   ·simp only [Option.map_some, Option.some.injEq]
    exact b4H hd2
   split
   ·split
    ·exact hm
    ·simp only [Option.map_some, Option.some.injEq]
     exact b4H hd2
   ·rfl
theorem b4y {o : Oper} {nm : Nat} {s s1 : St} {d : Option Tmp} {u : TV} (hd1 : ∀ t, d = some t → t ∉ o.looksAt ops) (hd2 : ∀ t, d = some t → o.dst ≠ some t) (h : a1V E ops nm o s = some s1) :
  a1V E ops nm o (s.put d u) = some (s1.put d u) := by
 cases hw : a2H o.op with
 | true => rw [b05 hd1 hd2 hw, h]; rfl
 | false =>
  have ht : ∀ t, t ∈ o.looksAt ops → (s.put d u).tmps[t]? = s.tmps[t]? := by
   intro t htl
   unfold St.put
   cases d with
   | none => rfl
   | some d => exact List.getElem?_set_ne (fun e => by subst e; exact hd1 _ rfl htl)
  have hmem : (s.put d u).mem = s.mem := by unfold St.put; cases d <;> rfl
  have hsees : Sees ops o (fun _ => True) s (s.put d u) := by
   refine ⟨fun x hx => C8 fun t e => ht t (u7 (by rw [← e]; exact hx)), fun i want d hg hd => ht d (M3 hg hd), (Q1 (ops := ops) o s).kn, ⟨fun n b _ hl => ?_, fun _ _ _ _ _ _ _ _ => trivial⟩⟩
   unfold St.look at hl ⊢
   rw [hmem]
   exact hl
  obtain ⟨e, rfl, f1, f2, _, f4⟩ := b5C hsees hw h
  rw [f4 (by rw [hmem]; exact f1)]
  unfold app
  rw [hmem, b4H (s := { s with mem := _ }) (d := e.dst) (fun t ht hh => by rw [f2] at ht; exact hd2 t hh ht)]
  cases d <;> rfl
theorem b0X {o : Oper} {s : St} {d : Option Tmp} {u : TV} (hd1 : ∀ t, d = some t → t ∉ o.looksAt ops) : ∀ x ∈ o.op.operands, (s.put d u).get x = s.get x := by
 intro x hx
 refine C8 fun t e => ?_
 have htl : t ∈ o.looksAt ops := u7 (by rw [← e]; exact hx)
 unfold St.put
 cases d with
 | none => rfl
 | some d => exact List.getElem?_set_ne (fun e => by subst e; exact hd1 _ rfl htl)
omit [Flat E] in
theorem b7Z {o : Oper} {ft : Option Nat} {nm : Nat} {s : St} {d : Option Tmp} {u : TV} (hd1 : ∀ t, d = some t → t ∉ o.looksAt ops) (hd2 : ∀ t, d = some t → o.dst ≠ some t) (hw : a2H o.op = true) :
  opV E ops ft nm o (s.put d u) = (opV E ops ft nm o s).map (·.put d u) := by
 unfold opV
 rw [a1L (b0X hd1)]
 split
 ·exact b05 hd1 hd2 hw
 ·rfl
theorem a6I {o : Oper} {ft : Option Nat} {nm : Nat} {s s1 : St} {d : Option Tmp} {u : TV} (hd1 : ∀ t, d = some t → t ∉ o.looksAt ops) (hd2 : ∀ t, d = some t → o.dst ≠ some t) (h : opV E ops ft nm o s = some s1) :
  opV E ops ft nm o (s.put d u) = some (s1.put d u) := by
 obtain ⟨h1, h2⟩ := I5.1 h
 exact I5.2 ⟨by rw [a1L (b0X hd1)]; exact h1, b4y hd1 hd2 h2⟩
theorem b1b {y : Option Tmp} {u : TV} : ∀ {L : List Nat} {A C : St}, (∀ j ∈ L, ∀ oj, ops[j]? = some oj → (∀ t, y = some t → t ∉ oj.looksAt ops) ∧ ∀ t, y = some t → oj.dst ≠ some t) → a0Y E ops fts nmOf L A = some C →
  a0Y E ops fts nmOf L (A.put y u) = some (C.put y u)
 | [], A, C, _, h => by cases h; rfl
 | j :: r, A, C, hL, h => by
  simp only [a0Y] at h ⊢
  cases ho : ops[j]? with
  | none => rw [ho] at h; cases h
  | some oj =>
   rw [ho] at h
   simp only [Option.bind_eq_some_iff] at h ⊢
   obtain ⟨A1, h1, h2⟩ := h
   obtain ⟨k1, k2⟩ := hL j (by simp) oj ho
   exact ⟨_, a6I k1 k2 h1, b1b (fun i hi => hL i (by simp [hi])) h2⟩
omit [Flat E] in
theorem a6o : ∀ {L : List Nat} {A C : St} {t : Nat}, (∀ j ∈ L, ∀ oj, ops[j]? = some oj → oj.dst ≠ some t) → a0Y E ops fts nmOf L A = some C → C.tmps[t]? = A.tmps[t]?
 | [], A, C, _, _, h => by cases h; rfl
 | j :: r, A, C, t, hL, h => by
  simp only [a0Y] at h
  cases ho : ops[j]? with
  | none => rw [ho] at h; cases h
  | some oj =>
   rw [ho] at h
   simp only [Option.bind_eq_some_iff] at h
   obtain ⟨A1, h1, h2⟩ := h
   rw [a6o (fun i hi => hL i (by simp [hi])) h2, a8j h1 (hL j (by simp) oj ho)]
theorem b7x {o : Oper} {i : Nat} (ho : ops[i]? = some o) (hw : a2F E o.op = true) {L R : List Nat} (hL : ∀ j ∈ L, ∀ oj, ops[j]? = some oj → oj.apart ops o = true) {A F : St}
  (h : a0Y E ops fts nmOf (L ++ i :: R) A = some F) : ∃ A', opV E ops (fts.getD i none) (nmOf i) o A = some A' ∧ a0Y E ops fts nmOf (L ++ R) A' = some F := by
 rw [X7, Option.bind_eq_some_iff] at h
 obtain ⟨C, h1, h2⟩ := h
 simp only [a0Y, ho, Option.bind_eq_some_iff] at h2
 obtain ⟨C1, h2, h3⟩ := h2
 have ht : ∀ t, t ∈ o.looksAt ops → A.tmps[t]? = C.tmps[t]? := fun t htl => (a6o (fun j hj oj hoj hd => (Oper.apart_spec (hL j hj oj hoj)).1 t hd htl) h1).symm
 obtain ⟨v, rfl, g⟩ := a87 hw (s2 := A) (fun x hx => C8 fun t e => ht t (u7 (by rw [← e]; exact hx))) (fun j want d hg hd => ht d (M3 hg hd)) h2
 refine ⟨_, g, ?_⟩
 rw [X7, b1b (fun j hj oj hoj => ?_) h1]
 ·exact h3
 ·obtain ⟨_, a2, a3⟩ := Oper.apart_spec (hL j hj oj hoj)
  exact ⟨fun t ht => a3 t ht, fun t ht hd => a2 t hd ht⟩
omit [Flat E] in
theorem b5E {o : Oper} {i : Nat} (ho : ops[i]? = some o) (hw : a2H o.op = true) {R : List Nat} : ∀ {L : List Nat} {A F : St}, (∀ j ∈ L, ∀ oj, ops[j]? = some oj → oj.apart ops o = true ∧ a2F E oj.op = true) →
  a0Y E ops fts nmOf (L ++ i :: R) A = some F → ∃ A', opV E ops (fts.getD i none) (nmOf i) o A = some A' ∧ a0Y E ops fts nmOf (L ++ R) A' = some F
 | [], A, F, _, h => by
  simp only [List.nil_append, a0Y, ho, Option.bind_eq_some_iff] at h
  exact h
 | j :: r, A, F, hL, h => by
  simp only [List.cons_append, a0Y] at h
  cases hoj : ops[j]? with
  | none => rw [hoj] at h; cases h
  | some oj =>
   rw [hoj] at h
   simp only [Option.bind_eq_some_iff] at h
   obtain ⟨A1, h1, h2⟩ := h
   obtain ⟨hap, hrg⟩ := hL j (by simp) oj hoj
   obtain ⟨a1, a2, a3⟩ := Oper.apart_spec hap
   obtain ⟨A1', g1, g2⟩ := b5E ho hw (fun k hk => hL k (by simp [hk])) h2
   obtain ⟨v, hv, _⟩ := a87 hrg (s2 := A) (fun _ _ => rfl) (fun _ _ _ _ _ => rfl) h1
   subst hv
   rw [b7Z (fun t ht => a1 t ht) (fun t ht hd => a2 t ht hd) hw, Option.map_eq_some_iff] at g1
   obtain ⟨A', k1, rfl⟩ := g1
   refine ⟨A', k1, ?_⟩
   have ht : ∀ t, t ∈ oj.looksAt ops → A'.tmps[t]? = A.tmps[t]? := fun t htl => a8j k1 (fun hd => a3 t hd htl)
   obtain ⟨v', e1, e2⟩ := a87 hrg (s2 := A') (fun x hx => C8 fun t e => ht t (u7 (by rw [← e]; exact hx))) (fun j want d hg hd => ht d (M3 hg hd)) h1
   simp only [List.cons_append, a0Y, hoj]
   rw [e2]
   have : A'.put oj.dst v' = A'.put oj.dst v := by
    cases hdst : oj.dst with
    | none => rfl
    | some d =>
     rw [hdst] at e1
     simp only [St.put, St.mk.injEq, and_true] at e1 ⊢
     have hA' : A'.tmps[d]? = A.tmps[d]? := a8j k1 (a2 d hdst)
     by_cases hd : d < A.tmps.length
     ·have := congrArg (fun l => l[d]?) e1
      simp only [List.getElem?_set_self hd, Option.some.injEq] at this
      rw [this]
     ·rw [List.getElem?_eq_none (l := A.tmps) (Nat.le_of_not_lt hd)] at hA'
      have hge := List.getElem?_eq_none_iff.1 hA'
      rw [List.set_eq_of_length_le hge, List.set_eq_of_length_le hge]
   rw [this]
   exact g2
def b55 (E : AE) (lk : Option Ob) (t : TypeId) (b : Nat) (i : Option Nat) (v : TV) : T (List Seg) :=
 match E.ty t, lk with
 | some ti, some ob => match ob.own with
  | .ro => .fail
  | _ => match ti.td.agg, v with
   | true, .one (.agg l) => match Nat.beq (E2 l) ti.size with
    | true => a2m ob.segs b i ti.size l
    | false => .fail
   | false, .one (.sc a) => a0h (Y1 i a) ob.segs b
   | _, _ => .fail
 | _, _ => .fail
def b70 : Option Ob → OM
 | some b => b.own
 | none => .ro
omit [Flat E] in
theorem b37 {st : St} {t : TypeId} {ob b : Nat} {i : Option Nat} {v : TV} : a59 E st t ob b i v = (b55 E (st.look ob) t b i v).bind fun l' => .ret (st.upd ob (b70 (st.look ob)) l') := by
 unfold a59 b55
 cases E.ty t with
 | none => rfl
 | some ti =>
  cases st.look ob with
  | none => rfl
  | some ob' =>
   simp only [b70]
   cases ob'.own with
   | ro => rfl
   | _ =>
    cases ti.td.agg with
    | true =>
     cases v with
     | tup l => rfl
     | one v =>
      cases v with
      | any => rfl
      | sc x => rfl
      | agg l =>
       simp only
       cases Nat.beq (E2 l) ti.size <;> rfl
    | false =>
     cases v with
     | tup l => rfl
     | one v => cases v <;> rfl
omit [Flat E] in
theorem b6s {s s2 : St} {t : TypeId} {ob b : Nat} {i : Option Nat} (h : s2.look ob = s.look ob) : a4R E s2 t ob b i = a4R E s t ob b i := by
 unfold a4R
 rw [h]
def b94 (E : AE) (ops : Array Oper) (n nm : Nat) (o : Oper) (s s1 : St) : Prop :=
 ∃ v, s1 = s.put o.dst v ∧ ∀ s2 : St, (∀ x ∈ o.op.operands, s2.get x = s.get x) → s2.look n = s.look n → opV E ops (some n) nm o s2 = some (s2.put o.dst v)
def bnd (s : St) (b : Option Operand) (d m : Nat) : Option Nat := (A3 s b d m T.ret).val
omit [Flat E] in
theorem a3F {α : Type} {s : St} {b : Option Operand} {d m : Nat} {f : Nat → T α} {x : α} : (A3 s b d m f).val = some x ↔ ∃ k, bnd s b d m = some k ∧ (f k).val = some x := by
 have h : A3 s b d m f = (A3 s b d m T.ret).bind f := by
  unfold A3
  repeat' first | rfl | split
 rw [h, T.val_bind_iff]
 rfl
omit [Flat E] in
theorem b5t {s s2 : St} {b : Option Operand} {d m : Nat} (h : ∀ y, b = some y → s2.get y = s.get y) : bnd s2 b d m = bnd s b d m := by
 unfold bnd A3
 cases b with
 | none => rfl
 | some y => simp only [h y rfl]
omit [Flat E] in
theorem b1F {o : Oper} {n nm : Nat} {s s1 : St} (h : opV E ops (some n) nm o s = some s1) :
  o.guard = none ∧ (∃ p b i, p ∈ o.op.operands ∧ s.get p = .one (.sc (.ptr n b i))) ∧ (b94 E ops n nm o s s1 ∨
   (∃ t p v b i l, o.op = .store t p v ∧ s.get p = .one (.sc (.ptr n b i)) ∧ (b55 E (s.look n) t b i (s.get v)).val = some l ∧ s1 = (s.upd n (b70 (s.look n)) l).put o.dst (.one .any))) := by
 obtain ⟨h1, h2⟩ := I5.1 h
 unfold a4m at h1
 simp only at h1
 split at h1
 ·rename_i p hg hp
  refine ⟨hg, ?_⟩
  split at h1
  ·rename_i ob b i hget
   have he := i5 h1
   subst he
   have foot : ∀ s2 : St, s2.get p = s.get p → a4m (some ob) o s2 = true := by
    intro s2 e
    unfold a4m
    simp only [hg, hp, e, hget]
    exact Nat.beq_refl ob
   unfold a1V at h2
   rw [hg] at h2
   simp only at h2
   cases ho : o.op <;> rw [ho] at hp <;> simp only [a4S] at hp <;> try (cases hp; done)
   ·rename_i t q
    have hpq : q = p := Option.some.inj hp
    subst hpq
    simp only [j8, ho, hget, T.val_bind_iff, T.val_ret] at h2
    obtain ⟨x, g1, rfl⟩ := h2
    refine ⟨⟨q, b, i, by simp [Op.operands], hget⟩, .inl ⟨.one x, rfl, fun s2 k1 k2 => ?_⟩⟩
    have kp := k1 q (by rw [ho]; simp [Op.operands])
    refine I5.2 ⟨foot s2 kp, ?_⟩
    unfold a1V
    simp only [hg, j8, ho, kp, hget, T.val_bind_iff, T.val_ret]
    exact ⟨x, by rw [b6s k2]; exact g1, rfl⟩
   ·rename_i t q v
    cases hp
    simp only [j8, ho, hget, b37, T.val_bind_iff, T.val_ret] at h2
    obtain ⟨s', ⟨l, g1, rfl⟩, rfl⟩ := h2
    exact ⟨⟨_, b, i, by simp [Op.operands], hget⟩, .inr ⟨t, _, v, b, i, l, rfl, hget, g1, rfl⟩⟩
   ·rename_i t q lo hi mx
    cases mx with
    | some m => cases hp
    | none =>
     have hpq : q = p := Option.some.inj hp
     subst hpq
     refine ⟨⟨q, b, i, by simp [Op.operands], hget⟩, .inl ?_⟩
     simp only [j8, ho, hget] at h2
     unfold b1f at h2
     split at h2
     ·rename_i n e size bytes zero o' b' hty hx
      cases hx
      split at h2
      ·rename_i te ob' hte hlk
       split at h2
       ·rename_i hble
        rw [a3F] at h2
        obtain ⟨h, e1, h2⟩ := h2
        rw [a3F] at h2
        obtain ⟨l, e2, h2⟩ := h2
        rw [T.val_ret] at h2
        refine ⟨.one (.sc (.sl ob (a7y b (b67 l te.size)) (a2G h l) (a2G n l) te.size)), h2.symm, fun s2 k1 k2 => ?_⟩
        have kp := k1 q (by rw [ho]; simp [Op.operands])
        have hlo : ∀ y, lo = some y → s2.get y = s.get y := fun y e => k1 y (by rw [ho]; subst e; simp [Op.operands])
        have hhi : ∀ y, hi = some y → s2.get y = s.get y := fun y e => k1 y (by rw [ho]; subst e; simp [Op.operands])
        refine I5.2 ⟨foot s2 kp, ?_⟩
        unfold a1V
        simp only [hg, j8, ho, kp, hget]
        unfold b1f
        simp only [hty, hte, k2, hlk, hble]
        rw [a3F]
        refine ⟨h, by rw [← e1]; exact b5t hhi, ?_⟩
        rw [a3F]
        exact ⟨l, by rw [← e2]; exact b5t hlo, by rw [T.val_ret]; rfl⟩
       ·simp [T.val_fail] at h2
      ·simp [T.val_fail] at h2
     all_goals first | (rename_i hx; cases hx; done) | simp [T.val_fail] at h2
  ·cases h1
 ·cases h1
omit [Flat E] in
theorem b26 {o : Oper} {n nm : Nat} {s : St} {t : TypeId} {p v : Operand} {b : Nat} {i : Option Nat} {l : List Seg} (hg : o.guard = none) (ho : o.op = .store t p v) (hget : s.get p = .one (.sc (.ptr n b i))) (h : (b55 E (s.look n) t b i (s.get v)).val = some l) :
  opV E ops (some n) nm o s = some ((s.upd n (b70 (s.look n)) l).put o.dst (.one .any)) := by
 refine I5.2 ⟨?_, ?_⟩
 ·unfold a4m
  simp only [hg, ho, a4S, hget]
  exact Nat.beq_refl n
 ·unfold a1V
  simp only [hg, j8, ho, hget, b37, T.val_bind_iff, T.val_ret]
  exact ⟨_, ⟨l, h, rfl⟩, rfl⟩
theorem a8m {s : St} {n m : Nat} {md : OM} {l : List Seg} (h : n ≠ m) : (s.upd m md l).look n = s.look n := by
 unfold St.look St.upd
 simp only
 rw [List.getElem?_set_ne (Ne.symm h)]
theorem b5l {s : St} {n : Nat} {md : OM} {l : List Seg} {d : Option Tmp} {u : TV} : (s.put d u).upd n md l = (s.upd n md l).put d u := by
 unfold St.upd St.put; cases d <;> rfl
theorem b2w {s : St} {n : Nat} {md : OM} {l : List Seg} (x : Operand) : (s.upd n md l).get x = s.get x := by cases x <;> rfl
theorem c0N {s : St} {n m : Nat} {md md' : OM} {l l' : List Seg} (h : n ≠ m) : (s.upd n md l).upd m md' l' = (s.upd m md' l').upd n md l := by
 unfold St.upd
 simp only
 rw [List.set_comm _ _ h]
def b1l (s : St) (n : Nat) : Prop := ∃ x, s.mem[n]? = some x ∧ x ≠ .free
def Mix (E : AE) (fj fi : Option Nat) (oj o : Oper) : Prop := a2F E oj.op = true ∨ (a2H oj.op = false ∧ a2H o.op = false) ∨ a3I fj fi = true
theorem b21 {oj o : Oper} {fj : Option Nat} {n nj : Nat} {A A1 : St} (hmix : Mix E fj (some n) oj o) (hn : b1l A n) (h : opV E ops fj nj oj A = some A1) : A1.look n = A.look n ∧ b1l A1 n := by
 rcases hmix with hr | ⟨hw, _⟩ | hd
 ·obtain ⟨v, rfl, _⟩ := a87 hr (s2 := A) (fun _ _ => rfl) (fun _ _ _ _ _ => rfl) h
  exact ⟨S5 _ _ _ _, by unfold b1l; rw [a9B]; exact hn⟩
 ·obtain ⟨e, rfl, hf, _⟩ := a6p (Q1 oj A) hw h
  obtain ⟨x, hx, hxf⟩ := hn
  have hk := (Grew.app A e hf).keep n (by rw [hx]; simpa using hxf)
  refine ⟨by unfold St.look; rw [hk], x, by rw [hk, hx], hxf⟩
 ·cases fj with
  | none => cases hd
  | some m =>
   have hne : n ≠ m := by
    intro e
    subst e
    simp only [a3I, Nat.beq_refl, Bool.not_true, Bool.false_eq_true] at hd
   obtain ⟨_, _, h | h⟩ := b1F h
   ·obtain ⟨v, rfl, _⟩ := h
    exact ⟨S5 _ _ _ _, by unfold b1l; rw [a9B]; exact hn⟩
   ·obtain ⟨t, p, v, b, i, l, _, _, _, rfl⟩ := h
    refine ⟨by rw [S5, a8m hne], ?_⟩
    unfold b1l
    rw [a9B]
    simp only [St.upd]
    rw [List.getElem?_set_ne (Ne.symm hne)]
    exact hn
theorem b9E {oj o : Oper} {fj : Option Nat} {n nj ni : Nat} {A A1 A2 : St} (hap : oj.apart ops o = true) (hmix : Mix E fj (some n) oj o) (hn : b1l A n)
  (h1 : opV E ops fj nj oj A = some A1) (h2 : opV E ops (some n) ni o A1 = some A2) : ∃ A', opV E ops (some n) ni o A = some A' ∧ opV E ops fj nj oj A' = some A2 := by
 obtain ⟨a1, a2, a3⟩ := Oper.apart_spec hap
 obtain ⟨hlook, _⟩ := b21 hmix hn h1
 have hget : ∀ x ∈ o.op.operands, A.get x = A1.get x := fun x hx => C8 fun t e => (a8j h1 (fun hd => a1 t hd (u7 (by rw [← e]; exact hx)))).symm
 obtain ⟨hg, _, h | h⟩ := b1F h2
 ·obtain ⟨v, rfl, hrd⟩ := h
  refine ⟨_, hrd A hget hlook.symm, ?_⟩
  exact a6I (fun t ht => a3 t ht) (fun t ht hd => a2 t hd ht) h1
 ·obtain ⟨t, p, v, b, i, l, ho, hp, hl, rfl⟩ := h
  have hgv : A.get v = A1.get v := hget v (by rw [ho]; simp [Op.operands])
  refine ⟨_, b26 hg ho (by rw [hget p (by rw [ho]; simp [Op.operands]), hp]) (by rw [hlook] at hl; rw [hgv]; exact hl), ?_⟩
  refine a6I (fun t ht => a3 t ht) (fun t ht hd => a2 t hd ht) ?_
  rw [hlook]
  rcases hmix with hr | ⟨_, hw⟩ | hd
  ·obtain ⟨u, rfl, g⟩ := a87 hr (s2 := A.upd n (b70 (A.look n)) l) (fun x _ => b2w x) (fun _ _ _ _ _ => rfl) h1
   rw [g, b5l]
  ·rw [ho] at hw; cases hw
  ·cases fj with
   | none => cases hd
   | some m =>
    have hne : n ≠ m := by
     intro e
     subst e
     simp only [a3I, Nat.beq_refl, Bool.not_true, Bool.false_eq_true] at hd
    obtain ⟨hgj, _, h | h⟩ := b1F h1
    ·obtain ⟨vj, rfl, hrd⟩ := h
     rw [hrd _ (fun x _ => b2w x) (a8m (Ne.symm hne)), b5l]
    ·obtain ⟨tj, pj, vj, bj, ij, lj, hoj, hpj, hlj, rfl⟩ := h
     rw [b26 hgj hoj (by rw [b2w, hpj]) (by rw [a8m (Ne.symm hne), b2w]; exact hlj), b5l, a8m (Ne.symm hne), c0N hne]
theorem b2R {o : Oper} {i n : Nat} (ho : ops[i]? = some o) (hf : fts.getD i none = some n) {R : List Nat} : ∀ {L : List Nat} {A F : St}, (∀ j ∈ L, ∀ oj, ops[j]? = some oj → oj.apart ops o = true ∧ Mix E (fts.getD j none) (some n) oj o) → b1l A n →
  a0Y E ops fts nmOf (L ++ i :: R) A = some F → ∃ A', opV E ops (fts.getD i none) (nmOf i) o A = some A' ∧ a0Y E ops fts nmOf (L ++ R) A' = some F
 | [], A, F, _, _, h => by
  simp only [List.nil_append, a0Y, ho, Option.bind_eq_some_iff] at h
  exact h
 | j :: r, A, F, hL, hn, h => by
  simp only [List.cons_append, a0Y] at h
  cases hoj : ops[j]? with
  | none => rw [hoj] at h; cases h
  | some oj =>
   rw [hoj] at h
   simp only [Option.bind_eq_some_iff] at h
   obtain ⟨A1, h1, h2⟩ := h
   obtain ⟨hap, hmix⟩ := hL j (by simp) oj hoj
   obtain ⟨A1', g1, g2⟩ := b2R ho hf (fun k hk => hL k (by simp [hk])) (b21 hmix hn h1).2 h2
   rw [hf] at g1 ⊢
   obtain ⟨A', k1, k2⟩ := b9E hap hmix hn h1 g1
   refine ⟨A', k1, ?_⟩
   simp only [List.cons_append, a0Y, hoj, k2, Option.bind_some]
   exact g2
theorem b6u {ms : List Nat} {o : Oper} {j : Nat} (h : (b23 ms o).testBit j = true) : ∃ e ∈ o.after, Region.binds .any e = true ∧ (e.on = j ∨ (ms.getD e.on 0).testBit j = true) := by
 unfold b23 at h
 have key : ∀ (l : List Edge) (s : Nat), (l.foldl (fun s e => if Region.binds .any e then s ||| 2 ^ e.on ||| ms.getD e.on 0 else s) s).testBit j = true → s.testBit j = true ∨ ∃ e ∈ l, Region.binds .any e = true ∧ (e.on = j ∨ (ms.getD e.on 0).testBit j = true) := by
  intro l
  induction l with
  | nil => intro s h; exact .inl h
  | cons e r ih =>
   intro s h
   rw [List.foldl_cons] at h
   rcases ih _ h with h | ⟨e', he', hb⟩
   ·split at h
    ·rename_i hb
     rw [Nat.testBit_or, Nat.testBit_or, Bool.or_eq_true, Bool.or_eq_true] at h
     rcases h with (h | h) | h
     ·exact .inl h
     ·rw [Nat.testBit_two_pow] at h
      exact .inr ⟨e, by simp, hb, .inl (by simpa using h)⟩
     ·exact .inr ⟨e, by simp, hb, .inr h⟩
    ·exact .inl h
   ·exact .inr ⟨e', by simp [he'], hb⟩
 rcases key o.after.toList 0 h with h | ⟨e, he, hb⟩
 ·simp at h
 ·exact ⟨e, Array.mem_toList_iff.1 he, hb⟩
structure Held (E : AE) (fts : List (Option Nat)) (ops : Array Oper) (pre : List Oper) (ms : List Nat) : Prop where
 len : ms.length = pre.length
 edge : ∀ (i : Nat) (o : Oper), pre[i]? = some o → ∀ e ∈ o.after, Region.binds .any e = true → e.on < i
 mask : ∀ (i : Nat) (o : Oper) (m : Nat), pre[i]? = some o → ms[i]? = some m → ∀ j : Nat, m.testBit j = true → ∃ e ∈ o.after, Region.binds .any e = true ∧ (e.on = j ∨ ∃ m', ms[e.on]? = some m' ∧ m'.testBit j = true)
 pair : ∀ (i : Nat) (o : Oper) (m j : Nat) (oj : Oper), pre[i]? = some o → ms[i]? = some m → j < i → pre[j]? = some oj → m.testBit j = true ∨ b4m E fts ops j oj i o = true
omit [Flat E] in
theorem a2h : ∀ {r pre : List Oper} {ms : List Nat}, a0x E fts ops r pre ms = true → Held E fts ops pre ms → ∃ ms', Held E fts ops (pre ++ r) ms'
 | [], pre, ms, _, hc => ⟨ms, by simpa using hc⟩
 | o :: r, pre, ms, h, hc => by
  simp only [a0x, Bool.and_eq_true] at h
  obtain ⟨⟨h1, h2⟩, h3⟩ := h
  have hedge : ∀ e ∈ o.after, Region.binds .any e = true → e.on < pre.length := by
   intro e he hb
   have := Array.all_eq_true_iff_forall_mem.1 h1 e he
   simp only [hb, Bool.not_true, Bool.false_or] at this
   exact a91 this
  have hnew : Held E fts ops (pre ++ [o]) (ms ++ [b23 ms o]) := by
   refine ⟨by simp [hc.len], fun i o' ho' e he hb => ?_, fun i o' m' ho' hm' j hj => ?_, fun i o' m' j oj ho' hm' hji hoj => ?_⟩
   ·rw [List.getElem?_append] at ho'
    split at ho'
    ·exact hc.edge i o' ho' e he hb
    ·rename_i hge
     have : i - pre.length = 0 := by
      have := (List.getElem?_eq_some_iff.1 ho').1
      simp at this; omega
     rw [this] at ho'
     cases ho'
     have := hedge e he hb
     omega
   ·rw [List.getElem?_append] at ho' hm'
    rw [hc.len] at hm'
    split at ho'
    ·rename_i hlt
     rw [if_pos hlt] at hm'
     obtain ⟨e, he, hb, hcase⟩ := hc.mask i o' m' ho' hm' j hj
     refine ⟨e, he, hb, hcase.imp id ?_⟩
     rintro ⟨m2, h2, h3⟩
     exact ⟨m2, by rw [List.getElem?_append_left (List.getElem?_eq_some_iff.1 h2).1]; exact h2, h3⟩
    ·rename_i hge
     rw [if_neg hge] at hm'
     have h0 : i - pre.length = 0 := by
      have := (List.getElem?_eq_some_iff.1 ho').1
      simp at this; omega
     rw [h0] at ho' hm'
     cases ho'
     cases hm'
     obtain ⟨e, he, hb, hcase⟩ := b6u hj
     refine ⟨e, he, hb, hcase.imp id ?_⟩
     intro ht
     have hlt := hedge e he hb
     refine ⟨ms.getD e.on 0, ?_, ht⟩
     rw [List.getElem?_append_left (by rw [hc.len]; exact hlt), List.getD_eq_getElem?_getD, List.getElem?_eq_getElem (by rw [hc.len]; exact hlt)]
     rfl
   ·rw [List.getElem?_append] at ho' hm'
    rw [hc.len] at hm'
    split at ho'
    ·rename_i hlt
     rw [if_pos hlt] at hm'
     rw [List.getElem?_append_left (by omega)] at hoj
     exact hc.pair i o' m' j oj ho' hm' hji hoj
    ·rename_i hge
     rw [if_neg hge] at hm'
     have h0 : i - pre.length = 0 := by
      have := (List.getElem?_eq_some_iff.1 ho').1
      simp at this; omega
     rw [h0] at ho' hm'
     cases ho'
     cases hm'
     have hjl : j < pre.length := by omega
     rw [List.getElem?_append_left hjl] at hoj
     have hmem : (j, oj) ∈ (List.range pre.length).zip pre := by
      rw [List.mem_iff_getElem?]
      refine ⟨j, ?_⟩
      rw [List.getElem?_zip_eq_some]
      exact ⟨by simp [hjl], hoj⟩
     have hall := List.all_eq_true.1 h2 _ hmem
     rw [show i = pre.length by omega]
     simpa using hall
  have := a2h h3 hnew
  simpa using this
omit [Flat E] in
theorem a4D {ms : List Nat} (hc : Held E fts ops ops.toList ms) {X : Nat → Prop} (hcl : ∀ k o, ops[k]? = some o → ¬ X k → ∀ e ∈ o.after, Region.binds .any e = true → ¬ X e.on) :
  ∀ (i : Nat) (o : Oper) (m : Nat), ops[i]? = some o → ms[i]? = some m → (∀ e ∈ o.after, Region.binds .any e = true → ¬ X e.on) → ∀ j, m.testBit j = true → ¬ X j := by
 intro i
 induction i using Nat.strongRecOn with
 | _ i ih =>
  intro o m ho hm hpre j hj
  have ho' : ops.toList[i]? = some o := by rw [Array.getElem?_toList]; exact ho
  obtain ⟨e, he, hb, hcase⟩ := hc.mask i o m ho' hm j hj
  have hX := hpre e he hb
  rcases hcase with rfl | ⟨m', hm', hj'⟩
  ·exact hX
  ·have hlt := hc.edge i o ho' e he hb
   have hsz : e.on < ops.size := by
    have := (Array.getElem?_eq_some_iff.1 ho).1
    omega
   obtain ⟨oe, hoe⟩ : ∃ oe, ops[e.on]? = some oe := ⟨ops[e.on], Array.getElem?_eq_getElem hsz⟩
   exact ih e.on hlt oe m' hoe hm' (hcl e.on oe hoe hX) j hj'
theorem b9I {Q : Exit → Act → World → Prop} (hE : E.Ok P) {ms : List Nat} (hc : Held E fts ops ops.toList ms) {F : St} {ρ0 : Env} (hQ : ∀ a' w' ρ', ρ0.le ρ' → Rel ρ' B w0 F a' w' → Q .normal a' w') :
  ∀ (fuel : Nat) (R : List Nat) (listed : Array Bool) (ρ : Env) (A : St) (a : Act) (w : World), R.length = fuel → R.Pairwise (· < ·) → (∀ i, i ∈ R ↔ i < ops.size ∧ listed.getD i true = false) → listed.size = ops.size →
   (∀ k o, ops[k]? = some o → k ∉ R → ∀ e ∈ o.after, Region.binds .any e = true → e.on ∉ R) → ρ0.le ρ → Rel ρ B w0 A a w → a0Y E ops fts nmOf R A = some F → wpAny P .any ops Q fuel listed a w := by
 intro fuel
 induction fuel with
 | zero =>
  intro R listed ρ A a w hl _ hmem _ _ hle hr h
  have : R = [] := List.eq_nil_of_length_eq_zero hl
  subst this
  cases h
  refine ⟨?_, hQ _ _ _ hle hr⟩
  rw [List.eq_nil_iff_forall_not_mem]
  intro i hi
  obtain ⟨h1, o, ho, _⟩ := mem_ready.1 hi
  have := (hmem i).2 ⟨(Array.getElem?_eq_some_iff.1 ho).1, h1⟩
  simp at this
 | succ fuel ih =>
  intro R listed ρ A a w hl hsort hmem hsize hcl hle hr h
  refine ⟨fun hnil => ?_, fun i hi => ?_⟩
  ·exfalso
   cases R with
   | nil => simp at hl
   | cons i r =>
    obtain ⟨h1, h2⟩ := (hmem i).1 (by simp)
    obtain ⟨o, ho⟩ : ∃ o, ops[i]? = some o := ⟨ops[i], Array.getElem?_eq_getElem h1⟩
    have : i ∈ Region.ready .any ops listed := by
     refine mem_ready.2 ⟨h2, o, ho, fun e he hb => ?_⟩
     have hlt := hc.edge i o (by rw [Array.getElem?_toList]; exact ho) e he hb
     have hnot : e.on ∉ i :: r := by
      intro hm
      rcases List.mem_cons.1 hm with hm | hm
      ·omega
      ·have := List.rel_of_pairwise_cons hsort hm
       omega
     have : ¬ (e.on < ops.size ∧ listed.getD e.on true = false) := fun hh => hnot ((hmem _).2 hh)
     have hsz : e.on < listed.size := by omega
     cases hg : listed.getD e.on true with
     | false => exact absurd ⟨by omega, hg⟩ this
     | true =>
      rw [Array.getD_eq_getD_getElem?, Array.getElem?_eq_getElem hsz] at hg ⊢
      exact hg
    rw [hnil] at this
    simp at this
  ·obtain ⟨h1, o, ho, hpre⟩ := mem_ready.1 hi
   have hiR : i ∈ R := (hmem i).2 ⟨(Array.getElem?_eq_some_iff.1 ho).1, h1⟩
   obtain ⟨L, R2, rfl⟩ := List.append_of_mem hiR
   have hsort' := hsort
   rw [List.pairwise_append] at hsort
   obtain ⟨_, hs2, hs3⟩ := hsort
   have hpreX : ∀ e ∈ o.after, Region.binds .any e = true → e.on ∉ L ++ i :: R2 := by
    intro e he hb hm
    have := (hmem e.on).1 hm
    have h2 := hpre e he hb
    rw [Array.getD_eq_getD_getElem?, Array.getElem?_eq_getElem (show e.on < listed.size by omega)] at h2 this
    simp only [Option.getD_some] at h2 this
    rw [h2] at this
    cases this.2
   obtain ⟨m, hm⟩ : ∃ m, ms[i]? = some m := by
    have hlt := (Array.getElem?_eq_some_iff.1 ho).1
    exact ⟨_, List.getElem?_eq_getElem (show i < ms.length by rw [hc.len]; simpa using hlt)⟩
   have hind : ∀ j ∈ L, ∀ oj, ops[j]? = some oj → b4m E fts ops j oj i o = true := by
    intro j hj oj hoj
    have hji : j < i := hs3 j hj i (by simp)
    rcases hc.pair i o m j oj (by rw [Array.getElem?_toList]; exact ho) hm hji (by rw [Array.getElem?_toList]; exact hoj) with hb | hb
    ·exact absurd (show j ∈ L ++ i :: R2 by simp [hj]) (a4D hc (X := fun k => k ∈ L ++ i :: R2) hcl i o m ho hm hpreX j hb)
    ·exact hb
   have hfront : ∃ A', opV E ops (fts.getD i none) (nmOf i) o A = some A' ∧ a0Y E ops fts nmOf (L ++ R2) A' = some F := by
    cases L with
    | nil =>
     simp only [List.nil_append, a0Y, ho, Option.bind_eq_some_iff] at h
     exact h
    | cons j0 L' =>
     have hap0 : ∀ j ∈ j0 :: L', ∀ oj, ops[j]? = some oj → oj.apart ops o = true ∧ ((a2H oj.op = false ∧ a2H o.op = false) ∨ a2F E oj.op = true ∨ a2F E o.op = true ∨ a3I (fts.getD j none) (fts.getD i none) = true) := by
      intro j hj oj hoj
      have := hind j hj oj hoj
      simp only [b4m, Bool.and_eq_true, Bool.or_eq_true, Bool.not_eq_true'] at this
      refine ⟨this.1, ?_⟩
      rcases this.2 with ((h | h) | h) | h
      ·exact .inl h
      ·exact .inr (.inl h)
      ·exact .inr (.inr (.inl h))
      ·exact .inr (.inr (.inr h))
     cases hro : a2F E o.op with
     | true => exact b7x ho hro (fun j hj oj hoj => (hap0 j hj oj hoj).1) h
     | false =>
      cases hf : fts.getD i none with
      | some n =>
       rw [← hf]
       have hheld : b1l A n := by
        rw [X7, Option.bind_eq_some_iff] at h
        obtain ⟨C, c1, c2⟩ := h
        simp only [a0Y, ho, Option.bind_eq_some_iff] at c2
        obtain ⟨C1, c2, _⟩ := c2
        rw [hf] at c2
        have key : ∀ p b ix, p ∈ o.op.operands → C.get p = .one (.sc (.ptr n b ix)) → b1l A n := by
         intro p b ix hpo hp
         have hget : A.get p = C.get p := C8 fun t e => (a6o (fun j hj oj hoj hd => (Oper.apart_spec (hap0 j hj oj hoj).1).1 t hd (u7 (by rw [← e]; exact hpo))) c1).symm
         have hv := hr.get p
         rw [hget, hp] at hv
         obtain ⟨l, _, _, hl, _⟩ := hv
         cases hm : A.mem[n]? with
         | none => rw [hr.m.free n (.inl hm)] at hl; cases hl
         | some x => exact ⟨x, hm, fun e => by subst e; rw [hr.m.free n (.inr hm)] at hl; cases hl⟩
        obtain ⟨_, ⟨p, b, ix, hpo, hp⟩, _⟩ := b1F c2
        exact key p b ix hpo hp
       refine b2R ho hf (fun j hj oj hoj => ?_) hheld h
       obtain ⟨k1, k2⟩ := hap0 j hj oj hoj
       refine ⟨k1, ?_⟩
       rcases k2 with k2 | k2 | k2 | k2
       ·exact .inr (.inl k2)
       ·exact .inl k2
       ·rw [hro] at k2; cases k2
       ·exact .inr (.inr (by rw [← hf]; exact k2))
      | none =>
       have hap : ∀ j ∈ j0 :: L', ∀ oj, ops[j]? = some oj → oj.apart ops o = true ∧ ((a2H oj.op = false ∧ a2H o.op = false) ∨ a2F E oj.op = true ∨ a2F E o.op = true) := by
        intro j hj oj hoj
        obtain ⟨k1, k2⟩ := hap0 j hj oj hoj
        refine ⟨k1, ?_⟩
        rcases k2 with k2 | k2 | k2 | k2
        ·exact .inl k2
        ·exact .inr (.inl k2)
        ·exact .inr (.inr k2)
        ·rw [hf] at k2; cases hj2 : fts.getD j none <;> rw [hj2] at k2 <;> simp [a3I] at k2
       rw [← hf]
       cases hw : a2H o.op with
       | true =>
        refine b5E ho hw (fun j hj oj hoj => ?_) h
        obtain ⟨k1, k2⟩ := hap j hj oj hoj
        refine ⟨k1, ?_⟩
        rcases k2 with k2 | k2 | k2
        ·rw [hw] at k2; cases k2.2
        ·exact k2
        ·rw [hro] at k2; cases k2
       | false =>
        refine c1k ho hw (fun j hj oj hoj => ?_) hr h
        obtain ⟨k1, k2⟩ := hap j hj oj hoj
        refine ⟨?_, k1⟩
        rcases k2 with k2 | k2 | k2
        ·exact k2.1
        ·exact b9x k2
        ·rw [hro] at k2; cases k2
   obtain ⟨A', g1, g2⟩ := hfront
   have hs := a5A hE hr g1 (wpAny P .any ops Q fuel (listed.setIfInBounds i true)) Q fun a' w' ρ' hl' hr' => by
    have hin : i < listed.size := by have := (Array.getElem?_eq_some_iff.1 ho).1; omega
    have hnin : ∀ k, k ∈ L ++ R2 ↔ k ∈ L ++ i :: R2 ∧ k ≠ i := by
     intro k
     have hnd : i ∉ L ∧ i ∉ R2 := ⟨fun hh => by have := hs3 i hh i (by simp); omega, fun hh => by have := List.rel_of_pairwise_cons hs2 hh; omega⟩
     constructor
     ·intro hk
      rcases List.mem_append.1 hk with hk | hk
      ·exact ⟨by simp [hk], fun e => hnd.1 (e ▸ hk)⟩
      ·exact ⟨by simp [hk], fun e => hnd.2 (e ▸ hk)⟩
     ·rintro ⟨hk, hne⟩
      simp only [List.mem_append, List.mem_cons] at hk ⊢
      rcases hk with hk | hk | hk
      ·exact .inl hk
      ·exact absurd hk hne
      ·exact .inr hk
    refine ih (L ++ R2) _ ρ' A' a' w' (by simp at hl ⊢; omega) ?_ ?_ (by simpa using hsize) ?_ (hle.trans hl') hr' g2
    ·rw [List.pairwise_append] at hsort' ⊢
     exact ⟨hsort'.1, (List.pairwise_cons.1 hsort'.2.1).2, fun x hx y hy => hsort'.2.2 x hx y (by simp [hy])⟩
    ·intro k
     rw [hnin, hmem k]
     by_cases hk : k = i
     ·subst hk
      simp only [ne_eq, not_true_eq_false, and_false, false_iff, not_and]
      intro _
      rw [Array.getD_eq_getD_getElem?, Array.getElem?_setIfInBounds_self_of_lt hin]
      simp
     ·rw [getD_set_ne true (Ne.symm hk)]
      simp [hk]
    ·intro k ok hok hk e he hb hm'
     have hme := (hnin e.on).1 hm'
     by_cases hki : k = i
     ·subst hki
      rw [ho] at hok; cases hok
      exact hpreX e he hb hme.1
     ·exact hcl k ok hok (fun hh => hk ((hnin k).2 ⟨hh, hki⟩)) e he hb hme.1
   unfold wpOp
   rw [ho]
   simp only
   split
   ·rename_i hwd; rw [if_pos hwd] at hs; exact .inl hs
   ·rename_i hwd; rw [if_neg hwd] at hs; exact hs
end
end Go.Ax
namespace Go.Ax
open Go.RowKit
variable {P : Program}
def PCok (pc : PC) (st : St) : Prop := ∀ d b, PC.look pc d = some b → J5 st.tmps[d]? = some b
theorem PC.look_cons (e : Nat) (b : Bool) (r : PC) (d : Nat) : PC.look ((e, b) :: r) d = if e = d then some b else PC.look r d := by
 simp only [PC.look]
 split
 ·rename_i h; rw [if_pos (i5 h)]
 ·rename_i h; rw [if_neg (b6b h)]
theorem PC.forget_look : ∀ {pc : PC} {dst : Option Tmp} {d : Nat} {b : Bool}, PC.look (PC.forget pc dst) d = some b → dst ≠ some d ∧ PC.look pc d = some b
 | [], none, d, b, h => by simp [PC.forget, PC.look] at h
 | [], some e, d, b, h => by simp [PC.forget, PC.look] at h
 | (e, c) :: r, none, d, b, h => ⟨by simp, h⟩
 | (e, c) :: r, some t, d, b, h => by
  simp only [PC.forget] at h
  split at h
  ·rename_i he
   have he := i5 he
   obtain ⟨h1, h2⟩ := PC.forget_look h
   refine ⟨h1, ?_⟩
   rw [PC.look_cons, if_neg (fun hed => h1 (by rw [← he, hed]))]
   exact h2
  ·rename_i he
   have he := b6b he
   rw [PC.look_cons] at h ⊢
   split at h
   ·rename_i hed
    subst hed
    exact ⟨fun hh => he (Option.some.inj hh).symm, by rw [if_pos rfl]; exact h⟩
   ·rename_i hed
    obtain ⟨h1, h2⟩ := PC.forget_look h
    exact ⟨h1, by rw [if_neg hed]; exact h2⟩
section
variable {ρ : Env} {B : Nat} {w0 : Base} {st st' : St} {a : Act} {w : World} {nm : Nat} {o : Oper} {ops : Array Oper} {E : AE}
theorem b8y {v : Option TV} {b : Bool} (h : J5 v = some b) : b1y v = false := by
 cases v with
 | none => rfl
 | some v => cases v with
  | one v => rfl
  | tup l => cases h
theorem b1i {α : Type} {pc : PC} {K : St → T α} {r : α} (hpc : PCok pc st) (h : (b35 E nm pc o st K).val = some r) : ∃ s1, (j8 E nm o st).val = some s1 ∧ (K s1).val = some r := by
 unfold b35 at h
 split at h
 ·rename_i c x y ho
  split at h
  ·rename_i hl
   have hb := hpc c true hl
   refine ⟨_, ?_, h⟩
   simp only [j8, ho, St.get, List.getD]
   cases hv : st.tmps[c]? with
   | none => rw [hv] at hb; cases hb
   | some v =>
    rw [hv] at hb
    cases v with
    | tup l => cases hb
    | one v =>
     cases v with
     | any => cases hb
     | agg l => cases hb
     | sc v =>
      cases v <;> simp only [J5] at hb <;> first | (cases hb; done) | skip
      ·cases hb; simp [T.val_ret]
      ·rename_i p d
       have hp : p := by simpa using hb
       simp [T.val_ite, T.val_ret, hp]
  ·rename_i hl
   have hb := hpc c false hl
   refine ⟨_, ?_, h⟩
   simp only [j8, ho, St.get, List.getD]
   cases hv : st.tmps[c]? with
   | none => rw [hv] at hb; cases hb
   | some v =>
    rw [hv] at hb
    cases v with
    | tup l => cases hb
    | one v =>
     cases v with
     | any => cases hb
     | agg l => cases hb
     | sc v =>
      cases v <;> simp only [J5] at hb <;> first | (cases hb; done) | skip
      ·cases hb; simp [T.val_ret]
      ·rename_i p d
       have hp : ¬ p := by simpa using hb
       simp [T.val_ite, T.val_ret, hp]
  ·rwa [T.val_bind_iff] at h
 ·rwa [T.val_bind_iff] at h
theorem a5y {α : Type} {pc : PC} {K : PC → St → T α} {r : α} (hpc : PCok pc st) (h : (opK E ops nm pc o st K).val = some r) : ∃ s1 pc', a1V E ops nm o st = some s1 ∧ PCok pc' s1 ∧ (K pc' s1).val = some r := by
 have keep : ∀ (pc : PC) (s1 : St), PCok pc st → a1V E ops nm o st = some s1 → PCok (pc.forget o.dst) s1 := by
  intro pc s1 hp hv d b hl
  obtain ⟨h1, h2⟩ := PC.forget_look hl
  rw [a5z hv h1]
  exact hp d b h2
 unfold opK at h
 split at h
 ·rename_i hg
  obtain ⟨s1, h1, h2⟩ := b1i hpc h
  have hv : a1V E ops nm o st = some s1 := by unfold a1V; rw [hg]; exact h1
  exact ⟨s1, _, hv, keep pc s1 hpc hv, h2⟩
 ·rename_i j want hg
  split at h
  ·simp [T.val_fail] at h
  ·rename_i d hd
   have run : ∀ {b : Bool} {pc : PC}, J5 st.tmps[d]? = some b → PCok pc st → b = want → (b35 E nm pc o st (K (pc.forget o.dst))).val = some r → ∃ s1 pc', a1V E ops nm o st = some s1 ∧ PCok pc' s1 ∧ (K pc' s1).val = some r := by
    intro b pc hb hp hw h
    obtain ⟨s1, h1, h2⟩ := b1i hp h
    have hv : a1V E ops nm o st = some s1 := by unfold a1V; rw [hg]; simp only [hd, b8y hb, hb, hw, if_true]; exact h1
    exact ⟨s1, _, hv, keep pc s1 hp hv, h2⟩
   have skip : ∀ {b : Bool} {pc : PC}, J5 st.tmps[d]? = some b → PCok pc st → b ≠ want → (K (pc.forget o.dst) (st.put o.dst (.tup []))).val = some r → ∃ s1 pc', a1V E ops nm o st = some s1 ∧ PCok pc' s1 ∧ (K pc' s1).val = some r := by
    intro b pc hb hp hw h
    have hv : a1V E ops nm o st = some (st.put o.dst (.tup [])) := by unfold a1V; rw [hg]; simp only [hd, b8y hb, hb, hw, if_false]
    exact ⟨_, _, hv, keep pc _ hp hv, h⟩
   have cons : ∀ {b : Bool}, J5 st.tmps[d]? = some b → PCok ((d, b) :: pc) st := by
    intro b hb e c hl
    rw [PC.look_cons] at hl
    split at hl
    ·rename_i he; subst he; cases hl; exact hb
    ·exact hpc e c hl
   split at h
   ·rename_i b hl
    have hb := hpc d b hl
    split at h
    ·rename_i hw; exact run hb hpc (by simpa using hw) h
    ·rename_i hw; exact skip hb hpc (by simpa using hw) h
   ·split at h
    ·rename_i hv
     have hv' : a1V E ops nm o st = some (st.put o.dst (.tup [])) := by unfold a1V; rw [hg]; simp only [hd, hv, b1y]
     exact ⟨_, _, hv', keep pc _ hpc hv', h⟩
    ·rename_i b hv
     have hb : J5 st.tmps[d]? = some b := by rw [hv]; rfl
     split at h
     ·rename_i hw
      have hw : b = want := by simpa using hw
      rw [hw] at hb
      exact run hb (cons hb) rfl h
     ·rename_i hw
      have hw : b = !want := by cases b <;> cases want <;> simp_all
      rw [hw] at hb
      exact skip hb (cons hb) (by cases want <;> simp) h
    ·rename_i p i hv
     split at h
     ·rw [T.val_ite] at h
      rcases h with ⟨hp, h⟩ | ⟨hp, h⟩
      ·have hb : J5 st.tmps[d]? = some true := by rw [hv]; simp [J5, hp]
       exact run hb (cons hb) rfl h
      ·have hb : J5 st.tmps[d]? = some false := by rw [hv]; simp [J5, hp]
       exact skip hb (cons hb) (by simp) h
     ·rw [T.val_ite] at h
      rcases h with ⟨hp, h⟩ | ⟨hp, h⟩
      ·have hb : J5 st.tmps[d]? = some true := by rw [hv]; simp [J5, hp]
       exact skip hb (cons hb) (by simp) h
      ·have hb : J5 st.tmps[d]? = some false := by rw [hv]; simp [J5, hp]
       exact run hb (cons hb) rfl h
    ·simp [T.val_fail] at h
theorem b27 {fts : List (Option Nat)} : ∀ {l : List Oper} {k nm : Nat} {pc : PC} {st r : St}, PCok pc st → (c1s E ops fts l k nm pc st).val = some r → b6M E ops fts l k nm st = some r
 | [], k, nm, pc, st, r, _, h => by simp only [c1s, T.val_ret] at h; rw [h]; rfl
 | o :: l, k, nm, pc, st, r, hpc, h => by
  simp only [c1s] at h
  split at h
  ·rename_i hf
   obtain ⟨s1, pc', h1, h2, h3⟩ := a5y hpc h
   have hv := I5.2 ⟨hf, h1⟩
   simp only [b6M, hv, Option.bind_some]
   exact b27 h2 h3
  ·simp [T.val_fail] at h
theorem b3M {fts : List (Option Nat)} : ∀ {l : List Oper} {pre : List Oper} {nm0 : Nat} {s : St}, ops.toList = pre ++ l → b6M E ops fts l pre.length (nm0 + u1 E pre) s = a0Y E ops fts (fun i => nm0 + u1 E (ops.toList.take i)) (List.range' pre.length l.length) s
 | [], pre, nm0, s, _ => rfl
 | o :: l, pre, nm0, s, h => by
  have ho : ops[pre.length]? = some o := by rw [← Array.getElem?_toList, h, List.getElem?_append_right (Nat.le_refl _)]; simp
  have hn : u1 E (pre ++ [o]) = u1 E pre + b6x E o := by
   clear h ho
   induction pre with
   | nil => simp [u1]
   | cons x r ih => simp only [List.cons_append, u1, ih]; omega
  simp only [b6M, List.length_cons, List.range'_succ, a0Y, ho]
  have ht : ops.toList.take pre.length = pre := by rw [h]; simp
  rw [ht]
  congr 1
  funext s1
  have := b3M (fts := fts) (l := l) (pre := pre ++ [o]) (nm0 := nm0) (s := s1) (by rw [h]; simp)
  rw [hn, ← Nat.add_assoc, List.length_append, List.length_singleton] at this
  rw [this]
theorem Rel.more (hr : Rel ρ B w0 st a w) (n : Nat) : Rel ρ B w0 (st.more n) a w := ⟨hr.len, hr.tm, hr.m.more n, hr.defers⟩
theorem b5u {dst : Option Tmp} {args : List TV} {s : XSig} {st1 : St} (h : (a8x st nm dst args s).val = some (.inr st1)) : (b4c st nm dst args s.sig).val = some st1 := by
 unfold a8x at h
 split at h
 ·simp [T.val_fail] at h
 ·rename_i hio
  rw [a4F (s := s.sig) hio]
  simp only [XSig.sig]
  split at h
  ·rename_i x hx
   rw [hx]
   simp only [T.val_opt] at h ⊢
   obtain ⟨⟨b, n, r⟩, h1, h2⟩ := h
   simp only [T.val_ite, T.val_ret] at h2
   rcases h2 with ⟨_, h2⟩ | ⟨hb, h2⟩
   ·cases h2
   ·have hb : b = false := by simpa using hb
    subst hb
    refine ⟨r, by rw [h1]; rfl, ?_⟩
    split at h2
    ·rename_i st' hst
     rw [T.val_ret] at h2
     simp only [hst]
     rw [T.val_ret]
     cases h2
     rfl
    ·simp [T.val_fail] at h2
  ·simp [T.val_fail] at h
theorem b2K {dst : Option Tmp} {args : List TV} {s : XSig} {n : Int} (h : (a8x st nm dst args s).val = some (.inl n)) : s.sig.io = false ∧ ∃ x y, F3 st st s.args args = some x ∧ s.g x = some y ∧ xr y = .inl n := by
 unfold a8x at h
 split at h
 ·simp [T.val_fail] at h
 ·rename_i hio
  refine ⟨hio, ?_⟩
  split at h
  ·rename_i x hx
   simp only [T.val_opt] at h
   obtain ⟨⟨b, m, r⟩, h1, h2⟩ := h
   refine ⟨x, _, hx, h1, ?_⟩
   simp only [T.val_ite, T.val_ret] at h2
   rcases h2 with ⟨hb, h2⟩ | ⟨hb, h2⟩
   ·cases h2
    have hb : b = true := hb
    subst hb
    rfl
   ·split at h2
    ·rw [T.val_ret] at h2; cases h2
    ·simp [T.val_fail] at h2
  ·simp [T.val_fail] at h
def b5n (E : AE) (o : Oper) (st : St) (py : Py) (n : Int) : Prop :=
 (∃ s args nm, b39 E o = some (s, args) ∧ b0O s.args (args.map st.get) = true ∧ (a8x st nm o.dst (args.map st.get) s).val = some (.inl n) ∧ py = s.py) ∨ b9q o st = some (py, n)
theorem a3X {s : XSig} {args : List Operand} (h : b39 E o = some (s, args)) : o.guard = none ∧ ∃ f as ats, o.op = .call { callee := .value (.func f), args := as, argTypes := ats } ∧ E.xn f = some s ∧ args = as.toList := by
 unfold b39 at h
 split at h
 ·rename_i hg
  split at h
  ·rename_i f as ats ho
   split at h
   ·rename_i s' hs
    cases h
    exact ⟨hg, f, as, ats, ho, hs, rfl⟩
   ·cases h
  ·cases h
 ·cases h
def b7a (E : AE) (ops : Array Oper) (l : List Oper) (k nm : Nat) (st : St) : Pn ⊕ St → Prop
 | .inr F => b6M E ops [] l k nm st = some F
 | .inl p => ∃ l1 o l2, l = l1 ++ o :: l2 ∧ b6M E ops [] l1 k nm st = some p.st ∧ b5n E o p.st p.py p.n
theorem b28 (hE : E.Ok P) : ∀ {l : List Oper} {k nm : Nat} {pc : PC} {st : St} {r : Pn ⊕ St}, PCok pc st → (c0y E ops l k nm pc st).val = some r → b7a E ops l k nm st r
 | [], k, nm, pc, st, r, _, h => by simp only [c0y, T.val_ret] at h; subst h; rfl
 | o :: l, k, nm, pc, st, r, hpc, h => by
  have cons : ∀ {s1 : St} {pc' : PC}, a1V E ops nm o st = some s1 → PCok pc' s1 → (c0y E ops l (k + 1) (nm + b6x E o) pc' s1).val = some r → b7a E ops (o :: l) k nm st r := by
   intro s1 pc' h1 h2 h3
   have hv : opV E ops ([].getD k none) nm o st = some s1 := I5.2 ⟨rfl, h1⟩
   have ih := b28 hE h2 h3
   cases r with
   | inr F => simp only [b7a, b6M, hv, Option.bind_some]; exact ih
   | inl p =>
    obtain ⟨l1, o', l2, e, g1, g2⟩ := ih
    exact ⟨o :: l1, o', l2, by rw [e]; rfl, by simp only [b6M, hv, Option.bind_some]; exact g1, g2⟩
  simp only [c0y] at h
  split at h
  ·rename_i s args hx
   split at h
   ·rename_i hsu
    rw [T.val_bind_iff] at h
    obtain ⟨y, h1, h2⟩ := h
    cases y with
    | inl n =>
     rw [T.val_ret] at h2
     subst h2
     exact ⟨[], o, l, rfl, rfl, .inl ⟨s, args, nm, hx, hsu, h1, rfl⟩⟩
    | inr st' =>
     obtain ⟨hg, f, as, ats, ho, hs, rfl⟩ := a3X hx
     obtain ⟨_, _, ⟨l', hfn⟩, hrt⟩ := hE.xn f s hs
     have hst : (j8 E nm o st).val = some st' := by
      simp only [j8, ho]
      unfold b6g
      rw [hrt, hfn]
      simp only [a2T, XSig.sig, hsu]
      exact b5u h1
     have hv : a1V E ops nm o st = some st' := by unfold a1V; rw [hg]; exact hst
     refine cons hv ?_ h2
     intro d b hl
     obtain ⟨q1, q2⟩ := PC.forget_look hl
     rw [a5z hv q1]
     exact hpc d b q2
   ·simp [T.val_fail] at h
  ·split at h
   ·rename_i py n hp
    rw [T.val_ret] at h
    subst h
    exact ⟨[], o, l, rfl, rfl, .inr hp⟩
   ·obtain ⟨s1, pc', h1, h2, h3⟩ := a5y hpc h
    exact cons h1 h2 h3
theorem b3N {E : AE} {fts : List (Option Nat)} (hE : E.Ok P) {Q : Exit → Act → World → Prop} {l2 : List Oper} : ∀ {l : List Oper} {k nm : Nat} {ρ : Env} {st st' : St} {a : Act} {w : World}, Rel ρ B w0 st a w → b6M E ops fts l k nm st = some st' → (∀ a' w' ρ', ρ.le ρ' → Rel ρ' B w0 st' a' w' → wpList P ops Q l2 a' w') → wpList P ops Q (l ++ l2) a w
 | [], k, nm, ρ, st, st', a, w, hr, h, hQ => by cases h; exact hQ _ _ _ (.refl ρ) hr
 | o :: r, k, nm, ρ, st, st', a, w, hr, h, hQ => by
  simp only [b6M, Option.bind_eq_some_iff] at h
  obtain ⟨s1, h1, h2⟩ := h
  have := a5A hE hr h1 (wpList P ops Q (r ++ l2)) Q fun a' w' ρ' hl hr' => b3N hE hr' h2 fun a2 w2 ρ2 hl2 => hQ a2 w2 ρ2 (hl.trans hl2)
  show wpList P ops Q (o :: (r ++ l2)) a w
  unfold wpList
  split
  ·rename_i hw; rw [if_pos hw] at this; exact .inl this
  ·rename_i hw; rw [if_neg hw] at this; exact this
theorem a2X (hE : E.Ok P) (hr : Rel ρ B w0 st a w) {py : Py} {n : Int} (h : b5n E o st py n) {K : Act → World → Prop} {Q : Exit → Act → World → Prop} (hQ : ∀ w', Rel ρ B w0 st a w' → Q (.panic [{ v := py.val n, recovered := false }]) a w') :
  Region.wanted o (yielded ops a.tmps) = true ∧ o.wp P a w K Q := by
 rcases h with ⟨s, args, nm', hx, hsu, hc, rfl⟩ | hp
 ·obtain ⟨hg, f, as, ats, ho, hs, rfl⟩ := a3X hx
  refine ⟨by simp [Region.wanted, hg], ?_⟩
  obtain ⟨hio, x, y, hget, hgx, hxr⟩ := b2K hc
  obtain ⟨hok, ⟨fn, hf, hb, hn⟩, _⟩ := hE.xn f s hs
  have hb' : fn.body ≠ none := by intro hnb; rw [hnb] at hb; cases hb
  have hn' : fn.name ≠ "runtime.NumGoroutine" := by simpa using hn
  have hm : (as.toList.map a.eval).toArray = as.map a.eval := by
   apply Array.ext'; simp
  have hexec : (execOp a.eval o).run P w = .ok (.enter f (as.toList.map a.eval).toArray) w := by
   rw [hm]
   simp [execOp, ho, resolve, Deferred.ofValue, Act.eval, invoke, callFunc, program, Sem.run, hf, hn', hb']
  have hl : (as.toList.map st.get).length = (as.toList.map a.eval).length := by simp
  have hrel := Z0 hr as.toList
  have hios : a97 st s.args (as.toList.map st.get) = some [] := a6E (Sig.plain (s := s.sig) hio)
  have hargs := a4K hr.m hr.m hget hl hrel
  have hioR := a6F hr.m hios hget hl hrel
  obtain ⟨ap1, ap2, ap3⟩ := hioR.apart hr.m
  have hcall := hok (vw ρ st.mem w).ok ρ.kl x _ w (fun b hb => .inr hb.1) hargs ⟨fun m hm hok => by
   rcases hok with ⟨o', b', l', y, e1, e2, e3, e4⟩ | hok
   ·exact ap1 m hm o' b' l' y e1 e2 e3 e4.symm
   ·exact hok (ap2 m hm), ap3⟩ y hgx
  rw [hxr] at hcall
  unfold Oper.wp
  rw [hexec]
  refine hcall.mono ?_
  rintro e w' ⟨rfl, hbelow⟩
  have hm' := hr.m.grow (hioR.inside hr.m) (fun o' b' l' y m e1 e2 e3 hmM => ap1 m hmM o' b' l' y e1 e2 e3) (hioR.cells hr.m) hbelow
  exact hQ w' ⟨hr.len, hr.tm, hm', hr.defers⟩
 ·unfold b9q at hp
  split at hp
  ·rename_i hg
   refine ⟨by simp [Region.wanted, hg], ?_⟩
   split at hp
   ·rename_i x ho
    have hx := hr.get x
    split at hp
    ·rename_i t k m e
     cases hp
     rw [e] at hx
     have hx : a.eval x = .iface t (.int k n) := hx
     unfold Oper.wp
     have hexec : (execOp a.eval o).run P w = .halt (.panic (.iface t (.int k n))) w := by
      simp [execOp, ho, hx, Instr.panic, goPanic]
     rw [hexec]
     exact hQ w hr
    ·rename_i t k m e
     cases hp
     rw [e] at hx
     have hx : a.eval x = .iface t (.agg #[.int k n]) := hx
     unfold Oper.wp
     have hexec : (execOp a.eval o).run P w = .halt (.panic (.iface t (.agg #[.int k n]))) w := by
      simp [execOp, ho, hx, Instr.panic, goPanic]
     rw [hexec]
     exact hQ w hr
    ·cases hp
   ·cases hp
  ·cases hp
theorem b4R (hE : E.Ok P) (hr : Rel ρ B w0 st a w) {id : Nat} {r : Pn ⊕ St} (h : (b8b E ops st).val = some r) {Q : Exit → Act → World → Prop} (hQ : match r with
   | .inr F => ∀ a' w' ρ', ρ.le ρ' → Rel ρ' B w0 F a' w' → Q .normal a' w'
   | .inl p => ∀ a' w' ρ', ρ.le ρ' → Rel ρ' B w0 (p.out ops.toList) a' w' → Q (.panic [{ v := p.py.val p.n, recovered := false }]) a' w') :
  (Code.region id ops false).wp P Q a w := by
 have hrun := b28 hE (pc := []) (fun d b hh => by cases hh) h
 cases r with
 | inr F => exact wp_region_list (b1c hE (hr.more (u1 E ops.toList)) hrun hQ)
 | inl p =>
  obtain ⟨l1, o, l2, e, h1, h2⟩ := hrun
  refine wp_region_list ?_
  rw [e]
  refine b3N hE (hr.more (u1 E ops.toList)) h1 fun a' w' ρ' hl hr' => ?_
  obtain ⟨hw, hwp⟩ := a2X (ops := ops) hE hr' h2 (K := wpList P ops Q l2) (Q := Q) fun w2 hr2 => hQ a' w2 ρ' hl hr2
  unfold wpList
  rw [if_pos hw]
  exact .inl hwp
theorem a8D {o : Oper} (hr : Rel ρ B w0 st a w) {F : St} (h : b81 st o = some F) {K : Act → World → Prop} {Q : Exit → Act → World → Prop} (hK : ∀ a' w' ρ', ρ.le ρ' → Rel ρ' B w0 F a' w' → K a' w') :
  Region.wanted o (yielded ops a.tmps) = true ∧ o.wp P a w K Q := by
 unfold b81 at h
 split at h
 ·rename_i f args ats hg hop
  split at h
  ·rename_i x hx
   split at h
   ·rename_i y hy
    cases h
    have hv := hr.get x
    rw [hy] at hv
    refine ⟨by simp [Region.wanted, hg], ?_⟩
    unfold Oper.wp
    have hargs : args = #[x] := by apply Array.ext'; rw [hx]
    subst hargs
    have hexec : (execOp a.eval o).run P w = .ok (.defer { target := .fn (.func f) #[], args := #[a.eval x] }) w := by
     simp [execOp, hop, resolve, Deferred.ofValue, Act.eval]
    rw [hexec]
    have hr1 : Rel ρ B w0 { st with dfr := (f, [y]) :: st.dfr } { a with defers := { target := .fn (.func f) #[], args := #[a.eval x] } :: a.defers } w :=
     ⟨hr.len, hr.tm, hr.m, _, _, _, rfl, ⟨_, _, rfl, hv, rfl⟩, hr.defers⟩
    exact hK _ _ ρ (.refl ρ) (hr1.put o.dst (v := .one .any) trivial)
   ·cases h
  ·cases h
 ·rename_i t args ats hg hop
  split at h
  ·rename_i f ob b ob2 b2 hx hget
   cases h
   have hv := hr.get (.tmp t)
   rw [hget] at hv
   obtain ⟨l, bk, g, l2, bk2, g2, k1, k2, k3, k4, hv⟩ := hv
   refine ⟨by simp [Region.wanted, hg], ?_⟩
   unfold Oper.wp
   have hargs : args = #[] := by apply Array.ext'; rw [hx]
   subst hargs
   have hexec : (execOp a.eval o).run P w = .ok (.defer { target := .fn (.func f) #[.pointer (some ⟨bk, g + b, none⟩), .pointer (some ⟨bk2, g2 + b2, none⟩)], args := #[] }) w := by
    simp [execOp, hop, resolve, Deferred.ofValue, hv]
   rw [hexec]
   have hr1 : Rel ρ B w0 { st with dfr := (f, [.ptr ob b none, .ptr ob2 b2 none]) :: st.dfr } { a with defers := { target := .fn (.func f) #[.pointer (some ⟨bk, g + b, none⟩), .pointer (some ⟨bk2, g2 + b2, none⟩)], args := #[] } :: a.defers } w :=
    ⟨hr.len, hr.tm, hr.m, _, _, _, rfl, ⟨_, _, rfl, ⟨l, bk, g, k1, k2, rfl⟩, _, _, rfl, ⟨l2, bk2, g2, k3, k4, rfl⟩, rfl⟩, hr.defers⟩
   exact hK _ _ ρ (.refl ρ) (hr1.put o.dst (v := .one .any) trivial)
  ·cases h
 ·cases h
theorem b3G (E : AE) (hr : Rel ρ B w0 st a w) {id : Nat} {F : St} (h : c0k st ops = some F) {Q : Exit → Act → World → Prop} (hQ : ∀ a' w' ρ', ρ.le ρ' → Rel ρ' B w0 F a' w' → Q .normal a' w') :
  (Code.region id ops false).wp P Q a w := by
 unfold c0k at h
 split at h
 ·rename_i o ho
  refine wp_region_list ?_
  rw [ho]
  obtain ⟨k1, k2⟩ := a8D (ops := ops) (P := P) (K := wpList P ops Q []) (Q := Q) hr h hQ
  unfold wpList
  rw [if_pos k1]
  exact .inl k2
 ·rename_i m o ho
  split at h
  ·rename_i f first captured hg hop
   split at h
   ·rename_i st' hst
    refine wp_region_list ?_
    rw [ho]
    have hm : (j8 E 0 m st).val = some st' := by simp only [j8, hop]; exact hst
    obtain ⟨v, w', ρ', e1, e2, e3⟩ := a4v (P := P) (E := E) hop hr hm
    unfold wpList
    rw [if_pos (by simp [Region.wanted, hg])]
    refine .inl (b8B e1 ?_)
    obtain ⟨k1, k2⟩ := a8D (ops := ops) (P := P) (K := wpList P ops Q []) (Q := Q) e3 h fun a' w2 ρ2 hl => hQ a' w2 ρ2 (e2.trans hl)
    unfold wpList
    rw [if_pos k1]
    exact .inl k2
   ·cases h
  ·cases h
 ·cases h
theorem b6K [Flat E] (hE : E.Ok P) (hmix : P.follows .mixedOrders = true) (hr : Rel ρ B w0 st a w) {id : Nat} {fts : List (Option Nat)} {F : St} (h : (a9G E ops fts st).val = some F) (hok : a0x E fts ops ops.toList [] [] = true) {Q : Exit → Act → World → Prop} (hQ : ∀ a' w' ρ', ρ.le ρ' → Rel ρ' B w0 F a' w' → Q .normal a' w') :
  (Code.region id ops true).wp P Q a w := by
 have hrun := b27 (pc := []) (fun d b hh => by cases hh) h
 have hr' := hr.more (u1 E ops.toList)
 have hc0 : Held E fts ops [] [] := ⟨rfl, fun i o h => by simp at h, fun i o m h => by simp at h, fun i o m j oj h => by simp at h⟩
 obtain ⟨ms, hms⟩ := a2h hok hc0
 simp only [List.nil_append] at hms
 refine wp_region_any hmix ?_
 have hI := b3M (E := E) (ops := ops) (fts := fts) (l := ops.toList) (pre := []) (nm0 := st.mem.length) (s := st.more (u1 E ops.toList)) rfl
 simp only [u1, Nat.add_zero, List.length_nil, Array.length_toList] at hI
 rw [hI] at hrun
 refine b9I hE hms hQ ops.size (List.range' 0 ops.size) _ ρ _ a _ (by simp) ?_ ?_ (by simp) ?_ (.refl ρ) hr'.drew hrun
 ·rw [← List.range_eq_range']; exact List.pairwise_lt_range
 ·intro i
  rw [← List.range_eq_range', List.mem_range]
  constructor
  ·intro hi; exact ⟨hi, by simp [hi]⟩
  ·exact fun hi => hi.1
 ·intro k o ho hk
  have := (Array.getElem?_eq_some_iff.1 ho).1
  rw [← List.range_eq_range', List.mem_range] at hk
  exact absurd this hk
theorem AE.Ok.flat (hE : E.Ok P) : E.flat.Ok P := ⟨hE.ty, fun f s hs => hE.fn f s (List.mem_filter.1 hs).1, (fun _ s h => nomatch (show none = some s from h)), (fun _ J h => nomatch (show none = some J from h)), hE.eqs, (fun _ J h => nomatch (show none = some J from h)), (fun _ _ f h => nomatch (show none = some f from h)), hE.rt, hE.ifc, hE.imp⟩
end
end Go.Ax
namespace Go.Ax
open Go.RowKit
variable {P : Program}
section
variable {ρ : Env} {B : Nat} {w0 : Base} {st st' : St} {a : Act} {w : World} {mem : List Slot} {nm : Nat} {o : Oper} {ops : Array Oper} {E : AE}
theorem MRel.addIt (hm : MRel ρ B w0 mem w) {nm : Nat} (hf : mem[nm]? = some .free) (s : ByteArray) : ρ.le (ρ.set nm ⟨some (w.heap.size, 0), none, 0, 0, 0⟩) ∧ MRel (ρ.set nm ⟨some (w.heap.size, 0), none, 0, 0, 0⟩) B w0 (mem.set nm (.it s 0)) (w.alloc (.stringIter s 0)) := by
 have hle : ρ.le (ρ.set nm ⟨some (w.heap.size, 0), none, 0, 0, 0⟩) := Env.le_set (hm.free nm (.inr hf)) _
 refine ⟨hle, ?_⟩
 have hg := hm.grow0 (w' := w.alloc (.stringIter s 0)) ((Below.refl _ _).alloc (Nat.le_refl _) _)
 have hlen : nm < mem.length := (List.getElem?_eq_some_iff.1 hf).1
 have other : ∀ i, i ≠ nm → (mem.set nm (.it s 0))[i]? = mem[i]? := fun i h => List.getElem?_set_ne (Ne.symm h)
 have self : (mem.set nm (Slot.it s 0))[nm]? = some (.it s 0) := List.getElem?_set_self hlen
 have look : ∀ i, i ≠ nm → (ρ.set nm ⟨some (w.heap.size, 0), none, 0, 0, 0⟩) i = ρ i := fun i h => if_neg h
 have lookn : (ρ.set nm ⟨some (w.heap.size, 0), none, 0, 0, 0⟩) nm = some ⟨some (w.heap.size, 0), none, 0, 0, 0⟩ := if_pos rfl
 have live : ∀ (i : Nat) (c : Ob), (mem.set nm (Slot.it s 0))[i]? = some (Slot.live c) → i ≠ nm ∧ mem[i]? = some (Slot.live c) := by
  intro i c h
  by_cases e : i = nm
  ·subst e; rw [self] at h; cases h
  ·rw [other i e] at h; exact ⟨e, h⟩
 refine ⟨?_, ?_, ?_, ?_, ?_, hg.below, hg.size, hg.frz, hm.env.le hle rfl, hm.emt, ⟨?_, ?_⟩⟩
 ·intro i h
  by_cases e : i = nm
  ·subst e; rw [self] at h; simp at h
  ·rw [other i e] at h; rw [look i e]; exact hm.free i h
 ·intro i c h
  exact (hg.ob i c (live i c h).2).env hle
 ·intro i c i' c' k k' x y h h' hc hne' hk hk' hx hy
  obtain ⟨e, h⟩ := live i c h
  obtain ⟨e', h'⟩ := live i' c' h'
  rw [look i e] at hk
  rw [look i' e'] at hk'
  exact hm.sep i c i' c' k k' x y h h' hc hne' hk hk' hx hy
 ·intro i c k x h hc hk hx
  obtain ⟨e, h⟩ := live i c h
  rw [look i e] at hk
  exact hm.ownB i c k x h hc hk hx
 ·intro i c j k h hc hk
  obtain ⟨e, h⟩ := live i c h
  rw [look i e] at hk
  exact hm.mtM i c j k h hc hk
 ·intro i t p h
  by_cases e : i = nm
  ·subst e
   rw [self] at h; cases h
   exact ⟨_, _, lookn, rfl, heap_alloc_new w _, hm.size, hm.fzNew (Nat.le_refl _)⟩
  ·rw [other i e] at h
   obtain ⟨l, b, g1, g2, g3, g4, g5⟩ := hm.its.it i t p h
   exact ⟨l, b, by rw [look i e]; exact g1, g2, by rw [heap_alloc_old w _ (Array.getElem?_eq_some_iff.1 g3).1]; exact g3, g4, g5⟩
 ·have key : ∀ (i : Nat) t p l (x : Nat × Nat), (mem.set nm (Slot.it s 0))[i]? = some (Slot.it t p) → (ρ.set nm ⟨some (w.heap.size, 0), none, 0, 0, 0⟩) i = some l → l.a = some x → (i = nm ∧ x.1 = w.heap.size) ∨ (i ≠ nm ∧ mem[i]? = some (Slot.it t p) ∧ ρ i = some l ∧ x.1 < w.heap.size) := by
   intro i t p l x h hl hx
   by_cases e : i = nm
   ·subst e
    rw [lookn] at hl; cases hl
    cases hx
    exact .inl ⟨rfl, rfl⟩
   ·rw [other i e] at h
    rw [look i e] at hl
    obtain ⟨l', b, g1, g2, g3, _⟩ := hm.its.it i t p h
    rw [hl] at g1; cases g1
    rw [hx] at g2; cases g2
    exact .inr ⟨e, h, hl, (Array.getElem?_eq_some_iff.1 g3).1⟩
  intro i t p i' t' p' l l' x y h h' hne hl hl' hx hy
  rcases key i t p l x h hl hx with ⟨e, k1⟩ | ⟨e, k1, k2, k3⟩
  ·rcases key i' t' p' l' y h' hl' hy with ⟨e', _⟩ | ⟨e', q1, q2, q3⟩
   ·exact absurd (e.trans e'.symm) hne
   ·omega
  ·rcases key i' t' p' l' y h' hl' hy with ⟨e', q1⟩ | ⟨e', q1, q2, q3⟩
   ·omega
   ·exact hm.its.sep i t p i' t' p' l l' x y k1 q1 hne k2 q2 hx hy
theorem MRel.stepIt (hm : MRel ρ B w0 mem w) {ob : Nat} {s : ByteArray} {p : Nat} (h : mem[ob]? = some (.it s p)) {l : Loc} {b : Nat} (hl : ρ ob = some l) (hb : l.a = some (b, 0)) (q : Nat) : MRel ρ B w0 (mem.set ob (.it s q)) { w with heap := w.heap.setIfInBounds b (.stringIter s q) } := by
 obtain ⟨l', b', g1, g2, g3, g4, g5⟩ := hm.its.it ob s p h
 rw [hl] at g1; cases g1
 rw [hb] at g2; cases g2
 have hlen : ob < mem.length := (List.getElem?_eq_some_iff.1 h).1
 have hlt := (Array.getElem?_eq_some_iff.1 g3).1
 have other : ∀ i, i ≠ ob → (mem.set ob (.it s q))[i]? = mem[i]? := fun i h => List.getElem?_set_ne (Ne.symm h)
 have self : (mem.set ob (Slot.it s q))[ob]? = some (.it s q) := List.getElem?_set_self hlen
 have heap : ∀ i, i ≠ b → (w.heap.setIfInBounds b (.stringIter s q))[i]? = w.heap[i]? := fun i h => Array.getElem?_setIfInBounds_ne (Ne.symm h)
 have live : ∀ (i : Nat) (c : Ob), (mem.set ob (Slot.it s q))[i]? = some (Slot.live c) → mem[i]? = some (Slot.live c) := by
  intro i c h
  by_cases e : i = ob
  ·subst e; rw [self] at h; cases h
  ·rw [other i e] at h; exact h
 have its : ∀ (i : Nat) t k, (mem.set ob (Slot.it s q))[i]? = some (Slot.it t k) → (i = ob ∧ t = s ∧ k = q) ∨ (i ≠ ob ∧ mem[i]? = some (Slot.it t k)) := by
  intro i t k h
  by_cases e : i = ob
  ·subst e; rw [self] at h; cases h; exact .inl ⟨rfl, rfl, rfl⟩
  ·rw [other i e] at h; exact .inr ⟨e, h⟩
 refine ⟨?_, ?_, ?_, ?_, ?_, ?_, by simpa using hm.size, ?_, hm.env, hm.emt, ⟨?_, ?_⟩⟩
 ·intro i h
  by_cases e : i = ob
  ·subst e; rw [self] at h; simp at h
  ·rw [other i e] at h; exact hm.free i h
 ·intro i c h
  refine (hm.ob i c (live i c h)).world fun l' x hl' hx => heap x.1 fun e => ?_
  obtain ⟨l2, C, k1, _, _, _, k5⟩ := hm.ob i c (live i c h)
  rw [hl'] at k1; cases k1
  rw [hx] at k5
  obtain ⟨cs, t, fr, _, _, k6, _⟩ := k5
  rw [e, g3] at k6
  cases k6
 ·exact fun i c i' c' k k' x y h h' => hm.sep i c i' c' k k' x y (live i c h) (live i' c' h')
 ·exact fun i c k x h => hm.ownB i c k x (live i c h)
 ·exact fun i c j k h => hm.mtM i c j k (live i c h)
 ·refine hm.below.trans ⟨rfl, rfl, rfl, by simp, fun k hk _ => heap k (by omega), fun m _ hmB cs t fr hc => ⟨cs, ?_, rfl, fun _ _ => rfl⟩⟩
  exact (heap m.blk (by omega)).trans hc
 ·intro k c hk
  refine (heap k fun e => ?_).trans (hm.frz k c hk)
  rw [e, g5] at hk
  cases hk
 ·intro i t k h
  rcases its i t k h with ⟨rfl, rfl, rfl⟩ | ⟨e, h⟩
  ·exact ⟨l, b, hl, hb, by simp [hlt], g4, g5⟩
  ·obtain ⟨l2, b2, k1, k2, k3, k4, k5⟩ := hm.its.it i t k h
   refine ⟨l2, b2, k1, k2, (heap b2 fun e2 => ?_).trans k3, k4, k5⟩
   exact hm.its.sep i t k ob s p l2 l _ _ h ‹_› e k1 hl k2 hb e2
 ·intro i t k i' t' k' l1 l2 x y h1 h2 hne hl1 hl2 hx hy
  have old : ∀ (i : Nat) t k, (mem.set ob (Slot.it s q))[i]? = some (Slot.it t k) → ∃ t k, mem[i]? = some (Slot.it t k) := by
   intro i t k h
   rcases its i t k h with ⟨rfl, _⟩ | ⟨_, h⟩
   ·exact ⟨_, _, ‹mem[i]? = some (Slot.it s p)›⟩
   ·exact ⟨_, _, h⟩
  obtain ⟨_, _, e1⟩ := old i t k h1
  obtain ⟨_, _, e2⟩ := old i' t' k' h2
  exact hm.its.sep i _ _ i' _ _ l1 l2 x y e1 e2 hne hl1 hl2 hx hy
theorem b8n (hE : E.Ok P) (hr : Rel ρ B w0 st a w) (h : spT E nm o st = some st') : FitsV P ρ B w0 st' o a w := by
 unfold spT at h
 split at h
 ·rename_i t x ho
  split at h
  ·rename_i s ht hx hf
   cases h
   rw [Option.map_eq_some_iff] at ht
   obtain ⟨ti, ht, htd⟩ := ht
   obtain ⟨d, hd, hdd⟩ := (hE.ty t _ ht).desc
   rw [htd] at hdd
   have hdd : d = .string := hdd
   subst hdd
   have hv := hr.get x
   rw [hx] at hv
   have hv : a.eval x = .string s := hv
   obtain ⟨h1, h2⟩ := hr.m.addIt hf s
   refine ⟨.pointer (some ⟨w.heap.size, 0, none⟩), _, _, ?_, h1, (hr.le h1 h2).putA o.dst ⟨_, _, _, if_pos rfl, rfl, rfl⟩⟩
   simp [execOp, ho, Instr.range, run_underlying hd, hv]
  ·cases h
 ·rename_i x ho
  split at h
  ·rename_i ob hx
   have hv := hr.get x
   rw [hx] at hv
   obtain ⟨l, b, f, g1, g2, g3⟩ := hv
   split at h
   ·rename_i s p hm
    obtain ⟨l', b', k1, k2, k3, k4, k5⟩ := hr.m.its.it ob s p hm
    rw [g1] at k1; cases k1
    rw [g2] at k2; cases k2
    simp only [Option.getD_none, Nat.add_zero] at g3
    split at h
    ·rename_i hlt
     have hlt := of_decide_eq_true hlt
     cases h
     refine ⟨.tuple #[.bool true, .int .i64 (p : Nat), .int .i32 ((Utf8.decode s p).1 : Nat)], _, ρ, ?_, .refl ρ, (hr.le (.refl ρ) (hr.m.stepIt hm g1 g2 _)).put o.dst (v := .tup _) ⟨[_, _, _], rfl, _, _, rfl, rfl, _, _, rfl, rfl, _, _, rfl, rfl, rfl⟩⟩
     have hlt' := (Array.getElem?_eq_some_iff.1 k3).1
     simp [execOp, ho, Instr.next, g3, k3, hlt, getObj, setObj, Sem.run, goInt]
    ·rename_i hlt
     have hlt := of_decide_eq_false hlt
     cases h
     refine ⟨.tuple #[.bool false], w, ρ, ?_, .refl ρ, hr.put o.dst (v := .tup _) ⟨[_], rfl, _, _, rfl, rfl, rfl⟩⟩
     simp [execOp, ho, Instr.next, g3, k3, hlt, getObj, Sem.run]
   ·cases h
  ·cases h
 ·cases h
theorem PCok.put {pc : PC} (h : PCok pc st) (m : List Slot) (dst : Option Tmp) (v : TV) : PCok (pc.forget dst) (St.put { st with mem := m } dst v) := by
 intro d b hl
 obtain ⟨h1, h2⟩ := PC.forget_look hl
 have := h d b h2
 unfold St.put
 cases dst with
 | none => exact this
 | some t =>
  simp only
  rw [List.getElem?_set_ne (fun e => h1 (by rw [e]))]
  exact this
theorem c0J (h : spT E nm o st = some st') : ∃ m v, st' = St.put { st with mem := m } o.dst v := by
 unfold spT at h
 split at h
 ·split at h
  ·cases h; exact ⟨_, _, rfl⟩
  ·cases h
 ·split at h
  ·split at h
   ·split at h
    ·cases h; exact ⟨_, _, rfl⟩
    ·cases h; exact ⟨st.mem, _, rfl⟩
   ·cases h
  ·cases h
 ·cases h
theorem a7f (hE : E.Ok P) (hr : Rel ρ B w0 st a w) {J : Inl} {args : List TV} (h : a4O E o st = some (J, args)) :
  ∃ (f : FuncId) (vs : List Value), Y4 P f J ∧ args.length = vs.length ∧ (∀ (i : Nat) (x : TV) (u : Value), args[i]? = some x → vs[i]? = some u → TV.rel ρ x u) ∧ (execOp a.eval o).run P w = .ok (.enter f vs.toArray) w := by
 unfold a4O at h
 split at h
 ·rename_i f as ats ho
  rw [Option.map_eq_some_iff] at h
  obtain ⟨J', hJ, h⟩ := h
  cases h
  obtain ⟨h1, fn, hf, hb, hn⟩ := hE.inl f J hJ
  refine ⟨f, as.toList.map a.eval, h1, by simp, Z0 hr as.toList, ?_⟩
  have hb' : fn.body ≠ none := by intro hnb; rw [hnb] at hb; cases hb
  have hn' : fn.name ≠ "runtime.NumGoroutine" := by simpa using hn
  have hm : (as.toList.map a.eval).toArray = as.map a.eval := by
   apply Array.ext'; simp
  rw [hm]
  simp [execOp, ho, resolve, Deferred.ofValue, Act.eval, invoke, callFunc, program, Sem.run, hf, hn', hb']
 ·rename_i rc name as ats ho
  split at h
  ·rename_i t y hi
   split at h
   ·rename_i f hmth
    rw [Option.map_eq_some_iff] at h
    obtain ⟨J', hJ, h⟩ := h
    cases h
    obtain ⟨h1, fn, hf, hb, hn⟩ := hE.inl f J hJ
    obtain ⟨u, hu, hy⟩ := a1b hi (hr.get rc)
    have hq := hE.mth t name f hmth
    refine ⟨f, u :: as.toList.map a.eval, h1, by simp, fun i x v hx hv => ?_, ?_⟩
    ·cases i with
     | zero => cases hx; cases hv; exact hy
     | succ i => exact Z0 hr as.toList i x v (by simpa using hx) (by simpa using hv)
    ·have hb' : fn.body ≠ none := by intro hnb; rw [hnb] at hb; cases hb
     have hn' : fn.name ≠ "runtime.NumGoroutine" := by simpa using hn
     have hm : (u :: as.toList.map a.eval).toArray = #[u] ++ as.map a.eval := by
      apply Array.ext'; simp
     rw [hm]
     have hq' : (method (P.types.size + Made.depth) t u name).run P w = .ok (f, u) w := hq u w
     have hcm : (callMethod (.iface t u) name (as.map a.eval)).run P w = .ok (.enter f (#[u] ++ as.map a.eval)) w := by
      simp [callMethod, Sem.run_bind, run_program, Result.andThen, hq']
      simp [callFunc, program, Sem.run, hf, hn', hb']
     have hext : (#[Value.iface t u] ++ as.map a.eval).extract 1 (#[Value.iface t u] ++ as.map a.eval).size = as.map a.eval := by
      apply Array.ext'; simp [List.take_of_length_le]
     have h0 : (#[Value.iface t u] ++ as.map a.eval)[0]? = some (.iface t u) := by rw [Array.getElem?_append_left (show 0 < 1 from Nat.one_pos)]; rfl
     have hex : (execOp a.eval o).run P w = (invoke (.fn (.method name) #[]) (#[.iface t u] ++ as.map a.eval)).run P w := by
      simp [execOp, ho, resolve, hu]
     rw [hex]
     unfold invoke
     simp only [h0, hext]
     exact hcm
   ·cases h
  ·cases h
 ·cases h
theorem c0x (hE : E.Ok P) {pc pc' : PC} {s1 : St} (hpc : PCok pc st) (h : (opX E ops nm pc o st).val = some (.inr (pc', s1))) : a1V E ops nm o st = some s1 ∧ PCok pc' s1 := by
 unfold opX at h
 split at h
 ·rename_i s args hx
  split at h
  ·rename_i hsu
   rw [T.val_bind_iff] at h
   obtain ⟨y, h1, h2⟩ := h
   cases y with
   | inl n => rw [T.val_ret] at h2; cases h2
   | inr st' =>
    rw [T.val_ret] at h2
    cases h2
    obtain ⟨hg, f, as, ats, ho, hs, rfl⟩ := a3X hx
    obtain ⟨_, _, ⟨l', hfn⟩, hrt⟩ := hE.xn f s hs
    have hst : (j8 E nm o st).val = some s1 := by
     simp only [j8, ho]
     unfold b6g
     rw [hrt, hfn]
     simp only [a2T, XSig.sig, hsu]
     exact b5u h1
    have hv : a1V E ops nm o st = some s1 := by unfold a1V; rw [hg]; exact hst
    refine ⟨hv, ?_⟩
    intro d b hl
    obtain ⟨q1, q2⟩ := PC.forget_look hl
    rw [a5z hv q1]
    exact hpc d b q2
  ·simp [T.val_fail] at h
 ·split at h
  ·rw [T.val_ret] at h; cases h
  ·obtain ⟨s2, pc2, h1, h2, h3⟩ := a5y hpc h
   rw [T.val_ret] at h3
   cases h3
   exact ⟨h1, h2⟩
theorem c0w {pc : PC} {p : Pn} (hpc : PCok pc st) (h : (opX E ops nm pc o st).val = some (.inl p)) : p.st = st ∧ b5n E o st p.py p.n := by
 unfold opX at h
 split at h
 ·rename_i s args hx
  split at h
  ·rename_i hsu
   rw [T.val_bind_iff] at h
   obtain ⟨y, h1, h2⟩ := h
   cases y with
   | inl n =>
    rw [T.val_ret] at h2
    cases h2
    exact ⟨rfl, .inl ⟨s, args, nm, hx, hsu, h1, rfl⟩⟩
   | inr st' => rw [T.val_ret] at h2; cases h2
  ·simp [T.val_fail] at h
 ·split at h
  ·rename_i py n hp
   rw [T.val_ret] at h
   cases h
   exact ⟨rfl, .inr hp⟩
  ·obtain ⟨s2, pc2, h1, h2, h3⟩ := a5y hpc h
   rw [T.val_ret] at h3
   cases h3
theorem a3R (hE : E.Ok P) {β : Type} {K : Pn ⊕ St → Option β} {r : β} {Q : Exit → Act → World → Prop} : ∀ {l : List Oper} {nm : Nat} {pc : PC} {ρ : Env} {st : St} {a : Act} {w : World}, PCok pc st → Rel ρ B w0 st a w → b8F E ops l nm pc st K = some r →
  (∀ F ρ' a' w', ρ.le ρ' → Rel ρ' B w0 F a' w' → K (.inr F) = some r → Q .normal a' w') → (∀ p ρ' a' w', ρ.le ρ' → Rel ρ' B w0 (Pn.st p) a' w' → K (.inl p) = some r → Q (.panic [{ v := p.py.val p.n, recovered := false }]) a' w') → wpList P ops Q l a w
 | [], nm, pc, ρ, st, a, w, hpc, hr, h, h1, h2 => h1 st ρ a w (.refl ρ) hr h
 | o :: l, nm, pc, ρ, st, a, w, hpc, hr, h, h1, h2 => by
  simp only [b8F] at h
  split at h
  ·rename_i hsp
   rw [Bool.and_eq_true] at hsp
   have hg : o.guard = none := by simpa using hsp.1
   unfold wpList
   rw [if_pos (by simp [Region.wanted, hg])]
   refine .inl ?_
   split at h
   ·rename_i st' hst
    obtain ⟨v, w', ρ', e1, e2, e3⟩ := b8n hE hr hst
    refine b8B e1 ?_
    obtain ⟨m, v', hput⟩ := c0J hst
    refine a3R hE (st := st') (by rw [hput]; exact hpc.put m o.dst v') e3 h (fun F ρ2 a2 w2 hl => h1 F ρ2 a2 w2 (e2.trans hl)) (fun p ρ2 a2 w2 hl => h2 p ρ2 a2 w2 (e2.trans hl))
   ·split at h
    ·rename_i J args hJ
     obtain ⟨f, vs, k1, k2, k3, k4⟩ := a7f hE hr hJ
     unfold Oper.wp
     rw [k4]
     refine k1 β ρ B w0 st.mem w args vs _ r _ k2 k3 hr.m h ?_ ?_
     ·intro ρ' w' ll us mem' hle hm' hrel hk
      have hr1 : Rel ρ' B w0 (St.put { st with mem := mem' } o.dst (b8H ll)) (a.put o.dst (b2x us)) w' := (hr.le hle hm').put o.dst (b2f hrel)
      exact a3R hE (hpc.put mem' o.dst (b8H ll)) hr1 hk (fun F ρ2 a2 w2 hl => h1 F ρ2 a2 w2 (hle.trans hl)) (fun p ρ2 a2 w2 hl => h2 p ρ2 a2 w2 (hle.trans hl))
     ·intro ρ' w' p n mem' hle hm' hk
      exact h2 ⟨p, n, { st with mem := mem' }⟩ ρ' a w' hle (hr.le hle hm') hk
    ·cases h
  ·rw [T.run_val, Option.bind_eq_some_iff] at h
   obtain ⟨x, hx, hk⟩ := h
   cases x with
   | inl p =>
    obtain ⟨e1, e2⟩ := c0w hpc hx
    obtain ⟨hw, hwp⟩ := a2X (ops := ops) hE hr e2 (K := wpList P ops Q l) (Q := Q) fun w2 hr2 => h2 p ρ a w2 (.refl ρ) (by rw [e1]; exact hr2) hk
    unfold wpList
    rw [if_pos hw]
    exact .inl hwp
   | inr y =>
    obtain ⟨pc', s1⟩ := y
    obtain ⟨e1, e2⟩ := c0x hE hpc hx
    have := b06 hE hr e1 (wpList P ops Q l) Q fun a' w' ρ' hl hr' => a3R hE e2 hr' hk (fun F ρ2 a2 w2 hl2 => h1 F ρ2 a2 w2 (hl.trans hl2)) (fun p ρ2 a2 w2 hl2 => h2 p ρ2 a2 w2 (hl.trans hl2))
    unfold wpList
    split
    ·rename_i hw; rw [if_pos hw] at this; exact .inl this
    ·rename_i hw; rw [if_neg hw] at this; exact this
theorem b6L (hE : E.Ok P) (hr : Rel ρ B w0 st a w) {id : Nat} {β : Type} {K : Pn ⊕ St → Option β} {r : β} (h : b8F E ops ops.toList st.mem.length [] (st.more (u1 E ops.toList)) K = some r) {Q : Exit → Act → World → Prop}
  (h1 : ∀ F ρ' a' w', ρ.le ρ' → Rel ρ' B w0 F a' w' → K (.inr F) = some r → Q .normal a' w') (h2 : ∀ p ρ' a' w', ρ.le ρ' → Rel ρ' B w0 (Pn.out p ops.toList) a' w' → K (.inl p) = some r → Q (.panic [{ v := p.py.val p.n, recovered := false }]) a' w') :
  (Code.region id ops false).wp P Q a w :=
 wp_region_list (a3R hE (pc := []) (fun d b hh => by cases hh) (hr.more (u1 E ops.toList)) h h1 fun p ρ' a' w' hl hr' hk => h2 p ρ' a' w' hl hr' hk)
end
end Go.Ax
namespace Go.Ax
open Go.RowKit
variable {P : Program}
section
variable {ρ : Env} {B : Nat} {w0 : Base} {a : Act} {w : World} {ops : Array Oper} {E : AE} [Flat E] {fts : List (Option Nat)} {nmOf : Nat → Nat}
theorem b7l {st : St} {nm : Nat} {dst : Option Tmp} {args : List TV} {s : XSig} {n : Int} {x : Ds s.args} {y : Bool × Int × Rs s.res} (hio : s.sig.io = false) (hx : F3 st st s.args args = some x) (hg : s.g x = some y) (hy : xr y = .inl n) : (a8x st nm dst args s).val = some (.inl n) := by
 obtain ⟨b, m, r⟩ := y
 cases b with
 | false => cases hy
 | true =>
  have : m = n := by cases hy; rfl
  subst this
  unfold a8x
  have : s.args.any Kd.isIo = false := hio
  rw [this]
  simp only [hx]
  rw [T.val_opt]
  refine ⟨_, hg, ?_⟩
  rw [T.val_ite]
  exact .inl ⟨rfl, by rw [T.val_ret]⟩
theorem b2N {E' : AE} {o : Oper} {L : List Nat} {A F : St} {s : XSig} {args : List Operand} {nm : Nat} {n : Int} (hr : Rel ρ B w0 A a w) (hx : b39 E' o = some (s, args))
  (hL : ∀ j ∈ L, ∀ oj, ops[j]? = some oj → a2H oj.op = false ∧ oj.apart ops o = true) (h : a0Y E ops fts nmOf L A = some F)
  (hsu : b0O s.args (args.map F.get) = true) (hc : (a8x F nm o.dst (args.map F.get) s).val = some (.inl n)) : b5n E' o A s.py n := by
 obtain ⟨D, g1, g2⟩ := a02 (fun j hj oj hoj => (hL j hj oj hoj).1) h
 have ht : ∀ t, t ∈ o.looksAt ops → A.tmps[t]? = F.tmps[t]? := by
  intro t htl
  refine (g1.tmps t fun hm => ?_).symm
  obtain ⟨j, hj, oj, hoj, hd⟩ := g2 t hm
  exact (Oper.apart_spec (hL j hj oj hoj).2).1 t hd htl
 have hget : ∀ x ∈ o.op.operands, A.get x = F.get x := fun x hx => C8 fun t e => ht t (u7 (by rw [← e]; exact hx))
 have hag : Agree (fun n => ∃ l, ρ n = some l) F A := by
  refine ⟨fun n b ⟨l, hl⟩ hlk => ?_, fun n b _ hlk => ?_⟩
  ·have hk := g1.keep n (fun hf => by rw [hr.m.free n (.inr hf)] at hl; cases hl)
   unfold St.look at hlk ⊢
   rw [hk] at hlk
   exact hlk
  ·obtain ⟨l, Cc, _, hs, _⟩ := hr.m.ob n b (d0 hlk)
   exact N4 hs
 obtain ⟨hg, f, as, ats, ho, hs, rfl⟩ := a3X hx
 have hop : ∀ x ∈ as.toList, x ∈ o.op.operands := by
  intro x hx
  rw [ho]
  simp [Op.operands, Call.operands]
  exact .inr (by simpa using hx)
 have hargs : as.toList.map A.get = as.toList.map F.get := List.map_congr_left fun x hx => hget x (hop x hx)
 obtain ⟨hio, x, y, q1, q2, q3⟩ := b2K hc
 have hio' : ∀ k ∈ s.args, k.isIo = false := fun k hk => by
  have : s.args.any Kd.isIo = false := hio
  rw [List.any_eq_false] at this
  simpa using this k hk
 have q1' : F3 A A s.args (as.toList.map F.get) = some x := a4J hag hio' (fun v hv => by
  obtain ⟨z, hz, rfl⟩ := List.mem_map.1 hv
  rw [← hget z (hop z hz)]
  exact b2V (hr.get z)) q1
 refine .inl ⟨s, as.toList, nm, hx, by rw [hargs]; exact hsu, ?_, rfl⟩
 rw [hargs]
 exact b7l hio q1' q2 q3
theorem Oper.apart_symm {x y : Oper} (h : x.apart ops y = true) : y.apart ops x = true := by
 obtain ⟨h1, h2, h3⟩ := Oper.apart_spec h
 unfold Oper.apart
 cases hx : x.dst with
 | none => cases hy : y.dst with
  | none => rfl
  | some d => simp [h3 d hy]
 | some d' => cases hy : y.dst with
  | none => simp [h1 d' hx]
  | some d =>
   have h4 := h2 d' hx
   rw [hy] at h4
   simp only [Bool.and_eq_true, Bool.not_eq_true', bne_iff_ne, ne_eq]
   exact ⟨⟨by simpa using h3 d hy, fun e => h4 e.symm⟩, by simpa using h1 d' hx⟩
def GrewP (D : List Tmp) (A C : St) : Prop := Grew D A C ∧ C.tmps.length = A.tmps.length ∧ C.dfr = A.dfr ∧ C.mem.length = A.mem.length
theorem GrewP.trans {D D' : List Tmp} {A C F : St} (h : GrewP D A C) (k : GrewP D' C F) : GrewP (D ++ D') A F := ⟨h.1.trans k.1, k.2.1.trans h.2.1, k.2.2.1.trans h.2.2.1, k.2.2.2.trans h.2.2.2⟩
theorem b17 (s : St) (d : Option Tmp) (v : TV) : (s.put d v).tmps.length = s.tmps.length ∧ (s.put d v).dfr = s.dfr ∧ (s.put d v).mem = s.mem := by
 cases d with
 | none => exact ⟨rfl, rfl, rfl⟩
 | some t => exact ⟨by simp [St.put], rfl, rfl⟩
theorem b8K (s : St) (e : Eff) : (app s e).tmps.length = s.tmps.length ∧ (app s e).dfr = s.dfr ∧ (app s e).mem.length = s.mem.length := by
 unfold app
 obtain ⟨h1, h2, h3⟩ := b17 { s with mem := a1D s.mem e.nm e.news } e.dst e.v
 exact ⟨h1, h2, by rw [h3]; exact a56⟩
theorem b8A {Q : Exit → Act → World → Prop} (hE : E.Ok P) {ms : List Nat} (hc : Held E fts ops ops.toList ms) {keep : Nat → Bool} {p : Nat} {op : Oper} (hp : ops[p]? = some op) (hkp : keep p = false)
  (hk : ∀ (j : Nat) (o : Oper), ops[j]? = some o → keep j = true → a2H o.op = false ∧ ∀ e ∈ o.after, Region.binds .any e = true → keep e.on = true)
  (hn : ∀ (j : Nat) (o : Oper), ops[j]? = some o → keep j = false → j ≠ p → ∃ e ∈ o.after, Region.binds .any e = true ∧ keep e.on = false)
  (hpp : ∀ e ∈ op.after, Region.binds .any e = true → keep e.on = true)
  {F st0 : St} {ρ0 : Env} (hpan : ∀ (L : List Nat) (A : St) (a : Act) (w : World) (ρ : Env) (D : List Tmp) (K : Act → World → Prop), ρ0.le ρ → Rel ρ B w0 A a w → GrewP D st0 A → (∀ t ∈ D, ∃ (j : Nat) (o : Oper), ops[j]? = some o ∧ o.dst = some t) → (∀ j ∈ L, ∀ oj, ops[j]? = some oj → a2H oj.op = false ∧ oj.apart ops op = true) → a0Y E ops [] nmOf L A = some F → Region.wanted op (yielded ops a.tmps) = true ∧ op.wp P a w K Q) :
  ∀ (fuel : Nat) (R : List Nat) (listed : Array Bool) (ρ : Env) (A : St) (a : Act) (w : World) (D : List Tmp), R.length < fuel → R.Pairwise (· < ·) → (∀ i, i < ops.size → (listed.getD i true = false ↔ (keep i = false ∨ i ∈ R))) → (∀ i ∈ R, i < ops.size ∧ keep i = true) → listed.size = ops.size →
   (∀ (k : Nat) (o : Oper), ops[k]? = some o → keep k = true → k ∉ R → ∀ e ∈ o.after, Region.binds .any e = true → e.on ∉ R) → ρ0.le ρ → Rel ρ B w0 A a w → GrewP D st0 A → (∀ t ∈ D, ∃ (j : Nat) (o : Oper), ops[j]? = some o ∧ o.dst = some t) → a0Y E ops [] nmOf R A = some F → wpAny P .any ops Q fuel listed a w := by
 intro fuel
 induction fuel with
 | zero => intro R _ _ _ _ _ _ hl; omega
 | succ fuel ih =>
  intro R listed ρ A a w D hl hsort hmem hR hsize hcl hle hr hg hD h
  have hps : p < ops.size := (Array.getElem?_eq_some_iff.1 hp).1
  have hset : ∀ i, i < ops.size → keep i = true → i ∉ R → listed.getD i false = true := by
   intro i hi hki hiR
   have h1 : ¬ listed.getD i true = false := fun hh => by
    rcases (hmem i hi).1 hh with h | h
    ·rw [hki] at h; cases h
    ·exact hiR h
   rw [Array.getD_eq_getD_getElem?, Array.getElem?_eq_getElem (show i < listed.size by omega)] at h1 ⊢
   simpa using h1
  have hlow : ∀ i, i < ops.size → keep i = false → listed.getD i false = false := by
   intro i hi hki
   have h1 := (hmem i hi).2 (.inl hki)
   rw [Array.getD_eq_getD_getElem?, Array.getElem?_eq_getElem (show i < listed.size by omega)] at h1 ⊢
   simpa using h1
  refine ⟨fun hnil => ?_, fun i hi => ?_⟩
  ·exfalso
   cases R with
   | nil =>
    have : p ∈ Region.ready .any ops listed := by
     refine mem_ready.2 ⟨(hmem p hps).2 (.inl hkp), op, hp, fun e he hb => ?_⟩
     have hlt := hc.edge p op (by rw [Array.getElem?_toList]; exact hp) e he hb
     exact hset e.on (by omega) (hpp e he hb) (by simp)
    rw [hnil] at this
    simp at this
   | cons i r =>
    obtain ⟨h1, h2⟩ := hR i (by simp)
    obtain ⟨o, ho⟩ : ∃ o, ops[i]? = some o := ⟨ops[i], Array.getElem?_eq_getElem h1⟩
    have : i ∈ Region.ready .any ops listed := by
     refine mem_ready.2 ⟨(hmem i h1).2 (.inr (by simp)), o, ho, fun e he hb => ?_⟩
     have hlt := hc.edge i o (by rw [Array.getElem?_toList]; exact ho) e he hb
     refine hset e.on (by omega) ((hk i o ho h2).2 e he hb) fun hm => ?_
     rcases List.mem_cons.1 hm with hm | hm
     ·omega
     ·have := List.rel_of_pairwise_cons hsort hm
      omega
    rw [hnil] at this
    simp at this
  ·obtain ⟨h1, o, ho, hpre⟩ := mem_ready.1 hi
   have his : i < ops.size := (Array.getElem?_eq_some_iff.1 ho).1
   let X : Nat → Prop := fun k => keep k = false ∨ k ∈ R
   have hclX : ∀ (k : Nat) (o : Oper), ops[k]? = some o → ¬ X k → ∀ e ∈ o.after, Region.binds .any e = true → ¬ X e.on := by
    intro k ok hok hXk e he hb hXe
    have hkk : keep k = true := by
     cases hkk : keep k with
     | true => rfl
     | false => exact absurd (.inl hkk) hXk
    rcases hXe with h | h
    ·rw [(hk k ok hok hkk).2 e he hb] at h; cases h
    ·exact hcl k ok hok hkk (fun hh => hXk (.inr hh)) e he hb h
   have hpreX : ∀ e ∈ o.after, Region.binds .any e = true → ¬ X e.on := by
    intro e he hb hXe
    have hlt := hc.edge i o (by rw [Array.getElem?_toList]; exact ho) e he hb
    have h2 := hpre e he hb
    have h3 := (hmem e.on (by omega)).2 hXe
    rw [Array.getD_eq_getD_getElem?, Array.getElem?_eq_getElem (show e.on < listed.size by omega)] at h2 h3
    simp only [Option.getD_some] at h2 h3
    rw [h2] at h3
    cases h3
   have hmsi : ∀ k, k < ops.size → ∃ m, ms[k]? = some m := fun k hk => ⟨_, List.getElem?_eq_getElem (show k < ms.length by rw [hc.len]; simpa using hk)⟩
   have hbef : ∀ (k : Nat) (ok : Oper) (m : Nat), ops[k]? = some ok → ms[k]? = some m → (∀ e ∈ ok.after, Region.binds .any e = true → ¬ X e.on) → ∀ j, m.testBit j = true → ¬ X j := fun k ok m hok hm hpk => a4D hc hclX k ok m hok hm hpk
   rcases (hmem i his).1 h1 with hki | hiR
   ·
    by_cases hip : i = p
    ·subst hip
     rw [hp] at ho; cases ho
     have hap : ∀ j ∈ R, ∀ oj, ops[j]? = some oj → a2H oj.op = false ∧ oj.apart ops op = true := by
      intro j hj oj hoj
      obtain ⟨hjs, hkj⟩ := hR j hj
      refine ⟨(hk j oj hoj hkj).1, ?_⟩
      rcases Nat.lt_trichotomy j i with hji | hji | hji
      ·obtain ⟨m, hm⟩ := hmsi i his
       rcases hc.pair i op m j oj (by rw [Array.getElem?_toList]; exact hp) hm hji (by rw [Array.getElem?_toList]; exact hoj) with hb | hb
       ·exact absurd (show X j from .inr hj) (hbef i op m hp hm hpreX j hb)
       ·simp only [b4m, Bool.and_eq_true] at hb
        exact hb.1
      ·subst hji; rw [hkp] at hkj; cases hkj
      ·obtain ⟨m, hm⟩ := hmsi j hjs
       rcases hc.pair j oj m i op (by rw [Array.getElem?_toList]; exact hoj) hm hji (by rw [Array.getElem?_toList]; exact hp) with hb | hb
       ·exfalso
        have := a4D hc (X := fun k => keep k = false) (fun k ok hok hkk e he hb' hh => by
         rw [(hk k ok hok (by simpa using hkk)).2 e he hb'] at hh; cases hh) j oj m hoj hm (fun e he hb' hh => by rw [(hk j oj hoj hkj).2 e he hb'] at hh; cases hh) i hb
        exact this hkp
       ·simp only [b4m, Bool.and_eq_true] at hb
        exact Oper.apart_symm hb.1
     obtain ⟨q1, q2⟩ := hpan R A a w ρ D (wpAny P .any ops Q fuel (listed.setIfInBounds i true)) hle hr hg hD hap h
     unfold wpOp
     rw [hp]
     simp only
     rw [if_pos q1]
     exact .inl q2
    ·exfalso
     obtain ⟨e, he, hb, hke⟩ := hn i o ho hki hip
     exact hpreX e he hb (.inl hke)
   ·obtain ⟨_, hki⟩ := hR i hiR
    obtain ⟨L, R2, rfl⟩ := List.append_of_mem hiR
    have hsort' := hsort
    rw [List.pairwise_append] at hsort
    obtain ⟨_, hs2, hs3⟩ := hsort
    obtain ⟨m, hm⟩ := hmsi i his
    have hap : ∀ j ∈ L, ∀ oj, ops[j]? = some oj → a2H oj.op = false ∧ oj.apart ops o = true := by
     intro j hj oj hoj
     have hji : j < i := hs3 j hj i (by simp)
     refine ⟨(hk j oj hoj (hR j (by simp [hj])).2).1, ?_⟩
     rcases hc.pair i o m j oj (by rw [Array.getElem?_toList]; exact ho) hm hji (by rw [Array.getElem?_toList]; exact hoj) with hb | hb
     ·exact absurd (show X j from .inr (by simp [hj])) (hbef i o m ho hm hpreX j hb)
     ·simp only [b4m, Bool.and_eq_true] at hb
      exact hb.1
    have hwi := (hk i o ho hki).1
    obtain ⟨A', g1, g2⟩ := c1k ho hwi hap hr h
    have hgrow : ∃ D', GrewP D' A A' ∧ ∀ t ∈ D', ∃ (j : Nat) (o : Oper), ops[j]? = some o ∧ o.dst = some t := by
     obtain ⟨D', q1, q2⟩ := a02 (E := E) (fts := []) (nmOf := nmOf) (L := [i]) (A := A) (C := A') (fun j hj oj hoj => by rw [List.mem_singleton.1 hj, ho] at hoj; cases hoj; exact hwi) (by simp only [a0Y, ho, g1, Option.bind_some])
     obtain ⟨e, rfl, _⟩ := a6p (Q1 o A) hwi g1
     exact ⟨D', ⟨q1, b8K A e⟩, fun t ht => by obtain ⟨j, _, oj, hoj, hd⟩ := q2 t ht; exact ⟨j, oj, hoj, hd⟩⟩
    obtain ⟨D', gg, hD'⟩ := hgrow
    have hs := a5A hE hr g1 (wpAny P .any ops Q fuel (listed.setIfInBounds i true)) Q fun a' w' ρ' hl' hr' => by
     have hin : i < listed.size := by omega
     have hnin : ∀ k, k ∈ L ++ R2 ↔ k ∈ L ++ i :: R2 ∧ k ≠ i := by
      intro k
      have hnd : i ∉ L ∧ i ∉ R2 := ⟨fun hh => by have := hs3 i hh i (by simp); omega, fun hh => by have := List.rel_of_pairwise_cons hs2 hh; omega⟩
      constructor
      ·intro hk
       rcases List.mem_append.1 hk with hk | hk
       ·exact ⟨by simp [hk], fun e => hnd.1 (e ▸ hk)⟩
       ·exact ⟨by simp [hk], fun e => hnd.2 (e ▸ hk)⟩
      ·rintro ⟨hk, hne⟩
       simp only [List.mem_append, List.mem_cons] at hk ⊢
       rcases hk with hk | hk | hk
       ·exact .inl hk
       ·exact absurd hk hne
       ·exact .inr hk
     refine ih (L ++ R2) _ ρ' A' a' w' (D ++ D') (by simp at hl ⊢; omega) ?_ ?_ (fun k hk => hR k ((hnin k).1 hk).1) (by simpa using hsize) ?_ (hle.trans hl') hr' (hg.trans gg) (fun t ht => ?_) g2
     ·rw [List.pairwise_append] at hsort' ⊢
      exact ⟨hsort'.1, (List.pairwise_cons.1 hsort'.2.1).2, fun x hx y hy => hsort'.2.2 x hx y (by simp [hy])⟩
     ·intro k hks
      rw [hnin]
      by_cases hki' : k = i
      ·subst hki'
       rw [Array.getD_eq_getD_getElem?, Array.getElem?_setIfInBounds_self_of_lt hin]
       simp [hki]
      ·rw [getD_set_ne true (Ne.symm hki'), hmem k hks]
       simp [hki']
     ·intro k ok hok hkk hk' e he hb hm'
      have hme := (hnin e.on).1 hm'
      by_cases hki' : k = i
      ·subst hki'
       rw [ho] at hok; cases hok
       exact hpreX e he hb (.inr hme.1)
      ·exact hcl k ok hok hkk (fun hh => hk' ((hnin k).2 ⟨hh, hki'⟩)) e he hb hme.1
     ·rcases List.mem_append.1 ht with ht | ht
      ·exact hD t ht
      ·exact hD' t ht
    unfold wpOp
    rw [ho]
    simp only
    split
    ·rename_i hwd; rw [if_pos hwd] at hs; exact .inl hs
    ·rename_i hwd; rw [if_neg hwd] at hs; exact hs
omit [Flat E] in
theorem a88 {keep : Nat → Bool} : ∀ {l pre : List Oper} {nm0 : Nat} {pc : PC} {st r : St}, ops.toList = pre ++ l → PCok pc st → (c0W E ops keep l pre.length (nm0 + u1 E pre) pc st).val = some r →
  a0Y E ops [] (fun i => nm0 + u1 E (ops.toList.take i)) ((List.range' pre.length l.length).filter keep) st = some r
 | [], pre, nm0, pc, st, r, _, _, h => by simp only [c0W, T.val_ret] at h; rw [h]; rfl
 | o :: l, pre, nm0, pc, st, r, ha, hpc, h => by
  have ho : ops[pre.length]? = some o := by rw [← Array.getElem?_toList, ha, List.getElem?_append_right (Nat.le_refl _)]; simp
  have hn : u1 E (pre ++ [o]) = u1 E pre + b6x E o := by
   clear ha ho h
   induction pre with
   | nil => simp [u1]
   | cons x r ih => simp only [List.cons_append, u1, ih]; omega
  have ht : ops.toList.take pre.length = pre := by rw [ha]; simp
  simp only [c0W] at h
  rw [List.length_cons, List.range'_succ]
  split at h
  ·rename_i hk
   obtain ⟨s1, pc', h1, h2, h3⟩ := a5y hpc h
   rw [List.filter_cons_of_pos hk]
   have hv : opV E ops ([].getD pre.length none) (nm0 + u1 E (ops.toList.take pre.length)) o st = some s1 := I5.2 ⟨rfl, by rw [ht]; exact h1⟩
   simp only [a0Y, ho, hv, Option.bind_some]
   have := a88 (l := l) (pre := pre ++ [o]) (nm0 := nm0) (by rw [ha]; simp) h2 (by rw [hn, ← Nat.add_assoc, List.length_append, List.length_singleton]; exact h3)
   rw [List.length_append, List.length_singleton] at this
   exact this
  ·rename_i hk
   rw [List.filter_cons_of_neg (by simp [hk])]
   have := a88 (l := l) (pre := pre ++ [o]) (nm0 := nm0) (by rw [ha]; simp) hpc (by rw [hn, ← Nat.add_assoc, List.length_append, List.length_singleton]; exact h)
   rw [List.length_append, List.length_singleton] at this
   exact this
omit [Flat E] in
theorem b56 {p : Nat} {o : Oper} {s : XSig} {args : List Operand} : ∀ {l : List Oper} {k : Nat}, xAt E l k = some (p, o, s, args) → ∃ i, l[i]? = some o ∧ p = k + i ∧ b39 E o = some (s, args)
 | [], k, h => by cases h
 | x :: l, k, h => by
  simp only [xAt] at h
  split at h
  ·rename_i s' args' hx
   cases h
   exact ⟨0, rfl, rfl, hx⟩
  ·obtain ⟨i, h1, h2, h3⟩ := b56 h
   exact ⟨i + 1, h1, by omega, h3⟩
theorem a2W {o : Oper} {f : Nat → Bool} : a2V o f = true ↔ ∀ e ∈ o.after, Region.binds .any e = true → f e.on = true := by
 unfold a2V
 rw [Array.all_eq_true_iff_forall_mem]
 refine forall_congr' fun e => forall_congr' fun _ => ?_
 cases Region.binds .any e <;> simp
theorem a8W {keep : Nat → Bool} {p : Nat} : ∀ {l : List Oper} {k : Nat}, b5I keep p l k = true → ∀ i o, l[i]? = some o →
  (keep (k + i) = true → a2H o.op = false ∧ a2V o keep = true ∧ k + i ≠ p) ∧ (keep (k + i) = false → k + i = p → a2V o keep = true) ∧ (keep (k + i) = false → k + i ≠ p → a2V o keep = false)
 | [], k, _, i, o, h => by simp at h
 | x :: l, k, hk, i, o, h => by
  simp only [b5I, Bool.and_eq_true] at hk
  cases i with
  | zero =>
   cases h
   have h1 := hk.1
   rw [Nat.add_zero]
   refine ⟨fun hh => ?_, fun hh hp => ?_, fun hh hp => ?_⟩
   ·rw [hh] at h1
    simp only [Bool.and_eq_true, Bool.not_eq_true'] at h1
    exact ⟨h1.1.1, h1.1.2, fun e => by rw [e, Nat.beq_refl] at h1; cases h1.2⟩
   ·rw [hh] at h1
    simp only at h1
    rw [hp, Nat.beq_refl] at h1
    exact h1
   ·rw [hh] at h1
    simp only at h1
    have : Nat.beq k p = false := by
     cases hb : Nat.beq k p with
     | false => rfl
     | true => exact absurd (Nat.eq_of_beq_eq_true hb) hp
    rw [this] at h1
    simpa using h1
  | succ i =>
   have := a8W hk.2 i o h
   rw [show k + 1 + i = k + (i + 1) by omega] at this
   exact this
theorem O4 : ∀ (l : List Oper) (st : St), (st.forgets l).tmps.length = st.tmps.length ∧ (st.forgets l).dfr = st.dfr
 | [], st => ⟨rfl, rfl⟩
 | o :: r, st => by
  obtain ⟨h1, h2⟩ := O4 r (st.put o.dst (.one .any))
  obtain ⟨h3, h4, _⟩ := b17 st o.dst (.one .any)
  exact ⟨h1.trans h3, h2.trans h4⟩
theorem a2Z : ∀ (l : List Oper) (st : St) (t : Nat) (v : TV), (st.forgets l).tmps[t]? = some v → v = .one .any ∨ (st.tmps[t]? = some v ∧ ∀ o ∈ l, o.dst ≠ some t)
 | [], st, t, v, h => .inr ⟨h, fun o ho => by simp at ho⟩
 | o :: r, st, t, v, h => by
  rcases a2Z r _ t v h with h | ⟨h1, h2⟩
  ·exact .inl h
  ·cases hd : o.dst with
   | none =>
    rw [hd] at h1
    exact .inr ⟨h1, fun x hx => by
     rcases List.mem_cons.1 hx with rfl | hx
     ·rw [hd]; simp
     ·exact h2 x hx⟩
   | some d =>
    rw [hd] at h1
    simp only [St.put, List.getElem?_set] at h1
    split at h1
    ·split at h1
     ·cases h1; exact .inl rfl
     ·cases h1
    ·rename_i hne
     refine .inr ⟨h1, fun x hx => ?_⟩
     rcases List.mem_cons.1 hx with rfl | hx
     ·rw [hd]; intro e; cases e; exact hne rfl
     ·exact h2 x hx
theorem b9a {A st : St} {n : Nat} {D : List Tmp} (hr : Rel ρ B w0 A a w) (hg : GrewP D (st.more n) A) (hD : ∀ t ∈ D, ∃ (j : Nat) (o : Oper), ops[j]? = some o ∧ o.dst = some t) : Rel ρ B w0 (st.halt ops.toList n) a w := by
 obtain ⟨hg, hl, hf, hm⟩ := hg
 have hstill : ∀ (o : Nat) (x : Slot), ((st.more n).mem.map Slot.still)[o]? = some x → x ≠ .dead → (st.more n).mem[o]? = some x ∧ x ≠ .free := by
  intro o x h hx
  rw [List.getElem?_map, Option.map_eq_some_iff] at h
  obtain ⟨y, h1, h2⟩ := h
  cases y <;> simp only [Slot.still] at h2 <;> subst h2
  ·exact absurd rfl hx
  all_goals exact ⟨h1, fun h => by cases h⟩
 refine ⟨?_, fun t v hv => ?_, ?_, ?_⟩
 ·show _ = (st.forgets ops.toList).tmps.length
  rw [(O4 _ _).1, hr.len, hl]
  rfl
 ·rcases a2Z _ _ _ _ (show (st.forgets ops.toList).tmps[t]? = some v from hv) with rfl | ⟨h1, h2⟩
  ·trivial
  ·refine hr.tm t v ?_
   rw [hg.tmps t fun hm => ?_]
   ·exact h1
   ·obtain ⟨j, o, ho, hd⟩ := hD t hm
    exact h2 o (by rw [← Array.getElem?_toList] at ho; exact List.mem_of_getElem? ho) hd
 ·refine hr.m.drop (fun o b h => ?_) (fun o s p h => ?_) (fun o h => ?_)
  ·obtain ⟨h1, h2⟩ := hstill o _ h (fun h => by cases h)
   rw [hg.keep o (by rw [h1]; simp)]
   exact h1
  ·obtain ⟨h1, h2⟩ := hstill o _ h (fun h => by cases h)
   rw [hg.keep o (by rw [h1]; simp)]
   exact h1
  ·rcases h with h | h
   ·refine hr.m.free o (.inl ?_)
    have h : ((st.more n).mem.map Slot.still)[o]? = none := h
    rw [List.getElem?_eq_none_iff, List.length_map] at h
    rw [List.getElem?_eq_none_iff, hm]
    exact h
   ·exact absurd rfl (hstill o _ h (fun h => by cases h)).2
 ·show a7a ρ (st.forgets ops.toList).dfr a.defers
  rw [(O4 _ _).2]
  have : A.dfr = st.dfr := hf
  rw [← this]
  exact hr.defers
end
section
variable {ρ : Env} {B : Nat} {w0 : Base} {a : Act} {w : World} {ops : Array Oper} {E : AE} {st : St}
def QOf (ρ : Env) (B : Nat) (w0 : Base) (ops : Array Oper) (Q : Exit → Act → World → Prop) : Pn ⊕ St → Prop
 | .inr F => ∀ a' w' ρ', ρ.le ρ' → Rel ρ' B w0 F a' w' → Q .normal a' w'
 | .inl p => ∀ a' w' ρ', ρ.le ρ' → Rel ρ' B w0 (p.out ops.toList) a' w' → Q (.panic [{ v := p.py.val p.n, recovered := false }]) a' w'
theorem b2c (hE : E.Ok P) (hmix : P.follows .mixedOrders = true) (hr : Rel ρ B w0 st a w) {id : Nat} {fts : List (Option Nat)} {r : Pn ⊕ St} (h : (a9F E ops fts st).val = some r) (hok : a0x E.flat fts ops ops.toList [] [] = true) {Q : Exit → Act → World → Prop} (hQ : QOf ρ B w0 ops Q r) :
  (Code.region id ops true).wp P Q a w := by
 have plain : ∀ {r : Pn ⊕ St}, ((a9G E.flat ops fts st).bind fun F => T.ret (Sum.inr F : Pn ⊕ St)).val = some r → (QOf ρ B w0 ops Q r) → (Code.region id ops true).wp P Q a w := by
  intro r h hQ
  rw [T.val_bind_iff] at h
  obtain ⟨F, h1, h2⟩ := h
  rw [T.val_ret] at h2
  subst h2
  exact b6K hE.flat hmix hr h1 hok hQ
 unfold a9F at h
 split at h
 ·rename_i p o s args hx
  split at h
  ·rename_i hkeep
   rw [T.val_bind_iff] at h
   obtain ⟨F, h1, h2⟩ := h
   split at h2
   ·rename_i hsu
    rw [T.val_bind_iff] at h2
    obtain ⟨y, h3, h4⟩ := h2
    cases y with
    | inr z => exact plain h4 hQ
    | inl n =>
     rw [T.val_ret] at h4
     subst h4
     obtain ⟨i, hi, hpi, hxc⟩ := b56 hx
     rw [Nat.zero_add] at hpi
     subst hpi
     generalize hkeepD : a4o (anc ops.toList []) p = keep at hkeep h1
     have hks := a8W hkeep
     simp only [Nat.zero_add] at hks
     have hrun := a88 (ops := ops) (E := E.flat) (keep := keep) (l := ops.toList) (pre := []) (nm0 := st.mem.length) (pc := []) (by simp) (fun d b hh => by cases hh) h1
     simp only [List.length_nil] at hrun
     have hc0 : Held E.flat fts ops [] [] := ⟨rfl, fun i o h => by simp at h, fun i o m h => by simp at h, fun i o m j oj h => by simp at h⟩
     obtain ⟨ms, hms⟩ := a2h hok hc0
     simp only [List.nil_append] at hms
     have hp : ops[p]? = some o := by rw [← Array.getElem?_toList]; exact hi
     have hl : ∀ j oj, ops[j]? = some oj → ops.toList[j]? = some oj := fun j oj h => by rw [Array.getElem?_toList]; exact h
     have hkp : keep p = false := by
      cases hh : keep p with
      | false => rfl
      | true => exact absurd rfl ((hks p o hi).1 hh).2.2
     refine wp_region_any hmix ?_
     have hlt : ∀ i, i ∈ (List.range' 0 ops.toList.length).filter keep ↔ i < ops.size ∧ keep i = true := fun i => by
      rw [List.mem_filter, ← List.range_eq_range', List.mem_range, Array.length_toList]
     refine b8A hE.flat hms (keep := keep) hp hkp (fun j oj hoj hkj => ⟨((hks j oj (hl j oj hoj)).1 hkj).1, a2W.1 ((hks j oj (hl j oj hoj)).1 hkj).2.1⟩) (fun j oj hoj hkj hne => ?_) (a2W.1 ((hks p o hi).2.1 hkp rfl)) (F := F) (st0 := st.more (u1 E.flat ops.toList)) (ρ0 := ρ) ?_ ops.size _ _ ρ _ a _ [] ?_ ?_ ?_ ?_ (by simp) ?_ (.refl ρ) (hr.more _).drew ⟨Grew.refl _, rfl, rfl, rfl⟩ (fun t ht => by simp at ht) hrun
     ·have := (hks j oj (hl j oj hoj)).2.2 hkj hne
      apply Classical.byContradiction
      intro hcon
      rw [Bool.eq_false_iff] at this
      refine this (a2W.2 fun e he hb => ?_)
      cases hke : keep e.on with
      | true => rfl
      | false => exact absurd ⟨e, he, hb, hke⟩ hcon
     ·intro L A a' w' ρ' D K hle hrA hg hD hap hrunA
      have hend := b2N (E' := E) hrA hxc hap hrunA hsu h3
      exact a2X (ops := ops) hE hrA hend fun w2 hr2 => hQ a' w2 ρ' hle (b9a hr2 hg hD)
     ·have : ((List.range' 0 ops.toList.length).filter keep).length < (List.range' 0 ops.toList.length).length := by
       refine Nat.lt_of_le_of_ne (List.length_filter_le ..) fun e => ?_
       have := List.filter_eq_self.1 (List.filter_sublist.eq_of_length e) p (by
        rw [← List.range_eq_range', List.mem_range, Array.length_toList]; exact (Array.getElem?_eq_some_iff.1 hp).1)
       rw [hkp] at this
       cases this
      simpa using this
     ·refine List.Pairwise.filter _ ?_
      rw [← List.range_eq_range']; exact List.pairwise_lt_range
     ·intro i hi
      rw [hlt i]
      constructor
      ·intro _
       cases keep i with
       | true => exact .inr ⟨hi, rfl⟩
       | false => exact .inl rfl
      ·intro _; simp [hi]
     ·exact fun i hi => (hlt i).1 hi
     ·intro k ok hok hkk hnot
      exact absurd ((hlt k).2 ⟨(Array.getElem?_eq_some_iff.1 hok).1, hkk⟩) hnot
   ·simp [T.val_fail] at h2
  ·exact plain h hQ
 ·exact plain h hQ
end
end Go.Ax
namespace Go.Ax
open Go.RowKit
variable {P : Program}
theorem b9B {a b : TV} (h : (c0F a b).val = some ()) : a = b := by
 unfold c0F at h
 split at h
 ·split at h
  ·rename_i e1 e2
   rw [Nat.eq_of_beq_eq_true e1, Nat.eq_of_beq_eq_true e2]
  ·simp [T.val_fail] at h
 ·split at h
  ·rename_i e
   rw [T.val_ite] at h
   rcases h with ⟨h1, _⟩ | ⟨_, h2⟩
   ·rw [e, h1]
   ·simp [T.val_fail] at h2
  ·simp [T.val_fail] at h
 ·simp [T.val_fail] at h
theorem b20 {E : AE} {st st2 : St} {nm : Nat} {o : Oper} (hget : ∀ x ∈ o.op.operands, st2.get x = st.get x) (hm : st2.mem = st.mem) (hw : b2Y E o.op = true) : Puts st st2 o.dst (j8 E nm o st) (j8 E nm o st2) := by
 by_cases hr : a2F E o.op = true
 ·exact b54 hget hr
 ·have hl : ∀ t ob b i, a4R E st2 t ob b i = a4R E st t ob b i := fun t ob b i => by unfold a4R St.look; rw [hm]
  obtain ⟨dst, op, type, pos, after, guard⟩ := o
  simp only at hget hw hr ⊢
  cases op <;> simp only [b2Y] at hw <;> try exact absurd hw hr
  case load t p =>
   simp only [Op.operands] at hget
   simp only [j8, hget p (by simp), hl]
   repeat' first | exact Puts.fail _ | exact Puts.ret _ | exact Puts.retA _ | refine Puts.bind _ fun _ => ?_ | split
def O7 (D : List Tmp) (F : St) : St := { F with tmps := F.tmps.mapIdx fun t v => if t ∈ D then .one .any else v }
theorem a0H (D : List Tmp) (F : St) (t : Nat) : (O7 D F).tmps[t]? = F.tmps[t]?.map fun v => if t ∈ D then .one .any else v := by
 unfold O7
 simp only [List.getElem?_mapIdx]
theorem b9l {D : List Tmp} {F : St} {x : Operand} (h : ∀ t, x = .tmp t → t ∉ D) : (O7 D F).get x = F.get x := C8 fun t e => by
 rw [a0H]
 cases F.tmps[t]? with
 | none => rfl
 | some v => simp [h t e]
theorem b5M (D : List Tmp) (F : St) : (O7 D F).tmps.length = F.tmps.length := by unfold O7; simp
theorem b53 {a b : St} (h1 : ∀ t : Nat, a.tmps[t]? = b.tmps[t]?) (h2 : a.mem = b.mem) (h3 : a.dfr = b.dfr) : a = b := by
 obtain ⟨x1, x2, x3⟩ := a
 obtain ⟨y1, y2, y3⟩ := b
 have := List.ext_getElem? h1
 simp only at this h2 h3
 subst this h2 h3
 rfl
theorem b3p (F : St) (d : Option Tmp) (v : TV) (t : Nat) : (F.put d v).tmps[t]? = if d = some t then F.tmps[t]?.map (fun _ => v) else F.tmps[t]? := by
 cases d with
 | none => rfl
 | some d =>
  simp only [St.put, List.getElem?_set, Option.some.injEq]
  by_cases e : d = t
  ·subst e
   rw [if_pos rfl, if_pos rfl]
   by_cases h : d < F.tmps.length
   ·rw [if_pos h, List.getElem?_eq_getElem h]; rfl
   ·rw [if_neg h, List.getElem?_eq_none (Nat.le_of_not_lt h)]; rfl
  ·rw [if_neg e, if_neg e]
theorem a9A (F : St) (d : Option Tmp) (v : TV) : (F.put d v).mem = F.mem ∧ (F.put d v).dfr = F.dfr := by cases d <;> exact ⟨rfl, rfl⟩
theorem b9n {D : List Tmp} {F : St} {d : Tmp} {v : TV} (hv : ∀ u, F.tmps[d]? = some u → u = v) : (O7 D F).put (some d) v = O7 (D.filter fun x => x ≠ d) F := by
 refine b53 (fun t => ?_) (a9A _ _ _).1 (a9A _ _ _).2
 rw [b3p, a0H, a0H]
 by_cases e : d = t
 ·subst e
  rw [if_pos rfl]
  cases h : F.tmps[d]? with
  | none => rfl
  | some u =>
   simp only [Option.map_some, List.mem_filter, ne_eq, not_true_eq_false, decide_false, hv u h]
   simp
 ·rw [if_neg (fun h => e (by cases h; rfl))]
  cases F.tmps[t]? with
  | none => rfl
  | some u =>
   have : (t ∈ D.filter fun x => x ≠ d) ↔ t ∈ D := by
    rw [List.mem_filter]
    simp only [ne_eq, decide_not, Bool.not_eq_true', decide_eq_false_iff_not]
    exact ⟨fun h => h.1, fun h => ⟨h, fun h2 => e h2.symm⟩⟩
   simp only [Option.map_some, this]
theorem b9m {D : List Tmp} {F : St} {m : List Slot} {d : Option Tmp} {v : TV} (hd : ∀ t, d = some t → t ∉ D) : St.put { O7 D F with mem := m } d v = O7 D (St.put { F with mem := m } d v) := by
 refine b53 (fun t => ?_) ?_ ?_
 ·have e1 : ∀ t : Nat, ({ O7 D F with mem := m } : St).tmps[t]? = (O7 D F).tmps[t]? := fun _ => rfl
  have e2 : ∀ t : Nat, ({ F with mem := m } : St).tmps[t]? = F.tmps[t]? := fun _ => rfl
  rw [b3p, e1, a0H, a0H, b3p, e2]
  by_cases e : d = some t
  ·rw [if_pos e, if_pos e]
   cases F.tmps[t]? with
   | none => rfl
   | some u => simp [hd t e]
  ·rw [if_neg e, if_neg e]
 ·show (St.put { O7 D F with mem := m } d v).mem = (St.put { F with mem := m } d v).mem
  rw [(a9A _ _ _).1, (a9A _ _ _).1]
 ·show (St.put { O7 D F with mem := m } d v).dfr = (St.put { F with mem := m } d v).dfr
  rw [(a9A _ _ _).2, (a9A _ _ _).2]
  rfl
theorem b1C (F : St) : O7 [] F = F := b53 (fun t => by rw [a0H]; cases F.tmps[t]? <;> simp) rfl rfl
theorem b5p {E : AE} {F : St} : ∀ {l : List Oper}, (b0P E F l).val = some () → ∀ o ∈ l, ∃ d F', o.dst = some d ∧ (j8 E 0 o F).val = some F' ∧ F'.tmps.getD d (.one .any) = F.tmps.getD d (.one .any)
 | [], _, o, ho => by simp at ho
 | x :: l, h, o, ho => by
  simp only [b0P] at h
  split at h
  ·rename_i d hd
   rw [T.val_bind_iff] at h
   obtain ⟨F', h1, h2⟩ := h
   rw [T.val_bind_iff] at h2
   obtain ⟨u, h2, h3⟩ := h2
   rcases List.mem_cons.1 ho with rfl | ho
   ·exact ⟨d, F', hd, h1, b9B h2⟩
   ·exact b5p h3 o ho
  ·simp [T.val_fail] at h
theorem b2Z {E : AE} : ∀ {l : List Oper} {st F : St}, (∀ o ∈ l, b2Y E o.op = true) → (b7N E l st).val = some F → F.mem = st.mem ∧ F.dfr = st.dfr ∧ F.tmps.length = st.tmps.length ∧ ∀ t, t ∉ l.filterMap (·.dst) → F.tmps[t]? = st.tmps[t]?
 | [], st, F, _, h => by
  simp only [b7N, T.val_ret] at h
  subst h
  exact ⟨rfl, rfl, rfl, fun _ _ => rfl⟩
 | o :: l, st, F, hl, h => by
  simp only [b7N] at h
  rw [T.val_bind_iff] at h
  obtain ⟨s1, h1, h2⟩ := h
  obtain ⟨v, e, _⟩ := b20 (st := st) (st2 := st) (nm := 0) (fun _ _ => rfl) rfl (hl o (by simp)) s1 h1
  obtain ⟨k1, k2, k3, k4⟩ := b2Z (fun o ho => hl o (by simp [ho])) h2
  subst e
  obtain ⟨p1, p2, p3⟩ := b17 st o.dst v
  refine ⟨k1.trans p3, k2.trans p2, k3.trans p1, fun t ht => ?_⟩
  rw [k4 t fun hh => ht (by simp only [List.filterMap_cons]; split; exact hh; exact List.mem_cons_of_mem _ hh), b3p, if_neg]
  intro e
  exact ht (by simp [e])
theorem b6v {D D' : List Tmp} {F : St} (h : ∀ t, t ∈ D ↔ t ∈ D') : O7 D F = O7 D' F :=
 b53 (fun t => by rw [a0H, a0H]; cases F.tmps[t]? with | none => rfl | some v => simp only [Option.map_some, h t]) rfl rfl
section
variable {ρ : Env} {B : Nat} {w0 : Base} {a : Act} {w : World} {ops : Array Oper} {E : AE}
def b2z (ops : Array Oper) (us : List Nat) (ls : Array Bool) : List Tmp := us.filterMap fun i => match ls.getD i true with
 | true => none
 | false => (ops[i]?).bind (·.dst)
theorem a0g {us : List Nat} {ls : Array Bool} {t : Tmp} : t ∈ b2z ops us ls ↔ ∃ i ∈ us, ls.getD i true = false ∧ ∃ o, ops[i]? = some o ∧ o.dst = some t := by
 unfold b2z
 rw [List.mem_filterMap]
 refine exists_congr fun i => and_congr_right fun _ => ?_
 cases ls.getD i true with
 | true => simp
 | false => simp [Option.bind_eq_some_iff]
theorem b66 {o : Oper} {i : Nat} : a2l o i = true ↔ ∃ e ∈ o.after, Region.binds .any e = true ∧ e.on = i := by
 unfold a2l
 rw [Array.any_eq_true']
 refine exists_congr fun e => and_congr_right fun _ => ?_
 rw [Bool.and_eq_true, Nat.beq_eq]
theorem b5w : ∀ {l : List Nat} {i : Nat}, b1q ops l = true → i ∈ l.tail → ∃ j ∈ l, ∃ o, ops[i]? = some o ∧ a2l o j = true
 | [], i, _, h => by simp at h
 | [x], i, _, h => by simp at h
 | x :: y :: r, i, h, hi => by
  simp only [b1q, Bool.and_eq_true] at h
  simp only [List.tail_cons, List.mem_cons] at hi
  rcases hi with rfl | hi
  ·have h1 := h.1
   split at h1
   ·rename_i o ho
    exact ⟨x, by simp, o, ho, h1⟩
   ·cases h1
  ·obtain ⟨j, hj, o, ho, hw⟩ := b5w (l := y :: r) h.2 (by simpa using hi)
   exact ⟨j, by simp [hj], o, ho, hw⟩
theorem b5v {x : Nat} {r : List Nat} (h : b1q ops (x :: r) = true) : b1q ops r = true := by
 cases r with
 | nil => rfl
 | cons y r => simp only [b1q, Bool.and_eq_true] at h; exact h.2
structure Stat (E : AE) (ops : Array Oper) (us : List Nat) : Prop where
 guard : ∀ (i : Nat) (o : Oper), ops[i]? = some o → o.guard = none
 edge : ∀ (i : Nat) (o : Oper), ops[i]? = some o → ∀ e ∈ o.after, Region.binds .any e = true → e.on < i
 look : ∀ i ∈ us, ∃ u d, ops[i]? = some u ∧ b2Y E u.op = true ∧ u.dst = some d ∧ ∀ (j : Nat) (o : Oper), ops[j]? = some o → (i = j ∨ o.dst ≠ some d) ∧ (Operand.tmp d ∈ o.op.operands → a2l o i = true)
theorem b8r {us ss : List Nat} (h : c0K E ops us ss = true) : Stat E ops us ∧ b1q ops ss = true := by
 unfold c0K at h
 simp only [Bool.and_eq_true, List.all_eq_true] at h
 obtain ⟨⟨⟨h1, h2⟩, h3⟩, h4⟩ := h
 have hmem : ∀ (i : Nat) (o : Oper), ops[i]? = some o → o ∈ ops.toList := fun i o ho => List.mem_of_getElem? (by rw [Array.getElem?_toList]; exact ho)
 have hlt : ∀ (i : Nat) (o : Oper), ops[i]? = some o → i ∈ List.range ops.size := fun i o ho => List.mem_range.2 (Array.getElem?_eq_some_iff.1 ho).1
 refine ⟨⟨fun i o ho => by simpa using h1 o (hmem i o ho), fun i o ho e he hb => ?_, fun i hi => ?_⟩, h4⟩
 ·have := h2 i (hlt i o ho)
  rw [ho] at this
  simp only at this
  rw [Array.all_eq_true_iff_forall_mem] at this
  have := this e he
  rw [hb] at this
  simpa using this
 ·have := h3 i hi
  unfold b7M at this
  split at this
  ·cases this
  ·rename_i u hu
   rw [Bool.and_eq_true] at this
   obtain ⟨k1, k2⟩ := this
   split at k2
   ·cases k2
   ·rename_i d hd
    rw [List.all_eq_true] at k2
    refine ⟨u, d, hu, k1, hd, fun j o ho => ?_⟩
    have := k2 j (hlt j o ho)
    rw [ho] at this
    simp only [Bool.and_eq_true, Bool.or_eq_true, Bool.not_eq_true', beq_eq_false_iff_ne, ne_eq, Nat.beq_eq] at this
    refine ⟨this.1, fun hm => ?_⟩
    rcases this.2 with h | h
    ·have h2 : o.op.operands.any (c0r d) = true := Array.any_eq_true'.2 ⟨_, hm, by simp [c0r]⟩
     rw [h] at h2
     cases h2
    ·exact h
theorem b4n {o : Oper} {st st2 : St} (h : ∀ x ∈ o.op.operands, st2.get x = st.get x) : a4O E o st2 = a4O E o st := by
 obtain ⟨dst, op, type, pos, after, guard⟩ := o
 simp only at h
 unfold a4O
 cases op <;> try rfl
 case call c =>
  obtain ⟨callee, args, ats⟩ := c
  have hargs : ∀ x ∈ args.toList, st2.get x = st.get x := fun x hx => h x (by simp [Op.operands, Call.operands]; exact .inr (by simpa using hx))
  have hm : args.toList.map st2.get = args.toList.map st.get := List.map_congr_left hargs
  cases callee with
  | value v => cases v <;> simp only [hm]
  | invoke r n =>
   have hr : st2.get r = st.get r := h r (by simp [Op.operands, Call.operands])
   simp only [hm, hr]
  | _ => rfl
theorem b7r {l : List Nat} {ls : Array Bool} {i : Nat} (hi : i ∈ l) (hs : i < ls.size) (hf : ls.getD i true = false) : (l.filter fun k => !(ls.setIfInBounds i true).getD k true).length < (l.filter fun k => !ls.getD k true).length := by
 have e : (l.filter fun k => !(ls.setIfInBounds i true).getD k true) = (l.filter fun k => !ls.getD k true).filter fun k => !(ls.setIfInBounds i true).getD k true := by
  rw [List.filter_filter]
  refine List.filter_congr fun k _ => ?_
  by_cases hk : i = k
  ·subst hk
   rw [Array.getD_eq_getD_getElem?, Array.getElem?_setIfInBounds_self_of_lt hs]; simp
  ·rw [getD_set_ne true hk]; simp
 rw [e]
 refine Nat.lt_of_le_of_ne (List.length_filter_le ..) fun h => ?_
 have := List.filter_eq_self.1 (List.filter_sublist.eq_of_length h) i (List.mem_filter.2 ⟨hi, by simp [hf]⟩)
 rw [Array.getD_eq_getD_getElem?, Array.getElem?_setIfInBounds_self_of_lt hs] at this
 simp at this
theorem b7B {ls : Array Bool} {i : Nat} (h : i < ls.size) : ls.getD i true = ls.getD i false := by
 rw [Array.getD_eq_getD_getElem?, Array.getD_eq_getD_getElem?, Array.getElem?_eq_getElem h]; rfl
theorem b08 {us : List Nat} (hs : Stat E ops us) {ls : Array Bool} (hz : ls.size = ops.size) : ∀ (n i : Nat), i < n → i < ops.size → ls.getD i true = false → Region.ready .any ops ls ≠ []
 | 0, i, h, _, _ => by omega
 | n + 1, i, h, hi, hf => by
  obtain ⟨o, ho⟩ : ∃ o, ops[i]? = some o := ⟨ops[i], Array.getElem?_eq_getElem hi⟩
  by_cases hall : ∀ e ∈ o.after, Region.binds .any e = true → ls.getD e.on false = true
  ·intro hn
   have : i ∈ Region.ready .any ops ls := mem_ready.2 ⟨hf, o, ho, hall⟩
   rw [hn] at this
   simp at this
  ·simp only [Classical.not_forall] at hall
   obtain ⟨e, he, hb, hne⟩ := hall
   have hlt := hs.edge i o ho e he hb
   refine b08 hs hz n e.on (by omega) (by omega) ?_
   rw [b7B (by omega)]
   simpa using hne
theorem b4h {D : List Tmp} {F : St} (hr : Rel ρ B w0 (O7 D F) a w) (hD : ∀ t ∈ D, ∃ (j : Nat) (o : Oper), ops[j]? = some o ∧ o.dst = some t) : Rel ρ B w0 (F.forgets ops.toList) a w := by
 refine ⟨?_, fun t v hv => ?_, ?_, ?_⟩
 ·rw [(O4 _ _).1, hr.len, b5M]
 ·rcases a2Z _ _ _ _ hv with rfl | ⟨h1, h2⟩
  ·trivial
  ·refine hr.tm t v ?_
   rw [a0H, h1, Option.map_some, if_neg]
   intro hm
   obtain ⟨j, o, ho, hd⟩ := hD t hm
   exact h2 o (by rw [← Array.getElem?_toList] at ho; exact List.mem_of_getElem? ho) hd
 ·have : (F.forgets ops.toList).mem = F.mem := by
   clear hr hD
   generalize ops.toList = l
   induction l generalizing F with
   | nil => rfl
   | cons o r ih => exact (ih (F := F.put o.dst (.one .any))).trans (a9A F o.dst _).1
  rw [this]
  exact hr.m
 ·rw [(O4 _ _).2]
  exact hr.defers
theorem b5D {α γ : Type} {f g : α → Option γ} : ∀ (l : List α), (∀ x ∈ l, f x = g x) → l.filterMap f = l.filterMap g
 | [], _ => rfl
 | x :: l, h => by rw [List.filterMap_cons, List.filterMap_cons, h x (by simp), b5D l fun y hy => h y (by simp [hy])]
theorem b7o (hE : E.Ok P) {β : Type} {K : Pn ⊕ St → Option β} {r : β} {Q : Exit → Act → World → Prop} {us : List Nat} (hs : Stat E ops us) {ρ0 : Env}
  (h1 : ∀ F ρ' a' w', ρ0.le ρ' → Rel ρ' B w0 F a' w' → K (.inr F) = some r → Q .normal a' w') (h2 : ∀ p ρ' a' w', ρ0.le ρ' → Rel ρ' B w0 (Pn.st p) a' w' → K (.inl p) = some r → Q (.panic [{ v := p.py.val p.n, recovered := false }]) a' w') :
  ∀ (fuel : Nat) (ls : Array Bool) (ss : List Nat) (ρ : Env) (F : St) (a : Act) (w : World), ((List.range ops.size).filter fun k => !ls.getD k true).length ≤ fuel → ls.size = ops.size → (∀ i, i < ops.size → i ∉ us → (ls.getD i true = false ↔ i ∈ ss)) →
   (∀ i ∈ ss, i < ops.size ∧ i ∉ us) → ss.Pairwise (· < ·) → b1q ops ss = true → ((∃ i ∈ us, ls.getD i true = false) → (b0P E F (b4z ops us)).val = some ()) → ρ0.le ρ → Rel ρ B w0 (O7 (b2z ops us ls) F) a w → a5h E ops us ss F K = some r → wpAny P .any ops Q fuel ls a w := by
 have hus : ∀ i ∈ us, i < ops.size := fun i hi => by
  obtain ⟨u, d, hu, _⟩ := hs.look i hi
  exact (Array.getElem?_eq_some_iff.1 hu).1
 have fin : ∀ (ls : Array Bool) (ss : List Nat) (ρ : Env) (F : St) (a : Act) (w : World), ls.size = ops.size → (∀ i, i < ops.size → i ∉ us → (ls.getD i true = false ↔ i ∈ ss)) → (∀ i ∈ ss, i < ops.size ∧ i ∉ us) → ρ0.le ρ → Rel ρ B w0 (O7 (b2z ops us ls) F) a w → a5h E ops us ss F K = some r → Region.ready .any ops ls = [] → Q .normal a w := by
  intro ls ss ρ F a w hz hm hss hle hr h hn
  have none : ∀ i, i < ops.size → ls.getD i true = false → False := fun i hi hf => b08 hs hz (i + 1) i (by omega) hi hf hn
  cases ss with
  | cons i r => exact (none i (hss i (by simp)).1 ((hm i (hss i (by simp)).1 (hss i (by simp)).2).2 (by simp))).elim
  | nil =>
   have : b2z ops us ls = [] := by
    rw [List.eq_nil_iff_forall_not_mem]
    intro t ht
    obtain ⟨i, hi, hf, _⟩ := a0g.1 ht
    exact none i (hus i hi) hf
   rw [this, b1C] at hr
   exact h1 F ρ a w hle hr h
 intro fuel
 induction fuel with
 | zero =>
  intro ls ss ρ F a w hl hz hm hss hsort hch hag hle hr h
  have hn : Region.ready .any ops ls = [] := by
   rw [List.eq_nil_iff_forall_not_mem]
   intro i hi
   obtain ⟨hf, o, ho, _⟩ := mem_ready.1 hi
   have : i ∈ (List.range ops.size).filter fun k => !ls.getD k true := List.mem_filter.2 ⟨List.mem_range.2 (Array.getElem?_eq_some_iff.1 ho).1, by simp [hf]⟩
   rw [List.length_eq_zero_iff.1 (Nat.le_zero.1 hl)] at this
   simp at this
  exact ⟨hn, fin ls ss ρ F a w hz hm hss hle hr h hn⟩
 | succ fuel ih =>
  intro ls ss ρ F a w hl hz hm hss hsort hch hag hle hr h
  refine ⟨fin ls ss ρ F a w hz hm hss hle hr h, fun i hi => ?_⟩
  obtain ⟨hf, o, ho, hpre⟩ := mem_ready.1 hi
  have his : i < ops.size := (Array.getElem?_eq_some_iff.1 ho).1
  have hcnt := b7r (l := List.range ops.size) (List.mem_range.2 his) (by omega) hf
  have hz' : (ls.setIfInBounds i true).size = ops.size := by simpa using hz
  have hself : (ls.setIfInBounds i true).getD i true = true := by
   rw [Array.getD_eq_getD_getElem?, Array.getElem?_setIfInBounds_self_of_lt (by omega)]; rfl
  have hnw : ∀ j, j < ops.size → ls.getD j true = false → a2l o j = false := by
   intro j hj hfj
   cases hw : a2l o j with
   | false => rfl
   | true =>
    obtain ⟨e, he, hb, rfl⟩ := b66.1 hw
    have := hpre e he hb
    rw [← b7B (by omega), hfj] at this
    cases this
  have hget : ∀ x ∈ o.op.operands, (O7 (b2z ops us ls) F).get x = F.get x := fun x hx => b9l fun t e hm => by
   obtain ⟨j, hj, hfj, u, hu, hd⟩ := a0g.1 hm
   obtain ⟨u', d, hu', _, hd', hk⟩ := hs.look j hj
   rw [hu] at hu'; cases hu'
   rw [hd] at hd'; cases hd'
   have h3 := (hk i o ho).2 (by rw [← e]; exact hx)
   rw [hnw j (hus j hj) hfj] at h3
   cases h3
  have hw : Region.wanted o (yielded ops a.tmps) = true := by simp [Region.wanted, hs.guard i o ho]
  unfold wpOp
  rw [ho]
  simp only
  rw [if_pos hw]
  refine .inl ?_
  by_cases hiu : i ∈ us
  ·
   obtain ⟨u, d, hu, hlk, hd, hk⟩ := hs.look i hiu
   rw [ho] at hu; cases hu
   have hag1 := hag ⟨i, hiu, hf⟩
   obtain ⟨d', F', hd', h3, h4⟩ := b5p hag1 o (by
    unfold b4z
    exact List.mem_filterMap.2 ⟨i, hiu, ho⟩)
   rw [hd] at hd'; cases hd'
   obtain ⟨v, e1, e2⟩ := b20 (E := E) (st := F) (st2 := O7 (b2z ops us ls) F) (nm := 0) (o := o) hget rfl hlk F' h3
   refine a3W hE hr e2 _ Q fun v' w' ρ' hl' hr' => ?_
   have hv : ∀ u, F.tmps[d]? = some u → u = v := by
    intro u hu
    have hlt := (List.getElem?_eq_some_iff.1 hu).1
    have q1 : F.tmps.getD d (.one .any) = u := by rw [List.getD_eq_getElem?_getD, hu]; rfl
    have q2 : F'.tmps.getD d (.one .any) = v := by
     rw [e1, List.getD_eq_getElem?_getD, b3p, hd, if_pos rfl, hu]; rfl
    rw [← q1, ← h4, q2]
   have hmp : (O7 (b2z ops us ls) F).put o.dst v = O7 ((b2z ops us ls).filter fun x => x ≠ d) F := by rw [hd, b9n hv]
   rw [hmp] at hr'
   have hcg : O7 ((b2z ops us ls).filter fun x => x ≠ d) F = O7 (b2z ops us (ls.setIfInBounds i true)) F := b6v fun t => by
    rw [List.mem_filter, a0g, a0g]
    constructor
    ·rintro ⟨⟨j, hj, hfj, oj, hoj, hdj⟩, hne⟩
     refine ⟨j, hj, ?_, oj, hoj, hdj⟩
     rw [getD_set_ne true]
     ·exact hfj
     ·intro e
      subst e
      rw [ho] at hoj; cases hoj
      rw [hd] at hdj; cases hdj
      simp at hne
    ·rintro ⟨j, hj, hfj, oj, hoj, hdj⟩
     have hij : i ≠ j := fun e => by
      subst e
      rw [hself] at hfj
      cases hfj
     rw [getD_set_ne true hij] at hfj
     refine ⟨⟨j, hj, hfj, oj, hoj, hdj⟩, ?_⟩
     rcases (hk j oj hoj).1 with e | e
     ·exact absurd e hij
     ·simp only [ne_eq, decide_not, Bool.not_eq_true', decide_eq_false_iff_not]
      exact fun e2 => e (by rw [hdj, e2])
   rw [hcg] at hr'
   refine ih (ls.setIfInBounds i true) ss ρ' F _ w' (by omega) hz' (fun k hk1 hk2 => ?_) hss hsort hch (fun _ => hag1) (hle.trans hl') hr' h
   rw [getD_set_ne true (by rintro rfl; exact hk2 hiu)]
   exact hm k hk1 hk2
  ·
   have hin := (hm i his hiu).1 hf
   cases ss with
   | nil => simp at hin
   | cons x rest =>
    have hix : i = x := by
     apply Classical.byContradiction
     intro hne
     obtain ⟨j, hj, o', ho', hw'⟩ := b5w (i := i) hch (by
      rcases List.mem_cons.1 hin with e | e
      ·exact absurd e hne
      ·simpa using e)
     rw [ho] at ho'; cases ho'
     have hj2 := hss j hj
     rw [hnw j hj2.1 ((hm j hj2.1 hj2.2).2 hj)] at hw'
     cases hw'
    subst hix
    have hnr : i ∉ rest := fun hm' => by have := List.rel_of_pairwise_cons hsort hm'; omega
    have hm2 : ∀ k, k < ops.size → k ∉ us → ((ls.setIfInBounds i true).getD k true = false ↔ k ∈ rest) := by
     intro k hk1 hk2
     by_cases e : i = k
     ·subst e
      rw [hself]
      simp [hnr]
     ·rw [getD_set_ne true e, hm k hk1 hk2, List.mem_cons]
      exact ⟨fun h => h.resolve_left (Ne.symm e), .inr⟩
    have hleft : b2z ops us (ls.setIfInBounds i true) = b2z ops us ls := by
     unfold b2z
     refine b5D _ fun k hk => ?_
     rw [getD_set_ne true (by rintro rfl; exact hiu hk)]
    have hun : (∃ k ∈ us, (ls.setIfInBounds i true).getD k true = false) → ∃ k ∈ us, ls.getD k true = false := by
     rintro ⟨k, hk, hfk⟩
     rw [getD_set_ne true (by rintro rfl; exact hiu hk)] at hfk
     exact ⟨k, hk, hfk⟩
    simp only [a5h, ho] at h
    split at h
    ·rename_i J args hJ
     rw [← b4n hget] at hJ
     obtain ⟨f, vs, k1, k2, k3, k4⟩ := a7f hE hr hJ
     unfold Oper.wp
     rw [k4]
     refine k1 β ρ B w0 F.mem w args vs _ r _ k2 k3 hr.m h ?_ ?_
     ·intro ρ' w' ll us' mem' hle' hm' hrel hk
      dsimp only at hk
      rw [T.run_val, Option.bind_eq_some_iff] at hk
      obtain ⟨_, hk1, hk2⟩ := hk
      have hr1 : Rel ρ' B w0 (St.put { O7 (b2z ops us ls) F with mem := mem' } o.dst (b8H ll)) (a.put o.dst (b2x us')) w' := (hr.le hle' hm').put o.dst (b2f hrel)
      rw [b9m (fun t e hmm => by
       obtain ⟨j, hj, hfj, u, hu, hd⟩ := a0g.1 hmm
       obtain ⟨u', d, hu', _, hd', hkk⟩ := hs.look j hj
       rw [hu] at hu'; cases hu'
       rw [hd] at hd'; cases hd'
       rcases (hkk i o ho).1 with e2 | e2
       ·subst e2; exact hiu hj
       ·exact e2 e), ← hleft] at hr1
      exact ih _ rest ρ' _ _ w' (by omega) hz' hm2 (fun k hk => hss k (by simp [hk])) (List.pairwise_cons.1 hsort).2 (b5v hch) (fun _ => hk1) (hle.trans hle') hr1 hk2
     ·intro ρ' w' p n mem' hle' hm' hk
      refine h2 _ ρ' a w' (hle.trans hle') ?_ hk
      have hr1 := hr.le hle' hm'
      have hrf := b4h (ops := ops) (F := { F with mem := mem' }) (D := b2z ops us ls) hr1 (fun t ht => by
       obtain ⟨j, _, _, u, hu, hd⟩ := a0g.1 ht
       exact ⟨j, u, hu, hd⟩)
      have he : ∀ (l : List Oper) (G : St), ({ G with mem := mem' } : St).forgets l = { G.forgets l with mem := mem' } := by
       intro l
       induction l with
       | nil => intro G; rfl
       | cons y l ihl =>
        intro G
        have : ({ G with mem := mem' } : St).put y.dst (.one .any) = { G.put y.dst (.one .any) with mem := mem' } := by cases y.dst <;> rfl
        exact (congrArg (fun z => St.forgets z l) this).trans (ihl _)
      rw [he] at hrf
      exact hrf
    ·split at h
     ·rename_i hall
      rw [T.run_val, Option.bind_eq_some_iff] at h
      obtain ⟨F', h3, h4⟩ := h
      have hnone : ∀ k ∈ us, ls.getD k true = false → False := by
       intro k hk hfk
       have := List.all_eq_true.1 hall k hk
       rw [hnw k (hus k hk) hfk] at this
       cases this
      have hnil : b2z ops us ls = [] := by
       rw [List.eq_nil_iff_forall_not_mem]
       intro t ht
       obtain ⟨j, hj, hfj, _⟩ := a0g.1 ht
       exact hnone j hj hfj
      rw [hnil, b1C] at hr
      refine a3W hE hr h3 _ Q fun v' w' ρ' hl' hr' => ?_
      refine ih _ rest ρ' F' _ w' (by omega) hz' hm2 (fun k hk => hss k (by simp [hk])) (List.pairwise_cons.1 hsort).2 (b5v hch) (fun hh => ?_) (hle.trans hl') ?_ h4
      ·obtain ⟨k, hk, hfk⟩ := hun hh
       exact (hnone k hk hfk).elim
      ·rw [hleft, hnil, b1C]; exact hr'
     ·cases h
theorem b2d (hE : E.Ok P) (hmix : P.follows .mixedOrders = true) {st : St} (hr : Rel ρ B w0 st a w) {id : Nat} {β : Type} {K : Pn ⊕ St → Option β} {r : β} (h : a64 E ops st K = some r) {Q : Exit → Act → World → Prop}
  (h1 : ∀ F ρ' a' w', ρ.le ρ' → Rel ρ' B w0 F a' w' → K (.inr F) = some r → Q .normal a' w') (h2 : ∀ p ρ' a' w', ρ.le ρ' → Rel ρ' B w0 (Pn.out p ops.toList) a' w' → K (.inl p) = some r → Q (.panic [{ v := p.py.val p.n, recovered := false }]) a' w') :
  (Code.region id ops true).wp P Q a w := by
 unfold a64 at h
 split at h
 ·cases h
 ·rename_i p _
  split at h
  ·rename_i hst
   obtain ⟨hs, hch⟩ := b8r hst
   rw [T.run_val, Option.bind_eq_some_iff] at h
   obtain ⟨F, hF, h⟩ := h
   rw [T.run_val, Option.bind_eq_some_iff] at h
   obtain ⟨_, hag, h⟩ := h
   generalize hk : a4o (anc ops.toList []) p = keep at h hs hch hF hag
   have hls : ∀ i, i < ops.size → (Array.replicate ops.size false).getD i true = false := fun i hi => by
    rw [Array.getD_eq_getD_getElem?, Array.getElem?_eq_getElem (by simpa using hi)]; simp
   have hmu : ∀ i, i ∈ (List.range ops.size).filter keep ↔ i < ops.size ∧ keep i = true := fun i => by rw [List.mem_filter, List.mem_range]
   have hms : ∀ i, (i ∈ (List.range ops.size).filter fun i => !keep i) ↔ i < ops.size ∧ keep i = false := fun i => by rw [List.mem_filter, List.mem_range]; simp
   refine wp_region_any hmix (b7o hE hs h1 (fun p ρ' a' w' => h2 p ρ' a' w') ops.size (Array.replicate ops.size false) ((List.range ops.size).filter fun i => !keep i) ρ F a _ ?_ (by simp) (fun i hi hiu => ?_) (fun i hi => ?_) ?_ hch (fun _ => hag) (.refl ρ) ?_ h)
   ·exact Nat.le_trans (List.length_filter_le ..) (by simp)
   ·refine ⟨fun _ => (hms i).2 ⟨hi, ?_⟩, fun _ => hls i hi⟩
    cases hh : keep i with
    | false => rfl
    | true => exact absurd ((hmu i).2 ⟨hi, hh⟩) hiu
   ·obtain ⟨k1, k2⟩ := (hms i).1 hi
    refine ⟨k1, fun hh => ?_⟩
    rw [((hmu i).1 hh).2] at k2
    cases k2
   ·exact List.Pairwise.filter _ List.pairwise_lt_range
   ·obtain ⟨m1, m2, m3, m4⟩ := b2Z (fun o ho => by
     unfold b4z at ho
     obtain ⟨i, hi, ho⟩ := List.mem_filterMap.1 ho
     obtain ⟨u, d, hu, hl, _⟩ := hs.look i hi
     rw [ho] at hu; cases hu
     exact hl) hF
    have hr2 : Rel ρ B w0 st a { w with drawn := w.drawn + 1 } := hr.drew
    refine ⟨?_, fun t v hv => ?_, ?_, ?_⟩
    ·rw [b5M, m3]; exact hr2.len
    ·rw [a0H] at hv
     by_cases ht : t ∈ b2z ops ((List.range ops.size).filter keep) (Array.replicate ops.size false)
     ·cases e : F.tmps[t]? with
      | none => rw [e] at hv; cases hv
      | some u =>
       rw [e, Option.map_some, if_pos ht] at hv
       cases hv
       trivial
     ·refine hr2.tm t v ?_
      rw [← m4 t fun hm => ht ?_]
      ·cases e : F.tmps[t]? with
       | none => rw [e] at hv; cases hv
       | some u =>
        rw [e, Option.map_some, if_neg ht] at hv
        exact hv
      ·unfold b4z at hm
       obtain ⟨o, ho, hd⟩ := List.mem_filterMap.1 hm
       obtain ⟨i, hi, ho⟩ := List.mem_filterMap.1 ho
       exact a0g.2 ⟨i, hi, hls i ((hmu i).1 hi).1, o, ho, hd⟩
    ·show MRel ρ B w0 F.mem _
     rw [m1]; exact hr2.m
    ·show a7a ρ F.dfr _
     rw [m2]; exact hr2.defers
  ·cases h
end
end Go.Ax
namespace Go.Ax
open Go.RowKit
variable {P : Program}
theorem N1 : ∀ {ns : List Nat} {o k j : Nat}, place o ns k = some j → k ≤ j ∧ ns[j - k]? = some o
 | [], o, k, j, h => by cases h
 | x :: r, o, k, j, h => by
  simp only [place] at h
  split at h
  ·rename_i he
   cases h
   exact ⟨Nat.le_refl _, by simp [i5 he]⟩
  ·obtain ⟨h1, h2⟩ := N1 h
   exact ⟨by omega, by rw [show j - k = (j - (k + 1)) + 1 by omega]; simpa using h2⟩
section
variable {ρ ρ' : Env} {B : Nat} {w0 : Base} {st st' : St} {a : Act} {w : World} {E : AE}
theorem A1.ren_rel {ns : List Nat} {cv : Bool} (hρ : (∀ (j o : Nat) (l : Loc), ns[j]? = some o → ρ o = some l → ρ' j = some l) ∧ (∀ b c, ρ.fz b = some c → ρ'.fz b = some c) ∧ (ρ'.lo = ρ.lo ∧ ρ'.al = ρ.al)) {x : A1} {v : Value} (h : A1.rel ρ x v) : A1.rel ρ' (x.ren ns cv) v := by
 have top : A1.rel ρ' .top v := A1.rel_one h
 cases x <;> try exact h
 case fr d => exact c1j hρ.2.1 hρ.2.2 h
 case fp d j => exact c1g hρ.2.1 hρ.2.2 h
 case bool p d =>
  simp only [A1.ren]
  split
  ·exact h
  ·exact h
 case ptr o b i =>
  simp only [A1.ren]
  split
  ·rename_i j hj
   obtain ⟨l, blk, f, h1, h2⟩ := h
   obtain ⟨_, hj⟩ := N1 hj
   exact ⟨l, blk, f, hρ.1 j o l (by simpa using hj) h1, h2⟩
  ·exact top
 case vec o n e =>
  simp only [A1.ren]
  split
  ·rename_i j hj
   obtain ⟨l, h1, h2⟩ := h
   obtain ⟨_, hj⟩ := N1 hj
   exact ⟨l, hρ.1 j o l (by simpa using hj) h1, h2⟩
  ·exact top
 case sl o f n c e =>
  simp only [A1.ren]
  split
  ·rename_i j hj
   obtain ⟨l, ad, cc, h1, h2⟩ := h
   obtain ⟨_, hj⟩ := N1 hj
   exact ⟨l, ad, cc, hρ.1 j o l (by simpa using hj) h1, h2⟩
  ·exact top
 case clo g o b =>
  simp only [A1.ren]
  split
  ·rename_i j hj
   obtain ⟨l, blk, f, h1, h2⟩ := h
   obtain ⟨_, hj⟩ := N1 hj
   exact ⟨l, blk, f, hρ.1 j o l (by simpa using hj) h1, h2⟩
  ·exact top
 case clq g o b o2 b2 => exact top
 case ifp t o b =>
  simp only [A1.ren]
  split
  ·rename_i j hj
   obtain ⟨l, blk, f, h1, h2⟩ := h
   obtain ⟨_, hj⟩ := N1 hj
   exact ⟨l, blk, f, hρ.1 j o l (by simpa using hj) h1, h2⟩
  ·exact top
 case ifq t o b k n =>
  simp only [A1.ren]
  split
  ·rename_i j hj
   obtain ⟨l, blk, f, h1, h2⟩ := h
   obtain ⟨_, hj⟩ := N1 hj
   exact ⟨l, blk, f, hρ.1 j o l (by simpa using hj) h1, h2⟩
  ·exact top
theorem a1C {ns : List Nat} {cv : Bool} (hρ : (∀ (j o : Nat) (l : Loc), ns[j]? = some o → ρ o = some l → ρ' j = some l) ∧ (∀ b c, ρ.fz b = some c → ρ'.fz b = some c) ∧ (ρ'.lo = ρ.lo ∧ ρ'.al = ρ.al)) : ∀ {l : List Seg} {C : List Value}, i2 ρ l C → i2 ρ' (a7t ns cv l) C
 | [], _, h => h
 | .xs _ _ _ :: _, _, ⟨h1, cs, h2, h3⟩ => ⟨h1, cs, h2, a1C hρ h3⟩
 | .one _ :: _, _, ⟨c, cs, h1, h2, h3⟩ => ⟨c, cs, h1, A1.ren_rel hρ h2, a1C hρ h3⟩
 | .rw _ _ :: _, _, ⟨c, cs, h1, h2, h3⟩ => ⟨c, cs, h1, b2h hρ.2.1 hρ.2.2.1 h2, a1C hρ h3⟩
theorem AV.ren_rel {ns : List Nat} {cv : Bool} (hρ : (∀ (j o : Nat) (l : Loc), ns[j]? = some o → ρ o = some l → ρ' j = some l) ∧ (∀ b c, ρ.fz b = some c → ρ'.fz b = some c) ∧ (ρ'.lo = ρ.lo ∧ ρ'.al = ρ.al)) {x : AV} {v : Value} (h : AV.rel ρ x v) : AV.rel ρ' (x.ren ns cv) v := by
 cases x with
 | any => trivial
 | sc x => exact A1.ren_rel hρ h
 | agg l => obtain ⟨cs, h1, h2⟩ := h; exact ⟨cs, h1, a1C hρ h2⟩
theorem b2J {ns : List Nat} {cv : Bool} (hρ : (∀ (j o : Nat) (l : Loc), ns[j]? = some o → ρ o = some l → ρ' j = some l) ∧ (∀ b c, ρ.fz b = some c → ρ'.fz b = some c) ∧ (ρ'.lo = ρ.lo ∧ ρ'.al = ρ.al)) : ∀ {l : List AV} {vs : List Value}, F4 ρ l vs → F4 ρ' (c0i ns cv l) vs
 | [], _, h => h
 | _ :: _, _, ⟨v, vs', h1, h2, h3⟩ => ⟨v, vs', h1, AV.ren_rel hρ h2, b2J hρ h3⟩
theorem TV.ren_rel {ns : List Nat} {cv : Bool} (hρ : (∀ (j o : Nat) (l : Loc), ns[j]? = some o → ρ o = some l → ρ' j = some l) ∧ (∀ b c, ρ.fz b = some c → ρ'.fz b = some c) ∧ (ρ'.lo = ρ.lo ∧ ρ'.al = ρ.al)) {x : TV} {v : Value} (h : TV.rel ρ x v) : TV.rel ρ' (x.ren ns cv) v := by
 cases x with
 | one x => exact AV.ren_rel hρ h
 | tup l => obtain ⟨vs, h1, h2⟩ := h; exact ⟨vs, h1, b2J hρ h2⟩
theorem a1H {acc : List Nat} {x : Option Nat} (h : acc.Nodup) : (a8r acc x).Nodup := by
 cases x with
 | none => exact h
 | some o =>
  simp only [a8r]
  split
  ·exact h
  ·rename_i hc
   rw [List.nodup_append]
   refine ⟨h, by simp, fun a ha b hb e => ?_⟩
   simp only [List.mem_singleton] at hb
   subst hb; subst e
   have : acc.contains a = true := List.contains_iff_mem.2 ha
   rw [this] at hc
   cases hc
theorem H3 : ∀ {l : List Seg} {acc : List Nat}, acc.Nodup → (a3V l acc).Nodup
 | [], _, h => h
 | .xs _ _ _ :: r, _, h => H3 (l := r) h
 | .one _ :: r, _, h => H3 (l := r) (a1H h)
 | .rw _ _ :: r, _, h => H3 (l := r) h
theorem AV.names_nodup {x : AV} {acc : List Nat} (h : acc.Nodup) : (x.names acc).Nodup := by
 cases x with
 | any => exact h
 | sc x => exact a1H h
 | agg l => exact H3 h
theorem a5e : ∀ {l : List AV} {acc : List Nat}, acc.Nodup → (b4b l acc).Nodup
 | [], _, h => h
 | _ :: r, _, h => a5e (l := r) (AV.names_nodup h)
theorem TV.names_nodup {x : TV} {acc : List Nat} (h : acc.Nodup) : (x.names acc).Nodup := by
 cases x with
 | one x => exact AV.names_nodup h
 | tup l => exact a5e h
theorem a3b : ∀ {l : List Nat} {acc : List Nat}, acc.Nodup → (a80 st l acc).Nodup
 | [], _, h => h
 | _ :: r, _, h => a3b (l := r) (TV.names_nodup h)
theorem R6 : ∀ {l : List Nat} {acc : List Nat}, acc.Nodup → (a1A st l acc).Nodup
 | [], _, h => h
 | o :: r, acc, h => by
  simp only [a1A]
  refine R6 (l := r) ?_
  split
  ·exact H3 h
  ·exact h
theorem a7g {ns live : List Nat} {cv : Bool} : ∀ {l : List TV} {k i : Nat} {v : TV}, (S1 ns live cv l k)[i]? = some v → ∃ u, l[i]? = some u ∧ (v = u.ren ns cv ∨ v = .one .any)
 | [], _, _, _, h => by simp [S1] at h
 | x :: r, k, i, v, h => by
  cases i with
  | zero =>
   simp only [S1, List.getElem?_cons_zero, Option.some.injEq] at h
   refine ⟨x, rfl, ?_⟩
   split at h
   ·exact .inl h.symm
   ·exact .inr h.symm
  | succ i => simpa using a7g (l := r) (k := k + 1) (by simpa [S1] using h)
theorem a28 {ns live : List Nat} {cv : Bool} : ∀ {l : List TV} {k : Nat}, (S1 ns live cv l k).length = l.length
 | [], _ => rfl
 | _ :: r, k => by simp [S1, a28 (l := r)]
theorem a1R {ns : List Nat} {cv : Bool} : ∀ {l : List Nat} {i : Nat}, (a27 st ns cv l)[i]? = (l[i]?).map fun o => match st.look o with
  | some b => Slot.live { b with segs := a7t ns cv b.segs }
  | none => .dead
 | [], i => by simp [a27]
 | o :: r, i => by
  cases i with
  | zero => simp only [a27, List.getElem?_cons_zero, Option.map_some]; rfl
  | succ i => simpa [a27] using a1R (l := r) (i := i)
theorem a5u : ∀ (l : List Slot) (j : Nat), (a3e l j).Nodup ∧ ∀ x ∈ a3e l j, j ≤ x
 | [], _ => ⟨List.nodup_nil, fun x hx => by cases hx⟩
 | s :: r, j => by
  obtain ⟨h1, h2⟩ := a5u r (j + 1)
  have rest : (a3e r (j + 1)).Nodup ∧ ∀ x ∈ a3e r (j + 1), j ≤ x := ⟨h1, fun x hx => by have := h2 x hx; omega⟩
  unfold a3e
  split
  ·rename_i e; cases e
  ·rename_i i e
   cases e
   refine ⟨List.nodup_cons.2 ⟨fun hm => by have := h2 _ hm; omega, h1⟩, fun x hx => ?_⟩
   rcases List.mem_cons.1 hx with rfl | hx
   ·exact Nat.le_refl _
   ·have := h2 x hx; omega
  ·rename_i e
   cases e
   exact rest
theorem a5c : ∀ {l : List A1} {acc : List Nat}, acc.Nodup → (b4a l acc).Nodup
 | [], _, h => h
 | _ :: r, _, h => a5c (l := r) (a1H h)
theorem a4k : ∀ {l : List (FuncId × List A1)} {acc : List Nat}, acc.Nodup → (b1r l acc).Nodup
 | [], _, h => h
 | _ :: r, _, h => a4k (l := r) (a5c h)
theorem b2D {ns : List Nat} {cv : Bool} (hρ : (∀ (j o : Nat) (l : Loc), ns[j]? = some o → ρ o = some l → ρ' j = some l) ∧ (∀ b c, ρ.fz b = some c → ρ'.fz b = some c) ∧ (ρ'.lo = ρ.lo ∧ ρ'.al = ρ.al)) : ∀ {l : List A1} {vs : List Value}, b2B ρ l vs → b2B ρ' (l.map (A1.ren ns cv)) vs
 | [], _, h => h
 | _ :: _, _, ⟨v, vs', h1, h2, h3⟩ => ⟨v, vs', h1, A1.ren_rel hρ h2, b2D hρ h3⟩
theorem b0V {ns : List Nat} {cv : Bool} (hρ : (∀ (j o : Nat) (l : Loc), ns[j]? = some o → ρ o = some l → ρ' j = some l) ∧ (∀ b c, ρ.fz b = some c → ρ'.fz b = some c) ∧ (ρ'.lo = ρ.lo ∧ ρ'.al = ρ.al)) : ∀ {l : List (FuncId × List A1)} {ds : List Deferred}, a7a ρ l ds → a7a ρ' (b5B ns cv l) ds
 | [], _, h => h
 | _ :: _, _, ⟨as, cap, ds', h1, h2, h3⟩ => ⟨as, cap, ds', h1, b2D hρ h2, b0V hρ h3⟩
theorem b5T (hr : Rel ρ B w0 st a w) (live : List Nat) : ∃ ρ', Rel ρ' B w0 (c16 live st) a w := by
 have key : ∀ (ns : List Nat) (cv : Bool), ns.Nodup → Rel { ρ with loc := fun j => match ns[j]? with | some o => ρ o | none => none } B w0 { tmps := S1 ns live cv st.tmps 0, mem := a27 st ns cv ns, dfr := b5B ns cv st.dfr } a w := by
  intro ns cv hnd
  have hρ : (∀ (j o : Nat) (l : Loc), ns[j]? = some o → ρ o = some l → ({ ρ with loc := fun j => match ns[j]? with | some o => ρ o | none => none } : Env) j = some l) ∧ (∀ b c, ρ.fz b = some c → ρ.fz b = some c) ∧ (ρ.lo = ρ.lo ∧ ρ.al = ρ.al) := by
   refine ⟨?_, fun _ _ h => h, rfl, rfl⟩
   intro j o l h1 h2
   simp only [h1, h2]
  have hlive : ∀ (j : Nat) (b : Ob), (a27 st ns cv ns)[j]? = some (Slot.live b) → ∃ o b0, ns[j]? = some o ∧ st.look o = some b0 ∧ b = { b0 with segs := a7t ns cv b0.segs } := by
   intro j b h
   rw [a1R, Option.map_eq_some_iff] at h
   obtain ⟨o, h1, h2⟩ := h
   split at h2
   ·rename_i b0 hb; cases h2; exact ⟨o, b0, h1, hb, rfl⟩
   ·cases h2
  refine ⟨?_, ?_, ⟨?_, ?_, ?_, ?_, ?_, hr.m.below, hr.m.size, hr.m.frz, ⟨hr.m.env.lo, hr.m.env.mtB, hr.m.env.okM, hr.m.env.mtD⟩, hr.m.emt, .none fun j s p h => ?_⟩, b0V hρ hr.defers⟩
  rotate_right
  ·rw [a1R, Option.map_eq_some_iff] at h
   obtain ⟨o, _, h2⟩ := h
   split at h2 <;> cases h2
  ·simp only [a28]; exact hr.len
  ·intro i v h
   obtain ⟨u, h1, h2⟩ := a7g h
   rcases h2 with rfl | rfl
   ·exact TV.ren_rel hρ (hr.tm i u h1)
   ·trivial
  ·intro j h
   rw [a1R] at h
   cases hn : ns[j]? with
   | none => simp only [hn]
   | some o =>
    rw [hn] at h
    simp only [Option.map_some, reduceCtorEq, Option.some.injEq, false_or] at h
    split at h <;> cases h
  ·intro j b h
   obtain ⟨o, b0, h1, h2, rfl⟩ := hlive j b h
   obtain ⟨l, C, g1, g2, g3⟩ := hr.m.ob o b0 (d0 h2)
   exact ⟨l, C, hρ.1 j o l h1 g1, a1C hρ g2, g3⟩
  ·intro j b j' b' l l' x y h h' hb hne hl hl' hx hy
   obtain ⟨o, b0, h1, h2, rfl⟩ := hlive j b h
   obtain ⟨o', b0', h1', h2', rfl⟩ := hlive j' b' h'
   simp only [h1] at hl
   simp only [h1'] at hl'
   refine hr.m.sep o b0 o' b0' l l' x y (d0 h2) (d0 h2') hb (fun e => ?_) hl hl' hx hy
   subst e
   obtain ⟨p1, p2⟩ := List.getElem?_eq_some_iff.1 h1
   obtain ⟨q1, q2⟩ := List.getElem?_eq_some_iff.1 h1'
   exact hne ((List.getElem_inj hnd).1 (p2.trans q2.symm))
  ·intro j b l x h hb hl hx
   obtain ⟨o, b0, h1, h2, rfl⟩ := hlive j b h
   simp only [h1] at hl
   exact hr.m.ownB o b0 l x (d0 h2) hb hl hx
  ·intro j b i l h hb hl
   obtain ⟨o, b0, h1, h2, rfl⟩ := hlive j b h
   simp only [h1] at hl
   exact hr.m.mtM o b0 i l (d0 h2) hb hl
 exact ⟨_, key _ _ (R6 (R6 (a3b (a4k (a5u _ 0).1))))⟩
theorem b7q {v : TV} {x : Value} (h : TV.rel ρ v x) : TV.rel ρ (c0j v) x := by
 unfold c0j
 split
 ·rename_i b
  have h : x = .bool b := h
  show x = .bool (@decide (b = true) _)
  rw [h]
  cases b <;> rfl
 ·exact h
theorem b8Z (hr : Rel ρ B w0 st a w) : Rel ρ B w0 st.conv a w := by
 refine ⟨by simp [St.conv, hr.len], fun i v h => ?_, hr.m, hr.defers⟩
 simp only [St.conv, List.getElem?_map, Option.map_eq_some_iff] at h
 obtain ⟨u, h1, rfl⟩ := h
 exact b7q (hr.tm i u h1)
theorem b6y (c : Nat) : i2 ρ (b01 c) [] := by
 unfold b01
 split
 ·exact ⟨[], [], rfl, rfl, rfl⟩
 ·exact ⟨rfl, [], rfl, rfl⟩
 ·exact ⟨rfl, [], rfl, rfl⟩
 ·exact ⟨rfl, [], rfl, rfl⟩
 ·exact ⟨rfl, [], rfl, rfl⟩
 ·rfl
theorem b9o (hr : Rel ρ B w0 st a w) (t c : Nat) : ∃ ρ', Rel ρ' B w0 (c14 t c st) a w := by
 unfold c14
 split
 ·rename_i ht
  have hm := hr.m.more 1
  have hf : (st.mem ++ List.replicate 1 Slot.free)[st.mem.length]? = some .free := by simp
  have hnone : ρ st.mem.length = none := hm.free _ (.inr hf)
  have hle := Env.le_set hnone { a := none, adr := none, size := 0, cap := 0, es := 1 }
  obtain ⟨h1, h2⟩ := hm.addNew hf (b := { segs := b01 c, own := .own }) (l := { a := none, adr := none, size := 0, cap := 0, es := 1 }) (fun x _ _ _ _ hx => by cases hx) (fun x hx => by cases hx) (fun i h => by cases h)
   ⟨_, [], if_pos rfl, b6y c, by simp, Nat.le_refl _, rfl, fun _ => ⟨rfl, rfl⟩⟩
  have hset : (st.mem ++ List.replicate 1 Slot.free).set st.mem.length (.live { segs := b01 c, own := .own }) = st.mem ++ [.live { segs := b01 c, own := .own }] := by
   rw [List.set_append_right _ _ (Nat.le_refl _), Nat.sub_self]
   rfl
  rw [hset] at h2
  refine ⟨_, by simp [hr.len], fun i v h => ?_, h2, a2U h1 hr.defers⟩
  rw [List.getElem?_set] at h
  split at h
  ·rename_i e
   subst e
   split at h
   ·cases h
    have hv : a.tmps.getD t undef = .slice none 0 0 := hr.tm t _ ht
    rw [hv]
    exact ⟨_, if_pos rfl, rfl, rfl, rfl, Nat.le_refl _, fun _ => rfl, fun h => absurd h (Nat.lt_irrefl 0)⟩
   ·cases h
  ·exact TV.rel_le h1 (hr.tm i v h)
 ·exact ⟨ρ, hr⟩
theorem b5S : ∀ (l : List Nat) {ρ : Env} {st : St}, Rel ρ B w0 st a w → ∃ ρ', Rel ρ' B w0 (c15 l st) a w
 | [], ρ, _, hr => ⟨ρ, hr⟩
 | [_], ρ, _, hr => ⟨ρ, hr⟩
 | t :: c :: r, _, _, hr => by
  obtain ⟨ρ1, h1⟩ := b9o hr t c
  exact b5S r h1
theorem a0W (hr : Rel ρ B w0 st a w) (H : Hints) (k : Nat) : ∃ ρ', (H = [] → ρ.le ρ') ∧ Rel ρ' B w0 (pre H k st) a w := by
 unfold pre
 split
 ·rename_i l hl
  have hne : H = [] → False := fun e => by subst e; cases hl
  split
  ·obtain ⟨ρ1, h1⟩ := b5S _ hr
   obtain ⟨ρ2, h2⟩ := b5T h1 _
   exact ⟨ρ2, fun e => (hne e).elim, h2⟩
  ·obtain ⟨ρ2, h2⟩ := b5T hr _
   exact ⟨ρ2, fun e => (hne e).elim, h2⟩
 ·exact ⟨ρ, fun _ => .refl ρ, hr⟩
theorem b9c (hr : Rel ρ B w0 st a w) (H : Hints) (c : Code) : ∃ ρ', (H = [] → ρ.le ρ') ∧ Rel ρ' B w0 (b9b H c st) a w := by
 unfold b9b
 split
 ·exact a0W hr H _
 ·exact ⟨ρ, fun _ => .refl ρ, hr⟩
theorem b9y (hr : Rel ρ B w0 st a w) (H : Hints) (c : Code) : ∃ ρ', (H = [] → ρ.le ρ') ∧ Rel ρ' B w0 (rest H c st) a w := by
 unfold rest
 split
 ·exact a0W hr H _
 ·exact ⟨ρ, fun _ => .refl ρ, hr⟩
def b9Q : Ex → Exit
 | .normal => .normal
 | .exit id => .exit id
 | .ret => .ret
 | .pan p n => .panic [{ v := p.val n, recovered := false }]
theorem Rel.know (hr : Rel ρ B w0 st a w) {t : Nat} {b : Bool} (h : a.tmps.getD t undef = .bool b) : Rel ρ B w0 (st.put (some t) (.one (.sc (.known b)))) a w := by
 refine ⟨by simp [St.put, hr.len], fun i v hv => ?_, hr.m, hr.defers⟩
 simp only [St.put, List.getElem?_set] at hv
 split at hv
 ·rename_i e
  subst e
  split at hv
  ·cases hv; exact h
  ·cases hv
 ·exact hr.tm i v hv
theorem k9 (hE : E.Ok P) (hmix : P.follows .mixedOrders = true) (H : Hints) (n : Nat) {β : Type} : ∀ (c : Code) {ρ : Env} {st : St} {a : Act} {w : World} {K : Ex → St → Option β} {r : β} {Q : Exit → Act → World → Prop}, Rel ρ B w0 st a w → y5 E H n c st K = some r →
  (∀ e st' ρ' a' w', (H = [] → ρ.le ρ') → Rel ρ' B w0 st' a' w' → K e st' = some r → Q (b9Q e) a' w') → c.wp P Q a w
 | .skip, ρ, st, a, w, K, r, Q, hr, h, hQ => Go.wp_skip (hQ .normal st ρ a w (fun _ => .refl ρ) hr h)
 | .region id ops draw, ρ, st, a, w, K, r, Q, hr, h, hQ => by
  have fin : ∀ fts : List (Option Nat), (a9F E ops fts st).run (b9W H ops K) = some r → a0x E.flat fts ops ops.toList [] [] = true → (Code.region id ops true).wp P Q a w := by
   intro fts h hok
   rw [T.run_val, Option.bind_eq_some_iff] at h
   obtain ⟨F, h1, h2⟩ := h
   refine b2c hE hmix hr h1 hok ?_
   cases F with
   | inr F => exact fun a' w' ρ' hl hr' => hQ .normal F ρ' a' w' (fun _ => hl) hr' h2
   | inl p =>
    intro a' w' ρ' hl hr'
    obtain ⟨ρ2, hl2, hr2⟩ := a0W hr' H 5000000
    exact hQ (.pan p.py p.n) _ ρ2 a' w' (fun e => hl.trans (hl2 e)) hr2 h2
  simp only [y5] at h
  unfold a63 at h
  split at h
  ·split at h
   ·rename_i F hF
    exact b3G E hr hF fun a' w' ρ' hl hr' => hQ .normal F ρ' a' w' (fun _ => hl) hr' h
   split at h
   ·refine b6L hE hr h (fun F ρ' a' w' hl hr' hk => hQ .normal F ρ' a' w' (fun _ => hl) hr' hk) fun p ρ' a' w' hl hr' hk => ?_
    obtain ⟨ρ2, hl2, hr2⟩ := a0W hr' H 5000000
    exact hQ (.pan p.py p.n) _ ρ2 a' w' (fun e => hl.trans (hl2 e)) hr2 hk
   rw [T.run_val, Option.bind_eq_some_iff] at h
   obtain ⟨F, h1, h2⟩ := h
   refine b4R hE hr h1 ?_
   cases F with
   | inr F => exact fun a' w' ρ' hl hr' => hQ .normal F ρ' a' w' (fun _ => hl) hr' h2
   | inl p =>
    intro a' w' ρ' hl hr'
    obtain ⟨ρ2, hl2, hr2⟩ := a0W hr' H 5000000
    exact hQ (.pan p.py p.n) _ ρ2 a' w' (fun e => hl.trans (hl2 e)) hr2 h2
  ·split at h
   ·refine b2d hE hmix hr h (fun F ρ' a' w' hl hr' hk => hQ .normal F ρ' a' w' (fun _ => hl) hr' hk) fun p ρ' a' w' hl hr' hk => ?_
    obtain ⟨ρ2, hl2, hr2⟩ := a0W hr' H 5000000
    exact hQ (.pan p.py p.n) _ ρ2 a' w' (fun e => hl.trans (hl2 e)) hr2 hk
   split at h
   ·rename_i hok; exact fin _ h hok
   ·split at h
    ·rename_i hok; exact fin _ h hok
    ·cases h
 | .seq x y, ρ, st, a, w, K, r, Q, hr, h, hQ => by
  refine wp_seq (k9 hE hmix H n x hr h ?_)
  intro e st' ρ' a' w' hl hr' hk
  cases e with
  | normal =>
   obtain ⟨ρ1, hl1, hr1⟩ := b9y hr' H y
   exact k9 hE hmix H n y hr1 hk fun e2 st2 ρ2 a2 w2 hl2 => hQ e2 st2 ρ2 a2 w2 fun e => (hl e).trans ((hl1 e).trans (hl2 e))
  | exit id => exact hQ (.exit id) st' ρ' a' w' hl hr' hk
  | ret => exact hQ .ret st' ρ' a' w' hl hr' hk
  | pan p m => exact hQ (.pan p m) st' ρ' a' w' hl hr' hk
 | .cond c x y, ρ, st, a, w, K, r, Q, hr, h, hQ => by
  simp only [y5] at h
  split at h
  ·rename_i t
   split at h
   ·unfold b6j at h
    split at h
    ·rename_i hv
     have hv' : a.tmps.getD t undef = .bool true := hr.tm t _ hv
     exact wp_cond_true (c := .tmp t) hv' (k9 hE hmix H n x hr h hQ)
    ·rename_i hv
     have hv' : a.tmps.getD t undef = .bool false := hr.tm t _ hv
     exact wp_cond_false (c := .tmp t) hv' (k9 hE hmix H n y hr h hQ)
    ·rename_i p d hv
     have hv' : a.tmps.getD t undef = .bool (@decide p d) := hr.tm t _ hv
     split at h
     ·rename_i hp
      rw [hp] at hv'
      exact wp_cond_true (c := .tmp t) hv' (k9 hE hmix H n x (hr.know hv') h hQ)
     ·rename_i hp
      rw [hp] at hv'
      exact wp_cond_false (c := .tmp t) hv' (k9 hE hmix H n y (hr.know hv') h hQ)
    ·cases h
   obtain ⟨ρ1, hl1, hr⟩ := a0W hr H (1000000 + t)
   have hQ' : ∀ e st' ρ' a' w', (H = [] → ρ1.le ρ') → Rel ρ' B w0 st' a' w' → b4q H (4000000 + t) K e st' = some r → Q (b9Q e) a' w' := by
    intro e st' ρ' a' w' hl hr' hk
    have hl' : H = [] → ρ.le ρ' := fun e => (hl1 e).trans (hl e)
    cases e with
    | normal =>
     obtain ⟨ρ2, hl2, hr2⟩ := a0W hr' H (4000000 + t)
     exact hQ .normal _ ρ2 a' w' (fun e => (hl' e).trans (hl2 e)) hr2 hk
    | exit id => exact hQ _ _ ρ' a' w' hl' hr' hk
    | ret => exact hQ _ _ ρ' a' w' hl' hr' hk
    | pan p m => exact hQ _ _ ρ' a' w' hl' hr' hk
   unfold b6k at h
   split at h
   ·rename_i hv
    have hv' : a.tmps.getD t undef = .bool true := hr.tm t _ hv
    exact wp_cond_true (c := .tmp t) hv' (k9 hE hmix H n x hr h hQ')
   ·rename_i hv
    have hv' : a.tmps.getD t undef = .bool false := hr.tm t _ hv
    exact wp_cond_false (c := .tmp t) hv' (k9 hE hmix H n y hr h hQ')
   ·rename_i p d hv
    have hv' : a.tmps.getD t undef = .bool (@decide p d) := hr.tm t _ hv
    by_cases hp : p
    ·rw [if_pos hp] at h
     have hv2 : a.tmps.getD t undef = .bool true := by rw [hv']; simp [hp]
     exact wp_cond_true (c := .tmp t) hv2 (k9 hE hmix H n x (hr.know hv2) h hQ')
    ·rw [if_neg hp] at h
     have hv2 : a.tmps.getD t undef = .bool false := by rw [hv']; simp [hp]
     exact wp_cond_false (c := .tmp t) hv2 (k9 hE hmix H n y (hr.know hv2) h hQ')
   ·rename_i hv
    obtain ⟨b, hv'⟩ : ∃ b, a.tmps.getD t undef = .bool b := hr.tm t _ hv
    obtain ⟨hx, hy⟩ := a5f.1 h
    cases b with
    | true => exact wp_cond_true (c := .tmp t) hv' (k9 hE hmix H n x (hr.know hv') hx hQ')
    | false => exact wp_cond_false (c := .tmp t) hv' (k9 hE hmix H n y (hr.know hv') hy hQ')
   ·cases h
  ·cases h
 | .block id x, ρ, st, a, w, K, r, Q, hr, h, hQ => by
  refine wp_block (k9 hE hmix H n x hr h ?_)
  intro e st' ρ' a' w' hl hr' hk
  cases e with
  | normal => exact hQ .normal st' ρ' a' w' hl hr' hk
  | ret => exact hQ .ret st' ρ' a' w' hl hr' hk
  | pan p m => exact hQ (.pan p m) st' ρ' a' w' hl hr' hk
  | exit j =>
   simp only at hk
   simp only [b9Q, Exit.inBlock]
   split at hk
   ·rename_i hj
    rw [if_pos (i5 hj)]
    exact hQ .normal st' ρ' a' w' hl hr' hk
   ·rename_i hj
    rw [if_neg (b6b hj)]
    exact hQ (.exit j) st' ρ' a' w' hl hr' hk
 | .loop x, ρ, st, a, w, K, r, Q, hr, h, hQ => by
  have gen : ∀ (bd : St → (Ex → St → Option β) → Option β) (hd : St → St), (∀ {ρ : Env} {st : St} {a : Act} {w : World}, Rel ρ B w0 st a w → ∃ ρ', (H = [] → ρ.le ρ') ∧ Rel ρ' B w0 (hd st) a w) →
    (∀ {ρ : Env} {st : St} {a : Act} {w : World} {K' : Ex → St → Option β} {Q' : Exit → Act → World → Prop}, Rel ρ B w0 st a w → bd st K' = some r → (∀ e st' ρ' a' w', (H = [] → ρ.le ρ') → Rel ρ' B w0 st' a' w' → K' e st' = some r → Q' (b9Q e) a' w') → x.wp P Q' a w) →
    ∀ m, a5r bd hd m st K = some r → (Code.loop x).wp P Q a w := by
   intro bd hd hhd hbd m h
   have key : ∀ (m : Nat) {ρ1 : Env} {st : St} {a : Act} {w : World}, (H = [] → ρ.le ρ1) → Rel ρ1 B w0 st a w → a5r bd hd m st K = some r → ∀ (b : Frame) (k : List Item) (cs : List Frame),
     ∃ e a' w', Q e a' w' ∧ Arrives P (lone (b.at a (.code x :: .inLoop x :: k)) cs w) b k cs e a' w' := by
    intro m
    induction m with
    | zero => intro ρ st a w _ _ h; cases h
    | succ m ih =>
     intro ρ1 st a w hle hr h b k cs
     simp only [a5r] at h
     obtain ⟨ρ2, hle2, hr1⟩ := hhd hr
     have hbody : x.wp P (fun e a' w' => (e = .normal ∧ ∃ ρ' st', (H = [] → ρ.le ρ') ∧ Rel ρ' B w0 st' a' w' ∧ a5r bd hd m st' K = some r) ∨ (e ≠ .normal ∧ (∀ id, e = .exit id ∨ True) ∧ Q e a' w')) a w := by
      refine hbd hr1 h ?_
      intro e st' ρ' a' w' hl hr' hk
      have hl' : H = [] → ρ.le ρ' := fun e => (hle e).trans ((hle2 e).trans (hl e))
      cases e with
      | normal => exact .inl ⟨rfl, ρ', st', hl', hr', hk⟩
      | exit id => exact .inr ⟨by simp [b9Q], fun _ => .inr trivial, hQ (.exit id) st' ρ' a' w' hl' hr' hk⟩
      | ret => exact .inr ⟨by simp [b9Q], fun _ => .inr trivial, hQ .ret st' ρ' a' w' hl' hr' hk⟩
      | pan p m => exact .inr ⟨by simp [b9Q], fun _ => .inr trivial, hQ (.pan p m) st' ρ' a' w' hl' hr' hk⟩
     obtain ⟨e, a1, w1, hq, harr⟩ := hbody b (.inLoop x :: k) cs
     rcases hq with ⟨rfl, ρ', st', hl', hr', hk⟩ | ⟨hne, _, hq⟩
     ·obtain ⟨e2, a2, w2, hq2, harr2⟩ := ih hl' hr' hk b k cs
      exact ⟨e2, a2, w2, hq2, .of_steps (Steps.trans harr (.one step_inLoop)) harr2⟩
     ·exact ⟨e, a1, w1, hq, .pass (x := .inLoop x) rfl (fun _ _ => .inl hne) harr⟩
   intro b k cs
   obtain ⟨e, a', w', hq, harr⟩ := key m (fun _ => .refl ρ) hr h b k cs
   exact ⟨e, a', w', hq, .of_steps (.one step_loop) harr⟩
  simp only [y5] at h
  split at h
  ·rename_i m _
   exact gen (fun st K => y5 E H n x st K) id (fun hr => ⟨_, fun _ => .refl _, hr⟩) (fun hr h hQ => k9 hE hmix H n x hr h hQ) m h
  ·exact gen (fun st K => y5 E H n x st.conv K) (b9b H x) (fun hr => b9c hr H x) (fun hr h hQ => k9 hE hmix H n x (b8Z hr) h hQ) n h
 | .exit id, ρ, st, a, w, K, r, Q, hr, h, hQ => by
  obtain ⟨ρ1, hl, hr⟩ := a0W hr H (2000000 + id)
  exact wp_exit (hQ (.exit id) _ ρ1 a w hl hr h)
 | .ret, ρ, st, a, w, K, r, Q, hr, h, hQ => by
  obtain ⟨ρ1, hl, hr⟩ := a0W hr H 3000000
  exact wp_ret (hQ .ret _ ρ1 a w hl hr h)
 | .rangeFunc _ _ _ _, ρ, st, a, w, K, r, Q, hr, h, hQ => by simp [y5] at h
 | .scope x, ρ, st, a, w, K, r, Q, hr, h, hQ => by
  refine Go.wp_scope_straight (k9 hE hmix H n x hr h ?_)
  intro e st' ρ' a' w' hl hr' hk
  have := hQ e st' ρ' a' w' hl hr' hk
  cases e <;> exact this
 | .label _, ρ, st, a, w, K, r, Q, hr, h, hQ => Go.wp_label (hQ .normal st ρ a w (fun _ => .refl ρ) hr h)
 | .goto _, ρ, st, a, w, K, r, Q, hr, h, hQ => by simp [y5] at h
 | .refuse _, ρ, st, a, w, K, r, Q, hr, h, hQ => by simp [y5] at h
end
end Go.Ax
namespace Go.Ax
open Go.RowKit
variable {P : Program}
section
variable {ρ : Env} {B : Nat} {w0 : Base} {st st' : St} {a : Act} {w : World} {E : AE}
structure Inv (ρ : Env) (mem : List Slot) (j : Nat) : Prop where
 at' : ∀ (o : Nat) (b : Ob) (l : Loc) (x : Nat × Nat), mem[o]? = some (Slot.live b) → ρ o = some l → l.a = some x → (b.own = .ro ∧ ρ.ok x.1) ∨ ∃ i m, b.own = .mt i ∧ i < j ∧ ρ.mt[i]? = some (some m) ∧ m.blk = x.1
 own : ∀ (o : Nat) (b : Ob), mem[o]? = some (Slot.live b) → b.own ≠ .own
def Distinct (M : List (Option Reg)) : Prop := ∀ (i j : Nat) (m m' : Reg), i ≠ j → M[i]? = some (some m) → M[j]? = some (some m') → m.blk ≠ m'.blk
theorem MRel.addIn {mem : List Slot} {j : Nat} (hm : MRel ρ B w0 mem w) (hd : Distinct ρ.mt) (hi : Inv ρ mem j) {b : Ob} {l : Loc}
  (hb : (b.own = .ro ∧ ∀ x, l.a = some x → ρ.ok x.1) ∨ (b.own = .mt j ∧ ρ.mt[j]? = some (l.a.map fun x => ⟨x.1, x.2, l.size * l.es⟩))) (ho : ObRel (ρ.set mem.length l) w mem.length b) :
  ρ.le (ρ.set mem.length l) ∧ MRel (ρ.set mem.length l) B w0 (mem ++ [.live b]) w ∧ ∀ j', (b.own = .ro ∧ j' = j) ∨ j' = j + 1 → Inv (ρ.set mem.length l) (mem ++ [.live b]) j' := by
 have hn : ρ mem.length = none := hm.free _ (.inl (by simp))
 have hle : ρ.le (ρ.set mem.length l) := Env.le_set hn l
 have look : ∀ i, i ≠ mem.length → (ρ.set mem.length l) i = ρ i := fun i h => if_neg h
 have lookn : (ρ.set mem.length l) mem.length = some l := if_pos rfl
 have get : ∀ (i : Nat) (c : Ob), (mem ++ [Slot.live b])[i]? = some (Slot.live c) → (i = mem.length ∧ c = b) ∨ (i ≠ mem.length ∧ mem[i]? = some (Slot.live c)) := by
  intro i c h
  rw [List.getElem?_append] at h
  split at h
  ·rename_i hlt; exact .inr ⟨by omega, h⟩
  ·rename_i hge
   have : i - mem.length = 0 := by
    have := (List.getElem?_eq_some_iff.1 h).1
    simp at this; omega
   rw [this] at h
   cases h
   exact .inl ⟨by omega, rfl⟩
 have hnew : ∀ x, l.a = some x → (b.own = .ro ∧ ρ.ok x.1) ∨ (b.own = .mt j ∧ ∃ m, ρ.mt[j]? = some (some m) ∧ m.blk = x.1) := by
  intro x hx
  rcases hb with ⟨h1, h2⟩ | ⟨h1, h2⟩
  ·exact .inl ⟨h1, h2 x hx⟩
  ·rw [hx] at h2; exact .inr ⟨h1, _, h2, rfl⟩
 have hself : b.own ≠ .own := by
  rcases hb with ⟨h1, _⟩ | ⟨h1, _⟩ <;> rw [h1] <;> exact fun h => by cases h
 refine ⟨hle, ⟨?_, ?_, ?_, ?_, ?_, hm.below, hm.size, hm.frz, hm.env.le hle rfl, ⟨hle.2.2.2.trans hm.emt.1, hle.2.2.1.2.trans hm.emt.2⟩, hm.its.mono (fun i s p h => ?_) hle.1 fun _ _ _ _ _ _ _ _ h => ⟨h, id⟩⟩, ?_⟩
 rotate_left 5
 ·rw [List.getElem?_append] at h
  split at h
  ·exact h
  ·rename_i hge
   have := (List.getElem?_eq_some_iff.1 h).1
   have h0 : i - mem.length = 0 := by simp at this; omega
   rw [h0] at h
   cases h
 rotate_left
 ·intro i h
  have hi : i ≠ mem.length := by
   intro e
   subst e
   rw [List.getElem?_append_right (Nat.le_refl _)] at h
   simp at h
  rw [look i hi]
  refine hm.free i ?_
  rw [List.getElem?_append] at h
  split at h
  ·exact h
  ·rename_i hge; exact .inl (by simpa using hge)
 ·intro i c h
  rcases get i c h with ⟨rfl, rfl⟩ | ⟨_, h⟩
  ·exact ho
  ·exact (hm.ob i c h).env hle
 ·have two : ∀ {x y : Nat × Nat} {c : Ob} {i : Nat} {k : Loc}, l.a = some x → mem[i]? = some (Slot.live c) → ρ i = some k → k.a = some y → (b.own ≠ .ro ∨ c.own ≠ .ro) → x.1 ≠ y.1 := by
   intro x y c i k hx hc hk hy hor e
   rcases hnew x hx with ⟨n1, n2⟩ | ⟨n1, m, n2, n3⟩
   ·rcases hi.at' i c k y hc hk hy with ⟨q1, q2⟩ | ⟨i', m', q1, _, q3, q4⟩
    ·rcases hor with h | h
     ·exact h n1
     ·exact h q1
    ·exact n2 (by rw [e, ← q4]; exact hm.env.okM m' (List.mem_of_getElem? q3))
   ·rcases hi.at' i c k y hc hk hy with ⟨q1, q2⟩ | ⟨i', m', q1, q2, q3, q4⟩
    ·exact q2 (by rw [← e, ← n3]; exact hm.env.okM m (List.mem_of_getElem? n2))
    ·exact hd j i' m m' (by omega) n2 q3 (by rw [n3, q4, e])
  intro i c i' c' k k' x y h h' hc hne hk hk' hx hy
  rcases get i c h with ⟨e1, e1'⟩ | ⟨e1, h1⟩
  ·rw [e1, lookn] at hk; cases hk
   rcases get i' c' h' with ⟨e2, _⟩ | ⟨e2, h2⟩
   ·exact absurd (e1.trans e2.symm) hne
   ·rw [look _ e2] at hk'
    exact two hx h2 hk' hy (.inl (by rw [← e1']; exact hc))
  ·rw [look _ e1] at hk
   rcases get i' c' h' with ⟨e2, _⟩ | ⟨e2, h2⟩
   ·rw [e2, lookn] at hk'; cases hk'
    exact fun e => two hy h1 hk hx (.inr hc) e.symm
   ·rw [look _ e2] at hk'
    exact hm.sep i c i' c' k k' x y h1 h2 hc hne hk hk' hx hy
 ·intro i c k x h hc
  rcases get i c h with ⟨_, rfl⟩ | ⟨_, h⟩
  ·exact absurd hc hself
  ·exact absurd hc (hi.own i c h)
 ·intro i c q k h hc hk
  rcases get i c h with ⟨rfl, rfl⟩ | ⟨e1, h⟩
  ·rw [lookn] at hk; cases hk
   rcases hb with ⟨h1, _⟩ | ⟨h1, h2⟩
   ·rw [h1] at hc; cases hc
   ·rw [h1] at hc; cases hc; exact h2
  ·rw [look _ e1] at hk
   exact hm.mtM i c q k h hc hk
 ·intro j' hj
  refine ⟨fun i c k x h hk hx => ?_, fun i c h => ?_⟩
  ·rcases get i c h with ⟨rfl, rfl⟩ | ⟨e1, h⟩
   ·rw [lookn] at hk; cases hk
    rcases hnew x hx with h1 | ⟨h1, m, h2, h3⟩
    ·exact .inl h1
    ·refine .inr ⟨j, m, h1, ?_, h2, h3⟩
     rcases hj with ⟨h4, _⟩ | h4
     ·rw [h1] at h4; cases h4
     ·omega
   ·rw [look _ e1] at hk
    rcases hi.at' i c k x h hk hx with h1 | ⟨i', m, h1, h2, h3⟩
    ·exact .inl h1
    ·exact .inr ⟨i', m, h1, by omega, h3⟩
  ·rcases get i c h with ⟨_, rfl⟩ | ⟨_, h⟩
   ·exact hself
   ·exact hi.own i c h
noncomputable def c0Q (ok : Nat → Prop) (w : World) (b : Nat) : Option Obj := @ite _ (ok b) (Classical.propDecidable _) w.heap[b]? none
theorem b5F {ok : Nat → Prop} {b : Nat} (h : ok b) : c0Q ok w b = w.heap[b]? := by unfold c0Q; rw [if_pos h]
theorem b7z {ok : Nat → Prop} {b : Nat} (h : ¬ ok b) : c0Q ok w b = none := by unfold c0Q; rw [if_neg h]
theorem b7A {ok : Nat → Prop} {b : Nat} {c : Obj} (h : c0Q ok w b = some c) : w.heap[b]? = some c := by
 by_cases g : ok b
 ·rwa [b5F g] at h
 ·rw [b7z g] at h; cases h
def Fz (ρ : Env) (V : View) : Prop := ∀ b c, V.ok b → V.w.heap[b]? = some c → ρ.fz b = some c
theorem Fz.le {ρ ρ' : Env} {V : View} (h : Fz ρ V) (hl : ρ.le ρ') : Fz ρ' V := fun b c h1 h2 => hl.2.1 b c (h b c h1 h2)
theorem Env.le.ok {ρ' : Env} (h : ρ.le ρ') {b : Nat} (hk : ρ.ok b) : ρ'.ok b := by
 unfold Env.ok at *
 cases e : ρ.fz b with
 | none => exact absurd e hk
 | some c => rw [h.2.1 b c e]; simp
theorem Fz.okk {V : View} (hz : Fz ρ V) {b : Nat} {c : Obj} (h1 : V.ok b) (h2 : V.w.heap[b]? = some c) : ρ.ok b := by
 unfold Env.ok
 rw [hz b c h1 h2]
 simp
theorem a8k {V : View} (hz : Fz ρ V) (hal : ∀ b, V.ok b → ρ.al b) {ad : Option Addr} {cs : List Value} (h : a8a V ad cs) : b0J ρ ad cs := by
 intro hp
 obtain ⟨blk, cells, t', fr, pre, post, e1, e2, e3, e4⟩ := h hp
 exact ⟨blk, cells, t', fr, pre, post, e1, .inr (hal blk e2), hz _ _ e2 e3, e4⟩
def c1I (ρ : Env) (V : View) : Prop := ∀ b, V.fz b → V.ok b ∧ ρ.al b
theorem b3K {V : View} (hz : Fz ρ V) (hf : c1I ρ V) {ad : Option Addr} {cs : List Value} (h : a8a V.fr ad cs) : b0J ρ ad cs := by
 intro hp
 obtain ⟨blk, cells, t', fr, pre, post, e1, e2, e3, e4⟩ := h hp
 exact ⟨blk, cells, t', fr, pre, post, e1, .inr (hf blk e2).2, hz _ _ (hf blk e2).1 e3, e4⟩
theorem a8g {V : View} (hz : Fz ρ V) (hf : c1I ρ V) : ∀ {L : List FK} {x : Cs L} {cs : List Value}, (L.any FK.isSl = true → ∀ b, V.ok b → ρ.al b) → b5z V L x cs → i2 ρ (a4j L x) cs ∧ cs.length = a4h L
 | [], _, cs, _, h => by have h : cs = [] := h; subst h; exact ⟨rfl, rfl⟩
 | K :: r, x, cs, hal, h => by
  obtain ⟨c1, c2, rfl, h1, h2⟩ := h
  obtain ⟨q1, q2⟩ := a8g hz hf (fun e => hal (by rw [List.any_cons, e, Bool.or_true])) h2
  suffices hs : i2 ρ (K.segs x.1) c1 ∧ c1.length = K.size from ⟨l8 hs.1 q1, by rw [List.length_append, hs.2, q2]; rfl⟩
  cases K with
  | int k =>
   have h1 : c1 = [.int k x.1] := h1
   subst h1
   exact ⟨⟨_, [], rfl, rfl, rfl⟩, rfl⟩
  | bool =>
   have h1 : c1 = [.bool x.1] := h1
   subst h1
   refine ⟨⟨_, [], rfl, ?_, rfl⟩, rfl⟩
   show Value.bool x.1 = .bool (@decide (x.1 = true) _)
   cases x.1 <;> rfl
  | xs k n =>
   obtain ⟨h1, rfl⟩ := h1
   exact ⟨⟨h1, [], by simp, rfl⟩, by simp [FK.size, h1]⟩
  | sl k =>
   obtain ⟨v, rfl, a, c, e1, e2, e3⟩ := h1
   exact ⟨⟨v, [], rfl, ⟨a, c, _, e1, e2, rfl, a8k hz (hal rfl) e3⟩, rfl⟩, rfl⟩
  | fs k =>
   obtain ⟨v, rfl, a, c, e1, e2, e3⟩ := h1
   exact ⟨⟨v, [], rfl, ⟨a, c, _, e1, e2, rfl, b3K hz hf e3⟩, rfl⟩, rfl⟩
theorem b91 {V : View} (hVw : V.w = w) {k : CK} {x : List Int} {v : Value} {mem : List Slot} {j : Nat} {ρ : Env} (hm : MRel ρ B w0 mem w) (hz : Fz ρ V) (hd : Distinct ρ.mt) (hi : Inv ρ mem j) (hv : b0I k V x v) :
  ∃ ρ', ρ.le ρ' ∧ MRel ρ' B w0 (mem ++ [Slot.live { segs := [.xs k x.length x], own := .ro }]) w ∧ Inv ρ' (mem ++ [Slot.live { segs := [.xs k x.length x], own := .ro }]) j ∧ A1.rel ρ' (.vec mem.length x.length 1) v := by
  obtain ⟨ad, c, rfl, hc, hrow⟩ := hv
  cases x with
  | nil =>
   obtain ⟨h1, h2, h3⟩ := hm.addIn hd hi (b := { segs := [.xs k 0 []], own := .ro }) (l := { a := none, adr := ad, size := 0, cap := c, es := 1 }) (.inl ⟨rfl, fun x hx => by cases hx⟩)
    ⟨_, [], if_pos rfl, ⟨rfl, [], rfl, rfl⟩, rfl, Nat.zero_le _, rfl, fun h => by cases h⟩
   exact ⟨_, h1, h2, h3 j (.inl ⟨rfl, rfl⟩), _, if_pos rfl, rfl, rfl, rfl, Nat.zero_le _, fun _ => rfl, fun h => absurd h (Nat.lt_irrefl 0)⟩
  | cons z zs =>
   obtain ⟨blk, cs, t, fr, pre, post, rfl, r0, r1, r2⟩ := hrow (by simp)
   rw [hVw] at r1
   obtain ⟨h1, h2, h3⟩ := hm.addIn hd hi (b := { segs := [.xs k (z :: zs).length (z :: zs)], own := .ro }) (l := { a := some (blk, pre.length), adr := some ⟨blk, pre.length, none⟩, size := (z :: zs).length, cap := c, es := 1 })
    (.inl ⟨rfl, fun x hx => by cases hx; exact hz.okk r0 (by rw [hVw]; exact r1)⟩)
    ⟨_, (z :: zs).map k.val, if_pos rfl, ⟨rfl, [], by simp, rfl⟩, by simp, hc, cs, t, fr, pre, post, r1, r2, rfl, (fun h => by cases h), fun h => absurd rfl h⟩
   exact ⟨_, h1, h2, h3 j (.inl ⟨rfl, rfl⟩), _, if_pos rfl, rfl, rfl, rfl, hc, (fun h => by cases h), fun _ => rfl⟩
theorem Kd.inn_spec {V : View} (hVw : V.w = w) {K : Kd} {x : K.T} {v : Value} {mem : List Slot} {j : Nat} (hm : MRel ρ B w0 mem w) (hz : Fz ρ V) (hf : c1I ρ V) (hal : K.okF = true → ∀ b, V.ok b → ρ.al b) (hd : Distinct ρ.mt) (hi : Inv ρ mem j) (hv : K.rd V x v)
  (hreg : ∀ m, K.reg v = [m] → ρ.mt[j]? = some m) :
  ∃ ρ', ρ.le ρ' ∧ MRel ρ' B w0 (mem ++ (K.inn mem.length j x).2.map .live) w ∧ Inv ρ' (mem ++ (K.inn mem.length j x).2.map .live) (K.ioN j) ∧ AV.rel ρ' (K.inn mem.length j x).1 v := by
 have plain : ∀ {av : AV}, AV.rel ρ av v → ∃ ρ', ρ.le ρ' ∧ MRel ρ' B w0 (mem ++ ([] : List Ob).map .live) w ∧ Inv ρ' (mem ++ ([] : List Ob).map .live) j ∧ AV.rel ρ' av v := by
  intro av h
  simp only [List.map_nil, List.append_nil]
  exact ⟨ρ, .refl ρ, hm, hi, h⟩
 cases K
 case int k => exact plain hv
 case bool => exact plain (by have := hv; simp only [Kd.inn, Kd.rd] at this ⊢; subst this; simp only [AV.rel, A1.rel]; congr 1; cases x <;> rfl)
 case str => exact plain hv
 case xs k n => exact plain ⟨_, hv.2, hv.1, [], by simp, rfl⟩
 case sls k =>
  obtain ⟨ad, c, vs, rfl, h2, h3, h4, h5⟩ := hv
  refine plain ⟨ad, c, vs, rfl, h2, ⟨h3, fun i zs u e1 e2 => ?_⟩, a8k hz (hal rfl) h4⟩
  obtain ⟨a', c', g1, g2, g3⟩ := h5 i zs u e1 e2
  exact ⟨a', c', g1, g2, a8k hz (hal rfl) g3⟩
 case fsl k =>
  obtain ⟨ad, c, rfl, h2, h3⟩ := hv
  exact plain ⟨ad, c, _, rfl, h2, rfl, a8k hz (hal rfl) h3⟩
 case asl k =>
  obtain ⟨ad, c, rfl, h2, h3⟩ := hv
  exact plain ⟨ad, c, _, rfl, h2, rfl, b3K hz hf h3⟩
 case fnc f => exact plain hv
 case cat l =>
  obtain ⟨cs, rfl, h2⟩ := hv
  exact plain ⟨cs, rfl, (a8g hz hf hal h2).1⟩
 case xv k => exact hv.elim
 case op l => exact hv.elim
 case io l =>
  obtain ⟨blk, mid, cs, t, fr, pre, post, rfl, hml, hc, r1, r2, r3⟩ := hv
  rw [hVw] at r1
  obtain ⟨q1, q2⟩ := a8g hz hf hal hc
  simp only [Kd.inn, List.map_cons, List.map_nil]
  have hle : ρ.le (ρ.set mem.length { a := some (blk, pre.length), adr := some ⟨blk, pre.length, none⟩, size := 1, cap := 1, es := a4h l }) := Env.le_set (hm.free _ (.inl (by simp))) _
  obtain ⟨h1, h2, h3⟩ := hm.addIn hd hi (b := { segs := a4j l x, own := .mt j }) (l := { a := some (blk, pre.length), adr := some ⟨blk, pre.length, none⟩, size := 1, cap := 1, es := a4h l })
   (.inr ⟨rfl, by rw [hreg _ rfl]; simp⟩)
   ⟨_, mid, if_pos rfl, B6 hle q1, by simp [hml], Nat.le_refl _, cs, t, fr, pre, post, r1, r2, rfl, (fun h => by cases h), fun _ => r3⟩
  exact ⟨_, h1, h2, h3 _ (.inr rfl), _, _, _, if_pos rfl, rfl, rfl⟩
 case ios k =>
  obtain ⟨ad, c, rfl, hc, hrow⟩ := hv
  simp only [Kd.inn, List.map_cons, List.map_nil]
  cases x with
  | nil =>
   have hr : ρ.mt[j]? = some none := by
    refine hreg none ?_
    cases ad <;> simp [Kd.reg]
   obtain ⟨h1, h2, h3⟩ := hm.addIn hd hi (b := { segs := [.xs k 0 []], own := .mt j }) (l := { a := none, adr := ad, size := 0, cap := c, es := 1 }) (.inr ⟨rfl, hr⟩)
    ⟨_, [], if_pos rfl, ⟨rfl, [], rfl, rfl⟩, rfl, Nat.zero_le _, rfl, fun h => by cases h⟩
   exact ⟨_, h1, h2, h3 _ (.inr rfl), _, if_pos rfl, rfl, rfl, rfl, Nat.zero_le _, fun _ => rfl, fun h => absurd h (Nat.lt_irrefl 0)⟩
  | cons z zs =>
   obtain ⟨blk, cs, t, fr, pre, post, rfl, r1, r2, r3⟩ := hrow (by simp)
   rw [hVw] at r1
   have hr : ρ.mt[j]? = some (some ⟨blk, pre.length, (z :: zs).length⟩) := hreg _ (by simp [Kd.reg])
   obtain ⟨h1, h2, h3⟩ := hm.addIn hd hi (b := { segs := [.xs k (z :: zs).length (z :: zs)], own := .mt j }) (l := { a := some (blk, pre.length), adr := some ⟨blk, pre.length, none⟩, size := (z :: zs).length, cap := c, es := 1 })
    (.inr ⟨rfl, by rw [hr]; simp⟩)
    ⟨_, (z :: zs).map k.val, if_pos rfl, ⟨rfl, [], by simp, rfl⟩, by simp, hc, cs, t, fr, pre, post, r1, r2, rfl, (fun h => by cases h), fun _ => r3⟩
   exact ⟨_, h1, h2, h3 _ (.inr rfl), _, if_pos rfl, rfl, rfl, rfl, hc, (fun h => by cases h), fun _ => rfl⟩
 case fcl f k =>
  obtain ⟨blk, cs, t, fr, pre, post, rfl, hok, r1, r2⟩ := hv
  have hok := hz.okk hok r1
  rw [hVw] at r1
  simp only [Kd.inn, List.map_cons, List.map_nil]
  obtain ⟨h1, h2, h3⟩ := hm.addIn hd hi (b := { segs := [.xs (.int k) 1 [x]], own := .ro }) (l := { a := some (blk, pre.length), adr := some ⟨blk, pre.length, none⟩, size := 1, cap := 1, es := 1 }) (.inl ⟨rfl, fun x hx => by cases hx; exact hok⟩)
   ⟨_, [.int k x], if_pos rfl, ⟨rfl, [], rfl, rfl⟩, rfl, Nat.le_refl _, cs, t, fr, pre, post, r1, r2, rfl, (fun h => by cases h), fun h => absurd rfl h⟩
  exact ⟨_, h1, h2, h3 j (.inl ⟨rfl, rfl⟩), _, _, _, if_pos rfl, rfl, rfl⟩
 case rp K =>
  obtain ⟨blk, mid, cs, t, fr, pre, post, rfl, hok, hc, r1, r2⟩ := hv
  have hok := hz.okk hok r1
  rw [hVw] at r1
  cases K with
  | int k =>
   have hc' : mid = [.int k x] := hc
   subst hc'
   simp only [Kd.inn, List.map_cons, List.map_nil]
   obtain ⟨h1, h2, h3⟩ := hm.addIn hd hi (b := { segs := [.xs (.int k) 1 [x]], own := .ro }) (l := { a := some (blk, pre.length), adr := some ⟨blk, pre.length, none⟩, size := 1, cap := 1, es := 1 }) (.inl ⟨rfl, fun x hx => by cases hx; exact hok⟩)
    ⟨_, [.int k x], if_pos rfl, ⟨rfl, [], rfl, rfl⟩, rfl, Nat.le_refl _, cs, t, fr, pre, post, r1, r2, rfl, (fun h => by cases h), fun h => absurd rfl h⟩
   exact ⟨_, h1, h2, h3 j (.inl ⟨rfl, rfl⟩), _, _, _, if_pos rfl, rfl, rfl⟩
  | xs k n =>
   obtain ⟨hl, rfl⟩ := hc
   simp only [Kd.inn, List.map_cons, List.map_nil]
   obtain ⟨h1, h2, h3⟩ := hm.addIn hd hi (b := { segs := [.xs k n x], own := .ro }) (l := { a := some (blk, pre.length), adr := some ⟨blk, pre.length, none⟩, size := 1, cap := 1, es := n }) (.inl ⟨rfl, fun x hx => by cases hx; exact hok⟩)
    ⟨_, x.map k.val, if_pos rfl, ⟨hl, [], by simp, rfl⟩, by simp [hl], Nat.le_refl _, cs, t, fr, pre, post, r1, r2, rfl, (fun h => by cases h), fun h => absurd rfl h⟩
   exact ⟨_, h1, h2, h3 j (.inl ⟨rfl, rfl⟩), _, _, _, if_pos rfl, rfl, rfl⟩
  | sl k =>
   obtain ⟨v, rfl, hv⟩ := hc
   obtain ⟨ρ1, g1, g2, g3, g4⟩ := b91 hVw hm hz hd hi hv
   have hlen : (mem ++ [Slot.live { segs := [.xs k x.length x], own := .ro }]).length = mem.length + 1 := by simp
   obtain ⟨h1, h2, h3⟩ := g2.addIn (by rw [g1.2.2.2]; exact hd) g3 (b := { segs := [.one (.vec mem.length x.length 1)], own := .ro }) (l := { a := some (blk, pre.length), adr := some ⟨blk, pre.length, none⟩, size := 1, cap := 1, es := 1 })
    (.inl ⟨rfl, fun x hx => by cases hx; exact g1.ok hok⟩)
    ⟨_, [v], if_pos rfl, ⟨v, [], rfl, A1.rel_le (Env.le_set (g2.free _ (.inl (by simp))) _) g4, rfl⟩, rfl, Nat.le_refl _, cs, t, fr, pre, post, r1, r2, rfl, (fun h => by cases h), fun h => absurd rfl h⟩
   have h3 := h3 j (.inl ⟨rfl, rfl⟩)
   rw [hlen] at h1 h2 h3
   simp only [Kd.inn, List.map_cons, List.map_nil]
   refine ⟨_, g1.trans h1, ?_, ?_, _, _, _, if_pos rfl, rfl, rfl⟩
   ·simpa using h2
   ·show Inv _ _ j
    simpa using h3
  | ct L =>
   obtain ⟨hml, hc⟩ := hc
   obtain ⟨q1, q2⟩ := a8g hz hf hal hc
   simp only [Kd.inn, List.map_cons, List.map_nil]
   have hle : ρ.le (ρ.set mem.length { a := some (blk, pre.length), adr := some ⟨blk, pre.length, none⟩, size := 1, cap := 1, es := a4h L }) := Env.le_set (hm.free _ (.inl (by simp))) _
   obtain ⟨h1, h2, h3⟩ := hm.addIn hd hi (b := { segs := a4j L x, own := .ro }) (l := { a := some (blk, pre.length), adr := some ⟨blk, pre.length, none⟩, size := 1, cap := 1, es := a4h L })
    (.inl ⟨rfl, fun x hx => by cases hx; exact hok⟩)
    ⟨_, mid, if_pos rfl, B6 hle q1, by simp [hml], Nat.le_refl _, cs, t, fr, pre, post, r1, r2, rfl, (fun h => by cases h), fun h => absurd rfl h⟩
   exact ⟨_, h1, h2, h3 j (.inl ⟨rfl, rfl⟩), _, _, _, if_pos rfl, rfl, rfl⟩
 case sla k m =>
  obtain ⟨ad, c, n, rfl, hzl, hc, hm0, hrow⟩ := hv
  have hn : x.length / m = n := by
   rw [hzl]
   rcases hm0 with rfl | hm0
   ·simp
   ·exact Nat.mul_div_cancel n hm0
  simp only [Kd.inn, List.map_cons, List.map_nil]
  cases x with
  | nil =>
   by_cases hn0 : n = 0
   ·subst hn0
    obtain ⟨h1, h2, h3⟩ := hm.addIn hd hi (b := { segs := [.xs k 0 []], own := .ro }) (l := { a := none, adr := ad, size := 0, cap := c, es := m }) (.inl ⟨rfl, fun x hx => by cases hx⟩)
     ⟨_, [], if_pos rfl, ⟨rfl, [], rfl, rfl⟩, by simp, Nat.zero_le _, rfl, fun h => by cases h⟩
    exact ⟨_, h1, h2, h3 j (.inl ⟨rfl, rfl⟩), _, if_pos rfl, by simp, rfl, rfl, Nat.zero_le _, fun _ => rfl, fun h => absurd h (Nat.lt_irrefl 0)⟩
   ·exfalso
    rcases hm0 with h0 | h0
    ·exact hn0 h0
    ·have := Nat.mul_pos (Nat.pos_of_ne_zero hn0) h0
     rw [← hzl] at this
     exact absurd this (Nat.lt_irrefl 0)
  | cons z zs =>
   obtain ⟨blk, cs, t, fr, pre, post, rfl, r0, r1, r2⟩ := hrow (by simp)
   rw [hVw] at r1
   obtain ⟨h1, h2, h3⟩ := hm.addIn hd hi (b := { segs := [.xs k (z :: zs).length (z :: zs)], own := .ro }) (l := { a := some (blk, pre.length), adr := some ⟨blk, pre.length, none⟩, size := n, cap := c, es := m })
    (.inl ⟨rfl, fun x hx => by cases hx; exact hz.okk r0 (by rw [hVw]; exact r1)⟩)
    ⟨_, (z :: zs).map k.val, if_pos rfl, ⟨rfl, [], by simp, rfl⟩, by simpa using hzl, hc, cs, t, fr, pre, post, r1, r2, rfl, (fun h => by cases h), fun h => absurd rfl h⟩
   exact ⟨_, h1, h2, h3 j (.inl ⟨rfl, rfl⟩), _, if_pos rfl, hn.symm, rfl, rfl, hc, (fun h => by cases h), fun _ => rfl⟩
 case sl k => exact b91 hVw hm hz hd hi hv
theorem b09 {K : Kd} {v : Value} : (K.isIo = false ∧ K.reg v = []) ∨ (K.isIo = true ∧ ∃ m, K.reg v = [m]) := by
 cases K
 case io l =>
  refine .inr ⟨rfl, ?_⟩
  cases v <;> try exact ⟨none, rfl⟩
  rename_i a
  cases a with
  | none => exact ⟨none, rfl⟩
  | some a => exact ⟨_, rfl⟩
 case ios k =>
  refine .inr ⟨rfl, ?_⟩
  cases v <;> try exact ⟨none, rfl⟩
  rename_i a n c
  cases a with
  | none => exact ⟨none, rfl⟩
  | some a =>
   simp only [Kd.reg]
   split
   ·exact ⟨none, rfl⟩
   ·exact ⟨_, rfl⟩
 all_goals exact .inl ⟨rfl, rfl⟩
theorem a8V {V : View} (hVw : V.w = w) : ∀ {ks : List Kd} {x : Ds ks} {vs : List Value} {ρ : Env} {mem : List Slot} {j : Nat}, MRel ρ B w0 mem w → Fz ρ V → c1I ρ V → (ks.any Kd.okF = true → ∀ b, V.ok b → ρ.al b) → Distinct ρ.mt → Inv ρ mem j → a79 V ks x vs → (∀ i m, (a5b ks vs)[i]? = some m → ρ.mt[j + i]? = some m) →
  ∃ ρ', ρ.le ρ' ∧ MRel ρ' B w0 (mem ++ (a8U ks x mem.length j).2) w ∧ (a8U ks x mem.length j).1.length = vs.length ∧ ∀ (i : Nat) (v : TV) (u : Value), (a8U ks x mem.length j).1[i]? = some v → vs[i]? = some u → TV.rel ρ' v u
 | [], x, vs, ρ, mem, j, hm, _, _, _, _, _, h, _ => by
  have h' : vs = [] := h
  subst h'
  simp only [a8U, List.append_nil]
  exact ⟨ρ, .refl ρ, hm, rfl, fun i v u h => by simp at h⟩
 | k :: ks, x, vs, ρ, mem, j, hm, hz, hf, hal, hd, hi, h, hreg => by
  obtain ⟨v, vs', rfl, h1, h2⟩ := h
  simp only [a5b] at hreg
  obtain ⟨ρ1, g1, g2, g3, g4⟩ := Kd.inn_spec hVw hm hz hf (fun e => hal (by rw [List.any_cons, e, Bool.true_or])) hd hi h1 (fun m e => by
   have := hreg 0 m (by rw [e]; rfl)
   simpa using this)
  have hreg2 : ∀ i m, (a5b ks vs')[i]? = some m → ρ1.mt[k.ioN j + i]? = some m := by
   intro i m e
   rw [g1.2.2.2]
   rcases b09 (K := k) (v := v) with ⟨e1, e2⟩ | ⟨e1, m0, e2⟩
   ·have := hreg i m (by rw [e2]; exact e)
    simpa [Kd.ioN, e1] using this
   ·have := hreg (i + 1) m (by rw [e2]; exact e)
    simp only [Kd.ioN, e1]
    rw [show j + 1 + i = j + (i + 1) by omega]
    exact this
  obtain ⟨ρ2, q1, q2, q3, q4⟩ := a8V hVw (ks := ks) (x := x.2) g2 (hz.le g1) (fun b hb => by rw [g1.2.2.1.2]; exact hf b hb) (fun e b hb => by rw [g1.2.2.1.2]; exact hal (by rw [List.any_cons, e, Bool.or_true]) b hb) (by rw [g1.2.2.2]; exact hd) g3 h2 hreg2
  have hl : (mem ++ (k.inn mem.length j x.1).2.map Slot.live).length = mem.length + (k.inn mem.length j x.1).2.length := by simp
  rw [hl] at q2 q3 q4
  simp only [a8U]
  refine ⟨ρ2, g1.trans q1, by rw [List.append_assoc] at q2; exact q2, by simp [q3], fun i v u e1 e2 => ?_⟩
  cases i with
  | zero => cases e1; cases e2; exact AV.rel_le q1 g4
  | succ i => exact q4 i v u (by simpa using e1) (by simpa using e2)
theorem Apart.distinct {M : List (Option Reg)} {ok : Nat → Prop} (h : Apart M ok) : Distinct M := by
 have key := List.pairwise_iff_getElem.1 h.io
 have lt : ∀ (i j : Nat) (m m' : Reg), i < j → M[i]? = some (some m) → M[j]? = some (some m') → m.blk ≠ m'.blk := by
  intro i j m m' hij h1 h2
  obtain ⟨p1, p2⟩ := List.getElem?_eq_some_iff.1 h1
  obtain ⟨q1, q2⟩ := List.getElem?_eq_some_iff.1 h2
  exact key i j p1 q1 hij m m' p2 q2
 intro i j m m' hne h1 h2
 rcases Nat.lt_or_gt_of_ne hne with h | h
 ·exact lt i j m m' h h1 h2
 ·exact fun e => lt j i m' m h h2 h1 e.symm
theorem Distinct.mtD {M : List (Option Reg)} (h : Distinct M) : ∀ m m', some m ∈ M → some m' ∈ M → m.blk = m'.blk → m = m' := by
 intro m m' h1 h2 e
 obtain ⟨i, hi⟩ := List.mem_iff_getElem?.1 h1
 obtain ⟨j, hj⟩ := List.mem_iff_getElem?.1 h2
 by_cases hij : i = j
 ·subst hij
  rw [hi] at hj
  cases hj
  rfl
 ·exact absurd e (h i j m m' hij hi hj)
theorem c1z {ok fz : Nat → Prop} {K : Kd} {x : K.T} {v : Value} (h : K.rd ⟨w, ok, fz⟩ x v) : ∀ m, some m ∈ K.reg v → m.blk < w.heap.size := by
 intro m hm
 cases K with
 | io l =>
  obtain ⟨blk, mid, cs, t, fr, pre, post, rfl, _, _, h4, _⟩ := h
  simp only [Kd.reg, List.mem_singleton, Option.some.injEq] at hm
  subst hm
  exact (Array.getElem?_eq_some_iff.1 h4).1
 | ios k =>
  obtain ⟨a, c, rfl, _, h3⟩ := h
  cases a with
  | none => simp [Kd.reg] at hm
  | some a =>
   simp only [Kd.reg] at hm
   split at hm
   ·simp at hm
   ·rename_i hne
    simp only [List.mem_singleton, Option.some.injEq] at hm
    subst hm
    obtain ⟨blk, cs, t, fr, pre, post, e1, e2, _⟩ := h3 (by omega)
    cases e1
    exact (Array.getElem?_eq_some_iff.1 e2).1
 | _ => simp [Kd.reg] at hm
theorem b8c {ok fz : Nat → Prop} : ∀ {ks : List Kd} {x : Ds ks} {vs : List Value}, a79 ⟨w, ok, fz⟩ ks x vs → ∀ m, some m ∈ a5b ks vs → m.blk < w.heap.size
 | [], _, vs, h => by have h : vs = [] := h; subst h; intro m hm; simp [a5b] at hm
 | k :: ks, x, vs, h => by
  obtain ⟨v, vs', rfl, h1, h2⟩ := h
  intro m hm
  simp only [a5b] at hm
  rcases List.mem_append.1 hm with hm | hm
  ·exact c1z h1 m hm
  ·exact b8c h2 m hm
theorem b8q {fn : Func} {ks : List Kd} {x : Ds ks} {vs : List Value} {ok fz : Nat → Prop} (al : Nat → Prop) (hfz : ∀ b, fz b → ok b) (hfa : ∀ b, fz b → al b) (hal : ks.any Kd.okF = true → ∀ b, ok b → al b) (h : a79 ⟨w, ok, fz⟩ ks x vs) (hap : Apart (a5b ks vs) ok) :
  ∃ ρ, ρ.mt = a5b ks vs ∧ Rel ρ w.heap.size ⟨w, a5b ks vs, al⟩ (a9U fn ks x) { tmps := vs.toArray ++ Array.replicate (fn.ntmps - vs.toArray.size) undef, defers := [] } w := by
 obtain ⟨ok', hok', hrd'⟩ : ∃ ok' : Nat → Prop, (∀ b, ok' b ↔ ok b ∧ b < w.heap.size) ∧ True := ⟨fun b => ok b ∧ b < w.heap.size, fun b => Iff.rfl, trivial⟩
 obtain ⟨fz', hfz', _⟩ : ∃ fz' : Nat → Prop, (∀ b, fz' b ↔ fz b ∧ b < w.heap.size) ∧ True := ⟨fun b => fz b ∧ b < w.heap.size, fun b => Iff.rfl, trivial⟩
 have hlt : ∀ {ad : Option Addr} {cs : List Value}, a8a ⟨w, ok, fz⟩ ad cs → a8a ⟨w, ok', fz'⟩ ad cs := by
  intro ad cs hr hp
  obtain ⟨blk, cells, t', fr, pre, post, e1, e2, e3, e4⟩ := hr hp
  exact ⟨blk, cells, t', fr, pre, post, e1, (hok' blk).2 ⟨e2, (Array.getElem?_eq_some_iff.1 e3).1⟩, e3, e4⟩
 have hsl : ∀ {k : CK} {zs : List Int} {v : Value}, b0I k ⟨w, ok, fz⟩ zs v → b0I k ⟨w, ok', fz'⟩ zs v := by
  rintro k zs v ⟨a, c, h1, h2, h3⟩
  exact ⟨a, c, h1, h2, hlt h3⟩
 have hsf : ∀ {k : CK} {zs : List Int} {v : Value}, b0I k (View.fr ⟨w, ok, fz⟩) zs v → b0I k (View.fr ⟨w, ok', fz'⟩) zs v := by
  rintro k zs v ⟨a, c, h1, h2, h3⟩
  refine ⟨a, c, h1, h2, fun hp => ?_⟩
  obtain ⟨blk, cells, t', fr, pre, post, e1, e2, e3, e4⟩ := h3 hp
  exact ⟨blk, cells, t', fr, pre, post, e1, (hfz' blk).2 ⟨e2, (Array.getElem?_eq_some_iff.1 e3).1⟩, e3, e4⟩
 have hcs : ∀ {L : List FK} {x : Cs L} {cs : List Value}, b5z ⟨w, ok, fz⟩ L x cs → b5z ⟨w, ok', fz'⟩ L x cs := by
  intro L
  induction L with
  | nil => intro x cs h; exact h
  | cons K r ih =>
   rintro x cs ⟨c1, c2, rfl, h1, h2⟩
   refine ⟨c1, c2, rfl, ?_, ih h2⟩
   cases K with
   | sl k => obtain ⟨v, e1, e2⟩ := h1; exact ⟨v, e1, hsl e2⟩
   | fs k => obtain ⟨v, e1, e2⟩ := h1; exact ⟨v, e1, hsf e2⟩
   | _ => exact h1
 have hrd : ∀ {ks : List Kd} {x : Ds ks} {vs : List Value}, a79 ⟨w, ok, fz⟩ ks x vs → a79 ⟨w, ok', fz'⟩ ks x vs := by
  intro ks
  induction ks with
  | nil => intro x vs h; exact h
  | cons k r ih =>
   rintro x vs ⟨v, vs', rfl, h1, h2⟩
   refine ⟨v, vs', rfl, ?_, ih h2⟩
   cases k
   case sl k => exact hsl h1
   case fsl k => exact hsl h1
   case asl k => exact hsf h1
   case sls k =>
    obtain ⟨a, c, us, h1, h2, h3, h4, h5⟩ := h1
    exact ⟨a, c, us, h1, h2, h3, hlt h4, fun i zs u e1 e2 => hsl (h5 i zs u e1 e2)⟩
   case rp K =>
    obtain ⟨blk, mid, cs, t, fr, pre, post, e1, e2, e3, e4, e5⟩ := h1
    refine ⟨blk, mid, cs, t, fr, pre, post, e1, (hok' blk).2 ⟨e2, (Array.getElem?_eq_some_iff.1 e4).1⟩, ?_, e4, e5⟩
    cases K with
    | sl k => obtain ⟨v, q1, q2⟩ := e3; exact ⟨v, q1, hsl q2⟩
    | ct L => exact ⟨e3.1, hcs e3.2⟩
    | _ => exact e3
   case fcl f k =>
    obtain ⟨blk, cs, t, fr, pre, post, e1, e2, e4, e5⟩ := h1
    exact ⟨blk, cs, t, fr, pre, post, e1, (hok' blk).2 ⟨e2, (Array.getElem?_eq_some_iff.1 e4).1⟩, e4, e5⟩
   case sla k m =>
    obtain ⟨a, c, n, e1, e2, e3, e4, e5⟩ := h1
    exact ⟨a, c, n, e1, e2, e3, e4, hlt e5⟩
   case cat l => obtain ⟨cs, e1, e2⟩ := h1; exact ⟨cs, e1, hcs e2⟩
   case io l =>
    obtain ⟨blk, mid, cs, t, fr, pre, post, e1, e2, e3, e4⟩ := h1
    exact ⟨blk, mid, cs, t, fr, pre, post, e1, e2, hcs e3, e4⟩
   all_goals exact h1
 have hm0 : MRel { loc := fun _ => none, fz := c0Q ok' w, lo := w.heap.size, al := al, mt := a5b ks vs } w.heap.size ⟨w, a5b ks vs, al⟩ [] w :=
  ⟨fun _ _ => rfl, fun o b h => by simp at h, fun o b o' b' l l' x y h => by simp at h, fun o b l x h => by simp at h, fun o b i l h => by simp at h, BelowM.refl _ _ _, Nat.le_refl _, fun _ _ h => b7A h,
   ⟨rfl, b8c h, fun m hm => b7z fun h => hap.rd m hm ((hok' _).1 h).1, hap.distinct.mtD⟩, ⟨rfl, rfl⟩, .none fun o s p h => by simp at h⟩
 obtain ⟨ρ, h1, h2, h3, h4⟩ := a8V (V := ⟨w, ok', fz'⟩) rfl (j := 0) hm0 (fun b c h1 h2 => (b5F h1).trans h2) (fun b hb => ⟨(hok' b).2 ⟨hfz b ((hfz' b).1 hb).1, ((hfz' b).1 hb).2⟩, hfa b ((hfz' b).1 hb).1⟩) (fun e b hb => hal e b ((hok' b).1 hb).1) hap.distinct ⟨fun o b l x h => by simp at h, fun o b h => by simp at h⟩ (hrd h) (fun i m e => by simpa using e)
 simp only [List.nil_append, List.length_nil] at h2 h3 h4
 refine ⟨ρ, h1.2.2.2, ?_, ?_, h2, rfl⟩
 ·simp only [a9U, List.length_append, List.length_replicate, h3, Array.size_append, List.size_toArray, Array.size_replicate]
 ·intro i v hv
  simp only [a9U] at hv
  rw [List.getElem?_append] at hv
  split at hv
  ·rename_i hlt
   rw [h3] at hlt
   have e : (vs.toArray ++ Array.replicate (fn.ntmps - vs.toArray.size) undef).getD i undef = vs[i] := by
    rw [Array.getD_eq_getD_getElem?, Array.getElem?_append_left (by simpa using hlt)]
    simp [hlt]
   rw [e]
   exact h4 i v vs[i] hv (List.getElem?_eq_getElem hlt)
  ·rw [List.getElem?_replicate] at hv
   split at hv
   ·cases hv; trivial
   ·cases hv
theorem b4S (hE : E.Ok P) (hr : Rel ρ B w0 st a w) {rv : ResultVar} {x : AV} (h : b5Z E st rv = some x) :
  ∃ v, ((match rv with
   | .tmp t => pure (a.tmps.getD t undef)
   | .cell p t => do loadVar t (← asAddr (a.tmps.getD p undef)) : Sem Value)).run P w = .ok v w ∧ AV.rel ρ x v := by
 cases rv with
 | tmp t =>
  simp only [b5Z] at h
  split at h
  ·rename_i y hy
   cases h
   exact ⟨_, rfl, hr.tm t _ hy⟩
  ·cases h
 | cell p t =>
  simp only [b5Z] at h
  split at h
  ·rename_i o b i hp
   obtain ⟨ad, c, q1, q2, q3⟩ := b0Z hE.ty hr h (hr.tm p _ hp)
   exact ⟨c, by simp [q1, asAddr, q2], q3⟩
  ·cases h
theorem a9H (hE : E.Ok P) (hr : Rel ρ B w0 st a w) : ∀ {l : List ResultVar} {xs : List AV}, a53 E st l = some xs →
  ∃ vs, F4 ρ xs vs ∧ ∀ acc : Array Value, (l.foldlM (fun (acc : Array Value) (rv : ResultVar) => (do pure (acc.push (← (match rv with
   | .tmp t => pure (a.tmps.getD t undef)
   | .cell p t => do loadVar t (← asAddr (a.tmps.getD p undef)) : Sem Value))) : Sem _)) acc).run P w = .ok (acc ++ vs.toArray) w
 | [], xs, h => by
  simp only [a53] at h
  cases h
  exact ⟨[], rfl, fun acc => by simp⟩
 | rv :: l, xs, h => by
  simp only [a53] at h
  split at h
  ·rename_i y ys e1 e2
   cases h
   obtain ⟨v, h1, h2⟩ := b4S hE hr e1
   obtain ⟨vs, h3, h4⟩ := a9H hE hr e2
   refine ⟨v :: vs, ⟨v, vs, rfl, h2, h3⟩, fun acc => ?_⟩
   simp only [List.foldlM_cons, Sem.run_bind, h1, Result.andThen_ok, Sem.run_pure]
   rw [h4]
   congr 1
   apply Array.ext'
   simp
  ·cases h
theorem a3z (hE : E.Ok P) (hr : Rel ρ B w0 st a w) {fn : Func} {xs : List AV} (h : a53 E st fn.results.toList = some xs) : ∃ vs, F4 ρ xs vs ∧ (results fn a.tmps).run P w = .ok (b2x vs) w := by
 obtain ⟨vs, h1, h2⟩ := a9H hE hr h
 refine ⟨vs, h1, ?_⟩
 have h3 := h2 #[]
 have hm : (fn.results.mapM fun (rv : ResultVar) => (match rv with
   | .tmp t => pure (a.tmps.getD t undef)
   | .cell p t => do loadVar t (← asAddr (a.tmps.getD p undef)) : Sem Value)).run P w = .ok vs.toArray w := by
  rw [Array.mapM_eq_foldlM, ← Array.foldlM_toList]
  simpa using h3
 unfold results
 rw [Sem.run_bind]
 refine (congrArg (fun r => Result.andThen r _) hm).trans ?_
 cases vs with
 | nil => rfl
 | cons v r =>
  cases r with
  | nil => rfl
  | cons u r => rfl
theorem b7t {V : View} : ∀ {L : List FK} {x : Cs L} {cs : List Value}, L.all FK.plain = true → b5z V L x cs → c09 L x cs
 | [], _, cs, _, h => h
 | K :: r, x, cs, hp, h => by
  simp only [List.all_cons, Bool.and_eq_true] at hp
  obtain ⟨c1, c2, rfl, h1, h2⟩ := h
  refine ⟨c1, c2, rfl, ?_, b7t hp.2 h2⟩
  cases K with
  | sl k => exact absurd hp.1 (by simp [FK.plain])
  | fs k => exact absurd hp.1 (by simp [FK.plain])
  | _ => exact h1
theorem a7p (fz : Nat → Prop) (hm : MRel ρ B w0 st.mem w) {k : CK} : ∀ {l : List (List Int)} {vs : List Value}, b0K ρ k l vs → ∃ bl : List Nat, (∀ b ∈ bl, ρ.fz b ≠ none ∧ B ≤ b ∧ a4P w b) ∧ ∀ (i : Nat) (zs : List Int) (u : Value), l[i]? = some zs → vs[i]? = some u → b0I k ⟨w, fun b => b ∈ bl, fz⟩ zs u
 | [], _, _ => ⟨[], fun b hb => by simp at hb, fun i zs u h => by simp at h⟩
 | zs0 :: l, _, ⟨v, vs', rfl, ⟨ad, c, e1, e2, e3⟩, h3⟩ => by
  obtain ⟨bl, r1, r2⟩ := a7p fz hm h3
  have up : ∀ {bl2 : List Nat} {zs : List Int} {u : Value}, (∀ b ∈ bl, b ∈ bl2) → b0I k ⟨w, fun b => b ∈ bl, fz⟩ zs u → b0I k ⟨w, fun b => b ∈ bl2, fz⟩ zs u := by
   rintro bl2 zs u hs ⟨a', c', q1, q2, q3⟩
   refine ⟨a', c', q1, q2, fun hp => ?_⟩
   obtain ⟨blk, cells, t, fr, pre, post, f1, f2, f3, f4⟩ := q3 hp
   exact ⟨blk, cells, t, fr, pre, post, f1, hs _ f2, f3, f4⟩
  by_cases hz : 0 < zs0.length
  ·obtain ⟨blk, cells, t, fr, pre, post, g1, g2, g3, g4⟩ := e3 hz
   refine ⟨blk :: bl, fun b hb => ?_, fun i zs u h1 h2 => ?_⟩
   ·rcases List.mem_cons.1 hb with rfl | hb
    ·exact ⟨by rw [g3]; simp, by rw [← hm.env.lo]; exact g2, cells, t, fr, hm.frz _ _ g3⟩
    ·exact r1 b hb
   ·cases i with
    | zero =>
     simp only [List.getElem?_cons_zero, Option.some.injEq] at h1 h2
     subst h1
     subst h2
     exact ⟨ad, c, e1, e2, fun _ => ⟨blk, cells, t, fr, pre, post, g1, List.mem_cons_self .., hm.frz _ _ g3, g4⟩⟩
    | succ i => exact up (fun b hb => List.mem_cons_of_mem _ hb) (r2 i zs u (by simpa using h1) (by simpa using h2))
  ·refine ⟨bl, r1, fun i zs u h1 h2 => ?_⟩
   cases i with
   | zero =>
    simp only [List.getElem?_cons_zero, Option.some.injEq] at h1 h2
    subst h1
    subst h2
    exact ⟨ad, c, e1, e2, fun hp => absurd (by simpa using hp) hz⟩
   | succ i => exact r2 i zs u (by simpa using h1) (by simpa using h2)
theorem b9R {fz : Nat → Prop} (hm : MRel ρ B w0 st.mem w) (hal : ∀ b, ρ.al b → fz b) {k : CK} {y : A1} {zs : List Int} (h : b8D k y = some zs) {v : Value} (hv : A1.rel ρ y v) :
  ∃ bs, c1h B w fz k zs v bs ∧ ∀ b ∈ bs, ρ.fz b ≠ none ∧ ¬ fz b := by
 unfold b8D at h
 split at h
 ·cases h
  exact ⟨[], ⟨⟨none, 0, hv, Nat.le_refl _, fun h => by simp at h⟩, fun b hb => by simp at hb⟩, fun b hb => by simp at hb⟩
 ·rename_i k' ys
  split at h
  ·rename_i e
   cases h
   subst e
   obtain ⟨ad, c, vs, k1, k2, k3, k4⟩ := hv
   simp only [FD.cells] at k3
   subst k3
   by_cases hp : 0 < zs.length
   ·obtain ⟨blk, cells, t, fr, pre, post, g1, g0, g3, g4⟩ := k4 (by simpa using hp)
    rcases g0 with g0 | g0
    ·by_cases hz : fz blk
     ·exact ⟨[], ⟨⟨ad, c, k1, k2, fun _ => ⟨blk, cells, t, fr, pre, post, g1, .inl hz, hm.frz _ _ g3, g4⟩⟩, fun b hb => by simp at hb⟩, fun b hb => by simp at hb⟩
     ·exact ⟨[blk], ⟨⟨ad, c, k1, k2, fun _ => ⟨blk, cells, t, fr, pre, post, g1, .inr (by simp), hm.frz _ _ g3, g4⟩⟩, fun b hb => by rw [List.mem_singleton.1 hb]; exact ⟨by rw [← hm.env.lo]; exact g0, cells, t, fr, hm.frz _ _ g3⟩⟩, fun b hb => by rw [List.mem_singleton.1 hb, g3]; exact ⟨by simp, hz⟩⟩
    ·exact ⟨[], ⟨⟨ad, c, k1, k2, fun _ => ⟨blk, cells, t, fr, pre, post, g1, .inl (hal blk g0), hm.frz _ _ g3, g4⟩⟩, fun b hb => by simp at hb⟩, fun b hb => by simp at hb⟩
   ·exact ⟨[], ⟨⟨ad, c, k1, k2, fun h => absurd (by simpa using h) hp⟩, fun b hb => by simp at hb⟩, fun b hb => by simp at hb⟩
  ·cases h
 ·cases h
theorem Kd.out_spec0 {fz : Nat → Prop} (hm : MRel ρ B w0 st.mem w) {K : Kd} (hal : K.opn = true → ∀ b, ρ.al b → fz b) (hK : ∀ l, K ≠ .cat l) {av : AV} {x : K.T} {ns : List Nat} (h : K.out st av = some (x, ns)) {v : Value} (hv : AV.rel ρ av v) :
  ∃ bs, K.mk B w fz x v bs ∧ ∀ b ∈ bs, (∃ o ∈ ns, ∃ ob l y, st.look o = some ob ∧ ob.own = .own ∧ ρ o = some l ∧ l.a = some y ∧ y.1 = b) ∨ (K.isSls = true ∧ ρ.fz b ≠ none) := by
 have plain : ∀ {K : Kd} {x : K.T} {ns : List Nat}, ((K.get st (.one av)).map fun x => (x, ([] : List Nat))) = some (x, ns) → K.rd (vw ρ st.mem w) x v := by
  intro K x ns h
  rw [Option.map_eq_some_iff] at h
  obtain ⟨y, h1, h2⟩ := h
  cases h2
  exact Kd.get_spec hm h1 hv
 cases K
 case int k => exact ⟨[], ⟨plain h, rfl⟩, fun b hb => by simp at hb⟩
 case bool => exact ⟨[], ⟨plain h, rfl⟩, fun b hb => by simp at hb⟩
 case str => exact ⟨[], ⟨plain h, rfl⟩, fun b hb => by simp at hb⟩
 case xs k n => exact ⟨[], ⟨plain h, rfl⟩, fun b hb => by simp at hb⟩
 case sls k =>
  cases av with
  | any => simp [Kd.out] at h
  | agg l => simp [Kd.out] at h
  | sc y =>
   cases y <;> simp only [Kd.out] at h <;> try (cases h; done)
   ·rename_i o len es
    split at h
    ·rename_i k' l he hl
     have he := i5 he
     subst he
     split at h
     ·rename_i ek
      subst ek
      cases h
      obtain ⟨lc, k1, k2, k3, k4, k5, k6, k7⟩ := hv
      obtain ⟨l', C, g1, g2, g3, g4, g5⟩ := hm.ob o _ (d0 hl)
      rw [k1] at g1; cases g1
      obtain ⟨c1, _, rfl, g2, g2'⟩ := g2
      cases g2'
      simp only [List.append_nil] at g3 g5
      have hlen : x.length = lc.size := by have := a54 g2; rw [g3, k3] at this; omega
      obtain ⟨bl, r1, r2⟩ := a7p fz hm g2
      cases ha : lc.a with
      | none =>
       have hz := k6 ha
       have hx0 : x = [] := List.eq_nil_of_length_eq_zero (by omega)
       subst hx0
       refine ⟨[], ⟨⟨lc.adr, lc.cap, [], by rw [k4, hz]; rfl, Nat.zero_le _, rfl, fun h => absurd h (Nat.lt_irrefl 0), fun i zs u h1 h2 => by simp at h1⟩, fun b hb => by simp at hb⟩, fun b hb => by simp at hb⟩
      | some p =>
       obtain ⟨blk, off⟩ := p
       rw [ha] at g5
       obtain ⟨cs, t, fr, pre, post, q1, q2, q3, q4⟩ := g5
       obtain ⟨rfl, q5, q6, q7⟩ := q4.1 trivial
       have hpre : pre = [] := List.eq_nil_of_length_eq_zero q3
       subst hpre
       refine ⟨blk :: bl, ⟨⟨lc.adr, lc.cap, c1, by rw [k4, hlen], by omega, a54 g2, fun hp => ⟨blk, cs, t, fr, [], post, ?_, List.mem_cons_self .., q1, q2⟩, fun i zs u h1 h2 => ?_⟩, fun b hb => ?_⟩, fun b hb => ?_⟩
       ·rw [q7]; simp [Loc.addr, ha]
       ·obtain ⟨a', c', e1, e2, e3⟩ := r2 i zs u h1 h2
        refine ⟨a', c', e1, e2, fun hp => ?_⟩
        obtain ⟨blk', cells, t', fr', pre', post', f1, f2, f3, f4⟩ := e3 hp
        exact ⟨blk', cells, t', fr', pre', post', f1, List.mem_cons_of_mem _ f2, f3, f4⟩
       ·rcases List.mem_cons.1 hb with rfl | hb
        ·exact ⟨(hm.ownB o _ lc _ (d0 hl) rfl k1 ha).1, cs, t, fr, q1⟩
        ·exact (r1 b hb).2
       ·rcases List.mem_cons.1 hb with rfl | hb
        ·exact .inl ⟨o, by simp, _, lc, _, hl, rfl, k1, ha, rfl⟩
        ·exact .inr ⟨rfl, (r1 b hb).1⟩
     ·cases h
    ·cases h
   ·cases h
    exact ⟨[], ⟨⟨none, 0, [], hv, Nat.le_refl _, rfl, fun h => absurd h (Nat.lt_irrefl 0), fun i zs u h1 h2 => by simp at h1⟩, fun b hb => by simp at hb⟩, fun b hb => by simp at hb⟩
 case rp k => cases av <;> simp [Kd.out] at h
 case fcl f k => cases av <;> simp [Kd.out] at h
 case fsl k => cases av with
  | any => simp [Kd.out] at h
  | agg l => simp [Kd.out] at h
  | sc y => simp [Kd.out] at h
 case asl k =>
  cases av with
  | any => simp [Kd.out] at h
  | agg l => simp [Kd.out] at h
  | sc y =>
   have fr : (b8D k y).map (fun x => (x, ([] : List Nat))) = some (x, ns) → ∃ bs, c1h B w fz k x v bs ∧ ∀ b ∈ bs, (∃ o ∈ ns, ∃ ob l y, st.look o = some ob ∧ ob.own = .own ∧ ρ o = some l ∧ l.a = some y ∧ y.1 = b) ∨ ((Kd.asl k).isSls = true ∧ ρ.fz b ≠ none) := by
    intro h
    rw [Option.map_eq_some_iff] at h
    obtain ⟨zs, h1, h2⟩ := h
    cases h2
    obtain ⟨bs, q1, q2⟩ := b9R hm (hal rfl) h1 hv
    exact ⟨bs, q1, fun b hb => .inr ⟨rfl, (q2 b hb).1⟩⟩
   cases y
   case vec o len es =>
    simp only [Kd.out] at h
    split at h
    ·rename_i segs he hl
     have he := i5 he
     subst he
     rw [Option.map_eq_some_iff] at h
     obtain ⟨zs, h1, h2⟩ := h
     cases h2
     obtain ⟨l, k1, k2, k3, k4, k5, k6, k7⟩ := hv
     obtain ⟨l', C, g1, g2, g3, g4, g5⟩ := hm.ob o _ (d0 hl)
     rw [k1] at g1; cases g1
     have hC := l6 h1 g2
     have hlen : x.length = l.size := by have := g3; rw [hC, k3] at this; simpa using this
     cases ha : l.a with
     | none =>
      have hz := k6 ha
      refine ⟨[], ⟨⟨l.adr, l.cap, by rw [k4, hlen], by omega, fun hp => ?_⟩, fun b hb => by simp at hb⟩, fun b hb => by simp at hb⟩
      rw [List.length_map] at hp; omega
     | some p =>
      obtain ⟨blk, off⟩ := p
      rw [ha] at g5
      obtain ⟨cs, t, fr, pre, post, r1, r2, r3, r4⟩ := g5
      obtain ⟨rfl, r5, r6, r7⟩ := r4.1 rfl
      refine ⟨[blk], ⟨⟨l.adr, l.cap, by rw [k4, hlen], by omega, fun hp => ⟨blk, cs, t, fr, pre, post, ?_, .inr (by simp), r1, by rw [← hC]; exact r2⟩⟩, fun b hb => by rw [List.mem_singleton.1 hb]; exact ⟨(hm.ownB o _ l _ (d0 hl) rfl k1 ha).1, cs, t, fr, r1⟩⟩, fun b hb => .inl ⟨o, by simp, _, l, _, hl, rfl, k1, ha, by simpa using (List.mem_singleton.1 hb).symm⟩⟩
      rw [r7, r3]
      simp [Loc.addr, ha]
    ·cases h
   all_goals exact fr h
 case fnc f => exact ⟨[], ⟨plain h, rfl⟩, fun b hb => by simp at hb⟩
 case cat l => exact absurd rfl (hK l)
 case io l => cases av <;> simp [Kd.out] at h
 case ios k => cases av <;> simp [Kd.out] at h
 case xv k =>
  cases av with
  | any => simp [Kd.out] at h
  | sc y => simp [Kd.out] at h
  | agg segs =>
   simp only [Kd.out, Option.map_eq_some_iff] at h
   obtain ⟨y, h1, h2⟩ := h
   cases h2
   obtain ⟨cs, rfl, h3⟩ := hv
   exact ⟨[], ⟨by rw [l6 h1 h3], rfl⟩, fun b hb => by simp at hb⟩
 case op l =>
  cases av with
  | any => simp [Kd.out] at h
  | agg segs => simp [Kd.out] at h
  | sc y =>
   cases y <;> try (simp [Kd.out] at h; done)
   rename_i o b i
   cases i <;> simp only [Kd.out] at h <;> try (cases h; done)
   split at h
   ·rename_i segs hb0 hpl hlo
    have hb0 := i5 hb0
    subst hb0
    rw [Option.map_eq_some_iff] at h
    obtain ⟨y, h1, h2⟩ := h
    cases h2
    obtain ⟨l', blk, f, k1, k2, rfl⟩ := hv
    obtain ⟨l2, C, g1, g2, g3, g4, g5⟩ := hm.ob o _ (d0 hlo)
    rw [k1] at g1; cases g1
    rw [k2] at g5
    obtain ⟨cs, t, fr, pre, post, r1, r2, r3, r4, r5⟩ := g5
    obtain ⟨rfl, r6, r7, r8⟩ := r4 rfl
    have hpre : pre = [] := List.eq_nil_of_length_eq_zero r3
    subst hpre
    exact ⟨[blk], ⟨blk, cs, t, fr, C, post, rfl, (hm.ownB o _ l' _ (d0 hlo) rfl k1 k2).1, rfl, r1, by simpa using r2, b7t hpl (a08 hm h1 g2).1, r7⟩,
     fun b hb => .inl ⟨o, by simp, _, l', _, hlo, rfl, k1, k2, by simpa using (List.mem_singleton.1 hb).symm⟩⟩
   ·cases h
 case sla k m =>
  cases av with
  | any => simp [Kd.out] at h
  | agg l => simp [Kd.out] at h
  | sc y =>
   cases y <;> simp only [Kd.out] at h <;> try (cases h; done)
   ·rename_i o len es
    split at h
    ·rename_i segs he hm0 hl
     have he := i5 he
     subst he
     rw [Option.map_eq_some_iff] at h
     obtain ⟨zs, h1, h2⟩ := h
     cases h2
     obtain ⟨l, k1, k2, k3, k4, k5, k6, k7⟩ := hv
     obtain ⟨l', C, g1, g2, g3, g4, g5⟩ := hm.ob o _ (d0 hl)
     rw [k1] at g1; cases g1
     have hC := l6 h1 g2
     have hlen : x.length = l.size * l.es := by have := g3; rw [hC] at this; simpa using this
     cases ha : l.a with
     | none =>
      rw [ha] at g5
      obtain ⟨rfl, hcap⟩ := g5
      obtain ⟨c1, c2⟩ := hcap rfl
      have hz : x = [] := by cases x with
       | nil => rfl
       | cons z zs => simp at hC
      subst hz
      have hs0 : l.size = 0 := k6 ha
      exact ⟨[], .inl ⟨rfl, by rw [k4, hs0, c1, c2], rfl⟩, fun b hb => by simp at hb⟩
     | some p =>
      obtain ⟨blk, off⟩ := p
      rw [ha] at g5
      obtain ⟨cs, t, fr, pre, post, r1, r2, r3, r4⟩ := g5
      obtain ⟨rfl, r5, r6, r7⟩ := r4.1 rfl
      have hpre : pre = [] := List.eq_nil_of_length_eq_zero r3
      subst hpre
      refine ⟨[blk], .inr ⟨blk, cs, t, fr, post, l.size, l.cap, rfl, (hm.ownB o _ l _ (d0 hl) rfl k1 ha).1, a91 hm0, by rw [hlen, k3], k5, by rw [← k3]; exact r5, ?_, r1, by rw [← hC]; simpa using r2, r6⟩, fun b hb => .inl ⟨o, by simp, _, l, _, hl, rfl, k1, ha, by simpa using (List.mem_singleton.1 hb).symm⟩⟩
      rw [k4, r7]
      simp [Loc.addr, ha]
    ·cases h
   ·cases h
    exact ⟨[], .inl ⟨rfl, hv, rfl⟩, fun b hb => by simp at hb⟩
 case sl k =>
  cases av with
  | any => simp [Kd.out] at h
  | agg l => simp [Kd.out] at h
  | sc y =>
   cases y <;> simp only [Kd.out] at h <;> try (cases h; done)
   ·rename_i o len es
    split at h
    ·rename_i segs he hl
     have he := i5 he
     subst he
     rw [Option.map_eq_some_iff] at h
     obtain ⟨zs, h1, h2⟩ := h
     cases h2
     obtain ⟨l, k1, k2, k3, k4, k5, k6, k7⟩ := hv
     obtain ⟨l', C, g1, g2, g3, g4, g5⟩ := hm.ob o _ (d0 hl)
     rw [k1] at g1; cases g1
     have hC := l6 h1 g2
     have hlen : x.length = l.size := by have := g3; rw [hC, k3] at this; simpa using this
     cases ha : l.a with
     | none =>
      rw [ha] at g5
      obtain ⟨rfl, hcap⟩ := g5
      obtain ⟨c1, c2⟩ := hcap rfl
      have hz : x = [] := by cases x with
       | nil => rfl
       | cons z zs => simp at hC
      subst hz
      have hs0 : l.size = 0 := by simpa using hlen.symm
      exact ⟨[], .inl ⟨rfl, by rw [k4, hs0, c1, c2], rfl⟩, fun b hb => by simp at hb⟩
     | some p =>
      obtain ⟨blk, off⟩ := p
      rw [ha] at g5
      obtain ⟨cs, t, fr, pre, post, r1, r2, r3, r4⟩ := g5
      obtain ⟨rfl, r5, r6, r7⟩ := r4.1 rfl
      have hpre : pre = [] := List.eq_nil_of_length_eq_zero r3
      subst hpre
      refine ⟨[blk], .inr ⟨blk, cs, t, fr, post, l.cap, rfl, (hm.ownB o _ l _ (d0 hl) rfl k1 ha).1, by rw [hlen]; exact k5, by rw [k3, Nat.mul_one] at r5; exact r5, ?_, r1, by rw [← hC]; simpa using r2, r6⟩, fun b hb => .inl ⟨o, by simp, _, l, _, hl, rfl, k1, ha, by simpa using (List.mem_singleton.1 hb).symm⟩⟩
      rw [k4, r7, hlen]
      simp [Loc.addr, ha]
    ·cases h
   ·cases h
    exact ⟨[], .inl ⟨rfl, hv, rfl⟩, fun b hb => by simp at hb⟩
theorem b9C {st : St} {k : CK} {a : A1} : c0I st k a = Kd.out st (.sl k) (.sc a) := by
 unfold c0I Kd.out
 cases a <;> rfl
theorem FK.out_spec {fz : Nat → Prop} (hm : MRel ρ B w0 st.mem w) {K : FK} (hal : K.isFs = true → ∀ b, ρ.al b → fz b) {l : List Seg} {x : K.T} {ns : List Nat} (h : K.out st l = some (x, ns)) {C : List Value} (hC : i2 ρ l C) (hn : C.length = K.size) :
  ∃ bs, K.mk B w fz x C bs ∧ ∀ b ∈ bs, (∃ o ∈ ns, ∃ ob l y, st.look o = some ob ∧ ob.own = .own ∧ ρ o = some l ∧ l.a = some y ∧ y.1 = b) ∨ (K.isFs = true ∧ ρ.fz b ≠ none ∧ ¬ fz b) := by
 cases K with
 | int k =>
  simp only [FK.out, Option.map_eq_some_iff] at h
  obtain ⟨y, h1, h2⟩ := h
  cases h2
  exact ⟨[], ⟨FK.get_spec (K := .int k) hm h1 hC hn, rfl⟩, fun b hb => by simp at hb⟩
 | bool =>
  simp only [FK.out, Option.map_eq_some_iff] at h
  obtain ⟨y, h1, h2⟩ := h
  cases h2
  exact ⟨[], ⟨FK.get_spec (K := .bool) hm h1 hC hn, rfl⟩, fun b hb => by simp at hb⟩
 | xs k n =>
  simp only [FK.out, Option.map_eq_some_iff] at h
  obtain ⟨y, h1, h2⟩ := h
  cases h2
  exact ⟨[], ⟨FK.get_spec (K := .xs k n) hm h1 hC hn, rfl⟩, fun b hb => by simp at hb⟩
 | sl k =>
  simp only [FK.out] at h
  split at h
  ·rename_i a
   rw [b9C] at h
   obtain ⟨c, cs', rfl, h2, h3⟩ := hC
   cases h3
   obtain ⟨bs, q1, q2⟩ := Kd.out_spec0 (fz := fz) hm (K := .sl k) (fun e => by cases e) (fun l e => by cases e) h (v := c) h2
   exact ⟨bs, ⟨c, rfl, q1⟩, fun b hb => (q2 b hb).elim .inl fun h => by cases h.1⟩
  ·cases h
 | fs k =>
  simp only [FK.out] at h
  split at h
  ·rename_i a
   rw [Option.map_eq_some_iff] at h
   obtain ⟨zs, h1, h2⟩ := h
   cases h2
   obtain ⟨c, cs', rfl, g2, g3⟩ := hC
   cases g3
   obtain ⟨bs, q1, q2⟩ := b9R hm (hal rfl) h1 g2
   exact ⟨bs, ⟨c, rfl, q1⟩, fun b hb => .inr ⟨rfl, q2 b hb⟩⟩
  ·cases h
theorem b0U (hm : MRel ρ B w0 st.mem w) : ∀ {L : List FK} {fz : Nat → Prop} {l : List Seg} {x : Cs L} {ns : List Nat} {C : List Value}, (L.any FK.isFs = true → ∀ b, ρ.al b → fz b) → b7s st L l = some (x, ns) → i2 ρ l C →
  ∃ bs, c08 B w fz L x C bs ∧ ∀ b ∈ bs, (∃ o ∈ ns, ∃ ob l y, st.look o = some ob ∧ ob.own = .own ∧ ρ o = some l ∧ l.a = some y ∧ y.1 = b) ∨ (L.any FK.isFs = true ∧ ρ.fz b ≠ none ∧ ¬ fz b)
 | [], fz, l, x, ns, C, _, h, hC => by
  simp only [b7s] at h
  split at h
  ·cases h
   have hC : C = [] := hC
   exact ⟨[], ⟨hC, rfl⟩, fun b hb => by simp at hb⟩
  ·cases h
 | K :: r, fz, l, x, ns, C, hal, h, hC => by
  simp only [b7s] at h
  split at h
  ·rename_i a b h1 h2
   split at h
   ·rename_i p q e1 e2
    split at h
    ·rename_i hdis
     cases h
     obtain ⟨c1, c2, rfl, hn, g1, g2⟩ := a6a h1 h2 hC
     obtain ⟨b1, q1, q2⟩ := FK.out_spec hm (fun e => hal (by rw [List.any_cons, e, Bool.true_or])) (x := p.1) (ns := p.2) e1 g1 hn
     obtain ⟨b2, q3, q4⟩ := b0U hm (fz := fun b => fz b ∨ (K.isFs = true ∧ b ∈ b1)) (x := q.1) (ns := q.2) (fun e b hb => .inl (hal (by rw [List.any_cons, e, Bool.or_true]) b hb)) e2 g2
     refine ⟨b1 ++ b2, ⟨c1, c2, b1, b2, rfl, rfl, q1, q3, fun b hb1 hb2 => ?_⟩, fun b hb => ?_⟩
     ·rcases q2 b hb1 with ⟨o, ho, ob, l1, y1, g1, g2, g3, g4, g5⟩ | ⟨g1, g2⟩
      ·rcases q4 b hb2 with ⟨o', ho', ob', l2, y2, f1, f2, f3, f4, f5⟩ | ⟨f1, f2⟩
       ·have hne : o ≠ o' := by
         intro e
         subst e
         have := List.all_eq_true.1 hdis o ho
         simp only [Bool.not_eq_true'] at this
         have h' : q.2.contains o = true := List.contains_iff_mem.2 ho'
         rw [h'] at this
         cases this
        exact hm.sep o ob o' ob' l1 l2 y1 y2 (d0 g1) (d0 f1) (by rw [g2]; exact fun h => by cases h) hne g3 f3 g4 f4 (by rw [g5, f5])
       ·have := (hm.ownB o ob l1 y1 (d0 g1) g2 g3 g4).2
        rw [g5] at this
        exact f2.1 this
      ·rcases q4 b hb2 with ⟨o', ho', ob', l2, y2, f1, f2, f3, f4, f5⟩ | ⟨f1, f2⟩
       ·have := (hm.ownB o' ob' l2 y2 (d0 f1) f2 f3 f4).2
        rw [f5] at this
        exact g2.1 this
       ·exact f2.2 (.inr ⟨g1, hb1⟩)
     ·rcases List.mem_append.1 hb with hb | hb
      ·exact (q2 b hb).imp (fun ⟨o, ho, hrest⟩ => ⟨o, by simp [ho], hrest⟩) fun h => ⟨by rw [List.any_cons, h.1, Bool.true_or], h.2⟩
      ·exact (q4 b hb).imp (fun ⟨o, ho, hrest⟩ => ⟨o, by simp [ho], hrest⟩) fun h => ⟨by rw [List.any_cons, h.1, Bool.or_true], h.2.1, fun hz => h.2.2 (.inl hz)⟩
    ·cases h
   ·cases h
  ·cases h
theorem Kd.out_spec {fz : Nat → Prop} (hm : MRel ρ B w0 st.mem w) {K : Kd} (hal : K.opn = true → ∀ b, ρ.al b → fz b) {av : AV} {x : K.T} {ns : List Nat} (h : K.out st av = some (x, ns)) {v : Value} (hv : AV.rel ρ av v) :
  ∃ bs, K.mk B w fz x v bs ∧ ∀ b ∈ bs, (∃ o ∈ ns, ∃ ob l y, st.look o = some ob ∧ ob.own = .own ∧ ρ o = some l ∧ l.a = some y ∧ y.1 = b) ∨ (K.isSls = true ∧ ρ.fz b ≠ none) := by
 by_cases hc : ∃ l, K = .cat l
 ·obtain ⟨l, rfl⟩ := hc
  cases av with
  | any => simp [Kd.out] at h
  | sc y => simp [Kd.out] at h
  | agg segs =>
   simp only [Kd.out] at h
   obtain ⟨cs, rfl, h3⟩ := hv
   obtain ⟨bs, q1, q2⟩ := b0U hm hal h h3
   exact ⟨bs, ⟨cs, rfl, q1⟩, fun b hb => (q2 b hb).imp id fun h => ⟨h.1, h.2.1⟩⟩
 ·exact Kd.out_spec0 hm hal (fun l e => hc ⟨l, e⟩) h hv
theorem a89 {fz : Nat → Prop} (hm : MRel ρ B w0 st.mem w) : ∀ {ks : List Kd} {l : List AV} {x : Rs ks} {ns : List Nat} {vs : List Value}, (ks.any Kd.opn = true → ∀ b, ρ.al b → fz b) → a7i st ks l = some (x, ns) → F4 ρ l vs →
  ∃ bs, b4u B w fz ks x vs bs ∧ ∀ b ∈ bs, (∃ o ∈ ns, ∃ ob l y, st.look o = some ob ∧ ob.own = .own ∧ ρ o = some l ∧ l.a = some y ∧ y.1 = b) ∨ (ks.any Kd.isSls = true ∧ ρ.fz b ≠ none)
 | [], [], x, ns, vs, hal, h, hv => ⟨[], ⟨hv, rfl⟩, fun b hb => by simp at hb⟩
 | [], _ :: _, x, ns, vs, hal, h, hv => by simp [a7i] at h
 | [k], [], x, ns, vs, hal, h, hv => by simp [a7i] at h
 | [k], [y], x, ns, vs, hal, h, hv => by
  obtain ⟨v, vs', rfl, h2, h3⟩ := hv
  cases h3
  obtain ⟨bs, q1, q2⟩ := Kd.out_spec hm (fun e => hal (by rw [List.any_cons, e, Bool.true_or])) h h2
  exact ⟨bs, ⟨v, rfl, q1⟩, fun b hb => (q2 b hb).imp id fun h => ⟨by simp [h.1], h.2⟩⟩
 | [k], _ :: _ :: _, x, ns, vs, hal, h, hv => by simp [a7i] at h
 | k :: k2 :: r, [], x, ns, vs, hal, h, hv => by simp [a7i] at h
 | k :: k2 :: r, y :: l, x, ns, vs, hal, h, hv => by
  obtain ⟨v, vs', rfl, h2, h3⟩ := hv
  simp only [a7i] at h
  split at h
  ·rename_i p q e1 e2
   split at h
   ·rename_i hdis
    cases h
    obtain ⟨b1, q1, q2⟩ := Kd.out_spec hm (fun e => hal (by rw [List.any_cons, e, Bool.true_or])) (x := p.1) (ns := p.2) e1 h2
    obtain ⟨b2, q3, q4⟩ := a89 hm (x := q.1) (ns := q.2) (fun e => hal (by rw [List.any_cons, e, Bool.or_true])) e2 h3
    refine ⟨b1 ++ b2, ⟨v, vs', b1, b2, rfl, rfl, q1, q3, fun b hb1 hb2 => ?_⟩, fun b hb => ?_⟩
    ·rw [Bool.and_eq_true] at hdis
     obtain ⟨hdis, hone⟩ := hdis
     rcases q2 b hb1 with ⟨o, ho, ob, l1, y1, g1, g2, g3, g4, g5⟩ | ⟨g1, g2⟩
     ·rcases q4 b hb2 with ⟨o', ho', ob', l2, y2, f1, f2, f3, f4, f5⟩ | ⟨f1, f2⟩
      ·have hne : o ≠ o' := by
        intro e
        subst e
        have := List.all_eq_true.1 hdis o ho
        simp only [Bool.not_eq_true'] at this
        have h' : q.2.contains o = true := List.contains_iff_mem.2 ho'
        rw [h'] at this
        cases this
       exact hm.sep o ob o' ob' l1 l2 y1 y2 (d0 g1) (d0 f1) (by rw [g2]; exact fun h => by cases h) hne g3 f3 g4 f4 (by rw [g5, f5])
      ·have := (hm.ownB o ob l1 y1 (d0 g1) g2 g3 g4).2
       rw [g5] at this
       exact f2 this
     ·rcases q4 b hb2 with ⟨o', ho', ob', l2, y2, f1, f2, f3, f4, f5⟩ | ⟨f1, f2⟩
      ·have := (hm.ownB o' ob' l2 y2 (d0 f1) f2 f3 f4).2
       rw [f5] at this
       exact g2 this
      ·rw [g1, f1] at hone
       cases hone
    ·rcases List.mem_append.1 hb with hb | hb
     ·exact (q2 b hb).imp (fun ⟨o, ho, hrest⟩ => ⟨o, by simp [ho], hrest⟩) fun h => ⟨by simp [h.1], h.2⟩
     ·exact (q4 b hb).imp (fun ⟨o, ho, hrest⟩ => ⟨o, by simp [ho], hrest⟩) fun h => ⟨by rw [List.any_cons, h.1, Bool.or_true], h.2⟩
   ·cases h
  ·cases h
theorem a8M {i : Nat} : ∀ {mem : List Slot} {b : Ob}, a8L i mem = some b → ∃ o : Nat, mem[o]? = some (Slot.live b) ∧ b.own = .mt i
 | [], b, h => by cases h
 | s :: r, b, h => by
  have rest : a8L i r = some b → ∃ o : Nat, (s :: r)[o]? = some (Slot.live b) ∧ b.own = .mt i := by
   intro h
   obtain ⟨o, h1, h2⟩ := a8M (mem := r) h
   exact ⟨o + 1, by simpa using h1, h2⟩
  cases s with
  | free => exact rest h
  | dead => exact rest h
  | it _ _ => exact rest h
  | live c =>
   simp only [a8L] at h
   cases hc : c.own with
   | ro => rw [hc] at h; exact rest h
   | own => rw [hc] at h; exact rest h
   | mt j =>
    rw [hc] at h
    simp only at h
    split at h
    ·rename_i he
     cases h
     exact ⟨0, rfl, by rw [hc, i5 he]⟩
    ·exact rest h
theorem b2X (hm : MRel ρ B w0 st.mem w) : ∀ {n i : Nat} {l2 : List AV} {M : List (Option Reg)}, c1o st.mem i n = some l2 → M.length = n → (∀ j m, M[j]? = some m → ρ.mt[i + j]? = some m) → ∃ ls, F4 ρ l2 ls ∧ a1N w M ls
 | 0, i, l2, M, h, hl, _ => by
  simp only [c1o] at h
  cases h
  have : M = [] := List.eq_nil_of_length_eq_zero hl
  subst this
  exact ⟨[], rfl, rfl⟩
 | n + 1, i, l2, M, h, hl, hM => by
  simp only [c1o] at h
  split at h
  ·rename_i b l hb hr
   cases h
   cases M with
   | nil => simp at hl
   | cons m M =>
    obtain ⟨ls, h1, h2⟩ := b2X hm (M := M) hr (by simpa using hl) (fun j m' e => by
     have := hM (j + 1) m' (by simpa using e)
     rw [show i + 1 + j = i + (j + 1) by omega]
     exact this)
    obtain ⟨o, ho, hmt⟩ := a8M hb
    obtain ⟨lc, C, g1, g2, g3, g4, g5⟩ := hm.ob o b ho
    have hreg := hm.mtM o b i lc ho hmt g1
    have hm0 := hM 0 m rfl
    rw [Nat.add_zero, hreg] at hm0
    refine ⟨.agg C.toArray :: ls, ⟨_, ls, rfl, ⟨C, rfl, g2⟩, h1⟩, _, ls, rfl, ?_, h2⟩
    have hcells : (Value.agg C.toArray).cells.toList = C := by simp [Value.cells]
    cases ha : lc.a with
    | none =>
     rw [ha] at hm0 g5
     cases hm0
     show (Value.agg C.toArray).cells.toList = []
     rw [hcells]
     exact g5.1
    | some y =>
     rw [ha] at hm0 g5
     cases hm0
     obtain ⟨cs, t, fr, pre, post, r1, r2, r3, _⟩ := g5
     exact ⟨by rw [hcells]; exact g3, cs, t, fr, pre, post, r1, by rw [hcells]; exact r2, r3⟩
  ·cases h
theorem b2e {ok fz : Nat → Prop} : ∀ {ks : List Kd} {x : Ds ks} {vs : List Value}, a79 ⟨w, ok, fz⟩ ks x vs → (a5b ks vs).length = nIo ks
 | [], _, vs, h => by have h : vs = [] := h; subst h; rfl
 | k :: ks, x, vs, h => by
  obtain ⟨v, vs', rfl, _, h2⟩ := h
  simp only [a5b, nIo, List.length_append]
  rcases b09 (K := k) (v := v) with ⟨e1, e2⟩ | ⟨e1, m, e2⟩
  ·rw [e1, e2, b2e h2]; simp
  ·rw [e1, e2, b2e h2]; simp; omega
theorem a52 {ρ : Env} : ∀ {l l2 : List AV} {us ls : List Value}, F4 ρ l us → F4 ρ l2 ls → F4 ρ (l ++ l2) (us ++ ls)
 | [], _, us, _, h, h2 => by have h : us = [] := h; subst h; exact h2
 | _ :: _, _, _, _, ⟨v, vs', e, h1, h3⟩, h2 => by subst e; exact ⟨v, _, rfl, h1, a52 h3 h2⟩
theorem a8C {f : FuncId} (h : i7 P f) (vs cap : Array Value) (w : World) : (invoke (.fn (.func f) cap) vs).run P w = .ok (.enter f (vs ++ cap)) w := by
 obtain ⟨fn, hf, hb, hn⟩ := h
 have hb' : fn.body ≠ none := by intro hnb; rw [hnb] at hb; cases hb
 have hn' : fn.name ≠ "runtime.NumGoroutine" := by simpa using hn
 simp [invoke, callFunc, program, Sem.run, hf, hn', hb']
theorem b6V (p : Option (Py × Int)) : settle (a1U p) = .returning := by
 cases p <;> rfl
theorem b7T (p : Option (Py × Int)) : b5Q p ≠ .run := by
 cases p <;> simp [b5Q]
theorem a8F (hE : E.Ok P) (hr : Rel ρ B w0 st a w) {fn : Func} {R : Ending → World → Prop} {e : Ex} {o : (Py × Int) ⊕ St} (h : c1a E e st = some o)
  (hR : match o with
   | .inr st2 => ∀ ρ2 w2, ρ.le ρ2 → Rel ρ2 B w0 st2 { a with defers := [] } w2 → ∃ v, (results fn a.tmps).run P w2 = .ok v w2 ∧ R (.returned v) w2
   | .inl p => R (.panicked [{ v := p.1.val p.2, recovered := false }]) w) : bodyPostD P fn R (b9Q e) a w := by
 have hd := hr.defers
 have one : ∀ (p : Option (Py × Int)) (f : FuncId) (xs : List A1), st.dfr = [(f, xs)] → (match E.ct f with
    | some J => match J.run p xs st.mem with
     | some mem => some (.inr { st with mem := mem, dfr := [] })
     | none => none
    | none => none) = some o → Leaves P fn a.tmps R a.defers (b5Q p) w := by
  intro p f xs hdf h
  split at h
  ·rename_i J hct
   split at h
   ·rename_i mem hrun
    cases h
    rw [hdf] at hd
    obtain ⟨as, cap, ds', e1, hv, e2⟩ := hd
    have e2 : ds' = [] := e2
    subst e2
    rw [e1]
    obtain ⟨hc, hent⟩ := hE.ct f J hct
    refine leaves_cons (b7T p) (a8C hent _ _ w) ((hc ρ B w0 st.mem w p xs _ mem hv hr.m hrun).mono ?_)
    rintro e u' w' ⟨⟨v, rfl⟩, rfl, ρ2, hl, hm2⟩
    show Leaves P fn a.tmps R [] (settle (a1U p)) w'
    rw [b6V]
    exact hR ρ2 w' hl ⟨hr.len, fun i v h => TV.rel_le hl (hr.tm i v h), hm2, rfl⟩
   ·cases h
  ·cases h
 have back : (match st.dfr with
   | [] => some (.inr st)
   | [(f, xs)] => match E.ct f with
    | some J => match J.run none xs st.mem with
     | some mem => some (.inr { st with mem := mem, dfr := [] })
     | none => none
    | none => none
   | _ => none) = some o → Leaves P fn a.tmps R a.defers .returning w := by
  intro h
  split at h
  ·rename_i hdf
   cases h
   rw [hdf] at hd
   have hd : a.defers = [] := hd
   rw [hd]
   exact hR ρ w (.refl ρ) ⟨hr.len, hr.tm, hr.m, by rw [hdf]; rfl⟩
  ·rename_i f xs hdf
   exact one none f xs hdf h
  ·cases h
 cases e with
 | exit id => cases h
 | normal => exact back h
 | ret => exact back h
 | pan p n =>
  simp only [c1a] at h
  show Leaves P fn a.tmps R a.defers (.panicking [{ v := p.val n, recovered := false }]) w
  split at h
  ·rename_i hdf
   cases h
   rw [hdf] at hd
   have hd : a.defers = [] := hd
   rw [hd]
   exact hR
  ·rename_i f xs hdf
   exact one (some (p, n)) f xs hdf h
  ·cases h
noncomputable def b96 (ks rs : List Kd) (ok fz : Nat → Prop) : Nat → Prop := @_root_.ite _ (rs.any Kd.opn = true ∧ ks.any Kd.okF = false) (Classical.propDecidable _) fz ok
theorem b97 {ks rs : List Kd} {ok fz : Nat → Prop} (h : ∀ b, fz b → ok b) : ∀ b, fz b → b96 ks rs ok fz b := by
 intro b hb
 unfold b96
 split
 ·exact hb
 ·exact h b hb
theorem b98 {ks rs : List Kd} {ok fz : Nat → Prop} (h : ks.any Kd.okF = true) : ∀ b, ok b → b96 ks rs ok fz b := by
 intro b hb
 unfold b96
 rw [if_neg (fun hh => by rw [hh.2] at h; cases h)]
 exact hb
theorem b8d (hE : E.Ok P) {fn : Func} {ks rs : List Kd} {vs : List Value} {x : Ds ks} {ok fz : Nat → Prop} {wa : World} (hrd : a79 ⟨wa, ok, fz⟩ ks x vs) {tmps : Array Value} {ds : List Deferred}
  (hr : Rel ρ wa.heap.size ⟨wa, a5b ks vs, b96 ks rs ok fz⟩ st { tmps := tmps, defers := ds } w) {r : Rs rs} (hk : c1U E fn ks rs st = some r) :
  ∃ v, (results fn tmps).run P w = .ok v w ∧ ∃ us ls bs, Ending.returned v = .returned (b2x us) ∧ b4u wa.heap.size w fz rs r (us ++ ls) bs ∧ a1N w (a5b ks vs) ls ∧ BelowM (a5b ks vs) wa.heap.size wa w := by
 unfold c1U at hk
 split at hk
 ·cases hk
 rename_i hopen
 split at hk
 ·rename_i l hl
  split at hk
  ·rename_i l2 hl2
   split at hk
   ·rename_i p hp
    cases hk
    have hmt' : ρ.mt = a5b ks vs := hr.m.emt.1
    obtain ⟨us, h1, h2⟩ := a3z hE hr hl
    obtain ⟨ls, g1, g2⟩ := b2X hr.m hl2 (b2e hrd) (fun j m e => by rw [hmt', Nat.zero_add]; exact e)
    obtain ⟨bs, h3, _⟩ := a89 (fz := fz) hr.m (x := p.1) (ns := p.2) (fun e b hb => by
     rw [hr.m.emt.2] at hb
     unfold b96 at hb
     rw [e, Bool.true_and] at hopen
     rw [if_pos ⟨e, hopen⟩] at hb
     exact hb) hp (a52 h1 g1)
    have hbel := hr.m.below
    rw [hmt'] at hbel
    exact ⟨_, h2, us, ls, bs, rfl, h3, g2, hbel⟩
   ·cases hk
  ·cases hk
 ·cases hk
theorem b7y (hE : E.Ok P) (hmix : P.follows .mixedOrders = true) {f : FuncId} {fn : Func} (hf : P.funcs[f]? = some fn) {H : Hints} {ks rs : List Kd} {g : Ds ks → Option (Rs rs)} (hg : ∀ x r, g x = some r → ∃ n, c1P E H n fn ks rs x = some r) :
  i0 P f ⟨ks, rs, g⟩ := by
 intro ok fz x vs w hfz hrd hap r hx
 obtain ⟨n, hx⟩ := hg x r hx
 unfold c1P at hx
 split at hx
 ·rename_i c hb
  obtain ⟨ρ, hmt, hr⟩ := b8q (fn := fn) (b96 ks rs ok fz) hfz (b97 hfz) b98 hrd hap
  refine calls_of_wp_defers hf hb (k9 hE hmix H n c hr hx ?_)
  intro e st' ρ' a' w' _ hr' hk
  split at hk
  ·rename_i st2 he
   exact a8F hE hr' he fun ρ2 w2 _ hr2 => b8d hE hrd hr2 hk
  ·cases hk
 ·cases hx
theorem b2T {mem : List Slot} (hm : MRel ρ B w0 mem w) {args : List TV} {vs : List Value} (hl : args.length = vs.length) (hrel : ∀ (i : Nat) (x : TV) (u : Value), args[i]? = some x → vs[i]? = some u → TV.rel ρ x u) (n : Nat) :
  Rel ρ B w0 { tmps := args ++ List.replicate (n - args.length) (.one .any), mem := mem } { tmps := vs.toArray ++ Array.replicate (n - vs.toArray.size) undef, defers := [] } w := by
 refine ⟨by simp [hl], fun i v hv => ?_, hm, rfl⟩
 simp only [List.getElem?_append] at hv
 split at hv
 ·rename_i hlt
  have hlt2 : i < vs.length := by omega
  have := hrel i v vs[i] hv (List.getElem?_eq_getElem hlt2)
  rw [Array.getD_eq_getD_getElem?, Array.getElem?_append_left (by simpa using hlt2)]
  simpa [hlt2] using this
 ·rw [List.getElem?_replicate] at hv
  split at hv
  ·cases hv; trivial
  ·cases hv
theorem b6o (hE : E.Ok P) (hmix : P.follows .mixedOrders = true) {f : FuncId} {fn : Func} (hf : P.funcs[f]? = some fn) (n : Nat) (hJ : ∀ (β : Type) (args : List TV) (mem : List Slot) (K1 K2 : IR → Option β) (r : β), (∀ x, K1 x = some r → K2 x = some r) → b9f E n fn β args mem K1 = some r → b9f E n fn β args mem K2 = some r) :
  Y4 P f ⟨b9f E n fn, hJ⟩ := by
 intro β ρ B w0 mem w args vs K r R hl hrel hm hx hret hpan
 have hx : b9f E n fn β args mem K = some r := hx
 unfold b9f at hx
 split at hx
 ·rename_i c hb
  refine calls_of_wp_defers hf hb (k9 hE hmix [] n c (b2T hm hl hrel fn.ntmps) hx ?_)
  intro e st' ρ' a' w' hle hr' hk
  have hle := hle rfl
  split at hk
  ·rename_i st2 he
   split at hk
   ·rename_i l hl2
    refine a8F hE hr' he fun ρ2 w2 hl3 hr2 => ?_
    obtain ⟨us, h1, h2⟩ := a3z hE hr2 hl2
    exact ⟨_, h2, hret ρ2 w2 l us st2.mem (hle.trans hl3) hr2.m h1 hk⟩
   ·cases hk
  ·rename_i p he
   exact a8F hE hr' he (hpan ρ' w' p.1 p.2 st'.mem hle hr'.m hk)
  ·cases hk
 ·cases hx
def c2g : Option (Py × Int) → Value
 | none => .nilIface
 | some (p, n) => p.val n
theorem b9w (p : Option (Py × Int)) : A1.rel ρ (c2n p) (c2g p) := by
 cases p with
 | none => exact (rfl : Value.nilIface = .nilIface)
 | some p =>
  obtain ⟨p, n⟩ := p
  cases p with
  | ifi t k => exact (rfl : Value.iface t (.int k n) = .iface t (.int k n))
  | ifg t k => exact (rfl : Value.iface t (.agg #[.int k n]) = .iface t (.agg #[.int k n]))
theorem b6q {o : Oper} (h : c0q o = true) (a : Act) (w : World) : o.guard = none ∧ (execOp a.eval o).run P w = .ok .recover w := by
 unfold c0q at h
 rw [Bool.and_eq_true] at h
 obtain ⟨h1, h2⟩ := h
 refine ⟨by simpa using h1, ?_⟩
 split at h2
 ·rename_i args ats ho
  have he : args = #[] := by
   apply Array.ext'
   simpa using h2
  subst he
  simp [execOp, ho, resolve, invoke, builtin]
 ·cases h2
theorem b58 {o : Oper} {x : Operand} (h : b99 o = some x) (a : Act) (w : World) : o.guard = none ∧ (execOp a.eval o).run P w = .ok (.value (a.eval x)) w := by
 unfold b99 at h
 split at h
 ·rename_i y hg ho
  cases h
  exact ⟨hg, by simp [execOp, ho]⟩
 ·cases h
theorem b2C : ∀ {xs : List A1} {vs : List Value}, b2B ρ xs vs → xs.length = vs.length ∧ ∀ (i : Nat) (x : TV) (u : Value), (xs.map fun a => TV.one (.sc a))[i]? = some x → vs[i]? = some u → TV.rel ρ x u
 | [], _, h => by
  have h : _ = [] := h
  subst h
  exact ⟨rfl, fun i x u h => by simp at h⟩
 | y :: r, _, ⟨v, vs', h1, h2, h3⟩ => by
  subst h1
  obtain ⟨q1, q2⟩ := b2C h3
  refine ⟨by simp [q1], fun i x u e1 e2 => ?_⟩
  cases i with
  | zero => cases e1; cases e2; exact h2
  | succ i => exact q2 i x u e1 e2
theorem b6h (hE : E.Ok P) (hmix : P.follows .mixedOrders = true) {f : FuncId} {fn : Func} (hf : P.funcs[f]? = some fn) (n : Nat) : b68 P f ⟨c1L E n fn⟩ := by
 intro ρ B w0 mem w p xs us mem' hxs hm hrun
 have hrun : c1L E n fn p xs mem = some mem' := hrun
 unfold c1L at hrun
 split at hrun
 ·rename_i id ops y hb
  split at hrun
  ·rename_i o1 o2 hops
   split at hrun
   ·rename_i x hrec hasg
    have hops' : ops = #[o1, o2] := by apply Array.ext'; rw [hops]
    subst hops'
    refine callsD_of_wpS hf hb fun c₀ cs hc => ?_
    refine wpS_seq (wpS_region ?_)
    have hl := b2C hxs
    have hst := b2T hm (by simpa using hl.1) hl.2 fn.ntmps
    rw [Array.toArray_toList] at hst
    have hlen : (xs.map fun a => TV.one (.sc a)).length = xs.length := List.length_map _
    rw [hlen] at hst
    generalize ha0 : ({ tmps := us ++ Array.replicate (fn.ntmps - us.size) undef, defers := [] } : Act) = a0 at hst ⊢
    obtain ⟨g1, g2⟩ := b6q (P := P) hrec a0 w
    have hr1 := hst.putA o1.dst (b9w (ρ := ρ) p)
    have hv := hr1.get x
    have hr2 := hr1.put o2.dst hv
    obtain ⟨k1, k2⟩ := b58 (P := P) hasg (a0.put o1.dst (c2g p)) w
    have done : wpOpsS P #[o1, o2] (Exit.thenS (y.wpS P (bodyPostS P fn c₀ cs fun e u' w' => (∃ v, e = .returned v) ∧ u' = a1U p ∧ ∃ ρ', ρ.le ρ' ∧ MRel ρ' B w0 mem' w')) (bodyPostS P fn c₀ cs fun e u' w' => (∃ v, e = .returned v) ∧ u' = a1U p ∧ ∃ ρ', ρ.le ρ' ∧ MRel ρ' B w0 mem' w')) [1] (a0.put o1.dst (c2g p)) ({ c₀ with mode := a1U p } :: cs) w := by
     have e1 : (#[o1, o2] : Array Oper)[1]? = some o2 := rfl
     simp only [wpOpsS, e1, Region.wanted, k1, k2, if_true, Oper.upon]
     refine wpS_of_wp (k9 hE hmix [] n y hr2 hrun ?_)
     intro e st' ρ' a' w' hle hr' hk
     have hle := hle rfl
     have fin : st'.dfr = [] → ∀ l, a53 E st' fn.results.toList = some l → some st'.mem = some mem' → a'.defers = [] ∧ ∃ u', ({ c₀ with mode := a1U p } :: cs : List Frame) = { c₀ with mode := u' } :: cs ∧ ∃ v, (results fn a'.tmps).run P w' = .ok v w' ∧ ((∃ v', Ending.returned v = .returned v') ∧ u' = a1U p ∧ ∃ ρ', ρ.le ρ' ∧ MRel ρ' B w0 mem' w') := by
      intro hd l hl hm2
      cases hm2
      have hd2 := hr'.defers
      rw [hd] at hd2
      have hd2 : a'.defers = [] := hd2
      obtain ⟨us, _, hv2⟩ := a3z hE hr' hl
      exact ⟨hd2, _, rfl, _, hv2, ⟨_, rfl⟩, rfl, ρ', hle, hr'.m⟩
     cases e with
     | normal =>
      split at hk
      ·rename_i h1 h2 h3; exact fin h2 _ h3 hk
      ·rename_i h1 h2 h3; cases h1
      ·cases hk
     | ret =>
      split at hk
      ·rename_i h1 h2 h3; cases h1
      ·rename_i h1 h2 h3; exact fin h2 _ h3 hk
      ·cases hk
     | exit id => split at hk <;> first | (cases hk; done) | (rename_i h1 h2 h3; cases h1)
     | pan p' m' => split at hk <;> first | (cases hk; done) | (rename_i h1 h2 h3; cases h1)
    have e0 : List.range (#[o1, o2] : Array Oper).size = [0, 1] := rfl
    rw [e0]
    have e1 : (#[o1, o2] : Array Oper)[0]? = some o1 := rfl
    unfold wpOpsS
    simp only [e1, Region.wanted, g1, g2, if_true]
    cases p with
    | none =>
     have hc : c₀.mode = .returning := hc
     have hrd : recoverD (c₀ :: cs) = none := by simp [recoverD, hc]
     rw [hrd]
     have hcc : ({ c₀ with mode := a1U none } : Frame) = c₀ := by
      show ({ c₀ with mode := FrameMode.returning } : Frame) = c₀
      rw [← hc]
     rw [hcc] at done
     exact done
    | some p =>
     obtain ⟨p, m⟩ := p
     have hc : c₀.mode = .panicking [{ v := p.val m, recovered := false }] := hc
     have hrd : recoverD (c₀ :: cs) = some (p.val m, { c₀ with mode := .panicking [{ v := p.val m, recovered := true }] } :: cs) := by simp [recoverD, hc]
     rw [hrd]
     exact done
   ·cases hrun
  ·cases hrun
 ·cases hrun
end
end Go.Ax
