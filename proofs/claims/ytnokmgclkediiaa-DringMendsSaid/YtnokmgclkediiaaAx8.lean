/- A part of the proof: Ax8. -/
import Derived.Test.YtnokmgclkediiaaAx7
/-! ### Each operation: what the evaluator says is what the machine does -/
namespace Go.Ax
open Go.RowKit

variable {P : Program}
section
variable {ρ : Env} {B : Nat} {w0 : World} {st st' : St} {a : Act} {w : World}

/-- The machine's step fits the evaluator's. -/
def FitsV (P : Program) (ρ : Env) (B : Nat) (w0 : World) (st' : St) (o : Oper) (a : Act) (w : World) : Prop :=
  ∃ v w' ρ', (execOp a.eval o).run P w = .ok (.value v) w' ∧ ρ.le ρ' ∧ Rel ρ' B w0 st' (a.put o.dst v) w'

theorem Rel.alloc (hr : Rel ρ B w0 st a w) {nm : Nat} {segs : List Seg} {C post : List Value} (hs : segRel ρ segs C) {st1 : St} (hn : st.new nm { segs, own := true } = some st1) (t : TypeId) {cs : Array Value}
    (hcs : cs.toList = C ++ post) {size cap es : Nat} (hC : C.length = size * es) (hcap : cs.size = cap * es) (hle : size ≤ cap) :
    ρ.le (ρ.set nm { a := some (w.heap.size, 0), adr := some ⟨w.heap.size, 0, none⟩, size, cap, es }) ∧ Rel (ρ.set nm { a := some (w.heap.size, 0), adr := some ⟨w.heap.size, 0, none⟩, size, cap, es }) B w0 st1 a (w.alloc (.cells cs t)) ∧ st1.tmps = st.tmps := by
  unfold St.new at hn
  split at hn
  · rename_i hf
    cases hn
    have hm := hr.m.grow (w' := w.alloc (.cells cs t)) ((Below.refl _ _).alloc (Nat.le_refl _) _)
    have hnone : ρ nm = none := hm.free nm (.inr hf)
    have hle' := Env.le_set hnone { a := some (w.heap.size, 0), adr := some ⟨w.heap.size, 0, none⟩, size, cap, es }
    obtain ⟨h1, h2⟩ := hm.add hf (b := { segs, own := true }) (l := { a := some (w.heap.size, 0), adr := some ⟨w.heap.size, 0, none⟩, size, cap, es })
      (fun x o b' l' y hx hb hl hy => by
        cases hx
        have := hr.m.lt hb hl hy
        simp only
        omega)
      (fun x hx => by cases hx; exact hr.m.size)
      ⟨_, C, if_pos rfl, segRel_le hle' hs, hC, hle, cs, t, (0, 0), [], post, heap_alloc_new w _, by simpa using hcs, rfl, fun _ => ⟨rfl, hcap, .inr (Nat.le_refl _), rfl⟩⟩
    exact ⟨h1, hr.le h1 h2, rfl⟩
  · cases hn

theorem Rel.putA (hr : Rel ρ B w0 st a w) (dst : Option Tmp) {x : A1} {v : Value} (h : A1.rel ρ x v) : Rel ρ B w0 (st.putA dst x) (a.put dst v) w := hr.put dst (v := .one (.sc x)) h

theorem sound_newPtr (hr : Rel ρ B w0 st a w) {nm : Nat} {dst : Option Tmp} {l : List Seg} (h : (newPtr st nm dst l).val = some st') {cs : Array Value} (hs : segRel ρ l cs.toList) (t : TypeId) :
    ∃ ρ', ρ.le ρ' ∧ Rel ρ' B w0 st' (a.put dst (.pointer (some ⟨w.heap.size, 0, none⟩))) (w.alloc (.cells cs t)) := by
  unfold newPtr at h
  split at h
  · rename_i st1 hn
    rw [T.val_ret] at h
    subst h
    obtain ⟨h1, h2, _⟩ := hr.alloc hs hn t (cs := cs) (post := []) (by simp) (size := 1) (cap := 1) (es := cs.size) (by simp) (by simp) (Nat.le_refl _)
    exact ⟨_, h1, h2.putA dst ⟨_, _, _, if_pos rfl, rfl, by simp⟩⟩
  · simp [T.val_fail] at h

theorem sound_newVec (hr : Rel ρ B w0 st a w) {nm : Nat} {dst : Option Tmp} {l : List Seg} {len es : Nat} (h : (newVec st nm dst l len es).val = some st') {C post : List Value} {cs : Array Value} (hcs : cs.toList = C ++ post)
    (hs : segRel ρ l C) (hC : C.length = len * es) {cap : Nat} (hcap : cs.size = cap * es) (hle : len ≤ cap) (t : TypeId) :
    ∃ ρ', ρ.le ρ' ∧ Rel ρ' B w0 st' (a.put dst (.slice (some ⟨w.heap.size, 0, none⟩) len cap)) (w.alloc (.cells cs t)) := by
  unfold newVec at h
  split at h
  · rename_i st1 hn
    rw [T.val_ret] at h
    subst h
    obtain ⟨h1, h2, _⟩ := hr.alloc hs hn t hcs hC hcap hle
    refine ⟨_, h1, h2.putA dst ⟨_, if_pos rfl, rfl, rfl, rfl, hle, (fun h => by cases h), fun _ => rfl⟩⟩
  · simp [T.val_fail] at h

theorem AV.rel_agg_of_segs {x : TV} {v : Value} {l : List Seg} (h : segsOf x = some l) (hr : TV.rel ρ x v) : segRel ρ l v.cells.toList := by
  unfold segsOf at h
  split at h
  · cases h
    have hr' : A1.rel ρ _ v := hr
    rw [AV.cells_sc hr']
    exact ⟨v, [], rfl, hr', rfl⟩
  · cases h
    obtain ⟨cs, rfl, h2⟩ := hr
    simpa [Value.cells] using h2
  · cases h

theorem sound_box {E : AE} {nm : Nat} {o : Oper} {t : TypeId} {x : Operand} (ho : o.op = .box t x) (hr : Rel ρ B w0 st a w) (h : (step E nm o st).val = some st') : FitsV P ρ B w0 st' o a w := by
  simp only [step, ho] at h
  split at h
  · rename_i l hl
    obtain ⟨ρ', h1, h2⟩ := sound_newPtr hr h (cs := (a.eval x).cells) (AV.rel_agg_of_segs hl (hr.get x)) t
    exact ⟨_, _, ρ', by simp [execOp, ho, Instr.box, newVar, newRow, newObj, Sem.run, Result.andThen], h1, h2⟩
  · simp [T.val_fail] at h

theorem sound_alloc {E : AE} (hE : ∀ t i, E.ty t = some i → TyOk P t i) {nm : Nat} {o : Oper} {t : TypeId} (ho : o.op = .alloc t) (hr : Rel ρ B w0 st a w) (h : (step E nm o st).val = some st') : FitsV P ρ B w0 st' o a w := by
  simp only [step, ho] at h
  split at h
  · rename_i ti ht
    obtain ⟨z, h1, h2, _⟩ := (hE t ti ht).run_zero w
    obtain ⟨ρ', h3, h4⟩ := sound_newPtr hr h (cs := z.cells) (segRel_none h2) t
    exact ⟨_, _, ρ', by simp [execOp, ho, Instr.alloc, h1, newVar, newRow, newObj, Sem.run, Result.andThen], h3, h4⟩
  · simp [T.val_fail] at h

theorem sound_move {E : AE} {nm : Nat} {o : Oper} {x : Operand} (ho : o.op = .move x ∨ o.op = .assign x) (hr : Rel ρ B w0 st a w) (h : (step E nm o st).val = some st') : FitsV P ρ B w0 st' o a w := by
  have h' : st.put o.dst (st.get x) = st' := by
    rcases ho with ho | ho <;> · simp only [step, ho, T.val_ret] at h; exact h
  subst h'
  exact ⟨_, _, ρ, by rcases ho with ho | ho <;> simp [execOp, ho], .refl ρ, hr.put o.dst (hr.get x)⟩

theorem sound_pick {E : AE} {nm : Nat} {o : Oper} {c x y : Operand} (ho : o.op = .pick c x y) (hr : Rel ρ B w0 st a w) (h : (step E nm o st).val = some st') : FitsV P ρ B w0 st' o a w := by
  have hc := hr.get c
  have key : ∀ b : Bool, a.eval c = .bool b → st.put o.dst (st.get (if b then x else y)) = st' → FitsV P ρ B w0 st' o a w := by
    intro b hb hst
    subst hst
    refine ⟨a.eval (if b then x else y), w, ρ, ?_, .refl ρ, hr.put o.dst (hr.get _)⟩
    simp only [execOp, ho, hb, asBool]
    cases b <;> simp
  simp only [step, ho] at h
  split at h
  · rename_i e
    rw [e] at hc
    rw [T.val_ret] at h
    exact key true hc h
  · rename_i e
    rw [e] at hc
    rw [T.val_ret] at h
    exact key false hc h
  · rename_i p d e
    rw [e] at hc
    rw [T.val_ite] at h
    rcases h with ⟨hp, h⟩ | ⟨hp, h⟩
    · rw [T.val_ret] at h
      exact key true (by have := hc; simp only [TV.rel, AV.rel, A1.rel, hp, decide_true] at this; exact this) h
    · rw [T.val_ret] at h
      exact key false (by have := hc; simp only [TV.rel, AV.rel, A1.rel, hp, decide_false] at this; exact this) h
  · simp [T.val_fail] at h

theorem sound_load {E : AE} (hE : ∀ t i, E.ty t = some i → TyOk P t i) {nm : Nat} {o : Oper} {t : TypeId} {x : Operand} (ho : o.op = .load t x) (hr : Rel ρ B w0 st a w) (h : (step E nm o st).val = some st') : FitsV P ρ B w0 st' o a w := by
  have hx := hr.get x
  simp only [step, ho] at h
  split at h
  · rename_i ob b i e
    rw [e] at hx
    simp only [T.val_bind_iff, T.val_ret] at h
    obtain ⟨v, h1, rfl⟩ := h
    obtain ⟨p, c, q1, q2, q3⟩ := loadT_spec hE hr h1 hx
    exact ⟨c, w, ρ, by simp [execOp, ho, Instr.loadAt, Instr.sureAddr, q1, q2, Result.andThen], .refl ρ, hr.put o.dst (v := .one v) q3⟩
  · simp [T.val_fail] at h

theorem sound_nilCheck {E : AE} {nm : Nat} {o : Oper} {x : Operand} (ho : o.op = .nilCheck x) (hr : Rel ρ B w0 st a w) (h : (step E nm o st).val = some st') : FitsV P ρ B w0 st' o a w := by
  have hx := hr.get x
  simp only [step, ho] at h
  split at h
  · rename_i ob b i e
    rw [e] at hx
    rw [T.val_ret] at h
    subst h
    have hx' := hx
    obtain ⟨l, blk, f, h1, h2, h3⟩ := hx'
    exact ⟨_, w, ρ, by simp [execOp, ho, h3], .refl ρ, hr.putA o.dst ⟨l, blk, f, h1, h2, rfl⟩⟩
  · simp [T.val_fail] at h

theorem sound_extract {E : AE} {nm : Nat} {o : Oper} {x : Operand} {j : Nat} (ho : o.op = .extract x j) (hr : Rel ρ B w0 st a w) (h : (step E nm o st).val = some st') : FitsV P ρ B w0 st' o a w := by
  have hx := hr.get x
  simp only [step, ho] at h
  split at h
  · rename_i l e
    rw [e] at hx
    obtain ⟨vs, h1, h2⟩ := hx
    split at h
    · rename_i y hy
      rw [T.val_ret] at h
      subst h
      have : ∀ (l : List AV) (vs : List Value) (j : Nat) (y : AV), relAll ρ l vs → l[j]? = some y → ∃ v, vs[j]? = some v ∧ AV.rel ρ y v := by
        intro l
        induction l with
        | nil => intro vs j y _ h; cases h
        | cons a r ih =>
          intro vs j y ⟨v, vs', e1, e2, e3⟩ hj
          subst e1
          cases j with
          | zero => cases hj; exact ⟨v, rfl, e2⟩
          | succ j => exact ih vs' j y e3 (by simpa using hj)
      obtain ⟨v, q1, q2⟩ := this l vs j y h2 hy
      exact ⟨v, w, ρ, by simp [execOp, ho, Instr.extract, h1, q1], .refl ρ, hr.put o.dst (v := .one y) q2⟩
    · simp [T.val_fail] at h
  · simp [T.val_fail] at h

theorem fieldOf_spec {E : AE} (hE : ∀ t i, E.ty t = some i → TyOk P t i) {t : TypeId} {f off : Nat} {ft : TypeId} (h : fieldOf E t f = some (off, ft)) :
    ∃ fields : Array Field, ∃ g : Field, P.underlying t = some (.struct fields) ∧ fields[f]? = some g ∧ g.offset = off ∧ g.type = ft := by
  unfold fieldOf at h
  split at h
  · rename_i fs ht
    obtain ⟨d, h1, h2⟩ := (hE t _ ht).desc
    simp only [TD.is] at h2
    obtain ⟨fields, rfl, h3⟩ := h2
    rw [← h3, List.getElem?_map, Option.map_eq_some_iff] at h
    obtain ⟨g, h4, h5⟩ := h
    cases h5
    exact ⟨fields, g, h1, by rw [← Array.getElem?_toList]; exact h4, rfl, rfl⟩
  · cases h
end
end Go.Ax
