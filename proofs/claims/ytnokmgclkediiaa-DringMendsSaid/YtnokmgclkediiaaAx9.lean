/- A part of the proof: Ax9. -/
import Derived.Test.YtnokmgclkediiaaAx8
/-! ### Each operation, more -/
namespace Go.Ax
open Go.RowKit

variable {P : Program}
section
variable {ρ : Env} {B : Nat} {w0 : World} {st st' : St} {a : Act} {w : World}

theorem beq_f {a b : Nat} (h : Nat.beq a b = false) : a ≠ b := Nat.ne_of_beq_eq_false h

theorem sound_fieldAddr {E : AE} (hE : ∀ t i, E.ty t = some i → TyOk P t i) {nm : Nat} {o : Oper} {t : TypeId} {x : Operand} {f : Nat} (ho : o.op = .fieldAddr t x f) (hr : Rel ρ B w0 st a w) (h : (step E nm o st).val = some st') : FitsV P ρ B w0 st' o a w := by
  have hx := hr.get x
  simp only [step, ho] at h
  split at h
  · rename_i ob b i off ft e hf
    rw [e] at hx
    obtain ⟨fields, g, h1, h2, h3, h4⟩ := fieldOf_spec hE hf
    split at h
    · rename_i ti _ _ _ _ ht
      split at h
      · rename_i hz
        rw [T.val_ret] at h
        subst h
        obtain ⟨l, blk, of0, k1, k2, k3⟩ := hx
        have hs := (hE ft _ ht).run_size w
        have hne : ¬ _ = 0 := beq_f hz
        refine ⟨_, w, ρ, ?_, .refl ρ, hr.putA o.dst ⟨l, blk, of0, k1, k2, rfl⟩⟩
        simp only [execOp, ho, Instr.fieldAt, Sem.run_bind, run_underlying h1, Result.andThen_ok, h2, k3, Instr.sureAddr, Sem.run_pure, fieldPlace, h4, hs, hne, if_false, Addr.add_lit, h3]
        congr 5
        omega
      · simp [T.val_fail] at h
    · simp [T.val_fail] at h
  · simp [T.val_fail] at h

theorem partT_spec {ti : TyI} {t : TypeId} (hk : TyOk P t ti) {l : List Seg} {b : Nat} {i : Option Nat} {x : AV} (h : (partT ti l b i).val = some x) {cs : List Value} (hr : segRel ρ l cs) (w : World) :
    ∃ v, (part t cs.toArray (b + i.getD 0)).run P w = .ok v w ∧ AV.rel ρ x v := by
  unfold partT at h
  split at h
  · rename_i hagg
    simp only [T.val_bind_iff, T.val_ret] at h
    obtain ⟨l', k1, rfl⟩ := h
    obtain ⟨q1, q2⟩ := readAgg_spec k1 hr
    refine ⟨.agg (cs.toArray.extract (b + i.getD 0) (b + i.getD 0 + ti.size)), by simp only [part, Sem.run_bind, hk.agg_iff w, hagg, Result.andThen_ok, if_true, hk.run_size w, Sem.run_pure], _, ?_, q1⟩
    congr 1
    apply Array.ext'
    simp [List.extract]
  · rename_i hagg
    simp only [T.val_bind_iff, T.val_ret] at h
    obtain ⟨a', k1, rfl⟩ := h
    obtain ⟨c, q1, q2⟩ := readAt_spec k1 hr
    exact ⟨c, by simp [part, hk.agg_iff w, hagg, q1], q2⟩

theorem sound_field {E : AE} (hE : ∀ t i, E.ty t = some i → TyOk P t i) {nm : Nat} {o : Oper} {t : TypeId} {x : Operand} {f : Nat} (ho : o.op = .field t x f) (hr : Rel ρ B w0 st a w) (h : (step E nm o st).val = some st') : FitsV P ρ B w0 st' o a w := by
  have hx := hr.get x
  simp only [step, ho] at h
  split at h
  · rename_i l off ft e hf
    rw [e] at hx
    obtain ⟨cs, k1, k2⟩ := hx
    obtain ⟨fields, g, h1, h2, h3, h4⟩ := fieldOf_spec hE hf
    split at h
    · rename_i ti ht
      simp only [T.val_bind_iff, T.val_ret] at h
      obtain ⟨y, q1, rfl⟩ := h
      obtain ⟨v, q2, q3⟩ := partT_spec (hE ft ti ht) q1 k2 w
      refine ⟨v, w, ρ, ?_, .refl ρ, hr.put o.dst (v := .one y) q3⟩
      simp only [Option.getD_none, Nat.add_zero] at q2
      simp [execOp, ho, Instr.field, run_underlying h1, h2, k1, asAgg, h4, h3, q2]
    · simp [T.val_fail] at h
  · simp [T.val_fail] at h

theorem asI_rel {x : TV} {k : IntKind} {n : Int} {v : Value} (h : asI x = some (k, n)) (hr : TV.rel ρ x v) : v = .int k n := by
  unfold asI at h
  split at h
  · cases h; exact hr
  · cases h

theorem sound_indexAddr {E : AE} (hE : ∀ t i, E.ty t = some i → TyOk P t i) {nm : Nat} {o : Oper} {t : TypeId} {x ix : Operand} (ho : o.op = .indexAddr t x ix) (hr : Rel ρ B w0 st a w) (h : (step E nm o st).val = some st') : FitsV P ρ B w0 st' o a w := by
  have hx := hr.get x
  have hi := hr.get ix
  simp only [step, ho] at h
  unfold indexAddrT at h
  split at h
  · rename_i n e _ _ _ ob b i kj j ht hp hj
    rw [hp] at hx
    have hiv := asI_rel hj hi
    obtain ⟨d, hd, hdd⟩ := (hE t _ ht).desc
    simp only [TD.is] at hdd
    subst hdd
    obtain ⟨l, blk, of0, k1, k2, k3⟩ := hx
    split at h
    · rename_i te hte
      have hs := (hE e te hte).run_size w
      have fin : ∀ (y : A1), 0 ≤ j → j < (n : Int) → A1.rel ρ y (.pointer (some ⟨blk, of0 + (b + i.getD 0) + j.toNat * te.size, none⟩)) → FitsV P ρ B w0 (st.putA o.dst y) o a w := by
        intro y h0 h1 hy
        refine ⟨_, w, ρ, ?_, .refl ρ, hr.putA o.dst hy⟩
        have hc : (0 ≤ j ∧ j < (n : Int)) := ⟨h0, h1⟩
        simp [execOp, ho, Instr.indexAt, hiv, asIntOf, run_underlying hd, k3, Instr.sureAddr, hc, hs, Addr.add_lit]
      split at h
      · split at h
        · rename_i hdec
          have hdec := of_decide_eq_true hdec
          rw [T.val_ret] at h
          subst h
          exact fin _ hdec.1 hdec.2 ⟨l, blk, of0, k1, k2, by congr 3; omega⟩
        · simp [T.val_fail] at h
      · simp only [T.val_ite, T.val_ret, T.val_fail, and_false, or_false] at h
        obtain ⟨h0, h1, rfl⟩ := h
        exact fin _ h0 h1 ⟨l, blk, of0, k1, k2, by rw [addI_eq, mulN_eq, Option.getD_some]; congr 3; omega⟩
    · simp [T.val_fail] at h
  · rename_i e _ _ _ ob len es kj j ht hp hj
    rw [hp] at hx
    have hiv := asI_rel hj hi
    obtain ⟨d, hd, hdd⟩ := (hE t _ ht).desc
    simp only [TD.is] at hdd
    subst hdd
    obtain ⟨l, k1, k2, k3, k4, k5, k6, k7⟩ := hx
    split at h
    · rename_i te hte
      have hs := (hE e te hte).run_size w
      simp only [T.val_ite, T.val_ret, T.val_fail, and_false, or_false] at h
      obtain ⟨h0, h1, rfl⟩ := h
      cases ha : l.a with
      | none => have := k6 ha; omega
      | some p =>
        obtain ⟨blk, of0⟩ := p
        refine ⟨.pointer (some ⟨blk, of0 + j.toNat * te.size, none⟩), w, ρ, ?_, .refl ρ, hr.putA o.dst ⟨l, blk, of0, k1, ha, by rw [mulN_eq]; simp⟩⟩
        have hc : (0 ≤ j ∧ j < (l.size : Int)) := ⟨h0, by omega⟩
        have k8 := k7 (by omega)
        simp [execOp, ho, Instr.indexAt, hiv, asIntOf, run_underlying hd, k4, k8, Loc.addr, ha, hc, hs, Addr.add_lit]
    · simp [T.val_fail] at h
  · rename_i e _ _ _ ob off len cap es kj j ht hp hj
    rw [hp] at hx
    have hiv := asI_rel hj hi
    obtain ⟨d, hd, hdd⟩ := (hE t _ ht).desc
    simp only [TD.is] at hdd
    subst hdd
    obtain ⟨l, a0, c, k1, k2, k3, k4, _, k5⟩ := hx
    split at h
    · rename_i te hte
      have hs := (hE e te hte).run_size w
      simp only [T.val_ite, T.val_ret, T.val_fail, and_false, or_false] at h
      obtain ⟨h0, h1, rfl⟩ := h
      obtain ⟨blk, of0, k6, k7⟩ := k5 (by omega)
      subst k7
      refine ⟨.pointer (some ⟨blk, of0 + off + j.toNat * te.size, none⟩), w, ρ, ?_, .refl ρ, hr.putA o.dst ⟨l, blk, of0, k1, k6, by rw [addN_eq, mulN_eq, Option.getD_some]; congr 3; omega⟩⟩
      have hc : (0 ≤ j ∧ j < (len : Int)) := ⟨h0, h1⟩
      simp [execOp, ho, Instr.indexAt, hiv, asIntOf, run_underlying hd, k2, hc, hs, Addr.add_lit]
    · simp [T.val_fail] at h
  · simp [T.val_fail] at h

theorem sound_index {E : AE} (hE : ∀ t i, E.ty t = some i → TyOk P t i) {nm : Nat} {o : Oper} {t : TypeId} {x ix : Operand} (ho : o.op = .index t x ix) (hr : Rel ρ B w0 st a w) (h : (step E nm o st).val = some st') : FitsV P ρ B w0 st' o a w := by
  have hx := hr.get x
  have hi := hr.get ix
  simp only [step, ho] at h
  unfold indexT at h
  split at h
  · rename_i n e _ _ _ l kj j ht hp hj
    rw [hp] at hx
    have hiv := asI_rel hj hi
    obtain ⟨d, hd, hdd⟩ := (hE t _ ht).desc
    simp only [TD.is] at hdd
    subst hdd
    obtain ⟨cs, k1, k2⟩ := hx
    split at h
    · rename_i te hte
      have hs := (hE e te hte).run_size w
      have fin : ∀ (b : Nat) (i : Option Nat) (y : AV), (partT te l b i).val = some y → b + i.getD 0 = j.toNat * te.size → 0 ≤ j → j < (n : Int) → FitsV P ρ B w0 (st.put o.dst (.one y)) o a w := by
        intro b i y hy hb h0 h1
        obtain ⟨v, q2, q3⟩ := partT_spec (hE e te hte) hy k2 w
        rw [hb] at q2
        refine ⟨v, w, ρ, ?_, .refl ρ, hr.put o.dst (v := .one y) q3⟩
        have hc : (0 ≤ j ∧ j < (n : Int)) := ⟨h0, h1⟩
        simp [execOp, ho, Instr.index, hiv, asIntOf, run_underlying hd, k1, hc, hs, q2]
      split at h
      · split at h
        · rename_i hdec
          have hdec := of_decide_eq_true hdec
          simp only [T.val_bind_iff, T.val_ret] at h
          obtain ⟨y, q1, rfl⟩ := h
          exact fin _ _ _ q1 (by simp) hdec.1 hdec.2
        · simp [T.val_fail] at h
      · simp only [T.val_ite, T.val_bind_iff, T.val_ret, T.val_fail, and_false, or_false] at h
        obtain ⟨h0, h1, y, q1, rfl⟩ := h
        exact fin _ _ _ q1 (by simp [mulN_eq]) h0 h1
    · simp [T.val_fail] at h
  · rename_i _ _ _ s kj j ht hp hj
    rw [hp] at hx
    have hiv := asI_rel hj hi
    obtain ⟨d, hd, hdd⟩ := (hE t _ ht).desc
    simp only [TD.is] at hdd
    subst hdd
    simp only [T.val_ite, T.val_ret, T.val_fail, and_false, or_false] at h
    obtain ⟨h0, h1, rfl⟩ := h
    have hx' : a.eval x = .string s := hx
    have hlt : j.toNat < s.size := by omega
    have hg : s[j.toNat]? = some s[j.toNat] := by simp [hlt]
    have hb : ((s[j.toNat].toNat : Nat) : Int) = bt s j.toNat := by
      unfold bt
      congr 2
      rw [List.getD_eq_getElem?_getD, Array.getElem?_toList, Array.getElem?_eq_getElem (show j.toNat < s.data.size from hlt)]
      rfl
    refine ⟨.int .u8 (bt s j.toNat), w, ρ, ?_, .refl ρ, hr.putA o.dst rfl⟩
    rw [← hb]
    simp [execOp, ho, Instr.index, hiv, asIntOf, run_underlying hd, hx', h0, hg]
  · simp [T.val_fail] at h
end
end Go.Ax
