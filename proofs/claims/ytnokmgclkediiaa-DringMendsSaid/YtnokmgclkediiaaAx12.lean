/- A part of the proof: Ax12. -/
import Derived.Test.YtnokmgclkediiaaAx11
/-! ### Values put together; make; append; stores -/
namespace Go.Ax
open Go.RowKit

variable {P : Program}
section
variable {ρ : Env} {B : Nat} {w0 : World} {st st' : St} {a : Act} {w : World}

theorem fold_splice (off : Nat) : ∀ (vs : List Value) (k : Nat) (cells : Array Value), off + k + vs.length ≤ cells.size →
    ((vs.zipIdx k).foldl (fun (cs : Array Value) (p : Value × Nat) => cs.setIfInBounds (off + p.2) p.1) cells).toList = cells.toList.take (off + k) ++ vs ++ cells.toList.drop (off + k + vs.length)
  | [], k, cells, _ => by simp
  | v :: r, k, cells, h => by
    rw [List.zipIdx_cons, List.foldl_cons, fold_splice off r (k + 1) _ (by simp at h ⊢; omega)]
    have e := list_seg_step cells.toList (off + k) v r (by simp at h ⊢; omega)
    simpa [Array.toList_setIfInBounds, Nat.add_assoc, Nat.add_comm, Nat.add_left_comm] using e

theorem putPart_spec {ti : TyI} {t : TypeId} (hk : TyOk P t ti) {l l' : List Seg} {b : Nat} {v : TV} (h : (putPart ti l b v).val = some l') {x : Value} (hx : TV.rel ρ v x) {C : List Value} (hC : segRel ρ l C) :
    x.cells.size = ti.size ∧ b + ti.size ≤ C.length ∧ segRel ρ l' (C.take b ++ x.cells.toList ++ C.drop (b + ti.size)) := by
  unfold putPart at h
  split at h
  · rename_i l0 hagg
    split at h
    · rename_i hlen
      obtain ⟨D, rfl, hD⟩ := hx
      have hl : D.length = ti.size := by rw [segRel_len hD]; exact beq_t hlen
      obtain ⟨q1, q2⟩ := writeAgg_spec h hC hD hl
      exact ⟨by simp [Value.cells, hl], by simpa using q2, by simpa [Value.cells] using q1⟩
    · simp [T.val_fail] at h
  · rename_i a0 hagg
    have hx' : A1.rel ρ a0 x := hx
    obtain ⟨q1, q2⟩ := writeCell_spec hx' h hC
    have hs := hk.one hagg
    rw [AV.cells_sc hx']
    simp only [Option.getD_none, Nat.add_zero] at q1 q2
    rw [List.set_eq_take_append_cons_drop, if_pos q2] at q1
    exact ⟨by simp [hs], by omega, by rw [hs]; simpa using q1⟩
  · simp [T.val_fail] at h

theorem putParts_spec {E : AE} (hE : ∀ t i, E.ty t = some i → TyOk P t i) {pl : Nat → Option (Nat × TypeId)} {place : Nat → Option (Nat × Nat)} (hpl : ∀ j off t i, pl j = some (off, t) → E.ty t = some i → place j = some (off, i.size)) :
    ∀ {parts : List (Nat × TV)} {vs : List (Nat × Value)} {l l' : List Seg} {cells : Array Value}, parts.length = vs.length → (∀ (i : Nat) (p : Nat × TV) (q : Nat × Value), parts[i]? = some p → vs[i]? = some q → p.1 = q.1 ∧ TV.rel ρ p.2 q.2) →
      (putParts E pl l parts).val = some l' → segRel ρ l cells.toList → ∃ cells', Instr.fill place cells vs = some cells' ∧ segRel ρ l' cells'.toList ∧ cells'.size = cells.size
  | [], vs, l, l', cells, hl, _, h, hr => by
    have : vs = [] := List.eq_nil_of_length_eq_zero hl.symm
    subst this
    simp only [putParts, T.val_ret] at h
    subst h
    exact ⟨cells, rfl, hr, rfl⟩
  | (j, v) :: r, vs, l, l', cells, hl, hrel, h, hr => by
    cases vs with
    | nil => simp at hl
    | cons q qs =>
      obtain ⟨j', x⟩ := q
      obtain ⟨e1, e2⟩ := hrel 0 _ _ rfl rfl
      simp only at e1 e2
      subst e1
      simp only [putParts] at h
      split at h
      · rename_i off t hp
        split at h
        · rename_i ti ht
          simp only [T.val_bind_iff] at h
          obtain ⟨l1, h1, h2⟩ := h
          obtain ⟨s1, s2, s3⟩ := putPart_spec (hE t ti ht) h1 e2 hr
          rw [Array.length_toList] at s2
          have hfold := fold_splice off x.cells.toList 0 cells (by simp [s1]; omega)
          simp only [Nat.add_zero] at hfold
          have hlen : x.cells.toList.length = ti.size := by simp [s1]
          rw [hlen] at hfold
          have e : x.cells.zipIdx.foldl (fun (cs : Array Value) (p : Value × Nat) => cs.setIfInBounds (off + p.2) p.1) cells = (x.cells.toList.zipIdx 0).foldl (fun (cs : Array Value) (p : Value × Nat) => cs.setIfInBounds (off + p.2) p.1) cells := by
            rw [← Array.foldl_toList, Array.toList_zipIdx]
          rw [← hfold, ← e] at s3
          obtain ⟨c', g1, g2, g3⟩ := putParts_spec hE hpl (parts := r) (vs := qs) (by simpa using hl) (fun i p q a1 a2 => hrel (i + 1) p q (by simpa using a1) (by simpa using a2)) h2 s3
          refine ⟨c', ?_, g2, ?_⟩
          · simp only [Instr.fill, hpl j off t ti hp ht]
            rw [if_neg (by simp [s1]; omega)]
            exact g1
          · rw [g3]
            have : (x.cells.zipIdx.foldl (fun (cs : Array Value) (p : Value × Nat) => cs.setIfInBounds (off + p.2) p.1) cells).toList.length = cells.size := by
              rw [e, hfold]; simp; omega
            simpa using this
        · simp [T.val_fail] at h
      · simp [T.val_fail] at h

theorem parts_rel (hr : Rel ρ B w0 st a w) (parts : List (Nat × Operand)) : ∀ (i : Nat) (p : Nat × TV) (q : Nat × Value), (parts.map fun p => (p.1, st.get p.2))[i]? = some p → (parts.map fun p => (p.1, a.eval p.2))[i]? = some q → p.1 = q.1 ∧ TV.rel ρ p.2 q.2 := by
  intro i p q h1 h2
  rw [List.getElem?_map, Option.map_eq_some_iff] at h1 h2
  obtain ⟨y, e1, rfl⟩ := h1
  obtain ⟨z, e2, rfl⟩ := h2
  rw [e1] at e2
  cases e2
  exact ⟨rfl, hr.get y.2⟩

theorem mapM_places (f : Field → Nat) (w : World) : ∀ (l : List Field), (∀ g ∈ l, (sizeOf g.type).run P w = .ok (f g) w) →
    (l.toArray.mapM fun (g : Field) => (do pure (g.offset, ← sizeOf g.type) : Sem (Nat × Nat))).run P w = .ok (l.map fun g => (g.offset, f g)).toArray w := by
  intro l h
  have key : ∀ (l : List Field) (acc : Array (Nat × Nat)), (∀ g ∈ l, (sizeOf g.type).run P w = .ok (f g) w) →
      (l.foldlM (fun (acc : Array (Nat × Nat)) (g : Field) => (do pure (acc.push (← (do pure (g.offset, ← sizeOf g.type) : Sem (Nat × Nat)))) : Sem _)) acc).run P w = .ok (acc ++ (l.map fun g => (g.offset, f g)).toArray) w := by
    intro l
    induction l with
    | nil => intro acc _; simp
    | cons g r ih =>
      intro acc h
      have h1 := h g (by simp)
      simp only [List.foldlM_cons, Sem.run_bind, h1, Result.andThen_ok, Sem.run_pure]
      rw [ih _ (fun g' hg' => h g' (by simp [hg']))]
      congr 1
      apply Array.ext'
      simp
  have := key l #[] h
  rw [Array.mapM_eq_foldlM]
  simpa using this

theorem sound_build {E : AE} (hE : ∀ t i, E.ty t = some i → TyOk P t i) {nm : Nat} {o : Oper} {t : TypeId} {parts : Array (Nat × Operand)} (ho : o.op = .build t parts) (hr : Rel ρ B w0 st a w) (h : (step E nm o st).val = some st') : FitsV P ρ B w0 st' o a w := by
  simp only [step, ho] at h
  have hpar := parts_rel hr parts.toList
  have hps : (parts.map fun p => (p.1, a.eval p.2)).toList = parts.toList.map fun p => (p.1, a.eval p.2) := by simp
  split at h
  · rename_i n e _ _ zero ht
    obtain ⟨d, hd, hdd⟩ := (hE t _ ht).desc
    simp only [TD.is] at hdd
    subst hdd
    split at h
    · rename_i te hte
      simp only [T.val_bind_iff, T.val_ret] at h
      obtain ⟨l, h1, rfl⟩ := h
      obtain ⟨z, z1, z2, _⟩ := (hE t _ ht).run_zero w
      obtain ⟨c', g1, g2, _⟩ := putParts_spec hE (place := fun i => some (i * te.size, te.size)) (fun j off t' i e1 e2 => by cases e1; rw [hte] at e2; cases e2; rfl) (by simp) hpar h1 (segRel_none z2)
      refine ⟨.agg c', w, ρ, ?_, .refl ρ, hr.put o.dst (v := .one (.agg l)) ⟨c'.toList, by simp, g2⟩⟩
      simp only [execOp, ho, Instr.build, Sem.run_bind, z1, Result.andThen_ok, run_underlying hd, (hE e te hte).run_size w, hps, Sem.run_pure]
      rw [g1]
      rfl
    · simp [T.val_fail] at h
  · rename_i fs _ _ zero ht
    obtain ⟨d, hd, hdd⟩ := (hE t _ ht).desc
    simp only [TD.is] at hdd
    obtain ⟨fields, rfl, hfs⟩ := hdd
    split at h
    · simp [T.val_fail] at h
    · rename_i hall
      simp only [T.val_bind_iff, T.val_ret] at h
      obtain ⟨l, h1, rfl⟩ := h
      obtain ⟨z, z1, z2, _⟩ := (hE t _ ht).run_zero w
      have hsz : ∀ g ∈ fields.toList, ∃ i, E.ty g.type = some i := by
        intro g hg
        have := List.all_eq_true.1 hall (g.offset, g.type) (by rw [← hfs]; exact List.mem_map.2 ⟨g, hg, rfl⟩)
        exact Option.isSome_iff_exists.1 this
      let f : Field → Nat := fun g => ((E.ty g.type).map TyI.size).getD 0
      have hf : ∀ g ∈ fields.toList, (sizeOf g.type).run P w = .ok (f g) w := by
        intro g hg
        obtain ⟨i, hi⟩ := hsz g hg
        rw [(hE _ i hi).run_size w]
        simp [f, hi]
      have hm := mapM_places (P := P) f w fields.toList hf
      simp only [Array.toArray_toList] at hm
      obtain ⟨c', g1, g2, _⟩ := putParts_spec hE (place := fun j => ((fields.toList.map fun g => (g.offset, f g)).toArray)[j]?) (cells := z.cells) (fun j off t' i e1 e2 => by
          rw [← hfs, List.getElem?_map, Option.map_eq_some_iff] at e1
          obtain ⟨g, k1, k2⟩ := e1
          cases k2
          simp only [List.getElem?_toArray, List.getElem?_map, k1, Option.map_some, f, e2, Option.getD_some]) (by simp) hpar h1 (segRel_none z2)
      refine ⟨.agg c', w, ρ, ?_, .refl ρ, hr.put o.dst (v := .one (.agg l)) ⟨c'.toList, by simp, g2⟩⟩
      simp only [execOp, ho, Instr.build, Sem.run_bind, z1, Result.andThen_ok, run_underlying hd, hm, hps, g1, Sem.run_pure]
  · simp [T.val_fail] at h

theorem repS_spec' {n : Nat} {l l' : List Seg} {C : List Value} (h : repS n l = some l') (hr : segRel ρ l C) : ∃ x : Value, C = List.replicate C.length x ∧ segRel ρ l' (List.replicate (n * C.length) x) := by
  unfold repS at h
  split at h
  · rename_i k m zs
    split at h
    · rename_i hz
      cases h
      obtain ⟨h1, c', h2, h3⟩ := hr
      cases h3
      have e : zs = List.replicate m 0 := by
        rw [List.eq_replicate_iff]
        exact ⟨h1, fun b hb => by simpa using List.all_eq_true.1 hz b hb⟩
      rw [mulN_eq]
      have hC : C = List.replicate m (k.val 0) := by rw [h2, e]; simp
      refine ⟨k.val 0, by rw [hC]; simp, by simp, [], ?_, rfl⟩
      rw [hC]
      simp
    · cases h
  · cases h

theorem made_cells {z : Array Value} {x : Value} {n m : Nat} (hz : z.toList = List.replicate m x) (hn : n * m ≠ 0) : ((Array.range (n * m)).map fun i => z[i % z.size]!) = (List.replicate (n * m) x).toArray := by
  have hm : z.size = m := by rw [← Array.length_toList, hz]; simp
  apply Array.ext'
  simp only [Array.toList_map, Array.toList_range]
  refine List.eq_replicate_iff.2 ⟨by simp, ?_⟩
  · intro b hb
    obtain ⟨i, hi, rfl⟩ := List.mem_map.1 hb
    have hm0 : 0 < m := by rcases Nat.eq_zero_or_pos m with h | h; · simp [h] at hn
                           · exact h
    have hlt : i % z.size < z.size := Nat.mod_lt _ (by omega)
    rw [getElem!_pos z _ hlt]
    have : z.toList[i % z.size]? = some x := by rw [hz, List.getElem?_replicate, if_pos (by omega)]
    simpa [hlt] using this

theorem sound_buildSlice {E : AE} (hE : ∀ t i, E.ty t = some i → TyOk P t i) {nm : Nat} {o : Oper} {t : TypeId} {n : Nat} {parts : Array (Nat × Operand)} (ho : o.op = .buildSlice t n parts) (hr : Rel ρ B w0 st a w) (h : (step E nm o st).val = some st') : FitsV P ρ B w0 st' o a w := by
  simp only [step, ho] at h
  have hpar := parts_rel hr parts.toList
  have hps : (parts.map fun p => (p.1, a.eval p.2)).toList = parts.toList.map fun p => (p.1, a.eval p.2) := by simp
  split at h
  · rename_i e _ _ _ ht
    obtain ⟨d, hd, hdd⟩ := (hE t _ ht).desc
    simp only [TD.is] at hdd
    subst hdd
    split at h
    · rename_i te hte
      split at h
      · rename_i z hfit hz
        have hfit := Nat.le_of_ble_eq_true hfit
        simp only [T.val_bind_iff] at h
        obtain ⟨l, h1, h2⟩ := h
        obtain ⟨zv, z1, z2, z3⟩ := (hE e _ hte).run_zero w
        obtain ⟨x, x1, x2⟩ := repS_spec' hz (segRel_none (ρ := ρ) z2)
        have hlen : zv.cells.toList.length = te.size := by simp [z3]
        rw [hlen] at x1 x2
        obtain ⟨c', g1, g2, g3⟩ := putParts_spec hE (place := fun i => some (i * te.size, te.size)) (cells := (List.replicate (n * te.size) x).toArray) (fun j off t' i e1 e2 => by cases e1; rw [hte] at e2; cases e2; rfl) (by simp) hpar h1 (by simpa using x2)
        have hsz : c'.size = n * te.size := by rw [g3]; simp
        obtain ⟨ρ', r1, r2⟩ := sound_newVec hr h2 (cs := c') (post := []) (by simp) g2 (by simp [hsz]) hsz (Nat.le_refl _) e
        refine ⟨_, _, ρ', ?_, r1, r2⟩
        have hbig : ¬ n * te.size > 2 ^ 24 := by omega
        have hnr : (newRow e c').run P w = .ok ⟨w.heap.size, 0, none⟩ (w.alloc (.cells c' e)) := by simp [newRow]
        by_cases h0 : n * te.size = 0
        · have e0 : ∀ f : Nat → Value, (Array.range 0).map f = #[] := by simp
          rw [h0] at g1
          simp only [List.replicate_zero] at g1
          simp only [execOp, ho, Instr.buildSlice, Sem.run_bind, run_underlying hd, Result.andThen_ok, (hE e te hte).run_size w, h0, if_true, Sem.run_pure, hps, e0]
          rw [g1]
          rw [if_neg (by omega)]
          simp [hnr]
        · have := made_cells (z := zv.cells) x1 h0
          simp only [execOp, ho, Instr.buildSlice, Sem.run_bind, run_underlying hd, Result.andThen_ok, (hE e te hte).run_size w, hbig, if_false, h0, z1, Sem.run_pure, hps]
          rw [this, g1]
          simp [hnr]
      · simp [T.val_fail] at h
    · simp [T.val_fail] at h
  · simp [T.val_fail] at h

theorem sound_makeSlice {E : AE} (hE : ∀ t i, E.ty t = some i → TyOk P t i) {nm : Nat} {o : Oper} {t : TypeId} {x y : Operand} (ho : o.op = .makeSlice t x y) (hr : Rel ρ B w0 st a w) (h : (step E nm o st).val = some st') : FitsV P ρ B w0 st' o a w := by
  have hx := hr.get x
  have hy := hr.get y
  simp only [step, ho] at h
  unfold makeT at h
  split at h
  · rename_i e _ _ _ k n k' m ht ex ey
    have vx := asI_rel ex hx
    have vy := asI_rel ey hy
    obtain ⟨d, hd, hdd⟩ := (hE t _ ht).desc
    simp only [TD.is] at hdd
    subst hdd
    split at h
    · rename_i te hte
      simp only [T.val_ite, T.val_fail, and_false, or_false] at h
      obtain ⟨h0, rfl, h1, h⟩ := h
      split at h
      · rename_i z hby hz
        have hby := blt_t hby
        obtain ⟨f, zv, f1, f2, f3, f4, f5, f6⟩ := (hE e te hte).info
        obtain ⟨c, rfl⟩ := Int.eq_ofNat_of_zero_le h0
        simp only [Int.toNat_natCast] at h hz
        obtain ⟨v, v1, v2⟩ := repS_spec' hz (segRel_none (ρ := ρ) f5)
        have hlen : zv.cells.toList.length = te.size := by simp [f6]
        rw [hlen] at v1 v2
        have h1' : ((c * te.bytes : Nat) : Int) ≤ (281474976710656 : Nat) := by rw [Int.natCast_mul]; exact h1
        have hc1 : c * te.bytes ≤ 281474976710656 := Int.ofNat_le.1 h1'
        have hc2 : c ≤ 281474976710656 := Nat.le_trans (Nat.le_mul_of_pos_right c hby) hc1
        obtain ⟨ρ', r1, r2⟩ := sound_newVec hr h (cs := (List.replicate (c * te.size) v).toArray) (C := List.replicate (c * te.size) v) (post := []) (by rw [List.append_nil]) v2 List.length_replicate (by rw [List.size_toArray, List.length_replicate]) (Nat.le_refl _) e
        refine ⟨_, _, ρ', ?_, r1, r2⟩
        have hb' : (f.bytes : Int) * (c : Int) ≤ 281474976710656 := by
          rw [f3, ← Int.natCast_mul, Nat.mul_comm]; exact Int.ofNat_le.2 hc1
        have hrun := run_make (P := P) w t e f zv hd f1 f4 k k' c c (by omega) (Int.le_refl _) hb' (by omega)
        simp only [Int.toNat_natCast, f2] at hrun
        have hmc : madeCells zv.cells (c * te.size) = (List.replicate (c * te.size) v).toArray := by
          by_cases hz0 : c * te.size = 0
          · rw [hz0]; simp [madeCells]
          · exact made_cells v1 hz0
        rw [hmc] at hrun
        simp [execOp, ho, vx, vy, hrun]
      · simp [T.val_fail] at h
    · simp [T.val_fail] at h
  · simp [T.val_fail] at h

theorem sound_store {E : AE} (hE : ∀ t i, E.ty t = some i → TyOk P t i) {nm : Nat} {o : Oper} {t : TypeId} {p x : Operand} (ho : o.op = .store t p x) (hr : Rel ρ B w0 st a w) (h : (step E nm o st).val = some st') :
    ∃ w' ρ', (execOp a.eval o).run P w = .ok .skip w' ∧ ρ.le ρ' ∧ Rel ρ' B w0 st' (a.put o.dst undef) w' := by
  have hp := hr.get p
  have hx := hr.get x
  simp only [step, ho] at h
  split at h
  · rename_i ob b i e
    rw [e] at hp
    simp only [T.val_bind_iff, T.val_ret] at h
    obtain ⟨s, h1, rfl⟩ := h
    obtain ⟨ad, w', q1, q2, q3, q4⟩ := storeT_spec hE hr h1 hp hx
    have hr' : Rel ρ B w0 s a w' := ⟨by rw [q3]; exact hr.len, by rw [q3]; exact hr.tm, q4, hr.defers⟩
    refine ⟨w', ρ, ?_, .refl ρ, hr'.put o.dst (v := .one .any) trivial⟩
    simp [execOp, ho, Instr.storeAt, Instr.sureAddr, q1, q2]
  · simp [T.val_fail] at h
end
end Go.Ax
