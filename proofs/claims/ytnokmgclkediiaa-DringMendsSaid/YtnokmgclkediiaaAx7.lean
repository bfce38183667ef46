/- A part of the proof: Ax7. -/
import Derived.Test.YtnokmgclkediiaaAx6
/-! ### The machine's runs at memory of ours -/
namespace Go.Ax
open Go.RowKit

def TD.is : TD → TypeDesc → Prop
  | .int k, d => d = .int k
  | .bool, d => d = .bool
  | .str, d => d = .string
  | .ptr e, d => d = .pointer e
  | .sl e, d => d = .slice e
  | .arr n e, d => d = .array n e
  | .st fs, d => ∃ fields : Array Field, d = .struct fields ∧ fields.toList.map (fun f => (f.offset, f.type)) = fs
  | .other, d => (match d with | .struct _ | .array _ _ => true | _ => false) = false
structure TyOk (P : Program) (t : TypeId) (i : TyI) : Prop where
  desc : ∃ d, P.underlying t = some d ∧ i.td.is d
  info : ∃ f z, P.info? t = some f ∧ f.size = i.size ∧ f.bytes = i.bytes ∧ f.zero = some z ∧ segRel (fun _ => none) i.zero z.cells.toList ∧ z.cells.size = i.size
  one : i.td.agg = false → i.size = 1

variable {P : Program}

theorem wp_val {o : Oper} {a : Act} {w w' : World} {v : Value} {K : Act → World → Prop} {Q : Exit → Act → World → Prop}
    (hrun : (execOp a.eval o).run P w = .ok (.value v) w') (hK : K (a.put o.dst v) w') : o.wp P a w K Q := by
  unfold Oper.wp; rw [hrun]; exact hK
theorem wp_skip {o : Oper} {a : Act} {w w' : World} {K : Act → World → Prop} {Q : Exit → Act → World → Prop}
    (hrun : (execOp a.eval o).run P w = .ok .skip w') (hK : K (a.put o.dst undef) w') : o.wp P a w K Q := by
  unfold Oper.wp; rw [hrun]; exact hK

theorem TyOk.agg_iff {t : TypeId} {i : TyI} (h : TyOk P t i) (w : World) : (isAgg t).run P w = .ok i.td.agg w := by
  obtain ⟨d, h1, h2⟩ := h.desc
  unfold isAgg
  rw [Sem.run_bind, run_underlying h1 w]
  cases hd : i.td <;> rw [hd] at h2 <;> simp only [TD.is] at h2 <;> try (subst h2; rfl)
  · obtain ⟨f, rfl, _⟩ := h2; rfl
  · cases d <;> simp_all [TD.agg]
theorem TyOk.run_size {t : TypeId} {i : TyI} (h : TyOk P t i) (w : World) : (sizeOf t).run P w = .ok i.size w := by
  obtain ⟨f, z, h1, h2, _⟩ := h.info
  simp [sizeOf, typeInfo, h1, h2]
theorem TyOk.run_zero {t : TypeId} {i : TyI} (h : TyOk P t i) (w : World) : ∃ z, (zeroValue t).run P w = .ok z w ∧ segRel (fun _ => none) i.zero z.cells.toList ∧ z.cells.size = i.size := by
  obtain ⟨f, z, h1, h2, h3, h4, h5, h6⟩ := h.info
  exact ⟨z, by simp [zeroValue, typeInfo, h1, h4], h5, h6⟩

theorem segRel_none {ρ : Env} {l : List Seg} {cs : List Value} (h : segRel (fun _ => none) l cs) : segRel ρ l cs := segRel_le (fun _ _ h => by cases h) h

/-- A cell of a row that is known. -/
theorem cell_row {w : World} {blk : Nat} {cs : Array Value} {t : TypeId} {fr : Nat × Nat} {pre C post : List Value} (hh : w.heap[blk]? = some (.cells cs t fr)) (hc : cs.toList = pre ++ C ++ post)
    {x : Nat} {c : Value} (hx : C[x]? = some c) : w.cell? ⟨blk, pre.length + x, none⟩ = some c := by
  have hlt : x < C.length := (List.getElem?_eq_some_iff.1 hx).1
  have : cs.toList[pre.length + x]? = some c := by rw [hc, get_mid hlt, hx]
  simpa [World.cell?, hh] using this

theorem run_loadVar_one {t : TypeId} {i : TyI} (h : TyOk P t i) (hg : i.td.agg = false) {w : World} {p : Addr} {c : Value} (hc : w.cell? p = some c) : (loadVar t p).run P w = .ok c w := by
  simp [loadVar, h.agg_iff w, hg, hc]
theorem run_loadVar_agg {t : TypeId} {i : TyI} (h : TyOk P t i) (hg : i.td.agg = true) {w : World} {blk off : Nat} {D : List Value} (hD : D.length = i.size)
    (hc : ∀ j c, D[j]? = some c → w.cell? ⟨blk, off + j, none⟩ = some c) : (loadVar t ⟨blk, off, none⟩).run P w = .ok (.agg D.toArray) w := by
  have hl := run_loadCells_list (P := P) w ⟨blk, off, none⟩ D (fun j v hv => by rw [Addr.add_lit]; exact hc j v hv)
  rw [hD] at hl
  simp [loadVar, h.agg_iff w, hg, h.run_size w, hl]

theorem run_storeCells_row (g o : Nat) (t : TypeId) (fr : Nat × Nat) : ∀ (vs : List Value) (i : Nat) (cur : Array Value) (w : World), w.heap[g]? = some (.cells cur t fr) → o + i + vs.length ≤ cur.size →
    (cur.size ≤ fr.1 ∨ fr.2 ≤ fr.1) → (∀ v ∈ vs, v.oneCell' = true) →
    (storeCells ⟨g, o, none⟩ vs i).run P w = .ok () (w.setRow g (cur.toList.take (o + i) ++ vs ++ cur.toList.drop (o + i + vs.length)).toArray)
  | [], i, cur, w, hg, _, _, _ => by
    simp only [storeCells, List.append_nil, List.length_nil, Nat.add_zero, List.take_append_drop, Array.toArray_toList]
    rw [setRow_self w g cur t fr hg]
    rfl
  | v :: rest, i, cur, w, hg, hl, hf, h1 => by
    have hi : o + i < cur.size := by simp at hl; omega
    have hcell : w.cell? ⟨g, o + i, none⟩ = some cur[o + i] := by simp [World.cell?, hg, hi]
    have hfro : w.frozen? ⟨g, o + i, none⟩ = false := by simp only [World.frozen?, hg, Bool.and_eq_false_iff, decide_eq_false_iff_not]; omega
    have hst : (store ((⟨g, o, none⟩ : Addr).add i) v).run P w = .ok () (w.setRow g (cur.setIfInBounds (o + i) v)) := by
      rw [Addr.add_lit, run_store P w _ v _ (h1 v (by simp)), hcell]
      simp [hfro, setCell_eq_setRow w g (o + i) cur t fr v hg]
    have ih := run_storeCells_row g o t fr rest (i + 1) (cur.setIfInBounds (o + i) v) (w.setRow g (cur.setIfInBounds (o + i) v)) (setRow_heap w g cur _ t _ hg) (by simp at hl ⊢; omega) (by simpa using hf) (fun x hx => h1 x (by simp [hx]))
    simp only [storeCells, Sem.run_bind, hst, Result.andThen_ok, ih, setRow_setRow]
    congr 3
    have e := list_seg_step cur.toList (o + i) v rest (by simp at hl ⊢; omega)
    simpa [Array.toList_setIfInBounds, Nat.add_assoc] using e

/-- What is known of a live object whose place is known. -/
theorem look_live {st : St} {o : Nat} {b : Ob} (h : st.look o = some b) : st.mem[o]? = some (.live b) := by
  unfold St.look at h
  split at h
  · cases h; assumption
  · cases h

section
variable {ρ : Env} {B : Nat} {w0 : World} {st : St} {a : Act} {w : World}

theorem Rel.row (hr : Rel ρ B w0 st a w) {o : Nat} {b : Ob} (h : st.look o = some b) {l : Loc} {blk off : Nat} (hl : ρ o = some l) (hx : l.a = some (blk, off)) :
    ∃ cs t fr pre post C, w.heap[blk]? = some (.cells cs t fr) ∧ cs.toList = pre ++ C ++ post ∧ pre.length = off ∧ segRel ρ b.segs C ∧ C.length = l.size * l.es ∧ l.size ≤ l.cap ∧
      (b.own = true → off = 0 ∧ cs.size = l.cap * l.es ∧ (cs.size ≤ fr.1 ∨ fr.2 ≤ fr.1) ∧ l.adr = l.addr) := by
  obtain ⟨l', C, h1, h2, h3, h4, h5⟩ := hr.m.ob o b (look_live h)
  rw [hl] at h1; cases h1
  rw [hx] at h5
  obtain ⟨cs, t, fr, pre, post, h6, h7, h8, h9⟩ := h5
  exact ⟨cs, t, fr, pre, post, C, h6, h7, h8, h2, h3, h4, h9⟩

/-- What the evaluator asks of the tables, and what they are worth. -/
theorem loadT_spec {E : AE} (hE : ∀ t i, E.ty t = some i → TyOk P t i) (hr : Rel ρ B w0 st a w) {t : TypeId} {o b : Nat} {i : Option Nat} {x : AV} (h : (loadT E st t o b i).val = some x)
    {v : Value} (hv : A1.rel ρ (.ptr o b i) v) : ∃ p c, v = .pointer (some p) ∧ (loadVar t p).run P w = .ok c w ∧ AV.rel ρ x c := by
  obtain ⟨l, blk, off, h1, h2, rfl⟩ := hv
  unfold loadT at h
  split at h
  · rename_i ti ob ht ho
    have hk := hE t ti ht
    obtain ⟨cs, te, fr, pre, post, C, g1, g2, g3, g4, _, _, _⟩ := hr.row ho h1 h2
    subst g3
    split at h
    · rename_i hagg
      simp only [T.val_bind_iff, T.val_ret] at h
      obtain ⟨l', k1, rfl⟩ := h
      obtain ⟨q1, q2⟩ := readAgg_spec k1 g4
      refine ⟨_, _, rfl, run_loadVar_agg hk hagg (D := (C.drop (b + i.getD 0)).take ti.size) (by simp; omega) ?_, ⟨_, rfl, q1⟩⟩
      intro j c hj
      rw [List.getElem?_take] at hj
      split at hj
      · rw [List.getElem?_drop] at hj
        rw [Nat.add_assoc]
        exact cell_row g1 g2 hj
      · cases hj
    · rename_i hagg
      simp only [T.val_bind_iff, T.val_ret] at h
      obtain ⟨a', k1, rfl⟩ := h
      obtain ⟨c, q1, q2⟩ := readAt_spec k1 g4
      exact ⟨_, c, rfl, run_loadVar_one hk hagg (cell_row g1 g2 q1), q2⟩
  · simp [T.val_fail] at h

theorem AV.cells_sc {x : A1} {v : Value} (h : A1.rel ρ x v) : v.cells = #[v] := by
  have := A1.rel_one h
  cases v <;> first | rfl | simp [Value.oneCell'] at this

theorem storeT_spec {E : AE} (hE : ∀ t i, E.ty t = some i → TyOk P t i) (hr : Rel ρ B w0 st a w) {t : TypeId} {o b : Nat} {i : Option Nat} {x : TV} {st' : St} (h : (storeT E st t o b i x).val = some st')
    {v u : Value} (hv : A1.rel ρ (.ptr o b i) v) (hu : TV.rel ρ x u) : ∃ p w', v = .pointer (some p) ∧ (storeVar t p u).run P w = .ok () w' ∧ st'.tmps = st.tmps ∧ MRel ρ B w0 st'.mem w' := by
  obtain ⟨l, blk, off, h1, h2, rfl⟩ := hv
  unfold storeT at h
  split at h
  · rename_i ti ob ht ho
    have hk := hE t ti ht
    obtain ⟨cs, te, fr, pre, post, C, g1, g2, g3, g4, g5, g6, g7⟩ := hr.row ho h1 h2
    split at h
    · rename_i hown
      obtain ⟨k1, k2, k3, _⟩ := g7 hown
      subst k1
      have hpre : pre = [] := List.eq_nil_of_length_eq_zero g3
      subst hpre
      simp only [List.nil_append] at g2
      have fin : ∀ (D : List Value) (l' : List Seg) (place : Nat), D.length = ti.size → (∀ d ∈ D, d.oneCell' = true) → u.cells.toList = D → place + ti.size ≤ C.length →
          segRel ρ l' (C.take place ++ D ++ C.drop (place + ti.size)) →
          ∃ w', (storeVar t ⟨blk, 0 + place, none⟩ u).run P w = .ok () w' ∧ MRel ρ B w0 (st.upd o l').mem w' := by
        intro D l' pl hD hone hcells hfit hseg
        have hsz : cs.size = (C ++ post).length := by rw [← g2]; simp
        have hst := run_storeCells_row (P := P) blk pl te fr D 0 cs w g1 (by rw [hsz]; simp; omega) k3 hone
        have hus : u.cells.size = ti.size := by rw [← hD, ← hcells]; simp
        refine ⟨w.setRow blk (List.take (pl + 0) cs.toList ++ D ++ List.drop (pl + 0 + D.length) cs.toList).toArray, ?_, ?_⟩
        · unfold storeVar
          simp only [Nat.zero_add]
          simp only [Sem.run_bind, hk.run_size w, Result.andThen_ok, hus, ne_eq, not_true_eq_false, if_false]
          rw [hcells]
          exact hst
        · refine hr.m.write (look_live ho) hown h1 h2 g1 (C := C.take pl ++ D ++ C.drop (pl + ti.size)) hseg (by simp; omega) (post := post) (by simp only [List.size_toArray, List.length_append, List.length_take, List.length_drop, Array.length_toList]; simp only [List.length_append] at hsz; omega) ?_
          simp only [Nat.add_zero, g2, hD]
          rw [List.take_append_of_le_length (by omega), List.drop_append_of_le_length (by omega)]
          simp
      split at h
      · rename_i l0 hagg
        split at h
        · rename_i hlen
          simp only [T.val_bind_iff, T.val_ret] at h
          obtain ⟨l', q1, rfl⟩ := h
          obtain ⟨D, rfl, hD⟩ := hu
          have hDl : D.length = ti.size := by rw [segRel_len hD]; exact beq_t hlen
          obtain ⟨r1, r2⟩ := writeAgg_spec q1 g4 hD hDl
          obtain ⟨w', s1, s2⟩ := fin D l' (b + i.getD 0) hDl (segRel_one hD) (by simp [Value.cells]) r2 r1
          exact ⟨_, w', rfl, s1, rfl, s2⟩
        · simp [T.val_fail] at h
      · rename_i a0 hagg
        simp only [T.val_bind_iff, T.val_ret] at h
        obtain ⟨l', q1, rfl⟩ := h
        have hu' : A1.rel ρ a0 u := hu
        have hc := AV.cells_sc hu'
        obtain ⟨r1, r2⟩ := writeCell_spec hu' q1 g4
        have hs1 : ti.size = 1 := hk.one hagg
        rw [List.set_eq_take_append_cons_drop, if_pos r2] at r1
        obtain ⟨w', s1, s2⟩ := fin [u] l' (b + i.getD 0) (by simp [hs1]) (by simpa using A1.rel_one hu') (by rw [hc]) (by omega) (by rw [hs1]; simpa using r1)
        exact ⟨_, w', rfl, s1, rfl, s2⟩
      · simp [T.val_fail] at h
    · simp [T.val_fail] at h
  · simp [T.val_fail] at h
end
end Go.Ax
