/- A part of the proof: Ax13. -/
import Derived.Test.YtnokmgclkediiaaAx12
/-! ### append -/
namespace Go.Ax
open Go.RowKit

variable {P : Program}
section
variable {ρ : Env} {B : Nat} {w0 : World} {st st' : St} {a : Act} {w : World}

theorem run_firstCells_at {es n : Nat} {b : Addr} {cap : Nat} {m : Nat} {cs : List Value} (hl : cs.length = n * es) (h : ∀ j v, cs[j]? = some v → w.cell? (b.add j) = some v) :
    (Builtin.firstCells es n (.slice (some b) m cap)).run P w = .ok cs.toArray w := by
  have := run_loadCells_list (P := P) w b cs h
  rw [hl] at this
  simpa [Builtin.firstCells] using this

theorem cells_at {blk : Nat} {cs : Array Value} {t : TypeId} {fr : Nat × Nat} {pre C post : List Value} (hh : w.heap[blk]? = some (.cells cs t fr)) (hc : cs.toList = pre ++ C ++ post) :
    ∀ j v, C[j]? = some v → w.cell? ((⟨blk, pre.length, none⟩ : Addr).add j) = some v := fun j v hv => by rw [Addr.add_lit]; exact cell_row hh hc hv

/-- What is appended, as the machine reads it. -/
theorem srcOf_spec (hr : Rel ρ B w0 st a w) {es : Nat} {y : TV} {l : List Seg} {m : Nat} (h : srcOf st es y = some (l, m)) {v : Value} (hv : TV.rel ρ y v) :
    ∃ (b : Option Addr) (c : Nat) (news : List Value), v = .slice b m c ∧ segRel ρ l news ∧ news.length = m * es ∧ ∀ w1 : World, w1.heap = w.heap → (Builtin.firstCells es m v).run P w1 = .ok news.toArray w1 := by
  have cellEq : ∀ {w1 : World}, w1.heap = w.heap → ∀ ad, w1.cell? ad = w.cell? ad := by
    intro w1 h ad; unfold World.cell?; rw [h]
  unfold srcOf at h
  split at h
  · cases h
    have hv' : v = .slice none 0 0 := hv
    exact ⟨none, 0, [], hv', rfl, by simp, fun w1 _ => by simp [hv', Builtin.firstCells]⟩
  · rename_i o len es'
    split at h
    · rename_i he
      have he := beq_t he
      subst he
      rw [Option.map_eq_some_iff] at h
      obtain ⟨ob, ho, h⟩ := h
      cases h
      obtain ⟨lc, k1, k2, k3, k4, k5, k6, k7⟩ := hv
      cases ha : lc.a with
      | none =>
        obtain ⟨l', C, g1, g2, g3, g4, g5⟩ := hr.m.ob o ob (look_live ho)
        rw [k1] at g1; cases g1
        rw [ha] at g5
        obtain ⟨rfl, _⟩ := g5
        have z1 := k6 ha
        refine ⟨lc.adr, lc.cap, [], by rw [k4, ← k2], g2, by rw [← k2, z1]; simp, fun w1 _ => ?_⟩
        rw [k4, ← k2, z1]
        cases lc.adr <;> simp [Builtin.firstCells, loadCells, loadCellsFrom]
      | some p =>
        obtain ⟨blk, off⟩ := p
        obtain ⟨cs, t, fr, pre, post, C, g1, g2, g3, g4, g5, g6, _⟩ := hr.row ho k1 ha
        subst g3
        refine ⟨lc.adr, lc.cap, C, by rw [k4, ← k2], g4, by rw [g5, k2, k3], fun w1 hw => ?_⟩
        rw [k4, ← k2]
        by_cases hz : lc.size = 0
        · have hC : C = [] := List.eq_nil_of_length_eq_zero (by rw [g5, hz]; simp)
          rw [hz, hC]
          cases lc.adr <;> simp [Builtin.firstCells, loadCells, loadCellsFrom]
        rw [k7 (by omega)]
        simp only [Loc.addr, ha, Option.map_some, k2]
        exact run_firstCells_at (by rw [g5, k2, k3]) fun j u hu => by rw [cellEq hw]; exact cells_at g1 g2 j u hu
    · cases h
  · rename_i o off len cap es'
    split at h
    · rename_i k n zs own he he' ho
      have he := beq_t he
      have he' := beq_t he'
      subst he
      subst he'
      cases h
      obtain ⟨lc, ad, c, k1, k2, k3, k4, k5, k6⟩ := hv
      obtain ⟨l', C, g1, g2, g3, g4, g5⟩ := hr.m.ob o _ (look_live ho)
      rw [k1] at g1; cases g1
      obtain ⟨s1, cs', s2, s3⟩ := g2
      cases s3
      simp only [List.append_nil] at s2
      have hzl : off + m ≤ zs.length := by have : zs.length = lc.size * lc.es := by rw [← g3, s2]; simp
                                           omega
      refine ⟨ad, c, ((zs.drop off).take m).map k.val, k2, ⟨by simp; omega, [], by simp, rfl⟩, by simp; omega, fun w1 hw => ?_⟩
      by_cases hm : m = 0
      · subst hm
        rw [k2]
        cases ad <;> simp [Builtin.firstCells, loadCells, loadCellsFrom]
      · obtain ⟨blk, f, q1, q2⟩ := k6 (by omega)
        rw [q1] at g5
        obtain ⟨cs, t, fr, pre, post, r1, r2, r3, _⟩ := g5
        subst r3
        rw [k2, q2]
        refine run_firstCells_at (by simp; omega) fun j u hu => ?_
        rw [cellEq hw, Addr.add_lit]
        have hj : j < m := by have := (List.getElem?_eq_some_iff.1 hu).1; simp at this; omega
        have : C[off + j]? = some u := by
          rw [s2, List.getElem?_map]
          rw [List.getElem?_map, List.getElem?_take, if_pos hj, List.getElem?_drop] at hu
          exact hu
        have := cell_row r1 r2 this
        rwa [← Nat.add_assoc] at this
    · cases h
  · cases h

theorem run_append_room {t t2 e e2 ty : TypeId} {te : TyI} (hd : P.underlying t = some (.slice e)) (hd2 : P.underlying t2 = some (.slice e2)) (hk : TyOk P e te) {base : Option Addr} {n cap m c : Nat} {b : Option Addr} {news : List Value}
    (hn : ∀ w1 : World, w1.heap = w.heap → (Builtin.firstCells te.size m (.slice b m c)).run P w1 = .ok news.toArray w1) (hroom : n + m ≤ cap) {w' : World}
    (hst : ∀ x, base = some x → (storeCells (x.add (n * te.size)) news).run P w = .ok () w') (hnone : base = none → w' = w) :
    (Builtin.append_ #[t, t2] ty #[.slice base n cap, .slice b m c]).run P w = .ok (.slice base (n + m) cap) w' := by
  have h0 := hn w rfl
  cases base with
  | none =>
    have := hnone rfl
    subst this
    simp [Builtin.append_, run_underlying hd, run_underlying hd2, hk.run_size, Builtin.lenOf, hroom, h0]
  | some x =>
    have := hst x rfl
    simp [Builtin.append_, run_underlying hd, run_underlying hd2, hk.run_size, Builtin.lenOf, hroom, h0, this]

theorem run_append_new {t t2 e e2 ty : TypeId} {te : TyI} (hd : P.underlying t = some (.slice e)) (hd2 : P.underlying t2 = some (.slice e2)) (hk : TyOk P e te) (hby : 0 < te.bytes) {base : Option Addr} {n cap m c : Nat} {b : Option Addr} {olds news : List Value}
    (hn : ∀ w1 : World, w1.heap = w.heap → (Builtin.firstCells te.size m (.slice b m c)).run P w1 = .ok news.toArray w1) (ho : ∀ w1 : World, w1.heap = w.heap → (Builtin.firstCells te.size n (.slice base n cap)).run P w1 = .ok olds.toArray w1)
    (hroom : cap < n + m) (hbytes : (n + m) * te.bytes ≤ 140737488355328) :
    ∃ (newCap : Nat) (rest : List Value), n + m ≤ newCap ∧ rest.length = (newCap - (n + m)) * te.size ∧
      (Builtin.append_ #[t, t2] ty #[.slice base n cap, .slice b m c]).run P w = .ok (.slice (some ⟨w.heap.size, 0, none⟩) (n + m) newCap) (w.drew.alloc (.cells (olds ++ news ++ rest).toArray e)) := by
  obtain ⟨f, zv, f1, f2, f3, f4, f5, f6⟩ := hk.info
  have hfit := growslice_fits hroom hbytes
  have h48 : ¬ (281474976710656 < Builtin.nextslicecap (n + m) cap * te.bytes) := by omega
  have hnr : ¬ (n + m ≤ cap) := by omega
  have hby0 : ¬ te.bytes = 0 := by omega
  have hti : ∀ w1, (typeInfo e).run P w1 = .ok f w1 := by intro w1; simp [typeInfo, f1]
  have hzr : ∀ w1, (zeroValue e).run P w1 = .ok zv w1 := by intro w1; simp [zeroValue, typeInfo, f1, f4]
  have hask : ∀ (n : Nat) (w1 : World), (askRoom n).run P w1 = .ok () w1 := by intro n w1; unfold askRoom; split <;> rfl
  refine ⟨(Question.appendCap (n + m) cap e).cut (w.tape w.drawn (.appendCap (n + m) cap e)), (Builtin.zeroCells zv.cells ((Question.appendCap (n + m) cap e).cut (w.tape w.drawn (.appendCap (n + m) cap e)) - (n + m))).toList, ?_, ?_, ?_⟩
  · simp [Question.cut]
  · simp [Builtin.zeroCells, f6]
  · have hfc : (Question.appendCap (n + m) cap e).forced = false := rfl
    have e1 := ho w.drew rfl
    have e2 := hn w.drew rfl
    simp only [Builtin.append_, List.getElem?_toArray, List.getElem?_cons_zero, List.getElem?_cons_succ, Sem.run_bind, run_underlying hd, run_underlying hd2, Result.andThen_ok, hk.run_size, Sem.run_pure, Builtin.lenOf, Bool.false_eq_true, if_false, hnr, hti, f3, hby0, or_self, and_false, h48,
      run_choose_drew, hfc, hask, e1, e2, Bool.not_false, if_true, hzr]
    simp [newRow]
    congr 2
    apply Array.ext'
    simp

/-- A new vector that may be nil. -/
theorem sound_nilVec (hr : Rel ρ B w0 st a w) {nm : Nat} {dst : Option Tmp} {l : List Seg} {es : Nat} (h : (newVec st nm dst l 0 es).val = some st') (hs : segRel ρ l []) :
    ∃ ρ', ρ.le ρ' ∧ Rel ρ' B w0 st' (a.put dst (.slice none 0 0)) w := by
  unfold newVec at h
  split at h
  · rename_i st1 hn
    rw [T.val_ret] at h
    subst h
    unfold St.new at hn
    split at hn
    · rename_i hf
      cases hn
      have hnone : ρ nm = none := hr.m.free nm (.inr hf)
      have hle' := Env.le_set hnone { a := none, adr := none, size := 0, cap := 0, es }
      obtain ⟨h1, h2⟩ := hr.m.add hf (b := { segs := l, own := true }) (l := { a := none, adr := none, size := 0, cap := 0, es }) (fun x _ _ _ _ hx => by cases hx) (fun x hx => by cases hx)
        ⟨_, [], if_pos rfl, segRel_le hle' hs, by simp, Nat.le_refl _, rfl, fun _ => ⟨rfl, rfl⟩⟩
      exact ⟨_, h1, (hr.le h1 h2).putA dst ⟨_, if_pos rfl, rfl, rfl, rfl, Nat.le_refl _, fun _ => rfl, fun h => absurd h (Nat.lt_irrefl 0)⟩⟩
    · cases hn
  · simp [T.val_fail] at h

theorem Rel.drew (hr : Rel ρ B w0 st a w) : Rel ρ B w0 st a w.drew := ⟨hr.len, hr.tm, hr.m.drew, hr.defers⟩

theorem look_set_ne {st : St} {o i : Nat} {x : Slot} (h : i ≠ o) : (({ st with mem := st.mem.set o x } : St)).mem[i]? = st.mem[i]? := List.getElem?_set_ne (Ne.symm h)

theorem sound_append {E : AE} (hE : ∀ t i, E.ty t = some i → TyOk P t i) {nm : Nat} {o : Oper} {args : Array Operand} {ats : Array TypeId} (ho : o.op = .call { callee := .builtin .append, args, argTypes := ats }) (hr : Rel ρ B w0 st a w) (h : (step E nm o st).val = some st') : FitsV P ρ B w0 st' o a w := by
  simp only [step, ho] at h
  split at h
  · rename_i t t2 x y e1 e2
    have hx := hr.get x
    have hy := hr.get y
    have hats : ats = #[t, t2] := by rw [← Array.toArray_toList (xs := ats), e1]
    have hargs : args.map a.eval = #[a.eval x, a.eval y] := by rw [← Array.toArray_toList (xs := args), e2]; simp
    have hexec : ∀ {v : Value} {w' : World}, (Builtin.append_ #[t, t2] o.type #[a.eval x, a.eval y]).run P w = .ok v w' → (execOp a.eval o).run P w = .ok (.value v) w' := by
      intro v w' hv
      rw [exec_builtin ho, hats, hargs]
      simp [builtin, hv]
    unfold appendT at h
    split at h
    · rename_i e _ _ _ ee _ _ _ ht ht2
      obtain ⟨d, hd, hdd⟩ := (hE t _ ht).desc
      simp only [TD.is] at hdd
      subst hdd
      obtain ⟨d2, hd2, hdd2⟩ := (hE t2 _ ht2).desc
      simp only [TD.is] at hdd2
      subst hdd2
      split at h
      · rename_i te hte
        rw [Option.filter_eq_some_iff] at hte
        obtain ⟨hte, hby⟩ := hte
        have hby := blt_t hby
        have hk := hE e te hte
        split at h
        · rename_i l m hsrc
          obtain ⟨b, c, news, s1, s2, s3, s4⟩ := srcOf_spec (P := P) hr hsrc hy
          rw [s1] at hexec s4
          split at h
          · rename_i ex
            rw [ex] at hx
            have hx' : a.eval x = .slice none 0 0 := hx
            rw [hx'] at hexec
            simp only [T.val_ite, T.val_fail, and_false, or_false] at h
            obtain ⟨hb, h⟩ := h
            by_cases hm : m = 0
            · subst hm
              have hnews : news = [] := List.eq_nil_of_length_eq_zero (by simpa using s3)
              subst hnews
              obtain ⟨ρ', r1, r2⟩ := sound_nilVec hr h s2
              exact ⟨_, _, ρ', hexec (run_append_room hd hd2 hk s4 (Nat.le_refl _) (fun x hx => by cases hx) (fun _ => rfl)), r1, r2⟩
            · obtain ⟨nc, rest, q1, q2, q3⟩ := run_append_new (P := P) (ty := o.type) (olds := []) hd hd2 hk hby (base := none) (n := 0) (cap := 0) s4 (fun w1 _ => by simp [Builtin.firstCells]) (by omega) (by simpa using hb)
              simp only [Nat.zero_add, List.nil_append] at q1 q2 q3
              obtain ⟨ρ', r1, r2⟩ := sound_newVec hr.drew h (cs := (news ++ rest).toArray) (C := news) (post := rest) (by simp) s2 s3 (cap := nc) (by simp [s3, q2, ← Nat.add_mul]; congr 1; omega) q1 e
              exact ⟨_, _, ρ', hexec q3, r1, r2⟩
          · rename_i ob len es ex
            rw [ex] at hx
            split at h
            · rename_i segs hob hes
              have hes := beq_t hes
              subst hes
              split at h
              · rename_i z hz
                simp only [T.val_ite, T.val_fail, and_false, or_false] at h
                obtain ⟨hb, h⟩ := h
                obtain ⟨lc, k1, k2, k3, k4, k5, k6, k7⟩ := hx
                have hxv : a.eval x = .slice lc.adr len lc.cap := by rw [k4, k2]
                rw [hxv] at hexec
                have hlive := look_live hob
                obtain ⟨lc', C, g1, g2, g3, g4, g5⟩ := hr.m.ob ob _ hlive
                rw [k1] at g1; cases g1
                have hC : C.length = len * te.size := by rw [g3, k2, k3]
                have hmerge := mergeS_spec hz g2 s2
                have hkill : Rel ρ B w0 (st.kill ob) a w := ⟨hr.len, hr.tm, hr.m.kill ob, hr.defers⟩
                cases ha : lc.a with
                | none =>
                  rw [ha] at g5
                  obtain ⟨rfl, hcap⟩ := g5
                  obtain ⟨hcap, hadr⟩ := hcap rfl
                  have hl0 : len = 0 := by have := k6 ha; omega
                  subst hl0
                  rw [hadr, hcap] at hexec
                  by_cases hm : m = 0
                  · subst hm
                    have hnews : news = [] := List.eq_nil_of_length_eq_zero (by simpa using s3)
                    subst hnews
                    obtain ⟨ρ', r1, r2⟩ := sound_nilVec hkill h (by simpa using hmerge)
                    exact ⟨_, _, ρ', hexec (run_append_room hd hd2 hk s4 (Nat.le_refl _) (fun x hx => by cases hx) (fun _ => rfl)), r1, r2⟩
                  · obtain ⟨nc, rest, q1, q2, q3⟩ := run_append_new (P := P) (ty := o.type) (olds := []) hd hd2 hk hby (base := none) (n := 0) (cap := 0) s4 (fun w1 _ => by simp [Builtin.firstCells]) (by omega) (by simpa using hb)
                    simp only [Nat.zero_add, List.nil_append] at q1 q2 q3
                    obtain ⟨ρ', r1, r2⟩ := sound_newVec hkill.drew h (cs := (news ++ rest).toArray) (C := news) (post := rest) (by simp) (by simpa using hmerge) (by simpa using s3) (cap := nc) (by simp [s3, q2, ← Nat.add_mul]; congr 1; omega) (by simpa using q1) e
                    refine ⟨_, _, ρ', hexec q3, r1, ?_⟩
                    simpa using r2
                | some p =>
                  obtain ⟨blk, off⟩ := p
                  rw [ha] at g5
                  obtain ⟨cs, ct, fr, pre, post, p1, p2, p3, p4⟩ := g5
                  obtain ⟨rfl, p5, p6, p7⟩ := p4 rfl
                  have hpre : pre = [] := List.eq_nil_of_length_eq_zero p3
                  subst hpre
                  simp only [List.nil_append] at p2
                  have hadr : lc.adr = some ⟨blk, 0, none⟩ := by rw [p7]; simp [Loc.addr, ha]
                  rw [hadr] at hexec
                  have hCl : ∀ j v, C[j]? = some v → w.cell? ((⟨blk, 0, none⟩ : Addr).add j) = some v := cells_at (pre := []) p1 (by simpa using p2)
                  by_cases hroom : len + m ≤ lc.cap
                  · have hBb : B ≤ blk := hr.m.ownB ob _ lc _ hlive rfl k1 ha
                    have hcsz : cs.size = (C ++ post).length := by rw [← p2]; simp
                    have hmul : (len + m) * te.size ≤ lc.cap * te.size := Nat.mul_le_mul_right _ hroom
                    rw [k3] at p5
                    have hfit : len * te.size + m * te.size ≤ cs.size := by rw [← Nat.add_mul, p5]; exact hmul
                    have hst := run_storeCells_row (P := P) blk (len * te.size) ct fr news 0 cs w p1 (by rw [s3]; omega) p6 (segRel_one s2)
                    simp only [Nat.add_zero] at hst
                    have hcs' : cs.toList.take (len * te.size) ++ news ++ cs.toList.drop (len * te.size + news.length) = C ++ news ++ post.drop (m * te.size) := by
                      rw [p2, List.take_append_of_le_length (by omega), List.take_of_length_le (by omega), List.drop_append, List.drop_of_length_le (by omega), s3, hC]
                      simp
                    rw [hcs'] at hst
                    have hdead : ∀ i c, (st.mem.set ob Slot.dead)[i]? = some (Slot.live c) → i ≠ ob ∧ st.mem[i]? = some (Slot.live c) := by
                      intro i c hi
                      have hne : i ≠ ob := by
                        intro e
                        subst e
                        rw [List.getElem?_set_self (List.getElem?_eq_some_iff.1 hlive).1] at hi
                        cases hi
                      exact ⟨hne, by rw [List.getElem?_set_ne (Ne.symm hne)] at hi; exact hi⟩
                    have hsep : ∀ i c l' y, (st.mem.set ob Slot.dead)[i]? = some (Slot.live c) → ρ i = some l' → l'.a = some y → y.1 ≠ blk := by
                      intro i c l' y hi hl' hy
                      obtain ⟨hne, hi'⟩ := hdead i c hi
                      exact fun z => hr.m.sep ob _ i c lc l' _ y hlive hi' rfl (Ne.symm hne) k1 hl' ha hy z.symm
                    have hm1 : MRel ρ B w0 (st.kill ob).mem (w.setRow blk (C ++ news ++ post.drop (m * te.size)).toArray) :=
                      ⟨hkill.m.free, fun i c hi => (hkill.m.ob i c hi).world fun l' y hl' hy => setRow_other w blk y.1 _ (hsep i c l' y hi hl' hy), hkill.m.sep, hkill.m.ownB,
                        hkill.m.below.trans ⟨rfl, rfl, rfl, by simp, fun k hk => setRow_other w blk k _ (by omega)⟩, by simpa using hkill.m.size⟩
                    unfold newVec at h
                    split at h
                    · rename_i st1 hn
                      rw [T.val_ret] at h
                      subst h
                      unfold St.new at hn
                      split at hn
                      · rename_i hf
                        cases hn
                        have hnone : ρ nm = none := hkill.m.free nm (.inr hf)
                        have hle' := Env.le_set hnone { a := some (blk, 0), adr := some ⟨blk, 0, none⟩, size := len + m, cap := lc.cap, es := te.size }
                        obtain ⟨h1, h2⟩ := hm1.add hf (b := { segs := z, own := true }) (l := { a := some (blk, 0), adr := some ⟨blk, 0, none⟩, size := len + m, cap := lc.cap, es := te.size })
                          (fun x i c l' y hx hi hl' hy => by cases hx; exact hsep i c l' y hi hl' hy) (fun x hx => by cases hx; exact hBb)
                          ⟨_, C ++ news, if_pos rfl, segRel_le hle' hmerge, by simp [hC, s3, Nat.add_mul], hroom, (C ++ news ++ post.drop (m * te.size)).toArray, ct, fr, [], post.drop (m * te.size), setRow_heap w blk cs _ ct fr p1, by simp, rfl,
                            fun _ => ⟨rfl, by simp only [List.size_toArray, List.length_append, List.length_drop]; simp only [List.length_append] at hcsz; omega, by
                              have : (C ++ news ++ post.drop (m * te.size)).toArray.size = cs.size := by simp only [List.size_toArray, List.length_append, List.length_drop]; simp only [List.length_append] at hcsz; omega
                              rw [this]; exact p6, rfl⟩⟩
                        have hkr : Rel ρ B w0 (st.kill ob) a w := hkill
                        refine ⟨_, _, _, hexec (run_append_room hd hd2 hk s4 hroom (w' := w.setRow blk (C ++ news ++ post.drop (m * te.size)).toArray) (fun x hx => by cases hx; rw [Addr.add_lit, Nat.zero_add]; exact hst) (fun hx => by cases hx)), h1, (hkr.le h1 h2).putA o.dst ?_⟩
                        exact ⟨_, if_pos rfl, rfl, k3 ▸ rfl, rfl, hroom, (fun hx => by cases hx), fun _ => rfl⟩
                      · cases hn
                    · simp [T.val_fail] at h
                  · have hcell : ∀ w1 : World, w1.heap = w.heap → (Builtin.firstCells te.size len (.slice (some ⟨blk, 0, none⟩) len lc.cap)).run P w1 = .ok C.toArray w1 := by
                      intro w1 hw
                      refine run_firstCells_at hC fun j u hu => ?_
                      have := hCl j u hu
                      unfold World.cell? at this ⊢
                      rw [hw]; exact this
                    obtain ⟨nc, rest, q1, q2, q3⟩ := run_append_new (P := P) (ty := o.type) (olds := C) hd hd2 hk hby (base := some ⟨blk, 0, none⟩) (n := len) (cap := lc.cap) s4 hcell (by omega) hb
                    obtain ⟨ρ', r1, r2⟩ := sound_newVec hkill.drew h (cs := (C ++ news ++ rest).toArray) (C := C ++ news) (post := rest) (by simp) hmerge (by simp [hC, s3, Nat.add_mul]) (cap := nc) (by simp [hC, s3, q2]; rw [← Nat.add_assoc, ← Nat.add_mul, ← Nat.add_mul]; congr 1; omega) q1 e
                    exact ⟨_, _, ρ', hexec q3, r1, r2⟩
              · simp [T.val_fail] at h
            · simp [T.val_fail] at h
          · simp [T.val_fail] at h
        · simp [T.val_fail] at h
      · simp [T.val_fail] at h
    · simp [T.val_fail] at h
  · simp [T.val_fail] at h
end
end Go.Ax
