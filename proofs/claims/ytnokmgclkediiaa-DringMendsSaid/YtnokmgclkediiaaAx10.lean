/- A part of the proof: Ax10. -/
import Derived.Test.YtnokmgclkediiaaAx9
import Derived.ChangeKeysEq
/-! ### Operators -/
namespace Go.Ax
open Go.RowKit

variable {P : Program}
section
variable {ρ : Env} {B : Nat} {w0 : World} {st st' : St} {a : Act} {w : World}

theorem cmpA_spec {op : BinOp} {x y : Int} {r : A1} (h : cmpA op x y = some r) (w : World) : ∃ v, (Op.intCmp op x y).run P w = .ok v w ∧ A1.rel ρ r v := by
  unfold cmpA at h
  split at h <;> first | (cases h; done) | (cases h; exact ⟨_, rfl, rfl⟩) | (cases h; exact ⟨_, rfl, by simp only [A1.rel]; congr 1; by_cases e : x = y <;> simp [e]⟩)

theorem shOp_spec {op : BinOp} {k yk : IntKind} {x y : Int} {r : A1} (h : (shOp op k x y).val = some r) (w : World) : isShift op = true ∧ ∃ v, (Op.shift op k x yk y).run P w = .ok v w ∧ A1.rel ρ r v := by
  unfold shOp at h
  split at h <;> first
    | (simp [T.val_fail] at h; done)
    | (simp only [T.val_ite, T.val_ret, T.val_fail, and_false, false_or] at h
       obtain ⟨h0, rfl⟩ := h
       exact ⟨rfl, _, by simp only [Op.shift, h0, if_false]; rfl, rfl⟩)
theorem shOpC_spec {op : BinOp} {k yk : IntKind} {x y : Int} {r : A1} (h : (shOpC op k x y).val = some r) (w : World) : isShift op = true ∧ ∃ v, (Op.shift op k x yk y).run P w = .ok v w ∧ A1.rel ρ r v := by
  refine shOp_spec (ρ := ρ) (P := P) (yk := yk) ?_ w
  unfold shOpC at h
  unfold shOp
  split at h
  · split at h
    · simp [T.val_fail] at h
    · rename_i hd
      simp only [T.val_ite, T.val_ret, T.val_fail, and_false, false_or] at h ⊢
      exact ⟨of_decide_eq_false hd, h⟩
  · split at h
    · simp [T.val_fail] at h
    · rename_i hd
      simp only [T.val_ite, T.val_ret, T.val_fail, and_false, false_or] at h ⊢
      exact ⟨of_decide_eq_false hd, h⟩
  · simp [T.val_fail] at h

theorem intOp_spec {op : BinOp} {t : TypeId} {k : IntKind} {x y : Int} {r : A1} (hs : isShift op = false) (h : (intOp op k x y).val = some r) (w : World) :
    ∃ v, (binOp op t (.int k x) (.int k y)).run P w = .ok v w ∧ A1.rel ρ r v := by
  cases op <;> simp only [isShift] at hs <;> try (cases hs; done)
  all_goals simp only [intOp] at h
  case add | sub | mul | and | or | xor | andNot =>
    rw [T.val_ret] at h
    subst h
    exact ⟨_, by simp only [binOp, ne_eq, not_true_eq_false, if_false]; rfl, rfl⟩
  case quo | rem =>
    simp only [T.val_ite, T.val_ret, T.val_fail, and_false, false_or] at h
    obtain ⟨h0, rfl⟩ := h
    exact ⟨_, by simp only [binOp, ne_eq, not_true_eq_false, if_false, Op.intDiv, h0]; rfl, rfl⟩
  all_goals
    rw [T.val_ofOpt] at h
    obtain ⟨v, h1, h2⟩ := cmpA_spec (P := P) (ρ := ρ) h w
    exact ⟨v, by simp only [binOp, ne_eq, not_true_eq_false, if_false]; exact h1, h2⟩
theorem intOpC_spec {op : BinOp} {t : TypeId} {k : IntKind} {x y : Int} {r : A1} (hs : isShift op = false) (h : (intOpC op k x y).val = some r) (w : World) :
    ∃ v, (binOp op t (.int k x) (.int k y)).run P w = .ok v w ∧ A1.rel ρ r v := by
  refine intOp_spec hs ?_ w
  unfold intOpC at h
  split at h
  · split at h
    · simp [T.val_fail] at h
    · rename_i hd
      simp only [intOp, T.val_ite, T.val_ret, T.val_fail, and_false, false_or] at h ⊢
      exact ⟨of_decide_eq_false hd, h⟩
  · split at h
    · simp [T.val_fail] at h
    · rename_i hd
      simp only [intOp, T.val_ite, T.val_ret, T.val_fail, and_false, false_or] at h ⊢
      exact ⟨of_decide_eq_false hd, h⟩
  · exact h

theorem run_eqGuard_int (op : BinOp) (t : TypeId) (x y : Operand) (k k' : IntKind) (m n : Int) (w : World) : (eqGuard op t x y (.int k m) (.int k' n)).run P w = .ok () w := by
  cases op <;> rfl
theorem run_eqGuard_bool (op : BinOp) (t : TypeId) (x y : Operand) (m n : Bool) (w : World) : (eqGuard op t x y (.bool m) (.bool n)).run P w = .ok () w := by
  cases op <;> rfl
theorem run_eqGuard_string (op : BinOp) (t : TypeId) (x y : Operand) (m n : ByteArray) (w : World) : (eqGuard op t x y (.string m) (.string n)).run P w = .ok () w := by
  cases op <;> rfl
theorem run_eqGuard_agg (op : BinOp) {t e : TypeId} (x y : Operand) {n : Nat} (ht : P.underlying t = some (.array n e)) (he : (∃ k, P.underlying e = some (.int k)) ∨ P.underlying e = some .bool) (m p : Array Value) (w : World) :
    (eqGuard op t x y (.agg m) (.agg p)).run P w = .ok () w := by
  unfold eqGuard
  have hd : P.eqGuardType P.depth t = false := by
    unfold Program.depth
    rcases he with ⟨k, he⟩ | he <;> simp [Program.eqGuardType, ht, he]
  by_cases h : (!(match op with | .eql | .neq => true | _ => false)) = true
  · cases op <;> simp_all
  · cases op <;> simp_all [program, Sem.run]

theorem run_eqItems (d : Nat) {e : TypeId} {i : TyI} (hk : TyOk P e i) {kc : CK} {q : Int → Int → Bool} (he : ∀ (x y : Int) (w : World), (Op.equalIn d e (kc.val x) (kc.val y)).run P w = .ok (q x y) w) (hagg : i.td.agg = false) (X Y : List Int) (w : World) :
    ∀ (is : List Nat), (∀ j ∈ is, j < X.length ∧ j < Y.length) →
    (Op.eqItems d e 1 (X.map kc.val).toArray (Y.map kc.val).toArray is).run P w = .ok (is.all fun j => q (X.getD j 0) (Y.getD j 0)) w
  | [], _ => by simp [Op.eqItems]
  | j :: is, h => by
    obtain ⟨hx, hy⟩ := h j (by simp)
    have ih := run_eqItems d hk he hagg X Y w is (fun j hj => h j (by simp [hj]))
    have px : ∀ (Z : List Int), j < Z.length → (part e (Z.map kc.val).toArray (j * 1)).run P w = .ok (kc.val (Z.getD j 0)) w := by
      intro Z hz
      simp [part, hk.agg_iff w, hagg, List.getElem?_map, List.getElem?_eq_getElem hz, List.getD]
    simp only [Op.eqItems, Sem.run_bind, px X hx, px Y hy, Result.andThen_ok, he, List.all_cons]
    cases hxy : q (X.getD j 0) (Y.getD j 0)
    · simp only [Bool.not_false, if_true, Bool.false_and, Sem.run_pure]
    · simp only [Bool.not_true, Bool.false_eq_true, if_false, Bool.true_and]
      exact ih

theorem all_eq_iff {α : Type} (f : Int → α) [DecidableEq α] {X Y : List Int} {n : Nat} (hx : X.length = n) (hy : Y.length = n) : ((List.range n).all fun j => decide (f (X.getD j 0) = f (Y.getD j 0))) = decide (X.map f = Y.map f) := by
  rw [Bool.eq_iff_iff]
  simp only [List.all_eq_true, List.mem_range, decide_eq_true_eq]
  constructor
  · intro h
    apply List.ext_getElem?
    intro j
    by_cases hj : j < n
    · have := h j hj
      simp only [List.getD, List.getElem?_eq_getElem (show j < X.length by omega), List.getElem?_eq_getElem (show j < Y.length by omega), Option.getD_some] at this
      simp [List.getElem?_map, List.getElem?_eq_getElem (show j < X.length by omega), List.getElem?_eq_getElem (show j < Y.length by omega), this]
    · simp [List.getElem?_map, List.getElem?_eq_none (show X.length ≤ j by omega), List.getElem?_eq_none (show Y.length ≤ j by omega)]
  · intro h j hj
    have e : (X.map f)[j]? = (Y.map f)[j]? := by rw [h]
    simp only [List.getElem?_map, List.getElem?_eq_getElem (show j < X.length by omega), List.getElem?_eq_getElem (show j < Y.length by omega), Option.map_some, Option.some.injEq] at e
    simp [List.getD, List.getElem?_eq_getElem (show j < X.length by omega), List.getElem?_eq_getElem (show j < Y.length by omega), e]

theorem cellsOf_one {e : TypeId} {i : TyI} (hk : TyOk P e i) (h : i.size = 1) : P.cellsOf e = 1 := by
  obtain ⟨f, z, h1, h2, _⟩ := hk.info
  simp [Program.cellsOf, h1, h2, h]

theorem run_eq_arr {t e : TypeId} {n : Nat} {i : TyI} (ht : P.underlying t = some (.array n e)) (hk : TyOk P e i) (hagg : i.td.agg = false) {kc : CK} {α : Type} [DecidableEq α] (f : Int → α)
    (he : ∀ (d : Nat) (x y : Int) (w : World), (Op.equalIn (d + 1) e (kc.val x) (kc.val y)).run P w = .ok (decide (f x = f y)) w) {X Y : List Int} (hx : X.length = n) (hy : Y.length = n) (w : World) :
    (Op.equal t (.agg (X.map kc.val).toArray) (.agg (Y.map kc.val).toArray)).run P w = .ok (decide (X.map f = Y.map f)) w := by
  obtain ⟨g, z, h1, _⟩ := hk.info
  unfold Op.equal Op.maxDepth
  rw [run_equalIn_array w 9999 _ _ ht h1, cellsOf_one hk (hk.one hagg), run_eqItems 9999 hk (he 9998) hagg X Y w (List.range n) (fun j hj => by rw [List.mem_range] at hj; omega), all_eq_iff f hx hy]

theorem sound_arr_eq {o : Oper} {op : BinOp} {t e yt : TypeId} {x y : Operand} (ho : o.op = .binOp op t x y yt) (hr : Rel ρ B w0 st a w) {n : Nat} {i : TyI} (ht : P.underlying t = some (.array n e)) (hk : TyOk P e i) (hagg : i.td.agg = false)
    (heg : (∃ k, P.underlying e = some (.int k)) ∨ P.underlying e = some .bool) {kc : CK} {α : Type} [DecidableEq α] (f : Int → α)
    (he : ∀ (d : Nat) (x y : Int) (w : World), (Op.equalIn (d + 1) e (kc.val x) (kc.val y)).run P w = .ok (decide (f x = f y)) w) {X Y : List Int} (hx : X.length = n) (hy : Y.length = n)
    (hvx : a.eval x = .agg (X.map kc.val).toArray) (hvy : a.eval y = .agg (Y.map kc.val).toArray) {r : A1}
    (hop : (op = .eql ∧ A1.rel ρ r (.bool (decide (X.map f = Y.map f)))) ∨ (op = .neq ∧ A1.rel ρ r (.bool (!decide (X.map f = Y.map f))))) : FitsV P ρ B w0 (st.putA o.dst r) o a w := by
  have hg := run_eqGuard_agg op x y ht heg (X.map kc.val).toArray (Y.map kc.val).toArray w
  have he' := run_eq_arr ht hk hagg f he hx hy w
  rcases hop with ⟨rfl, hop⟩ | ⟨rfl, hop⟩
  · exact ⟨_, w, ρ, by simp only [execOp, ho, hvx, hvy, Sem.run_bind, hg, Result.andThen_ok, binOp, he', Sem.run_pure], .refl ρ, hr.putA o.dst hop⟩
  · exact ⟨_, w, ρ, by simp only [execOp, ho, hvx, hvy, Sem.run_bind, hg, Result.andThen_ok, binOp, he', Sem.run_pure], .refl ρ, hr.putA o.dst hop⟩

theorem sound_binOp {E : AE} (hE : ∀ t i, E.ty t = some i → TyOk P t i) {nm : Nat} {o : Oper} {op : BinOp} {t yt : TypeId} {x y : Operand} (ho : o.op = .binOp op t x y yt) (hr : Rel ρ B w0 st a w) (h : (step E nm o st).val = some st') : FitsV P ρ B w0 st' o a w := by
  have hx := hr.get x
  have hy := hr.get y
  simp only [step, ho] at h
  unfold binT at h
  split at h
  · rename_i k m k' n ex ey
    rw [ex] at hx
    rw [ey] at hy
    have hx' : a.eval x = .int k m := hx
    have hy' : a.eval y = .int k' n := hy
    have shift : isShift op = true → ∀ (r : A1), (∃ v, (Op.shift op k m k' n).run P w = .ok v w ∧ A1.rel ρ r v) → FitsV P ρ B w0 (st.putA o.dst r) o a w := by
      intro hs r ⟨v, h1, h2⟩
      refine ⟨v, w, ρ, ?_, .refl ρ, hr.putA o.dst h2⟩
      simp only [execOp, ho, hx', hy', Sem.run_bind, run_eqGuard_int, Result.andThen_ok]
      cases op <;> simp only [isShift] at hs <;> first | (cases hs; done) | simp only [binOp, h1, Result.andThen_ok, Sem.run_pure]
    have plain : k = k' → ∀ (r : A1), (∃ v, (binOp op t (.int k m) (.int k n)).run P w = .ok v w ∧ A1.rel ρ r v) → FitsV P ρ B w0 (st.putA o.dst r) o a w := by
      intro hk r ⟨v, h1, h2⟩
      subst hk
      refine ⟨v, w, ρ, ?_, .refl ρ, hr.putA o.dst h2⟩
      simp only [execOp, ho, hx', hy', Sem.run_bind, run_eqGuard_int, Result.andThen_ok, h1, Sem.run_pure]
    split at h
    · simp only [T.val_bind_iff, T.val_ret] at h
      obtain ⟨r, h1, rfl⟩ := h
      exact shift (by assumption) r (shOpC_spec h1 w).2
    · simp only [T.val_bind_iff, T.val_ret] at h
      obtain ⟨r, h1, rfl⟩ := h
      exact shift (by assumption) r (shOp_spec h1 w).2
    · split at h
      · rename_i hk
        simp only [T.val_bind_iff, T.val_ret] at h
        obtain ⟨r, h1, rfl⟩ := h
        exact plain hk r (intOpC_spec (by assumption) h1 w)
      · simp [T.val_fail] at h
    · split at h
      · rename_i hk
        simp only [T.val_bind_iff, T.val_ret] at h
        obtain ⟨r, h1, rfl⟩ := h
        exact plain hk r (intOp_spec (by assumption) h1 w)
      · simp [T.val_fail] at h
  · rename_i la lb ex ey
    rw [ex] at hx
    rw [ey] at hy
    obtain ⟨ca, hca, sa⟩ := hx
    obtain ⟨cb, hcb, sb⟩ := hy
    split at h
    · rename_i n e _ _ _ ht
      obtain ⟨d, hd, hdd⟩ := (hE t _ ht).desc
      simp only [TD.is] at hdd
      subst hdd
      split at h
      · rename_i k he
        rw [Option.map_eq_some_iff] at he
        obtain ⟨ti, he1, he2⟩ := he
        obtain ⟨de, hde, hdde⟩ := (hE e _ he1).desc
        rw [he2] at hdde
        simp only [TD.is] at hdde
        subst hdde
        split at h
        · rename_i X Y h1 h2 h3 h4
          have eX := flatS_spec h3 sa
          have eY := flatS_spec h4 sb
          have lX : X.length = n := by have := segRel_len sa; rw [eX, List.length_map] at this; rw [this]; exact beq_t h1
          have lY : Y.length = n := by have := segRel_len sb; rw [eY, List.length_map] at this; rw [this]; exact beq_t h2
          have key := fun (r : A1) => sound_arr_eq (st := st) (r := r) ho hr hd (hE e ti he1) (by rw [he2]; rfl) (.inl ⟨k, hde⟩) (kc := .int k) (fun z => z)
            (fun d x y w => by rw [show CK.val (.int k) x = .int k x from rfl, show CK.val (.int k) y = .int k y from rfl, run_equalIn_int w d e k k x y hde]; rfl) lX lY (by rw [hca, eX]) (by rw [hcb, eY])
          split at h
          · rw [T.val_ret] at h
            subst h
            exact key _ (.inl ⟨rfl, by simp only [eqXs, A1.rel, List.map_id']⟩)
          · rw [T.val_ret] at h
            subst h
            exact key _ (.inr ⟨rfl, by simp only [eqXs, A1.rel, List.map_id', ne_eq, decide_not]⟩)
          · simp [T.val_fail] at h
        · simp [T.val_fail] at h
      · rename_i he
        rw [Option.map_eq_some_iff] at he
        obtain ⟨ti, he1, he2⟩ := he
        obtain ⟨de, hde, hdde⟩ := (hE e _ he1).desc
        rw [he2] at hdde
        simp only [TD.is] at hdde
        subst hdde
        split at h
        · rename_i X Y h1 h2 h3 h4
          have eX := flatS_spec h3 sa
          have eY := flatS_spec h4 sb
          have lX : X.length = n := by have := segRel_len sa; rw [eX, List.length_map] at this; rw [this]; exact beq_t h1
          have lY : Y.length = n := by have := segRel_len sb; rw [eY, List.length_map] at this; rw [this]; exact beq_t h2
          have key := fun (r : A1) => sound_arr_eq (st := st) (r := r) ho hr hd (hE e ti he1) (by rw [he2]; rfl) (.inr hde) (kc := .bool) (fun z => z != 0)
            (fun d x y w => by rw [show CK.val .bool x = .bool (x != 0) from rfl, show CK.val .bool y = .bool (y != 0) from rfl, run_equalIn_bool w d e _ _ hde]; congr 1) lX lY (by rw [hca, eX]) (by rw [hcb, eY])
          split at h
          · rw [T.val_ret] at h
            subst h
            exact key _ (.inl ⟨rfl, by simp only [eqBs, A1.rel]⟩)
          · rw [T.val_ret] at h
            subst h
            exact key _ (.inr ⟨rfl, by simp only [eqBs, A1.rel, ne_eq, decide_not]⟩)
          · simp [T.val_fail] at h
        · simp [T.val_fail] at h
      · simp [T.val_fail] at h
    · simp [T.val_fail] at h
  · rename_i s1 s2 ex ey
    rw [ex] at hx
    rw [ey] at hy
    have hx' : a.eval x = .string s1 := hx
    have hy' : a.eval y = .string s2 := hy
    have e : (s1.toList == s2.toList) = decide (s1 = s2) := by
      rw [Bool.eq_iff_iff, beq_iff_eq, decide_eq_true_iff, ByteArray.toList_eq, ByteArray.toList_eq]
      obtain ⟨⟨x⟩⟩ := s1
      obtain ⟨⟨y⟩⟩ := s2
      simp
    split at h
    · rw [T.val_ret] at h
      subst h
      refine ⟨.bool (decide (s1 = s2)), w, ρ, ?_, .refl ρ, hr.putA o.dst rfl⟩
      simp only [execOp, ho, hx', hy', Sem.run_bind, run_eqGuard_string, Result.andThen_ok, binOp, Op.stringOp, e, Sem.run_pure]
    · rw [T.val_ret] at h
      subst h
      refine ⟨.bool (decide (s1 ≠ s2)), w, ρ, ?_, .refl ρ, hr.putA o.dst rfl⟩
      simp only [execOp, ho, hx', hy', Sem.run_bind, run_eqGuard_string, Result.andThen_ok, binOp, Op.stringOp, e, Sem.run_pure, ne_eq, decide_not]
    · simp [T.val_fail] at h
  · split at h
    · rename_i p q e1 e2 e3
      rw [Option.map_eq_some_iff] at e3
      obtain ⟨ti, g1, g2⟩ := e3
      obtain ⟨d, hd, hdd⟩ := (hE t _ g1).desc
      rw [g2] at hdd
      simp only [TD.is] at hdd
      subst hdd
      have key : ∀ {X : TV} {v : Value} {p : BP}, asP X = some p → TV.rel ρ X v → v = .bool (@decide p.p p.d) := by
        intro X v p h1 h2
        unfold asP at h1
        split at h1
        · rename_i b
          cases h1
          have h2' : v = .bool b := h2
          rw [h2']; congr 1; cases b <;> rfl
        · cases h1; exact h2
        · cases h1
      have hx' := key e1 hx
      have hy' := key e2 hy
      split at h
      · rw [T.val_ret] at h
        subst h
        refine ⟨_, w, ρ, ?_, .refl ρ, hr.putA o.dst rfl⟩
        simp only [execOp, ho, hx', hy', Sem.run_bind, run_eqGuard_bool, Result.andThen_ok, binOp, run_equal_bool w t _ _ hd, Sem.run_pure]
        rfl
      · rw [T.val_ret] at h
        subst h
        refine ⟨_, w, ρ, ?_, .refl ρ, hr.putA o.dst rfl⟩
        simp only [execOp, ho, hx', hy', Sem.run_bind, run_eqGuard_bool, Result.andThen_ok, binOp, run_equal_bool w t _ _ hd, Sem.run_pure, ne_eq, decide_not]
        rfl
      · simp [T.val_fail] at h
    · simp [T.val_fail] at h
end
end Go.Ax
