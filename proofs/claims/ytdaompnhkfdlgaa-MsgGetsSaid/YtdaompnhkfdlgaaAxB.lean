/- A part of the proof: Ax10, Ax11, Ax12, Ax13, Ax14, Ax15, Ax16, Ax16r. -/
import Derived.Test.YtdaompnhkfdlgaaAxA
import Derived.ChangeKeysEq
import Derived.Laws.StructEq
namespace Go.Ax
open Go.RowKit
variable {P : Program}
section
variable {ρ : Env} {B : Nat} {w0 : Base} {st st' : St} {a : Act} {w : World}
theorem b7p {op : BinOp} {x y : Int} {r : A1} (h : c1X op x y = some r) (w : World) : ∃ v, (Op.intCmp op x y).run P w = .ok v w ∧ A1.rel ρ r v := by
 unfold c1X at h
 split at h <;> first | (cases h; done) | (cases h; exact ⟨_, rfl, rfl⟩) | (cases h; exact ⟨_, rfl, by simp only [A1.rel]; congr 1; by_cases e : x = y <;> simp [e]⟩)
theorem b3Z {op : BinOp} {k yk : IntKind} {x y : Int} {r : A1} (h : (c1V op k x y).val = some r) (w : World) : a26 op = true ∧ ∃ v, (Op.shift op k x yk y).run P w = .ok v w ∧ A1.rel ρ r v := by
 unfold c1V at h
 split at h <;> first
  | (simp [T.val_fail] at h; done)
  | (simp only [T.val_ite, T.val_ret, T.val_fail, and_false, false_or] at h
     obtain ⟨h0, rfl⟩ := h
     exact ⟨rfl, _, by simp only [Op.shift, h0, if_false]; rfl, rfl⟩)
theorem b6W {op : BinOp} {k yk : IntKind} {x y : Int} {r : A1} (h : (c0H op k x y).val = some r) (w : World) : a26 op = true ∧ ∃ v, (Op.shift op k x yk y).run P w = .ok v w ∧ A1.rel ρ r v := by
 refine b3Z (ρ := ρ) (P := P) (yk := yk) ?_ w
 unfold c0H at h
 unfold c1V
 split at h
 ·split at h
  ·simp [T.val_fail] at h
  ·rename_i hd
   simp only [T.val_ite, T.val_ret, T.val_fail, and_false, false_or] at h ⊢
   exact ⟨of_decide_eq_false hd, h⟩
 ·split at h
  ·simp [T.val_fail] at h
  ·rename_i hd
   simp only [T.val_ite, T.val_ret, T.val_fail, and_false, false_or] at h ⊢
   exact ⟨of_decide_eq_false hd, h⟩
 ·simp [T.val_fail] at h
theorem b0Y {op : BinOp} {t : TypeId} {k : IntKind} {x y : Int} {r : A1} (hs : a26 op = false) (h : (b6p op k x y).val = some r) (w : World) :
  ∃ v, (binOp op t (.int k x) (.int k y)).run P w = .ok v w ∧ A1.rel ρ r v := by
 cases op <;> simp only [a26] at hs <;> try (cases hs; done)
 all_goals simp only [b6p] at h
 case add | sub | mul | and | or | xor | andNot =>
  rw [T.val_ret] at h
  subst h
  exact ⟨_, by simp only [binOp, ne_eq, not_true_eq_false, if_false]; rfl, rfl⟩
 case quo | rem =>
  simp only [T.val_ite, T.val_ret, T.val_fail, and_false, false_or] at h
  obtain ⟨h0, rfl⟩ := h
  exact ⟨_, by simp only [binOp, ne_eq, not_true_eq_false, if_false, Op.intDiv, h0]; rfl, rfl⟩
 all_goals
  rw [T.val_ofOpt] at h
  obtain ⟨v, h1, h2⟩ := b7p (P := P) (ρ := ρ) h w
  exact ⟨v, by simp only [binOp, ne_eq, not_true_eq_false, if_false]; exact h1, h2⟩
theorem b4o {op : BinOp} {t : TypeId} {k : IntKind} {x y : Int} {r : A1} (hs : a26 op = false) (h : (b7F op k x y).val = some r) (w : World) :
  ∃ v, (binOp op t (.int k x) (.int k y)).run P w = .ok v w ∧ A1.rel ρ r v := by
 refine b0Y hs ?_ w
 unfold b7F at h
 split at h
 ·split at h
  ·simp [T.val_fail] at h
  ·rename_i hd
   simp only [b6p, T.val_ite, T.val_ret, T.val_fail, and_false, false_or] at h ⊢
   exact ⟨of_decide_eq_false hd, h⟩
 ·split at h
  ·simp [T.val_fail] at h
  ·rename_i hd
   simp only [b6p, T.val_ite, T.val_ret, T.val_fail, and_false, false_or] at h ⊢
   exact ⟨of_decide_eq_false hd, h⟩
 ·exact h
theorem a3A (op : BinOp) (t : TypeId) (x y : Operand) (k k' : IntKind) (m n : Int) (w : World) : (eqGuard op t x y (.int k m) (.int k' n)).run P w = .ok () w := by
 cases op <;> rfl
theorem a2B (op : BinOp) (t : TypeId) (x y : Operand) (m n : Bool) (w : World) : (eqGuard op t x y (.bool m) (.bool n)).run P w = .ok () w := by
 cases op <;> rfl
theorem a0y (op : BinOp) (t : TypeId) (x y : Operand) (m n : ByteArray) (w : World) : (eqGuard op t x y (.string m) (.string n)).run P w = .ok () w := by
 cases op <;> rfl
theorem run_eqGuard_agg (op : BinOp) {t e : TypeId} (x y : Operand) {n : Nat} (ht : P.underlying t = some (.array n e)) (he : (∃ k, P.underlying e = some (.int k)) ∨ P.underlying e = some .bool) (m p : Array Value) (w : World) :
  (eqGuard op t x y (.agg m) (.agg p)).run P w = .ok () w := by
 unfold eqGuard
 have hd : P.eqGuardType P.depth t = false := by
  unfold Program.depth
  rcases he with ⟨k, he⟩ | he <;> simp [Program.eqGuardType, ht, he]
 by_cases h : (!(match op with | .eql | .neq => true | _ => false)) = true
 ·cases op <;> simp_all
 ·cases op <;> simp_all [program, Sem.run]
theorem a9J (d : Nat) {e : TypeId} {i : TyI} (hk : TyOk P e i) {kc : CK} {q : Int → Int → Bool} (he : ∀ (x y : Int) (w : World), (Op.equalIn d e (kc.val x) (kc.val y)).run P w = .ok (q x y) w) (hagg : i.td.agg = false) (X Y : List Int) (w : World) :
  ∀ (is : List Nat), (∀ j ∈ is, j < X.length ∧ j < Y.length) →
  (Op.eqItems d e 1 (X.map kc.val).toArray (Y.map kc.val).toArray is).run P w = .ok (is.all fun j => q (X.getD j 0) (Y.getD j 0)) w
 | [], _ => by simp [Op.eqItems]
 | j :: is, h => by
  obtain ⟨hx, hy⟩ := h j (by simp)
  have ih := a9J d hk he hagg X Y w is (fun j hj => h j (by simp [hj]))
  have px : ∀ (Z : List Int), j < Z.length → (part e (Z.map kc.val).toArray (j * 1)).run P w = .ok (kc.val (Z.getD j 0)) w := by
   intro Z hz
   simp [part, hk.agg_iff w, hagg, List.getElem?_map, List.getElem?_eq_getElem hz, List.getD]
  simp only [Op.eqItems, Sem.run_bind, px X hx, px Y hy, Result.andThen_ok, he, List.all_cons]
  cases hxy : q (X.getD j 0) (Y.getD j 0)
  ·simp only [Bool.not_false, if_true, Bool.false_and, Sem.run_pure]
  ·simp only [Bool.not_true, Bool.false_eq_true, if_false, Bool.true_and]
   exact ih
theorem b57 {α : Type} (f : Int → α) [DecidableEq α] {X Y : List Int} {n : Nat} (hx : X.length = n) (hy : Y.length = n) : ((List.range n).all fun j => decide (f (X.getD j 0) = f (Y.getD j 0))) = decide (X.map f = Y.map f) := by
 rw [Bool.eq_iff_iff]
 simp only [List.all_eq_true, List.mem_range, decide_eq_true_eq]
 constructor
 ·intro h
  apply List.ext_getElem?
  intro j
  by_cases hj : j < n
  ·have := h j hj
   simp only [List.getD, List.getElem?_eq_getElem (show j < X.length by omega), List.getElem?_eq_getElem (show j < Y.length by omega), Option.getD_some] at this
   simp [List.getElem?_map, List.getElem?_eq_getElem (show j < X.length by omega), List.getElem?_eq_getElem (show j < Y.length by omega), this]
  ·simp [List.getElem?_map, List.getElem?_eq_none (show X.length ≤ j by omega), List.getElem?_eq_none (show Y.length ≤ j by omega)]
 ·intro h j hj
  have e : (X.map f)[j]? = (Y.map f)[j]? := by rw [h]
  simp only [List.getElem?_map, List.getElem?_eq_getElem (show j < X.length by omega), List.getElem?_eq_getElem (show j < Y.length by omega), Option.map_some, Option.some.injEq] at e
  simp [List.getD, List.getElem?_eq_getElem (show j < X.length by omega), List.getElem?_eq_getElem (show j < Y.length by omega), e]
theorem b4d {e : TypeId} {i : TyI} (hk : TyOk P e i) (h : i.size = 1) : P.cellsOf e = 1 := by
 obtain ⟨f, z, h1, h2, _⟩ := hk.info
 simp [Program.cellsOf, h1, h2, h]
theorem b6N {t e : TypeId} {n : Nat} {i : TyI} (ht : P.underlying t = some (.array n e)) (hk : TyOk P e i) (hagg : i.td.agg = false) {kc : CK} {α : Type} [DecidableEq α] (f : Int → α)
  (he : ∀ (d : Nat) (x y : Int) (w : World), (Op.equalIn (d + 1) e (kc.val x) (kc.val y)).run P w = .ok (decide (f x = f y)) w) {X Y : List Int} (hx : X.length = n) (hy : Y.length = n) (w : World) :
  (Op.equal t (.agg (X.map kc.val).toArray) (.agg (Y.map kc.val).toArray)).run P w = .ok (decide (X.map f = Y.map f)) w := by
 obtain ⟨g, z, h1, _⟩ := hk.info
 unfold Op.equal Op.maxDepth
 rw [run_equalIn_array w 9999 _ _ ht h1, b4d hk (hk.one hagg), a9J 9999 hk (he 9998) hagg X Y w (List.range n) (fun j hj => by rw [List.mem_range] at hj; omega), b57 f hx hy]
theorem a7u {o : Oper} {op : BinOp} {t e yt : TypeId} {x y : Operand} (ho : o.op = .binOp op t x y yt) (hr : Rel ρ B w0 st a w) {n : Nat} {i : TyI} (ht : P.underlying t = some (.array n e)) (hk : TyOk P e i) (hagg : i.td.agg = false)
  (heg : (∃ k, P.underlying e = some (.int k)) ∨ P.underlying e = some .bool) {kc : CK} {α : Type} [DecidableEq α] (f : Int → α)
  (he : ∀ (d : Nat) (x y : Int) (w : World), (Op.equalIn (d + 1) e (kc.val x) (kc.val y)).run P w = .ok (decide (f x = f y)) w) {X Y : List Int} (hx : X.length = n) (hy : Y.length = n)
  (hvx : a.eval x = .agg (X.map kc.val).toArray) (hvy : a.eval y = .agg (Y.map kc.val).toArray) {r : A1}
  (hop : (op = .eql ∧ A1.rel ρ r (.bool (decide (X.map f = Y.map f)))) ∨ (op = .neq ∧ A1.rel ρ r (.bool (!decide (X.map f = Y.map f))))) : FitsV P ρ B w0 (st.putA o.dst r) o a w := by
 have hg := run_eqGuard_agg op x y ht heg (X.map kc.val).toArray (Y.map kc.val).toArray w
 have he' := b6N ht hk hagg f he hx hy w
 rcases hop with ⟨rfl, hop⟩ | ⟨rfl, hop⟩
 ·exact ⟨_, w, ρ, by simp only [execOp, ho, hvx, hvy, Sem.run_bind, hg, Result.andThen_ok, binOp, he', Sem.run_pure], .refl ρ, hr.putA o.dst hop⟩
 ·exact ⟨_, w, ρ, by simp only [execOp, ho, hvx, hvy, Sem.run_bind, hg, Result.andThen_ok, binOp, he', Sem.run_pure], .refl ρ, hr.putA o.dst hop⟩
def b1t (P : Program) (k : IntKind) : Nat → List Field → Bool
 | _, [] => true
 | j, f :: r => (f.name != "_") && (match P.underlying f.type with
  | some (.int k') => decide (k = k')
  | _ => false) && Nat.beq f.offset j && b1t P k (j + 1) r
theorem a7b {k : IntKind} {d : Nat} {X Y : List Int} {w : World} : ∀ {l : List Field} {j : Nat}, b1t P k j l = true → j + l.length = X.length → X.length = Y.length →
  (Op.eqFields (d + 1) (X.map (Value.int k)).toArray (Y.map (Value.int k)).toArray l).run P w = .ok (decide (X.drop j = Y.drop j)) w
 | [], j, _, h1, h2 => by
  simp only [List.length_nil, Nat.add_zero] at h1
  rw [List.drop_of_length_le (by omega), List.drop_of_length_le (by omega)]
  simp [Op.eqFields]
 | f :: r, j, h, h1, h2 => by
  simp only [b1t, Bool.and_eq_true, bne_iff_ne] at h
  obtain ⟨⟨⟨hn, ht⟩, ho⟩, hr⟩ := h
  have ho := i5 ho
  simp only [List.length_cons] at h1
  have hx : j < X.length := by omega
  have hy : j < Y.length := by omega
  have hu : P.underlying f.type = some (.int k) := by
   split at ht
   ·rename_i k' e; rw [of_decide_eq_true ht, e]
   ·cases ht
  have px : ∀ (Z : List Int) (hz : j < Z.length), (part f.type (Z.map (Value.int k)).toArray f.offset).run P w = .ok (.int k Z[j]) w := by
   intro Z hz
   have hagg : (isAgg f.type).run P w = .ok false w := by
    unfold isAgg
    rw [Sem.run_bind, run_underlying hu w]
    rfl
   simp [part, hagg, ho, List.getElem?_map, List.getElem?_eq_getElem hz]
  have ih := a7b (d := d) (w := w) (X := X) (Y := Y) hr (by omega) h2
  rw [List.drop_eq_getElem_cons hx, List.drop_eq_getElem_cons hy]
  simp only [Op.eqFields, ne_eq, hn, not_false_eq_true, if_true, Sem.run_bind, px X hx, px Y hy, Result.andThen_ok, run_equalIn_int w d f.type k k X[j] Y[j] hu, List.cons.injEq]
  by_cases e : X[j] = Y[j]
  ·simp only [e, beq_self_eq_true, Bool.not_true, Bool.false_eq_true, if_false, ih, true_and]
  ·simp [e]
theorem StEq.of {t : TypeId} {k : IntKind} {n : Nat} (h1 : P.underlying t = some (.struct (P.fieldsOf t))) (h2 : P.stoodInHeld t = false) (h3 : P.eqGuardType P.depth t = false) (h4 : b1t P k 0 (P.fieldsOf t).toList = true)
  (h5 : Nat.beq (P.fieldsOf t).toList.length n = true) : StEq P t k n := by
 refine ⟨h3, fun X Y w hX hY => ?_⟩
 have h5 := i5 h5
 unfold Op.equal Op.maxDepth
 rw [run_equalIn_agg w 9999 t _ _ h1 h2, a7b h4 (by omega) (by omega)]
 simp
theorem b48 {o : Oper} {op : BinOp} {t yt : TypeId} {x y : Operand} (ho : o.op = .binOp op t x y yt) (hr : Rel ρ B w0 st a w) {k : IntKind} {n : Nat} (hq : StEq P t k n) {X Y : List Int} (hx : X.length = n) (hy : Y.length = n)
  (hvx : a.eval x = .agg (X.map (Value.int k)).toArray) (hvy : a.eval y = .agg (Y.map (Value.int k)).toArray) {r : A1}
  (hop : (op = .eql ∧ A1.rel ρ r (.bool (decide (X = Y)))) ∨ (op = .neq ∧ A1.rel ρ r (.bool (!decide (X = Y))))) : FitsV P ρ B w0 (st.putA o.dst r) o a w := by
 have hg := Go.run_eqGuard_agg w op t x y (X.map (Value.int k)).toArray (Y.map (Value.int k)).toArray hq.1
 have he' := hq.2 X Y w hx hy
 rcases hop with ⟨rfl, hop⟩ | ⟨rfl, hop⟩
 ·exact ⟨_, w, ρ, by simp only [execOp, ho, hvx, hvy, Sem.run_bind, hg, Result.andThen_ok, binOp, he', Sem.run_pure], .refl ρ, hr.putA o.dst hop⟩
 ·exact ⟨_, w, ρ, by simp only [execOp, ho, hvx, hvy, Sem.run_bind, hg, Result.andThen_ok, binOp, he', Sem.run_pure], .refl ρ, hr.putA o.dst hop⟩
theorem b33 {o : Oper} {op : BinOp} {t yt : TypeId} {x y : Operand} {E : AE} (hE : ∀ t i, E.ty t = some i → TyOk P t i) (ho : o.op = .binOp op t x y yt) (hr : Rel ρ B w0 st a w) {ad : Option Addr} {len c : Nat} (hvx : a.eval x = .slice ad len c) (had : len ≠ 0 → ad ≠ none)
  (hvy : a.eval y = .slice none 0 0) (h : (b6z E st o.dst op t len).val = some st') : FitsV P ρ B w0 st' o a w := by
 unfold b6z at h
 split at h
 ·rename_i e htd
  rw [Option.map_eq_some_iff] at htd
  obtain ⟨ti, g1, g2⟩ := htd
  obtain ⟨d, hd, hdd⟩ := (hE t _ g1).desc
  rw [g2] at hdd
  simp only [TD.is] at hdd
  subst hdd
  have hg : ∀ op : BinOp, (eqGuard op t x y (.slice ad len c) (.slice none 0 0)).run P w = .ok () w := by intro op; cases op <;> rfl
  have heq : (Op.equal t (.slice ad len c) (.slice none 0 0)).run P w = .ok (ad.isNone) w := by
   show (Op.equalIn (9999 + 1) t _ _).run P w = _
   rw [Op.equalIn, Sem.run_bind, run_underlying hd w]
   cases ad <;> rfl
  split at h
  ·simp only [T.val_ite, T.val_ret] at h
   have hrun : (execOp a.eval o).run P w = .ok (.value (.bool ad.isNone)) w := by
    simp only [execOp, ho, hvx, hvy, Sem.run_bind, hg, Result.andThen_ok, binOp, heq, Sem.run_pure]
   rcases h with ⟨_, rfl⟩ | ⟨hn, rfl⟩
   ·exact ⟨_, w, ρ, hrun, .refl ρ, hr.putA o.dst ⟨_, rfl⟩⟩
   ·refine ⟨_, w, ρ, hrun, .refl ρ, hr.putA o.dst ?_⟩
    cases ad with
    | none => exact absurd rfl (had hn)
    | some _ => rfl
  ·simp only [T.val_ite, T.val_ret] at h
   have hrun : (execOp a.eval o).run P w = .ok (.value (.bool (!ad.isNone))) w := by
    simp only [execOp, ho, hvx, hvy, Sem.run_bind, hg, Result.andThen_ok, binOp, heq, Sem.run_pure]
   rcases h with ⟨_, rfl⟩ | ⟨hn, rfl⟩
   ·exact ⟨_, w, ρ, hrun, .refl ρ, hr.putA o.dst ⟨_, rfl⟩⟩
   ·refine ⟨_, w, ρ, hrun, .refl ρ, hr.putA o.dst ?_⟩
    cases ad with
    | none => exact absurd rfl (had hn)
    | some _ => rfl
  ·simp [T.val_fail] at h
 ·simp [T.val_fail] at h
theorem a55 {t e : TypeId} (ht : P.underlying t = some (.pointer e)) (p : Addr) (w : World) : (Op.equal t (.pointer (some p)) (.pointer none)).run P w = .ok false w := by
 have key : ∀ d, (Op.equalIn (d + 1) t (.pointer (some p)) (.pointer none)).run P w = .ok false w := by
  intro d
  rw [Op.equalIn, Sem.run_bind, run_underlying ht w]
  rfl
 exact key 9999
theorem a3B (op : BinOp) (t : TypeId) (x y : Operand) (m n : Option Addr) (w : World) : (eqGuard op t x y (.pointer m) (.pointer n)).run P w = .ok () w := by
 cases op <;> rfl
def b8I (P : Program) (t : TypeId) : Prop := ∃ ms, P.underlying t = some (.interface ms)
def b93 (P : Program) (t i : TypeId) : Prop := ∃ want info, P.underlying i = some (.interface want) ∧ P.info? t = some info ∧ Instr.missingMethod want info.methods = none
theorem a1b {x : TV} {t : TypeId} {y : AV} (h : c0S x = some (t, y)) {v : Value} (hv : TV.rel ρ x v) : ∃ u, v = .iface t u ∧ AV.rel ρ y u := by
 unfold c0S at h
 split at h <;> cases h
 ·have hv : v = _ := hv
  exact ⟨_, hv, rfl⟩
 ·have hv : v = _ := hv
  exact ⟨_, hv, [_], rfl, _, _, rfl, rfl, rfl⟩
 ·obtain ⟨l, blk, f0, g1, g2, rfl⟩ := hv
  exact ⟨_, rfl, [_], rfl, _, _, rfl, ⟨l, blk, f0, g1, g2, rfl⟩, rfl⟩
 ·obtain ⟨l, blk, f0, g1, g2, rfl⟩ := hv
  exact ⟨_, rfl, [_, _], rfl, _, _, rfl, ⟨l, blk, f0, g1, g2, rfl⟩, _, _, rfl, rfl, rfl⟩
theorem a4t {op : BinOp} {t : TypeId} {x y : Operand} {u : Value} {t0 : TypeId} : (eqGuard op t x y (.iface t0 u) .nilIface).run P w = .ok () w := by
 cases op <;> rfl
theorem a7q {t : TypeId} {ms : Array (String × TypeId)} (h : P.underlying t = some (.interface ms)) {t0 : TypeId} {u : Value} : (Op.equal t (.iface t0 u) .nilIface).run P w = .ok false w := by
 have key : ∀ d, (Op.equalIn (d + 1) t (.iface t0 u) .nilIface).run P w = .ok false w := by
  intro d
  rw [Op.equalIn, Sem.run_bind, run_underlying h w]
  rfl
 exact key 9999
theorem a3C {t : TypeId} {ms : Array (String × TypeId)} (h : P.underlying t = some (.interface ms)) : (Op.equal t .nilIface .nilIface).run P w = .ok true w := by
 have key : ∀ d, (Op.equalIn (d + 1) t .nilIface .nilIface).run P w = .ok true w := by
  intro d
  rw [Op.equalIn, Sem.run_bind, run_underlying h w]
  rfl
 exact key 9999
theorem b42 {E : AE} (hE : ∀ t i, E.ty t = some i → TyOk P t i) (hQ : ∀ t k n, E.eqs t = some (k, n) → StEq P t k n) (hI : ∀ t, E.ifc t = true → b8I P t) {nm : Nat} {o : Oper} {op : BinOp} {t yt : TypeId} {x y : Operand} (ho : o.op = .binOp op t x y yt) (hr : Rel ρ B w0 st a w) (h : (j8 E nm o st).val = some st') : FitsV P ρ B w0 st' o a w := by
 have hx := hr.get x
 have hy := hr.get y
 simp only [j8, ho] at h
 unfold c1J at h
 split at h
 ·rename_i k m k' n ex ey
  rw [ex] at hx
  rw [ey] at hy
  have hx' : a.eval x = .int k m := hx
  have hy' : a.eval y = .int k' n := hy
  have shift : a26 op = true → ∀ (r : A1), (∃ v, (Op.shift op k m k' n).run P w = .ok v w ∧ A1.rel ρ r v) → FitsV P ρ B w0 (st.putA o.dst r) o a w := by
   intro hs r ⟨v, h1, h2⟩
   refine ⟨v, w, ρ, ?_, .refl ρ, hr.putA o.dst h2⟩
   simp only [execOp, ho, hx', hy', Sem.run_bind, a3A, Result.andThen_ok]
   cases op <;> simp only [a26] at hs <;> first | (cases hs; done) | simp only [binOp, h1, Result.andThen_ok, Sem.run_pure]
  have plain : k = k' → ∀ (r : A1), (∃ v, (binOp op t (.int k m) (.int k n)).run P w = .ok v w ∧ A1.rel ρ r v) → FitsV P ρ B w0 (st.putA o.dst r) o a w := by
   intro hk r ⟨v, h1, h2⟩
   subst hk
   refine ⟨v, w, ρ, ?_, .refl ρ, hr.putA o.dst h2⟩
   simp only [execOp, ho, hx', hy', Sem.run_bind, a3A, Result.andThen_ok, h1, Sem.run_pure]
  split at h
  ·simp only [T.val_bind_iff, T.val_ret] at h
   obtain ⟨r, h1, rfl⟩ := h
   exact shift (by assumption) r (b6W h1 w).2
  ·simp only [T.val_bind_iff, T.val_ret] at h
   obtain ⟨r, h1, rfl⟩ := h
   exact shift (by assumption) r (b3Z h1 w).2
  ·split at h
   ·rename_i hk
    simp only [T.val_bind_iff, T.val_ret] at h
    obtain ⟨r, h1, rfl⟩ := h
    exact plain hk r (b4o (by assumption) h1 w)
   ·simp [T.val_fail] at h
  ·split at h
   ·rename_i hk
    simp only [T.val_bind_iff, T.val_ret] at h
    obtain ⟨r, h1, rfl⟩ := h
    exact plain hk r (b0Y (by assumption) h1 w)
   ·simp [T.val_fail] at h
 ·rename_i la lb ex ey
  rw [ex] at hx
  rw [ey] at hy
  obtain ⟨ca, hca, sa⟩ := hx
  obtain ⟨cb, hcb, sb⟩ := hy
  split at h
  ·rename_i n e _ _ _ ht
   obtain ⟨d, hd, hdd⟩ := (hE t _ ht).desc
   simp only [TD.is] at hdd
   subst hdd
   split at h
   ·rename_i k he
    rw [Option.map_eq_some_iff] at he
    obtain ⟨ti, he1, he2⟩ := he
    obtain ⟨de, hde, hdde⟩ := (hE e _ he1).desc
    rw [he2] at hdde
    simp only [TD.is] at hdde
    subst hdde
    split at h
    ·rename_i X Y h1 h2 h3 h4
     have eX := l6 h3 sa
     have eY := l6 h4 sb
     have lX : X.length = n := by have := v8 sa; rw [eX, List.length_map] at this; rw [this]; exact i5 h1
     have lY : Y.length = n := by have := v8 sb; rw [eY, List.length_map] at this; rw [this]; exact i5 h2
     have key := fun (r : A1) => a7u (st := st) (r := r) ho hr hd (hE e ti he1) (by rw [he2]; rfl) (.inl ⟨k, hde⟩) (kc := .int k) (fun z => z)
      (fun d x y w => by rw [show CK.val (.int k) x = .int k x from rfl, show CK.val (.int k) y = .int k y from rfl, run_equalIn_int w d e k k x y hde]; rfl) lX lY (by rw [hca, eX]) (by rw [hcb, eY])
     split at h
     ·rw [T.val_ret] at h
      subst h
      exact key _ (.inl ⟨rfl, by simp only [b9P, A1.rel, List.map_id']⟩)
     ·rw [T.val_ret] at h
      subst h
      exact key _ (.inr ⟨rfl, by simp only [b9P, A1.rel, List.map_id', ne_eq, decide_not]⟩)
     ·simp [T.val_fail] at h
    ·simp [T.val_fail] at h
   ·rename_i he
    rw [Option.map_eq_some_iff] at he
    obtain ⟨ti, he1, he2⟩ := he
    obtain ⟨de, hde, hdde⟩ := (hE e _ he1).desc
    rw [he2] at hdde
    simp only [TD.is] at hdde
    subst hdde
    split at h
    ·rename_i X Y h1 h2 h3 h4
     have eX := l6 h3 sa
     have eY := l6 h4 sb
     have lX : X.length = n := by have := v8 sa; rw [eX, List.length_map] at this; rw [this]; exact i5 h1
     have lY : Y.length = n := by have := v8 sb; rw [eY, List.length_map] at this; rw [this]; exact i5 h2
     have key := fun (r : A1) => a7u (st := st) (r := r) ho hr hd (hE e ti he1) (by rw [he2]; rfl) (.inr hde) (kc := .bool) (fun z => z != 0)
      (fun d x y w => by rw [show CK.val .bool x = .bool (x != 0) from rfl, show CK.val .bool y = .bool (y != 0) from rfl, run_equalIn_bool w d e _ _ hde]; congr 1) lX lY (by rw [hca, eX]) (by rw [hcb, eY])
     split at h
     ·rw [T.val_ret] at h
      subst h
      exact key _ (.inl ⟨rfl, by simp only [c1M, A1.rel]⟩)
     ·rw [T.val_ret] at h
      subst h
      exact key _ (.inr ⟨rfl, by simp only [c1M, A1.rel, ne_eq, decide_not]⟩)
     ·simp [T.val_fail] at h
    ·simp [T.val_fail] at h
   ·simp [T.val_fail] at h
  ·split at h
   rotate_left
   ·simp [T.val_fail] at h
   rename_i k n hq0
   have hq := hQ t k n hq0
   split at h
   ·rename_i X Y h1 h2 h3 h4
    have eX := l6 h3 sa
    have eY := l6 h4 sb
    have lX := v8 sa
    rw [eX, List.length_map, i5 h1] at lX
    have lY := v8 sb
    rw [eY, List.length_map, i5 h2] at lY
    have key := fun (r : A1) => b48 (st := st) (r := r) ho hr hq lX lY (by rw [hca, eX]; rfl) (by rw [hcb, eY]; rfl)
    split at h
    ·rw [T.val_ret] at h
     subst h
     exact key _ (.inl ⟨rfl, by simp only [b9P, A1.rel]⟩)
    ·rw [T.val_ret] at h
     subst h
     exact key _ (.inr ⟨rfl, by simp only [b9P, A1.rel, ne_eq, decide_not]⟩)
    ·simp [T.val_fail] at h
   ·simp [T.val_fail] at h
 ·rename_i ob len es ex ey
  rw [ex] at hx
  rw [ey] at hy
  obtain ⟨l, k1, k2, k3, k4, k5, k6, k7⟩ := hx
  refine b33 hE ho hr (k2 ▸ k4) (fun hn => ?_) hy h
  have hp : 0 < l.size := by omega
  rw [k7 hp]
  cases ha : l.a with
  | none => have := k6 ha; omega
  | some p => simp [Loc.addr, ha]
 ·rename_i dd ex ey
  rw [ex] at hx
  rw [ey] at hy
  obtain ⟨ad, c, vs, k1, k2, k3, k4⟩ := hx
  refine b33 hE ho hr k1 (fun hn => ?_) hy h
  obtain ⟨blk, cells, ty, fr, pre, post, e1, _⟩ := k4 (by rw [FD.cells_len k3]; omega)
  rw [e1]; simp
 ·rename_i s1 s2 ex ey
  rw [ex] at hx
  rw [ey] at hy
  have hx' : a.eval x = .string s1 := hx
  have hy' : a.eval y = .string s2 := hy
  have e : (s1.toList == s2.toList) = decide (s1 = s2) := by
   rw [Bool.eq_iff_iff, beq_iff_eq, decide_eq_true_iff, ByteArray.toList_eq, ByteArray.toList_eq]
   obtain ⟨⟨x⟩⟩ := s1
   obtain ⟨⟨y⟩⟩ := s2
   simp
  split at h
  ·rw [T.val_ret] at h
   subst h
   refine ⟨.bool (decide (s1 = s2)), w, ρ, ?_, .refl ρ, hr.putA o.dst rfl⟩
   simp only [execOp, ho, hx', hy', Sem.run_bind, a0y, Result.andThen_ok, binOp, Op.stringOp, e, Sem.run_pure]
  ·rw [T.val_ret] at h
   subst h
   refine ⟨.bool (decide (s1 ≠ s2)), w, ρ, ?_, .refl ρ, hr.putA o.dst rfl⟩
   simp only [execOp, ho, hx', hy', Sem.run_bind, a0y, Result.andThen_ok, binOp, Op.stringOp, e, Sem.run_pure, ne_eq, decide_not]
  ·simp [T.val_fail] at h
 ·rename_i ob b i ex ey
  rw [ex] at hx
  rw [ey] at hy
  obtain ⟨l, blk, f, _, _, hx'⟩ := hx
  have hy' : a.eval y = .pointer none := hy
  split at h
  ·rename_i el htd
   rw [Option.map_eq_some_iff] at htd
   obtain ⟨ti, g1, g2⟩ := htd
   obtain ⟨d, hd, hdd⟩ := (hE t _ g1).desc
   rw [g2] at hdd
   simp only [TD.is] at hdd
   subst hdd
   split at h
   ·rw [T.val_ret] at h
    subst h
    refine ⟨.bool false, w, ρ, ?_, .refl ρ, hr.putA o.dst rfl⟩
    simp only [execOp, ho, hx', hy', Sem.run_bind, a3B, Result.andThen_ok, binOp, a55 hd, Sem.run_pure]
   ·rw [T.val_ret] at h
    subst h
    refine ⟨.bool true, w, ρ, ?_, .refl ρ, hr.putA o.dst rfl⟩
    simp only [execOp, ho, hx', hy', Sem.run_bind, a3B, Result.andThen_ok, binOp, a55 hd, Sem.run_pure, Bool.not_false]
   ·simp [T.val_fail] at h
  ·simp [T.val_fail] at h
 ·rename_i ex ey
  rw [ex] at hx
  rw [ey] at hy
  have hx' : a.eval x = .nilIface := hx
  have hy' : a.eval y = .nilIface := hy
  have hg : ∀ op : BinOp, a4Q y = true → (eqGuard op t x y .nilIface .nilIface).run P w = .ok () w := by
   intro op hc
   cases y <;> simp only [a4Q] at hc <;> first | (cases hc; done) | (cases op <;> simp [eqGuard])
  split at h
  ·rename_i h1 h2
   obtain ⟨ms, hms⟩ := hI t h1
   rw [T.val_ret] at h
   subst h
   refine ⟨.bool true, w, ρ, ?_, .refl ρ, hr.putA o.dst rfl⟩
   simp only [execOp, ho, hx', hy', Sem.run_bind, hg _ h2, Result.andThen_ok, binOp, a3C hms, Sem.run_pure]
  ·rename_i h1 h2
   obtain ⟨ms, hms⟩ := hI t h1
   rw [T.val_ret] at h
   subst h
   refine ⟨.bool false, w, ρ, ?_, .refl ρ, hr.putA o.dst rfl⟩
   simp only [execOp, ho, hx', hy', Sem.run_bind, hg _ h2, Result.andThen_ok, binOp, a3C hms, Sem.run_pure, Bool.not_true]
  ·simp [T.val_fail] at h
 ·rename_i ey _
  rw [ey] at hy
  have hy' : a.eval y = .nilIface := hy
  split at h
  ·rename_i t0 av hi h1
   obtain ⟨u, hu, -⟩ := a1b hi hx
   obtain ⟨ms, hms⟩ := hI t h1
   rw [T.val_ret] at h
   subst h
   refine ⟨.bool false, w, ρ, ?_, .refl ρ, hr.putA o.dst rfl⟩
   simp only [execOp, ho, hu, hy', Sem.run_bind, a4t, Result.andThen_ok, binOp, a7q hms, Sem.run_pure]
  ·rename_i t0 av hi h1
   obtain ⟨u, hu, -⟩ := a1b hi hx
   obtain ⟨ms, hms⟩ := hI t h1
   rw [T.val_ret] at h
   subst h
   refine ⟨.bool true, w, ρ, ?_, .refl ρ, hr.putA o.dst rfl⟩
   simp only [execOp, ho, hu, hy', Sem.run_bind, a4t, Result.andThen_ok, binOp, a7q hms, Sem.run_pure, Bool.not_false]
  ·simp [T.val_fail] at h
 ·split at h
  ·rename_i p q e1 e2 e3
   rw [Option.map_eq_some_iff] at e3
   obtain ⟨ti, g1, g2⟩ := e3
   obtain ⟨d, hd, hdd⟩ := (hE t _ g1).desc
   rw [g2] at hdd
   simp only [TD.is] at hdd
   subst hdd
   have key : ∀ {X : TV} {v : Value} {p : BP}, asP X = some p → TV.rel ρ X v → v = .bool (@decide p.p p.d) := by
    intro X v p h1 h2
    unfold asP at h1
    split at h1
    ·rename_i b
     cases h1
     have h2' : v = .bool b := h2
     rw [h2']; congr 1; cases b <;> rfl
    ·cases h1; exact h2
    ·cases h1
   have hx' := key e1 hx
   have hy' := key e2 hy
   split at h
   ·rw [T.val_ret] at h
    subst h
    refine ⟨_, w, ρ, ?_, .refl ρ, hr.putA o.dst rfl⟩
    simp only [execOp, ho, hx', hy', Sem.run_bind, a2B, Result.andThen_ok, binOp, run_equal_bool w t _ _ hd, Sem.run_pure]
    rfl
   ·rw [T.val_ret] at h
    subst h
    refine ⟨_, w, ρ, ?_, .refl ρ, hr.putA o.dst rfl⟩
    simp only [execOp, ho, hx', hy', Sem.run_bind, a2B, Result.andThen_ok, binOp, run_equal_bool w t _ _ hd, Sem.run_pure, ne_eq, decide_not]
    rfl
   ·simp [T.val_fail] at h
  ·simp [T.val_fail] at h
end
end Go.Ax
namespace Go.Ax
open Go.RowKit
variable {P : Program}
section
variable {ρ : Env} {B : Nat} {w0 : Base} {st st' : St} {a : Act} {w : World}
theorem b61 {E : AE} {nm : Nat} {o : Oper} {op : UnOp} {t : TypeId} {x : Operand} (ho : o.op = .unOp op t x) (hr : Rel ρ B w0 st a w) (h : (j8 E nm o st).val = some st') : FitsV P ρ B w0 st' o a w := by
 have hx := hr.get x
 simp only [j8, ho] at h
 split at h
 ·rename_i k n e
  rw [e] at hx
  have hx' : a.eval x = .int k n := hx
  rw [T.val_ret] at h
  subst h
  exact ⟨.int k (k.wrap (0 - n)), w, ρ, by simp [execOp, ho, hx', Op.unary, Op.intArith], .refl ρ, hr.putA o.dst rfl⟩
 ·rename_i k n e
  rw [e] at hx
  have hx' : a.eval x = .int k n := hx
  rw [T.val_ret] at h
  subst h
  exact ⟨.int k (c1Q k (if k.signed then -1 else k.max) n), w, ρ, by simp [execOp, ho, hx', Op.unary, Op.intBits, c1Q, a9Y], .refl ρ, hr.putA o.dst rfl⟩
 ·rename_i y e
  rw [e] at hx
  split at h
  ·rename_i r hr'
   rw [T.val_ret] at h
   subst h
   unfold c2m at hr'
   split at hr'
   ·rename_i b
    cases hr'
    have hx' : a.eval x = .bool b := hx
    exact ⟨.bool (!b), w, ρ, by simp [execOp, ho, hx', Op.unary], .refl ρ, hr.putA o.dst (by cases b <;> rfl)⟩
   ·rename_i p d
    cases hr'
    have hx' : a.eval x = .bool (@decide p d) := hx
    exact ⟨.bool (!decide p), w, ρ, by simp [execOp, ho, hx', Op.unary], .refl ρ, hr.putA o.dst (by simp [A1.rel])⟩
   ·cases hr'
  ·simp [T.val_fail] at h
 ·simp [T.val_fail] at h
theorem a8v (hr : Rel ρ B w0 st a w) {x : Option Operand} {d most : Nat} {K : Nat → T St} (h : (A3 st x d most K).val = some st') :
  ∃ n, (K n).val = some st' ∧ ((x = none ∧ n = d) ∨ ∃ y, x = some y ∧ n ≤ most ∧ ∀ (w : World) (m : Nat) (code : BoundsCode), most ≤ m → (Instr.sliceBound (a.eval y) m code).run P w = .ok n w) := by
 unfold A3 at h
 split at h
 ·exact ⟨d, h, .inl ⟨rfl, rfl⟩⟩
 ·rename_i y
  have hy := hr.get y
  split at h
  ·rename_i k j e
   have hv := T2 e hy
   have key : ∀ n : Nat, (0 : Int) ≤ j → j = (n : Int) → n ≤ most → ∀ (w : World) (m : Nat) (code : BoundsCode), most ≤ m → (Instr.sliceBound (a.eval y) m code).run P w = .ok n w := by
    intro n h0 hn hle w m code hm
    have hc : (0 ≤ j ∧ j ≤ (m : Int)) := ⟨h0, by omega⟩
    have : j.toNat = n := by omega
    simp [Instr.sliceBound, hv, asIntOf, hc, this]
   split at h
   ·split at h
    ·rename_i j'
     simp only [T.val_ite, T.val_fail, and_false, or_false] at h
     exact ⟨j', h.2, .inr ⟨y, rfl, h.1, key j' (by simp) rfl h.1⟩⟩
    ·simp [T.val_fail] at h
   ·simp only [T.val_ite, T.val_fail, and_false, or_false] at h
    obtain ⟨h0, h1, h2⟩ := h
    exact ⟨j.toNat, h2, .inr ⟨y, rfl, by omega, key _ h0 (by omega) (by omega)⟩⟩
  ·simp [T.val_fail] at h
theorem T4 (hr : Rel ρ B w0 st a w) {lo hi : Option Operand} {len most : Nat} (hlm : len ≤ most) {K : Nat → Nat → T St} (h : (A3 st hi len len fun h => A3 st lo 0 h fun l => K h l).val = some st') :
  ∃ hN lN, (K hN lN).val = some st' ∧ lN ≤ hN ∧ hN ≤ len ∧ ∀ (b : Bool) (w : World), (Instr.sliceBounds b len most (lo.map a.eval) (hi.map a.eval) none).run P w = .ok (lN, hN, most) w := by
 obtain ⟨hN, h1, c1⟩ := a8v (P := P) hr h
 obtain ⟨lN, h2, c2⟩ := a8v (P := P) hr h1
 have hh : hN ≤ len := by
  rcases c1 with ⟨_, rfl⟩ | ⟨_, _, q, _⟩
  ·exact Nat.le_refl _
  ·exact q
 have hl : lN ≤ hN := by
  rcases c2 with ⟨_, rfl⟩ | ⟨_, _, q, _⟩
  ·exact Nat.zero_le _
  ·exact q
 refine ⟨hN, lN, h2, hl, hh, fun b w => ?_⟩
 unfold Instr.sliceBounds
 rcases c1 with ⟨rfl, rfl⟩ | ⟨y, rfl, q, q'⟩
 ·rcases c2 with ⟨rfl, rfl⟩ | ⟨z, rfl, r, r'⟩
  ·simp
  ·simp [r' w hN _ (Nat.le_refl _)]
 ·rcases c2 with ⟨rfl, rfl⟩ | ⟨z, rfl, r, r'⟩
  ·simp [q' w most _ hlm]
  ·simp [q' w most _ hlm, r' w hN _ (Nat.le_refl _)]
theorem FD.sub_len {d : FD} {l h : Nat} (hl : l ≤ h) (hh : h ≤ d.len) : (d.sub l h).len = h - l := by
 cases d with
 | xs k zs => have hh : h ≤ zs.length := hh; simp only [FD.sub, FD.len, List.length_take, List.length_drop]; omega
 | xss k r => have hh : h ≤ r.length := hh; simp only [FD.sub, FD.len, List.length_take, List.length_drop]; omega
theorem FD.sub_cells {d : FD} {vs : List Value} (h : d.cells ρ vs) (l n : Nat) : (d.sub l n).cells ρ ((vs.drop l).take (n - l)) := by
 cases d with
 | xs k zs =>
  have h : vs = zs.map k.val := h
  subst h
  simp only [FD.sub, FD.cells, List.map_take, List.map_drop]
 | xss k r =>
  obtain ⟨h1, h2⟩ := h
  refine ⟨by simp only [List.length_take, List.length_drop, h1], fun i zs u e1 e2 => ?_⟩
  rw [List.getElem?_take] at e1 e2
  split at e1
  ·rename_i hi
   rw [if_pos hi] at e2
   rw [List.getElem?_drop] at e1 e2
   exact h2 _ _ _ e1 e2
  ·cases e1
theorem FD.sub_rel {d : FD} {vs : List Value} {a0 : Option Addr} {c : Nat} (hc : d.len ≤ c) (h4 : d.cells ρ vs) (h5 : b0J ρ a0 vs) {l n : Nat} (hl : l ≤ n) (hn : n ≤ d.len) :
  A1.rel ρ (.fr (d.sub l n)) (.slice (if c = l then a0 else a0.map (·.add l)) (n - l) (c - l)) := by
 have hlen := FD.cells_len h4
 refine ⟨_, _, _, by rw [FD.sub_len hl hn], by rw [FD.sub_len hl hn]; omega, FD.sub_cells h4 l n, fun hpos => ?_⟩
 simp only [List.length_take, List.length_drop] at hpos
 obtain ⟨blk, cells, t', fr, pre, post, e1, e0, e3, e4⟩ := h5 (by omega)
 refine ⟨blk, cells, t', fr, pre ++ vs.take l, vs.drop n ++ post, ?_, e0, e3, ?_⟩
 ·rw [if_neg (by omega), e1]
  simp only [Option.map_some, Addr.add_lit, List.length_append, List.length_take]
  congr 3
  omega
 ·rw [e4]
  have : vs.take l ++ ((vs.drop l).take (n - l) ++ vs.drop n) = vs := by
   have e : vs.drop n = (vs.drop l).drop (n - l) := by rw [List.drop_drop]; congr 1; omega
   rw [e, List.take_append_drop, List.take_append_drop]
  conv => lhs; rw [← this]
  simp only [List.append_assoc]
theorem b47 {E : AE} (hE : ∀ t i, E.ty t = some i → TyOk P t i) {nm : Nat} {o : Oper} {t : TypeId} {x : Operand} {lo hi : Option Operand} (ho : o.op = .slice t x lo hi none) (hr : Rel ρ B w0 st a w) (h : (j8 E nm o st).val = some st') : FitsV P ρ B w0 st' o a w := by
 have hx := hr.get x
 simp only [j8, ho] at h
 unfold b1f at h
 split at h
 ·rename_i n e _ _ _ ob b ht hp
  rw [hp] at hx
  obtain ⟨d, hd, hdd⟩ := (hE t _ ht).desc
  simp only [TD.is] at hdd
  subst hdd
  split at h
  ·rename_i te obj hte hob
   split at h
   ·rename_i hfit
    obtain ⟨hN, lN, h1, hl, hh, hb⟩ := T4 (P := P) hr (Nat.le_refl n) h
    rw [T.val_ret] at h1
    subst h1
    obtain ⟨l, blk, of0, k1, k2, k3⟩ := hx
    have hs := (hE e te hte).run_size w
    obtain ⟨_, _, _, _, _, C, _, _, _, g4, g5, _, _⟩ := hr.row hob k1 k2
    have hseg := v8 g4
    have hfit' := Nat.le_of_ble_eq_true hfit
    refine ⟨.slice (some (if n = lN then ⟨blk, of0 + b, none⟩ else ⟨blk, of0 + b + lN * te.size, none⟩)) (hN - lN) (n - lN), w, ρ, ?_, .refl ρ, hr.putA o.dst ?_⟩
    ·simp only [execOp, ho, Instr.sliceAt, Sem.run_bind, run_underlying hd, Result.andThen_ok, k3, Instr.sureAddr, Sem.run_pure, Option.map_none, hb, hs, Option.getD_none, Nat.add_zero]
     by_cases hnl : n = lN <;> simp [hnl, Addr.add_lit]
    ·have hm : (hN - lN) * te.size = hN * te.size - lN * te.size := Nat.sub_mul _ _ _
     have hm1 : lN * te.size ≤ hN * te.size := Nat.mul_le_mul_right _ hl
     have hm2 : hN * te.size ≤ n * te.size := Nat.mul_le_mul_right _ hh
     refine ⟨l, _, _, k1, by rw [d9], by rw [d9, d9]; omega, by rw [d9]; exact Nat.le_refl _, by rw [c8, U0, d9, ← g5, hseg, hm]; omega, fun hpos => ?_⟩
     rw [d9] at hpos
     rw [if_neg (by omega)]
     exact ⟨blk, of0, k2, by rw [c8, U0]; congr 2; omega⟩
   ·simp [T.val_fail] at h
  ·simp [T.val_fail] at h
 ·rename_i e _ _ _ ob len es ht hp
  rw [hp] at hx
  obtain ⟨d, hd, hdd⟩ := (hE t _ ht).desc
  simp only [TD.is] at hdd
  subst hdd
  obtain ⟨l, k1, k2, k2', k3, k4, k5, k6⟩ := hx
  split at h
  ·rename_i te hte
   split at h
   ·rename_i hes
    have hes := i5 hes
    have hlc : len ≤ l.cap := by omega
    obtain ⟨hN, lN, h1, hl, hh, hb⟩ := T4 (P := P) hr hlc h
    rw [T.val_ret] at h1
    subst h1
    have hs := (hE e te hte).run_size w
    refine ⟨.slice (if l.cap = lN then l.adr else l.adr.map (·.add (lN * te.size))) (hN - lN) (l.cap - lN), w, ρ, ?_, .refl ρ, hr.putA o.dst ?_⟩
    ·simp only [execOp, ho, Instr.sliceAt, Sem.run_bind, run_underlying hd, Result.andThen_ok, k3, Instr.slice, Option.map_none, k2, hb, hs, Sem.run_pure]
    ·have hm : (hN - lN) * te.size = hN * te.size - lN * te.size := Nat.sub_mul _ _ _
     have hm1 : lN * te.size ≤ hN * te.size := Nat.mul_le_mul_right _ hl
     have hm2 : hN * te.size ≤ len * te.size := Nat.mul_le_mul_right _ hh
     refine ⟨l, _, _, k1, by rw [d9], by rw [d9, d9]; omega, by rw [d9]; omega, by rw [U0, d9, hm, k2, k2', hes]; omega, fun hpos => ?_⟩
     rw [d9] at hpos
     rw [if_neg (by omega)]
     cases ha : l.a with
     | none => have := k5 ha; omega
     | some p => exact ⟨p.1, p.2, rfl, by rw [k6 (by omega)]; simp [Loc.addr, ha, U0, Addr.add_lit]⟩
   ·simp [T.val_fail] at h
  ·simp [T.val_fail] at h
 ·rename_i e _ _ _ ob off len cap es ht hp
  rw [hp] at hx
  obtain ⟨d, hd, hdd⟩ := (hE t _ ht).desc
  simp only [TD.is] at hdd
  subst hdd
  obtain ⟨l, a0, c, k1, k2, k3, k4, k5, k6⟩ := hx
  split at h
  ·rename_i te hte
   split at h
   ·rename_i hes
    have hes := i5 hes
    have hlc : len ≤ c := by omega
    obtain ⟨hN, lN, h1, hl, hh, hb⟩ := T4 (P := P) hr hlc h
    rw [T.val_ret] at h1
    subst h1
    have hs := (hE e te hte).run_size w
    refine ⟨.slice (if c = lN then a0 else a0.map (·.add (lN * te.size))) (hN - lN) (c - lN), w, ρ, ?_, .refl ρ, hr.putA o.dst ?_⟩
    ·simp only [execOp, ho, Instr.sliceAt, Sem.run_bind, run_underlying hd, Result.andThen_ok, k2, Instr.slice, Option.map_none, hb, hs, Sem.run_pure]
    ·have hm : (hN - lN) * te.size = hN * te.size - lN * te.size := Nat.sub_mul _ _ _
     have hm1 : lN * te.size ≤ hN * te.size := Nat.mul_le_mul_right _ hl
     have hm2 : hN * te.size ≤ len * te.size := Nat.mul_le_mul_right _ hh
     rw [hes] at k5
     refine ⟨l, _, _, k1, by rw [d9], by rw [d9, d9]; omega, by rw [d9]; omega, by rw [c8, U0, d9, hm]; omega, fun hpos => ?_⟩
     rw [d9] at hpos
     rw [if_neg (by omega)]
     obtain ⟨blk, of0, q1, q2⟩ := k6 (by omega)
     exact ⟨blk, of0, q1, by simp [q2, c8, U0, Addr.add_lit, Nat.add_assoc]⟩
   ·simp [T.val_fail] at h
  ·simp [T.val_fail] at h
 ·rename_i e _ _ _ fd ht hp
  rw [hp] at hx
  obtain ⟨d, hd, hdd⟩ := (hE t _ ht).desc
  simp only [TD.is] at hdd
  subst hdd
  obtain ⟨a0, c, vs, k2, k3, k4, k5⟩ := hx
  split at h
  ·rename_i te hte
   split at h
   ·rename_i hes
    have hes := i5 hes
    obtain ⟨hN, lN, h1, hl, hh, hb⟩ := T4 (P := P) hr k3 h
    rw [T.val_ret] at h1
    subst h1
    have hs := (hE e te hte).run_size w
    refine ⟨.slice (if c = lN then a0 else a0.map (·.add (lN * te.size))) (hN - lN) (c - lN), w, ρ, ?_, .refl ρ, hr.putA o.dst ?_⟩
    ·simp only [execOp, ho, Instr.sliceAt, Sem.run_bind, run_underlying hd, Result.andThen_ok, k2, Instr.slice, Option.map_none, hb, hs, Sem.run_pure]
    ·rw [hes, Nat.mul_one]
     exact FD.sub_rel k3 k4 k5 hl hh
   ·simp [T.val_fail] at h
  ·simp [T.val_fail] at h
 ·rename_i _ _ _ s ht hp
  rw [hp] at hx
  obtain ⟨d, hd, hdd⟩ := (hE t _ ht).desc
  simp only [TD.is] at hdd
  subst hdd
  obtain ⟨hN, lN, h1, hl, hh, hb⟩ := T4 (P := P) hr (Nat.le_refl s.size) h
  rw [T.val_ret] at h1
  subst h1
  have hx' : a.eval x = .string s := hx
  exact ⟨_, w, ρ, by simp [execOp, ho, Instr.sliceAt, run_underlying hd, hx', Instr.slice, hb], .refl ρ, hr.putA o.dst rfl⟩
 ·simp [T.val_fail] at h
theorem b31 {E : AE} (hE : ∀ t i, E.ty t = some i → TyOk P t i) {nm : Nat} {o : Oper} {t : TypeId} {x : Operand} (ho : o.op = .sliceToArrayPointer t x) (hr : Rel ρ B w0 st a w) (h : (j8 E nm o st).val = some st') : FitsV P ρ B w0 st' o a w := by
 have hx := hr.get x
 simp only [j8, ho] at h
 unfold b1n at h
 split at h
 ·rename_i n e _ _ _ ob len es ht hp
  rw [hp] at hx
  obtain ⟨d, hd, hdd⟩ := (hE t _ ht).desc
  simp only [TD.is] at hdd
  subst hdd
  obtain ⟨l, k1, k2, k2', k3, k4, k5, k6⟩ := hx
  split at h
  ·split at h
   ·simp only [T.val_ite, T.val_ret, T.val_fail, and_false, or_false] at h
    obtain ⟨hn, rfl⟩ := h
    have hpos : 0 < l.size := by omega
    cases ha : l.a with
    | none => have := k5 ha; omega
    | some p =>
     obtain ⟨blk, off⟩ := p
     have had := k6 hpos
     simp only [Loc.addr, ha, Option.map_some] at had
     refine ⟨.pointer (some ⟨blk, off, none⟩), w, ρ, ?_, .refl ρ, hr.putA o.dst ⟨l, blk, off, k1, ha, by simp⟩⟩
     simp only [execOp, ho, Instr.arrayAt, Sem.run_bind, run_underlying hd, Result.andThen_ok, k3, had, Sem.run_pure]
     rw [if_neg (by omega)]
     rfl
   ·simp [T.val_fail] at h
  ·simp [T.val_fail] at h
 ·rename_i n e _ _ _ ob off len cap es ht hp
  rw [hp] at hx
  obtain ⟨d, hd, hdd⟩ := (hE t _ ht).desc
  simp only [TD.is] at hdd
  subst hdd
  obtain ⟨l, a0, c, k1, k2, k3, k4, k5, k6⟩ := hx
  split at h
  ·split at h
   ·simp only [T.val_ite, T.val_ret, T.val_fail, and_false, or_false] at h
    obtain ⟨hn, rfl⟩ := h
    obtain ⟨blk, of0, q1, q2⟩ := k6 (by omega)
    refine ⟨.pointer (some ⟨blk, of0 + off, none⟩), w, ρ, ?_, .refl ρ, hr.putA o.dst ⟨l, blk, of0, k1, q1, by simp⟩⟩
    simp only [execOp, ho, Instr.arrayAt, Sem.run_bind, run_underlying hd, Result.andThen_ok, k2, q2, Sem.run_pure]
    rw [if_neg (by omega)]
    rfl
   ·simp [T.val_fail] at h
  ·simp [T.val_fail] at h
 ·simp [T.val_fail] at h
theorem b2o {E : AE} (hE : ∀ t i, E.ty t = some i → TyOk P t i) {nm : Nat} {o : Oper} {t : TypeId} {x : Operand} (ho : o.op = .makeInterface t x) (hr : Rel ρ B w0 st a w) (h : (j8 E nm o st).val = some st') : FitsV P ρ B w0 st' o a w := by
 have hx := hr.get x
 simp only [j8, ho] at h
 unfold a8i at h
 split at h
 ·rename_i k' _ _ _ k n ht hp
  rw [hp] at hx
  have hx : a.eval x = .int k n := hx
  obtain ⟨d, hd, hdd⟩ := (hE t _ ht).desc
  simp only [TD.is] at hdd
  subst hdd
  rw [T.val_ret] at h
  subst h
  exact ⟨.iface t (.int k n), w, ρ, by simp [execOp, ho, Instr.makeInterface, run_underlying hd, hx], .refl ρ, hr.putA o.dst rfl⟩
 ·rename_i fs _ _ _ k n ht hp
  rw [hp] at hx
  obtain ⟨cs, hx, c, cs', rfl, hc, hcs⟩ := hx
  have hcs : cs' = [] := hcs
  have hc : c = .int k n := hc
  subst hcs; subst hc
  obtain ⟨d, hd, hdd⟩ := (hE t _ ht).desc
  rw [T.val_ret] at h
  subst h
  obtain ⟨fields, rfl, _⟩ := hdd
  exact ⟨.iface t (.agg #[.int k n]), w, ρ, by simp [execOp, ho, Instr.makeInterface, run_underlying hd, hx], .refl ρ, hr.putA o.dst rfl⟩
 ·rename_i fs _ _ _ k zs ht hp
  rw [hp] at hx
  obtain ⟨cs, hx, hl, cs', rfl, hcs⟩ := hx
  have hcs : cs' = [] := hcs
  subst hcs
  obtain ⟨z, rfl⟩ : ∃ z, zs = [z] := by
   cases zs with
   | nil => cases hl
   | cons z r =>
    cases r with
    | nil => exact ⟨z, rfl⟩
    | cons y r => simp at hl
  obtain ⟨d, hd, hdd⟩ := (hE t _ ht).desc
  rw [T.val_ret] at h
  subst h
  obtain ⟨fields, rfl, _⟩ := hdd
  exact ⟨.iface t (.agg #[.int k z]), w, ρ, by simp [execOp, ho, Instr.makeInterface, run_underlying hd, hx, CK.val], .refl ρ, hr.putA o.dst rfl⟩
 ·rename_i fs _ _ _ ob b ht hp
  rw [hp] at hx
  obtain ⟨cs, hx, c, cs', rfl, hc, hcs⟩ := hx
  have hcs : cs' = [] := hcs
  subst hcs
  obtain ⟨l, blk, f0, g1, g2, rfl⟩ := hc
  obtain ⟨d, hd, hdd⟩ := (hE t _ ht).desc
  rw [T.val_ret] at h
  subst h
  obtain ⟨fields, rfl, _⟩ := hdd
  exact ⟨.iface t (.agg #[.pointer (some ⟨blk, f0 + (b + 0), none⟩)]), w, ρ, by simp [execOp, ho, Instr.makeInterface, run_underlying hd, hx], .refl ρ, hr.putA o.dst ⟨l, blk, f0, g1, g2, rfl⟩⟩
 ·rename_i fs _ _ _ ob b k zs ht hp
  rw [hp] at hx
  obtain ⟨cs, hx, c, cs', rfl, hc, hl, cs2, rfl, hcs⟩ := hx
  have hcs : cs2 = [] := hcs
  subst hcs
  obtain ⟨l, blk, f0, g1, g2, rfl⟩ := hc
  obtain ⟨z, rfl⟩ : ∃ z, zs = [z] := by
   cases zs with
   | nil => cases hl
   | cons z r =>
    cases r with
    | nil => exact ⟨z, rfl⟩
    | cons y r => simp at hl
  obtain ⟨d, hd, hdd⟩ := (hE t _ ht).desc
  rw [T.val_ret] at h
  subst h
  obtain ⟨fields, rfl, _⟩ := hdd
  exact ⟨.iface t (.agg #[.pointer (some ⟨blk, f0 + (b + 0), none⟩), .int k z]), w, ρ, by simp [execOp, ho, Instr.makeInterface, run_underlying hd, hx, CK.val], .refl ρ, hr.putA o.dst ⟨l, blk, f0, g1, g2, rfl⟩⟩
 ·simp [T.val_fail] at h
theorem a8f {E : AE} (hE : ∀ t i, E.ty t = some i → TyOk P t i) (hI : ∀ t i, E.imp t i = true → b93 P t i) {nm : Nat} {o : Oper} {t xt : TypeId} {ok : Bool} {x : Operand} (ho : o.op = .typeAssert x xt t ok) (hr : Rel ρ B w0 st a w) (h : (j8 E nm o st).val = some st') : FitsV P ρ B w0 st' o a w := by
 have hx := hr.get x
 simp only [j8, ho] at h
 unfold b8M at h
 split at h
 rotate_left
 ·simp [T.val_fail] at h
 rename_i t1 y1 aa hi1 ha1
 split at h
 ·rename_i hm
  obtain ⟨want, info, m1, m2, m3⟩ := hI _ _ hm
  obtain ⟨u, hu, -⟩ := a1b hi1 hx
  have hxa : st.get x = .one (.sc aa) := by unfold c1H at ha1; split at ha1 <;> cases ha1; rename_i e; exact e
  have hxa' : A1.rel ρ aa (a.eval x) := by rw [hxa] at hx; exact hx
  rw [T.val_ret] at h
  subst h
  refine ⟨.tuple #[a.eval x, .bool true], w, ρ, ?_, .refl ρ, hr.put o.dst (v := .tup _) ⟨[a.eval x, .bool true], rfl, a.eval x, _, rfl, hxa', .bool true, _, rfl, rfl, rfl⟩⟩
  have m4 : (typeInfo t1).run P w = .ok info w := by simp [typeInfo, m2]
  simp [execOp, ho, Instr.typeAssert, run_underlying m1, hu, m4, m3]
 ·rename_i hm
  obtain ⟨want, info, m1, m2, m3⟩ := hI _ _ hm
  obtain ⟨u, hu, -⟩ := a1b hi1 hx
  have hxa : st.get x = .one (.sc aa) := by unfold c1H at ha1; split at ha1 <;> cases ha1; rename_i e; exact e
  have hxa' : A1.rel ρ aa (a.eval x) := by rw [hxa] at hx; exact hx
  rw [T.val_ret] at h
  subst h
  refine ⟨a.eval x, w, ρ, ?_, .refl ρ, hr.put o.dst (v := .one (.sc aa)) hxa'⟩
  have m4 : (typeInfo t1).run P w = .ok info w := by simp [typeInfo, m2]
  simp [execOp, ho, Instr.typeAssert, run_underlying m1, hu, m4, m3]
 unfold b8L at h
 split at h
 ·rename_i ti t0 y ht hi
  obtain ⟨u, hu, hy⟩ := a1b hi hx
  obtain ⟨d, hd, hdd⟩ := (hE t _ ht).desc
  have hni : ti.td.told = true → ∀ m, d ≠ .interface m := by
   intro h1 m e
   subst e
   cases htd : ti.td <;> rw [htd] at hdd h1 <;> simp only [TD.is] at hdd <;> first | (cases h1; done) | (obtain ⟨_, q, _⟩ := hdd; cases q; done) | (cases hdd; done)
  split at h
  ·rename_i h1 h2
   have h2 := i5 h2
   subst h2
   have hn := hni h1
   rw [T.val_ret] at h
   subst h
   refine ⟨.tuple #[u, .bool true], w, ρ, ?_, .refl ρ, hr.put o.dst (v := .tup _) ⟨[u, .bool true], rfl, u, _, rfl, hy, .bool true, _, rfl, rfl, rfl⟩⟩
   cases d <;> first | (exact absurd rfl (hn _)) | simp [execOp, ho, Instr.typeAssert, run_underlying hd, hu]
  ·rename_i h1 h2
   have h2 := i5 h2
   subst h2
   have hn := hni h1
   rw [T.val_ret] at h
   subst h
   refine ⟨u, w, ρ, ?_, .refl ρ, hr.put o.dst (v := .one y) hy⟩
   cases d <;> first | (exact absurd rfl (hn _)) | simp [execOp, ho, Instr.typeAssert, run_underlying hd, hu]
  ·rename_i h1 h2
   have h2 := b6b h2
   have hn := hni h1
   have h2' : ¬ t0 = t := h2
   rw [T.val_ret] at h
   subst h
   obtain ⟨z, e1, e2⟩ : ∃ z, (zeroValue t).run P w = .ok z w ∧ AV.rel ρ (match ti.td.agg with
     | true => .agg ti.zero
     | false => .any) z := by
    cases hag : ti.td.agg with
    | true =>
     obtain ⟨cs, e1, e2⟩ := (hE t _ ht).run_zeroA hag w
     exact ⟨_, e1, cs.toList, by simp, e2 ρ⟩
    | false =>
     obtain ⟨z, e1, _⟩ := (hE t _ ht).run_zero w
     exact ⟨z, e1, trivial⟩
   refine ⟨.tuple #[z, .bool false], w, ρ, ?_, .refl ρ, hr.put o.dst (v := .tup _) ⟨[z, .bool false], rfl, z, _, rfl, e2, .bool false, _, rfl, rfl, rfl⟩⟩
   cases d <;> first | (exact absurd rfl (hn _)) | simp [execOp, ho, Instr.typeAssert, run_underlying hd, hu, h2', e1]
  ·simp [T.val_fail] at h
 ·simp [T.val_fail] at h
theorem Z5 {o : Oper} {b : Builtin} {args : Array Operand} {ats : Array TypeId} (ho : o.op = .call { callee := .builtin b, args, argTypes := ats }) (f : Operand → Value) :
  execOp f o = builtin b ats o.type (args.map fun | .const _ => true | _ => false) (args.map f) := by
 obtain ⟨dst, op, type, pos, after, guard⟩ := o
 simp only at ho
 subst ho
 rfl
theorem b8m {E : AE} (hE : ∀ t i, E.ty t = some i → TyOk P t i) {nm : Nat} {o : Oper} {args : Array Operand} {ats : Array TypeId} (ho : o.op = .call { callee := .builtin .len, args, argTypes := ats }) (hr : Rel ρ B w0 st a w) (h : (j8 E nm o st).val = some st') : FitsV P ρ B w0 st' o a w := by
 simp only [j8, ho] at h
 split at h
 ·rename_i t _ x _ e1 e2
  have hx := hr.get x
  split at h
  ·rename_i n hn
   rw [T.val_ret] at h
   subst h
   have g1 : ats[0]? = some t := by rw [← Array.getElem?_toList, e1]; rfl
   have g2 : (args.map a.eval)[0]? = some (a.eval x) := by rw [Array.getElem?_map, ← Array.getElem?_toList, e2]; rfl
   refine ⟨.int .i64 n, w, ρ, ?_, .refl ρ, hr.putA o.dst rfl⟩
   have key : (Builtin.len_ ats o.type (args.map a.eval)).run P w = .ok (goInt n) w := by
    unfold Builtin.len_
    simp only [g1, g2, Sem.run_bind]
    unfold c2l at hn
    split at hn
    ·rename_i m e _ _ _ ht
     cases hn
     obtain ⟨d, hd, hdd⟩ := (hE t _ ht).desc
     simp only [TD.is] at hdd
     subst hdd
     simp [run_underlying hd]
    ·rename_i ht hp
     cases hn
     obtain ⟨d, hd, hdd⟩ := (hE t _ ht).desc
     simp only [TD.is] at hdd
     subst hdd
     rw [hp] at hx
     obtain ⟨l, k1, k2, _, k3, _⟩ := hx
     simp [run_underlying hd, k3, k2]
    ·rename_i ht hp
     cases hn
     obtain ⟨d, hd, hdd⟩ := (hE t _ ht).desc
     simp only [TD.is] at hdd
     subst hdd
     rw [hp] at hx
     obtain ⟨l, a0, c, k1, k2, _⟩ := hx
     simp [run_underlying hd, k2]
    ·rename_i ht hp
     cases hn
     obtain ⟨d, hd, hdd⟩ := (hE t _ ht).desc
     simp only [TD.is] at hdd
     subst hdd
     rw [hp] at hx
     have hx' : a.eval x = .slice none 0 0 := hx
     simp [run_underlying hd, hx']
    ·rename_i ht hp
     cases hn
     obtain ⟨d, hd, hdd⟩ := (hE t _ ht).desc
     simp only [TD.is] at hdd
     subst hdd
     rw [hp] at hx
     obtain ⟨a0, c, vs, k1, _⟩ := hx
     simp [run_underlying hd, k1]
    ·rename_i s ht hp
     cases hn
     obtain ⟨d, hd, hdd⟩ := (hE t _ ht).desc
     simp only [TD.is] at hdd
     subst hdd
     rw [hp] at hx
     have hx' : a.eval x = .string s := hx
     simp [run_underlying hd, hx']
    ·cases hn
   rw [Z5 ho]
   simp [builtin, key, goInt]
  ·simp [T.val_fail] at h
 ·simp [T.val_fail] at h
theorem a81 (mx : Bool) (k : IntKind) : ∀ (l : List TV) (vs : List Value) (m n : Int), l.length = vs.length → (∀ (i : Nat) (v : TV) (x : Value), l[i]? = some v → vs[i]? = some x → TV.rel ρ v x) → L8 mx k m l = some n →
  (vs.foldlM (if mx then Builtin.max2 else Builtin.min2) (.int k m)).run P w = .ok (.int k n) w
 | [], vs, m, n, hl, _, h => by
  have : vs = [] := List.eq_nil_of_length_eq_zero hl.symm
  subst this
  simp only [L8] at h
  cases h
  rfl
 | .one (.sc (.int k' b)) :: r, vs, m, n, hl, hrel, h => by
  cases vs with
  | nil => simp at hl
  | cons x xs =>
   have hx : x = .int k' b := hrel 0 _ x rfl rfl
   subst hx
   simp only [L8] at h
   split at h
   ·rename_i hk
    subst hk
    have ih := a81 mx k r xs _ n (by simpa using hl) (fun i v y h1 h2 => hrel (i + 1) v y (by simpa using h1) (by simpa using h2)) h
    rw [List.foldlM_cons, Sem.run_bind]
    cases mx
    ·simp only [Bool.false_eq_true, if_false, Builtin.min2, Sem.run_pure, Result.andThen_ok] at ih ⊢
     exact ih
    ·simp only [if_true, Builtin.max2, Sem.run_pure, Result.andThen_ok] at ih ⊢
     exact ih
   ·cases h
 | .one .any :: r, vs, m, n, hl, hrel, h => by simp [L8] at h
 | .one (.agg _) :: r, vs, m, n, hl, hrel, h => by simp [L8] at h
 | .tup _ :: r, vs, m, n, hl, hrel, h => by simp [L8] at h
 | .one (.sc .top) :: r, vs, m, n, hl, hrel, h => by simp [L8] at h
 | .one (.sc (.known _)) :: r, vs, m, n, hl, hrel, h => by simp [L8] at h
 | .one (.sc (.bool _ _)) :: r, vs, m, n, hl, hrel, h => by simp [L8] at h
 | .one (.sc (.str _)) :: r, vs, m, n, hl, hrel, h => by simp [L8] at h
 | .one (.sc (.ptr _ _ _)) :: r, vs, m, n, hl, hrel, h => by simp [L8] at h
 | .one (.sc .nilp) :: r, vs, m, n, hl, hrel, h => by simp [L8] at h
 | .one (.sc (.vec _ _ _)) :: r, vs, m, n, hl, hrel, h => by simp [L8] at h
 | .one (.sc (.sl _ _ _ _ _)) :: r, vs, m, n, hl, hrel, h => by simp [L8] at h
 | .one (.sc .nilsl) :: r, vs, m, n, hl, hrel, h => by simp [L8] at h
 | .one (.sc .nilif) :: r, vs, m, n, hl, hrel, h => by simp [L8] at h
theorem Z0 (hr : Rel ρ B w0 st a w) (args : List Operand) : ∀ (i : Nat) (v : TV) (x : Value), (args.map st.get)[i]? = some v → (args.map a.eval)[i]? = some x → TV.rel ρ v x := by
 intro i v x h1 h2
 rw [List.getElem?_map, Option.map_eq_some_iff] at h1 h2
 obtain ⟨y, e1, rfl⟩ := h1
 obtain ⟨z, e2, rfl⟩ := h2
 rw [e1] at e2
 cases e2
 exact hr.get y
theorem a7v {E : AE} {nm : Nat} {o : Oper} {args : Array Operand} {ats : Array TypeId} {b : Builtin} {mx : Bool} (hb : b = if mx then .max else .min) (ho : o.op = .call { callee := .builtin b, args, argTypes := ats }) (hr : Rel ρ B w0 st a w) (h : (j8 E nm o st).val = some st') : FitsV P ρ B w0 st' o a w := by
 have h' : ∃ k n, b24 mx (args.toList.map st.get) = some (k, n) ∧ st.putA o.dst (.int k n) = st' := by
  cases mx
  ·simp only [Bool.false_eq_true, if_false] at hb
   subst hb
   simp only [j8, ho] at h
   split at h
   ·rename_i k n e; rw [T.val_ret] at h; exact ⟨k, n, e, h⟩
   ·simp [T.val_fail] at h
  ·simp only [if_true] at hb
   subst hb
   simp only [j8, ho] at h
   split at h
   ·rename_i k n e; rw [T.val_ret] at h; exact ⟨k, n, e, h⟩
   ·simp [T.val_fail] at h
 obtain ⟨k, n, h1, rfl⟩ := h'
 have hargs := Z0 hr args.toList
 refine ⟨.int k n, w, ρ, ?_, .refl ρ, hr.putA o.dst rfl⟩
 have hm : (args.map a.eval).toList = args.toList.map a.eval := Array.toList_map
 cases hl : args.toList with
 | nil => rw [hl] at h1; simp [b24] at h1
 | cons y ys =>
  rw [hl] at h1 hargs hm
  simp only [List.map_cons] at h1 hargs hm
  unfold b24 at h1
  split at h1
  ·rename_i k' m r e
   rw [List.cons.injEq] at e
   obtain ⟨e1, e2⟩ := e
   rw [Option.map_eq_some_iff] at h1
   obtain ⟨n', h2, h3⟩ := h1
   cases h3
   have hy : a.eval y = .int k m := by have := hr.get y; rw [e1] at this; exact this
   rw [← e2] at h2
   have := a81 (P := P) (w := w) (ρ := ρ) mx k (ys.map st.get) (ys.map a.eval) m n (by simp) (fun i v x g1 g2 => hargs (i + 1) v x (by simpa using g1) (by simpa using g2)) h2
   rw [Z5 ho]
   subst hb
   cases mx
   ·simp only [Bool.false_eq_true, if_false] at this ⊢
    simp only [builtin, Builtin.min_, hm, hy, Sem.run_bind, this, Result.andThen_ok, Sem.run_pure]
   ·simp only [if_true] at this ⊢
    simp only [builtin, Builtin.max_, hm, hy, Sem.run_bind, this, Result.andThen_ok, Sem.run_pure]
  ·cases h1
end
end Go.Ax
namespace Go.Ax
open Go.RowKit
variable {P : Program}
section
variable {ρ : Env} {B : Nat} {w0 : Base} {st st' : St} {a : Act} {w : World}
theorem a8N (off : Nat) : ∀ (vs : List Value) (k : Nat) (cells : Array Value), off + k + vs.length ≤ cells.size →
  ((vs.zipIdx k).foldl (fun (cs : Array Value) (p : Value × Nat) => cs.setIfInBounds (off + p.2) p.1) cells).toList = cells.toList.take (off + k) ++ vs ++ cells.toList.drop (off + k + vs.length)
 | [], k, cells, _ => by simp
 | v :: r, k, cells, h => by
  rw [List.zipIdx_cons, List.foldl_cons, a8N off r (k + 1) _ (by simp at h ⊢; omega)]
  have e := list_seg_step cells.toList (off + k) v r (by simp at h ⊢; omega)
  simpa [Array.toList_setIfInBounds, Nat.add_assoc, Nat.add_comm, Nat.add_left_comm] using e
theorem b3o {ti : TyI} {t : TypeId} (hk : TyOk P t ti) {l l' : List Seg} {b : Nat} {v : TV} (h : (b4G ti l b v).val = some l') {x : Value} (hx : TV.rel ρ v x) {C : List Value} (hC : i2 ρ l C) :
  x.cells.size = ti.size ∧ b + ti.size ≤ C.length ∧ i2 ρ l' (C.take b ++ x.cells.toList ++ C.drop (b + ti.size)) := by
 unfold b4G at h
 split at h
 ·rename_i l0 hagg
  split at h
  ·rename_i hlen
   obtain ⟨D, rfl, hD⟩ := hx
   have hl : D.length = ti.size := by rw [v8 hD]; exact i5 hlen
   obtain ⟨q1, q2⟩ := a2n h hC hD hl
   exact ⟨by simp [Value.cells, hl], by simpa using q2, by simpa [Value.cells] using q1⟩
  ·simp [T.val_fail] at h
 ·rename_i a0 hagg
  have hx' : A1.rel ρ a0 x := hx
  obtain ⟨q1, q2⟩ := a4w hx' h hC
  have hs := hk.one hagg
  rw [AV.cells_sc hx']
  simp only [Option.getD_none, Nat.add_zero] at q1 q2
  rw [List.set_eq_take_append_cons_drop, if_pos q2] at q1
  exact ⟨by simp [hs], by omega, by rw [hs]; simpa using q1⟩
 ·simp [T.val_fail] at h
theorem S4 {E : AE} (hE : ∀ t i, E.ty t = some i → TyOk P t i) {pl : Nat → Option (Nat × TypeId)} {place : Nat → Option (Nat × Nat)} (hpl : ∀ j off t i, pl j = some (off, t) → E.ty t = some i → place j = some (off, i.size)) :
  ∀ {parts : List (Nat × TV)} {vs : List (Nat × Value)} {l l' : List Seg} {cells : Array Value}, parts.length = vs.length → (∀ (i : Nat) (p : Nat × TV) (q : Nat × Value), parts[i]? = some p → vs[i]? = some q → p.1 = q.1 ∧ TV.rel ρ p.2 q.2) →
   (C4 E pl l parts).val = some l' → i2 ρ l cells.toList → ∃ cells', Instr.fill place cells vs = some cells' ∧ i2 ρ l' cells'.toList ∧ cells'.size = cells.size
 | [], vs, l, l', cells, hl, _, h, hr => by
  have : vs = [] := List.eq_nil_of_length_eq_zero hl.symm
  subst this
  simp only [C4, T.val_ret] at h
  subst h
  exact ⟨cells, rfl, hr, rfl⟩
 | (j, v) :: r, vs, l, l', cells, hl, hrel, h, hr => by
  cases vs with
  | nil => simp at hl
  | cons q qs =>
   obtain ⟨j', x⟩ := q
   obtain ⟨e1, e2⟩ := hrel 0 _ _ rfl rfl
   simp only at e1 e2
   subst e1
   simp only [C4] at h
   split at h
   ·rename_i off t hp
    split at h
    ·rename_i ti ht
     simp only [T.val_bind_iff] at h
     obtain ⟨l1, h1, h2⟩ := h
     obtain ⟨s1, s2, s3⟩ := b3o (hE t ti ht) h1 e2 hr
     rw [Array.length_toList] at s2
     have hfold := a8N off x.cells.toList 0 cells (by simp [s1]; omega)
     simp only [Nat.add_zero] at hfold
     have hlen : x.cells.toList.length = ti.size := by simp [s1]
     rw [hlen] at hfold
     have e : x.cells.zipIdx.foldl (fun (cs : Array Value) (p : Value × Nat) => cs.setIfInBounds (off + p.2) p.1) cells = (x.cells.toList.zipIdx 0).foldl (fun (cs : Array Value) (p : Value × Nat) => cs.setIfInBounds (off + p.2) p.1) cells := by
      rw [← Array.foldl_toList, Array.toList_zipIdx]
     rw [← hfold, ← e] at s3
     obtain ⟨c', g1, g2, g3⟩ := S4 hE hpl (parts := r) (vs := qs) (by simpa using hl) (fun i p q a1 a2 => hrel (i + 1) p q (by simpa using a1) (by simpa using a2)) h2 s3
     refine ⟨c', ?_, g2, ?_⟩
     ·simp only [Instr.fill, hpl j off t ti hp ht]
      rw [if_neg (by simp [s1]; omega)]
      exact g1
     ·rw [g3]
      have : (x.cells.zipIdx.foldl (fun (cs : Array Value) (p : Value × Nat) => cs.setIfInBounds (off + p.2) p.1) cells).toList.length = cells.size := by
       rw [e, hfold]; simp; omega
      simpa using this
    ·simp [T.val_fail] at h
   ·simp [T.val_fail] at h
theorem b3n (hr : Rel ρ B w0 st a w) (parts : List (Nat × Operand)) : ∀ (i : Nat) (p : Nat × TV) (q : Nat × Value), (parts.map fun p => (p.1, st.get p.2))[i]? = some p → (parts.map fun p => (p.1, a.eval p.2))[i]? = some q → p.1 = q.1 ∧ TV.rel ρ p.2 q.2 := by
 intro i p q h1 h2
 rw [List.getElem?_map, Option.map_eq_some_iff] at h1 h2
 obtain ⟨y, e1, rfl⟩ := h1
 obtain ⟨z, e2, rfl⟩ := h2
 rw [e1] at e2
 cases e2
 exact ⟨rfl, hr.get y.2⟩
theorem b4s (f : Field → Nat) (w : World) : ∀ (l : List Field), (∀ g ∈ l, (sizeOf g.type).run P w = .ok (f g) w) →
  (l.toArray.mapM fun (g : Field) => (do pure (g.offset, ← sizeOf g.type) : Sem (Nat × Nat))).run P w = .ok (l.map fun g => (g.offset, f g)).toArray w := by
 intro l h
 have key : ∀ (l : List Field) (acc : Array (Nat × Nat)), (∀ g ∈ l, (sizeOf g.type).run P w = .ok (f g) w) →
   (l.foldlM (fun (acc : Array (Nat × Nat)) (g : Field) => (do pure (acc.push (← (do pure (g.offset, ← sizeOf g.type) : Sem (Nat × Nat)))) : Sem _)) acc).run P w = .ok (acc ++ (l.map fun g => (g.offset, f g)).toArray) w := by
  intro l
  induction l with
  | nil => intro acc _; simp
  | cons g r ih =>
   intro acc h
   have h1 := h g (by simp)
   simp only [List.foldlM_cons, Sem.run_bind, h1, Result.andThen_ok, Sem.run_pure]
   rw [ih _ (fun g' hg' => h g' (by simp [hg']))]
   congr 1
   apply Array.ext'
   simp
 have := key l #[] h
 rw [Array.mapM_eq_foldlM]
 simpa using this
theorem b43 {E : AE} (hE : ∀ t i, E.ty t = some i → TyOk P t i) {nm : Nat} {o : Oper} {t : TypeId} {parts : Array (Nat × Operand)} (ho : o.op = .build t parts) (hr : Rel ρ B w0 st a w) (h : (j8 E nm o st).val = some st') : FitsV P ρ B w0 st' o a w := by
 simp only [j8, ho] at h
 have hpar := b3n hr parts.toList
 have hps : (parts.map fun p => (p.1, a.eval p.2)).toList = parts.toList.map fun p => (p.1, a.eval p.2) := by simp
 split at h
 ·rename_i n e _ _ zero ht
  obtain ⟨d, hd, hdd⟩ := (hE t _ ht).desc
  simp only [TD.is] at hdd
  subst hdd
  split at h
  ·rename_i te hte
   simp only [T.val_bind_iff, T.val_ret] at h
   obtain ⟨l, h1, rfl⟩ := h
   obtain ⟨z, z1, z2, _⟩ := (hE t _ ht).run_zero w
   obtain ⟨c', g1, g2, _⟩ := S4 hE (place := fun i => some (i * te.size, te.size)) (fun j off t' i e1 e2 => by cases e1; rw [hte] at e2; cases e2; rfl) (by simp) hpar h1 (N2 z2)
   refine ⟨.agg c', w, ρ, ?_, .refl ρ, hr.put o.dst (v := .one (.agg l)) ⟨c'.toList, by simp, g2⟩⟩
   simp only [execOp, ho, Instr.build, Sem.run_bind, z1, Result.andThen_ok, run_underlying hd, (hE e te hte).run_size w, hps, Sem.run_pure]
   rw [g1]
   rfl
  ·simp [T.val_fail] at h
 ·rename_i fs _ _ zero ht
  obtain ⟨d, hd, hdd⟩ := (hE t _ ht).desc
  simp only [TD.is] at hdd
  obtain ⟨fields, rfl, hfs⟩ := hdd
  split at h
  ·simp [T.val_fail] at h
  ·rename_i hall
   simp only [T.val_bind_iff, T.val_ret] at h
   obtain ⟨l, h1, rfl⟩ := h
   obtain ⟨z, z1, z2, _⟩ := (hE t _ ht).run_zero w
   have hsz : ∀ g ∈ fields.toList, ∃ i, E.ty g.type = some i := by
    intro g hg
    have := List.all_eq_true.1 hall (g.offset, g.type) (by rw [← hfs]; exact List.mem_map.2 ⟨g, hg, rfl⟩)
    exact Option.isSome_iff_exists.1 this
   let f : Field → Nat := fun g => ((E.ty g.type).map TyI.size).getD 0
   have hf : ∀ g ∈ fields.toList, (sizeOf g.type).run P w = .ok (f g) w := by
    intro g hg
    obtain ⟨i, hi⟩ := hsz g hg
    rw [(hE _ i hi).run_size w]
    simp [f, hi]
   have hm := b4s (P := P) f w fields.toList hf
   simp only [Array.toArray_toList] at hm
   obtain ⟨c', g1, g2, _⟩ := S4 hE (place := fun j => ((fields.toList.map fun g => (g.offset, f g)).toArray)[j]?) (cells := z.cells) (fun j off t' i e1 e2 => by
     rw [← hfs, List.getElem?_map, Option.map_eq_some_iff] at e1
     obtain ⟨g, k1, k2⟩ := e1
     cases k2
     simp only [List.getElem?_toArray, List.getElem?_map, k1, Option.map_some, f, e2, Option.getD_some]) (by simp) hpar h1 (N2 z2)
   refine ⟨.agg c', w, ρ, ?_, .refl ρ, hr.put o.dst (v := .one (.agg l)) ⟨c'.toList, by simp, g2⟩⟩
   simp only [execOp, ho, Instr.build, Sem.run_bind, z1, Result.andThen_ok, run_underlying hd, hm, hps, g1, Sem.run_pure]
 ·simp [T.val_fail] at h
theorem a65 {n : Nat} {l l' : List Seg} {C : List Value} (h : c1A n l = some l') (hr : i2 ρ l C) : ∃ x : Value, C = List.replicate C.length x ∧ i2 ρ l' (List.replicate (n * C.length) x) := by
 unfold c1A at h
 split at h
 ·rename_i k m zs
  split at h
  ·rename_i hz
   cases h
   obtain ⟨h1, c', h2, h3⟩ := hr
   cases h3
   have e : zs = List.replicate m 0 := by
    rw [List.eq_replicate_iff]
    exact ⟨h1, fun b hb => by simpa using List.all_eq_true.1 hz b hb⟩
   rw [U0]
   have hC : C = List.replicate m (k.val 0) := by rw [h2, e]; simp
   refine ⟨k.val 0, by rw [hC]; simp, by simp, [], ?_, rfl⟩
   rw [hC]
   simp
  ·cases h
 ·obtain ⟨c, cs', h1, h2, h3⟩ := hr
  cases h3
  refine ⟨c, by rw [h1]; rfl, ?_⟩
  rw [h1]
  split at h
  ·cases h
   exact ⟨[], [], by simp, rfl, rfl⟩
  cases h
  simpa using a9O h2 _
 ·cases h
theorem a6H {z : Array Value} {x : Value} {n m : Nat} (hz : z.toList = List.replicate m x) (hn : n * m ≠ 0) : ((Array.range (n * m)).map fun i => z[i % z.size]!) = (List.replicate (n * m) x).toArray := by
 have hm : z.size = m := by rw [← Array.length_toList, hz]; simp
 apply Array.ext'
 simp only [Array.toList_map, Array.toList_range]
 refine List.eq_replicate_iff.2 ⟨by simp, ?_⟩
 ·intro b hb
  obtain ⟨i, hi, rfl⟩ := List.mem_map.1 hb
  have hm0 : 0 < m := by rcases Nat.eq_zero_or_pos m with h | h; · simp [h] at hn
                         ·exact h
  have hlt : i % z.size < z.size := Nat.mod_lt _ (by omega)
  rw [getElem!_pos z _ hlt]
  have : z.toList[i % z.size]? = some x := by rw [hz, List.getElem?_replicate, if_pos (by omega)]
  simpa [hlt] using this
theorem a8c {E : AE} (hE : ∀ t i, E.ty t = some i → TyOk P t i) {nm : Nat} {o : Oper} {t : TypeId} {n : Nat} {parts : Array (Nat × Operand)} (ho : o.op = .buildSlice t n parts) (hr : Rel ρ B w0 st a w) (h : (j8 E nm o st).val = some st') : FitsV P ρ B w0 st' o a w := by
 simp only [j8, ho] at h
 have hpar := b3n hr parts.toList
 have hps : (parts.map fun p => (p.1, a.eval p.2)).toList = parts.toList.map fun p => (p.1, a.eval p.2) := by simp
 split at h
 ·rename_i e _ _ _ ht
  obtain ⟨d, hd, hdd⟩ := (hE t _ ht).desc
  simp only [TD.is] at hdd
  subst hdd
  split at h
  ·rename_i te hte
   split at h
   ·rename_i z hfit hz
    have hfit := Nat.le_of_ble_eq_true hfit
    simp only [T.val_bind_iff] at h
    obtain ⟨l, h1, h2⟩ := h
    obtain ⟨zv, z1, z2, z3⟩ := (hE e _ hte).run_zero w
    obtain ⟨x, x1, x2⟩ := a65 hz (N2 (ρ := ρ) z2)
    have hlen : zv.cells.toList.length = te.size := by simp [z3]
    rw [hlen] at x1 x2
    obtain ⟨c', g1, g2, g3⟩ := S4 hE (place := fun i => some (i * te.size, te.size)) (cells := (List.replicate (n * te.size) x).toArray) (fun j off t' i e1 e2 => by cases e1; rw [hte] at e2; cases e2; rfl) (by simp) hpar h1 (by simpa using x2)
    have hsz : c'.size = n * te.size := by rw [g3]; simp
    obtain ⟨ρ', r1, r2⟩ := J2 hr h2 (cs := c') (post := []) (by simp) g2 (by simp [hsz]) hsz (Nat.le_refl _) e
    refine ⟨_, _, ρ', ?_, r1, r2⟩
    have hbig : ¬ n * te.size > 2 ^ 24 := by omega
    have hnr : (newRow e c').run P w = .ok ⟨w.heap.size, 0, none⟩ (w.alloc (.cells c' e)) := by simp [newRow]
    by_cases h0 : n * te.size = 0
    ·have e0 : ∀ f : Nat → Value, (Array.range 0).map f = #[] := by simp
     rw [h0] at g1
     simp only [List.replicate_zero] at g1
     simp only [execOp, ho, Instr.buildSlice, Sem.run_bind, run_underlying hd, Result.andThen_ok, (hE e te hte).run_size w, h0, if_true, Sem.run_pure, hps, e0]
     rw [g1]
     rw [if_neg (by omega)]
     simp [hnr]
    ·have := a6H (z := zv.cells) x1 h0
     simp only [execOp, ho, Instr.buildSlice, Sem.run_bind, run_underlying hd, Result.andThen_ok, (hE e te hte).run_size w, hbig, if_false, h0, z1, Sem.run_pure, hps]
     rw [this, g1]
     simp [hnr]
   ·simp [T.val_fail] at h
  ·simp [T.val_fail] at h
 ·simp [T.val_fail] at h
theorem a8d {E : AE} (hE : ∀ t i, E.ty t = some i → TyOk P t i) {nm : Nat} {o : Oper} {t : TypeId} {x y : Operand} (ho : o.op = .makeSlice t x y) (hr : Rel ρ B w0 st a w) (h : (b9k E st nm o.dst t (st.get x) (st.get y)).val = some st') : FitsV P ρ B w0 st' o a w := by
 have hx := hr.get x
 have hy := hr.get y
 unfold b9k at h
 split at h
 ·rename_i e _ _ _ k n k' m ht ex ey
  have vx := T2 ex hx
  have vy := T2 ey hy
  obtain ⟨d, hd, hdd⟩ := (hE t _ ht).desc
  simp only [TD.is] at hdd
  subst hdd
  split at h
  ·rename_i te hte
   simp only [T.val_ite, T.val_fail, and_false, or_false] at h
   obtain ⟨h0, rfl, h1, h⟩ := h
   split at h
   ·rename_i z hby hz
    have hby := a91 hby
    obtain ⟨f, zv, f1, f2, f3, f4, f5, f6⟩ := (hE e te hte).info
    obtain ⟨c, rfl⟩ := Int.eq_ofNat_of_zero_le h0
    simp only [Int.toNat_natCast] at h hz
    obtain ⟨v, v1, v2⟩ := a65 hz (N2 (ρ := ρ) f5)
    have hlen : zv.cells.toList.length = te.size := by simp [f6]
    rw [hlen] at v1 v2
    have h1' : ((c * te.bytes : Nat) : Int) ≤ (281474976710656 : Nat) := by rw [Int.natCast_mul]; exact h1
    have hc1 : c * te.bytes ≤ 281474976710656 := Int.ofNat_le.1 h1'
    have hc2 : c ≤ 281474976710656 := Nat.le_trans (Nat.le_mul_of_pos_right c hby) hc1
    obtain ⟨ρ', r1, r2⟩ := J2 hr h (cs := (List.replicate (c * te.size) v).toArray) (C := List.replicate (c * te.size) v) (post := []) (by rw [List.append_nil]) v2 List.length_replicate (by rw [List.size_toArray, List.length_replicate]) (Nat.le_refl _) e
    refine ⟨_, _, ρ', ?_, r1, r2⟩
    have hb' : (f.bytes : Int) * (c : Int) ≤ 281474976710656 := by
     rw [f3, ← Int.natCast_mul, Nat.mul_comm]; exact Int.ofNat_le.2 hc1
    have hrun := run_make (P := P) w t e f zv hd f1 f4 k k' c c (by omega) (Int.le_refl _) hb' (by omega)
    simp only [Int.toNat_natCast, f2] at hrun
    have hmc : madeCells zv.cells (c * te.size) = (List.replicate (c * te.size) v).toArray := by
     by_cases hz0 : c * te.size = 0
     ·rw [hz0]; simp [madeCells]
     ·exact a6H v1 hz0
    rw [hmc] at hrun
    simp [execOp, ho, vx, vy, hrun]
   ·simp [T.val_fail] at h
  ·simp [T.val_fail] at h
 ·simp [T.val_fail] at h
theorem a8e {E : AE} (hE : ∀ t i, E.ty t = some i → TyOk P t i) {nm : Nat} {o : Oper} {t : TypeId} {x y : Operand} (ho : o.op = .makeSlice t x y) (hr : Rel ρ B w0 st a w) (h : (b5L E st nm o.dst t (st.get x) (st.get y)).val = some st') : FitsV P ρ B w0 st' o a w := by
 have hx := hr.get x
 have hy := hr.get y
 unfold b5L at h
 split at h
 ·rename_i e _ _ _ k n k' m ht ex ey
  have vx := T2 ex hx
  have vy := T2 ey hy
  obtain ⟨d, hd, hdd⟩ := (hE t _ ht).desc
  simp only [TD.is] at hdd
  subst hdd
  split at h
  ·rename_i te hte
   simp only [T.val_ite, T.val_fail, and_false, or_false] at h
   obtain ⟨h0, hnm, h1, h⟩ := h
   split at h
   ·rename_i z hby hz
    have hby := a91 hby
    obtain ⟨f, zv, f1, f2, f3, f4, f5, f6⟩ := (hE e te hte).info
    obtain ⟨c, rfl⟩ := Int.eq_ofNat_of_zero_le h0
    obtain ⟨d, rfl⟩ := Int.eq_ofNat_of_zero_le (Int.le_trans h0 hnm)
    simp only [Int.toNat_natCast] at h hz
    have hcd : c ≤ d := Int.ofNat_le.1 hnm
    obtain ⟨v, v1, v2⟩ := a65 hz (N2 (ρ := ρ) f5)
    have hlen : zv.cells.toList.length = te.size := by simp [f6]
    rw [hlen] at v1 v2
    have h1' : ((d * te.bytes : Nat) : Int) ≤ (281474976710656 : Nat) := by rw [Int.natCast_mul]; exact h1
    have hc1 : d * te.bytes ≤ 281474976710656 := Int.ofNat_le.1 h1'
    have hc2 : d ≤ 281474976710656 := Nat.le_trans (Nat.le_mul_of_pos_right d hby) hc1
    have hsplit : List.replicate (d * te.size) v = List.replicate (c * te.size) v ++ List.replicate ((d - c) * te.size) v := by
     rw [List.replicate_append_replicate, ← Nat.add_mul]
     congr 2
     omega
    obtain ⟨ρ', r1, r2⟩ := J2 hr h (cs := (List.replicate (d * te.size) v).toArray) (C := List.replicate (c * te.size) v) (post := List.replicate ((d - c) * te.size) v) hsplit v2 List.length_replicate (cap := d) (by rw [List.size_toArray, List.length_replicate]) hcd e
    refine ⟨_, _, ρ', ?_, r1, r2⟩
    have hb' : (f.bytes : Int) * (d : Int) ≤ 281474976710656 := by
     rw [f3, ← Int.natCast_mul, Nat.mul_comm]; exact Int.ofNat_le.2 hc1
    have hrun := run_make (P := P) w t e f zv hd f1 f4 k k' c d (by omega) (by omega) hb' (by omega)
    simp only [Int.toNat_natCast, f2] at hrun
    have hmc : madeCells zv.cells (d * te.size) = (List.replicate (d * te.size) v).toArray := by
     by_cases hz0 : d * te.size = 0
     ·rw [hz0]; simp [madeCells]
     ·exact a6H v1 hz0
    rw [hmc] at hrun
    simp [execOp, ho, vx, vy, hrun]
   ·simp [T.val_fail] at h
  ·simp [T.val_fail] at h
 ·simp [T.val_fail] at h
theorem a9T {E : AE} (hE : ∀ t i, E.ty t = some i → TyOk P t i) {nm : Nat} {o : Oper} {t : TypeId} {x y : Operand} (ho : o.op = .makeSlice t x y) (hr : Rel ρ B w0 st a w) (h : (j8 E nm o st).val = some st') : FitsV P ρ B w0 st' o a w := by
 simp only [j8, ho] at h
 split at h
 ·exact a8d hE ho hr h
 ·exact a8e hE ho hr h
theorem b63 {E : AE} {t : TypeId} {o b : Nat} {i : Option Nat} {v : TV} {s : St} (h : (a59 E st t o b i v).val = some s) : s.dfr = st.dfr := by
 unfold a59 at h
 repeat' first
  | (simp [T.val_fail] at h; done)
  | (simp only [T.val_bind_iff, T.val_ret] at h; obtain ⟨l', _, rfl⟩ := h; rfl)
  | split at h
theorem b49 {E : AE} (hE : ∀ t i, E.ty t = some i → TyOk P t i) {nm : Nat} {o : Oper} {t : TypeId} {p x : Operand} (ho : o.op = .store t p x) (hr : Rel ρ B w0 st a w) (h : (j8 E nm o st).val = some st') :
  ∃ w' ρ', (execOp a.eval o).run P w = .ok .skip w' ∧ ρ.le ρ' ∧ Rel ρ' B w0 st' (a.put o.dst undef) w' := by
 have hp := hr.get p
 have hx := hr.get x
 simp only [j8, ho] at h
 split at h
 ·rename_i ob b i e
  rw [e] at hp
  simp only [T.val_bind_iff, T.val_ret] at h
  obtain ⟨s, h1, rfl⟩ := h
  obtain ⟨ad, w', q1, q2, q3, q4⟩ := b5a hE hr h1 hp hx
  have hr' : Rel ρ B w0 s a w' := ⟨by rw [q3]; exact hr.len, by rw [q3]; exact hr.tm, q4, by rw [b63 h1]; exact hr.defers⟩
  refine ⟨w', ρ, ?_, .refl ρ, hr'.put o.dst (v := .one .any) trivial⟩
  simp [execOp, ho, Instr.storeAt, Instr.sureAddr, q1, q2]
 ·simp [T.val_fail] at h
end
end Go.Ax
namespace Go.Ax
open Go.RowKit
variable {P : Program}
section
variable {ρ : Env} {B : Nat} {w0 : Base} {st st' : St} {a : Act} {w : World}
theorem z9 {es n : Nat} {b : Addr} {cap : Nat} {m : Nat} {cs : List Value} (hl : cs.length = n * es) (h : ∀ j v, cs[j]? = some v → w.cell? (b.add j) = some v) :
  (Builtin.firstCells es n (.slice (some b) m cap)).run P w = .ok cs.toArray w := by
 have := run_loadCells_list (P := P) w b cs h
 rw [hl] at this
 simpa [Builtin.firstCells] using this
theorem b1p {blk : Nat} {cs : Array Value} {t : TypeId} {fr : Nat × Nat} {pre C post : List Value} (hh : w.heap[blk]? = some (.cells cs t fr)) (hc : cs.toList = pre ++ C ++ post) :
  ∀ j v, C[j]? = some v → w.cell? ((⟨blk, pre.length, none⟩ : Addr).add j) = some v := fun j v hv => by rw [Addr.add_lit]; exact a1K hh hc hv
theorem b1h (hr : Rel ρ B w0 st a w) {es : Nat} {y : TV} {l : List Seg} {m : Nat} (h : b34 st es y = some (l, m)) {v : Value} (hv : TV.rel ρ y v) :
  ∃ (b : Option Addr) (c : Nat) (news : List Value), v = .slice b m c ∧ i2 ρ l news ∧ news.length = m * es ∧ ∀ w1 : World, w1.heap = w.heap → (Builtin.firstCells es m v).run P w1 = .ok news.toArray w1 := by
 have cellEq : ∀ {w1 : World}, w1.heap = w.heap → ∀ ad, w1.cell? ad = w.cell? ad := by
  intro w1 h ad; unfold World.cell?; rw [h]
 unfold b34 at h
 split at h
 ·cases h
  have hv' : v = .slice none 0 0 := hv
  exact ⟨none, 0, [], hv', rfl, by simp, fun w1 _ => by simp [hv', Builtin.firstCells]⟩
 ·rename_i o len es'
  split at h
  ·rename_i he
   have he := i5 he
   subst he
   rw [Option.map_eq_some_iff] at h
   obtain ⟨ob, ho, h⟩ := h
   cases h
   obtain ⟨lc, k1, k2, k3, k4, k5, k6, k7⟩ := hv
   cases ha : lc.a with
   | none =>
    obtain ⟨l', C, g1, g2, g3, g4, g5⟩ := hr.m.ob o ob (d0 ho)
    rw [k1] at g1; cases g1
    rw [ha] at g5
    obtain ⟨rfl, _⟩ := g5
    have z1 := k6 ha
    refine ⟨lc.adr, lc.cap, [], by rw [k4, ← k2], g2, by rw [← k2, z1]; simp, fun w1 _ => ?_⟩
    rw [k4, ← k2, z1]
    cases lc.adr <;> simp [Builtin.firstCells, loadCells, loadCellsFrom]
   | some p =>
    obtain ⟨blk, off⟩ := p
    obtain ⟨cs, t, fr, pre, post, C, g1, g2, g3, g4, g5, g6, _⟩ := hr.row ho k1 ha
    subst g3
    refine ⟨lc.adr, lc.cap, C, by rw [k4, ← k2], g4, by rw [g5, k2, k3], fun w1 hw => ?_⟩
    rw [k4, ← k2]
    by_cases hz : lc.size = 0
    ·have hC : C = [] := List.eq_nil_of_length_eq_zero (by rw [g5, hz]; simp)
     rw [hz, hC]
     cases lc.adr <;> simp [Builtin.firstCells, loadCells, loadCellsFrom]
    rw [k7 (by omega)]
    simp only [Loc.addr, ha, Option.map_some, k2]
    exact z9 (by rw [g5, k2, k3]) fun j u hu => by rw [cellEq hw]; exact b1p g1 g2 j u hu
  ·cases h
 ·rename_i o off len cap es'
  split at h
  ·rename_i k n zs own' he he' ho
   have he := i5 he
   have he' := i5 he'
   subst he
   subst he'
   cases h
   obtain ⟨lc, ad, c, k1, k2, k3, k4, k5, k6⟩ := hv
   obtain ⟨l', C, g1, g2, g3, g4, g5⟩ := hr.m.ob o _ (d0 ho)
   rw [k1] at g1; cases g1
   obtain ⟨s1, cs', s2, s3⟩ := g2
   cases s3
   simp only [List.append_nil] at s2
   have hzl : off + m ≤ zs.length := by have : zs.length = lc.size * lc.es := by rw [← g3, s2]; simp
                                        omega
   refine ⟨ad, c, ((zs.drop off).take m).map k.val, k2, ⟨by simp; omega, [], by simp, rfl⟩, by simp; omega, fun w1 hw => ?_⟩
   by_cases hm : m = 0
   ·subst hm
    rw [k2]
    cases ad <;> simp [Builtin.firstCells, loadCells, loadCellsFrom]
   ·obtain ⟨blk, f, q1, q2⟩ := k6 (by omega)
    rw [q1] at g5
    obtain ⟨cs, t, fr, pre, post, r1, r2, r3, _⟩ := g5
    subst r3
    rw [k2, q2]
    refine z9 (by simp; omega) fun j u hu => ?_
    rw [cellEq hw, Addr.add_lit]
    have hj : j < m := by have := (List.getElem?_eq_some_iff.1 hu).1; simp at this; omega
    have : C[off + j]? = some u := by
     rw [s2, List.getElem?_map]
     rw [List.getElem?_map, List.getElem?_take, if_pos hj, List.getElem?_drop] at hu
     exact hu
    have := a1K r1 r2 this
    rwa [← Nat.add_assoc] at this
  ·cases h
 ·rename_i k zs
  split at h
  ·rename_i he
   have he := i5 he
   subst he
   cases h
   obtain ⟨ad, c, vs, k1, k2, k3, k4⟩ := hv
   have k3 : vs = zs.map k.val := k3
   subst k3
   have k1 : v = .slice ad zs.length c := k1
   refine ⟨ad, c, zs.map k.val, k1, ⟨rfl, [], by simp, rfl⟩, by simp, fun w1 hw => ?_⟩
   by_cases hm : zs = []
   ·subst hm
    rw [k1]
    cases ad <;> simp [Builtin.firstCells, loadCells, loadCellsFrom]
   ·have hp := List.length_pos_iff.2 hm
    obtain ⟨blk, cells, t', fr, pre, post, e1, _, e3, e4⟩ := k4 (by simpa using hp)
    have e3 := hr.m.frz blk _ e3
    rw [k1, e1]
    refine z9 (by simp) fun j u hu => ?_
    rw [cellEq hw, Addr.add_lit]
    exact a1K e3 e4 hu
  ·cases h
 ·cases h
theorem b2Q (hr : Rel ρ B w0 st a w) {x : A1} {k : CK} {zs : List Int} {st1 : St} (h : a20 st x = some (k, zs, st1)) {v : Value} (hv : A1.rel ρ x v) : ∃ ρ1, ρ.le ρ1 ∧ Rel ρ1 B w0 st1 a w ∧ frN ρ1 k zs v := by
 unfold a20 at h
 split at h
 ·cases h
  exact ⟨ρ, .refl ρ, hr, none, 0, hv, Nat.le_refl _, fun h => absurd h (Nat.lt_irrefl 0)⟩
 ·rename_i o len es
  split at h
  ·rename_i k' n zs' hes ho
   have hes := i5 hes
   subst hes
   cases h
   obtain ⟨lc, k1, k2, k3, k4, k5, k6, k7⟩ := hv
   have hlive := d0 ho
   obtain ⟨l', C, g1, g2, g3, g4, g5⟩ := hr.m.ob o _ hlive
   rw [k1] at g1; cases g1
   obtain ⟨s1, cs', s2, s3⟩ := g2
   cases s3
   simp only [List.append_nil] at s2
   have hzl : zs.length = lc.size := by have : C.length = zs.length := by rw [s2]; simp
                                        rw [g3, k3] at this; omega
   cases ha : lc.a with
   | none =>
    refine ⟨ρ, .refl ρ, ⟨hr.len, hr.tm, hr.m.kill o, hr.defers⟩, lc.adr, lc.cap, by rw [k4, hzl], by omega, fun hp => ?_⟩
    have := k6 ha
    omega
   | some x =>
    obtain ⟨blk, off⟩ := x
    rw [ha] at g5
    obtain ⟨cs, t, fr, pre, post, r1, r2, r3, r4, _⟩ := g5
    obtain ⟨rfl, _, _, r7⟩ := r4 rfl
    have hpre : pre = [] := List.eq_nil_of_length_eq_zero r3
    subst hpre
    obtain ⟨q1, q2⟩ := hr.m.freeze hlive rfl k1 ha r1
    refine ⟨_, q1, ⟨hr.len, fun i v h => TV.rel_le q1 (hr.tm i v h), q2, a2U q1 hr.defers⟩, lc.adr, lc.cap, by rw [k4, hzl], by omega, fun hp => ⟨blk, cs, t, fr, [], post, ?_, ?_, ?_, ?_⟩⟩
    ·rw [r7]; simp [Loc.addr, ha]
    ·show ρ.lo ≤ blk
     rw [hr.m.env.lo]
     exact (hr.m.ownB o _ lc _ hlive rfl k1 ha).1
    ·show (if blk = blk then some _ else ρ.fz blk) = _
     rw [if_pos rfl]
    ·rw [r2, s2]
  ·cases h
 ·cases h
theorem b8o (hr : Rel ρ B w0 st a w) {es : Nat} {y : TV} {l : List Seg} {m : Nat} {st1 : St} (h : b8G st es y = some (l, m, st1)) {v : Value} (hv : TV.rel ρ y v) :
  ∃ ρ1, ρ.le ρ1 ∧ Rel ρ1 B w0 st1 a w ∧ ∃ b c news, v = .slice b m c ∧ i2 ρ1 l news ∧ news.length = m * es ∧ ∀ w1 : World, w1.heap = w.heap → (Builtin.firstCells es m v).run P w1 = .ok news.toArray w1 := by
 unfold b8G at h
 split at h
 ·rename_i x hsrc
  obtain ⟨b, c, news, s1, s2, s3, s4⟩ := b1h (P := P) hr hsrc hv
  split at h
  ·rename_i k zs st2 hf
   cases h
   obtain ⟨c0, cs', e1, e2, e3⟩ := s2
   cases e3
   obtain ⟨ρ1, q1, q2, q3⟩ := b2Q hr hf e2
   exact ⟨ρ1, q1, q2, b, c, news, s1, ⟨[c0], [], by rw [e1]; rfl, ⟨c0, [], rfl, q3, rfl⟩, rfl⟩, s3, s4⟩
  ·cases h
   exact ⟨ρ, .refl ρ, hr, b, c, news, s1, s2, s3, s4⟩
 ·rename_i l' m' _ hsrc
  cases h
  obtain ⟨b, c, news, s1, s2, s3, s4⟩ := b1h (P := P) hr hsrc hv
  exact ⟨ρ, .refl ρ, hr, b, c, news, s1, s2, s3, s4⟩
 ·cases h
theorem X8 {t t2 e e2 ty : TypeId} {te : TyI} (hd : P.underlying t = some (.slice e)) (hd2 : P.underlying t2 = some (.slice e2)) (hk : TyOk P e te) {base : Option Addr} {n cap m c : Nat} {b : Option Addr} {news : List Value}
  (hn : ∀ w1 : World, w1.heap = w.heap → (Builtin.firstCells te.size m (.slice b m c)).run P w1 = .ok news.toArray w1) (hroom : n + m ≤ cap) {w' : World}
  (hst : ∀ x, base = some x → (storeCells (x.add (n * te.size)) news).run P w = .ok () w') (hnone : base = none → w' = w) :
  (Builtin.append_ #[t, t2] ty #[.slice base n cap, .slice b m c]).run P w = .ok (.slice base (n + m) cap) w' := by
 have h0 := hn w rfl
 cases base with
 | none =>
  have := hnone rfl
  subst this
  simp [Builtin.append_, run_underlying hd, run_underlying hd2, hk.run_size, Builtin.lenOf, hroom, h0]
 | some x =>
  have := hst x rfl
  simp [Builtin.append_, run_underlying hd, run_underlying hd2, hk.run_size, Builtin.lenOf, hroom, h0, this]
theorem a0Z {t t2 e e2 ty : TypeId} {te : TyI} (hd : P.underlying t = some (.slice e)) (hd2 : P.underlying t2 = some (.slice e2)) (hk : TyOk P e te) (hby : 0 < te.bytes) {base : Option Addr} {n cap m c : Nat} {b : Option Addr} {olds news : List Value}
  (hn : ∀ w1 : World, w1.heap = w.heap → (Builtin.firstCells te.size m (.slice b m c)).run P w1 = .ok news.toArray w1) (ho : ∀ w1 : World, w1.heap = w.heap → (Builtin.firstCells te.size n (.slice base n cap)).run P w1 = .ok olds.toArray w1)
  (hroom : cap < n + m) (hbytes : (n + m) * te.bytes ≤ 140737488355328) :
  ∃ (newCap : Nat) (rest : List Value), n + m ≤ newCap ∧ rest.length = (newCap - (n + m)) * te.size ∧
   (Builtin.append_ #[t, t2] ty #[.slice base n cap, .slice b m c]).run P w = .ok (.slice (some ⟨w.heap.size, 0, none⟩) (n + m) newCap) (w.drew.alloc (.cells (olds ++ news ++ rest).toArray e)) := by
 obtain ⟨f, zv, f1, f2, f3, f4, f5, f6⟩ := hk.info
 have hfit := growslice_fits hroom hbytes
 have h48 : ¬ (281474976710656 < Builtin.nextslicecap (n + m) cap * te.bytes) := by omega
 have hnr : ¬ (n + m ≤ cap) := by omega
 have hby0 : ¬ te.bytes = 0 := by omega
 have hti : ∀ w1, (typeInfo e).run P w1 = .ok f w1 := by intro w1; simp [typeInfo, f1]
 have hzr : ∀ w1, (zeroValue e).run P w1 = .ok zv w1 := by intro w1; simp [zeroValue, typeInfo, f1, f4]
 have hask : ∀ (n : Nat) (w1 : World), (askRoom n).run P w1 = .ok () w1 := by intro n w1; unfold askRoom; split <;> rfl
 refine ⟨(Question.appendCap (n + m) cap e).cut (w.tape w.drawn (.appendCap (n + m) cap e)), (Builtin.zeroCells zv.cells ((Question.appendCap (n + m) cap e).cut (w.tape w.drawn (.appendCap (n + m) cap e)) - (n + m))).toList, ?_, ?_, ?_⟩
 ·simp [Question.cut]
 ·simp [Builtin.zeroCells, f6]
 ·have hfc : (Question.appendCap (n + m) cap e).forced = false := rfl
  have e1 := ho w.drew rfl
  have e2 := hn w.drew rfl
  simp only [Builtin.append_, List.getElem?_toArray, List.getElem?_cons_zero, List.getElem?_cons_succ, Sem.run_bind, run_underlying hd, run_underlying hd2, Result.andThen_ok, hk.run_size, Sem.run_pure, Builtin.lenOf, Bool.false_eq_true, if_false, hnr, hti, f3, hby0, or_self, and_false, h48,
   run_choose_drew, hfc, hask, e1, e2, Bool.not_false, if_true, hzr]
  simp [newRow]
  congr 2
  apply Array.ext'
  simp
theorem a7x (hr : Rel ρ B w0 st a w) {nm : Nat} {dst : Option Tmp} {l : List Seg} {es : Nat} (h : (newVec st nm dst l 0 es).val = some st') (hs : i2 ρ l []) :
  ∃ ρ', ρ.le ρ' ∧ Rel ρ' B w0 st' (a.put dst (.slice none 0 0)) w := by
 unfold newVec at h
 split at h
 ·rename_i st1 hn
  rw [T.val_ret] at h
  subst h
  unfold St.new at hn
  split at hn
  ·rename_i hf
   cases hn
   have hnone : ρ nm = none := hr.m.free nm (.inr hf)
   have hle' := Env.le_set hnone { a := none, adr := none, size := 0, cap := 0, es }
   obtain ⟨h1, h2⟩ := hr.m.addNew hf (b := { segs := l, own := .own }) (l := { a := none, adr := none, size := 0, cap := 0, es }) (fun x _ _ _ _ hx => by cases hx) (fun x hx => by cases hx) (fun i h => by cases h)
    ⟨_, [], if_pos rfl, B6 hle' hs, by simp, Nat.le_refl _, rfl, fun _ => ⟨rfl, rfl⟩⟩
   exact ⟨_, h1, (hr.le h1 h2).putA dst ⟨_, if_pos rfl, rfl, rfl, rfl, Nat.le_refl _, fun _ => rfl, fun h => absurd h (Nat.lt_irrefl 0)⟩⟩
  ·cases hn
 ·simp [T.val_fail] at h
theorem Rel.drew (hr : Rel ρ B w0 st a w) : Rel ρ B w0 st a w.drew := ⟨hr.len, hr.tm, hr.m.drew, hr.defers⟩
theorem b30 {E : AE} (hE : ∀ t i, E.ty t = some i → TyOk P t i) {nm : Nat} {o : Oper} {args : Array Operand} {ats : Array TypeId} (ho : o.op = .call { callee := .builtin .append, args, argTypes := ats }) (hr : Rel ρ B w0 st a w) (h : (j8 E nm o st).val = some st') : FitsV P ρ B w0 st' o a w := by
 simp only [j8, ho] at h
 split at h
 ·rename_i t t2 x y e1 e2
  have hx := hr.get x
  have hy := hr.get y
  have hats : ats = #[t, t2] := by rw [← Array.toArray_toList (xs := ats), e1]
  have hargs : args.map a.eval = #[a.eval x, a.eval y] := by rw [← Array.toArray_toList (xs := args), e2]; simp
  have hexec : ∀ {v : Value} {w' : World}, (Builtin.append_ #[t, t2] o.type #[a.eval x, a.eval y]).run P w = .ok v w' → (execOp a.eval o).run P w = .ok (.value v) w' := by
   intro v w' hv
   rw [Z5 ho, hats, hargs]
   simp [builtin, hv]
  unfold b1m at h
  split at h
  ·rename_i e _ _ _ ee _ _ _ ht ht2
   obtain ⟨d, hd, hdd⟩ := (hE t _ ht).desc
   simp only [TD.is] at hdd
   subst hdd
   obtain ⟨d2, hd2, hdd2⟩ := (hE t2 _ ht2).desc
   simp only [TD.is] at hdd2
   subst hdd2
   split at h
   ·rename_i te hte
    rw [Option.filter_eq_some_iff] at hte
    obtain ⟨hte, hby⟩ := hte
    have hby := a91 hby
    have hk := hE e te hte
    split at h
    ·rename_i l m st hsrc
     obtain ⟨ρ, hle1, hr, b, c, news, s1, s2, s3, s4⟩ := b8o (P := P) hr hsrc hy
     rw [s1] at hexec s4
     have hx := TV.rel_le hle1 hx
     suffices hs : FitsV P ρ B w0 st' o a w from by
      obtain ⟨v, w', ρ', f1, f2, f3⟩ := hs
      exact ⟨v, w', ρ', f1, hle1.trans f2, f3⟩
     split at h
     ·rename_i ex
      rw [ex] at hx
      have hx' : a.eval x = .slice none 0 0 := hx
      rw [hx'] at hexec
      simp only [T.val_ite, T.val_fail, and_false, or_false] at h
      obtain ⟨hb, h⟩ := h
      by_cases hm : m = 0
      ·subst hm
       have hnews : news = [] := List.eq_nil_of_length_eq_zero (by simpa using s3)
       subst hnews
       obtain ⟨ρ', r1, r2⟩ := a7x hr h s2
       exact ⟨_, _, ρ', hexec (X8 hd hd2 hk s4 (Nat.le_refl _) (fun x hx => by cases hx) (fun _ => rfl)), r1, r2⟩
      ·obtain ⟨nc, rest, q1, q2, q3⟩ := a0Z (P := P) (ty := o.type) (olds := []) hd hd2 hk hby (base := none) (n := 0) (cap := 0) s4 (fun w1 _ => by simp [Builtin.firstCells]) (by omega) (by simpa using hb)
       simp only [Nat.zero_add, List.nil_append] at q1 q2 q3
       obtain ⟨ρ', r1, r2⟩ := J2 hr.drew h (cs := (news ++ rest).toArray) (C := news) (post := rest) (by simp) s2 s3 (cap := nc) (by simp [s3, q2, ← Nat.add_mul]; congr 1; omega) q1 e
       exact ⟨_, _, ρ', hexec q3, r1, r2⟩
     ·rename_i ob len es ex
      rw [ex] at hx
      split at h
      ·rename_i segs hob hes
       have hes := i5 hes
       subst hes
       split at h
       ·rename_i z hz
        simp only [T.val_ite, T.val_fail, and_false, or_false] at h
        obtain ⟨hb, h⟩ := h
        obtain ⟨lc, k1, k2, k3, k4, k5, k6, k7⟩ := hx
        have hxv : a.eval x = .slice lc.adr len lc.cap := by rw [k4, k2]
        rw [hxv] at hexec
        have hlive := d0 hob
        obtain ⟨lc', C, g1, g2, g3, g4, g5⟩ := hr.m.ob ob _ hlive
        rw [k1] at g1; cases g1
        have hC : C.length = len * te.size := by rw [g3, k2, k3]
        have hmerge := b4t hz g2 s2
        have hkill : Rel ρ B w0 (st.kill ob) a w := ⟨hr.len, hr.tm, hr.m.kill ob, hr.defers⟩
        cases ha : lc.a with
        | none =>
         rw [ha] at g5
         obtain ⟨rfl, hcap⟩ := g5
         obtain ⟨hcap, hadr⟩ := hcap rfl
         have hl0 : len = 0 := by have := k6 ha; omega
         subst hl0
         rw [hadr, hcap] at hexec
         by_cases hm : m = 0
         ·subst hm
          have hnews : news = [] := List.eq_nil_of_length_eq_zero (by simpa using s3)
          subst hnews
          obtain ⟨ρ', r1, r2⟩ := a7x hkill h (by simpa using hmerge)
          exact ⟨_, _, ρ', hexec (X8 hd hd2 hk s4 (Nat.le_refl _) (fun x hx => by cases hx) (fun _ => rfl)), r1, r2⟩
         ·obtain ⟨nc, rest, q1, q2, q3⟩ := a0Z (P := P) (ty := o.type) (olds := []) hd hd2 hk hby (base := none) (n := 0) (cap := 0) s4 (fun w1 _ => by simp [Builtin.firstCells]) (by omega) (by simpa using hb)
          simp only [Nat.zero_add, List.nil_append] at q1 q2 q3
          obtain ⟨ρ', r1, r2⟩ := J2 hkill.drew h (cs := (news ++ rest).toArray) (C := news) (post := rest) (by simp) (by simpa using hmerge) (by simpa using s3) (cap := nc) (by simp [s3, q2, ← Nat.add_mul]; congr 1; omega) (by simpa using q1) e
          refine ⟨_, _, ρ', hexec q3, r1, ?_⟩
          simpa using r2
        | some p =>
         obtain ⟨blk, off⟩ := p
         rw [ha] at g5
         obtain ⟨cs, ct, fr, pre, post, p1, p2, p3, p4⟩ := g5
         obtain ⟨rfl, p5, p6, p7⟩ := p4.1 rfl
         have hpre : pre = [] := List.eq_nil_of_length_eq_zero p3
         subst hpre
         simp only [List.nil_append] at p2
         have hadr : lc.adr = some ⟨blk, 0, none⟩ := by rw [p7]; simp [Loc.addr, ha]
         rw [hadr] at hexec
         have hCl : ∀ j v, C[j]? = some v → w.cell? ((⟨blk, 0, none⟩ : Addr).add j) = some v := b1p (pre := []) p1 (by simpa using p2)
         by_cases hroom : len + m ≤ lc.cap
         ·obtain ⟨hBb, hBz⟩ := hr.m.ownB ob _ lc _ hlive rfl k1 ha
          have hcsz : cs.size = (C ++ post).length := by rw [← p2]; simp
          have hmul : (len + m) * te.size ≤ lc.cap * te.size := Nat.mul_le_mul_right _ hroom
          rw [k3] at p5
          have hfit : len * te.size + m * te.size ≤ cs.size := by rw [← Nat.add_mul]; exact Nat.le_trans hmul p5
          have hst := C5 (P := P) blk (len * te.size) ct fr news 0 cs w p1 (by rw [s3]; omega) p6 (a1B s2)
          simp only [Nat.add_zero] at hst
          have hcs' : cs.toList.take (len * te.size) ++ news ++ cs.toList.drop (len * te.size + news.length) = C ++ news ++ post.drop (m * te.size) := by
           rw [p2, List.take_append_of_le_length (by omega), List.take_of_length_le (by omega), List.drop_append, List.drop_of_length_le (by omega), s3, hC]
           simp
          rw [hcs'] at hst
          have hdead : ∀ i c, (st.mem.set ob Slot.dead)[i]? = some (Slot.live c) → i ≠ ob ∧ st.mem[i]? = some (Slot.live c) := by
           intro i c hi
           have hne : i ≠ ob := by
            intro e
            subst e
            rw [List.getElem?_set_self (List.getElem?_eq_some_iff.1 hlive).1] at hi
            cases hi
           exact ⟨hne, by rw [List.getElem?_set_ne (Ne.symm hne)] at hi; exact hi⟩
          have hsep : ∀ i c l' y, (st.mem.set ob Slot.dead)[i]? = some (Slot.live c) → ρ i = some l' → l'.a = some y → y.1 ≠ blk := by
           intro i c l' y hi hl' hy
           obtain ⟨hne, hi'⟩ := hdead i c hi
           exact fun z => hr.m.sep ob _ i c lc l' _ y hlive hi' (fun h => by cases h) (Ne.symm hne) k1 hl' ha hy z.symm
          have hm1 : MRel ρ B w0 (st.kill ob).mem (w.setRow blk (C ++ news ++ post.drop (m * te.size)).toArray) :=
           ⟨hkill.m.free, fun i c hi => (hkill.m.ob i c hi).world fun l' y hl' hy => setRow_other w blk y.1 _ (hsep i c l' y hi hl' hy), hkill.m.sep, hkill.m.ownB, hkill.m.mtM,
            hkill.m.below.trans (.of ⟨rfl, rfl, rfl, by simp, fun k hk => setRow_other w blk k _ (by omega)⟩), by simpa using hkill.m.size,
            fun k c0 hk => (setRow_other w blk k _ (fun e => by rw [e, hBz] at hk; exact absurd hk (by simp))).trans (hkill.m.frz k c0 hk), hkill.m.env, hkill.m.emt,
            hkill.m.its.mono (fun _ _ _ h => h) (fun _ _ h => h) fun i s p l' b' _ _ _ h4 => ⟨(setRow_other w blk b' _ fun e => a3P h4 (e ▸ ⟨cs, ct, fr, p1⟩)).trans h4, id⟩⟩
          unfold newVec at h
          split at h
          ·rename_i st1 hn
           rw [T.val_ret] at h
           subst h
           unfold St.new at hn
           split at hn
           ·rename_i hf
            cases hn
            have hnone : ρ nm = none := hkill.m.free nm (.inr hf)
            have hle' := Env.le_set hnone { a := some (blk, 0), adr := some ⟨blk, 0, none⟩, size := len + m, cap := lc.cap, es := te.size }
            obtain ⟨h1, h2⟩ := hm1.addNew hf (b := { segs := z, own := .own }) (l := { a := some (blk, 0), adr := some ⟨blk, 0, none⟩, size := len + m, cap := lc.cap, es := te.size })
             (fun x i c l' y hx hi hl' hy => by cases hx; exact hsep i c l' y hi hl' hy) (fun x hx => by cases hx; exact ⟨hBb, hBz⟩) (fun i h => by cases h)
             ⟨_, C ++ news, if_pos rfl, B6 hle' hmerge, by simp [hC, s3, Nat.add_mul], hroom, (C ++ news ++ post.drop (m * te.size)).toArray, ct, fr, [], post.drop (m * te.size), setRow_heap w blk cs _ ct fr p1, by simp, rfl,
              (fun _ => ⟨rfl, by simp only [List.size_toArray, List.length_append, List.length_drop]; simp only [List.length_append] at hcsz; omega, by
               have : (C ++ news ++ post.drop (m * te.size)).toArray.size = cs.size := by simp only [List.size_toArray, List.length_append, List.length_drop]; simp only [List.length_append] at hcsz; omega
               rw [this]; exact p6, rfl⟩), fun _ => by
               have : (C ++ news ++ post.drop (m * te.size)).toArray.size = cs.size := by simp only [List.size_toArray, List.length_append, List.length_drop]; simp only [List.length_append] at hcsz; omega
               rw [this]; exact p6⟩
            have hkr : Rel ρ B w0 (st.kill ob) a w := hkill
            refine ⟨_, _, _, hexec (X8 hd hd2 hk s4 hroom (w' := w.setRow blk (C ++ news ++ post.drop (m * te.size)).toArray) (fun x hx => by cases hx; rw [Addr.add_lit, Nat.zero_add]; exact hst) (fun hx => by cases hx)), h1, (hkr.le h1 h2).putA o.dst ?_⟩
            exact ⟨_, if_pos rfl, rfl, k3 ▸ rfl, rfl, hroom, (fun hx => by cases hx), fun _ => rfl⟩
           ·cases hn
          ·simp [T.val_fail] at h
         ·have hcell : ∀ w1 : World, w1.heap = w.heap → (Builtin.firstCells te.size len (.slice (some ⟨blk, 0, none⟩) len lc.cap)).run P w1 = .ok C.toArray w1 := by
           intro w1 hw
           refine z9 hC fun j u hu => ?_
           have := hCl j u hu
           unfold World.cell? at this ⊢
           rw [hw]; exact this
          obtain ⟨nc, rest, q1, q2, q3⟩ := a0Z (P := P) (ty := o.type) (olds := C) hd hd2 hk hby (base := some ⟨blk, 0, none⟩) (n := len) (cap := lc.cap) s4 hcell (by omega) hb
          obtain ⟨ρ', r1, r2⟩ := J2 hkill.drew h (cs := (C ++ news ++ rest).toArray) (C := C ++ news) (post := rest) (by simp) hmerge (by simp [hC, s3, Nat.add_mul]) (cap := nc) (by simp [hC, s3, q2]; rw [← Nat.add_assoc, ← Nat.add_mul, ← Nat.add_mul]; congr 1; omega) q1 e
          exact ⟨_, _, ρ', hexec q3, r1, r2⟩
       ·simp [T.val_fail] at h
      ·simp [T.val_fail] at h
     ·simp [T.val_fail] at h
    ·simp [T.val_fail] at h
   ·simp [T.val_fail] at h
  ·simp [T.val_fail] at h
 ·simp [T.val_fail] at h
end
end Go.Ax
namespace Go.Ax
open Go.RowKit
variable {P : Program}
structure View where
 w : World
 ok : Nat → Prop

 fz : Nat → Prop
def a8a (V : View) (a : Option Addr) (xs : List Value) : Prop :=
 0 < xs.length → ∃ blk cs t fr pre post, a = some ⟨blk, pre.length, none⟩ ∧ V.ok blk ∧ V.w.heap[blk]? = some (.cells cs t fr) ∧ cs.toList = pre ++ xs ++ post
def View.fr (V : View) : View := ⟨V.w, V.fz, V.fz⟩
def b0I (k : CK) (V : View) (zs : List Int) (v : Value) : Prop := ∃ a c, v = .slice a zs.length c ∧ zs.length ≤ c ∧ a8a V a (zs.map k.val)
def FK.crd (V : View) : (K : FK) → K.T → List Value → Prop
 | .int k, n, cs => cs = [.int k n]
 | .bool, b, cs => cs = [.bool b]
 | .xs k n, zs, cs => zs.length = n ∧ cs = zs.map k.val
 | .sl k, zs, cs => ∃ v, cs = [v] ∧ b0I k V zs v
 | .fs k, zs, cs => ∃ v, cs = [v] ∧ b0I k V.fr zs v
def b5z (V : View) : (L : List FK) → Cs L → List Value → Prop
 | [], _, cs => cs = []
 | K :: r, x, cs => ∃ c1 c2, cs = c1 ++ c2 ∧ K.crd V x.1 c1 ∧ b5z V r x.2 c2
def RK.crd (V : View) : (K : RK) → K.T → List Value → Prop
 | .int k, n, cs => cs = [.int k n]
 | .xs k n, zs, cs => zs.length = n ∧ cs = zs.map k.val
 | .sl k, zs, cs => ∃ v, cs = [v] ∧ b0I k V zs v
 | .ct L, x, cs => cs.length = a4h L ∧ b5z V L x cs
def Kd.rd (V : View) : (K : Kd) → K.T → Value → Prop
 | .int k, n, v => v = .int k n
 | .bool, b, v => v = .bool b
 | .str, s, v => v = .string s
 | .xs k n, zs, v => zs.length = n ∧ v = .agg (zs.map k.val).toArray
 | .sl k, zs, v => b0I k V zs v
 | .sls k, l, v => ∃ a c vs, v = .slice a l.length c ∧ l.length ≤ c ∧ vs.length = l.length ∧ a8a V a vs ∧ ∀ (i : Nat) (zs : List Int) (u : Value), l[i]? = some zs → vs[i]? = some u → b0I k V zs u
 | .fnc f, _, v => v = .func (.func f) #[] #[]
 | .fcl f k, x, v => ∃ blk cs t fr pre post, v = .func (.func f) #[] #[.pointer (some ⟨blk, pre.length, none⟩)] ∧ V.ok blk ∧ V.w.heap[blk]? = some (.cells cs t fr) ∧ cs.toList = pre ++ [.int k x] ++ post
 | .rp K, x, v => ∃ blk mid cs t fr pre post, v = .pointer (some ⟨blk, pre.length, none⟩) ∧ V.ok blk ∧ K.crd V x mid ∧ V.w.heap[blk]? = some (.cells cs t fr) ∧ cs.toList = pre ++ mid ++ post
 | .sla k m, zs, v => ∃ a c n, v = .slice a n c ∧ zs.length = n * m ∧ n ≤ c ∧ (n = 0 ∨ 0 < m) ∧ a8a V a (zs.map k.val)
 | .cat l, x, v => ∃ cs, v = .agg cs.toArray ∧ b5z V l x cs
 | .io l, x, v => ∃ blk mid cs t fr pre post, v = .pointer (some ⟨blk, pre.length, none⟩) ∧ mid.length = a4h l ∧ b5z V l x mid ∧ V.w.heap[blk]? = some (.cells cs t fr) ∧ cs.toList = pre ++ mid ++ post ∧ (cs.size ≤ fr.1 ∨ fr.1 = fr.2)
 | .ios k, zs, v => ∃ a c, v = .slice a zs.length c ∧ zs.length ≤ c ∧ (0 < zs.length → ∃ blk cs t fr pre post, a = some ⟨blk, pre.length, none⟩ ∧ V.w.heap[blk]? = some (.cells cs t fr) ∧ cs.toList = pre ++ zs.map k.val ++ post ∧ (cs.size ≤ fr.1 ∨ fr.1 = fr.2))
 | .xv _, _, _ => False
 | .op _, _, _ => False
 | .fsl k, zs, v => b0I k V zs v
 | .asl k, zs, v => b0I k V.fr zs v
def a79 (V : View) : (ks : List Kd) → Ds ks → List Value → Prop
 | [], _, vs => vs = []
 | k :: ks, x, vs => ∃ v vs', vs = v :: vs' ∧ k.rd V x.1 v ∧ a79 V ks x.2 vs'
def FK.cpl : (K : FK) → K.T → List Value → Prop
 | .int k, n, cs => cs = [.int k n]
 | .bool, b, cs => cs = [.bool b]
 | .xs k n, zs, cs => zs.length = n ∧ cs = zs.map k.val
 | .sl _, _, _ => False
 | .fs _, _, _ => False
def c09 : (L : List FK) → Cs L → List Value → Prop
 | [], _, cs => cs = []
 | K :: r, x, cs => ∃ c1 c2, cs = c1 ++ c2 ∧ K.cpl x.1 c1 ∧ c09 r x.2 c2
def c2o (B : Nat) (w : World) (k : CK) (zs : List Int) (v : Value) (bs : List Nat) : Prop :=
 (zs = [] ∧ v = .slice none 0 0 ∧ bs = []) ∨
   ∃ blk cs t fr post cap, bs = [blk] ∧ B ≤ blk ∧ zs.length ≤ cap ∧ cap ≤ cs.size ∧ v = .slice (some ⟨blk, 0, none⟩) zs.length cap ∧ w.heap[blk]? = some (.cells cs t fr) ∧ cs.toList = zs.map k.val ++ post ∧ (cs.size ≤ fr.1 ∨ fr.1 = fr.2)
def c1h (B : Nat) (w : World) (fz : Nat → Prop) (k : CK) (zs : List Int) (v : Value) (bs : List Nat) : Prop :=
 b0I k ⟨w, fun b => fz b ∨ b ∈ bs, fz⟩ zs v ∧ ∀ b ∈ bs, B ≤ b ∧ a4P w b
def FK.mk (B : Nat) (w : World) (fz : Nat → Prop) : (K : FK) → K.T → List Value → List Nat → Prop
 | .int k, n, cs, bs => cs = [.int k n] ∧ bs = []
 | .bool, b, cs, bs => cs = [.bool b] ∧ bs = []
 | .xs k n, zs, cs, bs => (zs.length = n ∧ cs = zs.map k.val) ∧ bs = []
 | .sl k, zs, cs, bs => ∃ v, cs = [v] ∧ c2o B w k zs v bs
 | .fs k, zs, cs, bs => ∃ v, cs = [v] ∧ c1h B w fz k zs v bs
def c08 (B : Nat) (w : World) (fz : Nat → Prop) : (L : List FK) → Cs L → List Value → List Nat → Prop
 | [], _, cs, bs => cs = [] ∧ bs = []
 | K :: r, x, cs, bs => ∃ c1 c2 b1 b2, cs = c1 ++ c2 ∧ bs = b1 ++ b2 ∧ K.mk B w fz x.1 c1 b1 ∧ c08 B w (fun b => fz b ∨ (K.isFs = true ∧ b ∈ b1)) r x.2 c2 b2 ∧ ∀ b ∈ b1, b ∉ b2
def Kd.mk (B : Nat) (w : World) (fz : Nat → Prop) : (K : Kd) → K.T → Value → List Nat → Prop
 | .sl k, zs, v, bs => c2o B w k zs v bs
 | .sls k, l, v, bs => Kd.rd ⟨w, fun b => b ∈ bs, fz⟩ (.sls k) l v ∧ ∀ b ∈ bs, B ≤ b ∧ a4P w b
 | .fsl _, _, _, _ => False
 | .asl k, zs, v, bs => c1h B w fz k zs v bs
 | .rp _, _, _, _ => False
 | .fcl _ _, _, _, _ => False
 | .sla k m, zs, v, bs => (zs = [] ∧ v = .slice none 0 0 ∧ bs = []) ∨
   ∃ blk cs t fr post n cap, bs = [blk] ∧ B ≤ blk ∧ 0 < m ∧ zs.length = n * m ∧ n ≤ cap ∧ cap * m ≤ cs.size ∧ v = .slice (some ⟨blk, 0, none⟩) n cap ∧ w.heap[blk]? = some (.cells cs t fr) ∧ cs.toList = zs.map k.val ++ post ∧ (cs.size ≤ fr.1 ∨ fr.1 = fr.2)
 | .cat l, x, v, bs => ∃ cs, v = .agg cs.toArray ∧ c08 B w fz l x cs bs
 | .io _, _, _, _ => False
 | .ios _, _, _, _ => False
 | .xv k, zs, v, bs => v = .agg (zs.map k.val).toArray ∧ bs = []
 | .op l, x, v, bs => ∃ blk cs t fr mid post, bs = [blk] ∧ B ≤ blk ∧ v = .pointer (some ⟨blk, 0, none⟩) ∧ w.heap[blk]? = some (.cells cs t fr) ∧ cs.toList = mid ++ post ∧ c09 l x mid ∧ (cs.size ≤ fr.1 ∨ fr.1 = fr.2)
 | .fnc f, _, v, bs => v = .func (.func f) #[] #[] ∧ bs = []
 | .int k, n, v, bs => v = .int k n ∧ bs = []
 | .bool, b, v, bs => v = .bool b ∧ bs = []
 | .str, s, v, bs => v = .string s ∧ bs = []
 | .xs k n, zs, v, bs => (zs.length = n ∧ v = .agg (zs.map k.val).toArray) ∧ bs = []
def b4u (B : Nat) (w : World) (fz : Nat → Prop) : (ks : List Kd) → Rs ks → List Value → List Nat → Prop
 | [], _, vs, bs => vs = [] ∧ bs = []
 | [k], x, vs, bs => ∃ v, vs = [v] ∧ k.mk B w fz x v bs
 | k :: k2 :: r, x, vs, bs => ∃ v vs' b1 b2, vs = v :: vs' ∧ bs = b1 ++ b2 ∧ k.mk B w fz x.1 v b1 ∧ b4u B w fz (k2 :: r) x.2 vs' b2 ∧ ∀ b ∈ b1, b ∉ b2
def b2x : List Value → Value
 | [v] => v
 | vs => .tuple vs.toArray
def Kd.reg : Kd → Value → List (Option Reg)
 | .io l, .pointer (some a) => [some ⟨a.block, a.off, a4h l⟩]
 | .io _, _ => [none]
 | .ios _, .slice (some a) n _ => if n = 0 then [none] else [some ⟨a.block, a.off, n⟩]
 | .ios _, _ => [none]
 | _, _ => []
def a5b : List Kd → List Value → List (Option Reg)
 | k :: ks, v :: vs => k.reg v ++ a5b ks vs
 | _, _ => []
structure Apart (M : List (Option Reg)) (ok : Nat → Prop) : Prop where
 rd : ∀ m, some m ∈ M → ¬ ok m.blk
 io : M.Pairwise fun a b => ∀ m m', a = some m → b = some m' → m.blk ≠ m'.blk
def c1m (w : World) : Option Reg → Value → Prop
 | none, u => u.cells.toList = []
 | some m, u => u.cells.toList.length = m.n ∧ ∃ cs t fr pre post, w.heap[m.blk]? = some (.cells cs t fr) ∧ cs.toList = pre ++ u.cells.toList ++ post ∧ pre.length = m.off
def a1N (w : World) : List (Option Reg) → List Value → Prop
 | [], us => us = []
 | m :: M, us => ∃ u us', us = u :: us' ∧ c1m w m u ∧ a1N w M us'
def i0 (P : Program) (f : FuncId) (s : Sig) : Prop :=
 ∀ (ok fz : Nat → Prop) (x : Ds s.args) (vs : List Value) (w : World), (∀ b, fz b → ok b) → a79 ⟨w, ok, fz⟩ s.args x vs → Apart (a5b s.args vs) ok → ∀ r, s.g x = some r →
  Calls P f vs.toArray w fun e w' => ∃ us ls bs, e = .returned (b2x us) ∧ b4u w.heap.size w' fz s.res r (us ++ ls) bs ∧ a1N w' (a5b s.args vs) ls ∧ BelowM (a5b s.args vs) w.heap.size w w'
def i7 (P : Program) (f : FuncId) : Prop := ∃ fn, P.funcs[f]? = some fn ∧ fn.body.isSome = true ∧ (fn.name == "runtime.NumGoroutine") = false
def XOk (P : Program) (f : FuncId) (s : XSig) : Prop :=
 ∀ (ok fz : Nat → Prop) (x : Ds s.args) (vs : List Value) (w : World), (∀ b, fz b → ok b) → a79 ⟨w, ok, fz⟩ s.args x vs → Apart (a5b s.args vs) ok → ∀ r, s.g x = some r →
  Calls P f vs.toArray w fun e w' => match xr r with
   | .inr r => ∃ us ls bs, e = .returned (b2x us) ∧ b4u w.heap.size w' fz s.res r (us ++ ls) bs ∧ a1N w' (a5b s.args vs) ls ∧ BelowM (a5b s.args vs) w.heap.size w w'
   | .inl n => e = .panicked [{ v := s.py.val n, recovered := false }] ∧ BelowM (a5b s.args vs) w.heap.size w w'
theorem XOk.sig {P : Program} {f : FuncId} {s : XSig} (h : XOk P f s) : i0 P f s.sig := by
 intro ok fz x vs w h0 h1 h2 r hr
 simp only [XSig.sig] at hr
 unfold xg at hr
 split at hr
 ·rename_i m r' hg
  cases hr
  exact h ok fz x vs w h0 h1 h2 _ hg
 ·cases hr
def b5Q : Option (Py × Int) → FrameMode
 | none => .returning
 | some (p, n) => .panicking [{ v := p.val n, recovered := false }]
def a1U : Option (Py × Int) → FrameMode
 | none => .returning
 | some (p, n) => .panicking [{ v := p.val n, recovered := true }]
def b68 (P : Program) (f : FuncId) (J : Cat) : Prop :=
 ∀ (ρ : Env) (B : Nat) (w0 : Base) (mem : List Slot) (w : World) (p : Option (Py × Int)) (xs : List A1) (us : Array Value) (mem' : List Slot),
  b2B ρ xs us.toList → MRel ρ B w0 mem w → J.run p xs mem = some mem' →
  CallsD P f us (b5Q p) w fun e u' w' => (∃ v, e = .returned v) ∧ u' = a1U p ∧ ∃ ρ', ρ.le ρ' ∧ MRel ρ' B w0 mem' w'
def Y4 (P : Program) (f : FuncId) (J : Inl) : Prop :=
 ∀ (β : Type) (ρ : Env) (B : Nat) (w0 : Base) (mem : List Slot) (w : World) (args : List TV) (vs : List Value) (K : IR → Option β) (r : β) (R : Ending → World → Prop),
  args.length = vs.length → (∀ (i : Nat) (x : TV) (u : Value), args[i]? = some x → vs[i]? = some u → TV.rel ρ x u) → MRel ρ B w0 mem w → J.run β args mem K = some r →
  (∀ ρ' w' l us mem', ρ.le ρ' → MRel ρ' B w0 mem' w' → F4 ρ' l us → K (.ret l mem') = some r → R (.returned (b2x us)) w') →
  (∀ ρ' w' p n mem', ρ.le ρ' → MRel ρ' B w0 mem' w' → K (.pan p n mem') = some r → R (.panicked [{ v := Py.val p n, recovered := false }]) w') →
  Calls P f vs.toArray w R
def b2A (P : Program) (t : TypeId) (name : String) (f : FuncId) : Prop := ∀ v w, (method (P.types.size + Made.depth) t v name).run P w = .ok (f, v) w
def RtOk (P : Program) (f : FuncId) (j m L : Nat) : Prop :=
 ∀ (ρ : Env) (B : Nat) (w0 : Base) (mem : List Slot) (w : World) (args : List TV) (vs : List Value) (R : Ending → World → Prop) (v : TV) (n : Nat),
  args.length = L → args.length = vs.length → (∀ (i : Nat) (x : TV) (u : Value), args[i]? = some x → vs[i]? = some u → TV.rel ρ x u) → MRel ρ B w0 mem w → args[j]? = some v → lenOf v = some n → n < m →
  (∀ ρ' w' u, ρ.le ρ' → MRel ρ' B w0 mem w' → TV.rel ρ' v u → R (.returned u) w') → Calls P f vs.toArray w R
def ReOk (P : Program) (f : FuncId) (j i L : Nat) : Prop :=
 ∀ (ρ : Env) (B : Nat) (w0 : Base) (mem : List Slot) (w : World) (args : List TV) (vs : List Value) (R : Ending → World → Prop) (v : AV),
  args.length = L → args.length = vs.length → (∀ (i : Nat) (x : TV) (u : Value), args[i]? = some x → vs[i]? = some u → TV.rel ρ x u) → MRel ρ B w0 mem w → args[j]? = some (.one v) → args[i]? = some (.one (.sc (.int .i64 0))) →
  (∀ ρ' w' u, ρ.le ρ' → MRel ρ' B w0 mem w' → AV.rel ρ' v u → R (.returned u) w') → Calls P f vs.toArray w R
def c2h (P : Program) (f : FuncId) : RtC → Prop
 | .short j m L => RtOk P f j m L
 | .okay j i L => ReOk P f j i L
structure AE.Ok (E : AE) (P : Program) : Prop where
 ty : ∀ t i, E.ty t = some i → TyOk P t i
 fn : ∀ f, ∀ s ∈ E.fn f, i0 P f s ∧ i7 P f
 xn : ∀ f s, E.xn f = some s → XOk P f s ∧ i7 P f ∧ (∃ l, E.fn f = s.sig :: l) ∧ E.rt f = none
 ct : ∀ f J, E.ct f = some J → b68 P f J ∧ i7 P f
 eqs : ∀ t k n, E.eqs t = some (k, n) → StEq P t k n
 inl : ∀ f J, E.inl f = some J → Y4 P f J ∧ i7 P f
 mth : ∀ t name f, E.mth t name = some f → b2A P t name f
 rt : ∀ f c, E.rt f = some c → c2h P f c ∧ i7 P f
 ifc : ∀ t, E.ifc t = true → b8I P t
 imp : ∀ t i, E.imp t i = true → b93 P t i
section
variable {ρ : Env} {B : Nat} {w0 : Base} {st st' : St} {a : Act} {w : World}
def a6e (ρ : Env) (mem : List Slot) (b : Nat) : Prop := ∃ o ob l y, mem[o]? = some (Slot.live ob) ∧ ρ o = some l ∧ l.a = some y ∧ y.1 = b
def Env.kl (ρ : Env) (b : Nat) : Prop := ρ.ok b ∧ (ρ.lo ≤ b ∨ ρ.al b)
def vw (ρ : Env) (mem : List Slot) (w : World) : View := ⟨w, fun b => a6e ρ mem b ∨ ρ.ok b, ρ.kl⟩
theorem b9z {mem : List Slot} (hm : MRel ρ B w0 mem w) {ad : Option Addr} {cs : List Value} (h : b0J ρ ad cs) : a8a (vw ρ mem w).fr ad cs := by
 intro hp
 obtain ⟨blk, cells, t', fr, pre, post, e1, e0, e3, e4⟩ := h hp
 exact ⟨blk, cells, t', fr, pre, post, e1, ⟨by unfold Env.ok; rw [e3]; simp, e0⟩, hm.frz blk _ e3, e4⟩
theorem b2P {mem : List Slot} (hm : MRel ρ B w0 mem w) {k : CK} {x : A1} {zs : List Int} (h : b8D k x = some zs) {v : Value} (hv : A1.rel ρ x v) : b0I k (vw ρ mem w).fr zs v := by
 unfold b8D at h
 split at h
 ·cases h
  exact ⟨none, 0, hv, Nat.le_refl _, fun h => by simp at h⟩
 ·rename_i k' ys
  split at h
  ·rename_i e
   cases h
   subst e
   obtain ⟨ad, c, vs, k1, k2, k3, k4⟩ := hv
   simp only [FD.cells] at k3
   subst k3
   exact ⟨ad, c, k1, k2, b9z hm k4⟩
  ·cases h
 ·cases h
theorem b2g (hm : MRel ρ B w0 st.mem w) {ad : Option Addr} {cs : List Value} (h : b0J ρ ad cs) : a8a (vw ρ st.mem w) ad cs := by
 intro hp
 obtain ⟨blk, cells, t', fr, pre, post, e1, _, e3, e4⟩ := h hp
 exact ⟨blk, cells, t', fr, pre, post, e1, .inr (by unfold Env.ok; rw [e3]; simp), hm.frz blk _ e3, e4⟩
theorem A6 (hm : MRel ρ B w0 st.mem w) {k : CK} {x : A1} {zs : List Int} (h : x6 k st x = some zs) {v : Value} (hv : A1.rel ρ x v) : b0I k (vw ρ st.mem w) zs v := by
 unfold x6 at h
 split at h
 ·cases h
  exact ⟨none, 0, hv, Nat.le_refl _, fun h => by simp at h⟩
 ·rename_i o len es
  split at h
  ·rename_i he
   have he := i5 he
   subst he
   split at h
   ·rename_i b hb
    obtain ⟨l, k1, k2, k3, k4, k5, k6, k7⟩ := hv
    obtain ⟨l', C, g1, g2, g3, g4, g5⟩ := hm.ob o b (d0 hb)
    rw [k1] at g1; cases g1
    have hC := l6 h g2
    have hlen : zs.length = l.size := by have := g3; rw [hC, k3] at this; simpa using this
    refine ⟨l.adr, l.cap, by rw [k4, hlen], by omega, fun hpos => ?_⟩
    rw [List.length_map] at hpos
    cases ha : l.a with
    | none => have := k6 ha; omega
    | some p =>
     rw [ha] at g5
     obtain ⟨cs, t, fr, pre, post, r1, r2, r3, _⟩ := g5
     exact ⟨p.1, cs, t, fr, pre, post, by rw [k7 (by omega)]; simp [Loc.addr, ha, r3], .inl ⟨o, b, l, p, d0 hb, k1, ha, rfl⟩, r1, by rw [← hC]; exact r2⟩
   ·cases h
  ·cases h
 ·rename_i o off len cap es
  split at h
  ·rename_i b he hb
   have he := i5 he
   subst he
   split at h
   ·rename_i k' n ys hs
    split at h
    ·rename_i hk
     subst hk
     cases h
     obtain ⟨l, ad, c, k1, k2, k3, k4, k5, k6⟩ := hv
     obtain ⟨l', C, g1, g2, g3, g4, g5⟩ := hm.ob o b (d0 hb)
     rw [k1] at g1; cases g1
     rw [hs] at g2
     obtain ⟨s1, cs', s2, s3⟩ := g2
     cases s3
     simp only [List.append_nil] at s2
     have hyl : off + len ≤ ys.length := by
      have : ys.length = l.size * l.es := by rw [← g3, s2]; simp
      omega
     have hl : ((ys.drop off).take len).length = len := by simp; omega
     refine ⟨ad, c, by rw [hl]; exact k2, by rw [hl]; omega, fun hpos => ?_⟩
     rw [List.length_map, hl] at hpos
     obtain ⟨blk, f, q1, q2⟩ := k6 hpos
     rw [q1] at g5
     obtain ⟨cs, t, fr, pre, post, r1, r2, r3, _⟩ := g5
     subst r3
     refine ⟨blk, cs, t, fr, pre ++ C.take off, C.drop (off + len) ++ post, by rw [q2]; congr 2; simp [s2]; omega, .inl ⟨o, b, l, _, d0 hb, k1, q1, rfl⟩, r1, ?_⟩
     rw [r2]
     have : C = C.take off ++ (((ys.drop off).take len).map k.val ++ C.drop (off + len)) := by
      rw [List.map_take, List.map_drop, ← s2, ← List.drop_drop, List.take_append_drop, List.take_append_drop]
     conv => lhs; rw [this]
     simp
    ·cases h
   ·cases h
  ·cases h
 ·rename_i k' ys
  split at h
  ·rename_i e
   cases h
   subst e
   obtain ⟨ad, c, vs, k1, k2, k3, k4⟩ := hv
   simp only [FD.cells] at k3
   subst k3
   exact ⟨ad, c, k1, k2, b2g hm k4⟩
  ·cases h
 ·cases h
def a99 (w : World) (blk : Nat) (c : Obj) : World := { w with heap := w.heap.setIfInBounds blk c }
theorem b6t {blk : Nat} {c c0 : Obj} (h : w.heap[blk]? = some c0) : (a99 w blk c).heap[blk]? = some c := by
 have hlt := (Array.getElem?_eq_some_iff.1 h).1
 simp [a99, hlt]
theorem T9 {blk k : Nat} {c : Obj} (h : k ≠ blk) : (a99 w blk c).heap[k]? = w.heap[k]? := by
 simp [a99, Array.getElem?_setIfInBounds_ne (Ne.symm h)]
theorem MRel.mark {mem : List Slot} (hm : MRel ρ B w0 mem w) {o : Nat} {b : Ob} (h : mem[o]? = some (.live b)) (hb : b.own = .own) {l : Loc} (hl : ρ o = some l) {blk off : Nat} (hx : l.a = some (blk, off))
  {cs : Array Value} {t : TypeId} {fr fr' : Nat × Nat} (hh : w.heap[blk]? = some (.cells cs t fr)) (hfr : cs.size ≤ fr'.1) : MRel ρ B w0 mem (a99 w blk (.cells cs t fr')) := by
 obtain ⟨o1, o2⟩ := hm.ownB o b l _ h hb hl hx
 refine ⟨hm.free, fun i c hi => ?_, hm.sep, hm.ownB, hm.mtM, ?_, by simpa [a99] using hm.size, fun k c0 hk => ?_, hm.env, hm.emt, hm.its.mono (fun _ _ _ h => h) (fun _ _ h => h) fun i s p l' b' _ _ _ h4 => ⟨(T9 fun e => a3P h4 (by rw [e]; exact ⟨cs, t, fr, hh⟩)).trans h4, id⟩⟩
 ·by_cases e : i = o
  ·subst e
   rw [h] at hi; cases hi
   obtain ⟨l1, C1, g1, g2, g3, g4, g5⟩ := hm.ob i b h
   rw [hl] at g1; cases g1
   rw [hx] at g5
   obtain ⟨cs1, t1, fr1, pre1, post1, g6, g7, g8, g9, g10⟩ := g5
   rw [hh] at g6; cases g6
   refine ⟨l, C1, hl, g2, g3, g4, ?_⟩
   rw [hx]
   refine ⟨cs, t, fr', pre1, post1, b6t hh, g7, g8, fun hb' => ?_, fun _ => .inl hfr⟩
   obtain ⟨k1, k2, _, k4⟩ := g9 hb'
   exact ⟨k1, k2, .inl hfr, k4⟩
  ·refine (hm.ob i c hi).world fun l' x hl' hx' => T9 ?_
   exact fun z => hm.sep o b i c l l' (blk, off) x h hi (by rw [hb]; exact fun h => by cases h) (Ne.symm e) hl hl' hx hx' z.symm
 ·refine hm.below.trans ⟨rfl, rfl, rfl, by simp [a99], fun k hk hmt => T9 (by have : B ≤ blk := o1; omega), fun m hm' hmB cs2 t2 fr2 h2 => ⟨cs2, ?_, rfl, fun _ _ => rfl⟩⟩
  rw [T9 (by have : B ≤ blk := o1; omega)]
  exact h2
 ·rw [T9 (fun e => by subst e; rw [o2] at hk; cases hk)]
  exact hm.frz k c0 hk
theorem b9A {t e : TypeId} {blk : Nat} {cs : Array Value} {ty : TypeId} {fr : Nat × Nat} {n c off : Nat} (ht : P.underlying t = some (.slice e)) (he : P.underlying e = some (.int .u8)) (hh : w.heap[blk]? = some (.cells cs ty fr)) (hfr : cs.size ≤ fr.1 ∨ fr.1 = fr.2) :
  ∃ fr' : Nat × Nat, cs.size ≤ fr'.1 ∧ (convert t t (.slice (some ⟨blk, off, none⟩) n c)).run P w = .ok (.slice (some ⟨blk, off, none⟩) n c) (a99 w blk (.cells cs ty fr')) := by
 have hlt := (Array.getElem?_eq_some_iff.1 hh).1
 have hsh : w.shape? blk = some (ty, cs.size) := by unfold World.shape?; rw [hh]
 have hmod : ∀ f : Obj → Obj, w.heap.modify blk f = w.heap.setIfInBounds blk (f (.cells cs ty fr)) := by
  intro f
  apply Array.ext
  ·simp
  ·intro i h1 h2
   rw [Array.getElem_modify]
   by_cases h : blk = i
   ·subst h
    have : w.heap[blk] = .cells cs ty fr := by rw [Array.getElem?_eq_getElem hlt] at hh; exact Option.some.inj hh
    simp [this]
   ·rw [if_neg h, Array.getElem_setIfInBounds_ne _ h]
 refine ⟨if fr.1 == fr.2 then (cs.size, cs.size + 1) else (min fr.1 cs.size, max fr.2 (cs.size + 1)), ?_, ?_⟩
 ·split
  ·exact Nat.le_refl _
  ·rename_i hne
   have : cs.size ≤ fr.1 := by
    rcases hfr with h | h
    ·exact h
    ·exact absurd (by simp [h]) hne
   simp only
   omega
 ·simp [convert, run_underlying ht, run_underlying he, markStringish, hsh]
  unfold World.freeze
  rw [if_neg (by decide), hmod]
  obtain ⟨lo, hi⟩ := fr
  simp only [a99, beq_iff_eq]
theorem b2m {E : AE} (hE : ∀ t i, E.ty t = some i → TyOk P t i) {nm : Nat} {o : Oper} {s t : TypeId} {x : Operand} (ho : o.op = .convert s t x) (hr : Rel ρ B w0 st a w) (h : (j8 E nm o st).val = some st') : FitsV P ρ B w0 st' o a w := by
 have hx := hr.get x
 simp only [j8, ho] at h
 unfold b8Y at h
 split at h
 ·rename_i ts k _ _ _ k' n hs ht e
  rw [e] at hx
  have hx' : a.eval x = .int k' n := hx
  obtain ⟨d, hd, hdd⟩ := (hE t _ ht).desc
  simp only [TD.is] at hdd
  subst hdd
  obtain ⟨d', hd', _⟩ := (hE s _ hs).desc
  rw [T.val_ret] at h
  subst h
  refine ⟨.int k (k.wrap n), w, ρ, ?_, .refl ρ, hr.putA o.dst rfl⟩
  simp only [execOp, ho, hx', convert, Sem.run_bind, run_underlying hd', run_underlying hd, Result.andThen_ok]
  cases d' <;> rfl
 ·rename_i ts _ _ _ str hs ht e
  rw [e] at hx
  have hx' : a.eval x = .string str := hx
  obtain ⟨d, hd, hdd⟩ := (hE t _ ht).desc
  simp only [TD.is] at hdd
  subst hdd
  obtain ⟨d', hd', _⟩ := (hE s _ hs).desc
  rw [T.val_ret] at h
  subst h
  refine ⟨.string str, w, ρ, ?_, .refl ρ, hr.putA o.dst rfl⟩
  simp only [execOp, ho, hx', convert, Sem.run_bind, run_underlying hd', run_underlying hd, Result.andThen_ok]
  cases d' <;> rfl
 ·rename_i e _ _ _ _ _ _ y _ hs ht e0
  rw [e0] at hx
  split at h
  ·rename_i hu8
   rw [Option.map_eq_some_iff] at hu8
   obtain ⟨ti, he1, he2⟩ := hu8
   split at h
   ·rename_i zs hz
    rw [T.val_ret] at h
    subst h
    obtain ⟨d, hd, hdd⟩ := (hE t _ ht).desc
    obtain ⟨d', hd', hdd'⟩ := (hE s _ hs).desc
    obtain ⟨d2, hd2, hdd2⟩ := (hE e _ he1).desc
    rw [he2] at hdd2
    simp only [TD.is] at hdd hdd' hdd2
    subst hdd
    subst hdd'
    subst hdd2
    obtain ⟨ad, c, hv, hc, hrow⟩ := A6 hr.m hz hx
    refine ⟨.string (strOfNums zs), w, ρ, ?_, .refl ρ, hr.putA o.dst rfl⟩
    have hrun : (convert s t (a.eval x)).run P w = .ok (.string (strOfNums zs)) w := by
     rw [hv]
     cases zs with
     | nil =>
      cases ad with
      | none => exact run_convert_bytes_nil w s e hd' hd2 _ _ t hd
      | some ad =>
       rw [run_convert_bytes_string w s t e _ _ c hd' hd2 hd, run_bytesToString w _ _ c [] (by simp [loadCells, loadCellsFrom])]
       rfl
     | cons z zs =>
      obtain ⟨blk, cs, ty, fr, pre, post, rfl, _, r1, r2⟩ := hrow (by simp)
      refine run_convert_bytes_arg w s e hd' hd2 blk pre.length _ c (z :: zs) rfl (fun i hi => ?_) t hd
      refine a1K r1 r2 ?_
      rw [List.getElem?_map, List.getElem?_eq_getElem hi, List.getD_eq_getElem?_getD, List.getElem?_eq_getElem hi]
      rfl
    simp only [execOp, ho, Sem.run_bind, hrun, Result.andThen_ok, Sem.run_pure]
   ·simp [T.val_fail] at h
  ·simp [T.val_fail] at h
 ·rename_i e _ _ _ e' _ _ _ ob len es hs ht e0
  rw [e0] at hx
  split at h
  ·rename_i hst hu8
   have hst := i5 hst
   subst hst
   rw [Option.map_eq_some_iff] at hu8
   obtain ⟨ti, he1, he2⟩ := hu8
   split at h
   ·rename_i b' hb hlk
    simp only [T.val_ite, T.val_ret, T.val_fail, and_false, or_false] at h
    obtain ⟨hpos, rfl⟩ := h
    obtain ⟨d', hd', hdd'⟩ := (hE s _ hs).desc
    obtain ⟨d2, hd2, hdd2⟩ := (hE e _ he1).desc
    rw [he2] at hdd2
    simp only [TD.is] at hdd' hdd2
    subst hdd'
    subst hdd2
    obtain ⟨l, k1, k2, k3, k4, k5, k6, k7⟩ := hx
    obtain ⟨l', C, g1, g2, g3, g4, g5⟩ := hr.m.ob ob _ (d0 hlk)
    rw [k1] at g1; cases g1
    cases ha : l.a with
    | none => have := k6 ha; omega
    | some p =>
     rw [ha] at g5
     obtain ⟨cs, ty, fr, pre, post, r1, r2, r3, r4, r5⟩ := g5
     have hadr := k7 (by omega)
     rw [hadr] at k4
     simp only [Loc.addr, ha, Option.map_some] at k4
     obtain ⟨fr', q1, q2⟩ := b9A (n := l.size) (c := l.cap) (off := p.2) hd' hd2 r1 (r5 (by simp))
     have hm' := hr.m.mark (d0 hlk) rfl k1 ha r1 q1
     have hr' : Rel ρ B w0 st a (a99 w p.1 (.cells cs ty fr')) := ⟨hr.len, hr.tm, hm', hr.defers⟩
     refine ⟨a.eval x, _, ρ, ?_, .refl ρ, hr'.putA o.dst ⟨l, k1, k2, k3, by rw [k4, hadr]; simp [Loc.addr, ha], k5, k6, k7⟩⟩
     have k4' : a.eval x = .slice (some ⟨p.1, p.2, none⟩) l.size l.cap := k4
     simp only [execOp, ho, k4', Sem.run_bind, q2, Result.andThen_ok, Sem.run_pure]
   ·simp [T.val_fail] at h
  ·simp [T.val_fail] at h
 ·simp [T.val_fail] at h
theorem a58 (hm : MRel ρ B w0 st.mem w) {k : CK} : ∀ {segs : List Seg} {l : List (List Int)} {C : List Value}, I1 k st segs = some l → i2 ρ segs C →
  C.length = l.length ∧ ∀ (i : Nat) (zs : List Int) (u : Value), l[i]? = some zs → C[i]? = some u → b0I k (vw ρ st.mem w) zs u
 | [], l, C, h, hr => by
  simp only [I1] at h
  cases h; cases hr
  exact ⟨rfl, fun i zs u h => by cases h⟩
 | .one x :: r, l, C, h, hr => by
  obtain ⟨c, cs', h1, h2, h3⟩ := hr
  simp only [I1] at h
  split at h
  ·rename_i y ys e1 e2
   cases h
   obtain ⟨q1, q2⟩ := a58 hm e2 h3
   subst h1
   refine ⟨by simp [q1], fun i zs u g1 g2 => ?_⟩
   cases i with
   | zero => cases g1; cases g2; exact A6 hm e1 h2
   | succ i => exact q2 i zs u (by simpa using g1) (by simpa using g2)
  ·cases h
 | .xs _ _ _ :: _, l, C, h, hr => by simp [I1] at h
 | .rw _ _ :: _, l, C, h, hr => by simp [I1] at h
theorem N3 {l l2 : List Seg} {b m : Nat} (h : a4u l b m = some l2) {C : List Value} (hC : i2 ρ l C) : ∃ pre mid post, C = pre ++ mid ++ post ∧ pre.length = b ∧ mid.length = m ∧ i2 ρ l2 mid := by
 unfold a4u at h
 split at h
 ·rename_i l' h1
  obtain ⟨q1, q2⟩ := M0 h1 hC
  obtain ⟨q3, q4⟩ := S8 h q1
  rw [List.length_drop] at q4
  refine ⟨C.take b, (C.drop b).take m, C.drop (b + m), ?_, by simp; omega, by simp; omega, q3⟩
  rw [List.append_assoc, ← List.drop_drop, List.take_append_drop, List.take_append_drop]
 ·cases h
theorem a6a {l a b : List Seg} {n : Nat} (h1 : L4 l n = some a) (h2 : F6 l n = some b) {C : List Value} (hC : i2 ρ l C) : ∃ c1 c2, C = c1 ++ c2 ∧ c1.length = n ∧ i2 ρ a c1 ∧ i2 ρ b c2 := by
 obtain ⟨q1, q2⟩ := S8 h1 hC
 obtain ⟨q3, _⟩ := M0 h2 hC
 exact ⟨C.take n, C.drop n, (List.take_append_drop n C).symm, by simp; omega, q1, q3⟩
theorem FK.get_spec (hm : MRel ρ B w0 st.mem w) {K : FK} {l : List Seg} {x : K.T} (h : K.get st l = some x) {C : List Value} (hC : i2 ρ l C) (hn : C.length = K.size) : K.crd (vw ρ st.mem w) x C := by
 have one : ∀ {k : CK} {zs : List Int}, K0 k l = some zs → C.length = 1 → C = [k.val (zs.getD 0 0)] := by
  intro k zs hz h1
  have hc := l6 hz hC
  subst hc
  rw [List.length_map] at h1
  match zs, h1 with
  | [z], _ => rfl
 cases K with
 | int k =>
  simp only [FK.get, Option.map_eq_some_iff] at h
  obtain ⟨zs, g1, rfl⟩ := h
  exact one g1 hn
 | bool =>
  simp only [FK.get] at h
  split at h
  ·cases h
   obtain ⟨c, cs', rfl, h2, rfl⟩ := hC
   exact congrArg (fun v => [v]) h2
  ·cases h
   obtain ⟨c, cs', rfl, h2, rfl⟩ := hC
   exact congrArg (fun v => [v]) h2
  ·rw [Option.map_eq_some_iff] at h
   obtain ⟨zs, g1, rfl⟩ := h
   exact one g1 hn
 | xs k n =>
  have hc := l6 (show K0 k l = some x from h) hC
  subst hc
  rw [List.length_map] at hn
  exact ⟨hn, rfl⟩
 | sl k =>
  simp only [FK.get] at h
  split at h
  ·obtain ⟨c, cs', rfl, h2, rfl⟩ := hC
   exact ⟨c, rfl, A6 hm h h2⟩
  ·cases h
 | fs k =>
  simp only [FK.get] at h
  split at h
  ·obtain ⟨c, cs', rfl, h2, rfl⟩ := hC
   exact ⟨c, rfl, b2P hm h h2⟩
  ·cases h
theorem a08 (hm : MRel ρ B w0 st.mem w) : ∀ {L : List FK} {l : List Seg} {x : Cs L} {C : List Value}, a7I st L l = some x → i2 ρ l C → b5z (vw ρ st.mem w) L x C ∧ C.length = a4h L
 | [], l, x, C, h, hC => by
  simp only [a7I] at h
  split at h
  ·have hC : C = [] := hC
   exact ⟨hC, by rw [hC]; rfl⟩
  ·cases h
 | K :: r, l, x, C, h, hC => by
  simp only [a7I] at h
  split at h
  ·rename_i a b h1 h2
   split at h
   ·rename_i y z e1 e2
    cases h
    obtain ⟨c1, c2, rfl, hn, g1, g2⟩ := a6a h1 h2 hC
    obtain ⟨q1, q2⟩ := a08 hm e2 g2
    exact ⟨⟨c1, c2, rfl, FK.get_spec hm e1 g1 hn, q1⟩, by rw [List.length_append, hn, q2]; rfl⟩
   ·cases h
  ·cases h
theorem RK.get_spec (hm : MRel ρ B w0 st.mem w) {K : RK} {l : List Seg} {b : Nat} {x : K.T} (h : K.get st l b = some x) {C : List Value} (hC : i2 ρ l C) : ∃ pre mid post, C = pre ++ mid ++ post ∧ pre.length = b ∧ K.crd (vw ρ st.mem w) x mid := by
 cases K with
 | int k =>
  simp only [RK.get] at h
  split at h
  ·rename_i l2 h2
   obtain ⟨pre, mid, post, e1, e2, e3, e4⟩ := N3 h2 hC
   rw [Option.map_eq_some_iff] at h
   obtain ⟨zs, g1, rfl⟩ := h
   have hc := l6 g1 e4
   subst hc
   rw [List.length_map] at e3
   refine ⟨pre, _, post, e1, e2, ?_⟩
   match zs, e3 with
   | [z], _ => rfl
  ·cases h
 | xs k n =>
  simp only [RK.get] at h
  split at h
  ·rename_i l2 h2
   obtain ⟨pre, mid, post, e1, e2, e3, e4⟩ := N3 h2 hC
   have hc := l6 h e4
   subst hc
   rw [List.length_map] at e3
   exact ⟨pre, _, post, e1, e2, e3, rfl⟩
  ·cases h
 | sl k =>
  simp only [RK.get] at h
  split at h
  ·rename_i y h2
   obtain ⟨pre, mid, post, e1, e2, e3, c, cs', e4, e5, e6⟩ := N3 h2 hC
   cases e6
   subst e4
   exact ⟨pre, _, post, e1, e2, c, rfl, A6 hm h e5⟩
  ·cases h
 | ct L =>
  simp only [RK.get] at h
  split at h
  ·rename_i l2 h2
   obtain ⟨pre, mid, post, e1, e2, e3, e4⟩ := N3 h2 hC
   obtain ⟨q1, q2⟩ := a08 hm h e4
   exact ⟨pre, _, post, e1, e2, q2, q1⟩
  ·cases h
theorem Kd.get_spec (hm : MRel ρ B w0 st.mem w) {K : Kd} {tv : TV} {x : K.T} (h : K.get st tv = some x) {v : Value} (hv : TV.rel ρ tv v) : K.rd (vw ρ st.mem w) x v := by
 cases K
 case int k =>
  cases tv with
  | tup l => simp [Kd.get] at h
  | one y =>
   cases y with
   | any => simp [Kd.get] at h
   | agg l => simp [Kd.get] at h
   | sc y =>
    cases y <;> simp only [Kd.get] at h <;> try (cases h; done)
    split at h
    ·rename_i e; subst e; cases h; exact hv
    ·cases h
 case bool =>
  cases tv with
  | tup l => simp [Kd.get] at h
  | one y =>
   cases y with
   | any => simp [Kd.get] at h
   | agg l => simp [Kd.get] at h
   | sc y => cases y <;> simp only [Kd.get] at h <;> first | (cases h; done) | (cases h; exact hv)
 case str =>
  cases tv with
  | tup l => simp [Kd.get] at h
  | one y =>
   cases y with
   | any => simp [Kd.get] at h
   | agg l => simp [Kd.get] at h
   | sc y => cases y <;> simp only [Kd.get] at h <;> first | (cases h; done) | (cases h; exact hv)
 case xs k n =>
  cases tv with
  | tup l => simp [Kd.get] at h
  | one y =>
   cases y with
   | any => simp [Kd.get] at h
   | sc y => simp [Kd.get] at h
   | agg l =>
    simp only [Kd.get] at h
    split at h
    ·rename_i hl
     obtain ⟨cs, rfl, h2⟩ := hv
     have hc := l6 h h2
     have hlen := v8 h2
     rw [hc] at hlen ⊢
     exact ⟨by rw [List.length_map] at hlen; rw [hlen]; exact i5 hl, rfl⟩
    ·cases h
 case sl k =>
  cases tv with
  | tup l => simp [Kd.get] at h
  | one y =>
   cases y with
   | any => simp [Kd.get] at h
   | agg l => simp [Kd.get] at h
   | sc y => exact A6 hm h hv
 case sls k =>
  cases tv with
  | tup l => simp [Kd.get] at h
  | one y =>
   cases y with
   | any => simp [Kd.get] at h
   | agg l => simp [Kd.get] at h
   | sc y =>
    cases y <;> simp only [Kd.get] at h <;> try (cases h; done)
    ·rename_i o len es
     split at h
     ·rename_i he
      have he := i5 he
      subst he
      split at h
      ·rename_i b hb
       obtain ⟨l, k1, k2, k3, k4, k5, k6, k7⟩ := hv
       obtain ⟨l', C, g1, g2, g3, g4, g5⟩ := hm.ob o b (d0 hb)
       rw [k1] at g1; cases g1
       obtain ⟨q1, q2⟩ := a58 hm h g2
       have hlen : C.length = l.size := by rw [g3, k3]; simp
       refine ⟨l.adr, l.cap, C, by rw [k4, ← hlen, q1], by omega, q1, fun hpos => ?_, q2⟩
       cases ha : l.a with
       | none => have := k6 ha; omega
       | some p =>
        rw [ha] at g5
        obtain ⟨cs, t, fr, pre, post, r1, r2, r3, _⟩ := g5
        exact ⟨p.1, cs, t, fr, pre, post, by rw [k7 (by omega)]; simp [Loc.addr, ha, r3], .inl ⟨o, b, l, p, d0 hb, k1, ha, rfl⟩, r1, r2⟩
      ·cases h
     ·cases h
    ·cases h
     exact ⟨none, 0, [], hv, Nat.le_refl _, rfl, fun h => by simp at h, fun i zs u h => by cases h⟩
    ·rename_i d
     cases d with
     | xs k' zs => cases h
     | xss k' l =>
      simp only at h
      split at h
      ·rename_i e
       cases h
       subst e
       obtain ⟨ad, c, vs, k1, k2, k3, k4⟩ := hv
       obtain ⟨k5, k6⟩ := k3
       refine ⟨ad, c, vs, k1, k2, k5, b2g hm k4, fun i zs u h1 h2 => ?_⟩
       obtain ⟨a', c', g1, g2, g3⟩ := k6 i zs u h1 h2
       exact ⟨a', c', g1, g2, b2g hm g3⟩
      ·cases h
 case fnc f =>
  cases tv with
  | tup l => simp [Kd.get] at h
  | one y =>
   cases y with
   | any => simp [Kd.get] at h
   | agg l => simp [Kd.get] at h
   | sc y =>
    cases y <;> simp only [Kd.get] at h <;> try (cases h; done)
    split at h
    ·rename_i e; have e := i5 e; subst e; exact hv
    ·cases h
 case rp K =>
  cases tv with
  | tup l => simp [Kd.get] at h
  | one y =>
   cases y with
   | any => simp [Kd.get] at h
   | agg l => simp [Kd.get] at h
   | sc y =>
    cases y <;> try (simp [Kd.get] at h; done)
    rename_i o b i
    cases i <;> simp only [Kd.get] at h <;> try (cases h; done)
    split at h
    ·rename_i ob hb
     obtain ⟨l, blk, f, k1, k2, rfl⟩ := hv
     obtain ⟨l', C, g1, g2, g3, g4, g5⟩ := hm.ob o ob (d0 hb)
     rw [k1] at g1; cases g1
     rw [k2] at g5
     obtain ⟨cs, t, fr, pre, post, r1, r2, r3, _⟩ := g5
     obtain ⟨p2, mid, q2, e1, e2, e3⟩ := RK.get_spec hm h g2
     exact ⟨blk, mid, cs, t, fr, pre ++ p2, q2 ++ post, by simp [r3, e2], .inl ⟨o, ob, l, _, d0 hb, k1, k2, rfl⟩, e3, r1, by rw [r2, e1]; simp⟩
    ·cases h
 case fcl f k =>
  cases tv with
  | tup l => simp [Kd.get] at h
  | one y =>
   cases y with
   | any => simp [Kd.get] at h
   | agg l => simp [Kd.get] at h
   | sc y =>
    cases y <;> try (simp [Kd.get] at h; done)
    rename_i g o b
    simp only [Kd.get] at h
    split at h
    ·rename_i hfg
     have hfg := i5 hfg
     subst hfg
     split at h
     ·rename_i ob hb
      obtain ⟨l, blk, f0, k1, k2, rfl⟩ := hv
      obtain ⟨l', C, g1, g2, g3, g4, g5⟩ := hm.ob o ob (d0 hb)
      rw [k1] at g1; cases g1
      rw [k2] at g5
      obtain ⟨cs, t, fr, pre, post, r1, r2, r3, _⟩ := g5
      obtain ⟨p2, mid, q2, e1, e2, e3⟩ := RK.get_spec hm h g2
      have e3 : mid = [.int k x] := e3
      subst e3
      exact ⟨blk, cs, t, fr, pre ++ p2, q2 ++ post, by simp [r3, e2], .inl ⟨o, ob, l, _, d0 hb, k1, k2, rfl⟩, r1, by rw [r2, e1]; simp⟩
     ·cases h
    ·cases h
 case sla k m =>
  cases tv with
  | tup l => simp [Kd.get] at h
  | one y =>
   cases y with
   | any => simp [Kd.get] at h
   | agg l => simp [Kd.get] at h
   | sc y =>
    cases y <;> simp only [Kd.get] at h <;> try (cases h; done)
    ·rename_i o len es
     split at h
     ·rename_i he hm0
      have he := i5 he
      subst he
      split at h
      ·rename_i b hb
       obtain ⟨l, k1, k2, k3, k4, k5, k6, k7⟩ := hv
       obtain ⟨l', C, g1, g2, g3, g4, g5⟩ := hm.ob o b (d0 hb)
       rw [k1] at g1; cases g1
       have hC := l6 h g2
       have hlen : x.length = l.size * l.es := by have := g3; rw [hC] at this; simpa using this
       refine ⟨l.adr, l.cap, l.size, k4, by rw [hlen, k3], k5, .inr (a91 hm0), fun hpos => ?_⟩
       rw [List.length_map] at hpos
       have hs0 : 0 < l.size := by
        rcases Nat.eq_zero_or_pos l.size with h0 | h0
        ·rw [hlen, h0] at hpos; simp at hpos
        ·exact h0
       cases ha : l.a with
       | none => have := k6 ha; omega
       | some p =>
        rw [ha] at g5
        obtain ⟨cs, t, fr, pre, post, r1, r2, r3, _⟩ := g5
        exact ⟨p.1, cs, t, fr, pre, post, by rw [k7 hs0]; simp [Loc.addr, ha, r3], .inl ⟨o, b, l, p, d0 hb, k1, ha, rfl⟩, r1, by rw [← hC]; exact r2⟩
      ·cases h
     ·cases h
    ·cases h
     exact ⟨none, 0, 0, hv, by simp, Nat.le_refl _, .inl rfl, fun h => by simp at h⟩
 case cat l =>
  cases tv with
  | tup l => simp [Kd.get] at h
  | one y =>
   cases y with
   | any => simp [Kd.get] at h
   | sc y => simp [Kd.get] at h
   | agg segs =>
    obtain ⟨cs, rfl, h2⟩ := hv
    exact ⟨cs, rfl, (a08 hm (show a7I st l segs = some x from h) h2).1⟩
 case io l => cases tv with
  | tup l => simp [Kd.get] at h
  | one y => cases y with
   | sc y => cases y <;> simp [Kd.get] at h
   | _ => simp [Kd.get] at h
 case ios l => cases tv with
  | tup l => simp [Kd.get] at h
  | one y => cases y with
   | sc y => cases y <;> simp [Kd.get] at h
   | _ => simp [Kd.get] at h
 case xv l => cases tv with
  | tup l => simp [Kd.get] at h
  | one y => cases y with
   | sc y => cases y <;> simp [Kd.get] at h
   | _ => simp [Kd.get] at h
 case op l => cases tv with
  | tup l => simp [Kd.get] at h
  | one y => cases y with
   | sc y => cases y <;> simp [Kd.get] at h
   | _ => simp [Kd.get] at h
 case fsl k => cases tv with
  | tup l => simp [Kd.get] at h
  | one y => cases y with
   | sc y => exact A6 hm (show x6 k st y = some x from h) hv
   | _ => simp [Kd.get] at h
 case asl k => cases tv with
  | tup l => simp [Kd.get] at h
  | one y => cases y with
   | sc y => exact b2P hm (show b8D k y = some x from h) hv
   | _ => simp [Kd.get] at h
theorem a1d {o : Nat} (h : st.mine o = true) : ∃ b, st.look o = some b ∧ b.own ≠ .ro := by
 unfold St.mine at h
 split at h
 ·rename_i b hb
  refine ⟨b, hb, fun e => ?_⟩
  rw [e] at h
  cases h
 ·cases h
theorem b5P {stk : St} (hm : MRel ρ B w0 st.mem w) {k : CK} {o : Nat} {b : Ob} (hb : st.look o = some b) (hown : b.own ≠ .ro) {x : A1} (hx : (∃ n es, x = .vec o n es) ∨ ∃ off n c es, x = .sl o off n c es) {zs : List Int} (h : x6 k st x = some zs) {v : Value} (hv : A1.rel ρ x v) :
  (Kd.ios k).rd (vw ρ stk.mem w) zs v := by
 obtain ⟨ad, c, h1, h2, h3⟩ := A6 hm h hv
 refine ⟨ad, c, h1, h2, fun hpos => ?_⟩
 obtain ⟨blk, cs, t, fr, pre, post, e1, _, e3, e4⟩ := h3 (by simpa using hpos)
 refine ⟨blk, cs, t, fr, pre, post, e1, e3, e4, ?_⟩
 subst e1
 have fin : ∀ (l : Loc) (y : Nat × Nat), ρ o = some l → l.a = some y → y.1 = blk → cs.size ≤ fr.1 ∨ fr.1 = fr.2 := by
  intro l y k1 k2 k3
  obtain ⟨l', C, g1, g2, g3, g4, g5⟩ := hm.ob o b (d0 hb)
  rw [k1] at g1; cases g1
  rw [k2] at g5
  obtain ⟨cs1, t1, fr1, pre1, post1, r1, _, _, _, r5⟩ := g5
  rw [k3] at r1
  have e3 : w.heap[blk]? = some (.cells cs t fr) := e3
  rw [e3] at r1; cases r1
  exact r5 hown
 rcases hx with ⟨n, es, rfl⟩ | ⟨off, n, c', es, rfl⟩
 ·obtain ⟨l, k1, k2, k3, k4, k5, k6, k7⟩ := hv
  rw [k4] at h1
  simp only [Value.slice.injEq] at h1
  obtain ⟨a1, a2, _⟩ := h1
  cases ha : l.a with
  | none => have := k6 ha; omega
  | some y =>
   have := k7 (by omega)
   rw [a1] at this
   simp only [Loc.addr, ha, Option.map_some, Option.some.injEq, Addr.mk.injEq] at this
   exact fin l y k1 ha this.1.symm
 ·obtain ⟨l, a0, c0, k1, k2, k3, k4, k5, k6⟩ := hv
  rw [k2] at h1
  simp only [Value.slice.injEq] at h1
  obtain ⟨a1, a2, _⟩ := h1
  obtain ⟨b0, f0, q1, q2⟩ := k6 (by omega)
  rw [a1] at q2
  simp only [Option.some.injEq, Addr.mk.injEq] at q2
  exact fin l _ k1 q1 q2.1.symm
theorem Kd.get2_spec {stk : St} (hm : MRel ρ B w0 st.mem w) (hmk : MRel ρ B w0 stk.mem w) {K : Kd} {tv : TV} {x : K.T} (h : K.get2 st stk tv = some x) {v : Value} (hv : TV.rel ρ tv v) : K.rd (vw ρ stk.mem w) x v := by
 cases K
 case io l =>
  simp only [Kd.get2] at h
  split at h
  ·rename_i o b
   split at h
   ·rename_i ob hmine hob
    obtain ⟨ob', hob', hown⟩ := a1d hmine
    rw [hob] at hob'; cases hob'
    split at h
    ·rename_i l2 h2
     obtain ⟨lc, blk, f, k1, k2, rfl⟩ := hv
     obtain ⟨l', C, g1, g2, g3, g4, g5⟩ := hm.ob o ob (d0 hob)
     rw [k1] at g1; cases g1
     rw [k2] at g5
     obtain ⟨cs, t, fr, pre, post, r1, r2, r3, _, r5⟩ := g5
     obtain ⟨p2, mid, q2, e1, e2, e3, e4⟩ := N3 h2 g2
     obtain ⟨q1, q2'⟩ := a08 hmk h e4
     exact ⟨blk, mid, cs, t, fr, pre ++ p2, q2 ++ post, by simp [r3, e2], q2', q1, r1, by rw [r2, e1]; simp, r5 hown⟩
    ·cases h
   ·cases h
  ·cases h
 case ios k =>
  simp only [Kd.get2] at h
  split at h
  ·rename_i o n es
   split at h
   ·rename_i hmine
    obtain ⟨ob, hob, hown⟩ := a1d hmine
    exact b5P hm hob hown (.inl ⟨_, _, rfl⟩) h hv
   ·cases h
  ·rename_i o off n c es
   split at h
   ·rename_i hmine
    obtain ⟨ob, hob, hown⟩ := a1d hmine
    exact b5P hm hob hown (.inr ⟨_, _, _, _, rfl⟩) h hv
   ·cases h
  ·cases h
 case xv k => exact Kd.get_spec (K := .xv k) hmk h hv
 case op l => exact Kd.get_spec (K := .op l) hmk h hv
 all_goals exact Kd.get_spec hmk h hv
theorem a4K {stk : St} (hm0 : MRel ρ B w0 st.mem w) (hm : MRel ρ B w0 stk.mem w) : ∀ {ks : List Kd} {l : List TV} {x : Ds ks} {vs : List Value}, F3 st stk ks l = some x → l.length = vs.length →
  (∀ (i : Nat) (v : TV) (u : Value), l[i]? = some v → vs[i]? = some u → TV.rel ρ v u) → a79 (vw ρ stk.mem w) ks x vs
 | [], [], x, vs, h, hl, _ => List.eq_nil_of_length_eq_zero hl.symm
 | [], _ :: _, x, vs, h, hl, _ => by simp [F3] at h
 | k :: ks, [], x, vs, h, hl, _ => by simp [F3] at h
 | k :: ks, v :: l, x, vs, h, hl, hr => by
  simp only [F3] at h
  split at h
  ·rename_i y z e1 e2
   cases h
   cases vs with
   | nil => simp at hl
   | cons u us =>
    exact ⟨u, us, rfl, Kd.get2_spec hm0 hm e1 (hr 0 v u rfl rfl), a4K hm0 hm e2 (by simpa using hl) fun i v u h1 h2 => hr (i + 1) v u (by simpa using h1) (by simpa using h2)⟩
  ·cases h
def Env.frzs (ρ : Env) (bs : List Nat) (w : World) : Env := { ρ with fz := fun i => if i ∈ bs then w.heap[i]? else ρ.fz i }
theorem b1v {bs : List Nat} {b : Nat} (h : b ∈ bs) : (ρ.frzs bs w).fz b = w.heap[b]? := if_pos h
theorem Z6 {bs : List Nat} {b : Nat} (h : ¬ b ∈ bs) : (ρ.frzs bs w).fz b = ρ.fz b := if_neg h
theorem MRel.frzs_le {mem : List Slot} (_ : MRel ρ B w0 mem w) {bs : List Nat} (hfz : ∀ b ∈ bs, ρ.fz b = none) : ρ.le (ρ.frzs bs w) :=
 ⟨fun _ _ h => h, fun b c h => by
  by_cases hb : b ∈ bs
  ·rw [hfz b hb] at h; cases h
  ·rw [Z6 hb]; exact h, ⟨rfl, rfl⟩, rfl⟩
theorem Env.kl_le {ρ' : Env} (h : ρ.le ρ') {b : Nat} (hk : ρ.kl b) : ρ'.kl b := by
 obtain ⟨h1, h2⟩ := hk
 unfold Env.ok at h1
 refine ⟨?_, by rw [h.2.2.1.1, h.2.2.1.2]; exact h2⟩
 cases e : ρ.fz b with
 | none => exact absurd e h1
 | some c => unfold Env.ok; rw [h.2.1 b c e]; simp
theorem MRel.freezes {mem : List Slot} (hm : MRel ρ B w0 mem w) {bs : List Nat} (hfz : ∀ b ∈ bs, ρ.fz b = none) (hus : ∀ b ∈ bs, ¬ a6e ρ mem b) (hB : ∀ b ∈ bs, B ≤ b ∧ a4P w b) : MRel (ρ.frzs bs w) B w0 mem w := by
 have hle := hm.frzs_le hfz
 refine ⟨hm.free, fun i b h => (hm.ob i b h).env hle, hm.sep, fun i b l y h hb hl hy => ?_, hm.mtM, hm.below, hm.size, fun blk c h => ?_, ⟨hm.env.lo, hm.env.mtB, fun m hmM => ?_, hm.env.mtD⟩, hm.emt, hm.its.mono (fun _ _ _ h => h) (fun _ _ h => h) fun i s p l' b' _ _ _ h4 => ⟨h4, fun hn => (Z6 fun hin => a3P h4 (hB b' hin).2).trans hn⟩⟩
 ·obtain ⟨q1, q2⟩ := hm.ownB i b l y h hb hl hy
  refine ⟨q1, ?_⟩
  rw [Z6 fun hin => hus _ hin ⟨i, b, l, y, h, hl, hy, rfl⟩]
  exact q2
 ·by_cases hb : blk ∈ bs
  ·rw [b1v hb] at h; exact h
  ·rw [Z6 hb] at h; exact hm.frz blk c h
 ·rw [Z6 fun hin => ?_]
  ·exact hm.env.okM m hmM
  ·have h1 := hm.env.mtB m hmM
   have h2 := (hB _ hin).1
   omega
theorem b2E {mem : List Slot} (hm : MRel ρ B w0 mem w) {nm : Nat} (hf : mem[nm]? = some .free) {b : Ob} {l : Loc} (hne : ∀ x, l.a = some x → ¬ a6e ρ mem x.1) (hB : ∀ x, l.a = some x → B ≤ x.1 ∧ ρ.fz x.1 = none) (hmt : ∀ i, b.own ≠ .mt i) (ho : ObRel (ρ.set nm l) w nm b) :
  ρ.le (ρ.set nm l) ∧ MRel (ρ.set nm l) B w0 (mem.set nm (.live b)) w ∧ ∀ c, a6e (ρ.set nm l) (mem.set nm (.live b)) c → a6e ρ mem c ∨ ∃ x, l.a = some x ∧ x.1 = c := by
 obtain ⟨h1, h2⟩ := hm.addNew hf (b := b) (l := l) (fun x o b' l' y hx hb hl hy he => hne x hx ⟨o, b', l', y, hb, hl, hy, he⟩) hB hmt ho
 refine ⟨h1, h2, ?_⟩
 rintro c ⟨o, ob, k, y, e1, e2, e3, e4⟩
 by_cases e : o = nm
 ·subst e
  have : (ρ.set o l) o = some l := if_pos rfl
  rw [this] at e2
  cases e2
  exact .inr ⟨y, e3, e4⟩
 ·rw [List.getElem?_set_ne (Ne.symm e)] at e1
  have : (ρ.set nm l) o = ρ o := if_neg e
  rw [this] at e2
  exact .inl ⟨o, ob, k, y, e1, e2, e3, e4⟩
theorem b5y {ρ : Env} : ∀ {L : List FK} {x : Cs L} {cs : List Value}, c09 L x cs → i2 ρ (a4j L x) cs
 | [], _, cs, h => h
 | K :: r, x, cs, h => by
  obtain ⟨c1, c2, rfl, h1, h2⟩ := h
  refine l8 ?_ (b5y h2)
  cases K with
  | int k =>
   have h1 : c1 = [.int k x.1] := h1
   subst h1
   exact ⟨_, [], rfl, rfl, rfl⟩
  | bool =>
   have h1 : c1 = [.bool x.1] := h1
   subst h1
   refine ⟨_, [], rfl, ?_, rfl⟩
   show Value.bool x.1 = .bool (@decide (x.1 = true) _)
   cases x.1 <;> rfl
  | xs k n =>
   obtain ⟨h1, rfl⟩ := h1
   exact ⟨h1, [], by simp, rfl⟩
  | sl k => exact h1.elim
  | fs k => exact h1.elim
theorem b5x : ∀ {L : List FK} {x : Cs L} {cs : List Value}, c09 L x cs → cs.length = a4h L
 | [], _, cs, h => by have h : cs = [] := h; subst h; rfl
 | K :: r, x, cs, h => by
  obtain ⟨c1, c2, rfl, h1, h2⟩ := h
  rw [List.length_append, b5x h2]
  cases K with
  | int k => have h1 : c1 = [.int k x.1] := h1; subst h1; rfl
  | bool => have h1 : c1 = [.bool x.1] := h1; subst h1; rfl
  | xs k n => obtain ⟨h1, rfl⟩ := h1; rw [List.length_map, h1]; rfl
  | sl k => exact h1.elim
  | fs k => exact h1.elim
theorem b4i {B' : Nat} (hB : B ≤ B') {fz : Nat → Prop} {mem : List Slot} {k : CK} {zs : List Int} {v : Value} {bs : List Nat} (hmk : c1h B' w fz k zs v bs) (hkl : ∀ b, fz b → ρ.kl b) (hm : MRel ρ B w0 mem w) (hfresh : ∀ b ∈ bs, ¬ a6e ρ mem b) (hfz : ∀ b ∈ bs, ρ.fz b = none) :
  ρ.le (ρ.frzs bs w) ∧ MRel (ρ.frzs bs w) B w0 mem w ∧ A1.rel (ρ.frzs bs w) (.fr (.xs k zs)) v ∧ ∀ b c, (ρ.frzs bs w).fz b = some c → ρ.fz b = some c ∨ b ∈ bs := by
 obtain ⟨⟨ad, c, e1, e2, e3⟩, e6⟩ := hmk
 have hle : ρ.le (ρ.frzs bs w) := hm.frzs_le hfz
 refine ⟨hle, hm.freezes hfz hfresh (fun b hb => ⟨Nat.le_trans hB (e6 b hb).1, (e6 b hb).2⟩), ⟨ad, c, zs.map k.val, e1, e2, rfl, fun hp => ?_⟩, fun b c hc => ?_⟩
 ·obtain ⟨blk, cells, t, fr, pre, post, g1, g2, g3, g4⟩ := e3 hp
  rcases g2 with g2 | g2
  ·obtain ⟨k1, k2⟩ := hkl blk g2
   refine ⟨blk, cells, t, fr, pre, post, g1, k2, ?_, g4⟩
   unfold Env.ok at k1
   cases e : ρ.fz blk with
   | none => exact absurd e k1
   | some c0 =>
    have hnb : ¬ blk ∈ bs := fun hb => by rw [hfz blk hb] at e; cases e
    rw [Z6 hnb, e]
    exact (hm.frz blk c0 e).symm.trans g3
  ·refine ⟨blk, cells, t, fr, pre, post, g1, .inl ?_, (b1v g2).trans g3, g4⟩
   show ρ.lo ≤ blk
   rw [hm.env.lo]
   exact Nat.le_trans hB (e6 blk g2).1
 ·by_cases hb : b ∈ bs
  ·exact .inr hb
  ·rw [Z6 hb] at hc; exact .inl hc
theorem Kd.make_spec0 {fz : Nat → Prop} {K : Kd} {x : K.T} {v : Value} {bs : List Nat} {B' nm : Nat} (hK : ∀ l, K ≠ .cat l) (hmk : K.mk B' w fz x v bs) (hkl : ∀ b, fz b → ρ.kl b) (hB : B ≤ B') (hm : MRel ρ B w0 st.mem w) (hfresh : ∀ b ∈ bs, ¬ a6e ρ st.mem b) (hfz : ∀ b ∈ bs, ρ.fz b = none) {st1 : St} (h : st.newAll nm (K.make nm x).2 = some st1) :
  ∃ ρ', ρ.le ρ' ∧ MRel ρ' B w0 st1.mem w ∧ AV.rel ρ' (K.make nm x).1 v ∧ st1.tmps = st.tmps ∧ (∀ c, a6e ρ' st1.mem c → a6e ρ st.mem c ∨ c ∈ bs) ∧ ∀ b c, ρ'.fz b = some c → ρ.fz b = some c ∨ b ∈ bs := by
 have plain : ∀ {av : AV}, st.newAll nm [] = some st1 → AV.rel ρ av v → ∃ ρ', ρ.le ρ' ∧ MRel ρ' B w0 st1.mem w ∧ AV.rel ρ' av v ∧ st1.tmps = st.tmps ∧ (∀ c, a6e ρ' st1.mem c → a6e ρ st.mem c ∨ c ∈ bs) ∧ ∀ b c, ρ'.fz b = some c → ρ.fz b = some c ∨ b ∈ bs := by
  intro av h hv
  simp only [St.newAll] at h
  cases h
  exact ⟨ρ, .refl ρ, hm, hv, rfl, fun c hc => .inl hc, fun _ _ h => .inl h⟩
 cases K
 case int k => exact plain h hmk.1
 case bool => exact plain h (by have := hmk.1; simp only [Kd.make, AV.rel, A1.rel, this]; congr 1; cases x <;> rfl)
 case str => exact plain h hmk.1
 case xs k n => exact plain h ⟨_, hmk.1.2, hmk.1.1, [], by simp, rfl⟩
 case sls k =>
  obtain ⟨⟨ad, c, vs, e1, e2, e3, e4, e5⟩, e6⟩ := hmk
  simp only [Kd.make, St.newAll] at h
  cases h
  have hle : ρ.le (ρ.frzs bs w) := hm.frzs_le hfz
  have hrow : ∀ {a : Option Addr} {cs : List Value}, a8a ⟨w, fun b => b ∈ bs, fz⟩ a cs → b0J (ρ.frzs bs w) a cs := by
   intro a cs hr hp
   obtain ⟨blk, cells, t, fr, pre, post, g1, g2, g3, g4⟩ := hr hp
   exact ⟨blk, cells, t, fr, pre, post, g1, .inl (by show ρ.lo ≤ blk; rw [hm.env.lo]; exact Nat.le_trans hB (e6 blk g2).1), (b1v g2).trans g3, g4⟩
  refine ⟨ρ.frzs bs w, hle, hm.freezes hfz hfresh (fun b hb => ⟨Nat.le_trans hB (e6 b hb).1, (e6 b hb).2⟩), ⟨ad, c, vs, e1, e2, ⟨e3, fun i zs u g1 g2 => ?_⟩, hrow e4⟩, rfl, fun c hc => .inl hc, fun b c hc => ?_⟩
  ·obtain ⟨a', c', q1, q2, q3⟩ := e5 i zs u g1 g2
   exact ⟨a', c', q1, q2, hrow q3⟩
  ·by_cases hb : b ∈ bs
   ·exact .inr hb
   ·rw [Z6 hb] at hc; exact .inl hc
 case rp K => exact hmk.elim
 case fsl k => exact hmk.elim
 case asl k =>
  simp only [Kd.make, St.newAll] at h
  cases h
  obtain ⟨q1, q2, q3, q4⟩ := b4i hB hmk hkl hm hfresh hfz
  exact ⟨_, q1, q2, q3, rfl, fun c hc => .inl hc, q4⟩
 case fcl f k => exact hmk.elim
 case fnc f => exact plain h hmk.1
 case cat l => exact absurd rfl (hK l)
 case io l => exact hmk.elim
 case ios k => exact hmk.elim
 case xv k => exact plain h ⟨_, hmk.1, rfl, [], by simp, rfl⟩
 case op l =>
  simp only [Kd.make, St.newAll] at h
  split at h
  ·rename_i st2 hn
   cases h
   unfold St.new at hn
   split at hn
   ·rename_i hf
    cases hn
    obtain ⟨blk, cs, t, fr, mid, post, rfl, h1, rfl, h3, h6, h4, h5⟩ := hmk
    have hml := b5x h4
    have hms : a4h l ≤ cs.size := by rw [← Array.length_toList, h6, List.length_append, hml]; omega
    obtain ⟨q1, q2, q3⟩ := b2E hm hf (b := { segs := a4j l x, own := .own }) (l := { a := some (blk, 0), adr := some ⟨blk, 0, none⟩, size := 1, cap := 1, es := a4h l })
     (fun y hy => by cases hy; exact hfresh blk (by simp)) (fun y hy => by cases hy; exact ⟨Nat.le_trans hB h1, hfz blk (by simp)⟩) (fun i h => by cases h)
     ⟨_, mid, if_pos rfl, b5y h4, by simp [hml], Nat.le_refl _, cs, t, fr, [], post, h3, by simpa using h6, rfl, (fun _ => ⟨rfl, by simpa using hms, h5, rfl⟩), fun _ => h5⟩
    refine ⟨_, q1, q2, ⟨_, _, _, if_pos rfl, rfl, rfl⟩, rfl, fun c hc => ?_, fun _ _ h => .inl h⟩
    rcases q3 c hc with h | ⟨y, hy, hc⟩
    ·exact .inl h
    ·cases hy; exact .inr (by simp [← hc])
   ·cases hn
  ·cases h
 case sla k m =>
  simp only [Kd.make, St.newAll] at h
  split at h
  ·rename_i st2 hn
   cases h
   unfold St.new at hn
   split at hn
   ·rename_i hf
    cases hn
    have hnone := hm.free nm (.inr hf)
    rcases hmk with ⟨rfl, rfl, rfl⟩ | ⟨blk, cs, t, fr, post, n, cap, rfl, h1, hm0, hl, hle, hcap, rfl, h3, h4, h5⟩
    ·obtain ⟨q1, q2, q3⟩ := b2E hm hf (b := { segs := [.xs k 0 []], own := .own }) (l := { a := none, adr := none, size := 0, cap := 0, es := m }) (fun x hx => by cases hx) (fun x hx => by cases hx) (fun i h => by cases h)
      ⟨_, [], if_pos rfl, ⟨rfl, [], rfl, rfl⟩, by simp, Nat.le_refl _, rfl, fun _ => ⟨rfl, rfl⟩⟩
     refine ⟨_, q1, q2, ⟨_, if_pos rfl, by simp, rfl, rfl, Nat.le_refl _, fun _ => rfl, fun h => absurd h (Nat.lt_irrefl 0)⟩, rfl, fun c hc => ?_, fun _ _ h => .inl h⟩
     rcases q3 c hc with h | ⟨x, hx, _⟩
     ·exact .inl h
     ·cases hx
    ·have hn : x.length / m = n := by rw [hl]; exact Nat.mul_div_cancel n hm0
     obtain ⟨q1, q2, q3⟩ := b2E hm hf (b := { segs := [.xs k x.length x], own := .own }) (l := { a := some (blk, 0), adr := some ⟨blk, 0, none⟩, size := n, cap := cap, es := m })
      (fun y hy => by cases hy; exact hfresh blk (by simp)) (fun y hy => by cases hy; exact ⟨Nat.le_trans hB h1, hfz blk (by simp)⟩) (fun i h => by cases h)
      ⟨_, x.map k.val, if_pos rfl, ⟨rfl, [], by simp, rfl⟩, by simpa using hl, hle, cs, t, fr, [], post, h3, by simpa using h4, rfl, (fun _ => ⟨rfl, hcap, h5, rfl⟩), fun _ => h5⟩
     refine ⟨_, q1, q2, ⟨_, if_pos rfl, hn.symm, rfl, rfl, hle, (fun h => by cases h), fun _ => rfl⟩, rfl, fun c hc => ?_, fun _ _ h => .inl h⟩
     rcases q3 c hc with h | ⟨y, hy, hc⟩
     ·exact .inl h
     ·cases hy; exact .inr (by simp [← hc])
   ·cases hn
  ·cases h
 case sl k =>
  simp only [Kd.make, St.newAll] at h
  split at h
  ·rename_i st2 hn
   cases h
   unfold St.new at hn
   split at hn
   ·rename_i hf
    cases hn
    have hnone := hm.free nm (.inr hf)
    rcases hmk with ⟨rfl, rfl, rfl⟩ | ⟨blk, cs, t, fr, post, cap, rfl, h1, hc1, hc2, rfl, h3, h4, h5⟩
    ·obtain ⟨q1, q2, q3⟩ := b2E hm hf (b := { segs := [.xs k 0 []], own := .own }) (l := { a := none, adr := none, size := 0, cap := 0, es := 1 }) (fun x hx => by cases hx) (fun x hx => by cases hx) (fun i h => by cases h)
      ⟨_, [], if_pos rfl, ⟨rfl, [], rfl, rfl⟩, rfl, Nat.le_refl _, rfl, fun _ => ⟨rfl, rfl⟩⟩
     refine ⟨_, q1, q2, ⟨_, if_pos rfl, rfl, rfl, rfl, Nat.le_refl _, fun _ => rfl, fun h => absurd h (Nat.lt_irrefl 0)⟩, rfl, fun c hc => ?_, fun _ _ h => .inl h⟩
     rcases q3 c hc with h | ⟨x, hx, _⟩
     ·exact .inl h
     ·cases hx
    ·have hsz : cs.size = x.length + post.length := by rw [← Array.length_toList, h4]; simp
     obtain ⟨q1, q2, q3⟩ := b2E hm hf (b := { segs := [.xs k x.length x], own := .own }) (l := { a := some (blk, 0), adr := some ⟨blk, 0, none⟩, size := x.length, cap := cap, es := 1 })
      (fun y hy => by cases hy; exact hfresh blk (by simp)) (fun y hy => by cases hy; exact ⟨Nat.le_trans hB h1, hfz blk (by simp)⟩) (fun i h => by cases h)
      ⟨_, x.map k.val, if_pos rfl, ⟨rfl, [], by simp, rfl⟩, by simp, hc1, cs, t, fr, [], post, h3, by simpa using h4, rfl, (fun _ => ⟨rfl, by simpa using hc2, h5, rfl⟩), fun _ => h5⟩
     refine ⟨_, q1, q2, ⟨_, if_pos rfl, rfl, rfl, rfl, hc1, (fun h => by cases h), fun _ => rfl⟩, rfl, fun c hc => ?_, fun _ _ h => .inl h⟩
     rcases q3 c hc with h | ⟨y, hy, hc⟩
     ·exact .inl h
     ·cases hy; exact .inr (by simp [← hc])
   ·cases hn
  ·cases h
theorem a5w {l1 l2 : List Ob} : ∀ {st : St} {nm : Nat}, st.newAll nm (l1 ++ l2) = (st.newAll nm l1).bind fun s => s.newAll (nm + l1.length) l2 := by
 induction l1 with
 | nil => intro st nm; simp [St.newAll]
 | cons b r ih =>
  intro st nm
  simp only [List.cons_append, St.newAll]
  cases st.new nm b with
  | none => rfl
  | some s =>
   show s.newAll (nm + 1) (r ++ l2) = (s.newAll (nm + 1) r).bind fun s' => s'.newAll (nm + (r.length + 1)) l2
   rw [ih, show nm + 1 + r.length = nm + (r.length + 1) by omega]
theorem FK.make_spec {fz : Nat → Prop} {B' : Nat} (hB : B ≤ B') {K : FK} {x : K.T} {c1 : List Value} {bs : List Nat} {nm : Nat} {ρ : Env} {st st1 : St} (hmk : K.mk B' w fz x c1 bs) (hkl : ∀ b, fz b → ρ.kl b) (hm : MRel ρ B w0 st.mem w) (hf : ∀ b ∈ bs, ¬ a6e ρ st.mem b) (hz : ∀ b ∈ bs, ρ.fz b = none) (h : st.newAll nm (K.make nm x).2 = some st1) :
  ∃ ρ', ρ.le ρ' ∧ MRel ρ' B w0 st1.mem w ∧ i2 ρ' (K.make nm x).1 c1 ∧ st1.tmps = st.tmps ∧ (∀ c, a6e ρ' st1.mem c → a6e ρ st.mem c ∨ c ∈ bs) ∧ ∀ b c, ρ'.fz b = some c → ρ.fz b = some c ∨ b ∈ bs := by
 cases K with
 | int k =>
  obtain ⟨rfl, rfl⟩ := hmk
  simp only [FK.make, St.newAll] at h
  cases h
  exact ⟨ρ, .refl ρ, hm, ⟨_, [], rfl, rfl, rfl⟩, rfl, fun c hc => .inl hc, fun _ _ h => .inl h⟩
 | bool =>
  obtain ⟨rfl, rfl⟩ := hmk
  simp only [FK.make, St.newAll] at h
  cases h
  refine ⟨ρ, .refl ρ, hm, ⟨_, [], rfl, ?_, rfl⟩, rfl, fun c hc => .inl hc, fun _ _ h => .inl h⟩
  show Value.bool x = .bool (@decide (x = true) _)
  cases x <;> rfl
 | xs k n =>
  obtain ⟨⟨h1, rfl⟩, rfl⟩ := hmk
  simp only [FK.make, St.newAll] at h
  cases h
  exact ⟨ρ, .refl ρ, hm, ⟨h1, [], by simp, rfl⟩, rfl, fun c hc => .inl hc, fun _ _ h => .inl h⟩
 | sl k =>
  obtain ⟨v, rfl, h1⟩ := hmk
  obtain ⟨ρ', q1, q2, q3, q4, q5, q6⟩ := Kd.make_spec0 (K := .sl k) (fz := fz) (fun l e => by cases e) h1 hkl hB hm hf hz h
  exact ⟨ρ', q1, q2, ⟨v, [], rfl, q3, rfl⟩, q4, q5, q6⟩
 | fs k =>
  obtain ⟨v, rfl, h1⟩ := hmk
  simp only [FK.make, St.newAll] at h
  cases h
  obtain ⟨q1, q2, q3, q4⟩ := b4i hB h1 hkl hm hf hz
  exact ⟨_, q1, q2, ⟨v, [], rfl, q3, rfl⟩, rfl, fun c hc => .inl hc, q4⟩
theorem FK.make_spec2 {fz : Nat → Prop} {B' : Nat} (hB : B ≤ B') {K : FK} {x : K.T} {c1 : List Value} {bs : List Nat} {nm : Nat} {ρ : Env} {st st1 : St} (hmk : K.mk B' w fz x c1 bs) (hkl : ∀ b, fz b → ρ.kl b) (hm : MRel ρ B w0 st.mem w) (hf : ∀ b ∈ bs, ¬ a6e ρ st.mem b) (hz : ∀ b ∈ bs, ρ.fz b = none) (h : st.newAll nm (K.make nm x).2 = some st1) :
  ∃ ρ', ρ.le ρ' ∧ MRel ρ' B w0 st1.mem w ∧ i2 ρ' (K.make nm x).1 c1 ∧ st1.tmps = st.tmps ∧ (∀ c, a6e ρ' st1.mem c → a6e ρ st.mem c ∨ c ∈ bs) ∧ (∀ b c, ρ'.fz b = some c → ρ.fz b = some c ∨ b ∈ bs) ∧ (K.isFs = true → ∀ b ∈ bs, ρ'.kl b) := by
 by_cases hK : K.isFs = true
 ·cases K with
  | fs k =>
   obtain ⟨v, rfl, h1⟩ := hmk
   simp only [FK.make, St.newAll] at h
   cases h
   obtain ⟨q1, q2, q3, q4⟩ := b4i hB h1 hkl hm hf hz
   refine ⟨_, q1, q2, ⟨v, [], rfl, q3, rfl⟩, rfl, fun c hc => .inl hc, q4, fun _ b hb => ?_⟩
   obtain ⟨g1, cs, t, fr, g2⟩ := h1.2 b hb
   refine ⟨?_, .inl ?_⟩
   ·unfold Env.ok
    rw [b1v hb, g2]
    exact fun e => by cases e
   ·show ρ.lo ≤ b
    rw [hm.env.lo]
    exact Nat.le_trans hB g1
  | int k => cases hK
  | bool => cases hK
  | xs k n => cases hK
  | sl k => cases hK
 ·obtain ⟨ρ', q1, q2, q3, q4, q5, q6⟩ := FK.make_spec hB hmk hkl hm hf hz h
  exact ⟨ρ', q1, q2, q3, q4, q5, q6, fun e => absurd e hK⟩
theorem a8A {B' : Nat} (hB : B ≤ B') : ∀ {L : List FK} {fz : Nat → Prop} {x : Cs L} {cs : List Value} {bs : List Nat} {nm : Nat} {ρ : Env} {st st1 : St}, c08 B' w fz L x cs bs → (∀ b, fz b → ρ.kl b) → MRel ρ B w0 st.mem w → (∀ b ∈ bs, ¬ a6e ρ st.mem b) → (∀ b ∈ bs, ρ.fz b = none) → st.newAll nm (a8z nm L x).2 = some st1 →
  ∃ ρ', ρ.le ρ' ∧ MRel ρ' B w0 st1.mem w ∧ i2 ρ' (a8z nm L x).1 cs ∧ st1.tmps = st.tmps ∧ (∀ c, a6e ρ' st1.mem c → a6e ρ st.mem c ∨ c ∈ bs) ∧ ∀ b c, ρ'.fz b = some c → ρ.fz b = some c ∨ b ∈ bs
 | [], fz, x, cs, bs, nm, ρ, st, st1, hmk, hkl, hm, hf, hz, h => by
  obtain ⟨rfl, rfl⟩ := hmk
  simp only [a8z, St.newAll] at h
  cases h
  exact ⟨ρ, .refl ρ, hm, rfl, rfl, fun c hc => .inl hc, fun _ _ h => .inl h⟩
 | K :: r, fz, x, cs, bs, nm, ρ, st, st1, hmk, hkl, hm, hf, hz, h => by
  obtain ⟨c1, c2, b1, b2, rfl, rfl, h1, h2, h3⟩ := hmk
  simp only [a8z] at h
  rw [a5w] at h
  cases hs : st.newAll nm (K.make nm x.1).2 with
  | none => rw [hs] at h; cases h
  | some s =>
   rw [hs] at h
   simp only [Option.bind_some] at h
   obtain ⟨ρ1, q1, q2, q3, q4, q5, q6, q7⟩ := FK.make_spec2 hB h1 hkl hm (fun b hb => hf b (by simp [hb])) (fun b hb => hz b (by simp [hb])) hs
   obtain ⟨ρ2, r1, r2, r3, r4, r5, r6⟩ := a8A hB h2 (fun b hb => hb.elim (fun hb => Env.kl_le q1 (hkl b hb)) fun hb => q7 hb.1 b hb.2) q2 (fun b hb hu => by
    rcases q5 b hu with h | h
    ·exact hf b (by simp [hb]) h
    ·exact h3 b h hb) (fun b hb => by
    cases e : ρ1.fz b with
    | none => rfl
    | some c =>
     rcases q6 b c e with h | h
     ·rw [hz b (by simp [hb])] at h; cases h
     ·exact absurd hb (h3 b h)) h
   refine ⟨ρ2, q1.trans r1, r2, l8 (B6 r1 q3) r3, r4.trans q4, fun c hc => ?_, fun b c hc => ?_⟩
   ·rcases r5 c hc with h | h
    ·rcases q5 c h with h | h
     ·exact .inl h
     ·exact .inr (by simp [h])
    ·exact .inr (by simp [h])
   ·rcases r6 b c hc with h | h
    ·rcases q6 b c h with h | h
     ·exact .inl h
     ·exact .inr (by simp [h])
    ·exact .inr (by simp [h])
theorem Kd.make_spec {fz : Nat → Prop} {K : Kd} {x : K.T} {v : Value} {bs : List Nat} {B' nm : Nat} (hmk : K.mk B' w fz x v bs) (hkl : ∀ b, fz b → ρ.kl b) (hB : B ≤ B') (hm : MRel ρ B w0 st.mem w) (hfresh : ∀ b ∈ bs, ¬ a6e ρ st.mem b) (hfz : ∀ b ∈ bs, ρ.fz b = none) {st1 : St} (h : st.newAll nm (K.make nm x).2 = some st1) :
  ∃ ρ', ρ.le ρ' ∧ MRel ρ' B w0 st1.mem w ∧ AV.rel ρ' (K.make nm x).1 v ∧ st1.tmps = st.tmps ∧ (∀ c, a6e ρ' st1.mem c → a6e ρ st.mem c ∨ c ∈ bs) ∧ ∀ b c, ρ'.fz b = some c → ρ.fz b = some c ∨ b ∈ bs := by
 by_cases hc : ∃ l, K = .cat l
 ·obtain ⟨l, rfl⟩ := hc
  obtain ⟨cs, rfl, h2⟩ := hmk
  obtain ⟨ρ', q1, q2, q3, q4, q5, q6⟩ := a8A hB h2 hkl hm hfresh hfz h
  exact ⟨ρ', q1, q2, ⟨cs, rfl, q3⟩, q4, q5, q6⟩
 ·exact Kd.make_spec0 (fun l e => hc ⟨l, e⟩) hmk hkl hB hm hfresh hfz h
theorem a7h {fz : Nat → Prop} {B' : Nat} (hB : B ≤ B') : ∀ {ks : List Kd} {x : Rs ks} {vs : List Value} {bs : List Nat} {nm : Nat} {ρ : Env} {st st1 : St}, b4u B' w fz ks x vs bs → (∀ b, fz b → ρ.kl b) → MRel ρ B w0 st.mem w → (∀ b ∈ bs, ¬ a6e ρ st.mem b) → (∀ b ∈ bs, ρ.fz b = none) → st.newAll nm (Q6 nm ks x).2 = some st1 →
  ∃ ρ', ρ.le ρ' ∧ MRel ρ' B w0 st1.mem w ∧ F4 ρ' (Q6 nm ks x).1 vs ∧ st1.tmps = st.tmps ∧ (∀ c, a6e ρ' st1.mem c → a6e ρ st.mem c ∨ c ∈ bs) ∧ ∀ b c, ρ'.fz b = some c → ρ.fz b = some c ∨ b ∈ bs
 | [], x, vs, bs, nm, ρ, st, st1, hmk, hkl, hm, hf, hz, h => by
  obtain ⟨rfl, rfl⟩ := hmk
  simp only [Q6, St.newAll] at h
  cases h
  exact ⟨ρ, .refl ρ, hm, rfl, rfl, fun c hc => .inl hc, fun _ _ h => .inl h⟩
 | [k], x, vs, bs, nm, ρ, st, st1, hmk, hkl, hm, hf, hz, h => by
  obtain ⟨v, rfl, h1⟩ := hmk
  obtain ⟨ρ', q1, q2, q3, q4, q5⟩ := Kd.make_spec h1 hkl hB hm hf hz h
  exact ⟨ρ', q1, q2, ⟨v, [], rfl, q3, rfl⟩, q4, q5⟩
 | k :: k2 :: r, x, vs, bs, nm, ρ, st, st1, hmk, hkl, hm, hf, hz, h => by
  obtain ⟨v, vs', b1, b2, rfl, rfl, h1, h2, h3⟩ := hmk
  simp only [Q6] at h
  rw [a5w] at h
  cases hs : st.newAll nm (k.make nm x.1).2 with
  | none => rw [hs] at h; cases h
  | some s =>
   rw [hs] at h
   simp only [Option.bind_some] at h
   obtain ⟨ρ1, q1, q2, q3, q4, q5, q6⟩ := Kd.make_spec h1 hkl hB hm (fun b hb => hf b (by simp [hb])) (fun b hb => hz b (by simp [hb])) hs
   obtain ⟨ρ2, r1, r2, r3, r4, r5, r6⟩ := a7h hB h2 (fun b hb => Env.kl_le q1 (hkl b hb)) q2 (fun b hb hu => by
    rcases q5 b hu with h | h
    ·exact hf b (by simp [hb]) h
    ·exact h3 b h hb) (fun b hb => by
    cases e : ρ1.fz b with
    | none => rfl
    | some c =>
     rcases q6 b c e with h | h
     ·rw [hz b (by simp [hb])] at h; cases h
     ·exact absurd hb (h3 b h)) h
   refine ⟨ρ2, q1.trans r1, r2, ⟨v, vs', rfl, AV.rel_le r1 q3, r3⟩, r4.trans q4, fun c hc => ?_, fun b c hc => ?_⟩
   ·rcases r5 c hc with h | h
    ·rcases q5 c h with h | h
     ·exact .inl h
     ·exact .inr (by simp [h])
    ·exact .inr (by simp [h])
   ·rcases r6 b c hc with h | h
    ·rcases q6 b c h with h | h
     ·exact .inl h
     ·exact .inr (by simp [h])
    ·exact .inr (by simp [h])
theorem b2f {l : List AV} {vs : List Value} (h : F4 ρ l vs) : TV.rel ρ (b8H l) (b2x vs) := by
 cases l with
 | nil =>
  have h' : vs = [] := h
  subst h'
  exact ⟨[], rfl, rfl⟩
 | cons x r =>
  cases r with
  | nil =>
   obtain ⟨v, vs', rfl, h2, h3⟩ := h
   cases h3
   exact h2
  | cons y r =>
   have h0 := h
   obtain ⟨v, vs', rfl, h2, u, us, rfl, h4, h5⟩ := h
   exact ⟨v :: u :: us, rfl, h0⟩
def b92 (P : Program) (ρ : Env) (B : Nat) (w0 : Base) (st' : St) (o : Oper) (a : Act) (w : World) : Prop :=
 ∀ (K : Act → World → Prop) (Q : Exit → Act → World → Prop), (∀ v w' ρ', ρ.le ρ' → Rel ρ' B w0 st' (a.put o.dst v) w' → K (a.put o.dst v) w') → o.wp P a w K Q
theorem FitsV.fits {o : Oper} (h : FitsV P ρ B w0 st' o a w) : b92 P ρ B w0 st' o a w := by
 obtain ⟨v, w', ρ', h1, h2, h3⟩ := h
 exact fun K Q hK => b8B h1 (hK v w' ρ' h2 h3)
theorem c1q {fz : Nat → Prop} {w' : World} {B' : Nat} : ∀ (ks : List Kd) (x : Rs ks) (vs : List Value) (bs : List Nat), b4u B' w' fz ks x vs bs → ∀ b ∈ bs, B' ≤ b := by
 have one : ∀ (K : Kd) (x : K.T) (v : Value) (bs : List Nat), K.mk B' w' fz x v bs → ∀ b ∈ bs, B' ≤ b := by
  intro K x v bs hk b hb
  cases K
  case sl k =>
   rcases hk with ⟨_, _, rfl⟩ | ⟨blk, _, _, _, _, _, rfl, h, _⟩
   ·simp at hb
   ·simp at hb; subst hb; exact h
  case sla k m =>
   rcases hk with ⟨_, _, rfl⟩ | ⟨blk, _, _, _, _, _, _, rfl, h, _⟩
   ·simp at hb
   ·simp at hb; subst hb; exact h
  case sls k => exact (hk.2 b hb).1
  case cat l =>
   obtain ⟨cs, _, hk⟩ := hk
   have key : ∀ {L : List FK} {fz : Nat → Prop} {x : Cs L} {cs : List Value} {bs : List Nat}, c08 B' w' fz L x cs bs → ∀ b ∈ bs, B' ≤ b := by
    intro L
    induction L with
    | nil => intro fz x cs bs h b hb; obtain ⟨_, rfl⟩ := h; simp at hb
    | cons K r ih =>
     intro fz x cs bs h b hb
     obtain ⟨c1, c2, b1, b2, _, rfl, h1, h2, _⟩ := h
     rcases List.mem_append.1 hb with hb | hb
     ·cases K with
      | sl k =>
       obtain ⟨v, _, h1⟩ := h1
       rcases h1 with ⟨_, _, rfl⟩ | ⟨blk, _, _, _, _, _, rfl, h, _⟩
       ·simp at hb
       ·simp at hb; subst hb; exact h
      | int k => have := h1.2; subst this; simp at hb
      | bool => have := h1.2; subst this; simp at hb
      | xs k n => have := h1.2; subst this; simp at hb
      | fs k => obtain ⟨v, _, h1⟩ := h1; exact (h1.2 b hb).1
     ·exact ih h2 b hb
   exact key hk b hb
  case rp k => exact hk.elim
  case fsl k => exact hk.elim
  case asl k => exact (hk.2 b hb).1
  case fcl f k => exact hk.elim
  case io k => exact hk.elim
  case ios k => exact hk.elim
  case op l =>
   obtain ⟨blk, _, _, _, _, _, rfl, h, _⟩ := hk
   simp at hb; subst hb; exact h
  all_goals (have := hk.2; subst this; simp at hb)
 intro ks
 induction ks with
 | nil => intro x vs bs hk b hb; obtain ⟨_, rfl⟩ := hk; simp at hb
 | cons k r ih =>
  cases r with
  | nil => intro x vs bs hk b hb; obtain ⟨v, _, hk⟩ := hk; exact one k x v bs hk b hb
  | cons k2 r =>
   intro x vs bs hk b hb
   obtain ⟨v, vs', b1, b2, _, rfl, h1, h2, _⟩ := hk
   rcases List.mem_append.1 hb with hb | hb
   ·exact one k x.1 v b1 h1 b hb
   ·exact ih x.2 vs' b2 h2 b hb
def IoRel (ρ : Env) (st : St) (p : Nat × Option (Nat × Nat)) (m : Option Reg) : Prop :=
 ∃ ob l, st.look p.1 = some ob ∧ ob.own ≠ .ro ∧ ρ p.1 = some l ∧ match p.2 with
  | some (b, n) => ∃ blk off, l.a = some (blk, off) ∧ m = some ⟨blk, off + b, n⟩ ∧ b + n ≤ l.size * l.es
  | none => (m = none ∧ l.size * l.es = 0) ∨ ∃ blk off, l.a = some (blk, off) ∧ m = some ⟨blk, off, l.size * l.es⟩ ∧ 0 < l.size * l.es
def IoRels (ρ : Env) (st : St) : List (Nat × Option (Nat × Nat)) → List (Option Reg) → Prop
 | [], M => M = []
 | p :: r, M => ∃ m M', M = m :: M' ∧ IoRel ρ st p m ∧ (∀ q ∈ r, q.1 ≠ p.1) ∧ IoRels ρ st r M'
theorem b7G {stk : St} (hm : MRel ρ B w0 st.mem w) {K : Kd} {tv : TV} {ios : List (Nat × Option (Nat × Nat))} (h : K.ioAt st tv = some ios) {x : K.T} (hg : K.get2 st stk tv = some x) {v : Value} (hv : TV.rel ρ tv v) :
  (ios = [] ∧ K.reg v = []) ∨ ∃ p m, ios = [p] ∧ K.reg v = [m] ∧ IoRel ρ st p m := by
 cases K
 case io l =>
  simp only [Kd.get2] at hg
  split at hg
  ·rename_i o b
   split at hg
   ·rename_i ob hmine hob
    obtain ⟨ob', hob', hown⟩ := a1d hmine
    rw [hob] at hob'; cases hob'
    split at hg
    ·rename_i l2 h2
     simp only [Kd.ioAt] at h
     cases h
     obtain ⟨lc, blk, f, k1, k2, rfl⟩ := hv
     obtain ⟨l', C, g1, g2, g3, g4, g5⟩ := hm.ob o ob (d0 hob)
     rw [k1] at g1; cases g1
     obtain ⟨p2, mid, q2, e1, e2, e3, e4⟩ := N3 h2 g2
     refine .inr ⟨_, _, rfl, rfl, ob, lc, hob, hown, k1, blk, f, k2, rfl, ?_⟩
     rw [← g3, e1]
     simp only [List.length_append]
     omega
    ·cases hg
   ·cases hg
  ·cases hg
 case ios k =>
  simp only [Kd.get2] at hg
  split at hg
  ·rename_i o n es
   split at hg
   ·rename_i hmine
    obtain ⟨ob, hob, hown⟩ := a1d hmine
    simp only [Kd.ioAt] at h
    split at h
    ·rename_i he
     have he := i5 he
     subst he
     cases h
     obtain ⟨lc, k1, k2, k3, k4, k5, k6, k7⟩ := hv
     have hsz : lc.size * lc.es = lc.size := by rw [k3, Nat.mul_one]
     rw [k4]
     by_cases hz : lc.size = 0
     ·refine .inr ⟨_, none, rfl, ?_, ob, lc, hob, hown, k1, .inl ⟨rfl, by rw [hsz, hz]⟩⟩
      cases lc.adr with
      | none => rfl
      | some ad => simp only [Kd.reg, hz, if_true]
     ·rw [k7 (by omega)]
      cases ha : lc.a with
      | none => exact absurd (k6 ha) hz
      | some y =>
       obtain ⟨blk, off⟩ := y
       refine .inr ⟨_, some ⟨blk, off, lc.size⟩, rfl, ?_, ob, lc, hob, hown, k1, .inr ⟨blk, off, ha, by rw [hsz], by omega⟩⟩
       simp only [Kd.reg, Loc.addr, ha, Option.map_some, hz, if_false]
    ·cases h
   ·cases hg
  ·rename_i o off n c es
   split at hg
   ·rename_i hmine
    obtain ⟨ob, hob, hown⟩ := a1d hmine
    simp only [Kd.ioAt] at h
    split at h
    ·rename_i ob' he ho hob'
     rw [hob] at hob'; cases hob'
     have he := i5 he
     have ho := i5 ho
     subst he
     subst ho
     split at h
     ·rename_i hn
      have hn := i5 hn
      cases h
      obtain ⟨lc, a0, c0, k1, rfl, k3, k4, k5, k6⟩ := hv
      obtain ⟨l', C, g1, g2, g3, g4, g5⟩ := hm.ob o ob (d0 hob)
      rw [k1] at g1; cases g1
      have hsz : lc.size * lc.es = n := by rw [← g3, v8 g2, hn]
      by_cases hz : n = 0
      ·refine .inr ⟨_, none, rfl, ?_, ob, lc, hob, hown, k1, .inl ⟨rfl, by rw [hsz, hz]⟩⟩
       cases a0 with
       | none => rfl
       | some ad => simp only [Kd.reg, hz, if_true]
      ·obtain ⟨blk, f, q1, rfl⟩ := k6 (by omega)
       refine .inr ⟨_, some ⟨blk, f, n⟩, rfl, ?_, ob, lc, hob, hown, k1, .inr ⟨blk, f, q1, by rw [hsz], by omega⟩⟩
       simp only [Kd.reg, hz, if_false, Nat.add_zero]
     ·cases h
    ·cases h
   ·cases hg
  ·cases hg
 all_goals (simp only [Kd.ioAt] at h; cases h; exact .inl ⟨rfl, rfl⟩)
theorem a6F {stk : St} (hm : MRel ρ B w0 st.mem w) : ∀ {ks : List Kd} {l : List TV} {ios : List (Nat × Option (Nat × Nat))} {x : Ds ks} {vs : List Value}, a97 st ks l = some ios → F3 st stk ks l = some x → l.length = vs.length →
  (∀ (i : Nat) (v : TV) (u : Value), l[i]? = some v → vs[i]? = some u → TV.rel ρ v u) → IoRels ρ st ios (a5b ks vs)
 | [], [], ios, x, vs, h, _, hl, _ => by
  simp only [a97] at h; cases h
  cases vs <;> rfl
 | [], _ :: _, ios, x, vs, h, hg, _, _ => by simp [F3] at hg
 | _ :: _, [], ios, x, vs, h, hg, _, _ => by simp [F3] at hg
 | k :: ks, v :: l, ios, x, [], h, hg, hl, _ => by simp at hl
 | k :: ks, v :: l, ios, x, u :: us, h, hg, hl, hr => by
  simp only [F3] at hg
  split at hg
  ·rename_i y z e1 e2
   simp only [a97] at h
   split at h
   ·rename_i a b f1 f2
    have ih := a6F hm (ks := ks) (vs := us) f2 e2 (by simpa using hl) fun i v u h1 h2 => hr (i + 1) v u (by simpa using h1) (by simpa using h2)
    simp only [a5b]
    rcases b7G hm f1 e1 (hr 0 v u rfl rfl) with ⟨rfl, hreg⟩ | ⟨p, m, rfl, hreg, hio⟩
    ·simp only at h
     cases h
     rw [hreg]
     exact ih
    ·simp only at h
     split at h
     ·rename_i hall
      cases h
      rw [hreg]
      refine ⟨m, _, rfl, hio, fun q hq e => ?_, ih⟩
      have := List.all_eq_true.1 hall q hq
      rw [e] at this
      simp at this
     ·cases h
   ·cases h
  ·cases hg
theorem IoRels.mem {ios : List (Nat × Option (Nat × Nat))} {M : List (Option Reg)} (h : IoRels ρ st ios M) : ∀ {m : Option Reg}, m ∈ M → ∃ p ∈ ios, IoRel ρ st p m := by
 induction ios generalizing M with
 | nil => intro m hm; have h : M = [] := h; subst h; cases hm
 | cons p r ih =>
  intro m hm
  obtain ⟨m0, M', rfl, h1, _, h3⟩ := h
  rcases List.mem_cons.1 hm with rfl | hm
  ·exact ⟨p, by simp, h1⟩
  ·obtain ⟨q, hq, hr⟩ := ih h3 hm
   exact ⟨q, by simp [hq], hr⟩
theorem IoRel.at {p : Nat × Option (Nat × Nat)} {m : Reg} (h : IoRel ρ st p (some m)) : ∃ ob l off, st.look p.1 = some ob ∧ ob.own ≠ .ro ∧ ρ p.1 = some l ∧ l.a = some (m.blk, off) ∧ off ≤ m.off ∧ m.off + m.n ≤ off + l.size * l.es := by
 obtain ⟨ob, l, h1, h2, h3, h4⟩ := h
 split at h4
 ·rename_i b n _
  obtain ⟨blk, off, k1, k2, k3⟩ := h4
  cases k2
  exact ⟨ob, l, off, h1, h2, h3, k1, Nat.le_add_right _ _, by show off + b + n ≤ _; omega⟩
 ·rcases h4 with ⟨k, _⟩ | ⟨blk, off, k1, k2, _⟩
  ·cases k
  ·cases k2
   exact ⟨ob, l, off, h1, h2, h3, k1, Nat.le_refl _, Nat.le_refl _⟩
theorem IoRels.inside {ios : List (Nat × Option (Nat × Nat))} {M : List (Option Reg)} (hm : MRel ρ B w0 st.mem w) (h : IoRels ρ st ios M) : b69 ρ B M := by
 intro m hmM
 obtain ⟨p, _, hp⟩ := h.mem hmM
 obtain ⟨ob, l, off, h1, h2, h3, h4, h5, h6⟩ := hp.at
 cases hown : ob.own with
 | ro => exact absurd hown h2
 | own => exact .inl (hm.ownB p.1 ob l _ (d0 h1) hown h3 h4)
 | mt i => exact .inr ⟨_, List.mem_of_getElem? (hm.mtAt p.1 ob i l _ (d0 h1) hown h3 h4), rfl, h5, h6⟩
theorem IoRels.cells {ios : List (Nat × Option (Nat × Nat))} {M : List (Option Reg)} (hm : MRel ρ B w0 st.mem w) (h : IoRels ρ st ios M) : ∀ m, some m ∈ M → a4P w m.blk := by
 intro m hmM
 obtain ⟨q, hq, hqr⟩ := h.mem hmM
 obtain ⟨ob, l, off, k1, _, k3, k4, _⟩ := hqr.at
 obtain ⟨l2, C2, g1, _, _, _, g5⟩ := hm.ob _ ob (d0 k1)
 rw [k3] at g1; cases g1
 rw [k4] at g5
 obtain ⟨cs2, t2, fr2, _, _, g6, _⟩ := g5
 exact ⟨cs2, t2, fr2, g6⟩
theorem a3a : ∀ (ios : List (Nat × Option (Nat × Nat))) (st : St), (st.killAll ios).tmps = st.tmps
 | [], _ => rfl
 | p :: r, st => (a3a r (st.kill p.1)).trans rfl
theorem a29 : ∀ {ios : List (Nat × Option (Nat × Nat))} {st : St} {o : Nat} {b : Ob}, (st.killAll ios).mem[o]? = some (.live b) → st.mem[o]? = some (.live b) ∧ ∀ p ∈ ios, p.1 ≠ o
 | [], st, o, b, h => ⟨h, fun p hp => by cases hp⟩
 | p :: r, st, o, b, h => by
  obtain ⟨h1, h2⟩ := a29 (ios := r) h
  simp only [St.kill] at h1
  by_cases e : p.1 = o
  ·rw [e, List.getElem?_set] at h1
   rw [if_pos rfl] at h1
   split at h1 <;> cases h1
  ·rw [List.getElem?_set_ne e] at h1
   refine ⟨h1, fun q hq => ?_⟩
   rcases List.mem_cons.1 hq with rfl | hq
   ·exact e
   ·exact h2 q hq
theorem a8Z : ∀ {ios : List (Nat × Option (Nat × Nat))} {st : St}, MRel ρ B w0 st.mem w → MRel ρ B w0 (st.killAll ios).mem w
 | [], _, h => h
 | p :: r, st, h => a8Z (ios := r) (st := st.kill p.1) (h.kill p.1)
theorem b2U : ∀ {ios : List (Nat × Option (Nat × Nat))} {st : St} {p : Nat × Option (Nat × Nat)}, p ∈ ios → p.1 < st.mem.length → (st.killAll ios).mem[p.1]? = some .dead := by
 have stay : ∀ {ios : List (Nat × Option (Nat × Nat))} {st : St} {o : Nat}, st.mem[o]? = some .dead → (st.killAll ios).mem[o]? = some .dead := by
  intro ios
  induction ios with
  | nil => intro st o h; exact h
  | cons q r ih =>
   intro st o h
   refine ih ?_
   simp only [St.kill]
   rw [List.getElem?_set]
   have := (List.getElem?_eq_some_iff.1 h).1
   split
   ·rename_i e; subst e; rw [if_pos this]
   ·exact h
 intro ios
 induction ios with
 | nil => intro st p h; cases h
 | cons q r ih =>
  intro st p h hl
  rcases List.mem_cons.1 h with rfl | h
  ·exact stay (ios := r) (st := st.kill p.1) (List.getElem?_set_self hl)
  ·exact ih h (by simpa [St.kill] using hl)
theorem IoRels.apart {ios : List (Nat × Option (Nat × Nat))} : ∀ {M : List (Option Reg)}, MRel ρ B w0 st.mem w → IoRels ρ st ios M → (∀ m, some m ∈ M → ∀ o b l x, (st.killAll ios).mem[o]? = some (.live b) → ρ o = some l → l.a = some x → m.blk ≠ x.1) ∧ (∀ m, some m ∈ M → ρ.fz m.blk = none) ∧
  M.Pairwise fun a b => ∀ m m', a = some m → b = some m' → m.blk ≠ m'.blk := by
 intro M hm h
 refine ⟨fun m hmM o b l x hk hl hx e => ?_, fun m hmM => ?_, ?_⟩
 ·obtain ⟨p, hp, hio⟩ := h.mem hmM
  obtain ⟨ob, l', off, h1, h2, h3, h4, _, _⟩ := hio.at
  obtain ⟨g1, g2⟩ := a29 hk
  exact hm.sep p.1 ob o b l' l _ x (d0 h1) g1 h2 (g2 p hp) h3 hl h4 hx e
 ·obtain ⟨p, hp, hio⟩ := h.mem hmM
  obtain ⟨ob, l', off, h1, h2, h3, h4, _, _⟩ := hio.at
  cases hown : ob.own with
  | ro => exact absurd hown h2
  | own => exact (hm.ownB p.1 ob l' _ (d0 h1) hown h3 h4).2
  | mt i =>
   have := hm.env.okM _ (List.mem_of_getElem? (hm.mtAt p.1 ob i l' _ (d0 h1) hown h3 h4))
   exact this
 ·have key : ∀ {ios : List (Nat × Option (Nat × Nat))} {M : List (Option Reg)}, IoRels ρ st ios M → M.Pairwise fun a b => ∀ m m', a = some m → b = some m' → m.blk ≠ m'.blk := by
   intro ios
   induction ios with
   | nil => intro M h; have h : M = [] := h; subst h; exact List.Pairwise.nil
   | cons p r ih =>
    intro M h
    obtain ⟨m0, M', rfl, h1, h2, h3⟩ := h
    refine List.Pairwise.cons (fun m' hm' m m2 e1 e2 e => ?_) (ih h3)
    subst e1
    subst e2
    obtain ⟨q, hq, hio⟩ := h3.mem hm'
    obtain ⟨ob, l, off, a1, a2, a3, a4, _, _⟩ := h1.at
    obtain ⟨ob', l', off', b1, b2, b3, b4, _, _⟩ := hio.at
    exact hm.sep p.1 ob q.1 ob' l l' _ _ (d0 a1) (d0 b1) a2 (Ne.symm (h2 q hq)) a3 b3 a4 b4 e
  exact key h
theorem c18 {c c' pre C post D pre2 post2 : List Value} {b n : Nat} (h1 : c = pre ++ C ++ post) (h2 : b + n ≤ C.length) (h3 : D.length = n) (h5 : ∀ i, (i < pre.length + b ∨ pre.length + b + n ≤ i) → c'[i]? = c[i]?)
  (h6 : c' = pre2 ++ D ++ post2) (h7 : pre2.length = pre.length + b) : c' = pre ++ (C.take b ++ D ++ C.drop (b + n)) ++ post := by
 have e1 : pre2 = pre ++ C.take b := by
  have t1 : c'.take (pre.length + b) = c.take (pre.length + b) := by
   apply List.ext_getElem?
   intro i
   rw [List.getElem?_take, List.getElem?_take]
   split
   ·rename_i hi; exact h5 i (.inl hi)
   ·rfl
  rw [h6, h1, List.append_assoc, List.take_append_of_le_length (by omega), List.take_of_length_le (by omega)] at t1
  rw [t1, List.append_assoc, List.take_append, List.take_of_length_le (by omega), Nat.add_sub_cancel_left, List.take_append_of_le_length (by omega)]
 have e2 : post2 = C.drop (b + n) ++ post := by
  have t1 : c'.drop (pre.length + b + n) = c.drop (pre.length + b + n) := by
   apply List.ext_getElem?
   intro i
   rw [List.getElem?_drop, List.getElem?_drop]
   exact h5 _ (.inr (by omega))
  rw [h6, h1, List.drop_append, List.drop_of_length_le (by simp; omega), List.nil_append, show pre.length + b + n - (pre2 ++ D).length = 0 by simp; omega, List.drop_zero, List.append_assoc, List.drop_append,
   List.drop_of_length_le (by omega), List.nil_append, show pre.length + b + n - pre.length = b + n by omega, List.drop_append_of_le_length (by omega)] at t1
  exact t1
 rw [h6, e1, e2]
 simp only [List.append_assoc]
theorem Env.set_same {ρ : Env} {o : Nat} {l : Loc} (h : ρ o = some l) : ρ.set o l = ρ := by
 obtain ⟨loc, w0, ok, mt⟩ := ρ
 simp only [Env.set]
 congr 1
 funext i
 split
 ·rename_i e; subst e; exact h.symm
 ·rfl
theorem b6T {old new l' : List Seg} {m n : Nat} (h : b40 old new = some (m, n, l')) (e : m = n) : l' = new := by
 unfold b40 at h
 split at h
 ·cases h; subst e; rfl
 ·cases h
theorem a7k {st0 : St} {w' : World} {ρ' : Env} {Mall : List (Option Reg)} (hm0 : MRel ρ B w0 st0.mem w) (hb : BelowM Mall w.heap.size w w') (hle : ρ.le ρ') (hfz : ∀ b c, ρ'.fz b = some c → ρ.fz b = some c ∨ w.heap.size ≤ b) :
  ∀ {ios : List (Nat × Option (Nat × Nat))} {M : List (Option Reg)} {avs : List AV} {ls : List Value} {cur st2 : St}, IoRels ρ st0 ios M → (∀ m, some m ∈ M → some m ∈ Mall) →
   (∀ p ∈ ios, IoRel ρ st0 p none → ∀ l x m, ρ p.1 = some l → l.a = some x → some m ∈ Mall → m.blk ≠ x.1) → F4 ρ' avs ls → a1N w' M ls → MRel ρ' B w0 cur.mem w' → (∀ p ∈ ios, cur.mem[p.1]? = some .dead) →
   (∀ p ∈ ios, ∀ l x, ρ p.1 = some l → l.a = some x → ¬ a6e ρ' cur.mem x.1) → (u2 st0 cur ios avs).val = some st2 → MRel ρ' B w0 st2.mem w' ∧ st2.tmps = cur.tmps
 | [], M, avs, ls, cur, st2, hio, hall, hdis, hav, hh, hm, hdead, hus, h => by
  cases avs with
  | nil => simp only [u2, T.val_ret] at h; subst h; exact ⟨hm, rfl⟩
  | cons _ _ => simp [u2, T.val_fail] at h
 | (o, pl) :: r, M, avs, ls, cur, st2, hio, hall, hdis, hav, hh, hm, hdead, hus, h => by
  obtain ⟨m, M', rfl, hio1, hnames, hio2⟩ := hio
  cases avs with
  | nil => simp [u2, T.val_fail] at h
  | cons av avs =>
   obtain ⟨u, ls', rfl, hu, hav'⟩ := hav
   obtain ⟨u0, us0, e0, hh1, hh2⟩ := hh
   cases e0
   cases av with
   | any => simp [u2, T.val_fail] at h
   | sc a => simp [u2, T.val_fail] at h
   | agg segs =>
    obtain ⟨D, rfl, hD⟩ := hu
    have hDl : (Value.agg D.toArray).cells.toList = D := by simp [Value.cells]
    have hio0 := hio1
    obtain ⟨ob, l, hlook, hown, hρ, hcase⟩ := hio1
    have hlook : st0.look o = some ob := hlook
    have hρ : ρ o = some l := hρ
    obtain ⟨l1, C, g1, g2, g3, g4, g5⟩ := hm0.ob o ob (d0 hlook)
    rw [hρ] at g1; cases g1
    have hρ' : ρ' o = some l := hle.1 o l hρ
    have hdo : cur.mem[o]? = some .dead := hdead (o, pl) (by simp)
    have fin : ∀ (l' : List Seg) (C' : List Value), i2 ρ' l' C' → C'.length = C.length →
      (match l.a with
       | none => C' = []
       | some (blk, off) => ∃ cs' cs t fr pre post, w.heap[blk]? = some (.cells cs t fr) ∧ w'.heap[blk]? = some (.cells cs' t fr) ∧ cs'.toList = pre ++ C' ++ post ∧ pre.length = off ∧ cs'.size = cs.size) →
      (u2 st0 (cur.upd o ob.own l') r avs).val = some st2 → MRel ρ' B w0 st2.mem w' ∧ st2.tmps = cur.tmps := by
     intro l' C' hs' hl' hplace h'
     have hset := Env.set_same hρ'
     have hob : ObRel (ρ'.set o l) w' o { segs := l', own := ob.own } := by
      rw [hset]
      refine ⟨l, C', hρ', hs', by rw [hl', g3], g4, ?_⟩
      cases ha : l.a with
      | none =>
       rw [ha] at hplace g5
       exact ⟨hplace, g5.2⟩
      | some y =>
       obtain ⟨blk, off⟩ := y
       rw [ha] at hplace g5
       obtain ⟨cs', cs, t, fr, pre, post, p0, p1, p2, p3, p4⟩ := hplace
       obtain ⟨cs1, t1, fr1, pre1, post1, r1, r2, r3, r4, r5⟩ := g5
       rw [p0] at r1; cases r1
       refine ⟨cs', t, fr, pre, post, p1, p2, p3, fun hb => ?_, fun hb => ?_⟩
       ·obtain ⟨k1, k2, k3, k4⟩ := r4 hb
        exact ⟨k1, by rw [p4]; exact k2, by rw [p4]; exact k3, k4⟩
       ·rw [p4]; exact r5 hb
     have hm1 := hm.add (nm := o) hdo (b := { segs := l', own := ob.own }) (l := l) (by rw [hset]; exact .refl ρ') (fun i _ => by rw [hset])
      (fun x i b' l2 y hx hi hl2 hy e => hus (o, pl) (by simp) l x hρ hx ⟨i, b', l2, y, hi, hl2, hy, e⟩)
      (fun x hx ho => by
       obtain ⟨o1, o2⟩ := hm0.ownB o ob l x (d0 hlook) ho hρ hx
       refine ⟨o1, ?_⟩
       cases e : ρ'.fz x.1 with
       | none => rfl
       | some c =>
        rcases hfz _ c e with h | h
        ·rw [o2] at h; cases h
        ·have := hm0.lt (d0 hlook) hρ hx; omega) (fun i ho => by rw [hle.2.2.2]; exact hm0.mtM o ob i l (d0 hlook) ho hρ) hob
     rw [hset] at hm1
     obtain ⟨q1, q2⟩ := a7k hm0 hb hle hfz (cur := cur.upd o ob.own l') hio2 (fun m hmm => hall m (by simp [hmm])) (fun p hp => hdis p (by simp [hp])) hav' hh2 hm1
      (fun p hp => by
       have hne : o ≠ p.1 := Ne.symm (hnames p hp)
       show (cur.mem.set o _)[p.1]? = _
       rw [List.getElem?_set_ne hne]
       exact hdead p (by simp [hp]))
      (fun p hp l2 x hl2 hx => by
       rintro ⟨i, b', l3, y, hi, hl3, hy, e⟩
       have hi : (cur.mem.set o (.live { segs := l', own := ob.own }))[i]? = some (.live b') := hi
       have hne : p.1 ≠ o := hnames p hp
       by_cases hio' : i = o
       ·subst hio'
        rw [hρ'] at hl3; cases hl3
        obtain ⟨m2, hq⟩ : ∃ m2, IoRel ρ st0 p m2 := by
         have key : ∀ {ios : List (Nat × Option (Nat × Nat))} {M : List (Option Reg)}, IoRels ρ st0 ios M → p ∈ ios → ∃ m2, IoRel ρ st0 p m2 := by
          intro ios
          induction ios with
          | nil => intro M _ h; cases h
          | cons q r ih =>
           intro M h hmem
           obtain ⟨m0, M', _, h1, _, h3⟩ := h
           rcases List.mem_cons.1 hmem with rfl | hmem
           ·exact ⟨m0, h1⟩
           ·exact ih h3 hmem
         exact key hio2 hp
        obtain ⟨ob2, l4, k1, _, k3, _⟩ := hq
        rw [hl2] at k3; cases k3
        exact hm0.sep i ob p.1 ob2 l l2 y x (d0 hlook) (d0 k1) hown (Ne.symm hne) hρ hl2 hy hx e
       ·rw [List.getElem?_set_ne (Ne.symm hio')] at hi
        exact hus p (by simp [hp]) l2 x hl2 hx ⟨i, b', l3, y, hi, hl3, hy, e⟩) h'
     exact ⟨q1, q2⟩
    have stretch : ∀ (blk off b n : Nat), l.a = some (blk, off) → m = some ⟨blk, off + b, n⟩ → b + n ≤ C.length → D.length = n ∧
      ∃ cs' cs t fr pre post, w.heap[blk]? = some (.cells cs t fr) ∧ w'.heap[blk]? = some (.cells cs' t fr) ∧ cs'.toList = pre ++ (C.take b ++ D ++ C.drop (b + n)) ++ post ∧ pre.length = off ∧ cs'.size = cs.size := by
     intro blk off b n ha hmE hfit
     subst hmE
     rw [ha] at g5
     obtain ⟨cs, t, fr, pre, post, r1, r2, r3, _, _⟩ := g5
     obtain ⟨hn, cs2, t2, fr2, pre2, post2, q1, q2, q3⟩ := hh1
     rw [hDl] at hn q2
     have hlt : blk < w.heap.size := (Array.getElem?_eq_some_iff.1 r1).1
     obtain ⟨cs', p1, p2, p3⟩ := hb.part ⟨blk, off + b, n⟩ (hall _ (by simp)) hlt cs t fr r1
     have q1 : w'.heap[blk]? = some (.cells cs2 t2 fr2) := q1
     have p1 : w'.heap[blk]? = some (.cells cs' t fr) := p1
     rw [p1] at q1; cases q1
     refine ⟨hn, _, cs, t, fr, pre, post, r1, p1, ?_, r3, p2⟩
     refine c18 r2 hfit hn (fun i hi => ?_) q2 (by rw [r3]; exact q3)
     rw [Array.getElem?_toList, Array.getElem?_toList]
     exact p3 i (by simp only; omega)
    simp only [u2, hlook] at h
    cases pl with
    | some bn =>
     obtain ⟨b, n⟩ := bn
     simp only at h hcase
     obtain ⟨blk, off, ha, hmE, hfit⟩ := hcase
     rw [← g3] at hfit
     split at h
     ·rw [T.val_bind_iff] at h
      obtain ⟨l', hw, h'⟩ := h
      obtain ⟨hn, hplace⟩ := stretch blk off b n ha hmE hfit
      obtain ⟨q1, _⟩ := a2n hw (B6 hle g2) hD hn
      simp only [Option.getD_none, Nat.add_zero] at q1
      refine fin l' _ q1 (by simp; omega) ?_ h'
      rw [ha]
      exact hplace
     ·simp [T.val_fail] at h
    | none =>
     simp only at h hcase
     replace h : (u2 st0 (cur.upd o ob.own segs) r avs).val = some st2 := by
      split at h
      ·rename_i m n l' hsl
       simp only [T.val_ite, T.val_fail, and_false, or_false] at h
       rw [b6T hsl h.1] at h
       exact h.2
      ·exact h
     rcases hcase with ⟨rfl, hz⟩ | ⟨blk, off, ha, hmE, hpos⟩
     ·have hD0 : D = [] := by have := hh1; simp only [c1m] at this; rw [hDl] at this; exact this
      have hC0 : C = [] := List.eq_nil_of_length_eq_zero (by rw [g3, hz])
      refine fin segs D hD (by rw [hD0, hC0]) ?_ h
      cases ha : l.a with
      | none => exact hD0
      | some y =>
       obtain ⟨blk, off⟩ := y
       rw [ha] at g5
       obtain ⟨cs, t, fr, pre, post, r1, r2, r3, _, _⟩ := g5
       have hlt : blk < w.heap.size := (Array.getElem?_eq_some_iff.1 r1).1
       refine ⟨cs, cs, t, fr, pre, post, r1, ?_, by rw [hD0, r2, hC0], r3, rfl⟩
       rw [hb.block blk hlt fun m' hm' => hdis (o, none) (by simp) hio0 l (blk, off) m' hρ ha hm']
       exact r1
     ·obtain ⟨hn, hplace⟩ := stretch blk off 0 (l.size * l.es) ha (by rw [hmE, Nat.add_zero]) (by omega)
      refine fin segs D hD (by rw [hn, g3]) ?_ h
      rw [ha]
      rw [List.take_zero, List.nil_append, Nat.zero_add, ← g3, List.drop_length, List.append_nil] at hplace
      exact hplace
theorem a82 : ∀ {news : List Ob} {st st1 : St} {nm o : Nat}, st.newAll nm news = some st1 → st.mem[o]? = some .dead → st1.mem[o]? = some .dead
 | [], st, st1, nm, o, h, hd => by simp only [St.newAll] at h; cases h; exact hd
 | b :: r, st, st1, nm, o, h, hd => by
  simp only [St.newAll] at h
  split at h
  ·rename_i s hs
   refine a82 h ?_
   unfold St.new at hs
   split at hs
   ·rename_i hf
    cases hs
    have : nm ≠ o := by intro e; subst e; rw [hd] at hf; cases hf
    exact (List.getElem?_set_ne this).trans hd
   ·cases hs
  ·cases h
theorem b3I {ρ : Env} {n : Nat} : ∀ {l : List AV} {us ls : List Value}, F4 ρ l (us ++ ls) → ls.length = n → F4 ρ (l.take (l.length - n)) us ∧ F4 ρ (l.drop (l.length - n)) ls := by
 have len : ∀ {l : List AV} {vs : List Value}, F4 ρ l vs → l.length = vs.length := by
  intro l
  induction l with
  | nil => intro vs h; have h : vs = [] := h; subst h; rfl
  | cons a r ih => intro vs h; obtain ⟨v, vs', rfl, _, h3⟩ := h; simp [ih h3]
 intro l us
 induction us generalizing l with
 | nil =>
  intro ls h hn
  have hl := len h
  simp only [List.nil_append] at h hl
  rw [show l.length - n = 0 by omega]
  exact ⟨rfl, h⟩
 | cons u us ih =>
  intro ls h hn
  cases l with
  | nil => have h : _ = [] := h; simp at h
  | cons a r =>
   have hl := len h
   obtain ⟨v, vs', e, h2, h3⟩ := h
   simp only [List.cons_append, List.cons.injEq] at e
   obtain ⟨rfl, rfl⟩ := e
   obtain ⟨q1, q2⟩ := ih h3 hn
   simp only [List.length_cons, List.length_append, List.cons_append] at hl
   rw [show (a :: r).length - n = (r.length - n) + 1 by simp; omega]
   exact ⟨⟨u, us, rfl, h2, q1⟩, q2⟩
theorem a7d {w : World} : ∀ {M : List (Option Reg)} {ls : List Value}, a1N w M ls → ls.length = M.length
 | [], _, h => by have h : _ = [] := h; subst h; rfl
 | _ :: M, _, ⟨u, us, e, _, h⟩ => by subst e; simp [a7d h]
theorem IoRels.len : ∀ {ios : List (Nat × Option (Nat × Nat))} {M : List (Option Reg)}, IoRels ρ st ios M → ios.length = M.length
 | [], _, h => by have h : _ = [] := h; subst h; rfl
 | _ :: r, _, ⟨_, _, e, _, _, h⟩ => by subst e; simp [IoRels.len h]
theorem b6f {α : Type} (l : List α) (n : Nat) : b1o l n = l.take (l.length - n) := by cases n <;> simp [b1o]
theorem b65 {α : Type} (l : List α) (n : Nat) : b2r l n = l.drop (l.length - n) := by cases n <;> simp [b2r]
theorem b00 : ∀ {r : List Ob} {s s' : St} {nm : Nat}, s.newAll nm r = some s' → s'.dfr = s.dfr
 | [], s, s', nm, h => by simp only [St.newAll] at h; cases h; rfl
 | b :: r, s, s', nm, h => by
  simp only [St.newAll] at h
  split at h
  ·rename_i s1 h1
   rw [b00 h]
   unfold St.new at h1
   split at h1
   ·cases h1; rfl
   ·cases h1
  ·cases h
theorem a8Y : ∀ {ios : List (Nat × Option (Nat × Nat))} {s : St}, (s.killAll ios).dfr = s.dfr
 | [], _ => rfl
 | p :: r, s => by simp only [St.killAll]; rw [a8Y]; rfl
theorem a2e {st0 : St} : ∀ {ios : List (Nat × Option (Nat × Nat))} {avs : List AV} {cur s2 : St}, (u2 st0 cur ios avs).val = some s2 → s2.dfr = cur.dfr
 | [], [], cur, s2, h => by simp only [u2, T.val_ret] at h; rw [← h]
 | [], _ :: _, cur, s2, h => by simp [u2, T.val_fail] at h
 | (o, pl) :: r, [], cur, s2, h => by simp [u2, T.val_fail] at h
 | (o, pl) :: r, v :: avs, cur, s2, h => by
  cases v with
  | any => simp [u2, T.val_fail] at h
  | sc y => simp [u2, T.val_fail] at h
  | agg l =>
   simp only [u2] at h
   split at h
   ·split at h
    ·split at h
     ·simp only [T.val_ite, T.val_fail, and_false, or_false] at h
      rw [a2e h.2]; rfl
     ·rw [a2e h]; rfl
    ·split at h
     ·rw [T.val_bind_iff] at h
      obtain ⟨l', _, h⟩ := h
      rw [a2e h]; rfl
     ·simp [T.val_fail] at h
   ·simp [T.val_fail] at h
theorem a1J {o : Oper} {nm : Nat} {f : FuncId} {targs : List TV} {vs : List Value} (hr : Rel ρ B w0 st a w) (hl : targs.length = vs.length) (hrel : ∀ (i : Nat) (v : TV) (u : Value), targs[i]? = some v → vs[i]? = some u → TV.rel ρ v u)
  (hexec : ∀ fn, P.funcs[f]? = some fn → fn.body.isSome = true → (fn.name == "runtime.NumGoroutine") = false → (execOp a.eval o).run P w = .ok (.enter f vs.toArray) w) :
  ∀ {ss : List Sig}, (∀ s ∈ ss, i0 P f s ∧ i7 P f) → (a2T st nm o.dst targs ss).val = some st' → b92 P ρ B w0 st' o a w
 | [], _, h => by simp [a2T, T.val_fail] at h
 | s :: ss, hss, h => by
  simp only [a2T] at h
  obtain ⟨hsig, fn, hf, hb, hn⟩ := hss s (by simp)
  split at h
  ·unfold b4c at h
   split at h
   ·rename_i ios hios
    split at h
    ·rename_i x hx
     simp only [T.val_opt] at h
     obtain ⟨r, hg, h⟩ := h
     have hmk := a8Z (ios := ios) hr.m
     have hargs := a4K hr.m hmk hx hl hrel
     have hio := a6F hr.m hios hx hl hrel
     obtain ⟨ap1, ap2, ap3⟩ := hio.apart hr.m
     have hc := hsig (vw ρ (st.killAll ios).mem w).ok ρ.kl x _ w (fun b hb => .inr hb.1) hargs ⟨fun m hm hok => by
      rcases hok with ⟨o', b', l', y, e1, e2, e3, e4⟩ | hok
      ·exact ap1 m hm o' b' l' y e1 e2 e3 e4.symm
      ·exact hok (ap2 m hm), ap3⟩ r hg
     split at h
     ·rename_i st1 h1
      rw [T.val_bind_iff] at h
      obtain ⟨st2, hput, h⟩ := h
      rw [T.val_ret] at h
      subst h
      intro K Q hK
      unfold Oper.wp
      rw [hexec fn hf hb hn]
      refine hc.mono ?_
      rintro e w' ⟨us, ls, bs, rfl, hmake, hholds, hbelow⟩
      have hm := hmk.grow (hio.inside hr.m) (fun o' b' l' y m e1 e2 e3 hmM => ap1 m hmM o' b' l' y e1 e2 e3) (hio.cells hr.m) hbelow
      have hlt : ∀ b ∈ bs, w.heap.size ≤ b := c1q _ _ _ _ hmake
      have hfresh : ∀ b ∈ bs, ¬ a6e ρ (st.killAll ios).mem b := by
       rintro b hbm ⟨ob, obj, l, y, e1, e2, e3, e4⟩
       have := hmk.lt e1 e2 e3
       have := hlt b hbm
       omega
      obtain ⟨ρ', q1, q2, q3, q4, q5, q6⟩ := a7h hr.m.size hmake (fun b hb => hb) hm hfresh (fun b hb => hr.m.fzNew (hlt b hb)) h1
      have hlen : ls.length = ios.length := by rw [a7d hholds, hio.len]
      obtain ⟨s1, s2⟩ := b3I q3 hlen
      rw [b65] at hput
      have hlive : ∀ p ∈ ios, ∃ ob l, st.look p.1 = some ob ∧ ob.own ≠ .ro ∧ ρ p.1 = some l := by
       have key : ∀ {ios : List (Nat × Option (Nat × Nat))} {M : List (Option Reg)}, IoRels ρ st ios M → ∀ p ∈ ios, ∃ ob l, st.look p.1 = some ob ∧ ob.own ≠ .ro ∧ ρ p.1 = some l := by
        intro ios
        induction ios with
        | nil => intro M _ p h; cases h
        | cons q r ih =>
         intro M h p hp
         obtain ⟨m0, M', _, g1, _, g3⟩ := h
         rcases List.mem_cons.1 hp with rfl | hp
         ·obtain ⟨ob, l, k1, k2, k3, _⟩ := g1; exact ⟨ob, l, k1, k2, k3⟩
         ·exact ih g3 p hp
       exact key hio
      obtain ⟨t1, t2⟩ := a7k hr.m hbelow q1 (fun b c e => (q6 b c e).imp id (hlt b)) hio (fun m hm => hm) (fun p hp hnone l y m hl' hy hmM e => by
        obtain ⟨q, hq, hqr⟩ := hio.mem hmM
        obtain ⟨ob, l2, off, k1, k2, k3, k4, _, _⟩ := hqr.at
        by_cases hpq : q.1 = p.1
        ·obtain ⟨ob0, l0, c1, c2, c3, c4⟩ := hnone
         obtain ⟨ob3, l3, d1, d2, d3, d4⟩ := hqr
         have hpeq : q = p := by
          have key : ∀ {ios : List (Nat × Option (Nat × Nat))} {M : List (Option Reg)}, IoRels ρ st ios M → q ∈ ios → p ∈ ios → q.1 = p.1 → q = p := by
           intro ios
           induction ios with
           | nil => intro M _ h; cases h
           | cons x r ih =>
            intro M h hq1 hp1 e
            obtain ⟨m0, M', _, _, g2, g3⟩ := h
            rcases List.mem_cons.1 hq1 with hq2 | hq2
            ·rcases List.mem_cons.1 hp1 with hp2 | hp2
             ·rw [hq2, hp2]
             ·exact absurd (by rw [← hq2, e]) (g2 p hp2)
            ·rcases List.mem_cons.1 hp1 with hp2 | hp2
             ·exact absurd (by rw [← hp2, e]) (g2 q hq2)
             ·exact ih g3 hq2 hp2 e
          exact key hio hq hp hpq
         subst hpeq
         rw [c3] at d3; cases d3
         split at c4
         ·obtain ⟨_, _, _, c5, _⟩ := c4; cases c5
         ·rename_i hp2
          rw [hp2] at d4
          rcases c4 with ⟨_, c5⟩ | ⟨_, _, _, c5, _⟩
          ·rcases d4 with ⟨d5, _⟩ | ⟨_, _, _, _, d5⟩
           ·cases d5
           ·omega
          ·cases c5
        ·obtain ⟨ob0, l0, c1, c2, c3, c4⟩ := hnone
         rw [hl'] at c3; cases c3
         exact hr.m.sep q.1 ob p.1 ob0 l2 l _ y (d0 k1) (d0 c1) k2 hpq k3 hl' k4 hy e) s2 hholds q2
       (fun p hp => by
        obtain ⟨ob, l, k1, _, _⟩ := hlive p hp
        exact a82 h1 (b2U hp (List.getElem?_eq_some_iff.1 (d0 k1)).1))
       (fun p hp l y hl' hy hu => by
        obtain ⟨ob, l2, k1, k2, k3⟩ := hlive p hp
        rw [hl'] at k3; cases k3
        rcases q5 _ hu with ⟨o', b', l', y', e1, e2, e3, e4⟩ | hu
        ·obtain ⟨f1, f2⟩ := a29 e1
         exact hr.m.sep p.1 ob o' b' l l' y y' (d0 k1) f1 k2 (f2 p hp) hl' e2 hy e3 e4.symm
        ·have := hr.m.lt (d0 k1) hl' hy
         have := hlt _ hu
         omega) hput
      have htm : st2.tmps = st.tmps := t2.trans (q4.trans (a3a ios st))
      have hr1 : Rel ρ' B w0 st2 a w' := ⟨by rw [htm]; exact hr.len, fun i v h => by rw [htm] at h; exact TV.rel_le q1 (hr.tm i v h), t1, by rw [a2e hput, b00 h1, a8Y]; exact a2U q1 hr.defers⟩
      refine hK _ w' ρ' q1 (hr1.put o.dst ?_)
      rw [b6f]
      exact b2f s1
     ·simp [T.val_fail] at h
    ·simp [T.val_fail] at h
   ·simp [T.val_fail] at h
  ·exact a1J hr hl hrel hexec (fun s hs => hss s (by simp [hs])) h
theorem b6X {E : AE} (hE : E.Ok P) {nm : Nat} {o : Oper} {f : FuncId} {args : Array Operand} {ats : Array TypeId} (ho : o.op = .call { callee := .value (.func f), args, argTypes := ats }) (hr : Rel ρ B w0 st a w) (h : (j8 E nm o st).val = some st') : b92 P ρ B w0 st' o a w := by
 simp only [j8, ho] at h
 have hexec : ∀ fn, P.funcs[f]? = some fn → fn.body.isSome = true → (fn.name == "runtime.NumGoroutine") = false → (execOp a.eval o).run P w = .ok (.enter f (args.toList.map a.eval).toArray) w := by
  intro fn hf hb hn
  have hb' : fn.body ≠ none := by intro hnb; rw [hnb] at hb; cases hb
  have hn' : fn.name ≠ "runtime.NumGoroutine" := by simpa using hn
  have hm : (args.toList.map a.eval).toArray = args.map a.eval := by
   apply Array.ext'; simp
  rw [hm]
  simp [execOp, ho, resolve, Deferred.ofValue, Act.eval, invoke, callFunc, program, Sem.run, hf, hn', hb']
 have std : (a2T st nm o.dst (args.toList.map st.get) (E.fn f)).val = some st' → b92 P ρ B w0 st' o a w := fun h =>
  a1J (f := f) (vs := args.toList.map a.eval) hr (by simp) (Z0 hr args.toList) hexec (hE.fn f) h
 unfold b6g at h
 split at h
 ·exact std h
 ·rename_i j m L hrt
  split at h
  ·rename_i v hv hL
   split at h
   ·rename_i n hn
    rw [T.val_ite] at h
    rcases h with ⟨hlt, h⟩ | ⟨_, h⟩
    ·rw [T.val_ret] at h
     subst h
     obtain ⟨h1, fn, hf, hb, hnm⟩ := hE.rt f _ hrt
     have h1 : RtOk P f j m L := h1
     intro K Q hK
     unfold Oper.wp
     rw [hexec fn hf hb hnm]
     refine h1 ρ B w0 st.mem w _ _ _ v n (i5 hL) (by simp) (Z0 hr args.toList) hr.m hv hn hlt fun ρ' w' u hle hm' hu => ?_
     exact hK _ w' ρ' hle ((hr.le hle hm').put o.dst hu)
    ·exact std h
   ·simp [T.val_fail] at h
  ·simp [T.val_fail] at h
 ·rename_i j i L hrt
  split at h
  ·rename_i v n hv hi hL
   rw [T.val_ite] at h
   rcases h with ⟨rfl, h⟩ | ⟨_, h⟩
   ·rw [T.val_ret] at h
    subst h
    obtain ⟨h1, fn, hf, hb, hnm⟩ := hE.rt f _ hrt
    have h1 : ReOk P f j i L := h1
    intro K Q hK
    unfold Oper.wp
    rw [hexec fn hf hb hnm]
    refine h1 ρ B w0 st.mem w _ _ _ v (i5 hL) (by simp) (Z0 hr args.toList) hr.m hv hi fun ρ' w' u hle hm' hu => ?_
    exact hK _ w' ρ' hle ((hr.le hle hm').put o.dst (v := .one v) hu)
   ·simp [T.val_fail] at h
  ·simp [T.val_fail] at h
theorem b7w {tv : TV} {f : FuncId} {cap : List TV} (h : c1O tv = some (f, cap)) {v : Value} (hv : TV.rel ρ tv v) : ∃ vs : List Value, v = .func (.func f) #[] vs.toArray ∧ cap.length = vs.length ∧ ∀ (i : Nat) (x : TV) (u : Value), cap[i]? = some x → vs[i]? = some u → TV.rel ρ x u := by
 unfold c1O at h
 split at h
 ·cases h
  exact ⟨[], hv, rfl, fun i x u h => by simp at h⟩
 ·rename_i o b
  cases h
  obtain ⟨l, blk, g, h1, h2, rfl⟩ := hv
  refine ⟨[.pointer (some ⟨blk, g + b, none⟩)], rfl, rfl, fun i x u e1 e2 => ?_⟩
  cases i with
  | zero => cases e1; cases e2; exact ⟨l, blk, g, h1, h2, rfl⟩
  | succ i => simp at e1
 ·cases h
theorem b44 {E : AE} (hE : E.Ok P) {nm : Nat} {o : Oper} {t : Tmp} {args : Array Operand} {ats : Array TypeId} (ho : o.op = .call { callee := .value (.tmp t), args, argTypes := ats }) (hr : Rel ρ B w0 st a w) (h : (j8 E nm o st).val = some st') : b92 P ρ B w0 st' o a w := by
 simp only [j8, ho] at h
 split at h
 ·rename_i f cap hfn
  obtain ⟨cvs, hv, hcl, hcr⟩ := b7w hfn (hr.get (.tmp t))
  refine a1J (f := f) (vs := args.toList.map a.eval ++ cvs) hr (by simp [hcl]) (fun i v u e1 e2 => ?_) (fun fn hf hb hn => ?_) (hE.fn f) h
  ·by_cases hi : i < args.toList.length
   ·rw [List.getElem?_append_left (by simpa using hi)] at e1 e2
    exact Z0 hr args.toList i v u e1 e2
   ·rw [List.getElem?_append_right (by simpa using hi)] at e1 e2
    rw [List.length_map] at e1 e2
    exact hcr _ v u e1 e2
  ·have hb' : fn.body ≠ none := by intro hnb; rw [hnb] at hb; cases hb
   have hn' : fn.name ≠ "runtime.NumGoroutine" := by simpa using hn
   have hm : (args.toList.map a.eval ++ cvs).toArray = args.map a.eval ++ cvs.toArray := by
    apply Array.ext'; simp
   rw [hm]
   simp [execOp, ho, resolve, hv, Deferred.ofValue, invoke, callFunc, program, Sem.run, hf, hn', hb']
 ·simp [T.val_fail] at h
theorem a4v {E : AE} {nm : Nat} {o : Oper} {f : FuncId} {first captured : Array Operand} (ho : o.op = .makeFunc (.func f) first captured) (hr : Rel ρ B w0 st a w) (h : (j8 E nm o st).val = some st') : FitsV P ρ B w0 st' o a w := by
 simp only [j8, ho] at h
 unfold a3d at h
 split at h
 ·rename_i e1 e2
  rw [T.val_ret] at h
  subst h
  refine ⟨.func (.func f) #[] #[], w, ρ, ?_, .refl ρ, hr.putA o.dst rfl⟩
  have h1 : first = #[] := by rw [← Array.toArray_toList (xs := first), e1]
  have h2 : captured = #[] := by rw [← Array.toArray_toList (xs := captured), e2]
  simp [execOp, ho, h1, h2, Instr.makeFunc]
 ·rename_i x e1 e2
  have hx := hr.get x
  split at h
  ·rename_i ob b e
   rw [e] at hx
   rw [T.val_ret] at h
   subst h
   obtain ⟨l, blk, g, k1, k2, k3⟩ := hx
   refine ⟨.func (.func f) #[] #[.pointer (some ⟨blk, g + b, none⟩)], w, ρ, ?_, .refl ρ, hr.putA o.dst ⟨l, blk, g, k1, k2, rfl⟩⟩
   have h1 : first = #[] := by rw [← Array.toArray_toList (xs := first), e1]
   have h2 : captured = #[x] := by rw [← Array.toArray_toList (xs := captured), e2]
   simp [execOp, ho, h1, h2, k3, Instr.makeFunc]
  ·simp [T.val_fail] at h
 ·rename_i x y e1 e2
  have hx := hr.get x
  have hy := hr.get y
  split at h
  ·rename_i ob b ob2 b2 e e'
   rw [e] at hx
   rw [e'] at hy
   rw [T.val_ret] at h
   subst h
   obtain ⟨l, blk, g, k1, k2, k3⟩ := hx
   obtain ⟨l2, blk2, g2, j1, j2, j3⟩ := hy
   refine ⟨.func (.func f) #[] #[.pointer (some ⟨blk, g + b, none⟩), .pointer (some ⟨blk2, g2 + b2, none⟩)], w, ρ, ?_, .refl ρ, hr.putA o.dst ⟨l, blk, g, l2, blk2, g2, k1, k2, j1, j2, rfl⟩⟩
   have h1 : first = #[] := by rw [← Array.toArray_toList (xs := first), e1]
   have h2 : captured = #[x, y] := by rw [← Array.toArray_toList (xs := captured), e2]
   simp only [Option.getD_none, Nat.add_zero] at k3 j3
   simp [execOp, ho, h1, h2, k3, j3, Instr.makeFunc]
  ·simp [T.val_fail] at h
 ·simp [T.val_fail] at h
theorem b6m {x : TV} {o off len : Nat} (h : c0l x = some (o, off, len)) {v : Value} (hv : TV.rel ρ x v) :
  ∃ l ad cap, ρ o = some l ∧ v = .slice ad len cap ∧ off + len ≤ l.size * l.es ∧ (0 < len → ∃ b f, l.a = some (b, f) ∧ ad = some ⟨b, f + off, none⟩) := by
 unfold c0l at h
 split at h
 ·split at h
  ·rename_i hes
   have hes := i5 hes
   cases h
   obtain ⟨l, k1, k2, k2', k3, k4, k5, k6⟩ := hv
   refine ⟨l, l.adr, l.cap, k1, by rw [k3, k2], by rw [k2', hes, k2]; omega, fun hpos => ?_⟩
   cases ha : l.a with
   | none => have := k5 ha; omega
   | some p =>
    have had := k6 (by omega)
    simp only [Loc.addr, ha, Option.map_some] at had
    exact ⟨p.1, p.2, rfl, by rw [had]; rfl⟩
  ·cases h
 ·split at h
  ·rename_i hes
   have hes := i5 hes
   cases h
   obtain ⟨l, a0, c, k1, k2, k3, k4, k5, k6⟩ := hv
   exact ⟨l, a0, c, k1, k2, by rw [hes] at k5; omega, k6⟩
  ·cases h
 ·cases h
theorem b6Y {E : AE} (hE : ∀ t i, E.ty t = some i → TyOk P t i) {nm : Nat} {o : Oper} {args : Array Operand} {ats : Array TypeId} (ho : o.op = .call { callee := .builtin .copy, args, argTypes := ats }) (hr : Rel ρ B w0 st a w) (h : (j8 E nm o st).val = some st') : FitsV P ρ B w0 st' o a w := by
 simp only [j8, ho] at h
 split at h
 ·rename_i t ts x y e1 e2
  have hx := hr.get x
  have hy := hr.get y
  have hargs : args.map a.eval = #[a.eval x, a.eval y] := by rw [← Array.toArray_toList (xs := args), e2]; simp
  have hats : ats[0]? = some t := by rw [← Array.getElem?_toList, e1]; rfl
  have hexec : ∀ {v : Value} {w' : World}, (Builtin.copy_ ats o.type #[a.eval x, a.eval y]).run P w = .ok v w' → (execOp a.eval o).run P w = .ok (.value v) w' := by
   intro v w' hv
   rw [Z5 ho, hargs]
   simp [builtin, hv]
  unfold b80 at h
  split at h
  ·rename_i e _ _ _ ht
   obtain ⟨d, hd, hdd⟩ := (hE t _ ht).desc
   simp only [TD.is] at hdd
   subst hdd
   split at h
   ·rename_i o' off len b hsz hdst hsrc
    rw [Option.map_eq_some_iff] at hsz
    obtain ⟨te, hte, hte1⟩ := hsz
    have hrs := (hE e te hte).run_size w
    rw [hte1] at hrs
    have hyb : A1.rel ρ b (a.eval y) := by
     unfold c1H at hsrc
     split at hsrc
     ·rename_i b' eb; cases hsrc; rw [eb] at hy; exact hy
     ·cases hsrc
    split at h
    ·rename_i k n zs md hlook
     split at h
     ·rename_i ys hown hys
      have hown : md ≠ .ro := by simpa using hown
      rw [T.val_ret] at h
      subst h
      obtain ⟨l, ad, cap, k1, k2, k3, k4⟩ := b6m hdst hx
      obtain ⟨ad2, c2, s1, s2, s3⟩ := A6 hr.m hys hyb
      generalize hm : min ys.length len = m
      have hmy : m ≤ ys.length := by omega
      have hml : m ≤ len := by omega
      have hread : (Builtin.firstCells 1 m (a.eval y)).run P w = .ok ((ys.take m).map k.val).toArray w := by
       rw [s1]
       by_cases hm0 : m = 0
       ·subst hm0
        cases ad2 <;> simp [Builtin.firstCells, loadCells, loadCellsFrom]
       ·obtain ⟨blk, cs, t', fr, pre, post, rfl, _, r1, r2⟩ := s3 (by simp; omega)
        refine z9 (by simp; omega) fun j u hu => ?_
        have hj : j < m := by
         have := (List.getElem?_eq_some_iff.1 hu).1
         simp at this; omega
        rw [List.getElem?_map, List.getElem?_take, if_pos hj, ← List.getElem?_map] at hu
        exact b1p r1 r2 j u hu
      have hlenOf : (Builtin.lenOf (a.eval y)).run P w = .ok ys.length w := by rw [s1]; simp [Builtin.lenOf]
      have hrun0 : ∀ {w' : World}, (match ad with
        | some a' => storeCells a' ((ys.take m).map k.val)
        | none => pure ()).run P w = .ok () w' → (Builtin.copy_ ats o.type #[a.eval x, a.eval y]).run P w = .ok (goInt m) w' := by
       intro w' hst
       have hmm : Nat.min ys.length len = m := hm
       rw [s1] at hread hlenOf
       simp only [Builtin.copy_, hats, k2, s1, List.getElem?_toArray, List.getElem?_cons_zero, List.getElem?_cons_succ, Sem.run_bind, run_underlying hd, Result.andThen_ok, hlenOf, hmm, hrs, hread]
       cases ad with
       | none => simp only at hst ⊢; cases hst; rfl
       | some ad => simp only [List.map_take] at hst ⊢; simp [hst]
      by_cases hm0 : m = 0
      ·subst hm0
       refine ⟨goInt 0, w, ρ, hexec (hrun0 ?_), .refl ρ, ?_⟩
       ·cases ad <;> simp [storeCells]
       ·have hsame : st.upd o' md [.xs k n (zs.take off ++ ys.take 0 ++ zs.drop (off + 0))] = st := by
         have : zs.take off ++ ys.take 0 ++ zs.drop (off + 0) = zs := by simp
         rw [this]
         unfold St.upd
         have hset : st.mem.set o' (.live { segs := [.xs k n zs], own := md }) = st.mem := by
          apply List.ext_getElem?
          intro i
          rw [List.getElem?_set]
          split
          ·rename_i he
           subst he
           have := d0 hlook
           rw [if_pos (List.getElem?_eq_some_iff.1 this).1, this]
          ·rfl
         rw [hset]
        rw [hsame]
        exact hr.putA o.dst rfl
      ·obtain ⟨blk, f, q1, q2⟩ := k4 (by omega)
       subst q2
       obtain ⟨cs, te', fr, pre, post, C, g1, g2, g3, g4, g5, g6, g7, g8⟩ := hr.row hlook k1 q1
       obtain ⟨z1, C', rfl, z2⟩ := g4
       have z2 : C' = [] := z2
       subst z2
       rw [List.append_nil] at g2 g5
       have k3' := g8 hown
       have hzl : off + m ≤ zs.length := by have := g5; simp at this; omega
       have hsz : cs.size = (pre ++ zs.map k.val ++ post).length := by rw [← g2]; simp
       have hst := C5 (P := P) blk (f + off) te' fr ((ys.take m).map k.val) 0 cs w g1 (by rw [hsz]; simp; omega) k3' (fun v hv => by
        obtain ⟨z, _, rfl⟩ := List.mem_map.1 hv
        exact k.val_one z)
       refine ⟨goInt m, _, ρ, hexec (hrun0 hst), .refl ρ, ?_⟩
       have hseg : i2 ρ [.xs k n (zs.take off ++ ys.take m ++ zs.drop (off + m))] ((zs.map k.val).take off ++ (ys.take m).map k.val ++ (zs.map k.val).drop (off + m)) :=
        ⟨by simp; omega, [], by simp, rfl⟩
       have hw := hr.m.write (d0 hlook) hown k1 q1 g1 (C0 := zs.map k.val) hseg (by simp at g5 ⊢; omega) (by simp; omega) g3 g2 (post := post) (cs' := (List.take (f + off + 0) cs.toList ++ (ys.take m).map k.val ++ List.drop (f + off + 0 + ((ys.take m).map k.val).length) cs.toList).toArray) (by
        have hl' : ((ys.take m).map k.val).length = m := by simp; omega
        simp only [Nat.add_zero, g2, hl']
        rw [← g3]
        exact a66 (by simp; omega))
       have hr1 : Rel ρ B w0 (st.upd o' md [.xs k n (zs.take off ++ ys.take m ++ zs.drop (off + m))]) a _ := ⟨hr.len, hr.tm, hw, hr.defers⟩
       exact hr1.putA o.dst rfl
     ·simp [T.val_fail] at h
    ·simp [T.val_fail] at h
   ·simp [T.val_fail] at h
  ·simp [T.val_fail] at h
 ·simp [T.val_fail] at h
theorem a3W {E : AE} (hE : E.Ok P) {nm : Nat} {o : Oper} (hr : Rel ρ B w0 st a w) (h : (j8 E nm o st).val = some st') : b92 P ρ B w0 st' o a w := by
 cases ho : o.op with
 | move x => exact (b1g (.inl ho) hr h).fits
 | assign x => exact (b1g (.inr ho) hr h).fits
 | pick c x y => exact (b60 ho hr h).fits
 | alloc t => exact (b41 hE.ty ho hr h).fits
 | box t x => exact (b8l ho hr h).fits
 | build t ps => exact (b43 hE.ty ho hr h).fits
 | buildSlice t n ps => exact (a8c hE.ty ho hr h).fits
 | load t x => exact (b6Z hE.ty ho hr h).fits
 | store t p x =>
  obtain ⟨w', ρ', h1, h2, h3⟩ := b49 hE.ty ho hr h
  exact fun K Q hK => wp_skip h1 (hK _ w' ρ' h2 h3)
 | nilCheck x => exact (b0N ho hr h).fits
 | binOp op t x y yt => exact (b42 hE.ty hE.eqs hE.ifc ho hr h).fits
 | unOp op t x => exact (b61 ho hr h).fits
 | convert s t x => exact (b2m hE.ty ho hr h).fits
 | sliceToArrayPointer t x => exact (b31 hE.ty ho hr h).fits
 | makeInterface t x => exact (b2o hE.ty ho hr h).fits
 | typeAssert x xt t ok => exact (a8f hE.ty hE.imp ho hr h).fits
 | makeSlice t x y => exact (a9T hE.ty ho hr h).fits
 | slice t x lo hi mx =>
  cases mx with
  | none => exact (b47 hE.ty ho hr h).fits
  | some m => simp [j8, ho, T.val_fail] at h
 | fieldAddr t x f => exact (a9R hE.ty ho hr h).fits
 | field t x f => exact (b45 hE.ty ho hr h).fits
 | indexAddr t x ix => exact (a9S hE.ty ho hr h).fits
 | index t x ix => exact (b46 hE.ty ho hr h).fits
 | extract x j => exact (b2n ho hr h).fits
 | makeFunc fv first captured =>
  cases fv with
  | func f => exact (a4v ho hr h).fits
  | _ => simp [j8, ho, T.val_fail] at h
 | call c =>
  obtain ⟨callee, args, ats⟩ := c
  cases callee with
  | value f =>
   cases f with
   | func f => exact b6X hE ho hr h
   | tmp t => exact b44 hE ho hr h
   | _ => simp [j8, ho, T.val_fail] at h
  | invoke r m => simp [j8, ho, T.val_fail] at h
  | builtin b =>
   cases b with
   | len => exact (b8m hE.ty ho hr h).fits
   | append => exact (b30 hE.ty ho hr h).fits
   | copy => exact (b6Y hE.ty ho hr h).fits
   | max => exact (a7v (mx := true) rfl ho hr h).fits
   | min => exact (a7v (mx := false) rfl ho hr h).fits
   | _ => simp [j8, ho, T.val_fail] at h
 | _ => simp [j8, ho, T.val_fail] at h
end
end Go.Ax
namespace Go.Ax
open Go.RowKit
variable {P : Program}
def Moves (st st2 : St) (nm : Nat) (dst : Option Tmp) (t1 t2 : T St) : Prop :=
 ∀ s1, t1.val = some s1 → ∃ v news st1, st.newAll nm news = some st1 ∧ s1 = st1.put dst v ∧ ∀ st1', st2.newAll nm news = some st1' → t2.val = some (st1'.put dst v)
section
variable {st st2 : St} {nm : Nat} {dst : Option Tmp}
theorem Moves.ret (v : TV) : Moves st st2 nm dst (.ret (st.put dst v)) (.ret (st2.put dst v)) := by
 intro s1 h
 rw [T.val_ret] at h
 subst h
 exact ⟨v, [], st, rfl, rfl, fun s hs => by cases hs; rw [T.val_ret]⟩
theorem Moves.retA (v : A1) : Moves st st2 nm dst (.ret (st.putA dst v)) (.ret (st2.putA dst v)) := Moves.ret _
theorem Moves.fail (t : T St) : Moves st st2 nm dst .fail t := by
 intro s1 h
 simp [T.val_fail] at h
theorem Moves.ite {p : Prop} {d : Decidable p} {A A' B B' : T St} (h1 : Moves st st2 nm dst A A') (h2 : Moves st st2 nm dst B B') : Moves st st2 nm dst (.ite p d A B) (.ite p d A' B') := by
 intro s1 h
 rw [T.val_ite] at h
 rcases h with ⟨hp, h⟩ | ⟨hp, h⟩
 ·obtain ⟨v, news, st1, a1, a2, a3⟩ := h1 s1 h
  exact ⟨v, news, st1, a1, a2, fun s hs => by rw [T.val_ite]; exact .inl ⟨hp, a3 s hs⟩⟩
 ·obtain ⟨v, news, st1, a1, a2, a3⟩ := h2 s1 h
  exact ⟨v, news, st1, a1, a2, fun s hs => by rw [T.val_ite]; exact .inr ⟨hp, a3 s hs⟩⟩
theorem Moves.bind {α : Type} (X : T α) {f g : α → T St} (h : ∀ a, Moves st st2 nm dst (f a) (g a)) : Moves st st2 nm dst (X.bind f) (X.bind g) := by
 intro s1 h1
 rw [T.val_bind_iff] at h1
 obtain ⟨x, hx, h1⟩ := h1
 obtain ⟨v, news, st1, a1, a2, a3⟩ := h x s1 h1
 exact ⟨v, news, st1, a1, a2, fun s hs => by rw [T.val_bind_iff]; exact ⟨x, hx, a3 s hs⟩⟩
theorem Moves.newPtr (l : List Seg) : Moves st st2 nm dst (newPtr st nm dst l) (newPtr st2 nm dst l) := by
 intro s1 h
 unfold Ax.newPtr at h
 split at h
 ·rename_i s hs
  rw [T.val_ret] at h
  subst h
  refine ⟨_, [{ segs := l, own := .own }], s, by simp [St.newAll, hs], rfl, fun s' hs' => ?_⟩
  simp only [St.newAll] at hs'
  unfold Ax.newPtr
  split at hs'
  ·rename_i s2 h2
   cases hs'
   exact (T.val_ret _ _).2 rfl
  ·cases hs'
 ·simp [T.val_fail] at h
theorem Moves.newVec (l : List Seg) (len es : Nat) : Moves st st2 nm dst (newVec st nm dst l len es) (newVec st2 nm dst l len es) := by
 intro s1 h
 unfold Ax.newVec at h
 split at h
 ·rename_i s hs
  rw [T.val_ret] at h
  subst h
  refine ⟨_, [{ segs := l, own := .own }], s, by simp [St.newAll, hs], rfl, fun s' hs' => ?_⟩
  simp only [St.newAll] at hs'
  unfold Ax.newVec
  split at hs'
  ·rename_i s2 h2
   cases hs'
   exact (T.val_ret _ _).2 rfl
  ·cases hs'
 ·simp [T.val_fail] at h
theorem Moves.bound (x : Option Operand) (hx : ∀ y, x = some y → st2.get y = st.get y) (d most : Nat) {K K' : Nat → T St} (h : ∀ n, Moves st st2 nm dst (K n) (K' n)) : Moves st st2 nm dst (A3 st x d most K) (A3 st2 x d most K') := by
 unfold A3
 cases x with
 | none => exact h d
 | some y =>
  simp only [hx y rfl]
  repeat' first | exact Moves.fail _ | exact h _ | refine Moves.ite ?_ ?_ | split
end
section
variable {ρ : Env} {B : Nat} {w0 : Base} {st st2 : St} {a : Act} {w : World} {nm : Nat} {o : Oper} {Kn : Nat → Prop}
def A1.kn (Kn : Nat → Prop) (x : A1) : Prop := ∀ o, x.name? = some o → Kn o
def TV.kn (Kn : Nat → Prop) : TV → Prop
 | .one (.sc x) => x.kn Kn
 | .one (.agg l) => ∀ x, Seg.one x ∈ l → x.kn Kn
 | _ => True
structure Agree (Kn : Nat → Prop) (st st2 : St) : Prop where
 look : ∀ o b, Kn o → st.look o = some b → st2.look o = some b
 segs : ∀ o b, Kn o → st2.look o = some b → ∀ x, Seg.one x ∈ b.segs → x.kn Kn
theorem J1 (hag : Agree Kn st st2) {k : CK} {x : A1} (h : x.kn Kn) {zs : List Int} (hz : x6 k st x = some zs) : x6 k st2 x = some zs := by
 cases x with
 | vec o len es =>
  simp only [x6] at hz ⊢
  split at hz
  ·rename_i he
   split at hz
   ·rename_i b hb
    rw [hag.look o b (h o rfl) hb]
    exact hz
   ·cases hz
  ·cases hz
 | sl o off len cap es =>
  simp only [x6] at hz ⊢
  split at hz
  ·rename_i b he hb
   rw [hag.look o b (h o rfl) hb, he]
   exact hz
  ·cases hz
 | fr d => cases d <;> exact hz
 | _ => exact hz
theorem a57 (hag : Agree Kn st st2) {k : CK} : ∀ {l : List Seg} {zs : List (List Int)}, (∀ x, Seg.one x ∈ l → x.kn Kn) → I1 k st l = some zs → I1 k st2 l = some zs
 | [], _, _, h => h
 | .one x :: r, zs, hk, h => by
  simp only [I1] at h ⊢
  split at h
  ·rename_i y ys e1 e2
   rw [J1 hag (hk x (by simp)) e1, a57 hag (fun y hy => hk y (by simp [hy])) e2]
   exact h
  ·cases h
 | .xs _ _ _ :: _, _, _, h => by simp [I1] at h
 | .rw _ _ :: _, _, _, h => by simp [I1] at h
theorem b6U {l : List Seg} {b m : Nat} {x : A1} (h : a4u l b m = some [.one x]) : Seg.one x ∈ l := by
 have drop : ∀ {l : List Seg} {m : Nat} {l' : List Seg}, F6 l m = some l' → Seg.one x ∈ l' → Seg.one x ∈ l := by
  intro l
  induction l with
  | nil => intro m l' h hx; cases m <;> simp [F6] at h; subst h; simp at hx
  | cons s r ih =>
   intro m l' h hx
   cases s with
   | xs k n zs =>
    cases m with
    | zero => simp only [F6] at h; cases h; exact hx
    | succ m =>
     simp only [F6] at h
     split at h
     ·cases h; simp only [List.mem_cons, reduceCtorEq, false_or] at hx; exact List.mem_cons_of_mem _ hx
     ·exact List.mem_cons_of_mem _ (ih h hx)
   | one y =>
    cases m with
    | zero => simp only [F6] at h; cases h; exact hx
    | succ m => simp only [F6] at h; exact List.mem_cons_of_mem _ (ih h hx)
   | rw k y =>
    cases m with
    | zero => simp only [F6] at h; cases h; exact hx
    | succ m => simp [F6] at h
 have take : ∀ {l : List Seg} {m : Nat} {l' : List Seg}, L4 l m = some l' → Seg.one x ∈ l' → Seg.one x ∈ l := by
  intro l
  induction l with
  | nil => intro m l' h hx; cases m <;> simp [L4] at h; subst h; simp at hx
  | cons s r ih =>
   intro m l' h hx
   cases s with
   | xs k n zs =>
    simp only [L4] at h
    split at h
    ·cases h; simp at hx
    ·split at h
     ·cases h; simp at hx
     ·rw [Option.map_eq_some_iff] at h
      obtain ⟨r', h1, rfl⟩ := h
      simp only [List.mem_cons, reduceCtorEq, false_or] at hx
      exact List.mem_cons_of_mem _ (ih h1 hx)
   | rw k y => simp [L4] at h
   | one y =>
    cases m with
    | zero => simp only [L4] at h; cases h; simp at hx
    | succ m => cases m with
     | zero => simp only [L4] at h; cases h; rw [List.mem_singleton.1 hx]; exact List.mem_cons_self
     | succ m =>
      simp only [L4, Option.map_eq_some_iff] at h
      obtain ⟨r', h1, rfl⟩ := h
      rcases List.mem_cons.1 hx with e | hx
      ·rw [e]; exact List.mem_cons_self
      ·exact List.mem_cons_of_mem _ (ih h1 hx)
 unfold a4u at h
 split at h
 ·rename_i l' h1
  exact drop h1 (take h (by simp))
 ·cases h
theorem a6b {x : Seg} : ∀ {l l' : List Seg} {n : Nat}, L4 l n = some l' → (∃ a, x = .one a) → x ∈ l' → x ∈ l
 | [], l', n, h, hx, hm => by cases n <;> simp [L4] at h; subst h; exact hm
 | .xs k m zs :: r, l', n, h, hx, hm => by
  obtain ⟨a, rfl⟩ := hx
  simp only [L4] at h
  split at h
  ·cases h; simp at hm
  ·split at h
   ·cases h; simp at hm
   ·rw [Option.map_eq_some_iff] at h
    obtain ⟨r', g1, rfl⟩ := h
    simp only [List.mem_cons, reduceCtorEq, false_or] at hm ⊢
    exact a6b g1 ⟨a, rfl⟩ hm
 | .one y :: r, l', n, h, hx, hm => by
  cases n with
  | zero => simp only [L4] at h; cases h; cases hm
  | succ n => cases n with
   | zero => simp only [L4] at h; cases h; rw [List.mem_singleton.1 hm]; exact List.mem_cons_self
   | succ n =>
    simp only [L4, Option.map_eq_some_iff] at h
    obtain ⟨r', g1, rfl⟩ := h
    rcases List.mem_cons.1 hm with rfl | hm
    ·simp
    ·exact List.mem_cons_of_mem _ (a6b g1 hx hm)
 | .rw k y :: r, l', n, h, hx, hm => by simp [L4] at h
theorem a5i {x : Seg} : ∀ {l l' : List Seg} {n : Nat}, F6 l n = some l' → (∃ a, x = .one a) → x ∈ l' → x ∈ l
 | [], l', n, h, hx, hm => by cases n <;> simp [F6] at h; subst h; exact hm
 | .xs k m zs :: r, l', n, h, hx, hm => by
  obtain ⟨a, rfl⟩ := hx
  cases n with
  | zero => simp only [F6] at h; cases h; exact hm
  | succ n =>
   simp only [F6] at h
   split at h
   ·cases h
    simp only [List.mem_cons, reduceCtorEq, false_or] at hm ⊢
    exact hm
   ·exact List.mem_cons_of_mem _ (a5i h ⟨a, rfl⟩ hm)
 | .one y :: r, l', n, h, hx, hm => by
  cases n with
  | zero => simp only [F6] at h; cases h; exact hm
  | succ n =>
   simp only [F6] at h
   exact List.mem_cons_of_mem _ (a5i h hx hm)
 | .rw k y :: r, l', n, h, hx, hm => by
  cases n with
  | zero => simp only [F6] at h; cases h; exact hm
  | succ n => simp [F6] at h
theorem FK.get_same (hag : Agree Kn st st2) {K : FK} {l : List Seg} (hl : ∀ x, Seg.one x ∈ l → x.kn Kn) {x : K.T} (h : K.get st l = some x) : K.get st2 l = some x := by
 cases K with
 | sl k =>
  simp only [FK.get] at h ⊢
  split at h
  ·rename_i a
   exact J1 hag (hl a (by simp)) h
  ·cases h
 | _ => exact h
theorem a6B (hag : Agree Kn st st2) : ∀ {L : List FK} {l : List Seg} {x : Cs L}, (∀ x, Seg.one x ∈ l → x.kn Kn) → a7I st L l = some x → a7I st2 L l = some x
 | [], l, x, _, h => h
 | K :: r, l, x, hl, h => by
  simp only [a7I] at h ⊢
  split at h
  ·rename_i a b h1 h2
   split at h
   ·rename_i y z e1 e2
    rw [FK.get_same hag (fun x hx => hl x (a6b h1 ⟨x, rfl⟩ hx)) e1, a6B hag (fun x hx => hl x (a5i h2 ⟨x, rfl⟩ hx)) e2]
    exact h
   ·cases h
  ·cases h
theorem RK.get_same (hag : Agree Kn st st2) {K : RK} {l : List Seg} {b : Nat} (hl : ∀ x, Seg.one x ∈ l → x.kn Kn) {x : K.T} (h : K.get st l b = some x) : K.get st2 l b = some x := by
 cases K with
 | int k => exact h
 | xs k n => exact h
 | sl k =>
  simp only [RK.get] at h ⊢
  split at h
  ·rename_i y h2
   exact J1 hag (hl y (b6U h2)) h
  ·cases h
 | ct L =>
  simp only [RK.get] at h ⊢
  split at h
  ·rename_i l2 h2
   refine a6B hag (fun x hx => hl x ?_) h
   unfold a4u at h2
   split at h2
   ·rename_i l' h1
    exact a5i h1 ⟨x, rfl⟩ (a6b h2 ⟨x, rfl⟩ hx)
   ·cases h2
  ·cases h
theorem Kd.get_same (hag : Agree Kn st st2) {K : Kd} {tv : TV} (hv : tv.kn Kn) {x : K.T} (h : K.get st tv = some x) : K.get st2 tv = some x := by
 cases K
 case sl k =>
  cases tv with
  | tup l => exact h
  | one y =>
   cases y with
   | any => exact h
   | agg l => exact h
   | sc y => exact J1 hag hv h
 case sls k =>
  cases tv with
  | tup l => exact h
  | one y =>
   cases y with
   | any => exact h
   | agg l => exact h
   | sc y =>
    cases y with
    | vec o len es =>
     simp only [Kd.get] at h ⊢
     split at h
     ·split at h
      ·rename_i b hb
       have hk : Kn o := hv o rfl
       have hb2 := hag.look o b hk hb
       rw [hb2]
       exact a57 hag (hag.segs o b hk hb2) h
      ·cases h
     ·cases h
    | fr d => cases d <;> exact h
    | _ => exact h
 case rp K =>
  cases tv with
  | tup l => exact h
  | one y =>
   cases y with
   | any => exact h
   | agg l => exact h
   | sc y =>
    cases y with
    | ptr o b i =>
     cases i with
     | some i => exact h
     | none =>
      simp only [Kd.get] at h ⊢
      split at h
      ·rename_i ob hb
       have hk : Kn o := hv o rfl
       have hb2 := hag.look o ob hk hb
       rw [hb2]
       exact RK.get_same hag (hag.segs o ob hk hb2) h
      ·cases h
    | _ => exact h
 case fcl f k =>
  cases tv with
  | tup l => exact h
  | one y =>
   cases y with
   | any => exact h
   | agg l => exact h
   | sc y =>
    cases y with
    | clo g o b =>
     simp only [Kd.get] at h ⊢
     split at h
     ·split at h
      ·rename_i ob hb
       have hk : Kn o := hv o rfl
       have hb2 := hag.look o ob hk hb
       rw [hb2]
       exact RK.get_same hag (hag.segs o ob hk hb2) h
      ·cases h
     ·cases h
    | _ => exact h
 case sla k m =>
  cases tv with
  | tup l => exact h
  | one y =>
   cases y with
   | any => exact h
   | agg l => exact h
   | sc y =>
    cases y with
    | vec o len es =>
     simp only [Kd.get] at h ⊢
     split at h
     ·rename_i e1 e2
      split at h
      ·rename_i b hb
       rw [hag.look o b (hv o rfl) hb]
       exact h
      ·cases h
     ·cases h
    | _ => exact h
 case cat l =>
  cases tv with
  | tup l => exact h
  | one y =>
   cases y with
   | any => exact h
   | agg segs => exact a6B hag hv h
   | sc y => cases y <;> exact h
 case fsl k =>
  cases tv with
  | tup l => exact h
  | one y =>
   cases y with
   | any => exact h
   | agg segs => exact h
   | sc y => exact J1 hag hv (show x6 k st y = some x from h)
 all_goals
  cases tv with
  | tup l => exact h
  | one y =>
   cases y with
   | any => exact h
   | agg l => exact h
   | sc y => cases y <;> exact h
theorem Kd.get2_same (hag : Agree Kn st st2) {K : Kd} (hK : K.isIo = false) {tv : TV} (hv : tv.kn Kn) {x : K.T} (h : K.get2 st st tv = some x) : K.get2 st2 st2 tv = some x := by
 cases K
 case io l => cases hK
 case ios k => cases hK
 case xv k => exact Kd.get_same (K := .xv k) hag hv h
 case op l => exact Kd.get_same (K := .op l) hag hv h
 all_goals exact Kd.get_same hag hv h
theorem a4J (hag : Agree Kn st st2) : ∀ {ks : List Kd} {l : List TV} {x : Ds ks}, (∀ k ∈ ks, k.isIo = false) → (∀ v ∈ l, v.kn Kn) → F3 st st ks l = some x → F3 st2 st2 ks l = some x
 | [], [], _, _, _, h => h
 | [], _ :: _, _, _, _, h => by simp [F3] at h
 | _ :: _, [], _, _, _, h => by simp [F3] at h
 | k :: ks, v :: l, x, hK, hv, h => by
  simp only [F3] at h ⊢
  split at h
  ·rename_i y z e1 e2
   rw [Kd.get2_same hag (hK k (by simp)) (hv v (by simp)) e1, a4J hag (fun k hk => hK k (by simp [hk])) (fun v hv' => hv v (by simp [hv'])) e2]
   exact h
  ·cases h
theorem Sig.plain {s : Sig} (h : s.io = false) : ∀ k ∈ s.args, k.isIo = false := by
 intro k hk
 unfold Sig.io at h
 rw [List.any_eq_false] at h
 simpa using h k hk
theorem a6E {st : St} : ∀ {ks : List Kd} {l : List TV}, (∀ k ∈ ks, k.isIo = false) → a97 st ks l = some []
 | [], l, _ => by simp [a97]
 | _ :: _, [], _ => by simp [a97]
 | k :: ks, v :: l, h => by
  have h1 : k.ioAt st v = some [] := by
   have := h k (by simp)
   cases k <;> first | (cases this; done) | rfl
  simp only [a97, h1, a6E (ks := ks) fun k hk => h k (by simp [hk])]
theorem a4F {dst : Option Tmp} {args : List TV} {s : Sig} (h : s.io = false) : b4c st nm dst args s = match F3 st st s.args args with
  | some x => .opt (s.g x) fun r => match st.newAll nm (Q6 nm s.res r).2 with
   | some st' => .ret (st'.put dst (b8H (Q6 nm s.res r).1))
   | none => .fail
  | none => .fail := by
 unfold b4c
 rw [a6E (Sig.plain h)]
 simp only [St.killAll, List.length_nil, b2r, b1o, u2, T.bind]
 cases F3 st st s.args args with
 | none => rfl
 | some x =>
  simp only
  congr 1
theorem a4E (hag : Agree Kn st st2) {dst : Option Tmp} {args : List TV} (hk : ∀ v ∈ args, v.kn Kn) : ∀ ss : List Sig, (∀ s ∈ ss, s.io = false) → Moves st st2 nm dst (a2T st nm dst args ss) (a2T st2 nm dst args ss)
 | [], _ => Moves.fail _
 | s :: ss, hno => by
  have hs := hno s (by simp)
  simp only [a2T]
  split
  ·rw [a4F hs, a4F hs]
   cases hg : F3 st st s.args args with
   | none => exact Moves.fail _
   | some x =>
    rw [a4J hag (Sig.plain hs) hk hg]
    intro s1 h
    simp only [T.val_opt] at h
    obtain ⟨r, h1, h⟩ := h
    split at h
    ·rename_i st' hn
     rw [T.val_ret] at h
     subst h
     refine ⟨_, _, st', hn, rfl, fun s' hs' => ?_⟩
     simp only [T.val_opt]
     exact ⟨r, h1, by rw [hs', T.val_ret]⟩
    ·simp [T.val_fail] at h
  ·exact a4E hag hk ss fun s hs => hno s (by simp [hs])
theorem b1j {E : AE} [Flat E] (hag : Agree Kn st st2) (hkn : ∀ x ∈ o.op.operands, (st.get x).kn Kn) (hget : ∀ x ∈ o.op.operands, st2.get x = st.get x) (hw : a2H o.op = false) : Moves st st2 nm o.dst (j8 E nm o st) (j8 E nm o st2) := by
 obtain ⟨dst, op, type, pos, after, guard⟩ := o
 simp only at hget hkn hw ⊢
 cases op
 case move x => simp only [Op.operands] at hget; simp only [j8, hget x (by simp)]; exact Moves.ret _
 case assign x => simp only [Op.operands] at hget; simp only [j8, hget x (by simp)]; exact Moves.ret _
 case pick c x y =>
  simp only [Op.operands] at hget
  simp only [j8, hget c (by simp), hget x (by simp), hget y (by simp)]
  repeat' first | exact Moves.fail _ | exact Moves.ret _ | refine Moves.ite ?_ ?_ | split
 case alloc t => simp only [j8]; repeat' first | exact Moves.fail _ | exact Moves.newPtr _ | split
 case box t x =>
  simp only [Op.operands] at hget
  simp only [j8, hget x (by simp)]
  repeat' first | exact Moves.fail _ | exact Moves.newPtr _ | split
 case build t ps =>
  have hp : (ps.toList.map fun p => (p.1, st2.get p.2)) = ps.toList.map fun p => (p.1, st.get p.2) := List.map_congr_left fun p hp => by
   rw [hget p.2 (by simp only [Op.operands, List.mem_toArray]; exact List.mem_map.2 ⟨p, hp, rfl⟩)]
  simp only [j8, hp]
  repeat' first | exact Moves.fail _ | exact Moves.ret _ | (refine Moves.bind _ ?_; intro _) | split
 case buildSlice t n ps =>
  have hp : (ps.toList.map fun p => (p.1, st2.get p.2)) = ps.toList.map fun p => (p.1, st.get p.2) := List.map_congr_left fun p hp => by
   rw [hget p.2 (by simp only [Op.operands, List.mem_toArray]; exact List.mem_map.2 ⟨p, hp, rfl⟩)]
  simp only [j8, hp]
  repeat' first | exact Moves.fail _ | exact Moves.newVec _ _ _ | (refine Moves.bind _ ?_; intro _) | split
 case load t p =>
  simp only [Op.operands] at hget
  have hp := hkn p (by simp [Op.operands])
  simp only [j8, hget p (by simp)]
  split
  ·rename_i ob b i e
   rw [e] at hp
   cases hl : st.look ob with
   | none =>
    have : a4R E st t ob b i = .fail := by unfold a4R; rw [hl]; split <;> simp_all
    rw [this]
    exact Moves.fail _
   | some obj =>
    have h2 := hag.look ob obj (hp ob rfl) hl
    have : a4R E st2 t ob b i = a4R E st t ob b i := by unfold a4R; rw [hl, h2]
    rw [this]
    exact Moves.bind _ fun _ => Moves.ret _
  ·split
   ·exact Moves.retA _
   ·exact Moves.fail _
  ·exact Moves.fail _
 case nilCheck x =>
  simp only [Op.operands] at hget
  simp only [j8, hget x (by simp)]
  repeat' first | exact Moves.fail _ | exact Moves.retA _ | split
 case binOp op t x y yt =>
  simp only [Op.operands] at hget
  simp only [j8]
  unfold c1J b6z
  simp only [hget x (by simp), hget y (by simp)]
  repeat' first | exact Moves.fail _ | exact Moves.retA _ | (refine Moves.bind _ ?_; intro _) | refine Moves.ite ?_ ?_ | split
 case unOp op t x =>
  simp only [Op.operands] at hget
  simp only [j8, hget x (by simp)]
  repeat' first | exact Moves.fail _ | exact Moves.retA _ | split
 case convert s t x =>
  simp only [Op.operands] at hget hkn
  simp only [j8, hget x (by simp)]
  unfold b8Y
  split
  ·exact Moves.retA _
  ·exact Moves.retA _
  ·rename_i y _ _ _ e0
   split
   ·cases hz : x6 (.int .u8) st y with
    | none => exact Moves.fail _
    | some zs =>
     rw [J1 hag (by have := hkn x (by simp); rw [e0] at this; exact this) hz]
     exact Moves.retA _
   ·exact Moves.fail _
  ·rename_i ob len es _ _ e0
   have hkx := hkn x (by simp)
   rw [e0] at hkx
   split
   ·split
    ·rename_i b' hlk
     rw [hag.look ob _ (hkx ob rfl) hlk]
     exact Moves.ite (Moves.retA _) (Moves.fail _)
    ·exact Moves.fail _
   ·exact Moves.fail _
  ·exact Moves.fail _
 case sliceToArrayPointer t x =>
  simp only [Op.operands] at hget
  simp only [j8, hget x (by simp)]
  unfold b1n
  repeat' first | exact Moves.fail _ | exact Moves.retA _ | refine Moves.ite ?_ ?_ | split
 case makeInterface t x =>
  simp only [Op.operands] at hget
  simp only [j8, hget x (by simp)]
  unfold a8i
  repeat' first | exact Moves.fail _ | exact Moves.retA _ | split
 case makeSlice t x y =>
  simp only [Op.operands] at hget
  simp only [j8, hget x (by simp), hget y (by simp)]
  unfold b9k b5L
  repeat' first | exact Moves.fail _ | exact Moves.newVec _ _ _ | refine Moves.ite ?_ ?_ | split
 case slice t x lo hi mx =>
  cases mx with
  | some m => simp only [j8]; exact Moves.fail _
  | none =>
   simp only [Op.operands] at hget
   have hx := hkn x (by simp [Op.operands])
   have hlo : ∀ y, lo = some y → st2.get y = st.get y := fun y e => hget y (by subst e; simp)
   have hhi : ∀ y, hi = some y → st2.get y = st.get y := fun y e => hget y (by subst e; simp)
   simp only [j8, hget x (by simp)]
   unfold b1f
   split
   ·rename_i n e _ _ _ ob b ht hp
    rw [hp] at hx
    cases hl : st.look ob with
    | none => split <;> first | exact Moves.fail _ | simp_all
    | some obj =>
     have h2 := hag.look ob obj (hx ob rfl) hl
     rw [h2]
     repeat' first | exact Moves.fail _ | exact Moves.retA _ | (refine Moves.bound _ hhi _ _ ?_; intro _) | (refine Moves.bound _ hlo _ _ ?_; intro _) | split
   all_goals repeat' first | exact Moves.fail _ | exact Moves.retA _ | (refine Moves.bound _ hhi _ _ ?_; intro _) | (refine Moves.bound _ hlo _ _ ?_; intro _) | split
 case fieldAddr t x f =>
  simp only [Op.operands] at hget
  simp only [j8, hget x (by simp)]
  repeat' first | exact Moves.fail _ | exact Moves.retA _ | split
 case field t x f =>
  simp only [Op.operands] at hget
  simp only [j8, hget x (by simp)]
  repeat' first | exact Moves.fail _ | exact Moves.ret _ | (refine Moves.bind _ ?_; intro _) | split
 case indexAddr t x ix =>
  simp only [Op.operands] at hget
  simp only [j8, hget x (by simp)]
  unfold a3N
  simp only [hget ix (by simp)]
  repeat' first | exact Moves.fail _ | exact Moves.retA _ | refine Moves.ite ?_ ?_ | split
 case index t x ix =>
  simp only [Op.operands] at hget
  simp only [j8, hget x (by simp)]
  unfold b5H
  simp only [hget ix (by simp)]
  repeat' first | exact Moves.fail _ | exact Moves.retA _ | exact Moves.ret _ | refine Moves.ite ?_ ?_ | (refine Moves.bind _ ?_; intro _) | split
 case extract x j =>
  simp only [Op.operands] at hget
  simp only [j8, hget x (by simp)]
  repeat' first | exact Moves.fail _ | exact Moves.ret _ | split
 case typeAssert x xt t ok =>
  simp only [Op.operands] at hget
  simp only [j8, hget x (by simp)]
  unfold b8M b8L
  repeat' first | exact Moves.fail _ | exact Moves.ret _ | split
 case call c =>
  obtain ⟨callee, args, ats⟩ := c
  have hargs : args.toList.map st2.get = args.toList.map st.get := List.map_congr_left fun x hx => hget x (by simp only [Op.operands, Call.operands, Array.mem_append]; exact .inr (Array.mem_toList_iff.1 hx))
  cases callee with
  | value f =>
   cases f with
   | func f =>
    simp only [j8, hargs]
    have std := a4E (nm := nm) (dst := dst) hag (args := args.toList.map st.get) (fun v hv => by
     obtain ⟨y, hy, rfl⟩ := List.mem_map.1 hv
     exact hkn y (by simp only [Op.operands, Call.operands, Array.mem_append]; exact .inr (Array.mem_toList_iff.1 hy))) (E.fn f) (fun s hs => Flat.no f s hs)
    unfold b6g
    split
    ·exact std
    ·split
     ·split
      ·exact Moves.ite (Moves.ret _) std
      ·exact Moves.fail _
     ·exact Moves.fail _
    ·split
     ·exact Moves.ite (Moves.ret _) (Moves.fail _)
     ·exact Moves.fail _
   | tmp t =>
    have ht : st2.get (.tmp t) = st.get (.tmp t) := hget _ (by simp [Op.operands, Call.operands])
    have hkt := hkn (.tmp t) (by simp [Op.operands, Call.operands])
    simp only [j8, hargs, ht]
    split
    ·rename_i f cap hfn
     refine a4E hag (fun v hv => ?_) _ (fun s hs => Flat.no f s hs)
     rcases List.mem_append.1 hv with hv | hv
     ·obtain ⟨y, hy, rfl⟩ := List.mem_map.1 hv
      exact hkn y (by simp only [Op.operands, Call.operands, Array.mem_append]; exact .inr (Array.mem_toList_iff.1 hy))
     ·unfold c1O at hfn
      split at hfn
      ·cases hfn; simp at hv
      ·rename_i f' o b e
       cases hfn
       simp only [List.mem_singleton] at hv
       subst hv
       rw [e] at hkt
       exact fun o' ho' => hkt o' ho'
      ·cases hfn
    ·exact Moves.fail _
   | _ => simp only [j8]; exact Moves.fail _
  | invoke r m => simp only [j8]; exact Moves.fail _
  | builtin b =>
   cases b with
   | len =>
    simp only [j8]
    split
    ·rename_i t _ x _ e1 e2
     have : st2.get x = st.get x := hget x (by simp only [Op.operands, Call.operands, Array.mem_append]; exact .inr (Array.mem_toList_iff.1 (by rw [e2]; simp)))
     rw [this]
     repeat' first | exact Moves.fail _ | exact Moves.retA _ | split
    ·exact Moves.fail _
   | append => simp [a2H] at hw
   | copy => simp [a2H] at hw
   | max => simp only [j8, hargs]; repeat' first | exact Moves.fail _ | exact Moves.retA _ | split
   | min => simp only [j8, hargs]; repeat' first | exact Moves.fail _ | exact Moves.retA _ | split
   | _ => simp only [j8]; exact Moves.fail _
 case store => simp [a2H] at hw
 case makeFunc fv first captured =>
  cases fv with
  | func f =>
   simp only [j8]
   have hc : ∀ x ∈ captured.toList, st2.get x = st.get x := fun x hx => hget x (by simp only [Op.operands, Array.mem_append]; exact .inr (Array.mem_toList_iff.1 hx))
   unfold a3d
   split
   ·exact Moves.retA _
   ·rename_i x e1 e2
    rw [hc x (by rw [e2]; simp)]
    split
    ·exact Moves.retA _
    ·exact Moves.fail _
   ·rename_i x y e1 e2
    rw [hc x (by rw [e2]; simp), hc y (by rw [e2]; simp)]
    split
    ·exact Moves.retA _
    ·exact Moves.fail _
   ·exact Moves.fail _
  | _ => simp only [j8]; exact Moves.fail _
 all_goals (simp only [j8]; exact Moves.fail _)
end
end Go.Ax
namespace Go.Ax
open Go.RowKit
variable {P : Program}
def J5 : Option TV → Option Bool
 | some (.one (.sc (.known b))) => some b
 | some (.one (.sc (.bool p d))) => some (@decide p d)
 | _ => none
def b1y : Option TV → Bool
 | some (.tup []) => true
 | _ => false
def a1V (E : AE) (ops : Array Oper) (nm : Nat) (o : Oper) (st : St) : Option St :=
 match o.guard with
 | none => (j8 E nm o st).val
 | some (j, want) => match (ops[j]?).bind (·.dst) with
  | none => none
  | some d => match b1y st.tmps[d]? with
   | true => some (st.put o.dst (.tup []))
   | false => match J5 st.tmps[d]? with
    | some b => if b = want then (j8 E nm o st).val else some (st.put o.dst (.tup []))
    | none => none
def opV (E : AE) (ops : Array Oper) (ft : Option Nat) (nm : Nat) (o : Oper) (st : St) : Option St :=
 match a4m ft o st with
 | true => a1V E ops nm o st
 | false => none
theorem I5 {E : AE} {ops : Array Oper} {ft : Option Nat} {nm : Nat} {o : Oper} {st s : St} : opV E ops ft nm o st = some s ↔ a4m ft o st = true ∧ a1V E ops nm o st = some s := by
 unfold opV
 split
 ·rename_i h; simp [h]
 ·rename_i h; simp [h]
section
variable {ρ : Env} {B : Nat} {w0 : Base} {st st' : St} {a : Act} {w : World} {nm : Nat} {o : Oper} {ops : Array Oper}
theorem b6e (hr : Rel ρ B w0 st a w) {d : Nat} {b : Bool} (h : J5 st.tmps[d]? = some b) : a.tmps[d]? = some (.bool b) := by
 cases e : st.tmps[d]? with
 | none => rw [e] at h; cases h
 | some v =>
  have hv := hr.tm d v e
  have hlt : d < a.tmps.size := by rw [hr.len]; exact (List.getElem?_eq_some_iff.1 e).1
  rw [e] at h
  have key : a.tmps.getD d undef = .bool b := by
   cases v with
   | tup l => cases h
   | one v =>
    cases v with
    | any => cases h
    | agg l => cases h
    | sc v =>
     cases v <;> simp only [J5] at h <;> first | (cases h; done) | (cases h; exact hv)
  rw [Array.getD_eq_getD_getElem?] at key
  simp only [Array.getElem?_eq_getElem hlt, Option.getD_some] at key ⊢
  rw [key]
theorem b4p (hr : Rel ρ B w0 st a w) {d : Nat} (h : b1y st.tmps[d]? = true) : a.tmps[d]? = some (.tuple #[]) := by
 cases e : st.tmps[d]? with
 | none => rw [e] at h; cases h
 | some v =>
  have hv := hr.tm d v e
  have hlt : d < a.tmps.size := by rw [hr.len]; exact (List.getElem?_eq_some_iff.1 e).1
  rw [e] at h
  cases v with
  | one v => cases h
  | tup l =>
   cases l with
   | cons x l => cases h
   | nil =>
    obtain ⟨vs, h1, h2⟩ := hv
    cases h2
    rw [Array.getD_eq_getD_getElem?] at h1
    simp only [Array.getElem?_eq_getElem hlt, Option.getD_some] at h1 ⊢
    rw [h1]
theorem b06 {E : AE} (hE : E.Ok P) (hr : Rel ρ B w0 st a w) (h : a1V E ops nm o st = some st') (K : Act → World → Prop) (Q : Exit → Act → World → Prop) (hK : ∀ a' w' ρ', ρ.le ρ' → Rel ρ' B w0 st' a' w' → K a' w') :
  if Region.wanted o (yielded ops a.tmps) then o.wp P a w K Q else K (a.put o.dst undef) w := by
 unfold a1V at h
 split at h
 ·rename_i hg
  rw [if_pos (by simp [Region.wanted, hg])]
  exact a3W hE hr h K Q fun v w' ρ' h1 h2 => hK _ _ _ h1 h2
 ·rename_i j want hg
  split at h
  ·cases h
  ·rename_i d hd
   split at h
   ·rename_i hu
    have hy : yielded ops a.tmps j = none := by
     unfold yielded
     rw [hd]
     simp only [Option.bind_some, b4p hr hu]
    rw [if_neg (by simp [Region.wanted, hg, hy])]
    cases h
    exact hK _ _ ρ (.refl ρ) (hr.put o.dst (v := .tup []) ⟨[], rfl, rfl⟩)
   split at h
   ·rename_i b hb
    have hy : yielded ops a.tmps j = some b := by
     unfold yielded
     rw [hd]
     simp only [Option.bind_some, b6e hr hb]
    split at h
    ·rename_i e
     rw [if_pos (by simp [Region.wanted, hg, hy, e])]
     exact a3W hE hr h K Q fun v w' ρ' h1 h2 => hK _ _ _ h1 h2
    ·rename_i e
     rw [if_neg (by simp [Region.wanted, hg, hy, e])]
     cases h
     exact hK _ _ ρ (.refl ρ) (hr.put o.dst (v := .tup []) ⟨[], rfl, rfl⟩)
   ·cases h
theorem a5A {E : AE} {ft : Option Nat} (hE : E.Ok P) (hr : Rel ρ B w0 st a w) (h : opV E ops ft nm o st = some st') (K : Act → World → Prop) (Q : Exit → Act → World → Prop) (hK : ∀ a' w' ρ', ρ.le ρ' → Rel ρ' B w0 st' a' w' → K a' w') :
  if Region.wanted o (yielded ops a.tmps) then o.wp P a w K Q else K (a.put o.dst undef) w := b06 hE hr (I5.1 h).2 K Q hK
def b6M (E : AE) (ops : Array Oper) (fts : List (Option Nat)) : List Oper → Nat → Nat → St → Option St
 | [], _, _, st => some st
 | o :: r, k, nm, st => (opV E ops (fts.getD k none) nm o st).bind (b6M E ops fts r (k + 1) (nm + b6x E o))
theorem b1c {E : AE} {fts : List (Option Nat)} (hE : E.Ok P) {Q : Exit → Act → World → Prop} : ∀ {l : List Oper} {k nm : Nat} {ρ : Env} {st st' : St} {a : Act} {w : World}, Rel ρ B w0 st a w → b6M E ops fts l k nm st = some st' → (∀ a' w' ρ', ρ.le ρ' → Rel ρ' B w0 st' a' w' → Q .normal a' w') → wpList P ops Q l a w
 | [], k, nm, ρ, st, st', a, w, hr, h, hQ => by cases h; exact hQ _ _ _ (.refl ρ) hr
 | o :: r, k, nm, ρ, st, st', a, w, hr, h, hQ => by
  simp only [b6M, Option.bind_eq_some_iff] at h
  obtain ⟨s1, h1, h2⟩ := h
  have := a5A hE hr h1 (wpList P ops Q r) Q fun a' w' ρ' hl hr' => b1c hE hr' h2 fun a2 w2 ρ2 hl2 => hQ a2 w2 ρ2 (hl.trans hl2)
  unfold wpList
  split
  ·rename_i hw; rw [if_pos hw] at this; exact .inl this
  ·rename_i hw; rw [if_neg hw] at this; exact this
structure Eff where
 nm : Nat
 news : List Ob
 dst : Option Tmp
 v : TV
def a1D : List Slot → Nat → List Ob → List Slot
 | m, _, [] => m
 | m, nm, b :: r => a1D (m.set nm (.live b)) (nm + 1) r
def app (s : St) (e : Eff) : St := St.put { s with mem := a1D s.mem e.nm e.news } e.dst e.v
def FreeAt (m : List Slot) (nm : Nat) (n : Nat) : Prop := ∀ k, k < n → m[nm + k]? = some .free
theorem F0 : ∀ {r : List Ob} {m : List Slot} {nm i : Nat}, FreeAt m nm r.length → (a1D m nm r)[i]? = if nm ≤ i ∧ i < nm + r.length then (r[i - nm]?).map Slot.live else m[i]?
 | [], m, nm, i, _ => by
  rw [if_neg (by simp)]; rfl
 | b :: r, m, nm, i, hf => by
  have h0 := hf 0 (by simp)
  simp only [Nat.add_zero] at h0
  have hlt := (List.getElem?_eq_some_iff.1 h0).1
  have hf' : FreeAt (m.set nm (.live b)) (nm + 1) r.length := by
   intro k hk
   rw [List.getElem?_set_ne (by omega)]
   have := hf (k + 1) (by simp; omega)
   rwa [show nm + (k + 1) = nm + 1 + k by omega] at this
  simp only [a1D]
  rw [F0 hf']
  by_cases h1 : nm + 1 ≤ i ∧ i < nm + 1 + r.length
  ·rw [if_pos h1, if_pos (by simp; omega), show i - nm = (i - (nm + 1)) + 1 by omega]
   rfl
  ·rw [if_neg h1]
   by_cases h2 : i = nm
   ·subst h2
    rw [List.getElem?_set_self hlt, if_pos (by simp)]
    simp
   ·rw [List.getElem?_set_ne (Ne.symm h2), if_neg (by simp; omega)]
theorem a56 : ∀ {r : List Ob} {m : List Slot} {nm : Nat}, (a1D m nm r).length = m.length
 | [], _, _ => rfl
 | _ :: r, m, nm => by simp [a1D, a56 (r := r)]
theorem a1e : ∀ {r : List Ob} {s s' : St} {nm : Nat}, s.newAll nm r = some s' ↔ FreeAt s.mem nm r.length ∧ s' = { s with mem := a1D s.mem nm r }
 | [], s, s', nm => by
  simp only [St.newAll, a1D]
  constructor
  ·intro h; cases h; exact ⟨fun k hk => by simp at hk, rfl⟩
  ·rintro ⟨_, rfl⟩; rfl
 | b :: r, s, s', nm => by
  simp only [St.newAll]
  by_cases hf : s.mem[nm]? = some .free
  ·have hn : s.new nm b = some { s with mem := s.mem.set nm (.live b) } := by unfold St.new; rw [hf]
   rw [hn]
   simp only [a1e (r := r), a1D]
   constructor
   ·rintro ⟨h1, rfl⟩
    refine ⟨fun k hk => ?_, rfl⟩
    cases k with
    | zero => simpa using hf
    | succ k =>
     have := h1 k (by simpa using hk)
     rw [List.getElem?_set_ne (by omega)] at this
     rwa [show nm + (k + 1) = nm + 1 + k by omega]
   ·rintro ⟨h1, rfl⟩
    refine ⟨fun k hk => ?_, rfl⟩
    rw [List.getElem?_set_ne (by omega)]
    have := h1 (k + 1) (by simpa using hk)
    rwa [show nm + (k + 1) = nm + 1 + k by omega] at this
  ·have hn : s.new nm b = none := by
    unfold St.new
    split
    ·rename_i h; exact absurd h hf
    ·rfl
   rw [hn]
   simp only [reduceCtorEq, false_iff, not_and]
   intro h1
   exact absurd (by simpa using h1 0 (by simp)) hf
structure Sees (ops : Array Oper) (o : Oper) (Kn : Nat → Prop) (s s2 : St) : Prop where
 get : ∀ x ∈ o.op.operands, s2.get x = s.get x
 guard : ∀ j want d, o.guard = some (j, want) → (ops[j]?).bind (·.dst) = some d → s2.tmps[d]? = s.tmps[d]?
 kn : ∀ x ∈ o.op.operands, (s.get x).kn Kn
 agree : Agree Kn s s2
theorem b5C {E : AE} [Flat E] {Kn : Nat → Prop} {s s1 s2 : St} (hs : Sees ops o Kn s s2) (hw : a2H o.op = false) (h : a1V E ops nm o s = some s1) :
  ∃ e : Eff, s1 = app s e ∧ FreeAt s.mem e.nm e.news.length ∧ e.dst = o.dst ∧ e.nm = nm ∧ (FreeAt s2.mem e.nm e.news.length → a1V E ops nm o s2 = some (app s2 e)) := by
 have hm := b1j (E := E) (nm := nm) hs.agree hs.kn hs.get hw
 have main : (j8 E nm o s).val = some s1 → ∃ e : Eff, s1 = app s e ∧ FreeAt s.mem e.nm e.news.length ∧ e.dst = o.dst ∧ e.nm = nm ∧ (FreeAt s2.mem e.nm e.news.length → (j8 E nm o s2).val = some (app s2 e)) := by
  intro h1
  obtain ⟨v, news, st1, g1, rfl, g3⟩ := hm s1 h1
  obtain ⟨f1, rfl⟩ := a1e.1 g1
  exact ⟨⟨nm, news, o.dst, v⟩, rfl, f1, rfl, rfl, fun f2 => g3 _ (a1e.2 ⟨f2, rfl⟩)⟩
 unfold a1V at h ⊢
 split at h
 ·rename_i hg
  exact main h
 ·rename_i j want hg
  split at h
  ·cases h
  ·rename_i d hd
   rw [hs.guard j want d hg hd]
   split at h
   ·cases h
    exact ⟨⟨nm, [], o.dst, .tup []⟩, rfl, fun k hk => by simp at hk, rfl, rfl, fun _ => rfl⟩
   split at h
   ·rename_i b hb
    split at h
    ·rename_i e
     simp only [e, if_true]
     exact main h
    ·rename_i e
     simp only [e, if_false]
     cases h
     exact ⟨⟨nm, [], o.dst, .tup []⟩, rfl, fun k hk => by simp at hk, rfl, rfl, fun _ => rfl⟩
   ·cases h
theorem b6w {op : Op} {p : Operand} (h : a4S op = some p) : p ∈ op.operands := by
 unfold a4S at h
 split at h <;> cases h <;> simp [Op.operands]
theorem a1L {ft : Option Nat} {s s2 : St} (hget : ∀ x ∈ o.op.operands, s2.get x = s.get x) : a4m ft o s2 = a4m ft o s := by
 unfold a4m
 cases ft with
 | none => rfl
 | some n =>
  cases o.guard with
  | some g => rfl
  | none =>
   cases hm : a4S o.op with
   | none => rfl
   | some p => simp only [hget p (b6w hm)]
theorem a6p {E : AE} [Flat E] {ft : Option Nat} {Kn : Nat → Prop} {s s1 s2 : St} (hs : Sees ops o Kn s s2) (hw : a2H o.op = false) (h : opV E ops ft nm o s = some s1) :
  ∃ e : Eff, s1 = app s e ∧ FreeAt s.mem e.nm e.news.length ∧ e.dst = o.dst ∧ e.nm = nm ∧ (FreeAt s2.mem e.nm e.news.length → opV E ops ft nm o s2 = some (app s2 e)) := by
 obtain ⟨h1, h2⟩ := I5.1 h
 obtain ⟨e, g1, g2, g3, g4, g5⟩ := b5C hs hw h2
 exact ⟨e, g1, g2, g3, g4, fun hf => I5.2 ⟨by rw [a1L hs.get]; exact h1, g5 hf⟩⟩
structure Grew (D : List Tmp) (A C : St) : Prop where
 tmps : ∀ t : Nat, t ∉ D → C.tmps[t]? = A.tmps[t]?
 keep : ∀ i : Nat, A.mem[i]? ≠ some Slot.free → C.mem[i]? = A.mem[i]?
 free : ∀ i : Nat, C.mem[i]? = some Slot.free → A.mem[i]? = some Slot.free
theorem Grew.refl (A : St) : Grew [] A A := ⟨fun _ _ => rfl, fun _ _ => rfl, fun _ h => h⟩
theorem Grew.trans {D D' : List Tmp} {A C F : St} (h : Grew D A C) (k : Grew D' C F) : Grew (D ++ D') A F := by
 refine ⟨fun t ht => ?_, fun i hi => ?_, fun i hi => h.free i (k.free i hi)⟩
 ·rw [k.tmps t (fun h => ht (by simp [h])), h.tmps t (fun h => ht (by simp [h]))]
 ·have := h.keep i hi
  rw [k.keep i (by rw [this]; exact hi), this]
theorem Grew.app (s : St) (e : Eff) (hf : FreeAt s.mem e.nm e.news.length) : Grew e.dst.toList s (app s e) := by
 refine ⟨fun t ht => ?_, fun i hi => ?_, fun i hi => ?_⟩
 ·unfold Ax.app St.put
  cases hd : e.dst with
  | none => rfl
  | some d =>
   rw [hd] at ht
   simp only [Option.toList_some, List.mem_singleton] at ht
   exact List.getElem?_set_ne (Ne.symm ht)
 ·have hm : (Ax.app s e).mem = a1D s.mem e.nm e.news := by unfold Ax.app St.put; cases e.dst <;> rfl
  rw [hm, F0 hf]
  split
  ·rename_i h
   have := hf (i - e.nm) (by omega)
   rw [show e.nm + (i - e.nm) = i by omega] at this
   exact absurd this hi
  ·rfl
 ·have hm : (Ax.app s e).mem = a1D s.mem e.nm e.news := by unfold Ax.app St.put; cases e.dst <;> rfl
  rw [hm, F0 hf] at hi
  split at hi
  ·rename_i h
   rw [List.getElem?_eq_getElem (show i - e.nm < e.news.length by omega)] at hi
   cases hi
  ·exact hi
theorem a6k (s : St) (e : Eff) : (app s e).mem = a1D s.mem e.nm e.news := by unfold app St.put; cases e.dst <;> rfl
theorem b8J {s : St} {e f : Eff} (he : FreeAt s.mem e.nm e.news.length) (hf : FreeAt s.mem f.nm f.news.length) (hfe : FreeAt (app s e).mem f.nm f.news.length) (hd : ∀ d, e.dst = some d → f.dst ≠ some d) : FreeAt (app s f).mem e.nm e.news.length ∧ app (app s f) e = app (app s e) f := by
 have hap : ∀ i, e.nm ≤ i → i < e.nm + e.news.length → f.nm ≤ i → i < f.nm + f.news.length → False := by
  intro i h1 h2 h3 h4
  have := hfe (i - f.nm) (by omega)
  rw [show f.nm + (i - f.nm) = i by omega, a6k, F0 he, if_pos ⟨h1, h2⟩, List.getElem?_eq_getElem (show i - e.nm < e.news.length by omega)] at this
  cases this
 have hef : FreeAt (app s f).mem e.nm e.news.length := by
  intro k hk
  rw [a6k, F0 hf]
  split
  ·rename_i h
   exact (hap (e.nm + k) (by omega) (by omega) h.1 h.2).elim
  ·exact he k hk
 refine ⟨hef, ?_⟩
 have hmem : (app (app s f) e).mem = (app (app s e) f).mem := by
  apply List.ext_getElem?
  intro i
  rw [a6k (app s f), a6k (app s e), F0 hef, F0 hfe, a6k, a6k, F0 he, F0 hf]
  split
  ·rename_i h
   split
   ·rename_i h'
    exact (hap i h.1 h.2 h'.1 h'.2).elim
   ·rfl
  ·rfl
 have htm : (app (app s f) e).tmps = (app (app s e) f).tmps := by
  unfold app St.put
  cases h1 : e.dst with
  | none => cases f.dst <;> rfl
  | some d =>
   cases h2 : f.dst with
   | none => rfl
   | some d' =>
    have := hd d h1
    rw [h2] at this
    simp only
    rw [List.set_comm]
    intro e; subst e; exact this rfl
 have hdf : (app (app s f) e).dfr = (app (app s e) f).dfr := by
  unfold app St.put
  cases e.dst <;> cases f.dst <;> rfl
 cases h1 : app (app s f) e
 cases h2 : app (app s e) f
 rw [h1, h2] at hmem htm hdf
 simp only at hmem htm hdf
 subst hmem htm hdf
 rfl
end
end Go.Ax
namespace Go.Ax
open Go.RowKit
variable {P : Program}
section
variable {st st2 : St} {dst : Option Tmp}
def Puts (st st2 : St) (dst : Option Tmp) (t1 t2 : T St) : Prop :=
 ∀ s1, t1.val = some s1 → ∃ v, s1 = st.put dst v ∧ t2.val = some (st2.put dst v)
theorem Puts.ret (v : TV) : Puts st st2 dst (.ret (st.put dst v)) (.ret (st2.put dst v)) := by
 intro s1 h
 rw [T.val_ret] at h
 subst h
 exact ⟨v, rfl, (T.val_ret _ _).2 rfl⟩
theorem Puts.retA (v : A1) : Puts st st2 dst (.ret (st.putA dst v)) (.ret (st2.putA dst v)) := Puts.ret _
theorem Puts.fail (t : T St) : Puts st st2 dst .fail t := by
 intro s1 h
 simp [T.val_fail] at h
theorem Puts.ite {p : Prop} {d : Decidable p} {A A' B B' : T St} (h1 : Puts st st2 dst A A') (h2 : Puts st st2 dst B B') : Puts st st2 dst (.ite p d A B) (.ite p d A' B') := by
 intro s1 h
 rw [T.val_ite] at h
 rcases h with ⟨hp, h⟩ | ⟨hp, h⟩
 ·obtain ⟨v, a1, a2⟩ := h1 s1 h
  exact ⟨v, a1, by rw [T.val_ite]; exact .inl ⟨hp, a2⟩⟩
 ·obtain ⟨v, a1, a2⟩ := h2 s1 h
  exact ⟨v, a1, by rw [T.val_ite]; exact .inr ⟨hp, a2⟩⟩
theorem Puts.bind {α : Type} (X : T α) {f g : α → T St} (h : ∀ a, Puts st st2 dst (f a) (g a)) : Puts st st2 dst (X.bind f) (X.bind g) := by
 intro s1 h1
 rw [T.val_bind_iff] at h1
 obtain ⟨x, hx, h1⟩ := h1
 obtain ⟨v, a1, a2⟩ := h x s1 h1
 exact ⟨v, a1, by rw [T.val_bind_iff]; exact ⟨x, hx, a2⟩⟩
end
theorem Puts.bound {st st2 : St} {dst : Option Tmp} {b : Option Operand} (hb : ∀ x, b = some x → st2.get x = st.get x) (d most : Nat) {f g : Nat → T St} (h : ∀ n, Puts st st2 dst (f n) (g n)) : Puts st st2 dst (A3 st b d most f) (A3 st2 b d most g) := by
 cases b with
 | none => exact h d
 | some x =>
  have e := hb x rfl
  unfold A3
  simp only
  rw [e]
  repeat' first | exact Puts.fail _ | exact h _ | refine Puts.ite ?_ ?_ | split
theorem b9x {E : AE} {o : Op} (h : a2F E o = true) : a2H o = false := by cases o <;> simp [a2F] at h <;> rfl
theorem b54 {E : AE} {st st2 : St} {nm : Nat} {o : Oper} (hget : ∀ x ∈ o.op.operands, st2.get x = st.get x) (hw : a2F E o.op = true) : Puts st st2 o.dst (j8 E nm o st) (j8 E nm o st2) := by
 obtain ⟨dst, op, type, pos, after, guard⟩ := o
 simp only at hget hw ⊢
 cases op <;> simp only [a2F] at hw <;> try (first | exact absurd hw (by decide) | cases hw; done)
 case move x => simp only [Op.operands] at hget; simp only [j8, hget x (by simp)]; exact Puts.ret _
 case assign x => simp only [Op.operands] at hget; simp only [j8, hget x (by simp)]; exact Puts.ret _
 case pick c x y =>
  simp only [Op.operands] at hget
  simp only [j8, hget c (by simp), hget x (by simp), hget y (by simp)]
  repeat' first | exact Puts.fail _ | exact Puts.ret _ | refine Puts.ite ?_ ?_ | split
 case typeAssert x xt t ok =>
  simp only [Op.operands] at hget
  simp only [j8, hget x (by simp)]
  unfold b8M b8L
  repeat' first | exact Puts.fail _ | exact Puts.ret _ | exact Puts.retA _ | refine Puts.bind _ fun _ => ?_ | refine Puts.ite ?_ ?_ | split
 case nilCheck x =>
  simp only [Op.operands] at hget
  simp only [j8, hget x (by simp)]
  repeat' first | exact Puts.fail _ | exact Puts.retA _ | split
 case binOp op t x y yt =>
  simp only [Op.operands] at hget
  simp only [j8]
  unfold c1J b6z
  simp only [hget x (by simp), hget y (by simp)]
  repeat' first | exact Puts.fail _ | exact Puts.retA _ | (refine Puts.bind _ ?_; intro _) | refine Puts.ite ?_ ?_ | split
 case unOp op t x =>
  simp only [Op.operands] at hget
  simp only [j8, hget x (by simp)]
  repeat' first | exact Puts.fail _ | exact Puts.retA _ | split
 case convert s t x =>
  simp only [Op.operands] at hget
  simp only [j8, hget x (by simp)]
  unfold b8Y
  split
  ·exact Puts.retA _
  ·exact Puts.retA _
  ·rename_i hs _ _
   rw [hs] at hw
   cases hw
  ·rename_i hs _ _
   rw [hs] at hw
   cases hw
  ·exact Puts.fail _
 case sliceToArrayPointer t x =>
  simp only [Op.operands] at hget
  simp only [j8, hget x (by simp)]
  unfold b1n
  repeat' first | exact Puts.fail _ | exact Puts.retA _ | refine Puts.ite ?_ ?_ | split
 case makeInterface t x =>
  simp only [Op.operands] at hget
  simp only [j8, hget x (by simp)]
  unfold a8i
  repeat' first | exact Puts.fail _ | exact Puts.retA _ | split
 case slice t x lo hi mx =>
  cases mx with
  | some m => cases hw
  | none =>
   simp only [Op.operands] at hget
   have hlo : ∀ y, lo = some y → st2.get y = st.get y := fun y e => hget y (by subst e; simp)
   have hhi : ∀ y, hi = some y → st2.get y = st.get y := fun y e => hget y (by subst e; simp)
   simp only [j8, hget x (by simp)]
   unfold b1f
   split
   ·rename_i hs _
    simp only [hs] at hw
    cases hw
   all_goals repeat' first | exact Puts.fail _ | exact Puts.retA _ | (refine Puts.bound hhi _ _ ?_; intro _) | (refine Puts.bound hlo _ _ ?_; intro _) | split
 case indexAddr t x ix =>
  simp only [Op.operands] at hget
  simp only [j8]
  unfold a3N
  simp only [hget x (by simp), hget ix (by simp)]
  repeat' first | exact Puts.fail _ | exact Puts.retA _ | refine Puts.ite ?_ ?_ | split
 case index t x ix =>
  simp only [Op.operands] at hget
  simp only [j8]
  unfold b5H
  simp only [hget x (by simp), hget ix (by simp)]
  repeat' first | exact Puts.fail _ | exact Puts.retA _ | exact Puts.ret _ | refine Puts.ite ?_ ?_ | (refine Puts.bind _ ?_; intro _) | split
 case fieldAddr t x f =>
  simp only [Op.operands] at hget
  simp only [j8, hget x (by simp)]
  repeat' first | exact Puts.fail _ | exact Puts.retA _ | split
 case field t x f =>
  simp only [Op.operands] at hget
  simp only [j8, hget x (by simp)]
  repeat' first | exact Puts.fail _ | exact Puts.ret _ | (refine Puts.bind _ ?_; intro _) | split
 case extract x j =>
  simp only [Op.operands] at hget
  simp only [j8, hget x (by simp)]
  repeat' first | exact Puts.fail _ | exact Puts.ret _ | split
 case makeFunc fv first captured =>
  cases fv with
  | func f =>
   simp only [Op.operands] at hget
   simp only [j8]
   have hc : ∀ x ∈ captured.toList, st2.get x = st.get x := fun x hx => hget x (by simp only [Array.mem_append]; exact .inr (Array.mem_toList_iff.1 hx))
   unfold a3d
   split
   ·exact Puts.retA _
   ·rename_i x e1 e2
    rw [hc x (by rw [e2]; simp)]
    split
    ·exact Puts.retA _
    ·exact Puts.fail _
   ·rename_i x y e1 e2
    rw [hc x (by rw [e2]; simp), hc y (by rw [e2]; simp)]
    split
    ·exact Puts.retA _
    ·exact Puts.fail _
   ·exact Puts.fail _
  | _ => cases hw
section
variable {ρ : Env} {B : Nat} {w0 : Base} {st st' : St} {a : Act} {w : World} {nm : Nat} {o : Oper} {ops : Array Oper} {E : AE} [Flat E]
theorem Q1 (o : Oper) (s : St) : Sees ops o (fun _ => True) s s :=
 ⟨fun _ _ => rfl, fun _ _ _ _ _ => rfl, fun x _ => by
  cases s.get x with
  | tup l => trivial
  | one v => cases v <;> first | exact fun _ _ _ _ => trivial | exact fun _ _ => trivial | trivial, ⟨fun _ _ _ h => h, fun _ _ _ _ _ _ _ _ => trivial⟩⟩
theorem B0 {st : St} {dst : Option Tmp} {v : TV} {t : Nat} (h : dst ≠ some t) : (st.put dst v).tmps[t]? = st.tmps[t]? := by
 unfold St.put
 cases dst with
 | none => rfl
 | some d => exact List.getElem?_set_ne (fun e => h (by rw [e]))
omit [Flat E] in
theorem a0w {st0 : St} : ∀ {ios : List (Nat × Option (Nat × Nat))} {avs : List AV} {cur st2 : St}, (u2 st0 cur ios avs).val = some st2 → st2.tmps = cur.tmps
 | [], avs, cur, st2, h => by
  cases avs with
  | nil => simp only [u2, T.val_ret] at h; subst h; rfl
  | cons _ _ => simp [u2, T.val_fail] at h
 | (o, pl) :: r, avs, cur, st2, h => by
  cases avs with
  | nil => simp [u2, T.val_fail] at h
  | cons av avs =>
   cases av with
   | any => simp [u2, T.val_fail] at h
   | sc a => simp [u2, T.val_fail] at h
   | agg segs =>
    simp only [u2] at h
    split at h
    ·split at h
     ·split at h
      ·simp only [T.val_ite, T.val_fail, and_false, or_false] at h
       exact (a0w h.2).trans rfl
      ·exact (a0w h).trans rfl
     ·split at h
      ·rw [T.val_bind_iff] at h
       obtain ⟨l', _, h⟩ := h
       exact (a0w h).trans rfl
      ·simp [T.val_fail] at h
    ·simp [T.val_fail] at h
omit [Flat E] in
theorem a3G {dst : Option Tmp} {args : List TV} {t : Nat} (ht : dst ≠ some t) {s1 : St} : ∀ {ss : List Sig}, (a2T st nm dst args ss).val = some s1 → s1.tmps[t]? = st.tmps[t]?
 | [], h => by simp [a2T, T.val_fail] at h
 | s :: ss, h => by
  simp only [a2T] at h
  split at h
  ·unfold b4c at h
   split at h
   ·split at h
    ·simp only [T.val_opt] at h
     obtain ⟨r, _, h⟩ := h
     split at h
     ·rename_i st' hn
      rw [T.val_bind_iff] at h
      obtain ⟨st2, h2, h⟩ := h
      rw [T.val_ret] at h
      subst h
      obtain ⟨_, e⟩ := a1e.1 hn
      rw [B0 ht, a0w h2, e]
      exact congrArg (fun l : List TV => l[t]?) (a3a _ _)
     ·simp [T.val_fail] at h
    ·simp [T.val_fail] at h
   ·simp [T.val_fail] at h
  ·exact a3G ht h
omit [Flat E] in
theorem a2f {place : Nat → Option (Nat × TypeId)} : ∀ {ps : List (Nat × TV)} {l : List Seg}, C4 E place l ps = C4 E.flat place l ps
 | [], _ => rfl
 | (j, v) :: r, l => by
  simp only [C4]
  cases place j with
  | none => rfl
  | some p =>
   show (match E.ty p.2 with | some ti => _ | none => _) = (match E.ty p.2 with | some ti => _ | none => _)
   cases E.ty p.2 with
   | none => rfl
   | some ti =>
    simp only
    congr 1
    funext l'
    exact a2f
omit [Flat E] in
theorem b8s (hc : ∀ f args ats, o.op ≠ .call { callee := .value f, args, argTypes := ats }) : j8 E nm o st = j8 E.flat nm o st := by
 obtain ⟨dst, op, type, pos, after, guard⟩ := o
 simp only at hc
 cases op
 case call c =>
  obtain ⟨callee, args, ats⟩ := c
  cases callee with
  | value f => exact absurd rfl (hc f args ats)
  | builtin b => cases b <;> rfl
  | invoke r m => rfl
 case build t ps =>
  have hp : C4 E = C4 E.flat := by funext place l ps; exact a2f
  simp only [j8]
  rw [hp]
  rfl
 case buildSlice t n ps =>
  have hp : C4 E = C4 E.flat := by funext place l ps; exact a2f
  simp only [j8]
  rw [hp]
  rfl
 case makeFunc f a b => cases f <;> rfl
 case slice t x lo hi mx => cases mx <;> rfl
 all_goals rfl
theorem b8p {s : St} {es : Nat} {y : TV} {l : List Seg} {m : Nat} {s1 : St} (h : b8G s es y = some (l, m, s1)) : s1.tmps = s.tmps := by
 unfold b8G at h
 split at h
 ·split at h
  ·rename_i hf
   cases h
   unfold a20 at hf
   split at hf
   ·cases hf; rfl
   ·split at hf
    ·cases hf; rfl
    ·cases hf
   ·cases hf
  ·cases h; rfl
 ·cases h; rfl
 ·cases h
omit [Flat E] in
theorem b36 {s1 : St} (h : (j8 E nm o st).val = some s1) {t : Nat} (ht : o.dst ≠ some t) : s1.tmps[t]? = st.tmps[t]? := by
 by_cases hc : ∃ f args ats, o.op = .call { callee := .value f, args, argTypes := ats }
 ·obtain ⟨f, args, ats, ho⟩ := hc
  cases f <;> simp only [j8, ho] at h <;> try (simp [T.val_fail] at h; done)
  ·split at h
   ·exact a3G ht h
   ·simp [T.val_fail] at h
  ·unfold b6g at h
   split at h
   ·exact a3G ht h
   ·split at h
    ·split at h
     ·rw [T.val_ite] at h
      rcases h with ⟨_, h⟩ | ⟨_, h⟩
      ·rw [T.val_ret] at h
       subst h
       exact B0 ht
      ·exact a3G ht h
     ·simp [T.val_fail] at h
    ·simp [T.val_fail] at h
   ·split at h
    ·rw [T.val_ite] at h
     rcases h with ⟨_, h⟩ | ⟨_, h⟩
     ·rw [T.val_ret] at h
      subst h
      exact B0 ht
     ·simp [T.val_fail] at h
    ·simp [T.val_fail] at h
 have hc' : ∀ f args ats, o.op ≠ .call { callee := .value f, args, argTypes := ats } := fun f args ats e => hc ⟨f, args, ats, e⟩
 by_cases hw : a2H o.op = false
 ·rw [b8s hc'] at h
  have hm := b1j (E := E.flat) (nm := nm) (Q1 (ops := #[]) o st).agree (Q1 (ops := #[]) o st).kn (fun _ _ => rfl) hw
  obtain ⟨v, news, st1, h1, rfl, _⟩ := hm s1 h
  obtain ⟨_, rfl⟩ := a1e.1 h1
  rw [B0 ht]
 ·obtain ⟨dst, op, type, pos, after, guard⟩ := o
  simp only at hw ht
  have hvec : ∀ {s : St} {l : List Seg} {len es : Nat} {s1 : St}, s.tmps = st.tmps → (newVec s nm dst l len es).val = some s1 → s1.tmps[t]? = st.tmps[t]? := by
   intro s l len es s1 hs h
   unfold newVec at h
   split at h
   ·rename_i s2 h2
    rw [T.val_ret] at h
    subst h
    unfold St.new at h2
    split at h2
    ·cases h2
     rw [St.putA, B0 ht]
     simp only [hs]
    ·cases h2
   ·simp [T.val_fail] at h
  cases op <;> simp only [a2H] at hw <;> try (first | exact (hw trivial).elim | exact absurd rfl hw)
  case store ty p x =>
   simp only [j8] at h
   split at h
   ·simp only [T.val_bind_iff, T.val_ret] at h
    obtain ⟨s, h1, rfl⟩ := h
    rw [B0 ht]
    have hupd : ∀ ob m l, (st.upd ob m l).tmps = st.tmps := fun _ _ _ => rfl
    unfold a59 at h1
    repeat' first
     | (simp [T.val_fail] at h1; done)
     | (simp only [T.val_bind_iff, T.val_ret] at h1; obtain ⟨l', _, rfl⟩ := h1; rw [hupd])
     | split at h1
   ·simp [T.val_fail] at h
  case call c =>
   obtain ⟨callee, args, ats⟩ := c
   cases callee with
   | builtin b =>
    cases b <;> simp only at hw <;> try (first | exact (hw trivial).elim | exact absurd rfl hw)
    case append =>
     simp only [j8] at h
     split at h
     ·unfold b1m at h
      repeat' first
       | (simp [T.val_fail] at h; done)
       | (have hs0 := b8p ‹b8G _ _ _ = some (_, _, _)›; simp only [T.val_ite, T.val_fail, and_false, or_false] at h; first | exact hvec hs0 h.2 | exact hvec (Eq.trans rfl hs0 : (St.kill _ _).tmps = _) h.2)
       | split at h
     ·simp [T.val_fail] at h
    case copy =>
     simp only [j8] at h
     split at h
     ·unfold b80 at h
      repeat' first
       | (simp [T.val_fail] at h; done)
       | (rw [T.val_ret] at h; subst h; rw [St.putA, B0 ht]; rfl)
       | split at h
     ·simp [T.val_fail] at h
   | value f => first | exact (hw trivial).elim | exact absurd rfl hw
   | invoke r m => first | exact (hw trivial).elim | exact absurd rfl hw
omit [Flat E] in
theorem a5z {s1 : St} (h : a1V E ops nm o st = some s1) {t : Nat} (ht : o.dst ≠ some t) : s1.tmps[t]? = st.tmps[t]? := by
 unfold a1V at h
 split at h
 ·exact b36 h ht
 ·split at h
  ·cases h
  ·split at h
   ·cases h; rw [B0 ht]
   split at h
   ·split at h
    ·exact b36 h ht
    ·cases h; rw [B0 ht]
   ·cases h
omit [Flat E] in
theorem a8j {ft : Option Nat} {s1 : St} (h : opV E ops ft nm o st = some s1) {t : Nat} (ht : o.dst ≠ some t) : s1.tmps[t]? = st.tmps[t]? := a5z (I5.1 h).2 ht
theorem b15 {s : St} {d d' : Option Tmp} {u v : TV} (h : ∀ t, d = some t → d' ≠ some t) : (s.put d u).put d' v = (s.put d' v).put d u := by
 unfold St.put
 cases d with
 | none => cases d' <;> rfl
 | some t =>
  cases d' with
  | none => rfl
  | some t' =>
   simp only
   rw [List.set_comm]
   intro e; subst e; exact h t rfl rfl
def Beside (d : Option Tmp) (u : TV) (t1 t2 : T St) : Prop := t2.val = (t1.val).map (·.put d u)
theorem Beside.ret {d : Option Tmp} {u : TV} {x y : St} (h : y = x.put d u) : Beside d u (.ret x) (.ret y) := by subst h; rfl
theorem Beside.fail {d : Option Tmp} {u : TV} : Beside d u .fail .fail := rfl
theorem Beside.ite {d : Option Tmp} {u : TV} {p : Prop} {i : Decidable p} {A A' B B' : T St} (h1 : Beside d u A A') (h2 : Beside d u B B') : Beside d u (.ite p i A B) (.ite p i A' B') := by
 unfold Beside at *
 unfold T.val at *
 simp only [T.run]
 split
 ·exact h1
 ·exact h2
theorem Beside.bind {α : Type} {d : Option Tmp} {u : TV} (X : T α) {f g : α → T St} (h : ∀ a, Beside d u (f a) (g a)) : Beside d u (X.bind f) (X.bind g) := by
 unfold Beside at *
 apply Option.ext
 intro s
 rw [T.val_bind_iff, Option.map_eq_some_iff]
 constructor
 ·rintro ⟨x, h1, h2⟩
  rw [h x, Option.map_eq_some_iff] at h2
  obtain ⟨y, h3, h4⟩ := h2
  exact ⟨y, by rw [T.val_bind_iff]; exact ⟨x, h1, h3⟩, h4⟩
 ·rintro ⟨y, h1, h4⟩
  rw [T.val_bind_iff] at h1
  obtain ⟨x, h1, h2⟩ := h1
  exact ⟨x, h1, by rw [h x, h2]; exact congrArg some h4⟩
theorem Beside.bind2 {d : Option Tmp} {u : TV} {X Y : T St} {f g : St → T St} (hX : Beside d u X Y) (h : ∀ s, Beside d u (f s) (g (s.put d u))) : Beside d u (X.bind f) (Y.bind g) := by
 unfold Beside at *
 apply Option.ext
 intro s
 rw [T.val_bind_iff, Option.map_eq_some_iff, hX]
 constructor
 ·rintro ⟨x, h1, h2⟩
  rw [Option.map_eq_some_iff] at h1
  obtain ⟨x0, h1, rfl⟩ := h1
  rw [h x0, Option.map_eq_some_iff] at h2
  obtain ⟨y, h3, h4⟩ := h2
  exact ⟨y, by rw [T.val_bind_iff]; exact ⟨x0, h1, h3⟩, h4⟩
 ·rintro ⟨y, h1, h4⟩
  rw [T.val_bind_iff] at h1
  obtain ⟨x, h1, h2⟩ := h1
  exact ⟨x.put d u, by rw [h1]; rfl, by rw [h x, h2]; exact congrArg some h4⟩
theorem a9B (s : St) (d : Option Tmp) (u : TV) : (s.put d u).mem = s.mem := by unfold St.put; cases d <;> rfl
theorem S5 (s : St) (d : Option Tmp) (u : TV) (n : Nat) : (s.put d u).look n = s.look n := by unfold St.look; rw [a9B]
theorem b5J (s : St) (d : Option Tmp) (u : TV) (o : Nat) : (s.put d u).kill o = (s.kill o).put d u := by unfold St.kill St.put; cases d <;> rfl
theorem b4j (s : St) (d : Option Tmp) (u : TV) (a : A1) : a20 (s.put d u) a = (a20 s a).map fun p => (p.1, p.2.1, p.2.2.put d u) := by
 unfold a20
 cases a <;> try rfl
 rename_i o n es
 simp only [S5]
 split
 ·simp only [Option.map_some, b5J]
 ·rfl
theorem b9D {s : St} {d : Option Tmp} {u : TV} (hsrc : ∀ es tv, b34 (s.put d u) es tv = b34 s es tv) (es : Nat) (tv : TV) : b8G (s.put d u) es tv = (b8G s es tv).map fun p => (p.1, p.2.1, p.2.2.put d u) := by
 unfold b8G
 rw [hsrc]
 split
 ·rw [b4j]
  cases a20 s _ with
  | none => rfl
  | some p => rfl
 ·rfl
 ·rfl
theorem Beside.newVec {d : Option Tmp} {u : TV} {s s2 : St} {dst : Option Tmp} (hd2 : ∀ t, d = some t → dst ≠ some t) (hs : s2 = s.put d u) (l : List Seg) (len es : Nat) : Beside d u (newVec s nm dst l len es) (newVec s2 nm dst l len es) := by
 subst hs
 unfold Ax.newVec St.new
 rw [a9B]
 split
 ·rename_i s1 h
  split at h
  ·cases h
   exact Beside.ret (by unfold St.putA; rw [← b15 hd2]; cases d <;> rfl)
  ·cases h
 ·rename_i h
  split at h
  ·cases h
  ·exact Beside.fail
omit [Flat E] in
theorem b62 {s : St} {d : Option Tmp} {u : TV} (hget : ∀ x ∈ o.op.operands, (s.put d u).get x = s.get x) (hd2 : ∀ t, d = some t → o.dst ≠ some t) (hw : a2H o.op = true) :
  (j8 E nm o (s.put d u)).val = ((j8 E nm o s).val).map (·.put d u) := by
 obtain ⟨dst, op, type, pos, after, guard⟩ := o
 simp only at hget hd2 hw ⊢
 show Beside d u _ _
 cases op <;> simp only [a2H] at hw <;> try (first | exact absurd hw (by decide) | cases hw; done)
 case store ty p x =>
  simp only [Op.operands] at hget
  simp only [j8, hget p (by simp), hget x (by simp)]
  split
  ·refine Beside.bind2 ?_ fun s1 => Beside.ret (b15 hd2)
   unfold a59
   rw [S5]
   repeat' first
    | exact Beside.fail
    | refine Beside.bind _ fun l => Beside.ret ?_
    | split
   all_goals (unfold St.upd St.put; cases d <;> rfl)
  ·exact Beside.fail
 case call c =>
  obtain ⟨callee, args, ats⟩ := c
  cases callee with
  | builtin b =>
   cases b <;> simp only at hw <;> try (first | exact absurd hw (by decide) | cases hw; done)
   case append =>
    simp only [j8]
    split
    ·rename_i t t2 x y e1 e2
     have hmem : ∀ z ∈ args.toList, (s.put d u).get z = s.get z := fun z hz => hget z (by simp only [Op.operands, Call.operands]; simpa using hz)
     have hx : (s.put d u).get x = s.get x := hmem x (by rw [e2]; simp)
     have hy : (s.put d u).get y = s.get y := hmem y (by rw [e2]; simp)
     rw [hx, hy]
     have hsrc : ∀ es tv, b34 (s.put d u) es tv = b34 s es tv := by
      intro es tv
      unfold b34
      repeat' (first | rfl | rw [S5] | split)
     unfold b1m
     simp only [b9D hsrc]
     split
     ·split
      ·rename_i te _
       cases b8G s te.size (s.get y) with
       | none => exact Beside.fail
       | some p =>
        obtain ⟨l, m, s1⟩ := p
        simp only [Option.map_some, S5]
        repeat' first
         | exact Beside.fail
         | exact Beside.newVec hd2 rfl _ _ _
         | exact Beside.newVec hd2 (b5J ..) _ _ _
         | refine Beside.ite ?_ ?_
         | split
      ·exact Beside.fail
     ·exact Beside.fail
    ·exact Beside.fail
   case copy =>
    simp only [j8]
    split
    ·rename_i t ts x y e1 e2
     have hmem : ∀ z ∈ args.toList, (s.put d u).get z = s.get z := fun z hz => hget z (by simp only [Op.operands, Call.operands]; simpa using hz)
     have hx : (s.put d u).get x = s.get x := hmem x (by rw [e2]; simp)
     have hy : (s.put d u).get y = s.get y := hmem y (by rw [e2]; simp)
     rw [hx, hy]
     have hsl : ∀ k z, x6 k (s.put d u) z = x6 k s z := by
      intro k z
      unfold x6
      repeat' (first | rfl | rw [S5] | split)
     have hup : ∀ n md l v, ((s.put d u).upd n md l).putA dst v = ((s.upd n md l).putA dst v).put d u := by
      intro n md l v
      have : (s.put d u).upd n md l = (s.upd n md l).put d u := by unfold St.upd St.put; cases d <;> rfl
      rw [this]
      exact b15 hd2
     unfold b80
     simp only [hsl, S5]
     repeat' first
      | exact Beside.fail
      | exact Beside.ret (hup _ _ _ _)
      | split
    ·exact Beside.fail
  | value f => exact absurd hw (by simp)
  | invoke r m => exact absurd hw (by simp)
end
end Go.Ax
