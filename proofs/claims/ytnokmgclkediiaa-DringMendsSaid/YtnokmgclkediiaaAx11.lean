/- A part of the proof: Ax11. -/
import Derived.Test.YtnokmgclkediiaaAx10
/-! ### Slices, values put together, conversions -/
namespace Go.Ax
open Go.RowKit

variable {P : Program}
section
variable {ρ : Env} {B : Nat} {w0 : World} {st st' : St} {a : Act} {w : World}

theorem sound_unOp {E : AE} {nm : Nat} {o : Oper} {op : UnOp} {t : TypeId} {x : Operand} (ho : o.op = .unOp op t x) (hr : Rel ρ B w0 st a w) (h : (step E nm o st).val = some st') : FitsV P ρ B w0 st' o a w := by
  have hx := hr.get x
  simp only [step, ho] at h
  split at h
  · rename_i k n e
    rw [e] at hx
    have hx' : a.eval x = .int k n := hx
    rw [T.val_ret] at h
    subst h
    exact ⟨.int k (k.wrap (0 - n)), w, ρ, by simp [execOp, ho, hx', Op.unary, Op.intArith], .refl ρ, hr.putA o.dst rfl⟩
  · rename_i k n e
    rw [e] at hx
    have hx' : a.eval x = .int k n := hx
    rw [T.val_ret] at h
    subst h
    exact ⟨.int k (ixor k (if k.signed then -1 else k.max) n), w, ρ, by simp [execOp, ho, hx', Op.unary, Op.intBits, ixor, wmask], .refl ρ, hr.putA o.dst rfl⟩
  · rename_i y e
    rw [e] at hx
    split at h
    · rename_i r hr'
      rw [T.val_ret] at h
      subst h
      unfold notA at hr'
      split at hr'
      · rename_i b
        cases hr'
        have hx' : a.eval x = .bool b := hx
        exact ⟨.bool (!b), w, ρ, by simp [execOp, ho, hx', Op.unary], .refl ρ, hr.putA o.dst (by cases b <;> rfl)⟩
      · rename_i p d
        cases hr'
        have hx' : a.eval x = .bool (@decide p d) := hx
        exact ⟨.bool (!decide p), w, ρ, by simp [execOp, ho, hx', Op.unary], .refl ρ, hr.putA o.dst (by simp [A1.rel])⟩
      · cases hr'
    · simp [T.val_fail] at h
  · simp [T.val_fail] at h

theorem sound_convert {E : AE} (hE : ∀ t i, E.ty t = some i → TyOk P t i) {nm : Nat} {o : Oper} {s t : TypeId} {x : Operand} (ho : o.op = .convert s t x) (hr : Rel ρ B w0 st a w) (h : (step E nm o st).val = some st') : FitsV P ρ B w0 st' o a w := by
  have hx := hr.get x
  simp only [step, ho] at h
  unfold convT at h
  split at h
  · rename_i ts k _ _ _ k' n hs ht e
    rw [e] at hx
    have hx' : a.eval x = .int k' n := hx
    obtain ⟨d, hd, hdd⟩ := (hE t _ ht).desc
    simp only [TD.is] at hdd
    subst hdd
    obtain ⟨d', hd', _⟩ := (hE s _ hs).desc
    rw [T.val_ret] at h
    subst h
    refine ⟨.int k (k.wrap n), w, ρ, ?_, .refl ρ, hr.putA o.dst rfl⟩
    simp only [execOp, ho, hx', convert, Sem.run_bind, run_underlying hd', run_underlying hd, Result.andThen_ok]
    cases d' <;> rfl
  · rename_i ts _ _ _ str hs ht e
    rw [e] at hx
    have hx' : a.eval x = .string str := hx
    obtain ⟨d, hd, hdd⟩ := (hE t _ ht).desc
    simp only [TD.is] at hdd
    subst hdd
    obtain ⟨d', hd', _⟩ := (hE s _ hs).desc
    rw [T.val_ret] at h
    subst h
    refine ⟨.string str, w, ρ, ?_, .refl ρ, hr.putA o.dst rfl⟩
    simp only [execOp, ho, hx', convert, Sem.run_bind, run_underlying hd', run_underlying hd, Result.andThen_ok]
    cases d' <;> rfl
  · simp [T.val_fail] at h

/-- A bound of a slice expression. -/
theorem boundT_spec (hr : Rel ρ B w0 st a w) {x : Option Operand} {d most : Nat} {K : Nat → T St} (h : (boundT st x d most K).val = some st') :
    ∃ n, (K n).val = some st' ∧ ((x = none ∧ n = d) ∨ ∃ y, x = some y ∧ n ≤ most ∧ ∀ (w : World) (m : Nat) (code : BoundsCode), most ≤ m → (Instr.sliceBound (a.eval y) m code).run P w = .ok n w) := by
  unfold boundT at h
  split at h
  · exact ⟨d, h, .inl ⟨rfl, rfl⟩⟩
  · rename_i y
    have hy := hr.get y
    split at h
    · rename_i k j e
      have hv := asI_rel e hy
      have key : ∀ n : Nat, (0 : Int) ≤ j → j = (n : Int) → n ≤ most → ∀ (w : World) (m : Nat) (code : BoundsCode), most ≤ m → (Instr.sliceBound (a.eval y) m code).run P w = .ok n w := by
        intro n h0 hn hle w m code hm
        have hc : (0 ≤ j ∧ j ≤ (m : Int)) := ⟨h0, by omega⟩
        have : j.toNat = n := by omega
        simp [Instr.sliceBound, hv, asIntOf, hc, this]
      split at h
      · split at h
        · rename_i j'
          simp only [T.val_ite, T.val_fail, and_false, or_false] at h
          exact ⟨j', h.2, .inr ⟨y, rfl, h.1, key j' (by simp) rfl h.1⟩⟩
        · simp [T.val_fail] at h
      · simp only [T.val_ite, T.val_fail, and_false, or_false] at h
        obtain ⟨h0, h1, h2⟩ := h
        exact ⟨j.toNat, h2, .inr ⟨y, rfl, by omega, key _ h0 (by omega) (by omega)⟩⟩
    · simp [T.val_fail] at h

/-- Both bounds. -/
theorem bounds_spec (hr : Rel ρ B w0 st a w) {lo hi : Option Operand} {len most : Nat} (hlm : len ≤ most) {K : Nat → Nat → T St} (h : (boundT st hi len len fun h => boundT st lo 0 h fun l => K h l).val = some st') :
    ∃ hN lN, (K hN lN).val = some st' ∧ lN ≤ hN ∧ hN ≤ len ∧ ∀ (b : Bool) (w : World), (Instr.sliceBounds b len most (lo.map a.eval) (hi.map a.eval) none).run P w = .ok (lN, hN, most) w := by
  obtain ⟨hN, h1, c1⟩ := boundT_spec (P := P) hr h
  obtain ⟨lN, h2, c2⟩ := boundT_spec (P := P) hr h1
  have hh : hN ≤ len := by
    rcases c1 with ⟨_, rfl⟩ | ⟨_, _, q, _⟩
    · exact Nat.le_refl _
    · exact q
  have hl : lN ≤ hN := by
    rcases c2 with ⟨_, rfl⟩ | ⟨_, _, q, _⟩
    · exact Nat.zero_le _
    · exact q
  refine ⟨hN, lN, h2, hl, hh, fun b w => ?_⟩
  unfold Instr.sliceBounds
  rcases c1 with ⟨rfl, rfl⟩ | ⟨y, rfl, q, q'⟩
  · rcases c2 with ⟨rfl, rfl⟩ | ⟨z, rfl, r, r'⟩
    · simp
    · simp [r' w hN _ (Nat.le_refl _)]
  · rcases c2 with ⟨rfl, rfl⟩ | ⟨z, rfl, r, r'⟩
    · simp [q' w most _ hlm]
    · simp [q' w most _ hlm, r' w hN _ (Nat.le_refl _)]

theorem sound_slice {E : AE} (hE : ∀ t i, E.ty t = some i → TyOk P t i) {nm : Nat} {o : Oper} {t : TypeId} {x : Operand} {lo hi : Option Operand} (ho : o.op = .slice t x lo hi none) (hr : Rel ρ B w0 st a w) (h : (step E nm o st).val = some st') : FitsV P ρ B w0 st' o a w := by
  have hx := hr.get x
  simp only [step, ho] at h
  unfold sliceT at h
  split at h
  · rename_i n e _ _ _ ob b ht hp
    rw [hp] at hx
    obtain ⟨d, hd, hdd⟩ := (hE t _ ht).desc
    simp only [TD.is] at hdd
    subst hdd
    split at h
    · rename_i te obj hte hob
      split at h
      · rename_i hfit
        obtain ⟨hN, lN, h1, hl, hh, hb⟩ := bounds_spec (P := P) hr (Nat.le_refl n) h
        rw [T.val_ret] at h1
        subst h1
        obtain ⟨l, blk, of0, k1, k2, k3⟩ := hx
        have hs := (hE e te hte).run_size w
        obtain ⟨_, _, _, _, _, C, _, _, _, g4, g5, _, _⟩ := hr.row hob k1 k2
        have hseg := segRel_len g4
        have hfit' := Nat.le_of_ble_eq_true hfit
        refine ⟨.slice (some (if n = lN then ⟨blk, of0 + b, none⟩ else ⟨blk, of0 + b + lN * te.size, none⟩)) (hN - lN) (n - lN), w, ρ, ?_, .refl ρ, hr.putA o.dst ?_⟩
        · simp only [execOp, ho, Instr.sliceAt, Sem.run_bind, run_underlying hd, Result.andThen_ok, k3, Instr.sureAddr, Sem.run_pure, Option.map_none, hb, hs, Option.getD_none, Nat.add_zero]
          by_cases hnl : n = lN <;> simp [hnl, Addr.add_lit]
        · have hm : (hN - lN) * te.size = hN * te.size - lN * te.size := Nat.sub_mul _ _ _
          have hm1 : lN * te.size ≤ hN * te.size := Nat.mul_le_mul_right _ hl
          have hm2 : hN * te.size ≤ n * te.size := Nat.mul_le_mul_right _ hh
          refine ⟨l, _, _, k1, by rw [subN_eq], by rw [subN_eq, subN_eq]; omega, by rw [subN_eq]; exact Nat.le_refl _, by rw [addN_eq, mulN_eq, subN_eq, ← g5, hseg, hm]; omega, fun hpos => ?_⟩
          rw [subN_eq] at hpos
          rw [if_neg (by omega)]
          exact ⟨blk, of0, k2, by rw [addN_eq, mulN_eq]; congr 2; omega⟩
      · simp [T.val_fail] at h
    · simp [T.val_fail] at h
  · rename_i e _ _ _ ob len es ht hp
    rw [hp] at hx
    obtain ⟨d, hd, hdd⟩ := (hE t _ ht).desc
    simp only [TD.is] at hdd
    subst hdd
    obtain ⟨l, k1, k2, k2', k3, k4, k5, k6⟩ := hx
    split at h
    · rename_i te hte
      split at h
      · rename_i hes
        have hes := beq_t hes
        have hlc : len ≤ l.cap := by omega
        obtain ⟨hN, lN, h1, hl, hh, hb⟩ := bounds_spec (P := P) hr hlc h
        rw [T.val_ret] at h1
        subst h1
        have hs := (hE e te hte).run_size w
        refine ⟨.slice (if l.cap = lN then l.adr else l.adr.map (·.add (lN * te.size))) (hN - lN) (l.cap - lN), w, ρ, ?_, .refl ρ, hr.putA o.dst ?_⟩
        · simp only [execOp, ho, Instr.sliceAt, Sem.run_bind, run_underlying hd, Result.andThen_ok, k3, Instr.slice, Option.map_none, k2, hb, hs, Sem.run_pure]
        · have hm : (hN - lN) * te.size = hN * te.size - lN * te.size := Nat.sub_mul _ _ _
          have hm1 : lN * te.size ≤ hN * te.size := Nat.mul_le_mul_right _ hl
          have hm2 : hN * te.size ≤ len * te.size := Nat.mul_le_mul_right _ hh
          refine ⟨l, _, _, k1, by rw [subN_eq], by rw [subN_eq, subN_eq]; omega, by rw [subN_eq]; omega, by rw [mulN_eq, subN_eq, hm, k2, k2', hes]; omega, fun hpos => ?_⟩
          rw [subN_eq] at hpos
          rw [if_neg (by omega)]
          cases ha : l.a with
          | none => have := k5 ha; omega
          | some p => exact ⟨p.1, p.2, rfl, by rw [k6 (by omega)]; simp [Loc.addr, ha, mulN_eq, Addr.add_lit]⟩
      · simp [T.val_fail] at h
    · simp [T.val_fail] at h
  · rename_i e _ _ _ ob off len cap es ht hp
    rw [hp] at hx
    obtain ⟨d, hd, hdd⟩ := (hE t _ ht).desc
    simp only [TD.is] at hdd
    subst hdd
    obtain ⟨l, a0, c, k1, k2, k3, k4, k5, k6⟩ := hx
    split at h
    · rename_i te hte
      split at h
      · rename_i hes
        have hes := beq_t hes
        have hlc : len ≤ c := by omega
        obtain ⟨hN, lN, h1, hl, hh, hb⟩ := bounds_spec (P := P) hr hlc h
        rw [T.val_ret] at h1
        subst h1
        have hs := (hE e te hte).run_size w
        refine ⟨.slice (if c = lN then a0 else a0.map (·.add (lN * te.size))) (hN - lN) (c - lN), w, ρ, ?_, .refl ρ, hr.putA o.dst ?_⟩
        · simp only [execOp, ho, Instr.sliceAt, Sem.run_bind, run_underlying hd, Result.andThen_ok, k2, Instr.slice, Option.map_none, hb, hs, Sem.run_pure]
        · have hm : (hN - lN) * te.size = hN * te.size - lN * te.size := Nat.sub_mul _ _ _
          have hm1 : lN * te.size ≤ hN * te.size := Nat.mul_le_mul_right _ hl
          have hm2 : hN * te.size ≤ len * te.size := Nat.mul_le_mul_right _ hh
          rw [hes] at k5
          refine ⟨l, _, _, k1, by rw [subN_eq], by rw [subN_eq, subN_eq]; omega, by rw [subN_eq]; omega, by rw [addN_eq, mulN_eq, subN_eq, hm]; omega, fun hpos => ?_⟩
          rw [subN_eq] at hpos
          rw [if_neg (by omega)]
          obtain ⟨blk, of0, q1, q2⟩ := k6 (by omega)
          exact ⟨blk, of0, q1, by simp [q2, addN_eq, mulN_eq, Addr.add_lit, Nat.add_assoc]⟩
      · simp [T.val_fail] at h
    · simp [T.val_fail] at h
  · rename_i _ _ _ s ht hp
    rw [hp] at hx
    obtain ⟨d, hd, hdd⟩ := (hE t _ ht).desc
    simp only [TD.is] at hdd
    subst hdd
    obtain ⟨hN, lN, h1, hl, hh, hb⟩ := bounds_spec (P := P) hr (Nat.le_refl s.size) h
    rw [T.val_ret] at h1
    subst h1
    have hx' : a.eval x = .string s := hx
    exact ⟨_, w, ρ, by simp [execOp, ho, Instr.sliceAt, run_underlying hd, hx', Instr.slice, hb], .refl ρ, hr.putA o.dst rfl⟩
  · simp [T.val_fail] at h

theorem exec_builtin {o : Oper} {b : Builtin} {args : Array Operand} {ats : Array TypeId} (ho : o.op = .call { callee := .builtin b, args, argTypes := ats }) (f : Operand → Value) :
    execOp f o = builtin b ats o.type (args.map fun | .const _ => true | _ => false) (args.map f) := by
  obtain ⟨dst, op, type, pos, after, guard⟩ := o
  simp only at ho
  subst ho
  rfl

theorem sound_len {E : AE} (hE : ∀ t i, E.ty t = some i → TyOk P t i) {nm : Nat} {o : Oper} {args : Array Operand} {ats : Array TypeId} (ho : o.op = .call { callee := .builtin .len, args, argTypes := ats }) (hr : Rel ρ B w0 st a w) (h : (step E nm o st).val = some st') : FitsV P ρ B w0 st' o a w := by
  simp only [step, ho] at h
  split at h
  · rename_i t _ x _ e1 e2
    have hx := hr.get x
    split at h
    · rename_i n hn
      rw [T.val_ret] at h
      subst h
      have g1 : ats[0]? = some t := by rw [← Array.getElem?_toList, e1]; rfl
      have g2 : (args.map a.eval)[0]? = some (a.eval x) := by rw [Array.getElem?_map, ← Array.getElem?_toList, e2]; rfl
      refine ⟨.int .i64 n, w, ρ, ?_, .refl ρ, hr.putA o.dst rfl⟩
      have key : (Builtin.len_ ats o.type (args.map a.eval)).run P w = .ok (goInt n) w := by
        unfold Builtin.len_
        simp only [g1, g2, Sem.run_bind]
        unfold lenT at hn
        split at hn
        · rename_i m e _ _ _ ht
          cases hn
          obtain ⟨d, hd, hdd⟩ := (hE t _ ht).desc
          simp only [TD.is] at hdd
          subst hdd
          simp [run_underlying hd]
        · rename_i ht hp
          cases hn
          obtain ⟨d, hd, hdd⟩ := (hE t _ ht).desc
          simp only [TD.is] at hdd
          subst hdd
          rw [hp] at hx
          obtain ⟨l, k1, k2, _, k3, _⟩ := hx
          simp [run_underlying hd, k3, k2]
        · rename_i ht hp
          cases hn
          obtain ⟨d, hd, hdd⟩ := (hE t _ ht).desc
          simp only [TD.is] at hdd
          subst hdd
          rw [hp] at hx
          obtain ⟨l, a0, c, k1, k2, _⟩ := hx
          simp [run_underlying hd, k2]
        · rename_i ht hp
          cases hn
          obtain ⟨d, hd, hdd⟩ := (hE t _ ht).desc
          simp only [TD.is] at hdd
          subst hdd
          rw [hp] at hx
          have hx' : a.eval x = .slice none 0 0 := hx
          simp [run_underlying hd, hx']
        · rename_i s ht hp
          cases hn
          obtain ⟨d, hd, hdd⟩ := (hE t _ ht).desc
          simp only [TD.is] at hdd
          subst hdd
          rw [hp] at hx
          have hx' : a.eval x = .string s := hx
          simp [run_underlying hd, hx']
        · cases hn
      rw [exec_builtin ho]
      simp [builtin, key, goInt]
    · simp [T.val_fail] at h
  · simp [T.val_fail] at h

theorem mmFold_spec (mx : Bool) (k : IntKind) : ∀ (l : List TV) (vs : List Value) (m n : Int), l.length = vs.length → (∀ (i : Nat) (v : TV) (x : Value), l[i]? = some v → vs[i]? = some x → TV.rel ρ v x) → mmFold mx k m l = some n →
    (vs.foldlM (if mx then Builtin.max2 else Builtin.min2) (.int k m)).run P w = .ok (.int k n) w
  | [], vs, m, n, hl, _, h => by
    have : vs = [] := List.eq_nil_of_length_eq_zero hl.symm
    subst this
    simp only [mmFold] at h
    cases h
    rfl
  | .one (.sc (.int k' b)) :: r, vs, m, n, hl, hrel, h => by
    cases vs with
    | nil => simp at hl
    | cons x xs =>
      have hx : x = .int k' b := hrel 0 _ x rfl rfl
      subst hx
      simp only [mmFold] at h
      split at h
      · rename_i hk
        subst hk
        have ih := mmFold_spec mx k r xs _ n (by simpa using hl) (fun i v y h1 h2 => hrel (i + 1) v y (by simpa using h1) (by simpa using h2)) h
        rw [List.foldlM_cons, Sem.run_bind]
        cases mx
        · simp only [Bool.false_eq_true, if_false, Builtin.min2, Sem.run_pure, Result.andThen_ok] at ih ⊢
          exact ih
        · simp only [if_true, Builtin.max2, Sem.run_pure, Result.andThen_ok] at ih ⊢
          exact ih
      · cases h
  | .one .any :: r, vs, m, n, hl, hrel, h => by simp [mmFold] at h
  | .one (.agg _) :: r, vs, m, n, hl, hrel, h => by simp [mmFold] at h
  | .tup _ :: r, vs, m, n, hl, hrel, h => by simp [mmFold] at h
  | .one (.sc .top) :: r, vs, m, n, hl, hrel, h => by simp [mmFold] at h
  | .one (.sc (.known _)) :: r, vs, m, n, hl, hrel, h => by simp [mmFold] at h
  | .one (.sc (.bool _ _)) :: r, vs, m, n, hl, hrel, h => by simp [mmFold] at h
  | .one (.sc (.str _)) :: r, vs, m, n, hl, hrel, h => by simp [mmFold] at h
  | .one (.sc (.ptr _ _ _)) :: r, vs, m, n, hl, hrel, h => by simp [mmFold] at h
  | .one (.sc .nilp) :: r, vs, m, n, hl, hrel, h => by simp [mmFold] at h
  | .one (.sc (.vec _ _ _)) :: r, vs, m, n, hl, hrel, h => by simp [mmFold] at h
  | .one (.sc (.sl _ _ _ _ _)) :: r, vs, m, n, hl, hrel, h => by simp [mmFold] at h
  | .one (.sc .nilsl) :: r, vs, m, n, hl, hrel, h => by simp [mmFold] at h
  | .one (.sc .nilif) :: r, vs, m, n, hl, hrel, h => by simp [mmFold] at h

theorem args_rel (hr : Rel ρ B w0 st a w) (args : List Operand) : ∀ (i : Nat) (v : TV) (x : Value), (args.map st.get)[i]? = some v → (args.map a.eval)[i]? = some x → TV.rel ρ v x := by
  intro i v x h1 h2
  rw [List.getElem?_map, Option.map_eq_some_iff] at h1 h2
  obtain ⟨y, e1, rfl⟩ := h1
  obtain ⟨z, e2, rfl⟩ := h2
  rw [e1] at e2
  cases e2
  exact hr.get y

theorem sound_minmax {E : AE} {nm : Nat} {o : Oper} {args : Array Operand} {ats : Array TypeId} {b : Builtin} {mx : Bool} (hb : b = if mx then .max else .min) (ho : o.op = .call { callee := .builtin b, args, argTypes := ats }) (hr : Rel ρ B w0 st a w) (h : (step E nm o st).val = some st') : FitsV P ρ B w0 st' o a w := by
  have h' : ∃ k n, minmax mx (args.toList.map st.get) = some (k, n) ∧ st.putA o.dst (.int k n) = st' := by
    cases mx
    · simp only [Bool.false_eq_true, if_false] at hb
      subst hb
      simp only [step, ho] at h
      split at h
      · rename_i k n e; rw [T.val_ret] at h; exact ⟨k, n, e, h⟩
      · simp [T.val_fail] at h
    · simp only [if_true] at hb
      subst hb
      simp only [step, ho] at h
      split at h
      · rename_i k n e; rw [T.val_ret] at h; exact ⟨k, n, e, h⟩
      · simp [T.val_fail] at h
  obtain ⟨k, n, h1, rfl⟩ := h'
  have hargs := args_rel hr args.toList
  refine ⟨.int k n, w, ρ, ?_, .refl ρ, hr.putA o.dst rfl⟩
  have hm : (args.map a.eval).toList = args.toList.map a.eval := Array.toList_map
  cases hl : args.toList with
  | nil => rw [hl] at h1; simp [minmax] at h1
  | cons y ys =>
    rw [hl] at h1 hargs hm
    simp only [List.map_cons] at h1 hargs hm
    unfold minmax at h1
    split at h1
    · rename_i k' m r e
      rw [List.cons.injEq] at e
      obtain ⟨e1, e2⟩ := e
      rw [Option.map_eq_some_iff] at h1
      obtain ⟨n', h2, h3⟩ := h1
      cases h3
      have hy : a.eval y = .int k m := by have := hr.get y; rw [e1] at this; exact this
      rw [← e2] at h2
      have := mmFold_spec (P := P) (w := w) (ρ := ρ) mx k (ys.map st.get) (ys.map a.eval) m n (by simp) (fun i v x g1 g2 => hargs (i + 1) v x (by simpa using g1) (by simpa using g2)) h2
      rw [exec_builtin ho]
      subst hb
      cases mx
      · simp only [Bool.false_eq_true, if_false] at this ⊢
        simp only [builtin, Builtin.min_, hm, hy, Sem.run_bind, this, Result.andThen_ok, Sem.run_pure]
      · simp only [if_true] at this ⊢
        simp only [builtin, Builtin.max_, hm, hy, Sem.run_bind, this, Result.andThen_ok, Sem.run_pure]
    · cases h1
end
end Go.Ax
