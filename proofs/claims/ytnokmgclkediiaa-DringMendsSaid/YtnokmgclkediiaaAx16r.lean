/- A part of the proof: Ax16r. -/
import Derived.Test.YtnokmgclkediiaaAx16
/-! ### Operations that look at slots alone, and writers beside them -/
namespace Go.Ax
open Go.RowKit

variable {P : Program}
section
variable {st st2 : St} {dst : Option Tmp}
/-- Two trees that put the same into a slot, and do no more. -/
def Puts (st st2 : St) (dst : Option Tmp) (t1 t2 : T St) : Prop :=
  ∀ s1, t1.val = some s1 → ∃ v, s1 = st.put dst v ∧ t2.val = some (st2.put dst v)
theorem Puts.ret (v : TV) : Puts st st2 dst (.ret (st.put dst v)) (.ret (st2.put dst v)) := by
  intro s1 h
  rw [T.val_ret] at h
  subst h
  exact ⟨v, rfl, (T.val_ret _ _).2 rfl⟩
theorem Puts.retA (v : A1) : Puts st st2 dst (.ret (st.putA dst v)) (.ret (st2.putA dst v)) := Puts.ret _
theorem Puts.fail (t : T St) : Puts st st2 dst .fail t := by
  intro s1 h
  simp [T.val_fail] at h
theorem Puts.ite {p : Prop} {d : Decidable p} {A A' B B' : T St} (h1 : Puts st st2 dst A A') (h2 : Puts st st2 dst B B') : Puts st st2 dst (.ite p d A B) (.ite p d A' B') := by
  intro s1 h
  rw [T.val_ite] at h
  rcases h with ⟨hp, h⟩ | ⟨hp, h⟩
  · obtain ⟨v, a1, a2⟩ := h1 s1 h
    exact ⟨v, a1, by rw [T.val_ite]; exact .inl ⟨hp, a2⟩⟩
  · obtain ⟨v, a1, a2⟩ := h2 s1 h
    exact ⟨v, a1, by rw [T.val_ite]; exact .inr ⟨hp, a2⟩⟩
theorem Puts.bind {α : Type} (X : T α) {f g : α → T St} (h : ∀ a, Puts st st2 dst (f a) (g a)) : Puts st st2 dst (X.bind f) (X.bind g) := by
  intro s1 h1
  rw [T.val_bind_iff] at h1
  obtain ⟨x, hx, h1⟩ := h1
  obtain ⟨v, a1, a2⟩ := h x s1 h1
  exact ⟨v, a1, by rw [T.val_bind_iff]; exact ⟨x, hx, a2⟩⟩
end
theorem regOp_wr {o : Op} (h : regOp o = true) : wrOp o = false := by cases o <;> simp [regOp] at h <;> rfl

theorem step_reg {E : AE} {st st2 : St} {nm : Nat} {o : Oper} (hget : ∀ x ∈ o.op.operands, st2.get x = st.get x) (hw : regOp o.op = true) : Puts st st2 o.dst (step E nm o st) (step E nm o st2) := by
  obtain ⟨dst, op, type, pos, after, guard⟩ := o
  simp only at hget hw ⊢
  cases op <;> simp only [regOp] at hw <;> try (first | exact absurd hw (by decide) | cases hw; done)
  case move x => simp only [Op.operands] at hget; simp only [step, hget x (by simp)]; exact Puts.ret _
  case assign x => simp only [Op.operands] at hget; simp only [step, hget x (by simp)]; exact Puts.ret _
  case pick c x y =>
    simp only [Op.operands] at hget
    simp only [step, hget c (by simp), hget x (by simp), hget y (by simp)]
    repeat' first | exact Puts.fail _ | exact Puts.ret _ | refine Puts.ite ?_ ?_ | split
  case nilCheck x =>
    simp only [Op.operands] at hget
    simp only [step, hget x (by simp)]
    repeat' first | exact Puts.fail _ | exact Puts.retA _ | split
  case binOp op t x y yt =>
    simp only [Op.operands] at hget
    simp only [step]
    unfold binT
    simp only [hget x (by simp), hget y (by simp)]
    repeat' first | exact Puts.fail _ | exact Puts.retA _ | (refine Puts.bind _ ?_; intro _) | split
  case unOp op t x =>
    simp only [Op.operands] at hget
    simp only [step, hget x (by simp)]
    repeat' first | exact Puts.fail _ | exact Puts.retA _ | split
  case convert s t x =>
    simp only [Op.operands] at hget
    simp only [step, hget x (by simp)]
    unfold convT
    repeat' first | exact Puts.fail _ | exact Puts.retA _ | split
  case indexAddr t x ix =>
    simp only [Op.operands] at hget
    simp only [step]
    unfold indexAddrT
    simp only [hget x (by simp), hget ix (by simp)]
    repeat' first | exact Puts.fail _ | exact Puts.retA _ | refine Puts.ite ?_ ?_ | split
  case index t x ix =>
    simp only [Op.operands] at hget
    simp only [step]
    unfold indexT
    simp only [hget x (by simp), hget ix (by simp)]
    repeat' first | exact Puts.fail _ | exact Puts.retA _ | exact Puts.ret _ | refine Puts.ite ?_ ?_ | (refine Puts.bind _ ?_; intro _) | split
  case fieldAddr t x f =>
    simp only [Op.operands] at hget
    simp only [step, hget x (by simp)]
    repeat' first | exact Puts.fail _ | exact Puts.retA _ | split
  case field t x f =>
    simp only [Op.operands] at hget
    simp only [step, hget x (by simp)]
    repeat' first | exact Puts.fail _ | exact Puts.ret _ | (refine Puts.bind _ ?_; intro _) | split
  case extract x j =>
    simp only [Op.operands] at hget
    simp only [step, hget x (by simp)]
    repeat' first | exact Puts.fail _ | exact Puts.ret _ | split
  case makeFunc fv first captured =>
    cases fv with
    | func f =>
      simp only [Op.operands] at hget
      simp only [step]
      have hc : ∀ x ∈ captured.toList, st2.get x = st.get x := fun x hx => hget x (by simp only [Array.mem_append]; exact .inr (Array.mem_toList_iff.1 hx))
      unfold makeFuncT
      split
      · exact Puts.retA _
      · rename_i x e1 e2
        rw [hc x (by rw [e2]; simp)]
        split
        · exact Puts.retA _
        · exact Puts.fail _
      · exact Puts.fail _
    | _ => cases hw

section
variable {ρ : Env} {B : Nat} {w0 : World} {st st' : St} {a : Act} {w : World} {nm : Nat} {o : Oper} {ops : Array Oper} {E : AE}

theorem sees_refl (o : Oper) (s : St) : Sees ops o (fun _ => True) s s :=
  ⟨fun _ _ => rfl, fun _ _ _ _ _ => rfl, fun x _ => by
    cases s.get x with
    | tup l => trivial
    | one v => cases v <;> first | trivial | exact fun _ _ => trivial, ⟨fun _ _ _ h => h, fun _ _ _ _ _ _ _ _ => trivial⟩⟩

theorem put_tmps_ne {st : St} {dst : Option Tmp} {v : TV} {t : Nat} (h : dst ≠ some t) : (st.put dst v).tmps[t]? = st.tmps[t]? := by
  unfold St.put
  cases dst with
  | none => rfl
  | some d => exact List.getElem?_set_ne (fun e => h (by rw [e]))

/-- An operation writes no slot but its own. -/
theorem step_tmps {s1 : St} (h : (step E nm o st).val = some s1) {t : Nat} (ht : o.dst ≠ some t) : s1.tmps[t]? = st.tmps[t]? := by
  by_cases hw : wrOp o.op = false
  · have hm := step_moves (E := E) (nm := nm) (sees_refl (ops := #[]) o st).agree (sees_refl (ops := #[]) o st).kn (fun _ _ => rfl) hw
    obtain ⟨v, news, st1, h1, rfl, _⟩ := hm s1 h
    obtain ⟨_, rfl⟩ := newAll_iff.1 h1
    rw [put_tmps_ne ht]
  · obtain ⟨dst, op, type, pos, after, guard⟩ := o
    simp only at hw ht
    have hvec : ∀ {s : St} {l : List Seg} {len es : Nat} {s1 : St}, s.tmps = st.tmps → (newVec s nm dst l len es).val = some s1 → s1.tmps[t]? = st.tmps[t]? := by
      intro s l len es s1 hs h
      unfold newVec at h
      split at h
      · rename_i s2 h2
        rw [T.val_ret] at h
        subst h
        unfold St.new at h2
        split at h2
        · cases h2
          rw [St.putA, put_tmps_ne ht]
          simp only [hs]
        · cases h2
      · simp [T.val_fail] at h
    cases op <;> simp only [wrOp] at hw <;> try (first | exact (hw trivial).elim | exact absurd rfl hw)
    case store ty p x =>
      simp only [step] at h
      split at h
      · simp only [T.val_bind_iff, T.val_ret] at h
        obtain ⟨s, h1, rfl⟩ := h
        rw [put_tmps_ne ht]
        have hupd : ∀ ob l, (st.upd ob l).tmps = st.tmps := fun _ _ => rfl
        unfold storeT at h1
        repeat' first
          | (simp [T.val_fail] at h1; done)
          | (simp only [T.val_bind_iff, T.val_ret] at h1; obtain ⟨l', _, rfl⟩ := h1; rw [hupd])
          | split at h1
      · simp [T.val_fail] at h
    case call c =>
      obtain ⟨callee, args, ats⟩ := c
      cases callee with
      | builtin b =>
        cases b <;> simp only at hw <;> try (first | exact (hw trivial).elim | exact absurd rfl hw)
        simp only [step] at h
        split at h
        · unfold appendT at h
          repeat' first
            | (simp [T.val_fail] at h; done)
            | (simp only [T.val_ite, T.val_fail, and_false, or_false] at h; first | exact hvec rfl h.2 | exact hvec (s := St.kill st _) rfl h.2)
            | split at h
        · simp [T.val_fail] at h
      | value f => first | exact (hw trivial).elim | exact absurd rfl hw
      | invoke r m => first | exact (hw trivial).elim | exact absurd rfl hw

theorem opV0_tmps {s1 : St} (h : opV0 E ops nm o st = some s1) {t : Nat} (ht : o.dst ≠ some t) : s1.tmps[t]? = st.tmps[t]? := by
  unfold opV0 at h
  split at h
  · exact step_tmps h ht
  · split at h
    · cases h
    · split at h
      · cases h; rw [put_tmps_ne ht]
      split at h
      · split at h
        · exact step_tmps h ht
        · cases h; rw [put_tmps_ne ht]
      · cases h


theorem opV_tmps {ft : Option Nat} {s1 : St} (h : opV E ops ft nm o st = some s1) {t : Nat} (ht : o.dst ≠ some t) : s1.tmps[t]? = st.tmps[t]? := opV0_tmps (opV_iff.1 h).2 ht

theorem put_put0 {s : St} {d d' : Option Tmp} {u v : TV} (h : ∀ t, d = some t → d' ≠ some t) : (s.put d u).put d' v = (s.put d' v).put d u := by
  unfold St.put
  cases d with
  | none => cases d' <;> rfl
  | some t =>
    cases d' with
    | none => rfl
    | some t' =>
      simp only
      rw [List.set_comm]
      intro e; subst e; exact h t rfl rfl
/-- A tree that makes of the second state what the first makes of the first, but for one slot. -/
def Beside (d : Option Tmp) (u : TV) (t1 t2 : T St) : Prop := t2.val = (t1.val).map (·.put d u)
theorem Beside.ret {d : Option Tmp} {u : TV} {x y : St} (h : y = x.put d u) : Beside d u (.ret x) (.ret y) := by subst h; rfl
theorem Beside.fail {d : Option Tmp} {u : TV} : Beside d u .fail .fail := rfl
theorem Beside.ite {d : Option Tmp} {u : TV} {p : Prop} {i : Decidable p} {A A' B B' : T St} (h1 : Beside d u A A') (h2 : Beside d u B B') : Beside d u (.ite p i A B) (.ite p i A' B') := by
  unfold Beside at *
  unfold T.val at *
  simp only [T.run]
  split
  · exact h1
  · exact h2
theorem Beside.bind {α : Type} {d : Option Tmp} {u : TV} (X : T α) {f g : α → T St} (h : ∀ a, Beside d u (f a) (g a)) : Beside d u (X.bind f) (X.bind g) := by
  unfold Beside at *
  apply Option.ext
  intro s
  rw [T.val_bind_iff, Option.map_eq_some_iff]
  constructor
  · rintro ⟨x, h1, h2⟩
    rw [h x, Option.map_eq_some_iff] at h2
    obtain ⟨y, h3, h4⟩ := h2
    exact ⟨y, by rw [T.val_bind_iff]; exact ⟨x, h1, h3⟩, h4⟩
  · rintro ⟨y, h1, h4⟩
    rw [T.val_bind_iff] at h1
    obtain ⟨x, h1, h2⟩ := h1
    exact ⟨x, h1, by rw [h x, h2]; exact congrArg some h4⟩
theorem Beside.bind2 {d : Option Tmp} {u : TV} {X Y : T St} {f g : St → T St} (hX : Beside d u X Y) (h : ∀ s, Beside d u (f s) (g (s.put d u))) : Beside d u (X.bind f) (Y.bind g) := by
  unfold Beside at *
  apply Option.ext
  intro s
  rw [T.val_bind_iff, Option.map_eq_some_iff, hX]
  constructor
  · rintro ⟨x, h1, h2⟩
    rw [Option.map_eq_some_iff] at h1
    obtain ⟨x0, h1, rfl⟩ := h1
    rw [h x0, Option.map_eq_some_iff] at h2
    obtain ⟨y, h3, h4⟩ := h2
    exact ⟨y, by rw [T.val_bind_iff]; exact ⟨x0, h1, h3⟩, h4⟩
  · rintro ⟨y, h1, h4⟩
    rw [T.val_bind_iff] at h1
    obtain ⟨x, h1, h2⟩ := h1
    exact ⟨x.put d u, by rw [h1]; rfl, by rw [h x, h2]; exact congrArg some h4⟩
theorem put_mem (s : St) (d : Option Tmp) (u : TV) : (s.put d u).mem = s.mem := by unfold St.put; cases d <;> rfl
theorem put_look (s : St) (d : Option Tmp) (u : TV) (n : Nat) : (s.put d u).look n = s.look n := by unfold St.look; rw [put_mem]
theorem Beside.newVec {d : Option Tmp} {u : TV} {s s2 : St} {dst : Option Tmp} (hd2 : ∀ t, d = some t → dst ≠ some t) (hs : s2 = s.put d u) (l : List Seg) (len es : Nat) : Beside d u (newVec s nm dst l len es) (newVec s2 nm dst l len es) := by
  subst hs
  unfold Ax.newVec St.new
  rw [put_mem]
  split
  · rename_i s1 h
    split at h
    · cases h
      exact Beside.ret (by unfold St.putA; rw [← put_put0 hd2]; cases d <;> rfl)
    · cases h
  · rename_i h
    split at h
    · cases h
    · exact Beside.fail

/-- A writer beside another slot. -/
theorem step_frame {s : St} {d : Option Tmp} {u : TV} (hget : ∀ x ∈ o.op.operands, (s.put d u).get x = s.get x) (hd2 : ∀ t, d = some t → o.dst ≠ some t) (hw : wrOp o.op = true) :
    (step E nm o (s.put d u)).val = ((step E nm o s).val).map (·.put d u) := by
  obtain ⟨dst, op, type, pos, after, guard⟩ := o
  simp only at hget hd2 hw ⊢
  show Beside d u _ _
  cases op <;> simp only [wrOp] at hw <;> try (first | exact absurd hw (by decide) | cases hw; done)
  case store ty p x =>
    simp only [Op.operands] at hget
    simp only [step, hget p (by simp), hget x (by simp)]
    split
    · refine Beside.bind2 ?_ fun s1 => Beside.ret (put_put0 hd2)
      unfold storeT
      rw [put_look]
      repeat' first
        | exact Beside.fail
        | refine Beside.bind _ fun l => Beside.ret ?_
        | split
      all_goals (unfold St.upd St.put; cases d <;> rfl)
    · exact Beside.fail
  case call c =>
    obtain ⟨callee, args, ats⟩ := c
    cases callee with
    | builtin b =>
      cases b <;> simp only at hw <;> try (first | exact absurd hw (by decide) | cases hw; done)
      simp only [step]
      split
      · rename_i t t2 x y e1 e2
        have hmem : ∀ z ∈ args.toList, (s.put d u).get z = s.get z := fun z hz => hget z (by simp only [Op.operands, Call.operands]; simpa using hz)
        have hx : (s.put d u).get x = s.get x := hmem x (by rw [e2]; simp)
        have hy : (s.put d u).get y = s.get y := hmem y (by rw [e2]; simp)
        rw [hx, hy]
        have hsrc : ∀ es tv, srcOf (s.put d u) es tv = srcOf s es tv := by
          intro es tv
          unfold srcOf
          repeat' (first | rfl | rw [put_look] | split)
        unfold appendT
        simp only [hsrc, put_look]
        repeat' first
          | exact Beside.fail
          | exact Beside.newVec hd2 rfl _ _ _
          | exact Beside.newVec hd2 (by unfold St.kill St.put; cases d <;> rfl) _ _ _
          | refine Beside.ite ?_ ?_
          | split
      · exact Beside.fail
    | value f => exact absurd hw (by simp)
    | invoke r m => exact absurd hw (by simp)

end
end Go.Ax
