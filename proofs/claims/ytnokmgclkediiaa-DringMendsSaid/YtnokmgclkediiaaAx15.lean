/- A part of the proof: Ax15. -/
import Derived.Test.YtnokmgclkediiaaAx14
/-! ### An operation that writes nothing does the same in another state -/
namespace Go.Ax
open Go.RowKit

variable {P : Program}

/-- Two trees: what the first makes of st the second makes of st2. -/
def Moves (st st2 : St) (nm : Nat) (dst : Option Tmp) (t1 t2 : T St) : Prop :=
  ∀ s1, t1.val = some s1 → ∃ v news st1, st.newAll nm news = some st1 ∧ s1 = st1.put dst v ∧ ∀ st1', st2.newAll nm news = some st1' → t2.val = some (st1'.put dst v)

section
variable {st st2 : St} {nm : Nat} {dst : Option Tmp}
theorem Moves.ret (v : TV) : Moves st st2 nm dst (.ret (st.put dst v)) (.ret (st2.put dst v)) := by
  intro s1 h
  rw [T.val_ret] at h
  subst h
  exact ⟨v, [], st, rfl, rfl, fun s hs => by cases hs; rw [T.val_ret]⟩
theorem Moves.retA (v : A1) : Moves st st2 nm dst (.ret (st.putA dst v)) (.ret (st2.putA dst v)) := Moves.ret _
theorem Moves.fail (t : T St) : Moves st st2 nm dst .fail t := by
  intro s1 h
  simp [T.val_fail] at h
theorem Moves.ite {p : Prop} {d : Decidable p} {A A' B B' : T St} (h1 : Moves st st2 nm dst A A') (h2 : Moves st st2 nm dst B B') : Moves st st2 nm dst (.ite p d A B) (.ite p d A' B') := by
  intro s1 h
  rw [T.val_ite] at h
  rcases h with ⟨hp, h⟩ | ⟨hp, h⟩
  · obtain ⟨v, news, st1, a1, a2, a3⟩ := h1 s1 h
    exact ⟨v, news, st1, a1, a2, fun s hs => by rw [T.val_ite]; exact .inl ⟨hp, a3 s hs⟩⟩
  · obtain ⟨v, news, st1, a1, a2, a3⟩ := h2 s1 h
    exact ⟨v, news, st1, a1, a2, fun s hs => by rw [T.val_ite]; exact .inr ⟨hp, a3 s hs⟩⟩
theorem Moves.bind {α : Type} (X : T α) {f g : α → T St} (h : ∀ a, Moves st st2 nm dst (f a) (g a)) : Moves st st2 nm dst (X.bind f) (X.bind g) := by
  intro s1 h1
  rw [T.val_bind_iff] at h1
  obtain ⟨x, hx, h1⟩ := h1
  obtain ⟨v, news, st1, a1, a2, a3⟩ := h x s1 h1
  exact ⟨v, news, st1, a1, a2, fun s hs => by rw [T.val_bind_iff]; exact ⟨x, hx, a3 s hs⟩⟩
theorem Moves.newPtr (l : List Seg) : Moves st st2 nm dst (newPtr st nm dst l) (newPtr st2 nm dst l) := by
  intro s1 h
  unfold Ax.newPtr at h
  split at h
  · rename_i s hs
    rw [T.val_ret] at h
    subst h
    refine ⟨_, [{ segs := l, own := true }], s, by simp [St.newAll, hs], rfl, fun s' hs' => ?_⟩
    simp only [St.newAll] at hs'
    unfold Ax.newPtr
    split at hs'
    · rename_i s2 h2
      cases hs'
      exact (T.val_ret _ _).2 rfl
    · cases hs'
  · simp [T.val_fail] at h
theorem Moves.newVec (l : List Seg) (len es : Nat) : Moves st st2 nm dst (newVec st nm dst l len es) (newVec st2 nm dst l len es) := by
  intro s1 h
  unfold Ax.newVec at h
  split at h
  · rename_i s hs
    rw [T.val_ret] at h
    subst h
    refine ⟨_, [{ segs := l, own := true }], s, by simp [St.newAll, hs], rfl, fun s' hs' => ?_⟩
    simp only [St.newAll] at hs'
    unfold Ax.newVec
    split at hs'
    · rename_i s2 h2
      cases hs'
      exact (T.val_ret _ _).2 rfl
    · cases hs'
  · simp [T.val_fail] at h
theorem Moves.bound (x : Option Operand) (hx : ∀ y, x = some y → st2.get y = st.get y) (d most : Nat) {K K' : Nat → T St} (h : ∀ n, Moves st st2 nm dst (K n) (K' n)) : Moves st st2 nm dst (boundT st x d most K) (boundT st2 x d most K') := by
  unfold boundT
  cases x with
  | none => exact h d
  | some y =>
    simp only [hx y rfl]
    repeat' first | exact Moves.fail _ | exact h _ | refine Moves.ite ?_ ?_ | split
end

section
variable {ρ : Env} {B : Nat} {w0 : World} {st st2 : St} {a : Act} {w : World} {nm : Nat} {o : Oper} {Kn : Nat → Prop}

/-- All names of a value are known ones. -/
def A1.kn (Kn : Nat → Prop) (x : A1) : Prop := ∀ o, x.name? = some o → Kn o
def TV.kn (Kn : Nat → Prop) : TV → Prop
  | .one (.sc x) => x.kn Kn
  | _ => True
/-- What the second state knows of the known names is what the first one knows. -/
structure Agree (Kn : Nat → Prop) (st st2 : St) : Prop where
  look : ∀ o b, Kn o → st.look o = some b → st2.look o = some b
  segs : ∀ o b, Kn o → st2.look o = some b → ∀ x, Seg.one x ∈ b.segs → x.kn Kn

theorem sliceXs_same (hag : Agree Kn st st2) {k : CK} {x : A1} (h : x.kn Kn) {zs : List Int} (hz : sliceXs k st x = some zs) : sliceXs k st2 x = some zs := by
  cases x with
  | vec o len es =>
    simp only [sliceXs] at hz ⊢
    split at hz
    · rename_i he
      split at hz
      · rename_i b hb
        rw [hag.look o b (h o rfl) hb]
        exact hz
      · cases hz
    · cases hz
  | sl o off len cap es =>
    simp only [sliceXs] at hz ⊢
    split at hz
    · rename_i b he hb
      rw [hag.look o b (h o rfl) hb, he]
      exact hz
    · cases hz
  | _ => exact hz

theorem slicesXs_same (hag : Agree Kn st st2) {k : CK} : ∀ {l : List Seg} {zs : List (List Int)}, (∀ x, Seg.one x ∈ l → x.kn Kn) → slicesXs k st l = some zs → slicesXs k st2 l = some zs
  | [], _, _, h => h
  | .one x :: r, zs, hk, h => by
    simp only [slicesXs] at h ⊢
    split at h
    · rename_i y ys e1 e2
      rw [sliceXs_same hag (hk x (by simp)) e1, slicesXs_same hag (fun y hy => hk y (by simp [hy])) e2]
      exact h
    · cases h
  | .xs _ _ _ :: _, _, _, h => by simp [slicesXs] at h

theorem segsAt_one {l : List Seg} {b m : Nat} {x : A1} (h : segsAt l b m = some [.one x]) : Seg.one x ∈ l := by
  have drop : ∀ {l : List Seg} {m : Nat} {l' : List Seg}, dropS l m = some l' → Seg.one x ∈ l' → Seg.one x ∈ l := by
    intro l
    induction l with
    | nil => intro m l' h hx; cases m <;> simp [dropS] at h; subst h; simp at hx
    | cons s r ih =>
      intro m l' h hx
      cases s with
      | xs k n zs =>
        cases m with
        | zero => simp only [dropS] at h; cases h; exact hx
        | succ m =>
          simp only [dropS] at h
          split at h
          · cases h; simp only [List.mem_cons, reduceCtorEq, false_or] at hx; exact List.mem_cons_of_mem _ hx
          · exact List.mem_cons_of_mem _ (ih h hx)
      | one y =>
        cases m with
        | zero => simp only [dropS] at h; cases h; exact hx
        | succ m => simp only [dropS] at h; exact List.mem_cons_of_mem _ (ih h hx)
  have take : ∀ {l : List Seg} {m : Nat} {l' : List Seg}, takeS l m = some l' → Seg.one x ∈ l' → Seg.one x ∈ l := by
    intro l
    induction l with
    | nil => intro m l' h hx; cases m <;> simp [takeS] at h; subst h; simp at hx
    | cons s r ih =>
      intro m l' h hx
      cases s with
      | xs k n zs =>
        simp only [takeS] at h
        split at h
        · cases h; simp at hx
        · split at h
          · cases h; simp at hx
          · rw [Option.map_eq_some_iff] at h
            obtain ⟨r', h1, rfl⟩ := h
            simp only [List.mem_cons, reduceCtorEq, false_or] at hx
            exact List.mem_cons_of_mem _ (ih h1 hx)
      | one y =>
        cases m with
        | zero => simp only [takeS] at h; cases h; simp at hx
        | succ m =>
          simp only [takeS, Option.map_eq_some_iff] at h
          obtain ⟨r', h1, rfl⟩ := h
          rcases List.mem_cons.1 hx with e | hx
          · rw [e]; exact List.mem_cons_self
          · exact List.mem_cons_of_mem _ (ih h1 hx)
  unfold segsAt at h
  split at h
  · rename_i l' h1
    exact drop h1 (take h (by simp))
  · cases h

theorem RK.get_same (hag : Agree Kn st st2) {K : RK} {l : List Seg} {b : Nat} (hl : ∀ x, Seg.one x ∈ l → x.kn Kn) {x : K.T} (h : K.get st l b = some x) : K.get st2 l b = some x := by
  cases K with
  | int k => exact h
  | xs k n => exact h
  | sl k =>
    simp only [RK.get] at h ⊢
    split at h
    · rename_i y h2
      exact sliceXs_same hag (hl y (segsAt_one h2)) h
    · cases h

theorem Kd.get_same (hag : Agree Kn st st2) {K : Kd} {tv : TV} (hv : tv.kn Kn) {x : K.T} (h : K.get st tv = some x) : K.get st2 tv = some x := by
  cases K
  case sl k =>
    cases tv with
    | tup l => exact h
    | one y =>
      cases y with
      | any => exact h
      | agg l => exact h
      | sc y => exact sliceXs_same hag hv h
  case sls k =>
    cases tv with
    | tup l => exact h
    | one y =>
      cases y with
      | any => exact h
      | agg l => exact h
      | sc y =>
        cases y with
        | vec o len es =>
          simp only [Kd.get] at h ⊢
          split at h
          · split at h
            · rename_i b hb
              have hk : Kn o := hv o rfl
              have hb2 := hag.look o b hk hb
              rw [hb2]
              exact slicesXs_same hag (hag.segs o b hk hb2) h
            · cases h
          · cases h
        | _ => exact h
  case rp K =>
    cases tv with
    | tup l => exact h
    | one y =>
      cases y with
      | any => exact h
      | agg l => exact h
      | sc y =>
        cases y with
        | ptr o b i =>
          cases i with
          | some i => exact h
          | none =>
            simp only [Kd.get] at h ⊢
            split at h
            · rename_i ob hb
              have hk : Kn o := hv o rfl
              have hb2 := hag.look o ob hk hb
              rw [hb2]
              exact RK.get_same hag (hag.segs o ob hk hb2) h
            · cases h
        | _ => exact h
  case sla k m =>
    cases tv with
    | tup l => exact h
    | one y =>
      cases y with
      | any => exact h
      | agg l => exact h
      | sc y =>
        cases y with
        | vec o len es =>
          simp only [Kd.get] at h ⊢
          split at h
          · rename_i e1 e2
            split at h
            · rename_i b hb
              rw [hag.look o b (hv o rfl) hb]
              exact h
            · cases h
          · cases h
        | _ => exact h
  all_goals
    cases tv with
    | tup l => exact h
    | one y =>
      cases y with
      | any => exact h
      | agg l => exact h
      | sc y => cases y <;> exact h

theorem getAll_same (hag : Agree Kn st st2) : ∀ {ks : List Kd} {l : List TV} {x : Ds ks}, (∀ v ∈ l, v.kn Kn) → getAll st ks l = some x → getAll st2 ks l = some x
  | [], [], _, _, h => h
  | [], _ :: _, _, _, h => by simp [getAll] at h
  | _ :: _, [], _, _, h => by simp [getAll] at h
  | k :: ks, v :: l, x, hv, h => by
    simp only [getAll] at h ⊢
    split at h
    · rename_i y z e1 e2
      rw [Kd.get_same hag (hv v (by simp)) e1, getAll_same hag (fun v hv' => hv v (by simp [hv'])) e2]
      exact h
    · cases h

theorem callL_moves (hag : Agree Kn st st2) {dst : Option Tmp} {args : List TV} (hk : ∀ v ∈ args, v.kn Kn) : ∀ ss : List Sig, Moves st st2 nm dst (callL st nm dst args ss) (callL st2 nm dst args ss)
  | [] => Moves.fail _
  | s :: ss => by
    simp only [callL]
    split
    · unfold callS
      cases hg : getAll st s.args args with
      | none => exact Moves.fail _
      | some x =>
        rw [getAll_same hag hk hg]
        intro s1 h
        simp only [T.val_opt] at h
        obtain ⟨r, h1, h⟩ := h
        split at h
        · rename_i st' hn
          rw [T.val_ret] at h
          subst h
          refine ⟨_, _, st', hn, rfl, fun s' hs' => ?_⟩
          simp only [T.val_opt]
          exact ⟨r, h1, by rw [hs', T.val_ret]⟩
        · simp [T.val_fail] at h
    · exact callL_moves hag hk ss

theorem step_moves {E : AE} (hag : Agree Kn st st2) (hkn : ∀ x ∈ o.op.operands, (st.get x).kn Kn) (hget : ∀ x ∈ o.op.operands, st2.get x = st.get x) (hw : wrOp o.op = false) : Moves st st2 nm o.dst (step E nm o st) (step E nm o st2) := by
  obtain ⟨dst, op, type, pos, after, guard⟩ := o
  simp only at hget hkn hw ⊢
  cases op
  case move x => simp only [Op.operands] at hget; simp only [step, hget x (by simp)]; exact Moves.ret _
  case assign x => simp only [Op.operands] at hget; simp only [step, hget x (by simp)]; exact Moves.ret _
  case pick c x y =>
    simp only [Op.operands] at hget
    simp only [step, hget c (by simp), hget x (by simp), hget y (by simp)]
    repeat' first | exact Moves.fail _ | exact Moves.ret _ | refine Moves.ite ?_ ?_ | split
  case alloc t => simp only [step]; repeat' first | exact Moves.fail _ | exact Moves.newPtr _ | split
  case box t x =>
    simp only [Op.operands] at hget
    simp only [step, hget x (by simp)]
    repeat' first | exact Moves.fail _ | exact Moves.newPtr _ | split
  case build t ps =>
    have hp : (ps.toList.map fun p => (p.1, st2.get p.2)) = ps.toList.map fun p => (p.1, st.get p.2) := List.map_congr_left fun p hp => by
      rw [hget p.2 (by simp only [Op.operands, List.mem_toArray]; exact List.mem_map.2 ⟨p, hp, rfl⟩)]
    simp only [step, hp]
    repeat' first | exact Moves.fail _ | exact Moves.ret _ | (refine Moves.bind _ ?_; intro _) | split
  case buildSlice t n ps =>
    have hp : (ps.toList.map fun p => (p.1, st2.get p.2)) = ps.toList.map fun p => (p.1, st.get p.2) := List.map_congr_left fun p hp => by
      rw [hget p.2 (by simp only [Op.operands, List.mem_toArray]; exact List.mem_map.2 ⟨p, hp, rfl⟩)]
    simp only [step, hp]
    repeat' first | exact Moves.fail _ | exact Moves.newVec _ _ _ | (refine Moves.bind _ ?_; intro _) | split
  case load t p =>
    simp only [Op.operands] at hget
    have hp := hkn p (by simp [Op.operands])
    simp only [step, hget p (by simp)]
    split
    · rename_i ob b i e
      rw [e] at hp
      cases hl : st.look ob with
      | none =>
        have : loadT E st t ob b i = .fail := by unfold loadT; rw [hl]; split <;> simp_all
        rw [this]
        exact Moves.fail _
      | some obj =>
        have h2 := hag.look ob obj (hp ob rfl) hl
        have : loadT E st2 t ob b i = loadT E st t ob b i := by unfold loadT; rw [hl, h2]
        rw [this]
        exact Moves.bind _ fun _ => Moves.ret _
    · exact Moves.fail _
  case nilCheck x =>
    simp only [Op.operands] at hget
    simp only [step, hget x (by simp)]
    repeat' first | exact Moves.fail _ | exact Moves.retA _ | split
  case binOp op t x y yt =>
    simp only [Op.operands] at hget
    simp only [step]
    unfold binT
    simp only [hget x (by simp), hget y (by simp)]
    repeat' first | exact Moves.fail _ | exact Moves.retA _ | (refine Moves.bind _ ?_; intro _) | split
  case unOp op t x =>
    simp only [Op.operands] at hget
    simp only [step, hget x (by simp)]
    repeat' first | exact Moves.fail _ | exact Moves.retA _ | split
  case convert s t x =>
    simp only [Op.operands] at hget
    simp only [step, hget x (by simp)]
    unfold convT
    repeat' first | exact Moves.fail _ | exact Moves.retA _ | split
  case makeSlice t x y =>
    simp only [Op.operands] at hget
    simp only [step, hget x (by simp), hget y (by simp)]
    unfold makeT
    repeat' first | exact Moves.fail _ | exact Moves.newVec _ _ _ | refine Moves.ite ?_ ?_ | split
  case slice t x lo hi mx =>
    cases mx with
    | some m => simp only [step]; exact Moves.fail _
    | none =>
      simp only [Op.operands] at hget
      have hx := hkn x (by simp [Op.operands])
      have hlo : ∀ y, lo = some y → st2.get y = st.get y := fun y e => hget y (by subst e; simp)
      have hhi : ∀ y, hi = some y → st2.get y = st.get y := fun y e => hget y (by subst e; simp)
      simp only [step, hget x (by simp)]
      unfold sliceT
      split
      · rename_i n e _ _ _ ob b ht hp
        rw [hp] at hx
        cases hl : st.look ob with
        | none => split <;> first | exact Moves.fail _ | simp_all
        | some obj =>
          have h2 := hag.look ob obj (hx ob rfl) hl
          rw [h2]
          repeat' first | exact Moves.fail _ | exact Moves.retA _ | (refine Moves.bound _ hhi _ _ ?_; intro _) | (refine Moves.bound _ hlo _ _ ?_; intro _) | split
      all_goals repeat' first | exact Moves.fail _ | exact Moves.retA _ | (refine Moves.bound _ hhi _ _ ?_; intro _) | (refine Moves.bound _ hlo _ _ ?_; intro _) | split
  case fieldAddr t x f =>
    simp only [Op.operands] at hget
    simp only [step, hget x (by simp)]
    repeat' first | exact Moves.fail _ | exact Moves.retA _ | split
  case field t x f =>
    simp only [Op.operands] at hget
    simp only [step, hget x (by simp)]
    repeat' first | exact Moves.fail _ | exact Moves.ret _ | (refine Moves.bind _ ?_; intro _) | split
  case indexAddr t x ix =>
    simp only [Op.operands] at hget
    simp only [step, hget x (by simp)]
    unfold indexAddrT
    simp only [hget ix (by simp)]
    repeat' first | exact Moves.fail _ | exact Moves.retA _ | refine Moves.ite ?_ ?_ | split
  case index t x ix =>
    simp only [Op.operands] at hget
    simp only [step, hget x (by simp)]
    unfold indexT
    simp only [hget ix (by simp)]
    repeat' first | exact Moves.fail _ | exact Moves.retA _ | exact Moves.ret _ | refine Moves.ite ?_ ?_ | (refine Moves.bind _ ?_; intro _) | split
  case extract x j =>
    simp only [Op.operands] at hget
    simp only [step, hget x (by simp)]
    repeat' first | exact Moves.fail _ | exact Moves.ret _ | split
  case call c =>
    obtain ⟨callee, args, ats⟩ := c
    have hargs : args.toList.map st2.get = args.toList.map st.get := List.map_congr_left fun x hx => hget x (by simp only [Op.operands, Call.operands, Array.mem_append]; exact .inr (Array.mem_toList_iff.1 hx))
    cases callee with
    | value f =>
      cases f with
      | func f =>
        simp only [step, hargs]
        exact callL_moves hag (fun v hv => by
          obtain ⟨y, hy, rfl⟩ := List.mem_map.1 hv
          exact hkn y (by simp only [Op.operands, Call.operands, Array.mem_append]; exact .inr (Array.mem_toList_iff.1 hy))) _
      | tmp t =>
        have ht : st2.get (.tmp t) = st.get (.tmp t) := hget _ (by simp [Op.operands, Call.operands])
        have hkt := hkn (.tmp t) (by simp [Op.operands, Call.operands])
        simp only [step, hargs, ht]
        split
        · rename_i f cap hfn
          refine callL_moves hag (fun v hv => ?_) _
          rcases List.mem_append.1 hv with hv | hv
          · obtain ⟨y, hy, rfl⟩ := List.mem_map.1 hv
            exact hkn y (by simp only [Op.operands, Call.operands, Array.mem_append]; exact .inr (Array.mem_toList_iff.1 hy))
          · unfold fnOf at hfn
            split at hfn
            · cases hfn; simp at hv
            · rename_i f' o b e
              cases hfn
              simp only [List.mem_singleton] at hv
              subst hv
              rw [e] at hkt
              exact fun o' ho' => hkt o' ho'
            · cases hfn
        · exact Moves.fail _
      | _ => simp only [step]; exact Moves.fail _
    | invoke r m => simp only [step]; exact Moves.fail _
    | builtin b =>
      cases b with
      | len =>
        simp only [step]
        split
        · rename_i t _ x _ e1 e2
          have : st2.get x = st.get x := hget x (by simp only [Op.operands, Call.operands, Array.mem_append]; exact .inr (Array.mem_toList_iff.1 (by rw [e2]; simp)))
          rw [this]
          repeat' first | exact Moves.fail _ | exact Moves.retA _ | split
        · exact Moves.fail _
      | append => simp [wrOp] at hw
      | max => simp only [step, hargs]; repeat' first | exact Moves.fail _ | exact Moves.retA _ | split
      | min => simp only [step, hargs]; repeat' first | exact Moves.fail _ | exact Moves.retA _ | split
      | _ => simp only [step]; exact Moves.fail _
  case store => simp [wrOp] at hw
  case makeFunc fv first captured =>
    cases fv with
    | func f =>
      simp only [step]
      have hc : ∀ x ∈ captured.toList, st2.get x = st.get x := fun x hx => hget x (by simp only [Op.operands, Array.mem_append]; exact .inr (Array.mem_toList_iff.1 hx))
      unfold makeFuncT
      split
      · exact Moves.retA _
      · rename_i x e1 e2
        rw [hc x (by rw [e2]; simp)]
        split
        · exact Moves.retA _
        · exact Moves.fail _
      · exact Moves.fail _
    | _ => simp only [step]; exact Moves.fail _
  all_goals (simp only [step]; exact Moves.fail _)
end
end Go.Ax
