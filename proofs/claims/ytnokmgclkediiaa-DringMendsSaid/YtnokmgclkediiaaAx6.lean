/- A part of the proof: Ax6. -/
import Derived.Test.YtnokmgclkediiaaAx5
/-! ### What reading and writing cells comes to -/
namespace Go.Ax
open Go.RowKit

section
variable {α β : Type}
theorem T.val_ret (a x : α) : (T.ret a).val = some x ↔ a = x := by simp [T.val, T.run]
theorem T.val_fail (x : α) : (T.fail : T α).val = some x ↔ False := by simp [T.val, T.run]
theorem T.val_ite (p : Prop) (d : Decidable p) (t e : T α) (x : α) : (T.ite p d t e).val = some x ↔ (p ∧ t.val = some x) ∨ (¬ p ∧ e.val = some x) := by
  unfold T.val
  simp only [T.run]
  by_cases h : p
  · rw [if_pos h]; simp [h]
  · rw [if_neg h]; simp [h]
theorem T.val_bind_iff (t : T α) (f : α → T β) (y : β) : (t.bind f).val = some y ↔ ∃ x, t.val = some x ∧ (f x).val = some y := by
  rw [T.val_bind]; cases t.val <;> simp
theorem T.val_opt {γ : Type} (x : Option γ) (k : γ → T α) (y : α) : (T.opt x k).val = some y ↔ ∃ g, x = some g ∧ (k g).val = some y := by
  unfold T.val; simp only [T.run]; cases x <;> simp
theorem T.val_ofOpt (o : Option α) (x : α) : (T.ofOpt o).val = some x ↔ o = some x := by
  cases o
  · simp [T.ofOpt, T.val_fail]
  · simp [T.ofOpt, T.val_ret]
end

theorem blt_t {a b : Nat} (h : Nat.blt a b = true) : a < b := by rw [Nat.blt_eq] at h; exact h
theorem blt_f {a b : Nat} (h : Nat.blt a b = false) : ¬ a < b := by rw [← Nat.blt_eq, h]; simp
theorem beq_t {a b : Nat} (h : Nat.beq a b = true) : a = b := Nat.eq_of_beq_eq_true h

section
variable {ρ : Env}

theorem cellA_rel (k : CK) (z : Int) : (cellA k z).rel ρ (k.val z) := by
  cases k with
  | int k => simp [cellA, CK.val, A1.rel]
  | bool =>
    simp only [cellA, CK.val, A1.rel]
    congr 1
    by_cases h : z = 0
    · subst h; rfl
    · simp [h]
theorem cellI_rel {k : CK} {a : A1} {z : Int} {c : Value} (h : cellI k a = some z) (hr : a.rel ρ c) : c = k.val z := by
  cases k with
  | int k =>
    cases a <;> simp only [cellI] at h <;> try cases h
    split at h
    · rename_i e; subst e; cases h; exact hr
    · cases h
  | bool =>
    cases a <;> simp only [cellI] at h <;> try cases h
    · rename_i b
      simp only [A1.rel] at hr
      subst hr
      cases b <;> rfl
    · rename_i p d
      simp only [A1.rel] at hr
      subst hr
      by_cases hp : p <;> simp [hp, CK.val]

theorem findSeg_spec : ∀ {l : List Seg} {b : Nat} {s : Seg} {b' : Nat} {C : List Value}, findSeg l b = some (s, b') → segRel ρ l C →
    ∃ pre mid post, C = pre ++ mid ++ post ∧ pre.length + b' = b ∧ segRel ρ [s] mid
  | [], b, s, b', C, h, _ => by cases h
  | [.xs k n zs], b, s, b', C, h, hr => by
    simp only [findSeg] at h
    cases h
    exact ⟨[], C, [], by simp, by simp, hr⟩
  | .xs k n zs :: y :: r, b, s, b', C, h, hr => by
    obtain ⟨h1, cs', h2, h3⟩ := hr
    simp only [findSeg] at h
    split at h
    · cases h
      exact ⟨[], zs.map k.val, cs', by simp [h2], by simp, h1, [], by simp, rfl⟩
    · rename_i hlt
      obtain ⟨pre, mid, post, g1, g2, g3⟩ := findSeg_spec h h3
      have := blt_f hlt
      exact ⟨zs.map k.val ++ pre, mid, post, by rw [h2, g1]; simp, by simp [h1]; omega, g3⟩
  | .one a :: r, b, s, b', C, h, hr => by
    obtain ⟨c, cs', h1, h2, h3⟩ := hr
    cases b with
    | zero =>
      simp only [findSeg] at h
      cases h
      exact ⟨[], [c], cs', by simp [h1], by simp, c, [], rfl, h2, rfl⟩
    | succ b =>
      simp only [findSeg] at h
      obtain ⟨pre, mid, post, g1, g2, g3⟩ := findSeg_spec h h3
      exact ⟨c :: pre, mid, post, by rw [h1, g1]; simp, by simp; omega, g3⟩

theorem get_mid {pre mid post : List Value} {j : Nat} (h : j < mid.length) : (pre ++ mid ++ post)[pre.length + j]? = mid[j]? := by
  rw [List.append_assoc, List.getElem?_append_right (by omega), List.getElem?_append_left (by omega)]
  congr 1
  omega

theorem readAt_spec {l : List Seg} {b : Nat} {i : Option Nat} {a : A1} {C : List Value} (h : (readAt l b i).val = some a) (hr : segRel ρ l C) :
    ∃ c, C[b + i.getD 0]? = some c ∧ a.rel ρ c := by
  unfold readAt at h
  split at h
  · rename_i k n zs b' hf
    obtain ⟨pre, mid, post, g1, g2, g3, m', g4, g5⟩ := findSeg_spec hf hr
    cases g5
    simp only [List.append_nil] at g4
    subst g4
    have key : ∀ j, j < n → C[pre.length + j]? = some (k.val (zs.getD j 0)) := by
      intro j hj
      rw [g1, get_mid (by simp; omega)]
      simp [List.getElem?_map, List.getD, List.getElem?_eq_getElem (show j < zs.length by omega)]
    split at h
    · split at h
      · rename_i hb
        rw [T.val_ret] at h
        subst h
        exact ⟨_, by simp only [Option.getD_none, Nat.add_zero]; rw [← g2]; exact key b' (blt_t hb), cellA_rel _ _⟩
      · simp [T.val_fail] at h
    · rename_i j
      simp only [T.val_ite, T.val_ret, T.val_fail, and_false, or_false] at h
      obtain ⟨h1, h2⟩ := h
      subst h2
      rw [addN_eq] at h1 ⊢
      refine ⟨_, ?_, cellA_rel _ _⟩
      rw [← g2, Option.getD_some, Nat.add_assoc]
      exact key _ h1
  · rename_i a' b' hf
    obtain ⟨pre, mid, post, g1, g2, c, m', g3, g4, g5⟩ := findSeg_spec hf hr
    cases g5
    subst g3
    split at h
    · rw [T.val_ret] at h
      subst h
      refine ⟨c, ?_, g4⟩
      rw [g1]
      simp [← g2]
    · simp [T.val_fail] at h
  · simp [T.val_fail] at h

theorem set_mid {pre mid post : List Value} {j : Nat} {c : Value} (h : j < mid.length) : (pre ++ mid ++ post).set (pre.length + j) c = pre ++ mid.set j c ++ post := by
  rw [List.append_assoc, List.set_append_right _ _ (by omega), List.set_append_left _ _ (by omega)]
  simp

/-- A change of one segment, in the whole. -/
theorem modSeg_spec {f : Seg → Nat → T Seg} {G : Nat → List Value → List Value} {ok : Nat → List Value → Prop}
    (hG : ∀ pre mid post j, ok j mid → G (pre.length + j) (pre ++ mid ++ post) = pre ++ G j mid ++ post ∧ ok (pre.length + j) (pre ++ mid ++ post))
    (hf : ∀ s b s' mid, (f s b).val = some s' → segRel ρ [s] mid → segRel ρ [s'] (G b mid) ∧ ok b mid) :
    ∀ {l : List Seg} {b : Nat} {l' : List Seg} {C : List Value}, (modSeg f l b).val = some l' → segRel ρ l C → segRel ρ l' (G b C) ∧ ok b C
  | [], b, l', C, h, _ => by simp [modSeg, T.val_fail] at h
  | [.xs k n zs], b, l', C, h, hr => by
    simp only [modSeg, T.val_bind_iff, T.val_ret] at h
    obtain ⟨s, h1, rfl⟩ := h
    exact hf _ _ _ _ h1 hr
  | .xs k n zs :: y :: r, b, l', C, h, hr => by
    obtain ⟨h1, cs', h2, h3⟩ := hr
    simp only [modSeg] at h
    split at h
    · simp only [T.val_bind_iff, T.val_ret] at h
      obtain ⟨s, g1, rfl⟩ := h
      obtain ⟨q1, q2⟩ := hf _ _ _ (zs.map k.val) g1 ⟨h1, [], by simp, rfl⟩
      obtain ⟨e, o⟩ := hG [] (zs.map k.val) cs' b q2
      simp only [List.length_nil, Nat.zero_add, List.nil_append] at e o
      rw [h2, e]
      exact ⟨segRel_append q1 h3, o⟩
    · rename_i hlt
      have hnb := blt_f hlt
      simp only [T.val_bind_iff, T.val_ret] at h
      obtain ⟨r', g1, rfl⟩ := h
      obtain ⟨q1, q2⟩ := modSeg_spec hG hf g1 h3
      obtain ⟨e, o⟩ := hG (zs.map k.val) cs' [] (b - n) q2
      simp only [List.length_map, h1, List.append_nil, Nat.add_sub_cancel' (Nat.le_of_not_lt hnb)] at e o
      rw [h2, e]
      exact ⟨⟨h1, _, rfl, q1⟩, o⟩
  | .one a :: r, b, l', C, h, hr => by
    obtain ⟨c, cs', h1, h2, h3⟩ := hr
    cases b with
    | zero =>
      simp only [modSeg, T.val_bind_iff, T.val_ret] at h
      obtain ⟨s, g1, rfl⟩ := h
      obtain ⟨q1, q2⟩ := hf _ _ _ [c] g1 ⟨c, [], rfl, h2, rfl⟩
      obtain ⟨e, o⟩ := hG [] [c] cs' 0 q2
      simp only [List.length_nil, Nat.zero_add, List.nil_append, List.singleton_append] at e o
      rw [h1, e]
      exact ⟨segRel_append q1 h3, o⟩
    | succ b =>
      simp only [modSeg, T.val_bind_iff, T.val_ret] at h
      obtain ⟨r', g1, rfl⟩ := h
      obtain ⟨q1, q2⟩ := modSeg_spec hG hf g1 h3
      obtain ⟨e, o⟩ := hG [c] cs' [] b q2
      simp only [List.length_singleton, List.append_nil, List.singleton_append, Nat.add_comm 1 b] at e o
      rw [h1, e]
      exact ⟨⟨c, _, rfl, h2, q1⟩, o⟩

theorem writeCell_spec {i : Option Nat} {a : A1} {c : Value} (ha : a.rel ρ c) {l : List Seg} {b : Nat} {l' : List Seg} {C : List Value}
    (h : (modSeg (writeCell i a) l b).val = some l') (hr : segRel ρ l C) : segRel ρ l' (C.set (b + i.getD 0) c) ∧ b + i.getD 0 < C.length := by
  refine modSeg_spec (G := fun b C => C.set (b + i.getD 0) c) (ok := fun b C => b + i.getD 0 < C.length) ?_ ?_ h hr
  · intro pre mid post j hj
    refine ⟨?_, by simp; omega⟩
    rw [Nat.add_assoc, set_mid hj]
  · intro s b s' mid hs hm
    cases s with
    | xs k n zs =>
      obtain ⟨h1, m', h2, h3⟩ := hm
      cases h3
      simp only [List.append_nil] at h2
      subst h2
      simp only [writeCell] at hs
      split at hs
      · simp [T.val_fail] at hs
      · rename_i z hz
        have hc := cellI_rel hz ha
        subst hc
        cases i with
        | none =>
          simp only at hs
          split at hs
          · rename_i hb
            have := blt_t hb
            rw [T.val_ret] at hs
            subst hs
            exact ⟨⟨by simp [h1], [], by simp [List.map_set], rfl⟩, by simp; omega⟩
          · simp [T.val_fail] at hs
        | some j =>
          simp only [T.val_ite, T.val_ret, T.val_fail, and_false, or_false] at hs
          obtain ⟨hj, rfl⟩ := hs
          rw [addN_eq] at hj ⊢
          exact ⟨⟨by simp [h1], [], by simp [List.map_set], rfl⟩, by simp; omega⟩
    | one d =>
      obtain ⟨e, m', h1, h2, h3⟩ := hm
      cases h3
      subst h1
      simp only [writeCell] at hs
      split at hs
      · rw [T.val_ret] at hs
        subst hs
        exact ⟨⟨c, [], by simp, ha, rfl⟩, by simp⟩
      · simp [T.val_fail] at hs

theorem takeS_spec : ∀ {l : List Seg} {m : Nat} {l' : List Seg} {C : List Value}, takeS l m = some l' → segRel ρ l C → segRel ρ l' (C.take m) ∧ m ≤ C.length
  | [], m, l', C, h, hr => by
    cases hr
    cases m with
    | zero => simp only [takeS] at h; cases h; exact ⟨rfl, by simp⟩
    | succ m => cases h
  | .xs k n zs :: r, m, l', C, h, hr => by
    obtain ⟨h1, cs', h2, h3⟩ := hr
    simp only [takeS] at h
    split at h
    · rename_i hb
      have := beq_t hb
      subst this
      cases h
      exact ⟨⟨h1, [], by rw [h2]; simp [h1], rfl⟩, by rw [h2]; simp; omega⟩
    · split at h
      · rename_i hb
        have := blt_t hb
        cases h
        refine ⟨⟨by simp; omega, [], ?_, rfl⟩, by rw [h2]; simp; omega⟩
        rw [h2, List.take_append_of_le_length (by simp; omega)]
        simp [List.map_take]
      · rename_i hne hb
        have hnb := blt_f hb
        rw [Option.map_eq_some_iff] at h
        obtain ⟨r', g1, rfl⟩ := h
        obtain ⟨q1, q2⟩ := takeS_spec g1 h3
        refine ⟨⟨h1, _, ?_, q1⟩, by rw [h2]; simp; omega⟩
        rw [h2, List.take_append]
        congr 1
        · exact List.take_of_length_le (by simp; omega)
        · simp [h1]
  | .one a :: r, m, l', C, h, hr => by
    obtain ⟨c, cs', h1, h2, h3⟩ := hr
    cases m with
    | zero => simp only [takeS] at h; cases h; exact ⟨by simp [segRel], by simp⟩
    | succ m =>
      simp only [takeS, Option.map_eq_some_iff] at h
      obtain ⟨r', g1, rfl⟩ := h
      obtain ⟨q1, q2⟩ := takeS_spec g1 h3
      exact ⟨⟨c, _, by rw [h1]; rfl, h2, q1⟩, by rw [h1]; simp; omega⟩

theorem dropS_spec : ∀ {l : List Seg} {m : Nat} {l' : List Seg} {C : List Value}, dropS l m = some l' → segRel ρ l C → segRel ρ l' (C.drop m) ∧ m ≤ C.length
  | [], m, l', C, h, hr => by
    cases hr
    cases m with
    | zero => simp only [dropS] at h; cases h; exact ⟨rfl, by simp⟩
    | succ m => cases h
  | .xs k n zs :: r, m, l', C, h, hr => by
    obtain ⟨h1, cs', h2, h3⟩ := hr
    cases m with
    | zero => simp only [dropS] at h; cases h; exact ⟨⟨h1, cs', by simpa using h2, h3⟩, by simp⟩
    | succ m =>
      simp only [dropS] at h
      split at h
      · rename_i hb
        have := blt_t hb
        cases h
        refine ⟨⟨by simp; omega, cs', ?_, h3⟩, by rw [h2]; simp; omega⟩
        rw [h2, List.drop_append_of_le_length (by simp; omega)]
        simp [List.map_drop]
      · rename_i hb
        have hnb := blt_f hb
        obtain ⟨q1, q2⟩ := dropS_spec h h3
        refine ⟨?_, by rw [h2]; simp; omega⟩
        rw [h2, List.drop_append, List.drop_of_length_le (by simp; omega)]
        simpa [h1] using q1
  | .one a :: r, m, l', C, h, hr => by
    obtain ⟨c, cs', h1, h2, h3⟩ := hr
    cases m with
    | zero => simp only [dropS] at h; cases h; exact ⟨⟨c, cs', by simpa using h1, h2, h3⟩, by simp⟩
    | succ m =>
      simp only [dropS] at h
      obtain ⟨q1, q2⟩ := dropS_spec h h3
      exact ⟨by rw [h1]; simpa using q1, by rw [h1]; simp; omega⟩

theorem readAgg_spec {l : List Seg} {b : Nat} {i : Option Nat} {m : Nat} {l' : List Seg} {C : List Value} (h : (readAgg l b i m).val = some l') (hr : segRel ρ l C) :
    segRel ρ l' ((C.drop (b + i.getD 0)).take m) ∧ b + i.getD 0 + m ≤ C.length := by
  cases i with
  | none =>
    simp only [readAgg] at h
    split at h
    · rename_i l1 h1
      rw [T.val_ofOpt] at h
      obtain ⟨q1, q2⟩ := dropS_spec h1 hr
      obtain ⟨q3, q4⟩ := takeS_spec h q1
      simp only [List.length_drop] at q4
      exact ⟨by simpa using q3, by simp; omega⟩
    · simp [T.val_fail] at h
  | some j =>
    simp only [readAgg] at h
    split at h
    · rename_i k n zs b' hf
      obtain ⟨pre, mid, post, g1, g2, g3, m', g4, g5⟩ := findSeg_spec hf hr
      cases g5
      simp only [List.append_nil] at g4
      subst g4
      simp only [T.val_ite, T.val_ret, T.val_fail, and_false, or_false] at h
      obtain ⟨h1, rfl⟩ := h
      rw [addN_eq] at h1 ⊢
      simp only [Option.getD_some]
      refine ⟨⟨by simp; omega, [], ?_, rfl⟩, by rw [g1]; simp; omega⟩
      have e : b + j = pre.length + (b' + j) := by omega
      rw [g1, e, List.append_assoc, List.drop_append, List.drop_of_length_le (by omega), List.nil_append, Nat.add_sub_cancel_left, List.drop_append_of_le_length (by simp; omega),
        List.take_append_of_le_length (by simp; omega)]
      simp [List.map_take, List.map_drop]
    · simp [T.val_fail] at h

theorem splice_mid {pre mid post D : List Value} {j m : Nat} (h : j + m ≤ mid.length) :
    (pre ++ mid ++ post).take (pre.length + j) ++ D ++ (pre ++ mid ++ post).drop (pre.length + j + m) = pre ++ (mid.take j ++ D ++ mid.drop (j + m)) ++ post := by
  rw [List.append_assoc pre, List.take_append, List.drop_append, List.take_of_length_le (by omega), List.drop_of_length_le (by omega)]
  rw [show pre.length + j - pre.length = j by omega, show pre.length + j + m - pre.length = j + m by omega]
  rw [List.take_append_of_le_length (by omega), List.drop_append_of_le_length (by omega)]
  simp

theorem writeAgg_spec {l : List Seg} {b : Nat} {i : Option Nat} {m : Nat} {new l' : List Seg} {C D : List Value} (h : (writeAgg l b i m new).val = some l') (hr : segRel ρ l C)
    (hn : segRel ρ new D) (hD : D.length = m) : segRel ρ l' (C.take (b + i.getD 0) ++ D ++ C.drop (b + i.getD 0 + m)) ∧ b + i.getD 0 + m ≤ C.length := by
  cases i with
  | none =>
    simp only [writeAgg] at h
    split at h
    · rename_i x y hx hy
      obtain ⟨q1, q2⟩ := takeS_spec hx hr
      obtain ⟨q3, q4⟩ := dropS_spec hy hr
      refine ⟨?_, by simp; omega⟩
      simp only [Option.getD_none, Nat.add_zero]
      split at h
      · rw [T.val_ret] at h
        subst h
        simpa using segRel_append hn q3
      · rw [T.val_ret] at h
        subst h
        exact segRel_append (segRel_append q1 hn) q3
    · simp [T.val_fail] at h
  | some j =>
    simp only [writeAgg] at h
    split at h
    · rename_i k m' ys
      split at h
      · rename_i hm
        have := beq_t hm
        subst this
        obtain ⟨n1, d', n2, n3⟩ := hn
        cases n3
        simp only [List.append_nil] at n2
        subst n2
        refine modSeg_spec (G := fun b C => C.take (b + j) ++ ys.map k.val ++ C.drop (b + j + m')) (ok := fun b C => b + j + m' ≤ C.length) ?_ ?_ h hr
        · intro pre mid post j' hj
          refine ⟨?_, by simp; omega⟩
          have := splice_mid (pre := pre) (mid := mid) (post := post) (D := ys.map k.val) (j := j' + j) (m := m') hj
          simpa [Nat.add_assoc] using this
        · intro s b s' mid hs hm
          cases s with
          | xs k2 n zs =>
            obtain ⟨h1, m2, h2, h3⟩ := hm
            cases h3
            simp only [List.append_nil] at h2
            subst h2
            simp only [writePart] at hs
            split at hs
            · rename_i hk
              have := of_decide_eq_true hk
              subst this
              simp only [T.val_ite, T.val_ret, T.val_fail, and_false, or_false] at hs
              obtain ⟨hj, rfl⟩ := hs
              rw [addN_eq] at hj ⊢
              refine ⟨⟨by simp; omega, [], ?_, rfl⟩, by simp; omega⟩
              simp [List.map_take, List.map_drop]
            · simp [T.val_fail] at hs
          | one d => simp [writePart, T.val_fail] at hs
      · simp [T.val_fail] at h
    · simp [T.val_fail] at h

theorem flatS_spec {k : CK} : ∀ {l : List Seg} {zs : List Int} {C : List Value}, flatS k l = some zs → segRel ρ l C → C = zs.map k.val
  | [], zs, C, h, hr => by cases hr; simp only [flatS] at h; cases h; rfl
  | [.xs k' n ys], zs, C, h, hr => by
    obtain ⟨h1, cs', h2, h3⟩ := hr
    cases h3
    simp only [flatS] at h
    split at h
    · rename_i e; subst e; cases h; simpa using h2
    · cases h
  | .xs k' n ys :: y :: r, zs, C, h, hr => by
    obtain ⟨h1, cs', h2, h3⟩ := hr
    simp only [flatS] at h
    split at h
    · rename_i e
      subst e
      simp only [Option.map_eq_some_iff] at h
      obtain ⟨r', g1, rfl⟩ := h
      rw [h2, flatS_spec g1 h3]
      simp
    · cases h
  | .one a :: r, zs, C, h, hr => by
    obtain ⟨c, cs', h1, h2, h3⟩ := hr
    simp only [flatS] at h
    split at h
    · rename_i z hz
      simp only [Option.map_eq_some_iff] at h
      obtain ⟨r', g1, rfl⟩ := h
      rw [h1, cellI_rel hz h2, flatS_spec g1 h3]
      rfl
    · cases h

theorem mergeS_spec {a b l : List Seg} {C D : List Value} (h : mergeS a b = some l) (ha : segRel ρ a C) (hb : segRel ρ b D) : segRel ρ l (C ++ D) := by
  unfold mergeS at h
  split at h
  · cases h; cases ha; simpa using hb
  · rename_i k n zs k' m ys
    split at h
    · rename_i e
      subst e
      cases h
      obtain ⟨h1, _, h2, h3⟩ := ha
      obtain ⟨g1, _, g2, g3⟩ := hb
      cases h3; cases g3
      exact ⟨by simp [h1, g1], [], by simp [h2, g2], rfl⟩
    · cases h
  · cases h; cases hb; simpa using ha
  · cases h; exact segRel_append ha hb

theorem repS_spec {n : Nat} {l l' : List Seg} {C : List Value} (h : repS n l = some l') (hr : segRel ρ l C) : segRel ρ l' (List.replicate n C).flatten := by
  unfold repS at h
  split at h
  · rename_i k m zs
    split at h
    · rename_i hz
      cases h
      obtain ⟨h1, c', h2, h3⟩ := hr
      cases h3
      have e : zs = List.replicate m 0 := by
        rw [List.eq_replicate_iff]
        exact ⟨h1, fun b hb => by simpa using List.all_eq_true.1 hz b hb⟩
      rw [mulN_eq]
      refine ⟨by simp, [], ?_, rfl⟩
      rw [h2, e]
      simp
    · cases h
  · cases h
end
end Go.Ax
