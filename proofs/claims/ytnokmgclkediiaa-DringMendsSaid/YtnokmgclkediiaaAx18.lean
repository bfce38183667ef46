/- A part of the proof: Ax18. -/
import Derived.Test.YtnokmgclkediiaaAx17
/-! ### Regions and code: what the evaluator answers, the machine does -/
namespace Go.Ax
open Go.RowKit

variable {P : Program}

def PCok (pc : PC) (st : St) : Prop := ∀ d b, PC.look pc d = some b → boolOf st.tmps[d]? = some b

theorem PC.look_cons (e : Nat) (b : Bool) (r : PC) (d : Nat) : PC.look ((e, b) :: r) d = if e = d then some b else PC.look r d := by
  simp only [PC.look]
  split
  · rename_i h; rw [if_pos (beq_t h)]
  · rename_i h; rw [if_neg (beq_f h)]
theorem PC.forget_look : ∀ {pc : PC} {dst : Option Tmp} {d : Nat} {b : Bool}, PC.look (PC.forget pc dst) d = some b → dst ≠ some d ∧ PC.look pc d = some b
  | [], none, d, b, h => by simp [PC.forget, PC.look] at h
  | [], some e, d, b, h => by simp [PC.forget, PC.look] at h
  | (e, c) :: r, none, d, b, h => ⟨by simp, h⟩
  | (e, c) :: r, some t, d, b, h => by
    simp only [PC.forget] at h
    split at h
    · rename_i he
      have he := beq_t he
      obtain ⟨h1, h2⟩ := PC.forget_look h
      refine ⟨h1, ?_⟩
      rw [PC.look_cons, if_neg (fun hed => h1 (by rw [← he, hed]))]
      exact h2
    · rename_i he
      have he := beq_f he
      rw [PC.look_cons] at h ⊢
      split at h
      · rename_i hed
        subst hed
        exact ⟨fun hh => he (Option.some.inj hh).symm, by rw [if_pos rfl]; exact h⟩
      · rename_i hed
        obtain ⟨h1, h2⟩ := PC.forget_look h
        exact ⟨h1, by rw [if_neg hed]; exact h2⟩

section
variable {ρ : Env} {B : Nat} {w0 : World} {st st' : St} {a : Act} {w : World} {nm : Nat} {o : Oper} {ops : Array Oper} {E : AE}

theorem undefOf {v : Option TV} {b : Bool} (h : boolOf v = some b) : isUndef v = false := by
  cases v with
  | none => rfl
  | some v => cases v with
    | one v => rfl
    | tup l => cases h
theorem stepK_spec {pc : PC} {K : St → T St} {r : St} (hpc : PCok pc st) (h : (stepK E nm pc o st K).val = some r) : ∃ s1, (step E nm o st).val = some s1 ∧ (K s1).val = some r := by
  unfold stepK at h
  split at h
  · rename_i c x y ho
    split at h
    · rename_i hl
      have hb := hpc c true hl
      refine ⟨_, ?_, h⟩
      simp only [step, ho, St.get, List.getD]
      cases hv : st.tmps[c]? with
      | none => rw [hv] at hb; cases hb
      | some v =>
        rw [hv] at hb
        cases v with
        | tup l => cases hb
        | one v =>
          cases v with
          | any => cases hb
          | agg l => cases hb
          | sc v =>
            cases v <;> simp only [boolOf] at hb <;> first | (cases hb; done) | skip
            · cases hb; simp [T.val_ret]
            · rename_i p d
              have hp : p := by simpa using hb
              simp [T.val_ite, T.val_ret, hp]
    · rename_i hl
      have hb := hpc c false hl
      refine ⟨_, ?_, h⟩
      simp only [step, ho, St.get, List.getD]
      cases hv : st.tmps[c]? with
      | none => rw [hv] at hb; cases hb
      | some v =>
        rw [hv] at hb
        cases v with
        | tup l => cases hb
        | one v =>
          cases v with
          | any => cases hb
          | agg l => cases hb
          | sc v =>
            cases v <;> simp only [boolOf] at hb <;> first | (cases hb; done) | skip
            · cases hb; simp [T.val_ret]
            · rename_i p d
              have hp : ¬ p := by simpa using hb
              simp [T.val_ite, T.val_ret, hp]
    · rwa [T.val_bind_iff] at h
  · rwa [T.val_bind_iff] at h

theorem opK_spec {pc : PC} {K : PC → St → T St} {r : St} (hpc : PCok pc st) (h : (opK E ops nm pc o st K).val = some r) : ∃ s1 pc', opV0 E ops nm o st = some s1 ∧ PCok pc' s1 ∧ (K pc' s1).val = some r := by
  have keep : ∀ (pc : PC) (s1 : St), PCok pc st → opV0 E ops nm o st = some s1 → PCok (pc.forget o.dst) s1 := by
    intro pc s1 hp hv d b hl
    obtain ⟨h1, h2⟩ := PC.forget_look hl
    rw [opV0_tmps hv h1]
    exact hp d b h2
  unfold opK at h
  split at h
  · rename_i hg
    obtain ⟨s1, h1, h2⟩ := stepK_spec hpc h
    have hv : opV0 E ops nm o st = some s1 := by unfold opV0; rw [hg]; exact h1
    exact ⟨s1, _, hv, keep pc s1 hpc hv, h2⟩
  · rename_i j want hg
    split at h
    · simp [T.val_fail] at h
    · rename_i d hd
      have run : ∀ {b : Bool} {pc : PC}, boolOf st.tmps[d]? = some b → PCok pc st → b = want → (stepK E nm pc o st (K (pc.forget o.dst))).val = some r → ∃ s1 pc', opV0 E ops nm o st = some s1 ∧ PCok pc' s1 ∧ (K pc' s1).val = some r := by
        intro b pc hb hp hw h
        obtain ⟨s1, h1, h2⟩ := stepK_spec hp h
        have hv : opV0 E ops nm o st = some s1 := by unfold opV0; rw [hg]; simp only [hd, undefOf hb, hb, hw, if_true]; exact h1
        exact ⟨s1, _, hv, keep pc s1 hp hv, h2⟩
      have skip : ∀ {b : Bool} {pc : PC}, boolOf st.tmps[d]? = some b → PCok pc st → b ≠ want → (K (pc.forget o.dst) (st.put o.dst (.tup []))).val = some r → ∃ s1 pc', opV0 E ops nm o st = some s1 ∧ PCok pc' s1 ∧ (K pc' s1).val = some r := by
        intro b pc hb hp hw h
        have hv : opV0 E ops nm o st = some (st.put o.dst (.tup [])) := by unfold opV0; rw [hg]; simp only [hd, undefOf hb, hb, hw, if_false]
        exact ⟨_, _, hv, keep pc _ hp hv, h⟩
      have cons : ∀ {b : Bool}, boolOf st.tmps[d]? = some b → PCok ((d, b) :: pc) st := by
        intro b hb e c hl
        rw [PC.look_cons] at hl
        split at hl
        · rename_i he; subst he; cases hl; exact hb
        · exact hpc e c hl
      split at h
      · rename_i b hl
        have hb := hpc d b hl
        split at h
        · rename_i hw; exact run hb hpc (by simpa using hw) h
        · rename_i hw; exact skip hb hpc (by simpa using hw) h
      · split at h
        · rename_i hv
          have hv' : opV0 E ops nm o st = some (st.put o.dst (.tup [])) := by unfold opV0; rw [hg]; simp only [hd, hv, isUndef]
          exact ⟨_, _, hv', keep pc _ hpc hv', h⟩
        · rename_i b hv
          have hb : boolOf st.tmps[d]? = some b := by rw [hv]; rfl
          split at h
          · rename_i hw; exact run hb hpc (by simpa using hw) h
          · rename_i hw; exact skip hb hpc (by simpa using hw) h
        · rename_i p i hv
          split at h
          · rw [T.val_ite] at h
            rcases h with ⟨hp, h⟩ | ⟨hp, h⟩
            · have hb : boolOf st.tmps[d]? = some true := by rw [hv]; simp [boolOf, hp]
              exact run hb (cons hb) rfl h
            · have hb : boolOf st.tmps[d]? = some false := by rw [hv]; simp [boolOf, hp]
              exact skip hb (cons hb) (by simp) h
          · rw [T.val_ite] at h
            rcases h with ⟨hp, h⟩ | ⟨hp, h⟩
            · have hb : boolOf st.tmps[d]? = some true := by rw [hv]; simp [boolOf, hp]
              exact skip hb (cons hb) (by simp) h
            · have hb : boolOf st.tmps[d]? = some false := by rw [hv]; simp [boolOf, hp]
              exact run hb (cons hb) rfl h
        · simp [T.val_fail] at h

theorem opsK_spec {fts : List (Option Nat)} : ∀ {l : List Oper} {k nm : Nat} {pc : PC} {st r : St}, PCok pc st → (opsK E ops fts l k nm pc st).val = some r → runV E ops fts l k nm st = some r
  | [], k, nm, pc, st, r, _, h => by simp only [opsK, T.val_ret] at h; rw [h]; rfl
  | o :: l, k, nm, pc, st, r, hpc, h => by
    simp only [opsK] at h
    split at h
    · rename_i hf
      obtain ⟨s1, pc', h1, h2, h3⟩ := opK_spec hpc h
      have hv := opV_iff.2 ⟨hf, h1⟩
      simp only [runV, hv, Option.bind_some]
      exact opsK_spec h2 h3
    · simp [T.val_fail] at h

theorem runV_runI {fts : List (Option Nat)} : ∀ {l : List Oper} {pre : List Oper} {nm0 : Nat} {s : St}, ops.toList = pre ++ l → runV E ops fts l pre.length (nm0 + needAll E pre) s = runI E ops fts (fun i => nm0 + needAll E (ops.toList.take i)) (List.range' pre.length l.length) s
  | [], pre, nm0, s, _ => rfl
  | o :: l, pre, nm0, s, h => by
    have ho : ops[pre.length]? = some o := by rw [← Array.getElem?_toList, h, List.getElem?_append_right (Nat.le_refl _)]; simp
    have hn : needAll E (pre ++ [o]) = needAll E pre + need E o := by
      clear h ho
      induction pre with
      | nil => simp [needAll]
      | cons x r ih => simp only [List.cons_append, needAll, ih]; omega
    simp only [runV, List.length_cons, List.range'_succ, runI, ho]
    have ht : ops.toList.take pre.length = pre := by rw [h]; simp
    rw [ht]
    congr 1
    funext s1
    have := runV_runI (fts := fts) (l := l) (pre := pre ++ [o]) (nm0 := nm0) (s := s1) (by rw [h]; simp)
    rw [hn, ← Nat.add_assoc, List.length_append, List.length_singleton] at this
    rw [this]

theorem Rel.more (hr : Rel ρ B w0 st a w) (n : Nat) : Rel ρ B w0 (st.more n) a w := ⟨hr.len, hr.tm, hr.m.more n, hr.defers⟩

theorem region_sound (hE : E.Ok P) (hmix : P.follows .mixedOrders = true) (hr : Rel ρ B w0 st a w) {id : Nat} {draw : Bool} {fts : List (Option Nat)} {F : St} (h : (regionT E ops fts st).val = some F) (hok : draw = true → regionOk fts ops ops.toList [] [] = true) {Q : Exit → Act → World → Prop} (hQ : ∀ a' w' ρ', Rel ρ' B w0 F a' w' → Q .normal a' w') :
    (Code.region id ops draw).wp P Q a w := by
  have hrun := opsK_spec (pc := []) (fun d b hh => by cases hh) h
  have hr' := hr.more (needAll E ops.toList)
  cases draw with
  | false => exact wp_region_list (runV_sound hE hr' hrun hQ)
  | true =>
    have hc0 : Held fts ops [] [] := ⟨rfl, fun i o h => by simp at h, fun i o m h => by simp at h, fun i o m j oj h => by simp at h⟩
    obtain ⟨ms, hms⟩ := regionOk_spec (hok rfl) hc0
    simp only [List.nil_append] at hms
    refine wp_region_any hmix ?_
    have hI := runV_runI (E := E) (ops := ops) (fts := fts) (l := ops.toList) (pre := []) (nm0 := st.mem.length) (s := st.more (needAll E ops.toList)) rfl
    simp only [needAll, Nat.add_zero, List.length_nil, Array.length_toList] at hI
    rw [hI] at hrun
    refine wpAny_of hE hms hQ ops.size (List.range' 0 ops.size) _ ρ _ a _ (by simp) ?_ ?_ (by simp) ?_ hr'.drew hrun
    · rw [← List.range_eq_range']; exact List.pairwise_lt_range
    · intro i
      rw [← List.range_eq_range', List.mem_range]
      constructor
      · intro hi; exact ⟨hi, by simp [hi]⟩
      · exact fun hi => hi.1
    · intro k o ho hk
      have := (Array.getElem?_eq_some_iff.1 ho).1
      rw [← List.range_eq_range', List.mem_range] at hk
      exact absurd this hk
end
end Go.Ax
