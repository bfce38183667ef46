/- A part of the proof: Ax19. -/
import Derived.Test.YtnokmgclkediiaaAx18
/-! ### Code and functions -/
namespace Go.Ax
open Go.RowKit

variable {P : Program}

theorem place_spec : ∀ {ns : List Nat} {o k j : Nat}, place o ns k = some j → k ≤ j ∧ ns[j - k]? = some o
  | [], o, k, j, h => by cases h
  | x :: r, o, k, j, h => by
    simp only [place] at h
    split at h
    · rename_i he
      cases h
      exact ⟨Nat.le_refl _, by simp [beq_t he]⟩
    · obtain ⟨h1, h2⟩ := place_spec h
      exact ⟨by omega, by rw [show j - k = (j - (k + 1)) + 1 by omega]; simpa using h2⟩

section
variable {ρ ρ' : Env} {B : Nat} {w0 : World} {st st' : St} {a : Act} {w : World} {E : AE}

theorem A1.ren_rel {ns : List Nat} {cv : Bool} (hρ : ∀ (j o : Nat) (l : Loc), ns[j]? = some o → ρ o = some l → ρ' j = some l) {x : A1} {v : Value} (h : A1.rel ρ x v) : A1.rel ρ' (x.ren ns cv) v := by
  have top : A1.rel ρ' .top v := A1.rel_one h
  cases x <;> try exact h
  case bool p d =>
    simp only [A1.ren]
    split
    · exact h
    · exact h
  case ptr o b i =>
    simp only [A1.ren]
    split
    · rename_i j hj
      obtain ⟨l, blk, f, h1, h2⟩ := h
      obtain ⟨_, hj⟩ := place_spec hj
      exact ⟨l, blk, f, hρ j o l (by simpa using hj) h1, h2⟩
    · exact top
  case vec o n e =>
    simp only [A1.ren]
    split
    · rename_i j hj
      obtain ⟨l, h1, h2⟩ := h
      obtain ⟨_, hj⟩ := place_spec hj
      exact ⟨l, hρ j o l (by simpa using hj) h1, h2⟩
    · exact top
  case sl o f n c e =>
    simp only [A1.ren]
    split
    · rename_i j hj
      obtain ⟨l, ad, cc, h1, h2⟩ := h
      obtain ⟨_, hj⟩ := place_spec hj
      exact ⟨l, ad, cc, hρ j o l (by simpa using hj) h1, h2⟩
    · exact top
  case clo g o b =>
    simp only [A1.ren]
    split
    · rename_i j hj
      obtain ⟨l, blk, f, h1, h2⟩ := h
      obtain ⟨_, hj⟩ := place_spec hj
      exact ⟨l, blk, f, hρ j o l (by simpa using hj) h1, h2⟩
    · exact top
  case ifp t o b =>
    simp only [A1.ren]
    split
    · rename_i j hj
      obtain ⟨l, blk, f, h1, h2⟩ := h
      obtain ⟨_, hj⟩ := place_spec hj
      exact ⟨l, blk, f, hρ j o l (by simpa using hj) h1, h2⟩
    · exact top
  case ifq t o b k n =>
    simp only [A1.ren]
    split
    · rename_i j hj
      obtain ⟨l, blk, f, h1, h2⟩ := h
      obtain ⟨_, hj⟩ := place_spec hj
      exact ⟨l, blk, f, hρ j o l (by simpa using hj) h1, h2⟩
    · exact top

theorem segRen_rel {ns : List Nat} {cv : Bool} (hρ : ∀ (j o : Nat) (l : Loc), ns[j]? = some o → ρ o = some l → ρ' j = some l) : ∀ {l : List Seg} {C : List Value}, segRel ρ l C → segRel ρ' (segRen ns cv l) C
  | [], _, h => h
  | .xs _ _ _ :: _, _, ⟨h1, cs, h2, h3⟩ => ⟨h1, cs, h2, segRen_rel hρ h3⟩
  | .one _ :: _, _, ⟨c, cs, h1, h2, h3⟩ => ⟨c, cs, h1, A1.ren_rel hρ h2, segRen_rel hρ h3⟩

theorem AV.ren_rel {ns : List Nat} {cv : Bool} (hρ : ∀ (j o : Nat) (l : Loc), ns[j]? = some o → ρ o = some l → ρ' j = some l) {x : AV} {v : Value} (h : AV.rel ρ x v) : AV.rel ρ' (x.ren ns cv) v := by
  cases x with
  | any => trivial
  | sc x => exact A1.ren_rel hρ h
  | agg l => obtain ⟨cs, h1, h2⟩ := h; exact ⟨cs, h1, segRen_rel hρ h2⟩

theorem avRen_rel {ns : List Nat} {cv : Bool} (hρ : ∀ (j o : Nat) (l : Loc), ns[j]? = some o → ρ o = some l → ρ' j = some l) : ∀ {l : List AV} {vs : List Value}, relAll ρ l vs → relAll ρ' (avRen ns cv l) vs
  | [], _, h => h
  | _ :: _, _, ⟨v, vs', h1, h2, h3⟩ => ⟨v, vs', h1, AV.ren_rel hρ h2, avRen_rel hρ h3⟩

theorem TV.ren_rel {ns : List Nat} {cv : Bool} (hρ : ∀ (j o : Nat) (l : Loc), ns[j]? = some o → ρ o = some l → ρ' j = some l) {x : TV} {v : Value} (h : TV.rel ρ x v) : TV.rel ρ' (x.ren ns cv) v := by
  cases x with
  | one x => exact AV.ren_rel hρ h
  | tup l => obtain ⟨vs, h1, h2⟩ := h; exact ⟨vs, h1, avRen_rel hρ h2⟩

theorem addName_nodup {acc : List Nat} {x : Option Nat} (h : acc.Nodup) : (addName acc x).Nodup := by
  cases x with
  | none => exact h
  | some o =>
    simp only [addName]
    split
    · exact h
    · rename_i hc
      rw [List.nodup_append]
      refine ⟨h, by simp, fun a ha b hb e => ?_⟩
      simp only [List.mem_singleton] at hb
      subst hb; subst e
      have : acc.contains a = true := List.contains_iff_mem.2 ha
      rw [this] at hc
      cases hc
theorem segNames_nodup : ∀ {l : List Seg} {acc : List Nat}, acc.Nodup → (segNames l acc).Nodup
  | [], _, h => h
  | .xs _ _ _ :: r, _, h => segNames_nodup (l := r) h
  | .one _ :: r, _, h => segNames_nodup (l := r) (addName_nodup h)
theorem AV.names_nodup {x : AV} {acc : List Nat} (h : acc.Nodup) : (x.names acc).Nodup := by
  cases x with
  | any => exact h
  | sc x => exact addName_nodup h
  | agg l => exact segNames_nodup h
theorem avNames_nodup : ∀ {l : List AV} {acc : List Nat}, acc.Nodup → (avNames l acc).Nodup
  | [], _, h => h
  | _ :: r, _, h => avNames_nodup (l := r) (AV.names_nodup h)
theorem TV.names_nodup {x : TV} {acc : List Nat} (h : acc.Nodup) : (x.names acc).Nodup := by
  cases x with
  | one x => exact AV.names_nodup h
  | tup l => exact avNames_nodup h
theorem liveNames_nodup : ∀ {l : List Nat} {acc : List Nat}, acc.Nodup → (liveNames st l acc).Nodup
  | [], _, h => h
  | _ :: r, _, h => liveNames_nodup (l := r) (TV.names_nodup h)
theorem reachNames_nodup : ∀ {l : List Nat} {acc : List Nat}, acc.Nodup → (reachNames st l acc).Nodup
  | [], _, h => h
  | o :: r, acc, h => by
    simp only [reachNames]
    refine reachNames_nodup (l := r) ?_
    split
    · exact segNames_nodup h
    · exact h

theorem keepTmps_get {ns live : List Nat} {cv : Bool} : ∀ {l : List TV} {k i : Nat} {v : TV}, (keepTmps ns live cv l k)[i]? = some v → ∃ u, l[i]? = some u ∧ (v = u.ren ns cv ∨ v = .one .any)
  | [], _, _, _, h => by simp [keepTmps] at h
  | x :: r, k, i, v, h => by
    cases i with
    | zero =>
      simp only [keepTmps, List.getElem?_cons_zero, Option.some.injEq] at h
      refine ⟨x, rfl, ?_⟩
      split at h
      · exact .inl h.symm
      · exact .inr h.symm
    | succ i => simpa using keepTmps_get (l := r) (k := k + 1) (by simpa [keepTmps] using h)
theorem keepTmps_length {ns live : List Nat} {cv : Bool} : ∀ {l : List TV} {k : Nat}, (keepTmps ns live cv l k).length = l.length
  | [], _ => rfl
  | _ :: r, k => by simp [keepTmps, keepTmps_length (l := r)]
theorem keepMem_get {ns : List Nat} {cv : Bool} : ∀ {l : List Nat} {i : Nat}, (keepMem st ns cv l)[i]? = (l[i]?).map fun o => match st.look o with
    | some b => Slot.live { b with segs := segRen ns cv b.segs }
    | none => .dead
  | [], i => by simp [keepMem]
  | o :: r, i => by
    cases i with
    | zero => simp only [keepMem, List.getElem?_cons_zero, Option.map_some]; rfl
    | succ i => simpa [keepMem] using keepMem_get (l := r) (i := i)

theorem norm_rel (hr : Rel ρ B w0 st a w) (live : List Nat) : ∃ ρ', Rel ρ' B w0 (norm live st) a w := by
  have key : ∀ (ns : List Nat) (cv : Bool), ns.Nodup → Rel (fun j => match ns[j]? with | some o => ρ o | none => none) B w0 { tmps := keepTmps ns live cv st.tmps 0, mem := keepMem st ns cv ns } a w := by
    intro ns cv hnd
    have hρ : ∀ (j o : Nat) (l : Loc), ns[j]? = some o → ρ o = some l → (fun j => match ns[j]? with | some o => ρ o | none => none) j = some l := by
      intro j o l h1 h2
      simp only [h1, h2]
    have hlive : ∀ (j : Nat) (b : Ob), (keepMem st ns cv ns)[j]? = some (Slot.live b) → ∃ o b0, ns[j]? = some o ∧ st.look o = some b0 ∧ b = { b0 with segs := segRen ns cv b0.segs } := by
      intro j b h
      rw [keepMem_get, Option.map_eq_some_iff] at h
      obtain ⟨o, h1, h2⟩ := h
      split at h2
      · rename_i b0 hb; cases h2; exact ⟨o, b0, h1, hb, rfl⟩
      · cases h2
    refine ⟨?_, ?_, ⟨?_, ?_, ?_, ?_, hr.m.below, hr.m.size⟩, hr.defers⟩
    · simp only [keepTmps_length]; exact hr.len
    · intro i v h
      obtain ⟨u, h1, h2⟩ := keepTmps_get h
      rcases h2 with rfl | rfl
      · exact TV.ren_rel hρ (hr.tm i u h1)
      · trivial
    · intro j h
      rw [keepMem_get] at h
      cases hn : ns[j]? with
      | none => rfl
      | some o =>
        rw [hn] at h
        simp only [Option.map_some, reduceCtorEq, Option.some.injEq, false_or] at h
        split at h <;> cases h
    · intro j b h
      obtain ⟨o, b0, h1, h2, rfl⟩ := hlive j b h
      obtain ⟨l, C, g1, g2, g3⟩ := hr.m.ob o b0 (look_live h2)
      exact ⟨l, C, hρ j o l h1 g1, segRen_rel hρ g2, g3⟩
    · intro j b j' b' l l' x y h h' hb hne hl hl' hx hy
      obtain ⟨o, b0, h1, h2, rfl⟩ := hlive j b h
      obtain ⟨o', b0', h1', h2', rfl⟩ := hlive j' b' h'
      simp only [h1] at hl
      simp only [h1'] at hl'
      refine hr.m.sep o b0 o' b0' l l' x y (look_live h2) (look_live h2') hb (fun e => ?_) hl hl' hx hy
      subst e
      obtain ⟨p1, p2⟩ := List.getElem?_eq_some_iff.1 h1
      obtain ⟨q1, q2⟩ := List.getElem?_eq_some_iff.1 h1'
      exact hne ((List.getElem_inj hnd).1 (p2.trans q2.symm))
    · intro j b l x h hb hl hx
      obtain ⟨o, b0, h1, h2, rfl⟩ := hlive j b h
      simp only [h1] at hl
      exact hr.m.ownB o b0 l x (look_live h2) hb hl hx
  exact ⟨_, key _ _ (reachNames_nodup (reachNames_nodup (liveNames_nodup List.nodup_nil)))⟩

theorem pre_rel (hr : Rel ρ B w0 st a w) (H : Hints) (k : Nat) : ∃ ρ', Rel ρ' B w0 (pre H k st) a w := by
  unfold pre
  split
  · exact norm_rel hr _
  · exact ⟨ρ, hr⟩
theorem head_rel (hr : Rel ρ B w0 st a w) (H : Hints) (c : Code) : ∃ ρ', Rel ρ' B w0 (head H c st) a w := by
  unfold head
  split
  · exact pre_rel hr H _
  · exact ⟨ρ, hr⟩

def exOf : Ex → Exit
  | .normal => .normal
  | .exit id => .exit id
  | .ret => .ret

theorem Rel.know (hr : Rel ρ B w0 st a w) {t : Nat} {b : Bool} (h : a.tmps.getD t undef = .bool b) : Rel ρ B w0 (st.put (some t) (.one (.sc (.known b)))) a w := by
  refine ⟨by simp [St.put, hr.len], fun i v hv => ?_, hr.m, hr.defers⟩
  simp only [St.put, List.getElem?_set] at hv
  split at hv
  · rename_i e
    subst e
    split at hv
    · cases hv; exact h
    · cases hv
  · exact hr.tm i v hv

theorem codeK_sound (hE : E.Ok P) (hmix : P.follows .mixedOrders = true) (H : Hints) (n : Nat) {β : Type} : ∀ (c : Code) {ρ : Env} {st : St} {a : Act} {w : World} {K : Ex → St → Option β} {r : β} {Q : Exit → Act → World → Prop}, Rel ρ B w0 st a w → codeK E H n c st K = some r →
    (∀ e st' ρ' a' w', Rel ρ' B w0 st' a' w' → K e st' = some r → Q (exOf e) a' w') → c.wp P Q a w
  | .skip, ρ, st, a, w, K, r, Q, hr, h, hQ => Go.wp_skip (hQ .normal st ρ a w hr h)
  | .region id ops draw, ρ, st, a, w, K, r, Q, hr, h, hQ => by
    have fin : ∀ fts : List (Option Nat), (regionT E ops fts st).run (K .normal) = some r → (draw = true → regionOk fts ops ops.toList [] [] = true) → (Code.region id ops draw).wp P Q a w := by
      intro fts h hok
      rw [T.run_val, Option.bind_eq_some_iff] at h
      obtain ⟨F, h1, h2⟩ := h
      exact region_sound hE hmix hr h1 hok fun a' w' ρ' hr' => hQ .normal F ρ' a' w' hr' h2
    simp only [codeK] at h
    split at h
    · exact fin _ h (fun e => by cases e)
    · split at h
      · rename_i hok; exact fin _ h (fun _ => hok)
      · split at h
        · rename_i hok; exact fin _ h (fun _ => hok)
        · cases h
  | .seq x y, ρ, st, a, w, K, r, Q, hr, h, hQ => by
    refine wp_seq (codeK_sound hE hmix H n x hr h ?_)
    intro e st' ρ' a' w' hr' hk
    cases e with
    | normal => exact codeK_sound hE hmix H n y hr' hk hQ
    | exit id => exact hQ (.exit id) st' ρ' a' w' hr' hk
    | ret => exact hQ .ret st' ρ' a' w' hr' hk
  | .cond c x y, ρ, st, a, w, K, r, Q, hr, h, hQ => by
    simp only [codeK] at h
    split at h
    · rename_i t
      obtain ⟨ρ1, hr⟩ := pre_rel hr H (1000000 + t)
      have hQ' : ∀ e st' ρ' a' w', Rel ρ' B w0 st' a' w' → joinK H (4000000 + t) K e st' = some r → Q (exOf e) a' w' := by
        intro e st' ρ' a' w' hr' hk
        cases e with
        | normal =>
          obtain ⟨ρ2, hr2⟩ := pre_rel hr' H (4000000 + t)
          exact hQ .normal _ ρ2 a' w' hr2 hk
        | exit id => exact hQ _ _ ρ' a' w' hr' hk
        | ret => exact hQ _ _ ρ' a' w' hr' hk
      unfold condK at h
      split at h
      · rename_i hv
        have hv' : a.tmps.getD t undef = .bool true := hr.tm t _ hv
        exact wp_cond_true (c := .tmp t) hv' (codeK_sound hE hmix H n x hr h hQ')
      · rename_i hv
        have hv' : a.tmps.getD t undef = .bool false := hr.tm t _ hv
        exact wp_cond_false (c := .tmp t) hv' (codeK_sound hE hmix H n y hr h hQ')
      · rename_i p d hv
        have hv' : a.tmps.getD t undef = .bool (@decide p d) := hr.tm t _ hv
        by_cases hp : p
        · rw [if_pos hp] at h
          have hv2 : a.tmps.getD t undef = .bool true := by rw [hv']; simp [hp]
          exact wp_cond_true (c := .tmp t) hv2 (codeK_sound hE hmix H n x (hr.know hv2) h hQ')
        · rw [if_neg hp] at h
          have hv2 : a.tmps.getD t undef = .bool false := by rw [hv']; simp [hp]
          exact wp_cond_false (c := .tmp t) hv2 (codeK_sound hE hmix H n y (hr.know hv2) h hQ')
      · cases h
    · cases h
  | .block id x, ρ, st, a, w, K, r, Q, hr, h, hQ => by
    refine wp_block (codeK_sound hE hmix H n x hr h ?_)
    intro e st' ρ' a' w' hr' hk
    cases e with
    | normal => exact hQ .normal st' ρ' a' w' hr' hk
    | ret => exact hQ .ret st' ρ' a' w' hr' hk
    | exit j =>
      simp only at hk
      simp only [exOf, Exit.inBlock]
      split at hk
      · rename_i hj
        rw [if_pos (beq_t hj)]
        exact hQ .normal st' ρ' a' w' hr' hk
      · rename_i hj
        rw [if_neg (beq_f hj)]
        exact hQ (.exit j) st' ρ' a' w' hr' hk
  | .loop x, ρ, st, a, w, K, r, Q, hr, h, hQ => by
    simp only [codeK] at h
    have key : ∀ (m : Nat) {ρ : Env} {st : St} {a : Act} {w : World}, Rel ρ B w0 st a w → loopK (fun st K => codeK E H n x st K) (head H x) m st K = some r → ∀ (b : Frame) (k : List Item) (cs : List Frame),
        ∃ e a' w', Q e a' w' ∧ Arrives P (lone (b.at a (.code x :: .inLoop x :: k)) cs w) b k cs e a' w' := by
      intro m
      induction m with
      | zero => intro ρ st a w _ h; cases h
      | succ m ih =>
        intro ρ st a w hr h b k cs
        simp only [loopK] at h
        obtain ⟨ρ1, hr1⟩ := head_rel hr H x
        have hbody : x.wp P (fun e a' w' => (e = .normal ∧ ∃ ρ' st', Rel ρ' B w0 st' a' w' ∧ loopK (fun st K => codeK E H n x st K) (head H x) m st' K = some r) ∨ (e ≠ .normal ∧ (∀ id, e = .exit id ∨ True) ∧ Q e a' w')) a w := by
          refine codeK_sound hE hmix H n x hr1 h ?_
          intro e st' ρ' a' w' hr' hk
          cases e with
          | normal => exact .inl ⟨rfl, ρ', st', hr', hk⟩
          | exit id => exact .inr ⟨by simp [exOf], fun _ => .inr trivial, hQ (.exit id) st' ρ' a' w' hr' hk⟩
          | ret => exact .inr ⟨by simp [exOf], fun _ => .inr trivial, hQ .ret st' ρ' a' w' hr' hk⟩
        obtain ⟨e, a1, w1, hq, harr⟩ := hbody b (.inLoop x :: k) cs
        rcases hq with ⟨rfl, ρ', st', hr', hk⟩ | ⟨hne, _, hq⟩
        · obtain ⟨e2, a2, w2, hq2, harr2⟩ := ih hr' hk b k cs
          exact ⟨e2, a2, w2, hq2, .of_steps (Steps.trans harr (.one step_inLoop)) harr2⟩
        · exact ⟨e, a1, w1, hq, .pass (x := .inLoop x) rfl (fun _ _ => .inl hne) harr⟩
    intro b k cs
    obtain ⟨e, a', w', hq, harr⟩ := key n hr h b k cs
    exact ⟨e, a', w', hq, .of_steps (.one step_loop) harr⟩
  | .exit id, ρ, st, a, w, K, r, Q, hr, h, hQ => by
    obtain ⟨ρ1, hr⟩ := pre_rel hr H (2000000 + id)
    exact wp_exit (hQ (.exit id) _ ρ1 a w hr h)
  | .ret, ρ, st, a, w, K, r, Q, hr, h, hQ => by
    obtain ⟨ρ1, hr⟩ := pre_rel hr H 3000000
    exact wp_ret (hQ .ret _ ρ1 a w hr h)
  | .rangeFunc _ _ _ _, ρ, st, a, w, K, r, Q, hr, h, hQ => by simp [codeK] at h
  | .scope _, ρ, st, a, w, K, r, Q, hr, h, hQ => by simp [codeK] at h
  | .label _, ρ, st, a, w, K, r, Q, hr, h, hQ => by simp [codeK] at h
  | .goto _, ρ, st, a, w, K, r, Q, hr, h, hQ => by simp [codeK] at h
  | .refuse _, ρ, st, a, w, K, r, Q, hr, h, hQ => by simp [codeK] at h
end
end Go.Ax
