/- A part of the proof: Ax22. -/
import Derived.Test.YtnokmgclkediiaaAx21
/-! ### Tables -/
namespace Go.Ax
open Go.RowKit

def assoc {α : Type} : List (Nat × α) → Nat → Option α
  | [], _ => none
  | (k, v) :: r, j => match Nat.beq k j with
    | true => some v
    | false => assoc r j
theorem assoc_mem {α : Type} : ∀ {l : List (Nat × α)} {j : Nat} {v : α}, assoc l j = some v → (j, v) ∈ l
  | [], j, v, h => by cases h
  | (k, w) :: r, j, v, h => by
    simp only [assoc] at h
    split at h
    · rename_i e
      cases h
      rw [beq_t e]
      exact List.mem_cons_self
    · exact List.mem_cons_of_mem _ (assoc_mem h)
def assocs {α : Type} : List (Nat × α) → Nat → List α
  | [], _ => []
  | (k, v) :: r, j => match Nat.beq k j with
    | true => v :: assocs r j
    | false => assocs r j
theorem assocs_mem {α : Type} : ∀ {l : List (Nat × α)} {j : Nat} {v : α}, v ∈ assocs l j → (j, v) ∈ l
  | [], j, v, h => by cases h
  | (k, w) :: r, j, v, h => by
    simp only [assocs] at h
    split at h
    · rename_i e
      rcases List.mem_cons.1 h with rfl | h
      · rw [beq_t e]; exact List.mem_cons_self
      · exact List.mem_cons_of_mem _ (assocs_mem h)
    · exact List.mem_cons_of_mem _ (assocs_mem h)
def AE.of (tys : List (Nat × TyI)) (fns : List (Nat × Sig)) : AE := ⟨assoc tys, assocs fns⟩

def TD.isB : TD → TypeDesc → Bool
  | .int k, .int k' => decide (k = k')
  | .bool, .bool => true
  | .str, .string => true
  | .ptr e, .pointer e' => Nat.beq e e'
  | .sl e, .slice e' => Nat.beq e e'
  | .arr n e, .array n' e' => Nat.beq n n' && Nat.beq e e'
  | .st fs, .struct fields => decide (fields.toList.map (fun f => (f.offset, f.type)) = fs)
  | .other, .struct _ => false
  | .other, .array _ _ => false
  | .other, _ => true
  | _, _ => false
theorem TD.isB_is {t : TD} {d : TypeDesc} (h : t.isB d = true) : t.is d := by
  cases t <;> cases d <;> simp [TD.isB, TD.is] at h ⊢ <;> try (cases h; done)
  all_goals first
    | exact h.symm
    | (subst h; rfl)
    | (obtain ⟨a, b⟩ := h; exact ⟨a.symm, b.symm⟩)
    | exact h

def zeroA : A1 → Option Value
  | .str s => some (.string s)
  | .nilp => some (.pointer none)
  | .nilsl => some (.slice none 0 0)
  | .nilif => some .nilIface
  | _ => none
def zeroS : List Seg → Option (List Value)
  | [] => some []
  | .xs k n zs :: r => match Nat.beq zs.length n, zeroS r with
    | true, some l => some (zs.map k.val ++ l)
    | _, _ => none
  | .one a :: r => match zeroA a, zeroS r with
    | some v, some l => some (v :: l)
    | _, _ => none
theorem zeroA_rel {ρ : Env} {a : A1} {v : Value} (h : zeroA a = some v) : a.rel ρ v := by
  cases a <;> simp [zeroA] at h <;> subst h <;> rfl
theorem zeroS_rel {ρ : Env} : ∀ {l : List Seg} {cs : List Value}, zeroS l = some cs → segRel ρ l cs
  | [], cs, h => by cases h; rfl
  | .xs k n zs :: r, cs, h => by
    simp only [zeroS] at h
    split at h
    · rename_i e1 e2
      cases h
      exact ⟨beq_t e1, _, rfl, zeroS_rel e2⟩
    · cases h
  | .one a :: r, cs, h => by
    simp only [zeroS] at h
    split at h
    · rename_i e1 e2
      cases h
      exact ⟨_, _, rfl, zeroA_rel e1, zeroS_rel e2⟩
    · cases h
theorem TyOk.of {P : Program} {t : TypeId} {i : TyI} {d : TypeDesc} {f : TypeInfo} {z : Value} {cs : List Value} (h1 : P.underlying t = some d) (h2 : P.info? t = some f) (h3 : i.td.isB d = true)
    (h4 : f.size = i.size ∧ f.bytes = i.bytes) (h5 : f.zero = some z) (h6 : zeroS i.zero = some cs) (h6' : z.cells.toList = cs) (h7 : Nat.beq cs.length i.size = true) (h8 : (i.td.agg || Nat.beq i.size 1) = true) : TyOk P t i := by
  refine ⟨⟨d, h1, TD.isB_is h3⟩, ⟨f, z, h2, h4.1, h4.2, h5, by rw [h6']; exact zeroS_rel h6, ?_⟩, fun h => ?_⟩
  · rw [← beq_t h7, ← h6']; simp
  · rw [h] at h8; exact beq_t h8
theorem AE.of_ok {P : Program} {tys : List (Nat × TyI)} {fns : List (Nat × Sig)} (h1 : ∀ p ∈ tys, TyOk P p.1 p.2) (h2 : ∀ p ∈ fns, SigOk P p.1 p.2 ∧ Enters P p.1) : (AE.of tys fns).Ok P :=
  ⟨fun t i h => h1 (t, i) (assoc_mem h), fun f s h => h2 (f, s) (assocs_mem h)⟩
theorem all_nil {α : Type} {p : α → Prop} : ∀ x ∈ ([] : List α), p x := fun x h => by cases h
theorem all_cons {α : Type} {p : α → Prop} {a : α} {l : List α} (h : p a) (hl : ∀ x ∈ l, p x) : ∀ x ∈ a :: l, p x := by
  intro x hx
  rcases List.mem_cons.1 hx with rfl | hx
  · exact h
  · exact hl x hx

def theLoop (k : Nat) (body : Code) : Code := match pickKey k (subs body) with
  | .loop c :: _ => c
  | _ => .skip
def theYes (k : Nat) (body : Code) : Code := match pickKey k (subs body) with
  | .cond _ c _ :: _ => c
  | _ => .skip
def theNo (k : Nat) (body : Code) : Code := match pickKey k (subs body) with
  | .cond _ _ c :: _ => c
  | _ => .skip
/-- A function whose answers were computed. -/
theorem fun_of {P : Program} {E : AE} (hE : E.Ok P) (hmix : P.follows .mixedOrders = true) {f : FuncId} {fn : Func} (hf : P.funcs[f]? = some fn) {H : Hints} {L : Nat → LT} {c : Code} (hc : fn.body = some c)
    (hL : ∀ n, OkAll E H n (L n) (subs c)) {ks rs : List Kd} {F : Nat → Ds ks → Option (Rs rs)} (hF : ∀ n x, funL E H (L n) n fn c ks rs x = F n x)
    {g : Ds ks → Option (Rs rs)} (hg : ∀ x r, g x = some r → ∃ n, F n x = some r) : SigOk P f ⟨ks, rs, g⟩ :=
  fun_sound hE hmix hf (H := H) fun x r h => by
    obtain ⟨n, hn⟩ := hg x r h
    exact ⟨n, funL_sound hc (hL n) (by rw [hF]; exact hn)⟩
end Go.Ax
