/- A part of the proof: Ax23. -/
import Derived.Test.YtnokmgclkediiaaAx22
import Derived.ProofKit
import Derived.OpenShut
/-! ### From a function's answers to a given row -/
namespace Go.Ax
open Go.RowKit Go.ChangeShapes Go.WideShapes

/-- What the arguments of a row are known to be. -/
def okInt (k : IntKind) (n : Int) : Prop := (Lit.int k n).wf = true
def Kd.wf : (K : Kd) → K.T → Prop
  | .int k, n => okInt k n
  | .bool, _ => True
  | .str, s => s.size ≤ maxLen
  | .xs k n, zs => zs.length = n ∧ match k with
    | .int k => ∀ z ∈ zs, okInt k z
    | .bool => ∀ z ∈ zs, z = 0 ∨ z = 1
  | .sl k, zs => zs.length ≤ maxLen ∧ match k with
    | .int k => ∀ z ∈ zs, okInt k z
    | .bool => ∀ z ∈ zs, z = 0 ∨ z = 1
  | .sls k, l => l.length ≤ maxLen ∧ ∀ zs ∈ l, zs.length ≤ maxLen ∧ match k with
    | .int k => ∀ z ∈ zs, okInt k z
    | .bool => ∀ z ∈ zs, z = 0 ∨ z = 1
  | .fnc _, _ => True
  | .rp (.int k), n => okInt k n
  | .rp (.xs k n), zs => zs.length = n ∧ match k with
    | .int k => ∀ z ∈ zs, okInt k z
    | .bool => ∀ z ∈ zs, z = 0 ∨ z = 1
  | .rp (.sl k), zs => zs.length ≤ maxLen ∧ match k with
    | .int k => ∀ z ∈ zs, okInt k z
    | .bool => ∀ z ∈ zs, z = 0 ∨ z = 1
  | .sla k m, zs => (∃ n, zs.length = n * m ∧ n ≤ maxLen) ∧ match k with
    | .int k => ∀ z ∈ zs, okInt k z
    | .bool => ∀ z ∈ zs, z = 0 ∨ z = 1
def wfAll : (ks : List Kd) → Ds ks → Prop
  | [], _ => True
  | k :: ks, x => k.wf x.1 ∧ wfAll ks x.2
/-- A type is of a kind. -/
def Kd.isTy (P : Program) (t : TypeId) : Kd → Prop
  | .int k => P.underlying t = some (.int k)
  | .bool => P.underlying t = some .bool
  | .str => P.underlying t = some .string
  | .xs (.int k) n => ∃ e, P.underlying t = some (.array n e) ∧ P.underlying e = some (.int k) ∧ P.cellsOf e = 1 ∧ P.cellsOf t = n
  | .xs .bool n => ∃ e, P.underlying t = some (.array n e) ∧ P.underlying e = some .bool ∧ P.cellsOf e = 1 ∧ P.cellsOf t = n
  | .sl (.int k) => ∃ e, P.underlying t = some (.slice e) ∧ P.underlying e = some (.int k) ∧ P.cellsOf e = 1
  | _ => False
def isTys (P : Program) : List Kd → List TypeId → Prop
  | [], ts => ts = []
  | k :: ks, ts => ∃ t ts', ts = t :: ts' ∧ k.isTy P t ∧ (P.readableRec t = true ∧ t < P.types.size) ∧ isTys P ks ts'

theorem isTys_nil {P : Program} : isTys P [] [] := rfl
theorem isTys_cons {P : Program} {k : Kd} {ks : List Kd} {ts : List TypeId} (t : TypeId) (ts' : List TypeId) (h : ts = t :: ts') (h1 : k.isTy P t) (h2 : P.readableRec t = true) (h3 : t < P.types.size) (h4 : isTys P ks ts') : isTys P (k :: ks) ts := ⟨t, ts', h, h1, ⟨h2, h3⟩, h4⟩
theorem isTy_int {P : Program} {t : TypeId} {k : IntKind} (h : P.underlying t = some (.int k)) : Kd.isTy P t (.int k) := h
theorem isTy_bool {P : Program} {t : TypeId} (h : P.underlying t = some .bool) : Kd.isTy P t .bool := h
theorem isTy_str {P : Program} {t : TypeId} (h : P.underlying t = some .string) : Kd.isTy P t .str := h
theorem isTy_xs {P : Program} {t e : TypeId} {k : IntKind} {n : Nat} (h1 : P.underlying t = some (.array n e)) (h2 : P.underlying e = some (.int k)) (h3 : P.cellsOf e = 1) (h4 : P.cellsOf t = n) : Kd.isTy P t (.xs (.int k) n) := ⟨e, h1, h2, h3, h4⟩
theorem isTy_xsb {P : Program} {t e : TypeId} {n : Nat} (h1 : P.underlying t = some (.array n e)) (h2 : P.underlying e = some .bool) (h3 : P.cellsOf e = 1) (h4 : P.cellsOf t = n) : Kd.isTy P t (.xs .bool n) := ⟨e, h1, h2, h3, h4⟩
theorem isTy_sl {P : Program} {t e : TypeId} {k : IntKind} (h1 : P.underlying t = some (.slice e)) (h2 : P.underlying e = some (.int k)) (h3 : P.cellsOf e = 1) : Kd.isTy P t (.sl (.int k)) := ⟨e, h1, h2, h3⟩

section
variable {H : Type} {enc : TypeId × Value → H} {P : Program} {W : World} {r : Reach} {b0 : Nat}

theorem drop_take_one {α : Type} {l : List α} {i : Nat} {a : α} (h : l[i]? = some a) : (l.drop i).take 1 = [a] := by
  obtain ⟨h1, h2⟩ := List.getElem?_eq_some_iff.1 h
  rw [List.drop_eq_getElem_cons h1]
  simp [h2]

theorem rows_of {α : Type} {f : α → Value} {Q : α → Prop} : ∀ {C : List Value}, (∀ c ∈ C, ∃ a, c = f a ∧ Q a) → ∃ zs : List α, C = zs.map f ∧ ∀ z ∈ zs, Q z
  | [], _ => ⟨[], rfl, fun z h => by cases h⟩
  | c :: C, h => by
    obtain ⟨a, h1, h2⟩ := h c (by simp)
    obtain ⟨zs, h3, h4⟩ := rows_of (C := C) (fun c hc => h c (by simp [hc]))
    refine ⟨a :: zs, by simp [h1, h3], fun z hz => ?_⟩
    rcases List.mem_cons.1 hz with rfl | hz
    · exact h2
    · exact h4 z hz

theorem seg_eq {L M : List Value} {off : Nat} (h : ∀ i, i < M.length → L[off + i]? = M[i]?) (h0 : 0 < M.length) : L = L.take off ++ M ++ L.drop (off + M.length) := by
  have hlast := h (M.length - 1) (by omega)
  rw [List.getElem?_eq_getElem (l := M) (by omega)] at hlast
  have hlen : off + M.length ≤ L.length := by
    have := (List.getElem?_eq_some_iff.1 hlast).1
    omega
  have : M = (L.drop off).take M.length := by
    apply List.ext_getElem?
    intro i
    by_cases hi : i < M.length
    · rw [List.getElem?_take, if_pos hi, List.getElem?_drop, h i hi]
    · rw [List.getElem?_eq_none (by omega), List.getElem?_eq_none (by simp; omega)]
  conv => rhs; rw [this]
  rw [List.length_take, List.length_drop, Nat.min_eq_left (by omega), ← List.drop_drop, List.append_assoc, List.take_append_drop, List.take_append_drop]

theorem row_of {a : Addr} {len cap : Nat} {k : IntKind} {zs : List Int} (h : ∀ i, i < cap → W.cell? (a.add i) = some (.int k (zs.getD i 0))) (hl : len ≤ cap ∧ len ≤ zs.length) (h0 : 0 < len) : rowAt W (some a) ((zs.take len).map (CK.int k).val) := by
  intro _
  have hc0 := h 0 (by omega)
  obtain ⟨blk, off, sp⟩ := a
  simp only [Addr.add, if_true] at hc0
  unfold World.cell? at hc0
  split at hc0
  · rename_i cs ty fr hh
    split at hc0
    · cases hc0
    · rename_i hsp
      have hsp : sp = none := by cases sp <;> simp_all
      subst hsp
      simp only at hh hc0
      have h1 : off < cs.size := (Array.getElem?_eq_some_iff.1 hc0).1
      refine ⟨blk, cs, ty, fr, cs.toList.take off, cs.toList.drop (off + ((zs.take len).map (CK.int k).val).length), by simp [Nat.min_eq_left (Nat.le_of_lt h1)], hh, ?_⟩
      refine seg_eq (fun i hi => ?_) (by simp; omega)
      have hi' : i < len := by simpa [Nat.min_eq_left hl.2] using hi
      have := h i (by omega)
      rw [Addr.add_lit] at this
      simp only [World.cell?, hh, Option.isSome_none] at this
      rw [Array.getElem?_toList, List.getElem?_map, List.getElem?_take, if_pos hi', List.getElem?_eq_getElem (by omega)]
      simp only [Bool.false_eq_true, if_false] at this
      rw [this, List.getD_eq_getElem?_getD, List.getElem?_eq_getElem (by omega)]
      rfl
  · cases hc0

theorem arg_rd {K : Kd} {t : TypeId} {v : Value} {d : DataW H} {ps : List MemPlace} (hK : K.isTy P t) (hval : Value.okWide P W r b0 t v) (hd : DataW.Trod enc P W 0 (fun _ => true) true t v d ps) : ∃ x, K.rd W x v ∧ K.wf x := by
  cases K with
  | int k => obtain ⟨n, h, _, _, w⟩ := open_int hK hval hd; exact ⟨n, h, w⟩
  | bool => obtain ⟨n, h, _⟩ := open_bool hK hval hd; exact ⟨n, h, trivial⟩
  | str => obtain ⟨s, h, _, _, w⟩ := Go.ChangeMaps.open_string hK hval hd; exact ⟨s, h, w⟩
  | xs k n =>
    have main : ∀ (e : TypeId) (Q : Value → Prop), P.underlying t = some (.array n e) → P.cellsOf e = 1 → P.cellsOf t = n → (∀ m (c : Value) y, DataW.trod enc P W 0 (fun _ => true) true m e [c] = some y → Q c) → ∃ C : List Value, v = .agg C.toArray ∧ C.length = n ∧ ∀ c ∈ C, Q c := by
      intro e Q ht hc hct hQ
      simp only [Value.okWide, ht] at hval
      obtain ⟨cs, rfl, hcs, _⟩ := hval
      obtain ⟨fuel, hf⟩ := hd
      obtain ⟨xs, m, _, _, hl, hxl, hx⟩ := DataW.trod_array ht hf
      simp only [Value.cells] at hl hx
      refine ⟨cs.toList, by simp, by rw [hl, hct], fun c hcm => ?_⟩
      obtain ⟨i, hi⟩ := List.mem_iff_getElem?.1 hcm
      have hlt : i < n := by rw [← hct, ← hl]; exact (List.getElem?_eq_some_iff.1 hi).1
      have := hx i hlt
      rw [hc, Nat.mul_one, drop_take_one hi, List.getElem?_eq_getElem (by omega)] at this
      exact hQ _ _ _ this
    cases k with
    | int k =>
      obtain ⟨e, h1, h2, h3, h4⟩ := hK
      obtain ⟨C, rfl, hl, hC⟩ := main e (fun c => ∃ z, c = .int k z ∧ okInt k z) h1 h3 h4 (fun m c y hy => by
        obtain ⟨z, hz, _, hw⟩ := DataW.trod_int h2 hy
        simp only [List.cons.injEq, and_true] at hz
        exact ⟨z, hz, hw⟩)
      obtain ⟨zs, rfl, hz⟩ := rows_of hC
      exact ⟨zs, ⟨by simpa using hl, rfl⟩, by simpa using hl, hz⟩
    | bool =>
      obtain ⟨e, h1, h2, h3, h4⟩ := hK
      obtain ⟨C, rfl, hl, hC⟩ := main e (fun c => ∃ z : Int, c = .bool (z != 0) ∧ (z = 0 ∨ z = 1)) h1 h3 h4 (fun m c y hy => by
        obtain ⟨z, hz, _⟩ := DataW.trod_bool h2 hy
        simp only [List.cons.injEq, and_true] at hz
        cases z
        · exact ⟨0, hz, .inl rfl⟩
        · exact ⟨1, hz, .inr rfl⟩)
      obtain ⟨zs, rfl, hz⟩ := rows_of hC
      exact ⟨zs, ⟨by simpa using hl, rfl⟩, by simpa using hl, hz⟩
  | sl k =>
    cases k with
    | bool => exact hK.elim
    | int k =>
      obtain ⟨e, h1, h2, h3⟩ := hK
      obtain ⟨a, len, cap, rfl⟩ := okWide_slice h1 hval
      obtain ⟨fuel, hf⟩ := hd
      simp only [Value.cells] at hf
      rcases open_ints h1 h2 h3 hf with ⟨h, _⟩ | ⟨a', len', cap', zs, h, _, hlc, hcm, hzl, _, hcell, hw⟩
      · simp only [List.cons.injEq, Value.slice.injEq, and_true] at h
        obtain ⟨rfl, rfl, rfl⟩ := h
        exact ⟨[], ⟨none, 0, rfl, Nat.le_refl _, fun h => by simp at h⟩, by simp [maxLen], fun z hz => by cases hz⟩
      · simp only [List.cons.injEq, Value.slice.injEq, and_true] at h
        obtain ⟨rfl, rfl, rfl⟩ := h
        rw [if_pos rfl] at hzl
        refine ⟨zs.take len, ⟨some a', cap, by rw [List.length_take, Nat.min_eq_left (by omega)], by rw [List.length_take]; omega, fun hpos => row_of (len := len) (fun i hi => hcell i (by omega)) ⟨hlc, by omega⟩ (by simp at hpos; omega) hpos⟩, by rw [List.length_take]; omega, fun z hz => hw z (List.mem_of_mem_take hz)⟩
  | sls k => exact hK.elim
  | fnc f => exact hK.elim
  | rp k => exact hK.elim
  | sla k m => exact hK.elim

theorem args_rd : ∀ {ks : List Kd} {ts : List TypeId} {vs : List Value} {ds : List (DataW H)} {ps : List MemPlace}, isTys P ks ts → (∀ (j : Nat) t v, ts[j]? = some t → vs[j]? = some v → Value.okWide P W r b0 t v) → DataW.TrodAll enc P W 0 (fun _ => true) true ts vs ds ps →
    ∃ x, rdAll W ks x vs ∧ wfAll ks x
  | [], ts, vs, ds, ps, hk, _, hd => by
    cases hk
    obtain ⟨rfl, _⟩ := trodAll_nil hd
    exact ⟨(), rfl, trivial⟩
  | k :: ks, ts, vs, ds, ps, hk, hval, hd => by
    obtain ⟨t, ts', rfl, h1, _, h2⟩ := hk
    obtain ⟨v, vs', d, ds', p, q, rfl, rfl, rfl, g1, g2⟩ := trodAll_cons hd
    obtain ⟨x, a1, a2⟩ := arg_rd h1 (hval 0 t v rfl rfl) g1
    obtain ⟨y, b1, b2⟩ := args_rd h2 (fun j t v ht hv => hval (j + 1) t v (by simpa using ht) (by simpa using hv)) g2
    exact ⟨(x, y), ⟨v, vs', rfl, a1, b1⟩, a2, b2⟩

theorem args_stay {W' : World} (hl : laidOutB P = true) (hb : Below W.heap.size W W') : ∀ {ks : List Kd} {ts : List TypeId} {vs : List Value} {ds : List (DataW H)} {ps : List MemPlace}, isTys P ks ts → DataW.TrodAll enc P W 0 (fun _ => true) true ts vs ds ps → (∀ p ∈ ps, p.block < W.heap.size) →
    ∀ sp : Nat → Bool, (∀ p ∈ ps, sp p.block = true) → DataW.TrodAll enc P W' 0 sp true ts vs ds ps
  | [], ts, vs, ds, ps, hk, hd, _, sp, _ => by
    cases hk
    obtain ⟨rfl, rfl, rfl⟩ := trodAll_nil hd
    rfl
  | k :: ks, ts, vs, ds, ps, hk, hd, hlt, sp, hsp => by
    obtain ⟨t, ts', rfl, h1, ⟨hr, hrow⟩, h2⟩ := hk
    obtain ⟨v, vs', d, ds', p, q, rfl, rfl, rfl, g1, g2⟩ := trodAll_cons hd
    refine ⟨p, q, WideElems.Trod_stays hl hr hrow g1 (fun x hx => hb.same (hlt x (by simp [hx]))) (fun x hx => hsp x (by simp [hx])), ?_, rfl⟩
    exact args_stay hl hb h2 g2 (fun x hx => hlt x (by simp [hx])) sp (fun x hx => hsp x (by simp [hx]))

/-- THE LAW'S CALL, out of the function's answers. -/
theorem law_calls {f : FuncId} {fn : Func} {ks : List Kd} {g : Ds ks → Option (Rs [.bool])} {s : ChangeSpec} {apart : Bool} {tb : TypeId}
    (hs : SigOk P f ⟨ks, [.bool], g⟩) (hl : laidOutB P = true) (hks : isTys P ks fn.params.toList) (hg : ∀ x, wfAll ks x → g x = some true)
    (hfn : ∀ ds : List (DataW H), ds.length = ks.length → s.fn H ds = { results := [.lit (.bool true)], args := ds }) (hvars : s.vars = []) (hrt : fn.resultTypes = #[tb]) (htb : P.underlying tb = some .bool)
    {base : Nat} {args : Array Value} {ds gs : List (DataW H)} {before : List MemPlace}
    (hval : ∀ (j : Nat) t v, fn.params[j]? = some t → args[j]? = some v → Value.okWide P W .any base t v) (hW : DataW.Whole enc P fn.params.toList s.vars apart W args.toList ds gs before) :
    Calls P f args W fun e W' => ∃ v, e = .returned v ∧ s.post enc P fn apart true false false W args v W' := by
  have hW' := hW
  obtain ⟨p, q, hA, hV, rfl, hfz, hnd⟩ := hW
  rw [hvars] at hV
  have hlen : ∀ {ks : List Kd} {ts : List TypeId} {vs : List Value} {ds : List (DataW H)} {ps : List MemPlace}, isTys P ks ts → DataW.TrodAll enc P W 0 (fun _ => true) true ts vs ds ps → ds.length = ks.length := by
    intro ks
    induction ks with
    | nil => intro ts vs ds ps hk hd; cases hk; obtain ⟨_, rfl, _⟩ := trodAll_nil hd; rfl
    | cons k ks ih =>
      intro ts vs ds ps hk hd
      obtain ⟨t, ts', rfl, _, _, h2⟩ := hk
      obtain ⟨v, vs', d, ds', p, q, rfl, rfl, rfl, g1, g2⟩ := trodAll_cons hd
      simp [ih h2 g2]
  obtain ⟨rfl, rfl⟩ := trodVars_none hV
  have hlt : ∀ x ∈ p, x.block < W.heap.size := fun x hx => hW'.lt x (by simpa using hx)
  obtain ⟨x, hx, hwf⟩ := args_rd hks (fun j t v ht hv => hval j t v (by simpa using ht) (by simpa using hv)) hA
  have hcall := hs x args.toList W hx true (hg x hwf)
  rw [Array.toArray_toList] at hcall
  refine hcall.mono fun e W' ⟨vs', bs, he, hmk, hb⟩ => ?_
  obtain ⟨v, rfl, hv, _⟩ := hmk
  subst hv
  have hds := hlen hks hA
  have hf : s.fn H (ds ++ []) = { results := [.lit (.bool true)], args := ds } := by rw [List.append_nil]; exact hfn ds hds
  refine ⟨_, he, ds, [], p ++ [], [], p, [], hW', ?_, ?_, ?_, World.keptBut_mono (fun x hx => hx.elim) (hb.frame (fun _ => False)), fun h => by cases h⟩
  · rw [hf, hrt]
    exact trodAll_mk1 (shut_bool htb true)
  · rw [hf]
    exact args_stay hl hb hks hA hlt _ (fun x hx => by simpa using hlt x hx)
  · rw [hf, hvars]
    rfl
theorem law_calls_eq {P' : Program} (hp : P' = P) {f : FuncId} {fn : Func} {ks : List Kd} {g : Ds ks → Option (Rs [.bool])} {s : ChangeSpec} {apart : Bool} {tb : TypeId}
    (hs : SigOk P f ⟨ks, [.bool], g⟩) (hl : laidOutB P = true) (hks : isTys P ks fn.params.toList) (hg : ∀ x, wfAll ks x → g x = some true)
    (hfn : ∀ ds : List (DataW H), ds.length = ks.length → s.fn H ds = { results := [.lit (.bool true)], args := ds }) (hvars : s.vars = []) (hrt : fn.resultTypes = #[tb]) (htb : P.underlying tb = some .bool)
    {base : Nat} {args : Array Value} {ds gs : List (DataW H)} {before : List MemPlace}
    (hval : ∀ (j : Nat) t v, fn.params[j]? = some t → args[j]? = some v → Value.okWide P' W .any base t v) (hW : DataW.Whole enc P' fn.params.toList s.vars apart W args.toList ds gs before) :
    Calls P' f args W fun e W' => ∃ v, e = .returned v ∧ s.post enc P' fn apart true false false W args v W' := by
  subst hp
  exact law_calls hs hl hks hg hfn hvars hrt htb hval hW
end
end Go.Ax
