/- A part of the proof: Ax24. -/
import Derived.Test.YtnokmgclkediiaaAx23
/-! ### Plain lemmas: loops, wrapped numbers, lists that are built -/
namespace Go.Ax

/-- A loop whose states are known. -/
theorem iter_run {X Y : Type} {F : (β : Type) → X → (X → Option β) → (Y → Option β) → Option β} (s : Nat → X) (y : Y) (m : Nat) {β : Type} {k : Y → Option β}
    (h : ∀ i, i < m → ∀ kn : X → Option β, F β (s i) kn k = kn (s (i + 1))) (he : ∀ kn : X → Option β, F β (s m) kn k = k y) : ∀ n, m < n → iter F n (s 0) k = k y := by
  have key : ∀ (j n : Nat), j ≤ m → j < n → iter F n (s (m - j)) k = k y := by
    intro j
    induction j with
    | zero =>
      intro n _ hn
      obtain ⟨n, rfl⟩ : ∃ n', n = n' + 1 := ⟨n - 1, by omega⟩
      exact he _
    | succ j ih =>
      intro n hj hn
      obtain ⟨n, rfl⟩ : ∃ n', n = n' + 1 := ⟨n - 1, by omega⟩
      simp only [iter]
      rw [h (m - (j + 1)) (by omega), show m - (j + 1) + 1 = m - j by omega]
      exact ih n (by omega) (by omega)
  intro n hn
  have := key m n (Nat.le_refl _) hn
  simpa using this

theorem wrap_mid {k : IntKind} {x : Int} (h1 : k.min ≤ x) (h2 : x ≤ k.max) : k.wrap x = x := by
  cases k <;> simp [IntKind.wrap, IntKind.min, IntKind.max, IntKind.signed, IntKind.bits] at h1 h2 ⊢ <;> omega
theorem wrap_i64 {x : Int} (h1 : -9223372036854775808 ≤ x) (h2 : x ≤ 9223372036854775807) : IntKind.i64.wrap x = x := wrap_mid h1 h2
theorem wrap_u64 {x : Int} (h1 : 0 ≤ x) (h2 : x ≤ 18446744073709551615) : IntKind.u64.wrap x = x := wrap_mid h1 h2
theorem wrap_u32 {x : Int} (h1 : 0 ≤ x) (h2 : x ≤ 4294967295) : IntKind.u32.wrap x = x := wrap_mid h1 h2
theorem wrap_u16 {x : Int} (h1 : 0 ≤ x) (h2 : x ≤ 65535) : IntKind.u16.wrap x = x := wrap_mid h1 h2
theorem wrap_u8 {x : Int} (h1 : 0 ≤ x) (h2 : x ≤ 255) : IntKind.u8.wrap x = x := wrap_mid h1 h2
theorem wrap_i32 {x : Int} (h1 : -2147483648 ≤ x) (h2 : x ≤ 2147483647) : IntKind.i32.wrap x = x := wrap_mid h1 h2

theorem okInt_u8 {n : Int} : okInt .u8 n ↔ 0 ≤ n ∧ n ≤ 255 := by simp [okInt, Lit.wf, IntKind.min, IntKind.max, IntKind.signed, IntKind.bits]
theorem okInt_u16 {n : Int} : okInt .u16 n ↔ 0 ≤ n ∧ n ≤ 65535 := by simp [okInt, Lit.wf, IntKind.min, IntKind.max, IntKind.signed, IntKind.bits]
theorem okInt_u32 {n : Int} : okInt .u32 n ↔ 0 ≤ n ∧ n ≤ 4294967295 := by simp [okInt, Lit.wf, IntKind.min, IntKind.max, IntKind.signed, IntKind.bits]
theorem okInt_u64 {n : Int} : okInt .u64 n ↔ 0 ≤ n ∧ n ≤ 18446744073709551615 := by simp [okInt, Lit.wf, IntKind.min, IntKind.max, IntKind.signed, IntKind.bits]
theorem okInt_i32 {n : Int} : okInt .i32 n ↔ -2147483648 ≤ n ∧ n ≤ 2147483647 := by simp [okInt, Lit.wf, IntKind.min, IntKind.max, IntKind.signed, IntKind.bits]
theorem okInt_i64 {n : Int} : okInt .i64 n ↔ -9223372036854775808 ≤ n ∧ n ≤ 9223372036854775807 := by simp [okInt, Lit.wf, IntKind.min, IntKind.max, IntKind.signed, IntKind.bits]

/-- A list whose first i places are made by h, and whose others are a's. -/
def part (h : Nat → Int) (i : Nat) (a : List Int) : List Int := (List.range i).map h ++ a.drop i
theorem part_zero (h : Nat → Int) (a : List Int) : part h 0 a = a := by simp [part]
theorem part_length {h : Nat → Int} {i : Nat} {a : List Int} (hi : i ≤ a.length) : (part h i a).length = a.length := by simp [part]; omega
theorem part_all {h : Nat → Int} {n : Nat} {a : List Int} (hn : a.length = n) : part h n a = (List.range n).map h := by simp [part, List.drop_eq_nil_of_le (Nat.le_of_eq hn)]
theorem part_set {h : Nat → Int} {i : Nat} {a : List Int} (hi : i < a.length) : (part h i a).set i (h i) = part h (i + 1) a := by
  unfold part
  rw [List.set_append_right _ _ (by simp)]
  simp only [List.length_map, List.length_range, Nat.sub_self]
  rw [List.drop_eq_getElem_cons hi, List.set_cons_zero, List.range_succ, List.map_append]
  simp
theorem part_set' {h : Nat → Int} {i : Nat} {a : List Int} {z : Int} (hi : i < a.length) (hz : z = h i) : (part h i a).set i z = part h (i + 1) a := by rw [hz, part_set hi]
theorem part_getD {h : Nat → Int} {i j : Nat} {a : List Int} (hj : i ≤ j) : (part h i a).getD j 0 = a.getD j 0 := by
  unfold part
  rw [List.getD_eq_getElem?_getD, List.getElem?_append_right (by simp; omega)]
  simp only [List.length_map, List.length_range, List.getElem?_drop, List.getD_eq_getElem?_getD]
  rw [show i + (j - i) = j by omega]
theorem part_getD_lt {h : Nat → Int} {i j : Nat} {a : List Int} (hj : j < i) : (part h i a).getD j 0 = h j := by
  unfold part
  rw [List.getD_eq_getElem?_getD, List.getElem?_append_left (by simp; omega)]
  simp [hj]
theorem map_range_getD {h : Nat → Int} {n i : Nat} (hi : i < n) : ((List.range n).map h).getD i 0 = h i := by simp [List.getD_eq_getElem?_getD, hi]

/-- What a function answers at inputs of its kinds. -/
noncomputable def Spec {ks rs : List Kd} (Q : Ds ks → Prop) (f : Ds ks → Rs rs) : Ds ks → Option (Rs rs) := fun x => @ite _ (wfAll ks x ∧ Q x) (Classical.propDecidable _) (some (f x)) none
theorem Spec_of {ks rs : List Kd} {Q : Ds ks → Prop} {f : Ds ks → Rs rs} {p : Nat → Ds ks → Option (Rs rs)} (h : ∀ x, wfAll ks x → Q x → ∃ N, p N x = some (f x)) : ∀ x r, Spec Q f x = some r → ∃ N, p N x = some r := by
  intro x r hx
  unfold Spec at hx
  split at hx
  · rename_i hq; cases hx; exact h x hq.1 hq.2
  · cases hx
theorem Spec_at {ks rs : List Kd} {Q : Ds ks → Prop} {f : Ds ks → Rs rs} {x : Ds ks} (h : wfAll ks x) (hq : Q x) : Spec Q f x = some (f x) := by
  unfold Spec
  rw [if_pos ⟨h, hq⟩]

/-- Rows of numbers. -/
def u16s (n : Nat) (a : List Int) : Prop := a.length = n ∧ ∀ z ∈ a, 0 ≤ z ∧ z ≤ 65535
theorem wf_u16s {n : Nat} {a : List Int} : Kd.wf (.xs (.int .u16) n) a ↔ u16s n a := by simp [Kd.wf, u16s, okInt_u16]
theorem getD_mem {a : List Int} {i : Nat} (h : i < a.length) : a.getD i 0 ∈ a := by
  rw [List.getD_eq_getElem?_getD, List.getElem?_eq_getElem h]
  simp
theorem u16s.at {n : Nat} {a : List Int} (h : u16s n a) (i : Nat) : 0 ≤ a.getD i 0 ∧ a.getD i 0 ≤ 65535 := by
  by_cases hi : i < a.length
  · exact h.2 _ (getD_mem hi)
  · rw [List.getD_eq_getElem?_getD, List.getElem?_eq_none (by omega)]; simp
theorem u16s.range {n : Nat} {h : Nat → Int} (hh : ∀ i, i < n → 0 ≤ h i ∧ h i ≤ 65535) : u16s n ((List.range n).map h) := by
  refine ⟨by simp, fun z hz => ?_⟩
  obtain ⟨i, hi, rfl⟩ := List.mem_map.1 hz
  exact hh i (List.mem_range.1 hi)
theorem u16s.zero (n : Nat) : u16s n (List.replicate n 0) := ⟨by simp, fun z hz => by rw [List.eq_of_mem_replicate hz]; omega⟩
theorem tmod_pos {a b : Int} (ha : 0 ≤ a) : a.tmod b = a % b := Int.tmod_eq_emod_of_nonneg ha
theorem tdiv_pos {a b : Int} (ha : 0 ≤ a) : a.tdiv b = a / b := Int.tdiv_eq_ediv_of_nonneg ha
end Go.Ax
