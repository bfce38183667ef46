/- A part of the proof: Ax25. -/
import Derived.Test.YtnokmgclkediiaaAx24
/-! ### Plain lemmas, more -/
namespace Go.Ax

theorem getD_set_eq {l : List Int} {i : Nat} {v : Int} (h : i < l.length) : (l.set i v).getD i 0 = v := by
  rw [List.getD_eq_getElem?_getD, List.getElem?_set_self h]; rfl
theorem getD_set_ne {l : List Int} {i j : Nat} {v : Int} (h : i ≠ j) : (l.set i v).getD j 0 = l.getD j 0 := by
  rw [List.getD_eq_getElem?_getD, List.getElem?_set_ne h, ← List.getD_eq_getElem?_getD]
theorem getD_out {l : List Int} {i : Nat} (h : l.length ≤ i) : l.getD i 0 = 0 := by
  rw [List.getD_eq_getElem?_getD, List.getElem?_eq_none h]; rfl
theorem getD_replicate (n i : Nat) : (List.replicate n (0 : Int)).getD i 0 = 0 := by
  rw [List.getD_eq_getElem?_getD, List.getElem?_replicate]; split <;> rfl
theorem part_getD_self {h : Nat → Int} {i : Nat} {a : List Int} : (part h i a).getD i 0 = a.getD i 0 := part_getD (Nat.le_refl i)

/-- Rows of numbers within bounds. -/
def rows (lo hi : Int) (n : Nat) (a : List Int) : Prop := a.length = n ∧ ∀ z ∈ a, lo ≤ z ∧ z ≤ hi
theorem rows.at {lo hi : Int} {n : Nat} {a : List Int} (h : rows lo hi n a) (h0 : lo ≤ 0 ∧ 0 ≤ hi) (i : Nat) : lo ≤ a.getD i 0 ∧ a.getD i 0 ≤ hi := by
  by_cases hi : i < a.length
  · exact h.2 _ (getD_mem hi)
  · rw [getD_out (by omega)]; exact h0
theorem rows.range {lo hi : Int} {n : Nat} {h : Nat → Int} (hh : ∀ i, i < n → lo ≤ h i ∧ h i ≤ hi) : rows lo hi n ((List.range n).map h) := by
  refine ⟨by simp, fun z hz => ?_⟩
  obtain ⟨i, hi, rfl⟩ := List.mem_map.1 hz
  exact hh i (List.mem_range.1 hi)
theorem rows.zero {lo hi : Int} (h0 : lo ≤ 0 ∧ 0 ≤ hi) (n : Nat) : rows lo hi n (List.replicate n 0) := ⟨by simp, fun z hz => by rw [List.eq_of_mem_replicate hz]; exact h0⟩
theorem rows.set {lo hi : Int} {n : Nat} {a : List Int} (h : rows lo hi n a) {i : Nat} {v : Int} (hv : lo ≤ v ∧ v ≤ hi) : rows lo hi n (a.set i v) := by
  refine ⟨by simp [h.1], fun z hz => ?_⟩
  rcases List.mem_or_eq_of_mem_set hz with hz | rfl
  · exact h.2 z hz
  · exact hv
theorem rows.mono {lo hi lo' hi' : Int} {n : Nat} {a : List Int} (h : rows lo hi n a) (h1 : lo' ≤ lo) (h2 : hi ≤ hi') : rows lo' hi' n a := ⟨h.1, fun z hz => by have := h.2 z hz; omega⟩
theorem rows.ext {n : Nat} {a b : List Int} (ha : a.length = n) (hb : b.length = n) (h : ∀ i, i < n → a.getD i 0 = b.getD i 0) : a = b := by
  apply List.ext_getElem?
  intro i
  by_cases hi : i < n
  · have := h i hi
    rw [List.getD_eq_getElem?_getD, List.getD_eq_getElem?_getD, List.getElem?_eq_getElem (show i < a.length by omega), List.getElem?_eq_getElem (show i < b.length by omega)] at this
    rw [List.getElem?_eq_getElem (show i < a.length by omega), List.getElem?_eq_getElem (show i < b.length by omega)]
    simpa using this
  · rw [List.getElem?_eq_none (by omega), List.getElem?_eq_none (by omega)]
theorem map_getD {a : List Int} {n : Nat} (h : a.length = n) : (List.range n).map (fun i => a.getD i 0) = a :=
  rows.ext (by simp) h fun i hi => map_range_getD hi

abbrev i32s := rows (-2147483648) 2147483647
theorem wf_i32s {n : Nat} {a : List Int} : Kd.wf (.xs (.int .i32) n) a ↔ i32s n a := by simp [Kd.wf, rows, okInt_i32]
abbrev u8s := rows 0 255
theorem wf_u8s {n : Nat} {a : List Int} : Kd.wf (.xs (.int .u8) n) a ↔ u8s n a := by simp [Kd.wf, rows, okInt_u8]
theorem wf_bytes {a : List Int} : Kd.wf (.sl (.int .u8)) a ↔ a.length ≤ maxLen ∧ ∀ z ∈ a, 0 ≤ z ∧ z ≤ 255 := by simp [Kd.wf, okInt_u8]
theorem tmod_fix {a b : Int} (hb : 0 < b) : (if a.tmod b < 0 then a.tmod b + b else a.tmod b) = a % b := by
  rw [Int.tmod_eq_emod]
  by_cases h : 0 ≤ a ∨ b ∣ a
  · rw [if_pos h]
    have := Int.emod_nonneg a (show b ≠ 0 by omega)
    rw [if_neg (by omega)]; omega
  · rw [if_neg h]
    have h1 := Int.emod_nonneg a (show b ≠ 0 by omega)
    have h2 := Int.emod_lt_of_pos a hb
    have h3 : (b.natAbs : Int) = b := by omega
    rw [h3, if_pos (by omega)]; omega
theorem iter_from {X Y : Type} {F : (β : Type) → X → (X → Option β) → (Y → Option β) → Option β} (s : Nat → X) (y : Y) (m : Nat) {β : Type} {k : Y → Option β} {x : X} (hx : s 0 = x)
    (h : ∀ i, i < m → ∀ kn : X → Option β, F β (s i) kn k = kn (s (i + 1))) (he : ∀ kn : X → Option β, F β (s m) kn k = k y) (n : Nat) (hn : m < n) : iter F n x k = k y := by
  subst hx
  exact iter_run s y m h he n hn
end Go.Ax
