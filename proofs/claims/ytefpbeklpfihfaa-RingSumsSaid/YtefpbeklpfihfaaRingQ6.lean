/- A part of the proof: RingQ6. -/
import Derived.Test.YtefpbeklpfihfaaRingQ5
/-! ### What is compressed and made longer is near -/
namespace Go.Ax.TryP

def nComp (w r : Nat) : Nat := (2 * r * w + 3329) / (2 * 3329) % w
def nDec (w c : Nat) : Nat := (2 * (c % w) * 3329 + w) / (2 * w)
def nFar (w r : Nat) : Nat := (nDec w (nComp w r) + 3329 - r) % 3329
def nearB (w r : Nat) : Bool := Nat.ble (nFar w r) ((6658 + 2 * w) / (4 * w)) || Nat.ble (3329 - nFar w r) ((6658 + 2 * w) / (4 * w))
theorem near_all : (List.range 12).all (fun d => Nat.beq d 0 || (List.range 3329).all fun r => nearB (2 ^ d) r) = true := by decide +kernel
theorem near_at {d r : Nat} (h0 : 1 ≤ d) (h1 : d ≤ 11) (hr : r < 3329) : nFar (2 ^ d) r ≤ (6658 + 2 * 2 ^ d) / (4 * 2 ^ d) ∨ 3329 - nFar (2 ^ d) r ≤ (6658 + 2 * 2 ^ d) / (4 * 2 ^ d) := by
  have h := List.all_eq_true.1 near_all d (List.mem_range.2 (by omega))
  rw [Bool.or_eq_true] at h
  rcases h with h | h
  · have := Nat.eq_of_beq_eq_true h; omega
  · have := List.all_eq_true.1 h r (List.mem_range.2 hr)
    unfold nearB at this
    rw [Bool.or_eq_true] at this
    exact this.imp Nat.le_of_ble_eq_true Nat.le_of_ble_eq_true

theorem fComp_nat (d r : Nat) (z : Int) (hz : z % 3329 = (r : Int)) : fComp (d : Int) z = ((nComp (2 ^ d) r : Nat) : Int) := by
  unfold fComp nComp
  rw [hz, Int.toNat_natCast]
  simp only [Int.natCast_emod, Int.natCast_ediv, Int.natCast_add, Int.natCast_mul, Int.natCast_pow, Int.cast_ofNat_Int]
theorem fDecomp_nat (d c : Nat) : fDecomp (d : Int) (c : Int) = ((nDec (2 ^ d) c : Nat) : Int) := by
  unfold fDecomp nDec
  rw [Int.toNat_natCast]
  simp only [Int.natCast_emod, Int.natCast_ediv, Int.natCast_add, Int.natCast_mul, Int.natCast_pow, Int.cast_ofNat_Int]
theorem zeros_u16 : u16s 256 zeros := u16s.zero 256
theorem poly_u16 {h : Nat → Int} (hh : ∀ i, i < 256 → 0 ≤ h i ∧ h i ≤ 65535) : u16s 256 (poly h) := u16s.range hh

theorem q4 : ∀ x r, g4 x = some r → ∃ N, p4 N x = some r := by
  refine Spec_of (ks := p4_ks) (rs := p4_rs) fun x hw _ => ⟨300, ?_⟩
  obtain ⟨(d : Int), (a : List Int), u⟩ := x
  obtain ⟨hd, ha⟩ := wf_two hw
  unfold p4
  simp only [at14 hd ha, Option.bind_some]
  by_cases hb : d < 1 ∨ 11 < d
  · have e1 : fCompress d a = (zeros, 1) := by unfold fCompress; rw [if_pos hb]
    simp only [e1, at16 hd zeros_u16, at18, Option.bind_some]
    have e3 : (1 : Int) ≠ 0 := by decide
    rw [if_neg (by simp), if_pos e3, if_pos trivial]
    rcases hb with h | h
    · rw [if_pos h]
    · by_cases h' : d < 1
      · rw [if_pos h']
      · rw [if_neg h']; simp [h]
  obtain ⟨n, rfl⟩ := Int.eq_ofNat_of_zero_le (show 0 ≤ d by omega)
  have hn : 1 ≤ n ∧ n ≤ 11 := by omega
  obtain ⟨p0, p1⟩ := two_pow (d := (n : Int)) (by omega) (by omega)
  rw [Int.toNat_natCast] at p0 p1
  have cb := fun z => fComp_bound (d := (n : Int)) (by omega) (by omega) z
  have db := fun z => fDecomp_bound (d := (n : Int)) (by omega) (by omega) z
  simp only [Int.toNat_natCast] at cb
  have e1 : fCompress (n : Int) a = (poly fun i => fComp n (a.getD i 0), 0) := by unfold fCompress; rw [if_neg hb]
  have hc : u16s 256 (poly fun i => fComp n (a.getD i 0)) := poly_u16 fun i _ => by have := cb (a.getD i 0); omega
  have e2 : fDecompress (n : Int) (poly fun i => fComp n (a.getD i 0)) = (poly fun i => fDecomp n (fComp n (a.getD i 0)), 0) := by
    unfold fDecompress
    rw [if_neg hb]
    have : (poly fun i => fDecomp n ((poly fun i => fComp n (a.getD i 0)).getD i 0)) = poly fun i => fDecomp n (fComp n (a.getD i 0)) := poly_congr fun i hi => by rw [poly_getD hi]
    rw [this]
  have esh : ishl .i64 2 (n : Int) = 2 * 2 ^ n := by
    unfold ishl
    rw [Int.toNat_natCast, Nat.min_eq_left (by simp [IntKind.bits]; omega)]
    exact wrap_i64 (by omega) (by omega)
  have esh1 : ishl .i64 1 (n : Int) = 2 ^ n := by
    unfold ishl
    rw [Int.toNat_natCast, Nat.min_eq_left (by simp [IntKind.bits]; omega)]
    rw [Int.one_mul]
    exact wrap_i64 (by omega) (by omega)
  have hnear := at19 (a := 1) (b := 3329) (c := 2 * 2 ^ n) (by omega) (by omega) (by omega)
  simp (disch := omega) only [e1, at16 hd hc, e2, at18, Option.bind_some, not_true_eq_false, if_false, ne_eq, wrap_u64, if_neg, esh, hnear]
  have hmost : ((6658 + 2 * 2 ^ n) / (4 * 2 ^ n) : Int) = (((6658 + 2 * 2 ^ n) / (4 * 2 ^ n) : Nat) : Int) := by simp only [Int.natCast_ediv, Int.natCast_add, Int.natCast_mul, Int.natCast_pow, Int.cast_ofNat_Int]
  have hm2 : (2 * 1 * 3329 + 2 * 2 ^ n : Int) / (2 * (2 * 2 ^ n)) = (((6658 + 2 * 2 ^ n) / (4 * 2 ^ n) : Nat) : Int) := by
    rw [← hmost]
    congr 1
    omega
  rw [hm2]
  refine Eq.trans (iter_run (F := p4_l7_F 300) (s := fun i => ((n : Int), (((6658 + 2 * 2 ^ n) / (4 * 2 ^ n) : Nat) : Int), (i : Int), a, (poly fun i => fComp n (a.getD i 0)), (poly fun i => fDecomp n (fComp n (a.getD i 0))), ())) (y := .inr ()) 256 ?_ ?_ 300 (by omega)) ?_
  · intro i hi kn
    have h0 := ha.at i
    have g1 : (poly fun i => fComp n (a.getD i 0)).getD i 0 = fComp n (a.getD i 0) := poly_getD hi
    have g2 : (poly fun i => fDecomp n (fComp n (a.getD i 0))).getD i 0 = fDecomp n (fComp n (a.getD i 0)) := poly_getD hi
    have hcb := cb (a.getD i 0)
    have hdb := db (fComp n (a.getD i 0))
    obtain ⟨r, hr⟩ := Int.eq_ofNat_of_zero_le (show 0 ≤ a.getD i 0 % 3329 by omega)
    have hr2 : r < 3329 := by omega
    have hnr := near_at hn.1 hn.2 hr2
    have hcn := fComp_nat n r (a.getD i 0) hr
    have hdn : fDecomp n (fComp n (a.getD i 0)) = ((nDec (2 ^ n) (nComp (2 ^ n) r) : Nat) : Int) := by rw [hcn, fDecomp_nat]
    have hfar : (((nDec (2 ^ n) (nComp (2 ^ n) r) : Nat) : Int) + 3329 - (r : Int)) % 3329 = ((nFar (2 ^ n) r : Nat) : Int) := by unfold nFar; omega
    rw [hdn] at hdb
    generalize (6658 + 2 * 2 ^ n) / (4 * 2 ^ n) = most at *
    unfold p4_l7_F
    simp (disch := omega) only [if_pos, wrap_i64, Int.toNat_natCast, g1, g2, tmod_pos, hr, hdn, hfar]
    have hfl : nFar (2 ^ n) r < 3329 := Nat.mod_lt _ (by omega)
    rw [if_neg ?_]
    · simp (disch := omega) only [wrap_u64, if_neg, esh1]
      rfl
    · split <;> omega
  · intro kn
    unfold p4_l7_F
    dsimp only
    rw [if_neg (by decide)]
  · rfl
theorem s4 : SigOk Go.Proofs.Try.prog 4 ⟨p4_ks, p4_rs, g4⟩ := p4_ok s14 s16 s18 s19 q4
end Go.Ax.TryP
