/- A part of the proof: RingQ4. -/
import Derived.Test.YtefpbeklpfihfaaRingQ3
/-! ### The examples, and the law about compressing -/
namespace Go.Ax.TryP

def ex1 : List Int := List.set (List.replicate 256 0) 0 (1:Int)
def ex2 : List Int := List.set (List.set (List.replicate 256 0) 0 (833:Int)) 1 (832:Int)
theorem ex1_u16 : u16s 256 ex1 := by
  refine ⟨by rw [ex1, List.length_set, List.length_replicate], fun z hz => ?_⟩
  have : z ∈ List.replicate 256 (0:Int) ∨ z = 1 := List.mem_or_eq_of_mem_set hz
  rcases this with h | h
  · rw [List.eq_of_mem_replicate h]; omega
  · omega
theorem ex2_u16 : u16s 256 ex2 := by
  refine ⟨by rw [ex2, List.length_set, List.length_set, List.length_replicate], fun z hz => ?_⟩
  rcases List.mem_or_eq_of_mem_set hz with h | h
  · rcases List.mem_or_eq_of_mem_set h with h | h
    · rw [List.eq_of_mem_replicate h]; omega
    · omega
  · omega
theorem at24 {a : List Int} (h : u16s 256 a) : g24 (a, ()) = some (fNtt a) := Spec_at (ks := p24_ks) (rs := p24_rs) (wf_one.2 h) trivial
theorem wf_two' {d : Int} {a : List Int} (hd : -9223372036854775808 ≤ d ∧ d ≤ 9223372036854775807) (ha : u16s 256 a) : wfAll [.int .i64, .xs (.int .u16) 256] (d, a, ()) := by
  simp only [wfAll, Kd.wf, okInt_i64, okInt_u16]
  exact ⟨hd, ha, trivial⟩
theorem at14 {d : Int} {a : List Int} (hd : -9223372036854775808 ≤ d ∧ d ≤ 9223372036854775807) (ha : u16s 256 a) : g14 (d, a, ()) = some (fCompress d a) := Spec_at (ks := p14_ks) (rs := p14_rs) (wf_two' hd ha) trivial
theorem at15 {d : Int} {a : List Int} (hd : -9223372036854775808 ≤ d ∧ d ≤ 9223372036854775807) (ha : u16s 256 a) : g15 (d, a, ()) = some (fCompress d a) := Spec_at (ks := p15_ks) (rs := p15_rs) (wf_two' hd ha) trivial
theorem at16 {d : Int} {a : List Int} (hd : -9223372036854775808 ≤ d ∧ d ≤ 9223372036854775807) (ha : u16s 256 a) : g16 (d, a, ()) = some (fDecompress d a) := Spec_at (ks := p16_ks) (rs := p16_rs) (wf_two' hd ha) trivial
theorem at17 {d : Int} {a : List Int} (hd : -9223372036854775808 ≤ d ∧ d ≤ 9223372036854775807) (ha : u16s 256 a) : g17 (d, a, ()) = some (fDecompress d a) := Spec_at (ks := p17_ks) (rs := p17_rs) (wf_two' hd ha) trivial

theorem live_ntt : (fNtt ex1).getD 0 0 = 1 ∧ (fNtt ex1).getD 1 0 = 0 ∧ (fNtt ex1).getD 2 0 = 1 ∧ (fNtt ex1).getD 254 0 = 1 := by decide +kernel
theorem live_comp : (fCompress 1 ex2).1.getD 0 0 = 1 ∧ (fCompress 1 ex2).1.getD 1 0 = 0 ∧ (fCompress 1 ex2).2 = 0 := by decide +kernel
theorem live_decomp : (fDecompress 1 ex1).1.getD 0 0 = 1665 ∧ (fDecompress 1 ex1).2 = 0 := by decide +kernel
theorem q18 : ∀ x r, g18 x = some r → ∃ N, p18 N x = some r := by
  refine Spec_of (ks := p18_ks) (rs := p18_rs) fun x hw _ => ⟨0, ?_⟩
  obtain ⟨a1, a2, a3, a4⟩ := live_ntt
  obtain ⟨b1, b2, b3⟩ := live_comp
  obtain ⟨c1, c2⟩ := live_decomp
  unfold p18
  refine (congrArg (fun o => Option.bind o _) (at24 ex1_u16)).trans ?_
  refine (congrArg (fun o => Option.bind o _) (at14 (d := 1) (by omega) ex2_u16)).trans ?_
  refine (congrArg (fun o => Option.bind o _) (at16 (d := 1) (by omega) ex1_u16)).trans ?_
  simp only [Option.bind_some, a1, a2, a3, a4, b1, b2, b3, c1, c2, if_true, decide_true]
theorem at18 : g18 () = some true := Spec_at (ks := p18_ks) (rs := p18_rs) trivial trivial

/-- THE LAW: whatever the input. -/
noncomputable def g3 : Int × List Int × Unit → Option Bool := Spec (ks := [.int .i64, .xs (.int .u16) 256]) (rs := [.bool]) (fun _ => True) fun _ => true
theorem q3 : ∀ x r, g3 x = some r → ∃ N, p3 N x = some r := by
  refine Spec_of (ks := p3_ks) (rs := p3_rs) fun x hw _ => ⟨0, ?_⟩
  obtain ⟨(d : Int), (a : List Int), u⟩ := x
  obtain ⟨hd, ha⟩ := wf_two hw
  unfold p3
  simp only [at14 hd ha, at15 hd ha, at16 hd ha, at17 hd ha, at18, Option.bind_some, if_true, decide_true]

/-! #### The functions keep their signatures -/
theorem s37 : SigOk Go.Proofs.Try.prog 37 ⟨p37_ks, p37_rs, g37⟩ := p37_ok q37
theorem s47 : SigOk Go.Proofs.Try.prog 47 ⟨p47_ks, p47_rs, g47⟩ := p47_ok q47
theorem s58 : SigOk Go.Proofs.Try.prog 58 ⟨p58_ks, p58_rs, g58⟩ := p58_ok q58
theorem s46 : SigOk Go.Proofs.Try.prog 46 ⟨p46_ks, p46_rs, g46⟩ := p46_ok s47 s58 q46
theorem s45 : SigOk Go.Proofs.Try.prog 45 ⟨p45_ks, p45_rs, g45⟩ := p45_ok q45
theorem s19 : SigOk Go.Proofs.Try.prog 19 ⟨p19_ks, p19_rs, g19⟩ := p19_ok q19
theorem s14 : SigOk Go.Proofs.Try.prog 14 ⟨p14_ks, p14_rs, g14⟩ := p14_ok s37 q14
theorem s15 : SigOk Go.Proofs.Try.prog 15 ⟨p15_ks, p15_rs, g15⟩ := p15_ok s45 s19 q15
theorem s16 : SigOk Go.Proofs.Try.prog 16 ⟨p16_ks, p16_rs, g16⟩ := p16_ok q16
theorem s17 : SigOk Go.Proofs.Try.prog 17 ⟨p17_ks, p17_rs, g17⟩ := p17_ok s45 s19 q17
theorem s24 : SigOk Go.Proofs.Try.prog 24 ⟨p24_ks, p24_rs, g24⟩ := p24_ok s37 s46 s47 q24
theorem s18 : SigOk Go.Proofs.Try.prog 18 ⟨p18_ks, p18_rs, g18⟩ := p18_ok s24 s14 s16 q18
theorem s3 : SigOk Go.Proofs.Try.prog 3 ⟨p3_ks, p3_rs, g3⟩ := p3_ok s14 s15 s16 s17 s18 q3
end Go.Ax.TryP
