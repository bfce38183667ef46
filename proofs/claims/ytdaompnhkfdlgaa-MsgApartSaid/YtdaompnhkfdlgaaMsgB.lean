/- A part of the proof: MsgS2, MsgP2, MsgQ7, MsgQ8, MsgQ9, MsgQ10, MsgW2. -/
import Derived.Test.YtdaompnhkfdlgaaMsgA
namespace Go.Ax.TryP
open Go.Proofs
def a4A (a b : Ms) : Bool := decide (a.1 = b.1) && (decide (a.2.1 = b.2.1) && (decide (a.2.2.1 = b.2.2.1) && (decide (a.2.2.2.1 = b.2.2.2.1) && (decide (a.2.2.2.2.1 = b.2.2.2.2.1) && (decide (a.2.2.2.2.2.1 = b.2.2.2.2.2.1) && (decide (a.2.2.2.2.2.2.1 = b.2.2.2.2.2.2.1) && (decide (a.2.2.2.2.2.2.2.1 = b.2.2.2.2.2.2.2.1) && (decide (a.2.2.2.2.2.2.2.2.1 = b.2.2.2.2.2.2.2.2.1) && (decide (a.2.2.2.2.2.2.2.2.2.1 = b.2.2.2.2.2.2.2.2.2.1) && (decide (a.2.2.2.2.2.2.2.2.2.2.1 = b.2.2.2.2.2.2.2.2.2.2.1) && (decide (a.2.2.2.2.2.2.2.2.2.2.2.1 = b.2.2.2.2.2.2.2.2.2.2.2.1))))))))))))
noncomputable def a1Y : Ms × Ms × Unit → Option Bool := a0Z (ks := [.cat msL, .cat msL]) (rs := [.bool]) (fun _ => True) fun x => a4A x.1 x.2.1
noncomputable def Q5 : Ms × Ms × Unit → Option Bool := a0Z (ks := [.cat msL, .cat msL]) (rs := [.bool]) (fun _ => True) fun x => a4A x.1 x.2.1
def b7M (m : Ms) : Bool := decide (9000 < m.2.2.2.2.2.2.2.2.2.1.length) || (decide (9000 < m.2.2.2.2.2.2.2.2.2.2.1.length) || decide (9000 < m.2.2.2.2.2.2.2.2.2.2.2.1.length))
noncomputable def M6 : Ms × Unit → Option Bool := a0Z (ks := [.cat msL]) (rs := [.bool]) (fun _ => True) fun x => b7M x.1
end Go.Ax.TryP
set_option linter.unusedVariables false
namespace Go.Ax.TryP
open Go.Proofs
noncomputable def p_slices_Clonebyte_byte_E : AE := AE.ofI [(5, ty5), (29, ty29)] [] [] [] [] [] []
noncomputable def U4 : Hints := [(3000000, [2])]
noncomputable def U5 : Code := (Try.f42).body.getD .skip
abbrev i4 : List Kd := [.sl b8]
abbrev q9 : List Kd := [.sl b8]
noncomputable def l7 (N : Nat) (x : List Int × Unit) : Option (List Int) :=
 if (List.length x.1) = 0 then
  b8H (
   some []) (
   if (0 + (List.length x.1)) * 1 ≤ 140737488355328 then (
   some ((List.replicate 0 0) ++ x.1)) else none)
 else
  if (0 + (List.length x.1)) * 1 ≤ 140737488355328 then (
  some ((List.replicate 0 0) ++ x.1)) else none
theorem O6 : p_slices_Clonebyte_byte_E.Ok Try.prog := AE.ofI_ok (all_cons a0Y (all_cons s5 c6)) c6 c6 c6 c6
theorem P3 (hE : p_slices_Clonebyte_byte_E.Ok Try.prog) {g : Ds i4 → Option (Rs i4)} (hg : ∀ x r, g x = some r → ∃ N, l7 N x = some r) : i1 Try.prog 42 ⟨i4, i4, g⟩ :=
 o9 (E := p_slices_Clonebyte_byte_E) (H := U4) (L := fun N => LT.nil) (c := U5) (ks := i4) (rs := q9) (F := l7) hE mix Try.func42 (by kernel_rfl) (fun N => OkAll.nil) (fun _ _ => by kernel_rfl) hg
noncomputable abbrev a1d : Sig := ⟨[.sl b8, .sl b8], [.bool], E2⟩
noncomputable def p_msg_Same_E : AE := AE.ofQ [(3, ty3), (25, ty25), (28, ty28), (29, ty29), (31, ty31)] [(52, a1d)] [(28, .u64, 2)]
noncomputable def b0e : Hints := [(3000000, [4])]
noncomputable def b0f : Code := (Try.f27).body.getD .skip
abbrev F4 : List Kd := [.cat [.int .i64, .int .i64, .int .i64, .int .u32, .int .u32, .int .u64, .int .u64, .int .i64, .int .i64, .sl b8, .sl b8, .sl b8], .cat [.int .i64, .int .i64, .int .i64, .int .u32, .int .u32, .int .u64, .int .u64, .int .i64, .int .i64, .sl b8, .sl b8, .sl b8]]
abbrev a0s : List Kd := [.bool]
noncomputable def Y5 (N : Nat) (x : (Int × Int × Int × Int × Int × Int × Int × Int × Int × List Int × List Int × List Int × Unit) × (Int × Int × Int × Int × Int × Int × Int × Int × Int × List Int × List Int × List Int × Unit) × Unit) : Option (Bool) :=
 if (x.1.1 = x.2.1.1) then
  if (x.1.2.1 = x.2.1.2.1) then
   if (x.1.2.2.1 = x.2.1.2.2.1) then
    if (x.1.2.2.2.1 = x.2.1.2.2.2.1) then
     if (x.1.2.2.2.2.1 = x.2.1.2.2.2.2.1) then
      if ((x.1.2.2.2.2.2.1 :: (x.1.2.2.2.2.2.2.1 :: [])) = (x.2.1.2.2.2.2.2.1 :: (x.2.1.2.2.2.2.2.2.1 :: []))) then
       if (x.1.2.2.2.2.2.2.2.1 = x.2.1.2.2.2.2.2.2.2.1) then
        if (x.1.2.2.2.2.2.2.2.2.1 = x.2.1.2.2.2.2.2.2.2.2.1) then
         (E2 (x.1.2.2.2.2.2.2.2.2.2.1, x.2.1.2.2.2.2.2.2.2.2.2.1, ())).bind fun r1 => (
         if (r1 = true) then
          (E2 (x.1.2.2.2.2.2.2.2.2.2.2.1, x.2.1.2.2.2.2.2.2.2.2.2.2.1, ())).bind fun r2 => (
          if (r2 = true) then
           (E2 (x.1.2.2.2.2.2.2.2.2.2.2.2.1, x.2.1.2.2.2.2.2.2.2.2.2.2.2.1, ())).bind fun r3 => (
           some (decide (r3 = true)))
          else
           some false)
         else
          some false)
        else
         some false
       else
        some false
      else
       some false
     else
      some false
    else
     some false
   else
    some false
  else
   some false
 else
  some false
theorem a7B (e0 : i1 Try.prog 52 a1d) : p_msg_Same_E.Ok Try.prog := AE.ofQ_ok (all_cons a0a (all_cons a0I (all_cons a0J (all_cons s5 (all_cons H7 c6))))) (all_cons ⟨e0, a33⟩ c6) (all_cons D0 c6)
theorem a80 (hE : p_msg_Same_E.Ok Try.prog) {g : Ds F4 → Option (Rs [.bool])} (hg : ∀ x r, g x = some r → ∃ N, Y5 N x = some r) : i1 Try.prog 27 ⟨F4, [.bool], g⟩ :=
 o9 (E := p_msg_Same_E) (H := b0e) (L := fun N => LT.nil) (c := b0f) (ks := F4) (rs := a0s) (F := Y5) hE mix Try.func27 (by kernel_rfl) (fun N => OkAll.nil) (fun _ _ => by kernel_rfl) hg
noncomputable def p_ref21_Same_E : AE := AE.ofQ [(3, ty3), (25, ty25), (28, ty28), (29, ty29), (31, ty31)] [(19, v6)] [(28, .u64, 2)]
noncomputable def a7R : Hints := [(3000000, [4])]
noncomputable def a7S : Code := (Try.f28).body.getD .skip
abbrev A0 : List Kd := [.cat [.int .i64, .int .i64, .int .i64, .int .u32, .int .u32, .int .u64, .int .u64, .int .i64, .int .i64, .sl b8, .sl b8, .sl b8], .cat [.int .i64, .int .i64, .int .i64, .int .u32, .int .u32, .int .u64, .int .u64, .int .i64, .int .i64, .sl b8, .sl b8, .sl b8]]
abbrev O5 : List Kd := [.bool]
noncomputable def J8 (N : Nat) (x : (Int × Int × Int × Int × Int × Int × Int × Int × Int × List Int × List Int × List Int × Unit) × (Int × Int × Int × Int × Int × Int × Int × Int × Int × List Int × List Int × List Int × Unit) × Unit) : Option (Bool) :=
 if (x.1.1 = x.2.1.1) then
  if (x.1.2.1 = x.2.1.2.1) then
   if (x.1.2.2.1 = x.2.1.2.2.1) then
    if (x.1.2.2.2.1 = x.2.1.2.2.2.1) then
     if (x.1.2.2.2.2.1 = x.2.1.2.2.2.2.1) then
      if ((x.1.2.2.2.2.2.1 :: (x.1.2.2.2.2.2.2.1 :: [])) = (x.2.1.2.2.2.2.2.1 :: (x.2.1.2.2.2.2.2.2.1 :: []))) then
       if (x.1.2.2.2.2.2.2.2.1 = x.2.1.2.2.2.2.2.2.2.1) then
        if (x.1.2.2.2.2.2.2.2.2.1 = x.2.1.2.2.2.2.2.2.2.2.1) then
         (m8 (x.1.2.2.2.2.2.2.2.2.2.1, x.2.1.2.2.2.2.2.2.2.2.2.1, ())).bind fun r1 => (
         if (r1 = true) then
          (m8 (x.1.2.2.2.2.2.2.2.2.2.2.1, x.2.1.2.2.2.2.2.2.2.2.2.2.1, ())).bind fun r2 => (
          if (r2 = true) then
           (m8 (x.1.2.2.2.2.2.2.2.2.2.2.2.1, x.2.1.2.2.2.2.2.2.2.2.2.2.2.1, ())).bind fun r3 => (
           some (decide (r3 = true)))
          else
           some false)
         else
          some false)
        else
         some false
       else
        some false
      else
       some false
     else
      some false
    else
     some false
   else
    some false
  else
   some false
 else
  some false
theorem a5v (e0 : i1 Try.prog 19 v6) : p_ref21_Same_E.Ok Try.prog := AE.ofQ_ok (all_cons a0a (all_cons a0I (all_cons a0J (all_cons s5 (all_cons H7 c6))))) (all_cons ⟨e0, E8⟩ c6) (all_cons D0 c6)
theorem a6S (hE : p_ref21_Same_E.Ok Try.prog) {g : Ds A0 → Option (Rs [.bool])} (hg : ∀ x r, g x = some r → ∃ N, J8 N x = some r) : i1 Try.prog 28 ⟨A0, [.bool], g⟩ :=
 o9 (E := p_ref21_Same_E) (H := a7R) (L := fun N => LT.nil) (c := a7S) (ks := A0) (rs := O5) (F := J8) hE mix Try.func28 (by kernel_rfl) (fun N => OkAll.nil) (fun _ _ => by kernel_rfl) hg
noncomputable def p_law21_big_E : AE := AE.ofQ [(29, ty29), (31, ty31)] [] [(28, .u64, 2)]
noncomputable def a8S : Hints := [(3000000, [2])]
noncomputable def a8T : Code := (Try.f16).body.getD .skip
abbrev B7 : List Kd := [.cat [.int .i64, .int .i64, .int .i64, .int .u32, .int .u32, .int .u64, .int .u64, .int .i64, .int .i64, .sl b8, .sl b8, .sl b8]]
abbrev T3 : List Kd := [.bool]
noncomputable def N2 (N : Nat) (x : (Int × Int × Int × Int × Int × Int × Int × Int × Int × List Int × List Int × List Int × Unit) × Unit) : Option (Bool) :=
 if (((List.length x.1.2.2.2.2.2.2.2.2.2.1 : Nat) : Int) > (9000:Int)) then
  some true
 else
  if (((List.length x.1.2.2.2.2.2.2.2.2.2.2.1 : Nat) : Int) > (9000:Int)) then
   some true
  else
   some (decide (((List.length x.1.2.2.2.2.2.2.2.2.2.2.2.1 : Nat) : Int) > (9000:Int)))
theorem a6x : p_law21_big_E.Ok Try.prog := AE.ofQ_ok (all_cons s5 (all_cons H7 c6)) c6 (all_cons D0 c6)
theorem a7u (hE : p_law21_big_E.Ok Try.prog) {g : Ds B7 → Option (Rs [.bool])} (hg : ∀ x r, g x = some r → ∃ N, N2 N x = some r) : i1 Try.prog 16 ⟨B7, [.bool], g⟩ :=
 o9 (E := p_law21_big_E) (H := a8S) (L := fun N => LT.nil) (c := a8T) (ks := B7) (rs := T3) (F := N2) hE mix Try.func16 (by kernel_rfl) (fun N => OkAll.nil) (fun _ _ => by kernel_rfl) hg
end Go.Ax.TryP
set_option linter.unusedVariables false
set_option linter.unusedSimpArgs false
namespace Go.Ax.TryP
open Go.Proofs
theorem b6H {a b : Int} (ha : 0 ≤ a ∧ a ≤ 255) (hb : 0 ≤ b ∧ b ≤ 255) {x : Int} (hx : 0 ≤ x ∧ x ≤ 255) :
  (0 ≤ ior .u8 x (b4K .u8 a b) ∧ ior .u8 x (b4K .u8 a b) ≤ 255) ∧ (ior .u8 x (b4K .u8 a b) = 0 ↔ x = 0 ∧ a = b) := by
 obtain ⟨a, rfl⟩ : ∃ m : Nat, a = m := ⟨a.toNat, by omega⟩
 obtain ⟨b, rfl⟩ : ∃ m : Nat, b = m := ⟨b.toNat, by omega⟩
 obtain ⟨x, rfl⟩ : ∃ m : Nat, x = m := ⟨x.toNat, by omega⟩
 have ha' : a < 2 ^ 8 := by omega
 have hb' : b < 2 ^ 8 := by omega
 have hx' : x < 2 ^ 8 := by omega
 have h1 : a ^^^ b < 2 ^ 8 := Nat.xor_lt_two_pow ha' hb'
 have h2 : x ||| (a ^^^ b) < 2 ^ 8 := Nat.or_lt_two_pow hx' h1
 rw [b6d (k := .u8) rfl ha' hb', b4I (k := .u8) rfl hx' h1]
 refine ⟨by omega, ?_⟩
 constructor
 ·intro h
  have h : x ||| (a ^^^ b) = 0 := by omega
  have hz : ∀ i, (x ||| (a ^^^ b)).testBit i = false := fun i => by rw [h]; exact Nat.zero_testBit i
  have hx0 : x = 0 := Nat.eq_of_testBit_eq fun i => by
   have := hz i
   rw [Nat.testBit_or, Bool.or_eq_false_iff] at this
   rw [this.1]; simp
  have hab : a = b := Nat.eq_of_testBit_eq fun i => by
   have := hz i
   rw [Nat.testBit_or, Bool.or_eq_false_iff, Nat.testBit_xor] at this
   have := this.2
   cases h1 : a.testBit i <;> cases h2 : b.testBit i <;> simp_all
  rw [hx0, hab]; simp
 ·rintro ⟨k1, k2⟩
  have k1 : x = 0 := by omega
  have k2 : a = b := by omega
  rw [k1, k2]
  simp
def b60 (a b : List Int) : Nat → Int
 | 0 => 0
 | i + 1 => ior .u8 (b60 a b i) (b4K .u8 (a.getD i 0) (b.getD i 0))
theorem a9F {a b : List Int} (ha : bytes a) (hb : bytes b) (hl : a.length = b.length) : ∀ i, i ≤ a.length → (0 ≤ b60 a b i ∧ b60 a b i ≤ 255) ∧ (b60 a b i = 0 ↔ a.take i = b.take i)
 | 0, _ => by simp [b60]
 | i + 1, hi => by
  obtain ⟨h1, h2⟩ := a9F ha hb hl i (by omega)
  obtain ⟨g1, g2⟩ := b6H (a8A ha i) (a8A hb i) h1
  refine ⟨g1, g2.trans ?_⟩
  rw [h2, List.take_succ_eq_append_getElem (show i < a.length by omega), List.take_succ_eq_append_getElem (show i < b.length by omega)]
  have e : List.take i a ++ [a[i]] = List.take i b ++ [b[i]] ↔ List.take i a = List.take i b ∧ a[i] = b[i] :=
   ⟨fun h => by obtain ⟨p, q⟩ := List.append_inj h (by simp; omega); exact ⟨p, by simpa using q⟩, fun h => by rw [h.1, h.2]⟩
  rw [e]
  simp [List.getD_eq_getElem?_getD, List.getElem?_eq_getElem (show i < a.length by omega), List.getElem?_eq_getElem (show i < b.length by omega)]
theorem b0y : ∀ x r, E2 x = some r → ∃ N, R9 N x = some r := by
 refine j7 (ks := z6) (rs := O3) fun x hw hq => ?_
 obtain ⟨(a : List Int), (b : List Int), u⟩ := x
 obtain ⟨ha1, ha2⟩ : a.length ≤ maxLen ∧ bytes a := V1.1 hw.1
 obtain ⟨hb1, hb2⟩ : b.length ≤ maxLen ∧ bytes b := V1.1 hw.2.1
 have hM : maxLen = 9223372036854775807 := by decide
 refine ⟨a.length + 1, ?_⟩
 unfold R9
 dsimp only
 by_cases hl : a.length = b.length
 ·rw [if_neg (by omega)]
  refine (I6 (F := u6 (a.length + 1)) (s := fun i => (a.length, b.length, b60 a b i, (a.length : Int), (i : Int), a.length, a, b.length, b, ())) (y := (b60 a b a.length, ())) a.length rfl ?_ ?_ (a.length + 1) (by omega)).trans ?_
  ·intro i hi kn
   unfold u6
   dsimp only
   rw [if_pos (by omega), if_pos (by omega), if_pos (by omega), Int.toNat_natCast, if_pos (by omega), if_pos (by omega), if_pos (by omega), if_pos (by omega), i2 (by omega) (by omega)]
   rfl
  ·intro kn
   unfold u6
   dsimp only
   rw [if_neg (by omega)]
  ·dsimp only
   refine congrArg some (decide_eq_decide.2 ?_)
   rw [(a9F ha2 hb2 hl a.length (Nat.le_refl _)).2, List.take_length, hl, List.take_length]
 ·rw [if_pos (by omega)]
  exact congrArg some (decide_eq_false (fun h => hl (by rw [show a = b from h]))).symm
theorem b1c {a b : List Int} (ha : a.length ≤ maxLen ∧ bytes a) (hb : b.length ≤ maxLen ∧ bytes b) : E2 (a, b, ()) = some (decide (a = b)) :=
 j5 (ks := z6) (rs := O3) (x := (a, b, ())) ⟨V1.2 ha, V1.2 hb, trivial⟩ trivial
theorem a2X {a b : List Int} (ha : a.length ≤ maxLen ∧ bytes a) (hb : b.length ≤ maxLen ∧ bytes b) : m8 (a, b, ()) = some (decide (a = b)) :=
 j5 (ks := s7) (rs := D6) (x := (a, b, ())) ⟨V1.2 ha, V1.2 hb, trivial⟩ trivial
theorem a0E : ∀ x r, i0 x = some r → ∃ N, l7 N x = some r := by
 refine j7 (ks := i4) (rs := q9) fun x hw hq => ⟨0, ?_⟩
 obtain ⟨(l : List Int), u⟩ := x
 have hq : l.length ≤ 1000000 := hq
 show l7 0 (l, u) = some l
 unfold l7
 dsimp only
 by_cases h : l.length = 0
 ·have : l = [] := List.eq_nil_of_length_eq_zero h
  subst this
  rw [if_pos h, if_pos (by simp)]
  exact a2Z.2 ⟨rfl, rfl⟩
 ·rw [if_neg h, if_pos (by omega)]
  rfl
theorem b5N {l : List Int} (h : l.length ≤ 1000000) (hl : bytes l) : i0 (l, ()) = some l := by
 have hM : 1000000 ≤ maxLen := by decide
 exact j5 (ks := i4) (rs := q9) (x := (l, ())) ⟨(V1 (b := l)).2 ⟨by omega, hl⟩, trivial⟩ h
theorem a67 {c d : Ms} : a4A c d = true ↔ c = d := by
 obtain ⟨a1, a2, a3, a4, a5, a6, a7, a8, a9, a10, a11, a12, ⟨⟩⟩ := c
 obtain ⟨b1, b2, b3, b4, b5, b6, b7, b8, b9, b10, b11, b12, ⟨⟩⟩ := d
 simp only [a4A, Bool.and_eq_true, decide_eq_true_eq, Prod.mk.injEq, and_true, and_assoc]
theorem a8u {a b c d : Int} : a :: b :: [] = c :: d :: [] ↔ a = c ∧ b = d := by simp
theorem b3A : ∀ x r, a1Y x = some r → ∃ N, Y5 N x = some r := by
 refine j7 (ks := F4) (rs := a0s) fun x hw hq => ⟨0, ?_⟩
 obtain ⟨(c : Ms), (d : Ms), u⟩ := x
 obtain ⟨_, _, _, _, _, _, _, _, _, h10, h11, h12⟩ := V2.1 hw.1
 obtain ⟨_, _, _, _, _, _, _, _, _, k10, k11, k12⟩ := V2.1 hw.2.1
 show Y5 0 (c, d, u) = some (a4A c d)
 unfold Y5 a4A
 dsimp only
 rw [b1c h10 k10, b1c h11 k11, b1c h12 k12]
 simp only [Option.bind_some]
 by_cases e1 : c.1 = d.1
 rotate_left
 ·rw [if_neg e1, decide_eq_false e1]; simp
 rw [if_pos e1, decide_eq_true e1]
 by_cases e2 : c.2.1 = d.2.1
 rotate_left
 ·rw [if_neg e2, decide_eq_false e2]; simp
 rw [if_pos e2, decide_eq_true e2]
 by_cases e3 : c.2.2.1 = d.2.2.1
 rotate_left
 ·rw [if_neg e3, decide_eq_false e3]; simp
 rw [if_pos e3, decide_eq_true e3]
 by_cases e4 : c.2.2.2.1 = d.2.2.2.1
 rotate_left
 ·rw [if_neg e4, decide_eq_false e4]; simp
 rw [if_pos e4, decide_eq_true e4]
 by_cases e5 : c.2.2.2.2.1 = d.2.2.2.2.1
 rotate_left
 ·rw [if_neg e5, decide_eq_false e5]; simp
 rw [if_pos e5, decide_eq_true e5]
 by_cases e6 : c.2.2.2.2.2.1 = d.2.2.2.2.2.1
 rotate_left
 ·rw [if_neg (fun h => e6 (a8u.1 h).1), decide_eq_false e6]; simp
 by_cases e7 : c.2.2.2.2.2.2.1 = d.2.2.2.2.2.2.1
 rotate_left
 ·rw [if_neg (fun h => e7 (a8u.1 h).2), decide_eq_false e7]; simp
 rw [if_pos (a8u.2 ⟨e6, e7⟩), decide_eq_true e6, decide_eq_true e7]
 by_cases e8 : c.2.2.2.2.2.2.2.1 = d.2.2.2.2.2.2.2.1
 rotate_left
 ·rw [if_neg e8, decide_eq_false e8]; simp
 rw [if_pos e8, decide_eq_true e8]
 by_cases e9 : c.2.2.2.2.2.2.2.2.1 = d.2.2.2.2.2.2.2.2.1
 rotate_left
 ·rw [if_neg e9, decide_eq_false e9]; simp
 rw [if_pos e9, decide_eq_true e9]
 cases decide (c.2.2.2.2.2.2.2.2.2.1 = d.2.2.2.2.2.2.2.2.2.1) with
 | false => rfl
 | true =>
 cases decide (c.2.2.2.2.2.2.2.2.2.2.1 = d.2.2.2.2.2.2.2.2.2.2.1) with
 | false => rfl
 | true =>
 cases decide (c.2.2.2.2.2.2.2.2.2.2.2.1 = d.2.2.2.2.2.2.2.2.2.2.2.1) <;> rfl
theorem b4g {c d : Ms} (hc : a19 c) (hd : a19 d) : a1Y (c, d, ()) = some (a4A c d) :=
 j5 (ks := F4) (rs := a0s) (x := (c, d, ())) ⟨V2.2 hc, V2.2 hd, trivial⟩ trivial
theorem b1J : ∀ x r, M6 x = some r → ∃ N, N2 N x = some r := by
 refine j7 (ks := B7) (rs := T3) fun x hw hq => ⟨0, ?_⟩
 obtain ⟨(c : Ms), u⟩ := x
 show N2 0 (c, u) = some (b7M c)
 unfold N2 b7M
 dsimp only
 by_cases h1 : ((c.2.2.2.2.2.2.2.2.2.1.length : Nat) : Int) > 9000
 ·rw [if_pos h1, decide_eq_true (show 9000 < c.2.2.2.2.2.2.2.2.2.1.length by omega)]; rfl
 rw [if_neg h1, decide_eq_false (show ¬ 9000 < c.2.2.2.2.2.2.2.2.2.1.length by omega)]
 by_cases h2 : ((c.2.2.2.2.2.2.2.2.2.2.1.length : Nat) : Int) > 9000
 ·rw [if_pos h2, decide_eq_true (show 9000 < c.2.2.2.2.2.2.2.2.2.2.1.length by omega)]; rfl
 rw [if_neg h2, decide_eq_false (show ¬ 9000 < c.2.2.2.2.2.2.2.2.2.2.1.length by omega)]
 simp only [Bool.false_or]
 exact congrArg some (decide_eq_decide.2 (by omega))
theorem b4d {c : Ms} (h : a19 c) : M6 (c, ()) = some (b7M c) :=
 j5 (ks := B7) (rs := T3) (x := (c, ())) ⟨V2.2 h, trivial⟩ trivial
end Go.Ax.TryP
set_option linter.unusedVariables false
set_option linter.unusedSimpArgs false
namespace Go.Ax.TryP
open Go.Proofs
theorem b8j (k : Int) : (a38 k).length ≤ 4 := by
 have hk : k = 1 ∨ k = 2 ∨ k = 3 ∨ k = 4 ∨ k = 5 ∨ k = 6 ∨ (k ≠ 1 ∧ k ≠ 2 ∧ k ≠ 3 ∧ k ≠ 4 ∧ k ≠ 5 ∧ k ≠ 6) := by omega
 rcases hk with rfl | rfl | rfl | rfl | rfl | rfl | ⟨g1, g2, g3, g4, g5, g6⟩
 all_goals first | decide | (unfold a38; rw [if_neg g1, if_neg g2, if_neg g3, if_neg g4, if_neg g5, if_neg g6]; decide)
theorem a7l {c : Ms} (h : a19 c) (hf : b78 c) (all : Bool) : (o5 c all).length ≤ 300000 ∧ bytes (o5 c all) := by
 obtain ⟨_, _, _, _, _, _, _, _, _, h10, h11, h12⟩ := h
 obtain ⟨_, _, _, _, f10, f11, f12⟩ := hf
 have key : ∀ x, (B1 c all x).length ≤ 60010 ∧ bytes (B1 c all x) := by
  intro x
  unfold B1
  repeat' split
  all_goals first
   | exact ⟨by simp only [List.length_append, d9]; omega, by simp only [u3, i9, h10.2, h11.2, h12.2, and_self]⟩
   | exact ⟨by rw [d9]; omega, i9 _ _⟩
   | exact ⟨by simp, V4⟩
 have hh : (a2j c).length = 7 ∧ bytes (a2j c) := by
  unfold a2j
  refine ⟨by simp [d9], u3.2 ⟨fun z hz => ?_, i9 _ _⟩⟩
  simp only [List.mem_cons, List.not_mem_nil, or_false] at hz
  omega
 have hs : (a38 c.1).length ≤ 4 := b8j _
 have fl : ∀ (l : List Int), ((l.map (B1 c all)).flatten).length ≤ 60010 * l.length ∧ bytes ((l.map (B1 c all)).flatten) := by
  intro l
  induction l with
  | nil => exact ⟨by simp, V4⟩
  | cons a r ih =>
   simp only [List.map_cons, List.flatten_cons, List.length_append, List.length_cons, u3]
   have := key a
   exact ⟨by omega, this.2, ih.2⟩
 have := fl (a38 c.1)
 unfold o5
 refine ⟨by rw [List.length_append]; omega, u3.2 ⟨hh.2, this.2⟩⟩
end Go.Ax.TryP
set_option linter.unusedVariables false
set_option linter.unusedSimpArgs false
namespace Go.Ax.TryP
open Go.Proofs
def a6q (b : List Int) : Int := b.foldl (fun a z => a * 256 + z) 0
theorem b4l (n : Int) (w : Nat) : D1 n (w + 1) = D1 (n / 256) w ++ [n % 256] := by
 unfold D1
 rw [List.range_succ, List.map_append]
 congr 1
 ·refine List.map_congr_left fun i hi => ?_
  rw [List.mem_range] at hi
  have e : 8 * (w + 1 - 1 - i) = 8 + 8 * (w - 1 - i) := by omega
  rw [e, Int.pow_add, show (2 : Int) ^ 8 = 256 by decide, Int.ediv_ediv_of_nonneg (by decide)]
 ·simp
theorem a6r (a b : List Int) : a6q (a ++ b) = b.foldl (fun a z => a * 256 + z) (a6q a) := by unfold a6q; rw [List.foldl_append]
theorem a3a : ∀ (w : Nat) (n : Int), 0 ≤ n → n < 256 ^ w → a6q (D1 n w) = n
 | 0, n, h0, h1 => by
  have : n = 0 := by simp at h1; omega
  subst this; rfl
 | w + 1, n, h0, h1 => by
  have h2 : n / 256 < 256 ^ w := by
   rw [Int.pow_succ] at h1
   exact Int.ediv_lt_of_lt_mul (by decide) h1
  rw [b4l, a6r, a3a w (n / 256) (by omega) h2]
  simp only [List.foldl_cons, List.foldl_nil]
  omega
end Go.Ax.TryP
set_option linter.unusedVariables false
set_option linter.unusedSimpArgs false
namespace Go.Ax.TryP
open Go.Proofs
end Go.Ax.TryP
namespace Go.Ax.TryP
open Go.Proofs
noncomputable abbrev l6 : Sig := ⟨[.sl b8], [.sl b8], i0⟩
theorem a0H : i1 Try.prog 42 l6 := P3 (O6) a0E
theorem b0W : i1 Try.prog 52 a1d := a6L (a5q) b0y
noncomputable abbrev a3L : Sig := ⟨[.cat [.int .i64, .int .i64, .int .i64, .int .u32, .int .u32, .int .u64, .int .u64, .int .i64, .int .i64, .sl b8, .sl b8, .sl b8], .cat [.int .i64, .int .i64, .int .i64, .int .u32, .int .u32, .int .u64, .int .u64, .int .i64, .int .i64, .sl b8, .sl b8, .sl b8]], [.bool], a1Y⟩
theorem b3L : i1 Try.prog 27 a3L := a80 (a7B b0W) b3A
noncomputable abbrev a2B : Sig := ⟨[.cat [.int .i64, .int .i64, .int .i64, .int .u32, .int .u32, .int .u64, .int .u64, .int .i64, .int .i64, .sl b8, .sl b8, .sl b8]], [.bool], M6⟩
theorem b1S : i1 Try.prog 16 a2B := a7u (a6x) b1J
end Go.Ax.TryP
