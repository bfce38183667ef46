/- A part of the proof: MsgP5, MsgQ18, MsgW5. -/
import Derived.Test.YtdaompnhkfdlgaaMsgF
import Derived.Test.YtdaompnhkfdlgaaMsgD
set_option linter.unusedVariables false
namespace Go.Ax.TryP
open Go.Proofs
noncomputable abbrev a5M : Sig := ⟨[.sl b8], [.cat [.int .i64, .int .i64, .int .i64, .int .u32, .int .u32, .int .u64, .int .u64, .int .i64, .int .i64, .sl b8, .sl b8, .sl b8], .int .i64], I4⟩
noncomputable def p_law21_MsgApart_E : AE := AE.of [(3, ty3), (4, ty4), (5, ty5), (25, ty25), (28, ty28), (29, ty29), (31, ty31), (42, ty42)] [(11, a04), (16, a2B), (17, a05), (19, v6), (27, a3L), (32, a5M), (28, a1g), (31, a1f)]
noncomputable def a3f : Hints := [(3000000, [8])]
noncomputable def a3g : Code := (Try.f10).body.getD .skip
abbrev v7 : List Kd := [.cat [.int .i64, .int .i64, .int .i64, .int .u32, .int .u32, .int .u64, .int .u64, .int .i64, .int .i64, .sl b8, .sl b8, .sl b8], .cat [.int .i64, .int .i64, .int .i64, .int .u32, .int .u32, .int .u64, .int .u64, .int .i64, .int .i64, .sl b8, .sl b8, .sl b8], .int .i64, .sl b8]
abbrev N1 : List Kd := [.bool]
noncomputable def w5 (N : Nat) (x : (Int × Int × Int × Int × Int × Int × Int × Int × Int × List Int × List Int × List Int × Unit) × (Int × Int × Int × Int × Int × Int × Int × Int × Int × List Int × List Int × List Int × Unit) × Int × List Int × Unit) : Option (Bool) :=
 (v3 (())).bind fun r1 => (
 if (¬ (r1 = true)) then
  (v3 (())).bind fun r2 => (
  some (decide (r2 = true)))
 else
  (M6 ((x.1.1, x.1.2.1, x.1.2.2.1, x.1.2.2.2.1, x.1.2.2.2.2.1, x.1.2.2.2.2.2.1, x.1.2.2.2.2.2.2.1, x.1.2.2.2.2.2.2.2.1, x.1.2.2.2.2.2.2.2.2.1, x.1.2.2.2.2.2.2.2.2.2.1, x.1.2.2.2.2.2.2.2.2.2.2.1, x.1.2.2.2.2.2.2.2.2.2.2.2.1, ()), ())).bind fun r3 => (
  if (r3 = true) then
   (v3 (())).bind fun r4 => (
   some (decide (r4 = true)))
  else
   (M6 ((x.2.1.1, x.2.1.2.1, x.2.1.2.2.1, x.2.1.2.2.2.1, x.2.1.2.2.2.2.1, x.2.1.2.2.2.2.2.1, x.2.1.2.2.2.2.2.2.1, x.2.1.2.2.2.2.2.2.2.1, x.2.1.2.2.2.2.2.2.2.2.1, x.2.1.2.2.2.2.2.2.2.2.2.1, x.2.1.2.2.2.2.2.2.2.2.2.2.1, x.2.1.2.2.2.2.2.2.2.2.2.2.2.1, ()), ())).bind fun r5 => (
   if (r5 = true) then
    (v3 (())).bind fun r6 => (
    some (decide (r6 = true)))
   else
    if ((((List.length x.2.2.2.1) : Nat) : Int) > (1000:Int)) then
     (v3 (())).bind fun r7 => (
     some (decide (r7 = true)))
    else
     (V8 ((x.1.1, x.1.2.1, x.1.2.2.1, x.1.2.2.2.1, x.1.2.2.2.2.1, x.1.2.2.2.2.2.1, x.1.2.2.2.2.2.2.1, x.1.2.2.2.2.2.2.2.1, x.1.2.2.2.2.2.2.2.2.1, x.1.2.2.2.2.2.2.2.2.2.1, x.1.2.2.2.2.2.2.2.2.2.2.1, x.1.2.2.2.2.2.2.2.2.2.2.2.1, ()), ())).bind fun r8 => (
     (V8 ((x.2.1.1, x.2.1.2.1, x.2.1.2.2.1, x.2.1.2.2.2.1, x.2.1.2.2.2.2.1, x.2.1.2.2.2.2.2.1, x.2.1.2.2.2.2.2.2.1, x.2.1.2.2.2.2.2.2.2.1, x.2.1.2.2.2.2.2.2.2.2.1, x.2.1.2.2.2.2.2.2.2.2.2.1, x.2.1.2.2.2.2.2.2.2.2.2.2.1, x.2.1.2.2.2.2.2.2.2.2.2.2.2.1, ()), ())).bind fun r9 => (
     if (r8.2 ≠ (0:Int)) then
      if ((((List.length r8.1) : Nat) : Int) = (0:Int)) then
       some true
      else
       some (decide ((((List.length r9.1) : Nat) : Int) = (0:Int)))
     else
      if (r9.2 ≠ (0:Int)) then
       if ((((List.length r8.1) : Nat) : Int) = (0:Int)) then
        some true
       else
        some (decide ((((List.length r9.1) : Nat) : Int) = (0:Int)))
      else
       (m8 (r8.1, r9.1, ())).bind fun r10 => (
       (a1Y ((x.1.1, x.1.2.1, x.1.2.2.1, x.1.2.2.2.1, x.1.2.2.2.2.1, x.1.2.2.2.2.2.1, x.1.2.2.2.2.2.2.1, x.1.2.2.2.2.2.2.2.1, x.1.2.2.2.2.2.2.2.2.1, x.1.2.2.2.2.2.2.2.2.2.1, x.1.2.2.2.2.2.2.2.2.2.2.1, x.1.2.2.2.2.2.2.2.2.2.2.2.1, ()), (x.2.1.1, x.2.1.2.1, x.2.1.2.2.1, x.2.1.2.2.2.1, x.2.1.2.2.2.2.1, x.2.1.2.2.2.2.2.1, x.2.1.2.2.2.2.2.2.1, x.2.1.2.2.2.2.2.2.2.1, x.2.1.2.2.2.2.2.2.2.2.1, x.2.1.2.2.2.2.2.2.2.2.2.1, x.2.1.2.2.2.2.2.2.2.2.2.2.1, x.2.1.2.2.2.2.2.2.2.2.2.2.2.1, ()), ())).bind fun r11 => (
       if ((decide (r10 = true)) ≠ (decide (r11 = true))) then
        some false
       else
        if ((((List.length r8.1) : Nat) : Int) < (7:Int)) then
         some false
        else
         if (x.2.2.1 ≥ (0:Int)) then
          if (x.2.2.1 < (((List.length r8.1) : Nat) : Int)) then
           if 0 ≤ x.2.2.1 then (
           if x.2.2.1 ≤ (((List.length r8.1) : Nat) : Int) then (
           (I4 ((List.take (x.2.2.1.toNat) (List.drop 0 r8.1)), ())).bind fun r12 => (
           if (r12.2 = (0:Int)) then
            some false
           else
            (Q5 ((r12.1.1, r12.1.2.1, r12.1.2.2.1, r12.1.2.2.2.1, r12.1.2.2.2.2.1, r12.1.2.2.2.2.2.1, r12.1.2.2.2.2.2.2.1, r12.1.2.2.2.2.2.2.2.1, r12.1.2.2.2.2.2.2.2.2.1, r12.1.2.2.2.2.2.2.2.2.2.1, r12.1.2.2.2.2.2.2.2.2.2.2.1, r12.1.2.2.2.2.2.2.2.2.2.2.2.1, ()), ((List.getD [0] 0 0), (List.getD [0] 0 0), (List.getD [0] 0 0), (List.getD [0] 0 0), (List.getD [0] 0 0), (List.getD (List.take 1 (List.replicate 2 0)) 0 0), (List.getD (List.drop 1 (List.replicate 2 0)) 0 0), (List.getD [0] 0 0), (List.getD [0] 0 0), [], [], [], ()), ())).bind fun r13 => (
            if (¬ (r13 = true)) then
             some false
            else
             (v4 ([r8.1, x.2.2.2.1], ())).bind fun r14 => (
             (I4 (r14, ())).bind fun r15 => (
             some (decide ((decide (r15.2 = (0:Int))) = (decide ((((List.length x.2.2.2.1) : Nat) : Int) = (0:Int)))))))))) else none) else none
          else
           (v4 ([r8.1, x.2.2.2.1], ())).bind fun r16 => (
           (I4 (r16, ())).bind fun r17 => (
           some (decide ((decide (r17.2 = (0:Int))) = (decide ((((List.length x.2.2.2.1) : Nat) : Int) = (0:Int)))))))
         else
          (v4 ([r8.1, x.2.2.2.1], ())).bind fun r18 => (
          (I4 (r18, ())).bind fun r19 => (
          some (decide ((decide (r19.2 = (0:Int))) = (decide ((((List.length x.2.2.2.1) : Nat) : Int) = (0:Int))))))))))))))
theorem a2l (e0 : i1 Try.prog 11 a04) (e1 : i1 Try.prog 16 a2B) (e2 : i1 Try.prog 17 a05) (e3 : i1 Try.prog 19 v6) (e4 : i1 Try.prog 27 a3L) (e5 : i1 Try.prog 32 a5M) (e6 : i1 Try.prog 28 a1g) (e7 : i1 Try.prog 31 a1f) : p_law21_MsgApart_E.Ok Try.prog := AE.of_ok (all_cons a0a (all_cons b2Z (all_cons a0Y (all_cons a0I (all_cons a0J (all_cons s5 (all_cons H7 (all_cons a9w c6)))))))) (all_cons ⟨e0, a3V⟩ (all_cons ⟨e1, a42⟩ (all_cons ⟨e2, a2q⟩ (all_cons ⟨e3, E8⟩ (all_cons ⟨e4, a52⟩ (all_cons ⟨e5, a7k⟩ (all_cons ⟨e6, a36⟩ (all_cons ⟨e7, a35⟩ c6))))))))
theorem a2R (hE : p_law21_MsgApart_E.Ok Try.prog) {g : Ds v7 → Option (Rs [.bool])} (hg : ∀ x r, g x = some r → ∃ N, w5 N x = some r) : i1 Try.prog 10 ⟨v7, [.bool], g⟩ :=
 o9 (E := p_law21_MsgApart_E) (H := a3f) (L := fun N => LT.nil) (c := a3g) (ks := v7) (rs := N1) (F := w5) hE mix Try.func10 (by kernel_rfl) (fun N => OkAll.nil) (fun _ _ => by kernel_rfl) hg
end Go.Ax.TryP
set_option linter.unusedVariables false
namespace Go.Ax.TryP
open Go.Proofs
theorem b4e {b : List Int} (hb : bytes b) (hl : b.length ≤ 1000000) : I4 (b, ()) = some (b3h b) := by
 have hM := b8o
 exact j5 (ks := I8) (rs := I9) (x := (b, ())) ⟨(V1 (b := b)).2 ⟨by omega, hb⟩, trivial⟩ hl
theorem b8X (c : Ms) : (c.1, c.2.1, c.2.2.1, c.2.2.2.1, c.2.2.2.2.1, c.2.2.2.2.2.1, c.2.2.2.2.2.2.1, c.2.2.2.2.2.2.2.1, c.2.2.2.2.2.2.2.2.1, c.2.2.2.2.2.2.2.2.2.1, c.2.2.2.2.2.2.2.2.2.2.1, c.2.2.2.2.2.2.2.2.2.2.2.1, ()) = c := rfl
theorem b5d (c : Ms) : a4A c c = true := a67.2 rfl
theorem a5y : ∀ x r, a0P x = some r → ∃ N, w5 N x = some r := by
 refine j7 (ks := v7) (rs := N1) fun x hw hq => ⟨0, ?_⟩
 obtain ⟨(a : Ms), (d : Ms), (cut : Int), (more : List Int), u⟩ := x
 have ha : a19 a := V2.1 hw.1
 have hd : a19 d := V2.1 hw.2.1
 obtain ⟨_, hb⟩ : more.length ≤ maxLen ∧ bytes more := V1.1 hw.2.2.2.1
 have hM := b8o
 show w5 0 (a, d, cut, more, u) = some true
 unfold w5
 dsimp only
 simp only [b8X]
 rw [b7b, Option.bind_some, if_neg (by simp), b4d ha, Option.bind_some]
 by_cases b1 : b7M a = true
 ·rw [if_pos b1, Option.bind_some]; rfl
 rw [if_neg b1, b4d hd, Option.bind_some]
 by_cases b2 : b7M d = true
 ·rw [if_pos b2, Option.bind_some]; rfl
 rw [if_neg b2]
 by_cases hl : more.length > 1000
 ·rw [if_pos (by omega), Option.bind_some]; rfl
 rw [if_neg (by omega), b4b ha, Option.bind_some, b4b hd, Option.bind_some]
 by_cases ca : x8 a = 0
 ·have ea : b1a a = (o5 a true, 0) := by unfold b1a; rw [if_pos ca]
  by_cases cd : x8 d = 0
  ·have ed : b1a d = (o5 d true, 0) := by unfold b1a; rw [if_pos cd]
   have pa := b6U ha
   have pd := b6U hd
   rw [ea] at pa
   rw [ed] at pd
   dsimp only at pa pd
   have hlen := b52 a
   have tail : (v4 ([o5 a true, more], ())).bind (fun r => (I4 (r, ())).bind fun q => some (decide (decide (q.2 = (0 : Int)) = decide (((more.length : Nat) : Int) = 0)))) = some true := by
    have hj : v4 ([o5 a true, more], ()) = some (o5 a true ++ more) := by
     have hr : b0K [o5 a true, more] := ⟨by simp; omega, fun z hz => by
      rcases List.mem_cons.1 hz with rfl | hz
      ·exact ⟨by omega, pa.2⟩
      ·rw [List.mem_singleton.1 hz]; exact ⟨by omega, hb⟩⟩
     have := b5M (l := [o5 a true, more]) ⟨by simp, by simp only [List.flatten_cons, List.flatten_nil, List.append_nil, List.length_append]; omega⟩ hr
     rw [this]; simp
    rw [hj, Option.bind_some, b4e (fun z hz => (List.mem_append.1 hz).elim (pa.2 z) (hb z)) (by rw [List.length_append]; omega), Option.bind_some, b8i ha ca]
    by_cases h0 : more.length > 0
    ·have h1 : ¬ ((more.length : Int) = 0) := by omega
     rw [if_pos h0]; simp
     intro hh; rw [hh] at h0; simp at h0
    ·have h1 : (more.length : Int) = 0 := by omega
     rw [if_neg h0, h1]; simp
   have hsame : (decide (o5 a true = o5 d true) = true) = (a4A a d = true) := by
    refine propext ⟨fun h => a67.2 (b7j ha hd ca cd (of_decide_eq_true h)), fun h => ?_⟩
    rw [a67.1 h]; simp
   rw [ea, ed]
   dsimp only
   rw [if_neg (by simp), if_neg (by simp), a2X ⟨by omega, pa.2⟩ ⟨by omega, pd.2⟩, Option.bind_some, b4g ha hd, Option.bind_some, if_neg (by simp [hsame]), if_neg (by omega)]
   by_cases hcut : cut ≥ 0
   ·rw [if_pos hcut]
    by_cases hc2 : cut < (((o5 a true).length : Nat) : Int)
    ·have hz := b7l ha ca (n := cut.toNat) (by omega)
     rw [if_pos hc2, if_pos (by omega), if_pos (by omega), List.drop_zero, b4e (a2h pa.2 _) (by rw [List.length_take]; omega), Option.bind_some, if_neg hz, b4D hz]
     refine (congrArg (fun o => Option.bind o _) (show _ = some (a4A zM zM) from b24 b4W b4W)).trans ?_
     rw [Option.bind_some, b5d, if_neg (by simp)]
     exact tail
    ·rw [if_neg hc2]; exact tail
   ·rw [if_neg hcut]; exact tail
  ·have ed : b1a d = ([], x8 d) := by unfold b1a; rw [if_neg cd]
   rw [ea, ed, if_neg (by simp), if_pos cd]
   split
   ·rfl
   ·simp
 ·have ea : b1a a = ([], x8 a) := by unfold b1a; rw [if_neg ca]
  rw [ea, if_pos ca]
  simp
end Go.Ax.TryP
namespace Go.Ax.TryP
open Go.Proofs
theorem a9m : i1 Try.prog 67 E5 := a5n (a4l) a9c
theorem b5b : i1 Try.prog 32 a5M := a99 (a8W a8n a64 a9m a0H) b43
noncomputable abbrev a4Z : Sig := ⟨[.cat [.int .i64, .int .i64, .int .i64, .int .u32, .int .u32, .int .u64, .int .u64, .int .i64, .int .i64, .sl b8, .sl b8, .sl b8], .cat [.int .i64, .int .i64, .int .i64, .int .u32, .int .u32, .int .u64, .int .u64, .int .i64, .int .i64, .sl b8, .sl b8, .sl b8], .int .i64, .sl b8], [.bool], a0P⟩
theorem s_law21_MsgApart : i1 Try.prog 10 a4Z := a2R (a2l b0N b1S b0O a0G b3L b5b b0Z b0Y) a5y
end Go.Ax.TryP
