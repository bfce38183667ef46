/- A part of the proof: MsgI, MsgS, MsgP, MsgQ1, MsgQ2, MsgQ3, MsgQ4, MsgQ5, MsgQ6, MsgW. -/
import Derived.Test.YtdaompnhkfdlgaaMsgT
import Derived.Test.YtdaompnhkfdlgaaAxD
/-! Printed by program (inls.py): functions that are carried out in place. -/
set_option linter.unusedVariables false
namespace Go.Ax.TryP
theorem m81_ok : MthOk Go.Proofs.Try.prog 81 "livery/msg.at" 90 := fun v w => by kernel_rfl
theorem m95_ok : MthOk Go.Proofs.Try.prog 95 "livery/msg.at" 91 := fun v w => by kernel_rfl
theorem m98_ok : MthOk Go.Proofs.Try.prog 98 "livery/msg.at" 92 := fun v w => by kernel_rfl
theorem m101_ok : MthOk Go.Proofs.Try.prog 101 "livery/msg.at" 93 := fun v w => by kernel_rfl
theorem m102_ok : MthOk Go.Proofs.Try.prog 102 "livery/msg.at" 94 := fun v w => by kernel_rfl
noncomputable def i_msg_Has_E : AE := AE.ofI [] [] [] [] [] [] []
noncomputable def i_msg_Has : Inl := inlOf i_msg_Has_E 0 Go.Proofs.Try.f12
theorem i_msg_Has_ok : InlOk Go.Proofs.Try.prog 12 i_msg_Has := inlOf_ok (AE.ofI_ok all_nil all_nil all_nil all_nil all_nil) mix Go.Proofs.Try.func12 0
noncomputable def i_ref21_Has_E : AE := AE.ofI [] [] [] [] [] [] []
noncomputable def i_ref21_Has : Inl := inlOf i_ref21_Has_E 0 Go.Proofs.Try.f13
theorem i_ref21_Has_ok : InlOk Go.Proofs.Try.prog 13 i_ref21_Has := inlOf_ok (AE.ofI_ok all_nil all_nil all_nil all_nil all_nil) mix Go.Proofs.Try.func13 0
noncomputable def i_msg_fields_E : AE := AE.ofI [(3, ty3), (9, ty9), (25, ty25), (26, ty26), (28, ty28), (29, ty29), (31, ty31), (69, ty69), (73, ty73), (79, ty79), (81, ty81), (93, ty93), (95, ty95), (96, ty96), (98, ty98), (99, ty99), (101, ty101), (102, ty102)] [] [] [(12, i_msg_Has)] [31, 34, 44, 61, 71, 81, 91, 101] [(3, 8)] []
noncomputable def i_msg_fields : Inl := inlOf i_msg_fields_E 0 Go.Proofs.Try.f57
theorem i_msg_fields_ok : InlOk Go.Proofs.Try.prog 57 i_msg_fields := inlOf_ok (AE.ofI_ok (all_cons ty3_ok (all_cons ty9_ok (all_cons ty25_ok (all_cons ty26_ok (all_cons ty28_ok (all_cons ty29_ok (all_cons ty31_ok (all_cons ty69_ok (all_cons ty73_ok (all_cons ty79_ok (all_cons ty81_ok (all_cons ty93_ok (all_cons ty95_ok (all_cons ty96_ok (all_cons ty98_ok (all_cons ty99_ok (all_cons ty101_ok (all_cons ty102_ok all_nil)))))))))))))))))) all_nil all_nil (all_cons ⟨i_msg_Has_ok, enters_msg_Has⟩ all_nil) all_nil) mix Go.Proofs.Try.func57 0
noncomputable def i_msg_value_E : AE := AE.ofI [(3, ty3), (25, ty25), (26, ty26), (93, ty93), (95, ty95), (96, ty96), (98, ty98), (99, ty99), (101, ty101), (102, ty102)] [] [] [] [9, 17, 25, 33] [] []
noncomputable def i_msg_value : Inl := inlOf i_msg_value_E 0 Go.Proofs.Try.f63
theorem i_msg_value_ok : InlOk Go.Proofs.Try.prog 63 i_msg_value := inlOf_ok (AE.ofI_ok (all_cons ty3_ok (all_cons ty25_ok (all_cons ty26_ok (all_cons ty93_ok (all_cons ty95_ok (all_cons ty96_ok (all_cons ty98_ok (all_cons ty99_ok (all_cons ty101_ok (all_cons ty102_ok all_nil)))))))))) all_nil all_nil all_nil all_nil) mix Go.Proofs.Try.func63 0
noncomputable def i_msg_text_at_E : AE := AE.ofI [] [] [] [] [] [] []
noncomputable def i_msg_text_at : Inl := inlOf i_msg_text_at_E 0 Go.Proofs.Try.f90
theorem i_msg_text_at_ok : InlOk Go.Proofs.Try.prog 90 i_msg_text_at := inlOf_ok (AE.ofI_ok all_nil all_nil all_nil all_nil all_nil) mix Go.Proofs.Try.func90 0
noncomputable def i_msg_byteOf_at_E : AE := AE.ofI [] [] [] [] [] [] []
noncomputable def i_msg_byteOf_at : Inl := inlOf i_msg_byteOf_at_E 0 Go.Proofs.Try.f91
theorem i_msg_byteOf_at_ok : InlOk Go.Proofs.Try.prog 91 i_msg_byteOf_at := inlOf_ok (AE.ofI_ok all_nil all_nil all_nil all_nil all_nil) mix Go.Proofs.Try.func91 0
noncomputable def i_msg_word_at_E : AE := AE.ofI [] [] [] [] [] [] []
noncomputable def i_msg_word_at : Inl := inlOf i_msg_word_at_E 0 Go.Proofs.Try.f92
theorem i_msg_word_at_ok : InlOk Go.Proofs.Try.prog 92 i_msg_word_at := inlOf_ok (AE.ofI_ok all_nil all_nil all_nil all_nil all_nil) mix Go.Proofs.Try.func92 0
noncomputable def i_msg_long_at_E : AE := AE.ofI [] [] [] [] [] [] []
noncomputable def i_msg_long_at : Inl := inlOf i_msg_long_at_E 0 Go.Proofs.Try.f93
theorem i_msg_long_at_ok : InlOk Go.Proofs.Try.prog 93 i_msg_long_at := inlOf_ok (AE.ofI_ok all_nil all_nil all_nil all_nil all_nil) mix Go.Proofs.Try.func93 0
noncomputable def i_msg_short_at_E : AE := AE.ofI [] [] [] [] [] [] []
noncomputable def i_msg_short_at : Inl := inlOf i_msg_short_at_E 0 Go.Proofs.Try.f94
theorem i_msg_short_at_ok : InlOk Go.Proofs.Try.prog 94 i_msg_short_at := inlOf_ok (AE.ofI_ok all_nil all_nil all_nil all_nil all_nil) mix Go.Proofs.Try.func94 0
end Go.Ax.TryP
/-! ### Messages: what the functions answer -/
namespace Go.Ax.TryP
noncomputable def g_octet_Join : List (List Int) × Unit → Option (List Int) := Spec (ks := [.sls (.int .u8)]) (rs := [.sl (.int .u8)]) (fun x => x.1.length ≤ 1000 ∧ x.1.flatten.length ≤ 1000000) fun x => x.1.flatten
noncomputable def g_ref01_Join : List (List Int) × Unit → Option (List Int) := Spec (ks := [.sls (.int .u8)]) (rs := [.sl (.int .u8)]) (fun x => x.1.length ≤ 1000 ∧ x.1.flatten.length ≤ 1000000) fun x => x.1.flatten
noncomputable def g_ref01_Equal : List Int × List Int × Unit → Option Bool := Spec (ks := [.sl (.int .u8), .sl (.int .u8)]) (rs := [.bool]) (fun _ => True) fun x => decide (x.1 = x.2.1)
noncomputable def g_octet_Same : List Int × List Int × Unit → Option Bool := Spec (ks := [.sl (.int .u8), .sl (.int .u8)]) (rs := [.bool]) (fun _ => True) fun x => decide (x.1 = x.2.1)
/-- A number's bytes, the highest first. -/
def bigS (n : Int) (w : Nat) : List Int := (List.range w).map fun i => n / 2 ^ (8 * (w - 1 - i)) % 256
noncomputable def g_octet_big : Int × Int × Unit → Option (List Int) := Spec (ks := [.int .u64, .int .i64]) (rs := [.sl (.int .u8)]) (fun x => 0 ≤ x.2.1 ∧ x.2.1 ≤ 8) fun x => bigS x.1 x.2.1.toNat
noncomputable def g_ref01_Big : Int × Int × Unit → Option (List Int) := Spec (ks := [.int .u64, .int .i64]) (rs := [.sl (.int .u8)]) (fun x => 0 ≤ x.2.1 ∧ x.2.1 ≤ 8) fun x => bigS x.1 x.2.1.toNat
noncomputable def g_octet_U16 : Int × Unit → Option (List Int) := Spec (ks := [.int .u16]) (rs := [.sl (.int .u8)]) (fun _ => True) fun x => bigS x.1 2
def fitS (n w : Int) : Int := if w < 8 ∧ n / 2 ^ (8 * w.toNat) ≠ 0 then 3 else 0
noncomputable def g_octet_fits : Int × Int × Unit → Option Int := Spec (ks := [.int .u64, .int .i64]) (rs := [.int .i64]) (fun x => 1 ≤ x.2.1 ∧ x.2.1 ≤ 8) fun x => fitS x.1 x.2.1
noncomputable def g_octet_Big : Int × Int × Unit → Option (List Int × Int) := Spec (ks := [.int .u64, .int .i64]) (rs := [.sl (.int .u8), .int .i64]) (fun x => 1 ≤ x.2.1 ∧ x.2.1 ≤ 8 ∧ fitS x.1 x.2.1 = 0) fun x => (bigS x.1 x.2.1.toNat, 0)
def oneS (lo hi : Int) : Bool := decide (lo < hi ∧ hi ≤ 1152921504606846976)
noncomputable def g_span_one : (Int × Int × Unit) × Unit → Option Bool := Spec (ks := [.cat [.int .u64, .int .u64]]) (rs := [.bool]) (fun _ => True) fun x => oneS x.1.1 x.1.2.1
noncomputable def g_span_May : List Int × Unit → Option Bool := Spec (ks := [.sla (.int .u64) 2]) (rs := [.bool]) (fun x => x.1.length = 2) fun x => oneS (x.1.getD 0 0) (x.1.getD 1 0)
noncomputable def g_ref19_One : (Int × Int × Unit) × Unit → Option Bool := Spec (ks := [.cat [.int .u64, .int .u64]]) (rs := [.bool]) (fun _ => True) fun x => oneS x.1.1 x.1.2.1
noncomputable def g_octet_Bits : List Int × Unit → Option (List Int) := Spec (ks := [.sl (.int .u8)]) (rs := [.sl .bool]) (fun x => x.1.length ≤ 1000000) fun x => bitsOf x.1
noncomputable def g_ref01_Bits : List Int × Unit → Option (List Int) := Spec (ks := [.sl (.int .u8)]) (rs := [.sl .bool]) (fun x => x.1.length ≤ 1000000) fun x => bitsOf x.1
noncomputable def g_slices_Clonebyte_byte : List Int × Unit → Option (List Int) := Spec (ks := [.sl (.int .u8)]) (rs := [.sl (.int .u8)]) (fun x => x.1.length ≤ 1000000) fun x => x.1
/-- The letters of a kind. -/
def hasS (k : Int) : List Int := if k = 1 then [107, 114, 100, 99] else if k = 2 then [107, 114, 99, 115] else if k = 3 then [112, 110, 100] else if k = 4 then [110, 100] else if k = 5 then [107, 114, 115] else if k = 6 then [107, 114, 115] else []
def hasT (k : Int) : ByteArray := if k = 1 then ⟨#[107, 114, 100, 99]⟩ else if k = 2 then ⟨#[107, 114, 99, 115]⟩ else if k = 3 then ⟨#[112, 110, 100]⟩ else if k = 4 then ⟨#[110, 100]⟩ else if k = 5 then ⟨#[107, 114, 115]⟩ else if k = 6 then ⟨#[107, 114, 115]⟩ else ⟨#[]⟩
noncomputable def g_msg_Has : Int × Unit → Option ByteArray := Spec (ks := [.int .i64]) (rs := [.str]) (fun _ => True) fun x => hasT x.1
noncomputable def g_ref21_Has : Int × Unit → Option ByteArray := Spec (ks := [.int .i64]) (rs := [.str]) (fun _ => True) fun x => hasT x.1
def nameT (k : Int) : ByteArray := if k = 1 then ⟨#[111, 102, 102, 101, 114]⟩ else if k = 2 then ⟨#[97, 99, 99, 101, 112, 116]⟩ else if k = 3 then ⟨#[99, 104, 117, 110, 107]⟩ else if k = 4 then ⟨#[104, 97, 118, 101]⟩ else if k = 5 then ⟨#[99, 111, 110, 102, 105, 114, 109]⟩ else if k = 6 then ⟨#[114, 101, 102, 117, 115, 101]⟩ else if k = 7 then ⟨#[99, 97, 110, 99, 101, 108]⟩ else if k = 8 then ⟨#[112, 114, 111, 98, 101]⟩ else ⟨#[]⟩
noncomputable def g_msg_Name : Int × Unit → Option ByteArray := Spec (ks := [.int .i64]) (rs := [.str]) (fun _ => True) fun x => nameT x.1
noncomputable def g_ref21_Name : Int × Unit → Option ByteArray := Spec (ks := [.int .i64]) (rs := [.str]) (fun _ => True) fun x => nameT x.1
def hasB (k c : Int) : Bool := decide (c ∈ hasS k)
noncomputable def g_msg_has : Int × Int × Unit → Option Bool := Spec (ks := [.int .i64, .int .i32]) (rs := [.bool]) (fun _ => True) fun x => hasB x.1 x.2.1
noncomputable def g_ref21_has : Int × Int × Unit → Option Bool := Spec (ks := [.int .i64, .int .i32]) (rs := [.bool]) (fun _ => True) fun x => hasB x.1 x.2.1
def devS (n : Int) : Bool := decide (0 ≤ n ∧ n < 16)
noncomputable def g_msg_device : Int × Unit → Option Bool := Spec (ks := [.int .i64]) (rs := [.bool]) (fun _ => True) fun x => devS x.1
def mostS (k : Int) : Int := if k = 1 then 68 else 1024
noncomputable def g_msg_most : Int × Unit → Option Int := Spec (ks := [.int .i64]) (rs := [.int .i64]) (fun _ => True) fun x => mostS x.1
def withS (is : Bool) (n : Nat) (m : Int) : Bool := if is = true then decide (1 ≤ n ∧ (n : Int) ≤ m) else decide (n = 0)
noncomputable def g_msg_within : Bool × List Int × Int × Unit → Option Bool := Spec (ks := [.bool, .sl (.int .u8), .int .i64]) (rs := [.bool]) (fun _ => True) fun x => withS x.1 x.2.1.length x.2.2.1
noncomputable def g_ref21_so : Bool × List Int × Int × Unit → Option Bool := Spec (ks := [.bool, .sl (.int .u8), .int .i64]) (rs := [.bool]) (fun _ => True) fun x => withS x.1 x.2.1.length x.2.2.1
def markS (n : Int) (b : List Int) : Bool := decide ((b.length : Int) = (n + 7) / 8) && (List.range (8 * b.length)).all fun i => decide (bitAt b i = 0) || decide ((i : Int) < n)
noncomputable def g_msg_marked : Int × List Int × Unit → Option Bool := Spec (ks := [.int .i64, .sl (.int .u8)]) (rs := [.bool]) (fun x => 0 ≤ x.1 ∧ x.1 ≤ 1000) fun x => markS x.1 x.2.1
noncomputable def g_ref21_marked : Int × List Int × Unit → Option Bool := Spec (ks := [.int .i64, .sl (.int .u8)]) (rs := [.bool]) (fun x => 0 ≤ x.1 ∧ x.1 ≤ 1000) fun x => markS x.1 x.2.1
/-- Kind, From, To, Tid, Key, Lo, Hi, Part, Parts, Data, Cert, Sig. -/
abbrev Ms := Int × Int × Int × Int × Int × Int × Int × Int × Int × List Int × List Int × List Int × Unit
abbrev msL : List FK := [.int .i64, .int .i64, .int .i64, .int .u32, .int .u32, .int .u64, .int .u64, .int .i64, .int .i64, .sl (.int .u8), .sl (.int .u8), .sl (.int .u8)]
def rangedS (m : Ms) : Bool := if hasB m.1 114 = true then oneS m.2.2.2.2.2.1 m.2.2.2.2.2.2.1 else decide (m.2.2.2.2.2.1 = 0 ∧ m.2.2.2.2.2.2.1 = 0 ∧ m.2.2.2.2.1 = 0)
noncomputable def g_msg_ranged : Ms × Unit → Option Bool := Spec (ks := [.cat msL]) (rs := [.bool]) (fun _ => True) fun x => rangedS x.1
def partedS (m : Ms) : Bool := decide (hasB m.1 110 = decide (m.2.2.2.2.2.2.2.2.1 ≠ 0)) && (decide (0 ≤ m.2.2.2.2.2.2.2.2.1 ∧ m.2.2.2.2.2.2.2.2.1 ≤ 256) && (if hasB m.1 112 = true then decide (0 ≤ m.2.2.2.2.2.2.2.1 ∧ m.2.2.2.2.2.2.2.1 < m.2.2.2.2.2.2.2.2.1) else decide (m.2.2.2.2.2.2.2.1 = 0)))
noncomputable def g_msg_parted : Ms × Unit → Option Bool := Spec (ks := [.cat msL]) (rs := [.bool]) (fun _ => True) fun x => partedS x.1
def okS (m : Ms) : Bool := devS m.2.1 && (devS m.2.2.1 && (decide (m.2.1 ≠ m.2.2.1) && (rangedS m && (partedS m && (withS (hasB m.1 100) m.2.2.2.2.2.2.2.2.2.1.length (mostS m.1) && (withS (hasB m.1 99) m.2.2.2.2.2.2.2.2.2.2.1.length 6446 && (withS (hasB m.1 115) m.2.2.2.2.2.2.2.2.2.2.2.1.length 3309 && (if m.1 = 4 then markS m.2.2.2.2.2.2.2.2.1 m.2.2.2.2.2.2.2.2.2.1 else true))))))))
def checkS (m : Ms) : Int := if nameT m.1 = ⟨#[]⟩ then 211 else if okS m = true then 0 else 210
noncomputable def g_msg_Check : Ms × Unit → Option Int := Spec (ks := [.cat msL]) (rs := [.int .i64]) (fun _ => True) fun x => checkS x.1
noncomputable def g_ref21_Check : Ms × Unit → Option Int := Spec (ks := [.cat msL]) (rs := [.int .i64]) (fun _ => True) fun x => checkS x.1
/-- The bytes of a letter's fields. -/
def fieldS (m : Ms) (all : Bool) (c : Int) : List Int := if c = 107 then bigS m.2.2.2.2.1 4 else if c = 114 then bigS m.2.2.2.2.2.1 8 ++ bigS m.2.2.2.2.2.2.1 8 else if c = 112 then bigS m.2.2.2.2.2.2.2.1 2 else if c = 110 then bigS m.2.2.2.2.2.2.2.2.1 2
  else if c = 100 then bigS (m.2.2.2.2.2.2.2.2.2.1.length : Int) 2 ++ m.2.2.2.2.2.2.2.2.2.1 else if c = 99 then bigS (m.2.2.2.2.2.2.2.2.2.2.1.length : Int) 2 ++ m.2.2.2.2.2.2.2.2.2.2.1 else if c = 115 ∧ all = true then bigS (m.2.2.2.2.2.2.2.2.2.2.2.1.length : Int) 2 ++ m.2.2.2.2.2.2.2.2.2.2.2.1 else []
def headS (m : Ms) : List Int := [m.1 % 256, m.2.1 % 256, m.2.2.1 % 256] ++ bigS m.2.2.2.1 4
def formS (m : Ms) (all : Bool) : List Int := headS m ++ ((hasS m.1).map (fieldS m all)).flatten
/-- What may be written. -/
def fmOk (m : Ms) : Prop := (0 ≤ m.2.1 ∧ m.2.1 ≤ 255) ∧ (0 ≤ m.2.2.1 ∧ m.2.2.1 ≤ 255) ∧ (0 ≤ m.2.2.2.2.2.2.2.1 ∧ m.2.2.2.2.2.2.2.1 ≤ 65535) ∧ (0 ≤ m.2.2.2.2.2.2.2.2.1 ∧ m.2.2.2.2.2.2.2.2.1 ≤ 65535) ∧ m.2.2.2.2.2.2.2.2.2.1.length ≤ 60000 ∧ m.2.2.2.2.2.2.2.2.2.2.1.length ≤ 60000 ∧ m.2.2.2.2.2.2.2.2.2.2.2.1.length ≤ 60000
noncomputable def g_msg_form : Ms × Bool × Unit → Option (List Int) := Spec (ks := [.cat msL, .bool]) (rs := [.sl (.int .u8)]) (fun x => fmOk x.1) fun x => formS x.1 x.2.1
noncomputable def g_ref21_form : Ms × Bool × Unit → Option (List Int) := Spec (ks := [.cat msL, .bool]) (rs := [.sl (.int .u8)]) (fun x => fmOk x.1) fun x => formS x.1 x.2.1
noncomputable def g_ref21_text : List Int × Unit → Option (List Int) := Spec (ks := [.sl (.int .u8)]) (rs := [.sl (.int .u8)]) (fun x => x.1.length ≤ 60000) fun x => bigS (x.1.length : Int) 2 ++ x.1
def putS (m : Ms) : List Int × Int := if checkS m = 0 then (formS m true, 0) else ([], checkS m)
noncomputable def g_msg_Put : Ms × Unit → Option (List Int × Int) := Spec (ks := [.cat msL]) (rs := [.sl (.int .u8), .int .i64]) (fun _ => True) fun x => putS x.1
noncomputable def g_ref21_Put : Ms × Unit → Option (List Int × Int) := Spec (ks := [.cat msL]) (rs := [.sl (.int .u8), .int .i64]) (fun _ => True) fun x => putS x.1
noncomputable def g_law21_live : Unit → Option Bool := Spec (ks := []) (rs := [.bool]) (fun _ => True) fun _ => true
noncomputable def g_law21_MsgKinds : Int × Unit → Option Bool := Spec (ks := [.int .i64]) (rs := [.bool]) (fun _ => True) fun _ => true
end Go.Ax.TryP
/-! Printed by program (gen.py). -/
set_option linter.unusedVariables false
namespace Go.Ax.TryP
/-! livery/octet.Join -/
noncomputable def p_octet_Join_E : AE := AE.of [(5, ty5), (29, ty29), (42, ty42)] []
noncomputable def p_octet_Join_H : Hints := [(3, [0, 3, 9, 10, 11]), (9, [6, 22, 23, 24]), (2000000, [0, 3]), (2000001, [0, 3, 9, 10, 11]), (2000002, [6]), (2000003, [6, 22, 23, 24]), (3000000, [2])]
noncomputable def p_octet_Join_c : Code := (Go.Proofs.Try.f37).body.getD .skip
noncomputable def p_octet_Join_l3_S : Shape where
  h := { tmps := [.sc (.frs (.int .u8)), .any, .any, .sc (.int .i64), .any, .any, .any, .any, .any, .sc (.frs (.int .u8)), .sc (.int .i64), .sc (.int .i64), .any, .any, .any, .any, .any, .any, .any, .any, .any, .any, .any, .any, .any, .any, .any, .any, .any, .any, .any, .any, .any], mem := [] }
  ks := [.xss, .int, .xss, .int, .int]
  st := fun x => { tmps := [.one (.sc (.fr (.xss (.int .u8) x.1))), .one .any, .one .any, .one (.sc (.int .i64 x.2.1)), .one .any, .one .any, .one .any, .one .any, .one .any, .one (.sc (.fr (.xss (.int .u8) x.2.2.1))), .one (.sc (.int .i64 x.2.2.2.1)), .one (.sc (.int .i64 x.2.2.2.2.1)), .one .any, .one .any, .one .any, .one .any, .one .any, .one .any, .one .any, .one .any, .one .any, .one .any, .one .any, .one .any, .one .any, .one .any, .one .any, .one .any, .one .any, .one .any, .one .any, .one .any, .one .any], mem := [] }
noncomputable def p_octet_Join_l3_F (N : Nat) (β : Type) (x : (List (List Int) × Int × List (List Int) × Int × Int × Unit)) (kn : (List (List Int) × Int × List (List Int) × Int × Int × Unit) → Option β) (ke : ((List (List Int) × Int × Unit)) → Option β) : Option β :=
  if (x.2.2.2.2.1 < x.2.2.2.1) then
    if 0 ≤ x.2.2.2.2.1 then (
    if x.2.2.2.2.1 < ((List.length x.2.2.1 : Nat) : Int) then (
    kn (x.1, (IntKind.i64.wrap (x.2.1 + ((List.length (List.getD x.2.2.1 (x.2.2.2.2.1.toNat) []) : Nat) : Int))), x.2.2.1, x.2.2.2.1, (IntKind.i64.wrap (x.2.2.2.2.1 + (1:Int))), ())) else none) else none
  else
    ke (x.1, x.2.1, ())
noncomputable def p_octet_Join_l3_go : Go' ((List (List Int) × Int × Unit)) := fun y K => K (.exit 0) { tmps := [.one (.sc (.fr (.xss (.int .u8) y.1))), .one .any, .one .any, .one (.sc (.int .i64 y.2.1)), .one .any, .one .any, .one .any, .one .any, .one .any, .one .any, .one .any, .one .any, .one .any, .one .any, .one .any, .one .any, .one .any, .one .any, .one .any, .one .any, .one .any, .one .any, .one .any, .one .any, .one .any, .one .any, .one .any, .one .any, .one .any, .one .any, .one .any, .one .any, .one .any], mem := [] }
noncomputable def p_octet_Join_l3_L (N : Nat) : LT := upd (LT.nil) 3 (loopE p_octet_Join_l3_S N (p_octet_Join_l3_F N) p_octet_Join_l3_go)
theorem p_octet_Join_l3_ok (N : Nat) : OkAll p_octet_Join_E p_octet_Join_H N (p_octet_Join_l3_L N) (subs p_octet_Join_c) :=
  addLoop (c := theLoop 3 p_octet_Join_c) (OkAll.nil) (by kernel_rfl) (fun x => by kernel_rfl) (fun β x kn ke => by kernel_rfl)
noncomputable def p_octet_Join_l9_S : Shape where
  h := { tmps := [.any, .any, .any, .any, .any, .any, .sc (.vec 0 none 1), .any, .any, .any, .any, .any, .any, .any, .any, .any, .any, .any, .any, .any, .any, .any, .sc (.frs (.int .u8)), .sc (.int .i64), .sc (.int .i64), .any, .any, .any, .any, .any, .any, .any, .any], mem := [.live [.xs (.int .u8) none] (.own)] }
  ks := [.nat, .xss, .int, .int, .nat, .xs]
  st := fun x => { tmps := [.one .any, .one .any, .one .any, .one .any, .one .any, .one .any, .one (.sc (.vec 0 x.1 1)), .one .any, .one .any, .one .any, .one .any, .one .any, .one .any, .one .any, .one .any, .one .any, .one .any, .one .any, .one .any, .one .any, .one .any, .one .any, .one (.sc (.fr (.xss (.int .u8) x.2.1))), .one (.sc (.int .i64 x.2.2.1)), .one (.sc (.int .i64 x.2.2.2.1)), .one .any, .one .any, .one .any, .one .any, .one .any, .one .any, .one .any, .one .any], mem := [.live { segs := [.xs (.int .u8) x.2.2.2.2.1 x.2.2.2.2.2.1], own := .own }] }
noncomputable def p_octet_Join_l9_F (N : Nat) (β : Type) (x : (Nat × List (List Int) × Int × Int × Nat × List Int × Unit)) (kn : (Nat × List (List Int) × Int × Int × Nat × List Int × Unit) → Option β) (ke : ((Nat × Nat × List Int × Unit)) → Option β) : Option β :=
  if (x.2.2.2.1 < x.2.2.1) then
    if 0 ≤ x.2.2.2.1 then (
    if x.2.2.2.1 < ((List.length x.2.1 : Nat) : Int) then (
    if (x.1 + (List.length (List.getD x.2.1 (x.2.2.2.1.toNat) []))) * 1 ≤ 140737488355328 then (
    kn ((x.1 + (List.length (List.getD x.2.1 (x.2.2.2.1.toNat) []))), x.2.1, x.2.2.1, (IntKind.i64.wrap (x.2.2.2.1 + (1:Int))), (x.2.2.2.2.1 + (List.length (List.getD x.2.1 (x.2.2.2.1.toNat) []))), (x.2.2.2.2.2.1 ++ (List.getD x.2.1 (x.2.2.2.1.toNat) [])), ())) else none) else none) else none
  else
    ke (x.1, x.2.2.2.2.1, x.2.2.2.2.2.1, ())
noncomputable def p_octet_Join_l9_go : Go' ((Nat × Nat × List Int × Unit)) := fun y K => K (.exit 2) { tmps := [.one .any, .one .any, .one .any, .one .any, .one .any, .one .any, .one (.sc (.vec 0 y.1 1)), .one .any, .one .any, .one .any, .one .any, .one .any, .one .any, .one .any, .one .any, .one .any, .one .any, .one .any, .one .any, .one .any, .one .any, .one .any, .one .any, .one .any, .one .any, .one .any, .one .any, .one .any, .one .any, .one .any, .one .any, .one .any, .one .any], mem := [.live { segs := [.xs (.int .u8) y.2.1 y.2.2.1], own := .own }] }
noncomputable def p_octet_Join_l9_L (N : Nat) : LT := upd (p_octet_Join_l3_L N) 9 (loopE p_octet_Join_l9_S N (p_octet_Join_l9_F N) p_octet_Join_l9_go)
theorem p_octet_Join_l9_ok (N : Nat) : OkAll p_octet_Join_E p_octet_Join_H N (p_octet_Join_l9_L N) (subs p_octet_Join_c) :=
  addLoop (c := theLoop 9 p_octet_Join_c) (p_octet_Join_l3_ok N) (by kernel_rfl) (fun x => by kernel_rfl) (fun β x kn ke => by kernel_rfl)
abbrev p_octet_Join_ks : List Kd := [.sls (.int .u8)]
abbrev p_octet_Join_rs : List Kd := [.sl (.int .u8)]
noncomputable def p_octet_Join (N : Nat) (x : List (List Int) × Unit) : Option (List Int) :=
  iter (p_octet_Join_l3_F N) N (x.1, (0:Int), x.1, ((List.length x.1 : Nat) : Int), (0:Int), ()) fun y1 => (
  if 0 ≤ (0:Int) then (
  if (0:Int) ≤ y1.2.1 then (
  if y1.2.1 * 1 ≤ 281474976710656 then (
  iter (p_octet_Join_l9_F N) N (0, y1.1, ((List.length y1.1 : Nat) : Int), (0:Int), 0, (List.replicate 0 0), ()) fun y2 => (
  some y2.2.2.1)) else none) else none) else none)
theorem p_octet_Join_eq (N : Nat) (x : Ds [.sls (.int .u8)]) : funL p_octet_Join_E p_octet_Join_H (p_octet_Join_l9_L N) N Go.Proofs.Try.f37 p_octet_Join_c [.sls (.int .u8)] [.sl (.int .u8)] x = p_octet_Join N x := by kernel_rfl
theorem p_octet_Join_Eok : p_octet_Join_E.Ok Go.Proofs.Try.prog := AE.of_ok (all_cons ty5_ok (all_cons ty29_ok (all_cons ty42_ok all_nil))) all_nil
theorem p_octet_Join_ok {g : Ds [.sls (.int .u8)] → Option (Rs [.sl (.int .u8)])} (hg : ∀ x r, g x = some r → ∃ N, p_octet_Join N x = some r) : SigOk Go.Proofs.Try.prog 37 ⟨[.sls (.int .u8)], [.sl (.int .u8)], g⟩ :=
  fun_of (E := p_octet_Join_E) (H := p_octet_Join_H) (L := fun N => p_octet_Join_l9_L N) (c := p_octet_Join_c) (ks := p_octet_Join_ks) (rs := p_octet_Join_rs) (F := p_octet_Join) (p_octet_Join_Eok) mix Go.Proofs.Try.func37 (by kernel_rfl) (fun N => p_octet_Join_l9_ok N) p_octet_Join_eq hg

/-! livery/liveryref01.Join -/
noncomputable def p_ref01_Join_E : AE := AE.of [(5, ty5), (29, ty29), (42, ty42)] []
noncomputable def p_ref01_Join_H : Hints := [(3, [3, 7, 8, 9]), (2000000, [3]), (2000001, [3, 7, 8, 9]), (3000000, [2])]
noncomputable def p_ref01_Join_c : Code := (Go.Proofs.Try.f31).body.getD .skip
noncomputable def p_ref01_Join_l3_S : Shape where
  h := { tmps := [.any, .any, .any, .sc (.vec 0 none 1), .any, .any, .any, .sc (.frs (.int .u8)), .sc (.int .i64), .sc (.int .i64), .any, .any, .any, .any, .any, .any, .any, .any], mem := [.live [.xs (.int .u8) none] (.own)] }
  ks := [.nat, .xss, .int, .int, .nat, .xs]
  st := fun x => { tmps := [.one .any, .one .any, .one .any, .one (.sc (.vec 0 x.1 1)), .one .any, .one .any, .one .any, .one (.sc (.fr (.xss (.int .u8) x.2.1))), .one (.sc (.int .i64 x.2.2.1)), .one (.sc (.int .i64 x.2.2.2.1)), .one .any, .one .any, .one .any, .one .any, .one .any, .one .any, .one .any, .one .any], mem := [.live { segs := [.xs (.int .u8) x.2.2.2.2.1 x.2.2.2.2.2.1], own := .own }] }
noncomputable def p_ref01_Join_l3_F (N : Nat) (β : Type) (x : (Nat × List (List Int) × Int × Int × Nat × List Int × Unit)) (kn : (Nat × List (List Int) × Int × Int × Nat × List Int × Unit) → Option β) (ke : ((Nat × Nat × List Int × Unit)) → Option β) : Option β :=
  if (x.2.2.2.1 < x.2.2.1) then
    if 0 ≤ x.2.2.2.1 then (
    if x.2.2.2.1 < ((List.length x.2.1 : Nat) : Int) then (
    if (x.1 + (List.length (List.getD x.2.1 (x.2.2.2.1.toNat) []))) * 1 ≤ 140737488355328 then (
    kn ((x.1 + (List.length (List.getD x.2.1 (x.2.2.2.1.toNat) []))), x.2.1, x.2.2.1, (IntKind.i64.wrap (x.2.2.2.1 + (1:Int))), (x.2.2.2.2.1 + (List.length (List.getD x.2.1 (x.2.2.2.1.toNat) []))), (x.2.2.2.2.2.1 ++ (List.getD x.2.1 (x.2.2.2.1.toNat) [])), ())) else none) else none) else none
  else
    ke (x.1, x.2.2.2.2.1, x.2.2.2.2.2.1, ())
noncomputable def p_ref01_Join_l3_go : Go' ((Nat × Nat × List Int × Unit)) := fun y K => K (.exit 0) { tmps := [.one .any, .one .any, .one .any, .one (.sc (.vec 0 y.1 1)), .one .any, .one .any, .one .any, .one .any, .one .any, .one .any, .one .any, .one .any, .one .any, .one .any, .one .any, .one .any, .one .any, .one .any], mem := [.live { segs := [.xs (.int .u8) y.2.1 y.2.2.1], own := .own }] }
noncomputable def p_ref01_Join_l3_L (N : Nat) : LT := upd (LT.nil) 3 (loopE p_ref01_Join_l3_S N (p_ref01_Join_l3_F N) p_ref01_Join_l3_go)
theorem p_ref01_Join_l3_ok (N : Nat) : OkAll p_ref01_Join_E p_ref01_Join_H N (p_ref01_Join_l3_L N) (subs p_ref01_Join_c) :=
  addLoop (c := theLoop 3 p_ref01_Join_c) (OkAll.nil) (by kernel_rfl) (fun x => by kernel_rfl) (fun β x kn ke => by kernel_rfl)
abbrev p_ref01_Join_ks : List Kd := [.sls (.int .u8)]
abbrev p_ref01_Join_rs : List Kd := [.sl (.int .u8)]
noncomputable def p_ref01_Join (N : Nat) (x : List (List Int) × Unit) : Option (List Int) :=
  iter (p_ref01_Join_l3_F N) N (0, x.1, ((List.length x.1 : Nat) : Int), (0:Int), 0, (List.replicate 0 0), ()) fun y1 => (
  some y1.2.2.1)
theorem p_ref01_Join_eq (N : Nat) (x : Ds [.sls (.int .u8)]) : funL p_ref01_Join_E p_ref01_Join_H (p_ref01_Join_l3_L N) N Go.Proofs.Try.f31 p_ref01_Join_c [.sls (.int .u8)] [.sl (.int .u8)] x = p_ref01_Join N x := by kernel_rfl
theorem p_ref01_Join_Eok : p_ref01_Join_E.Ok Go.Proofs.Try.prog := AE.of_ok (all_cons ty5_ok (all_cons ty29_ok (all_cons ty42_ok all_nil))) all_nil
theorem p_ref01_Join_ok {g : Ds [.sls (.int .u8)] → Option (Rs [.sl (.int .u8)])} (hg : ∀ x r, g x = some r → ∃ N, p_ref01_Join N x = some r) : SigOk Go.Proofs.Try.prog 31 ⟨[.sls (.int .u8)], [.sl (.int .u8)], g⟩ :=
  fun_of (E := p_ref01_Join_E) (H := p_ref01_Join_H) (L := fun N => p_ref01_Join_l3_L N) (c := p_ref01_Join_c) (ks := p_ref01_Join_ks) (rs := p_ref01_Join_rs) (F := p_ref01_Join) (p_ref01_Join_Eok) mix Go.Proofs.Try.func31 (by kernel_rfl) (fun N => p_ref01_Join_l3_ok N) p_ref01_Join_eq hg

/-! livery/liveryref01.Equal -/
noncomputable def p_ref01_Equal_E : AE := AE.of [(5, ty5), (9, ty9), (29, ty29)] []
noncomputable def p_ref01_Equal_H : Hints := [(3000000, [4])]
noncomputable def p_ref01_Equal_c : Code := (Go.Proofs.Try.f19).body.getD .skip
abbrev p_ref01_Equal_ks : List Kd := [.sl (.int .u8), .sl (.int .u8)]
abbrev p_ref01_Equal_rs : List Kd := [.bool]
noncomputable def p_ref01_Equal (N : Nat) (x : List Int × List Int × Unit) : Option (Bool) :=
  some (decide ((strOfNums x.1) = (strOfNums x.2.1)))
theorem p_ref01_Equal_eq (N : Nat) (x : Ds [.sl (.int .u8), .sl (.int .u8)]) : funL p_ref01_Equal_E p_ref01_Equal_H (LT.nil) N Go.Proofs.Try.f19 p_ref01_Equal_c [.sl (.int .u8), .sl (.int .u8)] [.bool] x = p_ref01_Equal N x := by kernel_rfl
theorem p_ref01_Equal_Eok : p_ref01_Equal_E.Ok Go.Proofs.Try.prog := AE.of_ok (all_cons ty5_ok (all_cons ty9_ok (all_cons ty29_ok all_nil))) all_nil
theorem p_ref01_Equal_ok {g : Ds [.sl (.int .u8), .sl (.int .u8)] → Option (Rs [.bool])} (hg : ∀ x r, g x = some r → ∃ N, p_ref01_Equal N x = some r) : SigOk Go.Proofs.Try.prog 19 ⟨[.sl (.int .u8), .sl (.int .u8)], [.bool], g⟩ :=
  fun_of (E := p_ref01_Equal_E) (H := p_ref01_Equal_H) (L := fun N => LT.nil) (c := p_ref01_Equal_c) (ks := p_ref01_Equal_ks) (rs := p_ref01_Equal_rs) (F := p_ref01_Equal) (p_ref01_Equal_Eok) mix Go.Proofs.Try.func19 (by kernel_rfl) (fun N => OkAll.nil) p_ref01_Equal_eq hg

/-! livery/octet.big -/
noncomputable def p_octet_big_E : AE := AE.of [(5, ty5), (26, ty26), (29, ty29)] []
noncomputable def p_octet_big_H : Hints := [(3, [0, 1, 5, 10, 11]), (2000000, [5]), (2000001, [0, 1, 5, 10, 11]), (3000000, [4])]
noncomputable def p_octet_big_c : Code := (Go.Proofs.Try.f71).body.getD .skip
noncomputable def p_octet_big_l3_S : Shape where
  h := { tmps := [.sc (.int .u64), .sc (.int .i64), .any, .any, .any, .sc (.vec 0 none 1), .any, .any, .any, .any, .sc (.int .i64), .sc (.int .i64), .any, .any, .any, .any, .any, .any, .any, .any, .any, .any, .any, .any, .any, .any, .any], mem := [.live [.xs (.int .u8) none] (.own)] }
  ks := [.int, .int, .nat, .int, .int, .nat, .xs]
  st := fun x => { tmps := [.one (.sc (.int .u64 x.1)), .one (.sc (.int .i64 x.2.1)), .one .any, .one .any, .one .any, .one (.sc (.vec 0 x.2.2.1 1)), .one .any, .one .any, .one .any, .one .any, .one (.sc (.int .i64 x.2.2.2.1)), .one (.sc (.int .i64 x.2.2.2.2.1)), .one .any, .one .any, .one .any, .one .any, .one .any, .one .any, .one .any, .one .any, .one .any, .one .any, .one .any, .one .any, .one .any, .one .any, .one .any], mem := [.live { segs := [.xs (.int .u8) x.2.2.2.2.2.1 x.2.2.2.2.2.2.1], own := .own }] }
noncomputable def p_octet_big_l3_F (N : Nat) (β : Type) (x : (Int × Int × Nat × Int × Int × Nat × List Int × Unit)) (kn : (Int × Int × Nat × Int × Int × Nat × List Int × Unit) → Option β) (ke : ((Nat × Nat × List Int × Unit)) → Option β) : Option β :=
  if (x.2.2.2.2.1 < x.2.2.2.1) then
    if (IntKind.i64.wrap ((8:Int) * x.2.2.2.2.1)) < 0 then none else (
    if 0 ≤ (IntKind.i64.wrap ((IntKind.i64.wrap (x.2.1 - (1:Int))) - x.2.2.2.2.1)) then (
    if (IntKind.i64.wrap ((IntKind.i64.wrap (x.2.1 - (1:Int))) - x.2.2.2.2.1)) < ((x.2.2.1 : Nat) : Int) then (
    if ((IntKind.i64.wrap ((IntKind.i64.wrap (x.2.1 - (1:Int))) - x.2.2.2.2.1)).toNat) < x.2.2.2.2.2.1 then (
    kn (x.1, x.2.1, x.2.2.1, x.2.2.2.1, (IntKind.i64.wrap (x.2.2.2.2.1 + (1:Int))), x.2.2.2.2.2.1, (List.set x.2.2.2.2.2.2.1 ((IntKind.i64.wrap ((IntKind.i64.wrap (x.2.1 - (1:Int))) - x.2.2.2.2.1)).toNat) (IntKind.u8.wrap (ishr IntKind.u64 x.1 (IntKind.i64.wrap ((8:Int) * x.2.2.2.2.1))))), ())) else none) else none) else none)
  else
    ke (x.2.2.1, x.2.2.2.2.2.1, x.2.2.2.2.2.2.1, ())
noncomputable def p_octet_big_l3_go : Go' ((Nat × Nat × List Int × Unit)) := fun y K => K (.exit 0) { tmps := [.one .any, .one .any, .one .any, .one .any, .one .any, .one (.sc (.vec 0 y.1 1)), .one .any, .one .any, .one .any, .one .any, .one .any, .one .any, .one .any, .one .any, .one .any, .one .any, .one .any, .one .any, .one .any, .one .any, .one .any, .one .any, .one .any, .one .any, .one .any, .one .any, .one .any], mem := [.live { segs := [.xs (.int .u8) y.2.1 y.2.2.1], own := .own }] }
noncomputable def p_octet_big_l3_L (N : Nat) : LT := upd (LT.nil) 3 (loopE p_octet_big_l3_S N (p_octet_big_l3_F N) p_octet_big_l3_go)
theorem p_octet_big_l3_ok (N : Nat) : OkAll p_octet_big_E p_octet_big_H N (p_octet_big_l3_L N) (subs p_octet_big_c) :=
  addLoop (c := theLoop 3 p_octet_big_c) (OkAll.nil) (by kernel_rfl) (fun x => by kernel_rfl) (fun β x kn ke => by kernel_rfl)
abbrev p_octet_big_ks : List Kd := [.int .u64, .int .i64]
abbrev p_octet_big_rs : List Kd := [.sl (.int .u8)]
noncomputable def p_octet_big (N : Nat) (x : Int × Int × Unit) : Option (List Int) :=
  if 0 ≤ x.2.1 then (
  if x.2.1 = x.2.1 then (
  if x.2.1 * 1 ≤ 281474976710656 then (
  iter (p_octet_big_l3_F N) N (x.1, x.2.1, (x.2.1.toNat), (((x.2.1.toNat) : Nat) : Int), (0:Int), (x.2.1.toNat), (List.replicate (x.2.1.toNat) 0), ()) fun y1 => (
  some y1.2.2.1)) else none) else none) else none
theorem p_octet_big_eq (N : Nat) (x : Ds [.int .u64, .int .i64]) : funL p_octet_big_E p_octet_big_H (p_octet_big_l3_L N) N Go.Proofs.Try.f71 p_octet_big_c [.int .u64, .int .i64] [.sl (.int .u8)] x = p_octet_big N x := by kernel_rfl
theorem p_octet_big_Eok : p_octet_big_E.Ok Go.Proofs.Try.prog := AE.of_ok (all_cons ty5_ok (all_cons ty26_ok (all_cons ty29_ok all_nil))) all_nil
theorem p_octet_big_ok {g : Ds [.int .u64, .int .i64] → Option (Rs [.sl (.int .u8)])} (hg : ∀ x r, g x = some r → ∃ N, p_octet_big N x = some r) : SigOk Go.Proofs.Try.prog 71 ⟨[.int .u64, .int .i64], [.sl (.int .u8)], g⟩ :=
  fun_of (E := p_octet_big_E) (H := p_octet_big_H) (L := fun N => p_octet_big_l3_L N) (c := p_octet_big_c) (ks := p_octet_big_ks) (rs := p_octet_big_rs) (F := p_octet_big) (p_octet_big_Eok) mix Go.Proofs.Try.func71 (by kernel_rfl) (fun N => p_octet_big_l3_ok N) p_octet_big_eq hg

/-! livery/octet.U16 -/
noncomputable def p_octet_U16_E : AE := AE.of [(26, ty26), (84, ty84)] [(71, ⟨[.int .u64, .int .i64], [.sl (.int .u8)], g_octet_big⟩)]
noncomputable def p_octet_U16_H : Hints := [(3000000, [2])]
noncomputable def p_octet_U16_c : Code := (Go.Proofs.Try.f61).body.getD .skip
abbrev p_octet_U16_ks : List Kd := [.int .u16]
abbrev p_octet_U16_rs : List Kd := [.sl (.int .u8)]
noncomputable def p_octet_U16 (N : Nat) (x : Int × Unit) : Option (List Int) :=
  (g_octet_big ((IntKind.u64.wrap x.1), (2:Int), ())).bind fun r1 => (
  some r1)
theorem p_octet_U16_eq (N : Nat) (x : Ds [.int .u16]) : funL p_octet_U16_E p_octet_U16_H (LT.nil) N Go.Proofs.Try.f61 p_octet_U16_c [.int .u16] [.sl (.int .u8)] x = p_octet_U16 N x := by kernel_rfl
theorem p_octet_U16_Eok (he_octet_big : SigOk Go.Proofs.Try.prog 71 ⟨[.int .u64, .int .i64], [.sl (.int .u8)], g_octet_big⟩) : p_octet_U16_E.Ok Go.Proofs.Try.prog := AE.of_ok (all_cons ty26_ok (all_cons ty84_ok all_nil)) (all_cons ⟨he_octet_big, enters_octet_big⟩ all_nil)
theorem p_octet_U16_ok (he_octet_big : SigOk Go.Proofs.Try.prog 71 ⟨[.int .u64, .int .i64], [.sl (.int .u8)], g_octet_big⟩) {g : Ds [.int .u16] → Option (Rs [.sl (.int .u8)])} (hg : ∀ x r, g x = some r → ∃ N, p_octet_U16 N x = some r) : SigOk Go.Proofs.Try.prog 61 ⟨[.int .u16], [.sl (.int .u8)], g⟩ :=
  fun_of (E := p_octet_U16_E) (H := p_octet_U16_H) (L := fun N => LT.nil) (c := p_octet_U16_c) (ks := p_octet_U16_ks) (rs := p_octet_U16_rs) (F := p_octet_U16) (p_octet_U16_Eok he_octet_big) mix Go.Proofs.Try.func61 (by kernel_rfl) (fun N => OkAll.nil) p_octet_U16_eq hg

/-! livery/octet.fits -/
noncomputable def p_octet_fits_E : AE := AE.of [] []
noncomputable def p_octet_fits_H : Hints := [(2000000, []), (3000000, [4])]
noncomputable def p_octet_fits_c : Code := (Go.Proofs.Try.f72).body.getD .skip
abbrev p_octet_fits_ks : List Kd := [.int .u64, .int .i64]
abbrev p_octet_fits_rs : List Kd := [.int .i64]
noncomputable def p_octet_fits (N : Nat) (x : Int × Int × Unit) : Option (Int) :=
  if (x.2.1 < (1:Int)) then
    some (1:Int)
  else
    if (x.2.1 > (8:Int)) then
      some (1:Int)
    else
      if (x.2.1 < (8:Int)) then
        if (IntKind.i64.wrap ((8:Int) * x.2.1)) < 0 then none else (
        if ((ishr IntKind.u64 x.1 (IntKind.i64.wrap ((8:Int) * x.2.1))) ≠ (0:Int)) then
          some (3:Int)
        else
          some (0:Int))
      else
        some (0:Int)
theorem p_octet_fits_eq (N : Nat) (x : Ds [.int .u64, .int .i64]) : funL p_octet_fits_E p_octet_fits_H (LT.nil) N Go.Proofs.Try.f72 p_octet_fits_c [.int .u64, .int .i64] [.int .i64] x = p_octet_fits N x := by kernel_rfl
theorem p_octet_fits_Eok : p_octet_fits_E.Ok Go.Proofs.Try.prog := AE.of_ok all_nil all_nil
theorem p_octet_fits_ok {g : Ds [.int .u64, .int .i64] → Option (Rs [.int .i64])} (hg : ∀ x r, g x = some r → ∃ N, p_octet_fits N x = some r) : SigOk Go.Proofs.Try.prog 72 ⟨[.int .u64, .int .i64], [.int .i64], g⟩ :=
  fun_of (E := p_octet_fits_E) (H := p_octet_fits_H) (L := fun N => LT.nil) (c := p_octet_fits_c) (ks := p_octet_fits_ks) (rs := p_octet_fits_rs) (F := p_octet_fits) (p_octet_fits_Eok) mix Go.Proofs.Try.func72 (by kernel_rfl) (fun N => OkAll.nil) p_octet_fits_eq hg

/-! livery/octet.Big -/
noncomputable def p_octet_Big_E : AE := AE.of [] [(72, ⟨[.int .u64, .int .i64], [.int .i64], g_octet_fits⟩), (71, ⟨[.int .u64, .int .i64], [.sl (.int .u8)], g_octet_big⟩)]
noncomputable def p_octet_Big_H : Hints := [(3000000, [4, 5])]
noncomputable def p_octet_Big_c : Code := (Go.Proofs.Try.f62).body.getD .skip
abbrev p_octet_Big_ks : List Kd := [.int .u64, .int .i64]
abbrev p_octet_Big_rs : List Kd := [.sl (.int .u8), .int .i64]
noncomputable def p_octet_Big (N : Nat) (x : Int × Int × Unit) : Option (List Int × Int) :=
  (g_octet_fits (x.1, x.2.1, ())).bind fun r1 => (
  if (r1 ≠ (0:Int)) then
    some ([], r1)
  else
    (g_octet_big (x.1, x.2.1, ())).bind fun r2 => (
    some (r2, (0:Int))))
theorem p_octet_Big_eq (N : Nat) (x : Ds [.int .u64, .int .i64]) : funL p_octet_Big_E p_octet_Big_H (LT.nil) N Go.Proofs.Try.f62 p_octet_Big_c [.int .u64, .int .i64] [.sl (.int .u8), .int .i64] x = p_octet_Big N x := by kernel_rfl
theorem p_octet_Big_Eok (he_octet_fits : SigOk Go.Proofs.Try.prog 72 ⟨[.int .u64, .int .i64], [.int .i64], g_octet_fits⟩) (he_octet_big : SigOk Go.Proofs.Try.prog 71 ⟨[.int .u64, .int .i64], [.sl (.int .u8)], g_octet_big⟩) : p_octet_Big_E.Ok Go.Proofs.Try.prog := AE.of_ok all_nil (all_cons ⟨he_octet_fits, enters_octet_fits⟩ (all_cons ⟨he_octet_big, enters_octet_big⟩ all_nil))
theorem p_octet_Big_ok (he_octet_fits : SigOk Go.Proofs.Try.prog 72 ⟨[.int .u64, .int .i64], [.int .i64], g_octet_fits⟩) (he_octet_big : SigOk Go.Proofs.Try.prog 71 ⟨[.int .u64, .int .i64], [.sl (.int .u8)], g_octet_big⟩) {g : Ds [.int .u64, .int .i64] → Option (Rs [.sl (.int .u8), .int .i64])} (hg : ∀ x r, g x = some r → ∃ N, p_octet_Big N x = some r) : SigOk Go.Proofs.Try.prog 62 ⟨[.int .u64, .int .i64], [.sl (.int .u8), .int .i64], g⟩ :=
  fun_of (E := p_octet_Big_E) (H := p_octet_Big_H) (L := fun N => LT.nil) (c := p_octet_Big_c) (ks := p_octet_Big_ks) (rs := p_octet_Big_rs) (F := p_octet_Big) (p_octet_Big_Eok he_octet_fits he_octet_big) mix Go.Proofs.Try.func62 (by kernel_rfl) (fun N => OkAll.nil) p_octet_Big_eq hg

/-! livery/span.one -/
noncomputable def p_span_one_E : AE := AE.of [(26, ty26), (28, ty28)] []
noncomputable def p_span_one_H : Hints := [(3000000, [2])]
noncomputable def p_span_one_c : Code := (Go.Proofs.Try.f73).body.getD .skip
abbrev p_span_one_ks : List Kd := [.cat [.int .u64, .int .u64]]
abbrev p_span_one_rs : List Kd := [.bool]
noncomputable def p_span_one (N : Nat) (x : (Int × Int × Unit) × Unit) : Option (Bool) :=
  if (x.1.1 < x.1.2.1) then
    some (decide (x.1.2.1 ≤ (1152921504606846976:Int)))
  else
    some false
theorem p_span_one_eq (N : Nat) (x : Ds [.cat [.int .u64, .int .u64]]) : funL p_span_one_E p_span_one_H (LT.nil) N Go.Proofs.Try.f73 p_span_one_c [.cat [.int .u64, .int .u64]] [.bool] x = p_span_one N x := by kernel_rfl
theorem p_span_one_Eok : p_span_one_E.Ok Go.Proofs.Try.prog := AE.of_ok (all_cons ty26_ok (all_cons ty28_ok all_nil)) all_nil
theorem p_span_one_ok {g : Ds [.cat [.int .u64, .int .u64]] → Option (Rs [.bool])} (hg : ∀ x r, g x = some r → ∃ N, p_span_one N x = some r) : SigOk Go.Proofs.Try.prog 73 ⟨[.cat [.int .u64, .int .u64]], [.bool], g⟩ :=
  fun_of (E := p_span_one_E) (H := p_span_one_H) (L := fun N => LT.nil) (c := p_span_one_c) (ks := p_span_one_ks) (rs := p_span_one_rs) (F := p_span_one) (p_span_one_Eok) mix Go.Proofs.Try.func73 (by kernel_rfl) (fun N => OkAll.nil) p_span_one_eq hg

/-! livery/span.May -/
noncomputable def p_span_May_E : AE := AE.of [(26, ty26), (28, ty28), (90, ty90)] [(73, ⟨[.cat [.int .u64, .int .u64]], [.bool], g_span_one⟩)]
noncomputable def p_span_May_H : Hints := [(2, [0, 5, 6, 7]), (2000000, [0]), (2000001, [0, 5, 6, 7]), (3000000, [2])]
noncomputable def p_span_May_c : Code := (Go.Proofs.Try.f66).body.getD .skip
noncomputable def p_span_May_l2_S : Shape where
  h := { tmps := [.sc (.vec 0 none 2), .any, .any, .any, .any, .sc (.vec 0 none 2), .sc (.int .i64), .sc (.int .i64), .any, .any, .any, .any, .any, .any, .any, .any, .any, .any, .any, .any, .any, .any, .any, .any, .any, .any, .any, .any, .any, .any, .any, .any, .any, .any], mem := [.live [.xs (.int .u64) none] (.ro)] }
  ks := [.nat, .nat, .int, .int, .nat, .xs]
  st := fun x => { tmps := [.one (.sc (.vec 0 x.1 2)), .one .any, .one .any, .one .any, .one .any, .one (.sc (.vec 0 x.2.1 2)), .one (.sc (.int .i64 x.2.2.1)), .one (.sc (.int .i64 x.2.2.2.1)), .one .any, .one .any, .one .any, .one .any, .one .any, .one .any, .one .any, .one .any, .one .any, .one .any, .one .any, .one .any, .one .any, .one .any, .one .any, .one .any, .one .any, .one .any, .one .any, .one .any, .one .any, .one .any, .one .any, .one .any, .one .any, .one .any], mem := [.live { segs := [.xs (.int .u64) x.2.2.2.2.1 x.2.2.2.2.2.1], own := .ro }] }
noncomputable def p_span_May_l2_F (N : Nat) (β : Type) (x : (Nat × Nat × Int × Int × Nat × List Int × Unit)) (kn : (Nat × Nat × Int × Int × Nat × List Int × Unit) → Option β) (ke : ((Bool × Unit) ⊕ (Nat × Nat × List Int × Unit)) → Option β) : Option β :=
  if (x.2.2.2.1 < x.2.2.1) then
    if 0 ≤ x.2.2.2.1 then (
    if x.2.2.2.1 < ((x.2.1 : Nat) : Int) then (
    if ((x.2.2.2.1.toNat) * 2) + 2 ≤ x.2.2.2.2.1 then (
    (g_span_one (((List.getD (List.take 1 (List.take 2 (List.drop ((x.2.2.2.1.toNat) * 2) x.2.2.2.2.2.1))) 0 0), (List.getD (List.drop 1 (List.take 2 (List.drop ((x.2.2.2.1.toNat) * 2) x.2.2.2.2.2.1))) 0 0), ()), ())).bind fun r1 => (
    if (¬ (r1 = true)) then
      ke (.inl (false, ()))
    else
      if (x.2.2.2.1 > (0:Int)) then
        if 0 ≤ (IntKind.i64.wrap (x.2.2.2.1 - (1:Int))) then (
        if (IntKind.i64.wrap (x.2.2.2.1 - (1:Int))) < ((x.1 : Nat) : Int) then (
        if (1 + (((IntKind.i64.wrap (x.2.2.2.1 - (1:Int))).toNat) * 2)) < x.2.2.2.2.1 then (
        if ((List.getD (List.take 2 (List.drop ((x.2.2.2.1.toNat) * 2) x.2.2.2.2.2.1)) 0 0) ≤ (List.getD x.2.2.2.2.2.1 (1 + (((IntKind.i64.wrap (x.2.2.2.1 - (1:Int))).toNat) * 2)) 0)) then
          ke (.inl (false, ()))
        else
          kn (x.1, x.2.1, x.2.2.1, (IntKind.i64.wrap (x.2.2.2.1 + (1:Int))), x.2.2.2.2.1, x.2.2.2.2.2.1, ())) else none) else none) else none
      else
        kn (x.1, x.2.1, x.2.2.1, (IntKind.i64.wrap (x.2.2.2.1 + (1:Int))), x.2.2.2.2.1, x.2.2.2.2.2.1, ()))) else none) else none) else none
  else
    ke (.inr (x.1, x.2.2.2.2.1, x.2.2.2.2.2.1, ()))
noncomputable def p_span_May_l2_go : Go' ((Bool × Unit) ⊕ (Nat × Nat × List Int × Unit)) := fun y K => match y with
  | .inl y => K .ret { tmps := [.one .any, .one .any, .one (.sc (.known y.1)), .one .any, .one .any, .one .any, .one .any, .one .any, .one .any, .one .any, .one .any, .one .any, .one .any, .one .any, .one .any, .one .any, .one .any, .one .any, .one .any, .one .any, .one .any, .one .any, .one .any, .one .any, .one .any, .one .any, .one .any, .one .any, .one .any, .one .any, .one .any, .one .any, .one .any, .one .any], mem := [] }
  | .inr y => K (.exit 0) { tmps := [.one (.sc (.vec 0 y.1 2)), .one .any, .one .any, .one .any, .one .any, .one .any, .one .any, .one .any, .one .any, .one .any, .one .any, .one .any, .one .any, .one .any, .one .any, .one .any, .one .any, .one .any, .one .any, .one .any, .one .any, .one .any, .one .any, .one .any, .one .any, .one .any, .one .any, .one .any, .one .any, .one .any, .one .any, .one .any, .one .any, .one .any], mem := [.live { segs := [.xs (.int .u64) y.2.1 y.2.2.1], own := .ro }] }
noncomputable def p_span_May_l2_L (N : Nat) : LT := upd (LT.nil) 2 (loopE p_span_May_l2_S N (p_span_May_l2_F N) p_span_May_l2_go)
theorem p_span_May_l2_ok (N : Nat) : OkAll p_span_May_E p_span_May_H N (p_span_May_l2_L N) (subs p_span_May_c) :=
  addLoop (c := theLoop 2 p_span_May_c) (OkAll.nil) (by kernel_rfl) (fun x => by kernel_rfl) (fun β x kn ke => by kernel_rfl)
abbrev p_span_May_ks : List Kd := [.sla (.int .u64) 2]
abbrev p_span_May_rs : List Kd := [.bool]
noncomputable def p_span_May (N : Nat) (x : List Int × Unit) : Option (Bool) :=
  iter (p_span_May_l2_F N) N ((List.length x.1 / 2), (List.length x.1 / 2), (((List.length x.1 / 2) : Nat) : Int), (0:Int), (List.length x.1), x.1, ()) fun y => (match y with
  | .inl y2 => (
    some y2.1)
  | .inr y3 => (
    some (decide (((y3.1 : Nat) : Int) ≤ (64:Int)))))
theorem p_span_May_eq (N : Nat) (x : Ds [.sla (.int .u64) 2]) : funL p_span_May_E p_span_May_H (p_span_May_l2_L N) N Go.Proofs.Try.f66 p_span_May_c [.sla (.int .u64) 2] [.bool] x = p_span_May N x := by kernel_rfl
theorem p_span_May_Eok (he_span_one : SigOk Go.Proofs.Try.prog 73 ⟨[.cat [.int .u64, .int .u64]], [.bool], g_span_one⟩) : p_span_May_E.Ok Go.Proofs.Try.prog := AE.of_ok (all_cons ty26_ok (all_cons ty28_ok (all_cons ty90_ok all_nil))) (all_cons ⟨he_span_one, enters_span_one⟩ all_nil)
theorem p_span_May_ok (he_span_one : SigOk Go.Proofs.Try.prog 73 ⟨[.cat [.int .u64, .int .u64]], [.bool], g_span_one⟩) {g : Ds [.sla (.int .u64) 2] → Option (Rs [.bool])} (hg : ∀ x r, g x = some r → ∃ N, p_span_May N x = some r) : SigOk Go.Proofs.Try.prog 66 ⟨[.sla (.int .u64) 2], [.bool], g⟩ :=
  fun_of (E := p_span_May_E) (H := p_span_May_H) (L := fun N => p_span_May_l2_L N) (c := p_span_May_c) (ks := p_span_May_ks) (rs := p_span_May_rs) (F := p_span_May) (p_span_May_Eok he_span_one) mix Go.Proofs.Try.func66 (by kernel_rfl) (fun N => p_span_May_l2_ok N) p_span_May_eq hg

/-! livery/octet.Bits -/
noncomputable def p_octet_Bits_E : AE := AE.of [(4, ty4), (5, ty5), (29, ty29), (43, ty43)] []
noncomputable def p_octet_Bits_H : Hints := [(3, [3, 11, 12, 13]), (6, [3, 5, 11, 12, 13, 17]), (2000000, [3]), (2000001, [3, 11, 12, 13]), (2000002, [3, 11, 12, 13]), (2000003, [3, 5, 11, 12, 13, 17]), (3000000, [2])]
noncomputable def p_octet_Bits_c : Code := (Go.Proofs.Try.f40).body.getD .skip
noncomputable def p_octet_Bits_l6_S : Shape where
  h := { tmps := [.any, .any, .any, .sc (.vec 0 none 1), .any, .sc (.int .u8), .any, .any, .any, .any, .any, .sc (.vec 1 none 1), .sc (.int .i64), .sc (.int .i64), .any, .any, .any, .sc (.int .i64), .any, .any, .any, .any, .any, .any, .any, .any, .any, .any, .any, .any, .any], mem := [.live [.xs .bool none] (.own), .live [.xs (.int .u8) none] (.ro)] }
  ks := [.nat, .int, .nat, .int, .int, .int, .nat, .xs, .nat, .xs]
  st := fun x => { tmps := [.one .any, .one .any, .one .any, .one (.sc (.vec 0 x.1 1)), .one .any, .one (.sc (.int .u8 x.2.1)), .one .any, .one .any, .one .any, .one .any, .one .any, .one (.sc (.vec 1 x.2.2.1 1)), .one (.sc (.int .i64 x.2.2.2.1)), .one (.sc (.int .i64 x.2.2.2.2.1)), .one .any, .one .any, .one .any, .one (.sc (.int .i64 x.2.2.2.2.2.1)), .one .any, .one .any, .one .any, .one .any, .one .any, .one .any, .one .any, .one .any, .one .any, .one .any, .one .any, .one .any, .one .any], mem := [.live { segs := [.xs .bool x.2.2.2.2.2.2.1 x.2.2.2.2.2.2.2.1], own := .own }, .live { segs := [.xs (.int .u8) x.2.2.2.2.2.2.2.2.1 x.2.2.2.2.2.2.2.2.2.1], own := .ro }] }
noncomputable def p_octet_Bits_l6_F (N : Nat) (β : Type) (x : (Nat × Int × Nat × Int × Int × Int × Nat × List Int × Nat × List Int × Unit)) (kn : (Nat × Int × Nat × Int × Int × Int × Nat × List Int × Nat × List Int × Unit) → Option β) (ke : ((Nat × Nat × Int × Int × Nat × List Int × Nat × List Int × Unit)) → Option β) : Option β :=
  if (x.2.2.2.2.2.1 < (8:Int)) then
    if x.2.2.2.2.2.1 < 0 then none else (
    if (x.1 + 1) * 1 ≤ 140737488355328 then (
    kn ((x.1 + 1), x.2.1, x.2.2.1, x.2.2.2.1, x.2.2.2.2.1, (IntKind.i64.wrap (x.2.2.2.2.2.1 + (1:Int))), (x.2.2.2.2.2.2.1 + 1), (x.2.2.2.2.2.2.2.1 ++ (List.set (List.replicate 1 0) 0 (if ((iand IntKind.u8 (ishr IntKind.u8 x.2.1 x.2.2.2.2.2.1) (1:Int)) = (1:Int)) then (1:Int) else 0))), x.2.2.2.2.2.2.2.2.1, x.2.2.2.2.2.2.2.2.2.1, ())) else none)
  else
    ke (x.1, x.2.2.1, x.2.2.2.1, x.2.2.2.2.1, x.2.2.2.2.2.2.1, x.2.2.2.2.2.2.2.1, x.2.2.2.2.2.2.2.2.1, x.2.2.2.2.2.2.2.2.2.1, ())
noncomputable def p_octet_Bits_l6_go : Go' ((Nat × Nat × Int × Int × Nat × List Int × Nat × List Int × Unit)) := fun y K => K (.exit 2) { tmps := [.one .any, .one .any, .one .any, .one (.sc (.vec 0 y.1 1)), .one .any, .one .any, .one .any, .one .any, .one .any, .one .any, .one .any, .one (.sc (.vec 1 y.2.1 1)), .one (.sc (.int .i64 y.2.2.1)), .one (.sc (.int .i64 y.2.2.2.1)), .one .any, .one .any, .one .any, .one .any, .one .any, .one .any, .one .any, .one .any, .one .any, .one .any, .one .any, .one .any, .one .any, .one .any, .one .any, .one .any, .one .any], mem := [.live { segs := [.xs .bool y.2.2.2.2.1 y.2.2.2.2.2.1], own := .own }, .live { segs := [.xs (.int .u8) y.2.2.2.2.2.2.1 y.2.2.2.2.2.2.2.1], own := .ro }] }
noncomputable def p_octet_Bits_l6_L (N : Nat) : LT := upd (LT.nil) 6 (loopE p_octet_Bits_l6_S N (p_octet_Bits_l6_F N) p_octet_Bits_l6_go)
theorem p_octet_Bits_l6_ok (N : Nat) : OkAll p_octet_Bits_E p_octet_Bits_H N (p_octet_Bits_l6_L N) (subs p_octet_Bits_c) :=
  addLoop (c := theLoop 6 p_octet_Bits_c) (OkAll.nil) (by kernel_rfl) (fun x => by kernel_rfl) (fun β x kn ke => by kernel_rfl)
noncomputable def p_octet_Bits_l3_S : Shape where
  h := { tmps := [.any, .any, .any, .sc (.vec 0 none 1), .any, .any, .any, .any, .any, .any, .any, .sc (.vec 1 none 1), .sc (.int .i64), .sc (.int .i64), .any, .any, .any, .any, .any, .any, .any, .any, .any, .any, .any, .any, .any, .any, .any, .any, .any], mem := [.live [.xs .bool none] (.own), .live [.xs (.int .u8) none] (.ro)] }
  ks := [.nat, .nat, .int, .int, .nat, .xs, .nat, .xs]
  st := fun x => { tmps := [.one .any, .one .any, .one .any, .one (.sc (.vec 0 x.1 1)), .one .any, .one .any, .one .any, .one .any, .one .any, .one .any, .one .any, .one (.sc (.vec 1 x.2.1 1)), .one (.sc (.int .i64 x.2.2.1)), .one (.sc (.int .i64 x.2.2.2.1)), .one .any, .one .any, .one .any, .one .any, .one .any, .one .any, .one .any, .one .any, .one .any, .one .any, .one .any, .one .any, .one .any, .one .any, .one .any, .one .any, .one .any], mem := [.live { segs := [.xs .bool x.2.2.2.2.1 x.2.2.2.2.2.1], own := .own }, .live { segs := [.xs (.int .u8) x.2.2.2.2.2.2.1 x.2.2.2.2.2.2.2.1], own := .ro }] }
noncomputable def p_octet_Bits_l3_F (N : Nat) (β : Type) (x : (Nat × Nat × Int × Int × Nat × List Int × Nat × List Int × Unit)) (kn : (Nat × Nat × Int × Int × Nat × List Int × Nat × List Int × Unit) → Option β) (ke : ((Nat × Nat × List Int × Unit)) → Option β) : Option β :=
  if (x.2.2.2.1 < x.2.2.1) then
    if 0 ≤ x.2.2.2.1 then (
    if x.2.2.2.1 < ((x.2.1 : Nat) : Int) then (
    if (x.2.2.2.1.toNat) < x.2.2.2.2.2.2.1 then (
    iter (p_octet_Bits_l6_F N) N (x.1, (List.getD x.2.2.2.2.2.2.2.1 (x.2.2.2.1.toNat) 0), x.2.1, x.2.2.1, x.2.2.2.1, (0:Int), x.2.2.2.2.1, x.2.2.2.2.2.1, x.2.2.2.2.2.2.1, x.2.2.2.2.2.2.2.1, ()) fun y1 => (
    kn (y1.1, y1.2.1, y1.2.2.1, (IntKind.i64.wrap (y1.2.2.2.1 + (1:Int))), y1.2.2.2.2.1, y1.2.2.2.2.2.1, y1.2.2.2.2.2.2.1, y1.2.2.2.2.2.2.2.1, ()))) else none) else none) else none
  else
    ke (x.1, x.2.2.2.2.1, x.2.2.2.2.2.1, ())
noncomputable def p_octet_Bits_l3_go : Go' ((Nat × Nat × List Int × Unit)) := fun y K => K (.exit 0) { tmps := [.one .any, .one .any, .one .any, .one (.sc (.vec 0 y.1 1)), .one .any, .one .any, .one .any, .one .any, .one .any, .one .any, .one .any, .one .any, .one .any, .one .any, .one .any, .one .any, .one .any, .one .any, .one .any, .one .any, .one .any, .one .any, .one .any, .one .any, .one .any, .one .any, .one .any, .one .any, .one .any, .one .any, .one .any], mem := [.live { segs := [.xs .bool y.2.1 y.2.2.1], own := .own }] }
noncomputable def p_octet_Bits_l3_L (N : Nat) : LT := upd (p_octet_Bits_l6_L N) 3 (loopE p_octet_Bits_l3_S N (p_octet_Bits_l3_F N) p_octet_Bits_l3_go)
theorem p_octet_Bits_l3_ok (N : Nat) : OkAll p_octet_Bits_E p_octet_Bits_H N (p_octet_Bits_l3_L N) (subs p_octet_Bits_c) :=
  addLoop (c := theLoop 3 p_octet_Bits_c) (p_octet_Bits_l6_ok N) (by kernel_rfl) (fun x => by kernel_rfl) (fun β x kn ke => by kernel_rfl)
abbrev p_octet_Bits_ks : List Kd := [.sl (.int .u8)]
abbrev p_octet_Bits_rs : List Kd := [.sl .bool]
noncomputable def p_octet_Bits (N : Nat) (x : List Int × Unit) : Option (List Int) :=
  if 0 ≤ (0:Int) then (
  if (0:Int) ≤ (IntKind.i64.wrap ((8:Int) * (((List.length x.1) : Nat) : Int))) then (
  if (IntKind.i64.wrap ((8:Int) * (((List.length x.1) : Nat) : Int))) * 1 ≤ 281474976710656 then (
  iter (p_octet_Bits_l3_F N) N (0, (List.length x.1), (((List.length x.1) : Nat) : Int), (0:Int), 0, (List.replicate 0 0), (List.length x.1), x.1, ()) fun y2 => (
  some y2.2.2.1)) else none) else none) else none
theorem p_octet_Bits_eq (N : Nat) (x : Ds [.sl (.int .u8)]) : funL p_octet_Bits_E p_octet_Bits_H (p_octet_Bits_l3_L N) N Go.Proofs.Try.f40 p_octet_Bits_c [.sl (.int .u8)] [.sl .bool] x = p_octet_Bits N x := by kernel_rfl
theorem p_octet_Bits_Eok : p_octet_Bits_E.Ok Go.Proofs.Try.prog := AE.of_ok (all_cons ty4_ok (all_cons ty5_ok (all_cons ty29_ok (all_cons ty43_ok all_nil)))) all_nil
theorem p_octet_Bits_ok {g : Ds [.sl (.int .u8)] → Option (Rs [.sl .bool])} (hg : ∀ x r, g x = some r → ∃ N, p_octet_Bits N x = some r) : SigOk Go.Proofs.Try.prog 40 ⟨[.sl (.int .u8)], [.sl .bool], g⟩ :=
  fun_of (E := p_octet_Bits_E) (H := p_octet_Bits_H) (L := fun N => p_octet_Bits_l3_L N) (c := p_octet_Bits_c) (ks := p_octet_Bits_ks) (rs := p_octet_Bits_rs) (F := p_octet_Bits) (p_octet_Bits_Eok) mix Go.Proofs.Try.func40 (by kernel_rfl) (fun N => p_octet_Bits_l3_ok N) p_octet_Bits_eq hg

/-! livery/msg.Has -/
noncomputable def p_msg_Has_E : AE := AE.ofI [] [] [] [] [] [] []
noncomputable def p_msg_Has_H : Hints := [(2000000, []), (3000000, [2])]
noncomputable def p_msg_Has_c : Code := (Go.Proofs.Try.f12).body.getD .skip
abbrev p_msg_Has_ks : List Kd := [.int .i64]
abbrev p_msg_Has_rs : List Kd := [.str]
noncomputable def p_msg_Has (N : Nat) (x : Int × Unit) : Option (ByteArray) :=
  if (x.1 = (1:Int)) then
    some (⟨#[107, 114, 100, 99]⟩ : ByteArray)
  else
    if (x.1 = (2:Int)) then
      some (⟨#[107, 114, 99, 115]⟩ : ByteArray)
    else
      if (x.1 = (3:Int)) then
        some (⟨#[112, 110, 100]⟩ : ByteArray)
      else
        if (x.1 = (4:Int)) then
          some (⟨#[110, 100]⟩ : ByteArray)
        else
          if (x.1 = (5:Int)) then
            some (⟨#[107, 114, 115]⟩ : ByteArray)
          else
            if (x.1 = (6:Int)) then
              some (⟨#[107, 114, 115]⟩ : ByteArray)
            else
              some (⟨#[]⟩ : ByteArray)
theorem p_msg_Has_eq (N : Nat) (x : Ds [.int .i64]) : funL p_msg_Has_E p_msg_Has_H (LT.nil) N Go.Proofs.Try.f12 p_msg_Has_c [.int .i64] [.str] x = p_msg_Has N x := by kernel_rfl
theorem p_msg_Has_Eok : p_msg_Has_E.Ok Go.Proofs.Try.prog := AE.ofI_ok all_nil all_nil all_nil all_nil all_nil
theorem p_msg_Has_ok {g : Ds [.int .i64] → Option (Rs [.str])} (hg : ∀ x r, g x = some r → ∃ N, p_msg_Has N x = some r) : SigOk Go.Proofs.Try.prog 12 ⟨[.int .i64], [.str], g⟩ :=
  fun_of (E := p_msg_Has_E) (H := p_msg_Has_H) (L := fun N => LT.nil) (c := p_msg_Has_c) (ks := p_msg_Has_ks) (rs := p_msg_Has_rs) (F := p_msg_Has) (p_msg_Has_Eok) mix Go.Proofs.Try.func12 (by kernel_rfl) (fun N => OkAll.nil) p_msg_Has_eq hg

/-! livery/liveryref21.Has -/
noncomputable def p_ref21_Has_E : AE := AE.ofI [] [] [] [] [] [] []
noncomputable def p_ref21_Has_H : Hints := [(2000000, []), (3000000, [2])]
noncomputable def p_ref21_Has_c : Code := (Go.Proofs.Try.f13).body.getD .skip
abbrev p_ref21_Has_ks : List Kd := [.int .i64]
abbrev p_ref21_Has_rs : List Kd := [.str]
noncomputable def p_ref21_Has (N : Nat) (x : Int × Unit) : Option (ByteArray) :=
  if (x.1 = (1:Int)) then
    some (⟨#[107, 114, 100, 99]⟩ : ByteArray)
  else
    if (x.1 = (2:Int)) then
      some (⟨#[107, 114, 99, 115]⟩ : ByteArray)
    else
      if (x.1 = (3:Int)) then
        some (⟨#[112, 110, 100]⟩ : ByteArray)
      else
        if (x.1 = (4:Int)) then
          some (⟨#[110, 100]⟩ : ByteArray)
        else
          if (x.1 = (5:Int)) then
            some (⟨#[107, 114, 115]⟩ : ByteArray)
          else
            if (x.1 = (6:Int)) then
              some (⟨#[107, 114, 115]⟩ : ByteArray)
            else
              some (⟨#[]⟩ : ByteArray)
theorem p_ref21_Has_eq (N : Nat) (x : Ds [.int .i64]) : funL p_ref21_Has_E p_ref21_Has_H (LT.nil) N Go.Proofs.Try.f13 p_ref21_Has_c [.int .i64] [.str] x = p_ref21_Has N x := by kernel_rfl
theorem p_ref21_Has_Eok : p_ref21_Has_E.Ok Go.Proofs.Try.prog := AE.ofI_ok all_nil all_nil all_nil all_nil all_nil
theorem p_ref21_Has_ok {g : Ds [.int .i64] → Option (Rs [.str])} (hg : ∀ x r, g x = some r → ∃ N, p_ref21_Has N x = some r) : SigOk Go.Proofs.Try.prog 13 ⟨[.int .i64], [.str], g⟩ :=
  fun_of (E := p_ref21_Has_E) (H := p_ref21_Has_H) (L := fun N => LT.nil) (c := p_ref21_Has_c) (ks := p_ref21_Has_ks) (rs := p_ref21_Has_rs) (F := p_ref21_Has) (p_ref21_Has_Eok) mix Go.Proofs.Try.func13 (by kernel_rfl) (fun N => OkAll.nil) p_ref21_Has_eq hg

/-! livery/msg.Name -/
noncomputable def p_msg_Name_E : AE := AE.of [(9, ty9), (52, ty52)] []
noncomputable def p_msg_Name_H : Hints := [(3000000, [2])]
noncomputable def p_msg_Name_c : Code := (Go.Proofs.Try.f14).body.getD .skip
abbrev p_msg_Name_ks : List Kd := [.int .i64]
abbrev p_msg_Name_rs : List Kd := [.str]
noncomputable def p_msg_Name (N : Nat) (x : Int × Unit) : Option (ByteArray) :=
  if (x.1 < (0:Int)) then
    some (⟨#[]⟩ : ByteArray)
  else
    if (x.1 ≥ (9:Int)) then
      some (⟨#[]⟩ : ByteArray)
    else
      if 0 ≤ x.1 then (
      if x.1 < 9 then (
      if (x.1.toNat) = 0 then
        some (⟨#[]⟩ : ByteArray)
      else
        if (x.1.toNat) = 1 then
          some (⟨#[111, 102, 102, 101, 114]⟩ : ByteArray)
        else
          if (x.1.toNat) = 2 then
            some (⟨#[97, 99, 99, 101, 112, 116]⟩ : ByteArray)
          else
            if (x.1.toNat) = 3 then
              some (⟨#[99, 104, 117, 110, 107]⟩ : ByteArray)
            else
              if (x.1.toNat) = 4 then
                some (⟨#[104, 97, 118, 101]⟩ : ByteArray)
              else
                if (x.1.toNat) = 5 then
                  some (⟨#[99, 111, 110, 102, 105, 114, 109]⟩ : ByteArray)
                else
                  if (x.1.toNat) = 6 then
                    some (⟨#[114, 101, 102, 117, 115, 101]⟩ : ByteArray)
                  else
                    if (x.1.toNat) = 7 then
                      some (⟨#[99, 97, 110, 99, 101, 108]⟩ : ByteArray)
                    else
                      if (x.1.toNat) = 8 then (
                      some (⟨#[112, 114, 111, 98, 101]⟩ : ByteArray)) else none) else none) else none
theorem p_msg_Name_eq (N : Nat) (x : Ds [.int .i64]) : funL p_msg_Name_E p_msg_Name_H (LT.nil) N Go.Proofs.Try.f14 p_msg_Name_c [.int .i64] [.str] x = p_msg_Name N x := by kernel_rfl
theorem p_msg_Name_Eok : p_msg_Name_E.Ok Go.Proofs.Try.prog := AE.of_ok (all_cons ty9_ok (all_cons ty52_ok all_nil)) all_nil
theorem p_msg_Name_ok {g : Ds [.int .i64] → Option (Rs [.str])} (hg : ∀ x r, g x = some r → ∃ N, p_msg_Name N x = some r) : SigOk Go.Proofs.Try.prog 14 ⟨[.int .i64], [.str], g⟩ :=
  fun_of (E := p_msg_Name_E) (H := p_msg_Name_H) (L := fun N => LT.nil) (c := p_msg_Name_c) (ks := p_msg_Name_ks) (rs := p_msg_Name_rs) (F := p_msg_Name) (p_msg_Name_Eok) mix Go.Proofs.Try.func14 (by kernel_rfl) (fun N => OkAll.nil) p_msg_Name_eq hg

/-! livery/liveryref21.Name -/
noncomputable def p_ref21_Name_E : AE := AE.of [(9, ty9), (53, ty53)] []
noncomputable def p_ref21_Name_H : Hints := [(3000000, [2])]
noncomputable def p_ref21_Name_c : Code := (Go.Proofs.Try.f15).body.getD .skip
abbrev p_ref21_Name_ks : List Kd := [.int .i64]
abbrev p_ref21_Name_rs : List Kd := [.str]
noncomputable def p_ref21_Name (N : Nat) (x : Int × Unit) : Option (ByteArray) :=
  if (x.1 < (1:Int)) then
    some (⟨#[]⟩ : ByteArray)
  else
    if (x.1 > (8:Int)) then
      some (⟨#[]⟩ : ByteArray)
    else
      if 0 ≤ x.1 then (
      if x.1 < (9:Int) then (
      if (x.1.toNat) = 0 then
        some (⟨#[]⟩ : ByteArray)
      else
        if (x.1.toNat) = 1 then
          some (⟨#[111, 102, 102, 101, 114]⟩ : ByteArray)
        else
          if (x.1.toNat) = 2 then
            some (⟨#[97, 99, 99, 101, 112, 116]⟩ : ByteArray)
          else
            if (x.1.toNat) = 3 then
              some (⟨#[99, 104, 117, 110, 107]⟩ : ByteArray)
            else
              if (x.1.toNat) = 4 then
                some (⟨#[104, 97, 118, 101]⟩ : ByteArray)
              else
                if (x.1.toNat) = 5 then
                  some (⟨#[99, 111, 110, 102, 105, 114, 109]⟩ : ByteArray)
                else
                  if (x.1.toNat) = 6 then
                    some (⟨#[114, 101, 102, 117, 115, 101]⟩ : ByteArray)
                  else
                    if (x.1.toNat) = 7 then
                      some (⟨#[99, 97, 110, 99, 101, 108]⟩ : ByteArray)
                    else
                      if (x.1.toNat) = 8 then (
                      some (⟨#[112, 114, 111, 98, 101]⟩ : ByteArray)) else none) else none) else none
theorem p_ref21_Name_eq (N : Nat) (x : Ds [.int .i64]) : funL p_ref21_Name_E p_ref21_Name_H (LT.nil) N Go.Proofs.Try.f15 p_ref21_Name_c [.int .i64] [.str] x = p_ref21_Name N x := by kernel_rfl
theorem p_ref21_Name_Eok : p_ref21_Name_E.Ok Go.Proofs.Try.prog := AE.of_ok (all_cons ty9_ok (all_cons ty53_ok all_nil)) all_nil
theorem p_ref21_Name_ok {g : Ds [.int .i64] → Option (Rs [.str])} (hg : ∀ x r, g x = some r → ∃ N, p_ref21_Name N x = some r) : SigOk Go.Proofs.Try.prog 15 ⟨[.int .i64], [.str], g⟩ :=
  fun_of (E := p_ref21_Name_E) (H := p_ref21_Name_H) (L := fun N => LT.nil) (c := p_ref21_Name_c) (ks := p_ref21_Name_ks) (rs := p_ref21_Name_rs) (F := p_ref21_Name) (p_ref21_Name_Eok) mix Go.Proofs.Try.func15 (by kernel_rfl) (fun N => OkAll.nil) p_ref21_Name_eq hg

/-! livery/msg.has -/
noncomputable def p_msg_has_E : AE := AE.ofI [(9, ty9)] [] [] [(12, i_msg_Has)] [11] [(2, 8)] []
noncomputable def p_msg_has_H : Hints := [(3000000, [4])]
noncomputable def p_msg_has_c : Code := (Go.Proofs.Try.f36).body.getD .skip
abbrev p_msg_has_ks : List Kd := [.int .i64, .int .i32]
abbrev p_msg_has_rs : List Kd := [.bool]
noncomputable def p_msg_has (N : Nat) (x : Int × Int × Unit) : Option (Bool) :=
  if (x.1 = (1:Int)) then
    if ((107:Int) = x.2.1) then
      some true
    else
      if ((114:Int) = x.2.1) then
        some true
      else
        if ((100:Int) = x.2.1) then
          some true
        else
          if ((99:Int) = x.2.1) then
            some true
          else
            some false
  else
    if (x.1 = (2:Int)) then
      if ((107:Int) = x.2.1) then
        some true
      else
        if ((114:Int) = x.2.1) then
          some true
        else
          if ((99:Int) = x.2.1) then
            some true
          else
            if ((115:Int) = x.2.1) then
              some true
            else
              some false
    else
      if (x.1 = (3:Int)) then
        if ((112:Int) = x.2.1) then
          some true
        else
          if ((110:Int) = x.2.1) then
            some true
          else
            if ((100:Int) = x.2.1) then
              some true
            else
              some false
      else
        if (x.1 = (4:Int)) then
          if ((110:Int) = x.2.1) then
            some true
          else
            if ((100:Int) = x.2.1) then
              some true
            else
              some false
        else
          if (x.1 = (5:Int)) then
            if ((107:Int) = x.2.1) then
              some true
            else
              if ((114:Int) = x.2.1) then
                some true
              else
                if ((115:Int) = x.2.1) then
                  some true
                else
                  some false
          else
            if (x.1 = (6:Int)) then
              if ((107:Int) = x.2.1) then
                some true
              else
                if ((114:Int) = x.2.1) then
                  some true
                else
                  if ((115:Int) = x.2.1) then
                    some true
                  else
                    some false
            else
              some false
theorem p_msg_has_eq (N : Nat) (x : Ds [.int .i64, .int .i32]) : funL p_msg_has_E p_msg_has_H (LT.nil) N Go.Proofs.Try.f36 p_msg_has_c [.int .i64, .int .i32] [.bool] x = p_msg_has N x := by kernel_rfl
theorem p_msg_has_Eok : p_msg_has_E.Ok Go.Proofs.Try.prog := AE.ofI_ok (all_cons ty9_ok all_nil) all_nil all_nil (all_cons ⟨i_msg_Has_ok, enters_msg_Has⟩ all_nil) all_nil
theorem p_msg_has_ok {g : Ds [.int .i64, .int .i32] → Option (Rs [.bool])} (hg : ∀ x r, g x = some r → ∃ N, p_msg_has N x = some r) : SigOk Go.Proofs.Try.prog 36 ⟨[.int .i64, .int .i32], [.bool], g⟩ :=
  fun_of (E := p_msg_has_E) (H := p_msg_has_H) (L := fun N => LT.nil) (c := p_msg_has_c) (ks := p_msg_has_ks) (rs := p_msg_has_rs) (F := p_msg_has) (p_msg_has_Eok) mix Go.Proofs.Try.func36 (by kernel_rfl) (fun N => OkAll.nil) p_msg_has_eq hg

/-! livery/msg.device -/
noncomputable def p_msg_device_E : AE := AE.of [] []
noncomputable def p_msg_device_H : Hints := [(3000000, [2])]
noncomputable def p_msg_device_c : Code := (Go.Proofs.Try.f43).body.getD .skip
abbrev p_msg_device_ks : List Kd := [.int .i64]
abbrev p_msg_device_rs : List Kd := [.bool]
noncomputable def p_msg_device (N : Nat) (x : Int × Unit) : Option (Bool) :=
  if (x.1 ≥ (0:Int)) then
    some (decide (x.1 < (16:Int)))
  else
    some false
theorem p_msg_device_eq (N : Nat) (x : Ds [.int .i64]) : funL p_msg_device_E p_msg_device_H (LT.nil) N Go.Proofs.Try.f43 p_msg_device_c [.int .i64] [.bool] x = p_msg_device N x := by kernel_rfl
theorem p_msg_device_Eok : p_msg_device_E.Ok Go.Proofs.Try.prog := AE.of_ok all_nil all_nil
theorem p_msg_device_ok {g : Ds [.int .i64] → Option (Rs [.bool])} (hg : ∀ x r, g x = some r → ∃ N, p_msg_device N x = some r) : SigOk Go.Proofs.Try.prog 43 ⟨[.int .i64], [.bool], g⟩ :=
  fun_of (E := p_msg_device_E) (H := p_msg_device_H) (L := fun N => LT.nil) (c := p_msg_device_c) (ks := p_msg_device_ks) (rs := p_msg_device_rs) (F := p_msg_device) (p_msg_device_Eok) mix Go.Proofs.Try.func43 (by kernel_rfl) (fun N => OkAll.nil) p_msg_device_eq hg

/-! livery/msg.most -/
noncomputable def p_msg_most_E : AE := AE.of [] []
noncomputable def p_msg_most_H : Hints := [(3000000, [2])]
noncomputable def p_msg_most_c : Code := (Go.Proofs.Try.f47).body.getD .skip
abbrev p_msg_most_ks : List Kd := [.int .i64]
abbrev p_msg_most_rs : List Kd := [.int .i64]
noncomputable def p_msg_most (N : Nat) (x : Int × Unit) : Option (Int) :=
  if (x.1 = (1:Int)) then
    some (68:Int)
  else
    some (1024:Int)
theorem p_msg_most_eq (N : Nat) (x : Ds [.int .i64]) : funL p_msg_most_E p_msg_most_H (LT.nil) N Go.Proofs.Try.f47 p_msg_most_c [.int .i64] [.int .i64] x = p_msg_most N x := by kernel_rfl
theorem p_msg_most_Eok : p_msg_most_E.Ok Go.Proofs.Try.prog := AE.of_ok all_nil all_nil
theorem p_msg_most_ok {g : Ds [.int .i64] → Option (Rs [.int .i64])} (hg : ∀ x r, g x = some r → ∃ N, p_msg_most N x = some r) : SigOk Go.Proofs.Try.prog 47 ⟨[.int .i64], [.int .i64], g⟩ :=
  fun_of (E := p_msg_most_E) (H := p_msg_most_H) (L := fun N => LT.nil) (c := p_msg_most_c) (ks := p_msg_most_ks) (rs := p_msg_most_rs) (F := p_msg_most) (p_msg_most_Eok) mix Go.Proofs.Try.func47 (by kernel_rfl) (fun N => OkAll.nil) p_msg_most_eq hg

/-! livery/msg.within -/
noncomputable def p_msg_within_E : AE := AE.of [(29, ty29)] []
noncomputable def p_msg_within_H : Hints := [(3000000, [6])]
noncomputable def p_msg_within_c : Code := (Go.Proofs.Try.f46).body.getD .skip
abbrev p_msg_within_ks : List Kd := [.bool, .sl (.int .u8), .int .i64]
abbrev p_msg_within_rs : List Kd := [.bool]
noncomputable def p_msg_within (N : Nat) (x : Bool × List Int × Int × Unit) : Option (Bool) :=
  if (¬ (x.1 = true)) then
    some (decide ((((List.length x.2.1) : Nat) : Int) = (0:Int)))
  else
    if ((((List.length x.2.1) : Nat) : Int) ≥ (1:Int)) then
      some (decide ((((List.length x.2.1) : Nat) : Int) ≤ x.2.2.1))
    else
      some false
theorem p_msg_within_eq (N : Nat) (x : Ds [.bool, .sl (.int .u8), .int .i64]) : funL p_msg_within_E p_msg_within_H (LT.nil) N Go.Proofs.Try.f46 p_msg_within_c [.bool, .sl (.int .u8), .int .i64] [.bool] x = p_msg_within N x := by kernel_rfl
theorem p_msg_within_Eok : p_msg_within_E.Ok Go.Proofs.Try.prog := AE.of_ok (all_cons ty29_ok all_nil) all_nil
theorem p_msg_within_ok {g : Ds [.bool, .sl (.int .u8), .int .i64] → Option (Rs [.bool])} (hg : ∀ x r, g x = some r → ∃ N, p_msg_within N x = some r) : SigOk Go.Proofs.Try.prog 46 ⟨[.bool, .sl (.int .u8), .int .i64], [.bool], g⟩ :=
  fun_of (E := p_msg_within_E) (H := p_msg_within_H) (L := fun N => LT.nil) (c := p_msg_within_c) (ks := p_msg_within_ks) (rs := p_msg_within_rs) (F := p_msg_within) (p_msg_within_Eok) mix Go.Proofs.Try.func46 (by kernel_rfl) (fun N => OkAll.nil) p_msg_within_eq hg

/-! livery/msg.marked -/
noncomputable def p_msg_marked_E : AE := AE.of [(4, ty4), (29, ty29), (43, ty43)] [(40, ⟨[.sl (.int .u8)], [.sl .bool], g_octet_Bits⟩)]
noncomputable def p_msg_marked_H : Hints := [(4, [0, 14, 15, 16]), (2000000, []), (2000001, [0, 14, 15, 16]), (3000000, [4])]
noncomputable def p_msg_marked_c : Code := (Go.Proofs.Try.f48).body.getD .skip
noncomputable def p_msg_marked_l4_S : Shape where
  h := { tmps := [.sc (.int .i64), .any, .any, .any, .any, .any, .any, .any, .any, .any, .any, .any, .any, .any, .sc (.vec 0 none 1), .sc (.int .i64), .sc (.int .i64), .any, .any, .any, .any, .any, .any, .any, .any, .any, .any, .any], mem := [.live [.xs .bool none] (.own)] }
  ks := [.int, .nat, .int, .int, .nat, .xs]
  st := fun x => { tmps := [.one (.sc (.int .i64 x.1)), .one .any, .one .any, .one .any, .one .any, .one .any, .one .any, .one .any, .one .any, .one .any, .one .any, .one .any, .one .any, .one .any, .one (.sc (.vec 0 x.2.1 1)), .one (.sc (.int .i64 x.2.2.1)), .one (.sc (.int .i64 x.2.2.2.1)), .one .any, .one .any, .one .any, .one .any, .one .any, .one .any, .one .any, .one .any, .one .any, .one .any, .one .any], mem := [.live { segs := [.xs .bool x.2.2.2.2.1 x.2.2.2.2.2.1], own := .own }] }
noncomputable def p_msg_marked_l4_F (N : Nat) (β : Type) (x : (Int × Nat × Int × Int × Nat × List Int × Unit)) (kn : (Int × Nat × Int × Int × Nat × List Int × Unit) → Option β) (ke : ((Bool × Unit) ⊕ (Unit)) → Option β) : Option β :=
  if (x.2.2.2.1 < x.2.2.1) then
    if 0 ≤ x.2.2.2.1 then (
    if x.2.2.2.1 < ((x.2.1 : Nat) : Int) then (
    if (x.2.2.2.1.toNat) < x.2.2.2.2.1 then (
    if ((List.getD x.2.2.2.2.2.1 (x.2.2.2.1.toNat) 0) ≠ 0) then
      if (x.2.2.2.1 ≥ x.1) then
        ke (.inl (false, ()))
      else
        kn (x.1, x.2.1, x.2.2.1, (IntKind.i64.wrap (x.2.2.2.1 + (1:Int))), x.2.2.2.2.1, x.2.2.2.2.2.1, ())
    else
      kn (x.1, x.2.1, x.2.2.1, (IntKind.i64.wrap (x.2.2.2.1 + (1:Int))), x.2.2.2.2.1, x.2.2.2.2.2.1, ())) else none) else none) else none
  else
    ke (.inr (()))
noncomputable def p_msg_marked_l4_go : Go' ((Bool × Unit) ⊕ (Unit)) := fun y K => match y with
  | .inl y => K .ret { tmps := [.one .any, .one .any, .one .any, .one .any, .one (.sc (.known y.1)), .one .any, .one .any, .one .any, .one .any, .one .any, .one .any, .one .any, .one .any, .one .any, .one .any, .one .any, .one .any, .one .any, .one .any, .one .any, .one .any, .one .any, .one .any, .one .any, .one .any, .one .any, .one .any, .one .any], mem := [] }
  | .inr y => K (.exit 0) { tmps := [.one .any, .one .any, .one .any, .one .any, .one .any, .one .any, .one .any, .one .any, .one .any, .one .any, .one .any, .one .any, .one .any, .one .any, .one .any, .one .any, .one .any, .one .any, .one .any, .one .any, .one .any, .one .any, .one .any, .one .any, .one .any, .one .any, .one .any, .one .any], mem := [] }
noncomputable def p_msg_marked_l4_L (N : Nat) : LT := upd (LT.nil) 4 (loopE p_msg_marked_l4_S N (p_msg_marked_l4_F N) p_msg_marked_l4_go)
theorem p_msg_marked_l4_ok (N : Nat) : OkAll p_msg_marked_E p_msg_marked_H N (p_msg_marked_l4_L N) (subs p_msg_marked_c) :=
  addLoop (c := theLoop 4 p_msg_marked_c) (OkAll.nil) (by kernel_rfl) (fun x => by kernel_rfl) (fun β x kn ke => by kernel_rfl)
abbrev p_msg_marked_ks : List Kd := [.int .i64, .sl (.int .u8)]
abbrev p_msg_marked_rs : List Kd := [.bool]
noncomputable def p_msg_marked (N : Nat) (x : Int × List Int × Unit) : Option (Bool) :=
  if ((((List.length x.2.1) : Nat) : Int) ≠ (IntKind.i64.wrap (Int.tdiv (IntKind.i64.wrap (x.1 + (7:Int))) (8:Int)))) then
    some false
  else
    (g_octet_Bits (x.2.1, ())).bind fun r1 => (
    iter (p_msg_marked_l4_F N) N (x.1, (List.length r1), (((List.length r1) : Nat) : Int), (0:Int), (List.length r1), r1, ()) fun y => (match y with
    | .inl y2 => (
      some y2.1)
    | .inr y3 => (
      some true)))
theorem p_msg_marked_eq (N : Nat) (x : Ds [.int .i64, .sl (.int .u8)]) : funL p_msg_marked_E p_msg_marked_H (p_msg_marked_l4_L N) N Go.Proofs.Try.f48 p_msg_marked_c [.int .i64, .sl (.int .u8)] [.bool] x = p_msg_marked N x := by kernel_rfl
theorem p_msg_marked_Eok (he_octet_Bits : SigOk Go.Proofs.Try.prog 40 ⟨[.sl (.int .u8)], [.sl .bool], g_octet_Bits⟩) : p_msg_marked_E.Ok Go.Proofs.Try.prog := AE.of_ok (all_cons ty4_ok (all_cons ty29_ok (all_cons ty43_ok all_nil))) (all_cons ⟨he_octet_Bits, enters_octet_Bits⟩ all_nil)
theorem p_msg_marked_ok (he_octet_Bits : SigOk Go.Proofs.Try.prog 40 ⟨[.sl (.int .u8)], [.sl .bool], g_octet_Bits⟩) {g : Ds [.int .i64, .sl (.int .u8)] → Option (Rs [.bool])} (hg : ∀ x r, g x = some r → ∃ N, p_msg_marked N x = some r) : SigOk Go.Proofs.Try.prog 48 ⟨[.int .i64, .sl (.int .u8)], [.bool], g⟩ :=
  fun_of (E := p_msg_marked_E) (H := p_msg_marked_H) (L := fun N => p_msg_marked_l4_L N) (c := p_msg_marked_c) (ks := p_msg_marked_ks) (rs := p_msg_marked_rs) (F := p_msg_marked) (p_msg_marked_Eok he_octet_Bits) mix Go.Proofs.Try.func48 (by kernel_rfl) (fun N => p_msg_marked_l4_ok N) p_msg_marked_eq hg

/-! livery/msg.ranged -/
noncomputable def p_msg_ranged_E : AE := AE.ofQ [(3, ty3), (25, ty25), (26, ty26), (28, ty28), (31, ty31), (90, ty90)] [(36, ⟨[.int .i64, .int .i32], [.bool], g_msg_has⟩), (66, ⟨[.sla (.int .u64) 2], [.bool], g_span_May⟩)] [(28, .u64, 2)]
noncomputable def p_msg_ranged_H : Hints := [(3000000, [2])]
noncomputable def p_msg_ranged_c : Code := (Go.Proofs.Try.f44).body.getD .skip
abbrev p_msg_ranged_ks : List Kd := [.cat [.int .i64, .int .i64, .int .i64, .int .u32, .int .u32, .int .u64, .int .u64, .int .i64, .int .i64, .sl (.int .u8), .sl (.int .u8), .sl (.int .u8)]]
abbrev p_msg_ranged_rs : List Kd := [.bool]
noncomputable def p_msg_ranged (N : Nat) (x : (Int × Int × Int × Int × Int × Int × Int × Int × Int × List Int × List Int × List Int × Unit) × Unit) : Option (Bool) :=
  (g_msg_has (x.1.1, (114:Int), ())).bind fun r1 => (
  if (¬ (r1 = true)) then
    if ((x.1.2.2.2.2.2.1 :: (x.1.2.2.2.2.2.2.1 :: [])) = (List.replicate 2 0)) then
      some (decide (x.1.2.2.2.2.1 = (0:Int)))
    else
      some false
  else
    (g_span_May ((x.1.2.2.2.2.2.1 :: (x.1.2.2.2.2.2.2.1 :: [])), ())).bind fun r2 => (
    some (decide (r2 = true))))
theorem p_msg_ranged_eq (N : Nat) (x : Ds [.cat [.int .i64, .int .i64, .int .i64, .int .u32, .int .u32, .int .u64, .int .u64, .int .i64, .int .i64, .sl (.int .u8), .sl (.int .u8), .sl (.int .u8)]]) : funL p_msg_ranged_E p_msg_ranged_H (LT.nil) N Go.Proofs.Try.f44 p_msg_ranged_c [.cat [.int .i64, .int .i64, .int .i64, .int .u32, .int .u32, .int .u64, .int .u64, .int .i64, .int .i64, .sl (.int .u8), .sl (.int .u8), .sl (.int .u8)]] [.bool] x = p_msg_ranged N x := by kernel_rfl
theorem p_msg_ranged_Eok (he_msg_has : SigOk Go.Proofs.Try.prog 36 ⟨[.int .i64, .int .i32], [.bool], g_msg_has⟩) (he_span_May : SigOk Go.Proofs.Try.prog 66 ⟨[.sla (.int .u64) 2], [.bool], g_span_May⟩) : p_msg_ranged_E.Ok Go.Proofs.Try.prog := AE.ofQ_ok (all_cons ty3_ok (all_cons ty25_ok (all_cons ty26_ok (all_cons ty28_ok (all_cons ty31_ok (all_cons ty90_ok all_nil)))))) (all_cons ⟨he_msg_has, enters_msg_has⟩ (all_cons ⟨he_span_May, enters_span_May⟩ all_nil)) (all_cons steq28_ok all_nil)
theorem p_msg_ranged_ok (he_msg_has : SigOk Go.Proofs.Try.prog 36 ⟨[.int .i64, .int .i32], [.bool], g_msg_has⟩) (he_span_May : SigOk Go.Proofs.Try.prog 66 ⟨[.sla (.int .u64) 2], [.bool], g_span_May⟩) {g : Ds [.cat [.int .i64, .int .i64, .int .i64, .int .u32, .int .u32, .int .u64, .int .u64, .int .i64, .int .i64, .sl (.int .u8), .sl (.int .u8), .sl (.int .u8)]] → Option (Rs [.bool])} (hg : ∀ x r, g x = some r → ∃ N, p_msg_ranged N x = some r) : SigOk Go.Proofs.Try.prog 44 ⟨[.cat [.int .i64, .int .i64, .int .i64, .int .u32, .int .u32, .int .u64, .int .u64, .int .i64, .int .i64, .sl (.int .u8), .sl (.int .u8), .sl (.int .u8)]], [.bool], g⟩ :=
  fun_of (E := p_msg_ranged_E) (H := p_msg_ranged_H) (L := fun N => LT.nil) (c := p_msg_ranged_c) (ks := p_msg_ranged_ks) (rs := p_msg_ranged_rs) (F := p_msg_ranged) (p_msg_ranged_Eok he_msg_has he_span_May) mix Go.Proofs.Try.func44 (by kernel_rfl) (fun N => OkAll.nil) p_msg_ranged_eq hg

/-! livery/msg.parted -/
noncomputable def p_msg_parted_E : AE := AE.ofQ [(3, ty3), (4, ty4), (31, ty31)] [(36, ⟨[.int .i64, .int .i32], [.bool], g_msg_has⟩)] [(28, .u64, 2)]
noncomputable def p_msg_parted_H : Hints := [(3000000, [2])]
noncomputable def p_msg_parted_c : Code := (Go.Proofs.Try.f45).body.getD .skip
abbrev p_msg_parted_ks : List Kd := [.cat [.int .i64, .int .i64, .int .i64, .int .u32, .int .u32, .int .u64, .int .u64, .int .i64, .int .i64, .sl (.int .u8), .sl (.int .u8), .sl (.int .u8)]]
abbrev p_msg_parted_rs : List Kd := [.bool]
noncomputable def p_msg_parted (N : Nat) (x : (Int × Int × Int × Int × Int × Int × Int × Int × Int × List Int × List Int × List Int × Unit) × Unit) : Option (Bool) :=
  (g_msg_has (x.1.1, (110:Int), ())).bind fun r1 => (
  if ((decide (r1 = true)) ≠ (decide (x.1.2.2.2.2.2.2.2.2.1 ≠ (0:Int)))) then
    some false
  else
    if (x.1.2.2.2.2.2.2.2.2.1 < (0:Int)) then
      some false
    else
      if (x.1.2.2.2.2.2.2.2.2.1 > (256:Int)) then
        some false
      else
        (g_msg_has (x.1.1, (112:Int), ())).bind fun r2 => (
        if (¬ (r2 = true)) then
          some (decide (x.1.2.2.2.2.2.2.2.1 = (0:Int)))
        else
          if (x.1.2.2.2.2.2.2.2.1 ≥ (0:Int)) then
            some (decide (x.1.2.2.2.2.2.2.2.1 < x.1.2.2.2.2.2.2.2.2.1))
          else
            some false))
theorem p_msg_parted_eq (N : Nat) (x : Ds [.cat [.int .i64, .int .i64, .int .i64, .int .u32, .int .u32, .int .u64, .int .u64, .int .i64, .int .i64, .sl (.int .u8), .sl (.int .u8), .sl (.int .u8)]]) : funL p_msg_parted_E p_msg_parted_H (LT.nil) N Go.Proofs.Try.f45 p_msg_parted_c [.cat [.int .i64, .int .i64, .int .i64, .int .u32, .int .u32, .int .u64, .int .u64, .int .i64, .int .i64, .sl (.int .u8), .sl (.int .u8), .sl (.int .u8)]] [.bool] x = p_msg_parted N x := by kernel_rfl
theorem p_msg_parted_Eok (he_msg_has : SigOk Go.Proofs.Try.prog 36 ⟨[.int .i64, .int .i32], [.bool], g_msg_has⟩) : p_msg_parted_E.Ok Go.Proofs.Try.prog := AE.ofQ_ok (all_cons ty3_ok (all_cons ty4_ok (all_cons ty31_ok all_nil))) (all_cons ⟨he_msg_has, enters_msg_has⟩ all_nil) (all_cons steq28_ok all_nil)
theorem p_msg_parted_ok (he_msg_has : SigOk Go.Proofs.Try.prog 36 ⟨[.int .i64, .int .i32], [.bool], g_msg_has⟩) {g : Ds [.cat [.int .i64, .int .i64, .int .i64, .int .u32, .int .u32, .int .u64, .int .u64, .int .i64, .int .i64, .sl (.int .u8), .sl (.int .u8), .sl (.int .u8)]] → Option (Rs [.bool])} (hg : ∀ x r, g x = some r → ∃ N, p_msg_parted N x = some r) : SigOk Go.Proofs.Try.prog 45 ⟨[.cat [.int .i64, .int .i64, .int .i64, .int .u32, .int .u32, .int .u64, .int .u64, .int .i64, .int .i64, .sl (.int .u8), .sl (.int .u8), .sl (.int .u8)]], [.bool], g⟩ :=
  fun_of (E := p_msg_parted_E) (H := p_msg_parted_H) (L := fun N => LT.nil) (c := p_msg_parted_c) (ks := p_msg_parted_ks) (rs := p_msg_parted_rs) (F := p_msg_parted) (p_msg_parted_Eok he_msg_has) mix Go.Proofs.Try.func45 (by kernel_rfl) (fun N => OkAll.nil) p_msg_parted_eq hg

/-! livery/msg.Check -/
noncomputable def p_msg_Check_E : AE := AE.ofQ [(3, ty3), (29, ty29), (31, ty31)] [(14, ⟨[.int .i64], [.str], g_msg_Name⟩), (43, ⟨[.int .i64], [.bool], g_msg_device⟩), (44, ⟨[.cat [.int .i64, .int .i64, .int .i64, .int .u32, .int .u32, .int .u64, .int .u64, .int .i64, .int .i64, .sl (.int .u8), .sl (.int .u8), .sl (.int .u8)]], [.bool], g_msg_ranged⟩), (45, ⟨[.cat [.int .i64, .int .i64, .int .i64, .int .u32, .int .u32, .int .u64, .int .u64, .int .i64, .int .i64, .sl (.int .u8), .sl (.int .u8), .sl (.int .u8)]], [.bool], g_msg_parted⟩), (36, ⟨[.int .i64, .int .i32], [.bool], g_msg_has⟩), (47, ⟨[.int .i64], [.int .i64], g_msg_most⟩), (46, ⟨[.bool, .sl (.int .u8), .int .i64], [.bool], g_msg_within⟩), (48, ⟨[.int .i64, .sl (.int .u8)], [.bool], g_msg_marked⟩)] [(28, .u64, 2)]
noncomputable def p_msg_Check_H : Hints := [(3000000, [2])]
noncomputable def p_msg_Check_c : Code := (Go.Proofs.Try.f25).body.getD .skip
abbrev p_msg_Check_ks : List Kd := [.cat [.int .i64, .int .i64, .int .i64, .int .u32, .int .u32, .int .u64, .int .u64, .int .i64, .int .i64, .sl (.int .u8), .sl (.int .u8), .sl (.int .u8)]]
abbrev p_msg_Check_rs : List Kd := [.int .i64]
noncomputable def p_msg_Check (N : Nat) (x : (Int × Int × Int × Int × Int × Int × Int × Int × Int × List Int × List Int × List Int × Unit) × Unit) : Option (Int) :=
  (g_msg_Name (x.1.1, ())).bind fun r1 => (
  if (r1 = (⟨#[]⟩ : ByteArray)) then
    some (211:Int)
  else
    (g_msg_device (x.1.2.1, ())).bind fun r2 => (
    if (r2 = true) then
      (g_msg_device (x.1.2.2.1, ())).bind fun r3 => (
      if (r3 = true) then
        if (x.1.2.1 ≠ x.1.2.2.1) then
          (g_msg_ranged ((x.1.1, x.1.2.1, x.1.2.2.1, x.1.2.2.2.1, x.1.2.2.2.2.1, x.1.2.2.2.2.2.1, x.1.2.2.2.2.2.2.1, x.1.2.2.2.2.2.2.2.1, x.1.2.2.2.2.2.2.2.2.1, x.1.2.2.2.2.2.2.2.2.2.1, x.1.2.2.2.2.2.2.2.2.2.2.1, x.1.2.2.2.2.2.2.2.2.2.2.2.1, ()), ())).bind fun r4 => (
          if (r4 = true) then
            (g_msg_parted ((x.1.1, x.1.2.1, x.1.2.2.1, x.1.2.2.2.1, x.1.2.2.2.2.1, x.1.2.2.2.2.2.1, x.1.2.2.2.2.2.2.1, x.1.2.2.2.2.2.2.2.1, x.1.2.2.2.2.2.2.2.2.1, x.1.2.2.2.2.2.2.2.2.2.1, x.1.2.2.2.2.2.2.2.2.2.2.1, x.1.2.2.2.2.2.2.2.2.2.2.2.1, ()), ())).bind fun r5 => (
            if (r5 = true) then
              (g_msg_has (x.1.1, (100:Int), ())).bind fun r6 => (
              (g_msg_most (x.1.1, ())).bind fun r7 => (
              (g_msg_within ((decide (r6 = true)), x.1.2.2.2.2.2.2.2.2.2.1, r7, ())).bind fun r8 => (
              if (r8 = true) then
                (g_msg_has (x.1.1, (99:Int), ())).bind fun r9 => (
                (g_msg_within ((decide (r9 = true)), x.1.2.2.2.2.2.2.2.2.2.2.1, (6446:Int), ())).bind fun r10 => (
                if (r10 = true) then
                  (g_msg_has (x.1.1, (115:Int), ())).bind fun r11 => (
                  (g_msg_within ((decide (r11 = true)), x.1.2.2.2.2.2.2.2.2.2.2.2.1, (3309:Int), ())).bind fun r12 => (
                  if (¬ (r12 = true)) then
                    some (210:Int)
                  else
                    if (x.1.1 = (4:Int)) then
                      (g_msg_marked (x.1.2.2.2.2.2.2.2.2.1, x.1.2.2.2.2.2.2.2.2.2.1, ())).bind fun r13 => (
                      if (¬ (r13 = true)) then
                        some (210:Int)
                      else
                        some (0:Int))
                    else
                      some (0:Int)))
                else
                  some (210:Int)))
              else
                some (210:Int))))
            else
              some (210:Int))
          else
            some (210:Int))
        else
          some (210:Int)
      else
        some (210:Int))
    else
      some (210:Int)))
theorem p_msg_Check_eq (N : Nat) (x : Ds [.cat [.int .i64, .int .i64, .int .i64, .int .u32, .int .u32, .int .u64, .int .u64, .int .i64, .int .i64, .sl (.int .u8), .sl (.int .u8), .sl (.int .u8)]]) : funL p_msg_Check_E p_msg_Check_H (LT.nil) N Go.Proofs.Try.f25 p_msg_Check_c [.cat [.int .i64, .int .i64, .int .i64, .int .u32, .int .u32, .int .u64, .int .u64, .int .i64, .int .i64, .sl (.int .u8), .sl (.int .u8), .sl (.int .u8)]] [.int .i64] x = p_msg_Check N x := by kernel_rfl
theorem p_msg_Check_Eok (he_msg_Name : SigOk Go.Proofs.Try.prog 14 ⟨[.int .i64], [.str], g_msg_Name⟩) (he_msg_device : SigOk Go.Proofs.Try.prog 43 ⟨[.int .i64], [.bool], g_msg_device⟩) (he_msg_ranged : SigOk Go.Proofs.Try.prog 44 ⟨[.cat [.int .i64, .int .i64, .int .i64, .int .u32, .int .u32, .int .u64, .int .u64, .int .i64, .int .i64, .sl (.int .u8), .sl (.int .u8), .sl (.int .u8)]], [.bool], g_msg_ranged⟩) (he_msg_parted : SigOk Go.Proofs.Try.prog 45 ⟨[.cat [.int .i64, .int .i64, .int .i64, .int .u32, .int .u32, .int .u64, .int .u64, .int .i64, .int .i64, .sl (.int .u8), .sl (.int .u8), .sl (.int .u8)]], [.bool], g_msg_parted⟩) (he_msg_has : SigOk Go.Proofs.Try.prog 36 ⟨[.int .i64, .int .i32], [.bool], g_msg_has⟩) (he_msg_most : SigOk Go.Proofs.Try.prog 47 ⟨[.int .i64], [.int .i64], g_msg_most⟩) (he_msg_within : SigOk Go.Proofs.Try.prog 46 ⟨[.bool, .sl (.int .u8), .int .i64], [.bool], g_msg_within⟩) (he_msg_marked : SigOk Go.Proofs.Try.prog 48 ⟨[.int .i64, .sl (.int .u8)], [.bool], g_msg_marked⟩) : p_msg_Check_E.Ok Go.Proofs.Try.prog := AE.ofQ_ok (all_cons ty3_ok (all_cons ty29_ok (all_cons ty31_ok all_nil))) (all_cons ⟨he_msg_Name, enters_msg_Name⟩ (all_cons ⟨he_msg_device, enters_msg_device⟩ (all_cons ⟨he_msg_ranged, enters_msg_ranged⟩ (all_cons ⟨he_msg_parted, enters_msg_parted⟩ (all_cons ⟨he_msg_has, enters_msg_has⟩ (all_cons ⟨he_msg_most, enters_msg_most⟩ (all_cons ⟨he_msg_within, enters_msg_within⟩ (all_cons ⟨he_msg_marked, enters_msg_marked⟩ all_nil)))))))) (all_cons steq28_ok all_nil)
theorem p_msg_Check_ok (he_msg_Name : SigOk Go.Proofs.Try.prog 14 ⟨[.int .i64], [.str], g_msg_Name⟩) (he_msg_device : SigOk Go.Proofs.Try.prog 43 ⟨[.int .i64], [.bool], g_msg_device⟩) (he_msg_ranged : SigOk Go.Proofs.Try.prog 44 ⟨[.cat [.int .i64, .int .i64, .int .i64, .int .u32, .int .u32, .int .u64, .int .u64, .int .i64, .int .i64, .sl (.int .u8), .sl (.int .u8), .sl (.int .u8)]], [.bool], g_msg_ranged⟩) (he_msg_parted : SigOk Go.Proofs.Try.prog 45 ⟨[.cat [.int .i64, .int .i64, .int .i64, .int .u32, .int .u32, .int .u64, .int .u64, .int .i64, .int .i64, .sl (.int .u8), .sl (.int .u8), .sl (.int .u8)]], [.bool], g_msg_parted⟩) (he_msg_has : SigOk Go.Proofs.Try.prog 36 ⟨[.int .i64, .int .i32], [.bool], g_msg_has⟩) (he_msg_most : SigOk Go.Proofs.Try.prog 47 ⟨[.int .i64], [.int .i64], g_msg_most⟩) (he_msg_within : SigOk Go.Proofs.Try.prog 46 ⟨[.bool, .sl (.int .u8), .int .i64], [.bool], g_msg_within⟩) (he_msg_marked : SigOk Go.Proofs.Try.prog 48 ⟨[.int .i64, .sl (.int .u8)], [.bool], g_msg_marked⟩) {g : Ds [.cat [.int .i64, .int .i64, .int .i64, .int .u32, .int .u32, .int .u64, .int .u64, .int .i64, .int .i64, .sl (.int .u8), .sl (.int .u8), .sl (.int .u8)]] → Option (Rs [.int .i64])} (hg : ∀ x r, g x = some r → ∃ N, p_msg_Check N x = some r) : SigOk Go.Proofs.Try.prog 25 ⟨[.cat [.int .i64, .int .i64, .int .i64, .int .u32, .int .u32, .int .u64, .int .u64, .int .i64, .int .i64, .sl (.int .u8), .sl (.int .u8), .sl (.int .u8)]], [.int .i64], g⟩ :=
  fun_of (E := p_msg_Check_E) (H := p_msg_Check_H) (L := fun N => LT.nil) (c := p_msg_Check_c) (ks := p_msg_Check_ks) (rs := p_msg_Check_rs) (F := p_msg_Check) (p_msg_Check_Eok he_msg_Name he_msg_device he_msg_ranged he_msg_parted he_msg_has he_msg_most he_msg_within he_msg_marked) mix Go.Proofs.Try.func25 (by kernel_rfl) (fun N => OkAll.nil) p_msg_Check_eq hg

/-! livery/msg.form -/
noncomputable def p_msg_form_E : AE := AE.ofI [(3, ty3), (5, ty5), (29, ty29), (31, ty31), (42, ty42), (69, ty69), (73, ty73), (79, ty79), (81, ty81), (84, ty84)] [(62, ⟨[.int .u64, .int .i64], [.sl (.int .u8), .int .i64], g_octet_Big⟩), (61, ⟨[.int .u16], [.sl (.int .u8)], g_octet_U16⟩), (37, ⟨[.sls (.int .u8)], [.sl (.int .u8)], g_octet_Join⟩)] [(28, .u64, 2)] [(57, i_msg_fields), (63, i_msg_value), (90, i_msg_text_at), (91, i_msg_byteOf_at), (92, i_msg_word_at), (93, i_msg_long_at), (94, i_msg_short_at)] [19, 20, 28] [(3, 20)] [(81, "livery/msg.at", 90), (95, "livery/msg.at", 91), (98, "livery/msg.at", 92), (101, "livery/msg.at", 93), (102, "livery/msg.at", 94)]
noncomputable def p_msg_form_H : Hints := [(3000000, [4])]
noncomputable def p_msg_form_c : Code := (Go.Proofs.Try.f34).body.getD .skip
abbrev p_msg_form_ks : List Kd := [.cat [.int .i64, .int .i64, .int .i64, .int .u32, .int .u32, .int .u64, .int .u64, .int .i64, .int .i64, .sl (.int .u8), .sl (.int .u8), .sl (.int .u8)], .bool]
abbrev p_msg_form_rs : List Kd := [.sl (.int .u8)]
noncomputable def p_msg_form (N : Nat) (x : (Int × Int × Int × Int × Int × Int × Int × Int × Int × List Int × List Int × List Int × Unit) × Bool × Unit) : Option (List Int) :=
  if (x.1.1 = (1:Int)) then
    if (3 + 1) * 16 ≤ 140737488355328 then (
    if (4 + 2) * 16 ≤ 140737488355328 then (
    if (6 + 1) * 16 ≤ 140737488355328 then (
    if (7 + 1) * 16 ≤ 140737488355328 then (
    (g_octet_Big ((IntKind.u64.wrap x.1.2.1), (1:Int), ())).bind fun r1 => (
    if (1 + (List.length r1.1)) * 1 ≤ 140737488355328 then (
    (g_octet_Big ((IntKind.u64.wrap x.1.2.2.1), (1:Int), ())).bind fun r2 => (
    if ((1 + (List.length r1.1)) + (List.length r2.1)) * 1 ≤ 140737488355328 then (
    (g_octet_Big ((IntKind.u64.wrap x.1.2.2.2.1), (4:Int), ())).bind fun r3 => (
    if (((1 + (List.length r1.1)) + (List.length r2.1)) + (List.length r3.1)) * 1 ≤ 140737488355328 then (
    (g_octet_Big ((IntKind.u64.wrap x.1.2.2.2.2.1), (4:Int), ())).bind fun r4 => (
    if ((((1 + (List.length r1.1)) + (List.length r2.1)) + (List.length r3.1)) + (List.length r4.1)) * 1 ≤ 140737488355328 then (
    (g_octet_Big (x.1.2.2.2.2.2.1, (8:Int), ())).bind fun r5 => (
    if (((((1 + (List.length r1.1)) + (List.length r2.1)) + (List.length r3.1)) + (List.length r4.1)) + (List.length r5.1)) * 1 ≤ 140737488355328 then (
    (g_octet_Big (x.1.2.2.2.2.2.2.1, (8:Int), ())).bind fun r6 => (
    if ((((((1 + (List.length r1.1)) + (List.length r2.1)) + (List.length r3.1)) + (List.length r4.1)) + (List.length r5.1)) + (List.length r6.1)) * 1 ≤ 140737488355328 then (
    (g_octet_U16 ((IntKind.u16.wrap ((List.length x.1.2.2.2.2.2.2.2.2.2.1 : Nat) : Int)), ())).bind fun r7 => (
    (g_octet_Join ([(((((((List.set (List.replicate 1 0) 0 (IntKind.u8.wrap x.1.1)) ++ r1.1) ++ r2.1) ++ r3.1) ++ r4.1) ++ r5.1) ++ r6.1), r7, x.1.2.2.2.2.2.2.2.2.2.1], ())).bind fun r8 => (
    (g_octet_U16 ((IntKind.u16.wrap ((List.length x.1.2.2.2.2.2.2.2.2.2.2.1 : Nat) : Int)), ())).bind fun r9 => (
    (g_octet_Join ([r8, r9, x.1.2.2.2.2.2.2.2.2.2.2.1], ())).bind fun r10 => (
    some r10))))) else none)) else none)) else none)) else none)) else none)) else none)) else none) else none) else none) else none
  else
    if (x.1.1 = (2:Int)) then
      if (3 + 1) * 16 ≤ 140737488355328 then (
      if (4 + 2) * 16 ≤ 140737488355328 then (
      if (6 + 1) * 16 ≤ 140737488355328 then (
      if (x.2.1 = true) then
        if (7 + 1) * 16 ≤ 140737488355328 then (
        (g_octet_Big ((IntKind.u64.wrap x.1.2.1), (1:Int), ())).bind fun r11 => (
        if (1 + (List.length r11.1)) * 1 ≤ 140737488355328 then (
        (g_octet_Big ((IntKind.u64.wrap x.1.2.2.1), (1:Int), ())).bind fun r12 => (
        if ((1 + (List.length r11.1)) + (List.length r12.1)) * 1 ≤ 140737488355328 then (
        (g_octet_Big ((IntKind.u64.wrap x.1.2.2.2.1), (4:Int), ())).bind fun r13 => (
        if (((1 + (List.length r11.1)) + (List.length r12.1)) + (List.length r13.1)) * 1 ≤ 140737488355328 then (
        (g_octet_Big ((IntKind.u64.wrap x.1.2.2.2.2.1), (4:Int), ())).bind fun r14 => (
        if ((((1 + (List.length r11.1)) + (List.length r12.1)) + (List.length r13.1)) + (List.length r14.1)) * 1 ≤ 140737488355328 then (
        (g_octet_Big (x.1.2.2.2.2.2.1, (8:Int), ())).bind fun r15 => (
        if (((((1 + (List.length r11.1)) + (List.length r12.1)) + (List.length r13.1)) + (List.length r14.1)) + (List.length r15.1)) * 1 ≤ 140737488355328 then (
        (g_octet_Big (x.1.2.2.2.2.2.2.1, (8:Int), ())).bind fun r16 => (
        if ((((((1 + (List.length r11.1)) + (List.length r12.1)) + (List.length r13.1)) + (List.length r14.1)) + (List.length r15.1)) + (List.length r16.1)) * 1 ≤ 140737488355328 then (
        (g_octet_U16 ((IntKind.u16.wrap ((List.length x.1.2.2.2.2.2.2.2.2.2.2.1 : Nat) : Int)), ())).bind fun r17 => (
        (g_octet_Join ([(((((((List.set (List.replicate 1 0) 0 (IntKind.u8.wrap x.1.1)) ++ r11.1) ++ r12.1) ++ r13.1) ++ r14.1) ++ r15.1) ++ r16.1), r17, x.1.2.2.2.2.2.2.2.2.2.2.1], ())).bind fun r18 => (
        (g_octet_U16 ((IntKind.u16.wrap ((List.length x.1.2.2.2.2.2.2.2.2.2.2.2.1 : Nat) : Int)), ())).bind fun r19 => (
        (g_octet_Join ([r18, r19, x.1.2.2.2.2.2.2.2.2.2.2.2.1], ())).bind fun r20 => (
        some r20))))) else none)) else none)) else none)) else none)) else none)) else none)) else none
      else
        (g_octet_Big ((IntKind.u64.wrap x.1.2.1), (1:Int), ())).bind fun r21 => (
        if (1 + (List.length r21.1)) * 1 ≤ 140737488355328 then (
        (g_octet_Big ((IntKind.u64.wrap x.1.2.2.1), (1:Int), ())).bind fun r22 => (
        if ((1 + (List.length r21.1)) + (List.length r22.1)) * 1 ≤ 140737488355328 then (
        (g_octet_Big ((IntKind.u64.wrap x.1.2.2.2.1), (4:Int), ())).bind fun r23 => (
        if (((1 + (List.length r21.1)) + (List.length r22.1)) + (List.length r23.1)) * 1 ≤ 140737488355328 then (
        (g_octet_Big ((IntKind.u64.wrap x.1.2.2.2.2.1), (4:Int), ())).bind fun r24 => (
        if ((((1 + (List.length r21.1)) + (List.length r22.1)) + (List.length r23.1)) + (List.length r24.1)) * 1 ≤ 140737488355328 then (
        (g_octet_Big (x.1.2.2.2.2.2.1, (8:Int), ())).bind fun r25 => (
        if (((((1 + (List.length r21.1)) + (List.length r22.1)) + (List.length r23.1)) + (List.length r24.1)) + (List.length r25.1)) * 1 ≤ 140737488355328 then (
        (g_octet_Big (x.1.2.2.2.2.2.2.1, (8:Int), ())).bind fun r26 => (
        if ((((((1 + (List.length r21.1)) + (List.length r22.1)) + (List.length r23.1)) + (List.length r24.1)) + (List.length r25.1)) + (List.length r26.1)) * 1 ≤ 140737488355328 then (
        (g_octet_U16 ((IntKind.u16.wrap ((List.length x.1.2.2.2.2.2.2.2.2.2.2.1 : Nat) : Int)), ())).bind fun r27 => (
        (g_octet_Join ([(((((((List.set (List.replicate 1 0) 0 (IntKind.u8.wrap x.1.1)) ++ r21.1) ++ r22.1) ++ r23.1) ++ r24.1) ++ r25.1) ++ r26.1), r27, x.1.2.2.2.2.2.2.2.2.2.2.1], ())).bind fun r28 => (
        some r28))) else none)) else none)) else none)) else none)) else none)) else none)) else none) else none) else none
    else
      if (x.1.1 = (3:Int)) then
        if (3 + 1) * 16 ≤ 140737488355328 then (
        if (4 + 1) * 16 ≤ 140737488355328 then (
        if (5 + 1) * 16 ≤ 140737488355328 then (
        (g_octet_Big ((IntKind.u64.wrap x.1.2.1), (1:Int), ())).bind fun r29 => (
        if (1 + (List.length r29.1)) * 1 ≤ 140737488355328 then (
        (g_octet_Big ((IntKind.u64.wrap x.1.2.2.1), (1:Int), ())).bind fun r30 => (
        if ((1 + (List.length r29.1)) + (List.length r30.1)) * 1 ≤ 140737488355328 then (
        (g_octet_Big ((IntKind.u64.wrap x.1.2.2.2.1), (4:Int), ())).bind fun r31 => (
        if (((1 + (List.length r29.1)) + (List.length r30.1)) + (List.length r31.1)) * 1 ≤ 140737488355328 then (
        (g_octet_Big ((IntKind.u64.wrap x.1.2.2.2.2.2.2.2.1), (2:Int), ())).bind fun r32 => (
        if ((((1 + (List.length r29.1)) + (List.length r30.1)) + (List.length r31.1)) + (List.length r32.1)) * 1 ≤ 140737488355328 then (
        (g_octet_Big ((IntKind.u64.wrap x.1.2.2.2.2.2.2.2.2.1), (2:Int), ())).bind fun r33 => (
        if (((((1 + (List.length r29.1)) + (List.length r30.1)) + (List.length r31.1)) + (List.length r32.1)) + (List.length r33.1)) * 1 ≤ 140737488355328 then (
        (g_octet_U16 ((IntKind.u16.wrap ((List.length x.1.2.2.2.2.2.2.2.2.2.1 : Nat) : Int)), ())).bind fun r34 => (
        (g_octet_Join ([((((((List.set (List.replicate 1 0) 0 (IntKind.u8.wrap x.1.1)) ++ r29.1) ++ r30.1) ++ r31.1) ++ r32.1) ++ r33.1), r34, x.1.2.2.2.2.2.2.2.2.2.1], ())).bind fun r35 => (
        some r35))) else none)) else none)) else none)) else none)) else none)) else none) else none) else none
      else
        if (x.1.1 = (4:Int)) then
          if (3 + 1) * 16 ≤ 140737488355328 then (
          if (4 + 1) * 16 ≤ 140737488355328 then (
          (g_octet_Big ((IntKind.u64.wrap x.1.2.1), (1:Int), ())).bind fun r36 => (
          if (1 + (List.length r36.1)) * 1 ≤ 140737488355328 then (
          (g_octet_Big ((IntKind.u64.wrap x.1.2.2.1), (1:Int), ())).bind fun r37 => (
          if ((1 + (List.length r36.1)) + (List.length r37.1)) * 1 ≤ 140737488355328 then (
          (g_octet_Big ((IntKind.u64.wrap x.1.2.2.2.1), (4:Int), ())).bind fun r38 => (
          if (((1 + (List.length r36.1)) + (List.length r37.1)) + (List.length r38.1)) * 1 ≤ 140737488355328 then (
          (g_octet_Big ((IntKind.u64.wrap x.1.2.2.2.2.2.2.2.2.1), (2:Int), ())).bind fun r39 => (
          if ((((1 + (List.length r36.1)) + (List.length r37.1)) + (List.length r38.1)) + (List.length r39.1)) * 1 ≤ 140737488355328 then (
          (g_octet_U16 ((IntKind.u16.wrap ((List.length x.1.2.2.2.2.2.2.2.2.2.1 : Nat) : Int)), ())).bind fun r40 => (
          (g_octet_Join ([(((((List.set (List.replicate 1 0) 0 (IntKind.u8.wrap x.1.1)) ++ r36.1) ++ r37.1) ++ r38.1) ++ r39.1), r40, x.1.2.2.2.2.2.2.2.2.2.1], ())).bind fun r41 => (
          some r41))) else none)) else none)) else none)) else none)) else none) else none
        else
          if (x.1.1 = (5:Int)) then
            if (3 + 1) * 16 ≤ 140737488355328 then (
            if (4 + 2) * 16 ≤ 140737488355328 then (
            if (x.2.1 = true) then
              if (6 + 1) * 16 ≤ 140737488355328 then (
              (g_octet_Big ((IntKind.u64.wrap x.1.2.1), (1:Int), ())).bind fun r42 => (
              if (1 + (List.length r42.1)) * 1 ≤ 140737488355328 then (
              (g_octet_Big ((IntKind.u64.wrap x.1.2.2.1), (1:Int), ())).bind fun r43 => (
              if ((1 + (List.length r42.1)) + (List.length r43.1)) * 1 ≤ 140737488355328 then (
              (g_octet_Big ((IntKind.u64.wrap x.1.2.2.2.1), (4:Int), ())).bind fun r44 => (
              if (((1 + (List.length r42.1)) + (List.length r43.1)) + (List.length r44.1)) * 1 ≤ 140737488355328 then (
              (g_octet_Big ((IntKind.u64.wrap x.1.2.2.2.2.1), (4:Int), ())).bind fun r45 => (
              if ((((1 + (List.length r42.1)) + (List.length r43.1)) + (List.length r44.1)) + (List.length r45.1)) * 1 ≤ 140737488355328 then (
              (g_octet_Big (x.1.2.2.2.2.2.1, (8:Int), ())).bind fun r46 => (
              if (((((1 + (List.length r42.1)) + (List.length r43.1)) + (List.length r44.1)) + (List.length r45.1)) + (List.length r46.1)) * 1 ≤ 140737488355328 then (
              (g_octet_Big (x.1.2.2.2.2.2.2.1, (8:Int), ())).bind fun r47 => (
              if ((((((1 + (List.length r42.1)) + (List.length r43.1)) + (List.length r44.1)) + (List.length r45.1)) + (List.length r46.1)) + (List.length r47.1)) * 1 ≤ 140737488355328 then (
              (g_octet_U16 ((IntKind.u16.wrap ((List.length x.1.2.2.2.2.2.2.2.2.2.2.2.1 : Nat) : Int)), ())).bind fun r48 => (
              (g_octet_Join ([(((((((List.set (List.replicate 1 0) 0 (IntKind.u8.wrap x.1.1)) ++ r42.1) ++ r43.1) ++ r44.1) ++ r45.1) ++ r46.1) ++ r47.1), r48, x.1.2.2.2.2.2.2.2.2.2.2.2.1], ())).bind fun r49 => (
              some r49))) else none)) else none)) else none)) else none)) else none)) else none)) else none
            else
              (g_octet_Big ((IntKind.u64.wrap x.1.2.1), (1:Int), ())).bind fun r50 => (
              if (1 + (List.length r50.1)) * 1 ≤ 140737488355328 then (
              (g_octet_Big ((IntKind.u64.wrap x.1.2.2.1), (1:Int), ())).bind fun r51 => (
              if ((1 + (List.length r50.1)) + (List.length r51.1)) * 1 ≤ 140737488355328 then (
              (g_octet_Big ((IntKind.u64.wrap x.1.2.2.2.1), (4:Int), ())).bind fun r52 => (
              if (((1 + (List.length r50.1)) + (List.length r51.1)) + (List.length r52.1)) * 1 ≤ 140737488355328 then (
              (g_octet_Big ((IntKind.u64.wrap x.1.2.2.2.2.1), (4:Int), ())).bind fun r53 => (
              if ((((1 + (List.length r50.1)) + (List.length r51.1)) + (List.length r52.1)) + (List.length r53.1)) * 1 ≤ 140737488355328 then (
              (g_octet_Big (x.1.2.2.2.2.2.1, (8:Int), ())).bind fun r54 => (
              if (((((1 + (List.length r50.1)) + (List.length r51.1)) + (List.length r52.1)) + (List.length r53.1)) + (List.length r54.1)) * 1 ≤ 140737488355328 then (
              (g_octet_Big (x.1.2.2.2.2.2.2.1, (8:Int), ())).bind fun r55 => (
              if ((((((1 + (List.length r50.1)) + (List.length r51.1)) + (List.length r52.1)) + (List.length r53.1)) + (List.length r54.1)) + (List.length r55.1)) * 1 ≤ 140737488355328 then (
              some (((((((List.set (List.replicate 1 0) 0 (IntKind.u8.wrap x.1.1)) ++ r50.1) ++ r51.1) ++ r52.1) ++ r53.1) ++ r54.1) ++ r55.1)) else none)) else none)) else none)) else none)) else none)) else none)) else none) else none
          else
            if (x.1.1 = (6:Int)) then
              if (3 + 1) * 16 ≤ 140737488355328 then (
              if (4 + 2) * 16 ≤ 140737488355328 then (
              if (x.2.1 = true) then
                if (6 + 1) * 16 ≤ 140737488355328 then (
                (g_octet_Big ((IntKind.u64.wrap x.1.2.1), (1:Int), ())).bind fun r56 => (
                if (1 + (List.length r56.1)) * 1 ≤ 140737488355328 then (
                (g_octet_Big ((IntKind.u64.wrap x.1.2.2.1), (1:Int), ())).bind fun r57 => (
                if ((1 + (List.length r56.1)) + (List.length r57.1)) * 1 ≤ 140737488355328 then (
                (g_octet_Big ((IntKind.u64.wrap x.1.2.2.2.1), (4:Int), ())).bind fun r58 => (
                if (((1 + (List.length r56.1)) + (List.length r57.1)) + (List.length r58.1)) * 1 ≤ 140737488355328 then (
                (g_octet_Big ((IntKind.u64.wrap x.1.2.2.2.2.1), (4:Int), ())).bind fun r59 => (
                if ((((1 + (List.length r56.1)) + (List.length r57.1)) + (List.length r58.1)) + (List.length r59.1)) * 1 ≤ 140737488355328 then (
                (g_octet_Big (x.1.2.2.2.2.2.1, (8:Int), ())).bind fun r60 => (
                if (((((1 + (List.length r56.1)) + (List.length r57.1)) + (List.length r58.1)) + (List.length r59.1)) + (List.length r60.1)) * 1 ≤ 140737488355328 then (
                (g_octet_Big (x.1.2.2.2.2.2.2.1, (8:Int), ())).bind fun r61 => (
                if ((((((1 + (List.length r56.1)) + (List.length r57.1)) + (List.length r58.1)) + (List.length r59.1)) + (List.length r60.1)) + (List.length r61.1)) * 1 ≤ 140737488355328 then (
                (g_octet_U16 ((IntKind.u16.wrap ((List.length x.1.2.2.2.2.2.2.2.2.2.2.2.1 : Nat) : Int)), ())).bind fun r62 => (
                (g_octet_Join ([(((((((List.set (List.replicate 1 0) 0 (IntKind.u8.wrap x.1.1)) ++ r56.1) ++ r57.1) ++ r58.1) ++ r59.1) ++ r60.1) ++ r61.1), r62, x.1.2.2.2.2.2.2.2.2.2.2.2.1], ())).bind fun r63 => (
                some r63))) else none)) else none)) else none)) else none)) else none)) else none)) else none
              else
                (g_octet_Big ((IntKind.u64.wrap x.1.2.1), (1:Int), ())).bind fun r64 => (
                if (1 + (List.length r64.1)) * 1 ≤ 140737488355328 then (
                (g_octet_Big ((IntKind.u64.wrap x.1.2.2.1), (1:Int), ())).bind fun r65 => (
                if ((1 + (List.length r64.1)) + (List.length r65.1)) * 1 ≤ 140737488355328 then (
                (g_octet_Big ((IntKind.u64.wrap x.1.2.2.2.1), (4:Int), ())).bind fun r66 => (
                if (((1 + (List.length r64.1)) + (List.length r65.1)) + (List.length r66.1)) * 1 ≤ 140737488355328 then (
                (g_octet_Big ((IntKind.u64.wrap x.1.2.2.2.2.1), (4:Int), ())).bind fun r67 => (
                if ((((1 + (List.length r64.1)) + (List.length r65.1)) + (List.length r66.1)) + (List.length r67.1)) * 1 ≤ 140737488355328 then (
                (g_octet_Big (x.1.2.2.2.2.2.1, (8:Int), ())).bind fun r68 => (
                if (((((1 + (List.length r64.1)) + (List.length r65.1)) + (List.length r66.1)) + (List.length r67.1)) + (List.length r68.1)) * 1 ≤ 140737488355328 then (
                (g_octet_Big (x.1.2.2.2.2.2.2.1, (8:Int), ())).bind fun r69 => (
                if ((((((1 + (List.length r64.1)) + (List.length r65.1)) + (List.length r66.1)) + (List.length r67.1)) + (List.length r68.1)) + (List.length r69.1)) * 1 ≤ 140737488355328 then (
                some (((((((List.set (List.replicate 1 0) 0 (IntKind.u8.wrap x.1.1)) ++ r64.1) ++ r65.1) ++ r66.1) ++ r67.1) ++ r68.1) ++ r69.1)) else none)) else none)) else none)) else none)) else none)) else none)) else none) else none
            else
              (g_octet_Big ((IntKind.u64.wrap x.1.2.1), (1:Int), ())).bind fun r70 => (
              if (1 + (List.length r70.1)) * 1 ≤ 140737488355328 then (
              (g_octet_Big ((IntKind.u64.wrap x.1.2.2.1), (1:Int), ())).bind fun r71 => (
              if ((1 + (List.length r70.1)) + (List.length r71.1)) * 1 ≤ 140737488355328 then (
              (g_octet_Big ((IntKind.u64.wrap x.1.2.2.2.1), (4:Int), ())).bind fun r72 => (
              if (((1 + (List.length r70.1)) + (List.length r71.1)) + (List.length r72.1)) * 1 ≤ 140737488355328 then (
              some ((((List.set (List.replicate 1 0) 0 (IntKind.u8.wrap x.1.1)) ++ r70.1) ++ r71.1) ++ r72.1)) else none)) else none)) else none)
theorem p_msg_form_eq (N : Nat) (x : Ds [.cat [.int .i64, .int .i64, .int .i64, .int .u32, .int .u32, .int .u64, .int .u64, .int .i64, .int .i64, .sl (.int .u8), .sl (.int .u8), .sl (.int .u8)], .bool]) : funL p_msg_form_E p_msg_form_H (LT.nil) N Go.Proofs.Try.f34 p_msg_form_c [.cat [.int .i64, .int .i64, .int .i64, .int .u32, .int .u32, .int .u64, .int .u64, .int .i64, .int .i64, .sl (.int .u8), .sl (.int .u8), .sl (.int .u8)], .bool] [.sl (.int .u8)] x = p_msg_form N x := by kernel_rfl
theorem p_msg_form_Eok (he_octet_Big : SigOk Go.Proofs.Try.prog 62 ⟨[.int .u64, .int .i64], [.sl (.int .u8), .int .i64], g_octet_Big⟩) (he_octet_U16 : SigOk Go.Proofs.Try.prog 61 ⟨[.int .u16], [.sl (.int .u8)], g_octet_U16⟩) (he_octet_Join : SigOk Go.Proofs.Try.prog 37 ⟨[.sls (.int .u8)], [.sl (.int .u8)], g_octet_Join⟩) : p_msg_form_E.Ok Go.Proofs.Try.prog := AE.ofI_ok (all_cons ty3_ok (all_cons ty5_ok (all_cons ty29_ok (all_cons ty31_ok (all_cons ty42_ok (all_cons ty69_ok (all_cons ty73_ok (all_cons ty79_ok (all_cons ty81_ok (all_cons ty84_ok all_nil)))))))))) (all_cons ⟨he_octet_Big, enters_octet_Big⟩ (all_cons ⟨he_octet_U16, enters_octet_U16⟩ (all_cons ⟨he_octet_Join, enters_octet_Join⟩ all_nil))) (all_cons steq28_ok all_nil) (all_cons ⟨i_msg_fields_ok, enters_msg_fields⟩ (all_cons ⟨i_msg_value_ok, enters_msg_value⟩ (all_cons ⟨i_msg_text_at_ok, enters_msg_text_at⟩ (all_cons ⟨i_msg_byteOf_at_ok, enters_msg_byteOf_at⟩ (all_cons ⟨i_msg_word_at_ok, enters_msg_word_at⟩ (all_cons ⟨i_msg_long_at_ok, enters_msg_long_at⟩ (all_cons ⟨i_msg_short_at_ok, enters_msg_short_at⟩ all_nil))))))) (all_cons m81_ok (all_cons m95_ok (all_cons m98_ok (all_cons m101_ok (all_cons m102_ok all_nil)))))
theorem p_msg_form_ok (he_octet_Big : SigOk Go.Proofs.Try.prog 62 ⟨[.int .u64, .int .i64], [.sl (.int .u8), .int .i64], g_octet_Big⟩) (he_octet_U16 : SigOk Go.Proofs.Try.prog 61 ⟨[.int .u16], [.sl (.int .u8)], g_octet_U16⟩) (he_octet_Join : SigOk Go.Proofs.Try.prog 37 ⟨[.sls (.int .u8)], [.sl (.int .u8)], g_octet_Join⟩) {g : Ds [.cat [.int .i64, .int .i64, .int .i64, .int .u32, .int .u32, .int .u64, .int .u64, .int .i64, .int .i64, .sl (.int .u8), .sl (.int .u8), .sl (.int .u8)], .bool] → Option (Rs [.sl (.int .u8)])} (hg : ∀ x r, g x = some r → ∃ N, p_msg_form N x = some r) : SigOk Go.Proofs.Try.prog 34 ⟨[.cat [.int .i64, .int .i64, .int .i64, .int .u32, .int .u32, .int .u64, .int .u64, .int .i64, .int .i64, .sl (.int .u8), .sl (.int .u8), .sl (.int .u8)], .bool], [.sl (.int .u8)], g⟩ :=
  fun_of (E := p_msg_form_E) (H := p_msg_form_H) (L := fun N => LT.nil) (c := p_msg_form_c) (ks := p_msg_form_ks) (rs := p_msg_form_rs) (F := p_msg_form) (p_msg_form_Eok he_octet_Big he_octet_U16 he_octet_Join) mix Go.Proofs.Try.func34 (by kernel_rfl) (fun N => OkAll.nil) p_msg_form_eq hg

/-! livery/msg.Put -/
noncomputable def p_msg_Put_E : AE := AE.ofQ [(31, ty31)] [(25, ⟨[.cat [.int .i64, .int .i64, .int .i64, .int .u32, .int .u32, .int .u64, .int .u64, .int .i64, .int .i64, .sl (.int .u8), .sl (.int .u8), .sl (.int .u8)]], [.int .i64], g_msg_Check⟩), (34, ⟨[.cat [.int .i64, .int .i64, .int .i64, .int .u32, .int .u32, .int .u64, .int .u64, .int .i64, .int .i64, .sl (.int .u8), .sl (.int .u8), .sl (.int .u8)], .bool], [.sl (.int .u8)], g_msg_form⟩)] [(28, .u64, 2)]
noncomputable def p_msg_Put_H : Hints := [(3000000, [2, 3])]
noncomputable def p_msg_Put_c : Code := (Go.Proofs.Try.f17).body.getD .skip
abbrev p_msg_Put_ks : List Kd := [.cat [.int .i64, .int .i64, .int .i64, .int .u32, .int .u32, .int .u64, .int .u64, .int .i64, .int .i64, .sl (.int .u8), .sl (.int .u8), .sl (.int .u8)]]
abbrev p_msg_Put_rs : List Kd := [.sl (.int .u8), .int .i64]
noncomputable def p_msg_Put (N : Nat) (x : (Int × Int × Int × Int × Int × Int × Int × Int × Int × List Int × List Int × List Int × Unit) × Unit) : Option (List Int × Int) :=
  (g_msg_Check ((x.1.1, x.1.2.1, x.1.2.2.1, x.1.2.2.2.1, x.1.2.2.2.2.1, x.1.2.2.2.2.2.1, x.1.2.2.2.2.2.2.1, x.1.2.2.2.2.2.2.2.1, x.1.2.2.2.2.2.2.2.2.1, x.1.2.2.2.2.2.2.2.2.2.1, x.1.2.2.2.2.2.2.2.2.2.2.1, x.1.2.2.2.2.2.2.2.2.2.2.2.1, ()), ())).bind fun r1 => (
  if (r1 ≠ (0:Int)) then
    some ([], r1)
  else
    (g_msg_form ((x.1.1, x.1.2.1, x.1.2.2.1, x.1.2.2.2.1, x.1.2.2.2.2.1, x.1.2.2.2.2.2.1, x.1.2.2.2.2.2.2.1, x.1.2.2.2.2.2.2.2.1, x.1.2.2.2.2.2.2.2.2.1, x.1.2.2.2.2.2.2.2.2.2.1, x.1.2.2.2.2.2.2.2.2.2.2.1, x.1.2.2.2.2.2.2.2.2.2.2.2.1, ()), true, ())).bind fun r2 => (
    some (r2, (0:Int))))
theorem p_msg_Put_eq (N : Nat) (x : Ds [.cat [.int .i64, .int .i64, .int .i64, .int .u32, .int .u32, .int .u64, .int .u64, .int .i64, .int .i64, .sl (.int .u8), .sl (.int .u8), .sl (.int .u8)]]) : funL p_msg_Put_E p_msg_Put_H (LT.nil) N Go.Proofs.Try.f17 p_msg_Put_c [.cat [.int .i64, .int .i64, .int .i64, .int .u32, .int .u32, .int .u64, .int .u64, .int .i64, .int .i64, .sl (.int .u8), .sl (.int .u8), .sl (.int .u8)]] [.sl (.int .u8), .int .i64] x = p_msg_Put N x := by kernel_rfl
theorem p_msg_Put_Eok (he_msg_Check : SigOk Go.Proofs.Try.prog 25 ⟨[.cat [.int .i64, .int .i64, .int .i64, .int .u32, .int .u32, .int .u64, .int .u64, .int .i64, .int .i64, .sl (.int .u8), .sl (.int .u8), .sl (.int .u8)]], [.int .i64], g_msg_Check⟩) (he_msg_form : SigOk Go.Proofs.Try.prog 34 ⟨[.cat [.int .i64, .int .i64, .int .i64, .int .u32, .int .u32, .int .u64, .int .u64, .int .i64, .int .i64, .sl (.int .u8), .sl (.int .u8), .sl (.int .u8)], .bool], [.sl (.int .u8)], g_msg_form⟩) : p_msg_Put_E.Ok Go.Proofs.Try.prog := AE.ofQ_ok (all_cons ty31_ok all_nil) (all_cons ⟨he_msg_Check, enters_msg_Check⟩ (all_cons ⟨he_msg_form, enters_msg_form⟩ all_nil)) (all_cons steq28_ok all_nil)
theorem p_msg_Put_ok (he_msg_Check : SigOk Go.Proofs.Try.prog 25 ⟨[.cat [.int .i64, .int .i64, .int .i64, .int .u32, .int .u32, .int .u64, .int .u64, .int .i64, .int .i64, .sl (.int .u8), .sl (.int .u8), .sl (.int .u8)]], [.int .i64], g_msg_Check⟩) (he_msg_form : SigOk Go.Proofs.Try.prog 34 ⟨[.cat [.int .i64, .int .i64, .int .i64, .int .u32, .int .u32, .int .u64, .int .u64, .int .i64, .int .i64, .sl (.int .u8), .sl (.int .u8), .sl (.int .u8)], .bool], [.sl (.int .u8)], g_msg_form⟩) {g : Ds [.cat [.int .i64, .int .i64, .int .i64, .int .u32, .int .u32, .int .u64, .int .u64, .int .i64, .int .i64, .sl (.int .u8), .sl (.int .u8), .sl (.int .u8)]] → Option (Rs [.sl (.int .u8), .int .i64])} (hg : ∀ x r, g x = some r → ∃ N, p_msg_Put N x = some r) : SigOk Go.Proofs.Try.prog 17 ⟨[.cat [.int .i64, .int .i64, .int .i64, .int .u32, .int .u32, .int .u64, .int .u64, .int .i64, .int .i64, .sl (.int .u8), .sl (.int .u8), .sl (.int .u8)]], [.sl (.int .u8), .int .i64], g⟩ :=
  fun_of (E := p_msg_Put_E) (H := p_msg_Put_H) (L := fun N => LT.nil) (c := p_msg_Put_c) (ks := p_msg_Put_ks) (rs := p_msg_Put_rs) (F := p_msg_Put) (p_msg_Put_Eok he_msg_Check he_msg_form) mix Go.Proofs.Try.func17 (by kernel_rfl) (fun N => OkAll.nil) p_msg_Put_eq hg

/-! livery/liverylaw21.live -/
noncomputable def p_law21_live_E : AE := AE.ofQ [(3, ty3), (5, ty5), (25, ty25), (28, ty28), (29, ty29), (31, ty31)] [(17, ⟨[.cat [.int .i64, .int .i64, .int .i64, .int .u32, .int .u32, .int .u64, .int .u64, .int .i64, .int .i64, .sl (.int .u8), .sl (.int .u8), .sl (.int .u8)]], [.sl (.int .u8), .int .i64], g_msg_Put⟩), (19, ⟨[.sl (.int .u8), .sl (.int .u8)], [.bool], g_ref01_Equal⟩), (12, ⟨[.int .i64], [.str], g_msg_Has⟩)] [(28, .u64, 2)]
noncomputable def p_law21_live_H : Hints := [(3000000, [0])]
noncomputable def p_law21_live_c : Code := (Go.Proofs.Try.f11).body.getD .skip
abbrev p_law21_live_ks : List Kd := []
abbrev p_law21_live_rs : List Kd := [.bool]
noncomputable def p_law21_live (N : Nat) (x : Unit) : Option (Bool) :=
  (g_msg_Put (((List.getD (List.set [0] 0 (8:Int)) 0 0), (List.getD (List.set [0] 0 (1:Int)) 0 0), (List.getD (List.set [0] 0 (2:Int)) 0 0), (List.getD (List.set [0] 0 (3:Int)) 0 0), (List.getD [0] 0 0), (List.getD (List.take 1 (List.replicate 2 0)) 0 0), (List.getD (List.drop 1 (List.replicate 2 0)) 0 0), (List.getD [0] 0 0), (List.getD [0] 0 0), [], [], [], ()), ())).bind fun r1 => (
  (g_ref01_Equal (r1.1, (List.set (List.set (List.set (List.set (List.set (List.set (List.set (List.replicate 7 0) 0 (8:Int)) 1 (1:Int)) 2 (2:Int)) 3 (0:Int)) 4 (0:Int)) 5 (0:Int)) 6 (3:Int)), ())).bind fun r2 => (
  if (r2 = true) then
    if (r1.2 = (0:Int)) then
      (g_msg_Has ((3:Int), ())).bind fun r3 => (
      some (decide (r3 = (⟨#[112, 110, 100]⟩ : ByteArray))))
    else
      some false
  else
    some false))
theorem p_law21_live_eq (N : Nat) (x : Ds []) : funL p_law21_live_E p_law21_live_H (LT.nil) N Go.Proofs.Try.f11 p_law21_live_c [] [.bool] x = p_law21_live N x := by kernel_rfl
theorem p_law21_live_Eok (he_msg_Put : SigOk Go.Proofs.Try.prog 17 ⟨[.cat [.int .i64, .int .i64, .int .i64, .int .u32, .int .u32, .int .u64, .int .u64, .int .i64, .int .i64, .sl (.int .u8), .sl (.int .u8), .sl (.int .u8)]], [.sl (.int .u8), .int .i64], g_msg_Put⟩) (he_ref01_Equal : SigOk Go.Proofs.Try.prog 19 ⟨[.sl (.int .u8), .sl (.int .u8)], [.bool], g_ref01_Equal⟩) (he_msg_Has : SigOk Go.Proofs.Try.prog 12 ⟨[.int .i64], [.str], g_msg_Has⟩) : p_law21_live_E.Ok Go.Proofs.Try.prog := AE.ofQ_ok (all_cons ty3_ok (all_cons ty5_ok (all_cons ty25_ok (all_cons ty28_ok (all_cons ty29_ok (all_cons ty31_ok all_nil)))))) (all_cons ⟨he_msg_Put, enters_msg_Put⟩ (all_cons ⟨he_ref01_Equal, enters_ref01_Equal⟩ (all_cons ⟨he_msg_Has, enters_msg_Has⟩ all_nil))) (all_cons steq28_ok all_nil)
theorem p_law21_live_ok (he_msg_Put : SigOk Go.Proofs.Try.prog 17 ⟨[.cat [.int .i64, .int .i64, .int .i64, .int .u32, .int .u32, .int .u64, .int .u64, .int .i64, .int .i64, .sl (.int .u8), .sl (.int .u8), .sl (.int .u8)]], [.sl (.int .u8), .int .i64], g_msg_Put⟩) (he_ref01_Equal : SigOk Go.Proofs.Try.prog 19 ⟨[.sl (.int .u8), .sl (.int .u8)], [.bool], g_ref01_Equal⟩) (he_msg_Has : SigOk Go.Proofs.Try.prog 12 ⟨[.int .i64], [.str], g_msg_Has⟩) {g : Ds [] → Option (Rs [.bool])} (hg : ∀ x r, g x = some r → ∃ N, p_law21_live N x = some r) : SigOk Go.Proofs.Try.prog 11 ⟨[], [.bool], g⟩ :=
  fun_of (E := p_law21_live_E) (H := p_law21_live_H) (L := fun N => LT.nil) (c := p_law21_live_c) (ks := p_law21_live_ks) (rs := p_law21_live_rs) (F := p_law21_live) (p_law21_live_Eok he_msg_Put he_ref01_Equal he_msg_Has) mix Go.Proofs.Try.func11 (by kernel_rfl) (fun N => OkAll.nil) p_law21_live_eq hg

/-! livery/liverylaw21.MsgKinds -/
noncomputable def p_law21_MsgKinds_E : AE := AE.ofQ [] [(11, ⟨[], [.bool], g_law21_live⟩), (12, ⟨[.int .i64], [.str], g_msg_Has⟩), (13, ⟨[.int .i64], [.str], g_ref21_Has⟩), (14, ⟨[.int .i64], [.str], g_msg_Name⟩), (15, ⟨[.int .i64], [.str], g_ref21_Name⟩)] [(28, .u64, 2)]
noncomputable def p_law21_MsgKinds_H : Hints := [(3000000, [2])]
noncomputable def p_law21_MsgKinds_c : Code := (Go.Proofs.Try.f3).body.getD .skip
abbrev p_law21_MsgKinds_ks : List Kd := [.int .i64]
abbrev p_law21_MsgKinds_rs : List Kd := [.bool]
noncomputable def p_law21_MsgKinds (N : Nat) (x : Int × Unit) : Option (Bool) :=
  (g_law21_live (())).bind fun r1 => (
  if (r1 = true) then
    (g_msg_Has (x.1, ())).bind fun r2 => (
    (g_ref21_Has (x.1, ())).bind fun r3 => (
    if (r2 = r3) then
      (g_msg_Name (x.1, ())).bind fun r4 => (
      (g_ref21_Name (x.1, ())).bind fun r5 => (
      some (decide (r4 = r5))))
    else
      some false))
  else
    some false)
theorem p_law21_MsgKinds_eq (N : Nat) (x : Ds [.int .i64]) : funL p_law21_MsgKinds_E p_law21_MsgKinds_H (LT.nil) N Go.Proofs.Try.f3 p_law21_MsgKinds_c [.int .i64] [.bool] x = p_law21_MsgKinds N x := by kernel_rfl
theorem p_law21_MsgKinds_Eok (he_law21_live : SigOk Go.Proofs.Try.prog 11 ⟨[], [.bool], g_law21_live⟩) (he_msg_Has : SigOk Go.Proofs.Try.prog 12 ⟨[.int .i64], [.str], g_msg_Has⟩) (he_ref21_Has : SigOk Go.Proofs.Try.prog 13 ⟨[.int .i64], [.str], g_ref21_Has⟩) (he_msg_Name : SigOk Go.Proofs.Try.prog 14 ⟨[.int .i64], [.str], g_msg_Name⟩) (he_ref21_Name : SigOk Go.Proofs.Try.prog 15 ⟨[.int .i64], [.str], g_ref21_Name⟩) : p_law21_MsgKinds_E.Ok Go.Proofs.Try.prog := AE.ofQ_ok all_nil (all_cons ⟨he_law21_live, enters_law21_live⟩ (all_cons ⟨he_msg_Has, enters_msg_Has⟩ (all_cons ⟨he_ref21_Has, enters_ref21_Has⟩ (all_cons ⟨he_msg_Name, enters_msg_Name⟩ (all_cons ⟨he_ref21_Name, enters_ref21_Name⟩ all_nil))))) (all_cons steq28_ok all_nil)
theorem p_law21_MsgKinds_ok (he_law21_live : SigOk Go.Proofs.Try.prog 11 ⟨[], [.bool], g_law21_live⟩) (he_msg_Has : SigOk Go.Proofs.Try.prog 12 ⟨[.int .i64], [.str], g_msg_Has⟩) (he_ref21_Has : SigOk Go.Proofs.Try.prog 13 ⟨[.int .i64], [.str], g_ref21_Has⟩) (he_msg_Name : SigOk Go.Proofs.Try.prog 14 ⟨[.int .i64], [.str], g_msg_Name⟩) (he_ref21_Name : SigOk Go.Proofs.Try.prog 15 ⟨[.int .i64], [.str], g_ref21_Name⟩) {g : Ds [.int .i64] → Option (Rs [.bool])} (hg : ∀ x r, g x = some r → ∃ N, p_law21_MsgKinds N x = some r) : SigOk Go.Proofs.Try.prog 3 ⟨[.int .i64], [.bool], g⟩ :=
  fun_of (E := p_law21_MsgKinds_E) (H := p_law21_MsgKinds_H) (L := fun N => LT.nil) (c := p_law21_MsgKinds_c) (ks := p_law21_MsgKinds_ks) (rs := p_law21_MsgKinds_rs) (F := p_law21_MsgKinds) (p_law21_MsgKinds_Eok he_law21_live he_msg_Has he_ref21_Has he_msg_Name he_ref21_Name) mix Go.Proofs.Try.func3 (by kernel_rfl) (fun N => OkAll.nil) p_law21_MsgKinds_eq hg

/-! livery/liveryref21.has -/
noncomputable def p_ref21_has_E : AE := AE.ofI [(9, ty9)] [] [(28, .u64, 2)] [(13, i_ref21_Has)] [11] [(2, 8)] []
noncomputable def p_ref21_has_H : Hints := [(3000000, [4])]
noncomputable def p_ref21_has_c : Code := (Go.Proofs.Try.f38).body.getD .skip
abbrev p_ref21_has_ks : List Kd := [.int .i64, .int .i32]
abbrev p_ref21_has_rs : List Kd := [.bool]
noncomputable def p_ref21_has (N : Nat) (x : Int × Int × Unit) : Option (Bool) :=
  if (x.1 = (1:Int)) then
    if ((107:Int) = x.2.1) then
      some true
    else
      if ((114:Int) = x.2.1) then
        some true
      else
        if ((100:Int) = x.2.1) then
          some true
        else
          if ((99:Int) = x.2.1) then
            some true
          else
            some false
  else
    if (x.1 = (2:Int)) then
      if ((107:Int) = x.2.1) then
        some true
      else
        if ((114:Int) = x.2.1) then
          some true
        else
          if ((99:Int) = x.2.1) then
            some true
          else
            if ((115:Int) = x.2.1) then
              some true
            else
              some false
    else
      if (x.1 = (3:Int)) then
        if ((112:Int) = x.2.1) then
          some true
        else
          if ((110:Int) = x.2.1) then
            some true
          else
            if ((100:Int) = x.2.1) then
              some true
            else
              some false
      else
        if (x.1 = (4:Int)) then
          if ((110:Int) = x.2.1) then
            some true
          else
            if ((100:Int) = x.2.1) then
              some true
            else
              some false
        else
          if (x.1 = (5:Int)) then
            if ((107:Int) = x.2.1) then
              some true
            else
              if ((114:Int) = x.2.1) then
                some true
              else
                if ((115:Int) = x.2.1) then
                  some true
                else
                  some false
          else
            if (x.1 = (6:Int)) then
              if ((107:Int) = x.2.1) then
                some true
              else
                if ((114:Int) = x.2.1) then
                  some true
                else
                  if ((115:Int) = x.2.1) then
                    some true
                  else
                    some false
            else
              some false
theorem p_ref21_has_eq (N : Nat) (x : Ds [.int .i64, .int .i32]) : funL p_ref21_has_E p_ref21_has_H (LT.nil) N Go.Proofs.Try.f38 p_ref21_has_c [.int .i64, .int .i32] [.bool] x = p_ref21_has N x := by kernel_rfl
theorem p_ref21_has_Eok : p_ref21_has_E.Ok Go.Proofs.Try.prog := AE.ofI_ok (all_cons ty9_ok all_nil) all_nil (all_cons steq28_ok all_nil) (all_cons ⟨i_ref21_Has_ok, enters_ref21_Has⟩ all_nil) all_nil
theorem p_ref21_has_ok {g : Ds [.int .i64, .int .i32] → Option (Rs [.bool])} (hg : ∀ x r, g x = some r → ∃ N, p_ref21_has N x = some r) : SigOk Go.Proofs.Try.prog 38 ⟨[.int .i64, .int .i32], [.bool], g⟩ :=
  fun_of (E := p_ref21_has_E) (H := p_ref21_has_H) (L := fun N => LT.nil) (c := p_ref21_has_c) (ks := p_ref21_has_ks) (rs := p_ref21_has_rs) (F := p_ref21_has) (p_ref21_has_Eok) mix Go.Proofs.Try.func38 (by kernel_rfl) (fun N => OkAll.nil) p_ref21_has_eq hg

/-! livery/liveryref21.so -/
noncomputable def p_ref21_so_E : AE := AE.ofQ [(29, ty29)] [] [(28, .u64, 2)]
noncomputable def p_ref21_so_H : Hints := [(3000000, [6])]
noncomputable def p_ref21_so_c : Code := (Go.Proofs.Try.f50).body.getD .skip
abbrev p_ref21_so_ks : List Kd := [.bool, .sl (.int .u8), .int .i64]
abbrev p_ref21_so_rs : List Kd := [.bool]
noncomputable def p_ref21_so (N : Nat) (x : Bool × List Int × Int × Unit) : Option (Bool) :=
  if (x.1 = true) then
    if ((((List.length x.2.1) : Nat) : Int) ≥ (1:Int)) then
      if ((((List.length x.2.1) : Nat) : Int) ≤ x.2.2.1) then
        some true
      else
        if (¬ (x.1 = true)) then
          some (decide ((((List.length x.2.1) : Nat) : Int) = (0:Int)))
        else
          some false
    else
      if (¬ (x.1 = true)) then
        some (decide ((((List.length x.2.1) : Nat) : Int) = (0:Int)))
      else
        some false
  else
    if (¬ (x.1 = true)) then
      some (decide ((((List.length x.2.1) : Nat) : Int) = (0:Int)))
    else
      some false
theorem p_ref21_so_eq (N : Nat) (x : Ds [.bool, .sl (.int .u8), .int .i64]) : funL p_ref21_so_E p_ref21_so_H (LT.nil) N Go.Proofs.Try.f50 p_ref21_so_c [.bool, .sl (.int .u8), .int .i64] [.bool] x = p_ref21_so N x := by kernel_rfl
theorem p_ref21_so_Eok : p_ref21_so_E.Ok Go.Proofs.Try.prog := AE.ofQ_ok (all_cons ty29_ok all_nil) all_nil (all_cons steq28_ok all_nil)
theorem p_ref21_so_ok {g : Ds [.bool, .sl (.int .u8), .int .i64] → Option (Rs [.bool])} (hg : ∀ x r, g x = some r → ∃ N, p_ref21_so N x = some r) : SigOk Go.Proofs.Try.prog 50 ⟨[.bool, .sl (.int .u8), .int .i64], [.bool], g⟩ :=
  fun_of (E := p_ref21_so_E) (H := p_ref21_so_H) (L := fun N => LT.nil) (c := p_ref21_so_c) (ks := p_ref21_so_ks) (rs := p_ref21_so_rs) (F := p_ref21_so) (p_ref21_so_Eok) mix Go.Proofs.Try.func50 (by kernel_rfl) (fun N => OkAll.nil) p_ref21_so_eq hg

/-! livery/liveryref21.marked -/
noncomputable def p_ref21_marked_E : AE := AE.ofQ [(4, ty4), (29, ty29), (43, ty43)] [(41, ⟨[.sl (.int .u8)], [.sl .bool], g_ref01_Bits⟩)] [(28, .u64, 2)]
noncomputable def p_ref21_marked_H : Hints := [(4, [0, 14, 15, 16]), (2000000, []), (2000001, [0, 14, 15, 16]), (3000000, [4])]
noncomputable def p_ref21_marked_c : Code := (Go.Proofs.Try.f51).body.getD .skip
noncomputable def p_ref21_marked_l4_S : Shape where
  h := { tmps := [.sc (.int .i64), .any, .any, .any, .any, .any, .any, .any, .any, .any, .any, .any, .any, .any, .sc (.vec 0 none 1), .sc (.int .i64), .sc (.int .i64), .any, .any, .any, .any, .any, .any, .any, .any, .any, .any, .any], mem := [.live [.xs .bool none] (.own)] }
  ks := [.int, .nat, .int, .int, .nat, .xs]
  st := fun x => { tmps := [.one (.sc (.int .i64 x.1)), .one .any, .one .any, .one .any, .one .any, .one .any, .one .any, .one .any, .one .any, .one .any, .one .any, .one .any, .one .any, .one .any, .one (.sc (.vec 0 x.2.1 1)), .one (.sc (.int .i64 x.2.2.1)), .one (.sc (.int .i64 x.2.2.2.1)), .one .any, .one .any, .one .any, .one .any, .one .any, .one .any, .one .any, .one .any, .one .any, .one .any, .one .any], mem := [.live { segs := [.xs .bool x.2.2.2.2.1 x.2.2.2.2.2.1], own := .own }] }
noncomputable def p_ref21_marked_l4_F (N : Nat) (β : Type) (x : (Int × Nat × Int × Int × Nat × List Int × Unit)) (kn : (Int × Nat × Int × Int × Nat × List Int × Unit) → Option β) (ke : ((Bool × Unit) ⊕ (Unit)) → Option β) : Option β :=
  if (x.2.2.2.1 < x.2.2.1) then
    if 0 ≤ x.2.2.2.1 then (
    if x.2.2.2.1 < ((x.2.1 : Nat) : Int) then (
    if (x.2.2.2.1.toNat) < x.2.2.2.2.1 then (
    if ((List.getD x.2.2.2.2.2.1 (x.2.2.2.1.toNat) 0) ≠ 0) then
      if (x.2.2.2.1 ≥ x.1) then
        ke (.inl (false, ()))
      else
        kn (x.1, x.2.1, x.2.2.1, (IntKind.i64.wrap (x.2.2.2.1 + (1:Int))), x.2.2.2.2.1, x.2.2.2.2.2.1, ())
    else
      kn (x.1, x.2.1, x.2.2.1, (IntKind.i64.wrap (x.2.2.2.1 + (1:Int))), x.2.2.2.2.1, x.2.2.2.2.2.1, ())) else none) else none) else none
  else
    ke (.inr (()))
noncomputable def p_ref21_marked_l4_go : Go' ((Bool × Unit) ⊕ (Unit)) := fun y K => match y with
  | .inl y => K .ret { tmps := [.one .any, .one .any, .one .any, .one .any, .one (.sc (.known y.1)), .one .any, .one .any, .one .any, .one .any, .one .any, .one .any, .one .any, .one .any, .one .any, .one .any, .one .any, .one .any, .one .any, .one .any, .one .any, .one .any, .one .any, .one .any, .one .any, .one .any, .one .any, .one .any, .one .any], mem := [] }
  | .inr y => K (.exit 0) { tmps := [.one .any, .one .any, .one .any, .one .any, .one .any, .one .any, .one .any, .one .any, .one .any, .one .any, .one .any, .one .any, .one .any, .one .any, .one .any, .one .any, .one .any, .one .any, .one .any, .one .any, .one .any, .one .any, .one .any, .one .any, .one .any, .one .any, .one .any, .one .any], mem := [] }
noncomputable def p_ref21_marked_l4_L (N : Nat) : LT := upd (LT.nil) 4 (loopE p_ref21_marked_l4_S N (p_ref21_marked_l4_F N) p_ref21_marked_l4_go)
theorem p_ref21_marked_l4_ok (N : Nat) : OkAll p_ref21_marked_E p_ref21_marked_H N (p_ref21_marked_l4_L N) (subs p_ref21_marked_c) :=
  addLoop (c := theLoop 4 p_ref21_marked_c) (OkAll.nil) (by kernel_rfl) (fun x => by kernel_rfl) (fun β x kn ke => by kernel_rfl)
abbrev p_ref21_marked_ks : List Kd := [.int .i64, .sl (.int .u8)]
abbrev p_ref21_marked_rs : List Kd := [.bool]
noncomputable def p_ref21_marked (N : Nat) (x : Int × List Int × Unit) : Option (Bool) :=
  if ((((List.length x.2.1) : Nat) : Int) ≠ (IntKind.i64.wrap (Int.tdiv (IntKind.i64.wrap (x.1 + (7:Int))) (8:Int)))) then
    some false
  else
    (g_ref01_Bits (x.2.1, ())).bind fun r1 => (
    iter (p_ref21_marked_l4_F N) N (x.1, (List.length r1), (((List.length r1) : Nat) : Int), (0:Int), (List.length r1), r1, ()) fun y => (match y with
    | .inl y2 => (
      some y2.1)
    | .inr y3 => (
      some true)))
theorem p_ref21_marked_eq (N : Nat) (x : Ds [.int .i64, .sl (.int .u8)]) : funL p_ref21_marked_E p_ref21_marked_H (p_ref21_marked_l4_L N) N Go.Proofs.Try.f51 p_ref21_marked_c [.int .i64, .sl (.int .u8)] [.bool] x = p_ref21_marked N x := by kernel_rfl
theorem p_ref21_marked_Eok (he_ref01_Bits : SigOk Go.Proofs.Try.prog 41 ⟨[.sl (.int .u8)], [.sl .bool], g_ref01_Bits⟩) : p_ref21_marked_E.Ok Go.Proofs.Try.prog := AE.ofQ_ok (all_cons ty4_ok (all_cons ty29_ok (all_cons ty43_ok all_nil))) (all_cons ⟨he_ref01_Bits, enters_ref01_Bits⟩ all_nil) (all_cons steq28_ok all_nil)
theorem p_ref21_marked_ok (he_ref01_Bits : SigOk Go.Proofs.Try.prog 41 ⟨[.sl (.int .u8)], [.sl .bool], g_ref01_Bits⟩) {g : Ds [.int .i64, .sl (.int .u8)] → Option (Rs [.bool])} (hg : ∀ x r, g x = some r → ∃ N, p_ref21_marked N x = some r) : SigOk Go.Proofs.Try.prog 51 ⟨[.int .i64, .sl (.int .u8)], [.bool], g⟩ :=
  fun_of (E := p_ref21_marked_E) (H := p_ref21_marked_H) (L := fun N => p_ref21_marked_l4_L N) (c := p_ref21_marked_c) (ks := p_ref21_marked_ks) (rs := p_ref21_marked_rs) (F := p_ref21_marked) (p_ref21_marked_Eok he_ref01_Bits) mix Go.Proofs.Try.func51 (by kernel_rfl) (fun N => p_ref21_marked_l4_ok N) p_ref21_marked_eq hg

/-! livery/liveryref01.Bits -/
noncomputable def p_ref01_Bits_E : AE := AE.ofQ [(3, ty3), (4, ty4), (5, ty5), (29, ty29), (43, ty43)] [] [(28, .u64, 2)]
noncomputable def p_ref01_Bits_H : Hints := [(3, [3, 8, 9, 10]), (7, [3, 6, 8, 9, 10, 16]), (2000000, [3]), (2000001, [3, 8, 9, 10]), (2000002, [3, 8, 9, 10]), (2000003, [3, 6, 8, 9, 10, 16]), (3000000, [2])]
noncomputable def p_ref01_Bits_c : Code := (Go.Proofs.Try.f41).body.getD .skip
noncomputable def p_ref01_Bits_l7_S : Shape where
  h := { tmps := [.any, .any, .any, .sc (.vec 0 none 1), .any, .any, .sc (.int .i64), .any, .sc (.vec 1 none 1), .sc (.int .i64), .sc (.int .i64), .any, .any, .any, .any, .any, .sc (.int .i64), .any, .any, .any, .any, .any, .any, .any, .any, .any, .any, .any, .any], mem := [.live [.xs .bool none] (.own), .live [.xs (.int .u8) none] (.ro)] }
  ks := [.nat, .int, .nat, .int, .int, .int, .nat, .xs, .nat, .xs]
  st := fun x => { tmps := [.one .any, .one .any, .one .any, .one (.sc (.vec 0 x.1 1)), .one .any, .one .any, .one (.sc (.int .i64 x.2.1)), .one .any, .one (.sc (.vec 1 x.2.2.1 1)), .one (.sc (.int .i64 x.2.2.2.1)), .one (.sc (.int .i64 x.2.2.2.2.1)), .one .any, .one .any, .one .any, .one .any, .one .any, .one (.sc (.int .i64 x.2.2.2.2.2.1)), .one .any, .one .any, .one .any, .one .any, .one .any, .one .any, .one .any, .one .any, .one .any, .one .any, .one .any, .one .any], mem := [.live { segs := [.xs .bool x.2.2.2.2.2.2.1 x.2.2.2.2.2.2.2.1], own := .own }, .live { segs := [.xs (.int .u8) x.2.2.2.2.2.2.2.2.1 x.2.2.2.2.2.2.2.2.2.1], own := .ro }] }
noncomputable def p_ref01_Bits_l7_F (N : Nat) (β : Type) (x : (Nat × Int × Nat × Int × Int × Int × Nat × List Int × Nat × List Int × Unit)) (kn : (Nat × Int × Nat × Int × Int × Int × Nat × List Int × Nat × List Int × Unit) → Option β) (ke : ((Nat × Nat × Int × Int × Nat × List Int × Nat × List Int × Unit)) → Option β) : Option β :=
  if (x.2.2.2.2.2.1 < (8:Int)) then
    if (x.1 + 1) * 1 ≤ 140737488355328 then (
    kn ((x.1 + 1), (IntKind.i64.wrap (Int.tdiv x.2.1 (2:Int))), x.2.2.1, x.2.2.2.1, x.2.2.2.2.1, (IntKind.i64.wrap (x.2.2.2.2.2.1 + (1:Int))), (x.2.2.2.2.2.2.1 + 1), (x.2.2.2.2.2.2.2.1 ++ (List.set (List.replicate 1 0) 0 (if ((Int.tmod x.2.1 (2:Int)) = (1:Int)) then (1:Int) else 0))), x.2.2.2.2.2.2.2.2.1, x.2.2.2.2.2.2.2.2.2.1, ())) else none
  else
    ke (x.1, x.2.2.1, x.2.2.2.1, x.2.2.2.2.1, x.2.2.2.2.2.2.1, x.2.2.2.2.2.2.2.1, x.2.2.2.2.2.2.2.2.1, x.2.2.2.2.2.2.2.2.2.1, ())
noncomputable def p_ref01_Bits_l7_go : Go' ((Nat × Nat × Int × Int × Nat × List Int × Nat × List Int × Unit)) := fun y K => K (.exit 2) { tmps := [.one .any, .one .any, .one .any, .one (.sc (.vec 0 y.1 1)), .one .any, .one .any, .one .any, .one .any, .one (.sc (.vec 1 y.2.1 1)), .one (.sc (.int .i64 y.2.2.1)), .one (.sc (.int .i64 y.2.2.2.1)), .one .any, .one .any, .one .any, .one .any, .one .any, .one .any, .one .any, .one .any, .one .any, .one .any, .one .any, .one .any, .one .any, .one .any, .one .any, .one .any, .one .any, .one .any], mem := [.live { segs := [.xs .bool y.2.2.2.2.1 y.2.2.2.2.2.1], own := .own }, .live { segs := [.xs (.int .u8) y.2.2.2.2.2.2.1 y.2.2.2.2.2.2.2.1], own := .ro }] }
noncomputable def p_ref01_Bits_l7_L (N : Nat) : LT := upd (LT.nil) 7 (loopE p_ref01_Bits_l7_S N (p_ref01_Bits_l7_F N) p_ref01_Bits_l7_go)
theorem p_ref01_Bits_l7_ok (N : Nat) : OkAll p_ref01_Bits_E p_ref01_Bits_H N (p_ref01_Bits_l7_L N) (subs p_ref01_Bits_c) :=
  addLoop (c := theLoop 7 p_ref01_Bits_c) (OkAll.nil) (by kernel_rfl) (fun x => by kernel_rfl) (fun β x kn ke => by kernel_rfl)
noncomputable def p_ref01_Bits_l3_S : Shape where
  h := { tmps := [.any, .any, .any, .sc (.vec 0 none 1), .any, .any, .any, .any, .sc (.vec 1 none 1), .sc (.int .i64), .sc (.int .i64), .any, .any, .any, .any, .any, .any, .any, .any, .any, .any, .any, .any, .any, .any, .any, .any, .any, .any], mem := [.live [.xs .bool none] (.own), .live [.xs (.int .u8) none] (.ro)] }
  ks := [.nat, .nat, .int, .int, .nat, .xs, .nat, .xs]
  st := fun x => { tmps := [.one .any, .one .any, .one .any, .one (.sc (.vec 0 x.1 1)), .one .any, .one .any, .one .any, .one .any, .one (.sc (.vec 1 x.2.1 1)), .one (.sc (.int .i64 x.2.2.1)), .one (.sc (.int .i64 x.2.2.2.1)), .one .any, .one .any, .one .any, .one .any, .one .any, .one .any, .one .any, .one .any, .one .any, .one .any, .one .any, .one .any, .one .any, .one .any, .one .any, .one .any, .one .any, .one .any], mem := [.live { segs := [.xs .bool x.2.2.2.2.1 x.2.2.2.2.2.1], own := .own }, .live { segs := [.xs (.int .u8) x.2.2.2.2.2.2.1 x.2.2.2.2.2.2.2.1], own := .ro }] }
noncomputable def p_ref01_Bits_l3_F (N : Nat) (β : Type) (x : (Nat × Nat × Int × Int × Nat × List Int × Nat × List Int × Unit)) (kn : (Nat × Nat × Int × Int × Nat × List Int × Nat × List Int × Unit) → Option β) (ke : ((Nat × Nat × List Int × Unit)) → Option β) : Option β :=
  if (x.2.2.2.1 < x.2.2.1) then
    if 0 ≤ x.2.2.2.1 then (
    if x.2.2.2.1 < ((x.2.1 : Nat) : Int) then (
    if (x.2.2.2.1.toNat) < x.2.2.2.2.2.2.1 then (
    iter (p_ref01_Bits_l7_F N) N (x.1, (IntKind.i64.wrap (List.getD x.2.2.2.2.2.2.2.1 (x.2.2.2.1.toNat) 0)), x.2.1, x.2.2.1, x.2.2.2.1, (0:Int), x.2.2.2.2.1, x.2.2.2.2.2.1, x.2.2.2.2.2.2.1, x.2.2.2.2.2.2.2.1, ()) fun y1 => (
    kn (y1.1, y1.2.1, y1.2.2.1, (IntKind.i64.wrap (y1.2.2.2.1 + (1:Int))), y1.2.2.2.2.1, y1.2.2.2.2.2.1, y1.2.2.2.2.2.2.1, y1.2.2.2.2.2.2.2.1, ()))) else none) else none) else none
  else
    ke (x.1, x.2.2.2.2.1, x.2.2.2.2.2.1, ())
noncomputable def p_ref01_Bits_l3_go : Go' ((Nat × Nat × List Int × Unit)) := fun y K => K (.exit 0) { tmps := [.one .any, .one .any, .one .any, .one (.sc (.vec 0 y.1 1)), .one .any, .one .any, .one .any, .one .any, .one .any, .one .any, .one .any, .one .any, .one .any, .one .any, .one .any, .one .any, .one .any, .one .any, .one .any, .one .any, .one .any, .one .any, .one .any, .one .any, .one .any, .one .any, .one .any, .one .any, .one .any], mem := [.live { segs := [.xs .bool y.2.1 y.2.2.1], own := .own }] }
noncomputable def p_ref01_Bits_l3_L (N : Nat) : LT := upd (p_ref01_Bits_l7_L N) 3 (loopE p_ref01_Bits_l3_S N (p_ref01_Bits_l3_F N) p_ref01_Bits_l3_go)
theorem p_ref01_Bits_l3_ok (N : Nat) : OkAll p_ref01_Bits_E p_ref01_Bits_H N (p_ref01_Bits_l3_L N) (subs p_ref01_Bits_c) :=
  addLoop (c := theLoop 3 p_ref01_Bits_c) (p_ref01_Bits_l7_ok N) (by kernel_rfl) (fun x => by kernel_rfl) (fun β x kn ke => by kernel_rfl)
abbrev p_ref01_Bits_ks : List Kd := [.sl (.int .u8)]
abbrev p_ref01_Bits_rs : List Kd := [.sl .bool]
noncomputable def p_ref01_Bits (N : Nat) (x : List Int × Unit) : Option (List Int) :=
  iter (p_ref01_Bits_l3_F N) N (0, (List.length x.1), (((List.length x.1) : Nat) : Int), (0:Int), 0, (List.replicate 0 0), (List.length x.1), x.1, ()) fun y2 => (
  some y2.2.2.1)
theorem p_ref01_Bits_eq (N : Nat) (x : Ds [.sl (.int .u8)]) : funL p_ref01_Bits_E p_ref01_Bits_H (p_ref01_Bits_l3_L N) N Go.Proofs.Try.f41 p_ref01_Bits_c [.sl (.int .u8)] [.sl .bool] x = p_ref01_Bits N x := by kernel_rfl
theorem p_ref01_Bits_Eok : p_ref01_Bits_E.Ok Go.Proofs.Try.prog := AE.ofQ_ok (all_cons ty3_ok (all_cons ty4_ok (all_cons ty5_ok (all_cons ty29_ok (all_cons ty43_ok all_nil))))) all_nil (all_cons steq28_ok all_nil)
theorem p_ref01_Bits_ok {g : Ds [.sl (.int .u8)] → Option (Rs [.sl .bool])} (hg : ∀ x r, g x = some r → ∃ N, p_ref01_Bits N x = some r) : SigOk Go.Proofs.Try.prog 41 ⟨[.sl (.int .u8)], [.sl .bool], g⟩ :=
  fun_of (E := p_ref01_Bits_E) (H := p_ref01_Bits_H) (L := fun N => p_ref01_Bits_l3_L N) (c := p_ref01_Bits_c) (ks := p_ref01_Bits_ks) (rs := p_ref01_Bits_rs) (F := p_ref01_Bits) (p_ref01_Bits_Eok) mix Go.Proofs.Try.func41 (by kernel_rfl) (fun N => p_ref01_Bits_l3_ok N) p_ref01_Bits_eq hg

/-! livery/octet.Same -/
noncomputable def p_octet_Same_E : AE := AE.ofQ [(5, ty5), (29, ty29)] [] [(28, .u64, 2)]
noncomputable def p_octet_Same_H : Hints := [(5, [0, 1, 5, 13, 14]), (2000000, [5]), (2000001, [0, 1, 5, 13, 14]), (3000000, [4])]
noncomputable def p_octet_Same_c : Code := (Go.Proofs.Try.f52).body.getD .skip
noncomputable def p_octet_Same_l5_S : Shape where
  h := { tmps := [.sc (.vec 0 none 1), .sc (.vec 1 none 1), .any, .any, .any, .sc (.int .u8), .any, .any, .any, .any, .any, .any, .any, .sc (.int .i64), .sc (.int .i64), .any, .any, .any, .any, .any, .any, .any, .any, .any, .any, .any, .any, .any, .any, .any, .any], mem := [.live [.xs (.int .u8) none] (.ro), .live [.xs (.int .u8) none] (.ro)] }
  ks := [.nat, .nat, .int, .int, .int, .nat, .xs, .nat, .xs]
  st := fun x => { tmps := [.one (.sc (.vec 0 x.1 1)), .one (.sc (.vec 1 x.2.1 1)), .one .any, .one .any, .one .any, .one (.sc (.int .u8 x.2.2.1)), .one .any, .one .any, .one .any, .one .any, .one .any, .one .any, .one .any, .one (.sc (.int .i64 x.2.2.2.1)), .one (.sc (.int .i64 x.2.2.2.2.1)), .one .any, .one .any, .one .any, .one .any, .one .any, .one .any, .one .any, .one .any, .one .any, .one .any, .one .any, .one .any, .one .any, .one .any, .one .any, .one .any], mem := [.live { segs := [.xs (.int .u8) x.2.2.2.2.2.1 x.2.2.2.2.2.2.1], own := .ro }, .live { segs := [.xs (.int .u8) x.2.2.2.2.2.2.2.1 x.2.2.2.2.2.2.2.2.1], own := .ro }] }
noncomputable def p_octet_Same_l5_F (N : Nat) (β : Type) (x : (Nat × Nat × Int × Int × Int × Nat × List Int × Nat × List Int × Unit)) (kn : (Nat × Nat × Int × Int × Int × Nat × List Int × Nat × List Int × Unit) → Option β) (ke : ((Int × Unit)) → Option β) : Option β :=
  if (x.2.2.2.2.1 < x.2.2.2.1) then
    if 0 ≤ x.2.2.2.2.1 then (
    if x.2.2.2.2.1 < ((x.1 : Nat) : Int) then (
    if (x.2.2.2.2.1.toNat) < x.2.2.2.2.2.1 then (
    if 0 ≤ x.2.2.2.2.1 then (
    if x.2.2.2.2.1 < ((x.2.1 : Nat) : Int) then (
    if (x.2.2.2.2.1.toNat) < x.2.2.2.2.2.2.2.1 then (
    kn (x.1, x.2.1, (ior IntKind.u8 x.2.2.1 (ixor IntKind.u8 (List.getD x.2.2.2.2.2.2.1 (x.2.2.2.2.1.toNat) 0) (List.getD x.2.2.2.2.2.2.2.2.1 (x.2.2.2.2.1.toNat) 0))), x.2.2.2.1, (IntKind.i64.wrap (x.2.2.2.2.1 + (1:Int))), x.2.2.2.2.2.1, x.2.2.2.2.2.2.1, x.2.2.2.2.2.2.2.1, x.2.2.2.2.2.2.2.2.1, ())) else none) else none) else none) else none) else none) else none
  else
    ke (x.2.2.1, ())
noncomputable def p_octet_Same_l5_go : Go' ((Int × Unit)) := fun y K => K (.exit 0) { tmps := [.one .any, .one .any, .one .any, .one .any, .one .any, .one (.sc (.int .u8 y.1)), .one .any, .one .any, .one .any, .one .any, .one .any, .one .any, .one .any, .one .any, .one .any, .one .any, .one .any, .one .any, .one .any, .one .any, .one .any, .one .any, .one .any, .one .any, .one .any, .one .any, .one .any, .one .any, .one .any, .one .any, .one .any], mem := [] }
noncomputable def p_octet_Same_l5_L (N : Nat) : LT := upd (LT.nil) 5 (loopE p_octet_Same_l5_S N (p_octet_Same_l5_F N) p_octet_Same_l5_go)
theorem p_octet_Same_l5_ok (N : Nat) : OkAll p_octet_Same_E p_octet_Same_H N (p_octet_Same_l5_L N) (subs p_octet_Same_c) :=
  addLoop (c := theLoop 5 p_octet_Same_c) (OkAll.nil) (by kernel_rfl) (fun x => by kernel_rfl) (fun β x kn ke => by kernel_rfl)
abbrev p_octet_Same_ks : List Kd := [.sl (.int .u8), .sl (.int .u8)]
abbrev p_octet_Same_rs : List Kd := [.bool]
noncomputable def p_octet_Same (N : Nat) (x : List Int × List Int × Unit) : Option (Bool) :=
  if ((((List.length x.1) : Nat) : Int) ≠ (((List.length x.2.1) : Nat) : Int)) then
    some false
  else
    iter (p_octet_Same_l5_F N) N ((List.length x.1), (List.length x.2.1), (0:Int), (((List.length x.1) : Nat) : Int), (0:Int), (List.length x.1), x.1, (List.length x.2.1), x.2.1, ()) fun y1 => (
    some (decide (y1.1 = (0:Int))))
theorem p_octet_Same_eq (N : Nat) (x : Ds [.sl (.int .u8), .sl (.int .u8)]) : funL p_octet_Same_E p_octet_Same_H (p_octet_Same_l5_L N) N Go.Proofs.Try.f52 p_octet_Same_c [.sl (.int .u8), .sl (.int .u8)] [.bool] x = p_octet_Same N x := by kernel_rfl
theorem p_octet_Same_Eok : p_octet_Same_E.Ok Go.Proofs.Try.prog := AE.ofQ_ok (all_cons ty5_ok (all_cons ty29_ok all_nil)) all_nil (all_cons steq28_ok all_nil)
theorem p_octet_Same_ok {g : Ds [.sl (.int .u8), .sl (.int .u8)] → Option (Rs [.bool])} (hg : ∀ x r, g x = some r → ∃ N, p_octet_Same N x = some r) : SigOk Go.Proofs.Try.prog 52 ⟨[.sl (.int .u8), .sl (.int .u8)], [.bool], g⟩ :=
  fun_of (E := p_octet_Same_E) (H := p_octet_Same_H) (L := fun N => p_octet_Same_l5_L N) (c := p_octet_Same_c) (ks := p_octet_Same_ks) (rs := p_octet_Same_rs) (F := p_octet_Same) (p_octet_Same_Eok) mix Go.Proofs.Try.func52 (by kernel_rfl) (fun N => p_octet_Same_l5_ok N) p_octet_Same_eq hg

/-! livery/liveryref19.One -/
noncomputable def p_ref19_One_E : AE := AE.ofQ [(26, ty26), (28, ty28)] [] [(28, .u64, 2)]
noncomputable def p_ref19_One_H : Hints := [(3000000, [2])]
noncomputable def p_ref19_One_c : Code := (Go.Proofs.Try.f49).body.getD .skip
abbrev p_ref19_One_ks : List Kd := [.cat [.int .u64, .int .u64]]
abbrev p_ref19_One_rs : List Kd := [.bool]
noncomputable def p_ref19_One (N : Nat) (x : (Int × Int × Unit) × Unit) : Option (Bool) :=
  if (x.1.1 < x.1.2.1) then
    some (decide (x.1.2.1 ≤ (1152921504606846976:Int)))
  else
    some false
theorem p_ref19_One_eq (N : Nat) (x : Ds [.cat [.int .u64, .int .u64]]) : funL p_ref19_One_E p_ref19_One_H (LT.nil) N Go.Proofs.Try.f49 p_ref19_One_c [.cat [.int .u64, .int .u64]] [.bool] x = p_ref19_One N x := by kernel_rfl
theorem p_ref19_One_Eok : p_ref19_One_E.Ok Go.Proofs.Try.prog := AE.ofQ_ok (all_cons ty26_ok (all_cons ty28_ok all_nil)) all_nil (all_cons steq28_ok all_nil)
theorem p_ref19_One_ok {g : Ds [.cat [.int .u64, .int .u64]] → Option (Rs [.bool])} (hg : ∀ x r, g x = some r → ∃ N, p_ref19_One N x = some r) : SigOk Go.Proofs.Try.prog 49 ⟨[.cat [.int .u64, .int .u64]], [.bool], g⟩ :=
  fun_of (E := p_ref19_One_E) (H := p_ref19_One_H) (L := fun N => LT.nil) (c := p_ref19_One_c) (ks := p_ref19_One_ks) (rs := p_ref19_One_rs) (F := p_ref19_One) (p_ref19_One_Eok) mix Go.Proofs.Try.func49 (by kernel_rfl) (fun N => OkAll.nil) p_ref19_One_eq hg

/-! livery/liveryref01.Big -/
noncomputable def p_ref01_Big_E : AE := AE.ofQ [(5, ty5), (26, ty26), (29, ty29)] [] [(28, .u64, 2)]
noncomputable def p_ref01_Big_H : Hints := [(3, [0, 5, 6]), (2000000, [5]), (2000001, [0, 5, 6]), (3000000, [4])]
noncomputable def p_ref01_Big_c : Code := (Go.Proofs.Try.f64).body.getD .skip
noncomputable def p_ref01_Big_l3_S : Shape where
  h := { tmps := [.sc (.int .u64), .any, .any, .any, .any, .sc (.vec 0 none 1), .sc (.int .i64), .any, .any, .any, .any, .any, .any, .any, .any, .any, .any, .any, .any, .any, .any, .any, .any, .any], mem := [.live [.xs (.int .u8) none] (.own)] }
  ks := [.int, .nat, .int, .nat, .xs]
  st := fun x => { tmps := [.one (.sc (.int .u64 x.1)), .one .any, .one .any, .one .any, .one .any, .one (.sc (.vec 0 x.2.1 1)), .one (.sc (.int .i64 x.2.2.1)), .one .any, .one .any, .one .any, .one .any, .one .any, .one .any, .one .any, .one .any, .one .any, .one .any, .one .any, .one .any, .one .any, .one .any, .one .any, .one .any, .one .any], mem := [.live { segs := [.xs (.int .u8) x.2.2.2.1 x.2.2.2.2.1], own := .own }] }
noncomputable def p_ref01_Big_l3_F (N : Nat) (β : Type) (x : (Int × Nat × Int × Nat × List Int × Unit)) (kn : (Int × Nat × Int × Nat × List Int × Unit) → Option β) (ke : ((Nat × Nat × List Int × Unit)) → Option β) : Option β :=
  if (x.2.2.1 ≥ (0:Int)) then
    if 0 ≤ x.2.2.1 then (
    if x.2.2.1 < ((x.2.1 : Nat) : Int) then (
    if (x.2.2.1.toNat) < x.2.2.2.1 then (
    kn ((IntKind.u64.wrap (Int.tdiv x.1 (256:Int))), x.2.1, (IntKind.i64.wrap (x.2.2.1 - (1:Int))), x.2.2.2.1, (List.set x.2.2.2.2.1 (x.2.2.1.toNat) (IntKind.u8.wrap (Int.tmod x.1 (256:Int)))), ())) else none) else none) else none
  else
    ke (x.2.1, x.2.2.2.1, x.2.2.2.2.1, ())
noncomputable def p_ref01_Big_l3_go : Go' ((Nat × Nat × List Int × Unit)) := fun y K => K (.exit 0) { tmps := [.one .any, .one .any, .one .any, .one .any, .one .any, .one (.sc (.vec 0 y.1 1)), .one .any, .one .any, .one .any, .one .any, .one .any, .one .any, .one .any, .one .any, .one .any, .one .any, .one .any, .one .any, .one .any, .one .any, .one .any, .one .any, .one .any, .one .any], mem := [.live { segs := [.xs (.int .u8) y.2.1 y.2.2.1], own := .own }] }
noncomputable def p_ref01_Big_l3_L (N : Nat) : LT := upd (LT.nil) 3 (loopE p_ref01_Big_l3_S N (p_ref01_Big_l3_F N) p_ref01_Big_l3_go)
theorem p_ref01_Big_l3_ok (N : Nat) : OkAll p_ref01_Big_E p_ref01_Big_H N (p_ref01_Big_l3_L N) (subs p_ref01_Big_c) :=
  addLoop (c := theLoop 3 p_ref01_Big_c) (OkAll.nil) (by kernel_rfl) (fun x => by kernel_rfl) (fun β x kn ke => by kernel_rfl)
abbrev p_ref01_Big_ks : List Kd := [.int .u64, .int .i64]
abbrev p_ref01_Big_rs : List Kd := [.sl (.int .u8)]
noncomputable def p_ref01_Big (N : Nat) (x : Int × Int × Unit) : Option (List Int) :=
  if 0 ≤ x.2.1 then (
  if x.2.1 = x.2.1 then (
  if x.2.1 * 1 ≤ 281474976710656 then (
  iter (p_ref01_Big_l3_F N) N (x.1, (x.2.1.toNat), (IntKind.i64.wrap (x.2.1 - (1:Int))), (x.2.1.toNat), (List.replicate (x.2.1.toNat) 0), ()) fun y1 => (
  some y1.2.2.1)) else none) else none) else none
theorem p_ref01_Big_eq (N : Nat) (x : Ds [.int .u64, .int .i64]) : funL p_ref01_Big_E p_ref01_Big_H (p_ref01_Big_l3_L N) N Go.Proofs.Try.f64 p_ref01_Big_c [.int .u64, .int .i64] [.sl (.int .u8)] x = p_ref01_Big N x := by kernel_rfl
theorem p_ref01_Big_Eok : p_ref01_Big_E.Ok Go.Proofs.Try.prog := AE.ofQ_ok (all_cons ty5_ok (all_cons ty26_ok (all_cons ty29_ok all_nil))) all_nil (all_cons steq28_ok all_nil)
theorem p_ref01_Big_ok {g : Ds [.int .u64, .int .i64] → Option (Rs [.sl (.int .u8)])} (hg : ∀ x r, g x = some r → ∃ N, p_ref01_Big N x = some r) : SigOk Go.Proofs.Try.prog 64 ⟨[.int .u64, .int .i64], [.sl (.int .u8)], g⟩ :=
  fun_of (E := p_ref01_Big_E) (H := p_ref01_Big_H) (L := fun N => p_ref01_Big_l3_L N) (c := p_ref01_Big_c) (ks := p_ref01_Big_ks) (rs := p_ref01_Big_rs) (F := p_ref01_Big) (p_ref01_Big_Eok) mix Go.Proofs.Try.func64 (by kernel_rfl) (fun N => p_ref01_Big_l3_ok N) p_ref01_Big_eq hg

/-! livery/liveryref21.text -/
noncomputable def p_ref21_text_E : AE := AE.ofQ [(3, ty3), (26, ty26), (29, ty29), (42, ty42)] [(64, ⟨[.int .u64, .int .i64], [.sl (.int .u8)], g_ref01_Big⟩), (31, ⟨[.sls (.int .u8)], [.sl (.int .u8)], g_ref01_Join⟩)] [(28, .u64, 2)]
noncomputable def p_ref21_text_H : Hints := [(3000000, [2])]
noncomputable def p_ref21_text_c : Code := (Go.Proofs.Try.f65).body.getD .skip
abbrev p_ref21_text_ks : List Kd := [.sl (.int .u8)]
abbrev p_ref21_text_rs : List Kd := [.sl (.int .u8)]
noncomputable def p_ref21_text (N : Nat) (x : List Int × Unit) : Option (List Int) :=
  (g_ref01_Big ((IntKind.u64.wrap (((List.length x.1) : Nat) : Int)), (2:Int), ())).bind fun r1 => (
  (g_ref01_Join ([r1, x.1], ())).bind fun r2 => (
  some r2))
theorem p_ref21_text_eq (N : Nat) (x : Ds [.sl (.int .u8)]) : funL p_ref21_text_E p_ref21_text_H (LT.nil) N Go.Proofs.Try.f65 p_ref21_text_c [.sl (.int .u8)] [.sl (.int .u8)] x = p_ref21_text N x := by kernel_rfl
theorem p_ref21_text_Eok (he_ref01_Big : SigOk Go.Proofs.Try.prog 64 ⟨[.int .u64, .int .i64], [.sl (.int .u8)], g_ref01_Big⟩) (he_ref01_Join : SigOk Go.Proofs.Try.prog 31 ⟨[.sls (.int .u8)], [.sl (.int .u8)], g_ref01_Join⟩) : p_ref21_text_E.Ok Go.Proofs.Try.prog := AE.ofQ_ok (all_cons ty3_ok (all_cons ty26_ok (all_cons ty29_ok (all_cons ty42_ok all_nil)))) (all_cons ⟨he_ref01_Big, enters_ref01_Big⟩ (all_cons ⟨he_ref01_Join, enters_ref01_Join⟩ all_nil)) (all_cons steq28_ok all_nil)
theorem p_ref21_text_ok (he_ref01_Big : SigOk Go.Proofs.Try.prog 64 ⟨[.int .u64, .int .i64], [.sl (.int .u8)], g_ref01_Big⟩) (he_ref01_Join : SigOk Go.Proofs.Try.prog 31 ⟨[.sls (.int .u8)], [.sl (.int .u8)], g_ref01_Join⟩) {g : Ds [.sl (.int .u8)] → Option (Rs [.sl (.int .u8)])} (hg : ∀ x r, g x = some r → ∃ N, p_ref21_text N x = some r) : SigOk Go.Proofs.Try.prog 65 ⟨[.sl (.int .u8)], [.sl (.int .u8)], g⟩ :=
  fun_of (E := p_ref21_text_E) (H := p_ref21_text_H) (L := fun N => LT.nil) (c := p_ref21_text_c) (ks := p_ref21_text_ks) (rs := p_ref21_text_rs) (F := p_ref21_text) (p_ref21_text_Eok he_ref01_Big he_ref01_Join) mix Go.Proofs.Try.func65 (by kernel_rfl) (fun N => OkAll.nil) p_ref21_text_eq hg
end Go.Ax.TryP
/-! ### Texts joined, numbers as bytes -/
set_option linter.unusedVariables false
namespace Go.Ax.TryP
def bytes (zs : List Int) : Prop := ∀ z ∈ zs, 0 ≤ z ∧ z ≤ 255
def rowsOk (l : List (List Int)) : Prop := l.length ≤ maxLen ∧ ∀ zs ∈ l, zs.length ≤ maxLen ∧ bytes zs
theorem wf_rows {l : List (List Int)} : Kd.wf (.sls (.int .u8)) l ↔ rowsOk l := by simp [Kd.wf, rowsOk, bytes, okInt_u8]
theorem wf_b1 {b : List Int} : Kd.wf (.sl (.int .u8)) b ↔ b.length ≤ maxLen ∧ bytes b := by simp only [wf_bytes]; exact Iff.rfl
theorem flat_one {l : List (List Int)} {i : Nat} (hi : i < l.length) : (l.take (i + 1)).flatten = (l.take i).flatten ++ l.getD i [] := by
  rw [List.take_succ_eq_append_getElem hi, List.flatten_append, List.getD_eq_getElem?_getD, List.getElem?_eq_getElem hi]; simp
theorem flat_le (l : List (List Int)) (i : Nat) : (l.take i).flatten.length ≤ l.flatten.length := by
  conv => rhs; rw [← List.take_append_drop i l, List.flatten_append, List.length_append]
  omega
theorem flat_bytes {l : List (List Int)} (h : rowsOk l) : bytes l.flatten := fun z hz => by
  obtain ⟨zs, h1, h2⟩ := List.mem_flatten.1 hz
  exact (h.2 zs h1).2 z h2
theorem q_ref01_Join : ∀ x r, g_ref01_Join x = some r → ∃ N, p_ref01_Join N x = some r := by
  refine Spec_of (ks := p_ref01_Join_ks) (rs := p_ref01_Join_rs) fun x hw hq => ?_
  obtain ⟨(l : List (List Int)), u⟩ := x
  obtain ⟨hq1, hq⟩ : l.length ≤ 1000 ∧ l.flatten.length ≤ 1000000 := hq
  refine ⟨l.length + 1, ?_⟩
  unfold p_ref01_Join
  dsimp only
  refine (iter_from (F := p_ref01_Join_l3_F (l.length + 1)) (s := fun i => ((l.take i).flatten.length, l, (l.length : Int), (i : Int), (l.take i).flatten.length, (l.take i).flatten, ()))
    (y := (l.flatten.length, l.flatten.length, l.flatten, ())) l.length rfl ?_ ?_ _ (by omega)).trans ?_
  · intro i hi kn
    have h1 := flat_le l (i + 1)
    rw [flat_one hi] at h1 ⊢
    rw [List.length_append] at h1 ⊢
    unfold p_ref01_Join_l3_F
    dsimp only
    rw [if_pos (by omega), if_pos (by omega), if_pos (by omega), Int.toNat_natCast, if_pos (by omega), wrap_i64 (by omega) (by omega)]
    rfl
  · intro kn
    unfold p_ref01_Join_l3_F
    dsimp only
    rw [if_neg (by omega), List.take_length]
  · rfl
theorem q_octet_Join : ∀ x r, g_octet_Join x = some r → ∃ N, p_octet_Join N x = some r := by
  refine Spec_of (ks := p_octet_Join_ks) (rs := p_octet_Join_rs) fun x hw hq => ?_
  obtain ⟨(l : List (List Int)), u⟩ := x
  obtain ⟨hq1, hq⟩ : l.length ≤ 1000 ∧ l.flatten.length ≤ 1000000 := hq
  refine ⟨l.length + 1, ?_⟩
  unfold p_octet_Join
  dsimp only
  refine (iter_from (F := p_octet_Join_l3_F (l.length + 1)) (s := fun i => (l, ((l.take i).flatten.length : Int), l, (l.length : Int), (i : Int), ())) (y := (l, (l.flatten.length : Int), ())) l.length rfl ?_ ?_ _ (by omega)).trans ?_
  · intro i hi kn
    have h1 := flat_le l (i + 1)
    rw [flat_one hi] at h1 ⊢
    rw [List.length_append] at h1 ⊢
    unfold p_octet_Join_l3_F
    dsimp only
    rw [if_pos (by omega), if_pos (by omega), if_pos (by omega), Int.toNat_natCast, wrap_i64 (by omega) (by omega), wrap_i64 (by omega) (by omega), Int.natCast_add]
    rfl
  · intro kn
    unfold p_octet_Join_l3_F
    dsimp only
    rw [if_neg (by omega), List.take_length]
  dsimp only
  rw [if_pos (by omega), if_pos (by omega), if_pos (by omega)]
  refine (iter_from (F := p_octet_Join_l9_F (l.length + 1)) (s := fun i => ((l.take i).flatten.length, l, (l.length : Int), (i : Int), (l.take i).flatten.length, (l.take i).flatten, ()))
    (y := (l.flatten.length, l.flatten.length, l.flatten, ())) l.length rfl ?_ ?_ _ (by omega)).trans ?_
  · intro i hi kn
    have h1 := flat_le l (i + 1)
    rw [flat_one hi] at h1 ⊢
    rw [List.length_append] at h1 ⊢
    unfold p_octet_Join_l9_F
    dsimp only
    rw [if_pos (by omega), if_pos (by omega), if_pos (by omega), Int.toNat_natCast, if_pos (by omega), wrap_i64 (by omega) (by omega)]
    rfl
  · intro kn
    unfold p_octet_Join_l9_F
    dsimp only
    rw [if_neg (by omega), List.take_length]
  · rfl
theorem at_Join {l : List (List Int)} (h : l.length ≤ 1000 ∧ l.flatten.length ≤ 1000000) (hr : rowsOk l) : g_octet_Join (l, ()) = some l.flatten :=
  Spec_at (ks := p_octet_Join_ks) (rs := p_octet_Join_rs) (x := (l, ())) ⟨wf_rows.2 hr, trivial⟩ h
theorem at_Join' {l : List (List Int)} (h : l.length ≤ 1000 ∧ l.flatten.length ≤ 1000000) (hr : rowsOk l) : g_ref01_Join (l, ()) = some l.flatten :=
  Spec_at (ks := p_ref01_Join_ks) (rs := p_ref01_Join_rs) (x := (l, ())) ⟨wf_rows.2 hr, trivial⟩ h
theorem q_ref01_Equal : ∀ x r, g_ref01_Equal x = some r → ∃ N, p_ref01_Equal N x = some r := by
  refine Spec_of (ks := p_ref01_Equal_ks) (rs := p_ref01_Equal_rs) fun x hw hq => ⟨0, ?_⟩
  obtain ⟨(a : List Int), (b : List Int), u⟩ := x
  unfold p_ref01_Equal
  exact congrArg some (eq_of_bytes (wf_b1.1 hw.1).2 (wf_b1.1 hw.2.1).2)
theorem at_Equal {a b : List Int} (ha : a.length ≤ 1000000 ∧ bytes a) (hb : b.length ≤ 1000000 ∧ bytes b) : g_ref01_Equal (a, b, ()) = some (decide (a = b)) := by
  have hM : 1000000 ≤ maxLen := by decide
  exact Spec_at (ks := p_ref01_Equal_ks) (rs := p_ref01_Equal_rs) (x := (a, b, ())) ⟨(wf_b1 (b := a)).2 ⟨by omega, ha.2⟩, (wf_b1 (b := b)).2 ⟨by omega, hb.2⟩, trivial⟩ trivial
theorem sub_bytes {b : List Int} (h : bytes b) (i n : Nat) : bytes ((b.drop i).take n) := fun z hz => h z (List.mem_of_mem_drop (List.mem_of_mem_take hz))
theorem okInt_u64' {n : Int} : okInt .u64 n ↔ 0 ≤ n ∧ n ≤ 18446744073709551615 := by simp [okInt, Lit.wf, IntKind.min, IntKind.max, IntKind.signed, IntKind.bits]
theorem okInt_u32' {n : Int} : okInt .u32 n ↔ 0 ≤ n ∧ n ≤ 4294967295 := by simp [okInt, Lit.wf, IntKind.min, IntKind.max, IntKind.signed, IntKind.bits]
theorem okInt_u16' {n : Int} : okInt .u16 n ↔ 0 ≤ n ∧ n ≤ 65535 := by simp [okInt, Lit.wf, IntKind.min, IntKind.max, IntKind.signed, IntKind.bits]
def bigP (n : Int) (w i : Nat) : List Int := (List.range w).map fun j => if w - i ≤ j then n / 2 ^ (8 * (w - 1 - j)) % 256 else 0
theorem bigP_all (n : Int) (w : Nat) : bigP n w w = bigS n w := List.map_congr_left fun j _ => by rw [if_pos (by omega)]
theorem bigP_zero (n : Int) (w : Nat) : bigP n w 0 = List.replicate w 0 := by
  refine rows.ext (n := w) (by simp [bigP]) (by simp) fun j hj => ?_
  rw [getD_replicate]
  unfold bigP
  rw [map_range_getD hj, if_neg (by omega)]
theorem bigP_step (n : Int) {w i : Nat} (hi : i < w) : (bigP n w i).set (w - 1 - i) (n / 2 ^ (8 * i) % 256) = bigP n w (i + 1) := by
  have hl : (bigP n w i).length = w := by simp [bigP]
  refine rows.ext (n := w) (by simp [bigP]) (by simp [bigP]) fun j hj => ?_
  by_cases e : w - 1 - i = j
  · subst e
    rw [getD_set_eq (by omega)]
    unfold bigP
    rw [map_range_getD hj, if_pos (by omega), show w - 1 - (w - 1 - i) = i by omega]
  · rw [getD_set_ne e]
    unfold bigP
    rw [map_range_getD hj, map_range_getD hj]
    by_cases h : w - i ≤ j
    · rw [if_pos h, if_pos (by omega)]
    · rw [if_neg h, if_neg (by omega)]
theorem q_octet_big : ∀ x r, g_octet_big x = some r → ∃ N, p_octet_big N x = some r := by
  refine Spec_of (ks := p_octet_big_ks) (rs := p_octet_big_rs) fun x hw hq => ⟨10, ?_⟩
  obtain ⟨(n : Int), (w : Int), u⟩ := x
  have hn : 0 ≤ n ∧ n ≤ 18446744073709551615 := okInt_u64'.1 hw.1
  obtain ⟨h0, h1⟩ : 0 ≤ w ∧ w ≤ 8 := hq
  obtain ⟨w, rfl⟩ : ∃ m : Nat, w = m := ⟨w.toNat, by omega⟩
  obtain ⟨n, rfl⟩ : ∃ m : Nat, n = m := ⟨n.toNat, by omega⟩
  unfold p_octet_big
  dsimp only
  rw [if_pos h0, if_pos rfl, if_pos (by omega), Int.toNat_natCast]
  refine (iter_from (F := p_octet_big_l3_F 10) (s := fun i => ((n : Int), (w : Int), w, (w : Int), (i : Int), w, bigP n w i, ())) (y := (w, w, bigS n w, ())) w ?_ ?_ ?_ 10 (by omega)).trans ?_
  · rw [bigP_zero]; rfl
  · intro i hi kn
    have e1 : IntKind.i64.wrap (8 * (i : Int)) = ((8 * i : Nat) : Int) := by rw [wrap_i64 (by omega) (by omega)]; omega
    have e2 : IntKind.i64.wrap (IntKind.i64.wrap ((w : Int) - 1) - i) = ((w - 1 - i : Nat) : Int) := by rw [wrap_i64 (x := (w : Int) - 1) (by omega) (by omega), wrap_i64 (by omega) (by omega)]; omega
    have e3 : IntKind.u8.wrap (ishr IntKind.u64 (n : Int) ((8 * i : Nat) : Int)) = (n : Int) / 2 ^ (8 * i) % 256 := by
      rw [ishr_nat (k := .u64) (show 8 * i ≤ 64 by omega), wrap_u8_mod]
      simp
    unfold p_octet_big_l3_F
    dsimp only
    rw [if_pos (by omega), e1, e2, if_neg (by omega), if_pos (by omega), if_pos (by omega), Int.toNat_natCast, if_pos (by omega), e3, bigP_step _ hi, wrap_i64 (by omega) (by omega)]
    rfl
  · intro kn
    unfold p_octet_big_l3_F
    dsimp only
    rw [if_neg (by omega), bigP_all]
  · rfl
theorem at_big {n : Int} (hn : 0 ≤ n ∧ n ≤ 18446744073709551615) {w : Nat} (hw : w ≤ 8) : g_octet_big (n, (w : Int), ()) = some (bigS n w) := by
  have := Spec_at (ks := p_octet_big_ks) (rs := p_octet_big_rs) (x := (n, (w : Int), ())) (Q := fun x => 0 ≤ x.2.1 ∧ x.2.1 ≤ 8) (f := fun x => bigS x.1 x.2.1.toNat) ⟨okInt_u64'.2 hn, (okInt_i64 (n := (w : Int))).2 (by omega), trivial⟩ ⟨by show (0 : Int) ≤ w; omega, by show (w : Int) ≤ 8; omega⟩
  exact this
theorem wrap_u64' {x : Int} (h0 : 0 ≤ x) (h1 : x ≤ 18446744073709551615) : IntKind.u64.wrap x = x := by simp [IntKind.wrap, IntKind.signed, IntKind.bits]; omega
theorem q_octet_U16 : ∀ x r, g_octet_U16 x = some r → ∃ N, p_octet_U16 N x = some r := by
  refine Spec_of (ks := p_octet_U16_ks) (rs := p_octet_U16_rs) fun x hw hq => ⟨0, ?_⟩
  obtain ⟨(n : Int), u⟩ := x
  have hn : 0 ≤ n ∧ n ≤ 65535 := okInt_u16'.1 hw.1
  unfold p_octet_U16
  dsimp only
  rw [wrap_u64' (by omega) (by omega)]
  exact congrArg (fun o => Option.bind o _) (at_big (n := n) (by omega) (w := 2) (by omega))
theorem at_U16 {n : Int} (h : 0 ≤ n ∧ n ≤ 65535) : g_octet_U16 (n, ()) = some (bigS n 2) := Spec_at (ks := p_octet_U16_ks) (rs := p_octet_U16_rs) (x := (n, ())) ⟨okInt_u16'.2 h, trivial⟩ trivial
theorem q_span_one : ∀ x r, g_span_one x = some r → ∃ N, p_span_one N x = some r := by
  refine Spec_of (ks := p_span_one_ks) (rs := p_span_one_rs) fun x hw hq => ⟨0, ?_⟩
  unfold p_span_one oneS
  by_cases h : x.1.1 < x.1.2.1
  · rw [if_pos h]
    exact congrArg some (decide_eq_decide.2 ⟨fun g => ⟨h, g⟩, fun g => g.2⟩)
  · rw [if_neg h]
    exact congrArg some (by simp [h])
theorem at_one {lo hi : Int} (h1 : 0 ≤ lo ∧ lo ≤ 18446744073709551615) (h2 : 0 ≤ hi ∧ hi ≤ 18446744073709551615) : g_span_one ((lo, hi, ()), ()) = some (oneS lo hi) :=
  Spec_at (ks := p_span_one_ks) (rs := p_span_one_rs) (x := ((lo, hi, ()), ())) ⟨⟨okInt_u64'.2 h1, okInt_u64'.2 h2, trivial⟩, trivial⟩ trivial
theorem q_span_May : ∀ x r, g_span_May x = some r → ∃ N, p_span_May N x = some r := by
  refine Spec_of (ks := p_span_May_ks) (rs := p_span_May_rs) fun x hw hq => ⟨3, ?_⟩
  obtain ⟨(l : List Int), u⟩ := x
  have hl : l.length = 2 := hq
  obtain ⟨a, b, rfl⟩ : ∃ a b, l = [a, b] := by
    match l, hl with
    | [a, b], _ => exact ⟨a, b, rfl⟩
  have hb : ∀ z ∈ [a, b], okInt .u64 z := hw.1.2
  have ha1 := okInt_u64'.1 (hb a (by simp))
  have hb1 := okInt_u64'.1 (hb b (by simp))
  unfold p_span_May
  dsimp only
  rw [show ([a, b] : List Int).length / 2 = 1 by simp, show ([a, b] : List Int).length = 2 from rfl]
  show iter (p_span_May_l2_F 3) 3 (1, 1, (1 : Int), (0 : Int), 2, [a, b], ()) _ = some (oneS a b)
  simp only [iter]
  unfold p_span_May_l2_F
  dsimp only
  rw [if_pos (by omega), if_pos (by omega), if_pos (by omega), if_pos (by omega)]
  refine (congrArg (fun o => Option.bind o _) (at_one ha1 hb1)).trans ?_
  rw [Option.bind_some]
  by_cases h : oneS a b = true
  · rw [if_neg (by simp [h]), if_neg (by omega), wrap_i64 (by omega) (by omega), if_neg (by omega), h]
    rfl
  · rw [if_pos h]
    have : oneS a b = false := by simpa using h
    rw [this]
theorem at_May {a b : Int} (h1 : 0 ≤ a ∧ a ≤ 18446744073709551615) (h2 : 0 ≤ b ∧ b ≤ 18446744073709551615) : g_span_May ([a, b], ()) = some (oneS a b) := by
  have hM : 1 ≤ maxLen := by decide
  have w : Kd.wf (.sla (.int .u64) 2) [a, b] := ⟨⟨1, rfl, hM⟩, fun z hz => by
    rcases List.mem_cons.1 hz with rfl | hz
    · exact okInt_u64'.2 h1
    · rw [List.mem_singleton.1 hz]; exact okInt_u64'.2 h2⟩
  exact Spec_at (ks := p_span_May_ks) (rs := p_span_May_rs) (x := ([a, b], ())) ⟨w, trivial⟩ rfl
theorem bigS_len (n : Int) (w : Nat) : (bigS n w).length = w := by simp [bigS]
theorem bigS_bytes (n : Int) (w : Nat) : bytes (bigS n w) := fun z hz => by
  obtain ⟨i, _, rfl⟩ := List.mem_map.1 hz
  omega
end Go.Ax.TryP
/-! ### Kinds, letters, numbers that fit -/
set_option linter.unusedVariables false
namespace Go.Ax.TryP
theorem okInt_i32' {n : Int} : okInt .i32 n ↔ -2147483648 ≤ n ∧ n ≤ 2147483647 := by simp [okInt, Lit.wf, IntKind.min, IntKind.max, IntKind.signed, IntKind.bits]
theorem maxL : maxLen = 9223372036854775807 := by decide
theorem q_msg_Has : ∀ x r, g_msg_Has x = some r → ∃ N, p_msg_Has N x = some r := by
  refine Spec_of (ks := p_msg_Has_ks) (rs := p_msg_Has_rs) fun x hw hq => ⟨0, ?_⟩
  unfold p_msg_Has hasT
  repeat' split
  all_goals rfl
theorem q_ref21_Has : ∀ x r, g_ref21_Has x = some r → ∃ N, p_ref21_Has N x = some r := by
  refine Spec_of (ks := p_ref21_Has_ks) (rs := p_ref21_Has_rs) fun x hw hq => ⟨0, ?_⟩
  unfold p_ref21_Has hasT
  repeat' split
  all_goals rfl
theorem at_Has {k : Int} (h : -9223372036854775808 ≤ k ∧ k ≤ 9223372036854775807) : g_msg_Has (k, ()) = some (hasT k) := Spec_at (ks := p_msg_Has_ks) (rs := p_msg_Has_rs) (x := (k, ())) ⟨okInt_i64.2 h, trivial⟩ trivial
theorem at_Has' {k : Int} (h : -9223372036854775808 ≤ k ∧ k ≤ 9223372036854775807) : g_ref21_Has (k, ()) = some (hasT k) := Spec_at (ks := p_ref21_Has_ks) (rs := p_ref21_Has_rs) (x := (k, ())) ⟨okInt_i64.2 h, trivial⟩ trivial
theorem name_out {k : Int} (h : k < 1 ∨ 8 < k) : nameT k = ⟨#[]⟩ := by
  unfold nameT
  repeat' (split; (try omega))
  rfl
theorem name_in {k : Int} (h : 1 ≤ k ∧ k ≤ 8) : nameT k ≠ ⟨#[]⟩ := by
  have : k = 1 ∨ k = 2 ∨ k = 3 ∨ k = 4 ∨ k = 5 ∨ k = 6 ∨ k = 7 ∨ k = 8 := by omega
  rcases this with rfl | rfl | rfl | rfl | rfl | rfl | rfl | rfl <;> decide
theorem q_msg_Name : ∀ x r, g_msg_Name x = some r → ∃ N, p_msg_Name N x = some r := by
  refine Spec_of (ks := p_msg_Name_ks) (rs := p_msg_Name_rs) fun x hw hq => ⟨0, ?_⟩
  obtain ⟨(k : Int), u⟩ := x
  show p_msg_Name 0 (k, u) = some (nameT k)
  by_cases h : k < 1 ∨ 8 < k
  · rw [name_out h]
    unfold p_msg_Name
    dsimp only
    by_cases h0 : k < 0
    · rw [if_pos h0]
    by_cases h9 : 9 ≤ k
    · rw [if_neg h0, if_pos h9]
    have : k = 0 := by omega
    subst this
    rfl
  · have : k = 1 ∨ k = 2 ∨ k = 3 ∨ k = 4 ∨ k = 5 ∨ k = 6 ∨ k = 7 ∨ k = 8 := by omega
    rcases this with rfl | rfl | rfl | rfl | rfl | rfl | rfl | rfl <;> rfl
theorem q_ref21_Name : ∀ x r, g_ref21_Name x = some r → ∃ N, p_ref21_Name N x = some r := by
  refine Spec_of (ks := p_ref21_Name_ks) (rs := p_ref21_Name_rs) fun x hw hq => ⟨0, ?_⟩
  obtain ⟨(k : Int), u⟩ := x
  show p_ref21_Name 0 (k, u) = some (nameT k)
  by_cases h : k < 1 ∨ 8 < k
  · rw [name_out h]
    unfold p_ref21_Name
    dsimp only
    by_cases h0 : k < 1
    · rw [if_pos h0]
    · rw [if_neg h0, if_pos (by omega)]
  · have : k = 1 ∨ k = 2 ∨ k = 3 ∨ k = 4 ∨ k = 5 ∨ k = 6 ∨ k = 7 ∨ k = 8 := by omega
    rcases this with rfl | rfl | rfl | rfl | rfl | rfl | rfl | rfl <;> rfl
theorem at_Name {k : Int} (h : -9223372036854775808 ≤ k ∧ k ≤ 9223372036854775807) : g_msg_Name (k, ()) = some (nameT k) := Spec_at (ks := p_msg_Name_ks) (rs := p_msg_Name_rs) (x := (k, ())) ⟨okInt_i64.2 h, trivial⟩ trivial
theorem at_Name' {k : Int} (h : -9223372036854775808 ≤ k ∧ k ≤ 9223372036854775807) : g_ref21_Name (k, ()) = some (nameT k) := Spec_at (ks := p_ref21_Name_ks) (rs := p_ref21_Name_rs) (x := (k, ())) ⟨okInt_i64.2 h, trivial⟩ trivial
theorem q_msg_has : ∀ x r, g_msg_has x = some r → ∃ N, p_msg_has N x = some r := by
  refine Spec_of (ks := p_msg_has_ks) (rs := p_msg_has_rs) fun x hw hq => ⟨0, ?_⟩
  obtain ⟨(k : Int), (c : Int), u⟩ := x
  show p_msg_has 0 (k, c, u) = some (hasB k c)
  unfold p_msg_has hasB hasS
  dsimp only
  repeat' split
  all_goals simp_all [eq_comm]
theorem q_ref21_has : ∀ x r, g_ref21_has x = some r → ∃ N, p_ref21_has N x = some r := by
  refine Spec_of (ks := p_ref21_has_ks) (rs := p_ref21_has_rs) fun x hw hq => ⟨0, ?_⟩
  obtain ⟨(k : Int), (c : Int), u⟩ := x
  show p_ref21_has 0 (k, c, u) = some (hasB k c)
  unfold p_ref21_has hasB hasS
  dsimp only
  repeat' split
  all_goals simp_all [eq_comm]
theorem at_has {k c : Int} (h : -9223372036854775808 ≤ k ∧ k ≤ 9223372036854775807) (hc : -2147483648 ≤ c ∧ c ≤ 2147483647) : g_msg_has (k, c, ()) = some (hasB k c) := Spec_at (ks := p_msg_has_ks) (rs := p_msg_has_rs) (x := (k, c, ())) ⟨okInt_i64.2 h, okInt_i32'.2 hc, trivial⟩ trivial
theorem at_has' {k c : Int} (h : -9223372036854775808 ≤ k ∧ k ≤ 9223372036854775807) (hc : -2147483648 ≤ c ∧ c ≤ 2147483647) : g_ref21_has (k, c, ()) = some (hasB k c) := Spec_at (ks := p_ref21_has_ks) (rs := p_ref21_has_rs) (x := (k, c, ())) ⟨okInt_i64.2 h, okInt_i32'.2 hc, trivial⟩ trivial
theorem q_msg_device : ∀ x r, g_msg_device x = some r → ∃ N, p_msg_device N x = some r := by
  refine Spec_of (ks := p_msg_device_ks) (rs := p_msg_device_rs) fun x hw hq => ⟨0, ?_⟩
  obtain ⟨(n : Int), u⟩ := x
  unfold p_msg_device devS
  dsimp only
  by_cases h : n ≥ 0
  · rw [if_pos h]
    exact congrArg some (decide_eq_decide.2 ⟨fun g => ⟨h, g⟩, fun g => g.2⟩)
  · rw [if_neg h]
    exact congrArg some (decide_eq_false (by omega)).symm
theorem at_device {n : Int} (h : -9223372036854775808 ≤ n ∧ n ≤ 9223372036854775807) : g_msg_device (n, ()) = some (devS n) :=
  Spec_at (ks := p_msg_device_ks) (rs := p_msg_device_rs) (x := (n, ())) ⟨okInt_i64.2 h, trivial⟩ trivial
theorem q_msg_most : ∀ x r, g_msg_most x = some r → ∃ N, p_msg_most N x = some r := by
  refine Spec_of (ks := p_msg_most_ks) (rs := p_msg_most_rs) fun x hw hq => ⟨0, ?_⟩
  unfold p_msg_most mostS
  split <;> rfl
theorem at_most {k : Int} (h : -9223372036854775808 ≤ k ∧ k ≤ 9223372036854775807) : g_msg_most (k, ()) = some (mostS k) := Spec_at (ks := p_msg_most_ks) (rs := p_msg_most_rs) (x := (k, ())) ⟨okInt_i64.2 h, trivial⟩ trivial
theorem q_msg_within : ∀ x r, g_msg_within x = some r → ∃ N, p_msg_within N x = some r := by
  refine Spec_of (ks := p_msg_within_ks) (rs := p_msg_within_rs) fun x hw hq => ⟨0, ?_⟩
  obtain ⟨(is : Bool), (b : List Int), (m : Int), u⟩ := x
  show p_msg_within 0 (is, b, m, u) = some (withS is b.length m)
  unfold p_msg_within withS
  dsimp only
  cases is with
  | false =>
    rw [if_pos (by simp), if_neg (by simp)]
    exact congrArg some (decide_eq_decide.2 (by omega))
  | true =>
    rw [if_neg (by simp), if_pos rfl]
    by_cases h : (b.length : Int) ≥ 1
    · rw [if_pos h]
      exact congrArg some (decide_eq_decide.2 (by omega))
    · rw [if_neg h]
      exact congrArg some (decide_eq_false (by omega)).symm
theorem at_within {is : Bool} {b : List Int} {m : Int} (hb : b.length ≤ maxLen ∧ bytes b) (hm : -9223372036854775808 ≤ m ∧ m ≤ 9223372036854775807) : g_msg_within (is, b, m, ()) = some (withS is b.length m) :=
  Spec_at (ks := p_msg_within_ks) (rs := p_msg_within_rs) (x := (is, b, m, ())) ⟨trivial, wf_b1.2 hb, okInt_i64.2 hm, trivial⟩ trivial
theorem q_octet_fits : ∀ x r, g_octet_fits x = some r → ∃ N, p_octet_fits N x = some r := by
  refine Spec_of (ks := p_octet_fits_ks) (rs := p_octet_fits_rs) fun x hw hq => ⟨0, ?_⟩
  obtain ⟨(n : Int), (w : Int), u⟩ := x
  have hn : 0 ≤ n ∧ n ≤ 18446744073709551615 := okInt_u64'.1 hw.1
  obtain ⟨h0, h1⟩ : 1 ≤ w ∧ w ≤ 8 := hq
  obtain ⟨w, rfl⟩ : ∃ m : Nat, w = m := ⟨w.toNat, by omega⟩
  obtain ⟨n, rfl⟩ : ∃ m : Nat, n = m := ⟨n.toNat, by omega⟩
  show p_octet_fits 0 ((n : Int), (w : Int), u) = some (fitS n w)
  unfold p_octet_fits fitS
  dsimp only
  rw [if_neg (by omega), if_neg (by omega)]
  by_cases h : (w : Int) < 8
  · have e1 : IntKind.i64.wrap (8 * (w : Int)) = ((8 * w : Nat) : Int) := by rw [wrap_i64 (by omega) (by omega)]; omega
    rw [if_pos h, e1, if_neg (by omega), ishr_nat (k := .u64) (show 8 * w ≤ 64 by omega), Int.toNat_natCast]
    have e2 : ((n / 2 ^ (8 * w) : Nat) : Int) = (n : Int) / 2 ^ (8 * w) := by simp
    rw [e2]
    by_cases h2 : (n : Int) / 2 ^ (8 * w) ≠ 0
    · rw [if_pos h2, if_pos ⟨h, h2⟩]
    · rw [if_neg h2, if_neg (fun g => h2 g.2)]
  · rw [if_neg h, if_neg (fun g => h g.1)]
theorem at_fits {n : Int} (hn : 0 ≤ n ∧ n ≤ 18446744073709551615) {w : Int} (hw : 1 ≤ w ∧ w ≤ 8) : g_octet_fits (n, w, ()) = some (fitS n w) :=
  Spec_at (ks := p_octet_fits_ks) (rs := p_octet_fits_rs) (x := (n, w, ())) ⟨okInt_u64'.2 hn, (okInt_i64 (n := w)).2 (by omega), trivial⟩ hw
theorem q_octet_Big : ∀ x r, g_octet_Big x = some r → ∃ N, p_octet_Big N x = some r := by
  refine Spec_of (ks := p_octet_Big_ks) (rs := p_octet_Big_rs) fun x hw hq => ⟨0, ?_⟩
  obtain ⟨(n : Int), (w : Int), u⟩ := x
  have hn : 0 ≤ n ∧ n ≤ 18446744073709551615 := okInt_u64'.1 hw.1
  obtain ⟨h0, h1, h2⟩ : 1 ≤ w ∧ w ≤ 8 ∧ fitS n w = 0 := hq
  obtain ⟨w, rfl⟩ : ∃ m : Nat, w = m := ⟨w.toNat, by omega⟩
  unfold p_octet_Big
  dsimp only
  rw [at_fits hn ⟨h0, h1⟩, Option.bind_some, h2, if_neg (by omega)]
  exact congrArg (fun o => Option.bind o _) (at_big hn (w := w) (by omega))
theorem at_Big {n : Int} (hn : 0 ≤ n ∧ n ≤ 18446744073709551615) {w : Nat} (hw : 1 ≤ w ∧ w ≤ 8) (hf : fitS n w = 0) : g_octet_Big (n, (w : Int), ()) = some (bigS n w, 0) :=
  Spec_at (ks := p_octet_Big_ks) (rs := p_octet_Big_rs) (x := (n, (w : Int), ())) ⟨okInt_u64'.2 hn, (okInt_i64 (n := (w : Int))).2 (by omega), trivial⟩ ⟨by show (1 : Int) ≤ w; omega, by show (w : Int) ≤ 8; omega, hf⟩
theorem fit_of {n : Int} (h0 : 0 ≤ n) {w : Nat} (h : n < 2 ^ (8 * w)) : fitS n w = 0 := by
  unfold fitS
  rw [if_neg]
  rintro ⟨_, h2⟩
  rw [Int.toNat_natCast] at h2
  exact h2 (Int.ediv_eq_zero_of_lt h0 h)
theorem fit_8 {n : Int} : fitS n 8 = 0 := by
  unfold fitS
  rw [if_neg (by omega)]
end Go.Ax.TryP
/-! ### Bits, marks, ranges, parts -/
set_option linter.unusedVariables false
namespace Go.Ax.TryP
theorem byte_at {a : List Int} (h : bytes a) (i : Nat) : 0 ≤ a.getD i 0 ∧ a.getD i 0 ≤ 255 := by
  rw [List.getD_eq_getElem?_getD]
  cases e : a[i]? with
  | none => simp
  | some z => exact h z (List.mem_of_getElem? e)
theorem one_set (v : Int) : (List.replicate 1 (0 : Int)).set 0 v = [v] := rfl
theorem q_ref01_Bits : ∀ x r, g_ref01_Bits x = some r → ∃ N, p_ref01_Bits N x = some r := by
  refine Spec_of (ks := p_ref01_Bits_ks) (rs := p_ref01_Bits_rs) fun x hw hq => ⟨x.1.length + 10, ?_⟩
  obtain ⟨(b : List Int), u⟩ := x
  have hq : b.length ≤ 1000000 := hq
  have hb : bytes b := (wf_b1.1 hw.1).2
  unfold p_ref01_Bits
  refine (iter_run (s := fun i => (8 * i, b.length, (b.length : Int), (i : Int), 8 * i, (List.range (8 * i)).map (bitAt b), b.length, b, ())) (y := (8 * b.length, 8 * b.length, bitsOf b, ())) b.length ?_ ?_ _ (by simp only; omega)).trans ?_
  · intro i hi kn
    have g1 : (i : Int) < (b.length : Int) := by omega
    have g0 : (0 : Int) ≤ i := by omega
    have hz := byte_at hb i
    unfold p_ref01_Bits_l3_F
    simp only [g1, g0, hi, if_true, Int.toNat_natCast]
    rw [wrap_i64 (x := b.getD i 0) (by omega) (by omega)]
    have e0 : b.getD i 0 / 2 ^ 0 = b.getD i 0 := by rw [Int.pow_zero, Int.ediv_one]
    rw [← e0]
    refine (iter_run (s := fun r => (8 * i + r, b.getD i 0 / 2 ^ r, b.length, (b.length : Int), (i : Int), (r : Int), 8 * i + r, (List.range (8 * i + r)).map (bitAt b), b.length, b, ())) (y := (8 * i + 8, b.length, (b.length : Int), (i : Int), 8 * i + 8, (List.range (8 * i + 8)).map (bitAt b), b.length, b, ())) 8 ?_ ?_ (b.length + 10) (by omega)).trans ?_
    · intro r hr kn
      have hp : (0 : Int) < 2 ^ r := pow2_pos r
      have h1 : 0 ≤ b.getD i 0 / 2 ^ r := Int.ediv_nonneg hz.1 (Int.le_of_lt hp)
      have h2 : b.getD i 0 / 2 ^ r ≤ b.getD i 0 := Int.ediv_le_self _ hz.1
      have e1 : b.getD i 0 / 2 ^ r / 2 = b.getD i 0 / 2 ^ (r + 1) := by rw [Int.ediv_ediv_of_nonneg (Int.le_of_lt hp), Int.pow_succ]
      have e2 : (if b.getD i 0 / 2 ^ r % 2 = 1 then (1 : Int) else 0) = bitAt b (8 * i + r) := by
        unfold bitAt bitI
        rw [show (8 * i + r) / 8 = i by omega, show (8 * i + r) % 8 = r by omega]
        split <;> omega
      unfold p_ref01_Bits_l7_F
      simp (disch := omega) only [if_pos, wrap_i64, tmod_pos, tdiv_pos, one_set, e1, e2, map_range_succ]
      rw [Int.natCast_add, show 8 * i + r + 1 = 8 * i + (r + 1) by omega]
      rfl
    · intro kn
      unfold p_ref01_Bits_l7_F
      simp (disch := omega) only [if_neg]
    · simp (disch := omega) only [wrap_i64]
      rw [Int.natCast_add, show 8 * i + 8 = 8 * (i + 1) by omega]
      rfl
  · intro kn
    unfold p_ref01_Bits_l3_F
    simp (disch := omega) only [if_neg]
    rfl
  · rfl
theorem q_octet_Bits : ∀ x r, g_octet_Bits x = some r → ∃ N, p_octet_Bits N x = some r := by
  refine Spec_of (ks := p_octet_Bits_ks) (rs := p_octet_Bits_rs) fun x hw hq => ⟨x.1.length + 10, ?_⟩
  obtain ⟨(b : List Int), u⟩ := x
  have hq : b.length ≤ 1000000 := hq
  have hb : bytes b := (wf_b1.1 hw.1).2
  unfold p_octet_Bits
  dsimp only
  rw [wrap_i64 (by omega) (by omega), if_pos (by omega), if_pos (by omega), if_pos (by omega)]
  refine (iter_run (s := fun i => (8 * i, b.length, (b.length : Int), (i : Int), 8 * i, (List.range (8 * i)).map (bitAt b), b.length, b, ())) (y := (8 * b.length, 8 * b.length, bitsOf b, ())) b.length ?_ ?_ _ (by omega)).trans ?_
  · intro i hi kn
    have g1 : (i : Int) < (b.length : Int) := by omega
    have g0 : (0 : Int) ≤ i := by omega
    have hz := byte_at hb i
    unfold p_octet_Bits_l3_F
    simp only [g1, g0, hi, if_true, Int.toNat_natCast]
    refine (iter_run (s := fun r => (8 * i + r, b.getD i 0, b.length, (b.length : Int), (i : Int), (r : Int), 8 * i + r, (List.range (8 * i + r)).map (bitAt b), b.length, b, ())) (y := (8 * i + 8, b.length, (b.length : Int), (i : Int), 8 * i + 8, (List.range (8 * i + 8)).map (bitAt b), b.length, b, ())) 8 ?_ ?_ (b.length + 10) (by omega)).trans ?_
    · intro r hr kn
      have e2 : (if iand .u8 (ishr .u8 (b.getD i 0) (r : Int)) 1 = 1 then (1 : Int) else 0) = bitAt b (8 * i + r) := by
        rw [bit_u8 hz.1 hz.2 (by omega)]
        unfold bitAt
        rw [show (8 * i + r) / 8 = i by omega, show (8 * i + r) % 8 = r by omega]
        have := bitI_b (b.getD i 0) r
        split <;> omega
      unfold p_octet_Bits_l6_F
      dsimp only
      rw [if_pos (by omega), if_neg (by omega), if_pos (by omega), e2, wrap_i64 (by omega) (by omega), one_set, map_range_succ, show 8 * i + r + 1 = 8 * i + (r + 1) by omega]
      rfl
    · intro kn
      unfold p_octet_Bits_l6_F
      dsimp only
      rw [if_neg (by omega)]
    · simp (disch := omega) only [wrap_i64]
      rw [Int.natCast_add, show 8 * i + 8 = 8 * (i + 1) by omega]
      rfl
  · intro kn
    unfold p_octet_Bits_l3_F
    simp (disch := omega) only [if_neg]
    rfl
  · rfl
theorem at_Bits {b : List Int} (h : b.length ≤ 1000000) (hb : bytes b) : g_octet_Bits (b, ()) = some (bitsOf b) := by
  have hM : 1000000 ≤ maxLen := by decide
  exact Spec_at (ks := p_octet_Bits_ks) (rs := p_octet_Bits_rs) (x := (b, ())) ⟨(wf_b1 (b := b)).2 ⟨by omega, hb⟩, trivial⟩ h
theorem at_Bits' {b : List Int} (h : b.length ≤ 1000000) (hb : bytes b) : g_ref01_Bits (b, ()) = some (bitsOf b) := by
  have hM : 1000000 ≤ maxLen := by decide
  exact Spec_at (ks := p_ref01_Bits_ks) (rs := p_ref01_Bits_rs) (x := (b, ())) ⟨(wf_b1 (b := b)).2 ⟨by omega, hb⟩, trivial⟩ h
/-- Bits behind the last part. -/
def badAt (n : Int) (b : List Int) (i : Nat) : Prop := i < 8 * b.length ∧ bitAt b i ≠ 0 ∧ n ≤ (i : Int)
theorem markS_iff {n : Int} {b : List Int} : markS n b = true ↔ (b.length : Int) = (n + 7) / 8 ∧ ∀ i, ¬ badAt n b i := by
  unfold markS badAt
  simp only [Bool.and_eq_true, decide_eq_true_eq, List.all_eq_true, List.mem_range, Bool.or_eq_true]
  refine and_congr_right fun _ => forall_congr' fun i => ?_
  constructor
  · rintro h ⟨h1, h2, h3⟩
    rcases h h1 with h | h
    · exact h2 h
    · omega
  · intro h h1
    by_cases h2 : bitAt b i = 0
    · exact .inl h2
    · exact .inr (by
        rcases Int.lt_or_le (i : Int) n with h3 | h3
        · exact h3
        · exact absurd ⟨h1, h2, h3⟩ h)
theorem least_bad {n : Int} {b : List Int} (h : ∃ i, badAt n b i) : ∃ i, badAt n b i ∧ ∀ j, j < i → ¬ badAt n b j := by
  obtain ⟨i, hi⟩ := h
  induction i using Nat.strongRecOn with
  | _ i ih =>
    by_cases h : ∃ j, j < i ∧ badAt n b j
    · obtain ⟨j, h1, h2⟩ := h
      exact ih j h1 h2
    · exact ⟨i, hi, fun j hj hb => h ⟨j, hj, hb⟩⟩
theorem mark_loop {F : Nat → (β : Type) → (Int × Nat × Int × Int × Nat × List Int × Unit) → ((Int × Nat × Int × Int × Nat × List Int × Unit) → Option β) → (((Bool × Unit) ⊕ Unit) → Option β) → Option β}
    (hF : ∀ N, F N = fun β x kn ke => if x.2.2.2.1 < x.2.2.1 then (if 0 ≤ x.2.2.2.1 then (if x.2.2.2.1 < ((x.2.1 : Nat) : Int) then (if x.2.2.2.1.toNat < x.2.2.2.2.1 then (if List.getD x.2.2.2.2.2.1 x.2.2.2.1.toNat 0 ≠ 0 then (if x.2.2.2.1 ≥ x.1 then ke (.inl (false, ())) else kn (x.1, x.2.1, x.2.2.1, IntKind.i64.wrap (x.2.2.2.1 + 1), x.2.2.2.2.1, x.2.2.2.2.2.1, ())) else kn (x.1, x.2.1, x.2.2.1, IntKind.i64.wrap (x.2.2.2.1 + 1), x.2.2.2.2.1, x.2.2.2.2.2.1, ())) else none) else none) else none) else ke (.inr ()))
    {n : Int} {b : List Int} (hl : b.length ≤ 1000000) {N : Nat} (hN : 8 * b.length < N) {β : Type} (K : ((Bool × Unit) ⊕ Unit) → Option β) :
    ((∃ i, badAt n b i) → iter (F N) N (n, (bitsOf b).length, (((bitsOf b).length : Nat) : Int), (0 : Int), (bitsOf b).length, bitsOf b, ()) K = K (.inl (false, ()))) ∧
    ((¬ ∃ i, badAt n b i) → iter (F N) N (n, (bitsOf b).length, (((bitsOf b).length : Nat) : Int), (0 : Int), (bitsOf b).length, bitsOf b, ()) K = K (.inr ())) := by
  have e := bitsOf_len b
  have step : ∀ (i : Nat), i < 8 * b.length → ¬ badAt n b i → ∀ (kn : (Int × Nat × Int × Int × Nat × List Int × Unit) → Option β) (ke : ((Bool × Unit) ⊕ Unit) → Option β), F N β (n, (bitsOf b).length, (((bitsOf b).length : Nat) : Int), (i : Int), (bitsOf b).length, bitsOf b, ()) kn ke = kn (n, (bitsOf b).length, (((bitsOf b).length : Nat) : Int), ((i + 1 : Nat) : Int), (bitsOf b).length, bitsOf b, ()) := by
    intro i hi hb kn ke
    rw [hF]
    dsimp only
    rw [if_pos (by omega), if_pos (by omega), if_pos (by omega), Int.toNat_natCast, if_pos (by omega), bitsOf_getD hi, wrap_i64 (by omega) (by omega)]
    by_cases h2 : bitAt b i ≠ 0
    · rw [if_pos h2, if_neg (fun h3 => hb ⟨hi, h2, h3⟩)]
      rfl
    · rw [if_neg h2]
      rfl
  refine ⟨fun hex => ?_, fun hex => ?_⟩
  · obtain ⟨i, hi, hmin⟩ := least_bad hex
    refine iter_from (F := F N) (s := fun i => (n, (bitsOf b).length, (((bitsOf b).length : Nat) : Int), (i : Int), (bitsOf b).length, bitsOf b, ())) (y := .inl (false, ())) i rfl ?_ ?_ N (by have := hi.1; omega)
    · exact fun j hj kn => step j (by have := hi.1; omega) (hmin j hj) kn K
    · intro kn
      obtain ⟨k1, k2, k3⟩ := hi
      rw [hF]
      dsimp only
      rw [if_pos (by omega), if_pos (by omega), if_pos (by omega), Int.toNat_natCast, if_pos (by omega), bitsOf_getD k1, if_pos k2, if_pos k3]
  · refine iter_from (F := F N) (s := fun i => (n, (bitsOf b).length, (((bitsOf b).length : Nat) : Int), (i : Int), (bitsOf b).length, bitsOf b, ())) (y := .inr ()) (8 * b.length) rfl ?_ ?_ N (by omega)
    · exact fun j hj kn => step j hj (fun h => hex ⟨j, h⟩) kn K
    · intro kn
      rw [hF]
      dsimp only
      rw [if_neg (by omega)]
theorem q_msg_marked : ∀ x r, g_msg_marked x = some r → ∃ N, p_msg_marked N x = some r := by
  refine Spec_of (ks := p_msg_marked_ks) (rs := p_msg_marked_rs) fun x hw hq => ?_
  obtain ⟨(n : Int), (b : List Int), u⟩ := x
  obtain ⟨h0, h1⟩ : 0 ≤ n ∧ n ≤ 1000 := hq
  have hb : bytes b := (wf_b1.1 hw.2.1).2
  refine ⟨8 * b.length + 1, ?_⟩
  show p_msg_marked (8 * b.length + 1) (n, b, u) = some (markS n b)
  unfold p_msg_marked
  dsimp only
  rw [wrap_i64 (x := n + 7) (by omega) (by omega), tdiv_pos (by omega), wrap_i64 (by omega) (by omega)]
  by_cases hl : (b.length : Int) = (n + 7) / 8
  · rw [if_neg (fun h => h hl), at_Bits (by omega) hb, Option.bind_some]
    obtain ⟨k1, k2⟩ := mark_loop (F := p_msg_marked_l4_F) (fun _ => rfl) (n := n) (b := b) (by omega) (N := 8 * b.length + 1) (by omega) (fun y => match y with | .inl y2 => some y2.1 | .inr _ => some true)
    by_cases hex : ∃ i, badAt n b i
    · refine (k1 hex).trans (congrArg some ?_)
      obtain ⟨i, hi⟩ := hex
      exact (Bool.eq_false_iff.2 fun h => (markS_iff.1 h).2 i hi).symm
    · exact (k2 hex).trans (congrArg some (markS_iff.2 ⟨hl, fun i hi => hex ⟨i, hi⟩⟩).symm)
  · rw [if_pos hl]
    exact congrArg some (Bool.eq_false_iff.2 fun h => hl (markS_iff.1 h).1).symm
theorem q_ref21_marked : ∀ x r, g_ref21_marked x = some r → ∃ N, p_ref21_marked N x = some r := by
  refine Spec_of (ks := p_ref21_marked_ks) (rs := p_ref21_marked_rs) fun x hw hq => ?_
  obtain ⟨(n : Int), (b : List Int), u⟩ := x
  obtain ⟨h0, h1⟩ : 0 ≤ n ∧ n ≤ 1000 := hq
  have hb : bytes b := (wf_b1.1 hw.2.1).2
  refine ⟨8 * b.length + 1, ?_⟩
  show p_ref21_marked (8 * b.length + 1) (n, b, u) = some (markS n b)
  unfold p_ref21_marked
  dsimp only
  rw [wrap_i64 (x := n + 7) (by omega) (by omega), tdiv_pos (by omega), wrap_i64 (by omega) (by omega)]
  by_cases hl : (b.length : Int) = (n + 7) / 8
  · rw [if_neg (fun h => h hl), at_Bits' (by omega) hb, Option.bind_some]
    obtain ⟨k1, k2⟩ := mark_loop (F := p_ref21_marked_l4_F) (fun _ => rfl) (n := n) (b := b) (by omega) (N := 8 * b.length + 1) (by omega) (fun y => match y with | .inl y2 => some y2.1 | .inr _ => some true)
    by_cases hex : ∃ i, badAt n b i
    · refine (k1 hex).trans (congrArg some ?_)
      obtain ⟨i, hi⟩ := hex
      exact (Bool.eq_false_iff.2 fun h => (markS_iff.1 h).2 i hi).symm
    · exact (k2 hex).trans (congrArg some (markS_iff.2 ⟨hl, fun i hi => hex ⟨i, hi⟩⟩).symm)
  · rw [if_pos hl]
    exact congrArg some (Bool.eq_false_iff.2 fun h => hl (markS_iff.1 h).1).symm
theorem at_marked {n : Int} {b : List Int} (hn : 0 ≤ n ∧ n ≤ 1000) (hb : b.length ≤ maxLen ∧ bytes b) : g_msg_marked (n, b, ()) = some (markS n b) :=
  Spec_at (ks := p_msg_marked_ks) (rs := p_msg_marked_rs) (x := (n, b, ())) ⟨(okInt_i64 (n := n)).2 (by omega), wf_b1.2 hb, trivial⟩ hn
theorem at_marked' {n : Int} {b : List Int} (hn : 0 ≤ n ∧ n ≤ 1000) (hb : b.length ≤ maxLen ∧ bytes b) : g_ref21_marked (n, b, ()) = some (markS n b) :=
  Spec_at (ks := p_ref21_marked_ks) (rs := p_ref21_marked_rs) (x := (n, b, ())) ⟨(okInt_i64 (n := n)).2 (by omega), wf_b1.2 hb, trivial⟩ hn
end Go.Ax.TryP
/-! ### What a message may be -/
set_option linter.unusedVariables false
namespace Go.Ax.TryP
def msOk (c : Ms) : Prop := (-9223372036854775808 ≤ c.1 ∧ c.1 ≤ 9223372036854775807) ∧ (-9223372036854775808 ≤ c.2.1 ∧ c.2.1 ≤ 9223372036854775807) ∧ (-9223372036854775808 ≤ c.2.2.1 ∧ c.2.2.1 ≤ 9223372036854775807) ∧ (0 ≤ c.2.2.2.1 ∧ c.2.2.2.1 ≤ 4294967295) ∧ (0 ≤ c.2.2.2.2.1 ∧ c.2.2.2.2.1 ≤ 4294967295) ∧ (0 ≤ c.2.2.2.2.2.1 ∧ c.2.2.2.2.2.1 ≤ 18446744073709551615) ∧ (0 ≤ c.2.2.2.2.2.2.1 ∧ c.2.2.2.2.2.2.1 ≤ 18446744073709551615)
  ∧ (-9223372036854775808 ≤ c.2.2.2.2.2.2.2.1 ∧ c.2.2.2.2.2.2.2.1 ≤ 9223372036854775807) ∧ (-9223372036854775808 ≤ c.2.2.2.2.2.2.2.2.1 ∧ c.2.2.2.2.2.2.2.2.1 ≤ 9223372036854775807)
  ∧ (c.2.2.2.2.2.2.2.2.2.1.length ≤ maxLen ∧ bytes c.2.2.2.2.2.2.2.2.2.1) ∧ (c.2.2.2.2.2.2.2.2.2.2.1.length ≤ maxLen ∧ bytes c.2.2.2.2.2.2.2.2.2.2.1) ∧ (c.2.2.2.2.2.2.2.2.2.2.2.1.length ≤ maxLen ∧ bytes c.2.2.2.2.2.2.2.2.2.2.2.1)
theorem wf_ms {c : Ms} : Kd.wf (.cat msL) c ↔ msOk c := by
  have h1 : ∀ n, okInt .i64 n ↔ -9223372036854775808 ≤ n ∧ n ≤ 9223372036854775807 := fun _ => okInt_i64
  have h2 : ∀ n, okInt .u32 n ↔ 0 ≤ n ∧ n ≤ 4294967295 := fun _ => okInt_u32'
  have h3 : ∀ n, okInt .u64 n ↔ 0 ≤ n ∧ n ≤ 18446744073709551615 := fun _ => okInt_u64'
  have h4 : ∀ n, okInt .u8 n ↔ 0 ≤ n ∧ n ≤ 255 := fun _ => okInt_u8
  simp only [Kd.wf, csWf, FK.wf, msOk, bytes, h1, h2, h3, h4, and_true]
theorem ms_eta (c : Ms) : (c.1, c.2.1, c.2.2.1, c.2.2.2.1, c.2.2.2.2.1, c.2.2.2.2.2.1, c.2.2.2.2.2.2.1, c.2.2.2.2.2.2.2.1, c.2.2.2.2.2.2.2.2.1, c.2.2.2.2.2.2.2.2.2.1, c.2.2.2.2.2.2.2.2.2.2.1, c.2.2.2.2.2.2.2.2.2.2.2.1, ()) = c := rfl
theorem two_zero {a b : Int} : a :: b :: [] = List.replicate 2 (0 : Int) ↔ a = 0 ∧ b = 0 := by simp
theorem q_msg_ranged : ∀ x r, g_msg_ranged x = some r → ∃ N, p_msg_ranged N x = some r := by
  refine Spec_of (ks := p_msg_ranged_ks) (rs := p_msg_ranged_rs) fun x hw hq => ⟨0, ?_⟩
  obtain ⟨(c : Ms), u⟩ := x
  obtain ⟨h1, _, _, _, _, h6, h7, _⟩ := wf_ms.1 hw.1
  show p_msg_ranged 0 (c, u) = some (rangedS c)
  unfold p_msg_ranged rangedS
  dsimp only
  rw [at_has h1 (by omega), Option.bind_some]
  cases hasB c.1 114 with
  | true =>
    rw [if_neg (by simp), if_pos rfl, at_May h6 h7, Option.bind_some]
    cases oneS c.2.2.2.2.2.1 c.2.2.2.2.2.2.1 <;> rfl
  | false =>
    rw [if_pos (by simp), if_neg (show ¬ (false = true) by simp)]
    by_cases h : c.2.2.2.2.2.1 = 0 ∧ c.2.2.2.2.2.2.1 = 0
    · rw [if_pos (two_zero.2 h)]
      exact congrArg some (decide_eq_decide.2 (by simp [h.1, h.2]))
    · rw [if_neg (fun g => h (two_zero.1 g))]
      exact congrArg some (decide_eq_false (fun g => h ⟨g.1, g.2.1⟩)).symm
theorem at_ranged {c : Ms} (h : msOk c) : g_msg_ranged (c, ()) = some (rangedS c) := Spec_at (ks := p_msg_ranged_ks) (rs := p_msg_ranged_rs) (x := (c, ())) ⟨wf_ms.2 h, trivial⟩ trivial
theorem q_msg_parted : ∀ x r, g_msg_parted x = some r → ∃ N, p_msg_parted N x = some r := by
  refine Spec_of (ks := p_msg_parted_ks) (rs := p_msg_parted_rs) fun x hw hq => ⟨0, ?_⟩
  obtain ⟨(c : Ms), u⟩ := x
  obtain ⟨h1, _⟩ := wf_ms.1 hw.1
  show p_msg_parted 0 (c, u) = some (partedS c)
  unfold p_msg_parted partedS
  dsimp only
  rw [at_has h1 (by omega), Option.bind_some]
  have e1 : decide (hasB c.1 110 = true) = hasB c.1 110 := by cases hasB c.1 110 <;> rfl
  rw [e1]
  by_cases k1 : hasB c.1 110 = decide (c.2.2.2.2.2.2.2.2.1 ≠ 0)
  · rw [if_neg (fun h => h k1), decide_eq_true k1, Bool.true_and]
    by_cases k2 : c.2.2.2.2.2.2.2.2.1 < 0
    · rw [if_pos k2, decide_eq_false (by omega), Bool.false_and]
    by_cases k3 : c.2.2.2.2.2.2.2.2.1 > 256
    · rw [if_neg k2, if_pos k3, decide_eq_false (by omega), Bool.false_and]
    rw [if_neg k2, if_neg k3, decide_eq_true (show 0 ≤ c.2.2.2.2.2.2.2.2.1 ∧ c.2.2.2.2.2.2.2.2.1 ≤ 256 by omega), Bool.true_and, at_has h1 (by omega), Option.bind_some]
    cases hasB c.1 112 with
    | false => rw [if_pos (by simp), if_neg (by simp)]
    | true =>
      rw [if_neg (by simp), if_pos rfl]
      by_cases k4 : c.2.2.2.2.2.2.2.1 ≥ 0
      · rw [if_pos k4]
        exact congrArg some (decide_eq_decide.2 (by omega))
      · rw [if_neg k4]
        exact congrArg some (decide_eq_false (by omega)).symm
  · rw [if_pos k1, decide_eq_false k1, Bool.false_and]
theorem at_parted {c : Ms} (h : msOk c) : g_msg_parted (c, ()) = some (partedS c) := Spec_at (ks := p_msg_parted_ks) (rs := p_msg_parted_rs) (x := (c, ())) ⟨wf_ms.2 h, trivial⟩ trivial
theorem dec_b (b : Bool) : decide (b = true) = b := by cases b <;> rfl
theorem parts_le {c : Ms} (h : partedS c = true) : 0 ≤ c.2.2.2.2.2.2.2.2.1 ∧ c.2.2.2.2.2.2.2.2.1 ≤ 256 := by
  unfold partedS at h
  simp only [Bool.and_eq_true, decide_eq_true_eq] at h
  exact h.2.1
theorem q_msg_Check : ∀ x r, g_msg_Check x = some r → ∃ N, p_msg_Check N x = some r := by
  refine Spec_of (ks := p_msg_Check_ks) (rs := p_msg_Check_rs) fun x hw hq => ⟨0, ?_⟩
  obtain ⟨(c : Ms), u⟩ := x
  have hc : msOk c := wf_ms.1 hw.1
  have hc2 := hc
  obtain ⟨h1, h2, h3, _, _, _, _, _, _, h10, h11, h12⟩ := hc2
  show p_msg_Check 0 (c, u) = some (checkS c)
  have hmost : -9223372036854775808 ≤ mostS c.1 ∧ mostS c.1 ≤ 9223372036854775807 := by unfold mostS; split <;> omega
  unfold p_msg_Check checkS
  dsimp only
  rw [ms_eta, at_Name h1, Option.bind_some]
  by_cases hn : nameT c.1 = ⟨#[]⟩
  · rw [if_pos hn, if_pos hn]
  rw [if_neg hn, if_neg hn, at_device h2, Option.bind_some]
  unfold okS
  cases devS c.2.1 with
  | false => rfl
  | true =>
  rw [if_pos rfl, at_device h3, Option.bind_some, Bool.true_and]
  cases devS c.2.2.1 with
  | false => rfl
  | true =>
  rw [if_pos rfl, Bool.true_and]
  by_cases hne : c.2.1 ≠ c.2.2.1
  · rw [if_pos hne, decide_eq_true hne, Bool.true_and, at_ranged hc, Option.bind_some]
    cases rangedS c with
    | false => rfl
    | true =>
    rw [if_pos rfl, Bool.true_and, at_parted hc, Option.bind_some]
    cases hp : partedS c with
    | false => rfl
    | true =>
    rw [if_pos rfl, Bool.true_and, at_has h1 (by omega), Option.bind_some, at_most h1, Option.bind_some, dec_b, at_within h10 hmost, Option.bind_some]
    cases withS (hasB c.1 100) c.2.2.2.2.2.2.2.2.2.1.length (mostS c.1) with
    | false => rfl
    | true =>
    rw [if_pos rfl, Bool.true_and, at_has h1 (by omega), Option.bind_some, dec_b, at_within h11 (by omega), Option.bind_some]
    cases withS (hasB c.1 99) c.2.2.2.2.2.2.2.2.2.2.1.length 6446 with
    | false => rfl
    | true =>
    rw [if_pos rfl, Bool.true_and, at_has h1 (by omega), Option.bind_some, dec_b, at_within h12 (by omega), Option.bind_some]
    cases withS (hasB c.1 115) c.2.2.2.2.2.2.2.2.2.2.2.1.length 3309 with
    | false => rfl
    | true =>
    rw [if_neg (by simp), Bool.true_and]
    by_cases h4 : c.1 = 4
    · have hpl := parts_le hp
      rw [if_pos h4, if_pos h4, at_marked (by omega) h10, Option.bind_some]
      cases markS c.2.2.2.2.2.2.2.2.1 c.2.2.2.2.2.2.2.2.2.1 <;> rfl
    · rw [if_neg h4, if_neg h4]
      rfl
  · rw [if_neg hne, decide_eq_false hne]
    rfl
theorem at_Check {c : Ms} (h : msOk c) : g_msg_Check (c, ()) = some (checkS c) := Spec_at (ks := p_msg_Check_ks) (rs := p_msg_Check_rs) (x := (c, ())) ⟨wf_ms.2 h, trivial⟩ trivial
/-- What is checked may be written. -/
theorem ok_fm {c : Ms} (h : okS c = true) : fmOk c := by
  have hp : partedS c = true := by
    unfold okS at h
    simp only [Bool.and_eq_true] at h
    exact h.2.2.2.2.1
  have hpl := parts_le hp
  have hw : ∀ (is : Bool) (n : Nat) (m : Int), m ≤ 60000 → withS is n m = true → n ≤ 60000 := by
    intro is n m hm hw
    unfold withS at hw
    split at hw
    · simp only [decide_eq_true_eq] at hw; omega
    · simp only [decide_eq_true_eq] at hw; omega
  have hm : mostS c.1 ≤ 60000 := by unfold mostS; split <;> omega
  have hpart : 0 ≤ c.2.2.2.2.2.2.2.1 ∧ c.2.2.2.2.2.2.2.1 ≤ 65535 := by
    unfold partedS at hp
    simp only [Bool.and_eq_true] at hp
    have := hp.2.2
    split at this
    · simp only [decide_eq_true_eq] at this; omega
    · simp only [decide_eq_true_eq] at this; omega
  unfold okS at h
  simp only [Bool.and_eq_true, devS, decide_eq_true_eq] at h
  obtain ⟨a1, a2, _, _, _, a6, a7, a8, _⟩ := h
  exact ⟨by omega, by omega, hpart, by omega, hw _ _ _ hm a6, hw _ _ _ (by omega) a7, hw _ _ _ (by omega) a8⟩
end Go.Ax.TryP
/-! ### A message's form -/
set_option linter.unusedVariables false
set_option linter.unusedSimpArgs false
namespace Go.Ax.TryP
theorem bytes_app {a b : List Int} : bytes (a ++ b) ↔ bytes a ∧ bytes b := by
  simp only [bytes, List.mem_append]
  exact ⟨fun h => ⟨fun z hz => h z (.inl hz), fun z hz => h z (.inr hz)⟩, fun h z hz => hz.elim (h.1 z) (h.2 z)⟩
theorem kind_set (k : Int) : List.set (List.replicate 1 (0 : Int)) 0 (IntKind.u8.wrap k) = [k % 256] := by rw [wrap_u8_mod]; rfl
theorem bytes_one (k : Int) : bytes [k % 256] := fun z hz => by rw [List.mem_singleton.1 hz]; omega
theorem bytes_nil : bytes [] := fun z hz => by cases hz
theorem join3 {a b d : List Int} (ha : a.length ≤ 300000) (hb : b.length ≤ 300000) (hd : d.length ≤ 300000) (ka : bytes a) (kb : bytes b) (kd : bytes d) : g_octet_Join ([a, b, d], ()) = some (a ++ (b ++ d)) := by
  have hM : 1000000 ≤ maxLen := by decide
  rw [at_Join ⟨by simp, by simp only [List.flatten_cons, List.flatten_nil, List.length_append, List.length_nil]; omega⟩ ⟨by simp only [List.length_cons, List.length_nil]; omega, fun zs hz => ?_⟩]
  · simp
  · simp only [List.mem_cons, List.not_mem_nil, or_false] at hz
    rcases hz with rfl | rfl | rfl
    · exact ⟨by omega, ka⟩
    · exact ⟨by omega, kb⟩
    · exact ⟨by omega, kd⟩
structure Bs (fr to tid key lo hi pt pts : Int) (d ce sg : List Int) : Prop where
  b2 : g_octet_Big (IntKind.u64.wrap fr, 1, ()) = some (bigS fr 1, 0)
  b3 : g_octet_Big (IntKind.u64.wrap to, 1, ()) = some (bigS to 1, 0)
  b4 : g_octet_Big (IntKind.u64.wrap tid, 4, ()) = some (bigS tid 4, 0)
  b5 : g_octet_Big (IntKind.u64.wrap key, 4, ()) = some (bigS key 4, 0)
  b6 : g_octet_Big (lo, 8, ()) = some (bigS lo 8, 0)
  b7 : g_octet_Big (hi, 8, ()) = some (bigS hi 8, 0)
  b8 : g_octet_Big (IntKind.u64.wrap pt, 2, ()) = some (bigS pt 2, 0)
  b9 : g_octet_Big (IntKind.u64.wrap pts, 2, ()) = some (bigS pts 2, 0)
  u10 : g_octet_U16 (IntKind.u16.wrap (d.length : Int), ()) = some (bigS (d.length : Int) 2)
  u11 : g_octet_U16 (IntKind.u16.wrap (ce.length : Int), ()) = some (bigS (ce.length : Int) 2)
  u12 : g_octet_U16 (IntKind.u16.wrap (sg.length : Int), ()) = some (bigS (sg.length : Int) 2)
  o2 : bigS fr 1 = [fr % 256]
  o3 : bigS to 1 = [to % 256]
  l10 : d.length ≤ 60000
  l11 : ce.length ≤ 60000
  l12 : sg.length ≤ 60000
  y10 : bytes d
  y11 : bytes ce
  y12 : bytes sg
theorem fin_1 {fr to tid key lo hi pt pts : Int} {d ce sg : List Int} (B : Bs fr to tid key lo hi pt pts d ce sg) (all : Bool) : ([1 % 256] ++ bigS fr 1 ++ bigS to 1 ++ bigS tid 4 ++ bigS key 4 ++ bigS lo 8 ++ bigS hi 8 ++ (bigS (d.length : Int) 2 ++ d)) ++ (bigS (ce.length : Int) 2 ++ ce) = formS (1, fr, to, tid, key, lo, hi, pt, pts, d, ce, sg, ()) all := by
  simp [formS, headS, hasS, fieldS, B.o2, B.o3]
theorem form_1 {fr to tid key lo hi pt pts : Int} {d ce sg : List Int} (B : Bs fr to tid key lo hi pt pts d ce sg) (all : Bool) : p_msg_form 0 ((1, fr, to, tid, key, lo, hi, pt, pts, d, ce, sg, ()), all, ()) = some (formS (1, fr, to, tid, key, lo, hi, pt, pts, d, ce, sg, ()) all) := by
  have l10 := B.l10
  have l11 := B.l11
  have l12 := B.l12
  unfold p_msg_form
  dsimp only
  rw [if_pos (show (1 : Int) = 1 from rfl)]
  rw [if_pos (by omega), if_pos (by omega), if_pos (by omega), if_pos (by omega), B.b2, Option.bind_some, if_pos (by simp only [bigS_len]; omega), B.b3, Option.bind_some, if_pos (by simp only [bigS_len]; omega), B.b4, Option.bind_some, if_pos (by simp only [bigS_len]; omega), B.b5, Option.bind_some, if_pos (by simp only [bigS_len]; omega), B.b6, Option.bind_some, if_pos (by simp only [bigS_len]; omega), B.b7, Option.bind_some, if_pos (by simp only [bigS_len]; omega), B.u10, Option.bind_some, kind_set]
  dsimp only
  rw [join3 (by simp only [List.length_append, bigS_len, List.length_cons, List.length_nil]; omega) (by rw [bigS_len]; omega) (by omega) (by simp only [bytes_app, bigS_bytes, bytes_one, and_self]) (bigS_bytes _ _) B.y10, Option.bind_some, B.u11, Option.bind_some]
  rw [join3 (by simp only [List.length_append, bigS_len, List.length_cons, List.length_nil]; omega) (by rw [bigS_len]; omega) (by omega) (by simp only [bytes_app, bigS_bytes, bytes_one, B.y10, and_self]) (bigS_bytes _ _) B.y11, Option.bind_some]
  exact congrArg some (fin_1 B all)
theorem form_2_t {fr to tid key lo hi pt pts : Int} {d ce sg : List Int} (B : Bs fr to tid key lo hi pt pts d ce sg) : p_msg_form 0 ((2, fr, to, tid, key, lo, hi, pt, pts, d, ce, sg, ()), true, ()) = some (formS (2, fr, to, tid, key, lo, hi, pt, pts, d, ce, sg, ()) true) := by
  have l10 := B.l10
  have l11 := B.l11
  have l12 := B.l12
  unfold p_msg_form
  dsimp only
  rw [if_neg (by omega), if_pos (show (2 : Int) = 2 from rfl)]
  rw [if_pos (by omega), if_pos (by omega), if_pos (by omega), if_pos rfl]
  simp (disch := omega) only [if_pos, B.b2, B.b3, B.b4, B.b5, B.b6, B.b7, B.u11, B.u12, Option.bind_some, bigS_len, kind_set]
  rw [join3 (by simp only [List.length_append, bigS_len, List.length_cons, List.length_nil]; omega) (by rw [bigS_len]; omega) (by omega) (by simp only [bytes_app, bigS_bytes, bytes_one, and_self]) (bigS_bytes _ _) B.y11, Option.bind_some]
  rw [join3 (by simp only [List.length_append, bigS_len, List.length_cons, List.length_nil]; omega) (by rw [bigS_len]; omega) (by omega) (by simp only [bytes_app, bigS_bytes, bytes_one, B.y11, and_self]) (bigS_bytes _ _) B.y12, Option.bind_some]
  simp [formS, headS, hasS, fieldS, B.o2, B.o3]
theorem form_2_f {fr to tid key lo hi pt pts : Int} {d ce sg : List Int} (B : Bs fr to tid key lo hi pt pts d ce sg) : p_msg_form 0 ((2, fr, to, tid, key, lo, hi, pt, pts, d, ce, sg, ()), false, ()) = some (formS (2, fr, to, tid, key, lo, hi, pt, pts, d, ce, sg, ()) false) := by
  have l10 := B.l10
  have l11 := B.l11
  have l12 := B.l12
  unfold p_msg_form
  dsimp only
  rw [if_neg (by omega), if_pos (show (2 : Int) = 2 from rfl)]
  rw [if_pos (by omega), if_pos (by omega), if_pos (by omega), if_neg (show ¬ (false = true) by simp)]
  simp (disch := omega) only [if_pos, B.b2, B.b3, B.b4, B.b5, B.b6, B.b7, B.u11, B.u12, Option.bind_some, bigS_len, kind_set]
  rw [join3 (by simp only [List.length_append, bigS_len, List.length_cons, List.length_nil]; omega) (by rw [bigS_len]; omega) (by omega) (by simp only [bytes_app, bigS_bytes, bytes_one, and_self]) (bigS_bytes _ _) B.y11, Option.bind_some]
  simp [formS, headS, hasS, fieldS, B.o2, B.o3]
theorem form_3 {fr to tid key lo hi pt pts : Int} {d ce sg : List Int} (B : Bs fr to tid key lo hi pt pts d ce sg) (all : Bool) : p_msg_form 0 ((3, fr, to, tid, key, lo, hi, pt, pts, d, ce, sg, ()), all, ()) = some (formS (3, fr, to, tid, key, lo, hi, pt, pts, d, ce, sg, ()) all) := by
  have l10 := B.l10
  have l11 := B.l11
  have l12 := B.l12
  unfold p_msg_form
  dsimp only
  rw [if_neg (by omega), if_neg (by omega), if_pos (show (3 : Int) = 3 from rfl)]
  simp (disch := omega) only [if_pos, B.b2, B.b3, B.b4, B.b8, B.b9, B.u10, Option.bind_some, bigS_len, kind_set]
  rw [join3 (by simp only [List.length_append, bigS_len, List.length_cons, List.length_nil]; omega) (by rw [bigS_len]; omega) (by omega) (by simp only [bytes_app, bigS_bytes, bytes_one, and_self]) (bigS_bytes _ _) B.y10, Option.bind_some]
  simp [formS, headS, hasS, fieldS, B.o2, B.o3]
theorem form_4 {fr to tid key lo hi pt pts : Int} {d ce sg : List Int} (B : Bs fr to tid key lo hi pt pts d ce sg) (all : Bool) : p_msg_form 0 ((4, fr, to, tid, key, lo, hi, pt, pts, d, ce, sg, ()), all, ()) = some (formS (4, fr, to, tid, key, lo, hi, pt, pts, d, ce, sg, ()) all) := by
  have l10 := B.l10
  have l11 := B.l11
  have l12 := B.l12
  unfold p_msg_form
  dsimp only
  rw [if_neg (by omega), if_neg (by omega), if_neg (by omega), if_pos (show (4 : Int) = 4 from rfl)]
  simp (disch := omega) only [if_pos, B.b2, B.b3, B.b4, B.b9, B.u10, Option.bind_some, bigS_len, kind_set]
  rw [join3 (by simp only [List.length_append, bigS_len, List.length_cons, List.length_nil]; omega) (by rw [bigS_len]; omega) (by omega) (by simp only [bytes_app, bigS_bytes, bytes_one, and_self]) (bigS_bytes _ _) B.y10, Option.bind_some]
  simp [formS, headS, hasS, fieldS, B.o2, B.o3]
theorem form_5_t {fr to tid key lo hi pt pts : Int} {d ce sg : List Int} (B : Bs fr to tid key lo hi pt pts d ce sg) : p_msg_form 0 ((5, fr, to, tid, key, lo, hi, pt, pts, d, ce, sg, ()), true, ()) = some (formS (5, fr, to, tid, key, lo, hi, pt, pts, d, ce, sg, ()) true) := by
  have l10 := B.l10
  have l11 := B.l11
  have l12 := B.l12
  unfold p_msg_form
  dsimp only
  rw [if_neg (by omega), if_neg (by omega), if_neg (by omega), if_neg (by omega), if_pos (show (5 : Int) = 5 from rfl)]
  rw [if_pos (by omega), if_pos (by omega), if_pos rfl]
  simp (disch := omega) only [if_pos, B.b2, B.b3, B.b4, B.b5, B.b6, B.b7, B.u12, Option.bind_some, bigS_len, kind_set]
  rw [join3 (by simp only [List.length_append, bigS_len, List.length_cons, List.length_nil]; omega) (by rw [bigS_len]; omega) (by omega) (by simp only [bytes_app, bigS_bytes, bytes_one, and_self]) (bigS_bytes _ _) B.y12, Option.bind_some]
  simp [formS, headS, hasS, fieldS, B.o2, B.o3]
theorem form_5_f {fr to tid key lo hi pt pts : Int} {d ce sg : List Int} (B : Bs fr to tid key lo hi pt pts d ce sg) : p_msg_form 0 ((5, fr, to, tid, key, lo, hi, pt, pts, d, ce, sg, ()), false, ()) = some (formS (5, fr, to, tid, key, lo, hi, pt, pts, d, ce, sg, ()) false) := by
  have l10 := B.l10
  have l11 := B.l11
  have l12 := B.l12
  unfold p_msg_form
  dsimp only
  rw [if_neg (by omega), if_neg (by omega), if_neg (by omega), if_neg (by omega), if_pos (show (5 : Int) = 5 from rfl)]
  rw [if_pos (by omega), if_pos (by omega), if_neg (show ¬ (false = true) by simp)]
  simp (disch := omega) only [if_pos, B.b2, B.b3, B.b4, B.b5, B.b6, B.b7, B.u12, Option.bind_some, bigS_len, kind_set]
  simp [formS, headS, hasS, fieldS, B.o2, B.o3]
theorem form_6_t {fr to tid key lo hi pt pts : Int} {d ce sg : List Int} (B : Bs fr to tid key lo hi pt pts d ce sg) : p_msg_form 0 ((6, fr, to, tid, key, lo, hi, pt, pts, d, ce, sg, ()), true, ()) = some (formS (6, fr, to, tid, key, lo, hi, pt, pts, d, ce, sg, ()) true) := by
  have l10 := B.l10
  have l11 := B.l11
  have l12 := B.l12
  unfold p_msg_form
  dsimp only
  rw [if_neg (by omega), if_neg (by omega), if_neg (by omega), if_neg (by omega), if_neg (by omega), if_pos (show (6 : Int) = 6 from rfl)]
  rw [if_pos (by omega), if_pos (by omega), if_pos rfl]
  simp (disch := omega) only [if_pos, B.b2, B.b3, B.b4, B.b5, B.b6, B.b7, B.u12, Option.bind_some, bigS_len, kind_set]
  rw [join3 (by simp only [List.length_append, bigS_len, List.length_cons, List.length_nil]; omega) (by rw [bigS_len]; omega) (by omega) (by simp only [bytes_app, bigS_bytes, bytes_one, and_self]) (bigS_bytes _ _) B.y12, Option.bind_some]
  simp [formS, headS, hasS, fieldS, B.o2, B.o3]
theorem form_6_f {fr to tid key lo hi pt pts : Int} {d ce sg : List Int} (B : Bs fr to tid key lo hi pt pts d ce sg) : p_msg_form 0 ((6, fr, to, tid, key, lo, hi, pt, pts, d, ce, sg, ()), false, ()) = some (formS (6, fr, to, tid, key, lo, hi, pt, pts, d, ce, sg, ()) false) := by
  have l10 := B.l10
  have l11 := B.l11
  have l12 := B.l12
  unfold p_msg_form
  dsimp only
  rw [if_neg (by omega), if_neg (by omega), if_neg (by omega), if_neg (by omega), if_neg (by omega), if_pos (show (6 : Int) = 6 from rfl)]
  rw [if_pos (by omega), if_pos (by omega), if_neg (show ¬ (false = true) by simp)]
  simp (disch := omega) only [if_pos, B.b2, B.b3, B.b4, B.b5, B.b6, B.b7, B.u12, Option.bind_some, bigS_len, kind_set]
  simp [formS, headS, hasS, fieldS, B.o2, B.o3]
theorem form_e {fr to tid key lo hi pt pts : Int} {d ce sg : List Int} (B : Bs fr to tid key lo hi pt pts d ce sg) (all : Bool) {k : Int} (g : k ≠ 1 ∧ k ≠ 2 ∧ k ≠ 3 ∧ k ≠ 4 ∧ k ≠ 5 ∧ k ≠ 6) : p_msg_form 0 ((k, fr, to, tid, key, lo, hi, pt, pts, d, ce, sg, ()), all, ()) = some (formS (k, fr, to, tid, key, lo, hi, pt, pts, d, ce, sg, ()) all) := by
  obtain ⟨g1, g2, g3, g4, g5, g6⟩ := g
  unfold p_msg_form
  dsimp only
  rw [if_neg g1, if_neg g2, if_neg g3, if_neg g4, if_neg g5, if_neg g6]
  simp (disch := omega) only [if_pos, B.b2, B.b3, B.b4, Option.bind_some, bigS_len, kind_set]
  simp [formS, headS, hasS, g1, g2, g3, g4, g5, g6, B.o2, B.o3]
theorem q_msg_form : ∀ x r, g_msg_form x = some r → ∃ N, p_msg_form N x = some r := by
  refine Spec_of (ks := p_msg_form_ks) (rs := p_msg_form_rs) fun x hw hq => ⟨0, ?_⟩
  obtain ⟨(c : Ms), (all : Bool), u⟩ := x
  obtain ⟨h1, h2, h3, h4, h5, h6, h7, h8, h9, h10, h11, h12⟩ := wf_ms.1 hw.1
  obtain ⟨f2, f3, f8, f9, f10, f11, f12⟩ : fmOk c := hq
  show p_msg_form 0 (c, all, u) = some (formS c all)
  obtain ⟨k, fr, to, tid, key, lo, hi, pt, pts, d, ce, sg, ⟨⟩⟩ := c
  dsimp only at h1 h2 h3 h4 h5 h6 h7 h8 h9 h10 h11 h12 f2 f3 f8 f9 f10 f11 f12
  have o1 : ∀ n : Int, bigS n 1 = [n % 256] := fun n => by simp [bigS]
  have B : Bs fr to tid key lo hi pt pts d ce sg := by
    refine ⟨?_, ?_, ?_, ?_, at_Big h6 (w := 8) (by omega) fit_8, at_Big h7 (w := 8) (by omega) fit_8, ?_, ?_, ?_, ?_, ?_, o1 fr, o1 to, f10, f11, f12, h10.2, h11.2, h12.2⟩
    · rw [wrap_u64' (by omega) (by omega)]; exact at_Big (by omega) (w := 1) (by omega) (fit_of (by omega) (w := 1) (by omega))
    · rw [wrap_u64' (by omega) (by omega)]; exact at_Big (by omega) (w := 1) (by omega) (fit_of (by omega) (w := 1) (by omega))
    · rw [wrap_u64' (by omega) (by omega)]; exact at_Big (by omega) (w := 4) (by omega) (fit_of (by omega) (w := 4) (by omega))
    · rw [wrap_u64' (by omega) (by omega)]; exact at_Big (by omega) (w := 4) (by omega) (fit_of (by omega) (w := 4) (by omega))
    · rw [wrap_u64' (by omega) (by omega)]; exact at_Big (by omega) (w := 2) (by omega) (fit_of (by omega) (w := 2) (by omega))
    · rw [wrap_u64' (by omega) (by omega)]; exact at_Big (by omega) (w := 2) (by omega) (fit_of (by omega) (w := 2) (by omega))
    · rw [wrap_u16_mod, show (d.length : Int) % 65536 = d.length by omega]; exact at_U16 (by omega)
    · rw [wrap_u16_mod, show (ce.length : Int) % 65536 = ce.length by omega]; exact at_U16 (by omega)
    · rw [wrap_u16_mod, show (sg.length : Int) % 65536 = sg.length by omega]; exact at_U16 (by omega)
  have hk : k = 1 ∨ k = 2 ∨ k = 3 ∨ k = 4 ∨ k = 5 ∨ k = 6 ∨ (k ≠ 1 ∧ k ≠ 2 ∧ k ≠ 3 ∧ k ≠ 4 ∧ k ≠ 5 ∧ k ≠ 6) := by omega
  rcases hk with rfl | rfl | rfl | rfl | rfl | rfl | hk
  · exact form_1 B all
  · cases all with
    | true => exact form_2_t B
    | false => exact form_2_f B
  · exact form_3 B all
  · exact form_4 B all
  · cases all with
    | true => exact form_5_t B
    | false => exact form_5_f B
  · cases all with
    | true => exact form_6_t B
    | false => exact form_6_f B
  · exact form_e B all hk
theorem at_form {c : Ms} (h : msOk c) (hf : fmOk c) (all : Bool) : g_msg_form (c, all, ()) = some (formS c all) := Spec_at (ks := p_msg_form_ks) (rs := p_msg_form_rs) (x := (c, all, ())) ⟨wf_ms.2 h, trivial, trivial⟩ hf
end Go.Ax.TryP
/-! ### Messages as bytes; the chapter's examples; the law of kinds -/
set_option linter.unusedVariables false
namespace Go.Ax.TryP
theorem check_ok {c : Ms} (h : checkS c = 0) : okS c = true := by
  unfold checkS at h
  split at h
  · omega
  · split at h
    · assumption
    · omega
theorem q_msg_Put : ∀ x r, g_msg_Put x = some r → ∃ N, p_msg_Put N x = some r := by
  refine Spec_of (ks := p_msg_Put_ks) (rs := p_msg_Put_rs) fun x hw hq => ⟨0, ?_⟩
  obtain ⟨(c : Ms), u⟩ := x
  have hc : msOk c := wf_ms.1 hw.1
  show p_msg_Put 0 (c, u) = some (putS c)
  unfold p_msg_Put putS
  dsimp only
  rw [ms_eta, at_Check hc, Option.bind_some]
  by_cases h : checkS c = 0
  · rw [if_neg (fun g => g h), if_pos h, at_form hc (ok_fm (check_ok h)) true, Option.bind_some]
  · rw [if_pos h, if_neg h]
theorem at_Put {c : Ms} (h : msOk c) : g_msg_Put (c, ()) = some (putS c) := Spec_at (ks := p_msg_Put_ks) (rs := p_msg_Put_rs) (x := (c, ())) ⟨wf_ms.2 h, trivial⟩ trivial
def ms0 : Ms := (8, 1, 2, 3, 0, 0, 0, 0, 0, [], [], [], ())
theorem ms0_ok : msOk ms0 := by
  have hM : 1000000 ≤ maxLen := by decide
  exact ⟨by decide, by decide, by decide, by decide, by decide, by decide, by decide, by decide, by decide, ⟨Nat.zero_le _, bytes_nil⟩, ⟨Nat.zero_le _, bytes_nil⟩, Nat.zero_le _, bytes_nil⟩
theorem ms0_put : putS ms0 = ([8, 1, 2, 0, 0, 0, 3], 0) := by decide +kernel
theorem q_law21_live : ∀ x r, g_law21_live x = some r → ∃ N, p_law21_live N x = some r := by
  refine Spec_of (ks := p_law21_live_ks) (rs := p_law21_live_rs) fun x hw hq => ⟨0, ?_⟩
  have c1 := at_Put ms0_ok
  rw [ms0_put] at c1
  have hb : bytes [8, 1, 2, 0, 0, 0, 3] := fun z hz => by
    simp only [List.mem_cons, List.not_mem_nil, or_false] at hz
    omega
  have c2 : g_ref01_Equal ([8, 1, 2, 0, 0, 0, 3], [8, 1, 2, 0, 0, 0, 3], ()) = some true := by
    rw [at_Equal ⟨by simp, hb⟩ ⟨by simp, hb⟩]
    rfl
  have c3 := at_Has (k := 3) (by omega)
  unfold p_law21_live
  refine (congrArg (fun o => Option.bind o _) c1).trans ?_
  rw [Option.bind_some]
  refine (congrArg (fun o => Option.bind o _) c2).trans ?_
  rw [Option.bind_some, if_pos rfl, if_pos rfl]
  refine (congrArg (fun o => Option.bind o _) c3).trans ?_
  rfl
theorem at_live : g_law21_live () = some true := Spec_at (ks := []) (rs := [.bool]) (x := ()) trivial trivial
theorem q_law21_MsgKinds : ∀ x r, g_law21_MsgKinds x = some r → ∃ N, p_law21_MsgKinds N x = some r := by
  refine Spec_of (ks := p_law21_MsgKinds_ks) (rs := p_law21_MsgKinds_rs) fun x hw hq => ⟨0, ?_⟩
  obtain ⟨(k : Int), u⟩ := x
  have hk : -9223372036854775808 ≤ k ∧ k ≤ 9223372036854775807 := okInt_i64.1 hw.1
  show p_law21_MsgKinds 0 (k, u) = some true
  unfold p_law21_MsgKinds
  dsimp only
  rw [at_live, Option.bind_some, if_pos rfl, at_Has hk, Option.bind_some, at_Has' hk, Option.bind_some, if_pos rfl, at_Name hk, Option.bind_some, at_Name' hk, Option.bind_some]
  simp
end Go.Ax.TryP
/-! Printed by program (wires.py): the functions keep their signatures. -/
namespace Go.Ax.TryP
theorem s_octet_Join : SigOk Go.Proofs.Try.prog 37 ⟨[.sls (.int .u8)], [.sl (.int .u8)], g_octet_Join⟩ := p_octet_Join_ok q_octet_Join
theorem s_ref01_Equal : SigOk Go.Proofs.Try.prog 19 ⟨[.sl (.int .u8), .sl (.int .u8)], [.bool], g_ref01_Equal⟩ := p_ref01_Equal_ok q_ref01_Equal
theorem s_octet_big : SigOk Go.Proofs.Try.prog 71 ⟨[.int .u64, .int .i64], [.sl (.int .u8)], g_octet_big⟩ := p_octet_big_ok q_octet_big
theorem s_octet_U16 : SigOk Go.Proofs.Try.prog 61 ⟨[.int .u16], [.sl (.int .u8)], g_octet_U16⟩ := p_octet_U16_ok s_octet_big q_octet_U16
theorem s_octet_fits : SigOk Go.Proofs.Try.prog 72 ⟨[.int .u64, .int .i64], [.int .i64], g_octet_fits⟩ := p_octet_fits_ok q_octet_fits
theorem s_octet_Big : SigOk Go.Proofs.Try.prog 62 ⟨[.int .u64, .int .i64], [.sl (.int .u8), .int .i64], g_octet_Big⟩ := p_octet_Big_ok s_octet_fits s_octet_big q_octet_Big
theorem s_span_one : SigOk Go.Proofs.Try.prog 73 ⟨[.cat [.int .u64, .int .u64]], [.bool], g_span_one⟩ := p_span_one_ok q_span_one
theorem s_span_May : SigOk Go.Proofs.Try.prog 66 ⟨[.sla (.int .u64) 2], [.bool], g_span_May⟩ := p_span_May_ok s_span_one q_span_May
theorem s_octet_Bits : SigOk Go.Proofs.Try.prog 40 ⟨[.sl (.int .u8)], [.sl .bool], g_octet_Bits⟩ := p_octet_Bits_ok q_octet_Bits
theorem s_msg_Has : SigOk Go.Proofs.Try.prog 12 ⟨[.int .i64], [.str], g_msg_Has⟩ := p_msg_Has_ok q_msg_Has
theorem s_ref21_Has : SigOk Go.Proofs.Try.prog 13 ⟨[.int .i64], [.str], g_ref21_Has⟩ := p_ref21_Has_ok q_ref21_Has
theorem s_msg_Name : SigOk Go.Proofs.Try.prog 14 ⟨[.int .i64], [.str], g_msg_Name⟩ := p_msg_Name_ok q_msg_Name
theorem s_ref21_Name : SigOk Go.Proofs.Try.prog 15 ⟨[.int .i64], [.str], g_ref21_Name⟩ := p_ref21_Name_ok q_ref21_Name
theorem s_msg_has : SigOk Go.Proofs.Try.prog 36 ⟨[.int .i64, .int .i32], [.bool], g_msg_has⟩ := p_msg_has_ok q_msg_has
theorem s_msg_device : SigOk Go.Proofs.Try.prog 43 ⟨[.int .i64], [.bool], g_msg_device⟩ := p_msg_device_ok q_msg_device
theorem s_msg_most : SigOk Go.Proofs.Try.prog 47 ⟨[.int .i64], [.int .i64], g_msg_most⟩ := p_msg_most_ok q_msg_most
theorem s_msg_within : SigOk Go.Proofs.Try.prog 46 ⟨[.bool, .sl (.int .u8), .int .i64], [.bool], g_msg_within⟩ := p_msg_within_ok q_msg_within
theorem s_msg_marked : SigOk Go.Proofs.Try.prog 48 ⟨[.int .i64, .sl (.int .u8)], [.bool], g_msg_marked⟩ := p_msg_marked_ok s_octet_Bits q_msg_marked
theorem s_msg_ranged : SigOk Go.Proofs.Try.prog 44 ⟨[.cat [.int .i64, .int .i64, .int .i64, .int .u32, .int .u32, .int .u64, .int .u64, .int .i64, .int .i64, .sl (.int .u8), .sl (.int .u8), .sl (.int .u8)]], [.bool], g_msg_ranged⟩ := p_msg_ranged_ok s_msg_has s_span_May q_msg_ranged
theorem s_msg_parted : SigOk Go.Proofs.Try.prog 45 ⟨[.cat [.int .i64, .int .i64, .int .i64, .int .u32, .int .u32, .int .u64, .int .u64, .int .i64, .int .i64, .sl (.int .u8), .sl (.int .u8), .sl (.int .u8)]], [.bool], g_msg_parted⟩ := p_msg_parted_ok s_msg_has q_msg_parted
theorem s_msg_Check : SigOk Go.Proofs.Try.prog 25 ⟨[.cat [.int .i64, .int .i64, .int .i64, .int .u32, .int .u32, .int .u64, .int .u64, .int .i64, .int .i64, .sl (.int .u8), .sl (.int .u8), .sl (.int .u8)]], [.int .i64], g_msg_Check⟩ := p_msg_Check_ok s_msg_Name s_msg_device s_msg_ranged s_msg_parted s_msg_has s_msg_most s_msg_within s_msg_marked q_msg_Check
theorem s_msg_form : SigOk Go.Proofs.Try.prog 34 ⟨[.cat [.int .i64, .int .i64, .int .i64, .int .u32, .int .u32, .int .u64, .int .u64, .int .i64, .int .i64, .sl (.int .u8), .sl (.int .u8), .sl (.int .u8)], .bool], [.sl (.int .u8)], g_msg_form⟩ := p_msg_form_ok s_octet_Big s_octet_U16 s_octet_Join q_msg_form
theorem s_msg_Put : SigOk Go.Proofs.Try.prog 17 ⟨[.cat [.int .i64, .int .i64, .int .i64, .int .u32, .int .u32, .int .u64, .int .u64, .int .i64, .int .i64, .sl (.int .u8), .sl (.int .u8), .sl (.int .u8)]], [.sl (.int .u8), .int .i64], g_msg_Put⟩ := p_msg_Put_ok s_msg_Check s_msg_form q_msg_Put
theorem s_law21_live : SigOk Go.Proofs.Try.prog 11 ⟨[], [.bool], g_law21_live⟩ := p_law21_live_ok s_msg_Put s_ref01_Equal s_msg_Has q_law21_live
theorem s_law21_MsgKinds : SigOk Go.Proofs.Try.prog 3 ⟨[.int .i64], [.bool], g_law21_MsgKinds⟩ := p_law21_MsgKinds_ok s_law21_live s_msg_Has s_ref21_Has s_msg_Name s_ref21_Name q_law21_MsgKinds
end Go.Ax.TryP
