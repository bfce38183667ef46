/- A part of the proof: KmS, KmP1, KmP2, KmP3, KmQ0, KmQ1, KmQ2, KmQ3, KmQ4. -/
import Derived.Test.YtplhlghciccaiaaKkB
set_option linter.unusedVariables false
namespace Go.Ax.TryP
open Go.Proofs
noncomputable def XSpec {ks rs : List Kd} (Q : Ds ks → Prop) (f : Ds ks → Bool × Int × Rs rs) : Ds ks → Option (Bool × Int × Rs rs) := fun x => @ite _ (wfAll ks x ∧ Q x) (Classical.propDecidable _) (some (f x)) none
theorem XSpec_of {ks rs : List Kd} {Q : Ds ks → Prop} {f : Ds ks → Bool × Int × Rs rs} {p : Nat → Ds ks → Option (Int ⊕ Rs rs)} (h : ∀ x, wfAll ks x → Q x → ∃ N, p N x = some (xr (f x))) : ∀ x r, XSpec Q f x = some r → ∃ N, p N x = some (xr r) := by
  intro x r hx
  unfold XSpec at hx
  split at hx
  · rename_i hq; cases hx; exact h x hq.1 hq.2
  · cases hx
theorem XSpec_at {ks rs : List Kd} {Q : Ds ks → Prop} {f : Ds ks → Bool × Int × Rs rs} {x : Ds ks} (h : wfAll ks x) (hq : Q x) : XSpec Q f x = some (f x) := by
  unfold XSpec
  rw [if_pos ⟨h, hq⟩]
def sh512 (l : List Int) : List Int := spongeS 72 6 l 64
def sh256 (l : List Int) : List Int := spongeS 136 6 l 32
def shk256 (l : List Int) (n : Nat) : List Int := spongeS 136 31 l n
def ch (r : List Int) (i : Nat) : List Int := (r.drop (i * 256)).take 256
def row3 (f : Nat → List Int) : List Int := f 0 ++ f 1 ++ f 2
def part3 (b : List Int) (w i : Nat) : List Int := (b.drop (i * w)).take w
def noiseS (s : List Int) (n : Int) : List Int := (fCbd 2 (shk256 (s ++ [n]) 128)).1
def noisesS (s : List Int) (n : Int) : List Int := row3 fun i => noiseS s (n + (i : Int))
def turnS (r : List Int) : List Int := row3 fun i => fNtt (ch r i)
def timesS (r s : List Int) : List Int := fAdd (fAdd (fAdd zeros (fMulN (ch r 0) (ch s 0))) (fMulN (ch r 1) (ch s 1))) (fMulN (ch r 2) (ch s 2))
def encS (r : List Int) : List Int := row3 fun i => (fEncode 12 (ch r i)).1
def decS (b : List Int) : List Int := row3 fun i => (fDecode 12 (part3 b 384 i)).1
def packS (d : Int) (p : List Int) : List Int := (fEncode d (fCompress d p).1).1
def unpackS (d : Int) (b : List Int) : List Int := (fDecompress d (fDecode d b).1).1
def entS (rho : List Int) (i j : Nat) : List Int × Int := sampleS (rho ++ [(j : Int), (i : Int)])
def okMat (rho : List Int) : Prop := ∀ i, i < 3 → ∀ j, j < 3 → (entS rho i j).2 = 0
noncomputable def badMat (rho : List Int) : Bool := @decide (¬ okMat rho) (Classical.propDecidable _)
def keyT (rho s o : List Int) : List Int := row3 fun i => fAdd (timesS (row3 fun j => (entS rho i j).1) s) (ch o i)
def encryptS (ek m r : List Int) : List Int :=
  (row3 fun i => packS 10 (fAdd (fInv (timesS (row3 fun j => (entS (ek.drop 1152) j i).1) (turnS (noisesS r 0)))) (ch (noisesS r 3) i))) ++
    packS 4 (fAdd (fAdd (fInv (timesS (decS ek) (turnS (noisesS r 0)))) (noiseS r 6)) (unpackS 1 m))
def decryptS (dk ct : List Int) : List Int :=
  packS 1 (fSub (unpackS 4 (ct.drop 960)) (fInv (timesS (decS dk) (turnS (row3 fun i => unpackS 10 (part3 ct 320 i))))))
def lo32 (l : List Int) : List Int := l.take 32
def hi32 (l : List Int) : List Int := (l.drop 32).take 32
def pkS (d : List Int) : List Int := encS (keyT (lo32 (sh512 (d ++ [3]))) (turnS (noisesS (hi32 (sh512 (d ++ [3]))) 0)) (turnS (noisesS (hi32 (sh512 (d ++ [3]))) 3))) ++ lo32 (sh512 (d ++ [3]))
def skS (d : List Int) : List Int := encS (turnS (noisesS (hi32 (sh512 (d ++ [3]))) 0))
def okKey (d : List Int) : Prop := okMat (lo32 (sh512 (d ++ [3])))
noncomputable def pkeKeyS (d : List Int) : List Int × List Int × Int := @ite _ (okKey d) (Classical.propDecidable _) (pkS d, skS d, 0) ([], [], 130)
def dkS (d z : List Int) : List Int := skS d ++ pkS d ++ sh256 (pkS d) ++ z
noncomputable def keyGenS (d z : List Int) : List Int × List Int × Int := @ite _ (okKey d) (Classical.propDecidable _) (pkS d, dkS d z, 0) ([], [], 130)
def okEk (ek : List Int) : Prop := ek.length = 1184 ∧ ∀ i, i < 3 → fCanon (part3 ek 384 i) = true
noncomputable def checkEkS (ek : List Int) : Int := @ite _ (okEk ek) (Classical.propDecidable _) 0 140
def okDk (dk : List Int) : Prop := dk.length = 2400 ∧ sh256 ((dk.drop 1152).take 1184) = (dk.drop 2336).take 32
noncomputable def checkDkS (dk : List Int) : Int := @ite _ (okDk dk) (Classical.propDecidable _) 0 141
def z32 : List Int := List.replicate 32 0
def capG (ek m : List Int) : List Int := sh512 (m ++ sh256 ek)
noncomputable def encapsS (ek m : List Int) : List Int × List Int × Int := @ite _ (okEk ek) (Classical.propDecidable _)
  (@ite _ (okMat (ek.drop 1152)) (Classical.propDecidable _) (lo32 (capG ek m), encryptS ek m (hi32 (capG ek m)), 0) (z32, [], 130)) (z32, [], 140)
def capK (dk m : List Int) : List Int := sh512 (m ++ (dk.drop 2336).take 32)
def decKey (dk ct : List Int) : List Int :=
  if encryptS ((dk.drop 1152).take 1184) (decryptS (dk.take 1152) ct) (hi32 (capK dk (decryptS (dk.take 1152) ct))) = ct then lo32 (capK dk (decryptS (dk.take 1152) ct)) else shk256 (dk.drop 2368 ++ ct) 32
noncomputable def decapsS (dk ct : List Int) : List Int × Int := @ite _ (okDk dk) (Classical.propDecidable _) (if ct.length = 1088 then (decKey dk ct, 0) else (z32, 142)) (z32, 141)
def pkeDecS (dk ct : List Int) : List Int × Int := if dk.length = 1152 then if ct.length = 1088 then (decryptS dk ct, 0) else (z32, 142) else (z32, 141)
noncomputable def g_keccak_Sha3256 : List (List Int) × Unit → Option (List Int) := Spec (ks := [.sls (.int .u8)]) (rs := [.xs (.int .u8) 32]) (fun _ => True) fun x => sh256 x.1.flatten
noncomputable def g_keccak_Sha3512 : List (List Int) × Unit → Option (List Int) := Spec (ks := [.sls (.int .u8)]) (rs := [.xs (.int .u8) 64]) (fun _ => True) fun x => sh512 x.1.flatten
noncomputable def g_octet_Join : List (List Int) × Unit → Option (List Int) := Spec (ks := [.sls (.int .u8)]) (rs := [.sl (.int .u8)]) (fun x => x.1.length ≤ 1000 ∧ x.1.flatten.length ≤ 1000000) fun x => x.1.flatten
noncomputable def g_octet_Same : List Int × List Int × Unit → Option Bool := Spec (ks := [.sl (.int .u8), .sl (.int .u8)]) (rs := [.bool]) (fun _ => True) fun x => decide (x.1 = x.2.1)
noncomputable def g_octet_Choose : Bool × List Int × List Int × Unit → Option (List Int × Int) := Spec (ks := [.bool, .sl (.int .u8), .sl (.int .u8)]) (rs := [.sl (.int .u8), .int .i64]) (fun x => x.2.1.length = x.2.2.1.length ∧ x.2.1.length ≤ 1000) fun x => (if x.1 = true then x.2.1 else x.2.2.1, 0)
noncomputable def g_kem_split : List Int × Unit → Option (List Int × List Int) := Spec (ks := [.xs (.int .u8) 64]) (rs := [.xs (.int .u8) 32, .xs (.int .u8) 32]) (fun _ => True) fun x => (lo32 x.1, hi32 x.1)
noncomputable def g_kem_noise : List Int × Int × Unit → Option (List Int) := Spec (ks := [.sl (.int .u8), .int .i64]) (rs := [.xs (.int .u16) 256]) (fun x => 0 ≤ x.2.1 ∧ x.2.1 ≤ 255) fun x => noiseS x.1 x.2.1
noncomputable def g_kem_noises : List Int × Int × Unit → Option (List Int) := Spec (ks := [.sl (.int .u8), .int .i64]) (rs := [.xs (.int .u16) 768]) (fun x => 0 ≤ x.2.1 ∧ x.2.1 ≤ 250) fun x => noisesS x.1 x.2.1
noncomputable def g_kem_row_turned : List Int × Unit → Option (List Int) := Spec (ks := [.xs (.int .u16) 768]) (rs := [.xs (.int .u16) 768]) (fun _ => True) fun x => turnS x.1
noncomputable def g_kem_row_times : List Int × List Int × Unit → Option (List Int) := Spec (ks := [.xs (.int .u16) 768, .xs (.int .u16) 768]) (rs := [.xs (.int .u16) 256]) (fun _ => True) fun x => timesS x.1 x.2.1
noncomputable def g_kem_row_encoded : List Int × Unit → Option (List Int) := Spec (ks := [.xs (.int .u16) 768]) (rs := [.sl (.int .u8)]) (fun _ => True) fun x => encS x.1
noncomputable def g_kem_decoded : List Int × Unit → Option (List Int) := Spec (ks := [.sl (.int .u8)]) (rs := [.xs (.int .u16) 768]) (fun x => 1152 ≤ x.1.length) fun x => decS x.1
noncomputable def g_kem_packed : Int × List Int × Unit → Option (List Int) := Spec (ks := [.int .i64, .xs (.int .u16) 256]) (rs := [.sl (.int .u8)]) (fun x => 1 ≤ x.1 ∧ x.1 ≤ 11) fun x => packS x.1 x.2.1
noncomputable def g_kem_unpacked : Int × List Int × Unit → Option (List Int) := Spec (ks := [.int .i64, .sl (.int .u8)]) (rs := [.xs (.int .u16) 256]) (fun x => (1 ≤ x.1 ∧ x.1 ≤ 11) ∧ (x.2.1.length : Int) = 32 * x.1) fun x => unpackS x.1 x.2.1
noncomputable def g_kem_entry : List Int × Int × Int × Unit → Option (Bool × Int × List Int) := XSpec (ks := [.sl (.int .u8), .int .i64, .int .i64]) (rs := [.xs (.int .u16) 256]) (fun x => x.1.length = 32 ∧ (0 ≤ x.2.1 ∧ x.2.1 ≤ 255) ∧ 0 ≤ x.2.2.1 ∧ x.2.2.1 ≤ 255)
  fun x => (decide ((entS x.1 x.2.1.toNat x.2.2.1.toNat).2 ≠ 0), 130, (entS x.1 x.2.1.toNat x.2.2.1.toNat).1)
noncomputable def g_kem_encrypt : List Int × List Int × List Int × Unit → Option (Bool × Int × List Int) := XSpec (ks := [.sl (.int .u8), .xs (.int .u8) 32, .xs (.int .u8) 32]) (rs := [.sl (.int .u8)]) (fun x => x.1.length = 1184)
  fun x => (badMat (x.1.drop 1152), 130, encryptS x.1 x.2.1 x.2.2.1)
noncomputable def g_kem_decrypt : List Int × List Int × Unit → Option (List Int) := Spec (ks := [.sl (.int .u8), .sl (.int .u8)]) (rs := [.xs (.int .u8) 32]) (fun x => x.1.length = 1152 ∧ x.2.1.length = 1088) fun x => decryptS x.1 x.2.1
noncomputable def g_kem_PkeKey : List Int × Unit → Option (List Int × List Int × Int) := Spec (ks := [.xs (.int .u8) 32]) (rs := [.sl (.int .u8), .sl (.int .u8), .int .i64]) (fun _ => True) fun x => pkeKeyS x.1
noncomputable def g_kem_KeyGen : List Int × List Int × Unit → Option (List Int × List Int × Int) := Spec (ks := [.xs (.int .u8) 32, .xs (.int .u8) 32]) (rs := [.sl (.int .u8), .sl (.int .u8), .int .i64]) (fun _ => True) fun x => keyGenS x.1 x.2.1
noncomputable def g_kem_CheckEk : List Int × Unit → Option Int := Spec (ks := [.sl (.int .u8)]) (rs := [.int .i64]) (fun _ => True) fun x => checkEkS x.1
noncomputable def g_kem_CheckDk : List Int × Unit → Option Int := Spec (ks := [.sl (.int .u8)]) (rs := [.int .i64]) (fun _ => True) fun x => checkDkS x.1
noncomputable def g_kem_Encaps : List Int × List Int × Unit → Option (List Int × List Int × Int) := Spec (ks := [.sl (.int .u8), .xs (.int .u8) 32]) (rs := [.xs (.int .u8) 32, .sl (.int .u8), .int .i64]) (fun _ => True) fun x => encapsS x.1 x.2.1
noncomputable def g_kem_Decaps : List Int × List Int × Unit → Option (List Int × Int) := Spec (ks := [.sl (.int .u8), .sl (.int .u8)]) (rs := [.xs (.int .u8) 32, .int .i64]) (fun x => okDk x.1 → okMat (((x.1.drop 1152).take 1184).drop 1152)) fun x => decapsS x.1 x.2.1
noncomputable def g_kem_PkeDecrypt : List Int × List Int × Unit → Option (List Int × Int) := Spec (ks := [.sl (.int .u8), .sl (.int .u8)]) (rs := [.xs (.int .u8) 32, .int .i64]) (fun _ => True) fun x => pkeDecS x.1 x.2.1
noncomputable def g_law14_live : Unit → Option Bool := Spec (ks := []) (rs := [.bool]) (fun _ => True) fun _ => true
noncomputable def g_law14_few : List (List Int) × Unit → Option Bool := Spec (ks := [.sls (.int .u8)]) (rs := [.bool]) (fun x => x.1.length ≤ 1000) fun x => x.1.all fun b => decide (b.length ≤ 5000)
noncomputable def g_law14_zero : List Int × Unit → Option (List Int) := Spec (ks := [.sl (.int .u8)]) (rs := [.xs (.int .u8) 32]) (fun x => x.1.length = 32) fun x => x.1
noncomputable def g_law14_KemRejects : List Int × List Int × List Int × Unit → Option Bool := Spec (ks := [.xs (.int .u8) 32, .xs (.int .u8) 32, .sl (.int .u8)]) (rs := [.bool]) (fun _ => True) fun _ => true
end Go.Ax.TryP
set_option linter.unusedVariables false
namespace Go.Ax.TryP
open Go.Proofs
noncomputable def p_keccak_Sha3256_E : AE := AE.of [(3, ty3), (5, ty5), (22, ty22), (72, ty72), (74, ty74)] [(38, Z_keccak_sponge_takes), (39, Z_keccak_sponge_gives)]
noncomputable def p_keccak_Sha3256_H : Hints := [(3000000, [2])]
noncomputable def p_keccak_Sha3256_c : Code := (Try.f19).body.getD .skip
abbrev p_keccak_Sha3256_ks : List Kd := [.sls b8]
abbrev p_keccak_Sha3256_rs : List Kd := [.xs b8 32]
noncomputable def p_keccak_Sha3256 (N : Nat) (x : List (List Int) × Unit) : Option (List Int) :=
  (g_keccak_sponge_takes (((List.replicate 25 0), (List.getD (List.set [0] 0 (136:Int)) 0 0), (List.getD [0] 0 0), ()), (6:Int), x.1, ())).bind fun r1 => (
  (g_keccak_sponge_gives ((r1.1, r1.2.1, r1.2.2.1, ()), (List.take 32 (List.drop 0 (List.replicate 32 0))), ())).bind fun r2 => (
  if (List.length r2.2) = 32 then (
  some r2.2) else none))
theorem p_keccak_Sha3256_eq (N : Nat) (x : Ds [.sls b8]) : funL p_keccak_Sha3256_E p_keccak_Sha3256_H (LT.nil) N Try.f19 p_keccak_Sha3256_c [.sls b8] [.xs b8 32] x = p_keccak_Sha3256 N x := by kernel_rfl
theorem p_keccak_Sha3256_Eok (e0 : SigOk Try.prog 38 Z_keccak_sponge_takes) (e1 : SigOk Try.prog 39 Z_keccak_sponge_gives) : p_keccak_Sha3256_E.Ok Try.prog := AE.of_ok (all_cons ty3_ok (all_cons ty5_ok (all_cons ty22_ok (all_cons ty72_ok (all_cons ty74_ok all_nil))))) (all_cons ⟨e0, enters_keccak_sponge_takes⟩ (all_cons ⟨e1, enters_keccak_sponge_gives⟩ all_nil))
theorem p_keccak_Sha3256_ok (e0 : SigOk Try.prog 38 Z_keccak_sponge_takes) (e1 : SigOk Try.prog 39 Z_keccak_sponge_gives) {g : Ds [.sls b8] → Option (Rs [.xs b8 32])} (hg : ∀ x r, g x = some r → ∃ N, p_keccak_Sha3256 N x = some r) : SigOk Try.prog 19 ⟨[.sls b8], [.xs b8 32], g⟩ :=
  fun_of (E := p_keccak_Sha3256_E) (H := p_keccak_Sha3256_H) (L := fun N => LT.nil) (c := p_keccak_Sha3256_c) (ks := p_keccak_Sha3256_ks) (rs := p_keccak_Sha3256_rs) (F := p_keccak_Sha3256) (p_keccak_Sha3256_Eok e0 e1) mix Try.func19 (by kernel_rfl) (fun N => OkAll.nil) p_keccak_Sha3256_eq hg
noncomputable def p_keccak_Sha3512_E : AE := AE.of [(3, ty3), (5, ty5), (50, ty50), (72, ty72), (74, ty74)] [(38, Z_keccak_sponge_takes), (39, Z_keccak_sponge_gives)]
noncomputable def p_keccak_Sha3512_H : Hints := [(3000000, [2])]
noncomputable def p_keccak_Sha3512_c : Code := (Try.f25).body.getD .skip
abbrev p_keccak_Sha3512_ks : List Kd := [.sls b8]
abbrev p_keccak_Sha3512_rs : List Kd := [.xs b8 64]
noncomputable def p_keccak_Sha3512 (N : Nat) (x : List (List Int) × Unit) : Option (List Int) :=
  (g_keccak_sponge_takes (((List.replicate 25 0), (List.getD (List.set [0] 0 (72:Int)) 0 0), (List.getD [0] 0 0), ()), (6:Int), x.1, ())).bind fun r1 => (
  (g_keccak_sponge_gives ((r1.1, r1.2.1, r1.2.2.1, ()), (List.take 64 (List.drop 0 (List.replicate 64 0))), ())).bind fun r2 => (
  if (List.length r2.2) = 64 then (
  some r2.2) else none))
theorem p_keccak_Sha3512_eq (N : Nat) (x : Ds [.sls b8]) : funL p_keccak_Sha3512_E p_keccak_Sha3512_H (LT.nil) N Try.f25 p_keccak_Sha3512_c [.sls b8] [.xs b8 64] x = p_keccak_Sha3512 N x := by kernel_rfl
theorem p_keccak_Sha3512_Eok (e0 : SigOk Try.prog 38 Z_keccak_sponge_takes) (e1 : SigOk Try.prog 39 Z_keccak_sponge_gives) : p_keccak_Sha3512_E.Ok Try.prog := AE.of_ok (all_cons ty3_ok (all_cons ty5_ok (all_cons ty50_ok (all_cons ty72_ok (all_cons ty74_ok all_nil))))) (all_cons ⟨e0, enters_keccak_sponge_takes⟩ (all_cons ⟨e1, enters_keccak_sponge_gives⟩ all_nil))
theorem p_keccak_Sha3512_ok (e0 : SigOk Try.prog 38 Z_keccak_sponge_takes) (e1 : SigOk Try.prog 39 Z_keccak_sponge_gives) {g : Ds [.sls b8] → Option (Rs [.xs b8 64])} (hg : ∀ x r, g x = some r → ∃ N, p_keccak_Sha3512 N x = some r) : SigOk Try.prog 25 ⟨[.sls b8], [.xs b8 64], g⟩ :=
  fun_of (E := p_keccak_Sha3512_E) (H := p_keccak_Sha3512_H) (L := fun N => LT.nil) (c := p_keccak_Sha3512_c) (ks := p_keccak_Sha3512_ks) (rs := p_keccak_Sha3512_rs) (F := p_keccak_Sha3512) (p_keccak_Sha3512_Eok e0 e1) mix Try.func25 (by kernel_rfl) (fun N => OkAll.nil) p_keccak_Sha3512_eq hg
noncomputable def p_octet_Join_E : AE := AE.of [(5, ty5), (24, ty24), (58, ty58)] []
noncomputable def p_octet_Join_H : Hints := [(3, [0, 3, 9, 10, 11]), (9, [6, 22, 23, 24]), (2000000, [0, 3]), (2000001, [0, 3, 9, 10, 11]), (2000002, [6]), (2000003, [6, 22, 23, 24]), (3000000, [2])]
noncomputable def p_octet_Join_c : Code := (Try.f20).body.getD .skip
noncomputable def p_octet_Join_l3_S : Shape where
  h := { tmps := [.sc (.frs b8), V, V, .sc (.int .i64), V, V, V, V, V, .sc (.frs b8), .sc (.int .i64), .sc (.int .i64), V, V, V, V, V, V, V, V, V, V, V, V, V, V, V, V, V, V, V, V, V], mem := [] }
  ks := [.xss, .int, .xss, .int, .int]
  st := fun x => { tmps := [.one (.sc (.fr (.xss b8 x.1))), U, U, .one (.sc (.int .i64 x.2.1)), U, U, U, U, U, .one (.sc (.fr (.xss b8 x.2.2.1))), .one (.sc (.int .i64 x.2.2.2.1)), .one (.sc (.int .i64 x.2.2.2.2.1)), U, U, U, U, U, U, U, U, U, U, U, U, U, U, U, U, U, U, U, U, U], mem := [] }
noncomputable def p_octet_Join_l3_F (N : Nat) (β : Type) (x : (List (List Int) × Int × List (List Int) × Int × Int × Unit)) (kn : (List (List Int) × Int × List (List Int) × Int × Int × Unit) → Option β) (ke : ((List (List Int) × Int × Unit)) → Option β) : Option β :=
  if (x.2.2.2.2.1 < x.2.2.2.1) then
    if 0 ≤ x.2.2.2.2.1 then (
    if x.2.2.2.2.1 < ((List.length x.2.2.1 : Nat) : Int) then (
    kn (x.1, (IntKind.i64.wrap (x.2.1 + ((List.length (List.getD x.2.2.1 (x.2.2.2.2.1.toNat) []) : Nat) : Int))), x.2.2.1, x.2.2.2.1, (IntKind.i64.wrap (x.2.2.2.2.1 + (1:Int))), ())) else none) else none
  else
    ke (x.1, x.2.1, ())
noncomputable def p_octet_Join_l3_go : Go' ((List (List Int) × Int × Unit)) := fun y K => K (.exit 0) { tmps := [.one (.sc (.fr (.xss b8 y.1))), U, U, .one (.sc (.int .i64 y.2.1)), U, U, U, U, U, U, U, U, U, U, U, U, U, U, U, U, U, U, U, U, U, U, U, U, U, U, U, U, U], mem := [] }
noncomputable def p_octet_Join_l3_L (N : Nat) : LT := upd (LT.nil) 3 (loopE p_octet_Join_l3_S N (p_octet_Join_l3_F N) p_octet_Join_l3_go)
theorem p_octet_Join_l3_ok (N : Nat) : OkAll p_octet_Join_E p_octet_Join_H N (p_octet_Join_l3_L N) (subs p_octet_Join_c) :=
  addLoop (c := theLoop 3 p_octet_Join_c) (OkAll.nil) (by kernel_rfl) (fun x => by kernel_rfl) (fun β x kn ke => by kernel_rfl)
noncomputable def p_octet_Join_l9_S : Shape where
  h := { tmps := [V, V, V, V, V, V, .sc (.vec 0 none 1), V, V, V, V, V, V, V, V, V, V, V, V, V, V, V, .sc (.frs b8), .sc (.int .i64), .sc (.int .i64), V, V, V, V, V, V, V, V], mem := [.live [.xs b8 none] (.own)] }
  ks := [.nat, .xss, .int, .int, .nat, .xs]
  st := fun x => { tmps := [U, U, U, U, U, U, .one (.sc (.vec 0 x.1 1)), U, U, U, U, U, U, U, U, U, U, U, U, U, U, U, .one (.sc (.fr (.xss b8 x.2.1))), .one (.sc (.int .i64 x.2.2.1)), .one (.sc (.int .i64 x.2.2.2.1)), U, U, U, U, U, U, U, U], mem := [.live { segs := [.xs b8 x.2.2.2.2.1 x.2.2.2.2.2.1], own := .own }] }
noncomputable def p_octet_Join_l9_F (N : Nat) (β : Type) (x : (Nat × List (List Int) × Int × Int × Nat × List Int × Unit)) (kn : (Nat × List (List Int) × Int × Int × Nat × List Int × Unit) → Option β) (ke : ((Nat × Nat × List Int × Unit)) → Option β) : Option β :=
  if (x.2.2.2.1 < x.2.2.1) then
    if 0 ≤ x.2.2.2.1 then (
    if x.2.2.2.1 < ((List.length x.2.1 : Nat) : Int) then (
    if (x.1 + (List.length (List.getD x.2.1 (x.2.2.2.1.toNat) []))) * 1 ≤ 140737488355328 then (
    kn ((x.1 + (List.length (List.getD x.2.1 (x.2.2.2.1.toNat) []))), x.2.1, x.2.2.1, (IntKind.i64.wrap (x.2.2.2.1 + (1:Int))), (x.2.2.2.2.1 + (List.length (List.getD x.2.1 (x.2.2.2.1.toNat) []))), (x.2.2.2.2.2.1 ++ (List.getD x.2.1 (x.2.2.2.1.toNat) [])), ())) else none) else none) else none
  else
    ke (x.1, x.2.2.2.2.1, x.2.2.2.2.2.1, ())
noncomputable def p_octet_Join_l9_go : Go' ((Nat × Nat × List Int × Unit)) := fun y K => K (.exit 2) { tmps := [U, U, U, U, U, U, .one (.sc (.vec 0 y.1 1)), U, U, U, U, U, U, U, U, U, U, U, U, U, U, U, U, U, U, U, U, U, U, U, U, U, U], mem := [.live { segs := [.xs b8 y.2.1 y.2.2.1], own := .own }] }
noncomputable def p_octet_Join_l9_L (N : Nat) : LT := upd (p_octet_Join_l3_L N) 9 (loopE p_octet_Join_l9_S N (p_octet_Join_l9_F N) p_octet_Join_l9_go)
theorem p_octet_Join_l9_ok (N : Nat) : OkAll p_octet_Join_E p_octet_Join_H N (p_octet_Join_l9_L N) (subs p_octet_Join_c) :=
  addLoop (c := theLoop 9 p_octet_Join_c) (p_octet_Join_l3_ok N) (by kernel_rfl) (fun x => by kernel_rfl) (fun β x kn ke => by kernel_rfl)
abbrev p_octet_Join_ks : List Kd := [.sls b8]
abbrev p_octet_Join_rs : List Kd := [.sl b8]
noncomputable def p_octet_Join (N : Nat) (x : List (List Int) × Unit) : Option (List Int) :=
  iter (p_octet_Join_l3_F N) N (x.1, (0:Int), x.1, ((List.length x.1 : Nat) : Int), (0:Int), ()) fun y1 => (
  if 0 ≤ (0:Int) then (
  if (0:Int) ≤ y1.2.1 then (
  if y1.2.1 * 1 ≤ 281474976710656 then (
  iter (p_octet_Join_l9_F N) N (0, y1.1, ((List.length y1.1 : Nat) : Int), (0:Int), 0, (List.replicate 0 0), ()) fun y2 => (
  some y2.2.2.1)) else none) else none) else none)
theorem p_octet_Join_eq (N : Nat) (x : Ds [.sls b8]) : funL p_octet_Join_E p_octet_Join_H (p_octet_Join_l9_L N) N Try.f20 p_octet_Join_c [.sls b8] [.sl b8] x = p_octet_Join N x := by kernel_rfl
theorem p_octet_Join_Eok : p_octet_Join_E.Ok Try.prog := AE.of_ok (all_cons ty5_ok (all_cons ty24_ok (all_cons ty58_ok all_nil))) all_nil
theorem p_octet_Join_ok {g : Ds [.sls b8] → Option (Rs [.sl b8])} (hg : ∀ x r, g x = some r → ∃ N, p_octet_Join N x = some r) : SigOk Try.prog 20 ⟨[.sls b8], [.sl b8], g⟩ :=
  fun_of (E := p_octet_Join_E) (H := p_octet_Join_H) (L := fun N => p_octet_Join_l9_L N) (c := p_octet_Join_c) (ks := p_octet_Join_ks) (rs := p_octet_Join_rs) (F := p_octet_Join) (p_octet_Join_Eok) mix Try.func20 (by kernel_rfl) (fun N => p_octet_Join_l9_ok N) p_octet_Join_eq hg
noncomputable def p_octet_Same_E : AE := AE.of [(5, ty5), (24, ty24)] []
noncomputable def p_octet_Same_H : Hints := [(5, [0, 1, 5, 13, 14]), (2000000, [5]), (2000001, [0, 1, 5, 13, 14]), (3000000, [4])]
noncomputable def p_octet_Same_c : Code := (Try.f22).body.getD .skip
noncomputable def p_octet_Same_l5_S : Shape where
  h := { tmps := [.sc (.vec 0 none 1), .sc (.vec 1 none 1), V, V, V, .sc (.int .u8), V, V, V, V, V, V, V, .sc (.int .i64), .sc (.int .i64), V, V, V, V, V, V, V, V, V, V, V, V, V, V, V, V], mem := [.live [.xs b8 none] (.ro), .live [.xs b8 none] (.ro)] }
  ks := [.nat, .nat, .int, .int, .int, .nat, .xs, .nat, .xs]
  st := fun x => { tmps := [.one (.sc (.vec 0 x.1 1)), .one (.sc (.vec 1 x.2.1 1)), U, U, U, .one (.sc (.int .u8 x.2.2.1)), U, U, U, U, U, U, U, .one (.sc (.int .i64 x.2.2.2.1)), .one (.sc (.int .i64 x.2.2.2.2.1)), U, U, U, U, U, U, U, U, U, U, U, U, U, U, U, U], mem := [.live { segs := [.xs b8 x.2.2.2.2.2.1 x.2.2.2.2.2.2.1], own := .ro }, .live { segs := [.xs b8 x.2.2.2.2.2.2.2.1 x.2.2.2.2.2.2.2.2.1], own := .ro }] }
noncomputable def p_octet_Same_l5_F (N : Nat) (β : Type) (x : (Nat × Nat × Int × Int × Int × Nat × List Int × Nat × List Int × Unit)) (kn : (Nat × Nat × Int × Int × Int × Nat × List Int × Nat × List Int × Unit) → Option β) (ke : ((Int × Unit)) → Option β) : Option β :=
  if (x.2.2.2.2.1 < x.2.2.2.1) then
    if 0 ≤ x.2.2.2.2.1 then (
    if x.2.2.2.2.1 < ((x.1 : Nat) : Int) then (
    if (x.2.2.2.2.1.toNat) < x.2.2.2.2.2.1 then (
    if 0 ≤ x.2.2.2.2.1 then (
    if x.2.2.2.2.1 < ((x.2.1 : Nat) : Int) then (
    if (x.2.2.2.2.1.toNat) < x.2.2.2.2.2.2.2.1 then (
    kn (x.1, x.2.1, (ior IntKind.u8 x.2.2.1 (ixor IntKind.u8 (List.getD x.2.2.2.2.2.2.1 (x.2.2.2.2.1.toNat) 0) (List.getD x.2.2.2.2.2.2.2.2.1 (x.2.2.2.2.1.toNat) 0))), x.2.2.2.1, (IntKind.i64.wrap (x.2.2.2.2.1 + (1:Int))), x.2.2.2.2.2.1, x.2.2.2.2.2.2.1, x.2.2.2.2.2.2.2.1, x.2.2.2.2.2.2.2.2.1, ())) else none) else none) else none) else none) else none) else none
  else
    ke (x.2.2.1, ())
noncomputable def p_octet_Same_l5_go : Go' ((Int × Unit)) := fun y K => K (.exit 0) { tmps := [U, U, U, U, U, .one (.sc (.int .u8 y.1)), U, U, U, U, U, U, U, U, U, U, U, U, U, U, U, U, U, U, U, U, U, U, U, U, U], mem := [] }
noncomputable def p_octet_Same_l5_L (N : Nat) : LT := upd (LT.nil) 5 (loopE p_octet_Same_l5_S N (p_octet_Same_l5_F N) p_octet_Same_l5_go)
theorem p_octet_Same_l5_ok (N : Nat) : OkAll p_octet_Same_E p_octet_Same_H N (p_octet_Same_l5_L N) (subs p_octet_Same_c) :=
  addLoop (c := theLoop 5 p_octet_Same_c) (OkAll.nil) (by kernel_rfl) (fun x => by kernel_rfl) (fun β x kn ke => by kernel_rfl)
abbrev p_octet_Same_ks : List Kd := [.sl b8, .sl b8]
abbrev p_octet_Same_rs : List Kd := [.bool]
noncomputable def p_octet_Same (N : Nat) (x : List Int × List Int × Unit) : Option (Bool) :=
  if ((((List.length x.1) : Nat) : Int) ≠ (((List.length x.2.1) : Nat) : Int)) then
    some false
  else
    iter (p_octet_Same_l5_F N) N ((List.length x.1), (List.length x.2.1), (0:Int), (((List.length x.1) : Nat) : Int), (0:Int), (List.length x.1), x.1, (List.length x.2.1), x.2.1, ()) fun y1 => (
    some (decide (y1.1 = (0:Int))))
theorem p_octet_Same_eq (N : Nat) (x : Ds [.sl b8, .sl b8]) : funL p_octet_Same_E p_octet_Same_H (p_octet_Same_l5_L N) N Try.f22 p_octet_Same_c [.sl b8, .sl b8] [.bool] x = p_octet_Same N x := by kernel_rfl
theorem p_octet_Same_Eok : p_octet_Same_E.Ok Try.prog := AE.of_ok (all_cons ty5_ok (all_cons ty24_ok all_nil)) all_nil
theorem p_octet_Same_ok {g : Ds [.sl b8, .sl b8] → Option (Rs [.bool])} (hg : ∀ x r, g x = some r → ∃ N, p_octet_Same N x = some r) : SigOk Try.prog 22 ⟨[.sl b8, .sl b8], [.bool], g⟩ :=
  fun_of (E := p_octet_Same_E) (H := p_octet_Same_H) (L := fun N => p_octet_Same_l5_L N) (c := p_octet_Same_c) (ks := p_octet_Same_ks) (rs := p_octet_Same_rs) (F := p_octet_Same) (p_octet_Same_Eok) mix Try.func22 (by kernel_rfl) (fun N => p_octet_Same_l5_ok N) p_octet_Same_eq hg
noncomputable def p_octet_Choose_E : AE := AE.of [(5, ty5), (24, ty24)] []
noncomputable def p_octet_Choose_H : Hints := [(8, [1, 2, 8, 9, 21, 22]), (2000000, [9]), (2000001, [1, 2, 8, 9, 21, 22]), (3000000, [6, 7])]
noncomputable def p_octet_Choose_c : Code := (Try.f30).body.getD .skip
noncomputable def p_octet_Choose_l8_S : Shape where
  h := { tmps := [V, .sc (.vec 0 none 1), .sc (.vec 1 none 1), V, V, V, V, V, .sc (.int .u8), .sc (.vec 2 none 1), V, V, V, V, V, V, V, V, V, V, V, .sc (.int .i64), .sc (.int .i64), V, V, V, V, V, V, V, V, V, V, V, V, V, V, V, V, V, V, V, V], mem := [.live [.xs b8 none] (.ro), .live [.xs b8 none] (.ro), .live [.xs b8 none] (.own)] }
  ks := [.nat, .nat, .int, .nat, .int, .int, .nat, .xs, .nat, .xs, .nat, .xs]
  st := fun x => { tmps := [U, .one (.sc (.vec 0 x.1 1)), .one (.sc (.vec 1 x.2.1 1)), U, U, U, U, U, .one (.sc (.int .u8 x.2.2.1)), .one (.sc (.vec 2 x.2.2.2.1 1)), U, U, U, U, U, U, U, U, U, U, U, .one (.sc (.int .i64 x.2.2.2.2.1)), .one (.sc (.int .i64 x.2.2.2.2.2.1)), U, U, U, U, U, U, U, U, U, U, U, U, U, U, U, U, U, U, U, U], mem := [.live { segs := [.xs b8 x.2.2.2.2.2.2.1 x.2.2.2.2.2.2.2.1], own := .ro }, .live { segs := [.xs b8 x.2.2.2.2.2.2.2.2.1 x.2.2.2.2.2.2.2.2.2.1], own := .ro }, .live { segs := [.xs b8 x.2.2.2.2.2.2.2.2.2.2.1 x.2.2.2.2.2.2.2.2.2.2.2.1], own := .own }] }
noncomputable def p_octet_Choose_l8_F (N : Nat) (β : Type) (x : (Nat × Nat × Int × Nat × Int × Int × Nat × List Int × Nat × List Int × Nat × List Int × Unit)) (kn : (Nat × Nat × Int × Nat × Int × Int × Nat × List Int × Nat × List Int × Nat × List Int × Unit) → Option β) (ke : ((Nat × Nat × List Int × Unit)) → Option β) : Option β :=
  if (x.2.2.2.2.2.1 < x.2.2.2.2.1) then
    if 0 ≤ x.2.2.2.2.2.1 then (
    if x.2.2.2.2.2.1 < ((x.1 : Nat) : Int) then (
    if (x.2.2.2.2.2.1.toNat) < x.2.2.2.2.2.2.1 then (
    if 0 ≤ x.2.2.2.2.2.1 then (
    if x.2.2.2.2.2.1 < ((x.2.1 : Nat) : Int) then (
    if (x.2.2.2.2.2.1.toNat) < x.2.2.2.2.2.2.2.2.1 then (
    if 0 ≤ x.2.2.2.2.2.1 then (
    if x.2.2.2.2.2.1 < ((x.2.2.2.1 : Nat) : Int) then (
    if (x.2.2.2.2.2.1.toNat) < x.2.2.2.2.2.2.2.2.2.2.1 then (
    kn (x.1, x.2.1, x.2.2.1, x.2.2.2.1, x.2.2.2.2.1, (IntKind.i64.wrap (x.2.2.2.2.2.1 + (1:Int))), x.2.2.2.2.2.2.1, x.2.2.2.2.2.2.2.1, x.2.2.2.2.2.2.2.2.1, x.2.2.2.2.2.2.2.2.2.1, x.2.2.2.2.2.2.2.2.2.2.1, (List.set x.2.2.2.2.2.2.2.2.2.2.2.1 (x.2.2.2.2.2.1.toNat) (ior IntKind.u8 (iand IntKind.u8 (List.getD x.2.2.2.2.2.2.2.1 (x.2.2.2.2.2.1.toNat) 0) x.2.2.1) (iandNot IntKind.u8 (List.getD x.2.2.2.2.2.2.2.2.2.1 (x.2.2.2.2.2.1.toNat) 0) x.2.2.1))), ())) else none) else none) else none) else none) else none) else none) else none) else none) else none
  else
    ke (x.2.2.2.1, x.2.2.2.2.2.2.2.2.2.2.1, x.2.2.2.2.2.2.2.2.2.2.2.1, ())
noncomputable def p_octet_Choose_l8_go : Go' ((Nat × Nat × List Int × Unit)) := fun y K => K (.exit 0) { tmps := [U, U, U, U, U, U, U, U, U, .one (.sc (.vec 0 y.1 1)), U, U, U, U, U, U, U, U, U, U, U, U, U, U, U, U, U, U, U, U, U, U, U, U, U, U, U, U, U, U, U, U, U], mem := [.live { segs := [.xs b8 y.2.1 y.2.2.1], own := .own }] }
noncomputable def p_octet_Choose_l8_L (N : Nat) : LT := upd (LT.nil) 8 (loopE p_octet_Choose_l8_S N (p_octet_Choose_l8_F N) p_octet_Choose_l8_go)
theorem p_octet_Choose_l8_ok (N : Nat) : OkAll p_octet_Choose_E p_octet_Choose_H N (p_octet_Choose_l8_L N) (subs p_octet_Choose_c) :=
  addLoop (c := theLoop 8 p_octet_Choose_c) (OkAll.nil) (by kernel_rfl) (fun x => by kernel_rfl) (fun β x kn ke => by kernel_rfl)
abbrev p_octet_Choose_ks : List Kd := [.bool, .sl b8, .sl b8]
abbrev p_octet_Choose_rs : List Kd := [.sl b8, .int .i64]
noncomputable def p_octet_Choose (N : Nat) (x : Bool × List Int × List Int × Unit) : Option (List Int × Int) :=
  if ((((List.length x.2.1) : Nat) : Int) ≠ (((List.length x.2.2.1) : Nat) : Int)) then
    some ([], (1:Int))
  else
    if (x.1 = true) then
      if 0 ≤ (((List.length x.2.1) : Nat) : Int) then (
      if (((List.length x.2.1) : Nat) : Int) = (((List.length x.2.1) : Nat) : Int) then (
      if (((List.length x.2.1) : Nat) : Int) * 1 ≤ 281474976710656 then (
      iter (p_octet_Choose_l8_F N) N ((List.length x.2.1), (List.length x.2.2.1), (255:Int), ((((List.length x.2.1) : Nat) : Int).toNat), (((List.length x.2.1) : Nat) : Int), (0:Int), (List.length x.2.1), x.2.1, (List.length x.2.2.1), x.2.2.1, ((((List.length x.2.1) : Nat) : Int).toNat), (List.replicate ((((List.length x.2.1) : Nat) : Int).toNat) 0), ()) fun y1 => (
      some (y1.2.2.1, (0:Int)))) else none) else none) else none
    else
      if 0 ≤ (((List.length x.2.1) : Nat) : Int) then (
      if (((List.length x.2.1) : Nat) : Int) = (((List.length x.2.1) : Nat) : Int) then (
      if (((List.length x.2.1) : Nat) : Int) * 1 ≤ 281474976710656 then (
      iter (p_octet_Choose_l8_F N) N ((List.length x.2.1), (List.length x.2.2.1), (0:Int), ((((List.length x.2.1) : Nat) : Int).toNat), (((List.length x.2.1) : Nat) : Int), (0:Int), (List.length x.2.1), x.2.1, (List.length x.2.2.1), x.2.2.1, ((((List.length x.2.1) : Nat) : Int).toNat), (List.replicate ((((List.length x.2.1) : Nat) : Int).toNat) 0), ()) fun y2 => (
      some (y2.2.2.1, (0:Int)))) else none) else none) else none
theorem p_octet_Choose_eq (N : Nat) (x : Ds [.bool, .sl b8, .sl b8]) : funL p_octet_Choose_E p_octet_Choose_H (p_octet_Choose_l8_L N) N Try.f30 p_octet_Choose_c [.bool, .sl b8, .sl b8] [.sl b8, .int .i64] x = p_octet_Choose N x := by kernel_rfl
theorem p_octet_Choose_Eok : p_octet_Choose_E.Ok Try.prog := AE.of_ok (all_cons ty5_ok (all_cons ty24_ok all_nil)) all_nil
theorem p_octet_Choose_ok {g : Ds [.bool, .sl b8, .sl b8] → Option (Rs [.sl b8, .int .i64])} (hg : ∀ x r, g x = some r → ∃ N, p_octet_Choose N x = some r) : SigOk Try.prog 30 ⟨[.bool, .sl b8, .sl b8], [.sl b8, .int .i64], g⟩ :=
  fun_of (E := p_octet_Choose_E) (H := p_octet_Choose_H) (L := fun N => p_octet_Choose_l8_L N) (c := p_octet_Choose_c) (ks := p_octet_Choose_ks) (rs := p_octet_Choose_rs) (F := p_octet_Choose) (p_octet_Choose_Eok) mix Try.func30 (by kernel_rfl) (fun N => p_octet_Choose_l8_ok N) p_octet_Choose_eq hg
noncomputable def p_kem_split_E : AE := AE.of [(5, ty5), (22, ty22), (50, ty50)] []
noncomputable def p_kem_split_H : Hints := [(3000000, [2, 3])]
noncomputable def p_kem_split_c : Code := (Try.f24).body.getD .skip
abbrev p_kem_split_ks : List Kd := [.xs b8 64]
abbrev p_kem_split_rs : List Kd := [.xs b8 32, .xs b8 32]
noncomputable def p_kem_split (N : Nat) (x : List Int × Unit) : Option (List Int × List Int) :=
  if 32 ≤ 64 then (
  if 32 ≤ 32 then (
  if 0 + 32 ≤ 64 then (
  if 32 ≤ 64 then (
  if 32 ≤ 32 then (
  if 32 + 32 ≤ 64 then (
  some ((List.take 32 (List.drop 0 x.1)), (List.take 32 (List.drop 32 x.1)))) else none) else none) else none) else none) else none) else none
theorem p_kem_split_eq (N : Nat) (x : Ds [.xs b8 64]) : funL p_kem_split_E p_kem_split_H (LT.nil) N Try.f24 p_kem_split_c [.xs b8 64] [.xs b8 32, .xs b8 32] x = p_kem_split N x := by kernel_rfl
theorem p_kem_split_Eok : p_kem_split_E.Ok Try.prog := AE.of_ok (all_cons ty5_ok (all_cons ty22_ok (all_cons ty50_ok all_nil))) all_nil
theorem p_kem_split_ok {g : Ds [.xs b8 64] → Option (Rs [.xs b8 32, .xs b8 32])} (hg : ∀ x r, g x = some r → ∃ N, p_kem_split N x = some r) : SigOk Try.prog 24 ⟨[.xs b8 64], [.xs b8 32, .xs b8 32], g⟩ :=
  fun_of (E := p_kem_split_E) (H := p_kem_split_H) (L := fun N => LT.nil) (c := p_kem_split_c) (ks := p_kem_split_ks) (rs := p_kem_split_rs) (F := p_kem_split) (p_kem_split_Eok) mix Try.func24 (by kernel_rfl) (fun N => OkAll.nil) p_kem_split_eq hg
noncomputable abbrev Z_keccak_Shake : Sig := ⟨[.int .i64, .int .i64, .sls b8], [.sl b8, .int .i64], g_keccak_Shake⟩
noncomputable abbrev Z_ring_Cbd : Sig := ⟨[.int .i64, .sl b8], [.xs b16 256, .int .i64], g_ring_Cbd⟩
noncomputable def p_kem_noise_E : AE := AE.ofI [(3, ty3), (5, ty5), (24, ty24), (58, ty58), (61, ty61)] [(29, Z_keccak_Shake), (66, Z_ring_Cbd)] [] [(56, i_kem_poly), (28, i_kem_raw)] [] [] []
noncomputable def p_kem_noise_H : Hints := [(3000000, [4]), (5000000, [4])]
noncomputable def p_kem_noise_c : Code := (Try.f45).body.getD .skip
abbrev p_kem_noise_ks : List Kd := [.sl b8, .int .i64]
abbrev p_kem_noise_rs : List Kd := [.xs b16 256]
noncomputable def p_kem_noise (N : Nat) (x : List Int × Int × Unit) : Option (List Int) :=
  (g_keccak_Shake ((256:Int), (128:Int), [x.1, (List.set (List.replicate 1 0) 0 (IntKind.u8.wrap x.2.1))], ())).bind fun r1 => (
  if (r1.2 ≠ (0:Int)) then none else (
  (g_ring_Cbd ((2:Int), r1.1, ())).bind fun r2 => (
  if (r2.2 ≠ (0:Int)) then none else (
  some r2.1))))
theorem p_kem_noise_eq (N : Nat) (x : Ds [.sl b8, .int .i64]) : funL p_kem_noise_E p_kem_noise_H (LT.nil) N Try.f45 p_kem_noise_c [.sl b8, .int .i64] [.xs b16 256] x = p_kem_noise N x := by kernel_rfl
theorem p_kem_noise_Eok (e0 : SigOk Try.prog 29 Z_keccak_Shake) (e1 : SigOk Try.prog 66 Z_ring_Cbd) : p_kem_noise_E.Ok Try.prog := AE.ofI_ok (all_cons ty3_ok (all_cons ty5_ok (all_cons ty24_ok (all_cons ty58_ok (all_cons ty61_ok all_nil))))) (all_cons ⟨e0, enters_keccak_Shake⟩ (all_cons ⟨e1, enters_ring_Cbd⟩ all_nil)) all_nil (all_cons ⟨i_kem_poly_ok, enters_kem_poly⟩ (all_cons ⟨i_kem_raw_ok, enters_kem_raw⟩ all_nil)) all_nil
theorem p_kem_noise_ok (e0 : SigOk Try.prog 29 Z_keccak_Shake) (e1 : SigOk Try.prog 66 Z_ring_Cbd) {g : Ds [.sl b8, .int .i64] → Option (Rs [.xs b16 256])} (hg : ∀ x r, g x = some r → ∃ N, p_kem_noise N x = some r) : SigOk Try.prog 45 ⟨[.sl b8, .int .i64], [.xs b16 256], g⟩ :=
  fun_of (E := p_kem_noise_E) (H := p_kem_noise_H) (L := fun N => LT.nil) (c := p_kem_noise_c) (ks := p_kem_noise_ks) (rs := p_kem_noise_rs) (F := p_kem_noise) (p_kem_noise_Eok e0 e1) mix Try.func45 (by kernel_rfl) (fun N => OkAll.nil) p_kem_noise_eq hg
noncomputable abbrev Z_kem_noise : Sig := ⟨[.sl b8, .int .i64], [.xs b16 256], g_kem_noise⟩
noncomputable def p_kem_noises_E : AE := AE.of [(61, ty61), (63, ty63)] [(45, Z_kem_noise)]
noncomputable def p_kem_noises_H : Hints := [(3, [0, 1, 4, 5, 7]), (2000000, [4, 5]), (2000001, [0, 1, 4, 5, 7]), (3000000, [4])]
noncomputable def p_kem_noises_c : Code := (Try.f32).body.getD .skip
noncomputable def p_kem_noises_l3_S : Shape where
  h := { tmps := [.sc (.vec 0 none 1), .sc (.int .i64), V, V, .sc (.ptr 1 0 false), .sc (.ptr 2 0 false), V, .sc (.int .i64), V, V, V, V, V, V, V, V, V, V, V], mem := [.live [.xs b8 none] (.ro), .live [.xs b16 (some 768)] (.own), .live [.xs b16 (some 768)] (.own)] }
  ks := [.nat, .int, .int, .nat, .xs, .xs, .xs]
  st := fun x => { tmps := [.one (.sc (.vec 0 x.1 1)), .one (.sc (.int .i64 x.2.1)), U, U, .one (.sc (.ptr 1 0 none)), .one (.sc (.ptr 2 0 none)), U, .one (.sc (.int .i64 x.2.2.1)), U, U, U, U, U, U, U, U, U, U, U], mem := [.live { segs := [.xs b8 x.2.2.2.1 x.2.2.2.2.1], own := .ro }, .live { segs := [.xs b16 768 x.2.2.2.2.2.1], own := .own }, .live { segs := [.xs b16 768 x.2.2.2.2.2.2.1], own := .own }] }
noncomputable def p_kem_noises_l3_F (N : Nat) (β : Type) (x : (Nat × Int × Int × Nat × List Int × List Int × List Int × Unit)) (kn : (Nat × Int × Int × Nat × List Int × List Int × List Int × Unit) → Option β) (ke : ((List Int × List Int × Unit)) → Option β) : Option β :=
  if (x.2.2.1 < (3:Int)) then
    (g_kem_noise (x.2.2.2.2.1, (IntKind.i64.wrap (x.2.1 + x.2.2.1)), ())).bind fun r1 => (
    if 0 ≤ x.2.2.1 then (
    if x.2.2.1 < 3 then (
    if ((x.2.2.1.toNat) * 256) + 256 ≤ 768 then (
    kn (x.1, x.2.1, (IntKind.i64.wrap (x.2.2.1 + (1:Int))), x.2.2.2.1, x.2.2.2.2.1, x.2.2.2.2.2.1, (List.take ((x.2.2.1.toNat) * 256) x.2.2.2.2.2.2.1 ++ r1 ++ List.drop (((x.2.2.1.toNat) * 256) + 256) x.2.2.2.2.2.2.1), ())) else none) else none) else none)
  else
    ke (x.2.2.2.2.2.1, x.2.2.2.2.2.2.1, ())
noncomputable def p_kem_noises_l3_go : Go' ((List Int × List Int × Unit)) := fun y K => K (.exit 0) { tmps := [U, U, U, U, .one (.sc (.ptr 0 0 none)), .one (.sc (.ptr 1 0 none)), U, U, U, U, U, U, U, U, U, U, U, U, U], mem := [.live { segs := [.xs b16 768 y.1], own := .own }, .live { segs := [.xs b16 768 y.2.1], own := .own }] }
noncomputable def p_kem_noises_l3_L (N : Nat) : LT := upd (LT.nil) 3 (loopE p_kem_noises_l3_S N (p_kem_noises_l3_F N) p_kem_noises_l3_go)
theorem p_kem_noises_l3_ok (N : Nat) : OkAll p_kem_noises_E p_kem_noises_H N (p_kem_noises_l3_L N) (subs p_kem_noises_c) :=
  addLoop (c := theLoop 3 p_kem_noises_c) (OkAll.nil) (by kernel_rfl) (fun x => by kernel_rfl) (fun β x kn ke => by kernel_rfl)
abbrev p_kem_noises_ks : List Kd := [.sl b8, .int .i64]
abbrev p_kem_noises_rs : List Kd := [.xs b16 768]
noncomputable def p_kem_noises (N : Nat) (x : List Int × Int × Unit) : Option (List Int) :=
  iter (p_kem_noises_l3_F N) N ((List.length x.1), x.2.1, (0:Int), (List.length x.1), x.1, (List.replicate 768 0), (List.replicate 768 0), ()) fun y2 => (
  some y2.2.1)
theorem p_kem_noises_eq (N : Nat) (x : Ds [.sl b8, .int .i64]) : funL p_kem_noises_E p_kem_noises_H (p_kem_noises_l3_L N) N Try.f32 p_kem_noises_c [.sl b8, .int .i64] [.xs b16 768] x = p_kem_noises N x := by kernel_rfl
theorem p_kem_noises_Eok (e0 : SigOk Try.prog 45 Z_kem_noise) : p_kem_noises_E.Ok Try.prog := AE.of_ok (all_cons ty61_ok (all_cons ty63_ok all_nil)) (all_cons ⟨e0, enters_kem_noise⟩ all_nil)
theorem p_kem_noises_ok (e0 : SigOk Try.prog 45 Z_kem_noise) {g : Ds [.sl b8, .int .i64] → Option (Rs [.xs b16 768])} (hg : ∀ x r, g x = some r → ∃ N, p_kem_noises N x = some r) : SigOk Try.prog 32 ⟨[.sl b8, .int .i64], [.xs b16 768], g⟩ :=
  fun_of (E := p_kem_noises_E) (H := p_kem_noises_H) (L := fun N => p_kem_noises_l3_L N) (c := p_kem_noises_c) (ks := p_kem_noises_ks) (rs := p_kem_noises_rs) (F := p_kem_noises) (p_kem_noises_Eok e0) mix Try.func32 (by kernel_rfl) (fun N => p_kem_noises_l3_ok N) p_kem_noises_eq hg
noncomputable abbrev Z_ring_Ntt : Sig := ⟨[.xs b16 256], [.xs b16 256], g_ring_Ntt⟩
noncomputable def p_kem_row_turned_E : AE := AE.of [(61, ty61), (63, ty63)] [(55, Z_ring_Ntt)]
noncomputable def p_kem_row_turned_H : Hints := [(2, [1, 2, 4]), (2000000, [1, 2]), (2000001, [1, 2, 4]), (3000000, [2])]
noncomputable def p_kem_row_turned_c : Code := (Try.f33).body.getD .skip
noncomputable def p_kem_row_turned_l2_S : Shape where
  h := { tmps := [V, .sc (.ptr 0 0 false), .sc (.ptr 1 0 false), V, .sc (.int .i64), V, V, V, V, V, V, V, V, V, V], mem := [.live [.xs b16 (some 768)] (.own), .live [.xs b16 (some 768)] (.own)] }
  ks := [.int, .xs, .xs]
  st := fun x => { tmps := [U, .one (.sc (.ptr 0 0 none)), .one (.sc (.ptr 1 0 none)), U, .one (.sc (.int .i64 x.1)), U, U, U, U, U, U, U, U, U, U], mem := [.live { segs := [.xs b16 768 x.2.1], own := .own }, .live { segs := [.xs b16 768 x.2.2.1], own := .own }] }
noncomputable def p_kem_row_turned_l2_F (N : Nat) (β : Type) (x : (Int × List Int × List Int × Unit)) (kn : (Int × List Int × List Int × Unit) → Option β) (ke : ((List Int × List Int × Unit)) → Option β) : Option β :=
  if (x.1 < (3:Int)) then
    if 0 ≤ x.1 then (
    if x.1 < 3 then (
    if ((x.1.toNat) * 256) + 256 ≤ 768 then (
    (g_ring_Ntt ((List.take 256 (List.drop ((x.1.toNat) * 256) x.2.1)), ())).bind fun r1 => (
    if 0 ≤ x.1 then (
    if x.1 < 3 then (
    if ((x.1.toNat) * 256) + 256 ≤ 768 then (
    kn ((IntKind.i64.wrap (x.1 + (1:Int))), (List.take ((x.1.toNat) * 256) x.2.1 ++ r1 ++ List.drop (((x.1.toNat) * 256) + 256) x.2.1), x.2.2.1, ())) else none) else none) else none)) else none) else none) else none
  else
    ke (x.2.1, x.2.2.1, ())
noncomputable def p_kem_row_turned_l2_go : Go' ((List Int × List Int × Unit)) := fun y K => K (.exit 0) { tmps := [U, .one (.sc (.ptr 0 0 none)), .one (.sc (.ptr 1 0 none)), U, U, U, U, U, U, U, U, U, U, U, U], mem := [.live { segs := [.xs b16 768 y.1], own := .own }, .live { segs := [.xs b16 768 y.2.1], own := .own }] }
noncomputable def p_kem_row_turned_l2_L (N : Nat) : LT := upd (LT.nil) 2 (loopE p_kem_row_turned_l2_S N (p_kem_row_turned_l2_F N) p_kem_row_turned_l2_go)
theorem p_kem_row_turned_l2_ok (N : Nat) : OkAll p_kem_row_turned_E p_kem_row_turned_H N (p_kem_row_turned_l2_L N) (subs p_kem_row_turned_c) :=
  addLoop (c := theLoop 2 p_kem_row_turned_c) (OkAll.nil) (by kernel_rfl) (fun x => by kernel_rfl) (fun β x kn ke => by kernel_rfl)
abbrev p_kem_row_turned_ks : List Kd := [.xs b16 768]
abbrev p_kem_row_turned_rs : List Kd := [.xs b16 768]
noncomputable def p_kem_row_turned (N : Nat) (x : List Int × Unit) : Option (List Int) :=
  iter (p_kem_row_turned_l2_F N) N ((0:Int), x.1, (List.replicate 768 0), ()) fun y2 => (
  some y2.1)
theorem p_kem_row_turned_eq (N : Nat) (x : Ds [.xs b16 768]) : funL p_kem_row_turned_E p_kem_row_turned_H (p_kem_row_turned_l2_L N) N Try.f33 p_kem_row_turned_c [.xs b16 768] [.xs b16 768] x = p_kem_row_turned N x := by kernel_rfl
theorem p_kem_row_turned_Eok (e0 : SigOk Try.prog 55 Z_ring_Ntt) : p_kem_row_turned_E.Ok Try.prog := AE.of_ok (all_cons ty61_ok (all_cons ty63_ok all_nil)) (all_cons ⟨e0, enters_ring_Ntt⟩ all_nil)
theorem p_kem_row_turned_ok (e0 : SigOk Try.prog 55 Z_ring_Ntt) {g : Ds [.xs b16 768] → Option (Rs [.xs b16 768])} (hg : ∀ x r, g x = some r → ∃ N, p_kem_row_turned N x = some r) : SigOk Try.prog 33 ⟨[.xs b16 768], [.xs b16 768], g⟩ :=
  fun_of (E := p_kem_row_turned_E) (H := p_kem_row_turned_H) (L := fun N => p_kem_row_turned_l2_L N) (c := p_kem_row_turned_c) (ks := p_kem_row_turned_ks) (rs := p_kem_row_turned_rs) (F := p_kem_row_turned) (p_kem_row_turned_Eok e0) mix Try.func33 (by kernel_rfl) (fun N => p_kem_row_turned_l2_ok N) p_kem_row_turned_eq hg
noncomputable abbrev Z_ring_MulNtt : Sig := ⟨[.xs b16 256, .xs b16 256], [.xs b16 256], g_ring_MulNtt⟩
noncomputable abbrev Z_ring_Add : Sig := ⟨[.xs b16 256, .xs b16 256], [.xs b16 256], g_ring_Add⟩
noncomputable def p_kem_row_times_E : AE := AE.of [(61, ty61), (63, ty63)] [(58, Z_ring_MulNtt), (35, Z_ring_Add)]
noncomputable def p_kem_row_times_H : Hints := [(3, [2, 3, 4, 5, 7]), (2000000, [4, 5]), (2000001, [2, 3, 4, 5, 7]), (3000000, [4])]
noncomputable def p_kem_row_times_c : Code := (Try.f36).body.getD .skip
noncomputable def p_kem_row_times_l3_S : Shape where
  h := { tmps := [V, V, .sc (.ptr 0 0 false), .sc (.ptr 1 0 false), .sc (.ptr 2 0 false), .sc (.ptr 3 0 false), V, .sc (.int .i64), V, V, V, V, V, V, V, V, V, V, V, V, V], mem := [.live [.xs b16 (some 768)] (.own), .live [.xs b16 (some 768)] (.own), .live [.xs b16 (some 256)] (.own), .live [.xs b16 (some 256)] (.own)] }
  ks := [.int, .xs, .xs, .xs, .xs]
  st := fun x => { tmps := [U, U, .one (.sc (.ptr 0 0 none)), .one (.sc (.ptr 1 0 none)), .one (.sc (.ptr 2 0 none)), .one (.sc (.ptr 3 0 none)), U, .one (.sc (.int .i64 x.1)), U, U, U, U, U, U, U, U, U, U, U, U, U], mem := [.live { segs := [.xs b16 768 x.2.1], own := .own }, .live { segs := [.xs b16 768 x.2.2.1], own := .own }, .live { segs := [.xs b16 256 x.2.2.2.1], own := .own }, .live { segs := [.xs b16 256 x.2.2.2.2.1], own := .own }] }
noncomputable def p_kem_row_times_l3_F (N : Nat) (β : Type) (x : (Int × List Int × List Int × List Int × List Int × Unit)) (kn : (Int × List Int × List Int × List Int × List Int × Unit) → Option β) (ke : ((List Int × List Int × Unit)) → Option β) : Option β :=
  if (x.1 < (3:Int)) then
    if 0 ≤ x.1 then (
    if x.1 < 3 then (
    if ((x.1.toNat) * 256) + 256 ≤ 768 then (
    if 0 ≤ x.1 then (
    if x.1 < 3 then (
    if ((x.1.toNat) * 256) + 256 ≤ 768 then (
    (g_ring_MulNtt ((List.take 256 (List.drop ((x.1.toNat) * 256) x.2.1)), (List.take 256 (List.drop ((x.1.toNat) * 256) x.2.2.1)), ())).bind fun r1 => (
    (g_ring_Add (x.2.2.2.2.1, r1, ())).bind fun r2 => (
    kn ((IntKind.i64.wrap (x.1 + (1:Int))), x.2.1, x.2.2.1, x.2.2.2.1, r2, ())))) else none) else none) else none) else none) else none) else none
  else
    ke (x.2.2.2.1, x.2.2.2.2.1, ())
noncomputable def p_kem_row_times_l3_go : Go' ((List Int × List Int × Unit)) := fun y K => K (.exit 0) { tmps := [U, U, U, U, .one (.sc (.ptr 0 0 none)), .one (.sc (.ptr 1 0 none)), U, U, U, U, U, U, U, U, U, U, U, U, U, U, U], mem := [.live { segs := [.xs b16 256 y.1], own := .own }, .live { segs := [.xs b16 256 y.2.1], own := .own }] }
noncomputable def p_kem_row_times_l3_L (N : Nat) : LT := upd (LT.nil) 3 (loopE p_kem_row_times_l3_S N (p_kem_row_times_l3_F N) p_kem_row_times_l3_go)
theorem p_kem_row_times_l3_ok (N : Nat) : OkAll p_kem_row_times_E p_kem_row_times_H N (p_kem_row_times_l3_L N) (subs p_kem_row_times_c) :=
  addLoop (c := theLoop 3 p_kem_row_times_c) (OkAll.nil) (by kernel_rfl) (fun x => by kernel_rfl) (fun β x kn ke => by kernel_rfl)
abbrev p_kem_row_times_ks : List Kd := [.xs b16 768, .xs b16 768]
abbrev p_kem_row_times_rs : List Kd := [.xs b16 256]
noncomputable def p_kem_row_times (N : Nat) (x : List Int × List Int × Unit) : Option (List Int) :=
  iter (p_kem_row_times_l3_F N) N ((0:Int), x.1, x.2.1, (List.replicate 256 0), (List.replicate 256 0), ()) fun y3 => (
  some y3.2.1)
theorem p_kem_row_times_eq (N : Nat) (x : Ds [.xs b16 768, .xs b16 768]) : funL p_kem_row_times_E p_kem_row_times_H (p_kem_row_times_l3_L N) N Try.f36 p_kem_row_times_c [.xs b16 768, .xs b16 768] [.xs b16 256] x = p_kem_row_times N x := by kernel_rfl
theorem p_kem_row_times_Eok (e0 : SigOk Try.prog 58 Z_ring_MulNtt) (e1 : SigOk Try.prog 35 Z_ring_Add) : p_kem_row_times_E.Ok Try.prog := AE.of_ok (all_cons ty61_ok (all_cons ty63_ok all_nil)) (all_cons ⟨e0, enters_ring_MulNtt⟩ (all_cons ⟨e1, enters_ring_Add⟩ all_nil))
theorem p_kem_row_times_ok (e0 : SigOk Try.prog 58 Z_ring_MulNtt) (e1 : SigOk Try.prog 35 Z_ring_Add) {g : Ds [.xs b16 768, .xs b16 768] → Option (Rs [.xs b16 256])} (hg : ∀ x r, g x = some r → ∃ N, p_kem_row_times N x = some r) : SigOk Try.prog 36 ⟨[.xs b16 768, .xs b16 768], [.xs b16 256], g⟩ :=
  fun_of (E := p_kem_row_times_E) (H := p_kem_row_times_H) (L := fun N => p_kem_row_times_l3_L N) (c := p_kem_row_times_c) (ks := p_kem_row_times_ks) (rs := p_kem_row_times_rs) (F := p_kem_row_times) (p_kem_row_times_Eok e0 e1) mix Try.func36 (by kernel_rfl) (fun N => p_kem_row_times_l3_ok N) p_kem_row_times_eq hg
noncomputable abbrev Z_ring_Encode : Sig := ⟨[.int .i64, .xs b16 256], [.sl b8, .int .i64], g_ring_Encode⟩
noncomputable def p_kem_row_encoded_E : AE := AE.ofI [(5, ty5), (24, ty24), (61, ty61), (63, ty63)] [(59, Z_ring_Encode)] [] [(56, i_kem_poly), (28, i_kem_raw)] [] [] []
noncomputable def p_kem_row_encoded_H : Hints := [(3, [1, 2, 3, 5]), (2000000, [2, 3]), (2000001, [1, 2, 3, 5]), (3000000, [2]), (5000000, [2]), (7000003, [3, 1])]
noncomputable def p_kem_row_encoded_c : Code := (Try.f37).body.getD .skip
noncomputable def p_kem_row_encoded_l3_S : Shape where
  h := { tmps := [V, .sc (.ptr 0 0 false), .sc (.nilsl), .sc (.vec 1 none 1), V, .sc (.int .i64), V, V, V, V, V, V, V, V, V, V, V, V, V], mem := [.live [.xs b16 (some 768)] (.own), .live [.xs b8 none] (.own)] }
  ks := [.nat, .int, .xs, .nat, .xs]
  st := fun x => { tmps := [U, .one (.sc (.ptr 0 0 none)), .one (.sc (.nilsl)), .one (.sc (.vec 1 x.1 1)), U, .one (.sc (.int .i64 x.2.1)), U, U, U, U, U, U, U, U, U, U, U, U, U], mem := [.live { segs := [.xs b16 768 x.2.2.1], own := .own }, .live { segs := [.xs b8 x.2.2.2.1 x.2.2.2.2.1], own := .own }] }
noncomputable def p_kem_row_encoded_l3_F (N : Nat) (β : Type) (x : (Nat × Int × List Int × Nat × List Int × Unit)) (kn : (Nat × Int × List Int × Nat × List Int × Unit) → Option β) (ke : ((Int × Unit) ⊕ (Nat × Nat × List Int × Unit)) → Option β) : Option β :=
  if (x.2.1 < (3:Int)) then
    if 0 ≤ x.2.1 then (
    if x.2.1 < 3 then (
    if ((x.2.1.toNat) * 256) + 256 ≤ 768 then (
    (g_ring_Encode ((12:Int), (List.take 256 (List.drop ((x.2.1.toNat) * 256) x.2.2.1)), ())).bind fun r1 => (
    if (r1.2 ≠ (0:Int)) then
      ke (.inl (r1.2, ()))
    else
      if (x.1 + (List.length r1.1)) * 1 ≤ 140737488355328 then (
      kn ((x.1 + (List.length r1.1)), (IntKind.i64.wrap (x.2.1 + (1:Int))), x.2.2.1, (x.2.2.2.1 + (List.length r1.1)), (x.2.2.2.2.1 ++ r1.1), ())) else none)) else none) else none) else none
  else
    ke (.inr (x.1, x.2.2.2.1, x.2.2.2.2.1, ()))
noncomputable def p_kem_row_encoded_l3_go : Go' ((Int × Unit) ⊕ (Nat × Nat × List Int × Unit)) := fun y K => match y with
  | .inl y => K (.pan (.ifi 25 .i64) y.1) { tmps := [U, U, .one (.sc (.nilsl)), U, U, U, U, U, U, U, U, U, U, U, U, U, U, U, U], mem := [] }
  | .inr y => K (.exit 0) { tmps := [U, U, .one (.sc (.nilsl)), .one (.sc (.vec 0 y.1 1)), U, U, U, U, U, U, U, U, U, U, U, U, U, U, U], mem := [.live { segs := [.xs b8 y.2.1 y.2.2.1], own := .own }] }
noncomputable def p_kem_row_encoded_l3_L (N : Nat) : LT := upd (LT.nil) 3 (loopE p_kem_row_encoded_l3_S N (p_kem_row_encoded_l3_F N) p_kem_row_encoded_l3_go)
theorem p_kem_row_encoded_l3_ok (N : Nat) : OkAll p_kem_row_encoded_E p_kem_row_encoded_H N (p_kem_row_encoded_l3_L N) (subs p_kem_row_encoded_c) :=
  addLoop (c := theLoop 3 p_kem_row_encoded_c) (OkAll.nil) (by kernel_rfl) (fun x => by kernel_rfl) (fun β x kn ke => by kernel_rfl)
abbrev p_kem_row_encoded_ks : List Kd := [.xs b16 768]
abbrev p_kem_row_encoded_rs : List Kd := [.sl b8]
noncomputable def p_kem_row_encoded (N : Nat) (x : List Int × Unit) : Option (List Int) :=
  iter (p_kem_row_encoded_l3_F N) N (0, (0:Int), x.1, 0, [], ()) fun y => (match y with
  | .inl y2 => (
    none)
  | .inr y3 => (
    some y3.2.2.1))
theorem p_kem_row_encoded_eq (N : Nat) (x : Ds [.xs b16 768]) : funL p_kem_row_encoded_E p_kem_row_encoded_H (p_kem_row_encoded_l3_L N) N Try.f37 p_kem_row_encoded_c [.xs b16 768] [.sl b8] x = p_kem_row_encoded N x := by kernel_rfl
theorem p_kem_row_encoded_Eok (e0 : SigOk Try.prog 59 Z_ring_Encode) : p_kem_row_encoded_E.Ok Try.prog := AE.ofI_ok (all_cons ty5_ok (all_cons ty24_ok (all_cons ty61_ok (all_cons ty63_ok all_nil)))) (all_cons ⟨e0, enters_ring_Encode⟩ all_nil) all_nil (all_cons ⟨i_kem_poly_ok, enters_kem_poly⟩ (all_cons ⟨i_kem_raw_ok, enters_kem_raw⟩ all_nil)) all_nil
theorem p_kem_row_encoded_ok (e0 : SigOk Try.prog 59 Z_ring_Encode) {g : Ds [.xs b16 768] → Option (Rs [.sl b8])} (hg : ∀ x r, g x = some r → ∃ N, p_kem_row_encoded N x = some r) : SigOk Try.prog 37 ⟨[.xs b16 768], [.sl b8], g⟩ :=
  fun_of (E := p_kem_row_encoded_E) (H := p_kem_row_encoded_H) (L := fun N => p_kem_row_encoded_l3_L N) (c := p_kem_row_encoded_c) (ks := p_kem_row_encoded_ks) (rs := p_kem_row_encoded_rs) (F := p_kem_row_encoded) (p_kem_row_encoded_Eok e0) mix Try.func37 (by kernel_rfl) (fun N => p_kem_row_encoded_l3_ok N) p_kem_row_encoded_eq hg
noncomputable abbrev Z_ring_Decode : Sig := ⟨[.int .i64, .sl b8], [.xs b16 256, .int .i64], g_ring_Decode⟩
noncomputable def p_kem_decoded_E : AE := AE.ofI [(5, ty5), (24, ty24), (61, ty61), (63, ty63)] [(62, Z_ring_Decode)] [] [(56, i_kem_poly), (28, i_kem_raw)] [] [] []
noncomputable def p_kem_decoded_H : Hints := [(3, [0, 2, 3, 5]), (2000000, [2, 3]), (2000001, [0, 2, 3, 5]), (3000000, [2]), (5000000, [2])]
noncomputable def p_kem_decoded_c : Code := (Try.f42).body.getD .skip
noncomputable def p_kem_decoded_l3_S : Shape where
  h := { tmps := [.sc (.vec 0 none 1), V, .sc (.ptr 1 0 false), .sc (.ptr 2 0 false), V, .sc (.int .i64), V, V, V, V, V, V, V, V, V, V, V, V, V, V, V, V, V], mem := [.live [.xs b8 none] (.ro), .live [.xs b16 (some 768)] (.own), .live [.xs b16 (some 768)] (.own)] }
  ks := [.nat, .int, .nat, .xs, .xs, .xs]
  st := fun x => { tmps := [.one (.sc (.vec 0 x.1 1)), U, .one (.sc (.ptr 1 0 none)), .one (.sc (.ptr 2 0 none)), U, .one (.sc (.int .i64 x.2.1)), U, U, U, U, U, U, U, U, U, U, U, U, U, U, U, U, U], mem := [.live { segs := [.xs b8 x.2.2.1 x.2.2.2.1], own := .ro }, .live { segs := [.xs b16 768 x.2.2.2.2.1], own := .own }, .live { segs := [.xs b16 768 x.2.2.2.2.2.1], own := .own }] }
noncomputable def p_kem_decoded_l3_F (N : Nat) (β : Type) (x : (Nat × Int × Nat × List Int × List Int × List Int × Unit)) (kn : (Nat × Int × Nat × List Int × List Int × List Int × Unit) → Option β) (ke : ((Int × List Int × Unit) ⊕ (List Int × List Int × Unit)) → Option β) : Option β :=
  if (x.2.1 < (3:Int)) then
    if 0 ≤ (IntKind.i64.wrap ((IntKind.i64.wrap (x.2.1 + (1:Int))) * (384:Int))) then (
    if (IntKind.i64.wrap ((IntKind.i64.wrap (x.2.1 + (1:Int))) * (384:Int))) ≤ ((x.1 : Nat) : Int) then (
    if 0 ≤ (IntKind.i64.wrap (x.2.1 * (384:Int))) then (
    if (IntKind.i64.wrap (x.2.1 * (384:Int))) ≤ ((((IntKind.i64.wrap ((IntKind.i64.wrap (x.2.1 + (1:Int))) * (384:Int))).toNat) : Nat) : Int) then (
    (g_ring_Decode ((12:Int), (List.take (subN ((IntKind.i64.wrap ((IntKind.i64.wrap (x.2.1 + (1:Int))) * (384:Int))).toNat) ((IntKind.i64.wrap (x.2.1 * (384:Int))).toNat)) (List.drop ((IntKind.i64.wrap (x.2.1 * (384:Int))).toNat) x.2.2.2.1)), ())).bind fun r1 => (
    if (r1.2 ≠ (0:Int)) then
      ke (.inl (r1.2, x.2.2.2.2.1, ()))
    else
      if 0 ≤ x.2.1 then (
      if x.2.1 < 3 then (
      if ((x.2.1.toNat) * 256) + 256 ≤ 768 then (
      kn (x.1, (IntKind.i64.wrap (x.2.1 + (1:Int))), x.2.2.1, x.2.2.2.1, x.2.2.2.2.1, (List.take ((x.2.1.toNat) * 256) x.2.2.2.2.2.1 ++ r1.1 ++ List.drop (((x.2.1.toNat) * 256) + 256) x.2.2.2.2.2.1), ())) else none) else none) else none)) else none) else none) else none) else none
  else
    ke (.inr (x.2.2.2.2.1, x.2.2.2.2.2.1, ()))
noncomputable def p_kem_decoded_l3_go : Go' ((Int × List Int × Unit) ⊕ (List Int × List Int × Unit)) := fun y K => match y with
  | .inl y => K (.pan (.ifi 25 .i64) y.1) { tmps := [U, U, .one (.sc (.ptr 0 0 none)), U, U, U, U, U, U, U, U, U, U, U, U, U, U, U, U, U, U, U, U], mem := [.live { segs := [.xs b16 768 y.2.1], own := .own }] }
  | .inr y => K (.exit 0) { tmps := [U, U, .one (.sc (.ptr 0 0 none)), .one (.sc (.ptr 1 0 none)), U, U, U, U, U, U, U, U, U, U, U, U, U, U, U, U, U, U, U], mem := [.live { segs := [.xs b16 768 y.1], own := .own }, .live { segs := [.xs b16 768 y.2.1], own := .own }] }
noncomputable def p_kem_decoded_l3_L (N : Nat) : LT := upd (LT.nil) 3 (loopE p_kem_decoded_l3_S N (p_kem_decoded_l3_F N) p_kem_decoded_l3_go)
theorem p_kem_decoded_l3_ok (N : Nat) : OkAll p_kem_decoded_E p_kem_decoded_H N (p_kem_decoded_l3_L N) (subs p_kem_decoded_c) :=
  addLoop (c := theLoop 3 p_kem_decoded_c) (OkAll.nil) (by kernel_rfl) (fun x => by kernel_rfl) (fun β x kn ke => by kernel_rfl)
abbrev p_kem_decoded_ks : List Kd := [.sl b8]
abbrev p_kem_decoded_rs : List Kd := [.xs b16 768]
noncomputable def p_kem_decoded (N : Nat) (x : List Int × Unit) : Option (List Int) :=
  iter (p_kem_decoded_l3_F N) N ((List.length x.1), (0:Int), (List.length x.1), x.1, (List.replicate 768 0), (List.replicate 768 0), ()) fun y => (match y with
  | .inl y2 => (
    none)
  | .inr y3 => (
    some y3.2.1))
theorem p_kem_decoded_eq (N : Nat) (x : Ds [.sl b8]) : funL p_kem_decoded_E p_kem_decoded_H (p_kem_decoded_l3_L N) N Try.f42 p_kem_decoded_c [.sl b8] [.xs b16 768] x = p_kem_decoded N x := by kernel_rfl
theorem p_kem_decoded_Eok (e0 : SigOk Try.prog 62 Z_ring_Decode) : p_kem_decoded_E.Ok Try.prog := AE.ofI_ok (all_cons ty5_ok (all_cons ty24_ok (all_cons ty61_ok (all_cons ty63_ok all_nil)))) (all_cons ⟨e0, enters_ring_Decode⟩ all_nil) all_nil (all_cons ⟨i_kem_poly_ok, enters_kem_poly⟩ (all_cons ⟨i_kem_raw_ok, enters_kem_raw⟩ all_nil)) all_nil
theorem p_kem_decoded_ok (e0 : SigOk Try.prog 62 Z_ring_Decode) {g : Ds [.sl b8] → Option (Rs [.xs b16 768])} (hg : ∀ x r, g x = some r → ∃ N, p_kem_decoded N x = some r) : SigOk Try.prog 42 ⟨[.sl b8], [.xs b16 768], g⟩ :=
  fun_of (E := p_kem_decoded_E) (H := p_kem_decoded_H) (L := fun N => p_kem_decoded_l3_L N) (c := p_kem_decoded_c) (ks := p_kem_decoded_ks) (rs := p_kem_decoded_rs) (F := p_kem_decoded) (p_kem_decoded_Eok e0) mix Try.func42 (by kernel_rfl) (fun N => p_kem_decoded_l3_ok N) p_kem_decoded_eq hg
noncomputable abbrev Z_ring_Compress : Sig := ⟨[.int .i64, .xs b16 256], [.xs b16 256, .int .i64], g_ring_Compress⟩
noncomputable def p_kem_packed_E : AE := AE.ofI [(61, ty61)] [(65, Z_ring_Compress), (59, Z_ring_Encode)] [] [(56, i_kem_poly), (28, i_kem_raw)] [] [] []
noncomputable def p_kem_packed_H : Hints := [(3000000, [4]), (5000000, [4])]
noncomputable def p_kem_packed_c : Code := (Try.f44).body.getD .skip
abbrev p_kem_packed_ks : List Kd := [.int .i64, .xs b16 256]
abbrev p_kem_packed_rs : List Kd := [.sl b8]
noncomputable def p_kem_packed (N : Nat) (x : Int × List Int × Unit) : Option (List Int) :=
  (g_ring_Compress (x.1, x.2.1, ())).bind fun r1 => (
  if (r1.2 ≠ (0:Int)) then none else (
  (g_ring_Encode (x.1, r1.1, ())).bind fun r2 => (
  if (r2.2 ≠ (0:Int)) then none else (
  some r2.1))))
theorem p_kem_packed_eq (N : Nat) (x : Ds [.int .i64, .xs b16 256]) : funL p_kem_packed_E p_kem_packed_H (LT.nil) N Try.f44 p_kem_packed_c [.int .i64, .xs b16 256] [.sl b8] x = p_kem_packed N x := by kernel_rfl
theorem p_kem_packed_Eok (e0 : SigOk Try.prog 65 Z_ring_Compress) (e1 : SigOk Try.prog 59 Z_ring_Encode) : p_kem_packed_E.Ok Try.prog := AE.ofI_ok (all_cons ty61_ok all_nil) (all_cons ⟨e0, enters_ring_Compress⟩ (all_cons ⟨e1, enters_ring_Encode⟩ all_nil)) all_nil (all_cons ⟨i_kem_poly_ok, enters_kem_poly⟩ (all_cons ⟨i_kem_raw_ok, enters_kem_raw⟩ all_nil)) all_nil
theorem p_kem_packed_ok (e0 : SigOk Try.prog 65 Z_ring_Compress) (e1 : SigOk Try.prog 59 Z_ring_Encode) {g : Ds [.int .i64, .xs b16 256] → Option (Rs [.sl b8])} (hg : ∀ x r, g x = some r → ∃ N, p_kem_packed N x = some r) : SigOk Try.prog 44 ⟨[.int .i64, .xs b16 256], [.sl b8], g⟩ :=
  fun_of (E := p_kem_packed_E) (H := p_kem_packed_H) (L := fun N => LT.nil) (c := p_kem_packed_c) (ks := p_kem_packed_ks) (rs := p_kem_packed_rs) (F := p_kem_packed) (p_kem_packed_Eok e0 e1) mix Try.func44 (by kernel_rfl) (fun N => OkAll.nil) p_kem_packed_eq hg
noncomputable abbrev Z_ring_Decompress : Sig := ⟨[.int .i64, .xs b16 256], [.xs b16 256, .int .i64], g_ring_Decompress⟩
noncomputable def p_kem_unpacked_E : AE := AE.ofI [(61, ty61)] [(62, Z_ring_Decode), (67, Z_ring_Decompress)] [] [(56, i_kem_poly), (28, i_kem_raw)] [] [] []
noncomputable def p_kem_unpacked_H : Hints := [(3000000, [4]), (5000000, [4])]
noncomputable def p_kem_unpacked_c : Code := (Try.f46).body.getD .skip
abbrev p_kem_unpacked_ks : List Kd := [.int .i64, .sl b8]
abbrev p_kem_unpacked_rs : List Kd := [.xs b16 256]
noncomputable def p_kem_unpacked (N : Nat) (x : Int × List Int × Unit) : Option (List Int) :=
  (g_ring_Decode (x.1, x.2.1, ())).bind fun r1 => (
  if (r1.2 ≠ (0:Int)) then none else (
  (g_ring_Decompress (x.1, r1.1, ())).bind fun r2 => (
  if (r2.2 ≠ (0:Int)) then none else (
  some r2.1))))
theorem p_kem_unpacked_eq (N : Nat) (x : Ds [.int .i64, .sl b8]) : funL p_kem_unpacked_E p_kem_unpacked_H (LT.nil) N Try.f46 p_kem_unpacked_c [.int .i64, .sl b8] [.xs b16 256] x = p_kem_unpacked N x := by kernel_rfl
theorem p_kem_unpacked_Eok (e0 : SigOk Try.prog 62 Z_ring_Decode) (e1 : SigOk Try.prog 67 Z_ring_Decompress) : p_kem_unpacked_E.Ok Try.prog := AE.ofI_ok (all_cons ty61_ok all_nil) (all_cons ⟨e0, enters_ring_Decode⟩ (all_cons ⟨e1, enters_ring_Decompress⟩ all_nil)) all_nil (all_cons ⟨i_kem_poly_ok, enters_kem_poly⟩ (all_cons ⟨i_kem_raw_ok, enters_kem_raw⟩ all_nil)) all_nil
theorem p_kem_unpacked_ok (e0 : SigOk Try.prog 62 Z_ring_Decode) (e1 : SigOk Try.prog 67 Z_ring_Decompress) {g : Ds [.int .i64, .sl b8] → Option (Rs [.xs b16 256])} (hg : ∀ x r, g x = some r → ∃ N, p_kem_unpacked N x = some r) : SigOk Try.prog 46 ⟨[.int .i64, .sl b8], [.xs b16 256], g⟩ :=
  fun_of (E := p_kem_unpacked_E) (H := p_kem_unpacked_H) (L := fun N => LT.nil) (c := p_kem_unpacked_c) (ks := p_kem_unpacked_ks) (rs := p_kem_unpacked_rs) (F := p_kem_unpacked) (p_kem_unpacked_Eok e0 e1) mix Try.func46 (by kernel_rfl) (fun N => OkAll.nil) p_kem_unpacked_eq hg
noncomputable abbrev Z_octet_Join : Sig := ⟨[.sls b8], [.sl b8], g_octet_Join⟩
noncomputable abbrev Z_ring_SampleNtt : Sig := ⟨[.sl b8], [.xs b16 256, .int .i64], g_ring_SampleNtt⟩
noncomputable def p_kem_entry_E : AE := AE.ofI [(3, ty3), (5, ty5), (24, ty24), (58, ty58), (61, ty61)] [(20, Z_octet_Join), (57, Z_ring_SampleNtt)] [] [(56, i_kem_poly), (28, i_kem_raw)] [] [] []
noncomputable def p_kem_entry_H : Hints := [(3000000, [6]), (5000000, [6])]
noncomputable def p_kem_entry_c : Code := (Try.f34).body.getD .skip
abbrev p_kem_entry_ks : List Kd := [.sl b8, .int .i64, .int .i64]
abbrev p_kem_entry_rs : List Kd := [.xs b16 256]
noncomputable def p_kem_entry (N : Nat) (x : List Int × Int × Int × Unit) : Option (Int ⊕ (List Int)) :=
  (g_octet_Join ([x.1, (List.set (List.set (List.replicate 2 0) 0 (IntKind.u8.wrap x.2.2.1)) 1 (IntKind.u8.wrap x.2.1))], ())).bind fun r1 => (
  (g_ring_SampleNtt (r1, ())).bind fun r2 => (
  if (r2.2 ≠ (0:Int)) then
    some (.inl r2.2)
  else
    some (.inr r2.1)))
theorem p_kem_entry_eq (N : Nat) (x : Ds [.sl b8, .int .i64, .int .i64]) : funLX p_kem_entry_E p_kem_entry_H (LT.nil) N Try.f34 p_kem_entry_c [.sl b8, .int .i64, .int .i64] [.xs b16 256] (.ifi 25 .i64) x = p_kem_entry N x := by kernel_rfl
theorem p_kem_entry_Eok (e0 : SigOk Try.prog 20 Z_octet_Join) (e1 : SigOk Try.prog 57 Z_ring_SampleNtt) : p_kem_entry_E.Ok Try.prog := AE.ofI_ok (all_cons ty3_ok (all_cons ty5_ok (all_cons ty24_ok (all_cons ty58_ok (all_cons ty61_ok all_nil))))) (all_cons ⟨e0, enters_octet_Join⟩ (all_cons ⟨e1, enters_ring_SampleNtt⟩ all_nil)) all_nil (all_cons ⟨i_kem_poly_ok, enters_kem_poly⟩ (all_cons ⟨i_kem_raw_ok, enters_kem_raw⟩ all_nil)) all_nil
theorem p_kem_entry_ok (e0 : SigOk Try.prog 20 Z_octet_Join) (e1 : SigOk Try.prog 57 Z_ring_SampleNtt) {g : Ds [.sl b8, .int .i64, .int .i64] → Option (Bool × Int × Rs [.xs b16 256])} (hg : ∀ x r, g x = some r → ∃ N, p_kem_entry N x = some (xr r)) : XOk Try.prog 34 ⟨[.sl b8, .int .i64, .int .i64], [.xs b16 256], (.ifi 25 .i64), g⟩ :=
  funX_of (E := p_kem_entry_E) (H := p_kem_entry_H) (L := fun N => LT.nil) (c := p_kem_entry_c) (ks := p_kem_entry_ks) (rs := p_kem_entry_rs) (F := p_kem_entry) (p_kem_entry_Eok e0 e1) mix Try.func34 (by kernel_rfl) (fun N => OkAll.nil) p_kem_entry_eq hg
end Go.Ax.TryP
set_option linter.unusedVariables false
namespace Go.Ax.TryP
open Go.Proofs
noncomputable abbrev Z_kem_decoded : Sig := ⟨[.sl b8], [.xs b16 768], g_kem_decoded⟩
noncomputable abbrev Z_kem_noises : Sig := ⟨[.sl b8, .int .i64], [.xs b16 768], g_kem_noises⟩
noncomputable abbrev Z_kem_row_turned : Sig := ⟨[.xs b16 768], [.xs b16 768], g_kem_row_turned⟩
noncomputable abbrev Z_kem_row_times : Sig := ⟨[.xs b16 768, .xs b16 768], [.xs b16 256], g_kem_row_times⟩
noncomputable abbrev Z_ring_Inv : Sig := ⟨[.xs b16 256], [.xs b16 256], g_ring_Inv⟩
noncomputable abbrev Z_kem_packed : Sig := ⟨[.int .i64, .xs b16 256], [.sl b8], g_kem_packed⟩
noncomputable abbrev Z_kem_unpacked : Sig := ⟨[.int .i64, .sl b8], [.xs b16 256], g_kem_unpacked⟩
noncomputable def p_kem_encrypt_E : AE := AE.ofA [(5, ty5), (22, ty22), (24, ty24), (61, ty61), (63, ty63)] [(42, Z_kem_decoded), (32, Z_kem_noises), (33, Z_kem_row_turned), (36, Z_kem_row_times), (43, Z_ring_Inv), (35, Z_ring_Add), (44, Z_kem_packed), (45, Z_kem_noise), (46, Z_kem_unpacked)] [(34, ⟨[.sl b8, .int .i64, .int .i64], [.xs b16 256], (.ifi 25 .i64), g_kem_entry⟩)] [] [] [] [] [] [] [] [] []
noncomputable def p_kem_encrypt_H : Hints := [(5, [4, 5, 6, 7, 8, 9, 10, 11, 25]), (9, [4, 5, 6, 7, 8, 9, 10, 11, 12, 13, 25, 28]), (2000000, [4, 5, 6, 7, 9, 11]), (2000001, [4, 5, 6, 7, 8, 9, 10, 11, 25]), (2000002, [4, 5, 6, 7, 8, 9, 10, 11, 12, 13, 25]), (2000003, [4, 5, 6, 7, 8, 9, 10, 11, 12, 13, 25, 28]), (3000000, [6]), (5000000, [6]), (7000005, [11, 1])]
noncomputable def p_kem_encrypt_c : Code := (Try.f26).body.getD .skip
noncomputable def p_kem_encrypt_l9_S : Shape where
  h := { tmps := [V, V, V, V, .sc (.ptr 0 0 false), .sc (.ptr 1 0 false), .sc (.nilsl), .sc (.ptr 2 0 false), .sc (.sl 3 (some 1152) none none 1), .sc (.ptr 4 0 false), .sc (.ptr 5 0 false), .sc (.vec 6 none 1), .sc (.int .i64), .sc (.ptr 7 0 false), V, V, V, V, V, V, V, V, V, V, V, .sc (.int .i64), V, V, .sc (.int .i64), V, V, V, V, V, V, V, V, V, V, V, V, V, V, V, V, V, V, V, V, V, V, V, V, V, V, V, V, V, V, V, V, V, V, V, V, V, V, V, V], mem := [.live [.xs b8 (some 32)] (.own), .live [.xs b8 (some 32)] (.own), .live [.xs b16 (some 768)] (.own), .live [.xs b8 none] (.ro), .live [.xs b16 (some 768)] (.own), .live [.xs b16 (some 768)] (.own), .live [.xs b8 none] (.own), .live [.xs b16 (some 768)] (.own)] }
  ks := [.nat, .nat, .nat, .int, .int, .int, .xs, .xs, .xs, .nat, .xs, .xs, .xs, .nat, .xs, .xs]
  st := fun x => { tmps := [U, U, U, U, .one (.sc (.ptr 0 0 none)), .one (.sc (.ptr 1 0 none)), .one (.sc (.nilsl)), .one (.sc (.ptr 2 0 none)), .one (.sc (.sl 3 1152 x.1 x.2.1 1)), .one (.sc (.ptr 4 0 none)), .one (.sc (.ptr 5 0 none)), .one (.sc (.vec 6 x.2.2.1 1)), .one (.sc (.int .i64 x.2.2.2.1)), .one (.sc (.ptr 7 0 none)), U, U, U, U, U, U, U, U, U, U, U, .one (.sc (.int .i64 x.2.2.2.2.1)), U, U, .one (.sc (.int .i64 x.2.2.2.2.2.1)), U, U, U, U, U, U, U, U, U, U, U, U, U, U, U, U, U, U, U, U, U, U, U, U, U, U, U, U, U, U, U, U, U, U, U, U, U, U, U, U], mem := [.live { segs := [.xs b8 32 x.2.2.2.2.2.2.1], own := .own }, .live { segs := [.xs b8 32 x.2.2.2.2.2.2.2.1], own := .own }, .live { segs := [.xs b16 768 x.2.2.2.2.2.2.2.2.1], own := .own }, .live { segs := [.xs b8 x.2.2.2.2.2.2.2.2.2.1 x.2.2.2.2.2.2.2.2.2.2.1], own := .ro }, .live { segs := [.xs b16 768 x.2.2.2.2.2.2.2.2.2.2.2.1], own := .own }, .live { segs := [.xs b16 768 x.2.2.2.2.2.2.2.2.2.2.2.2.1], own := .own }, .live { segs := [.xs b8 x.2.2.2.2.2.2.2.2.2.2.2.2.2.1 x.2.2.2.2.2.2.2.2.2.2.2.2.2.2.1], own := .own }, .live { segs := [.xs b16 768 x.2.2.2.2.2.2.2.2.2.2.2.2.2.2.2.1], own := .own }] }
noncomputable def p_kem_encrypt_l9_F (N : Nat) (β : Type) (x : (Nat × Nat × Nat × Int × Int × Int × List Int × List Int × List Int × Nat × List Int × List Int × List Int × Nat × List Int × List Int × Unit)) (kn : (Nat × Nat × Nat × Int × Int × Int × List Int × List Int × List Int × Nat × List Int × List Int × List Int × Nat × List Int × List Int × Unit) → Option β) (ke : ((Int × Unit) ⊕ (Nat × Nat × Nat × Int × Int × List Int × List Int × List Int × Nat × List Int × List Int × List Int × Nat × List Int × List Int × Unit)) → Option β) : Option β :=
  if (x.2.2.2.2.2.1 < (3:Int)) then
    (g_kem_entry ((List.take x.1 (List.drop 1152 x.2.2.2.2.2.2.2.2.2.2.1)), x.2.2.2.2.2.1, x.2.2.2.1, ())).bind fun r5 => (
    if r5.1 = true then
      ke (.inl (r5.2.1, ()))
    else
      if 0 ≤ x.2.2.2.2.2.1 then (
      if x.2.2.2.2.2.1 < 3 then (
      if ((x.2.2.2.2.2.1.toNat) * 256) + 256 ≤ 768 then (
      kn (x.1, x.2.1, x.2.2.1, x.2.2.2.1, x.2.2.2.2.1, (IntKind.i64.wrap (x.2.2.2.2.2.1 + (1:Int))), x.2.2.2.2.2.2.1, x.2.2.2.2.2.2.2.1, x.2.2.2.2.2.2.2.2.1, x.2.2.2.2.2.2.2.2.2.1, x.2.2.2.2.2.2.2.2.2.2.1, x.2.2.2.2.2.2.2.2.2.2.2.1, x.2.2.2.2.2.2.2.2.2.2.2.2.1, x.2.2.2.2.2.2.2.2.2.2.2.2.2.1, x.2.2.2.2.2.2.2.2.2.2.2.2.2.2.1, (List.take ((x.2.2.2.2.2.1.toNat) * 256) x.2.2.2.2.2.2.2.2.2.2.2.2.2.2.2.1 ++ r5.2.2 ++ List.drop (((x.2.2.2.2.2.1.toNat) * 256) + 256) x.2.2.2.2.2.2.2.2.2.2.2.2.2.2.2.1), ())) else none) else none) else none)
  else
    ke (.inr (x.1, x.2.1, x.2.2.1, x.2.2.2.1, x.2.2.2.2.1, x.2.2.2.2.2.2.1, x.2.2.2.2.2.2.2.1, x.2.2.2.2.2.2.2.2.1, x.2.2.2.2.2.2.2.2.2.1, x.2.2.2.2.2.2.2.2.2.2.1, x.2.2.2.2.2.2.2.2.2.2.2.1, x.2.2.2.2.2.2.2.2.2.2.2.2.1, x.2.2.2.2.2.2.2.2.2.2.2.2.2.1, x.2.2.2.2.2.2.2.2.2.2.2.2.2.2.1, x.2.2.2.2.2.2.2.2.2.2.2.2.2.2.2.1, ()))
noncomputable def p_kem_encrypt_l9_go : Go' ((Int × Unit) ⊕ (Nat × Nat × Nat × Int × Int × List Int × List Int × List Int × Nat × List Int × List Int × List Int × Nat × List Int × List Int × Unit)) := fun y K => match y with
  | .inl y => K (.pan (.ifi 25 .i64) y.1) { tmps := [U, U, U, U, U, U, .one (.sc (.nilsl)), U, U, U, U, U, U, U, U, U, U, U, U, U, U, U, U, U, U, U, U, U, U, U, U, U, U, U, U, U, U, U, U, U, U, U, U, U, U, U, U, U, U, U, U, U, U, U, U, U, U, U, U, U, U, U, U, U, U, U, U, U, U], mem := [] }
  | .inr y => K (.exit 2) { tmps := [U, U, U, U, .one (.sc (.ptr 0 0 none)), .one (.sc (.ptr 1 0 none)), .one (.sc (.nilsl)), .one (.sc (.ptr 2 0 none)), .one (.sc (.sl 3 1152 y.1 y.2.1 1)), .one (.sc (.ptr 4 0 none)), .one (.sc (.ptr 5 0 none)), .one (.sc (.vec 6 y.2.2.1 1)), .one (.sc (.int .i64 y.2.2.2.1)), .one (.sc (.ptr 7 0 none)), U, U, U, U, U, U, U, U, U, U, U, .one (.sc (.int .i64 y.2.2.2.2.1)), U, U, U, U, U, U, U, U, U, U, U, U, U, U, U, U, U, U, U, U, U, U, U, U, U, U, U, U, U, U, U, U, U, U, U, U, U, U, U, U, U, U, U], mem := [.live { segs := [.xs b8 32 y.2.2.2.2.2.1], own := .own }, .live { segs := [.xs b8 32 y.2.2.2.2.2.2.1], own := .own }, .live { segs := [.xs b16 768 y.2.2.2.2.2.2.2.1], own := .own }, .live { segs := [.xs b8 y.2.2.2.2.2.2.2.2.1 y.2.2.2.2.2.2.2.2.2.1], own := .ro }, .live { segs := [.xs b16 768 y.2.2.2.2.2.2.2.2.2.2.1], own := .own }, .live { segs := [.xs b16 768 y.2.2.2.2.2.2.2.2.2.2.2.1], own := .own }, .live { segs := [.xs b8 y.2.2.2.2.2.2.2.2.2.2.2.2.1 y.2.2.2.2.2.2.2.2.2.2.2.2.2.1], own := .own }, .live { segs := [.xs b16 768 y.2.2.2.2.2.2.2.2.2.2.2.2.2.2.1], own := .own }] }
noncomputable def p_kem_encrypt_l9_L (N : Nat) : LT := upd (LT.nil) 9 (loopE p_kem_encrypt_l9_S N (p_kem_encrypt_l9_F N) p_kem_encrypt_l9_go)
theorem p_kem_encrypt_l9_ok (N : Nat) : OkAll p_kem_encrypt_E p_kem_encrypt_H N (p_kem_encrypt_l9_L N) (subs p_kem_encrypt_c) :=
  addLoop (c := theLoop 9 p_kem_encrypt_c) (OkAll.nil) (by kernel_rfl) (fun x => by kernel_rfl) (fun β x kn ke => by kernel_rfl)
noncomputable def p_kem_encrypt_l5_S : Shape where
  h := { tmps := [V, V, V, V, .sc (.ptr 0 0 false), .sc (.ptr 1 0 false), .sc (.nilsl), .sc (.ptr 2 0 false), .sc (.sl 3 (some 1152) none none 1), .sc (.ptr 4 0 false), .sc (.ptr 5 0 false), .sc (.vec 6 none 1), V, V, V, V, V, V, V, V, V, V, V, V, V, .sc (.int .i64), V, V, V, V, V, V, V, V, V, V, V, V, V, V, V, V, V, V, V, V, V, V, V, V, V, V, V, V, V, V, V, V, V, V, V, V, V, V, V, V, V, V, V], mem := [.live [.xs b8 (some 32)] (.own), .live [.xs b8 (some 32)] (.own), .live [.xs b16 (some 768)] (.own), .live [.xs b8 none] (.ro), .live [.xs b16 (some 768)] (.own), .live [.xs b16 (some 768)] (.own), .live [.xs b8 none] (.own)] }
  ks := [.nat, .nat, .nat, .int, .xs, .xs, .xs, .nat, .xs, .xs, .xs, .nat, .xs]
  st := fun x => { tmps := [U, U, U, U, .one (.sc (.ptr 0 0 none)), .one (.sc (.ptr 1 0 none)), .one (.sc (.nilsl)), .one (.sc (.ptr 2 0 none)), .one (.sc (.sl 3 1152 x.1 x.2.1 1)), .one (.sc (.ptr 4 0 none)), .one (.sc (.ptr 5 0 none)), .one (.sc (.vec 6 x.2.2.1 1)), U, U, U, U, U, U, U, U, U, U, U, U, U, .one (.sc (.int .i64 x.2.2.2.1)), U, U, U, U, U, U, U, U, U, U, U, U, U, U, U, U, U, U, U, U, U, U, U, U, U, U, U, U, U, U, U, U, U, U, U, U, U, U, U, U, U, U, U], mem := [.live { segs := [.xs b8 32 x.2.2.2.2.1], own := .own }, .live { segs := [.xs b8 32 x.2.2.2.2.2.1], own := .own }, .live { segs := [.xs b16 768 x.2.2.2.2.2.2.1], own := .own }, .live { segs := [.xs b8 x.2.2.2.2.2.2.2.1 x.2.2.2.2.2.2.2.2.1], own := .ro }, .live { segs := [.xs b16 768 x.2.2.2.2.2.2.2.2.2.1], own := .own }, .live { segs := [.xs b16 768 x.2.2.2.2.2.2.2.2.2.2.1], own := .own }, .live { segs := [.xs b8 x.2.2.2.2.2.2.2.2.2.2.2.1 x.2.2.2.2.2.2.2.2.2.2.2.2.1], own := .own }] }
noncomputable def p_kem_encrypt_l5_F (N : Nat) (β : Type) (x : (Nat × Nat × Nat × Int × List Int × List Int × List Int × Nat × List Int × List Int × List Int × Nat × List Int × Unit)) (kn : (Nat × Nat × Nat × Int × List Int × List Int × List Int × Nat × List Int × List Int × List Int × Nat × List Int × Unit) → Option β) (ke : ((Int × Unit) ⊕ (Nat × List Int × List Int × List Int × List Int × Nat × List Int × Unit)) → Option β) : Option β :=
  if (x.2.2.2.1 < (3:Int)) then
    iter (p_kem_encrypt_l9_F N) N (x.1, x.2.1, x.2.2.1, x.2.2.2.1, x.2.2.2.1, (0:Int), x.2.2.2.2.1, x.2.2.2.2.2.1, x.2.2.2.2.2.2.1, x.2.2.2.2.2.2.2.1, x.2.2.2.2.2.2.2.2.1, x.2.2.2.2.2.2.2.2.2.1, x.2.2.2.2.2.2.2.2.2.2.1, x.2.2.2.2.2.2.2.2.2.2.2.1, x.2.2.2.2.2.2.2.2.2.2.2.2.1, (List.replicate 768 0), ()) fun y => (match y with
    | .inl y6 => (
      ke (.inl (y6.1, ())))
    | .inr y7 => (
      (g_kem_row_times (y7.2.2.2.2.2.2.2.2.2.2.2.2.2.2.1, y7.2.2.2.2.2.2.2.2.2.2.1, ())).bind fun r8 => (
      (g_ring_Inv (r8, ())).bind fun r9 => (
      if 0 ≤ y7.2.2.2.1 then (
      if y7.2.2.2.1 < 3 then (
      if ((y7.2.2.2.1.toNat) * 256) + 256 ≤ 768 then (
      (g_ring_Add (r9, (List.take 256 (List.drop ((y7.2.2.2.1.toNat) * 256) y7.2.2.2.2.2.2.2.2.2.2.2.1)), ())).bind fun r10 => (
      if 0 ≤ y7.2.2.2.1 then (
      if y7.2.2.2.1 < 3 then (
      if ((y7.2.2.2.1.toNat) * 256) + 256 ≤ 768 then (
      if 0 ≤ y7.2.2.2.1 then (
      if y7.2.2.2.1 < 3 then (
      if ((y7.2.2.2.1.toNat) * 256) + 256 ≤ 768 then (
      (g_kem_packed ((10:Int), (List.take 256 (List.drop ((y7.2.2.2.1.toNat) * 256) (List.take ((y7.2.2.2.1.toNat) * 256) y7.2.2.2.2.2.2.2.2.2.2.2.1 ++ r10 ++ List.drop (((y7.2.2.2.1.toNat) * 256) + 256) y7.2.2.2.2.2.2.2.2.2.2.2.1))), ())).bind fun r11 => (
      if (y7.2.2.1 + (List.length r11)) * 1 ≤ 140737488355328 then (
      kn (y7.1, y7.2.1, (y7.2.2.1 + (List.length r11)), (IntKind.i64.wrap (y7.2.2.2.2.1 + (1:Int))), y7.2.2.2.2.2.1, y7.2.2.2.2.2.2.1, y7.2.2.2.2.2.2.2.1, y7.2.2.2.2.2.2.2.2.1, y7.2.2.2.2.2.2.2.2.2.1, y7.2.2.2.2.2.2.2.2.2.2.1, (List.take ((y7.2.2.2.1.toNat) * 256) y7.2.2.2.2.2.2.2.2.2.2.2.1 ++ r10 ++ List.drop (((y7.2.2.2.1.toNat) * 256) + 256) y7.2.2.2.2.2.2.2.2.2.2.2.1), (y7.2.2.2.2.2.2.2.2.2.2.2.2.1 + (List.length r11)), (y7.2.2.2.2.2.2.2.2.2.2.2.2.2.1 ++ r11), ())) else none)) else none) else none) else none) else none) else none) else none)) else none) else none) else none))))
  else
    ke (.inr (x.2.2.1, x.2.2.2.2.1, x.2.2.2.2.2.1, x.2.2.2.2.2.2.1, x.2.2.2.2.2.2.2.2.2.1, x.2.2.2.2.2.2.2.2.2.2.2.1, x.2.2.2.2.2.2.2.2.2.2.2.2.1, ()))
noncomputable def p_kem_encrypt_l5_go : Go' ((Int × Unit) ⊕ (Nat × List Int × List Int × List Int × List Int × Nat × List Int × Unit)) := fun y K => match y with
  | .inl y => K (.pan (.ifi 25 .i64) y.1) { tmps := [U, U, U, U, U, U, .one (.sc (.nilsl)), U, U, U, U, U, U, U, U, U, U, U, U, U, U, U, U, U, U, U, U, U, U, U, U, U, U, U, U, U, U, U, U, U, U, U, U, U, U, U, U, U, U, U, U, U, U, U, U, U, U, U, U, U, U, U, U, U, U, U, U, U, U], mem := [] }
  | .inr y => K (.exit 0) { tmps := [U, U, U, U, .one (.sc (.ptr 0 0 none)), .one (.sc (.ptr 1 0 none)), .one (.sc (.nilsl)), .one (.sc (.ptr 2 0 none)), U, .one (.sc (.ptr 3 0 none)), U, .one (.sc (.vec 4 y.1 1)), U, U, U, U, U, U, U, U, U, U, U, U, U, U, U, U, U, U, U, U, U, U, U, U, U, U, U, U, U, U, U, U, U, U, U, U, U, U, U, U, U, U, U, U, U, U, U, U, U, U, U, U, U, U, U, U, U], mem := [.live { segs := [.xs b8 32 y.2.1], own := .own }, .live { segs := [.xs b8 32 y.2.2.1], own := .own }, .live { segs := [.xs b16 768 y.2.2.2.1], own := .own }, .live { segs := [.xs b16 768 y.2.2.2.2.1], own := .own }, .live { segs := [.xs b8 y.2.2.2.2.2.1 y.2.2.2.2.2.2.1], own := .own }] }
noncomputable def p_kem_encrypt_l5_L (N : Nat) : LT := upd (p_kem_encrypt_l9_L N) 5 (loopE p_kem_encrypt_l5_S N (p_kem_encrypt_l5_F N) p_kem_encrypt_l5_go)
theorem p_kem_encrypt_l5_ok (N : Nat) : OkAll p_kem_encrypt_E p_kem_encrypt_H N (p_kem_encrypt_l5_L N) (subs p_kem_encrypt_c) :=
  addLoop (c := theLoop 5 p_kem_encrypt_c) (p_kem_encrypt_l9_ok N) (by kernel_rfl) (fun x => by kernel_rfl) (fun β x kn ke => by kernel_rfl)
abbrev p_kem_encrypt_ks : List Kd := [.sl b8, .xs b8 32, .xs b8 32]
abbrev p_kem_encrypt_rs : List Kd := [.sl b8]
noncomputable def p_kem_encrypt (N : Nat) (x : List Int × List Int × List Int × Unit) : Option (Int ⊕ (List Int)) :=
  (g_kem_decoded (x.1, ())).bind fun r1 => (
  if 1152 ≤ (List.length x.1) then (
  (g_kem_noises ((List.take 32 (List.drop 0 x.2.2.1)), (0:Int), ())).bind fun r2 => (
  (g_kem_row_turned (r2, ())).bind fun r3 => (
  (g_kem_noises ((List.take 32 (List.drop 0 x.2.2.1)), (3:Int), ())).bind fun r4 => (
  iter (p_kem_encrypt_l5_F N) N (((List.length x.1) - 1152), ((List.length x.1) - 1152), 0, (0:Int), x.2.1, x.2.2.1, r1, (List.length x.1), x.1, r3, r4, 0, [], ()) fun y => (match y with
  | .inl y12 => (
    some (.inl y12.1))
  | .inr y13 => (
    (g_kem_row_times (y13.2.2.2.1, y13.2.2.2.2.1, ())).bind fun r14 => (
    (g_ring_Inv (r14, ())).bind fun r15 => (
    (g_kem_noise ((List.take 32 (List.drop 0 y13.2.2.1)), (6:Int), ())).bind fun r16 => (
    (g_ring_Add (r15, r16, ())).bind fun r17 => (
    (g_kem_unpacked ((1:Int), (List.take 32 (List.drop 0 y13.2.1)), ())).bind fun r18 => (
    (g_ring_Add (r17, r18, ())).bind fun r19 => (
    (g_kem_packed ((4:Int), r19, ())).bind fun r20 => (
    if (y13.1 + (List.length r20)) * 1 ≤ 140737488355328 then (
    some (.inr (y13.2.2.2.2.2.2.1 ++ r20))) else none))))))))))))) else none)
theorem p_kem_encrypt_eq (N : Nat) (x : Ds [.sl b8, .xs b8 32, .xs b8 32]) : funLX p_kem_encrypt_E p_kem_encrypt_H (p_kem_encrypt_l5_L N) N Try.f26 p_kem_encrypt_c [.sl b8, .xs b8 32, .xs b8 32] [.sl b8] (.ifi 25 .i64) x = p_kem_encrypt N x := by kernel_rfl
theorem p_kem_encrypt_Eok (e0 : SigOk Try.prog 42 Z_kem_decoded) (e1 : SigOk Try.prog 32 Z_kem_noises) (e2 : SigOk Try.prog 33 Z_kem_row_turned) (e3 : SigOk Try.prog 36 Z_kem_row_times) (e4 : SigOk Try.prog 43 Z_ring_Inv) (e5 : SigOk Try.prog 35 Z_ring_Add) (e6 : SigOk Try.prog 44 Z_kem_packed) (e7 : SigOk Try.prog 45 Z_kem_noise) (e8 : SigOk Try.prog 46 Z_kem_unpacked) (e9 : XOk Try.prog 34 ⟨[.sl b8, .int .i64, .int .i64], [.xs b16 256], (.ifi 25 .i64), g_kem_entry⟩) : p_kem_encrypt_E.Ok Try.prog := AE.ofA_ok (all_cons ty5_ok (all_cons ty22_ok (all_cons ty24_ok (all_cons ty61_ok (all_cons ty63_ok all_nil))))) (all_cons ⟨e0, enters_kem_decoded⟩ (all_cons ⟨e1, enters_kem_noises⟩ (all_cons ⟨e2, enters_kem_row_turned⟩ (all_cons ⟨e3, enters_kem_row_times⟩ (all_cons ⟨e4, enters_ring_Inv⟩ (all_cons ⟨e5, enters_ring_Add⟩ (all_cons ⟨e6, enters_kem_packed⟩ (all_cons ⟨e7, enters_kem_noise⟩ (all_cons ⟨e8, enters_kem_unpacked⟩ all_nil))))))))) (all_cons ⟨e9, enters_kem_entry⟩ all_nil) all_nil all_nil all_nil all_nil all_nil all_nil all_nil
theorem p_kem_encrypt_ok (e0 : SigOk Try.prog 42 Z_kem_decoded) (e1 : SigOk Try.prog 32 Z_kem_noises) (e2 : SigOk Try.prog 33 Z_kem_row_turned) (e3 : SigOk Try.prog 36 Z_kem_row_times) (e4 : SigOk Try.prog 43 Z_ring_Inv) (e5 : SigOk Try.prog 35 Z_ring_Add) (e6 : SigOk Try.prog 44 Z_kem_packed) (e7 : SigOk Try.prog 45 Z_kem_noise) (e8 : SigOk Try.prog 46 Z_kem_unpacked) (e9 : XOk Try.prog 34 ⟨[.sl b8, .int .i64, .int .i64], [.xs b16 256], (.ifi 25 .i64), g_kem_entry⟩) {g : Ds [.sl b8, .xs b8 32, .xs b8 32] → Option (Bool × Int × Rs [.sl b8])} (hg : ∀ x r, g x = some r → ∃ N, p_kem_encrypt N x = some (xr r)) : XOk Try.prog 26 ⟨[.sl b8, .xs b8 32, .xs b8 32], [.sl b8], (.ifi 25 .i64), g⟩ :=
  funX_of (E := p_kem_encrypt_E) (H := p_kem_encrypt_H) (L := fun N => p_kem_encrypt_l5_L N) (c := p_kem_encrypt_c) (ks := p_kem_encrypt_ks) (rs := p_kem_encrypt_rs) (F := p_kem_encrypt) (p_kem_encrypt_Eok e0 e1 e2 e3 e4 e5 e6 e7 e8 e9) mix Try.func26 (by kernel_rfl) (fun N => p_kem_encrypt_l5_ok N) p_kem_encrypt_eq hg
noncomputable abbrev Z_ring_Sub : Sig := ⟨[.xs b16 256, .xs b16 256], [.xs b16 256], g_ring_Sub⟩
noncomputable def p_kem_decrypt_E : AE := AE.of [(5, ty5), (22, ty22), (24, ty24), (61, ty61), (63, ty63)] [(46, Z_kem_unpacked), (42, Z_kem_decoded), (33, Z_kem_row_turned), (36, Z_kem_row_times), (43, Z_ring_Inv), (47, Z_ring_Sub), (44, Z_kem_packed)]
noncomputable def p_kem_decrypt_H : Hints := [(3, [0, 1, 4, 5, 9]), (2000000, [0, 1, 4, 5]), (2000001, [0, 1, 4, 5, 9]), (3000000, [4])]
noncomputable def p_kem_decrypt_c : Code := (Try.f27).body.getD .skip
noncomputable def p_kem_decrypt_l3_S : Shape where
  h := { tmps := [.sc (.vec 0 none 1), .sc (.vec 1 none 1), V, V, .sc (.ptr 2 0 false), .sc (.ptr 3 0 false), V, V, V, .sc (.int .i64), V, V, V, V, V, V, V, V, V, V, V, V, V, V, V, V, V, V, V, V, V, V, V, V, V, V, V, V], mem := [.live [.xs b8 none] (.ro), .live [.xs b8 none] (.ro), .live [.xs b8 (some 32)] (.own), .live [.xs b16 (some 768)] (.own)] }
  ks := [.nat, .nat, .int, .nat, .xs, .nat, .xs, .xs, .xs]
  st := fun x => { tmps := [.one (.sc (.vec 0 x.1 1)), .one (.sc (.vec 1 x.2.1 1)), U, U, .one (.sc (.ptr 2 0 none)), .one (.sc (.ptr 3 0 none)), U, U, U, .one (.sc (.int .i64 x.2.2.1)), U, U, U, U, U, U, U, U, U, U, U, U, U, U, U, U, U, U, U, U, U, U, U, U, U, U, U, U], mem := [.live { segs := [.xs b8 x.2.2.2.1 x.2.2.2.2.1], own := .ro }, .live { segs := [.xs b8 x.2.2.2.2.2.1 x.2.2.2.2.2.2.1], own := .ro }, .live { segs := [.xs b8 32 x.2.2.2.2.2.2.2.1], own := .own }, .live { segs := [.xs b16 768 x.2.2.2.2.2.2.2.2.1], own := .own }] }
noncomputable def p_kem_decrypt_l3_F (N : Nat) (β : Type) (x : (Nat × Nat × Int × Nat × List Int × Nat × List Int × List Int × List Int × Unit)) (kn : (Nat × Nat × Int × Nat × List Int × Nat × List Int × List Int × List Int × Unit) → Option β) (ke : ((Nat × Nat × Nat × List Int × Nat × List Int × List Int × List Int × Unit)) → Option β) : Option β :=
  if (x.2.2.1 < (3:Int)) then
    if 0 ≤ (IntKind.i64.wrap ((IntKind.i64.wrap (x.2.2.1 + (1:Int))) * (320:Int))) then (
    if (IntKind.i64.wrap ((IntKind.i64.wrap (x.2.2.1 + (1:Int))) * (320:Int))) ≤ ((x.2.1 : Nat) : Int) then (
    if 0 ≤ (IntKind.i64.wrap (x.2.2.1 * (320:Int))) then (
    if (IntKind.i64.wrap (x.2.2.1 * (320:Int))) ≤ ((((IntKind.i64.wrap ((IntKind.i64.wrap (x.2.2.1 + (1:Int))) * (320:Int))).toNat) : Nat) : Int) then (
    (g_kem_unpacked ((10:Int), (List.take (subN ((IntKind.i64.wrap ((IntKind.i64.wrap (x.2.2.1 + (1:Int))) * (320:Int))).toNat) ((IntKind.i64.wrap (x.2.2.1 * (320:Int))).toNat)) (List.drop ((IntKind.i64.wrap (x.2.2.1 * (320:Int))).toNat) x.2.2.2.2.2.2.1)), ())).bind fun r1 => (
    if 0 ≤ x.2.2.1 then (
    if x.2.2.1 < 3 then (
    if ((x.2.2.1.toNat) * 256) + 256 ≤ 768 then (
    kn (x.1, x.2.1, (IntKind.i64.wrap (x.2.2.1 + (1:Int))), x.2.2.2.1, x.2.2.2.2.1, x.2.2.2.2.2.1, x.2.2.2.2.2.2.1, x.2.2.2.2.2.2.2.1, (List.take ((x.2.2.1.toNat) * 256) x.2.2.2.2.2.2.2.2.1 ++ r1 ++ List.drop (((x.2.2.1.toNat) * 256) + 256) x.2.2.2.2.2.2.2.2.1), ())) else none) else none) else none)) else none) else none) else none) else none
  else
    ke (x.1, x.2.1, x.2.2.2.1, x.2.2.2.2.1, x.2.2.2.2.2.1, x.2.2.2.2.2.2.1, x.2.2.2.2.2.2.2.1, x.2.2.2.2.2.2.2.2.1, ())
noncomputable def p_kem_decrypt_l3_go : Go' ((Nat × Nat × Nat × List Int × Nat × List Int × List Int × List Int × Unit)) := fun y K => K (.exit 0) { tmps := [.one (.sc (.vec 0 y.1 1)), .one (.sc (.vec 1 y.2.1 1)), U, U, .one (.sc (.ptr 2 0 none)), .one (.sc (.ptr 3 0 none)), U, U, U, U, U, U, U, U, U, U, U, U, U, U, U, U, U, U, U, U, U, U, U, U, U, U, U, U, U, U, U, U], mem := [.live { segs := [.xs b8 y.2.2.1 y.2.2.2.1], own := .ro }, .live { segs := [.xs b8 y.2.2.2.2.1 y.2.2.2.2.2.1], own := .ro }, .live { segs := [.xs b8 32 y.2.2.2.2.2.2.1], own := .own }, .live { segs := [.xs b16 768 y.2.2.2.2.2.2.2.1], own := .own }] }
noncomputable def p_kem_decrypt_l3_L (N : Nat) : LT := upd (LT.nil) 3 (loopE p_kem_decrypt_l3_S N (p_kem_decrypt_l3_F N) p_kem_decrypt_l3_go)
theorem p_kem_decrypt_l3_ok (N : Nat) : OkAll p_kem_decrypt_E p_kem_decrypt_H N (p_kem_decrypt_l3_L N) (subs p_kem_decrypt_c) :=
  addLoop (c := theLoop 3 p_kem_decrypt_c) (OkAll.nil) (by kernel_rfl) (fun x => by kernel_rfl) (fun β x kn ke => by kernel_rfl)
abbrev p_kem_decrypt_ks : List Kd := [.sl b8, .sl b8]
abbrev p_kem_decrypt_rs : List Kd := [.xs b8 32]
noncomputable def p_kem_decrypt (N : Nat) (x : List Int × List Int × Unit) : Option (List Int) :=
  iter (p_kem_decrypt_l3_F N) N ((List.length x.1), (List.length x.2.1), (0:Int), (List.length x.1), x.1, (List.length x.2.1), x.2.1, (List.replicate 32 0), (List.replicate 768 0), ()) fun y2 => (
  if 960 ≤ y2.2.1 then (
  (g_kem_unpacked ((4:Int), (List.take (y2.2.1 - 960) (List.drop 960 y2.2.2.2.2.2.1)), ())).bind fun r3 => (
  (g_kem_decoded (y2.2.2.2.1, ())).bind fun r4 => (
  (g_kem_row_turned (y2.2.2.2.2.2.2.2.1, ())).bind fun r5 => (
  (g_kem_row_times (r4, r5, ())).bind fun r6 => (
  (g_ring_Inv (r6, ())).bind fun r7 => (
  (g_ring_Sub (r3, r7, ())).bind fun r8 => (
  (g_kem_packed ((1:Int), r8, ())).bind fun r9 => (
  if 32 ≤ (List.length r9) then (
  if 0 + 32 ≤ (List.length r9) then (
  some (List.take 32 (List.drop 0 r9))) else none) else none)))))))) else none)
theorem p_kem_decrypt_eq (N : Nat) (x : Ds [.sl b8, .sl b8]) : funL p_kem_decrypt_E p_kem_decrypt_H (p_kem_decrypt_l3_L N) N Try.f27 p_kem_decrypt_c [.sl b8, .sl b8] [.xs b8 32] x = p_kem_decrypt N x := by kernel_rfl
theorem p_kem_decrypt_Eok (e0 : SigOk Try.prog 46 Z_kem_unpacked) (e1 : SigOk Try.prog 42 Z_kem_decoded) (e2 : SigOk Try.prog 33 Z_kem_row_turned) (e3 : SigOk Try.prog 36 Z_kem_row_times) (e4 : SigOk Try.prog 43 Z_ring_Inv) (e5 : SigOk Try.prog 47 Z_ring_Sub) (e6 : SigOk Try.prog 44 Z_kem_packed) : p_kem_decrypt_E.Ok Try.prog := AE.of_ok (all_cons ty5_ok (all_cons ty22_ok (all_cons ty24_ok (all_cons ty61_ok (all_cons ty63_ok all_nil))))) (all_cons ⟨e0, enters_kem_unpacked⟩ (all_cons ⟨e1, enters_kem_decoded⟩ (all_cons ⟨e2, enters_kem_row_turned⟩ (all_cons ⟨e3, enters_kem_row_times⟩ (all_cons ⟨e4, enters_ring_Inv⟩ (all_cons ⟨e5, enters_ring_Sub⟩ (all_cons ⟨e6, enters_kem_packed⟩ all_nil)))))))
theorem p_kem_decrypt_ok (e0 : SigOk Try.prog 46 Z_kem_unpacked) (e1 : SigOk Try.prog 42 Z_kem_decoded) (e2 : SigOk Try.prog 33 Z_kem_row_turned) (e3 : SigOk Try.prog 36 Z_kem_row_times) (e4 : SigOk Try.prog 43 Z_ring_Inv) (e5 : SigOk Try.prog 47 Z_ring_Sub) (e6 : SigOk Try.prog 44 Z_kem_packed) {g : Ds [.sl b8, .sl b8] → Option (Rs [.xs b8 32])} (hg : ∀ x r, g x = some r → ∃ N, p_kem_decrypt N x = some r) : SigOk Try.prog 27 ⟨[.sl b8, .sl b8], [.xs b8 32], g⟩ :=
  fun_of (E := p_kem_decrypt_E) (H := p_kem_decrypt_H) (L := fun N => p_kem_decrypt_l3_L N) (c := p_kem_decrypt_c) (ks := p_kem_decrypt_ks) (rs := p_kem_decrypt_rs) (F := p_kem_decrypt) (p_kem_decrypt_Eok e0 e1 e2 e3 e4 e5 e6) mix Try.func27 (by kernel_rfl) (fun N => p_kem_decrypt_l3_ok N) p_kem_decrypt_eq hg
noncomputable abbrev Z_keccak_Sha3512 : Sig := ⟨[.sls b8], [.xs b8 64], g_keccak_Sha3512⟩
noncomputable abbrev Z_kem_split : Sig := ⟨[.xs b8 64], [.xs b8 32, .xs b8 32], g_kem_split⟩
noncomputable abbrev Z_kem_row_encoded : Sig := ⟨[.xs b16 768], [.sl b8], g_kem_row_encoded⟩
noncomputable def p_kem_PkeKey_E : AE := AE.ofA [(5, ty5), (22, ty22), (24, ty24), (25, ty25), (58, ty58), (61, ty61), (63, ty63)] [(25, Z_keccak_Sha3512), (24, Z_kem_split), (32, Z_kem_noises), (33, Z_kem_row_turned), (36, Z_kem_row_times), (35, Z_ring_Add), (37, Z_kem_row_encoded), (20, Z_octet_Join)] [(34, ⟨[.sl b8, .int .i64, .int .i64], [.xs b16 256], (.ifi 25 .i64), g_kem_entry⟩)] [(23, cat_kem_caught)] [] [] [] [] [] [] [] []
noncomputable def p_kem_PkeKey_H : Hints := [(5, [2, 3, 4, 5, 7, 8, 26]), (9, [2, 3, 4, 5, 7, 8, 9, 10, 26, 29]), (2000000, [2, 3, 4, 5, 7, 8]), (2000001, [2, 3, 4, 5, 7, 8, 26]), (2000002, [2, 3, 4, 5, 7, 8, 9, 10, 26]), (2000003, [2, 3, 4, 5, 7, 8, 9, 10, 26, 29]), (3000000, [2, 3, 4]), (5000000, [2, 3, 4])]
noncomputable def p_kem_PkeKey_c : Code := (Try.f18).body.getD .skip
noncomputable def p_kem_PkeKey_l9_S : Shape where
  h := { tmps := [V, V, .sc (.nilsl), .sc (.nilsl), .sc (.ptr 0 0 false), .sc (.ptr 1 0 false), V, .sc (.ptr 2 0 false), .sc (.ptr 3 0 false), .sc (.int .i64), .sc (.ptr 4 0 false), V, V, V, V, V, V, V, V, V, V, V, V, V, V, V, .sc (.int .i64), V, V, .sc (.int .i64), V, V, V, V, V, V, V, V, V, V, V, V, V, V, V, V, V, V, V, V, V, V, V, V, V, V], mem := [.live [.xs (.int .i64) (some 1)] (.own), .live [.xs b8 (some 32)] (.own), .live [.xs b16 (some 768)] (.own), .live [.xs b16 (some 768)] (.own), .live [.xs b16 (some 768)] (.own)], dfr := [(23, [.ptr 0 0 false])] }
  ks := [.int, .int, .int, .xs, .xs, .xs, .xs, .xs]
  st := fun x => { tmps := [U, U, .one (.sc (.nilsl)), .one (.sc (.nilsl)), .one (.sc (.ptr 0 0 none)), .one (.sc (.ptr 1 0 none)), U, .one (.sc (.ptr 2 0 none)), .one (.sc (.ptr 3 0 none)), .one (.sc (.int .i64 x.1)), .one (.sc (.ptr 4 0 none)), U, U, U, U, U, U, U, U, U, U, U, U, U, U, U, .one (.sc (.int .i64 x.2.1)), U, U, .one (.sc (.int .i64 x.2.2.1)), U, U, U, U, U, U, U, U, U, U, U, U, U, U, U, U, U, U, U, U, U, U, U, U, U, U], mem := [.live { segs := [.xs (.int .i64) 1 x.2.2.2.1], own := .own }, .live { segs := [.xs b8 32 x.2.2.2.2.1], own := .own }, .live { segs := [.xs b16 768 x.2.2.2.2.2.1], own := .own }, .live { segs := [.xs b16 768 x.2.2.2.2.2.2.1], own := .own }, .live { segs := [.xs b16 768 x.2.2.2.2.2.2.2.1], own := .own }], dfr := [(23, [.ptr 0 0 none])] }
noncomputable def p_kem_PkeKey_l9_F (N : Nat) (β : Type) (x : (Int × Int × Int × List Int × List Int × List Int × List Int × List Int × Unit)) (kn : (Int × Int × Int × List Int × List Int × List Int × List Int × List Int × Unit) → Option β) (ke : ((Int × List Int × Unit) ⊕ (Int × Int × List Int × List Int × List Int × List Int × List Int × Unit)) → Option β) : Option β :=
  if (x.2.2.1 < (3:Int)) then
    (g_kem_entry ((List.take 32 (List.drop 0 x.2.2.2.2.1)), x.1, x.2.2.1, ())).bind fun r7 => (
    if r7.1 = true then
      ke (.inl (r7.2.1, x.2.2.2.1, ()))
    else
      if 0 ≤ x.2.2.1 then (
      if x.2.2.1 < 3 then (
      if ((x.2.2.1.toNat) * 256) + 256 ≤ 768 then (
      kn (x.1, x.2.1, (IntKind.i64.wrap (x.2.2.1 + (1:Int))), x.2.2.2.1, x.2.2.2.2.1, x.2.2.2.2.2.1, x.2.2.2.2.2.2.1, (List.take ((x.2.2.1.toNat) * 256) x.2.2.2.2.2.2.2.1 ++ r7.2.2 ++ List.drop (((x.2.2.1.toNat) * 256) + 256) x.2.2.2.2.2.2.2.1), ())) else none) else none) else none)
  else
    ke (.inr (x.1, x.2.1, x.2.2.2.1, x.2.2.2.2.1, x.2.2.2.2.2.1, x.2.2.2.2.2.2.1, x.2.2.2.2.2.2.2.1, ()))
noncomputable def p_kem_PkeKey_l9_go : Go' ((Int × List Int × Unit) ⊕ (Int × Int × List Int × List Int × List Int × List Int × List Int × Unit)) := fun y K => match y with
  | .inl y => K (.pan (.ifi 25 .i64) y.1) { tmps := [U, U, .one (.sc (.nilsl)), .one (.sc (.nilsl)), .one (.sc (.ptr 0 0 none)), U, U, U, U, U, U, U, U, U, U, U, U, U, U, U, U, U, U, U, U, U, U, U, U, U, U, U, U, U, U, U, U, U, U, U, U, U, U, U, U, U, U, U, U, U, U, U, U, U, U, U], mem := [.live { segs := [.xs (.int .i64) 1 y.2.1], own := .own }], dfr := [(23, [.ptr 0 0 none])] }
  | .inr y => K (.exit 2) { tmps := [U, U, .one (.sc (.nilsl)), .one (.sc (.nilsl)), .one (.sc (.ptr 0 0 none)), .one (.sc (.ptr 1 0 none)), U, .one (.sc (.ptr 2 0 none)), .one (.sc (.ptr 3 0 none)), .one (.sc (.int .i64 y.1)), .one (.sc (.ptr 4 0 none)), U, U, U, U, U, U, U, U, U, U, U, U, U, U, U, .one (.sc (.int .i64 y.2.1)), U, U, U, U, U, U, U, U, U, U, U, U, U, U, U, U, U, U, U, U, U, U, U, U, U, U, U, U, U], mem := [.live { segs := [.xs (.int .i64) 1 y.2.2.1], own := .own }, .live { segs := [.xs b8 32 y.2.2.2.1], own := .own }, .live { segs := [.xs b16 768 y.2.2.2.2.1], own := .own }, .live { segs := [.xs b16 768 y.2.2.2.2.2.1], own := .own }, .live { segs := [.xs b16 768 y.2.2.2.2.2.2.1], own := .own }], dfr := [(23, [.ptr 0 0 none])] }
noncomputable def p_kem_PkeKey_l9_L (N : Nat) : LT := upd (LT.nil) 9 (loopE p_kem_PkeKey_l9_S N (p_kem_PkeKey_l9_F N) p_kem_PkeKey_l9_go)
theorem p_kem_PkeKey_l9_ok (N : Nat) : OkAll p_kem_PkeKey_E p_kem_PkeKey_H N (p_kem_PkeKey_l9_L N) (subs p_kem_PkeKey_c) :=
  addLoop (c := theLoop 9 p_kem_PkeKey_c) (OkAll.nil) (by kernel_rfl) (fun x => by kernel_rfl) (fun β x kn ke => by kernel_rfl)
noncomputable def p_kem_PkeKey_l5_S : Shape where
  h := { tmps := [V, V, .sc (.nilsl), .sc (.nilsl), .sc (.ptr 0 0 false), .sc (.ptr 1 0 false), V, .sc (.ptr 2 0 false), .sc (.ptr 3 0 false), V, V, V, V, V, V, V, V, V, V, V, V, V, V, V, V, V, .sc (.int .i64), V, V, V, V, V, V, V, V, V, V, V, V, V, V, V, V, V, V, V, V, V, V, V, V, V, V, V, V, V], mem := [.live [.xs (.int .i64) (some 1)] (.own), .live [.xs b8 (some 32)] (.own), .live [.xs b16 (some 768)] (.own), .live [.xs b16 (some 768)] (.own)], dfr := [(23, [.ptr 0 0 false])] }
  ks := [.int, .xs, .xs, .xs, .xs]
  st := fun x => { tmps := [U, U, .one (.sc (.nilsl)), .one (.sc (.nilsl)), .one (.sc (.ptr 0 0 none)), .one (.sc (.ptr 1 0 none)), U, .one (.sc (.ptr 2 0 none)), .one (.sc (.ptr 3 0 none)), U, U, U, U, U, U, U, U, U, U, U, U, U, U, U, U, U, .one (.sc (.int .i64 x.1)), U, U, U, U, U, U, U, U, U, U, U, U, U, U, U, U, U, U, U, U, U, U, U, U, U, U, U, U, U], mem := [.live { segs := [.xs (.int .i64) 1 x.2.1], own := .own }, .live { segs := [.xs b8 32 x.2.2.1], own := .own }, .live { segs := [.xs b16 768 x.2.2.2.1], own := .own }, .live { segs := [.xs b16 768 x.2.2.2.2.1], own := .own }], dfr := [(23, [.ptr 0 0 none])] }
noncomputable def p_kem_PkeKey_l5_F (N : Nat) (β : Type) (x : (Int × List Int × List Int × List Int × List Int × Unit)) (kn : (Int × List Int × List Int × List Int × List Int × Unit) → Option β) (ke : ((Int × List Int × Unit) ⊕ (List Int × List Int × List Int × List Int × Unit)) → Option β) : Option β :=
  if (x.1 < (3:Int)) then
    iter (p_kem_PkeKey_l9_F N) N (x.1, x.1, (0:Int), x.2.1, x.2.2.1, x.2.2.2.1, x.2.2.2.2.1, (List.replicate 768 0), ()) fun y => (match y with
    | .inl y8 => (
      ke (.inl (y8.1, y8.2.1, ())))
    | .inr y9 => (
      (g_kem_row_times (y9.2.2.2.2.2.2.1, y9.2.2.2.2.1, ())).bind fun r10 => (
      if 0 ≤ y9.1 then (
      if y9.1 < 3 then (
      if ((y9.1.toNat) * 256) + 256 ≤ 768 then (
      (g_ring_Add (r10, (List.take 256 (List.drop ((y9.1.toNat) * 256) y9.2.2.2.2.2.1)), ())).bind fun r11 => (
      if 0 ≤ y9.1 then (
      if y9.1 < 3 then (
      if ((y9.1.toNat) * 256) + 256 ≤ 768 then (
      kn ((IntKind.i64.wrap (y9.2.1 + (1:Int))), y9.2.2.1, y9.2.2.2.1, y9.2.2.2.2.1, (List.take ((y9.1.toNat) * 256) y9.2.2.2.2.2.1 ++ r11 ++ List.drop (((y9.1.toNat) * 256) + 256) y9.2.2.2.2.2.1), ())) else none) else none) else none)) else none) else none) else none)))
  else
    ke (.inr (x.2.1, x.2.2.1, x.2.2.2.1, x.2.2.2.2.1, ()))
noncomputable def p_kem_PkeKey_l5_go : Go' ((Int × List Int × Unit) ⊕ (List Int × List Int × List Int × List Int × Unit)) := fun y K => match y with
  | .inl y => K (.pan (.ifi 25 .i64) y.1) { tmps := [U, U, .one (.sc (.nilsl)), .one (.sc (.nilsl)), .one (.sc (.ptr 0 0 none)), U, U, U, U, U, U, U, U, U, U, U, U, U, U, U, U, U, U, U, U, U, U, U, U, U, U, U, U, U, U, U, U, U, U, U, U, U, U, U, U, U, U, U, U, U, U, U, U, U, U, U], mem := [.live { segs := [.xs (.int .i64) 1 y.2.1], own := .own }], dfr := [(23, [.ptr 0 0 none])] }
  | .inr y => K (.exit 0) { tmps := [U, U, .one (.sc (.nilsl)), .one (.sc (.nilsl)), .one (.sc (.ptr 0 0 none)), .one (.sc (.ptr 1 0 none)), U, .one (.sc (.ptr 2 0 none)), .one (.sc (.ptr 3 0 none)), U, U, U, U, U, U, U, U, U, U, U, U, U, U, U, U, U, U, U, U, U, U, U, U, U, U, U, U, U, U, U, U, U, U, U, U, U, U, U, U, U, U, U, U, U, U, U], mem := [.live { segs := [.xs (.int .i64) 1 y.1], own := .own }, .live { segs := [.xs b8 32 y.2.1], own := .own }, .live { segs := [.xs b16 768 y.2.2.1], own := .own }, .live { segs := [.xs b16 768 y.2.2.2.1], own := .own }], dfr := [(23, [.ptr 0 0 none])] }
noncomputable def p_kem_PkeKey_l5_L (N : Nat) : LT := upd (p_kem_PkeKey_l9_L N) 5 (loopE p_kem_PkeKey_l5_S N (p_kem_PkeKey_l5_F N) p_kem_PkeKey_l5_go)
theorem p_kem_PkeKey_l5_ok (N : Nat) : OkAll p_kem_PkeKey_E p_kem_PkeKey_H N (p_kem_PkeKey_l5_L N) (subs p_kem_PkeKey_c) :=
  addLoop (c := theLoop 5 p_kem_PkeKey_c) (p_kem_PkeKey_l9_ok N) (by kernel_rfl) (fun x => by kernel_rfl) (fun β x kn ke => by kernel_rfl)
abbrev p_kem_PkeKey_ks : List Kd := [.xs b8 32]
abbrev p_kem_PkeKey_rs : List Kd := [.sl b8, .sl b8, .int .i64]
noncomputable def p_kem_PkeKey (N : Nat) (x : List Int × Unit) : Option (List Int × List Int × Int) :=
  (g_keccak_Sha3512 ([(List.take 32 (List.drop 0 x.1)), (List.set (List.replicate 1 0) 0 (3:Int))], ())).bind fun r1 => (
  (g_kem_split (r1, ())).bind fun r2 => (
  (g_kem_noises ((List.take 32 (List.drop 0 r2.2)), (0:Int), ())).bind fun r3 => (
  (g_kem_row_turned (r3, ())).bind fun r4 => (
  (g_kem_noises ((List.take 32 (List.drop 0 r2.2)), (3:Int), ())).bind fun r5 => (
  (g_kem_row_turned (r5, ())).bind fun r6 => (
  iter (p_kem_PkeKey_l5_F N) N ((0:Int), [0], r2.1, r4, r6, ()) fun y => (match y with
  | .inl y12 => (
    some ([], [], (List.getD (List.set y12.2.1 0 y12.1) 0 0)))
  | .inr y13 => (
    (g_kem_row_encoded (y13.2.2.2.1, ())).bind fun r14 => (
    (g_octet_Join ([r14, (List.take 32 (List.drop 0 y13.2.1))], ())).bind fun r15 => (
    (g_kem_row_encoded (y13.2.2.1, ())).bind fun r16 => (
    some (r15, r16, (List.getD (List.set y13.1 0 (0:Int)) 0 0)))))))))))))
theorem p_kem_PkeKey_eq (N : Nat) (x : Ds [.xs b8 32]) : funL p_kem_PkeKey_E p_kem_PkeKey_H (p_kem_PkeKey_l5_L N) N Try.f18 p_kem_PkeKey_c [.xs b8 32] [.sl b8, .sl b8, .int .i64] x = p_kem_PkeKey N x := by kernel_rfl
theorem p_kem_PkeKey_Eok (e0 : SigOk Try.prog 25 Z_keccak_Sha3512) (e1 : SigOk Try.prog 24 Z_kem_split) (e2 : SigOk Try.prog 32 Z_kem_noises) (e3 : SigOk Try.prog 33 Z_kem_row_turned) (e4 : SigOk Try.prog 36 Z_kem_row_times) (e5 : SigOk Try.prog 35 Z_ring_Add) (e6 : SigOk Try.prog 37 Z_kem_row_encoded) (e7 : SigOk Try.prog 20 Z_octet_Join) (e8 : XOk Try.prog 34 ⟨[.sl b8, .int .i64, .int .i64], [.xs b16 256], (.ifi 25 .i64), g_kem_entry⟩) : p_kem_PkeKey_E.Ok Try.prog := AE.ofA_ok (all_cons ty5_ok (all_cons ty22_ok (all_cons ty24_ok (all_cons ty25_ok (all_cons ty58_ok (all_cons ty61_ok (all_cons ty63_ok all_nil))))))) (all_cons ⟨e0, enters_keccak_Sha3512⟩ (all_cons ⟨e1, enters_kem_split⟩ (all_cons ⟨e2, enters_kem_noises⟩ (all_cons ⟨e3, enters_kem_row_turned⟩ (all_cons ⟨e4, enters_kem_row_times⟩ (all_cons ⟨e5, enters_ring_Add⟩ (all_cons ⟨e6, enters_kem_row_encoded⟩ (all_cons ⟨e7, enters_octet_Join⟩ all_nil)))))))) (all_cons ⟨e8, enters_kem_entry⟩ all_nil) (all_cons ⟨cat_kem_caught_ok, enters_kem_caught⟩ all_nil) all_nil all_nil all_nil all_nil all_nil all_nil
theorem p_kem_PkeKey_ok (e0 : SigOk Try.prog 25 Z_keccak_Sha3512) (e1 : SigOk Try.prog 24 Z_kem_split) (e2 : SigOk Try.prog 32 Z_kem_noises) (e3 : SigOk Try.prog 33 Z_kem_row_turned) (e4 : SigOk Try.prog 36 Z_kem_row_times) (e5 : SigOk Try.prog 35 Z_ring_Add) (e6 : SigOk Try.prog 37 Z_kem_row_encoded) (e7 : SigOk Try.prog 20 Z_octet_Join) (e8 : XOk Try.prog 34 ⟨[.sl b8, .int .i64, .int .i64], [.xs b16 256], (.ifi 25 .i64), g_kem_entry⟩) {g : Ds [.xs b8 32] → Option (Rs [.sl b8, .sl b8, .int .i64])} (hg : ∀ x r, g x = some r → ∃ N, p_kem_PkeKey N x = some r) : SigOk Try.prog 18 ⟨[.xs b8 32], [.sl b8, .sl b8, .int .i64], g⟩ :=
  fun_of (E := p_kem_PkeKey_E) (H := p_kem_PkeKey_H) (L := fun N => p_kem_PkeKey_l5_L N) (c := p_kem_PkeKey_c) (ks := p_kem_PkeKey_ks) (rs := p_kem_PkeKey_rs) (F := p_kem_PkeKey) (p_kem_PkeKey_Eok e0 e1 e2 e3 e4 e5 e6 e7 e8) mix Try.func18 (by kernel_rfl) (fun N => p_kem_PkeKey_l5_ok N) p_kem_PkeKey_eq hg
noncomputable abbrev Z_kem_PkeKey : Sig := ⟨[.xs b8 32], [.sl b8, .sl b8, .int .i64], g_kem_PkeKey⟩
noncomputable abbrev Z_keccak_Sha3256 : Sig := ⟨[.sls b8], [.xs b8 32], g_keccak_Sha3256⟩
noncomputable def p_kem_KeyGen_E : AE := AE.of [(5, ty5), (22, ty22), (24, ty24), (58, ty58)] [(18, Z_kem_PkeKey), (19, Z_keccak_Sha3256), (20, Z_octet_Join)]
noncomputable def p_kem_KeyGen_H : Hints := [(3000000, [4, 5, 6])]
noncomputable def p_kem_KeyGen_c : Code := (Try.f6).body.getD .skip
abbrev p_kem_KeyGen_ks : List Kd := [.xs b8 32, .xs b8 32]
abbrev p_kem_KeyGen_rs : List Kd := [.sl b8, .sl b8, .int .i64]
noncomputable def p_kem_KeyGen (N : Nat) (x : List Int × List Int × Unit) : Option (List Int × List Int × Int) :=
  (g_kem_PkeKey (x.1, ())).bind fun r1 => (
  if (r1.2.2 ≠ (0:Int)) then
    some ([], [], r1.2.2)
  else
    (g_keccak_Sha3256 ([r1.1], ())).bind fun r2 => (
    (g_octet_Join ([r1.2.1, r1.1, (List.take 32 (List.drop 0 r2)), (List.take 32 (List.drop 0 x.2.1))], ())).bind fun r3 => (
    some (r1.1, r3, (0:Int)))))
theorem p_kem_KeyGen_eq (N : Nat) (x : Ds [.xs b8 32, .xs b8 32]) : funL p_kem_KeyGen_E p_kem_KeyGen_H (LT.nil) N Try.f6 p_kem_KeyGen_c [.xs b8 32, .xs b8 32] [.sl b8, .sl b8, .int .i64] x = p_kem_KeyGen N x := by kernel_rfl
theorem p_kem_KeyGen_Eok (e0 : SigOk Try.prog 18 Z_kem_PkeKey) (e1 : SigOk Try.prog 19 Z_keccak_Sha3256) (e2 : SigOk Try.prog 20 Z_octet_Join) : p_kem_KeyGen_E.Ok Try.prog := AE.of_ok (all_cons ty5_ok (all_cons ty22_ok (all_cons ty24_ok (all_cons ty58_ok all_nil)))) (all_cons ⟨e0, enters_kem_PkeKey⟩ (all_cons ⟨e1, enters_keccak_Sha3256⟩ (all_cons ⟨e2, enters_octet_Join⟩ all_nil)))
theorem p_kem_KeyGen_ok (e0 : SigOk Try.prog 18 Z_kem_PkeKey) (e1 : SigOk Try.prog 19 Z_keccak_Sha3256) (e2 : SigOk Try.prog 20 Z_octet_Join) {g : Ds [.xs b8 32, .xs b8 32] → Option (Rs [.sl b8, .sl b8, .int .i64])} (hg : ∀ x r, g x = some r → ∃ N, p_kem_KeyGen N x = some r) : SigOk Try.prog 6 ⟨[.xs b8 32, .xs b8 32], [.sl b8, .sl b8, .int .i64], g⟩ :=
  fun_of (E := p_kem_KeyGen_E) (H := p_kem_KeyGen_H) (L := fun N => LT.nil) (c := p_kem_KeyGen_c) (ks := p_kem_KeyGen_ks) (rs := p_kem_KeyGen_rs) (F := p_kem_KeyGen) (p_kem_KeyGen_Eok e0 e1 e2) mix Try.func6 (by kernel_rfl) (fun N => OkAll.nil) p_kem_KeyGen_eq hg
noncomputable abbrev Z_ring_Canon : Sig := ⟨[.sl b8], [.bool], g_ring_Canon⟩
noncomputable def p_kem_CheckEk_E : AE := AE.of [(5, ty5), (24, ty24)] [(21, Z_ring_Canon)]
noncomputable def p_kem_CheckEk_H : Hints := [(4, [0, 7]), (2000000, []), (2000001, [0, 7]), (3000000, [2])]
noncomputable def p_kem_CheckEk_c : Code := (Try.f8).body.getD .skip
noncomputable def p_kem_CheckEk_l4_S : Shape where
  h := { tmps := [.sc (.vec 0 none 1), V, V, V, V, V, V, .sc (.int .i64), V, V, V, V, V, V, V, V, V, V, V, V], mem := [.live [.xs b8 none] (.ro)] }
  ks := [.nat, .int, .nat, .xs]
  st := fun x => { tmps := [.one (.sc (.vec 0 x.1 1)), U, U, U, U, U, U, .one (.sc (.int .i64 x.2.1)), U, U, U, U, U, U, U, U, U, U, U, U], mem := [.live { segs := [.xs b8 x.2.2.1 x.2.2.2.1], own := .ro }] }
noncomputable def p_kem_CheckEk_l4_F (N : Nat) (β : Type) (x : (Nat × Int × Nat × List Int × Unit)) (kn : (Nat × Int × Nat × List Int × Unit) → Option β) (ke : ((Int × Unit) ⊕ (Unit)) → Option β) : Option β :=
  if (x.2.1 < (3:Int)) then
    if 0 ≤ (IntKind.i64.wrap ((IntKind.i64.wrap (x.2.1 + (1:Int))) * (384:Int))) then (
    if (IntKind.i64.wrap ((IntKind.i64.wrap (x.2.1 + (1:Int))) * (384:Int))) ≤ ((x.1 : Nat) : Int) then (
    if 0 ≤ (IntKind.i64.wrap (x.2.1 * (384:Int))) then (
    if (IntKind.i64.wrap (x.2.1 * (384:Int))) ≤ ((((IntKind.i64.wrap ((IntKind.i64.wrap (x.2.1 + (1:Int))) * (384:Int))).toNat) : Nat) : Int) then (
    (g_ring_Canon ((List.take (subN ((IntKind.i64.wrap ((IntKind.i64.wrap (x.2.1 + (1:Int))) * (384:Int))).toNat) ((IntKind.i64.wrap (x.2.1 * (384:Int))).toNat)) (List.drop ((IntKind.i64.wrap (x.2.1 * (384:Int))).toNat) x.2.2.2.1)), ())).bind fun r1 => (
    if (¬ (r1 = true)) then
      ke (.inl ((140:Int), ()))
    else
      kn (x.1, (IntKind.i64.wrap (x.2.1 + (1:Int))), x.2.2.1, x.2.2.2.1, ()))) else none) else none) else none) else none
  else
    ke (.inr (()))
noncomputable def p_kem_CheckEk_l4_go : Go' ((Int × Unit) ⊕ (Unit)) := fun y K => match y with
  | .inl y => K .ret { tmps := [U, U, .one (.sc (.int .i64 y.1)), U, U, U, U, U, U, U, U, U, U, U, U, U, U, U, U, U], mem := [] }
  | .inr y => K (.exit 0) { tmps := [U, U, U, U, U, U, U, U, U, U, U, U, U, U, U, U, U, U, U, U], mem := [] }
noncomputable def p_kem_CheckEk_l4_L (N : Nat) : LT := upd (LT.nil) 4 (loopE p_kem_CheckEk_l4_S N (p_kem_CheckEk_l4_F N) p_kem_CheckEk_l4_go)
theorem p_kem_CheckEk_l4_ok (N : Nat) : OkAll p_kem_CheckEk_E p_kem_CheckEk_H N (p_kem_CheckEk_l4_L N) (subs p_kem_CheckEk_c) :=
  addLoop (c := theLoop 4 p_kem_CheckEk_c) (OkAll.nil) (by kernel_rfl) (fun x => by kernel_rfl) (fun β x kn ke => by kernel_rfl)
abbrev p_kem_CheckEk_ks : List Kd := [.sl b8]
abbrev p_kem_CheckEk_rs : List Kd := [.int .i64]
noncomputable def p_kem_CheckEk (N : Nat) (x : List Int × Unit) : Option (Int) :=
  if ((((List.length x.1) : Nat) : Int) ≠ (1184:Int)) then
    some (140:Int)
  else
    iter (p_kem_CheckEk_l4_F N) N ((List.length x.1), (0:Int), (List.length x.1), x.1, ()) fun y => (match y with
    | .inl y2 => (
      some y2.1)
    | .inr y3 => (
      some (0:Int)))
theorem p_kem_CheckEk_eq (N : Nat) (x : Ds [.sl b8]) : funL p_kem_CheckEk_E p_kem_CheckEk_H (p_kem_CheckEk_l4_L N) N Try.f8 p_kem_CheckEk_c [.sl b8] [.int .i64] x = p_kem_CheckEk N x := by kernel_rfl
theorem p_kem_CheckEk_Eok (e0 : SigOk Try.prog 21 Z_ring_Canon) : p_kem_CheckEk_E.Ok Try.prog := AE.of_ok (all_cons ty5_ok (all_cons ty24_ok all_nil)) (all_cons ⟨e0, enters_ring_Canon⟩ all_nil)
theorem p_kem_CheckEk_ok (e0 : SigOk Try.prog 21 Z_ring_Canon) {g : Ds [.sl b8] → Option (Rs [.int .i64])} (hg : ∀ x r, g x = some r → ∃ N, p_kem_CheckEk N x = some r) : SigOk Try.prog 8 ⟨[.sl b8], [.int .i64], g⟩ :=
  fun_of (E := p_kem_CheckEk_E) (H := p_kem_CheckEk_H) (L := fun N => p_kem_CheckEk_l4_L N) (c := p_kem_CheckEk_c) (ks := p_kem_CheckEk_ks) (rs := p_kem_CheckEk_rs) (F := p_kem_CheckEk) (p_kem_CheckEk_Eok e0) mix Try.func8 (by kernel_rfl) (fun N => p_kem_CheckEk_l4_ok N) p_kem_CheckEk_eq hg
noncomputable abbrev Z_octet_Same : Sig := ⟨[.sl b8, .sl b8], [.bool], g_octet_Same⟩
noncomputable def p_kem_CheckDk_E : AE := AE.of [(5, ty5), (22, ty22), (24, ty24), (58, ty58)] [(19, Z_keccak_Sha3256), (22, Z_octet_Same)]
noncomputable def p_kem_CheckDk_H : Hints := [(3000000, [2])]
noncomputable def p_kem_CheckDk_c : Code := (Try.f9).body.getD .skip
abbrev p_kem_CheckDk_ks : List Kd := [.sl b8]
abbrev p_kem_CheckDk_rs : List Kd := [.int .i64]
noncomputable def p_kem_CheckDk (N : Nat) (x : List Int × Unit) : Option (Int) :=
  if ((((List.length x.1) : Nat) : Int) ≠ (2400:Int)) then
    some (141:Int)
  else
    if 2336 ≤ (List.length x.1) then (
    if 1152 ≤ 2336 then (
    (g_keccak_Sha3256 ([(List.take 1184 (List.drop 1152 x.1))], ())).bind fun r1 => (
    if 2368 ≤ (List.length x.1) then (
    if 2336 ≤ 2368 then (
    (g_octet_Same ((List.take 32 (List.drop 0 r1)), (List.take 32 (List.drop 2336 x.1)), ())).bind fun r2 => (
    if (¬ (r2 = true)) then
      some (141:Int)
    else
      some (0:Int))) else none) else none)) else none) else none
theorem p_kem_CheckDk_eq (N : Nat) (x : Ds [.sl b8]) : funL p_kem_CheckDk_E p_kem_CheckDk_H (LT.nil) N Try.f9 p_kem_CheckDk_c [.sl b8] [.int .i64] x = p_kem_CheckDk N x := by kernel_rfl
theorem p_kem_CheckDk_Eok (e0 : SigOk Try.prog 19 Z_keccak_Sha3256) (e1 : SigOk Try.prog 22 Z_octet_Same) : p_kem_CheckDk_E.Ok Try.prog := AE.of_ok (all_cons ty5_ok (all_cons ty22_ok (all_cons ty24_ok (all_cons ty58_ok all_nil)))) (all_cons ⟨e0, enters_keccak_Sha3256⟩ (all_cons ⟨e1, enters_octet_Same⟩ all_nil))
theorem p_kem_CheckDk_ok (e0 : SigOk Try.prog 19 Z_keccak_Sha3256) (e1 : SigOk Try.prog 22 Z_octet_Same) {g : Ds [.sl b8] → Option (Rs [.int .i64])} (hg : ∀ x r, g x = some r → ∃ N, p_kem_CheckDk N x = some r) : SigOk Try.prog 9 ⟨[.sl b8], [.int .i64], g⟩ :=
  fun_of (E := p_kem_CheckDk_E) (H := p_kem_CheckDk_H) (L := fun N => LT.nil) (c := p_kem_CheckDk_c) (ks := p_kem_CheckDk_ks) (rs := p_kem_CheckDk_rs) (F := p_kem_CheckDk) (p_kem_CheckDk_Eok e0 e1) mix Try.func9 (by kernel_rfl) (fun N => OkAll.nil) p_kem_CheckDk_eq hg
noncomputable abbrev Z_kem_CheckEk : Sig := ⟨[.sl b8], [.int .i64], g_kem_CheckEk⟩
noncomputable def p_kem_Encaps_E : AE := AE.ofA [(5, ty5), (22, ty22), (24, ty24), (25, ty25), (58, ty58)] [(8, Z_kem_CheckEk), (19, Z_keccak_Sha3256), (25, Z_keccak_Sha3512), (24, Z_kem_split)] [(26, ⟨[.sl b8, .xs b8 32, .xs b8 32], [.sl b8], (.ifi 25 .i64), g_kem_encrypt⟩)] [(23, cat_kem_caught)] [] [] [] [] [] [] [] []
noncomputable def p_kem_Encaps_H : Hints := [(3000000, [4, 5, 6]), (5000000, [4, 5, 6])]
noncomputable def p_kem_Encaps_c : Code := (Try.f10).body.getD .skip
abbrev p_kem_Encaps_ks : List Kd := [.sl b8, .xs b8 32]
abbrev p_kem_Encaps_rs : List Kd := [.xs b8 32, .sl b8, .int .i64]
noncomputable def p_kem_Encaps (N : Nat) (x : List Int × List Int × Unit) : Option (List Int × List Int × Int) :=
  (g_kem_CheckEk (x.1, ())).bind fun r1 => (
  if (r1 ≠ (0:Int)) then
    some ((List.replicate 32 0), [], (List.getD (List.set [0] 0 r1) 0 0))
  else
    (g_keccak_Sha3256 ([x.1], ())).bind fun r2 => (
    (g_keccak_Sha3512 ([(List.take 32 (List.drop 0 x.2.1)), (List.take 32 (List.drop 0 r2))], ())).bind fun r3 => (
    (g_kem_split (r3, ())).bind fun r4 => (
    (g_kem_encrypt (x.1, x.2.1, r4.2, ())).bind fun r5 => (
    if r5.1 = true then
      some ((List.replicate 32 0), [], (List.getD (List.set [0] 0 r5.2.1) 0 0))
    else
      some (r4.1, r5.2.2, (List.getD (List.set [0] 0 (0:Int)) 0 0)))))))
theorem p_kem_Encaps_eq (N : Nat) (x : Ds [.sl b8, .xs b8 32]) : funL p_kem_Encaps_E p_kem_Encaps_H (LT.nil) N Try.f10 p_kem_Encaps_c [.sl b8, .xs b8 32] [.xs b8 32, .sl b8, .int .i64] x = p_kem_Encaps N x := by kernel_rfl
theorem p_kem_Encaps_Eok (e0 : SigOk Try.prog 8 Z_kem_CheckEk) (e1 : SigOk Try.prog 19 Z_keccak_Sha3256) (e2 : SigOk Try.prog 25 Z_keccak_Sha3512) (e3 : SigOk Try.prog 24 Z_kem_split) (e4 : XOk Try.prog 26 ⟨[.sl b8, .xs b8 32, .xs b8 32], [.sl b8], (.ifi 25 .i64), g_kem_encrypt⟩) : p_kem_Encaps_E.Ok Try.prog := AE.ofA_ok (all_cons ty5_ok (all_cons ty22_ok (all_cons ty24_ok (all_cons ty25_ok (all_cons ty58_ok all_nil))))) (all_cons ⟨e0, enters_kem_CheckEk⟩ (all_cons ⟨e1, enters_keccak_Sha3256⟩ (all_cons ⟨e2, enters_keccak_Sha3512⟩ (all_cons ⟨e3, enters_kem_split⟩ all_nil)))) (all_cons ⟨e4, enters_kem_encrypt⟩ all_nil) (all_cons ⟨cat_kem_caught_ok, enters_kem_caught⟩ all_nil) all_nil all_nil all_nil all_nil all_nil all_nil
theorem p_kem_Encaps_ok (e0 : SigOk Try.prog 8 Z_kem_CheckEk) (e1 : SigOk Try.prog 19 Z_keccak_Sha3256) (e2 : SigOk Try.prog 25 Z_keccak_Sha3512) (e3 : SigOk Try.prog 24 Z_kem_split) (e4 : XOk Try.prog 26 ⟨[.sl b8, .xs b8 32, .xs b8 32], [.sl b8], (.ifi 25 .i64), g_kem_encrypt⟩) {g : Ds [.sl b8, .xs b8 32] → Option (Rs [.xs b8 32, .sl b8, .int .i64])} (hg : ∀ x r, g x = some r → ∃ N, p_kem_Encaps N x = some r) : SigOk Try.prog 10 ⟨[.sl b8, .xs b8 32], [.xs b8 32, .sl b8, .int .i64], g⟩ :=
  fun_of (E := p_kem_Encaps_E) (H := p_kem_Encaps_H) (L := fun N => LT.nil) (c := p_kem_Encaps_c) (ks := p_kem_Encaps_ks) (rs := p_kem_Encaps_rs) (F := p_kem_Encaps) (p_kem_Encaps_Eok e0 e1 e2 e3 e4) mix Try.func10 (by kernel_rfl) (fun N => OkAll.nil) p_kem_Encaps_eq hg
noncomputable abbrev Z_kem_CheckDk : Sig := ⟨[.sl b8], [.int .i64], g_kem_CheckDk⟩
noncomputable abbrev Z_kem_decrypt : Sig := ⟨[.sl b8, .sl b8], [.xs b8 32], g_kem_decrypt⟩
noncomputable abbrev Z_octet_Choose : Sig := ⟨[.bool, .sl b8, .sl b8], [.sl b8, .int .i64], g_octet_Choose⟩
noncomputable def p_kem_Decaps_E : AE := AE.ofA [(5, ty5), (22, ty22), (24, ty24), (25, ty25), (58, ty58)] [(9, Z_kem_CheckDk), (27, Z_kem_decrypt), (25, Z_keccak_Sha3512), (24, Z_kem_split), (29, Z_keccak_Shake), (22, Z_octet_Same), (30, Z_octet_Choose)] [(26, ⟨[.sl b8, .xs b8 32, .xs b8 32], [.sl b8], (.ifi 25 .i64), g_kem_encrypt⟩)] [(23, cat_kem_caught)] [] [(56, i_kem_poly), (28, i_kem_raw)] [] [] [] [] [] [(28, .okay 0 1 2)]
noncomputable def p_kem_Decaps_H : Hints := [(3000000, [4, 5]), (5000000, [4, 5])]
noncomputable def p_kem_Decaps_c : Code := (Try.f11).body.getD .skip
abbrev p_kem_Decaps_ks : List Kd := [.sl b8, .sl b8]
abbrev p_kem_Decaps_rs : List Kd := [.xs b8 32, .int .i64]
noncomputable def p_kem_Decaps (N : Nat) (x : List Int × List Int × Unit) : Option (List Int × Int) :=
  (g_kem_CheckDk (x.1, ())).bind fun r1 => (
  if (r1 ≠ (0:Int)) then
    some ((List.replicate 32 0), (List.getD (List.set [0] 0 r1) 0 0))
  else
    if ((((List.length x.2.1) : Nat) : Int) ≠ (1088:Int)) then
      some ((List.replicate 32 0), (List.getD (List.set [0] 0 (142:Int)) 0 0))
    else
      if 1152 ≤ (List.length x.1) then (
      (g_kem_decrypt ((List.take 1152 (List.drop 0 x.1)), x.2.1, ())).bind fun r2 => (
      if 2368 ≤ (List.length x.1) then (
      if 2336 ≤ 2368 then (
      (g_keccak_Sha3512 ([(List.take 32 (List.drop 0 r2)), (List.take 32 (List.drop 2336 x.1))], ())).bind fun r3 => (
      (g_kem_split (r3, ())).bind fun r4 => (
      if 2368 ≤ (List.length x.1) then (
      (g_keccak_Shake ((256:Int), (32:Int), [(List.take ((List.length x.1) - 2368) (List.drop 2368 x.1)), x.2.1], ())).bind fun r5 => (
      if (r5.2 ≠ (0:Int)) then
        some ((List.replicate 32 0), (List.getD (List.set [0] 0 r5.2) 0 0))
      else
        if 2336 ≤ (List.length x.1) then (
        if 1152 ≤ 2336 then (
        (xg (g_kem_encrypt ((List.take 1184 (List.drop 1152 x.1)), r2, r4.2, ()))).bind fun r6 => (
        (g_octet_Same (r6, x.2.1, ())).bind fun r7 => (
        (g_octet_Choose ((decide (r7 = true)), (List.take 32 (List.drop 0 r4.1)), r5.1, ())).bind fun r8 => (
        if r8.2 = 0 then (
        if 32 ≤ (List.length r8.1) then (
        if 0 + 32 ≤ (List.length r8.1) then (
        some ((List.take 32 (List.drop 0 r8.1)), (List.getD (List.set [0] 0 (0:Int)) 0 0))) else none) else none) else none)))) else none) else none)) else none))) else none) else none)) else none)
theorem p_kem_Decaps_eq (N : Nat) (x : Ds [.sl b8, .sl b8]) : funL p_kem_Decaps_E p_kem_Decaps_H (LT.nil) N Try.f11 p_kem_Decaps_c [.sl b8, .sl b8] [.xs b8 32, .int .i64] x = p_kem_Decaps N x := by kernel_rfl
theorem p_kem_Decaps_Eok (e0 : SigOk Try.prog 9 Z_kem_CheckDk) (e1 : SigOk Try.prog 27 Z_kem_decrypt) (e2 : SigOk Try.prog 25 Z_keccak_Sha3512) (e3 : SigOk Try.prog 24 Z_kem_split) (e4 : SigOk Try.prog 29 Z_keccak_Shake) (e5 : SigOk Try.prog 22 Z_octet_Same) (e6 : SigOk Try.prog 30 Z_octet_Choose) (e7 : XOk Try.prog 26 ⟨[.sl b8, .xs b8 32, .xs b8 32], [.sl b8], (.ifi 25 .i64), g_kem_encrypt⟩) : p_kem_Decaps_E.Ok Try.prog := AE.ofA_ok (all_cons ty5_ok (all_cons ty22_ok (all_cons ty24_ok (all_cons ty25_ok (all_cons ty58_ok all_nil))))) (all_cons ⟨e0, enters_kem_CheckDk⟩ (all_cons ⟨e1, enters_kem_decrypt⟩ (all_cons ⟨e2, enters_keccak_Sha3512⟩ (all_cons ⟨e3, enters_kem_split⟩ (all_cons ⟨e4, enters_keccak_Shake⟩ (all_cons ⟨e5, enters_octet_Same⟩ (all_cons ⟨e6, enters_octet_Choose⟩ all_nil))))))) (all_cons ⟨e7, enters_kem_encrypt⟩ all_nil) (all_cons ⟨cat_kem_caught_ok, enters_kem_caught⟩ all_nil) all_nil (all_cons ⟨i_kem_poly_ok, enters_kem_poly⟩ (all_cons ⟨i_kem_raw_ok, enters_kem_raw⟩ all_nil)) all_nil all_nil all_nil (all_cons ⟨re_kem_raw, enters_kem_raw⟩ all_nil)
theorem p_kem_Decaps_ok (e0 : SigOk Try.prog 9 Z_kem_CheckDk) (e1 : SigOk Try.prog 27 Z_kem_decrypt) (e2 : SigOk Try.prog 25 Z_keccak_Sha3512) (e3 : SigOk Try.prog 24 Z_kem_split) (e4 : SigOk Try.prog 29 Z_keccak_Shake) (e5 : SigOk Try.prog 22 Z_octet_Same) (e6 : SigOk Try.prog 30 Z_octet_Choose) (e7 : XOk Try.prog 26 ⟨[.sl b8, .xs b8 32, .xs b8 32], [.sl b8], (.ifi 25 .i64), g_kem_encrypt⟩) {g : Ds [.sl b8, .sl b8] → Option (Rs [.xs b8 32, .int .i64])} (hg : ∀ x r, g x = some r → ∃ N, p_kem_Decaps N x = some r) : SigOk Try.prog 11 ⟨[.sl b8, .sl b8], [.xs b8 32, .int .i64], g⟩ :=
  fun_of (E := p_kem_Decaps_E) (H := p_kem_Decaps_H) (L := fun N => LT.nil) (c := p_kem_Decaps_c) (ks := p_kem_Decaps_ks) (rs := p_kem_Decaps_rs) (F := p_kem_Decaps) (p_kem_Decaps_Eok e0 e1 e2 e3 e4 e5 e6 e7) mix Try.func11 (by kernel_rfl) (fun N => OkAll.nil) p_kem_Decaps_eq hg
noncomputable def p_kem_PkeDecrypt_E : AE := AE.ofA [(22, ty22), (24, ty24), (25, ty25)] [(27, Z_kem_decrypt)] [] [(23, cat_kem_caught)] [] [] [] [] [] [] [] []
noncomputable def p_kem_PkeDecrypt_H : Hints := [(2000000, [0, 1, 4, 5]), (3000000, [4, 5]), (5000000, [4, 5])]
noncomputable def p_kem_PkeDecrypt_c : Code := (Try.f12).body.getD .skip
abbrev p_kem_PkeDecrypt_ks : List Kd := [.sl b8, .sl b8]
abbrev p_kem_PkeDecrypt_rs : List Kd := [.xs b8 32, .int .i64]
noncomputable def p_kem_PkeDecrypt (N : Nat) (x : List Int × List Int × Unit) : Option (List Int × Int) :=
  if ((((List.length x.1) : Nat) : Int) ≠ (1152:Int)) then
    some ((List.replicate 32 0), (List.getD (List.set [0] 0 (141:Int)) 0 0))
  else
    if ((((List.length x.2.1) : Nat) : Int) ≠ (1088:Int)) then
      some ((List.replicate 32 0), (List.getD (List.set [0] 0 (142:Int)) 0 0))
    else
      (g_kem_decrypt (x.1, x.2.1, ())).bind fun r1 => (
      some (r1, (List.getD (List.set [0] 0 (0:Int)) 0 0)))
theorem p_kem_PkeDecrypt_eq (N : Nat) (x : Ds [.sl b8, .sl b8]) : funL p_kem_PkeDecrypt_E p_kem_PkeDecrypt_H (LT.nil) N Try.f12 p_kem_PkeDecrypt_c [.sl b8, .sl b8] [.xs b8 32, .int .i64] x = p_kem_PkeDecrypt N x := by kernel_rfl
theorem p_kem_PkeDecrypt_Eok (e0 : SigOk Try.prog 27 Z_kem_decrypt) : p_kem_PkeDecrypt_E.Ok Try.prog := AE.ofA_ok (all_cons ty22_ok (all_cons ty24_ok (all_cons ty25_ok all_nil))) (all_cons ⟨e0, enters_kem_decrypt⟩ all_nil) all_nil (all_cons ⟨cat_kem_caught_ok, enters_kem_caught⟩ all_nil) all_nil all_nil all_nil all_nil all_nil all_nil
theorem p_kem_PkeDecrypt_ok (e0 : SigOk Try.prog 27 Z_kem_decrypt) {g : Ds [.sl b8, .sl b8] → Option (Rs [.xs b8 32, .int .i64])} (hg : ∀ x r, g x = some r → ∃ N, p_kem_PkeDecrypt N x = some r) : SigOk Try.prog 12 ⟨[.sl b8, .sl b8], [.xs b8 32, .int .i64], g⟩ :=
  fun_of (E := p_kem_PkeDecrypt_E) (H := p_kem_PkeDecrypt_H) (L := fun N => LT.nil) (c := p_kem_PkeDecrypt_c) (ks := p_kem_PkeDecrypt_ks) (rs := p_kem_PkeDecrypt_rs) (F := p_kem_PkeDecrypt) (p_kem_PkeDecrypt_Eok e0) mix Try.func12 (by kernel_rfl) (fun N => OkAll.nil) p_kem_PkeDecrypt_eq hg
end Go.Ax.TryP
set_option linter.unusedVariables false
namespace Go.Ax.TryP
open Go.Proofs
noncomputable abbrev Z_kem_KeyGen : Sig := ⟨[.xs b8 32, .xs b8 32], [.sl b8, .sl b8, .int .i64], g_kem_KeyGen⟩
noncomputable abbrev Z_kem_Decaps : Sig := ⟨[.sl b8, .sl b8], [.xs b8 32, .int .i64], g_kem_Decaps⟩
noncomputable def p_law14_live_E : AE := AE.of [(5, ty5), (22, ty22), (24, ty24)] [(6, Z_kem_KeyGen), (11, Z_kem_Decaps), (8, Z_kem_CheckEk)]
noncomputable def p_law14_live_H : Hints := [(3000000, [0])]
noncomputable def p_law14_live_c : Code := (Try.f7).body.getD .skip
abbrev p_law14_live_ks : List Kd := []
abbrev p_law14_live_rs : List Kd := [.bool]
noncomputable def p_law14_live (N : Nat) (x : Unit) : Option (Bool) :=
  (g_kem_KeyGen ((List.replicate 32 0), (List.replicate 32 0), ())).bind fun r1 => (
  if 0 ≤ (2400:Int) then (
  if (2400:Int) = (2400:Int) then (
  if (2400:Int) * 1 ≤ 281474976710656 then (
  if 0 ≤ (1088:Int) then (
  if (1088:Int) = (1088:Int) then (
  if (1088:Int) * 1 ≤ 281474976710656 then (
  (g_kem_Decaps ((List.replicate 2400 0), (List.replicate 1088 0), ())).bind fun r2 => (
  if (r1.2.2 = (0:Int)) then
    if ((((List.length r1.1) : Nat) : Int) = (1184:Int)) then
      if ((((List.length r1.2.1) : Nat) : Int) = (2400:Int)) then
        if (r2.2 = (141:Int)) then
          (g_kem_CheckEk (r1.1, ())).bind fun r3 => (
          some (decide (r3 = (0:Int))))
        else
          some false
      else
        some false
    else
      some false
  else
    some false)) else none) else none) else none) else none) else none) else none)
theorem p_law14_live_eq (N : Nat) (x : Ds []) : funL p_law14_live_E p_law14_live_H (LT.nil) N Try.f7 p_law14_live_c [] [.bool] x = p_law14_live N x := by kernel_rfl
theorem p_law14_live_Eok (e0 : SigOk Try.prog 6 Z_kem_KeyGen) (e1 : SigOk Try.prog 11 Z_kem_Decaps) (e2 : SigOk Try.prog 8 Z_kem_CheckEk) : p_law14_live_E.Ok Try.prog := AE.of_ok (all_cons ty5_ok (all_cons ty22_ok (all_cons ty24_ok all_nil))) (all_cons ⟨e0, enters_kem_KeyGen⟩ (all_cons ⟨e1, enters_kem_Decaps⟩ (all_cons ⟨e2, enters_kem_CheckEk⟩ all_nil)))
theorem p_law14_live_ok (e0 : SigOk Try.prog 6 Z_kem_KeyGen) (e1 : SigOk Try.prog 11 Z_kem_Decaps) (e2 : SigOk Try.prog 8 Z_kem_CheckEk) {g : Ds [] → Option (Rs [.bool])} (hg : ∀ x r, g x = some r → ∃ N, p_law14_live N x = some r) : SigOk Try.prog 7 ⟨[], [.bool], g⟩ :=
  fun_of (E := p_law14_live_E) (H := p_law14_live_H) (L := fun N => LT.nil) (c := p_law14_live_c) (ks := p_law14_live_ks) (rs := p_law14_live_rs) (F := p_law14_live) (p_law14_live_Eok e0 e1 e2) mix Try.func7 (by kernel_rfl) (fun N => OkAll.nil) p_law14_live_eq hg
noncomputable def p_law14_few_E : AE := AE.of [(24, ty24), (58, ty58)] []
noncomputable def p_law14_few_H : Hints := [(2, [5, 6, 7]), (2000000, []), (2000001, [5, 6, 7]), (3000000, [2])]
noncomputable def p_law14_few_c : Code := (Try.f13).body.getD .skip
noncomputable def p_law14_few_l2_S : Shape where
  h := { tmps := [V, V, V, V, V, .sc (.frs b8), .sc (.int .i64), .sc (.int .i64), V, V, V, V, V, V, V], mem := [] }
  ks := [.xss, .int, .int]
  st := fun x => { tmps := [U, U, U, U, U, .one (.sc (.fr (.xss b8 x.1))), .one (.sc (.int .i64 x.2.1)), .one (.sc (.int .i64 x.2.2.1)), U, U, U, U, U, U, U], mem := [] }
noncomputable def p_law14_few_l2_F (N : Nat) (β : Type) (x : (List (List Int) × Int × Int × Unit)) (kn : (List (List Int) × Int × Int × Unit) → Option β) (ke : ((Bool × Unit) ⊕ (Unit)) → Option β) : Option β :=
  if (x.2.2.1 < x.2.1) then
    if 0 ≤ x.2.2.1 then (
    if x.2.2.1 < ((List.length x.1 : Nat) : Int) then (
    if (((List.length (List.getD x.1 (x.2.2.1.toNat) []) : Nat) : Int) > (5000:Int)) then
      ke (.inl (false, ()))
    else
      kn (x.1, x.2.1, (IntKind.i64.wrap (x.2.2.1 + (1:Int))), ())) else none) else none
  else
    ke (.inr (()))
noncomputable def p_law14_few_l2_go : Go' ((Bool × Unit) ⊕ (Unit)) := fun y K => match y with
  | .inl y => K .ret { tmps := [U, U, .one (.sc (.known y.1)), U, U, U, U, U, U, U, U, U, U, U, U], mem := [] }
  | .inr y => K (.exit 0) { tmps := [U, U, U, U, U, U, U, U, U, U, U, U, U, U, U], mem := [] }
noncomputable def p_law14_few_l2_L (N : Nat) : LT := upd (LT.nil) 2 (loopE p_law14_few_l2_S N (p_law14_few_l2_F N) p_law14_few_l2_go)
theorem p_law14_few_l2_ok (N : Nat) : OkAll p_law14_few_E p_law14_few_H N (p_law14_few_l2_L N) (subs p_law14_few_c) :=
  addLoop (c := theLoop 2 p_law14_few_c) (OkAll.nil) (by kernel_rfl) (fun x => by kernel_rfl) (fun β x kn ke => by kernel_rfl)
abbrev p_law14_few_ks : List Kd := [.sls b8]
abbrev p_law14_few_rs : List Kd := [.bool]
noncomputable def p_law14_few (N : Nat) (x : List (List Int) × Unit) : Option (Bool) :=
  iter (p_law14_few_l2_F N) N (x.1, ((List.length x.1 : Nat) : Int), (0:Int), ()) fun y => (match y with
  | .inl y1 => (
    some y1.1)
  | .inr y2 => (
    some true))
theorem p_law14_few_eq (N : Nat) (x : Ds [.sls b8]) : funL p_law14_few_E p_law14_few_H (p_law14_few_l2_L N) N Try.f13 p_law14_few_c [.sls b8] [.bool] x = p_law14_few N x := by kernel_rfl
theorem p_law14_few_Eok : p_law14_few_E.Ok Try.prog := AE.of_ok (all_cons ty24_ok (all_cons ty58_ok all_nil)) all_nil
theorem p_law14_few_ok {g : Ds [.sls b8] → Option (Rs [.bool])} (hg : ∀ x r, g x = some r → ∃ N, p_law14_few N x = some r) : SigOk Try.prog 13 ⟨[.sls b8], [.bool], g⟩ :=
  fun_of (E := p_law14_few_E) (H := p_law14_few_H) (L := fun N => p_law14_few_l2_L N) (c := p_law14_few_c) (ks := p_law14_few_ks) (rs := p_law14_few_rs) (F := p_law14_few) (p_law14_few_Eok) mix Try.func13 (by kernel_rfl) (fun N => p_law14_few_l2_ok N) p_law14_few_eq hg
noncomputable def p_law14_zero_E : AE := AE.of [(5, ty5), (22, ty22), (24, ty24)] []
noncomputable def p_law14_zero_H : Hints := [(3000000, [2])]
noncomputable def p_law14_zero_c : Code := (Try.f15).body.getD .skip
abbrev p_law14_zero_ks : List Kd := [.sl b8]
abbrev p_law14_zero_rs : List Kd := [.xs b8 32]
noncomputable def p_law14_zero (N : Nat) (x : List Int × Unit) : Option (List Int) :=
  some (List.take 0 (List.replicate 32 0) ++ List.take (min (List.length x.1) 32) x.1 ++ List.drop (0 + (min (List.length x.1) 32)) (List.replicate 32 0))
theorem p_law14_zero_eq (N : Nat) (x : Ds [.sl b8]) : funL p_law14_zero_E p_law14_zero_H (LT.nil) N Try.f15 p_law14_zero_c [.sl b8] [.xs b8 32] x = p_law14_zero N x := by kernel_rfl
theorem p_law14_zero_Eok : p_law14_zero_E.Ok Try.prog := AE.of_ok (all_cons ty5_ok (all_cons ty22_ok (all_cons ty24_ok all_nil))) all_nil
theorem p_law14_zero_ok {g : Ds [.sl b8] → Option (Rs [.xs b8 32])} (hg : ∀ x r, g x = some r → ∃ N, p_law14_zero N x = some r) : SigOk Try.prog 15 ⟨[.sl b8], [.xs b8 32], g⟩ :=
  fun_of (E := p_law14_zero_E) (H := p_law14_zero_H) (L := fun N => LT.nil) (c := p_law14_zero_c) (ks := p_law14_zero_ks) (rs := p_law14_zero_rs) (F := p_law14_zero) (p_law14_zero_Eok) mix Try.func15 (by kernel_rfl) (fun N => OkAll.nil) p_law14_zero_eq hg
noncomputable abbrev Z_law14_live : Sig := ⟨[], [.bool], g_law14_live⟩
noncomputable abbrev Z_law14_few : Sig := ⟨[.sls b8], [.bool], g_law14_few⟩
noncomputable abbrev Z_kem_PkeDecrypt : Sig := ⟨[.sl b8, .sl b8], [.xs b8 32, .int .i64], g_kem_PkeDecrypt⟩
noncomputable abbrev Z_kem_Encaps : Sig := ⟨[.sl b8, .xs b8 32], [.xs b8 32, .sl b8, .int .i64], g_kem_Encaps⟩
noncomputable abbrev Z_ref01_Equal : Sig := ⟨[.sl b8, .sl b8], [.bool], g_ref01_Equal⟩
noncomputable abbrev Z_ref03_Shake : Sig := ⟨[.int .i64, .int .i64, .sl b8], [.sl b8], g_ref03_Shake⟩
noncomputable abbrev Z_law14_zero : Sig := ⟨[.sl b8], [.xs b8 32], g_law14_zero⟩
noncomputable def p_law14_KemRejects_E : AE := AE.of [(5, ty5), (22, ty22), (24, ty24), (58, ty58)] [(6, Z_kem_KeyGen), (7, Z_law14_live), (13, Z_law14_few), (11, Z_kem_Decaps), (12, Z_kem_PkeDecrypt), (10, Z_kem_Encaps), (14, Z_ref01_Equal), (17, Z_ref01_Join), (16, Z_ref03_Shake), (15, Z_law14_zero)]
noncomputable def p_law14_KemRejects_H : Hints := [(3000000, [6])]
noncomputable def p_law14_KemRejects_c : Code := (Try.f5).body.getD .skip
abbrev p_law14_KemRejects_ks : List Kd := [.xs b8 32, .xs b8 32, .sl b8]
abbrev p_law14_KemRejects_rs : List Kd := [.bool]
noncomputable def p_law14_KemRejects (N : Nat) (x : List Int × List Int × List Int × Unit) : Option (Bool) :=
  (g_kem_KeyGen (x.1, x.2.1, ())).bind fun r1 => (
  (g_law14_live (())).bind fun r2 => (
  if (¬ (r2 = true)) then
    (g_law14_live (())).bind fun r3 => (
    some (decide (r3 = true)))
  else
    if (r1.2.2 ≠ (0:Int)) then
      (g_law14_live (())).bind fun r4 => (
      some (decide (r4 = true)))
    else
      (g_law14_few ([x.2.2.1], ())).bind fun r5 => (
      if (¬ (r5 = true)) then
        (g_law14_live (())).bind fun r6 => (
        some (decide (r6 = true)))
      else
        (g_kem_Decaps (r1.2.1, x.2.2.1, ())).bind fun r7 => (
        if ((((List.length x.2.2.1) : Nat) : Int) ≠ (1088:Int)) then
          if (r7.2 = (142:Int)) then
            some (decide (r7.1 = (List.replicate 32 0)))
          else
            some false
        else
          if (r7.2 ≠ (0:Int)) then
            some false
          else
            if ((((List.length r1.2.1) : Nat) : Int) ≠ (2400:Int)) then
              some false
            else
              if 1152 ≤ (List.length r1.2.1) then (
              (g_kem_PkeDecrypt ((List.take 1152 (List.drop 0 r1.2.1)), x.2.2.1, ())).bind fun r8 => (
              if 2336 ≤ (List.length r1.2.1) then (
              if 1152 ≤ 2336 then (
              (g_kem_Encaps ((List.take 1184 (List.drop 1152 r1.2.1)), r8.1, ())).bind fun r9 => (
              if (r8.2 ≠ (0:Int)) then
                some false
              else
                if (r9.2.2 ≠ (0:Int)) then
                  some false
                else
                  (g_ref01_Equal (r9.2.1, x.2.2.1, ())).bind fun r10 => (
                  if (r10 = true) then
                    some (decide (r7.1 = r9.1))
                  else
                    (g_ref01_Join ([(List.take 32 (List.drop 0 x.2.1)), x.2.2.1], ())).bind fun r11 => (
                    (g_ref03_Shake ((256:Int), (32:Int), r11, ())).bind fun r12 => (
                    (g_law14_zero (r12, ())).bind fun r13 => (
                    some (decide (r7.1 = r13)))))))) else none) else none)) else none))))
theorem p_law14_KemRejects_eq (N : Nat) (x : Ds [.xs b8 32, .xs b8 32, .sl b8]) : funL p_law14_KemRejects_E p_law14_KemRejects_H (LT.nil) N Try.f5 p_law14_KemRejects_c [.xs b8 32, .xs b8 32, .sl b8] [.bool] x = p_law14_KemRejects N x := by kernel_rfl
theorem p_law14_KemRejects_Eok (e0 : SigOk Try.prog 6 Z_kem_KeyGen) (e1 : SigOk Try.prog 7 Z_law14_live) (e2 : SigOk Try.prog 13 Z_law14_few) (e3 : SigOk Try.prog 11 Z_kem_Decaps) (e4 : SigOk Try.prog 12 Z_kem_PkeDecrypt) (e5 : SigOk Try.prog 10 Z_kem_Encaps) (e6 : SigOk Try.prog 14 Z_ref01_Equal) (e7 : SigOk Try.prog 17 Z_ref01_Join) (e8 : SigOk Try.prog 16 Z_ref03_Shake) (e9 : SigOk Try.prog 15 Z_law14_zero) : p_law14_KemRejects_E.Ok Try.prog := AE.of_ok (all_cons ty5_ok (all_cons ty22_ok (all_cons ty24_ok (all_cons ty58_ok all_nil)))) (all_cons ⟨e0, enters_kem_KeyGen⟩ (all_cons ⟨e1, enters_law14_live⟩ (all_cons ⟨e2, enters_law14_few⟩ (all_cons ⟨e3, enters_kem_Decaps⟩ (all_cons ⟨e4, enters_kem_PkeDecrypt⟩ (all_cons ⟨e5, enters_kem_Encaps⟩ (all_cons ⟨e6, enters_ref01_Equal⟩ (all_cons ⟨e7, enters_ref01_Join⟩ (all_cons ⟨e8, enters_ref03_Shake⟩ (all_cons ⟨e9, enters_law14_zero⟩ all_nil))))))))))
theorem p_law14_KemRejects_ok (e0 : SigOk Try.prog 6 Z_kem_KeyGen) (e1 : SigOk Try.prog 7 Z_law14_live) (e2 : SigOk Try.prog 13 Z_law14_few) (e3 : SigOk Try.prog 11 Z_kem_Decaps) (e4 : SigOk Try.prog 12 Z_kem_PkeDecrypt) (e5 : SigOk Try.prog 10 Z_kem_Encaps) (e6 : SigOk Try.prog 14 Z_ref01_Equal) (e7 : SigOk Try.prog 17 Z_ref01_Join) (e8 : SigOk Try.prog 16 Z_ref03_Shake) (e9 : SigOk Try.prog 15 Z_law14_zero) {g : Ds [.xs b8 32, .xs b8 32, .sl b8] → Option (Rs [.bool])} (hg : ∀ x r, g x = some r → ∃ N, p_law14_KemRejects N x = some r) : SigOk Try.prog 5 ⟨[.xs b8 32, .xs b8 32, .sl b8], [.bool], g⟩ :=
  fun_of (E := p_law14_KemRejects_E) (H := p_law14_KemRejects_H) (L := fun N => LT.nil) (c := p_law14_KemRejects_c) (ks := p_law14_KemRejects_ks) (rs := p_law14_KemRejects_rs) (F := p_law14_KemRejects) (p_law14_KemRejects_Eok e0 e1 e2 e3 e4 e5 e6 e7 e8 e9) mix Try.func5 (by kernel_rfl) (fun N => OkAll.nil) p_law14_KemRejects_eq hg
end Go.Ax.TryP
set_option linter.unusedVariables false
namespace Go.Ax.TryP
open Go.Proofs
def bytes (zs : List Int) : Prop := ∀ z ∈ zs, 0 ≤ z ∧ z ≤ 255
def rowsOk (l : List (List Int)) : Prop := l.length ≤ maxLen ∧ ∀ zs ∈ l, zs.length ≤ maxLen ∧ bytes zs
theorem wf_rows {l : List (List Int)} : Kd.wf (.sls (.int .u8)) l ↔ rowsOk l := by simp [Kd.wf, rowsOk, bytes, okInt_u8]
theorem wf_c1 {b : List Int} : Kd.wf (.sl (.int .u8)) b ↔ b.length ≤ maxLen ∧ bytes b := by simp only [wf_bytes]; exact Iff.rfl
theorem flat_one {l : List (List Int)} {i : Nat} (hi : i < l.length) : (l.take (i + 1)).flatten = (l.take i).flatten ++ l.getD i [] := by
  rw [List.take_succ_eq_append_getElem hi, List.flatten_append, List.getD_eq_getElem?_getD, List.getElem?_eq_getElem hi]; simp
theorem flat_le (l : List (List Int)) (i : Nat) : (l.take i).flatten.length ≤ l.flatten.length := by
  conv => rhs; rw [← List.take_append_drop i l, List.flatten_append, List.length_append]
  omega
theorem q_octet_Join : ∀ x r, g_octet_Join x = some r → ∃ N, p_octet_Join N x = some r := by
  refine Spec_of (ks := p_octet_Join_ks) (rs := p_octet_Join_rs) fun x hw hq => ?_
  obtain ⟨(l : List (List Int)), u⟩ := x
  obtain ⟨hq1, hq⟩ : l.length ≤ 1000 ∧ l.flatten.length ≤ 1000000 := hq
  refine ⟨l.length + 1, ?_⟩
  unfold p_octet_Join
  dsimp only
  refine (iter_from (F := p_octet_Join_l3_F (l.length + 1)) (s := fun i => (l, ((l.take i).flatten.length : Int), l, (l.length : Int), (i : Int), ())) (y := (l, (l.flatten.length : Int), ())) l.length rfl ?_ ?_ _ (by omega)).trans ?_
  · intro i hi kn
    have h1 := flat_le l (i + 1)
    rw [flat_one hi] at h1 ⊢
    rw [List.length_append] at h1 ⊢
    unfold p_octet_Join_l3_F
    dsimp only
    rw [if_pos (by omega), if_pos (by omega), if_pos (by omega), Int.toNat_natCast, wrap_i64 (by omega) (by omega), wrap_i64 (by omega) (by omega), Int.natCast_add]
    rfl
  · intro kn
    unfold p_octet_Join_l3_F
    dsimp only
    rw [if_neg (by omega), List.take_length]
  dsimp only
  rw [if_pos (by omega), if_pos (by omega), if_pos (by omega)]
  refine (iter_from (F := p_octet_Join_l9_F (l.length + 1)) (s := fun i => ((l.take i).flatten.length, l, (l.length : Int), (i : Int), (l.take i).flatten.length, (l.take i).flatten, ()))
    (y := (l.flatten.length, l.flatten.length, l.flatten, ())) l.length rfl ?_ ?_ _ (by omega)).trans ?_
  · intro i hi kn
    have h1 := flat_le l (i + 1)
    rw [flat_one hi] at h1 ⊢
    rw [List.length_append] at h1 ⊢
    unfold p_octet_Join_l9_F
    dsimp only
    rw [if_pos (by omega), if_pos (by omega), if_pos (by omega), Int.toNat_natCast, if_pos (by omega), wrap_i64 (by omega) (by omega)]
    rfl
  · intro kn
    unfold p_octet_Join_l9_F
    dsimp only
    rw [if_neg (by omega), List.take_length]
  · rfl
theorem at_Join {l : List (List Int)} (h : l.length ≤ 1000 ∧ l.flatten.length ≤ 1000000) (hr : rowsOk l) : g_octet_Join (l, ()) = some l.flatten :=
  Spec_at (ks := p_octet_Join_ks) (rs := p_octet_Join_rs) (x := (l, ())) ⟨wf_rows.2 hr, trivial⟩ h
theorem xor_zero {a b : Int} (ha : 0 ≤ a ∧ a ≤ 255) (hb : 0 ≤ b ∧ b ≤ 255) {x : Int} (hx : 0 ≤ x ∧ x ≤ 255) :
    (0 ≤ ior .u8 x (ixor .u8 a b) ∧ ior .u8 x (ixor .u8 a b) ≤ 255) ∧ (ior .u8 x (ixor .u8 a b) = 0 ↔ x = 0 ∧ a = b) := by
  obtain ⟨a, rfl⟩ : ∃ m : Nat, a = m := ⟨a.toNat, by omega⟩
  obtain ⟨b, rfl⟩ : ∃ m : Nat, b = m := ⟨b.toNat, by omega⟩
  obtain ⟨x, rfl⟩ : ∃ m : Nat, x = m := ⟨x.toNat, by omega⟩
  have ha' : a < 2 ^ 8 := by omega
  have hb' : b < 2 ^ 8 := by omega
  have hx' : x < 2 ^ 8 := by omega
  have h1 : a ^^^ b < 2 ^ 8 := Nat.xor_lt_two_pow ha' hb'
  have h2 : x ||| (a ^^^ b) < 2 ^ 8 := Nat.or_lt_two_pow hx' h1
  rw [ixor_nat (k := .u8) rfl ha' hb', ior_nat (k := .u8) rfl hx' h1]
  refine ⟨by omega, ?_⟩
  constructor
  · intro h
    have h : x ||| (a ^^^ b) = 0 := by omega
    have hz : ∀ i, (x ||| (a ^^^ b)).testBit i = false := fun i => by rw [h]; exact Nat.zero_testBit i
    have hx0 : x = 0 := Nat.eq_of_testBit_eq fun i => by
      have := hz i
      rw [Nat.testBit_or, Bool.or_eq_false_iff] at this
      rw [this.1]; simp
    have hab : a = b := Nat.eq_of_testBit_eq fun i => by
      have := hz i
      rw [Nat.testBit_or, Bool.or_eq_false_iff, Nat.testBit_xor] at this
      have := this.2
      cases h1 : a.testBit i <;> cases h2 : b.testBit i <;> simp_all
    rw [hx0, hab]; simp
  · rintro ⟨k1, k2⟩
    have k1 : x = 0 := by omega
    have k2 : a = b := by omega
    rw [k1, k2]
    simp
def sameX (a b : List Int) : Nat → Int
  | 0 => 0
  | i + 1 => ior .u8 (sameX a b i) (ixor .u8 (a.getD i 0) (b.getD i 0))
theorem byte_atc {a : List Int} (h : bytes a) (i : Nat) : 0 ≤ a.getD i 0 ∧ a.getD i 0 ≤ 255 := by
  rw [List.getD_eq_getElem?_getD]
  cases e : a[i]? with
  | none => simp
  | some z => exact h z (List.mem_of_getElem? e)
theorem sameX_spec {a b : List Int} (ha : bytes a) (hb : bytes b) (hl : a.length = b.length) : ∀ i, i ≤ a.length → (0 ≤ sameX a b i ∧ sameX a b i ≤ 255) ∧ (sameX a b i = 0 ↔ a.take i = b.take i)
  | 0, _ => by simp [sameX]
  | i + 1, hi => by
    obtain ⟨h1, h2⟩ := sameX_spec ha hb hl i (by omega)
    obtain ⟨g1, g2⟩ := xor_zero (byte_atc ha i) (byte_atc hb i) h1
    refine ⟨g1, g2.trans ?_⟩
    rw [h2, List.take_succ_eq_append_getElem (show i < a.length by omega), List.take_succ_eq_append_getElem (show i < b.length by omega)]
    have e : List.take i a ++ [a[i]] = List.take i b ++ [b[i]] ↔ List.take i a = List.take i b ∧ a[i] = b[i] :=
      ⟨fun h => by obtain ⟨p, q⟩ := List.append_inj h (by simp; omega); exact ⟨p, by simpa using q⟩, fun h => by rw [h.1, h.2]⟩
    rw [e]
    simp [List.getD_eq_getElem?_getD, List.getElem?_eq_getElem (show i < a.length by omega), List.getElem?_eq_getElem (show i < b.length by omega)]
theorem q_octet_Same : ∀ x r, g_octet_Same x = some r → ∃ N, p_octet_Same N x = some r := by
  refine Spec_of (ks := p_octet_Same_ks) (rs := p_octet_Same_rs) fun x hw hq => ?_
  obtain ⟨(a : List Int), (b : List Int), u⟩ := x
  obtain ⟨ha1, ha2⟩ : a.length ≤ maxLen ∧ bytes a := wf_c1.1 hw.1
  obtain ⟨hb1, hb2⟩ : b.length ≤ maxLen ∧ bytes b := wf_c1.1 hw.2.1
  have hM : maxLen = 9223372036854775807 := by decide
  refine ⟨a.length + 1, ?_⟩
  unfold p_octet_Same
  dsimp only
  by_cases hl : a.length = b.length
  · rw [if_neg (by omega)]
    refine (iter_from (F := p_octet_Same_l5_F (a.length + 1)) (s := fun i => (a.length, b.length, sameX a b i, (a.length : Int), (i : Int), a.length, a, b.length, b, ())) (y := (sameX a b a.length, ())) a.length rfl ?_ ?_ (a.length + 1) (by omega)).trans ?_
    · intro i hi kn
      unfold p_octet_Same_l5_F
      dsimp only
      rw [if_pos (by omega), if_pos (by omega), if_pos (by omega), Int.toNat_natCast, if_pos (by omega), if_pos (by omega), if_pos (by omega), if_pos (by omega), wrap_i64 (by omega) (by omega)]
      rfl
    · intro kn
      unfold p_octet_Same_l5_F
      dsimp only
      rw [if_neg (by omega)]
    · dsimp only
      refine congrArg some (decide_eq_decide.2 ?_)
      rw [(sameX_spec ha2 hb2 hl a.length (Nat.le_refl _)).2, List.take_length, hl, List.take_length]
  · rw [if_pos (by omega)]
    exact congrArg some (decide_eq_false (fun h => hl (by rw [show a = b from h]))).symm
theorem at_Same {a b : List Int} (ha : a.length ≤ maxLen ∧ bytes a) (hb : b.length ≤ maxLen ∧ bytes b) : g_octet_Same (a, b, ()) = some (decide (a = b)) :=
  Spec_at (ks := p_octet_Same_ks) (rs := p_octet_Same_rs) (x := (a, b, ())) ⟨wf_c1.2 ha, wf_c1.2 hb, trivial⟩ trivial
end Go.Ax.TryP
set_option linter.unusedVariables false
namespace Go.Ax.TryP
open Go.Proofs
theorem take0 (n : Nat) : List.take n (List.drop 0 (List.replicate n (0 : Int))) = List.replicate n 0 := by simp
theorem rep_b (n : Nat) (h : n ≤ 1000000) : (List.replicate n (0 : Int)).length ≤ maxLen ∧ ∀ z ∈ List.replicate n (0 : Int), 0 ≤ z ∧ z ≤ 255 := by
  have hM : 1000000 ≤ maxLen := by decide
  exact ⟨by simp; omega, fun z hz => by rw [List.eq_of_mem_replicate hz]; omega⟩
theorem sha_eq (rate : Nat) (e : Int) (l : List Int) (n : Nat) : (List.range (List.replicate n (0 : Int)).length).map (fun k => outB rate (absorb rate e (z25, 0) l) (0 + k)) = spongeS rate e l n := by
  rw [List.length_replicate]
  unfold spongeS
  simp only [Nat.zero_add]
theorem q_keccak_Sha3256 : ∀ x r, g_keccak_Sha3256 x = some r → ∃ N, p_keccak_Sha3256 N x = some r := by
  refine Spec_of (ks := p_keccak_Sha3256_ks) (rs := p_keccak_Sha3256_rs) fun x hw hq => ⟨0, ?_⟩
  obtain ⟨(parts : List (List Int)), u⟩ := x
  have hp : partsOk parts := wf_parts.1 hw.1
  have e := at_takes (rate := 136) (e := 6) (p := 0) z25_u (by omega) (by omega) (by omega) hp
  have g := at_gives (out := List.replicate 32 0) (rate := 136) (p := 0) (absorb_uu 136 (by omega) 6 parts.flatten) (by omega) (by omega) (rep_b 32 (by omega))
  rw [sha_eq] at g
  unfold p_keccak_Sha3256
  rw [take0]
  refine (congrArg (fun o => Option.bind o _) e).trans ?_
  rw [Option.bind_some]
  refine (congrArg (fun o => Option.bind o _) g).trans ?_
  rw [Option.bind_some, if_pos (spS_len _ _ _ _)]
  rfl
theorem q_keccak_Sha3512 : ∀ x r, g_keccak_Sha3512 x = some r → ∃ N, p_keccak_Sha3512 N x = some r := by
  refine Spec_of (ks := p_keccak_Sha3512_ks) (rs := p_keccak_Sha3512_rs) fun x hw hq => ⟨0, ?_⟩
  obtain ⟨(parts : List (List Int)), u⟩ := x
  have hp : partsOk parts := wf_parts.1 hw.1
  have e := at_takes (rate := 72) (e := 6) (p := 0) z25_u (by omega) (by omega) (by omega) hp
  have g := at_gives (out := List.replicate 64 0) (rate := 72) (p := 0) (absorb_uu 72 (by omega) 6 parts.flatten) (by omega) (by omega) (rep_b 64 (by omega))
  rw [sha_eq] at g
  unfold p_keccak_Sha3512
  rw [take0]
  refine (congrArg (fun o => Option.bind o _) e).trans ?_
  rw [Option.bind_some]
  refine (congrArg (fun o => Option.bind o _) g).trans ?_
  rw [Option.bind_some, if_pos (spS_len _ _ _ _)]
  rfl
theorem at_Sha256 {parts : List (List Int)} (hl : partsOk parts) : g_keccak_Sha3256 (parts, ()) = some (sh256 parts.flatten) :=
  Spec_at (ks := p_keccak_Sha3256_ks) (rs := p_keccak_Sha3256_rs) (x := (parts, ())) ⟨wf_parts.2 hl, trivial⟩ trivial
theorem at_Sha512 {parts : List (List Int)} (hl : partsOk parts) : g_keccak_Sha3512 (parts, ()) = some (sh512 parts.flatten) :=
  Spec_at (ks := p_keccak_Sha3512_ks) (rs := p_keccak_Sha3512_rs) (x := (parts, ())) ⟨wf_parts.2 hl, trivial⟩ trivial
theorem sp_u8 (rate : Nat) (e : Int) (l : List Int) (n : Nat) : u8s n (spongeS rate e l n) := ⟨spS_len _ _ _ _, fun z hz => by
  obtain ⟨i, _, rfl⟩ := List.mem_map.1 hz
  exact outB_b _ _ _⟩
theorem sh256_u (l : List Int) : u8s 32 (sh256 l) := sp_u8 _ _ _ _
theorem sh512_u (l : List Int) : u8s 64 (sh512 l) := sp_u8 _ _ _ _
theorem lo32_u {l : List Int} (h : u8s 64 l) : u8s 32 (lo32 l) := ⟨by unfold lo32; rw [List.length_take, h.1]; omega, fun z hz => h.2 z (List.mem_of_mem_take hz)⟩
theorem hi32_u {l : List Int} (h : u8s 64 l) : u8s 32 (hi32 l) := ⟨by unfold hi32; rw [List.length_take, List.length_drop, h.1]; omega, fun z hz => h.2 z (List.mem_of_mem_drop (List.mem_of_mem_take hz))⟩
theorem q_kem_split : ∀ x r, g_kem_split x = some r → ∃ N, p_kem_split N x = some r := by
  refine Spec_of (ks := p_kem_split_ks) (rs := p_kem_split_rs) fun x hw hq => ⟨0, ?_⟩
  obtain ⟨(a : List Int), u⟩ := x
  rfl
theorem at_split {a : List Int} (h : u8s 64 a) : g_kem_split (a, ()) = some (lo32 a, hi32 a) :=
  Spec_at (ks := p_kem_split_ks) (rs := p_kem_split_rs) (x := (a, ())) ⟨wf_u8s.2 h, trivial⟩ trivial
theorem and_all {x : Int} (h : 0 ≤ x ∧ x ≤ 255) : iand .u8 x 255 = x ∧ iandNot .u8 x 255 = 0 ∧ iand .u8 x 0 = 0 ∧ iandNot .u8 x 0 = x := by
  obtain ⟨n, rfl⟩ := Int.eq_ofNat_of_zero_le h.1
  have hn : n < 256 := by omega
  have key : ∀ n : Nat, n < 256 → iand .u8 (n : Int) 255 = n ∧ iandNot .u8 (n : Int) 255 = 0 ∧ iand .u8 (n : Int) 0 = 0 ∧ iandNot .u8 (n : Int) 0 = n := by decide +kernel
  exact key n hn
theorem or_nil {x : Int} (h : 0 ≤ x ∧ x ≤ 255) : ior .u8 x 0 = x ∧ ior .u8 0 x = x := by
  obtain ⟨n, rfl⟩ := Int.eq_ofNat_of_zero_le h.1
  have hn : n < 256 := by omega
  have key : ∀ n : Nat, n < 256 → ior .u8 (n : Int) 0 = n ∧ ior .u8 0 (n : Int) = n := by decide +kernel
  exact key n hn
theorem choose_loop {a b : List Int} (ha : bytes a) (hb : bytes b) (hl : a.length = b.length) (h1 : a.length ≤ 1000) (f : Bool) {β : Type} (K : Nat × Nat × List Int × Unit → Option β) :
    iter (p_octet_Choose_l8_F 2000) 2000 (a.length, b.length, (if f then 255 else 0), a.length, (a.length : Int), (0 : Int), a.length, a, b.length, b, a.length, List.replicate a.length 0, ()) K = K (a.length, a.length, (if f then a else b), ()) := by
  have hf : (List.range a.length).map (fun i => (if f then a else b).getD i 0) = if f then a else b := map_getD (by cases f <;> simp [hl])
  refine iter_from (s := fun i => (a.length, b.length, (if f then 255 else 0), a.length, (a.length : Int), (i : Int), a.length, a, b.length, b, a.length, part (fun i => (if f then a else b).getD i 0) i (List.replicate a.length 0), ())) (y := (a.length, a.length, (if f then a else b), ())) a.length ?_ ?_ ?_ 2000 (by omega)
  · rw [part_zero]; rfl
  · intro i hi kn
    have hA := byte_atc ha i
    have hB := byte_atc hb i
    unfold p_octet_Choose_l8_F
    dsimp only
    rw [if_pos (by omega), if_pos (by omega), if_pos (by omega), Int.toNat_natCast, if_pos (by omega), if_pos (by omega), if_pos (by omega), if_pos (by omega), if_pos (by omega), if_pos (by omega), if_pos (by omega), wrap_i64 (by omega) (by omega), part_set' (by rw [List.length_replicate]; exact hi) ?_]
    · rfl
    · cases f
      · show ior .u8 (iand .u8 (a.getD i 0) 0) (iandNot .u8 (b.getD i 0) 0) = b.getD i 0
        rw [(and_all hA).2.2.1, (and_all hB).2.2.2, (or_nil hB).2]
      · show ior .u8 (iand .u8 (a.getD i 0) 255) (iandNot .u8 (b.getD i 0) 255) = a.getD i 0
        rw [(and_all hA).1, (and_all hB).2.1, (or_nil hA).1]
  · intro kn
    unfold p_octet_Choose_l8_F
    dsimp only
    rw [if_neg (by omega), part_all List.length_replicate, hf]
theorem q_octet_Choose : ∀ x r, g_octet_Choose x = some r → ∃ N, p_octet_Choose N x = some r := by
  refine Spec_of (ks := p_octet_Choose_ks) (rs := p_octet_Choose_rs) fun x hw hq => ⟨2000, ?_⟩
  obtain ⟨(f : Bool), (a : List Int), (b : List Int), u⟩ := x
  obtain ⟨ha1, ha2⟩ : a.length ≤ maxLen ∧ bytes a := wf_c1.1 hw.2.1
  obtain ⟨hb1, hb2⟩ : b.length ≤ maxLen ∧ bytes b := wf_c1.1 hw.2.2.1
  obtain ⟨hl, h1⟩ : a.length = b.length ∧ a.length ≤ 1000 := hq
  unfold p_octet_Choose
  dsimp only
  rw [if_neg (by omega)]
  rw [Int.toNat_natCast]
  cases f
  · rw [if_neg (by simp), if_pos (by omega), if_pos rfl, if_pos (by omega)]
    exact (choose_loop ha2 hb2 hl h1 false _)
  · rw [if_pos rfl, if_pos (by omega), if_pos rfl, if_pos (by omega)]
    exact (choose_loop ha2 hb2 hl h1 true _)
theorem at_Choose {f : Bool} {a b : List Int} (ha : bytes a) (hb : bytes b) (hl : a.length = b.length) (h1 : a.length ≤ 1000) : g_octet_Choose (f, a, b, ()) = some (if f = true then a else b, 0) := by
  have hM : 1000 ≤ maxLen := by decide
  exact Spec_at (ks := p_octet_Choose_ks) (rs := p_octet_Choose_rs) (x := (f, a, b, ())) ⟨trivial, wf_c1.2 ⟨by show a.length ≤ maxLen; omega, ha⟩, wf_c1.2 ⟨by show b.length ≤ maxLen; omega, hb⟩, trivial⟩ ⟨hl, h1⟩
end Go.Ax.TryP
set_option linter.unusedVariables false
namespace Go.Ax.TryP
open Go.Proofs
theorem u16_app {n m : Nat} {a b : List Int} (ha : u16s n a) (hb : u16s m b) : u16s (n + m) (a ++ b) := ⟨by rw [List.length_append, ha.1, hb.1], fun z hz => by
  rcases List.mem_append.1 hz with h | h
  · exact ha.2 z h
  · exact hb.2 z h⟩
theorem row3_u {f : Nat → List Int} (h : ∀ i, i < 3 → u16s 256 (f i)) : u16s 768 (row3 f) := u16_app (u16_app (h 0 (by omega)) (h 1 (by omega))) (h 2 (by omega))
theorem ch_u {r : List Int} (h : u16s 768 r) {i : Nat} (hi : i < 3) : u16s 256 (ch r i) := ⟨by unfold ch; rw [List.length_take, List.length_drop, h.1]; omega, fun z hz => h.2 z (List.mem_of_mem_drop (List.mem_of_mem_take hz))⟩
theorem row3_congr {f g : Nat → List Int} (h : ∀ i, i < 3 → f i = g i) : row3 f = row3 g := by
  unfold row3; rw [h 0 (by omega), h 1 (by omega), h 2 (by omega)]
theorem ch_row3 {f : Nat → List Int} (h : ∀ i, i < 3 → (f i).length = 256) {i : Nat} (hi : i < 3) : ch (row3 f) i = f i := by
  have h0 := h 0 (by omega)
  have h1 := h 1 (by omega)
  have h2 := h 2 (by omega)
  unfold ch row3
  match i, hi with
  | 0, _ => rw [Nat.zero_mul, List.drop_zero, List.append_assoc, List.take_left' h0]
  | 1, _ => rw [Nat.one_mul, List.append_assoc, List.drop_left' h0, List.take_left' h1]
  | 2, _ => rw [List.drop_left' (by rw [List.length_append, h0, h1])]; exact List.take_of_length_le (by omega)
theorem row_ch {r : List Int} (h : r.length = 768) : row3 (ch r) = r := by
  unfold row3 ch
  rw [Nat.zero_mul, List.drop_zero, Nat.one_mul]
  have e1 : r.take 256 ++ (r.drop 256).take 256 = r.take 512 := by rw [← List.take_add]
  have e2 : (r.drop (2 * 256)).take 256 = r.drop 512 := List.take_of_length_le (by rw [List.length_drop, h]; omega)
  rw [e1, e2, List.take_append_drop]
def setR (r : List Int) (i : Nat) (v : List Int) : List Int := List.take (i * 256) r ++ v ++ List.drop (i * 256 + 256) r
def rr (f : Nat → List Int) (z : List Int) (i : Nat) : List Int := row3 fun j => if j < i then f j else ch z j
theorem rr_zero {f : Nat → List Int} {z : List Int} (h : z.length = 768) : rr f z 0 = z := by
  unfold rr
  simp only [Nat.not_lt_zero, if_false]
  exact row_ch h
theorem rr_all {f : Nat → List Int} {z : List Int} : rr f z 3 = row3 f := row3_congr fun i hi => if_pos hi
theorem set3 {A B C v : List Int} (ha : A.length = 256) (hb : B.length = 256) (hc : C.length = 256) :
    setR (A ++ B ++ C) 0 v = v ++ B ++ C ∧ setR (A ++ B ++ C) 1 v = A ++ v ++ C ∧ setR (A ++ B ++ C) 2 v = A ++ B ++ v := by
  unfold setR
  refine ⟨?_, ?_, ?_⟩
  · rw [Nat.zero_mul, List.take_zero, List.nil_append, Nat.zero_add, List.append_assoc A, List.drop_left' ha, List.append_assoc]
  · rw [Nat.one_mul, List.append_assoc A, List.take_left' ha, ← List.append_assoc A, List.drop_left' (by rw [List.length_append, ha, hb])]
  · rw [List.take_left' (by rw [List.length_append, ha, hb]), List.drop_of_length_le (by simp only [List.length_append]; omega), List.append_nil]
theorem rr_set {f : Nat → List Int} {z : List Int} (hz : z.length = 768) (hf : ∀ i, i < 3 → (f i).length = 256) {i : Nat} (hi : i < 3) : setR (rr f z i) i (f i) = rr f z (i + 1) := by
  have c : ∀ j, j < 3 → (ch z j).length = 256 := fun j hj => by unfold ch; rw [List.length_take, List.length_drop, hz]; omega
  have c0 := c 0 (by omega)
  have c1 := c 1 (by omega)
  have c2 := c 2 (by omega)
  have f0 := hf 0 (by omega)
  have f1 := hf 1 (by omega)
  unfold rr row3
  match i, hi with
  | 0, _ => exact (set3 c0 c1 c2).1
  | 1, _ => exact (set3 f0 c1 c2).2.1
  | 2, _ => exact (set3 f0 f1 c2).2.2
theorem ch_rr {f : Nat → List Int} {z : List Int} (hz : z.length = 768) (hf : ∀ i, i < 3 → (f i).length = 256) {i j : Nat} (hj : j < 3) : ch (rr f z i) j = if j < i then f j else ch z j := by
  unfold rr
  exact ch_row3 (f := fun j => if j < i then f j else ch z j) (fun k hk => by
    split
    · exact hf k hk
    · unfold ch; rw [List.length_take, List.length_drop, hz]; omega) hj
theorem z768 : u16s 768 (List.replicate 768 (0 : Int)) := u16s.zero 768
theorem wf_r1 {r : List Int} : wfAll [.xs (.int .u16) 768] (r, ()) ↔ u16s 768 r := by simp [wfAll, wf_u16s]
theorem q_kem_row_turned : ∀ x r, g_kem_row_turned x = some r → ∃ N, p_kem_row_turned N x = some r := by
  refine Spec_of (ks := p_kem_row_turned_ks) (rs := p_kem_row_turned_rs) fun x hw hq => ⟨10, ?_⟩
  obtain ⟨(r : List Int), u⟩ := x
  have hr : u16s 768 r := wf_r1.1 hw
  have hf : ∀ i, i < 3 → (fNtt (ch r i)).length = 256 := fun i _ => (red_fNtt _).1
  unfold p_kem_row_turned
  refine (iter_from (F := p_kem_row_turned_l2_F 10) (s := fun i => ((i : Int), rr (fun i => fNtt (ch r i)) r i, List.replicate 768 0, ())) (y := (turnS r, List.replicate 768 0, ())) 3 ?_ ?_ ?_ 10 (by omega)).trans rfl
  · rw [rr_zero hr.1]; rfl
  · intro i hi kn
    have e : List.take 256 (List.drop (i * 256) (rr (fun i => fNtt (ch r i)) r i)) = ch r i := by
      show ch _ i = _
      rw [ch_rr hr.1 hf hi, if_neg (by omega)]
    unfold p_kem_row_turned_l2_F
    dsimp only
    rw [if_pos (by omega), if_pos (by omega), if_pos (by omega), Int.toNat_natCast, if_pos (by omega), e, at24 (ch_u hr hi), Option.bind_some, if_pos (by omega), if_pos (by omega), if_pos (by omega), wrap_i64 (by omega) (by omega)]
    exact congrArg kn (by rw [← rr_set hr.1 hf hi]; rfl)
  · intro kn
    unfold p_kem_row_turned_l2_F
    dsimp only
    rw [if_neg (by omega), rr_all]
    rfl
theorem at_turned {r : List Int} (h : u16s 768 r) : g_kem_row_turned (r, ()) = some (turnS r) := Spec_at (ks := p_kem_row_turned_ks) (rs := p_kem_row_turned_rs) (x := (r, ())) (wf_r1.2 h) trivial
theorem turnS_u (r : List Int) : u16s 768 (turnS r) := row3_u fun i _ => red_u16 (red_fNtt _)
def timesN (r s : List Int) : Nat → List Int
  | 0 => zeros
  | i + 1 => fAdd (timesN r s i) (fMulN (ch r i) (ch s i))
theorem timesN_u (r s : List Int) : ∀ i, u16s 256 (timesN r s i)
  | 0 => zeros_u16
  | i + 1 => red_u16 (red_fAdd _ _)
theorem q_kem_row_times : ∀ x r, g_kem_row_times x = some r → ∃ N, p_kem_row_times N x = some r := by
  refine Spec_of (ks := p_kem_row_times_ks) (rs := p_kem_row_times_rs) fun x hw hq => ⟨10, ?_⟩
  obtain ⟨(r : List Int), (s : List Int), u⟩ := x
  have hr : u16s 768 r := wf_u16s.1 hw.1
  have hs : u16s 768 s := wf_u16s.1 hw.2.1
  unfold p_kem_row_times
  refine (iter_from (F := p_kem_row_times_l3_F 10) (s := fun i => ((i : Int), r, s, List.replicate 256 0, timesN r s i, ())) (y := (List.replicate 256 0, timesS r s, ())) 3 rfl ?_ ?_ 10 (by omega)).trans rfl
  · intro i hi kn
    unfold p_kem_row_times_l3_F
    dsimp only
    rw [if_pos (by omega), if_pos (by omega), if_pos (by omega), Int.toNat_natCast, if_pos (by omega), if_pos (by omega), if_pos (by omega), if_pos (by omega)]
    refine (congrArg (fun o => Option.bind o _) (at20 (ch_u hr hi) (ch_u hs hi))).trans ?_
    rw [Option.bind_some, at29 (timesN_u r s i) (red_u16 (red_fMulN _ _)), Option.bind_some, wrap_i64 (by omega) (by omega)]
    rfl
  · intro kn
    unfold p_kem_row_times_l3_F
    dsimp only
    rw [if_neg (by omega)]
    rfl
theorem at_rtimes {r s : List Int} (hr : u16s 768 r) (hs : u16s 768 s) : g_kem_row_times (r, s, ()) = some (timesS r s) := Spec_at (ks := p_kem_row_times_ks) (rs := p_kem_row_times_rs) (x := (r, s, ())) ⟨wf_u16s.2 hr, wf_u16s.2 hs, trivial⟩ trivial
theorem timesS_u (r s : List Int) : u16s 256 (timesS r s) := red_u16 (red_fAdd _ _)
end Go.Ax.TryP
set_option linter.unusedVariables false
namespace Go.Ax.TryP
open Go.Proofs
theorem i64c {d : Int} (h : 0 ≤ d ∧ d ≤ 1000000) : okInt .i64 d := okInt_i64.2 (by omega)
theorem mB {n : Nat} (h : n ≤ 10000000) : n ≤ maxLen := by
  have hM : 10000000 ≤ maxLen := by decide
  omega
theorem at_rEnc {d : Int} {a : List Int} (hd : 0 ≤ d ∧ d ≤ 1000000) (ha : u16s 256 a) : g_ring_Encode (d, a, ()) = some (fEncode d a) := Spec_at (ks := p_ring_Encode_ks) (rs := p_ring_Encode_rs) (x := (d, a, ())) ⟨i64c hd, wf_u16s.2 ha, trivial⟩ trivial
theorem at_rDec {d : Int} {b : List Int} (hd : 0 ≤ d ∧ d ≤ 1000000) (hb : b.length ≤ maxLen ∧ bytes b) : g_ring_Decode (d, b, ()) = some (fDecode d b) := Spec_at (ks := p_ring_Decode_ks) (rs := p_ring_Decode_rs) (x := (d, b, ())) ⟨i64c hd, wf_c1.2 hb, trivial⟩ trivial
theorem at_rCbd {d : Int} {b : List Int} (hd : 0 ≤ d ∧ d ≤ 1000000) (hb : b.length ≤ maxLen ∧ bytes b) : g_ring_Cbd (d, b, ()) = some (fCbd d b) := Spec_at (ks := p_ring_Cbd_ks) (rs := p_ring_Cbd_rs) (x := (d, b, ())) ⟨i64c hd, wf_c1.2 hb, trivial⟩ trivial
theorem at_rCanon {b : List Int} (hb : b.length ≤ maxLen ∧ bytes b) : g_ring_Canon (b, ()) = some (fCanon b) := Spec_at (ks := p_ring_Canon_ks) (rs := p_ring_Canon_rs) (x := (b, ())) ⟨wf_c1.2 hb, trivial⟩ trivial
theorem at_rSample {b : List Int} (hb : b.length ≤ maxLen ∧ bytes b) : g_ring_SampleNtt (b, ()) = some (sampleS b) := Spec_at (ks := p_ring_SampleNtt_ks) (rs := p_ring_SampleNtt_rs) (x := (b, ())) ⟨wf_c1.2 hb, trivial⟩ trivial
theorem fCbd2 {b : List Int} (h : b.length = 128) : fCbd 2 b = (poly (cbd 2 b), 0) := by
  unfold fCbd
  rw [if_pos ⟨.inl rfl, by rw [h]; rfl⟩]
  rfl
theorem shk256_u (l : List Int) (n : Nat) : u8s n (shk256 l n) := sp_u8 _ _ _ _
theorem noiseS_eq (s : List Int) (n : Int) : fCbd 2 (shk256 (s ++ [n]) 128) = (noiseS s n, 0) := by
  unfold noiseS
  rw [fCbd2 (shk256_u _ _).1]
theorem noiseS_u (s : List Int) (n : Int) : u16s 256 (noiseS s n) := by
  unfold noiseS
  rw [fCbd2 (shk256_u _ _).1]
  refine poly_u16 fun i _ => ?_
  unfold cbd
  omega
theorem two_parts {a b : List Int} (ha : a.length ≤ maxLen ∧ bytes a) (hb : b.length ≤ maxLen ∧ bytes b) : partsOk [a, b] := ⟨by simp only [List.length_cons, List.length_nil]; exact mB (by omega), fun zs hz => by
  rcases List.mem_cons.1 hz with rfl | hz
  · exact ha
  · rw [List.mem_singleton.1 hz]; exact hb⟩
theorem byte_l {n : Int} (h : 0 ≤ n ∧ n ≤ 255) : [n].length ≤ maxLen ∧ bytes [n] := ⟨mB (by simp), fun z hz => by rw [List.mem_singleton.1 hz]; exact h⟩
theorem q_kem_noise : ∀ x r, g_kem_noise x = some r → ∃ N, p_kem_noise N x = some r := by
  refine Spec_of (ks := p_kem_noise_ks) (rs := p_kem_noise_rs) fun x hw hq => ⟨0, ?_⟩
  obtain ⟨(s : List Int), (n : Int), u⟩ := x
  have hs := wf_c1.1 hw.1
  have hn : 0 ≤ n ∧ n ≤ 255 := hq
  have e1 : List.set (List.replicate 1 (0 : Int)) 0 (IntKind.u8.wrap n) = [n] := by rw [wrap_u8 hn.1 hn.2]; rfl
  have e := at_Shake (b := 256) (.inr rfl) (n := 128) (by omega) (two_parts hs (byte_l hn))
  rw [show [s, [n]].flatten = s ++ [n] by simp] at e
  have hb := shk256_u (s ++ [n]) 128
  unfold p_kem_noise
  dsimp only
  rw [e1]
  refine (congrArg (fun o => Option.bind o _) e).trans ?_
  rw [Option.bind_some, if_neg (by simp)]
  refine (congrArg (fun o => Option.bind o _) (at_rCbd (d := 2) (b := shk256 (s ++ [n]) 128) (by omega) ⟨mB (by rw [hb.1]; omega), hb.2⟩)).trans ?_
  rw [noiseS_eq, Option.bind_some, if_neg (by simp)]
theorem at_noise {s : List Int} (hs : s.length ≤ maxLen ∧ bytes s) {n : Int} (hn : 0 ≤ n ∧ n ≤ 255) : g_kem_noise (s, n, ()) = some (noiseS s n) :=
  Spec_at (ks := p_kem_noise_ks) (rs := p_kem_noise_rs) (x := (s, n, ())) ⟨wf_c1.2 hs, okInt_i64.2 (by show _ ≤ n ∧ n ≤ _; omega), trivial⟩ hn
theorem q_kem_noises : ∀ x r, g_kem_noises x = some r → ∃ N, p_kem_noises N x = some r := by
  refine Spec_of (ks := p_kem_noises_ks) (rs := p_kem_noises_rs) fun x hw hq => ⟨10, ?_⟩
  obtain ⟨(s : List Int), (n : Int), u⟩ := x
  have hs := wf_c1.1 hw.1
  have hn : 0 ≤ n ∧ n ≤ 250 := hq
  have hf : ∀ i, i < 3 → (noiseS s (n + (i : Nat))).length = 256 := fun i _ => (noiseS_u _ _).1
  unfold p_kem_noises
  refine (iter_from (F := p_kem_noises_l3_F 10) (s := fun i => (s.length, n, (i : Int), s.length, s, List.replicate 768 0, rr (fun i => noiseS s (n + (i : Nat))) (List.replicate 768 0) i, ())) (y := (List.replicate 768 0, noisesS s n, ())) 3 ?_ ?_ ?_ 10 (by omega)).trans rfl
  · rw [rr_zero z768.1]; rfl
  · intro i hi kn
    unfold p_kem_noises_l3_F
    dsimp only
    rw [if_pos (by omega), wrap_i64 (x := n + (i : Int)) (by omega) (by omega), at_noise hs (by omega), Option.bind_some, if_pos (by omega), if_pos (by omega), Int.toNat_natCast, if_pos (by omega), wrap_i64 (by omega) (by omega)]
    exact congrArg kn (by rw [← rr_set z768.1 hf hi]; rfl)
  · intro kn
    unfold p_kem_noises_l3_F
    dsimp only
    rw [if_neg (by omega), rr_all]
    rfl
theorem at_noises {s : List Int} (hs : s.length ≤ maxLen ∧ bytes s) {n : Int} (hn : 0 ≤ n ∧ n ≤ 250) : g_kem_noises (s, n, ()) = some (noisesS s n) :=
  Spec_at (ks := p_kem_noises_ks) (rs := p_kem_noises_rs) (x := (s, n, ())) ⟨wf_c1.2 hs, okInt_i64.2 (by show _ ≤ n ∧ n ≤ _; omega), trivial⟩ hn
theorem noisesS_u (s : List Int) (n : Int) : u16s 768 (noisesS s n) := row3_u fun i _ => noiseS_u _ _
theorem enc12 (a : List Int) : fEncode 12 a = (fBytes (encE 12 a) 384, 0) := by
  unfold fEncode
  rw [if_neg (by omega)]
  rfl
theorem enc12_u (a : List Int) : u8s 384 (fEncode 12 a).1 := by
  rw [enc12]
  exact fBytes_u8 (e := encE 12 a) (n := 384) fun t _ => encE_b 12 a t
def encP (r : List Int) : Nat → List Int
  | 0 => []
  | i + 1 => encP r i ++ (fEncode 12 (ch r i)).1
theorem encP_len (r : List Int) : ∀ i, (encP r i).length = 384 * i
  | 0 => rfl
  | i + 1 => by rw [encP, List.length_append, encP_len r i, (enc12_u _).1]; omega
theorem encP_all (r : List Int) : encP r 3 = encS r := by
  rw [encP, encP, encP, encP, List.nil_append]
  rfl
theorem q_kem_row_encoded : ∀ x r, g_kem_row_encoded x = some r → ∃ N, p_kem_row_encoded N x = some r := by
  refine Spec_of (ks := p_kem_row_encoded_ks) (rs := p_kem_row_encoded_rs) fun x hw hq => ⟨10, ?_⟩
  obtain ⟨(r : List Int), u⟩ := x
  have hr : u16s 768 r := wf_r1.1 hw
  unfold p_kem_row_encoded
  refine (iter_from (F := p_kem_row_encoded_l3_F 10) (s := fun i => ((encP r i).length, (i : Int), r, (encP r i).length, encP r i, ())) (y := .inr ((encP r 3).length, (encP r 3).length, encP r 3, ())) 3 rfl ?_ ?_ 10 (by omega)).trans (congrArg some (encP_all r))
  · intro i hi kn
    have hl := encP_len r i
    have h2 : (fEncode 12 (ch r i)).2 = 0 := by rw [enc12]
    have h3 := (enc12_u (ch r i)).1
    unfold p_kem_row_encoded_l3_F
    dsimp only
    rw [if_pos (by omega), if_pos (by omega), if_pos (by omega), Int.toNat_natCast, if_pos (by omega)]
    refine (congrArg (fun o => Option.bind o _) (at_rEnc (d := 12) (by omega) (ch_u hr hi))).trans ?_
    rw [Option.bind_some, if_neg (by rw [h2]; simp), if_pos (by omega), wrap_i64 (by omega) (by omega)]
    exact congrArg kn (by rw [encP, List.length_append]; rfl)
  · intro kn
    unfold p_kem_row_encoded_l3_F
    dsimp only
    rw [if_neg (by omega)]
theorem at_encoded {r : List Int} (h : u16s 768 r) : g_kem_row_encoded (r, ()) = some (encS r) := Spec_at (ks := p_kem_row_encoded_ks) (rs := p_kem_row_encoded_rs) (x := (r, ())) (wf_r1.2 h) trivial
theorem u8_app {n m : Nat} {a b : List Int} (ha : u8s n a) (hb : u8s m b) : u8s (n + m) (a ++ b) := ⟨by rw [List.length_append, ha.1, hb.1], fun z hz => by
  rcases List.mem_append.1 hz with h | h
  · exact ha.2 z h
  · exact hb.2 z h⟩
theorem encS_u (r : List Int) : u8s 1152 (encS r) := u8_app (u8_app (enc12_u _) (enc12_u _)) (enc12_u _)
end Go.Ax.TryP
set_option linter.unusedVariables false
namespace Go.Ax.TryP
open Go.Proofs
theorem part3_u {n w : Nat} {b : List Int} (hb : bytes b) {i : Nat} (h : i * w + w ≤ b.length) : u8s w (part3 b w i) := ⟨by unfold part3; rw [List.length_take, List.length_drop]; omega, fun z hz => hb z (List.mem_of_mem_drop (List.mem_of_mem_take hz))⟩
theorem u8_wf {n : Nat} {b : List Int} (h : u8s n b) (hn : n ≤ 10000000) : b.length ≤ maxLen ∧ bytes b := ⟨mB (by rw [h.1]; exact hn), h.2⟩
theorem dec12 {b : List Int} (h : b.length = 384) : fDecode 12 b = (fRed (fRaw 12 b), 0) := by
  unfold fDecode
  rw [if_neg (by omega), if_pos rfl]
theorem cutI (b : List Int) (w i : Nat) (hi : i < 3) (hw : w ≤ 1000) : List.take (subN ((IntKind.i64.wrap ((IntKind.i64.wrap ((i : Int) + 1)) * (w : Int))).toNat) ((IntKind.i64.wrap ((i : Int) * (w : Int))).toNat)) (List.drop ((IntKind.i64.wrap ((i : Int) * (w : Int))).toNat) b) = part3 b w i := by
  have h1 : i * w ≤ 3 * 1000 := Nat.mul_le_mul (by omega) hw
  have e1 : ((i : Int) + 1) * (w : Int) = ((i * w + w : Nat) : Int) := by rw [Int.add_mul, Int.one_mul]; omega
  have e2 : (i : Int) * (w : Int) = ((i * w : Nat) : Int) := by rw [Int.natCast_mul]
  rw [wrap_i64 (x := (i : Int) + 1) (by omega) (by omega), e1, e2, wrap_i64 (by omega) (by omega), wrap_i64 (by omega) (by omega), Int.toNat_natCast, Int.toNat_natCast, subN_eq, Nat.add_sub_cancel_left]
  rfl
theorem cutHi (w i : Nat) (hi : i < 3) (hw : w ≤ 1000) : IntKind.i64.wrap ((IntKind.i64.wrap ((i : Int) + 1)) * (w : Int)) = ((i * w + w : Nat) : Int) ∧ IntKind.i64.wrap ((i : Int) * (w : Int)) = ((i * w : Nat) : Int) := by
  have h1 : i * w ≤ 3 * 1000 := Nat.mul_le_mul (by omega) hw
  have e1 : ((i : Int) + 1) * (w : Int) = ((i * w + w : Nat) : Int) := by rw [Int.add_mul, Int.one_mul]; omega
  have e2 : (i : Int) * (w : Int) = ((i * w : Nat) : Int) := by rw [Int.natCast_mul]
  rw [wrap_i64 (x := (i : Int) + 1) (by omega) (by omega), e1, e2, wrap_i64 (by omega) (by omega), wrap_i64 (by omega) (by omega)]
  exact ⟨rfl, rfl⟩
theorem decS_u (b : List Int) (h : 1152 ≤ b.length) : u16s 768 (decS b) := row3_u fun i hi => by
  rw [dec12 (by unfold part3; rw [List.length_take, List.length_drop]; omega)]
  exact fRed_u16 _
theorem q_kem_decoded : ∀ x r, g_kem_decoded x = some r → ∃ N, p_kem_decoded N x = some r := by
  refine Spec_of (ks := p_kem_decoded_ks) (rs := p_kem_decoded_rs) fun x hw hq => ⟨10, ?_⟩
  obtain ⟨(b : List Int), u⟩ := x
  have hb := wf_c1.1 hw.1
  have hl : 1152 ≤ b.length := hq
  have hp : ∀ i, i < 3 → u8s 384 (part3 b 384 i) := fun i hi => part3_u (n := 0) hb.2 (by omega)
  have hf : ∀ i, i < 3 → (fDecode 12 (part3 b 384 i)).1.length = 256 := fun i hi => by rw [dec12 (hp i hi).1]; exact (fRed_u16 _).1
  unfold p_kem_decoded
  refine (iter_from (F := p_kem_decoded_l3_F 10) (s := fun i => (b.length, (i : Int), b.length, b, List.replicate 768 0, rr (fun i => (fDecode 12 (part3 b 384 i)).1) (List.replicate 768 0) i, ())) (y := .inr (List.replicate 768 0, decS b, ())) 3 ?_ ?_ ?_ 10 (by omega)).trans rfl
  · rw [rr_zero z768.1]; rfl
  · intro i hi kn
    obtain ⟨c1, c2⟩ := cutHi 384 i hi (by omega)
    have c3 := cutI b 384 i hi (by omega)
    have h2 : (fDecode 12 (part3 b 384 i)).2 = 0 := by rw [dec12 (hp i hi).1]
    unfold p_kem_decoded_l3_F
    dsimp only
    rw [show (384 : Int) = ((384 : Nat) : Int) from rfl, c3, c1, c2, if_pos (by omega), if_pos (by omega), if_pos (by omega), if_pos (by omega), if_pos (by rw [Int.toNat_natCast]; omega)]
    refine (congrArg (fun o => Option.bind o _) (at_rDec (d := 12) (by omega) (u8_wf (hp i hi) (by omega)))).trans ?_
    rw [Option.bind_some, if_neg (by rw [h2]; simp), if_pos (by omega), if_pos (by omega), Int.toNat_natCast, if_pos (by omega), wrap_i64 (by omega) (by omega)]
    exact congrArg kn (by rw [← rr_set z768.1 hf hi]; rfl)
  · intro kn
    unfold p_kem_decoded_l3_F
    dsimp only
    rw [if_neg (by omega), rr_all]
    rfl
theorem at_decoded {b : List Int} (hb : b.length ≤ maxLen ∧ bytes b) (hl : 1152 ≤ b.length) : g_kem_decoded (b, ()) = some (decS b) := Spec_at (ks := p_kem_decoded_ks) (rs := p_kem_decoded_rs) (x := (b, ())) ⟨wf_c1.2 hb, trivial⟩ hl
theorem comp_eq {d : Int} (hd : 1 ≤ d ∧ d ≤ 11) (a : List Int) : fCompress d a = (poly fun i => fComp d (a.getD i 0), 0) := by unfold fCompress; rw [if_neg (by omega)]
theorem decomp_eq {d : Int} (hd : 1 ≤ d ∧ d ≤ 11) (a : List Int) : fDecompress d a = (poly fun i => fDecomp d (a.getD i 0), 0) := by unfold fDecompress; rw [if_neg (by omega)]
theorem comp_u {d : Int} (hd : 1 ≤ d ∧ d ≤ 11) (a : List Int) : u16s 256 (poly fun i => fComp d (a.getD i 0)) := poly_u16 fun i _ => by
  unfold fComp
  have h1 : (2 : Int) ^ d.toNat ≤ 2 ^ 11 := by exact_mod_cast Nat.pow_le_pow_right (by omega : 0 < 2) (by omega : d.toNat ≤ 11)
  have h2 : (0 : Int) < 2 ^ d.toNat := Int.pow_pos (by omega)
  have h3 := Int.emod_nonneg ((2 * (a.getD i 0 % 3329) * 2 ^ d.toNat + 3329) / (2 * 3329)) (show (2 : Int) ^ d.toNat ≠ 0 by omega)
  have h4 := Int.emod_lt_of_pos ((2 * (a.getD i 0 % 3329) * 2 ^ d.toNat + 3329) / (2 * 3329)) h2
  omega
theorem enc_eq {d : Int} (hd : 1 ≤ d ∧ d ≤ 12) (a : List Int) : fEncode d a = (fBytes (encE d.toNat a) (32 * d.toNat), 0) := by unfold fEncode; rw [if_neg (by omega)]
theorem packS_u {d : Int} (hd : 1 ≤ d ∧ d ≤ 11) (p : List Int) : u8s (32 * d.toNat) (packS d p) := by
  unfold packS
  rw [enc_eq (by omega)]
  exact fBytes_u8 fun t _ => encE_b _ _ t
theorem q_kem_packed : ∀ x r, g_kem_packed x = some r → ∃ N, p_kem_packed N x = some r := by
  refine Spec_of (ks := p_kem_packed_ks) (rs := p_kem_packed_rs) fun x hw hq => ⟨0, ?_⟩
  obtain ⟨(d : Int), (p : List Int), u⟩ := x
  have hp := wf_u16s.1 hw.2.1
  have hd : 1 ≤ d ∧ d ≤ 11 := hq
  have e1 := at14 (d := d) (by omega) hp
  rw [comp_eq hd] at e1
  unfold p_kem_packed
  refine (congrArg (fun o => Option.bind o _) e1).trans ?_
  rw [Option.bind_some, if_neg (by simp)]
  refine (congrArg (fun o => Option.bind o _) (at_rEnc (d := d) (by omega) (comp_u hd p))).trans ?_
  rw [Option.bind_some, enc_eq (by omega), if_neg (by simp)]
  show _ = some (packS d p)
  unfold packS
  rw [comp_eq hd, enc_eq (by omega)]
theorem at_packed {d : Int} (hd : 1 ≤ d ∧ d ≤ 11) {p : List Int} (hp : u16s 256 p) : g_kem_packed (d, p, ()) = some (packS d p) := Spec_at (ks := p_kem_packed_ks) (rs := p_kem_packed_rs) (x := (d, p, ())) ⟨i64c (by show 0 ≤ d ∧ d ≤ _; omega), wf_u16s.2 hp, trivial⟩ hd
theorem dec_eq {d : Int} (hd : 1 ≤ d ∧ d ≤ 11) {b : List Int} (hl : (b.length : Int) = 32 * d) : fDecode d b = (fRaw d.toNat b, 0) := by unfold fDecode; rw [if_neg (by omega), if_neg (by omega)]
theorem unpackS_u {d : Int} (hd : 1 ≤ d ∧ d ≤ 11) (b : List Int) : u16s 256 (unpackS d b) := by
  unfold unpackS
  rw [decomp_eq hd]
  refine poly_u16 fun i _ => ?_
  unfold fDecomp
  have h1 : (2 : Int) ^ d.toNat ≤ 2 ^ 11 := by exact_mod_cast Nat.pow_le_pow_right (by omega : 0 < 2) (by omega : d.toNat ≤ 11)
  have h2 : (0 : Int) < 2 ^ d.toNat := Int.pow_pos (by omega)
  generalize (2 : Int) ^ d.toNat = m at *
  generalize (fDecode d b).1.getD i 0 = z
  have h3 := Int.emod_nonneg z (show m ≠ 0 by omega)
  have h4 := Int.emod_lt_of_pos z h2
  refine ⟨Int.ediv_nonneg (by omega) (by omega), ?_⟩
  have : (2 * (z % m) * 3329 + m) / (2 * m) < 65536 := Int.ediv_lt_of_lt_mul (by omega) (by omega)
  omega
theorem q_kem_unpacked : ∀ x r, g_kem_unpacked x = some r → ∃ N, p_kem_unpacked N x = some r := by
  refine Spec_of (ks := p_kem_unpacked_ks) (rs := p_kem_unpacked_rs) fun x hw hq => ⟨0, ?_⟩
  obtain ⟨(d : Int), (b : List Int), u⟩ := x
  have hb := wf_c1.1 hw.2.1
  obtain ⟨hd, hl⟩ : (1 ≤ d ∧ d ≤ 11) ∧ (b.length : Int) = 32 * d := hq
  have e1 := at_rDec (d := d) (by omega) hb
  rw [dec_eq hd hl] at e1
  unfold p_kem_unpacked
  refine (congrArg (fun o => Option.bind o _) e1).trans ?_
  rw [Option.bind_some, if_neg (by simp)]
  refine (congrArg (fun o => Option.bind o _) (at16 (d := d) (by omega) (fRaw_u16 (n := d.toNat) b (by omega)))).trans ?_
  rw [Option.bind_some, decomp_eq hd, if_neg (by simp)]
  show _ = some (unpackS d b)
  unfold unpackS
  rw [dec_eq hd hl, decomp_eq hd]
theorem at_unpacked {d : Int} (hd : 1 ≤ d ∧ d ≤ 11) {b : List Int} (hb : b.length ≤ maxLen ∧ bytes b) (hl : (b.length : Int) = 32 * d) : g_kem_unpacked (d, b, ()) = some (unpackS d b) :=
  Spec_at (ks := p_kem_unpacked_ks) (rs := p_kem_unpacked_rs) (x := (d, b, ())) ⟨i64c (by show 0 ≤ d ∧ d ≤ _; omega), wf_c1.2 hb, trivial⟩ ⟨hd, hl⟩
end Go.Ax.TryP
