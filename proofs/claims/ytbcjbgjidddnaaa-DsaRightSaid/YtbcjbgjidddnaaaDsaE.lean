/- A part of the proof: DgS, DgP, DgQ1, DgQ2, DgQ3, DgQ4, DgQ5, DgQ6, DgQ7, DgQ8. -/
import Derived.Test.YtbcjbgjidddnaaaDsaD
set_option linter.unusedVariables false
namespace Go.Ax.TryP
open Go.Proofs
noncomputable def tf (p : Prop) : Bool := @decide p (Classical.propDecidable p)
theorem d0w {p : Prop} (h : p) : tf p = true := @decide_eq_true p (Classical.propDecidable p) h
theorem d9A {p : Prop} (h : ¬ p) : tf p = false := @decide_eq_false p (Classical.propDecidable p) h
noncomputable def cif {α : Type} (p : Prop) (a b : α) : α := @ite α p (Classical.propDecidable p) a b
theorem a5u {α : Type} {p : Prop} (h : p) (a b : α) : cif p a b = a := by unfold cif; exact if_pos h
theorem a1D {α : Type} {p : Prop} (h : ¬ p) (a b : α) : cif p a b = b := by unfold cif; exact if_neg h
def J5 (b : List Int) (a n : Nat) : List Int := (b.drop a).take n
def b4i (b : List Int) : List Int := a0t 4 4 b
noncomputable def a4k : List Int × Unit → Option (Bool × Int × List Int) := c4k (ks := [.sl (.int .u8)]) (rs := [.xs (.int .i32) 256]) (fun x => x.1.length = 128) fun x => (decide (4 < a0i (b4i x.1)), 160, b4i x.1)
def skP (sk : List Int) (i : Nat) : List Int := b4i (J5 sk (128 + 128 * i) 128)
def skL (sk : List Int) (i : Nat) : List Int := a0t 4096 13 (J5 sk (1536 + 416 * i) 416)
def d3o (sk : List Int) : Prop := sk.length = 4032 ∧ ∀ i, i < 11 → a0i (skP sk i) ≤ 4
abbrev Sec : Type := List Int × List Int × List Int × List Int × List Int × List Int × Unit
def d1N (sk : List Int) : Sec := (J5 sk 0 32, J5 sk 32 32, J5 sk 64 64, J4 (skP sk) 5, J4 (fun i => skP sk (5 + i)) 6, J4 (skL sk) 6, ())
noncomputable def b2Z : List Int × Unit → Option (Bool × Int × Sec) := c4k (ks := [.asl (.int .u8)]) (rs := [.cat [.fs (.int .u8), .fs (.int .u8), .fs (.int .u8), .xs (.int .i32) 1280, .xs (.int .i32) 1536, .xs (.int .i32) 1536]]) (fun _ => True) fun x => (tf (¬ d3o x.1), 160, d1N x.1)
def yD (rho2 : List Int) (k i : Nat) : List Int := (c6J 20 (rho2 ++ c7G ((k * 5 + i : Nat) : Int))).1
def hiD (w : List Int) : List Int := J4 (fun r => (b1M (chD w r)).1) 6
def zD (c s y : List Int) (i : Nat) : List Int := a1F (chD y i) (a3S c (chD s i))
def b3Z (c w e : List Int) (r : Nat) : List Int := a46 (chD w r) (a3S c (chD e r))
def c21 (c l : List Int) (r : Nat) : List Int := a3S c (chD l r)
def htD (c w e l : List Int) (r : Nat) : List Int × Int := d00 (a46 dzeros (c21 c l r)) (a1F (b3Z c w e r) (c21 c l r))
def c6e (f : Nat → List Int × Int) : Nat → Int
 | 0 => 0
 | n + 1 => c6e f n + (f n).2
def c8z (c w e l : List Int) (r : Nat) : Prop := a0i (b1M (b3Z c w e r)).2 < 261692 ∧ a0i (c21 c l r) < 261888
def b7U (c s e l y w : List Int) : Prop := (∀ i, i < 5 → a0i (zD c s y i) < 524092) ∧ (∀ r, r < 6 → c8z c w e l r) ∧ c6e (htD c w e l) 6 ≤ 55
def zT (ct c s y : List Int) (n : Nat) : List Int := ct ++ J4 (fun i => pkW 20 (a3a 524288 (zD c s y i))) n
def hrow (c w e l : List Int) : List Int := J4 (fun r => (htD c w e l r).1) 6
def c80 (ct c s e l y w : List Int) : List Int := zT ct c s y 5 ++ (b8H (hrow c w e l) 55).1
noncomputable def d9X (x : Sec) (ct : List Int) (b : List Int × Int) (y w : List Int) : Bool × Int × (List Int × Bool) :=
 (decide (b.2 ≠ 0), b.2, cif (b7U b.1 x.2.2.2.1 x.2.2.2.2.1 x.2.2.2.2.2.1 y w) (c80 ct b.1 x.2.2.2.1 x.2.2.2.2.1 x.2.2.2.2.2.1 y w, true) ([], false))
def wD (m rho2 : List Int) (k : Nat) : List Int := R3 m (J4 (yD rho2 k) 5)
def ctD (m mu rho2 : List Int) (k : Nat) : List Int := b9y mu (hiD (wD m rho2 k))
noncomputable def d5G (x : Sec) (m mu rho2 : List Int) (k : Nat) : Bool × Int × (List Int × Bool) := d9X x (ctD m mu rho2 k) (a4b 49 (ctD m mu rho2 k)) (J4 (yD rho2 k) 5) (wD m rho2 k)
noncomputable def Y0 : Sec × List Int × List Int × List Int × Int × Unit → Option (Bool × Int × (List Int × Bool)) := c4k (ks := [.rp (.ct [.fs (.int .u8), .fs (.int .u8), .fs (.int .u8), .xs (.int .i32) 1280, .xs (.int .i32) 1536, .xs (.int .i32) 1536]), .rp (.xs (.int .i32) 7680), .sl (.int .u8), .sl (.int .u8), .int .i64]) (rs := [.sl (.int .u8), .bool])
 (fun x => x.2.2.1.length ≤ 1000 ∧ x.2.2.2.1.length = 64 ∧ 0 ≤ x.2.2.2.2.1 ∧ x.2.2.2.2.1 ≤ 10000) fun x => d5G x.1 x.2.1 x.2.2.1 x.2.2.2.1 x.2.2.2.2.1.toNat
def d5w (t : Nat → Bool × Int × (List Int × Bool)) (k : Nat) : Nat → List Int × Int
 | 0 => ([], 162)
 | n + 1 => if (t k).1 = true then ([], (t k).2.1) else if (t k).2.2.2 = true then ((t k).2.2.1, 0) else d5w t (k + 1) n
def muS (sk msg ctx : List Int) : List Int := c6K (J5 sk 64 64) msg ctx
def d4j (sk rnd mu : List Int) : List Int := a3Q (J5 sk 32 32 ++ rnd ++ mu) 64
noncomputable def d9C (sk msg ctx rnd : List Int) : Nat → Bool × Int × (List Int × Bool) := d5G (d1N sk) (a67 (J5 sk 0 32)) (muS sk msg ctx) (d4j sk rnd (muS sk msg ctx))
noncomputable def c3D (sk msg ctx rnd : List Int) (most : Int) : List Int × Int :=
 cif (¬ d3o sk) ([], 160) (if 255 < ctx.length then ([], 3) else if most < 1 then ([], 1) else cif (¬ a30 (J5 sk 0 32)) ([], 130) (d5w (d9C sk msg ctx rnd) 0 most.toNat))
noncomputable def b2Y : List Int × List Int × List Int × List Int × Int × Unit → Option (List Int × Int) := a0u (ks := [.fsl (.int .u8), .sl (.int .u8), .sl (.int .u8), .xs (.int .u8) 32, .int .i64]) (rs := [.sl (.int .u8), .int .i64])
 (fun x => x.2.2.2.2.1 ≤ 10000) fun x => c3D x.1 x.2.1 x.2.2.1 x.2.2.2.1 x.2.2.2.2.1
def zV (sig : List Int) (i : Nat) : List Int := a0t 524288 20 (J5 sig (48 + 640 * i) 640)
def d7y (sig : List Int) : Prop := ∀ i, i < 5 → a0i (zV sig i) < 524092
def tV (pk : List Int) (r : Nat) : List Int := o5 fun i => (c7H 10 (J5 pk (32 + 320 * r) 320)).getD i 0 * 8192
def upV (pk h c m z : List Int) (r : Nat) : List Int := d6c (chD h r) (a5x (a46 (a4R m z r 5) (a45 (j9 c) (j9 (tV pk r)))))
noncomputable def hV (sig : List Int) : List Int × Int := a8w 6 55 (J5 sig 3248 61)
def muV (pk msg ctx : List Int) : List Int := c6K (a3Q pk 64) msg ctx
noncomputable def chV (pk msg ctx sig : List Int) : List Int := b9y (muV pk msg ctx) (J4 (upV pk (hV sig).1 (a4b 49 (J5 sig 0 48)).1 (a67 (J5 pk 0 32)) (J4 (zV sig) 5)) 6)
noncomputable def d6u (pk msg ctx sig : List Int) : Int :=
 if pk.length ≠ 1952 then 161 else if 255 < ctx.length then 3 else if sig.length ≠ 3309 then 70 else
 cif (¬ d7y sig) 70 (if (hV sig).2 ≠ 0 then 70 else if (a4b 49 (J5 sig 0 48)).2 ≠ 0 then (a4b 49 (J5 sig 0 48)).2 else
 cif (¬ a30 (J5 pk 0 32)) 130 (if chV pk msg ctx sig ≠ J5 sig 0 48 then 70 else 0))
noncomputable def a0H : List Int × List Int × List Int × List Int × Unit → Option Int := a0u (ks := [.sl (.int .u8), .sl (.int .u8), .sl (.int .u8), .sl (.int .u8)]) (rs := [.int .i64]) (fun _ => True) fun x => d6u x.1 x.2.1 x.2.2.1 x.2.2.2.1
def a9x (xi : List Int) : List Int := a3Q (xi ++ [6, 5]) 128
def a6h (xi : List Int) : List Int := J5 (a9x xi) 0 32
def a9y (xi : List Int) (i : Nat) : List Int × Int := c9x 4 (J5 (a9x xi) 32 64 ++ c7G (i : Int))
def d88 (xi : List Int) : Prop := ∀ i, i < 11 → (a9y xi i).2 = 0
def sK (xi : List Int) : List Int := J4 (fun i => (a9y xi i).1) 5
def eK (xi : List Int) : List Int := J4 (fun i => (a9y xi (5 + i)).1) 6
def tK (xi : List Int) (r : Nat) : List Int := a1F (chD (R3 (a67 (a6h xi)) (sK xi)) r) (chD (eK xi) r)
def pkT (xi : List Int) (n : Nat) : List Int := a6h xi ++ J4 (fun r => pkW 10 (o8 (c1o (tK xi r)).1)) n
def pkD (xi : List Int) : List Int := pkT xi 6
def tlT (xi : List Int) (n : Nat) : List Int := J4 (fun r => pkW 13 (a3a 4096 (c1o (tK xi r)).2)) n
def skH (xi : List Int) : List Int := a6h xi ++ J5 (a9x xi) 96 32 ++ a3Q (pkD xi) 64
def skT (xi : List Int) (n : Nat) : List Int := skH xi ++ J4 (fun i => pkW 4 (a3a 4 (a9y xi i).1)) n
def skD (xi : List Int) : List Int := skT xi 11 ++ tlT xi 6
noncomputable def d4g (xi : List Int) : List Int × List Int × Int := cif (d88 xi ∧ a30 (a6h xi)) (pkD xi, skD xi, 0) ([], [], 130)
noncomputable def a2S : List Int × Unit → Option (List Int × List Int × Int) := a0u (ks := [.xs (.int .u8) 32]) (rs := [.sl (.int .u8), .sl (.int .u8), .int .i64]) (fun _ => True) fun x => d4g x.1
noncomputable def a9L : List (List Int) × Unit → Option Bool := a0u (ks := [.sls (.int .u8)]) (rs := [.bool]) (fun _ => True) fun x => decide (∀ b ∈ x.1, b.length ≤ 6000)
noncomputable def a0J : Unit → Option Bool := a0u (ks := []) (rs := [.bool]) (fun _ => True) fun _ => true
end Go.Ax.TryP
set_option linter.unusedVariables false
namespace Go.Ax.TryP
open Go.Proofs
noncomputable abbrev a0v : Sig := ⟨[.xs b32 256], [.int .i32], U0⟩
noncomputable def p_dsa_small_E : AE := AE.ofI [(40, ty40)] [(29, o6), (30, a0v)] [] [(14, a1l), (43, a6f)] [] [] []
noncomputable def c45 : Hints := [(3000000, [2]), (5000000, [2])]
noncomputable def c46 : Code := (Try.f51).body.getD .skip
abbrev a2f : List Kd := [.sl b8]
abbrev a2g : List Kd := [.xs b32 256]
noncomputable def b0k (N : Nat) (x : List Int × Unit) : Option (Int ⊕ (List Int)) :=
 (j4 ((4:Int), (4:Int), x.1, ())).bind fun r1 => (
 if (r1.2 ≠ (0:Int)) then
  some (.inl r1.2)
 else
  (U0 (r1.1, ())).bind fun r2 => (
  if (r2 > (4:Int)) then
   if ((160:Int) ≠ (0:Int)) then
    some (.inl (160:Int))
   else
    some (.inr r1.1)
  else
   some (.inr r1.1)))
theorem c2g (e0 : c8 Try.prog 29 o6) (e1 : c8 Try.prog 30 a0v) : p_dsa_small_E.Ok Try.prog := AE.ofI_ok (all_cons s5 c6) (all_cons ⟨e0, J1⟩ (all_cons ⟨e1, a4g⟩ c6)) c6 (all_cons ⟨O5, A7⟩ (all_cons ⟨a3n, a0C⟩ c6)) c6
theorem c3j (hE : p_dsa_small_E.Ok Try.prog) {g : Ds a2f → Option (Bool × Int × Rs a2g)} (hg : ∀ x r, g x = some r → ∃ N, b0k N x = some (xr r)) : XOk Try.prog 51 ⟨a2f, a2g, (.ifi 26 .i64), g⟩ :=
 c1v (E := p_dsa_small_E) (H := c45) (L := fun N => LT.nil) (c := c46) (ks := a2f) (rs := a2g) (F := b0k) hE mix Try.func51 (by kernel_rfl) (fun N => OkAll.nil) (fun _ _ => by kernel_rfl) hg
noncomputable abbrev b4l : XSig := ⟨[.sl b8], [.xs b32 256], (.ifi 26 .i64), a4k⟩
noncomputable def p_dsa_read_E : AE := AE.ofA [(23, ty23), (40, ty40), (42, ty42), (44, ty44), (60, ty60)] [(29, o6)] [(51, b4l)] [] [] [(14, a1l), (28, c1x), (43, a6f)] [] [] [] [] [] []
noncomputable def a7K : Hints := [(5, [1, 2, 3, 15]), (10, [1, 2, 3, 24]), (15, [1, 2, 3, 33]), (2000000, [1, 2, 3]), (2000001, [1, 2, 3, 15]), (2000002, [1, 2, 3]), (2000003, [1, 2, 3, 24]), (2000004, [2, 3]), (2000005, [1, 2, 3, 33]), (3000000, [2]), (5000000, [2])]
noncomputable def a05 : Code := (Try.f25).body.getD .skip
noncomputable def c2f : Shape := mkS { tmps := V :: .sc (.ptr 0 0 false) :: .sc (.ptr 1 0 false) :: .sc (.ptr 2 0 false) :: pv 11 (.sc (.int .i64) :: pv 30 []), mem := [.live [.one (.fr b8)] (.own), .live [.one (.nilsl), .one (.nilsl), .one (.nilsl), .xs b32 (some 1280), .xs b32 (some 1536), .xs b32 (some 1536)] (.own), .live [.one (.fr b8), .one (.fr b8), .one (.fr b8), .xs b32 (some 1280), .xs b32 (some 1536), .xs b32 (some 1536)] (.own)] } [.int, .xs, .xs, .xs, .xs, .xs, .xs, .xs, .xs, .xs, .xs]
abbrev W53 : Type := Int × List Int × List Int × List Int × List Int × List Int × List Int × List Int × List Int × List Int × List Int × Unit
abbrev W54 : Type := (Int × List Int × List Int × List Int × Unit) ⊕ (List Int × List Int × List Int × List Int × List Int × List Int × List Int × List Int × List Int × List Int × Unit)
noncomputable def B3 (N : Nat) (β : Type) (x : W53) (kn : W53 → Option β) (ke : W54 → Option β) : Option β :=
 if (x.1 < (5:Int)) then
  if 0 ≤ (128:Int) then (
  if (128:Int) ≤ (((List.length x.2.1) : Nat) : Int) then (
  if 0 ≤ (128:Int) then (
  if (128:Int) ≤ (((List.length x.2.1) : Nat) : Int) then (
  (a4k ((List.take (128 - 0) (List.drop 0 x.2.1)), ())).bind fun r1 => (
  if r1.1 = true then
   ke (.inl (r1.2.1, x.2.2.1, x.2.2.2.1, x.2.2.2.2.1, ()))
  else
   if 0 ≤ x.1 then (
   if x.1 < 5 then (
   if ((x.1.toNat) * 256) + 256 ≤ 1280 then (
   kn ((IntKind.i64.wrap (x.1 + (1:Int))), (List.take ((List.length x.2.1) - 128) (List.drop 128 x.2.1)), x.2.2.1, x.2.2.2.1, x.2.2.2.2.1, x.2.2.2.2.2.1, x.2.2.2.2.2.2.1, x.2.2.2.2.2.2.2.1, (List.take ((x.1.toNat) * 256) x.2.2.2.2.2.2.2.2.1 ++ r1.2.2 ++ List.drop (((x.1.toNat) * 256) + 256) x.2.2.2.2.2.2.2.2.1), x.2.2.2.2.2.2.2.2.2.1, x.2.2.2.2.2.2.2.2.2.2.1, ())) else none) else none) else none)) else none) else none) else none) else none
 else
  ke (.inr (x.2.1, x.2.2.1, x.2.2.2.1, x.2.2.2.2.1, x.2.2.2.2.2.1, x.2.2.2.2.2.2.1, x.2.2.2.2.2.2.2.1, x.2.2.2.2.2.2.2.2.1, x.2.2.2.2.2.2.2.2.2.1, x.2.2.2.2.2.2.2.2.2.2.1, ()))
noncomputable def b97 : Go' W54 := fun y K => match y with
 | .inl y => K (.pan (.ifi 26 .i64) y.1) (fSt { tmps := V :: V :: .sc (.ptr 0 0 false) :: pv 43 [], mem := [.live [.one (.nilsl), .one (.nilsl), .one (.nilsl), .xs b32 (some 1280), .xs b32 (some 1536), .xs b32 (some 1536)] (.own)] } [.xs, .xs, .xs] y.2)
 | .inr y => K (.exit 0) (fSt { tmps := V :: .sc (.ptr 0 0 false) :: .sc (.ptr 1 0 false) :: .sc (.ptr 2 0 false) :: pv 42 [], mem := [.live [.one (.fr b8)] (.own), .live [.one (.nilsl), .one (.nilsl), .one (.nilsl), .xs b32 (some 1280), .xs b32 (some 1536), .xs b32 (some 1536)] (.own), .live [.one (.fr b8), .one (.fr b8), .one (.fr b8), .xs b32 (some 1280), .xs b32 (some 1536), .xs b32 (some 1536)] (.own)] } [.xs, .xs, .xs, .xs, .xs, .xs, .xs, .xs, .xs, .xs] y)
noncomputable def b2o (N : Nat) : LT := upd (LT.nil) 5 (o9 c2f N (B3 N) b97)
theorem b98 (N : Nat) : OkAll p_dsa_read_E a7K N (b2o N) (x4 a05) :=
 d7 (c := d8 5 a05) (OkAll.nil) (by kernel_rfl) (fun x => by kernel_rfl) (fun β x kn ke => by kernel_rfl)
noncomputable def b95 : Shape := mkS { tmps := V :: .sc (.ptr 0 0 false) :: .sc (.ptr 1 0 false) :: .sc (.ptr 2 0 false) :: pv 20 (.sc (.int .i64) :: pv 21 []), mem := [.live [.one (.fr b8)] (.own), .live [.one (.nilsl), .one (.nilsl), .one (.nilsl), .xs b32 (some 1280), .xs b32 (some 1536), .xs b32 (some 1536)] (.own), .live [.one (.fr b8), .one (.fr b8), .one (.fr b8), .xs b32 (some 1280), .xs b32 (some 1536), .xs b32 (some 1536)] (.own)] } [.int, .xs, .xs, .xs, .xs, .xs, .xs, .xs, .xs, .xs, .xs]
noncomputable def w4 (N : Nat) (β : Type) (x : W53) (kn : W53 → Option β) (ke : W54 → Option β) : Option β :=
 if (x.1 < (6:Int)) then
  if 0 ≤ (128:Int) then (
  if (128:Int) ≤ (((List.length x.2.1) : Nat) : Int) then (
  if 0 ≤ (128:Int) then (
  if (128:Int) ≤ (((List.length x.2.1) : Nat) : Int) then (
  (a4k ((List.take (128 - 0) (List.drop 0 x.2.1)), ())).bind fun r4 => (
  if r4.1 = true then
   ke (.inl (r4.2.1, x.2.2.1, x.2.2.2.1, x.2.2.2.2.1, ()))
  else
   if 0 ≤ x.1 then (
   if x.1 < 6 then (
   if ((x.1.toNat) * 256) + 256 ≤ 1536 then (
   kn ((IntKind.i64.wrap (x.1 + (1:Int))), (List.take ((List.length x.2.1) - 128) (List.drop 128 x.2.1)), x.2.2.1, x.2.2.2.1, x.2.2.2.2.1, x.2.2.2.2.2.1, x.2.2.2.2.2.2.1, x.2.2.2.2.2.2.2.1, x.2.2.2.2.2.2.2.2.1, (List.take ((x.1.toNat) * 256) x.2.2.2.2.2.2.2.2.2.1 ++ r4.2.2 ++ List.drop (((x.1.toNat) * 256) + 256) x.2.2.2.2.2.2.2.2.2.1), x.2.2.2.2.2.2.2.2.2.2.1, ())) else none) else none) else none)) else none) else none) else none) else none
 else
  ke (.inr (x.2.1, x.2.2.1, x.2.2.2.1, x.2.2.2.2.1, x.2.2.2.2.2.1, x.2.2.2.2.2.2.1, x.2.2.2.2.2.2.2.1, x.2.2.2.2.2.2.2.2.1, x.2.2.2.2.2.2.2.2.2.1, x.2.2.2.2.2.2.2.2.2.2.1, ()))
noncomputable def b8w : Go' W54 := fun y K => match y with
 | .inl y => K (.pan (.ifi 26 .i64) y.1) (fSt { tmps := V :: V :: .sc (.ptr 0 0 false) :: pv 43 [], mem := [.live [.one (.nilsl), .one (.nilsl), .one (.nilsl), .xs b32 (some 1280), .xs b32 (some 1536), .xs b32 (some 1536)] (.own)] } [.xs, .xs, .xs] y.2)
 | .inr y => K (.exit 2) (fSt { tmps := V :: .sc (.ptr 0 0 false) :: .sc (.ptr 1 0 false) :: .sc (.ptr 2 0 false) :: pv 42 [], mem := [.live [.one (.fr b8)] (.own), .live [.one (.nilsl), .one (.nilsl), .one (.nilsl), .xs b32 (some 1280), .xs b32 (some 1536), .xs b32 (some 1536)] (.own), .live [.one (.fr b8), .one (.fr b8), .one (.fr b8), .xs b32 (some 1280), .xs b32 (some 1536), .xs b32 (some 1536)] (.own)] } [.xs, .xs, .xs, .xs, .xs, .xs, .xs, .xs, .xs, .xs] y)
noncomputable def b0O (N : Nat) : LT := upd (b2o N) 10 (o9 b95 N (w4 N) b8w)
theorem b8x (N : Nat) : OkAll p_dsa_read_E a7K N (b0O N) (x4 a05) :=
 d7 (c := d8 10 a05) (b98 N) (by kernel_rfl) (fun x => by kernel_rfl) (fun β x kn ke => by kernel_rfl)
noncomputable def b96 : Shape := mkS { tmps := V :: .sc (.ptr 0 0 false) :: .sc (.ptr 1 0 false) :: .sc (.ptr 2 0 false) :: pv 29 (.sc (.int .i64) :: pv 12 []), mem := [.live [.one (.fr b8)] (.own), .live [.one (.nilsl), .one (.nilsl), .one (.nilsl), .xs b32 (some 1280), .xs b32 (some 1536), .xs b32 (some 1536)] (.own), .live [.one (.fr b8), .one (.fr b8), .one (.fr b8), .xs b32 (some 1280), .xs b32 (some 1536), .xs b32 (some 1536)] (.own)] } [.int, .xs, .xs, .xs, .xs, .xs, .xs, .xs, .xs, .xs, .xs]
abbrev W55 : Type := (Int × List Int × List Int × List Int × Unit) ⊕ (List Int × List Int × List Int × List Int × List Int × List Int × List Int × List Int × List Int × Unit)
noncomputable def H4 (N : Nat) (β : Type) (x : W53) (kn : W53 → Option β) (ke : W55 → Option β) : Option β :=
 if (x.1 < (6:Int)) then
  if 0 ≤ (416:Int) then (
  if (416:Int) ≤ (((List.length x.2.1) : Nat) : Int) then (
  if 0 ≤ (416:Int) then (
  if (416:Int) ≤ (((List.length x.2.1) : Nat) : Int) then (
  (j4 ((4096:Int), (13:Int), (List.take (416 - 0) (List.drop 0 x.2.1)), ())).bind fun r7 => (
  if (r7.2 ≠ (0:Int)) then
   ke (.inl (r7.2, x.2.2.1, x.2.2.2.1, x.2.2.2.2.1, ()))
  else
   if 0 ≤ x.1 then (
   if x.1 < 6 then (
   if ((x.1.toNat) * 256) + 256 ≤ 1536 then (
   kn ((IntKind.i64.wrap (x.1 + (1:Int))), (List.take ((List.length x.2.1) - 416) (List.drop 416 x.2.1)), x.2.2.1, x.2.2.2.1, x.2.2.2.2.1, x.2.2.2.2.2.1, x.2.2.2.2.2.2.1, x.2.2.2.2.2.2.2.1, x.2.2.2.2.2.2.2.2.1, x.2.2.2.2.2.2.2.2.2.1, (List.take ((x.1.toNat) * 256) x.2.2.2.2.2.2.2.2.2.2.1 ++ r7.1 ++ List.drop (((x.1.toNat) * 256) + 256) x.2.2.2.2.2.2.2.2.2.2.1), ())) else none) else none) else none)) else none) else none) else none) else none
 else
  ke (.inr (x.2.2.1, x.2.2.2.1, x.2.2.2.2.1, x.2.2.2.2.2.1, x.2.2.2.2.2.2.1, x.2.2.2.2.2.2.2.1, x.2.2.2.2.2.2.2.2.1, x.2.2.2.2.2.2.2.2.2.1, x.2.2.2.2.2.2.2.2.2.2.1, ()))
noncomputable def b8y : Go' W55 := fun y K => match y with
 | .inl y => K (.pan (.ifi 26 .i64) y.1) (fSt { tmps := V :: V :: .sc (.ptr 0 0 false) :: pv 43 [], mem := [.live [.one (.nilsl), .one (.nilsl), .one (.nilsl), .xs b32 (some 1280), .xs b32 (some 1536), .xs b32 (some 1536)] (.own)] } [.xs, .xs, .xs] y.2)
 | .inr y => K (.exit 4) (fSt { tmps := V :: V :: .sc (.ptr 0 0 false) :: .sc (.ptr 1 0 false) :: pv 42 [], mem := [.live [.one (.nilsl), .one (.nilsl), .one (.nilsl), .xs b32 (some 1280), .xs b32 (some 1536), .xs b32 (some 1536)] (.own), .live [.one (.fr b8), .one (.fr b8), .one (.fr b8), .xs b32 (some 1280), .xs b32 (some 1536), .xs b32 (some 1536)] (.own)] } [.xs, .xs, .xs, .xs, .xs, .xs, .xs, .xs, .xs] y)
noncomputable def b0P (N : Nat) : LT := upd (b0O N) 15 (o9 b96 N (H4 N) b8y)
theorem b8z (N : Nat) : OkAll p_dsa_read_E a7K N (b0P N) (x4 a05) :=
 d7 (c := d8 15 a05) (b8x N) (by kernel_rfl) (fun x => by kernel_rfl) (fun β x kn ke => by kernel_rfl)
abbrev a3J : List Kd := [.asl b8]
abbrev a3K : List Kd := [.cat [.fs b8, .fs b8, .fs b8, .xs b32 1280, .xs b32 1536, .xs b32 1536]]
noncomputable def a6g (N : Nat) (x : List Int × Unit) : Option (Int ⊕ ((List Int × List Int × List Int × List Int × List Int × List Int × Unit))) :=
 if (((List.length x.1 : Nat) : Int) ≠ (4032:Int)) then
  if ((160:Int) ≠ (0:Int)) then
   some (.inl (160:Int))
  else
   if 0 ≤ (32:Int) then (
   if (32:Int) ≤ (((List.length x.1) : Nat) : Int) then (
   if 0 ≤ (32:Int) then (
   if (32:Int) ≤ (((List.length x.1) : Nat) : Int) then (
   if 0 ≤ (32:Int) then (
   if (32:Int) ≤ (((List.length (List.take ((List.length x.1) - 32) (List.drop 32 x.1))) : Nat) : Int) then (
   if 0 ≤ (32:Int) then (
   if (32:Int) ≤ (((List.length (List.take ((List.length x.1) - 32) (List.drop 32 x.1))) : Nat) : Int) then (
   if 0 ≤ (64:Int) then (
   if (64:Int) ≤ (((List.length (List.take ((List.length (List.take ((List.length x.1) - 32) (List.drop 32 x.1))) - 32) (List.drop 32 (List.take ((List.length x.1) - 32) (List.drop 32 x.1))))) : Nat) : Int) then (
   if 0 ≤ (64:Int) then (
   if (64:Int) ≤ (((List.length (List.take ((List.length (List.take ((List.length x.1) - 32) (List.drop 32 x.1))) - 32) (List.drop 32 (List.take ((List.length x.1) - 32) (List.drop 32 x.1))))) : Nat) : Int) then (
   m9 (B3 N) N ((0:Int), (List.take ((List.length (List.take ((List.length (List.take ((List.length x.1) - 32) (List.drop 32 x.1))) - 32) (List.drop 32 (List.take ((List.length x.1) - 32) (List.drop 32 x.1))))) - 64) (List.drop 64 (List.take ((List.length (List.take ((List.length x.1) - 32) (List.drop 32 x.1))) - 32) (List.drop 32 (List.take ((List.length x.1) - 32) (List.drop 32 x.1)))))), (List.replicate 1280 0), (List.replicate 1536 0), (List.replicate 1536 0), (List.take (32 - 0) (List.drop 0 x.1)), (List.take (32 - 0) (List.drop 0 (List.take ((List.length x.1) - 32) (List.drop 32 x.1)))), (List.take (64 - 0) (List.drop 0 (List.take ((List.length (List.take ((List.length x.1) - 32) (List.drop 32 x.1))) - 32) (List.drop 32 (List.take ((List.length x.1) - 32) (List.drop 32 x.1)))))), (List.replicate 1280 0), (List.replicate 1536 0), (List.replicate 1536 0), ()) fun y => (match y with
   | .inl y2 => (
    some (.inl y2.1))
   | .inr y3 => (
    m9 (w4 N) N ((0:Int), y3.1, y3.2.1, y3.2.2.1, y3.2.2.2.1, y3.2.2.2.2.1, y3.2.2.2.2.2.1, y3.2.2.2.2.2.2.1, y3.2.2.2.2.2.2.2.1, y3.2.2.2.2.2.2.2.2.1, y3.2.2.2.2.2.2.2.2.2.1, ()) fun y => (match y with
    | .inl y5 => (
     some (.inl y5.1))
    | .inr y6 => (
     m9 (H4 N) N ((0:Int), y6.1, y6.2.1, y6.2.2.1, y6.2.2.2.1, y6.2.2.2.2.1, y6.2.2.2.2.2.1, y6.2.2.2.2.2.2.1, y6.2.2.2.2.2.2.2.1, y6.2.2.2.2.2.2.2.2.1, y6.2.2.2.2.2.2.2.2.2.1, ()) fun y => (match y with
     | .inl y8 => (
      some (.inl y8.1))
     | .inr y9 => (
      some (.inr (y9.2.2.2.1, y9.2.2.2.2.1, y9.2.2.2.2.2.1, y9.2.2.2.2.2.2.1, y9.2.2.2.2.2.2.2.1, y9.2.2.2.2.2.2.2.2.1, ()))))))))) else none) else none) else none) else none) else none) else none) else none) else none) else none) else none) else none) else none
 else
  if 0 ≤ (32:Int) then (
  if (32:Int) ≤ (((List.length x.1) : Nat) : Int) then (
  if 0 ≤ (32:Int) then (
  if (32:Int) ≤ (((List.length x.1) : Nat) : Int) then (
  if 0 ≤ (32:Int) then (
  if (32:Int) ≤ (((List.length (List.take ((List.length x.1) - 32) (List.drop 32 x.1))) : Nat) : Int) then (
  if 0 ≤ (32:Int) then (
  if (32:Int) ≤ (((List.length (List.take ((List.length x.1) - 32) (List.drop 32 x.1))) : Nat) : Int) then (
  if 0 ≤ (64:Int) then (
  if (64:Int) ≤ (((List.length (List.take ((List.length (List.take ((List.length x.1) - 32) (List.drop 32 x.1))) - 32) (List.drop 32 (List.take ((List.length x.1) - 32) (List.drop 32 x.1))))) : Nat) : Int) then (
  if 0 ≤ (64:Int) then (
  if (64:Int) ≤ (((List.length (List.take ((List.length (List.take ((List.length x.1) - 32) (List.drop 32 x.1))) - 32) (List.drop 32 (List.take ((List.length x.1) - 32) (List.drop 32 x.1))))) : Nat) : Int) then (
  m9 (B3 N) N ((0:Int), (List.take ((List.length (List.take ((List.length (List.take ((List.length x.1) - 32) (List.drop 32 x.1))) - 32) (List.drop 32 (List.take ((List.length x.1) - 32) (List.drop 32 x.1))))) - 64) (List.drop 64 (List.take ((List.length (List.take ((List.length x.1) - 32) (List.drop 32 x.1))) - 32) (List.drop 32 (List.take ((List.length x.1) - 32) (List.drop 32 x.1)))))), (List.replicate 1280 0), (List.replicate 1536 0), (List.replicate 1536 0), (List.take (32 - 0) (List.drop 0 x.1)), (List.take (32 - 0) (List.drop 0 (List.take ((List.length x.1) - 32) (List.drop 32 x.1)))), (List.take (64 - 0) (List.drop 0 (List.take ((List.length (List.take ((List.length x.1) - 32) (List.drop 32 x.1))) - 32) (List.drop 32 (List.take ((List.length x.1) - 32) (List.drop 32 x.1)))))), (List.replicate 1280 0), (List.replicate 1536 0), (List.replicate 1536 0), ()) fun y => (match y with
  | .inl y10 => (
   some (.inl y10.1))
  | .inr y11 => (
   m9 (w4 N) N ((0:Int), y11.1, y11.2.1, y11.2.2.1, y11.2.2.2.1, y11.2.2.2.2.1, y11.2.2.2.2.2.1, y11.2.2.2.2.2.2.1, y11.2.2.2.2.2.2.2.1, y11.2.2.2.2.2.2.2.2.1, y11.2.2.2.2.2.2.2.2.2.1, ()) fun y => (match y with
   | .inl y12 => (
    some (.inl y12.1))
   | .inr y13 => (
    m9 (H4 N) N ((0:Int), y13.1, y13.2.1, y13.2.2.1, y13.2.2.2.1, y13.2.2.2.2.1, y13.2.2.2.2.2.1, y13.2.2.2.2.2.2.1, y13.2.2.2.2.2.2.2.1, y13.2.2.2.2.2.2.2.2.1, y13.2.2.2.2.2.2.2.2.2.1, ()) fun y => (match y with
    | .inl y14 => (
     some (.inl y14.1))
    | .inr y15 => (
     some (.inr (y15.2.2.2.1, y15.2.2.2.2.1, y15.2.2.2.2.2.1, y15.2.2.2.2.2.2.1, y15.2.2.2.2.2.2.2.1, y15.2.2.2.2.2.2.2.2.1, ()))))))))) else none) else none) else none) else none) else none) else none) else none) else none) else none) else none) else none) else none
theorem c3i (e0 : c8 Try.prog 29 o6) (e1 : XOk Try.prog 51 b4l) : p_dsa_read_E.Ok Try.prog := AE.ofA_ok (all_cons G0 (all_cons s5 (all_cons b5C (all_cons b5D (all_cons c9e c6))))) (all_cons ⟨e0, J1⟩ c6) (all_cons ⟨e1, b9A⟩ c6) c6 c6 (all_cons ⟨O5, A7⟩ (all_cons ⟨b86, b37⟩ (all_cons ⟨a3n, a0C⟩ c6))) c6 c6 c6 c6
theorem c44 (hE : p_dsa_read_E.Ok Try.prog) {g : Ds a3J → Option (Bool × Int × Rs a3K)} (hg : ∀ x r, g x = some r → ∃ N, a6g N x = some (xr r)) : XOk Try.prog 25 ⟨a3J, a3K, (.ifi 26 .i64), g⟩ :=
 c1v (E := p_dsa_read_E) (H := a7K) (L := fun N => b0P N) (c := a05) (ks := a3J) (rs := a3K) (F := a6g) hE mix Try.func25 (by kernel_rfl) (fun N => b8z N) (fun _ _ => by kernel_rfl) hg
noncomputable abbrev b1s : Sig := ⟨[.int .i64], [.sl b8], a8O⟩
noncomputable abbrev b1q : Sig := ⟨[.int .i64, .sl b8], [.xs b32 256, .int .i64], a7o⟩
noncomputable abbrev N7 : Sig := ⟨[.rp (.xs b32 7680), .xs b32 1280], [.xs b32 1536], O2⟩
noncomputable abbrev a0w : Sig := ⟨[.sl b8, .xs b32 1536], [.sl b8], a0I⟩
noncomputable abbrev a4S : Sig := ⟨[.int .i64, .sl b8], [.xs b32 256, .int .i64], a48⟩
noncomputable abbrev b4k : Sig := ⟨[.xs b32 256, .xs b32 256], [.xs b32 256], U7⟩
noncomputable abbrev X3 : Sig := ⟨[.int .i32, .int .i64, .xs b32 256], [.sl b8, .int .i64], o0⟩
noncomputable abbrev a6k : Sig := ⟨[.xs b32 256, .xs b32 256], [.xs b32 256], a0F⟩
noncomputable abbrev a5q : Sig := ⟨[.xs b32 256, .xs b32 256], [.xs .bool 256, .int .i64], X9⟩
noncomputable abbrev a38 : Sig := ⟨[.sla .bool 256, .int .i64], [.sl b8, .int .i64], a1j⟩
noncomputable def p_dsa_secret_try_E : AE := AE.ofI [(5, ty5), (21, ty21), (23, ty23), (35, ty35), (40, ty40), (42, ty42), (44, ty44), (60, ty60), (69, ty69), (76, ty76)] [(17, b1s), (16, N8), (52, b1q), (19, N7), (53, D4), (41, a0w), (33, a4S), (54, b4k), (21, U4), (30, a0v), (24, X3), (37, a6k), (55, a5q), (56, a38)] [] [(14, a1l), (22, a6x)] [] [] []
noncomputable def P7 : Hints := [(3, [0, 1, 2, 3, 4, 10, 11, 12, 13, 31, 999999]), (10, [0, 2, 10, 11, 12, 13, 15, 16, 52, 999999]), (18, [0, 10, 11, 12, 13, 15, 19, 20, 76, 999999]), (27, [0, 10, 11, 15, 19, 20, 22, 23, 109, 999999]), (2000000, [0, 1, 2, 10, 11, 12, 13, 999999]), (2000001, [0, 1, 2, 3, 4, 10, 11, 12, 13, 31]), (2000002, [0, 2, 10, 11, 12, 13, 15, 16, 999999]), (2000003, [0, 2, 10, 11, 12, 13, 15, 16, 52]), (2000004, [0, 10, 11, 15, 19, 20, 999999]), (2000005, [0, 10, 11, 12, 13, 15, 19, 20, 76]), (2000006, [10, 11, 20, 22, 23, 999999]), (2000007, [0, 10, 11, 15, 19, 20, 22, 23, 109]), (3000000, [10, 11]), (5000000, [10, 11, 999999])]
noncomputable def q9 : Code := (Try.f27).body.getD .skip
noncomputable def b2p : Shape := mkS { tmps := .sc (.ptr 0 0 false) :: .sc (.ptr 1 0 false) :: .sc (.vec 2 none 1) :: .sc (.vec 3 none 1) :: .sc (.int .i64) :: pv 5 (.sc (.nilsl) :: .sc (.bool) :: .sc (.ptr 4 0 false) :: .sc (.ptr 5 0 false) :: pv 17 (.sc (.int .i64) :: pv 140 [])), mem := [.live [.one (.fr b8), .one (.fr b8), .one (.fr b8), .xs b32 (some 1280), .xs b32 (some 1536), .xs b32 (some 1536)] (.ro), .live [.xs b32 (some 7680)] (.ro), .live [.xs b8 none] (.ro), .live [.xs b8 none] (.ro), .live [.xs b32 (some 1280)] (.own), .live [.xs b32 (some 1280)] (.own)] } [.nat, .nat, .int, .bool, .int, .xs, .xs, .xs, .xs, .xs, .xs, .xs, .nat, .xs, .nat, .xs, .xs, .xs]
abbrev W56 : Type := Nat × Nat × Int × Bool × Int × List Int × List Int × List Int × List Int × List Int × List Int × List Int × Nat × List Int × Nat × List Int × List Int × List Int × Unit
abbrev W57 : Type := (Int × Bool × Unit) ⊕ (Nat × Bool × List Int × List Int × List Int × List Int × List Int × List Int × List Int × Nat × List Int × List Int × List Int × Unit)
noncomputable def z4 (N : Nat) (β : Type) (x : W56) (kn : W56 → Option β) (ke : W57 → Option β) : Option β :=
 if (x.2.2.2.2.1 < (5:Int)) then
  (a8O ((IntKind.i64.wrap ((IntKind.i64.wrap (x.2.2.1 * (5:Int))) + x.2.2.2.2.1)), ())).bind fun r1 => (
  (m7 ([x.2.2.2.2.2.2.2.2.2.2.2.2.2.2.2.1, r1], ())).bind fun r2 => (
  (a7o ((20:Int), r2, ())).bind fun r3 => (
  if (r3.2 ≠ (0:Int)) then
   ke (.inl (r3.2, (decide (x.2.2.2.1 = true)), ()))
  else
   if 0 ≤ x.2.2.2.2.1 then (
   if x.2.2.2.2.1 < 5 then (
   if ((x.2.2.2.2.1.toNat) * 256) + 256 ≤ 1280 then (
   kn (x.1, x.2.1, x.2.2.1, (decide (x.2.2.2.1 = true)), (IntKind.i64.wrap (x.2.2.2.2.1 + (1:Int))), x.2.2.2.2.2.1, x.2.2.2.2.2.2.1, x.2.2.2.2.2.2.2.1, x.2.2.2.2.2.2.2.2.1, x.2.2.2.2.2.2.2.2.2.1, x.2.2.2.2.2.2.2.2.2.2.1, x.2.2.2.2.2.2.2.2.2.2.2.1, x.2.2.2.2.2.2.2.2.2.2.2.2.1, x.2.2.2.2.2.2.2.2.2.2.2.2.2.1, x.2.2.2.2.2.2.2.2.2.2.2.2.2.2.1, x.2.2.2.2.2.2.2.2.2.2.2.2.2.2.2.1, (List.take ((x.2.2.2.2.1.toNat) * 256) x.2.2.2.2.2.2.2.2.2.2.2.2.2.2.2.2.1 ++ r3.1 ++ List.drop (((x.2.2.2.2.1.toNat) * 256) + 256) x.2.2.2.2.2.2.2.2.2.2.2.2.2.2.2.2.1), x.2.2.2.2.2.2.2.2.2.2.2.2.2.2.2.2.2.1, ())) else none) else none) else none)))
 else
  ke (.inr (x.1, (decide (x.2.2.2.1 = true)), x.2.2.2.2.2.1, x.2.2.2.2.2.2.1, x.2.2.2.2.2.2.2.1, x.2.2.2.2.2.2.2.2.1, x.2.2.2.2.2.2.2.2.2.1, x.2.2.2.2.2.2.2.2.2.2.1, x.2.2.2.2.2.2.2.2.2.2.2.1, x.2.2.2.2.2.2.2.2.2.2.2.2.1, x.2.2.2.2.2.2.2.2.2.2.2.2.2.1, x.2.2.2.2.2.2.2.2.2.2.2.2.2.2.2.2.1, x.2.2.2.2.2.2.2.2.2.2.2.2.2.2.2.2.2.1, ()))
noncomputable def b1j : Go' W57 := fun y K => match y with
 | .inl y => K (.pan (.ifi 26 .i64) y.1) (fSt { tmps := pv 10 (.sc (.nilsl) :: .sc (.bool) :: pv 160 []), mem := [] } [.bool] y.2)
 | .inr y => K (.exit 0) (fSt { tmps := .sc (.ptr 0 0 false) :: .sc (.ptr 1 0 false) :: .sc (.vec 2 none 1) :: pv 7 (.sc (.nilsl) :: .sc (.bool) :: .sc (.ptr 3 0 false) :: .sc (.ptr 4 0 false) :: pv 158 []), mem := [.live [.one (.fr b8), .one (.fr b8), .one (.fr b8), .xs b32 (some 1280), .xs b32 (some 1536), .xs b32 (some 1536)] (.ro), .live [.xs b32 (some 7680)] (.ro), .live [.xs b8 none] (.ro), .live [.xs b32 (some 1280)] (.own), .live [.xs b32 (some 1280)] (.own)] } [.nat, .bool, .xs, .xs, .xs, .xs, .xs, .xs, .xs, .nat, .xs, .xs, .xs] y)
noncomputable def a5k (N : Nat) : LT := upd (LT.nil) 3 (o9 b2p N (z4 N) b1j)
theorem b1k (N : Nat) : OkAll p_dsa_secret_try_E P7 N (a5k N) (x4 q9) :=
 d7 (c := d8 3 q9) (OkAll.nil) (by kernel_rfl) (fun x => by kernel_rfl) (fun β x kn ke => by kernel_rfl)
noncomputable def b1g : Shape := mkS { tmps := .sc (.ptr 0 0 false) :: V :: .sc (.vec 1 none 1) :: pv 7 (.sc (.nilsl) :: .sc (.bool) :: .sc (.ptr 2 0 false) :: .sc (.ptr 3 0 false) :: V :: .sc (.ptr 4 0 false) :: .sc (.ptr 5 0 false) :: pv 35 (.sc (.int .i64) :: pv 119 [])), mem := [.live [.one (.fr b8), .one (.fr b8), .one (.fr b8), .xs b32 (some 1280), .xs b32 (some 1536), .xs b32 (some 1536)] (.ro), .live [.xs b8 none] (.ro), .live [.xs b32 (some 1280)] (.own), .live [.xs b32 (some 1280)] (.own), .live [.xs b32 (some 1536)] (.own), .live [.xs b32 (some 1536)] (.own)] } [.nat, .bool, .int, .xs, .xs, .xs, .xs, .xs, .xs, .nat, .xs, .xs, .xs, .xs, .xs]
abbrev W58 : Type := Nat × Bool × Int × List Int × List Int × List Int × List Int × List Int × List Int × Nat × List Int × List Int × List Int × List Int × List Int × Unit
abbrev W59 : Type := Nat × Bool × List Int × List Int × List Int × List Int × List Int × List Int × Nat × List Int × List Int × List Int × List Int × List Int × Unit
noncomputable def v4 (N : Nat) (β : Type) (x : W58) (kn : W58 → Option β) (ke : W59 → Option β) : Option β :=
 if (x.2.2.1 < (6:Int)) then
  if 0 ≤ x.2.2.1 then (
  if x.2.2.1 < 6 then (
  if ((x.2.2.1.toNat) * 256) + 256 ≤ 1536 then (
  (x5 ((List.take 256 (List.drop ((x.2.2.1.toNat) * 256) x.2.2.2.2.2.2.2.2.2.2.2.2.2.1)), ())).bind fun r7 => (
  if 0 ≤ x.2.2.1 then (
  if x.2.2.1 < 6 then (
  if ((x.2.2.1.toNat) * 256) + 256 ≤ 1536 then (
  kn (x.1, (decide (x.2.1 = true)), (IntKind.i64.wrap (x.2.2.1 + (1:Int))), x.2.2.2.1, x.2.2.2.2.1, x.2.2.2.2.2.1, x.2.2.2.2.2.2.1, x.2.2.2.2.2.2.2.1, x.2.2.2.2.2.2.2.2.1, x.2.2.2.2.2.2.2.2.2.1, x.2.2.2.2.2.2.2.2.2.2.1, x.2.2.2.2.2.2.2.2.2.2.2.1, x.2.2.2.2.2.2.2.2.2.2.2.2.1, x.2.2.2.2.2.2.2.2.2.2.2.2.2.1, (List.take ((x.2.2.1.toNat) * 256) x.2.2.2.2.2.2.2.2.2.2.2.2.2.2.1 ++ r7.1 ++ List.drop (((x.2.2.1.toNat) * 256) + 256) x.2.2.2.2.2.2.2.2.2.2.2.2.2.2.1), ())) else none) else none) else none)) else none) else none) else none
 else
  ke (x.1, (decide (x.2.1 = true)), x.2.2.2.1, x.2.2.2.2.1, x.2.2.2.2.2.1, x.2.2.2.2.2.2.1, x.2.2.2.2.2.2.2.1, x.2.2.2.2.2.2.2.2.1, x.2.2.2.2.2.2.2.2.2.1, x.2.2.2.2.2.2.2.2.2.2.1, x.2.2.2.2.2.2.2.2.2.2.2.1, x.2.2.2.2.2.2.2.2.2.2.2.2.1, x.2.2.2.2.2.2.2.2.2.2.2.2.2.1, x.2.2.2.2.2.2.2.2.2.2.2.2.2.2.1, ())
noncomputable def b0e : Go' W59 := fun y K => K (.exit 2) (fSt { tmps := .sc (.ptr 0 0 false) :: V :: .sc (.vec 1 none 1) :: pv 7 (.sc (.nilsl) :: .sc (.bool) :: .sc (.ptr 2 0 false) :: .sc (.ptr 3 0 false) :: V :: .sc (.ptr 4 0 false) :: .sc (.ptr 5 0 false) :: pv 155 []), mem := [.live [.one (.fr b8), .one (.fr b8), .one (.fr b8), .xs b32 (some 1280), .xs b32 (some 1536), .xs b32 (some 1536)] (.ro), .live [.xs b8 none] (.ro), .live [.xs b32 (some 1280)] (.own), .live [.xs b32 (some 1280)] (.own), .live [.xs b32 (some 1536)] (.own), .live [.xs b32 (some 1536)] (.own)] } [.nat, .bool, .xs, .xs, .xs, .xs, .xs, .xs, .nat, .xs, .xs, .xs, .xs, .xs] y)
noncomputable def a34 (N : Nat) : LT := upd (a5k N) 10 (o9 b1g N (v4 N) b0e)
theorem b0f (N : Nat) : OkAll p_dsa_secret_try_E P7 N (a34 N) (x4 q9) :=
 d7 (c := d8 10 q9) (b1k N) (by kernel_rfl) (fun x => by kernel_rfl) (fun β x kn ke => by kernel_rfl)
noncomputable def b1h : Shape := mkS { tmps := .sc (.ptr 0 0 false) :: pv 9 (.sc (.nilsl) :: .sc (.bool) :: .sc (.ptr 1 0 false) :: .sc (.ptr 2 0 false) :: V :: .sc (.ptr 3 0 false) :: pv 3 (.sc (.ptr 4 0 false) :: .sc (.vec 5 none 1) :: pv 55 (.sc (.int .i64) :: pv 95 []))), mem := [.live [.one (.fr b8), .one (.fr b8), .one (.fr b8), .xs b32 (some 1280), .xs b32 (some 1536), .xs b32 (some 1536)] (.ro), .live [.xs b32 (some 1280)] (.own), .live [.xs b32 (some 1280)] (.own), .live [.xs b32 (some 1536)] (.own), .live [.xs b32 (some 256)] (.own), .live [.xs b8 none] (.own)] } [.bool, .nat, .int, .xs, .xs, .xs, .xs, .xs, .xs, .xs, .xs, .xs, .xs, .nat, .xs]
abbrev W60 : Type := Bool × Nat × Int × List Int × List Int × List Int × List Int × List Int × List Int × List Int × List Int × List Int × List Int × Nat × List Int × Unit
abbrev W61 : Type := (Bool × Unit) ⊕ ((Int × Bool × Unit) ⊕ (Bool × Nat × List Int × List Int × List Int × List Int × List Int × List Int × List Int × List Int × Nat × List Int × Unit))
noncomputable def k0 (N : Nat) (β : Type) (x : W60) (kn : W60 → Option β) (ke : W61 → Option β) : Option β :=
 if (x.2.2.1 < (5:Int)) then
  if 0 ≤ x.2.2.1 then (
  if x.2.2.1 < 5 then (
  if ((x.2.2.1.toNat) * 256) + 256 ≤ 1280 then (
  if 0 ≤ x.2.2.1 then (
  if x.2.2.1 < 5 then (
  if ((x.2.2.1.toNat) * 256) + 256 ≤ 1280 then (
  (U7 (x.2.2.2.2.2.2.2.2.2.2.2.2.1, (List.take 256 (List.drop ((x.2.2.1.toNat) * 256) x.2.2.2.2.2.2.1)), ())).bind fun r12 => (
  (Q4 ((List.take 256 (List.drop ((x.2.2.1.toNat) * 256) x.2.2.2.2.2.2.2.2.2.1)), r12, ())).bind fun r13 => (
  if 0 ≤ x.2.2.1 then (
  if x.2.2.1 < 5 then (
  if ((x.2.2.1.toNat) * 256) + 256 ≤ 1280 then (
  if 0 ≤ x.2.2.1 then (
  if x.2.2.1 < 5 then (
  if ((x.2.2.1.toNat) * 256) + 256 ≤ 1280 then (
  (U0 ((List.take 256 (List.drop ((x.2.2.1.toNat) * 256) (List.take ((x.2.2.1.toNat) * 256) x.2.2.2.2.2.2.2.2.2.2.1 ++ r13 ++ List.drop (((x.2.2.1.toNat) * 256) + 256) x.2.2.2.2.2.2.2.2.2.2.1))), ())).bind fun r14 => (
  if (r14 ≥ (524092:Int)) then
   ke (.inl (false, ()))
  else
   if 0 ≤ x.2.2.1 then (
   if x.2.2.1 < 5 then (
   if ((x.2.2.1.toNat) * 256) + 256 ≤ 1280 then (
   (o0 ((524288:Int), (20:Int), (List.take 256 (List.drop ((x.2.2.1.toNat) * 256) (List.take ((x.2.2.1.toNat) * 256) x.2.2.2.2.2.2.2.2.2.2.1 ++ r13 ++ List.drop (((x.2.2.1.toNat) * 256) + 256) x.2.2.2.2.2.2.2.2.2.2.1))), ())).bind fun r15 => (
   if (r15.2 ≠ (0:Int)) then
    ke (.inr (.inl (r15.2, (decide (x.1 = true)), ())))
   else
    if (x.2.1 + (List.length r15.1)) * 1 ≤ 140737488355328 then (
    kn ((decide (x.1 = true)), (x.2.1 + (List.length r15.1)), (IntKind.i64.wrap (x.2.2.1 + (1:Int))), x.2.2.2.1, x.2.2.2.2.1, x.2.2.2.2.2.1, x.2.2.2.2.2.2.1, x.2.2.2.2.2.2.2.1, x.2.2.2.2.2.2.2.2.1, x.2.2.2.2.2.2.2.2.2.1, (List.take ((x.2.2.1.toNat) * 256) x.2.2.2.2.2.2.2.2.2.2.1 ++ r13 ++ List.drop (((x.2.2.1.toNat) * 256) + 256) x.2.2.2.2.2.2.2.2.2.2.1), x.2.2.2.2.2.2.2.2.2.2.2.1, x.2.2.2.2.2.2.2.2.2.2.2.2.1, (x.2.2.2.2.2.2.2.2.2.2.2.2.2.1 + (List.length r15.1)), (x.2.2.2.2.2.2.2.2.2.2.2.2.2.2.1 ++ r15.1), ())) else none)) else none) else none) else none)) else none) else none) else none) else none) else none) else none))) else none) else none) else none) else none) else none) else none
 else
  ke (.inr (.inr ((decide (x.1 = true)), x.2.1, x.2.2.2.1, x.2.2.2.2.1, x.2.2.2.2.2.1, x.2.2.2.2.2.2.1, x.2.2.2.2.2.2.2.1, x.2.2.2.2.2.2.2.2.1, x.2.2.2.2.2.2.2.2.2.2.2.1, x.2.2.2.2.2.2.2.2.2.2.2.2.1, x.2.2.2.2.2.2.2.2.2.2.2.2.2.1, x.2.2.2.2.2.2.2.2.2.2.2.2.2.2.1, ())))
noncomputable def b0g : Go' W61 := fun y K => match y with
 | .inl y => K .ret (fSt { tmps := pv 10 (.sc (.nilsl) :: .sc (.bool) :: pv 160 []), mem := [] } [.bool] y)
 | .inr (.inl y) => K (.pan (.ifi 26 .i64) y.1) (fSt { tmps := pv 10 (.sc (.nilsl) :: .sc (.bool) :: pv 160 []), mem := [] } [.bool] y.2)
 | .inr (.inr y) => K (.exit 4) (fSt { tmps := .sc (.ptr 0 0 false) :: pv 9 (.sc (.nilsl) :: .sc (.bool) :: pv 3 (.sc (.ptr 1 0 false) :: pv 3 (.sc (.ptr 2 0 false) :: .sc (.vec 3 none 1) :: pv 151 []))), mem := [.live [.one (.fr b8), .one (.fr b8), .one (.fr b8), .xs b32 (some 1280), .xs b32 (some 1536), .xs b32 (some 1536)] (.ro), .live [.xs b32 (some 1536)] (.own), .live [.xs b32 (some 256)] (.own), .live [.xs b8 none] (.own)] } [.bool, .nat, .xs, .xs, .xs, .xs, .xs, .xs, .xs, .xs, .nat, .xs] y)
noncomputable def a35 (N : Nat) : LT := upd (a34 N) 18 (o9 b1h N (k0 N) b0g)
theorem b0h (N : Nat) : OkAll p_dsa_secret_try_E P7 N (a35 N) (x4 q9) :=
 d7 (c := d8 18 q9) (b0f N) (by kernel_rfl) (fun x => by kernel_rfl) (fun β x kn ke => by kernel_rfl)
noncomputable def b1i : Shape := mkS { tmps := .sc (.ptr 0 0 false) :: pv 9 (.sc (.nilsl) :: .sc (.bool) :: pv 3 (.sc (.ptr 1 0 false) :: pv 3 (.sc (.ptr 2 0 false) :: .sc (.vec 3 none 1) :: V :: .sc (.vec 4 (some 6) 256) :: .sc (.int .i64) :: pv 85 (.sc (.int .i64) :: pv 62 [])))), mem := [.live [.one (.fr b8), .one (.fr b8), .one (.fr b8), .xs b32 (some 1280), .xs b32 (some 1536), .xs b32 (some 1536)] (.ro), .live [.xs b32 (some 1536)] (.own), .live [.xs b32 (some 256)] (.own), .live [.xs b8 none] (.own), .live [.xs .bool (some 1536)] (.own)] } [.bool, .nat, .int, .int, .xs, .xs, .xs, .xs, .xs, .xs, .xs, .xs, .nat, .xs, .xs]
abbrev W62 : Type := Bool × Nat × Int × Int × List Int × List Int × List Int × List Int × List Int × List Int × List Int × List Int × Nat × List Int × List Int × Unit
abbrev W63 : Type := (Bool × Unit) ⊕ (Bool × Nat × Int × Nat × List Int × List Int × Unit)
noncomputable def k9 (N : Nat) (β : Type) (x : W62) (kn : W62 → Option β) (ke : W63 → Option β) : Option β :=
 if (x.2.2.2.1 < (6:Int)) then
  if 0 ≤ x.2.2.2.1 then (
  if x.2.2.2.1 < 6 then (
  if ((x.2.2.2.1.toNat) * 256) + 256 ≤ 1536 then (
  if 0 ≤ x.2.2.2.1 then (
  if x.2.2.2.1 < 6 then (
  if ((x.2.2.2.1.toNat) * 256) + 256 ≤ 1536 then (
  (U7 (x.2.2.2.2.2.2.2.2.2.2.2.1, (List.take 256 (List.drop ((x.2.2.2.1.toNat) * 256) x.2.2.2.2.2.2.2.2.1)), ())).bind fun r19 => (
  (a0F ((List.take 256 (List.drop ((x.2.2.2.1.toNat) * 256) x.2.2.2.2.2.2.2.2.2.2.1)), r19, ())).bind fun r20 => (
  if 0 ≤ x.2.2.2.1 then (
  if x.2.2.2.1 < 6 then (
  if ((x.2.2.2.1.toNat) * 256) + 256 ≤ 1536 then (
  (U7 (x.2.2.2.2.2.2.2.2.2.2.2.1, (List.take 256 (List.drop ((x.2.2.2.1.toNat) * 256) x.2.2.2.2.2.2.2.2.2.1)), ())).bind fun r21 => (
  (x5 (r20, ())).bind fun r22 => (
  (U0 (r22.2, ())).bind fun r23 => (
  if (r23 ≥ (261692:Int)) then
   ke (.inl (false, ()))
  else
   (U0 (r21, ())).bind fun r24 => (
   if (r24 ≥ (261888:Int)) then
    ke (.inl (false, ()))
   else
    (a0F ((List.replicate 256 0), r21, ())).bind fun r25 => (
    (Q4 (r20, r21, ())).bind fun r26 => (
    (X9 (r25, r26, ())).bind fun r27 => (
    if 0 ≤ x.2.2.2.1 then (
    if x.2.2.2.1 < (6:Int) then (
    if ((x.2.2.2.1.toNat) * 256) + 256 ≤ 1536 then (
    kn ((decide (x.1 = true)), x.2.1, (IntKind.i64.wrap (x.2.2.1 + r27.2)), (IntKind.i64.wrap (x.2.2.2.1 + (1:Int))), x.2.2.2.2.1, x.2.2.2.2.2.1, x.2.2.2.2.2.2.1, x.2.2.2.2.2.2.2.1, x.2.2.2.2.2.2.2.2.1, x.2.2.2.2.2.2.2.2.2.1, x.2.2.2.2.2.2.2.2.2.2.1, x.2.2.2.2.2.2.2.2.2.2.2.1, x.2.2.2.2.2.2.2.2.2.2.2.2.1, x.2.2.2.2.2.2.2.2.2.2.2.2.2.1, (List.take ((x.2.2.2.1.toNat) * 256) x.2.2.2.2.2.2.2.2.2.2.2.2.2.2.1 ++ r27.1 ++ List.drop (((x.2.2.2.1.toNat) * 256) + 256) x.2.2.2.2.2.2.2.2.2.2.2.2.2.2.1), ())) else none) else none) else none)))))))) else none) else none) else none))) else none) else none) else none) else none) else none) else none
 else
  ke (.inr ((decide (x.1 = true)), x.2.1, x.2.2.1, x.2.2.2.2.2.2.2.2.2.2.2.2.1, x.2.2.2.2.2.2.2.2.2.2.2.2.2.1, x.2.2.2.2.2.2.2.2.2.2.2.2.2.2.1, ()))
noncomputable def b0i : Go' W63 := fun y K => match y with
 | .inl y => K .ret (fSt { tmps := pv 10 (.sc (.nilsl) :: .sc (.bool) :: pv 160 []), mem := [] } [.bool] y)
 | .inr y => K (.exit 6) (fSt { tmps := pv 10 (.sc (.nilsl) :: .sc (.bool) :: pv 8 (.sc (.vec 0 none 1) :: V :: .sc (.vec 1 (some 6) 256) :: .sc (.int .i64) :: pv 148 [])), mem := [.live [.xs b8 none] (.own), .live [.xs .bool (some 1536)] (.own)] } [.bool, .nat, .int, .nat, .xs, .xs] y)
noncomputable def a36 (N : Nat) : LT := upd (a35 N) 27 (o9 b1i N (k9 N) b0i)
theorem b0j (N : Nat) : OkAll p_dsa_secret_try_E P7 N (a36 N) (x4 q9) :=
 d7 (c := d8 27 q9) (b0h N) (by kernel_rfl) (fun x => by kernel_rfl) (fun β x kn ke => by kernel_rfl)
abbrev M1 : List Kd := [.rp (.ct [.fs b8, .fs b8, .fs b8, .xs b32 1280, .xs b32 1536, .xs b32 1536]), .rp (.xs b32 7680), .sl b8, .sl b8, .int .i64]
abbrev M2 : List Kd := [.sl b8, .bool]
noncomputable def Z1 (N : Nat) (x : (List Int × List Int × List Int × List Int × List Int × List Int × Unit) × List Int × List Int × List Int × Int × Unit) : Option (Int ⊕ (List Int × Bool)) :=
 m9 (z4 N) N ((List.length x.2.2.1), (List.length x.2.2.2.1), x.2.2.2.2.1, false, (0:Int), x.1.1, x.1.2.1, x.1.2.2.1, x.1.2.2.2.1, x.1.2.2.2.2.1, x.1.2.2.2.2.2.1, x.2.1, (List.length x.2.2.1), x.2.2.1, (List.length x.2.2.2.1), x.2.2.2.1, (List.replicate 1280 0), (List.replicate 1280 0), ()) fun y => (match y with
 | .inl y4 => (
  some (.inl y4.1))
 | .inr y5 => (
  (O2 (y5.2.2.2.2.2.2.2.2.1, y5.2.2.2.2.2.2.2.2.2.2.2.1, ())).bind fun r6 => (
  m9 (v4 N) N (y5.1, y5.2.1, (0:Int), y5.2.2.1, y5.2.2.2.1, y5.2.2.2.2.1, y5.2.2.2.2.2.1, y5.2.2.2.2.2.2.1, y5.2.2.2.2.2.2.2.1, y5.2.2.2.2.2.2.2.2.2.1, y5.2.2.2.2.2.2.2.2.2.2.1, y5.2.2.2.2.2.2.2.2.2.2.2.1, y5.2.2.2.2.2.2.2.2.2.2.2.2.1, r6, (List.replicate 1536 0), ()) fun y8 => (
  (a0I (y8.2.2.2.2.2.2.2.2.2.1, y8.2.2.2.2.2.2.2.2.2.2.2.2.2.1, ())).bind fun r9 => (
  (a48 ((49:Int), r9, ())).bind fun r10 => (
  if (r10.2 ≠ (0:Int)) then
   some (.inl r10.2)
  else
   (m7 ([r9], ())).bind fun r11 => (
   m9 (k0 N) N (y8.2.1, (List.length r11), (0:Int), y8.2.2.1, y8.2.2.2.1, y8.2.2.2.2.1, y8.2.2.2.2.2.1, y8.2.2.2.2.2.2.1, y8.2.2.2.2.2.2.2.1, y8.2.2.2.2.2.2.2.2.2.2.1, y8.2.2.2.2.2.2.2.2.2.2.2.1, y8.2.2.2.2.2.2.2.2.2.2.2.2.1, r10.1, (List.length r11), r11, ()) fun y => (match y with
   | .inl y16 => (
    some (.inr ([], y16.1)))
   | .inr (.inl y17) => (
    some (.inl y17.1))
   | .inr (.inr y18) => (
    if 0 ≤ (6:Int) then (
    if (6:Int) = (6:Int) then (
    if (6:Int) * 256 ≤ 281474976710656 then (
    m9 (k9 N) N (y18.1, y18.2.1, (0:Int), (0:Int), y18.2.2.1, y18.2.2.2.1, y18.2.2.2.2.1, y18.2.2.2.2.2.1, y18.2.2.2.2.2.2.1, y18.2.2.2.2.2.2.2.1, y18.2.2.2.2.2.2.2.2.1, y18.2.2.2.2.2.2.2.2.2.1, y18.2.2.2.2.2.2.2.2.2.2.1, y18.2.2.2.2.2.2.2.2.2.2.2.1, (List.replicate 1536 0), ()) fun y => (match y with
    | .inl y28 => (
     some (.inr ([], y28.1)))
    | .inr y29 => (
     if (y29.2.2.1 > (55:Int)) then
      some (.inr ([], false))
     else
      (a1j (y29.2.2.2.2.2.1, (55:Int), ())).bind fun r30 => (
      if (r30.2 ≠ (0:Int)) then
       some (.inl r30.2)
      else
       if (y29.2.1 + (List.length r30.1)) * 1 ≤ 140737488355328 then (
       some (.inr ((y29.2.2.2.2.1 ++ r30.1), true))) else none)))) else none) else none) else none)))))))))
theorem b3G (e0 : c8 Try.prog 17 b1s) (e1 : c8 Try.prog 16 N8) (e2 : c8 Try.prog 52 b1q) (e3 : c8 Try.prog 19 N7) (e4 : c8 Try.prog 53 D4) (e5 : c8 Try.prog 41 a0w) (e6 : c8 Try.prog 33 a4S) (e7 : c8 Try.prog 54 b4k) (e8 : c8 Try.prog 21 U4) (e9 : c8 Try.prog 30 a0v) (e10 : c8 Try.prog 24 X3) (e11 : c8 Try.prog 37 a6k) (e12 : c8 Try.prog 55 a5q) (e13 : c8 Try.prog 56 a38) : p_dsa_secret_try_E.Ok Try.prog := AE.ofI_ok (all_cons Z8 (all_cons u6 (all_cons G0 (all_cons a2P (all_cons s5 (all_cons b5C (all_cons b5D (all_cons c9e (all_cons c5A (all_cons b8X c6)))))))))) (all_cons ⟨e0, b38⟩ (all_cons ⟨e1, a1h⟩ (all_cons ⟨e2, b7K⟩ (all_cons ⟨e3, a3i⟩ (all_cons ⟨e4, a0h⟩ (all_cons ⟨e5, a5N⟩ (all_cons ⟨e6, a8C⟩ (all_cons ⟨e7, b9z⟩ (all_cons ⟨e8, a2l⟩ (all_cons ⟨e9, a4g⟩ (all_cons ⟨e10, a40⟩ (all_cons ⟨e11, b0C⟩ (all_cons ⟨e12, b1H⟩ (all_cons ⟨e13, b0V⟩ c6)))))))))))))) c6 (all_cons ⟨O5, A7⟩ (all_cons ⟨a2V, a0b⟩ c6)) c6
theorem b49 (hE : p_dsa_secret_try_E.Ok Try.prog) {g : Ds M1 → Option (Bool × Int × Rs M2)} (hg : ∀ x r, g x = some r → ∃ N, Z1 N x = some (xr r)) : XOk Try.prog 27 ⟨M1, M2, (.ifi 26 .i64), g⟩ :=
 c1v (E := p_dsa_secret_try_E) (H := P7) (L := fun N => a36 N) (c := q9) (ks := M1) (rs := M2) (F := Z1) hE mix Try.func27 (by kernel_rfl) (fun N => b0j N) (fun _ _ => by kernel_rfl) hg
noncomputable abbrev a3d : Sig := ⟨[.int .i64, .sl b8], [.xs b32 256, .int .i64], G2⟩
noncomputable abbrev a2z : Sig := ⟨[.xs b32 256], [.xs b32 256, .xs b32 256], U8⟩
noncomputable abbrev a0x : XSig := ⟨[.sl b8], [.op [.xs b32 7680]], (.ifi 26 .i64), O1⟩
noncomputable def p_dsa_KeyGen_E : AE := AE.ofA [(5, ty5), (22, ty22), (23, ty23), (26, ty26), (35, ty35), (40, ty40), (42, ty42), (44, ty44)] [(13, R8), (17, b1s), (16, N8), (15, a3d), (19, N7), (21, U4), (20, a2z), (23, a4T), (24, X3)] [(18, a0x)] [(12, a4C)] [] [(14, a1l), (22, a6x)] [] [] [] [] [] []
noncomputable def a0f : Hints := [(7, [2, 3, 4, 6, 7, 8, 9, 10, 30]), (12, [2, 3, 4, 6, 7, 8, 9, 10, 45]), (20, [2, 3, 4, 6, 8, 9, 10, 13, 14, 68]), (28, [2, 3, 4, 9, 10, 14, 104]), (33, [2, 3, 4, 10, 14, 117]), (2000000, [2, 3, 4, 6, 7, 8, 9, 10]), (2000001, [2, 3, 4, 6, 7, 8, 9, 10, 30]), (2000002, [2, 3, 4, 6, 8, 9, 10]), (2000003, [2, 3, 4, 6, 7, 8, 9, 10, 45]), (2000004, [2, 3, 4, 6, 8, 9, 10, 14]), (2000005, [2, 3, 4, 6, 8, 9, 10, 13, 14, 68]), (2000006, [2, 3, 4, 10, 14]), (2000007, [2, 3, 4, 9, 10, 14, 104]), (2000008, [2, 3, 4, 14]), (2000009, [2, 3, 4, 10, 14, 117]), (3000000, [2, 3, 4]), (5000000, [2, 3, 4]), (7000020, [14, 1])]
noncomputable def v8 : Code := (Try.f8).body.getD .skip
noncomputable def b8r : Shape := mkS { tmps := V :: V :: .sc (.nilsl) :: .sc (.nilsl) :: .sc (.ptr 0 0 false) :: V :: .sc (.sl 1 (some 0) (some 32) none 1) :: .sc (.sl 1 (some 32) (some 64) none 1) :: .sc (.sl 1 (some 96) none none 1) :: .sc (.ptr 2 0 false) :: .sc (.ptr 3 0 false) :: pv 19 (.sc (.int .i64) :: pv 103 []), mem := [.live [.xs b64 (some 1)] (.own), .live [.xs b8 none] (.own), .live [.xs b32 (some 1280)] (.own), .live [.xs b32 (some 1536)] (.own)], dfr := [(12, [.ptr 0 0 false])] } [.nat, .nat, .nat, .nat, .int, .xs, .nat, .xs, .xs, .xs]
abbrev W64 : Type := Nat × Nat × Nat × Nat × Int × List Int × Nat × List Int × List Int × List Int × Unit
abbrev W65 : Type := (Int × List Int × Unit) ⊕ (Nat × Nat × Nat × Nat × List Int × Nat × List Int × List Int × List Int × Unit)
noncomputable def x6 (N : Nat) (β : Type) (x : W64) (kn : W64 → Option β) (ke : W65 → Option β) : Option β :=
 if (x.2.2.2.2.1 < (5:Int)) then
  (a8O (x.2.2.2.2.1, ())).bind fun r2 => (
  (m7 ([(List.take 64 (List.drop 32 x.2.2.2.2.2.2.2.1)), r2], ())).bind fun r3 => (
  (G2 ((4:Int), r3, ())).bind fun r4 => (
  if (r4.2 ≠ (0:Int)) then
   ke (.inl (r4.2, x.2.2.2.2.2.1, ()))
  else
   if 0 ≤ x.2.2.2.2.1 then (
   if x.2.2.2.2.1 < 5 then (
   if ((x.2.2.2.2.1.toNat) * 256) + 256 ≤ 1280 then (
   kn (x.1, x.2.1, x.2.2.1, x.2.2.2.1, (IntKind.i64.wrap (x.2.2.2.2.1 + (1:Int))), x.2.2.2.2.2.1, x.2.2.2.2.2.2.1, x.2.2.2.2.2.2.2.1, (List.take ((x.2.2.2.2.1.toNat) * 256) x.2.2.2.2.2.2.2.2.1 ++ r4.1 ++ List.drop (((x.2.2.2.2.1.toNat) * 256) + 256) x.2.2.2.2.2.2.2.2.1), x.2.2.2.2.2.2.2.2.2.1, ())) else none) else none) else none)))
 else
  ke (.inr (x.1, x.2.1, x.2.2.1, x.2.2.2.1, x.2.2.2.2.2.1, x.2.2.2.2.2.2.1, x.2.2.2.2.2.2.2.1, x.2.2.2.2.2.2.2.2.1, x.2.2.2.2.2.2.2.2.2.1, ()))
noncomputable def b6G : Go' W65 := fun y K => match y with
 | .inl y => K (.pan (.ifi 26 .i64) y.1) (fSt { tmps := V :: V :: .sc (.nilsl) :: .sc (.nilsl) :: .sc (.ptr 0 0 false) :: pv 129 [], mem := [.live [.xs b64 (some 1)] (.own)], dfr := [(12, [.ptr 0 0 false])] } [.xs] y.2)
 | .inr y => K (.exit 0) (fSt { tmps := V :: V :: .sc (.nilsl) :: .sc (.nilsl) :: .sc (.ptr 0 0 false) :: V :: .sc (.sl 1 (some 0) (some 32) none 1) :: .sc (.sl 1 (some 32) (some 64) none 1) :: .sc (.sl 1 (some 96) none none 1) :: .sc (.ptr 2 0 false) :: .sc (.ptr 3 0 false) :: pv 123 [], mem := [.live [.xs b64 (some 1)] (.own), .live [.xs b8 none] (.own), .live [.xs b32 (some 1280)] (.own), .live [.xs b32 (some 1536)] (.own)], dfr := [(12, [.ptr 0 0 false])] } [.nat, .nat, .nat, .nat, .xs, .nat, .xs, .xs, .xs] y)
noncomputable def a89 (N : Nat) : LT := upd (LT.nil) 7 (o9 b8r N (x6 N) b6G)
theorem b6H (N : Nat) : OkAll p_dsa_KeyGen_E a0f N (a89 N) (x4 v8) :=
 d7 (c := d8 7 v8) (OkAll.nil) (by kernel_rfl) (fun x => by kernel_rfl) (fun β x kn ke => by kernel_rfl)
noncomputable def b6C : Shape := mkS { tmps := V :: V :: .sc (.nilsl) :: .sc (.nilsl) :: .sc (.ptr 0 0 false) :: V :: .sc (.sl 1 (some 0) (some 32) none 1) :: .sc (.sl 1 (some 32) (some 64) none 1) :: .sc (.sl 1 (some 96) none none 1) :: .sc (.ptr 2 0 false) :: .sc (.ptr 3 0 false) :: pv 34 (.sc (.int .i64) :: pv 88 []), mem := [.live [.xs b64 (some 1)] (.own), .live [.xs b8 none] (.own), .live [.xs b32 (some 1280)] (.own), .live [.xs b32 (some 1536)] (.own)], dfr := [(12, [.ptr 0 0 false])] } [.nat, .nat, .nat, .nat, .int, .xs, .nat, .xs, .xs, .xs]
abbrev W66 : Type := (Int × List Int × Unit) ⊕ (Nat × Nat × Nat × List Int × Nat × List Int × List Int × List Int × Unit)
noncomputable def u9 (N : Nat) (β : Type) (x : W64) (kn : W64 → Option β) (ke : W66 → Option β) : Option β :=
 if (x.2.2.2.2.1 < (6:Int)) then
  (a8O ((IntKind.i64.wrap ((5:Int) + x.2.2.2.2.1)), ())).bind fun r7 => (
  (m7 ([(List.take 64 (List.drop 32 x.2.2.2.2.2.2.2.1)), r7], ())).bind fun r8 => (
  (G2 ((4:Int), r8, ())).bind fun r9 => (
  if (r9.2 ≠ (0:Int)) then
   ke (.inl (r9.2, x.2.2.2.2.2.1, ()))
  else
   if 0 ≤ x.2.2.2.2.1 then (
   if x.2.2.2.2.1 < 6 then (
   if ((x.2.2.2.2.1.toNat) * 256) + 256 ≤ 1536 then (
   kn (x.1, x.2.1, x.2.2.1, x.2.2.2.1, (IntKind.i64.wrap (x.2.2.2.2.1 + (1:Int))), x.2.2.2.2.2.1, x.2.2.2.2.2.2.1, x.2.2.2.2.2.2.2.1, x.2.2.2.2.2.2.2.2.1, (List.take ((x.2.2.2.2.1.toNat) * 256) x.2.2.2.2.2.2.2.2.2.1 ++ r9.1 ++ List.drop (((x.2.2.2.2.1.toNat) * 256) + 256) x.2.2.2.2.2.2.2.2.2.1), ())) else none) else none) else none)))
 else
  ke (.inr (x.1, x.2.2.1, x.2.2.2.1, x.2.2.2.2.2.1, x.2.2.2.2.2.2.1, x.2.2.2.2.2.2.2.1, x.2.2.2.2.2.2.2.2.1, x.2.2.2.2.2.2.2.2.2.1, ()))
noncomputable def b4U : Go' W66 := fun y K => match y with
 | .inl y => K (.pan (.ifi 26 .i64) y.1) (fSt { tmps := V :: V :: .sc (.nilsl) :: .sc (.nilsl) :: .sc (.ptr 0 0 false) :: pv 129 [], mem := [.live [.xs b64 (some 1)] (.own)], dfr := [(12, [.ptr 0 0 false])] } [.xs] y.2)
 | .inr y => K (.exit 2) (fSt { tmps := V :: V :: .sc (.nilsl) :: .sc (.nilsl) :: .sc (.ptr 0 0 false) :: V :: .sc (.sl 1 (some 0) (some 32) none 1) :: V :: .sc (.sl 1 (some 96) none none 1) :: .sc (.ptr 2 0 false) :: .sc (.ptr 3 0 false) :: pv 123 [], mem := [.live [.xs b64 (some 1)] (.own), .live [.xs b8 none] (.own), .live [.xs b32 (some 1280)] (.own), .live [.xs b32 (some 1536)] (.own)], dfr := [(12, [.ptr 0 0 false])] } [.nat, .nat, .nat, .xs, .nat, .xs, .xs, .xs] y)
noncomputable def a7C (N : Nat) : LT := upd (a89 N) 12 (o9 b6C N (u9 N) b4U)
theorem b4V (N : Nat) : OkAll p_dsa_KeyGen_E a0f N (a7C N) (x4 v8) :=
 d7 (c := d8 12 v8) (b6H N) (by kernel_rfl) (fun x => by kernel_rfl) (fun β x kn ke => by kernel_rfl)
noncomputable def b6D : Shape := mkS { tmps := V :: V :: .sc (.vec 1 none 1) :: .sc (.nilsl) :: .sc (.ptr 0 0 false) :: V :: .sc (.sl 2 (some 0) (some 32) none 1) :: V :: .sc (.sl 2 (some 96) none none 1) :: .sc (.ptr 3 0 false) :: .sc (.ptr 4 0 false) :: V :: V :: .sc (.ptr 5 0 false) :: .sc (.vec 6 none 1) :: pv 53 (.sc (.int .i64) :: pv 65 []), mem := [.live [.xs b64 (some 1)] (.own), .live [.xs b8 none] (.own), .live [.xs b8 none] (.own), .live [.xs b32 (some 1280)] (.own), .live [.xs b32 (some 1536)] (.own), .live [.xs b32 (some 1536)] (.own), .live [.xs b8 none] (.own)], dfr := [(12, [.ptr 0 0 false])] } [.nat, .nat, .nat, .nat, .nat, .int, .xs, .nat, .xs, .nat, .xs, .xs, .xs, .xs, .nat, .xs]
abbrev W67 : Type := Nat × Nat × Nat × Nat × Nat × Int × List Int × Nat × List Int × Nat × List Int × List Int × List Int × List Int × Nat × List Int × Unit
abbrev W68 : Type := (Int × Nat × List Int × Nat × List Int × Unit) ⊕ (Nat × Nat × Nat × Nat × Nat × List Int × Nat × List Int × Nat × List Int × List Int × List Int × Nat × List Int × Unit)
noncomputable def G5 (N : Nat) (β : Type) (x : W67) (kn : W67 → Option β) (ke : W68 → Option β) : Option β :=
 if (x.2.2.2.2.2.1 < (6:Int)) then
  if 0 ≤ x.2.2.2.2.2.1 then (
  if x.2.2.2.2.2.1 < 6 then (
  if ((x.2.2.2.2.2.1.toNat) * 256) + 256 ≤ 1536 then (
  if 0 ≤ x.2.2.2.2.2.1 then (
  if x.2.2.2.2.2.1 < 6 then (
  if ((x.2.2.2.2.2.1.toNat) * 256) + 256 ≤ 1536 then (
  (Q4 ((List.take 256 (List.drop ((x.2.2.2.2.2.1.toNat) * 256) x.2.2.2.2.2.2.2.2.2.2.2.2.2.1)), (List.take 256 (List.drop ((x.2.2.2.2.2.1.toNat) * 256) x.2.2.2.2.2.2.2.2.2.2.2.2.1)), ())).bind fun r16 => (
  (U8 (r16, ())).bind fun r17 => (
  (a2R ((10:Int), r17.1, ())).bind fun r18 => (
  if (r18.2 ≠ (0:Int)) then
   ke (.inl (r18.2, x.1, x.2.2.2.2.2.2.1, x.2.2.2.2.2.2.2.1, x.2.2.2.2.2.2.2.2.1, ()))
  else
   if (x.1 + (List.length r18.1)) * 1 ≤ 140737488355328 then (
   (o0 ((4096:Int), (13:Int), r17.2, ())).bind fun r19 => (
   if (r19.2 ≠ (0:Int)) then
    ke (.inl (r19.2, (x.1 + (List.length r18.1)), x.2.2.2.2.2.2.1, (x.2.2.2.2.2.2.2.1 + (List.length r18.1)), (x.2.2.2.2.2.2.2.2.1 ++ r18.1), ()))
   else
    if (x.2.2.2.2.1 + (List.length r19.1)) * 1 ≤ 140737488355328 then (
    kn ((x.1 + (List.length r18.1)), x.2.1, x.2.2.1, x.2.2.2.1, (x.2.2.2.2.1 + (List.length r19.1)), (IntKind.i64.wrap (x.2.2.2.2.2.1 + (1:Int))), x.2.2.2.2.2.2.1, (x.2.2.2.2.2.2.2.1 + (List.length r18.1)), (x.2.2.2.2.2.2.2.2.1 ++ r18.1), x.2.2.2.2.2.2.2.2.2.1, x.2.2.2.2.2.2.2.2.2.2.1, x.2.2.2.2.2.2.2.2.2.2.2.1, x.2.2.2.2.2.2.2.2.2.2.2.2.1, x.2.2.2.2.2.2.2.2.2.2.2.2.2.1, (x.2.2.2.2.2.2.2.2.2.2.2.2.2.2.1 + (List.length r19.1)), (x.2.2.2.2.2.2.2.2.2.2.2.2.2.2.2.1 ++ r19.1), ())) else none)) else none)))) else none) else none) else none) else none) else none) else none
 else
  ke (.inr (x.1, x.2.1, x.2.2.1, x.2.2.2.1, x.2.2.2.2.1, x.2.2.2.2.2.2.1, x.2.2.2.2.2.2.2.1, x.2.2.2.2.2.2.2.2.1, x.2.2.2.2.2.2.2.2.2.1, x.2.2.2.2.2.2.2.2.2.2.1, x.2.2.2.2.2.2.2.2.2.2.2.1, x.2.2.2.2.2.2.2.2.2.2.2.2.1, x.2.2.2.2.2.2.2.2.2.2.2.2.2.2.1, x.2.2.2.2.2.2.2.2.2.2.2.2.2.2.2.1, ()))
noncomputable def b4W : Go' W68 := fun y K => match y with
 | .inl y => K (.pan (.ifi 26 .i64) y.1) (fSt { tmps := V :: V :: .sc (.vec 1 none 1) :: .sc (.nilsl) :: .sc (.ptr 0 0 false) :: pv 129 [], mem := [.live [.xs b64 (some 1)] (.own), .live [.xs b8 none] (.own)], dfr := [(12, [.ptr 0 0 false])] } [.nat, .xs, .nat, .xs] y.2)
 | .inr y => K (.exit 4) (fSt { tmps := V :: V :: .sc (.vec 1 none 1) :: .sc (.nilsl) :: .sc (.ptr 0 0 false) :: V :: .sc (.sl 2 (some 0) (some 32) none 1) :: V :: .sc (.sl 2 (some 96) none none 1) :: .sc (.ptr 3 0 false) :: .sc (.ptr 4 0 false) :: pv 3 (.sc (.vec 5 none 1) :: pv 119 []), mem := [.live [.xs b64 (some 1)] (.own), .live [.xs b8 none] (.own), .live [.xs b8 none] (.own), .live [.xs b32 (some 1280)] (.own), .live [.xs b32 (some 1536)] (.own), .live [.xs b8 none] (.own)], dfr := [(12, [.ptr 0 0 false])] } [.nat, .nat, .nat, .nat, .nat, .xs, .nat, .xs, .nat, .xs, .xs, .xs, .nat, .xs] y)
noncomputable def a7D (N : Nat) : LT := upd (a7C N) 20 (o9 b6D N (G5 N) b4W)
theorem b4X (N : Nat) : OkAll p_dsa_KeyGen_E a0f N (a7D N) (x4 v8) :=
 d7 (c := d8 20 v8) (b4V N) (by kernel_rfl) (fun x => by kernel_rfl) (fun β x kn ke => by kernel_rfl)
noncomputable def b6E : Shape := mkS { tmps := V :: V :: .sc (.vec 1 none 1) :: .sc (.vec 2 none 1) :: .sc (.ptr 0 0 false) :: pv 4 (.sc (.ptr 3 0 false) :: .sc (.ptr 4 0 false) :: pv 3 (.sc (.vec 5 none 1) :: pv 89 (.sc (.int .i64) :: pv 29 []))), mem := [.live [.xs b64 (some 1)] (.own), .live [.xs b8 none] (.own), .live [.xs b8 none] (.own), .live [.xs b32 (some 1280)] (.own), .live [.xs b32 (some 1536)] (.own), .live [.xs b8 none] (.own)], dfr := [(12, [.ptr 0 0 false])] } [.nat, .nat, .nat, .int, .xs, .nat, .xs, .nat, .xs, .xs, .xs, .nat, .xs]
abbrev W69 : Type := Nat × Nat × Nat × Int × List Int × Nat × List Int × Nat × List Int × List Int × List Int × Nat × List Int × Unit
abbrev W70 : Type := (Int × Nat × Nat × List Int × Nat × List Int × Nat × List Int × Unit) ⊕ (Nat × Nat × Nat × List Int × Nat × List Int × Nat × List Int × List Int × Nat × List Int × Unit)
noncomputable def G6 (N : Nat) (β : Type) (x : W69) (kn : W69 → Option β) (ke : W70 → Option β) : Option β :=
 if (x.2.2.2.1 < (5:Int)) then
  if 0 ≤ x.2.2.2.1 then (
  if x.2.2.2.1 < 5 then (
  if ((x.2.2.2.1.toNat) * 256) + 256 ≤ 1280 then (
  (o0 ((4:Int), (4:Int), (List.take 256 (List.drop ((x.2.2.2.1.toNat) * 256) x.2.2.2.2.2.2.2.2.2.1)), ())).bind fun r24 => (
  if (r24.2 ≠ (0:Int)) then
   ke (.inl (r24.2, x.1, x.2.1, x.2.2.2.2.1, x.2.2.2.2.2.1, x.2.2.2.2.2.2.1, x.2.2.2.2.2.2.2.1, x.2.2.2.2.2.2.2.2.1, ()))
  else
   if (x.2.1 + (List.length r24.1)) * 1 ≤ 140737488355328 then (
   kn (x.1, (x.2.1 + (List.length r24.1)), x.2.2.1, (IntKind.i64.wrap (x.2.2.2.1 + (1:Int))), x.2.2.2.2.1, x.2.2.2.2.2.1, x.2.2.2.2.2.2.1, (x.2.2.2.2.2.2.2.1 + (List.length r24.1)), (x.2.2.2.2.2.2.2.2.1 ++ r24.1), x.2.2.2.2.2.2.2.2.2.1, x.2.2.2.2.2.2.2.2.2.2.1, x.2.2.2.2.2.2.2.2.2.2.2.1, x.2.2.2.2.2.2.2.2.2.2.2.2.1, ())) else none)) else none) else none) else none
 else
  ke (.inr (x.1, x.2.1, x.2.2.1, x.2.2.2.2.1, x.2.2.2.2.2.1, x.2.2.2.2.2.2.1, x.2.2.2.2.2.2.2.1, x.2.2.2.2.2.2.2.2.1, x.2.2.2.2.2.2.2.2.2.2.1, x.2.2.2.2.2.2.2.2.2.2.2.1, x.2.2.2.2.2.2.2.2.2.2.2.2.1, ()))
noncomputable def b4Y : Go' W70 := fun y K => match y with
 | .inl y => K (.pan (.ifi 26 .i64) y.1) (fSt { tmps := V :: V :: .sc (.vec 1 none 1) :: .sc (.vec 2 none 1) :: .sc (.ptr 0 0 false) :: pv 129 [], mem := [.live [.xs b64 (some 1)] (.own), .live [.xs b8 none] (.own), .live [.xs b8 none] (.own)], dfr := [(12, [.ptr 0 0 false])] } [.nat, .nat, .xs, .nat, .xs, .nat, .xs] y.2)
 | .inr y => K (.exit 6) (fSt { tmps := V :: V :: .sc (.vec 1 none 1) :: .sc (.vec 2 none 1) :: .sc (.ptr 0 0 false) :: pv 5 (.sc (.ptr 3 0 false) :: pv 3 (.sc (.vec 4 none 1) :: pv 119 [])), mem := [.live [.xs b64 (some 1)] (.own), .live [.xs b8 none] (.own), .live [.xs b8 none] (.own), .live [.xs b32 (some 1536)] (.own), .live [.xs b8 none] (.own)], dfr := [(12, [.ptr 0 0 false])] } [.nat, .nat, .nat, .xs, .nat, .xs, .nat, .xs, .xs, .nat, .xs] y)
noncomputable def a7E (N : Nat) : LT := upd (a7D N) 28 (o9 b6E N (G6 N) b4Y)
theorem b4Z (N : Nat) : OkAll p_dsa_KeyGen_E a0f N (a7E N) (x4 v8) :=
 d7 (c := d8 28 v8) (b4X N) (by kernel_rfl) (fun x => by kernel_rfl) (fun β x kn ke => by kernel_rfl)
noncomputable def b6F : Shape := mkS { tmps := V :: V :: .sc (.vec 1 none 1) :: .sc (.vec 2 none 1) :: .sc (.ptr 0 0 false) :: pv 5 (.sc (.ptr 3 0 false) :: pv 3 (.sc (.vec 4 none 1) :: pv 102 (.sc (.int .i64) :: pv 16 []))), mem := [.live [.xs b64 (some 1)] (.own), .live [.xs b8 none] (.own), .live [.xs b8 none] (.own), .live [.xs b32 (some 1536)] (.own), .live [.xs b8 none] (.own)], dfr := [(12, [.ptr 0 0 false])] } [.nat, .nat, .nat, .int, .xs, .nat, .xs, .nat, .xs, .xs, .nat, .xs]
abbrev W71 : Type := Nat × Nat × Nat × Int × List Int × Nat × List Int × Nat × List Int × List Int × Nat × List Int × Unit
abbrev W72 : Type := (Int × Nat × Nat × List Int × Nat × List Int × Nat × List Int × Unit) ⊕ (Nat × Nat × Nat × List Int × Nat × List Int × Nat × List Int × Nat × List Int × Unit)
noncomputable def G7 (N : Nat) (β : Type) (x : W71) (kn : W71 → Option β) (ke : W72 → Option β) : Option β :=
 if (x.2.2.2.1 < (6:Int)) then
  if 0 ≤ x.2.2.2.1 then (
  if x.2.2.2.1 < 6 then (
  if ((x.2.2.2.1.toNat) * 256) + 256 ≤ 1536 then (
  (o0 ((4:Int), (4:Int), (List.take 256 (List.drop ((x.2.2.2.1.toNat) * 256) x.2.2.2.2.2.2.2.2.2.1)), ())).bind fun r27 => (
  if (r27.2 ≠ (0:Int)) then
   ke (.inl (r27.2, x.1, x.2.1, x.2.2.2.2.1, x.2.2.2.2.2.1, x.2.2.2.2.2.2.1, x.2.2.2.2.2.2.2.1, x.2.2.2.2.2.2.2.2.1, ()))
  else
   if (x.2.1 + (List.length r27.1)) * 1 ≤ 140737488355328 then (
   kn (x.1, (x.2.1 + (List.length r27.1)), x.2.2.1, (IntKind.i64.wrap (x.2.2.2.1 + (1:Int))), x.2.2.2.2.1, x.2.2.2.2.2.1, x.2.2.2.2.2.2.1, (x.2.2.2.2.2.2.2.1 + (List.length r27.1)), (x.2.2.2.2.2.2.2.2.1 ++ r27.1), x.2.2.2.2.2.2.2.2.2.1, x.2.2.2.2.2.2.2.2.2.2.1, x.2.2.2.2.2.2.2.2.2.2.2.1, ())) else none)) else none) else none) else none
 else
  ke (.inr (x.1, x.2.1, x.2.2.1, x.2.2.2.2.1, x.2.2.2.2.2.1, x.2.2.2.2.2.2.1, x.2.2.2.2.2.2.2.1, x.2.2.2.2.2.2.2.2.1, x.2.2.2.2.2.2.2.2.2.2.1, x.2.2.2.2.2.2.2.2.2.2.2.1, ()))
noncomputable def b40 : Go' W72 := fun y K => match y with
 | .inl y => K (.pan (.ifi 26 .i64) y.1) (fSt { tmps := V :: V :: .sc (.vec 1 none 1) :: .sc (.vec 2 none 1) :: .sc (.ptr 0 0 false) :: pv 129 [], mem := [.live [.xs b64 (some 1)] (.own), .live [.xs b8 none] (.own), .live [.xs b8 none] (.own)], dfr := [(12, [.ptr 0 0 false])] } [.nat, .nat, .xs, .nat, .xs, .nat, .xs] y.2)
 | .inr y => K (.exit 8) (fSt { tmps := V :: V :: .sc (.vec 1 none 1) :: .sc (.vec 2 none 1) :: .sc (.ptr 0 0 false) :: pv 9 (.sc (.vec 3 none 1) :: pv 119 []), mem := [.live [.xs b64 (some 1)] (.own), .live [.xs b8 none] (.own), .live [.xs b8 none] (.own), .live [.xs b8 none] (.own)], dfr := [(12, [.ptr 0 0 false])] } [.nat, .nat, .nat, .xs, .nat, .xs, .nat, .xs, .nat, .xs] y)
noncomputable def a7F (N : Nat) : LT := upd (a7E N) 33 (o9 b6F N (G7 N) b40)
theorem b41 (N : Nat) : OkAll p_dsa_KeyGen_E a0f N (a7F N) (x4 v8) :=
 d7 (c := d8 33 v8) (b4Z N) (by kernel_rfl) (fun x => by kernel_rfl) (fun β x kn ke => by kernel_rfl)
abbrev a0Z : List Kd := [.xs b8 32]
abbrev a00 : List Kd := [.sl b8, .sl b8, .int .i64]
noncomputable def a5i (N : Nat) (x : List Int × Unit) : Option (List Int × List Int × Int) :=
 (J6 ((128:Int), [(List.take 32 (List.drop 0 x.1)), (List.set (List.set (List.replicate 2 0) 0 (6:Int)) 1 (5:Int))], ())).bind fun r1 => (
 if 32 ≤ (List.length r1) then (
 if 96 ≤ (List.length r1) then (
 if 32 ≤ 96 then (
 if 96 ≤ (List.length r1) then (
 m9 (x6 N) N ((List.length r1), ((List.length r1) - 32), ((List.length r1) - 96), ((List.length r1) - 96), (0:Int), [0], (List.length r1), r1, (List.replicate 1280 0), (List.replicate 1536 0), ()) fun y => (match y with
 | .inl y5 => (
  some ([], [], (List.getD (List.set y5.2.1 0 y5.1) 0 0)))
 | .inr y6 => (
  m9 (u9 N) N (y6.1, y6.2.1, y6.2.2.1, y6.2.2.2.1, (0:Int), y6.2.2.2.2.1, y6.2.2.2.2.2.1, y6.2.2.2.2.2.2.1, y6.2.2.2.2.2.2.2.1, y6.2.2.2.2.2.2.2.2.1, ()) fun y => (match y with
  | .inl y10 => (
   some ([], [], (List.getD (List.set y10.2.1 0 y10.1) 0 0)))
  | .inr y11 => (
   (O1 ((List.take 32 (List.drop 0 y11.2.2.2.2.2.1)), ())).bind fun r12 => (
   if r12.1 = true then
    some ([], [], (List.getD (List.set y11.2.2.2.1 0 r12.2.1) 0 0))
   else
    (xg (O1 ((List.take 32 (List.drop 0 y11.2.2.2.2.2.1)), ()))).bind fun r13 => (
    (O2 (r13.1, y11.2.2.2.2.2.2.1, ())).bind fun r14 => (
    (m7 ([(List.take 32 (List.drop 0 y11.2.2.2.2.2.1))], ())).bind fun r15 => (
    m9 (G5 N) N ((List.length r15), y11.1, y11.2.1, y11.2.2.1, 0, (0:Int), y11.2.2.2.1, (List.length r15), r15, y11.2.2.2.2.1, y11.2.2.2.2.2.1, y11.2.2.2.2.2.2.1, y11.2.2.2.2.2.2.2.1, r14, 0, [], ()) fun y => (match y with
    | .inl y20 => (
     some (y20.2.2.2.2.1, [], (List.getD (List.set y20.2.2.1 0 y20.1) 0 0)))
    | .inr y21 => (
     (J6 ((64:Int), [y21.2.2.2.2.2.2.2.1], ())).bind fun r22 => (
     (m7 ([(List.take 32 (List.drop 0 y21.2.2.2.2.2.2.2.2.2.1)), (List.take y21.2.2.1 (List.drop 96 y21.2.2.2.2.2.2.2.2.2.1)), r22], ())).bind fun r23 => (
     m9 (G6 N) N (y21.1, (List.length r23), y21.2.2.2.2.1, (0:Int), y21.2.2.2.2.2.1, y21.2.2.2.2.2.2.1, y21.2.2.2.2.2.2.2.1, (List.length r23), r23, y21.2.2.2.2.2.2.2.2.2.2.1, y21.2.2.2.2.2.2.2.2.2.2.2.1, y21.2.2.2.2.2.2.2.2.2.2.2.2.1, y21.2.2.2.2.2.2.2.2.2.2.2.2.2.1, ()) fun y => (match y with
     | .inl y25 => (
      some (y25.2.2.2.2.2.1, y25.2.2.2.2.2.2.2.1, (List.getD (List.set y25.2.2.2.1 0 y25.1) 0 0)))
     | .inr y26 => (
      m9 (G7 N) N (y26.1, y26.2.1, y26.2.2.1, (0:Int), y26.2.2.2.1, y26.2.2.2.2.1, y26.2.2.2.2.2.1, y26.2.2.2.2.2.2.1, y26.2.2.2.2.2.2.2.1, y26.2.2.2.2.2.2.2.2.1, y26.2.2.2.2.2.2.2.2.2.1, y26.2.2.2.2.2.2.2.2.2.2.1, ()) fun y => (match y with
      | .inl y28 => (
       some (y28.2.2.2.2.2.1, y28.2.2.2.2.2.2.2.1, (List.getD (List.set y28.2.2.2.1 0 y28.1) 0 0)))
      | .inr y29 => (
       if (y29.2.1 + y29.2.2.1) * 1 ≤ 140737488355328 then (
       some (y29.2.2.2.2.2.1, (y29.2.2.2.2.2.2.2.1 ++ y29.2.2.2.2.2.2.2.2.2.1), (List.getD (List.set y29.2.2.2.1 0 (0:Int)) 0 0))) else none))))))))))))))))) else none) else none) else none) else none)
theorem b91 (e0 : c8 Try.prog 13 R8) (e1 : c8 Try.prog 17 b1s) (e2 : c8 Try.prog 16 N8) (e3 : c8 Try.prog 15 a3d) (e4 : c8 Try.prog 19 N7) (e5 : c8 Try.prog 21 U4) (e6 : c8 Try.prog 20 a2z) (e7 : c8 Try.prog 23 a4T) (e8 : c8 Try.prog 24 X3) (e9 : XOk Try.prog 18 a0x) : p_dsa_KeyGen_E.Ok Try.prog := AE.ofA_ok (all_cons Z8 (all_cons c5z (all_cons G0 (all_cons c2Q (all_cons a2P (all_cons s5 (all_cons b5C (all_cons b5D c6)))))))) (all_cons ⟨e0, a0D⟩ (all_cons ⟨e1, b38⟩ (all_cons ⟨e2, a1h⟩ (all_cons ⟨e3, a9F⟩ (all_cons ⟨e4, a3i⟩ (all_cons ⟨e5, a2l⟩ (all_cons ⟨e6, a8E⟩ (all_cons ⟨e7, a8D⟩ (all_cons ⟨e8, a40⟩ c6))))))))) (all_cons ⟨e9, a4i⟩ c6) (all_cons ⟨a4c, a4h⟩ c6) c6 (all_cons ⟨O5, A7⟩ (all_cons ⟨a2V, a0b⟩ c6)) c6 c6 c6 c6
theorem c2b (hE : p_dsa_KeyGen_E.Ok Try.prog) {g : Ds a0Z → Option (Rs a00)} (hg : ∀ x r, g x = some r → ∃ N, a5i N x = some r) : c8 Try.prog 8 ⟨a0Z, a00, g⟩ :=
 i6 (E := p_dsa_KeyGen_E) (H := a0f) (L := fun N => a7F N) (c := v8) (ks := a0Z) (rs := a00) (F := a5i) hE mix Try.func8 (by kernel_rfl) (fun N => b41 N) (fun _ _ => by kernel_rfl) hg
noncomputable abbrev a6n : Sig := ⟨[.sl b8, .sl b8, .sl b8], [.sl b8], a2F⟩
noncomputable abbrev b7x : XSig := ⟨[.asl b8], [.cat [.fs b8, .fs b8, .fs b8, .xs b32 1280, .xs b32 1536, .xs b32 1536]], (.ifi 26 .i64), b2Z⟩
noncomputable abbrev a5s : XSig := ⟨[.rp (.ct [.fs b8, .fs b8, .fs b8, .xs b32 1280, .xs b32 1536, .xs b32 1536]), .rp (.xs b32 7680), .sl b8, .sl b8, .int .i64], [.sl b8, .bool], (.ifi 26 .i64), Y0⟩
noncomputable def p_dsa_Sign_E : AE := AE.ofA [(5, ty5), (22, ty22), (23, ty23), (26, ty26), (35, ty35), (60, ty60)] [(26, a6n), (13, R8)] [(25, b7x), (18, a0x), (27, a5s)] [(12, a4C)] [] [] [] [] [] [] [] []
noncomputable def b9b : Hints := [(11, [4, 10, 11, 12, 13, 14, 15, 16]), (2000000, [10, 11]), (2000001, [4, 10, 11, 12, 13, 14, 15, 16]), (3000000, [10, 11]), (5000000, [10, 11])]
noncomputable def b2k : Code := (Try.f9).body.getD .skip
noncomputable def b92 : Shape := mkS { tmps := pv 4 (.sc (.int .i64) :: pv 5 (.sc (.nilsl) :: .sc (.ptr 0 0 false) :: .sc (.ptr 1 0 false) :: .sc (.vec 2 none 1) :: .sc (.vec 3 none 1) :: .sc (.ptr 4 0 false) :: .sc (.int .i64) :: pv 39 [])), mem := [.live [.xs b64 (some 1)] (.own), .live [.one (.fr b8), .one (.fr b8), .one (.fr b8), .xs b32 (some 1280), .xs b32 (some 1536), .xs b32 (some 1536)] (.own), .live [.xs b8 none] (.own), .live [.xs b8 none] (.own), .live [.xs b32 (some 7680)] (.own)], dfr := [(12, [.ptr 0 0 false])] } [.int, .nat, .nat, .int, .xs, .xs, .xs, .xs, .xs, .xs, .xs, .nat, .xs, .nat, .xs, .xs]
abbrev W73 : Type := Int × Nat × Nat × Int × List Int × List Int × List Int × List Int × List Int × List Int × List Int × Nat × List Int × Nat × List Int × List Int × Unit
abbrev W74 : Type := (Int × List Int × Unit) ⊕ ((Nat × List Int × Nat × List Int × Unit) ⊕ (List Int × Unit))
noncomputable def Z0 (N : Nat) (β : Type) (x : W73) (kn : W73 → Option β) (ke : W74 → Option β) : Option β :=
 if (x.2.2.2.1 < x.1) then
  (Y0 ((x.2.2.2.2.2.1, x.2.2.2.2.2.2.1, x.2.2.2.2.2.2.2.1, x.2.2.2.2.2.2.2.2.1, x.2.2.2.2.2.2.2.2.2.1, x.2.2.2.2.2.2.2.2.2.2.1, ()), x.2.2.2.2.2.2.2.2.2.2.2.2.2.2.2.1, x.2.2.2.2.2.2.2.2.2.2.2.2.1, x.2.2.2.2.2.2.2.2.2.2.2.2.2.2.1, x.2.2.2.1, ())).bind fun r5 => (
  if r5.1 = true then
   ke (.inl (r5.2.1, x.2.2.2.2.1, ()))
  else
   if (¬ (r5.2.2.2 = true)) then
    kn (x.1, x.2.1, x.2.2.1, (IntKind.i64.wrap (x.2.2.2.1 + (1:Int))), x.2.2.2.2.1, x.2.2.2.2.2.1, x.2.2.2.2.2.2.1, x.2.2.2.2.2.2.2.1, x.2.2.2.2.2.2.2.2.1, x.2.2.2.2.2.2.2.2.2.1, x.2.2.2.2.2.2.2.2.2.2.1, x.2.2.2.2.2.2.2.2.2.2.2.1, x.2.2.2.2.2.2.2.2.2.2.2.2.1, x.2.2.2.2.2.2.2.2.2.2.2.2.2.1, x.2.2.2.2.2.2.2.2.2.2.2.2.2.2.1, x.2.2.2.2.2.2.2.2.2.2.2.2.2.2.2.1, ())
   else
    ke (.inr (.inl ((List.length r5.2.2.1), (List.set x.2.2.2.2.1 0 (0:Int)), (List.length r5.2.2.1), r5.2.2.1, ()))))
 else
  ke (.inr (.inr (x.2.2.2.2.1, ())))
noncomputable def b8s : Go' W74 := fun y K => match y with
 | .inl y => K (.pan (.ifi 26 .i64) y.1) (fSt { tmps := pv 10 (.sc (.nilsl) :: .sc (.ptr 0 0 false) :: pv 44 []), mem := [.live [.xs b64 (some 1)] (.own)], dfr := [(12, [.ptr 0 0 false])] } [.xs] y.2)
 | .inr (.inl y) => K .ret (fSt { tmps := pv 10 (.sc (.vec 1 none 1) :: .sc (.ptr 0 0 false) :: pv 44 []), mem := [.live [.xs b64 (some 1)] (.own), .live [.xs b8 none] (.own)], dfr := [(12, [.ptr 0 0 false])] } [.nat, .xs, .nat, .xs] y)
 | .inr (.inr y) => K (.exit 0) (fSt { tmps := pv 10 (.sc (.nilsl) :: .sc (.ptr 0 0 false) :: pv 44 []), mem := [.live [.xs b64 (some 1)] (.own)], dfr := [(12, [.ptr 0 0 false])] } [.xs] y)
noncomputable def b0N (N : Nat) : LT := upd (LT.nil) 11 (o9 b92 N (Z0 N) b8s)
theorem b8t (N : Nat) : OkAll p_dsa_Sign_E b9b N (b0N N) (x4 b2k) :=
 d7 (c := d8 11 b2k) (OkAll.nil) (by kernel_rfl) (fun x => by kernel_rfl) (fun β x kn ke => by kernel_rfl)
abbrev a3C : List Kd := [.fsl b8, .sl b8, .sl b8, .xs b8 32, .int .i64]
abbrev a3D : List Kd := [.sl b8, .int .i64]
noncomputable def a9a (N : Nat) (x : List Int × List Int × List Int × List Int × Int × Unit) : Option (List Int × Int) :=
 (b2Z (x.1, ())).bind fun r1 => (
 if r1.1 = true then
  some ([], (List.getD (List.set [0] 0 r1.2.1) 0 0))
 else
  if ((((List.length x.2.2.1) : Nat) : Int) > (255:Int)) then
   some ([], (List.getD (List.set [0] 0 (3:Int)) 0 0))
  else
   if (x.2.2.2.2.1 < (1:Int)) then
    some ([], (List.getD (List.set [0] 0 (1:Int)) 0 0))
   else
    (a2F (r1.2.2.2.2.1, x.2.1, x.2.2.1, ())).bind fun r2 => (
    (J6 ((64:Int), [r1.2.2.2.1, (List.take 32 (List.drop 0 x.2.2.2.1)), r2], ())).bind fun r3 => (
    (O1 (r1.2.2.1, ())).bind fun r4 => (
    if r4.1 = true then
     some ([], (List.getD (List.set [0] 0 r4.2.1) 0 0))
    else
     m9 (Z0 N) N (x.2.2.2.2.1, (List.length r2), (List.length r3), (0:Int), [0], r1.2.2.1, r1.2.2.2.1, r1.2.2.2.2.1, r1.2.2.2.2.2.1, r1.2.2.2.2.2.2.1, r1.2.2.2.2.2.2.2.1, (List.length r2), r2, (List.length r3), r3, r4.2.2.1, ()) fun y => (match y with
     | .inl y6 => (
      some ([], (List.getD (List.set y6.2.1 0 y6.1) 0 0)))
     | .inr (.inl y7) => (
      some (y7.2.2.2.1, (List.getD y7.2.1 0 0)))
     | .inr (.inr y8) => (
      some ([], (List.getD (List.set y8.1 0 (162:Int)) 0 0))))))))
theorem c3e (e0 : c8 Try.prog 26 a6n) (e1 : c8 Try.prog 13 R8) (e2 : XOk Try.prog 25 b7x) (e3 : XOk Try.prog 18 a0x) (e4 : XOk Try.prog 27 a5s) : p_dsa_Sign_E.Ok Try.prog := AE.ofA_ok (all_cons Z8 (all_cons c5z (all_cons G0 (all_cons c2Q (all_cons a2P (all_cons c9e c6)))))) (all_cons ⟨e0, b0D⟩ (all_cons ⟨e1, a0D⟩ c6)) (all_cons ⟨e2, c1j⟩ (all_cons ⟨e3, a4i⟩ (all_cons ⟨e4, b1J⟩ c6))) (all_cons ⟨a4c, a4h⟩ c6) c6 c6 c6 c6 c6 c6
theorem c4Z (hE : p_dsa_Sign_E.Ok Try.prog) {g : Ds a3C → Option (Rs a3D)} (hg : ∀ x r, g x = some r → ∃ N, a9a N x = some r) : c8 Try.prog 9 ⟨a3C, a3D, g⟩ :=
 i6 (E := p_dsa_Sign_E) (H := b9b) (L := fun N => b0N N) (c := b2k) (ks := a3C) (rs := a3D) (F := a9a) hE mix Try.func9 (by kernel_rfl) (fun N => b8t N) (fun _ _ => by kernel_rfl) hg
noncomputable abbrev a2A : Sig := ⟨[.int .i64, .int .i64, .sl b8], [.sla .bool 256, .int .i64], K5⟩
noncomputable abbrev a6l : Sig := ⟨[.xs .bool 256, .xs b32 256], [.xs b32 256], a0G⟩
noncomputable abbrev b1u : Sig := ⟨[.sl b8, .sl b8], [.bool], a7q⟩
noncomputable def p_dsa_Verify_E : AE := AE.ofA [(21, ty21), (23, ty23), (26, ty26), (35, ty35), (40, ty40), (42, ty42), (44, ty44), (69, ty69), (76, ty76)] [(13, R8), (26, a6n), (29, o6), (30, a0v), (31, a2A), (33, a4S), (32, a2y), (34, K0), (35, a1K), (38, Q2), (37, a6k), (36, a2x), (39, a6l), (41, a0w), (40, b1u)] [(18, a0x)] [(12, a4C)] [] [(14, a1l), (22, a6x), (28, c1x)] [] [] [] [] [] []
noncomputable def a4L : Hints := [(12, [4, 7, 8, 9, 10, 11, 39]), (26, [4, 8, 9, 10, 13, 15, 17, 18, 73]), (30, [4, 8, 9, 10, 13, 15, 17, 18, 19, 20, 73, 81]), (2000000, [4, 7, 8, 9, 10, 11]), (2000001, [4, 7, 8, 9, 10, 11, 39]), (2000002, [8, 9, 10, 18]), (2000003, [4, 8, 9, 10, 13, 15, 17, 18, 73]), (2000004, [4, 8, 9, 10, 13, 15, 17, 18, 19, 20, 73]), (2000005, [4, 8, 9, 10, 13, 15, 17, 18, 19, 20, 73, 81]), (3000000, [8]), (5000000, [8])]
noncomputable def Q9 : Code := (Try.f10).body.getD .skip
noncomputable def b6I : Shape := mkS { tmps := pv 4 (.sc (.ptr 1 0 false) :: V :: V :: .sc (.ptr 2 0 false) :: .sc (.ptr 0 0 false) :: .sc (.vec 3 none 1) :: .sc (.sl 4 (some 0) (some 48) none 1) :: .sc (.ptr 5 0 false) :: pv 27 (.sc (.int .i64) :: pv 74 [])), mem := [.live [.xs b64 (some 1)] (.own), .live [.one (.vec 6 none 1)] (.own), .live [.one (.sl 4 none none none 1)] (.own), .live [.xs b8 none] (.own), .live [.xs b8 none] (.ro), .live [.xs b32 (some 1280)] (.own), .live [.xs b8 none] (.ro)], dfr := [(12, [.ptr 0 0 false])] } [.nat, .nat, .int, .xs, .nat, .nat, .nat, .nat, .nat, .xs, .nat, .xs, .xs, .nat, .xs]
abbrev W75 : Type := Nat × Nat × Int × List Int × Nat × Nat × Nat × Nat × Nat × List Int × Nat × List Int × List Int × Nat × List Int × Unit
abbrev W76 : Type := (Int × List Int × Unit) ⊕ ((List Int × Unit) ⊕ (Nat × Nat × List Int × Nat × Nat × Nat × Nat × Nat × List Int × Nat × List Int × List Int × Nat × List Int × Unit))
noncomputable def v0 (N : Nat) (β : Type) (x : W75) (kn : W75 → Option β) (ke : W76 → Option β) : Option β :=
 if (x.2.2.1 < (5:Int)) then
  if 0 ≤ (640:Int) then (
  if (640:Int) ≤ ((x.2.2.2.2.2.2.1 : Nat) : Int) then (
  if 0 ≤ (640:Int) then (
  if (640:Int) ≤ ((x.2.2.2.2.2.2.1 : Nat) : Int) then (
  (j4 ((524288:Int), (20:Int), (List.take 640 (List.drop (c2U x.2.2.2.2.2.1 0) x.2.2.2.2.2.2.2.2.2.2.2.1)), ())).bind fun r3 => (
  if (r3.2 ≠ (0:Int)) then
   ke (.inl (r3.2, x.2.2.2.1, ()))
  else
   if 0 ≤ x.2.2.1 then (
   if x.2.2.1 < 5 then (
   if ((x.2.2.1.toNat) * 256) + 256 ≤ 1280 then (
   if 0 ≤ x.2.2.1 then (
   if x.2.2.1 < 5 then (
   if ((x.2.2.1.toNat) * 256) + 256 ≤ 1280 then (
   (U0 ((List.take 256 (List.drop ((x.2.2.1.toNat) * 256) (List.take ((x.2.2.1.toNat) * 256) x.2.2.2.2.2.2.2.2.2.2.2.2.1 ++ r3.1 ++ List.drop (((x.2.2.1.toNat) * 256) + 256) x.2.2.2.2.2.2.2.2.2.2.2.2.1))), ())).bind fun r4 => (
   if (r4 ≥ (524092:Int)) then
    ke (.inr (.inl ((List.set x.2.2.2.1 0 (70:Int)), ())))
   else
    kn (x.1, x.2.1, (IntKind.i64.wrap (x.2.2.1 + (1:Int))), x.2.2.2.1, x.2.2.2.2.1, (c2U x.2.2.2.2.2.1 640), (x.2.2.2.2.2.2.1 - 640), (x.2.2.2.2.2.2.2.1 - 640), x.2.2.2.2.2.2.2.2.1, x.2.2.2.2.2.2.2.2.2.1, x.2.2.2.2.2.2.2.2.2.2.1, x.2.2.2.2.2.2.2.2.2.2.2.1, (List.take ((x.2.2.1.toNat) * 256) x.2.2.2.2.2.2.2.2.2.2.2.2.1 ++ r3.1 ++ List.drop (((x.2.2.1.toNat) * 256) + 256) x.2.2.2.2.2.2.2.2.2.2.2.2.1), x.2.2.2.2.2.2.2.2.2.2.2.2.2.1, x.2.2.2.2.2.2.2.2.2.2.2.2.2.2.1, ()))) else none) else none) else none) else none) else none) else none)) else none) else none) else none) else none
 else
  ke (.inr (.inr (x.1, x.2.1, x.2.2.2.1, x.2.2.2.2.1, x.2.2.2.2.2.1, x.2.2.2.2.2.2.1, x.2.2.2.2.2.2.2.1, x.2.2.2.2.2.2.2.2.1, x.2.2.2.2.2.2.2.2.2.1, x.2.2.2.2.2.2.2.2.2.2.1, x.2.2.2.2.2.2.2.2.2.2.2.1, x.2.2.2.2.2.2.2.2.2.2.2.2.1, x.2.2.2.2.2.2.2.2.2.2.2.2.2.1, x.2.2.2.2.2.2.2.2.2.2.2.2.2.2.1, ())))
noncomputable def b42 : Go' W76 := fun y K => match y with
 | .inl y => K (.pan (.ifi 26 .i64) y.1) (fSt { tmps := pv 8 (.sc (.ptr 0 0 false) :: pv 105 []), mem := [.live [.xs b64 (some 1)] (.own)], dfr := [(12, [.ptr 0 0 false])] } [.xs] y.2)
 | .inr (.inl y) => K .ret (fSt { tmps := pv 8 (.sc (.ptr 0 0 false) :: pv 105 []), mem := [.live [.xs b64 (some 1)] (.own)], dfr := [(12, [.ptr 0 0 false])] } [.xs] y)
 | .inr (.inr y) => K (.exit 0) (fSt { tmps := pv 4 (.sc (.ptr 1 0 false) :: V :: V :: .sc (.ptr 2 0 false) :: .sc (.ptr 0 0 false) :: .sc (.vec 3 none 1) :: .sc (.sl 4 (some 0) (some 48) none 1) :: .sc (.ptr 5 0 false) :: pv 102 []), mem := [.live [.xs b64 (some 1)] (.own), .live [.one (.vec 6 none 1)] (.own), .live [.one (.sl 4 none none none 1)] (.own), .live [.xs b8 none] (.own), .live [.xs b8 none] (.ro), .live [.xs b32 (some 1280)] (.own), .live [.xs b8 none] (.ro)], dfr := [(12, [.ptr 0 0 false])] } [.nat, .nat, .xs, .nat, .nat, .nat, .nat, .nat, .xs, .nat, .xs, .xs, .nat, .xs] y)
noncomputable def a7G (N : Nat) : LT := upd (LT.nil) 12 (o9 b6I N (v0 N) b42)
theorem b43 (N : Nat) : OkAll p_dsa_Verify_E a4L N (a7G N) (x4 Q9) :=
 d7 (c := d8 12 Q9) (OkAll.nil) (by kernel_rfl) (fun x => by kernel_rfl) (fun β x kn ke => by kernel_rfl)
noncomputable def b6K : Shape := mkS { tmps := pv 4 (.sc (.ptr 1 0 false) :: pv 3 (.sc (.ptr 0 0 false) :: .sc (.vec 2 none 1) :: .sc (.sl 3 (some 0) (some 48) none 1) :: V :: V :: .sc (.vec 4 none 256) :: V :: .sc (.ptr 5 0 false) :: V :: .sc (.ptr 6 0 false) :: .sc (.ptr 7 0 false) :: .sc (.int .i64) :: .sc (.ptr 8 0 false) :: pv 52 (.sc (.int .i64) :: pv 7 (.sc (.int .i64) :: pv 32 [])))), mem := [.live [.xs b64 (some 1)] (.own), .live [.one (.sl 9 none none none 1)] (.own), .live [.xs b8 none] (.own), .live [.xs b8 none] (.ro), .live [.xs .bool none] (.own), .live [.xs b32 (some 256)] (.own), .live [.xs b32 (some 1536)] (.own), .live [.xs b32 (some 1536)] (.own), .live [.xs b32 (some 256)] (.own), .live [.xs b8 none] (.ro)], dfr := [(12, [.ptr 0 0 false])] } [.nat, .nat, .nat, .int, .int, .int, .xs, .nat, .nat, .nat, .nat, .xs, .nat, .xs, .nat, .xs, .xs, .xs, .xs, .xs, .nat, .xs]
abbrev W77 : Type := Nat × Nat × Nat × Int × Int × Int × List Int × Nat × Nat × Nat × Nat × List Int × Nat × List Int × Nat × List Int × List Int × List Int × List Int × List Int × Nat × List Int × Unit
abbrev W78 : Type := Nat × Nat × Nat × Int × Int × List Int × Nat × Nat × Nat × Nat × List Int × Nat × List Int × Nat × List Int × List Int × List Int × List Int × List Int × Nat × List Int × Unit
noncomputable def G9 (N : Nat) (β : Type) (x : W77) (kn : W77 → Option β) (ke : W78 → Option β) : Option β :=
 if (x.2.2.2.2.2.1 < (256:Int)) then
  if 0 ≤ x.2.2.2.2.2.1 then (
  if x.2.2.2.2.2.1 < 256 then (
  if (x.2.2.2.2.2.1.toNat) < 256 then (
  if 0 ≤ x.2.2.2.2.2.1 then (
  if x.2.2.2.2.2.1 < 256 then (
  if (x.2.2.2.2.2.1.toNat) < 256 then (
  kn (x.1, x.2.1, x.2.2.1, x.2.2.2.1, x.2.2.2.2.1, (IntKind.i64.wrap (x.2.2.2.2.2.1 + (1:Int))), x.2.2.2.2.2.2.1, x.2.2.2.2.2.2.2.1, x.2.2.2.2.2.2.2.2.1, x.2.2.2.2.2.2.2.2.2.1, x.2.2.2.2.2.2.2.2.2.2.1, x.2.2.2.2.2.2.2.2.2.2.2.1, x.2.2.2.2.2.2.2.2.2.2.2.2.1, x.2.2.2.2.2.2.2.2.2.2.2.2.2.1, x.2.2.2.2.2.2.2.2.2.2.2.2.2.2.1, x.2.2.2.2.2.2.2.2.2.2.2.2.2.2.2.1, x.2.2.2.2.2.2.2.2.2.2.2.2.2.2.2.2.1, x.2.2.2.2.2.2.2.2.2.2.2.2.2.2.2.2.2.1, x.2.2.2.2.2.2.2.2.2.2.2.2.2.2.2.2.2.2.1, (List.set x.2.2.2.2.2.2.2.2.2.2.2.2.2.2.2.2.2.2.2.1 (x.2.2.2.2.2.1.toNat) (b0Z IntKind.i32 (List.getD x.2.2.2.2.2.2.2.2.2.2.2.2.2.2.2.2.2.2.2.1 (x.2.2.2.2.2.1.toNat) 0) (13:Int))), x.2.2.2.2.2.2.2.2.2.2.2.2.2.2.2.2.2.2.2.2.1, x.2.2.2.2.2.2.2.2.2.2.2.2.2.2.2.2.2.2.2.2.2.1, ())) else none) else none) else none) else none) else none) else none
 else
  ke (x.1, x.2.1, x.2.2.1, x.2.2.2.1, x.2.2.2.2.1, x.2.2.2.2.2.2.1, x.2.2.2.2.2.2.2.1, x.2.2.2.2.2.2.2.2.1, x.2.2.2.2.2.2.2.2.2.1, x.2.2.2.2.2.2.2.2.2.2.1, x.2.2.2.2.2.2.2.2.2.2.2.1, x.2.2.2.2.2.2.2.2.2.2.2.2.1, x.2.2.2.2.2.2.2.2.2.2.2.2.2.1, x.2.2.2.2.2.2.2.2.2.2.2.2.2.2.1, x.2.2.2.2.2.2.2.2.2.2.2.2.2.2.2.1, x.2.2.2.2.2.2.2.2.2.2.2.2.2.2.2.2.1, x.2.2.2.2.2.2.2.2.2.2.2.2.2.2.2.2.2.1, x.2.2.2.2.2.2.2.2.2.2.2.2.2.2.2.2.2.2.1, x.2.2.2.2.2.2.2.2.2.2.2.2.2.2.2.2.2.2.2.1, x.2.2.2.2.2.2.2.2.2.2.2.2.2.2.2.2.2.2.2.2.1, x.2.2.2.2.2.2.2.2.2.2.2.2.2.2.2.2.2.2.2.2.2.1, ())
noncomputable def b46 : Go' W78 := fun y K => K (.exit 4) (fSt { tmps := pv 4 (.sc (.ptr 1 0 false) :: pv 3 (.sc (.ptr 0 0 false) :: .sc (.vec 2 none 1) :: .sc (.sl 3 (some 0) (some 48) none 1) :: V :: V :: .sc (.vec 4 none 256) :: V :: .sc (.ptr 5 0 false) :: V :: .sc (.ptr 6 0 false) :: .sc (.ptr 7 0 false) :: .sc (.int .i64) :: .sc (.ptr 8 0 false) :: pv 52 (.sc (.int .i64) :: pv 40 []))), mem := [.live [.xs b64 (some 1)] (.own), .live [.one (.sl 9 none none none 1)] (.own), .live [.xs b8 none] (.own), .live [.xs b8 none] (.ro), .live [.xs .bool none] (.own), .live [.xs b32 (some 256)] (.own), .live [.xs b32 (some 1536)] (.own), .live [.xs b32 (some 1536)] (.own), .live [.xs b32 (some 256)] (.own), .live [.xs b8 none] (.ro)], dfr := [(12, [.ptr 0 0 false])] } [.nat, .nat, .nat, .int, .int, .xs, .nat, .nat, .nat, .nat, .xs, .nat, .xs, .nat, .xs, .xs, .xs, .xs, .xs, .nat, .xs] y)
noncomputable def a7I (N : Nat) : LT := upd (a7G N) 30 (o9 b6K N (G9 N) b46)
theorem b47 (N : Nat) : OkAll p_dsa_Verify_E a4L N (a7I N) (x4 Q9) :=
 d7 (c := d8 30 Q9) (b43 N) (by kernel_rfl) (fun x => by kernel_rfl) (fun β x kn ke => by kernel_rfl)
noncomputable def b6J : Shape := mkS { tmps := pv 4 (.sc (.ptr 1 0 false) :: pv 3 (.sc (.ptr 0 0 false) :: .sc (.vec 2 none 1) :: .sc (.sl 3 (some 0) (some 48) none 1) :: V :: V :: .sc (.vec 4 none 256) :: V :: .sc (.ptr 5 0 false) :: V :: .sc (.ptr 6 0 false) :: .sc (.ptr 7 0 false) :: pv 54 (.sc (.int .i64) :: pv 40 []))), mem := [.live [.xs b64 (some 1)] (.own), .live [.one (.sl 8 none none none 1)] (.own), .live [.xs b8 none] (.own), .live [.xs b8 none] (.ro), .live [.xs .bool none] (.own), .live [.xs b32 (some 256)] (.own), .live [.xs b32 (some 1536)] (.own), .live [.xs b32 (some 1536)] (.own), .live [.xs b8 none] (.ro)], dfr := [(12, [.ptr 0 0 false])] } [.nat, .nat, .nat, .int, .xs, .nat, .nat, .nat, .nat, .xs, .nat, .xs, .nat, .xs, .xs, .xs, .xs, .nat, .xs]
abbrev W79 : Type := Nat × Nat × Nat × Int × List Int × Nat × Nat × Nat × Nat × List Int × Nat × List Int × Nat × List Int × List Int × List Int × List Int × Nat × List Int × Unit
abbrev W80 : Type := (Int × List Int × Unit) ⊕ (Nat × Nat × List Int × Nat × List Int × Nat × List Int × List Int × Unit)
noncomputable def G8 (N : Nat) (β : Type) (x : W79) (kn : W79 → Option β) (ke : W80 → Option β) : Option β :=
 if (x.2.2.2.1 < (6:Int)) then
  if 0 ≤ (320:Int) then (
  if (320:Int) ≤ ((x.2.2.2.2.2.2.1 : Nat) : Int) then (
  if 0 ≤ (320:Int) then (
  if (320:Int) ≤ ((x.2.2.2.2.2.2.1 : Nat) : Int) then (
  (a0e ((10:Int), (List.take 320 (List.drop (c2U x.2.2.2.2.2.1 0) x.2.2.2.2.2.2.2.2.2.2.2.2.2.2.2.2.2.2.1)), ())).bind fun r14 => (
  if (r14.2 ≠ (0:Int)) then
   ke (.inl (r14.2, x.2.2.2.2.1, ()))
  else
   m9 (G9 N) N (x.1, x.2.1, x.2.2.1, x.2.2.2.1, x.2.2.2.1, (0:Int), x.2.2.2.2.1, (c2U x.2.2.2.2.2.1 320), (x.2.2.2.2.2.2.1 - 320), (x.2.2.2.2.2.2.2.1 - 320), x.2.2.2.2.2.2.2.2.1, x.2.2.2.2.2.2.2.2.2.1, x.2.2.2.2.2.2.2.2.2.2.1, x.2.2.2.2.2.2.2.2.2.2.2.1, x.2.2.2.2.2.2.2.2.2.2.2.2.1, x.2.2.2.2.2.2.2.2.2.2.2.2.2.1, x.2.2.2.2.2.2.2.2.2.2.2.2.2.2.1, x.2.2.2.2.2.2.2.2.2.2.2.2.2.2.2.1, x.2.2.2.2.2.2.2.2.2.2.2.2.2.2.2.2.1, r14.1, x.2.2.2.2.2.2.2.2.2.2.2.2.2.2.2.2.2.1, x.2.2.2.2.2.2.2.2.2.2.2.2.2.2.2.2.2.2.1, ()) fun y15 => (
   if 0 ≤ y15.2.2.2.1 then (
   if y15.2.2.2.1 < 6 then (
   if ((y15.2.2.2.1.toNat) * 256) + 256 ≤ 1536 then (
   (a0E (y15.2.2.2.2.2.2.2.2.2.2.2.2.2.2.2.2.2.2.1, ())).bind fun r16 => (
   (a0c (y15.2.2.2.2.2.2.2.2.2.2.2.2.2.2.2.1, r16, ())).bind fun r17 => (
   (a0F ((List.take 256 (List.drop ((y15.2.2.2.1.toNat) * 256) y15.2.2.2.2.2.2.2.2.2.2.2.2.2.2.2.2.1)), r17, ())).bind fun r18 => (
   (a4j (r18, ())).bind fun r19 => (
   if 0 ≤ y15.2.2.2.1 then (
   if y15.2.2.2.1 < ((y15.2.2.1 : Nat) : Int) then (
   if ((y15.2.2.2.1.toNat) * 256) + 256 ≤ y15.2.2.2.2.2.2.2.2.2.2.2.2.2.1 then (
   (a0G ((List.take 256 (List.drop ((y15.2.2.2.1.toNat) * 256) y15.2.2.2.2.2.2.2.2.2.2.2.2.2.2.1)), r19, ())).bind fun r20 => (
   if 0 ≤ y15.2.2.2.1 then (
   if y15.2.2.2.1 < 6 then (
   if ((y15.2.2.2.1.toNat) * 256) + 256 ≤ 1536 then (
   kn (y15.1, y15.2.1, y15.2.2.1, (IntKind.i64.wrap (y15.2.2.2.2.1 + (1:Int))), y15.2.2.2.2.2.1, y15.2.2.2.2.2.2.1, y15.2.2.2.2.2.2.2.1, y15.2.2.2.2.2.2.2.2.1, y15.2.2.2.2.2.2.2.2.2.1, y15.2.2.2.2.2.2.2.2.2.2.1, y15.2.2.2.2.2.2.2.2.2.2.2.1, y15.2.2.2.2.2.2.2.2.2.2.2.2.1, y15.2.2.2.2.2.2.2.2.2.2.2.2.2.1, y15.2.2.2.2.2.2.2.2.2.2.2.2.2.2.1, y15.2.2.2.2.2.2.2.2.2.2.2.2.2.2.2.1, y15.2.2.2.2.2.2.2.2.2.2.2.2.2.2.2.2.1, (List.take ((y15.2.2.2.1.toNat) * 256) y15.2.2.2.2.2.2.2.2.2.2.2.2.2.2.2.2.2.1 ++ r20 ++ List.drop (((y15.2.2.2.1.toNat) * 256) + 256) y15.2.2.2.2.2.2.2.2.2.2.2.2.2.2.2.2.2.1), y15.2.2.2.2.2.2.2.2.2.2.2.2.2.2.2.2.2.2.2.1, y15.2.2.2.2.2.2.2.2.2.2.2.2.2.2.2.2.2.2.2.2.1, ())) else none) else none) else none)) else none) else none) else none))))) else none) else none) else none))) else none) else none) else none) else none
 else
  ke (.inr (x.1, x.2.1, x.2.2.2.2.1, x.2.2.2.2.2.2.2.2.1, x.2.2.2.2.2.2.2.2.2.1, x.2.2.2.2.2.2.2.2.2.2.1, x.2.2.2.2.2.2.2.2.2.2.2.1, x.2.2.2.2.2.2.2.2.2.2.2.2.2.2.2.2.1, ()))
noncomputable def b44 : Go' W80 := fun y K => match y with
 | .inl y => K (.pan (.ifi 26 .i64) y.1) (fSt { tmps := pv 8 (.sc (.ptr 0 0 false) :: pv 105 []), mem := [.live [.xs b64 (some 1)] (.own)], dfr := [(12, [.ptr 0 0 false])] } [.xs] y.2)
 | .inr y => K (.exit 2) (fSt { tmps := pv 8 (.sc (.ptr 0 0 false) :: .sc (.vec 1 none 1) :: .sc (.sl 2 (some 0) (some 48) none 1) :: pv 7 (.sc (.ptr 3 0 false) :: pv 95 [])), mem := [.live [.xs b64 (some 1)] (.own), .live [.xs b8 none] (.own), .live [.xs b8 none] (.ro), .live [.xs b32 (some 1536)] (.own)], dfr := [(12, [.ptr 0 0 false])] } [.nat, .nat, .xs, .nat, .xs, .nat, .xs, .xs] y)
noncomputable def a7H (N : Nat) : LT := upd (a7I N) 26 (o9 b6J N (G8 N) b44)
theorem b45 (N : Nat) : OkAll p_dsa_Verify_E a4L N (a7H N) (x4 Q9) :=
 d7 (c := d8 26 Q9) (b47 N) (by kernel_rfl) (fun x => by kernel_rfl) (fun β x kn ke => by kernel_rfl)
abbrev a01 : List Kd := [.sl b8, .sl b8, .sl b8, .sl b8]
abbrev a6J : List Kd := [.int .i64]
noncomputable def a5j (N : Nat) (x : List Int × List Int × List Int × List Int × Unit) : Option (Int) :=
 if ((((List.length x.1) : Nat) : Int) ≠ (1952:Int)) then
  some (List.getD (List.set [0] 0 (161:Int)) 0 0)
 else
  if ((((List.length x.2.2.1) : Nat) : Int) > (255:Int)) then
   some (List.getD (List.set [0] 0 (3:Int)) 0 0)
  else
   if ((((List.length x.2.2.2.1) : Nat) : Int) ≠ (3309:Int)) then
    some (List.getD (List.set [0] 0 (70:Int)) 0 0)
   else
    (J6 ((64:Int), [x.1], ())).bind fun r1 => (
    (a2F (r1, x.2.1, x.2.2.1, ())).bind fun r2 => (
    if 0 ≤ (48:Int) then (
    if (48:Int) ≤ (((List.length x.2.2.2.1) : Nat) : Int) then (
    if 0 ≤ (48:Int) then (
    if (48:Int) ≤ (((List.length x.2.2.2.1) : Nat) : Int) then (
    m9 (v0 N) N ((List.length r2), (List.length x.2.2.2.1), (0:Int), [0], (List.length x.1), 48, ((List.length x.2.2.2.1) - 48), ((List.length x.2.2.2.1) - 48), (List.length r2), r2, (List.length x.2.2.2.1), x.2.2.2.1, (List.replicate 1280 0), (List.length x.1), x.1, ()) fun y => (match y with
    | .inl y5 => (
     some (List.getD (List.set y5.2.1 0 y5.1) 0 0))
    | .inr (.inl y6) => (
     some (List.getD y6.1 0 0))
    | .inr (.inr y7) => (
     (K5 ((6:Int), (55:Int), (List.take y7.2.2.2.2.2.1 (List.drop y7.2.2.2.2.1 y7.2.2.2.2.2.2.2.2.2.2.1)), ())).bind fun r8 => (
     if (r8.2 ≠ (0:Int)) then
      some (List.getD (List.set y7.2.2.1 0 (70:Int)) 0 0)
     else
      (a48 ((49:Int), (List.take 48 (List.drop 0 y7.2.2.2.2.2.2.2.2.2.2.1)), ())).bind fun r9 => (
      if (r9.2 ≠ (0:Int)) then
       some (List.getD (List.set y7.2.2.1 0 r9.2) 0 0)
      else
       (a0E (r9.1, ())).bind fun r10 => (
       if 0 ≤ (32:Int) then (
       if (32:Int) ≤ ((y7.2.2.2.1 : Nat) : Int) then (
       if 0 ≤ (32:Int) then (
       if (32:Int) ≤ ((y7.2.2.2.1 : Nat) : Int) then (
       (O1 ((List.take 32 (List.drop 0 y7.2.2.2.2.2.2.2.2.2.2.2.2.2.1)), ())).bind fun r11 => (
       if r11.1 = true then
        some (List.getD (List.set y7.2.2.1 0 r11.2.1) 0 0)
       else
        (xg (O1 ((List.take 32 (List.drop 0 y7.2.2.2.2.2.2.2.2.2.2.2.2.2.1)), ()))).bind fun r12 => (
        (K6 (r12.1, y7.2.2.2.2.2.2.2.2.2.2.2.1, ())).bind fun r13 => (
        m9 (G8 N) N (y7.1, y7.2.1, (List.length r8.1 / 256), (0:Int), y7.2.2.1, 32, (y7.2.2.2.1 - 32), (y7.2.2.2.1 - 32), y7.2.2.2.2.2.2.2.1, y7.2.2.2.2.2.2.2.2.1, y7.2.2.2.2.2.2.2.2.2.1, y7.2.2.2.2.2.2.2.2.2.2.1, (List.length r8.1), r8.1, r10, r13, (List.replicate 1536 0), y7.2.2.2.2.2.2.2.2.2.2.2.2.1, y7.2.2.2.2.2.2.2.2.2.2.2.2.2.1, ()) fun y => (match y with
        | .inl y21 => (
         some (List.getD (List.set y21.2.1 0 y21.1) 0 0))
        | .inr y22 => (
         (a0I (y22.2.2.2.2.1, y22.2.2.2.2.2.2.2.1, ())).bind fun r23 => (
         (a7q (r23, (List.take 48 (List.drop 0 y22.2.2.2.2.2.2.1)), ())).bind fun r24 => (
         if (¬ (r24 = true)) then
          some (List.getD (List.set y22.2.2.1 0 (70:Int)) 0 0)
         else
          some (List.getD (List.set y22.2.2.1 0 (0:Int)) 0 0))))))))) else none) else none) else none) else none)))))) else none) else none) else none) else none))
theorem b93 (e0 : c8 Try.prog 13 R8) (e1 : c8 Try.prog 26 a6n) (e2 : c8 Try.prog 29 o6) (e3 : c8 Try.prog 30 a0v) (e4 : c8 Try.prog 31 a2A) (e5 : c8 Try.prog 33 a4S) (e6 : c8 Try.prog 32 a2y) (e7 : c8 Try.prog 34 K0) (e8 : c8 Try.prog 35 a1K) (e9 : c8 Try.prog 38 Q2) (e10 : c8 Try.prog 37 a6k) (e11 : c8 Try.prog 36 a2x) (e12 : c8 Try.prog 39 a6l) (e13 : c8 Try.prog 41 a0w) (e14 : c8 Try.prog 40 b1u) (e15 : XOk Try.prog 18 a0x) : p_dsa_Verify_E.Ok Try.prog := AE.ofA_ok (all_cons u6 (all_cons G0 (all_cons c2Q (all_cons a2P (all_cons s5 (all_cons b5C (all_cons b5D (all_cons c5A (all_cons b8X c6))))))))) (all_cons ⟨e0, a0D⟩ (all_cons ⟨e1, b0D⟩ (all_cons ⟨e2, J1⟩ (all_cons ⟨e3, a4g⟩ (all_cons ⟨e4, a8F⟩ (all_cons ⟨e5, a8C⟩ (all_cons ⟨e6, a5w⟩ (all_cons ⟨e7, a2Q⟩ (all_cons ⟨e8, a6v⟩ (all_cons ⟨e9, a2E⟩ (all_cons ⟨e10, b0C⟩ (all_cons ⟨e11, a5v⟩ (all_cons ⟨e12, b3j⟩ (all_cons ⟨e13, a5N⟩ (all_cons ⟨e14, b7N⟩ c6))))))))))))))) (all_cons ⟨e15, a4i⟩ c6) (all_cons ⟨a4c, a4h⟩ c6) c6 (all_cons ⟨O5, A7⟩ (all_cons ⟨a2V, a0b⟩ (all_cons ⟨b86, b37⟩ c6))) c6 c6 c6 c6
theorem c2c (hE : p_dsa_Verify_E.Ok Try.prog) {g : Ds a01 → Option (Rs [.int .i64])} (hg : ∀ x r, g x = some r → ∃ N, a5j N x = some r) : c8 Try.prog 10 ⟨a01, [.int .i64], g⟩ :=
 i6 (E := p_dsa_Verify_E) (H := a4L) (L := fun N => a7H N) (c := Q9) (ks := a01) (rs := a6J) (F := a5j) hE mix Try.func10 (by kernel_rfl) (fun N => b45 N) (fun _ _ => by kernel_rfl) hg
noncomputable def p_law16_few_E : AE := AE.of [(23, ty23), (35, ty35)] []
noncomputable def b6Y : Hints := [(2, [5, 6, 7]), (2000000, []), (2000001, [5, 6, 7]), (3000000, [2])]
noncomputable def b0m : Code := (Try.f7).body.getD .skip
noncomputable def c0c : Shape := mkS { tmps := pv 5 (.sc (.frs b8) :: .sc (.int .i64) :: .sc (.int .i64) :: pv 7 []), mem := [] } [.xss, .int, .int]
abbrev W81 : Type := List (List Int) × Int × Int × Unit
abbrev W82 : Type := (Bool × Unit) ⊕ (Unit)
noncomputable def N6 (N : Nat) (β : Type) (x : W81) (kn : W81 → Option β) (ke : W82 → Option β) : Option β :=
 if (x.2.2.1 < x.2.1) then
  if 0 ≤ x.2.2.1 then (
  if x.2.2.1 < ((List.length x.1 : Nat) : Int) then (
  if (((List.length (List.getD x.1 (x.2.2.1.toNat) []) : Nat) : Int) > (6000:Int)) then
   ke (.inl (false, ()))
  else
   kn (x.1, x.2.1, (IntKind.i64.wrap (x.2.2.1 + (1:Int))), ())) else none) else none
 else
  ke (.inr (()))
noncomputable def b8C : Go' W82 := fun y K => match y with
 | .inl y => K .ret (fSt { tmps := V :: V :: .sc (.bool) :: pv 12 [], mem := [] } [.bool] y)
 | .inr y => K (.exit 0) (fSt { tmps := pv 15 [], mem := [] } [] ())
noncomputable def b0Q (N : Nat) : LT := upd (LT.nil) 2 (o9 c0c N (N6 N) b8C)
theorem b8D (N : Nat) : OkAll p_law16_few_E b6Y N (b0Q N) (x4 b0m) :=
 d7 (c := d8 2 b0m) (OkAll.nil) (by kernel_rfl) (fun x => by kernel_rfl) (fun β x kn ke => by kernel_rfl)
abbrev a2h : List Kd := [.sls b8]
abbrev a8o : List Kd := [.bool]
noncomputable def a6W (N : Nat) (x : List (List Int) × Unit) : Option (Bool) :=
 m9 (N6 N) N (x.1, ((List.length x.1 : Nat) : Int), (0:Int), ()) fun y => (match y with
 | .inl y1 => (
  some y1.1)
 | .inr y2 => (
  some true))
theorem c2i : p_law16_few_E.Ok Try.prog := AE.of_ok (all_cons G0 (all_cons a2P c6)) c6
theorem c3m (hE : p_law16_few_E.Ok Try.prog) {g : Ds a2h → Option (Rs [.bool])} (hg : ∀ x r, g x = some r → ∃ N, a6W N x = some r) : c8 Try.prog 7 ⟨a2h, [.bool], g⟩ :=
 i6 (E := p_law16_few_E) (H := b6Y) (L := fun N => b0Q N) (c := b0m) (ks := a2h) (rs := a8o) (F := a6W) hE mix Try.func7 (by kernel_rfl) (fun N => b8D N) (fun _ _ => by kernel_rfl) hg
noncomputable abbrev a4W : Sig := ⟨[.xs b8 32], [.sl b8, .sl b8, .int .i64], a2S⟩
noncomputable abbrev a4X : Sig := ⟨[.sl b8, .sl b8, .sl b8, .sl b8], [.int .i64], a0H⟩
noncomputable def p_law16_live_E : AE := AE.of [(5, ty5), (22, ty22), (23, ty23)] [(8, a4W), (10, a4X)]
noncomputable def c3n : Hints := [(3000000, [0])]
noncomputable def c3o : Code := (Try.f6).body.getD .skip
abbrev a6X : List Kd := []
abbrev a6Y : List Kd := [.bool]
noncomputable def a5n (N : Nat) (x : Unit) : Option (Bool) :=
 (a2S ((List.replicate 32 0), ())).bind fun r1 => (
 if (r1.2.2 = (0:Int)) then
  if ((((List.length r1.1) : Nat) : Int) = (1952:Int)) then
   if ((((List.length r1.2.1) : Nat) : Int) = (4032:Int)) then
    if 0 ≤ (3309:Int) then (
    if (3309:Int) = (3309:Int) then (
    if (3309:Int) * 1 ≤ 281474976710656 then (
    (a0H (r1.1, [], [], (List.replicate 3309 0), ())).bind fun r2 => (
    if (r2 = (70:Int)) then
     (a0H ([], [], [], [], ())).bind fun r3 => (
     some (decide (r3 = (161:Int))))
    else
     some false)) else none) else none) else none
   else
    some false
  else
   some false
 else
  some false)
theorem c0d (e0 : c8 Try.prog 8 a4W) (e1 : c8 Try.prog 10 a4X) : p_law16_live_E.Ok Try.prog := AE.of_ok (all_cons Z8 (all_cons c5z (all_cons G0 c6))) (all_cons ⟨e0, a8I⟩ (all_cons ⟨e1, a8J⟩ c6))
theorem c2j (hE : p_law16_live_E.Ok Try.prog) {g : Ds [] → Option (Rs [.bool])} (hg : ∀ x r, g x = some r → ∃ N, a5n N x = some r) : c8 Try.prog 6 ⟨[], [.bool], g⟩ :=
 i6 (E := p_law16_live_E) (H := c3n) (L := fun N => LT.nil) (c := c3o) (ks := a6X) (rs := a6Y) (F := a5n) hE mix Try.func6 (by kernel_rfl) (fun N => OkAll.nil) (fun _ _ => by kernel_rfl) hg
end Go.Ax.TryP
set_option linter.unusedVariables false
namespace Go.Ax.TryP
open Go.Proofs
theorem R4 {b : List Int} {a n : Nat} (h : a + n ≤ b.length) : (J5 b a n).length = n := by
 unfold J5
 rw [List.length_take, List.length_drop]
 omega
theorem D5 {b : List Int} (h : bytes b) (a n : Nat) : bytes (J5 b a n) := fun z hz => h z (List.mem_of_mem_drop (List.mem_of_mem_take hz))
theorem b7e (l : List Int) (k : Nat) : List.take (l.length - k) (List.drop k l) = l.drop k := List.take_of_length_le (by rw [List.length_drop]; omega)
theorem c4g {t : Int} {w : Nat} (ht : 0 ≤ t ∧ t ≤ 8380417) (hw : w ≤ 23) (b : List Int) : E7 256 (a0t t w b) := by
 refine rows.range fun i _ => ?_
 have h := d3j b i hw
 unfold d3i at h
 omega
theorem c8O : ∀ x r, a4k x = some r → ∃ N, b0k N x = some (xr r) := by
 refine b5F (ks := a2f) (rs := a2g) fun x hw hq => ⟨0, ?_⟩
 obtain ⟨(b : List Int), u⟩ := x
 have hl : b.length = 128 := hq
 have hb : b.length ≤ maxLen ∧ bytes b := N0.1 hw.1
 have e : j4 ((4 : Int), (4 : Int), b, ()) = some (b4i b, 0) := a5U (n := 4) (t := 4) (by omega) ⟨by omega, by omega, by omega⟩ hb.2
 have e2 := c0P (a := b4i b) (c4g (by omega) (by omega) b)
 unfold b0k
 dsimp only
 rw [e, Option.bind_some, if_neg (by simp), e2, Option.bind_some]
 by_cases h : 4 < a0i (b4i b)
 ·rw [if_pos h, if_pos (by decide), decide_eq_true h]
  rfl
 ·rw [if_neg h, decide_eq_false h]
  rfl
theorem d4y {b : List Int} (hl : b.length = 128) (hb : bytes b) : a4k (b, ()) = some (decide (4 < a0i (b4i b)), 160, b4i b) :=
 b5E (ks := a2f) (rs := a2g) (x := (b, ())) (Q := fun x => x.1.length = 128) (f := fun x => (decide (4 < a0i (b4i x.1)), 160, b4i x.1)) ⟨N0.2 ⟨mB (by rw [hl]; omega), hb⟩, trivial⟩ hl
theorem c5m (sk : List Int) (i : Nat) : (skP sk i).length = 256 := a1M _
theorem d3M (sk : List Int) (i : Nat) : (skL sk i).length = 256 := a1M _
theorem b5N {sk : List Int} (hl : sk.length = 4032) (hb : bytes sk) {i : Nat} (hi : i < 11) : a4k (List.take 128 (List.drop (128 + 128 * i) sk), ()) = some (decide (4 < a0i (skP sk i)), 160, skP sk i) :=
 d4y (b := J5 sk (128 + 128 * i) 128) (R4 (by omega)) (D5 hb _ _)
theorem d6W {sk : List Int} (hl : sk.length = 4032) (hb : bytes sk) {i : Nat} (hi : i < 6) : j4 ((4096 : Int), (13 : Int), List.take 416 (List.drop (1536 + 416 * i) sk), ()) = some (skL sk i, 0) :=
 a5U (n := 13) (t := 4096) (b := J5 sk (1536 + 416 * i) 416) (by omega) ⟨by omega, by omega, by rw [R4 (by omega)]⟩ (D5 hb _ _)
theorem e0F {sk A B C T E L Z : List Int} (hl : sk.length = 4032) (hb : bytes sk) (hZ : Z.length = 5 * 256) {rho k : List Int} {β : Type} (K : (Int × List Int × List Int × List Int × Unit) ⊕ (List Int × List Int × List Int × List Int × List Int × List Int × List Int × List Int × List Int × List Int × Unit) → Option β) :
  ((∀ i, i < 5 → a0i (skP sk i) ≤ 4) → m9 (B3 10) 10 ((0 : Int), sk.drop 128, A, B, C, rho, k, T, Z, E, L, ()) K = K (.inr (sk.drop (128 + 128 * 5), A, B, C, rho, k, T, J4 (skP sk) 5, E, L, ()))) ∧
  (¬ (∀ i, i < 5 → a0i (skP sk i) ≤ 4) → m9 (B3 10) 10 ((0 : Int), sk.drop 128, A, B, C, rho, k, T, Z, E, L, ()) K = K (.inl (160, A, B, C, ()))) := by
 have h := c1B (F := B3 10) (K := K) (fun i => ((i : Int), sk.drop (128 + 128 * i), A, B, C, rho, k, T, a1u (skP sk) Z i, E, L, ())) (fun i => a0i (skP sk i) ≤ 4) (.inl (160, A, B, C, ())) (.inr (sk.drop (128 + 128 * 5), A, B, C, rho, k, T, J4 (skP sk) 5, E, L, ())) 5
  (fun i hi kn => by
   have h1 : ((List.length (List.drop (128 + 128 * i) sk) : Nat) : Int) = 3904 - 128 * i := by rw [List.length_drop]; omega
   constructor
   ·intro hc
    unfold B3
    dsimp only
    rw [if_pos (by omega), if_pos (by omega), if_pos (by omega), if_pos (by omega), if_pos (by omega), Nat.sub_zero, List.drop_zero, b5N hl hb (show i < 11 by omega), Option.bind_some, if_neg (by rw [decide_eq_true_iff]; omega), if_pos (by omega), if_pos (by omega), if_pos (by omega), Int.toNat_natCast, b7e, List.drop_drop, c7 (by omega) (by omega), Q1 (f := skP sk) hZ (fun j _ => c5m sk j) hi]
    rfl
   ·intro hc
    unfold B3
    dsimp only
    rw [if_pos (by omega), if_pos (by omega), if_pos (by omega), if_pos (by omega), if_pos (by omega), Nat.sub_zero, List.drop_zero, b5N hl hb (show i < 11 by omega), Option.bind_some, if_pos (by rw [decide_eq_true_iff]; omega)])
  (fun kn => by
   unfold B3
   dsimp only
   rw [if_neg (by omega), Q0 hZ]) 5 0 10 (by omega) (by omega)
 rw [E1] at h
 exact ⟨fun hh => h.1 fun r _ hr6 => hh r hr6, fun hh => h.2 fun hh' => hh fun r hr6 => hh' r (Nat.zero_le _) hr6⟩
theorem e0E {sk A B C T S L Z : List Int} (hl : sk.length = 4032) (hb : bytes sk) (hZ : Z.length = 6 * 256) {rho k : List Int} {β : Type} (K : (Int × List Int × List Int × List Int × Unit) ⊕ (List Int × List Int × List Int × List Int × List Int × List Int × List Int × List Int × List Int × List Int × Unit) → Option β) :
  ((∀ i, i < 6 → a0i (skP sk (5 + i)) ≤ 4) → m9 (w4 10) 10 ((0 : Int), sk.drop (128 + 128 * 5), A, B, C, rho, k, T, S, Z, L, ()) K = K (.inr (sk.drop 1536, A, B, C, rho, k, T, S, J4 (fun i => skP sk (5 + i)) 6, L, ()))) ∧
  (¬ (∀ i, i < 6 → a0i (skP sk (5 + i)) ≤ 4) → m9 (w4 10) 10 ((0 : Int), sk.drop (128 + 128 * 5), A, B, C, rho, k, T, S, Z, L, ()) K = K (.inl (160, A, B, C, ()))) := by
 have h := c1B (F := w4 10) (K := K) (fun i => ((i : Int), sk.drop (128 + 128 * (5 + i)), A, B, C, rho, k, T, S, a1u (fun i => skP sk (5 + i)) Z i, L, ())) (fun i => a0i (skP sk (5 + i)) ≤ 4) (.inl (160, A, B, C, ())) (.inr (sk.drop 1536, A, B, C, rho, k, T, S, J4 (fun i => skP sk (5 + i)) 6, L, ())) 6
  (fun i hi kn => by
   have h1 : ((List.length (List.drop (128 + 128 * (5 + i)) sk) : Nat) : Int) = 3264 - 128 * i := by rw [List.length_drop]; omega
   constructor
   ·intro hc
    unfold w4
    dsimp only
    rw [if_pos (by omega), if_pos (by omega), if_pos (by omega), if_pos (by omega), if_pos (by omega), Nat.sub_zero, List.drop_zero, b5N hl hb (show 5 + i < 11 by omega), Option.bind_some, if_neg (by rw [decide_eq_true_iff]; omega), if_pos (by omega), if_pos (by omega), if_pos (by omega), Int.toNat_natCast, b7e, List.drop_drop, c7 (by omega) (by omega), Q1 (f := fun i => skP sk (5 + i)) hZ (fun j _ => c5m sk _) hi]
    rfl
   ·intro hc
    unfold w4
    dsimp only
    rw [if_pos (by omega), if_pos (by omega), if_pos (by omega), if_pos (by omega), if_pos (by omega), Nat.sub_zero, List.drop_zero, b5N hl hb (show 5 + i < 11 by omega), Option.bind_some, if_pos (by rw [decide_eq_true_iff]; omega)])
  (fun kn => by
   unfold w4
   dsimp only
   rw [if_neg (by omega), Q0 hZ]) 6 0 10 (by omega) (by omega)
 rw [E1] at h
 exact ⟨fun hh => h.1 fun r _ hr6 => hh r hr6, fun hh => h.2 fun hh' => hh fun r hr6 => hh' r (Nat.zero_le _) hr6⟩
theorem e0Y {sk A B C T S E Z : List Int} (hl : sk.length = 4032) (hb : bytes sk) (hZ : Z.length = 6 * 256) {rho k : List Int} {β : Type} (K : (Int × List Int × List Int × List Int × Unit) ⊕ (List Int × List Int × List Int × List Int × List Int × List Int × List Int × List Int × List Int × Unit) → Option β) :
  m9 (H4 10) 10 ((0 : Int), sk.drop 1536, A, B, C, rho, k, T, S, E, Z, ()) K = K (.inr (A, B, C, rho, k, T, S, E, J4 (skL sk) 6, ())) := by
 refine i9 (F := H4 10) (s := fun i => ((i : Int), sk.drop (1536 + 416 * i), A, B, C, rho, k, T, S, E, a1u (skL sk) Z i, ())) (y := .inr (A, B, C, rho, k, T, S, E, J4 (skL sk) 6, ())) 6 (by rw [E1]; rfl) ?_ ?_ 10 (by omega)
 ·intro i hi kn
  have h1 : ((List.length (List.drop (1536 + 416 * i) sk) : Nat) : Int) = 2496 - 416 * i := by rw [List.length_drop]; omega
  unfold H4
  dsimp only
  rw [if_pos (by omega), if_pos (by omega), if_pos (by omega), if_pos (by omega), if_pos (by omega), Nat.sub_zero, List.drop_zero, d6W hl hb hi, Option.bind_some, if_neg (by simp), if_pos (by omega), if_pos (by omega), if_pos (by omega), Int.toNat_natCast, b7e, List.drop_drop, show 1536 + 416 * i + 416 = 1536 + 416 * (i + 1) by omega, c7 (by omega) (by omega), Q1 (f := skL sk) hZ (fun j _ => d3M sk j) hi]
  rfl
 ·intro kn
  unfold H4
  dsimp only
  rw [if_neg (by omega), Q0 hZ]
end Go.Ax.TryP
set_option linter.unusedVariables false
namespace Go.Ax.TryP
open Go.Proofs
theorem c4V {sk : List Int} (hl : sk.length = 4032) : d3o sk ↔ (∀ i, i < 5 → a0i (skP sk i) ≤ 4) ∧ ∀ i, i < 6 → a0i (skP sk (5 + i)) ≤ 4 := by
 constructor
 ·intro h
  exact ⟨fun i hi => h.2 i (by omega), fun i hi => h.2 (5 + i) (by omega)⟩
 ·intro h
  refine ⟨hl, fun i hi => ?_⟩
  by_cases h5 : i < 5
  ·exact h.1 i h5
  ·have := h.2 (i - 5) (by omega)
   rwa [show 5 + (i - 5) = i by omega] at this
theorem d1n : ∀ x r, b2Z x = some r → ∃ N, a6g N x = some (xr r) := by
 refine b5F (ks := a3J) (rs := a3K) fun x hw hq => ⟨10, ?_⟩
 obtain ⟨(sk : List Int), u⟩ := x
 have hb0 : sk.length ≤ maxLen ∧ bytes sk := N0.1 hw.1
 have hb := hb0.2
 show a6g 10 (sk, u) = some (xr (tf (¬ d3o sk), 160, d1N sk))
 by_cases hl : sk.length = 4032
 ·have hZ5 : (List.replicate 1280 (0 : Int)).length = 5 * 256 := by rw [List.length_replicate]
  have hZ6 : (List.replicate 1536 (0 : Int)).length = 6 * 256 := by rw [List.length_replicate]
  unfold a6g
  dsimp only
  generalize List.replicate 1280 (0 : Int) = Z5 at hZ5
  generalize List.replicate 1536 (0 : Int) = Z6 at hZ6
  have d1 : (sk.drop 32).length = 4000 := by rw [List.length_drop]; omega
  have d2 : (sk.drop 64).length = 3968 := by rw [List.length_drop]; omega
  rw [if_neg (by omega)]
  simp only [b7e]
  simp only [List.drop_drop, Nat.sub_zero, List.drop_zero, Nat.reduceAdd]
  rw [if_pos (by omega), if_pos (by omega), if_pos (by omega), if_pos (by omega), if_pos (by omega), if_pos (by omega), if_pos (by omega), if_pos (by omega), if_pos (by omega), if_pos (by omega), if_pos (by omega), if_pos (by omega)]
  by_cases c1 : ∀ i, i < 5 → a0i (skP sk i) ≤ 4
  ·refine ((e0F hl hb hZ5 _).1 c1).trans ?_
   dsimp only
   by_cases c2 : ∀ i, i < 6 → a0i (skP sk (5 + i)) ≤ 4
   ·refine ((e0E hl hb hZ6 _).1 c2).trans ?_
    dsimp only
    refine (e0Y hl hb hZ6 _).trans ?_
    rw [d9A (fun h => h ((c4V hl).2 ⟨c1, c2⟩))]
    rfl
   ·refine ((e0E hl hb hZ6 _).2 c2).trans ?_
    rw [d0w (fun h => c2 ((c4V hl).1 h).2)]
    rfl
  ·refine ((e0F hl hb hZ5 _).2 c1).trans ?_
   rw [d0w (fun h => c1 ((c4V hl).1 h).1)]
   rfl
 ·unfold a6g
  dsimp only
  rw [if_pos (by omega), if_pos (by decide), d0w (fun h => hl h.1)]
  rfl
theorem d6L {sk : List Int} (hb : sk.length ≤ maxLen ∧ bytes sk) : b2Z (sk, ()) = some (tf (¬ d3o sk), 160, d1N sk) :=
 b5E (ks := a3J) (rs := a3K) (x := (sk, ())) (Q := fun _ => True) (f := fun x => (tf (¬ d3o x.1), 160, d1N x.1)) ⟨N0.2 hb, trivial⟩ trivial
end Go.Ax.TryP
set_option linter.unusedVariables false
namespace Go.Ax.TryP
open Go.Proofs
theorem c1L {a : List Int} {m : Int} (h0 : 0 ≤ m) (h : a0i a ≤ m) {i : Nat} (hi : i < 256) : b1Q (a44 (a.getD i 0)) ≤ m := (c99 h0).1 h i hi
theorem c3T {z m : Int} (h : b1Q z ≤ m) : -m ≤ z ∧ z ≤ m := by
 unfold b1Q at h
 split at h <;> omega
theorem c1y {top m : Int} {w : Nat} {a : List Int} (h0 : 0 ≤ m) (h : a0i a ≤ m) (h1 : m ≤ top) (h2 : top + m < 2 ^ w) : inW w (a3a top a) := by
 intro i hi
 have e : (a3a top a).getD i 0 = top - (a1i a).getD i 0 := d6 hi
 rw [e, a6d hi]
 have := c3T (c1L h0 h hi)
 omega
theorem d7k {s : List Int} (h : s.length = 66) : (c6J 20 s).2 = 0 := by
 unfold c6J
 rw [if_neg (by rw [h]; decide)]
theorem d7l (s : List Int) : E7 256 (c6J 20 s).1 := by
 unfold c6J
 split
 ·exact rows.zero (by omega) 256
 ·exact c4g (by decide) (by decide) _
theorem d4t {b : List Int} (hb : b.length ≤ maxLen ∧ bytes b) : a7o (20, b, ()) = some (c6J 20 b) :=
 d9 (ks := a0N) (rs := a0O) (x := (20, b, ())) ⟨d1K (by omega), N0.2 hb, trivial⟩ trivial
theorem d0y (n : Int) : bytes (c7G n) := fun z hz => by
 unfold c7G at hz
 rcases List.mem_cons.1 hz with rfl | hz
 ·omega
 ·rw [List.mem_singleton.1 hz]; omega
theorem c5w (n : Int) : (c7G n).length = 2 := rfl
theorem c9t {a b : List Int} (ha : a.length ≤ 1000 ∧ bytes a) (hb : b.length ≤ 1000 ∧ bytes b) : m7 ([a, b], ()) = some (a ++ b) := by
 have h := c0N (l := [a, b]) ⟨by simp, by simp; omega⟩ ⟨mB (by simp), fun zs hzs => by
  rcases List.mem_cons.1 hzs with rfl | hzs
  ·exact ⟨mB (by omega), ha.2⟩
  ·rw [List.mem_singleton.1 hzs]; exact ⟨mB (by omega), hb.2⟩⟩
 rw [h]
 simp
theorem c9s {a : List Int} (ha : a.length ≤ 1000000 ∧ bytes a) : m7 ([a], ()) = some a := by
 have h := c0N (l := [a]) ⟨by simp, by simp; omega⟩ ⟨mB (by simp), fun zs hzs => by rw [List.mem_singleton.1 hzs]; exact ⟨mB (by omega), ha.2⟩⟩
 rw [h]
 simp
theorem c51 {m y : List Int} (hm : E7 (30 * 256) m) (hy : E7 (5 * 256) y) : O2 (m, y, ()) = some (R3 m y) :=
 d9 (ks := F6) (rs := F7) (x := (m, y, ())) ⟨w3.2 hm, w3.2 hy, trivial⟩ trivial
theorem d11 {mu h : List Int} (hm : mu.length ≤ 1000 ∧ bytes mu) (hh : E7 (6 * 256) h) (hw : ∀ r, r < 6 → inW 4 (o8 (chD h r))) : a0I (mu, h, ()) = some (b9y mu h) :=
 d9 (ks := P3) (rs := P4) (x := (mu, h, ())) ⟨N0.2 ⟨mB (by have := hm.1; exact Nat.le_trans this (by decide)), hm.2⟩, w3.2 hh, trivial⟩ ⟨hm.1, hw⟩
theorem c9o {b : List Int} (hb : b.length ≤ 1000 ∧ bytes b) : a48 (49, b, ()) = some (a4b 49 b) :=
 d9 (ks := a0L) (rs := a0M) (x := (49, b, ())) ⟨d1K (by omega), N0.2 ⟨mB (by have := hb.1; exact Nat.le_trans this (by decide)), hb.2⟩, trivial⟩ hb.1
theorem a0g (l : List Int) (n : Nat) : (a3Q l n).length = n := c5s _ _ _ _
theorem a7U (l : List Int) (n : Nat) : bytes (a3Q l n) := d9x _ _ _ _
theorem c0Z (mu h : List Int) : (b9y mu h).length = 48 := a0g _ _
theorem c70 (mu h : List Int) : bytes (b9y mu h) := a7U _ _
def c7X (z : Int) : Prop := z = 0 ∨ z = 1 ∨ z = 8380416
theorem d18 {c : List Int} (h : ∀ z ∈ c, c7X z) (i : Nat) : c7X (c.getD i 0) := by
 by_cases hi : i < c.length
 ·rw [List.getD_eq_getElem?_getD, List.getElem?_eq_getElem hi]
  exact h _ (List.getElem_mem hi)
 ·rw [List.getD_eq_getElem?_getD, List.getElem?_eq_none (by omega)]
  exact .inl rfl
theorem d4A {s : List Int} {n i a : Nat} {c : List Int} (h : c.length = 256 ∧ ∀ z ∈ c, c7X z) : (c2V s n i a c).length = 256 ∧ ∀ z ∈ c2V s n i a c, c7X z := by
 unfold c2V
 refine ⟨by rw [List.length_set, List.length_set, h.1], fun z hz => ?_⟩
 rcases List.mem_or_eq_of_mem_set hz with hz | hz
 ·rcases List.mem_or_eq_of_mem_set hz with hz | hz
  ·exact h.2 z hz
  ·rw [hz]; exact d18 h.2 _
 ·rw [hz]
  split
  ·exact .inr (.inr rfl)
  ·exact .inr (.inl rfl)
theorem c5F : z256.length = 256 ∧ ∀ z ∈ z256, c7X z := ⟨by rw [z256, List.length_replicate], fun z hz => .inl (List.eq_of_mem_replicate hz)⟩
theorem c4p (tau : Nat) (s : List Int) : ∀ {k : Nat} {c : List Int} {p : Nat}, b3f tau s k = some (c, p) → c.length = 256 ∧ ∀ z ∈ c, c7X z
 | 0, c, p, h => by
  simp only [b3f] at h
  cases h
  exact c5F
 | k + 1, c, p, h => by
  simp only [b3f] at h
  split at h
  ·cases h
  ·rename_i c0 p0 hk
   split at h
   ·cases h
   ·cases h
    exact d4A (c4p tau s hk)
theorem c9w (s : List Int) : (a4b 49 s).1.length = 256 ∧ ∀ z ∈ (a4b 49 s).1, c7X z := by
 unfold a4b
 split
 ·exact c5F
 ·split
  ·exact c5F
  ·rename_i c p hk
   exact c4p _ s hk
theorem d17 (s : List Int) : E7 256 (a4b 49 s).1 := ⟨(c9w s).1, fun z hz => by rcases (c9w s).2 z hz with h | h | h <;> omega⟩
theorem d6O (s : List Int) : (a4b 49 s).2 = 0 ∨ (a4b 49 s).2 = 130 := by
 unfold a4b
 rw [if_neg (by decide)]
 split
 ·exact .inr rfl
 ·exact .inl rfl
theorem d1R {f : Nat → List Int} {h : Nat → Int} : ∀ n, (∀ i, i < n → (f i).length = if h i ≠ 0 then 1 else 0) → ((b2S f n).length : Int) = c71 h n
 | 0, _ => by rw [c6f]; rfl
 | n + 1, hf => by
  rw [c01, b2S, List.length_append, hf n (by omega)]
  have ih := d1R (f := f) (h := h) n fun i hi => hf i (by omega)
  split
  ·push_cast; omega
  ·push_cast; omega
theorem d5v {f : Nat → List Int} {n k i : Nat} (h : ∀ j, j < n → (f j).length = 256) (hk : k < n) (hi : i < 256) : (J4 f n).getD (k * 256 + i) 0 = (f k).getD i 0 := by
 have e := a0A h hk
 unfold chD at e
 rw [← e, List.getD_eq_getElem?_getD, List.getD_eq_getElem?_getD, List.getElem?_take, if_pos hi, List.getElem?_drop]
theorem c1w (c w e l : List Int) (r : Nat) : (htD c w e l r).1.length = 256 := a1M _
theorem d2o {f : Nat → List Int × Int} {n : Nat} (hf : ∀ k, k < n → (f k).1.length = 256) (hc : ∀ k, k < n → ((c5K (J4 (fun r => (f r).1) n) k).length : Int) = (f k).2) : ∀ k, k ≤ n → ((X6 (J4 (fun r => (f r).1) n) k).length : Int) = c6e f k
 | 0, _ => rfl
 | k + 1, hk => by
  have ih := d2o hf hc k (by omega)
  have h1 := hc k (by omega)
  show ((X6 _ k ++ c5K _ k).length : Int) = c6e f k + (f k).2
  rw [List.length_append]
  push_cast
  omega
theorem d2n (c w e l : List Int) : ((X6 (J4 (fun r => (htD c w e l r).1) 6) 6).length : Int) = c6e (htD c w e l) 6 := by
 refine d2o (f := htD c w e l) (fun k _ => c1w c w e l k) (fun k hk => ?_) 6 (Nat.le_refl 6)
 have hd : (htD c w e l k).2 = c71 (a2U (a46 dzeros (c21 c l k)) (a1F (b3Z c w e k) (c21 c l k))) 256 := rfl
 rw [hd]
 unfold c5K
 refine d1R 256 fun i hi => ?_
 have e1 := d5v (f := fun r => (htD c w e l r).1) (n := 6) (fun j _ => c1w c w e l j) hk hi
 have e2 : (htD c w e l k).1.getD i 0 = a2U (a46 dzeros (c21 c l k)) (a1F (b3Z c w e k) (c21 c l k)) i := d6 hi
 unfold mkP
 rw [e1]
 show (if (htD c w e l k).1.getD i 0 ≠ 0 then [(i : Int)] else []).length = _
 rw [e2]
 split <;> rfl
end Go.Ax.TryP
set_option linter.unusedVariables false
namespace Go.Ax.TryP
open Go.Proofs
theorem c31 {f : Nat → List Int} {z : List Int} {n i : Nat} (hf : ∀ j, j < n → (f j).length = 256) (hi : i < n) : List.take 256 (List.drop (i * 256) (a1u f z (i + 1))) = f i := by
 unfold a1u
 exact c8v (X0 fun j hj => hf j (by omega)) (hf i hi)
theorem e0O (rho2 : List Int) (k i : Nat) : E7 256 (yD rho2 k i) := d7l _
theorem e04 {L1 L2 k : Nat} (hk : k ≤ 10000) {rho2 : List Int} (hr : rho2.length = 64 ∧ bytes rho2) {A B C S E L M mu Z Z2 : List Int} (hZ : Z.length = 5 * 256) {β : Type} (K : _ → Option β) :
  m9 (z4 10) 10 (L1, L2, (k : Int), false, (0 : Int), A, B, C, S, E, L, M, L1, mu, L2, rho2, Z, Z2, ()) K = K (.inr (L1, false, A, B, C, S, E, L, M, L1, mu, J4 (yD rho2 k) 5, Z2, ())) := by
 refine i9 (F := z4 10) (s := fun i => (L1, L2, (k : Int), false, (i : Int), A, B, C, S, E, L, M, L1, mu, L2, rho2, a1u (yD rho2 k) Z i, Z2, ())) (y := .inr (L1, false, A, B, C, S, E, L, M, L1, mu, J4 (yD rho2 k) 5, Z2, ())) 5 (by rw [E1]; rfl) ?_ ?_ 10 (by omega)
 ·intro i hi kn
  have hj : (rho2 ++ c7G ((k * 5 + i : Nat) : Int)).length = 66 := by rw [List.length_append, hr.1]; rfl
  unfold z4
  dsimp only
  rw [if_pos (by omega), c7 (x := (k : Int) * 5) (by omega) (by omega), c7 (x := (k : Int) * 5 + (i : Int)) (by omega) (by omega), show (k : Int) * 5 + (i : Int) = ((k * 5 + i : Nat) : Int) by omega, c54 (by omega), Option.bind_some,
   c9t ⟨by omega, hr.2⟩ ⟨by rw [c5w]; omega, d0y _⟩, Option.bind_some, d4t ⟨mB (by omega), K3 hr.2 (d0y _)⟩, Option.bind_some, if_neg (by rw [d7k hj]; simp), if_pos (by omega), if_pos (by omega), if_pos (by omega), Int.toNat_natCast, c7 (by omega) (by omega)]
  exact congrArg kn (by rw [← Q1 (f := yD rho2 k) hZ (fun j _ => (e0O rho2 k j).1) hi]; rfl)
 ·intro kn
  unfold z4
  dsimp only
  rw [if_neg (by omega), Q0 hZ]
  rfl
theorem d2E (a : List Int) : E7 256 (b1M a).1 := rows.range fun i _ => by have := d2F (a.getD i 0); omega
theorem e03 {L1 : Nat} {A B C S E L mu Y Z2 w H : List Int} (hw : E7 (6 * 256) w) (hH : H.length = 6 * 256) {β : Type} (K : _ → Option β) :
  m9 (v4 10) 10 (L1, false, (0 : Int), A, B, C, S, E, L, L1, mu, Y, Z2, w, H, ()) K = K (L1, false, A, B, C, S, E, L, L1, mu, Y, Z2, w, hiD w, ()) := by
 refine i9 (F := v4 10) (s := fun i => (L1, false, (i : Int), A, B, C, S, E, L, L1, mu, Y, Z2, w, a1u (fun r => (b1M (chD w r)).1) H i, ())) (y := (L1, false, A, B, C, S, E, L, L1, mu, Y, Z2, w, hiD w, ())) 6 (by rw [E1]; rfl) ?_ ?_ 10 (by omega)
 ·intro i hi kn
  unfold v4
  dsimp only
  rw [if_pos (by omega), if_pos (by omega), if_pos (by omega), Int.toNat_natCast, if_pos (by omega), show List.take 256 (List.drop (i * 256) w) = chD w i from rfl, c5W (a6s hw hi), Option.bind_some, if_pos (by omega), if_pos (by omega), if_pos (by omega), c7 (by omega) (by omega)]
  exact congrArg kn (by rw [← Q1 (f := fun r => (b1M (chD w r)).1) hH (fun j _ => (d2E _).1) hi]; rfl)
 ·intro kn
  unfold v4
  dsimp only
  rw [if_neg (by omega), Q0 hH]
  rfl
theorem d9L (c s y : List Int) (i : Nat) : E7 256 (zD c s y i) := b1L _ _
theorem d4c {ct : List Int} (h : ct.length = 48) (c s y : List Int) (n : Nat) : (zT ct c s y n).length = 48 + n * 640 := by
 unfold zT
 rw [List.length_append, h, X0 (w := 640) fun i _ => a2O 20 _]
theorem c8d (a b : List Int) : E7 256 (a3S a b) := c1k _
theorem e0M {ct c : List Int} (hct : ct.length = 48) (hc : E7 256 c) {A B C S E L Y Z w : List Int} (hS : E7 (5 * 256) S) (hY : E7 (5 * 256) Y) (hZ : Z.length = 5 * 256) {β : Type} (K : _ → Option β) :
  ((∀ i, i < 5 → a0i (zD c S Y i) < 524092) → m9 (k0 10) 10 (false, 48, (0 : Int), A, B, C, S, E, L, Y, Z, w, c, 48, ct, ()) K = K (.inr (.inr (false, 48 + 5 * 640, A, B, C, S, E, L, w, c, 48 + 5 * 640, zT ct c S Y 5, ())))) ∧
  (¬ (∀ i, i < 5 → a0i (zD c S Y i) < 524092) → m9 (k0 10) 10 (false, 48, (0 : Int), A, B, C, S, E, L, Y, Z, w, c, 48, ct, ()) K = K (.inl (false, ()))) := by
 have h := c1B (F := k0 10) (K := K) (fun i => (false, 48 + i * 640, (i : Int), A, B, C, S, E, L, Y, a1u (zD c S Y) Z i, w, c, 48 + i * 640, zT ct c S Y i, ())) (fun i => a0i (zD c S Y i) < 524092) (.inl (false, ())) (.inr (.inr (false, 48 + 5 * 640, A, B, C, S, E, L, w, c, 48 + 5 * 640, zT ct c S Y 5, ()))) 5
  (fun i hi kn => by
   have e1 : U7 (c, List.take 256 (List.drop (i * 256) S), ()) = some (a3S c (chD S i)) := c7R hc (a6s hS hi)
   have e2 : Q4 (List.take 256 (List.drop (i * 256) Y), a3S c (chD S i), ()) = some (zD c S Y i) := c5U (a6s hY hi) (c8d _ _)
   have e3 := c0P (d9L c S Y i)
   have hs := Q1 (f := zD c S Y) hZ (fun j _ => (d9L c S Y j).1) hi
   have hg := c31 (f := zD c S Y) (z := Z) (n := 5) (fun j _ => (d9L c S Y j).1) hi
   constructor
   ·intro hlt
    have e4 : o0 ((524288 : Int), (20 : Int), zD c S Y i, ()) = some (pkW 20 (a3a 524288 (zD c S Y i)), 0) := a9D (d := 20) (by omega) (by omega) (d9L c S Y i) (c1y (m := 524091) (by omega) (by omega) (by omega) (by decide))
    unfold k0
    dsimp only
    rw [if_pos (by omega), if_pos (by omega), if_pos (by omega), Int.toNat_natCast, if_pos (by omega), if_pos (by omega), if_pos (by omega), if_pos (by omega), e1, Option.bind_some, e2, Option.bind_some, hs, hg,
     if_pos (by omega), if_pos (by omega), if_pos (by omega), if_pos (by omega), if_pos (by omega), if_pos (by omega), e3, Option.bind_some, if_neg (by omega), if_pos (by omega), if_pos (by omega), if_pos (by omega), e4, Option.bind_some, if_neg (by simp), a2O, if_pos (by omega), c7 (by omega) (by omega)]
    rw [show 48 + i * 640 + 32 * 20 = 48 + (i + 1) * 640 by omega, show zT ct c S Y i ++ pkW 20 (a3a 524288 (zD c S Y i)) = zT ct c S Y (i + 1) by unfold zT; rw [List.append_assoc]; rfl, show (i : Int) + 1 = ((i + 1 : Nat) : Int) by omega, show decide (false = true) = false from rfl]
   ·intro hlt
    unfold k0
    dsimp only
    rw [if_pos (by omega), if_pos (by omega), if_pos (by omega), Int.toNat_natCast, if_pos (by omega), if_pos (by omega), if_pos (by omega), if_pos (by omega), e1, Option.bind_some, e2, Option.bind_some, hs, hg,
     if_pos (by omega), if_pos (by omega), if_pos (by omega), if_pos (by omega), if_pos (by omega), if_pos (by omega), e3, Option.bind_some, if_pos (by omega)])
  (fun kn => by
   unfold k0
   dsimp only
   rw [if_neg (by omega)]
   rfl) 5 0 10 (by omega) (by omega)
 rw [E1, Nat.zero_mul, Nat.add_zero, show zT ct c S Y 0 = ct by simp [zT, J4]] at h
 exact ⟨fun hh => h.1 fun r _ hr6 => hh r hr6, fun hh => h.2 fun hh' => hh fun r hr6 => hh' r (Nat.zero_le _) hr6⟩
theorem d56 {c w e l : List Int} : ∀ n, 0 ≤ c6e (htD c w e l) n ∧ c6e (htD c w e l) n ≤ 256 * n
 | 0 => by simp [c6e]
 | n + 1 => by
  have ih := d56 (c := c) (w := w) (e := e) (l := l) n
  have h : (htD c w e l n).2 = c71 (a2U (a46 dzeros (c21 c l n)) (a1F (b3Z c w e n) (c21 c l n))) 256 := rfl
  have := d57 (a2U (a46 dzeros (c21 c l n)) (a1F (b3Z c w e n) (c21 c l n))) 256
  rw [← h] at this
  rw [c6e]
  omega
theorem d4R : E7 256 dzeros := rows.zero (by omega) 256
theorem d67 (a : List Int) : E7 256 (b1M a).2 := rows.range fun i _ => by have := d8G (a.getD i 0); omega
theorem e0L {n1 : Nat} {sig c : List Int} (hc : E7 256 c) {A B C S E L w H : List Int} (hE : E7 (6 * 256) E) (hL : E7 (6 * 256) L) (hw : E7 (6 * 256) w) (hH : H.length = 6 * 256) {β : Type} (K : _ → Option β) :
  ((∀ i, i < 6 → c8z c w E L i) → m9 (k9 10) 10 (false, n1, (0 : Int), (0 : Int), A, B, C, S, E, L, w, c, n1, sig, H, ()) K = K (.inr (false, n1, c6e (htD c w E L) 6, n1, sig, J4 (fun r => (htD c w E L r).1) 6, ()))) ∧
  (¬ (∀ i, i < 6 → c8z c w E L i) → m9 (k9 10) 10 (false, n1, (0 : Int), (0 : Int), A, B, C, S, E, L, w, c, n1, sig, H, ()) K = K (.inl (false, ()))) := by
 have h := c1B (F := k9 10) (K := K) (fun i => (false, n1, c6e (htD c w E L) i, (i : Int), A, B, C, S, E, L, w, c, n1, sig, a1u (fun r => (htD c w E L r).1) H i, ())) (fun i => c8z c w E L i) (.inl (false, ())) (.inr (false, n1, c6e (htD c w E L) 6, n1, sig, J4 (fun r => (htD c w E L r).1) 6, ())) 6
  (fun i hi kn => by
   have e1 : U7 (c, List.take 256 (List.drop (i * 256) E), ()) = some (a3S c (chD E i)) := c7R hc (a6s hE hi)
   have e2 : a0F (List.take 256 (List.drop (i * 256) w), a3S c (chD E i), ()) = some (b3Z c w E i) := d1Z (a6s hw hi) (c8d _ _)
   have e3 : U7 (c, List.take 256 (List.drop (i * 256) L), ()) = some (c21 c L i) := c7R hc (a6s hL hi)
   have hr : E7 256 (b3Z c w E i) := c1m _ _
   have hl : E7 256 (c21 c L i) := c8d _ _
   have e4 := c5W hr
   have e5 := c0P (d67 (b3Z c w E i))
   have e6 := c0P hl
   have e7 : a0F (List.replicate 256 0, c21 c L i, ()) = some (a46 dzeros (c21 c L i)) := d1Z d4R hl
   have e8 := c5U hr hl
   have e9 : X9 (a46 dzeros (c21 c L i), a1F (b3Z c w E i) (c21 c L i), ()) = some (htD c w E L i) := d6E (c1m _ _) (b1L _ _)
   have hs := Q1 (f := fun r => (htD c w E L r).1) hH (fun j _ => c1w c w E L j) hi
   have hcb := d56 (c := c) (w := w) (e := E) (l := L) (i + 1)
   have hcs : c6e (htD c w E L) (i + 1) = c6e (htD c w E L) i + (htD c w E L i).2 := rfl
   constructor
   ·intro hlt
    have h1 := hlt.1
    have h2 := hlt.2
    unfold k9
    dsimp only
    rw [if_pos (by omega), if_pos (by omega), if_pos (by omega), Int.toNat_natCast, if_pos (by omega), if_pos (by omega), if_pos (by omega), if_pos (by omega), e1, Option.bind_some, e2, Option.bind_some, if_pos (by omega), if_pos (by omega), if_pos (by omega), e3, Option.bind_some, e4, Option.bind_some, e5, Option.bind_some, if_neg (by omega), e6, Option.bind_some, if_neg (by omega),
     e7, Option.bind_some, e8, Option.bind_some, e9, Option.bind_some, if_pos (by omega), if_pos (by omega), if_pos (by omega), hs, c7 (x := c6e (htD c w E L) i + (htD c w E L i).2) (by omega) (by omega), c7 (by omega) (by omega)]
    rfl
   ·intro hlt
    unfold k9
    dsimp only
    rw [if_pos (by omega), if_pos (by omega), if_pos (by omega), Int.toNat_natCast, if_pos (by omega), if_pos (by omega), if_pos (by omega), if_pos (by omega), e1, Option.bind_some, e2, Option.bind_some, if_pos (by omega), if_pos (by omega), if_pos (by omega), e3, Option.bind_some, e4, Option.bind_some, e5, Option.bind_some]
    by_cases h1 : a0i (b1M (b3Z c w E i)).2 < 261692
    ·have h2 : ¬ a0i (c21 c L i) < 261888 := fun h2 => hlt ⟨h1, h2⟩
     rw [if_neg (by omega), e6, Option.bind_some, if_pos (by omega)]
    ·rw [if_pos (by omega)])
  (fun kn => by
   unfold k9
   dsimp only
   rw [if_neg (by omega), Q0 hH]
   rfl) 6 0 10 (by omega) (by omega)
 rw [E1] at h
 exact ⟨fun hh => h.1 fun r _ hr6 => hh r hr6, fun hh => h.2 fun hh' => hh fun r hr6 => hh' r (Nat.zero_le _) hr6⟩
end Go.Ax.TryP
set_option linter.unusedVariables false
namespace Go.Ax.TryP
open Go.Proofs
theorem e0c (w : List Int) : E7 (6 * 256) (hiD w) := a4x (f := fun r => (b1M (chD w r)).1) (fun r => d2E _) 6
theorem d68 {a : List Int} {i : Nat} (hi : i < 256) : (b1M a).1.getD i 0 = fDh (a.getD i 0) := by
 unfold b1M
 dsimp only
 exact d6 hi
theorem d8T (w : List Int) {r : Nat} (hr : r < 6) : inW 4 (o8 (chD (hiD w) r)) := by
 intro i hi
 have e : chD (hiD w) r = (b1M (chD w r)).1 := a0A (f := fun r => (b1M (chD w r)).1) (fun j _ => (d2E _).1) hr
 rw [e, a8N hi, d68 hi]
 have := d2F ((chD w r).getD i 0)
 have h4 : (2 : Int) ^ 4 = 16 := by decide
 omega
theorem c0B (c w e l : List Int) : (hrow c w e l).length = 6 * 256 := X0 fun i _ => c1w c w e l i
theorem d3E {p : Int → Prop} {f : Nat → List Int} (h : ∀ i, ∀ z ∈ f i, p z) : ∀ n, ∀ z ∈ J4 f n, p z
 | 0, z, hz => by simp [J4] at hz
 | n + 1, z, hz => by
  rcases List.mem_append.1 hz with hz | hz
  ·exact d3E h n z hz
  ·exact h n z hz
theorem d2R (c w e l : List Int) : ∀ z ∈ hrow c w e l, z = 0 ∨ z = 1 := d3E (f := fun r => (htD c w e l r).1) (fun i => (d7d _ _).2) 6
theorem d4u (c w e l : List Int) : a1j (hrow c w e l, 55, ()) = some (b8H (hrow c w e l) 55) :=
 d9 (ks := H7) (rs := H8) (x := (hrow c w e l, 55, ())) ⟨⟨⟨6, c0B c w e l, mB (by omega)⟩, d2R c w e l⟩, u4.2 (show -9223372036854775808 ≤ (55 : Int) ∧ (55 : Int) ≤ 9223372036854775807 by omega), trivial⟩ trivial
theorem c48 {c w e l : List Int} (h : c6e (htD c w e l) 6 ≤ 55) : (b8H (hrow c w e l) 55).2 = 0 ∧ (b8H (hrow c w e l) 55).1.length = 61 := by
 have ha := d2n c w e l
 have hl := c0B c w e l
 have h6 : (hrow c w e l).length / 256 = 6 := by rw [hl]
 have hle : ((X6 (hrow c w e l) 6).length : Int) ≤ 55 := by show ((X6 (J4 (fun r => (htD c w e l r).1) 6) 6).length : Int) ≤ 55; omega
 unfold b8H
 rw [h6, if_neg (by omega), if_neg (by omega)]
 refine ⟨rfl, ?_⟩
 dsimp only
 rw [List.length_append, List.length_append, List.length_replicate, List.length_map, List.length_range]
 omega
theorem d32 {x : Sec} {m mu rho2 : List Int} {k : Nat} : d5G x m mu rho2 k = d9X x (ctD m mu rho2 k) (a4b 49 (ctD m mu rho2 k)) (J4 (yD rho2 k) 5) (wD m rho2 k) := rfl
theorem c0j : ∀ x r, Y0 x = some r → ∃ N, Z1 N x = some (xr r) := by
 refine b5F (ks := M1) (rs := M2) fun x hw hq => ⟨10, ?_⟩
 obtain ⟨⟨(rho : List Int), (kk : List Int), (tr : List Int), (S : List Int), (E : List Int), (L : List Int), u0⟩, (m : List Int), (mu : List Int), (rho2 : List Int), (k : Int), u⟩ := x
 have hS : E7 (5 * 256) S := w3.1 hw.1.2.2.2.1
 have hE : E7 (6 * 256) E := w3.1 hw.1.2.2.2.2.1
 have hL : E7 (6 * 256) L := w3.1 hw.1.2.2.2.2.2.1
 have hm : E7 (30 * 256) m := w3.1 hw.2.1
 have hmu : mu.length ≤ maxLen ∧ bytes mu := N0.1 hw.2.2.1
 have hr2 : rho2.length ≤ maxLen ∧ bytes rho2 := N0.1 hw.2.2.2.1
 have hml : mu.length ≤ 1000 := hq.1
 have hrl : rho2.length = 64 := hq.2.1
 have hk : 0 ≤ k ∧ k ≤ 10000 := hq.2.2
 obtain ⟨k, rfl⟩ : ∃ n : Nat, k = n := ⟨k.toNat, by omega⟩
 show Z1 10 ((rho, kk, tr, S, E, L, u0), m, mu, rho2, (k : Int), u) = some (xr (d5G (rho, kk, tr, S, E, L, u0) m mu rho2 ((k : Int)).toNat))
 rw [Int.toNat_natCast, d32]
 have hZ5 : (List.replicate 1280 (0 : Int)).length = 5 * 256 := by rw [List.length_replicate]
 have hZ6 : (List.replicate 1536 (0 : Int)).length = 6 * 256 := by rw [List.length_replicate]
 unfold Z1
 dsimp only
 generalize List.replicate 1280 (0 : Int) = Z5 at hZ5 ⊢
 generalize List.replicate 1536 (0 : Int) = Z6 at hZ6 ⊢
 have hy : E7 (5 * 256) (J4 (yD rho2 k) 5) := a4x (e0O rho2 k) 5
 have hwi : E7 (6 * 256) (wD m rho2 k) := d0x _ _
 refine (e04 (k := k) (by omega) ⟨hrl, hr2.2⟩ hZ5 _).trans ?_
 dsimp only
 rw [c51 hm hy, Option.bind_some, show R3 m (J4 (yD rho2 k) 5) = wD m rho2 k from rfl]
 refine (e03 hwi hZ6 _).trans ?_
 dsimp only
 rw [d11 ⟨hml, hmu.2⟩ (e0c _) (fun r hr => d8T _ hr), Option.bind_some, show b9y mu (hiD (wD m rho2 k)) = ctD m mu rho2 k from rfl]
 have hct : (ctD m mu rho2 k).length = 48 ∧ bytes (ctD m mu rho2 k) := ⟨c0Z _ _, c70 _ _⟩
 generalize wD m rho2 k = w at hwi ⊢
 generalize ctD m mu rho2 k = ct at hct ⊢
 generalize J4 (yD rho2 k) 5 = y at hy ⊢
 rw [c9o ⟨by omega, hct.2⟩, Option.bind_some]
 have hci := d17 ct
 generalize a4b 49 ct = b at hci ⊢
 obtain ⟨c, e⟩ := b
 have hci : E7 256 c := hci
 unfold d9X
 dsimp only
 by_cases hb : e = 0
 ·rw [if_neg (by rw [hb]; simp), c9s ⟨by omega, hct.2⟩, Option.bind_some, hct.1, decide_eq_false (by rw [hb]; simp)]
  by_cases c1 : ∀ i, i < 5 → a0i (zD c S y i) < 524092
  ·refine ((e0M hct.1 hci hS hy hZ5 _).1 c1).trans ?_
   dsimp only
   rw [if_pos (by decide), if_pos rfl, if_pos (by decide)]
   by_cases c2 : ∀ i, i < 6 → c8z c w E L i
   ·refine ((e0L hci hE hL hwi hZ6 _).1 c2).trans ?_
    dsimp only
    by_cases c3 : c6e (htD c w E L) 6 ≤ 55
    ·obtain ⟨h1, h2⟩ := c48 c3
     rw [if_neg (by omega), show J4 (fun r => (htD c w E L r).1) 6 = hrow c w E L from rfl, d4u, Option.bind_some, if_neg (by rw [h1]; simp), h2, if_pos (by omega), a5u (p := b7U c S E L y w) ⟨c1, c2, c3⟩]
     rfl
    ·rw [if_pos (by omega), a1D (p := b7U c S E L y w) (fun h => c3 h.2.2)]
     rfl
   ·refine ((e0L hci hE hL hwi hZ6 _).2 c2).trans ?_
    rw [a1D (p := b7U c S E L y w) (fun h => c2 h.2.1)]
    rfl
  ·refine ((e0M hct.1 hci hS hy hZ5 _).2 c1).trans ?_
   rw [a1D (p := b7U c S E L y w) (fun h => c1 h.1)]
   rfl
 ·rw [if_pos hb, decide_eq_true hb]
  rfl
theorem d8r {x : Sec} {m mu rho2 : List Int} {k : Nat} (hx : c5G [.fs (.int .u8), .fs (.int .u8), .fs (.int .u8), .xs (.int .i32) 1280, .xs (.int .i32) 1536, .xs (.int .i32) 1536] x) (hm : E7 (30 * 256) m) (hmu : mu.length ≤ 1000 ∧ bytes mu) (hr : rho2.length = 64 ∧ bytes rho2) (hk : k ≤ 10000) :
  Y0 (x, m, mu, rho2, (k : Int), ()) = some (d5G x m mu rho2 k) :=
 b5E (ks := M1) (rs := M2) (x := (x, m, mu, rho2, (k : Int), ())) (Q := fun x => x.2.2.1.length ≤ 1000 ∧ x.2.2.2.1.length = 64 ∧ 0 ≤ x.2.2.2.2.1 ∧ x.2.2.2.2.1 ≤ 10000) (f := fun x => d5G x.1 x.2.1 x.2.2.1 x.2.2.2.1 x.2.2.2.2.1.toNat)
  ⟨hx, w3.2 hm, N0.2 ⟨mB (Nat.le_trans hmu.1 (by decide)), hmu.2⟩, N0.2 ⟨mB (by rw [hr.1]; decide), hr.2⟩, d1K ⟨by show 0 ≤ (k : Int); omega, by show (k : Int) ≤ 1000000; omega⟩, trivial⟩ ⟨hmu.1, hr.1, by show 0 ≤ (k : Int); omega, by show (k : Int) ≤ 10000; omega⟩
end Go.Ax.TryP
set_option linter.unusedVariables false
namespace Go.Ax.TryP
open Go.Proofs
theorem c4h {n : Nat} {a : List Int} : Kd.wf (.xs (.int .u8) n) a ↔ a.length = n ∧ bytes a := by simp [Kd.wf, bytes, a0n]
abbrev SgO : Type := (Int × List Int × Unit) ⊕ ((Nat × List Int × Nat × List Int × Unit) ⊕ (List Int × Unit))
def d9m (t : Nat → Bool × Int × (List Int × Bool)) (k : Nat) : Nat → SgO
 | 0 => .inr (.inr ([0], ()))
 | n + 1 => if (t k).1 = true then .inl ((t k).2.1, [0], ()) else if ¬ (t k).2.2.2 = true then d9m t (k + 1) n else .inr (.inl ((t k).2.2.1.length, List.set [0] 0 0, (t k).2.2.1.length, (t k).2.2.1, ()))
def sgK : SgO → Option (List Int × Int)
 | .inl y6 => some ([], List.getD (List.set y6.2.1 0 y6.1) 0 0)
 | .inr (.inl y7) => some (y7.2.2.2.1, List.getD y7.2.1 0 0)
 | .inr (.inr y8) => some ([], List.getD (List.set y8.1 0 (162 : Int)) 0 0)
theorem d0o (t : Nat → Bool × Int × (List Int × Bool)) : ∀ n k, sgK (d9m t k n) = some (d5w t k n)
 | 0, k => rfl
 | n + 1, k => by
  unfold d9m d5w
  by_cases h : (t k).1 = true
  ·rw [if_pos h, if_pos h]; rfl
  ·rw [if_neg h, if_neg h]
   by_cases h2 : (t k).2.2.2 = true
   ·rw [if_neg (fun hh => hh h2), if_pos h2]; rfl
   ·rw [if_pos h2, if_neg h2]; exact d0o t n (k + 1)
theorem d6p {x : Sec} {m mu rho2 : List Int} (hx : c5G [.fs (.int .u8), .fs (.int .u8), .fs (.int .u8), .xs (.int .i32) 1280, .xs (.int .i32) 1536, .xs (.int .i32) 1536] x) (hm : E7 (30 * 256) m) (hmu : mu.length ≤ 1000 ∧ bytes mu) (hr : rho2.length = 64 ∧ bytes rho2) {N L1 L2 : Nat} {β : Type} (K : SgO → Option β) :
  ∀ n k j : Nat, k + n ≤ 10000 → n < j → m9 (Z0 N) j (((k + n : Nat) : Int), L1, L2, (k : Int), [0], x.1, x.2.1, x.2.2.1, x.2.2.2.1, x.2.2.2.2.1, x.2.2.2.2.2.1, L1, mu, L2, rho2, m, ()) K = K (d9m (d5G x m mu rho2) k n)
 | 0, k, j + 1, h1, h2 => by
  rw [c4O]
  unfold Z0
  dsimp only
  rw [if_neg (by omega)]
  rfl
 | n + 1, k, j + 1, h1, h2 => by
  rw [c4O]
  unfold Z0
  dsimp only
  rw [if_pos (by omega)]
  have e := d8r (x := x) hx hm hmu hr (k := k) (by omega)
  have e : Y0 ((x.1, x.2.1, x.2.2.1, x.2.2.2.1, x.2.2.2.2.1, x.2.2.2.2.2.1, ()), m, mu, rho2, (k : Int), ()) = some (d5G x m mu rho2 k) := e
  rw [e, Option.bind_some]
  unfold d9m
  generalize hT : d5G x m mu rho2 = T
  by_cases h : (T k).1 = true
  ·rw [if_pos h, if_pos h]
  ·rw [if_neg h, if_neg h]
   by_cases h3 : (T k).2.2.2 = true
   ·rw [if_neg (fun hh => hh h3), if_neg (fun hh => hh h3)]
   ·rw [if_pos h3, if_pos h3, c7 (by omega) (by omega), ← hT]
    have ih := d6p hx hm hmu hr (N := N) (L1 := L1) (L2 := L2) K n (k + 1) j (by omega) (by omega)
    rw [show k + 1 + n = k + (n + 1) by omega] at ih
    exact ih
theorem d7O {sk : List Int} (hl : sk.length = 4032) (hb : bytes sk) : c5G [.fs (.int .u8), .fs (.int .u8), .fs (.int .u8), .xs (.int .i32) 1280, .xs (.int .i32) 1536, .xs (.int .i32) 1536] (d1N sk) := by
 have hS := a4x (f := skP sk) (fun i => c4g (by omega) (by omega) _) 5
 have hE := a4x (f := fun i => skP sk (5 + i)) (fun i => c4g (by omega) (by omega) _) 6
 have hL := a4x (f := skL sk) (fun i => c4g (by omega) (by omega) _) 6
 have hc : ∀ a n, a + n ≤ 4032 → (J5 sk a n).length ≤ maxLen ∧ bytes (J5 sk a n) := fun a n h => ⟨mB (by rw [R4 (by omega)]; omega), D5 hb _ _⟩
 exact ⟨N0.2 (hc 0 32 (by omega)), N0.2 (hc 32 32 (by omega)), N0.2 (hc 64 64 (by omega)), w3.2 hS, w3.2 hE, w3.2 hL, trivial⟩
theorem d1k : ∀ x r, b2Y x = some r → ∃ N, a9a N x = some r := by
 refine i0 (ks := a3C) (rs := a3D) fun x hw hq => ⟨20000, ?_⟩
 obtain ⟨(sk : List Int), (msg : List Int), (ctx : List Int), (rnd : List Int), (most : Int), u⟩ := x
 have hsk : sk.length ≤ maxLen ∧ bytes sk := N0.1 hw.1
 have hmsg : msg.length ≤ maxLen ∧ bytes msg := N0.1 hw.2.1
 have hctx : ctx.length ≤ maxLen ∧ bytes ctx := N0.1 hw.2.2.1
 have hrnd : rnd.length = 32 ∧ bytes rnd := c4h.1 hw.2.2.2.1
 have hmost : most ≤ 10000 := hq
 show a9a 20000 (sk, msg, ctx, rnd, most, u) = some (c3D sk msg ctx rnd most)
 generalize hN : 20000 = N
 unfold a9a c3D
 dsimp only
 rw [d6L hsk, Option.bind_some]
 by_cases hok : d3o sk
 ·have hl := hok.1
  rw [d9A (fun h => h hok), if_neg (by simp), a1D (fun h => h hok)]
  by_cases h1 : 255 < ctx.length
  ·rw [if_pos (by omega), if_pos h1]; rfl
  ·rw [if_neg (by omega), if_neg h1]
   by_cases h2 : most < 1
   ·rw [if_pos h2, if_pos h2]; rfl
   ·rw [if_neg h2, if_neg h2]
    have htr : (J5 sk 64 64).length ≤ maxLen ∧ bytes (J5 sk 64 64) := ⟨mB (by rw [R4 (by omega)]; omega), D5 hsk.2 _ _⟩
    have hk : (J5 sk 32 32).length = 32 ∧ bytes (J5 sk 32 32) := ⟨R4 (by omega), D5 hsk.2 _ _⟩
    have hrho : (J5 sk 0 32).length = 32 ∧ bytes (J5 sk 0 32) := ⟨R4 (by omega), D5 hsk.2 _ _⟩
    have hmu : (muS sk msg ctx).length = 64 ∧ bytes (muS sk msg ctx) := ⟨a0g _ _, a7U _ _⟩
    have e1 : a2F ((d1N sk).2.2.1, msg, ctx, ()) = some (muS sk msg ctx) := c9u htr hmsg hctx
    have e2 : O1 ((d1N sk).1, ()) = some (b1y (J5 sk 0 32), 130, (a67 (J5 sk 0 32), ())) := c0T hrho
    have e3 : J6 ((64 : Int), [(d1N sk).2.1, List.take 32 (List.drop 0 rnd), muS sk msg ctx], ()) = some (d4j sk rnd (muS sk msg ctx)) := by
     have e := b7A (n := 64) (l := [J5 sk 32 32, rnd, muS sk msg ctx]) (by omega) ⟨mB (by simp), fun zs hzs => by
      rcases List.mem_cons.1 hzs with rfl | hzs
      ·exact ⟨mB (by omega), hk.2⟩
      rcases List.mem_cons.1 hzs with rfl | hzs
      ·exact ⟨mB (by omega), hrnd.2⟩
      ·rw [List.mem_singleton.1 hzs]; exact ⟨mB (by omega), hmu.2⟩⟩
     rw [List.drop_zero, List.take_of_length_le (by omega)]
     refine e.trans ?_
     unfold d4j
     simp
    have hr2 : (d4j sk rnd (muS sk msg ctx)).length = 64 ∧ bytes (d4j sk rnd (muS sk msg ctx)) := ⟨a0g _ _, a7U _ _⟩
    rw [e1, Option.bind_some, e3, Option.bind_some, e2, Option.bind_some]
    by_cases hM : a30 (J5 sk 0 32)
    ·rw [b5L hM, if_neg (by simp), a1D (fun h => h hM)]
     have hx := d7O hl hsk.2
     unfold d9C
     have hmi := d28 (J5 sk 0 32)
     generalize a67 (J5 sk 0 32) = m at hmi ⊢
     generalize d1N sk = X at hx ⊢
     generalize d4j sk rnd (muS sk msg ctx) = rho2 at hr2 ⊢
     generalize muS sk msg ctx = mu at hmu ⊢
     obtain ⟨k, rfl⟩ : ∃ n : Nat, most = n := ⟨most.toNat, by omega⟩
     have h := d6p (N := N) (L1 := mu.length) (L2 := rho2.length) hx hmi ⟨by omega, hmu.2⟩ hr2 sgK k 0 N (by omega) (by omega)
     rw [d0o, Nat.zero_add] at h
     rw [Int.toNat_natCast]
     refine Eq.trans ?_ h
     refine congrArg _ (funext fun y => ?_)
     rcases y with y | y | y <;> rfl
    ·rw [b2T hM, if_pos rfl, a5u hM]; rfl
 ·rw [d0w hok, if_pos rfl, a5u hok]; rfl
theorem d6G {sk msg ctx rnd : List Int} {most : Int} (h1 : sk.length ≤ maxLen ∧ bytes sk) (h2 : msg.length ≤ maxLen ∧ bytes msg) (h3 : ctx.length ≤ maxLen ∧ bytes ctx) (h4 : rnd.length = 32 ∧ bytes rnd) (h5 : 0 ≤ most ∧ most ≤ 10000) : b2Y (sk, msg, ctx, rnd, most, ()) = some (c3D sk msg ctx rnd most) :=
 d9 (ks := a3C) (rs := a3D) (x := (sk, msg, ctx, rnd, most, ())) ⟨N0.2 h1, N0.2 h2, N0.2 h3, c4h.2 h4, u4.2 (show -9223372036854775808 ≤ most ∧ most ≤ 9223372036854775807 by omega), trivial⟩ h5.2
end Go.Ax.TryP
set_option linter.unusedVariables false
namespace Go.Ax.TryP
open Go.Proofs
theorem d9Y (sig : List Int) (i : Nat) : E7 256 (zV sig i) := c4g (by omega) (by omega) _
theorem e0N {sig : List Int} (hl : sig.length = 3309) (hb : bytes sig) {L1 L2 : Nat} {mu Z pk : List Int} (hZ : Z.length = 5 * 256) {β : Type} (K : _ → Option β) :
  (d7y sig → m9 (v0 300) 300 (L1, 3309, (0 : Int), [0], L2, 48, 3261, 3261, L1, mu, 3309, sig, Z, L2, pk, ()) K = K (.inr (.inr (L1, 3309, [0], L2, 3248, 61, 61, L1, mu, 3309, sig, J4 (zV sig) 5, L2, pk, ())))) ∧
  (¬ d7y sig → m9 (v0 300) 300 (L1, 3309, (0 : Int), [0], L2, 48, 3261, 3261, L1, mu, 3309, sig, Z, L2, pk, ()) K = K (.inr (.inl (List.set [0] 0 (70 : Int), ())))) := by
 have h := c1B (F := v0 300) (K := K) (fun i => (L1, 3309, (i : Int), [0], L2, 48 + 640 * i, 3261 - 640 * i, 3261 - 640 * i, L1, mu, 3309, sig, a1u (zV sig) Z i, L2, pk, ())) (fun i => a0i (zV sig i) < 524092) (.inr (.inl (List.set [0] 0 (70 : Int), ()))) (.inr (.inr (L1, 3309, [0], L2, 3248, 61, 61, L1, mu, 3309, sig, J4 (zV sig) 5, L2, pk, ()))) 5
  (fun i hi kn => by
   have e1 : j4 ((524288 : Int), (20 : Int), List.take 640 (List.drop (48 + 640 * i) sig), ()) = some (zV sig i, 0) :=
    a5U (n := 20) (t := 524288) (b := J5 sig (48 + 640 * i) 640) (by omega) ⟨by omega, by omega, by rw [R4 (by omega)]⟩ (D5 hb _ _)
   have e3 := c0P (d9Y sig i)
   have hs := Q1 (f := zV sig) hZ (fun j _ => (d9Y sig j).1) hi
   have hg := c31 (f := zV sig) (z := Z) (n := 5) (fun j _ => (d9Y sig j).1) hi
   constructor
   ·intro hlt
    unfold v0
    dsimp only
    rw [if_pos (by omega), if_pos (by omega), if_pos (by omega), if_pos (by omega), if_pos (by omega), a2C, Nat.add_zero, e1, Option.bind_some, if_neg (by simp), if_pos (by omega), if_pos (by omega), if_pos (by omega), if_pos (by omega), if_pos (by omega), if_pos (by omega), Int.toNat_natCast, hs, hg, e3, Option.bind_some, if_neg (by omega), a2C, c7 (by omega) (by omega), show 48 + 640 * i + 640 = 48 + 640 * (i + 1) by omega, show 3261 - 640 * i - 640 = 3261 - 640 * (i + 1) by omega, show (i : Int) + 1 = ((i + 1 : Nat) : Int) by omega]
   ·intro hlt
    unfold v0
    dsimp only
    rw [if_pos (by omega), if_pos (by omega), if_pos (by omega), if_pos (by omega), if_pos (by omega), a2C, Nat.add_zero, e1, Option.bind_some, if_neg (by simp), if_pos (by omega), if_pos (by omega), if_pos (by omega), if_pos (by omega), if_pos (by omega), if_pos (by omega), Int.toNat_natCast, hs, hg, e3, Option.bind_some, if_pos (by omega)])
  (fun kn => by
   unfold v0
   dsimp only
   rw [if_neg (by omega), Q0 hZ]) 5 0 300 (by omega) (by omega)
 rw [E1] at h
 exact ⟨fun hh => h.1 fun r _ hr6 => hh r hr6, fun hh => h.2 fun hh' => hh fun r hr6 => hh' r (Nat.zero_le _) hr6⟩
theorem e06 {A : List Int} (hA : A.length = 256) (hb : ∀ z ∈ A, 0 ≤ z ∧ z < 1024) {a1 a2 a3 : Nat} {i1 i2 : Int} {l1 : List Int} {a4 a5 a6 a7 : Nat} {l2 : List Int} {a8 : Nat} {l3 : List Int} {a9 : Nat} {l4 l5 l6 l7 : List Int} {a10 : Nat} {l8 : List Int} {β : Type} (K : _ → Option β) :
  m9 (G9 300) 300 (a1, a2, a3, i1, i2, (0 : Int), l1, a4, a5, a6, a7, l2, a8, l3, a9, l4, l5, l6, l7, A, a10, l8, ()) K = K (a1, a2, a3, i1, i2, l1, a4, a5, a6, a7, l2, a8, l3, a9, l4, l5, l6, l7, (List.range 256).map (fun i => A.getD i 0 * 8192), a10, l8, ()) := by
 refine i9 (F := G9 300) (s := fun i => (a1, a2, a3, i1, i2, (i : Int), l1, a4, a5, a6, a7, l2, a8, l3, a9, l4, l5, l6, l7, part (fun i => A.getD i 0 * 8192) i A, a10, l8, ())) (y := (a1, a2, a3, i1, i2, l1, a4, a5, a6, a7, l2, a8, l3, a9, l4, l5, l6, l7, (List.range 256).map (fun i => A.getD i 0 * 8192), a10, l8, ())) 256 (by rw [b67]; rfl) ?_ ?_ 300 (by omega)
 ·intro i hi kn
  have hv : 0 ≤ A.getD i 0 ∧ A.getD i 0 < 1024 := hb _ (a3m (by omega))
  obtain ⟨m, hm⟩ : ∃ m : Nat, A.getD i 0 = m := ⟨(A.getD i 0).toNat, by omega⟩
  have e : b0Z .i32 ((part (fun i => A.getD i 0 * 8192) i A).getD i 0) (13 : Int) = A.getD i 0 * 8192 := by
   rw [b66 (Nat.le_refl i), hm]
   refine (b5Z (m := m) (s := 13) (by decide) (by omega)).trans ?_
   omega
  unfold G9
  dsimp only
  rw [if_pos (by omega), if_pos (by omega), if_pos (by omega), if_pos (by omega), if_pos (by omega), if_pos (by omega), if_pos (by omega), Int.toNat_natCast, e, u5 (h := fun i => A.getD i 0 * 8192) (by omega) rfl, c7 (by omega) (by omega)]
  rfl
 ·intro kn
  unfold G9
  dsimp only
  rw [if_neg (by omega), C3 hA]
theorem d9E (b : List Int) : ∀ z ∈ c7H 10 b, 0 ≤ z ∧ z < 1024 := by
 intro z hz
 obtain ⟨i, _, rfl⟩ := List.mem_map.1 hz
 have h := c2P (n := 10) (c := fun k => b3g b (i * 10 + k)) fun s _ => c4q b _
 have e : (2 : Int) ^ 10 = 1024 := by decide
 omega
theorem e02 (pk : List Int) (r : Nat) : E7 256 (tV pk r) := by
 refine rows.range fun i hi => ?_
 have := d9E (J5 pk (32 + 320 * r) 320) _ (a3m (i := i) (by unfold c7H; rw [a1M]; exact hi))
 omega
theorem d8K (h r : List Int) : E7 256 (d6c h r) := rows.range fun i _ => by
 have := d2F (r.getD i 0)
 unfold b33
 split
 ·split <;> omega
 ·omega
theorem d7a (h r : List Int) : inW 4 (o8 (d6c h r)) := by
 intro i hi
 rw [a8N hi, show (d6c h r).getD i 0 = b33 (h.getD i 0) (r.getD i 0) from d6 hi]
 have := d2F (r.getD i 0)
 have h4 : (2 : Int) ^ 4 = 16 := by decide
 unfold b33
 split
 ·split <;> omega
 ·omega
theorem d74 (pk h c m z : List Int) (r : Nat) : E7 256 (upV pk h c m z r) := d8K _ _
theorem e05 {pk : List Int} (hl : pk.length = 1952) (hb : bytes pk) {H c m z High : List Int} (hc : E7 256 c) (hH : H.length = 6 * 256) (hH1 : ∀ x ∈ H, x = 0 ∨ x = 1) (hHi : High.length = 6 * 256) {L1 L3 : Nat} {mu sig : List Int} {β : Type} (K : _ → Option β) :
  m9 (G8 300) 300 (L1, L3, 6, (0 : Int), [0], 32, 1920, 1920, L1, mu, L3, sig, 6 * 256, H, j9 c, b0s m z, High, 1952, pk, ()) K = K (.inr (L1, L3, [0], L1, mu, L3, sig, J4 (upV pk H c m z) 6, ())) := by
 refine i9 (F := G8 300) (s := fun i => (L1, L3, 6, (i : Int), [0], 32 + 320 * i, 1920 - 320 * i, 1920 - 320 * i, L1, mu, L3, sig, 6 * 256, H, j9 c, b0s m z, a1u (upV pk H c m z) High i, 1952, pk, ())) (y := .inr (L1, L3, [0], L1, mu, L3, sig, J4 (upV pk H c m z) 6, ())) 6 (by rw [E1]; rfl) ?_ ?_ 300 (by omega)
 ·intro i hi kn
  have e1 : a0e ((10 : Int), List.take 320 (List.drop (32 + 320 * i) pk), ()) = some (c7H 10 (J5 pk (32 + 320 * i) 320), 0) :=
   c5Z (n := 10) (b := J5 pk (32 + 320 * i) 320) ⟨by omega, by omega, by rw [R4 (by omega)]⟩ (D5 hb _ _)
  have hR : ∀ j, j < 6 → (a4R m z j 5).length = 256 := fun j _ => (a6c m z j 5).1
  have e2 : List.take 256 (List.drop (i * 256) (b0s m z)) = a4R m z i 5 := a0A (f := fun r => a4R m z r 5) hR hi
  have e3 := c0M (e02 pk i)
  have e4 := c0O (c4D c) (c4D (tV pk i))
  have e5 := d1Z (a6c m z i 5) (c3R (j9 c) (j9 (tV pk i)))
  have e6 := c7Q (c1m (a4R m z i 5) (a45 (j9 c) (j9 (tV pk i))))
  have hh : (chD H i).length = 256 ∧ ∀ x ∈ chD H i, x = 0 ∨ x = 1 := ⟨c4u hH hi, fun x hx => hH1 x (List.mem_of_mem_drop (List.mem_of_mem_take hx))⟩
  have e7 : a0G (List.take 256 (List.drop (i * 256) H), a5x (a46 (a4R m z i 5) (a45 (j9 c) (j9 (tV pk i)))), ()) = some (upV pk H c m z i) := d8p hh (c1k _)
  have hs := Q1 (f := upV pk H c m z) hHi (fun j _ => (d74 pk H c m z j).1) hi
  have e8 : (List.range 256).map (fun j => (c7H 10 (J5 pk (32 + 320 * i) 320)).getD j 0 * 8192) = tV pk i := rfl
  unfold G8
  dsimp only
  rw [if_pos (by omega), if_pos (by omega), if_pos (by omega), if_pos (by omega), if_pos (by omega), a2C, Nat.add_zero, e1, Option.bind_some, if_neg (by simp), a2C]
  refine (e06 (by unfold c7H; rw [a1M]) (d9E _) _).trans ?_
  dsimp only
  rw [e8, if_pos (by omega), if_pos (by omega), if_pos (by omega), e3, Option.bind_some, e4, Option.bind_some, Int.toNat_natCast, e2, e5, Option.bind_some, e6, Option.bind_some, if_pos (by omega), if_pos (by omega), if_pos (by omega), e7, Option.bind_some, if_pos (by omega), if_pos (by omega), if_pos (by omega), hs, c7 (by omega) (by omega), show 32 + 320 * i + 320 = 32 + 320 * (i + 1) by omega, show 1920 - 320 * i - 320 = 1920 - 320 * (i + 1) by omega, show (i : Int) + 1 = ((i + 1 : Nat) : Int) by omega]
 ·intro kn
  unfold G8
  dsimp only
  rw [if_neg (by omega), Q0 hHi]
end Go.Ax.TryP
set_option linter.unusedVariables false
namespace Go.Ax.TryP
open Go.Proofs
theorem d0F {b : List Int} (hb : b.length ≤ maxLen ∧ bytes b) : K5 (6, 55, b, ()) = some (a8w 6 55 b) :=
 d9 (ks := C8) (rs := C9) (x := (6, 55, b, ())) ⟨d1K (d := 6) (by omega), d1K (d := 55) (by omega), N0.2 hb, trivial⟩ trivial
theorem d1J {b : List Int} (h : (a8w 6 55 b).2 = 0) : (a8w 6 55 b).1.length = 6 * 256 ∧ ∀ x ∈ (a8w 6 55 b).1, x = 0 ∨ x = 1 := by
 unfold a8w at h ⊢
 split at h
 ·cases h
 ·rename_i h1
  rw [if_neg h1]
  split at h
  ·rename_i h2
   rw [if_pos h2]
   refine ⟨?_, fun x hx => ?_⟩
   ·show (a8R b _ _ _).length = _
    rw [b5X, List.length_replicate]
    rfl
   ·obtain ⟨i, hi, rfl⟩ := List.mem_iff_getElem.1 hx
    have hx : (a8R b (55 : Int).toNat (List.replicate ((6 : Int).toNat * 256) 0) (6 : Int).toNat).getD i 0 = 0 ∨ (a8R b (55 : Int).toNat (List.replicate ((6 : Int).toNat * 256) 0) (6 : Int).toNat).getD i 0 = 1 := c4K (fun j => .inl (by
     by_cases hj : j < (6 : Int).toNat * 256
     ·rw [List.getD_eq_getElem?_getD, List.getElem?_replicate, if_pos hj]; rfl
     ·rw [List.getD_eq_getElem?_getD, List.getElem?_replicate, if_neg hj]; rfl)) _ i
    rw [List.getD_eq_getElem?_getD, List.getElem?_eq_getElem hi, Option.getD_some] at hx
    exact hx
  ·cases h
theorem c69 : ∀ x r, a0H x = some r → ∃ N, a5j N x = some r := by
 refine i0 (ks := a01) (rs := a6J) fun x hw hq => ⟨300, ?_⟩
 obtain ⟨(pk : List Int), (msg : List Int), (ctx : List Int), (sig : List Int), u⟩ := x
 have hpk : pk.length ≤ maxLen ∧ bytes pk := N0.1 hw.1
 have hmsg : msg.length ≤ maxLen ∧ bytes msg := N0.1 hw.2.1
 have hctx : ctx.length ≤ maxLen ∧ bytes ctx := N0.1 hw.2.2.1
 have hsig : sig.length ≤ maxLen ∧ bytes sig := N0.1 hw.2.2.2.1
 show a5j 300 (pk, msg, ctx, sig, u) = some (d6u pk msg ctx sig)
 unfold a5j d6u
 dsimp only
 have hZ5 : (List.replicate 1280 (0 : Int)).length = 5 * 256 := by rw [List.length_replicate]
 have hZ6 : (List.replicate 1536 (0 : Int)).length = 6 * 256 := by rw [List.length_replicate]
 generalize List.replicate 1280 (0 : Int) = Z5 at hZ5 ⊢
 generalize List.replicate 1536 (0 : Int) = Z6 at hZ6 ⊢
 by_cases h1 : pk.length = 1952
 ·rw [if_neg (c := pk.length ≠ 1952) (fun h => h h1), if_neg (by omega)]
  by_cases h2 : 255 < ctx.length
  ·rw [if_pos (c := 255 < ctx.length) h2, if_pos (by omega)]; rfl
  ·rw [if_neg (c := 255 < ctx.length) h2, if_neg (by omega)]
   by_cases h3 : sig.length = 3309
   ·rw [if_neg (c := sig.length ≠ 3309) (fun h => h h3), if_neg (by omega)]
    have e1 : J6 ((64 : Int), [pk], ()) = some (a3Q pk 64) := by
     have e := b7A (n := 64) (l := [pk]) (by omega) ⟨mB (by simp), fun zs hzs => by rw [List.mem_singleton.1 hzs]; exact hpk⟩
     refine e.trans ?_
     simp
    have e2 : a2F (a3Q pk 64, msg, ctx, ()) = some (muV pk msg ctx) := c9u ⟨mB (by rw [a0g]; omega), a7U _ _⟩ hmsg hctx
    have hmu : (muV pk msg ctx).length = 64 ∧ bytes (muV pk msg ctx) := ⟨a0g _ _, a7U _ _⟩
    rw [e1, Option.bind_some, e2, Option.bind_some, if_pos (by omega), if_pos (by omega), if_pos (by omega), if_pos (by omega), h3, show 3309 - 48 = 3261 from rfl]
    unfold chV
    generalize muV pk msg ctx = mu at hmu ⊢
    by_cases h4 : d7y sig
    ·refine ((e0N (L1 := mu.length) (L2 := pk.length) (mu := mu) (pk := pk) h3 hsig.2 hZ5 _).1 h4).trans ?_
     dsimp only
     rw [a1D (fun h => h h4)]
     have e3 : K5 ((6 : Int), (55 : Int), List.take 61 (List.drop 3248 sig), ()) = some (hV sig) := d0F (b := J5 sig 3248 61) ⟨mB (by rw [R4 (by omega)]; omega), D5 hsig.2 _ _⟩
     rw [e3, Option.bind_some]
     have hok : (hV sig).2 = 0 → (hV sig).1.length = 6 * 256 ∧ ∀ x ∈ (hV sig).1, x = 0 ∨ x = 1 := d1J
     generalize hV sig = hh at hok ⊢
     obtain ⟨H, e⟩ := hh
     dsimp only at hok ⊢
     by_cases h5 : e = 0
     ·rw [if_neg (fun h => h h5), if_neg (fun h => h h5)]
      obtain ⟨hH, hH1⟩ := hok h5
      have hct : (J5 sig 0 48).length = 48 ∧ bytes (J5 sig 0 48) := ⟨R4 (by omega), D5 hsig.2 _ _⟩
      rw [show List.take 48 (List.drop 0 sig) = J5 sig 0 48 from rfl, show List.take 32 (List.drop 0 pk) = J5 pk 0 32 from rfl]
      generalize hG : J5 sig 0 48 = ct at hct ⊢
      rw [c9o ⟨by omega, hct.2⟩, Option.bind_some]
      have hci := d17 ct
      generalize a4b 49 ct = b at hci ⊢
      obtain ⟨c, e2⟩ := b
      have hci : E7 256 c := hci
      dsimp only
      by_cases h6 : e2 = 0
      ·rw [if_neg (fun h => h h6), if_neg (fun h => h h6), c0M hci, Option.bind_some, if_pos (by omega), if_pos (by omega), if_pos (by omega), if_pos (by omega)]
       have hrho : (J5 pk 0 32).length = 32 ∧ bytes (J5 pk 0 32) := ⟨R4 (by omega), D5 hpk.2 _ _⟩
       rw [c0T hrho, Option.bind_some]
       have hmi := d28 (J5 pk 0 32)
       by_cases h7 : a30 (J5 pk 0 32)
       ·rw [b5L h7, if_neg (by simp), a1D (fun h => h h7)]
        generalize a67 (J5 pk 0 32) = m at hmi ⊢
        have hzi : E7 (5 * 256) (J4 (zV sig) 5) := a4x (d9Y sig) 5
        generalize J4 (zV sig) 5 = z at hzi ⊢
        rw [show xg (some (false, (130 : Int), (m, ()))) = some (m, ()) from rfl, Option.bind_some, c53 hmi hzi, Option.bind_some, hH, h1, show 6 * 256 / 256 = 6 from rfl]
        refine (e05 (L1 := mu.length) (L3 := 3309) (mu := mu) (sig := sig) h1 hpk.2 hci hH hH1 hZ6 _).trans ?_
        dsimp only
        have hup : E7 (6 * 256) (J4 (upV pk H c m z) 6) := a4x (d74 pk H c m z) 6
        have hin : ∀ r, r < 6 → inW 4 (o8 (chD (J4 (upV pk H c m z) 6) r)) := fun r hr => by
         rw [a0A (f := upV pk H c m z) (fun j _ => (d74 pk H c m z j).1) hr]
         exact d7a _ _
        generalize J4 (upV pk H c m z) 6 = High at hup hin ⊢
        rw [d11 ⟨by omega, hmu.2⟩ hup hin, Option.bind_some, show List.take 48 (List.drop 0 sig) = ct from hG, d6F ⟨mB (by rw [c0Z]; omega), c70 _ _⟩ ⟨mB (by omega), hct.2⟩, Option.bind_some]
        by_cases h8 : b9y mu High = ct
        ·rw [if_neg (by rw [decide_eq_true h8]; simp), if_neg (fun h => h h8)]; rfl
        ·rw [if_pos (by rw [decide_eq_false h8]; simp), if_pos h8]; rfl
       ·rw [b2T h7, if_pos rfl, a5u h7]; rfl
      ·rw [if_pos h6, if_pos h6]; rfl
     ·rw [if_pos h5, if_pos h5]; rfl
    ·refine ((e0N (L1 := mu.length) (L2 := pk.length) (mu := mu) (pk := pk) h3 hsig.2 hZ5 _).2 h4).trans ?_
     rw [a5u h4]; rfl
   ·rw [if_pos (c := sig.length ≠ 3309) h3, if_pos (by omega)]; rfl
 ·rw [if_pos (c := pk.length ≠ 1952) h1, if_pos (by omega)]; rfl
theorem c0S {pk msg ctx sig : List Int} (h1 : pk.length ≤ maxLen ∧ bytes pk) (h2 : msg.length ≤ maxLen ∧ bytes msg) (h3 : ctx.length ≤ maxLen ∧ bytes ctx) (h4 : sig.length ≤ maxLen ∧ bytes sig) : a0H (pk, msg, ctx, sig, ()) = some (d6u pk msg ctx sig) :=
 d9 (ks := a01) (rs := a6J) (x := (pk, msg, ctx, sig, ())) ⟨N0.2 h1, N0.2 h2, N0.2 h3, N0.2 h4, trivial⟩ trivial
end Go.Ax.TryP
