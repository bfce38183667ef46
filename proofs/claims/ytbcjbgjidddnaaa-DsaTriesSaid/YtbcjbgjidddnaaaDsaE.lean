/- A part of the proof: DgS, DgP, DgQ1, DgQ2, DgQ3, DgQ4, DgQ5, DgQ6, DgQ7, DgQ8. -/
import Derived.Test.YtbcjbgjidddnaaaDsaD
set_option linter.unusedVariables false
namespace Go.Ax.TryP
open Go.Proofs
noncomputable def tf (p : Prop) : Bool := @decide p (Classical.propDecidable p)
theorem c9O {p : Prop} (h : p) : tf p = true := @decide_eq_true p (Classical.propDecidable p) h
theorem d8E {p : Prop} (h : ¬ p) : tf p = false := @decide_eq_false p (Classical.propDecidable p) h
noncomputable def cif {α : Type} (p : Prop) (a b : α) : α := @ite α p (Classical.propDecidable p) a b
theorem a1r {α : Type} {p : Prop} (h : p) (a b : α) : cif p a b = a := by unfold cif; exact if_pos h
theorem a0b {α : Type} {p : Prop} (h : ¬ p) (a b : α) : cif p a b = b := by unfold cif; exact if_neg h
def X5 (b : List Int) (a n : Nat) : List Int := (b.drop a).take n
def b3T (b : List Int) : List Int := a2j 4 4 b
noncomputable def a35 : List Int × Unit → Option (Bool × Int × List Int) := c3K (ks := [.sl (.int .u8)]) (rs := [.xs (.int .i32) 256]) (fun x => x.1.length = 128) fun x => (decide (4 < a1t (b3T x.1)), 160, b3T x.1)
def skP (sk : List Int) (i : Nat) : List Int := b3T (X5 sk (128 + 128 * i) 128)
def skL (sk : List Int) (i : Nat) : List Int := a2j 4096 13 (X5 sk (1536 + 416 * i) 416)
def d2F (sk : List Int) : Prop := sk.length = 4032 ∧ ∀ i, i < 11 → a1t (skP sk i) ≤ 4
abbrev Sec : Type := List Int × List Int × List Int × List Int × List Int × List Int × Unit
def d1b (sk : List Int) : Sec := (X5 sk 0 32, X5 sk 32 32, X5 sk 64 64, P7 (skP sk) 5, P7 (fun i => skP sk (5 + i)) 6, P7 (skL sk) 6, ())
noncomputable def b2D : List Int × Unit → Option (Bool × Int × Sec) := c3K (ks := [.asl (.int .u8)]) (rs := [.cat [.fs (.int .u8), .fs (.int .u8), .fs (.int .u8), .xs (.int .i32) 1280, .xs (.int .i32) 1536, .xs (.int .i32) 1536]]) (fun _ => True) fun x => (tf (¬ d2F x.1), 160, d1b x.1)
def yD (rho2 : List Int) (k i : Nat) : List Int := (c56 20 (rho2 ++ c9R ((k * 5 + i : Nat) : Int))).1
def hiD (w : List Int) : List Int := P7 (fun r => (b5j (chD w r)).1) 6
def zD (c s y : List Int) (i : Nat) : List Int := b0B (chD y i) (b0C c (chD s i))
def c14 (c w e : List Int) (r : Nat) : List Int := b5A (chD w r) (b0C c (chD e r))
def c5a (c l : List Int) (r : Nat) : List Int := b0C c (chD l r)
def htD (c w e l : List Int) (r : Nat) : List Int × Int := d1Z (b5A b8G (c5a c l r)) (b0B (c14 c w e r) (c5a c l r))
def c5D (f : Nat → List Int × Int) : Nat → Int
 | 0 => 0
 | n + 1 => c5D f n + (f n).2
def d2E (c w e l : List Int) (r : Nat) : Prop := a1t (b5j (c14 c w e r)).2 < 261692 ∧ a1t (c5a c l r) < 261888
def c4l (c s e l y w : List Int) : Prop := (∀ i, i < 5 → a1t (zD c s y i) < 524092) ∧ (∀ r, r < 6 → d2E c w e l r) ∧ c5D (htD c w e l) 6 ≤ 55
def zT (ct c s y : List Int) (n : Nat) : List Int := ct ++ P7 (fun i => pkW 20 (a33 524288 (zD c s y i))) n
def hrow (c w e l : List Int) : List Int := P7 (fun r => (htD c w e l r).1) 6
def d6V (ct c s e l y w : List Int) : List Int := zT ct c s y 5 ++ (c4y (hrow c w e l) 55).1
noncomputable def d80 (x : Sec) (ct : List Int) (b : List Int × Int) (y w : List Int) : Bool × Int × (List Int × Bool) :=
 (decide (b.2 ≠ 0), b.2, cif (c4l b.1 x.2.2.2.1 x.2.2.2.2.1 x.2.2.2.2.2.1 y w) (d6V ct b.1 x.2.2.2.1 x.2.2.2.2.1 x.2.2.2.2.2.1 y w, true) ([], false))
def wD (m rho2 : List Int) (k : Nat) : List Int := b0x m (P7 (yD rho2 k) 5)
def ctD (m mu rho2 : List Int) (k : Nat) : List Int := c2q mu (hiD (wD m rho2 k))
noncomputable def d4L (x : Sec) (m mu rho2 : List Int) (k : Nat) : Bool × Int × (List Int × Bool) := d80 x (ctD m mu rho2 k) (a47 49 (ctD m mu rho2 k)) (P7 (yD rho2 k) 5) (wD m rho2 k)
noncomputable def X7 : Sec × List Int × List Int × List Int × Int × Unit → Option (Bool × Int × (List Int × Bool)) := c3K (ks := [.rp (.ct [.fs (.int .u8), .fs (.int .u8), .fs (.int .u8), .xs (.int .i32) 1280, .xs (.int .i32) 1536, .xs (.int .i32) 1536]), .rp (.xs (.int .i32) 7680), .sl (.int .u8), .sl (.int .u8), .int .i64]) (rs := [.sl (.int .u8), .bool])
 (fun x => x.2.2.1.length ≤ 1000 ∧ x.2.2.2.1.length = 64 ∧ 0 ≤ x.2.2.2.2.1 ∧ x.2.2.2.2.1 ≤ 10000) fun x => d4L x.1 x.2.1 x.2.2.1 x.2.2.2.1 x.2.2.2.2.1.toNat
def d0O (t : Nat → Bool × Int × (List Int × Bool)) (k : Nat) : Nat → List Int × Int
 | 0 => ([], 162)
 | n + 1 => if (t k).1 = true then ([], (t k).2.1) else if (t k).2.2.2 = true then ((t k).2.2.1, 0) else d0O t (k + 1) n
def muS (sk msg ctx : List Int) : List Int := c57 (X5 sk 64 64) msg ctx
def d3w (sk rnd mu : List Int) : List Int := a3S (X5 sk 32 32 ++ rnd ++ mu) 64
noncomputable def d7q (sk msg ctx rnd : List Int) : Nat → Bool × Int × (List Int × Bool) := d4L (d1b sk) (c1b (X5 sk 0 32)) (muS sk msg ctx) (d3w sk rnd (muS sk msg ctx))
noncomputable def b3C (sk msg ctx rnd : List Int) (most : Int) : List Int × Int :=
 cif (¬ d2F sk) ([], 160) (if 255 < ctx.length then ([], 3) else if most < 1 then ([], 1) else cif (¬ a3L (X5 sk 0 32)) ([], 130) (d0O (d7q sk msg ctx rnd) 0 most.toNat))
noncomputable def a8s : List Int × List Int × List Int × List Int × Int × Unit → Option (List Int × Int) := a0n (ks := [.fsl (.int .u8), .sl (.int .u8), .sl (.int .u8), .xs (.int .u8) 32, .int .i64]) (rs := [.sl (.int .u8), .int .i64])
 (fun x => x.2.2.2.2.1 ≤ 10000) fun x => b3C x.1 x.2.1 x.2.2.1 x.2.2.2.1 x.2.2.2.2.1
def zV (sig : List Int) (i : Nat) : List Int := a2j 524288 20 (X5 sig (48 + 640 * i) 640)
def d8d (sig : List Int) : Prop := ∀ i, i < 5 → a1t (zV sig i) < 524092
def tV (pk : List Int) (r : Nat) : List Int := p9 fun i => (c9U 10 (X5 pk (32 + 320 * r) 320)).getD i 0 * 8192
def upV (pk h c m z : List Int) (r : Nat) : List Int := d6e (chD h r) (b4a (b5A (b7b m z r 5) (a6d (a05 c) (a05 (tV pk r)))))
noncomputable def hV (sig : List Int) : List Int × Int := b2v 6 55 (X5 sig 3248 61)
def muV (pk msg ctx : List Int) : List Int := c57 (a3S pk 64) msg ctx
noncomputable def chV (pk msg ctx sig : List Int) : List Int := c2q (muV pk msg ctx) (P7 (upV pk (hV sig).1 (a47 49 (X5 sig 0 48)).1 (c1b (X5 pk 0 32)) (P7 (zV sig) 5)) 6)
noncomputable def d7r (pk msg ctx sig : List Int) : Int :=
 if pk.length ≠ 1952 then 161 else if 255 < ctx.length then 3 else if sig.length ≠ 3309 then 70 else
 cif (¬ d8d sig) 70 (if (hV sig).2 ≠ 0 then 70 else if (a47 49 (X5 sig 0 48)).2 ≠ 0 then (a47 49 (X5 sig 0 48)).2 else
 cif (¬ a3L (X5 pk 0 32)) 130 (if chV pk msg ctx sig ≠ X5 sig 0 48 then 70 else 0))
noncomputable def a2I : List Int × List Int × List Int × List Int × Unit → Option Int := a0n (ks := [.sl (.int .u8), .sl (.int .u8), .sl (.int .u8), .sl (.int .u8)]) (rs := [.int .i64]) (fun _ => True) fun x => d7r x.1 x.2.1 x.2.2.1 x.2.2.2.1
def b04 (xi : List Int) : List Int := a3S (xi ++ [6, 5]) 128
def c2n (xi : List Int) : List Int := X5 (b04 xi) 0 32
def b2x (xi : List Int) (i : Nat) : List Int × Int := c8O 4 (X5 (b04 xi) 32 64 ++ c9R (i : Int))
def d8c (xi : List Int) : Prop := ∀ i, i < 11 → (b2x xi i).2 = 0
def sK (xi : List Int) : List Int := P7 (fun i => (b2x xi i).1) 5
def eK (xi : List Int) : List Int := P7 (fun i => (b2x xi (5 + i)).1) 6
def tK (xi : List Int) (r : Nat) : List Int := b0B (chD (b0x (c1b (c2n xi)) (sK xi)) r) (chD (eK xi) r)
def pkT (xi : List Int) (n : Nat) : List Int := c2n xi ++ P7 (fun r => pkW 10 (B8 (c35 (tK xi r)).1)) n
def pkD (xi : List Int) : List Int := pkT xi 6
def tlT (xi : List Int) (n : Nat) : List Int := P7 (fun r => pkW 13 (a33 4096 (c35 (tK xi r)).2)) n
def skH (xi : List Int) : List Int := c2n xi ++ X5 (b04 xi) 96 32 ++ a3S (pkD xi) 64
def skT (xi : List Int) (n : Nat) : List Int := skH xi ++ P7 (fun i => pkW 4 (a33 4 (b2x xi i).1)) n
def skD (xi : List Int) : List Int := skT xi 11 ++ tlT xi 6
noncomputable def d3t (xi : List Int) : List Int × List Int × Int := cif (d8c xi ∧ a3L (c2n xi)) (pkD xi, skD xi, 0) ([], [], 130)
noncomputable def a2H : List Int × Unit → Option (List Int × List Int × Int) := a0n (ks := [.xs (.int .u8) 32]) (rs := [.sl (.int .u8), .sl (.int .u8), .int .i64]) (fun _ => True) fun x => d3t x.1
noncomputable def a9n : List (List Int) × Unit → Option Bool := a0n (ks := [.sls (.int .u8)]) (rs := [.bool]) (fun _ => True) fun x => decide (∀ b ∈ x.1, b.length ≤ 6000)
noncomputable def T5 : Unit → Option Bool := a0n (ks := []) (rs := [.bool]) (fun _ => True) fun _ => true
end Go.Ax.TryP
set_option linter.unusedVariables false
namespace Go.Ax.TryP
open Go.Proofs
noncomputable abbrev a0o : Sig := ⟨[.xs b32 256], [.int .i32], T4⟩
noncomputable def p_dsa_small_E : AE := AE.ofI [(40, ty40)] [(29, o4), (30, a0o)] [] [(14, a08), (43, a5W)] [] [] []
noncomputable def c4v : Hints := [(3000000, [2]), (5000000, [2])]
noncomputable def c4w : Code := (Try.f51).body.getD .skip
abbrev a1T : List Kd := [.sl b8]
abbrev a1U : List Kd := [.xs b32 256]
noncomputable def a9V (N : Nat) (x : List Int × Unit) : Option (Int ⊕ (List Int)) :=
 (j4 ((4:Int), (4:Int), x.1, ())).bind fun r1 => (
 if (r1.2 ≠ (0:Int)) then
  some (.inl r1.2)
 else
  (T4 (r1.1, ())).bind fun r2 => (
  if (r2 > (4:Int)) then
   if ((160:Int) ≠ (0:Int)) then
    some (.inl (160:Int))
   else
    some (.inr r1.1)
  else
   some (.inr r1.1)))
theorem c1J (e0 : c8 Try.prog 29 o4) (e1 : c8 Try.prog 30 a0o) : p_dsa_small_E.Ok Try.prog := AE.ofI_ok (all_cons q8 c6) (all_cons ⟨e0, I9⟩ (all_cons ⟨e1, a30⟩ c6)) c6 (all_cons ⟨O0, A4⟩ (all_cons ⟨a28, a0u⟩ c6)) c6
theorem c2L (hE : p_dsa_small_E.Ok Try.prog) {g : Ds a1T → Option (Bool × Int × Rs a1U)} (hg : ∀ x r, g x = some r → ∃ N, a9V N x = some (xr r)) : XOk Try.prog 51 ⟨a1T, a1U, (.ifi 26 .i64), g⟩ :=
 c01 (E := p_dsa_small_E) (H := c4v) (L := fun N => LT.nil) (c := c4w) (ks := a1T) (rs := a1U) (F := a9V) hE mix Try.func51 (by kernel_rfl) (fun N => OkAll.nil) (fun _ _ => by kernel_rfl) hg
noncomputable abbrev b3W : XSig := ⟨[.sl b8], [.xs b32 256], (.ifi 26 .i64), a35⟩
noncomputable def p_dsa_read_E : AE := AE.ofA [(23, ty23), (40, ty40), (42, ty42), (44, ty44), (60, ty60)] [(29, o4)] [(51, b3W)] [] [] [(14, a08), (28, c02), (43, a5W)] [] [] [] [] [] []
noncomputable def a7q : Hints := [(5, [1, 2, 3, 15]), (10, [1, 2, 3, 24]), (15, [1, 2, 3, 33]), (2000000, [1, 2, 3]), (2000001, [1, 2, 3, 15]), (2000002, [1, 2, 3]), (2000003, [1, 2, 3, 24]), (2000004, [2, 3]), (2000005, [1, 2, 3, 33]), (3000000, [2]), (5000000, [2])]
noncomputable def a0U : Code := (Try.f25).body.getD .skip
noncomputable def c1I : Shape := mkS { tmps := V :: .sc (.ptr 0 0 false) :: .sc (.ptr 1 0 false) :: .sc (.ptr 2 0 false) :: pv 11 (.sc (.int .i64) :: pv 30 []), mem := [.live [.one (.fr b8)] (.own), .live [.one (.nilsl), .one (.nilsl), .one (.nilsl), .xs b32 (some 1280), .xs b32 (some 1536), .xs b32 (some 1536)] (.own), .live [.one (.fr b8), .one (.fr b8), .one (.fr b8), .xs b32 (some 1280), .xs b32 (some 1536), .xs b32 (some 1536)] (.own)] } [.int, .xs, .xs, .xs, .xs, .xs, .xs, .xs, .xs, .xs, .xs]
abbrev W53 : Type := Int × List Int × List Int × List Int × List Int × List Int × List Int × List Int × List Int × List Int × List Int × Unit
abbrev W54 : Type := (Int × List Int × List Int × List Int × Unit) ⊕ (List Int × List Int × List Int × List Int × List Int × List Int × List Int × List Int × List Int × List Int × Unit)
noncomputable def B0 (N : Nat) (β : Type) (x : W53) (kn : W53 → Option β) (ke : W54 → Option β) : Option β :=
 if (x.1 < (5:Int)) then
  if 0 ≤ (128:Int) then (
  if (128:Int) ≤ (((List.length x.2.1) : Nat) : Int) then (
  if 0 ≤ (128:Int) then (
  if (128:Int) ≤ (((List.length x.2.1) : Nat) : Int) then (
  (a35 ((List.take (128 - 0) (List.drop 0 x.2.1)), ())).bind fun r1 => (
  if r1.1 = true then
   ke (.inl (r1.2.1, x.2.2.1, x.2.2.2.1, x.2.2.2.2.1, ()))
  else
   if 0 ≤ x.1 then (
   if x.1 < 5 then (
   if ((x.1.toNat) * 256) + 256 ≤ 1280 then (
   kn ((IntKind.i64.wrap (x.1 + (1:Int))), (List.take ((List.length x.2.1) - 128) (List.drop 128 x.2.1)), x.2.2.1, x.2.2.2.1, x.2.2.2.2.1, x.2.2.2.2.2.1, x.2.2.2.2.2.2.1, x.2.2.2.2.2.2.2.1, (List.take ((x.1.toNat) * 256) x.2.2.2.2.2.2.2.2.1 ++ r1.2.2 ++ List.drop (((x.1.toNat) * 256) + 256) x.2.2.2.2.2.2.2.2.1), x.2.2.2.2.2.2.2.2.2.1, x.2.2.2.2.2.2.2.2.2.2.1, ())) else none) else none) else none)) else none) else none) else none) else none
 else
  ke (.inr (x.2.1, x.2.2.1, x.2.2.2.1, x.2.2.2.2.1, x.2.2.2.2.2.1, x.2.2.2.2.2.2.1, x.2.2.2.2.2.2.2.1, x.2.2.2.2.2.2.2.2.1, x.2.2.2.2.2.2.2.2.2.1, x.2.2.2.2.2.2.2.2.2.2.1, ()))
noncomputable def b9K : Go' W54 := fun y K => match y with
 | .inl y => K (.pan (.ifi 26 .i64) y.1) (fSt { tmps := V :: V :: .sc (.ptr 0 0 false) :: pv 43 [], mem := [.live [.one (.nilsl), .one (.nilsl), .one (.nilsl), .xs b32 (some 1280), .xs b32 (some 1536), .xs b32 (some 1536)] (.own)] } [.xs, .xs, .xs] y.2)
 | .inr y => K (.exit 0) (fSt { tmps := V :: .sc (.ptr 0 0 false) :: .sc (.ptr 1 0 false) :: .sc (.ptr 2 0 false) :: pv 42 [], mem := [.live [.one (.fr b8)] (.own), .live [.one (.nilsl), .one (.nilsl), .one (.nilsl), .xs b32 (some 1280), .xs b32 (some 1536), .xs b32 (some 1536)] (.own), .live [.one (.fr b8), .one (.fr b8), .one (.fr b8), .xs b32 (some 1280), .xs b32 (some 1536), .xs b32 (some 1536)] (.own)] } [.xs, .xs, .xs, .xs, .xs, .xs, .xs, .xs, .xs, .xs] y)
noncomputable def b1R (N : Nat) : LT := upd (LT.nil) 5 (o6 c1I N (B0 N) b9K)
theorem b9L (N : Nat) : OkAll p_dsa_read_E a7q N (b1R N) (w9 a0U) :=
 d6 (c := d7 5 a0U) (OkAll.nil) (by kernel_rfl) (fun x => by kernel_rfl) (fun β x kn ke => by kernel_rfl)
noncomputable def b9I : Shape := mkS { tmps := V :: .sc (.ptr 0 0 false) :: .sc (.ptr 1 0 false) :: .sc (.ptr 2 0 false) :: pv 20 (.sc (.int .i64) :: pv 21 []), mem := [.live [.one (.fr b8)] (.own), .live [.one (.nilsl), .one (.nilsl), .one (.nilsl), .xs b32 (some 1280), .xs b32 (some 1536), .xs b32 (some 1536)] (.own), .live [.one (.fr b8), .one (.fr b8), .one (.fr b8), .xs b32 (some 1280), .xs b32 (some 1536), .xs b32 (some 1536)] (.own)] } [.int, .xs, .xs, .xs, .xs, .xs, .xs, .xs, .xs, .xs, .xs]
noncomputable def v9 (N : Nat) (β : Type) (x : W53) (kn : W53 → Option β) (ke : W54 → Option β) : Option β :=
 if (x.1 < (6:Int)) then
  if 0 ≤ (128:Int) then (
  if (128:Int) ≤ (((List.length x.2.1) : Nat) : Int) then (
  if 0 ≤ (128:Int) then (
  if (128:Int) ≤ (((List.length x.2.1) : Nat) : Int) then (
  (a35 ((List.take (128 - 0) (List.drop 0 x.2.1)), ())).bind fun r4 => (
  if r4.1 = true then
   ke (.inl (r4.2.1, x.2.2.1, x.2.2.2.1, x.2.2.2.2.1, ()))
  else
   if 0 ≤ x.1 then (
   if x.1 < 6 then (
   if ((x.1.toNat) * 256) + 256 ≤ 1536 then (
   kn ((IntKind.i64.wrap (x.1 + (1:Int))), (List.take ((List.length x.2.1) - 128) (List.drop 128 x.2.1)), x.2.2.1, x.2.2.2.1, x.2.2.2.2.1, x.2.2.2.2.2.1, x.2.2.2.2.2.2.1, x.2.2.2.2.2.2.2.1, x.2.2.2.2.2.2.2.2.1, (List.take ((x.1.toNat) * 256) x.2.2.2.2.2.2.2.2.2.1 ++ r4.2.2 ++ List.drop (((x.1.toNat) * 256) + 256) x.2.2.2.2.2.2.2.2.2.1), x.2.2.2.2.2.2.2.2.2.2.1, ())) else none) else none) else none)) else none) else none) else none) else none
 else
  ke (.inr (x.2.1, x.2.2.1, x.2.2.2.1, x.2.2.2.2.1, x.2.2.2.2.2.1, x.2.2.2.2.2.2.1, x.2.2.2.2.2.2.2.1, x.2.2.2.2.2.2.2.2.1, x.2.2.2.2.2.2.2.2.2.1, x.2.2.2.2.2.2.2.2.2.2.1, ()))
noncomputable def b8c : Go' W54 := fun y K => match y with
 | .inl y => K (.pan (.ifi 26 .i64) y.1) (fSt { tmps := V :: V :: .sc (.ptr 0 0 false) :: pv 43 [], mem := [.live [.one (.nilsl), .one (.nilsl), .one (.nilsl), .xs b32 (some 1280), .xs b32 (some 1536), .xs b32 (some 1536)] (.own)] } [.xs, .xs, .xs] y.2)
 | .inr y => K (.exit 2) (fSt { tmps := V :: .sc (.ptr 0 0 false) :: .sc (.ptr 1 0 false) :: .sc (.ptr 2 0 false) :: pv 42 [], mem := [.live [.one (.fr b8)] (.own), .live [.one (.nilsl), .one (.nilsl), .one (.nilsl), .xs b32 (some 1280), .xs b32 (some 1536), .xs b32 (some 1536)] (.own), .live [.one (.fr b8), .one (.fr b8), .one (.fr b8), .xs b32 (some 1280), .xs b32 (some 1536), .xs b32 (some 1536)] (.own)] } [.xs, .xs, .xs, .xs, .xs, .xs, .xs, .xs, .xs, .xs] y)
noncomputable def b0q (N : Nat) : LT := upd (b1R N) 10 (o6 b9I N (v9 N) b8c)
theorem b8d (N : Nat) : OkAll p_dsa_read_E a7q N (b0q N) (w9 a0U) :=
 d6 (c := d7 10 a0U) (b9L N) (by kernel_rfl) (fun x => by kernel_rfl) (fun β x kn ke => by kernel_rfl)
noncomputable def b9J : Shape := mkS { tmps := V :: .sc (.ptr 0 0 false) :: .sc (.ptr 1 0 false) :: .sc (.ptr 2 0 false) :: pv 29 (.sc (.int .i64) :: pv 12 []), mem := [.live [.one (.fr b8)] (.own), .live [.one (.nilsl), .one (.nilsl), .one (.nilsl), .xs b32 (some 1280), .xs b32 (some 1536), .xs b32 (some 1536)] (.own), .live [.one (.fr b8), .one (.fr b8), .one (.fr b8), .xs b32 (some 1280), .xs b32 (some 1536), .xs b32 (some 1536)] (.own)] } [.int, .xs, .xs, .xs, .xs, .xs, .xs, .xs, .xs, .xs, .xs]
abbrev W55 : Type := (Int × List Int × List Int × List Int × Unit) ⊕ (List Int × List Int × List Int × List Int × List Int × List Int × List Int × List Int × List Int × Unit)
noncomputable def H2 (N : Nat) (β : Type) (x : W53) (kn : W53 → Option β) (ke : W55 → Option β) : Option β :=
 if (x.1 < (6:Int)) then
  if 0 ≤ (416:Int) then (
  if (416:Int) ≤ (((List.length x.2.1) : Nat) : Int) then (
  if 0 ≤ (416:Int) then (
  if (416:Int) ≤ (((List.length x.2.1) : Nat) : Int) then (
  (j4 ((4096:Int), (13:Int), (List.take (416 - 0) (List.drop 0 x.2.1)), ())).bind fun r7 => (
  if (r7.2 ≠ (0:Int)) then
   ke (.inl (r7.2, x.2.2.1, x.2.2.2.1, x.2.2.2.2.1, ()))
  else
   if 0 ≤ x.1 then (
   if x.1 < 6 then (
   if ((x.1.toNat) * 256) + 256 ≤ 1536 then (
   kn ((IntKind.i64.wrap (x.1 + (1:Int))), (List.take ((List.length x.2.1) - 416) (List.drop 416 x.2.1)), x.2.2.1, x.2.2.2.1, x.2.2.2.2.1, x.2.2.2.2.2.1, x.2.2.2.2.2.2.1, x.2.2.2.2.2.2.2.1, x.2.2.2.2.2.2.2.2.1, x.2.2.2.2.2.2.2.2.2.1, (List.take ((x.1.toNat) * 256) x.2.2.2.2.2.2.2.2.2.2.1 ++ r7.1 ++ List.drop (((x.1.toNat) * 256) + 256) x.2.2.2.2.2.2.2.2.2.2.1), ())) else none) else none) else none)) else none) else none) else none) else none
 else
  ke (.inr (x.2.2.1, x.2.2.2.1, x.2.2.2.2.1, x.2.2.2.2.2.1, x.2.2.2.2.2.2.1, x.2.2.2.2.2.2.2.1, x.2.2.2.2.2.2.2.2.1, x.2.2.2.2.2.2.2.2.2.1, x.2.2.2.2.2.2.2.2.2.2.1, ()))
noncomputable def b8e : Go' W55 := fun y K => match y with
 | .inl y => K (.pan (.ifi 26 .i64) y.1) (fSt { tmps := V :: V :: .sc (.ptr 0 0 false) :: pv 43 [], mem := [.live [.one (.nilsl), .one (.nilsl), .one (.nilsl), .xs b32 (some 1280), .xs b32 (some 1536), .xs b32 (some 1536)] (.own)] } [.xs, .xs, .xs] y.2)
 | .inr y => K (.exit 4) (fSt { tmps := V :: V :: .sc (.ptr 0 0 false) :: .sc (.ptr 1 0 false) :: pv 42 [], mem := [.live [.one (.nilsl), .one (.nilsl), .one (.nilsl), .xs b32 (some 1280), .xs b32 (some 1536), .xs b32 (some 1536)] (.own), .live [.one (.fr b8), .one (.fr b8), .one (.fr b8), .xs b32 (some 1280), .xs b32 (some 1536), .xs b32 (some 1536)] (.own)] } [.xs, .xs, .xs, .xs, .xs, .xs, .xs, .xs, .xs] y)
noncomputable def b0r (N : Nat) : LT := upd (b0q N) 15 (o6 b9J N (H2 N) b8e)
theorem b8f (N : Nat) : OkAll p_dsa_read_E a7q N (b0r N) (w9 a0U) :=
 d6 (c := d7 15 a0U) (b8d N) (by kernel_rfl) (fun x => by kernel_rfl) (fun β x kn ke => by kernel_rfl)
abbrev a3u : List Kd := [.asl b8]
abbrev a3v : List Kd := [.cat [.fs b8, .fs b8, .fs b8, .xs b32 1280, .xs b32 1536, .xs b32 1536]]
noncomputable def a5X (N : Nat) (x : List Int × Unit) : Option (Int ⊕ ((List Int × List Int × List Int × List Int × List Int × List Int × Unit))) :=
 if (((List.length x.1 : Nat) : Int) ≠ (4032:Int)) then
  if ((160:Int) ≠ (0:Int)) then
   some (.inl (160:Int))
  else
   if 0 ≤ (32:Int) then (
   if (32:Int) ≤ (((List.length x.1) : Nat) : Int) then (
   if 0 ≤ (32:Int) then (
   if (32:Int) ≤ (((List.length x.1) : Nat) : Int) then (
   if 0 ≤ (32:Int) then (
   if (32:Int) ≤ (((List.length (List.take ((List.length x.1) - 32) (List.drop 32 x.1))) : Nat) : Int) then (
   if 0 ≤ (32:Int) then (
   if (32:Int) ≤ (((List.length (List.take ((List.length x.1) - 32) (List.drop 32 x.1))) : Nat) : Int) then (
   if 0 ≤ (64:Int) then (
   if (64:Int) ≤ (((List.length (List.take ((List.length (List.take ((List.length x.1) - 32) (List.drop 32 x.1))) - 32) (List.drop 32 (List.take ((List.length x.1) - 32) (List.drop 32 x.1))))) : Nat) : Int) then (
   if 0 ≤ (64:Int) then (
   if (64:Int) ≤ (((List.length (List.take ((List.length (List.take ((List.length x.1) - 32) (List.drop 32 x.1))) - 32) (List.drop 32 (List.take ((List.length x.1) - 32) (List.drop 32 x.1))))) : Nat) : Int) then (
   m7 (B0 N) N ((0:Int), (List.take ((List.length (List.take ((List.length (List.take ((List.length x.1) - 32) (List.drop 32 x.1))) - 32) (List.drop 32 (List.take ((List.length x.1) - 32) (List.drop 32 x.1))))) - 64) (List.drop 64 (List.take ((List.length (List.take ((List.length x.1) - 32) (List.drop 32 x.1))) - 32) (List.drop 32 (List.take ((List.length x.1) - 32) (List.drop 32 x.1)))))), (List.replicate 1280 0), (List.replicate 1536 0), (List.replicate 1536 0), (List.take (32 - 0) (List.drop 0 x.1)), (List.take (32 - 0) (List.drop 0 (List.take ((List.length x.1) - 32) (List.drop 32 x.1)))), (List.take (64 - 0) (List.drop 0 (List.take ((List.length (List.take ((List.length x.1) - 32) (List.drop 32 x.1))) - 32) (List.drop 32 (List.take ((List.length x.1) - 32) (List.drop 32 x.1)))))), (List.replicate 1280 0), (List.replicate 1536 0), (List.replicate 1536 0), ()) fun y => (match y with
   | .inl y2 => (
    some (.inl y2.1))
   | .inr y3 => (
    m7 (v9 N) N ((0:Int), y3.1, y3.2.1, y3.2.2.1, y3.2.2.2.1, y3.2.2.2.2.1, y3.2.2.2.2.2.1, y3.2.2.2.2.2.2.1, y3.2.2.2.2.2.2.2.1, y3.2.2.2.2.2.2.2.2.1, y3.2.2.2.2.2.2.2.2.2.1, ()) fun y => (match y with
    | .inl y5 => (
     some (.inl y5.1))
    | .inr y6 => (
     m7 (H2 N) N ((0:Int), y6.1, y6.2.1, y6.2.2.1, y6.2.2.2.1, y6.2.2.2.2.1, y6.2.2.2.2.2.1, y6.2.2.2.2.2.2.1, y6.2.2.2.2.2.2.2.1, y6.2.2.2.2.2.2.2.2.1, y6.2.2.2.2.2.2.2.2.2.1, ()) fun y => (match y with
     | .inl y8 => (
      some (.inl y8.1))
     | .inr y9 => (
      some (.inr (y9.2.2.2.1, y9.2.2.2.2.1, y9.2.2.2.2.2.1, y9.2.2.2.2.2.2.1, y9.2.2.2.2.2.2.2.1, y9.2.2.2.2.2.2.2.2.1, ()))))))))) else none) else none) else none) else none) else none) else none) else none) else none) else none) else none) else none) else none
 else
  if 0 ≤ (32:Int) then (
  if (32:Int) ≤ (((List.length x.1) : Nat) : Int) then (
  if 0 ≤ (32:Int) then (
  if (32:Int) ≤ (((List.length x.1) : Nat) : Int) then (
  if 0 ≤ (32:Int) then (
  if (32:Int) ≤ (((List.length (List.take ((List.length x.1) - 32) (List.drop 32 x.1))) : Nat) : Int) then (
  if 0 ≤ (32:Int) then (
  if (32:Int) ≤ (((List.length (List.take ((List.length x.1) - 32) (List.drop 32 x.1))) : Nat) : Int) then (
  if 0 ≤ (64:Int) then (
  if (64:Int) ≤ (((List.length (List.take ((List.length (List.take ((List.length x.1) - 32) (List.drop 32 x.1))) - 32) (List.drop 32 (List.take ((List.length x.1) - 32) (List.drop 32 x.1))))) : Nat) : Int) then (
  if 0 ≤ (64:Int) then (
  if (64:Int) ≤ (((List.length (List.take ((List.length (List.take ((List.length x.1) - 32) (List.drop 32 x.1))) - 32) (List.drop 32 (List.take ((List.length x.1) - 32) (List.drop 32 x.1))))) : Nat) : Int) then (
  m7 (B0 N) N ((0:Int), (List.take ((List.length (List.take ((List.length (List.take ((List.length x.1) - 32) (List.drop 32 x.1))) - 32) (List.drop 32 (List.take ((List.length x.1) - 32) (List.drop 32 x.1))))) - 64) (List.drop 64 (List.take ((List.length (List.take ((List.length x.1) - 32) (List.drop 32 x.1))) - 32) (List.drop 32 (List.take ((List.length x.1) - 32) (List.drop 32 x.1)))))), (List.replicate 1280 0), (List.replicate 1536 0), (List.replicate 1536 0), (List.take (32 - 0) (List.drop 0 x.1)), (List.take (32 - 0) (List.drop 0 (List.take ((List.length x.1) - 32) (List.drop 32 x.1)))), (List.take (64 - 0) (List.drop 0 (List.take ((List.length (List.take ((List.length x.1) - 32) (List.drop 32 x.1))) - 32) (List.drop 32 (List.take ((List.length x.1) - 32) (List.drop 32 x.1)))))), (List.replicate 1280 0), (List.replicate 1536 0), (List.replicate 1536 0), ()) fun y => (match y with
  | .inl y10 => (
   some (.inl y10.1))
  | .inr y11 => (
   m7 (v9 N) N ((0:Int), y11.1, y11.2.1, y11.2.2.1, y11.2.2.2.1, y11.2.2.2.2.1, y11.2.2.2.2.2.1, y11.2.2.2.2.2.2.1, y11.2.2.2.2.2.2.2.1, y11.2.2.2.2.2.2.2.2.1, y11.2.2.2.2.2.2.2.2.2.1, ()) fun y => (match y with
   | .inl y12 => (
    some (.inl y12.1))
   | .inr y13 => (
    m7 (H2 N) N ((0:Int), y13.1, y13.2.1, y13.2.2.1, y13.2.2.2.1, y13.2.2.2.2.1, y13.2.2.2.2.2.1, y13.2.2.2.2.2.2.1, y13.2.2.2.2.2.2.2.1, y13.2.2.2.2.2.2.2.2.1, y13.2.2.2.2.2.2.2.2.2.1, ()) fun y => (match y with
    | .inl y14 => (
     some (.inl y14.1))
    | .inr y15 => (
     some (.inr (y15.2.2.2.1, y15.2.2.2.2.1, y15.2.2.2.2.2.1, y15.2.2.2.2.2.2.1, y15.2.2.2.2.2.2.2.1, y15.2.2.2.2.2.2.2.2.1, ()))))))))) else none) else none) else none) else none) else none) else none) else none) else none) else none) else none) else none) else none
theorem c2K (e0 : c8 Try.prog 29 o4) (e1 : XOk Try.prog 51 b3W) : p_dsa_read_E.Ok Try.prog := AE.ofA_ok (all_cons E0 (all_cons q8 (all_cons b5h (all_cons b5i (all_cons c8v c6))))) (all_cons ⟨e0, I9⟩ c6) (all_cons ⟨e1, b9d⟩ c6) c6 c6 (all_cons ⟨O0, A4⟩ (all_cons ⟨b8L, b3H⟩ (all_cons ⟨a28, a0u⟩ c6))) c6 c6 c6 c6
theorem c4u (hE : p_dsa_read_E.Ok Try.prog) {g : Ds a3u → Option (Bool × Int × Rs a3v)} (hg : ∀ x r, g x = some r → ∃ N, a5X N x = some (xr r)) : XOk Try.prog 25 ⟨a3u, a3v, (.ifi 26 .i64), g⟩ :=
 c01 (E := p_dsa_read_E) (H := a7q) (L := fun N => b0r N) (c := a0U) (ks := a3u) (rs := a3v) (F := a5X) hE mix Try.func25 (by kernel_rfl) (fun N => b8f N) (fun _ _ => by kernel_rfl) hg
noncomputable abbrev b09 : Sig := ⟨[.int .i64], [.sl b8], a8t⟩
noncomputable abbrev b06 : Sig := ⟨[.int .i64, .sl b8], [.xs b32 256, .int .i64], a64⟩
noncomputable abbrev N2 : Sig := ⟨[.rp (.xs b32 7680), .xs b32 1280], [.xs b32 1536], N7⟩
noncomputable abbrev a0p : Sig := ⟨[.sl b8, .xs b32 1536], [.sl b8], a0z⟩
noncomputable abbrev a4C : Sig := ⟨[.int .i64, .sl b8], [.xs b32 256, .int .i64], a4M⟩
noncomputable abbrev b3V : Sig := ⟨[.xs b32 256, .xs b32 256], [.xs b32 256], U4⟩
noncomputable abbrev X0 : Sig := ⟨[.int .i32, .int .i64, .xs b32 256], [.sl b8, .int .i64], n9⟩
noncomputable abbrev a50 : Sig := ⟨[.xs b32 256, .xs b32 256], [.xs b32 256], a0x⟩
noncomputable abbrev a43 : Sig := ⟨[.xs b32 256, .xs b32 256], [.xs .bool 256, .int .i64], X6⟩
noncomputable abbrev a3U : Sig := ⟨[.sla .bool 256, .int .i64], [.sl b8, .int .i64], a06⟩
noncomputable def p_dsa_secret_try_E : AE := AE.ofI [(5, ty5), (21, ty21), (23, ty23), (35, ty35), (40, ty40), (42, ty42), (44, ty44), (60, ty60), (69, ty69), (76, ty76)] [(17, b09), (16, N3), (52, b06), (19, N2), (53, D2), (41, a0p), (33, a4C), (54, b3V), (21, U0), (30, a0o), (24, X0), (37, a50), (55, a43), (56, a3U)] [] [(14, a08), (22, a6e)] [] [] []
noncomputable def P2 : Hints := [(3, [0, 1, 2, 3, 4, 10, 11, 12, 13, 31, 999999]), (10, [0, 2, 10, 11, 12, 13, 15, 16, 52, 999999]), (18, [0, 10, 11, 12, 13, 15, 19, 20, 76, 999999]), (27, [0, 10, 11, 15, 19, 20, 22, 23, 109, 999999]), (2000000, [0, 1, 2, 10, 11, 12, 13, 999999]), (2000001, [0, 1, 2, 3, 4, 10, 11, 12, 13, 31]), (2000002, [0, 2, 10, 11, 12, 13, 15, 16, 999999]), (2000003, [0, 2, 10, 11, 12, 13, 15, 16, 52]), (2000004, [0, 10, 11, 15, 19, 20, 999999]), (2000005, [0, 10, 11, 12, 13, 15, 19, 20, 76]), (2000006, [10, 11, 20, 22, 23, 999999]), (2000007, [0, 10, 11, 15, 19, 20, 22, 23, 109]), (3000000, [10, 11]), (5000000, [10, 11, 999999])]
noncomputable def p8 : Code := (Try.f27).body.getD .skip
noncomputable def b1S : Shape := mkS { tmps := .sc (.ptr 0 0 false) :: .sc (.ptr 1 0 false) :: .sc (.vec 2 none 1) :: .sc (.vec 3 none 1) :: .sc (.int .i64) :: pv 5 (.sc (.nilsl) :: .sc (.bool) :: .sc (.ptr 4 0 false) :: .sc (.ptr 5 0 false) :: pv 17 (.sc (.int .i64) :: pv 140 [])), mem := [.live [.one (.fr b8), .one (.fr b8), .one (.fr b8), .xs b32 (some 1280), .xs b32 (some 1536), .xs b32 (some 1536)] (.ro), .live [.xs b32 (some 7680)] (.ro), .live [.xs b8 none] (.ro), .live [.xs b8 none] (.ro), .live [.xs b32 (some 1280)] (.own), .live [.xs b32 (some 1280)] (.own)] } [.nat, .nat, .int, .bool, .int, .xs, .xs, .xs, .xs, .xs, .xs, .xs, .nat, .xs, .nat, .xs, .xs, .xs]
abbrev W56 : Type := Nat × Nat × Int × Bool × Int × List Int × List Int × List Int × List Int × List Int × List Int × List Int × Nat × List Int × Nat × List Int × List Int × List Int × Unit
abbrev W57 : Type := (Int × Bool × Unit) ⊕ (Nat × Bool × List Int × List Int × List Int × List Int × List Int × List Int × List Int × Nat × List Int × List Int × List Int × Unit)
noncomputable def x9 (N : Nat) (β : Type) (x : W56) (kn : W56 → Option β) (ke : W57 → Option β) : Option β :=
 if (x.2.2.2.2.1 < (5:Int)) then
  (a8t ((IntKind.i64.wrap ((IntKind.i64.wrap (x.2.2.1 * (5:Int))) + x.2.2.2.2.1)), ())).bind fun r1 => (
  (m6 ([x.2.2.2.2.2.2.2.2.2.2.2.2.2.2.2.1, r1], ())).bind fun r2 => (
  (a64 ((20:Int), r2, ())).bind fun r3 => (
  if (r3.2 ≠ (0:Int)) then
   ke (.inl (r3.2, (decide (x.2.2.2.1 = true)), ()))
  else
   if 0 ≤ x.2.2.2.2.1 then (
   if x.2.2.2.2.1 < 5 then (
   if ((x.2.2.2.2.1.toNat) * 256) + 256 ≤ 1280 then (
   kn (x.1, x.2.1, x.2.2.1, (decide (x.2.2.2.1 = true)), (IntKind.i64.wrap (x.2.2.2.2.1 + (1:Int))), x.2.2.2.2.2.1, x.2.2.2.2.2.2.1, x.2.2.2.2.2.2.2.1, x.2.2.2.2.2.2.2.2.1, x.2.2.2.2.2.2.2.2.2.1, x.2.2.2.2.2.2.2.2.2.2.1, x.2.2.2.2.2.2.2.2.2.2.2.1, x.2.2.2.2.2.2.2.2.2.2.2.2.1, x.2.2.2.2.2.2.2.2.2.2.2.2.2.1, x.2.2.2.2.2.2.2.2.2.2.2.2.2.2.1, x.2.2.2.2.2.2.2.2.2.2.2.2.2.2.2.1, (List.take ((x.2.2.2.2.1.toNat) * 256) x.2.2.2.2.2.2.2.2.2.2.2.2.2.2.2.2.1 ++ r3.1 ++ List.drop (((x.2.2.2.2.1.toNat) * 256) + 256) x.2.2.2.2.2.2.2.2.2.2.2.2.2.2.2.2.1), x.2.2.2.2.2.2.2.2.2.2.2.2.2.2.2.2.2.1, ())) else none) else none) else none)))
 else
  ke (.inr (x.1, (decide (x.2.2.2.1 = true)), x.2.2.2.2.2.1, x.2.2.2.2.2.2.1, x.2.2.2.2.2.2.2.1, x.2.2.2.2.2.2.2.2.1, x.2.2.2.2.2.2.2.2.2.1, x.2.2.2.2.2.2.2.2.2.2.1, x.2.2.2.2.2.2.2.2.2.2.2.1, x.2.2.2.2.2.2.2.2.2.2.2.2.1, x.2.2.2.2.2.2.2.2.2.2.2.2.2.1, x.2.2.2.2.2.2.2.2.2.2.2.2.2.2.2.2.1, x.2.2.2.2.2.2.2.2.2.2.2.2.2.2.2.2.2.1, ()))
noncomputable def b0Y : Go' W57 := fun y K => match y with
 | .inl y => K (.pan (.ifi 26 .i64) y.1) (fSt { tmps := pv 10 (.sc (.nilsl) :: .sc (.bool) :: pv 160 []), mem := [] } [.bool] y.2)
 | .inr y => K (.exit 0) (fSt { tmps := .sc (.ptr 0 0 false) :: .sc (.ptr 1 0 false) :: .sc (.vec 2 none 1) :: pv 7 (.sc (.nilsl) :: .sc (.bool) :: .sc (.ptr 3 0 false) :: .sc (.ptr 4 0 false) :: pv 158 []), mem := [.live [.one (.fr b8), .one (.fr b8), .one (.fr b8), .xs b32 (some 1280), .xs b32 (some 1536), .xs b32 (some 1536)] (.ro), .live [.xs b32 (some 7680)] (.ro), .live [.xs b8 none] (.ro), .live [.xs b32 (some 1280)] (.own), .live [.xs b32 (some 1280)] (.own)] } [.nat, .bool, .xs, .xs, .xs, .xs, .xs, .xs, .xs, .nat, .xs, .xs, .xs] y)
noncomputable def a4Y (N : Nat) : LT := upd (LT.nil) 3 (o6 b1S N (x9 N) b0Y)
theorem b0Z (N : Nat) : OkAll p_dsa_secret_try_E P2 N (a4Y N) (w9 p8) :=
 d6 (c := d7 3 p8) (OkAll.nil) (by kernel_rfl) (fun x => by kernel_rfl) (fun β x kn ke => by kernel_rfl)
noncomputable def b0V : Shape := mkS { tmps := .sc (.ptr 0 0 false) :: V :: .sc (.vec 1 none 1) :: pv 7 (.sc (.nilsl) :: .sc (.bool) :: .sc (.ptr 2 0 false) :: .sc (.ptr 3 0 false) :: V :: .sc (.ptr 4 0 false) :: .sc (.ptr 5 0 false) :: pv 35 (.sc (.int .i64) :: pv 119 [])), mem := [.live [.one (.fr b8), .one (.fr b8), .one (.fr b8), .xs b32 (some 1280), .xs b32 (some 1536), .xs b32 (some 1536)] (.ro), .live [.xs b8 none] (.ro), .live [.xs b32 (some 1280)] (.own), .live [.xs b32 (some 1280)] (.own), .live [.xs b32 (some 1536)] (.own), .live [.xs b32 (some 1536)] (.own)] } [.nat, .bool, .int, .xs, .xs, .xs, .xs, .xs, .xs, .nat, .xs, .xs, .xs, .xs, .xs]
abbrev W58 : Type := Nat × Bool × Int × List Int × List Int × List Int × List Int × List Int × List Int × Nat × List Int × List Int × List Int × List Int × List Int × Unit
abbrev W59 : Type := Nat × Bool × List Int × List Int × List Int × List Int × List Int × List Int × Nat × List Int × List Int × List Int × List Int × List Int × Unit
noncomputable def v0 (N : Nat) (β : Type) (x : W58) (kn : W58 → Option β) (ke : W59 → Option β) : Option β :=
 if (x.2.2.1 < (6:Int)) then
  if 0 ≤ x.2.2.1 then (
  if x.2.2.1 < 6 then (
  if ((x.2.2.1.toNat) * 256) + 256 ≤ 1536 then (
  (x3 ((List.take 256 (List.drop ((x.2.2.1.toNat) * 256) x.2.2.2.2.2.2.2.2.2.2.2.2.2.1)), ())).bind fun r7 => (
  if 0 ≤ x.2.2.1 then (
  if x.2.2.1 < 6 then (
  if ((x.2.2.1.toNat) * 256) + 256 ≤ 1536 then (
  kn (x.1, (decide (x.2.1 = true)), (IntKind.i64.wrap (x.2.2.1 + (1:Int))), x.2.2.2.1, x.2.2.2.2.1, x.2.2.2.2.2.1, x.2.2.2.2.2.2.1, x.2.2.2.2.2.2.2.1, x.2.2.2.2.2.2.2.2.1, x.2.2.2.2.2.2.2.2.2.1, x.2.2.2.2.2.2.2.2.2.2.1, x.2.2.2.2.2.2.2.2.2.2.2.1, x.2.2.2.2.2.2.2.2.2.2.2.2.1, x.2.2.2.2.2.2.2.2.2.2.2.2.2.1, (List.take ((x.2.2.1.toNat) * 256) x.2.2.2.2.2.2.2.2.2.2.2.2.2.2.1 ++ r7.1 ++ List.drop (((x.2.2.1.toNat) * 256) + 256) x.2.2.2.2.2.2.2.2.2.2.2.2.2.2.1), ())) else none) else none) else none)) else none) else none) else none
 else
  ke (x.1, (decide (x.2.1 = true)), x.2.2.2.1, x.2.2.2.2.1, x.2.2.2.2.2.1, x.2.2.2.2.2.2.1, x.2.2.2.2.2.2.2.1, x.2.2.2.2.2.2.2.2.1, x.2.2.2.2.2.2.2.2.2.1, x.2.2.2.2.2.2.2.2.2.2.1, x.2.2.2.2.2.2.2.2.2.2.2.1, x.2.2.2.2.2.2.2.2.2.2.2.2.1, x.2.2.2.2.2.2.2.2.2.2.2.2.2.1, x.2.2.2.2.2.2.2.2.2.2.2.2.2.2.1, ())
noncomputable def a9P : Go' W59 := fun y K => K (.exit 2) (fSt { tmps := .sc (.ptr 0 0 false) :: V :: .sc (.vec 1 none 1) :: pv 7 (.sc (.nilsl) :: .sc (.bool) :: .sc (.ptr 2 0 false) :: .sc (.ptr 3 0 false) :: V :: .sc (.ptr 4 0 false) :: .sc (.ptr 5 0 false) :: pv 155 []), mem := [.live [.one (.fr b8), .one (.fr b8), .one (.fr b8), .xs b32 (some 1280), .xs b32 (some 1536), .xs b32 (some 1536)] (.ro), .live [.xs b8 none] (.ro), .live [.xs b32 (some 1280)] (.own), .live [.xs b32 (some 1280)] (.own), .live [.xs b32 (some 1536)] (.own), .live [.xs b32 (some 1536)] (.own)] } [.nat, .bool, .xs, .xs, .xs, .xs, .xs, .xs, .nat, .xs, .xs, .xs, .xs, .xs] y)
noncomputable def a3P (N : Nat) : LT := upd (a4Y N) 10 (o6 b0V N (v0 N) a9P)
theorem a9Q (N : Nat) : OkAll p_dsa_secret_try_E P2 N (a3P N) (w9 p8) :=
 d6 (c := d7 10 p8) (b0Z N) (by kernel_rfl) (fun x => by kernel_rfl) (fun β x kn ke => by kernel_rfl)
noncomputable def b0W : Shape := mkS { tmps := .sc (.ptr 0 0 false) :: pv 9 (.sc (.nilsl) :: .sc (.bool) :: .sc (.ptr 1 0 false) :: .sc (.ptr 2 0 false) :: V :: .sc (.ptr 3 0 false) :: pv 3 (.sc (.ptr 4 0 false) :: .sc (.vec 5 none 1) :: pv 55 (.sc (.int .i64) :: pv 95 []))), mem := [.live [.one (.fr b8), .one (.fr b8), .one (.fr b8), .xs b32 (some 1280), .xs b32 (some 1536), .xs b32 (some 1536)] (.ro), .live [.xs b32 (some 1280)] (.own), .live [.xs b32 (some 1280)] (.own), .live [.xs b32 (some 1536)] (.own), .live [.xs b32 (some 256)] (.own), .live [.xs b8 none] (.own)] } [.bool, .nat, .int, .xs, .xs, .xs, .xs, .xs, .xs, .xs, .xs, .xs, .xs, .nat, .xs]
abbrev W60 : Type := Bool × Nat × Int × List Int × List Int × List Int × List Int × List Int × List Int × List Int × List Int × List Int × List Int × Nat × List Int × Unit
abbrev W61 : Type := (Bool × Unit) ⊕ ((Int × Bool × Unit) ⊕ (Bool × Nat × List Int × List Int × List Int × List Int × List Int × List Int × List Int × List Int × Nat × List Int × Unit))
noncomputable def j9 (N : Nat) (β : Type) (x : W60) (kn : W60 → Option β) (ke : W61 → Option β) : Option β :=
 if (x.2.2.1 < (5:Int)) then
  if 0 ≤ x.2.2.1 then (
  if x.2.2.1 < 5 then (
  if ((x.2.2.1.toNat) * 256) + 256 ≤ 1280 then (
  if 0 ≤ x.2.2.1 then (
  if x.2.2.1 < 5 then (
  if ((x.2.2.1.toNat) * 256) + 256 ≤ 1280 then (
  (U4 (x.2.2.2.2.2.2.2.2.2.2.2.2.1, (List.take 256 (List.drop ((x.2.2.1.toNat) * 256) x.2.2.2.2.2.2.1)), ())).bind fun r12 => (
  (Q0 ((List.take 256 (List.drop ((x.2.2.1.toNat) * 256) x.2.2.2.2.2.2.2.2.2.1)), r12, ())).bind fun r13 => (
  if 0 ≤ x.2.2.1 then (
  if x.2.2.1 < 5 then (
  if ((x.2.2.1.toNat) * 256) + 256 ≤ 1280 then (
  if 0 ≤ x.2.2.1 then (
  if x.2.2.1 < 5 then (
  if ((x.2.2.1.toNat) * 256) + 256 ≤ 1280 then (
  (T4 ((List.take 256 (List.drop ((x.2.2.1.toNat) * 256) (List.take ((x.2.2.1.toNat) * 256) x.2.2.2.2.2.2.2.2.2.2.1 ++ r13 ++ List.drop (((x.2.2.1.toNat) * 256) + 256) x.2.2.2.2.2.2.2.2.2.2.1))), ())).bind fun r14 => (
  if (r14 ≥ (524092:Int)) then
   ke (.inl (false, ()))
  else
   if 0 ≤ x.2.2.1 then (
   if x.2.2.1 < 5 then (
   if ((x.2.2.1.toNat) * 256) + 256 ≤ 1280 then (
   (n9 ((524288:Int), (20:Int), (List.take 256 (List.drop ((x.2.2.1.toNat) * 256) (List.take ((x.2.2.1.toNat) * 256) x.2.2.2.2.2.2.2.2.2.2.1 ++ r13 ++ List.drop (((x.2.2.1.toNat) * 256) + 256) x.2.2.2.2.2.2.2.2.2.2.1))), ())).bind fun r15 => (
   if (r15.2 ≠ (0:Int)) then
    ke (.inr (.inl (r15.2, (decide (x.1 = true)), ())))
   else
    if (x.2.1 + (List.length r15.1)) * 1 ≤ 140737488355328 then (
    kn ((decide (x.1 = true)), (x.2.1 + (List.length r15.1)), (IntKind.i64.wrap (x.2.2.1 + (1:Int))), x.2.2.2.1, x.2.2.2.2.1, x.2.2.2.2.2.1, x.2.2.2.2.2.2.1, x.2.2.2.2.2.2.2.1, x.2.2.2.2.2.2.2.2.1, x.2.2.2.2.2.2.2.2.2.1, (List.take ((x.2.2.1.toNat) * 256) x.2.2.2.2.2.2.2.2.2.2.1 ++ r13 ++ List.drop (((x.2.2.1.toNat) * 256) + 256) x.2.2.2.2.2.2.2.2.2.2.1), x.2.2.2.2.2.2.2.2.2.2.2.1, x.2.2.2.2.2.2.2.2.2.2.2.2.1, (x.2.2.2.2.2.2.2.2.2.2.2.2.2.1 + (List.length r15.1)), (x.2.2.2.2.2.2.2.2.2.2.2.2.2.2.1 ++ r15.1), ())) else none)) else none) else none) else none)) else none) else none) else none) else none) else none) else none))) else none) else none) else none) else none) else none) else none
 else
  ke (.inr (.inr ((decide (x.1 = true)), x.2.1, x.2.2.2.1, x.2.2.2.2.1, x.2.2.2.2.2.1, x.2.2.2.2.2.2.1, x.2.2.2.2.2.2.2.1, x.2.2.2.2.2.2.2.2.1, x.2.2.2.2.2.2.2.2.2.2.2.1, x.2.2.2.2.2.2.2.2.2.2.2.2.1, x.2.2.2.2.2.2.2.2.2.2.2.2.2.1, x.2.2.2.2.2.2.2.2.2.2.2.2.2.2.1, ())))
noncomputable def a9R : Go' W61 := fun y K => match y with
 | .inl y => K .ret (fSt { tmps := pv 10 (.sc (.nilsl) :: .sc (.bool) :: pv 160 []), mem := [] } [.bool] y)
 | .inr (.inl y) => K (.pan (.ifi 26 .i64) y.1) (fSt { tmps := pv 10 (.sc (.nilsl) :: .sc (.bool) :: pv 160 []), mem := [] } [.bool] y.2)
 | .inr (.inr y) => K (.exit 4) (fSt { tmps := .sc (.ptr 0 0 false) :: pv 9 (.sc (.nilsl) :: .sc (.bool) :: pv 3 (.sc (.ptr 1 0 false) :: pv 3 (.sc (.ptr 2 0 false) :: .sc (.vec 3 none 1) :: pv 151 []))), mem := [.live [.one (.fr b8), .one (.fr b8), .one (.fr b8), .xs b32 (some 1280), .xs b32 (some 1536), .xs b32 (some 1536)] (.ro), .live [.xs b32 (some 1536)] (.own), .live [.xs b32 (some 256)] (.own), .live [.xs b8 none] (.own)] } [.bool, .nat, .xs, .xs, .xs, .xs, .xs, .xs, .xs, .xs, .nat, .xs] y)
noncomputable def a3Q (N : Nat) : LT := upd (a3P N) 18 (o6 b0W N (j9 N) a9R)
theorem a9S (N : Nat) : OkAll p_dsa_secret_try_E P2 N (a3Q N) (w9 p8) :=
 d6 (c := d7 18 p8) (a9Q N) (by kernel_rfl) (fun x => by kernel_rfl) (fun β x kn ke => by kernel_rfl)
noncomputable def b0X : Shape := mkS { tmps := .sc (.ptr 0 0 false) :: pv 9 (.sc (.nilsl) :: .sc (.bool) :: pv 3 (.sc (.ptr 1 0 false) :: pv 3 (.sc (.ptr 2 0 false) :: .sc (.vec 3 none 1) :: V :: .sc (.vec 4 (some 6) 256) :: .sc (.int .i64) :: pv 85 (.sc (.int .i64) :: pv 62 [])))), mem := [.live [.one (.fr b8), .one (.fr b8), .one (.fr b8), .xs b32 (some 1280), .xs b32 (some 1536), .xs b32 (some 1536)] (.ro), .live [.xs b32 (some 1536)] (.own), .live [.xs b32 (some 256)] (.own), .live [.xs b8 none] (.own), .live [.xs .bool (some 1536)] (.own)] } [.bool, .nat, .int, .int, .xs, .xs, .xs, .xs, .xs, .xs, .xs, .xs, .nat, .xs, .xs]
abbrev W62 : Type := Bool × Nat × Int × Int × List Int × List Int × List Int × List Int × List Int × List Int × List Int × List Int × Nat × List Int × List Int × Unit
abbrev W63 : Type := (Bool × Unit) ⊕ (Bool × Nat × Int × Nat × List Int × List Int × Unit)
noncomputable def k0 (N : Nat) (β : Type) (x : W62) (kn : W62 → Option β) (ke : W63 → Option β) : Option β :=
 if (x.2.2.2.1 < (6:Int)) then
  if 0 ≤ x.2.2.2.1 then (
  if x.2.2.2.1 < 6 then (
  if ((x.2.2.2.1.toNat) * 256) + 256 ≤ 1536 then (
  if 0 ≤ x.2.2.2.1 then (
  if x.2.2.2.1 < 6 then (
  if ((x.2.2.2.1.toNat) * 256) + 256 ≤ 1536 then (
  (U4 (x.2.2.2.2.2.2.2.2.2.2.2.1, (List.take 256 (List.drop ((x.2.2.2.1.toNat) * 256) x.2.2.2.2.2.2.2.2.1)), ())).bind fun r19 => (
  (a0x ((List.take 256 (List.drop ((x.2.2.2.1.toNat) * 256) x.2.2.2.2.2.2.2.2.2.2.1)), r19, ())).bind fun r20 => (
  if 0 ≤ x.2.2.2.1 then (
  if x.2.2.2.1 < 6 then (
  if ((x.2.2.2.1.toNat) * 256) + 256 ≤ 1536 then (
  (U4 (x.2.2.2.2.2.2.2.2.2.2.2.1, (List.take 256 (List.drop ((x.2.2.2.1.toNat) * 256) x.2.2.2.2.2.2.2.2.2.1)), ())).bind fun r21 => (
  (x3 (r20, ())).bind fun r22 => (
  (T4 (r22.2, ())).bind fun r23 => (
  if (r23 ≥ (261692:Int)) then
   ke (.inl (false, ()))
  else
   (T4 (r21, ())).bind fun r24 => (
   if (r24 ≥ (261888:Int)) then
    ke (.inl (false, ()))
   else
    (a0x ((List.replicate 256 0), r21, ())).bind fun r25 => (
    (Q0 (r20, r21, ())).bind fun r26 => (
    (X6 (r25, r26, ())).bind fun r27 => (
    if 0 ≤ x.2.2.2.1 then (
    if x.2.2.2.1 < (6:Int) then (
    if ((x.2.2.2.1.toNat) * 256) + 256 ≤ 1536 then (
    kn ((decide (x.1 = true)), x.2.1, (IntKind.i64.wrap (x.2.2.1 + r27.2)), (IntKind.i64.wrap (x.2.2.2.1 + (1:Int))), x.2.2.2.2.1, x.2.2.2.2.2.1, x.2.2.2.2.2.2.1, x.2.2.2.2.2.2.2.1, x.2.2.2.2.2.2.2.2.1, x.2.2.2.2.2.2.2.2.2.1, x.2.2.2.2.2.2.2.2.2.2.1, x.2.2.2.2.2.2.2.2.2.2.2.1, x.2.2.2.2.2.2.2.2.2.2.2.2.1, x.2.2.2.2.2.2.2.2.2.2.2.2.2.1, (List.take ((x.2.2.2.1.toNat) * 256) x.2.2.2.2.2.2.2.2.2.2.2.2.2.2.1 ++ r27.1 ++ List.drop (((x.2.2.2.1.toNat) * 256) + 256) x.2.2.2.2.2.2.2.2.2.2.2.2.2.2.1), ())) else none) else none) else none)))))))) else none) else none) else none))) else none) else none) else none) else none) else none) else none
 else
  ke (.inr ((decide (x.1 = true)), x.2.1, x.2.2.1, x.2.2.2.2.2.2.2.2.2.2.2.2.1, x.2.2.2.2.2.2.2.2.2.2.2.2.2.1, x.2.2.2.2.2.2.2.2.2.2.2.2.2.2.1, ()))
noncomputable def a9T : Go' W63 := fun y K => match y with
 | .inl y => K .ret (fSt { tmps := pv 10 (.sc (.nilsl) :: .sc (.bool) :: pv 160 []), mem := [] } [.bool] y)
 | .inr y => K (.exit 6) (fSt { tmps := pv 10 (.sc (.nilsl) :: .sc (.bool) :: pv 8 (.sc (.vec 0 none 1) :: V :: .sc (.vec 1 (some 6) 256) :: .sc (.int .i64) :: pv 148 [])), mem := [.live [.xs b8 none] (.own), .live [.xs .bool (some 1536)] (.own)] } [.bool, .nat, .int, .nat, .xs, .xs] y)
noncomputable def a3R (N : Nat) : LT := upd (a3Q N) 27 (o6 b0X N (k0 N) a9T)
theorem a9U (N : Nat) : OkAll p_dsa_secret_try_E P2 N (a3R N) (w9 p8) :=
 d6 (c := d7 27 p8) (a9S N) (by kernel_rfl) (fun x => by kernel_rfl) (fun β x kn ke => by kernel_rfl)
abbrev L6 : List Kd := [.rp (.ct [.fs b8, .fs b8, .fs b8, .xs b32 1280, .xs b32 1536, .xs b32 1536]), .rp (.xs b32 7680), .sl b8, .sl b8, .int .i64]
abbrev L7 : List Kd := [.sl b8, .bool]
noncomputable def Y8 (N : Nat) (x : (List Int × List Int × List Int × List Int × List Int × List Int × Unit) × List Int × List Int × List Int × Int × Unit) : Option (Int ⊕ (List Int × Bool)) :=
 m7 (x9 N) N ((List.length x.2.2.1), (List.length x.2.2.2.1), x.2.2.2.2.1, false, (0:Int), x.1.1, x.1.2.1, x.1.2.2.1, x.1.2.2.2.1, x.1.2.2.2.2.1, x.1.2.2.2.2.2.1, x.2.1, (List.length x.2.2.1), x.2.2.1, (List.length x.2.2.2.1), x.2.2.2.1, (List.replicate 1280 0), (List.replicate 1280 0), ()) fun y => (match y with
 | .inl y4 => (
  some (.inl y4.1))
 | .inr y5 => (
  (N7 (y5.2.2.2.2.2.2.2.2.1, y5.2.2.2.2.2.2.2.2.2.2.2.1, ())).bind fun r6 => (
  m7 (v0 N) N (y5.1, y5.2.1, (0:Int), y5.2.2.1, y5.2.2.2.1, y5.2.2.2.2.1, y5.2.2.2.2.2.1, y5.2.2.2.2.2.2.1, y5.2.2.2.2.2.2.2.1, y5.2.2.2.2.2.2.2.2.2.1, y5.2.2.2.2.2.2.2.2.2.2.1, y5.2.2.2.2.2.2.2.2.2.2.2.1, y5.2.2.2.2.2.2.2.2.2.2.2.2.1, r6, (List.replicate 1536 0), ()) fun y8 => (
  (a0z (y8.2.2.2.2.2.2.2.2.2.1, y8.2.2.2.2.2.2.2.2.2.2.2.2.2.1, ())).bind fun r9 => (
  (a4M ((49:Int), r9, ())).bind fun r10 => (
  if (r10.2 ≠ (0:Int)) then
   some (.inl r10.2)
  else
   (m6 ([r9], ())).bind fun r11 => (
   m7 (j9 N) N (y8.2.1, (List.length r11), (0:Int), y8.2.2.1, y8.2.2.2.1, y8.2.2.2.2.1, y8.2.2.2.2.2.1, y8.2.2.2.2.2.2.1, y8.2.2.2.2.2.2.2.1, y8.2.2.2.2.2.2.2.2.2.2.1, y8.2.2.2.2.2.2.2.2.2.2.2.1, y8.2.2.2.2.2.2.2.2.2.2.2.2.1, r10.1, (List.length r11), r11, ()) fun y => (match y with
   | .inl y16 => (
    some (.inr ([], y16.1)))
   | .inr (.inl y17) => (
    some (.inl y17.1))
   | .inr (.inr y18) => (
    if 0 ≤ (6:Int) then (
    if (6:Int) = (6:Int) then (
    if (6:Int) * 256 ≤ 281474976710656 then (
    m7 (k0 N) N (y18.1, y18.2.1, (0:Int), (0:Int), y18.2.2.1, y18.2.2.2.1, y18.2.2.2.2.1, y18.2.2.2.2.2.1, y18.2.2.2.2.2.2.1, y18.2.2.2.2.2.2.2.1, y18.2.2.2.2.2.2.2.2.1, y18.2.2.2.2.2.2.2.2.2.1, y18.2.2.2.2.2.2.2.2.2.2.1, y18.2.2.2.2.2.2.2.2.2.2.2.1, (List.replicate 1536 0), ()) fun y => (match y with
    | .inl y28 => (
     some (.inr ([], y28.1)))
    | .inr y29 => (
     if (y29.2.2.1 > (55:Int)) then
      some (.inr ([], false))
     else
      (a06 (y29.2.2.2.2.2.1, (55:Int), ())).bind fun r30 => (
      if (r30.2 ≠ (0:Int)) then
       some (.inl r30.2)
      else
       if (y29.2.1 + (List.length r30.1)) * 1 ≤ 140737488355328 then (
       some (.inr ((y29.2.2.2.2.1 ++ r30.1), true))) else none)))) else none) else none) else none)))))))))
theorem b3i (e0 : c8 Try.prog 17 b09) (e1 : c8 Try.prog 16 N3) (e2 : c8 Try.prog 52 b06) (e3 : c8 Try.prog 19 N2) (e4 : c8 Try.prog 53 D2) (e5 : c8 Try.prog 41 a0p) (e6 : c8 Try.prog 33 a4C) (e7 : c8 Try.prog 54 b3V) (e8 : c8 Try.prog 21 U0) (e9 : c8 Try.prog 30 a0o) (e10 : c8 Try.prog 24 X0) (e11 : c8 Try.prog 37 a50) (e12 : c8 Try.prog 55 a43) (e13 : c8 Try.prog 56 a3U) : p_dsa_secret_try_E.Ok Try.prog := AE.ofI_ok (all_cons T9 (all_cons u4 (all_cons E0 (all_cons a2D (all_cons q8 (all_cons b5h (all_cons b5i (all_cons c8v (all_cons c41 (all_cons b8C c6)))))))))) (all_cons ⟨e0, b3I⟩ (all_cons ⟨e1, a04⟩ (all_cons ⟨e2, b7p⟩ (all_cons ⟨e3, a2Y⟩ (all_cons ⟨e4, a0c⟩ (all_cons ⟨e5, a5q⟩ (all_cons ⟨e6, a8i⟩ (all_cons ⟨e7, b9c⟩ (all_cons ⟨e8, a1Z⟩ (all_cons ⟨e9, a30⟩ (all_cons ⟨e10, a4I⟩ (all_cons ⟨e11, b0e⟩ (all_cons ⟨e12, b1n⟩ (all_cons ⟨e13, b0y⟩ c6)))))))))))))) c6 (all_cons ⟨O0, A4⟩ (all_cons ⟨a2K, Z4⟩ c6)) c6
theorem b4O (hE : p_dsa_secret_try_E.Ok Try.prog) {g : Ds L6 → Option (Bool × Int × Rs L7)} (hg : ∀ x r, g x = some r → ∃ N, Y8 N x = some (xr r)) : XOk Try.prog 27 ⟨L6, L7, (.ifi 26 .i64), g⟩ :=
 c01 (E := p_dsa_secret_try_E) (H := P2) (L := fun N => a3R N) (c := p8) (ks := L6) (rs := L7) (F := Y8) hE mix Try.func27 (by kernel_rfl) (fun N => a9U N) (fun _ _ => by kernel_rfl) hg
noncomputable abbrev a2V : Sig := ⟨[.int .i64, .sl b8], [.xs b32 256, .int .i64], G0⟩
noncomputable abbrev a2o : Sig := ⟨[.xs b32 256], [.xs b32 256, .xs b32 256], U5⟩
noncomputable abbrev a0q : XSig := ⟨[.sl b8], [.op [.xs b32 7680]], (.ifi 26 .i64), N6⟩
noncomputable def p_dsa_KeyGen_E : AE := AE.ofA [(5, ty5), (22, ty22), (23, ty23), (26, ty26), (35, ty35), (40, ty40), (42, ty42), (44, ty44)] [(13, R1), (17, b09), (16, N3), (15, a2V), (19, N2), (21, U0), (20, a2o), (23, a4D), (24, X0)] [(18, a0q)] [(12, a4o)] [] [(14, a08), (22, a6e)] [] [] [] [] [] []
noncomputable def a0a : Hints := [(7, [2, 3, 4, 6, 7, 8, 9, 10, 30]), (12, [2, 3, 4, 6, 7, 8, 9, 10, 45]), (20, [2, 3, 4, 6, 8, 9, 10, 13, 14, 68]), (28, [2, 3, 4, 9, 10, 14, 104]), (33, [2, 3, 4, 10, 14, 117]), (2000000, [2, 3, 4, 6, 7, 8, 9, 10]), (2000001, [2, 3, 4, 6, 7, 8, 9, 10, 30]), (2000002, [2, 3, 4, 6, 8, 9, 10]), (2000003, [2, 3, 4, 6, 7, 8, 9, 10, 45]), (2000004, [2, 3, 4, 6, 8, 9, 10, 14]), (2000005, [2, 3, 4, 6, 8, 9, 10, 13, 14, 68]), (2000006, [2, 3, 4, 10, 14]), (2000007, [2, 3, 4, 9, 10, 14, 104]), (2000008, [2, 3, 4, 14]), (2000009, [2, 3, 4, 10, 14, 117]), (3000000, [2, 3, 4]), (5000000, [2, 3, 4]), (7000020, [14, 1])]
noncomputable def v6 : Code := (Try.f8).body.getD .skip
noncomputable def b77 : Shape := mkS { tmps := V :: V :: .sc (.nilsl) :: .sc (.nilsl) :: .sc (.ptr 0 0 false) :: V :: .sc (.sl 1 (some 0) (some 32) none 1) :: .sc (.sl 1 (some 32) (some 64) none 1) :: .sc (.sl 1 (some 96) none none 1) :: .sc (.ptr 2 0 false) :: .sc (.ptr 3 0 false) :: pv 19 (.sc (.int .i64) :: pv 103 []), mem := [.live [.xs b64 (some 1)] (.own), .live [.xs b8 none] (.own), .live [.xs b32 (some 1280)] (.own), .live [.xs b32 (some 1536)] (.own)], dfr := [(12, [.ptr 0 0 false])] } [.nat, .nat, .nat, .nat, .int, .xs, .nat, .xs, .xs, .xs]
abbrev W64 : Type := Nat × Nat × Nat × Nat × Int × List Int × Nat × List Int × List Int × List Int × Unit
abbrev W65 : Type := (Int × List Int × Unit) ⊕ (Nat × Nat × Nat × Nat × List Int × Nat × List Int × List Int × List Int × Unit)
noncomputable def x4 (N : Nat) (β : Type) (x : W64) (kn : W64 → Option β) (ke : W65 → Option β) : Option β :=
 if (x.2.2.2.2.1 < (5:Int)) then
  (a8t (x.2.2.2.2.1, ())).bind fun r2 => (
  (m6 ([(List.take 64 (List.drop 32 x.2.2.2.2.2.2.2.1)), r2], ())).bind fun r3 => (
  (G0 ((4:Int), r3, ())).bind fun r4 => (
  if (r4.2 ≠ (0:Int)) then
   ke (.inl (r4.2, x.2.2.2.2.2.1, ()))
  else
   if 0 ≤ x.2.2.2.2.1 then (
   if x.2.2.2.2.1 < 5 then (
   if ((x.2.2.2.2.1.toNat) * 256) + 256 ≤ 1280 then (
   kn (x.1, x.2.1, x.2.2.1, x.2.2.2.1, (IntKind.i64.wrap (x.2.2.2.2.1 + (1:Int))), x.2.2.2.2.2.1, x.2.2.2.2.2.2.1, x.2.2.2.2.2.2.2.1, (List.take ((x.2.2.2.2.1.toNat) * 256) x.2.2.2.2.2.2.2.2.1 ++ r4.1 ++ List.drop (((x.2.2.2.2.1.toNat) * 256) + 256) x.2.2.2.2.2.2.2.2.1), x.2.2.2.2.2.2.2.2.2.1, ())) else none) else none) else none)))
 else
  ke (.inr (x.1, x.2.1, x.2.2.1, x.2.2.2.1, x.2.2.2.2.2.1, x.2.2.2.2.2.2.1, x.2.2.2.2.2.2.2.1, x.2.2.2.2.2.2.2.2.1, x.2.2.2.2.2.2.2.2.2.1, ()))
noncomputable def b6m : Go' W65 := fun y K => match y with
 | .inl y => K (.pan (.ifi 26 .i64) y.1) (fSt { tmps := V :: V :: .sc (.nilsl) :: .sc (.nilsl) :: .sc (.ptr 0 0 false) :: pv 129 [], mem := [.live [.xs b64 (some 1)] (.own)], dfr := [(12, [.ptr 0 0 false])] } [.xs] y.2)
 | .inr y => K (.exit 0) (fSt { tmps := V :: V :: .sc (.nilsl) :: .sc (.nilsl) :: .sc (.ptr 0 0 false) :: V :: .sc (.sl 1 (some 0) (some 32) none 1) :: .sc (.sl 1 (some 32) (some 64) none 1) :: .sc (.sl 1 (some 96) none none 1) :: .sc (.ptr 2 0 false) :: .sc (.ptr 3 0 false) :: pv 123 [], mem := [.live [.xs b64 (some 1)] (.own), .live [.xs b8 none] (.own), .live [.xs b32 (some 1280)] (.own), .live [.xs b32 (some 1536)] (.own)], dfr := [(12, [.ptr 0 0 false])] } [.nat, .nat, .nat, .nat, .xs, .nat, .xs, .xs, .xs] y)
noncomputable def a8M (N : Nat) : LT := upd (LT.nil) 7 (o6 b77 N (x4 N) b6m)
theorem b6n (N : Nat) : OkAll p_dsa_KeyGen_E a0a N (a8M N) (w9 v6) :=
 d6 (c := d7 7 v6) (OkAll.nil) (by kernel_rfl) (fun x => by kernel_rfl) (fun β x kn ke => by kernel_rfl)
noncomputable def b6i : Shape := mkS { tmps := V :: V :: .sc (.nilsl) :: .sc (.nilsl) :: .sc (.ptr 0 0 false) :: V :: .sc (.sl 1 (some 0) (some 32) none 1) :: .sc (.sl 1 (some 32) (some 64) none 1) :: .sc (.sl 1 (some 96) none none 1) :: .sc (.ptr 2 0 false) :: .sc (.ptr 3 0 false) :: pv 34 (.sc (.int .i64) :: pv 88 []), mem := [.live [.xs b64 (some 1)] (.own), .live [.xs b8 none] (.own), .live [.xs b32 (some 1280)] (.own), .live [.xs b32 (some 1536)] (.own)], dfr := [(12, [.ptr 0 0 false])] } [.nat, .nat, .nat, .nat, .int, .xs, .nat, .xs, .xs, .xs]
abbrev W66 : Type := (Int × List Int × Unit) ⊕ (Nat × Nat × Nat × List Int × Nat × List Int × List Int × List Int × Unit)
noncomputable def u6 (N : Nat) (β : Type) (x : W64) (kn : W64 → Option β) (ke : W66 → Option β) : Option β :=
 if (x.2.2.2.2.1 < (6:Int)) then
  (a8t ((IntKind.i64.wrap ((5:Int) + x.2.2.2.2.1)), ())).bind fun r7 => (
  (m6 ([(List.take 64 (List.drop 32 x.2.2.2.2.2.2.2.1)), r7], ())).bind fun r8 => (
  (G0 ((4:Int), r8, ())).bind fun r9 => (
  if (r9.2 ≠ (0:Int)) then
   ke (.inl (r9.2, x.2.2.2.2.2.1, ()))
  else
   if 0 ≤ x.2.2.2.2.1 then (
   if x.2.2.2.2.1 < 6 then (
   if ((x.2.2.2.2.1.toNat) * 256) + 256 ≤ 1536 then (
   kn (x.1, x.2.1, x.2.2.1, x.2.2.2.1, (IntKind.i64.wrap (x.2.2.2.2.1 + (1:Int))), x.2.2.2.2.2.1, x.2.2.2.2.2.2.1, x.2.2.2.2.2.2.2.1, x.2.2.2.2.2.2.2.2.1, (List.take ((x.2.2.2.2.1.toNat) * 256) x.2.2.2.2.2.2.2.2.2.1 ++ r9.1 ++ List.drop (((x.2.2.2.2.1.toNat) * 256) + 256) x.2.2.2.2.2.2.2.2.2.1), ())) else none) else none) else none)))
 else
  ke (.inr (x.1, x.2.2.1, x.2.2.2.1, x.2.2.2.2.2.1, x.2.2.2.2.2.2.1, x.2.2.2.2.2.2.2.1, x.2.2.2.2.2.2.2.2.1, x.2.2.2.2.2.2.2.2.2.1, ()))
noncomputable def b4z : Go' W66 := fun y K => match y with
 | .inl y => K (.pan (.ifi 26 .i64) y.1) (fSt { tmps := V :: V :: .sc (.nilsl) :: .sc (.nilsl) :: .sc (.ptr 0 0 false) :: pv 129 [], mem := [.live [.xs b64 (some 1)] (.own)], dfr := [(12, [.ptr 0 0 false])] } [.xs] y.2)
 | .inr y => K (.exit 2) (fSt { tmps := V :: V :: .sc (.nilsl) :: .sc (.nilsl) :: .sc (.ptr 0 0 false) :: V :: .sc (.sl 1 (some 0) (some 32) none 1) :: V :: .sc (.sl 1 (some 96) none none 1) :: .sc (.ptr 2 0 false) :: .sc (.ptr 3 0 false) :: pv 123 [], mem := [.live [.xs b64 (some 1)] (.own), .live [.xs b8 none] (.own), .live [.xs b32 (some 1280)] (.own), .live [.xs b32 (some 1536)] (.own)], dfr := [(12, [.ptr 0 0 false])] } [.nat, .nat, .nat, .xs, .nat, .xs, .xs, .xs] y)
noncomputable def a7i (N : Nat) : LT := upd (a8M N) 12 (o6 b6i N (u6 N) b4z)
theorem b4A (N : Nat) : OkAll p_dsa_KeyGen_E a0a N (a7i N) (w9 v6) :=
 d6 (c := d7 12 v6) (b6n N) (by kernel_rfl) (fun x => by kernel_rfl) (fun β x kn ke => by kernel_rfl)
noncomputable def b6j : Shape := mkS { tmps := V :: V :: .sc (.vec 1 none 1) :: .sc (.nilsl) :: .sc (.ptr 0 0 false) :: V :: .sc (.sl 2 (some 0) (some 32) none 1) :: V :: .sc (.sl 2 (some 96) none none 1) :: .sc (.ptr 3 0 false) :: .sc (.ptr 4 0 false) :: V :: V :: .sc (.ptr 5 0 false) :: .sc (.vec 6 none 1) :: pv 53 (.sc (.int .i64) :: pv 65 []), mem := [.live [.xs b64 (some 1)] (.own), .live [.xs b8 none] (.own), .live [.xs b8 none] (.own), .live [.xs b32 (some 1280)] (.own), .live [.xs b32 (some 1536)] (.own), .live [.xs b32 (some 1536)] (.own), .live [.xs b8 none] (.own)], dfr := [(12, [.ptr 0 0 false])] } [.nat, .nat, .nat, .nat, .nat, .int, .xs, .nat, .xs, .nat, .xs, .xs, .xs, .xs, .nat, .xs]
abbrev W67 : Type := Nat × Nat × Nat × Nat × Nat × Int × List Int × Nat × List Int × Nat × List Int × List Int × List Int × List Int × Nat × List Int × Unit
abbrev W68 : Type := (Int × Nat × List Int × Nat × List Int × Unit) ⊕ (Nat × Nat × Nat × Nat × Nat × List Int × Nat × List Int × Nat × List Int × List Int × List Int × Nat × List Int × Unit)
noncomputable def G3 (N : Nat) (β : Type) (x : W67) (kn : W67 → Option β) (ke : W68 → Option β) : Option β :=
 if (x.2.2.2.2.2.1 < (6:Int)) then
  if 0 ≤ x.2.2.2.2.2.1 then (
  if x.2.2.2.2.2.1 < 6 then (
  if ((x.2.2.2.2.2.1.toNat) * 256) + 256 ≤ 1536 then (
  if 0 ≤ x.2.2.2.2.2.1 then (
  if x.2.2.2.2.2.1 < 6 then (
  if ((x.2.2.2.2.2.1.toNat) * 256) + 256 ≤ 1536 then (
  (Q0 ((List.take 256 (List.drop ((x.2.2.2.2.2.1.toNat) * 256) x.2.2.2.2.2.2.2.2.2.2.2.2.2.1)), (List.take 256 (List.drop ((x.2.2.2.2.2.1.toNat) * 256) x.2.2.2.2.2.2.2.2.2.2.2.2.1)), ())).bind fun r16 => (
  (U5 (r16, ())).bind fun r17 => (
  (a2G ((10:Int), r17.1, ())).bind fun r18 => (
  if (r18.2 ≠ (0:Int)) then
   ke (.inl (r18.2, x.1, x.2.2.2.2.2.2.1, x.2.2.2.2.2.2.2.1, x.2.2.2.2.2.2.2.2.1, ()))
  else
   if (x.1 + (List.length r18.1)) * 1 ≤ 140737488355328 then (
   (n9 ((4096:Int), (13:Int), r17.2, ())).bind fun r19 => (
   if (r19.2 ≠ (0:Int)) then
    ke (.inl (r19.2, (x.1 + (List.length r18.1)), x.2.2.2.2.2.2.1, (x.2.2.2.2.2.2.2.1 + (List.length r18.1)), (x.2.2.2.2.2.2.2.2.1 ++ r18.1), ()))
   else
    if (x.2.2.2.2.1 + (List.length r19.1)) * 1 ≤ 140737488355328 then (
    kn ((x.1 + (List.length r18.1)), x.2.1, x.2.2.1, x.2.2.2.1, (x.2.2.2.2.1 + (List.length r19.1)), (IntKind.i64.wrap (x.2.2.2.2.2.1 + (1:Int))), x.2.2.2.2.2.2.1, (x.2.2.2.2.2.2.2.1 + (List.length r18.1)), (x.2.2.2.2.2.2.2.2.1 ++ r18.1), x.2.2.2.2.2.2.2.2.2.1, x.2.2.2.2.2.2.2.2.2.2.1, x.2.2.2.2.2.2.2.2.2.2.2.1, x.2.2.2.2.2.2.2.2.2.2.2.2.1, x.2.2.2.2.2.2.2.2.2.2.2.2.2.1, (x.2.2.2.2.2.2.2.2.2.2.2.2.2.2.1 + (List.length r19.1)), (x.2.2.2.2.2.2.2.2.2.2.2.2.2.2.2.1 ++ r19.1), ())) else none)) else none)))) else none) else none) else none) else none) else none) else none
 else
  ke (.inr (x.1, x.2.1, x.2.2.1, x.2.2.2.1, x.2.2.2.2.1, x.2.2.2.2.2.2.1, x.2.2.2.2.2.2.2.1, x.2.2.2.2.2.2.2.2.1, x.2.2.2.2.2.2.2.2.2.1, x.2.2.2.2.2.2.2.2.2.2.1, x.2.2.2.2.2.2.2.2.2.2.2.1, x.2.2.2.2.2.2.2.2.2.2.2.2.1, x.2.2.2.2.2.2.2.2.2.2.2.2.2.2.1, x.2.2.2.2.2.2.2.2.2.2.2.2.2.2.2.1, ()))
noncomputable def b4B : Go' W68 := fun y K => match y with
 | .inl y => K (.pan (.ifi 26 .i64) y.1) (fSt { tmps := V :: V :: .sc (.vec 1 none 1) :: .sc (.nilsl) :: .sc (.ptr 0 0 false) :: pv 129 [], mem := [.live [.xs b64 (some 1)] (.own), .live [.xs b8 none] (.own)], dfr := [(12, [.ptr 0 0 false])] } [.nat, .xs, .nat, .xs] y.2)
 | .inr y => K (.exit 4) (fSt { tmps := V :: V :: .sc (.vec 1 none 1) :: .sc (.nilsl) :: .sc (.ptr 0 0 false) :: V :: .sc (.sl 2 (some 0) (some 32) none 1) :: V :: .sc (.sl 2 (some 96) none none 1) :: .sc (.ptr 3 0 false) :: .sc (.ptr 4 0 false) :: pv 3 (.sc (.vec 5 none 1) :: pv 119 []), mem := [.live [.xs b64 (some 1)] (.own), .live [.xs b8 none] (.own), .live [.xs b8 none] (.own), .live [.xs b32 (some 1280)] (.own), .live [.xs b32 (some 1536)] (.own), .live [.xs b8 none] (.own)], dfr := [(12, [.ptr 0 0 false])] } [.nat, .nat, .nat, .nat, .nat, .xs, .nat, .xs, .nat, .xs, .xs, .xs, .nat, .xs] y)
noncomputable def a7j (N : Nat) : LT := upd (a7i N) 20 (o6 b6j N (G3 N) b4B)
theorem b4C (N : Nat) : OkAll p_dsa_KeyGen_E a0a N (a7j N) (w9 v6) :=
 d6 (c := d7 20 v6) (b4A N) (by kernel_rfl) (fun x => by kernel_rfl) (fun β x kn ke => by kernel_rfl)
noncomputable def b6k : Shape := mkS { tmps := V :: V :: .sc (.vec 1 none 1) :: .sc (.vec 2 none 1) :: .sc (.ptr 0 0 false) :: pv 4 (.sc (.ptr 3 0 false) :: .sc (.ptr 4 0 false) :: pv 3 (.sc (.vec 5 none 1) :: pv 89 (.sc (.int .i64) :: pv 29 []))), mem := [.live [.xs b64 (some 1)] (.own), .live [.xs b8 none] (.own), .live [.xs b8 none] (.own), .live [.xs b32 (some 1280)] (.own), .live [.xs b32 (some 1536)] (.own), .live [.xs b8 none] (.own)], dfr := [(12, [.ptr 0 0 false])] } [.nat, .nat, .nat, .int, .xs, .nat, .xs, .nat, .xs, .xs, .xs, .nat, .xs]
abbrev W69 : Type := Nat × Nat × Nat × Int × List Int × Nat × List Int × Nat × List Int × List Int × List Int × Nat × List Int × Unit
abbrev W70 : Type := (Int × Nat × Nat × List Int × Nat × List Int × Nat × List Int × Unit) ⊕ (Nat × Nat × Nat × List Int × Nat × List Int × Nat × List Int × List Int × Nat × List Int × Unit)
noncomputable def G4 (N : Nat) (β : Type) (x : W69) (kn : W69 → Option β) (ke : W70 → Option β) : Option β :=
 if (x.2.2.2.1 < (5:Int)) then
  if 0 ≤ x.2.2.2.1 then (
  if x.2.2.2.1 < 5 then (
  if ((x.2.2.2.1.toNat) * 256) + 256 ≤ 1280 then (
  (n9 ((4:Int), (4:Int), (List.take 256 (List.drop ((x.2.2.2.1.toNat) * 256) x.2.2.2.2.2.2.2.2.2.1)), ())).bind fun r24 => (
  if (r24.2 ≠ (0:Int)) then
   ke (.inl (r24.2, x.1, x.2.1, x.2.2.2.2.1, x.2.2.2.2.2.1, x.2.2.2.2.2.2.1, x.2.2.2.2.2.2.2.1, x.2.2.2.2.2.2.2.2.1, ()))
  else
   if (x.2.1 + (List.length r24.1)) * 1 ≤ 140737488355328 then (
   kn (x.1, (x.2.1 + (List.length r24.1)), x.2.2.1, (IntKind.i64.wrap (x.2.2.2.1 + (1:Int))), x.2.2.2.2.1, x.2.2.2.2.2.1, x.2.2.2.2.2.2.1, (x.2.2.2.2.2.2.2.1 + (List.length r24.1)), (x.2.2.2.2.2.2.2.2.1 ++ r24.1), x.2.2.2.2.2.2.2.2.2.1, x.2.2.2.2.2.2.2.2.2.2.1, x.2.2.2.2.2.2.2.2.2.2.2.1, x.2.2.2.2.2.2.2.2.2.2.2.2.1, ())) else none)) else none) else none) else none
 else
  ke (.inr (x.1, x.2.1, x.2.2.1, x.2.2.2.2.1, x.2.2.2.2.2.1, x.2.2.2.2.2.2.1, x.2.2.2.2.2.2.2.1, x.2.2.2.2.2.2.2.2.1, x.2.2.2.2.2.2.2.2.2.2.1, x.2.2.2.2.2.2.2.2.2.2.2.1, x.2.2.2.2.2.2.2.2.2.2.2.2.1, ()))
noncomputable def b4D : Go' W70 := fun y K => match y with
 | .inl y => K (.pan (.ifi 26 .i64) y.1) (fSt { tmps := V :: V :: .sc (.vec 1 none 1) :: .sc (.vec 2 none 1) :: .sc (.ptr 0 0 false) :: pv 129 [], mem := [.live [.xs b64 (some 1)] (.own), .live [.xs b8 none] (.own), .live [.xs b8 none] (.own)], dfr := [(12, [.ptr 0 0 false])] } [.nat, .nat, .xs, .nat, .xs, .nat, .xs] y.2)
 | .inr y => K (.exit 6) (fSt { tmps := V :: V :: .sc (.vec 1 none 1) :: .sc (.vec 2 none 1) :: .sc (.ptr 0 0 false) :: pv 5 (.sc (.ptr 3 0 false) :: pv 3 (.sc (.vec 4 none 1) :: pv 119 [])), mem := [.live [.xs b64 (some 1)] (.own), .live [.xs b8 none] (.own), .live [.xs b8 none] (.own), .live [.xs b32 (some 1536)] (.own), .live [.xs b8 none] (.own)], dfr := [(12, [.ptr 0 0 false])] } [.nat, .nat, .nat, .xs, .nat, .xs, .nat, .xs, .xs, .nat, .xs] y)
noncomputable def a7k (N : Nat) : LT := upd (a7j N) 28 (o6 b6k N (G4 N) b4D)
theorem b4E (N : Nat) : OkAll p_dsa_KeyGen_E a0a N (a7k N) (w9 v6) :=
 d6 (c := d7 28 v6) (b4C N) (by kernel_rfl) (fun x => by kernel_rfl) (fun β x kn ke => by kernel_rfl)
noncomputable def b6l : Shape := mkS { tmps := V :: V :: .sc (.vec 1 none 1) :: .sc (.vec 2 none 1) :: .sc (.ptr 0 0 false) :: pv 5 (.sc (.ptr 3 0 false) :: pv 3 (.sc (.vec 4 none 1) :: pv 102 (.sc (.int .i64) :: pv 16 []))), mem := [.live [.xs b64 (some 1)] (.own), .live [.xs b8 none] (.own), .live [.xs b8 none] (.own), .live [.xs b32 (some 1536)] (.own), .live [.xs b8 none] (.own)], dfr := [(12, [.ptr 0 0 false])] } [.nat, .nat, .nat, .int, .xs, .nat, .xs, .nat, .xs, .xs, .nat, .xs]
abbrev W71 : Type := Nat × Nat × Nat × Int × List Int × Nat × List Int × Nat × List Int × List Int × Nat × List Int × Unit
abbrev W72 : Type := (Int × Nat × Nat × List Int × Nat × List Int × Nat × List Int × Unit) ⊕ (Nat × Nat × Nat × List Int × Nat × List Int × Nat × List Int × Nat × List Int × Unit)
noncomputable def G5 (N : Nat) (β : Type) (x : W71) (kn : W71 → Option β) (ke : W72 → Option β) : Option β :=
 if (x.2.2.2.1 < (6:Int)) then
  if 0 ≤ x.2.2.2.1 then (
  if x.2.2.2.1 < 6 then (
  if ((x.2.2.2.1.toNat) * 256) + 256 ≤ 1536 then (
  (n9 ((4:Int), (4:Int), (List.take 256 (List.drop ((x.2.2.2.1.toNat) * 256) x.2.2.2.2.2.2.2.2.2.1)), ())).bind fun r27 => (
  if (r27.2 ≠ (0:Int)) then
   ke (.inl (r27.2, x.1, x.2.1, x.2.2.2.2.1, x.2.2.2.2.2.1, x.2.2.2.2.2.2.1, x.2.2.2.2.2.2.2.1, x.2.2.2.2.2.2.2.2.1, ()))
  else
   if (x.2.1 + (List.length r27.1)) * 1 ≤ 140737488355328 then (
   kn (x.1, (x.2.1 + (List.length r27.1)), x.2.2.1, (IntKind.i64.wrap (x.2.2.2.1 + (1:Int))), x.2.2.2.2.1, x.2.2.2.2.2.1, x.2.2.2.2.2.2.1, (x.2.2.2.2.2.2.2.1 + (List.length r27.1)), (x.2.2.2.2.2.2.2.2.1 ++ r27.1), x.2.2.2.2.2.2.2.2.2.1, x.2.2.2.2.2.2.2.2.2.2.1, x.2.2.2.2.2.2.2.2.2.2.2.1, ())) else none)) else none) else none) else none
 else
  ke (.inr (x.1, x.2.1, x.2.2.1, x.2.2.2.2.1, x.2.2.2.2.2.1, x.2.2.2.2.2.2.1, x.2.2.2.2.2.2.2.1, x.2.2.2.2.2.2.2.2.1, x.2.2.2.2.2.2.2.2.2.2.1, x.2.2.2.2.2.2.2.2.2.2.2.1, ()))
noncomputable def b4F : Go' W72 := fun y K => match y with
 | .inl y => K (.pan (.ifi 26 .i64) y.1) (fSt { tmps := V :: V :: .sc (.vec 1 none 1) :: .sc (.vec 2 none 1) :: .sc (.ptr 0 0 false) :: pv 129 [], mem := [.live [.xs b64 (some 1)] (.own), .live [.xs b8 none] (.own), .live [.xs b8 none] (.own)], dfr := [(12, [.ptr 0 0 false])] } [.nat, .nat, .xs, .nat, .xs, .nat, .xs] y.2)
 | .inr y => K (.exit 8) (fSt { tmps := V :: V :: .sc (.vec 1 none 1) :: .sc (.vec 2 none 1) :: .sc (.ptr 0 0 false) :: pv 9 (.sc (.vec 3 none 1) :: pv 119 []), mem := [.live [.xs b64 (some 1)] (.own), .live [.xs b8 none] (.own), .live [.xs b8 none] (.own), .live [.xs b8 none] (.own)], dfr := [(12, [.ptr 0 0 false])] } [.nat, .nat, .nat, .xs, .nat, .xs, .nat, .xs, .nat, .xs] y)
noncomputable def a7l (N : Nat) : LT := upd (a7k N) 33 (o6 b6l N (G5 N) b4F)
theorem b4G (N : Nat) : OkAll p_dsa_KeyGen_E a0a N (a7l N) (w9 v6) :=
 d6 (c := d7 33 v6) (b4E N) (by kernel_rfl) (fun x => by kernel_rfl) (fun β x kn ke => by kernel_rfl)
abbrev a0O : List Kd := [.xs b8 32]
abbrev a0P : List Kd := [.sl b8, .sl b8, .int .i64]
noncomputable def a4W (N : Nat) (x : List Int × Unit) : Option (List Int × List Int × Int) :=
 (J2 ((128:Int), [(List.take 32 (List.drop 0 x.1)), (List.set (List.set (List.replicate 2 0) 0 (6:Int)) 1 (5:Int))], ())).bind fun r1 => (
 if 32 ≤ (List.length r1) then (
 if 96 ≤ (List.length r1) then (
 if 32 ≤ 96 then (
 if 96 ≤ (List.length r1) then (
 m7 (x4 N) N ((List.length r1), ((List.length r1) - 32), ((List.length r1) - 96), ((List.length r1) - 96), (0:Int), [0], (List.length r1), r1, (List.replicate 1280 0), (List.replicate 1536 0), ()) fun y => (match y with
 | .inl y5 => (
  some ([], [], (List.getD (List.set y5.2.1 0 y5.1) 0 0)))
 | .inr y6 => (
  m7 (u6 N) N (y6.1, y6.2.1, y6.2.2.1, y6.2.2.2.1, (0:Int), y6.2.2.2.2.1, y6.2.2.2.2.2.1, y6.2.2.2.2.2.2.1, y6.2.2.2.2.2.2.2.1, y6.2.2.2.2.2.2.2.2.1, ()) fun y => (match y with
  | .inl y10 => (
   some ([], [], (List.getD (List.set y10.2.1 0 y10.1) 0 0)))
  | .inr y11 => (
   (N6 ((List.take 32 (List.drop 0 y11.2.2.2.2.2.1)), ())).bind fun r12 => (
   if r12.1 = true then
    some ([], [], (List.getD (List.set y11.2.2.2.1 0 r12.2.1) 0 0))
   else
    (xg (N6 ((List.take 32 (List.drop 0 y11.2.2.2.2.2.1)), ()))).bind fun r13 => (
    (N7 (r13.1, y11.2.2.2.2.2.2.1, ())).bind fun r14 => (
    (m6 ([(List.take 32 (List.drop 0 y11.2.2.2.2.2.1))], ())).bind fun r15 => (
    m7 (G3 N) N ((List.length r15), y11.1, y11.2.1, y11.2.2.1, 0, (0:Int), y11.2.2.2.1, (List.length r15), r15, y11.2.2.2.2.1, y11.2.2.2.2.2.1, y11.2.2.2.2.2.2.1, y11.2.2.2.2.2.2.2.1, r14, 0, [], ()) fun y => (match y with
    | .inl y20 => (
     some (y20.2.2.2.2.1, [], (List.getD (List.set y20.2.2.1 0 y20.1) 0 0)))
    | .inr y21 => (
     (J2 ((64:Int), [y21.2.2.2.2.2.2.2.1], ())).bind fun r22 => (
     (m6 ([(List.take 32 (List.drop 0 y21.2.2.2.2.2.2.2.2.2.1)), (List.take y21.2.2.1 (List.drop 96 y21.2.2.2.2.2.2.2.2.2.1)), r22], ())).bind fun r23 => (
     m7 (G4 N) N (y21.1, (List.length r23), y21.2.2.2.2.1, (0:Int), y21.2.2.2.2.2.1, y21.2.2.2.2.2.2.1, y21.2.2.2.2.2.2.2.1, (List.length r23), r23, y21.2.2.2.2.2.2.2.2.2.2.1, y21.2.2.2.2.2.2.2.2.2.2.2.1, y21.2.2.2.2.2.2.2.2.2.2.2.2.1, y21.2.2.2.2.2.2.2.2.2.2.2.2.2.1, ()) fun y => (match y with
     | .inl y25 => (
      some (y25.2.2.2.2.2.1, y25.2.2.2.2.2.2.2.1, (List.getD (List.set y25.2.2.2.1 0 y25.1) 0 0)))
     | .inr y26 => (
      m7 (G5 N) N (y26.1, y26.2.1, y26.2.2.1, (0:Int), y26.2.2.2.1, y26.2.2.2.2.1, y26.2.2.2.2.2.1, y26.2.2.2.2.2.2.1, y26.2.2.2.2.2.2.2.1, y26.2.2.2.2.2.2.2.2.1, y26.2.2.2.2.2.2.2.2.2.1, y26.2.2.2.2.2.2.2.2.2.2.1, ()) fun y => (match y with
      | .inl y28 => (
       some (y28.2.2.2.2.2.1, y28.2.2.2.2.2.2.2.1, (List.getD (List.set y28.2.2.2.1 0 y28.1) 0 0)))
      | .inr y29 => (
       if (y29.2.1 + y29.2.2.1) * 1 ≤ 140737488355328 then (
       some (y29.2.2.2.2.2.1, (y29.2.2.2.2.2.2.2.1 ++ y29.2.2.2.2.2.2.2.2.2.1), (List.getD (List.set y29.2.2.2.1 0 (0:Int)) 0 0))) else none))))))))))))))))) else none) else none) else none) else none)
theorem b9E (e0 : c8 Try.prog 13 R1) (e1 : c8 Try.prog 17 b09) (e2 : c8 Try.prog 16 N3) (e3 : c8 Try.prog 15 a2V) (e4 : c8 Try.prog 19 N2) (e5 : c8 Try.prog 21 U0) (e6 : c8 Try.prog 20 a2o) (e7 : c8 Try.prog 23 a4D) (e8 : c8 Try.prog 24 X0) (e9 : XOk Try.prog 18 a0q) : p_dsa_KeyGen_E.Ok Try.prog := AE.ofA_ok (all_cons T9 (all_cons c40 (all_cons E0 (all_cons c2j (all_cons a2D (all_cons q8 (all_cons b5h (all_cons b5i c6)))))))) (all_cons ⟨e0, a0v⟩ (all_cons ⟨e1, b3I⟩ (all_cons ⟨e2, a04⟩ (all_cons ⟨e3, a9j⟩ (all_cons ⟨e4, a2Y⟩ (all_cons ⟨e5, a1Z⟩ (all_cons ⟨e6, a8k⟩ (all_cons ⟨e7, a8j⟩ (all_cons ⟨e8, a4I⟩ c6))))))))) (all_cons ⟨e9, a32⟩ c6) (all_cons ⟨a3X, a31⟩ c6) c6 (all_cons ⟨O0, A4⟩ (all_cons ⟨a2K, Z4⟩ c6)) c6 c6 c6 c6
theorem c1E (hE : p_dsa_KeyGen_E.Ok Try.prog) {g : Ds a0O → Option (Rs a0P)} (hg : ∀ x r, g x = some r → ∃ N, a4W N x = some r) : c8 Try.prog 8 ⟨a0O, a0P, g⟩ :=
 i5 (E := p_dsa_KeyGen_E) (H := a0a) (L := fun N => a7l N) (c := v6) (ks := a0O) (rs := a0P) (F := a4W) hE mix Try.func8 (by kernel_rfl) (fun N => b4G N) (fun _ _ => by kernel_rfl) hg
noncomputable abbrev a53 : Sig := ⟨[.sl b8, .sl b8, .sl b8], [.sl b8], a2t⟩
noncomputable abbrev b7e : XSig := ⟨[.asl b8], [.cat [.fs b8, .fs b8, .fs b8, .xs b32 1280, .xs b32 1536, .xs b32 1536]], (.ifi 26 .i64), b2D⟩
noncomputable abbrev a45 : XSig := ⟨[.rp (.ct [.fs b8, .fs b8, .fs b8, .xs b32 1280, .xs b32 1536, .xs b32 1536]), .rp (.xs b32 7680), .sl b8, .sl b8, .int .i64], [.sl b8, .bool], (.ifi 26 .i64), X7⟩
noncomputable def p_dsa_Sign_E : AE := AE.ofA [(5, ty5), (22, ty22), (23, ty23), (26, ty26), (35, ty35), (60, ty60)] [(26, a53), (13, R1)] [(25, b7e), (18, a0q), (27, a45)] [(12, a4o)] [] [] [] [] [] [] [] []
noncomputable def b8Q : Hints := [(11, [4, 10, 11, 12, 13, 14, 15, 16]), (2000000, [10, 11]), (2000001, [4, 10, 11, 12, 13, 14, 15, 16]), (3000000, [10, 11]), (5000000, [10, 11])]
noncomputable def b1N : Code := (Try.f9).body.getD .skip
noncomputable def b9F : Shape := mkS { tmps := pv 4 (.sc (.int .i64) :: pv 5 (.sc (.nilsl) :: .sc (.ptr 0 0 false) :: .sc (.ptr 1 0 false) :: .sc (.vec 2 none 1) :: .sc (.vec 3 none 1) :: .sc (.ptr 4 0 false) :: .sc (.int .i64) :: pv 39 [])), mem := [.live [.xs b64 (some 1)] (.own), .live [.one (.fr b8), .one (.fr b8), .one (.fr b8), .xs b32 (some 1280), .xs b32 (some 1536), .xs b32 (some 1536)] (.own), .live [.xs b8 none] (.own), .live [.xs b8 none] (.own), .live [.xs b32 (some 7680)] (.own)], dfr := [(12, [.ptr 0 0 false])] } [.int, .nat, .nat, .int, .xs, .xs, .xs, .xs, .xs, .xs, .xs, .nat, .xs, .nat, .xs, .xs]
abbrev W73 : Type := Int × Nat × Nat × Int × List Int × List Int × List Int × List Int × List Int × List Int × List Int × Nat × List Int × Nat × List Int × List Int × Unit
abbrev W74 : Type := (Int × List Int × Unit) ⊕ ((Nat × List Int × Nat × List Int × Unit) ⊕ (List Int × Unit))
noncomputable def Y7 (N : Nat) (β : Type) (x : W73) (kn : W73 → Option β) (ke : W74 → Option β) : Option β :=
 if (x.2.2.2.1 < x.1) then
  (X7 ((x.2.2.2.2.2.1, x.2.2.2.2.2.2.1, x.2.2.2.2.2.2.2.1, x.2.2.2.2.2.2.2.2.1, x.2.2.2.2.2.2.2.2.2.1, x.2.2.2.2.2.2.2.2.2.2.1, ()), x.2.2.2.2.2.2.2.2.2.2.2.2.2.2.2.1, x.2.2.2.2.2.2.2.2.2.2.2.2.1, x.2.2.2.2.2.2.2.2.2.2.2.2.2.2.1, x.2.2.2.1, ())).bind fun r5 => (
  if r5.1 = true then
   ke (.inl (r5.2.1, x.2.2.2.2.1, ()))
  else
   if (¬ (r5.2.2.2 = true)) then
    kn (x.1, x.2.1, x.2.2.1, (IntKind.i64.wrap (x.2.2.2.1 + (1:Int))), x.2.2.2.2.1, x.2.2.2.2.2.1, x.2.2.2.2.2.2.1, x.2.2.2.2.2.2.2.1, x.2.2.2.2.2.2.2.2.1, x.2.2.2.2.2.2.2.2.2.1, x.2.2.2.2.2.2.2.2.2.2.1, x.2.2.2.2.2.2.2.2.2.2.2.1, x.2.2.2.2.2.2.2.2.2.2.2.2.1, x.2.2.2.2.2.2.2.2.2.2.2.2.2.1, x.2.2.2.2.2.2.2.2.2.2.2.2.2.2.1, x.2.2.2.2.2.2.2.2.2.2.2.2.2.2.2.1, ())
   else
    ke (.inr (.inl ((List.length r5.2.2.1), (List.set x.2.2.2.2.1 0 (0:Int)), (List.length r5.2.2.1), r5.2.2.1, ()))))
 else
  ke (.inr (.inr (x.2.2.2.2.1, ())))
noncomputable def b78 : Go' W74 := fun y K => match y with
 | .inl y => K (.pan (.ifi 26 .i64) y.1) (fSt { tmps := pv 10 (.sc (.nilsl) :: .sc (.ptr 0 0 false) :: pv 44 []), mem := [.live [.xs b64 (some 1)] (.own)], dfr := [(12, [.ptr 0 0 false])] } [.xs] y.2)
 | .inr (.inl y) => K .ret (fSt { tmps := pv 10 (.sc (.vec 1 none 1) :: .sc (.ptr 0 0 false) :: pv 44 []), mem := [.live [.xs b64 (some 1)] (.own), .live [.xs b8 none] (.own)], dfr := [(12, [.ptr 0 0 false])] } [.nat, .xs, .nat, .xs] y)
 | .inr (.inr y) => K (.exit 0) (fSt { tmps := pv 10 (.sc (.nilsl) :: .sc (.ptr 0 0 false) :: pv 44 []), mem := [.live [.xs b64 (some 1)] (.own)], dfr := [(12, [.ptr 0 0 false])] } [.xs] y)
noncomputable def b0p (N : Nat) : LT := upd (LT.nil) 11 (o6 b9F N (Y7 N) b78)
theorem b79 (N : Nat) : OkAll p_dsa_Sign_E b8Q N (b0p N) (w9 b1N) :=
 d6 (c := d7 11 b1N) (OkAll.nil) (by kernel_rfl) (fun x => by kernel_rfl) (fun β x kn ke => by kernel_rfl)
abbrev a3n : List Kd := [.fsl b8, .sl b8, .sl b8, .xs b8 32, .int .i64]
abbrev a3o : List Kd := [.sl b8, .int .i64]
noncomputable def a8N (N : Nat) (x : List Int × List Int × List Int × List Int × Int × Unit) : Option (List Int × Int) :=
 (b2D (x.1, ())).bind fun r1 => (
 if r1.1 = true then
  some ([], (List.getD (List.set [0] 0 r1.2.1) 0 0))
 else
  if ((((List.length x.2.2.1) : Nat) : Int) > (255:Int)) then
   some ([], (List.getD (List.set [0] 0 (3:Int)) 0 0))
  else
   if (x.2.2.2.2.1 < (1:Int)) then
    some ([], (List.getD (List.set [0] 0 (1:Int)) 0 0))
   else
    (a2t (r1.2.2.2.2.1, x.2.1, x.2.2.1, ())).bind fun r2 => (
    (J2 ((64:Int), [r1.2.2.2.1, (List.take 32 (List.drop 0 x.2.2.2.1)), r2], ())).bind fun r3 => (
    (N6 (r1.2.2.1, ())).bind fun r4 => (
    if r4.1 = true then
     some ([], (List.getD (List.set [0] 0 r4.2.1) 0 0))
    else
     m7 (Y7 N) N (x.2.2.2.2.1, (List.length r2), (List.length r3), (0:Int), [0], r1.2.2.1, r1.2.2.2.1, r1.2.2.2.2.1, r1.2.2.2.2.2.1, r1.2.2.2.2.2.2.1, r1.2.2.2.2.2.2.2.1, (List.length r2), r2, (List.length r3), r3, r4.2.2.1, ()) fun y => (match y with
     | .inl y6 => (
      some ([], (List.getD (List.set y6.2.1 0 y6.1) 0 0)))
     | .inr (.inl y7) => (
      some (y7.2.2.2.1, (List.getD y7.2.1 0 0)))
     | .inr (.inr y8) => (
      some ([], (List.getD (List.set y8.1 0 (162:Int)) 0 0))))))))
theorem c2G (e0 : c8 Try.prog 26 a53) (e1 : c8 Try.prog 13 R1) (e2 : XOk Try.prog 25 b7e) (e3 : XOk Try.prog 18 a0q) (e4 : XOk Try.prog 27 a45) : p_dsa_Sign_E.Ok Try.prog := AE.ofA_ok (all_cons T9 (all_cons c40 (all_cons E0 (all_cons c2j (all_cons a2D (all_cons c8v c6)))))) (all_cons ⟨e0, b0f⟩ (all_cons ⟨e1, a0v⟩ c6)) (all_cons ⟨e2, c0R⟩ (all_cons ⟨e3, a32⟩ (all_cons ⟨e4, b1p⟩ c6))) (all_cons ⟨a3X, a31⟩ c6) c6 c6 c6 c6 c6 c6
theorem c4p (hE : p_dsa_Sign_E.Ok Try.prog) {g : Ds a3n → Option (Rs a3o)} (hg : ∀ x r, g x = some r → ∃ N, a8N N x = some r) : c8 Try.prog 9 ⟨a3n, a3o, g⟩ :=
 i5 (E := p_dsa_Sign_E) (H := b8Q) (L := fun N => b0p N) (c := b1N) (ks := a3n) (rs := a3o) (F := a8N) hE mix Try.func9 (by kernel_rfl) (fun N => b79 N) (fun _ _ => by kernel_rfl) hg
noncomputable abbrev a2p : Sig := ⟨[.int .i64, .int .i64, .sl b8], [.sla .bool 256, .int .i64], J8⟩
noncomputable abbrev a51 : Sig := ⟨[.xs .bool 256, .xs b32 256], [.xs b32 256], a0y⟩
noncomputable abbrev b1b : Sig := ⟨[.sl b8, .sl b8], [.bool], a66⟩
noncomputable def p_dsa_Verify_E : AE := AE.ofA [(21, ty21), (23, ty23), (26, ty26), (35, ty35), (40, ty40), (42, ty42), (44, ty44), (69, ty69), (76, ty76)] [(13, R1), (26, a53), (29, o4), (30, a0o), (31, a2p), (33, a4C), (32, a2n), (34, J6), (35, a1y), (38, P8), (37, a50), (36, a2m), (39, a51), (41, a0p), (40, b1b)] [(18, a0q)] [(12, a4o)] [] [(14, a08), (22, a6e), (28, c02)] [] [] [] [] [] []
noncomputable def a4w : Hints := [(12, [4, 7, 8, 9, 10, 11, 39]), (26, [4, 8, 9, 10, 13, 15, 17, 18, 73]), (30, [4, 8, 9, 10, 13, 15, 17, 18, 19, 20, 73, 81]), (2000000, [4, 7, 8, 9, 10, 11]), (2000001, [4, 7, 8, 9, 10, 11, 39]), (2000002, [8, 9, 10, 18]), (2000003, [4, 8, 9, 10, 13, 15, 17, 18, 73]), (2000004, [4, 8, 9, 10, 13, 15, 17, 18, 19, 20, 73]), (2000005, [4, 8, 9, 10, 13, 15, 17, 18, 19, 20, 73, 81]), (3000000, [8]), (5000000, [8])]
noncomputable def Q5 : Code := (Try.f10).body.getD .skip
noncomputable def b6o : Shape := mkS { tmps := pv 4 (.sc (.ptr 1 0 false) :: V :: V :: .sc (.ptr 2 0 false) :: .sc (.ptr 0 0 false) :: .sc (.vec 3 none 1) :: .sc (.sl 4 (some 0) (some 48) none 1) :: .sc (.ptr 5 0 false) :: pv 27 (.sc (.int .i64) :: pv 74 [])), mem := [.live [.xs b64 (some 1)] (.own), .live [.one (.vec 6 none 1)] (.own), .live [.one (.sl 4 none none none 1)] (.own), .live [.xs b8 none] (.own), .live [.xs b8 none] (.ro), .live [.xs b32 (some 1280)] (.own), .live [.xs b8 none] (.ro)], dfr := [(12, [.ptr 0 0 false])] } [.nat, .nat, .int, .xs, .nat, .nat, .nat, .nat, .nat, .xs, .nat, .xs, .xs, .nat, .xs]
abbrev W75 : Type := Nat × Nat × Int × List Int × Nat × Nat × Nat × Nat × Nat × List Int × Nat × List Int × List Int × Nat × List Int × Unit
abbrev W76 : Type := (Int × List Int × Unit) ⊕ ((List Int × Unit) ⊕ (Nat × Nat × List Int × Nat × Nat × Nat × Nat × Nat × List Int × Nat × List Int × List Int × Nat × List Int × Unit))
noncomputable def u7 (N : Nat) (β : Type) (x : W75) (kn : W75 → Option β) (ke : W76 → Option β) : Option β :=
 if (x.2.2.1 < (5:Int)) then
  if 0 ≤ (640:Int) then (
  if (640:Int) ≤ ((x.2.2.2.2.2.2.1 : Nat) : Int) then (
  if 0 ≤ (640:Int) then (
  if (640:Int) ≤ ((x.2.2.2.2.2.2.1 : Nat) : Int) then (
  (j4 ((524288:Int), (20:Int), (List.take 640 (List.drop (c2m x.2.2.2.2.2.1 0) x.2.2.2.2.2.2.2.2.2.2.2.1)), ())).bind fun r3 => (
  if (r3.2 ≠ (0:Int)) then
   ke (.inl (r3.2, x.2.2.2.1, ()))
  else
   if 0 ≤ x.2.2.1 then (
   if x.2.2.1 < 5 then (
   if ((x.2.2.1.toNat) * 256) + 256 ≤ 1280 then (
   if 0 ≤ x.2.2.1 then (
   if x.2.2.1 < 5 then (
   if ((x.2.2.1.toNat) * 256) + 256 ≤ 1280 then (
   (T4 ((List.take 256 (List.drop ((x.2.2.1.toNat) * 256) (List.take ((x.2.2.1.toNat) * 256) x.2.2.2.2.2.2.2.2.2.2.2.2.1 ++ r3.1 ++ List.drop (((x.2.2.1.toNat) * 256) + 256) x.2.2.2.2.2.2.2.2.2.2.2.2.1))), ())).bind fun r4 => (
   if (r4 ≥ (524092:Int)) then
    ke (.inr (.inl ((List.set x.2.2.2.1 0 (70:Int)), ())))
   else
    kn (x.1, x.2.1, (IntKind.i64.wrap (x.2.2.1 + (1:Int))), x.2.2.2.1, x.2.2.2.2.1, (c2m x.2.2.2.2.2.1 640), (x.2.2.2.2.2.2.1 - 640), (x.2.2.2.2.2.2.2.1 - 640), x.2.2.2.2.2.2.2.2.1, x.2.2.2.2.2.2.2.2.2.1, x.2.2.2.2.2.2.2.2.2.2.1, x.2.2.2.2.2.2.2.2.2.2.2.1, (List.take ((x.2.2.1.toNat) * 256) x.2.2.2.2.2.2.2.2.2.2.2.2.1 ++ r3.1 ++ List.drop (((x.2.2.1.toNat) * 256) + 256) x.2.2.2.2.2.2.2.2.2.2.2.2.1), x.2.2.2.2.2.2.2.2.2.2.2.2.2.1, x.2.2.2.2.2.2.2.2.2.2.2.2.2.2.1, ()))) else none) else none) else none) else none) else none) else none)) else none) else none) else none) else none
 else
  ke (.inr (.inr (x.1, x.2.1, x.2.2.2.1, x.2.2.2.2.1, x.2.2.2.2.2.1, x.2.2.2.2.2.2.1, x.2.2.2.2.2.2.2.1, x.2.2.2.2.2.2.2.2.1, x.2.2.2.2.2.2.2.2.2.1, x.2.2.2.2.2.2.2.2.2.2.1, x.2.2.2.2.2.2.2.2.2.2.2.1, x.2.2.2.2.2.2.2.2.2.2.2.2.1, x.2.2.2.2.2.2.2.2.2.2.2.2.2.1, x.2.2.2.2.2.2.2.2.2.2.2.2.2.2.1, ())))
noncomputable def b4H : Go' W76 := fun y K => match y with
 | .inl y => K (.pan (.ifi 26 .i64) y.1) (fSt { tmps := pv 8 (.sc (.ptr 0 0 false) :: pv 105 []), mem := [.live [.xs b64 (some 1)] (.own)], dfr := [(12, [.ptr 0 0 false])] } [.xs] y.2)
 | .inr (.inl y) => K .ret (fSt { tmps := pv 8 (.sc (.ptr 0 0 false) :: pv 105 []), mem := [.live [.xs b64 (some 1)] (.own)], dfr := [(12, [.ptr 0 0 false])] } [.xs] y)
 | .inr (.inr y) => K (.exit 0) (fSt { tmps := pv 4 (.sc (.ptr 1 0 false) :: V :: V :: .sc (.ptr 2 0 false) :: .sc (.ptr 0 0 false) :: .sc (.vec 3 none 1) :: .sc (.sl 4 (some 0) (some 48) none 1) :: .sc (.ptr 5 0 false) :: pv 102 []), mem := [.live [.xs b64 (some 1)] (.own), .live [.one (.vec 6 none 1)] (.own), .live [.one (.sl 4 none none none 1)] (.own), .live [.xs b8 none] (.own), .live [.xs b8 none] (.ro), .live [.xs b32 (some 1280)] (.own), .live [.xs b8 none] (.ro)], dfr := [(12, [.ptr 0 0 false])] } [.nat, .nat, .xs, .nat, .nat, .nat, .nat, .nat, .xs, .nat, .xs, .xs, .nat, .xs] y)
noncomputable def a7m (N : Nat) : LT := upd (LT.nil) 12 (o6 b6o N (u7 N) b4H)
theorem b4I (N : Nat) : OkAll p_dsa_Verify_E a4w N (a7m N) (w9 Q5) :=
 d6 (c := d7 12 Q5) (OkAll.nil) (by kernel_rfl) (fun x => by kernel_rfl) (fun β x kn ke => by kernel_rfl)
noncomputable def b6q : Shape := mkS { tmps := pv 4 (.sc (.ptr 1 0 false) :: pv 3 (.sc (.ptr 0 0 false) :: .sc (.vec 2 none 1) :: .sc (.sl 3 (some 0) (some 48) none 1) :: V :: V :: .sc (.vec 4 none 256) :: V :: .sc (.ptr 5 0 false) :: V :: .sc (.ptr 6 0 false) :: .sc (.ptr 7 0 false) :: .sc (.int .i64) :: .sc (.ptr 8 0 false) :: pv 52 (.sc (.int .i64) :: pv 7 (.sc (.int .i64) :: pv 32 [])))), mem := [.live [.xs b64 (some 1)] (.own), .live [.one (.sl 9 none none none 1)] (.own), .live [.xs b8 none] (.own), .live [.xs b8 none] (.ro), .live [.xs .bool none] (.own), .live [.xs b32 (some 256)] (.own), .live [.xs b32 (some 1536)] (.own), .live [.xs b32 (some 1536)] (.own), .live [.xs b32 (some 256)] (.own), .live [.xs b8 none] (.ro)], dfr := [(12, [.ptr 0 0 false])] } [.nat, .nat, .nat, .int, .int, .int, .xs, .nat, .nat, .nat, .nat, .xs, .nat, .xs, .nat, .xs, .xs, .xs, .xs, .xs, .nat, .xs]
abbrev W77 : Type := Nat × Nat × Nat × Int × Int × Int × List Int × Nat × Nat × Nat × Nat × List Int × Nat × List Int × Nat × List Int × List Int × List Int × List Int × List Int × Nat × List Int × Unit
abbrev W78 : Type := Nat × Nat × Nat × Int × Int × List Int × Nat × Nat × Nat × Nat × List Int × Nat × List Int × Nat × List Int × List Int × List Int × List Int × List Int × Nat × List Int × Unit
noncomputable def G7 (N : Nat) (β : Type) (x : W77) (kn : W77 → Option β) (ke : W78 → Option β) : Option β :=
 if (x.2.2.2.2.2.1 < (256:Int)) then
  if 0 ≤ x.2.2.2.2.2.1 then (
  if x.2.2.2.2.2.1 < 256 then (
  if (x.2.2.2.2.2.1.toNat) < 256 then (
  if 0 ≤ x.2.2.2.2.2.1 then (
  if x.2.2.2.2.2.1 < 256 then (
  if (x.2.2.2.2.2.1.toNat) < 256 then (
  kn (x.1, x.2.1, x.2.2.1, x.2.2.2.1, x.2.2.2.2.1, (IntKind.i64.wrap (x.2.2.2.2.2.1 + (1:Int))), x.2.2.2.2.2.2.1, x.2.2.2.2.2.2.2.1, x.2.2.2.2.2.2.2.2.1, x.2.2.2.2.2.2.2.2.2.1, x.2.2.2.2.2.2.2.2.2.2.1, x.2.2.2.2.2.2.2.2.2.2.2.1, x.2.2.2.2.2.2.2.2.2.2.2.2.1, x.2.2.2.2.2.2.2.2.2.2.2.2.2.1, x.2.2.2.2.2.2.2.2.2.2.2.2.2.2.1, x.2.2.2.2.2.2.2.2.2.2.2.2.2.2.2.1, x.2.2.2.2.2.2.2.2.2.2.2.2.2.2.2.2.1, x.2.2.2.2.2.2.2.2.2.2.2.2.2.2.2.2.2.1, x.2.2.2.2.2.2.2.2.2.2.2.2.2.2.2.2.2.2.1, (List.set x.2.2.2.2.2.2.2.2.2.2.2.2.2.2.2.2.2.2.2.1 (x.2.2.2.2.2.1.toNat) (b0E IntKind.i32 (List.getD x.2.2.2.2.2.2.2.2.2.2.2.2.2.2.2.2.2.2.2.1 (x.2.2.2.2.2.1.toNat) 0) (13:Int))), x.2.2.2.2.2.2.2.2.2.2.2.2.2.2.2.2.2.2.2.2.1, x.2.2.2.2.2.2.2.2.2.2.2.2.2.2.2.2.2.2.2.2.2.1, ())) else none) else none) else none) else none) else none) else none
 else
  ke (x.1, x.2.1, x.2.2.1, x.2.2.2.1, x.2.2.2.2.1, x.2.2.2.2.2.2.1, x.2.2.2.2.2.2.2.1, x.2.2.2.2.2.2.2.2.1, x.2.2.2.2.2.2.2.2.2.1, x.2.2.2.2.2.2.2.2.2.2.1, x.2.2.2.2.2.2.2.2.2.2.2.1, x.2.2.2.2.2.2.2.2.2.2.2.2.1, x.2.2.2.2.2.2.2.2.2.2.2.2.2.1, x.2.2.2.2.2.2.2.2.2.2.2.2.2.2.1, x.2.2.2.2.2.2.2.2.2.2.2.2.2.2.2.1, x.2.2.2.2.2.2.2.2.2.2.2.2.2.2.2.2.1, x.2.2.2.2.2.2.2.2.2.2.2.2.2.2.2.2.2.1, x.2.2.2.2.2.2.2.2.2.2.2.2.2.2.2.2.2.2.1, x.2.2.2.2.2.2.2.2.2.2.2.2.2.2.2.2.2.2.2.1, x.2.2.2.2.2.2.2.2.2.2.2.2.2.2.2.2.2.2.2.2.1, x.2.2.2.2.2.2.2.2.2.2.2.2.2.2.2.2.2.2.2.2.2.1, ())
noncomputable def b4L : Go' W78 := fun y K => K (.exit 4) (fSt { tmps := pv 4 (.sc (.ptr 1 0 false) :: pv 3 (.sc (.ptr 0 0 false) :: .sc (.vec 2 none 1) :: .sc (.sl 3 (some 0) (some 48) none 1) :: V :: V :: .sc (.vec 4 none 256) :: V :: .sc (.ptr 5 0 false) :: V :: .sc (.ptr 6 0 false) :: .sc (.ptr 7 0 false) :: .sc (.int .i64) :: .sc (.ptr 8 0 false) :: pv 52 (.sc (.int .i64) :: pv 40 []))), mem := [.live [.xs b64 (some 1)] (.own), .live [.one (.sl 9 none none none 1)] (.own), .live [.xs b8 none] (.own), .live [.xs b8 none] (.ro), .live [.xs .bool none] (.own), .live [.xs b32 (some 256)] (.own), .live [.xs b32 (some 1536)] (.own), .live [.xs b32 (some 1536)] (.own), .live [.xs b32 (some 256)] (.own), .live [.xs b8 none] (.ro)], dfr := [(12, [.ptr 0 0 false])] } [.nat, .nat, .nat, .int, .int, .xs, .nat, .nat, .nat, .nat, .xs, .nat, .xs, .nat, .xs, .xs, .xs, .xs, .xs, .nat, .xs] y)
noncomputable def a7o (N : Nat) : LT := upd (a7m N) 30 (o6 b6q N (G7 N) b4L)
theorem b4M (N : Nat) : OkAll p_dsa_Verify_E a4w N (a7o N) (w9 Q5) :=
 d6 (c := d7 30 Q5) (b4I N) (by kernel_rfl) (fun x => by kernel_rfl) (fun β x kn ke => by kernel_rfl)
noncomputable def b6p : Shape := mkS { tmps := pv 4 (.sc (.ptr 1 0 false) :: pv 3 (.sc (.ptr 0 0 false) :: .sc (.vec 2 none 1) :: .sc (.sl 3 (some 0) (some 48) none 1) :: V :: V :: .sc (.vec 4 none 256) :: V :: .sc (.ptr 5 0 false) :: V :: .sc (.ptr 6 0 false) :: .sc (.ptr 7 0 false) :: pv 54 (.sc (.int .i64) :: pv 40 []))), mem := [.live [.xs b64 (some 1)] (.own), .live [.one (.sl 8 none none none 1)] (.own), .live [.xs b8 none] (.own), .live [.xs b8 none] (.ro), .live [.xs .bool none] (.own), .live [.xs b32 (some 256)] (.own), .live [.xs b32 (some 1536)] (.own), .live [.xs b32 (some 1536)] (.own), .live [.xs b8 none] (.ro)], dfr := [(12, [.ptr 0 0 false])] } [.nat, .nat, .nat, .int, .xs, .nat, .nat, .nat, .nat, .xs, .nat, .xs, .nat, .xs, .xs, .xs, .xs, .nat, .xs]
abbrev W79 : Type := Nat × Nat × Nat × Int × List Int × Nat × Nat × Nat × Nat × List Int × Nat × List Int × Nat × List Int × List Int × List Int × List Int × Nat × List Int × Unit
abbrev W80 : Type := (Int × List Int × Unit) ⊕ (Nat × Nat × List Int × Nat × List Int × Nat × List Int × List Int × Unit)
noncomputable def G6 (N : Nat) (β : Type) (x : W79) (kn : W79 → Option β) (ke : W80 → Option β) : Option β :=
 if (x.2.2.2.1 < (6:Int)) then
  if 0 ≤ (320:Int) then (
  if (320:Int) ≤ ((x.2.2.2.2.2.2.1 : Nat) : Int) then (
  if 0 ≤ (320:Int) then (
  if (320:Int) ≤ ((x.2.2.2.2.2.2.1 : Nat) : Int) then (
  (Z9 ((10:Int), (List.take 320 (List.drop (c2m x.2.2.2.2.2.1 0) x.2.2.2.2.2.2.2.2.2.2.2.2.2.2.2.2.2.2.1)), ())).bind fun r14 => (
  if (r14.2 ≠ (0:Int)) then
   ke (.inl (r14.2, x.2.2.2.2.1, ()))
  else
   m7 (G7 N) N (x.1, x.2.1, x.2.2.1, x.2.2.2.1, x.2.2.2.1, (0:Int), x.2.2.2.2.1, (c2m x.2.2.2.2.2.1 320), (x.2.2.2.2.2.2.1 - 320), (x.2.2.2.2.2.2.2.1 - 320), x.2.2.2.2.2.2.2.2.1, x.2.2.2.2.2.2.2.2.2.1, x.2.2.2.2.2.2.2.2.2.2.1, x.2.2.2.2.2.2.2.2.2.2.2.1, x.2.2.2.2.2.2.2.2.2.2.2.2.1, x.2.2.2.2.2.2.2.2.2.2.2.2.2.1, x.2.2.2.2.2.2.2.2.2.2.2.2.2.2.1, x.2.2.2.2.2.2.2.2.2.2.2.2.2.2.2.1, x.2.2.2.2.2.2.2.2.2.2.2.2.2.2.2.2.1, r14.1, x.2.2.2.2.2.2.2.2.2.2.2.2.2.2.2.2.2.1, x.2.2.2.2.2.2.2.2.2.2.2.2.2.2.2.2.2.2.1, ()) fun y15 => (
   if 0 ≤ y15.2.2.2.1 then (
   if y15.2.2.2.1 < 6 then (
   if ((y15.2.2.2.1.toNat) * 256) + 256 ≤ 1536 then (
   (a0w (y15.2.2.2.2.2.2.2.2.2.2.2.2.2.2.2.2.2.2.1, ())).bind fun r16 => (
   (Z7 (y15.2.2.2.2.2.2.2.2.2.2.2.2.2.2.2.1, r16, ())).bind fun r17 => (
   (a0x ((List.take 256 (List.drop ((y15.2.2.2.1.toNat) * 256) y15.2.2.2.2.2.2.2.2.2.2.2.2.2.2.2.2.1)), r17, ())).bind fun r18 => (
   (a34 (r18, ())).bind fun r19 => (
   if 0 ≤ y15.2.2.2.1 then (
   if y15.2.2.2.1 < ((y15.2.2.1 : Nat) : Int) then (
   if ((y15.2.2.2.1.toNat) * 256) + 256 ≤ y15.2.2.2.2.2.2.2.2.2.2.2.2.2.1 then (
   (a0y ((List.take 256 (List.drop ((y15.2.2.2.1.toNat) * 256) y15.2.2.2.2.2.2.2.2.2.2.2.2.2.2.1)), r19, ())).bind fun r20 => (
   if 0 ≤ y15.2.2.2.1 then (
   if y15.2.2.2.1 < 6 then (
   if ((y15.2.2.2.1.toNat) * 256) + 256 ≤ 1536 then (
   kn (y15.1, y15.2.1, y15.2.2.1, (IntKind.i64.wrap (y15.2.2.2.2.1 + (1:Int))), y15.2.2.2.2.2.1, y15.2.2.2.2.2.2.1, y15.2.2.2.2.2.2.2.1, y15.2.2.2.2.2.2.2.2.1, y15.2.2.2.2.2.2.2.2.2.1, y15.2.2.2.2.2.2.2.2.2.2.1, y15.2.2.2.2.2.2.2.2.2.2.2.1, y15.2.2.2.2.2.2.2.2.2.2.2.2.1, y15.2.2.2.2.2.2.2.2.2.2.2.2.2.1, y15.2.2.2.2.2.2.2.2.2.2.2.2.2.2.1, y15.2.2.2.2.2.2.2.2.2.2.2.2.2.2.2.1, y15.2.2.2.2.2.2.2.2.2.2.2.2.2.2.2.2.1, (List.take ((y15.2.2.2.1.toNat) * 256) y15.2.2.2.2.2.2.2.2.2.2.2.2.2.2.2.2.2.1 ++ r20 ++ List.drop (((y15.2.2.2.1.toNat) * 256) + 256) y15.2.2.2.2.2.2.2.2.2.2.2.2.2.2.2.2.2.1), y15.2.2.2.2.2.2.2.2.2.2.2.2.2.2.2.2.2.2.2.1, y15.2.2.2.2.2.2.2.2.2.2.2.2.2.2.2.2.2.2.2.2.1, ())) else none) else none) else none)) else none) else none) else none))))) else none) else none) else none))) else none) else none) else none) else none
 else
  ke (.inr (x.1, x.2.1, x.2.2.2.2.1, x.2.2.2.2.2.2.2.2.1, x.2.2.2.2.2.2.2.2.2.1, x.2.2.2.2.2.2.2.2.2.2.1, x.2.2.2.2.2.2.2.2.2.2.2.1, x.2.2.2.2.2.2.2.2.2.2.2.2.2.2.2.2.1, ()))
noncomputable def b4J : Go' W80 := fun y K => match y with
 | .inl y => K (.pan (.ifi 26 .i64) y.1) (fSt { tmps := pv 8 (.sc (.ptr 0 0 false) :: pv 105 []), mem := [.live [.xs b64 (some 1)] (.own)], dfr := [(12, [.ptr 0 0 false])] } [.xs] y.2)
 | .inr y => K (.exit 2) (fSt { tmps := pv 8 (.sc (.ptr 0 0 false) :: .sc (.vec 1 none 1) :: .sc (.sl 2 (some 0) (some 48) none 1) :: pv 7 (.sc (.ptr 3 0 false) :: pv 95 [])), mem := [.live [.xs b64 (some 1)] (.own), .live [.xs b8 none] (.own), .live [.xs b8 none] (.ro), .live [.xs b32 (some 1536)] (.own)], dfr := [(12, [.ptr 0 0 false])] } [.nat, .nat, .xs, .nat, .xs, .nat, .xs, .xs] y)
noncomputable def a7n (N : Nat) : LT := upd (a7o N) 26 (o6 b6p N (G6 N) b4J)
theorem b4K (N : Nat) : OkAll p_dsa_Verify_E a4w N (a7n N) (w9 Q5) :=
 d6 (c := d7 26 Q5) (b4M N) (by kernel_rfl) (fun x => by kernel_rfl) (fun β x kn ke => by kernel_rfl)
abbrev a0Q : List Kd := [.sl b8, .sl b8, .sl b8, .sl b8]
abbrev a6q : List Kd := [.int .i64]
noncomputable def a4X (N : Nat) (x : List Int × List Int × List Int × List Int × Unit) : Option (Int) :=
 if ((((List.length x.1) : Nat) : Int) ≠ (1952:Int)) then
  some (List.getD (List.set [0] 0 (161:Int)) 0 0)
 else
  if ((((List.length x.2.2.1) : Nat) : Int) > (255:Int)) then
   some (List.getD (List.set [0] 0 (3:Int)) 0 0)
  else
   if ((((List.length x.2.2.2.1) : Nat) : Int) ≠ (3309:Int)) then
    some (List.getD (List.set [0] 0 (70:Int)) 0 0)
   else
    (J2 ((64:Int), [x.1], ())).bind fun r1 => (
    (a2t (r1, x.2.1, x.2.2.1, ())).bind fun r2 => (
    if 0 ≤ (48:Int) then (
    if (48:Int) ≤ (((List.length x.2.2.2.1) : Nat) : Int) then (
    if 0 ≤ (48:Int) then (
    if (48:Int) ≤ (((List.length x.2.2.2.1) : Nat) : Int) then (
    m7 (u7 N) N ((List.length r2), (List.length x.2.2.2.1), (0:Int), [0], (List.length x.1), 48, ((List.length x.2.2.2.1) - 48), ((List.length x.2.2.2.1) - 48), (List.length r2), r2, (List.length x.2.2.2.1), x.2.2.2.1, (List.replicate 1280 0), (List.length x.1), x.1, ()) fun y => (match y with
    | .inl y5 => (
     some (List.getD (List.set y5.2.1 0 y5.1) 0 0))
    | .inr (.inl y6) => (
     some (List.getD y6.1 0 0))
    | .inr (.inr y7) => (
     (J8 ((6:Int), (55:Int), (List.take y7.2.2.2.2.2.1 (List.drop y7.2.2.2.2.1 y7.2.2.2.2.2.2.2.2.2.2.1)), ())).bind fun r8 => (
     if (r8.2 ≠ (0:Int)) then
      some (List.getD (List.set y7.2.2.1 0 (70:Int)) 0 0)
     else
      (a4M ((49:Int), (List.take 48 (List.drop 0 y7.2.2.2.2.2.2.2.2.2.2.1)), ())).bind fun r9 => (
      if (r9.2 ≠ (0:Int)) then
       some (List.getD (List.set y7.2.2.1 0 r9.2) 0 0)
      else
       (a0w (r9.1, ())).bind fun r10 => (
       if 0 ≤ (32:Int) then (
       if (32:Int) ≤ ((y7.2.2.2.1 : Nat) : Int) then (
       if 0 ≤ (32:Int) then (
       if (32:Int) ≤ ((y7.2.2.2.1 : Nat) : Int) then (
       (N6 ((List.take 32 (List.drop 0 y7.2.2.2.2.2.2.2.2.2.2.2.2.2.1)), ())).bind fun r11 => (
       if r11.1 = true then
        some (List.getD (List.set y7.2.2.1 0 r11.2.1) 0 0)
       else
        (xg (N6 ((List.take 32 (List.drop 0 y7.2.2.2.2.2.2.2.2.2.2.2.2.2.1)), ()))).bind fun r12 => (
        (J9 (r12.1, y7.2.2.2.2.2.2.2.2.2.2.2.1, ())).bind fun r13 => (
        m7 (G6 N) N (y7.1, y7.2.1, (List.length r8.1 / 256), (0:Int), y7.2.2.1, 32, (y7.2.2.2.1 - 32), (y7.2.2.2.1 - 32), y7.2.2.2.2.2.2.2.1, y7.2.2.2.2.2.2.2.2.1, y7.2.2.2.2.2.2.2.2.2.1, y7.2.2.2.2.2.2.2.2.2.2.1, (List.length r8.1), r8.1, r10, r13, (List.replicate 1536 0), y7.2.2.2.2.2.2.2.2.2.2.2.2.1, y7.2.2.2.2.2.2.2.2.2.2.2.2.2.1, ()) fun y => (match y with
        | .inl y21 => (
         some (List.getD (List.set y21.2.1 0 y21.1) 0 0))
        | .inr y22 => (
         (a0z (y22.2.2.2.2.1, y22.2.2.2.2.2.2.2.1, ())).bind fun r23 => (
         (a66 (r23, (List.take 48 (List.drop 0 y22.2.2.2.2.2.2.1)), ())).bind fun r24 => (
         if (¬ (r24 = true)) then
          some (List.getD (List.set y22.2.2.1 0 (70:Int)) 0 0)
         else
          some (List.getD (List.set y22.2.2.1 0 (0:Int)) 0 0))))))))) else none) else none) else none) else none)))))) else none) else none) else none) else none))
theorem b9G (e0 : c8 Try.prog 13 R1) (e1 : c8 Try.prog 26 a53) (e2 : c8 Try.prog 29 o4) (e3 : c8 Try.prog 30 a0o) (e4 : c8 Try.prog 31 a2p) (e5 : c8 Try.prog 33 a4C) (e6 : c8 Try.prog 32 a2n) (e7 : c8 Try.prog 34 J6) (e8 : c8 Try.prog 35 a1y) (e9 : c8 Try.prog 38 P8) (e10 : c8 Try.prog 37 a50) (e11 : c8 Try.prog 36 a2m) (e12 : c8 Try.prog 39 a51) (e13 : c8 Try.prog 41 a0p) (e14 : c8 Try.prog 40 b1b) (e15 : XOk Try.prog 18 a0q) : p_dsa_Verify_E.Ok Try.prog := AE.ofA_ok (all_cons u4 (all_cons E0 (all_cons c2j (all_cons a2D (all_cons q8 (all_cons b5h (all_cons b5i (all_cons c41 (all_cons b8C c6))))))))) (all_cons ⟨e0, a0v⟩ (all_cons ⟨e1, b0f⟩ (all_cons ⟨e2, I9⟩ (all_cons ⟨e3, a30⟩ (all_cons ⟨e4, a8l⟩ (all_cons ⟨e5, a8i⟩ (all_cons ⟨e6, a5a⟩ (all_cons ⟨e7, a2F⟩ (all_cons ⟨e8, a6b⟩ (all_cons ⟨e9, a2s⟩ (all_cons ⟨e10, b0e⟩ (all_cons ⟨e11, a49⟩ (all_cons ⟨e12, b2P⟩ (all_cons ⟨e13, a5q⟩ (all_cons ⟨e14, b7t⟩ c6))))))))))))))) (all_cons ⟨e15, a32⟩ c6) (all_cons ⟨a3X, a31⟩ c6) c6 (all_cons ⟨O0, A4⟩ (all_cons ⟨a2K, Z4⟩ (all_cons ⟨b8L, b3H⟩ c6))) c6 c6 c6 c6
theorem c1F (hE : p_dsa_Verify_E.Ok Try.prog) {g : Ds a0Q → Option (Rs [.int .i64])} (hg : ∀ x r, g x = some r → ∃ N, a4X N x = some r) : c8 Try.prog 10 ⟨a0Q, [.int .i64], g⟩ :=
 i5 (E := p_dsa_Verify_E) (H := a4w) (L := fun N => a7n N) (c := Q5) (ks := a0Q) (rs := a6q) (F := a4X) hE mix Try.func10 (by kernel_rfl) (fun N => b4K N) (fun _ _ => by kernel_rfl) hg
noncomputable def p_law16_few_E : AE := AE.of [(23, ty23), (35, ty35)] []
noncomputable def b6E : Hints := [(2, [5, 6, 7]), (2000000, []), (2000001, [5, 6, 7]), (3000000, [2])]
noncomputable def a9X : Code := (Try.f7).body.getD .skip
noncomputable def b9P : Shape := mkS { tmps := pv 5 (.sc (.frs b8) :: .sc (.int .i64) :: .sc (.int .i64) :: pv 7 []), mem := [] } [.xss, .int, .int]
abbrev W81 : Type := List (List Int) × Int × Int × Unit
abbrev W82 : Type := (Bool × Unit) ⊕ (Unit)
noncomputable def N1 (N : Nat) (β : Type) (x : W81) (kn : W81 → Option β) (ke : W82 → Option β) : Option β :=
 if (x.2.2.1 < x.2.1) then
  if 0 ≤ x.2.2.1 then (
  if x.2.2.1 < ((List.length x.1 : Nat) : Int) then (
  if (((List.length (List.getD x.1 (x.2.2.1.toNat) []) : Nat) : Int) > (6000:Int)) then
   ke (.inl (false, ()))
  else
   kn (x.1, x.2.1, (IntKind.i64.wrap (x.2.2.1 + (1:Int))), ())) else none) else none
 else
  ke (.inr (()))
noncomputable def b8i : Go' W82 := fun y K => match y with
 | .inl y => K .ret (fSt { tmps := V :: V :: .sc (.bool) :: pv 12 [], mem := [] } [.bool] y)
 | .inr y => K (.exit 0) (fSt { tmps := pv 15 [], mem := [] } [] ())
noncomputable def b0s (N : Nat) : LT := upd (LT.nil) 2 (o6 b9P N (N1 N) b8i)
theorem b8j (N : Nat) : OkAll p_law16_few_E b6E N (b0s N) (w9 a9X) :=
 d6 (c := d7 2 a9X) (OkAll.nil) (by kernel_rfl) (fun x => by kernel_rfl) (fun β x kn ke => by kernel_rfl)
abbrev a1V : List Kd := [.sls b8]
abbrev a75 : List Kd := [.bool]
noncomputable def a6D (N : Nat) (x : List (List Int) × Unit) : Option (Bool) :=
 m7 (N1 N) N (x.1, ((List.length x.1 : Nat) : Int), (0:Int), ()) fun y => (match y with
 | .inl y1 => (
  some y1.1)
 | .inr y2 => (
  some true))
theorem c1L : p_law16_few_E.Ok Try.prog := AE.of_ok (all_cons E0 (all_cons a2D c6)) c6
theorem c2O (hE : p_law16_few_E.Ok Try.prog) {g : Ds a1V → Option (Rs [.bool])} (hg : ∀ x r, g x = some r → ∃ N, a6D N x = some r) : c8 Try.prog 7 ⟨a1V, [.bool], g⟩ :=
 i5 (E := p_law16_few_E) (H := b6E) (L := fun N => b0s N) (c := a9X) (ks := a1V) (rs := a75) (F := a6D) hE mix Try.func7 (by kernel_rfl) (fun N => b8j N) (fun _ _ => by kernel_rfl) hg
noncomputable abbrev a4G : Sig := ⟨[.xs b8 32], [.sl b8, .sl b8, .int .i64], a2H⟩
noncomputable abbrev b08 : Sig := ⟨[.sl b8, .sl b8, .sl b8, .sl b8], [.int .i64], a2I⟩
noncomputable def p_law16_live_E : AE := AE.of [(5, ty5), (22, ty22), (23, ty23)] [(8, a4G), (10, b08)]
noncomputable def c2P : Hints := [(3000000, [0])]
noncomputable def c2Q : Code := (Try.f6).body.getD .skip
abbrev a6E : List Kd := []
abbrev a6F : List Kd := [.bool]
noncomputable def a41 (N : Nat) (x : Unit) : Option (Bool) :=
 (a2H ((List.replicate 32 0), ())).bind fun r1 => (
 if (r1.2.2 = (0:Int)) then
  if ((((List.length r1.1) : Nat) : Int) = (1952:Int)) then
   if ((((List.length r1.2.1) : Nat) : Int) = (4032:Int)) then
    if 0 ≤ (3309:Int) then (
    if (3309:Int) = (3309:Int) then (
    if (3309:Int) * 1 ≤ 281474976710656 then (
    (a2I (r1.1, [], [], (List.replicate 3309 0), ())).bind fun r2 => (
    if (r2 = (70:Int)) then
     (a2I ([], [], [], [], ())).bind fun r3 => (
     some (decide (r3 = (161:Int))))
    else
     some false)) else none) else none) else none
   else
    some false
  else
   some false
 else
  some false)
theorem b9Q (e0 : c8 Try.prog 8 a4G) (e1 : c8 Try.prog 10 b08) : p_law16_live_E.Ok Try.prog := AE.of_ok (all_cons T9 (all_cons c40 (all_cons E0 c6))) (all_cons ⟨e0, a8o⟩ (all_cons ⟨e1, b7r⟩ c6))
theorem c1M (hE : p_law16_live_E.Ok Try.prog) {g : Ds [] → Option (Rs [.bool])} (hg : ∀ x r, g x = some r → ∃ N, a41 N x = some r) : c8 Try.prog 6 ⟨[], [.bool], g⟩ :=
 i5 (E := p_law16_live_E) (H := c2P) (L := fun N => LT.nil) (c := c2Q) (ks := a6E) (rs := a6F) (F := a41) hE mix Try.func6 (by kernel_rfl) (fun N => OkAll.nil) (fun _ _ => by kernel_rfl) hg
end Go.Ax.TryP
set_option linter.unusedVariables false
namespace Go.Ax.TryP
open Go.Proofs
theorem U1 {b : List Int} {a n : Nat} (h : a + n ≤ b.length) : (X5 b a n).length = n := by
 unfold X5
 rw [List.length_take, List.length_drop]
 omega
theorem D3 {b : List Int} (h : bytes b) (a n : Nat) : bytes (X5 b a n) := fun z hz => h z (List.mem_of_mem_drop (List.mem_of_mem_take hz))
theorem b6T (l : List Int) (k : Nat) : List.take (l.length - k) (List.drop k l) = l.drop k := List.take_of_length_le (by rw [List.length_drop]; omega)
theorem c3G {t : Int} {w : Nat} (ht : 0 ≤ t ∧ t ≤ 8380417) (hw : w ≤ 23) (b : List Int) : E6 256 (a2j t w b) := by
 refine rows.range fun i _ => ?_
 have h := d2z b i hw
 unfold d2y at h
 omega
theorem c78 : ∀ x r, a35 x = some r → ∃ N, a9V N x = some (xr r) := by
 refine b5l (ks := a1T) (rs := a1U) fun x hw hq => ⟨0, ?_⟩
 obtain ⟨(b : List Int), u⟩ := x
 have hl : b.length = 128 := hq
 have hb : b.length ≤ maxLen ∧ bytes b := M8.1 hw.1
 have e : j4 ((4 : Int), (4 : Int), b, ()) = some (b3T b, 0) := a5y (n := 4) (t := 4) (by omega) ⟨by omega, by omega, by omega⟩ hb.2
 have e2 := c0r (a := b3T b) (c3G (by omega) (by omega) b)
 unfold a9V
 dsimp only
 rw [e, Option.bind_some, if_neg (by simp), e2, Option.bind_some]
 by_cases h : 4 < a1t (b3T b)
 ·rw [if_pos h, if_pos (by decide), decide_eq_true h]
  rfl
 ·rw [if_neg h, decide_eq_false h]
  rfl
theorem d3M {b : List Int} (hl : b.length = 128) (hb : bytes b) : a35 (b, ()) = some (decide (4 < a1t (b3T b)), 160, b3T b) :=
 b5k (ks := a1T) (rs := a1U) (x := (b, ())) (Q := fun x => x.1.length = 128) (f := fun x => (decide (4 < a1t (b3T x.1)), 160, b3T x.1)) ⟨M8.2 ⟨mB (by rw [hl]; omega), hb⟩, trivial⟩ hl
theorem d23 (sk : List Int) (i : Nat) : (skP sk i).length = 256 := a1A _
theorem d6X (sk : List Int) (i : Nat) : (skL sk i).length = 256 := a1A _
theorem b5s {sk : List Int} (hl : sk.length = 4032) (hb : bytes sk) {i : Nat} (hi : i < 11) : a35 (List.take 128 (List.drop (128 + 128 * i) sk), ()) = some (decide (4 < a1t (skP sk i)), 160, skP sk i) :=
 d3M (b := X5 sk (128 + 128 * i) 128) (U1 (by omega)) (D3 hb _ _)
theorem d52 {sk : List Int} (hl : sk.length = 4032) (hb : bytes sk) {i : Nat} (hi : i < 6) : j4 ((4096 : Int), (13 : Int), List.take 416 (List.drop (1536 + 416 * i) sk), ()) = some (skL sk i, 0) :=
 a5y (n := 13) (t := 4096) (b := X5 sk (1536 + 416 * i) 416) (by omega) ⟨by omega, by omega, by rw [U1 (by omega)]⟩ (D3 hb _ _)
theorem d9J {sk A B C T E L Z : List Int} (hl : sk.length = 4032) (hb : bytes sk) (hZ : Z.length = 5 * 256) {rho k : List Int} {β : Type} (K : (Int × List Int × List Int × List Int × Unit) ⊕ (List Int × List Int × List Int × List Int × List Int × List Int × List Int × List Int × List Int × List Int × Unit) → Option β) :
  ((∀ i, i < 5 → a1t (skP sk i) ≤ 4) → m7 (B0 10) 10 ((0 : Int), sk.drop 128, A, B, C, rho, k, T, Z, E, L, ()) K = K (.inr (sk.drop (128 + 128 * 5), A, B, C, rho, k, T, P7 (skP sk) 5, E, L, ()))) ∧
  (¬ (∀ i, i < 5 → a1t (skP sk i) ≤ 4) → m7 (B0 10) 10 ((0 : Int), sk.drop 128, A, B, C, rho, k, T, Z, E, L, ()) K = K (.inl (160, A, B, C, ()))) := by
 have h := c05 (F := B0 10) (K := K) (fun i => ((i : Int), sk.drop (128 + 128 * i), A, B, C, rho, k, T, a1h (skP sk) Z i, E, L, ())) (fun i => a1t (skP sk i) ≤ 4) (.inl (160, A, B, C, ())) (.inr (sk.drop (128 + 128 * 5), A, B, C, rho, k, T, P7 (skP sk) 5, E, L, ())) 5
  (fun i hi kn => by
   have h1 : ((List.length (List.drop (128 + 128 * i) sk) : Nat) : Int) = 3904 - 128 * i := by rw [List.length_drop]; omega
   constructor
   ·intro hc
    unfold B0
    dsimp only
    rw [if_pos (by omega), if_pos (by omega), if_pos (by omega), if_pos (by omega), if_pos (by omega), Nat.sub_zero, List.drop_zero, b5s hl hb (show i < 11 by omega), Option.bind_some, if_neg (by rw [decide_eq_true_iff]; omega), if_pos (by omega), if_pos (by omega), if_pos (by omega), Int.toNat_natCast, b6T, List.drop_drop, c7 (by omega) (by omega), P6 (f := skP sk) hZ (fun j _ => d23 sk j) hi]
    rfl
   ·intro hc
    unfold B0
    dsimp only
    rw [if_pos (by omega), if_pos (by omega), if_pos (by omega), if_pos (by omega), if_pos (by omega), Nat.sub_zero, List.drop_zero, b5s hl hb (show i < 11 by omega), Option.bind_some, if_pos (by rw [decide_eq_true_iff]; omega)])
  (fun kn => by
   unfold B0
   dsimp only
   rw [if_neg (by omega), P5 hZ]) 5 0 10 (by omega) (by omega)
 rw [D9] at h
 exact ⟨fun hh => h.1 fun r _ hr6 => hh r hr6, fun hh => h.2 fun hh' => hh fun r hr6 => hh' r (Nat.zero_le _) hr6⟩
theorem d9I {sk A B C T S L Z : List Int} (hl : sk.length = 4032) (hb : bytes sk) (hZ : Z.length = 6 * 256) {rho k : List Int} {β : Type} (K : (Int × List Int × List Int × List Int × Unit) ⊕ (List Int × List Int × List Int × List Int × List Int × List Int × List Int × List Int × List Int × List Int × Unit) → Option β) :
  ((∀ i, i < 6 → a1t (skP sk (5 + i)) ≤ 4) → m7 (v9 10) 10 ((0 : Int), sk.drop (128 + 128 * 5), A, B, C, rho, k, T, S, Z, L, ()) K = K (.inr (sk.drop 1536, A, B, C, rho, k, T, S, P7 (fun i => skP sk (5 + i)) 6, L, ()))) ∧
  (¬ (∀ i, i < 6 → a1t (skP sk (5 + i)) ≤ 4) → m7 (v9 10) 10 ((0 : Int), sk.drop (128 + 128 * 5), A, B, C, rho, k, T, S, Z, L, ()) K = K (.inl (160, A, B, C, ()))) := by
 have h := c05 (F := v9 10) (K := K) (fun i => ((i : Int), sk.drop (128 + 128 * (5 + i)), A, B, C, rho, k, T, S, a1h (fun i => skP sk (5 + i)) Z i, L, ())) (fun i => a1t (skP sk (5 + i)) ≤ 4) (.inl (160, A, B, C, ())) (.inr (sk.drop 1536, A, B, C, rho, k, T, S, P7 (fun i => skP sk (5 + i)) 6, L, ())) 6
  (fun i hi kn => by
   have h1 : ((List.length (List.drop (128 + 128 * (5 + i)) sk) : Nat) : Int) = 3264 - 128 * i := by rw [List.length_drop]; omega
   constructor
   ·intro hc
    unfold v9
    dsimp only
    rw [if_pos (by omega), if_pos (by omega), if_pos (by omega), if_pos (by omega), if_pos (by omega), Nat.sub_zero, List.drop_zero, b5s hl hb (show 5 + i < 11 by omega), Option.bind_some, if_neg (by rw [decide_eq_true_iff]; omega), if_pos (by omega), if_pos (by omega), if_pos (by omega), Int.toNat_natCast, b6T, List.drop_drop, c7 (by omega) (by omega), P6 (f := fun i => skP sk (5 + i)) hZ (fun j _ => d23 sk _) hi]
    rfl
   ·intro hc
    unfold v9
    dsimp only
    rw [if_pos (by omega), if_pos (by omega), if_pos (by omega), if_pos (by omega), if_pos (by omega), Nat.sub_zero, List.drop_zero, b5s hl hb (show 5 + i < 11 by omega), Option.bind_some, if_pos (by rw [decide_eq_true_iff]; omega)])
  (fun kn => by
   unfold v9
   dsimp only
   rw [if_neg (by omega), P5 hZ]) 6 0 10 (by omega) (by omega)
 rw [D9] at h
 exact ⟨fun hh => h.1 fun r _ hr6 => hh r hr6, fun hh => h.2 fun hh' => hh fun r hr6 => hh' r (Nat.zero_le _) hr6⟩
theorem d9Z {sk A B C T S E Z : List Int} (hl : sk.length = 4032) (hb : bytes sk) (hZ : Z.length = 6 * 256) {rho k : List Int} {β : Type} (K : (Int × List Int × List Int × List Int × Unit) ⊕ (List Int × List Int × List Int × List Int × List Int × List Int × List Int × List Int × List Int × Unit) → Option β) :
  m7 (H2 10) 10 ((0 : Int), sk.drop 1536, A, B, C, rho, k, T, S, E, Z, ()) K = K (.inr (A, B, C, rho, k, T, S, E, P7 (skL sk) 6, ())) := by
 refine i8 (F := H2 10) (s := fun i => ((i : Int), sk.drop (1536 + 416 * i), A, B, C, rho, k, T, S, E, a1h (skL sk) Z i, ())) (y := .inr (A, B, C, rho, k, T, S, E, P7 (skL sk) 6, ())) 6 (by rw [D9]; rfl) ?_ ?_ 10 (by omega)
 ·intro i hi kn
  have h1 : ((List.length (List.drop (1536 + 416 * i) sk) : Nat) : Int) = 2496 - 416 * i := by rw [List.length_drop]; omega
  unfold H2
  dsimp only
  rw [if_pos (by omega), if_pos (by omega), if_pos (by omega), if_pos (by omega), if_pos (by omega), Nat.sub_zero, List.drop_zero, d52 hl hb hi, Option.bind_some, if_neg (by simp), if_pos (by omega), if_pos (by omega), if_pos (by omega), Int.toNat_natCast, b6T, List.drop_drop, show 1536 + 416 * i + 416 = 1536 + 416 * (i + 1) by omega, c7 (by omega) (by omega), P6 (f := skL sk) hZ (fun j _ => d6X sk j) hi]
  rfl
 ·intro kn
  unfold H2
  dsimp only
  rw [if_neg (by omega), P5 hZ]
end Go.Ax.TryP
set_option linter.unusedVariables false
namespace Go.Ax.TryP
open Go.Proofs
theorem c4k {sk : List Int} (hl : sk.length = 4032) : d2F sk ↔ (∀ i, i < 5 → a1t (skP sk i) ≤ 4) ∧ ∀ i, i < 6 → a1t (skP sk (5 + i)) ≤ 4 := by
 constructor
 ·intro h
  exact ⟨fun i hi => h.2 i (by omega), fun i hi => h.2 (5 + i) (by omega)⟩
 ·intro h
  refine ⟨hl, fun i hi => ?_⟩
  by_cases h5 : i < 5
  ·exact h.1 i h5
  ·have := h.2 (i - 5) (by omega)
   rwa [show 5 + (i - 5) = i by omega] at this
theorem d0L : ∀ x r, b2D x = some r → ∃ N, a5X N x = some (xr r) := by
 refine b5l (ks := a3u) (rs := a3v) fun x hw hq => ⟨10, ?_⟩
 obtain ⟨(sk : List Int), u⟩ := x
 have hb0 : sk.length ≤ maxLen ∧ bytes sk := M8.1 hw.1
 have hb := hb0.2
 show a5X 10 (sk, u) = some (xr (tf (¬ d2F sk), 160, d1b sk))
 by_cases hl : sk.length = 4032
 ·have hZ5 : (List.replicate 1280 (0 : Int)).length = 5 * 256 := by rw [List.length_replicate]
  have hZ6 : (List.replicate 1536 (0 : Int)).length = 6 * 256 := by rw [List.length_replicate]
  unfold a5X
  dsimp only
  generalize List.replicate 1280 (0 : Int) = Z5 at hZ5
  generalize List.replicate 1536 (0 : Int) = Z6 at hZ6
  have d1 : (sk.drop 32).length = 4000 := by rw [List.length_drop]; omega
  have d2 : (sk.drop 64).length = 3968 := by rw [List.length_drop]; omega
  rw [if_neg (by omega)]
  simp only [b6T]
  simp only [List.drop_drop, Nat.sub_zero, List.drop_zero, Nat.reduceAdd]
  rw [if_pos (by omega), if_pos (by omega), if_pos (by omega), if_pos (by omega), if_pos (by omega), if_pos (by omega), if_pos (by omega), if_pos (by omega), if_pos (by omega), if_pos (by omega), if_pos (by omega), if_pos (by omega)]
  by_cases c1 : ∀ i, i < 5 → a1t (skP sk i) ≤ 4
  ·refine ((d9J hl hb hZ5 _).1 c1).trans ?_
   dsimp only
   by_cases c2 : ∀ i, i < 6 → a1t (skP sk (5 + i)) ≤ 4
   ·refine ((d9I hl hb hZ6 _).1 c2).trans ?_
    dsimp only
    refine (d9Z hl hb hZ6 _).trans ?_
    rw [d8E (fun h => h ((c4k hl).2 ⟨c1, c2⟩))]
    rfl
   ·refine ((d9I hl hb hZ6 _).2 c2).trans ?_
    rw [c9O (fun h => c2 ((c4k hl).1 h).2)]
    rfl
  ·refine ((d9J hl hb hZ5 _).2 c1).trans ?_
   rw [c9O (fun h => c1 ((c4k hl).1 h).1)]
   rfl
 ·unfold a5X
  dsimp only
  rw [if_pos (by omega), if_pos (by decide), c9O (fun h => hl h.1)]
  rfl
theorem d5Q {sk : List Int} (hb : sk.length ≤ maxLen ∧ bytes sk) : b2D (sk, ()) = some (tf (¬ d2F sk), 160, d1b sk) :=
 b5k (ks := a3u) (rs := a3v) (x := (sk, ())) (Q := fun _ => True) (f := fun x => (tf (¬ d2F x.1), 160, d1b x.1)) ⟨M8.2 hb, trivial⟩ trivial
end Go.Ax.TryP
set_option linter.unusedVariables false
namespace Go.Ax.TryP
open Go.Proofs
theorem d2w {a : List Int} {m : Int} (h0 : 0 ≤ m) (h : a1t a ≤ m) {i : Nat} (hi : i < 256) : d2a (c2r (a.getD i 0)) ≤ m := (c9r h0).1 h i hi
theorem d5k {z m : Int} (h : d2a z ≤ m) : -m ≤ z ∧ z ≤ m := by
 unfold d2a at h
 split at h <;> omega
theorem c5X {top m : Int} {w : Nat} {a : List Int} (h0 : 0 ≤ m) (h : a1t a ≤ m) (h1 : m ≤ top) (h2 : top + m < 2 ^ w) : inW w (a33 top a) := by
 intro i hi
 have e : (a33 top a).getD i 0 = top - (b39 a).getD i 0 := i9 hi
 rw [e, b2A hi]
 have := d5k (d2w h0 h hi)
 omega
theorem d6q {s : List Int} (h : s.length = 66) : (c56 20 s).2 = 0 := by
 unfold c56
 rw [if_neg (by rw [h]; decide)]
theorem d6r (s : List Int) : E6 256 (c56 20 s).1 := by
 unfold c56
 split
 ·exact rows.zero (by omega) 256
 ·exact c3G (by decide) (by decide) _
theorem d3H {b : List Int} (hb : b.length ≤ maxLen ∧ bytes b) : a64 (20, b, ()) = some (c56 20 b) :=
 d8 (ks := a0C) (rs := a0D) (x := (20, b, ())) ⟨d08 (by omega), M8.2 hb, trivial⟩ trivial
theorem c9S (n : Int) : bytes (c9R n) := fun z hz => by
 unfold c9R at hz
 rcases List.mem_cons.1 hz with rfl | hz
 ·omega
 ·rw [List.mem_singleton.1 hz]; omega
theorem c4X (n : Int) : (c9R n).length = 2 := rfl
theorem c8J {a b : List Int} (ha : a.length ≤ 1000 ∧ bytes a) (hb : b.length ≤ 1000 ∧ bytes b) : m6 ([a, b], ()) = some (a ++ b) := by
 have h := c0p (l := [a, b]) ⟨by simp, by simp; omega⟩ ⟨mB (by simp), fun zs hzs => by
  rcases List.mem_cons.1 hzs with rfl | hzs
  ·exact ⟨mB (by omega), ha.2⟩
  ·rw [List.mem_singleton.1 hzs]; exact ⟨mB (by omega), hb.2⟩⟩
 rw [h]
 simp
theorem c8I {a : List Int} (ha : a.length ≤ 1000000 ∧ bytes a) : m6 ([a], ()) = some a := by
 have h := c0p (l := [a]) ⟨by simp, by simp; omega⟩ ⟨mB (by simp), fun zs hzs => by rw [List.mem_singleton.1 hzs]; exact ⟨mB (by omega), ha.2⟩⟩
 rw [h]
 simp
theorem c5r {m y : List Int} (hm : E6 (30 * 256) m) (hy : E6 (5 * 256) y) : N7 (m, y, ()) = some (b0x m y) :=
 d8 (ks := F5) (rs := F6) (x := (m, y, ())) ⟨v8.2 hm, v8.2 hy, trivial⟩ trivial
theorem d1o {mu h : List Int} (hm : mu.length ≤ 1000 ∧ bytes mu) (hh : E6 (6 * 256) h) (hw : ∀ r, r < 6 → inW 4 (B8 (chD h r))) : a0z (mu, h, ()) = some (c2q mu h) :=
 d8 (ks := O8) (rs := O9) (x := (mu, h, ())) ⟨M8.2 ⟨mB (by have := hm.1; exact Nat.le_trans this (by decide)), hm.2⟩, v8.2 hh, trivial⟩ ⟨hm.1, hw⟩
theorem c8E {b : List Int} (hb : b.length ≤ 1000 ∧ bytes b) : a4M (49, b, ()) = some (a47 49 b) :=
 d8 (ks := a0A) (rs := a0B) (x := (49, b, ())) ⟨d08 (by omega), M8.2 ⟨mB (by have := hb.1; exact Nat.le_trans this (by decide)), hb.2⟩, trivial⟩ hb.1
theorem a1j (l : List Int) (n : Nat) : (a3S l n).length = n := c4S _ _ _ _
theorem a7A (l : List Int) (n : Nat) : bytes (a3S l n) := d8B _ _ _ _
theorem c0A (mu h : List Int) : (c2q mu h).length = 48 := a1j _ _
theorem c7l (mu h : List Int) : bytes (c2q mu h) := a7A _ _
def c7h (z : Int) : Prop := z = 0 ∨ z = 1 ∨ z = 8380416
theorem d1v {c : List Int} (h : ∀ z ∈ c, c7h z) (i : Nat) : c7h (c.getD i 0) := by
 by_cases hi : i < c.length
 ·rw [List.getD_eq_getElem?_getD, List.getElem?_eq_getElem hi]
  exact h _ (List.getElem_mem hi)
 ·rw [List.getD_eq_getElem?_getD, List.getElem?_eq_none (by omega)]
  exact .inl rfl
theorem d3O {s : List Int} {n i a : Nat} {c : List Int} (h : c.length = 256 ∧ ∀ z ∈ c, c7h z) : (c5w s n i a c).length = 256 ∧ ∀ z ∈ c5w s n i a c, c7h z := by
 unfold c5w
 refine ⟨by rw [List.length_set, List.length_set, h.1], fun z hz => ?_⟩
 rcases List.mem_or_eq_of_mem_set hz with hz | hz
 ·rcases List.mem_or_eq_of_mem_set hz with hz | hz
  ·exact h.2 z hz
  ·rw [hz]; exact d1v h.2 _
 ·rw [hz]
  split
  ·exact .inr (.inr rfl)
  ·exact .inr (.inl rfl)
theorem c45 : z256.length = 256 ∧ ∀ z ∈ z256, c7h z := ⟨by rw [z256, List.length_replicate], fun z hz => .inl (List.eq_of_mem_replicate hz)⟩
theorem c8L (tau : Nat) (s : List Int) : ∀ {k : Nat} {c : List Int} {p : Nat}, b7i tau s k = some (c, p) → c.length = 256 ∧ ∀ z ∈ c, c7h z
 | 0, c, p, h => by
  simp only [b7i] at h
  cases h
  exact c45
 | k + 1, c, p, h => by
  simp only [b7i] at h
  split at h
  ·cases h
  ·rename_i c0 p0 hk
   split at h
   ·cases h
   ·cases h
    exact d3O (c8L tau s hk)
theorem c8M (s : List Int) : (a47 49 s).1.length = 256 ∧ ∀ z ∈ (a47 49 s).1, c7h z := by
 unfold a47
 split
 ·exact c45
 ·split
  ·exact c45
  ·rename_i c p hk
   exact c8L _ s hk
theorem d1u (s : List Int) : E6 256 (a47 49 s).1 := ⟨(c8M s).1, fun z hz => by rcases (c8M s).2 z hz with h | h | h <;> omega⟩
theorem d5T (s : List Int) : (a47 49 s).2 = 0 ∨ (a47 49 s).2 = 130 := by
 unfold a47
 rw [if_neg (by decide)]
 split
 ·exact .inr rfl
 ·exact .inl rfl
theorem d1f {f : Nat → List Int} {h : Nat → Int} : ∀ n, (∀ i, i < n → (f i).length = if h i ≠ 0 then 1 else 0) → ((b3Y f n).length : Int) = c7m h n
 | 0, _ => by rw [c5E]; rfl
 | n + 1, hf => by
  rw [c0C, b3Y, List.length_append, hf n (by omega)]
  have ih := d1f (f := f) (h := h) n fun i hi => hf i (by omega)
  split
  ·push_cast; omega
  ·push_cast; omega
theorem d4B {f : Nat → List Int} {n k i : Nat} (h : ∀ j, j < n → (f j).length = 256) (hk : k < n) (hi : i < 256) : (P7 f n).getD (k * 256 + i) 0 = (f k).getD i 0 := by
 have e := a9h h hk
 unfold chD at e
 rw [← e, List.getD_eq_getElem?_getD, List.getD_eq_getElem?_getD, List.getElem?_take, if_pos hi, List.getElem?_drop]
theorem c4b (c w e l : List Int) (r : Nat) : (htD c w e l r).1.length = 256 := a1A _
theorem d1E {f : Nat → List Int × Int} {n : Nat} (hf : ∀ k, k < n → (f k).1.length = 256) (hc : ∀ k, k < n → ((d5p (P7 (fun r => (f r).1) n) k).length : Int) = (f k).2) : ∀ k, k ≤ n → ((b0d (P7 (fun r => (f r).1) n) k).length : Int) = c5D f k
 | 0, _ => rfl
 | k + 1, hk => by
  have ih := d1E hf hc k (by omega)
  have h1 := hc k (by omega)
  show ((b0d _ k ++ d5p _ k).length : Int) = c5D f k + (f k).2
  rw [List.length_append]
  push_cast
  omega
theorem d5Z (c w e l : List Int) : ((b0d (P7 (fun r => (htD c w e l r).1) 6) 6).length : Int) = c5D (htD c w e l) 6 := by
 refine d1E (f := htD c w e l) (fun k _ => c4b c w e l k) (fun k hk => ?_) 6 (Nat.le_refl 6)
 have hd : (htD c w e l k).2 = c7m (a27 (b5A b8G (c5a c l k)) (b0B (c14 c w e k) (c5a c l k))) 256 := rfl
 rw [hd]
 unfold d5p
 refine d1f 256 fun i hi => ?_
 have e1 := d4B (f := fun r => (htD c w e l r).1) (n := 6) (fun j _ => c4b c w e l j) hk hi
 have e2 : (htD c w e l k).1.getD i 0 = a27 (b5A b8G (c5a c l k)) (b0B (c14 c w e k) (c5a c l k)) i := i9 hi
 unfold mkP
 rw [e1]
 show (if (htD c w e l k).1.getD i 0 ≠ 0 then [(i : Int)] else []).length = _
 rw [e2]
 split <;> rfl
end Go.Ax.TryP
set_option linter.unusedVariables false
namespace Go.Ax.TryP
open Go.Proofs
theorem c3q {f : Nat → List Int} {z : List Int} {n i : Nat} (hf : ∀ j, j < n → (f j).length = 256) (hi : i < n) : List.take 256 (List.drop (i * 256) (a1h f z (i + 1))) = f i := by
 unfold a1h
 exact c7Q (a0k fun j hj => hf j (by omega)) (hf i hi)
theorem d9Q (rho2 : List Int) (k i : Nat) : E6 256 (yD rho2 k i) := d6r _
theorem d94 {L1 L2 k : Nat} (hk : k ≤ 10000) {rho2 : List Int} (hr : rho2.length = 64 ∧ bytes rho2) {A B C S E L M mu Z Z2 : List Int} (hZ : Z.length = 5 * 256) {β : Type} (K : _ → Option β) :
  m7 (x9 10) 10 (L1, L2, (k : Int), false, (0 : Int), A, B, C, S, E, L, M, L1, mu, L2, rho2, Z, Z2, ()) K = K (.inr (L1, false, A, B, C, S, E, L, M, L1, mu, P7 (yD rho2 k) 5, Z2, ())) := by
 refine i8 (F := x9 10) (s := fun i => (L1, L2, (k : Int), false, (i : Int), A, B, C, S, E, L, M, L1, mu, L2, rho2, a1h (yD rho2 k) Z i, Z2, ())) (y := .inr (L1, false, A, B, C, S, E, L, M, L1, mu, P7 (yD rho2 k) 5, Z2, ())) 5 (by rw [D9]; rfl) ?_ ?_ 10 (by omega)
 ·intro i hi kn
  have hj : (rho2 ++ c9R ((k * 5 + i : Nat) : Int)).length = 66 := by rw [List.length_append, hr.1]; rfl
  unfold x9
  dsimp only
  rw [if_pos (by omega), c7 (x := (k : Int) * 5) (by omega) (by omega), c7 (x := (k : Int) * 5 + (i : Int)) (by omega) (by omega), show (k : Int) * 5 + (i : Int) = ((k * 5 + i : Nat) : Int) by omega, c5u (by omega), Option.bind_some,
   c8J ⟨by omega, hr.2⟩ ⟨by rw [c4X]; omega, c9S _⟩, Option.bind_some, d3H ⟨mB (by omega), J7 hr.2 (c9S _)⟩, Option.bind_some, if_neg (by rw [d6q hj]; simp), if_pos (by omega), if_pos (by omega), if_pos (by omega), Int.toNat_natCast, c7 (by omega) (by omega)]
  exact congrArg kn (by rw [← P6 (f := yD rho2 k) hZ (fun j _ => (d9Q rho2 k j).1) hi]; rfl)
 ·intro kn
  unfold x9
  dsimp only
  rw [if_neg (by omega), P5 hZ]
  rfl
theorem d1X (a : List Int) : E6 256 (b5j a).1 := rows.range fun i _ => by have := d1Y (a.getD i 0); omega
theorem d93 {L1 : Nat} {A B C S E L mu Y Z2 w H : List Int} (hw : E6 (6 * 256) w) (hH : H.length = 6 * 256) {β : Type} (K : _ → Option β) :
  m7 (v0 10) 10 (L1, false, (0 : Int), A, B, C, S, E, L, L1, mu, Y, Z2, w, H, ()) K = K (L1, false, A, B, C, S, E, L, L1, mu, Y, Z2, w, hiD w, ()) := by
 refine i8 (F := v0 10) (s := fun i => (L1, false, (i : Int), A, B, C, S, E, L, L1, mu, Y, Z2, w, a1h (fun r => (b5j (chD w r)).1) H i, ())) (y := (L1, false, A, B, C, S, E, L, L1, mu, Y, Z2, w, hiD w, ())) 6 (by rw [D9]; rfl) ?_ ?_ 10 (by omega)
 ·intro i hi kn
  unfold v0
  dsimp only
  rw [if_pos (by omega), if_pos (by omega), if_pos (by omega), Int.toNat_natCast, if_pos (by omega), show List.take 256 (List.drop (i * 256) w) = chD w i from rfl, c5l (a58 hw hi), Option.bind_some, if_pos (by omega), if_pos (by omega), if_pos (by omega), c7 (by omega) (by omega)]
  exact congrArg kn (by rw [← P6 (f := fun r => (b5j (chD w r)).1) hH (fun j _ => (d1X _).1) hi]; rfl)
 ·intro kn
  unfold v0
  dsimp only
  rw [if_neg (by omega), P5 hH]
  rfl
theorem d81 (c s y : List Int) (i : Nat) : E6 256 (zD c s y i) := b1r _ _
theorem d8O {ct : List Int} (h : ct.length = 48) (c s y : List Int) (n : Nat) : (zT ct c s y n).length = 48 + n * 640 := by
 unfold zT
 rw [List.length_append, h, a0k (w := 640) fun i _ => a6I 20 _]
theorem c7y (a b : List Int) : E6 256 (b0C a b) := c32 _
theorem d9O {ct c : List Int} (hct : ct.length = 48) (hc : E6 256 c) {A B C S E L Y Z w : List Int} (hS : E6 (5 * 256) S) (hY : E6 (5 * 256) Y) (hZ : Z.length = 5 * 256) {β : Type} (K : _ → Option β) :
  ((∀ i, i < 5 → a1t (zD c S Y i) < 524092) → m7 (j9 10) 10 (false, 48, (0 : Int), A, B, C, S, E, L, Y, Z, w, c, 48, ct, ()) K = K (.inr (.inr (false, 48 + 5 * 640, A, B, C, S, E, L, w, c, 48 + 5 * 640, zT ct c S Y 5, ())))) ∧
  (¬ (∀ i, i < 5 → a1t (zD c S Y i) < 524092) → m7 (j9 10) 10 (false, 48, (0 : Int), A, B, C, S, E, L, Y, Z, w, c, 48, ct, ()) K = K (.inl (false, ()))) := by
 have h := c05 (F := j9 10) (K := K) (fun i => (false, 48 + i * 640, (i : Int), A, B, C, S, E, L, Y, a1h (zD c S Y) Z i, w, c, 48 + i * 640, zT ct c S Y i, ())) (fun i => a1t (zD c S Y i) < 524092) (.inl (false, ())) (.inr (.inr (false, 48 + 5 * 640, A, B, C, S, E, L, w, c, 48 + 5 * 640, zT ct c S Y 5, ()))) 5
  (fun i hi kn => by
   have e1 : U4 (c, List.take 256 (List.drop (i * 256) S), ()) = some (b0C c (chD S i)) := c7b hc (a58 hS hi)
   have e2 : Q0 (List.take 256 (List.drop (i * 256) Y), b0C c (chD S i), ()) = some (zD c S Y i) := c5j (a58 hY hi) (c7y _ _)
   have e3 := c0r (d81 c S Y i)
   have hs := P6 (f := zD c S Y) hZ (fun j _ => (d81 c S Y j).1) hi
   have hg := c3q (f := zD c S Y) (z := Z) (n := 5) (fun j _ => (d81 c S Y j).1) hi
   constructor
   ·intro hlt
    have e4 : n9 ((524288 : Int), (20 : Int), zD c S Y i, ()) = some (pkW 20 (a33 524288 (zD c S Y i)), 0) := a9f (d := 20) (by omega) (by omega) (d81 c S Y i) (c5X (m := 524091) (by omega) (by omega) (by omega) (by decide))
    unfold j9
    dsimp only
    rw [if_pos (by omega), if_pos (by omega), if_pos (by omega), Int.toNat_natCast, if_pos (by omega), if_pos (by omega), if_pos (by omega), if_pos (by omega), e1, Option.bind_some, e2, Option.bind_some, hs, hg,
     if_pos (by omega), if_pos (by omega), if_pos (by omega), if_pos (by omega), if_pos (by omega), if_pos (by omega), e3, Option.bind_some, if_neg (by omega), if_pos (by omega), if_pos (by omega), if_pos (by omega), e4, Option.bind_some, if_neg (by simp), a6I, if_pos (by omega), c7 (by omega) (by omega)]
    rw [show 48 + i * 640 + 32 * 20 = 48 + (i + 1) * 640 by omega, show zT ct c S Y i ++ pkW 20 (a33 524288 (zD c S Y i)) = zT ct c S Y (i + 1) by unfold zT; rw [List.append_assoc]; rfl, show (i : Int) + 1 = ((i + 1 : Nat) : Int) by omega, show decide (false = true) = false from rfl]
   ·intro hlt
    unfold j9
    dsimp only
    rw [if_pos (by omega), if_pos (by omega), if_pos (by omega), Int.toNat_natCast, if_pos (by omega), if_pos (by omega), if_pos (by omega), if_pos (by omega), e1, Option.bind_some, e2, Option.bind_some, hs, hg,
     if_pos (by omega), if_pos (by omega), if_pos (by omega), if_pos (by omega), if_pos (by omega), if_pos (by omega), e3, Option.bind_some, if_pos (by omega)])
  (fun kn => by
   unfold j9
   dsimp only
   rw [if_neg (by omega)]
   rfl) 5 0 10 (by omega) (by omega)
 rw [D9, Nat.zero_mul, Nat.add_zero, show zT ct c S Y 0 = ct by simp [zT, P7]] at h
 exact ⟨fun hh => h.1 fun r _ hr6 => hh r hr6, fun hh => h.2 fun hh' => hh fun r hr6 => hh' r (Nat.zero_le _) hr6⟩
theorem d5b {c w e l : List Int} : ∀ n, 0 ≤ c5D (htD c w e l) n ∧ c5D (htD c w e l) n ≤ 256 * n
 | 0 => by simp [c5D]
 | n + 1 => by
  have ih := d5b (c := c) (w := w) (e := e) (l := l) n
  have h : (htD c w e l n).2 = c7m (a27 (b5A b8G (c5a c l n)) (b0B (c14 c w e n) (c5a c l n))) 256 := rfl
  have := d5c (a27 (b5A b8G (c5a c l n)) (b0B (c14 c w e n) (c5a c l n))) 256
  rw [← h] at this
  rw [c5D]
  omega
theorem d31 : E6 256 b8G := rows.zero (by omega) 256
theorem d6c (a : List Int) : E6 256 (b5j a).2 := rows.range fun i _ => by have := d9f (a.getD i 0); omega
theorem d9N {n1 : Nat} {sig c : List Int} (hc : E6 256 c) {A B C S E L w H : List Int} (hE : E6 (6 * 256) E) (hL : E6 (6 * 256) L) (hw : E6 (6 * 256) w) (hH : H.length = 6 * 256) {β : Type} (K : _ → Option β) :
  ((∀ i, i < 6 → d2E c w E L i) → m7 (k0 10) 10 (false, n1, (0 : Int), (0 : Int), A, B, C, S, E, L, w, c, n1, sig, H, ()) K = K (.inr (false, n1, c5D (htD c w E L) 6, n1, sig, P7 (fun r => (htD c w E L r).1) 6, ()))) ∧
  (¬ (∀ i, i < 6 → d2E c w E L i) → m7 (k0 10) 10 (false, n1, (0 : Int), (0 : Int), A, B, C, S, E, L, w, c, n1, sig, H, ()) K = K (.inl (false, ()))) := by
 have h := c05 (F := k0 10) (K := K) (fun i => (false, n1, c5D (htD c w E L) i, (i : Int), A, B, C, S, E, L, w, c, n1, sig, a1h (fun r => (htD c w E L r).1) H i, ())) (fun i => d2E c w E L i) (.inl (false, ())) (.inr (false, n1, c5D (htD c w E L) 6, n1, sig, P7 (fun r => (htD c w E L r).1) 6, ())) 6
  (fun i hi kn => by
   have e1 : U4 (c, List.take 256 (List.drop (i * 256) E), ()) = some (b0C c (chD E i)) := c7b hc (a58 hE hi)
   have e2 : a0x (List.take 256 (List.drop (i * 256) w), b0C c (chD E i), ()) = some (c14 c w E i) := d1m (a58 hw hi) (c7y _ _)
   have e3 : U4 (c, List.take 256 (List.drop (i * 256) L), ()) = some (c5a c L i) := c7b hc (a58 hL hi)
   have hr : E6 256 (c14 c w E i) := c0T _ _
   have hl : E6 256 (c5a c L i) := c7y _ _
   have e4 := c5l hr
   have e5 := c0r (d6c (c14 c w E i))
   have e6 := c0r hl
   have e7 : a0x (List.replicate 256 0, c5a c L i, ()) = some (b5A b8G (c5a c L i)) := d1m d31 hl
   have e8 := c5j hr hl
   have e9 : X6 (b5A b8G (c5a c L i), b0B (c14 c w E i) (c5a c L i), ()) = some (htD c w E L i) := d5J (c0T _ _) (b1r _ _)
   have hs := P6 (f := fun r => (htD c w E L r).1) hH (fun j _ => c4b c w E L j) hi
   have hcb := d5b (c := c) (w := w) (e := E) (l := L) (i + 1)
   have hcs : c5D (htD c w E L) (i + 1) = c5D (htD c w E L) i + (htD c w E L i).2 := rfl
   constructor
   ·intro hlt
    have h1 := hlt.1
    have h2 := hlt.2
    unfold k0
    dsimp only
    rw [if_pos (by omega), if_pos (by omega), if_pos (by omega), Int.toNat_natCast, if_pos (by omega), if_pos (by omega), if_pos (by omega), if_pos (by omega), e1, Option.bind_some, e2, Option.bind_some, if_pos (by omega), if_pos (by omega), if_pos (by omega), e3, Option.bind_some, e4, Option.bind_some, e5, Option.bind_some, if_neg (by omega), e6, Option.bind_some, if_neg (by omega),
     e7, Option.bind_some, e8, Option.bind_some, e9, Option.bind_some, if_pos (by omega), if_pos (by omega), if_pos (by omega), hs, c7 (x := c5D (htD c w E L) i + (htD c w E L i).2) (by omega) (by omega), c7 (by omega) (by omega)]
    rfl
   ·intro hlt
    unfold k0
    dsimp only
    rw [if_pos (by omega), if_pos (by omega), if_pos (by omega), Int.toNat_natCast, if_pos (by omega), if_pos (by omega), if_pos (by omega), if_pos (by omega), e1, Option.bind_some, e2, Option.bind_some, if_pos (by omega), if_pos (by omega), if_pos (by omega), e3, Option.bind_some, e4, Option.bind_some, e5, Option.bind_some]
    by_cases h1 : a1t (b5j (c14 c w E i)).2 < 261692
    ·have h2 : ¬ a1t (c5a c L i) < 261888 := fun h2 => hlt ⟨h1, h2⟩
     rw [if_neg (by omega), e6, Option.bind_some, if_pos (by omega)]
    ·rw [if_pos (by omega)])
  (fun kn => by
   unfold k0
   dsimp only
   rw [if_neg (by omega), P5 hH]
   rfl) 6 0 10 (by omega) (by omega)
 rw [D9] at h
 exact ⟨fun hh => h.1 fun r _ hr6 => hh r hr6, fun hh => h.2 fun hh' => hh fun r hr6 => hh' r (Nat.zero_le _) hr6⟩
end Go.Ax.TryP
set_option linter.unusedVariables false
namespace Go.Ax.TryP
open Go.Proofs
theorem d9h (w : List Int) : E6 (6 * 256) (hiD w) := a4i (f := fun r => (b5j (chD w r)).1) (fun r => d1X _) 6
theorem d6d {a : List Int} {i : Nat} (hi : i < 256) : (b5j a).1.getD i 0 = fDh (a.getD i 0) := by
 unfold b5j
 dsimp only
 exact i9 hi
theorem d71 (w : List Int) {r : Nat} (hr : r < 6) : inW 4 (B8 (chD (hiD w) r)) := by
 intro i hi
 have e : chD (hiD w) r = (b5j (chD w r)).1 := a9h (f := fun r => (b5j (chD w r)).1) (fun j _ => (d1X _).1) hr
 rw [e, b2B hi, d6d hi]
 have := d1Y ((chD w r).getD i 0)
 have h4 : (2 : Int) ^ 4 = 16 := by decide
 omega
theorem c4a (c w e l : List Int) : (hrow c w e l).length = 6 * 256 := a0k fun i _ => c4b c w e l i
theorem d2V {p : Int → Prop} {f : Nat → List Int} (h : ∀ i, ∀ z ∈ f i, p z) : ∀ n, ∀ z ∈ P7 f n, p z
 | 0, z, hz => by simp [P7] at hz
 | n + 1, z, hz => by
  rcases List.mem_append.1 hz with hz | hz
  ·exact d2V h n z hz
  ·exact h n z hz
theorem d6j (c w e l : List Int) : ∀ z ∈ hrow c w e l, z = 0 ∨ z = 1 := d2V (f := fun r => (htD c w e l r).1) (fun i => (d6i _ _).2) 6
theorem d3I (c w e l : List Int) : a06 (hrow c w e l, 55, ()) = some (c4y (hrow c w e l) 55) :=
 d8 (ks := H5) (rs := H6) (x := (hrow c w e l, 55, ())) ⟨⟨⟨6, c4a c w e l, mB (by omega)⟩, d6j c w e l⟩, u2.2 (show -9223372036854775808 ≤ (55 : Int) ∧ (55 : Int) ≤ 9223372036854775807 by omega), trivial⟩ trivial
theorem c9w {c w e l : List Int} (h : c5D (htD c w e l) 6 ≤ 55) : (c4y (hrow c w e l) 55).2 = 0 ∧ (c4y (hrow c w e l) 55).1.length = 61 := by
 have ha := d5Z c w e l
 have hl := c4a c w e l
 have h6 : (hrow c w e l).length / 256 = 6 := by rw [hl]
 have hle : ((b0d (hrow c w e l) 6).length : Int) ≤ 55 := by show ((b0d (P7 (fun r => (htD c w e l r).1) 6) 6).length : Int) ≤ 55; omega
 unfold c4y
 rw [h6, if_neg (by omega), if_neg (by omega)]
 refine ⟨rfl, ?_⟩
 dsimp only
 rw [List.length_append, List.length_append, List.length_replicate, List.length_map, List.length_range]
 omega
theorem d3i {x : Sec} {m mu rho2 : List Int} {k : Nat} : d4L x m mu rho2 k = d80 x (ctD m mu rho2 k) (a47 49 (ctD m mu rho2 k)) (P7 (yD rho2 k) 5) (wD m rho2 k) := rfl
theorem b9X : ∀ x r, X7 x = some r → ∃ N, Y8 N x = some (xr r) := by
 refine b5l (ks := L6) (rs := L7) fun x hw hq => ⟨10, ?_⟩
 obtain ⟨⟨(rho : List Int), (kk : List Int), (tr : List Int), (S : List Int), (E : List Int), (L : List Int), u0⟩, (m : List Int), (mu : List Int), (rho2 : List Int), (k : Int), u⟩ := x
 have hS : E6 (5 * 256) S := v8.1 hw.1.2.2.2.1
 have hE : E6 (6 * 256) E := v8.1 hw.1.2.2.2.2.1
 have hL : E6 (6 * 256) L := v8.1 hw.1.2.2.2.2.2.1
 have hm : E6 (30 * 256) m := v8.1 hw.2.1
 have hmu : mu.length ≤ maxLen ∧ bytes mu := M8.1 hw.2.2.1
 have hr2 : rho2.length ≤ maxLen ∧ bytes rho2 := M8.1 hw.2.2.2.1
 have hml : mu.length ≤ 1000 := hq.1
 have hrl : rho2.length = 64 := hq.2.1
 have hk : 0 ≤ k ∧ k ≤ 10000 := hq.2.2
 obtain ⟨k, rfl⟩ : ∃ n : Nat, k = n := ⟨k.toNat, by omega⟩
 show Y8 10 ((rho, kk, tr, S, E, L, u0), m, mu, rho2, (k : Int), u) = some (xr (d4L (rho, kk, tr, S, E, L, u0) m mu rho2 ((k : Int)).toNat))
 rw [Int.toNat_natCast, d3i]
 have hZ5 : (List.replicate 1280 (0 : Int)).length = 5 * 256 := by rw [List.length_replicate]
 have hZ6 : (List.replicate 1536 (0 : Int)).length = 6 * 256 := by rw [List.length_replicate]
 unfold Y8
 dsimp only
 generalize List.replicate 1280 (0 : Int) = Z5 at hZ5 ⊢
 generalize List.replicate 1536 (0 : Int) = Z6 at hZ6 ⊢
 have hy : E6 (5 * 256) (P7 (yD rho2 k) 5) := a4i (d9Q rho2 k) 5
 have hwi : E6 (6 * 256) (wD m rho2 k) := c9P _ _
 refine (d94 (k := k) (by omega) ⟨hrl, hr2.2⟩ hZ5 _).trans ?_
 dsimp only
 rw [c5r hm hy, Option.bind_some, show b0x m (P7 (yD rho2 k) 5) = wD m rho2 k from rfl]
 refine (d93 hwi hZ6 _).trans ?_
 dsimp only
 rw [d1o ⟨hml, hmu.2⟩ (d9h _) (fun r hr => d71 _ hr), Option.bind_some, show c2q mu (hiD (wD m rho2 k)) = ctD m mu rho2 k from rfl]
 have hct : (ctD m mu rho2 k).length = 48 ∧ bytes (ctD m mu rho2 k) := ⟨c0A _ _, c7l _ _⟩
 generalize wD m rho2 k = w at hwi ⊢
 generalize ctD m mu rho2 k = ct at hct ⊢
 generalize P7 (yD rho2 k) 5 = y at hy ⊢
 rw [c8E ⟨by omega, hct.2⟩, Option.bind_some]
 have hci := d1u ct
 generalize a47 49 ct = b at hci ⊢
 obtain ⟨c, e⟩ := b
 have hci : E6 256 c := hci
 unfold d80
 dsimp only
 by_cases hb : e = 0
 ·rw [if_neg (by rw [hb]; simp), c8I ⟨by omega, hct.2⟩, Option.bind_some, hct.1, decide_eq_false (by rw [hb]; simp)]
  by_cases c1 : ∀ i, i < 5 → a1t (zD c S y i) < 524092
  ·refine ((d9O hct.1 hci hS hy hZ5 _).1 c1).trans ?_
   dsimp only
   rw [if_pos (by decide), if_pos rfl, if_pos (by decide)]
   by_cases c2 : ∀ i, i < 6 → d2E c w E L i
   ·refine ((d9N hci hE hL hwi hZ6 _).1 c2).trans ?_
    dsimp only
    by_cases c3 : c5D (htD c w E L) 6 ≤ 55
    ·obtain ⟨h1, h2⟩ := c9w c3
     rw [if_neg (by omega), show P7 (fun r => (htD c w E L r).1) 6 = hrow c w E L from rfl, d3I, Option.bind_some, if_neg (by rw [h1]; simp), h2, if_pos (by omega), a1r (p := c4l c S E L y w) ⟨c1, c2, c3⟩]
     rfl
    ·rw [if_pos (by omega), a0b (p := c4l c S E L y w) (fun h => c3 h.2.2)]
     rfl
   ·refine ((d9N hci hE hL hwi hZ6 _).2 c2).trans ?_
    rw [a0b (p := c4l c S E L y w) (fun h => c2 h.2.1)]
    rfl
  ·refine ((d9O hct.1 hci hS hy hZ5 _).2 c1).trans ?_
   rw [a0b (p := c4l c S E L y w) (fun h => c1 h.1)]
   rfl
 ·rw [if_pos hb, decide_eq_true hb]
  rfl
theorem d7A {x : Sec} {m mu rho2 : List Int} {k : Nat} (hx : c46 [.fs (.int .u8), .fs (.int .u8), .fs (.int .u8), .xs (.int .i32) 1280, .xs (.int .i32) 1536, .xs (.int .i32) 1536] x) (hm : E6 (30 * 256) m) (hmu : mu.length ≤ 1000 ∧ bytes mu) (hr : rho2.length = 64 ∧ bytes rho2) (hk : k ≤ 10000) :
  X7 (x, m, mu, rho2, (k : Int), ()) = some (d4L x m mu rho2 k) :=
 b5k (ks := L6) (rs := L7) (x := (x, m, mu, rho2, (k : Int), ())) (Q := fun x => x.2.2.1.length ≤ 1000 ∧ x.2.2.2.1.length = 64 ∧ 0 ≤ x.2.2.2.2.1 ∧ x.2.2.2.2.1 ≤ 10000) (f := fun x => d4L x.1 x.2.1 x.2.2.1 x.2.2.2.1 x.2.2.2.2.1.toNat)
  ⟨hx, v8.2 hm, M8.2 ⟨mB (Nat.le_trans hmu.1 (by decide)), hmu.2⟩, M8.2 ⟨mB (by rw [hr.1]; decide), hr.2⟩, d08 ⟨by show 0 ≤ (k : Int); omega, by show (k : Int) ≤ 1000000; omega⟩, trivial⟩ ⟨hmu.1, hr.1, by show 0 ≤ (k : Int); omega, by show (k : Int) ≤ 10000; omega⟩
end Go.Ax.TryP
set_option linter.unusedVariables false
namespace Go.Ax.TryP
open Go.Proofs
theorem c3H {n : Nat} {a : List Int} : Kd.wf (.xs (.int .u8) n) a ↔ a.length = n ∧ bytes a := by simp [Kd.wf, bytes, U6]
abbrev SgO : Type := (Int × List Int × Unit) ⊕ ((Nat × List Int × Nat × List Int × Unit) ⊕ (List Int × Unit))
def d8t (t : Nat → Bool × Int × (List Int × Bool)) (k : Nat) : Nat → SgO
 | 0 => .inr (.inr ([0], ()))
 | n + 1 => if (t k).1 = true then .inl ((t k).2.1, [0], ()) else if ¬ (t k).2.2.2 = true then d8t t (k + 1) n else .inr (.inl ((t k).2.2.1.length, List.set [0] 0 0, (t k).2.2.1.length, (t k).2.2.1, ()))
def sgK : SgO → Option (List Int × Int)
 | .inl y6 => some ([], List.getD (List.set y6.2.1 0 y6.1) 0 0)
 | .inr (.inl y7) => some (y7.2.2.2.1, List.getD y7.2.1 0 0)
 | .inr (.inr y8) => some ([], List.getD (List.set y8.1 0 (162 : Int)) 0 0)
theorem c9H (t : Nat → Bool × Int × (List Int × Bool)) : ∀ n k, sgK (d8t t k n) = some (d0O t k n)
 | 0, k => rfl
 | n + 1, k => by
  unfold d8t d0O
  by_cases h : (t k).1 = true
  ·rw [if_pos h, if_pos h]; rfl
  ·rw [if_neg h, if_neg h]
   by_cases h2 : (t k).2.2.2 = true
   ·rw [if_neg (fun hh => hh h2), if_pos h2]; rfl
   ·rw [if_pos h2, if_neg h2]; exact c9H t n (k + 1)
theorem d5t {x : Sec} {m mu rho2 : List Int} (hx : c46 [.fs (.int .u8), .fs (.int .u8), .fs (.int .u8), .xs (.int .i32) 1280, .xs (.int .i32) 1536, .xs (.int .i32) 1536] x) (hm : E6 (30 * 256) m) (hmu : mu.length ≤ 1000 ∧ bytes mu) (hr : rho2.length = 64 ∧ bytes rho2) {N L1 L2 : Nat} {β : Type} (K : SgO → Option β) :
  ∀ n k j : Nat, k + n ≤ 10000 → n < j → m7 (Y7 N) j (((k + n : Nat) : Int), L1, L2, (k : Int), [0], x.1, x.2.1, x.2.2.1, x.2.2.2.1, x.2.2.2.2.1, x.2.2.2.2.2.1, L1, mu, L2, rho2, m, ()) K = K (d8t (d4L x m mu rho2) k n)
 | 0, k, j + 1, h1, h2 => by
  rw [c4f]
  unfold Y7
  dsimp only
  rw [if_neg (by omega)]
  rfl
 | n + 1, k, j + 1, h1, h2 => by
  rw [c4f]
  unfold Y7
  dsimp only
  rw [if_pos (by omega)]
  have e := d7A (x := x) hx hm hmu hr (k := k) (by omega)
  have e : X7 ((x.1, x.2.1, x.2.2.1, x.2.2.2.1, x.2.2.2.2.1, x.2.2.2.2.2.1, ()), m, mu, rho2, (k : Int), ()) = some (d4L x m mu rho2 k) := e
  rw [e, Option.bind_some]
  unfold d8t
  generalize hT : d4L x m mu rho2 = T
  by_cases h : (T k).1 = true
  ·rw [if_pos h, if_pos h]
  ·rw [if_neg h, if_neg h]
   by_cases h3 : (T k).2.2.2 = true
   ·rw [if_neg (fun hh => hh h3), if_neg (fun hh => hh h3)]
   ·rw [if_pos h3, if_pos h3, c7 (by omega) (by omega), ← hT]
    have ih := d5t hx hm hmu hr (N := N) (L1 := L1) (L2 := L2) K n (k + 1) j (by omega) (by omega)
    rw [show k + 1 + n = k + (n + 1) by omega] at ih
    exact ih
theorem d6R {sk : List Int} (hl : sk.length = 4032) (hb : bytes sk) : c46 [.fs (.int .u8), .fs (.int .u8), .fs (.int .u8), .xs (.int .i32) 1280, .xs (.int .i32) 1536, .xs (.int .i32) 1536] (d1b sk) := by
 have hS := a4i (f := skP sk) (fun i => c3G (by omega) (by omega) _) 5
 have hE := a4i (f := fun i => skP sk (5 + i)) (fun i => c3G (by omega) (by omega) _) 6
 have hL := a4i (f := skL sk) (fun i => c3G (by omega) (by omega) _) 6
 have hc : ∀ a n, a + n ≤ 4032 → (X5 sk a n).length ≤ maxLen ∧ bytes (X5 sk a n) := fun a n h => ⟨mB (by rw [U1 (by omega)]; omega), D3 hb _ _⟩
 exact ⟨M8.2 (hc 0 32 (by omega)), M8.2 (hc 32 32 (by omega)), M8.2 (hc 64 64 (by omega)), v8.2 hS, v8.2 hE, v8.2 hL, trivial⟩
theorem d0I : ∀ x r, a8s x = some r → ∃ N, a8N N x = some r := by
 refine d9 (ks := a3n) (rs := a3o) fun x hw hq => ⟨20000, ?_⟩
 obtain ⟨(sk : List Int), (msg : List Int), (ctx : List Int), (rnd : List Int), (most : Int), u⟩ := x
 have hsk : sk.length ≤ maxLen ∧ bytes sk := M8.1 hw.1
 have hmsg : msg.length ≤ maxLen ∧ bytes msg := M8.1 hw.2.1
 have hctx : ctx.length ≤ maxLen ∧ bytes ctx := M8.1 hw.2.2.1
 have hrnd : rnd.length = 32 ∧ bytes rnd := c3H.1 hw.2.2.2.1
 have hmost : most ≤ 10000 := hq
 show a8N 20000 (sk, msg, ctx, rnd, most, u) = some (b3C sk msg ctx rnd most)
 generalize hN : 20000 = N
 unfold a8N b3C
 dsimp only
 rw [d5Q hsk, Option.bind_some]
 by_cases hok : d2F sk
 ·have hl := hok.1
  rw [d8E (fun h => h hok), if_neg (by simp), a0b (fun h => h hok)]
  by_cases h1 : 255 < ctx.length
  ·rw [if_pos (by omega), if_pos h1]; rfl
  ·rw [if_neg (by omega), if_neg h1]
   by_cases h2 : most < 1
   ·rw [if_pos h2, if_pos h2]; rfl
   ·rw [if_neg h2, if_neg h2]
    have htr : (X5 sk 64 64).length ≤ maxLen ∧ bytes (X5 sk 64 64) := ⟨mB (by rw [U1 (by omega)]; omega), D3 hsk.2 _ _⟩
    have hk : (X5 sk 32 32).length = 32 ∧ bytes (X5 sk 32 32) := ⟨U1 (by omega), D3 hsk.2 _ _⟩
    have hrho : (X5 sk 0 32).length = 32 ∧ bytes (X5 sk 0 32) := ⟨U1 (by omega), D3 hsk.2 _ _⟩
    have hmu : (muS sk msg ctx).length = 64 ∧ bytes (muS sk msg ctx) := ⟨a1j _ _, a7A _ _⟩
    have e1 : a2t ((d1b sk).2.2.1, msg, ctx, ()) = some (muS sk msg ctx) := c8K htr hmsg hctx
    have e2 : N6 ((d1b sk).1, ()) = some (b1f (X5 sk 0 32), 130, (c1b (X5 sk 0 32), ())) := c0u hrho
    have e3 : J2 ((64 : Int), [(d1b sk).2.1, List.take 32 (List.drop 0 rnd), muS sk msg ctx], ()) = some (d3w sk rnd (muS sk msg ctx)) := by
     have e := b7h (n := 64) (l := [X5 sk 32 32, rnd, muS sk msg ctx]) (by omega) ⟨mB (by simp), fun zs hzs => by
      rcases List.mem_cons.1 hzs with rfl | hzs
      ·exact ⟨mB (by omega), hk.2⟩
      rcases List.mem_cons.1 hzs with rfl | hzs
      ·exact ⟨mB (by omega), hrnd.2⟩
      ·rw [List.mem_singleton.1 hzs]; exact ⟨mB (by omega), hmu.2⟩⟩
     rw [List.drop_zero, List.take_of_length_le (by omega)]
     refine e.trans ?_
     unfold d3w
     simp
    have hr2 : (d3w sk rnd (muS sk msg ctx)).length = 64 ∧ bytes (d3w sk rnd (muS sk msg ctx)) := ⟨a1j _ _, a7A _ _⟩
    rw [e1, Option.bind_some, e3, Option.bind_some, e2, Option.bind_some]
    by_cases hM : a3L (X5 sk 0 32)
    ·rw [b5q hM, if_neg (by simp), a0b (fun h => h hM)]
     have hx := d6R hl hsk.2
     unfold d7q
     have hmi := d2q (X5 sk 0 32)
     generalize c1b (X5 sk 0 32) = m at hmi ⊢
     generalize d1b sk = X at hx ⊢
     generalize d3w sk rnd (muS sk msg ctx) = rho2 at hr2 ⊢
     generalize muS sk msg ctx = mu at hmu ⊢
     obtain ⟨k, rfl⟩ : ∃ n : Nat, most = n := ⟨most.toNat, by omega⟩
     have h := d5t (N := N) (L1 := mu.length) (L2 := rho2.length) hx hmi ⟨by omega, hmu.2⟩ hr2 sgK k 0 N (by omega) (by omega)
     rw [c9H, Nat.zero_add] at h
     rw [Int.toNat_natCast]
     refine Eq.trans ?_ h
     refine congrArg _ (funext fun y => ?_)
     rcases y with y | y | y <;> rfl
    ·rw [b2w hM, if_pos rfl, a1r hM]; rfl
 ·rw [c9O hok, if_pos rfl, a1r hok]; rfl
theorem d5L {sk msg ctx rnd : List Int} {most : Int} (h1 : sk.length ≤ maxLen ∧ bytes sk) (h2 : msg.length ≤ maxLen ∧ bytes msg) (h3 : ctx.length ≤ maxLen ∧ bytes ctx) (h4 : rnd.length = 32 ∧ bytes rnd) (h5 : 0 ≤ most ∧ most ≤ 10000) : a8s (sk, msg, ctx, rnd, most, ()) = some (b3C sk msg ctx rnd most) :=
 d8 (ks := a3n) (rs := a3o) (x := (sk, msg, ctx, rnd, most, ())) ⟨M8.2 h1, M8.2 h2, M8.2 h3, c3H.2 h4, u2.2 (show -9223372036854775808 ≤ most ∧ most ≤ 9223372036854775807 by omega), trivial⟩ h5.2
end Go.Ax.TryP
set_option linter.unusedVariables false
namespace Go.Ax.TryP
open Go.Proofs
theorem d82 (sig : List Int) (i : Nat) : E6 256 (zV sig i) := c3G (by omega) (by omega) _
theorem d9P {sig : List Int} (hl : sig.length = 3309) (hb : bytes sig) {L1 L2 : Nat} {mu Z pk : List Int} (hZ : Z.length = 5 * 256) {β : Type} (K : _ → Option β) :
  (d8d sig → m7 (u7 300) 300 (L1, 3309, (0 : Int), [0], L2, 48, 3261, 3261, L1, mu, 3309, sig, Z, L2, pk, ()) K = K (.inr (.inr (L1, 3309, [0], L2, 3248, 61, 61, L1, mu, 3309, sig, P7 (zV sig) 5, L2, pk, ())))) ∧
  (¬ d8d sig → m7 (u7 300) 300 (L1, 3309, (0 : Int), [0], L2, 48, 3261, 3261, L1, mu, 3309, sig, Z, L2, pk, ()) K = K (.inr (.inl (List.set [0] 0 (70 : Int), ())))) := by
 have h := c05 (F := u7 300) (K := K) (fun i => (L1, 3309, (i : Int), [0], L2, 48 + 640 * i, 3261 - 640 * i, 3261 - 640 * i, L1, mu, 3309, sig, a1h (zV sig) Z i, L2, pk, ())) (fun i => a1t (zV sig i) < 524092) (.inr (.inl (List.set [0] 0 (70 : Int), ()))) (.inr (.inr (L1, 3309, [0], L2, 3248, 61, 61, L1, mu, 3309, sig, P7 (zV sig) 5, L2, pk, ()))) 5
  (fun i hi kn => by
   have e1 : j4 ((524288 : Int), (20 : Int), List.take 640 (List.drop (48 + 640 * i) sig), ()) = some (zV sig i, 0) :=
    a5y (n := 20) (t := 524288) (b := X5 sig (48 + 640 * i) 640) (by omega) ⟨by omega, by omega, by rw [U1 (by omega)]⟩ (D3 hb _ _)
   have e3 := c0r (d82 sig i)
   have hs := P6 (f := zV sig) hZ (fun j _ => (d82 sig j).1) hi
   have hg := c3q (f := zV sig) (z := Z) (n := 5) (fun j _ => (d82 sig j).1) hi
   constructor
   ·intro hlt
    unfold u7
    dsimp only
    rw [if_pos (by omega), if_pos (by omega), if_pos (by omega), if_pos (by omega), if_pos (by omega), a2r, Nat.add_zero, e1, Option.bind_some, if_neg (by simp), if_pos (by omega), if_pos (by omega), if_pos (by omega), if_pos (by omega), if_pos (by omega), if_pos (by omega), Int.toNat_natCast, hs, hg, e3, Option.bind_some, if_neg (by omega), a2r, c7 (by omega) (by omega), show 48 + 640 * i + 640 = 48 + 640 * (i + 1) by omega, show 3261 - 640 * i - 640 = 3261 - 640 * (i + 1) by omega, show (i : Int) + 1 = ((i + 1 : Nat) : Int) by omega]
   ·intro hlt
    unfold u7
    dsimp only
    rw [if_pos (by omega), if_pos (by omega), if_pos (by omega), if_pos (by omega), if_pos (by omega), a2r, Nat.add_zero, e1, Option.bind_some, if_neg (by simp), if_pos (by omega), if_pos (by omega), if_pos (by omega), if_pos (by omega), if_pos (by omega), if_pos (by omega), Int.toNat_natCast, hs, hg, e3, Option.bind_some, if_pos (by omega)])
  (fun kn => by
   unfold u7
   dsimp only
   rw [if_neg (by omega), P5 hZ]) 5 0 300 (by omega) (by omega)
 rw [D9] at h
 exact ⟨fun hh => h.1 fun r _ hr6 => hh r hr6, fun hh => h.2 fun hh' => hh fun r hr6 => hh' r (Nat.zero_le _) hr6⟩
theorem d96 {A : List Int} (hA : A.length = 256) (hb : ∀ z ∈ A, 0 ≤ z ∧ z < 1024) {a1 a2 a3 : Nat} {i1 i2 : Int} {l1 : List Int} {a4 a5 a6 a7 : Nat} {l2 : List Int} {a8 : Nat} {l3 : List Int} {a9 : Nat} {l4 l5 l6 l7 : List Int} {a10 : Nat} {l8 : List Int} {β : Type} (K : _ → Option β) :
  m7 (G7 300) 300 (a1, a2, a3, i1, i2, (0 : Int), l1, a4, a5, a6, a7, l2, a8, l3, a9, l4, l5, l6, l7, A, a10, l8, ()) K = K (a1, a2, a3, i1, i2, l1, a4, a5, a6, a7, l2, a8, l3, a9, l4, l5, l6, l7, (List.range 256).map (fun i => A.getD i 0 * 8192), a10, l8, ()) := by
 refine i8 (F := G7 300) (s := fun i => (a1, a2, a3, i1, i2, (i : Int), l1, a4, a5, a6, a7, l2, a8, l3, a9, l4, l5, l6, l7, part (fun i => A.getD i 0 * 8192) i A, a10, l8, ())) (y := (a1, a2, a3, i1, i2, l1, a4, a5, a6, a7, l2, a8, l3, a9, l4, l5, l6, l7, (List.range 256).map (fun i => A.getD i 0 * 8192), a10, l8, ())) 256 (by rw [b6M]; rfl) ?_ ?_ 300 (by omega)
 ·intro i hi kn
  have hv : 0 ≤ A.getD i 0 ∧ A.getD i 0 < 1024 := hb _ (a5E (by omega))
  obtain ⟨m, hm⟩ : ∃ m : Nat, A.getD i 0 = m := ⟨(A.getD i 0).toNat, by omega⟩
  have e : b0E .i32 ((part (fun i => A.getD i 0 * 8192) i A).getD i 0) (13 : Int) = A.getD i 0 * 8192 := by
   rw [b6L (Nat.le_refl i), hm]
   refine (b5D (m := m) (s := 13) (by decide) (by omega)).trans ?_
   omega
  unfold G7
  dsimp only
  rw [if_pos (by omega), if_pos (by omega), if_pos (by omega), if_pos (by omega), if_pos (by omega), if_pos (by omega), if_pos (by omega), Int.toNat_natCast, e, u3 (h := fun i => A.getD i 0 * 8192) (by omega) rfl, c7 (by omega) (by omega)]
  rfl
 ·intro kn
  unfold G7
  dsimp only
  rw [if_neg (by omega), B7 hA]
theorem d8G (b : List Int) : ∀ z ∈ c9U 10 b, 0 ≤ z ∧ z < 1024 := by
 intro z hz
 obtain ⟨i, _, rfl⟩ := List.mem_map.1 hz
 have h := c3E (n := 10) (c := fun k => b7j b (i * 10 + k)) fun s _ => c3O b _
 have e : (2 : Int) ^ 10 = 1024 := by decide
 omega
theorem d92 (pk : List Int) (r : Nat) : E6 256 (tV pk r) := by
 refine rows.range fun i hi => ?_
 have := d8G (X5 pk (32 + 320 * r) 320) _ (a5E (i := i) (by unfold c9U; rw [a1A]; exact hi))
 omega
theorem d7S (h r : List Int) : E6 256 (d6e h r) := rows.range fun i _ => by
 have := d1Y (r.getD i 0)
 unfold b67
 split
 ·split <;> omega
 ·omega
theorem d6f (h r : List Int) : inW 4 (B8 (d6e h r)) := by
 intro i hi
 rw [b2B hi, show (d6e h r).getD i 0 = b67 (h.getD i 0) (r.getD i 0) from i9 hi]
 have := d1Y (r.getD i 0)
 have h4 : (2 : Int) ^ 4 = 16 := by decide
 unfold b67
 split
 ·split <;> omega
 ·omega
theorem d7b (pk h c m z : List Int) (r : Nat) : E6 256 (upV pk h c m z r) := d7S _ _
theorem d95 {pk : List Int} (hl : pk.length = 1952) (hb : bytes pk) {H c m z High : List Int} (hc : E6 256 c) (hH : H.length = 6 * 256) (hH1 : ∀ x ∈ H, x = 0 ∨ x = 1) (hHi : High.length = 6 * 256) {L1 L3 : Nat} {mu sig : List Int} {β : Type} (K : _ → Option β) :
  m7 (G6 300) 300 (L1, L3, 6, (0 : Int), [0], 32, 1920, 1920, L1, mu, L3, sig, 6 * 256, H, a05 c, a93 m z, High, 1952, pk, ()) K = K (.inr (L1, L3, [0], L1, mu, L3, sig, P7 (upV pk H c m z) 6, ())) := by
 refine i8 (F := G6 300) (s := fun i => (L1, L3, 6, (i : Int), [0], 32 + 320 * i, 1920 - 320 * i, 1920 - 320 * i, L1, mu, L3, sig, 6 * 256, H, a05 c, a93 m z, a1h (upV pk H c m z) High i, 1952, pk, ())) (y := .inr (L1, L3, [0], L1, mu, L3, sig, P7 (upV pk H c m z) 6, ())) 6 (by rw [D9]; rfl) ?_ ?_ 300 (by omega)
 ·intro i hi kn
  have e1 : Z9 ((10 : Int), List.take 320 (List.drop (32 + 320 * i) pk), ()) = some (c9U 10 (X5 pk (32 + 320 * i) 320), 0) :=
   c5o (n := 10) (b := X5 pk (32 + 320 * i) 320) ⟨by omega, by omega, by rw [U1 (by omega)]⟩ (D3 hb _ _)
  have hR : ∀ j, j < 6 → (b7b m z j 5).length = 256 := fun j _ => (a5T m z j 5).1
  have e2 : List.take 256 (List.drop (i * 256) (a93 m z)) = b7b m z i 5 := a9h (f := fun r => b7b m z r 5) hR hi
  have e3 := c0o (d92 pk i)
  have e4 := c0q (c33 c) (c33 (tV pk i))
  have e5 := d1m (a5T m z i 5) (c3h (a05 c) (a05 (tV pk i)))
  have e6 := c7a (c0T (b7b m z i 5) (a6d (a05 c) (a05 (tV pk i))))
  have hh : (chD H i).length = 256 ∧ ∀ x ∈ chD H i, x = 0 ∨ x = 1 := ⟨c3S hH hi, fun x hx => hH1 x (List.mem_of_mem_drop (List.mem_of_mem_take hx))⟩
  have e7 : a0y (List.take 256 (List.drop (i * 256) H), b4a (b5A (b7b m z i 5) (a6d (a05 c) (a05 (tV pk i)))), ()) = some (upV pk H c m z i) := d7y hh (c32 _)
  have hs := P6 (f := upV pk H c m z) hHi (fun j _ => (d7b pk H c m z j).1) hi
  have e8 : (List.range 256).map (fun j => (c9U 10 (X5 pk (32 + 320 * i) 320)).getD j 0 * 8192) = tV pk i := rfl
  unfold G6
  dsimp only
  rw [if_pos (by omega), if_pos (by omega), if_pos (by omega), if_pos (by omega), if_pos (by omega), a2r, Nat.add_zero, e1, Option.bind_some, if_neg (by simp), a2r]
  refine (d96 (by unfold c9U; rw [a1A]) (d8G _) _).trans ?_
  dsimp only
  rw [e8, if_pos (by omega), if_pos (by omega), if_pos (by omega), e3, Option.bind_some, e4, Option.bind_some, Int.toNat_natCast, e2, e5, Option.bind_some, e6, Option.bind_some, if_pos (by omega), if_pos (by omega), if_pos (by omega), e7, Option.bind_some, if_pos (by omega), if_pos (by omega), if_pos (by omega), hs, c7 (by omega) (by omega), show 32 + 320 * i + 320 = 32 + 320 * (i + 1) by omega, show 1920 - 320 * i - 320 = 1920 - 320 * (i + 1) by omega, show (i : Int) + 1 = ((i + 1 : Nat) : Int) by omega]
 ·intro kn
  unfold G6
  dsimp only
  rw [if_neg (by omega), P5 hHi]
end Go.Ax.TryP
set_option linter.unusedVariables false
namespace Go.Ax.TryP
open Go.Proofs
theorem c90 {b : List Int} (hb : b.length ≤ maxLen ∧ bytes b) : J8 (6, 55, b, ()) = some (b2v 6 55 b) :=
 d8 (ks := C6) (rs := C7) (x := (6, 55, b, ())) ⟨d08 (d := 6) (by omega), d08 (d := 55) (by omega), M8.2 hb, trivial⟩ trivial
theorem d07 {b : List Int} (h : (b2v 6 55 b).2 = 0) : (b2v 6 55 b).1.length = 6 * 256 ∧ ∀ x ∈ (b2v 6 55 b).1, x = 0 ∨ x = 1 := by
 unfold b2v at h ⊢
 split at h
 ·cases h
 ·rename_i h1
  rw [if_neg h1]
  split at h
  ·rename_i h2
   rw [if_pos h2]
   refine ⟨?_, fun x hx => ?_⟩
   ·show (b4d b _ _ _).length = _
    rw [c5U, List.length_replicate]
    rfl
   ·obtain ⟨i, hi, rfl⟩ := List.mem_iff_getElem.1 hx
    have hx : (b4d b (55 : Int).toNat (List.replicate ((6 : Int).toNat * 256) 0) (6 : Int).toNat).getD i 0 = 0 ∨ (b4d b (55 : Int).toNat (List.replicate ((6 : Int).toNat * 256) 0) (6 : Int).toNat).getD i 0 = 1 := c9d (fun j => .inl (by
     by_cases hj : j < (6 : Int).toNat * 256
     ·rw [List.getD_eq_getElem?_getD, List.getElem?_replicate, if_pos hj]; rfl
     ·rw [List.getD_eq_getElem?_getD, List.getElem?_replicate, if_neg hj]; rfl)) _ i
    rw [List.getD_eq_getElem?_getD, List.getElem?_eq_getElem hi, Option.getD_some] at hx
    exact hx
  ·cases h
theorem c6v : ∀ x r, a2I x = some r → ∃ N, a4X N x = some r := by
 refine d9 (ks := a0Q) (rs := a6q) fun x hw hq => ⟨300, ?_⟩
 obtain ⟨(pk : List Int), (msg : List Int), (ctx : List Int), (sig : List Int), u⟩ := x
 have hpk : pk.length ≤ maxLen ∧ bytes pk := M8.1 hw.1
 have hmsg : msg.length ≤ maxLen ∧ bytes msg := M8.1 hw.2.1
 have hctx : ctx.length ≤ maxLen ∧ bytes ctx := M8.1 hw.2.2.1
 have hsig : sig.length ≤ maxLen ∧ bytes sig := M8.1 hw.2.2.2.1
 show a4X 300 (pk, msg, ctx, sig, u) = some (d7r pk msg ctx sig)
 unfold a4X d7r
 dsimp only
 have hZ5 : (List.replicate 1280 (0 : Int)).length = 5 * 256 := by rw [List.length_replicate]
 have hZ6 : (List.replicate 1536 (0 : Int)).length = 6 * 256 := by rw [List.length_replicate]
 generalize List.replicate 1280 (0 : Int) = Z5 at hZ5 ⊢
 generalize List.replicate 1536 (0 : Int) = Z6 at hZ6 ⊢
 by_cases h1 : pk.length = 1952
 ·rw [if_neg (c := pk.length ≠ 1952) (fun h => h h1), if_neg (by omega)]
  by_cases h2 : 255 < ctx.length
  ·rw [if_pos (c := 255 < ctx.length) h2, if_pos (by omega)]; rfl
  ·rw [if_neg (c := 255 < ctx.length) h2, if_neg (by omega)]
   by_cases h3 : sig.length = 3309
   ·rw [if_neg (c := sig.length ≠ 3309) (fun h => h h3), if_neg (by omega)]
    have e1 : J2 ((64 : Int), [pk], ()) = some (a3S pk 64) := by
     have e := b7h (n := 64) (l := [pk]) (by omega) ⟨mB (by simp), fun zs hzs => by rw [List.mem_singleton.1 hzs]; exact hpk⟩
     refine e.trans ?_
     simp
    have e2 : a2t (a3S pk 64, msg, ctx, ()) = some (muV pk msg ctx) := c8K ⟨mB (by rw [a1j]; omega), a7A _ _⟩ hmsg hctx
    have hmu : (muV pk msg ctx).length = 64 ∧ bytes (muV pk msg ctx) := ⟨a1j _ _, a7A _ _⟩
    rw [e1, Option.bind_some, e2, Option.bind_some, if_pos (by omega), if_pos (by omega), if_pos (by omega), if_pos (by omega), h3, show 3309 - 48 = 3261 from rfl]
    unfold chV
    generalize muV pk msg ctx = mu at hmu ⊢
    by_cases h4 : d8d sig
    ·refine ((d9P (L1 := mu.length) (L2 := pk.length) (mu := mu) (pk := pk) h3 hsig.2 hZ5 _).1 h4).trans ?_
     dsimp only
     rw [a0b (fun h => h h4)]
     have e3 : J8 ((6 : Int), (55 : Int), List.take 61 (List.drop 3248 sig), ()) = some (hV sig) := c90 (b := X5 sig 3248 61) ⟨mB (by rw [U1 (by omega)]; omega), D3 hsig.2 _ _⟩
     rw [e3, Option.bind_some]
     have hok : (hV sig).2 = 0 → (hV sig).1.length = 6 * 256 ∧ ∀ x ∈ (hV sig).1, x = 0 ∨ x = 1 := d07
     generalize hV sig = hh at hok ⊢
     obtain ⟨H, e⟩ := hh
     dsimp only at hok ⊢
     by_cases h5 : e = 0
     ·rw [if_neg (fun h => h h5), if_neg (fun h => h h5)]
      obtain ⟨hH, hH1⟩ := hok h5
      have hct : (X5 sig 0 48).length = 48 ∧ bytes (X5 sig 0 48) := ⟨U1 (by omega), D3 hsig.2 _ _⟩
      rw [show List.take 48 (List.drop 0 sig) = X5 sig 0 48 from rfl, show List.take 32 (List.drop 0 pk) = X5 pk 0 32 from rfl]
      generalize hG : X5 sig 0 48 = ct at hct ⊢
      rw [c8E ⟨by omega, hct.2⟩, Option.bind_some]
      have hci := d1u ct
      generalize a47 49 ct = b at hci ⊢
      obtain ⟨c, e2⟩ := b
      have hci : E6 256 c := hci
      dsimp only
      by_cases h6 : e2 = 0
      ·rw [if_neg (fun h => h h6), if_neg (fun h => h h6), c0o hci, Option.bind_some, if_pos (by omega), if_pos (by omega), if_pos (by omega), if_pos (by omega)]
       have hrho : (X5 pk 0 32).length = 32 ∧ bytes (X5 pk 0 32) := ⟨U1 (by omega), D3 hpk.2 _ _⟩
       rw [c0u hrho, Option.bind_some]
       have hmi := d2q (X5 pk 0 32)
       by_cases h7 : a3L (X5 pk 0 32)
       ·rw [b5q h7, if_neg (by simp), a0b (fun h => h h7)]
        generalize c1b (X5 pk 0 32) = m at hmi ⊢
        have hzi : E6 (5 * 256) (P7 (zV sig) 5) := a4i (d82 sig) 5
        generalize P7 (zV sig) 5 = z at hzi ⊢
        rw [show xg (some (false, (130 : Int), (m, ()))) = some (m, ()) from rfl, Option.bind_some, c5t hmi hzi, Option.bind_some, hH, h1, show 6 * 256 / 256 = 6 from rfl]
        refine (d95 (L1 := mu.length) (L3 := 3309) (mu := mu) (sig := sig) h1 hpk.2 hci hH hH1 hZ6 _).trans ?_
        dsimp only
        have hup : E6 (6 * 256) (P7 (upV pk H c m z) 6) := a4i (d7b pk H c m z) 6
        have hin : ∀ r, r < 6 → inW 4 (B8 (chD (P7 (upV pk H c m z) 6) r)) := fun r hr => by
         rw [a9h (f := upV pk H c m z) (fun j _ => (d7b pk H c m z j).1) hr]
         exact d6f _ _
        generalize P7 (upV pk H c m z) 6 = High at hup hin ⊢
        rw [d1o ⟨by omega, hmu.2⟩ hup hin, Option.bind_some, show List.take 48 (List.drop 0 sig) = ct from hG, d5K ⟨mB (by rw [c0A]; omega), c7l _ _⟩ ⟨mB (by omega), hct.2⟩, Option.bind_some]
        by_cases h8 : c2q mu High = ct
        ·rw [if_neg (by rw [decide_eq_true h8]; simp), if_neg (fun h => h h8)]; rfl
        ·rw [if_pos (by rw [decide_eq_false h8]; simp), if_pos h8]; rfl
       ·rw [b2w h7, if_pos rfl, a1r h7]; rfl
      ·rw [if_pos h6, if_pos h6]; rfl
     ·rw [if_pos h5, if_pos h5]; rfl
    ·refine ((d9P (L1 := mu.length) (L2 := pk.length) (mu := mu) (pk := pk) h3 hsig.2 hZ5 _).2 h4).trans ?_
     rw [a1r h4]; rfl
   ·rw [if_pos (c := sig.length ≠ 3309) h3, if_pos (by omega)]; rfl
 ·rw [if_pos (c := pk.length ≠ 1952) h1, if_pos (by omega)]; rfl
theorem c5p {pk msg ctx sig : List Int} (h1 : pk.length ≤ maxLen ∧ bytes pk) (h2 : msg.length ≤ maxLen ∧ bytes msg) (h3 : ctx.length ≤ maxLen ∧ bytes ctx) (h4 : sig.length ≤ maxLen ∧ bytes sig) : a2I (pk, msg, ctx, sig, ()) = some (d7r pk msg ctx sig) :=
 d8 (ks := a0Q) (rs := a6q) (x := (pk, msg, ctx, sig, ())) ⟨M8.2 h1, M8.2 h2, M8.2 h3, M8.2 h4, trivial⟩ trivial
end Go.Ax.TryP
