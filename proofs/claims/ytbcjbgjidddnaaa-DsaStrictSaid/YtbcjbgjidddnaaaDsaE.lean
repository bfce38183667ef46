/- A part of the proof: DgS, DgP, DgQ1, DgQ2, DgQ3, DgQ4, DgQ5, DgQ6, DgQ7, DgQ8. -/
import Derived.Test.YtbcjbgjidddnaaaDsaD
set_option linter.unusedVariables false
namespace Go.Ax.TryP
open Go.Proofs
noncomputable def tf (p : Prop) : Bool := @decide p (Classical.propDecidable p)
theorem c9C {p : Prop} (h : p) : tf p = true := @decide_eq_true p (Classical.propDecidable p) h
theorem d8p {p : Prop} (h : ¬ p) : tf p = false := @decide_eq_false p (Classical.propDecidable p) h
noncomputable def cif {α : Type} (p : Prop) (a b : α) : α := @ite α p (Classical.propDecidable p) a b
theorem a3U {α : Type} {p : Prop} (h : p) (a b : α) : cif p a b = a := by unfold cif; exact if_pos h
theorem a2q {α : Type} {p : Prop} (h : ¬ p) (a b : α) : cif p a b = b := by unfold cif; exact if_neg h
def T6 (b : List Int) (a n : Nat) : List Int := (b.drop a).take n
def b3P (b : List Int) : List Int := a2h 4 4 b
noncomputable def a32 : List Int × Unit → Option (Bool × Int × List Int) := c3G (ks := [.sl (.int .u8)]) (rs := [.xs (.int .i32) 256]) (fun x => x.1.length = 128) fun x => (decide (4 < a1r (b3P x.1)), 160, b3P x.1)
def skP (sk : List Int) (i : Nat) : List Int := b3P (T6 sk (128 + 128 * i) 128)
def skL (sk : List Int) (i : Nat) : List Int := a2h 4096 13 (T6 sk (1536 + 416 * i) 416)
def d3g (sk : List Int) : Prop := sk.length = 4032 ∧ ∀ i, i < 11 → a1r (skP sk i) ≤ 4
abbrev Sec : Type := List Int × List Int × List Int × List Int × List Int × List Int × Unit
def d0Y (sk : List Int) : Sec := (T6 sk 0 32, T6 sk 32 32, T6 sk 64 64, N2 (skP sk) 5, N2 (fun i => skP sk (5 + i)) 6, N2 (skL sk) 6, ())
noncomputable def b2z : List Int × Unit → Option (Bool × Int × Sec) := c3G (ks := [.asl (.int .u8)]) (rs := [.cat [.fs (.int .u8), .fs (.int .u8), .fs (.int .u8), .xs (.int .i32) 1280, .xs (.int .i32) 1536, .xs (.int .i32) 1536]]) (fun _ => True) fun x => (tf (¬ d3g x.1), 160, d0Y x.1)
def yD (rho2 : List Int) (k i : Nat) : List Int := (c5W 20 (rho2 ++ c9E ((k * 5 + i : Nat) : Int))).1
def hiD (w : List Int) : List Int := N2 (fun r => (b5h (chD w r)).1) 6
def zD (c s y : List Int) (i : Nat) : List Int := b0x (chD y i) (b0y c (chD s i))
def c1Z (c w e : List Int) (r : Nat) : List Int := b5x (chD w r) (b0y c (chD e r))
def c42 (c l : List Int) (r : Nat) : List Int := b0y c (chD l r)
def htD (c w e l : List Int) (r : Nat) : List Int × Int := d1O (b5x b8B (c42 c l r)) (b0x (c1Z c w e r) (c42 c l r))
def c4X (f : Nat → List Int × Int) : Nat → Int
 | 0 => 0
 | n + 1 => c4X f n + (f n).2
def d2t (c w e l : List Int) (r : Nat) : Prop := a1r (b5h (c1Z c w e r)).2 < 261692 ∧ a1r (c42 c l r) < 261888
def c2q (c s e l y w : List Int) : Prop := (∀ i, i < 5 → a1r (zD c s y i) < 524092) ∧ (∀ r, r < 6 → d2t c w e l r) ∧ c4X (htD c w e l) 6 ≤ 55
def zT (ct c s y : List Int) (n : Nat) : List Int := ct ++ N2 (fun i => pkW 20 (a30 524288 (zD c s y i))) n
def hrow (c w e l : List Int) : List Int := N2 (fun r => (htD c w e l r).1) 6
def d4q (ct c s e l y w : List Int) : List Int := zT ct c s y 5 ++ (b40 (hrow c w e l) 55).1
noncomputable def d8L (x : Sec) (ct : List Int) (b : List Int × Int) (y w : List Int) : Bool × Int × (List Int × Bool) :=
 (decide (b.2 ≠ 0), b.2, cif (c2q b.1 x.2.2.2.1 x.2.2.2.2.1 x.2.2.2.2.2.1 y w) (d4q ct b.1 x.2.2.2.1 x.2.2.2.2.1 x.2.2.2.2.2.1 y w, true) ([], false))
def wD (m rho2 : List Int) (k : Nat) : List Int := b0t m (N2 (yD rho2 k) 5)
def ctD (m mu rho2 : List Int) (k : Nat) : List Int := c2l mu (hiD (wD m rho2 k))
noncomputable def d4z (x : Sec) (m mu rho2 : List Int) (k : Nat) : Bool × Int × (List Int × Bool) := d8L x (ctD m mu rho2 k) (a47 49 (ctD m mu rho2 k)) (N2 (yD rho2 k) 5) (wD m rho2 k)
noncomputable def X7 : Sec × List Int × List Int × List Int × Int × Unit → Option (Bool × Int × (List Int × Bool)) := c3G (ks := [.rp (.ct [.fs (.int .u8), .fs (.int .u8), .fs (.int .u8), .xs (.int .i32) 1280, .xs (.int .i32) 1536, .xs (.int .i32) 1536]), .rp (.xs (.int .i32) 7680), .sl (.int .u8), .sl (.int .u8), .int .i64]) (rs := [.sl (.int .u8), .bool])
 (fun x => x.2.2.1.length ≤ 1000 ∧ x.2.2.2.1.length = 64 ∧ 0 ≤ x.2.2.2.2.1 ∧ x.2.2.2.2.1 ≤ 10000) fun x => d4z x.1 x.2.1 x.2.2.1 x.2.2.2.1 x.2.2.2.2.1.toNat
def d4o (t : Nat → Bool × Int × (List Int × Bool)) (k : Nat) : Nat → List Int × Int
 | 0 => ([], 162)
 | n + 1 => if (t k).1 = true then ([], (t k).2.1) else if (t k).2.2.2 = true then ((t k).2.2.1, 0) else d4o t (k + 1) n
def muS (sk msg ctx : List Int) : List Int := c5X (T6 sk 64 64) msg ctx
def d3j (sk rnd mu : List Int) : List Int := a3O (T6 sk 32 32 ++ rnd ++ mu) 64
noncomputable def d8r (sk msg ctx rnd : List Int) : Nat → Bool × Int × (List Int × Bool) := d4z (d0Y sk) (c08 (T6 sk 0 32)) (muS sk msg ctx) (d3j sk rnd (muS sk msg ctx))
noncomputable def c4E (sk msg ctx rnd : List Int) (most : Int) : List Int × Int :=
 cif (¬ d3g sk) ([], 160) (if 255 < ctx.length then ([], 3) else if most < 1 then ([], 1) else cif (¬ a4N (T6 sk 0 32)) ([], 130) (d4o (d8r sk msg ctx rnd) 0 most.toNat))
noncomputable def b2y : List Int × List Int × List Int × List Int × Int × Unit → Option (List Int × Int) := a0l (ks := [.fsl (.int .u8), .sl (.int .u8), .sl (.int .u8), .xs (.int .u8) 32, .int .i64]) (rs := [.sl (.int .u8), .int .i64])
 (fun x => x.2.2.2.2.1 ≤ 10000) fun x => c4E x.1 x.2.1 x.2.2.1 x.2.2.2.1 x.2.2.2.2.1
def zV (sig : List Int) (i : Nat) : List Int := a2h 524288 20 (T6 sig (48 + 640 * i) 640)
def d7a (sig : List Int) : Prop := ∀ i, i < 5 → a1r (zV sig i) < 524092
def tV (pk : List Int) (r : Nat) : List Int := p9 fun i => (c9H 10 (T6 pk (32 + 320 * r) 320)).getD i 0 * 8192
def upV (pk h c m z : List Int) (r : Nat) : List Int := d53 (chD h r) (b36 (b5x (b66 m z r 5) (a6b (a04 c) (a04 (tV pk r)))))
noncomputable def hV (sig : List Int) : List Int × Int := a8b 6 55 (T6 sig 3248 61)
def muV (pk msg ctx : List Int) : List Int := c5X (a3O pk 64) msg ctx
noncomputable def chV (pk msg ctx sig : List Int) : List Int := c2l (muV pk msg ctx) (N2 (upV pk (hV sig).1 (a47 49 (T6 sig 0 48)).1 (c08 (T6 pk 0 32)) (N2 (zV sig) 5)) 6)
noncomputable def d5n (pk msg ctx sig : List Int) : Int :=
 if pk.length ≠ 1952 then 161 else if 255 < ctx.length then 3 else if sig.length ≠ 3309 then 70 else
 cif (¬ d7a sig) 70 (if (hV sig).2 ≠ 0 then 70 else if (a47 49 (T6 sig 0 48)).2 ≠ 0 then (a47 49 (T6 sig 0 48)).2 else
 cif (¬ a4N (T6 pk 0 32)) 130 (if chV pk msg ctx sig ≠ T6 sig 0 48 then 70 else 0))
noncomputable def a0x : List Int × List Int × List Int × List Int × Unit → Option Int := a0l (ks := [.sl (.int .u8), .sl (.int .u8), .sl (.int .u8), .sl (.int .u8)]) (rs := [.int .i64]) (fun _ => True) fun x => d5n x.1 x.2.1 x.2.2.1 x.2.2.2.1
def b00 (xi : List Int) : List Int := a3O (xi ++ [6, 5]) 128
def c2i (xi : List Int) : List Int := T6 (b00 xi) 0 32
def b2s (xi : List Int) (i : Nat) : List Int × Int := c8C 4 (T6 (b00 xi) 32 64 ++ c9E (i : Int))
def d7X (xi : List Int) : Prop := ∀ i, i < 11 → (b2s xi i).2 = 0
def sK (xi : List Int) : List Int := N2 (fun i => (b2s xi i).1) 5
def eK (xi : List Int) : List Int := N2 (fun i => (b2s xi (5 + i)).1) 6
def tK (xi : List Int) (r : Nat) : List Int := b0x (chD (b0t (c08 (c2i xi)) (sK xi)) r) (chD (eK xi) r)
def pkT (xi : List Int) (n : Nat) : List Int := c2i xi ++ N2 (fun r => pkW 10 (B8 (c31 (tK xi r)).1)) n
def pkD (xi : List Int) : List Int := pkT xi 6
def tlT (xi : List Int) (n : Nat) : List Int := N2 (fun r => pkW 13 (a30 4096 (c31 (tK xi r)).2)) n
def skH (xi : List Int) : List Int := c2i xi ++ T6 (b00 xi) 96 32 ++ a3O (pkD xi) 64
def skT (xi : List Int) (n : Nat) : List Int := skH xi ++ N2 (fun i => pkW 4 (a30 4 (b2s xi i).1)) n
def skD (xi : List Int) : List Int := skT xi 11 ++ tlT xi 6
noncomputable def d3f (xi : List Int) : List Int × List Int × Int := cif (d7X xi ∧ a4N (c2i xi)) (pkD xi, skD xi, 0) ([], [], 130)
noncomputable def a2G : List Int × Unit → Option (List Int × List Int × Int) := a0l (ks := [.xs (.int .u8) 32]) (rs := [.sl (.int .u8), .sl (.int .u8), .int .i64]) (fun _ => True) fun x => d3f x.1
noncomputable def a9m : List (List Int) × Unit → Option Bool := a0l (ks := [.sls (.int .u8)]) (rs := [.bool]) (fun _ => True) fun x => decide (∀ b ∈ x.1, b.length ≤ 6000)
noncomputable def T9 : Unit → Option Bool := a0l (ks := []) (rs := [.bool]) (fun _ => True) fun _ => true
end Go.Ax.TryP
set_option linter.unusedVariables false
namespace Go.Ax.TryP
open Go.Proofs
noncomputable abbrev a0m : Sig := ⟨[.xs b32 256], [.int .i32], T8⟩
noncomputable def p_dsa_small_E : AE := AE.ofI [(40, ty40)] [(29, o4), (30, a0m)] [] [(14, a07), (43, a5U)] [] [] []
noncomputable def c4o : Hints := [(3000000, [2]), (5000000, [2])]
noncomputable def c4p : Code := (Try.f51).body.getD .skip
abbrev a1R : List Kd := [.sl b8]
abbrev a1S : List Kd := [.xs b32 256]
noncomputable def a9U (N : Nat) (x : List Int × Unit) : Option (Int ⊕ (List Int)) :=
 (j4 ((4:Int), (4:Int), x.1, ())).bind fun r1 => (
 if (r1.2 ≠ (0:Int)) then
  some (.inl r1.2)
 else
  (T8 (r1.1, ())).bind fun r2 => (
  if (r2 > (4:Int)) then
   if ((160:Int) ≠ (0:Int)) then
    some (.inl (160:Int))
   else
    some (.inr r1.1)
  else
   some (.inr r1.1)))
theorem c1G (e0 : c8 Try.prog 29 o4) (e1 : c8 Try.prog 30 a0m) : p_dsa_small_E.Ok Try.prog := AE.ofI_ok (all_cons q8 c6) (all_cons ⟨e0, I9⟩ (all_cons ⟨e1, a3X⟩ c6)) c6 (all_cons ⟨O1, A4⟩ (all_cons ⟨a26, a0s⟩ c6)) c6
theorem c2H (hE : p_dsa_small_E.Ok Try.prog) {g : Ds a1R → Option (Bool × Int × Rs a1S)} (hg : ∀ x r, g x = some r → ∃ N, a9U N x = some (xr r)) : XOk Try.prog 51 ⟨a1R, a1S, (.ifi 26 .i64), g⟩ :=
 c0Z (E := p_dsa_small_E) (H := c4o) (L := fun N => LT.nil) (c := c4p) (ks := a1R) (rs := a1S) (F := a9U) hE mix Try.func51 (by kernel_rfl) (fun N => OkAll.nil) (fun _ _ => by kernel_rfl) hg
noncomputable abbrev b3S : XSig := ⟨[.sl b8], [.xs b32 256], (.ifi 26 .i64), a32⟩
noncomputable def p_dsa_read_E : AE := AE.ofA [(23, ty23), (40, ty40), (42, ty42), (44, ty44), (60, ty60)] [(29, o4)] [(51, b3S)] [] [] [(14, a07), (28, c00), (43, a5U)] [] [] [] [] [] []
noncomputable def a7n : Hints := [(5, [1, 2, 3, 15]), (10, [1, 2, 3, 24]), (15, [1, 2, 3, 33]), (2000000, [1, 2, 3]), (2000001, [1, 2, 3, 15]), (2000002, [1, 2, 3]), (2000003, [1, 2, 3, 24]), (2000004, [2, 3]), (2000005, [1, 2, 3, 33]), (3000000, [2]), (5000000, [2])]
noncomputable def a0T : Code := (Try.f25).body.getD .skip
noncomputable def c1F : Shape := mkS { tmps := V :: .sc (.ptr 0 0 false) :: .sc (.ptr 1 0 false) :: .sc (.ptr 2 0 false) :: pv 11 (.sc (.int .i64) :: pv 30 []), mem := [.live [.one (.fr b8)] (.own), .live [.one (.nilsl), .one (.nilsl), .one (.nilsl), .xs b32 (some 1280), .xs b32 (some 1536), .xs b32 (some 1536)] (.own), .live [.one (.fr b8), .one (.fr b8), .one (.fr b8), .xs b32 (some 1280), .xs b32 (some 1536), .xs b32 (some 1536)] (.own)] } [.int, .xs, .xs, .xs, .xs, .xs, .xs, .xs, .xs, .xs, .xs]
abbrev W53 : Type := Int × List Int × List Int × List Int × List Int × List Int × List Int × List Int × List Int × List Int × List Int × Unit
abbrev W54 : Type := (Int × List Int × List Int × List Int × Unit) ⊕ (List Int × List Int × List Int × List Int × List Int × List Int × List Int × List Int × List Int × List Int × Unit)
noncomputable def B0 (N : Nat) (β : Type) (x : W53) (kn : W53 → Option β) (ke : W54 → Option β) : Option β :=
 if (x.1 < (5:Int)) then
  if 0 ≤ (128:Int) then (
  if (128:Int) ≤ (((List.length x.2.1) : Nat) : Int) then (
  if 0 ≤ (128:Int) then (
  if (128:Int) ≤ (((List.length x.2.1) : Nat) : Int) then (
  (a32 ((List.take (128 - 0) (List.drop 0 x.2.1)), ())).bind fun r1 => (
  if r1.1 = true then
   ke (.inl (r1.2.1, x.2.2.1, x.2.2.2.1, x.2.2.2.2.1, ()))
  else
   if 0 ≤ x.1 then (
   if x.1 < 5 then (
   if ((x.1.toNat) * 256) + 256 ≤ 1280 then (
   kn ((IntKind.i64.wrap (x.1 + (1:Int))), (List.take ((List.length x.2.1) - 128) (List.drop 128 x.2.1)), x.2.2.1, x.2.2.2.1, x.2.2.2.2.1, x.2.2.2.2.2.1, x.2.2.2.2.2.2.1, x.2.2.2.2.2.2.2.1, (List.take ((x.1.toNat) * 256) x.2.2.2.2.2.2.2.2.1 ++ r1.2.2 ++ List.drop (((x.1.toNat) * 256) + 256) x.2.2.2.2.2.2.2.2.1), x.2.2.2.2.2.2.2.2.2.1, x.2.2.2.2.2.2.2.2.2.2.1, ())) else none) else none) else none)) else none) else none) else none) else none
 else
  ke (.inr (x.2.1, x.2.2.1, x.2.2.2.1, x.2.2.2.2.1, x.2.2.2.2.2.1, x.2.2.2.2.2.2.1, x.2.2.2.2.2.2.2.1, x.2.2.2.2.2.2.2.2.1, x.2.2.2.2.2.2.2.2.2.1, x.2.2.2.2.2.2.2.2.2.2.1, ()))
noncomputable def b9H : Go' W54 := fun y K => match y with
 | .inl y => K (.pan (.ifi 26 .i64) y.1) (fSt { tmps := V :: V :: .sc (.ptr 0 0 false) :: pv 43 [], mem := [.live [.one (.nilsl), .one (.nilsl), .one (.nilsl), .xs b32 (some 1280), .xs b32 (some 1536), .xs b32 (some 1536)] (.own)] } [.xs, .xs, .xs] y.2)
 | .inr y => K (.exit 0) (fSt { tmps := V :: .sc (.ptr 0 0 false) :: .sc (.ptr 1 0 false) :: .sc (.ptr 2 0 false) :: pv 42 [], mem := [.live [.one (.fr b8)] (.own), .live [.one (.nilsl), .one (.nilsl), .one (.nilsl), .xs b32 (some 1280), .xs b32 (some 1536), .xs b32 (some 1536)] (.own), .live [.one (.fr b8), .one (.fr b8), .one (.fr b8), .xs b32 (some 1280), .xs b32 (some 1536), .xs b32 (some 1536)] (.own)] } [.xs, .xs, .xs, .xs, .xs, .xs, .xs, .xs, .xs, .xs] y)
noncomputable def b1M (N : Nat) : LT := upd (LT.nil) 5 (o6 c1F N (B0 N) b9H)
theorem b9I (N : Nat) : OkAll p_dsa_read_E a7n N (b1M N) (w9 a0T) :=
 d6 (c := d7 5 a0T) (OkAll.nil) (by kernel_rfl) (fun x => by kernel_rfl) (fun β x kn ke => by kernel_rfl)
noncomputable def b9F : Shape := mkS { tmps := V :: .sc (.ptr 0 0 false) :: .sc (.ptr 1 0 false) :: .sc (.ptr 2 0 false) :: pv 20 (.sc (.int .i64) :: pv 21 []), mem := [.live [.one (.fr b8)] (.own), .live [.one (.nilsl), .one (.nilsl), .one (.nilsl), .xs b32 (some 1280), .xs b32 (some 1536), .xs b32 (some 1536)] (.own), .live [.one (.fr b8), .one (.fr b8), .one (.fr b8), .xs b32 (some 1280), .xs b32 (some 1536), .xs b32 (some 1536)] (.own)] } [.int, .xs, .xs, .xs, .xs, .xs, .xs, .xs, .xs, .xs, .xs]
noncomputable def v9 (N : Nat) (β : Type) (x : W53) (kn : W53 → Option β) (ke : W54 → Option β) : Option β :=
 if (x.1 < (6:Int)) then
  if 0 ≤ (128:Int) then (
  if (128:Int) ≤ (((List.length x.2.1) : Nat) : Int) then (
  if 0 ≤ (128:Int) then (
  if (128:Int) ≤ (((List.length x.2.1) : Nat) : Int) then (
  (a32 ((List.take (128 - 0) (List.drop 0 x.2.1)), ())).bind fun r4 => (
  if r4.1 = true then
   ke (.inl (r4.2.1, x.2.2.1, x.2.2.2.1, x.2.2.2.2.1, ()))
  else
   if 0 ≤ x.1 then (
   if x.1 < 6 then (
   if ((x.1.toNat) * 256) + 256 ≤ 1536 then (
   kn ((IntKind.i64.wrap (x.1 + (1:Int))), (List.take ((List.length x.2.1) - 128) (List.drop 128 x.2.1)), x.2.2.1, x.2.2.2.1, x.2.2.2.2.1, x.2.2.2.2.2.1, x.2.2.2.2.2.2.1, x.2.2.2.2.2.2.2.1, x.2.2.2.2.2.2.2.2.1, (List.take ((x.1.toNat) * 256) x.2.2.2.2.2.2.2.2.2.1 ++ r4.2.2 ++ List.drop (((x.1.toNat) * 256) + 256) x.2.2.2.2.2.2.2.2.2.1), x.2.2.2.2.2.2.2.2.2.2.1, ())) else none) else none) else none)) else none) else none) else none) else none
 else
  ke (.inr (x.2.1, x.2.2.1, x.2.2.2.1, x.2.2.2.2.1, x.2.2.2.2.2.1, x.2.2.2.2.2.2.1, x.2.2.2.2.2.2.2.1, x.2.2.2.2.2.2.2.2.1, x.2.2.2.2.2.2.2.2.2.1, x.2.2.2.2.2.2.2.2.2.2.1, ()))
noncomputable def b77 : Go' W54 := fun y K => match y with
 | .inl y => K (.pan (.ifi 26 .i64) y.1) (fSt { tmps := V :: V :: .sc (.ptr 0 0 false) :: pv 43 [], mem := [.live [.one (.nilsl), .one (.nilsl), .one (.nilsl), .xs b32 (some 1280), .xs b32 (some 1536), .xs b32 (some 1536)] (.own)] } [.xs, .xs, .xs] y.2)
 | .inr y => K (.exit 2) (fSt { tmps := V :: .sc (.ptr 0 0 false) :: .sc (.ptr 1 0 false) :: .sc (.ptr 2 0 false) :: pv 42 [], mem := [.live [.one (.fr b8)] (.own), .live [.one (.nilsl), .one (.nilsl), .one (.nilsl), .xs b32 (some 1280), .xs b32 (some 1536), .xs b32 (some 1536)] (.own), .live [.one (.fr b8), .one (.fr b8), .one (.fr b8), .xs b32 (some 1280), .xs b32 (some 1536), .xs b32 (some 1536)] (.own)] } [.xs, .xs, .xs, .xs, .xs, .xs, .xs, .xs, .xs, .xs] y)
noncomputable def b0m (N : Nat) : LT := upd (b1M N) 10 (o6 b9F N (v9 N) b77)
theorem b78 (N : Nat) : OkAll p_dsa_read_E a7n N (b0m N) (w9 a0T) :=
 d6 (c := d7 10 a0T) (b9I N) (by kernel_rfl) (fun x => by kernel_rfl) (fun β x kn ke => by kernel_rfl)
noncomputable def b9G : Shape := mkS { tmps := V :: .sc (.ptr 0 0 false) :: .sc (.ptr 1 0 false) :: .sc (.ptr 2 0 false) :: pv 29 (.sc (.int .i64) :: pv 12 []), mem := [.live [.one (.fr b8)] (.own), .live [.one (.nilsl), .one (.nilsl), .one (.nilsl), .xs b32 (some 1280), .xs b32 (some 1536), .xs b32 (some 1536)] (.own), .live [.one (.fr b8), .one (.fr b8), .one (.fr b8), .xs b32 (some 1280), .xs b32 (some 1536), .xs b32 (some 1536)] (.own)] } [.int, .xs, .xs, .xs, .xs, .xs, .xs, .xs, .xs, .xs, .xs]
abbrev W55 : Type := (Int × List Int × List Int × List Int × Unit) ⊕ (List Int × List Int × List Int × List Int × List Int × List Int × List Int × List Int × List Int × Unit)
noncomputable def H2 (N : Nat) (β : Type) (x : W53) (kn : W53 → Option β) (ke : W55 → Option β) : Option β :=
 if (x.1 < (6:Int)) then
  if 0 ≤ (416:Int) then (
  if (416:Int) ≤ (((List.length x.2.1) : Nat) : Int) then (
  if 0 ≤ (416:Int) then (
  if (416:Int) ≤ (((List.length x.2.1) : Nat) : Int) then (
  (j4 ((4096:Int), (13:Int), (List.take (416 - 0) (List.drop 0 x.2.1)), ())).bind fun r7 => (
  if (r7.2 ≠ (0:Int)) then
   ke (.inl (r7.2, x.2.2.1, x.2.2.2.1, x.2.2.2.2.1, ()))
  else
   if 0 ≤ x.1 then (
   if x.1 < 6 then (
   if ((x.1.toNat) * 256) + 256 ≤ 1536 then (
   kn ((IntKind.i64.wrap (x.1 + (1:Int))), (List.take ((List.length x.2.1) - 416) (List.drop 416 x.2.1)), x.2.2.1, x.2.2.2.1, x.2.2.2.2.1, x.2.2.2.2.2.1, x.2.2.2.2.2.2.1, x.2.2.2.2.2.2.2.1, x.2.2.2.2.2.2.2.2.1, x.2.2.2.2.2.2.2.2.2.1, (List.take ((x.1.toNat) * 256) x.2.2.2.2.2.2.2.2.2.2.1 ++ r7.1 ++ List.drop (((x.1.toNat) * 256) + 256) x.2.2.2.2.2.2.2.2.2.2.1), ())) else none) else none) else none)) else none) else none) else none) else none
 else
  ke (.inr (x.2.2.1, x.2.2.2.1, x.2.2.2.2.1, x.2.2.2.2.2.1, x.2.2.2.2.2.2.1, x.2.2.2.2.2.2.2.1, x.2.2.2.2.2.2.2.2.1, x.2.2.2.2.2.2.2.2.2.1, x.2.2.2.2.2.2.2.2.2.2.1, ()))
noncomputable def b79 : Go' W55 := fun y K => match y with
 | .inl y => K (.pan (.ifi 26 .i64) y.1) (fSt { tmps := V :: V :: .sc (.ptr 0 0 false) :: pv 43 [], mem := [.live [.one (.nilsl), .one (.nilsl), .one (.nilsl), .xs b32 (some 1280), .xs b32 (some 1536), .xs b32 (some 1536)] (.own)] } [.xs, .xs, .xs] y.2)
 | .inr y => K (.exit 4) (fSt { tmps := V :: V :: .sc (.ptr 0 0 false) :: .sc (.ptr 1 0 false) :: pv 42 [], mem := [.live [.one (.nilsl), .one (.nilsl), .one (.nilsl), .xs b32 (some 1280), .xs b32 (some 1536), .xs b32 (some 1536)] (.own), .live [.one (.fr b8), .one (.fr b8), .one (.fr b8), .xs b32 (some 1280), .xs b32 (some 1536), .xs b32 (some 1536)] (.own)] } [.xs, .xs, .xs, .xs, .xs, .xs, .xs, .xs, .xs] y)
noncomputable def b0n (N : Nat) : LT := upd (b0m N) 15 (o6 b9G N (H2 N) b79)
theorem b8a (N : Nat) : OkAll p_dsa_read_E a7n N (b0n N) (w9 a0T) :=
 d6 (c := d7 15 a0T) (b78 N) (by kernel_rfl) (fun x => by kernel_rfl) (fun β x kn ke => by kernel_rfl)
abbrev a3s : List Kd := [.asl b8]
abbrev a3t : List Kd := [.cat [.fs b8, .fs b8, .fs b8, .xs b32 1280, .xs b32 1536, .xs b32 1536]]
noncomputable def a5V (N : Nat) (x : List Int × Unit) : Option (Int ⊕ ((List Int × List Int × List Int × List Int × List Int × List Int × Unit))) :=
 if (((List.length x.1 : Nat) : Int) ≠ (4032:Int)) then
  if ((160:Int) ≠ (0:Int)) then
   some (.inl (160:Int))
  else
   if 0 ≤ (32:Int) then (
   if (32:Int) ≤ (((List.length x.1) : Nat) : Int) then (
   if 0 ≤ (32:Int) then (
   if (32:Int) ≤ (((List.length x.1) : Nat) : Int) then (
   if 0 ≤ (32:Int) then (
   if (32:Int) ≤ (((List.length (List.take ((List.length x.1) - 32) (List.drop 32 x.1))) : Nat) : Int) then (
   if 0 ≤ (32:Int) then (
   if (32:Int) ≤ (((List.length (List.take ((List.length x.1) - 32) (List.drop 32 x.1))) : Nat) : Int) then (
   if 0 ≤ (64:Int) then (
   if (64:Int) ≤ (((List.length (List.take ((List.length (List.take ((List.length x.1) - 32) (List.drop 32 x.1))) - 32) (List.drop 32 (List.take ((List.length x.1) - 32) (List.drop 32 x.1))))) : Nat) : Int) then (
   if 0 ≤ (64:Int) then (
   if (64:Int) ≤ (((List.length (List.take ((List.length (List.take ((List.length x.1) - 32) (List.drop 32 x.1))) - 32) (List.drop 32 (List.take ((List.length x.1) - 32) (List.drop 32 x.1))))) : Nat) : Int) then (
   m7 (B0 N) N ((0:Int), (List.take ((List.length (List.take ((List.length (List.take ((List.length x.1) - 32) (List.drop 32 x.1))) - 32) (List.drop 32 (List.take ((List.length x.1) - 32) (List.drop 32 x.1))))) - 64) (List.drop 64 (List.take ((List.length (List.take ((List.length x.1) - 32) (List.drop 32 x.1))) - 32) (List.drop 32 (List.take ((List.length x.1) - 32) (List.drop 32 x.1)))))), (List.replicate 1280 0), (List.replicate 1536 0), (List.replicate 1536 0), (List.take (32 - 0) (List.drop 0 x.1)), (List.take (32 - 0) (List.drop 0 (List.take ((List.length x.1) - 32) (List.drop 32 x.1)))), (List.take (64 - 0) (List.drop 0 (List.take ((List.length (List.take ((List.length x.1) - 32) (List.drop 32 x.1))) - 32) (List.drop 32 (List.take ((List.length x.1) - 32) (List.drop 32 x.1)))))), (List.replicate 1280 0), (List.replicate 1536 0), (List.replicate 1536 0), ()) fun y => (match y with
   | .inl y2 => (
    some (.inl y2.1))
   | .inr y3 => (
    m7 (v9 N) N ((0:Int), y3.1, y3.2.1, y3.2.2.1, y3.2.2.2.1, y3.2.2.2.2.1, y3.2.2.2.2.2.1, y3.2.2.2.2.2.2.1, y3.2.2.2.2.2.2.2.1, y3.2.2.2.2.2.2.2.2.1, y3.2.2.2.2.2.2.2.2.2.1, ()) fun y => (match y with
    | .inl y5 => (
     some (.inl y5.1))
    | .inr y6 => (
     m7 (H2 N) N ((0:Int), y6.1, y6.2.1, y6.2.2.1, y6.2.2.2.1, y6.2.2.2.2.1, y6.2.2.2.2.2.1, y6.2.2.2.2.2.2.1, y6.2.2.2.2.2.2.2.1, y6.2.2.2.2.2.2.2.2.1, y6.2.2.2.2.2.2.2.2.2.1, ()) fun y => (match y with
     | .inl y8 => (
      some (.inl y8.1))
     | .inr y9 => (
      some (.inr (y9.2.2.2.1, y9.2.2.2.2.1, y9.2.2.2.2.2.1, y9.2.2.2.2.2.2.1, y9.2.2.2.2.2.2.2.1, y9.2.2.2.2.2.2.2.2.1, ()))))))))) else none) else none) else none) else none) else none) else none) else none) else none) else none) else none) else none) else none
 else
  if 0 ≤ (32:Int) then (
  if (32:Int) ≤ (((List.length x.1) : Nat) : Int) then (
  if 0 ≤ (32:Int) then (
  if (32:Int) ≤ (((List.length x.1) : Nat) : Int) then (
  if 0 ≤ (32:Int) then (
  if (32:Int) ≤ (((List.length (List.take ((List.length x.1) - 32) (List.drop 32 x.1))) : Nat) : Int) then (
  if 0 ≤ (32:Int) then (
  if (32:Int) ≤ (((List.length (List.take ((List.length x.1) - 32) (List.drop 32 x.1))) : Nat) : Int) then (
  if 0 ≤ (64:Int) then (
  if (64:Int) ≤ (((List.length (List.take ((List.length (List.take ((List.length x.1) - 32) (List.drop 32 x.1))) - 32) (List.drop 32 (List.take ((List.length x.1) - 32) (List.drop 32 x.1))))) : Nat) : Int) then (
  if 0 ≤ (64:Int) then (
  if (64:Int) ≤ (((List.length (List.take ((List.length (List.take ((List.length x.1) - 32) (List.drop 32 x.1))) - 32) (List.drop 32 (List.take ((List.length x.1) - 32) (List.drop 32 x.1))))) : Nat) : Int) then (
  m7 (B0 N) N ((0:Int), (List.take ((List.length (List.take ((List.length (List.take ((List.length x.1) - 32) (List.drop 32 x.1))) - 32) (List.drop 32 (List.take ((List.length x.1) - 32) (List.drop 32 x.1))))) - 64) (List.drop 64 (List.take ((List.length (List.take ((List.length x.1) - 32) (List.drop 32 x.1))) - 32) (List.drop 32 (List.take ((List.length x.1) - 32) (List.drop 32 x.1)))))), (List.replicate 1280 0), (List.replicate 1536 0), (List.replicate 1536 0), (List.take (32 - 0) (List.drop 0 x.1)), (List.take (32 - 0) (List.drop 0 (List.take ((List.length x.1) - 32) (List.drop 32 x.1)))), (List.take (64 - 0) (List.drop 0 (List.take ((List.length (List.take ((List.length x.1) - 32) (List.drop 32 x.1))) - 32) (List.drop 32 (List.take ((List.length x.1) - 32) (List.drop 32 x.1)))))), (List.replicate 1280 0), (List.replicate 1536 0), (List.replicate 1536 0), ()) fun y => (match y with
  | .inl y10 => (
   some (.inl y10.1))
  | .inr y11 => (
   m7 (v9 N) N ((0:Int), y11.1, y11.2.1, y11.2.2.1, y11.2.2.2.1, y11.2.2.2.2.1, y11.2.2.2.2.2.1, y11.2.2.2.2.2.2.1, y11.2.2.2.2.2.2.2.1, y11.2.2.2.2.2.2.2.2.1, y11.2.2.2.2.2.2.2.2.2.1, ()) fun y => (match y with
   | .inl y12 => (
    some (.inl y12.1))
   | .inr y13 => (
    m7 (H2 N) N ((0:Int), y13.1, y13.2.1, y13.2.2.1, y13.2.2.2.1, y13.2.2.2.2.1, y13.2.2.2.2.2.1, y13.2.2.2.2.2.2.1, y13.2.2.2.2.2.2.2.1, y13.2.2.2.2.2.2.2.2.1, y13.2.2.2.2.2.2.2.2.2.1, ()) fun y => (match y with
    | .inl y14 => (
     some (.inl y14.1))
    | .inr y15 => (
     some (.inr (y15.2.2.2.1, y15.2.2.2.2.1, y15.2.2.2.2.2.1, y15.2.2.2.2.2.2.1, y15.2.2.2.2.2.2.2.1, y15.2.2.2.2.2.2.2.2.1, ()))))))))) else none) else none) else none) else none) else none) else none) else none) else none) else none) else none) else none) else none
theorem c2G (e0 : c8 Try.prog 29 o4) (e1 : XOk Try.prog 51 b3S) : p_dsa_read_E.Ok Try.prog := AE.ofA_ok (all_cons F8 (all_cons q8 (all_cons b5f (all_cons b5g (all_cons c8j c6))))) (all_cons ⟨e0, I9⟩ c6) (all_cons ⟨e1, b89⟩ c6) c6 c6 (all_cons ⟨O1, A4⟩ (all_cons ⟨b8G, b3D⟩ (all_cons ⟨a26, a0s⟩ c6))) c6 c6 c6 c6
theorem c4n (hE : p_dsa_read_E.Ok Try.prog) {g : Ds a3s → Option (Bool × Int × Rs a3t)} (hg : ∀ x r, g x = some r → ∃ N, a5V N x = some (xr r)) : XOk Try.prog 25 ⟨a3s, a3t, (.ifi 26 .i64), g⟩ :=
 c0Z (E := p_dsa_read_E) (H := a7n) (L := fun N => b0n N) (c := a0T) (ks := a3s) (rs := a3t) (F := a5V) hE mix Try.func25 (by kernel_rfl) (fun N => b8a N) (fun _ _ => by kernel_rfl) hg
noncomputable abbrev b04 : Sig := ⟨[.int .i64], [.sl b8], a8s⟩
noncomputable abbrev b02 : Sig := ⟨[.int .i64, .sl b8], [.xs b32 256, .int .i64], a61⟩
noncomputable abbrev N3 : Sig := ⟨[.rp (.xs b32 7680), .xs b32 1280], [.xs b32 1536], N8⟩
noncomputable abbrev a0n : Sig := ⟨[.sl b8, .xs b32 1536], [.sl b8], a0y⟩
noncomputable abbrev a4z : Sig := ⟨[.int .i64, .sl b8], [.xs b32 256, .int .i64], a4K⟩
noncomputable abbrev b3R : Sig := ⟨[.xs b32 256, .xs b32 256], [.xs b32 256], U6⟩
noncomputable abbrev X1 : Sig := ⟨[.int .i32, .int .i64, .xs b32 256], [.sl b8, .int .i64], n9⟩
noncomputable abbrev a5Y : Sig := ⟨[.xs b32 256, .xs b32 256], [.xs b32 256], a0v⟩
noncomputable abbrev a43 : Sig := ⟨[.xs b32 256, .xs b32 256], [.xs .bool 256, .int .i64], X6⟩
noncomputable abbrev a3Q : Sig := ⟨[.sla .bool 256, .int .i64], [.sl b8, .int .i64], a05⟩
noncomputable def p_dsa_secret_try_E : AE := AE.ofI [(5, ty5), (21, ty21), (23, ty23), (35, ty35), (40, ty40), (42, ty42), (44, ty44), (60, ty60), (69, ty69), (76, ty76)] [(17, b04), (16, N4), (52, b02), (19, N3), (53, D2), (41, a0n), (33, a4z), (54, b3R), (21, U3), (30, a0m), (24, X1), (37, a5Y), (55, a43), (56, a3Q)] [] [(14, a07), (22, a6c)] [] [] []
noncomputable def P3 : Hints := [(3, [0, 1, 2, 3, 4, 10, 11, 12, 13, 31, 999999]), (10, [0, 2, 10, 11, 12, 13, 15, 16, 52, 999999]), (18, [0, 10, 11, 12, 13, 15, 19, 20, 76, 999999]), (27, [0, 10, 11, 15, 19, 20, 22, 23, 109, 999999]), (2000000, [0, 1, 2, 10, 11, 12, 13, 999999]), (2000001, [0, 1, 2, 3, 4, 10, 11, 12, 13, 31]), (2000002, [0, 2, 10, 11, 12, 13, 15, 16, 999999]), (2000003, [0, 2, 10, 11, 12, 13, 15, 16, 52]), (2000004, [0, 10, 11, 15, 19, 20, 999999]), (2000005, [0, 10, 11, 12, 13, 15, 19, 20, 76]), (2000006, [10, 11, 20, 22, 23, 999999]), (2000007, [0, 10, 11, 15, 19, 20, 22, 23, 109]), (3000000, [10, 11]), (5000000, [10, 11, 999999])]
noncomputable def p8 : Code := (Try.f27).body.getD .skip
noncomputable def b1N : Shape := mkS { tmps := .sc (.ptr 0 0 false) :: .sc (.ptr 1 0 false) :: .sc (.vec 2 none 1) :: .sc (.vec 3 none 1) :: .sc (.int .i64) :: pv 5 (.sc (.nilsl) :: .sc (.bool) :: .sc (.ptr 4 0 false) :: .sc (.ptr 5 0 false) :: pv 17 (.sc (.int .i64) :: pv 140 [])), mem := [.live [.one (.fr b8), .one (.fr b8), .one (.fr b8), .xs b32 (some 1280), .xs b32 (some 1536), .xs b32 (some 1536)] (.ro), .live [.xs b32 (some 7680)] (.ro), .live [.xs b8 none] (.ro), .live [.xs b8 none] (.ro), .live [.xs b32 (some 1280)] (.own), .live [.xs b32 (some 1280)] (.own)] } [.nat, .nat, .int, .bool, .int, .xs, .xs, .xs, .xs, .xs, .xs, .xs, .nat, .xs, .nat, .xs, .xs, .xs]
abbrev W56 : Type := Nat × Nat × Int × Bool × Int × List Int × List Int × List Int × List Int × List Int × List Int × List Int × Nat × List Int × Nat × List Int × List Int × List Int × Unit
abbrev W57 : Type := (Int × Bool × Unit) ⊕ (Nat × Bool × List Int × List Int × List Int × List Int × List Int × List Int × List Int × Nat × List Int × List Int × List Int × Unit)
noncomputable def x9 (N : Nat) (β : Type) (x : W56) (kn : W56 → Option β) (ke : W57 → Option β) : Option β :=
 if (x.2.2.2.2.1 < (5:Int)) then
  (a8s ((IntKind.i64.wrap ((IntKind.i64.wrap (x.2.2.1 * (5:Int))) + x.2.2.2.2.1)), ())).bind fun r1 => (
  (m6 ([x.2.2.2.2.2.2.2.2.2.2.2.2.2.2.2.1, r1], ())).bind fun r2 => (
  (a61 ((20:Int), r2, ())).bind fun r3 => (
  if (r3.2 ≠ (0:Int)) then
   ke (.inl (r3.2, (decide (x.2.2.2.1 = true)), ()))
  else
   if 0 ≤ x.2.2.2.2.1 then (
   if x.2.2.2.2.1 < 5 then (
   if ((x.2.2.2.2.1.toNat) * 256) + 256 ≤ 1280 then (
   kn (x.1, x.2.1, x.2.2.1, (decide (x.2.2.2.1 = true)), (IntKind.i64.wrap (x.2.2.2.2.1 + (1:Int))), x.2.2.2.2.2.1, x.2.2.2.2.2.2.1, x.2.2.2.2.2.2.2.1, x.2.2.2.2.2.2.2.2.1, x.2.2.2.2.2.2.2.2.2.1, x.2.2.2.2.2.2.2.2.2.2.1, x.2.2.2.2.2.2.2.2.2.2.2.1, x.2.2.2.2.2.2.2.2.2.2.2.2.1, x.2.2.2.2.2.2.2.2.2.2.2.2.2.1, x.2.2.2.2.2.2.2.2.2.2.2.2.2.2.1, x.2.2.2.2.2.2.2.2.2.2.2.2.2.2.2.1, (List.take ((x.2.2.2.2.1.toNat) * 256) x.2.2.2.2.2.2.2.2.2.2.2.2.2.2.2.2.1 ++ r3.1 ++ List.drop (((x.2.2.2.2.1.toNat) * 256) + 256) x.2.2.2.2.2.2.2.2.2.2.2.2.2.2.2.2.1), x.2.2.2.2.2.2.2.2.2.2.2.2.2.2.2.2.2.1, ())) else none) else none) else none)))
 else
  ke (.inr (x.1, (decide (x.2.2.2.1 = true)), x.2.2.2.2.2.1, x.2.2.2.2.2.2.1, x.2.2.2.2.2.2.2.1, x.2.2.2.2.2.2.2.2.1, x.2.2.2.2.2.2.2.2.2.1, x.2.2.2.2.2.2.2.2.2.2.1, x.2.2.2.2.2.2.2.2.2.2.2.1, x.2.2.2.2.2.2.2.2.2.2.2.2.1, x.2.2.2.2.2.2.2.2.2.2.2.2.2.1, x.2.2.2.2.2.2.2.2.2.2.2.2.2.2.2.2.1, x.2.2.2.2.2.2.2.2.2.2.2.2.2.2.2.2.2.1, ()))
noncomputable def b0U : Go' W57 := fun y K => match y with
 | .inl y => K (.pan (.ifi 26 .i64) y.1) (fSt { tmps := pv 10 (.sc (.nilsl) :: .sc (.bool) :: pv 160 []), mem := [] } [.bool] y.2)
 | .inr y => K (.exit 0) (fSt { tmps := .sc (.ptr 0 0 false) :: .sc (.ptr 1 0 false) :: .sc (.vec 2 none 1) :: pv 7 (.sc (.nilsl) :: .sc (.bool) :: .sc (.ptr 3 0 false) :: .sc (.ptr 4 0 false) :: pv 158 []), mem := [.live [.one (.fr b8), .one (.fr b8), .one (.fr b8), .xs b32 (some 1280), .xs b32 (some 1536), .xs b32 (some 1536)] (.ro), .live [.xs b32 (some 7680)] (.ro), .live [.xs b8 none] (.ro), .live [.xs b32 (some 1280)] (.own), .live [.xs b32 (some 1280)] (.own)] } [.nat, .bool, .xs, .xs, .xs, .xs, .xs, .xs, .xs, .nat, .xs, .xs, .xs] y)
noncomputable def a4X (N : Nat) : LT := upd (LT.nil) 3 (o6 b1N N (x9 N) b0U)
theorem b0V (N : Nat) : OkAll p_dsa_secret_try_E P3 N (a4X N) (w9 p8) :=
 d6 (c := d7 3 p8) (OkAll.nil) (by kernel_rfl) (fun x => by kernel_rfl) (fun β x kn ke => by kernel_rfl)
noncomputable def b0R : Shape := mkS { tmps := .sc (.ptr 0 0 false) :: V :: .sc (.vec 1 none 1) :: pv 7 (.sc (.nilsl) :: .sc (.bool) :: .sc (.ptr 2 0 false) :: .sc (.ptr 3 0 false) :: V :: .sc (.ptr 4 0 false) :: .sc (.ptr 5 0 false) :: pv 35 (.sc (.int .i64) :: pv 119 [])), mem := [.live [.one (.fr b8), .one (.fr b8), .one (.fr b8), .xs b32 (some 1280), .xs b32 (some 1536), .xs b32 (some 1536)] (.ro), .live [.xs b8 none] (.ro), .live [.xs b32 (some 1280)] (.own), .live [.xs b32 (some 1280)] (.own), .live [.xs b32 (some 1536)] (.own), .live [.xs b32 (some 1536)] (.own)] } [.nat, .bool, .int, .xs, .xs, .xs, .xs, .xs, .xs, .nat, .xs, .xs, .xs, .xs, .xs]
abbrev W58 : Type := Nat × Bool × Int × List Int × List Int × List Int × List Int × List Int × List Int × Nat × List Int × List Int × List Int × List Int × List Int × Unit
abbrev W59 : Type := Nat × Bool × List Int × List Int × List Int × List Int × List Int × List Int × Nat × List Int × List Int × List Int × List Int × List Int × Unit
noncomputable def v0 (N : Nat) (β : Type) (x : W58) (kn : W58 → Option β) (ke : W59 → Option β) : Option β :=
 if (x.2.2.1 < (6:Int)) then
  if 0 ≤ x.2.2.1 then (
  if x.2.2.1 < 6 then (
  if ((x.2.2.1.toNat) * 256) + 256 ≤ 1536 then (
  (x3 ((List.take 256 (List.drop ((x.2.2.1.toNat) * 256) x.2.2.2.2.2.2.2.2.2.2.2.2.2.1)), ())).bind fun r7 => (
  if 0 ≤ x.2.2.1 then (
  if x.2.2.1 < 6 then (
  if ((x.2.2.1.toNat) * 256) + 256 ≤ 1536 then (
  kn (x.1, (decide (x.2.1 = true)), (IntKind.i64.wrap (x.2.2.1 + (1:Int))), x.2.2.2.1, x.2.2.2.2.1, x.2.2.2.2.2.1, x.2.2.2.2.2.2.1, x.2.2.2.2.2.2.2.1, x.2.2.2.2.2.2.2.2.1, x.2.2.2.2.2.2.2.2.2.1, x.2.2.2.2.2.2.2.2.2.2.1, x.2.2.2.2.2.2.2.2.2.2.2.1, x.2.2.2.2.2.2.2.2.2.2.2.2.1, x.2.2.2.2.2.2.2.2.2.2.2.2.2.1, (List.take ((x.2.2.1.toNat) * 256) x.2.2.2.2.2.2.2.2.2.2.2.2.2.2.1 ++ r7.1 ++ List.drop (((x.2.2.1.toNat) * 256) + 256) x.2.2.2.2.2.2.2.2.2.2.2.2.2.2.1), ())) else none) else none) else none)) else none) else none) else none
 else
  ke (x.1, (decide (x.2.1 = true)), x.2.2.2.1, x.2.2.2.2.1, x.2.2.2.2.2.1, x.2.2.2.2.2.2.1, x.2.2.2.2.2.2.2.1, x.2.2.2.2.2.2.2.2.1, x.2.2.2.2.2.2.2.2.2.1, x.2.2.2.2.2.2.2.2.2.2.1, x.2.2.2.2.2.2.2.2.2.2.2.1, x.2.2.2.2.2.2.2.2.2.2.2.2.1, x.2.2.2.2.2.2.2.2.2.2.2.2.2.1, x.2.2.2.2.2.2.2.2.2.2.2.2.2.2.1, ())
noncomputable def a9O : Go' W59 := fun y K => K (.exit 2) (fSt { tmps := .sc (.ptr 0 0 false) :: V :: .sc (.vec 1 none 1) :: pv 7 (.sc (.nilsl) :: .sc (.bool) :: .sc (.ptr 2 0 false) :: .sc (.ptr 3 0 false) :: V :: .sc (.ptr 4 0 false) :: .sc (.ptr 5 0 false) :: pv 155 []), mem := [.live [.one (.fr b8), .one (.fr b8), .one (.fr b8), .xs b32 (some 1280), .xs b32 (some 1536), .xs b32 (some 1536)] (.ro), .live [.xs b8 none] (.ro), .live [.xs b32 (some 1280)] (.own), .live [.xs b32 (some 1280)] (.own), .live [.xs b32 (some 1536)] (.own), .live [.xs b32 (some 1536)] (.own)] } [.nat, .bool, .xs, .xs, .xs, .xs, .xs, .xs, .nat, .xs, .xs, .xs, .xs, .xs] y)
noncomputable def a3L (N : Nat) : LT := upd (a4X N) 10 (o6 b0R N (v0 N) a9O)
theorem a9P (N : Nat) : OkAll p_dsa_secret_try_E P3 N (a3L N) (w9 p8) :=
 d6 (c := d7 10 p8) (b0V N) (by kernel_rfl) (fun x => by kernel_rfl) (fun β x kn ke => by kernel_rfl)
noncomputable def b0S : Shape := mkS { tmps := .sc (.ptr 0 0 false) :: pv 9 (.sc (.nilsl) :: .sc (.bool) :: .sc (.ptr 1 0 false) :: .sc (.ptr 2 0 false) :: V :: .sc (.ptr 3 0 false) :: pv 3 (.sc (.ptr 4 0 false) :: .sc (.vec 5 none 1) :: pv 55 (.sc (.int .i64) :: pv 95 []))), mem := [.live [.one (.fr b8), .one (.fr b8), .one (.fr b8), .xs b32 (some 1280), .xs b32 (some 1536), .xs b32 (some 1536)] (.ro), .live [.xs b32 (some 1280)] (.own), .live [.xs b32 (some 1280)] (.own), .live [.xs b32 (some 1536)] (.own), .live [.xs b32 (some 256)] (.own), .live [.xs b8 none] (.own)] } [.bool, .nat, .int, .xs, .xs, .xs, .xs, .xs, .xs, .xs, .xs, .xs, .xs, .nat, .xs]
abbrev W60 : Type := Bool × Nat × Int × List Int × List Int × List Int × List Int × List Int × List Int × List Int × List Int × List Int × List Int × Nat × List Int × Unit
abbrev W61 : Type := (Bool × Unit) ⊕ ((Int × Bool × Unit) ⊕ (Bool × Nat × List Int × List Int × List Int × List Int × List Int × List Int × List Int × List Int × Nat × List Int × Unit))
noncomputable def j9 (N : Nat) (β : Type) (x : W60) (kn : W60 → Option β) (ke : W61 → Option β) : Option β :=
 if (x.2.2.1 < (5:Int)) then
  if 0 ≤ x.2.2.1 then (
  if x.2.2.1 < 5 then (
  if ((x.2.2.1.toNat) * 256) + 256 ≤ 1280 then (
  if 0 ≤ x.2.2.1 then (
  if x.2.2.1 < 5 then (
  if ((x.2.2.1.toNat) * 256) + 256 ≤ 1280 then (
  (U6 (x.2.2.2.2.2.2.2.2.2.2.2.2.1, (List.take 256 (List.drop ((x.2.2.1.toNat) * 256) x.2.2.2.2.2.2.1)), ())).bind fun r12 => (
  (Q0 ((List.take 256 (List.drop ((x.2.2.1.toNat) * 256) x.2.2.2.2.2.2.2.2.2.1)), r12, ())).bind fun r13 => (
  if 0 ≤ x.2.2.1 then (
  if x.2.2.1 < 5 then (
  if ((x.2.2.1.toNat) * 256) + 256 ≤ 1280 then (
  if 0 ≤ x.2.2.1 then (
  if x.2.2.1 < 5 then (
  if ((x.2.2.1.toNat) * 256) + 256 ≤ 1280 then (
  (T8 ((List.take 256 (List.drop ((x.2.2.1.toNat) * 256) (List.take ((x.2.2.1.toNat) * 256) x.2.2.2.2.2.2.2.2.2.2.1 ++ r13 ++ List.drop (((x.2.2.1.toNat) * 256) + 256) x.2.2.2.2.2.2.2.2.2.2.1))), ())).bind fun r14 => (
  if (r14 ≥ (524092:Int)) then
   ke (.inl (false, ()))
  else
   if 0 ≤ x.2.2.1 then (
   if x.2.2.1 < 5 then (
   if ((x.2.2.1.toNat) * 256) + 256 ≤ 1280 then (
   (n9 ((524288:Int), (20:Int), (List.take 256 (List.drop ((x.2.2.1.toNat) * 256) (List.take ((x.2.2.1.toNat) * 256) x.2.2.2.2.2.2.2.2.2.2.1 ++ r13 ++ List.drop (((x.2.2.1.toNat) * 256) + 256) x.2.2.2.2.2.2.2.2.2.2.1))), ())).bind fun r15 => (
   if (r15.2 ≠ (0:Int)) then
    ke (.inr (.inl (r15.2, (decide (x.1 = true)), ())))
   else
    if (x.2.1 + (List.length r15.1)) * 1 ≤ 140737488355328 then (
    kn ((decide (x.1 = true)), (x.2.1 + (List.length r15.1)), (IntKind.i64.wrap (x.2.2.1 + (1:Int))), x.2.2.2.1, x.2.2.2.2.1, x.2.2.2.2.2.1, x.2.2.2.2.2.2.1, x.2.2.2.2.2.2.2.1, x.2.2.2.2.2.2.2.2.1, x.2.2.2.2.2.2.2.2.2.1, (List.take ((x.2.2.1.toNat) * 256) x.2.2.2.2.2.2.2.2.2.2.1 ++ r13 ++ List.drop (((x.2.2.1.toNat) * 256) + 256) x.2.2.2.2.2.2.2.2.2.2.1), x.2.2.2.2.2.2.2.2.2.2.2.1, x.2.2.2.2.2.2.2.2.2.2.2.2.1, (x.2.2.2.2.2.2.2.2.2.2.2.2.2.1 + (List.length r15.1)), (x.2.2.2.2.2.2.2.2.2.2.2.2.2.2.1 ++ r15.1), ())) else none)) else none) else none) else none)) else none) else none) else none) else none) else none) else none))) else none) else none) else none) else none) else none) else none
 else
  ke (.inr (.inr ((decide (x.1 = true)), x.2.1, x.2.2.2.1, x.2.2.2.2.1, x.2.2.2.2.2.1, x.2.2.2.2.2.2.1, x.2.2.2.2.2.2.2.1, x.2.2.2.2.2.2.2.2.1, x.2.2.2.2.2.2.2.2.2.2.2.1, x.2.2.2.2.2.2.2.2.2.2.2.2.1, x.2.2.2.2.2.2.2.2.2.2.2.2.2.1, x.2.2.2.2.2.2.2.2.2.2.2.2.2.2.1, ())))
noncomputable def a9Q : Go' W61 := fun y K => match y with
 | .inl y => K .ret (fSt { tmps := pv 10 (.sc (.nilsl) :: .sc (.bool) :: pv 160 []), mem := [] } [.bool] y)
 | .inr (.inl y) => K (.pan (.ifi 26 .i64) y.1) (fSt { tmps := pv 10 (.sc (.nilsl) :: .sc (.bool) :: pv 160 []), mem := [] } [.bool] y.2)
 | .inr (.inr y) => K (.exit 4) (fSt { tmps := .sc (.ptr 0 0 false) :: pv 9 (.sc (.nilsl) :: .sc (.bool) :: pv 3 (.sc (.ptr 1 0 false) :: pv 3 (.sc (.ptr 2 0 false) :: .sc (.vec 3 none 1) :: pv 151 []))), mem := [.live [.one (.fr b8), .one (.fr b8), .one (.fr b8), .xs b32 (some 1280), .xs b32 (some 1536), .xs b32 (some 1536)] (.ro), .live [.xs b32 (some 1536)] (.own), .live [.xs b32 (some 256)] (.own), .live [.xs b8 none] (.own)] } [.bool, .nat, .xs, .xs, .xs, .xs, .xs, .xs, .xs, .xs, .nat, .xs] y)
noncomputable def a3M (N : Nat) : LT := upd (a3L N) 18 (o6 b0S N (j9 N) a9Q)
theorem a9R (N : Nat) : OkAll p_dsa_secret_try_E P3 N (a3M N) (w9 p8) :=
 d6 (c := d7 18 p8) (a9P N) (by kernel_rfl) (fun x => by kernel_rfl) (fun β x kn ke => by kernel_rfl)
noncomputable def b0T : Shape := mkS { tmps := .sc (.ptr 0 0 false) :: pv 9 (.sc (.nilsl) :: .sc (.bool) :: pv 3 (.sc (.ptr 1 0 false) :: pv 3 (.sc (.ptr 2 0 false) :: .sc (.vec 3 none 1) :: V :: .sc (.vec 4 (some 6) 256) :: .sc (.int .i64) :: pv 85 (.sc (.int .i64) :: pv 62 [])))), mem := [.live [.one (.fr b8), .one (.fr b8), .one (.fr b8), .xs b32 (some 1280), .xs b32 (some 1536), .xs b32 (some 1536)] (.ro), .live [.xs b32 (some 1536)] (.own), .live [.xs b32 (some 256)] (.own), .live [.xs b8 none] (.own), .live [.xs .bool (some 1536)] (.own)] } [.bool, .nat, .int, .int, .xs, .xs, .xs, .xs, .xs, .xs, .xs, .xs, .nat, .xs, .xs]
abbrev W62 : Type := Bool × Nat × Int × Int × List Int × List Int × List Int × List Int × List Int × List Int × List Int × List Int × Nat × List Int × List Int × Unit
abbrev W63 : Type := (Bool × Unit) ⊕ (Bool × Nat × Int × Nat × List Int × List Int × Unit)
noncomputable def k0 (N : Nat) (β : Type) (x : W62) (kn : W62 → Option β) (ke : W63 → Option β) : Option β :=
 if (x.2.2.2.1 < (6:Int)) then
  if 0 ≤ x.2.2.2.1 then (
  if x.2.2.2.1 < 6 then (
  if ((x.2.2.2.1.toNat) * 256) + 256 ≤ 1536 then (
  if 0 ≤ x.2.2.2.1 then (
  if x.2.2.2.1 < 6 then (
  if ((x.2.2.2.1.toNat) * 256) + 256 ≤ 1536 then (
  (U6 (x.2.2.2.2.2.2.2.2.2.2.2.1, (List.take 256 (List.drop ((x.2.2.2.1.toNat) * 256) x.2.2.2.2.2.2.2.2.1)), ())).bind fun r19 => (
  (a0v ((List.take 256 (List.drop ((x.2.2.2.1.toNat) * 256) x.2.2.2.2.2.2.2.2.2.2.1)), r19, ())).bind fun r20 => (
  if 0 ≤ x.2.2.2.1 then (
  if x.2.2.2.1 < 6 then (
  if ((x.2.2.2.1.toNat) * 256) + 256 ≤ 1536 then (
  (U6 (x.2.2.2.2.2.2.2.2.2.2.2.1, (List.take 256 (List.drop ((x.2.2.2.1.toNat) * 256) x.2.2.2.2.2.2.2.2.2.1)), ())).bind fun r21 => (
  (x3 (r20, ())).bind fun r22 => (
  (T8 (r22.2, ())).bind fun r23 => (
  if (r23 ≥ (261692:Int)) then
   ke (.inl (false, ()))
  else
   (T8 (r21, ())).bind fun r24 => (
   if (r24 ≥ (261888:Int)) then
    ke (.inl (false, ()))
   else
    (a0v ((List.replicate 256 0), r21, ())).bind fun r25 => (
    (Q0 (r20, r21, ())).bind fun r26 => (
    (X6 (r25, r26, ())).bind fun r27 => (
    if 0 ≤ x.2.2.2.1 then (
    if x.2.2.2.1 < (6:Int) then (
    if ((x.2.2.2.1.toNat) * 256) + 256 ≤ 1536 then (
    kn ((decide (x.1 = true)), x.2.1, (IntKind.i64.wrap (x.2.2.1 + r27.2)), (IntKind.i64.wrap (x.2.2.2.1 + (1:Int))), x.2.2.2.2.1, x.2.2.2.2.2.1, x.2.2.2.2.2.2.1, x.2.2.2.2.2.2.2.1, x.2.2.2.2.2.2.2.2.1, x.2.2.2.2.2.2.2.2.2.1, x.2.2.2.2.2.2.2.2.2.2.1, x.2.2.2.2.2.2.2.2.2.2.2.1, x.2.2.2.2.2.2.2.2.2.2.2.2.1, x.2.2.2.2.2.2.2.2.2.2.2.2.2.1, (List.take ((x.2.2.2.1.toNat) * 256) x.2.2.2.2.2.2.2.2.2.2.2.2.2.2.1 ++ r27.1 ++ List.drop (((x.2.2.2.1.toNat) * 256) + 256) x.2.2.2.2.2.2.2.2.2.2.2.2.2.2.1), ())) else none) else none) else none)))))))) else none) else none) else none))) else none) else none) else none) else none) else none) else none
 else
  ke (.inr ((decide (x.1 = true)), x.2.1, x.2.2.1, x.2.2.2.2.2.2.2.2.2.2.2.2.1, x.2.2.2.2.2.2.2.2.2.2.2.2.2.1, x.2.2.2.2.2.2.2.2.2.2.2.2.2.2.1, ()))
noncomputable def a9S : Go' W63 := fun y K => match y with
 | .inl y => K .ret (fSt { tmps := pv 10 (.sc (.nilsl) :: .sc (.bool) :: pv 160 []), mem := [] } [.bool] y)
 | .inr y => K (.exit 6) (fSt { tmps := pv 10 (.sc (.nilsl) :: .sc (.bool) :: pv 8 (.sc (.vec 0 none 1) :: V :: .sc (.vec 1 (some 6) 256) :: .sc (.int .i64) :: pv 148 [])), mem := [.live [.xs b8 none] (.own), .live [.xs .bool (some 1536)] (.own)] } [.bool, .nat, .int, .nat, .xs, .xs] y)
noncomputable def a3N (N : Nat) : LT := upd (a3M N) 27 (o6 b0T N (k0 N) a9S)
theorem a9T (N : Nat) : OkAll p_dsa_secret_try_E P3 N (a3N N) (w9 p8) :=
 d6 (c := d7 27 p8) (a9R N) (by kernel_rfl) (fun x => by kernel_rfl) (fun β x kn ke => by kernel_rfl)
abbrev L6 : List Kd := [.rp (.ct [.fs b8, .fs b8, .fs b8, .xs b32 1280, .xs b32 1536, .xs b32 1536]), .rp (.xs b32 7680), .sl b8, .sl b8, .int .i64]
abbrev L7 : List Kd := [.sl b8, .bool]
noncomputable def Y8 (N : Nat) (x : (List Int × List Int × List Int × List Int × List Int × List Int × Unit) × List Int × List Int × List Int × Int × Unit) : Option (Int ⊕ (List Int × Bool)) :=
 m7 (x9 N) N ((List.length x.2.2.1), (List.length x.2.2.2.1), x.2.2.2.2.1, false, (0:Int), x.1.1, x.1.2.1, x.1.2.2.1, x.1.2.2.2.1, x.1.2.2.2.2.1, x.1.2.2.2.2.2.1, x.2.1, (List.length x.2.2.1), x.2.2.1, (List.length x.2.2.2.1), x.2.2.2.1, (List.replicate 1280 0), (List.replicate 1280 0), ()) fun y => (match y with
 | .inl y4 => (
  some (.inl y4.1))
 | .inr y5 => (
  (N8 (y5.2.2.2.2.2.2.2.2.1, y5.2.2.2.2.2.2.2.2.2.2.2.1, ())).bind fun r6 => (
  m7 (v0 N) N (y5.1, y5.2.1, (0:Int), y5.2.2.1, y5.2.2.2.1, y5.2.2.2.2.1, y5.2.2.2.2.2.1, y5.2.2.2.2.2.2.1, y5.2.2.2.2.2.2.2.1, y5.2.2.2.2.2.2.2.2.2.1, y5.2.2.2.2.2.2.2.2.2.2.1, y5.2.2.2.2.2.2.2.2.2.2.2.1, y5.2.2.2.2.2.2.2.2.2.2.2.2.1, r6, (List.replicate 1536 0), ()) fun y8 => (
  (a0y (y8.2.2.2.2.2.2.2.2.2.1, y8.2.2.2.2.2.2.2.2.2.2.2.2.2.1, ())).bind fun r9 => (
  (a4K ((49:Int), r9, ())).bind fun r10 => (
  if (r10.2 ≠ (0:Int)) then
   some (.inl r10.2)
  else
   (m6 ([r9], ())).bind fun r11 => (
   m7 (j9 N) N (y8.2.1, (List.length r11), (0:Int), y8.2.2.1, y8.2.2.2.1, y8.2.2.2.2.1, y8.2.2.2.2.2.1, y8.2.2.2.2.2.2.1, y8.2.2.2.2.2.2.2.1, y8.2.2.2.2.2.2.2.2.2.2.1, y8.2.2.2.2.2.2.2.2.2.2.2.1, y8.2.2.2.2.2.2.2.2.2.2.2.2.1, r10.1, (List.length r11), r11, ()) fun y => (match y with
   | .inl y16 => (
    some (.inr ([], y16.1)))
   | .inr (.inl y17) => (
    some (.inl y17.1))
   | .inr (.inr y18) => (
    if 0 ≤ (6:Int) then (
    if (6:Int) = (6:Int) then (
    if (6:Int) * 256 ≤ 281474976710656 then (
    m7 (k0 N) N (y18.1, y18.2.1, (0:Int), (0:Int), y18.2.2.1, y18.2.2.2.1, y18.2.2.2.2.1, y18.2.2.2.2.2.1, y18.2.2.2.2.2.2.1, y18.2.2.2.2.2.2.2.1, y18.2.2.2.2.2.2.2.2.1, y18.2.2.2.2.2.2.2.2.2.1, y18.2.2.2.2.2.2.2.2.2.2.1, y18.2.2.2.2.2.2.2.2.2.2.2.1, (List.replicate 1536 0), ()) fun y => (match y with
    | .inl y28 => (
     some (.inr ([], y28.1)))
    | .inr y29 => (
     if (y29.2.2.1 > (55:Int)) then
      some (.inr ([], false))
     else
      (a05 (y29.2.2.2.2.2.1, (55:Int), ())).bind fun r30 => (
      if (r30.2 ≠ (0:Int)) then
       some (.inl r30.2)
      else
       if (y29.2.1 + (List.length r30.1)) * 1 ≤ 140737488355328 then (
       some (.inr ((y29.2.2.2.2.1 ++ r30.1), true))) else none)))) else none) else none) else none)))))))))
theorem b3f (e0 : c8 Try.prog 17 b04) (e1 : c8 Try.prog 16 N4) (e2 : c8 Try.prog 52 b02) (e3 : c8 Try.prog 19 N3) (e4 : c8 Try.prog 53 D2) (e5 : c8 Try.prog 41 a0n) (e6 : c8 Try.prog 33 a4z) (e7 : c8 Try.prog 54 b3R) (e8 : c8 Try.prog 21 U3) (e9 : c8 Try.prog 30 a0m) (e10 : c8 Try.prog 24 X1) (e11 : c8 Try.prog 37 a5Y) (e12 : c8 Try.prog 55 a43) (e13 : c8 Try.prog 56 a3Q) : p_dsa_secret_try_E.Ok Try.prog := AE.ofI_ok (all_cons Z1 (all_cons u4 (all_cons F8 (all_cons a2C (all_cons q8 (all_cons b5f (all_cons b5g (all_cons c8j (all_cons c4S (all_cons b8x c6)))))))))) (all_cons ⟨e0, b3E⟩ (all_cons ⟨e1, a03⟩ (all_cons ⟨e2, b7l⟩ (all_cons ⟨e3, a2W⟩ (all_cons ⟨e4, a0a⟩ (all_cons ⟨e5, a5p⟩ (all_cons ⟨e6, a8h⟩ (all_cons ⟨e7, b88⟩ (all_cons ⟨e8, a1X⟩ (all_cons ⟨e9, a3X⟩ (all_cons ⟨e10, a4G⟩ (all_cons ⟨e11, b0b⟩ (all_cons ⟨e12, b1i⟩ (all_cons ⟨e13, b0u⟩ c6)))))))))))))) c6 (all_cons ⟨O1, A4⟩ (all_cons ⟨a2I, Z3⟩ c6)) c6
theorem b4K (hE : p_dsa_secret_try_E.Ok Try.prog) {g : Ds L6 → Option (Bool × Int × Rs L7)} (hg : ∀ x r, g x = some r → ∃ N, Y8 N x = some (xr r)) : XOk Try.prog 27 ⟨L6, L7, (.ifi 26 .i64), g⟩ :=
 c0Z (E := p_dsa_secret_try_E) (H := P3) (L := fun N => a3N N) (c := p8) (ks := L6) (rs := L7) (F := Y8) hE mix Try.func27 (by kernel_rfl) (fun N => a9T N) (fun _ _ => by kernel_rfl) hg
noncomputable abbrev a2T : Sig := ⟨[.int .i64, .sl b8], [.xs b32 256, .int .i64], G0⟩
noncomputable abbrev a2m : Sig := ⟨[.xs b32 256], [.xs b32 256, .xs b32 256], U7⟩
noncomputable abbrev a0o : XSig := ⟨[.sl b8], [.op [.xs b32 7680]], (.ifi 26 .i64), N7⟩
noncomputable def p_dsa_KeyGen_E : AE := AE.ofA [(5, ty5), (22, ty22), (23, ty23), (26, ty26), (35, ty35), (40, ty40), (42, ty42), (44, ty44)] [(13, R4), (17, b04), (16, N4), (15, a2T), (19, N3), (21, U3), (20, a2m), (23, a4A), (24, X1)] [(18, a0o)] [(12, a4l)] [] [(14, a07), (22, a6c)] [] [] [] [] [] []
noncomputable def Z9 : Hints := [(7, [2, 3, 4, 6, 7, 8, 9, 10, 30]), (12, [2, 3, 4, 6, 7, 8, 9, 10, 45]), (20, [2, 3, 4, 6, 8, 9, 10, 13, 14, 68]), (28, [2, 3, 4, 9, 10, 14, 104]), (33, [2, 3, 4, 10, 14, 117]), (2000000, [2, 3, 4, 6, 7, 8, 9, 10]), (2000001, [2, 3, 4, 6, 7, 8, 9, 10, 30]), (2000002, [2, 3, 4, 6, 8, 9, 10]), (2000003, [2, 3, 4, 6, 7, 8, 9, 10, 45]), (2000004, [2, 3, 4, 6, 8, 9, 10, 14]), (2000005, [2, 3, 4, 6, 8, 9, 10, 13, 14, 68]), (2000006, [2, 3, 4, 10, 14]), (2000007, [2, 3, 4, 9, 10, 14, 104]), (2000008, [2, 3, 4, 14]), (2000009, [2, 3, 4, 10, 14, 117]), (3000000, [2, 3, 4]), (5000000, [2, 3, 4]), (7000020, [14, 1])]
noncomputable def v6 : Code := (Try.f8).body.getD .skip
noncomputable def b72 : Shape := mkS { tmps := V :: V :: .sc (.nilsl) :: .sc (.nilsl) :: .sc (.ptr 0 0 false) :: V :: .sc (.sl 1 (some 0) (some 32) none 1) :: .sc (.sl 1 (some 32) (some 64) none 1) :: .sc (.sl 1 (some 96) none none 1) :: .sc (.ptr 2 0 false) :: .sc (.ptr 3 0 false) :: pv 19 (.sc (.int .i64) :: pv 103 []), mem := [.live [.xs b64 (some 1)] (.own), .live [.xs b8 none] (.own), .live [.xs b32 (some 1280)] (.own), .live [.xs b32 (some 1536)] (.own)], dfr := [(12, [.ptr 0 0 false])] } [.nat, .nat, .nat, .nat, .int, .xs, .nat, .xs, .xs, .xs]
abbrev W64 : Type := Nat × Nat × Nat × Nat × Int × List Int × Nat × List Int × List Int × List Int × Unit
abbrev W65 : Type := (Int × List Int × Unit) ⊕ (Nat × Nat × Nat × Nat × List Int × Nat × List Int × List Int × List Int × Unit)
noncomputable def x4 (N : Nat) (β : Type) (x : W64) (kn : W64 → Option β) (ke : W65 → Option β) : Option β :=
 if (x.2.2.2.2.1 < (5:Int)) then
  (a8s (x.2.2.2.2.1, ())).bind fun r2 => (
  (m6 ([(List.take 64 (List.drop 32 x.2.2.2.2.2.2.2.1)), r2], ())).bind fun r3 => (
  (G0 ((4:Int), r3, ())).bind fun r4 => (
  if (r4.2 ≠ (0:Int)) then
   ke (.inl (r4.2, x.2.2.2.2.2.1, ()))
  else
   if 0 ≤ x.2.2.2.2.1 then (
   if x.2.2.2.2.1 < 5 then (
   if ((x.2.2.2.2.1.toNat) * 256) + 256 ≤ 1280 then (
   kn (x.1, x.2.1, x.2.2.1, x.2.2.2.1, (IntKind.i64.wrap (x.2.2.2.2.1 + (1:Int))), x.2.2.2.2.2.1, x.2.2.2.2.2.2.1, x.2.2.2.2.2.2.2.1, (List.take ((x.2.2.2.2.1.toNat) * 256) x.2.2.2.2.2.2.2.2.1 ++ r4.1 ++ List.drop (((x.2.2.2.2.1.toNat) * 256) + 256) x.2.2.2.2.2.2.2.2.1), x.2.2.2.2.2.2.2.2.2.1, ())) else none) else none) else none)))
 else
  ke (.inr (x.1, x.2.1, x.2.2.1, x.2.2.2.1, x.2.2.2.2.2.1, x.2.2.2.2.2.2.1, x.2.2.2.2.2.2.2.1, x.2.2.2.2.2.2.2.2.1, x.2.2.2.2.2.2.2.2.2.1, ()))
noncomputable def b6j : Go' W65 := fun y K => match y with
 | .inl y => K (.pan (.ifi 26 .i64) y.1) (fSt { tmps := V :: V :: .sc (.nilsl) :: .sc (.nilsl) :: .sc (.ptr 0 0 false) :: pv 129 [], mem := [.live [.xs b64 (some 1)] (.own)], dfr := [(12, [.ptr 0 0 false])] } [.xs] y.2)
 | .inr y => K (.exit 0) (fSt { tmps := V :: V :: .sc (.nilsl) :: .sc (.nilsl) :: .sc (.ptr 0 0 false) :: V :: .sc (.sl 1 (some 0) (some 32) none 1) :: .sc (.sl 1 (some 32) (some 64) none 1) :: .sc (.sl 1 (some 96) none none 1) :: .sc (.ptr 2 0 false) :: .sc (.ptr 3 0 false) :: pv 123 [], mem := [.live [.xs b64 (some 1)] (.own), .live [.xs b8 none] (.own), .live [.xs b32 (some 1280)] (.own), .live [.xs b32 (some 1536)] (.own)], dfr := [(12, [.ptr 0 0 false])] } [.nat, .nat, .nat, .nat, .xs, .nat, .xs, .xs, .xs] y)
noncomputable def a8M (N : Nat) : LT := upd (LT.nil) 7 (o6 b72 N (x4 N) b6j)
theorem b6k (N : Nat) : OkAll p_dsa_KeyGen_E Z9 N (a8M N) (w9 v6) :=
 d6 (c := d7 7 v6) (OkAll.nil) (by kernel_rfl) (fun x => by kernel_rfl) (fun β x kn ke => by kernel_rfl)
noncomputable def b6f : Shape := mkS { tmps := V :: V :: .sc (.nilsl) :: .sc (.nilsl) :: .sc (.ptr 0 0 false) :: V :: .sc (.sl 1 (some 0) (some 32) none 1) :: .sc (.sl 1 (some 32) (some 64) none 1) :: .sc (.sl 1 (some 96) none none 1) :: .sc (.ptr 2 0 false) :: .sc (.ptr 3 0 false) :: pv 34 (.sc (.int .i64) :: pv 88 []), mem := [.live [.xs b64 (some 1)] (.own), .live [.xs b8 none] (.own), .live [.xs b32 (some 1280)] (.own), .live [.xs b32 (some 1536)] (.own)], dfr := [(12, [.ptr 0 0 false])] } [.nat, .nat, .nat, .nat, .int, .xs, .nat, .xs, .xs, .xs]
abbrev W66 : Type := (Int × List Int × Unit) ⊕ (Nat × Nat × Nat × List Int × Nat × List Int × List Int × List Int × Unit)
noncomputable def u6 (N : Nat) (β : Type) (x : W64) (kn : W64 → Option β) (ke : W66 → Option β) : Option β :=
 if (x.2.2.2.2.1 < (6:Int)) then
  (a8s ((IntKind.i64.wrap ((5:Int) + x.2.2.2.2.1)), ())).bind fun r7 => (
  (m6 ([(List.take 64 (List.drop 32 x.2.2.2.2.2.2.2.1)), r7], ())).bind fun r8 => (
  (G0 ((4:Int), r8, ())).bind fun r9 => (
  if (r9.2 ≠ (0:Int)) then
   ke (.inl (r9.2, x.2.2.2.2.2.1, ()))
  else
   if 0 ≤ x.2.2.2.2.1 then (
   if x.2.2.2.2.1 < 6 then (
   if ((x.2.2.2.2.1.toNat) * 256) + 256 ≤ 1536 then (
   kn (x.1, x.2.1, x.2.2.1, x.2.2.2.1, (IntKind.i64.wrap (x.2.2.2.2.1 + (1:Int))), x.2.2.2.2.2.1, x.2.2.2.2.2.2.1, x.2.2.2.2.2.2.2.1, x.2.2.2.2.2.2.2.2.1, (List.take ((x.2.2.2.2.1.toNat) * 256) x.2.2.2.2.2.2.2.2.2.1 ++ r9.1 ++ List.drop (((x.2.2.2.2.1.toNat) * 256) + 256) x.2.2.2.2.2.2.2.2.2.1), ())) else none) else none) else none)))
 else
  ke (.inr (x.1, x.2.2.1, x.2.2.2.1, x.2.2.2.2.2.1, x.2.2.2.2.2.2.1, x.2.2.2.2.2.2.2.1, x.2.2.2.2.2.2.2.2.1, x.2.2.2.2.2.2.2.2.2.1, ()))
noncomputable def b4v : Go' W66 := fun y K => match y with
 | .inl y => K (.pan (.ifi 26 .i64) y.1) (fSt { tmps := V :: V :: .sc (.nilsl) :: .sc (.nilsl) :: .sc (.ptr 0 0 false) :: pv 129 [], mem := [.live [.xs b64 (some 1)] (.own)], dfr := [(12, [.ptr 0 0 false])] } [.xs] y.2)
 | .inr y => K (.exit 2) (fSt { tmps := V :: V :: .sc (.nilsl) :: .sc (.nilsl) :: .sc (.ptr 0 0 false) :: V :: .sc (.sl 1 (some 0) (some 32) none 1) :: V :: .sc (.sl 1 (some 96) none none 1) :: .sc (.ptr 2 0 false) :: .sc (.ptr 3 0 false) :: pv 123 [], mem := [.live [.xs b64 (some 1)] (.own), .live [.xs b8 none] (.own), .live [.xs b32 (some 1280)] (.own), .live [.xs b32 (some 1536)] (.own)], dfr := [(12, [.ptr 0 0 false])] } [.nat, .nat, .nat, .xs, .nat, .xs, .xs, .xs] y)
noncomputable def a7f (N : Nat) : LT := upd (a8M N) 12 (o6 b6f N (u6 N) b4v)
theorem b4w (N : Nat) : OkAll p_dsa_KeyGen_E Z9 N (a7f N) (w9 v6) :=
 d6 (c := d7 12 v6) (b6k N) (by kernel_rfl) (fun x => by kernel_rfl) (fun β x kn ke => by kernel_rfl)
noncomputable def b6g : Shape := mkS { tmps := V :: V :: .sc (.vec 1 none 1) :: .sc (.nilsl) :: .sc (.ptr 0 0 false) :: V :: .sc (.sl 2 (some 0) (some 32) none 1) :: V :: .sc (.sl 2 (some 96) none none 1) :: .sc (.ptr 3 0 false) :: .sc (.ptr 4 0 false) :: V :: V :: .sc (.ptr 5 0 false) :: .sc (.vec 6 none 1) :: pv 53 (.sc (.int .i64) :: pv 65 []), mem := [.live [.xs b64 (some 1)] (.own), .live [.xs b8 none] (.own), .live [.xs b8 none] (.own), .live [.xs b32 (some 1280)] (.own), .live [.xs b32 (some 1536)] (.own), .live [.xs b32 (some 1536)] (.own), .live [.xs b8 none] (.own)], dfr := [(12, [.ptr 0 0 false])] } [.nat, .nat, .nat, .nat, .nat, .int, .xs, .nat, .xs, .nat, .xs, .xs, .xs, .xs, .nat, .xs]
abbrev W67 : Type := Nat × Nat × Nat × Nat × Nat × Int × List Int × Nat × List Int × Nat × List Int × List Int × List Int × List Int × Nat × List Int × Unit
abbrev W68 : Type := (Int × Nat × List Int × Nat × List Int × Unit) ⊕ (Nat × Nat × Nat × Nat × Nat × List Int × Nat × List Int × Nat × List Int × List Int × List Int × Nat × List Int × Unit)
noncomputable def G3 (N : Nat) (β : Type) (x : W67) (kn : W67 → Option β) (ke : W68 → Option β) : Option β :=
 if (x.2.2.2.2.2.1 < (6:Int)) then
  if 0 ≤ x.2.2.2.2.2.1 then (
  if x.2.2.2.2.2.1 < 6 then (
  if ((x.2.2.2.2.2.1.toNat) * 256) + 256 ≤ 1536 then (
  if 0 ≤ x.2.2.2.2.2.1 then (
  if x.2.2.2.2.2.1 < 6 then (
  if ((x.2.2.2.2.2.1.toNat) * 256) + 256 ≤ 1536 then (
  (Q0 ((List.take 256 (List.drop ((x.2.2.2.2.2.1.toNat) * 256) x.2.2.2.2.2.2.2.2.2.2.2.2.2.1)), (List.take 256 (List.drop ((x.2.2.2.2.2.1.toNat) * 256) x.2.2.2.2.2.2.2.2.2.2.2.2.1)), ())).bind fun r16 => (
  (U7 (r16, ())).bind fun r17 => (
  (a2F ((10:Int), r17.1, ())).bind fun r18 => (
  if (r18.2 ≠ (0:Int)) then
   ke (.inl (r18.2, x.1, x.2.2.2.2.2.2.1, x.2.2.2.2.2.2.2.1, x.2.2.2.2.2.2.2.2.1, ()))
  else
   if (x.1 + (List.length r18.1)) * 1 ≤ 140737488355328 then (
   (n9 ((4096:Int), (13:Int), r17.2, ())).bind fun r19 => (
   if (r19.2 ≠ (0:Int)) then
    ke (.inl (r19.2, (x.1 + (List.length r18.1)), x.2.2.2.2.2.2.1, (x.2.2.2.2.2.2.2.1 + (List.length r18.1)), (x.2.2.2.2.2.2.2.2.1 ++ r18.1), ()))
   else
    if (x.2.2.2.2.1 + (List.length r19.1)) * 1 ≤ 140737488355328 then (
    kn ((x.1 + (List.length r18.1)), x.2.1, x.2.2.1, x.2.2.2.1, (x.2.2.2.2.1 + (List.length r19.1)), (IntKind.i64.wrap (x.2.2.2.2.2.1 + (1:Int))), x.2.2.2.2.2.2.1, (x.2.2.2.2.2.2.2.1 + (List.length r18.1)), (x.2.2.2.2.2.2.2.2.1 ++ r18.1), x.2.2.2.2.2.2.2.2.2.1, x.2.2.2.2.2.2.2.2.2.2.1, x.2.2.2.2.2.2.2.2.2.2.2.1, x.2.2.2.2.2.2.2.2.2.2.2.2.1, x.2.2.2.2.2.2.2.2.2.2.2.2.2.1, (x.2.2.2.2.2.2.2.2.2.2.2.2.2.2.1 + (List.length r19.1)), (x.2.2.2.2.2.2.2.2.2.2.2.2.2.2.2.1 ++ r19.1), ())) else none)) else none)))) else none) else none) else none) else none) else none) else none
 else
  ke (.inr (x.1, x.2.1, x.2.2.1, x.2.2.2.1, x.2.2.2.2.1, x.2.2.2.2.2.2.1, x.2.2.2.2.2.2.2.1, x.2.2.2.2.2.2.2.2.1, x.2.2.2.2.2.2.2.2.2.1, x.2.2.2.2.2.2.2.2.2.2.1, x.2.2.2.2.2.2.2.2.2.2.2.1, x.2.2.2.2.2.2.2.2.2.2.2.2.1, x.2.2.2.2.2.2.2.2.2.2.2.2.2.2.1, x.2.2.2.2.2.2.2.2.2.2.2.2.2.2.2.1, ()))
noncomputable def b4x : Go' W68 := fun y K => match y with
 | .inl y => K (.pan (.ifi 26 .i64) y.1) (fSt { tmps := V :: V :: .sc (.vec 1 none 1) :: .sc (.nilsl) :: .sc (.ptr 0 0 false) :: pv 129 [], mem := [.live [.xs b64 (some 1)] (.own), .live [.xs b8 none] (.own)], dfr := [(12, [.ptr 0 0 false])] } [.nat, .xs, .nat, .xs] y.2)
 | .inr y => K (.exit 4) (fSt { tmps := V :: V :: .sc (.vec 1 none 1) :: .sc (.nilsl) :: .sc (.ptr 0 0 false) :: V :: .sc (.sl 2 (some 0) (some 32) none 1) :: V :: .sc (.sl 2 (some 96) none none 1) :: .sc (.ptr 3 0 false) :: .sc (.ptr 4 0 false) :: pv 3 (.sc (.vec 5 none 1) :: pv 119 []), mem := [.live [.xs b64 (some 1)] (.own), .live [.xs b8 none] (.own), .live [.xs b8 none] (.own), .live [.xs b32 (some 1280)] (.own), .live [.xs b32 (some 1536)] (.own), .live [.xs b8 none] (.own)], dfr := [(12, [.ptr 0 0 false])] } [.nat, .nat, .nat, .nat, .nat, .xs, .nat, .xs, .nat, .xs, .xs, .xs, .nat, .xs] y)
noncomputable def a7g (N : Nat) : LT := upd (a7f N) 20 (o6 b6g N (G3 N) b4x)
theorem b4y (N : Nat) : OkAll p_dsa_KeyGen_E Z9 N (a7g N) (w9 v6) :=
 d6 (c := d7 20 v6) (b4w N) (by kernel_rfl) (fun x => by kernel_rfl) (fun β x kn ke => by kernel_rfl)
noncomputable def b6h : Shape := mkS { tmps := V :: V :: .sc (.vec 1 none 1) :: .sc (.vec 2 none 1) :: .sc (.ptr 0 0 false) :: pv 4 (.sc (.ptr 3 0 false) :: .sc (.ptr 4 0 false) :: pv 3 (.sc (.vec 5 none 1) :: pv 89 (.sc (.int .i64) :: pv 29 []))), mem := [.live [.xs b64 (some 1)] (.own), .live [.xs b8 none] (.own), .live [.xs b8 none] (.own), .live [.xs b32 (some 1280)] (.own), .live [.xs b32 (some 1536)] (.own), .live [.xs b8 none] (.own)], dfr := [(12, [.ptr 0 0 false])] } [.nat, .nat, .nat, .int, .xs, .nat, .xs, .nat, .xs, .xs, .xs, .nat, .xs]
abbrev W69 : Type := Nat × Nat × Nat × Int × List Int × Nat × List Int × Nat × List Int × List Int × List Int × Nat × List Int × Unit
abbrev W70 : Type := (Int × Nat × Nat × List Int × Nat × List Int × Nat × List Int × Unit) ⊕ (Nat × Nat × Nat × List Int × Nat × List Int × Nat × List Int × List Int × Nat × List Int × Unit)
noncomputable def G4 (N : Nat) (β : Type) (x : W69) (kn : W69 → Option β) (ke : W70 → Option β) : Option β :=
 if (x.2.2.2.1 < (5:Int)) then
  if 0 ≤ x.2.2.2.1 then (
  if x.2.2.2.1 < 5 then (
  if ((x.2.2.2.1.toNat) * 256) + 256 ≤ 1280 then (
  (n9 ((4:Int), (4:Int), (List.take 256 (List.drop ((x.2.2.2.1.toNat) * 256) x.2.2.2.2.2.2.2.2.2.1)), ())).bind fun r24 => (
  if (r24.2 ≠ (0:Int)) then
   ke (.inl (r24.2, x.1, x.2.1, x.2.2.2.2.1, x.2.2.2.2.2.1, x.2.2.2.2.2.2.1, x.2.2.2.2.2.2.2.1, x.2.2.2.2.2.2.2.2.1, ()))
  else
   if (x.2.1 + (List.length r24.1)) * 1 ≤ 140737488355328 then (
   kn (x.1, (x.2.1 + (List.length r24.1)), x.2.2.1, (IntKind.i64.wrap (x.2.2.2.1 + (1:Int))), x.2.2.2.2.1, x.2.2.2.2.2.1, x.2.2.2.2.2.2.1, (x.2.2.2.2.2.2.2.1 + (List.length r24.1)), (x.2.2.2.2.2.2.2.2.1 ++ r24.1), x.2.2.2.2.2.2.2.2.2.1, x.2.2.2.2.2.2.2.2.2.2.1, x.2.2.2.2.2.2.2.2.2.2.2.1, x.2.2.2.2.2.2.2.2.2.2.2.2.1, ())) else none)) else none) else none) else none
 else
  ke (.inr (x.1, x.2.1, x.2.2.1, x.2.2.2.2.1, x.2.2.2.2.2.1, x.2.2.2.2.2.2.1, x.2.2.2.2.2.2.2.1, x.2.2.2.2.2.2.2.2.1, x.2.2.2.2.2.2.2.2.2.2.1, x.2.2.2.2.2.2.2.2.2.2.2.1, x.2.2.2.2.2.2.2.2.2.2.2.2.1, ()))
noncomputable def b4z : Go' W70 := fun y K => match y with
 | .inl y => K (.pan (.ifi 26 .i64) y.1) (fSt { tmps := V :: V :: .sc (.vec 1 none 1) :: .sc (.vec 2 none 1) :: .sc (.ptr 0 0 false) :: pv 129 [], mem := [.live [.xs b64 (some 1)] (.own), .live [.xs b8 none] (.own), .live [.xs b8 none] (.own)], dfr := [(12, [.ptr 0 0 false])] } [.nat, .nat, .xs, .nat, .xs, .nat, .xs] y.2)
 | .inr y => K (.exit 6) (fSt { tmps := V :: V :: .sc (.vec 1 none 1) :: .sc (.vec 2 none 1) :: .sc (.ptr 0 0 false) :: pv 5 (.sc (.ptr 3 0 false) :: pv 3 (.sc (.vec 4 none 1) :: pv 119 [])), mem := [.live [.xs b64 (some 1)] (.own), .live [.xs b8 none] (.own), .live [.xs b8 none] (.own), .live [.xs b32 (some 1536)] (.own), .live [.xs b8 none] (.own)], dfr := [(12, [.ptr 0 0 false])] } [.nat, .nat, .nat, .xs, .nat, .xs, .nat, .xs, .xs, .nat, .xs] y)
noncomputable def a7h (N : Nat) : LT := upd (a7g N) 28 (o6 b6h N (G4 N) b4z)
theorem b4A (N : Nat) : OkAll p_dsa_KeyGen_E Z9 N (a7h N) (w9 v6) :=
 d6 (c := d7 28 v6) (b4y N) (by kernel_rfl) (fun x => by kernel_rfl) (fun β x kn ke => by kernel_rfl)
noncomputable def b6i : Shape := mkS { tmps := V :: V :: .sc (.vec 1 none 1) :: .sc (.vec 2 none 1) :: .sc (.ptr 0 0 false) :: pv 5 (.sc (.ptr 3 0 false) :: pv 3 (.sc (.vec 4 none 1) :: pv 102 (.sc (.int .i64) :: pv 16 []))), mem := [.live [.xs b64 (some 1)] (.own), .live [.xs b8 none] (.own), .live [.xs b8 none] (.own), .live [.xs b32 (some 1536)] (.own), .live [.xs b8 none] (.own)], dfr := [(12, [.ptr 0 0 false])] } [.nat, .nat, .nat, .int, .xs, .nat, .xs, .nat, .xs, .xs, .nat, .xs]
abbrev W71 : Type := Nat × Nat × Nat × Int × List Int × Nat × List Int × Nat × List Int × List Int × Nat × List Int × Unit
abbrev W72 : Type := (Int × Nat × Nat × List Int × Nat × List Int × Nat × List Int × Unit) ⊕ (Nat × Nat × Nat × List Int × Nat × List Int × Nat × List Int × Nat × List Int × Unit)
noncomputable def G5 (N : Nat) (β : Type) (x : W71) (kn : W71 → Option β) (ke : W72 → Option β) : Option β :=
 if (x.2.2.2.1 < (6:Int)) then
  if 0 ≤ x.2.2.2.1 then (
  if x.2.2.2.1 < 6 then (
  if ((x.2.2.2.1.toNat) * 256) + 256 ≤ 1536 then (
  (n9 ((4:Int), (4:Int), (List.take 256 (List.drop ((x.2.2.2.1.toNat) * 256) x.2.2.2.2.2.2.2.2.2.1)), ())).bind fun r27 => (
  if (r27.2 ≠ (0:Int)) then
   ke (.inl (r27.2, x.1, x.2.1, x.2.2.2.2.1, x.2.2.2.2.2.1, x.2.2.2.2.2.2.1, x.2.2.2.2.2.2.2.1, x.2.2.2.2.2.2.2.2.1, ()))
  else
   if (x.2.1 + (List.length r27.1)) * 1 ≤ 140737488355328 then (
   kn (x.1, (x.2.1 + (List.length r27.1)), x.2.2.1, (IntKind.i64.wrap (x.2.2.2.1 + (1:Int))), x.2.2.2.2.1, x.2.2.2.2.2.1, x.2.2.2.2.2.2.1, (x.2.2.2.2.2.2.2.1 + (List.length r27.1)), (x.2.2.2.2.2.2.2.2.1 ++ r27.1), x.2.2.2.2.2.2.2.2.2.1, x.2.2.2.2.2.2.2.2.2.2.1, x.2.2.2.2.2.2.2.2.2.2.2.1, ())) else none)) else none) else none) else none
 else
  ke (.inr (x.1, x.2.1, x.2.2.1, x.2.2.2.2.1, x.2.2.2.2.2.1, x.2.2.2.2.2.2.1, x.2.2.2.2.2.2.2.1, x.2.2.2.2.2.2.2.2.1, x.2.2.2.2.2.2.2.2.2.2.1, x.2.2.2.2.2.2.2.2.2.2.2.1, ()))
noncomputable def b4B : Go' W72 := fun y K => match y with
 | .inl y => K (.pan (.ifi 26 .i64) y.1) (fSt { tmps := V :: V :: .sc (.vec 1 none 1) :: .sc (.vec 2 none 1) :: .sc (.ptr 0 0 false) :: pv 129 [], mem := [.live [.xs b64 (some 1)] (.own), .live [.xs b8 none] (.own), .live [.xs b8 none] (.own)], dfr := [(12, [.ptr 0 0 false])] } [.nat, .nat, .xs, .nat, .xs, .nat, .xs] y.2)
 | .inr y => K (.exit 8) (fSt { tmps := V :: V :: .sc (.vec 1 none 1) :: .sc (.vec 2 none 1) :: .sc (.ptr 0 0 false) :: pv 9 (.sc (.vec 3 none 1) :: pv 119 []), mem := [.live [.xs b64 (some 1)] (.own), .live [.xs b8 none] (.own), .live [.xs b8 none] (.own), .live [.xs b8 none] (.own)], dfr := [(12, [.ptr 0 0 false])] } [.nat, .nat, .nat, .xs, .nat, .xs, .nat, .xs, .nat, .xs] y)
noncomputable def a7i (N : Nat) : LT := upd (a7h N) 33 (o6 b6i N (G5 N) b4B)
theorem b4C (N : Nat) : OkAll p_dsa_KeyGen_E Z9 N (a7i N) (w9 v6) :=
 d6 (c := d7 33 v6) (b4A N) (by kernel_rfl) (fun x => by kernel_rfl) (fun β x kn ke => by kernel_rfl)
abbrev a0N : List Kd := [.xs b8 32]
abbrev a0O : List Kd := [.sl b8, .sl b8, .int .i64]
noncomputable def a4V (N : Nat) (x : List Int × Unit) : Option (List Int × List Int × Int) :=
 (J2 ((128:Int), [(List.take 32 (List.drop 0 x.1)), (List.set (List.set (List.replicate 2 0) 0 (6:Int)) 1 (5:Int))], ())).bind fun r1 => (
 if 32 ≤ (List.length r1) then (
 if 96 ≤ (List.length r1) then (
 if 32 ≤ 96 then (
 if 96 ≤ (List.length r1) then (
 m7 (x4 N) N ((List.length r1), ((List.length r1) - 32), ((List.length r1) - 96), ((List.length r1) - 96), (0:Int), [0], (List.length r1), r1, (List.replicate 1280 0), (List.replicate 1536 0), ()) fun y => (match y with
 | .inl y5 => (
  some ([], [], (List.getD (List.set y5.2.1 0 y5.1) 0 0)))
 | .inr y6 => (
  m7 (u6 N) N (y6.1, y6.2.1, y6.2.2.1, y6.2.2.2.1, (0:Int), y6.2.2.2.2.1, y6.2.2.2.2.2.1, y6.2.2.2.2.2.2.1, y6.2.2.2.2.2.2.2.1, y6.2.2.2.2.2.2.2.2.1, ()) fun y => (match y with
  | .inl y10 => (
   some ([], [], (List.getD (List.set y10.2.1 0 y10.1) 0 0)))
  | .inr y11 => (
   (N7 ((List.take 32 (List.drop 0 y11.2.2.2.2.2.1)), ())).bind fun r12 => (
   if r12.1 = true then
    some ([], [], (List.getD (List.set y11.2.2.2.1 0 r12.2.1) 0 0))
   else
    (xg (N7 ((List.take 32 (List.drop 0 y11.2.2.2.2.2.1)), ()))).bind fun r13 => (
    (N8 (r13.1, y11.2.2.2.2.2.2.1, ())).bind fun r14 => (
    (m6 ([(List.take 32 (List.drop 0 y11.2.2.2.2.2.1))], ())).bind fun r15 => (
    m7 (G3 N) N ((List.length r15), y11.1, y11.2.1, y11.2.2.1, 0, (0:Int), y11.2.2.2.1, (List.length r15), r15, y11.2.2.2.2.1, y11.2.2.2.2.2.1, y11.2.2.2.2.2.2.1, y11.2.2.2.2.2.2.2.1, r14, 0, [], ()) fun y => (match y with
    | .inl y20 => (
     some (y20.2.2.2.2.1, [], (List.getD (List.set y20.2.2.1 0 y20.1) 0 0)))
    | .inr y21 => (
     (J2 ((64:Int), [y21.2.2.2.2.2.2.2.1], ())).bind fun r22 => (
     (m6 ([(List.take 32 (List.drop 0 y21.2.2.2.2.2.2.2.2.2.1)), (List.take y21.2.2.1 (List.drop 96 y21.2.2.2.2.2.2.2.2.2.1)), r22], ())).bind fun r23 => (
     m7 (G4 N) N (y21.1, (List.length r23), y21.2.2.2.2.1, (0:Int), y21.2.2.2.2.2.1, y21.2.2.2.2.2.2.1, y21.2.2.2.2.2.2.2.1, (List.length r23), r23, y21.2.2.2.2.2.2.2.2.2.2.1, y21.2.2.2.2.2.2.2.2.2.2.2.1, y21.2.2.2.2.2.2.2.2.2.2.2.2.1, y21.2.2.2.2.2.2.2.2.2.2.2.2.2.1, ()) fun y => (match y with
     | .inl y25 => (
      some (y25.2.2.2.2.2.1, y25.2.2.2.2.2.2.2.1, (List.getD (List.set y25.2.2.2.1 0 y25.1) 0 0)))
     | .inr y26 => (
      m7 (G5 N) N (y26.1, y26.2.1, y26.2.2.1, (0:Int), y26.2.2.2.1, y26.2.2.2.2.1, y26.2.2.2.2.2.1, y26.2.2.2.2.2.2.1, y26.2.2.2.2.2.2.2.1, y26.2.2.2.2.2.2.2.2.1, y26.2.2.2.2.2.2.2.2.2.1, y26.2.2.2.2.2.2.2.2.2.2.1, ()) fun y => (match y with
      | .inl y28 => (
       some (y28.2.2.2.2.2.1, y28.2.2.2.2.2.2.2.1, (List.getD (List.set y28.2.2.2.1 0 y28.1) 0 0)))
      | .inr y29 => (
       if (y29.2.1 + y29.2.2.1) * 1 ≤ 140737488355328 then (
       some (y29.2.2.2.2.2.1, (y29.2.2.2.2.2.2.2.1 ++ y29.2.2.2.2.2.2.2.2.2.1), (List.getD (List.set y29.2.2.2.1 0 (0:Int)) 0 0))) else none))))))))))))))))) else none) else none) else none) else none)
theorem b9B (e0 : c8 Try.prog 13 R4) (e1 : c8 Try.prog 17 b04) (e2 : c8 Try.prog 16 N4) (e3 : c8 Try.prog 15 a2T) (e4 : c8 Try.prog 19 N3) (e5 : c8 Try.prog 21 U3) (e6 : c8 Try.prog 20 a2m) (e7 : c8 Try.prog 23 a4A) (e8 : c8 Try.prog 24 X1) (e9 : XOk Try.prog 18 a0o) : p_dsa_KeyGen_E.Ok Try.prog := AE.ofA_ok (all_cons Z1 (all_cons c4R (all_cons F8 (all_cons c2e (all_cons a2C (all_cons q8 (all_cons b5f (all_cons b5g c6)))))))) (all_cons ⟨e0, a0t⟩ (all_cons ⟨e1, b3E⟩ (all_cons ⟨e2, a03⟩ (all_cons ⟨e3, a9i⟩ (all_cons ⟨e4, a2W⟩ (all_cons ⟨e5, a1X⟩ (all_cons ⟨e6, a8j⟩ (all_cons ⟨e7, a8i⟩ (all_cons ⟨e8, a4G⟩ c6))))))))) (all_cons ⟨e9, a3Z⟩ c6) (all_cons ⟨a3T, a3Y⟩ c6) c6 (all_cons ⟨O1, A4⟩ (all_cons ⟨a2I, Z3⟩ c6)) c6 c6 c6 c6
theorem c1B (hE : p_dsa_KeyGen_E.Ok Try.prog) {g : Ds a0N → Option (Rs a0O)} (hg : ∀ x r, g x = some r → ∃ N, a4V N x = some r) : c8 Try.prog 8 ⟨a0N, a0O, g⟩ :=
 i5 (E := p_dsa_KeyGen_E) (H := Z9) (L := fun N => a7i N) (c := v6) (ks := a0N) (rs := a0O) (F := a4V) hE mix Try.func8 (by kernel_rfl) (fun N => b4C N) (fun _ _ => by kernel_rfl) hg
noncomputable abbrev a51 : Sig := ⟨[.sl b8, .sl b8, .sl b8], [.sl b8], a2s⟩
noncomputable abbrev b69 : XSig := ⟨[.asl b8], [.cat [.fs b8, .fs b8, .fs b8, .xs b32 1280, .xs b32 1536, .xs b32 1536]], (.ifi 26 .i64), b2z⟩
noncomputable abbrev a45 : XSig := ⟨[.rp (.ct [.fs b8, .fs b8, .fs b8, .xs b32 1280, .xs b32 1536, .xs b32 1536]), .rp (.xs b32 7680), .sl b8, .sl b8, .int .i64], [.sl b8, .bool], (.ifi 26 .i64), X7⟩
noncomputable def p_dsa_Sign_E : AE := AE.ofA [(5, ty5), (22, ty22), (23, ty23), (26, ty26), (35, ty35), (60, ty60)] [(26, a51), (13, R4)] [(25, b69), (18, a0o), (27, a45)] [(12, a4l)] [] [] [] [] [] [] [] []
noncomputable def b8L : Hints := [(11, [4, 10, 11, 12, 13, 14, 15, 16]), (2000000, [10, 11]), (2000001, [4, 10, 11, 12, 13, 14, 15, 16]), (3000000, [10, 11]), (5000000, [10, 11])]
noncomputable def b1I : Code := (Try.f9).body.getD .skip
noncomputable def b9C : Shape := mkS { tmps := pv 4 (.sc (.int .i64) :: pv 5 (.sc (.nilsl) :: .sc (.ptr 0 0 false) :: .sc (.ptr 1 0 false) :: .sc (.vec 2 none 1) :: .sc (.vec 3 none 1) :: .sc (.ptr 4 0 false) :: .sc (.int .i64) :: pv 39 [])), mem := [.live [.xs b64 (some 1)] (.own), .live [.one (.fr b8), .one (.fr b8), .one (.fr b8), .xs b32 (some 1280), .xs b32 (some 1536), .xs b32 (some 1536)] (.own), .live [.xs b8 none] (.own), .live [.xs b8 none] (.own), .live [.xs b32 (some 7680)] (.own)], dfr := [(12, [.ptr 0 0 false])] } [.int, .nat, .nat, .int, .xs, .xs, .xs, .xs, .xs, .xs, .xs, .nat, .xs, .nat, .xs, .xs]
abbrev W73 : Type := Int × Nat × Nat × Int × List Int × List Int × List Int × List Int × List Int × List Int × List Int × Nat × List Int × Nat × List Int × List Int × Unit
abbrev W74 : Type := (Int × List Int × Unit) ⊕ ((Nat × List Int × Nat × List Int × Unit) ⊕ (List Int × Unit))
noncomputable def Y7 (N : Nat) (β : Type) (x : W73) (kn : W73 → Option β) (ke : W74 → Option β) : Option β :=
 if (x.2.2.2.1 < x.1) then
  (X7 ((x.2.2.2.2.2.1, x.2.2.2.2.2.2.1, x.2.2.2.2.2.2.2.1, x.2.2.2.2.2.2.2.2.1, x.2.2.2.2.2.2.2.2.2.1, x.2.2.2.2.2.2.2.2.2.2.1, ()), x.2.2.2.2.2.2.2.2.2.2.2.2.2.2.2.1, x.2.2.2.2.2.2.2.2.2.2.2.2.1, x.2.2.2.2.2.2.2.2.2.2.2.2.2.2.1, x.2.2.2.1, ())).bind fun r5 => (
  if r5.1 = true then
   ke (.inl (r5.2.1, x.2.2.2.2.1, ()))
  else
   if (¬ (r5.2.2.2 = true)) then
    kn (x.1, x.2.1, x.2.2.1, (IntKind.i64.wrap (x.2.2.2.1 + (1:Int))), x.2.2.2.2.1, x.2.2.2.2.2.1, x.2.2.2.2.2.2.1, x.2.2.2.2.2.2.2.1, x.2.2.2.2.2.2.2.2.1, x.2.2.2.2.2.2.2.2.2.1, x.2.2.2.2.2.2.2.2.2.2.1, x.2.2.2.2.2.2.2.2.2.2.2.1, x.2.2.2.2.2.2.2.2.2.2.2.2.1, x.2.2.2.2.2.2.2.2.2.2.2.2.2.1, x.2.2.2.2.2.2.2.2.2.2.2.2.2.2.1, x.2.2.2.2.2.2.2.2.2.2.2.2.2.2.2.1, ())
   else
    ke (.inr (.inl ((List.length r5.2.2.1), (List.set x.2.2.2.2.1 0 (0:Int)), (List.length r5.2.2.1), r5.2.2.1, ()))))
 else
  ke (.inr (.inr (x.2.2.2.2.1, ())))
noncomputable def b73 : Go' W74 := fun y K => match y with
 | .inl y => K (.pan (.ifi 26 .i64) y.1) (fSt { tmps := pv 10 (.sc (.nilsl) :: .sc (.ptr 0 0 false) :: pv 44 []), mem := [.live [.xs b64 (some 1)] (.own)], dfr := [(12, [.ptr 0 0 false])] } [.xs] y.2)
 | .inr (.inl y) => K .ret (fSt { tmps := pv 10 (.sc (.vec 1 none 1) :: .sc (.ptr 0 0 false) :: pv 44 []), mem := [.live [.xs b64 (some 1)] (.own), .live [.xs b8 none] (.own)], dfr := [(12, [.ptr 0 0 false])] } [.nat, .xs, .nat, .xs] y)
 | .inr (.inr y) => K (.exit 0) (fSt { tmps := pv 10 (.sc (.nilsl) :: .sc (.ptr 0 0 false) :: pv 44 []), mem := [.live [.xs b64 (some 1)] (.own)], dfr := [(12, [.ptr 0 0 false])] } [.xs] y)
noncomputable def b0l (N : Nat) : LT := upd (LT.nil) 11 (o6 b9C N (Y7 N) b73)
theorem b74 (N : Nat) : OkAll p_dsa_Sign_E b8L N (b0l N) (w9 b1I) :=
 d6 (c := d7 11 b1I) (OkAll.nil) (by kernel_rfl) (fun x => by kernel_rfl) (fun β x kn ke => by kernel_rfl)
abbrev a3l : List Kd := [.fsl b8, .sl b8, .sl b8, .xs b8 32, .int .i64]
abbrev a3m : List Kd := [.sl b8, .int .i64]
noncomputable def a8N (N : Nat) (x : List Int × List Int × List Int × List Int × Int × Unit) : Option (List Int × Int) :=
 (b2z (x.1, ())).bind fun r1 => (
 if r1.1 = true then
  some ([], (List.getD (List.set [0] 0 r1.2.1) 0 0))
 else
  if ((((List.length x.2.2.1) : Nat) : Int) > (255:Int)) then
   some ([], (List.getD (List.set [0] 0 (3:Int)) 0 0))
  else
   if (x.2.2.2.2.1 < (1:Int)) then
    some ([], (List.getD (List.set [0] 0 (1:Int)) 0 0))
   else
    (a2s (r1.2.2.2.2.1, x.2.1, x.2.2.1, ())).bind fun r2 => (
    (J2 ((64:Int), [r1.2.2.2.1, (List.take 32 (List.drop 0 x.2.2.2.1)), r2], ())).bind fun r3 => (
    (N7 (r1.2.2.1, ())).bind fun r4 => (
    if r4.1 = true then
     some ([], (List.getD (List.set [0] 0 r4.2.1) 0 0))
    else
     m7 (Y7 N) N (x.2.2.2.2.1, (List.length r2), (List.length r3), (0:Int), [0], r1.2.2.1, r1.2.2.2.1, r1.2.2.2.2.1, r1.2.2.2.2.2.1, r1.2.2.2.2.2.2.1, r1.2.2.2.2.2.2.2.1, (List.length r2), r2, (List.length r3), r3, r4.2.2.1, ()) fun y => (match y with
     | .inl y6 => (
      some ([], (List.getD (List.set y6.2.1 0 y6.1) 0 0)))
     | .inr (.inl y7) => (
      some (y7.2.2.2.1, (List.getD y7.2.1 0 0)))
     | .inr (.inr y8) => (
      some ([], (List.getD (List.set y8.1 0 (162:Int)) 0 0))))))))
theorem c2C (e0 : c8 Try.prog 26 a51) (e1 : c8 Try.prog 13 R4) (e2 : XOk Try.prog 25 b69) (e3 : XOk Try.prog 18 a0o) (e4 : XOk Try.prog 27 a45) : p_dsa_Sign_E.Ok Try.prog := AE.ofA_ok (all_cons Z1 (all_cons c4R (all_cons F8 (all_cons c2e (all_cons a2C (all_cons c8j c6)))))) (all_cons ⟨e0, b0c⟩ (all_cons ⟨e1, a0t⟩ c6)) (all_cons ⟨e2, c0P⟩ (all_cons ⟨e3, a3Z⟩ (all_cons ⟨e4, b1k⟩ c6))) (all_cons ⟨a3T, a3Y⟩ c6) c6 c6 c6 c6 c6 c6
theorem c4i (hE : p_dsa_Sign_E.Ok Try.prog) {g : Ds a3l → Option (Rs a3m)} (hg : ∀ x r, g x = some r → ∃ N, a8N N x = some r) : c8 Try.prog 9 ⟨a3l, a3m, g⟩ :=
 i5 (E := p_dsa_Sign_E) (H := b8L) (L := fun N => b0l N) (c := b1I) (ks := a3l) (rs := a3m) (F := a8N) hE mix Try.func9 (by kernel_rfl) (fun N => b74 N) (fun _ _ => by kernel_rfl) hg
noncomputable abbrev a2n : Sig := ⟨[.int .i64, .int .i64, .sl b8], [.sla .bool 256, .int .i64], J8⟩
noncomputable abbrev a5Z : Sig := ⟨[.xs .bool 256, .xs b32 256], [.xs b32 256], a0w⟩
noncomputable abbrev b06 : Sig := ⟨[.sl b8, .sl b8], [.bool], a63⟩
noncomputable def p_dsa_Verify_E : AE := AE.ofA [(21, ty21), (23, ty23), (26, ty26), (35, ty35), (40, ty40), (42, ty42), (44, ty44), (69, ty69), (76, ty76)] [(13, R4), (26, a51), (29, o4), (30, a0m), (31, a2n), (33, a4z), (32, a2l), (34, J6), (35, a1w), (38, P8), (37, a5Y), (36, a2k), (39, a5Z), (41, a0n), (40, b06)] [(18, a0o)] [(12, a4l)] [] [(14, a07), (22, a6c), (28, c00)] [] [] [] [] [] []
noncomputable def a4t : Hints := [(12, [4, 7, 8, 9, 10, 11, 39]), (26, [4, 8, 9, 10, 13, 15, 17, 18, 73]), (30, [4, 8, 9, 10, 13, 15, 17, 18, 19, 20, 73, 81]), (2000000, [4, 7, 8, 9, 10, 11]), (2000001, [4, 7, 8, 9, 10, 11, 39]), (2000002, [8, 9, 10, 18]), (2000003, [4, 8, 9, 10, 13, 15, 17, 18, 73]), (2000004, [4, 8, 9, 10, 13, 15, 17, 18, 19, 20, 73]), (2000005, [4, 8, 9, 10, 13, 15, 17, 18, 19, 20, 73, 81]), (3000000, [8]), (5000000, [8])]
noncomputable def Q5 : Code := (Try.f10).body.getD .skip
noncomputable def b6l : Shape := mkS { tmps := pv 4 (.sc (.ptr 1 0 false) :: V :: V :: .sc (.ptr 2 0 false) :: .sc (.ptr 0 0 false) :: .sc (.vec 3 none 1) :: .sc (.sl 4 (some 0) (some 48) none 1) :: .sc (.ptr 5 0 false) :: pv 27 (.sc (.int .i64) :: pv 74 [])), mem := [.live [.xs b64 (some 1)] (.own), .live [.one (.vec 6 none 1)] (.own), .live [.one (.sl 4 none none none 1)] (.own), .live [.xs b8 none] (.own), .live [.xs b8 none] (.ro), .live [.xs b32 (some 1280)] (.own), .live [.xs b8 none] (.ro)], dfr := [(12, [.ptr 0 0 false])] } [.nat, .nat, .int, .xs, .nat, .nat, .nat, .nat, .nat, .xs, .nat, .xs, .xs, .nat, .xs]
abbrev W75 : Type := Nat × Nat × Int × List Int × Nat × Nat × Nat × Nat × Nat × List Int × Nat × List Int × List Int × Nat × List Int × Unit
abbrev W76 : Type := (Int × List Int × Unit) ⊕ ((List Int × Unit) ⊕ (Nat × Nat × List Int × Nat × Nat × Nat × Nat × Nat × List Int × Nat × List Int × List Int × Nat × List Int × Unit))
noncomputable def u7 (N : Nat) (β : Type) (x : W75) (kn : W75 → Option β) (ke : W76 → Option β) : Option β :=
 if (x.2.2.1 < (5:Int)) then
  if 0 ≤ (640:Int) then (
  if (640:Int) ≤ ((x.2.2.2.2.2.2.1 : Nat) : Int) then (
  if 0 ≤ (640:Int) then (
  if (640:Int) ≤ ((x.2.2.2.2.2.2.1 : Nat) : Int) then (
  (j4 ((524288:Int), (20:Int), (List.take 640 (List.drop (c2h x.2.2.2.2.2.1 0) x.2.2.2.2.2.2.2.2.2.2.2.1)), ())).bind fun r3 => (
  if (r3.2 ≠ (0:Int)) then
   ke (.inl (r3.2, x.2.2.2.1, ()))
  else
   if 0 ≤ x.2.2.1 then (
   if x.2.2.1 < 5 then (
   if ((x.2.2.1.toNat) * 256) + 256 ≤ 1280 then (
   if 0 ≤ x.2.2.1 then (
   if x.2.2.1 < 5 then (
   if ((x.2.2.1.toNat) * 256) + 256 ≤ 1280 then (
   (T8 ((List.take 256 (List.drop ((x.2.2.1.toNat) * 256) (List.take ((x.2.2.1.toNat) * 256) x.2.2.2.2.2.2.2.2.2.2.2.2.1 ++ r3.1 ++ List.drop (((x.2.2.1.toNat) * 256) + 256) x.2.2.2.2.2.2.2.2.2.2.2.2.1))), ())).bind fun r4 => (
   if (r4 ≥ (524092:Int)) then
    ke (.inr (.inl ((List.set x.2.2.2.1 0 (70:Int)), ())))
   else
    kn (x.1, x.2.1, (IntKind.i64.wrap (x.2.2.1 + (1:Int))), x.2.2.2.1, x.2.2.2.2.1, (c2h x.2.2.2.2.2.1 640), (x.2.2.2.2.2.2.1 - 640), (x.2.2.2.2.2.2.2.1 - 640), x.2.2.2.2.2.2.2.2.1, x.2.2.2.2.2.2.2.2.2.1, x.2.2.2.2.2.2.2.2.2.2.1, x.2.2.2.2.2.2.2.2.2.2.2.1, (List.take ((x.2.2.1.toNat) * 256) x.2.2.2.2.2.2.2.2.2.2.2.2.1 ++ r3.1 ++ List.drop (((x.2.2.1.toNat) * 256) + 256) x.2.2.2.2.2.2.2.2.2.2.2.2.1), x.2.2.2.2.2.2.2.2.2.2.2.2.2.1, x.2.2.2.2.2.2.2.2.2.2.2.2.2.2.1, ()))) else none) else none) else none) else none) else none) else none)) else none) else none) else none) else none
 else
  ke (.inr (.inr (x.1, x.2.1, x.2.2.2.1, x.2.2.2.2.1, x.2.2.2.2.2.1, x.2.2.2.2.2.2.1, x.2.2.2.2.2.2.2.1, x.2.2.2.2.2.2.2.2.1, x.2.2.2.2.2.2.2.2.2.1, x.2.2.2.2.2.2.2.2.2.2.1, x.2.2.2.2.2.2.2.2.2.2.2.1, x.2.2.2.2.2.2.2.2.2.2.2.2.1, x.2.2.2.2.2.2.2.2.2.2.2.2.2.1, x.2.2.2.2.2.2.2.2.2.2.2.2.2.2.1, ())))
noncomputable def b4D : Go' W76 := fun y K => match y with
 | .inl y => K (.pan (.ifi 26 .i64) y.1) (fSt { tmps := pv 8 (.sc (.ptr 0 0 false) :: pv 105 []), mem := [.live [.xs b64 (some 1)] (.own)], dfr := [(12, [.ptr 0 0 false])] } [.xs] y.2)
 | .inr (.inl y) => K .ret (fSt { tmps := pv 8 (.sc (.ptr 0 0 false) :: pv 105 []), mem := [.live [.xs b64 (some 1)] (.own)], dfr := [(12, [.ptr 0 0 false])] } [.xs] y)
 | .inr (.inr y) => K (.exit 0) (fSt { tmps := pv 4 (.sc (.ptr 1 0 false) :: V :: V :: .sc (.ptr 2 0 false) :: .sc (.ptr 0 0 false) :: .sc (.vec 3 none 1) :: .sc (.sl 4 (some 0) (some 48) none 1) :: .sc (.ptr 5 0 false) :: pv 102 []), mem := [.live [.xs b64 (some 1)] (.own), .live [.one (.vec 6 none 1)] (.own), .live [.one (.sl 4 none none none 1)] (.own), .live [.xs b8 none] (.own), .live [.xs b8 none] (.ro), .live [.xs b32 (some 1280)] (.own), .live [.xs b8 none] (.ro)], dfr := [(12, [.ptr 0 0 false])] } [.nat, .nat, .xs, .nat, .nat, .nat, .nat, .nat, .xs, .nat, .xs, .xs, .nat, .xs] y)
noncomputable def a7j (N : Nat) : LT := upd (LT.nil) 12 (o6 b6l N (u7 N) b4D)
theorem b4E (N : Nat) : OkAll p_dsa_Verify_E a4t N (a7j N) (w9 Q5) :=
 d6 (c := d7 12 Q5) (OkAll.nil) (by kernel_rfl) (fun x => by kernel_rfl) (fun β x kn ke => by kernel_rfl)
noncomputable def b6n : Shape := mkS { tmps := pv 4 (.sc (.ptr 1 0 false) :: pv 3 (.sc (.ptr 0 0 false) :: .sc (.vec 2 none 1) :: .sc (.sl 3 (some 0) (some 48) none 1) :: V :: V :: .sc (.vec 4 none 256) :: V :: .sc (.ptr 5 0 false) :: V :: .sc (.ptr 6 0 false) :: .sc (.ptr 7 0 false) :: .sc (.int .i64) :: .sc (.ptr 8 0 false) :: pv 52 (.sc (.int .i64) :: pv 7 (.sc (.int .i64) :: pv 32 [])))), mem := [.live [.xs b64 (some 1)] (.own), .live [.one (.sl 9 none none none 1)] (.own), .live [.xs b8 none] (.own), .live [.xs b8 none] (.ro), .live [.xs .bool none] (.own), .live [.xs b32 (some 256)] (.own), .live [.xs b32 (some 1536)] (.own), .live [.xs b32 (some 1536)] (.own), .live [.xs b32 (some 256)] (.own), .live [.xs b8 none] (.ro)], dfr := [(12, [.ptr 0 0 false])] } [.nat, .nat, .nat, .int, .int, .int, .xs, .nat, .nat, .nat, .nat, .xs, .nat, .xs, .nat, .xs, .xs, .xs, .xs, .xs, .nat, .xs]
abbrev W77 : Type := Nat × Nat × Nat × Int × Int × Int × List Int × Nat × Nat × Nat × Nat × List Int × Nat × List Int × Nat × List Int × List Int × List Int × List Int × List Int × Nat × List Int × Unit
abbrev W78 : Type := Nat × Nat × Nat × Int × Int × List Int × Nat × Nat × Nat × Nat × List Int × Nat × List Int × Nat × List Int × List Int × List Int × List Int × List Int × Nat × List Int × Unit
noncomputable def G7 (N : Nat) (β : Type) (x : W77) (kn : W77 → Option β) (ke : W78 → Option β) : Option β :=
 if (x.2.2.2.2.2.1 < (256:Int)) then
  if 0 ≤ x.2.2.2.2.2.1 then (
  if x.2.2.2.2.2.1 < 256 then (
  if (x.2.2.2.2.2.1.toNat) < 256 then (
  if 0 ≤ x.2.2.2.2.2.1 then (
  if x.2.2.2.2.2.1 < 256 then (
  if (x.2.2.2.2.2.1.toNat) < 256 then (
  kn (x.1, x.2.1, x.2.2.1, x.2.2.2.1, x.2.2.2.2.1, (IntKind.i64.wrap (x.2.2.2.2.2.1 + (1:Int))), x.2.2.2.2.2.2.1, x.2.2.2.2.2.2.2.1, x.2.2.2.2.2.2.2.2.1, x.2.2.2.2.2.2.2.2.2.1, x.2.2.2.2.2.2.2.2.2.2.1, x.2.2.2.2.2.2.2.2.2.2.2.1, x.2.2.2.2.2.2.2.2.2.2.2.2.1, x.2.2.2.2.2.2.2.2.2.2.2.2.2.1, x.2.2.2.2.2.2.2.2.2.2.2.2.2.2.1, x.2.2.2.2.2.2.2.2.2.2.2.2.2.2.2.1, x.2.2.2.2.2.2.2.2.2.2.2.2.2.2.2.2.1, x.2.2.2.2.2.2.2.2.2.2.2.2.2.2.2.2.2.1, x.2.2.2.2.2.2.2.2.2.2.2.2.2.2.2.2.2.2.1, (List.set x.2.2.2.2.2.2.2.2.2.2.2.2.2.2.2.2.2.2.2.1 (x.2.2.2.2.2.1.toNat) (b0A IntKind.i32 (List.getD x.2.2.2.2.2.2.2.2.2.2.2.2.2.2.2.2.2.2.2.1 (x.2.2.2.2.2.1.toNat) 0) (13:Int))), x.2.2.2.2.2.2.2.2.2.2.2.2.2.2.2.2.2.2.2.2.1, x.2.2.2.2.2.2.2.2.2.2.2.2.2.2.2.2.2.2.2.2.2.1, ())) else none) else none) else none) else none) else none) else none
 else
  ke (x.1, x.2.1, x.2.2.1, x.2.2.2.1, x.2.2.2.2.1, x.2.2.2.2.2.2.1, x.2.2.2.2.2.2.2.1, x.2.2.2.2.2.2.2.2.1, x.2.2.2.2.2.2.2.2.2.1, x.2.2.2.2.2.2.2.2.2.2.1, x.2.2.2.2.2.2.2.2.2.2.2.1, x.2.2.2.2.2.2.2.2.2.2.2.2.1, x.2.2.2.2.2.2.2.2.2.2.2.2.2.1, x.2.2.2.2.2.2.2.2.2.2.2.2.2.2.1, x.2.2.2.2.2.2.2.2.2.2.2.2.2.2.2.1, x.2.2.2.2.2.2.2.2.2.2.2.2.2.2.2.2.1, x.2.2.2.2.2.2.2.2.2.2.2.2.2.2.2.2.2.1, x.2.2.2.2.2.2.2.2.2.2.2.2.2.2.2.2.2.2.1, x.2.2.2.2.2.2.2.2.2.2.2.2.2.2.2.2.2.2.2.1, x.2.2.2.2.2.2.2.2.2.2.2.2.2.2.2.2.2.2.2.2.1, x.2.2.2.2.2.2.2.2.2.2.2.2.2.2.2.2.2.2.2.2.2.1, ())
noncomputable def b4H : Go' W78 := fun y K => K (.exit 4) (fSt { tmps := pv 4 (.sc (.ptr 1 0 false) :: pv 3 (.sc (.ptr 0 0 false) :: .sc (.vec 2 none 1) :: .sc (.sl 3 (some 0) (some 48) none 1) :: V :: V :: .sc (.vec 4 none 256) :: V :: .sc (.ptr 5 0 false) :: V :: .sc (.ptr 6 0 false) :: .sc (.ptr 7 0 false) :: .sc (.int .i64) :: .sc (.ptr 8 0 false) :: pv 52 (.sc (.int .i64) :: pv 40 []))), mem := [.live [.xs b64 (some 1)] (.own), .live [.one (.sl 9 none none none 1)] (.own), .live [.xs b8 none] (.own), .live [.xs b8 none] (.ro), .live [.xs .bool none] (.own), .live [.xs b32 (some 256)] (.own), .live [.xs b32 (some 1536)] (.own), .live [.xs b32 (some 1536)] (.own), .live [.xs b32 (some 256)] (.own), .live [.xs b8 none] (.ro)], dfr := [(12, [.ptr 0 0 false])] } [.nat, .nat, .nat, .int, .int, .xs, .nat, .nat, .nat, .nat, .xs, .nat, .xs, .nat, .xs, .xs, .xs, .xs, .xs, .nat, .xs] y)
noncomputable def a7l (N : Nat) : LT := upd (a7j N) 30 (o6 b6n N (G7 N) b4H)
theorem b4I (N : Nat) : OkAll p_dsa_Verify_E a4t N (a7l N) (w9 Q5) :=
 d6 (c := d7 30 Q5) (b4E N) (by kernel_rfl) (fun x => by kernel_rfl) (fun β x kn ke => by kernel_rfl)
noncomputable def b6m : Shape := mkS { tmps := pv 4 (.sc (.ptr 1 0 false) :: pv 3 (.sc (.ptr 0 0 false) :: .sc (.vec 2 none 1) :: .sc (.sl 3 (some 0) (some 48) none 1) :: V :: V :: .sc (.vec 4 none 256) :: V :: .sc (.ptr 5 0 false) :: V :: .sc (.ptr 6 0 false) :: .sc (.ptr 7 0 false) :: pv 54 (.sc (.int .i64) :: pv 40 []))), mem := [.live [.xs b64 (some 1)] (.own), .live [.one (.sl 8 none none none 1)] (.own), .live [.xs b8 none] (.own), .live [.xs b8 none] (.ro), .live [.xs .bool none] (.own), .live [.xs b32 (some 256)] (.own), .live [.xs b32 (some 1536)] (.own), .live [.xs b32 (some 1536)] (.own), .live [.xs b8 none] (.ro)], dfr := [(12, [.ptr 0 0 false])] } [.nat, .nat, .nat, .int, .xs, .nat, .nat, .nat, .nat, .xs, .nat, .xs, .nat, .xs, .xs, .xs, .xs, .nat, .xs]
abbrev W79 : Type := Nat × Nat × Nat × Int × List Int × Nat × Nat × Nat × Nat × List Int × Nat × List Int × Nat × List Int × List Int × List Int × List Int × Nat × List Int × Unit
abbrev W80 : Type := (Int × List Int × Unit) ⊕ (Nat × Nat × List Int × Nat × List Int × Nat × List Int × List Int × Unit)
noncomputable def G6 (N : Nat) (β : Type) (x : W79) (kn : W79 → Option β) (ke : W80 → Option β) : Option β :=
 if (x.2.2.2.1 < (6:Int)) then
  if 0 ≤ (320:Int) then (
  if (320:Int) ≤ ((x.2.2.2.2.2.2.1 : Nat) : Int) then (
  if 0 ≤ (320:Int) then (
  if (320:Int) ≤ ((x.2.2.2.2.2.2.1 : Nat) : Int) then (
  (Z8 ((10:Int), (List.take 320 (List.drop (c2h x.2.2.2.2.2.1 0) x.2.2.2.2.2.2.2.2.2.2.2.2.2.2.2.2.2.2.1)), ())).bind fun r14 => (
  if (r14.2 ≠ (0:Int)) then
   ke (.inl (r14.2, x.2.2.2.2.1, ()))
  else
   m7 (G7 N) N (x.1, x.2.1, x.2.2.1, x.2.2.2.1, x.2.2.2.1, (0:Int), x.2.2.2.2.1, (c2h x.2.2.2.2.2.1 320), (x.2.2.2.2.2.2.1 - 320), (x.2.2.2.2.2.2.2.1 - 320), x.2.2.2.2.2.2.2.2.1, x.2.2.2.2.2.2.2.2.2.1, x.2.2.2.2.2.2.2.2.2.2.1, x.2.2.2.2.2.2.2.2.2.2.2.1, x.2.2.2.2.2.2.2.2.2.2.2.2.1, x.2.2.2.2.2.2.2.2.2.2.2.2.2.1, x.2.2.2.2.2.2.2.2.2.2.2.2.2.2.1, x.2.2.2.2.2.2.2.2.2.2.2.2.2.2.2.1, x.2.2.2.2.2.2.2.2.2.2.2.2.2.2.2.2.1, r14.1, x.2.2.2.2.2.2.2.2.2.2.2.2.2.2.2.2.2.1, x.2.2.2.2.2.2.2.2.2.2.2.2.2.2.2.2.2.2.1, ()) fun y15 => (
   if 0 ≤ y15.2.2.2.1 then (
   if y15.2.2.2.1 < 6 then (
   if ((y15.2.2.2.1.toNat) * 256) + 256 ≤ 1536 then (
   (a0u (y15.2.2.2.2.2.2.2.2.2.2.2.2.2.2.2.2.2.2.1, ())).bind fun r16 => (
   (Z4 (y15.2.2.2.2.2.2.2.2.2.2.2.2.2.2.2.1, r16, ())).bind fun r17 => (
   (a0v ((List.take 256 (List.drop ((y15.2.2.2.1.toNat) * 256) y15.2.2.2.2.2.2.2.2.2.2.2.2.2.2.2.2.1)), r17, ())).bind fun r18 => (
   (a31 (r18, ())).bind fun r19 => (
   if 0 ≤ y15.2.2.2.1 then (
   if y15.2.2.2.1 < ((y15.2.2.1 : Nat) : Int) then (
   if ((y15.2.2.2.1.toNat) * 256) + 256 ≤ y15.2.2.2.2.2.2.2.2.2.2.2.2.2.1 then (
   (a0w ((List.take 256 (List.drop ((y15.2.2.2.1.toNat) * 256) y15.2.2.2.2.2.2.2.2.2.2.2.2.2.2.1)), r19, ())).bind fun r20 => (
   if 0 ≤ y15.2.2.2.1 then (
   if y15.2.2.2.1 < 6 then (
   if ((y15.2.2.2.1.toNat) * 256) + 256 ≤ 1536 then (
   kn (y15.1, y15.2.1, y15.2.2.1, (IntKind.i64.wrap (y15.2.2.2.2.1 + (1:Int))), y15.2.2.2.2.2.1, y15.2.2.2.2.2.2.1, y15.2.2.2.2.2.2.2.1, y15.2.2.2.2.2.2.2.2.1, y15.2.2.2.2.2.2.2.2.2.1, y15.2.2.2.2.2.2.2.2.2.2.1, y15.2.2.2.2.2.2.2.2.2.2.2.1, y15.2.2.2.2.2.2.2.2.2.2.2.2.1, y15.2.2.2.2.2.2.2.2.2.2.2.2.2.1, y15.2.2.2.2.2.2.2.2.2.2.2.2.2.2.1, y15.2.2.2.2.2.2.2.2.2.2.2.2.2.2.2.1, y15.2.2.2.2.2.2.2.2.2.2.2.2.2.2.2.2.1, (List.take ((y15.2.2.2.1.toNat) * 256) y15.2.2.2.2.2.2.2.2.2.2.2.2.2.2.2.2.2.1 ++ r20 ++ List.drop (((y15.2.2.2.1.toNat) * 256) + 256) y15.2.2.2.2.2.2.2.2.2.2.2.2.2.2.2.2.2.1), y15.2.2.2.2.2.2.2.2.2.2.2.2.2.2.2.2.2.2.2.1, y15.2.2.2.2.2.2.2.2.2.2.2.2.2.2.2.2.2.2.2.2.1, ())) else none) else none) else none)) else none) else none) else none))))) else none) else none) else none))) else none) else none) else none) else none
 else
  ke (.inr (x.1, x.2.1, x.2.2.2.2.1, x.2.2.2.2.2.2.2.2.1, x.2.2.2.2.2.2.2.2.2.1, x.2.2.2.2.2.2.2.2.2.2.1, x.2.2.2.2.2.2.2.2.2.2.2.1, x.2.2.2.2.2.2.2.2.2.2.2.2.2.2.2.2.1, ()))
noncomputable def b4F : Go' W80 := fun y K => match y with
 | .inl y => K (.pan (.ifi 26 .i64) y.1) (fSt { tmps := pv 8 (.sc (.ptr 0 0 false) :: pv 105 []), mem := [.live [.xs b64 (some 1)] (.own)], dfr := [(12, [.ptr 0 0 false])] } [.xs] y.2)
 | .inr y => K (.exit 2) (fSt { tmps := pv 8 (.sc (.ptr 0 0 false) :: .sc (.vec 1 none 1) :: .sc (.sl 2 (some 0) (some 48) none 1) :: pv 7 (.sc (.ptr 3 0 false) :: pv 95 [])), mem := [.live [.xs b64 (some 1)] (.own), .live [.xs b8 none] (.own), .live [.xs b8 none] (.ro), .live [.xs b32 (some 1536)] (.own)], dfr := [(12, [.ptr 0 0 false])] } [.nat, .nat, .xs, .nat, .xs, .nat, .xs, .xs] y)
noncomputable def a7k (N : Nat) : LT := upd (a7l N) 26 (o6 b6m N (G6 N) b4F)
theorem b4G (N : Nat) : OkAll p_dsa_Verify_E a4t N (a7k N) (w9 Q5) :=
 d6 (c := d7 26 Q5) (b4I N) (by kernel_rfl) (fun x => by kernel_rfl) (fun β x kn ke => by kernel_rfl)
abbrev a0P : List Kd := [.sl b8, .sl b8, .sl b8, .sl b8]
abbrev a6o : List Kd := [.int .i64]
noncomputable def a4W (N : Nat) (x : List Int × List Int × List Int × List Int × Unit) : Option (Int) :=
 if ((((List.length x.1) : Nat) : Int) ≠ (1952:Int)) then
  some (List.getD (List.set [0] 0 (161:Int)) 0 0)
 else
  if ((((List.length x.2.2.1) : Nat) : Int) > (255:Int)) then
   some (List.getD (List.set [0] 0 (3:Int)) 0 0)
  else
   if ((((List.length x.2.2.2.1) : Nat) : Int) ≠ (3309:Int)) then
    some (List.getD (List.set [0] 0 (70:Int)) 0 0)
   else
    (J2 ((64:Int), [x.1], ())).bind fun r1 => (
    (a2s (r1, x.2.1, x.2.2.1, ())).bind fun r2 => (
    if 0 ≤ (48:Int) then (
    if (48:Int) ≤ (((List.length x.2.2.2.1) : Nat) : Int) then (
    if 0 ≤ (48:Int) then (
    if (48:Int) ≤ (((List.length x.2.2.2.1) : Nat) : Int) then (
    m7 (u7 N) N ((List.length r2), (List.length x.2.2.2.1), (0:Int), [0], (List.length x.1), 48, ((List.length x.2.2.2.1) - 48), ((List.length x.2.2.2.1) - 48), (List.length r2), r2, (List.length x.2.2.2.1), x.2.2.2.1, (List.replicate 1280 0), (List.length x.1), x.1, ()) fun y => (match y with
    | .inl y5 => (
     some (List.getD (List.set y5.2.1 0 y5.1) 0 0))
    | .inr (.inl y6) => (
     some (List.getD y6.1 0 0))
    | .inr (.inr y7) => (
     (J8 ((6:Int), (55:Int), (List.take y7.2.2.2.2.2.1 (List.drop y7.2.2.2.2.1 y7.2.2.2.2.2.2.2.2.2.2.1)), ())).bind fun r8 => (
     if (r8.2 ≠ (0:Int)) then
      some (List.getD (List.set y7.2.2.1 0 (70:Int)) 0 0)
     else
      (a4K ((49:Int), (List.take 48 (List.drop 0 y7.2.2.2.2.2.2.2.2.2.2.1)), ())).bind fun r9 => (
      if (r9.2 ≠ (0:Int)) then
       some (List.getD (List.set y7.2.2.1 0 r9.2) 0 0)
      else
       (a0u (r9.1, ())).bind fun r10 => (
       if 0 ≤ (32:Int) then (
       if (32:Int) ≤ ((y7.2.2.2.1 : Nat) : Int) then (
       if 0 ≤ (32:Int) then (
       if (32:Int) ≤ ((y7.2.2.2.1 : Nat) : Int) then (
       (N7 ((List.take 32 (List.drop 0 y7.2.2.2.2.2.2.2.2.2.2.2.2.2.1)), ())).bind fun r11 => (
       if r11.1 = true then
        some (List.getD (List.set y7.2.2.1 0 r11.2.1) 0 0)
       else
        (xg (N7 ((List.take 32 (List.drop 0 y7.2.2.2.2.2.2.2.2.2.2.2.2.2.1)), ()))).bind fun r12 => (
        (J9 (r12.1, y7.2.2.2.2.2.2.2.2.2.2.2.1, ())).bind fun r13 => (
        m7 (G6 N) N (y7.1, y7.2.1, (List.length r8.1 / 256), (0:Int), y7.2.2.1, 32, (y7.2.2.2.1 - 32), (y7.2.2.2.1 - 32), y7.2.2.2.2.2.2.2.1, y7.2.2.2.2.2.2.2.2.1, y7.2.2.2.2.2.2.2.2.2.1, y7.2.2.2.2.2.2.2.2.2.2.1, (List.length r8.1), r8.1, r10, r13, (List.replicate 1536 0), y7.2.2.2.2.2.2.2.2.2.2.2.2.1, y7.2.2.2.2.2.2.2.2.2.2.2.2.2.1, ()) fun y => (match y with
        | .inl y21 => (
         some (List.getD (List.set y21.2.1 0 y21.1) 0 0))
        | .inr y22 => (
         (a0y (y22.2.2.2.2.1, y22.2.2.2.2.2.2.2.1, ())).bind fun r23 => (
         (a63 (r23, (List.take 48 (List.drop 0 y22.2.2.2.2.2.2.1)), ())).bind fun r24 => (
         if (¬ (r24 = true)) then
          some (List.getD (List.set y22.2.2.1 0 (70:Int)) 0 0)
         else
          some (List.getD (List.set y22.2.2.1 0 (0:Int)) 0 0))))))))) else none) else none) else none) else none)))))) else none) else none) else none) else none))
theorem b9D (e0 : c8 Try.prog 13 R4) (e1 : c8 Try.prog 26 a51) (e2 : c8 Try.prog 29 o4) (e3 : c8 Try.prog 30 a0m) (e4 : c8 Try.prog 31 a2n) (e5 : c8 Try.prog 33 a4z) (e6 : c8 Try.prog 32 a2l) (e7 : c8 Try.prog 34 J6) (e8 : c8 Try.prog 35 a1w) (e9 : c8 Try.prog 38 P8) (e10 : c8 Try.prog 37 a5Y) (e11 : c8 Try.prog 36 a2k) (e12 : c8 Try.prog 39 a5Z) (e13 : c8 Try.prog 41 a0n) (e14 : c8 Try.prog 40 b06) (e15 : XOk Try.prog 18 a0o) : p_dsa_Verify_E.Ok Try.prog := AE.ofA_ok (all_cons u4 (all_cons F8 (all_cons c2e (all_cons a2C (all_cons q8 (all_cons b5f (all_cons b5g (all_cons c4S (all_cons b8x c6))))))))) (all_cons ⟨e0, a0t⟩ (all_cons ⟨e1, b0c⟩ (all_cons ⟨e2, I9⟩ (all_cons ⟨e3, a3X⟩ (all_cons ⟨e4, a8k⟩ (all_cons ⟨e5, a8h⟩ (all_cons ⟨e6, a5a⟩ (all_cons ⟨e7, a2E⟩ (all_cons ⟨e8, a59⟩ (all_cons ⟨e9, a2r⟩ (all_cons ⟨e10, b0b⟩ (all_cons ⟨e11, a49⟩ (all_cons ⟨e12, b2M⟩ (all_cons ⟨e13, a5p⟩ (all_cons ⟨e14, b7o⟩ c6))))))))))))))) (all_cons ⟨e15, a3Z⟩ c6) (all_cons ⟨a3T, a3Y⟩ c6) c6 (all_cons ⟨O1, A4⟩ (all_cons ⟨a2I, Z3⟩ (all_cons ⟨b8G, b3D⟩ c6))) c6 c6 c6 c6
theorem c1C (hE : p_dsa_Verify_E.Ok Try.prog) {g : Ds a0P → Option (Rs [.int .i64])} (hg : ∀ x r, g x = some r → ∃ N, a4W N x = some r) : c8 Try.prog 10 ⟨a0P, [.int .i64], g⟩ :=
 i5 (E := p_dsa_Verify_E) (H := a4t) (L := fun N => a7k N) (c := Q5) (ks := a0P) (rs := a6o) (F := a4W) hE mix Try.func10 (by kernel_rfl) (fun N => b4G N) (fun _ _ => by kernel_rfl) hg
noncomputable def p_law16_few_E : AE := AE.of [(23, ty23), (35, ty35)] []
noncomputable def b6z : Hints := [(2, [5, 6, 7]), (2000000, []), (2000001, [5, 6, 7]), (3000000, [2])]
noncomputable def a9W : Code := (Try.f7).body.getD .skip
noncomputable def b9M : Shape := mkS { tmps := pv 5 (.sc (.frs b8) :: .sc (.int .i64) :: .sc (.int .i64) :: pv 7 []), mem := [] } [.xss, .int, .int]
abbrev W81 : Type := List (List Int) × Int × Int × Unit
abbrev W82 : Type := (Bool × Unit) ⊕ (Unit)
noncomputable def N1 (N : Nat) (β : Type) (x : W81) (kn : W81 → Option β) (ke : W82 → Option β) : Option β :=
 if (x.2.2.1 < x.2.1) then
  if 0 ≤ x.2.2.1 then (
  if x.2.2.1 < ((List.length x.1 : Nat) : Int) then (
  if (((List.length (List.getD x.1 (x.2.2.1.toNat) []) : Nat) : Int) > (6000:Int)) then
   ke (.inl (false, ()))
  else
   kn (x.1, x.2.1, (IntKind.i64.wrap (x.2.2.1 + (1:Int))), ())) else none) else none
 else
  ke (.inr (()))
noncomputable def b8d : Go' W82 := fun y K => match y with
 | .inl y => K .ret (fSt { tmps := V :: V :: .sc (.bool) :: pv 12 [], mem := [] } [.bool] y)
 | .inr y => K (.exit 0) (fSt { tmps := pv 15 [], mem := [] } [] ())
noncomputable def b0o (N : Nat) : LT := upd (LT.nil) 2 (o6 b9M N (N1 N) b8d)
theorem b8e (N : Nat) : OkAll p_law16_few_E b6z N (b0o N) (w9 a9W) :=
 d6 (c := d7 2 a9W) (OkAll.nil) (by kernel_rfl) (fun x => by kernel_rfl) (fun β x kn ke => by kernel_rfl)
abbrev a1T : List Kd := [.sls b8]
abbrev a73 : List Kd := [.bool]
noncomputable def a6A (N : Nat) (x : List (List Int) × Unit) : Option (Bool) :=
 m7 (N1 N) N (x.1, ((List.length x.1 : Nat) : Int), (0:Int), ()) fun y => (match y with
 | .inl y1 => (
  some y1.1)
 | .inr y2 => (
  some true))
theorem c1I : p_law16_few_E.Ok Try.prog := AE.of_ok (all_cons F8 (all_cons a2C c6)) c6
theorem c2K (hE : p_law16_few_E.Ok Try.prog) {g : Ds a1T → Option (Rs [.bool])} (hg : ∀ x r, g x = some r → ∃ N, a6A N x = some r) : c8 Try.prog 7 ⟨a1T, [.bool], g⟩ :=
 i5 (E := p_law16_few_E) (H := b6z) (L := fun N => b0o N) (c := a9W) (ks := a1T) (rs := a73) (F := a6A) hE mix Try.func7 (by kernel_rfl) (fun N => b8e N) (fun _ _ => by kernel_rfl) hg
noncomputable abbrev a4D : Sig := ⟨[.xs b8 32], [.sl b8, .sl b8, .int .i64], a2G⟩
noncomputable abbrev a4E : Sig := ⟨[.sl b8, .sl b8, .sl b8, .sl b8], [.int .i64], a0x⟩
noncomputable def p_law16_live_E : AE := AE.of [(5, ty5), (22, ty22), (23, ty23)] [(8, a4D), (10, a4E)]
noncomputable def c2L : Hints := [(3000000, [0])]
noncomputable def c2M : Code := (Try.f6).body.getD .skip
abbrev a6B : List Kd := []
abbrev a6C : List Kd := [.bool]
noncomputable def a40 (N : Nat) (x : Unit) : Option (Bool) :=
 (a2G ((List.replicate 32 0), ())).bind fun r1 => (
 if (r1.2.2 = (0:Int)) then
  if ((((List.length r1.1) : Nat) : Int) = (1952:Int)) then
   if ((((List.length r1.2.1) : Nat) : Int) = (4032:Int)) then
    if 0 ≤ (3309:Int) then (
    if (3309:Int) = (3309:Int) then (
    if (3309:Int) * 1 ≤ 281474976710656 then (
    (a0x (r1.1, [], [], (List.replicate 3309 0), ())).bind fun r2 => (
    if (r2 = (70:Int)) then
     (a0x ([], [], [], [], ())).bind fun r3 => (
     some (decide (r3 = (161:Int))))
    else
     some false)) else none) else none) else none
   else
    some false
  else
   some false
 else
  some false)
theorem b9N (e0 : c8 Try.prog 8 a4D) (e1 : c8 Try.prog 10 a4E) : p_law16_live_E.Ok Try.prog := AE.of_ok (all_cons Z1 (all_cons c4R (all_cons F8 c6))) (all_cons ⟨e0, a8n⟩ (all_cons ⟨e1, a8o⟩ c6))
theorem c1J (hE : p_law16_live_E.Ok Try.prog) {g : Ds [] → Option (Rs [.bool])} (hg : ∀ x r, g x = some r → ∃ N, a40 N x = some r) : c8 Try.prog 6 ⟨[], [.bool], g⟩ :=
 i5 (E := p_law16_live_E) (H := c2L) (L := fun N => LT.nil) (c := c2M) (ks := a6B) (rs := a6C) (F := a40) hE mix Try.func6 (by kernel_rfl) (fun N => OkAll.nil) (fun _ _ => by kernel_rfl) hg
end Go.Ax.TryP
set_option linter.unusedVariables false
namespace Go.Ax.TryP
open Go.Proofs
theorem Q8 {b : List Int} {a n : Nat} (h : a + n ≤ b.length) : (T6 b a n).length = n := by
 unfold T6
 rw [List.length_take, List.length_drop]
 omega
theorem D3 {b : List Int} (h : bytes b) (a n : Nat) : bytes (T6 b a n) := fun z hz => h z (List.mem_of_mem_drop (List.mem_of_mem_take hz))
theorem b6O (l : List Int) (k : Nat) : List.take (l.length - k) (List.drop k l) = l.drop k := List.take_of_length_le (by rw [List.length_drop]; omega)
theorem c3C {t : Int} {w : Nat} (ht : 0 ≤ t ∧ t ≤ 8380417) (hw : w ≤ 23) (b : List Int) : E5 256 (a2h t w b) := by
 refine rows.range fun i _ => ?_
 have h := d2o b i hw
 unfold d2n at h
 omega
theorem c7W : ∀ x r, a32 x = some r → ∃ N, a9U N x = some (xr r) := by
 refine b5j (ks := a1R) (rs := a1S) fun x hw hq => ⟨0, ?_⟩
 obtain ⟨(b : List Int), u⟩ := x
 have hl : b.length = 128 := hq
 have hb : b.length ≤ maxLen ∧ bytes b := M8.1 hw.1
 have e : j4 ((4 : Int), (4 : Int), b, ()) = some (b3P b, 0) := a5y (n := 4) (t := 4) (by omega) ⟨by omega, by omega, by omega⟩ hb.2
 have e2 := c0p (a := b3P b) (c3C (by omega) (by omega) b)
 unfold a9U
 dsimp only
 rw [e, Option.bind_some, if_neg (by simp), e2, Option.bind_some]
 by_cases h : 4 < a1r (b3P b)
 ·rw [if_pos h, if_pos (by decide), decide_eq_true h]
  rfl
 ·rw [if_neg h, decide_eq_false h]
  rfl
theorem d3y {b : List Int} (hl : b.length = 128) (hb : bytes b) : a32 (b, ()) = some (decide (4 < a1r (b3P b)), 160, b3P b) :=
 b5i (ks := a1R) (rs := a1S) (x := (b, ())) (Q := fun x => x.1.length = 128) (f := fun x => (decide (4 < a1r (b3P x.1)), 160, b3P x.1)) ⟨M8.2 ⟨mB (by rw [hl]; omega), hb⟩, trivial⟩ hl
theorem d2P (sk : List Int) (i : Nat) : (skP sk i).length = 256 := a1y _
theorem d6K (sk : List Int) (i : Nat) : (skL sk i).length = 256 := a1y _
theorem b5q {sk : List Int} (hl : sk.length = 4032) (hb : bytes sk) {i : Nat} (hi : i < 11) : a32 (List.take 128 (List.drop (128 + 128 * i) sk), ()) = some (decide (4 < a1r (skP sk i)), 160, skP sk i) :=
 d3y (b := T6 sk (128 + 128 * i) 128) (Q8 (by omega)) (D3 hb _ _)
theorem d5Q {sk : List Int} (hl : sk.length = 4032) (hb : bytes sk) {i : Nat} (hi : i < 6) : j4 ((4096 : Int), (13 : Int), List.take 416 (List.drop (1536 + 416 * i) sk), ()) = some (skL sk i, 0) :=
 a5y (n := 13) (t := 4096) (b := T6 sk (1536 + 416 * i) 416) (by omega) ⟨by omega, by omega, by rw [Q8 (by omega)]⟩ (D3 hb _ _)
theorem d9u {sk A B C T E L Z : List Int} (hl : sk.length = 4032) (hb : bytes sk) (hZ : Z.length = 5 * 256) {rho k : List Int} {β : Type} (K : (Int × List Int × List Int × List Int × Unit) ⊕ (List Int × List Int × List Int × List Int × List Int × List Int × List Int × List Int × List Int × List Int × Unit) → Option β) :
  ((∀ i, i < 5 → a1r (skP sk i) ≤ 4) → m7 (B0 10) 10 ((0 : Int), sk.drop 128, A, B, C, rho, k, T, Z, E, L, ()) K = K (.inr (sk.drop (128 + 128 * 5), A, B, C, rho, k, T, N2 (skP sk) 5, E, L, ()))) ∧
  (¬ (∀ i, i < 5 → a1r (skP sk i) ≤ 4) → m7 (B0 10) 10 ((0 : Int), sk.drop 128, A, B, C, rho, k, T, Z, E, L, ()) K = K (.inl (160, A, B, C, ()))) := by
 have h := c03 (F := B0 10) (K := K) (fun i => ((i : Int), sk.drop (128 + 128 * i), A, B, C, rho, k, T, a1g (skP sk) Z i, E, L, ())) (fun i => a1r (skP sk i) ≤ 4) (.inl (160, A, B, C, ())) (.inr (sk.drop (128 + 128 * 5), A, B, C, rho, k, T, N2 (skP sk) 5, E, L, ())) 5
  (fun i hi kn => by
   have h1 : ((List.length (List.drop (128 + 128 * i) sk) : Nat) : Int) = 3904 - 128 * i := by rw [List.length_drop]; omega
   constructor
   ·intro hc
    unfold B0
    dsimp only
    rw [if_pos (by omega), if_pos (by omega), if_pos (by omega), if_pos (by omega), if_pos (by omega), Nat.sub_zero, List.drop_zero, b5q hl hb (show i < 11 by omega), Option.bind_some, if_neg (by rw [decide_eq_true_iff]; omega), if_pos (by omega), if_pos (by omega), if_pos (by omega), Int.toNat_natCast, b6O, List.drop_drop, c7 (by omega) (by omega), P7 (f := skP sk) hZ (fun j _ => d2P sk j) hi]
    rfl
   ·intro hc
    unfold B0
    dsimp only
    rw [if_pos (by omega), if_pos (by omega), if_pos (by omega), if_pos (by omega), if_pos (by omega), Nat.sub_zero, List.drop_zero, b5q hl hb (show i < 11 by omega), Option.bind_some, if_pos (by rw [decide_eq_true_iff]; omega)])
  (fun kn => by
   unfold B0
   dsimp only
   rw [if_neg (by omega), P6 hZ]) 5 0 10 (by omega) (by omega)
 rw [D9] at h
 exact ⟨fun hh => h.1 fun r _ hr6 => hh r hr6, fun hh => h.2 fun hh' => hh fun r hr6 => hh' r (Nat.zero_le _) hr6⟩
theorem d9t {sk A B C T S L Z : List Int} (hl : sk.length = 4032) (hb : bytes sk) (hZ : Z.length = 6 * 256) {rho k : List Int} {β : Type} (K : (Int × List Int × List Int × List Int × Unit) ⊕ (List Int × List Int × List Int × List Int × List Int × List Int × List Int × List Int × List Int × List Int × Unit) → Option β) :
  ((∀ i, i < 6 → a1r (skP sk (5 + i)) ≤ 4) → m7 (v9 10) 10 ((0 : Int), sk.drop (128 + 128 * 5), A, B, C, rho, k, T, S, Z, L, ()) K = K (.inr (sk.drop 1536, A, B, C, rho, k, T, S, N2 (fun i => skP sk (5 + i)) 6, L, ()))) ∧
  (¬ (∀ i, i < 6 → a1r (skP sk (5 + i)) ≤ 4) → m7 (v9 10) 10 ((0 : Int), sk.drop (128 + 128 * 5), A, B, C, rho, k, T, S, Z, L, ()) K = K (.inl (160, A, B, C, ()))) := by
 have h := c03 (F := v9 10) (K := K) (fun i => ((i : Int), sk.drop (128 + 128 * (5 + i)), A, B, C, rho, k, T, S, a1g (fun i => skP sk (5 + i)) Z i, L, ())) (fun i => a1r (skP sk (5 + i)) ≤ 4) (.inl (160, A, B, C, ())) (.inr (sk.drop 1536, A, B, C, rho, k, T, S, N2 (fun i => skP sk (5 + i)) 6, L, ())) 6
  (fun i hi kn => by
   have h1 : ((List.length (List.drop (128 + 128 * (5 + i)) sk) : Nat) : Int) = 3264 - 128 * i := by rw [List.length_drop]; omega
   constructor
   ·intro hc
    unfold v9
    dsimp only
    rw [if_pos (by omega), if_pos (by omega), if_pos (by omega), if_pos (by omega), if_pos (by omega), Nat.sub_zero, List.drop_zero, b5q hl hb (show 5 + i < 11 by omega), Option.bind_some, if_neg (by rw [decide_eq_true_iff]; omega), if_pos (by omega), if_pos (by omega), if_pos (by omega), Int.toNat_natCast, b6O, List.drop_drop, c7 (by omega) (by omega), P7 (f := fun i => skP sk (5 + i)) hZ (fun j _ => d2P sk _) hi]
    rfl
   ·intro hc
    unfold v9
    dsimp only
    rw [if_pos (by omega), if_pos (by omega), if_pos (by omega), if_pos (by omega), if_pos (by omega), Nat.sub_zero, List.drop_zero, b5q hl hb (show 5 + i < 11 by omega), Option.bind_some, if_pos (by rw [decide_eq_true_iff]; omega)])
  (fun kn => by
   unfold v9
   dsimp only
   rw [if_neg (by omega), P6 hZ]) 6 0 10 (by omega) (by omega)
 rw [D9] at h
 exact ⟨fun hh => h.1 fun r _ hr6 => hh r hr6, fun hh => h.2 fun hh' => hh fun r hr6 => hh' r (Nat.zero_le _) hr6⟩
theorem d9K {sk A B C T S E Z : List Int} (hl : sk.length = 4032) (hb : bytes sk) (hZ : Z.length = 6 * 256) {rho k : List Int} {β : Type} (K : (Int × List Int × List Int × List Int × Unit) ⊕ (List Int × List Int × List Int × List Int × List Int × List Int × List Int × List Int × List Int × Unit) → Option β) :
  m7 (H2 10) 10 ((0 : Int), sk.drop 1536, A, B, C, rho, k, T, S, E, Z, ()) K = K (.inr (A, B, C, rho, k, T, S, E, N2 (skL sk) 6, ())) := by
 refine i8 (F := H2 10) (s := fun i => ((i : Int), sk.drop (1536 + 416 * i), A, B, C, rho, k, T, S, E, a1g (skL sk) Z i, ())) (y := .inr (A, B, C, rho, k, T, S, E, N2 (skL sk) 6, ())) 6 (by rw [D9]; rfl) ?_ ?_ 10 (by omega)
 ·intro i hi kn
  have h1 : ((List.length (List.drop (1536 + 416 * i) sk) : Nat) : Int) = 2496 - 416 * i := by rw [List.length_drop]; omega
  unfold H2
  dsimp only
  rw [if_pos (by omega), if_pos (by omega), if_pos (by omega), if_pos (by omega), if_pos (by omega), Nat.sub_zero, List.drop_zero, d5Q hl hb hi, Option.bind_some, if_neg (by simp), if_pos (by omega), if_pos (by omega), if_pos (by omega), Int.toNat_natCast, b6O, List.drop_drop, show 1536 + 416 * i + 416 = 1536 + 416 * (i + 1) by omega, c7 (by omega) (by omega), P7 (f := skL sk) hZ (fun j _ => d6K sk j) hi]
  rfl
 ·intro kn
  unfold H2
  dsimp only
  rw [if_neg (by omega), P6 hZ]
end Go.Ax.TryP
set_option linter.unusedVariables false
namespace Go.Ax.TryP
open Go.Proofs
theorem c4e {sk : List Int} (hl : sk.length = 4032) : d3g sk ↔ (∀ i, i < 5 → a1r (skP sk i) ≤ 4) ∧ ∀ i, i < 6 → a1r (skP sk (5 + i)) ≤ 4 := by
 constructor
 ·intro h
  exact ⟨fun i hi => h.2 i (by omega), fun i hi => h.2 (5 + i) (by omega)⟩
 ·intro h
  refine ⟨hl, fun i hi => ?_⟩
  by_cases h5 : i < 5
  ·exact h.1 i h5
  ·have := h.2 (i - 5) (by omega)
   rwa [show 5 + (i - 5) = i by omega] at this
theorem d0y : ∀ x r, b2z x = some r → ∃ N, a5V N x = some (xr r) := by
 refine b5j (ks := a3s) (rs := a3t) fun x hw hq => ⟨10, ?_⟩
 obtain ⟨(sk : List Int), u⟩ := x
 have hb0 : sk.length ≤ maxLen ∧ bytes sk := M8.1 hw.1
 have hb := hb0.2
 show a5V 10 (sk, u) = some (xr (tf (¬ d3g sk), 160, d0Y sk))
 by_cases hl : sk.length = 4032
 ·have hZ5 : (List.replicate 1280 (0 : Int)).length = 5 * 256 := by rw [List.length_replicate]
  have hZ6 : (List.replicate 1536 (0 : Int)).length = 6 * 256 := by rw [List.length_replicate]
  unfold a5V
  dsimp only
  generalize List.replicate 1280 (0 : Int) = Z5 at hZ5
  generalize List.replicate 1536 (0 : Int) = Z6 at hZ6
  have d1 : (sk.drop 32).length = 4000 := by rw [List.length_drop]; omega
  have d2 : (sk.drop 64).length = 3968 := by rw [List.length_drop]; omega
  rw [if_neg (by omega)]
  simp only [b6O]
  simp only [List.drop_drop, Nat.sub_zero, List.drop_zero, Nat.reduceAdd]
  rw [if_pos (by omega), if_pos (by omega), if_pos (by omega), if_pos (by omega), if_pos (by omega), if_pos (by omega), if_pos (by omega), if_pos (by omega), if_pos (by omega), if_pos (by omega), if_pos (by omega), if_pos (by omega)]
  by_cases c1 : ∀ i, i < 5 → a1r (skP sk i) ≤ 4
  ·refine ((d9u hl hb hZ5 _).1 c1).trans ?_
   dsimp only
   by_cases c2 : ∀ i, i < 6 → a1r (skP sk (5 + i)) ≤ 4
   ·refine ((d9t hl hb hZ6 _).1 c2).trans ?_
    dsimp only
    refine (d9K hl hb hZ6 _).trans ?_
    rw [d8p (fun h => h ((c4e hl).2 ⟨c1, c2⟩))]
    rfl
   ·refine ((d9t hl hb hZ6 _).2 c2).trans ?_
    rw [c9C (fun h => c2 ((c4e hl).1 h).2)]
    rfl
  ·refine ((d9u hl hb hZ5 _).2 c1).trans ?_
   rw [c9C (fun h => c1 ((c4e hl).1 h).1)]
   rfl
 ·unfold a5V
  dsimp only
  rw [if_pos (by omega), if_pos (by decide), c9C (fun h => hl h.1)]
  rfl
theorem d5F {sk : List Int} (hb : sk.length ≤ maxLen ∧ bytes sk) : b2z (sk, ()) = some (tf (¬ d3g sk), 160, d0Y sk) :=
 b5i (ks := a3s) (rs := a3t) (x := (sk, ())) (Q := fun _ => True) (f := fun x => (tf (¬ d3g x.1), 160, d0Y x.1)) ⟨M8.2 hb, trivial⟩ trivial
end Go.Ax.TryP
set_option linter.unusedVariables false
namespace Go.Ax.TryP
open Go.Proofs
theorem d2l {a : List Int} {m : Int} (h0 : 0 ≤ m) (h : a1r a ≤ m) {i : Nat} (hi : i < 256) : d1Z (c2m (a.getD i 0)) ≤ m := (c9f h0).1 h i hi
theorem d47 {z m : Int} (h : d1Z z ≤ m) : -m ≤ z ∧ z ≤ m := by
 unfold d1Z at h
 split at h <;> omega
theorem c5N {top m : Int} {w : Nat} {a : List Int} (h0 : 0 ≤ m) (h : a1r a ≤ m) (h1 : m ≤ top) (h2 : top + m < 2 ^ w) : inW w (a30 top a) := by
 intro i hi
 have e : (a30 top a).getD i 0 = top - (b35 a).getD i 0 := i9 hi
 rw [e, b2v hi]
 have := d47 (d2l h0 h hi)
 omega
theorem d6f {s : List Int} (h : s.length = 66) : (c5W 20 s).2 = 0 := by
 unfold c5W
 rw [if_neg (by rw [h]; decide)]
theorem d6g (s : List Int) : E5 256 (c5W 20 s).1 := by
 unfold c5W
 split
 ·exact rows.zero (by omega) 256
 ·exact c3C (by decide) (by decide) _
theorem d3t {b : List Int} (hb : b.length ≤ maxLen ∧ bytes b) : a61 (20, b, ()) = some (c5W 20 b) :=
 d8 (ks := a0B) (rs := a0C) (x := (20, b, ())) ⟨d0V (by omega), M8.2 hb, trivial⟩ trivial
theorem c9F (n : Int) : bytes (c9E n) := fun z hz => by
 unfold c9E at hz
 rcases List.mem_cons.1 hz with rfl | hz
 ·omega
 ·rw [List.mem_singleton.1 hz]; omega
theorem c4O (n : Int) : (c9E n).length = 2 := rfl
theorem c8x {a b : List Int} (ha : a.length ≤ 1000 ∧ bytes a) (hb : b.length ≤ 1000 ∧ bytes b) : m6 ([a, b], ()) = some (a ++ b) := by
 have h := c0n (l := [a, b]) ⟨by simp, by simp; omega⟩ ⟨mB (by simp), fun zs hzs => by
  rcases List.mem_cons.1 hzs with rfl | hzs
  ·exact ⟨mB (by omega), ha.2⟩
  ·rw [List.mem_singleton.1 hzs]; exact ⟨mB (by omega), hb.2⟩⟩
 rw [h]
 simp
theorem c8w {a : List Int} (ha : a.length ≤ 1000000 ∧ bytes a) : m6 ([a], ()) = some a := by
 have h := c0n (l := [a]) ⟨by simp, by simp; omega⟩ ⟨mB (by simp), fun zs hzs => by rw [List.mem_singleton.1 hzs]; exact ⟨mB (by omega), ha.2⟩⟩
 rw [h]
 simp
theorem c5i {m y : List Int} (hm : E5 (30 * 256) m) (hy : E5 (5 * 256) y) : N8 (m, y, ()) = some (b0t m y) :=
 d8 (ks := F4) (rs := F5) (x := (m, y, ())) ⟨v8.2 hm, v8.2 hy, trivial⟩ trivial
theorem d1b {mu h : List Int} (hm : mu.length ≤ 1000 ∧ bytes mu) (hh : E5 (6 * 256) h) (hw : ∀ r, r < 6 → inW 4 (B8 (chD h r))) : a0y (mu, h, ()) = some (c2l mu h) :=
 d8 (ks := O9) (rs := P0) (x := (mu, h, ())) ⟨M8.2 ⟨mB (by have := hm.1; exact Nat.le_trans this (by decide)), hm.2⟩, v8.2 hh, trivial⟩ ⟨hm.1, hw⟩
theorem c8s {b : List Int} (hb : b.length ≤ 1000 ∧ bytes b) : a4K (49, b, ()) = some (a47 49 b) :=
 d8 (ks := a0z) (rs := a0A) (x := (49, b, ())) ⟨d0V (by omega), M8.2 ⟨mB (by have := hb.1; exact Nat.le_trans this (by decide)), hb.2⟩, trivial⟩ hb.1
theorem a1i (l : List Int) (n : Nat) : (a3O l n).length = n := c4K _ _ _ _
theorem a7x (l : List Int) (n : Nat) : bytes (a3O l n) := d8l _ _ _ _
theorem c0z (mu h : List Int) : (c2l mu h).length = 48 := a1i _ _
theorem c69 (mu h : List Int) : bytes (c2l mu h) := a7x _ _
def c65 (z : Int) : Prop := z = 0 ∨ z = 1 ∨ z = 8380416
theorem d1i {c : List Int} (h : ∀ z ∈ c, c65 z) (i : Nat) : c65 (c.getD i 0) := by
 by_cases hi : i < c.length
 ·rw [List.getD_eq_getElem?_getD, List.getElem?_eq_getElem hi]
  exact h _ (List.getElem_mem hi)
 ·rw [List.getD_eq_getElem?_getD, List.getElem?_eq_none (by omega)]
  exact .inl rfl
theorem d3A {s : List Int} {n i a : Nat} {c : List Int} (h : c.length = 256 ∧ ∀ z ∈ c, c65 z) : (c5n s n i a c).length = 256 ∧ ∀ z ∈ c5n s n i a c, c65 z := by
 unfold c5n
 refine ⟨by rw [List.length_set, List.length_set, h.1], fun z hz => ?_⟩
 rcases List.mem_or_eq_of_mem_set hz with hz | hz
 ·rcases List.mem_or_eq_of_mem_set hz with hz | hz
  ·exact h.2 z hz
  ·rw [hz]; exact d1i h.2 _
 ·rw [hz]
  split
  ·exact .inr (.inr rfl)
  ·exact .inr (.inl rfl)
theorem c4W : z256.length = 256 ∧ ∀ z ∈ z256, c65 z := ⟨by rw [z256, List.length_replicate], fun z hz => .inl (List.eq_of_mem_replicate hz)⟩
theorem c8z (tau : Nat) (s : List Int) : ∀ {k : Nat} {c : List Int} {p : Nat}, b7e tau s k = some (c, p) → c.length = 256 ∧ ∀ z ∈ c, c65 z
 | 0, c, p, h => by
  simp only [b7e] at h
  cases h
  exact c4W
 | k + 1, c, p, h => by
  simp only [b7e] at h
  split at h
  ·cases h
  ·rename_i c0 p0 hk
   split at h
   ·cases h
   ·cases h
    exact d3A (c8z tau s hk)
theorem c8A (s : List Int) : (a47 49 s).1.length = 256 ∧ ∀ z ∈ (a47 49 s).1, c65 z := by
 unfold a47
 split
 ·exact c4W
 ·split
  ·exact c4W
  ·rename_i c p hk
   exact c8z _ s hk
theorem d1h (s : List Int) : E5 256 (a47 49 s).1 := ⟨(c8A s).1, fun z hz => by rcases (c8A s).2 z hz with h | h | h <;> omega⟩
theorem d5I (s : List Int) : (a47 49 s).2 = 0 ∨ (a47 49 s).2 = 130 := by
 unfold a47
 rw [if_neg (by decide)]
 split
 ·exact .inr rfl
 ·exact .inl rfl
theorem d02 {f : Nat → List Int} {h : Nat → Int} : ∀ n, (∀ i, i < n → (f i).length = if h i ≠ 0 then 1 else 0) → ((b3U f n).length : Int) = c7a h n
 | 0, _ => by rw [c5u]; rfl
 | n + 1, hf => by
  rw [c0B, b3U, List.length_append, hf n (by omega)]
  have ih := d02 (f := f) (h := h) n fun i hi => hf i (by omega)
  split
  ·push_cast; omega
  ·push_cast; omega
theorem d4n {f : Nat → List Int} {n k i : Nat} (h : ∀ j, j < n → (f j).length = 256) (hk : k < n) (hi : i < 256) : (N2 f n).getD (k * 256 + i) 0 = (f k).getD i 0 := by
 have e := a9g h hk
 unfold chD at e
 rw [← e, List.getD_eq_getElem?_getD, List.getD_eq_getElem?_getD, List.getElem?_take, if_pos hi, List.getElem?_drop]
theorem c36 (c w e l : List Int) (r : Nat) : (htD c w e l r).1.length = 256 := a1y _
theorem d1s {f : Nat → List Int × Int} {n : Nat} (hf : ∀ k, k < n → (f k).1.length = 256) (hc : ∀ k, k < n → ((d5d (N2 (fun r => (f r).1) n) k).length : Int) = (f k).2) : ∀ k, k ≤ n → ((a7A (N2 (fun r => (f r).1) n) k).length : Int) = c4X f k
 | 0, _ => rfl
 | k + 1, hk => by
  have ih := d1s hf hc k (by omega)
  have h1 := hc k (by omega)
  show ((a7A _ k ++ d5d _ k).length : Int) = c4X f k + (f k).2
  rw [List.length_append]
  push_cast
  omega
theorem d1r (c w e l : List Int) : ((a7A (N2 (fun r => (htD c w e l r).1) 6) 6).length : Int) = c4X (htD c w e l) 6 := by
 refine d1s (f := htD c w e l) (fun k _ => c36 c w e l k) (fun k hk => ?_) 6 (Nat.le_refl 6)
 have hd : (htD c w e l k).2 = c7a (a25 (b5x b8B (c42 c l k)) (b0x (c1Z c w e k) (c42 c l k))) 256 := rfl
 rw [hd]
 unfold d5d
 refine d02 256 fun i hi => ?_
 have e1 := d4n (f := fun r => (htD c w e l r).1) (n := 6) (fun j _ => c36 c w e l j) hk hi
 have e2 : (htD c w e l k).1.getD i 0 = a25 (b5x b8B (c42 c l k)) (b0x (c1Z c w e k) (c42 c l k)) i := i9 hi
 unfold mkP
 rw [e1]
 show (if (htD c w e l k).1.getD i 0 ≠ 0 then [(i : Int)] else []).length = _
 rw [e2]
 split <;> rfl
end Go.Ax.TryP
set_option linter.unusedVariables false
namespace Go.Ax.TryP
open Go.Proofs
theorem c3m {f : Nat → List Int} {z : List Int} {n i : Nat} (hf : ∀ j, j < n → (f j).length = 256) (hi : i < n) : List.take 256 (List.drop (i * 256) (a1g f z (i + 1))) = f i := by
 unfold a1g
 exact c7D (a0i fun j hj => hf j (by omega)) (hf i hi)
theorem d9B (rho2 : List Int) (k i : Nat) : E5 256 (yD rho2 k i) := d6g _
theorem d9P {L1 L2 k : Nat} (hk : k ≤ 10000) {rho2 : List Int} (hr : rho2.length = 64 ∧ bytes rho2) {A B C S E L M mu Z Z2 : List Int} (hZ : Z.length = 5 * 256) {β : Type} (K : _ → Option β) :
  m7 (x9 10) 10 (L1, L2, (k : Int), false, (0 : Int), A, B, C, S, E, L, M, L1, mu, L2, rho2, Z, Z2, ()) K = K (.inr (L1, false, A, B, C, S, E, L, M, L1, mu, N2 (yD rho2 k) 5, Z2, ())) := by
 refine i8 (F := x9 10) (s := fun i => (L1, L2, (k : Int), false, (i : Int), A, B, C, S, E, L, M, L1, mu, L2, rho2, a1g (yD rho2 k) Z i, Z2, ())) (y := .inr (L1, false, A, B, C, S, E, L, M, L1, mu, N2 (yD rho2 k) 5, Z2, ())) 5 (by rw [D9]; rfl) ?_ ?_ 10 (by omega)
 ·intro i hi kn
  have hj : (rho2 ++ c9E ((k * 5 + i : Nat) : Int)).length = 66 := by rw [List.length_append, hr.1]; rfl
  unfold x9
  dsimp only
  rw [if_pos (by omega), c7 (x := (k : Int) * 5) (by omega) (by omega), c7 (x := (k : Int) * 5 + (i : Int)) (by omega) (by omega), show (k : Int) * 5 + (i : Int) = ((k * 5 + i : Nat) : Int) by omega, c5l (by omega), Option.bind_some,
   c8x ⟨by omega, hr.2⟩ ⟨by rw [c4O]; omega, c9F _⟩, Option.bind_some, d3t ⟨mB (by omega), J7 hr.2 (c9F _)⟩, Option.bind_some, if_neg (by rw [d6f hj]; simp), if_pos (by omega), if_pos (by omega), if_pos (by omega), Int.toNat_natCast, c7 (by omega) (by omega)]
  exact congrArg kn (by rw [← P7 (f := yD rho2 k) hZ (fun j _ => (d9B rho2 k j).1) hi]; rfl)
 ·intro kn
  unfold x9
  dsimp only
  rw [if_neg (by omega), P6 hZ]
  rfl
theorem d1M (a : List Int) : E5 256 (b5h a).1 := rows.range fun i _ => by have := d1N (a.getD i 0); omega
theorem d9O {L1 : Nat} {A B C S E L mu Y Z2 w H : List Int} (hw : E5 (6 * 256) w) (hH : H.length = 6 * 256) {β : Type} (K : _ → Option β) :
  m7 (v0 10) 10 (L1, false, (0 : Int), A, B, C, S, E, L, L1, mu, Y, Z2, w, H, ()) K = K (L1, false, A, B, C, S, E, L, L1, mu, Y, Z2, w, hiD w, ()) := by
 refine i8 (F := v0 10) (s := fun i => (L1, false, (i : Int), A, B, C, S, E, L, L1, mu, Y, Z2, w, a1g (fun r => (b5h (chD w r)).1) H i, ())) (y := (L1, false, A, B, C, S, E, L, L1, mu, Y, Z2, w, hiD w, ())) 6 (by rw [D9]; rfl) ?_ ?_ 10 (by omega)
 ·intro i hi kn
  unfold v0
  dsimp only
  rw [if_pos (by omega), if_pos (by omega), if_pos (by omega), Int.toNat_natCast, if_pos (by omega), show List.take 256 (List.drop (i * 256) w) = chD w i from rfl, c5d (a56 hw hi), Option.bind_some, if_pos (by omega), if_pos (by omega), if_pos (by omega), c7 (by omega) (by omega)]
  exact congrArg kn (by rw [← P7 (f := fun r => (b5h (chD w r)).1) hH (fun j _ => (d1M _).1) hi]; rfl)
 ·intro kn
  unfold v0
  dsimp only
  rw [if_neg (by omega), P6 hH]
  rfl
theorem d8M (c s y : List Int) (i : Nat) : E5 256 (zD c s y i) := b1m _ _
theorem d5q {ct : List Int} (h : ct.length = 48) (c s y : List Int) (n : Nat) : (zT ct c s y n).length = 48 + n * 640 := by
 unfold zT
 rw [List.length_append, h, a0i (w := 640) fun i _ => a6F 20 _]
theorem c7l (a b : List Int) : E5 256 (b0y a b) := c3Y _
theorem d9z {ct c : List Int} (hct : ct.length = 48) (hc : E5 256 c) {A B C S E L Y Z w : List Int} (hS : E5 (5 * 256) S) (hY : E5 (5 * 256) Y) (hZ : Z.length = 5 * 256) {β : Type} (K : _ → Option β) :
  ((∀ i, i < 5 → a1r (zD c S Y i) < 524092) → m7 (j9 10) 10 (false, 48, (0 : Int), A, B, C, S, E, L, Y, Z, w, c, 48, ct, ()) K = K (.inr (.inr (false, 48 + 5 * 640, A, B, C, S, E, L, w, c, 48 + 5 * 640, zT ct c S Y 5, ())))) ∧
  (¬ (∀ i, i < 5 → a1r (zD c S Y i) < 524092) → m7 (j9 10) 10 (false, 48, (0 : Int), A, B, C, S, E, L, Y, Z, w, c, 48, ct, ()) K = K (.inl (false, ()))) := by
 have h := c03 (F := j9 10) (K := K) (fun i => (false, 48 + i * 640, (i : Int), A, B, C, S, E, L, Y, a1g (zD c S Y) Z i, w, c, 48 + i * 640, zT ct c S Y i, ())) (fun i => a1r (zD c S Y i) < 524092) (.inl (false, ())) (.inr (.inr (false, 48 + 5 * 640, A, B, C, S, E, L, w, c, 48 + 5 * 640, zT ct c S Y 5, ()))) 5
  (fun i hi kn => by
   have e1 : U6 (c, List.take 256 (List.drop (i * 256) S), ()) = some (b0y c (chD S i)) := c6Z hc (a56 hS hi)
   have e2 : Q0 (List.take 256 (List.drop (i * 256) Y), b0y c (chD S i), ()) = some (zD c S Y i) := c5b (a56 hY hi) (c7l _ _)
   have e3 := c0p (d8M c S Y i)
   have hs := P7 (f := zD c S Y) hZ (fun j _ => (d8M c S Y j).1) hi
   have hg := c3m (f := zD c S Y) (z := Z) (n := 5) (fun j _ => (d8M c S Y j).1) hi
   constructor
   ·intro hlt
    have e4 : n9 ((524288 : Int), (20 : Int), zD c S Y i, ()) = some (pkW 20 (a30 524288 (zD c S Y i)), 0) := a9e (d := 20) (by omega) (by omega) (d8M c S Y i) (c5N (m := 524091) (by omega) (by omega) (by omega) (by decide))
    unfold j9
    dsimp only
    rw [if_pos (by omega), if_pos (by omega), if_pos (by omega), Int.toNat_natCast, if_pos (by omega), if_pos (by omega), if_pos (by omega), if_pos (by omega), e1, Option.bind_some, e2, Option.bind_some, hs, hg,
     if_pos (by omega), if_pos (by omega), if_pos (by omega), if_pos (by omega), if_pos (by omega), if_pos (by omega), e3, Option.bind_some, if_neg (by omega), if_pos (by omega), if_pos (by omega), if_pos (by omega), e4, Option.bind_some, if_neg (by simp), a6F, if_pos (by omega), c7 (by omega) (by omega)]
    rw [show 48 + i * 640 + 32 * 20 = 48 + (i + 1) * 640 by omega, show zT ct c S Y i ++ pkW 20 (a30 524288 (zD c S Y i)) = zT ct c S Y (i + 1) by unfold zT; rw [List.append_assoc]; rfl, show (i : Int) + 1 = ((i + 1 : Nat) : Int) by omega, show decide (false = true) = false from rfl]
   ·intro hlt
    unfold j9
    dsimp only
    rw [if_pos (by omega), if_pos (by omega), if_pos (by omega), Int.toNat_natCast, if_pos (by omega), if_pos (by omega), if_pos (by omega), if_pos (by omega), e1, Option.bind_some, e2, Option.bind_some, hs, hg,
     if_pos (by omega), if_pos (by omega), if_pos (by omega), if_pos (by omega), if_pos (by omega), if_pos (by omega), e3, Option.bind_some, if_pos (by omega)])
  (fun kn => by
   unfold j9
   dsimp only
   rw [if_neg (by omega)]
   rfl) 5 0 10 (by omega) (by omega)
 rw [D9, Nat.zero_mul, Nat.add_zero, show zT ct c S Y 0 = ct by simp [zT, N2]] at h
 exact ⟨fun hh => h.1 fun r _ hr6 => hh r hr6, fun hh => h.2 fun hh' => hh fun r hr6 => hh' r (Nat.zero_le _) hr6⟩
theorem d4Z {c w e l : List Int} : ∀ n, 0 ≤ c4X (htD c w e l) n ∧ c4X (htD c w e l) n ≤ 256 * n
 | 0 => by simp [c4X]
 | n + 1 => by
  have ih := d4Z (c := c) (w := w) (e := e) (l := l) n
  have h : (htD c w e l n).2 = c7a (a25 (b5x b8B (c42 c l n)) (b0x (c1Z c w e n) (c42 c l n))) 256 := rfl
  have := d40 (a25 (b5x b8B (c42 c l n)) (b0x (c1Z c w e n) (c42 c l n))) 256
  rw [← h] at this
  rw [c4X]
  omega
theorem d3N : E5 256 b8B := rows.zero (by omega) 256
theorem d51 (a : List Int) : E5 256 (b5h a).2 := rows.range fun i _ => by have := d80 (a.getD i 0); omega
theorem d9y {n1 : Nat} {sig c : List Int} (hc : E5 256 c) {A B C S E L w H : List Int} (hE : E5 (6 * 256) E) (hL : E5 (6 * 256) L) (hw : E5 (6 * 256) w) (hH : H.length = 6 * 256) {β : Type} (K : _ → Option β) :
  ((∀ i, i < 6 → d2t c w E L i) → m7 (k0 10) 10 (false, n1, (0 : Int), (0 : Int), A, B, C, S, E, L, w, c, n1, sig, H, ()) K = K (.inr (false, n1, c4X (htD c w E L) 6, n1, sig, N2 (fun r => (htD c w E L r).1) 6, ()))) ∧
  (¬ (∀ i, i < 6 → d2t c w E L i) → m7 (k0 10) 10 (false, n1, (0 : Int), (0 : Int), A, B, C, S, E, L, w, c, n1, sig, H, ()) K = K (.inl (false, ()))) := by
 have h := c03 (F := k0 10) (K := K) (fun i => (false, n1, c4X (htD c w E L) i, (i : Int), A, B, C, S, E, L, w, c, n1, sig, a1g (fun r => (htD c w E L r).1) H i, ())) (fun i => d2t c w E L i) (.inl (false, ())) (.inr (false, n1, c4X (htD c w E L) 6, n1, sig, N2 (fun r => (htD c w E L r).1) 6, ())) 6
  (fun i hi kn => by
   have e1 : U6 (c, List.take 256 (List.drop (i * 256) E), ()) = some (b0y c (chD E i)) := c6Z hc (a56 hE hi)
   have e2 : a0v (List.take 256 (List.drop (i * 256) w), b0y c (chD E i), ()) = some (c1Z c w E i) := d09 (a56 hw hi) (c7l _ _)
   have e3 : U6 (c, List.take 256 (List.drop (i * 256) L), ()) = some (c42 c L i) := c6Z hc (a56 hL hi)
   have hr : E5 256 (c1Z c w E i) := c0R _ _
   have hl : E5 256 (c42 c L i) := c7l _ _
   have e4 := c5d hr
   have e5 := c0p (d51 (c1Z c w E i))
   have e6 := c0p hl
   have e7 : a0v (List.replicate 256 0, c42 c L i, ()) = some (b5x b8B (c42 c L i)) := d09 d3N hl
   have e8 := c5b hr hl
   have e9 : X6 (b5x b8B (c42 c L i), b0x (c1Z c w E i) (c42 c L i), ()) = some (htD c w E L i) := d5y (c0R _ _) (b1m _ _)
   have hs := P7 (f := fun r => (htD c w E L r).1) hH (fun j _ => c36 c w E L j) hi
   have hcb := d4Z (c := c) (w := w) (e := E) (l := L) (i + 1)
   have hcs : c4X (htD c w E L) (i + 1) = c4X (htD c w E L) i + (htD c w E L i).2 := rfl
   constructor
   ·intro hlt
    have h1 := hlt.1
    have h2 := hlt.2
    unfold k0
    dsimp only
    rw [if_pos (by omega), if_pos (by omega), if_pos (by omega), Int.toNat_natCast, if_pos (by omega), if_pos (by omega), if_pos (by omega), if_pos (by omega), e1, Option.bind_some, e2, Option.bind_some, if_pos (by omega), if_pos (by omega), if_pos (by omega), e3, Option.bind_some, e4, Option.bind_some, e5, Option.bind_some, if_neg (by omega), e6, Option.bind_some, if_neg (by omega),
     e7, Option.bind_some, e8, Option.bind_some, e9, Option.bind_some, if_pos (by omega), if_pos (by omega), if_pos (by omega), hs, c7 (x := c4X (htD c w E L) i + (htD c w E L i).2) (by omega) (by omega), c7 (by omega) (by omega)]
    rfl
   ·intro hlt
    unfold k0
    dsimp only
    rw [if_pos (by omega), if_pos (by omega), if_pos (by omega), Int.toNat_natCast, if_pos (by omega), if_pos (by omega), if_pos (by omega), if_pos (by omega), e1, Option.bind_some, e2, Option.bind_some, if_pos (by omega), if_pos (by omega), if_pos (by omega), e3, Option.bind_some, e4, Option.bind_some, e5, Option.bind_some]
    by_cases h1 : a1r (b5h (c1Z c w E i)).2 < 261692
    ·have h2 : ¬ a1r (c42 c L i) < 261888 := fun h2 => hlt ⟨h1, h2⟩
     rw [if_neg (by omega), e6, Option.bind_some, if_pos (by omega)]
    ·rw [if_pos (by omega)])
  (fun kn => by
   unfold k0
   dsimp only
   rw [if_neg (by omega), P6 hH]
   rfl) 6 0 10 (by omega) (by omega)
 rw [D9] at h
 exact ⟨fun hh => h.1 fun r _ hr6 => hh r hr6, fun hh => h.2 fun hh' => hh fun r hr6 => hh' r (Nat.zero_le _) hr6⟩
end Go.Ax.TryP
set_option linter.unusedVariables false
namespace Go.Ax.TryP
open Go.Proofs
theorem d82 (w : List Int) : E5 (6 * 256) (hiD w) := a4f (f := fun r => (b5h (chD w r)).1) (fun r => d1M _) 6
theorem d52 {a : List Int} {i : Nat} (hi : i < 256) : (b5h a).1.getD i 0 = fDh (a.getD i 0) := by
 unfold b5h
 dsimp only
 exact i9 hi
theorem d7M (w : List Int) {r : Nat} (hr : r < 6) : inW 4 (B8 (chD (hiD w) r)) := by
 intro i hi
 have e : chD (hiD w) r = (b5h (chD w r)).1 := a9g (f := fun r => (b5h (chD w r)).1) (fun j _ => (d1M _).1) hr
 rw [e, b2w hi, d52 hi]
 have := d1N ((chD w r).getD i 0)
 have h4 : (2 : Int) ^ 4 = 16 := by decide
 omega
theorem c0b (c w e l : List Int) : (hrow c w e l).length = 6 * 256 := a0i fun i _ => c36 c w e l i
theorem d2I {p : Int → Prop} {f : Nat → List Int} (h : ∀ i, ∀ z ∈ f i, p z) : ∀ n, ∀ z ∈ N2 f n, p z
 | 0, z, hz => by simp [N2] at hz
 | n + 1, z, hz => by
  rcases List.mem_append.1 hz with hz | hz
  ·exact d2I h n z hz
  ·exact h n z hz
theorem d58 (c w e l : List Int) : ∀ z ∈ hrow c w e l, z = 0 ∨ z = 1 := d2I (f := fun r => (htD c w e l r).1) (fun i => (d57 _ _).2) 6
theorem d3u (c w e l : List Int) : a05 (hrow c w e l, 55, ()) = some (b40 (hrow c w e l) 55) :=
 d8 (ks := H5) (rs := H6) (x := (hrow c w e l, 55, ())) ⟨⟨⟨6, c0b c w e l, mB (by omega)⟩, d58 c w e l⟩, u2.2 (show -9223372036854775808 ≤ (55 : Int) ∧ (55 : Int) ≤ 9223372036854775807 by omega), trivial⟩ trivial
theorem c4r {c w e l : List Int} (h : c4X (htD c w e l) 6 ≤ 55) : (b40 (hrow c w e l) 55).2 = 0 ∧ (b40 (hrow c w e l) 55).1.length = 61 := by
 have ha := d1r c w e l
 have hl := c0b c w e l
 have h6 : (hrow c w e l).length / 256 = 6 := by rw [hl]
 have hle : ((a7A (hrow c w e l) 6).length : Int) ≤ 55 := by show ((a7A (N2 (fun r => (htD c w e l r).1) 6) 6).length : Int) ≤ 55; omega
 unfold b40
 rw [h6, if_neg (by omega), if_neg (by omega)]
 refine ⟨rfl, ?_⟩
 dsimp only
 rw [List.length_append, List.length_append, List.length_replicate, List.length_map, List.length_range]
 omega
theorem d24 {x : Sec} {m mu rho2 : List Int} {k : Nat} : d4z x m mu rho2 k = d8L x (ctD m mu rho2 k) (a47 49 (ctD m mu rho2 k)) (N2 (yD rho2 k) 5) (wD m rho2 k) := rfl
theorem b9T : ∀ x r, X7 x = some r → ∃ N, Y8 N x = some (xr r) := by
 refine b5j (ks := L6) (rs := L7) fun x hw hq => ⟨10, ?_⟩
 obtain ⟨⟨(rho : List Int), (kk : List Int), (tr : List Int), (S : List Int), (E : List Int), (L : List Int), u0⟩, (m : List Int), (mu : List Int), (rho2 : List Int), (k : Int), u⟩ := x
 have hS : E5 (5 * 256) S := v8.1 hw.1.2.2.2.1
 have hE : E5 (6 * 256) E := v8.1 hw.1.2.2.2.2.1
 have hL : E5 (6 * 256) L := v8.1 hw.1.2.2.2.2.2.1
 have hm : E5 (30 * 256) m := v8.1 hw.2.1
 have hmu : mu.length ≤ maxLen ∧ bytes mu := M8.1 hw.2.2.1
 have hr2 : rho2.length ≤ maxLen ∧ bytes rho2 := M8.1 hw.2.2.2.1
 have hml : mu.length ≤ 1000 := hq.1
 have hrl : rho2.length = 64 := hq.2.1
 have hk : 0 ≤ k ∧ k ≤ 10000 := hq.2.2
 obtain ⟨k, rfl⟩ : ∃ n : Nat, k = n := ⟨k.toNat, by omega⟩
 show Y8 10 ((rho, kk, tr, S, E, L, u0), m, mu, rho2, (k : Int), u) = some (xr (d4z (rho, kk, tr, S, E, L, u0) m mu rho2 ((k : Int)).toNat))
 rw [Int.toNat_natCast, d24]
 have hZ5 : (List.replicate 1280 (0 : Int)).length = 5 * 256 := by rw [List.length_replicate]
 have hZ6 : (List.replicate 1536 (0 : Int)).length = 6 * 256 := by rw [List.length_replicate]
 unfold Y8
 dsimp only
 generalize List.replicate 1280 (0 : Int) = Z5 at hZ5 ⊢
 generalize List.replicate 1536 (0 : Int) = Z6 at hZ6 ⊢
 have hy : E5 (5 * 256) (N2 (yD rho2 k) 5) := a4f (d9B rho2 k) 5
 have hwi : E5 (6 * 256) (wD m rho2 k) := c9D _ _
 refine (d9P (k := k) (by omega) ⟨hrl, hr2.2⟩ hZ5 _).trans ?_
 dsimp only
 rw [c5i hm hy, Option.bind_some, show b0t m (N2 (yD rho2 k) 5) = wD m rho2 k from rfl]
 refine (d9O hwi hZ6 _).trans ?_
 dsimp only
 rw [d1b ⟨hml, hmu.2⟩ (d82 _) (fun r hr => d7M _ hr), Option.bind_some, show c2l mu (hiD (wD m rho2 k)) = ctD m mu rho2 k from rfl]
 have hct : (ctD m mu rho2 k).length = 48 ∧ bytes (ctD m mu rho2 k) := ⟨c0z _ _, c69 _ _⟩
 generalize wD m rho2 k = w at hwi ⊢
 generalize ctD m mu rho2 k = ct at hct ⊢
 generalize N2 (yD rho2 k) 5 = y at hy ⊢
 rw [c8s ⟨by omega, hct.2⟩, Option.bind_some]
 have hci := d1h ct
 generalize a47 49 ct = b at hci ⊢
 obtain ⟨c, e⟩ := b
 have hci : E5 256 c := hci
 unfold d8L
 dsimp only
 by_cases hb : e = 0
 ·rw [if_neg (by rw [hb]; simp), c8w ⟨by omega, hct.2⟩, Option.bind_some, hct.1, decide_eq_false (by rw [hb]; simp)]
  by_cases c1 : ∀ i, i < 5 → a1r (zD c S y i) < 524092
  ·refine ((d9z hct.1 hci hS hy hZ5 _).1 c1).trans ?_
   dsimp only
   rw [if_pos (by decide), if_pos rfl, if_pos (by decide)]
   by_cases c2 : ∀ i, i < 6 → d2t c w E L i
   ·refine ((d9y hci hE hL hwi hZ6 _).1 c2).trans ?_
    dsimp only
    by_cases c3 : c4X (htD c w E L) 6 ≤ 55
    ·obtain ⟨h1, h2⟩ := c4r c3
     rw [if_neg (by omega), show N2 (fun r => (htD c w E L r).1) 6 = hrow c w E L from rfl, d3u, Option.bind_some, if_neg (by rw [h1]; simp), h2, if_pos (by omega), a3U (p := c2q c S E L y w) ⟨c1, c2, c3⟩]
     rfl
    ·rw [if_pos (by omega), a2q (p := c2q c S E L y w) (fun h => c3 h.2.2)]
     rfl
   ·refine ((d9y hci hE hL hwi hZ6 _).2 c2).trans ?_
    rw [a2q (p := c2q c S E L y w) (fun h => c2 h.2.1)]
    rfl
  ·refine ((d9z hct.1 hci hS hy hZ5 _).2 c1).trans ?_
   rw [a2q (p := c2q c S E L y w) (fun h => c1 h.1)]
   rfl
 ·rw [if_pos hb, decide_eq_true hb]
  rfl
theorem d7l {x : Sec} {m mu rho2 : List Int} {k : Nat} (hx : c4Y [.fs (.int .u8), .fs (.int .u8), .fs (.int .u8), .xs (.int .i32) 1280, .xs (.int .i32) 1536, .xs (.int .i32) 1536] x) (hm : E5 (30 * 256) m) (hmu : mu.length ≤ 1000 ∧ bytes mu) (hr : rho2.length = 64 ∧ bytes rho2) (hk : k ≤ 10000) :
  X7 (x, m, mu, rho2, (k : Int), ()) = some (d4z x m mu rho2 k) :=
 b5i (ks := L6) (rs := L7) (x := (x, m, mu, rho2, (k : Int), ())) (Q := fun x => x.2.2.1.length ≤ 1000 ∧ x.2.2.2.1.length = 64 ∧ 0 ≤ x.2.2.2.2.1 ∧ x.2.2.2.2.1 ≤ 10000) (f := fun x => d4z x.1 x.2.1 x.2.2.1 x.2.2.2.1 x.2.2.2.2.1.toNat)
  ⟨hx, v8.2 hm, M8.2 ⟨mB (Nat.le_trans hmu.1 (by decide)), hmu.2⟩, M8.2 ⟨mB (by rw [hr.1]; decide), hr.2⟩, d0V ⟨by show 0 ≤ (k : Int); omega, by show (k : Int) ≤ 1000000; omega⟩, trivial⟩ ⟨hmu.1, hr.1, by show 0 ≤ (k : Int); omega, by show (k : Int) ≤ 10000; omega⟩
end Go.Ax.TryP
set_option linter.unusedVariables false
namespace Go.Ax.TryP
open Go.Proofs
theorem c3D {n : Nat} {a : List Int} : Kd.wf (.xs (.int .u8) n) a ↔ a.length = n ∧ bytes a := by simp [Kd.wf, bytes, U8]
abbrev SgO : Type := (Int × List Int × Unit) ⊕ ((Nat × List Int × Nat × List Int × Unit) ⊕ (List Int × Unit))
def d8d (t : Nat → Bool × Int × (List Int × Bool)) (k : Nat) : Nat → SgO
 | 0 => .inr (.inr ([0], ()))
 | n + 1 => if (t k).1 = true then .inl ((t k).2.1, [0], ()) else if ¬ (t k).2.2.2 = true then d8d t (k + 1) n else .inr (.inl ((t k).2.2.1.length, List.set [0] 0 0, (t k).2.2.1.length, (t k).2.2.1, ()))
def sgK : SgO → Option (List Int × Int)
 | .inl y6 => some ([], List.getD (List.set y6.2.1 0 y6.1) 0 0)
 | .inr (.inl y7) => some (y7.2.2.2.1, List.getD y7.2.1 0 0)
 | .inr (.inr y8) => some ([], List.getD (List.set y8.1 0 (162 : Int)) 0 0)
theorem c9v (t : Nat → Bool × Int × (List Int × Bool)) : ∀ n k, sgK (d8d t k n) = some (d4o t k n)
 | 0, k => rfl
 | n + 1, k => by
  unfold d8d d4o
  by_cases h : (t k).1 = true
  ·rw [if_pos h, if_pos h]; rfl
  ·rw [if_neg h, if_neg h]
   by_cases h2 : (t k).2.2.2 = true
   ·rw [if_neg (fun hh => hh h2), if_pos h2]; rfl
   ·rw [if_pos h2, if_neg h2]; exact c9v t n (k + 1)
theorem d5h {x : Sec} {m mu rho2 : List Int} (hx : c4Y [.fs (.int .u8), .fs (.int .u8), .fs (.int .u8), .xs (.int .i32) 1280, .xs (.int .i32) 1536, .xs (.int .i32) 1536] x) (hm : E5 (30 * 256) m) (hmu : mu.length ≤ 1000 ∧ bytes mu) (hr : rho2.length = 64 ∧ bytes rho2) {N L1 L2 : Nat} {β : Type} (K : SgO → Option β) :
  ∀ n k j : Nat, k + n ≤ 10000 → n < j → m7 (Y7 N) j (((k + n : Nat) : Int), L1, L2, (k : Int), [0], x.1, x.2.1, x.2.2.1, x.2.2.2.1, x.2.2.2.2.1, x.2.2.2.2.2.1, L1, mu, L2, rho2, m, ()) K = K (d8d (d4z x m mu rho2) k n)
 | 0, k, j + 1, h1, h2 => by
  rw [c4a]
  unfold Y7
  dsimp only
  rw [if_neg (by omega)]
  rfl
 | n + 1, k, j + 1, h1, h2 => by
  rw [c4a]
  unfold Y7
  dsimp only
  rw [if_pos (by omega)]
  have e := d7l (x := x) hx hm hmu hr (k := k) (by omega)
  have e : X7 ((x.1, x.2.1, x.2.2.1, x.2.2.2.1, x.2.2.2.2.1, x.2.2.2.2.2.1, ()), m, mu, rho2, (k : Int), ()) = some (d4z x m mu rho2 k) := e
  rw [e, Option.bind_some]
  unfold d8d
  generalize hT : d4z x m mu rho2 = T
  by_cases h : (T k).1 = true
  ·rw [if_pos h, if_pos h]
  ·rw [if_neg h, if_neg h]
   by_cases h3 : (T k).2.2.2 = true
   ·rw [if_neg (fun hh => hh h3), if_neg (fun hh => hh h3)]
   ·rw [if_pos h3, if_pos h3, c7 (by omega) (by omega), ← hT]
    have ih := d5h hx hm hmu hr (N := N) (L1 := L1) (L2 := L2) K n (k + 1) j (by omega) (by omega)
    rw [show k + 1 + n = k + (n + 1) by omega] at ih
    exact ih
theorem d6F {sk : List Int} (hl : sk.length = 4032) (hb : bytes sk) : c4Y [.fs (.int .u8), .fs (.int .u8), .fs (.int .u8), .xs (.int .i32) 1280, .xs (.int .i32) 1536, .xs (.int .i32) 1536] (d0Y sk) := by
 have hS := a4f (f := skP sk) (fun i => c3C (by omega) (by omega) _) 5
 have hE := a4f (f := fun i => skP sk (5 + i)) (fun i => c3C (by omega) (by omega) _) 6
 have hL := a4f (f := skL sk) (fun i => c3C (by omega) (by omega) _) 6
 have hc : ∀ a n, a + n ≤ 4032 → (T6 sk a n).length ≤ maxLen ∧ bytes (T6 sk a n) := fun a n h => ⟨mB (by rw [Q8 (by omega)]; omega), D3 hb _ _⟩
 exact ⟨M8.2 (hc 0 32 (by omega)), M8.2 (hc 32 32 (by omega)), M8.2 (hc 64 64 (by omega)), v8.2 hS, v8.2 hE, v8.2 hL, trivial⟩
theorem d0v : ∀ x r, b2y x = some r → ∃ N, a8N N x = some r := by
 refine d9 (ks := a3l) (rs := a3m) fun x hw hq => ⟨20000, ?_⟩
 obtain ⟨(sk : List Int), (msg : List Int), (ctx : List Int), (rnd : List Int), (most : Int), u⟩ := x
 have hsk : sk.length ≤ maxLen ∧ bytes sk := M8.1 hw.1
 have hmsg : msg.length ≤ maxLen ∧ bytes msg := M8.1 hw.2.1
 have hctx : ctx.length ≤ maxLen ∧ bytes ctx := M8.1 hw.2.2.1
 have hrnd : rnd.length = 32 ∧ bytes rnd := c3D.1 hw.2.2.2.1
 have hmost : most ≤ 10000 := hq
 show a8N 20000 (sk, msg, ctx, rnd, most, u) = some (c4E sk msg ctx rnd most)
 generalize hN : 20000 = N
 unfold a8N c4E
 dsimp only
 rw [d5F hsk, Option.bind_some]
 by_cases hok : d3g sk
 ·have hl := hok.1
  rw [d8p (fun h => h hok), if_neg (by simp), a2q (fun h => h hok)]
  by_cases h1 : 255 < ctx.length
  ·rw [if_pos (by omega), if_pos h1]; rfl
  ·rw [if_neg (by omega), if_neg h1]
   by_cases h2 : most < 1
   ·rw [if_pos h2, if_pos h2]; rfl
   ·rw [if_neg h2, if_neg h2]
    have htr : (T6 sk 64 64).length ≤ maxLen ∧ bytes (T6 sk 64 64) := ⟨mB (by rw [Q8 (by omega)]; omega), D3 hsk.2 _ _⟩
    have hk : (T6 sk 32 32).length = 32 ∧ bytes (T6 sk 32 32) := ⟨Q8 (by omega), D3 hsk.2 _ _⟩
    have hrho : (T6 sk 0 32).length = 32 ∧ bytes (T6 sk 0 32) := ⟨Q8 (by omega), D3 hsk.2 _ _⟩
    have hmu : (muS sk msg ctx).length = 64 ∧ bytes (muS sk msg ctx) := ⟨a1i _ _, a7x _ _⟩
    have e1 : a2s ((d0Y sk).2.2.1, msg, ctx, ()) = some (muS sk msg ctx) := c8y htr hmsg hctx
    have e2 : N7 ((d0Y sk).1, ()) = some (b1a (T6 sk 0 32), 130, (c08 (T6 sk 0 32), ())) := c0t hrho
    have e3 : J2 ((64 : Int), [(d0Y sk).2.1, List.take 32 (List.drop 0 rnd), muS sk msg ctx], ()) = some (d3j sk rnd (muS sk msg ctx)) := by
     have e := b7d (n := 64) (l := [T6 sk 32 32, rnd, muS sk msg ctx]) (by omega) ⟨mB (by simp), fun zs hzs => by
      rcases List.mem_cons.1 hzs with rfl | hzs
      ·exact ⟨mB (by omega), hk.2⟩
      rcases List.mem_cons.1 hzs with rfl | hzs
      ·exact ⟨mB (by omega), hrnd.2⟩
      ·rw [List.mem_singleton.1 hzs]; exact ⟨mB (by omega), hmu.2⟩⟩
     rw [List.drop_zero, List.take_of_length_le (by omega)]
     refine e.trans ?_
     unfold d3j
     simp
    have hr2 : (d3j sk rnd (muS sk msg ctx)).length = 64 ∧ bytes (d3j sk rnd (muS sk msg ctx)) := ⟨a1i _ _, a7x _ _⟩
    rw [e1, Option.bind_some, e3, Option.bind_some, e2, Option.bind_some]
    by_cases hM : a4N (T6 sk 0 32)
    ·rw [b5o hM, if_neg (by simp), a2q (fun h => h hM)]
     have hx := d6F hl hsk.2
     unfold d8r
     have hmi := d2f (T6 sk 0 32)
     generalize c08 (T6 sk 0 32) = m at hmi ⊢
     generalize d0Y sk = X at hx ⊢
     generalize d3j sk rnd (muS sk msg ctx) = rho2 at hr2 ⊢
     generalize muS sk msg ctx = mu at hmu ⊢
     obtain ⟨k, rfl⟩ : ∃ n : Nat, most = n := ⟨most.toNat, by omega⟩
     have h := d5h (N := N) (L1 := mu.length) (L2 := rho2.length) hx hmi ⟨by omega, hmu.2⟩ hr2 sgK k 0 N (by omega) (by omega)
     rw [c9v, Nat.zero_add] at h
     rw [Int.toNat_natCast]
     refine Eq.trans ?_ h
     refine congrArg _ (funext fun y => ?_)
     rcases y with y | y | y <;> rfl
    ·rw [b2r hM, if_pos rfl, a3U hM]; rfl
 ·rw [c9C hok, if_pos rfl, a3U hok]; rfl
theorem d5A {sk msg ctx rnd : List Int} {most : Int} (h1 : sk.length ≤ maxLen ∧ bytes sk) (h2 : msg.length ≤ maxLen ∧ bytes msg) (h3 : ctx.length ≤ maxLen ∧ bytes ctx) (h4 : rnd.length = 32 ∧ bytes rnd) (h5 : 0 ≤ most ∧ most ≤ 10000) : b2y (sk, msg, ctx, rnd, most, ()) = some (c4E sk msg ctx rnd most) :=
 d8 (ks := a3l) (rs := a3m) (x := (sk, msg, ctx, rnd, most, ())) ⟨M8.2 h1, M8.2 h2, M8.2 h3, c3D.2 h4, u2.2 (show -9223372036854775808 ≤ most ∧ most ≤ 9223372036854775807 by omega), trivial⟩ h5.2
end Go.Ax.TryP
set_option linter.unusedVariables false
namespace Go.Ax.TryP
open Go.Proofs
theorem d8N (sig : List Int) (i : Nat) : E5 256 (zV sig i) := c3C (by omega) (by omega) _
theorem d9A {sig : List Int} (hl : sig.length = 3309) (hb : bytes sig) {L1 L2 : Nat} {mu Z pk : List Int} (hZ : Z.length = 5 * 256) {β : Type} (K : _ → Option β) :
  (d7a sig → m7 (u7 300) 300 (L1, 3309, (0 : Int), [0], L2, 48, 3261, 3261, L1, mu, 3309, sig, Z, L2, pk, ()) K = K (.inr (.inr (L1, 3309, [0], L2, 3248, 61, 61, L1, mu, 3309, sig, N2 (zV sig) 5, L2, pk, ())))) ∧
  (¬ d7a sig → m7 (u7 300) 300 (L1, 3309, (0 : Int), [0], L2, 48, 3261, 3261, L1, mu, 3309, sig, Z, L2, pk, ()) K = K (.inr (.inl (List.set [0] 0 (70 : Int), ())))) := by
 have h := c03 (F := u7 300) (K := K) (fun i => (L1, 3309, (i : Int), [0], L2, 48 + 640 * i, 3261 - 640 * i, 3261 - 640 * i, L1, mu, 3309, sig, a1g (zV sig) Z i, L2, pk, ())) (fun i => a1r (zV sig i) < 524092) (.inr (.inl (List.set [0] 0 (70 : Int), ()))) (.inr (.inr (L1, 3309, [0], L2, 3248, 61, 61, L1, mu, 3309, sig, N2 (zV sig) 5, L2, pk, ()))) 5
  (fun i hi kn => by
   have e1 : j4 ((524288 : Int), (20 : Int), List.take 640 (List.drop (48 + 640 * i) sig), ()) = some (zV sig i, 0) :=
    a5y (n := 20) (t := 524288) (b := T6 sig (48 + 640 * i) 640) (by omega) ⟨by omega, by omega, by rw [Q8 (by omega)]⟩ (D3 hb _ _)
   have e3 := c0p (d8N sig i)
   have hs := P7 (f := zV sig) hZ (fun j _ => (d8N sig j).1) hi
   have hg := c3m (f := zV sig) (z := Z) (n := 5) (fun j _ => (d8N sig j).1) hi
   constructor
   ·intro hlt
    unfold u7
    dsimp only
    rw [if_pos (by omega), if_pos (by omega), if_pos (by omega), if_pos (by omega), if_pos (by omega), a2p, Nat.add_zero, e1, Option.bind_some, if_neg (by simp), if_pos (by omega), if_pos (by omega), if_pos (by omega), if_pos (by omega), if_pos (by omega), if_pos (by omega), Int.toNat_natCast, hs, hg, e3, Option.bind_some, if_neg (by omega), a2p, c7 (by omega) (by omega), show 48 + 640 * i + 640 = 48 + 640 * (i + 1) by omega, show 3261 - 640 * i - 640 = 3261 - 640 * (i + 1) by omega, show (i : Int) + 1 = ((i + 1 : Nat) : Int) by omega]
   ·intro hlt
    unfold u7
    dsimp only
    rw [if_pos (by omega), if_pos (by omega), if_pos (by omega), if_pos (by omega), if_pos (by omega), a2p, Nat.add_zero, e1, Option.bind_some, if_neg (by simp), if_pos (by omega), if_pos (by omega), if_pos (by omega), if_pos (by omega), if_pos (by omega), if_pos (by omega), Int.toNat_natCast, hs, hg, e3, Option.bind_some, if_pos (by omega)])
  (fun kn => by
   unfold u7
   dsimp only
   rw [if_neg (by omega), P6 hZ]) 5 0 300 (by omega) (by omega)
 rw [D9] at h
 exact ⟨fun hh => h.1 fun r _ hr6 => hh r hr6, fun hh => h.2 fun hh' => hh fun r hr6 => hh' r (Nat.zero_le _) hr6⟩
theorem d9R {A : List Int} (hA : A.length = 256) (hb : ∀ z ∈ A, 0 ≤ z ∧ z < 1024) {a1 a2 a3 : Nat} {i1 i2 : Int} {l1 : List Int} {a4 a5 a6 a7 : Nat} {l2 : List Int} {a8 : Nat} {l3 : List Int} {a9 : Nat} {l4 l5 l6 l7 : List Int} {a10 : Nat} {l8 : List Int} {β : Type} (K : _ → Option β) :
  m7 (G7 300) 300 (a1, a2, a3, i1, i2, (0 : Int), l1, a4, a5, a6, a7, l2, a8, l3, a9, l4, l5, l6, l7, A, a10, l8, ()) K = K (a1, a2, a3, i1, i2, l1, a4, a5, a6, a7, l2, a8, l3, a9, l4, l5, l6, l7, (List.range 256).map (fun i => A.getD i 0 * 8192), a10, l8, ()) := by
 refine i8 (F := G7 300) (s := fun i => (a1, a2, a3, i1, i2, (i : Int), l1, a4, a5, a6, a7, l2, a8, l3, a9, l4, l5, l6, l7, part (fun i => A.getD i 0 * 8192) i A, a10, l8, ())) (y := (a1, a2, a3, i1, i2, l1, a4, a5, a6, a7, l2, a8, l3, a9, l4, l5, l6, l7, (List.range 256).map (fun i => A.getD i 0 * 8192), a10, l8, ())) 256 (by rw [b6H]; rfl) ?_ ?_ 300 (by omega)
 ·intro i hi kn
  have hv : 0 ≤ A.getD i 0 ∧ A.getD i 0 < 1024 := hb _ (a5D (by omega))
  obtain ⟨m, hm⟩ : ∃ m : Nat, A.getD i 0 = m := ⟨(A.getD i 0).toNat, by omega⟩
  have e : b0A .i32 ((part (fun i => A.getD i 0 * 8192) i A).getD i 0) (13 : Int) = A.getD i 0 * 8192 := by
   rw [b6G (Nat.le_refl i), hm]
   refine (b5A (m := m) (s := 13) (by decide) (by omega)).trans ?_
   omega
  unfold G7
  dsimp only
  rw [if_pos (by omega), if_pos (by omega), if_pos (by omega), if_pos (by omega), if_pos (by omega), if_pos (by omega), if_pos (by omega), Int.toNat_natCast, e, u3 (h := fun i => A.getD i 0 * 8192) (by omega) rfl, c7 (by omega) (by omega)]
  rfl
 ·intro kn
  unfold G7
  dsimp only
  rw [if_neg (by omega), B7 hA]
theorem d8t (b : List Int) : ∀ z ∈ c9H 10 b, 0 ≤ z ∧ z < 1024 := by
 intro z hz
 obtain ⟨i, _, rfl⟩ := List.mem_map.1 hz
 have h := c3A (n := 10) (c := fun k => b7f b (i * 10 + k)) fun s _ => c3K b _
 have e : (2 : Int) ^ 10 = 1024 := by decide
 omega
theorem d9N (pk : List Int) (r : Nat) : E5 256 (tV pk r) := by
 refine rows.range fun i hi => ?_
 have := d8t (T6 pk (32 + 320 * r) 320) _ (a5D (i := i) (by unfold c9H; rw [a1y]; exact hi))
 omega
theorem d7D (h r : List Int) : E5 256 (d53 h r) := rows.range fun i _ => by
 have := d1N (r.getD i 0)
 unfold b61
 split
 ·split <;> omega
 ·omega
theorem d54 (h r : List Int) : inW 4 (B8 (d53 h r)) := by
 intro i hi
 rw [b2w hi, show (d53 h r).getD i 0 = b61 (h.getD i 0) (r.getD i 0) from i9 hi]
 have := d1N (r.getD i 0)
 have h4 : (2 : Int) ^ 4 = 16 := by decide
 unfold b61
 split
 ·split <;> omega
 ·omega
theorem d6Y (pk h c m z : List Int) (r : Nat) : E5 256 (upV pk h c m z r) := d7D _ _
theorem d9Q {pk : List Int} (hl : pk.length = 1952) (hb : bytes pk) {H c m z High : List Int} (hc : E5 256 c) (hH : H.length = 6 * 256) (hH1 : ∀ x ∈ H, x = 0 ∨ x = 1) (hHi : High.length = 6 * 256) {L1 L3 : Nat} {mu sig : List Int} {β : Type} (K : _ → Option β) :
  m7 (G6 300) 300 (L1, L3, 6, (0 : Int), [0], 32, 1920, 1920, L1, mu, L3, sig, 6 * 256, H, a04 c, a92 m z, High, 1952, pk, ()) K = K (.inr (L1, L3, [0], L1, mu, L3, sig, N2 (upV pk H c m z) 6, ())) := by
 refine i8 (F := G6 300) (s := fun i => (L1, L3, 6, (i : Int), [0], 32 + 320 * i, 1920 - 320 * i, 1920 - 320 * i, L1, mu, L3, sig, 6 * 256, H, a04 c, a92 m z, a1g (upV pk H c m z) High i, 1952, pk, ())) (y := .inr (L1, L3, [0], L1, mu, L3, sig, N2 (upV pk H c m z) 6, ())) 6 (by rw [D9]; rfl) ?_ ?_ 300 (by omega)
 ·intro i hi kn
  have e1 : Z8 ((10 : Int), List.take 320 (List.drop (32 + 320 * i) pk), ()) = some (c9H 10 (T6 pk (32 + 320 * i) 320), 0) :=
   c5g (n := 10) (b := T6 pk (32 + 320 * i) 320) ⟨by omega, by omega, by rw [Q8 (by omega)]⟩ (D3 hb _ _)
  have hR : ∀ j, j < 6 → (b66 m z j 5).length = 256 := fun j _ => (a5R m z j 5).1
  have e2 : List.take 256 (List.drop (i * 256) (a92 m z)) = b66 m z i 5 := a9g (f := fun r => b66 m z r 5) hR hi
  have e3 := c0m (d9N pk i)
  have e4 := c0o (c3Z c) (c3Z (tV pk i))
  have e5 := d09 (a5R m z i 5) (c3d (a04 c) (a04 (tV pk i)))
  have e6 := c6Y (c0R (b66 m z i 5) (a6b (a04 c) (a04 (tV pk i))))
  have hh : (chD H i).length = 256 ∧ ∀ x ∈ chD H i, x = 0 ∨ x = 1 := ⟨c3O hH hi, fun x hx => hH1 x (List.mem_of_mem_drop (List.mem_of_mem_take hx))⟩
  have e7 : a0w (List.take 256 (List.drop (i * 256) H), b36 (b5x (b66 m z i 5) (a6b (a04 c) (a04 (tV pk i)))), ()) = some (upV pk H c m z i) := d7j hh (c3Y _)
  have hs := P7 (f := upV pk H c m z) hHi (fun j _ => (d6Y pk H c m z j).1) hi
  have e8 : (List.range 256).map (fun j => (c9H 10 (T6 pk (32 + 320 * i) 320)).getD j 0 * 8192) = tV pk i := rfl
  unfold G6
  dsimp only
  rw [if_pos (by omega), if_pos (by omega), if_pos (by omega), if_pos (by omega), if_pos (by omega), a2p, Nat.add_zero, e1, Option.bind_some, if_neg (by simp), a2p]
  refine (d9R (by unfold c9H; rw [a1y]) (d8t _) _).trans ?_
  dsimp only
  rw [e8, if_pos (by omega), if_pos (by omega), if_pos (by omega), e3, Option.bind_some, e4, Option.bind_some, Int.toNat_natCast, e2, e5, Option.bind_some, e6, Option.bind_some, if_pos (by omega), if_pos (by omega), if_pos (by omega), e7, Option.bind_some, if_pos (by omega), if_pos (by omega), if_pos (by omega), hs, c7 (by omega) (by omega), show 32 + 320 * i + 320 = 32 + 320 * (i + 1) by omega, show 1920 - 320 * i - 320 = 1920 - 320 * (i + 1) by omega, show (i : Int) + 1 = ((i + 1 : Nat) : Int) by omega]
 ·intro kn
  unfold G6
  dsimp only
  rw [if_neg (by omega), P6 hHi]
end Go.Ax.TryP
set_option linter.unusedVariables false
namespace Go.Ax.TryP
open Go.Proofs
theorem c9N {b : List Int} (hb : b.length ≤ maxLen ∧ bytes b) : J8 (6, 55, b, ()) = some (a8b 6 55 b) :=
 d8 (ks := C6) (rs := C7) (x := (6, 55, b, ())) ⟨d0V (d := 6) (by omega), d0V (d := 55) (by omega), M8.2 hb, trivial⟩ trivial
theorem d0T {b : List Int} (h : (a8b 6 55 b).2 = 0) : (a8b 6 55 b).1.length = 6 * 256 ∧ ∀ x ∈ (a8b 6 55 b).1, x = 0 ∨ x = 1 := by
 unfold a8b at h ⊢
 split at h
 ·cases h
 ·rename_i h1
  rw [if_neg h1]
  split at h
  ·rename_i h2
   rw [if_pos h2]
   refine ⟨?_, fun x hx => ?_⟩
   ·show (b39 b _ _ _).length = _
    rw [c5K, List.length_replicate]
    rfl
   ·obtain ⟨i, hi, rfl⟩ := List.mem_iff_getElem.1 hx
    have hx : (b39 b (55 : Int).toNat (List.replicate ((6 : Int).toNat * 256) 0) (6 : Int).toNat).getD i 0 = 0 ∨ (b39 b (55 : Int).toNat (List.replicate ((6 : Int).toNat * 256) 0) (6 : Int).toNat).getD i 0 = 1 := c81 (fun j => .inl (by
     by_cases hj : j < (6 : Int).toNat * 256
     ·rw [List.getD_eq_getElem?_getD, List.getElem?_replicate, if_pos hj]; rfl
     ·rw [List.getD_eq_getElem?_getD, List.getElem?_replicate, if_neg hj]; rfl)) _ i
    rw [List.getD_eq_getElem?_getD, List.getElem?_eq_getElem hi, Option.getD_some] at hx
    exact hx
  ·cases h
theorem c6l : ∀ x r, a0x x = some r → ∃ N, a4W N x = some r := by
 refine d9 (ks := a0P) (rs := a6o) fun x hw hq => ⟨300, ?_⟩
 obtain ⟨(pk : List Int), (msg : List Int), (ctx : List Int), (sig : List Int), u⟩ := x
 have hpk : pk.length ≤ maxLen ∧ bytes pk := M8.1 hw.1
 have hmsg : msg.length ≤ maxLen ∧ bytes msg := M8.1 hw.2.1
 have hctx : ctx.length ≤ maxLen ∧ bytes ctx := M8.1 hw.2.2.1
 have hsig : sig.length ≤ maxLen ∧ bytes sig := M8.1 hw.2.2.2.1
 show a4W 300 (pk, msg, ctx, sig, u) = some (d5n pk msg ctx sig)
 unfold a4W d5n
 dsimp only
 have hZ5 : (List.replicate 1280 (0 : Int)).length = 5 * 256 := by rw [List.length_replicate]
 have hZ6 : (List.replicate 1536 (0 : Int)).length = 6 * 256 := by rw [List.length_replicate]
 generalize List.replicate 1280 (0 : Int) = Z5 at hZ5 ⊢
 generalize List.replicate 1536 (0 : Int) = Z6 at hZ6 ⊢
 by_cases h1 : pk.length = 1952
 ·rw [if_neg (c := pk.length ≠ 1952) (fun h => h h1), if_neg (by omega)]
  by_cases h2 : 255 < ctx.length
  ·rw [if_pos (c := 255 < ctx.length) h2, if_pos (by omega)]; rfl
  ·rw [if_neg (c := 255 < ctx.length) h2, if_neg (by omega)]
   by_cases h3 : sig.length = 3309
   ·rw [if_neg (c := sig.length ≠ 3309) (fun h => h h3), if_neg (by omega)]
    have e1 : J2 ((64 : Int), [pk], ()) = some (a3O pk 64) := by
     have e := b7d (n := 64) (l := [pk]) (by omega) ⟨mB (by simp), fun zs hzs => by rw [List.mem_singleton.1 hzs]; exact hpk⟩
     refine e.trans ?_
     simp
    have e2 : a2s (a3O pk 64, msg, ctx, ()) = some (muV pk msg ctx) := c8y ⟨mB (by rw [a1i]; omega), a7x _ _⟩ hmsg hctx
    have hmu : (muV pk msg ctx).length = 64 ∧ bytes (muV pk msg ctx) := ⟨a1i _ _, a7x _ _⟩
    rw [e1, Option.bind_some, e2, Option.bind_some, if_pos (by omega), if_pos (by omega), if_pos (by omega), if_pos (by omega), h3, show 3309 - 48 = 3261 from rfl]
    unfold chV
    generalize muV pk msg ctx = mu at hmu ⊢
    by_cases h4 : d7a sig
    ·refine ((d9A (L1 := mu.length) (L2 := pk.length) (mu := mu) (pk := pk) h3 hsig.2 hZ5 _).1 h4).trans ?_
     dsimp only
     rw [a2q (fun h => h h4)]
     have e3 : J8 ((6 : Int), (55 : Int), List.take 61 (List.drop 3248 sig), ()) = some (hV sig) := c9N (b := T6 sig 3248 61) ⟨mB (by rw [Q8 (by omega)]; omega), D3 hsig.2 _ _⟩
     rw [e3, Option.bind_some]
     have hok : (hV sig).2 = 0 → (hV sig).1.length = 6 * 256 ∧ ∀ x ∈ (hV sig).1, x = 0 ∨ x = 1 := d0T
     generalize hV sig = hh at hok ⊢
     obtain ⟨H, e⟩ := hh
     dsimp only at hok ⊢
     by_cases h5 : e = 0
     ·rw [if_neg (fun h => h h5), if_neg (fun h => h h5)]
      obtain ⟨hH, hH1⟩ := hok h5
      have hct : (T6 sig 0 48).length = 48 ∧ bytes (T6 sig 0 48) := ⟨Q8 (by omega), D3 hsig.2 _ _⟩
      rw [show List.take 48 (List.drop 0 sig) = T6 sig 0 48 from rfl, show List.take 32 (List.drop 0 pk) = T6 pk 0 32 from rfl]
      generalize hG : T6 sig 0 48 = ct at hct ⊢
      rw [c8s ⟨by omega, hct.2⟩, Option.bind_some]
      have hci := d1h ct
      generalize a47 49 ct = b at hci ⊢
      obtain ⟨c, e2⟩ := b
      have hci : E5 256 c := hci
      dsimp only
      by_cases h6 : e2 = 0
      ·rw [if_neg (fun h => h h6), if_neg (fun h => h h6), c0m hci, Option.bind_some, if_pos (by omega), if_pos (by omega), if_pos (by omega), if_pos (by omega)]
       have hrho : (T6 pk 0 32).length = 32 ∧ bytes (T6 pk 0 32) := ⟨Q8 (by omega), D3 hpk.2 _ _⟩
       rw [c0t hrho, Option.bind_some]
       have hmi := d2f (T6 pk 0 32)
       by_cases h7 : a4N (T6 pk 0 32)
       ·rw [b5o h7, if_neg (by simp), a2q (fun h => h h7)]
        generalize c08 (T6 pk 0 32) = m at hmi ⊢
        have hzi : E5 (5 * 256) (N2 (zV sig) 5) := a4f (d8N sig) 5
        generalize N2 (zV sig) 5 = z at hzi ⊢
        rw [show xg (some (false, (130 : Int), (m, ()))) = some (m, ()) from rfl, Option.bind_some, c5k hmi hzi, Option.bind_some, hH, h1, show 6 * 256 / 256 = 6 from rfl]
        refine (d9Q (L1 := mu.length) (L3 := 3309) (mu := mu) (sig := sig) h1 hpk.2 hci hH hH1 hZ6 _).trans ?_
        dsimp only
        have hup : E5 (6 * 256) (N2 (upV pk H c m z) 6) := a4f (d6Y pk H c m z) 6
        have hin : ∀ r, r < 6 → inW 4 (B8 (chD (N2 (upV pk H c m z) 6) r)) := fun r hr => by
         rw [a9g (f := upV pk H c m z) (fun j _ => (d6Y pk H c m z j).1) hr]
         exact d54 _ _
        generalize N2 (upV pk H c m z) 6 = High at hup hin ⊢
        rw [d1b ⟨by omega, hmu.2⟩ hup hin, Option.bind_some, show List.take 48 (List.drop 0 sig) = ct from hG, d5z ⟨mB (by rw [c0z]; omega), c69 _ _⟩ ⟨mB (by omega), hct.2⟩, Option.bind_some]
        by_cases h8 : c2l mu High = ct
        ·rw [if_neg (by rw [decide_eq_true h8]; simp), if_neg (fun h => h h8)]; rfl
        ·rw [if_pos (by rw [decide_eq_false h8]; simp), if_pos h8]; rfl
       ·rw [b2r h7, if_pos rfl, a3U h7]; rfl
      ·rw [if_pos h6, if_pos h6]; rfl
     ·rw [if_pos h5, if_pos h5]; rfl
    ·refine ((d9A (L1 := mu.length) (L2 := pk.length) (mu := mu) (pk := pk) h3 hsig.2 hZ5 _).2 h4).trans ?_
     rw [a3U h4]; rfl
   ·rw [if_pos (c := sig.length ≠ 3309) h3, if_pos (by omega)]; rfl
 ·rw [if_pos (c := pk.length ≠ 1952) h1, if_pos (by omega)]; rfl
theorem c0s {pk msg ctx sig : List Int} (h1 : pk.length ≤ maxLen ∧ bytes pk) (h2 : msg.length ≤ maxLen ∧ bytes msg) (h3 : ctx.length ≤ maxLen ∧ bytes ctx) (h4 : sig.length ≤ maxLen ∧ bytes sig) : a0x (pk, msg, ctx, sig, ()) = some (d5n pk msg ctx sig) :=
 d8 (ks := a0P) (rs := a6o) (x := (pk, msg, ctx, sig, ())) ⟨M8.2 h1, M8.2 h2, M8.2 h3, M8.2 h4, trivial⟩ trivial
end Go.Ax.TryP
