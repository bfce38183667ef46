/- A part of the proof: Ax21, Ax22, Ax23, Ax24, Ax25, Ax26, Ax27, Ax28, Ax29. -/
import Derived.Test.YtdaompnhkfdlgaaAxC
import Derived.ProofKit
import Derived.OpenShut
set_option linter.unusedSimpArgs false
namespace Go.Ax
open Go.RowKit
inductive PK where
 | int | nat | bool | str | xs | xss
abbrev PK.T : PK → Type
 | .int => Int
 | .nat => Nat
 | .bool => Bool
 | .str => ByteArray
 | .xs => List Int
 | .xss => List (List Int)
inductive PV where
 | int (n : Int)
 | nat (n : Nat)
 | bool (b : Bool)
 | str (s : ByteArray)
 | xs (l : List Int)
 | xss (l : List (List Int))
abbrev Ps : List PK → Type
 | [] => Unit
 | k :: r => k.T × Ps r
def PK.enc : (k : PK) → k.T → PV
 | .int, n => .int n
 | .nat, n => .nat n
 | .bool, n => .bool n
 | .str, n => .str n
 | .xs, n => .xs n
 | .xss, n => .xss n
def PK.dec : (k : PK) → PV → Option k.T
 | .int, .int n => some n
 | .nat, .nat n => some n
 | .bool, .bool n => some n
 | .str, .str n => some n
 | .xs, .xs n => some n
 | .xss, .xss n => some n
 | _, _ => none
def a8E : (ks : List PK) → Ps ks → List PV
 | [], _ => []
 | k :: r, x => k.enc x.1 :: a8E r x.2
def a69 : (ks : List PK) → List PV → Option (Ps ks)
 | [], [] => some ()
 | k :: r, v :: l => match k.dec v, a69 r l with
  | some a, some b => some (a, b)
  | _, _ => none
 | _, _ => none
theorem PK.dec_enc {k : PK} {v : PV} {x : k.T} (h : k.dec v = some x) : v = k.enc x := by
 cases k <;> cases v <;> simp [PK.dec] at h <;> subst h <;> rfl
theorem PK.enc_dec (k : PK) (x : k.T) : k.dec (k.enc x) = some x := by cases k <;> rfl
theorem dec_enc : ∀ {ks : List PK} {l : List PV} {x : Ps ks}, a69 ks l = some x → l = a8E ks x
 | [], [], x, h => rfl
 | [], _ :: _, x, h => by simp [a69] at h
 | _ :: _, [], x, h => by simp [a69] at h
 | k :: r, v :: l, x, h => by
  simp only [a69] at h
  split at h
  ·rename_i a b e1 e2
   cases h
   simp only [a8E]
   rw [PK.dec_enc e1, dec_enc e2]
  ·cases h
theorem enc_dec : ∀ (ks : List PK) (x : Ps ks), a69 ks (a8E ks x) = some x
 | [], _ => rfl
 | k :: r, x => by simp [a8E, a69, PK.enc_dec, enc_dec r x.2]
inductive HA where
 | ub | top | int (k : IntKind) | lit (k : IntKind) (n : Int) | bool | known (b : Bool) | str | nilp | nilsl | nilif
 | ptr (o b : Nat) (i : Bool)
 | vec (o : Nat) (len : Option Nat) (es : Nat)
 | sl (o : Nat) (off len cap : Option Nat) (es : Nat)
 | fn (f : FuncId)
 | clo (f : FuncId) (o b : Nat)
 | ifi (t : TypeId) (k : IntKind)
 | ifg (t : TypeId) (k : IntKind)
 | ifp (t : TypeId) (o b : Nat)
 | ifq (t : TypeId) (o b : Nat) (k : IntKind)
 | fr (k : CK)
 | frs (k : CK)
inductive HS where
 | xs (k : CK) (n : Option Nat)
 | one (a : HA)
 | rw (k : CK)
inductive HV where
 | any
 | sc (a : HA)
 | agg (l : List HS)
inductive HM where
 | free | dead | live (l : List HS) (m : OM)
structure HSt where
 tmps : List HV
 mem : List HM
 dfr : List (FuncId × List HA) := []
def mN : Option Nat → Nat → Option (List PV)
 | none, n => some [.nat n]
 | some m, n => match Nat.beq m n with
  | true => some []
  | false => none
def b9K (a b : Option (List PV)) : Option (List PV) := match a, b with
 | some x, some y => some (x ++ y)
 | _, _ => none
def mA : HA → A1 → Option (List PV)
 | .top, .top => some []
 | .ub, .ub => some []
 | .int k, .int k' n => if k = k' then some [.int n] else none
 | .lit k m, .int k' n => if k = k' then (if m = n then some [] else none) else none
 | .bool, .known b => some [.bool b]
 | .known b, .known b' => match b == b' with
  | true => some []
  | false => none
 | .str, .str s => some [.str s]
 | .nilp, .nilp => some []
 | .nilsl, .nilsl => some []
 | .nilif, .nilif => some []
 | .ptr o b false, .ptr o' b' none => match Nat.beq o o' && Nat.beq b b' with
  | true => some []
  | false => none
 | .ptr o b true, .ptr o' b' (some i) => match Nat.beq o o' && Nat.beq b b' with
  | true => some [.nat i]
  | false => none
 | .vec o n e, .vec o' n' e' => match Nat.beq o o' && Nat.beq e e' with
  | true => mN n n'
  | false => none
 | .sl o f n c e, .sl o' f' n' c' e' => match Nat.beq o o' && Nat.beq e e' with
  | true => b9K (mN f f') (b9K (mN n n') (mN c c'))
  | false => none
 | .fn f, .fn f' => match Nat.beq f f' with
  | true => some []
  | false => none
 | .clo f o b, .clo f' o' b' => match Nat.beq f f' && (Nat.beq o o' && Nat.beq b b') with
  | true => some []
  | false => none
 | .ifi t k, .ifi t' k' n => match Nat.beq t t' with
  | true => if k = k' then some [.int n] else none
  | false => none
 | .ifg t k, .ifg t' k' n => match Nat.beq t t' with
  | true => if k = k' then some [.int n] else none
  | false => none
 | .ifp t o b, .ifp t' o' b' => match Nat.beq t t' && (Nat.beq o o' && Nat.beq b b') with
  | true => some []
  | false => none
 | .ifq t o b k, .ifq t' o' b' k' n => match Nat.beq t t' && (Nat.beq o o' && Nat.beq b b') with
  | true => if k = k' then some [.int n] else none
  | false => none
 | .fr k, .fr (.xs k' zs) => if k = k' then some [.xs zs] else none
 | .frs k, .fr (.xss k' l) => if k = k' then some [.xss l] else none
 | _, _ => none
def mS : HS → Seg → Option (List PV)
 | .xs k n, .xs k' n' zs => if k = k' then b9K (mN n n') (some [.xs zs]) else none
 | .one h, .one a => mA h a
 | .rw k, .rw k' l => if k = k' then some [.xss l] else none
 | _, _ => none
def mL {α β : Type} (m : α → β → Option (List PV)) : List α → List β → Option (List PV)
 | [], [] => some []
 | h :: hs, x :: xs => b9K (m h x) (mL m hs xs)
 | _, _ => none
def mV : HV → TV → Option (List PV)
 | .any, .one .any => some []
 | .sc h, .one (.sc a) => mA h a
 | .agg h, .one (.agg l) => mL mS h l
 | _, _ => none
def mM : HM → Slot → Option (List PV)
 | .free, .free => some []
 | .dead, .dead => some []
 | .live h md, .live b => match decide (md = b.own) with
  | true => mL mS h b.segs
  | false => none
 | _, _ => none
def mD : FuncId × List HA → FuncId × List A1 → Option (List PV)
 | (f, h), (g, a) => match Nat.beq f g with
  | true => mL mA h a
  | false => none
def mSt (h : HSt) (st : St) : Option (List PV) := b9K (mL mV h.tmps st.tmps) (b9K (mL mM h.mem st.mem) (mL mD h.dfr st.dfr))
def b1k {α β : Type} (m : α → β → Option (List PV)) (h : α) : Prop := ∀ x y l l', m h x = some l → m h y = some l' → l.length = l'.length ∧ (l = l' → x = y)
theorem B1 {a b : Option (List PV)} {l : List PV} (h : b9K a b = some l) : ∃ x y, a = some x ∧ b = some y ∧ l = x ++ y := by
 unfold b9K at h
 split at h
 ·cases h; exact ⟨_, _, rfl, rfl, rfl⟩
 ·cases h
theorem a5s (n : Option Nat) : b1k mN n := by
 intro x y l l' h h'
 cases n with
 | none => cases h; cases h'; exact ⟨rfl, fun e => by simpa using e⟩
 | some m =>
  simp only [mN] at h h'
  split at h <;> cases h
  split at h' <;> cases h'
  rename_i e1 _ e2
  exact ⟨rfl, fun _ => by rw [← i5 e1, ← i5 e2]⟩
theorem b1B (h : HA) : b1k mA h := by
 intro x y l l' e e'
 cases h
 case fr k =>
  cases x <;> try (simp [mA] at e; done)
  rename_i d
  cases d <;> simp [mA] at e
  cases y <;> try (simp [mA] at e'; done)
  rename_i d
  cases d <;> simp [mA] at e'
  obtain ⟨rfl, rfl⟩ := e
  obtain ⟨rfl, rfl⟩ := e'
  simp
 case frs k =>
  cases x <;> try (simp [mA] at e; done)
  rename_i d
  cases d <;> simp [mA] at e
  cases y <;> try (simp [mA] at e'; done)
  rename_i d
  cases d <;> simp [mA] at e'
  obtain ⟨rfl, rfl⟩ := e
  obtain ⟨rfl, rfl⟩ := e'
  simp
 case top => cases x <;> simp [mA] at e; cases y <;> simp [mA] at e'; simp [e, e']
 case ub => cases x <;> simp [mA] at e; cases y <;> simp [mA] at e'; simp [e, e']
 case int k =>
  cases x <;> simp [mA] at e
  cases y <;> simp [mA] at e'
  obtain ⟨rfl, rfl⟩ := e
  obtain ⟨rfl, rfl⟩ := e'
  simp
 case bool =>
  cases x <;> simp [mA] at e
  cases y <;> simp [mA] at e'
  subst e; subst e'
  simp
 case lit k m =>
  cases x <;> simp [mA] at e
  cases y <;> simp [mA] at e'
  obtain ⟨rfl, rfl, rfl⟩ := e
  obtain ⟨rfl, rfl, rfl⟩ := e'
  simp
 case known b =>
  cases x <;> simp only [mA] at e <;> try (cases e; done)
  cases y <;> simp only [mA] at e' <;> try (cases e'; done)
  split at e <;> cases e
  split at e' <;> cases e'
  rename_i e1 _ e2
  have e1 := eq_of_beq e1
  have e2 := eq_of_beq e2
  subst e1; subst e2
  simp
 case str =>
  cases x <;> simp [mA] at e
  cases y <;> simp [mA] at e'
  subst e; subst e'
  simp
 case nilp => cases x <;> simp [mA] at e; cases y <;> simp [mA] at e'; simp [e, e']
 case nilsl => cases x <;> simp [mA] at e; cases y <;> simp [mA] at e'; simp [e, e']
 case nilif => cases x <;> simp [mA] at e; cases y <;> simp [mA] at e'; simp [e, e']
 case ptr o b i =>
  cases i
  ·cases x <;> try (simp [mA] at e; done)
   rename_i i
   cases i <;> simp only [mA] at e <;> try (cases e; done)
   cases y <;> try (simp [mA] at e'; done)
   rename_i i
   cases i <;> simp only [mA] at e' <;> try (cases e'; done)
   split at e <;> cases e
   split at e' <;> cases e'
   rename_i e1 _ e2
   rw [Bool.and_eq_true] at e1 e2
   obtain ⟨p, q⟩ := e1
   obtain ⟨p', q'⟩ := e2
   have p := i5 p; have q := i5 q; have p' := i5 p'; have q' := i5 q'
   subst p; subst q; subst p'; subst q'
   simp
  ·cases x <;> try (simp [mA] at e; done)
   rename_i i
   cases i <;> simp only [mA] at e <;> try (cases e; done)
   cases y <;> try (simp [mA] at e'; done)
   rename_i i
   cases i <;> simp only [mA] at e' <;> try (cases e'; done)
   split at e <;> cases e
   split at e' <;> cases e'
   rename_i e1 _ e2
   rw [Bool.and_eq_true] at e1 e2
   obtain ⟨p, q⟩ := e1
   obtain ⟨p', q'⟩ := e2
   have p := i5 p; have q := i5 q; have p' := i5 p'; have q' := i5 q'
   subst p; subst q; subst p'; subst q'
   simp
 case vec o n es =>
  cases x <;> simp only [mA] at e <;> try (cases e; done)
  cases y <;> simp only [mA] at e' <;> try (cases e'; done)
  split at e <;> try (cases e; done)
  split at e' <;> try (cases e'; done)
  rename_i e1 _ e2
  rw [Bool.and_eq_true] at e1 e2
  obtain ⟨p, q⟩ := e1
  obtain ⟨p', q'⟩ := e2
  have p := i5 p; have q := i5 q; have p' := i5 p'; have q' := i5 q'
  subst p; subst q; subst p'; subst q'
  obtain ⟨h1, h2⟩ := a5s n _ _ _ _ e e'
  exact ⟨h1, fun hl => by rw [h2 hl]⟩
 case sl o f n c es =>
  cases x <;> simp only [mA] at e <;> try (cases e; done)
  cases y <;> simp only [mA] at e' <;> try (cases e'; done)
  split at e <;> try (cases e; done)
  split at e' <;> try (cases e'; done)
  rename_i e1 _ e2
  rw [Bool.and_eq_true] at e1 e2
  obtain ⟨p, q⟩ := e1
  obtain ⟨p', q'⟩ := e2
  have p := i5 p; have q := i5 q; have p' := i5 p'; have q' := i5 q'
  subst p; subst q; subst p'; subst q'
  obtain ⟨l1, l2, a1, a2, rfl⟩ := B1 e
  obtain ⟨l3, l4, a3, a4, rfl⟩ := B1 a2
  obtain ⟨m1, m2, b1, b2, rfl⟩ := B1 e'
  obtain ⟨m3, m4, b3, b4, rfl⟩ := B1 b2
  obtain ⟨f1, f2⟩ := a5s f _ _ _ _ a1 b1
  obtain ⟨n1, n2⟩ := a5s n _ _ _ _ a3 b3
  obtain ⟨c1, c2⟩ := a5s c _ _ _ _ a4 b4
  refine ⟨by simp [f1, n1, c1], fun hl => ?_⟩
  obtain ⟨g1, g2⟩ := List.append_inj hl f1
  obtain ⟨g3, g4⟩ := List.append_inj g2 n1
  rw [f2 g1, n2 g3, c2 g4]
 case fn f =>
  cases x <;> simp only [mA] at e <;> try (cases e; done)
  cases y <;> simp only [mA] at e' <;> try (cases e'; done)
  split at e <;> cases e
  split at e' <;> cases e'
  rename_i e1 _ e2
  have p := i5 e1; have p' := i5 e2
  subst p; subst p'
  simp
 case clo f o b =>
  cases x <;> simp only [mA] at e <;> try (cases e; done)
  cases y <;> simp only [mA] at e' <;> try (cases e'; done)
  split at e <;> cases e
  split at e' <;> cases e'
  rename_i e1 _ e2
  rw [Bool.and_eq_true, Bool.and_eq_true] at e1 e2
  obtain ⟨r, p, q⟩ := e1
  obtain ⟨r', p', q'⟩ := e2
  have p := i5 p; have q := i5 q; have p' := i5 p'; have q' := i5 q'; have r := i5 r; have r' := i5 r'
  subst p; subst q; subst p'; subst q'; subst r; subst r'
  simp
 case ifp f o b =>
  cases x <;> simp only [mA] at e <;> try (cases e; done)
  cases y <;> simp only [mA] at e' <;> try (cases e'; done)
  split at e <;> cases e
  split at e' <;> cases e'
  rename_i e1 _ e2
  rw [Bool.and_eq_true, Bool.and_eq_true] at e1 e2
  obtain ⟨r, p, q⟩ := e1
  obtain ⟨r', p', q'⟩ := e2
  have p := i5 p; have q := i5 q; have p' := i5 p'; have q' := i5 q'; have r := i5 r; have r' := i5 r'
  subst p; subst q; subst p'; subst q'; subst r; subst r'
  simp
 case ifq f o b k =>
  cases x <;> simp only [mA] at e <;> try (cases e; done)
  cases y <;> simp only [mA] at e' <;> try (cases e'; done)
  split at e <;> try (cases e; done)
  split at e' <;> try (cases e'; done)
  rename_i e1 _ e2
  rw [Bool.and_eq_true, Bool.and_eq_true] at e1 e2
  obtain ⟨r, p, q⟩ := e1
  obtain ⟨r', p', q'⟩ := e2
  have p := i5 p; have q := i5 q; have p' := i5 p'; have q' := i5 q'; have r := i5 r; have r' := i5 r'
  subst p; subst q; subst p'; subst q'; subst r; subst r'
  split at e <;> cases e
  split at e' <;> cases e'
  rename_i e1 e2
  subst e1; subst e2
  simp
 case ifi t k =>
  cases x <;> simp only [mA] at e <;> try (cases e; done)
  cases y <;> simp only [mA] at e' <;> try (cases e'; done)
  split at e <;> try (cases e; done)
  split at e' <;> try (cases e'; done)
  rename_i e1 _ e2
  have r := i5 e1; have r' := i5 e2
  subst r; subst r'
  split at e <;> cases e
  split at e' <;> cases e'
  rename_i e1 e2
  subst e1; subst e2
  simp
 case ifg t k =>
  cases x <;> simp only [mA] at e <;> try (cases e; done)
  cases y <;> simp only [mA] at e' <;> try (cases e'; done)
  split at e <;> try (cases e; done)
  split at e' <;> try (cases e'; done)
  rename_i e1 _ e2
  have r := i5 e1; have r' := i5 e2
  subst r; subst r'
  split at e <;> cases e
  split at e' <;> cases e'
  rename_i e1 e2
  subst e1; subst e2
  simp
theorem b5K (h : HS) : b1k mS h := by
 intro x y l l' e e'
 cases h with
 | xs k n =>
  cases x <;> simp only [mS] at e <;> try (cases e; done)
  cases y <;> simp only [mS] at e' <;> try (cases e'; done)
  split at e <;> try (cases e; done)
  split at e' <;> try (cases e'; done)
  rename_i e1 e2
  subst e1; subst e2
  obtain ⟨l1, l2, a1, a2, rfl⟩ := B1 e
  obtain ⟨m1, m2, b1, b2, rfl⟩ := B1 e'
  obtain ⟨f1, f2⟩ := a5s n _ _ _ _ a1 b1
  cases a2; cases b2
  refine ⟨by simp [f1], fun hl => ?_⟩
  obtain ⟨g1, g2⟩ := List.append_inj hl f1
  rw [f2 g1]
  simp at g2
  rw [g2]
 | one h =>
  cases x <;> simp only [mS] at e <;> try (cases e; done)
  cases y <;> simp only [mS] at e' <;> try (cases e'; done)
  obtain ⟨h1, h2⟩ := b1B h _ _ _ _ e e'
  exact ⟨h1, fun hl => by rw [h2 hl]⟩
 | rw k =>
  cases x <;> simp only [mS] at e <;> try (cases e; done)
  cases y <;> simp only [mS] at e' <;> try (cases e'; done)
  split at e <;> try (cases e; done)
  split at e' <;> try (cases e'; done)
  rename_i e1 e2
  subst e1; subst e2
  cases e; cases e'
  exact ⟨rfl, fun hl => by simp at hl; rw [hl]⟩
theorem a1S {α β : Type} {m : α → β → Option (List PV)} (hm : ∀ h, b1k m h) : ∀ hs, b1k (mL m) hs
 | [], [], [], l, l', e, e' => by cases e; cases e'; simp
 | [], _ :: _, _, l, l', e, e' => by simp [mL] at e
 | [], _, _ :: _, l, l', e, e' => by simp [mL] at e'
 | _ :: _, [], _, l, l', e, e' => by simp [mL] at e
 | _ :: _, _, [], l, l', e, e' => by simp [mL] at e'
 | h :: hs, x :: xs, y :: ys, l, l', e, e' => by
  obtain ⟨l1, l2, a1, a2, rfl⟩ := B1 e
  obtain ⟨m1, m2, b1, b2, rfl⟩ := B1 e'
  obtain ⟨f1, f2⟩ := hm h _ _ _ _ a1 b1
  obtain ⟨n1, n2⟩ := a1S hm hs _ _ _ _ a2 b2
  refine ⟨by simp [f1, n1], fun hl => ?_⟩
  obtain ⟨g1, g2⟩ := List.append_inj hl f1
  rw [f2 g1, n2 g2]
theorem b9j (h : HV) : b1k mV h := by
 intro x y l l' e e'
 cases h with
 | any =>
  cases x <;> simp only [mV] at e <;> try (cases e; done)
  cases y <;> simp only [mV] at e' <;> try (cases e'; done)
  rename_i x y
  cases x <;> simp only [mV] at e <;> try (cases e; done)
  cases y <;> simp only [mV] at e' <;> try (cases e'; done)
  cases e; cases e'; simp
 | sc h =>
  cases x <;> simp only [mV] at e <;> try (cases e; done)
  cases y <;> simp only [mV] at e' <;> try (cases e'; done)
  rename_i x y
  cases x <;> simp only [mV] at e <;> try (cases e; done)
  cases y <;> simp only [mV] at e' <;> try (cases e'; done)
  obtain ⟨h1, h2⟩ := b1B h _ _ _ _ e e'
  exact ⟨h1, fun hl => by rw [h2 hl]⟩
 | agg h =>
  cases x <;> simp only [mV] at e <;> try (cases e; done)
  cases y <;> simp only [mV] at e' <;> try (cases e'; done)
  rename_i x y
  cases x <;> simp only [mV] at e <;> try (cases e; done)
  cases y <;> simp only [mV] at e' <;> try (cases e'; done)
  obtain ⟨h1, h2⟩ := a1S b5K h _ _ _ _ e e'
  exact ⟨h1, fun hl => by rw [h2 hl]⟩
theorem b9i (h : HM) : b1k mM h := by
 intro x y l l' e e'
 cases h with
 | free =>
  cases x <;> simp only [mM] at e <;> try (cases e; done)
  cases y <;> simp only [mM] at e' <;> try (cases e'; done)
  cases e; cases e'; simp
 | dead =>
  cases x <;> simp only [mM] at e <;> try (cases e; done)
  cases y <;> simp only [mM] at e' <;> try (cases e'; done)
  cases e; cases e'; simp
 | live h md =>
  cases x <;> simp only [mM] at e <;> try (cases e; done)
  cases y <;> simp only [mM] at e' <;> try (cases e'; done)
  split at e <;> try (cases e; done)
  split at e' <;> try (cases e'; done)
  rename_i b b' _ e1 _ e2
  obtain ⟨h1, h2⟩ := a1S b5K h _ _ _ _ e e'
  refine ⟨h1, fun hl => ?_⟩
  have e1 := of_decide_eq_true e1
  have e2 := of_decide_eq_true e2
  have h2 := h2 hl
  obtain ⟨s, o⟩ := b
  obtain ⟨s', o'⟩ := b'
  simp only at e1 e2 h2
  rw [← e1, ← e2, h2]
theorem b9h (h : FuncId × List HA) : b1k mD h := by
 intro x y l l' e e'
 obtain ⟨f, h⟩ := h
 obtain ⟨g, x⟩ := x
 obtain ⟨g', y⟩ := y
 simp only [mD] at e e'
 split at e <;> try (cases e; done)
 split at e' <;> try (cases e'; done)
 rename_i e1 _ e2
 obtain ⟨h1, h2⟩ := a1S b1B h _ _ _ _ e e'
 exact ⟨h1, fun hl => by rw [h2 hl, ← i5 e1, ← i5 e2]⟩
theorem b7Q (h : HSt) : b1k mSt h := by
 intro x y l l' e e'
 obtain ⟨l1, l2, a1, a2, rfl⟩ := B1 e
 obtain ⟨l3, l4, a3, a4, rfl⟩ := B1 a2
 obtain ⟨m1, m2, b1, b2, rfl⟩ := B1 e'
 obtain ⟨m3, m4, b3, b4, rfl⟩ := B1 b2
 obtain ⟨f1, f2⟩ := a1S b9j h.tmps _ _ _ _ a1 b1
 obtain ⟨n1, n2⟩ := a1S b9i h.mem _ _ _ _ a3 b3
 obtain ⟨o1, o2⟩ := a1S b9h h.dfr _ _ _ _ a4 b4
 refine ⟨by simp [f1, n1, o1], fun hl => ?_⟩
 obtain ⟨g1, g2⟩ := List.append_inj hl f1
 obtain ⟨g3, g4⟩ := List.append_inj g2 n1
 obtain ⟨s, o, d⟩ := x
 obtain ⟨s', o', d'⟩ := y
 have := f2 g1
 have := n2 g3
 have := o2 g4
 simp_all
def un (h : HSt) (ks : List PK) (st : St) : Option (Ps ks) := match mSt h st with
 | some l => a69 ks l
 | none => none
structure Shape where
 h : HSt
 ks : List PK
 st : Ps ks → St
def Shape.Ok (S : Shape) : Prop := ∀ x, mSt S.h (S.st x) = some (a8E S.ks x)
def Shape.un (S : Shape) (st : St) : Option (Ps S.ks) := Ax.un S.h S.ks st
theorem Shape.un_st {S : Shape} (hS : S.Ok) (x : Ps S.ks) : S.un (S.st x) = some x := by
 simp only [Shape.un, Ax.un, hS x, enc_dec]
theorem Shape.st_un {S : Shape} (hS : S.Ok) {st : St} {x : Ps S.ks} (h : S.un st = some x) : st = S.st x := by
 unfold Shape.un Ax.un at h
 split at h
 ·rename_i l hl
  have hd := dec_enc h
  exact (b7Q S.h _ _ _ _ hl (hS x)).2 hd
 ·cases h
def a5p {X Y : Type} (F : (β : Type) → X → (X → Option β) → (Y → Option β) → Option β) {β : Type} : Nat → X → (Y → Option β) → Option β
 | 0, _, _ => none
 | n + 1, x, k => F β x (fun x' => a5p F n x' k) k
structure Entry where
 run : {β : Type} → St → (Ex → St → Option β) → Option β
abbrev LT := Nat → Option Entry
abbrev Go' (Y : Type) := {β : Type} → Y → (Ex → St → Option β) → Option β
def a3c (S : Shape) (n : Nat) {Y : Type} (F : (β : Type) → Ps S.ks → (Ps S.ks → Option β) → (Y → Option β) → Option β) (go : Go' Y) : Entry where
 run st K := match S.un st with
  | some x => a5p F n x fun y => go y K
  | none => none
def F5 (S : Shape) {Y : Type} (F : (β : Type) → Ps S.ks → (Y → Option β) → Option β) (go : Go' Y) : Entry where
 run {β} st K := match S.un st with
  | some x => F β x fun y => go y K
  | none => none
def c1B (L : LT) (c : Code) : Option Entry := match l9 c with
 | some k => L (8000000 + k)
 | none => none
noncomputable def Y5 (E : AE) (H : Hints) (L : LT) (n : Nat) {β : Type} : Code → St → (Ex → St → Option β) → Option β
 | .skip, st, K => K .normal st
 | .region _ ops draw, st, K => a63 E H ops draw st K
 | .seq x y, st, K => Y5 E H L n x st fun e st' => match e with
  | .normal => match c1B L y with
   | some f => f.run (rest H y st') K
   | none => Y5 E H L n y (rest H y st') K
  | e => K e st'
 | .cond c x y, st, K => match c with
  | .tmp t => match E.lits t with
   | true => b6j t st (fun st => Y5 E H L n x st K) (fun st => Y5 E H L n y st K)
   | false => match L (1000000 + t) with
    | some f => f.run (pre H (1000000 + t) st) K
    | none => b6k t (pre H (1000000 + t) st) (fun st => Y5 E H L n x st (b4q H (4000000 + t) K)) (fun st => Y5 E H L n y st (b4q H (4000000 + t) K))
  | _ => none
 | .block id x, st, K => Y5 E H L n x st fun e st' => match e with
  | .exit j => match Nat.beq j id with
   | true => K .normal st'
   | false => K (.exit j) st'
  | e => K e st'
 | .loop x, st, K => match b9G E x with
  | some m => a5r (fun st K => Y5 E H L n x st K) id m st K
  | none => match l9 x with
   | some k => match L k with
    | some f => f.run (pre H k st) K
    | none => none
   | none => none
 | .exit id, st, K => K (.exit id) (pre H (2000000 + id) st)
 | .ret, st, K => K .ret (pre H 3000000 st)
 | .scope x, st, K => Y5 E H L n x st K
 | .label _, st, K => K .normal st
 | _, _, _ => none
def a8X : Code → Option Nat
 | .loop x => l9 x
 | .cond (.tmp t) _ _ => some (1000000 + t)
 | .seq _ b => (l9 b).map (8000000 + ·)
 | _ => none
def x9 : Code → List Code
 | .seq a b => .seq a b :: (x9 a ++ x9 b)
 | .block _ c => x9 c
 | .loop x => .loop x :: x9 x
 | .cond c x y => .cond c x y :: (x9 x ++ x9 y)
 | .scope c => x9 c
 | _ => []
def b75 (H : Hints) (c : Code) (st : St) : St := match a8X c with
 | some k => pre H k st
 | none => st
noncomputable def c0E (E : AE) (H : Hints) (n : Nat) {β : Type} (c : Code) (st : St) (K : Ex → St → Option β) : Option β := match c with
 | .seq _ b => y5 E H n b (rest H b st) K
 | c => y5 E H n c st K
def EntryOk (E : AE) (H : Hints) (n : Nat) (f : Entry) (c : Code) : Prop :=
 ∀ (β : Type) (st : St) (K : Ex → St → Option β) (r : β), f.run (b75 H c st) K = some r → c0E E H n c st K = some r
def OkAll (E : AE) (H : Hints) (n : Nat) (L : LT) (l : List Code) : Prop :=
 ∀ c ∈ l, ∀ k f, a8X c = some k → L k = some f → EntryOk E H n f c
section
variable {E : AE} {H : Hints} {n : Nat} {L : LT}
theorem F1 : ∀ (c : Code) {d : Code}, d ∈ x9 c → ∀ x ∈ x9 d, x ∈ x9 c
 | .seq a b, d, h, x, hx => by
  simp only [x9, List.mem_cons, List.mem_append] at h ⊢
  rcases h with rfl | h | h
  ·simpa [x9] using hx
  ·exact .inr (.inl (F1 a h x hx))
  ·exact .inr (.inr (F1 b h x hx))
 | .block _ c, d, h, x, hx => F1 c h x hx
 | .loop c, d, h, x, hx => by
  simp only [x9, List.mem_cons] at h ⊢
  rcases h with rfl | h
  ·simpa [x9] using hx
  ·exact .inr (F1 c h x hx)
 | .cond c a b, d, h, x, hx => by
  simp only [x9, List.mem_cons, List.mem_append] at h ⊢
  rcases h with rfl | h | h
  ·simpa [x9] using hx
  ·exact .inr (.inl (F1 a h x hx))
  ·exact .inr (.inr (F1 b h x hx))
 | .skip, d, h, x, hx => by simp [x9] at h
 | .region _ _ _, d, h, x, hx => by simp [x9] at h
 | .exit _, d, h, x, hx => by simp [x9] at h
 | .ret, d, h, x, hx => by simp [x9] at h
 | .rangeFunc _ _ _ _, d, h, x, hx => by simp [x9] at h
 | .scope c, d, h, x, hx => F1 c h x hx
 | .label _, d, h, x, hx => by simp [x9] at h
 | .goto _, d, h, x, hx => by simp [x9] at h
 | .refuse _, d, h, x, hx => by simp [x9] at h
theorem T.run_mono {α β : Type} {t : T α} {K1 K2 : α → Option β} {r : β} (h : t.run K1 = some r) (hk : ∀ a, K1 a = some r → K2 a = some r) : t.run K2 = some r := by
 rw [T.run_val, Option.bind_eq_some_iff] at h ⊢
 obtain ⟨a, h1, h2⟩ := h
 exact ⟨a, h1, hk a h2⟩
theorem b0T {β : Type} {t : Nat} {st : St} {x y x' y' : St → Option β} {r : β} (h : b6k t st x y = some r) (hx : ∀ s, x s = some r → x' s = some r) (hy : ∀ s, y s = some r → y' s = some r) : b6k t st x' y' = some r := by
 unfold b6k at h ⊢
 split at h
 ·exact hx _ h
 ·exact hy _ h
 ·split at h
  ·rename_i hp; rw [if_pos hp]; exact hx _ h
  ·rename_i hp; rw [if_neg hp]; exact hy _ h
 ·obtain ⟨h1, h2⟩ := a5f.1 h
  exact a5f.2 ⟨hx _ h1, hy _ h2⟩
 ·cases h
theorem b0S {β : Type} {t : Nat} {st : St} {x y x' y' : St → Option β} {r : β} (h : b6j t st x y = some r) (hx : ∀ s, x s = some r → x' s = some r) (hy : ∀ s, y s = some r → y' s = some r) : b6j t st x' y' = some r := by
 unfold b6j at h ⊢
 split at h
 ·exact hx _ h
 ·exact hy _ h
 ·split at h
  ·exact hx _ h
  ·exact hy _ h
 ·cases h
theorem a5B {β : Type} {ops : Array Oper} {K1 K2 : Pn ⊕ St → Option β} {r : β} (hk : ∀ x, K1 x = some r → K2 x = some r) : ∀ {l : List Oper} {nm : Nat} {pc : PC} {st : St}, b8F E ops l nm pc st K1 = some r → b8F E ops l nm pc st K2 = some r
 | [], nm, pc, st, h => hk _ h
 | o :: l, nm, pc, st, h => by
  simp only [b8F] at h ⊢
  split at h
  ·rename_i hsp
   split at h
   ·rename_i st' hst
    try simp only [hst]
    exact a5B hk h
   ·rename_i hst
    try simp only [hst]
    split at h
    ·rename_i J args hJ
     try simp only [hJ]
     refine J.mono β args st.mem _ _ r ?_ h
     intro x hx
     cases x with
     | ret l' mem => exact a5B hk hx
     | pan p n mem => exact hk _ hx
    ·cases h
  ·rename_i hsp
   refine T.run_mono h fun x hx => ?_
   cases x with
   | inl p => exact hk _ hx
   | inr y => exact a5B hk hx
theorem a3f {β : Type} {ops : Array Oper} {K1 K2 : Ex → St → Option β} {r : β} (hk : ∀ e st, K1 e st = some r → K2 e st = some r) : ∀ x, b9W H ops K1 x = some r → b9W H ops K2 x = some r := by
 intro x h
 cases x with
 | inl p => exact hk _ _ h
 | inr s => exact hk _ _ h
theorem a4G {β : Type} {ops : Array Oper} {us : List Nat} {K1 K2 : Pn ⊕ St → Option β} {r : β} (hk : ∀ x, K1 x = some r → K2 x = some r) : ∀ {l : List Nat} {F : St}, a5h E ops us l F K1 = some r → a5h E ops us l F K2 = some r
 | [], F, h => hk _ h
 | i :: l, F, h => by
  simp only [a5h] at h ⊢
  split at h
  ·cases h
  ·rename_i o ho
   split at h
   ·rename_i J args hJ
    try simp only [hJ]
    refine J.mono β args F.mem _ _ r ?_ h
    intro x hx
    cases x with
    | ret l' mem => exact T.run_mono hx fun _ hx => a4G hk hx
    | pan p n mem => exact hk _ hx
   ·rename_i hJ
    try simp only [hJ]
    split at h
    ·rename_i hu
     try simp only [hu]
     exact T.run_mono h fun _ hx => a4G hk hx
    ·cases h
theorem b3F {β : Type} {ops : Array Oper} {st : St} {K1 K2 : Pn ⊕ St → Option β} {r : β} (hk : ∀ x, K1 x = some r → K2 x = some r) (h : a64 E ops st K1 = some r) : a64 E ops st K2 = some r := by
 unfold a64 at h ⊢
 split at h
 ·cases h
 ·rename_i p hp
  try simp only [hp]
  split at h
  ·rename_i hs
   try simp only [hs]
   exact T.run_mono h fun _ hx => T.run_mono hx fun _ hx => a4G hk hx
  ·cases h
theorem a7n {β : Type} {ops : Array Oper} {draw : Bool} {st : St} {K1 K2 : Ex → St → Option β} {r : β} (hk : ∀ e st, K1 e st = some r → K2 e st = some r) (h : a63 E H ops draw st K1 = some r) : a63 E H ops draw st K2 = some r := by
 unfold a63 at h ⊢
 split at h
 ·split at h
  ·exact hk _ _ h
  ·split at h
   ·exact a5B (a3f hk) h
   ·exact T.run_mono h (a3f hk)
 ·split at h
  ·exact b3F (a3f hk) h
  ·split at h
   ·exact T.run_mono h (a3f hk)
   ·split at h
    ·exact T.run_mono h (a3f hk)
    ·cases h
theorem a3O {β : Type} {k : Nat} {K1 K2 : Ex → St → Option β} {r : β} (hk : ∀ e st, K1 e st = some r → K2 e st = some r) : ∀ e st, b4q H k K1 e st = some r → b4q H k K2 e st = some r := by
 intro e st h
 cases e with
 | normal => exact hk _ _ h
 | exit id => exact hk _ _ h
 | ret => exact hk _ _ h
 | pan p m => exact hk _ _ h
theorem a6G {β : Type} {body : St → (Ex → St → Option β) → Option β} {hd : St → St} {r : β} {K1 K2 : Ex → St → Option β} (hk : ∀ e st, K1 e st = some r → K2 e st = some r) (hb : ∀ st K1 K2, (∀ e st, K1 e st = some r → K2 e st = some r) → body st K1 = some r → body st K2 = some r) : ∀ (m : Nat) (st : St), a5r body hd m st K1 = some r → a5r body hd m st K2 = some r
 | 0, st, h => by cases h
 | m + 1, st, h => by
  refine hb _ _ _ ?_ h
  intro e st' h
  cases e with
  | normal => exact a6G hk hb m st' h
  | exit id => exact hk _ _ h
  | ret => exact hk _ _ h
  | pan p m => exact hk _ _ h
theorem v7 {β : Type} {r : β} : ∀ (c : Code) {st : St} {K1 K2 : Ex → St → Option β}, (∀ e st, K1 e st = some r → K2 e st = some r) → y5 E H n c st K1 = some r → y5 E H n c st K2 = some r
 | .skip, st, K1, K2, hk, h => hk _ _ h
 | .region id ops draw, st, K1, K2, hk, h => by
  simp only [y5] at h ⊢
  exact a7n hk h
 | .seq x y, st, K1, K2, hk, h => by
  refine v7 x ?_ h
  intro e st' h
  cases e with
  | normal => exact v7 y hk h
  | exit id => exact hk _ _ h
  | ret => exact hk _ _ h
  | pan p m => exact hk _ _ h
 | .cond c x y, st, K1, K2, hk, h => by
  simp only [y5] at h ⊢
  split at h
  ·split at h
   ·exact b0S h (fun s h => v7 x hk h) (fun s h => v7 y hk h)
   ·exact b0T h (fun s h => v7 x (a3O hk) h) (fun s h => v7 y (a3O hk) h)
  ·cases h
 | .block id x, st, K1, K2, hk, h => by
  refine v7 x ?_ h
  intro e st' h
  cases e with
  | normal => exact hk _ _ h
  | ret => exact hk _ _ h
  | pan p m => exact hk _ _ h
  | exit j =>
   simp only at h ⊢
   split at h
   ·exact hk _ _ h
   ·exact hk _ _ h
 | .loop x, st, K1, K2, hk, h => by
  simp only [y5] at h ⊢
  split at h
  ·rename_i m hm
   exact a6G (body := fun st K => y5 E H n x st K) (hd := id) hk (fun st K1 K2 hk h => v7 x hk h) m st h
  ·exact a6G (body := fun st K => y5 E H n x st.conv K) (hd := b9b H x) hk (fun st K1 K2 hk h => v7 x hk h) n st h
 | .exit id, st, K1, K2, hk, h => hk _ _ h
 | .ret, st, K1, K2, hk, h => hk _ _ h
 | .rangeFunc _ _ _ _, st, K1, K2, hk, h => by simp [y5] at h
 | .scope x, st, K1, K2, hk, h => v7 x hk h
 | .label _, st, K1, K2, hk, h => hk _ _ h
 | .goto _, st, K1, K2, hk, h => by simp [y5] at h
 | .refuse _, st, K1, K2, hk, h => by simp [y5] at h
theorem v9 {β : Type} {r : β} : ∀ (c : Code) {st : St} {K1 K2 : Ex → St → Option β}, OkAll E H n L (x9 c) → (∀ e st, K1 e st = some r → K2 e st = some r) → Y5 E H L n c st K1 = some r → y5 E H n c st K2 = some r
 | .skip, st, K1, K2, hL, hk, h => hk _ _ h
 | .region id ops draw, st, K1, K2, hL, hk, h => by
  simp only [y5, Y5] at h ⊢
  exact a7n hk h
 | .seq x y, st, K1, K2, hL, hk, h => by
  have hx : OkAll E H n L (x9 x) := fun c hc => hL c (by simp [x9, hc])
  have hy : OkAll E H n L (x9 y) := fun c hc => hL c (by simp [x9, hc])
  refine v9 x hx ?_ h
  intro e st' h
  cases e with
  | normal =>
   simp only at h
   split at h
   ·rename_i f hf
    unfold c1B at hf
    split at hf
    ·rename_i k hk'
     have hkey : a8X (.seq x y) = some (8000000 + k) := by simp [a8X, hk']
     have := hL (.seq x y) (by simp [x9]) (8000000 + k) f hkey hf β st' K1 r (by
      simp only [b75, hkey]
      simp only [rest, hk'] at h
      exact h)
     exact v7 _ hk this
    ·cases hf
   ·exact v9 y hy hk h
  | exit id => exact hk _ _ h
  | ret => exact hk _ _ h
  | pan p m => exact hk _ _ h
 | .cond c x y, st, K1, K2, hL, hk, h => by
  have hx : OkAll E H n L (x9 x) := fun c hc => hL c (by simp [x9, hc])
  have hy : OkAll E H n L (x9 y) := fun c hc => hL c (by simp [x9, hc])
  simp only [Y5] at h
  split at h
  ·rename_i t
   split at h
   ·rename_i hlit
    simp only [y5, hlit]
    exact b0S h (fun s h => v9 x hx hk h) (fun s h => v9 y hy hk h)
   ·rename_i hlit
    split at h
    ·rename_i f hf
     exact v7 _ hk (show y5 E H n (.cond (.tmp t) x y) st K1 = some r from hL (.cond (.tmp t) x y) (by simp [x9]) _ f rfl hf β st K1 r h)
    ·simp only [y5, hlit]
     exact b0T h (fun s h => v9 x hx (a3O hk) h) (fun s h => v9 y hy (a3O hk) h)
  ·cases h
 | .block id x, st, K1, K2, hL, hk, h => by
  refine v9 x hL ?_ h
  intro e st' h
  cases e with
  | normal => exact hk _ _ h
  | ret => exact hk _ _ h
  | pan p m => exact hk _ _ h
  | exit j =>
   simp only at h ⊢
   split at h
   ·rename_i e; rw [e]; exact hk _ _ h
   ·rename_i e; rw [e]; exact hk _ _ h
 | .loop x, st, K1, K2, hL, hk, h => by
  simp only [Y5] at h
  split at h
  ·rename_i m hm
   simp only [y5, hm]
   have hx : OkAll E H n L (x9 x) := fun c hc => hL c (by simp [x9, hc])
   have key : ∀ (m : Nat) (st : St) {K1 K2 : Ex → St → Option β}, (∀ e st, K1 e st = some r → K2 e st = some r) → a5r (fun st K => Y5 E H L n x st K) id m st K1 = some r → a5r (fun st K => y5 E H n x st K) id m st K2 = some r := by
    intro m
    induction m with
    | zero => intro st K1 K2 _ h; cases h
    | succ m ih =>
     intro st K1 K2 hk h
     refine v9 x hx ?_ h
     intro e st' h
     cases e with
     | normal => exact ih st' hk h
     | exit id => exact hk _ _ h
     | ret => exact hk _ _ h
     | pan p m => exact hk _ _ h
   exact key m st hk h
  ·split at h
   ·rename_i k hkey
    split at h
    ·rename_i f hf
     refine v7 _ hk (show y5 E H n (.loop x) st K1 = some r from hL (.loop x) (by simp [x9]) k f hkey hf β st K1 r ?_)
     simp only [b75, a8X, hkey]
     exact h
    ·cases h
   ·cases h
 | .exit id, st, K1, K2, hL, hk, h => hk _ _ h
 | .ret, st, K1, K2, hL, hk, h => hk _ _ h
 | .rangeFunc _ _ _ _, st, K1, K2, hL, hk, h => by simp [Y5] at h
 | .scope x, st, K1, K2, hL, hk, h => v9 x hL hk h
 | .label _, st, K1, K2, hL, hk, h => hk _ _ h
 | .goto _, st, K1, K2, hL, hk, h => by simp [Y5] at h
 | .refuse _, st, K1, K2, hL, hk, h => by simp [Y5] at h
def upd (L : LT) (k : Nat) (f : Entry) : LT := fun j => match Nat.beq j k with
 | true => some f
 | false => L j
def LT.nil : LT := fun _ => none
theorem OkAll.nil {l : List Code} : OkAll E H n LT.nil l := fun _ _ _ _ _ h => by cases h
def F7 (k : Nat) : List Code → List Code
 | [] => []
 | c :: r => match a8X c with
  | some j => match Nat.beq j k with
   | true => c :: F7 k r
   | false => F7 k r
  | none => F7 k r
theorem a2d {k : Nat} : ∀ {l : List Code} {c : Code}, c ∈ F7 k l ↔ c ∈ l ∧ a8X c = some k
 | [], c => by simp [F7]
 | d :: r, c => by
  have ih := @a2d k r c
  simp only [F7]
  split
  ·rename_i j hj
   split
   ·rename_i e
    have e := i5 e
    subst e
    simp only [List.mem_cons, ih]
    constructor
    ·rintro (rfl | h)
     ·exact ⟨.inl rfl, hj⟩
     ·exact ⟨.inr h.1, h.2⟩
    ·rintro ⟨rfl | h, h2⟩
     ·exact .inl rfl
     ·exact .inr ⟨h, h2⟩
   ·rename_i e
    have e := b6b e
    simp only [List.mem_cons, ih]
    constructor
    ·exact fun h => ⟨.inr h.1, h.2⟩
    ·rintro ⟨rfl | h, h2⟩
     ·rw [hj] at h2; cases h2; exact absurd rfl e
     ·exact ⟨h, h2⟩
  ·rename_i hj
   simp only [List.mem_cons, ih]
   constructor
   ·exact fun h => ⟨.inr h.1, h.2⟩
   ·rintro ⟨rfl | h, h2⟩
    ·rw [hj] at h2; cases h2
    ·exact ⟨h, h2⟩
theorem OkAll.upd {body : Code} {k : Nat} {f : Entry} {c : Code} (hL : OkAll E H n L (x9 body)) (hc : F7 k (x9 body) = [c]) (hf : EntryOk E H n f c) : OkAll E H n (upd L k f) (x9 body) := by
 intro d hd j g hj hg
 unfold Ax.upd at hg
 split at hg
 ·rename_i e
  have e := i5 e
  subst e
  cases hg
  have : d ∈ F7 j (x9 body) := a2d.2 ⟨hd, hj⟩
  rw [hc] at this
  rw [List.mem_singleton.1 this]
  exact hf
 ·exact hL d hd j g hj hg
def c1Y {β : Type} (H : Hints) (c : Code) (kn : St → Option β) (ke : Ex → St → Option β) : Ex → St → Option β
 | .normal, st => kn (b9b H c st)
 | e, st => ke e st
theorem c1p {body : Code} {k : Nat} {c : Code} {S : Shape} {Y : Type} {F : (β : Type) → Ps S.ks → (Ps S.ks → Option β) → (Y → Option β) → Option β} {go : Go' Y}
  (hL : OkAll E H n L (x9 body)) (hc : F7 k (x9 body) = [.loop c]) (hS : S.Ok)
  (hB : ∀ (β : Type) (x : Ps S.ks) (kn : St → Option β) (ke : Ex → St → Option β), Y5 E H L n c (S.st x).conv (c1Y H c kn ke) = F β x (fun x' => kn (S.st x')) (fun y => go y ke)) (hun : b9G E c = none := by rfl) :
  EntryOk E H n (a3c S n F go) (.loop c) := by
 have hmem : Code.loop c ∈ x9 body ∧ a8X (.loop c) = some k := a2d.1 (by rw [hc]; simp)
 have hLc : OkAll E H n L (x9 c) := fun d hd => hL d (F1 body hmem.1 d (by simp [x9, hd]))
 have hkey : l9 c = some k := hmem.2
 intro β st K r h
 have main : ∀ (m : Nat) (st : St) (x : Ps S.ks), a5p F m x (fun y => go y K) = some r → b9b H c st = S.st x → a5r (fun st K => y5 E H n c st.conv K) (b9b H c) m st K = some r := by
  intro m
  induction m with
  | zero => intro st x h; cases h
  | succ m ih =>
   intro st x h hst
   simp only [a5p] at h
   have hk : ∀ x', (match S.un (S.st x') with | some x'' => a5p F m x'' (fun y => go y K) | none => none) = a5p F m x' (fun y => go y K) := by
    intro x'
    rw [Shape.un_st hS x']
   have h2 := hB β x (fun s => match S.un s with | some x'' => a5p F m x'' (fun y => go y K) | none => none) K
   simp only [hk] at h2
   rw [h] at h2
   simp only [a5r]
   rw [hst]
   refine v9 c hLc ?_ h2
   intro e st' h
   cases e with
   | normal =>
    simp only [c1Y] at h
    split at h
    ·rename_i x' hx'
     exact ih st' x' h (Shape.st_un hS hx')
    ·cases h
   | exit id => exact h
   | ret => exact h
   | pan p m => exact h
 simp only [a3c, b75, a8X, hkey] at h
 simp only [c0E, y5, hun]
 split at h
 ·rename_i x hx
  refine main n st x h ?_
  simp only [b9b, hkey]
  exact Shape.st_un hS hx
 ·cases h
theorem J4 {body : Code} {k : Nat} {c : Code} {S : Shape} {Y : Type} {F : (β : Type) → Ps S.ks → (Ps S.ks → Option β) → (Y → Option β) → Option β} {go : Go' Y}
  (hL : OkAll E H n L (x9 body)) (hc : F7 k (x9 body) = [.loop c]) (hS : S.Ok)
  (hB : ∀ (β : Type) (x : Ps S.ks) (kn : St → Option β) (ke : Ex → St → Option β), Y5 E H L n c (S.st x).conv (c1Y H c kn ke) = F β x (fun x' => kn (S.st x')) (fun y => go y ke)) (hun : b9G E c = none := by rfl) :
  OkAll E H n (upd L k (a3c S n F go)) (x9 body) := hL.upd hc (c1p hL hc hS hB hun)
theorem a8b {body : Code} {k : Nat} {a b : Code} {S : Shape} {Y : Type} {F : (β : Type) → Ps S.ks → (Y → Option β) → Option β} {go : Go' Y}
  (hL : OkAll E H n L (x9 body)) (hc : F7 (8000000 + k) (x9 body) = [.seq a b]) (hS : S.Ok)
  (hB : ∀ (β : Type) (x : Ps S.ks) (K : Ex → St → Option β), Y5 E H L n b (S.st x) K = F β x (fun y => go y K)) :
  EntryOk E H n (F5 S F go) (.seq a b) := by
 have hmem : Code.seq a b ∈ x9 body ∧ a8X (.seq a b) = some (8000000 + k) := a2d.1 (by rw [hc]; simp)
 have hLb : OkAll E H n L (x9 b) := fun d hd => hL d (F1 body hmem.1 d (by simp [x9, hd]))
 have hfb : l9 b = some k := by
  have := hmem.2
  simp only [a8X, Option.map_eq_some_iff] at this
  obtain ⟨j, h1, h2⟩ := this
  rw [h1]
  congr 1
  omega
 intro β st K r h
 simp only [F5, b75, hmem.2] at h
 split at h
 ·rename_i x hx
  have hst := Shape.st_un hS hx
  have h2 := hB β x K
  rw [h, ← hst] at h2
  simp only [c0E, rest, hfb]
  exact v9 b hLb (fun _ _ h => h) h2
 ·cases h
theorem a67 {body : Code} {k : Nat} {a b : Code} {S : Shape} {Y : Type} {F : (β : Type) → Ps S.ks → (Y → Option β) → Option β} {go : Go' Y}
  (hL : OkAll E H n L (x9 body)) (hc : F7 (8000000 + k) (x9 body) = [.seq a b]) (hS : S.Ok)
  (hB : ∀ (β : Type) (x : Ps S.ks) (K : Ex → St → Option β), Y5 E H L n b (S.st x) K = F β x (fun y => go y K)) :
  OkAll E H n (upd L (8000000 + k) (F5 S F go)) (x9 body) := hL.upd hc (a8b hL hc hS hB)
theorem b7b {body : Code} {k : Nat} {a b : Code} {f : Entry} (hL : OkAll E H n L (x9 body)) (hc : F7 (8000000 + k) (x9 body) = [.seq a b]) (hf : EntryOk E H n f (.seq a b)) : OkAll E H n (upd L (8000000 + k) f) (x9 body) := hL.upd hc hf
def orE (S : Shape) (e1 e2 : Entry) : Entry where
 run st K := match S.un st with
  | some _ => e1.run st K
  | none => e2.run st K
theorem EntryOk.or {S : Shape} {e1 e2 : Entry} {c : Code} (h1 : EntryOk E H n e1 c) (h2 : EntryOk E H n e2 c) : EntryOk E H n (orE S e1 e2) c := by
 intro β st K r h
 simp only [orE] at h
 split at h
 ·exact h1 β st K r h
 ·exact h2 β st K r h
theorem b7E (E : AE) (n : Nat) (fn : Func) : ∀ (β : Type) (args : List TV) (mem : List Slot) (K1 K2 : IR → Option β) (r : β), (∀ x, K1 x = some r → K2 x = some r) → b9f E n fn β args mem K1 = some r → b9f E n fn β args mem K2 = some r := by
 intro β args mem K1 K2 r hk h
 unfold b9f at h ⊢
 split at h
 ·rename_i c hc
  refine v7 c ?_ h
  intro e st h
  split at h
  ·split at h
   ·exact hk _ h
   ·cases h
  ·exact hk _ h
  ·cases h
 ·cases h
noncomputable def a6D (E : AE) (n : Nat) (fn : Func) : Inl := ⟨b9f E n fn, b7E E n fn⟩
theorem H5 {P : Program} {E : AE} (hE : E.Ok P) (hmix : P.follows .mixedOrders = true) {f : FuncId} {fn : Func} (hf : P.funcs[f]? = some fn) (n : Nat) : Y4 P f (a6D E n fn) := b6o hE hmix hf n _
noncomputable def c07 (E : AE) (n : Nat) (fn : Func) : Cat := ⟨c1L E n fn⟩
theorem b8W {P : Program} {E : AE} (hE : E.Ok P) (hmix : P.follows .mixedOrders = true) {f : FuncId} {fn : Func} (hf : P.funcs[f]? = some fn) (n : Nat) : b68 P f (c07 E n fn) := b6h hE hmix hf n
noncomputable def c2j (E : AE) (H : Hints) (L : LT) (n : Nat) (fn : Func) (c : Code) (ks rs : List Kd) (x : Ds ks) : Option (Rs rs) :=
 Y5 E H L n c (a9U fn ks x) fun e st => match c1a E e st with
  | some (.inr st') => c1U E fn ks rs st'
  | _ => none
theorem b6n {fn : Func} {c : Code} (hc : fn.body = some c) (hL : OkAll E H n L (x9 c)) {ks rs : List Kd} {x : Ds ks} {r : Rs rs} (h : c2j E H L n fn c ks rs x = some r) : c1P E H n fn ks rs x = some r := by
 unfold c1P
 rw [hc]
 exact v9 c hL (fun e st h => h) h
end
end Go.Ax
namespace Go.Ax
open Go.RowKit
universe u
def Q4 {α : Type u} : List (Nat × α) → Nat → Option α
 | [], _ => none
 | (k, v) :: r, j => match Nat.beq k j with
  | true => some v
  | false => Q4 r j
theorem y4 {α : Type u} : ∀ {l : List (Nat × α)} {j : Nat} {v : α}, Q4 l j = some v → (j, v) ∈ l
 | [], j, v, h => by cases h
 | (k, w) :: r, j, v, h => by
  simp only [Q4] at h
  split at h
  ·rename_i e
   cases h
   rw [i5 e]
   exact List.mem_cons_self
  ·exact List.mem_cons_of_mem _ (y4 h)
def R7 {α : Type} : List (Nat × α) → Nat → List α
 | [], _ => []
 | (k, v) :: r, j => match Nat.beq k j with
  | true => v :: R7 r j
  | false => R7 r j
theorem S6 {α : Type} : ∀ {l : List (Nat × α)} {j : Nat} {v : α}, v ∈ R7 l j → (j, v) ∈ l
 | [], j, v, h => by cases h
 | (k, w) :: r, j, v, h => by
  simp only [R7] at h
  split at h
  ·rename_i e
   rcases List.mem_cons.1 h with rfl | h
   ·rw [i5 e]; exact List.mem_cons_self
   ·exact List.mem_cons_of_mem _ (S6 h)
  ·exact List.mem_cons_of_mem _ (S6 h)
def AE.of (tys : List (Nat × TyI)) (fns : List (Nat × Sig)) : AE := { ty := Q4 tys, fn := R7 fns }
def a9P : List (Nat × XSig) → List (Nat × Sig)
 | [] => []
 | (f, s) :: r => (f, s.sig) :: a9P r
def TD.isB : TD → TypeDesc → Bool
 | .int k, .int k' => decide (k = k')
 | .bool, .bool => true
 | .str, .string => true
 | .ptr e, .pointer e' => Nat.beq e e'
 | .sl e, .slice e' => Nat.beq e e'
 | .arr n e, .array n' e' => Nat.beq n n' && Nat.beq e e'
 | .st fs, .struct fields => decide (fields.toList.map (fun f => (f.offset, f.type)) = fs)
 | .other, .struct _ => false
 | .other, .array _ _ => false
 | .other, _ => true
 | _, _ => false
theorem TD.isB_is {t : TD} {d : TypeDesc} (h : t.isB d = true) : t.is d := by
 cases t <;> cases d <;> simp [TD.isB, TD.is] at h ⊢ <;> try (cases h; done)
 all_goals first
  | exact h.symm
  | (subst h; rfl)
  | (obtain ⟨a, b⟩ := h; exact ⟨a.symm, b.symm⟩)
  | exact h
def c0P : A1 → Option Value
 | .str s => some (.string s)
 | .nilp => some (.pointer none)
 | .nilsl => some (.slice none 0 0)
 | .nilif => some .nilIface
 | _ => none
def C6 : List Seg → Option (List Value)
 | [] => some []
 | .xs k n zs :: r => match Nat.beq zs.length n, C6 r with
  | true, some l => some (zs.map k.val ++ l)
  | _, _ => none
 | .one a :: r => match c0P a, C6 r with
  | some v, some l => some (v :: l)
  | _, _ => none
 | .rw _ _ :: _ => none
theorem b8C {ρ : Env} {a : A1} {v : Value} (h : c0P a = some v) : a.rel ρ v := by
 cases a <;> simp [c0P] at h <;> subst h <;> rfl
theorem a9Z {ρ : Env} : ∀ {l : List Seg} {cs : List Value}, C6 l = some cs → i2 ρ l cs
 | [], cs, h => by cases h; rfl
 | .xs k n zs :: r, cs, h => by
  simp only [C6] at h
  split at h
  ·rename_i e1 e2
   cases h
   exact ⟨i5 e1, _, rfl, a9Z e2⟩
  ·cases h
 | .one a :: r, cs, h => by
  simp only [C6] at h
  split at h
  ·rename_i e1 e2
   cases h
   exact ⟨_, _, rfl, b8C e1, a9Z e2⟩
  ·cases h
 | .rw _ _ :: _, cs, h => by cases h
def c2p : Value → Bool
 | .agg _ => true
 | _ => false
theorem TyOk.of {P : Program} {t : TypeId} {i : TyI} {d : TypeDesc} {f : TypeInfo} {z : Value} {cs : List Value} (h1 : P.underlying t = some d) (h2 : P.info? t = some f) (h3 : i.td.isB d = true)
  (h4 : f.size = i.size ∧ f.bytes = i.bytes) (h5 : f.zero = some z) (h6 : C6 i.zero = some cs) (h6' : z.cells.toList = cs) (h7 : Nat.beq cs.length i.size = true) (h8 : (i.td.agg || Nat.beq i.size 1) = true) (h9 : (!i.td.agg || c2p z) = true := by kernel_rfl) : TyOk P t i := by
 refine ⟨⟨d, h1, TD.isB_is h3⟩, ⟨f, z, h2, h4.1, h4.2, h5, fun ρ => by rw [h6']; exact a9Z h6, ?_⟩, fun h => ?_, fun hg f' z' g1 g2 => ?_⟩
 ·rw [← i5 h7, ← h6']; simp
 ·rw [h] at h8; exact i5 h8
 ·rw [h2] at g1; cases g1
  rw [h5] at g2; cases g2
  rw [hg] at h9
  cases z <;> first | exact ⟨_, rfl⟩ | cases h9
theorem AE.of_ok {P : Program} {tys : List (Nat × TyI)} {fns : List (Nat × Sig)} (h1 : ∀ p ∈ tys, TyOk P p.1 p.2) (h2 : ∀ p ∈ fns, i0 P p.1 p.2 ∧ i7 P p.1) : (AE.of tys fns).Ok P :=
 ⟨fun t i h => h1 (t, i) (y4 h), fun f s h => h2 (f, s) (S6 h), (fun _ s h => nomatch (show none = some s from h)), (fun _ J h => nomatch (show none = some J from h)), (fun _ _ _ h => nomatch (show none = some _ from h)), (fun _ J h => nomatch (show none = some J from h)), (fun _ _ f h => nomatch (show none = some f from h)), (fun _ _ h => nomatch (show none = some _ from h)), (fun _ h => nomatch (show false = true from h)), (fun _ _ h => nomatch (show false = true from h))⟩
def AE.ofQ (tys : List (Nat × TyI)) (fns : List (Nat × Sig)) (qs : List (Nat × IntKind × Nat)) : AE := { ty := Q4 tys, fn := R7 fns, eqs := Q4 qs }
theorem AE.ofQ_ok {P : Program} {tys : List (Nat × TyI)} {fns : List (Nat × Sig)} {qs : List (Nat × IntKind × Nat)} (h1 : ∀ p ∈ tys, TyOk P p.1 p.2) (h2 : ∀ p ∈ fns, i0 P p.1 p.2 ∧ i7 P p.1)
  (h3 : ∀ p ∈ qs, StEq P p.1 p.2.1 p.2.2) : (AE.ofQ tys fns qs).Ok P :=
 ⟨fun t i h => h1 (t, i) (y4 h), fun f s h => h2 (f, s) (S6 h), (fun _ s h => nomatch (show none = some s from h)), (fun _ J h => nomatch (show none = some J from h)), fun t k n h => h3 (t, k, n) (y4 h), (fun _ J h => nomatch (show none = some J from h)), (fun _ _ f h => nomatch (show none = some f from h)), (fun _ _ h => nomatch (show none = some _ from h)), (fun _ h => nomatch (show false = true from h)), (fun _ _ h => nomatch (show false = true from h))⟩
theorem b1e : ∀ {xs : List (Nat × XSig)} {f : Nat} {s : Sig}, (f, s) ∈ a9P xs → ∃ x, (f, x) ∈ xs ∧ s = x.sig
 | (f0, x0) :: r, f, s, h => by
  simp only [a9P, List.mem_cons] at h
  rcases h with h | h
  ·cases h; exact ⟨x0, by simp, rfl⟩
  ·obtain ⟨x, h1, h2⟩ := b1e h
   exact ⟨x, by simp [h1], h2⟩
theorem a1I {α : Type} : ∀ {l l' : List (Nat × α)} {j : Nat}, R7 (l ++ l') j = R7 l j ++ R7 l' j
 | [], _, _ => rfl
 | (k, v) :: r, l', j => by
  simp only [List.cons_append, R7]
  split
  ·simp only [List.cons_append, a1I]
  ·exact a1I
theorem a9Q : ∀ {xs : List (Nat × XSig)} {f : Nat} {s : XSig}, Q4 xs f = some s → ∃ l, R7 (a9P xs) f = s.sig :: l
 | (k, x) :: r, f, s, h => by
  simp only [Q4] at h
  simp only [a9P, R7]
  split at h
  ·cases h; exact ⟨_, rfl⟩
  ·exact a9Q h
def c0U : List Nat → Nat → Bool
 | [], _ => false
 | k :: r, j => match Nat.beq k j with
  | true => true
  | false => c0U r j
def b2G : List (Nat × String × Nat) → Nat → String → Option Nat
 | [], _, _ => none
 | (k, n, f) :: r, t, s => match Nat.beq k t, decide (n = s) with
  | true, true => some f
  | _, _ => b2G r t s
theorem a6l : ∀ {l : List (Nat × String × Nat)} {t : Nat} {s : String} {f : Nat}, b2G l t s = some f → (t, s, f) ∈ l
 | [], t, s, f, h => by cases h
 | (k, n, g) :: r, t, s, f, h => by
  simp only [b2G] at h
  split at h
  ·rename_i e1 e2
   cases h
   rw [i5 e1, of_decide_eq_true e2]
   exact List.mem_cons_self
  ·exact List.mem_cons_of_mem _ (a6l h)
def AE.ofI (tys : List (Nat × TyI)) (fns : List (Nat × Sig)) (qs : List (Nat × IntKind × Nat)) (is : List (Nat × Inl)) (lits : List Nat) (unr : List (Nat × Nat)) (ms : List (Nat × String × Nat)) : AE :=
 { ty := Q4 tys, fn := R7 fns, eqs := Q4 qs, inl := Q4 is, lits := c0U lits, unr := Q4 unr, mth := b2G ms }
theorem AE.ofI_ok {P : Program} {tys : List (Nat × TyI)} {fns : List (Nat × Sig)} {qs : List (Nat × IntKind × Nat)} {is : List (Nat × Inl)} {lits : List Nat} {unr : List (Nat × Nat)} {ms : List (Nat × String × Nat)}
  (h1 : ∀ p ∈ tys, TyOk P p.1 p.2) (h2 : ∀ p ∈ fns, i0 P p.1 p.2 ∧ i7 P p.1) (h3 : ∀ p ∈ qs, StEq P p.1 p.2.1 p.2.2) (h4 : ∀ p ∈ is, Y4 P p.1 p.2 ∧ i7 P p.1) (h5 : ∀ p ∈ ms, b2A P p.1 p.2.1 p.2.2) : (AE.ofI tys fns qs is lits unr ms).Ok P :=
 ⟨fun t i h => h1 (t, i) (y4 h), fun f s h => h2 (f, s) (S6 h), (fun _ s h => nomatch (show none = some s from h)), (fun _ J h => nomatch (show none = some J from h)), fun t k n h => h3 (t, k, n) (y4 h),
  fun f J h => h4 (f, J) (y4 h), fun t s f h => h5 (t, s, f) (a6l h), (fun _ _ h => nomatch (show none = some _ from h)), (fun _ h => nomatch (show false = true from h)), (fun _ _ h => nomatch (show false = true from h))⟩
def c1R : List (Nat × Nat) → Nat → Nat → Bool
 | [], _, _ => false
 | (a, b) :: r, i, j => match Nat.beq a i, Nat.beq b j with
  | true, true => true
  | _, _ => c1R r i j
theorem b5O : ∀ {l : List (Nat × Nat)} {i j : Nat}, c1R l i j = true → (i, j) ∈ l
 | [], _, _, h => by cases h
 | (a, b) :: r, i, j, h => by
  simp only [c1R] at h
  split at h
  ·rename_i e1 e2
   rw [i5 e1, i5 e2]
   exact List.mem_cons_self
  ·exact List.mem_cons_of_mem _ (b5O h)
theorem b5N : ∀ {l : List Nat} {i : Nat}, c0U l i = true → i ∈ l
 | [], _, h => by cases h
 | k :: r, j, h => by
  simp only [c0U] at h
  split at h
  ·rename_i e1
   rw [i5 e1]
   exact List.mem_cons_self
  ·exact List.mem_cons_of_mem _ (b5N h)
def AE.ofA (tys : List (Nat × TyI)) (fns : List (Nat × Sig)) (xs : List (Nat × XSig)) (cs : List (Nat × Cat)) (qs : List (Nat × IntKind × Nat)) (is : List (Nat × Inl)) (lits : List Nat) (unr : List (Nat × Nat)) (ms : List (Nat × String × Nat)) (ics : List Nat) (ims : List (Nat × Nat)) (rts : List (Nat × RtC)) : AE :=
 { ty := Q4 tys, fn := R7 (a9P xs ++ fns), xn := Q4 xs, ct := Q4 cs, eqs := Q4 qs, inl := Q4 is, lits := c0U lits, unr := Q4 unr, mth := b2G ms, ifc := c0U ics, imp := c1R ims, rt := fun f => match Q4 xs f with | some _ => none | none => Q4 rts f }
theorem AE.ofA_ok {P : Program} {tys : List (Nat × TyI)} {fns : List (Nat × Sig)} {xs : List (Nat × XSig)} {cs : List (Nat × Cat)} {qs : List (Nat × IntKind × Nat)} {is : List (Nat × Inl)} {lits : List Nat} {unr : List (Nat × Nat)} {ms : List (Nat × String × Nat)} {ics : List Nat} {ims : List (Nat × Nat)} {rts : List (Nat × RtC)}
  (h1 : ∀ p ∈ tys, TyOk P p.1 p.2) (h2 : ∀ p ∈ fns, i0 P p.1 p.2 ∧ i7 P p.1) (hx : ∀ p ∈ xs, XOk P p.1 p.2 ∧ i7 P p.1) (hc : ∀ p ∈ cs, b68 P p.1 p.2 ∧ i7 P p.1) (h3 : ∀ p ∈ qs, StEq P p.1 p.2.1 p.2.2) (h4 : ∀ p ∈ is, Y4 P p.1 p.2 ∧ i7 P p.1) (h5 : ∀ p ∈ ms, b2A P p.1 p.2.1 p.2.2) (h6 : ∀ t ∈ ics, b8I P t) (h7 : ∀ p ∈ ims, b93 P p.1 p.2) (h8 : ∀ p ∈ rts, c2h P p.1 p.2 ∧ i7 P p.1) : (AE.ofA tys fns xs cs qs is lits unr ms ics ims rts).Ok P :=
 ⟨fun t i h => h1 (t, i) (y4 h), fun f s h => by
   rcases List.mem_append.1 (S6 h) with h | h
   ·obtain ⟨x, g1, rfl⟩ := b1e h
    exact ⟨(hx (f, x) g1).1.sig, (hx (f, x) g1).2⟩
   ·exact h2 (f, s) h,
  fun f s h => by
   obtain ⟨l, hl⟩ := a9Q h
   refine ⟨(hx (f, s) (y4 h)).1, (hx (f, s) (y4 h)).2, ⟨l ++ R7 fns f, ?_⟩, ?_⟩
   ·show R7 (a9P xs ++ fns) f = _
    rw [a1I, hl]
    rfl
   ·show (match Q4 xs f with | some _ => none | none => Q4 rts f) = none
    have h : Q4 xs f = some s := h
    rw [h],
  fun f J h => hc (f, J) (y4 h), fun t k n h => h3 (t, k, n) (y4 h), fun f J h => h4 (f, J) (y4 h), fun t s f h => h5 (t, s, f) (a6l h), fun f c h => by
   have h : (match Q4 xs f with | some _ => none | none => Q4 rts f) = some c := h
   split at h
   ·cases h
   ·exact h8 (f, c) (y4 h), fun t h => h6 t (b5N h), fun t i h => h7 (t, i) (b5O h)⟩
theorem c6 {α : Type u} {p : α → Prop} : ∀ x ∈ ([] : List α), p x := fun x h => by cases h
theorem all_cons {α : Type u} {p : α → Prop} {a : α} {l : List α} (h : p a) (hl : ∀ x ∈ l, p x) : ∀ x ∈ a :: l, p x := by
 intro x hx
 rcases List.mem_cons.1 hx with rfl | hx
 ·exact h
 ·exact hl x hx
def L5 (k : Nat) (body : Code) : Code := match F7 k (x9 body) with
 | .loop c :: _ => c
 | _ => .skip
def H4 (k : Nat) (body : Code) : Code := match F7 k (x9 body) with
 | .seq c _ :: _ => c
 | _ => .skip
def z0 (k : Nat) (body : Code) : Code := match F7 k (x9 body) with
 | .seq _ c :: _ => c
 | _ => .skip
theorem p8 {P : Program} {E : AE} (hE : E.Ok P) (hmix : P.follows .mixedOrders = true) {f : FuncId} {fn : Func} (hf : P.funcs[f]? = some fn) {H : Hints} {L : Nat → LT} {c : Code} (hc : fn.body = some c)
  (hL : ∀ n, OkAll E H n (L n) (x9 c)) {ks rs : List Kd} {F : Nat → Ds ks → Option (Rs rs)} (hF : ∀ n x, c2j E H (L n) n fn c ks rs x = F n x)
  {g : Ds ks → Option (Rs rs)} (hg : ∀ x r, g x = some r → ∃ n, F n x = some r) : i0 P f ⟨ks, rs, g⟩ :=
 b7y hE hmix hf (H := H) fun x r h => by
  obtain ⟨n, hn⟩ := hg x r h
  exact ⟨n, b6n hc (hL n) (by rw [hF]; exact hn)⟩
end Go.Ax
namespace Go.Ax
open Go.RowKit Go.ChangeShapes Go.WideShapes
def B7 (k : IntKind) (n : Int) : Prop := (Lit.int k n).wf = true
def FK.wf : (K : FK) → K.T → Prop
 | .int k, n => B7 k n
 | .bool, _ => True
 | .xs k n, zs => zs.length = n ∧ match k with
  | .int k => ∀ z ∈ zs, B7 k z
  | .bool => ∀ z ∈ zs, z = 0 ∨ z = 1
 | .sl k, zs => zs.length ≤ maxLen ∧ match k with
  | .int k => ∀ z ∈ zs, B7 k z
  | .bool => ∀ z ∈ zs, z = 0 ∨ z = 1
 | .fs k, zs => zs.length ≤ maxLen ∧ match k with
  | .int k => ∀ z ∈ zs, B7 k z
  | .bool => ∀ z ∈ zs, z = 0 ∨ z = 1
def b7u : (L : List FK) → Cs L → Prop
 | [], _ => True
 | K :: r, x => K.wf x.1 ∧ b7u r x.2
def Kd.wf : (K : Kd) → K.T → Prop
 | .int k, n => B7 k n
 | .bool, _ => True
 | .str, s => s.size ≤ maxLen
 | .xs k n, zs => zs.length = n ∧ match k with
  | .int k => ∀ z ∈ zs, B7 k z
  | .bool => ∀ z ∈ zs, z = 0 ∨ z = 1
 | .sl k, zs => zs.length ≤ maxLen ∧ match k with
  | .int k => ∀ z ∈ zs, B7 k z
  | .bool => ∀ z ∈ zs, z = 0 ∨ z = 1
 | .sls k, l => l.length ≤ maxLen ∧ ∀ zs ∈ l, zs.length ≤ maxLen ∧ match k with
  | .int k => ∀ z ∈ zs, B7 k z
  | .bool => ∀ z ∈ zs, z = 0 ∨ z = 1
 | .fnc _, _ => True
 | .fcl _ k, n => B7 k n
 | .rp (.int k), n => B7 k n
 | .rp (.xs k n), zs => zs.length = n ∧ match k with
  | .int k => ∀ z ∈ zs, B7 k z
  | .bool => ∀ z ∈ zs, z = 0 ∨ z = 1
 | .rp (.sl k), zs => zs.length ≤ maxLen ∧ match k with
  | .int k => ∀ z ∈ zs, B7 k z
  | .bool => ∀ z ∈ zs, z = 0 ∨ z = 1
 | .rp (.ct l), x => b7u l x
 | .sla k m, zs => (∃ n, zs.length = n * m ∧ n ≤ maxLen) ∧ match k with
  | .int k => ∀ z ∈ zs, B7 k z
  | .bool => ∀ z ∈ zs, z = 0 ∨ z = 1
 | .cat l, x => b7u l x
 | .io l, x => b7u l x
 | .ios k, zs => zs.length ≤ maxLen ∧ match k with
  | .int k => ∀ z ∈ zs, B7 k z
  | .bool => ∀ z ∈ zs, z = 0 ∨ z = 1
 | .xv k, zs => zs.length ≤ maxLen ∧ match k with
  | .int k => ∀ z ∈ zs, B7 k z
  | .bool => ∀ z ∈ zs, z = 0 ∨ z = 1
 | .op l, x => b7u l x
 | .fsl k, zs => zs.length ≤ maxLen ∧ match k with
  | .int k => ∀ z ∈ zs, B7 k z
  | .bool => ∀ z ∈ zs, z = 0 ∨ z = 1
 | .asl k, zs => zs.length ≤ maxLen ∧ match k with
  | .int k => ∀ z ∈ zs, B7 k z
  | .bool => ∀ z ∈ zs, z = 0 ∨ z = 1
def b5m : (ks : List Kd) → Ds ks → Prop
 | [], _ => True
 | k :: ks, x => k.wf x.1 ∧ b5m ks x.2
mutual
inductive Lays (P : Program) : TypeId → List FK → Prop
 | int {t : TypeId} {k : IntKind} (h : P.underlying t = some (.int k)) (hc : P.cellsOf t = 1) : Lays P t [.int k]
 | bool {t : TypeId} (h : P.underlying t = some .bool) (hc : P.cellsOf t = 1) : Lays P t [.bool]
 | xs {t e : TypeId} {k : IntKind} {n : Nat} (h1 : P.underlying t = some (.array n e)) (h2 : P.underlying e = some (.int k)) (h3 : P.cellsOf e = 1) (h4 : P.cellsOf t = n) : Lays P t [.xs (.int k) n]
 | xsb {t e : TypeId} {n : Nat} (h1 : P.underlying t = some (.array n e)) (h2 : P.underlying e = some .bool) (h3 : P.cellsOf e = 1) (h4 : P.cellsOf t = n) : Lays P t [.xs .bool n]
 | sl {t e : TypeId} {k : IntKind} (h1 : P.underlying t = some (.slice e)) (h2 : P.underlying e = some (.int k)) (h3 : P.cellsOf e = 1) (hc : P.cellsOf t = 1) : Lays P t [.sl (.int k)]
 | st {t : TypeId} {fs : Array Field} {L : List FK} (h1 : P.underlying t = some (.struct fs)) (h2 : LaysF P 0 fs.toList L (P.cellsOf t)) : Lays P t L
inductive LaysF (P : Program) : Nat → List Field → List FK → Nat → Prop
 | nil {n : Nat} : LaysF P n [] [] n
 | cons {f : Field} {l fs : List Field} {LL L L' : List FK} {o m n : Nat} (hl : l = f :: fs) (hL : LL = L ++ L') (h1 : f.offset = o) (hm : P.cellsOf f.type = m) (h2 : Lays P f.type L) (h3 : LaysF P (o + m) fs L' n) : LaysF P o l LL n
end
theorem Lays.st' {P : Program} {t : TypeId} {fs : Array Field} {L : List FK} (n : Nat) (h1 : P.underlying t = some (.struct fs)) (hn : P.cellsOf t = n) (h2 : LaysF P 0 fs.toList L n) : Lays P t L := .st h1 (hn ▸ h2)
def Kd.isTy (P : Program) (t : TypeId) : Kd → Prop
 | .int k => P.underlying t = some (.int k)
 | .bool => P.underlying t = some .bool
 | .str => P.underlying t = some .string
 | .xs (.int k) n => ∃ e, P.underlying t = some (.array n e) ∧ P.underlying e = some (.int k) ∧ P.cellsOf e = 1 ∧ P.cellsOf t = n
 | .xs .bool n => ∃ e, P.underlying t = some (.array n e) ∧ P.underlying e = some .bool ∧ P.cellsOf e = 1 ∧ P.cellsOf t = n
 | .sl (.int k) => ∃ e, P.underlying t = some (.slice e) ∧ P.underlying e = some (.int k) ∧ P.cellsOf e = 1
 | .sl .bool => ∃ e, P.underlying t = some (.slice e) ∧ P.underlying e = some .bool ∧ P.cellsOf e = 1
 | .sls (.int k) => ∃ e e2, P.underlying t = some (.slice e) ∧ P.underlying e = some (.slice e2) ∧ P.underlying e2 = some (.int k) ∧ P.cellsOf e = 1 ∧ P.cellsOf e2 = 1
 | .sla k m => ∃ e, P.underlying t = some (.slice e) ∧ Lays P e [.xs k m] ∧ P.cellsOf e = m ∧ 0 < m
 | .cat L => (∃ fs, P.underlying t = some (.struct fs)) ∧ Lays P t L
 | _ => False
def a98 (P : Program) : List Kd → List TypeId → Prop
 | [], ts => ts = []
 | k :: ks, ts => ∃ t ts', ts = t :: ts' ∧ k.isTy P t ∧ (P.readableRec t = true ∧ t < P.types.size) ∧ a98 P ks ts'
theorem b7H {P : Program} : a98 P [] [] := rfl
theorem b6r {P : Program} {k : Kd} {ks : List Kd} {ts : List TypeId} (t : TypeId) (ts' : List TypeId) (h : ts = t :: ts') (h1 : k.isTy P t) (h2 : P.readableRec t = true) (h3 : t < P.types.size) (h4 : a98 P ks ts') : a98 P (k :: ks) ts := ⟨t, ts', h, h1, ⟨h2, h3⟩, h4⟩
theorem c0s {P : Program} {t e : TypeId} {k : IntKind} (h1 : P.underlying t = some (.slice e)) (h2 : P.underlying e = some (.int k)) (h3 : P.cellsOf e = 1) : Kd.isTy P t (.sl (.int k)) := ⟨e, h1, h2, h3⟩
def a0C (W : World) : View := ⟨W, fun _ => True, fun _ => True⟩
section
variable {H : Type} {enc : TypeId × Value → H} {P : Program} {W : World} {r : Reach} {b0 : Nat}
theorem a5j {α : Type} {l : List α} {i : Nat} {a : α} (h : l[i]? = some a) : (l.drop i).take 1 = [a] := by
 obtain ⟨h1, h2⟩ := List.getElem?_eq_some_iff.1 h
 rw [List.drop_eq_getElem_cons h1]
 simp [h2]
theorem b4U {α : Type} {f : α → Value} {Q : α → Prop} : ∀ {C : List Value}, (∀ c ∈ C, ∃ a, c = f a ∧ Q a) → ∃ zs : List α, C = zs.map f ∧ ∀ z ∈ zs, Q z
 | [], _ => ⟨[], rfl, fun z h => by cases h⟩
 | c :: C, h => by
  obtain ⟨a, h1, h2⟩ := h c (by simp)
  obtain ⟨zs, h3, h4⟩ := b4U (C := C) (fun c hc => h c (by simp [hc]))
  refine ⟨a :: zs, by simp [h1, h3], fun z hz => ?_⟩
  rcases List.mem_cons.1 hz with rfl | hz
  ·exact h2
  ·exact h4 z hz
theorem b90 {L M : List Value} {off : Nat} (h : ∀ i, i < M.length → L[off + i]? = M[i]?) (h0 : 0 < M.length) : L = L.take off ++ M ++ L.drop (off + M.length) := by
 have hlast := h (M.length - 1) (by omega)
 rw [List.getElem?_eq_getElem (l := M) (by omega)] at hlast
 have hlen : off + M.length ≤ L.length := by
  have := (List.getElem?_eq_some_iff.1 hlast).1
  omega
 have : M = (L.drop off).take M.length := by
  apply List.ext_getElem?
  intro i
  by_cases hi : i < M.length
  ·rw [List.getElem?_take, if_pos hi, List.getElem?_drop, h i hi]
  ·rw [List.getElem?_eq_none (by omega), List.getElem?_eq_none (by simp; omega)]
 conv => rhs; rw [this]
 rw [List.length_take, List.length_drop, Nat.min_eq_left (by omega), ← List.drop_drop, List.append_assoc, List.take_append_drop, List.take_append_drop]
theorem c1C {a : Addr} {len cap : Nat} {k : IntKind} {zs : List Int} (h : ∀ i, i < cap → W.cell? (a.add i) = some (.int k (zs.getD i 0))) (hl : len ≤ cap ∧ len ≤ zs.length) (h0 : 0 < len) : a8a (a0C W) (some a) ((zs.take len).map (CK.int k).val) := by
 intro _
 have hc0 := h 0 (by omega)
 obtain ⟨blk, off, sp⟩ := a
 simp only [Addr.add, if_true] at hc0
 unfold World.cell? at hc0
 split at hc0
 ·rename_i cs ty fr hh
  split at hc0
  ·cases hc0
  ·rename_i hsp
   have hsp : sp = none := by cases sp <;> simp_all
   subst hsp
   simp only at hh hc0
   have h1 : off < cs.size := (Array.getElem?_eq_some_iff.1 hc0).1
   refine ⟨blk, cs, ty, fr, cs.toList.take off, cs.toList.drop (off + ((zs.take len).map (CK.int k).val).length), by simp [Nat.min_eq_left (Nat.le_of_lt h1)], trivial, hh, ?_⟩
   refine b90 (fun i hi => ?_) (by simp; omega)
   have hi' : i < len := by simpa [Nat.min_eq_left hl.2] using hi
   have := h i (by omega)
   rw [Addr.add_lit] at this
   simp only [World.cell?, hh, Option.isSome_none] at this
   rw [Array.getElem?_toList, List.getElem?_map, List.getElem?_take, if_pos hi', List.getElem?_eq_getElem (by omega)]
   simp only [Bool.false_eq_true, if_false] at this
   rw [this, List.getD_eq_getElem?_getD, List.getElem?_eq_getElem (by omega)]
   rfl
 ·cases hc0
theorem b4T {a : Addr} {C : List Value} (h : ∀ (i : Nat) c, C[i]? = some c → W.cell? (a.add i) = some c) : a8a (a0C W) (some a) C := by
 intro h0
 have hc0 := h 0 C[0] (List.getElem?_eq_getElem h0)
 obtain ⟨blk, off, sp⟩ := a
 simp only [Addr.add, if_true] at hc0
 unfold World.cell? at hc0
 split at hc0
 ·rename_i cs ty fr hh
  split at hc0
  ·cases hc0
  ·rename_i hsp
   have hsp : sp = none := by cases sp <;> simp_all
   subst hsp
   simp only at hh hc0
   have h1 : off < cs.size := (Array.getElem?_eq_some_iff.1 hc0).1
   refine ⟨blk, cs, ty, fr, cs.toList.take off, cs.toList.drop (off + C.length), by simp [Nat.min_eq_left (Nat.le_of_lt h1)], trivial, hh, ?_⟩
   refine b90 (fun i hi => ?_) h0
   have := h i C[i] (List.getElem?_eq_getElem hi)
   rw [Addr.add_lit] at this
   simp only [World.cell?, hh, Option.isSome_none, Bool.false_eq_true, if_false] at this
   rw [Array.getElem?_toList, this, List.getElem?_eq_getElem hi]
 ·cases hc0
def b4w : CK → List Int → Prop
 | .int k, zs => ∀ z ∈ zs, B7 k z
 | .bool, zs => ∀ z ∈ zs, z = 0 ∨ z = 1
def CK.isTy (P : Program) (e : TypeId) : CK → Prop
 | .int k => P.underlying e = some (.int k)
 | .bool => P.underlying e = some .bool
theorem b7n {k : CK} {e : TypeId} (he : k.isTy P e) {m : Nat} {cs : List Value} {y : DataW H × List MemPlace} (h : DataW.trod enc P W 0 (fun _ => true) true m e cs = some y) : ∃ z, cs = [k.val z] ∧ b4w k [z] := by
 cases k with
 | int k =>
  obtain ⟨z, hz, _, hw⟩ := DataW.trod_int he h
  exact ⟨z, hz, fun x hx => by rw [List.mem_singleton.1 hx]; exact hw⟩
 | bool =>
  obtain ⟨z, hz, _⟩ := DataW.trod_bool he h
  cases z
  ·exact ⟨0, hz, fun x hx => .inl (List.mem_singleton.1 hx)⟩
  ·exact ⟨1, hz, fun x hx => .inr (List.mem_singleton.1 hx)⟩
theorem b7X {k : CK} {z : Int} {zs : List Int} (h1 : b4w k [z]) (h2 : b4w k zs) : b4w k (z :: zs) := by
 cases k with
 | int k =>
  intro x hx
  rcases List.mem_cons.1 hx with rfl | hx
  ·exact h1 _ (by simp)
  ·exact h2 _ hx
 | bool =>
  intro x hx
  rcases List.mem_cons.1 hx with rfl | hx
  ·exact h1 _ (by simp)
  ·exact h2 _ hx
theorem b0R {k : CK} : ∀ {C : List Value}, (∀ c ∈ C, ∃ z, c = k.val z ∧ b4w k [z]) → ∃ zs : List Int, C = zs.map k.val ∧ b4w k zs
 | [], _ => ⟨[], rfl, by cases k <;> exact fun z hz => by cases hz⟩
 | c :: C, h => by
  obtain ⟨a, h1, h2⟩ := h c (by simp)
  obtain ⟨zs, h3, h4⟩ := b0R (C := C) (fun c hc => h c (by simp [hc]))
  exact ⟨a :: zs, by simp [h1, h3], b7X h2 h4⟩
theorem b7V {p : Nat → Int → Prop} : ∀ {len : Nat}, (∀ i, i < len → ∃ z, p i z) → ∃ zs : List Int, zs.length = len ∧ ∀ (i : Nat) z, zs[i]? = some z → p i z
 | 0, _ => ⟨[], rfl, fun i z h => by simp at h⟩
 | n + 1, h => by
  obtain ⟨zs, q1, q2⟩ := b7V (len := n) (fun i hi => h i (by omega))
  obtain ⟨z, q3⟩ := h n (by omega)
  refine ⟨zs ++ [z], by simp [q1], fun i x hx => ?_⟩
  rw [List.getElem?_append] at hx
  split at hx
  ·exact q2 i x hx
  ·rename_i hge
   have hi : i - zs.length = 0 := by
    have := (List.getElem?_eq_some_iff.1 hx).1
    simp at this; omega
   rw [hi] at hx
   cases hx
   rw [show i = n by omega]
   exact q3
theorem b2l {k : CK} {t e : TypeId} (h1 : P.underlying t = some (.slice e)) (h2 : k.isTy P e) (h3 : P.cellsOf e = 1) {m : Nat} {cs : List Value} {y : DataW H × List MemPlace} (h : DataW.trod enc P W 0 (fun _ => true) true m t cs = some y) :
  ∃ v zs, cs = [v] ∧ b0I k (a0C W) zs v ∧ zs.length ≤ maxLen ∧ b4w k zs := by
 rcases DataW.trod_slice h1 h with ⟨rfl, _⟩ | ⟨a, len, cap, elems, rest, n, _, rfl, _, _, hlc, hcm, hel, hx, _, _⟩
 ·exact ⟨_, [], rfl, ⟨none, 0, rfl, Nat.le_refl _, fun h => by simp at h⟩, by simp [maxLen], by cases k <;> exact fun z hz => by cases hz⟩
 ·have hcell : ∀ i, i < len → ∃ z, W.cell? (a.add i) = some (k.val z) ∧ b4w k [z] := by
   intro i hi
   have := hx i hi
   rw [List.getElem?_eq_getElem (by omega), Option.bind_eq_some_iff] at this
   obtain ⟨cs', g1, g2⟩ := this
   obtain ⟨z, rfl, hz⟩ := b7n h2 g2
   rw [h3, Nat.mul_one] at g1
   have := (World.cells?_some g1).2.2 0 (by omega)
   exact ⟨z, by simpa [Addr.add_add] using this, hz⟩
  obtain ⟨zs, hz1, hz2⟩ := b7V hcell
  refine ⟨_, zs, rfl, ⟨some a, cap, by rw [hz1], by omega, b4T fun i c hc => ?_⟩, by omega, ?_⟩
  ·rw [List.getElem?_map, Option.map_eq_some_iff] at hc
   obtain ⟨z, hz, rfl⟩ := hc
   exact (hz2 i z hz).1
  ·have all : ∀ z ∈ zs, b4w k [z] := fun z hz => by
    obtain ⟨i, hi⟩ := List.mem_iff_getElem?.1 hz
    exact (hz2 i z hi).2
   cases k <;> exact fun z hz => all z hz z (by simp)
theorem a8B {V : View} : ∀ {L L' : List FK} {x : Cs L} {y : Cs L'} {c1 c2 : List Value}, b5z V L x c1 → b5z V L' y c2 → b7u L x → b7u L' y → ∃ z, b5z V (L ++ L') z (c1 ++ c2) ∧ b7u (L ++ L') z
 | [], L', x, y, c1, c2, h1, h2, _, w2 => by
  have h1 : c1 = [] := h1
  subst h1
  exact ⟨y, h2, w2⟩
 | K :: r, L', x, y, c1, c2, h1, h2, w1, w2 => by
  obtain ⟨d1, d2, rfl, g1, g2⟩ := h1
  obtain ⟨z, q1, q2⟩ := a8B g2 h2 w1.2 w2
  exact ⟨(x.1, z), ⟨d1, d2 ++ c2, by rw [List.append_assoc], g1, q1⟩, w1.1, q2⟩
theorem b9L {k : CK} {t e : TypeId} {n : Nat} (h1 : P.underlying t = some (.array n e)) (h2 : k.isTy P e) (h3 : P.cellsOf e = 1) (h4 : P.cellsOf t = n) {m : Nat} {cs : List Value} {y : DataW H × List MemPlace} (h : DataW.trod enc P W 0 (fun _ => true) true m t cs = some y) :
  ∃ zs, cs = zs.map k.val ∧ zs.length = n ∧ b4w k zs := by
 obtain ⟨xs, m', _, _, hl, hxl, hx⟩ := DataW.trod_array h1 h
 obtain ⟨zs, q1, q2⟩ := b0R (k := k) (C := cs) (fun c hc => by
  obtain ⟨i, hi⟩ := List.mem_iff_getElem?.1 hc
  have hlt : i < n := by rw [← h4, ← hl]; exact (List.getElem?_eq_some_iff.1 hi).1
  have := hx i hlt
  rw [h3, Nat.mul_one, a5j hi, List.getElem?_eq_getElem (by omega)] at this
  obtain ⟨z, hz, hw⟩ := b7n h2 this
  simp only [List.cons.injEq, and_true] at hz
  exact ⟨z, hz, hw⟩)
 exact ⟨zs, q1, by rw [q1] at hl; rw [← h4, ← hl]; simp, q2⟩
theorem FK.wf_xs {k : CK} {n : Nat} {zs : List Int} (h1 : zs.length = n) (h2 : b4w k zs) : (FK.xs k n).wf zs := by
 cases k <;> exact ⟨h1, h2⟩
theorem FK.wf_sl {k : CK} {zs : List Int} (h1 : zs.length ≤ maxLen) (h2 : b4w k zs) : (FK.sl k).wf zs := by
 cases k <;> exact ⟨h1, h2⟩
def c0X (enc : TypeId × Value → H) (P : Program) (W : World) (t : TypeId) (L : List FK) : Prop :=
 ∀ (m : Nat) (cs : List Value) (y : DataW H × List MemPlace), DataW.trod enc P W 0 (fun _ => true) true m t cs = some y → ∃ x, b5z (a0C W) L x cs ∧ b7u L x
def c0Y (enc : TypeId × Value → H) (P : Program) (W : World) (o : Nat) (l : List Field) (L : List FK) (n : Nat) : Prop :=
 ∀ (m : Nat) (cs : List Value), cs.length = n → (∀ (i : Nat) (f : Field), l[i]? = some f → ∃ y, DataW.trod enc P W 0 (fun _ => true) true m f.type ((cs.drop f.offset).take (P.cellsOf f.type)) = some y) →
  ∃ x, b5z (a0C W) L x (cs.drop o) ∧ b7u L x
theorem b7K {t : TypeId} {L : List FK} (h : Lays P t L) : c0X enc P W t L := by
 refine Lays.rec (motive_1 := fun t L _ => c0X enc P W t L) (motive_2 := fun o l L n _ => c0Y enc P W o l L n) ?_ ?_ ?_ ?_ ?_ ?_ ?_ ?_ h
 ·intro t k h _ m cs y hd
  obtain ⟨z, rfl, _, hw⟩ := DataW.trod_int h hd
  exact ⟨(z, ()), ⟨[.int _ z], [], rfl, rfl, rfl⟩, hw, trivial⟩
 ·intro t h _ m cs y hd
  obtain ⟨z, rfl, _⟩ := DataW.trod_bool h hd
  exact ⟨(z, ()), ⟨[.bool z], [], rfl, rfl, rfl⟩, trivial, trivial⟩
 ·intro t e k n h1 h2 h3 h4 m cs y hd
  obtain ⟨zs, rfl, q1, q2⟩ := b9L (k := .int k) h1 h2 h3 h4 hd
  exact ⟨(zs, ()), ⟨_, [], by simp, ⟨q1, rfl⟩, rfl⟩, FK.wf_xs q1 q2, trivial⟩
 ·intro t e n h1 h2 h3 h4 m cs y hd
  obtain ⟨zs, rfl, q1, q2⟩ := b9L (k := .bool) h1 h2 h3 h4 hd
  exact ⟨(zs, ()), ⟨_, [], by simp, ⟨q1, rfl⟩, rfl⟩, FK.wf_xs q1 q2, trivial⟩
 ·intro t e k h1 h2 h3 _ m cs y hd
  obtain ⟨v, zs, rfl, q1, q2, q3⟩ := b2l (k := .int k) h1 h2 h3 hd
  exact ⟨(zs, ()), ⟨[v], [], rfl, ⟨v, rfl, q1⟩, rfl⟩, FK.wf_sl q2 q3, trivial⟩
 ·intro t fs L h1 _ ih m cs y hd
  obtain ⟨xs, n, _, _, hl, hxl, hx⟩ := DataW.trod_struct h1 hd
  have := ih n cs hl (fun i f hf => by
   have hi : i < xs.length := by rw [hxl]; simpa using (List.getElem?_eq_some_iff.1 hf).1
   have := hx i f (by simpa using hf)
   rw [List.getElem?_eq_getElem hi] at this
   exact ⟨_, this⟩)
  simpa using this
 ·intro n m cs hl _
  exact ⟨(), by show cs.drop n = []; exact List.drop_eq_nil_of_le (by omega), trivial⟩
 ·intro f l fs LL L L' o mm n hl hL h1 hm _ _ ih1 ih2 m cs hle hx
  subst hl; subst hL; subst h1; subst hm
  obtain ⟨y, hy⟩ := hx 0 f rfl
  obtain ⟨x1, q1, q2⟩ := ih1 m _ y hy
  obtain ⟨x2, q3, q4⟩ := ih2 m cs hle (fun i g hg => hx (i + 1) g (by simpa using hg))
  have := a8B q1 q3 q2 q4
  rw [← List.drop_drop, List.take_append_drop] at this
  exact this
theorem b2M {α : Type} [Inhabited α] {n : Nat} {p : Nat → α → Prop} (h : ∀ i, i < n → ∃ x, p i x) : ∃ f : Nat → α, ∀ i, i < n → p i (f i) := by
 classical
 refine ⟨fun i => if hi : i < n then Classical.choose (h i hi) else default, fun i hi => ?_⟩
 simp only [dif_pos hi]
 exact Classical.choose_spec (h i hi)
theorem b51 {m : Nat} {F : Nat → List Int} : ∀ {len : Nat}, (∀ i, i < len → (F i).length = m) → ((List.range len).flatMap F).length = len * m ∧ ∀ (p : Nat) z, ((List.range len).flatMap F)[p]? = some z → ∃ i j, i < len ∧ j < m ∧ p = i * m + j ∧ (F i)[j]? = some z
 | 0, _ => ⟨by simp, fun p z h => by simp at h⟩
 | n + 1, h => by
  obtain ⟨h1, h2⟩ := b51 (len := n) (fun i hi => h i (by omega))
  rw [List.range_succ, List.flatMap_append]
  simp only [List.flatMap_cons, List.flatMap_nil, List.append_nil]
  refine ⟨by rw [List.length_append, h1, h n (by omega)]; rw [Nat.add_mul, Nat.one_mul], fun p z hz => ?_⟩
  rw [List.getElem?_append] at hz
  split at hz
  ·obtain ⟨i, j, g1, g2, g3, g4⟩ := h2 p z hz
   exact ⟨i, j, by omega, g2, g3, g4⟩
  ·rename_i hge
   rw [h1] at hz hge
   have := (List.getElem?_eq_some_iff.1 hz).1
   rw [h n (by omega)] at this
   exact ⟨n, p - n * m, by omega, this, by omega, hz⟩
theorem c1F {k : CK} {t e : TypeId} {m : Nat} (h1 : P.underlying t = some (.slice e)) (h2 : Lays P e [.xs k m]) (h3 : P.cellsOf e = m) (hm0 : 0 < m) {fuel : Nat} {cs : List Value} {y : DataW H × List MemPlace} (h : DataW.trod enc P W 0 (fun _ => true) true fuel t cs = some y) :
  ∃ v zs, cs = [v] ∧ (Kd.sla k m).rd (a0C W) zs v ∧ (Kd.sla k m).wf zs := by
 have wf : ∀ {zs : List Int} {n : Nat}, zs.length = n * m → n ≤ maxLen → b4w k zs → (Kd.sla k m).wf zs := by
  intro zs n q1 q2 q3
  cases k <;> exact ⟨⟨n, q1, q2⟩, q3⟩
 rcases DataW.trod_slice h1 h with ⟨rfl, _⟩ | ⟨a, len, cap, elems, rest, n, _, rfl, _, _, hlc, hcm, hel, hx, _, _⟩
 ·exact ⟨_, [], rfl, ⟨none, 0, 0, rfl, by simp, Nat.le_refl _, .inl rfl, fun h => by simp at h⟩, wf (n := 0) (by simp) (by simp [maxLen]) (by cases k <;> exact fun z hz => by cases hz)⟩
 ·have hrow : ∀ i, i < len → ∃ zs : List Int, zs.length = m ∧ b4w k zs ∧ ∀ (j : Nat) z, zs[j]? = some z → W.cell? (a.add (i * m + j)) = some (k.val z) := by
   intro i hi
   have := hx i hi
   rw [List.getElem?_eq_getElem (by omega), Option.bind_eq_some_iff] at this
   obtain ⟨cs', g1, g2⟩ := this
   obtain ⟨x, ⟨c1, c2, rfl, ⟨e1, rfl⟩, e2⟩, hw, _⟩ := b7K h2 _ _ _ g2
   have e2 : c2 = [] := e2
   subst e2
   refine ⟨x.1, e1, by cases k <;> exact hw.2, fun j z hz => ?_⟩
   have hj := (List.getElem?_eq_some_iff.1 hz).1
   have := (World.cells?_some g1).2.2 j (by rw [h3]; omega)
   rw [List.append_nil, List.getElem?_map, hz, Addr.add_add, h3] at this
   exact this
  obtain ⟨F, hF⟩ := b2M hrow
  obtain ⟨q1, q2⟩ := b51 (m := m) (F := F) (fun i hi => (hF i hi).1)
  refine ⟨_, (List.range len).flatMap F, rfl, ⟨some a, cap, len, rfl, q1, hlc, .inr hm0, b4T fun p c hc => ?_⟩, wf q1 (by omega) ?_⟩
  ·rw [List.getElem?_map, Option.map_eq_some_iff] at hc
   obtain ⟨z, hz, rfl⟩ := hc
   obtain ⟨i, j, g1, g2, rfl, g4⟩ := q2 p z hz
   exact (hF i g1).2.2 j z g4
  ·have all : ∀ z ∈ (List.range len).flatMap F, b4w k [z] := fun z hz => by
    obtain ⟨i, hi, hz⟩ := List.mem_flatMap.1 hz
    have := (hF i (List.mem_range.1 hi)).2.1
    cases k <;> exact fun x hx => by rw [List.mem_singleton.1 hx]; exact this z hz
   cases k <;> exact fun z hz => all z hz z (by simp)
theorem c1G {k : IntKind} {t e e2 : TypeId} (h1 : P.underlying t = some (.slice e)) (h2 : P.underlying e = some (.slice e2)) (h3 : P.underlying e2 = some (.int k)) (h4 : P.cellsOf e = 1) (h5 : P.cellsOf e2 = 1) {fuel : Nat} {cs : List Value} {y : DataW H × List MemPlace} (h : DataW.trod enc P W 0 (fun _ => true) true fuel t cs = some y) :
  ∃ v l, cs = [v] ∧ (Kd.sls (.int k)).rd (a0C W) l v ∧ (Kd.sls (.int k)).wf l := by
 rcases DataW.trod_slice h1 h with ⟨rfl, _⟩ | ⟨a, len, cap, elems, rest, n, _, rfl, _, _, hlc, hcm, hel, hx, _, _⟩
 ·exact ⟨_, [], rfl, ⟨none, 0, [], rfl, Nat.le_refl _, rfl, fun h => by simp at h, fun i zs u h => by simp at h⟩, by simp [maxLen], fun zs hz => by cases hz⟩
 ·have hrow : ∀ i, i < len → ∃ p : Value × List Int, W.cell? (a.add i) = some p.1 ∧ b0I (.int k) (a0C W) p.2 p.1 ∧ p.2.length ≤ maxLen ∧ ∀ z ∈ p.2, B7 k z := by
   intro i hi
   have := hx i hi
   rw [List.getElem?_eq_getElem (by omega), Option.bind_eq_some_iff] at this
   obtain ⟨cs', g1, g2⟩ := this
   obtain ⟨v, zs, rfl, q1, q2, q3⟩ := b2l (k := .int k) h2 h3 h5 g2
   rw [h4, Nat.mul_one] at g1
   have := (World.cells?_some g1).2.2 0 (by omega)
   exact ⟨(v, zs), by simpa [Addr.add_add] using this, q1, q2, q3⟩
  obtain ⟨F, hF⟩ := b2M hrow
  refine ⟨_, (List.range len).map fun i => (F i).2, rfl, ⟨some a, cap, (List.range len).map fun i => (F i).1, by simp, by simpa using hlc, by simp, b4T fun p c hc => ?_, fun i zs u e1 e2 => ?_⟩, by simp; omega, fun zs hz => ?_⟩
  ·rw [List.getElem?_map, Option.map_eq_some_iff] at hc
   obtain ⟨i, hi, rfl⟩ := hc
   rw [List.getElem?_eq_some_iff] at hi
   obtain ⟨hi, rfl⟩ := hi
   simp at hi ⊢
   exact (hF p hi).1
  ·rw [List.getElem?_map, Option.map_eq_some_iff] at e1 e2
   obtain ⟨j, hj, rfl⟩ := e1
   obtain ⟨j', hj', rfl⟩ := e2
   rw [hj] at hj'
   cases hj'
   obtain ⟨hi, rfl⟩ := List.getElem?_eq_some_iff.1 hj
   simp at hi ⊢
   exact (hF i hi).2.1
  ·obtain ⟨i, hi, rfl⟩ := List.mem_map.1 hz
   have := hF i (List.mem_range.1 hi)
   exact ⟨this.2.2.1, this.2.2.2⟩
theorem c0Z {K : Kd} {t : TypeId} {v : Value} {d : DataW H} {ps : List MemPlace} (hK : K.isTy P t) (hval : Value.okWide P W r b0 t v) (hd : DataW.Trod enc P W 0 (fun _ => true) true t v d ps) : ∃ x, K.rd (a0C W) x v ∧ K.wf x := by
 cases K with
 | int k => obtain ⟨n, h, _, _, w⟩ := open_int hK hval hd; exact ⟨n, h, w⟩
 | bool => obtain ⟨n, h, _⟩ := open_bool hK hval hd; exact ⟨n, h, trivial⟩
 | str => obtain ⟨s, h, _, _, w⟩ := Go.ChangeMaps.open_string hK hval hd; exact ⟨s, h, w⟩
 | xs k n =>
  have main : ∀ (e : TypeId) (Q : Value → Prop), P.underlying t = some (.array n e) → P.cellsOf e = 1 → P.cellsOf t = n → (∀ m (c : Value) y, DataW.trod enc P W 0 (fun _ => true) true m e [c] = some y → Q c) → ∃ C : List Value, v = .agg C.toArray ∧ C.length = n ∧ ∀ c ∈ C, Q c := by
   intro e Q ht hc hct hQ
   simp only [Value.okWide, ht] at hval
   obtain ⟨cs, rfl, hcs, _⟩ := hval
   obtain ⟨fuel, hf⟩ := hd
   obtain ⟨xs, m, _, _, hl, hxl, hx⟩ := DataW.trod_array ht hf
   simp only [Value.cells] at hl hx
   refine ⟨cs.toList, by simp, by rw [hl, hct], fun c hcm => ?_⟩
   obtain ⟨i, hi⟩ := List.mem_iff_getElem?.1 hcm
   have hlt : i < n := by rw [← hct, ← hl]; exact (List.getElem?_eq_some_iff.1 hi).1
   have := hx i hlt
   rw [hc, Nat.mul_one, a5j hi, List.getElem?_eq_getElem (by omega)] at this
   exact hQ _ _ _ this
  cases k with
  | int k =>
   obtain ⟨e, h1, h2, h3, h4⟩ := hK
   obtain ⟨C, rfl, hl, hC⟩ := main e (fun c => ∃ z, c = .int k z ∧ B7 k z) h1 h3 h4 (fun m c y hy => by
    obtain ⟨z, hz, _, hw⟩ := DataW.trod_int h2 hy
    simp only [List.cons.injEq, and_true] at hz
    exact ⟨z, hz, hw⟩)
   obtain ⟨zs, rfl, hz⟩ := b4U hC
   exact ⟨zs, ⟨by simpa using hl, rfl⟩, by simpa using hl, hz⟩
  | bool =>
   obtain ⟨e, h1, h2, h3, h4⟩ := hK
   obtain ⟨C, rfl, hl, hC⟩ := main e (fun c => ∃ z : Int, c = .bool (z != 0) ∧ (z = 0 ∨ z = 1)) h1 h3 h4 (fun m c y hy => by
    obtain ⟨z, hz, _⟩ := DataW.trod_bool h2 hy
    simp only [List.cons.injEq, and_true] at hz
    cases z
    ·exact ⟨0, hz, .inl rfl⟩
    ·exact ⟨1, hz, .inr rfl⟩)
   obtain ⟨zs, rfl, hz⟩ := b4U hC
   exact ⟨zs, ⟨by simpa using hl, rfl⟩, by simpa using hl, hz⟩
 | sl k =>
  cases k with
  | bool =>
   obtain ⟨e, h1, h2, h3⟩ := hK
   obtain ⟨a, len, cap, rfl⟩ := okWide_slice h1 hval
   obtain ⟨fuel, hf⟩ := hd
   obtain ⟨v, zs, q0, q1, q2, q3⟩ := b2l (k := .bool) h1 h2 h3 hf
   simp only [Value.cells, List.cons.injEq, and_true] at q0
   subst q0
   exact ⟨zs, q1, q2, q3⟩
  | int k =>
   obtain ⟨e, h1, h2, h3⟩ := hK
   obtain ⟨a, len, cap, rfl⟩ := okWide_slice h1 hval
   obtain ⟨fuel, hf⟩ := hd
   simp only [Value.cells] at hf
   rcases open_ints h1 h2 h3 hf with ⟨h, _⟩ | ⟨a', len', cap', zs, h, _, hlc, hcm, hzl, _, hcell, hw⟩
   ·simp only [List.cons.injEq, Value.slice.injEq, and_true] at h
    obtain ⟨rfl, rfl, rfl⟩ := h
    exact ⟨[], ⟨none, 0, rfl, Nat.le_refl _, fun h => by simp at h⟩, by simp [maxLen], fun z hz => by cases hz⟩
   ·simp only [List.cons.injEq, Value.slice.injEq, and_true] at h
    obtain ⟨rfl, rfl, rfl⟩ := h
    rw [if_pos rfl] at hzl
    refine ⟨zs.take len, ⟨some a', cap, by rw [List.length_take, Nat.min_eq_left (by omega)], by rw [List.length_take]; omega, fun hpos => c1C (len := len) (fun i hi => hcell i (by omega)) ⟨hlc, by omega⟩ (by simp at hpos; omega) hpos⟩, by rw [List.length_take]; omega, fun z hz => hw z (List.mem_of_mem_take hz)⟩
 | sls k =>
  cases k with
  | bool => exact hK.elim
  | int k =>
   obtain ⟨e, e2, h1, h2, h3, h4, h5⟩ := hK
   obtain ⟨a, len, cap, rfl⟩ := okWide_slice h1 hval
   obtain ⟨fuel, hf⟩ := hd
   obtain ⟨v, l, q0, q1, q2⟩ := c1G h1 h2 h3 h4 h5 hf
   simp only [Value.cells, List.cons.injEq, and_true] at q0
   subst q0
   exact ⟨l, q1, q2⟩
 | fnc f => exact hK.elim
 | rp k => exact hK.elim
 | fcl f k => exact hK.elim
 | sla k m =>
  obtain ⟨e, h1, h2, h3, h4⟩ := hK
  obtain ⟨a, len, cap, rfl⟩ := okWide_slice h1 hval
  obtain ⟨fuel, hf⟩ := hd
  obtain ⟨v, zs, q0, q1, q2⟩ := c1F h1 h2 h3 h4 hf
  simp only [Value.cells, List.cons.injEq, and_true] at q0
  subst q0
  exact ⟨zs, q1, q2⟩
 | cat l =>
  obtain ⟨⟨fs, h1⟩, h2⟩ := hK
  simp only [Value.okWide, h1] at hval
  obtain ⟨cs, rfl, _⟩ := hval
  obtain ⟨fuel, hf⟩ := hd
  obtain ⟨x, q1, q2⟩ := b7K h2 _ _ _ hf
  exact ⟨x, ⟨cs.toList, by simp, q1⟩, q2⟩
 | io l => exact hK.elim
 | ios k => exact hK.elim
 | xv k => exact hK.elim
 | op l => exact hK.elim
 | fsl k => exact hK.elim
 | asl k => exact hK.elim
theorem b7c : ∀ {ks : List Kd} {ts : List TypeId} {vs : List Value} {ds : List (DataW H)} {ps : List MemPlace}, a98 P ks ts → (∀ (j : Nat) t v, ts[j]? = some t → vs[j]? = some v → Value.okWide P W r b0 t v) → DataW.TrodAll enc P W 0 (fun _ => true) true ts vs ds ps →
  ∃ x, a79 (a0C W) ks x vs ∧ b5m ks x
 | [], ts, vs, ds, ps, hk, _, hd => by
  cases hk
  obtain ⟨rfl, _⟩ := trodAll_nil hd
  exact ⟨(), rfl, trivial⟩
 | k :: ks, ts, vs, ds, ps, hk, hval, hd => by
  obtain ⟨t, ts', rfl, h1, _, h2⟩ := hk
  obtain ⟨v, vs', d, ds', p, q, rfl, rfl, rfl, g1, g2⟩ := trodAll_cons hd
  obtain ⟨x, a1, a2⟩ := c0Z h1 (hval 0 t v rfl rfl) g1
  obtain ⟨y, b1, b2⟩ := b7c h2 (fun j t v ht hv => hval (j + 1) t v (by simpa using ht) (by simpa using hv)) g2
  exact ⟨(x, y), ⟨v, vs', rfl, a1, b1⟩, a2, b2⟩
theorem b2F {W' : World} (hl : laidOutB P = true) (hb : Below W.heap.size W W') : ∀ {ks : List Kd} {ts : List TypeId} {vs : List Value} {ds : List (DataW H)} {ps : List MemPlace}, a98 P ks ts → DataW.TrodAll enc P W 0 (fun _ => true) true ts vs ds ps → (∀ p ∈ ps, p.block < W.heap.size) →
  ∀ sp : Nat → Bool, (∀ p ∈ ps, sp p.block = true) → DataW.TrodAll enc P W' 0 sp true ts vs ds ps
 | [], ts, vs, ds, ps, hk, hd, _, sp, _ => by
  cases hk
  obtain ⟨rfl, rfl, rfl⟩ := trodAll_nil hd
  rfl
 | k :: ks, ts, vs, ds, ps, hk, hd, hlt, sp, hsp => by
  obtain ⟨t, ts', rfl, h1, ⟨hr, hrow⟩, h2⟩ := hk
  obtain ⟨v, vs', d, ds', p, q, rfl, rfl, rfl, g1, g2⟩ := trodAll_cons hd
  refine ⟨p, q, WideElems.Trod_stays hl hr hrow g1 (fun x hx => hb.same (hlt x (by simp [hx]))) (fun x hx => hsp x (by simp [hx])), ?_, rfl⟩
  exact b2F hl hb h2 g2 (fun x hx => hlt x (by simp [hx])) sp (fun x hx => hsp x (by simp [hx]))
theorem b7J {f : FuncId} {fn : Func} {ks : List Kd} {g : Ds ks → Option (Rs [.bool])} {s : ChangeSpec} {apart : Bool} {tb : TypeId}
  (hs : i0 P f ⟨ks, [.bool], g⟩) (hl : laidOutB P = true) (hks : a98 P ks fn.params.toList) (hg : ∀ x, b5m ks x → g x = some true)
  (hfn : ∀ ds : List (DataW H), ds.length = ks.length → s.fn H ds = { results := [.lit (.bool true)], args := ds }) (hvars : s.vars = []) (hrt : fn.resultTypes = #[tb]) (htb : P.underlying tb = some .bool)
  {base : Nat} {args : Array Value} {ds gs : List (DataW H)} {before : List MemPlace}
  (hval : ∀ (j : Nat) t v, fn.params[j]? = some t → args[j]? = some v → Value.okWide P W .any base t v) (hW : DataW.Whole enc P fn.params.toList s.vars apart W args.toList ds gs before) :
  Calls P f args W fun e W' => ∃ v, e = .returned v ∧ s.post enc P fn apart true false false W args v W' := by
 have hW' := hW
 obtain ⟨p, q, hA, hV, rfl, hfz, hnd⟩ := hW
 rw [hvars] at hV
 have hlen : ∀ {ks : List Kd} {ts : List TypeId} {vs : List Value} {ds : List (DataW H)} {ps : List MemPlace}, a98 P ks ts → DataW.TrodAll enc P W 0 (fun _ => true) true ts vs ds ps → ds.length = ks.length := by
  intro ks
  induction ks with
  | nil => intro ts vs ds ps hk hd; cases hk; obtain ⟨_, rfl, _⟩ := trodAll_nil hd; rfl
  | cons k ks ih =>
   intro ts vs ds ps hk hd
   obtain ⟨t, ts', rfl, _, _, h2⟩ := hk
   obtain ⟨v, vs', d, ds', p, q, rfl, rfl, rfl, g1, g2⟩ := trodAll_cons hd
   simp [ih h2 g2]
 obtain ⟨rfl, rfl⟩ := trodVars_none hV
 have hlt : ∀ x ∈ p, x.block < W.heap.size := fun x hx => hW'.lt x (by simpa using hx)
 obtain ⟨x, hx, hwf⟩ := b7c hks (fun j t v ht hv => hval j t v (by simpa using ht) (by simpa using hv)) hA
 have hregs : a5b ks args.toList = [] := by
  have key : ∀ {ks : List Kd} {ts : List TypeId} {vs : List Value}, a98 P ks ts → a5b ks vs = [] := by
   intro ks
   induction ks with
   | nil => intro ts vs _; cases vs <;> rfl
   | cons k r ih =>
    intro ts vs h
    obtain ⟨t, ts', _, h1, _, h2⟩ := h
    cases vs with
    | nil => rfl
    | cons v vs =>
     have hk : k.reg v = [] := by
      cases k
      case io l => exact h1.elim
      case ios k => exact h1.elim
      all_goals rfl
     simp only [a5b, hk, ih (vs := vs) h2, List.append_nil]
  exact key hks
 have hcall := hs (fun _ => True) (fun _ => True) x args.toList W (fun _ h => h) hx (by rw [hregs]; exact ⟨(fun m hm => absurd hm (by simp)), List.Pairwise.nil⟩) true (hg x hwf)
 rw [hregs] at hcall
 rw [Array.toArray_toList] at hcall
 refine hcall.mono fun e W' ⟨us, ls, bs, he, hmk, hls, hbm⟩ => ?_
 have hb := hbm.nil
 have hls : ls = [] := hls
 subst hls
 rw [List.append_nil] at hmk
 obtain ⟨v, rfl, hv, _⟩ := hmk
 subst hv
 have hds := hlen hks hA
 have hf : s.fn H (ds ++ []) = { results := [.lit (.bool true)], args := ds } := by rw [List.append_nil]; exact hfn ds hds
 refine ⟨_, he, ds, [], p ++ [], [], p, [], hW', ?_, ?_, ?_, World.keptBut_mono (fun x hx => hx.elim) (hb.frame (fun _ => False)), fun h => by cases h⟩
 ·rw [hf, hrt]
  exact trodAll_mk1 (shut_bool htb true)
 ·rw [hf]
  exact b2F hl hb hks hA hlt _ (fun x hx => by simpa using hlt x hx)
 ·rw [hf, hvars]
  rfl
theorem b2W {P' : Program} (hp : P' = P) {f : FuncId} {fn : Func} {ks : List Kd} {g : Ds ks → Option (Rs [.bool])} {s : ChangeSpec} {apart : Bool} {tb : TypeId}
  (hs : i0 P f ⟨ks, [.bool], g⟩) (hl : laidOutB P = true) (hks : a98 P ks fn.params.toList) (hg : ∀ x, b5m ks x → g x = some true)
  (hfn : ∀ ds : List (DataW H), ds.length = ks.length → s.fn H ds = { results := [.lit (.bool true)], args := ds }) (hvars : s.vars = []) (hrt : fn.resultTypes = #[tb]) (htb : P.underlying tb = some .bool)
  {base : Nat} {args : Array Value} {ds gs : List (DataW H)} {before : List MemPlace}
  (hval : ∀ (j : Nat) t v, fn.params[j]? = some t → args[j]? = some v → Value.okWide P' W .any base t v) (hW : DataW.Whole enc P' fn.params.toList s.vars apart W args.toList ds gs before) :
  Calls P' f args W fun e W' => ∃ v, e = .returned v ∧ s.post enc P' fn apart true false false W args v W' := by
 subst hp
 exact b7J hs hl hks hg hfn hvars hrt htb hval hW
end
end Go.Ax
namespace Go.Ax
theorem a5q {X Y : Type} {F : (β : Type) → X → (X → Option β) → (Y → Option β) → Option β} (s : Nat → X) (y : Y) (m : Nat) {β : Type} {k : Y → Option β}
  (h : ∀ i, i < m → ∀ kn : X → Option β, F β (s i) kn k = kn (s (i + 1))) (he : ∀ kn : X → Option β, F β (s m) kn k = k y) : ∀ n, m < n → a5p F n (s 0) k = k y := by
 have key : ∀ (j n : Nat), j ≤ m → j < n → a5p F n (s (m - j)) k = k y := by
  intro j
  induction j with
  | zero =>
   intro n _ hn
   obtain ⟨n, rfl⟩ : ∃ n', n = n' + 1 := ⟨n - 1, by omega⟩
   exact he _
  | succ j ih =>
   intro n hj hn
   obtain ⟨n, rfl⟩ : ∃ n', n = n' + 1 := ⟨n - 1, by omega⟩
   simp only [a5p]
   rw [h (m - (j + 1)) (by omega), show m - (j + 1) + 1 = m - j by omega]
   exact ih n (by omega) (by omega)
 intro n hn
 have := key m n (Nat.le_refl _) hn
 simpa using this
theorem b9J {k : IntKind} {x : Int} (h1 : k.min ≤ x) (h2 : x ≤ k.max) : k.wrap x = x := by
 cases k <;> simp [IntKind.wrap, IntKind.min, IntKind.max, IntKind.signed, IntKind.bits] at h1 h2 ⊢ <;> omega
theorem f7 {x : Int} (h1 : -9223372036854775808 ≤ x) (h2 : x ≤ 9223372036854775807) : IntKind.i64.wrap x = x := b9J h1 h2
theorem a5x {n : Int} : B7 .u8 n ↔ 0 ≤ n ∧ n ≤ 255 := by simp [B7, Lit.wf, IntKind.min, IntKind.max, IntKind.signed, IntKind.bits]
theorem s0 {n : Int} : B7 .i64 n ↔ -9223372036854775808 ≤ n ∧ n ≤ 9223372036854775807 := by simp [B7, Lit.wf, IntKind.min, IntKind.max, IntKind.signed, IntKind.bits]
def part (h : Nat → Int) (i : Nat) (a : List Int) : List Int := (List.range i).map h ++ a.drop i
theorem b73 (h : Nat → Int) (a : List Int) : part h 0 a = a := by simp [part]
theorem b9s {h : Nat → Int} {i : Nat} {a : List Int} (hi : i < a.length) : (part h i a).set i (h i) = part h (i + 1) a := by
 unfold part
 rw [List.set_append_right _ _ (by simp)]
 simp only [List.length_map, List.length_range, Nat.sub_self]
 rw [List.drop_eq_getElem_cons hi, List.set_cons_zero, List.range_succ, List.map_append]
 simp
theorem b72 {h : Nat → Int} {i : Nat} {a : List Int} {z : Int} (hi : i < a.length) (hz : z = h i) : (part h i a).set i z = part h (i + 1) a := by rw [hz, b9s hi]
theorem b71 {h : Nat → Int} {i j : Nat} {a : List Int} (hj : i ≤ j) : (part h i a).getD j 0 = a.getD j 0 := by
 unfold part
 rw [List.getD_eq_getElem?_getD, List.getElem?_append_right (by simp; omega)]
 simp only [List.length_map, List.length_range, List.getElem?_drop, List.getD_eq_getElem?_getD]
 rw [show i + (j - i) = j by omega]
theorem F8 {h : Nat → Int} {n i : Nat} (hi : i < n) : ((List.range n).map h).getD i 0 = h i := by simp [List.getD_eq_getElem?_getD, hi]
noncomputable def Y2 {ks rs : List Kd} (Q : Ds ks → Prop) (f : Ds ks → Rs rs) : Ds ks → Option (Rs rs) := fun x => @ite _ (b5m ks x ∧ Q x) (Classical.propDecidable _) (some (f x)) none
theorem j9 {ks rs : List Kd} {Q : Ds ks → Prop} {f : Ds ks → Rs rs} {p : Nat → Ds ks → Option (Rs rs)} (h : ∀ x, b5m ks x → Q x → ∃ N, p N x = some (f x)) : ∀ x r, Y2 Q f x = some r → ∃ N, p N x = some r := by
 intro x r hx
 unfold Y2 at hx
 split at hx
 ·rename_i hq; cases hx; exact h x hq.1 hq.2
 ·cases hx
theorem j6 {ks rs : List Kd} {Q : Ds ks → Prop} {f : Ds ks → Rs rs} {x : Ds ks} (h : b5m ks x) (hq : Q x) : Y2 Q f x = some (f x) := by
 unfold Y2
 rw [if_pos ⟨h, hq⟩]
def u16s (n : Nat) (a : List Int) : Prop := a.length = n ∧ ∀ z ∈ a, 0 ≤ z ∧ z ≤ 65535
theorem b5G {a : List Int} {i : Nat} (h : i < a.length) : a.getD i 0 ∈ a := by
 rw [List.getD_eq_getElem?_getD, List.getElem?_eq_getElem h]
 simp
theorem u16s.at {n : Nat} {a : List Int} (h : u16s n a) (i : Nat) : 0 ≤ a.getD i 0 ∧ a.getD i 0 ≤ 65535 := by
 by_cases hi : i < a.length
 ·exact h.2 _ (b5G hi)
 ·rw [List.getD_eq_getElem?_getD, List.getElem?_eq_none (by omega)]; simp
theorem u16s.range {n : Nat} {h : Nat → Int} (hh : ∀ i, i < n → 0 ≤ h i ∧ h i ≤ 65535) : u16s n ((List.range n).map h) := by
 refine ⟨by simp, fun z hz => ?_⟩
 obtain ⟨i, hi, rfl⟩ := List.mem_map.1 hz
 exact hh i (List.mem_range.1 hi)
theorem u16s.zero (n : Nat) : u16s n (List.replicate n 0) := ⟨by simp, fun z hz => by rw [List.eq_of_mem_replicate hz]; omega⟩
theorem b9F {a b : Int} (ha : 0 ≤ a) : a.tmod b = a % b := Int.tmod_eq_emod_of_nonneg ha
theorem b2q {a b : Int} (ha : 0 ≤ a) : a.tdiv b = a / b := Int.tdiv_eq_ediv_of_nonneg ha
end Go.Ax
namespace Go.Ax
theorem b4k {l : List Int} {i : Nat} {v : Int} (h : i < l.length) : (l.set i v).getD i 0 = v := by
 rw [List.getD_eq_getElem?_getD, List.getElem?_set_self h]; rfl
theorem getD_set_ne {l : List Int} {i j : Nat} {v : Int} (h : i ≠ j) : (l.set i v).getD j 0 = l.getD j 0 := by
 rw [List.getD_eq_getElem?_getD, List.getElem?_set_ne h, ← List.getD_eq_getElem?_getD]
theorem b88 {l : List Int} {i : Nat} (h : l.length ≤ i) : l.getD i 0 = 0 := by
 rw [List.getD_eq_getElem?_getD, List.getElem?_eq_none h]; rfl
theorem a94 (n i : Nat) : (List.replicate n (0 : Int)).getD i 0 = 0 := by
 rw [List.getD_eq_getElem?_getD, List.getElem?_replicate]; split <;> rfl
def rows (lo hi : Int) (n : Nat) (a : List Int) : Prop := a.length = n ∧ ∀ z ∈ a, lo ≤ z ∧ z ≤ hi
theorem rows.at {lo hi : Int} {n : Nat} {a : List Int} (h : rows lo hi n a) (h0 : lo ≤ 0 ∧ 0 ≤ hi) (i : Nat) : lo ≤ a.getD i 0 ∧ a.getD i 0 ≤ hi := by
 by_cases hi : i < a.length
 ·exact h.2 _ (b5G hi)
 ·rw [b88 (by omega)]; exact h0
theorem rows.range {lo hi : Int} {n : Nat} {h : Nat → Int} (hh : ∀ i, i < n → lo ≤ h i ∧ h i ≤ hi) : rows lo hi n ((List.range n).map h) := by
 refine ⟨by simp, fun z hz => ?_⟩
 obtain ⟨i, hi, rfl⟩ := List.mem_map.1 hz
 exact hh i (List.mem_range.1 hi)
theorem rows.zero {lo hi : Int} (h0 : lo ≤ 0 ∧ 0 ≤ hi) (n : Nat) : rows lo hi n (List.replicate n 0) := ⟨by simp, fun z hz => by rw [List.eq_of_mem_replicate hz]; exact h0⟩
theorem rows.set {lo hi : Int} {n : Nat} {a : List Int} (h : rows lo hi n a) {i : Nat} {v : Int} (hv : lo ≤ v ∧ v ≤ hi) : rows lo hi n (a.set i v) := by
 refine ⟨by simp [h.1], fun z hz => ?_⟩
 rcases List.mem_or_eq_of_mem_set hz with hz | rfl
 ·exact h.2 z hz
 ·exact hv
theorem rows.mono {lo hi lo' hi' : Int} {n : Nat} {a : List Int} (h : rows lo hi n a) (h1 : lo' ≤ lo) (h2 : hi ≤ hi') : rows lo' hi' n a := ⟨h.1, fun z hz => by have := h.2 z hz; omega⟩
theorem rows.ext {n : Nat} {a b : List Int} (ha : a.length = n) (hb : b.length = n) (h : ∀ i, i < n → a.getD i 0 = b.getD i 0) : a = b := by
 apply List.ext_getElem?
 intro i
 by_cases hi : i < n
 ·have := h i hi
  rw [List.getD_eq_getElem?_getD, List.getD_eq_getElem?_getD, List.getElem?_eq_getElem (show i < a.length by omega), List.getElem?_eq_getElem (show i < b.length by omega)] at this
  rw [List.getElem?_eq_getElem (show i < a.length by omega), List.getElem?_eq_getElem (show i < b.length by omega)]
  simpa using this
 ·rw [List.getElem?_eq_none (by omega), List.getElem?_eq_none (by omega)]
theorem b9H {a : List Int} : Kd.wf (.sl (.int .u8)) a ↔ a.length ≤ maxLen ∧ ∀ z ∈ a, 0 ≤ z ∧ z ≤ 255 := by simp [Kd.wf, a5x]
theorem K5 {X Y : Type} {F : (β : Type) → X → (X → Option β) → (Y → Option β) → Option β} (s : Nat → X) (y : Y) (m : Nat) {β : Type} {k : Y → Option β} {x : X} (hx : s 0 = x)
  (h : ∀ i, i < m → ∀ kn : X → Option β, F β (s i) kn k = kn (s (i + 1))) (he : ∀ kn : X → Option β, F β (s m) kn k = k y) (n : Nat) (hn : m < n) : a5p F n x k = k y := by
 subst hx
 exact a5q s y m h he n hn
end Go.Ax
namespace Go.Ax
theorem b2y {k : IntKind} (hs : k.signed = false) (n : Nat) (h : n < 2 ^ k.bits) : k.wrap (n : Int) = n := by
 cases k <;> simp [IntKind.signed] at hs <;> simp [IntKind.bits] at h <;> simp [IntKind.wrap, IntKind.signed, IntKind.bits] <;> omega
theorem a6c {k : IntKind} {n : Nat} (h : n < 2 ^ k.bits) : (a9Y k (n : Int)).toNat = n := by
 unfold a9Y
 rw [BitVec.toNat_ofInt]
 have : ((n : Int) % ((2 ^ k.bits : Nat) : Int)).toNat = n := by
  rw [← Int.natCast_emod, Int.toNat_natCast, Nat.mod_eq_of_lt h]
 exact this
theorem b9d {k : IntKind} (hs : k.signed = false) {m n : Nat} (hm : m < 2 ^ k.bits) (hn : n < 2 ^ k.bits) : c0R k (m : Int) (n : Int) = ((m &&& n : Nat) : Int) := by
 unfold c0R
 rw [BitVec.toNat_and, a6c hm, a6c hn]
 exact b2y hs _ (Nat.lt_of_le_of_lt Nat.and_le_left hm)
theorem c0p {k : IntKind} (hs : k.signed = false) {m n : Nat} (hm : m < 2 ^ k.bits) (hn : n < 2 ^ k.bits) : ior k (m : Int) (n : Int) = ((m ||| n : Nat) : Int) := by
 unfold ior
 rw [BitVec.toNat_or, a6c hm, a6c hn]
 exact b2y hs _ (Nat.or_lt_two_pow hm hn)
theorem b1z {k : IntKind} {m s : Nat} (hs : s ≤ k.bits) : b8E k (m : Int) (s : Int) = ((m / 2 ^ s : Nat) : Int) := by
 unfold b8E
 rw [Int.toNat_natCast, Nat.min_eq_left hs, Int.fdiv_eq_ediv_of_nonneg _ (Int.le_of_lt (Int.pow_pos (by omega)))]
 simp
theorem b9g {k : IntKind} (hk : k.signed = false) {m s : Nat} (hs : s ≤ k.bits) (h : m * 2 ^ s < 2 ^ k.bits) : c0T k (m : Int) (s : Int) = ((m * 2 ^ s : Nat) : Int) := by
 unfold c0T
 rw [Int.toNat_natCast, Nat.min_eq_left hs]
 have : (m : Int) * 2 ^ s = ((m * 2 ^ s : Nat) : Int) := by simp
 rw [this]
 exact b2y hk _ h
theorem c2q (n : Nat) : n &&& 1 = n % 2 := Nat.and_one_is_mod n
def b9O (x : Int) (s : Nat) : Int := x / 2 ^ s % 2
theorem c05 (x : Int) (s : Nat) : 0 ≤ b9O x s ∧ b9O x s ≤ 1 := by unfold b9O; omega
theorem b8U (m s : Nat) : b9O (m : Int) s = ((m / 2 ^ s % 2 : Nat) : Int) := by unfold b9O; simp
theorem c06 {x : Int} (h0 : 0 ≤ x) (h1 : x ≤ 255) {s : Nat} (hs : s ≤ 8) : c0R .u8 (b8E .u8 x (s : Int)) 1 = b9O x s := by
 obtain ⟨m, rfl⟩ := Int.eq_ofNat_of_zero_le h0
 have hm : m / 2 ^ s < 2 ^ 8 := Nat.lt_of_le_of_lt (Nat.div_le_self _ _) (by omega)
 rw [b1z (k := .u8) hs, show (1 : Int) = ((1 : Nat) : Int) from rfl, b9d (k := .u8) rfl hm (by decide), c2q, b8U]
theorem a3E (x : Int) : IntKind.u16.wrap x = x % 65536 := by simp [IntKind.wrap, IntKind.signed, IntKind.bits]
theorem a5a (x : Int) : IntKind.u8.wrap x = x % 256 := by simp [IntKind.wrap, IntKind.signed, IntKind.bits]
def a3Y (b : List Int) (t : Nat) : Int := b9O (b.getD (t / 8) 0) (t % 8)
def w3 (b : List Int) : List Int := (List.range (8 * b.length)).map (a3Y b)
theorem b6d (b : List Int) : (w3 b).length = 8 * b.length := by simp [w3]
theorem a8u {b : List Int} {t : Nat} (h : t < 8 * b.length) : (w3 b).getD t 0 = a3Y b t := F8 h
theorem a4p (f : Nat → Int) (n : Nat) : (List.range n).map f ++ [f n] = (List.range (n + 1)).map f := by
 rw [List.range_succ, List.map_append]; rfl
end Go.Ax
namespace Go.Ax
theorem b9t (n : Nat) : (0 : Int) < 2 ^ n := Int.pow_pos (by omega)
theorem c1t {m b s : Nat} (h : m < 2 ^ s) : m ||| (b * 2 ^ s) = m + b * 2 ^ s := by
 rw [Nat.or_comm, Nat.mul_comm, ← Nat.two_pow_add_eq_or_of_lt h, Nat.add_comm]
theorem b2p {a b : List Int} (ha : ∀ z ∈ a, 0 ≤ z ∧ z ≤ 255) (hb : ∀ z ∈ b, 0 ≤ z ∧ z ≤ 255) (h : strOfNums a = strOfNums b) : a = b := by
 have h1 : a.map (fun n => UInt8.ofNat n.toNat) = b.map fun n => UInt8.ofNat n.toNat := by
  rw [← strOfNums_data, ← strOfNums_data, h]
 clear h
 induction a generalizing b with
 | nil => cases b with
  | nil => rfl
  | cons y b => cases h1
 | cons x a ih =>
  cases b with
  | nil => cases h1
  | cons y b =>
   simp only [List.map_cons, List.cons.injEq] at h1
   obtain ⟨e1, e2⟩ := h1
   have hx := ha x (by simp)
   have hy := hb y (by simp)
   have e3 := congrArg UInt8.toNat e1
   simp only [UInt8.toNat_ofNat'] at e3
   rw [ih (fun z hz => ha z (by simp [hz])) (fun z hz => hb z (by simp [hz])) e2]
   congr 1
   omega
theorem b4e {a b : List Int} (ha : ∀ z ∈ a, 0 ≤ z ∧ z ≤ 255) (hb : ∀ z ∈ b, 0 ≤ z ∧ z ≤ 255) : decide (strOfNums a = strOfNums b) = decide (a = b) := by
 rw [Bool.eq_iff_iff, decide_eq_true_iff, decide_eq_true_iff]
 exact ⟨b2p ha hb, fun h => by rw [h]⟩
end Go.Ax
namespace Go.Ax
open Go.RowKit
variable {P : Program}
def Inl.ofSig (s : Sig) : Inl where
 run _ args mem K := (b4c { tmps := [.one .any], mem := mem ++ List.replicate (b25 s.res) .free } mem.length (some 0) args s).run fun st => match st.tmps with
  | .one a :: _ => K (.ret [a] st.mem)
  | .tup l :: _ => match l with
   | [_] => none
   | l => K (.ret l st.mem)
  | _ => none
 mono _ args mem K1 K2 r hk h := by
  refine T.run_mono h fun st h => ?_
  split at h
  ·exact hk _ h
  ·split at h
   ·cases h
   ·exact hk _ h
  ·cases h
theorem Inl.ofSig_ok {f : FuncId} {s : Sig} (h : i0 P f s) (he : i7 P f) (hsu : ∀ args, b0O s.args args = true) : Y4 P f (Inl.ofSig s) := by
 intro β ρ B w0 mem w args vs K r R hl hrel hm hx hret hpan
 simp only [Inl.ofSig] at hx
 rw [T.run_val, Option.bind_eq_some_iff] at hx
 obtain ⟨st', h1, h2⟩ := hx
 obtain ⟨fn, hf, hb, hn⟩ := he
 have hb' : fn.body ≠ none := by intro hnb; rw [hnb] at hb; cases hb
 have hn' : fn.name ≠ "runtime.NumGoroutine" := by simpa using hn
 let o : Oper := { dst := some 0, op := .call { callee := .value (.func f), args := (vs.map Operand.const).toArray, argTypes := #[] }, type := 0, pos := "", after := #[], guard := none }
 let a : Act := { tmps := #[undef], defers := [] }
 have hev : (vs.map Operand.const).toArray.map a.eval = vs.toArray := by
  apply Array.ext'
  simp only [List.map_toArray, List.map_map]
  exact (List.map_congr_left fun v _ => rfl).trans (List.map_id _)
 have hexec : (execOp a.eval o).run P w = .ok (.enter f vs.toArray) w := by
  rw [← hev]
  simp [execOp, o, resolve, Deferred.ofValue, Act.eval, invoke, callFunc, program, Sem.run, hf, hn', hb']
 have hr : Rel ρ B w0 { tmps := [.one .any], mem := mem ++ List.replicate (b25 s.res) .free } a w :=
  ⟨rfl, fun i v hv => by
   cases i with
   | zero => cases hv; exact trivial
   | succ i => exact absurd hv (by simp), hm.more _, rfl⟩
 have hfits : b92 P ρ B w0 st' o a w := a1J (f := f) hr hl hrel (fun _ _ _ _ => hexec) (ss := [s]) (fun s' hs' => by
  rw [List.mem_singleton.1 hs']
  exact ⟨h, fn, hf, hb, hn⟩) (by simp only [a2T, hsu]; exact h1)
 have := hfits (fun a' w' => ∃ v, a' = a.put (some 0) v ∧ R (.returned v) w') (fun _ _ _ => False) (fun v w' ρ' hle hr' => by
  refine ⟨v, rfl, ?_⟩
  have ht := hr'.tm 0
  have hv : (a.put (some 0) v).tmps.getD 0 undef = v := rfl
  rw [show o.dst = some 0 from rfl, hv] at ht
  split at h2
  ·rename_i x rest hst
   have hx : AV.rel ρ' x v := ht (.one x) (by rw [hst]; rfl)
   exact hret ρ' w' [x] [v] st'.mem hle hr'.m ⟨v, [], rfl, hx, rfl⟩ h2
  ·rename_i l rest hst
   obtain ⟨us, rfl, hus⟩ : TV.rel ρ' (.tup l) v := ht (.tup l) (by rw [hst]; rfl)
   split at h2
   ·cases h2
   ·rename_i l' hne
    have : b2x us = .tuple us.toArray := by
     match us, hus with
     | [], _ => rfl
     | [u], hus =>
      match l, hus with
      | [x], _ => exact absurd rfl (hne x)
      | [], hus => cases hus
      | x :: y :: z, hus =>
       obtain ⟨v1, vs1, e1, _, h3⟩ := hus
       cases e1
       obtain ⟨_, _, e2, _⟩ := h3
       cases e2
     | u :: u' :: us, _ => rfl
    rw [← this]
    exact hret ρ' w' l us st'.mem hle hr'.m hus h2
  ·cases h2)
 unfold Oper.wp at this
 rw [hexec] at this
 refine this.mono ?_
 intro e w' hq
 cases e with
 | returned v =>
  obtain ⟨v', e1, hR⟩ := hq
  have e2 : v = v' := by
   have := congrArg (fun b => b.tmps.getD 0 undef) e1
   exact this
  rw [e2]
  exact hR
 | panicked chain => exact hq.elim
 | outgrown =>
  obtain ⟨_, _, h⟩ := hq
  exact h.elim
def rtK (x : IR) : Option (List AV × List Slot) := match x with
 | .ret l mem => some (l, mem)
 | .pan _ _ _ => none
theorem RtOk.of {f : FuncId} {J : Inl} (hJ : Y4 P f J) {j m L : Nat} (hrun : ∀ (mem : List Slot) (v : TV) (n : Nat), lenOf v = some n → n < m → ∃ a, v = .one a ∧ J.run (List AV × List Slot) ((List.replicate L (.one .any)).set j v) mem rtK = some ([a], mem)) : RtOk P f j m L := by
 intro ρ B w0 mem w args vs R v n hL hl hrel hm hv hn hlt hR
 obtain ⟨a, rfl, hx⟩ := hrun mem v n hn hlt
 refine hJ _ ρ B w0 mem w _ vs _ _ R (by simp [← hl, hL]) (fun i x u hi hu => ?_) hm hx ?_ ?_
 ·rw [List.getElem?_set] at hi
  split at hi
  ·rename_i e
   subst e
   split at hi
   ·cases hi; exact hrel _ _ u hv hu
   ·cases hi
  ·rw [List.getElem?_replicate] at hi
   split at hi
   ·cases hi; trivial
   ·cases hi
 ·intro ρ' w' l us mem' hle hm' hus hk
  simp only [rtK, Option.some.injEq, Prod.mk.injEq] at hk
  obtain ⟨rfl, rfl⟩ := hk
  obtain ⟨v1, vs1, rfl, hav, h3⟩ := hus
  have h3 : vs1 = [] := h3
  subst h3
  exact hR ρ' w' v1 hle hm' hav
 ·intro ρ' w' p n mem' _ _ hk
  cases hk
theorem ReOk.of {f : FuncId} {J : Inl} (hJ : Y4 P f J) {j i L : Nat} (hrun : ∀ (mem : List Slot) (v : AV), J.run (List AV × List Slot) (((List.replicate L (.one .any)).set j (.one v)).set i (.one (.sc (.int .i64 0)))) mem rtK = some ([v], mem)) : ReOk P f j i L := by
 intro ρ B w0 mem w args vs R v hL hl hrel hm hv hn hR
 have hx := hrun mem v
 refine hJ _ ρ B w0 mem w _ vs _ _ R (by simp [← hl, hL]) (fun i' x u hi hu => ?_) hm hx ?_ ?_
 ·rw [List.getElem?_set] at hi
  split at hi
  ·rename_i e
   subst e
   split at hi
   ·cases hi; exact hrel _ _ u hn hu
   ·cases hi
  ·rw [List.getElem?_set] at hi
   split at hi
   ·rename_i e
    subst e
    split at hi
    ·cases hi; exact hrel _ _ u hv hu
    ·cases hi
   ·rw [List.getElem?_replicate] at hi
    split at hi
    ·cases hi; trivial
    ·cases hi
 ·intro ρ' w' l us mem' hle hm' hus hk
  simp only [rtK, Option.some.injEq, Prod.mk.injEq] at hk
  obtain ⟨rfl, rfl⟩ := hk
  obtain ⟨v1, vs1, rfl, hav, h3⟩ := hus
  have h3 : vs1 = [] := h3
  subst h3
  exact hR ρ' w' v1 hle hm' hav
 ·intro ρ' w' p n mem' _ _ hk
  cases hk
end Go.Ax
namespace Go.Ax
section
variable {α : Type}
def fN (n : Option Nat) (l : List PV) (K : Nat → List PV → α) : α := match n with
 | some m => K m l
 | none => match l with
  | .nat m :: r => K m r
  | r => K 0 r
def fI (l : List PV) (K : Int → List PV → α) : α := match l with
 | .int m :: r => K m r
 | r => K 0 r
def fX (l : List PV) (K : List Int → List PV → α) : α := match l with
 | .xs m :: r => K m r
 | r => K [] r
def fXX (l : List PV) (K : List (List Int) → List PV → α) : α := match l with
 | .xss m :: r => K m r
 | r => K [] r
def fA (h : HA) (l : List PV) (K : A1 → List PV → α) : α := match h with
 | .top => K .top l
 | .ub => K .ub l
 | .int k => fI l fun n r => K (.int k n) r
 | .lit k n => K (.int k n) l
 | .bool => match l with
  | .bool b :: r => K (.known b) r
  | r => K .top r
 | .known b => K (.known b) l
 | .str => match l with
  | .str s :: r => K (.str s) r
  | r => K .top r
 | .nilp => K .nilp l
 | .nilsl => K .nilsl l
 | .nilif => K .nilif l
 | .ptr o b i => match i with
  | false => K (.ptr o b none) l
  | true => fN none l fun n r => K (.ptr o b (some n)) r
 | .vec o n e => fN n l fun n r => K (.vec o n e) r
 | .sl o f n c e => fN f l fun f r => fN n r fun n r => fN c r fun c r => K (.sl o f n c e) r
 | .fn f => K (.fn f) l
 | .clo f o b => K (.clo f o b) l
 | .ifi t k => fI l fun n r => K (.ifi t k n) r
 | .ifg t k => fI l fun n r => K (.ifg t k n) r
 | .ifp t o b => K (.ifp t o b) l
 | .ifq t o b k => fI l fun n r => K (.ifq t o b k n) r
 | .fr k => fX l fun z r => K (.fr (.xs k z)) r
 | .frs k => fXX l fun z r => K (.fr (.xss k z)) r
def fG (h : HS) (l : List PV) (K : Seg → List PV → α) : α := match h with
 | .xs k n => fN n l fun n r => fX r fun z r => K (.xs k n z) r
 | .one a => fA a l fun a r => K (.one a) r
 | .rw k => fXX l fun z r => K (.rw k z) r
def fGs : List HS → List PV → (List Seg → List PV → α) → α
 | [], l, K => K [] l
 | h :: hs, l, K => fG h l fun a r => fGs hs r fun as r => K (a :: as) r
def fAs : List HA → List PV → (List A1 → List PV → α) → α
 | [], l, K => K [] l
 | h :: hs, l, K => fA h l fun a r => fAs hs r fun as r => K (a :: as) r
def fV (h : HV) (l : List PV) (K : TV → List PV → α) : α := match h with
 | .any => K (.one .any) l
 | .sc a => fA a l fun a r => K (.one (.sc a)) r
 | .agg s => fGs s l fun s r => K (.one (.agg s)) r
def fVs : List HV → List PV → (List TV → List PV → α) → α
 | [], l, K => K [] l
 | h :: hs, l, K => fV h l fun a r => fVs hs r fun as r => K (a :: as) r
def fM (h : HM) (l : List PV) (K : Slot → List PV → α) : α := match h with
 | .free => K .free l
 | .dead => K .dead l
 | .live s m => fGs s l fun s r => K (.live { segs := s, own := m }) r
def fMs : List HM → List PV → (List Slot → List PV → α) → α
 | [], l, K => K [] l
 | h :: hs, l, K => fM h l fun a r => fMs hs r fun as r => K (a :: as) r
def fDs : List (FuncId × List HA) → List PV → (List (FuncId × List A1) → List PV → α) → α
 | [], l, K => K [] l
 | h :: hs, l, K => fAs h.2 l fun a r => fDs hs r fun as r => K ((h.1, a) :: as) r
end
def fSt (h : HSt) (ks : List PK) (x : Ps ks) : St :=
 fVs h.tmps (a8E ks x) fun ts r => fMs h.mem r fun ms r => fDs h.dfr r fun ds _ => { tmps := ts, mem := ms, dfr := ds }
def mkS (h : HSt) (ks : List PK) : Shape := ⟨h, ks, fSt h ks⟩
def pv : Nat → List HV → List HV
 | 0, l => l
 | n + 1, l => .any :: pv n l
end Go.Ax
