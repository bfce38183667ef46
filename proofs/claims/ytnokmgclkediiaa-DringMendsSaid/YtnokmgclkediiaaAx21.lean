/- A part of the proof: Ax21. -/
import Derived.Test.YtnokmgclkediiaaAx20
set_option linter.unusedSimpArgs false
/-! ### Code whose loops and forks are answered by a table -/
namespace Go.Ax
open Go.RowKit

/-- What may vary in a state of a given shape. -/
inductive PK where
  | int | nat | bool | str | xs
abbrev PK.T : PK → Type
  | .int => Int
  | .nat => Nat
  | .bool => Bool
  | .str => ByteArray
  | .xs => List Int
inductive PV where
  | int (n : Int)
  | nat (n : Nat)
  | bool (b : Bool)
  | str (s : ByteArray)
  | xs (l : List Int)
abbrev Ps : List PK → Type
  | [] => Unit
  | k :: r => k.T × Ps r
def PK.enc : (k : PK) → k.T → PV
  | .int, n => .int n
  | .nat, n => .nat n
  | .bool, n => .bool n
  | .str, n => .str n
  | .xs, n => .xs n
def PK.dec : (k : PK) → PV → Option k.T
  | .int, .int n => some n
  | .nat, .nat n => some n
  | .bool, .bool n => some n
  | .str, .str n => some n
  | .xs, .xs n => some n
  | _, _ => none
def encAll : (ks : List PK) → Ps ks → List PV
  | [], _ => []
  | k :: r, x => k.enc x.1 :: encAll r x.2
def decAll : (ks : List PK) → List PV → Option (Ps ks)
  | [], [] => some ()
  | k :: r, v :: l => match k.dec v, decAll r l with
    | some a, some b => some (a, b)
    | _, _ => none
  | _, _ => none
theorem PK.dec_enc {k : PK} {v : PV} {x : k.T} (h : k.dec v = some x) : v = k.enc x := by
  cases k <;> cases v <;> simp [PK.dec] at h <;> subst h <;> rfl
theorem PK.enc_dec (k : PK) (x : k.T) : k.dec (k.enc x) = some x := by cases k <;> rfl
theorem dec_enc : ∀ {ks : List PK} {l : List PV} {x : Ps ks}, decAll ks l = some x → l = encAll ks x
  | [], [], x, h => rfl
  | [], _ :: _, x, h => by simp [decAll] at h
  | _ :: _, [], x, h => by simp [decAll] at h
  | k :: r, v :: l, x, h => by
    simp only [decAll] at h
    split at h
    · rename_i a b e1 e2
      cases h
      simp only [encAll]
      rw [PK.dec_enc e1, dec_enc e2]
    · cases h
theorem enc_dec : ∀ (ks : List PK) (x : Ps ks), decAll ks (encAll ks x) = some x
  | [], _ => rfl
  | k :: r, x => by simp [encAll, decAll, PK.enc_dec, enc_dec r x.2]

/-- Shapes. -/
inductive HA where
  | top | int (k : IntKind) | bool | known (b : Bool) | str | nilp | nilsl | nilif
  | ptr (o b : Nat) (i : Bool)
  | vec (o : Nat) (len : Option Nat) (es : Nat)
  | sl (o : Nat) (off len cap : Option Nat) (es : Nat)
  | fn (f : FuncId)
  | clo (f : FuncId) (o b : Nat)
  | ifi (t : TypeId) (k : IntKind)
  | ifg (t : TypeId) (k : IntKind)
  | ifp (t : TypeId) (o b : Nat)
  | ifq (t : TypeId) (o b : Nat) (k : IntKind)
inductive HS where
  | xs (k : CK) (n : Option Nat)
  | one (a : HA)
inductive HV where
  | any
  | sc (a : HA)
  | agg (l : List HS)
inductive HM where
  | free | dead | live (l : List HS) (own : Bool)
structure HSt where
  tmps : List HV
  mem : List HM

def mN : Option Nat → Nat → Option (List PV)
  | none, n => some [.nat n]
  | some m, n => match Nat.beq m n with
    | true => some []
    | false => none
def app2 (a b : Option (List PV)) : Option (List PV) := match a, b with
  | some x, some y => some (x ++ y)
  | _, _ => none
def mA : HA → A1 → Option (List PV)
  | .top, .top => some []
  | .int k, .int k' n => if k = k' then some [.int n] else none
  | .bool, .known b => some [.bool b]
  | .known b, .known b' => match b == b' with
    | true => some []
    | false => none
  | .str, .str s => some [.str s]
  | .nilp, .nilp => some []
  | .nilsl, .nilsl => some []
  | .nilif, .nilif => some []
  | .ptr o b false, .ptr o' b' none => match Nat.beq o o' && Nat.beq b b' with
    | true => some []
    | false => none
  | .ptr o b true, .ptr o' b' (some i) => match Nat.beq o o' && Nat.beq b b' with
    | true => some [.nat i]
    | false => none
  | .vec o n e, .vec o' n' e' => match Nat.beq o o' && Nat.beq e e' with
    | true => mN n n'
    | false => none
  | .sl o f n c e, .sl o' f' n' c' e' => match Nat.beq o o' && Nat.beq e e' with
    | true => app2 (mN f f') (app2 (mN n n') (mN c c'))
    | false => none
  | .fn f, .fn f' => match Nat.beq f f' with
    | true => some []
    | false => none
  | .clo f o b, .clo f' o' b' => match Nat.beq f f' && (Nat.beq o o' && Nat.beq b b') with
    | true => some []
    | false => none
  | .ifi t k, .ifi t' k' n => match Nat.beq t t' with
    | true => if k = k' then some [.int n] else none
    | false => none
  | .ifg t k, .ifg t' k' n => match Nat.beq t t' with
    | true => if k = k' then some [.int n] else none
    | false => none
  | .ifp t o b, .ifp t' o' b' => match Nat.beq t t' && (Nat.beq o o' && Nat.beq b b') with
    | true => some []
    | false => none
  | .ifq t o b k, .ifq t' o' b' k' n => match Nat.beq t t' && (Nat.beq o o' && Nat.beq b b') with
    | true => if k = k' then some [.int n] else none
    | false => none
  | _, _ => none
def mS : HS → Seg → Option (List PV)
  | .xs k n, .xs k' n' zs => if k = k' then app2 (mN n n') (some [.xs zs]) else none
  | .one h, .one a => mA h a
  | _, _ => none
def mL {α β : Type} (m : α → β → Option (List PV)) : List α → List β → Option (List PV)
  | [], [] => some []
  | h :: hs, x :: xs => app2 (m h x) (mL m hs xs)
  | _, _ => none
def mV : HV → TV → Option (List PV)
  | .any, .one .any => some []
  | .sc h, .one (.sc a) => mA h a
  | .agg h, .one (.agg l) => mL mS h l
  | _, _ => none
def mM : HM → Slot → Option (List PV)
  | .free, .free => some []
  | .dead, .dead => some []
  | .live h own, .live b => match own == b.own with
    | true => mL mS h b.segs
    | false => none
  | _, _ => none
def mSt (h : HSt) (st : St) : Option (List PV) := app2 (mL mV h.tmps st.tmps) (mL mM h.mem st.mem)

/-- A match fixes all but what it answers. -/
def Fixes {α β : Type} (m : α → β → Option (List PV)) (h : α) : Prop := ∀ x y l l', m h x = some l → m h y = some l' → l.length = l'.length ∧ (l = l' → x = y)

theorem app2_some {a b : Option (List PV)} {l : List PV} (h : app2 a b = some l) : ∃ x y, a = some x ∧ b = some y ∧ l = x ++ y := by
  unfold app2 at h
  split at h
  · cases h; exact ⟨_, _, rfl, rfl, rfl⟩
  · cases h

theorem mN_fixes (n : Option Nat) : Fixes mN n := by
  intro x y l l' h h'
  cases n with
  | none => cases h; cases h'; exact ⟨rfl, fun e => by simpa using e⟩
  | some m =>
    simp only [mN] at h h'
    split at h <;> cases h
    split at h' <;> cases h'
    rename_i e1 _ e2
    exact ⟨rfl, fun _ => by rw [← beq_t e1, ← beq_t e2]⟩

theorem mA_fixes (h : HA) : Fixes mA h := by
  intro x y l l' e e'
  cases h
  case top => cases x <;> simp [mA] at e; cases y <;> simp [mA] at e'; simp [e, e']
  case int k =>
    cases x <;> simp [mA] at e
    cases y <;> simp [mA] at e'
    obtain ⟨rfl, rfl⟩ := e
    obtain ⟨rfl, rfl⟩ := e'
    simp
  case bool =>
    cases x <;> simp [mA] at e
    cases y <;> simp [mA] at e'
    subst e; subst e'
    simp
  case known b =>
    cases x <;> simp only [mA] at e <;> try (cases e; done)
    cases y <;> simp only [mA] at e' <;> try (cases e'; done)
    split at e <;> cases e
    split at e' <;> cases e'
    rename_i e1 _ e2
    have e1 := eq_of_beq e1
    have e2 := eq_of_beq e2
    subst e1; subst e2
    simp
  case str =>
    cases x <;> simp [mA] at e
    cases y <;> simp [mA] at e'
    subst e; subst e'
    simp
  case nilp => cases x <;> simp [mA] at e; cases y <;> simp [mA] at e'; simp [e, e']
  case nilsl => cases x <;> simp [mA] at e; cases y <;> simp [mA] at e'; simp [e, e']
  case nilif => cases x <;> simp [mA] at e; cases y <;> simp [mA] at e'; simp [e, e']
  case ptr o b i =>
    cases i
    · cases x <;> try (simp [mA] at e; done)
      rename_i i
      cases i <;> simp only [mA] at e <;> try (cases e; done)
      cases y <;> try (simp [mA] at e'; done)
      rename_i i
      cases i <;> simp only [mA] at e' <;> try (cases e'; done)
      split at e <;> cases e
      split at e' <;> cases e'
      rename_i e1 _ e2
      rw [Bool.and_eq_true] at e1 e2
      obtain ⟨p, q⟩ := e1
      obtain ⟨p', q'⟩ := e2
      have p := beq_t p; have q := beq_t q; have p' := beq_t p'; have q' := beq_t q'
      subst p; subst q; subst p'; subst q'
      simp
    · cases x <;> try (simp [mA] at e; done)
      rename_i i
      cases i <;> simp only [mA] at e <;> try (cases e; done)
      cases y <;> try (simp [mA] at e'; done)
      rename_i i
      cases i <;> simp only [mA] at e' <;> try (cases e'; done)
      split at e <;> cases e
      split at e' <;> cases e'
      rename_i e1 _ e2
      rw [Bool.and_eq_true] at e1 e2
      obtain ⟨p, q⟩ := e1
      obtain ⟨p', q'⟩ := e2
      have p := beq_t p; have q := beq_t q; have p' := beq_t p'; have q' := beq_t q'
      subst p; subst q; subst p'; subst q'
      simp
  case vec o n es =>
    cases x <;> simp only [mA] at e <;> try (cases e; done)
    cases y <;> simp only [mA] at e' <;> try (cases e'; done)
    split at e <;> try (cases e; done)
    split at e' <;> try (cases e'; done)
    rename_i e1 _ e2
    rw [Bool.and_eq_true] at e1 e2
    obtain ⟨p, q⟩ := e1
    obtain ⟨p', q'⟩ := e2
    have p := beq_t p; have q := beq_t q; have p' := beq_t p'; have q' := beq_t q'
    subst p; subst q; subst p'; subst q'
    obtain ⟨h1, h2⟩ := mN_fixes n _ _ _ _ e e'
    exact ⟨h1, fun hl => by rw [h2 hl]⟩
  case sl o f n c es =>
    cases x <;> simp only [mA] at e <;> try (cases e; done)
    cases y <;> simp only [mA] at e' <;> try (cases e'; done)
    split at e <;> try (cases e; done)
    split at e' <;> try (cases e'; done)
    rename_i e1 _ e2
    rw [Bool.and_eq_true] at e1 e2
    obtain ⟨p, q⟩ := e1
    obtain ⟨p', q'⟩ := e2
    have p := beq_t p; have q := beq_t q; have p' := beq_t p'; have q' := beq_t q'
    subst p; subst q; subst p'; subst q'
    obtain ⟨l1, l2, a1, a2, rfl⟩ := app2_some e
    obtain ⟨l3, l4, a3, a4, rfl⟩ := app2_some a2
    obtain ⟨m1, m2, b1, b2, rfl⟩ := app2_some e'
    obtain ⟨m3, m4, b3, b4, rfl⟩ := app2_some b2
    obtain ⟨f1, f2⟩ := mN_fixes f _ _ _ _ a1 b1
    obtain ⟨n1, n2⟩ := mN_fixes n _ _ _ _ a3 b3
    obtain ⟨c1, c2⟩ := mN_fixes c _ _ _ _ a4 b4
    refine ⟨by simp [f1, n1, c1], fun hl => ?_⟩
    obtain ⟨g1, g2⟩ := List.append_inj hl f1
    obtain ⟨g3, g4⟩ := List.append_inj g2 n1
    rw [f2 g1, n2 g3, c2 g4]
  case fn f =>
    cases x <;> simp only [mA] at e <;> try (cases e; done)
    cases y <;> simp only [mA] at e' <;> try (cases e'; done)
    split at e <;> cases e
    split at e' <;> cases e'
    rename_i e1 _ e2
    have p := beq_t e1; have p' := beq_t e2
    subst p; subst p'
    simp
  case clo f o b =>
    cases x <;> simp only [mA] at e <;> try (cases e; done)
    cases y <;> simp only [mA] at e' <;> try (cases e'; done)
    split at e <;> cases e
    split at e' <;> cases e'
    rename_i e1 _ e2
    rw [Bool.and_eq_true, Bool.and_eq_true] at e1 e2
    obtain ⟨r, p, q⟩ := e1
    obtain ⟨r', p', q'⟩ := e2
    have p := beq_t p; have q := beq_t q; have p' := beq_t p'; have q' := beq_t q'; have r := beq_t r; have r' := beq_t r'
    subst p; subst q; subst p'; subst q'; subst r; subst r'
    simp
  case ifp f o b =>
    cases x <;> simp only [mA] at e <;> try (cases e; done)
    cases y <;> simp only [mA] at e' <;> try (cases e'; done)
    split at e <;> cases e
    split at e' <;> cases e'
    rename_i e1 _ e2
    rw [Bool.and_eq_true, Bool.and_eq_true] at e1 e2
    obtain ⟨r, p, q⟩ := e1
    obtain ⟨r', p', q'⟩ := e2
    have p := beq_t p; have q := beq_t q; have p' := beq_t p'; have q' := beq_t q'; have r := beq_t r; have r' := beq_t r'
    subst p; subst q; subst p'; subst q'; subst r; subst r'
    simp
  case ifq f o b k =>
    cases x <;> simp only [mA] at e <;> try (cases e; done)
    cases y <;> simp only [mA] at e' <;> try (cases e'; done)
    split at e <;> try (cases e; done)
    split at e' <;> try (cases e'; done)
    rename_i e1 _ e2
    rw [Bool.and_eq_true, Bool.and_eq_true] at e1 e2
    obtain ⟨r, p, q⟩ := e1
    obtain ⟨r', p', q'⟩ := e2
    have p := beq_t p; have q := beq_t q; have p' := beq_t p'; have q' := beq_t q'; have r := beq_t r; have r' := beq_t r'
    subst p; subst q; subst p'; subst q'; subst r; subst r'
    split at e <;> cases e
    split at e' <;> cases e'
    rename_i e1 e2
    subst e1; subst e2
    simp
  case ifi t k =>
    cases x <;> simp only [mA] at e <;> try (cases e; done)
    cases y <;> simp only [mA] at e' <;> try (cases e'; done)
    split at e <;> try (cases e; done)
    split at e' <;> try (cases e'; done)
    rename_i e1 _ e2
    have r := beq_t e1; have r' := beq_t e2
    subst r; subst r'
    split at e <;> cases e
    split at e' <;> cases e'
    rename_i e1 e2
    subst e1; subst e2
    simp
  case ifg t k =>
    cases x <;> simp only [mA] at e <;> try (cases e; done)
    cases y <;> simp only [mA] at e' <;> try (cases e'; done)
    split at e <;> try (cases e; done)
    split at e' <;> try (cases e'; done)
    rename_i e1 _ e2
    have r := beq_t e1; have r' := beq_t e2
    subst r; subst r'
    split at e <;> cases e
    split at e' <;> cases e'
    rename_i e1 e2
    subst e1; subst e2
    simp

theorem mS_fixes (h : HS) : Fixes mS h := by
  intro x y l l' e e'
  cases h with
  | xs k n =>
    cases x <;> simp only [mS] at e <;> try (cases e; done)
    cases y <;> simp only [mS] at e' <;> try (cases e'; done)
    split at e <;> try (cases e; done)
    split at e' <;> try (cases e'; done)
    rename_i e1 e2
    subst e1; subst e2
    obtain ⟨l1, l2, a1, a2, rfl⟩ := app2_some e
    obtain ⟨m1, m2, b1, b2, rfl⟩ := app2_some e'
    obtain ⟨f1, f2⟩ := mN_fixes n _ _ _ _ a1 b1
    cases a2; cases b2
    refine ⟨by simp [f1], fun hl => ?_⟩
    obtain ⟨g1, g2⟩ := List.append_inj hl f1
    rw [f2 g1]
    simp at g2
    rw [g2]
  | one h =>
    cases x <;> simp only [mS] at e <;> try (cases e; done)
    cases y <;> simp only [mS] at e' <;> try (cases e'; done)
    obtain ⟨h1, h2⟩ := mA_fixes h _ _ _ _ e e'
    exact ⟨h1, fun hl => by rw [h2 hl]⟩

theorem mL_fixes {α β : Type} {m : α → β → Option (List PV)} (hm : ∀ h, Fixes m h) : ∀ hs, Fixes (mL m) hs
  | [], [], [], l, l', e, e' => by cases e; cases e'; simp
  | [], _ :: _, _, l, l', e, e' => by simp [mL] at e
  | [], _, _ :: _, l, l', e, e' => by simp [mL] at e'
  | _ :: _, [], _, l, l', e, e' => by simp [mL] at e
  | _ :: _, _, [], l, l', e, e' => by simp [mL] at e'
  | h :: hs, x :: xs, y :: ys, l, l', e, e' => by
    obtain ⟨l1, l2, a1, a2, rfl⟩ := app2_some e
    obtain ⟨m1, m2, b1, b2, rfl⟩ := app2_some e'
    obtain ⟨f1, f2⟩ := hm h _ _ _ _ a1 b1
    obtain ⟨n1, n2⟩ := mL_fixes hm hs _ _ _ _ a2 b2
    refine ⟨by simp [f1, n1], fun hl => ?_⟩
    obtain ⟨g1, g2⟩ := List.append_inj hl f1
    rw [f2 g1, n2 g2]

theorem mV_fixes (h : HV) : Fixes mV h := by
  intro x y l l' e e'
  cases h with
  | any =>
    cases x <;> simp only [mV] at e <;> try (cases e; done)
    cases y <;> simp only [mV] at e' <;> try (cases e'; done)
    rename_i x y
    cases x <;> simp only [mV] at e <;> try (cases e; done)
    cases y <;> simp only [mV] at e' <;> try (cases e'; done)
    cases e; cases e'; simp
  | sc h =>
    cases x <;> simp only [mV] at e <;> try (cases e; done)
    cases y <;> simp only [mV] at e' <;> try (cases e'; done)
    rename_i x y
    cases x <;> simp only [mV] at e <;> try (cases e; done)
    cases y <;> simp only [mV] at e' <;> try (cases e'; done)
    obtain ⟨h1, h2⟩ := mA_fixes h _ _ _ _ e e'
    exact ⟨h1, fun hl => by rw [h2 hl]⟩
  | agg h =>
    cases x <;> simp only [mV] at e <;> try (cases e; done)
    cases y <;> simp only [mV] at e' <;> try (cases e'; done)
    rename_i x y
    cases x <;> simp only [mV] at e <;> try (cases e; done)
    cases y <;> simp only [mV] at e' <;> try (cases e'; done)
    obtain ⟨h1, h2⟩ := mL_fixes mS_fixes h _ _ _ _ e e'
    exact ⟨h1, fun hl => by rw [h2 hl]⟩

theorem mM_fixes (h : HM) : Fixes mM h := by
  intro x y l l' e e'
  cases h with
  | free =>
    cases x <;> simp only [mM] at e <;> try (cases e; done)
    cases y <;> simp only [mM] at e' <;> try (cases e'; done)
    cases e; cases e'; simp
  | dead =>
    cases x <;> simp only [mM] at e <;> try (cases e; done)
    cases y <;> simp only [mM] at e' <;> try (cases e'; done)
    cases e; cases e'; simp
  | live h own =>
    cases x <;> simp only [mM] at e <;> try (cases e; done)
    cases y <;> simp only [mM] at e' <;> try (cases e'; done)
    split at e <;> try (cases e; done)
    split at e' <;> try (cases e'; done)
    rename_i b b' _ e1 _ e2
    obtain ⟨h1, h2⟩ := mL_fixes mS_fixes h _ _ _ _ e e'
    refine ⟨h1, fun hl => ?_⟩
    have e1 := eq_of_beq e1
    have e2 := eq_of_beq e2
    have h2 := h2 hl
    obtain ⟨s, o⟩ := b
    obtain ⟨s', o'⟩ := b'
    simp only at e1 e2 h2
    rw [← e1, ← e2, h2]

theorem mSt_fixes (h : HSt) : Fixes mSt h := by
  intro x y l l' e e'
  obtain ⟨l1, l2, a1, a2, rfl⟩ := app2_some e
  obtain ⟨m1, m2, b1, b2, rfl⟩ := app2_some e'
  obtain ⟨f1, f2⟩ := mL_fixes mV_fixes h.tmps _ _ _ _ a1 b1
  obtain ⟨n1, n2⟩ := mL_fixes mM_fixes h.mem _ _ _ _ a2 b2
  refine ⟨by simp [f1, n1], fun hl => ?_⟩
  obtain ⟨g1, g2⟩ := List.append_inj hl f1
  obtain ⟨s, o⟩ := x
  obtain ⟨s', o'⟩ := y
  have := f2 g1
  have := n2 g2
  simp_all

def un (h : HSt) (ks : List PK) (st : St) : Option (Ps ks) := match mSt h st with
  | some l => decAll ks l
  | none => none

/-- A shape with its states. -/
structure Shape where
  h : HSt
  ks : List PK
  st : Ps ks → St
def Shape.Ok (S : Shape) : Prop := ∀ x, mSt S.h (S.st x) = some (encAll S.ks x)
def Shape.un (S : Shape) (st : St) : Option (Ps S.ks) := Ax.un S.h S.ks st
theorem Shape.un_st {S : Shape} (hS : S.Ok) (x : Ps S.ks) : S.un (S.st x) = some x := by
  simp only [Shape.un, Ax.un, hS x, enc_dec]
theorem Shape.st_un {S : Shape} (hS : S.Ok) {st : St} {x : Ps S.ks} (h : S.un st = some x) : st = S.st x := by
  unfold Shape.un Ax.un at h
  split at h
  · rename_i l hl
    have hd := dec_enc h
    exact (mSt_fixes S.h _ _ _ _ hl (hS x)).2 hd
  · cases h

/-- Rounds of a loop. -/
def iter {X Y : Type} (F : (β : Type) → X → (X → Option β) → (Y → Option β) → Option β) {β : Type} : Nat → X → (Y → Option β) → Option β
  | 0, _, _ => none
  | n + 1, x, k => F β x (fun x' => iter F n x' k) k

structure Entry where
  run : {β : Type} → St → (Ex → St → Option β) → Option β
abbrev LT := Nat → Option Entry

abbrev Go' (Y : Type) := {β : Type} → Y → (Ex → St → Option β) → Option β
def loopE (S : Shape) (n : Nat) {Y : Type} (F : (β : Type) → Ps S.ks → (Ps S.ks → Option β) → (Y → Option β) → Option β) (go : Go' Y) : Entry where
  run st K := match S.un st with
    | some x => iter F n x fun y => go y K
    | none => none
def condE (S : Shape) {Y : Type} (F : (β : Type) → Ps S.ks → (Y → Option β) → Option β) (go : Go' Y) : Entry where
  run {β} st K := match S.un st with
    | some x => F β x fun y => go y K
    | none => none

def codeL (E : AE) (H : Hints) (L : LT) (n : Nat) {β : Type} : Code → St → (Ex → St → Option β) → Option β
  | .skip, st, K => K .normal st
  | .region _ ops draw, st, K => match draw with
    | false => (regionT E ops [] st).run (K .normal)
    | true => match regionOk [] ops ops.toList [] [] with
      | true => (regionT E ops [] st).run (K .normal)
      | false => match regionOk (footsOf ops.toList st ops.toList) ops ops.toList [] [] with
        | true => (regionT E ops (footsOf ops.toList st ops.toList) st).run (K .normal)
        | false => none
  | .seq x y, st, K => codeL E H L n x st fun e st' => match e with
    | .normal => codeL E H L n y st' K
    | e => K e st'
  | .cond c x y, st, K => match c with
    | .tmp t => match L (1000000 + t) with
      | some f => f.run (pre H (1000000 + t) st) K
      | none => condK t (pre H (1000000 + t) st) (fun st => codeL E H L n x st (joinK H (4000000 + t) K)) (fun st => codeL E H L n y st (joinK H (4000000 + t) K))
    | _ => none
  | .block id x, st, K => codeL E H L n x st fun e st' => match e with
    | .exit j => match Nat.beq j id with
      | true => K .normal st'
      | false => K (.exit j) st'
    | e => K e st'
  | .loop x, st, K => match firstRegion x with
    | some k => match L k with
      | some f => f.run (pre H k st) K
      | none => none
    | none => none
  | .exit id, st, K => K (.exit id) (pre H (2000000 + id) st)
  | .ret, st, K => K .ret (pre H 3000000 st)
  | _, _, _ => none

def keyOf : Code → Option Nat
  | .loop x => firstRegion x
  | .cond (.tmp t) _ _ => some (1000000 + t)
  | _ => none
/-- The loops and forks of a code. -/
def subs : Code → List Code
  | .seq a b => subs a ++ subs b
  | .block _ c => subs c
  | .loop x => .loop x :: subs x
  | .cond c x y => .cond c x y :: (subs x ++ subs y)
  | _ => []
def preOf (H : Hints) (c : Code) (st : St) : St := match keyOf c with
  | some k => pre H k st
  | none => st
def EntryOk (E : AE) (H : Hints) (n : Nat) (f : Entry) (c : Code) : Prop :=
  ∀ (β : Type) (st : St) (K : Ex → St → Option β) (r : β), f.run (preOf H c st) K = some r → codeK E H n c st K = some r
def OkAll (E : AE) (H : Hints) (n : Nat) (L : LT) (l : List Code) : Prop :=
  ∀ c ∈ l, ∀ k f, keyOf c = some k → L k = some f → EntryOk E H n f c

section
variable {E : AE} {H : Hints} {n : Nat} {L : LT}

theorem subs_trans : ∀ (c : Code) {d : Code}, d ∈ subs c → ∀ x ∈ subs d, x ∈ subs c
  | .seq a b, d, h, x, hx => by
    simp only [subs, List.mem_append] at h ⊢
    rcases h with h | h
    · exact .inl (subs_trans a h x hx)
    · exact .inr (subs_trans b h x hx)
  | .block _ c, d, h, x, hx => subs_trans c h x hx
  | .loop c, d, h, x, hx => by
    simp only [subs, List.mem_cons] at h ⊢
    rcases h with rfl | h
    · simpa [subs] using hx
    · exact .inr (subs_trans c h x hx)
  | .cond c a b, d, h, x, hx => by
    simp only [subs, List.mem_cons, List.mem_append] at h ⊢
    rcases h with rfl | h | h
    · simpa [subs] using hx
    · exact .inr (.inl (subs_trans a h x hx))
    · exact .inr (.inr (subs_trans b h x hx))
  | .skip, d, h, x, hx => by simp [subs] at h
  | .region _ _ _, d, h, x, hx => by simp [subs] at h
  | .exit _, d, h, x, hx => by simp [subs] at h
  | .ret, d, h, x, hx => by simp [subs] at h
  | .rangeFunc _ _ _ _, d, h, x, hx => by simp [subs] at h
  | .scope _, d, h, x, hx => by simp [subs] at h
  | .label _, d, h, x, hx => by simp [subs] at h
  | .goto _, d, h, x, hx => by simp [subs] at h
  | .refuse _, d, h, x, hx => by simp [subs] at h

theorem T.run_mono {α β : Type} {t : T α} {K1 K2 : α → Option β} {r : β} (h : t.run K1 = some r) (hk : ∀ a, K1 a = some r → K2 a = some r) : t.run K2 = some r := by
  rw [T.run_val, Option.bind_eq_some_iff] at h ⊢
  obtain ⟨a, h1, h2⟩ := h
  exact ⟨a, h1, hk a h2⟩
theorem condK_mono {β : Type} {t : Nat} {st : St} {x y x' y' : St → Option β} {r : β} (h : condK t st x y = some r) (hx : ∀ s, x s = some r → x' s = some r) (hy : ∀ s, y s = some r → y' s = some r) : condK t st x' y' = some r := by
  unfold condK at h ⊢
  split at h
  · exact hx _ h
  · exact hy _ h
  · split at h
    · rename_i hp; rw [if_pos hp]; exact hx _ h
    · rename_i hp; rw [if_neg hp]; exact hy _ h
  · cases h
theorem joinK_mono {β : Type} {k : Nat} {K1 K2 : Ex → St → Option β} {r : β} (hk : ∀ e st, K1 e st = some r → K2 e st = some r) : ∀ e st, joinK H k K1 e st = some r → joinK H k K2 e st = some r := by
  intro e st h
  cases e with
  | normal => exact hk _ _ h
  | exit id => exact hk _ _ h
  | ret => exact hk _ _ h
theorem loopK_mono {β : Type} {body : St → (Ex → St → Option β) → Option β} {hd : St → St} {r : β} {K1 K2 : Ex → St → Option β} (hk : ∀ e st, K1 e st = some r → K2 e st = some r) (hb : ∀ st K1 K2, (∀ e st, K1 e st = some r → K2 e st = some r) → body st K1 = some r → body st K2 = some r) : ∀ (m : Nat) (st : St), loopK body hd m st K1 = some r → loopK body hd m st K2 = some r
  | 0, st, h => by cases h
  | m + 1, st, h => by
    refine hb _ _ _ ?_ h
    intro e st' h
    cases e with
    | normal => exact loopK_mono hk hb m st' h
    | exit id => exact hk _ _ h
    | ret => exact hk _ _ h
theorem codeK_mono {β : Type} {r : β} : ∀ (c : Code) {st : St} {K1 K2 : Ex → St → Option β}, (∀ e st, K1 e st = some r → K2 e st = some r) → codeK E H n c st K1 = some r → codeK E H n c st K2 = some r
  | .skip, st, K1, K2, hk, h => hk _ _ h
  | .region id ops draw, st, K1, K2, hk, h => by
    simp only [codeK] at h ⊢
    split at h
    · exact T.run_mono h fun a => hk .normal a
    · split at h
      · exact T.run_mono h fun a => hk .normal a
      · split at h
        · exact T.run_mono h fun a => hk .normal a
        · cases h
  | .seq x y, st, K1, K2, hk, h => by
    refine codeK_mono x ?_ h
    intro e st' h
    cases e with
    | normal => exact codeK_mono y hk h
    | exit id => exact hk _ _ h
    | ret => exact hk _ _ h
  | .cond c x y, st, K1, K2, hk, h => by
    simp only [codeK] at h ⊢
    split at h
    · exact condK_mono h (fun s h => codeK_mono x (joinK_mono hk) h) (fun s h => codeK_mono y (joinK_mono hk) h)
    · cases h
  | .block id x, st, K1, K2, hk, h => by
    refine codeK_mono x ?_ h
    intro e st' h
    cases e with
    | normal => exact hk _ _ h
    | ret => exact hk _ _ h
    | exit j =>
      simp only at h ⊢
      split at h
      · exact hk _ _ h
      · exact hk _ _ h
  | .loop x, st, K1, K2, hk, h => by
    simp only [codeK] at h ⊢
    exact loopK_mono (body := fun st K => codeK E H n x st K) (hd := head H x) hk (fun st K1 K2 hk h => codeK_mono x hk h) n st h
  | .exit id, st, K1, K2, hk, h => hk _ _ h
  | .ret, st, K1, K2, hk, h => hk _ _ h
  | .rangeFunc _ _ _ _, st, K1, K2, hk, h => by simp [codeK] at h
  | .scope _, st, K1, K2, hk, h => by simp [codeK] at h
  | .label _, st, K1, K2, hk, h => by simp [codeK] at h
  | .goto _, st, K1, K2, hk, h => by simp [codeK] at h
  | .refuse _, st, K1, K2, hk, h => by simp [codeK] at h

theorem codeL_sound {β : Type} {r : β} : ∀ (c : Code) {st : St} {K1 K2 : Ex → St → Option β}, OkAll E H n L (subs c) → (∀ e st, K1 e st = some r → K2 e st = some r) → codeL E H L n c st K1 = some r → codeK E H n c st K2 = some r
  | .skip, st, K1, K2, hL, hk, h => hk _ _ h
  | .region id ops draw, st, K1, K2, hL, hk, h => by
    simp only [codeK, codeL] at h ⊢
    cases draw with
    | false => exact T.run_mono h fun a => hk .normal a
    | true =>
      simp only at h ⊢
      split at h
      · rename_i e; rw [e]; exact T.run_mono h fun a => hk .normal a
      · rename_i e
        rw [e]
        simp only
        split at h
        · rename_i e2; rw [e2]; exact T.run_mono h fun a => hk .normal a
        · cases h
  | .seq x y, st, K1, K2, hL, hk, h => by
    have hx : OkAll E H n L (subs x) := fun c hc => hL c (by simp [subs, hc])
    have hy : OkAll E H n L (subs y) := fun c hc => hL c (by simp [subs, hc])
    refine codeL_sound x hx ?_ h
    intro e st' h
    cases e with
    | normal => exact codeL_sound y hy hk h
    | exit id => exact hk _ _ h
    | ret => exact hk _ _ h
  | .cond c x y, st, K1, K2, hL, hk, h => by
    have hx : OkAll E H n L (subs x) := fun c hc => hL c (by simp [subs, hc])
    have hy : OkAll E H n L (subs y) := fun c hc => hL c (by simp [subs, hc])
    simp only [codeL] at h
    split at h
    · rename_i t
      split at h
      · rename_i f hf
        exact codeK_mono _ hk (hL _ (by simp [subs]) _ f rfl hf β st K1 r h)
      · simp only [codeK]
        exact condK_mono h (fun s h => codeL_sound x hx (joinK_mono hk) h) (fun s h => codeL_sound y hy (joinK_mono hk) h)
    · cases h
  | .block id x, st, K1, K2, hL, hk, h => by
    refine codeL_sound x hL ?_ h
    intro e st' h
    cases e with
    | normal => exact hk _ _ h
    | ret => exact hk _ _ h
    | exit j =>
      simp only at h ⊢
      split at h
      · rename_i e; rw [e]; exact hk _ _ h
      · rename_i e; rw [e]; exact hk _ _ h
  | .loop x, st, K1, K2, hL, hk, h => by
    simp only [codeL] at h
    split at h
    · rename_i k hkey
      split at h
      · rename_i f hf
        refine codeK_mono _ hk (hL (.loop x) (by simp [subs]) k f hkey hf β st K1 r ?_)
        simp only [preOf, keyOf, hkey]
        exact h
      · cases h
    · cases h
  | .exit id, st, K1, K2, hL, hk, h => hk _ _ h
  | .ret, st, K1, K2, hL, hk, h => hk _ _ h
  | .rangeFunc _ _ _ _, st, K1, K2, hL, hk, h => by simp [codeL] at h
  | .scope _, st, K1, K2, hL, hk, h => by simp [codeL] at h
  | .label _, st, K1, K2, hL, hk, h => by simp [codeL] at h
  | .goto _, st, K1, K2, hL, hk, h => by simp [codeL] at h
  | .refuse _, st, K1, K2, hL, hk, h => by simp [codeL] at h

def upd (L : LT) (k : Nat) (f : Entry) : LT := fun j => match Nat.beq j k with
  | true => some f
  | false => L j
def LT.nil : LT := fun _ => none
theorem OkAll.nil {l : List Code} : OkAll E H n LT.nil l := fun _ _ _ _ _ h => by cases h

def pickKey (k : Nat) : List Code → List Code
  | [] => []
  | c :: r => match keyOf c with
    | some j => match Nat.beq j k with
      | true => c :: pickKey k r
      | false => pickKey k r
    | none => pickKey k r
theorem pickKey_mem {k : Nat} : ∀ {l : List Code} {c : Code}, c ∈ pickKey k l ↔ c ∈ l ∧ keyOf c = some k
  | [], c => by simp [pickKey]
  | d :: r, c => by
    have ih := @pickKey_mem k r c
    simp only [pickKey]
    split
    · rename_i j hj
      split
      · rename_i e
        have e := beq_t e
        subst e
        simp only [List.mem_cons, ih]
        constructor
        · rintro (rfl | h)
          · exact ⟨.inl rfl, hj⟩
          · exact ⟨.inr h.1, h.2⟩
        · rintro ⟨rfl | h, h2⟩
          · exact .inl rfl
          · exact .inr ⟨h, h2⟩
      · rename_i e
        have e := beq_f e
        simp only [List.mem_cons, ih]
        constructor
        · exact fun h => ⟨.inr h.1, h.2⟩
        · rintro ⟨rfl | h, h2⟩
          · rw [hj] at h2; cases h2; exact absurd rfl e
          · exact ⟨h, h2⟩
    · rename_i hj
      simp only [List.mem_cons, ih]
      constructor
      · exact fun h => ⟨.inr h.1, h.2⟩
      · rintro ⟨rfl | h, h2⟩
        · rw [hj] at h2; cases h2
        · exact ⟨h, h2⟩

theorem OkAll.upd {body : Code} {k : Nat} {f : Entry} {c : Code} (hL : OkAll E H n L (subs body)) (hc : pickKey k (subs body) = [c]) (hf : EntryOk E H n f c) : OkAll E H n (upd L k f) (subs body) := by
  intro d hd j g hj hg
  unfold Ax.upd at hg
  split at hg
  · rename_i e
    have e := beq_t e
    subst e
    cases hg
    have : d ∈ pickKey j (subs body) := pickKey_mem.2 ⟨hd, hj⟩
    rw [hc] at this
    rw [List.mem_singleton.1 this]
    exact hf
  · exact hL d hd j g hj hg

def comb {β : Type} (H : Hints) (c : Code) (kn : St → Option β) (ke : Ex → St → Option β) : Ex → St → Option β
  | .normal, st => kn (head H c st)
  | e, st => ke e st

theorem addLoop {body : Code} {k : Nat} {c : Code} {S : Shape} {Y : Type} {F : (β : Type) → Ps S.ks → (Ps S.ks → Option β) → (Y → Option β) → Option β} {go : Go' Y}
    (hL : OkAll E H n L (subs body)) (hc : pickKey k (subs body) = [.loop c]) (hS : S.Ok)
    (hB : ∀ (β : Type) (x : Ps S.ks) (kn : St → Option β) (ke : Ex → St → Option β), codeL E H L n c (S.st x) (comb H c kn ke) = F β x (fun x' => kn (S.st x')) (fun y => go y ke)) :
    OkAll E H n (upd L k (loopE S n F go)) (subs body) := by
  refine hL.upd hc ?_
  have hmem : Code.loop c ∈ subs body ∧ keyOf (.loop c) = some k := pickKey_mem.1 (by rw [hc]; simp)
  have hLc : OkAll E H n L (subs c) := fun d hd => hL d (subs_trans body hmem.1 d (by simp [subs, hd]))
  have hkey : firstRegion c = some k := hmem.2
  intro β st K r h
  have main : ∀ (m : Nat) (st : St) (x : Ps S.ks), iter F m x (fun y => go y K) = some r → head H c st = S.st x → loopK (fun st K => codeK E H n c st K) (head H c) m st K = some r := by
    intro m
    induction m with
    | zero => intro st x h; cases h
    | succ m ih =>
      intro st x h hst
      simp only [iter] at h
      have hk : ∀ x', (match S.un (S.st x') with | some x'' => iter F m x'' (fun y => go y K) | none => none) = iter F m x' (fun y => go y K) := by
        intro x'
        rw [Shape.un_st hS x']
      have h2 := hB β x (fun s => match S.un s with | some x'' => iter F m x'' (fun y => go y K) | none => none) K
      simp only [hk] at h2
      rw [h] at h2
      simp only [loopK]
      rw [hst]
      refine codeL_sound c hLc ?_ h2
      intro e st' h
      cases e with
      | normal =>
        simp only [comb] at h
        split at h
        · rename_i x' hx'
          exact ih st' x' h (Shape.st_un hS hx')
        · cases h
      | exit id => exact h
      | ret => exact h
  simp only [loopE, preOf, keyOf, hkey] at h
  split at h
  · rename_i x hx
    refine main n st x h ?_
    simp only [head, hkey]
    exact Shape.st_un hS hx
  · cases h

theorem addCond {body : Code} {t : Nat} {a b : Code} {S : Shape} {Y : Type} {F : (β : Type) → Ps S.ks → (Y → Option β) → Option β} {go : Go' Y}
    (hL : OkAll E H n L (subs body)) (hc : pickKey (1000000 + t) (subs body) = [.cond (.tmp t) a b]) (hS : S.Ok)
    (hB : ∀ (β : Type) (x : Ps S.ks) (K : Ex → St → Option β), condK t (S.st x) (fun st => codeL E H L n a st (joinK H (4000000 + t) K)) (fun st => codeL E H L n b st (joinK H (4000000 + t) K)) = F β x (fun y => go y K)) :
    OkAll E H n (upd L (1000000 + t) (condE S F go)) (subs body) := by
  refine hL.upd hc ?_
  have hmem : Code.cond (.tmp t) a b ∈ subs body ∧ keyOf (.cond (.tmp t) a b) = some (1000000 + t) := pickKey_mem.1 (by rw [hc]; simp)
  have hLa : OkAll E H n L (subs a) := fun d hd => hL d (subs_trans body hmem.1 d (by simp [subs, hd]))
  have hLb : OkAll E H n L (subs b) := fun d hd => hL d (subs_trans body hmem.1 d (by simp [subs, hd]))
  intro β st K r h
  simp only [condE, preOf, keyOf] at h
  split at h
  · rename_i x hx
    have hst := Shape.st_un hS hx
    have h2 := hB β x K
    rw [h, ← hst] at h2
    simp only [codeK]
    exact condK_mono h2 (fun s h => codeL_sound a hLa (fun _ _ h => h) h) (fun s h => codeL_sound b hLb (fun _ _ h => h) h)
  · cases h

def funL (E : AE) (H : Hints) (L : LT) (n : Nat) (fn : Func) (c : Code) (ks rs : List Kd) (x : Ds ks) : Option (Rs rs) :=
  codeL E H L n c (startSt fn ks x) fun e st => match e with
    | .exit _ => none
    | _ => match resAll E st fn.results.toList with
      | some l => match outAll st rs l with
        | some r => some r.1
        | none => none
      | none => none
theorem funL_sound {fn : Func} {c : Code} (hc : fn.body = some c) (hL : OkAll E H n L (subs c)) {ks rs : List Kd} {x : Ds ks} {r : Rs rs} (h : funL E H L n fn c ks rs x = some r) : funK E H n fn ks rs x = some r := by
  unfold funK
  rw [hc]
  exact codeL_sound c hL (fun e st h => h) h
end
end Go.Ax
