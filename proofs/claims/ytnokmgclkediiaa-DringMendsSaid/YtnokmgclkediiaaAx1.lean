/- A part of the proof: Ax1. -/
import Derived.WalkKit
import Derived.KernelRfl
import Derived.Orders
/-! ### The abstract evaluator: values, memory, trees -/
namespace Go.Ax
open Go.RowKit

inductive CK where
  | int (k : IntKind)
  | bool
  deriving DecidableEq
def CK.val : CK → Int → Value
  | .int k, n => .int k n
  | .bool, n => .bool (n != 0)

inductive A1 where
  | top
  | int (k : IntKind) (n : Int)
  | known (b : Bool)
  | bool (p : Prop) (d : Decidable p)
  | str (s : ByteArray)
  | ptr (o base : Nat) (i : Option Nat)
  | nilp
  | vec (o len es : Nat)
  | sl (o off len cap es : Nat)
  | nilsl
  | nilif
  | fn (f : FuncId)
  | clo (f : FuncId) (o base : Nat)
  | ifi (t : TypeId) (k : IntKind) (n : Int)
  | ifg (t : TypeId) (k : IntKind) (n : Int)
  | ifp (t : TypeId) (o base : Nat)
  | ifq (t : TypeId) (o base : Nat) (k : IntKind) (n : Int)
inductive Seg where
  | xs (k : CK) (n : Nat) (zs : List Int)
  | one (a : A1)
inductive AV where
  | any
  | sc (a : A1)
  | agg (l : List Seg)
inductive TV where
  | one (a : AV)
  | tup (l : List AV)

structure Loc where
  a : Option (Nat × Nat)
  adr : Option Addr
  size : Nat
  cap : Nat
  es : Nat
def Loc.addr (l : Loc) : Option Addr := l.a.map fun p => ⟨p.1, p.2, none⟩
abbrev Env := Nat → Option Loc

def A1.rel (ρ : Env) : A1 → Value → Prop
  | .top, v => v.oneCell' = true
  | .int k n, v => v = .int k n
  | .known b, v => v = .bool b
  | .bool p d, v => v = .bool (@decide p d)
  | .str s, v => v = .string s
  | .ptr o base i, v => ∃ l b f, ρ o = some l ∧ l.a = some (b, f) ∧ v = .pointer (some ⟨b, f + (base + i.getD 0), none⟩)
  | .nilp, v => v = .pointer none
  | .vec o len es, v => ∃ l, ρ o = some l ∧ l.size = len ∧ l.es = es ∧ v = .slice l.adr l.size l.cap ∧ l.size ≤ l.cap ∧ (l.a = none → l.size = 0) ∧ (0 < l.size → l.adr = l.addr)
  | .sl o off len cap es, v => ∃ l a c, ρ o = some l ∧ v = .slice a len c ∧ len ≤ cap ∧ cap ≤ c ∧ off + len * es ≤ l.size * l.es ∧ (0 < len → ∃ b f, l.a = some (b, f) ∧ a = some ⟨b, f + off, none⟩)
  | .nilsl, v => v = .slice none 0 0
  | .nilif, v => v = .nilIface
  | .fn f, v => v = .func (.func f) #[] #[]
  | .clo g o base, v => ∃ l b f, ρ o = some l ∧ l.a = some (b, f) ∧ v = .func (.func g) #[] #[.pointer (some ⟨b, f + base, none⟩)]
  | .ifi t k n, v => v = .iface t (.int k n)
  | .ifg t k n, v => v = .iface t (.agg #[.int k n])
  | .ifp t o base, v => ∃ l b f, ρ o = some l ∧ l.a = some (b, f) ∧ v = .iface t (.agg #[.pointer (some ⟨b, f + base, none⟩)])
  | .ifq t o base k n, v => ∃ l b f, ρ o = some l ∧ l.a = some (b, f) ∧ v = .iface t (.agg #[.pointer (some ⟨b, f + base, none⟩), .int k n])

def segRel (ρ : Env) : List Seg → List Value → Prop
  | [], cs => cs = []
  | .xs k n zs :: r, cs => zs.length = n ∧ ∃ cs', cs = zs.map k.val ++ cs' ∧ segRel ρ r cs'
  | .one a :: r, cs => ∃ c cs', cs = c :: cs' ∧ a.rel ρ c ∧ segRel ρ r cs'

def AV.rel (ρ : Env) : AV → Value → Prop
  | .any, _ => True
  | .sc a, v => a.rel ρ v
  | .agg l, v => ∃ cs, v = .agg cs.toArray ∧ segRel ρ l cs

def relAll (ρ : Env) : List AV → List Value → Prop
  | [], vs => vs = []
  | a :: r, vs => ∃ v vs', vs = v :: vs' ∧ a.rel ρ v ∧ relAll ρ r vs'

def TV.rel (ρ : Env) : TV → Value → Prop
  | .one a, v => a.rel ρ v
  | .tup l, v => ∃ vs, v = .tuple vs.toArray ∧ relAll ρ l vs

/-- More names may be known; what is known stays. -/
def Env.le (ρ ρ' : Env) : Prop := ∀ o l, ρ o = some l → ρ' o = some l
theorem Env.le.refl (ρ : Env) : ρ.le ρ := fun _ _ h => h
theorem Env.le.trans {a b c : Env} (h : a.le b) (k : b.le c) : a.le c := fun o l e => k o l (h o l e)

theorem CK.val_one (k : CK) (n : Int) : (k.val n).oneCell' = true := by cases k <;> rfl

theorem A1.rel_one {ρ : Env} {a : A1} {v : Value} (h : a.rel ρ v) : v.oneCell' = true := by
  cases a <;> simp only [A1.rel] at h
  case top => exact h
  case ptr => obtain ⟨_, _, _, _, _, rfl⟩ := h; rfl
  case clo => obtain ⟨_, _, _, _, _, rfl⟩ := h; rfl
  case ifp => obtain ⟨_, _, _, _, _, rfl⟩ := h; rfl
  case ifq => obtain ⟨_, _, _, _, _, rfl⟩ := h; rfl
  case vec => obtain ⟨_, _, _, _, rfl, _⟩ := h; rfl
  case sl => obtain ⟨_, _, _, _, rfl, _⟩ := h; rfl
  all_goals (subst h; rfl)

theorem A1.rel_le {ρ ρ' : Env} (hl : ρ.le ρ') {a : A1} {v : Value} (h : a.rel ρ v) : a.rel ρ' v := by
  cases a <;> simp only [A1.rel] at h ⊢
  case ptr => obtain ⟨l, b, f, h1, h2⟩ := h; exact ⟨l, b, f, hl _ _ h1, h2⟩
  case clo => obtain ⟨l, b, f, h1, h2⟩ := h; exact ⟨l, b, f, hl _ _ h1, h2⟩
  case ifp => obtain ⟨l, b, f, h1, h2⟩ := h; exact ⟨l, b, f, hl _ _ h1, h2⟩
  case ifq => obtain ⟨l, b, f, h1, h2⟩ := h; exact ⟨l, b, f, hl _ _ h1, h2⟩
  case vec => obtain ⟨l, h1, h2⟩ := h; exact ⟨l, hl _ _ h1, h2⟩
  case sl => obtain ⟨l, a, c, h1, h2⟩ := h; exact ⟨l, a, c, hl _ _ h1, h2⟩
  all_goals exact h

theorem segRel_le {ρ ρ' : Env} (hl : ρ.le ρ') : ∀ {l : List Seg} {cs : List Value}, segRel ρ l cs → segRel ρ' l cs
  | [], _, h => h
  | .xs _ _ _ :: _, _, ⟨h1, cs', h2, h3⟩ => ⟨h1, cs', h2, segRel_le hl h3⟩
  | .one _ :: _, _, ⟨c, cs', h1, h2, h3⟩ => ⟨c, cs', h1, A1.rel_le hl h2, segRel_le hl h3⟩

theorem AV.rel_le {ρ ρ' : Env} (hl : ρ.le ρ') {a : AV} {v : Value} (h : a.rel ρ v) : a.rel ρ' v := by
  cases a with
  | any => trivial
  | sc a => exact A1.rel_le hl h
  | agg l => obtain ⟨cs, h1, h2⟩ := h; exact ⟨cs, h1, segRel_le hl h2⟩

theorem relAll_le {ρ ρ' : Env} (hl : ρ.le ρ') : ∀ {l : List AV} {vs : List Value}, relAll ρ l vs → relAll ρ' l vs
  | [], _, h => h
  | _ :: _, _, ⟨v, vs', h1, h2, h3⟩ => ⟨v, vs', h1, AV.rel_le hl h2, relAll_le hl h3⟩

theorem TV.rel_le {ρ ρ' : Env} (hl : ρ.le ρ') {a : TV} {v : Value} (h : a.rel ρ v) : a.rel ρ' v := by
  cases a with
  | one a => exact AV.rel_le hl h
  | tup l => obtain ⟨vs, h1, h2⟩ := h; exact ⟨vs, h1, relAll_le hl h2⟩

theorem segRel_one {ρ : Env} : ∀ {l : List Seg} {cs : List Value}, segRel ρ l cs → ∀ c ∈ cs, c.oneCell' = true
  | [], _, h => by cases h; simp
  | .xs k _ zs :: _, _, ⟨_, cs', h2, h3⟩ => by
    subst h2
    intro c hc
    rcases List.mem_append.1 hc with hc | hc
    · obtain ⟨z, _, rfl⟩ := List.mem_map.1 hc; exact k.val_one z
    · exact segRel_one h3 c hc
  | .one _ :: _, _, ⟨c, cs', h1, h2, h3⟩ => by
    subst h1
    intro d hd
    rcases List.mem_cons.1 hd with rfl | hd
    · exact A1.rel_one h2
    · exact segRel_one h3 d hd

/-- How many cells. -/
def segLen : List Seg → Nat
  | [] => 0
  | [.xs _ n _] => n
  | .xs _ n _ :: r => n + segLen r
  | .one _ :: r => 1 + segLen r
theorem segLen_xs (k : CK) (n : Nat) (zs : List Int) (r : List Seg) : segLen (.xs k n zs :: r) = n + segLen r := by cases r <;> simp [segLen]
theorem segRel_len {ρ : Env} : ∀ {l : List Seg} {cs : List Value}, segRel ρ l cs → cs.length = segLen l
  | [], _, h => by cases h; rfl
  | .xs k n zs :: r, _, ⟨h1, cs', h2, h3⟩ => by subst h2; rw [segLen_xs]; simp [h1, segRel_len h3]
  | .one _ :: r, _, ⟨c, cs', h1, h2, h3⟩ => by subst h1; simp [segLen, segRel_len h3]; omega
theorem segRel_append {ρ : Env} : ∀ {l l' : List Seg} {cs cs' : List Value}, segRel ρ l cs → segRel ρ l' cs' → segRel ρ (l ++ l') (cs ++ cs')
  | [], _, _, _, h, h' => by cases h; exact h'
  | .xs k n zs :: r, _, _, _, ⟨h1, ds, h2, h3⟩, h' => ⟨h1, _, by rw [h2, List.append_assoc], segRel_append h3 h'⟩
  | .one _ :: r, _, _, _, ⟨c, ds, h1, h2, h3⟩, h' => ⟨c, _, by rw [h1]; rfl, h2, segRel_append h3 h'⟩

structure Ob where
  segs : List Seg
  own : Bool
inductive Slot where
  | free
  | dead
  | live (b : Ob)
structure St where
  tmps : List TV
  mem : List Slot

def ObRel (ρ : Env) (w : World) (o : Nat) (b : Ob) : Prop :=
  ∃ l C, ρ o = some l ∧ segRel ρ b.segs C ∧ C.length = l.size * l.es ∧ l.size ≤ l.cap ∧
    match l.a with
    | none => C = [] ∧ (b.own = true → l.cap = 0 ∧ l.adr = none)
    | some (blk, off) => ∃ cs t fr pre post, w.heap[blk]? = some (.cells cs t fr) ∧ cs.toList = pre ++ C ++ post ∧ pre.length = off ∧
        (b.own = true → off = 0 ∧ cs.size = l.cap * l.es ∧ (cs.size ≤ fr.1 ∨ fr.2 ≤ fr.1) ∧ l.adr = l.addr)

structure MRel (ρ : Env) (B : Nat) (w0 : World) (mem : List Slot) (w : World) : Prop where
  free : ∀ o, (mem[o]? = none ∨ mem[o]? = some .free) → ρ o = none
  ob : ∀ o b, mem[o]? = some (.live b) → ObRel ρ w o b
  sep : ∀ o b o' b' l l' x y, mem[o]? = some (.live b) → mem[o']? = some (.live b') → b.own = true → o ≠ o' →
    ρ o = some l → ρ o' = some l' → l.a = some x → l'.a = some y → x.1 ≠ y.1
  ownB : ∀ o b l x, mem[o]? = some (.live b) → b.own = true → ρ o = some l → l.a = some x → B ≤ x.1
  below : Below B w0 w
  size : B ≤ w.heap.size
structure Rel (ρ : Env) (B : Nat) (w0 : World) (st : St) (a : Act) (w : World) : Prop where
  len : a.tmps.size = st.tmps.length
  tm : ∀ i v, st.tmps[i]? = some v → TV.rel ρ v (a.tmps.getD i undef)
  m : MRel ρ B w0 st.mem w
  defers : a.defers = []

/-- A tree of tests. -/
inductive T (α : Type) : Type 1 where
  | ret (a : α)
  | fail
  | ite (p : Prop) (d : Decidable p) (t e : T α)
  | opt {γ : Type} (x : Option γ) (k : γ → T α)
def T.run {α β : Type} : T α → (α → Option β) → Option β
  | .ret a, K => K a
  | .fail, _ => none
  | .ite p d t e, K => @_root_.ite _ p d (t.run K) (e.run K)
  | .opt x k, K => x.bind fun g => (k g).run K
def T.bind {α β : Type} : T α → (α → T β) → T β
  | .ret a, f => f a
  | .fail, _ => .fail
  | .ite p d t e, f => .ite p d (t.bind f) (e.bind f)
  | .opt x k, f => .opt x fun g => (k g).bind f
theorem T.run_bind {α β γ : Type} (t : T α) (f : α → T β) (K : β → Option γ) : (t.bind f).run K = t.run fun a => (f a).run K := by
  induction t with
  | ret a => rfl
  | fail => rfl
  | ite p d t e h1 h2 => simp only [T.bind, T.run, h1, h2]
  | opt x k h => simp only [T.bind, T.run]; congr 1; funext g; exact h g
/-- What a tree answers. -/
def T.val {α : Type} (t : T α) : Option α := t.run some
theorem T.run_val {α β : Type} (t : T α) (K : α → Option β) : t.run K = t.val.bind K := by
  unfold T.val
  induction t with
  | ret a => rfl
  | fail => rfl
  | ite p d t e h1 h2 => simp only [T.run]; split <;> assumption
  | opt x k h => cases x with
    | none => rfl
    | some g => exact h g
theorem T.val_bind {α β : Type} (t : T α) (f : α → T β) : (t.bind f).val = t.val.bind fun a => (f a).val := by
  unfold T.val; rw [T.run_bind, T.run_val]; rfl
end Go.Ax
