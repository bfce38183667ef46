/- A part of the proof: Ax1, Ax2, Ax3, Ax4, Ax5, Ax6, Ax7, Ax8, Ax9. -/
import Derived.WalkKit
import Derived.KernelRfl
import Derived.Orders
import Derived.Scope
import Derived.Laws.BytesArg
namespace Go.Ax
open Go.RowKit
inductive CK where
 | int (k : IntKind)
 | bool
 deriving DecidableEq
def CK.val : CK → Int → Value
 | .int k, n => .int k n
 | .bool, n => .bool (n != 0)
inductive FD where
 | xs (k : CK) (zs : List Int)
 | xss (k : CK) (l : List (List Int))
def FD.len : FD → Nat
 | .xs _ zs => zs.length
 | .xss _ l => l.length
inductive A1 where
 | top
 | int (k : IntKind) (n : Int)
 | known (b : Bool)
 | bool (p : Prop) (d : Decidable p)
 | ub
 | lit (k : IntKind) (n : Int)
 | str (s : ByteArray)
 | ptr (o base : Nat) (i : Option Nat)
 | nilp
 | vec (o len es : Nat)
 | sl (o off len cap es : Nat)
 | nilsl
 | nilif
 | fn (f : FuncId)
 | clo (f : FuncId) (o base : Nat)

 | clq (f : FuncId) (o base o2 base2 : Nat)
 | ifi (t : TypeId) (k : IntKind) (n : Int)
 | ifg (t : TypeId) (k : IntKind) (n : Int)
 | ifp (t : TypeId) (o base : Nat)
 | ifq (t : TypeId) (o base : Nat) (k : IntKind) (n : Int)
 | fr (d : FD)
 | fp (d : FD) (j : Nat)
inductive Seg where
 | xs (k : CK) (n : Nat) (zs : List Int)
 | one (a : A1)
 | rw (k : CK) (l : List (List Int))
inductive AV where
 | any
 | sc (a : A1)
 | agg (l : List Seg)
inductive TV where
 | one (a : AV)
 | tup (l : List AV)
structure Loc where
 a : Option (Nat × Nat)
 adr : Option Addr
 size : Nat
 cap : Nat
 es : Nat
def Loc.addr (l : Loc) : Option Addr := l.a.map fun p => ⟨p.1, p.2, none⟩
structure Reg where
 blk : Nat
 off : Nat
 n : Nat
structure BelowM (M : List (Option Reg)) (B : Nat) (w w' : World) : Prop where
 os : w'.os = w.os
 tape : w'.tape = w.tape
 output : w'.output = w.output
 size : w.heap.size ≤ w'.heap.size
 block : ∀ k, k < B → (∀ m, some m ∈ M → m.blk ≠ k) → w'.heap[k]? = w.heap[k]?
 part : ∀ m, some m ∈ M → m.blk < B → ∀ cs t fr, w.heap[m.blk]? = some (.cells cs t fr) → ∃ cs', w'.heap[m.blk]? = some (.cells cs' t fr) ∧ cs'.size = cs.size ∧ ∀ i, (i < m.off ∨ m.off + m.n ≤ i) → cs'[i]? = cs[i]?
theorem BelowM.refl (M : List (Option Reg)) (B : Nat) (w : World) : BelowM M B w w := ⟨rfl, rfl, rfl, Nat.le_refl _, fun _ _ _ => rfl, fun _ _ _ cs _ _ h => ⟨cs, h, rfl, fun _ _ => rfl⟩⟩
theorem BelowM.trans {M : List (Option Reg)} {B : Nat} {a b c : World} (h : BelowM M B a b) (k : BelowM M B b c) : BelowM M B a c :=
 ⟨k.os.trans h.os, k.tape.trans h.tape, k.output.trans h.output, Nat.le_trans h.size k.size, fun i hi hm => (k.block i hi hm).trans (h.block i hi hm), fun m hm hb cs t fr hc => by
  obtain ⟨cs', g1, g2, g3⟩ := h.part m hm hb cs t fr hc
  obtain ⟨cs2, k1, k2, k3⟩ := k.part m hm hb cs' t fr g1
  exact ⟨cs2, k1, k2.trans g2, fun i hi => (k3 i hi).trans (g3 i hi)⟩⟩
theorem BelowM.of {M : List (Option Reg)} {B : Nat} {w w' : World} (h : Below B w w') : BelowM M B w w' :=
 ⟨h.os, h.tape, h.output, h.size, fun k hk _ => h.block k hk, fun m _ hb cs t fr hc => ⟨cs, by rw [h.block m.blk hb]; exact hc, rfl, fun _ _ => rfl⟩⟩
theorem BelowM.nil {B : Nat} {w w' : World} (h : BelowM [] B w w') : Below B w w' := ⟨h.os, h.tape, h.output, h.size, fun k hk => h.block k hk fun _ hm => by cases hm⟩
theorem BelowM.drew {M : List (Option Reg)} {B : Nat} {a w : World} (h : BelowM M B a w) : BelowM M B a w.drew := ⟨h.os, h.tape, h.output, h.size, h.block, h.part⟩
structure Env where
 loc : Nat → Option Loc
 fz : Nat → Option Obj
 lo : Nat

 al : Nat → Prop
 mt : List (Option Reg)
def Env.ok (ρ : Env) (b : Nat) : Prop := ρ.fz b ≠ none
instance : CoeFun Env fun _ => Nat → Option Loc := ⟨Env.loc⟩
def b0J (ρ : Env) (a : Option Addr) (cs : List Value) : Prop :=
 0 < cs.length → ∃ blk cells t fr pre post, a = some ⟨blk, pre.length, none⟩ ∧ (ρ.lo ≤ blk ∨ ρ.al blk) ∧ ρ.fz blk = some (.cells cells t fr) ∧ cells.toList = pre ++ cs ++ post
def c10 (ρ : Env) (k : CK) (zs : List Int) (v : Value) : Prop := ∃ a c, v = .slice a zs.length c ∧ zs.length ≤ c ∧ b0J ρ a (zs.map k.val)
def frN (ρ : Env) (k : CK) (zs : List Int) (v : Value) : Prop := ∃ a c, v = .slice a zs.length c ∧ zs.length ≤ c ∧ (0 < zs.length → ∃ blk cells t fr pre post, a = some ⟨blk, pre.length, none⟩ ∧ ρ.lo ≤ blk ∧ ρ.fz blk = some (.cells cells t fr) ∧ cells.toList = pre ++ zs.map k.val ++ post)
def b0K (ρ : Env) (k : CK) : List (List Int) → List Value → Prop
 | [], vs => vs = []
 | zs :: l, vs => ∃ v vs', vs = v :: vs' ∧ frN ρ k zs v ∧ b0K ρ k l vs'
def FD.cells (ρ : Env) : FD → List Value → Prop
 | .xs k zs, vs => vs = zs.map k.val
 | .xss k l, vs => vs.length = l.length ∧ ∀ (i : Nat) (zs : List Int) (u : Value), l[i]? = some zs → vs[i]? = some u → c10 ρ k zs u
def A1.rel (ρ : Env) : A1 → Value → Prop
 | .top, v => v.oneCell' = true
 | .int k n, v => v = .int k n
 | .known b, v => v = .bool b
 | .bool p d, v => v = .bool (@decide p d)
 | .ub, v => ∃ b, v = .bool b
 | .lit k n, v => v = .int k n
 | .str s, v => v = .string s
 | .ptr o base i, v => ∃ l b f, ρ o = some l ∧ l.a = some (b, f) ∧ v = .pointer (some ⟨b, f + (base + i.getD 0), none⟩)
 | .nilp, v => v = .pointer none
 | .vec o len es, v => ∃ l, ρ o = some l ∧ l.size = len ∧ l.es = es ∧ v = .slice l.adr l.size l.cap ∧ l.size ≤ l.cap ∧ (l.a = none → l.size = 0) ∧ (0 < l.size → l.adr = l.addr)
 | .sl o off len cap es, v => ∃ l a c, ρ o = some l ∧ v = .slice a len c ∧ len ≤ cap ∧ cap ≤ c ∧ off + len * es ≤ l.size * l.es ∧ (0 < len → ∃ b f, l.a = some (b, f) ∧ a = some ⟨b, f + off, none⟩)
 | .nilsl, v => v = .slice none 0 0
 | .nilif, v => v = .nilIface
 | .fn f, v => v = .func (.func f) #[] #[]
 | .clo g o base, v => ∃ l b f, ρ o = some l ∧ l.a = some (b, f) ∧ v = .func (.func g) #[] #[.pointer (some ⟨b, f + base, none⟩)]
 | .clq g o base o2 base2, v => ∃ l b f l2 b2 f2, ρ o = some l ∧ l.a = some (b, f) ∧ ρ o2 = some l2 ∧ l2.a = some (b2, f2) ∧ v = .func (.func g) #[] #[.pointer (some ⟨b, f + base, none⟩), .pointer (some ⟨b2, f2 + base2, none⟩)]
 | .ifi t k n, v => v = .iface t (.int k n)
 | .ifg t k n, v => v = .iface t (.agg #[.int k n])
 | .ifp t o base, v => ∃ l b f, ρ o = some l ∧ l.a = some (b, f) ∧ v = .iface t (.agg #[.pointer (some ⟨b, f + base, none⟩)])
 | .ifq t o base k n, v => ∃ l b f, ρ o = some l ∧ l.a = some (b, f) ∧ v = .iface t (.agg #[.pointer (some ⟨b, f + base, none⟩), .int k n])
 | .fr d, v => ∃ a c vs, v = .slice a d.len c ∧ d.len ≤ c ∧ d.cells ρ vs ∧ b0J ρ a vs
 | .fp d j, v => ∃ blk cells t fr pre post vs, v = .pointer (some ⟨blk, pre.length + j, none⟩) ∧ ρ.fz blk = some (.cells cells t fr) ∧ cells.toList = pre ++ vs ++ post ∧ d.cells ρ vs ∧ j < d.len
def i2 (ρ : Env) : List Seg → List Value → Prop
 | [], cs => cs = []
 | .xs k n zs :: r, cs => zs.length = n ∧ ∃ cs', cs = zs.map k.val ++ cs' ∧ i2 ρ r cs'
 | .one a :: r, cs => ∃ c cs', cs = c :: cs' ∧ a.rel ρ c ∧ i2 ρ r cs'
 | .rw k l :: r, cs => ∃ c1 cs', cs = c1 ++ cs' ∧ b0K ρ k l c1 ∧ i2 ρ r cs'
def AV.rel (ρ : Env) : AV → Value → Prop
 | .any, _ => True
 | .sc a, v => a.rel ρ v
 | .agg l, v => ∃ cs, v = .agg cs.toArray ∧ i2 ρ l cs
def F4 (ρ : Env) : List AV → List Value → Prop
 | [], vs => vs = []
 | a :: r, vs => ∃ v vs', vs = v :: vs' ∧ a.rel ρ v ∧ F4 ρ r vs'
def TV.rel (ρ : Env) : TV → Value → Prop
 | .one a, v => a.rel ρ v
 | .tup l, v => ∃ vs, v = .tuple vs.toArray ∧ F4 ρ l vs
def Env.le (ρ ρ' : Env) : Prop := (∀ o l, ρ o = some l → ρ' o = some l) ∧ (∀ b c, ρ.fz b = some c → ρ'.fz b = some c) ∧ (ρ'.lo = ρ.lo ∧ ρ'.al = ρ.al) ∧ ρ'.mt = ρ.mt
theorem Env.le.refl (ρ : Env) : ρ.le ρ := ⟨fun _ _ h => h, fun _ _ h => h, ⟨rfl, rfl⟩, rfl⟩
theorem Env.le.trans {a b c : Env} (h : a.le b) (k : b.le c) : a.le c := ⟨fun o l e => k.1 o l (h.1 o l e), fun b x e => k.2.1 b x (h.2.1 b x e), ⟨k.2.2.1.1.trans h.2.2.1.1, k.2.2.1.2.trans h.2.2.1.2⟩, k.2.2.2.trans h.2.2.2⟩
section
variable {ρ ρ' : Env} (e1 : ∀ b c, ρ.fz b = some c → ρ'.fz b = some c) (e2 : ρ'.lo = ρ.lo ∧ ρ'.al = ρ.al)
include e1 e2
theorem b50 {a : Option Addr} {cs : List Value} (h : b0J ρ a cs) : b0J ρ' a cs := by
 intro hp
 obtain ⟨blk, cells, t, fr, pre, post, h1, h0, h2, h3⟩ := h hp
 exact ⟨blk, cells, t, fr, pre, post, h1, by rw [e2.1, e2.2]; exact h0, e1 _ _ h2, h3⟩
theorem c0m {k : CK} {zs : List Int} {v : Value} (h : c10 ρ k zs v) : c10 ρ' k zs v := by
 obtain ⟨a, c, h1, h2, h3⟩ := h
 exact ⟨a, c, h1, h2, b50 e1 e2 h3⟩
theorem FD.cells_eq {d : FD} {vs : List Value} (h : d.cells ρ vs) : d.cells ρ' vs := by
 cases d with
 | xs k zs => exact h
 | xss k l => exact ⟨h.1, fun i zs u h1 h2 => c0m e1 e2 (h.2 i zs u h1 h2)⟩
theorem c1j {d : FD} {v : Value} (h : A1.rel ρ (.fr d) v) : A1.rel ρ' (.fr d) v := by
 obtain ⟨a, c, vs, h1, h2, h3, h4⟩ := h
 exact ⟨a, c, vs, h1, h2, FD.cells_eq e1 e2 h3, b50 e1 e2 h4⟩
theorem c1g {d : FD} {j : Nat} {v : Value} (h : A1.rel ρ (.fp d j) v) : A1.rel ρ' (.fp d j) v := by
 obtain ⟨blk, cells, t, fr, pre, post, vs, h1, h3, h4, h5, h6⟩ := h
 exact ⟨blk, cells, t, fr, pre, post, vs, h1, e1 _ _ h3, h4, FD.cells_eq e1 e2 h5, h6⟩
end
theorem c1i {ρ ρ' : Env} (e1 : ∀ b c, ρ.fz b = some c → ρ'.fz b = some c) (e2 : ρ'.lo = ρ.lo) {k : CK} {zs : List Int} {v : Value} (h : frN ρ k zs v) : frN ρ' k zs v := by
 obtain ⟨a, c, h1, h2, h3⟩ := h
 refine ⟨a, c, h1, h2, fun hp => ?_⟩
 obtain ⟨blk, cells, t, fr, pre, post, g1, g2, g3, g4⟩ := h3 hp
 exact ⟨blk, cells, t, fr, pre, post, g1, by rw [e2]; exact g2, e1 _ _ g3, g4⟩
theorem b2h {ρ ρ' : Env} (e1 : ∀ b c, ρ.fz b = some c → ρ'.fz b = some c) (e2 : ρ'.lo = ρ.lo) {k : CK} : ∀ {l : List (List Int)} {vs : List Value}, b0K ρ k l vs → b0K ρ' k l vs
 | [], _, h => h
 | _ :: _, _, ⟨v, vs', h1, h2, h3⟩ => ⟨v, vs', h1, c1i e1 e2 h2, b2h e1 e2 h3⟩
theorem a54 {ρ : Env} {k : CK} : ∀ {l : List (List Int)} {vs : List Value}, b0K ρ k l vs → vs.length = l.length
 | [], _, h => by have h : _ = [] := h; rw [h]; rfl
 | _ :: _, _, ⟨v, vs', h1, h2, h3⟩ => by rw [h1, List.length_cons, List.length_cons, a54 h3]
theorem b3L {ρ : Env} {k : CK} : ∀ {l : List (List Int)} {vs : List Value}, b0K ρ k l vs → ∀ c ∈ vs, c.oneCell' = true
 | [], vs, h, c, hc => by have h : vs = [] := h; subst h; cases hc
 | _ :: _, _, ⟨v, vs', h1, ⟨a, n, h2, _⟩, h3⟩, c, hc => by
  subst h1
  rcases List.mem_cons.1 hc with rfl | hc
  ·rw [h2]; rfl
  ·exact b3L h3 c hc
theorem a7o {ρ : Env} {k : CK} : ∀ {l l' : List (List Int)} {vs vs' : List Value}, b0K ρ k l vs → b0K ρ k l' vs' → b0K ρ k (l ++ l') (vs ++ vs')
 | [], _, vs, _, h, h' => by have h : vs = [] := h; subst h; exact h'
 | _ :: _, _, _, _, ⟨v, us, h1, h2, h3⟩, h' => ⟨v, us ++ _, by rw [h1]; rfl, h2, a7o h3 h'⟩
theorem FD.cells_len {ρ : Env} {d : FD} {vs : List Value} (h : d.cells ρ vs) : vs.length = d.len := by
 cases d with
 | xs k zs =>
  have h : vs = zs.map k.val := h
  subst h
  simp [FD.len]
 | xss k l => exact h.1
theorem CK.val_one (k : CK) (n : Int) : (k.val n).oneCell' = true := by cases k <;> rfl
theorem A1.rel_one {ρ : Env} {a : A1} {v : Value} (h : a.rel ρ v) : v.oneCell' = true := by
 cases a <;> simp only [A1.rel] at h
 case top => exact h
 case ub => obtain ⟨_, rfl⟩ := h; rfl
 case ptr => obtain ⟨_, _, _, _, _, rfl⟩ := h; rfl
 case clo => obtain ⟨_, _, _, _, _, rfl⟩ := h; rfl
 case clq => obtain ⟨_, _, _, _, _, _, _, _, _, _, rfl⟩ := h; rfl
 case ifp => obtain ⟨_, _, _, _, _, rfl⟩ := h; rfl
 case ifq => obtain ⟨_, _, _, _, _, rfl⟩ := h; rfl
 case vec => obtain ⟨_, _, _, _, rfl, _⟩ := h; rfl
 case sl => obtain ⟨_, _, _, _, rfl, _⟩ := h; rfl
 case fr => obtain ⟨_, _, _, rfl, _⟩ := h; rfl
 case fp => obtain ⟨_, _, _, _, _, _, _, rfl, _⟩ := h; rfl
 all_goals (subst h; rfl)
theorem A1.rel_le {ρ ρ' : Env} (hl : ρ.le ρ') {a : A1} {v : Value} (h : a.rel ρ v) : a.rel ρ' v := by
 cases a <;> simp only [A1.rel] at h ⊢
 case ptr => obtain ⟨l, b, f, h1, h2⟩ := h; exact ⟨l, b, f, hl.1 _ _ h1, h2⟩
 case clo => obtain ⟨l, b, f, h1, h2⟩ := h; exact ⟨l, b, f, hl.1 _ _ h1, h2⟩
 case clq => obtain ⟨l, b, f, l2, b2, f2, h1, h2, h3, h4⟩ := h; exact ⟨l, b, f, l2, b2, f2, hl.1 _ _ h1, h2, hl.1 _ _ h3, h4⟩
 case ifp => obtain ⟨l, b, f, h1, h2⟩ := h; exact ⟨l, b, f, hl.1 _ _ h1, h2⟩
 case ifq => obtain ⟨l, b, f, h1, h2⟩ := h; exact ⟨l, b, f, hl.1 _ _ h1, h2⟩
 case vec => obtain ⟨l, h1, h2⟩ := h; exact ⟨l, hl.1 _ _ h1, h2⟩
 case sl => obtain ⟨l, a, c, h1, h2⟩ := h; exact ⟨l, a, c, hl.1 _ _ h1, h2⟩
 case fr => exact c1j hl.2.1 hl.2.2.1 h
 case fp => exact c1g hl.2.1 hl.2.2.1 h
 all_goals exact h
theorem B6 {ρ ρ' : Env} (hl : ρ.le ρ') : ∀ {l : List Seg} {cs : List Value}, i2 ρ l cs → i2 ρ' l cs
 | [], _, h => h
 | .xs _ _ _ :: _, _, ⟨h1, cs', h2, h3⟩ => ⟨h1, cs', h2, B6 hl h3⟩
 | .one _ :: _, _, ⟨c, cs', h1, h2, h3⟩ => ⟨c, cs', h1, A1.rel_le hl h2, B6 hl h3⟩
 | .rw _ _ :: _, _, ⟨c1, cs', h1, h2, h3⟩ => ⟨c1, cs', h1, b2h hl.2.1 hl.2.2.1.1 h2, B6 hl h3⟩
theorem AV.rel_le {ρ ρ' : Env} (hl : ρ.le ρ') {a : AV} {v : Value} (h : a.rel ρ v) : a.rel ρ' v := by
 cases a with
 | any => trivial
 | sc a => exact A1.rel_le hl h
 | agg l => obtain ⟨cs, h1, h2⟩ := h; exact ⟨cs, h1, B6 hl h2⟩
theorem b3H {ρ ρ' : Env} (hl : ρ.le ρ') : ∀ {l : List AV} {vs : List Value}, F4 ρ l vs → F4 ρ' l vs
 | [], _, h => h
 | _ :: _, _, ⟨v, vs', h1, h2, h3⟩ => ⟨v, vs', h1, AV.rel_le hl h2, b3H hl h3⟩
theorem TV.rel_le {ρ ρ' : Env} (hl : ρ.le ρ') {a : TV} {v : Value} (h : a.rel ρ v) : a.rel ρ' v := by
 cases a with
 | one a => exact AV.rel_le hl h
 | tup l => obtain ⟨vs, h1, h2⟩ := h; exact ⟨vs, h1, b3H hl h2⟩
theorem a1B {ρ : Env} : ∀ {l : List Seg} {cs : List Value}, i2 ρ l cs → ∀ c ∈ cs, c.oneCell' = true
 | [], _, h => by cases h; simp
 | .xs k _ zs :: _, _, ⟨_, cs', h2, h3⟩ => by
  subst h2
  intro c hc
  rcases List.mem_append.1 hc with hc | hc
  ·obtain ⟨z, _, rfl⟩ := List.mem_map.1 hc; exact k.val_one z
  ·exact a1B h3 c hc
 | .one _ :: _, _, ⟨c, cs', h1, h2, h3⟩ => by
  subst h1
  intro d hd
  rcases List.mem_cons.1 hd with rfl | hd
  ·exact A1.rel_one h2
  ·exact a1B h3 d hd
 | .rw _ _ :: _, _, ⟨c1, cs', h1, h2, h3⟩ => by
  subst h1
  intro d hd
  rcases List.mem_append.1 hd with hd | hd
  ·exact b3L h2 d hd
  ·exact a1B h3 d hd
def E2 : List Seg → Nat
 | [] => 0
 | [.xs _ n _] => n
 | .xs _ n _ :: r => n + E2 r
 | .one _ :: r => 1 + E2 r
 | .rw _ l :: r => l.length + E2 r
theorem b8j (k : CK) (n : Nat) (zs : List Int) (r : List Seg) : E2 (.xs k n zs :: r) = n + E2 r := by cases r <;> simp [E2]
theorem v8 {ρ : Env} : ∀ {l : List Seg} {cs : List Value}, i2 ρ l cs → cs.length = E2 l
 | [], _, h => by cases h; rfl
 | .xs k n zs :: r, _, ⟨h1, cs', h2, h3⟩ => by subst h2; rw [b8j]; simp [h1, v8 h3]
 | .one _ :: r, _, ⟨c, cs', h1, h2, h3⟩ => by subst h1; simp [E2, v8 h3]; omega
 | .rw _ _ :: r, _, ⟨c1, cs', h1, h2, h3⟩ => by subst h1; simp [E2, v8 h3, a54 h2]
theorem l8 {ρ : Env} : ∀ {l l' : List Seg} {cs cs' : List Value}, i2 ρ l cs → i2 ρ l' cs' → i2 ρ (l ++ l') (cs ++ cs')
 | [], _, _, _, h, h' => by cases h; exact h'
 | .xs k n zs :: r, _, _, _, ⟨h1, ds, h2, h3⟩, h' => ⟨h1, _, by rw [h2, List.append_assoc], l8 h3 h'⟩
 | .one _ :: r, _, _, _, ⟨c, ds, h1, h2, h3⟩, h' => ⟨c, _, by rw [h1]; rfl, h2, l8 h3 h'⟩
 | .rw _ _ :: r, _, _, _, ⟨c1, ds, h1, h2, h3⟩, h' => ⟨c1, _, by rw [h1, List.append_assoc], h2, l8 h3 h'⟩
inductive OM where
 | ro
 | own
 | mt (i : Nat)
 deriving DecidableEq
structure Ob where
 segs : List Seg
 own : OM
inductive Slot where
 | free
 | dead
 | live (b : Ob)

 | it (s : ByteArray) (pos : Nat)
structure St where
 tmps : List TV
 mem : List Slot

 dfr : List (FuncId × List A1) := []
def ObRel (ρ : Env) (w : World) (o : Nat) (b : Ob) : Prop :=
 ∃ l C, ρ o = some l ∧ i2 ρ b.segs C ∧ C.length = l.size * l.es ∧ l.size ≤ l.cap ∧
  match l.a with
  | none => C = [] ∧ (b.own = .own → l.cap = 0 ∧ l.adr = none)
  | some (blk, off) => ∃ cs t fr pre post, w.heap[blk]? = some (.cells cs t fr) ∧ cs.toList = pre ++ C ++ post ∧ pre.length = off ∧
    (b.own = .own → off = 0 ∧ l.cap * l.es ≤ cs.size ∧ (cs.size ≤ fr.1 ∨ fr.1 = fr.2) ∧ l.adr = l.addr) ∧ (b.own ≠ .ro → cs.size ≤ fr.1 ∨ fr.1 = fr.2)
structure Base where
 w : World
 mt : List (Option Reg)
 al : Nat → Prop
structure EnvOk (ρ : Env) (B : Nat) : Prop where
 lo : ρ.lo = B
 mtB : ∀ m, some m ∈ ρ.mt → m.blk < B
 okM : ∀ m, some m ∈ ρ.mt → ρ.fz m.blk = none
 mtD : ∀ m m', some m ∈ ρ.mt → some m' ∈ ρ.mt → m.blk = m'.blk → m = m'
theorem EnvOk.le {ρ ρ' : Env} {B : Nat} (h : EnvOk ρ B) (hl : ρ.le ρ') (hf : ρ'.fz = ρ.fz) : EnvOk ρ' B :=
 ⟨hl.2.2.1.1.trans h.lo, by rw [hl.2.2.2]; exact h.mtB, by rw [hf, hl.2.2.2]; exact h.okM, by rw [hl.2.2.2]; exact h.mtD⟩
def a4P (w : World) (b : Nat) : Prop := ∃ cs t fr, w.heap[b]? = some (.cells cs t fr)
structure Its (ρ : Env) (B : Nat) (mem : List Slot) (w : World) : Prop where
 it : ∀ o s p, mem[o]? = some (Slot.it s p) → ∃ l b, ρ o = some l ∧ l.a = some (b, 0) ∧ w.heap[b]? = some (.stringIter s p) ∧ B ≤ b ∧ ρ.fz b = none
 sep : ∀ o s p o' s' p' l l' x y, mem[o]? = some (Slot.it s p) → mem[o']? = some (Slot.it s' p') → o ≠ o' → ρ o = some l → ρ o' = some l' → l.a = some x → l'.a = some y → x.1 ≠ y.1
theorem Its.mono {ρ ρ' : Env} {B : Nat} {mem mem' : List Slot} {w w' : World} (h : Its ρ B mem w) (hm : ∀ (o : Nat) s p, mem'[o]? = some (Slot.it s p) → mem[o]? = some (Slot.it s p)) (hl : ∀ o l, ρ o = some l → ρ' o = some l)
  (hw : ∀ (o : Nat) s p l b, mem[o]? = some (Slot.it s p) → ρ o = some l → l.a = some (b, 0) → w.heap[b]? = some (.stringIter s p) → w'.heap[b]? = some (.stringIter s p) ∧ (ρ.fz b = none → ρ'.fz b = none)) : Its ρ' B mem' w' := by
 refine ⟨fun o s p h1 => ?_, fun o s p o' s' p' l l' x y h1 h2 hne k1 k2 => ?_⟩
 ·obtain ⟨l, b, g1, g2, g3, g4, g5⟩ := h.it o s p (hm o s p h1)
  obtain ⟨q1, q2⟩ := hw o s p l b (hm o s p h1) g1 g2 g3
  exact ⟨l, b, hl o l g1, g2, q1, g4, q2 g5⟩
 ·obtain ⟨l1, b1, g1, _⟩ := h.it o s p (hm o s p h1)
  obtain ⟨l2, b2, f1, _⟩ := h.it o' s' p' (hm o' s' p' h2)
  rw [hl o l1 g1] at k1; cases k1
  rw [hl o' l2 f1] at k2; cases k2
  exact h.sep o s p o' s' p' _ _ x y (hm o s p h1) (hm o' s' p' h2) hne g1 f1
theorem Its.none {ρ : Env} {B : Nat} {mem : List Slot} {w : World} (h : ∀ (o : Nat) s p, mem[o]? ≠ some (Slot.it s p)) : Its ρ B mem w :=
 ⟨fun o s p h1 => absurd h1 (h o s p), fun o s p _ _ _ _ _ _ _ h1 => absurd h1 (h o s p)⟩
theorem a3P {w : World} {b : Nat} {s : ByteArray} {p : Nat} (h : w.heap[b]? = some (.stringIter s p)) : ¬ a4P w b := by
 rintro ⟨cs, t, fr, h2⟩
 rw [h] at h2
 cases h2
structure MRel (ρ : Env) (B : Nat) (w0 : Base) (mem : List Slot) (w : World) : Prop where
 free : ∀ o, (mem[o]? = none ∨ mem[o]? = some .free) → ρ o = none
 ob : ∀ o b, mem[o]? = some (.live b) → ObRel ρ w o b
 sep : ∀ o b o' b' l l' x y, mem[o]? = some (.live b) → mem[o']? = some (.live b') → b.own ≠ .ro → o ≠ o' →
  ρ o = some l → ρ o' = some l' → l.a = some x → l'.a = some y → x.1 ≠ y.1
 ownB : ∀ o b l x, mem[o]? = some (.live b) → b.own = .own → ρ o = some l → l.a = some x → B ≤ x.1 ∧ ρ.fz x.1 = none
 mtM : ∀ o b i l, mem[o]? = some (.live b) → b.own = .mt i → ρ o = some l → ρ.mt[i]? = some (l.a.map fun x => ⟨x.1, x.2, l.size * l.es⟩)
 below : BelowM ρ.mt B w0.w w
 size : B ≤ w.heap.size
 frz : ∀ blk c, ρ.fz blk = some c → w.heap[blk]? = some c
 env : EnvOk ρ B
 emt : ρ.mt = w0.mt ∧ ρ.al = w0.al
 its : Its ρ B mem w
def b2B (ρ : Env) : List A1 → List Value → Prop
 | [], vs => vs = []
 | a :: r, vs => ∃ v vs', vs = v :: vs' ∧ a.rel ρ v ∧ b2B ρ r vs'
theorem b5o {ρ ρ' : Env} (hl : ρ.le ρ') : ∀ {l : List A1} {vs : List Value}, b2B ρ l vs → b2B ρ' l vs
 | [], _, h => h
 | _ :: _, _, ⟨v, vs', h1, h2, h3⟩ => ⟨v, vs', h1, A1.rel_le hl h2, b5o hl h3⟩
def a7a (ρ : Env) : List (FuncId × List A1) → List Deferred → Prop
 | [], ds => ds = []
 | (f, xs) :: r, ds => ∃ (as cap : Array Value) (ds' : List Deferred), ds = { target := .fn (.func f) cap, args := as } :: ds' ∧ b2B ρ xs (as ++ cap).toList ∧ a7a ρ r ds'
theorem a2U {ρ ρ' : Env} (hl : ρ.le ρ') : ∀ {l : List (FuncId × List A1)} {ds : List Deferred}, a7a ρ l ds → a7a ρ' l ds
 | [], _, h => h
 | _ :: _, _, ⟨as, cap, ds', h1, h2, h3⟩ => ⟨as, cap, ds', h1, b5o hl h2, a2U hl h3⟩
structure Rel (ρ : Env) (B : Nat) (w0 : Base) (st : St) (a : Act) (w : World) : Prop where
 len : a.tmps.size = st.tmps.length
 tm : ∀ i v, st.tmps[i]? = some v → TV.rel ρ v (a.tmps.getD i undef)
 m : MRel ρ B w0 st.mem w
 defers : a7a ρ st.dfr a.defers
theorem MRel.mtAt {ρ : Env} {B : Nat} {w0 : Base} {mem : List Slot} {w : World} (hm : MRel ρ B w0 mem w) (o : Nat) (b : Ob) (i : Nat) (l : Loc) (x : Nat × Nat) (h : mem[o]? = some (.live b)) (ho : b.own = .mt i) (hl : ρ o = some l) (hx : l.a = some x) :
  ρ.mt[i]? = some (some ⟨x.1, x.2, l.size * l.es⟩) := by
 have := hm.mtM o b i l h ho hl
 rw [hx] at this
 exact this
inductive T (α : Type) : Type 1 where
 | ret (a : α)
 | fail
 | ite (p : Prop) (d : Decidable p) (t e : T α)
 | opt {γ : Type} (x : Option γ) (k : γ → T α)
def T.run {α β : Type} : T α → (α → Option β) → Option β
 | .ret a, K => K a
 | .fail, _ => none
 | .ite p d t e, K => @_root_.ite _ p d (t.run K) (e.run K)
 | .opt x k, K => x.bind fun g => (k g).run K
def T.bind {α β : Type} : T α → (α → T β) → T β
 | .ret a, f => f a
 | .fail, _ => .fail
 | .ite p d t e, f => .ite p d (t.bind f) (e.bind f)
 | .opt x k, f => .opt x fun g => (k g).bind f
theorem T.run_bind {α β γ : Type} (t : T α) (f : α → T β) (K : β → Option γ) : (t.bind f).run K = t.run fun a => (f a).run K := by
 induction t with
 | ret a => rfl
 | fail => rfl
 | ite p d t e h1 h2 => simp only [T.bind, T.run, h1, h2]
 | opt x k h => simp only [T.bind, T.run]; congr 1; funext g; exact h g
def T.val {α : Type} (t : T α) : Option α := t.run some
theorem T.run_val {α β : Type} (t : T α) (K : α → Option β) : t.run K = t.val.bind K := by
 unfold T.val
 induction t with
 | ret a => rfl
 | fail => rfl
 | ite p d t e h1 h2 => simp only [T.run]; split <;> assumption
 | opt x k h => cases x with
  | none => rfl
  | some g => exact h g
theorem T.val_bind {α β : Type} (t : T α) (f : α → T β) : (t.bind f).val = t.val.bind fun a => (f a).val := by
 unfold T.val; rw [T.run_bind, T.run_val]; rfl
end Go.Ax
namespace Go.Ax
open Go.RowKit
inductive TD where
 | int (k : IntKind)
 | bool
 | str
 | ptr (e : TypeId)
 | sl (e : TypeId)
 | arr (n : Nat) (e : TypeId)
 | st (fs : List (Nat × TypeId))
 | other
structure TyI where
 td : TD
 size : Nat
 bytes : Nat
 zero : List Seg
def TD.agg : TD → Bool
 | .arr _ _ | .st _ => true
 | _ => false
def c0u : Value → AV
 | .int k n => .sc (.int k n)
 | .bool b => .sc (.known b)
 | .string s => .sc (.str s)
 | .pointer none => .sc .nilp
 | .slice none 0 0 => .sc .nilsl
 | .nilIface => .sc .nilif
 | .func (.func f) first captured => match first, captured with
  | ⟨[]⟩, ⟨[]⟩ => .sc (.fn f)
  | _, _ => .any
 | _ => .any
def St.get (st : St) : Operand → TV
 | .tmp t => st.tmps.getD t (.one .any)
 | .const v => .one (c0u v)
 | .func f => .one (.sc (.fn f))
 | _ => .one .any
def St.put (st : St) (dst : Option Tmp) (v : TV) : St :=
 match dst with
 | none => st
 | some d => { st with tmps := st.tmps.set d v }
def St.putA (st : St) (dst : Option Tmp) (a : A1) : St := st.put dst (.one (.sc a))
def St.look (st : St) (o : Nat) : Option Ob := match st.mem[o]? with
 | some (.live b) => some b
 | _ => none
def St.new (st : St) (nm : Nat) (b : Ob) : Option St := match st.mem[nm]? with
 | some .free => some { st with mem := st.mem.set nm (.live b) }
 | _ => none
def St.upd (st : St) (o : Nat) (m : OM) (l : List Seg) : St := { st with mem := st.mem.set o (.live { segs := l, own := m }) }
def T.ofOpt {α : Type} : Option α → T α
 | some a => .ret a
 | none => .fail
def a7y (b j : Nat) : Nat := match b with
 | 0 => j
 | b + 1 => b + 1 + j
theorem c8 (b j : Nat) : a7y b j = b + j := by cases b <;> simp [a7y]
def b67 (j e : Nat) : Nat := match e with
 | 1 => j
 | e => j * e
theorem U0 (j e : Nat) : b67 j e = j * e := by unfold b67; split <;> simp
def c1W (i : Option Nat) (j : Nat) : Nat := match i with
 | none => j
 | some i => i + j
theorem b95 (i : Option Nat) (j : Nat) : c1W i j = i.getD 0 + j := by cases i <;> simp [c1W]
def b6i : CK → Int → A1
 | .int k, z => .int k z
 | .bool, z => .bool (z ≠ 0) inferInstance
def b7m : CK → A1 → Option Int
 | .int k, .int k' z => if k = k' then some z else none
 | .bool, .known b => some (match b with | true => 1 | false => 0)
 | .bool, .bool p d => some (@_root_.ite _ p d 1 0)
 | _, _ => none
def a0F : List Seg → Nat → Option (Seg × Nat)
 | [], _ => none
 | [.xs k n zs], b => some (.xs k n zs, b)
 | .xs k n zs :: r, b => match Nat.blt b n with
  | true => some (.xs k n zs, b)
  | false => a0F r (b - n)
 | .one a :: r, b => match b with
  | 0 => some (.one a, 0)
  | b + 1 => a0F r b
 | .rw _ _ :: _, _ => none
def a0h (f : Seg → Nat → T Seg) : List Seg → Nat → T (List Seg)
 | [], _ => .fail
 | [.xs k n zs], b => (f (.xs k n zs) b).bind fun s => .ret [s]
 | .xs k n zs :: r, b => match Nat.blt b n with
  | true => (f (.xs k n zs) b).bind fun s => .ret (s :: r)
  | false => (a0h f r (b - n)).bind fun r' => .ret (.xs k n zs :: r')
 | .one a :: r, b => match b with
  | 0 => (f (.one a) 0).bind fun s => .ret (s :: r)
  | b + 1 => (a0h f r b).bind fun r' => .ret (.one a :: r')
 | .rw _ _ :: _, _ => .fail
def Y1 (i : Option Nat) (a : A1) : Seg → Nat → T Seg
 | .xs k n zs, b => match b7m k a with
  | none => .fail
  | some z => match i with
   | none => match Nat.blt b n with
    | true => .ret (.xs k n (zs.set b z))
    | false => .fail
   | some j => .ite (a7y b j < n) inferInstance (.ret (.xs k n (zs.set (a7y b j) z))) .fail
 | .one _, b => match i, b with
  | none, 0 => .ret (.one a)
  | _, _ => .fail
 | .rw _ _, _ => .fail
def L4 : List Seg → Nat → Option (List Seg)
 | [], m => match m with
  | 0 => some []
  | _ + 1 => none
 | .xs k n zs :: r, m => match Nat.beq m n with
  | true => some [.xs k n zs]
  | false => match Nat.blt m n with
   | true => some [.xs k m (zs.take m)]
   | false => (L4 r (m - n)).map (.xs k n zs :: ·)
 | .one a :: r, m => match m with
  | 0 => some []
  | 1 => some [.one a]
  | m + 2 => (L4 r (m + 1)).map (.one a :: ·)
 | .rw _ _ :: _, _ => none
def F6 : List Seg → Nat → Option (List Seg)
 | [], m => match m with
  | 0 => some []
  | _ + 1 => none
 | .xs k n zs :: r, m => match m with
  | 0 => some (.xs k n zs :: r)
  | m + 1 => match Nat.blt (m + 1) n with
   | true => some (.xs k (n - (m + 1)) (zs.drop (m + 1)) :: r)
   | false => F6 r (m + 1 - n)
 | .one a :: r, m => match m with
  | 0 => some (.one a :: r)
  | m + 1 => F6 r m
 | .rw k l :: r, m => match m with
  | 0 => some (.rw k l :: r)
  | _ + 1 => none
def a85 : List Seg → Nat → Nat → T A1
 | .one a :: r, k, j => .ite (j = k) inferInstance (.ret a) (a85 r (k + 1) j)
 | _, _, _ => .fail
def b5Y (l : List Seg) (b : Nat) (i : Option Nat) : T A1 :=
 match a0F l b with
 | some (.xs k n zs, b) => match i with
  | none => match Nat.blt b n with
   | true => .ret (b6i k (zs.getD b 0))
   | false => .fail
  | some j => .ite (a7y b j < n) inferInstance (.ret (b6i k (zs.getD (a7y b j) 0))) .fail
 | some (.one a, b') => match i with
  | none => match b' with
   | 0 => .ret a
   | _ => .fail
  | some j => match F6 l b with
   | some l' => a85 l' 0 j
   | none => .fail
 | some (.rw _ _, _) => .fail
 | none => .fail
def a9D (l : List Seg) (b : Nat) (i : Option Nat) (m : Nat) : T (List Seg) :=
 match i with
 | none => match F6 l b with
  | some l' => T.ofOpt (L4 l' m)
  | none => .fail
 | some j => match a0F l b with
  | some (.xs k n zs, b) => .ite (a7y b j + m ≤ n) inferInstance (.ret [.xs k m ((zs.drop (a7y b j)).take m)]) .fail
  | _ => .fail
def a6d (j m : Nat) (ys : List Int) (k' : CK) : Seg → Nat → T Seg
 | .xs k n zs, b => match decide (k = k') with
  | true => .ite (a7y b j + m ≤ n) inferInstance (.ret (.xs k n (zs.take (a7y b j) ++ ys ++ zs.drop (a7y b j + m)))) .fail
  | false => .fail
 | _, _ => .fail
def a2m (l : List Seg) (b : Nat) (i : Option Nat) (m : Nat) (new : List Seg) : T (List Seg) :=
 match i with
 | none => match L4 l b, F6 l (b + m) with
  | some x, some y => match b with
   | 0 => .ret (new ++ y)
   | _ => .ret (x ++ new ++ y)
  | _, _ => .fail
 | some j => match new with
  | [.xs k m' ys] => match Nat.beq m' m with
   | true => a0h (a6d j m ys k) l b
   | false => .fail
  | _ => .fail
def a9Y (k : IntKind) : Int → BitVec k.bits := BitVec.ofInt k.bits
def c0R (k : IntKind) (x y : Int) : Int := k.wrap (a9Y k x &&& a9Y k y).toNat
def ior (k : IntKind) (x y : Int) : Int := k.wrap (a9Y k x ||| a9Y k y).toNat
def c1Q (k : IntKind) (x y : Int) : Int := k.wrap (a9Y k x ^^^ a9Y k y).toNat
def c0o (k : IntKind) (x y : Int) : Int := k.wrap (a9Y k x &&& ~~~ a9Y k y).toNat
def c0T (k : IntKind) (x y : Int) : Int := k.wrap (x * 2 ^ (min y.toNat k.bits))
def b8E (k : IntKind) (x y : Int) : Int := x.fdiv (2 ^ (min y.toNat k.bits))
def c1X (op : BinOp) (x y : Int) : Option A1 :=
 match op with
 | .eql => some (.bool (x = y) inferInstance)
 | .neq => some (.bool (x ≠ y) inferInstance)
 | .lss => some (.bool (x < y) inferInstance)
 | .leq => some (.bool (x ≤ y) inferInstance)
 | .gtr => some (.bool (x > y) inferInstance)
 | .geq => some (.bool (x ≥ y) inferInstance)
 | _ => none
def b6p (op : BinOp) (k : IntKind) (x y : Int) : T A1 :=
 match op with
 | .add => .ret (.int k (k.wrap (x + y)))
 | .sub => .ret (.int k (k.wrap (x - y)))
 | .mul => .ret (.int k (k.wrap (x * y)))
 | .quo => .ite (y = 0) inferInstance .fail (.ret (.int k (k.wrap (x.tdiv y))))
 | .rem => .ite (y = 0) inferInstance .fail (.ret (.int k (x.tmod y)))
 | .and => .ret (.int k (c0R k x y))
 | .or => .ret (.int k (ior k x y))
 | .xor => .ret (.int k (c1Q k x y))
 | .andNot => .ret (.int k (c0o k x y))
 | op => T.ofOpt (c1X op x y)
def b7F (op : BinOp) (k : IntKind) (x y : Int) : T A1 :=
 match op with
 | .quo => match decide (y = 0) with
  | true => .fail
  | false => .ret (.int k (k.wrap (x.tdiv y)))
 | .rem => match decide (y = 0) with
  | true => .fail
  | false => .ret (.int k (x.tmod y))
 | op => b6p op k x y
def c1V (op : BinOp) (k : IntKind) (x y : Int) : T A1 :=
 match op with
 | .shl => .ite (y < 0) inferInstance .fail (.ret (.int k (c0T k x y)))
 | .shr => .ite (y < 0) inferInstance .fail (.ret (.int k (b8E k x y)))
 | _ => .fail
def c0H (op : BinOp) (k : IntKind) (x y : Int) : T A1 :=
 match op with
 | .shl => match decide (y < 0) with
  | true => .fail
  | false => .ret (.int k (c0T k x y))
 | .shr => match decide (y < 0) with
  | true => .fail
  | false => .ret (.int k (b8E k x y))
 | _ => .fail
def a26 : BinOp → Bool
 | .shl | .shr => true
 | _ => false
def a4Q : Operand → Bool
 | .const _ => true
 | _ => false
def c2m : A1 → Option A1
 | .known b => some (.known (match b with | true => false | false => true))
 | .bool p _ => some (.bool (¬ p) inferInstance)
 | _ => none
def b9P (neq : Bool) (a b : List Int) : A1 := match neq with
 | false => .bool (a = b) inferInstance
 | true => .bool (a ≠ b) inferInstance
def c1M (neq : Bool) (a b : List Int) : A1 := match neq with
 | false => .bool (a.map (· != 0) = b.map (· != 0)) inferInstance
 | true => .bool (a.map (· != 0) ≠ b.map (· != 0)) inferInstance
def K0 (k : CK) : List Seg → Option (List Int)
 | [] => some []
 | [.xs k' _ zs] => if k = k' then some zs else none
 | .xs k' _ zs :: r => if k = k' then (K0 k r).map (zs ++ ·) else none
 | .one a :: r => match b7m k a with
  | some z => (K0 k r).map (z :: ·)
  | none => none
 | .rw _ _ :: _ => none
end Go.Ax
namespace Go.Ax
open Go.RowKit
inductive FK where
 | int (k : IntKind)
 | bool
 | xs (k : CK) (n : Nat)
 | sl (k : CK)

 | fs (k : CK)
abbrev FK.T : FK → Type
 | .int _ => Int
 | .bool => Bool
 | .xs _ _ => List Int
 | .sl _ => List Int
 | .fs _ => List Int
def FK.size : FK → Nat
 | .xs _ n => n
 | _ => 1
def a4h : List FK → Nat
 | [] => 0
 | k :: r => k.size + a4h r
abbrev Cs : List FK → Type
 | [] => Unit
 | k :: r => k.T × Cs r
inductive RK where
 | int (k : IntKind)
 | xs (k : CK) (n : Nat)
 | sl (k : CK)

 | ct (l : List FK)
abbrev RK.T : RK → Type
 | .int _ => Int
 | .xs _ _ => List Int
 | .sl _ => List Int
 | .ct l => Cs l
inductive Kd where
 | int (k : IntKind)
 | bool
 | str
 | xs (k : CK) (n : Nat)
 | sl (k : CK)
 | sls (k : CK)
 | fnc (f : FuncId)
 | rp (K : RK)
 | fcl (f : FuncId) (k : IntKind)
 | sla (k : CK) (m : Nat)
 | cat (l : List FK)
 | io (l : List FK)
 | ios (k : CK)
 | xv (k : CK)
 | op (l : List FK)

 | fsl (k : CK)

 | asl (k : CK)
abbrev Kd.T : Kd → Type
 | .int _ => Int
 | .bool => Bool
 | .str => ByteArray
 | .xs _ _ => List Int
 | .sl _ => List Int
 | .sls _ => List (List Int)
 | .fnc _ => Unit
 | .rp K => K.T
 | .fcl _ _ => Int
 | .sla _ _ => List Int
 | .cat l => Cs l
 | .io l => Cs l
 | .ios _ => List Int
 | .xv _ => List Int
 | .op l => Cs l
 | .fsl _ => List Int
 | .asl _ => List Int
abbrev Ds : List Kd → Type
 | [] => Unit
 | k :: r => k.T × Ds r
abbrev Rs : List Kd → Type
 | [] => Unit
 | [k] => k.T
 | k :: r => k.T × Rs r
def x6 (k : CK) (st : St) : A1 → Option (List Int)
 | .nilsl => some []
 | .vec o _ es => match Nat.beq es 1 with
  | true => match st.look o with
   | some b => K0 k b.segs
   | none => none
  | false => none
 | .sl o off len _ es => match Nat.beq es 1, st.look o with
  | true, some b => match b.segs with
   | [.xs k' _ zs] => if k = k' then some ((zs.drop off).take len) else none
   | _ => none
  | _, _ => none
 | .fr (.xs k' zs) => if k = k' then some zs else none
 | _ => none
def b8D (k : CK) : A1 → Option (List Int)
 | .nilsl => some []
 | .fr (.xs k' zs) => if k = k' then some zs else none
 | _ => none
def I1 (k : CK) (st : St) : List Seg → Option (List (List Int))
 | [] => some []
 | .one a :: r => match x6 k st a, I1 k st r with
  | some x, some y => some (x :: y)
  | _, _ => none
 | _ => none
def a4u (l : List Seg) (b m : Nat) : Option (List Seg) := match F6 l b with
 | some l' => L4 l' m
 | none => none
def FK.get (st : St) : (K : FK) → List Seg → Option K.T
 | .int k, l => (K0 (.int k) l).map fun zs => zs.getD 0 0
 | .bool, l => match l with
  | [.one (.known b)] => some b
  | [.one (.bool p d)] => some (@decide p d)
  | l => (K0 .bool l).map fun zs => zs.getD 0 0 != 0
 | .xs k _, l => K0 k l
 | .sl k, l => match l with
  | [.one a] => x6 k st a
  | _ => none
 | .fs k, l => match l with
  | [.one a] => b8D k a
  | _ => none
def a7I (st : St) : (L : List FK) → List Seg → Option (Cs L)
 | [], l => match l with
  | [] => some ()
  | _ => none
 | K :: r, l => match L4 l K.size, F6 l K.size with
  | some a, some b => match K.get st a, a7I st r b with
   | some x, some y => some (x, y)
   | _, _ => none
  | _, _ => none
def RK.get (st : St) (l : List Seg) (b : Nat) : (K : RK) → Option K.T
 | .int k => match a4u l b 1 with
  | some l2 => (K0 (.int k) l2).map fun zs => zs.getD 0 0
  | none => none
 | .xs k n => match a4u l b n with
  | some l2 => K0 k l2
  | none => none
 | .sl k => match a4u l b 1 with
  | some [.one a] => x6 k st a
  | _ => none
 | .ct L => match a4u l b (a4h L) with
  | some l2 => a7I st L l2
  | none => none
def FK.segs : (K : FK) → K.T → List Seg
 | .int k, n => [.one (.int k n)]
 | .bool, b => [.one (.bool (b = true) inferInstance)]
 | .xs k n, zs => [.xs k n zs]
 | .sl k, zs => [.one (.fr (.xs k zs))]
 | .fs k, zs => [.one (.fr (.xs k zs))]
def a4j : (L : List FK) → Cs L → List Seg
 | [], _ => []
 | K :: r, x => K.segs x.1 ++ a4j r x.2
def FK.plain : FK → Bool
 | .sl _ => false
 | .fs _ => false
 | _ => true
def Kd.get (st : St) : (K : Kd) → TV → Option K.T
 | .int k, .one (.sc (.int k' n)) => if k = k' then some n else none
 | .bool, .one (.sc (.known b)) => some b
 | .bool, .one (.sc (.bool p d)) => some (@decide p d)
 | .str, .one (.sc (.str s)) => some s
 | .xs k n, .one (.agg l) => match Nat.beq (E2 l) n with
  | true => K0 k l
  | false => none
 | .sl k, .one (.sc a) => x6 k st a
 | .sls _, .one (.sc .nilsl) => some []
 | .sls k, .one (.sc (.vec o _ es)) => match Nat.beq es 1 with
  | true => match st.look o with
   | some b => I1 k st b.segs
   | none => none
  | false => none
 | .sls k, .one (.sc (.fr (.xss k' l))) => if k = k' then some l else none
 | .fnc f, .one (.sc (.fn g)) => match Nat.beq f g with
  | true => some ()
  | false => none
 | .rp K, .one (.sc (.ptr o b none)) => match st.look o with
  | some ob => K.get st ob.segs b
  | none => none
 | .fcl f k, .one (.sc (.clo g o b)) => match Nat.beq f g with
  | true => match st.look o with
   | some ob => RK.get st ob.segs b (.int k)
   | none => none
  | false => none
 | .sla _ _, .one (.sc .nilsl) => some []
 | .sla k m, .one (.sc (.vec o _ es)) => match Nat.beq es m, Nat.blt 0 m with
  | true, true => match st.look o with
   | some b => K0 k b.segs
   | none => none
  | _, _ => none
 | .cat l, .one (.agg segs) => a7I st l segs
 | .fsl k, .one (.sc a) => x6 k st a
 | .asl k, .one (.sc a) => b8D k a
 | _, _ => none
def Kd.isIo : Kd → Bool
 | .io _ => true
 | .ios _ => true
 | _ => false
def St.mine (st : St) (o : Nat) : Bool := match st.look o with
 | some b => match b.own with
  | .ro => false
  | _ => true
 | none => false
def Kd.get2 (st stk : St) (K : Kd) (v : TV) : Option K.T := match K with
 | .io l => match v with
  | .one (.sc (.ptr o b none)) => match st.mine o, st.look o with
   | true, some ob => match a4u ob.segs b (a4h l) with
    | some l2 => a7I stk l l2
    | none => none
   | _, _ => none
  | _ => none
 | .ios k => match v with
  | .one (.sc (.vec o n es)) => match st.mine o with
   | true => x6 k st (.vec o n es)
   | false => none
  | .one (.sc (.sl o off n c es)) => match st.mine o with
   | true => x6 k st (.sl o off n c es)
   | false => none
  | _ => none
 | K => K.get stk v
def F3 (st stk : St) : (ks : List Kd) → List TV → Option (Ds ks)
 | [], [] => some ()
 | k :: ks, v :: vs => match k.get2 st stk v, F3 st stk ks vs with
  | some x, some y => some (x, y)
  | _, _ => none
 | _, _ => none
def FK.make (nm : Nat) : (K : FK) → K.T → List Seg × List Ob
 | .int k, n => ([.one (.int k n)], [])
 | .bool, b => ([.one (.bool (b = true) inferInstance)], [])
 | .xs k n, zs => ([.xs k n zs], [])
 | .sl k, zs => ([.one (.vec nm zs.length 1)], [{ segs := [.xs k zs.length zs], own := .own }])
 | .fs k, zs => ([.one (.fr (.xs k zs))], [])
def a8z (nm : Nat) : (L : List FK) → Cs L → List Seg × List Ob
 | [], _ => ([], [])
 | K :: r, x => let p := K.make nm x.1; let q := a8z (nm + p.2.length) r x.2; (p.1 ++ q.1, p.2 ++ q.2)
def Kd.make (nm : Nat) : (K : Kd) → K.T → AV × List Ob
 | .int k, n => (.sc (.int k n), [])
 | .bool, b => (.sc (.bool (b = true) inferInstance), [])
 | .str, s => (.sc (.str s), [])
 | .xs k n, zs => (.agg [.xs k n zs], [])
 | .sl k, zs => (.sc (.vec nm zs.length 1), [{ segs := [.xs k zs.length zs], own := .own }])
 | .sls k, l => (.sc (.fr (.xss k l)), [])
 | .fnc f, _ => (.sc (.fn f), [])
 | .rp _, _ => (.any, [])
 | .fcl _ _, _ => (.any, [])
 | .sla k m, zs => (.sc (.vec nm (zs.length / m) m), [{ segs := [.xs k zs.length zs], own := .own }])
 | .cat l, x => (.agg (a8z nm l x).1, (a8z nm l x).2)
 | .io _, _ => (.any, [])
 | .ios _, _ => (.any, [])
 | .xv k, zs => (.agg [.xs k zs.length zs], [])
 | .op l, x => (.sc (.ptr nm 0 none), [{ segs := a4j l x, own := .own }])
 | .fsl _, _ => (.any, [])
 | .asl k, zs => (.sc (.fr (.xs k zs)), [])
def FK.isFs : FK → Bool
 | .fs _ => true
 | _ => false
def Kd.opn : Kd → Bool
 | .asl _ => true
 | .cat l => l.any FK.isFs
 | _ => false
def Kd.isSls : Kd → Bool
 | .sls _ => true
 | .asl _ => true
 | .cat l => l.any FK.isFs
 | _ => false
def Q6 (nm : Nat) : (ks : List Kd) → Rs ks → List AV × List Ob
 | [], _ => ([], [])
 | [k], x => let p := k.make nm x; ([p.1], p.2)
 | k :: k2 :: r, x => let p := k.make nm x.1; let q := Q6 (nm + p.2.length) (k2 :: r) x.2; (p.1 :: q.1, p.2 ++ q.2)
def b8H : List AV → TV
 | [a] => .one a
 | l => .tup l
def St.newAll (st : St) (nm : Nat) : List Ob → Option St
 | [] => some st
 | b :: r => match st.new nm b with
  | some st' => st'.newAll (nm + 1) r
  | none => none
structure Sig where
 args : List Kd
 res : List Kd
 g : Ds args → Option (Rs res)
inductive Py where
 | ifi (t : TypeId) (k : IntKind)
 | ifg (t : TypeId) (k : IntKind)
 deriving DecidableEq
def Py.val : Py → Int → Value
 | .ifi t k, n => .iface t (.int k n)
 | .ifg t k, n => .iface t (.agg #[.int k n])
structure XSig where
 args : List Kd
 res : List Kd
 py : Py
 g : Ds args → Option (Bool × Int × Rs res)
def xr {α : Type} (y : Bool × Int × α) : Int ⊕ α := match y.1 with
 | true => .inl y.2.1
 | false => .inr y.2.2
def xg {α : Type} : Option (Bool × Int × α) → Option α
 | some (false, _, r) => some r
 | _ => none
def XSig.sig (s : XSig) : Sig := ⟨s.args, s.res, fun x => xg (s.g x)⟩
structure Cat where
 run : Option (Py × Int) → List A1 → List Slot → Option (List Slot)
inductive IR where
 | ret (l : List AV) (mem : List Slot)
 | pan (p : Py) (n : Int) (mem : List Slot)
structure Inl where
 run : (β : Type) → List TV → List Slot → (IR → Option β) → Option β
 mono : ∀ (β : Type) (args : List TV) (mem : List Slot) (K1 K2 : IR → Option β) (r : β), (∀ x, K1 x = some r → K2 x = some r) → run β args mem K1 = some r → run β args mem K2 = some r
inductive RtC where
 | short (j m L : Nat)
 | okay (j i L : Nat)
structure AE where
 ty : TypeId → Option TyI
 fn : FuncId → List Sig
 xn : FuncId → Option XSig := fun _ => none
 ct : FuncId → Option Cat := fun _ => none

 ifc : TypeId → Bool := fun _ => false
 imp : TypeId → TypeId → Bool := fun _ _ => false

 eqs : TypeId → Option (IntKind × Nat) := fun _ => none

 inl : FuncId → Option Inl := fun _ => none
 lits : Nat → Bool := fun _ => false
 unr : Nat → Option Nat := fun _ => none
 mth : TypeId → String → Option FuncId := fun _ _ => none

 rt : FuncId → Option RtC := fun _ => none
def asI : TV → Option (IntKind × Int)
 | .one (.sc (.int k n)) => some (k, n)
 | _ => none
def b8k : TV → Option (List Seg)
 | .one (.sc a) => some [.one a]
 | .one (.agg l) => some l
 | _ => none
def a4R (E : AE) (st : St) (t : TypeId) (o b : Nat) (i : Option Nat) : T AV :=
 match E.ty t, st.look o with
 | some ti, some ob => match ti.td.agg with
  | true => (a9D ob.segs b i ti.size).bind fun l => .ret (.agg l)
  | false => (b5Y ob.segs b i).bind fun a => .ret (.sc a)
 | _, _ => .fail
def a59 (E : AE) (st : St) (t : TypeId) (o b : Nat) (i : Option Nat) (v : TV) : T St :=
 match E.ty t, st.look o with
 | some ti, some ob => match ob.own with
  | .ro => .fail
  | m => match ti.td.agg, v with
   | true, .one (.agg l) => match Nat.beq (E2 l) ti.size with
    | true => (a2m ob.segs b i ti.size l).bind fun l' => .ret (st.upd o m l')
    | false => .fail
   | false, .one (.sc a) => (a0h (Y1 i a) ob.segs b).bind fun l' => .ret (st.upd o m l')
   | _, _ => .fail
 | _, _ => .fail
def b6B (ti : TyI) (l : List Seg) (b : Nat) (i : Option Nat) : T AV :=
 match ti.td.agg with
 | true => (a9D l b i ti.size).bind fun l => .ret (.agg l)
 | false => (b5Y l b i).bind fun a => .ret (.sc a)
def b4G (ti : TyI) (l : List Seg) (b : Nat) (v : TV) : T (List Seg) :=
 match ti.td.agg, v with
 | true, .one (.agg l') => match Nat.beq (E2 l') ti.size with
  | true => a2m l b none ti.size l'
  | false => .fail
 | false, .one (.sc a) => a0h (Y1 none a) l b
 | _, _ => .fail
def C4 (E : AE) (place : Nat → Option (Nat × TypeId)) : List Seg → List (Nat × TV) → T (List Seg)
 | l, [] => .ret l
 | l, (j, v) :: r => match place j with
  | some (off, t) => match E.ty t with
   | some ti => (b4G ti l off v).bind fun l' => C4 E place l' r
   | none => .fail
  | none => .fail
def c1A (n : Nat) : List Seg → Option (List Seg)
 | [.xs k m zs] => match zs.all (· == 0) with
  | true => some [.xs k (b67 n m) (List.replicate (b67 n m) 0)]
  | false => none
 | [.one a] => match n, a with
  | 0, .nilsl => some [.rw (.int .u8) []]
  | n, a => some (List.replicate n (.one a))
 | _ => none
def newPtr (st : St) (nm : Nat) (dst : Option Tmp) (l : List Seg) : T St :=
 match st.new nm { segs := l, own := .own } with
 | some st' => .ret (st'.putA dst (.ptr nm 0 none))
 | none => .fail
def newVec (st : St) (nm : Nat) (dst : Option Tmp) (l : List Seg) (len es : Nat) : T St :=
 match st.new nm { segs := l, own := .own } with
 | some st' => .ret (st'.putA dst (.vec nm len es))
 | none => .fail
def FD.cell : FD → Nat → A1
 | .xs k zs, j => b6i k (zs.getD j 0)
 | .xss k l, j => .fr (.xs k (l.getD j []))
def FD.sub : FD → Nat → Nat → FD
 | .xs k zs, l, h => .xs k ((zs.drop l).take (h - l))
 | .xss k r, l, h => .xss k ((r.drop l).take (h - l))
def c13 (E : AE) : Operand → Bool
 | .tmp t => E.lits t
 | _ => false
def a3N (E : AE) (st : St) (dst : Option Tmp) (t : TypeId) (x : TV) (ix : Operand) : T St :=
 match E.ty t, x, asI (st.get ix) with
 | some { td := .arr n e, .. }, .one (.sc (.ptr o b i)), some (_, j) => match E.ty e with
  | some te => match a4Q ix with
   | true => match decide (0 ≤ j ∧ j < (n : Int)) with
    | true => .ret (st.putA dst (.ptr o (b + j.toNat * te.size) i))
    | false => .fail
   | false => .ite (0 ≤ j) inferInstance (.ite (j < (n : Int)) inferInstance (.ret (st.putA dst (.ptr o b (some (c1W i (b67 j.toNat te.size)))))) .fail) .fail
  | none => .fail
 | some { td := .sl e, .. }, .one (.sc (.vec o len _)), some (_, j) => match E.ty e with
  | some te => match c13 E ix with
   | true => match decide (0 ≤ j ∧ j < (len : Int)) with
    | true => .ret (st.putA dst (.ptr o (j.toNat * te.size) none))
    | false => .fail
   | false => .ite (0 ≤ j) inferInstance (.ite (j < (len : Int)) inferInstance (.ret (st.putA dst (.ptr o 0 (some (b67 j.toNat te.size))))) .fail) .fail
  | none => .fail
 | some { td := .sl e, .. }, .one (.sc (.sl o off len _ _)), some (_, j) => match E.ty e with
  | some te => .ite (0 ≤ j) inferInstance (.ite (j < (len : Int)) inferInstance (.ret (st.putA dst (.ptr o 0 (some (a7y off (b67 j.toNat te.size)))))) .fail) .fail
  | none => .fail
 | some { td := .sl e, .. }, .one (.sc (.fr d)), some (_, j) => match E.ty e with
  | some te => match Nat.beq te.size 1 with
   | true => .ite (0 ≤ j) inferInstance (.ite (j < (d.len : Int)) inferInstance (.ret (st.putA dst (.fp d j.toNat))) .fail) .fail
   | false => .fail
  | none => .fail
 | _, _, _ => .fail
def bt (s : ByteArray) (i : Nat) : Int := (s.data.toList.getD i 0).toNat
def b5H (E : AE) (st : St) (dst : Option Tmp) (t : TypeId) (x : TV) (ix : Operand) : T St :=
 match E.ty t, x, asI (st.get ix) with
 | some { td := .arr n e, .. }, .one (.agg l), some (_, j) => match E.ty e with
  | some te => match a4Q ix with
   | true => match decide (0 ≤ j ∧ j < (n : Int)) with
    | true => (b6B te l (j.toNat * te.size) none).bind fun a => .ret (st.put dst (.one a))
    | false => .fail
   | false => .ite (0 ≤ j) inferInstance (.ite (j < (n : Int)) inferInstance ((b6B te l 0 (some (b67 j.toNat te.size))).bind fun a => .ret (st.put dst (.one a))) .fail) .fail
  | none => .fail
 | some { td := .str, .. }, .one (.sc (.str s)), some (_, j) =>
  .ite (0 ≤ j) inferInstance (.ite (j < (s.size : Int)) inferInstance (.ret (st.putA dst (.int .u8 (bt s j.toNat)))) .fail) .fail
 | _, _, _ => .fail
def A3 {α : Type} (st : St) (x : Option Operand) (d most : Nat) (K : Nat → T α) : T α :=
 match x with
 | none => K d
 | some x => match asI (st.get x) with
  | some (_, j) => match a4Q x with
   | true => match j with
    | .ofNat j => .ite (j ≤ most) inferInstance (K j) .fail
    | _ => .fail
   | false => .ite (0 ≤ j) inferInstance (.ite (j ≤ (most : Int)) inferInstance (K j.toNat) .fail) .fail
  | none => .fail
def a2G (a b : Nat) : Nat := match b with
 | 0 => a
 | b + 1 => a - (b + 1)
theorem d9 (a b : Nat) : a2G a b = a - b := by cases b <;> simp [a2G]
def b1f (E : AE) (st : St) (dst : Option Tmp) (t : TypeId) (x : TV) (lo hi : Option Operand) : T St :=
 match E.ty t, x with
 | some { td := .arr n e, .. }, .one (.sc (.ptr o b none)) => match E.ty e, st.look o with
  | some te, some ob => match Nat.ble (b + n * te.size) (E2 ob.segs) with
   | true => A3 st hi n n fun h => A3 st lo 0 h fun l => .ret (st.putA dst (.sl o (a7y b (b67 l te.size)) (a2G h l) (a2G n l) te.size))
   | false => .fail
  | _, _ => .fail
 | some { td := .sl e, .. }, .one (.sc (.vec o len es)) => match E.ty e with
  | some te => match Nat.beq es te.size with
   | true => A3 st hi len len fun h => A3 st lo 0 h fun l => .ret (st.putA dst (.sl o (b67 l te.size) (a2G h l) (a2G len l) te.size))
   | false => .fail
  | none => .fail
 | some { td := .sl e, .. }, .one (.sc (.sl o off len cap es)) => match E.ty e with
  | some te => match Nat.beq es te.size with
   | true => A3 st hi len len fun h => A3 st lo 0 h fun l => .ret (st.putA dst (.sl o (a7y off (b67 l te.size)) (a2G h l) (a2G cap l) te.size))
   | false => .fail
  | none => .fail
 | some { td := .sl e, .. }, .one (.sc (.fr d)) => match E.ty e with
  | some te => match Nat.beq te.size 1 with
   | true => A3 st hi d.len d.len fun h => A3 st lo 0 h fun l => .ret (st.putA dst (.fr (d.sub l h)))
   | false => .fail
  | none => .fail
 | some { td := .str, .. }, .one (.sc (.str s)) => A3 st hi s.size s.size fun h => A3 st lo 0 h fun l => .ret (st.putA dst (.str (s.extract l h)))
 | _, _ => .fail
def b9k (E : AE) (st : St) (nm : Nat) (dst : Option Tmp) (t : TypeId) (l c : TV) : T St :=
 match E.ty t, asI l, asI c with
 | some { td := .sl e, .. }, some (_, n), some (_, m) => match E.ty e with
  | some te => .ite (0 ≤ n) inferInstance (.ite (n = m) inferInstance (.ite (n * te.bytes ≤ 281474976710656) inferInstance (match Nat.blt 0 te.bytes, c1A n.toNat te.zero with
   | true, some z => newVec st nm dst z n.toNat te.size
   | _, _ => .fail) .fail) .fail) .fail
  | none => .fail
 | _, _, _ => .fail
def b5L (E : AE) (st : St) (nm : Nat) (dst : Option Tmp) (t : TypeId) (l c : TV) : T St :=
 match E.ty t, asI l, asI c with
 | some { td := .sl e, .. }, some (_, n), some (_, m) => match E.ty e with
  | some te => .ite (0 ≤ n) inferInstance (.ite (n ≤ m) inferInstance (.ite (m * te.bytes ≤ 281474976710656) inferInstance (match Nat.blt 0 te.bytes, c1A n.toNat te.zero with
   | true, some z => newVec st nm dst z n.toNat te.size
   | _, _ => .fail) .fail) .fail) .fail
  | none => .fail
 | _, _, _ => .fail
def c1D : Operand → Operand → Bool
 | .tmp a, .tmp b => Nat.beq a b
 | .const (.int _ a), .const (.int _ b) => decide (a = b)
 | _, _ => false
def b7S : List Seg → List Seg → Option (List Seg)
 | [], b => some b
 | [.xs k n zs], [.xs k' m ys] => if k = k' then some [.xs k (n + m) (zs ++ ys)] else none
 | [.rw k a], [.rw k' b] => if k = k' then some [.rw k (a ++ b)] else none
 | a, [] => some a
 | a, b => some (a ++ b)
def b34 (st : St) (es : Nat) : TV → Option (List Seg × Nat)
 | .one (.sc .nilsl) => some ([], 0)
 | .one (.sc (.vec o len es')) => match Nat.beq es es' with
  | true => (st.look o).map fun b => (b.segs, len)
  | false => none
 | .one (.sc (.sl o off len _ es')) => match Nat.beq es 1, Nat.beq es' 1, st.look o with
  | true, true, some { segs := [.xs k _ zs], .. } => some ([.xs k len ((zs.drop off).take len)], len)
  | _, _, _ => none
 | .one (.sc (.fr (.xs k zs))) => match Nat.beq es 1 with
  | true => some ([.xs k zs.length zs], zs.length)
  | false => none
 | _ => none
def St.kill (st : St) (o : Nat) : St := { st with mem := st.mem.set o .dead }
def a20 (st : St) : A1 → Option (CK × List Int × St)
 | .nilsl => some (.int .u8, [], st)
 | .vec o _ es => match Nat.beq es 1, st.look o with
  | true, some { segs := [.xs k _ zs], own := .own } => some (k, zs, st.kill o)
  | _, _ => none
 | _ => none
def b8G (st : St) (es : Nat) (y : TV) : Option (List Seg × Nat × St) := match b34 st es y with
 | some ([.one a], 1) => match a20 st a with
  | some (k, zs, st1) => some ([.rw k [zs]], 1, st1)
  | none => some ([.one a], 1, st)
 | some (l, m) => some (l, m, st)
 | none => none
def b1m (E : AE) (st : St) (nm : Nat) (dst : Option Tmp) (t t2 : TypeId) (x y : TV) : T St :=
 match E.ty t, E.ty t2 with
 | some { td := .sl e, .. }, some { td := .sl _, .. } => match (E.ty e).filter fun te => Nat.blt 0 te.bytes with
  | some te => match b8G st te.size y with
   | some (l, m, st) => match x with
    | .one (.sc .nilsl) => .ite (m * te.bytes ≤ 140737488355328) inferInstance (newVec st nm dst l m te.size) .fail
    | .one (.sc (.vec o len es)) => match st.look o, Nat.beq es te.size with
     | some { segs, own := .own }, true => match b7S segs l with
      | some z => .ite ((len + m) * te.bytes ≤ 140737488355328) inferInstance (newVec (st.kill o) nm dst z (len + m) es) .fail
      | none => .fail
     | _, _ => .fail
    | _ => .fail
   | none => .fail
  | none => .fail
 | _, _ => .fail
def c0l : TV → Option (Nat × Nat × Nat)
 | .one (.sc (.vec o len es)) => match Nat.beq es 1 with
  | true => some (o, 0, len)
  | false => none
 | .one (.sc (.sl o off len _ es)) => match Nat.beq es 1 with
  | true => some (o, off, len)
  | false => none
 | _ => none
def c1H : TV → Option A1
 | .one (.sc a) => some a
 | _ => none
def b80 (E : AE) (st : St) (dst : Option Tmp) (t : TypeId) (x y : TV) : T St :=
 match E.ty t with
 | some { td := .sl e, .. } => match (E.ty e).map TyI.size, c0l x, c1H y with
  | some 1, some (o, off, len), some b => match st.look o with
   | some { segs := [.xs k n zs], own := md } => match decide (md = .ro), x6 k st b with
    | false, some ys => .ret ((st.upd o md [.xs k n (zs.take off ++ ys.take (min ys.length len) ++ zs.drop (off + min ys.length len))]).putA dst (.int .i64 (min ys.length len : Nat)))
    | _, _ => .fail
   | _ => .fail
  | _, _, _ => .fail
 | _ => .fail
def c2l (E : AE) (t : TypeId) (x : TV) : Option Int :=
 match E.ty t, x with
 | some { td := .arr n _, .. }, _ => some n
 | some { td := .sl _, .. }, .one (.sc (.vec _ len _)) => some len
 | some { td := .sl _, .. }, .one (.sc (.sl _ _ len _ _)) => some len
 | some { td := .sl _, .. }, .one (.sc .nilsl) => some 0
 | some { td := .sl _, .. }, .one (.sc (.fr d)) => some d.len
 | some { td := .str, .. }, .one (.sc (.str s)) => some s.size
 | _, _ => none
structure BP where
 p : Prop
 d : Decidable p
def asP : TV → Option BP
 | .one (.sc (.known b)) => some ⟨b = true, inferInstance⟩
 | .one (.sc (.bool p d)) => some ⟨p, d⟩
 | _ => none
def b6z (E : AE) (st : St) (dst : Option Tmp) (op : BinOp) (t : TypeId) (len : Nat) : T St :=
 match (E.ty t).map TyI.td with
 | some (.sl _) => match op with
  | .eql => .ite (len = 0) inferInstance (.ret (st.putA dst .ub)) (.ret (st.putA dst (.known false)))
  | .neq => .ite (len = 0) inferInstance (.ret (st.putA dst .ub)) (.ret (st.putA dst (.known true)))
  | _ => .fail
 | _ => .fail
def c0S : TV → Option (TypeId × AV)
 | .one (.sc (.ifi t k n)) => some (t, .sc (.int k n))
 | .one (.sc (.ifg t k n)) => some (t, .agg [.one (.int k n)])
 | .one (.sc (.ifp t o b)) => some (t, .agg [.one (.ptr o b none)])
 | .one (.sc (.ifq t o b k n)) => some (t, .agg [.one (.ptr o b none), .one (.int k n)])
 | _ => none
def c1J (E : AE) (st : St) (dst : Option Tmp) (op : BinOp) (t : TypeId) (x y : Operand) : T St :=
 match st.get x, st.get y with
 | .one (.sc (.int k a)), .one (.sc (.int k' b)) => match a26 op, a4Q y with
  | true, true => (c0H op k a b).bind fun r => .ret (st.putA dst r)
  | true, false => (c1V op k a b).bind fun r => .ret (st.putA dst r)
  | false, true => if k = k' then (b7F op k a b).bind fun r => .ret (st.putA dst r) else .fail
  | false, false => if k = k' then (b6p op k a b).bind fun r => .ret (st.putA dst r) else .fail
 | .one (.agg a), .one (.agg b) => match E.ty t with
  | some { td := .arr n e, .. } => match (E.ty e).map TyI.td with
   | some (.int k) => match Nat.beq (E2 a) n, Nat.beq (E2 b) n, K0 (.int k) a, K0 (.int k) b with
    | true, true, some a, some b => match op with
     | .eql => .ret (st.putA dst (b9P false a b))
     | .neq => .ret (st.putA dst (b9P true a b))
     | _ => .fail
    | _, _, _, _ => .fail
   | some .bool => match Nat.beq (E2 a) n, Nat.beq (E2 b) n, K0 .bool a, K0 .bool b with
    | true, true, some a, some b => match op with
     | .eql => .ret (st.putA dst (c1M false a b))
     | .neq => .ret (st.putA dst (c1M true a b))
     | _ => .fail
    | _, _, _, _ => .fail
   | _ => .fail
  | _ => match E.eqs t with
   | some (k, n) => match Nat.beq (E2 a) n, Nat.beq (E2 b) n, K0 (.int k) a, K0 (.int k) b with
    | true, true, some a, some b => match op with
     | .eql => .ret (st.putA dst (b9P false a b))
     | .neq => .ret (st.putA dst (b9P true a b))
     | _ => .fail
    | _, _, _, _ => .fail
   | none => .fail
 | .one (.sc (.vec _ len _)), .one (.sc .nilsl) => b6z E st dst op t len
 | .one (.sc (.fr d)), .one (.sc .nilsl) => b6z E st dst op t d.len
 | .one (.sc (.str a)), .one (.sc (.str b)) => match op with
  | .eql => .ret (st.putA dst (.bool (a = b) inferInstance))
  | .neq => .ret (st.putA dst (.bool (a ≠ b) inferInstance))
  | _ => .fail
 | .one (.sc (.ptr _ _ _)), .one (.sc .nilp) => match (E.ty t).map TyI.td with
  | some (.ptr _) => match op with
   | .eql => .ret (st.putA dst (.known false))
   | .neq => .ret (st.putA dst (.known true))
   | _ => .fail
  | _ => .fail
 | .one (.sc .nilif), .one (.sc .nilif) => match E.ifc t, a4Q y, op with
  | true, true, .eql => .ret (st.putA dst (.known true))
  | true, true, .neq => .ret (st.putA dst (.known false))
  | _, _, _ => .fail
 | vx, .one (.sc .nilif) => match c0S vx, E.ifc t, op with
  | some _, true, .eql => .ret (st.putA dst (.known false))
  | some _, true, .neq => .ret (st.putA dst (.known true))
  | _, _, _ => .fail
 | x, y => match asP x, asP y, (E.ty t).map TyI.td with
  | some p, some q, some .bool => match op with
   | .eql => .ret (st.putA dst (.bool (@decide p.p p.d = @decide q.p q.d) inferInstance))
   | .neq => .ret (st.putA dst (.bool (@decide p.p p.d ≠ @decide q.p q.d) inferInstance))
   | _ => .fail
  | _, _, _ => .fail
def L8 (mx : Bool) (k : IntKind) : Int → List TV → Option Int
 | a, [] => some a
 | a, .one (.sc (.int k' b)) :: r => if k = k' then L8 mx k (match mx with
   | true => if b > a then b else a
   | false => if b < a then b else a) r else none
 | _, _ => none
def b24 (mx : Bool) : List TV → Option (IntKind × Int)
 | .one (.sc (.int k a)) :: r => (L8 mx k a r).map fun n => (k, n)
 | _ => none
def Kd.ioAt (st : St) : Kd → TV → Option (List (Nat × Option (Nat × Nat)))
 | .io l, .one (.sc (.ptr o b none)) => some [(o, some (b, a4h l))]
 | .io _, _ => none
 | .ios _, .one (.sc (.vec o _ es)) => match Nat.beq es 1 with
  | true => some [(o, none)]
  | false => none
 | .ios _, .one (.sc (.sl o off len _ es)) => match Nat.beq es 1, Nat.beq off 0, st.look o with
  | true, true, some ob => match Nat.beq len (E2 ob.segs) with
   | true => some [(o, none)]
   | false => none
  | _, _, _ => none
 | .ios _, _ => none
 | _, _ => some []
def a97 (st : St) : List Kd → List TV → Option (List (Nat × Option (Nat × Nat)))
 | k :: ks, v :: vs => match k.ioAt st v, a97 st ks vs with
  | some x, some y => match x with
   | [] => some y
   | x :: _ => match y.all fun p => !Nat.beq p.1 x.1 with
    | true => some (x :: y)
    | false => none
  | _, _ => none
 | _, _ => some []
def St.killAll (st : St) : List (Nat × Option (Nat × Nat)) → St
 | [] => st
 | p :: r => (st.kill p.1).killAll r
def b40 : List Seg → List Seg → Option (Nat × Nat × List Seg)
 | [.xs _ n _], [.xs k m zs] => some (m, n, [.xs k n zs])
 | _, _ => none
def u2 (st0 st : St) : List (Nat × Option (Nat × Nat)) → List AV → T St
 | [], [] => .ret st
 | (o, pl) :: r, .agg l :: vs => match st0.look o with
  | some ob => match pl with
   | none => match b40 ob.segs l with
    | some (m, n, l') => .ite (m = n) inferInstance (u2 st0 (st.upd o ob.own l') r vs) .fail
    | none => u2 st0 (st.upd o ob.own l) r vs
   | some (b, n) => match Nat.beq (E2 l) n with
    | true => (a2m ob.segs b none n l).bind fun l' => u2 st0 (st.upd o ob.own l') r vs
    | false => .fail
  | none => .fail
 | _, _ => .fail
def b1o {α : Type} (l : List α) (n : Nat) : List α := match n with
 | 0 => l
 | n => l.take (l.length - n)
def b2r {α : Type} (l : List α) (n : Nat) : List α := match n with
 | 0 => []
 | n => l.drop (l.length - n)
def b4c (st : St) (nm : Nat) (dst : Option Tmp) (args : List TV) (s : Sig) : T St :=
 match a97 st s.args args with
 | some ios => match F3 st (st.killAll ios) s.args args with
  | some x => .opt (s.g x) fun r => match (st.killAll ios).newAll nm (Q6 nm s.res r).2 with
   | some st' => (u2 st st' ios (b2r (Q6 nm s.res r).1 ios.length)).bind fun st2 => .ret (st2.put dst (b8H (b1o (Q6 nm s.res r).1 ios.length)))
   | none => .fail
  | none => .fail
 | none => .fail
def a8x (st : St) (nm : Nat) (dst : Option Tmp) (args : List TV) (s : XSig) : T (Int ⊕ St) :=
 match s.args.any Kd.isIo with
 | true => .fail
 | false => match F3 st st s.args args with
  | some x => .opt (s.g x) fun o => .ite (o.1 = true) inferInstance (.ret (.inl o.2.1)) (match st.newAll nm (Q6 nm s.res o.2.2).2 with
    | some st' => .ret (.inr (st'.put dst (b8H (Q6 nm s.res o.2.2).1)))
    | none => .fail)
  | none => .fail
def b0O : List Kd → List TV → Bool
 | [], _ => true
 | _ :: _, [] => true
 | k :: ks, v :: vs => match k with
  | .fnc f => match v with
   | .one (.sc (.fn g)) => match Nat.beq f g with
    | true => b0O ks vs
    | false => false
   | _ => false
  | .fcl f _ => match v with
   | .one (.sc (.clo g _ _)) => match Nat.beq f g with
    | true => b0O ks vs
    | false => false
   | _ => false
  | _ => b0O ks vs
def a2T (st : St) (nm : Nat) (dst : Option Tmp) (args : List TV) : List Sig → T St
 | [] => .fail
 | s :: ss => match b0O s.args args with
  | true => b4c st nm dst args s
  | false => a2T st nm dst args ss
def Sig.io (s : Sig) : Bool := s.args.any Kd.isIo
def lenOf : TV → Option Nat
 | .one (.sc (.vec _ len _)) => some len
 | .one (.sc (.sl _ _ len _ _)) => some len
 | _ => none
def b6g (E : AE) (st : St) (nm : Nat) (dst : Option Tmp) (f : FuncId) (args : List TV) : T St := match E.rt f with
 | none => a2T st nm dst args (E.fn f)
 | some (.short j m L) => match args[j]?, Nat.beq args.length L with
  | some v, true => match lenOf v with
   | some n => .ite (n < m) inferInstance (.ret (st.put dst v)) (a2T st nm dst args (E.fn f))
   | none => .fail
  | _, _ => .fail
 | some (.okay j i L) => match args[j]?, args[i]?, Nat.beq args.length L with
  | some (.one v), some (.one (.sc (.int .i64 n))), true => .ite (n = 0) inferInstance (.ret (st.put dst (.one v))) .fail
  | _, _, _ => .fail
def c1O : TV → Option (FuncId × List TV)
 | .one (.sc (.fn f)) => some (f, [])
 | .one (.sc (.clo f o b)) => some (f, [.one (.sc (.ptr o b none))])
 | _ => none
def a3d (st : St) (dst : Option Tmp) (f : FuncId) (first captured : List Operand) : T St :=
 match first, captured with
 | [], [] => .ret (st.putA dst (.fn f))
 | [], [x] => match st.get x with
  | .one (.sc (.ptr ob b none)) => .ret (st.putA dst (.clo f ob b))
  | _ => .fail
 | [], [x, y] => match st.get x, st.get y with
  | .one (.sc (.ptr ob b none)), .one (.sc (.ptr ob2 b2 none)) => .ret (st.putA dst (.clq f ob b ob2 b2))
  | _, _ => .fail
 | _, _ => .fail
def b8Y (E : AE) (st : St) (dst : Option Tmp) (s t : TypeId) (x : TV) : T St :=
 match E.ty s, E.ty t, x with
 | some _, some { td := .int k, .. }, .one (.sc (.int _ n)) => .ret (st.putA dst (.int k (k.wrap n)))
 | some _, some { td := .str, .. }, .one (.sc (.str s)) => .ret (st.putA dst (.str s))
 | some { td := .sl e, .. }, some { td := .str, .. }, .one (.sc a) => match (E.ty e).map TyI.td with
  | some (.int .u8) => match x6 (.int .u8) st a with
   | some zs => .ret (st.putA dst (.str (strOfNums zs)))
   | none => .fail
  | _ => .fail
 | some { td := .sl e, .. }, some { td := .sl _, .. }, .one (.sc (.vec o len es)) => match Nat.beq s t, (E.ty e).map TyI.td with
  | true, some (.int .u8) => match st.look o with
   | some { own := .own, .. } => .ite (0 < len) inferInstance (.ret (st.putA dst (.vec o len es))) .fail
   | _ => .fail
  | _, _ => .fail
 | _, _, _ => .fail
def b1n (E : AE) (st : St) (dst : Option Tmp) (t : TypeId) (x : TV) : T St :=
 match E.ty t, x with
 | some { td := .arr (n + 1) e, .. }, .one (.sc (.vec o len es)) => match E.ty e with
  | some te => match Nat.beq es te.size with
   | true => .ite (n + 1 ≤ len) inferInstance (.ret (st.putA dst (.ptr o 0 (some 0)))) .fail
   | false => .fail
  | none => .fail
 | some { td := .arr (n + 1) e, .. }, .one (.sc (.sl o off len _ es)) => match E.ty e with
  | some te => match Nat.beq es te.size with
   | true => .ite (n + 1 ≤ len) inferInstance (.ret (st.putA dst (.ptr o 0 (some off)))) .fail
   | false => .fail
  | none => .fail
 | _, _ => .fail
def a8i (E : AE) (st : St) (dst : Option Tmp) (t : TypeId) (x : TV) : T St :=
 match E.ty t, x with
 | some { td := .int _, .. }, .one (.sc (.int k n)) => .ret (st.putA dst (.ifi t k n))
 | some { td := .st _, .. }, .one (.agg [.one (.int k n)]) => .ret (st.putA dst (.ifg t k n))
 | some { td := .st _, .. }, .one (.agg [.xs (.int k) 1 zs]) => .ret (st.putA dst (.ifg t k (zs.getD 0 0)))
 | some { td := .st _, .. }, .one (.agg [.one (.ptr o b none)]) => .ret (st.putA dst (.ifp t o b))
 | some { td := .st _, .. }, .one (.agg [.one (.ptr o b none), .xs (.int k) 1 zs]) => .ret (st.putA dst (.ifq t o b k (zs.getD 0 0)))
 | _, _ => .fail
def TD.told : TD → Bool
 | .other => false
 | _ => true
def b8L (E : AE) (st : St) (dst : Option Tmp) (target : TypeId) (ok : Bool) (x : TV) : T St :=
 match E.ty target, c0S x with
 | some ti, some (t, v) => match ti.td.told, Nat.beq t target, ok with
  | true, true, true => .ret (st.put dst (.tup [v, .sc (.known true)]))
  | true, true, false => .ret (st.put dst (.one v))
  | true, false, true => .ret (st.put dst (.tup [match ti.td.agg with
   | true => .agg ti.zero
   | false => .any, .sc (.known false)]))
  | _, _, _ => .fail
 | _, _ => .fail
def b8M (E : AE) (st : St) (dst : Option Tmp) (target : TypeId) (ok : Bool) (x : TV) : T St :=
 match c0S x, c1H x with
 | some (t, _), some a => match E.imp t target, ok with
  | true, true => .ret (st.put dst (.tup [.sc a, .sc (.known true)]))
  | true, false => .ret (st.put dst (.one (.sc a)))
  | false, _ => b8L E st dst target ok x
 | _, _ => .fail
def b1s (E : AE) (t : TypeId) (f : Nat) : Option (Nat × TypeId) :=
 match E.ty t with
 | some { td := .st fs, .. } => fs[f]?
 | _ => none
def j8 (E : AE) (nm : Nat) (o : Oper) (st : St) : T St :=
 match o.op with
 | .move x | .assign x => .ret (st.put o.dst (st.get x))
 | .pick c a b => match st.get c with
  | .one (.sc (.known true)) => .ret (st.put o.dst (st.get a))
  | .one (.sc (.known false)) => .ret (st.put o.dst (st.get b))
  | .one (.sc (.bool p d)) => .ite p d (.ret (st.put o.dst (st.get a))) (.ret (st.put o.dst (st.get b)))
  | _ => .fail
 | .alloc t => match E.ty t with
  | some ti => newPtr st nm o.dst ti.zero
  | none => .fail
 | .box _ x => match b8k (st.get x) with
  | some l => newPtr st nm o.dst l
  | none => .fail
 | .build t parts => match E.ty t with
  | some { td := .arr _ e, zero, .. } => match E.ty e with
   | some te => (C4 E (fun j => some (j * te.size, e)) zero (parts.toList.map fun p => (p.1, st.get p.2))).bind fun l => .ret (st.put o.dst (.one (.agg l)))
   | none => .fail
  | some { td := .st fs, zero, .. } => match fs.all fun p => (E.ty p.2).isSome with
   | false => .fail
   | true => (C4 E (fun j => fs[j]?) zero (parts.toList.map fun p => (p.1, st.get p.2))).bind fun l => .ret (st.put o.dst (.one (.agg l)))
  | _ => .fail
 | .buildSlice t n parts => match E.ty t with
  | some { td := .sl e, .. } => match E.ty e with
   | some te => match Nat.ble (n * te.size) 16777216, c1A n te.zero with
    | true, some z => (C4 E (fun j => some (j * te.size, e)) z (parts.toList.map fun p => (p.1, st.get p.2))).bind fun l => newVec st nm o.dst l n te.size
    | _, _ => .fail
   | none => .fail
  | _ => .fail
 | .load t p => match st.get p with
  | .one (.sc (.ptr ob b i)) => (a4R E st t ob b i).bind fun a => .ret (st.put o.dst (.one a))
  | .one (.sc (.fp d j)) => match (E.ty t).map fun ti => ti.td.agg with
   | some false => .ret (st.putA o.dst (d.cell j))
   | _ => .fail
  | _ => .fail
 | .store t p x => match st.get p with
  | .one (.sc (.ptr ob b i)) => (a59 E st t ob b i (st.get x)).bind fun st' => .ret (st'.put o.dst (.one .any))
  | _ => .fail
 | .nilCheck p => match st.get p with
  | .one (.sc (.ptr ob b i)) => .ret (st.putA o.dst (.ptr ob b i))
  | _ => .fail
 | .binOp op t x y _ => c1J E st o.dst op t x y
 | .unOp op _ x => match op, st.get x with
  | .neg, .one (.sc (.int k n)) => .ret (st.putA o.dst (.int k (k.wrap (0 - n))))
  | .xor, .one (.sc (.int k n)) => .ret (st.putA o.dst (.int k (c1Q k (if k.signed then -1 else k.max) n)))
  | .not, .one (.sc a) => match c2m a with
   | some r => .ret (st.putA o.dst r)
   | none => .fail
  | _, _ => .fail
 | .convert s t x => b8Y E st o.dst s t (st.get x)
 | .sliceToArrayPointer t x => b1n E st o.dst t (st.get x)
 | .makeInterface t x => a8i E st o.dst t (st.get x)
 | .typeAssert x _ t ok => b8M E st o.dst t ok (st.get x)
 | .makeSlice t l c => match c1D l c with
  | true => b9k E st nm o.dst t (st.get l) (st.get c)
  | false => b5L E st nm o.dst t (st.get l) (st.get c)
 | .slice t x lo hi none => b1f E st o.dst t (st.get x) lo hi
 | .fieldAddr t x f => match st.get x, b1s E t f with
  | .one (.sc (.ptr ob b i)), some (off, ft) => match E.ty ft with
   | some { size, .. } => match Nat.beq size 0 with
    | false => .ret (st.putA o.dst (.ptr ob (b + off) i))
    | true => .fail
   | none => .fail
  | _, _ => .fail
 | .field t x f => match st.get x, b1s E t f with
  | .one (.agg l), some (off, ft) => match E.ty ft with
   | some ti => (b6B ti l off none).bind fun a => .ret (st.put o.dst (.one a))
   | none => .fail
  | _, _ => .fail
 | .indexAddr t x ix => a3N E st o.dst t (st.get x) ix
 | .index t x ix => b5H E st o.dst t (st.get x) ix
 | .extract x j => match st.get x with
  | .tup l => match l[j]? with
   | some a => .ret (st.put o.dst (.one a))
   | none => .fail
  | _ => .fail
 | .call { callee := .value (.func f), args, .. } => b6g E st nm o.dst f (args.toList.map st.get)
 | .call { callee := .value (.tmp t), args, .. } => match c1O (st.get (.tmp t)) with
  | some (f, cap) => a2T st nm o.dst (args.toList.map st.get ++ cap) (E.fn f)
  | none => .fail
 | .makeFunc (.func f) first captured => a3d st o.dst f first.toList captured.toList
 | .call { callee := .builtin .len, args, argTypes } => match argTypes.toList, args.toList with
  | t :: _, x :: _ => match c2l E t (st.get x) with
   | some n => .ret (st.putA o.dst (.int .i64 n))
   | none => .fail
  | _, _ => .fail
 | .call { callee := .builtin .append, args, argTypes } => match argTypes.toList, args.toList with
  | [t, t2], [x, y] => b1m E st nm o.dst t t2 (st.get x) (st.get y)
  | _, _ => .fail
 | .call { callee := .builtin .copy, args, argTypes } => match argTypes.toList, args.toList with
  | t :: _, [x, y] => b80 E st o.dst t (st.get x) (st.get y)
  | _, _ => .fail
 | .call { callee := .builtin .max, args, .. } => match b24 true (args.toList.map st.get) with
  | some (k, n) => .ret (st.putA o.dst (.int k n))
  | none => .fail
 | .call { callee := .builtin .min, args, .. } => match b24 false (args.toList.map st.get) with
  | some (k, n) => .ret (st.putA o.dst (.int k n))
  | none => .fail
 | _ => .fail
end Go.Ax
namespace Go.Ax
open Go.RowKit
def slN : List FK → Nat
 | [] => 1
 | .sl _ :: r => slN r + 1
 | .fs _ :: r => slN r
 | _ :: r => slN r
def b25 : List Kd → Nat
 | [] => 0
 | .cat l :: r => slN l + b25 r
 | _ :: r => 1 + b25 r
def b6x (E : AE) (o : Oper) : Nat :=
 match o.op with
 | .alloc _ | .box _ _ | .buildSlice _ _ _ | .makeSlice _ _ _ | .convert _ _ _ | .range _ _ | .call { callee := .builtin .append, .. } => 1
 | .call { callee := .value (.func f), .. } => match E.fn f with
  | s :: _ => b25 s.res
  | [] => 0
 | .call { callee := .value (.tmp _), .. } => 1
 | _ => 0
abbrev PC := List (Nat × Bool)
def PC.look (pc : PC) (d : Nat) : Option Bool := match pc with
 | [] => none
 | (e, b) :: r => match Nat.beq e d with
  | true => some b
  | false => PC.look r d
def PC.forget (pc : PC) (dst : Option Tmp) : PC := match dst with
 | none => pc
 | some d => match pc with
  | [] => []
  | (e, b) :: r => match Nat.beq e d with
   | true => PC.forget r (some d)
   | false => (e, b) :: PC.forget r (some d)
def b35 {α : Type} (E : AE) (nm : Nat) (pc : PC) (o : Oper) (st : St) (K : St → T α) : T α :=
 match o.op with
 | .pick (.tmp c) a b => match PC.look pc c with
  | some true => K (st.put o.dst (st.get a))
  | some false => K (st.put o.dst (st.get b))
  | none => (j8 E nm o st).bind K
 | _ => (j8 E nm o st).bind K
def opK {α : Type} (E : AE) (ops : Array Oper) (nm : Nat) (pc : PC) (o : Oper) (st : St) (K : PC → St → T α) : T α :=
 match o.guard with
 | none => b35 E nm pc o st (K (pc.forget o.dst))
 | some (j, want) => match (ops[j]?).bind (·.dst) with
  | none => .fail
  | some d => match PC.look pc d with
   | some b => match b == want with
    | true => b35 E nm pc o st (K (pc.forget o.dst))
    | false => K (pc.forget o.dst) (st.put o.dst (.tup []))
   | none => match st.tmps[d]? with
    | some (.tup []) => K (pc.forget o.dst) (st.put o.dst (.tup []))
    | some (.one (.sc (.known b))) => match b == want with
     | true => b35 E nm ((d, want) :: pc) o st (K (PC.forget ((d, want) :: pc) o.dst))
     | false => K (PC.forget ((d, !want) :: pc) o.dst) (st.put o.dst (.tup []))
    | some (.one (.sc (.bool p i))) => match want with
     | true => .ite p i (b35 E nm ((d, true) :: pc) o st (K (PC.forget ((d, true) :: pc) o.dst))) (K (PC.forget ((d, false) :: pc) o.dst) (st.put o.dst (.tup [])))
     | false => .ite p i (K (PC.forget ((d, true) :: pc) o.dst) (st.put o.dst (.tup []))) (b35 E nm ((d, false) :: pc) o st (K (PC.forget ((d, false) :: pc) o.dst)))
    | _ => .fail
def a4S : Op → Option Operand
 | .load _ p => some p
 | .store _ p _ => some p
 | .slice _ p _ _ none => some p
 | _ => none
def a4m (ft : Option Nat) (o : Oper) (st : St) : Bool := match ft with
 | none => true
 | some n => match o.guard, a4S o.op with
  | none, some p => match st.get p with
   | .one (.sc (.ptr ob _ _)) => Nat.beq ob n
   | _ => false
  | _, _ => false
def c1s (E : AE) (ops : Array Oper) (fts : List (Option Nat)) : List Oper → Nat → Nat → PC → St → T St
 | [], _, _, _, st => .ret st
 | o :: r, k, nm, pc, st => match a4m (fts.getD k none) o st with
  | true => opK E ops nm pc o st fun pc' st' => c1s E ops fts r (k + 1) (nm + b6x E o) pc' st'
  | false => .fail
def b39 (E : AE) (o : Oper) : Option (XSig × List Operand) := match o.guard with
 | none => match o.op with
  | .call { callee := .value (.func f), args, .. } => match E.xn f with
   | some s => some (s, args.toList)
   | none => none
  | _ => none
 | some _ => none
def b9q (o : Oper) (st : St) : Option (Py × Int) := match o.guard with
 | none => match o.op with
  | .panic x => match st.get x with
   | .one (.sc (.ifi t k n)) => some (.ifi t k, n)
   | .one (.sc (.ifg t k n)) => some (.ifg t k, n)
   | _ => none
  | _ => none
 | some _ => none
structure Pn where
 py : Py
 n : Int
 st : St
def c0y (E : AE) (ops : Array Oper) : List Oper → Nat → Nat → PC → St → T (Pn ⊕ St)
 | [], _, _, _, st => .ret (.inr st)
 | o :: r, k, nm, pc, st => match b39 E o with
  | some (s, args) => match b0O s.args (args.map st.get) with
   | true => (a8x st nm o.dst (args.map st.get) s).bind fun x => match x with
    | .inl n => .ret (.inl ⟨s.py, n, st⟩)
    | .inr st' => c0y E ops r (k + 1) (nm + b6x E o) (pc.forget o.dst) st'
   | false => .fail
  | none => match b9q o st with
   | some (py, n) => .ret (.inl ⟨py, n, st⟩)
   | none => opK E ops nm pc o st fun pc' st' => c0y E ops r (k + 1) (nm + b6x E o) pc' st'
def u1 (E : AE) : List Oper → Nat
 | [] => 0
 | o :: r => b6x E o + u1 E r
def St.more (st : St) (n : Nat) : St := { st with mem := st.mem ++ List.replicate n .free }
def a9G (E : AE) (ops : Array Oper) (fts : List (Option Nat)) (st : St) : T St := c1s E ops fts ops.toList 0 st.mem.length [] (st.more (u1 E ops.toList))
def b8b (E : AE) (ops : Array Oper) (st : St) : T (Pn ⊕ St) := c0y E ops ops.toList 0 st.mem.length [] (st.more (u1 E ops.toList))
def c12 (E : AE) (o : Oper) : Bool := match o.op with
 | .range _ _ => true
 | .next _ _ => true
 | .call { callee := .value (.func f), .. } => (E.inl f).isSome
 | .call { callee := .invoke _ _, .. } => true
 | _ => false
def spT (E : AE) (nm : Nat) (o : Oper) (st : St) : Option St := match o.op with
 | .range t x => match (E.ty t).map TyI.td, st.get x, st.mem[nm]? with
  | some .str, .one (.sc (.str s)), some .free => some ({ st with mem := st.mem.set nm (.it s 0) }.putA o.dst (.ptr nm 0 none))
  | _, _, _ => none
 | .next x true => match st.get x with
  | .one (.sc (.ptr ob 0 none)) => match st.mem[ob]? with
   | some (.it s p) => match decide (p < s.size) with
    | true => some ({ st with mem := st.mem.set ob (.it s (p + (Utf8.decode s p).2)) }.put o.dst (.tup [.sc (.known true), .sc (.int .i64 (p : Nat)), .sc (.int .i32 ((Utf8.decode s p).1 : Nat))]))
    | false => some (st.put o.dst (.tup [.sc (.known false)]))
   | _ => none
  | _ => none
 | _ => none
def a4O (E : AE) (o : Oper) (st : St) : Option (Inl × List TV) := match o.op with
 | .call { callee := .value (.func f), args, .. } => (E.inl f).map fun J => (J, args.toList.map st.get)
 | .call { callee := .invoke r name, args, .. } => match c0S (st.get r) with
  | some (t, v) => match E.mth t name with
   | some f => (E.inl f).map fun J => (J, .one v :: args.toList.map st.get)
   | none => none
  | none => none
 | _ => none
def opX (E : AE) (ops : Array Oper) (nm : Nat) (pc : PC) (o : Oper) (st : St) : T (Pn ⊕ (PC × St)) := match b39 E o with
 | some (s, args) => match b0O s.args (args.map st.get) with
  | true => (a8x st nm o.dst (args.map st.get) s).bind fun x => match x with
   | .inl n => .ret (.inl ⟨s.py, n, st⟩)
   | .inr st' => .ret (.inr (pc.forget o.dst, st'))
  | false => .fail
 | none => match b9q o st with
  | some (py, n) => .ret (.inl ⟨py, n, st⟩)
  | none => opK E ops nm pc o st fun pc' st' => .ret (.inr (pc', st'))
def b8F (E : AE) (ops : Array Oper) {β : Type} : List Oper → Nat → PC → St → (Pn ⊕ St → Option β) → Option β
 | [], _, _, st, K => K (.inr st)
 | o :: r, nm, pc, st, K => match o.guard.isNone && c12 E o with
  | true => match spT E nm o st with
   | some st' => b8F E ops r (nm + b6x E o) (pc.forget o.dst) st' K
   | none => match a4O E o st with
    | some (J, args) => J.run β args st.mem fun x => match x with
     | .ret l mem => b8F E ops r (nm + b6x E o) (pc.forget o.dst) (St.put { st with mem := mem } o.dst (b8H l)) K
     | .pan p n mem => K (.inl ⟨p, n, { st with mem := mem }⟩)
    | none => none
  | false => (opX E ops nm pc o st).run fun x => match x with
   | .inl p => K (.inl p)
   | .inr y => b8F E ops r (nm + b6x E o) y.1 y.2 K
def Pn.out (p : Pn) (_ : List Oper) : St := p.st
def a2H : Op → Bool
 | .store _ _ _ => true
 | .call { callee := .builtin .append, .. } => true
 | .call { callee := .builtin .copy, .. } => true
 | _ => false
def a2F (E : AE) : Op → Bool
 | .convert s _ _ => match E.ty s with
  | some { td := .sl _, .. } => false
  | some _ => true
  | none => false
 | .slice t _ _ _ none => match E.ty t with
  | some { td := .sl _, .. } => true
  | some { td := .str, .. } => true
  | _ => false
 | .move _ | .assign _ | .pick _ _ _ | .nilCheck _ | .binOp _ _ _ _ _ | .unOp _ _ _ | .indexAddr _ _ _ | .index _ _ _ | .fieldAddr _ _ _ | .field _ _ _ | .extract _ _ | .makeFunc (.func _) _ _ | .sliceToArrayPointer _ _ | .makeInterface _ _ | .typeAssert _ _ _ _ => true
 | _ => false
def a3I : Option Nat → Option Nat → Bool
 | some a, some b => !Nat.beq a b
 | _, _ => false
def b4m (E : AE) (fts : List (Option Nat)) (ops : Array Oper) (j : Nat) (x : Oper) (i : Nat) (y : Oper) : Bool :=
 x.apart ops y && ((!a2H x.op && !a2H y.op) || a2F E x.op || a2F E y.op || a3I (fts.getD j none) (fts.getD i none))
def A1.name? : A1 → Option Nat
 | .ptr o _ _ | .vec o _ _ | .sl o _ _ _ _ | .clo _ o _ | .ifp _ o _ | .ifq _ o _ _ _ => some o
 | _ => none
def b52 (t : Nat) : List Oper → Option Oper
 | [] => none
 | o :: r => match o.dst with
  | some d => match Nat.beq d t with
   | true => some o
   | false => b52 t r
  | none => b52 t r
def a9I (ops : List Oper) (st : St) : Nat → Operand → Option Nat
 | 0, _ => none
 | n + 1, .tmp t => match b52 t ops with
  | none => match st.tmps.getD t (.one .any) with
   | .one (.sc a) => a.name?
   | _ => none
  | some o => match o.op with
   | .indexAddr _ b _ => a9I ops st n b
   | .fieldAddr _ b _ => a9I ops st n b
   | .nilCheck b => a9I ops st n b
   | .move b => a9I ops st n b
   | .sliceToArrayPointer _ b => a9I ops st n b
   | .slice _ b _ _ none => a9I ops st n b
   | _ => none
 | _, _ => none
def c0z (ops : List Oper) (st : St) : Operand → Bool
 | .tmp t => match b52 t ops with
  | none => match st.tmps.getD t (.one .any) with
   | .one (.sc (.ptr _ _ _)) => true
   | _ => false
  | some o => match o.op with
   | .indexAddr _ _ _ | .fieldAddr _ _ _ | .nilCheck _ | .sliceToArrayPointer _ _ => true
   | _ => false
 | _ => false
def c1n : Op → Bool
 | .slice _ _ _ _ _ => true
 | _ => false
def b4g (ops : List Oper) (st : St) : List Oper → List (Option Nat)
 | [] => []
 | o :: r => (match o.guard, a4S o.op with
  | none, some p => match c1n o.op && !c0z ops st p with
   | true => none
   | false => a9I ops st 8 p
  | _, _ => none) :: b4g ops st r
def b23 (ms : List Nat) (o : Oper) : Nat := o.after.toList.foldl (fun s e => if Region.binds .any e then s ||| 2 ^ e.on ||| ms.getD e.on 0 else s) 0
def a0x (E : AE) (fts : List (Option Nat)) (ops : Array Oper) : List Oper → List Oper → List Nat → Bool
 | [], _, _ => true
 | o :: r, pre, ms =>
  let m := b23 ms o
  o.after.all (fun e => !Region.binds .any e || Nat.blt e.on pre.length) &&
  ((List.range pre.length).zip pre).all (fun p => m.testBit p.1 || b4m E fts ops p.1 p.2 pre.length o) &&
  a0x E fts ops r (pre ++ [o]) (ms ++ [m])
def a8r (acc : List Nat) : Option Nat → List Nat
 | none => acc
 | some o => match acc.contains o with
  | true => acc
  | false => acc ++ [o]
def a3V : List Seg → List Nat → List Nat
 | [], acc => acc
 | .xs _ _ _ :: r, acc => a3V r acc
 | .one a :: r, acc => a3V r (a8r acc a.name?)
 | .rw _ _ :: r, acc => a3V r acc
def AV.names : AV → List Nat → List Nat
 | .any, acc => acc
 | .sc a, acc => a8r acc a.name?
 | .agg l, acc => a3V l acc
def b4b : List AV → List Nat → List Nat
 | [], acc => acc
 | a :: r, acc => b4b r (a.names acc)
def TV.names : TV → List Nat → List Nat
 | .one a, acc => a.names acc
 | .tup l, acc => b4b l acc
def a80 (st : St) : List Nat → List Nat → List Nat
 | [], acc => acc
 | t :: r, acc => a80 st r ((st.tmps.getD t (.one .any)).names acc)
def a1A (st : St) : List Nat → List Nat → List Nat
 | [], acc => acc
 | o :: r, acc => a1A st r (match st.look o with
  | some b => a3V b.segs acc
  | none => acc)
def place (o : Nat) : List Nat → Nat → Option Nat
 | [], _ => none
 | x :: r, j => match Nat.beq x o with
  | true => some j
  | false => place o r (j + 1)
def A1.ren (ns : List Nat) (cv : Bool) : A1 → A1
 | .bool p d => match cv with
  | true => .known (@decide p d)
  | false => .bool p d
 | .ptr o b i => match place o ns 0 with
  | some j => .ptr j b i
  | none => .top
 | .vec o n e => match place o ns 0 with
  | some j => .vec j n e
  | none => .top
 | .sl o f n c e => match place o ns 0 with
  | some j => .sl j f n c e
  | none => .top
 | .clo f o b => match place o ns 0 with
  | some j => .clo f j b
  | none => .top
 | .clq _ _ _ _ _ => .top
 | .ifp t o b => match place o ns 0 with
  | some j => .ifp t j b
  | none => .top
 | .ifq t o b k n => match place o ns 0 with
  | some j => .ifq t j b k n
  | none => .top
 | a => a
def a7t (ns : List Nat) (cv : Bool) : List Seg → List Seg
 | [] => []
 | .xs k n zs :: r => .xs k n zs :: a7t ns cv r
 | .one a :: r => .one (a.ren ns cv) :: a7t ns cv r
 | .rw k l :: r => .rw k l :: a7t ns cv r
def AV.ren (ns : List Nat) (cv : Bool) : AV → AV
 | .any => .any
 | .sc a => .sc (a.ren ns cv)
 | .agg l => .agg (a7t ns cv l)
def c0i (ns : List Nat) (cv : Bool) : List AV → List AV
 | [] => []
 | a :: r => a.ren ns cv :: c0i ns cv r
def TV.ren (ns : List Nat) (cv : Bool) : TV → TV
 | .one a => .one (a.ren ns cv)
 | .tup l => .tup (c0i ns cv l)
def S1 (ns live : List Nat) (cv : Bool) : List TV → Nat → List TV
 | [], _ => []
 | v :: r, i => (match live.contains i with
  | true => v.ren ns cv
  | false => .one .any) :: S1 ns live cv r (i + 1)
def a27 (st : St) (ns : List Nat) (cv : Bool) : List Nat → List Slot
 | [] => []
 | o :: r => (match st.look o with
  | some b => .live { b with segs := a7t ns cv b.segs }
  | none => .dead) :: a27 st ns cv r
def a3e : List Slot → Nat → List Nat
 | [], _ => []
 | .live { own := .mt _, .. } :: r, j => j :: a3e r (j + 1)
 | _ :: r, j => a3e r (j + 1)
def b4a : List A1 → List Nat → List Nat
 | [], acc => acc
 | a :: r, acc => b4a r (a8r acc a.name?)
def b1r : List (FuncId × List A1) → List Nat → List Nat
 | [], acc => acc
 | p :: r, acc => b1r r (b4a p.2 acc)
def b5B (ns : List Nat) (cv : Bool) : List (FuncId × List A1) → List (FuncId × List A1)
 | [] => []
 | p :: r => (p.1, p.2.map (A1.ren ns cv)) :: b5B ns cv r
def c16 (live : List Nat) (st : St) : St :=
 let n0 := a80 st live (b1r st.dfr (a3e st.mem 0))
 let n1 := a1A st n0 n0
 let ns := a1A st n1 n1
 { tmps := S1 ns live (live.contains 999999) st.tmps 0, mem := a27 st ns (live.contains 999999) ns, dfr := b5B ns (live.contains 999999) st.dfr }
def AE.flat (E : AE) : AE := { ty := E.ty, fn := fun f => (E.fn f).filter fun s => !s.io, eqs := E.eqs, lits := E.lits, rt := E.rt, ifc := E.ifc, imp := E.imp }
class Flat (E : AE) : Prop where
 no : ∀ f, ∀ s ∈ E.fn f, s.io = false
instance (E : AE) : Flat E.flat := ⟨fun f s hs => by
 have := (List.mem_filter.1 hs).2
 simpa using this⟩
inductive Ex where
 | normal
 | exit (id : Nat)
 | ret
 | pan (p : Py) (n : Int)
def l9 : Code → Option Nat
 | .region id _ _ => some id
 | .seq a b => match l9 a with
  | some i => some i
  | none => l9 b
 | .block _ c => l9 c
 | .loop c => l9 c
 | .scope c => l9 c
 | .cond _ a _ => l9 a
 | _ => none
abbrev Hints := List (Nat × List Nat)
def Hints.look (h : Hints) (k : Nat) : Option (List Nat) := match h with
 | [] => none
 | (e, b) :: r => match Nat.beq e k with
  | true => some b
  | false => Hints.look r k
def b01 : Nat → List Seg
 | 0 => [.rw (.int .u8) []]
 | 1 => [.xs (.int .u8) 0 []]
 | 2 => [.xs .bool 0 []]
 | 3 => [.xs (.int .i64) 0 []]
 | 4 => [.xs (.int .u64) 0 []]
 | _ => []
def c14 (t c : Nat) (st : St) : St := match st.tmps[t]? with
 | some (.one (.sc .nilsl)) => { st with tmps := st.tmps.set t (.one (.sc (.vec st.mem.length 0 1))), mem := st.mem ++ [.live { segs := b01 c, own := .own }] }
 | _ => st
def c15 : List Nat → St → St
 | t :: c :: r, st => c15 r (c14 t c st)
 | _, st => st
def pre (H : Hints) (k : Nat) (st : St) : St := match H.look k with
 | some l => match H.look (7000000 + k) with
  | some z => c16 l (c15 z st)
  | none => c16 l st
 | none => st
def b9b (H : Hints) (c : Code) (st : St) : St := match l9 c with
 | some k => pre H k st
 | none => st
def c0j : TV → TV
 | .one (.sc (.known b)) => .one (.sc (.bool (b = true) inferInstance))
 | v => v
def St.conv (st : St) : St := { st with tmps := st.tmps.map c0j }
def a5r {β : Type} (body : St → (Ex → St → Option β) → Option β) (hd : St → St) : Nat → St → (Ex → St → Option β) → Option β
 | 0, _, _ => none
 | n + 1, st, K => body (hd st) fun e st' => match e with
  | .normal => a5r body hd n st' K
  | e => K e st'
noncomputable def c1K {β : Type} (a b : Option β) : Option β := @_root_.ite _ (a = b) (Classical.propDecidable _) a none
theorem a5f {β : Type} {a b : Option β} {r : β} : c1K a b = some r ↔ a = some r ∧ b = some r := by
 unfold c1K
 split
 ·rename_i h; subst h; simp
 ·rename_i h
  constructor
  ·intro h; cases h
  ·rintro ⟨rfl, rfl⟩; exact absurd rfl h
noncomputable def b6k {β : Type} (t : Nat) (st : St) (x y : St → Option β) : Option β := match st.tmps[t]? with
 | some (.one (.sc (.known true))) => x st
 | some (.one (.sc (.known false))) => y st
 | some (.one (.sc (.bool p d))) => @_root_.ite _ p d (x (st.put (some t) (.one (.sc (.known true))))) (y (st.put (some t) (.one (.sc (.known false)))))
 | some (.one (.sc .ub)) => c1K (x (st.put (some t) (.one (.sc (.known true))))) (y (st.put (some t) (.one (.sc (.known false)))))
 | _ => none
def b6j {β : Type} (t : Nat) (st : St) (x y : St → Option β) : Option β := match st.tmps[t]? with
 | some (.one (.sc (.known true))) => x st
 | some (.one (.sc (.known false))) => y st
 | some (.one (.sc (.bool p d))) => match @decide p d with
  | true => x (st.put (some t) (.one (.sc (.known true))))
  | false => y (st.put (some t) (.one (.sc (.known false))))
 | _ => none
def b9G (E : AE) (c : Code) : Option Nat := match l9 c with
 | some k => E.unr k
 | none => none
def b4q {β : Type} (H : Hints) (k : Nat) (K : Ex → St → Option β) : Ex → St → Option β
 | .normal, st => K .normal (pre H k st)
 | e, st => K e st
def b81 (st : St) (o : Oper) : Option St := match o.guard, o.op with
 | none, .defer { callee := .value (.func f), args, .. } => match args.toList with
  | [x] => match st.get x with
   | .one (.sc a) => some ({ st with dfr := (f, [a]) :: st.dfr }.put o.dst (.one .any))
   | _ => none
  | _ => none
 | none, .defer { callee := .value (.tmp t), args, .. } => match args.toList, st.get (.tmp t) with
  | [], .one (.sc (.clq f ob b ob2 b2)) => some ({ st with dfr := (f, [.ptr ob b none, .ptr ob2 b2 none]) :: st.dfr }.put o.dst (.one .any))
  | _, _ => none
 | _, _ => none
def c0k (st : St) (ops : Array Oper) : Option St := match ops.toList with
 | [o] => b81 st o
 | [m, o] => match m.guard, m.op with
  | none, .makeFunc (.func f) first captured => match (a3d st m.dst f first.toList captured.toList).val with
   | some st' => b81 st' o
   | none => none
  | _, _ => none
 | _ => none
def b9W {β : Type} (H : Hints) (ops : Array Oper) (K : Ex → St → Option β) : Pn ⊕ St → Option β
 | .inl p => K (.pan p.py p.n) (pre H 5000000 (p.out ops.toList))
 | .inr st => K .normal st
def xAt (E : AE) : List Oper → Nat → Option (Nat × Oper × XSig × List Operand)
 | [], _ => none
 | o :: r, k => match b39 E o with
  | some (s, args) => some (k, o, s, args)
  | none => xAt E r (k + 1)
def anc : List Oper → List Nat → List Nat
 | [], ms => ms
 | o :: r, ms => anc r (ms ++ [b23 ms o])
def a4o (ms : List Nat) (p j : Nat) : Bool := !Nat.beq j p && !(ms.getD j 0).testBit p
def a2V (o : Oper) (f : Nat → Bool) : Bool := o.after.all fun e => !Region.binds .any e || f e.on
def b5I (keep : Nat → Bool) (p : Nat) : List Oper → Nat → Bool
 | [], _ => true
 | o :: r, j => (match keep j with
  | true => !a2H o.op && a2V o keep && !Nat.beq j p
  | false => match Nat.beq j p with
   | true => a2V o keep
   | false => !a2V o keep) && b5I keep p r (j + 1)
def c0W (E : AE) (ops : Array Oper) (keep : Nat → Bool) : List Oper → Nat → Nat → PC → St → T St
 | [], _, _, _, st => .ret st
 | o :: r, k, nm, pc, st => match keep k with
  | true => opK E ops nm pc o st fun pc' st' => c0W E ops keep r (k + 1) (nm + b6x E o) pc' st'
  | false => c0W E ops keep r (k + 1) (nm + b6x E o) pc st
def St.forgets (st : St) : List Oper → St
 | [] => st
 | o :: r => (st.put o.dst (.one .any)).forgets r
def Slot.still : Slot → Slot
 | .free => .dead
 | s => s
def St.halt (st : St) (ops : List Oper) (n : Nat) : St := { st.forgets ops with mem := (st.more n).mem.map Slot.still }
def a9F (E : AE) (ops : Array Oper) (fts : List (Option Nat)) (st : St) : T (Pn ⊕ St) := match xAt E ops.toList 0 with
 | some (p, o, s, args) => match b5I (a4o (anc ops.toList []) p) p ops.toList 0 with
  | true => (c0W E.flat ops (a4o (anc ops.toList []) p) ops.toList 0 st.mem.length [] (st.more (u1 E.flat ops.toList))).bind fun F => match b0O s.args (args.map F.get) with
   | true => (a8x F (st.mem.length + u1 E.flat (ops.toList.take p)) o.dst (args.map F.get) s).bind fun x => match x with
    | .inl n => .ret (.inl ⟨s.py, n, st.halt ops.toList (u1 E.flat ops.toList)⟩)
    | .inr _ => (a9G E.flat ops fts st).bind fun F => .ret (.inr F)
   | false => .fail
  | false => (a9G E.flat ops fts st).bind fun F => .ret (.inr F)
 | none => (a9G E.flat ops fts st).bind fun F => .ret (.inr F)
def b2Y (E : AE) : Op → Bool
 | .load _ _ => true
 | o => a2F E o
def c0F (a b : TV) : T Unit := match a, b with
 | .one (.sc (.ptr o x none)), .one (.sc (.ptr o' x' none)) => match Nat.beq o o', Nat.beq x x' with
  | true, true => .ret ()
  | _, _ => .fail
 | .one (.sc (.int k n)), .one (.sc (.int k' n')) => if k = k' then .ite (n = n') inferInstance (.ret ()) .fail else .fail
 | _, _ => .fail
def b0P (E : AE) (F : St) : List Oper → T Unit
 | [] => .ret ()
 | o :: r => match o.dst with
  | some d => (j8 E 0 o F).bind fun F' => (c0F (F'.tmps.getD d (.one .any)) (F.tmps.getD d (.one .any))).bind fun _ => b0P E F r
  | none => .fail
def b7N (E : AE) : List Oper → St → T St
 | [], st => .ret st
 | o :: r, st => (j8 E 0 o st).bind fun st' => b7N E r st'
def a2l (o : Oper) (i : Nat) : Bool := o.after.any fun e => Region.binds .any e && Nat.beq e.on i
def b4z (ops : Array Oper) (l : List Nat) : List Oper := l.filterMap fun i => ops[i]?
def a5h (E : AE) (ops : Array Oper) (us : List Nat) {β : Type} : List Nat → St → (Pn ⊕ St → Option β) → Option β
 | [], F, K => K (.inr F)
 | i :: r, F, K => match ops[i]? with
  | none => none
  | some o => match a4O E o F with
   | some (J, args) => J.run β args F.mem fun x => match x with
    | .ret l mem => (b0P E (St.put { F with mem := mem } o.dst (b8H l)) (b4z ops us)).run fun _ => a5h E ops us r (St.put { F with mem := mem } o.dst (b8H l)) K
    | .pan p n mem => K (.inl ⟨p, n, { F.forgets ops.toList with mem := mem }⟩)
   | none => match us.all (a2l o) with
    | true => (j8 E 0 o F).run fun F' => a5h E ops us r F' K
    | false => none
def c2k (E : AE) : List Oper → Nat → Option Nat
 | [], _ => none
 | o :: r, k => match c12 E o with
  | true => some k
  | false => c2k E r (k + 1)
def c2r (E : AE) (o : Oper) : Bool := match o.op with
 | .call { callee := .value (.func f), .. } => (E.inl f).isSome && (E.fn f).isEmpty
 | _ => false
def b1q (ops : Array Oper) : List Nat → Bool
 | i :: j :: r => (match ops[j]? with
  | some o => a2l o i
  | none => false) && b1q ops (j :: r)
 | _ => true
def c0r (d : Tmp) : Operand → Bool
 | .tmp t => Nat.beq d t
 | _ => false
def b7M (E : AE) (ops : Array Oper) (i : Nat) : Bool := match ops[i]? with
 | none => false
 | some u => b2Y E u.op && match u.dst with
  | none => false
  | some d => (List.range ops.size).all fun j => match ops[j]? with
   | none => true
   | some o => (Nat.beq i j || !(o.dst == some d)) && (!(o.op.operands.any (c0r d)) || a2l o i)
def c0K (E : AE) (ops : Array Oper) (us ss : List Nat) : Bool :=
 ops.toList.all (fun o => o.guard.isNone) && ((List.range ops.size).all (fun i => match ops[i]? with
  | none => true
  | some o => o.after.all fun e => !Region.binds .any e || Nat.blt e.on i)) && us.all (b7M E ops) && b1q ops ss
def a64 (E : AE) (ops : Array Oper) {β : Type} (st : St) (K : Pn ⊕ St → Option β) : Option β := match c2k E ops.toList 0 with
 | none => none
 | some p => match c0K E ops ((List.range ops.size).filter (a4o (anc ops.toList []) p)) ((List.range ops.size).filter fun i => !a4o (anc ops.toList []) p i) with
  | true => (b7N E (b4z ops ((List.range ops.size).filter (a4o (anc ops.toList []) p))) st).run fun F => (b0P E F (b4z ops ((List.range ops.size).filter (a4o (anc ops.toList []) p)))).run fun _ =>
    a5h E ops ((List.range ops.size).filter (a4o (anc ops.toList []) p)) ((List.range ops.size).filter fun i => !a4o (anc ops.toList []) p i) F K
  | false => none
def a63 (E : AE) (H : Hints) {β : Type} (ops : Array Oper) (draw : Bool) (st : St) (K : Ex → St → Option β) : Option β := match draw with
 | false => match c0k st ops with
  | some st' => K .normal st'
  | none => match ops.toList.any (c12 E) with
   | true => b8F E ops ops.toList st.mem.length [] (st.more (u1 E ops.toList)) (b9W H ops K)
   | false => (b8b E ops st).run (b9W H ops K)
 | true => match ops.toList.any (c2r E) with
  | true => a64 E ops st (b9W H ops K)
  | false => match a0x E.flat [] ops ops.toList [] [] with
   | true => (a9F E ops [] st).run (b9W H ops K)
   | false => match a0x E.flat (b4g ops.toList st ops.toList) ops ops.toList [] [] with
    | true => (a9F E ops (b4g ops.toList st ops.toList) st).run (b9W H ops K)
    | false => none
def rest (H : Hints) (c : Code) (st : St) : St := match l9 c with
 | some k => pre H (8000000 + k) st
 | none => st
noncomputable def y5 (E : AE) (H : Hints) (n : Nat) {β : Type} : Code → St → (Ex → St → Option β) → Option β
 | .skip, st, K => K .normal st
 | .region _ ops draw, st, K => a63 E H ops draw st K
 | .seq x y, st, K => y5 E H n x st fun e st' => match e with
  | .normal => y5 E H n y (rest H y st') K
  | e => K e st'
 | .cond c x y, st, K => match c with
  | .tmp t => match E.lits t with
   | true => b6j t st (fun st => y5 E H n x st K) (fun st => y5 E H n y st K)
   | false => b6k t (pre H (1000000 + t) st) (fun st => y5 E H n x st (b4q H (4000000 + t) K)) (fun st => y5 E H n y st (b4q H (4000000 + t) K))
  | _ => none
 | .block id x, st, K => y5 E H n x st fun e st' => match e with
  | .exit j => match Nat.beq j id with
   | true => K .normal st'
   | false => K (.exit j) st'
  | e => K e st'
 | .loop x, st, K => match b9G E x with
  | some m => a5r (fun st K => y5 E H n x st K) id m st K
  | none => a5r (fun st K => y5 E H n x st.conv K) (b9b H x) n st K
 | .exit id, st, K => K (.exit id) (pre H (2000000 + id) st)
 | .ret, st, K => K .ret (pre H 3000000 st)
 | .scope x, st, K => y5 E H n x st K
 | .label _, st, K => K .normal st
 | _, _, _ => none
def b5Z (E : AE) (st : St) : ResultVar → Option AV
 | .tmp t => match st.tmps[t]? with
  | some (.one a) => some a
  | _ => none
 | .cell p t => match st.tmps[p]? with
  | some (.one (.sc (.ptr o b i))) => (a4R E st t o b i).val
  | _ => none
def a53 (E : AE) (st : St) : List ResultVar → Option (List AV)
 | [] => some []
 | r :: rs => match b5Z E st r, a53 E st rs with
  | some a, some l => some (a :: l)
  | _, _ => none
def c0I (st : St) (k : CK) : A1 → Option (List Int × List Nat)
 | .nilsl => some ([], [])
 | .vec o _ es => match Nat.beq es 1, st.look o with
  | true, some { segs, own := .own } => (K0 k segs).map fun zs => (zs, [o])
  | _, _ => none
 | _ => none
def FK.out (st : St) : (K : FK) → List Seg → Option (K.T × List Nat)
 | .sl k, l => match l with
  | [.one a] => c0I st k a
  | _ => none
 | .fs k, l => match l with
  | [.one a] => (b8D k a).map fun x => (x, [])
  | _ => none
 | K, l => (K.get st l).map fun x => (x, [])
def b7s (st : St) : (L : List FK) → List Seg → Option (Cs L × List Nat)
 | [], l => match l with
  | [] => some ((), [])
  | _ => none
 | K :: r, l => match L4 l K.size, F6 l K.size with
  | some a, some b => match K.out st a, b7s st r b with
   | some x, some y => match x.2.all fun o => !y.2.contains o with
    | true => some ((x.1, y.1), x.2 ++ y.2)
    | false => none
   | _, _ => none
  | _, _ => none
def Kd.out (st : St) : (K : Kd) → AV → Option (K.T × List Nat)
 | .sl _, .sc .nilsl => some ([], [])
 | .sl k, .sc (.vec o _ es) => match Nat.beq es 1, st.look o with
  | true, some { segs, own := .own } => (K0 k segs).map fun zs => (zs, [o])
  | _, _ => none
 | .sl _, _ => none
 | .sls _, .sc .nilsl => some ([], [])
 | .sls k, .sc (.vec o _ es) => match Nat.beq es 1, st.look o with
  | true, some { segs := [.rw k' l], own := .own } => if k = k' then some (l, [o]) else none
  | _, _ => none
 | .sls _, _ => none
 | .rp _, _ => none
 | .fcl _ _, _ => none
 | .sla _ _, .sc .nilsl => some ([], [])
 | .sla k m, .sc (.vec o _ es) => match Nat.beq es m, Nat.blt 0 m, st.look o with
  | true, true, some { segs, own := .own } => (K0 k segs).map fun zs => (zs, [o])
  | _, _, _ => none
 | .sla _ _, _ => none
 | .cat l, .agg segs => b7s st l segs
 | .cat _, _ => none
 | .io _, _ => none
 | .ios _, _ => none
 | .xv k, .agg segs => (K0 k segs).map fun x => (x, [])
 | .xv _, _ => none
 | .op l, .sc (.ptr o b none) => match Nat.beq b 0, l.all FK.plain, st.look o with
  | true, true, some { segs, own := .own } => (a7I st l segs).map fun x => (x, [o])
  | _, _, _ => none
 | .op _, _ => none
 | .fsl _, _ => none
 | .asl k, .sc (.vec o _ es) => match Nat.beq es 1, st.look o with
  | true, some { segs, own := .own } => (K0 k segs).map fun zs => (zs, [o])
  | _, _ => none
 | .asl k, .sc a => (b8D k a).map fun x => (x, [])
 | .asl _, _ => none
 | K, a => (K.get st (.one a)).map fun x => (x, [])
def a7i (st : St) : (ks : List Kd) → List AV → Option (Rs ks × List Nat)
 | [], [] => some ((), [])
 | [k], [a] => k.out st a
 | k :: k2 :: r, a :: l => match k.out st a, a7i st (k2 :: r) l with
  | some x, some y => match (x.2.all fun o => !y.2.contains o) && !(k.isSls && (k2 :: r).any Kd.isSls) with
   | true => some ((x.1, y.1), x.2 ++ y.2)
   | false => none
  | _, _ => none
 | _, _ => none
def Kd.inn (nm j : Nat) : (K : Kd) → K.T → AV × List Ob
 | .int k, n => (.sc (.int k n), [])
 | .bool, b => (.sc (.bool (b = true) inferInstance), [])
 | .str, s => (.sc (.str s), [])
 | .xs k n, zs => (.agg [.xs k n zs], [])
 | .sl k, zs => (.sc (.vec nm zs.length 1), [{ segs := [.xs k zs.length zs], own := .ro }])
 | .sls k, l => (.sc (.fr (.xss k l)), [])
 | .fnc f, _ => (.sc (.fn f), [])
 | .fcl f k, n => (.sc (.clo f nm 0), [{ segs := [.xs (.int k) 1 [n]], own := .ro }])
 | .rp (.int k), n => (.sc (.ptr nm 0 none), [{ segs := [.xs (.int k) 1 [n]], own := .ro }])
 | .rp (.xs k n), zs => (.sc (.ptr nm 0 none), [{ segs := [.xs k n zs], own := .ro }])
 | .rp (.sl k), zs => (.sc (.ptr (nm + 1) 0 none), [{ segs := [.xs k zs.length zs], own := .ro }, { segs := [.one (.vec nm zs.length 1)], own := .ro }])
 | .rp (.ct L), x => (.sc (.ptr nm 0 none), [{ segs := a4j L x, own := .ro }])
 | .sla k m, zs => (.sc (.vec nm (zs.length / m) m), [{ segs := [.xs k zs.length zs], own := .ro }])
 | .cat l, x => (.agg (a4j l x), [])
 | .io l, x => (.sc (.ptr nm 0 none), [{ segs := a4j l x, own := .mt j }])
 | .ios k, zs => (.sc (.vec nm zs.length 1), [{ segs := [.xs k zs.length zs], own := .mt j }])
 | .xv _, _ => (.any, [])
 | .op _, _ => (.any, [])
 | .fsl k, zs => (.sc (.fr (.xs k zs)), [])
 | .asl k, zs => (.sc (.fr (.xs k zs)), [])
def Kd.ioN (K : Kd) (j : Nat) : Nat := match K.isIo with
 | true => j + 1
 | false => j
def a8U : (ks : List Kd) → Ds ks → Nat → Nat → List TV × List Slot
 | [], _, _, _ => ([], [])
 | k :: ks, x, nm, j => let p := k.inn nm j x.1; let q := a8U ks x.2 (nm + p.2.length) (k.ioN j); (.one p.1 :: q.1, p.2.map .live ++ q.2)
def a9U (fn : Func) (ks : List Kd) (x : Ds ks) : St :=
 let p := a8U ks x 0 0
 { tmps := p.1 ++ List.replicate (fn.ntmps - p.1.length) (.one .any), mem := p.2 }
def a8L (i : Nat) : List Slot → Option Ob
 | [] => none
 | .live b :: r => match b.own with
  | .mt j => match Nat.beq i j with
   | true => some b
   | false => a8L i r
  | _ => a8L i r
 | _ :: r => a8L i r
def nIo : List Kd → Nat
 | [] => 0
 | k :: r => match k.isIo with
  | true => nIo r + 1
  | false => nIo r
def c1o (mem : List Slot) (i : Nat) : Nat → Option (List AV)
 | 0 => some []
 | n + 1 => match a8L i mem, c1o mem (i + 1) n with
  | some b, some l => some (.agg b.segs :: l)
  | _, _ => none
def Py.a1 : Py → Int → A1
 | .ifi t k, n => .ifi t k n
 | .ifg t k, n => .ifg t k n
def c2n : Option (Py × Int) → A1
 | none => .nilif
 | some (p, n) => p.a1 n
def c0q (o : Oper) : Bool := o.guard.isNone && match o.op with
 | .call { callee := .builtin .recover, args, .. } => args.toList.isEmpty
 | _ => false
def b99 (o : Oper) : Option Operand := match o.guard, o.op with
 | none, .assign x => some x
 | _, _ => none
noncomputable def c1L (E : AE) (n : Nat) (fn : Func) (p : Option (Py × Int)) (xs : List A1) (mem : List Slot) : Option (List Slot) := match fn.body with
 | some (.seq (.region _ ops false) y) => match ops.toList with
  | [o1, o2] => match c0q o1, b99 o2 with
   | true, some x =>
    let st1 : St := St.putA { tmps := xs.map (fun a => TV.one (.sc a)) ++ List.replicate (fn.ntmps - xs.length) (.one .any), mem := mem } o1.dst (c2n p)
    y5 E [] n y (st1.put o2.dst (st1.get x)) fun e st => match e, st.dfr, a53 E st fn.results.toList with
     | .normal, [], some _ => some st.mem
     | .ret, [], some _ => some st.mem
     | _, _, _ => none
   | _, _ => none
  | _ => none
 | _ => none
def c1a (E : AE) : Ex → St → Option ((Py × Int) ⊕ St)
 | .exit _, _ => none
 | .pan p n, st => match st.dfr with
  | [] => some (.inl (p, n))
  | [(f, xs)] => match E.ct f with
   | some J => match J.run (some (p, n)) xs st.mem with
    | some mem => some (.inr { st with mem := mem, dfr := [] })
    | none => none
   | none => none
  | _ => none
 | .normal, st => match st.dfr with
  | [] => some (.inr st)
  | [(f, xs)] => match E.ct f with
   | some J => match J.run none xs st.mem with
    | some mem => some (.inr { st with mem := mem, dfr := [] })
    | none => none
   | none => none
  | _ => none
 | .ret, st => match st.dfr with
  | [] => some (.inr st)
  | [(f, xs)] => match E.ct f with
   | some J => match J.run none xs st.mem with
    | some mem => some (.inr { st with mem := mem, dfr := [] })
    | none => none
   | none => none
  | _ => none
def FK.isSl : FK → Bool
 | .sl _ => true
 | _ => false
def Kd.okF : Kd → Bool
 | .sls _ => true
 | .fsl _ => true
 | .cat l => l.any FK.isSl
 | .io l => l.any FK.isSl
 | .rp (.sl _) => false
 | .rp (.ct l) => l.any FK.isSl
 | _ => false
def c1U (E : AE) (fn : Func) (ks rs : List Kd) (st : St) : Option (Rs rs) := match rs.any Kd.opn && ks.any Kd.okF with
 | true => none
 | false => match a53 E st fn.results.toList with
  | some l => match c1o st.mem 0 (nIo ks) with
   | some l2 => match a7i st rs (l ++ l2) with
    | some r => some r.1
    | none => none
   | none => none
  | none => none
noncomputable def b9f (E : AE) (n : Nat) (fn : Func) (β : Type) (args : List TV) (mem : List Slot) (K : IR → Option β) : Option β := match fn.body with
 | some c => y5 E [] n c { tmps := args ++ List.replicate (fn.ntmps - args.length) (.one .any), mem := mem } fun e st => match c1a E e st with
  | some (.inr st') => match a53 E st' fn.results.toList with
   | some l => K (.ret l st'.mem)
   | none => none
  | some (.inl p) => K (.pan p.1 p.2 st.mem)
  | none => none
 | none => none
noncomputable def c1P (E : AE) (H : Hints) (n : Nat) (fn : Func) (ks rs : List Kd) (x : Ds ks) : Option (Rs rs) :=
 match fn.body with
 | some c => y5 E H n c (a9U fn ks x) fun e st => match c1a E e st with
  | some (.inr st') => c1U E fn ks rs st'
  | _ => none
 | none => none
end Go.Ax
namespace Go.Ax
open Go.RowKit
section
variable {ρ : Env} {B : Nat} {w0 : Base} {st : St} {a : Act} {w : World} {mem : List Slot}
theorem b7W (v : Value) : (c0u v).rel ρ v := by
 unfold c0u
 split <;> (try split) <;> simp [AV.rel, A1.rel]
theorem Rel.get (hr : Rel ρ B w0 st a w) (x : Operand) : TV.rel ρ (st.get x) (a.eval x) := by
 cases x with
 | tmp t =>
  simp only [St.get, Act.eval, List.getD]
  cases h : st.tmps[t]? with
  | none => trivial
  | some v => exact hr.tm t v h
 | const v => exact b7W v
 | global g => trivial
 | func f => exact rfl
theorem Rel.put (hr : Rel ρ B w0 st a w) (dst : Option Tmp) {v : TV} {x : Value} (h : TV.rel ρ v x) : Rel ρ B w0 (st.put dst v) (a.put dst x) w := by
 cases dst with
 | none => exact hr
 | some d =>
  refine ⟨by simp [Act.put, St.put, hr.len], ?_, hr.m, hr.defers⟩
  intro i u hu
  simp only [St.put, List.getElem?_set] at hu
  simp only [Act.put, Array.getD_eq_getD_getElem?, Array.getElem?_setIfInBounds]
  by_cases e : d = i
  ·subst e
   rw [if_pos rfl] at hu
   split at hu
   ·rename_i hlt
    cases hu
    rw [← hr.len] at hlt
    simpa [hlt] using h
   ·cases hu
  ·rw [if_neg e] at hu
   rw [if_neg e]
   have := hr.tm i u hu
   simpa [Array.getD_eq_getD_getElem?] using this
theorem Rel.le {ρ' : Env} {w' : World} (hr : Rel ρ B w0 st a w) (hl : ρ.le ρ') {mem' : List Slot} (hm : MRel ρ' B w0 mem' w') : Rel ρ' B w0 { st with mem := mem' } a w' :=
 ⟨hr.len, fun i v h => TV.rel_le hl (hr.tm i v h), hm, a2U hl hr.defers⟩
theorem MRel.lt (hm : MRel ρ B w0 mem w) {o : Nat} {b : Ob} {l : Loc} {x : Nat × Nat} (h : mem[o]? = some (.live b)) (hl : ρ o = some l) (hx : l.a = some x) : x.1 < w.heap.size := by
 obtain ⟨l', C, h1, _, _, _, h2⟩ := hm.ob o b h
 rw [hl] at h1; cases h1
 rw [hx] at h2
 obtain ⟨cs, t, fr, pre, post, h3, _⟩ := h2
 exact (Array.getElem?_eq_some_iff.1 h3).1
theorem ObRel.world {w' : World} {o : Nat} {b : Ob} (h : ObRel ρ w o b) (hw : ∀ l x, ρ o = some l → l.a = some x → w'.heap[x.1]? = w.heap[x.1]?) : ObRel ρ w' o b := by
 obtain ⟨l, C, h1, h2, h3, h4, h5⟩ := h
 refine ⟨l, C, h1, h2, h3, h4, ?_⟩
 cases hx : l.a with
 | none => rw [hx] at h5; exact h5
 | some x =>
  rw [hx] at h5
  obtain ⟨cs, t, fr, pre, post, h6, h7⟩ := h5
  exact ⟨cs, t, fr, pre, post, by rw [hw l x h1 hx]; exact h6, h7⟩
theorem ObRel.env {ρ' : Env} (hl : ρ.le ρ') {o : Nat} {b : Ob} (h : ObRel ρ w o b) : ObRel ρ' w o b := by
 obtain ⟨l, C, h1, h2, h3⟩ := h
 exact ⟨l, C, hl.1 _ _ h1, B6 hl h2, h3⟩
def b69 (ρ : Env) (B : Nat) (M : List (Option Reg)) : Prop := ∀ m, some m ∈ M → (B ≤ m.blk ∧ ρ.fz m.blk = none) ∨ ∃ m', some m' ∈ ρ.mt ∧ m'.blk = m.blk ∧ m'.off ≤ m.off ∧ m.off + m.n ≤ m'.off + m'.n
theorem BelowM.grow {M : List (Option Reg)} {w' : World} (h : BelowM ρ.mt B w0.w w) (he : EnvOk ρ B) (hB : B ≤ w.heap.size) (hin : b69 ρ B M) (k : BelowM M w.heap.size w w') : BelowM ρ.mt B w0.w w' := by
 refine ⟨k.os.trans h.os, k.tape.trans h.tape, k.output.trans h.output, Nat.le_trans h.size k.size, fun b hb hm => ?_, fun m hm hb cs t fr hc => ?_⟩
 ·refine (k.block b (by omega) fun m hmM e => ?_).trans (h.block b hb hm)
  rcases hin m hmM with h1 | ⟨m', h1, h2, _⟩
  ·omega
  ·exact hm m' h1 (by omega)
 ·obtain ⟨cs1, g1, g2, g3⟩ := h.part m hm hb cs t fr hc
  by_cases hex : ∃ m1, some m1 ∈ M ∧ m1.blk = m.blk
  ·obtain ⟨m1, hm1, e1⟩ := hex
   rw [← e1] at g1
   obtain ⟨cs2, k1, k2, k3⟩ := k.part m1 hm1 (by omega) cs1 t fr g1
   rw [e1] at k1
   refine ⟨cs2, k1, k2.trans g2, fun i hi => ?_⟩
   rcases hin m1 hm1 with h1 | ⟨m', h1, h2, h3, h4⟩
   ·omega
   ·have := he.mtD m' m h1 hm (h2.trans e1)
    subst this
    exact (k3 i (by omega)).trans (g3 i hi)
  ·refine ⟨cs1, (k.block m.blk (by omega) fun m1 hm1 e => hex ⟨m1, hm1, e⟩).trans g1, g2, g3⟩
theorem MRel.fzLt (hm : MRel ρ B w0 mem w) {b : Nat} {c : Obj} (h : ρ.fz b = some c) : b < w.heap.size := (Array.getElem?_eq_some_iff.1 (hm.frz b c h)).1
theorem MRel.fzNew (hm : MRel ρ B w0 mem w) {b : Nat} (h : w.heap.size ≤ b) : ρ.fz b = none := by
 cases e : ρ.fz b with
 | none => rfl
 | some c => have := hm.fzLt e; omega
theorem MRel.grow {w' : World} {M : List (Option Reg)} (hm : MRel ρ B w0 mem w) (hin : b69 ρ B M) (hap : ∀ o b l x m, mem[o]? = some (.live b) → ρ o = some l → l.a = some x → some m ∈ M → m.blk ≠ x.1)
  (hcl : ∀ m, some m ∈ M → a4P w m.blk) (hb : BelowM M w.heap.size w w') : MRel ρ B w0 mem w' :=
 ⟨hm.free, fun o b h => (hm.ob o b h).world fun l x hl hx => hb.block _ (hm.lt h hl hx) fun m hmM => hap o b l x m h hl hx hmM, hm.sep, hm.ownB, hm.mtM, hm.below.grow hm.env hm.size hin hb, Nat.le_trans hm.size hb.size,
  fun blk c h => (hb.block blk (hm.fzLt h) fun m hmM e => by
   rcases hin m hmM with h1 | ⟨m', h1, h2, _⟩
   ·rw [e, h] at h1; exact absurd h1.2 (by simp)
   ·have := hm.env.okM m' h1; rw [h2, e, h] at this; exact absurd this (by simp)).trans (hm.frz blk c h), hm.env, hm.emt,
  hm.its.mono (fun _ _ _ h => h) (fun _ _ h => h) fun o s p l b h1 h2 h3 h4 => ⟨(hb.block b (Array.getElem?_eq_some_iff.1 h4).1 fun m hmM e => a3P h4 (e ▸ hcl m hmM)).trans h4, id⟩⟩
theorem MRel.grow0 {w' : World} (hm : MRel ρ B w0 mem w) (hb : Below w.heap.size w w') : MRel ρ B w0 mem w' :=
 hm.grow (M := []) (fun m h => by cases h) (fun o b l x m _ _ _ h => by cases h) (fun m h => by cases h) (.of hb)
theorem MRel.drew (hm : MRel ρ B w0 mem w) : MRel ρ B w0 mem w.drew :=
 ⟨hm.free, fun o b h => (hm.ob o b h).world fun _ _ _ _ => rfl, hm.sep, hm.ownB, hm.mtM, hm.below.drew, hm.size, hm.frz, hm.env, hm.emt, hm.its.mono (fun _ _ _ h => h) (fun _ _ h => h) fun _ _ _ _ _ _ _ _ h => ⟨h, id⟩⟩
theorem MRel.more (hm : MRel ρ B w0 mem w) (n : Nat) : MRel ρ B w0 (mem ++ List.replicate n .free) w := by
 have keyI : ∀ (o : Nat) (s : ByteArray) (p : Nat), (mem ++ List.replicate n Slot.free)[o]? = some (Slot.it s p) → mem[o]? = some (Slot.it s p) := by
  intro o s p h
  rw [List.getElem?_append] at h
  split at h
  ·exact h
  ·rw [List.getElem?_replicate] at h
   split at h <;> cases h
 have key : ∀ (o : Nat) (b : Ob), (mem ++ List.replicate n Slot.free)[o]? = some (Slot.live b) → mem[o]? = some (Slot.live b) := by
  intro o b h
  rw [List.getElem?_append] at h
  split at h
  ·exact h
  ·rw [List.getElem?_replicate] at h
   split at h <;> cases h
 refine ⟨?_, fun o b h => hm.ob o b (key o b h), fun o b o' b' l l' x y h h' => hm.sep o b o' b' l l' x y (key _ _ h) (key _ _ h'), fun o b l x h => hm.ownB o b l x (key _ _ h), fun o b i l h => hm.mtM o b i l (key _ _ h), hm.below, hm.size, hm.frz, hm.env, hm.emt, hm.its.mono keyI (fun _ _ h => h) fun _ _ _ _ _ _ _ _ h => ⟨h, id⟩⟩
 intro o h
 refine hm.free o ?_
 rw [List.getElem?_append] at h
 split at h
 ·exact h
 ·rename_i hn; exact .inl (by simpa using hn)
theorem MRel.drop {mem' : List Slot} (hm : MRel ρ B w0 mem w) (hlive : ∀ (o : Nat) (b : Ob), mem'[o]? = some (Slot.live b) → mem[o]? = some (Slot.live b)) (hit : ∀ (o : Nat) (s : ByteArray) (p : Nat), mem'[o]? = some (Slot.it s p) → mem[o]? = some (Slot.it s p)) (hfree : ∀ o, (mem'[o]? = none ∨ mem'[o]? = some .free) → ρ o = none) : MRel ρ B w0 mem' w :=
 ⟨hfree, fun o b h => hm.ob o b (hlive o b h), fun o b o' b' l l' x y h h' => hm.sep o b o' b' l l' x y (hlive _ _ h) (hlive _ _ h'), fun o b l x h => hm.ownB o b l x (hlive _ _ h), fun o b i l h => hm.mtM o b i l (hlive _ _ h), hm.below, hm.size, hm.frz, hm.env, hm.emt, hm.its.mono hit (fun _ _ h => h) fun _ _ _ _ _ _ _ _ h => ⟨h, id⟩⟩
theorem MRel.kill (hm : MRel ρ B w0 mem w) (o : Nat) : MRel ρ B w0 (mem.set o .dead) w := by
 refine hm.drop (fun i b h => ?_) (fun i s p h => ?_) (fun i h => ?_)
 ·rw [List.getElem?_set] at h
  split at h
  ·split at h <;> cases h
  ·exact h
 ·rw [List.getElem?_set] at h
  split at h
  ·split at h <;> cases h
  ·exact h
 ·rw [List.getElem?_set] at h
  split at h
  ·rename_i e
   subst e
   split at h
   ·simp at h
   ·rename_i hn; exact hm.free _ (.inl (by simpa using hn))
  ·exact hm.free _ h
def Env.frz (ρ : Env) (b : Nat) (c : Obj) : Env := { ρ with fz := fun i => if i = b then some c else ρ.fz i }
theorem MRel.freeze (hm : MRel ρ B w0 mem w) {o : Nat} {b : Ob} (h : mem[o]? = some (.live b)) (hb : b.own = .own) {l : Loc} (hl : ρ o = some l) {x : Nat × Nat} (hx : l.a = some x) {c : Obj} (hc : w.heap[x.1]? = some c) :
  ρ.le (ρ.frz x.1 c) ∧ MRel (ρ.frz x.1 c) B w0 (mem.set o .dead) w := by
 obtain ⟨o1, o2⟩ := hm.ownB o b l x h hb hl hx
 have hk := hm.kill o
 have hle : ρ.le (ρ.frz x.1 c) := ⟨fun _ _ h => h, fun b' c' h' => by
  show (if b' = x.1 then some c else ρ.fz b') = some c'
  split
  ·rename_i e; rw [e, o2] at h'; cases h'
  ·exact h', ⟨rfl, rfl⟩, rfl⟩
 refine ⟨hle, hk.free, fun i b' h' => (hk.ob i b' h').env hle, hk.sep, fun i b' l' y h' hb' hl' hy => ?_, hk.mtM, hk.below, hk.size, fun blk c0 h' => ?_, ⟨hm.env.lo, hm.env.mtB, fun m hmM => ?_, hm.env.mtD⟩, hm.emt, hk.its.mono (fun _ _ _ h => h) (fun _ _ h => h) fun o' s p l' b' _ _ _ h4 => ⟨h4, fun hn => ?_⟩⟩
 rotate_right
 ·show (if b' = x.1 then some c else ρ.fz b') = none
  rw [if_neg (fun e => ?_)]
  ·exact hn
  ·obtain ⟨l2, C2, k1, _, _, _, k5⟩ := hm.ob o b h
   rw [hl] at k1; cases k1
   rw [hx] at k5
   obtain ⟨cs2, t2, fr2, _, _, k6, _⟩ := k5
   rw [e] at h4
   exact a3P h4 ⟨cs2, t2, fr2, k6⟩
 ·obtain ⟨q1, q2⟩ := hk.ownB i b' l' y h' hb' hl' hy
  refine ⟨q1, ?_⟩
  show (if y.1 = x.1 then some c else ρ.fz y.1) = none
  rw [if_neg ?_]
  ·exact q2
  ·have hne : i ≠ o := by
    intro e
    subst e
    rw [List.getElem?_set] at h'
    split at h'
    ·split at h' <;> cases h'
    ·rename_i hn; exact hn rfl
   rw [List.getElem?_set_ne (Ne.symm hne)] at h'
   exact fun e => hm.sep o b i b' l l' x y h h' (by rw [hb]; exact fun h => by cases h) (Ne.symm hne) hl hl' hx hy e.symm
 ·have h' : (if blk = x.1 then some c else ρ.fz blk) = some c0 := h'
  split at h'
  ·rename_i e; cases h'; rw [e]; exact hc
  ·exact hm.frz blk c0 h'
 ·show (if m.blk = x.1 then some c else ρ.fz m.blk) = none
  rw [if_neg ?_]
  ·exact hm.env.okM m hmM
  ·have := hm.env.mtB m hmM; omega
def Env.set (ρ : Env) (o : Nat) (l : Loc) : Env := { ρ with loc := fun i => if i = o then some l else ρ i }
theorem Env.le_set {o : Nat} (h : ρ o = none) (l : Loc) : ρ.le (ρ.set o l) := by
 refine ⟨fun i l' hi => ?_, fun _ _ h => h, ⟨rfl, rfl⟩, rfl⟩
 show (if i = o then some l else ρ i) = some l'
 split
 ·rename_i e; subst e; rw [h] at hi; cases hi
 ·exact hi
theorem MRel.add (hm : MRel ρ B w0 mem w) {nm : Nat} {l0 : Slot} (hf : mem[nm]? = some l0) {b : Ob} {l : Loc} (hle : ρ.le (ρ.set nm l)) (look : ∀ i, i ≠ nm → (ρ.set nm l) i = ρ i)
  (hne : ∀ x o b' l' y, l.a = some x → mem[o]? = some (.live b') → ρ o = some l' → l'.a = some y → y.1 ≠ x.1)
  (hB : ∀ x, l.a = some x → b.own = .own → B ≤ x.1 ∧ ρ.fz x.1 = none) (hM : ∀ i, b.own = .mt i → ρ.mt[i]? = some (l.a.map fun x => ⟨x.1, x.2, l.size * l.es⟩)) (ho : ObRel (ρ.set nm l) w nm b) : MRel (ρ.set nm l) B w0 (mem.set nm (.live b)) w := by
 have hlen : nm < mem.length := (List.getElem?_eq_some_iff.1 hf).1
 have other : ∀ i, i ≠ nm → (mem.set nm (.live b))[i]? = mem[i]? := fun i h => List.getElem?_set_ne (Ne.symm h)
 have self : (mem.set nm (Slot.live b))[nm]? = some (.live b) := List.getElem?_set_self hlen
 have lookn : (ρ.set nm l) nm = some l := if_pos rfl
 refine ⟨?_, ?_, ?_, ?_, ?_, hm.below, hm.size, hm.frz, hm.env.le hle rfl, ⟨hle.2.2.2.trans hm.emt.1, hle.2.2.1.2.trans hm.emt.2⟩, ?_⟩
 rotate_right
 ·refine hm.its.mono (fun i s p h => ?_) hle.1 fun _ _ _ _ _ _ _ _ h => ⟨h, id⟩
  by_cases e : i = nm
  ·subst e; rw [self] at h; cases h
  ·rw [other i e] at h; exact h
 ·intro i h
  by_cases e : i = nm
  ·subst e; rw [self] at h; simp at h
  ·rw [other i e] at h; rw [look i e]; exact hm.free i h
 ·intro i c h
  by_cases e : i = nm
  ·subst e; rw [self] at h; cases h; exact ho
  ·rw [other i e] at h; exact (hm.ob i c h).env hle
 ·intro i c i' c' k k' x y h h' hc hne' hk hk' hx hy
  by_cases e : i = nm
  ·subst e
   rw [lookn] at hk; cases hk
   have e' : i' ≠ i := fun e => hne' e.symm
   rw [other _ e'] at h'; rw [look _ e'] at hk'
   exact fun z => hne x i' c' k' y hx h' hk' hy z.symm
  ·rw [other i e] at h; rw [look i e] at hk
   by_cases e' : i' = nm
   ·subst e'
    rw [lookn] at hk'; cases hk'
    exact hne y i c k x hy h hk hx
   ·rw [other _ e'] at h'; rw [look _ e'] at hk'
    exact hm.sep i c i' c' k k' x y h h' hc hne' hk hk' hx hy
 ·intro i c k x h hc hk hx
  by_cases e : i = nm
  ·subst e; rw [lookn] at hk; cases hk; rw [self] at h; cases h; exact hB x hx hc
  ·rw [other i e] at h; rw [look i e] at hk; exact hm.ownB i c k x h hc hk hx
 ·intro i c j k h hc hk
  by_cases e : i = nm
  ·subst e; rw [lookn] at hk; cases hk; rw [self] at h; cases h; exact hM j hc
  ·rw [other i e] at h; rw [look i e] at hk; exact hm.mtM i c j k h hc hk
theorem MRel.addNew (hm : MRel ρ B w0 mem w) {nm : Nat} (hf : mem[nm]? = some .free) {b : Ob} {l : Loc}
  (hne : ∀ x o b' l' y, l.a = some x → mem[o]? = some (.live b') → ρ o = some l' → l'.a = some y → y.1 ≠ x.1)
  (hB : ∀ x, l.a = some x → B ≤ x.1 ∧ ρ.fz x.1 = none) (hmt : ∀ i, b.own ≠ .mt i) (ho : ObRel (ρ.set nm l) w nm b) : ρ.le (ρ.set nm l) ∧ MRel (ρ.set nm l) B w0 (mem.set nm (.live b)) w := by
 have hle : ρ.le (ρ.set nm l) := Env.le_set (hm.free nm (.inr hf)) l
 exact ⟨hle, hm.add hf hle (fun i h => if_neg h) hne (fun x hx _ => hB x hx) (fun i h => absurd h (hmt i)) ho⟩
theorem MRel.write (hm : MRel ρ B w0 mem w) {o : Nat} {b : Ob} (h : mem[o]? = some (.live b)) (hb : b.own ≠ .ro) {l : Loc} (hl : ρ o = some l) {blk off : Nat} (hx : l.a = some (blk, off))
  {cs : Array Value} {t : TypeId} {fr : Nat × Nat} (hh : w.heap[blk]? = some (.cells cs t fr)) {segs : List Seg} {C0 C : List Value} (hs : i2 ρ segs C) (hC : C.length = l.size * l.es) (hC0 : C0.length = C.length) {pre post : List Value} (hpre : pre.length = off)
  (hcs0 : cs.toList = pre ++ C0 ++ post) {cs' : Array Value} (hcs : cs'.toList = pre ++ C ++ post) : MRel ρ B w0 (mem.set o (.live { segs, own := b.own })) (w.setRow blk cs') := by
 have hlen : o < mem.length := (List.getElem?_eq_some_iff.1 h).1
 have other : ∀ i, i ≠ o → (mem.set o (.live { segs, own := b.own }))[i]? = mem[i]? := fun i h => List.getElem?_set_ne (Ne.symm h)
 have self : (mem.set o (Slot.live { segs, own := b.own }))[o]? = some (.live { segs, own := b.own }) := List.getElem?_set_self hlen
 have hsz : cs'.size = cs.size := by rw [← Array.length_toList, ← Array.length_toList, hcs, hcs0]; simp [hC0]
 have hwhere : (B ≤ blk ∧ ρ.fz blk = none) ∨ ∃ m, some m ∈ ρ.mt ∧ m.blk = blk ∧ m.off = off ∧ m.n = l.size * l.es := by
  cases hbo : b.own with
  | ro => exact absurd hbo hb
  | own => exact .inl (hm.ownB o b l _ h hbo hl hx)
  | mt i => exact .inr ⟨_, List.mem_of_getElem? (hm.mtAt o b i l _ h hbo hl hx), rfl, rfl, rfl⟩
 have live' : ∀ (i : Nat) (c : Ob), (mem.set o (Slot.live { segs, own := b.own }))[i]? = some (Slot.live c) → ∃ c' : Ob, mem[i]? = some (Slot.live c') ∧ c'.own = c.own := by
  intro i c hi
  by_cases e : i = o
  ·subst e; rw [self] at hi; cases hi; exact ⟨b, h, rfl⟩
  ·rw [other i e] at hi; exact ⟨c, hi, rfl⟩
 obtain ⟨l1, C1, g1, _, _, g4, g5⟩ := hm.ob o b h
 rw [hl] at g1; cases g1
 rw [hx] at g5
 obtain ⟨cs1, t1, fr1, pre1, post1, g6, _, g7, g8, g9⟩ := g5
 rw [hh] at g6; cases g6
 have hout : ∀ i, (i < off ∨ off + l.size * l.es ≤ i) → cs'[i]? = cs[i]? := by
  intro i hi
  rw [← Array.getElem?_toList, ← Array.getElem?_toList, hcs, hcs0, ← hC, List.append_assoc, List.append_assoc] at *
  rcases hi with hi | hi
  ·rw [List.getElem?_append_left (by omega), List.getElem?_append_left (by omega)]
  ·rw [List.getElem?_append_right (by omega), List.getElem?_append_right (by omega), List.getElem?_append_right (by omega), List.getElem?_append_right (by omega), hC0]
 refine ⟨?_, ?_, ?_, ?_, ?_, ?_, by simpa using hm.size, fun k c0 hk => (setRow_other w blk k cs' ?_).trans (hm.frz k c0 hk), hm.env, hm.emt, ?_⟩
 rotate_right
 ·refine hm.its.mono (fun i s p h => ?_) (fun _ _ h => h) fun i s p l' b' _ _ _ h4 => ⟨(setRow_other w blk b' cs' fun e => a3P h4 (e ▸ ⟨cs, t, fr, hh⟩)).trans h4, id⟩
  by_cases e : i = o
  ·subst e; rw [self] at h; cases h
  ·rw [other i e] at h; exact h
 ·intro i hi
  by_cases e : i = o
  ·subst e; rw [self] at hi; simp at hi
  ·rw [other i e] at hi; exact hm.free i hi
 ·intro i c hi
  by_cases e : i = o
  ·subst e
   rw [self] at hi; cases hi
   refine ⟨l, C, hl, hs, hC, g4, ?_⟩
   rw [hx]
   refine ⟨cs', t, fr, pre, post, setRow_heap w blk cs cs' t fr hh, hcs, hpre, fun hb => ?_, fun hb => ?_⟩
   ·obtain ⟨k1, k2, k3, k4⟩ := g8 hb
    exact ⟨k1, by rw [hsz]; exact k2, by rw [hsz]; exact k3, k4⟩
   ·rw [hsz]; exact g9 hb
  ·rw [other i e] at hi
   refine (hm.ob i c hi).world fun l' x hl' hx' => setRow_other w blk x.1 cs' ?_
   exact fun z => hm.sep o b i c l l' (blk, off) x h hi hb (Ne.symm e) hl hl' hx hx' z.symm
 ·intro i c i' c' k k' x y hi hi' hc hne hk hk' hx1 hy1
  obtain ⟨d, hd, he⟩ := live' i c hi
  obtain ⟨d', hd', _⟩ := live' i' c' hi'
  exact hm.sep i d i' d' k k' x y hd hd' (by rw [he]; exact hc) hne hk hk' hx1 hy1
 ·intro i c k x hi hc hk hx1
  obtain ⟨d, hd, he⟩ := live' i c hi
  exact hm.ownB i d k x hd (he.trans hc) hk hx1
 ·intro i c j k hi hc hk
  obtain ⟨d, hd, he⟩ := live' i c hi
  exact hm.mtM i d j k hd (he.trans hc) hk
 ·refine hm.below.trans ⟨rfl, rfl, rfl, by simp, fun k hk hmt => setRow_other w blk k cs' ?_, fun m hm' hmB cs2 t2 fr2 h2 => ?_⟩
  ·rcases hwhere with hw | ⟨m, hm1, hm2, _⟩
   ·omega
   ·exact fun e => hmt m hm1 (hm2.trans e.symm)
  ·by_cases e : m.blk = blk
   ·rw [e] at h2 ⊢
    rw [hh] at h2; cases h2
    rcases hwhere with hw | ⟨m', hm1, hm2, hm3, hm4⟩
    ·omega
    ·have := hm.env.mtD m m' hm' hm1 (e.trans hm2.symm)
     subst this
     exact ⟨cs', setRow_heap w blk cs cs' t fr hh, hsz, fun i hi => hout i (by omega)⟩
   ·exact ⟨cs2, (setRow_other w blk m.blk cs' e).trans h2, rfl, fun _ _ => rfl⟩
 ·rcases hwhere with hw | ⟨m, hm1, hm2, _⟩
  ·exact fun e => by rw [e, hw.2] at hk; exact absurd hk (by simp)
  ·exact fun e => by have := hm.env.okM m hm1; rw [hm2, ← e, hk] at this; exact absurd this (by simp)
end
end Go.Ax
namespace Go.Ax
open Go.RowKit
section
variable {α β : Type}
theorem T.val_ret (a x : α) : (T.ret a).val = some x ↔ a = x := by simp [T.val, T.run]
theorem T.val_fail (x : α) : (T.fail : T α).val = some x ↔ False := by simp [T.val, T.run]
theorem T.val_ite (p : Prop) (d : Decidable p) (t e : T α) (x : α) : (T.ite p d t e).val = some x ↔ (p ∧ t.val = some x) ∨ (¬ p ∧ e.val = some x) := by
 unfold T.val
 simp only [T.run]
 by_cases h : p
 ·rw [if_pos h]; simp [h]
 ·rw [if_neg h]; simp [h]
theorem T.val_bind_iff (t : T α) (f : α → T β) (y : β) : (t.bind f).val = some y ↔ ∃ x, t.val = some x ∧ (f x).val = some y := by
 rw [T.val_bind]; cases t.val <;> simp
theorem T.val_opt {γ : Type} (x : Option γ) (k : γ → T α) (y : α) : (T.opt x k).val = some y ↔ ∃ g, x = some g ∧ (k g).val = some y := by
 unfold T.val; simp only [T.run]; cases x <;> simp
theorem T.val_ofOpt (o : Option α) (x : α) : (T.ofOpt o).val = some x ↔ o = some x := by
 cases o
 ·simp [T.ofOpt, T.val_fail]
 ·simp [T.ofOpt, T.val_ret]
end
theorem a91 {a b : Nat} (h : Nat.blt a b = true) : a < b := by rw [Nat.blt_eq] at h; exact h
theorem b8V {a b : Nat} (h : Nat.blt a b = false) : ¬ a < b := by rw [← Nat.blt_eq, h]; simp
theorem i5 {a b : Nat} (h : Nat.beq a b = true) : a = b := Nat.eq_of_beq_eq_true h
section
variable {ρ : Env}
theorem a8y (k : CK) (z : Int) : (b6i k z).rel ρ (k.val z) := by
 cases k with
 | int k => simp [b6i, CK.val, A1.rel]
 | bool =>
  simp only [b6i, CK.val, A1.rel]
  congr 1
  by_cases h : z = 0
  ·subst h; rfl
  ·simp [h]
theorem b2L {k : CK} {a : A1} {z : Int} {c : Value} (h : b7m k a = some z) (hr : a.rel ρ c) : c = k.val z := by
 cases k with
 | int k =>
  cases a <;> simp only [b7m] at h <;> try cases h
  split at h
  ·rename_i e; subst e; cases h; exact hr
  ·cases h
 | bool =>
  cases a <;> simp only [b7m] at h <;> try cases h
  ·rename_i b
   simp only [A1.rel] at hr
   subst hr
   cases b <;> rfl
  ·rename_i p d
   simp only [A1.rel] at hr
   subst hr
   by_cases hp : p <;> simp [hp, CK.val]
theorem O3 : ∀ {l : List Seg} {b : Nat} {s : Seg} {b' : Nat} {C : List Value}, a0F l b = some (s, b') → i2 ρ l C →
  ∃ pre mid post, C = pre ++ mid ++ post ∧ pre.length + b' = b ∧ i2 ρ [s] mid
 | [], b, s, b', C, h, _ => by cases h
 | [.xs k n zs], b, s, b', C, h, hr => by
  simp only [a0F] at h
  cases h
  exact ⟨[], C, [], by simp, by simp, hr⟩
 | .xs k n zs :: y :: r, b, s, b', C, h, hr => by
  obtain ⟨h1, cs', h2, h3⟩ := hr
  simp only [a0F] at h
  split at h
  ·cases h
   exact ⟨[], zs.map k.val, cs', by simp [h2], by simp, h1, [], by simp, rfl⟩
  ·rename_i hlt
   obtain ⟨pre, mid, post, g1, g2, g3⟩ := O3 h h3
   have := b8V hlt
   exact ⟨zs.map k.val ++ pre, mid, post, by rw [h2, g1]; simp, by simp [h1]; omega, g3⟩
 | .one a :: r, b, s, b', C, h, hr => by
  obtain ⟨c, cs', h1, h2, h3⟩ := hr
  cases b with
  | zero =>
   simp only [a0F] at h
   cases h
   exact ⟨[], [c], cs', by simp [h1], by simp, c, [], rfl, h2, rfl⟩
  | succ b =>
   simp only [a0F] at h
   obtain ⟨pre, mid, post, g1, g2, g3⟩ := O3 h h3
   exact ⟨c :: pre, mid, post, by rw [h1, g1]; simp, by simp; omega, g3⟩
 | .rw _ _ :: r, b, s, b', C, h, hr => by simp [a0F] at h
theorem b7D {pre mid post : List Value} {j : Nat} (h : j < mid.length) : (pre ++ mid ++ post)[pre.length + j]? = mid[j]? := by
 rw [List.append_assoc, List.getElem?_append_right (by omega), List.getElem?_append_left (by omega)]
 congr 1
 omega
theorem M0 : ∀ {l : List Seg} {m : Nat} {l' : List Seg} {C : List Value}, F6 l m = some l' → i2 ρ l C → i2 ρ l' (C.drop m) ∧ m ≤ C.length
 | [], m, l', C, h, hr => by
  cases hr
  cases m with
  | zero => simp only [F6] at h; cases h; exact ⟨rfl, by simp⟩
  | succ m => cases h
 | .xs k n zs :: r, m, l', C, h, hr => by
  obtain ⟨h1, cs', h2, h3⟩ := hr
  cases m with
  | zero => simp only [F6] at h; cases h; exact ⟨⟨h1, cs', by simpa using h2, h3⟩, by simp⟩
  | succ m =>
   simp only [F6] at h
   split at h
   ·rename_i hb
    have := a91 hb
    cases h
    refine ⟨⟨by simp; omega, cs', ?_, h3⟩, by rw [h2]; simp; omega⟩
    rw [h2, List.drop_append_of_le_length (by simp; omega)]
    simp [List.map_drop]
   ·rename_i hb
    have hnb := b8V hb
    obtain ⟨q1, q2⟩ := M0 h h3
    refine ⟨?_, by rw [h2]; simp; omega⟩
    rw [h2, List.drop_append, List.drop_of_length_le (by simp; omega)]
    simpa [h1] using q1
 | .one a :: r, m, l', C, h, hr => by
  obtain ⟨c, cs', h1, h2, h3⟩ := hr
  cases m with
  | zero => simp only [F6] at h; cases h; exact ⟨⟨c, cs', by simpa using h1, h2, h3⟩, by simp⟩
  | succ m =>
   simp only [F6] at h
   obtain ⟨q1, q2⟩ := M0 h h3
   exact ⟨by rw [h1]; simpa using q1, by rw [h1]; simp; omega⟩
 | .rw k l :: r, m, l', C, h, hr => by
  cases m with
  | zero => simp only [F6] at h; cases h; exact ⟨by simpa using hr, by simp⟩
  | succ m => simp [F6] at h
theorem a86 : ∀ {l : List Seg} {k j : Nat} {a : A1} {C : List Value}, (a85 l k j).val = some a → i2 ρ l C → k ≤ j ∧ ∃ c, C[j - k]? = some c ∧ a.rel ρ c
 | [], k, j, a, C, h, _ => by simp [a85, T.val_fail] at h
 | .xs _ _ _ :: _, k, j, a, C, h, _ => by simp [a85, T.val_fail] at h
 | .rw _ _ :: _, k, j, a, C, h, _ => by simp [a85, T.val_fail] at h
 | .one x :: r, k, j, a, C, h, hr => by
  obtain ⟨c, cs', rfl, h2, h3⟩ := hr
  simp only [a85, T.val_ite, T.val_ret] at h
  rcases h with ⟨rfl, rfl⟩ | ⟨hne, h⟩
  ·exact ⟨Nat.le_refl _, c, by simp, h2⟩
  ·obtain ⟨q1, c2, q2, q3⟩ := a86 h h3
   refine ⟨by omega, c2, ?_, q3⟩
   rw [show j - k = (j - (k + 1)) + 1 by omega, List.getElem?_cons_succ]
   exact q2
theorem a9E {l : List Seg} {b : Nat} {i : Option Nat} {a : A1} {C : List Value} (h : (b5Y l b i).val = some a) (hr : i2 ρ l C) :
  ∃ c, C[b + i.getD 0]? = some c ∧ a.rel ρ c := by
 unfold b5Y at h
 split at h
 ·rename_i k n zs b' hf
  obtain ⟨pre, mid, post, g1, g2, g3, m', g4, g5⟩ := O3 hf hr
  cases g5
  simp only [List.append_nil] at g4
  subst g4
  have key : ∀ j, j < n → C[pre.length + j]? = some (k.val (zs.getD j 0)) := by
   intro j hj
   rw [g1, b7D (by simp; omega)]
   simp [List.getElem?_map, List.getD, List.getElem?_eq_getElem (show j < zs.length by omega)]
  split at h
  ·split at h
   ·rename_i hb
    rw [T.val_ret] at h
    subst h
    exact ⟨_, by simp only [Option.getD_none, Nat.add_zero]; rw [← g2]; exact key b' (a91 hb), a8y _ _⟩
   ·simp [T.val_fail] at h
  ·rename_i j
   simp only [T.val_ite, T.val_ret, T.val_fail, and_false, or_false] at h
   obtain ⟨h1, h2⟩ := h
   subst h2
   rw [c8] at h1 ⊢
   refine ⟨_, ?_, a8y _ _⟩
   rw [← g2, Option.getD_some, Nat.add_assoc]
   exact key _ h1
 ·rename_i a' b' hf
  obtain ⟨pre, mid, post, g1, g2, c, m', g3, g4, g5⟩ := O3 hf hr
  cases g5
  subst g3
  split at h
  ·split at h
   ·rw [T.val_ret] at h
    subst h
    refine ⟨c, ?_, g4⟩
    rw [g1]
    simp [← g2]
   ·simp [T.val_fail] at h
  ·rename_i j
   split at h
   ·rename_i l' hl'
    obtain ⟨q1, q2⟩ := M0 hl' hr
    obtain ⟨_, c2, q3, q4⟩ := a86 h q1
    refine ⟨c2, ?_, q4⟩
    rw [List.getElem?_drop] at q3
    simpa using q3
   ·simp [T.val_fail] at h
 ·simp [T.val_fail] at h
 ·simp [T.val_fail] at h
theorem c0G {pre mid post : List Value} {j : Nat} {c : Value} (h : j < mid.length) : (pre ++ mid ++ post).set (pre.length + j) c = pre ++ mid.set j c ++ post := by
 rw [List.append_assoc, List.set_append_right _ _ (by omega), List.set_append_left _ _ (by omega)]
 simp
theorem a1T {f : Seg → Nat → T Seg} {G : Nat → List Value → List Value} {ok : Nat → List Value → Prop}
  (hG : ∀ pre mid post j, ok j mid → G (pre.length + j) (pre ++ mid ++ post) = pre ++ G j mid ++ post ∧ ok (pre.length + j) (pre ++ mid ++ post))
  (hf : ∀ s b s' mid, (f s b).val = some s' → i2 ρ [s] mid → i2 ρ [s'] (G b mid) ∧ ok b mid) :
  ∀ {l : List Seg} {b : Nat} {l' : List Seg} {C : List Value}, (a0h f l b).val = some l' → i2 ρ l C → i2 ρ l' (G b C) ∧ ok b C
 | [], b, l', C, h, _ => by simp [a0h, T.val_fail] at h
 | [.xs k n zs], b, l', C, h, hr => by
  simp only [a0h, T.val_bind_iff, T.val_ret] at h
  obtain ⟨s, h1, rfl⟩ := h
  exact hf _ _ _ _ h1 hr
 | .xs k n zs :: y :: r, b, l', C, h, hr => by
  obtain ⟨h1, cs', h2, h3⟩ := hr
  simp only [a0h] at h
  split at h
  ·simp only [T.val_bind_iff, T.val_ret] at h
   obtain ⟨s, g1, rfl⟩ := h
   obtain ⟨q1, q2⟩ := hf _ _ _ (zs.map k.val) g1 ⟨h1, [], by simp, rfl⟩
   obtain ⟨e, o⟩ := hG [] (zs.map k.val) cs' b q2
   simp only [List.length_nil, Nat.zero_add, List.nil_append] at e o
   rw [h2, e]
   exact ⟨l8 q1 h3, o⟩
  ·rename_i hlt
   have hnb := b8V hlt
   simp only [T.val_bind_iff, T.val_ret] at h
   obtain ⟨r', g1, rfl⟩ := h
   obtain ⟨q1, q2⟩ := a1T hG hf g1 h3
   obtain ⟨e, o⟩ := hG (zs.map k.val) cs' [] (b - n) q2
   simp only [List.length_map, h1, List.append_nil, Nat.add_sub_cancel' (Nat.le_of_not_lt hnb)] at e o
   rw [h2, e]
   exact ⟨⟨h1, _, rfl, q1⟩, o⟩
 | .one a :: r, b, l', C, h, hr => by
  obtain ⟨c, cs', h1, h2, h3⟩ := hr
  cases b with
  | zero =>
   simp only [a0h, T.val_bind_iff, T.val_ret] at h
   obtain ⟨s, g1, rfl⟩ := h
   obtain ⟨q1, q2⟩ := hf _ _ _ [c] g1 ⟨c, [], rfl, h2, rfl⟩
   obtain ⟨e, o⟩ := hG [] [c] cs' 0 q2
   simp only [List.length_nil, Nat.zero_add, List.nil_append, List.singleton_append] at e o
   rw [h1, e]
   exact ⟨l8 q1 h3, o⟩
  | succ b =>
   simp only [a0h, T.val_bind_iff, T.val_ret] at h
   obtain ⟨r', g1, rfl⟩ := h
   obtain ⟨q1, q2⟩ := a1T hG hf g1 h3
   obtain ⟨e, o⟩ := hG [c] cs' [] b q2
   simp only [List.length_singleton, List.append_nil, List.singleton_append, Nat.add_comm 1 b] at e o
   rw [h1, e]
   exact ⟨⟨c, _, rfl, h2, q1⟩, o⟩
 | .rw _ _ :: r, b, l', C, h, hr => by simp [a0h, T.val_fail] at h
theorem a4w {i : Option Nat} {a : A1} {c : Value} (ha : a.rel ρ c) {l : List Seg} {b : Nat} {l' : List Seg} {C : List Value}
  (h : (a0h (Y1 i a) l b).val = some l') (hr : i2 ρ l C) : i2 ρ l' (C.set (b + i.getD 0) c) ∧ b + i.getD 0 < C.length := by
 refine a1T (G := fun b C => C.set (b + i.getD 0) c) (ok := fun b C => b + i.getD 0 < C.length) ?_ ?_ h hr
 ·intro pre mid post j hj
  refine ⟨?_, by simp; omega⟩
  rw [Nat.add_assoc, c0G hj]
 ·intro s b s' mid hs hm
  cases s with
  | xs k n zs =>
   obtain ⟨h1, m', h2, h3⟩ := hm
   cases h3
   simp only [List.append_nil] at h2
   subst h2
   simp only [Y1] at hs
   split at hs
   ·simp [T.val_fail] at hs
   ·rename_i z hz
    have hc := b2L hz ha
    subst hc
    cases i with
    | none =>
     simp only at hs
     split at hs
     ·rename_i hb
      have := a91 hb
      rw [T.val_ret] at hs
      subst hs
      exact ⟨⟨by simp [h1], [], by simp [List.map_set], rfl⟩, by simp; omega⟩
     ·simp [T.val_fail] at hs
    | some j =>
     simp only [T.val_ite, T.val_ret, T.val_fail, and_false, or_false] at hs
     obtain ⟨hj, rfl⟩ := hs
     rw [c8] at hj ⊢
     exact ⟨⟨by simp [h1], [], by simp [List.map_set], rfl⟩, by simp; omega⟩
  | one d =>
   obtain ⟨e, m', h1, h2, h3⟩ := hm
   cases h3
   subst h1
   simp only [Y1] at hs
   split at hs
   ·rw [T.val_ret] at hs
    subst hs
    exact ⟨⟨c, [], by simp, ha, rfl⟩, by simp⟩
   ·simp [T.val_fail] at hs
  | rw k l => simp [Y1, T.val_fail] at hs
theorem S8 : ∀ {l : List Seg} {m : Nat} {l' : List Seg} {C : List Value}, L4 l m = some l' → i2 ρ l C → i2 ρ l' (C.take m) ∧ m ≤ C.length
 | [], m, l', C, h, hr => by
  cases hr
  cases m with
  | zero => simp only [L4] at h; cases h; exact ⟨rfl, by simp⟩
  | succ m => cases h
 | .xs k n zs :: r, m, l', C, h, hr => by
  obtain ⟨h1, cs', h2, h3⟩ := hr
  simp only [L4] at h
  split at h
  ·rename_i hb
   have := i5 hb
   subst this
   cases h
   exact ⟨⟨h1, [], by rw [h2]; simp [h1], rfl⟩, by rw [h2]; simp; omega⟩
  ·split at h
   ·rename_i hb
    have := a91 hb
    cases h
    refine ⟨⟨by simp; omega, [], ?_, rfl⟩, by rw [h2]; simp; omega⟩
    rw [h2, List.take_append_of_le_length (by simp; omega)]
    simp [List.map_take]
   ·rename_i hne hb
    have hnb := b8V hb
    rw [Option.map_eq_some_iff] at h
    obtain ⟨r', g1, rfl⟩ := h
    obtain ⟨q1, q2⟩ := S8 g1 h3
    refine ⟨⟨h1, _, ?_, q1⟩, by rw [h2]; simp; omega⟩
    rw [h2, List.take_append]
    congr 1
    ·exact List.take_of_length_le (by simp; omega)
    ·simp [h1]
 | .one a :: r, m, l', C, h, hr => by
  obtain ⟨c, cs', h1, h2, h3⟩ := hr
  cases m with
  | zero => simp only [L4] at h; cases h; exact ⟨by simp [i2], by simp⟩
  | succ m => cases m with
   | zero => simp only [L4] at h; cases h; exact ⟨⟨c, [], by rw [h1]; simp, h2, rfl⟩, by rw [h1]; simp⟩
   | succ m =>
    simp only [L4, Option.map_eq_some_iff] at h
    obtain ⟨r', g1, rfl⟩ := h
    obtain ⟨q1, q2⟩ := S8 g1 h3
    exact ⟨⟨c, _, by rw [h1]; rfl, h2, q1⟩, by rw [h1]; simp; omega⟩
 | .rw _ _ :: r, m, l', C, h, hr => by simp [L4] at h
theorem a7m {l : List Seg} {b : Nat} {i : Option Nat} {m : Nat} {l' : List Seg} {C : List Value} (h : (a9D l b i m).val = some l') (hr : i2 ρ l C) :
  i2 ρ l' ((C.drop (b + i.getD 0)).take m) ∧ b + i.getD 0 + m ≤ C.length := by
 cases i with
 | none =>
  simp only [a9D] at h
  split at h
  ·rename_i l1 h1
   rw [T.val_ofOpt] at h
   obtain ⟨q1, q2⟩ := M0 h1 hr
   obtain ⟨q3, q4⟩ := S8 h q1
   simp only [List.length_drop] at q4
   exact ⟨by simpa using q3, by simp; omega⟩
  ·simp [T.val_fail] at h
 | some j =>
  simp only [a9D] at h
  split at h
  ·rename_i k n zs b' hf
   obtain ⟨pre, mid, post, g1, g2, g3, m', g4, g5⟩ := O3 hf hr
   cases g5
   simp only [List.append_nil] at g4
   subst g4
   simp only [T.val_ite, T.val_ret, T.val_fail, and_false, or_false] at h
   obtain ⟨h1, rfl⟩ := h
   rw [c8] at h1 ⊢
   simp only [Option.getD_some]
   refine ⟨⟨by simp; omega, [], ?_, rfl⟩, by rw [g1]; simp; omega⟩
   have e : b + j = pre.length + (b' + j) := by omega
   rw [g1, e, List.append_assoc, List.drop_append, List.drop_of_length_le (by omega), List.nil_append, Nat.add_sub_cancel_left, List.drop_append_of_le_length (by simp; omega),
    List.take_append_of_le_length (by simp; omega)]
   simp [List.map_take, List.map_drop]
  ·simp [T.val_fail] at h
theorem a66 {pre mid post D : List Value} {j m : Nat} (h : j + m ≤ mid.length) :
  (pre ++ mid ++ post).take (pre.length + j) ++ D ++ (pre ++ mid ++ post).drop (pre.length + j + m) = pre ++ (mid.take j ++ D ++ mid.drop (j + m)) ++ post := by
 rw [List.append_assoc pre, List.take_append, List.drop_append, List.take_of_length_le (by omega), List.drop_of_length_le (by omega)]
 rw [show pre.length + j - pre.length = j by omega, show pre.length + j + m - pre.length = j + m by omega]
 rw [List.take_append_of_le_length (by omega), List.drop_append_of_le_length (by omega)]
 simp
theorem a2n {l : List Seg} {b : Nat} {i : Option Nat} {m : Nat} {new l' : List Seg} {C D : List Value} (h : (a2m l b i m new).val = some l') (hr : i2 ρ l C)
  (hn : i2 ρ new D) (hD : D.length = m) : i2 ρ l' (C.take (b + i.getD 0) ++ D ++ C.drop (b + i.getD 0 + m)) ∧ b + i.getD 0 + m ≤ C.length := by
 cases i with
 | none =>
  simp only [a2m] at h
  split at h
  ·rename_i x y hx hy
   obtain ⟨q1, q2⟩ := S8 hx hr
   obtain ⟨q3, q4⟩ := M0 hy hr
   refine ⟨?_, by simp; omega⟩
   simp only [Option.getD_none, Nat.add_zero]
   split at h
   ·rw [T.val_ret] at h
    subst h
    simpa using l8 hn q3
   ·rw [T.val_ret] at h
    subst h
    exact l8 (l8 q1 hn) q3
  ·simp [T.val_fail] at h
 | some j =>
  simp only [a2m] at h
  split at h
  ·rename_i k m' ys
   split at h
   ·rename_i hm
    have := i5 hm
    subst this
    obtain ⟨n1, d', n2, n3⟩ := hn
    cases n3
    simp only [List.append_nil] at n2
    subst n2
    refine a1T (G := fun b C => C.take (b + j) ++ ys.map k.val ++ C.drop (b + j + m')) (ok := fun b C => b + j + m' ≤ C.length) ?_ ?_ h hr
    ·intro pre mid post j' hj
     refine ⟨?_, by simp; omega⟩
     have := a66 (pre := pre) (mid := mid) (post := post) (D := ys.map k.val) (j := j' + j) (m := m') hj
     simpa [Nat.add_assoc] using this
    ·intro s b s' mid hs hm
     cases s with
     | xs k2 n zs =>
      obtain ⟨h1, m2, h2, h3⟩ := hm
      cases h3
      simp only [List.append_nil] at h2
      subst h2
      simp only [a6d] at hs
      split at hs
      ·rename_i hk
       have := of_decide_eq_true hk
       subst this
       simp only [T.val_ite, T.val_ret, T.val_fail, and_false, or_false] at hs
       obtain ⟨hj, rfl⟩ := hs
       rw [c8] at hj ⊢
       refine ⟨⟨by simp; omega, [], ?_, rfl⟩, by simp; omega⟩
       simp [List.map_take, List.map_drop]
      ·simp [T.val_fail] at hs
     | one d => simp [a6d, T.val_fail] at hs
     | rw k l => simp [a6d, T.val_fail] at hs
   ·simp [T.val_fail] at h
  ·simp [T.val_fail] at h
theorem l6 {k : CK} : ∀ {l : List Seg} {zs : List Int} {C : List Value}, K0 k l = some zs → i2 ρ l C → C = zs.map k.val
 | [], zs, C, h, hr => by cases hr; simp only [K0] at h; cases h; rfl
 | [.xs k' n ys], zs, C, h, hr => by
  obtain ⟨h1, cs', h2, h3⟩ := hr
  cases h3
  simp only [K0] at h
  split at h
  ·rename_i e; subst e; cases h; simpa using h2
  ·cases h
 | .xs k' n ys :: y :: r, zs, C, h, hr => by
  obtain ⟨h1, cs', h2, h3⟩ := hr
  simp only [K0] at h
  split at h
  ·rename_i e
   subst e
   simp only [Option.map_eq_some_iff] at h
   obtain ⟨r', g1, rfl⟩ := h
   rw [h2, l6 g1 h3]
   simp
  ·cases h
 | .one a :: r, zs, C, h, hr => by
  obtain ⟨c, cs', h1, h2, h3⟩ := hr
  simp only [K0] at h
  split at h
  ·rename_i z hz
   simp only [Option.map_eq_some_iff] at h
   obtain ⟨r', g1, rfl⟩ := h
   rw [h1, b2L hz h2, l6 g1 h3]
   rfl
  ·cases h
 | .rw _ _ :: r, zs, C, h, hr => by simp [K0] at h
theorem b4t {a b l : List Seg} {C D : List Value} (h : b7S a b = some l) (ha : i2 ρ a C) (hb : i2 ρ b D) : i2 ρ l (C ++ D) := by
 unfold b7S at h
 split at h
 ·cases h; cases ha; simpa using hb
 ·rename_i k n zs k' m ys
  split at h
  ·rename_i e
   subst e
   cases h
   obtain ⟨h1, _, h2, h3⟩ := ha
   obtain ⟨g1, _, g2, g3⟩ := hb
   cases h3; cases g3
   exact ⟨by simp [h1, g1], [], by simp [h2, g2], rfl⟩
  ·cases h
 ·rename_i k x k' y
  split at h
  ·rename_i e
   subst e
   cases h
   obtain ⟨c1, _, rfl, h2, h3⟩ := ha
   obtain ⟨d1, _, rfl, g2, g3⟩ := hb
   cases h3; cases g3
   exact ⟨c1 ++ d1, [], by simp, a7o h2 g2, rfl⟩
  ·cases h
 ·cases h; cases hb; simpa using ha
 ·cases h; exact l8 ha hb
theorem a9O {ρ : Env} {a : A1} {c : Value} (h : a.rel ρ c) : ∀ n : Nat, i2 ρ (List.replicate n (.one a)) (List.replicate n c)
 | 0 => rfl
 | n + 1 => ⟨c, _, rfl, h, a9O h n⟩
end
end Go.Ax
namespace Go.Ax
open Go.RowKit
def TD.is : TD → TypeDesc → Prop
 | .int k, d => d = .int k
 | .bool, d => d = .bool
 | .str, d => d = .string
 | .ptr e, d => d = .pointer e
 | .sl e, d => d = .slice e
 | .arr n e, d => d = .array n e
 | .st fs, d => ∃ fields : Array Field, d = .struct fields ∧ fields.toList.map (fun f => (f.offset, f.type)) = fs
 | .other, d => (match d with | .struct _ | .array _ _ => true | _ => false) = false
def StEq (P : Program) (t : TypeId) (k : IntKind) (n : Nat) : Prop :=
 P.eqGuardType P.depth t = false ∧ ∀ (X Y : List Int) (w : World), X.length = n → Y.length = n → (Op.equal t (.agg (X.map (Value.int k)).toArray) (.agg (Y.map (Value.int k)).toArray)).run P w = .ok (decide (X = Y)) w
structure TyOk (P : Program) (t : TypeId) (i : TyI) : Prop where
 desc : ∃ d, P.underlying t = some d ∧ i.td.is d
 info : ∃ f z, P.info? t = some f ∧ f.size = i.size ∧ f.bytes = i.bytes ∧ f.zero = some z ∧ (∀ ρ : Env, i2 ρ i.zero z.cells.toList) ∧ z.cells.size = i.size
 one : i.td.agg = false → i.size = 1
 aggZ : i.td.agg = true → ∀ f z, P.info? t = some f → f.zero = some z → ∃ cs : Array Value, z = .agg cs
variable {P : Program}
theorem b8B {o : Oper} {a : Act} {w w' : World} {v : Value} {K : Act → World → Prop} {Q : Exit → Act → World → Prop}
  (hrun : (execOp a.eval o).run P w = .ok (.value v) w') (hK : K (a.put o.dst v) w') : o.wp P a w K Q := by
 unfold Oper.wp; rw [hrun]; exact hK
theorem wp_skip {o : Oper} {a : Act} {w w' : World} {K : Act → World → Prop} {Q : Exit → Act → World → Prop}
  (hrun : (execOp a.eval o).run P w = .ok .skip w') (hK : K (a.put o.dst undef) w') : o.wp P a w K Q := by
 unfold Oper.wp; rw [hrun]; exact hK
theorem TyOk.agg_iff {t : TypeId} {i : TyI} (h : TyOk P t i) (w : World) : (isAgg t).run P w = .ok i.td.agg w := by
 obtain ⟨d, h1, h2⟩ := h.desc
 unfold isAgg
 rw [Sem.run_bind, run_underlying h1 w]
 cases hd : i.td <;> rw [hd] at h2 <;> simp only [TD.is] at h2 <;> try (subst h2; rfl)
 ·obtain ⟨f, rfl, _⟩ := h2; rfl
 ·cases d <;> simp_all [TD.agg]
theorem TyOk.run_size {t : TypeId} {i : TyI} (h : TyOk P t i) (w : World) : (sizeOf t).run P w = .ok i.size w := by
 obtain ⟨f, z, h1, h2, _⟩ := h.info
 simp [sizeOf, typeInfo, h1, h2]
theorem TyOk.run_zero {t : TypeId} {i : TyI} (h : TyOk P t i) (w : World) : ∃ z, (zeroValue t).run P w = .ok z w ∧ (∀ ρ : Env, i2 ρ i.zero z.cells.toList) ∧ z.cells.size = i.size := by
 obtain ⟨f, z, h1, h2, h3, h4, h5, h6⟩ := h.info
 exact ⟨z, by simp [zeroValue, typeInfo, h1, h4], h5, h6⟩
theorem TyOk.run_zeroA {t : TypeId} {i : TyI} (h : TyOk P t i) (hg : i.td.agg = true) (w : World) : ∃ cs : Array Value, (zeroValue t).run P w = .ok (.agg cs) w ∧ ∀ ρ : Env, i2 ρ i.zero cs.toList := by
 obtain ⟨f, z, h1, h2, h3, h4, h5, h6⟩ := h.info
 obtain ⟨cs, rfl⟩ := h.aggZ hg f z h1 h4
 exact ⟨cs, by simp [zeroValue, typeInfo, h1, h4], h5⟩
theorem N2 {ρ : Env} {l : List Seg} {cs : List Value} (h : ∀ ρ : Env, i2 ρ l cs) : i2 ρ l cs := h ρ
theorem a1K {w : World} {blk : Nat} {cs : Array Value} {t : TypeId} {fr : Nat × Nat} {pre C post : List Value} (hh : w.heap[blk]? = some (.cells cs t fr)) (hc : cs.toList = pre ++ C ++ post)
  {x : Nat} {c : Value} (hx : C[x]? = some c) : w.cell? ⟨blk, pre.length + x, none⟩ = some c := by
 have hlt : x < C.length := (List.getElem?_eq_some_iff.1 hx).1
 have : cs.toList[pre.length + x]? = some c := by rw [hc, b7D hlt, hx]
 simpa [World.cell?, hh] using this
theorem a3D {t : TypeId} {i : TyI} (h : TyOk P t i) (hg : i.td.agg = false) {w : World} {p : Addr} {c : Value} (hc : w.cell? p = some c) : (loadVar t p).run P w = .ok c w := by
 simp [loadVar, h.agg_iff w, hg, hc]
theorem a9K {t : TypeId} {i : TyI} (h : TyOk P t i) (hg : i.td.agg = true) {w : World} {blk off : Nat} {D : List Value} (hD : D.length = i.size)
  (hc : ∀ j c, D[j]? = some c → w.cell? ⟨blk, off + j, none⟩ = some c) : (loadVar t ⟨blk, off, none⟩).run P w = .ok (.agg D.toArray) w := by
 have hl := run_loadCells_list (P := P) w ⟨blk, off, none⟩ D (fun j v hv => by rw [Addr.add_lit]; exact hc j v hv)
 rw [hD] at hl
 simp [loadVar, h.agg_iff w, hg, h.run_size w, hl]
theorem C5 (g o : Nat) (t : TypeId) (fr : Nat × Nat) : ∀ (vs : List Value) (i : Nat) (cur : Array Value) (w : World), w.heap[g]? = some (.cells cur t fr) → o + i + vs.length ≤ cur.size →
  (cur.size ≤ fr.1 ∨ fr.1 = fr.2) → (∀ v ∈ vs, v.oneCell' = true) →
  (storeCells ⟨g, o, none⟩ vs i).run P w = .ok () (w.setRow g (cur.toList.take (o + i) ++ vs ++ cur.toList.drop (o + i + vs.length)).toArray)
 | [], i, cur, w, hg, _, _, _ => by
  simp only [storeCells, List.append_nil, List.length_nil, Nat.add_zero, List.take_append_drop, Array.toArray_toList]
  rw [setRow_self w g cur t fr hg]
  rfl
 | v :: rest, i, cur, w, hg, hl, hf, h1 => by
  have hi : o + i < cur.size := by simp at hl; omega
  have hcell : w.cell? ⟨g, o + i, none⟩ = some cur[o + i] := by simp [World.cell?, hg, hi]
  have hfro : w.frozen? ⟨g, o + i, none⟩ = false := by simp only [World.frozen?, hg, Bool.and_eq_false_iff, decide_eq_false_iff_not]; omega
  have hst : (store ((⟨g, o, none⟩ : Addr).add i) v).run P w = .ok () (w.setRow g (cur.setIfInBounds (o + i) v)) := by
   rw [Addr.add_lit, run_store P w _ v _ (h1 v (by simp)), hcell]
   simp [hfro, setCell_eq_setRow w g (o + i) cur t fr v hg]
  have ih := C5 g o t fr rest (i + 1) (cur.setIfInBounds (o + i) v) (w.setRow g (cur.setIfInBounds (o + i) v)) (setRow_heap w g cur _ t _ hg) (by simp at hl ⊢; omega) (by simpa using hf) (fun x hx => h1 x (by simp [hx]))
  simp only [storeCells, Sem.run_bind, hst, Result.andThen_ok, ih, setRow_setRow]
  congr 3
  have e := list_seg_step cur.toList (o + i) v rest (by simp at hl ⊢; omega)
  simpa [Array.toList_setIfInBounds, Nat.add_assoc] using e
theorem d0 {st : St} {o : Nat} {b : Ob} (h : st.look o = some b) : st.mem[o]? = some (.live b) := by
 unfold St.look at h
 split at h
 ·cases h; assumption
 ·cases h
section
variable {ρ : Env} {B : Nat} {w0 : Base} {st : St} {a : Act} {w : World}
theorem Rel.row (hr : Rel ρ B w0 st a w) {o : Nat} {b : Ob} (h : st.look o = some b) {l : Loc} {blk off : Nat} (hl : ρ o = some l) (hx : l.a = some (blk, off)) :
  ∃ cs t fr pre post C, w.heap[blk]? = some (.cells cs t fr) ∧ cs.toList = pre ++ C ++ post ∧ pre.length = off ∧ i2 ρ b.segs C ∧ C.length = l.size * l.es ∧ l.size ≤ l.cap ∧
   (b.own = .own → off = 0 ∧ l.cap * l.es ≤ cs.size ∧ (cs.size ≤ fr.1 ∨ fr.1 = fr.2) ∧ l.adr = l.addr) ∧ (b.own ≠ .ro → cs.size ≤ fr.1 ∨ fr.1 = fr.2) := by
 obtain ⟨l', C, h1, h2, h3, h4, h5⟩ := hr.m.ob o b (d0 h)
 rw [hl] at h1; cases h1
 rw [hx] at h5
 obtain ⟨cs, t, fr, pre, post, h6, h7, h8, h9⟩ := h5
 exact ⟨cs, t, fr, pre, post, C, h6, h7, h8, h2, h3, h4, h9⟩
theorem b0Z {E : AE} (hE : ∀ t i, E.ty t = some i → TyOk P t i) (hr : Rel ρ B w0 st a w) {t : TypeId} {o b : Nat} {i : Option Nat} {x : AV} (h : (a4R E st t o b i).val = some x)
  {v : Value} (hv : A1.rel ρ (.ptr o b i) v) : ∃ p c, v = .pointer (some p) ∧ (loadVar t p).run P w = .ok c w ∧ AV.rel ρ x c := by
 obtain ⟨l, blk, off, h1, h2, rfl⟩ := hv
 unfold a4R at h
 split at h
 ·rename_i ti ob ht ho
  have hk := hE t ti ht
  obtain ⟨cs, te, fr, pre, post, C, g1, g2, g3, g4, _, _, _⟩ := hr.row ho h1 h2
  subst g3
  split at h
  ·rename_i hagg
   simp only [T.val_bind_iff, T.val_ret] at h
   obtain ⟨l', k1, rfl⟩ := h
   obtain ⟨q1, q2⟩ := a7m k1 g4
   refine ⟨_, _, rfl, a9K hk hagg (D := (C.drop (b + i.getD 0)).take ti.size) (by simp; omega) ?_, ⟨_, rfl, q1⟩⟩
   intro j c hj
   rw [List.getElem?_take] at hj
   split at hj
   ·rw [List.getElem?_drop] at hj
    rw [Nat.add_assoc]
    exact a1K g1 g2 hj
   ·cases hj
  ·rename_i hagg
   simp only [T.val_bind_iff, T.val_ret] at h
   obtain ⟨a', k1, rfl⟩ := h
   obtain ⟨c, q1, q2⟩ := a9E k1 g4
   exact ⟨_, c, rfl, a3D hk hagg (a1K g1 g2 q1), q2⟩
 ·simp [T.val_fail] at h
theorem AV.cells_sc {x : A1} {v : Value} (h : A1.rel ρ x v) : v.cells = #[v] := by
 have := A1.rel_one h
 cases v <;> first | rfl | simp [Value.oneCell'] at this
theorem b5a {E : AE} (hE : ∀ t i, E.ty t = some i → TyOk P t i) (hr : Rel ρ B w0 st a w) {t : TypeId} {o b : Nat} {i : Option Nat} {x : TV} {st' : St} (h : (a59 E st t o b i x).val = some st')
  {v u : Value} (hv : A1.rel ρ (.ptr o b i) v) (hu : TV.rel ρ x u) : ∃ p w', v = .pointer (some p) ∧ (storeVar t p u).run P w = .ok () w' ∧ st'.tmps = st.tmps ∧ MRel ρ B w0 st'.mem w' := by
 obtain ⟨l, blk, off, h1, h2, rfl⟩ := hv
 unfold a59 at h
 split at h
 ·rename_i ti ob ht ho
  have hk := hE t ti ht
  obtain ⟨cs, te, fr, pre, post, C, g1, g2, g3, g4, g5, g6, g7, g8⟩ := hr.row ho h1 h2
  split at h
  ·simp [T.val_fail] at h
  ·rename_i hown
   have k3 := g8 hown
   have fin : ∀ (D : List Value) (l' : List Seg) (place : Nat), D.length = ti.size → (∀ d ∈ D, d.oneCell' = true) → u.cells.toList = D → place + ti.size ≤ C.length →
     i2 ρ l' (C.take place ++ D ++ C.drop (place + ti.size)) →
     ∃ w', (storeVar t ⟨blk, off + place, none⟩ u).run P w = .ok () w' ∧ MRel ρ B w0 (st.upd o ob.own l').mem w' := by
    intro D l' pl hD hone hcells hfit hseg
    have hsz : cs.size = (pre ++ C ++ post).length := by rw [← g2]; simp
    have hst := C5 (P := P) blk (off + pl) te fr D 0 cs w g1 (by rw [hsz]; simp; omega) k3 hone
    have hus : u.cells.size = ti.size := by rw [← hD, ← hcells]; simp
    refine ⟨w.setRow blk (List.take (off + pl + 0) cs.toList ++ D ++ List.drop (off + pl + 0 + D.length) cs.toList).toArray, ?_, ?_⟩
    ·unfold storeVar
     simp only [Sem.run_bind, hk.run_size w, Result.andThen_ok, hus, ne_eq, not_true_eq_false, if_false]
     rw [hcells]
     exact hst
    ·refine hr.m.write (d0 ho) hown h1 h2 g1 (C0 := C) (C := C.take pl ++ D ++ C.drop (pl + ti.size)) hseg (by simp; omega) (by simp; omega) g3 g2 (post := post) ?_
     simp only [Nat.add_zero, g2, hD]
     rw [← g3]
     exact a66 hfit
   split at h
   ·rename_i l0 hagg
    split at h
    ·rename_i hlen
     simp only [T.val_bind_iff, T.val_ret] at h
     obtain ⟨l', q1, rfl⟩ := h
     obtain ⟨D, rfl, hD⟩ := hu
     have hDl : D.length = ti.size := by rw [v8 hD]; exact i5 hlen
     obtain ⟨r1, r2⟩ := a2n q1 g4 hD hDl
     obtain ⟨w', s1, s2⟩ := fin D l' (b + i.getD 0) hDl (a1B hD) (by simp [Value.cells]) r2 r1
     exact ⟨_, w', rfl, s1, rfl, s2⟩
    ·simp [T.val_fail] at h
   ·rename_i a0 hagg
    simp only [T.val_bind_iff, T.val_ret] at h
    obtain ⟨l', q1, rfl⟩ := h
    have hu' : A1.rel ρ a0 u := hu
    have hc := AV.cells_sc hu'
    obtain ⟨r1, r2⟩ := a4w hu' q1 g4
    have hs1 : ti.size = 1 := hk.one hagg
    rw [List.set_eq_take_append_cons_drop, if_pos r2] at r1
    obtain ⟨w', s1, s2⟩ := fin [u] l' (b + i.getD 0) (by simp [hs1]) (by simpa using A1.rel_one hu') (by rw [hc]) (by omega) (by rw [hs1]; simpa using r1)
    exact ⟨_, w', rfl, s1, rfl, s2⟩
   ·simp [T.val_fail] at h
 ·simp [T.val_fail] at h
end
end Go.Ax
namespace Go.Ax
open Go.RowKit
variable {P : Program}
section
variable {ρ : Env} {B : Nat} {w0 : Base} {st st' : St} {a : Act} {w : World}
def FitsV (P : Program) (ρ : Env) (B : Nat) (w0 : Base) (st' : St) (o : Oper) (a : Act) (w : World) : Prop :=
 ∃ v w' ρ', (execOp a.eval o).run P w = .ok (.value v) w' ∧ ρ.le ρ' ∧ Rel ρ' B w0 st' (a.put o.dst v) w'
theorem Rel.alloc (hr : Rel ρ B w0 st a w) {nm : Nat} {segs : List Seg} {C post : List Value} (hs : i2 ρ segs C) {st1 : St} (hn : st.new nm { segs, own := .own } = some st1) (t : TypeId) {cs : Array Value}
  (hcs : cs.toList = C ++ post) {size cap es : Nat} (hC : C.length = size * es) (hcap : cs.size = cap * es) (hle : size ≤ cap) :
  ρ.le (ρ.set nm { a := some (w.heap.size, 0), adr := some ⟨w.heap.size, 0, none⟩, size, cap, es }) ∧ Rel (ρ.set nm { a := some (w.heap.size, 0), adr := some ⟨w.heap.size, 0, none⟩, size, cap, es }) B w0 st1 a (w.alloc (.cells cs t)) ∧ st1.tmps = st.tmps := by
 unfold St.new at hn
 split at hn
 ·rename_i hf
  cases hn
  have hm := hr.m.grow0 (w' := w.alloc (.cells cs t)) ((Below.refl _ _).alloc (Nat.le_refl _) _)
  have hnone : ρ nm = none := hm.free nm (.inr hf)
  have hle' := Env.le_set hnone { a := some (w.heap.size, 0), adr := some ⟨w.heap.size, 0, none⟩, size, cap, es }
  obtain ⟨h1, h2⟩ := hm.addNew hf (b := { segs, own := .own }) (l := { a := some (w.heap.size, 0), adr := some ⟨w.heap.size, 0, none⟩, size, cap, es })
   (fun x o b' l' y hx hb hl hy => by
    cases hx
    have := hr.m.lt hb hl hy
    simp only
    omega)
   (fun x hx => by cases hx; exact ⟨hr.m.size, hr.m.fzNew (Nat.le_refl _)⟩) (fun i h => by cases h)
   ⟨_, C, if_pos rfl, B6 hle' hs, hC, hle, cs, t, (0, 0), [], post, heap_alloc_new w _, by simpa using hcs, rfl, (fun _ => ⟨rfl, Nat.le_of_eq hcap.symm, .inr rfl, rfl⟩), fun _ => .inr rfl⟩
  exact ⟨h1, hr.le h1 h2, rfl⟩
 ·cases hn
theorem Rel.putA (hr : Rel ρ B w0 st a w) (dst : Option Tmp) {x : A1} {v : Value} (h : A1.rel ρ x v) : Rel ρ B w0 (st.putA dst x) (a.put dst v) w := hr.put dst (v := .one (.sc x)) h
theorem a7w (hr : Rel ρ B w0 st a w) {nm : Nat} {dst : Option Tmp} {l : List Seg} (h : (newPtr st nm dst l).val = some st') {cs : Array Value} (hs : i2 ρ l cs.toList) (t : TypeId) :
  ∃ ρ', ρ.le ρ' ∧ Rel ρ' B w0 st' (a.put dst (.pointer (some ⟨w.heap.size, 0, none⟩))) (w.alloc (.cells cs t)) := by
 unfold newPtr at h
 split at h
 ·rename_i st1 hn
  rw [T.val_ret] at h
  subst h
  obtain ⟨h1, h2, _⟩ := hr.alloc hs hn t (cs := cs) (post := []) (by simp) (size := 1) (cap := 1) (es := cs.size) (by simp) (by simp) (Nat.le_refl _)
  exact ⟨_, h1, h2.putA dst ⟨_, _, _, if_pos rfl, rfl, by simp⟩⟩
 ·simp [T.val_fail] at h
theorem J2 (hr : Rel ρ B w0 st a w) {nm : Nat} {dst : Option Tmp} {l : List Seg} {len es : Nat} (h : (newVec st nm dst l len es).val = some st') {C post : List Value} {cs : Array Value} (hcs : cs.toList = C ++ post)
  (hs : i2 ρ l C) (hC : C.length = len * es) {cap : Nat} (hcap : cs.size = cap * es) (hle : len ≤ cap) (t : TypeId) :
  ∃ ρ', ρ.le ρ' ∧ Rel ρ' B w0 st' (a.put dst (.slice (some ⟨w.heap.size, 0, none⟩) len cap)) (w.alloc (.cells cs t)) := by
 unfold newVec at h
 split at h
 ·rename_i st1 hn
  rw [T.val_ret] at h
  subst h
  obtain ⟨h1, h2, _⟩ := hr.alloc hs hn t hcs hC hcap hle
  refine ⟨_, h1, h2.putA dst ⟨_, if_pos rfl, rfl, rfl, rfl, hle, (fun h => by cases h), fun _ => rfl⟩⟩
 ·simp [T.val_fail] at h
theorem AV.rel_agg_of_segs {x : TV} {v : Value} {l : List Seg} (h : b8k x = some l) (hr : TV.rel ρ x v) : i2 ρ l v.cells.toList := by
 unfold b8k at h
 split at h
 ·cases h
  have hr' : A1.rel ρ _ v := hr
  rw [AV.cells_sc hr']
  exact ⟨v, [], rfl, hr', rfl⟩
 ·cases h
  obtain ⟨cs, rfl, h2⟩ := hr
  simpa [Value.cells] using h2
 ·cases h
theorem b8l {E : AE} {nm : Nat} {o : Oper} {t : TypeId} {x : Operand} (ho : o.op = .box t x) (hr : Rel ρ B w0 st a w) (h : (j8 E nm o st).val = some st') : FitsV P ρ B w0 st' o a w := by
 simp only [j8, ho] at h
 split at h
 ·rename_i l hl
  obtain ⟨ρ', h1, h2⟩ := a7w hr h (cs := (a.eval x).cells) (AV.rel_agg_of_segs hl (hr.get x)) t
  exact ⟨_, _, ρ', by simp [execOp, ho, Instr.box, newVar, newRow, newObj, Sem.run, Result.andThen], h1, h2⟩
 ·simp [T.val_fail] at h
theorem b41 {E : AE} (hE : ∀ t i, E.ty t = some i → TyOk P t i) {nm : Nat} {o : Oper} {t : TypeId} (ho : o.op = .alloc t) (hr : Rel ρ B w0 st a w) (h : (j8 E nm o st).val = some st') : FitsV P ρ B w0 st' o a w := by
 simp only [j8, ho] at h
 split at h
 ·rename_i ti ht
  obtain ⟨z, h1, h2, _⟩ := (hE t ti ht).run_zero w
  obtain ⟨ρ', h3, h4⟩ := a7w hr h (cs := z.cells) (N2 h2) t
  exact ⟨_, _, ρ', by simp [execOp, ho, Instr.alloc, h1, newVar, newRow, newObj, Sem.run, Result.andThen], h3, h4⟩
 ·simp [T.val_fail] at h
theorem b1g {E : AE} {nm : Nat} {o : Oper} {x : Operand} (ho : o.op = .move x ∨ o.op = .assign x) (hr : Rel ρ B w0 st a w) (h : (j8 E nm o st).val = some st') : FitsV P ρ B w0 st' o a w := by
 have h' : st.put o.dst (st.get x) = st' := by
  rcases ho with ho | ho <;> · simp only [j8, ho, T.val_ret] at h; exact h
 subst h'
 exact ⟨_, _, ρ, by rcases ho with ho | ho <;> simp [execOp, ho], .refl ρ, hr.put o.dst (hr.get x)⟩
theorem b60 {E : AE} {nm : Nat} {o : Oper} {c x y : Operand} (ho : o.op = .pick c x y) (hr : Rel ρ B w0 st a w) (h : (j8 E nm o st).val = some st') : FitsV P ρ B w0 st' o a w := by
 have hc := hr.get c
 have key : ∀ b : Bool, a.eval c = .bool b → st.put o.dst (st.get (if b then x else y)) = st' → FitsV P ρ B w0 st' o a w := by
  intro b hb hst
  subst hst
  refine ⟨a.eval (if b then x else y), w, ρ, ?_, .refl ρ, hr.put o.dst (hr.get _)⟩
  simp only [execOp, ho, hb, asBool]
  cases b <;> simp
 simp only [j8, ho] at h
 split at h
 ·rename_i e
  rw [e] at hc
  rw [T.val_ret] at h
  exact key true hc h
 ·rename_i e
  rw [e] at hc
  rw [T.val_ret] at h
  exact key false hc h
 ·rename_i p d e
  rw [e] at hc
  rw [T.val_ite] at h
  rcases h with ⟨hp, h⟩ | ⟨hp, h⟩
  ·rw [T.val_ret] at h
   exact key true (by have := hc; simp only [TV.rel, AV.rel, A1.rel, hp, decide_true] at this; exact this) h
  ·rw [T.val_ret] at h
   exact key false (by have := hc; simp only [TV.rel, AV.rel, A1.rel, hp, decide_false] at this; exact this) h
 ·simp [T.val_fail] at h
theorem FD.cell_rel {d : FD} {vs : List Value} (h : d.cells ρ vs) {j : Nat} (hj : j < d.len) : ∃ c, vs[j]? = some c ∧ A1.rel ρ (d.cell j) c := by
 cases d with
 | xs k zs =>
  have h : vs = zs.map k.val := h
  subst h
  have hj : j < zs.length := hj
  exact ⟨k.val (zs.getD j 0), by simp [List.getElem?_map, List.getD, List.getElem?_eq_getElem hj], a8y _ _⟩
 | xss k l =>
  obtain ⟨h1, h2⟩ := h
  have hj : j < l.length := hj
  obtain ⟨a, c, g1, g2, g3⟩ := h2 j l[j] (vs[j]'(by omega)) (List.getElem?_eq_getElem hj) (List.getElem?_eq_getElem (by omega))
  have e : l.getD j [] = l[j] := by simp [List.getD, List.getElem?_eq_getElem hj]
  refine ⟨vs[j]'(by omega), List.getElem?_eq_getElem (by omega), a, c, l[j].map k.val, ?_, ?_, ?_, ?_⟩
  ·rw [g1]; simp only [FD.len, e]
  ·simp only [FD.len, e]; exact g2
  ·simp only [FD.cells, e]
  ·exact g3
theorem b4r {E : AE} (hE : ∀ t i, E.ty t = some i → TyOk P t i) (hr : Rel ρ B w0 st a w) {t : TypeId} {ti : TyI} (ht : E.ty t = some ti) (hagg : ti.td.agg = false) {d : FD} {j : Nat} {v : Value} (hv : A1.rel ρ (.fp d j) v) :
  ∃ p c, v = .pointer (some p) ∧ (loadVar t p).run P w = .ok c w ∧ A1.rel ρ (d.cell j) c := by
 obtain ⟨blk, cells, t', fr, pre, post, vs, rfl, h3, h4, h5, h6⟩ := hv
 obtain ⟨c, g1, g2⟩ := FD.cell_rel h5 h6
 have h3 := hr.m.frz blk _ h3
 exact ⟨_, c, rfl, a3D (hE t ti ht) hagg (a1K h3 h4 g1), g2⟩
theorem b6Z {E : AE} (hE : ∀ t i, E.ty t = some i → TyOk P t i) {nm : Nat} {o : Oper} {t : TypeId} {x : Operand} (ho : o.op = .load t x) (hr : Rel ρ B w0 st a w) (h : (j8 E nm o st).val = some st') : FitsV P ρ B w0 st' o a w := by
 have hx := hr.get x
 simp only [j8, ho] at h
 split at h
 ·rename_i ob b i e
  rw [e] at hx
  simp only [T.val_bind_iff, T.val_ret] at h
  obtain ⟨v, h1, rfl⟩ := h
  obtain ⟨p, c, q1, q2, q3⟩ := b0Z hE hr h1 hx
  exact ⟨c, w, ρ, by simp [execOp, ho, Instr.loadAt, Instr.sureAddr, q1, q2, Result.andThen], .refl ρ, hr.put o.dst (v := .one v) q3⟩
 ·rename_i d j e
  rw [e] at hx
  split at h
  ·rename_i hagg
   rw [T.val_ret] at h
   subst h
   obtain ⟨ti, ht, hti⟩ := Option.map_eq_some_iff.1 hagg
   obtain ⟨p, c, q1, q2, q3⟩ := b4r hE hr ht hti hx
   exact ⟨c, w, ρ, by simp [execOp, ho, Instr.loadAt, Instr.sureAddr, q1, q2, Result.andThen], .refl ρ, hr.putA o.dst q3⟩
  ·simp [T.val_fail] at h
 ·simp [T.val_fail] at h
theorem b0N {E : AE} {nm : Nat} {o : Oper} {x : Operand} (ho : o.op = .nilCheck x) (hr : Rel ρ B w0 st a w) (h : (j8 E nm o st).val = some st') : FitsV P ρ B w0 st' o a w := by
 have hx := hr.get x
 simp only [j8, ho] at h
 split at h
 ·rename_i ob b i e
  rw [e] at hx
  rw [T.val_ret] at h
  subst h
  have hx' := hx
  obtain ⟨l, blk, f, h1, h2, h3⟩ := hx'
  exact ⟨_, w, ρ, by simp [execOp, ho, h3], .refl ρ, hr.putA o.dst ⟨l, blk, f, h1, h2, rfl⟩⟩
 ·simp [T.val_fail] at h
theorem b2n {E : AE} {nm : Nat} {o : Oper} {x : Operand} {j : Nat} (ho : o.op = .extract x j) (hr : Rel ρ B w0 st a w) (h : (j8 E nm o st).val = some st') : FitsV P ρ B w0 st' o a w := by
 have hx := hr.get x
 simp only [j8, ho] at h
 split at h
 ·rename_i l e
  rw [e] at hx
  obtain ⟨vs, h1, h2⟩ := hx
  split at h
  ·rename_i y hy
   rw [T.val_ret] at h
   subst h
   have : ∀ (l : List AV) (vs : List Value) (j : Nat) (y : AV), F4 ρ l vs → l[j]? = some y → ∃ v, vs[j]? = some v ∧ AV.rel ρ y v := by
    intro l
    induction l with
    | nil => intro vs j y _ h; cases h
    | cons a r ih =>
     intro vs j y ⟨v, vs', e1, e2, e3⟩ hj
     subst e1
     cases j with
     | zero => cases hj; exact ⟨v, rfl, e2⟩
     | succ j => exact ih vs' j y e3 (by simpa using hj)
   obtain ⟨v, q1, q2⟩ := this l vs j y h2 hy
   exact ⟨v, w, ρ, by simp [execOp, ho, Instr.extract, h1, q1], .refl ρ, hr.put o.dst (v := .one y) q2⟩
  ·simp [T.val_fail] at h
 ·simp [T.val_fail] at h
theorem a7c {E : AE} (hE : ∀ t i, E.ty t = some i → TyOk P t i) {t : TypeId} {f off : Nat} {ft : TypeId} (h : b1s E t f = some (off, ft)) :
  ∃ fields : Array Field, ∃ g : Field, P.underlying t = some (.struct fields) ∧ fields[f]? = some g ∧ g.offset = off ∧ g.type = ft := by
 unfold b1s at h
 split at h
 ·rename_i fs ht
  obtain ⟨d, h1, h2⟩ := (hE t _ ht).desc
  simp only [TD.is] at h2
  obtain ⟨fields, rfl, h3⟩ := h2
  rw [← h3, List.getElem?_map, Option.map_eq_some_iff] at h
  obtain ⟨g, h4, h5⟩ := h
  cases h5
  exact ⟨fields, g, h1, by rw [← Array.getElem?_toList]; exact h4, rfl, rfl⟩
 ·cases h
end
end Go.Ax
namespace Go.Ax
open Go.RowKit
variable {P : Program}
section
variable {ρ : Env} {B : Nat} {w0 : Base} {st st' : St} {a : Act} {w : World}
theorem b6b {a b : Nat} (h : Nat.beq a b = false) : a ≠ b := Nat.ne_of_beq_eq_false h
theorem a9R {E : AE} (hE : ∀ t i, E.ty t = some i → TyOk P t i) {nm : Nat} {o : Oper} {t : TypeId} {x : Operand} {f : Nat} (ho : o.op = .fieldAddr t x f) (hr : Rel ρ B w0 st a w) (h : (j8 E nm o st).val = some st') : FitsV P ρ B w0 st' o a w := by
 have hx := hr.get x
 simp only [j8, ho] at h
 split at h
 ·rename_i ob b i off ft e hf
  rw [e] at hx
  obtain ⟨fields, g, h1, h2, h3, h4⟩ := a7c hE hf
  split at h
  ·rename_i ti _ _ _ _ ht
   split at h
   ·rename_i hz
    rw [T.val_ret] at h
    subst h
    obtain ⟨l, blk, of0, k1, k2, k3⟩ := hx
    have hs := (hE ft _ ht).run_size w
    have hne : ¬ _ = 0 := b6b hz
    refine ⟨_, w, ρ, ?_, .refl ρ, hr.putA o.dst ⟨l, blk, of0, k1, k2, rfl⟩⟩
    simp only [execOp, ho, Instr.fieldAt, Sem.run_bind, run_underlying h1, Result.andThen_ok, h2, k3, Instr.sureAddr, Sem.run_pure, fieldPlace, h4, hs, hne, if_false, Addr.add_lit, h3]
    congr 5
    omega
   ·simp [T.val_fail] at h
  ·simp [T.val_fail] at h
 ·simp [T.val_fail] at h
theorem b07 {ti : TyI} {t : TypeId} (hk : TyOk P t ti) {l : List Seg} {b : Nat} {i : Option Nat} {x : AV} (h : (b6B ti l b i).val = some x) {cs : List Value} (hr : i2 ρ l cs) (w : World) :
  ∃ v, (part t cs.toArray (b + i.getD 0)).run P w = .ok v w ∧ AV.rel ρ x v := by
 unfold b6B at h
 split at h
 ·rename_i hagg
  simp only [T.val_bind_iff, T.val_ret] at h
  obtain ⟨l', k1, rfl⟩ := h
  obtain ⟨q1, q2⟩ := a7m k1 hr
  refine ⟨.agg (cs.toArray.extract (b + i.getD 0) (b + i.getD 0 + ti.size)), by simp only [part, Sem.run_bind, hk.agg_iff w, hagg, Result.andThen_ok, if_true, hk.run_size w, Sem.run_pure], _, ?_, q1⟩
  congr 1
  apply Array.ext'
  simp [List.extract]
 ·rename_i hagg
  simp only [T.val_bind_iff, T.val_ret] at h
  obtain ⟨a', k1, rfl⟩ := h
  obtain ⟨c, q1, q2⟩ := a9E k1 hr
  exact ⟨c, by simp [part, hk.agg_iff w, hagg, q1], q2⟩
theorem b45 {E : AE} (hE : ∀ t i, E.ty t = some i → TyOk P t i) {nm : Nat} {o : Oper} {t : TypeId} {x : Operand} {f : Nat} (ho : o.op = .field t x f) (hr : Rel ρ B w0 st a w) (h : (j8 E nm o st).val = some st') : FitsV P ρ B w0 st' o a w := by
 have hx := hr.get x
 simp only [j8, ho] at h
 split at h
 ·rename_i l off ft e hf
  rw [e] at hx
  obtain ⟨cs, k1, k2⟩ := hx
  obtain ⟨fields, g, h1, h2, h3, h4⟩ := a7c hE hf
  split at h
  ·rename_i ti ht
   simp only [T.val_bind_iff, T.val_ret] at h
   obtain ⟨y, q1, rfl⟩ := h
   obtain ⟨v, q2, q3⟩ := b07 (hE ft ti ht) q1 k2 w
   refine ⟨v, w, ρ, ?_, .refl ρ, hr.put o.dst (v := .one y) q3⟩
   simp only [Option.getD_none, Nat.add_zero] at q2
   simp [execOp, ho, Instr.field, run_underlying h1, h2, k1, asAgg, h4, h3, q2]
  ·simp [T.val_fail] at h
 ·simp [T.val_fail] at h
theorem T2 {x : TV} {k : IntKind} {n : Int} {v : Value} (h : asI x = some (k, n)) (hr : TV.rel ρ x v) : v = .int k n := by
 unfold asI at h
 split at h
 ·cases h; exact hr
 ·cases h
theorem a9S {E : AE} (hE : ∀ t i, E.ty t = some i → TyOk P t i) {nm : Nat} {o : Oper} {t : TypeId} {x ix : Operand} (ho : o.op = .indexAddr t x ix) (hr : Rel ρ B w0 st a w) (h : (j8 E nm o st).val = some st') : FitsV P ρ B w0 st' o a w := by
 have hx := hr.get x
 have hi := hr.get ix
 simp only [j8, ho] at h
 unfold a3N at h
 split at h
 ·rename_i n e _ _ _ ob b i kj j ht hp hj
  rw [hp] at hx
  have hiv := T2 hj hi
  obtain ⟨d, hd, hdd⟩ := (hE t _ ht).desc
  simp only [TD.is] at hdd
  subst hdd
  obtain ⟨l, blk, of0, k1, k2, k3⟩ := hx
  split at h
  ·rename_i te hte
   have hs := (hE e te hte).run_size w
   have fin : ∀ (y : A1), 0 ≤ j → j < (n : Int) → A1.rel ρ y (.pointer (some ⟨blk, of0 + (b + i.getD 0) + j.toNat * te.size, none⟩)) → FitsV P ρ B w0 (st.putA o.dst y) o a w := by
    intro y h0 h1 hy
    refine ⟨_, w, ρ, ?_, .refl ρ, hr.putA o.dst hy⟩
    have hc : (0 ≤ j ∧ j < (n : Int)) := ⟨h0, h1⟩
    simp [execOp, ho, Instr.indexAt, hiv, asIntOf, run_underlying hd, k3, Instr.sureAddr, hc, hs, Addr.add_lit]
   split at h
   ·split at h
    ·rename_i hdec
     have hdec := of_decide_eq_true hdec
     rw [T.val_ret] at h
     subst h
     exact fin _ hdec.1 hdec.2 ⟨l, blk, of0, k1, k2, by congr 3; omega⟩
    ·simp [T.val_fail] at h
   ·simp only [T.val_ite, T.val_ret, T.val_fail, and_false, or_false] at h
    obtain ⟨h0, h1, rfl⟩ := h
    exact fin _ h0 h1 ⟨l, blk, of0, k1, k2, by rw [b95, U0, Option.getD_some]; congr 3; omega⟩
  ·simp [T.val_fail] at h
 ·rename_i e _ _ _ ob len es kj j ht hp hj
  rw [hp] at hx
  have hiv := T2 hj hi
  obtain ⟨d, hd, hdd⟩ := (hE t _ ht).desc
  simp only [TD.is] at hdd
  subst hdd
  obtain ⟨l, k1, k2, k3, k4, k5, k6, k7⟩ := hx
  split at h
  ·rename_i te hte
   have hs := (hE e te hte).run_size w
   have fin : ∀ (b : Nat) (i : Option Nat), 0 ≤ j → j < (len : Int) → b + i.getD 0 = j.toNat * te.size → FitsV P ρ B w0 (st.putA o.dst (.ptr ob b i)) o a w := by
    intro b i h0 h1 hb
    cases ha : l.a with
    | none => have := k6 ha; omega
    | some p =>
     obtain ⟨blk, of0⟩ := p
     refine ⟨.pointer (some ⟨blk, of0 + j.toNat * te.size, none⟩), w, ρ, ?_, .refl ρ, hr.putA o.dst ⟨l, blk, of0, k1, ha, by congr 3; omega⟩⟩
     have hc : (0 ≤ j ∧ j < (l.size : Int)) := ⟨h0, by omega⟩
     have k8 := k7 (by omega)
     simp [execOp, ho, Instr.indexAt, hiv, asIntOf, run_underlying hd, k4, k8, Loc.addr, ha, hc, hs, Addr.add_lit]
   split at h
   ·split at h
    ·rename_i hdec
     have hdec := of_decide_eq_true hdec
     rw [T.val_ret] at h
     cases h
     exact fin _ _ hdec.1 hdec.2 (by simp)
    ·simp [T.val_fail] at h
   ·simp only [T.val_ite, T.val_ret, T.val_fail, and_false, or_false] at h
    obtain ⟨h0, h1, rfl⟩ := h
    exact fin _ _ h0 h1 (by simp [U0])
  ·simp [T.val_fail] at h
 ·rename_i e _ _ _ ob off len cap es kj j ht hp hj
  rw [hp] at hx
  have hiv := T2 hj hi
  obtain ⟨d, hd, hdd⟩ := (hE t _ ht).desc
  simp only [TD.is] at hdd
  subst hdd
  obtain ⟨l, a0, c, k1, k2, k3, k4, _, k5⟩ := hx
  split at h
  ·rename_i te hte
   have hs := (hE e te hte).run_size w
   simp only [T.val_ite, T.val_ret, T.val_fail, and_false, or_false] at h
   obtain ⟨h0, h1, rfl⟩ := h
   obtain ⟨blk, of0, k6, k7⟩ := k5 (by omega)
   subst k7
   refine ⟨.pointer (some ⟨blk, of0 + off + j.toNat * te.size, none⟩), w, ρ, ?_, .refl ρ, hr.putA o.dst ⟨l, blk, of0, k1, k6, by rw [c8, U0, Option.getD_some]; congr 3; omega⟩⟩
   have hc : (0 ≤ j ∧ j < (len : Int)) := ⟨h0, h1⟩
   simp [execOp, ho, Instr.indexAt, hiv, asIntOf, run_underlying hd, k2, hc, hs, Addr.add_lit]
  ·simp [T.val_fail] at h
 ·rename_i e _ _ _ d kj j ht hp hj
  rw [hp] at hx
  have hiv := T2 hj hi
  obtain ⟨d', hd, hdd⟩ := (hE t _ ht).desc
  simp only [TD.is] at hdd
  subst hdd
  obtain ⟨a0, c, vs, k2, k3, k4, k5⟩ := hx
  split at h
  ·rename_i te hte
   have hs := (hE e te hte).run_size w
   split at h
   ·rename_i h1s
    have h1s := i5 h1s
    simp only [T.val_ite, T.val_ret, T.val_fail, and_false, or_false] at h
    obtain ⟨h0, h1, rfl⟩ := h
    have hl := FD.cells_len k4
    obtain ⟨blk, cells, t', fr, pre, post, e1, _, e3, e4⟩ := k5 (by omega)
    subst e1
    refine ⟨.pointer (some ⟨blk, pre.length + j.toNat, none⟩), w, ρ, ?_, .refl ρ, hr.putA o.dst ⟨blk, cells, t', fr, pre, post, vs, rfl, e3, e4, k4, by omega⟩⟩
    have hc : (0 ≤ j ∧ j < (d.len : Int)) := ⟨h0, h1⟩
    simp [execOp, ho, Instr.indexAt, hiv, asIntOf, run_underlying hd, k2, hc, hs, h1s, Addr.add_lit]
   ·simp [T.val_fail] at h
  ·simp [T.val_fail] at h
 ·simp [T.val_fail] at h
theorem b46 {E : AE} (hE : ∀ t i, E.ty t = some i → TyOk P t i) {nm : Nat} {o : Oper} {t : TypeId} {x ix : Operand} (ho : o.op = .index t x ix) (hr : Rel ρ B w0 st a w) (h : (j8 E nm o st).val = some st') : FitsV P ρ B w0 st' o a w := by
 have hx := hr.get x
 have hi := hr.get ix
 simp only [j8, ho] at h
 unfold b5H at h
 split at h
 ·rename_i n e _ _ _ l kj j ht hp hj
  rw [hp] at hx
  have hiv := T2 hj hi
  obtain ⟨d, hd, hdd⟩ := (hE t _ ht).desc
  simp only [TD.is] at hdd
  subst hdd
  obtain ⟨cs, k1, k2⟩ := hx
  split at h
  ·rename_i te hte
   have hs := (hE e te hte).run_size w
   have fin : ∀ (b : Nat) (i : Option Nat) (y : AV), (b6B te l b i).val = some y → b + i.getD 0 = j.toNat * te.size → 0 ≤ j → j < (n : Int) → FitsV P ρ B w0 (st.put o.dst (.one y)) o a w := by
    intro b i y hy hb h0 h1
    obtain ⟨v, q2, q3⟩ := b07 (hE e te hte) hy k2 w
    rw [hb] at q2
    refine ⟨v, w, ρ, ?_, .refl ρ, hr.put o.dst (v := .one y) q3⟩
    have hc : (0 ≤ j ∧ j < (n : Int)) := ⟨h0, h1⟩
    simp [execOp, ho, Instr.index, hiv, asIntOf, run_underlying hd, k1, hc, hs, q2]
   split at h
   ·split at h
    ·rename_i hdec
     have hdec := of_decide_eq_true hdec
     simp only [T.val_bind_iff, T.val_ret] at h
     obtain ⟨y, q1, rfl⟩ := h
     exact fin _ _ _ q1 (by simp) hdec.1 hdec.2
    ·simp [T.val_fail] at h
   ·simp only [T.val_ite, T.val_bind_iff, T.val_ret, T.val_fail, and_false, or_false] at h
    obtain ⟨h0, h1, y, q1, rfl⟩ := h
    exact fin _ _ _ q1 (by simp [U0]) h0 h1
  ·simp [T.val_fail] at h
 ·rename_i _ _ _ s kj j ht hp hj
  rw [hp] at hx
  have hiv := T2 hj hi
  obtain ⟨d, hd, hdd⟩ := (hE t _ ht).desc
  simp only [TD.is] at hdd
  subst hdd
  simp only [T.val_ite, T.val_ret, T.val_fail, and_false, or_false] at h
  obtain ⟨h0, h1, rfl⟩ := h
  have hx' : a.eval x = .string s := hx
  have hlt : j.toNat < s.size := by omega
  have hg : s[j.toNat]? = some s[j.toNat] := by simp [hlt]
  have hb : ((s[j.toNat].toNat : Nat) : Int) = bt s j.toNat := by
   unfold bt
   congr 2
   rw [List.getD_eq_getElem?_getD, Array.getElem?_toList, Array.getElem?_eq_getElem (show j.toNat < s.data.size from hlt)]
   rfl
  refine ⟨.int .u8 (bt s j.toNat), w, ρ, ?_, .refl ρ, hr.putA o.dst rfl⟩
  rw [← hb]
  simp [execOp, ho, Instr.index, hiv, asIntOf, run_underlying hd, hx', h0, hg]
 ·simp [T.val_fail] at h
end
end Go.Ax
