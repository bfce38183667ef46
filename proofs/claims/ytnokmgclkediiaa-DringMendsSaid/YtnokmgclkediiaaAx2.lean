/- A part of the proof: Ax2. -/
import Derived.Test.YtnokmgclkediiaaAx1
/-! ### The abstract evaluator: one operation -/
namespace Go.Ax
open Go.RowKit

/-- What the evaluator knows of a type. -/
inductive TD where
  | int (k : IntKind)
  | bool
  | str
  | ptr (e : TypeId)
  | sl (e : TypeId)
  | arr (n : Nat) (e : TypeId)
  | st (fs : List (Nat × TypeId))
  | other
structure TyI where
  td : TD
  size : Nat
  bytes : Nat
  zero : List Seg
def TD.agg : TD → Bool
  | .arr _ _ | .st _ => true
  | _ => false

def ofVal : Value → AV
  | .int k n => .sc (.int k n)
  | .bool b => .sc (.known b)
  | .string s => .sc (.str s)
  | .pointer none => .sc .nilp
  | .slice none 0 0 => .sc .nilsl
  | .nilIface => .sc .nilif
  | .func (.func f) first captured => match first, captured with
    | ⟨[]⟩, ⟨[]⟩ => .sc (.fn f)
    | _, _ => .any
  | _ => .any

def St.get (st : St) : Operand → TV
  | .tmp t => st.tmps.getD t (.one .any)
  | .const v => .one (ofVal v)
  | .func f => .one (.sc (.fn f))
  | _ => .one .any
def St.put (st : St) (dst : Option Tmp) (v : TV) : St :=
  match dst with
  | none => st
  | some d => { st with tmps := st.tmps.set d v }
def St.putA (st : St) (dst : Option Tmp) (a : A1) : St := st.put dst (.one (.sc a))
def St.look (st : St) (o : Nat) : Option Ob := match st.mem[o]? with
  | some (.live b) => some b
  | _ => none
def St.new (st : St) (nm : Nat) (b : Ob) : Option St := match st.mem[nm]? with
  | some .free => some { st with mem := st.mem.set nm (.live b) }
  | _ => none
def St.upd (st : St) (o : Nat) (l : List Seg) : St := { st with mem := st.mem.set o (.live { segs := l, own := true }) }

def T.ofOpt {α : Type} : Option α → T α
  | some a => .ret a
  | none => .fail

/-- b + j, where b is a numeral. -/
def addN (b j : Nat) : Nat := match b with
  | 0 => j
  | b + 1 => b + 1 + j
theorem addN_eq (b j : Nat) : addN b j = b + j := by cases b <;> simp [addN]
/-- j * e, where e is a numeral. -/
def mulN (j e : Nat) : Nat := match e with
  | 1 => j
  | e => j * e
theorem mulN_eq (j e : Nat) : mulN j e = j * e := by unfold mulN; split <;> simp
def addI (i : Option Nat) (j : Nat) : Nat := match i with
  | none => j
  | some i => i + j
theorem addI_eq (i : Option Nat) (j : Nat) : addI i j = i.getD 0 + j := by cases i <;> simp [addI]

def cellA : CK → Int → A1
  | .int k, z => .int k z
  | .bool, z => .bool (z ≠ 0) inferInstance
def cellI : CK → A1 → Option Int
  | .int k, .int k' z => if k = k' then some z else none
  | .bool, .known b => some (match b with | true => 1 | false => 0)
  | .bool, .bool p d => some (@_root_.ite _ p d 1 0)
  | _, _ => none

def findSeg : List Seg → Nat → Option (Seg × Nat)
  | [], _ => none
  | [.xs k n zs], b => some (.xs k n zs, b)
  | .xs k n zs :: r, b => match Nat.blt b n with
    | true => some (.xs k n zs, b)
    | false => findSeg r (b - n)
  | .one a :: r, b => match b with
    | 0 => some (.one a, 0)
    | b + 1 => findSeg r b

def readAt (l : List Seg) (b : Nat) (i : Option Nat) : T A1 :=
  match findSeg l b with
  | some (.xs k n zs, b) => match i with
    | none => match Nat.blt b n with
      | true => .ret (cellA k (zs.getD b 0))
      | false => .fail
    | some j => .ite (addN b j < n) inferInstance (.ret (cellA k (zs.getD (addN b j) 0))) .fail
  | some (.one a, b) => match i, b with
    | none, 0 => .ret a
    | _, _ => .fail
  | none => .fail

def modSeg (f : Seg → Nat → T Seg) : List Seg → Nat → T (List Seg)
  | [], _ => .fail
  | [.xs k n zs], b => (f (.xs k n zs) b).bind fun s => .ret [s]
  | .xs k n zs :: r, b => match Nat.blt b n with
    | true => (f (.xs k n zs) b).bind fun s => .ret (s :: r)
    | false => (modSeg f r (b - n)).bind fun r' => .ret (.xs k n zs :: r')
  | .one a :: r, b => match b with
    | 0 => (f (.one a) 0).bind fun s => .ret (s :: r)
    | b + 1 => (modSeg f r b).bind fun r' => .ret (.one a :: r')

def writeCell (i : Option Nat) (a : A1) : Seg → Nat → T Seg
  | .xs k n zs, b => match cellI k a with
    | none => .fail
    | some z => match i with
      | none => match Nat.blt b n with
        | true => .ret (.xs k n (zs.set b z))
        | false => .fail
      | some j => .ite (addN b j < n) inferInstance (.ret (.xs k n (zs.set (addN b j) z))) .fail
  | .one _, b => match i, b with
    | none, 0 => .ret (.one a)
    | _, _ => .fail

def takeS : List Seg → Nat → Option (List Seg)
  | [], m => match m with
    | 0 => some []
    | _ + 1 => none
  | .xs k n zs :: r, m => match Nat.beq m n with
    | true => some [.xs k n zs]
    | false => match Nat.blt m n with
      | true => some [.xs k m (zs.take m)]
      | false => (takeS r (m - n)).map (.xs k n zs :: ·)
  | .one a :: r, m => match m with
    | 0 => some []
    | m + 1 => (takeS r m).map (.one a :: ·)
def dropS : List Seg → Nat → Option (List Seg)
  | [], m => match m with
    | 0 => some []
    | _ + 1 => none
  | .xs k n zs :: r, m => match m with
    | 0 => some (.xs k n zs :: r)
    | m + 1 => match Nat.blt (m + 1) n with
      | true => some (.xs k (n - (m + 1)) (zs.drop (m + 1)) :: r)
      | false => dropS r (m + 1 - n)
  | .one a :: r, m => match m with
    | 0 => some (.one a :: r)
    | m + 1 => dropS r m

/-- m cells from a place on. -/
def readAgg (l : List Seg) (b : Nat) (i : Option Nat) (m : Nat) : T (List Seg) :=
  match i with
  | none => match dropS l b with
    | some l' => T.ofOpt (takeS l' m)
    | none => .fail
  | some j => match findSeg l b with
    | some (.xs k n zs, b) => .ite (addN b j + m ≤ n) inferInstance (.ret [.xs k m ((zs.drop (addN b j)).take m)]) .fail
    | _ => .fail

def writePart (j m : Nat) (ys : List Int) (k' : CK) : Seg → Nat → T Seg
  | .xs k n zs, b => match decide (k = k') with
    | true => .ite (addN b j + m ≤ n) inferInstance (.ret (.xs k n (zs.take (addN b j) ++ ys ++ zs.drop (addN b j + m)))) .fail
    | false => .fail
  | _, _ => .fail

def writeAgg (l : List Seg) (b : Nat) (i : Option Nat) (m : Nat) (new : List Seg) : T (List Seg) :=
  match i with
  | none => match takeS l b, dropS l (b + m) with
    | some x, some y => match b with
      | 0 => .ret (new ++ y)
      | _ => .ret (x ++ new ++ y)
    | _, _ => .fail
  | some j => match new with
    | [.xs k m' ys] => match Nat.beq m' m with
      | true => modSeg (writePart j m ys k) l b
      | false => .fail
    | _ => .fail

/-! The operators on numbers. -/
def wmask (k : IntKind) : Int → BitVec k.bits := BitVec.ofInt k.bits
def iand (k : IntKind) (x y : Int) : Int := k.wrap (wmask k x &&& wmask k y).toNat
def ior (k : IntKind) (x y : Int) : Int := k.wrap (wmask k x ||| wmask k y).toNat
def ixor (k : IntKind) (x y : Int) : Int := k.wrap (wmask k x ^^^ wmask k y).toNat
def iandNot (k : IntKind) (x y : Int) : Int := k.wrap (wmask k x &&& ~~~ wmask k y).toNat
def ishl (k : IntKind) (x y : Int) : Int := k.wrap (x * 2 ^ (min y.toNat k.bits))
def ishr (k : IntKind) (x y : Int) : Int := x.fdiv (2 ^ (min y.toNat k.bits))

def cmpA (op : BinOp) (x y : Int) : Option A1 :=
  match op with
  | .eql => some (.bool (x = y) inferInstance)
  | .neq => some (.bool (x ≠ y) inferInstance)
  | .lss => some (.bool (x < y) inferInstance)
  | .leq => some (.bool (x ≤ y) inferInstance)
  | .gtr => some (.bool (x > y) inferInstance)
  | .geq => some (.bool (x ≥ y) inferInstance)
  | _ => none

def intOp (op : BinOp) (k : IntKind) (x y : Int) : T A1 :=
  match op with
  | .add => .ret (.int k (k.wrap (x + y)))
  | .sub => .ret (.int k (k.wrap (x - y)))
  | .mul => .ret (.int k (k.wrap (x * y)))
  | .quo => .ite (y = 0) inferInstance .fail (.ret (.int k (k.wrap (x.tdiv y))))
  | .rem => .ite (y = 0) inferInstance .fail (.ret (.int k (x.tmod y)))
  | .and => .ret (.int k (iand k x y))
  | .or => .ret (.int k (ior k x y))
  | .xor => .ret (.int k (ixor k x y))
  | .andNot => .ret (.int k (iandNot k x y))
  | op => T.ofOpt (cmpA op x y)

/-- With a numeral on the right no test is left. -/
def intOpC (op : BinOp) (k : IntKind) (x y : Int) : T A1 :=
  match op with
  | .quo => match decide (y = 0) with
    | true => .fail
    | false => .ret (.int k (k.wrap (x.tdiv y)))
  | .rem => match decide (y = 0) with
    | true => .fail
    | false => .ret (.int k (x.tmod y))
  | op => intOp op k x y

def shOp (op : BinOp) (k : IntKind) (x y : Int) : T A1 :=
  match op with
  | .shl => .ite (y < 0) inferInstance .fail (.ret (.int k (ishl k x y)))
  | .shr => .ite (y < 0) inferInstance .fail (.ret (.int k (ishr k x y)))
  | _ => .fail
def shOpC (op : BinOp) (k : IntKind) (x y : Int) : T A1 :=
  match op with
  | .shl => match decide (y < 0) with
    | true => .fail
    | false => .ret (.int k (ishl k x y))
  | .shr => match decide (y < 0) with
    | true => .fail
    | false => .ret (.int k (ishr k x y))
  | _ => .fail

def isShift : BinOp → Bool
  | .shl | .shr => true
  | _ => false
def isConst : Operand → Bool
  | .const _ => true
  | _ => false

def notA : A1 → Option A1
  | .known b => some (.known (match b with | true => false | false => true))
  | .bool p _ => some (.bool (¬ p) inferInstance)
  | _ => none

/-- A comparison of two lists of numbers (arrays). -/
def eqXs (neq : Bool) (a b : List Int) : A1 := match neq with
  | false => .bool (a = b) inferInstance
  | true => .bool (a ≠ b) inferInstance

def eqBs (neq : Bool) (a b : List Int) : A1 := match neq with
  | false => .bool (a.map (· != 0) = b.map (· != 0)) inferInstance
  | true => .bool (a.map (· != 0) ≠ b.map (· != 0)) inferInstance

def flatS (k : CK) : List Seg → Option (List Int)
  | [] => some []
  | [.xs k' _ zs] => if k = k' then some zs else none
  | .xs k' _ zs :: r => if k = k' then (flatS k r).map (zs ++ ·) else none
  | .one a :: r => match cellI k a with
    | some z => (flatS k r).map (z :: ·)
    | none => none
end Go.Ax
