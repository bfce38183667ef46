/- A part of the proof: Ax3. -/
import Derived.Test.YtnokmgclkediiaaAx2
/-! ### Kinds of data, what calls answer, one operation -/
namespace Go.Ax
open Go.RowKit

/-- What lies behind a pointer that is only read through. -/
inductive RK where
  | int (k : IntKind)
  | xs (k : CK) (n : Nat)
  | sl (k : CK)
abbrev RK.T : RK → Type
  | .int _ => Int
  | .xs _ _ => List Int
  | .sl _ => List Int
/-- Kinds of arguments and results, and the plain data that they hold. -/
inductive Kd where
  | int (k : IntKind)
  | bool
  | str
  | xs (k : CK) (n : Nat)
  | sl (k : CK)
  | sls (k : CK)
  | fnc (f : FuncId)
  | rp (K : RK)
  | sla (k : CK) (m : Nat)
abbrev Kd.T : Kd → Type
  | .int _ => Int
  | .bool => Bool
  | .str => ByteArray
  | .xs _ _ => List Int
  | .sl _ => List Int
  | .sls _ => List (List Int)
  | .fnc _ => Unit
  | .rp K => K.T
  | .sla _ _ => List Int
abbrev Ds : List Kd → Type
  | [] => Unit
  | k :: r => k.T × Ds r
/-- Results: none, one, more. -/
abbrev Rs : List Kd → Type
  | [] => Unit
  | [k] => k.T
  | k :: r => k.T × Rs r

/-- The numbers of a slice's row. -/
def sliceXs (k : CK) (st : St) : A1 → Option (List Int)
  | .nilsl => some []
  | .vec o _ es => match Nat.beq es 1 with
    | true => match st.look o with
      | some b => flatS k b.segs
      | none => none
    | false => none
  | .sl o off len _ es => match Nat.beq es 1, st.look o with
    | true, some b => match b.segs with
      | [.xs k' _ zs] => if k = k' then some ((zs.drop off).take len) else none
      | _ => none
    | _, _ => none
  | _ => none
def slicesXs (k : CK) (st : St) : List Seg → Option (List (List Int))
  | [] => some []
  | .one a :: r => match sliceXs k st a, slicesXs k st r with
    | some x, some y => some (x :: y)
    | _, _ => none
  | _ => none

/-- So many cells of an object, from a place on. -/
def segsAt (l : List Seg) (b m : Nat) : Option (List Seg) := match dropS l b with
  | some l' => takeS l' m
  | none => none
def RK.get (st : St) (l : List Seg) (b : Nat) : (K : RK) → Option K.T
  | .int k => match segsAt l b 1 with
    | some l2 => (flatS (.int k) l2).map fun zs => zs.getD 0 0
    | none => none
  | .xs k n => match segsAt l b n with
    | some l2 => flatS k l2
    | none => none
  | .sl k => match segsAt l b 1 with
    | some [.one a] => sliceXs k st a
    | _ => none

def Kd.get (st : St) : (K : Kd) → TV → Option K.T
  | .int k, .one (.sc (.int k' n)) => if k = k' then some n else none
  | .bool, .one (.sc (.known b)) => some b
  | .bool, .one (.sc (.bool p d)) => some (@decide p d)
  | .str, .one (.sc (.str s)) => some s
  | .xs k n, .one (.agg l) => match Nat.beq (segLen l) n with
    | true => flatS k l
    | false => none
  | .sl k, .one (.sc a) => sliceXs k st a
  | .sls _, .one (.sc .nilsl) => some []
  | .sls k, .one (.sc (.vec o _ es)) => match Nat.beq es 1 with
    | true => match st.look o with
      | some b => slicesXs k st b.segs
      | none => none
    | false => none
  | .fnc f, .one (.sc (.fn g)) => match Nat.beq f g with
    | true => some ()
    | false => none
  | .rp K, .one (.sc (.ptr o b none)) => match st.look o with
    | some ob => K.get st ob.segs b
    | none => none
  | .sla _ _, .one (.sc .nilsl) => some []
  | .sla k m, .one (.sc (.vec o _ es)) => match Nat.beq es m, Nat.blt 0 m with
    | true, true => match st.look o with
      | some b => flatS k b.segs
      | none => none
    | _, _ => none
  | _, _ => none
def getAll (st : St) : (ks : List Kd) → List TV → Option (Ds ks)
  | [], [] => some ()
  | k :: ks, v :: vs => match k.get st v, getAll st ks vs with
    | some x, some y => some (x, y)
    | _, _ => none
  | _, _ => none

/-- What is made of an answer: the value, and the objects of its own. -/
def Kd.make (nm : Nat) : (K : Kd) → K.T → AV × List Ob
  | .int k, n => (.sc (.int k n), [])
  | .bool, b => (.sc (.bool (b = true) inferInstance), [])
  | .str, s => (.sc (.str s), [])
  | .xs k n, zs => (.agg [.xs k n zs], [])
  | .sl k, zs => (.sc (.vec nm zs.length 1), [{ segs := [.xs k zs.length zs], own := true }])
  | .sls _, _ => (.any, [])
  | .fnc f, _ => (.sc (.fn f), [])
  | .rp _, _ => (.any, [])
  | .sla k m, zs => (.sc (.vec nm (zs.length / m) m), [{ segs := [.xs k zs.length zs], own := true }])
def makeAll (nm : Nat) : (ks : List Kd) → Rs ks → List AV × List Ob
  | [], _ => ([], [])
  | [k], x => let p := k.make nm x; ([p.1], p.2)
  | k :: k2 :: r, x => let p := k.make nm x.1; let q := makeAll (nm + p.2.length) (k2 :: r) x.2; (p.1 :: q.1, p.2 ++ q.2)
def tvOf : List AV → TV
  | [a] => .one a
  | l => .tup l
def St.newAll (st : St) (nm : Nat) : List Ob → Option St
  | [] => some st
  | b :: r => match st.new nm b with
    | some st' => st'.newAll (nm + 1) r
    | none => none

structure Sig where
  args : List Kd
  res : List Kd
  g : Ds args → Option (Rs res)
structure AE where
  ty : TypeId → Option TyI
  fn : FuncId → List Sig

def asI : TV → Option (IntKind × Int)
  | .one (.sc (.int k n)) => some (k, n)
  | _ => none
def segsOf : TV → Option (List Seg)
  | .one (.sc a) => some [.one a]
  | .one (.agg l) => some l
  | _ => none

def loadT (E : AE) (st : St) (t : TypeId) (o b : Nat) (i : Option Nat) : T AV :=
  match E.ty t, st.look o with
  | some ti, some ob => match ti.td.agg with
    | true => (readAgg ob.segs b i ti.size).bind fun l => .ret (.agg l)
    | false => (readAt ob.segs b i).bind fun a => .ret (.sc a)
  | _, _ => .fail
def storeT (E : AE) (st : St) (t : TypeId) (o b : Nat) (i : Option Nat) (v : TV) : T St :=
  match E.ty t, st.look o with
  | some ti, some ob => match ob.own with
    | true => match ti.td.agg, v with
      | true, .one (.agg l) => match Nat.beq (segLen l) ti.size with
        | true => (writeAgg ob.segs b i ti.size l).bind fun l' => .ret (st.upd o l')
        | false => .fail
      | false, .one (.sc a) => (modSeg (writeCell i a) ob.segs b).bind fun l' => .ret (st.upd o l')
      | _, _ => .fail
    | false => .fail
  | _, _ => .fail

/-- A part of a value: m cells from the cell b on. -/
def partT (ti : TyI) (l : List Seg) (b : Nat) (i : Option Nat) : T AV :=
  match ti.td.agg with
  | true => (readAgg l b i ti.size).bind fun l => .ret (.agg l)
  | false => (readAt l b i).bind fun a => .ret (.sc a)

def putPart (ti : TyI) (l : List Seg) (b : Nat) (v : TV) : T (List Seg) :=
  match ti.td.agg, v with
  | true, .one (.agg l') => match Nat.beq (segLen l') ti.size with
    | true => writeAgg l b none ti.size l'
    | false => .fail
  | false, .one (.sc a) => modSeg (writeCell none a) l b
  | _, _ => .fail
/-- Parts put into a value, one behind the other. -/
def putParts (E : AE) (place : Nat → Option (Nat × TypeId)) : List Seg → List (Nat × TV) → T (List Seg)
  | l, [] => .ret l
  | l, (j, v) :: r => match place j with
    | some (off, t) => match E.ty t with
      | some ti => (putPart ti l off v).bind fun l' => putParts E place l' r
      | none => .fail
    | none => .fail

/-- So many copies of a zero value. -/
def repS (n : Nat) : List Seg → Option (List Seg)
  | [.xs k m zs] => match zs.all (· == 0) with
    | true => some [.xs k (mulN n m) (List.replicate (mulN n m) 0)]
    | false => none
  | _ => none

def newPtr (st : St) (nm : Nat) (dst : Option Tmp) (l : List Seg) : T St :=
  match st.new nm { segs := l, own := true } with
  | some st' => .ret (st'.putA dst (.ptr nm 0 none))
  | none => .fail
def newVec (st : St) (nm : Nat) (dst : Option Tmp) (l : List Seg) (len es : Nat) : T St :=
  match st.new nm { segs := l, own := true } with
  | some st' => .ret (st'.putA dst (.vec nm len es))
  | none => .fail

/-- The index of an array or of a slice. -/
def indexAddrT (E : AE) (st : St) (dst : Option Tmp) (t : TypeId) (x : TV) (ix : Operand) : T St :=
  match E.ty t, x, asI (st.get ix) with
  | some { td := .arr n e, .. }, .one (.sc (.ptr o b i)), some (_, j) => match E.ty e with
    | some te => match isConst ix with
      | true => match decide (0 ≤ j ∧ j < (n : Int)) with
        | true => .ret (st.putA dst (.ptr o (b + j.toNat * te.size) i))
        | false => .fail
      | false => .ite (0 ≤ j) inferInstance (.ite (j < (n : Int)) inferInstance (.ret (st.putA dst (.ptr o b (some (addI i (mulN j.toNat te.size)))))) .fail) .fail
    | none => .fail
  | some { td := .sl e, .. }, .one (.sc (.vec o len _)), some (_, j) => match E.ty e with
    | some te => .ite (0 ≤ j) inferInstance (.ite (j < (len : Int)) inferInstance (.ret (st.putA dst (.ptr o 0 (some (mulN j.toNat te.size))))) .fail) .fail
    | none => .fail
  | some { td := .sl e, .. }, .one (.sc (.sl o off len _ _)), some (_, j) => match E.ty e with
    | some te => .ite (0 ≤ j) inferInstance (.ite (j < (len : Int)) inferInstance (.ret (st.putA dst (.ptr o 0 (some (addN off (mulN j.toNat te.size)))))) .fail) .fail
    | none => .fail
  | _, _, _ => .fail

/-- The byte of a string. -/
def bt (s : ByteArray) (i : Nat) : Int := (s.data.toList.getD i 0).toNat

def indexT (E : AE) (st : St) (dst : Option Tmp) (t : TypeId) (x : TV) (ix : Operand) : T St :=
  match E.ty t, x, asI (st.get ix) with
  | some { td := .arr n e, .. }, .one (.agg l), some (_, j) => match E.ty e with
    | some te => match isConst ix with
      | true => match decide (0 ≤ j ∧ j < (n : Int)) with
        | true => (partT te l (j.toNat * te.size) none).bind fun a => .ret (st.put dst (.one a))
        | false => .fail
      | false => .ite (0 ≤ j) inferInstance (.ite (j < (n : Int)) inferInstance ((partT te l 0 (some (mulN j.toNat te.size))).bind fun a => .ret (st.put dst (.one a))) .fail) .fail
    | none => .fail
  | some { td := .str, .. }, .one (.sc (.str s)), some (_, j) =>
    .ite (0 ≤ j) inferInstance (.ite (j < (s.size : Int)) inferInstance (.ret (st.putA dst (.int .u8 (bt s j.toNat)))) .fail) .fail
  | _, _, _ => .fail

/-- A bound of a slice expression: given, or d. -/
def boundT (st : St) (x : Option Operand) (d most : Nat) (K : Nat → T St) : T St :=
  match x with
  | none => K d
  | some x => match asI (st.get x) with
    | some (_, j) => match isConst x with
      | true => match j with
        | .ofNat j => .ite (j ≤ most) inferInstance (K j) .fail
        | _ => .fail
      | false => .ite (0 ≤ j) inferInstance (.ite (j ≤ (most : Int)) inferInstance (K j.toNat) .fail) .fail
    | none => .fail
def subN (a b : Nat) : Nat := match b with
  | 0 => a
  | b + 1 => a - (b + 1)
theorem subN_eq (a b : Nat) : subN a b = a - b := by cases b <;> simp [subN]

def sliceT (E : AE) (st : St) (dst : Option Tmp) (t : TypeId) (x : TV) (lo hi : Option Operand) : T St :=
  match E.ty t, x with
  | some { td := .arr n e, .. }, .one (.sc (.ptr o b none)) => match E.ty e, st.look o with
    | some te, some ob => match Nat.ble (b + n * te.size) (segLen ob.segs) with
      | true => boundT st hi n n fun h => boundT st lo 0 h fun l => .ret (st.putA dst (.sl o (addN b (mulN l te.size)) (subN h l) (subN n l) te.size))
      | false => .fail
    | _, _ => .fail
  | some { td := .sl e, .. }, .one (.sc (.vec o len es)) => match E.ty e with
    | some te => match Nat.beq es te.size with
      | true => boundT st hi len len fun h => boundT st lo 0 h fun l => .ret (st.putA dst (.sl o (mulN l te.size) (subN h l) (subN len l) te.size))
      | false => .fail
    | none => .fail
  | some { td := .sl e, .. }, .one (.sc (.sl o off len cap es)) => match E.ty e with
    | some te => match Nat.beq es te.size with
      | true => boundT st hi len len fun h => boundT st lo 0 h fun l => .ret (st.putA dst (.sl o (addN off (mulN l te.size)) (subN h l) (subN cap l) te.size))
      | false => .fail
    | none => .fail
  | some { td := .str, .. }, .one (.sc (.str s)) => boundT st hi s.size s.size fun h => boundT st lo 0 h fun l => .ret (st.putA dst (.str (s.extract l h)))
  | _, _ => .fail

def makeT (E : AE) (st : St) (nm : Nat) (dst : Option Tmp) (t : TypeId) (l c : TV) : T St :=
  match E.ty t, asI l, asI c with
  | some { td := .sl e, .. }, some (_, n), some (_, m) => match E.ty e with
    | some te => .ite (0 ≤ n) inferInstance (.ite (n = m) inferInstance (.ite (n * te.bytes ≤ 281474976710656) inferInstance (match Nat.blt 0 te.bytes, repS n.toNat te.zero with
      | true, some z => newVec st nm dst z n.toNat te.size
      | _, _ => .fail) .fail) .fail) .fail
    | none => .fail
  | _, _, _ => .fail

def mergeS : List Seg → List Seg → Option (List Seg)
  | [], b => some b
  | [.xs k n zs], [.xs k' m ys] => if k = k' then some [.xs k (n + m) (zs ++ ys)] else none
  | a, [] => some a
  | a, b => some (a ++ b)

/-- What is appended: the cells, and how many elements. -/
def srcOf (st : St) (es : Nat) : TV → Option (List Seg × Nat)
  | .one (.sc .nilsl) => some ([], 0)
  | .one (.sc (.vec o len es')) => match Nat.beq es es' with
    | true => (st.look o).map fun b => (b.segs, len)
    | false => none
  | .one (.sc (.sl o off len _ es')) => match Nat.beq es 1, Nat.beq es' 1, st.look o with
    | true, true, some { segs := [.xs k _ zs], .. } => some ([.xs k len ((zs.drop off).take len)], len)
    | _, _, _ => none
  | _ => none
def St.kill (st : St) (o : Nat) : St := { st with mem := st.mem.set o .dead }

def appendT (E : AE) (st : St) (nm : Nat) (dst : Option Tmp) (t t2 : TypeId) (x y : TV) : T St :=
  match E.ty t, E.ty t2 with
  | some { td := .sl e, .. }, some { td := .sl _, .. } => match (E.ty e).filter fun te => Nat.blt 0 te.bytes with
    | some te => match srcOf st te.size y with
      | some (l, m) => match x with
        | .one (.sc .nilsl) => .ite (m * te.bytes ≤ 140737488355328) inferInstance (newVec st nm dst l m te.size) .fail
        | .one (.sc (.vec o len es)) => match st.look o, Nat.beq es te.size with
          | some { segs, own := true }, true => match mergeS segs l with
            | some z => .ite ((len + m) * te.bytes ≤ 140737488355328) inferInstance (newVec (st.kill o) nm dst z (len + m) es) .fail
            | none => .fail
          | _, _ => .fail
        | _ => .fail
      | none => .fail
    | none => .fail
  | _, _ => .fail

def lenT (E : AE) (t : TypeId) (x : TV) : Option Int :=
  match E.ty t, x with
  | some { td := .arr n _, .. }, _ => some n
  | some { td := .sl _, .. }, .one (.sc (.vec _ len _)) => some len
  | some { td := .sl _, .. }, .one (.sc (.sl _ _ len _ _)) => some len
  | some { td := .sl _, .. }, .one (.sc .nilsl) => some 0
  | some { td := .str, .. }, .one (.sc (.str s)) => some s.size
  | _, _ => none

structure BP where
  p : Prop
  d : Decidable p
def asP : TV → Option BP
  | .one (.sc (.known b)) => some ⟨b = true, inferInstance⟩
  | .one (.sc (.bool p d)) => some ⟨p, d⟩
  | _ => none

def binT (E : AE) (st : St) (dst : Option Tmp) (op : BinOp) (t : TypeId) (x y : Operand) : T St :=
  match st.get x, st.get y with
  | .one (.sc (.int k a)), .one (.sc (.int k' b)) => match isShift op, isConst y with
    | true, true => (shOpC op k a b).bind fun r => .ret (st.putA dst r)
    | true, false => (shOp op k a b).bind fun r => .ret (st.putA dst r)
    | false, true => if k = k' then (intOpC op k a b).bind fun r => .ret (st.putA dst r) else .fail
    | false, false => if k = k' then (intOp op k a b).bind fun r => .ret (st.putA dst r) else .fail
  | .one (.agg a), .one (.agg b) => match E.ty t with
    | some { td := .arr n e, .. } => match (E.ty e).map TyI.td with
      | some (.int k) => match Nat.beq (segLen a) n, Nat.beq (segLen b) n, flatS (.int k) a, flatS (.int k) b with
        | true, true, some a, some b => match op with
          | .eql => .ret (st.putA dst (eqXs false a b))
          | .neq => .ret (st.putA dst (eqXs true a b))
          | _ => .fail
        | _, _, _, _ => .fail
      | some .bool => match Nat.beq (segLen a) n, Nat.beq (segLen b) n, flatS .bool a, flatS .bool b with
        | true, true, some a, some b => match op with
          | .eql => .ret (st.putA dst (eqBs false a b))
          | .neq => .ret (st.putA dst (eqBs true a b))
          | _ => .fail
        | _, _, _, _ => .fail
      | _ => .fail
    | _ => .fail
  | .one (.sc (.str a)), .one (.sc (.str b)) => match op with
    | .eql => .ret (st.putA dst (.bool (a = b) inferInstance))
    | .neq => .ret (st.putA dst (.bool (a ≠ b) inferInstance))
    | _ => .fail
  | x, y => match asP x, asP y, (E.ty t).map TyI.td with
    | some p, some q, some .bool => match op with
      | .eql => .ret (st.putA dst (.bool (@decide p.p p.d = @decide q.p q.d) inferInstance))
      | .neq => .ret (st.putA dst (.bool (@decide p.p p.d ≠ @decide q.p q.d) inferInstance))
      | _ => .fail
    | _, _, _ => .fail

def mmFold (mx : Bool) (k : IntKind) : Int → List TV → Option Int
  | a, [] => some a
  | a, .one (.sc (.int k' b)) :: r => if k = k' then mmFold mx k (match mx with
      | true => if b > a then b else a
      | false => if b < a then b else a) r else none
  | _, _ => none
def minmax (mx : Bool) : List TV → Option (IntKind × Int)
  | .one (.sc (.int k a)) :: r => (mmFold mx k a r).map fun n => (k, n)
  | _ => none

/-- A call of a function that only reads, and makes what is new. -/
def callS (st : St) (nm : Nat) (dst : Option Tmp) (args : List TV) (s : Sig) : T St :=
  match getAll st s.args args with
  | some x => .opt (s.g x) fun r => match st.newAll nm (makeAll nm s.res r).2 with
    | some st' => .ret (st'.put dst (tvOf (makeAll nm s.res r).1))
    | none => .fail
  | none => .fail
/-- Which of a function's signatures: by the functions that are handed over. -/
def suits : List Kd → List TV → Bool
  | [], _ => true
  | _ :: _, [] => true
  | k :: ks, v :: vs => match k with
    | .fnc f => match v with
      | .one (.sc (.fn g)) => match Nat.beq f g with
        | true => suits ks vs
        | false => false
      | _ => false
    | _ => suits ks vs
def callL (st : St) (nm : Nat) (dst : Option Tmp) (args : List TV) : List Sig → T St
  | [] => .fail
  | s :: ss => match suits s.args args with
    | true => callS st nm dst args s
    | false => callL st nm dst args ss
def callT (E : AE) (st : St) (nm : Nat) (dst : Option Tmp) (f : FuncId) (args : List TV) : T St := callL st nm dst args (E.fn f)
/-- Which function a value of a function's type is, and what it captured. -/
def fnOf : TV → Option (FuncId × List TV)
  | .one (.sc (.fn f)) => some (f, [])
  | .one (.sc (.clo f o b)) => some (f, [.one (.sc (.ptr o b none))])
  | _ => none
def makeFuncT (st : St) (dst : Option Tmp) (f : FuncId) (first captured : List Operand) : T St :=
  match first, captured with
  | [], [] => .ret (st.putA dst (.fn f))
  | [], [x] => match st.get x with
    | .one (.sc (.ptr ob b none)) => .ret (st.putA dst (.clo f ob b))
    | _ => .fail
  | _, _ => .fail

def convT (E : AE) (st : St) (dst : Option Tmp) (s t : TypeId) (x : TV) : T St :=
  match E.ty s, E.ty t, x with
  | some _, some { td := .int k, .. }, .one (.sc (.int _ n)) => .ret (st.putA dst (.int k (k.wrap n)))
  | some _, some { td := .str, .. }, .one (.sc (.str s)) => .ret (st.putA dst (.str s))
  | _, _, _ => .fail

def fieldOf (E : AE) (t : TypeId) (f : Nat) : Option (Nat × TypeId) :=
  match E.ty t with
  | some { td := .st fs, .. } => fs[f]?
  | _ => none

def step (E : AE) (nm : Nat) (o : Oper) (st : St) : T St :=
  match o.op with
  | .move x | .assign x => .ret (st.put o.dst (st.get x))
  | .pick c a b => match st.get c with
    | .one (.sc (.known true)) => .ret (st.put o.dst (st.get a))
    | .one (.sc (.known false)) => .ret (st.put o.dst (st.get b))
    | .one (.sc (.bool p d)) => .ite p d (.ret (st.put o.dst (st.get a))) (.ret (st.put o.dst (st.get b)))
    | _ => .fail
  | .alloc t => match E.ty t with
    | some ti => newPtr st nm o.dst ti.zero
    | none => .fail
  | .box _ x => match segsOf (st.get x) with
    | some l => newPtr st nm o.dst l
    | none => .fail
  | .build t parts => match E.ty t with
    | some { td := .arr _ e, zero, .. } => match E.ty e with
      | some te => (putParts E (fun j => some (j * te.size, e)) zero (parts.toList.map fun p => (p.1, st.get p.2))).bind fun l => .ret (st.put o.dst (.one (.agg l)))
      | none => .fail
    | some { td := .st fs, zero, .. } => match fs.all fun p => (E.ty p.2).isSome with
      | false => .fail
      | true => (putParts E (fun j => fs[j]?) zero (parts.toList.map fun p => (p.1, st.get p.2))).bind fun l => .ret (st.put o.dst (.one (.agg l)))
    | _ => .fail
  | .buildSlice t n parts => match E.ty t with
    | some { td := .sl e, .. } => match E.ty e with
      | some te => match Nat.ble (n * te.size) 16777216, repS n te.zero with
        | true, some z => (putParts E (fun j => some (j * te.size, e)) z (parts.toList.map fun p => (p.1, st.get p.2))).bind fun l => newVec st nm o.dst l n te.size
        | _, _ => .fail
      | none => .fail
    | _ => .fail
  | .load t p => match st.get p with
    | .one (.sc (.ptr ob b i)) => (loadT E st t ob b i).bind fun a => .ret (st.put o.dst (.one a))
    | _ => .fail
  | .store t p x => match st.get p with
    | .one (.sc (.ptr ob b i)) => (storeT E st t ob b i (st.get x)).bind fun st' => .ret (st'.put o.dst (.one .any))
    | _ => .fail
  | .nilCheck p => match st.get p with
    | .one (.sc (.ptr ob b i)) => .ret (st.putA o.dst (.ptr ob b i))
    | _ => .fail
  | .binOp op t x y _ => binT E st o.dst op t x y
  | .unOp op _ x => match op, st.get x with
    | .neg, .one (.sc (.int k n)) => .ret (st.putA o.dst (.int k (k.wrap (0 - n))))
    | .xor, .one (.sc (.int k n)) => .ret (st.putA o.dst (.int k (ixor k (if k.signed then -1 else k.max) n)))
    | .not, .one (.sc a) => match notA a with
      | some r => .ret (st.putA o.dst r)
      | none => .fail
    | _, _ => .fail
  | .convert s t x => convT E st o.dst s t (st.get x)
  | .makeSlice t l c => makeT E st nm o.dst t (st.get l) (st.get c)
  | .slice t x lo hi none => sliceT E st o.dst t (st.get x) lo hi
  | .fieldAddr t x f => match st.get x, fieldOf E t f with
    | .one (.sc (.ptr ob b i)), some (off, ft) => match E.ty ft with
      | some { size, .. } => match Nat.beq size 0 with
        | false => .ret (st.putA o.dst (.ptr ob (b + off) i))
        | true => .fail
      | none => .fail
    | _, _ => .fail
  | .field t x f => match st.get x, fieldOf E t f with
    | .one (.agg l), some (off, ft) => match E.ty ft with
      | some ti => (partT ti l off none).bind fun a => .ret (st.put o.dst (.one a))
      | none => .fail
    | _, _ => .fail
  | .indexAddr t x ix => indexAddrT E st o.dst t (st.get x) ix
  | .index t x ix => indexT E st o.dst t (st.get x) ix
  | .extract x j => match st.get x with
    | .tup l => match l[j]? with
      | some a => .ret (st.put o.dst (.one a))
      | none => .fail
    | _ => .fail
  | .call { callee := .value (.func f), args, .. } => callT E st nm o.dst f (args.toList.map st.get)
  | .call { callee := .value (.tmp t), args, .. } => match fnOf (st.get (.tmp t)) with
    | some (f, cap) => callT E st nm o.dst f (args.toList.map st.get ++ cap)
    | none => .fail
  | .makeFunc (.func f) first captured => makeFuncT st o.dst f first.toList captured.toList
  | .call { callee := .builtin .len, args, argTypes } => match argTypes.toList, args.toList with
    | t :: _, x :: _ => match lenT E t (st.get x) with
      | some n => .ret (st.putA o.dst (.int .i64 n))
      | none => .fail
    | _, _ => .fail
  | .call { callee := .builtin .append, args, argTypes } => match argTypes.toList, args.toList with
    | [t, t2], [x, y] => appendT E st nm o.dst t t2 (st.get x) (st.get y)
    | _, _ => .fail
  | .call { callee := .builtin .max, args, .. } => match minmax true (args.toList.map st.get) with
    | some (k, n) => .ret (st.putA o.dst (.int k n))
    | none => .fail
  | .call { callee := .builtin .min, args, .. } => match minmax false (args.toList.map st.get) with
    | some (k, n) => .ret (st.putA o.dst (.int k n))
    | none => .fail
  | _ => .fail
end Go.Ax
