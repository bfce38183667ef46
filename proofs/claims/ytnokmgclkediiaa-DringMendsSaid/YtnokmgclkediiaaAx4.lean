/- A part of the proof: Ax4. -/
import Derived.Test.YtnokmgclkediiaaAx3
/-! ### Regions, code, functions -/
namespace Go.Ax
open Go.RowKit

/-- How many names an operation may use up. -/
def need (E : AE) (o : Oper) : Nat :=
  match o.op with
  | .alloc _ | .box _ _ | .buildSlice _ _ _ | .makeSlice _ _ _ | .convert _ _ _ | .call { callee := .builtin .append, .. } => 1
  | .call { callee := .value (.func f), .. } => match E.fn f with
    | s :: _ => s.res.length
    | [] => 0
  | .call { callee := .value (.tmp _), .. } => 1
  | _ => 0

abbrev PC := List (Nat × Bool)
def PC.look (pc : PC) (d : Nat) : Option Bool := match pc with
  | [] => none
  | (e, b) :: r => match Nat.beq e d with
    | true => some b
    | false => PC.look r d
def PC.forget (pc : PC) (dst : Option Tmp) : PC := match dst with
  | none => pc
  | some d => match pc with
    | [] => []
    | (e, b) :: r => match Nat.beq e d with
      | true => PC.forget r (some d)
      | false => (e, b) :: PC.forget r (some d)

/-- An operation carried out; a 'pick' looks at what is known of the test. -/
def stepK (E : AE) (nm : Nat) (pc : PC) (o : Oper) (st : St) (K : St → T St) : T St :=
  match o.op with
  | .pick (.tmp c) a b => match PC.look pc c with
    | some true => K (st.put o.dst (st.get a))
    | some false => K (st.put o.dst (st.get b))
    | none => (step E nm o st).bind K
  | _ => (step E nm o st).bind K

def opK (E : AE) (ops : Array Oper) (nm : Nat) (pc : PC) (o : Oper) (st : St) (K : PC → St → T St) : T St :=
  match o.guard with
  | none => stepK E nm pc o st (K (pc.forget o.dst))
  | some (j, want) => match (ops[j]?).bind (·.dst) with
    | none => .fail
    | some d => match PC.look pc d with
      | some b => match b == want with
        | true => stepK E nm pc o st (K (pc.forget o.dst))
        | false => K (pc.forget o.dst) (st.put o.dst (.tup []))
      | none => match st.tmps[d]? with
        | some (.tup []) => K (pc.forget o.dst) (st.put o.dst (.tup []))
        | some (.one (.sc (.known b))) => match b == want with
          | true => stepK E nm pc o st (K (pc.forget o.dst))
          | false => K (pc.forget o.dst) (st.put o.dst (.tup []))
        | some (.one (.sc (.bool p i))) => match want with
          | true => .ite p i (stepK E nm ((d, true) :: pc) o st (K (PC.forget ((d, true) :: pc) o.dst))) (K (PC.forget ((d, false) :: pc) o.dst) (st.put o.dst (.tup [])))
          | false => .ite p i (K (PC.forget ((d, true) :: pc) o.dst) (st.put o.dst (.tup []))) (stepK E nm ((d, false) :: pc) o st (K (PC.forget ((d, false) :: pc) o.dst)))
        | _ => .fail

/-- The place that an operation reads or writes. -/
def memAddr : Op → Option Operand
  | .load _ p => some p
  | .store _ p _ => some p
  | _ => none
/-- Is it the object that was foretold? -/
def footOk (ft : Option Nat) (o : Oper) (st : St) : Bool := match ft with
  | none => true
  | some n => match o.guard, memAddr o.op with
    | none, some p => match st.get p with
      | .one (.sc (.ptr ob _ _)) => Nat.beq ob n
      | _ => false
    | _, _ => false
def opsK (E : AE) (ops : Array Oper) (fts : List (Option Nat)) : List Oper → Nat → Nat → PC → St → T St
  | [], _, _, _, st => .ret st
  | o :: r, k, nm, pc, st => match footOk (fts.getD k none) o st with
    | true => opK E ops nm pc o st fun pc' st' => opsK E ops fts r (k + 1) (nm + need E o) pc' st'
    | false => .fail

def needAll (E : AE) : List Oper → Nat
  | [] => 0
  | o :: r => need E o + needAll E r
def St.more (st : St) (n : Nat) : St := { st with mem := st.mem ++ List.replicate n .free }
def regionT (E : AE) (ops : Array Oper) (fts : List (Option Nat)) (st : St) : T St := opsK E ops fts ops.toList 0 st.mem.length [] (st.more (needAll E ops.toList))

/-! A region that draws its order: what may change places. -/
/-- Stores and appends: they change what lies there. -/
def wrOp : Op → Bool
  | .store _ _ _ => true
  | .call { callee := .builtin .append, .. } => true
  | _ => false

/-- Operations that look at slots alone. -/
def regOp : Op → Bool
  | .move _ | .assign _ | .pick _ _ _ | .nilCheck _ | .binOp _ _ _ _ _ | .unOp _ _ _ | .convert _ _ _ | .indexAddr _ _ _ | .index _ _ _ | .fieldAddr _ _ _ | .field _ _ _ | .extract _ _ | .makeFunc (.func _) _ _ => true
  | _ => false
def footDiff : Option Nat → Option Nat → Bool
  | some a, some b => !Nat.beq a b
  | _, _ => false
/-- Two operations that may change places. -/
def indep (fts : List (Option Nat)) (ops : Array Oper) (j : Nat) (x : Oper) (i : Nat) (y : Oper) : Bool :=
  x.apart ops y && ((!wrOp x.op && !wrOp y.op) || regOp x.op || regOp y.op || footDiff (fts.getD j none) (fts.getD i none))
def A1.name? : A1 → Option Nat
  | .ptr o _ _ | .vec o _ _ | .sl o _ _ _ _ | .clo _ o _ | .ifp _ o _ | .ifq _ o _ _ _ => some o
  | _ => none
/-- The object that an address leads to, as far as the text tells. -/
def setter (t : Nat) : List Oper → Option Oper
  | [] => none
  | o :: r => match o.dst with
    | some d => match Nat.beq d t with
      | true => some o
      | false => setter t r
    | none => setter t r
def rootOf (ops : List Oper) (st : St) : Nat → Operand → Option Nat
  | 0, _ => none
  | n + 1, .tmp t => match setter t ops with
    | none => match st.tmps.getD t (.one .any) with
      | .one (.sc a) => a.name?
      | _ => none
    | some o => match o.op with
      | .indexAddr _ b _ => rootOf ops st n b
      | .fieldAddr _ b _ => rootOf ops st n b
      | .nilCheck b => rootOf ops st n b
      | .move b => rootOf ops st n b
      | _ => none
  | _, _ => none
def footsOf (ops : List Oper) (st : St) : List Oper → List (Option Nat)
  | [] => []
  | o :: r => (match o.guard, memAddr o.op with
    | none, some p => rootOf ops st 8 p
    | _, _ => none) :: footsOf ops st r

def maskOf (ms : List Nat) (o : Oper) : Nat := o.after.toList.foldl (fun s e => if Region.binds .any e then s ||| 2 ^ e.on ||| ms.getD e.on 0 else s) 0
/-- Each operation is held against those before it in the text. -/
def regionOk (fts : List (Option Nat)) (ops : Array Oper) : List Oper → List Oper → List Nat → Bool
  | [], _, _ => true
  | o :: r, pre, ms =>
    let m := maskOf ms o
    o.after.all (fun e => !Region.binds .any e || Nat.blt e.on pre.length) &&
    ((List.range pre.length).zip pre).all (fun p => m.testBit p.1 || indep fts ops p.1 p.2 pre.length o) &&
    regionOk fts ops r (pre ++ [o]) (ms ++ [m])

/-! Names that are still wanted. -/
def addName (acc : List Nat) : Option Nat → List Nat
  | none => acc
  | some o => match acc.contains o with
    | true => acc
    | false => acc ++ [o]
def segNames : List Seg → List Nat → List Nat
  | [], acc => acc
  | .xs _ _ _ :: r, acc => segNames r acc
  | .one a :: r, acc => segNames r (addName acc a.name?)
def AV.names : AV → List Nat → List Nat
  | .any, acc => acc
  | .sc a, acc => addName acc a.name?
  | .agg l, acc => segNames l acc
def avNames : List AV → List Nat → List Nat
  | [], acc => acc
  | a :: r, acc => avNames r (a.names acc)
def TV.names : TV → List Nat → List Nat
  | .one a, acc => a.names acc
  | .tup l, acc => avNames l acc
def liveNames (st : St) : List Nat → List Nat → List Nat
  | [], acc => acc
  | t :: r, acc => liveNames st r ((st.tmps.getD t (.one .any)).names acc)
def reachNames (st : St) : List Nat → List Nat → List Nat
  | [], acc => acc
  | o :: r, acc => reachNames st r (match st.look o with
    | some b => segNames b.segs acc
    | none => acc)
def place (o : Nat) : List Nat → Nat → Option Nat
  | [], _ => none
  | x :: r, j => match Nat.beq x o with
    | true => some j
    | false => place o r (j + 1)
def A1.ren (ns : List Nat) (cv : Bool) : A1 → A1
  | .bool p d => match cv with
    | true => .known (@decide p d)
    | false => .bool p d
  | .ptr o b i => match place o ns 0 with
    | some j => .ptr j b i
    | none => .top
  | .vec o n e => match place o ns 0 with
    | some j => .vec j n e
    | none => .top
  | .sl o f n c e => match place o ns 0 with
    | some j => .sl j f n c e
    | none => .top
  | .clo f o b => match place o ns 0 with
    | some j => .clo f j b
    | none => .top
  | .ifp t o b => match place o ns 0 with
    | some j => .ifp t j b
    | none => .top
  | .ifq t o b k n => match place o ns 0 with
    | some j => .ifq t j b k n
    | none => .top
  | a => a
def segRen (ns : List Nat) (cv : Bool) : List Seg → List Seg
  | [] => []
  | .xs k n zs :: r => .xs k n zs :: segRen ns cv r
  | .one a :: r => .one (a.ren ns cv) :: segRen ns cv r
def AV.ren (ns : List Nat) (cv : Bool) : AV → AV
  | .any => .any
  | .sc a => .sc (a.ren ns cv)
  | .agg l => .agg (segRen ns cv l)
def avRen (ns : List Nat) (cv : Bool) : List AV → List AV
  | [] => []
  | a :: r => a.ren ns cv :: avRen ns cv r
def TV.ren (ns : List Nat) (cv : Bool) : TV → TV
  | .one a => .one (a.ren ns cv)
  | .tup l => .tup (avRen ns cv l)
def keepTmps (ns live : List Nat) (cv : Bool) : List TV → Nat → List TV
  | [], _ => []
  | v :: r, i => (match live.contains i with
    | true => v.ren ns cv
    | false => .one .any) :: keepTmps ns live cv r (i + 1)
def keepMem (st : St) (ns : List Nat) (cv : Bool) : List Nat → List Slot
  | [] => []
  | o :: r => (match st.look o with
    | some b => .live { b with segs := segRen ns cv b.segs }
    | none => .dead) :: keepMem st ns cv r
/-- Only the slots 'live' are kept, and what they lead to, under new names. -/
def norm (live : List Nat) (st : St) : St :=
  let n0 := liveNames st live []
  let n1 := reachNames st n0 n0
  let ns := reachNames st n1 n1
  { tmps := keepTmps ns live (live.contains 999999) st.tmps 0, mem := keepMem st ns (live.contains 999999) ns }

inductive Ex where
  | normal
  | exit (id : Nat)
  | ret

def firstRegion : Code → Option Nat
  | .region id _ _ => some id
  | .seq a b => match firstRegion a with
    | some i => some i
    | none => firstRegion b
  | .block _ c => firstRegion c
  | .loop c => firstRegion c
  | .cond _ a _ => firstRegion a
  | _ => none
abbrev Hints := List (Nat × List Nat)
def Hints.look (h : Hints) (k : Nat) : Option (List Nat) := match h with
  | [] => none
  | (e, b) :: r => match Nat.beq e k with
    | true => some b
    | false => Hints.look r k
def pre (H : Hints) (k : Nat) (st : St) : St := match H.look k with
  | some l => norm l st
  | none => st
def head (H : Hints) (c : Code) (st : St) : St := match firstRegion c with
  | some k => pre H k st
  | none => st

def loopK {β : Type} (body : St → (Ex → St → Option β) → Option β) (hd : St → St) : Nat → St → (Ex → St → Option β) → Option β
  | 0, _, _ => none
  | n + 1, st, K => body (hd st) fun e st' => match e with
    | .normal => loopK body hd n st' K
    | e => K e st'

def condK {β : Type} (t : Nat) (st : St) (x y : St → Option β) : Option β := match st.tmps[t]? with
  | some (.one (.sc (.known true))) => x st
  | some (.one (.sc (.known false))) => y st
  | some (.one (.sc (.bool p d))) => @_root_.ite _ p d (x (st.put (some t) (.one (.sc (.known true))))) (y (st.put (some t) (.one (.sc (.known false)))))
  | _ => none
def joinK {β : Type} (H : Hints) (k : Nat) (K : Ex → St → Option β) : Ex → St → Option β
  | .normal, st => K .normal (pre H k st)
  | e, st => K e st
/-- Code, run over an abstract state. -/
def codeK (E : AE) (H : Hints) (n : Nat) {β : Type} : Code → St → (Ex → St → Option β) → Option β
  | .skip, st, K => K .normal st
  | .region _ ops draw, st, K => match draw with
    | false => (regionT E ops [] st).run (K .normal)
    | true => match regionOk [] ops ops.toList [] [] with
      | true => (regionT E ops [] st).run (K .normal)
      | false => match regionOk (footsOf ops.toList st ops.toList) ops ops.toList [] [] with
        | true => (regionT E ops (footsOf ops.toList st ops.toList) st).run (K .normal)
        | false => none
  | .seq x y, st, K => codeK E H n x st fun e st' => match e with
    | .normal => codeK E H n y st' K
    | e => K e st'
  | .cond c x y, st, K => match c with
    | .tmp t => condK t (pre H (1000000 + t) st) (fun st => codeK E H n x st (joinK H (4000000 + t) K)) (fun st => codeK E H n y st (joinK H (4000000 + t) K))
    | _ => none
  | .block id x, st, K => codeK E H n x st fun e st' => match e with
    | .exit j => match Nat.beq j id with
      | true => K .normal st'
      | false => K (.exit j) st'
    | e => K e st'
  | .loop x, st, K => loopK (fun st K => codeK E H n x st K) (head H x) n st K
  | .exit id, st, K => K (.exit id) (pre H (2000000 + id) st)
  | .ret, st, K => K .ret (pre H 3000000 st)
  | _, _, _ => none

/-- A result variable's value. -/
def resOne (E : AE) (st : St) : ResultVar → Option AV
  | .tmp t => match st.tmps[t]? with
    | some (.one a) => some a
    | _ => none
  | .cell p t => match st.tmps[p]? with
    | some (.one (.sc (.ptr o b i))) => (loadT E st t o b i).val
    | _ => none
def resAll (E : AE) (st : St) : List ResultVar → Option (List AV)
  | [] => some []
  | r :: rs => match resOne E st r, resAll E st rs with
    | some a, some l => some (a :: l)
    | _, _ => none

/-- What a call hands back: data; a slice is one of its own. -/
def Kd.out (st : St) : (K : Kd) → AV → Option (K.T × List Nat)
  | .sl _, .sc .nilsl => some ([], [])
  | .sl k, .sc (.vec o _ es) => match Nat.beq es 1, st.look o with
    | true, some { segs, own := true } => (flatS k segs).map fun zs => (zs, [o])
    | _, _ => none
  | .sl _, _ => none
  | .sls _, _ => none
  | .rp _, _ => none
  | .sla _ _, .sc .nilsl => some ([], [])
  | .sla k m, .sc (.vec o _ es) => match Nat.beq es m, Nat.blt 0 m, st.look o with
    | true, true, some { segs, own := true } => (flatS k segs).map fun zs => (zs, [o])
    | _, _, _ => none
  | .sla _ _, _ => none
  | K, a => (K.get st (.one a)).map fun x => (x, [])
def outAll (st : St) : (ks : List Kd) → List AV → Option (Rs ks × List Nat)
  | [], [] => some ((), [])
  | [k], [a] => k.out st a
  | k :: k2 :: r, a :: l => match k.out st a, outAll st (k2 :: r) l with
    | some x, some y => match x.2.all fun o => !y.2.contains o with
      | true => some ((x.1, y.1), x.2 ++ y.2)
      | false => none
    | _, _ => none
  | _, _ => none

/-- The arguments at the start. -/
def Kd.inn (nm : Nat) : (K : Kd) → K.T → AV × List Ob
  | .int k, n => (.sc (.int k n), [])
  | .bool, b => (.sc (.bool (b = true) inferInstance), [])
  | .str, s => (.sc (.str s), [])
  | .xs k n, zs => (.agg [.xs k n zs], [])
  | .sl k, zs => (.sc (.vec nm zs.length 1), [{ segs := [.xs k zs.length zs], own := false }])
  | .sls _, _ => (.any, [])
  | .fnc f, _ => (.sc (.fn f), [])
  | .rp (.int k), n => (.sc (.ptr nm 0 none), [{ segs := [.xs (.int k) 1 [n]], own := false }])
  | .rp (.xs k n), zs => (.sc (.ptr nm 0 none), [{ segs := [.xs k n zs], own := false }])
  | .rp (.sl k), zs => (.sc (.ptr (nm + 1) 0 none), [{ segs := [.xs k zs.length zs], own := false }, { segs := [.one (.vec nm zs.length 1)], own := false }])
  | .sla k m, zs => (.sc (.vec nm (zs.length / m) m), [{ segs := [.xs k zs.length zs], own := false }])
def innAll : (ks : List Kd) → Ds ks → Nat → List TV × List Slot
  | [], _, _ => ([], [])
  | k :: ks, x, nm => let p := k.inn nm x.1; let q := innAll ks x.2 (nm + p.2.length); (.one p.1 :: q.1, p.2.map .live ++ q.2)

def startSt (fn : Func) (ks : List Kd) (x : Ds ks) : St :=
  let p := innAll ks x 0
  { tmps := p.1 ++ List.replicate (fn.ntmps - p.1.length) (.one .any), mem := p.2 }

/-- What a function answers. -/
def funK (E : AE) (H : Hints) (n : Nat) (fn : Func) (ks rs : List Kd) (x : Ds ks) : Option (Rs rs) :=
  match fn.body with
  | some c => codeK E H n c (startSt fn ks x) fun e st => match e with
    | .exit _ => none
    | _ => match resAll E st fn.results.toList with
      | some l => match outAll st rs l with
        | some r => some r.1
        | none => none
      | none => none
  | none => none
end Go.Ax
