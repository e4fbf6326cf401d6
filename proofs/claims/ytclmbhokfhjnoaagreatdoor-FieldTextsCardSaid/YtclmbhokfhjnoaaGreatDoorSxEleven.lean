/-
  The evaluator: regions, calls, code.
-/
import Derived.Test.YtclmbhokfhjnoaaGreatDoorSxTen
set_option linter.unusedVariables false
set_option linter.unusedSimpArgs false
set_option linter.unnecessarySimpa false
namespace Go.SX

def notLoop : Blk → Bool
  | .loop _ _ _ _ _ _ => false
  | .left _ => false
  | _ => true
/-- What a call leaves. 'full': the whole heap anew (the callee's blocks stay). -/
structure RC where
  val : AV
  up : List (Nat × Blk)
  full : Option (List (Nat × Blk))
  nx : Nat
  ob : List Prop
  orc : List Orc
  sfx : Bool

/-- The heap behind a call. -/
def RC.heap (rc : RC) (H : List (Nat × Blk)) : List (Nat × Blk) := match rc.full with
  | some h => h
  | none => rc.up ++ H

def calleeA : AV → Option (FuncId × List AV × List AV)
  | .fn (.func f) a b => some (f, a, b)
  | .d (.fn (.func f) a b) => some (f, a.map .d, b.map .d)
  | _ => none

def callPart (o : Oper) : Option (Operand × List Operand) := match o.op with
  | .call { callee := .value f, args, argTypes := _ } => some (f, args.toList)
  | _ => none

def isPure : AV → Bool
  | .d _ => true
  | x => match x.toD with
    | some _ => true
    | none => false

def belowNx (H : List (Nat × Blk)) (nx : Nat) : Bool := H.all fun p => Nat.blt p.1 nx
/-- The callee's blocks stay. -/
def keepRC (H : List (Nat × Blk)) (nx : Nat) (x : AV) (s' : St) : Option RC := match belowNx H nx with
  | true => some { val := x, up := [], full := some s'.hp, nx := s'.nx, ob := s'.ob, orc := s'.orc, sfx := s'.sfx }
  | false => none

/-- A call's result is a row that it has made, if nothing that was there has turned: the row stays, the callee's other blocks are left behind. -/
def freshRC (H : List (Nat × Blk)) (nx : Nat) (x : AV) (s' : St) : Option RC := match x, s'.sfx && freshOnly H (s'.hp.length - H.length) s'.hp && belowNx H nx with
  | .own b ver, true => match look s'.hp b, namesIn H b with
    | some (.row ver' sz es), false => match Nat.beq ver ver' with
      | true => some { val := .own b ver, up := [(b, .row ver sz es)], full := none, nx, ob := s'.ob, orc := s'.orc, sfx := true }
      | false => none
    | _, _ => none
  | _, _ => none

/-- A call of which the result is known. -/
def knownA (cx : Cx) (sym : Bool) (H : List (Nat × Blk)) (f : FuncId) (args : List AV) (nx : Nat) (o : List Orc) : Option RC := match sym, cx.K f with
  | false, some g => match toDHs H args with
    | some (ds, fs) => match g ds with
      | some r => some { val := .d r, up := freezeAll H fs, full := none, nx, ob := [], orc := o, sfx := true }
      | none => none
    | none => none
  | _, _ => none
/-! Calls that are told of an object. -/
/-- A row of an object, and the name that it has behind the call; a nil slice is a row without elements. -/
def rowIn (H : List (Nat × Blk)) (m sz : Nat) : AV → Option (OC × (Nat × Nat))
  | .own n v => match look H n with
    | some (.row v' sz' es) => match Nat.beq v v' && Nat.beq sz sz' with
      | true => some (.row sz es, (n, v + 1))
      | false => none
    | _ => none
  | .d (.lst true _ []) => match look H m with
    | none => some (.row sz [], (m, 0))
    | some _ => none
  | _ => none
/-- The cells of an object, of this form: what they are, the names of the rows behind the call, and what is frozen. -/
def splitC (H : List (Nat × Blk)) : Nat → List AV → List OC → Option (List OC × List (Option (Nat × Nat)) × List Nat)
  | _, [], [] => some ([], [], [])
  | m, x :: xs, .dat _ :: ss => match x.toDH H, splitC H (m + 1) xs ss with
    | some (y, fs), some (cs, ns, gs) => some (.dat y :: cs, none :: ns, fs ++ gs)
    | _, _ => none
  | m, x :: xs, .row sz _ :: ss => match rowIn H m sz x, splitC H (m + 1) xs ss with
    | some (c, p), some (cs, ns, gs) => some (c :: cs, some p :: ns, gs)
    | _, _ => none
  | _, _, _ => none
def freshIn (n : Nat) : List (Option (Nat × Nat)) → Bool
  | [] => true
  | none :: l => freshIn n l
  | some (m, _) :: l => !(Nat.beq m n) && freshIn n l
def okNs (bn : Nat) (fz : List Nat) : List (Option (Nat × Nat)) → Bool
  | [] => true
  | none :: l => okNs bn fz l
  | some (n, _) :: l => freshIn n l && !(Nat.beq n bn) && !(fz.contains n) && okNs bn fz l
mutual
/-- A value as the callee sees it: the object's variable is block 0. -/
def AV.argO (H : List (Nat × Blk)) (b : Option Nat) : AV → Option (AV × List Nat)
  | .ptr b' ver sz i off => match b with
    | some b0 => match Nat.beq b0 b' && Nat.beq ver 0 && Nat.beq sz 0 && Nat.beq i 0 with
      | true => some (.ptr 0 0 0 0 off, [])
      | false => none
    | none => none
  | .fn f a c => match argOs H b a, argOs H b c with
    | some (x, fs), some (y, gs) => some (AV.norm (.fn f x y), fs ++ gs)
    | _, _ => none
  | .agg cs => match argOs H b cs with
    | some (l, fs) => some (AV.norm (.agg l), fs)
    | none => none
  | .tup cs => match argOs H b cs with
    | some (l, fs) => some (AV.norm (.tup l), fs)
    | none => none
  | .d x => some (.d x, [])
  | .own n v => match (AV.own n v).toDH H with
    | some (y, fs) => some (.d y, fs)
    | none => none
  | _ => none
def argOs (H : List (Nat × Blk)) (b : Option Nat) : List AV → Option (List AV × List Nat)
  | [] => some ([], [])
  | x :: l => match x.argO H b, argOs H b l with
    | some (y, fs), some (ys, gs) => some (y :: ys, fs ++ gs)
    | _, _ => none
end
mutual
/-- The callee's result, by the caller's name of the object's variable. -/
def AV.resO (b : Nat) : AV → Option AV
  | .d x => some (.d x)
  | .agg cs => match resOs b cs with
    | some l => some (.agg l)
    | none => none
  | .tup cs => match resOs b cs with
    | some l => some (.tup l)
    | none => none
  | .ptr b' ver sz i off => match Nat.beq b' 0 && Nat.beq ver 0 && Nat.beq sz 0 && Nat.beq i 0 with
    | true => some (.ptr b 0 0 0 off)
    | false => none
  | _ => none
def resOs (b : Nat) : List AV → Option (List AV)
  | [] => some []
  | x :: l => match x.resO b, resOs b l with
    | some y, some ys => some (y :: ys)
    | _, _ => none
end
def outCells : List (Option (Nat × Nat)) → List OC → List AV
  | none :: ns, .dat x :: cs => .d x :: outCells ns cs
  | some (n, v) :: ns, .row _ _ :: cs => .own n v :: outCells ns cs
  | _, _ => []
def outRows : List (Option (Nat × Nat)) → List OC → List (Nat × Blk)
  | some (n, v) :: ns, .row sz es :: cs => (n, .row v sz es) :: outRows ns cs
  | _ :: ns, _ :: cs => outRows ns cs
  | _, _ => []
/-- Names for the rows of an object that the callee has made. -/
def newNs : Nat → List OC → List (Option (Nat × Nat))
  | _, [] => []
  | m, .dat _ :: l => none :: newNs (m + 1) l
  | m, .row _ _ :: l => some (m, 0) :: newNs (m + 1) l
def acallO (cx : Cx) (H : List (Nat × Blk)) (nx : Nat) (f : FuncId) (args : List AV) (bo : Option Nat) (r : AV) (cs' : List OC) (o' : List Orc) : Option RC :=
  match argOs H bo args, belowNx H nx with
  | some (as, fs), true => match bo with
    | some b => match look H b with
      | some (.box x) => match x.cells, isAggA x with
        | some cells, true => match splitC H nx cells cs' with
          | some (cs, ns, gs) => match okNs b (fs ++ gs) ns, r.resO b with
            | true, some v => some { val := v, up := (b, .box (AV.norm (.agg (outCells ns cs')))) :: (outRows ns cs' ++ freezeAll H (fs ++ gs)), full := none, nx := nx + cs'.length, ob := [ComputesO cx f as (some cs) r cs'], orc := o', sfx := true }
            | _, _ => none
          | none => none
        | _, _ => none
      | _ => none
    | none => match okNs nx fs (newNs (nx + 1) cs'), r.resO nx with
      | true, some v => some { val := v, up := (nx, .box (AV.norm (.agg (outCells (newNs (nx + 1) cs') cs')))) :: (outRows (newNs (nx + 1) cs') cs' ++ freezeAll H fs), full := none, nx := nx + 1 + cs'.length, ob := [ComputesO cx f as none r cs'], orc := o', sfx := true }
      | _, _ => none
  | _, _ => none
/-- The call of a function: by its contract, or run in a frame of its own. -/
def acall (ex : Code → St → Option (Ex × St)) (cx : Cx) (keepable : Bool) (H : List (Nat × Blk)) (nx : Nat) (sym : Bool) (orc : List Orc) (f : FuncId) (args : List AV) : Option RC :=
  match cx.P.funcs[f]? with
  | none => none
  | some fn => match fn.body with
    | none => match allV args with
      | some vs => match pureRun cx.P (callFunc f vs.toArray) with
        | some (.value v) => some { val := .d (ofV v), up := [], full := none, nx, ob := [], orc, sfx := true }
        | _ => none
      | none => none
    | some _ => match popO sym orc with
      | some (.ret r, o') => match toDHs H args with
        | some (ds, fs) => some { val := .d r, up := freezeAll H fs, full := none, nx, ob := [Computes cx f ds r], orc := o', sfx := true }
        | none => none
      | some (.obj bo r cs', o') => acallO cx H nx f args bo r cs' o'
      | some (.br _, o') => match keepable, enterA ex cx f args { nt := 0, sym, tm := [], hp := H, nx, orc := o', ob := [], vis := nx, sfx := true } with
        | true, some (x, s') => keepRC H nx x s'
        | false, some (x, s') => freshRC H nx x s'
        | _, _ => none
      -- a plain result: what was looked at stays as it is
      | some (.ix _, .ret (.v v) :: o') => match toDHs H args with
        | some (ds, _) => some { val := .d (.v v), up := [], full := none, nx, ob := [Computes cx f ds (.v v)], orc := o', sfx := true }
        | none => none
      | some (.no, o') => match knownA cx sym H f args nx o' with
        | some rc => some rc
        | none => match belowNx H nx, enterA ex cx f args { nt := 0, sym, tm := [], hp := H, nx, orc := o', ob := [], vis := nx, sfx := true } with
          | true, some (x, s') => match sym || isPure x, settle H x s' with
            | true, some y => some { val := y, up := [], full := none, nx, ob := s'.ob, orc := s'.orc, sfx := true }
            | true, none => match keepable with
              | true => keepRC H nx x s'
              | false => none
            | false, r => match keepable, r with
              | true, _ => keepRC H nx x s'
              | false, some y => some { val := y, up := [], full := none, nx, ob := s'.ob, orc := s'.orc, sfx := true }
              | false, none => none
          | _, _ => none
      | _ => none

def finish (ops : Array Oper) (i : Nat) (o : Oper) (s : St) (x : AV) (hp : List (Nat × Blk)) (nx : Nat) (orc : List Orc) (ob : List Prop) (sfx : Bool) : Option St :=
  match isGuard ops i with
  | true => match litB s.sym orc x with
    | some (y, ob2, o2) => ({ s with hp, nx, orc := o2, ob := ob2 ++ (ob ++ s.ob), sfx := s.sfx && sfx } : St).put o.dst y
    | none => none
  | false => ({ s with hp, nx, orc, ob := ob ++ s.ob, sfx := s.sfx && sfx } : St).put o.dst x

/-! Ranges over functions: a call of yield runs the loop's body, in a frame of its own, on the loop's temporaries. -/
def bindA : List Nat → List AV → List (Nat × AV) → List (Nat × AV)
  | t :: ps, x :: xs, tm => bindA ps xs ((t, x) :: tm)
  | _, _, tm => tm
def onlyLoop (b : Nat) (H : List (Nat × Blk)) : Bool := H.all fun p => Nat.beq p.1 b || notLoop p.2
def yieldA (ex : Code → St → Option (Ex × St)) (H : List (Nat × Blk)) (nx : Nat) (sym : Bool) (orc : List Orc) (b ver : Nat) (args : List AV) : Option RC :=
  match look H b, Nat.beq ver 0 && belowNx H nx with
  | some (.loop true tm ps as bd nt), true =>
    match Nat.beq ps.length args.length && ps.all (fun t => Nat.blt t nt) with
    | true => match ex as { nt, sym, tm := bindA ps args tm, hp := H, nx, orc, ob := [], vis := nx, sfx := true, rnd := true } with
      | some (.normal, s1) => match look s1.hp b, onlyLoop b s1.hp with
        | some (.loop true tm1 ps1 as1 bd1 nt1), true => match ex bd { s1 with hp := (b, .loop false tm1 ps1 as1 bd1 nt1) :: s1.hp } with
          | some (.normal, s2) => match look s2.hp b, onlyLoop b s2.hp with
            | some (.loop false tm2 ps2 as2 bd2 nt2), true => some { val := .d (.v (.bool true)), up := [], full := some ((b, .loop true tm2 ps2 as2 bd2 nt2) :: s2.hp), nx := s2.nx, ob := s2.ob, orc := s2.orc, sfx := !sym && s2.sfx }
            | _, _ => none
          -- the body is left: the loop is over, and the jump is pending
          | some (e, s2) => match look s2.hp b, onlyLoop b s2.hp with
            | some (.loop false _ _ _ _ _), true => some { val := .d (.v (.bool false)), up := [], full := some ((b, .left e) :: s2.hp), nx := s2.nx, ob := s2.ob, orc := s2.orc, sfx := !sym && s2.sfx }
            | _, _ => none
          | none => none
        | _, _ => none
      | _ => none
    | false => none
  | _, _ => none
abbrev YieldF := List (Nat × Blk) → Nat → Bool → List Orc → Nat → Nat → List AV → Option RC

abbrev CallF := Bool → List (Nat × Blk) → Nat → Bool → List Orc → FuncId → List AV → Option RC

def yieldOf : AV → Option (Nat × Nat)
  | .own b ver => some (b, ver)
  | _ => none
/-- One operation, in the order of the text. -/
def stepSeq (cx : Cx) (call : CallF) (yc : YieldF) (ops : Array Oper) (base : Nat) (i : Nat) (s : St) : Option St :=
  match nth ops.toList i with
  | none => none
  | some o => match wantedA ops s.tm o with
    | none => none
    | some false => s.put o.dst (.d (.v undef))
    | some true => match callPart o with
      | some (fv, args) => match yieldOf (evA cx s.tm fv) with
       | some (b, ver) => match yc s.hp s.nx s.sym s.orc b ver (args.map (evA cx s.tm)) with
        | none => none
        | some rc => finish ops i o s rc.val (rc.heap s.hp) rc.nx rc.orc rc.ob rc.sfx
       | none => match calleeA (evA cx s.tm fv) with
        | none => none
        | some (f, a, b) => match call true s.hp s.nx s.sym s.orc f (a ++ args.map (evA cx s.tm) ++ b) with
          | none => none
          | some rc => finish ops i o s rc.val (rc.heap s.hp) rc.nx rc.orc rc.ob rc.sfx
      | none => match aop cx s.sym s.orc s.hp (base + i) (evA cx s.tm) o with
        | none => none
        | some r => finish ops i o s r.val (r.up ++ s.hp) s.nx r.orc r.ob true

def seqOps (cx : Cx) (call : CallF) (yc : YieldF) (ops : Array Oper) (base : Nat) : List Nat → St → Option St
  | [], s => some s
  | i :: l, s => match stepSeq cx call yc ops base i s with
    | some s' => seqOps cx call yc ops base l s'
    | none => none

/-! Regions that draw their order. -/

structure Rec where
  i : Nat
  dst : Option Tmp
  val : AV
  up : List (Nat × Blk)
  fp : Option (List Nat) := none
  piv : Bool := false
  nx : Nat := 0
  adr : Bool := false

def recTm : List Rec → List (Nat × AV)
  | [] => []
  | r :: l => match r.dst with
    | some t => (t, r.val) :: recTm l
    | none => recTm l
def recHp : List Rec → List (Nat × Blk)
  | [] => []
  | r :: l => r.up ++ recHp l
/-- The records of the operations in a mask. -/
def recIn (mask : Nat) : List Rec → List Rec
  | [] => []
  | r :: l => match mask.testBit r.i with
    | true => r :: recIn mask l
    | false => recIn mask l

/-- Whether an operation may look into, or write to, the blocks. -/
def touches (o : Oper) : Bool := match o.op with
  | .move _ => false
  | .assign _ => false
  | .pick _ _ _ => false
  | .alloc _ => false
  | .box _ _ => false
  | .build _ _ => false
  | .binOp _ _ _ _ _ => false
  | .unOp _ _ _ => false
  | .convert _ _ _ => false
  | .makeFunc _ _ _ => false
  | .field _ _ _ => false
  | .index _ _ _ => false
  | .extract _ _ => false
  | .call { callee := .builtin .max, args := _, argTypes := _ } => false
  | .call { callee := .builtin .min, args := _, argTypes := _ } => false
  | _ => true

def footV : AV → Option (List Nat)
  | .ptr b _ _ _ _ => some [b]
  | .own b _ => some [b]
  | .sub b _ _ _ _ => some [b]
  | .dptr _ _ => some []
  | .d _ => some []
  | _ => none
/-- The blocks that an operation looks into, where that is known. -/
def footA (ev : Operand → AV) (o : Oper) : Option (List Nat) := match o.op with
  | .load _ a => footV (ev a)
  | .fieldAddr _ x _ => footV (ev x)
  | .indexAddr _ x _ => footV (ev x)
  | .nilCheck x => footV (ev x)
  | .call { callee := .builtin b, args, argTypes := _ } => match b, args.toList with
    | .len, [x] => footV (ev x)
    | _, _ => none
  | _ => none

/-- What an operation of a drawn region sees of the heap. -/
def partHp (_masks : List Nat) (s : St) (recs : List Rec) (o : Oper) (mask : Nat) (fp : Option (List Nat)) : List (Nat × Blk) := match touches o with
  | true => match fp with
    | none => recHp (recIn mask recs) ++ s.hp
    | some fs => (recHp (recIn mask recs) ++ s.hp).filter fun p => fs.contains p.1
  | false => []

/-- The length of a slice of the run's own that was there at the region's head: it is the same whenever it is asked for. -/
def lenPart (cx : Cx) (s : St) (recs : List Rec) (o : Oper) : Option Nat := match o.op with
  | .call { callee := .builtin .len, args, argTypes } => match args.toList, argTypes.toList with
    | [.tmp t], ty :: _ => match cx.P.underlying ty, look s.tm t, recs.all fun r => match r.dst with | some d => !(Nat.beq d t) | none => true with
      | some (.slice _), some (.own b ver), true => match elemsV s.hp (.own b ver) with
        | some es => some es.length
        | none => none
      | _, _, _ => none
    | _, _ => none
  | _ => none
def inMask (masks : List Nat) (i j : Nat) : Bool := match nth masks j with
  | some m => m.testBit i
  | none => false
def dstIs (r : Rec) (t : Nat) : Bool := match r.dst with
  | some d => Nat.beq d t
  | none => false
def movRec (t : Nat) : List Rec → Option Rec
  | [] => none
  | r :: l => match dstIs r t with
    | true => some r
    | false => movRec t l
/-- ... or of a copy of it that the region has made. -/
def lenMov (cx : Cx) (ops : Array Oper) (masks : List Nat) (s : St) (recs : List Rec) (i : Nat) (o : Oper) : Option Nat := match o.op with
  | .call { callee := .builtin .len, args, argTypes } => match args.toList, argTypes.toList with
    | [.tmp t], ty :: _ => match cx.P.underlying ty, movRec t recs with
      | some (.slice _), some r => match nth ops.toList r.i with
        | some p => match p.op, p.guard with
          | .move (.tmp t0), none => match look s.tm t0, inMask masks r.i i && (recs.all fun q => !(dstIs q t) || Nat.beq q.i r.i) && (recs.all fun q => !(Nat.blt q.i r.i) || !(dstIs q t0)) with
            | some (.own b ver), true => match elemsV s.hp (.own b ver) with
              | some es => some es.length
              | none => none
            | _, _ => none
          | _, _ => none
        | none => none
      | _, _ => none
    | _, _ => none
  | _ => none
/-- What a call of a drawn region sees of the heap: nothing, where one that must come first has written to what was there. -/
def callHp (s : St) (recs : List Rec) (mask : Nat) : List (Nat × Blk) := match (recIn mask recs).any fun r => r.up.any fun p => namesIn s.hp p.1 with
  | true => []
  | false => s.hp

def boxB : Blk → Bool
  | .box _ => true
  | .row _ _ _ => false
  | .frozen _ _ _ => false
  | .virt _ _ _ => false
  | .loop _ _ _ _ _ _ => false
  | .mp _ => false
  | .it _ _ => false
  | .fbox _ => false
  | .left _ => false
  | .dead => false
def ptrB : AV → Option Nat
  | .ptr b _ _ _ _ => some b
  | .d _ => none
  | .agg _ => none
  | .tup _ => none
  | .dptr _ _ => none
  | .own _ _ => none
  | .sub _ _ _ _ _ => none
  | .fn _ _ _ => none
  | .junk => none
/-- The variable of which an operation makes an address. -/
def addrOf (ev : Operand → AV) (o : Oper) : Option Nat := match o.op with
  | .fieldAddr _ x _ => ptrB (ev x)
  | .indexAddr _ x _ => ptrB (ev x)
  | _ => none
def adrB (hp : List (Nat × Blk)) : Option Nat → Bool
  | some b => match look hp b with
    | some k => boxB k
    | none => false
  | none => false

/-- A row that a call has made, by the name of the operation. -/
def freshRec (H : List (Nat × Blk)) (nm : Nat) (i : Nat) (dst : Option Tmp) (p : Nat × Blk) (rc : RC) : Option (Rec × List Prop × List Orc) := match p.2, rc.val with
  | .row ver sz es, .own b ver' => match Nat.beq p.1 b && Nat.beq ver ver' && !(namesIn H b) with
    | true => some ({ i, dst, val := .own nm 0, up := [(nm, .row 0 sz es)] }, rc.ob, rc.orc)
    | false => none
  | _, _ => none
def maxNx : Nat → List Rec → Nat
  | n, [] => n
  | n, r :: l => maxNx (match Nat.ble n r.nx with | true => r.nx | false => n) l

/-- A call that may write to what was there: told so. -/
def effO : List Orc → Option (List Orc)
  | .ix k :: r => match decide (k = -9) with
    | true => some r
    | false => none
  | _ => none
/-- What such a call has named anew. -/
def effUp (H : List (Nat × Blk)) (rc : RC) : Option (List (Nat × Blk)) := match rc.full, rc.sfx with
  | some h, true => some (h.take (h.length - H.length))
  | some _, false => none
  | none, _ => some rc.up
/-- One operation of a drawn region: its record. -/
def stepDraw (cx : Cx) (call : CallF) (yc : YieldF) (ops : Array Oper) (masks : List Nat) (base : Nat) (s : St) (i : Nat) (recs : List Rec) (orc : List Orc) : Option (Rec × List Prop × List Orc) :=
  match nth ops.toList i, nth masks i with
  | some o, some mask =>
    let tm := recTm recs ++ s.tm
    match wantedA ops tm o with
    | none => none
    | some false => some ({ i, dst := o.dst, val := .d (.v undef), up := [], fp := some [] }, [], orc)
    | some true =>
      match callPart o with
      | some (fv, args) => match yieldOf (evA cx tm fv) with
       | some (b, ver) => match yc (recHp (recIn mask recs) ++ s.hp) (base + ops.toList.length) s.sym orc b ver (args.map (evA cx tm)) with
        | none => none
        | some rc => match rc.full, isGuard ops i with
          | some h, true => match litB s.sym rc.orc rc.val with
            | some (y, ob2, o2) => some ({ i, dst := o.dst, val := y, up := h, piv := true, nx := rc.nx }, ob2 ++ rc.ob, o2)
            | none => none
          | some h, false => some ({ i, dst := o.dst, val := rc.val, up := h, piv := true, nx := rc.nx }, rc.ob, rc.orc)
          | none, _ => none
       | none => match effO orc with
        | some orc1 => match calleeA (evA cx tm fv), isGuard ops i with
          | some (f, a, b), false => match call true (recHp (recIn mask recs) ++ s.hp) (maxNx (base + ops.toList.length) (recIn mask recs)) s.sym orc1 f (a ++ args.map (evA cx tm) ++ b) with
            | some rc => match effUp (recHp (recIn mask recs) ++ s.hp) rc with
              | some u => some ({ i, dst := o.dst, val := rc.val, up := u, piv := true, nx := rc.nx }, rc.ob, rc.orc)
              | none => none
            | none => none
          | _, _ => none
        | none => match calleeA (evA cx tm fv) with
        | none => none
        | some (f, a, b) => match inHs (callHp s recs mask) (a ++ args.map (evA cx tm) ++ b), call false (callHp s recs mask) (base + ops.toList.length) s.sym orc f (a ++ args.map (evA cx tm) ++ b) with
          | true, some rc => match rc.full, rc.up, isGuard ops i with
            | none, [], true => match litB s.sym rc.orc rc.val with
              | some (y, ob2, o2) => some ({ i, dst := o.dst, val := y, up := [] }, ob2 ++ rc.ob, o2)
              | none => none
            | none, [], false => some ({ i, dst := o.dst, val := rc.val, up := [] }, rc.ob, rc.orc)
            | none, [p], false => freshRec (callHp s recs mask) (base + i) i o.dst p rc
            | _, _, _ => none
          | _, _ => none
      | none => match lenPart cx s recs o with
       | some k => some ({ i, dst := o.dst, val := .d (.v (.int .i64 k)), up := [], fp := some [] }, [], orc)
       | none => match lenMov cx ops masks s recs i o with
        | some k => some ({ i, dst := o.dst, val := .d (.v (.int .i64 k)), up := [], fp := some [] }, [], orc)
        | none => match aop cx s.sym orc (partHp masks s recs o mask (footA (evA cx tm) o)) (base + i) (evA cx tm) o with
         | none => none
         | some r => match isGuard ops i with
           | true => match litB s.sym r.orc r.val with
             | some (y, ob2, o2) => some ({ i, dst := o.dst, val := y, up := r.up, fp := footA (evA cx tm) o, adr := adrB (partHp masks s recs o mask (footA (evA cx tm) o)) (addrOf (evA cx tm) o) }, ob2 ++ r.ob, o2)
             | none => none
           | false => some ({ i, dst := o.dst, val := r.val, up := r.up, fp := footA (evA cx tm) o, adr := adrB (partHp masks s recs o mask (footA (evA cx tm) o)) (addrOf (evA cx tm) o) }, r.ob, r.orc)
  | _, _ => none

def drawOps (cx : Cx) (call : CallF) (yc : YieldF) (ops : Array Oper) (masks : List Nat) (base : Nat) (s : St) : List Nat → List Rec → List Prop → List Orc → Option (List Rec × List Prop × List Orc)
  | [], recs, ob, orc => some (recs, ob, orc)
  | i :: l, recs, ob, orc => match stepDraw cx call yc ops masks base s i recs orc with
    | some (r, ob1, o1) => drawOps cx call yc ops masks base s l (r :: recs) (ob1 ++ ob) o1
    | none => none

/-- Whether a record writes to blocks that were there. -/
def writesOld (base : Nat) (r : Rec) : Bool := r.up.any fun p => !(Nat.beq p.1 (base + r.i))
def touchesAt (ops : Array Oper) (i : Nat) : Bool := match nth ops.toList i with
  | some o => touches o
  | none => true
/-- Whether q may look into what r writes. (Where a variable lies does not turn when it is written.) -/
def meets (r q : Rec) : Bool := match q.fp, q.up with
  | some fs, [] => r.up.any fun p => fs.contains p.1 && !(q.adr && boxB p.2)
  | _, _ => true
/-- Two operations, of which neither must come first, don't meet in the blocks. -/
def apartIn (ops : Array Oper) (masks : List Nat) (base : Nat) (r q : Rec) : Bool :=
  inMask masks r.i q.i || inMask masks q.i r.i || Nat.beq r.i q.i || (!(writesOld base r && touchesAt ops q.i && meets r q) && !(writesOld base q && touchesAt ops r.i && meets q r))
def tmpsOf (o : Oper) (ops : Array Oper) : List Tmp :=
  (o.op.operands.toList.filterMap fun | .tmp t => some t | _ => none) ++
  (match o.guard with
   | some (g, _) => match nth ops.toList g with
     | some x => x.dst.toList
     | none => []
   | none => [])
/-- ... nor in the temporaries. -/
def tmpsApart (ops : Array Oper) (masks : List Nat) (i j : Nat) : Bool :=
  inMask masks i j || inMask masks j i || Nat.beq i j ||
  match nth ops.toList i, nth ops.toList j with
  | some x, some y => match x.dst with
    | some d => !((tmpsOf y ops).contains d) && (match y.dst with | some e => !(Nat.beq d e) | none => true)
    | none => true
  | _, _ => false
/-- The mask of what must come before an operation. -/
def maskOf (masks : List Nat) (o : Oper) (j : Nat) : Nat := o.after.toList.foldl (fun s e => match Region.binds .any e && Nat.blt e.on j with
  | true => s ||| (2 ^ e.on ||| (match nth masks e.on with | some m => m | none => 0))
  | false => s) 0
def maskAt (masks : List Nat) (j : Nat) : Nat := match nth masks j with
  | some m => m
  | none => 0
def masksOk (ops : Array Oper) (masks : List Nat) : Bool := (List.range ops.toList.length).all fun j => match nth ops.toList j with
  | some o => Nat.beq (maskAt masks j) (maskOf masks o j) && (o.after.toList.all fun e => !(Region.binds .any e) || Nat.blt e.on j) &&
    ((List.range j).all fun i => !((maskAt masks j).testBit i) || Nat.beq (maskAt masks i &&& maskAt masks j) (maskAt masks i))
  | none => false
def drawOk (ops : Array Oper) (masks : List Nat) (base : Nat) (s : St) (recs : List Rec) : Bool :=
  Nat.beq masks.length ops.toList.length && masksOk ops masks &&
  ((List.range ops.toList.length).all fun i => (List.range ops.toList.length).all fun j => tmpsApart ops masks i j) &&
  (recs.all fun r => !(writesOld base r) || recs.all fun q => apartIn ops masks base r q) &&
  (recs.all fun r => r.up.all fun p => match Nat.beq p.1 (base + r.i) with
    | true => !(namesIn s.hp p.1)
    | false => (namesIn s.hp p.1 || (List.range r.i).any fun i => Nat.beq p.1 (base + i) && inMask masks i r.i) || (r.piv && Nat.ble (base + ops.toList.length) p.1)) &&
  (belowNx s.hp base || (List.range ops.toList.length).all fun i => !(namesIn s.hp (base + i))) &&
  (recs.all fun r => !(writesOld base r) || touchesAt ops r.i) &&
  (recs.all fun r => match r.dst with | some d => Nat.blt d s.nt | none => true) &&
  (recs.all fun r => !r.piv || recs.all fun q => Nat.beq q.i r.i || inMask masks q.i r.i || inMask masks r.i q.i || q.up.isEmpty)
/-- What is laid over is left out. -/
def dedup : List (Nat × AV) → Nat → List (Nat × AV)
  | [], _ => []
  | p :: l, seen => match seen.testBit p.1 with
    | true => dedup l seen
    | false => p :: dedup l (seen ||| 2 ^ p.1)
def compact (tm : List (Nat × AV)) : Nat → List (Nat × AV)
  | 0 => []
  | n + 1 => match look tm n with
    | some x => (n, x) :: compact tm n
    | none => compact tm n

/-! A state at a loop's head, made small. -/
mutual
def AV.clean (hp : List (Nat × Blk)) (vis : Nat) (kb : List Nat) : AV → AV
  | .d x => .d x
  | .agg cs => .agg (cleans hp vis kb cs)
  | .tup cs => .tup (cleans hp vis kb cs)
  | .dptr x o => .dptr x o
  | .ptr b ver sz i off => match kb.contains b && curr hp b ver with
    | true => match Nat.blt b vis with
      | true => .ptr b ver sz i off
      | false => .ptr b 0 sz i off
    | false => .junk
  | .own b ver => match kb.contains b && curr hp b ver with
    | true => match Nat.blt b vis with
      | true => .own b ver
      | false => .own b 0
    | false => .junk
  | .sub b ver sz lo n => match kb.contains b && curr hp b ver with
    | true => match Nat.blt b vis with
      | true => .sub b ver sz lo n
      | false => .sub b 0 sz lo n
    | false => .junk
  | .fn f a b => .fn f (cleans hp vis kb a) (cleans hp vis kb b)
  | .junk => .junk
def cleans (hp : List (Nat × Blk)) (vis : Nat) (kb : List Nat) : List AV → List AV
  | [] => []
  | x :: l => x.clean hp vis kb :: cleans hp vis kb l
end
def cleanTm (hp : List (Nat × Blk)) (vis : Nat) (kb : List Nat) : List (Nat × AV) → List (Nat × AV)
  | [] => []
  | (t, x) :: l => (t, x.clean hp vis kb) :: cleanTm hp vis kb l
def Blk.clean (hp : List (Nat × Blk)) (vis : Nat) (kb : List Nat) (b : Nat) : Blk → Option Blk
  | .box x => match (x.clean hp vis kb).cells with
    | some _ => some (.box (x.clean hp vis kb))
    | none => none
  | .row v sz es => some (.row (match Nat.blt b vis with | true => v | false => 0) sz es)
  | .frozen v sz es => some (.frozen (match Nat.blt b vis with | true => v | false => 0) sz es)
  | .virt v sz es => some (.virt (match Nat.blt b vis with | true => v | false => 0) sz es)
  | .loop rdy tm ps as bd nt => some (.loop rdy (cleanTm hp vis kb tm) ps as bd nt)
  | .mp es => some (.mp es)
  | .it s p => some (.it s p)
  | .fbox x => some (.fbox x)
  | .left e => some (.left e)
  | .dead => some .dead
def keepT (hp : List (Nat × Blk)) (vis : Nat) (kb : List Nat) (tm : List (Nat × AV)) : List Nat → List (Nat × AV)
  | [] => []
  | t :: l => match look tm t with
    | some x => (t, x.clean hp vis kb) :: keepT hp vis kb tm l
    | none => keepT hp vis kb tm l
def keepB (hp : List (Nat × Blk)) (vis : Nat) (kb : List Nat) : List Nat → Option (List (Nat × Blk))
  | [] => some []
  | b :: l => match look hp b, keepB hp vis kb l with
    | some k, some r => match k.clean hp vis kb b with
      | some k' => some ((b, k') :: r)
      | none => none
    | _, _ => none
/-- Slices without spare room become own blocks. -/
def promoted (z sz : Nat) (es : List D) : Blk := match z with
  | 0 => .virt 0 sz es
  | z + 1 => match es with
    | [] => .row 0 (z + 1) []
    | e :: l => .virt 0 sz (e :: l)
def promote (tm : List (Nat × AV)) (hp : List (Nat × Blk)) (nx : Nat) : List Nat → List (Nat × AV) × List (Nat × Blk) × Nat
  | t :: z :: l => match look tm t, look hp nx with
    | some (.d (.lst true sz es)), none => promote ((t, .own nx 0) :: tm) ((nx, promoted z sz es) :: hp) (nx + 1) l
    | _, _ => promote tm hp nx l
  | _ => (tm, hp, nx)
def normS (s : St) (pr kt kb : List Nat) : Option St :=
  match promote s.tm s.hp s.nx pr with
  | (tm, hp, nx) => match keepB hp s.vis kb kb, hp.all fun q => !(Nat.blt q.1 s.vis) || kb.contains q.1 with
    | some hp0, true => some { s with tm := keepT hp s.vis kb tm kt, hp := hp0, nx, ob := [], orc := [] }
    | _, _ => none
end Go.SX
