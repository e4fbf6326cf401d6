/-
  An abstract evaluator for the model's code: values without addresses, own blocks by name. Its soundness stands in the texts behind this one.
-/
import Derived.WalkKit
set_option linter.unusedVariables false
set_option linter.unusedSimpArgs false
set_option linter.unnecessarySimpa false
namespace Go.SX

/-- Data: what a value reads as, with no address in it. A slice is the list of its elements ('sz' cells each; 'full': no spare room). -/
inductive D where
  | v (x : Value)
  | agg (cs : List D)
  | tup (vs : List D)
  | lst (full : Bool) (sz : Nat) (es : List D)
  | fn (f : Fn) (first captured : List D)
  deriving Inhabited

/-- Abstract values. 'ptr b ver sz i off': into the own block b (of its version 'ver'); 'own b ver': the slice that lies at the own block b; 'sub b ver sz lo n': n elements of it, from lo on. -/
inductive AV where
  | d (x : D)
  | agg (cs : List AV)
  | tup (vs : List AV)
  | dptr (x : D) (off : Nat)
  | ptr (b ver sz i off : Nat)
  | own (b ver : Nat)
  | sub (b ver sz lo n : Nat)
  | fn (f : Fn) (first captured : List AV)
  | junk
  deriving Inhabited

/-- A cell of an object: a datum, or a row of the object's own. -/
inductive OC where
  | dat (x : D)
  | row (sz : Nat) (es : List D)
  deriving Inhabited

inductive Ex where
  | normal
  | exit (id : Nat)
  | ret

/-- Own blocks. -/
inductive Blk where
  | box (x : AV)
  | row (ver sz : Nat) (es : List D)
  | frozen (ver sz : Nat) (es : List D)
  | virt (ver sz : Nat) (es : List D)
  | loop (ready : Bool) (tm : List (Nat × AV)) (ps : List Nat) (assign body : Code) (nt : Nat)
  | mp (es : List D)
  | it (s : ByteArray) (pos : Nat)
  | fbox (x : D)
  | left (e : Ex)
  | dead
  deriving Inhabited

/-- What is told to the evaluator where it cannot decide. -/
inductive Orc where
  | no
  | br (b : Bool)
  | el (x : D)
  | ret (r : D)
  | lp (pr kt kb : List Nat) (e : Ex) (tm : List (Nat × AV)) (hp : List (Nat × Blk)) (nx : Nat)
  | ix (k : Int)
  | obj (b : Option Nat) (r : AV) (cs : List OC)

structure St where
  nt : Nat
  sym : Bool
  tm : List (Nat × AV)
  hp : List (Nat × Blk)
  nx : Nat
  orc : List Orc
  ob : List Prop
  vis : Nat
  sfx : Bool
  rnd : Bool := false

structure Cx where
  P : Program
  G : Nat → Option D
  /-- What is known of functions: used where nothing is symbolic, and owed. -/
  K : Nat → Option (List D → Option D) := fun _ => none

def look {α : Type} : List (Nat × α) → Nat → Option α
  | [], _ => none
  | (k, x) :: l, t => match Nat.beq k t with
    | true => some x
    | false => look l t

def nth {α : Type} : List α → Nat → Option α
  | [], _ => none
  | x :: _, 0 => some x
  | _ :: l, n + 1 => nth l n

def inI64 (n : Int) : Prop := -9223372036854775808 ≤ n ∧ n ≤ 9223372036854775807

def D.cells : D → List D
  | .agg cs => cs
  | x => [x]
def one : Value → Bool
  | .agg _ => false
  | .tuple _ => false
  | _ => true
/-- Whether a value surely is that of one cell. -/
def AV.isOne : AV → Bool
  | .agg _ => false
  | .tup _ => false
  | .junk => false
  | .d x => match x with
    | .v y => one y
    | .agg _ => false
    | .tup _ => false
    | .lst _ _ _ => true
    | .fn _ _ _ => true
  | .dptr _ _ => true
  | .ptr _ _ _ _ _ => true
  | .own _ _ => true
  | .sub _ _ _ _ _ => true
  | .fn _ _ _ => true
def allOne : List AV → Bool
  | [] => true
  | x :: l => x.isOne && allOne l
def AV.cells (x : AV) : Option (List AV) := match x with
  | .agg cs => match allOne cs with
    | true => some cs
    | false => none
  | .d (.agg cs) => match allOne (cs.map .d) with
    | true => some (cs.map .d)
    | false => none
  | y => match y.isOne with
    | true => some [y]
    | false => none

/-- One cell's value as data. -/
def ofCell : Value → D
  | .slice a n c => match a with
    | none => match Nat.beq n 0 && Nat.beq c 0 with
      | true => .lst true 0 []
      | false => .v (.slice a n c)
    | some _ => .v (.slice a n c)
  | .func f a b => match a.toList, b.toList with
    | [], [] => .fn f [] []
    | _, _ => .v (.func f a b)
  | x => .v x
def ofV : Value → D
  | .agg cs => .agg (cs.toList.map ofCell)
  | x => ofCell x

mutual
def D.toV : D → Option Value
  | .v x => some x
  | .agg cs => match toVs cs with
    | some l => some (.agg l.toArray)
    | none => none
  | .tup cs => match toVs cs with
    | some l => some (.tuple l.toArray)
    | none => none
  | .lst _ _ _ => none
  | .fn _ _ _ => none
def toVs : List D → Option (List Value)
  | [] => some []
  | x :: l => match x.toV, toVs l with
    | some y, some ys => some (y :: ys)
    | _, _ => none
end

mutual
def AV.toD : AV → Option D
  | .d x => some x
  | .agg cs => match toDs cs with
    | some l => some (.agg l)
    | none => none
  | .tup cs => match toDs cs with
    | some l => some (.tup l)
    | none => none
  | .fn f a b => match toDs a, toDs b with
    | some x, some y => some (.fn f x y)
    | _, _ => none
  | .dptr _ _ => none
  | .ptr _ _ _ _ _ => none
  | .own _ _ => none
  | .sub _ _ _ _ _ => none
  | .junk => none
def toDs : List AV → Option (List D)
  | [] => some []
  | x :: l => match x.toD, toDs l with
    | some y, some ys => some (y :: ys)
    | _, _ => none
end

def AV.norm (x : AV) : AV := match x.toD with
  | some y => .d y
  | none => x
def AV.toV (x : AV) : Option Value := match x.toD with
  | some y => y.toV
  | none => none

mutual
/-- A value as data, what it owns read off the heap; and the blocks that are frozen by it. -/
def AV.toDH (hp : List (Nat × Blk)) : AV → Option (D × List Nat)
  | .d x => some (x, [])
  | .agg cs => match toDHs hp cs with
    | some (l, fs) => some (.agg l, fs)
    | none => none
  | .tup cs => match toDHs hp cs with
    | some (l, fs) => some (.tup l, fs)
    | none => none
  | .fn f a b => match toDHs hp a, toDHs hp b with
    | some (x, fs), some (y, gs) => some (.fn f x y, fs ++ gs)
    | _, _ => none
  | .own b ver => match look hp b with
    | some (.row ver' sz es) => match Nat.beq ver ver' with
      | true => some (.lst false sz es, [b])
      | false => none
    | some (.frozen ver' sz es) => match Nat.beq ver ver' with
      | true => some (.lst false sz es, [])
      | false => none
    | some (.virt ver' sz es) => match Nat.beq ver ver' with
      | true => some (.lst true sz es, [])
      | false => none
    | _ => none
  | .dptr _ _ => none
  | .ptr _ _ _ _ _ => none
  | .sub _ _ _ _ _ => none
  | .junk => none
def toDHs (hp : List (Nat × Blk)) : List AV → Option (List D × List Nat)
  | [] => some ([], [])
  | x :: l => match x.toDH hp, toDHs hp l with
    | some (y, fs), some (ys, gs) => some (y :: ys, fs ++ gs)
    | _, _ => none
end

def freezeAll (hp : List (Nat × Blk)) : List Nat → List (Nat × Blk)
  | [] => []
  | b :: l => match look hp b with
    | some (.row ver sz es) => (b, .frozen ver sz es) :: freezeAll hp l
    | _ => freezeAll hp l

/-- A computation that asks nothing of the memory. -/
def pureRun {α : Type} (P : Program) : Sem α → Option α
  | .pure a => some a
  | .program k => pureRun P (k P)
  | .mark _ k => pureRun P k
  | _ => none

def Cx.sz (cx : Cx) (t : TypeId) : Option Nat := match cx.P.info? t with
  | some i => some i.size
  | none => none
def Cx.isAgg (cx : Cx) (t : TypeId) : Option Bool := match cx.P.underlying t with
  | some (.struct _) => some true
  | some (.array _ _) => some true
  | some _ => some false
  | none => none
def Cx.zero (cx : Cx) (t : TypeId) : Option Value := match cx.P.info? t with
  | some i => i.zero
  | none => none
def Cx.bytes (cx : Cx) (t : TypeId) : Option Nat := match cx.P.info? t with
  | some i => some i.bytes
  | none => none

/-- What an operation leaves. -/
structure R where
  val : AV
  up : List (Nat × Blk)
  ob : List Prop
  orc : List Orc

def popO (sym : Bool) (orc : List Orc) : Option (Orc × List Orc) := match sym with
  | false => some (.no, orc)
  | true => match orc with
    | [] => none
    | o :: r => some (o, r)

def isAggA : AV → Bool
  | .agg _ => true
  | .d x => match x with
    | .agg _ => true
    | _ => false
  | _ => false

def aload (agg : Bool) (size off : Nat) (x : AV) : Option AV := match x.cells with
  | none => none
  | some cs => match agg with
    | true => match Nat.ble (off + size) cs.length with
      | true => match isAggA x && Nat.beq off 0 && Nat.beq size cs.length with
        | true => some x
        | false => some (AV.norm (.agg ((cs.drop off).take size)))
      | false => none
    | false => nth cs off

/-- The cells of x with y's laid over them from off on. -/
def splice (x : AV) (off : Nat) (y : AV) : Option AV := match x.cells, y.cells with
  | some cs, some ys => match isAggA x with
    | true => match Nat.ble (off + ys.length) cs.length with
      | true => match Nat.beq off 0 && Nat.beq ys.length cs.length && isAggA y with
        | true => some y
        | false => some (AV.norm (.agg (cs.take off ++ ys ++ cs.drop (off + ys.length))))
      | false => none
    | false => match Nat.beq off 0, ys with
      | true, [c] => some c
      | _, _ => none
  | _, _ => none

def fillA (place : Nat → Option (Nat × Nat)) : List AV → List (Nat × AV) → Option (List AV)
  | cs, [] => some cs
  | cs, (i, x) :: rest => match place i, x.cells with
    | some (off, size), some ys => match Nat.beq ys.length size && Nat.ble (off + ys.length) cs.length with
      | true => fillA place (cs.take off ++ ys ++ cs.drop (off + ys.length)) rest
      | false => none
    | _, _ => none

def fieldPlaces (cx : Cx) : List Field → Option (List (Nat × Nat))
  | [] => some []
  | f :: l => match cx.sz f.type, fieldPlaces cx l with
    | some s, some r => some ((f.offset, s) :: r)
    | _, _ => none

def abuild (cx : Cx) (t : TypeId) (parts : List (Nat × AV)) : Option AV := match cx.zero t with
  | none => none
  | some z => match cx.P.underlying t with
    | some (.struct fields) => match fieldPlaces cx fields.toList with
      | some pl => match fillA (nth pl) ((ofV z).cells.map .d) parts with
        | some cs => some (AV.norm (.agg cs))
        | none => none
      | none => none
    | some (.array _ elem) => match cx.sz elem with
      | some s => match fillA (fun i => some (i * s, s)) ((ofV z).cells.map .d) parts with
        | some cs => some (AV.norm (.agg cs))
        | none => none
      | none => none
    | _ => none

/-- The elements of a slice literal, all told, in order. -/
def litElems (hp : List (Nat × Blk)) (s : Nat) : Nat → List (Nat × AV) → Option (List D × List Nat)
  | _, [] => some ([], [])
  | n, (i, x) :: l => match x.cells, x.toDH hp, litElems hp s (n + 1) l with
    | some cs, some (y, fs), some (ys, gs) => match Nat.beq i n && Nat.beq cs.length s, AV.cells (.d y) with
      | true, some zs => match Nat.beq zs.length s with
        | true => some (y :: ys, fs ++ gs)
        | false => none
      | _, _ => none
    | _, _, _ => none

/-! Equality of structs and arrays of plain cells. -/
def eqFields (P : Program) (f : TypeId → Value → Value → Option Bool) (xs ys : Array Value) : List Field → Option Bool
  | [] => some true
  | fd :: l => match fd.name == "_" with
    | true => eqFields P f xs ys l
    | false => match pureRun P (part fd.type xs fd.offset), pureRun P (part fd.type ys fd.offset) with
      | some a, some b => match f fd.type a b, eqFields P f xs ys l with
        | some p, some q => some (p && q)
        | _, _ => none
      | _, _ => none
def eqElems (P : Program) (f : TypeId → Value → Value → Option Bool) (xs ys : Array Value) (t : TypeId) (n : Nat) : List Nat → Option Bool
  | [] => some true
  | i :: l => match pureRun P (part t xs (i * n)), pureRun P (part t ys (i * n)) with
    | some a, some b => match f t a b, eqElems P f xs ys t n l with
      | some p, some q => some (p && q)
      | _, _ => none
    | _, _ => none
def eqA (P : Program) : Nat → TypeId → Value → Value → Option Bool
  | 0, _, _, _ => none
  | d + 1, t, x, y => match P.underlying t, x, y with
    | some .bool, .bool a, .bool b => some (a == b)
    | some (.int _), .int k a, .int k' b => match decide (k = k') with
      | true => some (a == b)
      | false => none
    | some .string, .string a, .string b => some (a == b)
    | some (.float _), .float k a, .float k' b => match decide (k = k') with
      | true => some (Op.floatEq k a b)
      | false => none
    | some (.struct fields), .agg xs, .agg ys => match P.stoodInHeld t with
      | true => none
      | false => eqFields P (eqA P d) xs ys fields.toList
    | some (.array len elem), .agg xs, .agg ys => match P.info? elem with
      | some i => eqElems P (eqA P d) xs ys elem i.size (List.range' 0 len)
      | none => none
    | _, _, _ => none

/-! Numbers with a point: what is no NaN has one answer. -/
def fop : BinOp → FloatKind → Nat → Nat → Option Nat
  | .add, k, a, b => k.format.add a b
  | .sub, k, a, b => k.format.sub a b
  | .mul, k, a, b => k.format.mul a b
  | .quo, k, a, b => k.format.div a b
  | _, _, _, _ => none
def f2f (src : FloatKind) (b : Nat) (dst : FloatKind) : Option Nat :=
  if src = dst then some b else match src.decode b with
  | .nan _ _ => none
  | .infinity s => some (dst.encode (.infinity s))
  | .number s m e => if (dst.decode (dst.encode (.number s m e))).isInfinity then none else some (dst.encode (.number s m e))
def f2i (src : FloatKind) (b : Nat) (dst : IntKind) : Option Int := match (src.decode b).toInt .zero with
  | some n => if dst.min ≤ n ∧ n ≤ dst.max then some n else none
  | none => none
def abinF (op : BinOp) (k k' : FloatKind) (a b : Nat) : Option (D × List Prop) := match decide (k = k') with
  | true => some (.v (.float k ((fop op k a b).getD 0)), [(fop op k a b).isSome = true])
  | false => none
def aconv (cx : Cx) (sym : Bool) (s t : TypeId) (x : Value) : Option (D × List Prop) :=
  match sym, cx.P.underlying s, cx.P.underlying t, x with
  | true, some (.float _), some (.float k), .float j b => some (.v (.float k ((f2f j b k).getD 0)), [(f2f j b k).isSome = true])
  | true, some (.float _), some (.int k), .float j b => some (.v (.int k ((f2i j b k).getD 0)), [(f2i j b k).isSome = true])
  | _, _, _, _ => match pureRun cx.P (convert s t x) with
    | some r => some (ofV r, [])
    | none => none

def abin (cx : Cx) (sym : Bool) (op : BinOp) (t : TypeId) (ox oy : Operand) (x y : Value) : Option (D × List Prop) :=
  match sym, op, x, y with
  | true, .add, .int .i64 a, .int .i64 b => some (.v (.int .i64 (a + b)), [inI64 (a + b)])
  | true, .sub, .int .i64 a, .int .i64 b => some (.v (.int .i64 (a - b)), [inI64 (a - b)])
  | true, .mul, .int .i64 a, .int .i64 b => some (.v (.int .i64 (a * b)), [inI64 (a * b)])
  | true, .quo, .int .i64 a, .int .i64 b => some (.v (.int .i64 (Int.tdiv a b)), [b ≠ 0, inI64 (Int.tdiv a b)])
  | true, .rem, .int .i64 a, .int .i64 b => some (.v (.int .i64 (Int.tmod a b)), [b ≠ 0])
  | true, .add, .float k a, .float k' b => abinF .add k k' a b
  | true, .sub, .float k a, .float k' b => abinF .sub k k' a b
  | true, .mul, .float k a, .float k' b => abinF .mul k k' a b
  | true, .quo, .float k a, .float k' b => abinF .quo k k' a b
  | true, .add, .string a, .string b => some (.v (.string (a ++ b)), [a.size + b.size ≤ 9223372036854775807])
  | _, .eql, .agg xs, .agg ys => match cx.P.eqGuardType cx.P.depth t, eqA cx.P 12 t (.agg xs) (.agg ys) with
    | false, some b => some (.v (.bool b), [])
    | _, _ => none
  | _, .neq, .agg xs, .agg ys => match cx.P.eqGuardType cx.P.depth t, eqA cx.P 12 t (.agg xs) (.agg ys) with
    | false, some b => some (.v (.bool (!b)), [])
    | _, _ => none
  | _, _, _, _ => match pureRun cx.P (do eqGuard op t ox oy x y; binOp op t x y) with
    | some r => some (ofV r, [])
    | none => none

/-- Whether something is a pointer that surely leads somewhere. -/
def isPtr : AV → Bool
  | .dptr _ _ => true
  | _ => false
/-- A list that has something is not nil. -/
def nilCmp (cx : Cx) (op : BinOp) (t : TypeId) (x : AV) (y : Operand) : Option (D × List Prop) :=
  match cx.P.underlying t, x, y, op with
  | some (.slice _), .d (.lst _ _ es), .const (.slice none 0 0), .eql => some (.v (.bool false), [es ≠ []])
  | some (.slice _), .d (.lst _ _ es), .const (.slice none 0 0), .neq => some (.v (.bool true), [es ≠ []])
  | _, _, _, _ => none

def rowLen : Blk → Nat → Option (List D)
  | .row ver' _ es, ver => match Nat.beq ver ver' with
    | true => some es
    | false => none
  | .frozen ver' _ es, ver => match Nat.beq ver ver' with
    | true => some es
    | false => none
  | .virt ver' _ es, ver => match Nat.beq ver ver' with
    | true => some es
    | false => none
  | _, _ => none

def elemsOf (hp : List (Nat × Blk)) : AV → Option (List D)
  | .d (.lst _ _ es) => some es
  | .own b ver => match look hp b with
    | some k => rowLen k ver
    | none => none
  | _ => none

/-- An element that is read: told, or looked up. -/
def pickI (sym : Bool) (orc : List Orc) (es : List D) (i : Int) : Option (D × List Prop × List Orc) := match popO sym orc with
  | some (.el x, r) => some (x, [0 ≤ i, nth es i.toNat = some x], r)
  | some (.no, r) => match decide (0 ≤ i), nth es i.toNat with
    | true, some x => some (x, [], r)
    | _, _ => none
  | _ => none

/-- A condition that is owed, or decided. -/
def owe (sym : Bool) (orc : List Orc) (p : Prop) [Decidable p] : Option (List Prop × List Orc) := match popO sym orc with
  | some (.br _, r) => some ([p], r)
  | some (.no, r) => match decide p with
    | true => some ([], r)
    | false => none
  | _ => none

def val1 (x : AV) (orc : List Orc) : Option R := some { val := x, up := [], ob := [], orc }

def Blk.ver : Blk → Nat
  | .box _ => 0
  | .row v _ _ => v
  | .frozen v _ _ => v
  | .virt v _ _ => v
  | .loop _ _ _ _ _ _ => 0
  | .mp _ => 0
  | .it _ _ => 0
  | .fbox _ => 0
  | .left _ => 0
  | .dead => 0
/-- Whether a version is the newest. -/
def curr (hp : List (Nat × Blk)) (b ver : Nat) : Bool := match look hp b with
  | some k => Nat.beq ver k.ver
  | none => false

/-- The parts of a slice literal, where they all are pointers of the run's own. -/
def ptrElems : Nat → List (Nat × AV) → Option (List AV)
  | _, [] => some []
  | i, (j, .ptr b v s k o) :: l => match Nat.beq i j, ptrElems (i + 1) l with
    | true, some xs => some (.ptr b v s k o :: xs)
    | _, _ => none
  | _, _ :: _ => none
def ptrLit (cx : Cx) (hp : List (Nat × Blk)) (name : Nat) (t : TypeId) (len : Nat) (xs : List AV) (orc : List Orc) : Option R := match cx.P.underlying t, look hp name with
  | some (.slice elem), none => match cx.sz elem, cx.zero elem with
    | some s, some _ => match Nat.beq s 1 && Nat.ble len 16777216 && Nat.beq xs.length len with
      | true => some { val := .sub name 0 1 0 len, up := [(name, .box (.agg xs))], ob := [], orc }
      | false => none
    | _, _ => none
  | _, _ => none
def aindexAddr0 (cx : Cx) (sym : Bool) (orc : List Orc) (hp : List (Nat × Blk)) (t : TypeId) (x : AV) (i : Int) : Option R :=
  match cx.P.underlying t with
  | some (.array len elem) => match cx.sz elem, decide (0 ≤ i ∧ i < len) with
    | some s, true => match x with
      | .ptr b ver sz j off => match curr hp b ver with
        | true => val1 (.ptr b ver sz j (off + i.toNat * s)) orc
        | false => none
      | .dptr y off => val1 (.dptr y (off + i.toNat * s)) orc
      | _ => none
    | _, _ => none
  | some (.slice elem) => match cx.sz elem with
    | none => none
    | some s => match x with
      | .own b ver => match look hp b with
        | some (.row ver' sz es) => match Nat.beq ver ver' && Nat.beq sz s with
          | true => match owe sym orc (0 ≤ i ∧ i < (es.length : Int)) with
            | some (ob, r) => some { val := .ptr b ver sz i.toNat 0, up := [], ob, orc := r }
            | none => none
          | false => none
        | some (.frozen ver' sz es) => match Nat.beq ver ver' && Nat.beq sz s with
          | true => match pickI sym orc es i with
            | some (y, ob, r) => some { val := .dptr y 0, up := [], ob, orc := r }
            | none => none
          | false => none
        | some (.virt ver' sz es) => match Nat.beq ver ver' && Nat.beq sz s with
          | true => match pickI sym orc es i with
            | some (y, ob, r) => some { val := .dptr y 0, up := [], ob, orc := r }
            | none => none
          | false => none
        | _ => none
      | .d (.lst _ sz es) => match Nat.beq sz s with
        | true => match pickI sym orc es i with
          | some (y, ob, r) => some { val := .dptr y 0, up := [], ob, orc := r }
          | none => none
        | false => none
      | .sub b ver sz lo n => match curr hp b ver && Nat.beq sz s, owe sym orc (0 ≤ i ∧ i < (n : Int)) with
        | true, some (ob, r) => match look hp b with
          | some (.box _) => some { val := .ptr b ver sz 0 ((lo + i.toNat) * sz), up := [], ob, orc := r }
          | _ => some { val := .ptr b ver sz (lo + i.toNat) 0, up := [], ob, orc := r }
        | _, _ => none
      | _ => none
  | _ => none

/-- An index that is told. -/
def aindexAddr (cx : Cx) (sym : Bool) (orc : List Orc) (hp : List (Nat × Blk)) (t : TypeId) (x : AV) (i : Int) : Option R := match orc with
  | .ix k :: r => match aindexAddr0 cx sym r hp t x k with
    | some q => some { q with ob := (i = k) :: q.ob }
    | none => none
  | _ => aindexAddr0 cx sym orc hp t x i

/-- A pure result that may be told. -/
def pureO (cx : Cx) (sym : Bool) (orc : List Orc) (s : Sem Value) : Option R := match popO sym orc with
  | some (.el (.v x), r) => some { val := .d (ofV x), up := [], ob := [pureRun cx.P s = some x], orc := r }
  | some (.no, r) => match pureRun cx.P s with
    | some x => some { val := .d (ofV x), up := [], ob := [], orc := r }
    | none => none
  | _ => none

def isStr : AV → Bool
  | .d (.v (.string _)) => true
  | _ => false

def aindex0 (cx : Cx) (sym : Bool) (orc : List Orc) (t : TypeId) (x : AV) (ix : Value) : Option R := match x with
  | .d (.v (.string s)) => pureO cx sym orc (Instr.index t (.string s) ix)
  | _ => match cx.P.underlying t, ix, x.cells with
    | some (.array len elem), .int _ i, some cs => match cx.sz elem, cx.isAgg elem, decide (0 ≤ i ∧ i < len) with
      | some s, some g, true => match x with
        | .agg _ => match aload g s (i.toNat * s) (.agg cs) with
          | some y => val1 y orc
          | none => none
        | .d (.agg _) => match aload g s (i.toNat * s) x with
          | some y => val1 y orc
          | none => none
        | _ => none
      | _, _, _ => none
    | _, _, _ => none

def aindex (cx : Cx) (sym : Bool) (orc : List Orc) (t : TypeId) (x : AV) (ix : Value) : Option R := match orc, ix with
  | .ix k :: r, .int kd i => match aindex0 cx sym r t x (.int kd k) with
    | some q => some { q with ob := (i = k) :: q.ob }
    | none => none
  | _, _ => aindex0 cx sym orc t x ix

def optInt : Option AV → Int → Option Int
  | none, n => some n
  | some (.d (.v (.int _ n))), _ => some n
  | _, _ => none
def optV : Option AV → Option (Option Value)
  | none => some none
  | some a => match a.toV with
    | some v => some (some v)
    | none => none

/-- A part of a list; with no upper bound nothing is taken off its end. -/
def cutD : Bool → List D → Int → Int → List D
  | true, es, _, l => es.drop l.toNat
  | false, es, h, l => (es.take h.toNat).drop l.toNat
def isNo : Option AV → Bool
  | none => true
  | some _ => false
/-- Whether what is owed is decided. -/
def decd (sym : Bool) (orc : List Orc) : Bool := match sym with
  | false => true
  | true => match orc with
    | .no :: _ => true
    | _ => false
def aslice (cx : Cx) (sym : Bool) (orc : List Orc) (hp : List (Nat × Blk)) (t : TypeId) (x : AV) (lo hi mx : Option AV) : Option R := match x with
  | .d (.v (.string s)) => match mx, optV lo, optV hi with
    | none, some l, some h => pureO cx sym orc (Instr.sliceAt t (.string s) l h none)
    | _, _, _ => none
  | _ => match cx.P.underlying t, mx, x.toDH hp with
    | some (.slice elem), none, some (.lst full sz es, fs) => match cx.sz elem, optInt lo 0, optInt hi es.length with
      | some s, some l, some h => match owe sym orc (0 ≤ l ∧ l ≤ h ∧ h ≤ (es.length : Int) ∧ (es = [] ∨ sz = s)) with
        | some (ob, r) => some { val := .d (.lst (decd sym orc && (full && decide (h = (es.length : Int)))) sz (cutD (isNo hi) es h l)), up := freezeAll hp fs, ob, orc := r }
        | none => none
      | _, _, _ => none
    | some (.slice elem), some m, some (.lst _ sz es, fs) => match cx.sz elem, optInt lo 0, optInt hi (-1), optInt (some m) 0 with
      | some s, some l, some h, some m => match owe sym orc (0 ≤ l ∧ l ≤ h ∧ h ≤ m ∧ m ≤ (es.length : Int) ∧ (es = [] ∨ sz = s)) with
        | some (ob, r) => some { val := .d (.lst (decide (h = m)) sz ((es.take h.toNat).drop l.toNat)), up := freezeAll hp fs, ob, orc := r }
        | none => none
      | _, _, _, _ => none
    | _, _, _ => none

/-- Whether what is appended is not written any more. -/
def told : List Orc → Option (List Orc)
  | .ix _ :: r => some r
  | _ => none
/-- Whether an append's result, and what it was appended to, are not written any more. -/
def told2 : List Orc → Option (List Orc)
  | .ix k :: r => match decide (k = -7) with
    | true => some r
    | false => none
  | _ => none
/-- The first elements of an own row, which alone stay: what is behind them is given up. -/
def ashrink (cx : Cx) (sym : Bool) (orc : List Orc) (hp : List (Nat × Blk)) (t : TypeId) (x : AV) (lo hi mx : Option AV) : Option R :=
  match (match sym with | true => told orc | false => some orc), x, lo, mx with
  | some o, .own b ver, none, none => match look hp b with
    | some (.row ver' sz es) => match cx.P.underlying t, Nat.beq ver ver', optInt hi (-1) with
      | some (.slice elem), true, some k => match cx.sz elem, owe sym o (0 ≤ k ∧ k ≤ (es.length : Int)) with
        | some s, some (ob, r) => match Nat.beq s sz with
          | true => some { val := .own b (ver + 1), up := [(b, .row (ver + 1) sz (es.take k.toNat))], ob, orc := r }
          | false => none
        | _, _ => none
      | _, _, _ => none
    | _ => none
  | _, _, _, _ => none

/-- A part of an own row, which is written through. -/
def asub (cx : Cx) (sym : Bool) (orc : List Orc) (hp : List (Nat × Blk)) (t : TypeId) (x : AV) (lo hi mx : Option AV) : Option R :=
  match told orc, x, lo, hi, mx with
  | some o, .own b ver, some (.d (.v (.int _ l))), none, none => match look hp b with
    | some (.row ver' sz es) => match cx.P.underlying t, Nat.beq ver ver' with
      | some (.slice elem), true => match cx.sz elem, owe sym o (0 ≤ l ∧ l < (es.length : Int)) with
        | some s, some (ob, r) => match Nat.beq s sz with
          | true => some { val := .sub b ver sz l.toNat (es.length - l.toNat), up := [], ob, orc := r }
          | false => none
        | _, _ => none
      | _, _ => none
    | _ => none
  | _, _, _, _, _ => none

def isNilL : List D → Bool
  | [] => true
  | _ => false
/-- The elements that an append adds. -/
def addend (hp : List (Nat × Blk)) (x : AV) : Option (Nat × List D × List Nat) := match x.toDH hp with
  | some (.lst _ sz es, fs) => some (sz, es, fs)
  | _ => none
def zeroOk (cx : Cx) (elem : TypeId) (sz : Nat) : Bool := match cx.zero elem with
  | some z => Nat.beq z.cells.size sz && z.cells.toList.all one
  | none => false

def room (cx : Cx) (elem : TypeId) (n : Nat) : Prop := match cx.bytes elem with
  | some b => n * b ≤ 140737488355328 ∧ 0 < b
  | none => False
instance (cx : Cx) (elem : TypeId) (n : Nat) : Decidable (room cx elem n) := by unfold room; split <;> infer_instance

def isSliceT (cx : Cx) (t : TypeId) : Bool := match cx.P.underlying t with
  | some (.slice _) => true
  | _ => false

/-- Whether a list is empty: told, or looked at. -/
def nilO (sym : Bool) (orc : List Orc) (ds : List D) : Option (Bool × List Prop × List Orc) := match popO sym orc with
  | some (.br b, r) => some (b, [isNilL ds = b], r)
  | some (.no, r) => match isNilL ds with
    | true => some (true, [], r)
    | false => some (false, [], r)
  | _ => none

def aappend (cx : Cx) (sym : Bool) (orc : List Orc) (hp : List (Nat × Blk)) (name : Nat) (t : TypeId) (s x : AV) : Option R :=
  match cx.P.underlying t, addend hp x with
  | some (.slice elem), some (asz, ds, fs) => match cx.sz elem with
    | none => none
    | some z => match (Nat.beq asz z || isNilL ds) && zeroOk cx elem z with
      | false => none
      | true => match s with
        | .own b ver => match look hp b with
          | some (.row ver' sz es) => match Nat.beq ver ver' && Nat.beq sz z && !(fs.contains b) with
            | false => none
            | true => match owe sym orc (room cx elem (es.length + ds.length)) with
              | some (ob, r) => match told2 r with
                | some r3 => some { val := .d (.lst false sz (es ++ ds)), up := (b, .frozen (ver + 1) sz (es ++ ds)) :: (b, .row (ver + 1) sz (es ++ ds)) :: freezeAll hp fs, ob, orc := r3 }
                | none => some { val := .own b (ver + 1), up := (b, .row (ver + 1) sz (es ++ ds)) :: freezeAll hp fs, ob, orc := r }
              | none => none
          | some (.virt ver' sz es) => match Nat.beq ver ver' && (Nat.beq sz z || isNilL es) with
            | false => none
            | true => match owe sym orc (room cx elem (es.length + ds.length)) with
              | some (ob, r) => match nilO sym r ds with
                | some (false, ob2, r2) => some { val := .own b (ver + 1), up := (b, .row (ver + 1) z (es ++ ds)) :: freezeAll hp fs, ob := ob2 ++ ob, orc := r2 }
                | _ => none
              | none => none
          | _ => none
        | .d (.lst true sz es) => match Nat.beq sz z || isNilL es with
          | false => none
          | true => match owe sym orc (room cx elem (es.length + ds.length)) with
            | some (ob, r) => match nilO sym r ds with
              | some (false, ob2, r2) => match told r2, look hp name with
                | some r3, _ => some { val := .d (.lst false z (es ++ ds)), up := freezeAll hp fs, ob := ob2 ++ ob, orc := r3 }
                | none, none => some { val := .own name 0, up := (name, .row 0 z (es ++ ds)) :: freezeAll hp fs, ob := ob2 ++ ob, orc := r2 }
                | none, some _ => none
              | some (true, ob2, r2) => some { val := .d (.lst true z es), up := freezeAll hp fs, ob := ob2 ++ ob, orc := r2 }
              | none => none
            | none => none
        | _ => none
  | _, _ => none

/-- A nil slice that grows by so many zeros. -/
def agrow (cx : Cx) (sym : Bool) (orc : List Orc) (hp : List (Nat × Blk)) (name : Nat) (t t2 : TypeId) (s x : AV) : Option R :=
  match cx.P.underlying t, cx.P.underlying t2, s, x with
  | some (.slice elem), some (.int _), .d (.lst true _ es), .d (.v (.int .i64 m)) => match cx.sz elem, cx.zero elem, isNilL es, look hp name with
    | some z, some zv, true, none => match zeroOk cx elem z && Nat.blt 0 z, owe sym orc (0 < m ∧ room cx elem m.toNat) with
      | true, some (ob, r) => some { val := .own name 0, up := [(name, .row 0 z (List.replicate m.toNat (ofV zv)))], ob, orc := r }
      | _, _ => none
    | _, _, _, _ => none
  | _, _, _, _ => none

def elemsV (hp : List (Nat × Blk)) : AV → Option (List D)
  | .d (.lst _ _ es) => some es
  | .own b ver => match look hp b with
    | some (.row ver' _ es) => match Nat.beq ver ver' with
      | true => some es
      | false => none
    | some (.frozen ver' _ es) => match Nat.beq ver ver' with
      | true => some es
      | false => none
    | some (.virt ver' _ es) => match Nat.beq ver ver' with
      | true => some es
      | false => none
    | _ => none
  | .sub b ver _ _ n => match curr hp b ver with
    | true => some (List.replicate n (.tup []))
    | false => none
  | _ => none

def allV : List AV → Option (List Value)
  | [] => some []
  | x :: l => match x.toV, allV l with
    | some v, some vs => some (v :: vs)
    | _, _ => none

def acopy (cx : Cx) (orc : List Orc) (hp : List (Nat × Blk)) (t : TypeId) (d s : AV) : Option R :=
  match cx.P.underlying t, d, addend hp s with
  | some (.slice elem), .own b ver, some (asz, ds, fs) => match look hp b, cx.sz elem with
    | some (.row ver' sz es), some z => match Nat.beq ver ver' && Nat.beq sz z && (Nat.beq asz z || isNilL ds) && !(fs.contains b) with
      | true => some { val := .d (.v (.int .i64 (min ds.length es.length : Nat))), up := (b, .row ver sz (ds.take es.length ++ es.drop ds.length)) :: freezeAll hp fs, ob := [], orc }
      | false => none
    | _, _ => none
  | _, _, _ => none

/-- A part of an own row is set to zero. -/
def aclear (cx : Cx) (sym : Bool) (orc : List Orc) (hp : List (Nat × Blk)) (t : TypeId) (x : AV) : Option R :=
  match cx.P.underlying t, x with
  | some (.slice elem), .sub b ver sz lo n => match look hp b, cx.zero elem with
    | some (.row ver' sz' es), some zv => match Nat.beq ver ver' && Nat.beq sz sz' && zeroOk cx elem sz, owe sym orc (0 < n ∧ lo + n ≤ es.length) with
      | true, some (ob, r) => some { val := .tup [], up := [(b, .row ver sz (es.take lo ++ (List.replicate n (ofV zv) ++ es.drop (lo + n))))], ob, orc := r }
      | _, _ => none
    | _, _ => none
  | _, _ => none

def abuiltin (cx : Cx) (sym : Bool) (orc : List Orc) (hp : List (Nat × Blk)) (name : Nat) (b : Builtin) (ats : Array TypeId) (type : TypeId) (args : List AV) : Option R :=
  match b with
  | .append => match ats.toList, args with
    | t :: t2 :: _, [s, x] => match isSliceT cx t2 with
      | true => aappend cx sym orc hp name t s x
      | false => agrow cx sym orc hp name t t2 s x
    | _, _ => none
  | .copy => match ats.toList, args with
    | t :: _, [d, s] => acopy cx orc hp t d s
    | _, _ => none
  | .len => match args with
    | [x] => match elemsV hp x with
      | some es => match ats.toList with
        | t :: _ => match cx.P.underlying t with
          | some (.slice _) => val1 (.d (.v (.int .i64 es.length))) orc
          | _ => none
        | _ => none
      | none => match x.toV with
        | some v => match pureRun cx.P (Builtin.len_ ats type #[v]) with
          | some r => val1 (.d (ofV r)) orc
          | none => none
        | none => none
    | _ => none
  | .max => match allV args with
    | some vs => match pureRun cx.P (Builtin.max_ ats type vs.toArray) with
      | some r => val1 (.d (ofV r)) orc
      | none => none
    | none => none
  | .min => match allV args with
    | some vs => match pureRun cx.P (Builtin.min_ ats type vs.toArray) with
      | some r => val1 (.d (ofV r)) orc
      | none => none
    | none => none
  | .cap => match args, ats.toList with
    | [.d (.lst true _ es)], t :: _ => match cx.P.underlying t with
      | some (.slice _) => val1 (.d (.v (.int .i64 es.length))) orc
      | _ => none
    | _, _ => none
  | .clear => match args, ats.toList with
    | [x], t :: _ => aclear cx sym orc hp t x
    | _, _ => none
  | _ => none

def fieldOf (cx : Cx) (s : TypeId) (f : Nat) : Option Field := match cx.P.underlying s with
  | some (.struct fields) => nth fields.toList f
  | _ => none

def blkLoad (sym : Bool) (orc : List Orc) (hp : List (Nat × Blk)) (b ver sz i : Nat) : Option (AV × List Prop × List Orc) := match look hp b with
  | some (.box x) => match Nat.beq i 0 with
    | true => some (x, [], orc)
    | false => none
  | some (.row ver' sz' es) => match Nat.beq ver ver' && Nat.beq sz sz' with
    | false => none
    | true => match popO sym orc with
      | some (.el x, r) => some (.d x, [nth es i = some x], r)
      | some (.no, r) => match nth es i with
        | some x => some (.d x, [], r)
        | none => none
      | _ => none
  | _ => none

/-- A pointer to a variable that is not written any more leads to its data. -/
def fboxOf : Blk → Option D
  | .fbox x => some x
  | .box _ => none
  | .row _ _ _ => none
  | .frozen _ _ _ => none
  | .virt _ _ _ => none
  | .loop _ _ _ _ _ _ => none
  | .mp _ => none
  | .it _ _ => none
  | .left _ => none
  | .dead => none
def lookF (hp : List (Nat × Blk)) (b : Nat) : Option D := match look hp b with
  | some k => fboxOf k
  | none => none
def unfP (hp : List (Nat × Blk)) (b ver sz i off : Nat) : AV := match lookF hp b with
  | some x => match Nat.beq ver 0 && Nat.beq i 0 with
    | true => .dptr x off
    | false => .ptr b ver sz i off
  | none => .ptr b ver sz i off
def unf (hp : List (Nat × Blk)) : AV → AV
  | .ptr b ver sz i off => unfP hp b ver sz i off
  | .d x => .d x
  | .agg cs => .agg cs
  | .tup cs => .tup cs
  | .dptr x o => .dptr x o
  | .own b v => .own b v
  | .sub b v s l n => .sub b v s l n
  | .fn f a b => .fn f a b
  | .junk => .junk

/-- An element of a row with a part of it stored anew. -/
def storePart (sz : Nat) (e : D) (off : Nat) (y : D) : Option D := match splice (.d e) off (.d y) with
  | some z => match z.toD with
    | some zd => match AV.cells (.d zd) with
      | some zs => match Nat.beq zs.length sz with
        | true => some zd
        | false => none
      | none => none
    | none => none
  | none => none

def astore (cx : Cx) (sym : Bool) (orc : List Orc) (hp : List (Nat × Blk)) (t : TypeId) (p y : AV) : Option R :=
  match p, y.cells, cx.sz t with
  | .ptr b pv sz i off, some ys, some s => match Nat.beq ys.length s, look hp b with
    | true, some (.box x) => match splice x off y, Nat.beq i 0 with
      | some z, true => match z.cells with
        | some _ => some { val := .d (.v undef), up := [(b, .box z)], ob := [], orc }
        | none => none
      | _, _ => none
    | true, some (.row ver sz' es) => match Nat.beq sz sz' && Nat.beq pv ver, y.toDH hp with
      | true, some (yd, fs) => match fs.contains b with
        | true => none
        | false => match Nat.beq off 0 && Nat.beq s sz with
          | true => match owe sym orc (i < es.length), AV.cells (.d yd) with
            | some (ob, r), some zs => match Nat.beq zs.length sz with
              | true => some { val := .d (.v undef), up := (b, .row ver sz (es.set i yd)) :: freezeAll hp fs, ob, orc := r }
              | false => none
            | _, _ => none
          | false => match popO sym orc with
            | some (.el e, r) => match storePart sz e off yd with
              | some zd => some { val := .d (.v undef), up := (b, .row ver sz (es.set i zd)) :: freezeAll hp fs, ob := [nth es i = some e], orc := r }
              | none => none
            | some (.no, r) => match nth es i with
              | some e => match storePart sz e off yd with
                | some zd => some { val := .d (.v undef), up := (b, .row ver sz (es.set i zd)) :: freezeAll hp fs, ob := [], orc := r }
                | none => none
              | none => none
            | _ => none
      | _, _ => none
    | _, _ => none
  | _, _, _ => none

/-! Maps that the run itself makes: lists of pairs of a key and a value. -/
def sameK : Value → Value → Option Bool
  | .int k a, .int k' b => if k = k' then some (a == b) else none
  | .string a, .string b => some (a == b)
  | .bool a, .bool b => some (a == b)
  | _, _ => none
def vOf : D → Option Value
  | .v k => some k
  | .agg _ => none
  | .tup _ => none
  | .lst _ _ _ => none
  | .fn _ _ _ => none
def pairOf : List D → Option (Value × D)
  | [] => none
  | a :: l => match l with
    | [] => none
    | x :: r => match r with
      | [] => match vOf a with
        | some k => some (k, x)
        | none => none
      | _ :: _ => none
def keyOf : D → Option (Value × D)
  | .v _ => none
  | .agg _ => none
  | .tup l => pairOf l
  | .lst _ _ _ => none
  | .fn _ _ _ => none
/-- Whether a key can be held against all keys of a map. -/
def mok (k : Value) : List D → Bool
  | [] => true
  | e :: es => match keyOf e with
    | some (j, _) => (sameK k j).isSome && mok k es
    | none => false
def mfind (k : Value) : List D → Option D
  | [] => none
  | e :: es => match keyOf e with
    | some (j, x) => match sameK k j with
      | some true => some x
      | _ => mfind k es
    | none => none
def mput (k : Value) (x : D) : List D → List D
  | [] => [.tup [.v k, x]]
  | e :: es => match keyOf e with
    | some (j, _) => match sameK k j with
      | some true => .tup [.v k, x] :: es
      | _ => e :: mput k x es
    | none => e :: es
def mlook (ok : Bool) (k : Value) (z : D) (es : List D) : Option D := match mok k es with
  | false => none
  | true => match mfind k es, ok with
    | some x, true => some (.tup [x, .v (.bool true)])
    | none, true => some (.tup [z, .v (.bool false)])
    | some x, false => some x
    | none, false => some z
def keyFits (cx : Cx) (t : TypeId) (k : Value) : Bool := match cx.P.underlying t, k with
  | some (.int j), .int j' _ => decide (j' = j)
  | some .string, .string _ => true
  | some .bool, .bool _ => true
  | _, _ => false
def ownMap (hp : List (Nat × Blk)) : AV → Option (Nat × List D)
  | .own b _ => match look hp b with
    | some (.mp es) => some (b, es)
    | _ => none
  | _ => none
def amapUpdate (cx : Cx) (sym : Bool) (orc : List Orc) (hp : List (Nat × Blk)) (t : TypeId) (m k x : AV) : Option R :=
  match cx.P.underlying t, ownMap hp m, k.toV, x.toD with
  | some (.map kt _), some (b, es), some kv, some xd => match keyFits cx kt kv, owe sym orc (mok kv es = true) with
    | true, some (ob, r) => some { val := .d (.v undef), up := [(b, .mp (mput kv xd es))], ob, orc := r }
    | _, _ => none
  | _, _, _, _ => none
def alookup (cx : Cx) (sym : Bool) (orc : List Orc) (hp : List (Nat × Blk)) (t : TypeId) (m k : AV) (ok : Bool) : Option R :=
  match cx.P.underlying t, ownMap hp m, k.toV with
  | some (.map kt et), some (_, es), some kv => match keyFits cx kt kv, cx.zero et, popO sym orc with
    | true, some z, some (.el x, r) => some { val := .d x, up := [], ob := [mlook ok kv (ofV z) es = some x], orc := r }
    | true, some z, some (.no, r) => match mlook ok kv (ofV z) es with
      | some x => some { val := .d x, up := [], ob := [], orc := r }
      | none => none
    | _, _, _ => none
  | _, _, _ => none

/-! A slice of a whole array, whose variable is not written any more. -/
def oneV : D → Bool
  | .v x => one x
  | .agg _ => false
  | .tup _ => false
  | .lst _ _ _ => false
  | .fn _ _ _ => false
def arrOf (hp : List (Nat × Blk)) (b : Nat) : Option (List D × List (Nat × Blk)) := match look hp b with
  | some (.fbox (.agg ds)) => some (ds, [])
  | some (.box x) => match x.toD with
    | some (.agg ds) => some (ds, [(b, .fbox (.agg ds))])
    | _ => none
  | _ => none
def chunk : Nat → Nat → List D → List D
  | 0, _, _ => []
  | n + 1, s, ds => .agg (ds.take s) :: chunk n s (ds.drop s)
def groups (s n : Nat) (ds : List D) : List D := match Nat.beq s 1 with
  | true => ds
  | false => chunk n s ds
def sliceArr (cx : Cx) (hp : List (Nat × Blk)) (orc : List Orc) (t : TypeId) (b ver sz i off : Nat) (whole : Bool) : Option R := match arrOf hp b, cx.P.underlying t with
  | some (ds, up), some (.array n elem) => match cx.sz elem with
    | some s => match whole && Nat.beq ver 0 && Nat.beq sz 0 && Nat.beq i 0 && Nat.beq off 0 && Nat.beq ds.length (n * s) && Nat.blt 0 n && ds.all oneV with
      | true => some { val := .d (.lst true s (groups s n ds)), up, ob := [], orc }
      | false => none
    | none => none
  | _, _ => none
def preB (hp : List (Nat × Blk)) (b : Nat) : List (Nat × Blk) := match look hp b with
  | some (.box x) => match x.toD with
    | some (.agg ds) => (b, .fbox (.agg ds)) :: hp
    | _ => hp
  | _ => hp
def preBs (hp : List (Nat × Blk)) : List Nat → List (Nat × Blk)
  | [] => hp
  | b :: l => preBs (preB hp b) l

/-! A range over a string. -/
def ownIt (hp : List (Nat × Blk)) : AV → Option (Nat × ByteArray × Nat)
  | .own b _ => match look hp b with
    | some (.it s p) => some (b, s, p)
    | _ => none
  | _ => none
def nextD (s : ByteArray) (p : Nat) : D := .tup [.v (.bool true), .v (.int .i64 (p : Int)), .v (.int .i32 ((Utf8.decode s p).1 : Int))]
def anext (sym : Bool) (orc : List Orc) (hp : List (Nat × Blk)) (x : AV) : Option R := match ownIt hp x with
  | some (b, s, p) => match popO sym orc with
    | some (.br true, r) => some { val := .d (nextD s p), up := [(b, .it s (p + (Utf8.decode s p).2))], ob := [p < s.size], orc := r }
    | some (.br false, r) => some { val := .d (.tup [.v (.bool false)]), up := [], ob := [¬ p < s.size], orc := r }
    | some (.no, r) => match decide (p < s.size) with
      | true => some { val := .d (nextD s p), up := [(b, .it s (p + (Utf8.decode s p).2))], ob := [], orc := r }
      | false => some { val := .d (.tup [.v (.bool false)]), up := [], ob := [], orc := r }
    | _ => none
  | none => none
def arange (cx : Cx) (hp : List (Nat × Blk)) (name : Nat) (orc : List Orc) (t : TypeId) (x : AV) : Option R := match cx.P.underlying t, x.toV, look hp name with
  | some .string, some (.string s), none => some { val := .own name 0, up := [(name, .it s 0)], ob := [], orc }
  | _, _, _ => none

/-- One operation, all but the calls of functions. -/
def aop (cx : Cx) (sym : Bool) (orc : List Orc) (hp : List (Nat × Blk)) (name : Nat) (ev : Operand → AV) (o : Oper) : Option R :=
  match o.op with
  | .move x => val1 (ev x) orc
  | .assign x => val1 (ev x) orc
  | .pick c a b => match ev c with
    | .d (.v (.bool true)) => val1 (ev a) orc
    | .d (.v (.bool false)) => val1 (ev b) orc
    | _ => none
  | .alloc elem => match cx.zero elem, look hp name with
    | some z, none => match AV.cells (.d (ofV z)) with
      | some _ => some { val := .ptr name 0 0 0 0, up := [(name, .box (.d (ofV z)))], ob := [], orc }
      | none => none
    | _, _ => none
  | .box _ x => match (ev x).cells, look hp name with
    | some _, none => some { val := .ptr name 0 0 0 0, up := [(name, .box (ev x))], ob := [], orc }
    | _, _ => none
  | .build t parts => match abuild cx t (parts.toList.map fun p => (p.1, ev p.2)) with
    | some x => val1 x orc
    | none => none
  | .buildSlice t len parts => match ptrElems 0 (parts.toList.map fun p => (p.1, ev p.2)) with
    | some (x :: xs) => ptrLit cx hp name t len (x :: xs) orc
    | _ => match cx.P.underlying t with
    | some (.slice elem) => match cx.sz elem, cx.zero elem with
      | some s, some _ => match litElems hp s 0 (parts.toList.map fun p => (p.1, ev p.2)) with
        | some (es, fs) => match Nat.ble (len * s) 16777216 && Nat.beq parts.toList.length len with
          | true => some { val := .d (.lst true s es), up := freezeAll hp fs, ob := [], orc }
          | false => none
        | none => none
      | _, _ => none
    | _ => none
  | .load t a => match cx.sz t, cx.isAgg t, unf hp (ev a) with
    | some s, some g, .ptr b ver sz i off => match blkLoad sym orc hp b ver sz i with
      | some (x, ob, r) => match aload g s off x with
        | some y => some { val := y, up := [], ob, orc := r }
        | none => none
      | none => none
    | some s, some g, .dptr x off => match aload g s off (.d x) with
      | some y => val1 y orc
      | none => none
    | _, _, _ => none
  | .store t a x => astore cx sym orc hp t (ev a) (ev x)
  | .nilCheck x => match ev x with
    | .ptr b v s i f => match curr hp b v with
      | true => val1 (.ptr b v s i f) orc
      | false => none
    | .dptr y f => val1 (.dptr y f) orc
    | .fn (.func g) a b => val1 (.fn (.func g) a b) orc
    | .d (.fn (.func g) a b) => val1 (.d (.fn (.func g) a b)) orc
    | _ => none
  | .binOp op t x y _ => match (ev x).toV, (ev y).toV with
    | some a, some b => match abin cx sym op t x y a b with
      | some (r, ob) => some { val := .d r, up := [], ob, orc }
      | none => none
    | _, _ => match nilCmp cx op t (ev x) y with
      | some (r, ob) => some { val := .d r, up := [], ob, orc }
      | none => none
  | .unOp op _ x => match (ev x).toV with
    | some a => match pureRun cx.P (Op.unary op a) with
      | some r => val1 (.d (ofV r)) orc
      | none => none
    | none => none
  | .convert s t x => match (ev x).toV with
    | some a => match aconv cx sym s t a with
      | some (r, ob) => some { val := .d r, up := [], ob, orc }
      | none => none
    | none => none
  | .makeFunc f first cap => val1 (AV.norm (.fn f (first.toList.map ev) (cap.toList.map ev))) orc
  | .makeSlice t l c => match cx.P.underlying t, ev l, ev c, look hp name with
    | some (.slice elem), .d (.v (.int _ n)), .d (.v (.int _ m)), none => match cx.sz elem, cx.zero elem, cx.bytes elem with
      | some s, some z, some b => match owe sym orc (0 ≤ n ∧ n ≤ m ∧ b * m ≤ 281474976710656 ∧ m ≤ 9223372036854775807), zeroOk cx elem s with
        | some (ob, r), true => some { val := .own name 0, up := [(name, .row 0 s (List.replicate n.toNat (ofV z)))], ob, orc := r }
        | _, _ => none
      | _, _, _ => none
    | _, _, _, _ => none
  | .slice t x lo hi mx => match ev x with
    | .ptr b ver sz i off => sliceArr cx hp orc t b ver sz i off (lo.isNone && hi.isNone && mx.isNone)
    | _ => match ashrink cx sym orc hp t (ev x) (lo.map ev) (hi.map ev) (mx.map ev) with
      | some r => some r
      | none => match asub cx sym orc hp t (ev x) (lo.map ev) (hi.map ev) (mx.map ev) with
        | some r => some r
        | none => aslice cx sym orc hp t (ev x) (lo.map ev) (hi.map ev) (mx.map ev)
  | .makeMap _ r => match r, look hp name with
    | none, none => some { val := .own name 0, up := [(name, .mp [])], ob := [], orc }
    | _, _ => none
  | .mapUpdate t m k x => amapUpdate cx sym orc hp t (ev m) (ev k) (ev x)
  | .insert t m k x => amapUpdate cx sym orc hp t (ev m) (ev k) (ev x)
  | .lookup t m k ok => alookup cx sym orc hp t (ev m) (ev k) ok
  | .range t x => arange cx hp name orc t (ev x)
  | .next x isS => match isS with
    | true => anext sym orc hp (ev x)
    | false => none
  | .fieldAddr s x f => match fieldOf cx s f with
    | some fd => match cx.sz fd.type with
      | some n => match Nat.beq n 0, ev x with
        | false, .ptr b v sz i off => match curr hp b v with
          | true => val1 (.ptr b v sz i (off + fd.offset)) orc
          | false => none
        | false, .dptr y off => val1 (.dptr y (off + fd.offset)) orc
        | _, _ => none
      | none => none
    | none => none
  | .field s x f => match fieldOf cx s f with
    | some fd => match cx.sz fd.type, cx.isAgg fd.type, ev x with
      | some n, some g, .agg cs => match aload g n fd.offset (.agg cs) with
        | some y => val1 y orc
        | none => none
      | some n, some g, .d (.agg cs) => match aload g n fd.offset (.d (.agg cs)) with
        | some y => val1 y orc
        | none => none
      | _, _, _ => none
    | none => none
  | .indexAddr t x ix => match ev ix with
    | .d (.v (.int _ i)) => aindexAddr cx sym orc hp t (ev x) i
    | _ => none
  | .index t x ix => match (ev ix).toV with
    | some i => aindex cx sym orc t (ev x) i
    | none => none
  | .extract x i => match ev x with
    | .tup vs => match nth vs i with
      | some y => val1 y orc
      | none => none
    | .d (.tup vs) => match nth vs i with
      | some y => val1 (.d y) orc
      | none => none
    | _ => none
  | .call { callee := .builtin b, args, argTypes } => abuiltin cx sym orc hp name b argTypes o.type (args.toList.map ev)
  | _ => none

def evA (cx : Cx) (tm : List (Nat × AV)) : Operand → AV
  | .tmp t => match look tm t with
    | some x => x
    | none => .junk
  | .const v => .d (ofV v)
  | .global g => match cx.G g with
    | some x => .dptr x 0
    | none => .junk
  | .func f => .d (.fn (.func f) [] [])

/-- Whether an operation is run; none: it cannot be told. -/
def wantedA (ops : Array Oper) (tm : List (Nat × AV)) (o : Oper) : Option Bool := match o.guard with
  | none => some true
  | some (j, want) => match nth ops.toList j with
    | none => some false
    | some g => match g.dst with
      | none => some false
      | some d => match look tm d with
        | some (.d (.v (.bool b))) => some (b == want)
        | some (.d (.v (.tuple _))) => some false
        | some (.d (.tup _)) => some false
        | _ => none

def isGuard (ops : Array Oper) (i : Nat) : Bool := ops.toList.any fun o => match o.guard with
  | some (j, _) => Nat.beq i j
  | none => false

/-- A bool that guards is made a literal. -/
def litB (sym : Bool) (orc : List Orc) (x : AV) : Option (AV × List Prop × List Orc) := match x with
  | .d (.v (.bool b)) => match popO sym orc with
    | some (.br g, r) => some (.d (.v (.bool g)), [b = g], r)
    | some (.no, r) => match b with
      | true => some (.d (.v (.bool true)), [], r)
      | false => some (.d (.v (.bool false)), [], r)
    | _ => none
  | _ => some (x, [], orc)

def St.put (s : St) (d : Option Tmp) (x : AV) : Option St := match d with
  | none => some s
  | some t => match Nat.blt t s.nt with
    | true => some { s with tm := (t, x) :: s.tm }
    | false => none

def namesIn (hp : List (Nat × Blk)) (b : Nat) : Bool := match look hp b with
  | some _ => true
  | none => false
mutual
/-- Whether all own blocks that a value names lie in hp. -/
def AV.inH (hp : List (Nat × Blk)) : AV → Bool
  | .d _ => true
  | .agg cs => inHs hp cs
  | .tup cs => inHs hp cs
  | .dptr _ _ => true
  | .ptr b _ _ _ _ => namesIn hp b
  | .own b _ => namesIn hp b
  | .sub b _ _ _ _ => namesIn hp b
  | .fn _ a b => inHs hp a && inHs hp b
  | .junk => true
def inHs (hp : List (Nat × Blk)) : List AV → Bool
  | [] => true
  | x :: l => x.inH hp && inHs hp l
end

/-- The entries of hp that came since hp0 (hp = new ++ hp0), if all are of names that hp0 lacks. -/
def freshOnly (hp0 : List (Nat × Blk)) : Nat → List (Nat × Blk) → Bool
  | 0, _ => true
  | n + 1, (b, _) :: l => !(namesIn hp0 b) && freshOnly hp0 n l
  | _ + 1, [] => false

/-- A call's result as data, if nothing that was there has turned; the callee's blocks are left behind. -/
def settle (hp0 : List (Nat × Blk)) (x : AV) (s : St) : Option AV :=
  match s.sfx && freshOnly hp0 (s.hp.length - hp0.length) s.hp, x.toDH s.hp with
  | true, some (y, fs) => match fs.all fun b => !(namesIn hp0 b) with
    | true => some (.d y)
    | false => none
  | _, _ => none

def resultsA (cx : Cx) (tm : List (Nat × AV)) (hp : List (Nat × Blk)) : List ResultVar → Option (List AV)
  | [] => some []
  | .tmp t :: l => match look tm t, resultsA cx tm hp l with
    | some x, some r => some (x :: r)
    | _, _ => none
  | .cell a t :: l => match look tm a, cx.sz t, cx.isAgg t, resultsA cx tm hp l with
    | some (.ptr b _ _ 0 off), some s, some g, some r => match look hp b with
      | some (.box x) => match aload g s off x with
        | some y => some (y :: r)
        | none => none
      | _ => none
    | _, _, _, _ => none

def enterTm : Nat → List AV → List (Nat × AV)
  | _, [] => []
  | n, x :: l => (n, x) :: enterTm (n + 1) l

/-- A function's body run in a frame of its own. -/
def enterA (ex : Code → St → Option (Ex × St)) (cx : Cx) (f : FuncId) (args : List AV) (s : St) : Option (AV × St) :=
  match cx.P.funcs[f]? with
  | none => none
  | some fn => match fn.body with
    | none => none
    | some body => match Nat.ble args.length fn.ntmps, ex body { s with nt := fn.ntmps, tm := enterTm 0 args } with
      | true, some (.exit _, _) => none
      | true, some (_, s') => match resultsA cx s'.tm s'.hp fn.results.toList with
        | some [x] => some (x, { s' with nt := s.nt, tm := s.tm })
        | some l => some (AV.norm (.tup l), { s' with nt := s.nt, tm := s.tm })
        | none => none
      | _, none => none
      | false, _ => none

end Go.SX
