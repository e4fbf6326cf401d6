/- An abstract evaluator for the model's code: values without addresses, own blocks by name. Its soundness stands in the texts behind this one. -/
import Derived.WalkKit
namespace Go.SX
theorem jBj.{u,v} {α:Type u} {β:Type v} (a:α) (f:α→Option β):(some a).bind f=f a:=rfl
theorem jIj.{u} {α:Type u} (a b:α):(some a=some b)=(a=b):=Option.some.injEq a b
theorem jPj.{u,v} {α:Type u} {β:Type v} (a:α) (b:β) (c:α) (d:β):((a,b)=(c,d))=(a=c∧b=d):=Prod.mk.injEq a b c d
theorem jGj.{u} {α:Type u} {l:List α} {i:Nat} {a:α} (h:l[i]?=some a):∃ h:i < l.length,l[i]=a:=List.getElem?_eq_some_iff.1 h
theorem jAj (a b:Bool):((a && b)=true)=(a=true∧b=true):=Bool.and_eq_true a b
theorem jLj (n:Nat):n≤n:=Nat.le_refl n
theorem jTj.{u} {c:Prop} {h:Decidable c} (hc:c) {α:Sort u} {t e:α}:ite c t e=t:=if_pos hc
theorem jFj.{u} {c:Prop} {h:Decidable c} (hc:¬c) {α:Sort u} {t e:α}:ite c t e=e:=if_neg hc
theorem jMj.{u} {α:Type u} {a:α} {l:List α}:a∈a::l:=List.mem_cons_self
theorem jCj.{u,v} {α:Type u} {β:Type v} {f:α→β} {a:α} {l:List α}:(a::l).map f=f a::l.map f:=List.map_cons
theorem jDj {p:Prop} [h:Decidable p] (hp:p):decide p=true:=decide_eq_true hp
theorem jEj {p:Prop} [h:Decidable p] (hp:¬p):decide p=false:=decide_eq_false hp
abbrev jSj:Type:=ByteArray
inductive D where
 | v (x:Value)
 | agg (cs:List D)
 | tup (vs:List D)
 | lst (full:Bool) (sz:Nat) (es:List D)
 | fn (f:Fn) (first captured:List D)
 | ref (x:D) (off:Nat)
 deriving Inhabited
inductive AV where
 | d (x:D)
 | agg (cs:List AV)
 | tup (vs:List AV)
 | dptr (x:D) (off:Nat)
 | ptr (b ver sz i off:Nat)
 | own (b ver:Nat)
 | sub (b ver sz lo n:Nat)
 | fn (f:Fn) (first captured:List AV)
 | junk
 deriving Inhabited
abbrev jVj:Type:=List D
abbrev jRj:Type:=Int×Int×Bool×Bool×Int×Int×Int×jVj×jVj×jVj
inductive OC where
 | dat (x:D)
 | row (sz:Nat) (es:jVj)
 deriving Inhabited
inductive Ex where
 | normal
 | exit (id:Nat)
 | ret
inductive Blk where
 | box (x:AV)
 | row (ver sz:Nat) (es:jVj)
 | frozen (ver sz:Nat) (es:jVj)
 | virt (ver sz:Nat) (es:jVj)
 | loop (ready:Bool) (tm:List (Nat×AV)) (ps:List Nat) (assign body:Code) (nt:Nat)
 | mp (es:jVj)
 | it (s:jSj) (pos:Nat)
 | fbox (x:D)
 | left (e:Ex)
 | dead
 deriving Inhabited
inductive Orc where
 | no
 | br (b:Bool)
 | el (x:D)
 | ret (r:D)
 | lp (pr kt kb:List Nat) (e:Ex) (tm:List (Nat×AV)) (hp:List (Nat×Blk)) (nx:Nat)
 | ix (k:Int)
 | obj (b:Option Nat) (r:AV) (cs:List OC) (ks:List Bool)
structure St where
 nt:Nat
 sym:Bool
 tm:List (Nat×AV)
 hp:List (Nat×Blk)
 nx:Nat
 orc:List Orc
 ob:List Prop
 vis:Nat
 sfx:Bool
 rnd:Bool:=false
structure Cx where
 P:Program
 G:Nat→Option D
 K:Nat→Option (jVj→Option D):=fun _=>none
 E:Nat→Bool:=fun _=>false
 O:Nat→Bool:=fun _=>false
def look {α:Type}:List (Nat×α)→Nat→Option α
 | [],_=>none
 | (k,x)::l,t=>match Nat.beq k t with
  | true=>some x
  | false=>look l t
def nth {α:Type}:List α→Nat→Option α
 | [],_=>none
 | x::_,0=>some x
 | _::l,n+1=>nth l n
def Qh (n:Int):Prop:=-9223372036854775808≤n∧n≤9223372036854775807
def D.cells:D→jVj
 | .agg cs=>cs
 | x=>[x]
def one:Value→Bool
 | .agg _=>false
 | .tuple _=>false
 | _=>true
def AV.isOne:AV→Bool
 | .agg _=>false
 | .tup _=>false
 | .junk=>false
 | .d x=>match x with
  | .v y=>one y
  | .agg _=>false
  | .tup _=>false
  | .lst _ _ _=>true
  | .fn _ _ _=>true
  | .ref _ _=>true
 | .dptr _ _=>true
 | .ptr _ _ _ _ _=>true
 | .own _ _=>true
 | .sub _ _ _ _ _=>true
 | .fn _ _ _=>true
def W5:List AV→Bool
 | []=>true
 | x::l=>x.isOne && W5 l
def AV.cells (x:AV):Option (List AV):=match x with
 | .agg cs=>match W5 cs with
  | true=>some cs
  | false=>none
 | .d (.agg cs)=>match W5 (cs.map .d) with
  | true=>some (cs.map .d)
  | false=>none
 | y=>match y.isOne with
  | true=>some [y]
  | false=>none
def KP:Value→D
 | .slice a n c=>match a with
  | none=>match Nat.beq n 0 && Nat.beq c 0 with
   | true=>.lst true 0 []
   | false=>.v (.slice a n c)
  | some _=>.v (.slice a n c)
 | .func f a b=>match a.toList,b.toList with
  | [],[]=>.fn f [] []
  | _,_=>.v (.func f a b)
 | x=>.v x
def ofV:Value→D
 | .agg cs=>.agg (cs.toList.map KP)
 | x=>KP x
mutual
def D.toV:D→Option Value
 | .v x=>some x
 | .agg cs=>match toVs cs with
  | some l=>some (.agg l.toArray)
  | none=>none
 | .tup cs=>match toVs cs with
  | some l=>some (.tuple l.toArray)
  | none=>none
 | .lst _ _ _=>none
 | .fn _ _ _=>none
 | .ref _ _=>none
def toVs:jVj→Option (List Value)
 | []=>some []
 | x::l=>match x.toV,toVs l with
  | some y,some ys=>some (y::ys)
  | _,_=>none
end
mutual
def AV.toD:AV→Option D
 | .d x=>some x
 | .agg cs=>match Kk cs with
  | some l=>some (.agg l)
  | none=>none
 | .tup cs=>match Kk cs with
  | some l=>some (.tup l)
  | none=>none
 | .fn f a b=>match Kk a,Kk b with
  | some x,some y=>some (.fn f x y)
  | _,_=>none
 | .dptr _ _=>none
 | .ptr _ _ _ _ _=>none
 | .own _ _=>none
 | .sub _ _ _ _ _=>none
 | .junk=>none
def Kk:List AV→Option (jVj)
 | []=>some []
 | x::l=>match x.toD,Kk l with
  | some y,some ys=>some (y::ys)
  | _,_=>none
end
def AV.norm (x:AV):AV:=match x.toD with
 | some y=>.d y
 | none=>x
def AV.toV (x:AV):Option Value:=match x.toD with
 | some y=>y.toV
 | none=>none
def fzOk:D→Bool
 | .v x=>one x
 | .agg _=>true
 | .tup _=>false
 | .lst _ _ _=>true
 | .fn _ _ _=>true
 | .ref _ _=>true
def yq:Blk→Option (D×Bool)
 | .fbox x=>some (x,false)
 | .box x=>match x.toD with
  | some y=>match fzOk y with
   | true=>some (y,true)
   | false=>none
  | none=>none
 | .row _ _ _=>none
 | .frozen _ _ _=>none
 | .virt _ _ _=>none
 | .loop _ _ _ _ _ _=>none
 | .mp _=>none
 | .it _ _=>none
 | .left _=>none
 | .dead=>none
mutual
def AV.toDH (hp:List (Nat×Blk)):AV→Option (D×List Nat)
 | .d x=>some (x,[])
 | .agg cs=>match Kb hp cs with
  | some (l,fs)=>some (.agg l,fs)
  | none=>none
 | .tup cs=>match Kb hp cs with
  | some (l,fs)=>some (.tup l,fs)
  | none=>none
 | .fn f a b=>match Kb hp a,Kb hp b with
  | some (x,fs),some (y,gs)=>some (.fn f x y,fs++gs)
  | _,_=>none
 | .own b ver=>match look hp b with
  | some (.row ver' sz es)=>match Nat.beq ver ver' with
   | true=>some (.lst false sz es,[b])
   | false=>none
  | some (.frozen ver' sz es)=>match Nat.beq ver ver' with
   | true=>some (.lst false sz es,[])
   | false=>none
  | some (.virt ver' sz es)=>match Nat.beq ver ver' with
   | true=>some (.lst true sz es,[])
   | false=>none
  | _=>none
 | .dptr x o=>some (.ref x o,[])
 | .ptr b ver sz i off=>match Nat.beq ver 0 && Nat.beq sz 0 && Nat.beq i 0 with
  | true=>match look hp b with
   | some k=>match yq k with
    | some (x,true)=>some (.ref x off,[b])
    | some (x,false)=>some (.ref x off,[])
    | none=>none
   | none=>none
  | false=>none
 | .sub _ _ _ _ _=>none
 | .junk=>none
def Kb (hp:List (Nat×Blk)):List AV→Option (jVj×List Nat)
 | []=>some ([],[])
 | x::l=>match x.toDH hp,Kb hp l with
  | some (y,fs),some (ys,gs)=>some (y::ys,fs++gs)
  | _,_=>none
end
def Qe (hp:List (Nat×Blk)):List Nat→List (Nat×Blk)
 | []=>[]
 | b::l=>match look hp b with
  | some (.row ver sz es)=>(b,.frozen ver sz es)::Qe hp l
  | some (.box x)=>match yq (.box x) with
   | some (y,_)=>(b,.fbox y)::Qe hp l
   | none=>Qe hp l
  | _=>Qe hp l
def QV {α:Type} (P:Program):Sem α→Option α
 | .pure a=>some a
 | .program k=>QV P (k P)
 | .mark _ k=>QV P k
 | _=>none
def Cx.sz (cx:Cx) (t:TypeId):Option Nat:=match cx.P.info? t with
 | some i=>some i.size
 | none=>none
def Cx.isAgg (cx:Cx) (t:TypeId):Option Bool:=match cx.P.underlying t with
 | some (.struct _)=>some true
 | some (.array _ _)=>some true
 | some _=>some false
 | none=>none
def Cx.zero (cx:Cx) (t:TypeId):Option Value:=match cx.P.info? t with
 | some i=>i.zero
 | none=>none
def Cx.bytes (cx:Cx) (t:TypeId):Option Nat:=match cx.P.info? t with
 | some i=>some i.bytes
 | none=>none
structure R where
 val:AV
 up:List (Nat×Blk)
 ob:List Prop
 orc:List Orc
def qG (sym:Bool) (orc:List Orc):Option (Orc×List Orc):=match sym with
 | false=>some (.no,orc)
 | true=>match orc with
  | []=>none
  | o::r=>some (o,r)
def K0:AV→Bool
 | .agg _=>true
 | .d x=>match x with
  | .agg _=>true
  | _=>false
 | _=>false
def Kg (agg:Bool) (size off:Nat) (x:AV):Option AV:=match x.cells with
 | none=>none
 | some cs=>match agg with
  | true=>match Nat.ble (off+size) cs.length with
   | true=>match K0 x && Nat.beq off 0 && Nat.beq size cs.length with
    | true=>some x
    | false=>some (AV.norm (.agg ((cs.drop off).take size)))
   | false=>none
  | false=>nth cs off
def wr (x:AV) (off:Nat) (y:AV):Option AV:=match x.cells,y.cells with
 | some cs,some ys=>match K0 x with
  | true=>match Nat.ble (off+ys.length) cs.length with
   | true=>match Nat.beq off 0 && Nat.beq ys.length cs.length && K0 y with
    | true=>some y
    | false=>some (AV.norm (.agg (cs.take off++ys++cs.drop (off+ys.length))))
   | false=>none
  | false=>match Nat.beq off 0,ys with
   | true,[c]=>some c
   | _,_=>none
 | _,_=>none
def kI (place:Nat→Option (Nat×Nat)):List AV→List (Nat×AV)→Option (List AV)
 | cs,[]=>some cs
 | cs,(i,x)::rest=>match place i,x.cells with
  | some (off,size),some ys=>match Nat.beq ys.length size && Nat.ble (off+ys.length) cs.length with
   | true=>kI place (cs.take off++ys++cs.drop (off+ys.length)) rest
   | false=>none
  | _,_=>none
def U1 (cx:Cx):List Field→Option (List (Nat×Nat))
 | []=>some []
 | f::l=>match cx.sz f.type,U1 cx l with
  | some s,some r=>some ((f.offset,s)::r)
  | _,_=>none
def Qa4 (cx:Cx) (t:TypeId) (parts:List (Nat×AV)):Option AV:=match cx.zero t with
 | none=>none
 | some z=>match cx.P.underlying t with
  | some (.struct fields)=>match U1 cx fields.toList with
   | some pl=>match kI (nth pl) ((ofV z).cells.map .d) parts with
    | some cs=>some (AV.norm (.agg cs))
    | none=>none
   | none=>none
  | some (.array _ elem)=>match cx.sz elem with
   | some s=>match kI (fun i=>some (i * s,s)) ((ofV z).cells.map .d) parts with
    | some cs=>some (AV.norm (.agg cs))
    | none=>none
   | none=>none
  | _=>none
def YB (hp:List (Nat×Blk)) (s:Nat):Nat→List (Nat×AV)→Option (jVj×List Nat)
 | _,[]=>some ([],[])
 | n,(i,x)::l=>match x.cells,x.toDH hp,YB hp s (n+1) l with
  | some cs,some (y,fs),some (ys,gs)=>match Nat.beq i n && Nat.beq cs.length s,AV.cells (.d y) with
   | true,some zs=>match Nat.beq zs.length s with
    | true=>some (y::ys,fs++gs)
    | false=>none
   | _,_=>none
  | _,_,_=>none
def Gh (P:Program) (f:TypeId→Value→Value→Option Bool) (xs ys:Array Value):List Field→Option Bool
 | []=>some true
 | fd::l=>match fd.name == "_" with
  | true=>Gh P f xs ys l
  | false=>match QV P (part fd.type xs fd.offset),QV P (part fd.type ys fd.offset) with
   | some a,some b=>match f fd.type a b,Gh P f xs ys l with
    | some p,some q=>some (p && q)
    | _,_=>none
   | _,_=>none
def qb (P:Program) (f:TypeId→Value→Value→Option Bool) (xs ys:Array Value) (t:TypeId) (n:Nat):List Nat→Option Bool
 | []=>some true
 | i::l=>match QV P (part t xs (i * n)),QV P (part t ys (i * n)) with
  | some a,some b=>match f t a b,qb P f xs ys t n l with
   | some p,some q=>some (p && q)
   | _,_=>none
  | _,_=>none
def eqA (P:Program):Nat→TypeId→Value→Value→Option Bool
 | 0,_,_,_=>none
 | d+1,t,x,y=>match P.underlying t,x,y with
  | some .bool,.bool a,.bool b=>some (a == b)
  | some (.int _),.int k a,.int k' b=>match decide (k=k') with
   | true=>some (a == b)
   | false=>none
  | some .string,.string a,.string b=>some (a == b)
  | some (.float _),.float k a,.float k' b=>match decide (k=k') with
   | true=>some (Op.floatEq k a b)
   | false=>none
  | some (.struct fields),.agg xs,.agg ys=>match P.stoodInHeld t with
   | true=>none
   | false=>Gh P (eqA P d) xs ys fields.toList
  | some (.array len elem),.agg xs,.agg ys=>match P.info? elem with
   | some i=>qb P (eqA P d) xs ys elem i.size (List.range' 0 len)
   | none=>none
  | _,_,_=>none
def fop:BinOp→FloatKind→Nat→Nat→Option Nat
 | .add,k,a,b=>k.format.add a b
 | .sub,k,a,b=>k.format.sub a b
 | .mul,k,a,b=>k.format.mul a b
 | .quo,k,a,b=>k.format.div a b
 | _,_,_,_=>none
def f2f (src:FloatKind) (b:Nat) (dst:FloatKind):Option Nat :=
 if src=dst then some b else match src.decode b with
 | .nan _ _=>none
 | .infinity s=>some (dst.encode (.infinity s))
 | .number s m e=>if (dst.decode (dst.encode (.number s m e))).isInfinity then none else some (dst.encode (.number s m e))
def f2i (src:FloatKind) (b:Nat) (dst:IntKind):Option Int:=match (src.decode b).toInt .zero with
 | some n=>if dst.min≤n∧n≤dst.max then some n else none
 | none=>none
def kY (op:BinOp) (k k' : FloatKind) (a b:Nat):Option (D×List Prop):=match decide (k=k') with
 | true=>some (.v (.float k ((fop op k a b).getD 0)),[(fop op k a b).isSome=true])
 | false=>none
def QcT (cx:Cx) (sym:Bool) (s t:TypeId) (x:Value):Option (D×List Prop) :=
 match sym,cx.P.underlying s,cx.P.underlying t,x with
 | true,some (.float _),some (.float k),.float j b=>some (.v (.float k ((f2f j b k).getD 0)),[(f2f j b k).isSome=true])
 | true,some (.float _),some (.int k),.float j b=>some (.v (.int k ((f2i j b k).getD 0)),[(f2i j b k).isSome=true])
 | _,_,_,_=>match QV cx.P (convert s t x) with
  | some r=>some (ofV r,[])
  | none=>none
def QaV:D→Option UInt8
 | .v x=>match x with
  | .int k n=>match k with
   | .u8=>some (UInt8.ofNat n.toNat)
   | _=>none
  | _=>none
 | _=>none
def qV:jVj→Option (List UInt8)
 | []=>some []
 | x::l=>match QaV x,qV l with
  | some b,some bs=>some (b::bs)
  | _,_=>none
def abin (cx:Cx) (sym:Bool) (op:BinOp) (t:TypeId) (ox oy:Operand) (x y:Value):Option (D×List Prop) :=
 match sym,op,x,y with
 | true,.add,.int .i64 a,.int .i64 b=>some (.v (.int .i64 (a+b)),[Qh (a+b)])
 | true,.sub,.int .i64 a,.int .i64 b=>some (.v (.int .i64 (a - b)),[Qh (a - b)])
 | true,.mul,.int .i64 a,.int .i64 b=>some (.v (.int .i64 (a * b)),[Qh (a * b)])
 | true,.quo,.int .i64 a,.int .i64 b=>some (.v (.int .i64 (Int.tdiv a b)),[b≠0,Qh (Int.tdiv a b)])
 | true,.rem,.int .i64 a,.int .i64 b=>some (.v (.int .i64 (Int.tmod a b)),[b≠0])
 | true,.add,.float k a,.float k' b=>kY .add k k' a b
 | true,.sub,.float k a,.float k' b=>kY .sub k k' a b
 | true,.mul,.float k a,.float k' b=>kY .mul k k' a b
 | true,.quo,.float k a,.float k' b=>kY .quo k k' a b
 | true,.add,.string a,.string b=>some (.v (.string (a++b)),[a.size+b.size≤9223372036854775807])
 | _,.eql,.agg xs,.agg ys=>match cx.P.eqGuardType cx.P.depth t,eqA cx.P 12 t (.agg xs) (.agg ys) with
  | false,some b=>some (.v (.bool b),[])
  | _,_=>none
 | _,.neq,.agg xs,.agg ys=>match cx.P.eqGuardType cx.P.depth t,eqA cx.P 12 t (.agg xs) (.agg ys) with
  | false,some b=>some (.v (.bool (!b)),[])
  | _,_=>none
 | _,_,_,_=>match QV cx.P (do eqGuard op t ox oy x y;binOp op t x y) with
  | some r=>some (ofV r,[])
  | none=>none
def Xl (cx:Cx) (op:BinOp) (t:TypeId) (x:AV) (y:Operand):Option (D×List Prop) :=
 match cx.P.underlying t,x,y,op with
 | some (.slice _),.d (.lst _ _ es),.const (.slice none 0 0),.eql=>some (.v (.bool false),[es≠[]])
 | some (.slice _),.d (.lst _ _ es),.const (.slice none 0 0),.neq=>some (.v (.bool true),[es≠[]])
 | _,_,_,_=>none
def uE (sym:Bool) (orc:List Orc) (es:jVj) (i:Int):Option (D×List Prop×List Orc):=match qG sym orc with
 | some (.el x,r)=>some (x,[0≤i,nth es i.toNat=some x],r)
 | some (.no,r)=>match decide (0≤i),nth es i.toNat with
  | true,some x=>some (x,[],r)
  | _,_=>none
 | _=>none
def owe (sym:Bool) (orc:List Orc) (p:Prop) [Decidable p]:Option (List Prop×List Orc):=match qG sym orc with
 | some (.br _,r)=>some ([p],r)
 | some (.no,r)=>match decide p with
  | true=>some ([],r)
  | false=>none
 | _=>none
def val1 (x:AV) (orc:List Orc):Option R:=some { val:=x,up:=[],ob:=[],orc }
def Blk.ver:Blk→Nat
 | .box _=>0
 | .row v _ _=>v
 | .frozen v _ _=>v
 | .virt v _ _=>v
 | .loop _ _ _ _ _ _=>0
 | .mp _=>0
 | .it _ _=>0
 | .fbox _=>0
 | .left _=>0
 | .dead=>0
def qN (hp:List (Nat×Blk)):AV→Bool
 | .ptr b ver _ _ _=>match look hp b with
  | some k=>Nat.beq k.ver ver
  | none=>false
 | .dptr _ _=>true
 | _=>false
def YI (hp:List (Nat×Blk)) (cx:Cx) (op:BinOp) (t:TypeId) (x:AV) (y:Operand):Option (D×List Prop) :=
 match cx.P.underlying t,qN hp x,y,op with
 | some (.pointer _),true,.const (.pointer none),.eql=>some (.v (.bool false),[])
 | some (.pointer _),true,.const (.pointer none),.neq=>some (.v (.bool true),[])
 | _,_,_,_=>none
def GQ (hp:List (Nat×Blk)) (b ver:Nat):Bool:=match look hp b with
 | some k=>Nat.beq ver k.ver
 | none=>false
def US:Nat→List (Nat×AV)→Option (List AV)
 | _,[]=>some []
 | i,(j,.ptr b v s k o)::l=>match Nat.beq i j,US (i+1) l with
  | true,some xs=>some (.ptr b v s k o::xs)
  | _,_=>none
 | _,_::_=>none
def yu (cx:Cx) (hp:List (Nat×Blk)) (name:Nat) (t:TypeId) (len:Nat) (xs:List AV) (orc:List Orc):Option R:=match cx.P.underlying t,look hp name with
 | some (.slice elem),none=>match cx.sz elem,cx.zero elem with
  | some s,some _=>match Nat.beq s 1 && Nat.ble len 16777216 && Nat.beq xs.length len with
   | true=>some { val:=.sub name 0 1 0 len,up:=[(name,.box (.agg xs))],ob:=[],orc }
   | false=>none
  | _,_=>none
 | _,_=>none
def Ve (cx:Cx) (sym:Bool) (orc:List Orc) (hp:List (Nat×Blk)) (t:TypeId) (x:AV) (i:Int):Option R :=
 match cx.P.underlying t with
 | some (.array len elem)=>match cx.sz elem,decide (0≤i∧i < len) with
  | some s,true=>match x with
   | .ptr b ver sz j off=>match GQ hp b ver with
    | true=>val1 (.ptr b ver sz j (off+i.toNat * s)) orc
    | false=>none
   | .dptr y off=>val1 (.dptr y (off+i.toNat * s)) orc
   | _=>none
  | _,_=>none
 | some (.slice elem)=>match cx.sz elem with
  | none=>none
  | some s=>match x with
   | .own b ver=>match look hp b with
    | some (.row ver' sz es)=>match Nat.beq ver ver' && Nat.beq sz s with
     | true=>match owe sym orc (0≤i∧i < (es.length:Int)) with
      | some (ob,r)=>some { val:=.ptr b ver sz i.toNat 0,up:=[],ob,orc:=r }
      | none=>none
     | false=>none
    | some (.frozen ver' sz es)=>match Nat.beq ver ver' && Nat.beq sz s with
     | true=>match uE sym orc es i with
      | some (y,ob,r)=>some { val:=.dptr y 0,up:=[],ob,orc:=r }
      | none=>none
     | false=>none
    | some (.virt ver' sz es)=>match Nat.beq ver ver' && Nat.beq sz s with
     | true=>match uE sym orc es i with
      | some (y,ob,r)=>some { val:=.dptr y 0,up:=[],ob,orc:=r }
      | none=>none
     | false=>none
    | _=>none
   | .d (.lst _ sz es)=>match Nat.beq sz s with
    | true=>match uE sym orc es i with
     | some (y,ob,r)=>some { val:=.dptr y 0,up:=[],ob,orc:=r }
     | none=>none
    | false=>none
   | .sub b ver sz lo n=>match GQ hp b ver && Nat.beq sz s,owe sym orc (0≤i∧i < (n:Int)) with
    | true,some (ob,r)=>match look hp b with
     | some (.box _)=>some { val:=.ptr b ver sz 0 ((lo+i.toNat) * sz),up:=[],ob,orc:=r }
     | _=>some { val:=.ptr b ver sz (lo+i.toNat) 0,up:=[],ob,orc:=r }
    | _,_=>none
   | _=>none
 | _=>none
def YP (cx:Cx) (sym:Bool) (orc:List Orc) (hp:List (Nat×Blk)) (t:TypeId) (x:AV) (i:Int):Option R:=match orc with
 | .ix k::r=>match Ve cx sym r hp t x k with
  | some q=>some { q with ob:=(i=k)::q.ob }
  | none=>none
 | _=>Ve cx sym orc hp t x i
def Qbd (cx:Cx) (sym:Bool) (orc:List Orc) (s:Sem Value):Option R:=match qG sym orc with
 | some (.el (.v x),r)=>some { val:=.d (ofV x),up:=[],ob:=[QV cx.P s=some x],orc:=r }
 | some (.no,r)=>match QV cx.P s with
  | some x=>some { val:=.d (ofV x),up:=[],ob:=[],orc:=r }
  | none=>none
 | _=>none
def wm (cx:Cx) (sym:Bool) (orc:List Orc) (t:TypeId) (x:AV) (ix:Value):Option R:=match x with
 | .d (.v (.string s))=>Qbd cx sym orc (Instr.index t (.string s) ix)
 | _=>match cx.P.underlying t,ix,x.cells with
  | some (.array len elem),.int _ i,some cs=>match cx.sz elem,cx.isAgg elem,decide (0≤i∧i < len) with
   | some s,some g,true=>match x with
    | .agg _=>match Kg g s (i.toNat * s) (.agg cs) with
     | some y=>val1 y orc
     | none=>none
    | .d (.agg _)=>match Kg g s (i.toNat * s) x with
     | some y=>val1 y orc
     | none=>none
    | _=>none
   | _,_,_=>none
  | _,_,_=>none
def QaZ (cx:Cx) (sym:Bool) (orc:List Orc) (t:TypeId) (x:AV) (ix:Value):Option R:=match orc,ix with
 | .ix k::r,.int kd i=>match wm cx sym r t x (.int kd k) with
  | some q=>some { q with ob:=(i=k)::q.ob }
  | none=>none
 | _,_=>wm cx sym orc t x ix
def Ua:Option AV→Int→Option Int
 | none,n=>some n
 | some (.d (.v (.int _ n))),_=>some n
 | _,_=>none
def optV:Option AV→Option (Option Value)
 | none=>some none
 | some a=>match a.toV with
  | some v=>some (some v)
  | none=>none
def cutD:Bool→jVj→Int→Int→jVj
 | true,es,_,l=>es.drop l.toNat
 | false,es,h,l=>(es.take h.toNat).drop l.toNat
def isNo:Option AV→Bool
 | none=>true
 | some _=>false
def decd (sym:Bool) (orc:List Orc):Bool:=match sym with
 | false=>true
 | true=>match orc with
  | .no::_=>true
  | _=>false
def J2 (cx:Cx) (sym:Bool) (orc:List Orc) (hp:List (Nat×Blk)) (t:TypeId) (x:AV) (lo hi mx:Option AV):Option R:=match x with
 | .d (.v (.string s))=>match mx,optV lo,optV hi with
  | none,some l,some h=>Qbd cx sym orc (Instr.sliceAt t (.string s) l h none)
  | _,_,_=>none
 | _=>match cx.P.underlying t,mx,x.toDH hp with
  | some (.slice elem),none,some (.lst full sz es,fs)=>match cx.sz elem,Ua lo 0,Ua hi es.length with
   | some s,some l,some h=>match owe sym orc (0≤l∧l≤h∧h≤(es.length:Int)∧(es=[] ∨ sz=s)) with
    | some (ob,r)=>some { val:=.d (.lst (decd sym orc && (full && decide (h=(es.length:Int)))) sz (cutD (isNo hi) es h l)),up:=Qe hp fs,ob,orc:=r }
    | none=>none
   | _,_,_=>none
  | some (.slice elem),some m,some (.lst _ sz es,fs)=>match cx.sz elem,Ua lo 0,Ua hi (-1),Ua (some m) 0 with
   | some s,some l,some h,some m=>match owe sym orc (0≤l∧l≤h∧h≤m∧m≤(es.length:Int)∧(es=[] ∨ sz=s)) with
    | some (ob,r)=>some { val:=.d (.lst (decide (h=m)) sz ((es.take h.toNat).drop l.toNat)),up:=Qe hp fs,ob,orc:=r }
    | none=>none
   | _,_,_,_=>none
  | _,_,_=>none
def told:List Orc→Option (List Orc)
 | .ix _::r=>some r
 | _=>none
def QdJ:List Orc→Option (List Orc)
 | .ix k::r=>match decide (k=-7) with
  | true=>some r
  | false=>none
 | _=>none
def QdI:List Orc→Option (List Orc)
 | .ix k::r=>match decide (k=-8) with
  | true=>some r
  | false=>none
 | _=>none
def Qdy:Option AV→Bool
 | some (.d (.v (.int _ 0)))=>true
 | _=>false
def Yq (cx:Cx) (sym:Bool) (orc:List Orc) (hp:List (Nat×Blk)) (t:TypeId) (x:AV) (lo hi mx:Option AV):Option R :=
 match (match sym || (cx.E 999999 && !Qdy hi) with | true=>told orc | false=>some orc),x,lo,mx with
 | some o,.own b ver,none,none=>match look hp b with
  | some (.row ver' sz es)=>match cx.P.underlying t,Nat.beq ver ver',Ua hi (-1) with
   | some (.slice elem),true,some k=>match cx.sz elem,owe sym o (0≤k∧k≤(es.length:Int)) with
    | some s,some (ob,r)=>match Nat.beq s sz with
     | true=>some { val:=.own b (ver+1),up:=[(b,.row (ver+1) sz (es.take k.toNat))],ob,orc:=r }
     | false=>none
    | _,_=>none
   | _,_,_=>none
  | _=>none
 | _,_,_,_=>none
def zX (cx:Cx) (sym:Bool) (orc:List Orc) (hp:List (Nat×Blk)) (t:TypeId) (x:AV) (lo hi mx:Option AV):Option R :=
 match told orc,x,lo,hi,mx with
 | some o,.own b ver,some (.d (.v (.int _ l))),none,none=>match look hp b with
  | some (.row ver' sz es)=>match cx.P.underlying t,Nat.beq ver ver' with
   | some (.slice elem),true=>match cx.sz elem,owe sym o (0≤l∧l < (es.length:Int)) with
    | some s,some (ob,r)=>match Nat.beq s sz with
     | true=>some { val:=.sub b ver sz l.toNat (es.length - l.toNat),up:=[],ob,orc:=r }
     | false=>none
    | _,_=>none
   | _,_=>none
  | _=>none
 | _,_,_,_,_=>none
def UF:jVj→Bool
 | []=>true
 | _=>false
def YR (hp:List (Nat×Blk)) (x:AV):Option (Nat×jVj×List Nat):=match x.toDH hp with
 | some (.lst _ sz es,fs)=>some (sz,es,fs)
 | _=>none
def Ej (cx:Cx) (elem:TypeId) (sz:Nat):Bool:=match cx.zero elem with
 | some z=>Nat.beq z.cells.size sz && z.cells.toList.all one
 | none=>false
def ue (cx:Cx) (sym:Bool) (orc:List Orc) (hp:List (Nat×Blk)) (s t:TypeId) (x:AV):Option R:=match cx.P.underlying s,cx.P.underlying t,YR hp x with
 | some (.slice e),some .string,some (1,ds,_)=>match cx.P.underlying e,qG sym orc with
  | some (.int .u8),some (.el (.v (.string b)),r)=>some { val:=.d (.v (.string b)),up:=[],ob:=[(qV ds).map (fun l=>ByteArray.mk l.toArray)=some b],orc:=r }
  | some (.int .u8),some (.no,r)=>match qV ds with
   | some l=>some { val:=.d (.v (.string (ByteArray.mk l.toArray))),up:=[],ob:=[],orc:=r }
   | none=>none
  | _,_=>none
 | _,_,_=>none
def room (cx:Cx) (elem:TypeId) (n:Nat):Prop:=match cx.bytes elem with
 | some b=>n * b≤140737488355328∧0 < b
 | none=>False
instance (cx:Cx) (elem:TypeId) (n:Nat):Decidable (room cx elem n):=by unfold room;split <;> infer_instance
def KZ (cx:Cx) (t:TypeId):Bool:=match cx.P.underlying t with
 | some (.slice _)=>true
 | _=>false
def nilO (sym:Bool) (orc:List Orc) (ds:jVj):Option (Bool×List Prop×List Orc):=match qG sym orc with
 | some (.br b,r)=>some (b,[UF ds=b],r)
 | some (.no,r)=>match UF ds with
  | true=>some (true,[],r)
  | false=>some (false,[],r)
 | _=>none
def XW (cx:Cx) (sym:Bool) (orc:List Orc) (hp:List (Nat×Blk)) (name:Nat) (t:TypeId) (s x:AV):Option R :=
  match cx.P.underlying t,YR hp x with
  | some (.slice elem),some (asz,ds,fs)=>match cx.sz elem with
    | none=>none
    | some z=>match (Nat.beq asz z || UF ds) && Ej cx elem z with
      | false=>none
      | true=>match s with
        | .own b ver=>match look hp b with
          | some (.row ver' sz es)=>match Nat.beq ver ver' && Nat.beq sz z && !(fs.contains b) with
            | false=>none
            | true=>match owe sym orc (room cx elem (es.length+ds.length)) with
              | some (ob,r)=>match QdJ r with
                | some r3=>some { val:=.d (.lst false sz (es++ds)),up:=(b,.frozen (ver+1) sz (es++ds))::(b,.row (ver+1) sz (es++ds))::Qe hp fs,ob,orc:=r3 }
                | none=>some { val:=.own b (ver+1),up:=(b,.row (ver+1) sz (es++ds))::Qe hp fs,ob,orc:=r }
              | none=>none
          | some (.virt ver' sz es)=>match Nat.beq ver ver' && (Nat.beq sz z || UF es) with
            | false=>none
            | true=>match owe sym orc (room cx elem (es.length+ds.length)) with
              | some (ob,r)=>match nilO sym r ds with
                | some (false,ob2,r2)=>some { val:=.own b (ver+1),up:=(b,.row (ver+1) z (es++ds))::Qe hp fs,ob:=ob2++ob,orc:=r2 }
                | _=>none
              | none=>none
          | _=>none
        | .d (.lst true sz es)=>match Nat.beq sz z || UF es with
          | false=>none
          | true=>match QdI orc with
           | some orc1=>match UF es,look hp name,owe sym orc1 (room cx elem (es.length+ds.length)) with
             | true,none,some (ob,r)=>some { val:=.own name 0,up:=(name,.row 0 z (es++ds))::Qe hp fs,ob,orc:=r }
             | _,_,_=>none
           | none=>match owe sym orc (room cx elem (es.length+ds.length)) with
            | some (ob,r)=>match nilO sym r ds with
              | some (false,ob2,r2)=>match told r2,look hp name with
                | some r3,_=>some { val:=.d (.lst false z (es++ds)),up:=Qe hp fs,ob:=ob2++ob,orc:=r3 }
                | none,none=>some { val:=.own name 0,up:=(name,.row 0 z (es++ds))::Qe hp fs,ob:=ob2++ob,orc:=r2 }
                | none,some _=>none
              | some (true,ob2,r2)=>some { val:=.d (.lst true z es),up:=Qe hp fs,ob:=ob2++ob,orc:=r2 }
              | none=>none
            | none=>none
        | _=>none
  | _,_=>none
def Qbr (cx:Cx) (sym:Bool) (orc:List Orc) (hp:List (Nat×Blk)) (name:Nat) (t t2:TypeId) (s x:AV):Option R :=
 match cx.P.underlying t,cx.P.underlying t2,s,x with
 | some (.slice elem),some (.int _),.d (.lst true _ es),.d (.v (.int .i64 m))=>match cx.sz elem,cx.zero elem,UF es,look hp name with
  | some z,some zv,true,none=>match Ej cx elem z && Nat.blt 0 z,owe sym orc (0 < m∧room cx elem m.toNat) with
   | true,some (ob,r)=>some { val:=.own name 0,up:=[(name,.row 0 z (List.replicate m.toNat (ofV zv)))],ob,orc:=r }
   | _,_=>none
  | _,_,_,_=>none
 | _,_,_,_=>none
def Ug (hp:List (Nat×Blk)):AV→Option (jVj)
 | .d (.lst _ _ es)=>some es
 | .own b ver=>match look hp b with
  | some (.row ver' _ es)=>match Nat.beq ver ver' with
   | true=>some es
   | false=>none
  | some (.frozen ver' _ es)=>match Nat.beq ver ver' with
   | true=>some es
   | false=>none
  | some (.virt ver' _ es)=>match Nat.beq ver ver' with
   | true=>some es
   | false=>none
  | _=>none
 | .sub b ver _ _ n=>match GQ hp b ver with
  | true=>some (List.replicate n (.tup []))
  | false=>none
 | _=>none
def allV:List AV→Option (List Value)
 | []=>some []
 | x::l=>match x.toV,allV l with
  | some v,some vs=>some (v::vs)
  | _,_=>none
def kW (cx:Cx) (orc:List Orc) (hp:List (Nat×Blk)) (t:TypeId) (d s:AV):Option R :=
 match cx.P.underlying t,d,YR hp s with
 | some (.slice elem),.own b ver,some (asz,ds,fs)=>match look hp b,cx.sz elem with
  | some (.row ver' sz es),some z=>match Nat.beq ver ver' && Nat.beq sz z && (Nat.beq asz z || UF ds) && !(fs.contains b) with
   | true=>some { val:=.d (.v (.int .i64 (min ds.length es.length:Nat))),up:=(b,.row ver sz (ds.take es.length++es.drop ds.length))::Qe hp fs,ob:=[],orc }
   | false=>none
  | _,_=>none
 | _,_,_=>none
def ub (cx:Cx) (sym:Bool) (orc:List Orc) (hp:List (Nat×Blk)) (t:TypeId) (x:AV):Option R :=
 match cx.P.underlying t,x with
 | some (.slice elem),.sub b ver sz lo n=>match look hp b,cx.zero elem with
  | some (.row ver' sz' es),some zv=>match Nat.beq ver ver' && Nat.beq sz sz' && Ej cx elem sz,owe sym orc (0 < n∧lo+n≤es.length) with
   | true,some (ob,r)=>some { val:=.tup [],up:=[(b,.row ver sz (es.take lo++(List.replicate n (ofV zv)++es.drop (lo+n))))],ob,orc:=r }
   | _,_=>none
  | _,_=>none
 | _,_=>none
def Gr (cx:Cx) (sym:Bool) (orc:List Orc) (hp:List (Nat×Blk)) (name:Nat) (b:Builtin) (ats:Array TypeId) (type:TypeId) (args:List AV):Option R :=
 match b with
 | .append=>match ats.toList,args with
  | t::t2::_,[s,x]=>match KZ cx t2 with
   | true=>XW cx sym orc hp name t s x
   | false=>Qbr cx sym orc hp name t t2 s x
  | _,_=>none
 | .copy=>match ats.toList,args with
  | t::_,[d,s]=>kW cx orc hp t d s
  | _,_=>none
 | .len=>match args with
  | [x]=>match Ug hp x with
   | some es=>match ats.toList with
    | t::_=>match cx.P.underlying t with
     | some (.slice _)=>val1 (.d (.v (.int .i64 es.length))) orc
     | _=>none
    | _=>none
   | none=>match x.toV with
    | some v=>match QV cx.P (Builtin.len_ ats type #[v]) with
     | some r=>val1 (.d (ofV r)) orc
     | none=>none
    | none=>none
  | _=>none
 | .max=>match allV args with
  | some vs=>match QV cx.P (Builtin.max_ ats type vs.toArray) with
   | some r=>val1 (.d (ofV r)) orc
   | none=>none
  | none=>none
 | .min=>match allV args with
  | some vs=>match QV cx.P (Builtin.min_ ats type vs.toArray) with
   | some r=>val1 (.d (ofV r)) orc
   | none=>none
  | none=>none
 | .cap=>match args,ats.toList with
  | [.d (.lst true _ es)],t::_=>match cx.P.underlying t with
   | some (.slice _)=>val1 (.d (.v (.int .i64 es.length))) orc
   | _=>none
  | _,_=>none
 | .clear=>match args,ats.toList with
  | [x],t::_=>ub cx sym orc hp t x
  | _,_=>none
 | _=>none
def wj (cx:Cx) (s:TypeId) (f:Nat):Option Field:=match cx.P.underlying s with
 | some (.struct fields)=>nth fields.toList f
 | _=>none
def UP (sym:Bool) (orc:List Orc) (hp:List (Nat×Blk)) (b ver sz i:Nat):Option (AV×List Prop×List Orc):=match look hp b with
 | some (.box x)=>match Nat.beq i 0 with
  | true=>some (x,[],orc)
  | false=>none
 | some (.row ver' sz' es)=>match Nat.beq ver ver' && Nat.beq sz sz' with
  | false=>none
  | true=>match qG sym orc with
   | some (.el x,r)=>some (.d x,[nth es i=some x],r)
   | some (.no,r)=>match nth es i with
    | some x=>some (.d x,[],r)
    | none=>none
   | _=>none
 | _=>none
def QcE:Blk→Option D
 | .fbox x=>some x
 | .box _=>none
 | .row _ _ _=>none
 | .frozen _ _ _=>none
 | .virt _ _ _=>none
 | .loop _ _ _ _ _ _=>none
 | .mp _=>none
 | .it _ _=>none
 | .left _=>none
 | .dead=>none
def Ea (hp:List (Nat×Blk)) (b:Nat):Option D:=match look hp b with
 | some k=>QcE k
 | none=>none
def ya (hp:List (Nat×Blk)) (b ver sz i off:Nat):AV:=match Ea hp b with
 | some x=>match Nat.beq ver 0 && Nat.beq i 0 with
  | true=>.dptr x off
  | false=>.ptr b ver sz i off
 | none=>.ptr b ver sz i off
def unf (hp:List (Nat×Blk)):AV→AV
 | .ptr b ver sz i off=>ya hp b ver sz i off
 | .d x=>.d x
 | .agg cs=>.agg cs
 | .tup cs=>.tup cs
 | .dptr x o=>.dptr x o
 | .own b v=>.own b v
 | .sub b v s l n=>.sub b v s l n
 | .fn f a b=>.fn f a b
 | .junk=>.junk
def XI (sz:Nat) (e:D) (off:Nat) (y:D):Option D:=match wr (.d e) off (.d y) with
 | some z=>match z.toD with
  | some zd=>match AV.cells (.d zd) with
   | some zs=>match Nat.beq zs.length sz with
    | true=>some zd
    | false=>none
   | none=>none
  | none=>none
 | none=>none
def qY (cx:Cx) (sym:Bool) (orc:List Orc) (hp:List (Nat×Blk)) (t:TypeId) (p y:AV):Option R :=
 match p,y.cells,cx.sz t with
 | .ptr b pv sz i off,some ys,some s=>match Nat.beq ys.length s,look hp b with
  | true,some (.box x)=>match wr x off y,Nat.beq i 0 with
   | some z,true=>match z.cells with
    | some _=>some { val:=.d (.v undef),up:=[(b,.box z)],ob:=[],orc }
    | none=>none
   | _,_=>none
  | true,some (.row ver sz' es)=>match Nat.beq sz sz' && Nat.beq pv ver,y.toDH hp with
   | true,some (yd,fs)=>match fs.contains b with
    | true=>none
    | false=>match Nat.beq off 0 && Nat.beq s sz with
     | true=>match owe sym orc (i < es.length),AV.cells (.d yd) with
      | some (ob,r),some zs=>match Nat.beq zs.length sz with
       | true=>some { val:=.d (.v undef),up:=(b,.row ver sz (es.set i yd))::Qe hp fs,ob,orc:=r }
       | false=>none
      | _,_=>none
     | false=>match qG sym orc with
      | some (.el e,r)=>match XI sz e off yd with
       | some zd=>some { val:=.d (.v undef),up:=(b,.row ver sz (es.set i zd))::Qe hp fs,ob:=[nth es i=some e],orc:=r }
       | none=>none
      | some (.no,r)=>match nth es i with
       | some e=>match XI sz e off yd with
        | some zd=>some { val:=.d (.v undef),up:=(b,.row ver sz (es.set i zd))::Qe hp fs,ob:=[],orc:=r }
        | none=>none
       | none=>none
      | _=>none
   | _,_=>none
  | _,_=>none
 | _,_,_=>none
def X9:Value→Value→Option Bool
 | .int k a,.int k' b=>if k=k' then some (a == b) else none
 | .string a,.string b=>some (a == b)
 | .bool a,.bool b=>some (a == b)
 | _,_=>none
def vOf:D→Option Value
 | .v k=>some k
 | .agg _=>none
 | .tup _=>none
 | .lst _ _ _=>none
 | .fn _ _ _=>none
 | .ref _ _=>none
def Qck:jVj→Option (Value×D)
 | []=>none
 | a::l=>match l with
  | []=>none
  | x::r=>match r with
   | []=>match vOf a with
    | some k=>some (k,x)
    | none=>none
   | _::_=>none
def keyOf:D→Option (Value×D)
 | .v _=>none
 | .agg _=>none
 | .tup l=>Qck l
 | .lst _ _ _=>none
 | .fn _ _ _=>none
 | .ref _ _=>none
def mok (k:Value):jVj→Bool
 | []=>true
 | e::es=>match keyOf e with
  | some (j,_)=>(X9 k j).isSome && mok k es
  | none=>false
def VY (k:Value):jVj→Option D
 | []=>none
 | e::es=>match keyOf e with
  | some (j,x)=>match X9 k j with
   | some true=>some x
   | _=>VY k es
  | none=>none
def jD (k:Value) (x:D):jVj→jVj
 | []=>[.tup [.v k,x]]
 | e::es=>match keyOf e with
  | some (j,_)=>match X9 k j with
   | some true=>.tup [.v k,x]::es
   | _=>e::jD k x es
  | none=>e::es
def Zi (ok:Bool) (k:Value) (z:D) (es:jVj):Option D:=match mok k es with
 | false=>none
 | true=>match VY k es,ok with
  | some x,true=>some (.tup [x,.v (.bool true)])
  | none,true=>some (.tup [z,.v (.bool false)])
  | some x,false=>some x
  | none,false=>some z
def E6 (cx:Cx) (t:TypeId) (k:Value):Bool:=match cx.P.underlying t,k with
 | some (.int j),.int j' _=>decide (j'=j)
 | some .string,.string _=>true
 | some .bool,.bool _=>true
 | _,_=>false
def Ey (hp:List (Nat×Blk)):AV→Option (Nat×jVj)
 | .own b _=>match look hp b with
  | some (.mp es)=>some (b,es)
  | _=>none
 | _=>none
def YO (cx:Cx) (sym:Bool) (orc:List Orc) (hp:List (Nat×Blk)) (t:TypeId) (m k x:AV):Option R :=
 match cx.P.underlying t,Ey hp m,k.toV,x.toD with
 | some (.map kt _),some (b,es),some kv,some xd=>match E6 cx kt kv,owe sym orc (mok kv es=true) with
  | true,some (ob,r)=>some { val:=.d (.v undef),up:=[(b,.mp (jD kv xd es))],ob,orc:=r }
  | _,_=>none
 | _,_,_,_=>none
def XS (cx:Cx) (sym:Bool) (orc:List Orc) (hp:List (Nat×Blk)) (t:TypeId) (m k:AV) (ok:Bool):Option R :=
 match cx.P.underlying t,Ey hp m,k.toV with
 | some (.map kt et),some (_,es),some kv=>match E6 cx kt kv,cx.zero et,qG sym orc with
  | true,some z,some (.el x,r)=>some { val:=.d x,up:=[],ob:=[Zi ok kv (ofV z) es=some x],orc:=r }
  | true,some z,some (.no,r)=>match Zi ok kv (ofV z) es with
   | some x=>some { val:=.d x,up:=[],ob:=[],orc:=r }
   | none=>none
  | _,_,_=>none
 | _,_,_=>none
def oneV:D→Bool
 | .v x=>one x
 | .agg _=>false
 | .tup _=>false
 | .lst _ _ _=>false
 | .fn _ _ _=>false
 | .ref _ _=>false
def Qaj (hp:List (Nat×Blk)) (b:Nat):Option (jVj×List (Nat×Blk)):=match look hp b with
 | some (.fbox (.agg ds))=>some (ds,[])
 | some (.box x)=>match x.toD with
  | some (.agg ds)=>some (ds,[(b,.fbox (.agg ds))])
  | _=>none
 | _=>none
def zL:Nat→Nat→jVj→jVj
 | 0,_,_=>[]
 | n+1,s,ds=>.agg (ds.take s)::zL n s (ds.drop s)
def EG (s n:Nat) (ds:jVj):jVj:=match Nat.beq s 1 with
 | true=>ds
 | false=>zL n s ds
def EV (cx:Cx) (hp:List (Nat×Blk)) (orc:List Orc) (t:TypeId) (b ver sz i off:Nat) (whole:Bool):Option R:=match Qaj hp b,cx.P.underlying t with
 | some (ds,up),some (.array n elem)=>match cx.sz elem with
  | some s=>match whole && Nat.beq ver 0 && Nat.beq sz 0 && Nat.beq i 0 && Nat.beq off 0 && Nat.beq ds.length (n * s) && Nat.blt 0 n && ds.all oneV with
   | true=>some { val:=.d (.lst true s (EG s n ds)),up,ob:=[],orc }
   | false=>none
  | none=>none
 | _,_=>none
def preB (hp:List (Nat×Blk)) (b:Nat):List (Nat×Blk):=match look hp b with
 | some (.box x)=>match x.toD with
  | some (.agg ds)=>(b,.fbox (.agg ds))::hp
  | _=>hp
 | _=>hp
def uD (hp:List (Nat×Blk)):List Nat→List (Nat×Blk)
 | []=>hp
 | b::l=>uD (preB hp b) l
def kx (hp:List (Nat×Blk)):AV→Option (Nat×jSj×Nat)
 | .own b _=>match look hp b with
  | some (.it s p)=>some (b,s,p)
  | _=>none
 | _=>none
def Qcr (s:jSj) (p:Nat):D:=.tup [.v (.bool true),.v (.int .i64 (p:Int)),.v (.int .i32 ((Utf8.decode s p).1:Int))]
def Qbq (sym:Bool) (orc:List Orc) (hp:List (Nat×Blk)) (x:AV):Option R:=match kx hp x with
 | some (b,s,p)=>match qG sym orc with
  | some (.br true,r)=>some { val:=.d (Qcr s p),up:=[(b,.it s (p+(Utf8.decode s p).2))],ob:=[p < s.size],orc:=r }
  | some (.br false,r)=>some { val:=.d (.tup [.v (.bool false)]),up:=[],ob:=[¬ p < s.size],orc:=r }
  | some (.no,r)=>match decide (p < s.size) with
   | true=>some { val:=.d (Qcr s p),up:=[(b,.it s (p+(Utf8.decode s p).2))],ob:=[],orc:=r }
   | false=>some { val:=.d (.tup [.v (.bool false)]),up:=[],ob:=[],orc:=r }
  | _=>none
 | none=>none
def yX (cx:Cx) (hp:List (Nat×Blk)) (name:Nat) (orc:List Orc) (t:TypeId) (x:AV):Option R:=match cx.P.underlying t,x.toV,look hp name with
 | some .string,some (.string s),none=>some { val:=.own name 0,up:=[(name,.it s 0)],ob:=[],orc }
 | _,_,_=>none
def aop (cx:Cx) (sym:Bool) (orc:List Orc) (hp:List (Nat×Blk)) (name:Nat) (ev:Operand→AV) (o:Oper):Option R :=
 match o.op with
 | .move x=>val1 (ev x) orc
 | .assign x=>val1 (ev x) orc
 | .pick c a b=>match ev c with
  | .d (.v (.bool true))=>val1 (ev a) orc
  | .d (.v (.bool false))=>val1 (ev b) orc
  | _=>none
 | .alloc elem=>match cx.zero elem,look hp name with
  | some z,none=>match AV.cells (.d (ofV z)) with
   | some _=>some { val:=.ptr name 0 0 0 0,up:=[(name,.box (.d (ofV z)))],ob:=[],orc }
   | none=>none
  | _,_=>none
 | .box _ x=>match (ev x).cells,look hp name with
  | some _,none=>some { val:=.ptr name 0 0 0 0,up:=[(name,.box (ev x))],ob:=[],orc }
  | _,_=>none
 | .build t parts=>match Qa4 cx t (parts.toList.map fun p=>(p.1,ev p.2)) with
  | some x=>val1 x orc
  | none=>none
 | .buildSlice t len parts=>match US 0 (parts.toList.map fun p=>(p.1,ev p.2)) with
  | some (x::xs)=>yu cx hp name t len (x::xs) orc
  | _=>match cx.P.underlying t with
  | some (.slice elem)=>match cx.sz elem,cx.zero elem with
   | some s,some _=>match YB hp s 0 (parts.toList.map fun p=>(p.1,ev p.2)) with
    | some (es,fs)=>match Nat.ble (len * s) 16777216 && Nat.beq parts.toList.length len with
     | true=>some { val:=.d (.lst true s es),up:=Qe hp fs,ob:=[],orc }
     | false=>none
    | none=>none
   | _,_=>none
  | _=>none
 | .load t a=>match cx.sz t,cx.isAgg t,unf hp (ev a) with
  | some s,some g,.ptr b ver sz i off=>match UP sym orc hp b ver sz i with
   | some (x,ob,r)=>match Kg g s off x with
    | some y=>some { val:=y,up:=[],ob,orc:=r }
    | none=>none
   | none=>none
  | some s,some g,.dptr x off=>match Kg g s off (.d x) with
   | some y=>val1 y orc
   | none=>none
  | _,_,_=>none
 | .store t a x=>qY cx sym orc hp t (ev a) (ev x)
 | .nilCheck x=>match ev x with
  | .ptr b v s i f=>match GQ hp b v with
   | true=>val1 (.ptr b v s i f) orc
   | false=>none
  | .dptr y f=>val1 (.dptr y f) orc
  | .fn (.func g) a b=>val1 (.fn (.func g) a b) orc
  | .d (.fn (.func g) a b)=>val1 (.d (.fn (.func g) a b)) orc
  | _=>none
 | .binOp op t x y _=>match (ev x).toV,(ev y).toV with
  | some a,some b=>match abin cx sym op t x y a b with
   | some (r,ob)=>some { val:=.d r,up:=[],ob,orc }
   | none=>none
  | _,_=>match YI hp cx op t (ev x) y with
   | some (r,ob)=>some { val:=.d r,up:=[],ob,orc }
   | none=>match Xl cx op t (ev x) y with
    | some (r,ob)=>some { val:=.d r,up:=[],ob,orc }
    | none=>none
 | .unOp op _ x=>match (ev x).toV with
  | some a=>match QV cx.P (Op.unary op a) with
   | some r=>val1 (.d (ofV r)) orc
   | none=>none
  | none=>none
 | .convert s t x=>match (ev x).toV with
  | some a=>match QcT cx sym s t a with
   | some (r,ob)=>some { val:=.d r,up:=[],ob,orc }
   | none=>none
  | none=>ue cx sym orc hp s t (ev x)
 | .makeFunc f first cap=>val1 (AV.norm (.fn f (first.toList.map ev) (cap.toList.map ev))) orc
 | .makeSlice t l c=>match cx.P.underlying t,ev l,ev c,look hp name with
  | some (.slice elem),.d (.v (.int _ n)),.d (.v (.int _ m)),none=>match cx.sz elem,cx.zero elem,cx.bytes elem with
   | some s,some z,some b=>match owe sym orc (0≤n∧n≤m∧b * m≤281474976710656∧m≤9223372036854775807),Ej cx elem s with
    | some (ob,r),true=>some { val:=.own name 0,up:=[(name,.row 0 s (List.replicate n.toNat (ofV z)))],ob,orc:=r }
    | _,_=>none
   | _,_,_=>none
  | _,_,_,_=>none
 | .slice t x lo hi mx=>match ev x with
  | .ptr b ver sz i off=>EV cx hp orc t b ver sz i off (lo.isNone && hi.isNone && mx.isNone)
  | _=>match Yq cx sym orc hp t (ev x) (lo.map ev) (hi.map ev) (mx.map ev) with
   | some r=>some r
   | none=>match zX cx sym orc hp t (ev x) (lo.map ev) (hi.map ev) (mx.map ev) with
    | some r=>some r
    | none=>J2 cx sym orc hp t (ev x) (lo.map ev) (hi.map ev) (mx.map ev)
 | .makeMap _ r=>match r,look hp name with
  | none,none=>some { val:=.own name 0,up:=[(name,.mp [])],ob:=[],orc }
  | _,_=>none
 | .mapUpdate t m k x=>YO cx sym orc hp t (ev m) (ev k) (ev x)
 | .insert t m k x=>YO cx sym orc hp t (ev m) (ev k) (ev x)
 | .lookup t m k ok=>XS cx sym orc hp t (ev m) (ev k) ok
 | .range t x=>yX cx hp name orc t (ev x)
 | .next x isS=>match isS with
  | true=>Qbq sym orc hp (ev x)
  | false=>none
 | .fieldAddr s x f=>match wj cx s f with
  | some fd=>match cx.sz fd.type with
   | some n=>match Nat.beq n 0,ev x with
    | false,.ptr b v sz i off=>match GQ hp b v with
     | true=>val1 (.ptr b v sz i (off+fd.offset)) orc
     | false=>none
    | false,.dptr y off=>val1 (.dptr y (off+fd.offset)) orc
    | _,_=>none
   | none=>none
  | none=>none
 | .field s x f=>match wj cx s f with
  | some fd=>match cx.sz fd.type,cx.isAgg fd.type,ev x with
   | some n,some g,.agg cs=>match Kg g n fd.offset (.agg cs) with
    | some y=>val1 y orc
    | none=>none
   | some n,some g,.d (.agg cs)=>match Kg g n fd.offset (.d (.agg cs)) with
    | some y=>val1 y orc
    | none=>none
   | _,_,_=>none
  | none=>none
 | .indexAddr t x ix=>match ev ix with
  | .d (.v (.int _ i))=>YP cx sym orc hp t (ev x) i
  | _=>none
 | .index t x ix=>match (ev ix).toV with
  | some i=>QaZ cx sym orc t (ev x) i
  | none=>none
 | .extract x i=>match ev x with
  | .tup vs=>match nth vs i with
   | some y=>val1 y orc
   | none=>none
  | .d (.tup vs)=>match nth vs i with
   | some y=>val1 (.d y) orc
   | none=>none
  | _=>none
 | .call { callee:=.builtin b,args,argTypes }=>Gr cx sym orc hp name b argTypes o.type (args.toList.map ev)
 | _=>none
def QcK:AV→AV
 | .d x=>match x with
  | .ref y o=>.dptr y o
  | .v y=>.d (.v y)
  | .agg cs=>.d (.agg cs)
  | .tup cs=>.d (.tup cs)
  | .lst f s es=>.d (.lst f s es)
  | .fn f a b=>.d (.fn f a b)
 | .agg cs=>.agg cs
 | .tup cs=>.tup cs
 | .dptr x o=>.dptr x o
 | .ptr b v s i o=>.ptr b v s i o
 | .own b v=>.own b v
 | .sub b v s l n=>.sub b v s l n
 | .fn f a b=>.fn f a b
 | .junk=>.junk
def evA (cx:Cx) (tm:List (Nat×AV)):Operand→AV
 | .tmp t=>match look tm t with
  | some x=>QcK x
  | none=>.junk
 | .const v=>.d (ofV v)
 | .global g=>match cx.G g with
  | some x=>.dptr x 0
  | none=>.junk
 | .func f=>.d (.fn (.func f) [] [])
def Ju (ops:Array Oper) (tm:List (Nat×AV)) (o:Oper):Option Bool:=match o.guard with
 | none=>some true
 | some (j,want)=>match nth ops.toList j with
  | none=>some false
  | some g=>match g.dst with
   | none=>some false
   | some d=>match look tm d with
    | some (.d (.v (.bool b)))=>some (b == want)
    | some (.d (.v (.tuple _)))=>some false
    | some (.d (.tup _))=>some false
    | _=>none
def E9 (ops:Array Oper) (i:Nat):Bool:=ops.toList.any fun o=>match o.guard with
 | some (j,_)=>Nat.beq i j
 | none=>false
def litB (sym:Bool) (orc:List Orc) (x:AV):Option (AV×List Prop×List Orc):=match x with
 | .d (.v (.bool b))=>match qG sym orc with
  | some (.br g,r)=>some (.d (.v (.bool g)),[b=g],r)
  | some (.no,r)=>match b with
   | true=>some (.d (.v (.bool true)),[],r)
   | false=>some (.d (.v (.bool false)),[],r)
  | _=>none
 | _=>some (x,[],orc)
def St.put (s:St) (d:Option Tmp) (x:AV):Option St:=match d with
 | none=>some s
 | some t=>match Nat.blt t s.nt with
  | true=>some { s with tm:=(t,x)::s.tm }
  | false=>none
def WZ (hp:List (Nat×Blk)) (b:Nat):Bool:=match look hp b with
 | some _=>true
 | none=>false
mutual
def AV.inH (hp:List (Nat×Blk)):AV→Bool
 | .d _=>true
 | .agg cs=>uR hp cs
 | .tup cs=>uR hp cs
 | .dptr _ _=>true
 | .ptr b _ _ _ _=>WZ hp b
 | .own b _=>WZ hp b
 | .sub b _ _ _ _=>WZ hp b
 | .fn _ a b=>uR hp a && uR hp b
 | .junk=>true
def uR (hp:List (Nat×Blk)):List AV→Bool
 | []=>true
 | x::l=>x.inH hp && uR hp l
end
def KE (hp0:List (Nat×Blk)):Nat→List (Nat×Blk)→Bool
 | 0,_=>true
 | n+1,(b,_)::l=>!(WZ hp0 b) && KE hp0 n l
 | _+1,[]=>false
def yj (hp0:List (Nat×Blk)) (x:AV) (s:St):Option AV :=
 match s.sfx && KE hp0 (s.hp.length - hp0.length) s.hp,x.toDH s.hp with
 | true,some (y,fs)=>match fs.all fun b=>!(WZ hp0 b) with
  | true=>some (.d y)
  | false=>none
 | _,_=>none
def Y7 (cx:Cx) (tm:List (Nat×AV)) (hp:List (Nat×Blk)):List ResultVar→Option (List AV)
 | []=>some []
 | .tmp t::l=>match look tm t,Y7 cx tm hp l with
  | some x,some r=>some (x::r)
  | _,_=>none
 | .cell a t::l=>match look tm a,cx.sz t,cx.isAgg t,Y7 cx tm hp l with
  | some (.ptr b _ _ 0 off),some s,some g,some r=>match look hp b with
   | some (.box x)=>match Kg g s off x with
    | some y=>some (y::r)
    | none=>none
   | _=>none
  | _,_,_,_=>none
def GN:Nat→List AV→List (Nat×AV)
 | _,[]=>[]
 | n,x::l=>(n,x)::GN (n+1) l
def U8 (ex:Code→St→Option (Ex×St)) (cx:Cx) (f:FuncId) (args:List AV) (s:St):Option (AV×St) :=
 match cx.P.funcs[f]? with
 | none=>none
 | some fn=>match fn.body with
  | none=>none
  | some body=>match Nat.ble args.length fn.ntmps,ex body { s with nt:=fn.ntmps,tm:=GN 0 args } with
   | true,some (.exit _,_)=>none
   | true,some (_,s')=>match Y7 cx s'.tm s'.hp fn.results.toList with
    | some [x]=>some (x,{ s' with nt:=s.nt,tm:=s.tm })
    | some l=>some (AV.norm (.tup l),{ s' with nt:=s.nt,tm:=s.tm })
    | none=>none
   | _,none=>none
   | false,_=>none
end Go.SX
