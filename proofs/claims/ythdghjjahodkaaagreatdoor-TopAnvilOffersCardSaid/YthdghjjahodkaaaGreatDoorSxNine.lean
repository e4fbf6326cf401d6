/- Own texts. -/
import Derived.WalkKit
import Derived.Maps.RangeRun
import Derived.MapKept
set_option linter.unusedSimpArgs false
set_option linter.unusedSectionVars false
set_option linter.unusedVariables false
set_option linter.unnecessarySimpa false
namespace Go.SX
theorem jBj.{u,v}{b:Type u}{c:Type v}(a:b)(f:b->Option c):(some a).bind f=f a:=rfl
theorem jIj.{u}{c:Type u}(a b:c):(some a=some b)=(a=b):=Option.some.injEq a b
theorem jPj.{u,v}{e:Type u}{f:Type v}(a:e)(b:f)(c:e)(d:f):((a,b)=(c,d))=(a=c/\b=d):=Prod.mk.injEq a b c d
theorem jGj.{u}{b:Type u}{l:List b}{i:Nat}{a:b}(h:l[i]?=some a):∃h:i<l.length,l[i]=a:=List.getElem?_eq_some_iff.1 h
theorem jAj (a b:Bool):((a&&b)=true)=(a=true/\b=true):=Bool.and_eq_true a b
theorem jLj (n:Nat):n<=n:=Nat.le_refl n
theorem jTj.{u}{c:Prop}{h:Decidable c}(hc:c){a:Sort u}{t e:a}:ite c t e=t:=if_pos hc
theorem jFj.{u}{c:Prop}{h:Decidable c}(hc:¬c){a:Sort u}{t e:a}:ite c t e=e:=if_neg hc
theorem jMj.{u}{b:Type u}{a:b}{l:List b}:a∈a::l:=List.mem_cons_self
theorem jCj.{u,v}{b:Type u}{c:Type v}{f:b->c}{a:b}{l:List b}:(a::l).map f=f a::l.map f:=List.map_cons
theorem jDj {p:Prop}[h:Decidable p](hp:p):decide p=true:=decide_eq_true hp
theorem jEj {p:Prop}[h:Decidable p](hp:¬p):decide p=false:=decide_eq_false hp
abbrev jSj:Type:=ByteArray
theorem jlj.{u,v}{a:Type u}{b:Type v}{l:List a}(f:a->b):(l.map f).length=l.length:=List.length_map f
theorem jmj.{u}{b:Type u}(y:b){a:b}{l:List b}(h:a∈l):a∈y::l:=List.mem_cons_of_mem y h
theorem jtj (n:Nat):(n:Int).toNat=n:=Int.toNat_natCast n
theorem jzj.{u}{b:Type u}{a:b}{l:List b}:(a::l)[0]?=some a:=List.getElem?_cons_zero
theorem jqj {n m:Nat}(h:Nat.beq n m=true):n=m:=Nat.eq_of_beq_eq_true h
theorem jgj.{u}{b:Type u}{l:List b}{i:Nat}{a:b}(h:l[i]?=some a):a∈l:=List.mem_of_getElem? h
theorem jaj.{u}{a:Type u}{l r:List a}:(l++r).length=l.length+r.length:=List.length_append
theorem jnj.{u,v}{a:Type u}{b:Type v}{f:a->b}:List.map f []=[]:=List.map_nil
theorem jej.{u}{a:Type u}{l:List a}{i:Nat}(h:i<l.length):l[i]?=some l[i]:=List.getElem?_eq_getElem h
inductive D where
 | v (x:Value)
 | agg (cs:List D)
 | tup (vs:List D)
 | lst (full:Bool) (sz:Nat) (es:List D)
 | fn (f:Fn) (first captured:List D)
 | ref (x:D) (off:Nat)
 | nan (k:FloatKind)
 | mp (es:List D)
 deriving Inhabited
inductive AV where
 | d (x:D)
 | agg (cs:List AV)
 | tup (vs:List AV)
 | dptr (x:D) (off:Nat)
 | ptr (b ver sz i off:Nat)
 | own (b ver:Nat)
 | sub (b ver sz lo n:Nat)
 | fn (f:Fn) (first captured:List AV)
 | junk
 deriving Inhabited
abbrev jVj:Type:=List D
abbrev jRj:Type:=Int×Int×Bool×Bool×Int×Int×Int×jVj×jVj×jVj
inductive OC where
 | dat (x:D)
 | row (sz:Nat) (es:jVj)
 deriving Inhabited
inductive Ex where
 | normal
 | exit (id:Nat)
 | ret
inductive It where
 | str (s:jSj)
 | mp (v:Value) (n:Nat)
 deriving Inhabited
inductive Blk where
 | box (x:AV)
 | row (ver sz:Nat) (es:jVj)
 | frozen (ver sz:Nat) (es:jVj)
 | virt (ver sz:Nat) (es:jVj)
 | loop (ready:Bool) (tm:List (Nat×AV)) (ps:List Nat) (assign body:Code) (nt:Nat)
 | mp (es:jVj)
 | it (s:It) (pos:Nat)
 | fbox (x:D)
 | left (e:Ex)
 | dead
 deriving Inhabited
inductive Orc where
 | no
 | br (b:Bool)
 | el (x:D)
 | ret (r:D)
 | lp (pr kt kb:List Nat) (e:Ex) (tm:List (Nat×AV)) (hp:List (Nat×Blk)) (nx:Nat)
 | ix (k:Int)
 | obj (b:Option Nat) (r:AV) (cs:List OC) (ks:List Bool)
structure St where
 nt:Nat
 sym:Bool
 tm:List (Nat×AV)
 hp:List (Nat×Blk)
 nx:Nat
 orc:List Orc
 ob:List Prop
 vis:Nat
 sfx:Bool
 rnd:Bool:=false
structure Cx where
 P:Program
 G:Nat->Option D
 K:Nat->Option (jVj->Option D):=fun _=>none
 E:Nat->Bool:=fun _=>false
 O:Nat->Bool:=fun _=>false
 Lt:TypeId->Nat->Bool:=fun _ _=>false
def look {a:Type}:List (Nat×a)->Nat->Option a
 | [],_=>none
 | (k,x)::l,t=>match Nat.beq k t with
  | true=>some x
  | false=>look l t
def nth {a:Type}:List a->Nat->Option a
 | [],_=>none
 | x::_,0=>some x
 | _::l,n+1=>nth l n
def Qg (n:Int):Prop:=-9223372036854775808<=n/\n<=9223372036854775807
def D.cells:D->jVj
 | .agg cs=>cs
 | x=>[x]
def one:Value->Bool
 | .agg _=>false
 | .tuple _=>false
 | _=>true
def AV.isOne:AV->Bool
 | .agg _=>false
 | .tup _=>false
 | .junk=>false
 | .d x=>match x with
  | .v y=>one y
  | .agg _=>false
  | .tup _=>false
  | .lst _ _ _=>true
  | .fn _ _ _=>true
  | .ref _ _=>true
  | .nan _=>true
  | .mp _=>true
 | .dptr _ _=>true
 | .ptr _ _ _ _ _=>true
 | .own _ _=>true
 | .sub _ _ _ _ _=>true
 | .fn _ _ _=>true
def Vw:List AV->Bool
 | []=>true
 | x::l=>x.isOne&&Vw l
def AV.cells (x:AV):Option (List AV):=match x with
 | .agg cs=>match Vw cs with
  | true=>some cs
  | false=>none
 | .d (.agg cs)=>match Vw (cs.map .d) with
  | true=>some (cs.map .d)
  | false=>none
 | y=>match y.isOne with
  | true=>some [y]
  | false=>none
def J8:Value->D
 | .slice a n c=>match a with
  | none=>match Nat.beq n 0&&Nat.beq c 0 with
   | true=>.lst true 0 []
   | false=>.v (.slice a n c)
  | some _=>.v (.slice a n c)
 | .func f a b=>match a.toList,b.toList with
  | [],[]=>.fn f [] []
  | _,_=>.v (.func f a b)
 | x=>.v x
def ofV:Value->D
 | .agg cs=>.agg (cs.toList.map J8)
 | x=>J8 x
mutual
def D.toV:D->Option Value
 | .v x=>some x
 | .agg cs=>match toVs cs with
  | some l=>some (.agg l.toArray)
  | none=>none
 | .tup cs=>match toVs cs with
  | some l=>some (.tuple l.toArray)
  | none=>none
 | .lst _ _ _=>none
 | .fn _ _ _=>none
 | .ref _ _=>none
 | .nan _=>none
 | .mp _=>none
def toVs:jVj->Option (List Value)
 | []=>some []
 | x::l=>match x.toV,toVs l with
  | some y,some ys=>some (y::ys)
  | _,_=>none
end
mutual
def AV.toD:AV->Option D
 | .d x=>some x
 | .agg cs=>match Ju cs with
  | some l=>some (.agg l)
  | none=>none
 | .tup cs=>match Ju cs with
  | some l=>some (.tup l)
  | none=>none
 | .fn f a b=>match Ju a,Ju b with
  | some x,some y=>some (.fn f x y)
  | _,_=>none
 | .dptr _ _=>none
 | .ptr _ _ _ _ _=>none
 | .own _ _=>none
 | .sub _ _ _ _ _=>none
 | .junk=>none
def Ju:List AV->Option (jVj)
 | []=>some []
 | x::l=>match x.toD,Ju l with
  | some y,some ys=>some (y::ys)
  | _,_=>none
end
def AV.norm (x:AV):AV:=match x.toD with
 | some y=>.d y
 | none=>x
def AV.toV (x:AV):Option Value:=match x.toD with
 | some y=>y.toV
 | none=>none
def fzOk:D->Bool
 | .v x=>one x
 | .agg _=>true
 | .tup _=>false
 | .lst _ _ _=>true
 | .fn _ _ _=>true
 | .ref _ _=>true
 | .nan _=>true
 | .mp _=>true
def refB:Blk->Option (D×Bool)
 | .fbox x=>some (x,false)
 | .box x=>match x.toD with
  | some y=>match fzOk y with
   | true=>some (y,true)
   | false=>none
  | none=>none
 | .row _ _ _=>none
 | .frozen _ _ _=>none
 | .virt _ _ _=>none
 | .loop _ _ _ _ _ _=>none
 | .mp _=>none
 | .it _ _=>none
 | .left _=>none
 | .dead=>none
mutual
def AV.toDH (hp:List (Nat×Blk)):AV->Option (D×List Nat)
 | .d x=>some (x,[])
 | .agg cs=>match Kr hp cs with
  | some (l,fs)=>some (.agg l,fs)
  | none=>none
 | .tup cs=>match Kr hp cs with
  | some (l,fs)=>some (.tup l,fs)
  | none=>none
 | .fn f a b=>match Kr hp a,Kr hp b with
  | some (x,fs),some (y,gs)=>some (.fn f x y,fs++gs)
  | _,_=>none
 | .own b ver=>match look hp b with
  | some (.row ver' sz es)=>match Nat.beq ver ver' with
   | true=>some (.lst false sz es,[b])
   | false=>none
  | some (.frozen ver' sz es)=>match Nat.beq ver ver' with
   | true=>some (.lst false sz es,[])
   | false=>none
  | some (.virt ver' sz es)=>match Nat.beq ver ver' with
   | true=>some (.lst true sz es,[])
   | false=>none
  | some (.mp es)=>match Nat.beq ver 0 with
   | true=>some (.mp es,[b])
   | false=>none
  | _=>none
 | .dptr x o=>some (.ref x o,[])
 | .ptr b ver sz i off=>match Nat.beq ver 0&&Nat.beq sz 0&&Nat.beq i 0 with
  | true=>match look hp b with
   | some k=>match refB k with
    | some (x,true)=>some (.ref x off,[b])
    | some (x,false)=>some (.ref x off,[])
    | none=>none
   | none=>none
  | false=>none
 | .sub _ _ _ _ _=>none
 | .junk=>none
def Kr (hp:List (Nat×Blk)):List AV->Option (jVj×List Nat)
 | []=>some ([],[])
 | x::l=>match x.toDH hp,Kr hp l with
  | some (y,fs),some (ys,gs)=>some (y::ys,fs++gs)
  | _,_=>none
end
def Qd (hp:List (Nat×Blk)):List Nat->List (Nat×Blk)
 | []=>[]
 | b::l=>match look hp b with
  | some (.row ver sz es)=>(b,.frozen ver sz es)::Qd hp l
  | some (.box x)=>match refB (.box x) with
   | some (y,_)=>(b,.fbox y)::Qd hp l
   | none=>Qd hp l
  | some (.mp _)=>(b,.dead)::Qd hp l
  | _=>Qd hp l
def Zu {b:Type}(P:Program):Sem b->Option b
 | .pure a=>some a
 | .program k=>Zu P (k P)
 | .mark _ k=>Zu P k
 | _=>none
def Cx.sz (cx:Cx)(t:TypeId):Option Nat:=match cx.P.info? t with
 | some i=>some i.size
 | none=>none
def Cx.isAgg (cx:Cx)(t:TypeId):Option Bool:=match cx.P.underlying t with
 | some (.struct _)=>some true
 | some (.array _ _)=>some true
 | some _=>some false
 | none=>none
def Cx.zero (cx:Cx)(t:TypeId):Option Value:=match cx.P.info? t with
 | some i=>i.zero
 | none=>none
def Cx.bytes (cx:Cx)(t:TypeId):Option Nat:=match cx.P.info? t with
 | some i=>some i.bytes
 | none=>none
structure R where
 val:AV
 up:List (Nat×Blk)
 ob:List Prop
 orc:List Orc
def zR (a:Bool)(orc:List Orc):Option (Orc×List Orc):=match a with
 | false=>some (.no,orc)
 | true=>match orc with
  | []=>none
  | o::r=>some (o,r)
def Gi:AV->Bool
 | .agg _=>true
 | .d x=>match x with
  | .agg _=>true
  | _=>false
 | _=>false
def Jq (agg:Bool)(size off:Nat)(x:AV):Option AV:=match x.cells with
 | none=>none
 | some cs=>match agg with
  | true=>match Nat.ble (off+size) cs.length with
   | true=>match Gi x&&Nat.beq off 0&&Nat.beq size cs.length with
    | true=>some x
    | false=>some (AV.norm (.agg ((cs.drop off).take size)))
   | false=>none
  | false=>nth cs off
def uf (x:AV)(off:Nat)(y:AV):Option AV:=match x.cells,y.cells with
 | some cs,some ys=>match Gi x with
  | true=>match Nat.ble (off+ys.length) cs.length with
   | true=>match Nat.beq off 0&&Nat.beq ys.length cs.length&&Gi y with
    | true=>some y
    | false=>some (AV.norm (.agg (cs.take off++ys++cs.drop (off+ys.length))))
   | false=>none
  | false=>match Nat.beq off 0,ys with
   | true,[c]=>some c
   | _,_=>none
 | _,_=>none
def Qbu (place:Nat->Option (Nat×Nat)):List AV->List (Nat×AV)->Option (List AV)
 | cs,[]=>some cs
 | cs,(i,x)::rest=>match place i,x.cells with
  | some (off,size),some ys=>match Nat.beq ys.length size&&Nat.ble (off+ys.length) cs.length with
   | true=>Qbu place (cs.take off++ys++cs.drop (off+ys.length)) rest
   | false=>none
  | _,_=>none
def Jd (cx:Cx):List Field->Option (List (Nat×Nat))
 | []=>some []
 | f::l=>match cx.sz f.type,Jd cx l with
  | some s,some r=>some ((f.offset,s)::r)
  | _,_=>none
def Qfk (cx:Cx)(t:TypeId)(parts:List (Nat×AV)):Option AV:=match cx.zero t with
 | none=>none
 | some z=>match cx.P.underlying t with
  | some (.struct fields)=>match Jd cx fields.toList with
   | some a=>match Qbu (nth a) ((ofV z).cells.map .d) parts with
    | some cs=>some (AV.norm (.agg cs))
    | none=>none
   | none=>none
  | some (.array _ elem)=>match cx.sz elem with
   | some s=>match Qbu (fun i=>some (i*s,s)) ((ofV z).cells.map .d) parts with
    | some cs=>some (AV.norm (.agg cs))
    | none=>none
   | none=>none
  | _=>none
def Y6 (hp:List (Nat×Blk))(s:Nat):Nat->List (Nat×AV)->Option (jVj×List Nat)
 | _,[]=>some ([],[])
 | n,(i,x)::l=>match x.cells,x.toDH hp,Y6 hp s (n+1) l with
  | some cs,some (y,a),some (ys,gs)=>match Nat.beq i n&&Nat.beq cs.length s,AV.cells (.d y) with
   | true,some zs=>match Nat.beq zs.length s with
    | true=>some (y::ys,a++gs)
    | false=>none
   | _,_=>none
  | _,_,_=>none
def Xv (P:Program)(f:TypeId->Value->Value->Option Bool)(xs ys:Array Value):List Field->Option Bool
 | []=>some true
 | fd::l=>match fd.name=="_" with
  | true=>Xv P f xs ys l
  | false=>match Zu P (part fd.type xs fd.offset),Zu P (part fd.type ys fd.offset) with
   | some a,some b=>match f fd.type a b,Xv P f xs ys l with
    | some p,some q=>some (p&&q)
    | _,_=>none
   | _,_=>none
def wT (P:Program)(f:TypeId->Value->Value->Option Bool)(xs ys:Array Value)(t:TypeId)(n:Nat):List Nat->Option Bool
 | []=>some true
 | i::l=>match Zu P (part t xs (i*n)),Zu P (part t ys (i*n)) with
  | some a,some b=>match f t a b,wT P f xs ys t n l with
   | some p,some q=>some (p&&q)
   | _,_=>none
  | _,_=>none
def eqA (P:Program):Nat->TypeId->Value->Value->Option Bool
 | 0,_,_,_=>none
 | d+1,t,x,y=>match P.underlying t,x,y with
  | some .bool,.bool a,.bool b=>some (a==b)
  | some (.int _),.int k a,.int k' b=>match decide (k=k') with
   | true=>some (a==b)
   | false=>none
  | some .string,.string a,.string b=>some (a==b)
  | some (.float _),.float k a,.float k' b=>match decide (k=k') with
   | true=>some (Op.floatEq k a b)
   | false=>none
  | some (.struct fields),.agg xs,.agg ys=>match P.stoodInHeld t with
   | true=>none
   | false=>Xv P (eqA P d) xs ys fields.toList
  | some (.array len elem),.agg xs,.agg ys=>match P.info? elem with
   | some i=>wT P (eqA P d) xs ys elem i.size (List.range' 0 len)
   | none=>none
  | _,_,_=>none
def fop:BinOp->FloatKind->Nat->Nat->Option Nat
 | .add,k,a,b=>k.format.add a b
 | .sub,k,a,b=>k.format.sub a b
 | .mul,k,a,b=>k.format.mul a b
 | .quo,k,a,b=>k.format.div a b
 | _,_,_,_=>none
def f2f (src:FloatKind)(b:Nat)(dst:FloatKind):Option Nat :=
 if src=dst then some b else match src.decode b with
 | .nan _ _=>none
 | .infinity s=>some (dst.encode (.infinity s))
 | .number s m e=>if(dst.decode (dst.encode (.number s m e))).isInfinity then none else some (dst.encode (.number s m e))
def f2i (src:FloatKind)(b:Nat)(dst:IntKind):Option Int:=match (src.decode b).toInt .zero with
 | some n=>if dst.min<=n/\n<=dst.max then some n else none
 | none=>none
def QbN (c:BinOp)(k d : FloatKind)(a b:Nat):Option (D×List Prop):=match decide (k=d) with
 | true=>some (.v (.float k ((fop c k a b).getD 0)),[(fop c k a b).isSome=true])
 | false=>none
def QiD (cx:Cx)(a:Bool)(s t:TypeId)(x:Value):Option (D×List Prop) :=
 match a,cx.P.underlying s,cx.P.underlying t,x with
 | true,some (.float _),some (.float k),.float j b=>some (.v (.float k ((f2f j b k).getD 0)),[(f2f j b k).isSome=true])
 | true,some (.float _),some (.int k),.float j b=>some (.v (.int k ((f2i j b k).getD 0)),[(f2i j b k).isSome=true])
 | _,_,_,_=>match Zu cx.P (convert s t x) with
  | some r=>some (ofV r,[])
  | none=>none
def Qe9:D->Option UInt8
 | .v x=>match x with
  | .int k n=>match k with
   | .u8=>some (UInt8.ofNat n.toNat)
   | _=>none
  | _=>none
 | _=>none
def ku:jVj->Option (List UInt8)
 | []=>some []
 | x::l=>match Qe9 x,ku l with
  | some b,some a=>some (b::a)
  | _,_=>none
def abin (cx:Cx)(d:Bool)(c:BinOp)(t:TypeId)(e f:Operand)(x y:Value):Option (D×List Prop) :=
 match d,c,x,y with
 | true,.add,.int .i64 a,.int .i64 b=>some (.v (.int .i64 (a+b)),[Qg (a+b)])
 | true,.sub,.int .i64 a,.int .i64 b=>some (.v (.int .i64 (a - b)),[Qg (a - b)])
 | true,.mul,.int .i64 a,.int .i64 b=>some (.v (.int .i64 (a*b)),[Qg (a*b)])
 | true,.quo,.int .i64 a,.int .i64 b=>some (.v (.int .i64 (Int.tdiv a b)),[b≠0,Qg (Int.tdiv a b)])
 | true,.rem,.int .i64 a,.int .i64 b=>some (.v (.int .i64 (Int.tmod a b)),[b≠0])
 | true,.add,.float k a,.float k' b=>QbN .add k k' a b
 | true,.sub,.float k a,.float k' b=>QbN .sub k k' a b
 | true,.mul,.float k a,.float k' b=>QbN .mul k k' a b
 | true,.quo,.float k a,.float k' b=>QbN .quo k k' a b
 | true,.add,.string a,.string b=>some (.v (.string (a++b)),[a.size+b.size<=9223372036854775807])
 | true,.shr,.int .u8 a,.int .i64 b=>some (.v (.int .u8 (a.fdiv (2 ^ (min b.toNat 8)))),[0<=b])
 | true,.shr,.int .u16 a,.int .i64 b=>some (.v (.int .u16 (a.fdiv (2 ^ (min b.toNat 16)))),[0<=b])
 | _,.eql,.agg xs,.agg ys=>match cx.P.eqGuardType cx.P.depth t,eqA cx.P 12 t (.agg xs) (.agg ys) with
  | false,some b=>some (.v (.bool b),[])
  | _,_=>none
 | _,.neq,.agg xs,.agg ys=>match cx.P.eqGuardType cx.P.depth t,eqA cx.P 12 t (.agg xs) (.agg ys) with
  | false,some b=>some (.v (.bool (!b)),[])
  | _,_=>none
 | _,_,_,_=>match Zu cx.P (do eqGuard c t e f x y;binOp c t x y) with
  | some r=>some (ofV r,[])
  | none=>none
def E5 (cx:Cx)(a:BinOp)(t:TypeId)(x:AV)(y:Operand):Option (D×List Prop) :=
 match cx.P.underlying t,x,y,a with
 | some (.slice _),.d (.lst _ _ es),.const (.slice none 0 0),.eql=>some (.v (.bool false),[es≠[]])
 | some (.slice _),.d (.lst _ _ es),.const (.slice none 0 0),.neq=>some (.v (.bool true),[es≠[]])
 | some (.slice _),.d (.v (.slice none 0 0)),.const (.slice none 0 0),.eql=>some (.v (.bool true),[])
 | _,_,_,_=>none
def Qds (a:Bool)(orc:List Orc)(es:jVj)(i:Int):Option (D×List Prop×List Orc):=match zR a orc with
 | some (.el x,r)=>some (x,[0<=i,nth es i.toNat=some x],r)
 | some (.no,r)=>match decide (0<=i),nth es i.toNat with
  | true,some x=>some (x,[],r)
  | _,_=>none
 | _=>none
def owe (a:Bool)(orc:List Orc)(p:Prop)[Decidable p]:Option (List Prop×List Orc):=match zR a orc with
 | some (.br _,r)=>some ([p],r)
 | some (.no,r)=>match decide p with
  | true=>some ([],r)
  | false=>none
 | _=>none
def val1 (x:AV)(orc:List Orc):Option R:=some { val:=x,up:=[],ob:=[],orc }
def Blk.ver:Blk->Nat
 | .box _=>0
 | .row v _ _=>v
 | .frozen v _ _=>v
 | .virt v _ _=>v
 | .loop _ _ _ _ _ _=>0
 | .mp _=>0
 | .it _ _=>0
 | .fbox _=>0
 | .left _=>0
 | .dead=>0
def jR (hp:List (Nat×Blk)):AV->Bool
 | .ptr b ver _ _ _=>match look hp b with
  | some k=>Nat.beq k.ver ver
  | none=>false
 | .dptr _ _=>true
 | _=>false
def Uh (hp:List (Nat×Blk))(cx:Cx)(a:BinOp)(t:TypeId)(x:AV)(y:Operand):Option (D×List Prop) :=
 match cx.P.underlying t,jR hp x,y,a with
 | some (.pointer _),true,.const (.pointer none),.eql=>some (.v (.bool false),[])
 | some (.pointer _),true,.const (.pointer none),.neq=>some (.v (.bool true),[])
 | _,_,_,_=>none
def El (hp:List (Nat×Blk))(b ver:Nat):Bool:=match look hp b with
 | some k=>Nat.beq ver k.ver
 | none=>false
def K5:Nat->List (Nat×AV)->Option (List AV)
 | _,[]=>some []
 | i,(j,.ptr b v s k o)::l=>match Nat.beq i j,K5 (i+1) l with
  | true,some xs=>some (.ptr b v s k o::xs)
  | _,_=>none
 | _,_::_=>none
def Qb6 (cx:Cx)(hp:List (Nat×Blk))(name:Nat)(t:TypeId)(len:Nat)(xs:List AV)(orc:List Orc):Option R:=match cx.P.underlying t,look hp name with
 | some (.slice elem),none=>match cx.sz elem,cx.zero elem with
  | some s,some _=>match Nat.beq s 1&&Nat.ble len 16777216&&Nat.beq xs.length len with
   | true=>some { val:=.sub name 0 1 0 len,up:=[(name,.box (.agg xs))],ob:=[],orc }
   | false=>none
  | _,_=>none
 | _,_=>none
def Qb4 (cx:Cx)(hp:List (Nat×Blk))(name:Nat)(t:TypeId)(len:Nat)(a:List (Nat×AV))(orc:List Orc):Option R:=match cx.P.underlying t,look hp name with
 | some (.slice elem),none=>match cx.sz elem,cx.zero elem with
  | some s,some _=>match Y6 hp s 0 a with
   | some (es,[])=>match Nat.ble (len*s) 16777216&&Nat.beq a.length len&&Nat.blt 0 len with
    | true=>some { val:=.own name 0,up:=[(name,.row 0 s es)],ob:=[],orc }
    | false=>none
   | _=>none
  | _,_=>none
 | _,_=>none
def VT (cx:Cx)(a:Bool)(orc:List Orc)(hp:List (Nat×Blk))(t:TypeId)(x:AV)(i:Int):Option R :=
 match cx.P.underlying t with
 | some (.array len elem)=>match cx.sz elem,decide (0<=i/\i<len) with
  | some s,true=>match x with
   | .ptr b ver sz j off=>match El hp b ver with
    | true=>val1 (.ptr b ver sz j (off+i.toNat*s)) orc
    | false=>none
   | .dptr y off=>val1 (.dptr y (off+i.toNat*s)) orc
   | _=>none
  | _,_=>none
 | some (.slice elem)=>match cx.sz elem with
  | none=>none
  | some s=>match x with
   | .own b ver=>match look hp b with
    | some (.row ver' sz es)=>match Nat.beq ver ver'&&Nat.beq sz s with
     | true=>match owe a orc (0<=i/\i<(es.length:Int)) with
      | some (ob,r)=>some { val:=.ptr b ver sz i.toNat 0,up:=[],ob,orc:=r }
      | none=>none
     | false=>none
    | some (.frozen ver' sz es)=>match Nat.beq ver ver'&&Nat.beq sz s with
     | true=>match Qds a orc es i with
      | some (y,ob,r)=>some { val:=.dptr y 0,up:=[],ob,orc:=r }
      | none=>none
     | false=>none
    | some (.virt ver' sz es)=>match Nat.beq ver ver'&&Nat.beq sz s with
     | true=>match Qds a orc es i with
      | some (y,ob,r)=>some { val:=.dptr y 0,up:=[],ob,orc:=r }
      | none=>none
     | false=>none
    | _=>none
   | .d (.lst _ sz es)=>match Nat.beq sz s with
    | true=>match Qds a orc es i with
     | some (y,ob,r)=>some { val:=.dptr y 0,up:=[],ob,orc:=r }
     | none=>none
    | false=>none
   | .sub b ver sz lo n=>match El hp b ver&&Nat.beq sz s,owe a orc (0<=i/\i<(n:Int)) with
    | true,some (ob,r)=>match look hp b with
     | some (.box _)=>some { val:=.ptr b ver sz 0 ((lo+i.toNat)*sz),up:=[],ob,orc:=r }
     | _=>some { val:=.ptr b ver sz (lo+i.toNat) 0,up:=[],ob,orc:=r }
    | _,_=>none
   | _=>none
 | _=>none
def UK (cx:Cx)(a:Bool)(orc:List Orc)(hp:List (Nat×Blk))(t:TypeId)(x:AV)(i:Int):Option R:=match orc with
 | .ix k::r=>match VT cx a r hp t x k with
  | some q=>some { q with ob:=(i=k)::q.ob }
  | none=>none
 | _=>VT cx a orc hp t x i
def QfA (cx:Cx)(a:Bool)(orc:List Orc)(s:Sem Value):Option R:=match zR a orc with
 | some (.el (.v x),r)=>some { val:=.d (ofV x),up:=[],ob:=[Zu cx.P s=some x],orc:=r }
 | some (.no,r)=>match Zu cx.P s with
  | some x=>some { val:=.d (ofV x),up:=[],ob:=[],orc:=r }
  | none=>none
 | _=>none
def yS (cx:Cx)(a:Bool)(orc:List Orc)(t:TypeId)(x:AV)(b:Value):Option R:=match x with
 | .d (.v (.string s))=>QfA cx a orc (Instr.index t (.string s) b)
 | _=>match cx.P.underlying t,b,x.cells with
  | some (.array len elem),.int _ i,some cs=>match cx.sz elem,cx.isAgg elem,decide (0<=i/\i<len) with
   | some s,some g,true=>match x with
    | .agg _=>match Jq g s (i.toNat*s) (.agg cs) with
     | some y=>val1 y orc
     | none=>none
    | .d (.agg _)=>match Jq g s (i.toNat*s) x with
     | some y=>val1 y orc
     | none=>none
    | _=>none
   | _,_,_=>none
  | _,_,_=>none
def Qfe (cx:Cx)(a:Bool)(orc:List Orc)(t:TypeId)(x:AV)(b:Value):Option R:=match orc,b with
 | .ix k::r,.int kd i=>match yS cx a r t x (.int kd k) with
  | some q=>some { q with ob:=(i=k)::q.ob }
  | none=>none
 | _,_=>yS cx a orc t x b
def Us:Option AV->Int->Option Int
 | none,n=>some n
 | some (.d (.v (.int _ n))),_=>some n
 | _,_=>none
def optV:Option AV->Option (Option Value)
 | none=>some none
 | some a=>match a.toV with
  | some v=>some (some v)
  | none=>none
def cutD:Bool->jVj->Int->Int->jVj
 | true,es,_,l=>es.drop l.toNat
 | false,es,h,l=>(es.take h.toNat).drop l.toNat
def isNo:Option AV->Bool
 | none=>true
 | some _=>false
def decd (a:Bool)(orc:List Orc):Bool:=match a with
 | false=>true
 | true=>match orc with
  | .no::_=>true
  | _=>false
def Xb (cx:Cx)(a:Bool)(orc:List Orc)(hp:List (Nat×Blk))(t:TypeId)(x:AV)(c b e:Option AV):Option R:=match x with
 | .d (.v (.string s))=>match e,optV c,optV b with
  | none,some l,some h=>QfA cx a orc (Instr.sliceAt t (.string s) l h none)
  | _,_,_=>none
 | _=>match cx.P.underlying t,e,x.toDH hp with
  | some (.slice elem),none,some (.lst full sz es,fs)=>match cx.sz elem,Us c 0,Us b es.length with
   | some s,some l,some h=>match owe a orc (0<=l/\l<=h/\h<=(es.length:Int)/\(es=[]\/sz=s)) with
    | some (ob,r)=>some { val:=.d (.lst (decd a orc&&(full&&decide (h=(es.length:Int)))) sz (cutD (isNo b) es h l)),up:=Qd hp fs,ob,orc:=r }
    | none=>none
   | _,_,_=>none
  | some (.slice elem),some m,some (.lst _ sz es,fs)=>match cx.sz elem,Us c 0,Us b (-1),Us (some m) 0 with
   | some s,some l,some h,some m=>match owe a orc (0<=l/\l<=h/\h<=m/\m<=(es.length:Int)/\(es=[]\/sz=s)) with
    | some (ob,r)=>some { val:=.d (.lst (decide (h=m)) sz ((es.take h.toNat).drop l.toNat)),up:=Qd hp fs,ob,orc:=r }
    | none=>none
   | _,_,_,_=>none
  | _,_,_=>none
def told:List Orc->Option (List Orc)
 | .ix _::r=>some r
 | _=>none
def Qkq:List Orc->Option (List Orc)
 | .ix k::r=>match decide (k=-7) with
  | true=>some r
  | false=>none
 | _=>none
def Qkp:List Orc->Option (List Orc)
 | .ix k::r=>match decide (k=-8) with
  | true=>some r
  | false=>none
 | _=>none
def Qkd:Option AV->Bool
 | some (.d (.v (.int _ 0)))=>true
 | _=>false
def Um (cx:Cx)(a:Bool)(orc:List Orc)(hp:List (Nat×Blk))(t:TypeId)(x:AV)(d c e:Option AV):Option R :=
 match (match a || (cx.E 999999&&!Qkd c) with|true=>told orc|false=>some orc),x,d,e with
 | some o,.own b ver,none,none=>match look hp b with
  | some (.row ver' sz es)=>match cx.P.underlying t,Nat.beq ver ver',Us c (-1) with
   | some (.slice elem),true,some k=>match cx.sz elem,owe a o (0<=k/\k<=(es.length:Int)) with
    | some s,some (ob,r)=>match Nat.beq s sz with
     | true=>some { val:=.own b (ver+1),up:=[(b,.row (ver+1) sz (es.take k.toNat))],ob,orc:=r }
     | false=>none
    | _,_=>none
   | _,_,_=>none
  | _=>none
 | _,_,_,_=>none
def yD (cx:Cx)(a:Bool)(orc:List Orc)(hp:List (Nat×Blk))(t:TypeId)(x:AV)(e c f:Option AV):Option R :=
 match told orc,x,e,c,f with
 | some o,.own b ver,some (.d (.v (.int _ l))),none,none=>match look hp b with
  | some (.row ver' sz es)=>match cx.P.underlying t,Nat.beq ver ver' with
   | some (.slice elem),true=>match cx.sz elem,owe a o (0<=l/\l<(es.length:Int)) with
    | some s,some (ob,r)=>match Nat.beq s sz with
     | true=>some { val:=.sub b ver sz l.toNat (es.length - l.toNat),up:=[],ob,orc:=r }
     | false=>none
    | _,_=>none
   | _,_=>none
  | _=>none
 | _,_,_,_,_=>none
def Vk:jVj->Bool
 | []=>true
 | _=>false
def UL (hp:List (Nat×Blk))(x:AV):Option (Nat×jVj×List Nat):=match x.toDH hp with
 | some (.lst _ sz es,fs)=>some (sz,es,fs)
 | _=>none
def ET (cx:Cx)(a:TypeId)(sz:Nat):Bool:=match cx.zero a with
 | some z=>Nat.beq z.cells.size sz&&z.cells.toList.all one
 | none=>false
def QcM (cx:Cx)(a:Bool)(orc:List Orc)(hp:List (Nat×Blk))(s t:TypeId)(x:AV):Option R:=match cx.P.underlying s,cx.P.underlying t,UL hp x with
 | some (.slice e),some .string,some (1,ds,_)=>match cx.P.underlying e,zR a orc with
  | some (.int .u8),some (.el (.v (.string b)),r)=>some { val:=.d (.v (.string b)),up:=[],ob:=[(ku ds).map (fun l=>ByteArray.mk l.toArray)=some b],orc:=r }
  | some (.int .u8),some (.no,r)=>match ku ds with
   | some l=>some { val:=.d (.v (.string (ByteArray.mk l.toArray))),up:=[],ob:=[],orc:=r }
   | none=>none
  | _,_=>none
 | _,_,_=>none
def room (cx:Cx)(a:TypeId)(n:Nat):Prop:=match cx.bytes a with
 | some b=>n*b<=140737488355328/\0<b
 | none=>False
instance (cx:Cx) (elem:TypeId) (n:Nat):Decidable (room cx elem n):=by unfold room;split<;>infer_instance
def Ja (cx:Cx)(t:TypeId):Bool:=match cx.P.underlying t with
 | some (.slice _)=>true
 | _=>false
def nilO (a:Bool)(orc:List Orc)(ds:jVj):Option (Bool×List Prop×List Orc):=match zR a orc with
 | some (.br b,r)=>some (b,[Vk ds=b],r)
 | some (.no,r)=>match Vk ds with
  | true=>some (true,[],r)
  | false=>some (false,[],r)
 | _=>none
def Qjx:List Orc->Option (List Orc)
 | .ix k::r=>match decide (k=-12) with
  | true=>some r
  | false=>none
 | _=>none
def wk1:D->D
 | .lst _ s l=>match l with
  | []=>.lst false 1 []
  | x::r=>.lst false s (x::r)
 | x=>x
def wkA:AV->AV
 | .d x=>match x with
  | .agg l=>.d (.agg (l.map wk1))
  | x=>.d x
 | x=>x
def Qko:List Orc->Option (List Orc)
 | .ix k::r=>match decide (k=-10) with
  | true=>some r
  | false=>none
 | _=>none
def adup (cx:Cx)(a:Bool)(orc:List Orc)(hp:List (Nat×Blk))(t:TypeId)(s x:AV):Option R :=
 match cx.P.underlying t,s,x with
 | some (.slice elem),.d (.lst true _ es0),.own b ver=>match look hp b,cx.sz elem with
  | some (.row ver' sz es),some z=>match Nat.beq ver ver'&&Nat.beq sz z&&ET cx elem z&&Vk es0,owe a orc (room cx elem (0+es.length)) with
   | true,some (ob,r)=>some { val:=.d (.lst false z es),up:=[],ob,orc:=r }
   | _,_=>none
  | _,_=>none
 | _,_,_=>none
def zi (cx:Cx)(c:Bool)(orc:List Orc)(hp:List (Nat×Blk))(name:Nat)(t:TypeId)(s x:AV):Option R :=
  match cx.P.underlying t,UL hp x with
  | some (.slice elem),some (asz,ds,fs)=>match cx.sz elem with
    | none=>none
    | some z=>match (Nat.beq asz z || Vk ds)&&ET cx elem z with
      | false=>none
      | true=>match s with
        | .own b ver=>match look hp b with
          | some (.row ver' sz es)=>match Nat.beq ver ver'&&Nat.beq sz z&&!(fs.contains b) with
            | false=>none
            | true=>match owe c orc (room cx elem (es.length+ds.length)) with
              | some (ob,r)=>match Qkq r with
                | some g=>some { val:=.d (.lst false sz (es++ds)),up:=(b,.frozen (ver+1) sz (es++ds))::(b,.row (ver+1) sz (es++ds))::Qd hp fs,ob,orc:=g }
                | none=>some { val:=.own b (ver+1),up:=(b,.row (ver+1) sz (es++ds))::Qd hp fs,ob,orc:=r }
              | none=>none
          | some (.virt ver' sz es)=>match Nat.beq ver ver'&&(Nat.beq sz z || Vk es) with
            | false=>none
            | true=>match owe c orc (room cx elem (es.length+ds.length)) with
              | some (ob,r)=>match nilO c r ds with
                | some (false,a,e)=>some { val:=.own b (ver+1),up:=(b,.row (ver+1) z (es++ds))::Qd hp fs,ob:=a++ob,orc:=e }
                | _=>none
              | none=>none
          | _=>none
        | .d (.lst true sz es)=>match Nat.beq sz z || Vk es with
          | false=>none
          | true=>match Qkp orc with
           | some f=>match Vk es,look hp name,owe c f (room cx elem (es.length+ds.length)) with
             | true,none,some (ob,r)=>some { val:=.own name 0,up:=(name,.row 0 z (es++ds))::Qd hp fs,ob,orc:=r }
             | _,_,_=>none
           | none=>match owe c orc (room cx elem (es.length+ds.length)) with
            | some (ob,r)=>match nilO c r ds with
              | some (false,a,e)=>match told e,look hp name with
                | some g,_=>some { val:=.d (.lst false z (es++ds)),up:=Qd hp fs,ob:=a++ob,orc:=g }
                | none,none=>some { val:=.own name 0,up:=(name,.row 0 z (es++ds))::Qd hp fs,ob:=a++ob,orc:=e }
                | none,some _=>none
              | some (true,a,e)=>some { val:=.d (.lst true z es),up:=Qd hp fs,ob:=a++ob,orc:=e }
              | none=>none
            | none=>none
        | _=>none
  | _,_=>none
def Qf7 (cx:Cx)(a:Bool)(orc:List Orc)(hp:List (Nat×Blk))(name:Nat)(t t2:TypeId)(s x:AV):Option R :=
 match cx.P.underlying t,cx.P.underlying t2,s,x with
 | some (.slice elem),some (.int _),.d (.lst true _ es),.d (.v (.int .i64 m))=>match cx.sz elem,cx.zero elem,Vk es,look hp name with
  | some z,some b,true,none=>match ET cx elem z&&Nat.blt 0 z,owe a orc (0<m/\room cx elem m.toNat) with
   | true,some (ob,r)=>some { val:=.own name 0,up:=[(name,.row 0 z (List.replicate m.toNat (ofV b)))],ob,orc:=r }
   | _,_=>none
  | _,_,_,_=>none
 | _,_,_,_=>none
def Ka (hp:List (Nat×Blk)):AV->Option (jVj)
 | .d (.lst _ _ es)=>some es
 | .own b ver=>match look hp b with
  | some (.row ver' _ es)=>match Nat.beq ver ver' with
   | true=>some es
   | false=>none
  | some (.frozen ver' _ es)=>match Nat.beq ver ver' with
   | true=>some es
   | false=>none
  | some (.virt ver' _ es)=>match Nat.beq ver ver' with
   | true=>some es
   | false=>none
  | _=>none
 | .sub b ver _ _ n=>match El hp b ver with
  | true=>some (List.replicate n (.tup []))
  | false=>none
 | _=>none
def allV:List AV->Option (List Value)
 | []=>some []
 | x::l=>match x.toV,allV l with
  | some v,some vs=>some (v::vs)
  | _,_=>none
def QbL (cx:Cx)(orc:List Orc)(hp:List (Nat×Blk))(t:TypeId)(d s:AV):Option R :=
 match cx.P.underlying t,d,UL hp s with
 | some (.slice elem),.own b ver,some (asz,ds,fs)=>match look hp b,cx.sz elem with
  | some (.row ver' sz es),some z=>match Nat.beq ver ver'&&Nat.beq sz z&&(Nat.beq asz z || Vk ds)&&!(fs.contains b) with
   | true=>some { val:=.d (.v (.int .i64 (min ds.length es.length:Nat))),up:=(b,.row ver sz (ds.take es.length++es.drop ds.length))::Qd hp fs,ob:=[],orc }
   | false=>none
  | _,_=>none
 | _,_,_=>none
def QcJ (cx:Cx)(a:Bool)(orc:List Orc)(hp:List (Nat×Blk))(t:TypeId)(x:AV):Option R :=
 match cx.P.underlying t,x with
 | some (.slice elem),.sub b ver sz lo n=>match look hp b,cx.zero elem with
  | some (.row ver' sz' es),some zv=>match Nat.beq ver ver'&&Nat.beq sz sz'&&ET cx elem sz,owe a orc (0<n/\lo+n<=es.length) with
   | true,some (ob,r)=>some { val:=.tup [],up:=[(b,.row ver sz (es.take lo++(List.replicate n (ofV zv)++es.drop (lo+n))))],ob,orc:=r }
   | _,_=>none
  | _,_=>none
 | _,_=>none
def emp:AV->AV
 | .d (.v (.slice _ 0 _))=>.d (.lst false 0 [])
 | x=>x
def XI (cx:Cx)(c:Bool)(orc:List Orc)(hp:List (Nat×Blk))(name:Nat)(b:Builtin)(ats:Array TypeId)(type:TypeId)(a:List AV):Option R :=
 match b with
 | .append=>match ats.toList,a with
  | t::t2::_,[s,x]=>match Ja cx t2 with
   | true=>match Qko orc with
    | some o=>adup cx c o hp t s x
    | none=>zi cx c orc hp name t s (emp x)
   | false=>Qf7 cx c orc hp name t t2 s x
  | _,_=>none
 | .copy=>match ats.toList,a with
  | t::_,[d,s]=>QbL cx orc hp t d s
  | _,_=>none
 | .len=>match a with
  | [x]=>match Ka hp x with
   | some es=>match ats.toList with
    | t::_=>match cx.P.underlying t with
     | some (.slice _)=>val1 (.d (.v (.int .i64 es.length))) orc
     | _=>none
    | _=>none
   | none=>match x.toV with
    | some v=>match Zu cx.P (Builtin.len_ ats type #[v]) with
     | some r=>val1 (.d (ofV r)) orc
     | none=>none
    | none=>none
  | _=>none
 | .max=>match allV a with
  | some vs=>match Zu cx.P (Builtin.max_ ats type vs.toArray) with
   | some r=>val1 (.d (ofV r)) orc
   | none=>none
  | none=>none
 | .min=>match allV a with
  | some vs=>match Zu cx.P (Builtin.min_ ats type vs.toArray) with
   | some r=>val1 (.d (ofV r)) orc
   | none=>none
  | none=>none
 | .cap=>match a,ats.toList with
  | [.d (.lst true _ es)],t::_=>match cx.P.underlying t with
   | some (.slice _)=>val1 (.d (.v (.int .i64 es.length))) orc
   | _=>none
  | _,_=>none
 | .clear=>match a,ats.toList with
  | [x],t::_=>QcJ cx c orc hp t x
  | _,_=>none
 | _=>none
def yP (cx:Cx)(s:TypeId)(f:Nat):Option Field:=match cx.P.underlying s with
 | some (.struct fields)=>nth fields.toList f
 | _=>none
def KZ (a:Bool)(orc:List Orc)(hp:List (Nat×Blk))(b ver sz i:Nat):Option (AV×List Prop×List Orc):=match look hp b with
 | some (.box x)=>match Nat.beq i 0 with
  | true=>some (x,[],orc)
  | false=>none
 | some (.row ver' sz' es)=>match Nat.beq ver ver'&&Nat.beq sz sz' with
  | false=>none
  | true=>match zR a orc with
   | some (.el x,r)=>some (.d x,[nth es i=some x],r)
   | some (.no,r)=>match nth es i with
    | some x=>some (.d x,[],r)
    | none=>none
   | _=>none
 | _=>none
def Qim:Blk->Option D
 | .fbox x=>some x
 | .box _=>none
 | .row _ _ _=>none
 | .frozen _ _ _=>none
 | .virt _ _ _=>none
 | .loop _ _ _ _ _ _=>none
 | .mp _=>none
 | .it _ _=>none
 | .left _=>none
 | .dead=>none
def zA (hp:List (Nat×Blk))(b:Nat):Option D:=match look hp b with
 | some k=>Qim k
 | none=>none
def unfP (hp:List (Nat×Blk))(b ver sz i off:Nat):AV:=match zA hp b with
 | some x=>match Nat.beq ver 0&&Nat.beq i 0 with
  | true=>.dptr x off
  | false=>.ptr b ver sz i off
 | none=>.ptr b ver sz i off
def unf (hp:List (Nat×Blk)):AV->AV
 | .ptr b ver sz i off=>unfP hp b ver sz i off
 | .d x=>.d x
 | .agg cs=>.agg cs
 | .tup cs=>.tup cs
 | .dptr x o=>.dptr x o
 | .own b v=>.own b v
 | .sub b v s l n=>.sub b v s l n
 | .fn f a b=>.fn f a b
 | .junk=>.junk
def qM (sz:Nat)(e:D)(off:Nat)(y:D):Option D:=match uf (.d e) off (.d y) with
 | some z=>match z.toD with
  | some a=>match AV.cells (.d a) with
   | some zs=>match Nat.beq zs.length sz with
    | true=>some a
    | false=>none
   | none=>none
  | none=>none
 | none=>none
def kz (cx:Cx)(a:Bool)(orc:List Orc)(hp:List (Nat×Blk))(t:TypeId)(p y:AV):Option R :=
 match p,y.cells,cx.sz t with
 | .ptr b pv sz i off,some ys,some s=>match Nat.beq ys.length s,look hp b with
  | true,some (.box x)=>match uf x off y,Nat.beq i 0 with
   | some z,true=>match z.cells with
    | some _=>some { val:=.d (.v undef),up:=[(b,.box z)],ob:=[],orc }
    | none=>none
   | _,_=>none
  | true,some (.row ver sz' es)=>match Nat.beq sz sz'&&Nat.beq pv ver,y.toDH hp with
   | true,some (f,c)=>match c.contains b with
    | true=>none
    | false=>match Nat.beq off 0&&Nat.beq s sz with
     | true=>match owe a orc (i<es.length),AV.cells (.d f) with
      | some (ob,r),some zs=>match Nat.beq zs.length sz with
       | true=>some { val:=.d (.v undef),up:=(b,.row ver sz (es.set i f))::Qd hp c,ob,orc:=r }
       | false=>none
      | _,_=>none
     | false=>match zR a orc with
      | some (.el e,r)=>match qM sz e off f with
       | some g=>some { val:=.d (.v undef),up:=(b,.row ver sz (es.set i g))::Qd hp c,ob:=[nth es i=some e],orc:=r }
       | none=>none
      | some (.no,r)=>match nth es i with
       | some e=>match qM sz e off f with
        | some g=>some { val:=.d (.v undef),up:=(b,.row ver sz (es.set i g))::Qd hp c,ob:=[],orc:=r }
        | none=>none
       | none=>none
      | _=>none
   | _,_=>none
  | _,_=>none
 | _,_,_=>none
def Gj:List Value->List Value->Option Bool
 | [],[]=>some true
 | .int k a::l,.int k' b::m=>match decide (k=k'),Gj l m with
  | true,some r=>some (a==b&&r)
  | _,_=>none
 | _,_=>none
def Y1:Value->Value->Option Bool
 | .agg a,.agg b=>Gj a.toList b.toList
 | .int k a,.int k' b=>if k=k' then some (a==b) else none
 | .string a,.string b=>some (a==b)
 | .bool a,.bool b=>some (a==b)
 | _,_=>none
def vOf:D->Option Value
 | .v k=>some k
 | .agg _=>none
 | .tup _=>none
 | .lst _ _ _=>none
 | .fn _ _ _=>none
 | .ref _ _=>none
 | .nan _=>none
 | .mp _=>none
def QhF:jVj->Option (Value×D)
 | []=>none
 | a::l=>match l with
  | []=>none
  | x::r=>match r with
   | []=>match vOf a with
    | some k=>some (k,x)
    | none=>none
   | _::_=>none
def keyOf:D->Option (Value×D)
 | .v _=>none
 | .agg _=>none
 | .tup l=>QhF l
 | .lst _ _ _=>none
 | .fn _ _ _=>none
 | .ref _ _=>none
 | .nan _=>none
 | .mp _=>none
def mok (k:Value):jVj->Bool
 | []=>true
 | e::es=>match keyOf e with
  | some (j,_)=>(Y1 k j).isSome&&mok k es
  | none=>false
def W5 (k:Value):jVj->Option D
 | []=>none
 | e::es=>match keyOf e with
  | some (j,x)=>match Y1 k j with
   | some true=>some x
   | _=>W5 k es
  | none=>none
def E7 (k:Value)(x:D):jVj->jVj
 | []=>[.tup [.v k,x]]
 | e::es=>match keyOf e with
  | some (j,_)=>match Y1 k j with
   | some true=>.tup [.v k,x]::es
   | _=>e::E7 k x es
  | none=>e::es
def YX (ok:Bool)(k:Value)(z:D)(es:jVj):Option D:=match mok k es with
 | false=>none
 | true=>match W5 k es,ok with
  | some x,true=>some (.tup [x,.v (.bool true)])
  | none,true=>some (.tup [z,.v (.bool false)])
  | some x,false=>some x
  | none,false=>some z
def Yb (P:Program):Nat->List Field->List Value->Bool
 | _,[],[]=>true
 | i,f::fs,.int k _::vs=>match P.underlying f.type with
  | some (.int j)=>decide (j=k)&&Nat.beq f.offset i&&(f.name != "_")&&Yb P (i+1) fs vs
  | _=>false
 | _,_,_=>false
def qX (cx:Cx)(t:TypeId)(k:Value):Bool:=match cx.P.underlying t,k with
 | some (.int j),.int j' _=>decide (j'=j)
 | some .string,.string _=>true
 | some .bool,.bool _=>true
 | some (.struct fs),.agg cs=>!cx.P.stoodInHeld t&&Yb cx.P 0 fs.toList cs.toList
 | _,_=>false
def E2 (hp:List (Nat×Blk)):AV->Option (Nat×jVj)
 | .own b _=>match look hp b with
  | some (.mp es)=>some (b,es)
  | _=>none
 | _=>none
def jZ (hp:List (Nat×Blk)):AV->Option (jVj)
 | .own b _=>match look hp b with
  | some (.mp es)=>some es
  | _=>none
 | .d (.mp es)=>some es
 | _=>none
def UJ (cx:Cx)(a:Bool)(orc:List Orc)(hp:List (Nat×Blk))(t:TypeId)(m k x:AV):Option R :=
 match cx.P.underlying t,E2 hp m,k.toV,x.toD with
 | some (.map kt _),some (b,es),some kv,some xd=>match qX cx kt kv,owe a orc (mok kv es=true) with
  | true,some (ob,r)=>some { val:=.d (.v undef),up:=[(b,.mp (E7 kv xd es))],ob,orc:=r }
  | _,_=>none
 | _,_,_,_=>none
def zg (cx:Cx)(a:Bool)(orc:List Orc)(hp:List (Nat×Blk))(t:TypeId)(m k:AV)(ok:Bool):Option R :=
 match cx.P.underlying t,jZ hp m,k.toV with
 | some (.map kt et),some es,some kv=>match qX cx kt kv,cx.zero et,zR a orc with
  | true,some z,some (.el x,r)=>some { val:=.d x,up:=[],ob:=[YX ok kv (ofV z) es=some x],orc:=r }
  | true,some z,some (.no,r)=>match YX ok kv (ofV z) es with
   | some x=>some { val:=.d x,up:=[],ob:=[],orc:=r }
   | none=>none
  | _,_,_=>none
 | _,_,_=>none
def oneV:D->Bool
 | .v x=>one x
 | .agg _=>false
 | .tup _=>false
 | .lst _ _ _=>false
 | .fn _ _ _=>false
 | .ref _ _=>false
 | .nan _=>false
 | .mp _=>false
def ji (hp:List (Nat×Blk))(b:Nat):Option (jVj×List (Nat×Blk)):=match look hp b with
 | some (.fbox (.agg ds))=>some (ds,[])
 | some (.box x)=>match x.toD with
  | some (.agg ds)=>some (ds,[(b,.fbox (.agg ds))])
  | _=>none
 | _=>none
def ym:Nat->Nat->jVj->jVj
 | 0,_,_=>[]
 | n+1,s,ds=>.agg (ds.take s)::ym n s (ds.drop s)
def wb (s n:Nat)(ds:jVj):jVj:=match Nat.beq s 1 with
 | true=>ds
 | false=>ym n s ds
def J3 (cx:Cx)(hp:List (Nat×Blk))(orc:List Orc)(t:TypeId)(b ver sz i off:Nat)(a:Bool):Option R:=match ji hp b,cx.P.underlying t with
 | some (ds,up),some (.array n elem)=>match cx.sz elem with
  | some s=>match a&&Nat.beq ver 0&&Nat.beq sz 0&&Nat.beq i 0&&Nat.beq off 0&&Nat.beq ds.length (n*s)&&Nat.blt 0 n&&ds.all oneV with
   | true=>some { val:=.d (.lst true s (wb s n ds)),up,ob:=[],orc }
   | false=>none
  | none=>none
 | _,_=>none
def QbV (cx:Cx)(hp:List (Nat×Blk))(orc:List Orc)(t:TypeId)(b ver sz i off:Nat)(e c:Option AV)(a:Bool):Option R:=match a,ji hp b,cx.P.underlying t with
 | true,some (ds,up),some (.array n elem)=>match cx.sz elem,Us e 0,Us c n with
  | some s,some l,some h=>match Nat.beq ver 0&&Nat.beq sz 0&&Nat.beq i 0&&Nat.beq off 0&&Nat.beq s 1&&Nat.beq ds.length n&&decide (0<=l/\l<h/\h<=n)&&ds.all oneV with
   | true=>some { val:=.d (.lst false 1 ((ds.take h.toNat).drop l.toNat)),up,ob:=[],orc }
   | false=>none
  | _,_,_=>none
 | _,_,_=>none
def uh (cx:Cx)(hp:List (Nat×Blk))(orc:List Orc)(t:TypeId)(b ver sz i off:Nat)(e d:Option AV)(c a:Bool):Option R:=match J3 cx hp orc t b ver sz i off a with
 | some q=>some q
 | none=>QbV cx hp orc t b ver sz i off e d c
def QjM (a:Bool)(orc:List Orc)(n:Nat)(es:jVj):Option (jVj×List Prop×List Orc):=match zR a orc with
 | some (.ret (.lst _ _ l),r)=>some (l,[es.take n=l],r)
 | some (.no,r)=>some (es.take n,[],r)
 | _=>none
def aarr (cx:Cx)(a:Bool)(orc:List Orc)(hp:List (Nat×Blk))(t:TypeId)(x:AV):Option R:=match cx.P.underlying t,x.toDH hp with
 | some (.array n elem),some (.lst _ sz es,fs)=>match cx.sz elem,QjM a orc n es with
  | some s,some (l,ob,r)=>match Nat.beq s 1&&Nat.beq sz 1&&Nat.beq l.length n&&Nat.blt 0 n&&l.all oneV with
   | true=>some { val:=.dptr (.agg l) 0,up:=Qd hp fs,ob,orc:=r }
   | false=>none
  | _,_=>none
 | _,_=>none
def preB (hp:List (Nat×Blk))(b:Nat):List (Nat×Blk):=match look hp b with
 | some (.box x)=>match x.toD with
  | some (.agg ds)=>(b,.fbox (.agg ds))::hp
  | _=>hp
 | _=>hp
def Qdq (hp:List (Nat×Blk)):List Nat->List (Nat×Blk)
 | []=>hp
 | b::l=>Qdq (preB hp b) l
def kU (hp:List (Nat×Blk)):AV->Option (Nat×It×Nat)
 | .own b _=>match look hp b with
  | some (.it s p)=>some (b,s,p)
  | _=>none
 | _=>none
def QhO (s:jSj)(p:Nat):D:=.tup [.v (.bool true),.v (.int .i64 (p:Int)),.v (.int .i32 ((Utf8.decode s p).1:Int))]
def Qf6 (a:Bool)(orc:List Orc)(hp:List (Nat×Blk))(x:AV):Option R:=match kU hp x with
 | some (b,.str s,p)=>match zR a orc with
  | some (.br true,r)=>some { val:=.d (QhO s p),up:=[(b,.it (.str s) (p+(Utf8.decode s p).2))],ob:=[p<s.size],orc:=r }
  | some (.br false,r)=>some { val:=.d (.tup [.v (.bool false)]),up:=[],ob:=[¬p<s.size],orc:=r }
  | some (.no,r)=>match decide (p<s.size) with
   | true=>some { val:=.d (QhO s p),up:=[(b,.it (.str s) (p+(Utf8.decode s p).2))],ob:=[],orc:=r }
   | false=>some { val:=.d (.tup [.v (.bool false)]),up:=[],ob:=[],orc:=r }
  | _=>none
 | _=>none
def QcG (a:Bool)(orc:List Orc)(hp:List (Nat×Blk))(x:AV):Option R:=match kU hp x with
 | some (b,.mp v n,p)=>match zR a orc with
  | some (.br true,r)=>some { val:=.tup [.d (.v (.bool true)),.junk,.junk],up:=[(b,.it (.mp v n) (p - 1))],ob:=[0<p],orc:=r }
  | some (.br false,r)=>some { val:=.d (.tup [.v (.bool false)]),up:=[],ob:=[¬0<p],orc:=r }
  | _=>none
 | _=>none
def yR (orc:List Orc)(hp:List (Nat×Blk))(x:AV):Option R:=match kU hp x with
 | some (_,.mp v n,p)=>some { val:=.tup [.junk,.d (.v v)],up:=[],ob:=[p<n],orc }
 | _=>none
def allI (k:IntKind)(n:Int):jVj->Bool
 | []=>true
 | e::es=>match keyOf e with
  | some (_,.v (.int k' m))=>decide (k'=k)&&(decide (m=n)&&allI k n es)
  | _=>false
def QcE (cx:Cx)(hp:List (Nat×Blk))(name:Nat)(orc:List Orc)(t:TypeId)(x:AV):Option R:=match cx.P.underlying t,x.toV,look hp name with
 | some .string,some (.string s),none=>some { val:=.own name 0,up:=[(name,.it (.str s) 0)],ob:=[],orc }
 | some (.map _ _),none,none=>match E2 hp x,orc with
  | some (b,es),.el (.v (.int k n))::r=>some { val:=.own name 0,up:=[(name,.it (.mp (.int k n) es.length) es.length),(b,.dead)],ob:=[allI k n es=true],orc:=r }
  | _,_=>none
 | _,_,_=>none
def Qjw:List Orc->Option (List Orc)
 | .ix k::r=>match decide (k=-13) with
  | true=>some r
  | false=>none
 | _=>none
def Qju:List Orc->Option (List Orc)
 | .ix k::r=>match decide (k=-15) with
  | true=>some r
  | false=>none
 | _=>none
def rawA:Value->AV
 | .agg cs=>.agg (cs.toList.map fun c=>.d (.v c))
 | x=>.d (.v x)
def Qjv:List Orc->Option (List Orc)
 | .ix k::r=>match decide (k=-14) with
  | true=>some r
  | false=>none
 | _=>none
def QeH (c:BinOp)(x y:AV)(orc:List Orc):Option R:=match c,x,y with
 | .mul,.d (.v (.float k a)),.d (.v (.float k' b))=>match decide (k=k') with
  | true=>some { val:=.d (.nan k),up:=[],ob:=[fop .mul k a b=none],orc }
  | false=>none
 | _,_,_=>none
def QfJ (a:BinOp)(x y:AV)(orc:List Orc):Option R:=match a,x,y with
 | .neq,.d (.nan k),.d (.nan k')=>match decide (k=k') with
  | true=>val1 (.d (.v (.bool true))) orc
  | false=>none
 | _,_,_=>none
def QfI (cx:Cx)(s t:TypeId)(x:AV)(orc:List Orc):Option R:=match cx.P.underlying s,cx.P.underlying t,x with
 | some (.float _),some (.float k),.d (.nan _)=>val1 (.d (.nan k)) orc
 | _,_,_=>none
def nanConv (cx:Cx)(s t:TypeId)(x:AV)(orc:List Orc):Option R:=match cx.P.underlying s,cx.P.underlying t,x with
 | some (.float _),some (.float k),.d (.v (.float j b))=>some { val:=.d (.nan k),up:=[],ob:=[(j.decode b).isNaN=true],orc }
 | _,_,_=>none
def aop (cx:Cx)(h:Bool)(orc:List Orc)(hp:List (Nat×Blk))(name:Nat)(e:Operand->AV)(o:Oper):Option R :=
  match o.op with
  | .move x=>val1 (e x) orc
  | .assign x=>val1 (e x) orc
  | .pick c a b=>match e c with
    | .d (.v (.bool true))=>val1 (e a) orc
    | .d (.v (.bool false))=>val1 (e b) orc
    | _=>none
  | .alloc elem=>match Qju orc with
   | some r=>match cx.zero elem,look hp name with
    | some z,none=>match (rawA z).cells with
      | some _=>some { val:=.ptr name 0 0 0 0,up:=[(name,.box (rawA z))],ob:=[],orc:=r }
      | none=>none
    | _,_=>none
   | none=>match cx.zero elem,look hp name with
    | some z,none=>match AV.cells (.d (ofV z)) with
      | some _=>some { val:=.ptr name 0 0 0 0,up:=[(name,.box (.d (ofV z)))],ob:=[],orc }
      | none=>none
    | _,_=>none
  | .box _ x=>match (e x).cells,look hp name with
    | some _,none=>some { val:=.ptr name 0 0 0 0,up:=[(name,.box (e x))],ob:=[],orc }
    | _,_=>none
  | .build t parts=>match Qfk cx t (parts.toList.map fun p=>(p.1,e p.2)) with
    | some x=>match Qjx orc with
      | some r=>val1 (wkA x) r
      | none=>val1 x orc
    | none=>none
  | .buildSlice t len parts=>match cx.Lt t len with
    | true=>Qb4 cx hp name t len (parts.toList.map fun p=>(p.1,e p.2)) orc
    | false=>match K5 0 (parts.toList.map fun p=>(p.1,e p.2)) with
      | some (x::xs)=>Qb6 cx hp name t len (x::xs) orc
      | _=>match cx.P.underlying t with
      | some (.slice elem)=>match cx.sz elem,cx.zero elem with
        | some s,some _=>match Y6 hp s 0 (parts.toList.map fun p=>(p.1,e p.2)) with
          | some (es,u)=>match Nat.ble (len*s) 16777216&&Nat.beq parts.toList.length len with
            | true=>match Qjx orc with
              | some r=>some { val:=.d (.lst true s (es.map wk1)),up:=Qd hp u,ob:=[],orc:=r }
              | none=>some { val:=.d (.lst true s es),up:=Qd hp u,ob:=[],orc }
            | false=>none
          | none=>none
        | _,_=>none
      | _=>none
  | .load t a=>match cx.sz t,cx.isAgg t,unf hp (e a) with
    | some s,some g,.ptr b ver sz i off=>match KZ h orc hp b ver sz i with
      | some (x,ob,r)=>match Jq g s off x with
        | some y=>some { val:=y,up:=[],ob,orc:=r }
        | none=>none
      | none=>none
    | some s,some g,.dptr x off=>match Jq g s off (.d x) with
      | some y=>val1 y orc
      | none=>none
    | _,_,_=>none
  | .store t a x=>kz cx h orc hp t (e a) (e x)
  | .nilCheck x=>match e x with
    | .ptr b v s i f=>match El hp b v with
      | true=>val1 (.ptr b v s i f) orc
      | false=>none
    | .dptr y f=>val1 (.dptr y f) orc
    | .fn (.func g) a b=>val1 (.fn (.func g) a b) orc
    | .d (.fn (.func g) a b)=>val1 (.d (.fn (.func g) a b)) orc
    | _=>none
  | .binOp op t x y _=>match Qjw orc with
   | some r=>QeH op (e x) (e y) r
   | none=>match QfJ op (e x) (e y) orc with
   | some q=>some q
   | none=>match (e x).toV,(e y).toV with
    | some a,some b=>match abin cx h op t x y a b with
      | some (r,ob)=>some { val:=.d r,up:=[],ob,orc }
      | none=>none
    | _,_=>match Uh hp cx op t (e x) y with
      | some (r,ob)=>some { val:=.d r,up:=[],ob,orc }
      | none=>match E5 cx op t (e x) y with
        | some (r,ob)=>some { val:=.d r,up:=[],ob,orc }
        | none=>none
  | .unOp op _ x=>match (e x).toV with
    | some a=>match Zu cx.P (Op.unary op a) with
      | some r=>val1 (.d (ofV r)) orc
      | none=>none
    | none=>none
  | .convert s t x=>match Qjv orc with
   | some r=>nanConv cx s t (e x) r
   | none=>match QfI cx s t (e x) orc with
   | some q=>some q
   | none=>match (e x).toV with
    | some a=>match QiD cx h s t a with
      | some (r,ob)=>some { val:=.d r,up:=[],ob,orc }
      | none=>none
    | none=>QcM cx h orc hp s t (e x)
  | .makeFunc f first cap=>val1 (AV.norm (.fn f (first.toList.map e) (cap.toList.map e))) orc
  | .makeSlice t l c=>match cx.P.underlying t,e l,e c,look hp name with
    | some (.slice elem),.d (.v (.int _ n)),.d (.v (.int _ m)),none=>match cx.sz elem,cx.zero elem,cx.bytes elem with
      | some s,some z,some b=>match owe h orc (0<=n/\n<=m/\b*m<=281474976710656/\m<=9223372036854775807),ET cx elem s with
        | some (ob,r),true=>some { val:=.own name 0,up:=[(name,.row 0 s (List.replicate n.toNat (ofV z)))],ob,orc:=r }
        | _,_=>none
      | _,_,_=>none
    | _,_,_,_=>none
  | .slice t x lo hi mx=>match e x with
    | .ptr b ver sz i off=>uh cx hp orc t b ver sz i off (lo.map e) (hi.map e) mx.isNone (lo.isNone&&hi.isNone&&mx.isNone)
    | _=>match Um cx h orc hp t (e x) (lo.map e) (hi.map e) (mx.map e) with
      | some r=>some r
      | none=>match yD cx h orc hp t (e x) (lo.map e) (hi.map e) (mx.map e) with
        | some r=>some r
        | none=>Xb cx h orc hp t (e x) (lo.map e) (hi.map e) (mx.map e)
  | .sliceToArrayPointer t x=>aarr cx h orc hp t (e x)
  | .makeMap _ r=>match r,look hp name with
    | none,none=>some { val:=.own name 0,up:=[(name,.mp [])],ob:=[],orc }
    | _,_=>none
  | .mapUpdate t m k x=>UJ cx h orc hp t (e m) (e k) (e x)
  | .insert t m k x=>UJ cx h orc hp t (e m) (e k) (e x)
  | .lookup t m k ok=>zg cx h orc hp t (e m) (e k) ok
  | .range t x=>QcE cx hp name orc t (e x)
  | .next x isS=>match isS with
    | true=>Qf6 h orc hp (e x)
    | false=>QcG h orc hp (e x)
  | .entry x=>yR orc hp (e x)
  | .fieldAddr s x f=>match yP cx s f with
    | some j=>match cx.sz j.type with
      | some n=>match Nat.beq n 0,e x with
        | false,.ptr b v sz i off=>match El hp b v with
          | true=>val1 (.ptr b v sz i (off+j.offset)) orc
          | false=>none
        | false,.dptr y off=>val1 (.dptr y (off+j.offset)) orc
        | _,_=>none
      | none=>none
    | none=>none
  | .field s x f=>match yP cx s f with
    | some j=>match cx.sz j.type,cx.isAgg j.type,e x with
      | some n,some g,.agg cs=>match Jq g n j.offset (.agg cs) with
        | some y=>val1 y orc
        | none=>none
      | some n,some g,.d (.agg cs)=>match Jq g n j.offset (.d (.agg cs)) with
        | some y=>val1 y orc
        | none=>none
      | _,_,_=>none
    | none=>none
  | .indexAddr t x ix=>match e ix with
    | .d (.v (.int _ i))=>UK cx h orc hp t (e x) i
    | _=>none
  | .index t x ix=>match (e ix).toV with
    | some i=>Qfe cx h orc t (e x) i
    | none=>none
  | .extract x i=>match e x with
    | .tup vs=>match nth vs i with
      | some y=>val1 y orc
      | none=>none
    | .d (.tup vs)=>match nth vs i with
      | some y=>val1 (.d y) orc
      | none=>none
    | _=>none
  | .call { callee:=.builtin b,args,argTypes }=>XI cx h orc hp name b argTypes o.type (args.toList.map e)
  | _=>none
def Qir:AV->AV
 | .d x=>match x with
  | .ref y o=>.dptr y o
  | .v y=>.d (.v y)
  | .agg cs=>.d (.agg cs)
  | .tup cs=>.d (.tup cs)
  | .lst f s es=>.d (.lst f s es)
  | .fn f a b=>.d (.fn f a b)
  | .nan k=>.d (.nan k)
  | .mp es=>.d (.mp es)
 | .agg cs=>.agg cs
 | .tup cs=>.tup cs
 | .dptr x o=>.dptr x o
 | .ptr b v s i o=>.ptr b v s i o
 | .own b v=>.own b v
 | .sub b v s l n=>.sub b v s l n
 | .fn f a b=>.fn f a b
 | .junk=>.junk
def evA (cx:Cx)(tm:List (Nat×AV)):Operand->AV
 | .tmp t=>match look tm t with
  | some x=>Qir x
  | none=>.junk
 | .const v=>.d (ofV v)
 | .global g=>match cx.G g with
  | some x=>.dptr x 0
  | none=>.junk
 | .func f=>.d (.fn (.func f) [] [])
def GM (ops:Array Oper)(tm:List (Nat×AV))(o:Oper):Option Bool:=match o.guard with
 | none=>some true
 | some (j,want)=>match nth ops.toList j with
  | none=>some false
  | some g=>match g.dst with
   | none=>some false
   | some d=>match look tm d with
    | some (.d (.v (.bool b)))=>some (b==want)
    | some (.d (.v (.tuple _)))=>some false
    | some (.d (.tup _))=>some false
    | _=>none
def wN (ops:Array Oper)(i:Nat):Bool:=ops.toList.any fun o=>match o.guard with
 | some (j,_)=>Nat.beq i j
 | none=>false
def litB (a:Bool)(orc:List Orc)(x:AV):Option (AV×List Prop×List Orc):=match x with
 | .d (.v (.bool b))=>match zR a orc with
  | some (.br g,r)=>some (.d (.v (.bool g)),[b=g],r)
  | some (.no,r)=>match b with
   | true=>some (.d (.v (.bool true)),[],r)
   | false=>some (.d (.v (.bool false)),[],r)
  | _=>none
 | _=>some (x,[],orc)
def St.put (s:St)(d:Option Tmp)(x:AV):Option St:=match d with
 | none=>some s
 | some t=>match Nat.blt t s.nt with
  | true=>some { s with tm:=(t,x)::s.tm }
  | false=>none
def Vo (hp:List (Nat×Blk))(b:Nat):Bool:=match look hp b with
 | some _=>true
 | none=>false
mutual
def AV.inH (hp:List (Nat×Blk)):AV->Bool
 | .d _=>true
 | .agg cs=>inHs hp cs
 | .tup cs=>inHs hp cs
 | .dptr _ _=>true
 | .ptr b _ _ _ _=>Vo hp b
 | .own b _=>Vo hp b
 | .sub b _ _ _ _=>Vo hp b
 | .fn _ a b=>inHs hp a&&inHs hp b
 | .junk=>true
def inHs (hp:List (Nat×Blk)):List AV->Bool
 | []=>true
 | x::l=>x.inH hp&&inHs hp l
end
def JW (a:List (Nat×Blk)):Nat->List (Nat×Blk)->Bool
 | 0,_=>true
 | n+1,(b,_)::l=>!(Vo a b)&&JW a n l
 | _+1,[]=>false
def QbZ (a:List (Nat×Blk))(x:AV)(s:St):Option AV :=
 match s.sfx&&JW a (s.hp.length - a.length) s.hp,x.toDH s.hp with
 | true,some (y,c)=>match c.all fun b=>!(Vo a b) with
  | true=>some (.d y)
  | false=>none
 | _,_=>none
def U1 (cx:Cx)(tm:List (Nat×AV))(hp:List (Nat×Blk)):List ResultVar->Option (List AV)
 | []=>some []
 | .tmp t::l=>match look tm t,U1 cx tm hp l with
  | some x,some r=>some (x::r)
  | _,_=>none
 | .cell a t::l=>match look tm a,cx.sz t,cx.isAgg t,U1 cx tm hp l with
  | some (.ptr b _ _ 0 off),some s,some g,some r=>match look hp b with
   | some (.box x)=>match Jq g s off x with
    | some y=>some (y::r)
    | none=>none
   | _=>none
  | _,_,_,_=>none
def Eg:Nat->List AV->List (Nat×AV)
 | _,[]=>[]
 | n,x::l=>(n,x)::Eg (n+1) l
def KM (b:Code->St->Option (Ex×St))(cx:Cx)(f:FuncId)(a:List AV)(s:St):Option (AV×St) :=
 match cx.P.funcs[f]? with
 | none=>none
 | some fn=>match fn.body with
  | none=>none
  | some body=>match Nat.ble a.length fn.ntmps,b body { s with nt:=fn.ntmps,tm:=Eg 0 a } with
   | true,some (.exit _,_)=>none
   | true,some (_,s')=>match U1 cx s'.tm s'.hp fn.results.toList with
    | some [x]=>some (x,{ s' with nt:=s.nt,tm:=s.tm })
    | some l=>some (AV.norm (.tup l),{ s' with nt:=s.nt,tm:=s.tm })
    | none=>none
   | _,none=>none
   | false,_=>none
def Blk.live:Blk->Bool
 | .box _=>true
 | .row _ _ _=>true
 | .frozen _ _ _=>false
 | .virt _ _ _=>false
 | .loop _ _ _ _ _ _=>true
 | .mp _=>true
 | .it _ _=>true
 | .fbox _=>false
 | .left _=>true
 | .dead=>false
def QX:Value->Option Nat
 | .pointer (some a)=>some a.block
 | .slice (some a) _ (_+1)=>some a.block
 | .map (some r)=>some r
 | .func (.yield l) _ _=>some l
 | _=>none
theorem Q8 {a:Addr}{n c:Nat}(hc:0<c):QX (.slice (some a) n c)=some a.block:=by
 cases c with
 | zero=>omega
 | succ c=>rfl
theorem WG (a:Option Addr)(n:Nat):QX (.slice a n 0)=none:=by cases a<;>rfl
inductive DR (w:World) (M:Nat->Prop):D->Value->Prop
 | v (x:Value):DR w M (.v x) x
 | agg (cs:jVj) (ys:List Value) (hl:cs.length=ys.length)
   (h:∀(i:Nat) (c:D) (y:Value),cs[i]?=some c->ys[i]?=some y->DR w M c y):DR w M (.agg cs) (.agg ys.toArray)
 | tup (cs:jVj) (ys:List Value) (hl:cs.length=ys.length)
   (h:∀(i:Nat) (c:D) (y:Value),cs[i]?=some c->ys[i]?=some y->DR w M c y):DR w M (.tup cs) (.tuple ys.toArray)
 | lst (full:Bool) (sz:Nat) (es:jVj) (a:Option Addr) (cap blk off:Nat) (ys:Nat->Value)
   (hf:full=true->cap=es.length) (hc:es.length<=cap)
   (ha:es≠[]->a=some ⟨blk,off,none⟩/\¬M blk/\blk<w.heap.size)
   (hs:∀(i:Nat) (e:D),es[i]?=some e->e.cells.length=sz)
   (hw:∀(i:Nat) (e:D) (j:Nat) (c:D),es[i]?=some e->e.cells[j]?=some c->w.cell? ⟨blk,off+(i*sz+j),none⟩=some (ys (i*sz+j))/\one (ys (i*sz+j))=true)
   (h:∀(i:Nat) (e:D) (j:Nat) (c:D),es[i]?=some e->e.cells[j]?=some c->DR w M c (ys (i*sz+j))) :
   DR w M (.lst full sz es) (.slice a es.length cap)
 | fn (f:Fn) (a b:jVj) (xs ys:List Value) (hl:a.length=xs.length) (hm:b.length=ys.length)
   (h:∀(i:Nat) (c:D) (y:Value),a[i]?=some c->xs[i]?=some y->DR w M c y)
   (k:∀(i:Nat) (c:D) (y:Value),b[i]?=some c->ys[i]?=some y->DR w M c y):DR w M (.fn f a b) (.func f xs.toArray ys.toArray)
 | ref (x:D) (off blk o:Nat) (ys:Nat->Value) (hm:¬M blk) (hb:blk<w.heap.size)
   (hw:∀(j:Nat) (c:D),x.cells[j]?=some c->w.cell? ⟨blk,o+j,none⟩=some (ys j))
   (h:∀(j:Nat) (c:D),x.cells[j]?=some c->DR w M c (ys j)):DR w M (.ref x off) (.pointer (some ⟨blk,o+off,none⟩))
 | nan (k:FloatKind) (b:Nat) (h:(k.decode b).isNaN=true):DR w M (.nan k) (.float k b)
 | mp (es vs:jVj) (r:Nat) (es' : Array MapEntry) (c:Nat) (hm:¬M r) (hb:r<w.heap.size) (hw:w.heap[r]?=some (.map es' c)) (hl:es.length=es'.toList.length) (hv:vs.length=es'.toList.length)
   (hk:∀(i:Nat) (e:MapEntry) (x:D),es'.toList[i]?=some e->vs[i]?=some x->es[i]?=some (.tup [.v e.key,x]))
   (h:∀(i:Nat) (e:MapEntry) (x:D),es'.toList[i]?=some e->vs[i]?=some x->DR w M x e.val):DR w M (.mp es) (.map (some r))
def DAt (w:World)(M:Nat->Prop)(blk o:Nat)(x:D):Prop :=
 ¬M blk/\blk<w.heap.size/\∀(j:Nat) (c:D),x.cells[j]?=some c->∃y,w.cell? ⟨blk,o+j,none⟩=some y/\DR w M c y
theorem DR.ref_dat {w:World}{M:Nat->Prop}{x:D}{off:Nat}{v:Value}(h:DR w M (.ref x off) v):∃blk o,v=.pointer (some ⟨blk,o+off,none⟩)/\DAt w M blk o x:=by
 cases h with
 | ref _ _ blk o ys d b e h=>exact⟨blk,o,rfl,d,b,fun j c a=>⟨ys j,e j c a,h j c a⟩⟩
theorem DAt.ref {w:World}{M:Nat->Prop}{blk o:Nat}{x:D}(h:DAt w M blk o x)(off:Nat):DR w M (.ref x off) (.pointer (some ⟨blk,o+off,none⟩)):=by
 obtain⟨d,e,f⟩:=h;have a:∀j:Nat,∃y:Value,∀c,x.cells[j]?=some c->w.cell? ⟨blk,o+j,none⟩=some y/\DR w M c y:=by
  intro j;cases hc:x.cells[j]? with
  | none=>exact⟨undef,fun c h=>by cases h⟩
  | some c =>
   obtain⟨y,g⟩:=f j c hc;exact⟨y,fun i h=>by cases h;exact g⟩
 exact .ref x off blk o (fun j=>Classical.choose (a j)) d e (fun j c b=>(Classical.choose_spec (a j) c b).1) (fun j c b=>(Classical.choose_spec (a j) c b).2)
def GAt (w:World)(M:Nat->Prop)(g:Nat)(x:D):Prop :=
 DAt w M g 0 x/\∃cs t fz,w.heap[g]?=some (.cells cs t fz)/\cs.size=x.cells.length
inductive VR (w:World) (M:Nat->Prop) (hp:List (Nat×Blk)) (ρ:Nat->Value):AV->Value->Prop
 | d (x:D) (y:Value) (h:DR w M x y):VR w M hp ρ (.d x) y
 | agg (cs:List AV) (ys:List Value) (hl:cs.length=ys.length)
   (h:∀(i:Nat) (c:AV) (y:Value),cs[i]?=some c->ys[i]?=some y->VR w M hp ρ c y):VR w M hp ρ (.agg cs) (.agg ys.toArray)
 | tup (cs:List AV) (ys:List Value) (hl:cs.length=ys.length)
   (h:∀(i:Nat) (c:AV) (y:Value),cs[i]?=some c->ys[i]?=some y->VR w M hp ρ c y):VR w M hp ρ (.tup cs) (.tuple ys.toArray)
 | dptr (x:D) (off blk o:Nat) (h:DAt w M blk o x):VR w M hp ρ (.dptr x off) (.pointer (some ⟨blk,o+off,none⟩))
 | ptr (b ver sz i off:Nat) (k:Blk) (y:Value) (hb:look hp b=some k) (hv:ver<=k.ver) (ho:one y=true)
   (h:ver=k.ver->∃r,QX (ρ b)=some r/\y=.pointer (some ⟨r,i*sz+off,none⟩)):VR w M hp ρ (.ptr b ver sz i off) y
 | own (b ver:Nat) (k:Blk) (y:Value) (hb:look hp b=some k) (hv:ver<=k.ver) (ho:one y=true) (h:ver=k.ver->y=ρ b):VR w M hp ρ (.own b ver) y
 | sub (b ver sz lo n:Nat) (k:Blk) (y:Value) (hb:look hp b=some k) (hv:ver<=k.ver) (ho:one y=true)
   (h:ver=k.ver->∃r c,QX (ρ b)=some r/\y=.slice (some ⟨r,lo*sz,none⟩) n c):VR w M hp ρ (.sub b ver sz lo n) y
 | fn (f:Fn) (a b:List AV) (xs ys:List Value) (hl:a.length=xs.length) (hm:b.length=ys.length)
   (h:∀(i:Nat) (c:AV) (y:Value),a[i]?=some c->xs[i]?=some y->VR w M hp ρ c y)
   (k:∀(i:Nat) (c:AV) (y:Value),b[i]?=some c->ys[i]?=some y->VR w M hp ρ c y):VR w M hp ρ (.fn f a b) (.func f xs.toArray ys.toArray)
 | junk (y:Value):VR w M hp ρ .junk y
def Mut (hp:List (Nat×Blk))(ρ:Nat->Value)(r:Nat):Prop:=∃b k,look hp b=some k/\k.live=true/\QX (ρ b)=some r
def MR (w:World)(M:Nat->Prop):jVj->List MapEntry->Prop
 | [],[]=>True
 | d::ds,e::l=>(∃x,d=.tup [.v e.key,x]/\DR w M x e.val)/\MR w M ds l
 | _,_=>False
theorem MR.vals {w:World}{M:Nat->Prop}:∀{es:jVj} {l:List MapEntry},MR w M es l->∃vs:jVj,es.length=l.length/\vs.length=l.length /\
  (∀(i:Nat) (e:MapEntry) (x:D),l[i]?=some e->vs[i]?=some x->es[i]?=some (.tup [.v e.key,x]))/\∀(i:Nat) (e:MapEntry) (x:D),l[i]?=some e->vs[i]?=some x->DR w M x e.val
 | [],[],_=>⟨[],rfl,rfl,fun i e x h=>by simp at h,fun i e x h=>by simp at h⟩
 | d::es,e0::l,h=>by
  obtain⟨⟨x,rfl,m⟩,c⟩:=h;obtain⟨vs,f,g,j,k⟩:=MR.vals c;refine⟨x::vs,by simp[f],by simp[g],fun i e y a b=>?_,fun i e y a b=>?_⟩
  ·cases i with
   | zero =>
    simp only[jzj,jIj] at a b ⊢;subst a;subst b;rfl
   | succ i =>
    simp only[List.getElem?_cons_succ] at a b ⊢;exact j i e y a b
  ·cases i with
   | zero =>
    simp only[jzj,jIj] at a b;subst a;subst b;exact m
   | succ i =>
    simp only[List.getElem?_cons_succ] at a b;exact k i e y a b
 | [],_::_,h=>h.elim
 | _::_,[],h=>h.elim
theorem MR.of_vals {w:World}{M:Nat->Prop}:∀{es vs:jVj} {l:List MapEntry},es.length=l.length->vs.length=l.length ->
  (∀(i:Nat) (e:MapEntry) (x:D),l[i]?=some e->vs[i]?=some x->es[i]?=some (.tup [.v e.key,x]))->(∀(i:Nat) (e:MapEntry) (x:D),l[i]?=some e->vs[i]?=some x->DR w M x e.val)->MR w M es l
 | [],_,[],_,_,_,_=>trivial
 | d::es,v::vs,e::l,h1,h2,h3,h4=>by refine⟨⟨v,?_,h4 0 e v rfl rfl⟩,MR.of_vals (vs:=vs) (by simpa using h1) (by simpa using h2) (fun i a x b c=>by simpa using h3 (i+1) a x (by simpa using b) (by simpa using c)) (fun i a x b c=>h4 (i+1) a x (by simpa using b) (by simpa using c))⟩;simpa using h3 0 e v rfl rfl
 | [],_,_::_,h,_,_,_=>by simp at h
 | _::_,_,[],h,_,_,_=>by simp at h
 | _::_,[],_::_,_,h,_,_=>by simp at h
theorem MR.imp {w:World}{M M' : Nat->Prop}(a:∀(d:D) (v:Value),DR w M d v->DR w M' d v):∀{es:jVj} {l:List MapEntry},MR w M es l->MR w M' es l
 | [],[],_=>trivial
 | _::_,_::_,h=>by obtain⟨⟨x,e,c⟩,b⟩:=h;exact⟨⟨x,e,a _ _ c⟩,MR.imp a b⟩
 | [],_::_,h=>h.elim
 | _::_,[],h=>h.elim
theorem MR.dr {w:World}{M:Nat->Prop}{es:jVj}{r:Nat}{es' : Array MapEntry}{c:Nat}(h:MR w M es es'.toList)(g:¬M r)(a:w.heap[r]?=some (.map es' c)):DR w M (.mp es) (.map (some r)):=by obtain⟨vs,b,d,e,f⟩:=h.vals;exact .mp es vs r es' c g (Array.getElem?_eq_some_iff.1 a).1 a b d e f
theorem DR.mr {w:World}{M:Nat->Prop}{es:jVj}{v:Value}(h:DR w M (.mp es) v):∃r es' c,v=.map (some r)/\w.heap[r]?=some (.map es' c)/\MR w M es es'.toList:=by
 cases h with
 | mp _ vs r es' c i g f a b d e=>exact⟨r,es',c,rfl,f,MR.of_vals a b d e⟩
def QiG (l:List MapEntry)(c:Nat):Prop:=(∀x,x∈l->x.born<c)/\(l.map (·.born)).Nodup
def MRB (w:World)(M:Nat->Prop)(es:jVj)(l:List MapEntry)(c:Nat):Prop:=MR w M es l/\QiG l c
def ItR (w:World)(M:Nat->Prop)(r p:Nat):It->Prop
 | .str s=>w.heap[r]?=some (.stringIter s p)
 | .mp v n=>∃a es c seen,w.heap[r]?=some (.mapIter (some a) c seen c)/\¬M a/\w.heap[a]?=some (.map es c)/\QiG es.toList c/\(∀x,x∈es.toList->x.val=v) /\
   (es.filter fun e=>!seen.contains e.born).size=p/\(p<n->∃e,e∈es.toList/\seen.back?=some e.born)
theorem ItR.obj {w:World}{M:Nat->Prop}{r p:Nat}{i:It}(h:ItR w M r p i):∃o,w.heap[r]?=some o/\((∃s q,o=.stringIter s q)\/∃m a s b,o=.mapIter m a s b):=by
 cases i with
 | str s=>exact⟨_,h,.inl ⟨s,p,rfl⟩⟩
 | mp v n =>
  obtain⟨e,es,c,seen,d,_⟩:=h;exact⟨_,d,.inr ⟨_,_,_,_,rfl⟩⟩
theorem ItR.ext {w w' : World}{M M' : Nat->Prop}{r p:Nat}{i:It}(h:ItR w M r p i)(f:w'.heap[r]?=w.heap[r]?)(hc:∀q,q<w.heap.size->¬M q->w'.heap[q]?=w.heap[q]?)(l:∀q,q<w.heap.size->M' q->M q):ItR w' M' r p i:=by
 cases i with
 | str s=>exact f.trans h
 | mp v n =>
  obtain⟨a,es,c,seen,g,e,d,j⟩:=h;have b:a<w.heap.size:=by
   obtain h|h:=Nat.lt_or_ge a w.heap.size
   ·exact h
   ·rw[Array.getElem?_eq_none h] at d;cases d
  exact⟨a,es,c,seen,f.trans g,fun k=>e (l a b k),(hc a b e).trans d,j⟩
def wh:Ex->Code
 | .normal=>.skip
 | .exit id=>.exit id
 | .ret=>.ret
def BlkR (w:World)(M:Nat->Prop)(hp:List (Nat×Blk))(ρ:Nat->Value)(b:Nat):Blk->Prop
 | .box x=>∃r e v cs,ρ b=.pointer (some ⟨r,0,none⟩)/\w.heap[r]?=some (.cells v.cells e (0,0))/\x.cells=some cs/\VR w M hp ρ x v
 | .row _ sz es=>(es=[]/\∃a,ρ b=.slice a 0 0)\/∃r c e cap,ρ b=.slice (some ⟨r,0,none⟩) es.length cap/\(es.length<=cap/\0<cap)/\cap*sz<=c.size/\w.heap[r]?=some (.cells c e (0,0)) /\
   (∀(i:Nat) (d:D),es[i]?=some d->d.cells.length=sz) /\
   ∀(i:Nat) (d:D) (j:Nat) (a:D),es[i]?=some d->d.cells[j]?=some a->∃y,c[i*sz+j]?=some y/\one y=true/\DR w M a y
 | .frozen _ sz es=>DR w M (.lst false sz es) (ρ b)
 | .virt _ sz es=>DR w M (.lst true sz es) (ρ b)
 | .loop rdy tm ps as bd nt=>∃l f,ρ b=.func (.yield l) #[] #[]/\w.heap[l]?=some (.loop f)/\f.state=(if rdy then .ready else .busy)/\f.pending=none/\f.params.toList=ps/\f.assign=as/\f.body=bd /\
   f.tmps.size=nt/\∀(t:Nat) (x:AV),look tm t=some x->VR w M hp ρ x (f.tmps.getD t undef)
 | .mp es=>∃r es' c,ρ b=.map (some r)/\w.heap[r]?=some (.map es' c)/\MRB w M es es'.toList c
 | .it s p=>∃r,ρ b=.pointer (some ⟨r,0,none⟩)/\ItR w M r p s
 | .fbox x=>∃r,ρ b=.pointer (some ⟨r,0,none⟩)/\DAt w M r 0 x
 | .left e=>∃l f,ρ b=.func (.yield l) #[] #[]/\w.heap[l]?=some (.loop f)/\f.state=.done/\f.pending=some (wh e)
 | .dead=>True
def MM (F:Nat->Prop)(hp:List (Nat×Blk))(ρ:Nat->Value)(r:Nat):Prop:=F r\/Mut hp ρ r
structure HSim (cx:Cx) (F:Nat->Prop) (hp:List (Nat×Blk)) (ρ:Nat->Value) (w:World):Prop where
 blk:∀b k,look hp b=some k->BlkR w (MM F hp ρ) hp ρ b k
 inj:∀b b' k k' r,look hp b=some k->look hp b'=some k'->k.live=true->k'.live=true->QX (ρ b)=some r->QX (ρ b')=some r->b=b'
 forb:∀r,Mut hp ρ r->¬F r
 bnd:∀r,F r->r<w.heap.size
 glob:∀g x,cx.G g=some x->GAt w (MM F hp ρ) g x
def TSim (F:Nat->Prop)(tm:List (Nat×AV))(hp:List (Nat×Blk))(ρ:Nat->Value)(a:Act)(w:World):Prop :=
 ∀t x,look tm t=some x->VR w (MM F hp ρ) hp ρ x (a.tmps.getD t undef)
structure Sim (cx:Cx) (F:Nat->Prop) (s:St) (ρ:Nat->Value) (a:Act) (w:World):Prop where
 hs:HSim cx F s.hp ρ w
 ts:TSim F s.tm s.hp ρ a w
 nt:a.tmps.size=s.nt
class DrawMode where
 on:Bool
variable [DrawMode]
structure Ext (w:World) (M:Nat->Prop) (w' : World):Prop where
 drawn:DrawMode.on=true->w.drawn<=w'.drawn
 os:w'.os=w.os
 tape:w'.tape=w.tape
 output:w'.output=w.output
 size:w.heap.size<=w'.heap.size
 same:∀r,r<w.heap.size->¬M r->w'.heap[r]?=w.heap[r]?
def Computes (cx:Cx)(f:FuncId)(a:jVj)(r:D):Prop :=
 ∀(w:World) (F:Nat->Prop) (vs:List Value),(∀r,F r->r<w.heap.size)->(∀g x,cx.G g=some x->GAt w F g x) ->
  a.length=vs.length->(∀(i:Nat) (c:D) (y:Value),a[i]?=some c->vs[i]?=some y->DR w F c y) ->
  Calls cx.P f vs.toArray w fun e w'=>∃y,e=.returned y/\DR w' F r y/\Ext w (fun _=>False) w'
def QbO (cx:Cx)(f:FuncId)(a:jVj)(sz:Nat)(L:jVj)(r:AV):Prop :=
 ∀(w:World) (F:Nat->Prop) (vs:List Value),(∀r,F r->r<w.heap.size)->(∀g x,cx.G g=some x->GAt w F g x) ->
  a.length=vs.length->(∀(i:Nat) (c:D) (y:Value),a[i]?=some c->vs[i]?=some y->DR w F c y) ->
  Calls cx.P f vs.toArray w fun e w'=>∃y ρ',e=.returned y/\HSim cx F [(0,.row 0 sz L)] ρ' w'/\VR w' (MM F [(0,.row 0 sz L)] ρ') [(0,.row 0 sz L)] ρ' r y /\
   Ext w (fun _=>False) w'/\∀q,Mut [(0,.row 0 sz L)] ρ' q->w.heap.size<=q
def G8:Nat->List OC->List AV
 | _,[]=>[]
 | i,.dat x::l=>.d x::G8 (i+1) l
 | i,.row _ _::l=>.own i 0::G8 (i+1) l
def J9:Nat->List OC->List (Nat×Blk)
 | _,[]=>[]
 | i,.dat _::l=>J9 (i+1) l
 | i,.row sz es::l=>(i,.row 0 sz es)::J9 (i+1) l
def Zx (cs:List OC):List (Nat×Blk):=(0,.box (AV.norm (.agg (G8 1 cs))))::J9 1 cs
def Yo:Option (List OC)->List (Nat×Blk)
 | none=>[]
 | some cs=>Zx cs
def ComputesO (cx:Cx)(f:FuncId)(a:List AV)(i:Option (List OC))(r:AV)(cs:List OC)(ks:List Bool):Prop :=
 ∀(w:World) (F:Nat->Prop) (ρ:Nat->Value) (vs:List Value),HSim cx F (Yo i) ρ w->a.length=vs.length ->
  (∀(k:Nat) (c:AV) (y:Value),a[k]?=some c->vs[k]?=some y->VR w (MM F (Yo i) ρ) (Yo i) ρ c y) ->
  Calls cx.P f vs.toArray w fun e w'=>∃y ρ',e=.returned y/\HSim cx F (Zx cs) ρ' w'/\VR w' (MM F (Zx cs) ρ') (Zx cs) ρ' r y /\
   Ext w (Mut (Yo i) ρ) w'/\(∀q,q<w.heap.size->Mut (Zx cs) ρ' q->Mut (Yo i) ρ q)/\(i.isSome=true->ρ' 0=ρ 0/\∀(j sz:Nat) (es:jVj),ks[j]?=some true->cs[j]?=some (.row sz es)->ρ' (j+1)=ρ (j+1))
theorem Ext.refl (w:World)(M:Nat->Prop):Ext w M w:=⟨fun _=>jLj _,rfl,rfl,rfl,jLj _,fun _ _ _=>rfl⟩
theorem Ext.trans {a b c:World}{M N:Nat->Prop}(h:Ext a M b)(k:Ext b N c)(f:∀r,r<a.heap.size->N r->M r):Ext a M c :=
 ⟨fun q=>Nat.le_trans (h.drawn q) (k.drawn q),k.os.trans h.os,k.tape.trans h.tape,k.output.trans h.output,Nat.le_trans h.size k.size,fun r d e =>
  (k.same r (Nat.lt_of_lt_of_le d h.size) fun g=>e (f r d g)).trans (h.same r d e)⟩
theorem Ext.mono {a b:World}{M N:Nat->Prop}(h:Ext a M b)(c:∀r,M r->N r):Ext a N b :=
 ⟨h.drawn,h.os,h.tape,h.output,h.size,fun r f e=>h.same r f fun d=>e (c r d)⟩
theorem Ext.cell {w w' : World}{M:Nat->Prop}(h:Ext w M w'){p:Addr}(hp:p.block<w.heap.size)(a:¬M p.block):w'.cell? p=w.cell? p:=by have:=h.same p.block hp a;unfold World.cell?;rw[this]
theorem DR.ext {w w' : World}{M M' : Nat->Prop}(t:w.heap.size<=w'.heap.size)(hc:∀r,r<w.heap.size->¬M r->w'.heap[r]?=w.heap[r]?)
  (s:∀r,r<w.heap.size->M' r->M r) {x:D} {y:Value} (h:DR w M x y):DR w' M' x y:=by
 induction h with
 | v x=>exact .v x
 | agg cs ys hl h ih=>exact .agg cs ys hl ih
 | tup cs ys hl h ih=>exact .tup cs ys hl ih
 | lst full sz es a cap blk off ys hf hcp ha hsz hw h ih =>
  refine .lst full sz es a cap blk off ys hf hcp ?_ hsz ?_ ih
  ·intro m;obtain⟨g,d,n⟩:=ha m;exact⟨g,fun l=>d (s _ n l),Nat.lt_of_lt_of_le n t⟩
  ·intro i e j c u p;have m:es≠[]:=by rintro rfl;simp at u
   obtain⟨g,d,n⟩:=ha m;obtain⟨this,A⟩:=hw i e j c u p;refine⟨?_,A⟩;unfold World.cell? at this ⊢;simp only at this ⊢;rw[hc _ n d];exact this
 | fn f a b xs ys hl l h k ih ik=>exact .fn f a b xs ys hl l ih ik
 | ref x off blk o ys g d hw h ih =>
  refine .ref x off blk o ys (fun q=>g (s _ d q)) (Nat.lt_of_lt_of_le d t) (fun j c z=>?_) ih;have:=hw j c z;unfold World.cell? at this ⊢;simp only at this ⊢;rw[hc _ d g];exact this
 | nan k b h=>exact .nan k b h
 | mp es vs r es' c g d hw hl hv hk h ih=>exact .mp es vs r es' c (fun q=>g (s _ d q)) (Nat.lt_of_lt_of_le d t) ((hc _ d g).trans hw) hl hv hk ih
theorem MR.ext {w w' : World}{M M' : Nat->Prop}(b:w.heap.size<=w'.heap.size)(hc:∀r,r<w.heap.size->¬M r->w'.heap[r]?=w.heap[r]?)
  (a:∀r,r<w.heap.size->M' r->M r):∀{es:jVj} {l:List MapEntry},MR w M es l->MR w' M' es l
 | [],[],_=>trivial
 | _::_,_::_,h=>by obtain⟨⟨x,e,d⟩,c⟩:=h;exact⟨⟨x,e,d.ext b hc a⟩,MR.ext b hc a c⟩
 | [],_::_,h=>h.elim
 | _::_,[],h=>h.elim
theorem MRB.ext {w w' : World}{M M' : Nat->Prop}{es:jVj}{l:List MapEntry}{c:Nat}(h:MRB w M es l c)(b:w.heap.size<=w'.heap.size)(hc:∀r,r<w.heap.size->¬M r->w'.heap[r]?=w.heap[r]?)
  (a:∀r,r<w.heap.size->M' r->M r):MRB w' M' es l c:=⟨MR.ext b hc a h.1,h.2⟩
theorem DAt.ext {w w' : World}{M M' : Nat->Prop}(f:w.heap.size<=w'.heap.size)(hc:∀r,r<w.heap.size->¬M r->w'.heap[r]?=w.heap[r]?)
  (e:∀r,r<w.heap.size->M' r->M r) {blk o:Nat} {x:D} (h:DAt w M blk o x):DAt w' M' blk o x:=by
 obtain⟨d,a,g⟩:=h;refine⟨fun h=>d (e _ a h),Nat.lt_of_lt_of_le a f,fun j c k=>?_⟩;obtain⟨y,b,i⟩:=g j c k;refine⟨y,?_,i.ext f hc e⟩;unfold World.cell? at b ⊢;simp only at b ⊢;rw[hc _ a d];exact b
theorem GAt.ext {w w' : World}{M M' : Nat->Prop}(e:w.heap.size<=w'.heap.size)(hc:∀r,r<w.heap.size->¬M r->w'.heap[r]?=w.heap[r]?)
  (d:∀r,r<w.heap.size->M' r->M r) {g:Nat} {x:D} (h:GAt w M g x):GAt w' M' g x:=by
 obtain⟨a,cs,t,fz,b,c⟩:=h;exact⟨a.ext e hc d,cs,t,fz,(hc _ a.2.1 a.1).trans b,c⟩
structure Grows (hp hp' : List (Nat×Blk)) (ρ ρ' : Nat->Value):Prop where
 dom:∀b k,look hp b=some k->∃k',look hp' b=some k'/\k.ver<=k'.ver/\(k.ver=k'.ver->ρ' b=ρ b)
theorem VR.ext {w w' : World}{M M' : Nat->Prop}{hp p : List (Nat×Blk)}{ρ ρ' : Nat->Value}(z:w.heap.size<=w'.heap.size)
  (hc:∀r,r<w.heap.size->¬M r->w'.heap[r]?=w.heap[r]?) (v:∀r,r<w.heap.size->M' r->M r) (q:Grows hp p ρ ρ')
  {x:AV} {y:Value} (h:VR w M hp ρ x y):VR w' M' p ρ' x y:=by
 induction h with
 | d x y h=>exact .d x y (h.ext z hc v)
 | agg cs ys hl h ih=>exact .agg cs ys hl ih
 | tup cs ys hl h ih=>exact .tup cs ys hl ih
 | dptr x off blk o h=>exact .dptr x off blk o (h.ext z hc v)
 | ptr b ver sz i off k y hb hv ho h =>
  obtain⟨m,g,l,e⟩:=q.dom b k hb;refine .ptr b ver sz i off m y g (Nat.le_trans hv l) ho fun u=>?_;have j:k.ver=m.ver:=by omega
  obtain⟨r,s,t⟩:=h (by omega);exact⟨r,by rw[e j];exact s,t⟩
 | own b ver k y hb hv ho h =>
  obtain⟨m,g,l,e⟩:=q.dom b k hb;refine .own b ver m y g (Nat.le_trans hv l) ho fun u=>?_;have j:k.ver=m.ver:=by omega
  rw[e j];exact h (by omega)
 | sub b ver sz lo n k y hb hv ho h =>
  obtain⟨m,g,l,e⟩:=q.dom b k hb;refine .sub b ver sz lo n m y g (Nat.le_trans hv l) ho fun u=>?_;have j:k.ver=m.ver:=by omega
  obtain⟨r,c,s,t⟩:=h (by omega);exact⟨r,c,by rw[e j];exact s,t⟩
 | fn f a b xs ys hl hm' h k ih ik=>exact .fn f a b xs ys hl hm' ih ik
 | junk y=>exact .junk y
theorem Grows.refl (hp:List (Nat×Blk))(ρ:Nat->Value):Grows hp hp ρ ρ:=⟨fun _ k h=>⟨k,h,jLj _,fun _=>rfl⟩⟩
theorem Grows.trans {e f g:List (Nat×Blk)}{h i j:Nat->Value}(a:Grows e f h i)(b:Grows f g i j):Grows e g h j :=
 ⟨fun n k o=>by obtain⟨p,c,l2,l⟩:=a.dom n k o;obtain⟨q,d,r,m⟩:=b.dom n p c;exact⟨q,d,Nat.le_trans l2 r,fun s=>by rw[m (by omega),l (by omega)]⟩⟩
theorem Qf {a:Type}(b:Nat)(x:a)(l:List (Nat×a)):look ((b,x)::l) b=some x:=by have:Nat.beq b b=true:=Nat.beq_refl b;simp only[look,this]
theorem Qc {a:Type}{b t:Nat}(x:a)(l:List (Nat×a))(h:b≠t):look ((b,x)::l) t=look l t:=by
 have:Nat.beq b t=false:=by
  cases hb:Nat.beq b t with
  | false=>rfl
  | true=>exact absurd (jqj hb) h
 simp only[look,this]
theorem WH {a:Type}(l m:List (Nat×a))(t:Nat):look (l++m) t=match look l t with|some x=>some x|none=>look m t:=by
 induction l with
 | nil=>rfl
 | cons p l ih =>
  obtain⟨k,x⟩:=p;by_cases h:k=t
  ·subst h;simp[Qf]
  ·rw[List.cons_append,Qc _ _ h,Qc _ _ h,ih]
structure Steps1 (hp:List (Nat×Blk)) (ρ:Nat->Value) (w:World) (hp' : List (Nat×Blk)) (ρ' : Nat->Value) (w' : World):Prop where
 ext:Ext w (Mut hp ρ) w'
 mt:∀r,r<w.heap.size->Mut hp' ρ' r->Mut hp ρ r
 grow:Grows hp hp' ρ ρ'
theorem Steps1.refl (hp:List (Nat×Blk))(ρ:Nat->Value)(w:World):Steps1 hp ρ w hp ρ w:=⟨Ext.refl _ _,fun _ _ h=>h,Grows.refl _ _⟩
theorem Steps1.trans {e f g:List (Nat×Blk)}{h i j:Nat->Value}{k l m:World}(a:Steps1 e h k f i l)(b:Steps1 f i l g j m):Steps1 e h k g j m :=
 ⟨a.ext.trans b.ext fun r c d=>a.mt r c d,fun r c d=>a.mt r c (b.mt r (Nat.lt_of_lt_of_le c a.ext.size) d),a.grow.trans b.grow⟩
theorem Steps1.vr {F:Nat->Prop}{hp a : List (Nat×Blk)}{ρ ρ' : Nat->Value}{w w' : World}(h:Steps1 hp ρ w a ρ' w'){x:AV}{y:Value}
  (d:VR w (MM F hp ρ) hp ρ x y):VR w' (MM F a ρ') a ρ' x y :=
 d.ext h.ext.size (fun r c b=>h.ext.same r c fun k=>b (.inr k)) (fun r c b=>b.imp id (h.mt r c)) h.grow
theorem Steps1.dr {F:Nat->Prop}{hp a : List (Nat×Blk)}{ρ ρ' : Nat->Value}{w w' : World}(h:Steps1 hp ρ w a ρ' w'){x:D}{y:Value}
  (d:DR w (MM F hp ρ) x y):DR w' (MM F a ρ') x y :=
 d.ext h.ext.size (fun r c b=>h.ext.same r c fun k=>b (.inr k)) (fun r c b=>b.imp id (h.mt r c))
theorem Steps1.dat {F:Nat->Prop}{hp a : List (Nat×Blk)}{ρ ρ' : Nat->Value}{w w' : World}(h:Steps1 hp ρ w a ρ' w'){b o:Nat}{x:D}
  (e:DAt w (MM F hp ρ) b o x):DAt w' (MM F a ρ') b o x :=
 e.ext h.ext.size (fun r d c=>h.ext.same r d fun k=>c (.inr k)) (fun r d c=>c.imp id (h.mt r d))
theorem Steps1.gat {F:Nat->Prop}{hp a : List (Nat×Blk)}{ρ ρ' : Nat->Value}{w w' : World}(h:Steps1 hp ρ w a ρ' w'){g:Nat}{x:D}
  (d:GAt w (MM F hp ρ) g x):GAt w' (MM F a ρ') g x :=
 d.ext h.ext.size (fun r c b=>h.ext.same r c fun k=>b (.inr k)) (fun r c b=>b.imp id (h.mt r c))
theorem BlkR.ext {w w' : World}{M M' : Nat->Prop}{hp A : List (Nat×Blk)}{ρ ρ' : Nat->Value}(u:w.heap.size<=w'.heap.size)
  (hc:∀r,r<w.heap.size->¬M r->w'.heap[r]?=w.heap[r]?) (o:∀r,r<w.heap.size->M' r->M r) (H:Grows hp A ρ ρ')
  {b:Nat} {k:Blk} (g:ρ' b=ρ b) (z:k.live=true->∀r,QX (ρ b)=some r->w'.heap[r]?=w.heap[r]?) (h:BlkR w M hp ρ b k):BlkR w' M' A ρ' b k:=by
 cases k with
 | box x =>
  obtain⟨r,e,v,cs,f,m,n,q⟩:=h;exact⟨r,e,v,cs,g.trans f,(z rfl r (by rw[f];rfl)).trans m,n,q.ext u hc o H⟩
 | row ver sz es =>
  obtain⟨f,a,m⟩|⟨r,c,e,cap,f,m,n,q,E,F⟩:=h
  ·exact .inl ⟨f,a,g.trans m⟩
  refine .inr ⟨r,c,e,cap,g.trans f,m,n,(z rfl r (by rw[f];exact Q8 m.2)).trans q,E,fun i d j a N O=>?_⟩;obtain⟨y,T,P,Q⟩:=F i d j a N O;exact⟨y,T,P,Q.ext u hc o⟩
 | frozen ver sz es=>show DR w' M' _ (ρ' b);rw[g];exact DR.ext u hc o h
 | virt ver sz es=>show DR w' M' _ (ρ' b);rw[g];exact DR.ext u hc o h
 | loop rdy tm ps as bd nt =>
  obtain⟨l,G,f,n,q,E,F,J,K,L,C⟩:=h;exact⟨l,G,g.trans f,(z rfl l (by rw[f];rfl)).trans n,q,E,F,J,K,L,fun t x S=>(C t x S).ext u hc o H⟩
 | mp es =>
  obtain⟨r,es',c,f,m,n⟩:=h;exact⟨r,es',c,g.trans f,(z rfl r (by rw[f];rfl)).trans m,n.ext u hc o⟩
 | it s p =>
  obtain⟨r,f,m⟩:=h;exact⟨r,g.trans f,m.ext (z rfl r (by rw[f];rfl)) hc o⟩
 | fbox x =>
  obtain⟨r,f,m⟩:=h;exact⟨r,g.trans f,m.ext u hc o⟩
 | left e =>
  obtain⟨l,G,f,n,q⟩:=h;exact⟨l,G,g.trans f,(z rfl l (by rw[f];rfl)).trans n,q⟩
 | dead=>trivial
theorem HSim.step {cx:Cx}{F:Nat->Prop}{hp hp' : List (Nat×Blk)}{ρ ρ' : Nat->Value}{w w' : World}(h:HSim cx F hp ρ w)(st:Steps1 hp ρ w hp' ρ' w')
  (hb:∀b k,look hp' b=some k->(look hp b=some k/\ρ' b=ρ b/\(k.live=true->∀r,QX (ρ b)=some r->w'.heap[r]?=w.heap[r]?))\/BlkR w' (MM F hp' ρ') hp' ρ' b k)
  (inj:∀b b' k k' r,look hp' b=some k->look hp' b'=some k'->k.live=true->k'.live=true->QX (ρ' b)=some r->QX (ρ' b')=some r->b=b')
  (forb:∀r,Mut hp' ρ' r->¬F r):HSim cx F hp' ρ' w' where
 blk b k hk:=by
  obtain⟨h1,h2,h3⟩|h1:=hb b k hk
  ·exact(h.blk b k h1).ext st.ext.size (fun r hr hm=>st.ext.same r hr fun k=>hm (.inr k)) (fun r hr hm=>hm.imp id (st.mt r hr)) st.grow h2 h3
  ·exact h1
 inj:=inj
 forb:=forb
 bnd r hr:=Nat.lt_of_lt_of_le (h.bnd r hr) st.ext.size
 glob g x hx:=st.gat (h.glob g x hx)
def VI (ρ:Nat->Value)(b:Nat)(v:Value):Nat->Value:=fun n=>if n=b then v else ρ n
theorem Qx (ρ:Nat->Value)(b:Nat)(v:Value):VI ρ b v b=v:=by simp[VI]
theorem QL (ρ:Nat->Value){b n:Nat}(v:Value)(h:n≠b):VI ρ b v n=ρ n:=by simp[VI,h]
theorem BlkR.root_lt {w:World}{M:Nat->Prop}{hp:List (Nat×Blk)}{ρ:Nat->Value}{b:Nat}{k:Blk}(h:BlkR w M hp ρ b k)(m:k.live=true){r:Nat}
  (d:QX (ρ b)=some r):r<w.heap.size:=by
 cases k with
 | box x =>
  obtain⟨i,e,v,cs,g,f,_⟩:=h;rw[g] at d;simp only[QX,jIj] at d;subst d;obtain h|h:=Nat.lt_or_ge i w.heap.size
  ·exact h
  ·rw[Array.getElem?_eq_none h] at f;cases f
 | row ver sz es =>
  obtain⟨_,a,f⟩|⟨i,c,e,cap,g,j,_,f,_⟩:=h
  ·rw[f,WG] at d;cases d
  rw[g,Q8 j.2] at d;simp only[jIj] at d;subst d;obtain h|h:=Nat.lt_or_ge i w.heap.size
  ·exact h
  ·rw[Array.getElem?_eq_none h] at f;cases f
 | frozen ver sz es=>cases m
 | virt ver sz es=>cases m
 | loop rdy tm ps as bd nt =>
  obtain⟨l,q,g,f,_⟩:=h;rw[g] at d;simp only[QX,jIj] at d;subst d;obtain h|h:=Nat.lt_or_ge l w.heap.size
  ·exact h
  ·rw[Array.getElem?_eq_none h] at f;cases f
 | fbox _=>cases m
 | left e =>
  obtain⟨l,q,g,f,_⟩:=h;rw[g] at d;simp only[QX,jIj] at d;subst d;obtain h|h:=Nat.lt_or_ge l w.heap.size
  ·exact h
  ·rw[Array.getElem?_eq_none h] at f;cases f
 | mp es =>
  obtain⟨i,es',c,g,f,_⟩:=h;rw[g] at d;simp only[QX,jIj] at d;subst d;obtain h|h:=Nat.lt_or_ge i w.heap.size
  ·exact h
  ·rw[Array.getElem?_eq_none h] at f;cases f
 | it s p =>
  obtain⟨i,g,n⟩:=h;obtain⟨o,f,_⟩:=n.obj;rw[g] at d;simp only[QX,jIj] at d;subst d;obtain h|h:=Nat.lt_or_ge i w.heap.size
  ·exact h
  ·rw[Array.getElem?_eq_none h] at f;cases f
 | dead=>cases m
theorem HSim.mut_lt {cx:Cx}{F:Nat->Prop}{hp:List (Nat×Blk)}{ρ:Nat->Value}{w:World}(h:HSim cx F hp ρ w){r:Nat}(a:Mut hp ρ r):r<w.heap.size:=by obtain⟨b,k,c,d,a⟩:=a;exact(h.blk b k c).root_lt d a
theorem Ext.alloc (w:World)(M:Nat->Prop)(o:Obj):Ext w M (w.alloc o) :=
 ⟨fun _=>jLj _,rfl,rfl,rfl,by simp,fun r a _=>by show(w.heap.push o)[r]?=_;rw[Array.getElem?_push,jFj (by omega)]⟩
theorem Ext.drew (w:World)(M:Nat->Prop):Ext w M w.drew:=⟨fun _=>Nat.le_succ _,rfl,rfl,rfl,jLj _,fun _ _ _=>rfl⟩
theorem Z2 (w:World)(o:Obj):(w.alloc o).heap[w.heap.size]?=some o:=by show(w.heap.push o)[w.heap.size]?=_;simp
theorem HSim.freshO {cx:Cx}{F:Nat->Prop}{hp:List (Nat×Blk)}{ρ:Nat->Value}{w:World}(h:HSim cx F hp ρ w){b:Nat}{k:Blk}{v:Value}(o:Obj)
  (s:∀r,QX v=some r->r=w.heap.size) (i:∀k0,look hp b=some k0->k0.ver<k.ver)
  (C:∀(f:Steps1 hp ρ w ((b,k)::hp) (VI ρ b v) (w.alloc o)),BlkR (w.alloc o) (MM F ((b,k)::hp) (VI ρ b v)) ((b,k)::hp) (VI ρ b v) b k) :
  HSim cx F ((b,k)::hp) (VI ρ b v) (w.alloc o)/\Steps1 hp ρ w ((b,k)::hp) (VI ρ b v) (w.alloc o):=by
 have g:∀r,Mut ((b,k)::hp) (VI ρ b v) r->r=w.heap.size\/Mut hp ρ r:=by
  rintro r ⟨n,t,c,p,e⟩;by_cases a:n=b
  ·subst a;rw[Qx] at e;exact .inl (s _ e)
  ·rw[Qc _ _ (Ne.symm a)] at c;rw[QL _ _ a] at e;exact .inr ⟨n,t,c,p,e⟩
 have f:Steps1 hp ρ w ((b,k)::hp) (VI ρ b v) (w.alloc o):=by
  refine⟨Ext.alloc _ _ _,fun r e p=>?_,⟨fun n k0 c=>?_⟩⟩
  ·obtain h|h:=g r p
   ·omega
   ·exact h
  ·by_cases a:n=b
   ·subst a;exact⟨k,Qf _ _ _,Nat.le_of_lt (i k0 c),fun H=>by have:=i k0 c;omega⟩
   ·exact⟨k0,by rw[Qc _ _ (Ne.symm a)];exact c,jLj _,fun _=>QL _ _ a⟩
 refine⟨h.step f (fun n t c=>?_) (fun n u k1 y r j q z A l m=>?_) (fun r e x=>?_),f⟩
 ·by_cases a:n=b
  ·subst a;rw[Qf] at c;cases c;exact .inr (C f)
  ·rw[Qc _ _ (Ne.symm a)] at c;refine .inl ⟨c,QL _ _ a,fun p r e=>?_⟩;have:=(h.blk n t c).root_lt p e;show(w.heap.push _)[r]?=_;rw[Array.getElem?_push,jFj (by omega)]
 ·by_cases c:n=b<;>by_cases d : u=b
  ·rw[c,d]
  ·subst c;rw[Qx] at l;have E:=s _ l;rw[Qc _ _ (Ne.symm d)] at q;rw[QL _ _ d] at m;have:=(h.blk u y q).root_lt A m;omega
  ·subst d;rw[Qx] at m;have G:=s _ m;rw[Qc _ _ (Ne.symm c)] at j;rw[QL _ _ c] at l;have:=(h.blk n k1 j).root_lt z l;omega
  ·rw[Qc _ _ (Ne.symm c)] at j;rw[QL _ _ c] at l;rw[Qc _ _ (Ne.symm d)] at q;rw[QL _ _ d] at m;exact h.inj n u k1 y r j q z A l m
 ·obtain j|j:=g r e
  ·have:=h.bnd r x;omega
  ·exact h.forb r j x
theorem HSim.fresh {cx:Cx}{F:Nat->Prop}{hp:List (Nat×Blk)}{ρ:Nat->Value}{w:World}(h:HSim cx F hp ρ w){b:Nat}{k:Blk}{v:Value}(c:Array Value)(e:TypeId)
  (g:∀r,QX v=some r->r=w.heap.size) (a:∀k0,look hp b=some k0->k0.ver<k.ver)
  (d:∀(f:Steps1 hp ρ w ((b,k)::hp) (VI ρ b v) (w.alloc (.cells c e))),BlkR (w.alloc (.cells c e)) (MM F ((b,k)::hp) (VI ρ b v)) ((b,k)::hp) (VI ρ b v) b k) :
  HSim cx F ((b,k)::hp) (VI ρ b v) (w.alloc (.cells c e))/\Steps1 hp ρ w ((b,k)::hp) (VI ρ b v) (w.alloc (.cells c e)):=h.freshO (.cells c e) g a d
theorem HSim.write {cx:Cx}{F:Nat->Prop}{hp:List (Nat×Blk)}{ρ:Nat->Value}{w w' : World}(h:HSim cx F hp ρ w){b:Nat}{k0 k:Blk}{v:Value}{r:Nat}
  (p:look hp b=some k0) (j:k0.live=true) (t:QX (ρ b)=some r) (z:QX v=some r) (m:k0.ver<k.ver\/(k0.ver=k.ver/\v=ρ b))
  (A:Ext w (fun n=>n=r) w')
  (N:∀(e:Steps1 hp ρ w ((b,k)::hp) (VI ρ b v) w'),BlkR w' (MM F ((b,k)::hp) (VI ρ b v)) ((b,k)::hp) (VI ρ b v) b k) :
  HSim cx F ((b,k)::hp) (VI ρ b v) w'/\Steps1 hp ρ w ((b,k)::hp) (VI ρ b v) w':=by
 have l:Mut hp ρ r:=⟨b,k0,p,j,t⟩
 have i:∀q,Mut ((b,k)::hp) (VI ρ b v) q->Mut hp ρ q:=by
  rintro q ⟨n,s,c,g,d⟩;by_cases a:n=b
  ·subst a;rw[Qx,z] at d;cases d;exact l
  ·rw[Qc _ _ (Ne.symm a)] at c;rw[QL _ _ a] at d;exact⟨n,s,c,g,d⟩
 have e:Steps1 hp ρ w ((b,k)::hp) (VI ρ b v) w':=by
  refine⟨A.mono fun q d=>by rw[d];exact l,fun q _ g=>i q g,⟨fun n k1 c=>?_⟩⟩;by_cases a:n=b
  ·subst a;rw[p] at c;cases c;refine⟨k,Qf _ _ _,by omega,fun y=>?_⟩;obtain O|⟨_,u⟩:=m
   ·omega
   ·rw[Qx];exact u
  ·exact⟨k1,by rw[Qc _ _ (Ne.symm a)];exact c,jLj _,fun _=>QL _ _ a⟩
 refine⟨h.step e (fun n s c=>?_) (fun n C k1 P q L M Q S T U=>?_) (fun q d=>h.forb q (i q d)),e⟩
 ·by_cases a:n=b
  ·subst a;rw[Qf] at c;cases c;exact .inr (N e)
  ·rw[Qc _ _ (Ne.symm a)] at c;refine .inl ⟨c,QL _ _ a,fun g q d=>?_⟩;exact A.same q ((h.blk n s c).root_lt g d) fun y=>a (h.inj n b s k0 r c p g j (by rw[<-y];exact d) t)
 ·have o:∀n k1 q,look ((b,k)::hp) n=some k1->k1.live=true->QX (VI ρ b v n)=some q->∃f,look hp n=some f/\f.live=true/\QX (ρ n)=some q:=by
   intro n k1 q c g d;by_cases a:n=b
   ·subst a;rw[Qx,z] at d;cases d;exact⟨k0,p,j,t⟩
   ·rw[Qc _ _ (Ne.symm a)] at c;rw[QL _ _ a] at d;exact⟨k1,c,g,d⟩
  obtain⟨f,E,G,H⟩:=o n k1 q L Q T;obtain⟨x,b1,J,K⟩:=o C P q M S U;exact h.inj n C f x q E b1 G J H K
theorem HSim.freeze1 {cx:Cx}{F:Nat->Prop}{hp:List (Nat×Blk)}{ρ:Nat->Value}{w:World}(h:HSim cx F hp ρ w){b ver sz:Nat}{es:jVj}
  (u:look hp b=some (.row ver sz es)) :
  HSim cx F ((b,.frozen ver sz es)::hp) ρ w/\Steps1 hp ρ w ((b,.frozen ver sz es)::hp) ρ w/\DR w (MM F ((b,.frozen ver sz es)::hp) ρ) (.lst false sz es) (ρ b):=by
 have m:∀q,Mut ((b,.frozen ver sz es)::hp) ρ q->∃n k,n≠b/\look hp n=some k/\k.live=true/\QX (ρ n)=some q:=by
  rintro q ⟨n,L,g,t,J⟩;by_cases f:n=b
  ·subst f;rw[Qf] at g;cases g;cases t
  ·rw[Qc _ _ (Ne.symm f)] at g;exact⟨n,L,f,g,t,J⟩
 have s:Steps1 hp ρ w ((b,.frozen ver sz es)::hp) ρ w:=by
  refine⟨Ext.refl _ _,fun q _ t=>?_,⟨fun n k1 g=>?_⟩⟩
  ·obtain⟨n,k,_,o,p,A⟩:=m q t;exact⟨n,k,o,p,A⟩
  ·by_cases f:n=b
   ·subst f;rw[u] at g;cases g;exact⟨_,Qf _ _ _,jLj _,fun _=>rfl⟩
   ·exact⟨k1,by rw[Qc _ _ (Ne.symm f)];exact g,jLj _,fun _=>rfl⟩
 have x:DR w (MM F ((b,.frozen ver sz es)::hp) ρ) (.lst false sz es) (ρ b):=by
  obtain⟨o,a,p⟩|⟨r,c,e,cap,o,⟨p,v⟩,A,U,V,K⟩:=h.blk b _ u
  ·rw[o,p];exact .lst false sz [] a 0 0 0 (fun _=>undef) (fun h=>by cases h) (jLj _) (fun h=>absurd rfl h) (fun i e h=>by simp at h) (fun i e j c h=>by simp at h) (fun i e j c h=>by simp at h)
  have l:QX (ρ b)=some r:=by rw[o];exact Q8 v
  have H:r<w.heap.size:=(h.blk b _ u).root_lt rfl l;rw[o];refine .lst false sz es _ cap r 0 (fun n=>c.getD n undef) (fun h=>by cases h) p (fun _=>⟨rfl,?_,H⟩) V ?_ ?_
  ·rintro(W|X)
   ·exact h.forb r ⟨b,_,u,rfl,l⟩ W
   ·obtain⟨n,k,f,Q,S,T⟩:=m r X;exact f (h.inj n b k _ r Q u S rfl T l)
  ·intro i d j a G E;obtain⟨y,C,Z,_⟩:=K i d j a G E;have Y:c.getD (i*sz+j) undef=y:=by simp[Array.getD_eq_getD_getElem?,C]
   simp only[Y];refine⟨?_,Z⟩;simp only[World.cell?,U,Nat.zero_add,Option.isSome_none];simp[C]
  ·intro i d j a G E;obtain⟨y,C,_,hv⟩:=K i d j a G E;have:c.getD (i*sz+j) undef=y:=by simp[Array.getD_eq_getD_getElem?,C]
   show DR w _ a (c.getD (i*sz+j) undef);rw[this];exact s.dr hv
 refine⟨h.step s (fun n L g=>?_) (fun n P k1 M q o p N O r1 r2=>?_) (fun q J=>?_),s,x⟩
 ·by_cases f:n=b
  ·subst f;rw[Qf] at g;cases g;exact .inr x
  ·rw[Qc _ _ (Ne.symm f)] at g;exact .inl ⟨g,rfl,fun _ _ _=>rfl⟩
 ·have z:∀n k1,look ((b,Blk.frozen ver sz es)::hp) n=some k1->k1.live=true->look hp n=some k1:=by
   intro n k1 g t;by_cases f:n=b
   ·subst f;rw[Qf] at g;cases g;cases t
   ·rw[Qc _ _ (Ne.symm f)] at g;exact g
  exact h.inj n P k1 M q (z n k1 o N) (z P M p O) N O r1 r2
 ·obtain⟨n,k,_,o,p,A⟩:=m q J;exact h.forb q ⟨n,k,o,p,A⟩
theorem HSim.renew {cx:Cx}{F:Nat->Prop}{hp:List (Nat×Blk)}{ρ:Nat->Value}{w:World}(h:HSim cx F hp ρ w){b ver sz:Nat}{a:Option Addr}
  (u:look hp b=some (.row ver sz [])) (k:ρ b=.slice a 0 0) :
  HSim cx F ((b,.row (ver+1) sz [])::hp) (VI ρ b (.slice a 0 0)) w/\Steps1 hp ρ w ((b,.row (ver+1) sz [])::hp) (VI ρ b (.slice a 0 0)) w:=by
 have i:∀n,VI ρ b (.slice a 0 0) n=ρ n:=by
  intro n;by_cases c:n=b
  ·subst c;rw[Qx,k]
  ·rw[QL _ _ c]
 have e:∀q,Mut ((b,.row (ver+1) sz [])::hp) (VI ρ b (.slice a 0 0)) q->Mut hp ρ q:=by
  rintro q ⟨n,s,c,o,f⟩;rw[i] at f;by_cases d:n=b
  ·subst d;rw[k,WG] at f;cases f
  ·rw[Qc _ _ (Ne.symm d)] at c;exact⟨n,s,c,o,f⟩
 have j:Steps1 hp ρ w ((b,.row (ver+1) sz [])::hp) (VI ρ b (.slice a 0 0)) w:=by
  refine⟨Ext.refl _ _,fun q _ o=>e q o,⟨fun n k1 c=>?_⟩⟩;by_cases d:n=b
  ·subst d;rw[u] at c;cases c;exact⟨_,Qf _ _ _,Nat.le_succ _,fun _=>i _⟩
  ·exact⟨k1,by rw[Qc _ _ (Ne.symm d)];exact c,jLj _,fun _=>i _⟩
 refine⟨h.step j (fun n s c=>?_) (fun n t k1 v q p r x y l m=>?_) (fun q f=>h.forb q (e q f)),j⟩
 ·by_cases d:n=b
  ·subst d;rw[Qf] at c;cases c;exact .inr (.inl ⟨rfl,a,Qx _ _ _⟩)
  ·rw[Qc _ _ (Ne.symm d)] at c;exact .inl ⟨c,i _,fun _ _ _=>rfl⟩
 ·rw[i] at l m;by_cases c:n=b
  ·subst c;rw[k,WG] at l;cases l
  ·by_cases g : t=b
   ·subst g;rw[k,WG] at m;cases m
   ·rw[Qc _ _ (Ne.symm c)] at p;rw[Qc _ _ (Ne.symm g)] at r;exact h.inj n t k1 v q p r x y l m
theorem W6 {cx:Cx}{F:Nat->Prop}{hp a : List (Nat×Blk)}{ρ:Nat->Value}{w:World}(c:∀b,look a b=look hp b)(h:HSim cx F hp ρ w) :
  HSim cx F a ρ w/\Steps1 hp ρ w a ρ w:=by
 have f:Steps1 hp ρ w a ρ w :=
  ⟨Ext.refl _ _,fun r _ ⟨b,k,d,e,g⟩=>⟨b,k,(c b) ▸ d,e,g⟩,⟨fun b k i=>⟨k,(c b).trans i,jLj _,fun _=>rfl⟩⟩⟩
 exact⟨h.step f (fun b k i=>.inl ⟨(c b) ▸ i,rfl,fun _ _ _=>rfl⟩) (fun b j k l r d e=>h.inj b j k l r ((c b) ▸ d) ((c j) ▸ e))
  (fun r ⟨b,k,d,e,g⟩=>h.forb r ⟨b,k,(c b) ▸ d,e,g⟩),f⟩
mutual
theorem QaZ (w:World)(M:Nat->Prop):∀(x:D) (v v' : Value),x.toV=some v'->DR w M x v->v=v'
 | .v x,v,v',h,hr=>by simp only[D.toV,jIj] at h;subst h;cases hr;rfl
 | .agg cs,v,v',h,hr=>by
  simp only[D.toV] at h;split at h<;>simp only[jIj,reduceCtorEq] at h;rename_i l hl;subst h;cases hr with
  | agg _ ys hle hh=>rw[zJ w M cs ys l hl hle hh]
 | .tup cs,v,v',h,hr=>by
  simp only[D.toV] at h;split at h<;>simp only[jIj,reduceCtorEq] at h;rename_i l hl;subst h;cases hr with
  | tup _ ys hle hh=>rw[zJ w M cs ys l hl hle hh]
 | .lst _ _ _,v,v',h,hr=>by simp[D.toV] at h
 | .fn _ _ _,v,v',h,hr=>by simp[D.toV] at h
theorem zJ (w:World)(M:Nat->Prop):∀(cs:jVj) (ys l:List Value),toVs cs=some l->cs.length=ys.length ->
  (∀(i:Nat) (c:D) (y:Value),cs[i]?=some c->ys[i]?=some y->DR w M c y)->ys=l
 | [],ys,l,h,hl,_=>by simp only[toVs,jIj] at h;subst h;cases ys<;>simp_all
 | x::cs,ys,l,h,hl,hh=>by
  simp only[toVs] at h;split at h<;>simp only[jIj,reduceCtorEq] at h;rename_i y1 l1 h1 h2;subst h;cases ys with
  | nil=>simp at hl
  | cons y ys =>
   rw[QaZ w M x y y1 h1 (hh 0 x y rfl rfl),zJ w M cs ys l1 h2 (by simpa using hl) (fun i c z hc hz=>hh (i+1) c z (by simpa using hc) (by simpa using hz))]
end
mutual
theorem Ku (w:World)(M:Nat->Prop)(hp:List (Nat×Blk))(ρ:Nat->Value):∀(x:AV) (v:Value) (y:D),x.toD=some y->VR w M hp ρ x v->DR w M y v
 | .d x,v,y,h,hr=>by simp only[AV.toD,jIj] at h;subst h;cases hr;assumption
 | .agg cs,v,y,h,hr=>by
  simp only[AV.toD] at h;split at h<;>simp only[jIj,reduceCtorEq] at h;rename_i l hl;subst h;cases hr with
  | agg _ ys hle hh =>
   obtain⟨h1,h2⟩:=J0 w M hp ρ cs ys l hl hle hh;exact .agg _ _ h1 h2
 | .tup cs,v,y,h,hr=>by
  simp only[AV.toD] at h;split at h<;>simp only[jIj,reduceCtorEq] at h;rename_i l hl;subst h;cases hr with
  | tup _ ys hle hh =>
   obtain⟨h1,h2⟩:=J0 w M hp ρ cs ys l hl hle hh;exact .tup _ _ h1 h2
 | .fn f a b,v,y,h,hr=>by
  simp only[AV.toD] at h;split at h<;>simp only[jIj,reduceCtorEq] at h;rename_i x1 y1 hx hy;subst h;cases hr with
  | fn _ _ _ xs ys hl hm hh kk =>
   obtain⟨h1,h2⟩:=J0 w M hp ρ a xs x1 hx hl hh;obtain⟨h3,h4⟩:=J0 w M hp ρ b ys y1 hy hm kk;exact .fn _ _ _ _ _ h1 h3 h2 h4
 | .dptr _ _,v,y,h,hr=>by simp[AV.toD] at h
 | .ptr _ _ _ _ _,v,y,h,hr=>by simp[AV.toD] at h
 | .own _ _,v,y,h,hr=>by simp[AV.toD] at h
 | .sub _ _ _ _ _,v,y,h,hr=>by simp[AV.toD] at h
 | .junk,v,y,h,hr=>by simp[AV.toD] at h
theorem J0 (w:World)(M:Nat->Prop)(hp:List (Nat×Blk))(ρ:Nat->Value):∀(cs:List AV) (ys:List Value) (l:jVj),Ju cs=some l->cs.length=ys.length ->
  (∀(i:Nat) (c:AV) (y:Value),cs[i]?=some c->ys[i]?=some y->VR w M hp ρ c y) ->
  l.length=ys.length/\∀(i:Nat) (c:D) (y:Value),l[i]?=some c->ys[i]?=some y->DR w M c y
 | [],ys,l,h,hl,_=>by simp only[Ju,jIj] at h;subst h;cases ys<;>simp_all
 | x::cs,ys,l,h,hl,hh=>by
  simp only[Ju] at h;split at h<;>simp only[jIj,reduceCtorEq] at h;rename_i y1 l1 h1 h2;subst h;cases ys with
  | nil=>simp at hl
  | cons y ys =>
   obtain⟨g1,g2⟩:=J0 w M hp ρ cs ys l1 h2 (by simpa using hl) (fun i c z hc hz=>hh (i+1) c z (by simpa using hc) (by simpa using hz));refine⟨by simpa using g1,fun i c z hc hz=>?_⟩;cases i with
   | zero=>simp only[jzj,jIj] at hc hz;subst hc;subst hz;exact Ku w M hp ρ x y y1 h1 (hh 0 x y rfl rfl)
   | succ i=>exact g2 i c z (by simpa using hc) (by simpa using hz)
end
theorem Ug {w:World}{M:Nat->Prop}{hp:List (Nat×Blk)}{ρ:Nat->Value}{x:AV}{v:Value}(h:VR w M hp ρ x v):VR w M hp ρ x.norm v:=by
 unfold AV.norm;split
 ·rename_i y a;exact .d _ _ (Ku w M hp ρ x v y a h)
 ·exact h
theorem JZ {w:World}{M:Nat->Prop}{hp:List (Nat×Blk)}{ρ:Nat->Value}{x:AV}{v b : Value}(a:x.toV=some b)(h:VR w M hp ρ x v):v=b:=by
 unfold AV.toV at a;split at a
 ·rename_i y c;exact QaZ w M y v b a (Ku w M hp ρ x v y c h)
 ·cases a
theorem qS (w:World)(M:Nat->Prop)(v:Value):DR w M (J8 v) v:=by
 cases v with
 | slice a n c =>
  cases a with
  | none =>
   simp only[J8];split
   ·rename_i d;simp only[jAj] at d;have e:=jqj d.1;have g:=jqj d.2;subst e;subst g;exact .lst true 0 [] none 0 0 0 (fun _=>undef) (fun _=>rfl) (jLj _) (fun h=>absurd rfl h) (by simp) (by simp) (by simp)
   ·exact .v _
  | some a=>exact .v _
 | func f a b =>
  simp only[J8];split
  ·rename_i i d;have e:a=#[]:=by simpa using i
   have g:b=#[]:=by simpa using d
   subst e;subst g;exact .fn f [] [] [] [] rfl rfl (by simp) (by simp)
  ·exact .v _
 | _=>exact .v _
theorem QhK (w:World)(M:Nat->Prop)(v:Value):DR w M (ofV v) v:=by
 unfold ofV;split
 ·rename_i cs;have:=DR.agg (w:=w) (M:=M) (cs.toList.map J8) cs.toList (by simp) (fun i c y hc a=>by simp only[List.getElem?_map] at hc;rw[a] at hc;simp only[Option.map_some,jIj] at hc;subst hc;exact qS _ _ _)
  simpa using this
 ·exact qS _ _ _
theorem G7 (w:World)(M:Nat->Prop)(hp:List (Nat×Blk))(ρ:Nat->Value)(v:Value):VR w M hp ρ (.d (ofV v)) v:=.d _ _ (QhK w M v)
theorem uk {x:AV}{p:D×Bool}(h:refB (.box x)=some p):x.toD=some p.1/\fzOk p.1=true/\p.2=true:=by
 simp only[refB] at h;split at h;case h_2=>cases h
 rename_i y b;split at h;case h_2=>cases h
 rename_i a;simp only[jIj] at h;subst h;exact⟨b,a,rfl⟩
theorem Qjq {w:World}{M:Nat->Prop}{hp:List (Nat×Blk)}{ρ:Nat->Value}{b:Nat}{x:AV}{y:D}(h:BlkR w M hp ρ b (.box x))(t:x.toD=some y)(n:fzOk y=true) :
  ∃r,ρ b=.pointer (some ⟨r,0,none⟩)/\∀(j:Nat) (c:D),y.cells[j]?=some c->∃z,w.cell? ⟨r,0+j,none⟩=some z/\DR w M c z:=by
 obtain⟨r,e,v,cs,p,q,u,s⟩:=h;have m:=Ku w M hp ρ x v y t s;have a:∀k,w.cell? ⟨r,k,none⟩=v.cells[k]?:=fun k=>by simp[World.cell?,q]
 refine⟨r,p,fun j c d=>?_⟩;rw[Nat.zero_add,a];have single:∀(hc:v.cells=#[v]) (o:y.cells=[y]),∃z,v.cells[j]?=some z/\DR w M c z:=by
  intro hc o;rw[o] at d;cases j with
  | zero =>
   simp only[jzj,jIj] at d;subst d;exact⟨v,by rw[hc];rfl,m⟩
  | succ j=>simp at d
 cases m with
 | v =>
  have:v.cells=#[v]:=by have i : one v=true:=n;cases v<;>first|rfl|cases i
  exact single this rfl
 | agg l ys hl hh =>
  have f : l[j]?=some c:=d;have g:j<ys.length:=by rw[<-hl];exact(jGj f).1
  exact⟨ys[j],by simp[Value.cells,g],hh j c _ f (by simp[g])⟩
 | tup=>cases n
 | lst=>exact single rfl rfl
 | fn=>exact single rfl rfl
 | ref=>exact single rfl rfl
 | nan=>exact single rfl rfl
 | mp=>exact single rfl rfl
theorem HSim.box_fz {cx:Cx}{F:Nat->Prop}{hp:List (Nat×Blk)}{ρ:Nat->Value}{w:World}(h:HSim cx F hp ρ w){b:Nat}{x:AV}{y:D}(o:look hp b=some (.box x))(v:x.toD=some y)(Q:fzOk y=true) :
  HSim cx F ((b,.fbox y)::hp) ρ w/\Steps1 hp ρ w ((b,.fbox y)::hp) ρ w:=by
 have f:∀q,Mut ((b,.fbox y)::hp) ρ q->∃n k,n≠b/\look hp n=some k/\k.live=true/\QX (ρ n)=some q:=by
  rintro q ⟨n,C,d,m,u⟩;by_cases a:n=b
  ·subst a;rw[Qf] at d;cases d;cases m
  ·rw[Qc _ _ (Ne.symm a)] at d;exact⟨n,C,a,d,m,u⟩
 have l:Steps1 hp ρ w ((b,.fbox y)::hp) ρ w:=by
  refine⟨Ext.refl _ _,fun q _ m=>?_,⟨fun n k1 d=>?_⟩⟩
  ·obtain⟨n,k,_,g,i,s⟩:=f q m;exact⟨n,k,g,i,s⟩
  ·by_cases a:n=b
   ·subst a;rw[o] at d;cases d;exact⟨_,Qf _ _ _,jLj _,fun _=>rfl⟩
   ·exact⟨k1,by rw[Qc _ _ (Ne.symm a)];exact d,jLj _,fun _=>rfl⟩
 have N:BlkR w (MM F ((b,.fbox y)::hp) ρ) ((b,.fbox y)::hp) ρ b (.fbox y):=by
  obtain⟨r,g,i⟩:=Qjq (h.blk b _ o) v Q;have e:QX (ρ b)=some r:=by rw[g];rfl
  have t:r<w.heap.size:=(h.blk b _ o).root_lt rfl e;refine⟨r,g,?_,t,fun j c S=>?_⟩
  ·rintro(O|P)
   ·exact h.forb r ⟨b,_,o,rfl,e⟩ O
   ·obtain⟨n,k,a,K,L,M⟩:=f r P;exact a (h.inj n b k _ r K o L rfl M e)
  ·obtain⟨z,T,A⟩:=i j c S;exact⟨z,T,l.dr A⟩
 refine⟨h.step l (fun n C d=>?_) (fun n J k1 E q g i G H U V=>?_) (fun q u=>?_),l⟩
 ·by_cases a:n=b
  ·subst a;rw[Qf] at d;cases d;exact .inr N
  ·rw[Qc _ _ (Ne.symm a)] at d;exact .inl ⟨d,rfl,fun _ _ _=>rfl⟩
 ·have p:∀n k1,look ((b,Blk.fbox y)::hp) n=some k1->k1.live=true->look hp n=some k1:=by
   intro n k1 d m;by_cases a:n=b
   ·subst a;rw[Qf] at d;cases d;cases m
   ·rw[Qc _ _ (Ne.symm a)] at d;exact d
  exact h.inj n J k1 E q (p n k1 g G) (p J E i H) G H U V
 ·obtain⟨n,k,_,g,i,s⟩:=f q u;exact h.forb q ⟨n,k,g,i,s⟩
theorem HSim.kill {cx:Cx}{F:Nat->Prop}{hp:List (Nat×Blk)}{ρ:Nat->Value}{w:World}(h:HSim cx F hp ρ w){b:Nat}{es:jVj}(o:look hp b=some (.mp es)) :
  HSim cx F ((b,.dead)::hp) ρ w/\Steps1 hp ρ w ((b,.dead)::hp) ρ w/\∀r,QX (ρ b)=some r->¬MM F ((b,.dead)::hp) ρ r:=by
 have d:∀q,Mut ((b,.dead)::hp) ρ q->∃n k,n≠b/\look hp n=some k/\k.live=true/\QX (ρ n)=some q:=by
  rintro q ⟨n,s,c,f,p⟩;by_cases a:n=b
  ·subst a;rw[Qf] at c;cases c;cases f
  ·rw[Qc _ _ (Ne.symm a)] at c;exact⟨n,s,a,c,f,p⟩
 have j:Steps1 hp ρ w ((b,.dead)::hp) ρ w:=by
  refine⟨Ext.refl _ _,fun q _ f=>?_,⟨fun n k1 c=>?_⟩⟩
  ·obtain⟨n,k,_,g,i,m⟩:=d q f;exact⟨n,k,g,i,m⟩
  ·by_cases a:n=b
   ·subst a;rw[o] at c;cases c;exact⟨_,Qf _ _ _,jLj _,fun _=>rfl⟩
   ·exact⟨k1,by rw[Qc _ _ (Ne.symm a)];exact c,jLj _,fun _=>rfl⟩
 refine⟨h.step j (fun n s c=>?_) (fun n x k1 t q g i u v G H=>?_) (fun q p=>?_),j,?_⟩
 ·by_cases a:n=b
  ·subst a;rw[Qf] at c;cases c;exact .inr trivial
  ·rw[Qc _ _ (Ne.symm a)] at c;exact .inl ⟨c,rfl,fun _ _ _=>rfl⟩
 ·have l:∀n k1,look ((b,Blk.dead)::hp) n=some k1->k1.live=true->look hp n=some k1:=by
   intro n k1 c f;by_cases a:n=b
   ·subst a;rw[Qf] at c;cases c;cases f
   ·rw[Qc _ _ (Ne.symm a)] at c;exact c
  exact h.inj n x k1 t q (l n k1 g u) (l x t i v) u v G H
 ·obtain⟨n,k,_,g,i,m⟩:=d q p;exact h.forb q ⟨n,k,g,i,m⟩
 ·rintro r e (C|E)
  ·exact h.forb r ⟨b,_,o,rfl,e⟩ C
  ·obtain⟨n,k,a,y,z,A⟩:=d r E;exact a (h.inj n b k _ r y o z rfl A e)
theorem Wo (hp:List (Nat×Blk))(l:List Nat)(b:Nat):look (Qd hp l++hp) b=look hp b \/
  (∃ver sz es,look hp b=some (.row ver sz es)/\look (Qd hp l++hp) b=some (.frozen ver sz es)) \/
  (b∈l/\∃x y,look hp b=some (.box x)/\x.toD=some y/\fzOk y=true/\look (Qd hp l++hp) b=some (.fbox y)) \/
  (∃es,look hp b=some (.mp es)/\look (Qd hp l++hp) b=some .dead):=by
 induction l with
 | nil=>exact .inl rfl
 | cons c l ih =>
  have a : look (Qd hp l++hp) b=look hp b\/(∃ver sz es,look hp b=some (.row ver sz es)/\look (Qd hp l++hp) b=some (.frozen ver sz es)) \/
    (b∈c::l/\∃x y,look hp b=some (.box x)/\x.toD=some y/\fzOk y=true/\look (Qd hp l++hp) b=some (.fbox y))\/(∃es,look hp b=some (.mp es)/\look (Qd hp l++hp) b=some .dead):=by
   obtain h|h|⟨h,d⟩|h:=ih
   ·exact .inl h
   ·exact .inr (.inl h)
   ·exact .inr (.inr (.inl ⟨jmj _ h,d⟩))
   ·exact .inr (.inr (.inr h))
  simp only[Qd];split
  ·rename_i ver sz es hc;rw[List.cons_append];by_cases h:c=b
   ·subst h;exact .inr (.inl ⟨ver,sz,es,hc,Qf _ _ _⟩)
   ·rw[Qc _ _ h];exact a
  ·rename_i x hc;split
   ·rename_i y _ e;obtain⟨f,g,_⟩:=uk e;rw[List.cons_append];by_cases h:c=b
    ·subst h;exact .inr (.inr (.inl ⟨jMj,x,y,hc,f,g,Qf _ _ _⟩))
    ·rw[Qc _ _ h];exact a
   ·exact a
  ·rename_i es hc;rw[List.cons_append];by_cases h:c=b
   ·subst h;exact .inr (.inr (.inr ⟨es,hc,Qf _ _ _⟩))
   ·rw[Qc _ _ h];exact a
  ·exact a
theorem QaL (hp:List (Nat×Blk))(l:List Nat)(b:Nat)(d:b∈l){ver sz:Nat}{es:jVj}(e:look hp b=some (.row ver sz es)) :
  look (Qd hp l++hp) b=some (.frozen ver sz es):=by
 induction l with
 | nil=>simp at d
 | cons c l ih =>
  simp only[Qd];by_cases h:c=b
  ·subst h;rw[e];exact Qf _ _ _
  ·have a : b∈l:=by simpa[Ne.symm h] using d
   split
   ·rw[List.cons_append,Qc _ _ h];exact ih a
   ·split
    ·rw[List.cons_append,Qc _ _ h];exact ih a
    ·exact ih a
   ·rw[List.cons_append,Qc _ _ h];exact ih a
   ·exact ih a
theorem uQ (hp:List (Nat×Blk))(l:List Nat)(b:Nat)(e:b∈l){x:AV}{p:D×Bool}(f:look hp b=some (.box x))(d:refB (.box x)=some p) :
  look (Qd hp l++hp) b=some (.fbox p.1):=by
 induction l with
 | nil=>simp at e
 | cons c l ih =>
  simp only[Qd];by_cases h:c=b
  ·subst h;rw[f];simp only[d];exact Qf _ _ _
  ·have a : b∈l:=by simpa[Ne.symm h] using e
   split
   ·rw[List.cons_append,Qc _ _ h];exact ih a
   ·split
    ·rw[List.cons_append,Qc _ _ h];exact ih a
    ·exact ih a
   ·rw[List.cons_append,Qc _ _ h];exact ih a
   ·exact ih a
theorem uP (hp:List (Nat×Blk))(l:List Nat)(b:Nat)(d:b∈l){es:jVj}(e:look hp b=some (.mp es)):look (Qd hp l++hp) b=some .dead:=by
 induction l with
 | nil=>simp at d
 | cons c l ih =>
  simp only[Qd];by_cases h:c=b
  ·subst h;rw[e];exact Qf _ _ _
  ·have a : b∈l:=by simpa[Ne.symm h] using d
   split
   ·rw[List.cons_append,Qc _ _ h];exact ih a
   ·split
    ·rw[List.cons_append,Qc _ _ h];exact ih a
    ·exact ih a
   ·rw[List.cons_append,Qc _ _ h];exact ih a
   ·exact ih a
theorem HSim.freeze {cx:Cx}{F:Nat->Prop}{hp:List (Nat×Blk)}{ρ:Nat->Value}{w:World}(h:HSim cx F hp ρ w)(l:List Nat) :
  HSim cx F (Qd hp l++hp) ρ w/\Steps1 hp ρ w (Qd hp l++hp) ρ w:=by
 induction l with
 | nil=>exact⟨h,Steps1.refl _ _ _⟩
 | cons b l ih =>
  simp only[Qd];split
  ·rename_i ver sz es f;rw[List.cons_append];obtain⟨d,e⟩:=ih;obtain m|⟨ver',s,es',a,k⟩|⟨_,_,_,a,_⟩|⟨_,a,_⟩:=Wo hp l b
   ·have n:=m.trans f;obtain⟨g,i,_⟩:=d.freeze1 n;exact⟨g,e.trans i⟩
   ·rw[f] at a;cases a;have j:∀c,look ((b,Blk.frozen ver sz es)::(Qd hp l++hp)) c=look (Qd hp l++hp) c:=by
     intro c;by_cases hc:b=c
     ·subst hc;rw[Qf,k]
     ·rw[Qc _ _ hc]
    obtain⟨g,i⟩:=W6 j d;exact⟨g,e.trans i⟩
   ·rw[f] at a;cases a
   ·rw[f] at a;cases a
  ·rename_i x f;split
   ·rename_i y _ q;obtain⟨p,r,_⟩:=uk q;rw[List.cons_append];obtain⟨d,e⟩:=ih;obtain m|⟨_,_,_,a,_⟩|⟨_,u,v,a,o,t,k⟩|⟨_,a,_⟩:=Wo hp l b
    ·obtain⟨g,i⟩:=d.box_fz (m.trans f) p r;exact⟨g,e.trans i⟩
    ·rw[f] at a;cases a
    ·rw[f] at a;cases a;rw[p] at o;cases o;have j:∀c,look ((b,Blk.fbox y)::(Qd hp l++hp)) c=look (Qd hp l++hp) c:=by
      intro c;by_cases hc:b=c
      ·subst hc;rw[Qf,k]
      ·rw[Qc _ _ hc]
     obtain⟨g,i⟩:=W6 j d;exact⟨g,e.trans i⟩
    ·rw[f] at a;cases a
   ·exact ih
  ·rename_i es f;rw[List.cons_append];obtain⟨d,e⟩:=ih;obtain m|⟨_,_,_,a,_⟩|⟨_,_,_,a,_⟩|⟨_,a,k⟩:=Wo hp l b
   ·obtain⟨g,i,_⟩:=d.kill (m.trans f);exact⟨g,e.trans i⟩
   ·rw[f] at a;cases a
   ·rw[f] at a;cases a
   ·have j:∀c,look ((b,Blk.dead)::(Qd hp l++hp)) c=look (Qd hp l++hp) c:=by
     intro c;by_cases hc:b=c
     ·subst hc;rw[Qf,k]
     ·rw[Qc _ _ hc]
    obtain⟨g,i⟩:=W6 j d;exact⟨g,e.trans i⟩
  ·exact ih
theorem HSim.map_dat {cx:Cx}{F:Nat->Prop}{hp:List (Nat×Blk)}{ρ:Nat->Value}{w:World}(h:HSim cx F hp ρ w)(fz:List Nat){b:Nat}{es:jVj}(f:look hp b=some (.mp es))(y:b∈fz) :
  DR w (MM F (Qd hp fz++hp) ρ) (.mp es) (ρ b):=by
 obtain⟨z,m⟩:=h.freeze fz;obtain⟨r,es',c,o,t,u⟩:=h.blk b _ f;have a:QX (ρ b)=some r:=by rw[o];rfl
 have p:=uP hp fz b y f;rw[o];refine MR.dr (u.1.imp fun d v j=>m.dr j) ?_ t;rintro(x|⟨n,k,e,i,s⟩)
 ·exact h.forb r ⟨b,_,f,rfl,a⟩ x
 ·obtain q|⟨_,_,_,_,g⟩|⟨_,_,_,_,_,_,g⟩|⟨_,_,g⟩:=Wo hp fz n
  ·rw[q] at e;have l:n=b:=h.inj n b k _ r e f i rfl s a;subst l;rw[q,f] at p;cases p
  ·rw[g] at e;cases e;cases i
  ·rw[g] at e;cases e;cases i
  ·rw[g] at e;cases e;cases i
mutual
theorem Z8 {cx:Cx}{F:Nat->Prop}{hp:List (Nat×Blk)}{ρ:Nat->Value}{w:World}(h:HSim cx F hp ρ w)(fz:List Nat) :
  ∀(x:AV) (v:Value) (y:D) (fs:List Nat),x.toDH hp=some (y,fs)->(∀b,b∈fs->b∈fz)->VR w (MM F hp ρ) hp ρ x v ->
   DR w (MM F (Qd hp fz++hp) ρ) y v
 | .d x,v,y,fs,hx,_,hr=>by simp only[AV.toDH,jIj,jPj] at hx;obtain⟨rfl,rfl⟩:=hx;cases hr;rename_i hr;exact(h.freeze fz).2.dr hr
 | .agg cs,v,y,fs,hx,hf,hr=>by
  simp only[AV.toDH] at hx;split at hx<;>simp only[jIj,reduceCtorEq,jPj] at hx;rename_i l fs' hl;obtain⟨rfl,rfl⟩:=hx;cases hr with
  | agg _ ys hle hh =>
   obtain⟨h1,h2⟩:=Yv h fz cs ys l fs' hl hf hle hh;exact .agg _ _ h1 h2
 | .tup cs,v,y,fs,hx,hf,hr=>by
  simp only[AV.toDH] at hx;split at hx<;>simp only[jIj,reduceCtorEq,jPj] at hx;rename_i l fs' hl;obtain⟨rfl,rfl⟩:=hx;cases hr with
  | tup _ ys hle hh =>
   obtain⟨h1,h2⟩:=Yv h fz cs ys l fs' hl hf hle hh;exact .tup _ _ h1 h2
 | .fn f a b,v,y,fs,hx,hf,hr=>by
  simp only[AV.toDH] at hx;split at hx<;>simp only[jIj,reduceCtorEq,jPj] at hx;rename_i x1 f1 y1 f2 hx1 hy1;obtain⟨rfl,rfl⟩:=hx;cases hr with
  | fn _ _ _ xs ys hl hm hh kk =>
   obtain⟨h1,h2⟩:=Yv h fz a xs x1 f1 hx1 (fun b hb=>hf b (List.mem_append.2 (.inl hb))) hl hh;obtain⟨h3,h4⟩:=Yv h fz b ys y1 f2 hy1 (fun b hb=>hf b (List.mem_append.2 (.inr hb))) hm kk;exact .fn _ _ _ _ _ h1 h3 h2 h4
 | .own b ver,v,y,fs,hx,hf,hr=>by
  simp only[AV.toDH] at hx;have hst:=(h.freeze fz).2;have hs:=(h.freeze fz).1;cases hr with
  | own _ _ k _ hb hv ho hy =>
   rw[hb] at hx;cases k with
   | box x=>simp at hx
   | loop _ _ _ _ _ _=>simp at hx
   | mp es =>
    simp only at hx;split at hx<;>simp only[jIj,reduceCtorEq,jPj] at hx;rename_i hbeq;obtain⟨rfl,rfl⟩:=hx;rw[hy (jqj hbeq)];exact h.map_dat fz hb (hf b (by simp))
   | it _ _=>simp at hx
   | fbox _=>simp at hx
   | left _=>simp at hx
   | dead=>simp at hx
   | row ver' sz es =>
    simp only at hx;split at hx<;>simp only[jIj,reduceCtorEq,jPj] at hx;rename_i hbeq;obtain⟨rfl,rfl⟩:=hx;rw[hy (jqj hbeq)];have:=QaL hp fz b (hf b (by simp)) hb;exact hs.blk b _ this
   | frozen ver' sz es =>
    simp only at hx;split at hx<;>simp only[jIj,reduceCtorEq,jPj] at hx;rename_i hbeq;obtain⟨rfl,rfl⟩:=hx;rw[hy (jqj hbeq)];have:=h.blk b _ hb;exact hst.dr this
   | virt ver' sz es =>
    simp only at hx;split at hx<;>simp only[jIj,reduceCtorEq,jPj] at hx;rename_i hbeq;obtain⟨rfl,rfl⟩:=hx;rw[hy (jqj hbeq)];have:=h.blk b _ hb;exact hst.dr this
 | .dptr _ _,v,y,fs,hx,_,hr=>by
  simp only[AV.toDH,jIj,jPj] at hx;obtain⟨rfl,rfl⟩:=hx;cases hr with
  | dptr _ _ blk o hd=>exact((h.freeze fz).2.dat hd).ref _
 | .ptr b ver sz i off,v,y,fs,hx,hf,hr=>by
  have hst:=(h.freeze fz).2;have hs:=(h.freeze fz).1;simp only[AV.toDH] at hx;split at hx;case h_2=>cases hx
  rename_i hc;simp only[jAj] at hc;have e1:=jqj hc.1.1;have e2:=jqj hc.1.2;have e3:=jqj hc.2;subst e1;subst e2;subst e3;split at hx;case h_2=>cases hx
  rename_i k hk;cases hr with
  | ptr _ _ _ _ _ k' _ hb hv ho hh =>
   rw[hk] at hb;cases hb;split at hx
   ·rename_i x hrb;simp only[jIj,jPj] at hx;obtain⟨rfl,rfl⟩:=hx;cases k with
    | box x0 =>
     have hm:=uQ hp fz b (hf b (by simp)) hk hrb;obtain⟨r,hr1,hr2⟩:=hs.blk b _ hm;obtain⟨r',hr3,rfl⟩:=hh rfl;rw[hr1] at hr3;simp only[QX,jIj] at hr3;subst hr3;exact hr2.ref off
    | fbox x0=>simp[refB] at hrb
    | _=>simp[refB] at hrb
   ·rename_i x hrb;simp only[jIj,jPj] at hx;obtain⟨rfl,rfl⟩:=hx;cases k with
    | fbox x0 =>
     simp only[refB,jIj,jPj,and_true] at hrb;subst hrb;obtain⟨r,hr1,hr2⟩:=h.blk b _ hk;obtain⟨r',hr3,rfl⟩:=hh rfl;rw[hr1] at hr3;simp only[QX,jIj] at hr3;subst hr3;exact(hst.dat hr2).ref off
    | box x0 =>
     have:=(uk hrb).2.2;cases this
    | _=>simp[refB] at hrb
   ·cases hx
 | .sub _ _ _ _ _,v,y,fs,hx,_,hr=>by simp[AV.toDH] at hx
 | .junk,v,y,fs,hx,_,hr=>by simp[AV.toDH] at hx
theorem Yv {cx:Cx}{F:Nat->Prop}{hp:List (Nat×Blk)}{ρ:Nat->Value}{w:World}(h:HSim cx F hp ρ w)(fz:List Nat) :
  ∀(cs:List AV) (ys:List Value) (l:jVj) (fs:List Nat),Kr hp cs=some (l,fs)->(∀b,b∈fs->b∈fz)->cs.length=ys.length ->
  (∀(i:Nat) (c:AV) (y:Value),cs[i]?=some c->ys[i]?=some y->VR w (MM F hp ρ) hp ρ c y) ->
  l.length=ys.length/\∀(i:Nat) (c:D) (y:Value),l[i]?=some c->ys[i]?=some y->DR w (MM F (Qd hp fz++hp) ρ) c y
 | [],ys,l,fs,hx,_,hl,_=>by simp only[Kr,jIj,jPj] at hx;obtain⟨rfl,rfl⟩:=hx;cases ys<;>simp_all
 | x::cs,ys,l,fs,hx,hf,hl,hh=>by
  simp only[Kr] at hx;split at hx<;>simp only[jIj,reduceCtorEq,jPj] at hx;rename_i y1 f1 l1 f2 h1 h2;obtain⟨rfl,rfl⟩:=hx;cases ys with
  | nil=>simp at hl
  | cons y ys =>
   obtain⟨g1,g2⟩:=Yv h fz cs ys l1 f2 h2 (fun b hb=>hf b (List.mem_append.2 (.inr hb))) (by simpa using hl) (fun i c z hc hz=>hh (i+1) c z (by simpa using hc) (by simpa using hz));refine⟨by simpa using g1,fun i c z hc hz=>?_⟩;cases i with
   | zero =>
    simp only[jzj,jIj] at hc hz;subst hc;subst hz;exact Z8 h fz x y y1 f1 h1 (fun b hb=>hf b (List.mem_append.2 (.inl hb))) (hh 0 x y rfl rfl)
   | succ i=>exact g2 i c z (by simpa using hc) (by simpa using hz)
end
theorem ZY {a:Type}(l:List a)(i:Nat):nth l i=l[i]?:=by
 induction l generalizing i with
 | nil=>rfl
 | cons x l ih=>cases i with
  | zero=>rfl
  | succ i=>simpa[nth] using ih i
theorem VP {b:Type}{P:Program}{s:Sem b}{a:b}(h:Zu P s=some a)(w:World):s.run P w=.ok a w:=by
 induction s generalizing w with
 | pure x=>simp only[Zu,jIj] at h;subst h;rfl
 | program k ih=>simp only[Zu] at h;exact ih _ h w
 | mark m k ih=>simp only[Zu] at h;exact ih h w
 | _=>simp[Zu] at h
def OpOK (cx:Cx)(F:Nat->Prop)(hp:List (Nat×Blk))(ρ:Nat->Value)(w:World)(up:List (Nat×Blk))(x:AV)(v:Value)(w' : World):Prop :=
 ∃ρ',HSim cx F (up++hp) ρ' w'/\Steps1 hp ρ w (up++hp) ρ' w'/\VR w' (MM F (up++hp) ρ') (up++hp) ρ' x v
theorem OpOK.quiet {cx:Cx}{F:Nat->Prop}{hp:List (Nat×Blk)}{ρ:Nat->Value}{w:World}(h:HSim cx F hp ρ w){x:AV}{v:Value}(a:VR w (MM F hp ρ) hp ρ x v) :
  OpOK cx F hp ρ w [] x v w:=⟨ρ,h,Steps1.refl _ _ _,a⟩
theorem OpOK.frz {cx:Cx}{F:Nat->Prop}{hp:List (Nat×Blk)}{ρ:Nat->Value}{w:World}(h:HSim cx F hp ρ w)(a:List Nat){x:AV}{v:Value}
  (b:VR w (MM F (Qd hp a++hp) ρ) (Qd hp a++hp) ρ x v):OpOK cx F hp ρ w (Qd hp a) x v w :=
 ⟨ρ,(h.freeze a).1,(h.freeze a).2,b⟩
def Good (cx:Cx)(F:Nat->Prop)(hp:List (Nat×Blk))(ρ:Nat->Value)(w:World)(r:R)(s:Sem Next):Prop :=
 ∃v w',(s.run cx.P w=.ok (.value v) w'\/(s.run cx.P w=.ok .skip w'/\v=undef))/\OpOK cx F hp ρ w r.up r.val v w'
theorem Good.quiet {cx:Cx}{F:Nat->Prop}{hp:List (Nat×Blk)}{ρ:Nat->Value}{w:World}(h:HSim cx F hp ρ w){x:AV}{v:Value}{ob:List Prop}{orc:List Orc}{s:Sem Next}
  (a:s.run cx.P w=.ok (.value v) w) (b:VR w (MM F hp ρ) hp ρ x v):Good cx F hp ρ w { val:=x,up:=[],ob,orc } s :=
 ⟨v,w,.inl a,OpOK.quiet h b⟩
theorem Uf {v:Value}(h:one v=true):v.cells=#[v]/\v.oneCell'=true:=by cases v<;>first|exact⟨rfl,rfl⟩|cases h
theorem Jb {w:World}{M:Nat->Prop}{hp:List (Nat×Blk)}{ρ:Nat->Value}{x:AV}{v:Value}(a:x.isOne=true)(h:VR w M hp ρ x v):one v=true:=by
 cases h with
 | d x y h =>
  cases h with
  | v y=>exact a
  | agg=>cases a
  | tup=>cases a
  | lst=>rfl
  | fn=>rfl
  | ref=>rfl
  | nan=>rfl
  | mp=>rfl
 | agg=>cases a
 | tup=>cases a
 | dptr=>rfl
 | ptr _ _ _ _ _ _ _ _ _ ho=>exact ho
 | own _ _ _ _ _ _ ho=>exact ho
 | sub _ _ _ _ _ _ _ _ _ ho=>exact ho
 | fn=>rfl
 | junk=>cases a
theorem Yi {l:List AV}(h:Vw l=true){j:Nat}{a:AV}(b:l[j]?=some a):a.isOne=true:=by
 induction l generalizing j with
 | nil=>simp at b
 | cons x l ih =>
  simp only[Vw,jAj] at h;cases j with
  | zero=>simp only[jzj,jIj] at b;subst b;exact h.1
  | succ j=>exact ih h.2 (by simpa using b)
theorem Yp {w:World}{M:Nat->Prop}{hp:List (Nat×Blk)}{ρ:Nat->Value}{x:AV}{v:Value}{cs:List AV}(b:x.cells=some cs)(h:VR w M hp ρ x v) :
  v.cells.size=cs.length/\Vw cs=true/\∀(j:Nat) (a:AV),cs[j]?=some a->∃y,v.cells[j]?=some y/\VR w M hp ρ a y:=by
 have l:∀(b:(match x.isOne with|true=>some [x] | false=>none)=some cs),v.cells.size=cs.length/\Vw cs=true/\∀(j:Nat) (a:AV),cs[j]?=some a->∃y,v.cells[j]?=some y/\VR w M hp ρ a y:=by
  intro b;split at b
  ·rename_i g;simp only[jIj] at b;subst b;have n:=(Uf (Jb g h)).1;rw[n];refine⟨rfl,by simp[Vw,g],fun j a e=>?_⟩;cases j with
   | zero=>simp only[jzj,jIj] at e;subst e;exact⟨v,by simp,h⟩
   | succ j=>simp at e
  ·cases b
 unfold AV.cells at b;split at b
 ·rename_i m;split at b<;>simp only[jIj,reduceCtorEq] at b;rename_i g;subst b;cases h with
  | agg _ ys i k =>
   refine⟨by simp[Value.cells,i],g,fun j a e=>?_⟩;have f:j<ys.length:=by rw[<-i];exact(jGj e).1
   exact⟨ys[j],by simp[Value.cells,f],k j a _ e (by simp[f])⟩
 ·rename_i m;split at b<;>simp only[jIj,reduceCtorEq] at b;rename_i g;subst b;cases h with
  | d _ _ h =>
   cases h with
   | agg _ ys i k =>
    refine⟨by simp[Value.cells,i],g,fun j a e=>?_⟩;simp only[List.getElem?_map] at e;cases hc:m[j]? with
    | none=>rw[hc] at e;simp at e
    | some c =>
     rw[hc] at e;simp only[Option.map_some,jIj] at e;subst e;have f:j<ys.length:=by rw[<-i];exact(jGj hc).1
     exact⟨ys[j],by simp[Value.cells,f],.d _ _ (k j c _ hc (by simp[f]))⟩
 ·exact l b
theorem KX {x:D}{cs:List AV}(h:AV.cells (.d x)=some cs):cs=x.cells.map .d:=by
 cases x with
 | agg l =>
  simp only[AV.cells] at h;split at h<;>simp only[jIj,reduceCtorEq] at h;exact h.symm
 | _ =>
  simp only[AV.cells] at h;split at h<;>simp only[jIj,reduceCtorEq] at h;subst h;rfl
theorem Qg1 {w:World}{M:Nat->Prop}{v:Value}{l:jVj}(d:DR w M (.agg l) v)(j:Nat)(c:D)(f:(D.agg l).cells[j]?=some c) :
  ∃y,v.cells[j]?=some y/\DR w M c y:=by
 cases d with
 | agg _ ys g e =>
  have a : l[j]?=some c:=f;have b:j<ys.length:=by rw[<-g];exact(jGj a).1
  exact⟨ys[j],by simp[Value.cells,b],e j c _ a (by simp[b])⟩
theorem add_at (b o n:Nat):(⟨b,o,none⟩:Addr).add n=⟨b,o+n,none⟩:=by
 unfold Addr.add;split
 ·rename_i h;subst h;rfl
 ·rfl
theorem wy (P:Program)(w:World)(b o:Nat)(vs:List Value):∀(i:Nat) (acc:Array Value),(∀(j:Nat) (v:Value),vs[j]?=some v->w.cell? ⟨b,o+(i+j),none⟩=some v) ->
  (loadCellsFrom ⟨b,o,none⟩ i vs.length acc).run P w=.ok (acc++vs.toArray) w:=by
 induction vs with
 | nil=>intro i acc _;simp[loadCellsFrom]
 | cons v vs ih =>
  intro i acc h;have a:=h 0 v rfl;simp only[List.length_cons,loadCellsFrom,Sem.run_bind,run_load,add_at,Nat.add_zero] at a ⊢;rw[a];simp only[Result.andThen_ok];rw[ih (i+1) _ (fun j u c=>by have:=h (j+1) u (by simpa using c);rw[show i+1+j=i+(j+1) from by omega];exact this)];simp
theorem KT (P:Program)(w:World)(b o:Nat)(vs:List Value)(n:Nat)(c:n=vs.length)(h:∀(j:Nat) (v:Value),vs[j]?=some v->w.cell? ⟨b,o+j,none⟩=some v) :
  (loadCells ⟨b,o,none⟩ n).run P w=.ok vs.toArray w:=by
 subst c;unfold loadCells;rw[wy P w b o vs 0 #[] (fun j v a=>by rw[Nat.zero_add];exact h j v a)];simp
def Ky (c:Array Value)(o:Nat):List Value->Array Value
 | []=>c
 | v::vs=>Ky (c.setIfInBounds o v) (o+1) vs
theorem Ud (c:Array Value)(o:Nat)(vs:List Value):(Ky c o vs).size=c.size:=by
 induction vs generalizing c o with
 | nil=>rfl
 | cons v vs ih=>simp[Ky,ih]
theorem V8 (c:Array Value)(o:Nat)(vs:List Value)(h:o+vs.length<=c.size)(k:Nat) :
  (Ky c o vs)[k]?=if o<=k/\k<o+vs.length then vs[k - o]? else c[k]?:=by
 induction vs generalizing c o with
 | nil=>simp[Ky];intro a d;omega
 | cons v vs ih =>
  simp only[Ky];rw[ih _ _ (by simp at h ⊢;omega)];simp only[List.length_cons] at h ⊢;by_cases a:o+1<=k/\k<o+1+vs.length
  ·rw[jTj a,jTj (by omega)];rw[show k - o=(k - (o+1))+1 from by omega];simp
  ·rw[jFj a];by_cases d:k=o
   ·subst d;have b:k<c.size:=by omega
    rw[jTj (by omega)];simp[b]
   ·rw[jFj (by omega)];rw[Array.getElem?_setIfInBounds];rw[jFj (by omega)]
theorem U0 (P:Program)(b o:Nat)(vs:List Value):∀(i:Nat) (w:World) (c:Array Value) (e:TypeId),w.heap[b]?=some (.cells c e (0,0))->o+i+vs.length<=c.size ->
  (∀v,v∈vs->v.oneCell'=true) ->
  ∃w',(storeCells ⟨b,o,none⟩ vs i).run P w=.ok () w'/\w'.heap[b]?=some (.cells (Ky c (o+i) vs) e (0,0))/\Ext w (fun n=>n=b) w':=by
 induction vs with
 | nil=>intro i w c e h _ _;exact⟨w,by simp[storeCells],h,Ext.refl _ _⟩
 | cons v vs ih =>
  intro i w c e h m k;simp only[List.length_cons] at m;have d:o+i<c.size:=by omega
  have hc:w.cell? ⟨b,o+i,none⟩=some c[o+i]:=by simp[World.cell?,h,d]
  have a:w.frozen? ⟨b,o+i,none⟩=false:=by simp[World.frozen?,h]
  have g:(w.setCell ⟨b,o+i,none⟩ v).heap[b]?=some (.cells (c.setIfInBounds (o+i) v) e (0,0)):=by simp[World.setCell,Array.getElem?_modify,h]
  obtain⟨w',f,l,q⟩:=ih (i+1) (w.setCell ⟨b,o+i,none⟩ v) _ e g (by simp;omega) (fun u p=>k u (by simp[p]));refine⟨w',?_,?_,?_⟩
  ·simp only[storeCells,Sem.run_bind,add_at];rw[run_store P w _ v _ (k v (by simp)),hc,a];simp only[Bool.false_eq_true,if_false,Result.andThen_ok];exact f
  ·simp only[Ky];rw[l];rfl
  ·have j:Ext w (fun n=>n=b) (w.setCell ⟨b,o+i,none⟩ v) :=
    ⟨fun _=>jLj _,rfl,rfl,rfl,by simp,fun r _ f=>by simp only[World.setCell,Array.getElem?_modify];rw[jFj (fun h=>f h.symm)]⟩
   exact j.trans q fun r _ h=>h
theorem jy {cx:Cx}{t:TypeId}{g:Bool}(h:cx.isAgg t=some g)(w:World):(isAgg t).run cx.P w=.ok g w:=by
 unfold Cx.isAgg at h;simp only[isAgg,underlying,Sem.run_bind,run_program,Result.andThen_ok];cases hu:cx.P.underlying t with
 | none=>rw[hu] at h;simp at h
 | some d =>
  rw[hu] at h;simp only[Sem.run_pure,Result.andThen_ok];cases d<;>simp_all
theorem Q7 {cx:Cx}{t:TypeId}{n:Nat}(h:cx.sz t=some n)(w:World):(sizeOf t).run cx.P w=.ok n w:=by
 unfold Cx.sz at h;simp only[sizeOf,typeInfo,Sem.run_bind,run_program,Result.andThen_ok];cases hu:cx.P.info? t with
 | none=>rw[hu] at h;simp at h
 | some d=>rw[hu] at h;simp only[jIj] at h;subst h;simp
theorem Qk {cx:Cx}{t:TypeId}{d:TypeDesc}(h:cx.P.underlying t=some d)(w:World):(underlying t).run cx.P w=.ok d w:=by simp only[underlying,Sem.run_bind,run_program,Result.andThen_ok,h,Sem.run_pure]
theorem Y2 {cx:Cx}{t:TypeId}{z:Value}(h:cx.zero t=some z)(w:World):(zeroValue t).run cx.P w=.ok z w:=by
 unfold Cx.zero at h;simp only[zeroValue,typeInfo,Sem.run_bind,run_program,Result.andThen_ok];cases hu:cx.P.info? t with
 | none=>rw[hu] at h;simp at h
 | some d=>rw[hu] at h;simp only at h;simp[h]
theorem Jv {cx:Cx}{t:TypeId}{d:TypeInfo}(h:cx.P.info? t=some d)(w:World):(typeInfo t).run cx.P w=.ok d w:=by simp only[typeInfo,Sem.run_bind,run_program,Result.andThen_ok,h,Sem.run_pure]
theorem Qhl (l:jVj):Ju (l.map .d)=some l:=by
 induction l with
 | nil=>rfl
 | cons x l ih=>simp[Ju,AV.toD,ih]
theorem Qcj {cx:Cx}{w:World}{M:Nat->Prop}{hp:List (Nat×Blk)}{ρ:Nat->Value}{t:TypeId}{s:Nat}{g:Bool}(U:cx.sz t=some s)(O:cx.isAgg t=some g){b o off:Nat}{x y:AV}{cs:List AV}
  (r:x.cells=some cs) (hc:∀(j:Nat) (a:AV),cs[j]?=some a->∃y,w.cell? ⟨b,o+j,none⟩=some y/\VR w M hp ρ a y) (f:Jq g s off x=some y) :
  ∃v,(loadVar t ⟨b,o+off,none⟩).run cx.P w=.ok v w/\VR w M hp ρ y v:=by
 simp only[Jq,r] at f;unfold loadVar;simp only[Sem.run_bind,jy O,Result.andThen_ok];cases g with
 | false =>
  simp only at f;rw[ZY] at f;obtain⟨v,K,T⟩:=hc off y f;refine⟨v,?_,T⟩;simp only[Bool.false_eq_true,if_false,run_load,K]
 | true =>
  simp only at f;split at f;case h_2=>cases f
  rename_i J;have N : off+s<=cs.length:=Nat.le_of_ble_eq_true J;have k:∀j,j<s->∃v,w.cell? ⟨b,o+(off+j),none⟩=some v/\∀a,cs[off+j]?=some a->VR w M hp ρ a v:=by
   intro j p;have e:off+j<cs.length:=by omega
   obtain⟨v,m,n⟩:=hc (off+j) cs[off+j] (by simp[e]);exact⟨v,m,fun a z=>by simp[e] at z;subst z;exact n⟩
  let vs:List Value:=(List.range s).map fun j=>(w.cell? ⟨b,o+(off+j),none⟩).getD undef;have C:∀(j:Nat) (v:Value),vs[j]?=some v->j<s/\w.cell? ⟨b,o+(off+j),none⟩=some v:=by
   intro j v p;have e:j<s:=by have:=(jGj p).1;simpa[vs] using this
   obtain⟨u,F,_⟩:=k j e;simp[vs,e,F] at p;exact⟨e,p ▸ F⟩
  have A:=KT cx.P w b (o+off) vs s (by simp[vs]) (fun j v p=>by rw[Nat.add_assoc];exact(C j v p).2);have h:VR w M hp ρ (.agg ((cs.drop off).take s)) (.agg vs.toArray):=by refine .agg _ _ (by simp[vs];omega) fun i c v L K=>?_;obtain⟨m,n⟩:=C i v K;obtain⟨u,F,Q⟩:=k i m;rw[F] at n;cases n;apply Q;rw[List.getElem?_take,jTj m,List.getElem?_drop] at L;exact L
  refine⟨.agg vs.toArray,?_,?_⟩
  ·simp only[if_true,Sem.run_bind,Q7 U,Result.andThen_ok,A,Sem.run_map];rfl
  ·split at f
   ·rename_i E;simp only[jIj] at f;subst f;simp only[jAj] at E;have m:=jqj E.1.2;have n:=jqj E.2;have z:=E.1.1;subst m;have l:(cs.drop 0).take s=cs:=by subst n;simp
    rw[l] at h;cases x with
    | agg G =>
     simp only[AV.cells] at r;split at r<;>simp only[jIj,reduceCtorEq] at r;subst r;exact h
    | d q =>
     have H:=KX r;cases q with
     | agg G =>
      subst H;have:=Ug h;have S:AV.norm (.agg (G.map .d))=.d (.agg G):=by simp[AV.norm,AV.toD,Qhl]
      simp only[D.cells] at this;rw[S] at this;exact this
     | _=>cases z
    | _=>cases z
   ·simp only[jIj] at f;subst f;exact Ug h
theorem Z1 {a b:Nat}(h:Nat.beq a b=true):a=b:=jqj h
theorem YS {w:World}{r:Nat}{c:Array Value}{e:TypeId}{f:Nat×Nat}(h:w.heap[r]?=some (.cells c e f))(k:Nat):w.cell? ⟨r,k,none⟩=c[k]?:=by simp[World.cell?,h]
section
variable {cx:Cx}{F:Nat->Prop}{hp:List (Nat×Blk)}{ρ:Nat->Value}{w:World}{re:Operand->Value}{ev:Operand->AV}{sym:Bool}{orc:List Orc}{r:R}
theorem uA (h:HSim cx F hp ρ w){t:TypeId}{x:Value}{b ver sz i off s:Nat}{g:Bool}(hx:VR w (MM F hp ρ) hp ρ (.ptr b ver sz i off) x)
  (X:cx.sz t=some s) (T:cx.isAgg t=some g) {y z:AV} {ob:List Prop} {o' : List Orc} (f:KZ sym orc hp b ver sz i=some (y,ob,o')) (ho:∀p,p∈ob->p) (K:Jq g s off y=some z) :
  ∃v,(Instr.loadAt t x).run cx.P w=.ok v w/\VR w (MM F hp ρ) hp ρ z v:=by
 cases hx with
 | ptr _ _ _ _ _ k _ S hv V U =>
  rw[KZ,S] at f;have Q:=h.blk b k S;cases k with
  | box u =>
   simp only at f;split at f<;>simp only[jIj,reduceCtorEq,jPj] at f;rename_i hi;obtain⟨rfl,rfl,rfl⟩:=f;obtain⟨r',l,rfl⟩:=U (by simp only[Blk.ver] at hv ⊢;omega);obtain⟨r,e,vb,cs,L,J,M,N⟩:=Q;rw[L] at l;simp only[QX,jIj] at l;subst l;have O:=Z1 hi;subst O;simp only[Nat.zero_mul,Nat.zero_add];obtain⟨v,m,A⟩:=Qcj (b:=r) (o:=0) (off:=off) X T M (fun j a n=>by obtain⟨y,C,E⟩:=(Yp M N).2.2 j a n;exact⟨y,by rw[YS J,Nat.zero_add];exact C,E⟩) K
   refine⟨v,?_,A⟩;simp only[Instr.loadAt,Instr.sureAddr,Sem.run_bind,Sem.run_pure,Result.andThen_ok];rw[Nat.zero_add] at m;exact m
  | row ver' sz' es =>
   simp only at f;split at f
   ·cases f
   rename_i hc;simp only[jAj] at hc;have Y:=Z1 hc.1;have Z:=Z1 hc.2;subst Y;subst Z;obtain⟨r',l,rfl⟩:=U rfl;obtain⟨_,a0,J⟩|⟨r,c,e,cap,L,⟨J,G⟩,M,N,h5,h6⟩:=Q
   ·rw[J,WG] at l;cases l
   rw[L,Q8 G] at l;simp only[jIj] at l;subst l;have H:∀d,es[i]?=some d->y=.d d->∃v,(Instr.loadAt t (.pointer (some ⟨r,i*sz+off,none⟩))).run cx.P w=.ok v w/\VR w (MM F hp ρ) hp ρ z v:=by
    rintro d hd rfl;cases hcs:AV.cells (.d d) with
    | none=>rw[Jq,hcs] at K;cases K
    | some cs =>
     have:=KX hcs;obtain⟨v,m,A⟩:=Qcj (b:=r) (o:=i*sz) (off:=off) X T hcs (fun j a n=>by
      subst this;simp only[List.getElem?_map] at n;cases hdj:d.cells[j]? with
      | none=>rw[hdj] at n;cases n
      | some q =>
       rw[hdj] at n;simp only[Option.map_some,jIj] at n;subst n;obtain⟨y,C,_,E⟩:=h6 i d j q hd hdj;exact⟨y,by rw[YS N];exact C,.d _ _ E⟩) K
     refine⟨v,?_,A⟩;simp only[Instr.loadAt,Instr.sureAddr,Sem.run_bind,Sem.run_pure,Result.andThen_ok];exact m
   split at f
   ·simp only[jIj,jPj] at f;obtain⟨rfl,rfl,rfl⟩:=f;have:=ho _ (jMj);rw[ZY] at this;exact H _ this rfl
   ·split at f
    ·rename_i q W;simp only[jIj,jPj] at f;obtain⟨rfl,rfl,rfl⟩:=f;rw[ZY] at W;exact H _ W rfl
    ·cases f
   ·cases f
  | frozen _ _ _=>simp at f
  | virt _ _ _=>simp at f
  | loop _ _ _ _ _ _=>simp at f
  | mp _=>simp at f
  | it _ _=>simp at f
  | fbox _=>simp at f
  | left _=>simp at f
  | dead=>simp at f
theorem Qd4 {t:TypeId}{x:Value}{q:D}{off s:Nat}{g:Bool}(p:VR w (MM F hp ρ) hp ρ (.dptr q off) x)
  (n:cx.sz t=some s) (m:cx.isAgg t=some g) {z:AV} (k:Jq g s off (.d q)=some z) :
  ∃v,(Instr.loadAt t x).run cx.P w=.ok v w/\VR w (MM F hp ρ) hp ρ z v:=by
 cases p with
 | dptr _ _ blk o l =>
  cases hcs:AV.cells (.d q) with
  | none=>rw[Jq,hcs] at k;cases k
  | some cs =>
   have:=KX hcs;obtain⟨v,e,f⟩:=Qcj (M:=MM F hp ρ) (hp:=hp) (ρ:=ρ) (b:=blk) (o:=o) (off:=off) n m hcs (fun j a c=>by
    subst this;simp only[List.getElem?_map] at c;cases hdj:q.cells[j]? with
    | none=>rw[hdj] at c;cases c
    | some u =>
     rw[hdj] at c;simp only[Option.map_some,jIj] at c;subst c;obtain⟨y,h,i⟩:=l.2.2 j u hdj;exact⟨y,h,.d _ _ i⟩) k
   refine⟨v,?_,f⟩;simp only[Instr.loadAt,Instr.sureAddr,Sem.run_bind,Sem.run_pure,Result.andThen_ok];exact e
theorem Jx (h:HSim cx F hp ρ w){name:Nat}(g:look hp name=none){x:AV}{v:Value}{cs:List AV}(l:x.cells=some cs)(j:VR w (MM F hp ρ) hp ρ x v)(a:TypeId) :
  OpOK cx F hp ρ w [(name,.box x)] (.ptr name 0 0 0 0) (.pointer (some ⟨w.heap.size,0,none⟩)) (w.alloc (.cells v.cells a)):=by
 obtain⟨e,f⟩:=h.fresh (b:=name) (k:=.box x) (v:=.pointer (some ⟨w.heap.size,0,none⟩)) v.cells a (fun r i=>(Option.some.inj i).symm) (fun k0 c=>by rw[g] at c;cases c)
  (fun d=>⟨w.heap.size,a,v,cs,Qx _ _ _,Z2 _ _,l,d.vr j⟩)
 exact⟨_,e,f,.ptr name 0 0 0 0 (.box x) _ (Qf _ _ _) (jLj _) rfl fun _=>⟨w.heap.size,by rw[Qx];rfl,rfl⟩⟩
theorem jG (c:Array Value)(vs:List Value)(h:vs.length=c.size):Ky c 0 vs=vs.toArray:=by
 apply Array.ext_getElem?;intro k;rw[V8 _ _ _ (by omega)];by_cases a:0<=k/\k<0+vs.length
 ·rw[jTj a];simp
 ·rw[jFj a];have:c.size<=k:=by omega
  rw[Array.getElem?_eq_none this];simp;omega
theorem Qa2 {M:Nat->Prop}{x y z:AV}{off:Nat}{v u:Value}(d:uf x off y=some z)(W:VR w M hp ρ x v)(P:VR w M hp ρ y u) :
  ∃Q,VR w M hp ρ z Q/\Q.cells=Ky v.cells off u.cells.toList/\off+u.cells.size<=v.cells.size/\∀q,q∈u.cells.toList->q.oneCell'=true:=by
 unfold uf at d;split at d;case h_2=>cases d
 rename_i cs ys e H;obtain⟨U,X,K⟩:=Yp e W;obtain⟨S,T,J⟩:=Yp H P;have N:u.cells.toList.length=ys.length:=by rw[Array.length_toList];exact S
 have f:∀q,q∈u.cells.toList->q.oneCell'=true:=by
  intro q g;obtain⟨j,Z,rfl⟩:=List.mem_iff_getElem.1 g;have m : j<ys.length:=by omega
  obtain⟨p,hp1,b⟩:=J j ys[j] (by simp[m]);have:=(Uf (Jb (Yi T (j:=j) (a:=ys[j]) (by simp[m])) b)).2;have V:u.cells.toList[j]=p:=by rw[Array.getElem_toList];rw[Array.getElem?_eq_some_iff] at hp1;exact hp1.2
  rw[V];exact this
 split at d
 ·rename_i l;split at d;case h_2=>cases d
  rename_i G;have L : off+ys.length<=cs.length:=Nat.le_of_ble_eq_true G;split at d
  ·rename_i A;simp only[jIj] at d;subst d;simp only[jAj] at A;have s:=Z1 A.1.1;have Y:=Z1 A.1.2;subst s;refine⟨u,P,?_,by omega,f⟩;rw[jG _ _ (by omega)]
  ·simp only[jIj] at d;subst d;refine⟨.agg (Ky v.cells off u.cells.toList),Ug ?_,rfl,by omega,f⟩;have:=VR.agg (w:=w) (M:=M) (hp:=hp) (ρ:=ρ) (cs.take off++ys++cs.drop (off+ys.length)) (Ky v.cells off u.cells.toList).toList
    (by simp only[jaj,List.length_take,List.length_drop,Array.length_toList,Ud];omega)
    (fun i c q h g=>by
     rw[Array.getElem?_toList,V8 _ _ _ (by omega)] at g;by_cases O:off<=i/\i<off+u.cells.toList.length
     ·rw[jTj O] at g;rw[List.getElem?_append_left (by simp;omega),List.getElem?_append_right (by simp;omega)] at h;have:i - (cs.take off).length=i - off:=by simp;omega
      rw[this] at h;obtain⟨p,hp1,b⟩:=J _ _ h;rw[Array.getElem?_toList] at g;rw[g] at hp1;cases hp1;exact b
     ·rw[jFj O] at g;by_cases E:i<off
      ·rw[List.append_assoc,List.getElem?_append_left (by simp;omega),List.getElem?_take,jTj E] at h;obtain⟨p,hp1,b⟩:=K _ _ h;rw[g] at hp1;cases hp1;exact b
      ·rw[List.getElem?_append_right (by simp;omega),List.getElem?_drop] at h;have:off+ys.length+(i - (cs.take off++ys).length)=i:=by simp;omega
       rw[this] at h;obtain⟨p,hp1,b⟩:=K _ _ h;rw[g] at hp1;cases hp1;exact b)
   simpa using this
 ·rename_i l;split at d;case h_2=>cases d
  rename_i c n;have s:=Z1 n;subst s;simp only[jIj] at d;subst d;obtain⟨p,hp1,b⟩:=J 0 c rfl;have t:=Jb (Yi T (j:=0) (a:=c) rfl) b;have o:u.cells=#[p]:=by
   apply Array.ext_getElem?;intro k;cases k with
   | zero=>simpa using hp1
   | succ k=>rw[Array.getElem?_eq_none (by rw[S];simp)];simp
  have C:cs.length=1:=by
   unfold AV.cells at e;split at e
   ·cases l
   ·cases l
   ·split at e<;>simp only[jIj,reduceCtorEq] at e;subst e;rfl
  refine⟨p,b,?_,by rw[o,U,C];simp,f⟩;rw[o,(Uf t).1,jG _ _ (by simp;omega)]
theorem XZ {t:TypeId}{s:Nat}(h:cx.sz t=some s){r off:Nat}{c:Array Value}{e:TypeId}{u:Value}(i:u.cells.size=s)(hc:w.heap[r]?=some (.cells c e (0,0)))
  (f:off+u.cells.size<=c.size) (g:∀q,q∈u.cells.toList->q.oneCell'=true) :
  ∃w',(Instr.storeAt t (.pointer (some ⟨r,off,none⟩)) u).run cx.P w=.ok () w'/\w'.heap[r]?=some (.cells (Ky c off u.cells.toList) e (0,0))/\Ext w (fun n=>n=r) w':=by
 obtain⟨w',a,b,d⟩:=U0 cx.P r off u.cells.toList 0 w c e hc (by simpa using f) g;refine⟨w',?_,by simpa using b,d⟩;simp only[Instr.storeAt,Instr.sureAddr,Sem.run_bind,Sem.run_pure,Result.andThen_ok,storeVar,Q7 h,i,ne_eq,not_true_eq_false,if_false];exact a
theorem EX (h:HSim cx F hp ρ w){p:List Nat}{b ver sz i:Nat}{es:jVj}(G:look hp b=some (.row ver sz es))(L:p.contains b=false){r:Nat}{c C : Array Value}{e:TypeId}
  (f:QX (ρ b)=some r) (hc:w.heap[r]?=some (.cells c e (0,0))) {w' : World} (Z : w'.heap[r]?=some (.cells C e (0,0))) (hx:Ext w (fun n=>n=r) w') (a3:C.size=c.size)
  (S:∀k,(k<i*sz\/i*sz+sz<=k)->C[k]?=c[k]?) {Y:D} {zs:List AV} {u:Value} (z:AV.cells (.d Y)=some zs) (U:zs.length=sz)
  (hin:∀j,j<sz->C[i*sz+j]?=u.cells[j]?) (hu:DR w (MM F (Qd hp p++hp) ρ) Y u) :
  OpOK cx F hp ρ w ((b,.row ver sz (es.set i Y))::Qd hp p) (.d (.v undef)) undef w':=by
 obtain⟨g1,g2⟩:=h.freeze p;have H:look (Qd hp p++hp) b=some (.row ver sz es):=by
  obtain V|⟨v1,s1,e1,V,h2⟩|⟨_,_,_,E,_⟩|⟨_,E,_⟩:=Wo hp p b;case inr.inr.inl=>rw[G] at E;cases E
  case inr.inr.inr=>rw[G] at E;cases E
  ·rw[V];exact G
  ·exfalso;have P:b∈p:=by
    rw[G] at V;cases V;have:∀l:List Nat,look (Qd hp l++hp) b=some (.frozen ver sz es)->b∈l:=by
     intro l;induction l with
     | nil=>intro m;rw[show Qd hp []++hp=hp from rfl,G] at m;cases m
     | cons q l ih =>
      intro m;simp only[Qd] at m;by_cases X:q=b
      ·simp[X]
      ·split at m
       ·rw[List.cons_append,Qc _ _ X] at m;exact jmj _ (ih m)
       ·split at m
        ·rw[List.cons_append,Qc _ _ X] at m;exact jmj _ (ih m)
        ·exact jmj _ (ih m)
       ·rw[List.cons_append,Qc _ _ X] at m;exact jmj _ (ih m)
       ·exact jmj _ (ih m)
    exact this p h2
   have:p.contains b=true:=by simpa using P
   rw[this] at L;cases L
 obtain⟨k1,k2⟩:=g1.write (b:=b) (k:=.row ver sz (es.set i Y)) (v:=ρ b) H rfl f f (.inr ⟨rfl,rfl⟩) hx (fun T=>by
  obtain⟨_,a0,q2⟩|⟨r0,c0,e0,cap,q1,⟨q2,s⟩,q3,q4,q5,q6⟩:=g1.blk b _ H
  ·rw[q2,WG] at f;cases f
  rw[q1,Q8 s] at f;simp only[jIj] at f;subst f;rw[hc] at q4;cases q4;refine .inr ⟨r0,C,e,cap,by rw[Qx,q1,List.length_set],⟨by rw[List.length_set];exact q2,s⟩,by rw[a3];exact q3,Z,fun A d g=>?_,fun A d j a g W=>?_⟩
  ·rw[List.getElem?_set] at g;split at g
   ·split at g<;>simp only[jIj,reduceCtorEq] at g;subst g;have:=KX z;subst this;simpa using U
   ·exact q5 A d g
  ·rw[List.getElem?_set] at g;split at g
   ·rename_i t;subst t;split at g<;>simp only[jIj,reduceCtorEq] at g;subst g;have J:=KX z;have O:j<sz:=by have:=(jGj W).1;subst J;simp at U;omega
    have K:=Yp (w:=w) (M:=MM F (Qd hp p++hp) ρ) (hp:=hp) (ρ:=ρ) z (.d _ _ hu);have N:zs[j]?=some (.d a):=by subst J;simp[W]
    obtain⟨y,x,o⟩:=K.2.2 j (.d a) N;have Q:=Jb (Yi K.2.1 N) o;cases o;rename_i o;exact⟨y,by rw[hin j O];exact x,Q,T.dr o⟩
   ·rename_i t;obtain⟨y,x,a4,o⟩:=q6 A d j a g W;have O:j<sz:=by have:=(jGj W).1;have:=q5 A d g;omega
    refine⟨y,?_,a4,T.dr o⟩;rw[S];exact x;obtain a2|a1:=Nat.lt_or_gt_of_ne t
    ·right;calc i*sz+sz=(i+1)*sz:=by rw[Nat.add_mul,Nat.one_mul]
      _<=A*sz:=Nat.mul_le_mul_right _ a2
      _<=A*sz+j:=Nat.le_add_right _ _
    ·left;have:(A+1)*sz<=i*sz:=Nat.mul_le_mul_right _ a1;rw[Nat.add_mul,Nat.one_mul] at this;omega)
 exact⟨_,k1,g2.trans k2,G7 _ _ _ _ undef⟩
theorem Qc2 (h:HSim cx F hp ρ w){t:TypeId}{p y:AV}{x u:Value}(b6 : VR w (MM F hp ρ) hp ρ p x)(hy:VR w (MM F hp ρ) hp ρ y u)(f:kz cx sym orc hp t p y=some r)(ho:∀p,p∈r.ob->p) :
  ∃w',(Instr.storeAt t x u).run cx.P w=.ok () w'/\OpOK cx F hp ρ w r.up r.val undef w':=by
 unfold kz at f;split at f;case h_2=>cases f
 rename_i b pv sz i off ys s b9 hs;obtain⟨y1,y2,y3⟩:=Yp b9 hy;cases b6 with
 | ptr _ _ _ _ _ k _ X hv c0 hh =>
 split at f
 ·-- a box
  rename_i a5 E;have a8:=Z1 a5;rw[X] at E;cases E;split at f;case h_2=>cases f
  rename_i z C Z;have Z:=Z1 Z;subst Z;split at f;case h_2=>cases f
  rename_i zs K;simp only[jIj] at f;subst f;obtain⟨r',g,rfl⟩:=hh (by simp only[Blk.ver] at hv ⊢;omega);obtain⟨r,e,vb,cs,L,h2,h3,h4⟩:=h.blk b _ X;rw[L] at g;simp only[QX,jIj] at g;subst g;obtain⟨v',a1,a2,a3,a4⟩:=Qa2 C h4 hy;obtain⟨w',s1,s2,s3⟩:=XZ (cx:=cx) (t:=t) hs (r:=r) (off:=0*sz+off) (u:=u) (by omega) h2 (by simpa using a3) a4;refine⟨w',s1,?_⟩;obtain⟨k1,k2⟩:=h.write (b:=b) (k:=.box z) (v:=ρ b) X rfl (r:=r) (by rw[L];rfl) (by rw[L];rfl) (.inr ⟨rfl,rfl⟩) s3 (fun S=>by refine⟨r,e,v',zs,by rw[Qx,L],?_,K,S.vr a1⟩;rw[s2,a2];simp)
  exact⟨_,k1,k2,G7 _ _ _ _ undef⟩
 ·-- a row
  rename_i ver c3 es a5 E;have a8:=Z1 a5;rw[X] at E;cases E;split at f;case h_2=>cases f
  rename_i yd fs hc b8;simp only[jAj] at hc;have e1:=Z1 hc.1;have e2:=Z1 hc.2;subst e1;subst e2;split at f
  ·cases f
  rename_i H;obtain⟨r',g,rfl⟩:=hh rfl;have hB:=h.blk b _ X;obtain⟨_,a0,h2⟩|⟨r0,c,e,cap,L,⟨h2,G⟩,h3,h4,h5,h6⟩:=hB
  ·rw[h2,WG] at g;cases g
  rw[L,Q8 G] at g;simp only[jIj] at g;subst g;have W:=Z8 h fs y u yd fs b8 (fun _ h=>h) hy;have o:∀{i:Nat},i<es.length->i*sz+sz<=c.size:=by
   intro i hi;calc i*sz+sz=(i+1)*sz:=by rw[Nat.add_mul,Nat.one_mul]
    _<=cap*sz:=Nat.mul_le_mul_right _ (by omega)
    _<=c.size:=h3
  have V:∀q,q∈u.cells.toList->q.oneCell'=true:=by
   intro q hq;obtain⟨j,hj,rfl⟩:=List.mem_iff_getElem.1 hq;have a6 : j<ys.length:=by simp at hj;omega
   obtain⟨p,hp1,b7⟩:=y3 j ys[j] (by simp[a6]);have:=(Uf (Jb (Yi y2 (j:=j) (a:=ys[j]) (by simp[a6])) b7)).2;have Q:u.cells.toList[j]=p:=by rw[Array.getElem_toList];rw[Array.getElem?_eq_some_iff] at hp1;exact hp1.2
   rw[Q];exact this
  have part:∀{O zd:D},es[i]?=some O->qM sz O off yd=some zd ->
    ∃w',(Instr.storeAt t (.pointer (some ⟨r0,i*sz+off,none⟩)) u).run cx.P w=.ok () w'/\OpOK cx F hp ρ w ((b,.row pv sz (es.set i zd))::Qd hp fs) (.d (.v undef)) undef w':=by
   intro O zd Q C;unfold qM at C;split at C;case h_2=>cases C
   rename_i z T;split at C;case h_2=>cases C
   rename_i c4 J;split at C;case h_2=>cases C
   rename_i zs K;split at C;case h_2=>cases C
   rename_i n;simp only[jIj] at C;subst C;have n:=Z1 n;have hi:i<es.length:=(jGj Q).1;have a9:=o hi;have Y:=h5 i O Q;-- the element as a value
   have A : ∃N,AV.cells (.d O)=some N:=by
    unfold uf at T;split at T
    ·rename_i N _ L _;exact⟨N,L⟩
    ·cases T
   obtain⟨N,A⟩:=A;have b3:=KX A;have hev:∃ve,DR w (MM F (Qd hp fs++hp) ρ) O ve/\ve.cells=c.extract (i*sz) (i*sz+sz):=by
    have S:=(h.freeze fs).2;cases O with
    | agg l =>
     refine⟨.agg (c.extract (i*sz) (i*sz+sz)).toList.toArray,.agg _ _ ?_ ?_,Array.toArray_toList⟩
     ·simp only[D.cells] at Y;simp;omega
     ·intro j a q ha hq;obtain⟨y,b1,_,b2⟩:=h6 i _ j a Q ha;have c1:j<sz:=by have:=(jGj ha).1;simp only[D.cells] at Y;omega
      rw[Array.getElem?_toList,Array.getElem?_extract] at hq;rw[jTj (by omega)] at hq;rw[b1] at hq;cases hq;exact S.dr b2
    | _ =>
     all_goals
      simp only[D.cells,List.length_cons,List.length_nil,Nat.zero_add] at Y;obtain⟨y,b1,_,b2⟩:=h6 i _ 0 _ Q rfl;refine⟨y,S.dr b2,?_⟩;have b5:one y=true:=by have U:=(Yp (w:=w) (M:=MM F hp ρ) (hp:=hp) (ρ:=ρ) A (.d _ _ b2)).2.1;subst b3;simp only[D.cells,jCj,jnj,Vw,Bool.and_true] at U;exact Jb (w:=w) (M:=MM F hp ρ) (hp:=hp) (ρ:=ρ) U (.d _ _ b2)
      rw[(Uf b5).1];apply Array.ext_getElem?;intro j;rw[Array.getElem?_extract];cases j with
      | zero=>rw[jTj (by omega)];simpa using b1.symm
      | succ j=>rw[jFj (by omega)];simp
   obtain⟨ve,v1,v2⟩:=hev;obtain⟨v',a1,a2,a3,a4⟩:=Qa2 (hp:=hp) (ρ:=ρ) (w:=w) (M:=MM F (Qd hp fs++hp) ρ) T (.d _ _ v1) (.d _ _ W);have c2:ve.cells.size=sz:=by rw[v2];simp;omega
   obtain⟨w',s1,s2,s3⟩:=XZ (cx:=cx) (t:=t) hs (r:=r0) (off:=i*sz+off) (u:=u) (by omega) h4 (by omega) V;refine⟨w',s1,?_⟩;have b4:u.cells.toList.length=u.cells.size:=by simp
   refine EX (u:=v') h X (by simpa using H) (by rw[L];exact Q8 G) h4 s2 s3 (Ud _ _ _) (fun k hk=>?_) K n (fun j hj=>?_) (Ku w _ hp ρ z v' _ J a1)
   ·rw[V8 _ _ _ (by omega),jFj (by omega)]
   ·rw[V8 _ _ _ (by omega),a2,V8 _ _ _ (by omega)];by_cases a7:off<=j/\j<off+u.cells.toList.length
    ·rw[jTj (by omega),jTj a7];congr 1;omega
    ·rw[jFj (by omega),jFj a7,v2,Array.getElem?_extract,jTj (by omega)]
  split at f
  ·-- the whole element
   rename_i hw;simp only[jAj] at hw;have o1:=Z1 hw.1;have o2:=Z1 hw.2;subst o1;split at f;case h_2=>cases f
   rename_i ob o' zs m K;split at f;case h_2=>cases f
   rename_i n;have n:=Z1 n;simp only[jIj] at f;subst f;have hi:i<es.length:=by
    unfold owe at m;split at m
    ·simp only[jIj,jPj] at m;obtain⟨rfl,rfl⟩:=m;exact ho _ jMj
    ·split at m
     ·rename_i hd;exact of_decide_eq_true hd
     ·cases m
    ·cases m
   have a9:=o hi;have b4:u.cells.toList.length=u.cells.size:=by simp
   obtain⟨w',s1,s2,s3⟩:=XZ (cx:=cx) (t:=t) hs (r:=r0) (off:=i*sz+0) (u:=u) (by omega) h4 (by omega) V;refine⟨w',s1,?_⟩;refine EX (u:=u) h X (by simpa using H) (by rw[L];exact Q8 G) h4 s2 s3 (Ud _ _ _) (fun k hk=>?_) K n (fun j hj=>?_) W
   ·rw[V8 _ _ _ (by omega),jFj (by omega)]
   ·rw[V8 _ _ _ (by omega),jTj (by omega),Array.getElem?_toList];congr 1;omega
  ·split at f
   ·rename_i O o' _;split at f;case h_2=>cases f
    rename_i zd J;simp only[jIj] at f;subst f;have:=ho _ jMj;rw[ZY] at this;exact part this J
   ·split at f;case h_2=>cases f
    rename_i O Q;split at f;case h_2=>cases f
    rename_i zd J;simp only[jIj] at f;subst f;rw[ZY] at Q;exact part Q J
   ·cases f
 ·cases f
end
section
variable {cx:Cx}{F:Nat->Prop}{hp:List (Nat×Blk)}{ρ:Nat->Value}{w:World}{re:Operand->Value}{ev:Operand->AV}{sym:Bool}{orc:List Orc}{r:R}
theorem HSim.alloc (h:HSim cx F hp ρ w)(o:Obj):HSim cx F hp ρ (w.alloc o)/\Steps1 hp ρ w hp ρ (w.alloc o):=by
 have a:Steps1 hp ρ w hp ρ (w.alloc o):=⟨Ext.alloc _ _ _,fun _ _ h=>h,Grows.refl _ _⟩
 refine⟨h.step a (fun b k c=>.inl ⟨c,rfl,fun d r e=>?_⟩) h.inj h.forb,a⟩;have:=(h.blk b k c).root_lt d e;show(w.heap.push _)[r]?=_;rw[Array.getElem?_push,jFj (by omega)]
theorem HSim.drew (h:HSim cx F hp ρ w):HSim cx F hp ρ w.drew/\Steps1 hp ρ w hp ρ w.drew:=by
 have a:Steps1 hp ρ w hp ρ w.drew:=⟨Ext.drew _ _,fun _ _ h=>h,Grows.refl _ _⟩
 exact⟨h.step a (fun b k c=>.inl ⟨c,rfl,fun _ _ _=>rfl⟩) h.inj h.forb,a⟩
theorem QcO (c:Array Value)(o:Nat)(vs:List Value):∀n,(vs.zipIdx n).foldl (fun(cs:Array Value) (p:Value×Nat)=>cs.setIfInBounds (o+p.2) p.1) c=Ky c (o+n) vs:=by
 induction vs generalizing c with
 | nil=>intro n;rfl
 | cons v vs ih =>
  intro n;simp only[List.zipIdx_cons,List.foldl_cons,Ky];rw[ih];rfl
theorem jV (c:Array Value)(o:Nat)(v:Value) :
  (v.cells.zipIdx.foldl (fun(cs:Array Value) (p:Value×Nat)=>cs.setIfInBounds (o+p.2) p.1) c)=Ky c o v.cells.toList:=by
 rw[<-Array.foldl_toList,Array.toList_zipIdx,QcO];rfl
theorem uX {M:Nat->Prop}{place:Nat->Option (Nat×Nat)}:∀(parts:List (Nat×AV)) (vs:List (Nat×Value)) (cs b : List AV) (C:Array Value),Qbu place cs parts=some b ->
  vs.map (·.1)=parts.map (·.1)->(∀(i:Nat) p q,parts[i]?=some p->vs[i]?=some q->VR w M hp ρ p.2 q.2) ->
  cs.length=C.size->(∀(j:Nat) (a:AV) (y:Value),cs[j]?=some a->C[j]?=some y->VR w M hp ρ a y) ->
  ∃g,Instr.fill place C vs=some g/\b.length=g.size/\∀(j:Nat) (a:AV) (y:Value),b[j]?=some a->g[j]?=some y->VR w M hp ρ a y:=by
 intro parts;induction parts with
 | nil =>
  intro vs cs b C c e _ t hc;simp only[Qbu,jIj] at c;subst c;cases vs with
  | nil=>exact⟨C,rfl,t,hc⟩
  | cons _ _=>simp at e
 | cons p parts ih =>
  intro vs cs b C c e A t hc;obtain⟨i,x⟩:=p;cases vs with
  | nil=>simp at e
  | cons q vs =>
   obtain⟨T,v⟩:=q;simp only[jCj,List.cons.injEq] at e;obtain⟨K,e⟩:=e;subst K;simp only[Qbu] at c;split at c;case h_2=>cases c
   rename_i off size ys o s;split at c;case h_2=>cases c
   rename_i l;simp only[jAj] at l;have Q:=Z1 l.1;have S:=Nat.le_of_ble_eq_true l.2;have h:=A 0 _ _ rfl rfl;simp only at h;obtain⟨O,U,P⟩:=Yp s h;have u:v.cells.toList.length=ys.length:=by rw[Array.length_toList];exact O
   obtain⟨g,G,H,J⟩:=ih vs _ b (Ky C off v.cells.toList) c e (fun k p q n L=>A (k+1) p q (by simpa using n) (by simpa using L))
    (by simp only[jaj,List.length_take,List.length_drop,Ud];omega)
    (fun j a y d f=>by
     rw[V8 _ _ _ (by omega)] at f;by_cases z:off<=j/\j<off+v.cells.toList.length
     ·rw[jTj z,Array.getElem?_toList] at f;rw[List.getElem?_append_left (by simp;omega),List.getElem?_append_right (by simp;omega)] at d;have:j - (cs.take off).length=j - off:=by simp;omega
      rw[this] at d;obtain⟨p,E,N⟩:=P _ _ d;rw[f] at E;cases E;exact N
     ·rw[jFj z] at f;by_cases m:j<off
      ·rw[List.append_assoc,List.getElem?_append_left (by simp;omega),List.getElem?_take,jTj m] at d;exact hc _ _ _ d f
      ·rw[List.getElem?_append_right (by simp;omega),List.getElem?_drop] at d;have:off+ys.length+(j - (cs.take off++ys).length)=j:=by simp;omega
       rw[this] at d;exact hc _ _ _ d f)
   refine⟨g,?_,H,J⟩;simp only[Instr.fill,o];rw[jFj (by simp only[ne_eq,Bool.or_eq_true,decide_eq_true_eq,not_or];omega)];rw[jV];exact G
theorem QdI {cx:Cx}{w:World}:∀(l:List Field) (a:List (Nat×Nat)),Jd cx l=some a ->
  (l.mapM fun(f:Field)=>do pure (f.offset,<-sizeOf f.type):Sem (List (Nat×Nat))).run cx.P w=.ok a w:=by
 intro l;induction l with
 | nil=>intro a h;simp only[Jd,jIj] at h;subst h;simp
 | cons f l ih =>
  intro a h;simp only[Jd] at h;split at h;case h_2=>cases h
  rename_i s r c b;simp only[jIj] at h;subst h;simp only[List.mapM_cons,Sem.run_bind,Q7 c,Result.andThen_ok,Sem.run_pure,ih r b]
theorem wE (z:Value):(J8 z).cells=[J8 z]:=by
 cases z with
 | slice a n c =>
  cases a with
  | none=>simp only[J8];split<;>rfl
  | some a=>rfl
 | func f a b=>simp only[J8];split<;>rfl
 | _=>rfl
theorem QfD {z:Value}(h:∀c,z≠.agg c):ofV z=J8 z/\z.cells=#[z]:=by cases z<;>first|exact⟨rfl,rfl⟩|exact absurd rfl (h _)
theorem J7 (z:Value):∀(j:Nat) (a:AV) (y:Value),((ofV z).cells.map AV.d)[j]?=some a->z.cells[j]?=some y->VR w (MM F hp ρ) hp ρ a y:=by
 intro j a y b e;by_cases h:∃c,z=.agg c
 ·obtain⟨c,rfl⟩:=h;simp only[ofV,D.cells,List.map_map,List.getElem?_map] at b;simp only[Value.cells] at e;rw[Array.getElem?_toList,e] at b;simp only[Option.map_some,Function.comp_apply,jIj] at b;subst b;exact .d _ _ (qS _ _ _)
 ·obtain⟨f,g⟩:=QfD (z:=z) fun c hc=>h ⟨c,hc⟩;rw[f,wE] at b;rw[g] at e;cases j with
  | zero=>simp at b e;subst b;subst e;exact .d _ _ (qS _ _ _)
  | succ j=>simp at b
theorem GP (z:Value):((ofV z).cells.map AV.d).length=z.cells.size:=by
 by_cases h:∃c,z=.agg c
 ·obtain⟨c,rfl⟩:=h;simp[ofV,D.cells,Value.cells]
 ·obtain⟨a,b⟩:=QfD (z:=z) fun c hc=>h ⟨c,hc⟩;rw[a,wE,b];simp
theorem Qff {M:Nat->Prop}{cs:List AV}{C:Array Value}(d:cs.length=C.size)(hc:∀(j:Nat) (a:AV) (y:Value),cs[j]?=some a->C[j]?=some y->VR w M hp ρ a y) :
  VR w M hp ρ (AV.norm (.agg cs)) (.agg C):=by
 have:=VR.agg (w:=w) (M:=M) (hp:=hp) (ρ:=ρ) cs C.toList (by simpa using d) (fun i c y b e=>hc i c y b (by simpa using e));rw[Array.toArray_toList] at this;exact Ug this
theorem wB {M:Nat->Prop}(hev:∀x,VR w M hp ρ (ev x) (re x))(parts:List (Nat×Operand)) :
  (parts.map fun p=>(p.1,re p.2)).map (·.1)=(parts.map fun p=>(p.1,ev p.2)).map (·.1) /\
  ∀(i:Nat) p q,(parts.map fun p=>(p.1,ev p.2))[i]?=some p->(parts.map fun p=>(p.1,re p.2))[i]?=some q->VR w M hp ρ p.2 q.2:=by
 refine⟨by simp[List.map_map,Function.comp_def],fun i p q a b=>?_⟩;simp only[List.getElem?_map] at a b;cases hx:parts[i]? with
 | none=>rw[hx] at a;cases a
 | some x =>
  rw[hx] at a b;simp only[Option.map_some,jIj] at a b;subst a;subst b;exact hev x.2
theorem Qee (hev:∀x,VR w (MM F hp ρ) hp ρ (ev x) (re x)){t:TypeId}{parts:Array (Nat×Operand)}{y:AV}
  (a:Qfk cx t (parts.toList.map fun p=>(p.1,ev p.2))=some y) :
  ∃v,(Instr.build t (parts.map fun(i,x)=>(i,re x))).run cx.P w=.ok v w/\VR w (MM F hp ρ) hp ρ y v:=by
 unfold Qfk at a;split at a
 ·cases a
 rename_i z u;obtain⟨A,E⟩:=wB hev parts.toList;have d:(parts.map fun(p:Nat×Operand)=>(p.1,re p.2)).toList=parts.toList.map fun p=>(p.1,re p.2):=by simp
 split at a
 ·rename_i fields o;split at a;case h_2=>cases a
  rename_i e m;split at a;case h_2=>cases a
  rename_i cs b;simp only[jIj] at a;subst a;obtain⟨g,h,j,k⟩:=uX (C:=z.cells) _ _ _ _ b A E (GP z) (J7 z);refine⟨.agg g,?_,Qff j k⟩;have c : (fields.mapM fun(f:Field)=>do pure (f.offset,<-sizeOf f.type):Sem (Array (Nat×Nat))).run cx.P w=.ok e.toArray w:=by rw[Array.mapM_eq_mapM_toList];simp only[Sem.run_map,QdI fields.toList e m,Result.andThen_ok]
  simp only[Instr.build,Sem.run_bind,Y2 u,Result.andThen_ok,Qk o,c];have l:(fun i=>e.toArray[i]?)=nth e:=by funext i;rw[ZY];simp
  rw[d,l,h];rfl
 ·rename_i n q o;split at a;case h_2=>cases a
  rename_i s G;split at a;case h_2=>cases a
  rename_i cs b;simp only[jIj] at a;subst a;obtain⟨g,h,j,k⟩:=uX (C:=z.cells) _ _ _ _ b A E (GP z) (J7 z);refine⟨.agg g,?_,Qff j k⟩;simp only[Instr.build,Sem.run_bind,Y2 u,Result.andThen_ok,Qk o,Q7 G];rw[d,h];rfl
 ·cases a
theorem E8 (h:HSim cx F hp ρ w)(fz:List Nat){s:Nat}:∀(parts:List (Nat×AV)) (vs:List (Nat×Value)) (n:Nat) (es:jVj) (J:List Nat) (C:Array Value),Y6 hp s n parts=some (es,J) ->
  (∀b,b∈J->b∈fz)->vs.map (·.1)=parts.map (·.1)->(∀(i:Nat) p q,parts[i]?=some p->vs[i]?=some q->VR w (MM F hp ρ) hp ρ p.2 q.2) ->
  (n+parts.length)*s<=C.size ->
  ∃o,Instr.fill (fun i=>some (i*s,s)) C vs=some o/\o.size=C.size/\(∀k,k<n*s->o[k]?=C[k]?)/\es.length=parts.length /\
   ∀(i:Nat) (e:D),es[i]?=some e->e.cells.length=s/\∀(j:Nat) (a:D),e.cells[j]?=some a->∃y,o[(n+i)*s+j]?=some y/\one y=true/\DR w (MM F (Qd hp fz++hp) ρ) a y:=by
 intro parts;induction parts with
 | nil =>
  intro vs n es J C c _ l _ _;simp only[Y6,jIj,jPj] at c;obtain⟨rfl,rfl⟩:=c;cases vs with
  | nil=>exact⟨C,rfl,rfl,fun _ _=>rfl,rfl,fun i e z=>by simp at z⟩
  | cons _ _=>simp at l
 | cons p parts ih =>
  intro vs n es J C c A l Y W;obtain⟨i,x⟩:=p;cases vs with
  | nil=>simp at l
  | cons q vs =>
   obtain⟨i',v⟩:=q;simp only[jCj,List.cons.injEq] at l;obtain⟨hi,l⟩:=l;subst hi;simp only[Y6] at c;split at c;case h_2=>cases c
   rename_i cs y Z ys f2 L hy Q;split at c;case h_2=>cases c
   rename_i zs f H;split at c;case h_2=>cases c
   rename_i S;simp only[jIj,jPj] at c;obtain⟨rfl,rfl⟩:=c;simp only[jAj] at f;have h1:=Z1 f.1;have h2:=Z1 f.2;have V:=Z1 S;have m:=Y 0 _ _ rfl rfl;simp only at m;obtain⟨y1,y2,y3⟩:=Yp L m;have X:v.cells.toList.length=s:=by rw[Array.length_toList];omega
   simp only[List.length_cons] at W;have a1:n*s+s<=C.size:=by have:(n+1)*s<=(n+(parts.length+1))*s:=Nat.mul_le_mul_right _ (by omega);rw[Nat.add_mul,Nat.one_mul] at this;omega
   obtain⟨o,g1,g2,U,g4,g5⟩:=ih vs (n+1) ys f2 (Ky C (n*s) v.cells.toList) Q (fun b f=>A b (List.mem_append.2 (.inr f))) l
    (fun k p q P hq=>Y (k+1) p q (by simpa using P) (by simpa using hq)) (by rw[Ud,show n+1+parts.length=n+(parts.length+1) from by omega];exact W)
   have N:=Z8 h fz x v y Z hy (fun b f=>A b (List.mem_append.2 (.inl f))) m;refine⟨o,?_,by rw[g2,Ud],fun k hk=>?_,by simp[g4],fun i e z=>?_⟩
   ·simp only[Instr.fill,h1];rw[jFj (by simp only[ne_eq,Bool.or_eq_true,decide_eq_true_eq,not_or];omega),jV];exact g1
   ·have O:k<(n+1)*s:=by rw[Nat.add_mul,Nat.one_mul];omega
    rw[U k O,V8 _ _ _ (by omega),jFj (by omega)]
   ·cases i with
    | zero =>
     simp only[jzj,jIj] at z;subst z;have g:=KX H;refine⟨by subst g;simpa using V,fun j a K=>?_⟩;have a0:j<s:=by have:=(jGj K).1;subst g;simp at V;omega
     have u:=Yp (w:=w) (M:=MM F (Qd hp fz++hp) ρ) (hp:=hp) (ρ:=ρ) H (.d _ _ N);have E:zs[j]?=some (.d a):=by subst g;simp[K]
     obtain⟨q,T,t⟩:=u.2.2 j (.d a) E;have G:=Jb (Yi u.2.1 E) t;cases t;rename_i t;refine⟨q,?_,G,t⟩;rw[Nat.add_zero,U _ (by rw[Nat.add_mul,Nat.one_mul];omega),V8 _ _ _ (by omega),jTj (by omega),Array.getElem?_toList,<-T];congr 1;omega
    | succ i =>
     obtain⟨T,t⟩:=g5 i e (by simpa using z);refine⟨T,fun j a K=>?_⟩;rw[show n+(i+1)=n+1+i from by omega];exact t j a K
theorem XE (h:HSim cx F hp ρ w)(hev:∀x,VR w (MM F hp ρ) hp ρ (ev x) (re x)){t b:TypeId}{len s:Nat}{z:Value}{parts:Array (Nat×Operand)}{es:jVj}{f:List Nat}
  (T:cx.P.underlying t=some (.slice b)) (S:cx.sz b=some s) (V:cx.zero b=some z) (O:Y6 hp s 0 (parts.toList.map fun p=>(p.1,ev p.2))=some (es,f))
  (Q:len*s<=16777216) (c:parts.toList.length=len) :
  ∃v w',(Instr.buildSlice t len (parts.map fun(i,x)=>(i,re x))).run cx.P w=.ok v w'/\OpOK cx F hp ρ w (Qd hp f) (.d (.lst true s es)) v w':=by
 obtain⟨Y,Z⟩:=wB hev parts.toList;have q:(parts.map fun(p:Nat×Operand)=>(p.1,re p.2)).toList=parts.toList.map fun p=>(p.1,re p.2):=by simp
 let m:Array Value:=if len*s=0 then #[] else z.cells;obtain⟨k,A,g2,g3,L,E⟩:=E8 h f _ _ 0 es f ((Array.range (len*s)).map (m[· % m.size]!)) O (fun _ h=>h) Y Z (by simp[c]);refine⟨.slice (some ⟨w.heap.size,0,none⟩) len len,w.alloc (.cells k b),?_,?_⟩
 ·simp only[Instr.buildSlice,Sem.run_bind,Qk T,Result.andThen_ok,Q7 S];rw[jFj (by omega)];by_cases C:len*s=0
  ·have g:m=#[]:=by simp[m,C]
   rw[g] at A;rw[jTj C];simp only[Sem.run_bind,Sem.run_pure,Result.andThen_ok];rw[q,A];simp only[newRow,Sem.run_bind,run_newObj,Result.andThen_ok,Sem.run_pure,World.alloc_eq]
  ·have g:m=z.cells:=by simp[m,C]
   rw[g] at A;rw[jFj C];simp only[Sem.run_bind,Sem.run_pure,Y2 V,Result.andThen_ok];rw[q,A];simp only[newRow,Sem.run_bind,run_newObj,Result.andThen_ok,Sem.run_pure,World.alloc_eq]
 ·obtain⟨k1,W⟩:=h.freeze f;obtain⟨X,K⟩:=k1.alloc (.cells k b);refine⟨ρ,X,W.trans K,.d _ _ ?_⟩;have J:es.length=len:=by rw[L];simpa using c
  have G:¬MM F (Qd hp f++hp) ρ w.heap.size:=by
   rintro(N|G)
   ·have:=h.bnd _ N;omega
   ·have:=k1.mut_lt G;omega
  have u:=DR.lst (w:=w.alloc (.cells k b)) (M:=MM F (Qd hp f++hp) ρ) true s es (some ⟨w.heap.size,0,none⟩) es.length w.heap.size 0 (fun n=>k.getD n undef)
   (fun _=>rfl) (jLj _) (fun _=>⟨rfl,G,by simp⟩) (fun i e o=>(E i e o).1)
   (fun i e j a o H=>by
    obtain⟨y,l,yo,_⟩:=(E i e o).2 j a H;rw[Nat.zero_add] at l ⊢;have U:k.getD (i*s+j) undef=y:=by simp[Array.getD_eq_getD_getElem?,l]
    rw[YS (Z2 _ _),U];exact⟨l,yo⟩)
   (fun i e j a o H=>by
    obtain⟨y,l,_,y2⟩:=(E i e o).2 j a H;rw[Nat.zero_add] at l;have:k.getD (i*s+j) undef=y:=by simp[Array.getD_eq_getD_getElem?,l]
    rw[this];exact K.dr y2)
  rw[J] at u;exact u
theorem J5 {M:Nat->Prop}:∀(d:List (Nat×AV)) (vs:List (Nat×Value)) (i:Nat) (xs:List AV) (C:Array Value),K5 i d=some xs->vs.map (·.1)=d.map (·.1) ->
  (∀(k:Nat) p q,d[k]?=some p->vs[k]?=some q->VR w M hp ρ p.2 q.2)->i+d.length<=C.size ->
  ∃ys:List Value,Instr.fill (fun k=>some (k*1,1)) C vs=some (Ky C i ys)/\ys.length=xs.length/\Vw xs=true/\xs.length=d.length/\∀(j:Nat) (c:AV) (y:Value),xs[j]?=some c->ys[j]?=some y->VR w M hp ρ c y
 | [],vs,i,xs,C,h,a,_,_=>by
  simp only[K5,jIj] at h;subst h;cases vs with
  | nil=>exact⟨[],rfl,rfl,rfl,rfl,fun j c y hc=>by simp at hc⟩
  | cons _ _=>simp at a
 | (j,x)::d,vs,i,xs,C,h,a,hv,hC=>by
  cases vs with
  | nil=>simp at a
  | cons q vs =>
   obtain⟨L,v⟩:=q;simp only[jCj,List.cons.injEq] at a;obtain⟨H,a⟩:=a;subst H;cases x with
   | ptr b vr s k o =>
    simp only[K5] at h;split at h;case h_2=>cases h
    rename_i zs G n;simp only[jIj] at h;subst h;have f:=Z1 G;subst f;have l:=hv 0 _ _ rfl rfl;simp only at l;have J:one v=true:=Jb (x:=.ptr b vr s k o) rfl l;have e:=(Uf J).1;simp only[List.length_cons] at hC;obtain⟨ys,t,u,z,A,E⟩:=J5 d vs (i+1) zs (C.setIfInBounds i v) n a (fun k p q g K=>hv (k+1) p q (by simpa using g) (by simpa using K)) (by simp;omega);refine⟨v::ys,?_,by simp[u],by simp[Vw,z,AV.isOne],by simp[A],fun j c y hc m=>?_⟩
    ·simp only[Instr.fill,Nat.mul_one];rw[e,jFj (by simp;omega)];have:((#[v]:Array Value).zipIdx.foldl (fun(cs:Array Value) (p:Value×Nat)=>cs.setIfInBounds (i+p.2) p.1) C)=C.setIfInBounds i v:=by have:=jV C i v;rw[e] at this;rw[this];rfl
     simp only[Nat.mul_one] at t;rw[show((#[v]:Array Value).zipIdx.foldl (fun cs (x:Value×Nat)=>match x with|(c,j)=>cs.setIfInBounds (i+j) c) C)=C.setIfInBounds i v from this];exact t
    ·cases j with
     | zero =>
      simp only[jzj,jIj] at hc m;subst hc;subst m;exact l
     | succ j=>exact E j c y (by simpa using hc) (by simpa using m)
   | _=>simp[K5] at h
theorem Qb5 (h:HSim cx F hp ρ w)(hev:∀x,VR w (MM F hp ρ) hp ρ (ev x) (re x)){t:TypeId}{len name:Nat}{parts:Array (Nat×Operand)}{xs:List AV}{orc:List Orc}{r:R}
  (E:K5 0 (parts.toList.map fun p=>(p.1,ev p.2))=some xs) (c:Qb6 cx hp name t len xs orc=some r) :
  ∃v w',(Instr.buildSlice t len (parts.map fun(i,x)=>(i,re x))).run cx.P w=.ok v w'/\OpOK cx F hp ρ w r.up r.val v w':=by
 unfold Qb6 at c;split at c;case h_2=>cases c
 rename_i d U S;split at c;case h_2=>cases c
 rename_i s z T V;split at c;case h_2=>cases c
 rename_i hc;simp only[jAj] at hc;simp only[jIj] at c;subst c;have u:=Z1 hc.1.1;subst u;have Q:=Nat.le_of_ble_eq_true hc.1.2;have C:=Z1 hc.2;obtain⟨H,J⟩:=wB hev parts.toList;have m:(parts.map fun(p:Nat×Operand)=>(p.1,re p.2)).toList=parts.toList.map fun p=>(p.1,re p.2):=by simp
 let a:Array Value:=if len*1=0 then #[] else z.cells;have o:xs.length=parts.toList.length:=by
  have:=(J5 (w:=w) (M:=MM F hp ρ) (hp:=hp) (ρ:=ρ) _ _ 0 xs ((Array.range parts.toList.length).map (a[· % a.size]!)) E H J (by simp))
  obtain⟨_,_,_,_,y,_⟩:=this;simpa using y
 obtain⟨ys,g,K,L,y,N⟩:=J5 _ _ 0 xs ((Array.range (len*1)).map (a[· % a.size]!)) E H J (by simp;simp at o;omega);have e:Ky ((Array.range (len*1)).map (a[· % a.size]!)) 0 ys=ys.toArray:=jG _ _ (by simp;omega);rw[e] at g;have b:AV.cells (.agg xs)=some xs:=by simp only[AV.cells,L]
 have l:=Jx h S (x:=.agg xs) (v:=.agg ys.toArray) b (.agg xs ys K.symm N) d;refine⟨.slice (some ⟨w.heap.size,0,none⟩) len len,w.alloc (.cells ys.toArray d),?_,?_⟩
 ·simp only[Instr.buildSlice,Sem.run_bind,Qk U,Result.andThen_ok,Q7 T];rw[jFj (by omega)];by_cases n:len*1=0
  ·have f:a=#[]:=by simp only[a,n,if_true]
   rw[f] at g;rw[jTj n];simp only[Sem.run_bind,Sem.run_pure,Result.andThen_ok];rw[m,g];simp only[newRow,Sem.run_bind,run_newObj,Result.andThen_ok,Sem.run_pure,World.alloc_eq]
  ·have f:a=z.cells:=by simp only[a,n,if_false]
   rw[f] at g;rw[jFj n];simp only[Sem.run_bind,Sem.run_pure,Y2 V,Result.andThen_ok];rw[m,g];simp only[newRow,Sem.run_bind,run_newObj,Result.andThen_ok,Sem.run_pure,World.alloc_eq]
 ·obtain⟨ρ',k1,W,X⟩:=l;refine⟨ρ',k1,W,?_⟩;cases X with
  | ptr _ _ _ _ _ k _ A hv Z O =>
   have j : look ([(name,Blk.box (.agg xs))]++hp) name=some (.box (.agg xs)):=Qf _ _ _;rw[j] at A;cases A;obtain⟨Y,q,G⟩:=O rfl;simp only[Value.pointer.injEq,jIj,Addr.mk.injEq] at G;refine .sub name 0 1 0 len (.box (.agg xs)) _ j (jLj _) rfl fun _=>⟨Y,len,q,?_⟩
   rw[<-G.1]
end
section
variable {cx:Cx}{F:Nat->Prop}{hp:List (Nat×Blk)}{ρ:Nat->Value}{w:World}{re:Operand->Value}{ev:Operand->AV}{sym:Bool}{orc:List Orc}{r:R}
theorem wR {M:Nat->Prop}{full:Bool}{sz:Nat}{ds:jVj}{x:Value}(h:DR w M (.lst full sz ds) x) :
  ∃a cap,x=.slice a ds.length cap/\ds.length<=cap/\(full=true->cap=ds.length)/\∃e:List Value,e.length=ds.length*sz /\
   (∀(P:Program) (w' : World),w'.heap=w.heap->∀m,m<=ds.length->(Builtin.firstCells sz m x).run P w'=.ok (e.take (m*sz)).toArray w') /\
   (∀u,u∈e->one u=true)/\(∀(i:Nat) (d:D),ds[i]?=some d->d.cells.length=sz) /\
   ∀(i:Nat) (d:D) (j:Nat) (c:D),ds[i]?=some d->d.cells[j]?=some c->∃y,e[i*sz+j]?=some y/\one y=true/\DR w M c y:=by
 cases h with
 | lst _ _ _ a cap blk off ys N hc K t C L =>
  refine⟨a,cap,rfl,hc,N,(List.range (ds.length*sz)).map ys,by simp,?_,?_,t,?_⟩
  ·intro P w' E m H;by_cases q:ds=[]
   ·subst q;have A:m=0:=by simpa using H
    subst A;cases a with
    | none=>simp[Builtin.firstCells]
    | some a=>simp[Builtin.firstCells,loadCells,loadCellsFrom]
   ·obtain⟨rfl,_,_⟩:=K q;simp only[Builtin.firstCells];have O:m*sz<=ds.length*sz:=Nat.mul_le_mul_right _ H;refine KT P w' blk off _ _ (by rw[List.length_take,jlj,List.length_range];omega) fun k v n=>?_;rw[List.getElem?_take] at n;split at n;case isFalse=>cases n
    have f:k<ds.length*sz:=by have:=(jGj n).1;simpa using this
    have G:0<sz:=by
     obtain o|o:=Nat.eq_zero_or_pos sz
     ·subst o;simp at f
     ·exact o
    have p:k / sz<ds.length:=Nat.div_lt_of_lt_mul (by rw[Nat.mul_comm];exact f);have s:k % sz<sz:=Nat.mod_lt _ G;have g:ds[k / sz]?=some ds[k / sz]:=by simp[p]
    have z:=t _ _ g;have b:ds[k / sz].cells[k % sz]?=some ds[k / sz].cells[k % sz]:=by simp[z,s]
    have:=(C _ _ _ _ g b).1;rw[show k / sz*sz+k % sz=k from by rw[Nat.mul_comm];exact Nat.div_add_mod k sz] at this;simp only[List.getElem?_map,List.getElem?_range f,Option.map_some,jIj] at n;rw[<-n];unfold World.cell? at this ⊢;rw[E];exact this
  ·intro u J;simp only[List.mem_map,List.mem_range] at J;obtain⟨k,f,rfl⟩:=J;have G:0<sz:=by
    obtain o|o:=Nat.eq_zero_or_pos sz
    ·subst o;simp at f
    ·exact o
   have p:k / sz<ds.length:=Nat.div_lt_of_lt_mul (by rw[Nat.mul_comm];exact f);have s:k % sz<sz:=Nat.mod_lt _ G;have g:ds[k / sz]?=some ds[k / sz]:=by simp[p]
   have z:=t _ _ g;have b:ds[k / sz].cells[k % sz]?=some ds[k / sz].cells[k % sz]:=by simp[z,s]
   have:=(C _ _ _ _ g b).2;rw[show k / sz*sz+k % sz=k from by rw[Nat.mul_comm];exact Nat.div_add_mod k sz] at this;exact this
  ·intro i d j c l b;have p:i<ds.length:=(jGj l).1;have s:j<sz:=by have:=(jGj b).1;have:=t i d l;omega
   have n:i*sz+j<ds.length*sz:=by have:(i+1)*sz<=ds.length*sz:=Nat.mul_le_mul_right _ p;rw[Nat.add_mul,Nat.one_mul] at this;omega
   exact⟨ys (i*sz+j),by simp[n],(C i d j c l b).2,L i d j c l b⟩
theorem Y7 {M:Nat->Prop}{full:Bool}{sz:Nat}{ds:jVj}{x:Value}(h:DR w M (.lst full sz ds) x) :
  ∃a cap,x=.slice a ds.length cap/\ds.length<=cap/\(full=true->cap=ds.length)/\∃b:List Value,b.length=ds.length*sz /\
   (∀(P:Program) (w' : World),w'.heap=w.heap->(Builtin.firstCells sz ds.length x).run P w'=.ok b.toArray w') /\
   (∀u,u∈b->one u=true)/\(∀(i:Nat) (d:D),ds[i]?=some d->d.cells.length=sz) /\
   ∀(i:Nat) (d:D) (j:Nat) (c:D),ds[i]?=some d->d.cells[j]?=some c->∃y,b[i*sz+j]?=some y/\one y=true/\DR w M c y:=by
 obtain⟨a,cap,g,k,l,b,f,m,n⟩:=wR h;refine⟨a,cap,g,k,l,b,f,fun P w' e=>?_,n⟩;have:=m P w' e ds.length (jLj _);rw[<-f,List.take_length] at this;exact this
theorem Y9 {t t2 c:TypeId}{sz b:Nat}{z:Value}{ats:List TypeId}{ty:TypeId}(Q:cx.P.underlying t=some (.slice c))(k:Ja cx t2=true)(O:cx.sz c=some sz)(s:cx.bytes c=some b)
  (X:cx.zero c=some z) {a xa:Option Addr} {n cap m xc:Nat} {j e:List Value} (W:n<=cap)
  (q:∀w' : World,w'.heap=w.heap->(Builtin.firstCells sz n (.slice a n cap)).run cx.P w'=.ok j.toArray w')
  (g:∀w' : World,w'.heap=w.heap->(Builtin.firstCells sz m (.slice xa m xc)).run cx.P w'=.ok e.toArray w')
  (d:(n+m)*b<=140737488355328/\0<b) :
  ((n+m<=cap->(Builtin.append_ (t::t2::ats).toArray ty #[.slice a n cap,.slice xa m xc]).run cx.P w =
    ((match a with|some p=>storeCells (p.add (n*sz)) e|none=>pure ()).run cx.P w).andThen fun _ w'=>.ok (.slice a (n+m) cap) w') /\
   (cap<n+m->∃N,n+m<=N/\(Builtin.append_ (t::t2::ats).toArray ty #[.slice a n cap,.slice xa m xc]).run cx.P w =
    .ok (.slice (some ⟨w.heap.size,0,none⟩) (n+m) N) (w.drew.alloc (.cells (j.toArray++e.toArray++Builtin.zeroCells z.cells (N - (n+m))) c)))):=by
 have l:∃i,cx.P.info? c=some i/\i.bytes=b:=by
  unfold Cx.bytes at s;split at s
  ·rename_i i l;exact⟨i,l,by simpa using s⟩
  ·cases s
 obtain⟨i,l,K⟩:=l;have u:n+m<=140737488355328:=by
  calc n+m=(n+m)*1:=by omega
   _<=(n+m)*b:=Nat.mul_le_mul_left _ d.2
   _<=_:=d.1
 have f:∃v,cx.P.underlying t2=some (.slice v):=by
  unfold Ja at k;split at k
  ·rename_i v h;exact⟨v,h⟩
  ·cases k
 obtain⟨Y,f⟩:=f;refine⟨fun L=>?_,fun M=>?_⟩
 ·have x:=g w rfl;have C:=Q7 O w;have E:=Qk Q w;have G:=Qk f w;simp[Builtin.append_,C,E,G,Builtin.lenOf,L,x];cases a<;>simp
 ·have x:=g w.drew rfl;have y:=q w.drew rfl;have C:=Q7 O w;have E:=Qk Q w;have G:=Qk f w;have Z:=growslice_fits M d.1;have S:=Jv l w;have H:=Jv l w.drew;have T:=Y2 X w.drew;refine⟨grownCap w (n+m) cap c,grownCap_ge _ _ _ _,?_⟩;have J:¬n+m<=cap:=by omega
  have o:¬(9223372036854775807<(n:Int)+(m:Int)):=by omega
  subst K;have U:¬(281474976710656<Builtin.nextslicecap (n+m) cap*i.bytes):=by omega
  have V:(Question.appendCap (n+m) cap c).forced=false:=rfl;have A:(Question.appendCap (n+m) cap c).cut (w.tape w.drawn (Question.appendCap (n+m) cap c))=grownCap w (n+m) cap c:=rfl;simp[Builtin.append_,C,E,G,Builtin.lenOf,J,S,o,U,V,A,H,x,y,T,newRow,Array.append_assoc];rw[<-Array.append_assoc];simp
def RowIn (w:World)(M:Nat->Prop)(sz:Nat)(es:jVj)(c:Array Value):Prop :=
 (∀(i:Nat) (d:D),es[i]?=some d->d.cells.length=sz) /\
 ∀(i:Nat) (d:D) (j:Nat) (a:D),es[i]?=some d->d.cells[j]?=some a->∃y,c[i*sz+j]?=some y/\one y=true/\DR w M a y
theorem RowIn.mono {w' : World}{M M' : Nat->Prop}{sz:Nat}{es:jVj}{c:Array Value}(h:RowIn w M sz es c)(g:∀x y,DR w M x y->DR w' M' x y):RowIn w' M' sz es c :=
 ⟨h.1,fun i d j a k l=>by obtain⟨y,b,e,f⟩:=h.2 i d j a k l;exact⟨y,b,e,g _ _ f⟩⟩
theorem qc {i j n sz:Nat}(a:i<n)(b:j<sz):i*sz+j<n*sz:=by have:(i+1)*sz<=n*sz:=Nat.mul_le_mul_right _ a;rw[Nat.add_mul,Nat.one_mul] at this;omega
theorem RowIn.append {M:Nat->Prop}{sz:Nat}{es ds:jVj}{c n : Array Value}{e:List Value}(h:RowIn w M sz es c)
  (g:∀(i:Nat) (d:D),ds[i]?=some d->d.cells.length=sz)
  (u:∀(i:Nat) (d:D) (j:Nat) (a:D),ds[i]?=some d->d.cells[j]?=some a->∃y,e[i*sz+j]?=some y/\one y=true/\DR w M a y)
  (s:∀k,k<es.length*sz->n[k]?=c[k]?) (t:∀k,k<ds.length*sz->n[es.length*sz+k]?=e[k]?):RowIn w M sz (es++ds) n:=by
 refine⟨fun i d b=>?_,fun i d j a b l=>?_⟩
 ·by_cases m:i<es.length
  ·rw[List.getElem?_append_left m] at b;exact h.1 i d b
  ·rw[List.getElem?_append_right (by omega)] at b;exact g _ d b
 ·by_cases m:i<es.length
  ·rw[List.getElem?_append_left m] at b;have f:j<sz:=by have:=(jGj l).1;have:=h.1 i d b;omega
   obtain⟨y,p,q⟩:=h.2 i d j a b l;exact⟨y,by rw[s _ (qc m f)];exact p,q⟩
  ·rw[List.getElem?_append_right (by omega)] at b;have f:j<sz:=by have:=(jGj l).1;have:=g _ d b;omega
   have o:i - es.length<ds.length:=(jGj b).1;obtain⟨y,p,q⟩:=u _ d j a b l;refine⟨y,?_,q⟩;rw[show i*sz+j=es.length*sz+((i - es.length)*sz+j) from by rw[<-Nat.add_assoc,<-Nat.add_mul];congr 2;omega];rw[t _ (qc o f)];exact p
theorem Xh {a:TypeId}{sz:Nat}(h:ET cx a sz=true):∃z,cx.zero a=some z/\z.cells.size=sz/\∀u,u∈z.cells.toList->one u=true:=by
 unfold ET at h;split at h
 ·rename_i z b;simp only[jAj,List.all_eq_true] at h;exact⟨z,b,Z1 h.1,h.2⟩
 ·cases h
theorem Kh (h:HSim cx F hp ρ w){o:List Nat}{x:AV}{u:Value}{asz sz:Nat}{ds:jVj}
  (n:UL hp x=some (asz,ds,o)) (f:asz=sz\/ds=[]) (p:VR w (MM F hp ρ) hp ρ x u) :
  ∃xa xc b,u=.slice xa ds.length xc/\b.length=ds.length*sz/\(∀w' : World,w'.heap=w.heap->(Builtin.firstCells sz ds.length (.slice xa ds.length xc)).run cx.P w'=.ok (List.toArray b) w') /\
   (∀v,v∈b->one v=true)/\(∀(i:Nat) (d:D),ds[i]?=some d->d.cells.length=sz) /\
   (∀(i:Nat) (d:D) (j:Nat) (c:D),ds[i]?=some d->d.cells[j]?=some c->∃y,b[i*sz+j]?=some y/\one y=true/\DR w (MM F (Qd hp o++hp) ρ) c y):=by
 have g:∃full,DR w (MM F (Qd hp o++hp) ρ) (.lst full asz ds) u:=by unfold UL at n;split at n<;>simp only[jIj,reduceCtorEq,jPj] at n;rename_i full E es' k l;obtain⟨rfl,rfl,rfl⟩:=n;exact⟨full,Z8 h k x u _ k l (fun _ h=>h) p⟩
 obtain⟨full,g⟩:=g;obtain⟨xa,xc,rfl,t,_,b,q,s,z,A,C⟩:=Y7 g;refine⟨xa,xc,b,rfl,?_,?_,z,?_,?_⟩
 ·obtain e|e:=f
  ·rw[<-e];exact q
  ·rw[e] at q ⊢;simpa using q
 ·intro w' m;obtain e|e:=f
  ·rw[<-e];exact s _ _ m
  ·have:=s cx.P w' m;subst e;cases xa with
   | none=>simpa[Builtin.firstCells] using this
   | some a=>simpa[Builtin.firstCells,loadCells,loadCellsFrom] using this
 ·obtain e|e:=f
  ·rw[<-e];exact A
  ·subst e;intro i d l;simp at l
 ·obtain e|e:=f
  ·rw[<-e];exact C
  ·subst e;intro i d j c l;simp at l
theorem G0 (h:HSim cx F hp ρ w){t t2 f:TypeId}{ats:List TypeId}{ty:TypeId}{sz M N b nv:Nat}{z sv:Value}{es ds:jVj}{p:List Nat}{x:AV}{u:Value}{asz:Nat}
  (hu:cx.P.underlying t=some (.slice f)) (a3:Ja cx t2=true) (hs:cx.sz f=some sz) (hb:cx.bytes f=some N) (hz:cx.zero f=some z) (a5:z.cells.size=sz)
  (a1:DR w (MM F hp ρ) (.lst true M es) sv) (g:M=sz\/es=[]) (n:∀k0,look (Qd hp p++hp) b=some k0->k0.ver<nv\/False) (hx:UL hp x=some (asz,ds,p)) (s:asz=sz\/ds=[])
  (V:ds≠[]) (a4:VR w (MM F hp ρ) hp ρ x u) (o:(es.length+ds.length)*N<=140737488355328/\0<N) :
  ∃v w',(Builtin.append_ (t::t2::ats).toArray ty #[sv,u]).run cx.P w=.ok v w' /\
   OpOK cx F hp ρ w ((b,.row nv sz (es++ds))::Qd hp p) (.own b nv) v w':=by
 obtain⟨g1,g2⟩:=h.freeze p;obtain⟨xa,xc,l,rfl,W,Q,n3,S,T⟩:=Kh h hx s a4;have K:=g2.dr a1;obtain⟨sa,sc,rfl,J,m,c,o1,o2,o3,o4,o5⟩:=Y7 K;have J:=m rfl;subst J;have Y:c.length=es.length*sz:=by
  obtain e|e:=g
  ·rw[<-e];exact o1
  ·rw[e] at o1 ⊢;simpa using o1
 have X:∀w' : World,w'.heap=w.heap->(Builtin.firstCells sz es.length (.slice sa es.length es.length)).run cx.P w'=.ok c.toArray w':=by
  intro w' L;obtain e|e:=g
  ·rw[<-e];exact o2 _ _ L
  ·have:=o2 cx.P w' L;subst e;cases sa with
   | none=>simpa[Builtin.firstCells] using this
   | some a=>simpa[Builtin.firstCells,loadCells,loadCellsFrom] using this
 have G:RowIn w (MM F (Qd hp p++hp) ρ) sz es c.toArray:=by
  obtain e|e:=g
  ·rw[<-e];refine⟨o4,fun i d j a C hj=>?_⟩;obtain⟨y,y1,y2⟩:=o5 i d j a C hj;exact⟨y,by simpa using y1,y2⟩
  ·subst e;exact⟨fun i d C=>by simp at C,fun i d j a C=>by simp at C⟩
 have a6:0<ds.length:=by cases ds with
  | nil=>exact absurd rfl V
  | cons _ _=>simp
 obtain⟨_,a2⟩:=Y9 (cx:=cx) (w:=w) (ats:=ats) (ty:=ty) hu a3 hs hb hz (a:=sa) (cap:=es.length) (xa:=xa) (xc:=xc) (jLj _) X Q o;obtain⟨q,U,H⟩:=a2 (by omega);refine⟨_,_,H,?_⟩;obtain⟨d1,d2⟩:=g1.drew;have A:(c.toArray++l.toArray++Builtin.zeroCells z.cells (q - (es.length+ds.length))).size=q*sz:=by simp only[Array.size_append,List.size_toArray,size_zeroCells,a5,W,Y];rw[<-Nat.add_mul,<-Nat.add_mul];congr 1;omega
 obtain⟨k1,k2⟩:=d1.fresh (b:=b) (k:=.row nv sz (es++ds)) (v:=.slice (some ⟨w.heap.size,0,none⟩) (es.length+ds.length) q)
  (c.toArray++l.toArray++Builtin.zeroCells z.cells (q - (es.length+ds.length))) f (fun r hr=>by rw[Q8 (by omega)] at hr;exact(Option.some.inj hr).symm) (fun k0 O=>(n k0 O).resolve_right id)
  (fun a0=>by
   have Z:RowIn w (MM F (Qd hp p++hp) ρ) sz (es++ds) (c.toArray++l.toArray++Builtin.zeroCells z.cells (q - (es.length+ds.length))) :=
    G.append S T (fun k hk=>by
      rw[Array.append_assoc,Array.getElem?_append_left (by simp;omega)]) (fun k hk=>by
      rw[Array.append_assoc,Array.getElem?_append_right (by simp;omega)];have:es.length*sz+k - c.toArray.size=k:=by simp;omega
      rw[this,Array.getElem?_append_left (by simp;omega)];simp)
   have E:=Z.mono (fun x y hd=>(d2.trans a0).dr hd);exact .inr ⟨w.heap.size,_,f,q,by rw[Qx,jaj],⟨by rw[jaj];exact U,by omega⟩,by rw[A];exact jLj _,Z2 _ _,E.1,E.2⟩)
 exact⟨_,k1,(g2.trans d2).trans k2,.own b nv _ _ (Qf _ _ _) (jLj _) rfl fun _=>(Qx _ _ _).symm⟩
theorem QcF (h:HSim cx F hp ρ w){t t2 b:TypeId}{ats:List TypeId}{ty:TypeId}{sz S T:Nat}{z sv:Value}{es ds:jVj}{s:List Nat}{x:AV}{u:Value}{asz:Nat}
  (hu:cx.P.underlying t=some (.slice b)) (a8:Ja cx t2=true) (hs:cx.sz b=some sz) (hb:cx.bytes b=some T) (hz:cx.zero b=some z) (b2:z.cells.size=sz)
  (a7:DR w (MM F hp ρ) (.lst true S es) sv) (l:S=sz\/es=[]) (hx:UL hp x=some (asz,ds,s)) (G:asz=sz\/ds=[])
  (a1:ds≠[]) (a9:VR w (MM F hp ρ) hp ρ x u) (p:(es.length+ds.length)*T<=140737488355328/\0<T) :
  ∃v w',(Builtin.append_ (t::t2::ats).toArray ty #[sv,u]).run cx.P w=.ok v w' /\
   OpOK cx F hp ρ w (Qd hp s) (.d (.lst false sz (es++ds))) v w':=by
 obtain⟨U,g2⟩:=h.freeze s;obtain⟨xa,xc,f,rfl,a3,X,n3,Y,Z⟩:=Kh h hx G a9;have N:=g2.dr a7;obtain⟨sa,sc,rfl,L,n,c,o1,o2,o3,o4,o5⟩:=Y7 N;have L:=n rfl;subst L;have a5:c.length=es.length*sz:=by
  obtain e|e:=l
  ·rw[<-e];exact o1
  ·rw[e] at o1 ⊢;simpa using o1
 have a4:∀w' : World,w'.heap=w.heap->(Builtin.firstCells sz es.length (.slice sa es.length es.length)).run cx.P w'=.ok c.toArray w':=by
  intro w' O;obtain e|e:=l
  ·rw[<-e];exact o2 _ _ O
  ·have:=o2 cx.P w' O;subst e;cases sa with
   | none=>simpa[Builtin.firstCells] using this
   | some a=>simpa[Builtin.firstCells,loadCells,loadCellsFrom] using this
 have J:RowIn w (MM F (Qd hp s++hp) ρ) sz es c.toArray:=by
  obtain e|e:=l
  ·rw[<-e];refine⟨o4,fun i d j a m H=>?_⟩;obtain⟨y,E,y2⟩:=o5 i d j a m H;exact⟨y,by simpa using E,y2⟩
  ·subst e;exact⟨fun i d m=>by simp at m,fun i d j a m=>by simp at m⟩
 have b4:0<ds.length:=by cases ds with
  | nil=>exact absurd rfl a1
  | cons _ _=>simp
 obtain⟨_,a2⟩:=Y9 (cx:=cx) (w:=w) (ats:=ats) (ty:=ty) hu a8 hs hb hz (a:=sa) (cap:=es.length) (xa:=xa) (xc:=xc) (jLj _) a4 X p;obtain⟨A,a0,K⟩:=a2 (by omega);refine⟨_,_,K,?_⟩;obtain⟨d1,d2⟩:=U.drew;have b3:(c.toArray++f.toArray++Builtin.zeroCells z.cells (A - (es.length+ds.length))).size=A*sz:=by simp only[Array.size_append,List.size_toArray,size_zeroCells,b2,a3,a5];rw[<-Nat.add_mul,<-Nat.add_mul];congr 1;omega
 obtain⟨k1,k2⟩:=d1.alloc (.cells (c.toArray++f.toArray++Builtin.zeroCells z.cells (A - (es.length+ds.length))) b);have a6:RowIn w (MM F (Qd hp s++hp) ρ) sz (es++ds) (c.toArray++f.toArray++Builtin.zeroCells z.cells (A - (es.length+ds.length))) :=
  J.append Y Z (fun k hk=>by
    rw[Array.append_assoc,Array.getElem?_append_left (by simp;omega)]) (fun k hk=>by
    rw[Array.append_assoc,Array.getElem?_append_right (by simp;omega)];have:es.length*sz+k - c.toArray.size=k:=by simp;omega
    rw[this,Array.getElem?_append_left (by simp;omega)];simp)
 have o:=a6.mono (fun x y hd=>(d2.trans k2).dr hd);generalize hC:c.toArray++f.toArray++Builtin.zeroCells z.cells (A - (es.length+ds.length))=C at *;have g:(w.drew.alloc (.cells C b)).heap[w.heap.size]?=some (.cells C b (0,0)):=Z2 w.drew _;have W:w.heap.size<(w.drew.alloc (.cells C b)).heap.size:=by
  obtain q|q:=Nat.lt_or_ge w.heap.size (w.drew.alloc (.cells C b)).heap.size
  ·exact q
  ·rw[Array.getElem?_eq_none q] at g;cases g
 refine⟨ρ,k1,(g2.trans d2).trans k2,.d _ _ ?_⟩;have Q:=DR.lst (w:=w.drew.alloc (.cells C b)) (M:=MM F (Qd hp s++hp) ρ) false sz (es++ds) (some ⟨w.heap.size,0,none⟩) A w.heap.size 0 (fun q=>C.getD q undef) (fun q=>by cases q) (by rw[jaj];exact a0)
  (fun _=>⟨rfl,fun q=>by
   obtain q|q:=q
   ·exact Nat.lt_irrefl _ (U.bnd _ q)
   ·exact Nat.lt_irrefl _ (U.mut_lt q),W⟩) o.1
  (fun i d j a m H=>by
   obtain⟨y,E,y2,_⟩:=o.2 i d j a m H;have V:C.getD (i*sz+j) undef=y:=by simp[Array.getD_eq_getD_getElem?,E]
   simp only[V];refine⟨?_,y2⟩;simp only[World.cell?,g,Nat.zero_add,Option.isSome_none];simp[E])
  (fun i d j a m H=>by
   obtain⟨y,E,_,y3⟩:=o.2 i d j a m H;have V:C.getD (i*sz+j) undef=y:=by simp[Array.getD_eq_getD_getElem?,E]
   show DR _ _ a (C.getD (i*sz+j) undef);rw[V];exact y3)
 rw[jaj] at Q;exact Q
theorem Qas (h:HSim cx F hp ρ w){t t2 g:TypeId}{ats:List TypeId}{ty:TypeId}{sz bt b ver:Nat}{z:Value}{es ds:jVj}{m:List Nat}{x:AV}{u:Value}{asz:Nat}
  (hu:cx.P.underlying t=some (.slice g)) (V:Ja cx t2=true) (hs:cx.sz g=some sz) (hb:cx.bytes g=some bt) (hz:cx.zero g=some z) (b5:z.cells.size=sz)
  (b3:look hp b=some (.row ver sz es)) (L:x.toDH hp=some (.lst false asz ds,m)\/x.toDH hp=some (.lst true asz ds,m)) (n:asz=sz\/ds=[]) (a5:m.contains b=false)
  (W:VR w (MM F hp ρ) hp ρ x u) (o:(es.length+ds.length)*bt<=140737488355328/\0<bt) :
  ∃v w',(Builtin.append_ (t::t2::ats).toArray ty #[ρ b,u]).run cx.P w=.ok v w' /\
   OpOK cx F hp ρ w ((b,.row (ver+1) sz (es++ds))::Qd hp m) (.own b (ver+1)) v w':=by
 obtain⟨g1,g2⟩:=h.freeze m;have a6:¬b∈m:=by
  intro hm;have:m.contains b=true:=by simpa using hm
  rw[this] at a5;cases a5
 have p:look (Qd hp m++hp) b=some (.row ver sz es):=by
  have:∀l:List Nat,¬b∈l->look (Qd hp l++hp) b=look hp b:=by
   intro l;induction l with
   | nil=>intro _;rfl
   | cons q l ih =>
    intro K;simp only[List.mem_cons,not_or] at K;simp only[Qd];split
    ·rw[List.cons_append,Qc _ _ (fun e=>K.1 e.symm)];exact ih K.2
    ·split
     ·rw[List.cons_append,Qc _ _ (fun e=>K.1 e.symm)];exact ih K.2
     ·exact ih K.2
    ·rw[List.cons_append,Qc _ _ (fun e=>K.1 e.symm)];exact ih K.2
    ·exact ih K.2
  rw[this m a6];exact b3
 have O:∃full,DR w (MM F (Qd hp m++hp) ρ) (.lst full asz ds) u:=by
  obtain L|L:=L
  ·exact⟨_,Z8 h m x u _ m L (fun _ h=>h) W⟩
  ·exact⟨_,Z8 h m x u _ m L (fun _ h=>h) W⟩
 obtain⟨full,O⟩:=O;obtain⟨xa,xc,rfl,b9,_,f,n1,n2,n3,n4,n5⟩:=Y7 O;have S:f.length=ds.length*sz:=by
  obtain e|e:=n
  ·rw[<-e];exact n1
  ·rw[e] at n1 ⊢;simpa using n1
 have a7:∀w' : World,w'.heap=w.heap->(Builtin.firstCells sz ds.length (.slice xa ds.length xc)).run cx.P w'=.ok f.toArray w':=by
  intro w' H;obtain e|e:=n
  ·rw[<-e];exact n2 _ _ H
  ·have:=n2 cx.P w' H;subst e;cases xa with
   | none=>simpa[Builtin.firstCells] using this
   | some a=>simpa[Builtin.firstCells,loadCells,loadCellsFrom] using this
 have a8:∀(i:Nat) (d:D),ds[i]?=some d->d.cells.length=sz:=by
  obtain e|e:=n
  ·rw[<-e];exact n4
  ·subst e;intro i d N;simp at N
 have a9:∀(i:Nat) (d:D) (j:Nat) (c:D),ds[i]?=some d->d.cells[j]?=some c->∃y,f[i*sz+j]?=some y/\one y=true/\DR w (MM F (Qd hp m++hp) ρ) c y:=by
  obtain e|e:=n
  ·rw[<-e];exact n5
  ·subst e;intro i d j c N;simp at N
 obtain⟨rfl,a0,Y⟩|⟨r,c,e,cap,Y,⟨q2,s⟩,q3,q4,q5,q6⟩:=g1.blk b _ p
 ·have b8:DR w (MM F hp ρ) (.lst true sz []) (ρ b):=by rw[Y];exact .lst true sz [] a0 0 0 0 (fun _=>undef) (fun _=>rfl) (jLj _) (fun h=>absurd rfl h) (fun i e h=>by simp at h) (fun i e j c h=>by simp at h) (fun i e j c h=>by simp at h)
  have Z:UL hp x=some (asz,ds,m):=by unfold UL;obtain L|L:=L<;>rw[L]
  by_cases b2:ds=[]
  ·subst b2;rw[Y];have E:∀w' : World,w'.heap=w.heap->(Builtin.firstCells sz 0 (.slice a0 0 0)).run cx.P w'=.ok (List.toArray []) w':=by
    intro w' H;cases a0 with
    | none=>simp[Builtin.firstCells]
    | some a=>simp[Builtin.firstCells,loadCells,loadCellsFrom]
   obtain⟨a1,_⟩:=Y9 (cx:=cx) (w:=w) (ats:=ats) (ty:=ty) hu V hs hb hz (a:=a0) (cap:=0) (xa:=xa) (xc:=xc) (jLj _) E a7 o;have b6:f=[]:=by simpa using S
   subst b6;obtain⟨k1,k2⟩:=g1.renew p Y;exact⟨.slice a0 0 0,w,by rw[a1 (by simp)];cases a0<;>rfl,_,k1,g2.trans k2,.own b (ver+1) _ _ (Qf _ _ _) (jLj _) rfl fun _=>(Qx _ _ _).symm⟩
  ·have:=G0 (nv:=ver+1) (b:=b) (ats:=ats) (ty:=ty) h hu V hs hb hz b5 b8 (.inr rfl) (fun k0 C=>by rw[p] at C;cases C;exact .inl (Nat.lt_succ_self _)) Z n b2 W o;simpa using this
 have M:RowIn w (MM F (Qd hp m++hp) ρ) sz es c:=⟨q5,q6⟩
 have a4:es.length*sz<=c.size:=Nat.le_trans (Nat.mul_le_mul_right _ q2) q3;-- the old cells
 have E:∀w' : World,w'.heap=w.heap->(Builtin.firstCells sz es.length (.slice (some ⟨r,0,none⟩) es.length cap)).run cx.P w'=.ok (c.toList.take (es.length*sz)).toArray w':=by
  intro w' H;simp only[Builtin.firstCells];refine KT cx.P w' r 0 _ _ (by simp;omega) fun k v J=>?_;rw[List.getElem?_take] at J;split at J
  ·rw[YS (by rw[H];exact q4),Nat.zero_add];simpa using J
  ·cases J
 obtain⟨a1,a2⟩:=Y9 (cx:=cx) (w:=w) (ats:=ats) (ty:=ty) hu V hs hb hz (a:=some ⟨r,0,none⟩) (xa:=xa) (xc:=xc) q2 E a7 o;rw[Y];by_cases Q:es.length+ds.length<=cap
 ·have A:0+es.length*sz+0+f.length<=c.size:=by rw[S];have:(es.length+ds.length)*sz<=cap*sz:=Nat.mul_le_mul_right _ Q;rw[Nat.add_mul] at this;omega
  obtain⟨w',s1,s2,s3⟩:=U0 cx.P r (0+es.length*sz) f 0 w c e q4 A (fun v hv=>(Uf (n3 v hv)).2);refine⟨_,w',by rw[a1 Q];simp only[add_at];rw[s1];rfl,?_⟩;obtain⟨k1,k2⟩:=g1.write (b:=b) (k:=.row (ver+1) sz (es++ds)) (v:=.slice (some ⟨r,0,none⟩) (es.length+ds.length) cap) p rfl (r:=r) (by rw[Y];exact Q8 s) (Q8 s)
   (.inl (Nat.lt_succ_self _)) s3 (fun U=>by
    have T:RowIn w (MM F (Qd hp m++hp) ρ) sz (es++ds) (Ky c (0+es.length*sz+0) f) :=
     M.append a8 a9 (fun k J=>by rw[V8 _ _ _ A,jFj (by omega)]) (fun k J=>by rw[V8 _ _ _ A,jTj (by omega)];congr 1;omega)
    have G:=T.mono (w':=w') (M':=MM F ((b,Blk.row (ver+1) sz (es++ds))::(Qd hp m++hp)) (VI ρ b (.slice (some ⟨r,0,none⟩) (es.length+ds.length) cap))) (fun x y N=>U.dr N);exact .inr ⟨r,_,e,cap,by rw[Qx,jaj],⟨by rw[jaj];exact Q,s⟩,by rw[Ud];exact q3,s2,G.1,G.2⟩)
  exact⟨_,k1,g2.trans k2,.own b (ver+1) _ _ (Qf _ _ _) (jLj _) rfl fun _=>(Qx _ _ _).symm⟩
 ·obtain⟨X,b7,b4⟩:=a2 (by omega);refine⟨_,_,b4,?_⟩;obtain⟨d1,d2⟩:=g1.drew;have a3:((c.toList.take (es.length*sz)).toArray++f.toArray++Builtin.zeroCells z.cells (X - (es.length+ds.length))).size=X*sz:=by simp only[Array.size_append,List.size_toArray,size_zeroCells,b5,S,List.length_take,Array.length_toList];rw[Nat.min_eq_left a4,<-Nat.add_mul,<-Nat.add_mul];congr 1;omega
  obtain⟨k1,k2⟩:=d1.fresh (b:=b) (k:=.row (ver+1) sz (es++ds)) (v:=.slice (some ⟨w.heap.size,0,none⟩) (es.length+ds.length) X)
   ((c.toList.take (es.length*sz)).toArray++f.toArray++Builtin.zeroCells z.cells (X - (es.length+ds.length))) g (fun r hr=>by rw[Q8 (by omega)] at hr;exact(Option.some.inj hr).symm) (fun k0 C=>by rw[p] at C;cases C;exact Nat.lt_succ_self _)
   (fun U=>by
    have T:RowIn w (MM F (Qd hp m++hp) ρ) sz (es++ds) ((c.toList.take (es.length*sz)).toArray++f.toArray++Builtin.zeroCells z.cells (X - (es.length+ds.length))) :=
     M.append a8 a9 (fun k J=>by
       rw[Array.append_assoc,Array.getElem?_append_left (by simp;omega)];simp[List.getElem?_take,J]) (fun k J=>by
       rw[Array.append_assoc,Array.getElem?_append_right (by simp;omega)];have:es.length*sz+k - (c.toList.take (es.length*sz)).toArray.size=k:=by simp;omega
       rw[this,Array.getElem?_append_left (by simp;omega)];simp)
    have G:=T.mono (fun x y N=>(d2.trans U).dr N);exact .inr ⟨w.heap.size,_,g,X,by rw[Qx,jaj],⟨by rw[jaj];exact b7,by omega⟩,by rw[a3];exact jLj _,Z2 _ _,G.1,G.2⟩)
  exact⟨_,k1,(g2.trans d2).trans k2,.own b (ver+1) _ _ (Qf _ _ _) (jLj _) rfl fun _=>(Qx _ _ _).symm⟩
theorem UR {l:jVj}(h:Vk l=true):l=[]:=by cases l<;>simp_all [Vk]
theorem wM {l:jVj}(h:Vk l=false):l≠[]:=by cases l<;>simp_all [Vk]
theorem Qb7 {a b:Nat}{l:jVj}(h:(Nat.beq a b || Vk l)=true):a=b\/l=[]:=by
 simp only[Bool.or_eq_true] at h;obtain h|h:=h
 ·exact .inl (Z1 h)
 ·exact .inr (UR h)
theorem QgA {ds:jVj}{ob:List Prop}{o' : List Orc}(h:nilO sym orc ds=some (true,ob,o'))(b:∀q,q∈ob->q):ds=[]:=by
 unfold nilO at h;split at h
 ·simp only[jIj,jPj] at h;obtain⟨rfl,rfl,rfl⟩:=h;exact UR (b _ jMj)
 ·split at h
  ·rename_i a;exact UR a
  ·simp at h
 ·cases h
theorem zX {ds:jVj}{ob:List Prop}{o' : List Orc}(h:nilO sym orc ds=some (false,ob,o'))(b:∀q,q∈ob->q):ds≠[]:=by
 unfold nilO at h;split at h
 ·simp only[jIj,jPj] at h;obtain⟨rfl,rfl,rfl⟩:=h;exact wM (b _ jMj)
 ·split at h
  ·simp at h
  ·rename_i a;exact wM a
 ·cases h
theorem Wx {p:Prop}[Decidable p]{ob:List Prop}{o' : List Orc}(h:owe sym orc p=some (ob,o'))(b:∀q,q∈ob->q):p:=by
 unfold owe at h;split at h
 ·simp only[jIj,jPj] at h;obtain⟨rfl,rfl⟩:=h;exact b _ jMj
 ·split at h
  ·rename_i a;exact of_decide_eq_true a
  ·cases h
 ·cases h
theorem YB {a:TypeId}{n:Nat}(h:room cx a n):∃b,cx.bytes a=some b/\n*b<=140737488355328/\0<b:=by
 unfold room at h;split at h
 ·rename_i b c;exact⟨b,c,h⟩
 ·exact h.elim
theorem HSim.name0 (h:HSim cx F hp ρ w){b sz:Nat}{a:Option Addr}(v:look hp b=none) :
  HSim cx F ((b,.row 0 sz [])::hp) (VI ρ b (.slice a 0 0)) w/\Steps1 hp ρ w ((b,.row 0 sz [])::hp) (VI ρ b (.slice a 0 0)) w:=by
 have f:∀q,Mut ((b,.row 0 sz [])::hp) (VI ρ b (.slice a 0 0)) q->Mut hp ρ q:=by
  rintro q ⟨n,t,d,m,i⟩;by_cases c:n=b
  ·subst c;rw[Qx,WG] at i;cases i
  ·rw[Qc _ _ (Ne.symm c)] at d;rw[QL _ _ c] at i;exact⟨n,t,d,m,i⟩
 have o:∀n k1,look hp n=some k1->n≠b:=fun n k1 d e=>by subst e;rw[v] at d;cases d
 have j:Steps1 hp ρ w ((b,.row 0 sz [])::hp) (VI ρ b (.slice a 0 0)) w:=by refine⟨Ext.refl _ _,fun q _ m=>f q m,⟨fun n k1 d=>?_⟩⟩;have c:=o n k1 d;exact⟨k1,by rw[Qc _ _ (Ne.symm c)];exact d,jLj _,fun _=>QL _ _ c⟩
 refine⟨h.step j (fun n t d=>?_) (fun n u k1 x q p s y z k l=>?_) (fun q i=>h.forb q (f q i)),j⟩
 ·by_cases c:n=b
  ·subst c;rw[Qf] at d;cases d;exact .inr (.inl ⟨rfl,a,Qx _ _ _⟩)
  ·rw[Qc _ _ (Ne.symm c)] at d;exact .inl ⟨d,QL _ _ c,fun _ _ _=>rfl⟩
 ·by_cases d:n=b
  ·subst d;rw[Qx,WG] at k;cases k
  ·by_cases g : u=b
   ·subst g;rw[Qx,WG] at l;cases l
   ·rw[QL _ _ d] at k;rw[QL _ _ g] at l;rw[Qc _ _ (Ne.symm d)] at p;rw[Qc _ _ (Ne.symm g)] at s;exact h.inj n u k1 x q p s y z k l
theorem Qfh (h:HSim cx F hp ρ w){t t2:TypeId}{ats:List TypeId}{ty:TypeId}{s x:AV}{sv u:Value}(Z:Ja cx t2=true)
  (l:adup cx sym orc hp t s x=some r) (ho:∀q,q∈r.ob->q) (J:VR w (MM F hp ρ) hp ρ s sv) (b3:VR w (MM F hp ρ) hp ρ x u) :
  ∃v w',(Builtin.append_ (t::t2::ats).toArray ty #[sv,u]).run cx.P w=.ok v w'/\OpOK cx F hp ρ w r.up r.val v w':=by
 unfold adup at l;split at l;case h_2=>cases l
 rename_i f z0 a3 b ver hu;cases b3 with
 | own _ _ k _ hb hv b7 hh =>
 rw[hb] at l;cases k with
 | row ver' sz es =>
  split at l;case h_2=>cases l
  rename_i ver' c2 es' z a4 hs;cases a4;split at l;case h_2=>cases l
  rename_i ob o' hc a9;simp only[jAj] at hc;obtain⟨⟨⟨e1,e2⟩,e3⟩,e4⟩:=hc;have e1:=Z1 e1;have e2:=Z1 e2;subst e1;subst e2;have e4:a3=[]:=UR e4;subst e4;obtain⟨zv,hz,c1,_⟩:=Xh e3;simp only[jIj] at l;subst l;obtain⟨bt,S,o⟩:=YB (Wx a9 ho);rw[hh rfl];cases J with
  | d _ _ J =>
  obtain⟨A,sc,rfl,Y,E,b9,o1,o2,o3,o4,o5⟩:=Y7 J;have Y:=E rfl;subst Y;have V:∀w' : World,w'.heap=w.heap->(Builtin.firstCells sz 0 (.slice A 0 0)).run cx.P w'=.ok (List.toArray []) w':=by
   intro w' K;cases A with
   | none=>simp[Builtin.firstCells]
   | some a=>simp[Builtin.firstCells,loadCells,loadCellsFrom]
  have p:∀xa xc,ρ b=.slice xa 0 xc->es=[]->∃v w',(Builtin.append_ (t::t2::ats).toArray ty #[.slice A 0 0,ρ b]).run cx.P w=.ok v w'/\OpOK cx F hp ρ w [] (.d (.lst false sz es)) v w':=by
   intro xa xc O T;subst T;have a8:∀w' : World,w'.heap=w.heap->(Builtin.firstCells sz 0 (.slice xa 0 xc)).run cx.P w'=.ok (List.toArray []) w':=by
    intro w' K;cases xa with
    | none=>simp[Builtin.firstCells]
    | some a=>simp[Builtin.firstCells,loadCells,loadCellsFrom]
   obtain⟨a1,_⟩:=Y9 (cx:=cx) (w:=w) (ats:=ats) (ty:=ty) hu Z hs S hz (a:=A) (n:=0) (cap:=0) (m:=0) (jLj _) V a8 (by simpa using o);rw[O];refine⟨.slice A 0 0,w,by rw[a1 (by simp)];cases A<;>rfl,OpOK.quiet h (.d _ _ ?_)⟩;exact .lst false sz [] A 0 0 0 (fun _=>undef) (fun _=>rfl) (jLj _) (fun h=>absurd rfl h) (fun i e h=>by simp at h) (fun i e j c h=>by simp at h) (fun i e j c h=>by simp at h)
  obtain⟨rfl,a0,O⟩|⟨r,c,e,cap,O,⟨q2,b5⟩,q3,q4,q5,q6⟩:=h.blk b _ hb
  ·exact p _ _ O rfl
  ·by_cases U:es=[]
   ·subst U;exact p _ _ O rfl
   have b8:0<es.length:=by cases es with
    | nil=>exact absurd rfl U
    | cons _ _=>simp
   have b6:es.length*sz<=c.size:=Nat.le_trans (Nat.mul_le_mul_right _ q2) q3;have W:∀w' : World,w'.heap=w.heap->(Builtin.firstCells sz es.length (.slice (some ⟨r,0,none⟩) es.length cap)).run cx.P w'=.ok (c.toList.take (es.length*sz)).toArray w':=by
    intro w' K;simp only[Builtin.firstCells];refine KT cx.P w' r 0 _ _ (by simp;omega) fun k v N=>?_;rw[List.getElem?_take] at N;split at N
    ·rw[YS (by rw[K];exact q4),Nat.zero_add];simpa using N
    ·cases N
   obtain⟨_,a2⟩:=Y9 (cx:=cx) (w:=w) (ats:=ats) (ty:=ty) hu Z hs S hz (a:=A) (n:=0) (cap:=0) (jLj _) V W o;obtain⟨nc,c0,X⟩:=a2 (by omega);rw[O];refine⟨_,_,X,?_⟩;obtain⟨d1,d2⟩:=h.drew;generalize hC:(List.toArray ([]:List Value))++(c.toList.take (es.length*sz)).toArray++Builtin.zeroCells zv.cells (nc - (0+es.length))=C at *;obtain⟨k1,k2⟩:=d1.alloc (.cells C f);have b2:RowIn w (MM F hp ρ) sz es C:=by
    refine⟨q5,fun i d j a G L=>?_⟩;obtain⟨y,Q,y2⟩:=q6 i d j a G L;have a5:i<es.length:=(jGj G).1;have a6:j<sz:=by have:=(jGj L).1;have:=q5 i d G;omega
    have N:=qc a5 a6;refine⟨y,?_,y2⟩;rw[<-hC,Array.append_assoc,Array.getElem?_append_right (by simp)];rw[Array.getElem?_append_left (by simp;omega)];simpa[List.getElem?_take,N] using Q
   have H:=b2.mono (fun x y hd=>(d2.trans k2).dr hd);have g:(w.drew.alloc (.cells C f)).heap[w.heap.size]?=some (.cells C f (0,0)):=Z2 w.drew _;have a7:w.heap.size<(w.drew.alloc (.cells C f)).heap.size:=by
    obtain q|q:=Nat.lt_or_ge w.heap.size (w.drew.alloc (.cells C f)).heap.size
    ·exact q
    ·rw[Array.getElem?_eq_none q] at g;cases g
   refine⟨ρ,k1,d2.trans k2,.d _ _ ?_⟩;have b4:=DR.lst (w:=w.drew.alloc (.cells C f)) (M:=MM F hp ρ) false sz es (some ⟨w.heap.size,0,none⟩) nc w.heap.size 0 (fun q=>C.getD q undef) (fun q=>by cases q) (by omega)
    (fun _=>⟨rfl,fun q=>by
     obtain q|q:=q
     ·exact Nat.lt_irrefl _ (h.bnd _ q)
     ·exact Nat.lt_irrefl _ (h.mut_lt q),a7⟩) H.1
    (fun i d j a G L=>by
     obtain⟨y,Q,y2,_⟩:=H.2 i d j a G L;have T:C.getD (i*sz+j) undef=y:=by simp[Array.getD_eq_getD_getElem?,Q]
     simp only[T];refine⟨?_,y2⟩;simp only[World.cell?,g,Nat.zero_add,Option.isSome_none];simp[Q])
    (fun i d j a G L=>by
     obtain⟨y,Q,_,y3⟩:=H.2 i d j a G L;have T:C.getD (i*sz+j) undef=y:=by simp[Array.getD_eq_getD_getElem?,Q]
     show DR _ _ a (C.getD (i*sz+j) undef);rw[T];exact y3)
   rw[Nat.zero_add];exact b4
 | _=>simp at l
theorem QaU (h:HSim cx F hp ρ w){name:Nat}{t t2:TypeId}{ats:List TypeId}{ty:TypeId}{s x:AV}{sv u:Value}(C:Ja cx t2=true)
  (f:zi cx sym orc hp name t s x=some r) (M:∀q,q∈r.ob->q) (y:VR w (MM F hp ρ) hp ρ s sv) (E:VR w (MM F hp ρ) hp ρ x u) :
  ∃v w',(Builtin.append_ (t::t2::ats).toArray ty #[sv,u]).run cx.P w=.ok v w'/\OpOK cx F hp ρ w r.up r.val v w':=by
 unfold zi at f;split at f;case h_2=>cases f
 rename_i b7 asz ds L X l;split at f
 ·cases f
 rename_i z W;split at f
 ·cases f
 rename_i hc;simp only[jAj] at hc;have n:=Qb7 hc.1;obtain⟨zv,Y,K,_⟩:=Xh hc.2;split at f
 ·rename_i b ver;cases y with
  | own _ _ k _ V hv b8 hh =>
  rw[V] at f;cases k with
  | box _=>simp at f
  | loop _ _ _ _ _ _=>simp at f
  | mp _=>simp at f
  | it _ _=>simp at f
  | fbox _=>simp at f
  | left _=>simp at f
  | dead=>simp at f
  | frozen _ _ _=>simp at f
  | row ver' sz es =>
   simp only at f;split at f
   ·cases f
   rename_i o;simp only[jAj,Bool.not_eq_true'] at o;have e1:=Z1 o.1.1;have U:=Z1 o.1.2;subst e1;subst U;split at f;case h_2=>cases f
   rename_i ob o' p;have hx:x.toDH hp=some (.lst false asz ds,L)\/x.toDH hp=some (.lst true asz ds,L):=by
    unfold UL at l;split at l<;>simp only[jIj,reduceCtorEq,jPj] at l;rename_i full _ _ _ hd;obtain⟨rfl,rfl,rfl⟩:=l;cases full
    ·exact .inl hd
    ·exact .inr hd
   split at f
   ·simp only[jIj] at f;subst f;obtain⟨bt,m,c⟩:=YB (Wx p M);rw[hh rfl];obtain⟨v,w',a6,ρ',g1,g2,g3⟩:=Qas (ats:=ats) (ty:=ty) h X C W m Y K V hx n o.2 E c;obtain⟨k1,k2⟩:=g1.freeze [b];have a9:Qd (((b,.row (ver+1) sz (es++ds))::Qd hp L)++hp) [b]=[(b,.frozen (ver+1) sz (es++ds))]:=by simp only[Qd,List.cons_append,Qf]
    have b6:(AV.own b (ver+1)).toDH (((b,.row (ver+1) sz (es++ds))::Qd hp L)++hp)=some (.lst false sz (es++ds),[b]):=by simp[AV.toDH,List.cons_append,Qf]
    have a5:=Z8 g1 [b] (.own b (ver+1)) v _ [b] b6 (fun _ h=>h) g3;rw[a9] at k1 k2 a5;exact⟨v,w',a6,ρ',k1,g2.trans k2,.d _ _ a5⟩
   ·simp only[jIj] at f;subst f;obtain⟨bt,m,c⟩:=YB (Wx p M);rw[hh rfl];exact Qas h X C W m Y K V hx n o.2 E c
  | virt ver' sz es =>
   simp only at f;split at f
   ·cases f
   rename_i o;simp only[jAj] at o;have e1:=Z1 o.1;have U:=Qb7 o.2;subst e1;split at f;case h_2=>cases f
   rename_i ob o' p;split at f;case h_2=>cases f
   rename_i a8 o2 j;simp only[jIj] at f;subst f;obtain⟨bt,m,c⟩:=YB (Wx p fun q H=>M q (List.mem_append_right _ H));have j:=zX j fun q H=>M q (List.mem_append_left _ H);rw[hh rfl];refine G0 h X C W m Y K (h.blk b _ V) U (fun k0 A=>?_) l n j E c;obtain i|⟨_,_,_,i,_⟩|⟨_,_,_,i,_⟩|⟨_,i,_⟩:=Wo hp L b
   ·rw[i,V] at A;cases A;exact .inl (Nat.lt_succ_self _)
   ·rw[V] at i;cases i
   ·rw[V] at i;cases i
   ·rw[V] at i;cases i
 ·rename_i sz es;split at f
  ·cases f
  rename_i o;have U:=Qb7 o;cases y with
  | d _ _ y =>
  split at f
  ·split at f;case h_2=>cases f
   rename_i ob o' Z g p;simp only[jIj] at f;subst f;have Z:es=[]:=UR Z;subst Z;obtain⟨bt,m,c⟩:=YB (Wx p M);by_cases S:ds=[]
   ·subst S;obtain⟨xa,xc,O,rfl,a3,a2,n3,b2,b3⟩:=Kh h l n E;obtain⟨J,sc,rfl,N,G,Q,o1,o2,o3,o4,o5⟩:=Y7 y;have N:=G rfl;subst N;have a4:∀w' : World,w'.heap=w.heap->(Builtin.firstCells z ([]:jVj).length (.slice J ([]:jVj).length ([]:jVj).length)).run cx.P w'=.ok Q.toArray w':=by
     intro w' T;have:=o2 cx.P w' T;cases J with
     | none=>simpa[Builtin.firstCells] using this
     | some a=>simpa[Builtin.firstCells,loadCells,loadCellsFrom] using this
    obtain⟨a1,_⟩:=Y9 (cx:=cx) (w:=w) (ats:=ats) (ty:=ty) X C W m Y (a:=J) (cap:=([]:jVj).length) (xa:=xa) (xc:=xc) (jLj _) a4 a2 c;have a0:O=[]:=by simpa using a3
    subst a0;refine⟨.slice J 0 0,w,by rw[a1 (by simp)];cases J<;>rfl,?_⟩;obtain⟨g1,g2⟩:=h.freeze L;have b4:look (Qd hp L++hp) name=none:=by
     obtain i|⟨_,_,_,i,_⟩|⟨_,_,_,i,_⟩|⟨_,i,_⟩:=Wo hp L name
     ·rw[i];exact g
     ·rw[g] at i;cases i
     ·rw[g] at i;cases i
     ·rw[g] at i;cases i
    obtain⟨k1,k2⟩:=g1.name0 (sz:=z) (a:=J) b4;exact⟨_,k1,g2.trans k2,.own name 0 _ _ (Qf _ _ _) (jLj _) rfl fun _=>(Qx _ _ _).symm⟩
   ·refine G0 h X C W m Y K y (.inr rfl) (fun k0 A=>?_) l n S E c;obtain i|⟨_,_,_,i,_⟩|⟨_,_,_,i,_⟩|⟨_,i,_⟩:=Wo hp L name
    ·rw[i,g] at A;cases A
    ·rw[g] at i;cases i
    ·rw[g] at i;cases i
    ·rw[g] at i;cases i
  split at f;case h_2=>cases f
  rename_i ob o' p;split at f
  ·rename_i a8 o2 j;split at f;case h_3=>cases f
   case h_1 =>
    simp only[jIj] at f;subst f;obtain⟨bt,m,c⟩:=YB (Wx p fun q H=>M q (List.mem_append_right _ H));have j:=zX j fun q H=>M q (List.mem_append_left _ H);exact QcF h X C W m Y K y U l n j E c
   rename_i g;simp only[jIj] at f;subst f;obtain⟨bt,m,c⟩:=YB (Wx p fun q H=>M q (List.mem_append_right _ H));have j:=zX j fun q H=>M q (List.mem_append_left _ H);refine G0 h X C W m Y K y U (fun k0 A=>?_) l n j E c;obtain i|⟨_,_,_,i,_⟩|⟨_,_,_,i,_⟩|⟨_,i,_⟩:=Wo hp L name
   ·rw[i,g] at A;cases A
   ·rw[g] at i;cases i
   ·rw[g] at i;cases i
   ·rw[g] at i;cases i
  ·rename_i a8 o2 j;simp only[jIj] at f;subst f;obtain⟨bt,m,c⟩:=YB (Wx p fun q H=>M q (List.mem_append_right _ H));have S:=QgA j fun q H=>M q (List.mem_append_left _ H);subst S;obtain⟨xa,xc,O,rfl,a3,a2,n3,b2,b3⟩:=Kh h l n E;obtain⟨J,sc,rfl,N,G,Q,o1,o2,o3,o4,o5⟩:=Y7 y;have N:=G rfl;subst N;have a4:∀w' : World,w'.heap=w.heap->(Builtin.firstCells z es.length (.slice J es.length es.length)).run cx.P w'=.ok Q.toArray w':=by
    intro w' T;obtain e|e:=U
    ·rw[<-e];exact o2 _ _ T
    ·have:=o2 cx.P w' T;subst e;cases J with
     | none=>simpa[Builtin.firstCells] using this
     | some a=>simpa[Builtin.firstCells,loadCells,loadCellsFrom] using this
   obtain⟨a1,_⟩:=Y9 (cx:=cx) (w:=w) (ats:=ats) (ty:=ty) X C W m Y (a:=J) (cap:=es.length) (xa:=xa) (xc:=xc) (jLj _) a4 a2 c;have a0:O=[]:=by simpa using a3
   subst a0;refine⟨.slice J es.length es.length,w,by rw[a1 (by simp)];cases J<;>rfl,?_⟩;refine OpOK.frz h L (.d _ _ ?_);have a7:=(h.freeze L).2.dr y;cases a7 with
   | lst _ _ _ _ _ blk off ys hf b9 ha b5 hw hd =>
    obtain e|e:=U
    ·subst e;exact .lst true _ es J es.length blk off ys (fun _=>rfl) (jLj _) ha b5 hw hd
    ·subst e;exact .lst true z [] J 0 blk off ys (fun _=>rfl) (jLj _) ha (by simp) (by simp) (by simp)
  ·cases f
 ·cases f
end
section
variable {cx:Cx}{F:Nat->Prop}{hp:List (Nat×Blk)}{ρ:Nat->Value}{w:World}{re:Operand->Value}{ev:Operand->AV}{sym:Bool}{orc:List Orc}{r:R}
theorem yv (h:HSim cx F hp ρ w){name:Nat}{t c:TypeId}{n m:Int}{kn W:IntKind}{s b:Nat}{z:Value}(hu:cx.P.underlying t=some (.slice c))(O:cx.sz c=some s)(J:cx.zero c=some z)(G:cx.bytes c=some b)
  (o:look hp name=none) (N:ET cx c s=true) (hc:0<=n/\n<=m/\b*m<=281474976710656/\m<=9223372036854775807) :
  ∃v w',(Instr.makeSlice t (.int kn n) (.int W m)).run cx.P w=.ok v w'/\OpOK cx F hp ρ w [(name,.row 0 s (List.replicate n.toNat (ofV z)))] (.own name 0) v w':=by
 have p:∃i,cx.P.info? c=some i/\i.bytes=b/\i.size=s/\i.zero=some z:=by
  unfold Cx.bytes at G;unfold Cx.sz at O;unfold Cx.zero at J;split at G
  ·rename_i i p;rw[p] at O J;exact⟨i,p,by simpa using G,by simpa using O,J⟩
  ·cases G
 obtain⟨i,p,rfl,rfl,S⟩:=p;obtain⟨z',C,E,T⟩:=Xh N;rw[J] at C;cases C;refine⟨_,_,run_make w t c i z hu p S kn W n m hc.1 hc.2.1 hc.2.2.1 hc.2.2.2,?_⟩;have g:∀(j:Nat) (a:D),(ofV z).cells[j]?=some a->∃y,z.cells[j]?=some y/\one y=true/\∀M,DR w M a y:=by
  intro j a V;have u:=GP z;have f:j<z.cells.size:=by have:=(jGj V).1;simpa using(u ▸ (by simpa using this):j<z.cells.size)
  refine⟨z.cells[j],by simp[f],T _ (by simp),fun M=>?_⟩;have:=J7 (hp:=[]) (ρ:=fun _=>undef) (F:=M) (w:=w) z j (.d a) z.cells[j] (by simp[V]) (by simp[f]);cases this;rename_i e;exact e.ext (jLj _) (fun _ _ _=>rfl) (fun _ _ Z=>.inl Z)
 have K:(ofV z).cells.length=i.size:=by have:=GP z;simpa[E] using this
 obtain⟨X,Y⟩:=h.fresh (b:=name) (k:=.row 0 i.size (List.replicate n.toNat (ofV z))) (v:=.slice (some ⟨w.heap.size,0,none⟩) n.toNat m.toNat)
  (madeCells z.cells (m.toNat*i.size)) c (fun r H=>by
    by_cases l:m.toNat=0
    ·rw[l,WG] at H;cases H
    ·rw[Q8 (by omega)] at H;exact(Option.some.inj H).symm) (fun k0 q=>by rw[o] at q;cases q) (fun Q=>by
   by_cases l:m.toNat=0
   ·have A:n.toNat=0:=by omega
    exact .inl ⟨by rw[A];rfl,some ⟨w.heap.size,0,none⟩,by rw[Qx,l,A]⟩
   refine .inr ⟨w.heap.size,_,c,m.toNat,by rw[Qx,List.length_replicate],⟨by rw[List.length_replicate];omega,by omega⟩,by rw[size_madeCells];exact jLj _,Z2 _ _,fun k d e=>?_,fun k d j a e U=>?_⟩
   ·rw[List.getElem?_replicate] at e;split at e<;>simp only[jIj,reduceCtorEq] at e;subst e;exact K
   ·rw[List.getElem?_replicate] at e;split at e<;>simp only[jIj,reduceCtorEq] at e;rename_i hk;subst e;obtain⟨y,y1,y2,y3⟩:=g j a U;have f:j<i.size:=by have:=(jGj U).1;omega
    refine⟨y,?_,y2,Q.dr (F:=F) (y3 _)⟩;have L:k*i.size+j<m.toNat*i.size:=qc (by omega) f;have x:(k*i.size+j) % z.cells.size=j:=by rw[E,Nat.mul_comm,Nat.mul_add_mod];exact Nat.mod_eq_of_lt f
    rw[madeCells,Array.getElem?_map,Array.getElem?_range,jTj L,Option.map_some,x,getElem!_def,y1])
 exact⟨_,X,Y,.own name 0 _ _ (Qf _ _ _) (jLj _) rfl fun _=>(Qx _ _ _).symm⟩
theorem Qb3 (h:HSim cx F hp ρ w)(hev:∀x,VR w (MM F hp ρ) hp ρ (ev x) (re x)){t:TypeId}{len name:Nat}{parts:Array (Nat×Operand)}{orc:List Orc}{r:R}
  (c:Qb4 cx hp name t len (parts.toList.map fun p=>(p.1,ev p.2)) orc=some r) :
  ∃v w',(Instr.buildSlice t len (parts.map fun(i,x)=>(i,re x))).run cx.P w=.ok v w'/\OpOK cx F hp ρ w r.up r.val v w':=by
 unfold Qb4 at c;split at c;case h_2=>cases c
 rename_i e T l;split at c;case h_2=>cases c
 rename_i s z S U;split at c;case h_2=>cases c
 rename_i es O;split at c;case h_2=>cases c
 rename_i hc;simp only[jAj] at hc;simp only[jIj] at c;subst c;have Q:=Nat.le_of_ble_eq_true hc.1.1;have f:parts.toList.length=len:=by simpa using Z1 hc.1.2
 have g:0<len:=by simpa using hc.2
 obtain⟨W,X⟩:=wB hev parts.toList;have q:(parts.map fun(p:Nat×Operand)=>(p.1,re p.2)).toList=parts.toList.map fun p=>(p.1,re p.2):=by simp
 let n:Array Value:=if len*s=0 then #[] else z.cells;obtain⟨H,u,L,g3,M,J⟩:=E8 h [] _ _ 0 es [] ((Array.range (len*s)).map (n[· % n.size]!)) O (fun _ h=>h) W X (by simp[f]);have E:es.length=len:=by rw[M];simpa using f
 refine⟨.slice (some ⟨w.heap.size,0,none⟩) len len,w.alloc (.cells H e),?_,?_⟩
 ·simp only[Instr.buildSlice,Sem.run_bind,Qk T,Result.andThen_ok,Q7 S];rw[jFj (by omega)];by_cases A:len*s=0
  ·have m:n=#[]:=by simp[n,A]
   rw[m] at u;rw[jTj A];simp only[Sem.run_bind,Sem.run_pure,Result.andThen_ok];rw[q,u];simp only[newRow,Sem.run_bind,run_newObj,Result.andThen_ok,Sem.run_pure,World.alloc_eq]
  ·have m:n=z.cells:=by simp[n,A]
   rw[m] at u;rw[jFj A];simp only[Sem.run_bind,Sem.run_pure,Y2 U,Result.andThen_ok];rw[q,u];simp only[newRow,Sem.run_bind,run_newObj,Result.andThen_ok,Sem.run_pure,World.alloc_eq]
 ·obtain⟨k1,V⟩:=h.fresh (b:=name) (k:=.row 0 s es) (v:=.slice (some ⟨w.heap.size,0,none⟩) len len) H e
   (fun r c=>by rw[Q8 g] at c;exact(Option.some.inj c).symm) (fun k0 o=>by rw[l] at o;cases o)
   (fun G=>.inr ⟨w.heap.size,_,e,len,by rw[Qx,E],⟨by omega,g⟩,by rw[L];simp,Z2 _ _,fun k d C=>(J k d C).1,fun k d j a C N=>by obtain⟨y,K,Y,Z⟩:=(J k d C).2 j a N;rw[Nat.zero_add] at K;exact⟨y,K,Y,G.dr (F:=F) Z⟩⟩)
  exact⟨_,k1,V,.own name 0 _ _ (Qf _ _ _) (jLj _) rfl fun _=>(Qx _ _ _).symm⟩
theorem zy (a:Array Value)(n i:Nat)(h:i<n*a.size):(Builtin.zeroCells a n)[i]?=some (a[i % a.size]!):=by
 unfold Builtin.zeroCells;rw[Array.getElem?_map];have:(Array.range (n*a.size))[i]?=some i:=by simp[h]
 rw[this];rfl
theorem Qic {t t2 c:TypeId}{U:IntKind}{sz b:Nat}{z:Value}{ats:List TypeId}{ty:TypeId}(Q:cx.P.underlying t=some (.slice c))(x:cx.P.underlying t2=some (.int U))(O:cx.sz c=some sz)(g:cx.bytes c=some b)
  (T:cx.zero c=some z) (v:0<sz) {a:Option Addr} {m:Int} (W:0<m) (d:m.toNat*b<=140737488355328/\0<b) :
  ∃y,m.toNat<=y/\(Builtin.append_ (t::t2::ats).toArray ty #[.slice a 0 0,.int .i64 m]).run cx.P w =
    .ok (.slice (some ⟨w.heap.size,0,none⟩) m.toNat y) (w.drew.alloc (.cells (Builtin.zeroCells z.cells m.toNat++Builtin.zeroCells z.cells (y - m.toNat)) c)):=by
 have e:∃i,cx.P.info? c=some i/\i.bytes=b:=by
  unfold Cx.bytes at g;split at g
  ·rename_i i e;exact⟨i,e,by simpa using g⟩
  ·cases g
 obtain⟨i,e,u⟩:=e;obtain⟨n,rfl⟩:∃n:Nat,m=(n:Int):=⟨m.toNat,by omega⟩
 simp only[jtj] at d ⊢;have N:0<n:=by omega
 have j:n<=140737488355328:=by
  calc n=n*1:=by omega
   _<=n*b:=Nat.mul_le_mul_left _ d.2
   _<=_:=d.1
 have S:IntKind.i64.wrap (n:Int)=(n:Int):=by rw[IntKind.wrap_i64];omega
 have C:∀w' : World,(Builtin.firstCells sz 0 (.slice a 0 0)).run cx.P w'=.ok #[] w':=by
  intro w';cases a with
  | none=>simp[Builtin.firstCells]
  | some a=>simp[Builtin.firstCells,loadCells,loadCellsFrom]
 have E:=Q7 O w;have G:=Qk Q w;have H:=Qk x w;have V:=growslice_fits (need:=n) (old:=0) (bytes:=b) (by omega) d.1;have J:=Jv e w;have s:=Jv e w.drew;have K:=Y2 T w.drew;refine⟨grownCap w n 0 c,by simpa using grownCap_ge w n 0 c,?_⟩;have f:¬(9223372036854775807<(n:Int)):=by omega
 subst u;have L:¬(281474976710656<Builtin.nextslicecap n 0*i.bytes):=by omega
 have M:(Question.appendCap n 0 c).forced=false:=rfl;have k:(Question.appendCap n 0 c).cut (w.tape w.drawn (Question.appendCap n 0 c))=grownCap w n 0 c:=rfl;have l:¬(281474976710656<(n:Int)*(i.bytes:Int)):=by have h:=Int.ofNat_le.2 d.1;rw[<-Int.natCast_mul];omega
 have o:¬(n*sz=0):=by have:=Nat.mul_pos N v;omega
 have p:¬((n:Int)<0):=by omega
 have q:n≠0:=by omega
 have A:(asInt (.int .i64 (n:Int))).run cx.P w=.ok (n:Int) w:=by simp[asInt,asIntOf]
 simp[Builtin.append_,E,G,H,A,S,p,J,l,f,L,M,k,s,C,K,q];rw[jFj o];simp[newRow]
theorem QeS (h:HSim cx F hp ρ w){name:Nat}{t t2:TypeId}{ats:List TypeId}{ty:TypeId}{s x:AV}{sv u:Value}(g:Qf7 cx sym orc hp name t t2 s x=some r)(ho:∀q,q∈r.ob->q)
  (p:VR w (MM F hp ρ) hp ρ s sv) (a3:VR w (MM F hp ρ) hp ρ x u) :
  ∃v w',(Builtin.append_ (t::t2::ats).toArray ty #[sv,u]).run cx.P w=.ok v w'/\OpOK cx F hp ρ w r.up r.val v w':=by
 unfold Qf7 at g;split at g;case h_2=>cases g
 rename_i i k2 a7 es m hu a2;split at g;case h_2=>cases g
 rename_i sz z hs hz K n;split at g;case h_2=>cases g
 rename_i ob o' hc X;simp only[jIj] at g;subst g;simp only[jAj,Nat.blt_eq] at hc;obtain⟨W,a0⟩:=hc;obtain⟨U,Y⟩:=Wx X ho;obtain⟨b,hb,o⟩:=YB Y;have T:=UR K;subst T;have a1:u=.int .i64 m:=by cases a3 with|d _ _ c=>cases c;rfl
 subst a1;cases p with
 | d _ _ p =>
 obtain⟨a,rfl⟩:∃a,sv=.slice a 0 0:=by
  cases p with
  | lst _ _ _ a cap blk off ys hf a5 Q a6 hw c =>
   have:=hf rfl;simp only[List.length_nil] at this ⊢;subst this;exact⟨a,rfl⟩
 obtain⟨z',N,f,a4⟩:=Xh W;rw[hz] at N;cases N;obtain⟨O,V,L⟩:=Qic (w:=w) (ats:=ats) (ty:=ty) (a:=a) hu a2 hs hb hz a0 U o;refine⟨_,_,L,?_⟩;have l:∀(j:Nat) (a:D),(ofV z).cells[j]?=some a->∃y,z.cells[j]?=some y/\one y=true/\∀M,DR w M a y:=by
  intro j a hj;have G:=GP z;have e:j<z.cells.size:=by have:=(jGj hj).1;simpa using(G ▸ (by simpa using this):j<z.cells.size)
  refine⟨z.cells[j],by simp[e],a4 _ (by simp),fun M=>?_⟩;have:=J7 (hp:=[]) (ρ:=fun _=>undef) (F:=M) (w:=w) z j (.d a) z.cells[j] (by simp[hj]) (by simp[e]);cases this;rename_i c;exact c.ext (jLj _) (fun _ _ _=>rfl) (fun _ _ U=>.inl U)
 have S:(ofV z).cells.length=sz:=by have:=GP z;simpa[f] using this
 obtain⟨d1,d2⟩:=h.drew;have A:(Builtin.zeroCells z.cells m.toNat++Builtin.zeroCells z.cells (O - m.toNat)).size=O*sz:=by simp only[Array.size_append,size_zeroCells,f];rw[<-Nat.add_mul];congr 1;omega
 obtain⟨k1,k2⟩:=d1.fresh (b:=name) (k:=.row 0 sz (List.replicate m.toNat (ofV z))) (v:=.slice (some ⟨w.heap.size,0,none⟩) m.toNat O)
  (Builtin.zeroCells z.cells m.toNat++Builtin.zeroCells z.cells (O - m.toNat)) i (fun r g=>by rw[Q8 (by omega)] at g;exact(Option.some.inj g).symm) (fun k0 E=>by rw[n] at E;cases E)
  (fun Z=>by
   refine .inr ⟨w.heap.size,_,i,O,by rw[Qx,List.length_replicate],⟨by rw[List.length_replicate];exact V,by omega⟩,by rw[A];exact jLj _,Z2 _ _,fun k d c=>?_,fun k d j a c Q=>?_⟩
   ·rw[List.getElem?_replicate] at c;split at c<;>simp only[jIj,reduceCtorEq] at c;subst c;exact S
   ·rw[List.getElem?_replicate] at c;split at c<;>simp only[jIj,reduceCtorEq] at c;rename_i hk;subst c;obtain⟨y,y1,y2,y3⟩:=l j a Q;have e:j<sz:=by have:=(jGj Q).1;omega
    refine⟨y,?_,y2,(d2.trans Z).dr (F:=F) (y3 _)⟩;have H:k*sz+j<m.toNat*sz:=qc (by omega) e;have J:(k*sz+j) % z.cells.size=j:=by rw[f,Nat.mul_comm,Nat.mul_add_mod];exact Nat.mod_eq_of_lt e
    rw[Array.getElem?_append_left (by rw[size_zeroCells,f];exact H),zy _ _ _ (by rw[f];exact H),J];have C:j<z.cells.size:=by rw[f];exact e
    rw[Array.getElem?_eq_getElem C] at y1;simp only[jIj] at y1;simp[C,y1])
 exact⟨_,k1,d2.trans k2,.own name 0 _ _ (Qf _ _ _) (jLj _) rfl fun _=>(Qx _ _ _).symm⟩
theorem Qe7 (h:HSim cx F hp ρ w){t:TypeId}{ats:List TypeId}{ty:TypeId}{d s:AV}{dv sv:Value}(A:QbL cx orc hp t d s=some r)(H:VR w (MM F hp ρ) hp ρ d dv)(a8:VR w (MM F hp ρ) hp ρ s sv) :
  ∃v w',(Builtin.copy_ (t::ats).toArray ty #[dv,sv]).run cx.P w=.ok v w'/\OpOK cx F hp ρ w r.up r.val v w':=by
 unfold QbL at A;split at A;case h_2=>cases A
 rename_i a9 b ver asz ds u hu o;cases H with
 | own _ _ k _ hb hv b5 hh =>
 split at A;case h_2=>cases A
 rename_i ver' sz es z O hz;rw[hb] at O;cases O;split at A;case h_2=>cases A
 rename_i hc;simp only[jAj,Bool.not_eq_true'] at hc;have e1:=Z1 hc.1.1.1;have e2:=Z1 hc.1.1.2;have e3:=Qb7 hc.1.2;have Q:=hc.2;subst e1;subst e2;simp only[jIj] at A;subst A;rw[hh rfl];obtain⟨g1,g2⟩:=h.freeze u;have V:¬b∈u:=by
  intro U;have:u.contains b=true:=by simpa using U
  rw[this] at Q;cases Q
 have G:look (Qd hp u++hp) b=some (.row ver sz es):=by
  have:∀l:List Nat,¬b∈l->look (Qd hp l++hp) b=look hp b:=by
   intro l;induction l with
   | nil=>intro _;rfl
   | cons q l ih =>
    intro x;simp only[List.mem_cons,not_or] at x;simp only[Qd];split
    ·rw[List.cons_append,Qc _ _ (fun e=>x.1 e.symm)];exact ih x.2
    ·split
     ·rw[List.cons_append,Qc _ _ (fun e=>x.1 e.symm)];exact ih x.2
     ·exact ih x.2
    ·rw[List.cons_append,Qc _ _ (fun e=>x.1 e.symm)];exact ih x.2
    ·exact ih x.2
  rw[this u V];exact hb
 have J:∃full,DR w (MM F (Qd hp u++hp) ρ) (.lst full asz ds) sv:=by unfold UL at o;split at o<;>simp only[jIj,reduceCtorEq,jPj] at o;rename_i full b8 es' M H;obtain⟨rfl,rfl,rfl⟩:=o;exact⟨full,Z8 h M s sv _ M H (fun _ h=>h) a8⟩
 obtain⟨full,J⟩:=J;obtain⟨xa,xc,rfl,b7,_,f,n1,n2,n3,n4,n5⟩:=wR J;have b6:f.length=ds.length*sz:=by
  obtain e|e:=e3
  ·rw[<-e];exact n1
  ·rw[e] at n1 ⊢;simpa using n1
 have X:∀m,m<=ds.length->(Builtin.firstCells sz m (.slice xa ds.length xc)).run cx.P w=.ok (f.take (m*sz)).toArray w:=by
  intro m U;obtain e|e:=e3
  ·rw[<-e];exact n2 _ _ rfl m U
  ·have:=n2 cx.P w rfl m U;subst e;have a4:m=0:=by simpa using U
   subst a4;have a6:f=[]:=by simpa using n1
   subst a6;cases xa with
   | none=>simpa[Builtin.firstCells] using this
   | some a=>simpa[Builtin.firstCells,loadCells,loadCellsFrom] using this
 have Y:∀(i:Nat) (d:D),ds[i]?=some d->d.cells.length=sz:=by
  obtain e|e:=e3
  ·rw[<-e];exact n4
  ·subst e;intro i d H;simp at H
 have a7:∀(i:Nat) (d:D) (j:Nat) (c:D),ds[i]?=some d->d.cells[j]?=some c->∃y,f[i*sz+j]?=some y/\one y=true/\DR w (MM F (Qd hp u++hp) ρ) c y:=by
  obtain e|e:=e3
  ·rw[<-e];exact n5
  ·subst e;intro i d j c H;simp at H
 obtain⟨a1,a0,L⟩|⟨rr,c,e,cap,L,⟨q2,p⟩,q3,q4,q5,q6⟩:=g1.blk b _ G
 ·subst a1;rw[L];refine⟨.int .i64 (min ds.length 0:Nat),w,?_,?_⟩
  ·have h1:=Qk hu w;have h2:=Q7 hz w;have N:=X 0 (Nat.zero_le _);simp only[Nat.zero_mul,List.take_zero] at N;cases a0 with
   | none=>simp[Builtin.copy_,h1,h2,Builtin.lenOf,N,goInt]
   | some a0=>simp[Builtin.copy_,h1,h2,Builtin.lenOf,N,goInt,storeCells]
  ·have C:∀n,look ((b,Blk.row ver sz (ds.take ([]:jVj).length++([]:jVj).drop ds.length))::(Qd hp u++hp)) n=look (Qd hp u++hp) n:=by
    intro n;by_cases hn:n=b
    ·subst hn;rw[Qf,G];simp
    ·rw[Qc _ _ (Ne.symm hn)]
   obtain⟨k1,k2⟩:=W6 C g1;exact⟨_,k1,g2.trans k2,.d _ _ (.v _)⟩
 rw[L];have b2:es.length*sz<=c.size:=Nat.le_trans (Nat.mul_le_mul_right _ q2) q3;have W:min ds.length es.length<=ds.length:=Nat.min_le_left _ _;have a5:min ds.length es.length<=es.length:=Nat.min_le_right _ _;have b3:min ds.length es.length*sz<=ds.length*sz:=Nat.mul_le_mul_right _ W;have b4:min ds.length es.length*sz<=es.length*sz:=Nat.mul_le_mul_right _ a5;have K:(f.take (min ds.length es.length*sz)).length=min ds.length es.length*sz:=by rw[List.length_take];omega
 obtain⟨w',s1,s2,s3⟩:=U0 cx.P rr 0 (f.take (min ds.length es.length*sz)) 0 w c e q4 (by rw[K];omega) (fun v hv=>(Uf (n3 v (List.mem_of_mem_take hv))).2);refine⟨.int .i64 (min ds.length es.length:Nat),w',?_,?_⟩
 ·have h1:=Qk hu w;have h2:=Q7 hz w;have N:=X _ W;simp[Builtin.copy_,h1,h2,Builtin.lenOf,N,s1,goInt]
 ·obtain⟨k1,k2⟩:=g1.write (b:=b) (k:=.row ver sz (ds.take es.length++es.drop ds.length)) (v:=ρ b) G rfl (r:=rr) (by rw[L];exact Q8 p) (by rw[L];exact Q8 p) (.inr ⟨rfl,rfl⟩) s3 (fun Z=>by
   have E:(ds.take es.length++es.drop ds.length).length=es.length:=by simp;omega
   have S:∀k,(Ky c (0+0) (f.take (min ds.length es.length*sz)))[k]?=if k<min ds.length es.length*sz then f[k]? else c[k]?:=by
    intro k;rw[V8 _ _ _ (by rw[K];omega),K];by_cases hk:k<min ds.length es.length*sz
    ·rw[jTj (by omega),jTj hk];simp only[Nat.zero_add,Nat.sub_zero,List.getElem?_take,hk,if_true]
    ·rw[jFj (by omega),jFj hk]
   refine .inr ⟨rr,_,e,cap,by rw[Qx,L,E],⟨by rw[E];exact q2,p⟩,by rw[Ud];exact q3,s2,fun i d g=>?_,fun i d j a g hj=>?_⟩
   ·by_cases C:i<(ds.take es.length).length
    ·rw[List.getElem?_append_left C,List.getElem?_take] at g;split at g
     ·exact Y i d g
     ·cases g
    ·rw[List.getElem?_append_right (by omega),List.getElem?_drop] at g;exact q5 _ d g
   ·by_cases C:i<(ds.take es.length).length
    ·rw[List.getElem?_append_left C,List.getElem?_take] at g;split at g
     ·have a3:j<sz:=by have:=(jGj hj).1;have:=Y i d g;omega
      obtain⟨y,y1,y2,y3⟩:=a7 i d j a g hj;refine⟨y,?_,y2,Z.dr y3⟩;rw[S,jTj (qc (by simp at C;omega) a3)];exact y1
     ·cases g
    ·have a2:min ds.length es.length<=i:=by simp at C;omega
     rw[List.getElem?_append_right (by omega),List.getElem?_drop] at g;have T:ds.length+(i - (ds.take es.length).length)=i:=by have:=(jGj g).1;simp at C this ⊢;omega
     rw[T] at g;obtain⟨y,y1,y2,y3⟩:=q6 i d j a g hj;refine⟨y,?_,y2,Z.dr y3⟩;have:min ds.length es.length*sz<=i*sz:=Nat.mul_le_mul_right _ a2;rw[S,jFj (by omega)];exact y1)
  exact⟨_,k1,g2.trans k2,.d _ _ (.v _)⟩
theorem Qeb (h:HSim cx F hp ρ w){t:TypeId}{ats:List TypeId}{ty:TypeId}{x:AV}{xv:Value}(C:QcJ cx sym orc hp t x=some r)(ho:∀q,q∈r.ob->q)(hx:VR w (MM F hp ρ) hp ρ x xv) :
  ∃v w',(Builtin.clear_ (t::ats).toArray ty #[xv]).run cx.P w=.ok v w'/\OpOK cx F hp ρ w r.up r.val v w':=by
 unfold QcJ at C;split at C;case h_2=>cases C
 rename_i b4 b ver sz f n hu;split at C;case h_2=>cases C
 rename_i ver' b7 es z hb hz;split at C;case h_2=>cases C
 rename_i ob o' hc a8;simp only[jAj] at hc;have e1:=Z1 hc.1.1;have e2:=Z1 hc.1.2;have a7:=hc.2;subst e1;subst e2;simp only[jIj] at C;subst C;obtain⟨hn,V⟩:=Wx a8 ho;obtain⟨z',a1,u,a2⟩:=Xh a7;rw[hz] at a1;cases a1;cases hx with
 | sub _ _ _ _ _ kk _ O hv b5 hh =>
 rw[hb] at O;cases O;obtain⟨r0,b3,X,rfl⟩:=hh rfl;obtain⟨a4,a0,q1⟩|⟨rr,c,e,cap,q1,⟨q2,p⟩,q3,q4,q5,q6⟩:=h.blk b _ hb
 ·subst a4;simp only[List.length_nil] at V;omega
 have a9:r0=rr:=by rw[q1,Q8 p] at X;exact(Option.some.inj X).symm
 subst a9;have H:∀(j:Nat) (a:D),(ofV z).cells[j]?=some a->∃y,z.cells[j]?=some y/\one y=true/\∀M,DR w M a y:=by
  intro j a J;have s:=GP z;have l:j<z.cells.size:=by have:=(jGj J).1;simpa using(s ▸ (by simpa using this):j<z.cells.size)
  refine⟨z.cells[j],by simp[l],a2 _ (by simp),fun M=>?_⟩;have:=J7 (hp:=[]) (ρ:=fun _=>undef) (F:=M) (w:=w) z j (.d a) z.cells[j] (by simp[J]) (by simp[l]);cases this;rename_i hd;exact hd.ext (jLj _) (fun _ _ _=>rfl) (fun _ _ hm=>.inl hm)
 have a3:(ofV z).cells.length=sz:=by have:=GP z;simpa[u] using this
 have g:(Builtin.zeroCells z.cells n).toList.length=n*sz:=by rw[Array.length_toList,size_zeroCells,u]
 have S:(f+n)*sz<=c.size:=Nat.le_trans (Nat.mul_le_mul_right _ (Nat.le_trans V q2)) q3;rw[Nat.add_mul] at S;have E:∀k,k<n*sz->(Builtin.zeroCells z.cells n)[k]?=some (z.cells[k % z.cells.size]!):=fun k N=>zy _ _ _ (by rw[u];exact N);obtain⟨w',s1,s2,s3⟩:=U0 cx.P r0 (f*sz) (Builtin.zeroCells z.cells n).toList 0 w c e q4 (by rw[g];omega) (fun v hv=>by
  obtain⟨k,N⟩:=List.getElem?_of_mem hv;have K:=(jGj N).1;rw[g] at K;rw[Array.getElem?_toList,E k K] at N;have b2:0<z.cells.size:=by
   rw[u];obtain h0|h0:=Nat.eq_zero_or_pos sz
   ·rw[h0] at K;omega
   ·exact h0
  have hm:=Nat.mod_lt k b2;simp only[jIj] at N;rw[<-N];refine(Uf (a2 _ ?_)).2;simp[hm])
 refine⟨.tuple #[],w',?_,?_⟩
 ·have A:=Qk hu w;have L:=Y2 hz w;obtain⟨m,rfl⟩:∃m,n=m+1:=⟨n - 1,by omega⟩
  simp[Builtin.clear_,A,L,s1]
 ·obtain⟨k1,k2⟩:=h.write (b:=b) (k:=.row ver sz (es.take f++(List.replicate n (ofV z)++es.drop (f+n)))) (v:=ρ b) hb rfl (r:=r0) (by rw[q1];exact Q8 p) (by rw[q1];exact Q8 p) (.inr ⟨rfl,rfl⟩) s3 (fun Y=>by
   have s:(es.take f++(List.replicate n (ofV z)++es.drop (f+n))).length=es.length:=by simp;omega
   have T:∀k,(Ky c (f*sz+0) (Builtin.zeroCells z.cells n).toList)[k]?=if f*sz<=k/\k<f*sz+n*sz then(Builtin.zeroCells z.cells n)[k - f*sz]? else c[k]?:=by intro k;rw[V8 _ _ _ (by rw[g];omega),g,Nat.add_zero,Array.getElem?_toList]
   have Q:∀i,(es.take f++(List.replicate n (ofV z)++es.drop (f+n)))[i]?=if i<f then es[i]? else if i<f+n then some (ofV z) else es[i]?:=by
    intro i;have ht:(es.take f).length=f:=by simp;omega
    by_cases A:i<f
    ·rw[jTj A,List.getElem?_append_left (by omega),List.getElem?_take,jTj A]
    ·rw[jFj A,List.getElem?_append_right (by omega),ht];by_cases L:i<f+n
     ·rw[jTj L,List.getElem?_append_left (by simp;omega),List.getElem?_replicate,jTj (by omega)]
     ·rw[jFj L,List.getElem?_append_right (by simp;omega),List.getElem?_drop,List.length_replicate];congr 1;omega
   refine .inr ⟨r0,_,e,cap,by rw[Qx,q1,s],⟨by rw[s];exact q2,p⟩,by rw[Ud];exact q3,s2,fun i d o=>?_,fun i d j a o J=>?_⟩
   ·rw[Q] at o;split at o
    ·exact q5 i d o
    ·split at o
     ·cases o;exact a3
     ·exact q5 i d o
   ·rw[Q] at o;have G:es[i]?=some d->(i<f\/f+n<=i)->∃y,(Ky c (f*sz+0) (Builtin.zeroCells z.cells n).toList)[i*sz+j]?=some y/\one y=true/\DR w' (MM F ((b,Blk.row ver sz (es.take f++(List.replicate n (ofV z)++es.drop (f+n))))::hp) (VI ρ b (ρ b))) a y:=by
     intro o a5;obtain⟨y,y1,y2,y3⟩:=q6 i d j a o J;refine⟨y,?_,y2,Y.dr y3⟩;have l:j<sz:=by have:=(jGj J).1;have:=q5 i d o;omega
     rw[T,jFj ?_];exact y1;intro hq;obtain hl|hl:=a5
     ·have:=qc hl l;omega
     ·have:(f+n)*sz<=i*sz:=Nat.mul_le_mul_right _ hl;rw[Nat.add_mul] at this;omega
    split at o
    ·rename_i A;exact G o (.inl A)
    ·split at o
     ·rename_i A L;cases o;obtain⟨y,y1,y2,y3⟩:=H j a J;have l:j<sz:=by have:=(jGj J).1;omega
      refine⟨y,?_,y2,(Y.dr (y3 _))⟩;have b6:f*sz<=i*sz:=Nat.mul_le_mul_right _ (by omega);have a6:(i - f)*sz+j<n*sz:=qc (by omega) l;have Z:i*sz+j - f*sz=(i - f)*sz+j:=by rw[Nat.sub_mul];omega
      have W:((i - f)*sz+j) % z.cells.size=j:=by rw[u,Nat.mul_comm,Nat.mul_add_mod];exact Nat.mod_eq_of_lt l
      rw[T,jTj ⟨by omega,by omega⟩,Z,E _ a6,W];have U:j<z.cells.size:=by rw[u];exact l
      rw[Array.getElem?_eq_getElem U] at y1;simp only[jIj] at y1;simp[U,y1]
     ·rename_i A L;exact G o (.inr (by omega)))
  exact⟨_,k1,k2,.tup [] [] rfl (fun i c y hc _=>by simp at hc)⟩
theorem E0 {es:jVj}{i:Int}{y:D}{ob:List Prop}{o' : List Orc}(h:Qds sym orc es i=some (y,ob,o'))(c:∀q,q∈ob->q):0<=i/\es[i.toNat]?=some y:=by
 unfold Qds at h;split at h
 ·simp only[jIj,jPj] at h;obtain⟨rfl,rfl,rfl⟩:=h;have d:=c _ jMj;have a:=c _ (jmj _ jMj);rw[ZY] at a;exact⟨d,a⟩
 ·split at h
  ·rename_i e b;simp only[jIj,jPj] at h;obtain⟨rfl,rfl,rfl⟩:=h;rw[ZY] at b;exact⟨of_decide_eq_true e,b⟩
  ·cases h
 ·cases h
theorem Qe5 {full:Bool}{sz s:Nat}{es:jVj}{t b:TypeId}{x:Value}{i:Int}{k:IntKind}{y:D}(J:DR w (MM F hp ρ) (.lst full sz es) x)(G:cx.P.underlying t=some (.slice b))(C:cx.sz b=some s)
  (u:sz=s) (z:0<=i) (f:es[i.toNat]?=some y) :
  ∃v,(Instr.indexAt t x (.int k i)).run cx.P w=.ok v w/\VR w (MM F hp ρ) hp ρ (.dptr y 0) v:=by
 subst u;cases J with
 | lst _ _ _ a cap blk off ys K hc p E H q =>
  have g:es≠[]:=by rintro rfl;simp at f
  obtain⟨rfl,o,d⟩:=p g;have A:i.toNat<es.length:=(jGj f).1;have e:(Instr.indexAt t (.slice (some ⟨blk,off,none⟩) es.length cap) (.int k i)).run cx.P w=.ok (.pointer (some ⟨blk,off+i.toNat*sz,none⟩)) w:=by
   have l:=Qk G w;have m:=Q7 C w;have n:i<(es.length:Int):=by omega
   simp[Instr.indexAt,asIntOf,l,m,z,n,add_at]
  refine⟨_,e,?_⟩;have:=VR.dptr (w:=w) (M:=MM F hp ρ) (hp:=hp) (ρ:=ρ) y 0 blk (off+i.toNat*sz) ⟨o,d,fun j c h=>⟨ys (i.toNat*sz+j),by have:=(H _ _ _ _ f h).1;rw[Nat.add_assoc];exact this,q _ _ _ _ f h⟩⟩
  rw[Nat.add_zero] at this;exact this
theorem GW {b ver:Nat}{k:Blk}(h:El hp b ver=true)(a:look hp b=some k):ver=k.ver:=by unfold El at h;rw[a] at h;exact Z1 h
theorem G2 (h:HSim cx F hp ρ w){t:TypeId}{x:AV}{i:Int}{k:IntKind}{xv:Value}(a:VT cx sym orc hp t x i=some r)(M:∀q,q∈r.ob->q)(H:VR w (MM F hp ρ) hp ρ x xv) :
  ∃v,(Instr.indexAt t xv (.int k i)).run cx.P w=.ok v w/\OpOK cx F hp ρ w r.up r.val v w:=by
 unfold VT at a;split at a
 ·rename_i len O G;split at a;case h_2=>cases a
  rename_i s E hd;have z:=of_decide_eq_true hd;split at a
  ·rename_i b ver sz j off;split at a;case h_2=>cases a
   rename_i Y;simp only[val1,jIj] at a;subst a;cases H with
   | ptr _ _ _ _ _ L _ f K g A =>
    obtain⟨m,l,rfl⟩:=A (GW Y f);have p:=Qk G w;have u:=Q7 E w;refine⟨.pointer (some ⟨m,j*sz+(off+i.toNat*s),none⟩),?_,OpOK.quiet h (.ptr b ver sz j _ L _ f K rfl fun _=>⟨m,l,rfl⟩)⟩;simp[Instr.indexAt,asIntOf,p,Instr.sureAddr,z.1,z.2,u,add_at,Nat.add_assoc]
  ·rename_i y off;simp only[val1,jIj] at a;subst a;cases H with
   | dptr _ _ blk o Z =>
    have p:=Qk G w;have u:=Q7 E w;refine⟨.pointer (some ⟨blk,o+(off+i.toNat*s),none⟩),?_,OpOK.quiet h (.dptr y _ blk o Z)⟩;simp[Instr.indexAt,asIntOf,p,Instr.sureAddr,z.1,z.2,u,add_at,Nat.add_assoc]
  ·cases a
 ·rename_i O G;split at a
  ·cases a
  rename_i s E;split at a
  ·rename_i b ver;cases H with
   | own _ _ L _ f K g A =>
   rw[f] at a;cases L with
   | box _=>simp at a
   | loop _ _ _ _ _ _=>simp at a
   | mp _=>simp at a
   | it _ _=>simp at a
   | fbox _=>simp at a
   | left _=>simp at a
   | dead=>simp at a
   | row ver' sz es =>
    simp only at a;split at a;case h_2=>cases a
    rename_i hc;simp only[jAj] at hc;have N:=Z1 hc.1;have J:=Z1 hc.2;subst N;subst J;split at a;case h_2=>cases a
    rename_i ob o' C;simp only[jIj] at a;subst a;have W:=Wx C M;rw[A rfl];obtain⟨q0,_,_⟩|⟨m,c,e,cap,q1,⟨q2,Q⟩,q3,q4,q5,q6⟩:=h.blk b _ f
    ·rw[q0] at W;simp only[List.length_nil] at W;omega
    have p:=Qk G w;have u:=Q7 E w;refine⟨.pointer (some ⟨m,i.toNat*sz,none⟩),?_,OpOK.quiet h (.ptr b ver sz i.toNat 0 _ _ f K rfl fun _=>⟨m,by rw[q1];exact Q8 Q,rfl⟩)⟩;rw[q1];simp[Instr.indexAt,asIntOf,p,u,W.1,W.2,add_at]
   | frozen ver' sz es =>
    simp only at a;split at a;case h_2=>cases a
    rename_i hc;simp only[jAj] at hc;have N:=Z1 hc.1;have J:=Z1 hc.2;subst N;split at a;case h_2=>cases a
    rename_i y ob o' hp1;simp only[jIj] at a;subst a;obtain⟨S,T⟩:=E0 hp1 M;rw[A rfl];obtain⟨v,U,V⟩:=Qe5 (k:=k) (h.blk b _ f) G E J S T;exact⟨v,U,OpOK.quiet h V⟩
   | virt ver' sz es =>
    simp only at a;split at a;case h_2=>cases a
    rename_i hc;simp only[jAj] at hc;have N:=Z1 hc.1;have J:=Z1 hc.2;subst N;split at a;case h_2=>cases a
    rename_i y ob o' hp1;simp only[jIj] at a;subst a;obtain⟨S,T⟩:=E0 hp1 M;rw[A rfl];obtain⟨v,U,V⟩:=Qe5 (k:=k) (h.blk b _ f) G E J S T;exact⟨v,U,OpOK.quiet h V⟩
  ·rename_i full sz es;split at a;case h_2=>cases a
   rename_i hc;split at a;case h_2=>cases a
   rename_i y ob o' hp1;simp only[jIj] at a;subst a;obtain⟨S,T⟩:=E0 hp1 M;cases H with
   | d _ _ H =>
    obtain⟨v,U,V⟩:=Qe5 (k:=k) (hp:=hp) H G E (Z1 hc) S T;exact⟨v,U,OpOK.quiet h V⟩
  ·rename_i b ver sz X n;split at a;case h_2=>cases a
   rename_i ob o' hc C;simp only[jAj] at hc;have J:=Z1 hc.2;subst J;split at a
   ·simp only[jIj] at a;subst a;obtain⟨i1,i2⟩:=Wx C M;cases H with
    | sub _ _ _ _ _ L _ f K g A =>
     obtain⟨m,c0,l,rfl⟩:=A (GW hc.1 f);have p:=Qk G w;have u:=Q7 E w;refine⟨.pointer (some ⟨m,(X+i.toNat)*sz,none⟩),?_,OpOK.quiet h (.ptr b ver sz 0 ((X+i.toNat)*sz) L _ f K rfl fun _=>⟨m,l,by simp⟩)⟩;simp[Instr.indexAt,asIntOf,p,u,i1,i2,add_at,Nat.add_mul]
   ·simp only[jIj] at a;subst a;obtain⟨i1,i2⟩:=Wx C M;cases H with
    | sub _ _ _ _ _ L _ f K g A =>
     obtain⟨m,c0,l,rfl⟩:=A (GW hc.1 f);have p:=Qk G w;have u:=Q7 E w;refine⟨.pointer (some ⟨m,(X+i.toNat)*sz,none⟩),?_,OpOK.quiet h (.ptr b ver sz (X+i.toNat) 0 L _ f K rfl fun _=>⟨m,l,rfl⟩)⟩;simp[Instr.indexAt,asIntOf,p,u,i1,i2,add_at,Nat.add_mul]
  ·cases a
 ·cases a
theorem kS (h:HSim cx F hp ρ w){s:Sem Value}(a:QfA cx sym orc s=some r)(b:∀q,q∈r.ob->q):∃v,s.run cx.P w=.ok v w/\OpOK cx F hp ρ w r.up r.val v w:=by
 unfold QfA at a;split at a
 ·simp only[jIj] at a;subst a;exact⟨_,VP (b _ jMj) w,OpOK.quiet h (G7 _ _ _ _ _)⟩
 ·split at a
  ·rename_i x c;simp only[jIj] at a;subst a;exact⟨_,VP c w,OpOK.quiet h (G7 _ _ _ _ _)⟩
  ·cases a
 ·cases a
theorem zS {t:TypeId}{s off:Nat}{g:Bool}{x y:AV}{C:Array Value}(A:cx.sz t=some s)(z:cx.isAgg t=some g)(o:VR w (MM F hp ρ) hp ρ x (.agg C))(b:Jq g s off x=some y) :
  ∃v,(part t C off).run cx.P w=.ok v w/\VR w (MM F hp ρ) hp ρ y v:=by
 unfold Jq at b;split at b
 ·cases b
 rename_i cs i;obtain⟨m,E,f⟩:=Yp i o;simp only[Value.cells] at m f;unfold part;simp only[Sem.run_bind,jy z,Result.andThen_ok];cases g with
 | false =>
  simp only at b;rw[ZY] at b;obtain⟨v,e,l⟩:=f _ _ b;refine⟨v,?_,l⟩;simp only[Bool.false_eq_true,if_false,e,Sem.run_pure]
 | true =>
  simp only at b;split at b;case h_2=>cases b
  rename_i k;have n : off+s<=cs.length:=Nat.le_of_ble_eq_true k;refine⟨.agg (C.extract off (off+s)),by simp only[if_true,Sem.run_bind,Q7 A,Result.andThen_ok,Sem.run_pure],?_⟩;split at b
  ·rename_i h;simp only[jIj] at b;subst b;simp only[jAj] at h;have p:=Z1 h.1.2;have u:=Z1 h.2;subst p;have:C.extract 0 (0+s)=C:=by rw[u,<-m];simp
   rw[this];exact o
  ·simp only[jIj] at b;subst b;refine Qff (by simp;omega) fun j a q c d=>?_;rw[Array.getElem?_extract] at d;split at d
   ·rw[List.getElem?_take] at c;split at c
    ·rw[List.getElem?_drop] at c;obtain⟨v,e,l⟩:=f _ _ c;rw[d] at e;cases e;exact l
    ·cases c
   ·cases d
theorem kF {M:Nat->Prop}{x:AV}{v:Value}(a:Gi x=true)(h:VR w M hp ρ x v):∃C,v=.agg C:=by
 cases h with
 | agg=>exact⟨_,rfl⟩
 | d _ _ h=>cases h with
  | agg=>exact⟨_,rfl⟩
  | _=>cases a
 | _=>cases a
theorem yg {s:TypeId}{f:Nat}{a:Field}(h:yP cx s f=some a):∃fields,cx.P.underlying s=some (.struct fields)/\fields[f]?=some a:=by
 unfold yP at h;split at h
 ·rename_i fields b;rw[ZY] at h;exact⟨fields,b,by simpa using h⟩
 ·cases h
theorem zF (h:HSim cx F hp ρ w){t:TypeId}{x:AV}{p l o:Value}(a:yS cx sym orc t x p=some r)(K:∀q,q∈r.ob->q)(e:VR w (MM F hp ρ) hp ρ x l)(J:o=p) :
  ∃v,(Instr.index t l o).run cx.P w=.ok v w/\OpOK cx F hp ρ w r.up r.val v w:=by
 subst J;unfold yS at a;split at a
 ·cases e with
  | d _ _ e=>cases e;exact kS h a K
 ·split at a;case h_2=>cases a
  rename_i len m k i cs L b;split at a;case h_2=>cases a
  rename_i s g n H G;have c:=of_decide_eq_true G;have j:∀y,Gi x=true->Jq g s (i.toNat*s) x=some y->∃v,(Instr.index t l (.int k i)).run cx.P w=.ok v w/\OpOK cx F hp ρ w [] y v w:=by intro y E f;obtain⟨C,rfl⟩:=kF E e;obtain⟨v,M,N⟩:=zS n H e f;refine⟨v,?_,OpOK.quiet h N⟩;have z:=Qk L w;have A:=Q7 n w;simp[Instr.index,asIntOf,z,c.1,c.2,A,M]
  split at a
  ·split at a;case h_2=>cases a
   rename_i y f;simp only[val1,jIj] at a;subst a;refine j y rfl ?_;rename_i u _ _;have:cs=u:=by simp only[AV.cells] at b;split at b<;>simp only[jIj,reduceCtorEq] at b;exact b.symm
   subst this;exact f
  ·split at a;case h_2=>cases a
   rename_i y f;simp only[val1,jIj] at a;subst a;exact j y rfl f
  ·cases a
theorem kC (h:HSim cx F hp ρ w){t:TypeId}{x:AV}{i:Int}{k:IntKind}{d:Value}(a:UK cx sym orc hp t x i=some r)(b:∀q,q∈r.ob->q)(c:VR w (MM F hp ρ) hp ρ x d) :
  ∃v,(Instr.indexAt t d (.int k i)).run cx.P w=.ok v w/\OpOK cx F hp ρ w r.up r.val v w:=by
 unfold UK at a;split at a
 ·split at a;case h_2=>cases a
  rename_i q f;simp only[jIj] at a;subst a;have e:i=_:=b _ jMj;rw[e];have:=G2 (r:=q) (k:=k) h f (fun p hp=>b p (jmj _ hp)) c;exact this
 ·exact G2 h a b c
theorem QcI (h:HSim cx F hp ρ w){t:TypeId}{x:AV}{f g e:Value}(a:Qfe cx sym orc t x f=some r)(c:∀q,q∈r.ob->q)(d:VR w (MM F hp ρ) hp ρ x g)(b:e=f) :
  ∃v,(Instr.index t g e).run cx.P w=.ok v w/\OpOK cx F hp ρ w r.up r.val v w:=by
 unfold Qfe at a;split at a
 ·split at a;case h_2=>cases a
  rename_i q j;simp only[jIj] at a;subst a;have i:=c _ jMj;rw[i] at b;have:=zF (r:=q) h j (fun p hp=>c p (jmj _ hp)) d b;exact this
 ·exact zF h a c d b
theorem X0 {t:TypeId}{k:IntKind}(b:cx.P.underlying t=some (.int k)){C:Array Value}{off:Nat}{v:Value}(c:C[off]?=some v):(part t C off).run cx.P w=.ok v w:=by
 have a:cx.isAgg t=some false:=by unfold Cx.isAgg;rw[b]
 unfold part;simp only[Sem.run_bind,jy a,Result.andThen_ok,Bool.false_eq_true,if_false,c,Sem.run_pure]
def qY (cx:Cx)(t:TypeId)(k:Value):Bool:=match cx.P.underlying t,k with
 | some (.int j),.int j' _=>decide (j'=j)
 | some .string,.string _=>true
 | some .bool,.bool _=>true
 | _,_=>false
theorem QaK {t:TypeId}{k:Value}(h:qX cx t k=true):qY cx t k=true\/∃b cs,cx.P.underlying t=some (.struct b)/\k=.agg cs/\cx.P.stoodInHeld t=false/\Yb cx.P 0 b.toList cs.toList=true:=by
 unfold qX at h;split at h
 ·rename_i a;left;unfold qY;rw[a];exact h
 ·rename_i a;left;unfold qY;rw[a]
 ·rename_i a;left;unfold qY;rw[a]
 ·rename_i b cs a;right;simp only[jAj,Bool.not_eq_true'] at h;exact⟨b,cs,a,rfl,h.1,h.2⟩
 ·cases h
theorem QeO {t:TypeId}{k:Value}(h:qY cx t k=true):∃d,cx.P.underlying t=some d/\MapKept.IsKey d k:=by
 unfold qY at h;split at h
 ·refine⟨.int _,by assumption,?_⟩;exact of_decide_eq_true (p:=_=_) h
 ·exact⟨.string,by assumption,trivial⟩
 ·exact⟨.bool,by assumption,trivial⟩
 ·cases h
theorem Qa4 {d:TypeDesc}{k j:Value}(a:MapKept.IsKey d k)(b:(Y1 k j).isSome=true):MapKept.IsKey d j/\Instr.sameNow d k j=Y1 k j:=by cases d<;>cases k<;>simp only[MapKept.IsKey] at a<;>cases j<;>simp_all [Y1,MapKept.IsKey,Instr.sameNow]
theorem Qgr {d:TypeDesc}{k j:Value}(a:MapKept.IsKey d k)(h:Y1 k j=some true):j=k:=by obtain⟨c,e⟩:=Qa4 a (j:=j) (by rw[h];rfl);obtain⟨r,b,f⟩:=MapKept.sameNow_of_keys a c;rw[e,h] at b;cases b;exact(f.1 rfl).symm
theorem QdP:∀{l m:List Value},Gj l m=some true->m=l
 | [],[],_=>rfl
 | x::l,y::m,h=>by
  cases x<;>cases y<;>first|(simp[Gj] at h;done)|skip
  unfold Gj at h;split at h;case h_2=>cases h
  rename_i r a b;simp only[jIj,jAj,beq_iff_eq] at h;obtain⟨c,d⟩:=h;subst d;rw[QdP b,c,of_decide_eq_true a]
 | [],_::_,h=>by simp[Gj] at h
 | x::_,[],h=>by cases x<;>simp[Gj] at h
theorem QdU {P:Program}:∀{a:List Field} {vs:List Value} {n:Nat},Yb P n a vs=true->a.length=vs.length/\∀v,v∈vs->∃k z,v=.int k z
 | [],[],_,_=>⟨rfl,fun v h=>by simp at h⟩
 | [],_::_,_,h=>by simp[Yb] at h
 | g::a,vs,n,h=>by
  cases vs with
  | nil=>simp[Yb] at h
  | cons v vs =>
   cases v<;>first|(simp[Yb] at h;done)|skip
   rename_i k z;unfold Yb at h;split at h;case h_2=>cases h
   simp only[jAj] at h;obtain⟨c,d⟩:=QdU h.2;refine⟨by simp[c],fun v b=>?_⟩;obtain rfl|b:=List.mem_cons.1 b
   ·exact⟨k,z,rfl⟩
   ·exact d v b
theorem Qbm {P:Program}{xs ys:Array Value}{n:Nat}{d:List Field}{vs p:List Value}(e:xs.toList.drop n=vs)(q:ys.toList.drop n=p)(h:Yb P n d vs=true):(∀f a,d=f::a->∃j z b,P.underlying f.type=some (.int j)/\f.name≠ "_"/\f.offset=n/\vs=.int j z::b/\xs[n]?=some (.int j z)/\xs.toList.drop (n+1)=b/\Yb P (n+1) a b=true):=by
 rintro f a rfl;cases vs with
 | nil=>simp[Yb] at h
 | cons v vs =>
  cases v<;>first|(simp[Yb] at h;done)|skip
  rename_i k z;unfold Yb at h;split at h;case h_2=>cases h
  rename_i j o;simp only[jAj,bne_iff_ne,ne_eq] at h;obtain⟨⟨⟨g,i⟩,l⟩,m⟩:=h;have c:=of_decide_eq_true g;subst c;refine⟨j,z,vs,o,l,jqj i,rfl,?_,?_,m⟩
  ·have:(xs.toList.drop n)[0]?=some (.int j z):=by rw[e];rfl
   simpa using this
  ·rw[<-List.drop_drop,e];rfl
theorem Qab {D:Nat}{xs ys:Array Value}:∀(e:List Field) (n:Nat) (vs b:List Value) (r:Bool),xs.toList.drop n=vs->ys.toList.drop n=b->Yb cx.P n e vs=true->Gj vs b=some r ->
      (forIn e (none,()) fun(d:Field) (_:Option Bool×Unit)=>(if d.name≠ "_" then do
          let a <-part d.type xs d.offset;let c <-part d.type ys d.offset;let r <-Op.equalIn (D+1) d.type a c;if(!r)=true then pure (ForInStep.done (some false,())) else pure (ForInStep.yield (none,()))
        else pure (ForInStep.yield (none,())):Sem (ForInStep (Option Bool×Unit)))).run cx.P w=.ok (if r then(none,()) else(some false,())) w
  | [],n,vs,b,r,hx,hy,hf,hi=>by
    cases vs with
    | nil =>
      cases b with
      | nil=>simp only[Gj,jIj] at hi;subst hi;simp[Sem.run_pure]
      | cons u b=>simp[Gj] at hi
    | cons v vs=>simp[Yb] at hf
  | f::e,n,vs,b,r,hx,hy,hf,hi=>by
    obtain⟨j,z,t,l,A,C,rfl,o,m,h⟩:=Qbm hx hy hf f e rfl;cases b with
    | nil=>simp[Gj] at hi
    | cons u b =>
      cases u<;>first|(simp[Gj] at hi;done)|skip
      rename_i k g;unfold Gj at hi;split at hi;case h_2=>cases hi
      rename_i q y E;have i:=of_decide_eq_true y;subst i;simp only[jIj] at hi;subst hi;have s:ys[n]?=some (.int j g):=by
        have:(ys.toList.drop n)[0]?=some (.int j g):=by rw[hy];rfl
        simpa using this
      have p:ys.toList.drop (n+1)=b:=by rw[<-List.drop_drop,hy];rfl
      have x:(Op.equalIn (D+1) f.type (.int j z) (.int j g)).run cx.P w=.ok (z==g) w:=by unfold Op.equalIn;simp only[Sem.run_bind,Qk l w,Result.andThen_ok,if_true,Sem.run_pure]
      rw[List.forIn_cons,Sem.run_bind,jTj A,C];simp only[Sem.run_bind,X0 l o,X0 l s,x,Result.andThen_ok];cases hzz:(z==g) with
      | true =>
        simp only[Bool.not_true,Bool.false_eq_true,if_false,Sem.run_pure,Result.andThen_ok,Bool.true_and];exact Qab e (n+1) t b q m p h E
      | false=>simp[Sem.run_pure,Result.andThen_ok]
theorem QeW {t:TypeId}{a:Array Field}{xs ys:Array Value}{r:Bool}(e:cx.P.underlying t=some (.struct a))(d:cx.P.stoodInHeld t=false)(b:Yb cx.P 0 a.toList xs.toList=true)(c:Gj xs.toList ys.toList=some r) :
  (Op.equal t (.agg xs) (.agg ys)).run cx.P w=.ok r w:=by
 have:=Qab (cx:=cx) (w:=w) (D:=9998) (xs:=xs) (ys:=ys) a.toList 0 _ _ r rfl rfl (by simpa using b) (by simpa using c);unfold Op.equal Op.maxDepth Op.equalIn;simp only[Sem.run_bind,Qk e w,run_program,Result.andThen_ok,d,Bool.false_eq_true,if_false];rw[<-Array.forIn_toList,this];cases r<;>simp[Result.andThen_ok,Sem.run_pure]
theorem zE {D:Nat}{e:Bool}{xs:Array Value}:∀(b:List Field) (n:Nat) (vs:List Value),xs.toList.drop n=vs->Yb cx.P n b vs=true ->
      (forIn b () fun(c:Field) (_:Unit)=>(if c.name≠ "_" then do
          let a <-part c.type xs c.offset;Instr.checkKey e (D+1) c.type a
          pure (ForInStep.yield ())
        else pure (ForInStep.yield ()):Sem (ForInStep Unit))).run cx.P w=.ok () w
  | [],n,vs,hx,hf=>by simp[Sem.run_pure]
  | f::b,n,vs,hx,hf=>by
    obtain⟨j,z,i,k,m,o,rfl,h,g,d⟩:=Qbm (ys:=xs) hx hx hf f b rfl;have l:(Instr.checkKey e (D+1) f.type (.int j z)).run cx.P w=.ok () w:=by unfold Instr.checkKey;simp only[Sem.run_bind,Qk k w,Result.andThen_ok,Sem.run_pure]
    rw[List.forIn_cons,Sem.run_bind,jTj m,o];simp only[Sem.run_bind,X0 k h,l,Result.andThen_ok,Sem.run_pure];exact zE b (n+1) i g d
theorem zz (D:Nat):∀{l:List Value},(∀v,v∈l->∃k z,v=.int k z)->((l.zip l).all fun(x,y)=>Instr.sameBits D x y)=true
 | [],_=>rfl
 | v::l,h=>by obtain⟨k,z,rfl⟩:=h v jMj;have b:=zz D (l:=l) fun v a=>h v (jmj _ a);simp only[List.zip_cons_cons,List.all_cons,b,Bool.and_true];simp[Instr.sameBits]
structure KeyOK (cx:Cx) (t:TypeId) (k:Value):Prop where
 check:∀(e:Bool) (w:World),(Instr.checkKey e 10000 t k).run cx.P w=.ok () w
 stay:∀w:World,(Instr.keyThatStays k k).run cx.P w=.ok k w
 same:∀j:Value,Y1 k j=some true->j=k
 ask:(∃d,cx.P.underlying t=some d/\∀j r,Y1 k j=some r->Instr.sameNow d k j=some r) \/
  (∃d,cx.P.underlying t=some d/\(∀j,Instr.sameNow d k j=none)/\∀(w:World) j r,Y1 k j=some r->(Op.equal t k j).run cx.P w=.ok r w)
theorem uB {t:TypeId}{k:Value}(h:qX cx t k=true):KeyOK cx t k:=by
 obtain m|⟨l,cs,f,rfl,n,c⟩:=QaK h
 ·obtain⟨d,g,b⟩:=QeO m;refine⟨fun e w=>MapKept.run_checkKey g b e _,fun w=>MapKept.run_keyThatStays b,fun j a=>Qgr b a,.inl ⟨d,g,fun j r a=>?_⟩⟩;rw[(Qa4 b (j:=j) (by rw[a];rfl)).2,a]
 ·refine⟨fun e w=>?_,fun w=>?_,fun j a=>?_,.inr ⟨_,f,fun j=>?_,fun w j r a=>?_⟩⟩
  ·have:=zE (cx:=cx) (w:=w) (D:=9998) (e:=e) (xs:=cs) l.toList 0 _ rfl (by simpa using c);unfold Instr.checkKey;simp only[Sem.run_bind,Qk f w,Result.andThen_ok];rw[<-Array.forIn_toList];refine Eq.trans (congrArg (Result.andThen · _) this) ?_;rfl
  ·have:Instr.sameBits 10000 (.agg cs) (.agg cs)=true:=by have:=zz 9999 (QdU c).2;simp only[Instr.sameBits,beq_self_eq_true,Bool.true_and];exact this
   simp[Instr.keyThatStays,this]
  ·cases j<;>first|(simp[Y1] at a;done)|skip
   rename_i i;have:=QdP (show Gj cs.toList i.toList=some true from a);rw[Array.toList_inj.1 this]
  ·cases j<;>rfl
  ·cases j<;>first|(simp[Y1] at a;done)|skip
   exact QeW f n c a
theorem QdW {M:Nat->Prop}{t:TypeId}{k:Value}(n:KeyOK cx t k):∀(es:jVj) (l:List MapEntry) (i:Nat),MR w M es l->mok k es=true->∀f:List MapEntry->Nat->Option (Option (Nat×Value)),
  (∀i,f [] i=some none)->(∀e l i,e.key=e.key->∀r,Y1 k e.key=some r->f (e::l) i=if r then some (some (i,e.val)) else f l (i+1)) ->
  (W5 k es=none/\f l i=some none/\∀y,E7 k y es=es++[.tup [.v k,y]]) \/
  ∃j e x,W5 k es=some x/\f l i=some (some (i+j,e.val))/\l[j]?=some e/\e.key=k/\DR w M x e.val/\∀y,E7 k y es=es.set j (.tup [.v k,y])
 | [],[],i,_,_,f,hf,_=>.inl ⟨rfl,hf i,fun _=>rfl⟩
 | [],_::_,_,h,_,_,_,_=>h.elim
 | _::_,[],_,h,_,_,_,_=>h.elim
 | d0::es,e::l,i,h,ho,f,hf0,hf=>by
  obtain⟨⟨x,s,q⟩,p⟩:=h;subst s;have a:keyOf (.tup [.v e.key,x])=some (e.key,x):=rfl;unfold mok at ho;rw[a] at ho;simp only[jAj] at ho;cases hs:Y1 k e.key with
  | none=>rw[hs] at ho;exact absurd ho.1 (by simp)
  | some b =>
   have c:=hf e l i rfl b hs;cases b with
   | true =>
    refine .inr ⟨0,e,x,?_,by simpa using c,rfl,n.same _ hs,q,fun y=>?_⟩
    ·unfold W5;rw[a];simp only[hs]
    ·unfold E7;rw[a];simp only[hs];rfl
   | false =>
    simp only[Bool.false_eq_true,if_false] at c;obtain⟨d,g,m⟩|⟨j,o,C,d,g,m,u,z,A⟩:=QdW n es l (i+1) p ho.2 f hf0 hf
    ·refine .inl ⟨?_,by rw[c,g],fun y=>?_⟩
     ·unfold W5;rw[a];simp only[hs];exact d
     ·unfold E7;rw[a];simp only[hs,m];rfl
    ·refine .inr ⟨j+1,o,C,?_,?_,by simpa using m,u,z,fun y=>?_⟩
     ·unfold W5;rw[a];simp only[hs];exact d
     ·rw[c,g];congr 3;omega
     ·unfold E7;rw[a];simp only[hs,A];rfl
def kA (k:Value):List MapEntry->Nat->Option (Option (Nat×Value))
 | [],_=>some none
 | e::l,i=>match Y1 k e.key with
  | some true=>some (some (i,e.val))
  | some false=>kA k l (i+1)
  | none=>none
theorem Qg6 (k:Value)(e:MapEntry)(l:List MapEntry)(i:Nat)(r:Bool)(h:Y1 k e.key=some r):kA k (e::l) i=if r then some (some (i,e.val)) else kA k l (i+1):=by rw[kA,h];cases r<;>rfl
theorem uV {d:TypeDesc}{k:Value}(h:∀j r,Y1 k j=some r->Instr.sameNow d k j=some r):∀(l:List MapEntry) (i:Nat) (o:Option (Nat×Value)),kA k l i=some o->Instr.findNow d k l i=some o
 | [],i,o,hq=>by simpa[kA,Instr.findNow] using hq
 | e::l,i,o,hq=>by
  unfold kA at hq;cases hs:Y1 k e.key with
  | none=>rw[hs] at hq;cases hq
  | some b =>
   rw[hs] at hq;cases b with
   | true =>
    simp only[jIj] at hq;subst hq;simp[Instr.findNow,h _ _ hs]
   | false =>
    simp only at hq;simp only[Instr.findNow,h _ _ hs];exact uV h l (i+1) o hq
theorem zC {t:TypeId}{k:Value}(h:∀(w:World) j r,Y1 k j=some r->(Op.equal t k j).run cx.P w=.ok r w):∀(l:List MapEntry) (i:Nat) (o:Option (Nat×Value)),kA k l i=some o->(Instr.findAsking t k l i).run cx.P w=.ok o w
 | [],i,o,hq=>by simp only[kA,jIj] at hq;subst hq;simp[Instr.findAsking,Sem.run_pure]
 | e::l,i,o,hq=>by
  unfold kA at hq;unfold Instr.findAsking;cases hs:Y1 k e.key with
  | none=>rw[hs] at hq;cases hq
  | some b =>
   rw[hs] at hq;simp only[Sem.run_bind,h w _ _ hs,Result.andThen_ok];cases b with
   | true =>
    simp only[jIj] at hq;subst hq;simp[Sem.run_pure]
   | false =>
    simp only at hq;simp only[Bool.false_eq_true,if_false];exact zC h l (i+1) o hq
theorem uW {t:TypeId}{k:Value}(f:KeyOK cx t k){l:List MapEntry}{o:Option (Nat×Value)}(h:kA k l 0=some o):(Instr.findKey t k l).run cx.P w=.ok o w:=by
 obtain⟨d,a,b⟩|⟨d,a,b,c⟩:=f.ask
 ·exact MapKept.run_findKey a (uV b l 0 o h)
 ·cases l with
  | nil=>exact MapKept.run_findKey a (by simpa[kA,Instr.findNow] using h)
  | cons e l =>
   have:Instr.findNow d k (e::l) 0=none:=by simp[Instr.findNow,b]
   simp only[Instr.findKey,Sem.run_bind,Qk a w,Result.andThen_ok,this];exact zC c (e::l) 0 o h
theorem uU {M:Nat->Prop}{t:TypeId}{k:Value}(b:KeyOK cx t k)(es:jVj)(l:List MapEntry)(h:MR w M es l)(f:mok k es=true) :
  (W5 k es=none/\(Instr.findKey t k l).run cx.P w=.ok none w/\∀y,E7 k y es=es++[.tup [.v k,y]]) \/
  ∃j e x,W5 k es=some x/\(Instr.findKey t k l).run cx.P w=.ok (some (j,e.val)) w/\l[j]?=some e/\e.key=k/\DR w M x e.val/\∀y,E7 k y es=es.set j (.tup [.v k,y]):=by
 obtain⟨c,a,d⟩|⟨j,e,x,c,a,d⟩:=QdW b es l 0 h f (kA k) (fun _=>rfl) (fun e l i _ r g=>Qg6 k e l i r g)
 ·exact .inl ⟨c,uW b a,d⟩
 ·rw[Nat.zero_add] at a;exact .inr ⟨j,e,x,c,uW b a,d⟩
theorem MR.set {M:Nat->Prop}:∀{es:jVj} {l:List MapEntry} (j:Nat) (d:D) (e:MapEntry),MR w M es l->(∃x,d=.tup [.v e.key,x]/\DR w M x e.val)->MR w M (es.set j d) (l.set j e)
 | [],[],_,_,_,_,_=>trivial
 | _::_,_::_,0,_,_,h,k=>⟨k,h.2⟩
 | _::_,_::_,j+1,d,e,h,k=>⟨h.1,MR.set j d e h.2 k⟩
 | [],_::_,_,_,_,h,_=>h.elim
 | _::_,[],_,_,_,h,_=>h.elim
theorem MR.push {M:Nat->Prop}:∀{es:jVj} {l:List MapEntry} (d:D) (e:MapEntry),MR w M es l->(∃x,d=.tup [.v e.key,x]/\DR w M x e.val)->MR w M (es++[d]) (l++[e])
 | [],[],_,_,_,k=>⟨k,trivial⟩
 | _::_,_::_,d,e,h,k=>⟨h.1,MR.push d e h.2 k⟩
 | [],_::_,_,_,h,_=>h.elim
 | _::_,[],_,_,h,_=>h.elim
theorem jF (h:HSim cx F hp ρ w){m:AV}{b:Nat}{es:jVj}{g:Value}(a:E2 hp m=some (b,es))(l:VR w (MM F hp ρ) hp ρ m g) :
  look hp b=some (.mp es)/\g=ρ b/\∃r es' c,ρ b=.map (some r)/\w.heap[r]?=some (.map es' c)/\MRB w (MM F hp ρ) es es'.toList c:=by
 unfold E2 at a;split at a;case h_2=>cases a
 rename_i b0 o;cases l with
 | own _ _ n _ d k f j =>
  rw[d] at a;split at a;case h_2=>cases a
  rename_i i e;cases e;simp only[jIj,jPj] at a;obtain⟨rfl,rfl⟩:=a;refine⟨d,j ?_,h.blk _ _ d⟩;simp only[Blk.ver] at k ⊢;omega
theorem Ey (h:HSim cx F hp ρ w){t:TypeId}{m k x:AV}{mv kv n:Value}(u:UJ cx sym orc hp t m k x=some r)(ho:∀q,q∈r.ob->q)
  (hm:VR w (MM F hp ρ) hp ρ m mv) (hk:VR w (MM F hp ρ) hp ρ k kv) (g:VR w (MM F hp ρ) hp ρ x n) :
  ∃w',(Instr.mapUpdate t mv kv n).run cx.P w=.ok () w'/\OpOK cx F hp ρ w r.up r.val undef w':=by
 unfold UJ at u;split at u;case h_2=>cases u
 rename_i kt et b es b2 G hu a4 X a6;split at u;case h_2=>cases u
 rename_i ob o' W a5;simp only[jIj] at u;subst u;obtain⟨H,rfl,A,es',c,S,E,p⟩:=jF h a4 hm;have V:=JZ X hk;subst V;have O:=Ku w (MM F hp ρ) hp ρ x n G a6 g;have o:=uB W;have a3:=Wx a5 ho;have a9:A<w.heap.size:=(Array.getElem?_eq_some_iff.1 E).1;have key:∀(f:Array MapEntry) (C:Nat),(Instr.mapUpdate t (.map (some A)) kv n).run cx.P w=.ok () { w with heap:=w.heap.setIfInBounds A (.map f C) } ->
   MRB w (MM F hp ρ) (E7 kv G es) f.toList C->∃w',(Instr.mapUpdate t (ρ b) kv n).run cx.P w=.ok () w'/\OpOK cx F hp ρ w [(b,.mp (E7 kv G es))] (.d (.v undef)) undef w':=by
  intro f C M a0;rw[S];refine⟨_,M,?_⟩;have s:=MapKept.heap_set (w:=w) (r:=A) (o':=Obj.map f C) E;obtain⟨g1,g2⟩:=h.write (b:=b) (k0:=.mp es) (k:=.mp (E7 kv G es)) (v:=ρ b) (r:=A) (w':={ w with heap:=w.heap.setIfInBounds A (.map f C) }) H rfl (by rw[S];rfl) (by rw[S];rfl) (.inr ⟨rfl,rfl⟩)
   ⟨fun _=>jLj _,rfl,rfl,rfl,by simp,fun q _ L=>s.2 q L⟩ (fun z=>by refine⟨A,f,C,by rw[Qx];exact S,s.1,?_⟩;exact a0.ext z.ext.size (fun q L a2=>z.ext.same q L fun a1=>a2 (.inr a1)) (fun q L Z=>Z.imp id (z.mt q L)))
  exact⟨_,g1,g2,.d _ _ (.v _)⟩
 obtain⟨q1,q2,Q⟩|⟨j,e,y,q1,q2,Q,q4,q5,q6⟩:=uU o es es'.toList p.1 a3
 ·refine key (es'.push { key:=kv,val:=n,born:=c }) (c+1) ?_ ?_
  ·simp[Instr.mapUpdate,Qk hu,MapKept.run_getObj_map E,o.check,q2,MapKept.run_setObj_map _ E,Result.andThen]
  ·rw[Q,Array.toList_push];refine⟨p.1.push _ _ ⟨G,rfl,O⟩,fun x g=>?_,?_⟩
   ·obtain g|g:=List.mem_append.1 g
    ·have:=p.2.1 x g;omega
    ·obtain rfl|g:=List.mem_cons.1 g
     ·exact Nat.lt_succ_self c
     ·cases g
   ·rw[List.map_append,List.nodup_append];refine⟨p.2.2,by simp,fun a ha b H=>?_⟩;obtain⟨x,g,rfl⟩:=List.mem_map.1 ha;obtain T|H:=List.mem_cons.1 H
    ·have:=p.2.1 x g;rw[T];show x.born≠c;omega
    ·cases H
 ·have hj:es'[j]?=some e:=by simpa using Q
  refine key (es'.modify j fun e=>{ e with key:=kv,val:=n }) c ?_ ?_
  ·simp[Instr.mapUpdate,Qk hu,MapKept.run_getObj_map E,o.check,q2,hj,q4,o.stay,MapKept.run_setObj_map _ E,Result.andThen]
  ·have Y:(es'.modify j fun e=>{ e with key:=kv,val:=n }).toList=es'.toList.set j { e with key:=kv,val:=n }:=by
    apply List.ext_getElem?;intro i;rw[Array.getElem?_toList,Array.getElem?_modify,List.getElem?_set,Array.getElem?_toList];by_cases l:j=i
    ·subst l;have U:j<es'.toList.length:=(jGj Q).1;simp only[if_true,hj,Option.map_some,jTj U]
    ·simp only[jFj l]
   rw[q6,Y];have J:es'.toList[j]?=some e:=Q;have K:(es'.toList.set j { e with key:=kv,val:=n }).map (·.born)=es'.toList.map (·.born):=by
    apply List.ext_getElem?;intro i;rw[List.getElem?_map,List.getElem?_map,List.getElem?_set];by_cases l:j=i
    ·subst l;rw[jTj rfl,jTj (jGj J).1,J];rfl
    ·rw[jFj l]
   refine⟨p.1.set _ _ _ ⟨G,rfl,O⟩,fun x g=>?_,by rw[K];exact p.2.2⟩;have N:x.born∈(es'.toList.set j { e with key:=kv,val:=n }).map (·.born):=List.mem_map.2 ⟨x,g,rfl⟩;rw[K] at N;obtain⟨y',a7,a8⟩:=List.mem_map.1 N;rw[<-a8];exact p.2.1 y' a7
theorem QdF {M:Nat->Prop}{t:TypeId}{k:Value}{ok:Bool}{z:Value}{es:jVj}{l:List MapEntry}{x:D}(f:KeyOK cx t k)(h:MR w M es l)(a:YX ok k (ofV z) es=some x) :
  ∃o,(Instr.findKey t k l).run cx.P w=.ok o w/\((o=none/\(if ok then x=.tup [ofV z,.v (.bool false)] else x=ofV z))\/∃j v y,o=some (j,v)/\DR w M y v/\(if ok then x=.tup [y,.v (.bool true)] else x=y)):=by
 unfold YX at a;split at a
 ·cases a
 rename_i b;obtain⟨c,d,_⟩|⟨j,e,y,c,d,i,m,g,_⟩:=uU f es l h b
 ·refine⟨_,d,.inl ⟨rfl,?_⟩⟩;rw[c] at a;cases ok<;>simp_all
 ·refine⟨_,d,.inr ⟨_,_,y,rfl,g,?_⟩⟩;rw[c] at a;cases ok<;>simp_all
theorem QgV (h:HSim cx F hp ρ w){m:AV}{es:jVj}{f:Value}(a:jZ hp m=some es)(e:VR w (MM F hp ρ) hp ρ m f) :
  ∃r es' c,f=.map (some r)/\w.heap[r]?=some (.map es' c)/\MR w (MM F hp ρ) es es'.toList:=by
 unfold jZ at a;split at a
 ·rename_i b ver;split at a;case h_2=>cases a
  rename_i d k;simp only[jIj] at a;subst a;obtain⟨_,rfl,r,es',c,g,i,j⟩:=jF (b:=b) (es:=d) h (by unfold E2;simp only[k]) e;exact⟨r,es',c,g,i,j.1⟩
 ·simp only[jIj] at a;subst a;cases e;rename_i l;exact l.mr
 ·cases a
theorem Qci (h:HSim cx F hp ρ w){t:TypeId}{m k:AV}{ok:Bool}{L kv:Value}(e:zg cx sym orc hp t m k ok=some r)(S:∀q,q∈r.ob->q)
  (Q:VR w (MM F hp ρ) hp ρ m L) (O:VR w (MM F hp ρ) hp ρ k kv) :
  ∃v,(Instr.lookup t L kv ok).run cx.P w=.ok v w/\OpOK cx F hp ρ w r.up r.val v w:=by
 unfold zg at e;split at e;case h_2=>cases e
 rename_i T M es U A J H;obtain⟨W,es',c,rfl,u,N⟩:=QgV h J Q;have G:=JZ H O;subst G;have s:∀(z:Value) (x:D),qX cx T kv=true->cx.zero M=some z->YX ok kv (ofV z) es=some x ->
   ∃v,(Instr.lookup t (.map (some W)) kv ok).run cx.P w=.ok v w/\OpOK cx F hp ρ w [] (.d x) v w:=by
  intro z x b l K;have a:=uB b;have p:=Y2 l w;have n:DR w (MM F hp ρ) (ofV z) z:=QhK _ _ z;obtain⟨o,C,V⟩:=QdF a N K;obtain⟨rfl,f⟩|⟨j,v,y,rfl,f,E⟩:=V
  ·cases ok with
   | true =>
    simp only[if_true] at f;subst f;refine⟨.tuple #[z,.bool false],?_,OpOK.quiet h (.d _ _ ?_)⟩
    ·simp[Instr.lookup,Qk A,MapKept.run_getObj_map u,a.check,C,p,Result.andThen]
    ·refine .tup _ [z,.bool false] rfl fun i c y hc g=>?_;match i with
     | 0=>cases hc;cases g;exact n
     | 1=>cases hc;cases g;exact .v _
     | i+2=>simp at hc
   | false =>
    simp only[if_false,Bool.false_eq_true] at f;subst f;refine⟨z,?_,OpOK.quiet h (.d _ _ n)⟩;simp[Instr.lookup,Qk A,MapKept.run_getObj_map u,a.check,C,p,Result.andThen]
  ·cases ok with
   | true =>
    simp only[if_true] at E;subst E;refine⟨.tuple #[v,.bool true],?_,OpOK.quiet h (.d _ _ ?_)⟩
    ·simp[Instr.lookup,Qk A,MapKept.run_getObj_map u,a.check,C,Result.andThen]
    ·refine .tup _ [v,.bool true] rfl fun i c y hc g=>?_;match i with
     | 0=>cases hc;cases g;exact f
     | 1=>cases hc;cases g;exact .v _
     | i+2=>simp at hc
   | false =>
    simp only[if_false,Bool.false_eq_true] at E;subst E;refine⟨v,?_,OpOK.quiet h (.d _ _ f)⟩;simp[Instr.lookup,Qk A,MapKept.run_getObj_map u,a.check,C,Result.andThen]
 split at e
 ·rename_i z x o' b l _;simp only[jIj] at e;subst e;exact s z x b l (S _ jMj)
 ·rename_i z o' b l _;split at e;case h_2=>cases e
  rename_i x K;simp only[jIj] at e;subst e;exact s z x b l K
 ·cases e
theorem QaJ (h:HSim cx F hp ρ w){name:Nat}(t:TypeId)(f:look hp name=none):∃v w',(Instr.makeMap t none).run cx.P w=.ok v w'/\OpOK cx F hp ρ w [(name,.mp [])] (.own name 0) v w':=by
 refine⟨.map (some w.heap.size),w.alloc (.map #[] 0),rfl,?_⟩;obtain⟨d,e⟩:=h.freshO (b:=name) (k:=.mp []) (v:=.map (some w.heap.size)) (.map #[] 0) (fun r c=>by simp only[QX,jIj] at c;exact c.symm) (fun k0 a=>by rw[f] at a;cases a)
  (fun g=>⟨w.heap.size,#[],0,Qx _ _ _,Z2 _ _,trivial,fun x i=>(by cases i),List.nodup_nil⟩)
 exact⟨_,d,e,.own name 0 _ _ (Qf _ _ _) (jLj _) rfl fun _=>(Qx _ _ _).symm⟩
theorem HSim.box_frozen (h:HSim cx F hp ρ w){b:Nat}{x:AV}{ds:jVj}(p:look hp b=some (.box x))(C:x.toD=some (.agg ds)) :
  HSim cx F ((b,.fbox (.agg ds))::hp) ρ w/\Steps1 hp ρ w ((b,.fbox (.agg ds))::hp) ρ w:=by
 have g:∀q,Mut ((b,.fbox (.agg ds))::hp) ρ q->∃n k,n≠b/\look hp n=some k/\k.live=true/\QX (ρ n)=some q:=by
  rintro q ⟨n,G,d,o,A⟩;by_cases a:n=b
  ·subst a;rw[Qf] at d;cases d;cases o
  ·rw[Qc _ _ (Ne.symm a)] at d;exact⟨n,G,a,d,o,A⟩
 have m:Steps1 hp ρ w ((b,.fbox (.agg ds))::hp) ρ w:=by
  refine⟨Ext.refl _ _,fun q _ o=>?_,⟨fun n k1 d=>?_⟩⟩
  ·obtain⟨n,k,_,i,l,t⟩:=g q o;exact⟨n,k,i,l,t⟩
  ·by_cases a:n=b
   ·subst a;rw[p] at d;cases d;exact⟨_,Qf _ _ _,jLj _,fun _=>rfl⟩
   ·exact⟨k1,by rw[Qc _ _ (Ne.symm a)];exact d,jLj _,fun _=>rfl⟩
 have S:BlkR w (MM F ((b,.fbox (.agg ds))::hp) ρ) ((b,.fbox (.agg ds))::hp) ρ b (.fbox (.agg ds)):=by
  obtain⟨r,e,v,M,i,l,t,Q⟩:=h.blk b _ p;have f:QX (ρ b)=some r:=by rw[i];rfl
  have z:r<w.heap.size:=(h.blk b _ p).root_lt rfl f;refine⟨r,i,?_,z,fun j c V=>?_⟩
  ·rintro(T|U)
   ·exact h.forb r ⟨b,_,p,rfl,f⟩ T
   ·obtain⟨n,k,a,N,O,P⟩:=g r U;exact a (h.inj n b k _ r N p O rfl P f)
  ·have u:DR w (MM F hp ρ) (.agg ds) v:=Ku w (MM F hp ρ) hp ρ x v _ C Q;obtain⟨y,W,E⟩:=Qg1 u j c V;exact⟨y,by rw[Nat.zero_add,YS l];exact W,m.dr E⟩
 refine⟨h.step m (fun n G d=>?_) (fun n L k1 H q i l J K X Y=>?_) (fun q A=>?_),m⟩
 ·by_cases a:n=b
  ·subst a;rw[Qf] at d;cases d;exact .inr S
  ·rw[Qc _ _ (Ne.symm a)] at d;exact .inl ⟨d,rfl,fun _ _ _=>rfl⟩
 ·have s:∀n k1,look ((b,Blk.fbox (.agg ds))::hp) n=some k1->k1.live=true->look hp n=some k1:=by
   intro n k1 d o;by_cases a:n=b
   ·subst a;rw[Qf] at d;cases d;cases o
   ·rw[Qc _ _ (Ne.symm a)] at d;exact d
  exact h.inj n L k1 H q (s n k1 i J) (s L H l K) J K X Y
 ·obtain⟨n,k,_,i,l,t⟩:=g q A;exact h.forb q ⟨n,k,i,l,t⟩
theorem QhD (h:HSim cx F hp ρ w)(b:Nat):HSim cx F (preB hp b) ρ w/\Steps1 hp ρ w (preB hp b) ρ w:=by
 unfold preB;split
 ·rename_i x a;split
  ·rename_i ds c;exact h.box_frozen a c
  ·exact⟨h,Steps1.refl _ _ _⟩
 ·exact⟨h,Steps1.refl _ _ _⟩
theorem Qa9:∀(l:List Nat) (hp:List (Nat×Blk)),HSim cx F hp ρ w->HSim cx F (Qdq hp l) ρ w/\Steps1 hp ρ w (Qdq hp l) ρ w
 | [],hp,h=>⟨h,Steps1.refl _ _ _⟩
 | b::l,hp,h=>by obtain⟨a,c⟩:=QhD h b;obtain⟨d,e⟩:=Qa9 l _ a;exact⟨d,c.trans e⟩
theorem Qba:∀(l:List Nat) (hp:List (Nat×Blk)),∃new,Qdq hp l=new++hp
 | [],_=>⟨[],rfl⟩
 | b::l,hp=>by
  obtain⟨e,c⟩:=Qba l (preB hp b);have:∃a,preB hp b=a++hp:=by
   unfold preB;split
   ·split
    ·exact⟨[_],rfl⟩
    ·exact⟨[],rfl⟩
   ·exact⟨[],rfl⟩
  obtain⟨a,d⟩:=this;exact⟨e++a,by rw[List.append_assoc,<-d];exact c⟩
theorem ja:∀(n s:Nat) (ds:jVj),(ym n s ds).length=n
 | 0,_,_=>rfl
 | n+1,s,ds=>by simp[ym,ja n]
theorem QbF:∀(n s:Nat) (ds:jVj) (i:Nat) (e:D),(ym n s ds)[i]?=some e->e=.agg ((ds.drop (i*s)).take s)/\i<n
 | 0,_,_,i,e,h=>by simp[ym] at h
 | n+1,s,ds,0,e,h=>by simp only[ym,jzj,jIj] at h;subst h;simp
 | n+1,s,ds,i+1,e,h=>by
  simp only[ym,List.getElem?_cons_succ] at h;obtain⟨a,b⟩:=QbF n s (ds.drop s) i e h;refine⟨?_,by omega⟩;rw[a,List.drop_drop];congr 3
  rw[Nat.add_mul,Nat.one_mul,Nat.add_comm]
theorem ui (h:HSim cx F hp ρ w){t:TypeId}{b ver sz i off:Nat}{p:Bool}{xv:Value}(q:J3 cx hp orc t b ver sz i off p=some r)(hx:VR w (MM F hp ρ) hp ρ (.ptr b ver sz i off) xv) :
  p=true/\∃v,(Instr.sliceAt t xv none none none).run cx.P w=.ok v w/\OpOK cx F hp ρ w r.up r.val v w:=by
 unfold J3 at q;split at q;case h_2=>cases q
 rename_i ds up n a3 a hu;split at q;case h_2=>cases q
 rename_i s hs;split at q;case h_2=>cases q
 rename_i hc;simp only[jIj] at q;subst q;simp only[jAj,Nat.blt_eq] at hc;obtain⟨⟨⟨⟨⟨⟨⟨c1,T⟩,U⟩,V⟩,W⟩,X⟩,c7⟩,c8⟩:=hc;replace T:=jqj T;replace U:=jqj U;replace V:=jqj V;replace W:=jqj W;replace X:=jqj X;subst T;subst U;subst V;subst W;refine⟨c1,?_⟩;have L:HSim cx F (up++hp) ρ w/\Steps1 hp ρ w (up++hp) ρ w/\look (up++hp) b=some (.fbox (.agg ds))/\∃k,look hp b=some k/\k.ver=0:=by
  unfold ji at a;split at a
  ·rename_i Y u;simp only[jIj,jPj] at a;obtain⟨rfl,rfl⟩:=a;exact⟨h,Steps1.refl _ _ _,u,_,u,rfl⟩
  ·rename_i x u;split at a
   ·rename_i Y z;simp only[jIj,jPj] at a;obtain⟨rfl,rfl⟩:=a;obtain⟨S,Z⟩:=h.box_frozen u z;exact⟨S,Z,Qf _ _ _,_,u,rfl⟩
   ·cases a
  ·cases a
 obtain⟨S,Z,u,k1,a0,a1⟩:=L;cases hx with
 | ptr _ _ _ _ _ k _ E hv ho hh =>
  rw[a0] at E;cases E;obtain⟨r0,q1,rfl⟩:=hh a1.symm;obtain⟨O,p1,p2,p3,p4⟩:=S.blk b _ u;rw[p1] at q1;simp only[QX,jIj] at q1;subst q1;have o:∀(j:Nat) (c:D),ds[j]?=some c->∃x,c=.v x/\one x=true:=by
   intro j c l;have:=List.all_eq_true.1 c8 c (jgj l);cases c with
   | v x=>exact⟨x,rfl,this⟩
   | agg _=>cases this
   | tup _=>cases this
   | lst _ _ _=>cases this
   | fn _ _ _=>cases this
   | ref _ _=>cases this
   | nan _=>cases this
   | mp _=>cases this
  have m:∀(j:Nat) (x:Value),ds[j]?=some (.v x)->w.cell? ⟨O,j,none⟩=some x:=by intro j x l;obtain⟨y,hy,a2⟩:=p4 j (.v x) l;rw[Nat.zero_add] at hy;cases a2;exact hy
  refine⟨.slice (some ⟨O,0,none⟩) n n,?_,⟨_,S,Z,.d _ _ ?_⟩⟩
  ·have hz:=Q7 hs w;simp[Instr.sliceAt,Qk hu,Instr.sureAddr,Instr.sliceBounds,hz,Result.andThen_ok];intro hn;rw[add_at]
  ·have H:(wb s n ds).length=n:=by
    unfold wb;split
    ·rename_i A;have:=jqj A;subst this;omega
    ·exact ja n s ds
   have G:∀(i:Nat) (e:D),(wb s n ds)[i]?=some e->e.cells=(ds.drop (i*s)).take s/\i<n:=by
    intro i e g;unfold wb at g;split at g
    ·rename_i A;have:=jqj A;subst this;obtain⟨x,rfl,_⟩:=o i e g;have hi:i<ds.length:=(jGj g).1;refine⟨?_,by omega⟩;rw[Nat.mul_one,List.drop_eq_getElem_cons hi];have:=(jGj g).2;simp[D.cells,this]
    ·obtain⟨C,Q⟩:=QbF n s ds i e g;subst C;exact⟨rfl,Q⟩
   have J:∀i,i<n->i*s+s<=ds.length:=by
    intro i hi;rw[X];calc i*s+s=(i+1)*s:=by rw[Nat.add_mul,Nat.one_mul]
     _<=n*s:=Nat.mul_le_mul_right _ hi
   have f:∀(i:Nat) (e:D) (j:Nat) (c:D),(wb s n ds)[i]?=some e->e.cells[j]?=some c->ds[i*s+j]?=some c:=by
    intro i e j c g l;obtain⟨C,Q⟩:=G i e g;rw[C,List.getElem?_take] at l;split at l
    ·rw[List.getElem?_drop] at l;exact l
    ·cases l
   have N:=DR.lst (w:=w) (M:=MM F (up++hp) ρ) true s (wb s n ds) (some ⟨O,0,none⟩) n O 0 (fun j=>(w.cell? ⟨O,j,none⟩).getD undef) (fun _=>H.symm) (by omega) (fun _=>⟨rfl,p2,p3⟩) (fun i e g=>by
     obtain⟨C,Q⟩:=G i e g;have:=J i Q;rw[C];simp;omega) (fun i e j c g l=>by
     have z:=f i e j c g l;obtain⟨x,rfl,K⟩:=o _ c z;have:=m _ x z;simp only[Nat.zero_add,this,Option.getD_some];exact⟨trivial,K⟩) (fun i e j c g l=>by
     have z:=f i e j c g l;obtain⟨x,rfl,K⟩:=o _ c z;have:=m _ x z;simp only[this,Option.getD_some];exact .v _)
   rw[H] at N;exact N
theorem Qej {M:Nat->Prop}{k:IntKind}{n:Int}:∀{es:jVj} {l:List MapEntry},MR w M es l->allI k n es=true->∀x,x∈l->x.val=.int k n
 | [],[],_,_,x,b=>by cases b
 | _::es,e::l,h,a,x,b=>by
  obtain⟨⟨y,rfl,c⟩,d⟩:=h;unfold allI at a;have f:keyOf (.tup [.v e.key,y])=some (e.key,y):=rfl;rw[f] at a;cases y with
  | v y =>
   cases y with
   | int g m =>
    simp only[jAj,decide_eq_true_eq] at a;obtain⟨rfl,rfl,a⟩:=a;obtain rfl|b:=List.mem_cons.1 b
    ·generalize x.val=z at c;cases c;rfl
    ·exact Qej d a x b
   | _=>cases a
  | _=>cases a
 | [],_::_,h,_,_,_=>h.elim
 | _::_,[],h,_,_,_=>h.elim
theorem MR.len {M:Nat->Prop}:∀{es:jVj} {l:List MapEntry},MR w M es l->l.length=es.length
 | [],[],_=>rfl
 | _::es,_::l,h=>by rw[List.length_cons,List.length_cons,MR.len h.2]
 | [],_::_,h=>h.elim
 | _::_,[],h=>h.elim
theorem Qbj (seen:Array Nat)(e:MapEntry)(g:seen.contains e.born=false):∀l:List MapEntry,(l.map (·.born)).Nodup->e∈l->(l.filter fun x=>!(seen.push e.born).contains x.born).length+1=(l.filter fun x=>!seen.contains x.born).length
 | [],_,b=>by cases b
 | a::l,hn,b=>by
  rw[jCj,List.nodup_cons] at hn;simp only[List.filter_cons,contains_push];obtain rfl|b:=List.mem_cons.1 b
  ·have d:∀x,x∈l->x.born≠e.born:=fun x f h=>hn.1 (List.mem_map.2 ⟨x,f,h⟩);have j:(l.filter fun x=>!(seen.contains x.born || x.born==e.born))=l.filter fun x=>!seen.contains x.born:=List.filter_congr fun x f=>by simp[d x f]
   rw[j,g];simp
  ·have c:a.born≠e.born:=fun h=>hn.1 (List.mem_map.2 ⟨e,b,h.symm⟩);have i:=Qbj seen e g l hn.2 b;simp only[contains_push] at i;have k:(a.born==e.born)=false:=by rw[beq_eq_false_iff_ne];exact c
   rw[k,Bool.or_false];cases hc:seen.contains a.born with
   | true=>simpa using i
   | false =>
    simp only[Bool.not_false,if_true,List.length_cons];omega
theorem Qdk (h:HSim cx F hp ρ w){name:Nat}{t:TypeId}{x:AV}{M:Value}(a:QcE cx hp name orc t x=some r)(Q:∀q,q∈r.ob->q)(K:VR w (MM F hp ρ) hp ρ x M) :
  ∃v w',(Instr.range t M).run cx.P w=.ok v w'/\OpOK cx F hp ρ w r.up r.val v w':=by
 unfold QcE at a;split at a
 ·rename_i s G j l;simp only[jIj] at a;subst a;have H:=JZ j K;subst H;refine⟨.pointer (some ⟨w.heap.size,0,none⟩),w.alloc (.stringIter s 0),?_,?_⟩
  ·simp[Instr.range,Qk G]
  obtain⟨m,o⟩:=h.freshO (b:=name) (k:=.it (.str s) 0) (v:=.pointer (some ⟨w.heap.size,0,none⟩)) (.stringIter s 0) (fun r a=>by simp only[QX,jIj] at a;exact a.symm) (fun k0 d=>by rw[l] at d;cases d)
   (fun i=>⟨w.heap.size,Qx _ _ _,Z2 _ _⟩)
  exact⟨_,m,o,.own name 0 _ _ (Qf _ _ _) (jLj _) rfl fun _=>(Qx _ _ _).symm⟩
 ·rename_i U N G j l;split at a;case h_2=>cases a
  rename_i b es k n L E;simp only[jIj] at a;subst a;obtain⟨y,rfl,f,es',c,J,p,u⟩:=jF h E K;obtain⟨k1,S,T⟩:=h.kill y;have g:f<w.heap.size:=(Array.getElem?_eq_some_iff.1 p).1;have C:name≠b:=by intro e;subst e;rw[l] at y;cases y
  have A : look ((b,Blk.dead)::hp) name=none:=by rw[Qc _ _ (Ne.symm C)];exact l
  refine⟨.pointer (some ⟨w.heap.size,0,none⟩),w.alloc (.mapIter (some f) c #[] c),?_,?_⟩
  ·rw[J];exact run_range_map w t U N f es' c G p
  obtain⟨m,o⟩:=k1.freshO (b:=name) (k:=.it (.mp (.int k n) es.length) es.length) (v:=.pointer (some ⟨w.heap.size,0,none⟩)) (.mapIter (some f) c #[] c) (fun r a=>by simp only[QX,jIj] at a;exact a.symm) (fun k0 d=>by rw[A] at d;cases d)
   (fun i=>⟨w.heap.size,Qx _ _ _,f,es',c,#[],Z2 _ _,fun z=>T f (by rw[J];rfl) (z.imp id (i.mt f g)),(heap_alloc_old _ _ g).trans p,u.2,Qej u.1 (Q _ jMj),by rw[<-u.1.len];simp,fun O=>absurd O (Nat.lt_irrefl _)⟩)
  exact⟨_,m,S.trans o,.own name 0 _ _ (Qf _ _ _) (jLj _) rfl fun _=>(Qx _ _ _).symm⟩
 ·cases a
theorem ut (h:HSim cx F hp ρ w){m:AV}{b p:Nat}{s:It}{f:Value}(a:kU hp m=some (b,s,p))(j:VR w (MM F hp ρ) hp ρ m f) :
  look hp b=some (.it s p)/\f=ρ b/\∃r,ρ b=.pointer (some ⟨r,0,none⟩)/\ItR w (MM F hp ρ) r p s:=by
 unfold kU at a;split at a;case h_2=>cases a
 rename_i b0 o;cases j with
 | own _ _ k _ c i e g =>
  rw[c] at a;split at a;case h_2=>cases a
  rename_i n l d;cases d;simp only[jIj,jPj] at a;obtain⟨rfl,rfl,rfl⟩:=a;refine⟨c,g ?_,h.blk _ _ c⟩;simp only[Blk.ver] at i ⊢;omega
theorem QeE (h:HSim cx F hp ρ w){ty:TypeId}{x:AV}{A:Value}(a:Qf6 sym orc hp x=some r)(z:∀q,q∈r.ob->q)(K:VR w (MM F hp ρ) hp ρ x A) :
  ∃v w',(Instr.next A true ty).run cx.P w=.ok v w'/\OpOK cx F hp ρ w r.up r.val v w':=by
 unfold Qf6 at a;split at a;case h_2=>cases a
 rename_i b s p u;obtain⟨G,rfl,j,l,o⟩:=ut h u K;have n:w.heap[j]?=some (.stringIter s p):=o;have f:p<s.size->∃v w',(Instr.next (ρ b) true ty).run cx.P w=.ok v w'/\OpOK cx F hp ρ w [(b,.it (.str s) (p+(Utf8.decode s p).2))] (.d (QhO s p)) v w':=by
  intro hp;refine⟨.tuple #[.bool true,.int .i64 (p:Int),.int .i32 ((Utf8.decode s p).1:Int)],{ w with heap:=w.heap.setIfInBounds j (.stringIter s (p+(Utf8.decode s p).2)) },?_,?_⟩
  ·rw[l];simp[Instr.next,getObj,setObj,Sem.run,n,hp,goInt,Result.andThen]
  have e:=MapKept.heap_set (w:=w) (r:=j) (o':=Obj.stringIter s (p+(Utf8.decode s p).2)) n;obtain⟨C,E⟩:=h.write (b:=b) (k0:=.it (.str s) p) (k:=.it (.str s) (p+(Utf8.decode s p).2)) (v:=ρ b) (r:=j) (w':={ w with heap:=w.heap.setIfInBounds j (.stringIter s (p+(Utf8.decode s p).2)) }) G rfl (by rw[l];rfl) (by rw[l];rfl) (.inr ⟨rfl,rfl⟩)
   ⟨fun _=>jLj _,rfl,rfl,rfl,by simp,fun q _ H=>e.2 q H⟩ (fun J=>by exact⟨j,by rw[Qx];exact l,e.1⟩)
  exact⟨_,C,E,.d _ _ (.tup _ [.bool true,.int .i64 (p:Int),.int .i32 ((Utf8.decode s p).1:Int)] rfl fun i c y hc m=>by
   match i with
   | 0=>cases hc;cases m;exact .v _
   | 1=>cases hc;cases m;exact .v _
   | 2=>cases hc;cases m;exact .v _
   | i+3=>simp at hc)⟩
 have g:¬p<s.size->∃v w',(Instr.next (ρ b) true ty).run cx.P w=.ok v w'/\OpOK cx F hp ρ w [] (.d (.tup [.v (.bool false)])) v w':=by
  intro hp;refine⟨.tuple #[.bool false],w,?_,OpOK.quiet h (.d _ _ (.tup _ [.bool false] rfl fun i c y hc m=>?_))⟩
  ·rw[l];simp[Instr.next,getObj,Sem.run,n,hp,Result.andThen]
  ·match i with
   | 0=>cases hc;cases m;exact .v _
   | i+1=>simp at hc
 split at a
 ·simp only[jIj] at a;subst a;exact f (z _ jMj)
 ·simp only[jIj] at a;subst a;exact g (z _ jMj)
 ·split at a
  ·rename_i t;simp only[jIj] at a;subst a;exact f (of_decide_eq_true t)
  ·rename_i t;simp only[jIj] at a;subst a;exact g (of_decide_eq_false t)
 ·cases a
theorem QdE (h:HSim cx F hp ρ w){ty:TypeId}{x:AV}{Z:Value}(j:QcG sym orc hp x=some r)(Y:∀q,q∈r.ob->q)(hx:VR w (MM F hp ρ) hp ρ x Z) :
  ∃v w',(Instr.next Z false ty).run cx.P w=.ok v w'/\OpOK cx F hp ρ w r.up r.val v w':=by
 unfold QcG at j;split at j;case h_2=>cases j
 rename_i b v n p K;obtain⟨hb,rfl,o,t,g,es,c,seen,V,q2,E,X,q5,q6,q7⟩:=ut h K hx;have m:=run_next_at (P:=cx.P) w ty o g c c seen es c V E X.1 (jLj c);have a0:(leftOf es seen).size=p:=q6;split at j
 ·simp only[jIj] at j;subst j;have O:0<p:=Y _ jMj;obtain⟨z,_⟩|⟨e,J,l,f,s⟩:=m
  ·omega
  obtain⟨u,he2⟩:=mem_left J;have G:l.heap=w.heap:=by obtain rfl|rfl:=f<;>rfl
  have W : l.heap[o]?=some (.mapIter (some g) c seen c):=by rw[G];exact V
  have a:=MapKept.heap_set (w:=l) (r:=o) (o':=Obj.mapIter (some g) c (seen.push e.born) c) W;have M:g≠o:=by intro e;subst e;rw[V] at E;cases E
  have H:w.drawn<=l.drawn:=by
   obtain rfl|rfl:=f
   ·exact jLj _
   ·exact Nat.le_succ _
  have N:l.os=w.os:=by obtain rfl|rfl:=f<;>rfl
  have T:l.tape=w.tape:=by obtain rfl|rfl:=f<;>rfl
  have A:l.output=w.output:=by obtain rfl|rfl:=f<;>rfl
  have C:w.heap.size<=(l.heap.setIfInBounds o (.mapIter (some g) c (seen.push e.born) c)).size:=by rw[Array.size_setIfInBounds,G];exact jLj _
  refine⟨.tuple #[.bool true,e.key,e.val],_,by rw[t];exact s,?_⟩;obtain⟨g1,g2⟩:=h.write (b:=b) (k0:=.it (.mp v n) p) (k:=.it (.mp v n) (p - 1)) (v:=ρ b) (r:=o) (w':=ChangeMaps.setBlock l o (.mapIter (some g) c (seen.push e.born) c)) hb rfl (by rw[t];rfl) (by rw[t];rfl) (.inr ⟨rfl,rfl⟩)
   ⟨fun _=>H,N,T,A,C,fun q _ hq=>(a.2 q hq).trans (by rw[G])⟩ (fun S=>by
    refine⟨o,by rw[Qx];exact t,g,es,c,seen.push e.born,a.1,?_,(a.2 g M).trans (by rw[G];exact E),X,q5,?_,fun _=>⟨e,u,by simp⟩⟩
    ·exact fun L=>q2 (L.imp id (S.mt g (Array.getElem?_eq_some_iff.1 E).1))
    ·have Q:=Qbj seen e he2 es.toList X.2 u;rw[<-Array.toList_filter,<-Array.toList_filter,Array.length_toList,Array.length_toList] at Q;omega)
  exact⟨_,g1,g2,.tup _ [.bool true,e.key,e.val] rfl fun i c y hc U=>by
   match i with
   | 0=>cases hc;cases U;exact .d _ _ (.v _)
   | 1=>cases hc;exact .junk _
   | 2=>cases hc;exact .junk _
   | i+3=>simp at hc⟩
 ·simp only[jIj] at j;subst j;have O:¬0<p:=Y _ jMj;obtain⟨z,s⟩|⟨e,J,_⟩:=m
  ·refine⟨.tuple #[.bool false],w,by rw[t];exact s,OpOK.quiet h (.d _ _ (.tup _ [.bool false] rfl fun i c y hc U=>?_))⟩;match i with
   | 0=>cases hc;cases U;exact .v _
   | i+1=>simp at hc
  ·exfalso;have:0<(leftOf es seen).toList.length:=List.length_pos_of_mem J;rw[Array.length_toList] at this;omega
 ·cases j
theorem Qcg (h:HSim cx F hp ρ w){x:AV}{k:Value}(a:yR orc hp x=some r)(o:∀q,q∈r.ob->q)(s:VR w (MM F hp ρ) hp ρ x k) :
  ∃v w',(Instr.entry k).run cx.P w=.ok v w'/\OpOK cx F hp ρ w r.up r.val v w':=by
 unfold yR at a;split at a;case h_2=>cases a
 rename_i b v n p g;simp only[jIj] at a;subst a;obtain⟨J,rfl,G,m,l,es,c,seen,u,K,z,A,C,L,E⟩:=ut h g s;obtain⟨e,j,f⟩:=E (o _ jMj);obtain⟨H,rfl⟩:=Array.back?_eq_some_iff.1 f;refine⟨.tuple #[e.key,e.val],w,by rw[m];exact run_entry_at w G l c H es c e u z j A.2,OpOK.quiet h (.tup _ [e.key,e.val] rfl fun i c y hc t=>?_)⟩;match i with
 | 0=>cases hc;exact .junk _
 | 1=>cases hc;cases t;rw[C e j];exact .d _ _ (.v _)
 | i+2=>simp at hc
theorem wu {M:Nat->Prop}{y v:Value}(h:VR w M hp ρ (.d (.v y)) v):v=y:=by
 cases h with
 | d _ _ h=>cases h;rfl
theorem Qdt {hev:∀x,VR w (MM F hp ρ) hp ρ (ev x) (re x)}{a:Option Operand}{l:Option Value}(h:optV (a.map ev)=some l):a.map re=l:=by
 cases a with
 | none=>simp only[Option.map_none,optV,jIj] at h;subst h;rfl
 | some x =>
  simp only[Option.map_some,optV] at h;split at h<;>simp only[jIj,reduceCtorEq] at h;rename_i v b;subst h;simp only[Option.map_some,jIj];exact JZ b (hev x)
theorem Y3 {hev:∀x,VR w (MM F hp ρ) hp ρ (ev x) (re x)}{a:Option Operand}{d n:Int}(h:Us (a.map ev) d=some n):(a.map re=none/\n=d)\/∃k,a.map re=some (.int k n):=by
 cases a with
 | none=>simp only[Option.map_none,Us,jIj] at h;exact .inl ⟨rfl,h.symm⟩
 | some x =>
  have b:=hev x;simp only[Option.map_some] at h ⊢;cases hex:ev x with
  | d q =>
   rw[hex] at h b;cases q with
   | v y =>
    cases y with
    | int k m =>
     simp only[Us,jIj] at h;subst h;exact .inr ⟨k,by rw[wu b]⟩
    | _=>simp[Us] at h
   | _=>simp[Us] at h
  | _=>rw[hex] at h;simp[Us] at h
theorem Yn {P:Program}{k:IntKind}{i:Int}{y:Nat}(a:0<=i)(b:i<=(y:Int))(c:BoundsCode)(w:World):(Instr.sliceBound (.int k i) y c).run P w=.ok i.toNat w:=by simp[Instr.sliceBound,asIntOf,a,b]
theorem QaR (h:HSim cx F hp ρ w)(hev:∀x,VR w (MM F hp ρ) hp ρ (ev x) (re x)){t:TypeId}{x:Operand}{G O H:Option Operand}(f:Um cx sym orc hp t (ev x) (G.map ev) (O.map ev) (H.map ev)=some r)(ho:∀q,q∈r.ob->q) :
  ∃v,(Instr.sliceAt t (re x) (G.map re) (O.map re) (H.map re)).run cx.P w=.ok v w/\OpOK cx F hp ρ w r.up r.val v w:=by
 have hx:=hev x;unfold Um at f;split at f;case h_2=>cases f
 rename_i o b ver _ N a2 a3;split at f;case h_2=>cases f
 rename_i ver' sz es C;split at f;case h_2=>cases f
 rename_i X k hu M hk;split at f;case h_2=>cases f
 rename_i s ob o' hs U;split at f;case h_2=>cases f
 rename_i W;simp only[jIj] at f;subst f;have e1:=jqj M;have e2:=jqj W;subst e1;subst e2;obtain⟨b1,b2⟩:=Wx U ho;have e3:H.map re=none:=by cases H<;>simp_all
 have e4:G.map re=none:=by cases G<;>simp_all
 rw[e3,e4];rw[N] at hx;have S:=Y3 (hev:=hev) hk;obtain⟨E,T⟩:∃E,O.map re=some (.int E k):=by
  obtain⟨_,e⟩|e:=S
  ·omega
  ·exact e
 rw[T];cases hx with
 | own _ _ kk _ m hv a1 hh =>
  rw[C] at m;cases m;rw[hh rfl];have Y:=Qk hu w;have Z:=Q7 hs w;obtain⟨rfl,a0,z⟩|⟨A,c,e,cap,z,⟨q2,g⟩,q3,q4,q5,q6⟩:=h.blk b _ C
  ·have Q:k=0:=by simp at b2;omega
   subst Q;rw[z];obtain⟨J,K⟩:=h.renew C z;refine⟨.slice a0 0 0,?_,⟨VI ρ b (.slice a0 0 0),J,K,.own b (ver+1) _ _ (Qf _ _ _) (jLj _) rfl fun _=>(Qx _ _ _).symm⟩⟩;have L:=Yn (P:=cx.P) (k:=E) (i:=0) (y:=0) (by omega) (by omega) .sliceAcap w;simp[Instr.sliceAt,Instr.slice,Sem.run_bind,Y,Instr.sliceBounds,L,Z,Result.andThen_ok]
  ·rw[z];have n:(es.take k.toNat).length=k.toNat:=by simp;omega
   obtain⟨J,K⟩:=h.write (b:=b) (k:=.row (ver+1) s (es.take k.toNat)) (v:=.slice (some ⟨A,0,none⟩) k.toNat cap) C rfl (r:=A) (by rw[z];exact Q8 g) (Q8 g)
    (.inl (Nat.lt_succ_self _)) ⟨fun _=>jLj _,rfl,rfl,rfl,jLj _,fun _ _ _=>rfl⟩ (fun V=>by
     have u:RowIn w (MM F hp ρ) s (es.take k.toNat) c:=by refine⟨fun i d l=>q5 i d ?_,fun i d j a l ha=>q6 i d j a ?_ ha⟩<;>(rw[List.getElem?_take] at l;split at l;exact l;cases l)
     have p:=u.mono (w':=w) (M':=MM F ((b,Blk.row (ver+1) s (es.take k.toNat))::hp) (VI ρ b (.slice (some ⟨A,0,none⟩) k.toNat cap))) (fun x y l=>V.dr l);exact .inr ⟨A,c,e,cap,by rw[Qx,n],⟨by rw[n];omega,g⟩,q3,q4,p.1,p.2⟩)
   refine⟨.slice (some ⟨A,0,none⟩) k.toNat cap,?_,⟨_,J,K,.own b (ver+1) _ _ (Qf _ _ _) (jLj _) rfl fun _=>(Qx _ _ _).symm⟩⟩;have L:=Yn (P:=cx.P) (k:=E) (i:=k) (y:=cap) (by omega) (by omega) .sliceAcap w;simp[Instr.sliceAt,Instr.slice,Sem.run_bind,Y,Instr.sliceBounds,L,Z,Result.andThen_ok];intro _;rw[add_at]
theorem Qfc (h:HSim cx F hp ρ w)(hev:∀x,VR w (MM F hp ρ) hp ρ (ev x) (re x)){t:TypeId}{x:Operand}{m j n:Option Operand}(a:yD cx sym orc hp t (ev x) (m.map ev) (j.map ev) (n.map ev)=some r)(ho:∀q,q∈r.ob->q) :
  ∃v,(Instr.sliceAt t (re x) (m.map re) (j.map re) (n.map re)).run cx.P w=.ok v w/\OpOK cx F hp ρ w r.up r.val v w:=by
 have J:=hev x;unfold yD at a;split at a;case h_2=>cases a
 rename_i o b ver K l a2 z d Z a1;split at a;case h_2=>cases a
 rename_i ver' sz es p;split at a;case h_2=>cases a
 rename_i G hu u;split at a;case h_2=>cases a
 rename_i s ob o' hs X;split at a;case h_2=>cases a
 rename_i C;simp only[jIj] at a;subst a;have N:=jqj u;have O:=jqj C;subst N;subst O;obtain⟨b1,M⟩:=Wx X ho;have Q:n.map re=none:=by cases n<;>simp_all
 have S:j.map re=none:=by cases j<;>simp_all
 have T:m.map re=some (.int K l):=by
  cases m with
  | none=>simp at d
  | some q =>
   simp only[Option.map_some,jIj] at d ⊢;have:=hev q;rw[d] at this;exact wu this
 rw[Q,S,T];rw[z] at J;cases J with
 | own _ _ kk _ f hv H Y =>
  rw[p] at f;cases f;rw[Y rfl];have U:=Qk hu w;have V:=Q7 hs w;obtain⟨rfl,a0,E⟩|⟨L,c,e,cap,E,⟨q2,g⟩,q3,q4,q5,q6⟩:=h.blk b _ p
  ·simp at M;omega
  ·rw[E];refine⟨.slice (some ⟨L,l.toNat*s,none⟩) (es.length - l.toNat) (cap - l.toNat),?_,OpOK.quiet h (.sub b ver s l.toNat (es.length - l.toNat) _ _ p (jLj _) rfl fun _=>⟨L,_,by rw[E];exact Q8 g,rfl⟩)⟩;have W:=Yn (P:=cx.P) (k:=K) (i:=l) (y:=es.length) b1 (by omega) .sliceB w;have A:¬cap=l.toNat:=by omega
   simp[Instr.sliceAt,Instr.slice,Sem.run_bind,U,Instr.sliceBounds,W,V,Result.andThen_ok,A,add_at]
theorem Qjp {b:Option AV}{es:jVj}{h l:Int}(c:Us b es.length=some h):cutD (isNo b) es h l=(es.take h.toNat).drop l.toNat:=by
 cases b with
 | none =>
  simp only[Us,jIj] at c;subst c;simp[cutD,isNo]
 | some a=>rfl
theorem QcB (h:HSim cx F hp ρ w)(hev:∀x,VR w (MM F hp ρ) hp ρ (ev x) (re x)){t:TypeId}{x:Operand}{lo Z J:Option Operand}(n:Xb cx sym orc hp t (ev x) (lo.map ev) (Z.map ev) (J.map ev)=some r)(ho:∀q,q∈r.ob->q) :
  ∃v,(Instr.sliceAt t (re x) (lo.map re) (Z.map re) (J.map re)).run cx.P w=.ok v w/\OpOK cx F hp ρ w r.up r.val v w:=by
 have hx:=hev x;unfold Xb at n;split at n
 ·rename_i s a3;split at n;case h_2=>cases n
  rename_i l b Q hl p;rw[a3] at hx;have e1:=Qdt (hev:=hev) hl;have e2:=Qdt (hev:=hev) p;have e3:J.map re=none:=by cases J<;>simp_all
  rw[e1,e2,e3,wu hx];exact kS h n ho
 ·split at n;case h_3=>cases n
  case h_2 =>
   rename_i Y m0 full sz es G hu Q hd;split at n;case h_2=>cases n
   rename_i s l b m hs hl p a0;split at n;case h_2=>cases n
   rename_i ob o' S;simp only[jIj] at n;subst n;obtain⟨b1,b2,b3,b5,b4⟩:=Wx S ho;have u:=Z8 h G _ _ _ G hd (fun _ h=>h) hx;rw[<-Q] at a0;have a4:=Y3 (hev:=hev) a0;have O:=Y3 (hev:=hev) hl;have L:=Y3 (hev:=hev) p;obtain⟨km,m1⟩:∃k,J.map re=some (.int k m):=by
    obtain⟨e,_⟩|e:=a4
    ·cases J<;>simp_all
    ·exact e
   obtain⟨kh,E⟩:∃k,Z.map re=some (.int k b):=by
    obtain⟨_,e⟩|e:=L
    ·omega
    ·exact e
   generalize re x=xv at u ⊢;cases u with
   | lst _ _ _ a cap blk off ys hf hc ha T hw K =>
    have hb:(Instr.sliceBounds true es.length cap (lo.map re) (Z.map re) (J.map re)).run cx.P w=.ok (l.toNat,b.toNat,m.toNat) w:=by
     have W:=Yn (P:=cx.P) (k:=km) (i:=m) (y:=cap) (by omega) (by omega) .slice3Acap w;have X:=Yn (P:=cx.P) (k:=kh) (i:=b) (y:=m.toNat) (by omega) (by omega) .slice3B w;obtain⟨H,l2⟩|⟨k',H⟩:=O
     ·have l3:l.toNat=0:=by rw[l2];rfl
      simp[Instr.sliceBounds,E,H,m1,W,X,l3,Result.andThen_ok]
     ·have h5:=Yn (P:=cx.P) (k:=k') (i:=l) (y:=b.toNat) (by omega) (by omega) .slice3C w;simp[Instr.sliceBounds,E,H,m1,W,X,h5,Result.andThen_ok]
    have a2:=Qk hu w;have V:=Q7 hs w;refine⟨.slice (if m.toNat=l.toNat then a else a.map (·.add (l.toNat*s))) (b.toNat - l.toNat) (m.toNat - l.toNat),?_,?_⟩
    ·simp only[Instr.sliceAt,Instr.slice,Sem.run_bind,a2,Result.andThen_ok,hb,V,Sem.run_pure]
    ·refine OpOK.frz h G (.d _ _ ?_);have z:((es.take b.toNat).drop l.toNat).length=b.toNat - l.toNat:=by simp;omega
     have f:∀(i:Nat) (e:D),((es.take b.toNat).drop l.toNat)[i]?=some e->es[l.toNat+i]?=some e:=by
      intro i e g;rw[List.getElem?_drop,List.getElem?_take] at g;split at g
      ·exact g
      ·cases g
     have C:=DR.lst (w:=w) (M:=MM F (Qd hp G++hp) ρ) (decide (b=m)) sz ((es.take b.toNat).drop l.toNat) (if m.toNat=l.toNat then a else a.map (·.add (l.toNat*s))) (m.toNat - l.toNat) blk (off+l.toNat*sz)
      (fun k=>ys (l.toNat*sz+k)) (fun h=>by have:=of_decide_eq_true h;omega) (by omega)
      (fun A=>by
       have o:es≠[]:=by rintro rfl;simp at A
       obtain⟨g1,g2,g3⟩:=ha o;have U:sz=s:=by
        obtain e|e:=b4
        ·exact absurd e o
        ·exact e
       subst U;have a1:0<((es.take b.toNat).drop l.toNat).length:=List.length_pos_iff.2 A;refine⟨?_,g2,g3⟩;rw[jFj (by omega),g1];simp[add_at])
      (fun i e g=>T _ e (f i e g))
      (fun i e j c g N=>by have:=hw _ e j c (f i e g) N;rw[Nat.add_mul,Nat.add_assoc] at this;rw[Nat.add_assoc];exact this)
      (fun i e j c g N=>by have:=K _ e j c (f i e g) N;rw[Nat.add_mul,Nat.add_assoc] at this;exact this)
     rw[z] at C;exact C
  rename_i Y full sz es G hu Q hd;split at n;case h_2=>cases n
  rename_i s l b hs hl p;split at n;case h_2=>cases n
  rename_i ob o' S;simp only[jIj] at n;subst n;rw[Qjp p];obtain⟨b1,b2,b3,b4⟩:=Wx S ho;have u:=Z8 h G _ _ _ G hd (fun _ h=>h) hx;have e3:J.map re=none:=by cases J<;>simp_all
  rw[e3];generalize re x=xv at u ⊢;cases u with
  | lst _ _ _ a cap blk off ys hf hc ha T hw K =>
   have O:=Y3 (hev:=hev) hl;have L:=Y3 (hev:=hev) p;have hb:(Instr.sliceBounds true es.length cap (lo.map re) (Z.map re) none).run cx.P w=.ok (l.toNat,b.toNat,cap) w:=by
    obtain⟨E,V⟩|⟨k,E⟩:=L<;>obtain⟨H,l2⟩|⟨k',H⟩:=O
    ·subst V;subst l2;simp[Instr.sliceBounds,E,H]
    ·subst V;have:l<=(es.length:Int):=by omega
     simp[Instr.sliceBounds,E,H,Instr.sliceBound,asIntOf,b1,this]
    ·subst l2;have W:0<=b:=by omega
     have X:b<=(cap:Int):=by omega
     simp[Instr.sliceBounds,E,H,Instr.sliceBound,asIntOf,W,X]
    ·have W:0<=b:=by omega
     have X:b<=(cap:Int):=by omega
     have h5:l<=((b.toNat:Nat):Int):=by omega
     simp[Instr.sliceBounds,E,H,Instr.sliceBound,asIntOf,W,X,b1];omega
   have E:=Qk hu w;have V:=Q7 hs w;refine⟨.slice (if cap=l.toNat then a else a.map (·.add (l.toNat*s))) (b.toNat - l.toNat) (cap - l.toNat),?_,?_⟩
   ·simp only[Instr.sliceAt,Instr.slice,Sem.run_bind,E,Result.andThen_ok,hb,V,Sem.run_pure]
   ·refine OpOK.frz h G (.d _ _ ?_);have z:((es.take b.toNat).drop l.toNat).length=b.toNat - l.toNat:=by simp;omega
    have f:∀(i:Nat) (e:D),((es.take b.toNat).drop l.toNat)[i]?=some e->es[l.toNat+i]?=some e:=by
     intro i e g;rw[List.getElem?_drop,List.getElem?_take] at g;split at g
     ·exact g
     ·cases g
    have C:=DR.lst (w:=w) (M:=MM F (Qd hp G++hp) ρ) (decd sym orc&&(full&&decide (b=(es.length:Int)))) sz ((es.take b.toNat).drop l.toNat) (if cap=l.toNat then a else a.map (·.add (l.toNat*s))) (cap - l.toNat) blk (off+l.toNat*sz)
     (fun k=>ys (l.toNat*sz+k)) (fun h=>by simp only[jAj,decide_eq_true_eq] at h;have:=hf h.2.1;omega) (by omega)
     (fun A=>by
      have o:es≠[]:=by rintro rfl;simp at A
      obtain⟨g1,g2,g3⟩:=ha o;have U:sz=s:=by
       obtain e|e:=b4
       ·exact absurd e o
       ·exact e
      subst U;have a1:0<((es.take b.toNat).drop l.toNat).length:=List.length_pos_iff.2 A;refine⟨?_,g2,g3⟩;rw[jFj (by omega),g1];simp[add_at])
     (fun i e g=>T _ e (f i e g))
     (fun i e j c g N=>by have:=hw _ e j c (f i e g) N;rw[Nat.add_mul,Nat.add_assoc] at this;rw[Nat.add_assoc];exact this)
     (fun i e j c g N=>by have:=K _ e j c (f i e g) N;rw[Nat.add_mul,Nat.add_assoc] at this;exact this)
    rw[z] at C;exact C
theorem QbU (h:HSim cx F hp ρ w)(hev:∀x,VR w (MM F hp ρ) hp ρ (ev x) (re x)){t:TypeId}{b ver sz i off:Nat}{lo hi:Option Operand}{O:Bool}{xv:Value}(u:QbV cx hp orc t b ver sz i off (lo.map ev) (hi.map ev) O=some r)(hx:VR w (MM F hp ρ) hp ρ (.ptr b ver sz i off) xv) :
  O=true/\∃v,(Instr.sliceAt t xv (lo.map re) (hi.map re) none).run cx.P w=.ok v w/\OpOK cx F hp ρ w r.up r.val v w:=by
 unfold QbV at u;split at u;case h_2=>cases u
 rename_i ds up n a9 a hu;refine⟨rfl,?_⟩;split at u;case h_2=>cases u
 rename_i s l p hs hl a2;split at u;case h_2=>cases u
 rename_i hc;simp only[jIj] at u;subst u;simp only[jAj,decide_eq_true_eq] at hc;obtain⟨⟨⟨⟨⟨⟨⟨T,U⟩,V⟩,W⟩,X⟩,c7⟩,c1,c9,C⟩,c8⟩:=hc;replace T:=jqj T;replace U:=jqj U;replace V:=jqj V;replace W:=jqj W;replace X:=jqj X;replace c7:=jqj c7;subst T;subst U;subst V;subst W;subst X;have K:HSim cx F (up++hp) ρ w/\Steps1 hp ρ w (up++hp) ρ w/\look (up++hp) b=some (.fbox (.agg ds))/\∃k,look hp b=some k/\k.ver=0:=by
  unfold ji at a;split at a
  ·rename_i Y z;simp only[jIj,jPj] at a;obtain⟨rfl,rfl⟩:=a;exact⟨h,Steps1.refl _ _ _,z,_,z,rfl⟩
  ·rename_i x z;split at a
   ·rename_i Y A;simp only[jIj,jPj] at a;obtain⟨rfl,rfl⟩:=a;obtain⟨S,Z⟩:=h.box_frozen z A;exact⟨S,Z,Qf _ _ _,_,z,rfl⟩
   ·cases a
  ·cases a
 obtain⟨S,Z,z,k1,a0,a5⟩:=K;have a6:=Y3 (hev:=hev) hl;have a4:=Y3 (hev:=hev) a2;cases hx with
 | ptr _ _ _ _ _ k _ G hv ho a3 =>
  rw[a0] at G;cases G;obtain⟨r0,q1,rfl⟩:=a3 a5.symm;obtain⟨Q,p1,p2,p3,p4⟩:=S.blk b _ z;rw[p1] at q1;simp only[QX,jIj] at q1;subst q1;have m:∀(j:Nat) (c:D),ds[j]?=some c->∃x,c=.v x/\one x=true:=by
   intro j c q;have:=List.all_eq_true.1 c8 c (jgj q);cases c with
   | v x=>exact⟨x,rfl,this⟩
   | _=>cases this
  have f:∀(j:Nat) (x:Value),ds[j]?=some (.v x)->w.cell? ⟨Q,j,none⟩=some x:=by intro j x q;obtain⟨y,hy,a8⟩:=p4 j (.v x) q;rw[Nat.zero_add] at hy;cases a8;exact hy
  have a1:(Instr.sliceBounds false n n (lo.map re) (hi.map re) none).run cx.P w=.ok (l.toNat,p.toNat,n) w:=by
   obtain⟨E,h2⟩|⟨k,E⟩:=a4<;>obtain⟨N,l2⟩|⟨k',N⟩:=a6
   ·subst h2;subst l2;simp[Instr.sliceBounds,E,N]
   ·subst h2;have:l<=(n:Int):=by omega
    simp[Instr.sliceBounds,E,N,Instr.sliceBound,asIntOf,c1,this]
   ·subst l2;have h3:0<=p:=by omega
    simp[Instr.sliceBounds,E,N,Instr.sliceBound,asIntOf,h3,C]
   ·have h3:0<=p:=by omega
    have h5:l<=((p.toNat:Nat):Int):=by omega
    simp[Instr.sliceBounds,E,N,Instr.sliceBound,asIntOf,h3,C,c1];omega
  refine⟨.slice (some ⟨Q,l.toNat,none⟩) (p.toNat - l.toNat) (n - l.toNat),?_,⟨_,S,Z,.d _ _ ?_⟩⟩
  ·have hz:=Q7 hs w;have a7:¬n=l.toNat:=by omega
   simp only[Instr.sliceAt,Sem.run_bind,Qk hu w,Result.andThen_ok,Instr.sureAddr,Sem.run_pure,a1,hz,jFj a7,Nat.mul_one,add_at,Nat.zero_mul,Nat.zero_add,Nat.add_zero]
  ·have H:((ds.take p.toNat).drop l.toNat).length=p.toNat - l.toNat:=by simp;omega
   have g:∀(i:Nat) (e:D),((ds.take p.toNat).drop l.toNat)[i]?=some e->ds[l.toNat+i]?=some e:=by
    intro i e o;rw[List.getElem?_drop,List.getElem?_take] at o;split at o
    ·exact o
    ·cases o
   have L:=DR.lst (w:=w) (M:=MM F (up++hp) ρ) false 1 ((ds.take p.toNat).drop l.toNat) (some ⟨Q,l.toNat,none⟩) (n - l.toNat) Q l.toNat (fun j=>(w.cell? ⟨Q,l.toNat+j,none⟩).getD undef) (fun h=>by cases h) (by omega) (fun _=>⟨rfl,p2,p3⟩)
    (fun i e o=>by obtain⟨x,rfl,_⟩:=m _ e (g i e o);rfl)
    (fun i e j c o q=>by
     have A:=g i e o;obtain⟨x,rfl,J⟩:=m _ e A;cases j with
     | succ j=>simp[D.cells] at q
     | zero =>
      have:=f _ x A;simp only[Nat.mul_one,Nat.add_zero,this,Option.getD_some];exact⟨trivial,J⟩)
    (fun i e j c o q=>by
     have A:=g i e o;obtain⟨x,rfl,J⟩:=m _ e A;cases j with
     | succ j=>simp[D.cells] at q
     | zero =>
      simp only[D.cells,jzj,jIj] at q;subst q;have:=f _ x A;simp only[Nat.mul_one,Nat.add_zero,this,Option.getD_some];exact .v _)
   rw[H] at L;exact L
theorem Qfm (h:HSim cx F hp ρ w){t:TypeId}{x:AV}{H:Value}(e:aarr cx sym orc hp t x=some r)(Q:∀q,q∈r.ob->q)(V:VR w (MM F hp ρ) hp ρ x H) :
  ∃v,(Instr.arrayAt t H).run cx.P w=.ok v w/\OpOK cx F hp ρ w r.up r.val v w:=by
 unfold aarr at e;split at e;case h_2=>cases e
 rename_i n C full sz es p T M;split at e;case h_2=>cases e
 rename_i s l ob o' hs b;split at e;case h_2=>cases e
 rename_i hc;simp only[jIj] at e;subst e;simp only[jAj,Nat.blt_eq] at hc;obtain⟨⟨⟨⟨m,o⟩,k⟩,Y⟩,J⟩:=hc;replace m:=jqj m;replace o:=jqj o;replace k:=jqj k;subst m;subst o;have i:es.take n=l:=by
  unfold QjM at b;split at b
  ·simp only[jIj,jPj] at b;obtain⟨rfl,rfl,rfl⟩:=b;exact Q _ jMj
  ·simp only[jIj,jPj] at b;exact b.1
  ·cases b
 have f:n<=es.length:=by have:=congrArg List.length i;rw[List.length_take,k] at this;omega
 have y:=Z8 h p _ _ _ p M (fun _ h=>h) V;cases y with
 | lst _ _ _ a cap blk off ys Z L K S U u =>
  have A:es≠[]:=by rintro rfl;simp at f;omega
  obtain⟨rfl,W,X⟩:=K A;refine⟨.pointer (some ⟨blk,off,none⟩),?_,OpOK.frz h p ?_⟩
  ·have O:¬es.length<n:=by omega
   simp only[Instr.arrayAt,Sem.run_bind,Qk T w,Result.andThen_ok,jFj O,Sem.run_pure]
  ·refine .dptr (.agg l) 0 blk off ⟨W,X,fun j c N=>?_⟩;have d : l[j]?=some c:=N;have z:j<n:=by rw[<-k];exact(jGj d).1
   have E:es[j]?=some c:=by rw[<-i,List.getElem?_take,jTj z] at d;exact d
   have g:∃x,c=.v x/\one x=true:=by
    have:=List.all_eq_true.1 J c (jgj d);cases c with
    | v x=>exact⟨x,rfl,this⟩
    | _=>cases this
   obtain⟨x,rfl,_⟩:=g;have k1:=(U j _ 0 (.v x) E rfl).1;have G:=u j _ 0 (.v x) E rfl;rw[Nat.mul_one,Nat.add_zero] at k1 G;exact⟨_,k1,G⟩
end
end Go.SX
