/- Own texts. -/
import Derived.WalkKit
import Derived.MapKept
set_option linter.unusedSimpArgs false
set_option linter.unusedSectionVars false
set_option linter.unusedVariables false
set_option linter.unnecessarySimpa false
namespace Go.SX
theorem jBj.{u,v}{b:Type u}{c:Type v}(a:b)(f:b->Option c):(some a).bind f=f a:=rfl
theorem jIj.{u}{c:Type u}(a b:c):(some a=some b)=(a=b):=Option.some.injEq a b
theorem jPj.{u,v}{e:Type u}{f:Type v}(a:e)(b:f)(c:e)(d:f):((a,b)=(c,d))=(a=c/\b=d):=Prod.mk.injEq a b c d
theorem jGj.{u}{b:Type u}{l:List b}{i:Nat}{a:b}(h:l[i]?=some a):∃h:i<l.length,l[i]=a:=List.getElem?_eq_some_iff.1 h
theorem jAj (a b:Bool):((a&&b)=true)=(a=true/\b=true):=Bool.and_eq_true a b
theorem jLj (n:Nat):n<=n:=Nat.le_refl n
theorem jTj.{u}{c:Prop}{h:Decidable c}(hc:c){a:Sort u}{t e:a}:ite c t e=t:=if_pos hc
theorem jFj.{u}{c:Prop}{h:Decidable c}(hc:¬c){a:Sort u}{t e:a}:ite c t e=e:=if_neg hc
theorem jMj.{u}{b:Type u}{a:b}{l:List b}:a∈a::l:=List.mem_cons_self
theorem jCj.{u,v}{b:Type u}{c:Type v}{f:b->c}{a:b}{l:List b}:(a::l).map f=f a::l.map f:=List.map_cons
theorem jDj {p:Prop}[h:Decidable p](hp:p):decide p=true:=decide_eq_true hp
theorem jEj {p:Prop}[h:Decidable p](hp:¬p):decide p=false:=decide_eq_false hp
abbrev jSj:Type:=ByteArray
theorem jlj.{u,v}{a:Type u}{b:Type v}{l:List a}(f:a->b):(l.map f).length=l.length:=List.length_map f
theorem jmj.{u}{b:Type u}(y:b){a:b}{l:List b}(h:a∈l):a∈y::l:=List.mem_cons_of_mem y h
theorem jtj (n:Nat):(n:Int).toNat=n:=Int.toNat_natCast n
theorem jzj.{u}{b:Type u}{a:b}{l:List b}:(a::l)[0]?=some a:=List.getElem?_cons_zero
theorem jqj {n m:Nat}(h:Nat.beq n m=true):n=m:=Nat.eq_of_beq_eq_true h
theorem jgj.{u}{b:Type u}{l:List b}{i:Nat}{a:b}(h:l[i]?=some a):a∈l:=List.mem_of_getElem? h
theorem jaj.{u}{a:Type u}{l r:List a}:(l++r).length=l.length+r.length:=List.length_append
theorem jnj.{u,v}{a:Type u}{b:Type v}{f:a->b}:List.map f []=[]:=List.map_nil
theorem jej.{u}{a:Type u}{l:List a}{i:Nat}(h:i<l.length):l[i]?=some l[i]:=List.getElem?_eq_getElem h
inductive D where
 | v (x:Value)
 | agg (cs:List D)
 | tup (vs:List D)
 | lst (full:Bool) (sz:Nat) (es:List D)
 | fn (f:Fn) (first captured:List D)
 | ref (x:D) (off:Nat)
 | nan (k:FloatKind)
 | mp (es:List D)
 deriving Inhabited
inductive AV where
 | d (x:D)
 | agg (cs:List AV)
 | tup (vs:List AV)
 | dptr (x:D) (off:Nat)
 | ptr (b ver sz i off:Nat)
 | own (b ver:Nat)
 | sub (b ver sz lo n:Nat)
 | fn (f:Fn) (first captured:List AV)
 | junk
 deriving Inhabited
abbrev jVj:Type:=List D
abbrev jRj:Type:=Int×Int×Bool×Bool×Int×Int×Int×jVj×jVj×jVj
inductive OC where
 | dat (x:D)
 | row (sz:Nat) (es:jVj)
 deriving Inhabited
inductive Ex where
 | normal
 | exit (id:Nat)
 | ret
inductive Blk where
 | box (x:AV)
 | row (ver sz:Nat) (es:jVj)
 | frozen (ver sz:Nat) (es:jVj)
 | virt (ver sz:Nat) (es:jVj)
 | loop (ready:Bool) (tm:List (Nat×AV)) (ps:List Nat) (assign body:Code) (nt:Nat)
 | mp (es:jVj)
 | it (s:jSj) (pos:Nat)
 | fbox (x:D)
 | left (e:Ex)
 | dead
 deriving Inhabited
inductive Orc where
 | no
 | br (b:Bool)
 | el (x:D)
 | ret (r:D)
 | lp (pr kt kb:List Nat) (e:Ex) (tm:List (Nat×AV)) (hp:List (Nat×Blk)) (nx:Nat)
 | ix (k:Int)
 | obj (b:Option Nat) (r:AV) (cs:List OC) (ks:List Bool)
structure St where
 nt:Nat
 sym:Bool
 tm:List (Nat×AV)
 hp:List (Nat×Blk)
 nx:Nat
 orc:List Orc
 ob:List Prop
 vis:Nat
 sfx:Bool
 rnd:Bool:=false
structure Cx where
 P:Program
 G:Nat->Option D
 K:Nat->Option (jVj->Option D):=fun _=>none
 E:Nat->Bool:=fun _=>false
 O:Nat->Bool:=fun _=>false
 Lt:TypeId->Nat->Bool:=fun _ _=>false
def look {a:Type}:List (Nat×a)->Nat->Option a
 | [],_=>none
 | (k,x)::l,t=>match Nat.beq k t with
  | true=>some x
  | false=>look l t
def nth {a:Type}:List a->Nat->Option a
 | [],_=>none
 | x::_,0=>some x
 | _::l,n+1=>nth l n
def Qg (n:Int):Prop:=-9223372036854775808<=n/\n<=9223372036854775807
def D.cells:D->jVj
 | .agg cs=>cs
 | x=>[x]
def one:Value->Bool
 | .agg _=>false
 | .tuple _=>false
 | _=>true
def AV.isOne:AV->Bool
 | .agg _=>false
 | .tup _=>false
 | .junk=>false
 | .d x=>match x with
  | .v y=>one y
  | .agg _=>false
  | .tup _=>false
  | .lst _ _ _=>true
  | .fn _ _ _=>true
  | .ref _ _=>true
  | .nan _=>true
  | .mp _=>true
 | .dptr _ _=>true
 | .ptr _ _ _ _ _=>true
 | .own _ _=>true
 | .sub _ _ _ _ _=>true
 | .fn _ _ _=>true
def Vw:List AV->Bool
 | []=>true
 | x::l=>x.isOne&&Vw l
def AV.cells (x:AV):Option (List AV):=match x with
 | .agg cs=>match Vw cs with
  | true=>some cs
  | false=>none
 | .d (.agg cs)=>match Vw (cs.map .d) with
  | true=>some (cs.map .d)
  | false=>none
 | y=>match y.isOne with
  | true=>some [y]
  | false=>none
def J8:Value->D
 | .slice a n c=>match a with
  | none=>match Nat.beq n 0&&Nat.beq c 0 with
   | true=>.lst true 0 []
   | false=>.v (.slice a n c)
  | some _=>.v (.slice a n c)
 | .func f a b=>match a.toList,b.toList with
  | [],[]=>.fn f [] []
  | _,_=>.v (.func f a b)
 | x=>.v x
def ofV:Value->D
 | .agg cs=>.agg (cs.toList.map J8)
 | x=>J8 x
mutual
def D.toV:D->Option Value
 | .v x=>some x
 | .agg cs=>match toVs cs with
  | some l=>some (.agg l.toArray)
  | none=>none
 | .tup cs=>match toVs cs with
  | some l=>some (.tuple l.toArray)
  | none=>none
 | .lst _ _ _=>none
 | .fn _ _ _=>none
 | .ref _ _=>none
 | .nan _=>none
 | .mp _=>none
def toVs:jVj->Option (List Value)
 | []=>some []
 | x::l=>match x.toV,toVs l with
  | some y,some ys=>some (y::ys)
  | _,_=>none
end
mutual
def AV.toD:AV->Option D
 | .d x=>some x
 | .agg cs=>match Ju cs with
  | some l=>some (.agg l)
  | none=>none
 | .tup cs=>match Ju cs with
  | some l=>some (.tup l)
  | none=>none
 | .fn f a b=>match Ju a,Ju b with
  | some x,some y=>some (.fn f x y)
  | _,_=>none
 | .dptr _ _=>none
 | .ptr _ _ _ _ _=>none
 | .own _ _=>none
 | .sub _ _ _ _ _=>none
 | .junk=>none
def Ju:List AV->Option (jVj)
 | []=>some []
 | x::l=>match x.toD,Ju l with
  | some y,some ys=>some (y::ys)
  | _,_=>none
end
def AV.norm (x:AV):AV:=match x.toD with
 | some y=>.d y
 | none=>x
def AV.toV (x:AV):Option Value:=match x.toD with
 | some y=>y.toV
 | none=>none
def fzOk:D->Bool
 | .v x=>one x
 | .agg _=>true
 | .tup _=>false
 | .lst _ _ _=>true
 | .fn _ _ _=>true
 | .ref _ _=>true
 | .nan _=>true
 | .mp _=>true
def refB:Blk->Option (D×Bool)
 | .fbox x=>some (x,false)
 | .box x=>match x.toD with
  | some y=>match fzOk y with
   | true=>some (y,true)
   | false=>none
  | none=>none
 | .row _ _ _=>none
 | .frozen _ _ _=>none
 | .virt _ _ _=>none
 | .loop _ _ _ _ _ _=>none
 | .mp _=>none
 | .it _ _=>none
 | .left _=>none
 | .dead=>none
mutual
def AV.toDH (hp:List (Nat×Blk)):AV->Option (D×List Nat)
 | .d x=>some (x,[])
 | .agg cs=>match Kr hp cs with
  | some (l,fs)=>some (.agg l,fs)
  | none=>none
 | .tup cs=>match Kr hp cs with
  | some (l,fs)=>some (.tup l,fs)
  | none=>none
 | .fn f a b=>match Kr hp a,Kr hp b with
  | some (x,fs),some (y,gs)=>some (.fn f x y,fs++gs)
  | _,_=>none
 | .own b ver=>match look hp b with
  | some (.row ver' sz es)=>match Nat.beq ver ver' with
   | true=>some (.lst false sz es,[b])
   | false=>none
  | some (.frozen ver' sz es)=>match Nat.beq ver ver' with
   | true=>some (.lst false sz es,[])
   | false=>none
  | some (.virt ver' sz es)=>match Nat.beq ver ver' with
   | true=>some (.lst true sz es,[])
   | false=>none
  | some (.mp es)=>match Nat.beq ver 0 with
   | true=>some (.mp es,[b])
   | false=>none
  | _=>none
 | .dptr x o=>some (.ref x o,[])
 | .ptr b ver sz i off=>match Nat.beq ver 0&&Nat.beq sz 0&&Nat.beq i 0 with
  | true=>match look hp b with
   | some k=>match refB k with
    | some (x,true)=>some (.ref x off,[b])
    | some (x,false)=>some (.ref x off,[])
    | none=>none
   | none=>none
  | false=>none
 | .sub _ _ _ _ _=>none
 | .junk=>none
def Kr (hp:List (Nat×Blk)):List AV->Option (jVj×List Nat)
 | []=>some ([],[])
 | x::l=>match x.toDH hp,Kr hp l with
  | some (y,fs),some (ys,gs)=>some (y::ys,fs++gs)
  | _,_=>none
end
def Qd (hp:List (Nat×Blk)):List Nat->List (Nat×Blk)
 | []=>[]
 | b::l=>match look hp b with
  | some (.row ver sz es)=>(b,.frozen ver sz es)::Qd hp l
  | some (.box x)=>match refB (.box x) with
   | some (y,_)=>(b,.fbox y)::Qd hp l
   | none=>Qd hp l
  | some (.mp _)=>(b,.dead)::Qd hp l
  | _=>Qd hp l
def Zu {b:Type}(P:Program):Sem b->Option b
 | .pure a=>some a
 | .program k=>Zu P (k P)
 | .mark _ k=>Zu P k
 | _=>none
def Cx.sz (cx:Cx)(t:TypeId):Option Nat:=match cx.P.info? t with
 | some i=>some i.size
 | none=>none
def Cx.isAgg (cx:Cx)(t:TypeId):Option Bool:=match cx.P.underlying t with
 | some (.struct _)=>some true
 | some (.array _ _)=>some true
 | some _=>some false
 | none=>none
def Cx.zero (cx:Cx)(t:TypeId):Option Value:=match cx.P.info? t with
 | some i=>i.zero
 | none=>none
def Cx.bytes (cx:Cx)(t:TypeId):Option Nat:=match cx.P.info? t with
 | some i=>some i.bytes
 | none=>none
structure R where
 val:AV
 up:List (Nat×Blk)
 ob:List Prop
 orc:List Orc
def zR (a:Bool)(orc:List Orc):Option (Orc×List Orc):=match a with
 | false=>some (.no,orc)
 | true=>match orc with
  | []=>none
  | o::r=>some (o,r)
def Gi:AV->Bool
 | .agg _=>true
 | .d x=>match x with
  | .agg _=>true
  | _=>false
 | _=>false
def Jq (agg:Bool)(size off:Nat)(x:AV):Option AV:=match x.cells with
 | none=>none
 | some cs=>match agg with
  | true=>match Nat.ble (off+size) cs.length with
   | true=>match Gi x&&Nat.beq off 0&&Nat.beq size cs.length with
    | true=>some x
    | false=>some (AV.norm (.agg ((cs.drop off).take size)))
   | false=>none
  | false=>nth cs off
def uf (x:AV)(off:Nat)(y:AV):Option AV:=match x.cells,y.cells with
 | some cs,some ys=>match Gi x with
  | true=>match Nat.ble (off+ys.length) cs.length with
   | true=>match Nat.beq off 0&&Nat.beq ys.length cs.length&&Gi y with
    | true=>some y
    | false=>some (AV.norm (.agg (cs.take off++ys++cs.drop (off+ys.length))))
   | false=>none
  | false=>match Nat.beq off 0,ys with
   | true,[c]=>some c
   | _,_=>none
 | _,_=>none
def Qbu (place:Nat->Option (Nat×Nat)):List AV->List (Nat×AV)->Option (List AV)
 | cs,[]=>some cs
 | cs,(i,x)::rest=>match place i,x.cells with
  | some (off,size),some ys=>match Nat.beq ys.length size&&Nat.ble (off+ys.length) cs.length with
   | true=>Qbu place (cs.take off++ys++cs.drop (off+ys.length)) rest
   | false=>none
  | _,_=>none
def Jd (cx:Cx):List Field->Option (List (Nat×Nat))
 | []=>some []
 | f::l=>match cx.sz f.type,Jd cx l with
  | some s,some r=>some ((f.offset,s)::r)
  | _,_=>none
def Qfk (cx:Cx)(t:TypeId)(parts:List (Nat×AV)):Option AV:=match cx.zero t with
 | none=>none
 | some z=>match cx.P.underlying t with
  | some (.struct fields)=>match Jd cx fields.toList with
   | some a=>match Qbu (nth a) ((ofV z).cells.map .d) parts with
    | some cs=>some (AV.norm (.agg cs))
    | none=>none
   | none=>none
  | some (.array _ elem)=>match cx.sz elem with
   | some s=>match Qbu (fun i=>some (i*s,s)) ((ofV z).cells.map .d) parts with
    | some cs=>some (AV.norm (.agg cs))
    | none=>none
   | none=>none
  | _=>none
def Y6 (hp:List (Nat×Blk))(s:Nat):Nat->List (Nat×AV)->Option (jVj×List Nat)
 | _,[]=>some ([],[])
 | n,(i,x)::l=>match x.cells,x.toDH hp,Y6 hp s (n+1) l with
  | some cs,some (y,a),some (ys,gs)=>match Nat.beq i n&&Nat.beq cs.length s,AV.cells (.d y) with
   | true,some zs=>match Nat.beq zs.length s with
    | true=>some (y::ys,a++gs)
    | false=>none
   | _,_=>none
  | _,_,_=>none
def Xv (P:Program)(f:TypeId->Value->Value->Option Bool)(xs ys:Array Value):List Field->Option Bool
 | []=>some true
 | fd::l=>match fd.name=="_" with
  | true=>Xv P f xs ys l
  | false=>match Zu P (part fd.type xs fd.offset),Zu P (part fd.type ys fd.offset) with
   | some a,some b=>match f fd.type a b,Xv P f xs ys l with
    | some p,some q=>some (p&&q)
    | _,_=>none
   | _,_=>none
def wT (P:Program)(f:TypeId->Value->Value->Option Bool)(xs ys:Array Value)(t:TypeId)(n:Nat):List Nat->Option Bool
 | []=>some true
 | i::l=>match Zu P (part t xs (i*n)),Zu P (part t ys (i*n)) with
  | some a,some b=>match f t a b,wT P f xs ys t n l with
   | some p,some q=>some (p&&q)
   | _,_=>none
  | _,_=>none
def eqA (P:Program):Nat->TypeId->Value->Value->Option Bool
 | 0,_,_,_=>none
 | d+1,t,x,y=>match P.underlying t,x,y with
  | some .bool,.bool a,.bool b=>some (a==b)
  | some (.int _),.int k a,.int k' b=>match decide (k=k') with
   | true=>some (a==b)
   | false=>none
  | some .string,.string a,.string b=>some (a==b)
  | some (.float _),.float k a,.float k' b=>match decide (k=k') with
   | true=>some (Op.floatEq k a b)
   | false=>none
  | some (.struct fields),.agg xs,.agg ys=>match P.stoodInHeld t with
   | true=>none
   | false=>Xv P (eqA P d) xs ys fields.toList
  | some (.array len elem),.agg xs,.agg ys=>match P.info? elem with
   | some i=>wT P (eqA P d) xs ys elem i.size (List.range' 0 len)
   | none=>none
  | _,_,_=>none
def QbN (d:BinOp)(k c : FloatKind)(a b:Nat):Option (D×List Prop):=none
def QiD (cx:Cx)(a:Bool)(s t:TypeId)(x:Value):Option (D×List Prop):=match Zu cx.P (convert s t x) with
 | some r=>some (ofV r,[])
 | none=>none
def Qe9:D->Option UInt8
 | .v x=>match x with
  | .int k n=>match k with
   | .u8=>some (UInt8.ofNat n.toNat)
   | _=>none
  | _=>none
 | _=>none
def ku:jVj->Option (List UInt8)
 | []=>some []
 | x::l=>match Qe9 x,ku l with
  | some b,some bs=>some (b::bs)
  | _,_=>none
def abin (cx:Cx)(d:Bool)(c:BinOp)(t:TypeId)(e f:Operand)(x y:Value):Option (D×List Prop) :=
 match d,c,x,y with
 | true,.add,.int .i64 a,.int .i64 b=>some (.v (.int .i64 (a+b)),[Qg (a+b)])
 | true,.sub,.int .i64 a,.int .i64 b=>some (.v (.int .i64 (a - b)),[Qg (a - b)])
 | true,.mul,.int .i64 a,.int .i64 b=>some (.v (.int .i64 (a*b)),[Qg (a*b)])
 | true,.quo,.int .i64 a,.int .i64 b=>some (.v (.int .i64 (Int.tdiv a b)),[b≠0,Qg (Int.tdiv a b)])
 | true,.rem,.int .i64 a,.int .i64 b=>some (.v (.int .i64 (Int.tmod a b)),[b≠0])
 | true,.add,.float k a,.float k' b=>QbN .add k k' a b
 | true,.sub,.float k a,.float k' b=>QbN .sub k k' a b
 | true,.mul,.float k a,.float k' b=>QbN .mul k k' a b
 | true,.quo,.float k a,.float k' b=>QbN .quo k k' a b
 | true,.add,.string a,.string b=>some (.v (.string (a++b)),[a.size+b.size<=9223372036854775807])
 | _,.eql,.agg xs,.agg ys=>match cx.P.eqGuardType cx.P.depth t,eqA cx.P 12 t (.agg xs) (.agg ys) with
  | false,some b=>some (.v (.bool b),[])
  | _,_=>none
 | _,.neq,.agg xs,.agg ys=>match cx.P.eqGuardType cx.P.depth t,eqA cx.P 12 t (.agg xs) (.agg ys) with
  | false,some b=>some (.v (.bool (!b)),[])
  | _,_=>none
 | _,_,_,_=>match Zu cx.P (do eqGuard c t e f x y;binOp c t x y) with
  | some r=>some (ofV r,[])
  | none=>none
def E5 (cx:Cx)(a:BinOp)(t:TypeId)(x:AV)(y:Operand):Option (D×List Prop) :=
 match cx.P.underlying t,x,y,a with
 | some (.slice _),.d (.lst _ _ es),.const (.slice none 0 0),.eql=>some (.v (.bool false),[es≠[]])
 | some (.slice _),.d (.lst _ _ es),.const (.slice none 0 0),.neq=>some (.v (.bool true),[es≠[]])
 | some (.slice _),.d (.v (.slice none 0 0)),.const (.slice none 0 0),.eql=>some (.v (.bool true),[])
 | _,_,_,_=>none
def Qds (a:Bool)(orc:List Orc)(es:jVj)(i:Int):Option (D×List Prop×List Orc):=match zR a orc with
 | some (.el x,r)=>some (x,[0<=i,nth es i.toNat=some x],r)
 | some (.no,r)=>match decide (0<=i),nth es i.toNat with
  | true,some x=>some (x,[],r)
  | _,_=>none
 | _=>none
def owe (a:Bool)(orc:List Orc)(p:Prop)[Decidable p]:Option (List Prop×List Orc):=match zR a orc with
 | some (.br _,r)=>some ([p],r)
 | some (.no,r)=>match decide p with
  | true=>some ([],r)
  | false=>none
 | _=>none
def val1 (x:AV)(orc:List Orc):Option R:=some { val:=x,up:=[],ob:=[],orc }
def Blk.ver:Blk->Nat
 | .box _=>0
 | .row v _ _=>v
 | .frozen v _ _=>v
 | .virt v _ _=>v
 | .loop _ _ _ _ _ _=>0
 | .mp _=>0
 | .it _ _=>0
 | .fbox _=>0
 | .left _=>0
 | .dead=>0
def jR (hp:List (Nat×Blk)):AV->Bool
 | .ptr b ver _ _ _=>match look hp b with
  | some k=>Nat.beq k.ver ver
  | none=>false
 | .dptr _ _=>true
 | _=>false
def Uh (hp:List (Nat×Blk))(cx:Cx)(a:BinOp)(t:TypeId)(x:AV)(y:Operand):Option (D×List Prop) :=
 match cx.P.underlying t,jR hp x,y,a with
 | some (.pointer _),true,.const (.pointer none),.eql=>some (.v (.bool false),[])
 | some (.pointer _),true,.const (.pointer none),.neq=>some (.v (.bool true),[])
 | _,_,_,_=>none
def El (hp:List (Nat×Blk))(b ver:Nat):Bool:=match look hp b with
 | some k=>Nat.beq ver k.ver
 | none=>false
def K5:Nat->List (Nat×AV)->Option (List AV)
 | _,[]=>some []
 | i,(j,.ptr b v s k o)::l=>match Nat.beq i j,K5 (i+1) l with
  | true,some xs=>some (.ptr b v s k o::xs)
  | _,_=>none
 | _,_::_=>none
def Qb6 (cx:Cx)(hp:List (Nat×Blk))(name:Nat)(t:TypeId)(len:Nat)(xs:List AV)(orc:List Orc):Option R:=none
def Qb4 (cx:Cx)(hp:List (Nat×Blk))(name:Nat)(t:TypeId)(len:Nat)(a:List (Nat×AV))(orc:List Orc):Option R:=none
def VT (cx:Cx)(a:Bool)(orc:List Orc)(hp:List (Nat×Blk))(t:TypeId)(x:AV)(i:Int):Option R :=
 match cx.P.underlying t with
 | some (.array len elem)=>match cx.sz elem,decide (0<=i/\i<len) with
  | some s,true=>match x with
   | .ptr b ver sz j off=>match El hp b ver with
    | true=>val1 (.ptr b ver sz j (off+i.toNat*s)) orc
    | false=>none
   | .dptr y off=>val1 (.dptr y (off+i.toNat*s)) orc
   | _=>none
  | _,_=>none
 | some (.slice elem)=>match cx.sz elem with
  | none=>none
  | some s=>match x with
   | .own b ver=>match look hp b with
    | some (.row ver' sz es)=>match Nat.beq ver ver'&&Nat.beq sz s with
     | true=>match owe a orc (0<=i/\i<(es.length:Int)) with
      | some (ob,r)=>some { val:=.ptr b ver sz i.toNat 0,up:=[],ob,orc:=r }
      | none=>none
     | false=>none
    | some (.frozen ver' sz es)=>match Nat.beq ver ver'&&Nat.beq sz s with
     | true=>match Qds a orc es i with
      | some (y,ob,r)=>some { val:=.dptr y 0,up:=[],ob,orc:=r }
      | none=>none
     | false=>none
    | some (.virt ver' sz es)=>match Nat.beq ver ver'&&Nat.beq sz s with
     | true=>match Qds a orc es i with
      | some (y,ob,r)=>some { val:=.dptr y 0,up:=[],ob,orc:=r }
      | none=>none
     | false=>none
    | _=>none
   | .d (.lst _ sz es)=>match Nat.beq sz s with
    | true=>match Qds a orc es i with
     | some (y,ob,r)=>some { val:=.dptr y 0,up:=[],ob,orc:=r }
     | none=>none
    | false=>none
   | .sub b ver sz lo n=>match El hp b ver&&Nat.beq sz s,owe a orc (0<=i/\i<(n:Int)) with
    | true,some (ob,r)=>match look hp b with
     | some (.box _)=>some { val:=.ptr b ver sz 0 ((lo+i.toNat)*sz),up:=[],ob,orc:=r }
     | _=>some { val:=.ptr b ver sz (lo+i.toNat) 0,up:=[],ob,orc:=r }
    | _,_=>none
   | _=>none
 | _=>none
def UK (cx:Cx)(a:Bool)(orc:List Orc)(hp:List (Nat×Blk))(t:TypeId)(x:AV)(i:Int):Option R:=match orc with
 | .ix k::r=>match VT cx a r hp t x k with
  | some q=>some { q with ob:=(i=k)::q.ob }
  | none=>none
 | _=>VT cx a orc hp t x i
def QfA (cx:Cx)(a:Bool)(orc:List Orc)(s:Sem Value):Option R:=match zR a orc with
 | some (.el (.v x),r)=>some { val:=.d (ofV x),up:=[],ob:=[Zu cx.P s=some x],orc:=r }
 | some (.no,r)=>match Zu cx.P s with
  | some x=>some { val:=.d (ofV x),up:=[],ob:=[],orc:=r }
  | none=>none
 | _=>none
def yS (cx:Cx)(a:Bool)(orc:List Orc)(t:TypeId)(x:AV)(b:Value):Option R:=match x with
 | .d (.v (.string s))=>QfA cx a orc (Instr.index t (.string s) b)
 | _=>match cx.P.underlying t,b,x.cells with
  | some (.array len elem),.int _ i,some cs=>match cx.sz elem,cx.isAgg elem,decide (0<=i/\i<len) with
   | some s,some g,true=>match x with
    | .agg _=>match Jq g s (i.toNat*s) (.agg cs) with
     | some y=>val1 y orc
     | none=>none
    | .d (.agg _)=>match Jq g s (i.toNat*s) x with
     | some y=>val1 y orc
     | none=>none
    | _=>none
   | _,_,_=>none
  | _,_,_=>none
def Qfe (cx:Cx)(a:Bool)(orc:List Orc)(t:TypeId)(x:AV)(b:Value):Option R:=match orc,b with
 | .ix k::r,.int kd i=>match yS cx a r t x (.int kd k) with
  | some q=>some { q with ob:=(i=k)::q.ob }
  | none=>none
 | _,_=>yS cx a orc t x b
def Us:Option AV->Int->Option Int
 | none,n=>some n
 | some (.d (.v (.int _ n))),_=>some n
 | _,_=>none
def optV:Option AV->Option (Option Value)
 | none=>some none
 | some a=>match a.toV with
  | some v=>some (some v)
  | none=>none
def cutD:Bool->jVj->Int->Int->jVj
 | true,es,_,l=>es.drop l.toNat
 | false,es,h,l=>(es.take h.toNat).drop l.toNat
def isNo:Option AV->Bool
 | none=>true
 | some _=>false
def decd (a:Bool)(orc:List Orc):Bool:=match a with
 | false=>true
 | true=>match orc with
  | .no::_=>true
  | _=>false
def Xb (cx:Cx)(a:Bool)(orc:List Orc)(hp:List (Nat×Blk))(t:TypeId)(x:AV)(lo hi b:Option AV):Option R:=match x with
 | .d (.v (.string s))=>match b,optV lo,optV hi with
  | none,some l,some h=>QfA cx a orc (Instr.sliceAt t (.string s) l h none)
  | _,_,_=>none
 | _=>match cx.P.underlying t,b,x.toDH hp with
  | some (.slice elem),none,some (.lst full sz es,fs)=>match cx.sz elem,Us lo 0,Us hi es.length with
   | some s,some l,some h=>match owe a orc (0<=l/\l<=h/\h<=(es.length:Int)/\(es=[]\/sz=s)) with
    | some (ob,r)=>some { val:=.d (.lst (decd a orc&&(full&&decide (h=(es.length:Int)))) sz (cutD (isNo hi) es h l)),up:=Qd hp fs,ob,orc:=r }
    | none=>none
   | _,_,_=>none
  | some (.slice elem),some m,some (.lst _ sz es,fs)=>match cx.sz elem,Us lo 0,Us hi (-1),Us (some m) 0 with
   | some s,some l,some h,some m=>match owe a orc (0<=l/\l<=h/\h<=m/\m<=(es.length:Int)/\(es=[]\/sz=s)) with
    | some (ob,r)=>some { val:=.d (.lst (decide (h=m)) sz ((es.take h.toNat).drop l.toNat)),up:=Qd hp fs,ob,orc:=r }
    | none=>none
   | _,_,_,_=>none
  | _,_,_=>none
def told:List Orc->Option (List Orc)
 | .ix _::r=>some r
 | _=>none
def Qkq:List Orc->Option (List Orc)
 | .ix k::r=>match decide (k=-7) with
  | true=>some r
  | false=>none
 | _=>none
def Qkp:List Orc->Option (List Orc)
 | .ix k::r=>match decide (k=-8) with
  | true=>some r
  | false=>none
 | _=>none
def Qkd:Option AV->Bool
 | some (.d (.v (.int _ 0)))=>true
 | _=>false
def Um (cx:Cx)(a:Bool)(orc:List Orc)(hp:List (Nat×Blk))(t:TypeId)(x:AV)(lo hi c:Option AV):Option R :=
 match (match a || (cx.E 999999&&!Qkd hi) with|true=>told orc|false=>some orc),x,lo,c with
 | some o,.own b ver,none,none=>match look hp b with
  | some (.row ver' sz es)=>match cx.P.underlying t,Nat.beq ver ver',Us hi (-1) with
   | some (.slice elem),true,some k=>match cx.sz elem,owe a o (0<=k/\k<=(es.length:Int)) with
    | some s,some (ob,r)=>match Nat.beq s sz with
     | true=>some { val:=.own b (ver+1),up:=[(b,.row (ver+1) sz (es.take k.toNat))],ob,orc:=r }
     | false=>none
    | _,_=>none
   | _,_,_=>none
  | _=>none
 | _,_,_,_=>none
def yD (cx:Cx)(a:Bool)(orc:List Orc)(hp:List (Nat×Blk))(t:TypeId)(x:AV)(lo hi b:Option AV):Option R:=none
def Vk:jVj->Bool
 | []=>true
 | _=>false
def UL (hp:List (Nat×Blk))(x:AV):Option (Nat×jVj×List Nat):=match x.toDH hp with
 | some (.lst _ sz es,fs)=>some (sz,es,fs)
 | _=>none
def ET (cx:Cx)(a:TypeId)(sz:Nat):Bool:=match cx.zero a with
 | some z=>Nat.beq z.cells.size sz&&z.cells.toList.all one
 | none=>false
def QcM (cx:Cx)(a:Bool)(orc:List Orc)(hp:List (Nat×Blk))(s t:TypeId)(x:AV):Option R:=match cx.P.underlying s,cx.P.underlying t,UL hp x with
 | some (.slice e),some .string,some (1,ds,_)=>match cx.P.underlying e,zR a orc with
  | some (.int .u8),some (.el (.v (.string b)),r)=>some { val:=.d (.v (.string b)),up:=[],ob:=[(ku ds).map (fun l=>ByteArray.mk l.toArray)=some b],orc:=r }
  | some (.int .u8),some (.no,r)=>match ku ds with
   | some l=>some { val:=.d (.v (.string (ByteArray.mk l.toArray))),up:=[],ob:=[],orc:=r }
   | none=>none
  | _,_=>none
 | _,_,_=>none
def room (cx:Cx)(a:TypeId)(n:Nat):Prop:=match cx.bytes a with
 | some b=>n*b<=140737488355328/\0<b
 | none=>False
instance (cx:Cx) (elem:TypeId) (n:Nat):Decidable (room cx elem n):=by unfold room;split<;>infer_instance
def Ja (cx:Cx)(t:TypeId):Bool:=match cx.P.underlying t with
 | some (.slice _)=>true
 | _=>false
def nilO (a:Bool)(orc:List Orc)(c:jVj):Option (Bool×List Prop×List Orc):=match zR a orc with
 | some (.br b,r)=>some (b,[Vk c=b],r)
 | some (.no,r)=>match Vk c with
  | true=>some (true,[],r)
  | false=>some (false,[],r)
 | _=>none
def Qjx:List Orc->Option (List Orc)
 | .ix k::r=>match decide (k=-12) with
  | true=>some r
  | false=>none
 | _=>none
def wk1:D->D
 | .lst _ s l=>match l with
  | []=>.lst false 1 []
  | x::r=>.lst false s (x::r)
 | x=>x
def wkA:AV->AV
 | .d x=>match x with
  | .agg l=>.d (.agg (l.map wk1))
  | x=>.d x
 | x=>x
def Qko:List Orc->Option (List Orc)
 | .ix k::r=>match decide (k=-10) with
  | true=>some r
  | false=>none
 | _=>none
def adup (cx:Cx)(a:Bool)(orc:List Orc)(hp:List (Nat×Blk))(t:TypeId)(s x:AV):Option R :=
 match cx.P.underlying t,s,x with
 | some (.slice elem),.d (.lst true _ es0),.own b ver=>match look hp b,cx.sz elem with
  | some (.row ver' sz es),some z=>match Nat.beq ver ver'&&Nat.beq sz z&&ET cx elem z&&Vk es0,owe a orc (room cx elem (0+es.length)) with
   | true,some (ob,r)=>some { val:=.d (.lst false z es),up:=[],ob,orc:=r }
   | _,_=>none
  | _,_=>none
 | _,_,_=>none
def zi (cx:Cx)(c:Bool)(orc:List Orc)(hp:List (Nat×Blk))(name:Nat)(t:TypeId)(s x:AV):Option R :=
  match cx.P.underlying t,UL hp x with
  | some (.slice elem),some (asz,ds,fs)=>match cx.sz elem with
    | none=>none
    | some z=>match (Nat.beq asz z || Vk ds)&&ET cx elem z with
      | false=>none
      | true=>match s with
        | .own b ver=>match look hp b with
          | some (.row ver' sz es)=>match Nat.beq ver ver'&&Nat.beq sz z&&!(fs.contains b) with
            | false=>none
            | true=>match owe c orc (room cx elem (es.length+ds.length)) with
              | some (ob,r)=>match Qkq r with
                | some g=>some { val:=.d (.lst false sz (es++ds)),up:=(b,.frozen (ver+1) sz (es++ds))::(b,.row (ver+1) sz (es++ds))::Qd hp fs,ob,orc:=g }
                | none=>some { val:=.own b (ver+1),up:=(b,.row (ver+1) sz (es++ds))::Qd hp fs,ob,orc:=r }
              | none=>none
          | some (.virt ver' sz es)=>match Nat.beq ver ver'&&(Nat.beq sz z || Vk es) with
            | false=>none
            | true=>match owe c orc (room cx elem (es.length+ds.length)) with
              | some (ob,r)=>match nilO c r ds with
                | some (false,a,e)=>some { val:=.own b (ver+1),up:=(b,.row (ver+1) z (es++ds))::Qd hp fs,ob:=a++ob,orc:=e }
                | _=>none
              | none=>none
          | _=>none
        | .d (.lst true sz es)=>match Nat.beq sz z || Vk es with
          | false=>none
          | true=>match Qkp orc with
           | some f=>match Vk es,look hp name,owe c f (room cx elem (es.length+ds.length)) with
             | true,none,some (ob,r)=>some { val:=.own name 0,up:=(name,.row 0 z (es++ds))::Qd hp fs,ob,orc:=r }
             | _,_,_=>none
           | none=>match owe c orc (room cx elem (es.length+ds.length)) with
            | some (ob,r)=>match nilO c r ds with
              | some (false,a,e)=>match told e,look hp name with
                | some g,_=>some { val:=.d (.lst false z (es++ds)),up:=Qd hp fs,ob:=a++ob,orc:=g }
                | none,none=>some { val:=.own name 0,up:=(name,.row 0 z (es++ds))::Qd hp fs,ob:=a++ob,orc:=e }
                | none,some _=>none
              | some (true,a,e)=>some { val:=.d (.lst true z es),up:=Qd hp fs,ob:=a++ob,orc:=e }
              | none=>none
            | none=>none
        | _=>none
  | _,_=>none
def Qf7 (cx:Cx)(a:Bool)(orc:List Orc)(hp:List (Nat×Blk))(name:Nat)(t b:TypeId)(s x:AV):Option R:=none
def Ka (hp:List (Nat×Blk)):AV->Option (jVj)
 | .d (.lst _ _ es)=>some es
 | .own b ver=>match look hp b with
  | some (.row ver' _ es)=>match Nat.beq ver ver' with
   | true=>some es
   | false=>none
  | some (.frozen ver' _ es)=>match Nat.beq ver ver' with
   | true=>some es
   | false=>none
  | some (.virt ver' _ es)=>match Nat.beq ver ver' with
   | true=>some es
   | false=>none
  | _=>none
 | .sub b ver _ _ n=>match El hp b ver with
  | true=>some (List.replicate n (.tup []))
  | false=>none
 | _=>none
def allV:List AV->Option (List Value)
 | []=>some []
 | x::l=>match x.toV,allV l with
  | some v,some vs=>some (v::vs)
  | _,_=>none
def QbL (cx:Cx)(orc:List Orc)(hp:List (Nat×Blk))(t:TypeId)(d s:AV):Option R :=
 match cx.P.underlying t,d,UL hp s with
 | some (.slice elem),.own b ver,some (asz,ds,fs)=>match look hp b,cx.sz elem with
  | some (.row ver' sz es),some z=>match Nat.beq ver ver'&&Nat.beq sz z&&(Nat.beq asz z || Vk ds)&&!(fs.contains b) with
   | true=>some { val:=.d (.v (.int .i64 (min ds.length es.length:Nat))),up:=(b,.row ver sz (ds.take es.length++es.drop ds.length))::Qd hp fs,ob:=[],orc }
   | false=>none
  | _,_=>none
 | _,_,_=>none
def QcJ (cx:Cx)(a:Bool)(orc:List Orc)(hp:List (Nat×Blk))(t:TypeId)(x:AV):Option R:=none
def emp:AV->AV
 | .d (.v (.slice _ 0 _))=>.d (.lst false 0 [])
 | x=>x
def nls:AV->AV
 | .d (.v (.slice none 0 0))=>.d (.lst true 0 [])
 | x=>x
def XI (cx:Cx)(c:Bool)(orc:List Orc)(hp:List (Nat×Blk))(name:Nat)(b:Builtin)(ats:Array TypeId)(type:TypeId)(a:List AV):Option R :=
 match b with
 | .append=>match ats.toList,a with
  | t::t2::_,[s,x]=>match Ja cx t2 with
   | true=>match Qko orc with
    | some o=>adup cx c o hp t s x
    | none=>zi cx c orc hp name t (nls s) (emp x)
   | false=>Qf7 cx c orc hp name t t2 s x
  | _,_=>none
 | .copy=>match ats.toList,a with
  | t::_,[d,s]=>QbL cx orc hp t d s
  | _,_=>none
 | .len=>match a with
  | [x]=>match Ka hp x with
   | some es=>match ats.toList with
    | t::_=>match cx.P.underlying t with
     | some (.slice _)=>val1 (.d (.v (.int .i64 es.length))) orc
     | _=>none
    | _=>none
   | none=>match x.toV with
    | some v=>match Zu cx.P (Builtin.len_ ats type #[v]) with
     | some r=>val1 (.d (ofV r)) orc
     | none=>none
    | none=>none
  | _=>none
 | .max=>match allV a with
  | some vs=>match Zu cx.P (Builtin.max_ ats type vs.toArray) with
   | some r=>val1 (.d (ofV r)) orc
   | none=>none
  | none=>none
 | .min=>match allV a with
  | some vs=>match Zu cx.P (Builtin.min_ ats type vs.toArray) with
   | some r=>val1 (.d (ofV r)) orc
   | none=>none
  | none=>none
 | .cap=>match a,ats.toList with
  | [.d (.lst true _ es)],t::_=>match cx.P.underlying t with
   | some (.slice _)=>val1 (.d (.v (.int .i64 es.length))) orc
   | _=>none
  | _,_=>none
 | .clear=>match a,ats.toList with
  | [x],t::_=>QcJ cx c orc hp t x
  | _,_=>none
 | _=>none
def yP (cx:Cx)(s:TypeId)(f:Nat):Option Field:=match cx.P.underlying s with
 | some (.struct fields)=>nth fields.toList f
 | _=>none
def KZ (a:Bool)(orc:List Orc)(hp:List (Nat×Blk))(b ver sz i:Nat):Option (AV×List Prop×List Orc):=match look hp b with
 | some (.box x)=>match Nat.beq i 0 with
  | true=>some (x,[],orc)
  | false=>none
 | some (.row ver' sz' es)=>match Nat.beq ver ver'&&Nat.beq sz sz' with
  | false=>none
  | true=>match zR a orc with
   | some (.el x,r)=>some (.d x,[nth es i=some x],r)
   | some (.no,r)=>match nth es i with
    | some x=>some (.d x,[],r)
    | none=>none
   | _=>none
 | _=>none
def Qim:Blk->Option D
 | .fbox x=>some x
 | .box _=>none
 | .row _ _ _=>none
 | .frozen _ _ _=>none
 | .virt _ _ _=>none
 | .loop _ _ _ _ _ _=>none
 | .mp _=>none
 | .it _ _=>none
 | .left _=>none
 | .dead=>none
def zA (hp:List (Nat×Blk))(b:Nat):Option D:=match look hp b with
 | some k=>Qim k
 | none=>none
def unfP (hp:List (Nat×Blk))(b ver sz i off:Nat):AV:=match zA hp b with
 | some x=>match Nat.beq ver 0&&Nat.beq i 0 with
  | true=>.dptr x off
  | false=>.ptr b ver sz i off
 | none=>.ptr b ver sz i off
def unf (hp:List (Nat×Blk)):AV->AV
 | .ptr b ver sz i off=>unfP hp b ver sz i off
 | .d x=>.d x
 | .agg cs=>.agg cs
 | .tup cs=>.tup cs
 | .dptr x o=>.dptr x o
 | .own b v=>.own b v
 | .sub b v s l n=>.sub b v s l n
 | .fn f a b=>.fn f a b
 | .junk=>.junk
def qM (sz:Nat)(e:D)(off:Nat)(y:D):Option D:=match uf (.d e) off (.d y) with
 | some z=>match z.toD with
  | some a=>match AV.cells (.d a) with
   | some zs=>match Nat.beq zs.length sz with
    | true=>some a
    | false=>none
   | none=>none
  | none=>none
 | none=>none
def kz (cx:Cx)(a:Bool)(orc:List Orc)(hp:List (Nat×Blk))(t:TypeId)(p y:AV):Option R :=
 match p,y.cells,cx.sz t with
 | .ptr b pv sz i off,some ys,some s=>match Nat.beq ys.length s,look hp b with
  | true,some (.box x)=>match uf x off y,Nat.beq i 0 with
   | some z,true=>match z.cells with
    | some _=>some { val:=.d (.v undef),up:=[(b,.box z)],ob:=[],orc }
    | none=>none
   | _,_=>none
  | true,some (.row ver sz' es)=>match Nat.beq sz sz'&&Nat.beq pv ver,y.toDH hp with
   | true,some (f,c)=>match c.contains b with
    | true=>none
    | false=>match Nat.beq off 0&&Nat.beq s sz with
     | true=>match owe a orc (i<es.length),AV.cells (.d f) with
      | some (ob,r),some zs=>match Nat.beq zs.length sz with
       | true=>some { val:=.d (.v undef),up:=(b,.row ver sz (es.set i f))::Qd hp c,ob,orc:=r }
       | false=>none
      | _,_=>none
     | false=>match zR a orc with
      | some (.el e,r)=>match qM sz e off f with
       | some g=>some { val:=.d (.v undef),up:=(b,.row ver sz (es.set i g))::Qd hp c,ob:=[nth es i=some e],orc:=r }
       | none=>none
      | some (.no,r)=>match nth es i with
       | some e=>match qM sz e off f with
        | some g=>some { val:=.d (.v undef),up:=(b,.row ver sz (es.set i g))::Qd hp c,ob:=[],orc:=r }
        | none=>none
       | none=>none
      | _=>none
   | _,_=>none
  | _,_=>none
 | _,_,_=>none
def Gj:List Value->List Value->Option Bool
 | [],[]=>some true
 | .int k a::l,.int k' b::m=>match decide (k=k'),Gj l m with
  | true,some r=>some (a==b&&r)
  | _,_=>none
 | _,_=>none
def Y1:Value->Value->Option Bool
 | .agg a,.agg b=>Gj a.toList b.toList
 | .int k a,.int k' b=>if k=k' then some (a==b) else none
 | .string a,.string b=>some (a==b)
 | .bool a,.bool b=>some (a==b)
 | _,_=>none
def vOf:D->Option Value
 | .v k=>some k
 | .agg _=>none
 | .tup _=>none
 | .lst _ _ _=>none
 | .fn _ _ _=>none
 | .ref _ _=>none
 | .nan _=>none
 | .mp _=>none
def QhF:jVj->Option (Value×D)
 | []=>none
 | a::l=>match l with
  | []=>none
  | x::r=>match r with
   | []=>match vOf a with
    | some k=>some (k,x)
    | none=>none
   | _::_=>none
def keyOf:D->Option (Value×D)
 | .v _=>none
 | .agg _=>none
 | .tup l=>QhF l
 | .lst _ _ _=>none
 | .fn _ _ _=>none
 | .ref _ _=>none
 | .nan _=>none
 | .mp _=>none
def mok (k:Value):jVj->Bool
 | []=>true
 | e::es=>match keyOf e with
  | some (j,_)=>(Y1 k j).isSome&&mok k es
  | none=>false
def W5 (k:Value):jVj->Option D
 | []=>none
 | e::es=>match keyOf e with
  | some (j,x)=>match Y1 k j with
   | some true=>some x
   | _=>W5 k es
  | none=>none
def E7 (k:Value)(x:D):jVj->jVj
 | []=>[.tup [.v k,x]]
 | e::es=>match keyOf e with
  | some (j,_)=>match Y1 k j with
   | some true=>.tup [.v k,x]::es
   | _=>e::E7 k x es
  | none=>e::es
def YX (ok:Bool)(k:Value)(z:D)(es:jVj):Option D:=match mok k es with
 | false=>none
 | true=>match W5 k es,ok with
  | some x,true=>some (.tup [x,.v (.bool true)])
  | none,true=>some (.tup [z,.v (.bool false)])
  | some x,false=>some x
  | none,false=>some z
def qX (cx:Cx)(t:TypeId)(k:Value):Bool:=match cx.P.underlying t,k with
 | some (.int j),.int j' _=>decide (j'=j)
 | some .string,.string _=>true
 | some .bool,.bool _=>true
 | _,_=>false
def E2 (hp:List (Nat×Blk)):AV->Option (Nat×jVj)
 | .own b _=>match look hp b with
  | some (.mp es)=>some (b,es)
  | _=>none
 | _=>none
def jZ (hp:List (Nat×Blk)):AV->Option (jVj)
 | .own b _=>match look hp b with
  | some (.mp es)=>some es
  | _=>none
 | .d (.mp es)=>some es
 | _=>none
def QoU (cx:Cx)(a:Bool)(orc:List Orc)(hp:List (Nat×Blk))(t:TypeId)(m k x:AV):Option R :=
 match cx.P.underlying t,E2 hp m,k.toV,x.toD with
 | some (.map kt _),some (b,es),some kv,some xd=>match qX cx kt kv,owe a orc (mok kv es=true) with
  | true,some (ob,r)=>some { val:=.d (.v undef),up:=[(b,.mp (E7 kv xd es))],ob,orc:=r }
  | _,_=>none
 | _,_,_,_=>none
def UJ (cx:Cx)(a:Bool)(orc:List Orc)(hp:List (Nat×Blk))(t:TypeId)(m k x:AV):Option R:=match x.toD with
 | some _=>QoU cx a orc hp t m k x
 | none=>match x.toDH hp with
  | some (c,b)=>match QoU cx a orc (Qd hp b++hp) t m k (.d c) with
   | some r=>some { r with up:=r.up++Qd hp b }
   | none=>none
  | none=>none
def zg (cx:Cx)(a:Bool)(orc:List Orc)(hp:List (Nat×Blk))(t:TypeId)(m k:AV)(ok:Bool):Option R :=
 match cx.P.underlying t,jZ hp m,k.toV with
 | some (.map kt et),some es,some kv=>match qX cx kt kv,cx.zero et,zR a orc with
  | true,some z,some (.el x,r)=>some { val:=.d x,up:=[],ob:=[YX ok kv (ofV z) es=some x],orc:=r }
  | true,some z,some (.no,r)=>match YX ok kv (ofV z) es with
   | some x=>some { val:=.d x,up:=[],ob:=[],orc:=r }
   | none=>none
  | _,_,_=>none
 | _,_,_=>none
def oneV:D->Bool
 | .v x=>one x
 | .agg _=>false
 | .tup _=>false
 | .lst _ _ _=>false
 | .fn _ _ _=>false
 | .ref _ _=>false
 | .nan _=>false
 | .mp _=>false
def J3 (cx:Cx)(hp:List (Nat×Blk))(orc:List Orc)(t:TypeId)(b ver sz i off:Nat)(a:Bool):Option R:=none
def QbV (cx:Cx)(hp:List (Nat×Blk))(orc:List Orc)(t:TypeId)(b ver sz i off:Nat)(lo hi:Option AV)(a:Bool):Option R:=none
def uh (cx:Cx)(hp:List (Nat×Blk))(orc:List Orc)(t:TypeId)(b ver sz i off:Nat)(lo hi:Option AV)(c a:Bool):Option R:=match J3 cx hp orc t b ver sz i off a with
 | some q=>some q
 | none=>QbV cx hp orc t b ver sz i off lo hi c
def QrA (cx:Cx)(orc:List Orc)(t:TypeId)(x:D)(off:Nat)(a:Bool):Option R:=match x,cx.P.underlying t with
 | .agg ds,some (.array n elem)=>match cx.sz elem with
  | some s=>match a&&Nat.beq off 0&&Nat.beq s 1&&Nat.beq ds.length n&&Nat.blt 0 n&&ds.all oneV with
   | true=>some { val:=.d (.lst true 1 ds),up:=[],ob:=[],orc }
   | false=>none
  | none=>none
 | _,_=>none
def Qrz (cx:Cx)(orc:List Orc)(t:TypeId)(x:AV)(a:Bool):Option R:=match x with
 | .dptr y off=>QrA cx orc t y off a
 | _=>none
def aarr (cx:Cx)(a:Bool)(orc:List Orc)(hp:List (Nat×Blk))(t:TypeId)(x:AV):Option R:=none
def preB (hp:List (Nat×Blk))(b:Nat):List (Nat×Blk):=match look hp b with
 | some (.box x)=>match x.toD with
  | some (.agg ds)=>(b,.fbox (.agg ds))::hp
  | _=>hp
 | _=>hp
def Qdq (hp:List (Nat×Blk)):List Nat->List (Nat×Blk)
 | []=>hp
 | b::l=>Qdq (preB hp b) l
def kU (hp:List (Nat×Blk)):AV->Option (Nat×jSj×Nat)
 | .own b _=>match look hp b with
  | some (.it s p)=>some (b,s,p)
  | _=>none
 | _=>none
def QhO (s:jSj)(p:Nat):D:=.tup [.v (.bool true),.v (.int .i64 (p:Int)),.v (.int .i32 ((Utf8.decode s p).1:Int))]
def Qf6 (a:Bool)(orc:List Orc)(hp:List (Nat×Blk))(x:AV):Option R:=match kU hp x with
 | some (b,s,p)=>match zR a orc with
  | some (.br true,r)=>some { val:=.d (QhO s p),up:=[(b,.it s (p+(Utf8.decode s p).2))],ob:=[p<s.size],orc:=r }
  | some (.br false,r)=>some { val:=.d (.tup [.v (.bool false)]),up:=[],ob:=[¬p<s.size],orc:=r }
  | some (.no,r)=>match decide (p<s.size) with
   | true=>some { val:=.d (QhO s p),up:=[(b,.it s (p+(Utf8.decode s p).2))],ob:=[],orc:=r }
   | false=>some { val:=.d (.tup [.v (.bool false)]),up:=[],ob:=[],orc:=r }
  | _=>none
 | none=>none
def QcE (cx:Cx)(hp:List (Nat×Blk))(name:Nat)(orc:List Orc)(t:TypeId)(x:AV):Option R:=match cx.P.underlying t,x.toV,look hp name with
 | some .string,some (.string s),none=>some { val:=.own name 0,up:=[(name,.it s 0)],ob:=[],orc }
 | _,_,_=>none
def Qjw:List Orc->Option (List Orc)
 | .ix k::r=>match decide (k=-13) with
  | true=>some r
  | false=>none
 | _=>none
def Qju:List Orc->Option (List Orc)
 | .ix k::r=>match decide (k=-15) with
  | true=>some r
  | false=>none
 | _=>none
def rawA:Value->AV
 | .agg cs=>.agg (cs.toList.map fun c=>.d (.v c))
 | x=>.d (.v x)
def Qjv:List Orc->Option (List Orc)
 | .ix k::r=>match decide (k=-14) with
  | true=>some r
  | false=>none
 | _=>none
def QsN:List Orc->Option (List Orc)
 | .ix k::r=>match decide (k=-17) with
  | true=>some r
  | false=>none
 | _=>none
def Qsj (cx:Cx)(a:Bool)(orc:List Orc)(t:TypeId)(l c:AV):Option R:=match cx.P.underlying t,l,c with
 | some (.slice elem),.d (.v (.int _ n)),.d (.v (.int _ m))=>match cx.sz elem,cx.zero elem,cx.bytes elem with
  | some s,some z,some b=>match owe a orc (0<=n/\n<=m/\b*m<=281474976710656/\m<=9223372036854775807),ET cx elem s with
   | some (ob,r),true=>some { val:=.d (.lst false s (List.replicate n.toNat (ofV z))),up:=[],ob,orc:=r }
   | _,_=>none
  | _,_,_=>none
 | _,_,_=>none
def QeH (a:BinOp)(x y:AV)(orc:List Orc):Option R:=none
def QfJ (a:BinOp)(x y:AV)(orc:List Orc):Option R:=none
def QfI (cx:Cx)(s t:TypeId)(x:AV)(orc:List Orc):Option R:=none
def QrG (cx:Cx)(s t:TypeId)(x:AV)(orc:List Orc):Option R:=none
def aop (cx:Cx)(h:Bool)(orc:List Orc)(hp:List (Nat×Blk))(name:Nat)(e:Operand->AV)(o:Oper):Option R :=
  match o.op with
  | .move x=>val1 (e x) orc
  | .assign x=>val1 (e x) orc
  | .pick c a b=>match e c with
    | .d (.v (.bool true))=>val1 (e a) orc
    | .d (.v (.bool false))=>val1 (e b) orc
    | _=>none
  | .alloc elem=>match Qju orc with
   | some r=>match cx.zero elem,look hp name with
    | some z,none=>match (rawA z).cells with
      | some _=>some { val:=.ptr name 0 0 0 0,up:=[(name,.box (rawA z))],ob:=[],orc:=r }
      | none=>none
    | _,_=>none
   | none=>match cx.zero elem,look hp name with
    | some z,none=>match AV.cells (.d (ofV z)) with
      | some _=>some { val:=.ptr name 0 0 0 0,up:=[(name,.box (.d (ofV z)))],ob:=[],orc }
      | none=>none
    | _,_=>none
  | .box _ x=>match (e x).cells,look hp name with
    | some _,none=>some { val:=.ptr name 0 0 0 0,up:=[(name,.box (e x))],ob:=[],orc }
    | _,_=>none
  | .build t parts=>match Qfk cx t (parts.toList.map fun p=>(p.1,e p.2)) with
    | some x=>match Qjx orc with
      | some r=>val1 (wkA x) r
      | none=>val1 x orc
    | none=>none
  | .buildSlice t len parts=>match cx.Lt t len with
    | true=>Qb4 cx hp name t len (parts.toList.map fun p=>(p.1,e p.2)) orc
    | false=>match K5 0 (parts.toList.map fun p=>(p.1,e p.2)) with
      | some (x::xs)=>Qb6 cx hp name t len (x::xs) orc
      | _=>match cx.P.underlying t with
      | some (.slice elem)=>match cx.sz elem,cx.zero elem with
        | some s,some _=>match Y6 hp s 0 (parts.toList.map fun p=>(p.1,e p.2)) with
          | some (es,u)=>match Nat.ble (len*s) 16777216&&Nat.beq parts.toList.length len with
            | true=>match Qjx orc with
              | some r=>some { val:=.d (.lst true s (es.map wk1)),up:=Qd hp u,ob:=[],orc:=r }
              | none=>some { val:=.d (.lst true s es),up:=Qd hp u,ob:=[],orc }
            | false=>none
          | none=>none
        | _,_=>none
      | _=>none
  | .load t a=>match cx.sz t,cx.isAgg t,unf hp (e a) with
    | some s,some g,.ptr b ver sz i off=>match KZ h orc hp b ver sz i with
      | some (x,ob,r)=>match Jq g s off x with
        | some y=>some { val:=y,up:=[],ob,orc:=r }
        | none=>none
      | none=>none
    | some s,some g,.dptr x off=>match Jq g s off (.d x) with
      | some y=>val1 y orc
      | none=>none
    | _,_,_=>none
  | .store t a x=>kz cx h orc hp t (e a) (e x)
  | .nilCheck x=>match e x with
    | .ptr b v s i f=>match El hp b v with
      | true=>val1 (.ptr b v s i f) orc
      | false=>none
    | .dptr y f=>val1 (.dptr y f) orc
    | .fn (.func g) a b=>val1 (.fn (.func g) a b) orc
    | .d (.fn (.func g) a b)=>val1 (.d (.fn (.func g) a b)) orc
    | _=>none
  | .binOp op t x y _=>match Qjw orc with
   | some r=>QeH op (e x) (e y) r
   | none=>match QfJ op (e x) (e y) orc with
   | some q=>some q
   | none=>match (e x).toV,(e y).toV with
    | some a,some b=>match abin cx h op t x y a b with
      | some (r,ob)=>some { val:=.d r,up:=[],ob,orc }
      | none=>none
    | _,_=>match Uh hp cx op t (e x) y with
      | some (r,ob)=>some { val:=.d r,up:=[],ob,orc }
      | none=>match E5 cx op t (e x) y with
        | some (r,ob)=>some { val:=.d r,up:=[],ob,orc }
        | none=>none
  | .unOp op _ x=>match (e x).toV with
    | some a=>match Zu cx.P (Op.unary op a) with
      | some r=>val1 (.d (ofV r)) orc
      | none=>none
    | none=>none
  | .convert s t x=>match Qjv orc with
   | some r=>QrG cx s t (e x) r
   | none=>match QfI cx s t (e x) orc with
   | some q=>some q
   | none=>match (e x).toV with
    | some a=>match QiD cx h s t a with
      | some (r,ob)=>some { val:=.d r,up:=[],ob,orc }
      | none=>none
    | none=>QcM cx h orc hp s t (e x)
  | .makeFunc f first cap=>val1 (AV.norm (.fn f (first.toList.map e) (cap.toList.map e))) orc
  | .makeSlice t l c=>match QsN orc with
    | some o=>Qsj cx h o t (e l) (e c)
    | none=>match cx.P.underlying t,e l,e c,look hp name with
      | some (.slice elem),.d (.v (.int _ n)),.d (.v (.int _ m)),none=>match cx.sz elem,cx.zero elem,cx.bytes elem with
        | some s,some z,some b=>match owe h orc (0<=n/\n<=m/\b*m<=281474976710656/\m<=9223372036854775807),ET cx elem s with
          | some (ob,r),true=>some { val:=.own name 0,up:=[(name,.row 0 s (List.replicate n.toNat (ofV z)))],ob,orc:=r }
          | _,_=>none
        | _,_,_=>none
      | _,_,_,_=>none
  | .slice t x lo hi mx=>match e x with
    | .ptr b ver sz i off=>uh cx hp orc t b ver sz i off (lo.map e) (hi.map e) mx.isNone (lo.isNone&&hi.isNone&&mx.isNone)
    | _=>match Qrz cx orc t (e x) (lo.isNone&&hi.isNone&&mx.isNone) with
     | some r=>some r
     | none=>match Um cx h orc hp t (e x) (lo.map e) (hi.map e) (mx.map e) with
      | some r=>some r
      | none=>match yD cx h orc hp t (e x) (lo.map e) (hi.map e) (mx.map e) with
        | some r=>some r
        | none=>Xb cx h orc hp t (e x) (lo.map e) (hi.map e) (mx.map e)
  | .sliceToArrayPointer t x=>aarr cx h orc hp t (e x)
  | .makeMap _ r=>match r,look hp name with
    | none,none=>some { val:=.own name 0,up:=[(name,.mp [])],ob:=[],orc }
    | _,_=>none
  | .mapUpdate t m k x=>UJ cx h orc hp t (e m) (e k) (e x)
  | .insert t m k x=>UJ cx h orc hp t (e m) (e k) (e x)
  | .lookup t m k ok=>zg cx h orc hp t (e m) (e k) ok
  | .range t x=>QcE cx hp name orc t (e x)
  | .next x isS=>match isS with
    | true=>Qf6 h orc hp (e x)
    | false=>none
  | .fieldAddr s x f=>match yP cx s f with
    | some j=>match cx.sz j.type with
      | some n=>match Nat.beq n 0,e x with
        | false,.ptr b v sz i off=>match El hp b v with
          | true=>val1 (.ptr b v sz i (off+j.offset)) orc
          | false=>none
        | false,.dptr y off=>val1 (.dptr y (off+j.offset)) orc
        | _,_=>none
      | none=>none
    | none=>none
  | .field s x f=>match yP cx s f with
    | some j=>match cx.sz j.type,cx.isAgg j.type,e x with
      | some n,some g,.agg cs=>match Jq g n j.offset (.agg cs) with
        | some y=>val1 y orc
        | none=>none
      | some n,some g,.d (.agg cs)=>match Jq g n j.offset (.d (.agg cs)) with
        | some y=>val1 y orc
        | none=>none
      | _,_,_=>none
    | none=>none
  | .indexAddr t x ix=>match e ix with
    | .d (.v (.int _ i))=>UK cx h orc hp t (e x) i
    | _=>none
  | .index t x ix=>match (e ix).toV with
    | some i=>Qfe cx h orc t (e x) i
    | none=>none
  | .extract x i=>match e x with
    | .tup vs=>match nth vs i with
      | some y=>val1 y orc
      | none=>none
    | .d (.tup vs)=>match nth vs i with
      | some y=>val1 (.d y) orc
      | none=>none
    | _=>none
  | .call { callee:=.builtin b,args,argTypes }=>XI cx h orc hp name b argTypes o.type (args.toList.map e)
  | _=>none
def Qir:AV->AV
 | .d x=>match x with
  | .ref y o=>.dptr y o
  | .v y=>.d (.v y)
  | .agg cs=>.d (.agg cs)
  | .tup cs=>.d (.tup cs)
  | .lst f s es=>.d (.lst f s es)
  | .fn f a b=>.d (.fn f a b)
  | .nan k=>.d (.nan k)
  | .mp es=>.d (.mp es)
 | .agg cs=>.agg cs
 | .tup cs=>.tup cs
 | .dptr x o=>.dptr x o
 | .ptr b v s i o=>.ptr b v s i o
 | .own b v=>.own b v
 | .sub b v s l n=>.sub b v s l n
 | .fn f a b=>.fn f a b
 | .junk=>.junk
def evA (cx:Cx)(tm:List (Nat×AV)):Operand->AV
 | .tmp t=>match look tm t with
  | some x=>Qir x
  | none=>.junk
 | .const v=>.d (ofV v)
 | .global g=>match cx.G g with
  | some x=>.dptr x 0
  | none=>.junk
 | .func f=>.d (.fn (.func f) [] [])
def GM (ops:Array Oper)(tm:List (Nat×AV))(o:Oper):Option Bool:=match o.guard with
 | none=>some true
 | some (j,want)=>match nth ops.toList j with
  | none=>some false
  | some g=>match g.dst with
   | none=>some false
   | some d=>match look tm d with
    | some (.d (.v (.bool b)))=>some (b==want)
    | some (.d (.v (.tuple _)))=>some false
    | some (.d (.tup _))=>some false
    | _=>none
def wN (ops:Array Oper)(i:Nat):Bool:=ops.toList.any fun o=>match o.guard with
 | some (j,_)=>Nat.beq i j
 | none=>false
def litB (a:Bool)(orc:List Orc)(x:AV):Option (AV×List Prop×List Orc):=match x with
 | .d (.v (.bool b))=>match zR a orc with
  | some (.br g,r)=>some (.d (.v (.bool g)),[b=g],r)
  | some (.no,r)=>match b with
   | true=>some (.d (.v (.bool true)),[],r)
   | false=>some (.d (.v (.bool false)),[],r)
  | _=>none
 | _=>some (x,[],orc)
def St.put (s:St)(d:Option Tmp)(x:AV):Option St:=match d with
 | none=>some s
 | some t=>match Nat.blt t s.nt with
  | true=>some { s with tm:=(t,x)::s.tm }
  | false=>none
def Vo (hp:List (Nat×Blk))(b:Nat):Bool:=match look hp b with
 | some _=>true
 | none=>false
mutual
def AV.inH (hp:List (Nat×Blk)):AV->Bool
 | .d _=>true
 | .agg cs=>inHs hp cs
 | .tup cs=>inHs hp cs
 | .dptr _ _=>true
 | .ptr b _ _ _ _=>Vo hp b
 | .own b _=>Vo hp b
 | .sub b _ _ _ _=>Vo hp b
 | .fn _ a b=>inHs hp a&&inHs hp b
 | .junk=>true
def inHs (hp:List (Nat×Blk)):List AV->Bool
 | []=>true
 | x::l=>x.inH hp&&inHs hp l
end
def JW (a:List (Nat×Blk)):Nat->List (Nat×Blk)->Bool
 | 0,_=>true
 | n+1,(b,_)::l=>!(Vo a b)&&JW a n l
 | _+1,[]=>false
def QbZ (a:List (Nat×Blk))(x:AV)(s:St):Option AV :=
 match s.sfx&&JW a (s.hp.length - a.length) s.hp,x.toDH s.hp with
 | true,some (y,c)=>match c.all fun b=>!(Vo a b) with
  | true=>some (.d y)
  | false=>none
 | _,_=>none
def U1 (cx:Cx)(tm:List (Nat×AV))(hp:List (Nat×Blk)):List ResultVar->Option (List AV)
 | []=>some []
 | .tmp t::l=>match look tm t,U1 cx tm hp l with
  | some x,some r=>some (x::r)
  | _,_=>none
 | .cell a t::l=>match look tm a,cx.sz t,cx.isAgg t,U1 cx tm hp l with
  | some (.ptr b _ _ 0 off),some s,some g,some r=>match look hp b with
   | some (.box x)=>match Jq g s off x with
    | some y=>some (y::r)
    | none=>none
   | _=>none
  | _,_,_,_=>none
def Eg:Nat->List AV->List (Nat×AV)
 | _,[]=>[]
 | n,x::l=>(n,x)::Eg (n+1) l
def KM (b:Code->St->Option (Ex×St))(cx:Cx)(f:FuncId)(a:List AV)(s:St):Option (AV×St) :=
 match cx.P.funcs[f]? with
 | none=>none
 | some fn=>match fn.body with
  | none=>none
  | some body=>match Nat.ble a.length fn.ntmps,b body { s with nt:=fn.ntmps,tm:=Eg 0 a } with
   | true,some (.exit _,_)=>none
   | true,some (_,s')=>match U1 cx s'.tm s'.hp fn.results.toList with
    | some [x]=>some (x,{ s' with nt:=s.nt,tm:=s.tm })
    | some l=>some (AV.norm (.tup l),{ s' with nt:=s.nt,tm:=s.tm })
    | none=>none
   | _,none=>none
   | false,_=>none
def Blk.live:Blk->Bool
 | .box _=>true
 | .row _ _ _=>true
 | .frozen _ _ _=>false
 | .virt _ _ _=>false
 | .loop _ _ _ _ _ _=>true
 | .mp _=>true
 | .it _ _=>true
 | .fbox _=>false
 | .left _=>true
 | .dead=>false
def QX:Value->Option Nat
 | .pointer (some a)=>some a.block
 | .slice (some a) _ (_+1)=>some a.block
 | .map (some r)=>some r
 | .func (.yield l) _ _=>some l
 | _=>none
theorem Q8 {a:Addr}{n c:Nat}(hc:0<c):QX (.slice (some a) n c)=some a.block:=by
 cases c with
 | zero=>omega
 | succ c=>rfl
theorem WG (a:Option Addr)(n:Nat):QX (.slice a n 0)=none:=by cases a<;>rfl
inductive DR (w:World) (M:Nat->Prop):D->Value->Prop
 | v (x:Value):DR w M (.v x) x
 | agg (cs:jVj) (ys:List Value) (hl:cs.length=ys.length)
   (h:∀(i:Nat) (c:D) (y:Value),cs[i]?=some c->ys[i]?=some y->DR w M c y):DR w M (.agg cs) (.agg ys.toArray)
 | tup (cs:jVj) (ys:List Value) (hl:cs.length=ys.length)
   (h:∀(i:Nat) (c:D) (y:Value),cs[i]?=some c->ys[i]?=some y->DR w M c y):DR w M (.tup cs) (.tuple ys.toArray)
 | lst (full:Bool) (sz:Nat) (es:jVj) (a:Option Addr) (cap blk off:Nat) (ys:Nat->Value)
   (hf:full=true->cap=es.length) (hc:es.length<=cap)
   (ha:es≠[]->a=some ⟨blk,off,none⟩/\¬M blk/\blk<w.heap.size)
   (hs:∀(i:Nat) (e:D),es[i]?=some e->e.cells.length=sz)
   (hw:∀(i:Nat) (e:D) (j:Nat) (c:D),es[i]?=some e->e.cells[j]?=some c->w.cell? ⟨blk,off+(i*sz+j),none⟩=some (ys (i*sz+j))/\one (ys (i*sz+j))=true)
   (h:∀(i:Nat) (e:D) (j:Nat) (c:D),es[i]?=some e->e.cells[j]?=some c->DR w M c (ys (i*sz+j))) :
   DR w M (.lst full sz es) (.slice a es.length cap)
 | fn (f:Fn) (a b:jVj) (xs ys:List Value) (hl:a.length=xs.length) (hm:b.length=ys.length)
   (h:∀(i:Nat) (c:D) (y:Value),a[i]?=some c->xs[i]?=some y->DR w M c y)
   (k:∀(i:Nat) (c:D) (y:Value),b[i]?=some c->ys[i]?=some y->DR w M c y):DR w M (.fn f a b) (.func f xs.toArray ys.toArray)
 | ref (x:D) (off blk o:Nat) (ys:Nat->Value) (hm:¬M blk) (hb:blk<w.heap.size)
   (hw:∀(j:Nat) (c:D),x.cells[j]?=some c->w.cell? ⟨blk,o+j,none⟩=some (ys j))
   (h:∀(j:Nat) (c:D),x.cells[j]?=some c->DR w M c (ys j)):DR w M (.ref x off) (.pointer (some ⟨blk,o+off,none⟩))
 | nan (k:FloatKind) (b:Nat) (h:(k.decode b).isNaN=true):DR w M (.nan k) (.float k b)
 | mp (es vs:jVj) (r:Nat) (es' : Array MapEntry) (c:Nat) (hm:¬M r) (hb:r<w.heap.size) (hw:w.heap[r]?=some (.map es' c)) (hl:es.length=es'.toList.length) (hv:vs.length=es'.toList.length)
   (hk:∀(i:Nat) (e:MapEntry) (x:D),es'.toList[i]?=some e->vs[i]?=some x->es[i]?=some (.tup [.v e.key,x]))
   (h:∀(i:Nat) (e:MapEntry) (x:D),es'.toList[i]?=some e->vs[i]?=some x->DR w M x e.val):DR w M (.mp es) (.map (some r))
def DAt (w:World)(M:Nat->Prop)(blk o:Nat)(x:D):Prop :=
 ¬M blk/\blk<w.heap.size/\∀(j:Nat) (c:D),x.cells[j]?=some c->∃y,w.cell? ⟨blk,o+j,none⟩=some y/\DR w M c y
theorem DR.ref_dat {w:World}{M:Nat->Prop}{x:D}{off:Nat}{v:Value}(h:DR w M (.ref x off) v):∃blk o,v=.pointer (some ⟨blk,o+off,none⟩)/\DAt w M blk o x:=by
 cases h with
 | ref _ _ blk o ys d b e h=>exact⟨blk,o,rfl,d,b,fun j c a=>⟨ys j,e j c a,h j c a⟩⟩
theorem DAt.ref {w:World}{M:Nat->Prop}{blk o:Nat}{x:D}(h:DAt w M blk o x)(off:Nat):DR w M (.ref x off) (.pointer (some ⟨blk,o+off,none⟩)):=by
 obtain⟨d,e,f⟩:=h;have a:∀j:Nat,∃y:Value,∀c,x.cells[j]?=some c->w.cell? ⟨blk,o+j,none⟩=some y/\DR w M c y:=by
  intro j;cases hc:x.cells[j]? with
  | none=>exact⟨undef,fun c h=>by cases h⟩
  | some c =>
   obtain⟨y,g⟩:=f j c hc;exact⟨y,fun i h=>by cases h;exact g⟩
 exact .ref x off blk o (fun j=>Classical.choose (a j)) d e (fun j c b=>(Classical.choose_spec (a j) c b).1) (fun j c b=>(Classical.choose_spec (a j) c b).2)
def GAt (w:World)(M:Nat->Prop)(g:Nat)(x:D):Prop :=
 DAt w M g 0 x/\∃cs t fz,w.heap[g]?=some (.cells cs t fz)/\cs.size=x.cells.length
inductive VR (w:World) (M:Nat->Prop) (hp:List (Nat×Blk)) (ρ:Nat->Value):AV->Value->Prop
 | d (x:D) (y:Value) (h:DR w M x y):VR w M hp ρ (.d x) y
 | agg (cs:List AV) (ys:List Value) (hl:cs.length=ys.length)
   (h:∀(i:Nat) (c:AV) (y:Value),cs[i]?=some c->ys[i]?=some y->VR w M hp ρ c y):VR w M hp ρ (.agg cs) (.agg ys.toArray)
 | tup (cs:List AV) (ys:List Value) (hl:cs.length=ys.length)
   (h:∀(i:Nat) (c:AV) (y:Value),cs[i]?=some c->ys[i]?=some y->VR w M hp ρ c y):VR w M hp ρ (.tup cs) (.tuple ys.toArray)
 | dptr (x:D) (off blk o:Nat) (h:DAt w M blk o x):VR w M hp ρ (.dptr x off) (.pointer (some ⟨blk,o+off,none⟩))
 | ptr (b ver sz i off:Nat) (k:Blk) (y:Value) (hb:look hp b=some k) (hv:ver<=k.ver) (ho:one y=true)
   (h:ver=k.ver->∃r,QX (ρ b)=some r/\y=.pointer (some ⟨r,i*sz+off,none⟩)):VR w M hp ρ (.ptr b ver sz i off) y
 | own (b ver:Nat) (k:Blk) (y:Value) (hb:look hp b=some k) (hv:ver<=k.ver) (ho:one y=true) (h:ver=k.ver->y=ρ b):VR w M hp ρ (.own b ver) y
 | sub (b ver sz lo n:Nat) (k:Blk) (y:Value) (hb:look hp b=some k) (hv:ver<=k.ver) (ho:one y=true)
   (h:ver=k.ver->∃r c,QX (ρ b)=some r/\y=.slice (some ⟨r,lo*sz,none⟩) n c):VR w M hp ρ (.sub b ver sz lo n) y
 | fn (f:Fn) (a b:List AV) (xs ys:List Value) (hl:a.length=xs.length) (hm:b.length=ys.length)
   (h:∀(i:Nat) (c:AV) (y:Value),a[i]?=some c->xs[i]?=some y->VR w M hp ρ c y)
   (k:∀(i:Nat) (c:AV) (y:Value),b[i]?=some c->ys[i]?=some y->VR w M hp ρ c y):VR w M hp ρ (.fn f a b) (.func f xs.toArray ys.toArray)
 | junk (y:Value):VR w M hp ρ .junk y
def Mut (hp:List (Nat×Blk))(ρ:Nat->Value)(r:Nat):Prop:=∃b k,look hp b=some k/\k.live=true/\QX (ρ b)=some r
def MR (w:World)(M:Nat->Prop):jVj->List MapEntry->Prop
 | [],[]=>True
 | d::ds,e::l=>(∃x,d=.tup [.v e.key,x]/\DR w M x e.val)/\MR w M ds l
 | _,_=>False
theorem MR.vals {w:World}{M:Nat->Prop}:∀{es:jVj} {l:List MapEntry},MR w M es l->∃vs:jVj,es.length=l.length/\vs.length=l.length /\
  (∀(i:Nat) (e:MapEntry) (x:D),l[i]?=some e->vs[i]?=some x->es[i]?=some (.tup [.v e.key,x]))/\∀(i:Nat) (e:MapEntry) (x:D),l[i]?=some e->vs[i]?=some x->DR w M x e.val
 | [],[],_=>⟨[],rfl,rfl,fun i e x h=>by simp at h,fun i e x h=>by simp at h⟩
 | d::es,e0::l,h=>by
  obtain⟨⟨x,rfl,k⟩,b⟩:=h;obtain⟨vs,c,f,g,j⟩:=MR.vals b;refine⟨x::vs,by simp[c],by simp[f],fun i e y hi a=>?_,fun i e y hi a=>?_⟩
  ·cases i with
   | zero =>
    simp only[jzj,jIj] at hi a ⊢;subst hi;subst a;rfl
   | succ i =>
    simp only[List.getElem?_cons_succ] at hi a ⊢;exact g i e y hi a
  ·cases i with
   | zero =>
    simp only[jzj,jIj] at hi a;subst hi;subst a;exact k
   | succ i =>
    simp only[List.getElem?_cons_succ] at hi a;exact j i e y hi a
 | [],_::_,h=>h.elim
 | _::_,[],h=>h.elim
theorem MR.of_vals {w:World}{M:Nat->Prop}:∀{es vs:jVj} {l:List MapEntry},es.length=l.length->vs.length=l.length ->
  (∀(i:Nat) (e:MapEntry) (x:D),l[i]?=some e->vs[i]?=some x->es[i]?=some (.tup [.v e.key,x]))->(∀(i:Nat) (e:MapEntry) (x:D),l[i]?=some e->vs[i]?=some x->DR w M x e.val)->MR w M es l
 | [],_,[],_,_,_,_=>trivial
 | d::es,v::vs,e::l,h1,h2,h3,h4=>by refine⟨⟨v,?_,h4 0 e v rfl rfl⟩,MR.of_vals (vs:=vs) (by simpa using h1) (by simpa using h2) (fun i a x hi b=>by simpa using h3 (i+1) a x (by simpa using hi) (by simpa using b)) (fun i a x hi b=>h4 (i+1) a x (by simpa using hi) (by simpa using b))⟩;simpa using h3 0 e v rfl rfl
 | [],_,_::_,h,_,_,_=>by simp at h
 | _::_,_,[],h,_,_,_=>by simp at h
 | _::_,[],_::_,_,h,_,_=>by simp at h
theorem MR.imp {w:World}{M M' : Nat->Prop}(hi:∀(d:D) (v:Value),DR w M d v->DR w M' d v):∀{es:jVj} {l:List MapEntry},MR w M es l->MR w M' es l
 | [],[],_=>trivial
 | _::_,_::_,h=>by obtain⟨⟨x,c,b⟩,a⟩:=h;exact⟨⟨x,c,hi _ _ b⟩,MR.imp hi a⟩
 | [],_::_,h=>h.elim
 | _::_,[],h=>h.elim
theorem MR.dr {w:World}{M:Nat->Prop}{es:jVj}{r:Nat}{a : Array MapEntry}{c:Nat}(h:MR w M es a.toList)(i:¬M r)(b:w.heap[r]?=some (.map a c)):DR w M (.mp es) (.map (some r)):=by obtain⟨vs,d,e,f,g⟩:=h.vals;exact .mp es vs r a c i (Array.getElem?_eq_some_iff.1 b).1 b d e f g
theorem DR.mr {w:World}{M:Nat->Prop}{es:jVj}{v:Value}(h:DR w M (.mp es) v):∃r a c,v=.map (some r)/\w.heap[r]?=some (.map a c)/\MR w M es a.toList:=by
 cases h with
 | mp _ vs r a c j i g b d e f=>exact⟨r,a,c,rfl,g,MR.of_vals b d e f⟩
def wh:Ex->Code
 | .normal=>.skip
 | .exit id=>.exit id
 | .ret=>.ret
def BlkR (w:World)(M:Nat->Prop)(hp:List (Nat×Blk))(ρ:Nat->Value)(b:Nat):Blk->Prop
 | .box x=>∃r e v cs,ρ b=.pointer (some ⟨r,0,none⟩)/\w.heap[r]?=some (.cells v.cells e (0,0))/\x.cells=some cs/\VR w M hp ρ x v
 | .row _ sz es=>(es=[]/\∃a,ρ b=.slice a 0 0)\/∃r c e cap,ρ b=.slice (some ⟨r,0,none⟩) es.length cap/\(es.length<=cap/\0<cap)/\cap*sz<=c.size/\w.heap[r]?=some (.cells c e (0,0)) /\
   (∀(i:Nat) (d:D),es[i]?=some d->d.cells.length=sz) /\
   ∀(i:Nat) (d:D) (j:Nat) (a:D),es[i]?=some d->d.cells[j]?=some a->∃y,c[i*sz+j]?=some y/\one y=true/\DR w M a y
 | .frozen _ sz es=>DR w M (.lst false sz es) (ρ b)
 | .virt _ sz es=>DR w M (.lst true sz es) (ρ b)
 | .loop rdy tm ps as bd nt=>∃l f,ρ b=.func (.yield l) #[] #[]/\w.heap[l]?=some (.loop f)/\f.state=(if rdy then .ready else .busy)/\f.pending=none/\f.params.toList=ps/\f.assign=as/\f.body=bd /\
   f.tmps.size=nt/\∀(t:Nat) (x:AV),look tm t=some x->VR w M hp ρ x (f.tmps.getD t undef)
 | .mp es=>∃r g c,ρ b=.map (some r)/\w.heap[r]?=some (.map g c)/\MR w M es g.toList
 | .it s p=>∃r,ρ b=.pointer (some ⟨r,0,none⟩)/\w.heap[r]?=some (.stringIter s p)
 | .fbox x=>∃r,ρ b=.pointer (some ⟨r,0,none⟩)/\DAt w M r 0 x
 | .left e=>∃l f,ρ b=.func (.yield l) #[] #[]/\w.heap[l]?=some (.loop f)/\f.state=.done/\f.pending=some (wh e)
 | .dead=>True
def MM (F:Nat->Prop)(hp:List (Nat×Blk))(ρ:Nat->Value)(r:Nat):Prop:=F r\/Mut hp ρ r
structure HSim (cx:Cx) (F:Nat->Prop) (hp:List (Nat×Blk)) (ρ:Nat->Value) (w:World):Prop where
 blk:∀b k,look hp b=some k->BlkR w (MM F hp ρ) hp ρ b k
 inj:∀b b' k k' r,look hp b=some k->look hp b'=some k'->k.live=true->k'.live=true->QX (ρ b)=some r->QX (ρ b')=some r->b=b'
 forb:∀r,Mut hp ρ r->¬F r
 bnd:∀r,F r->r<w.heap.size
 glob:∀g x,cx.G g=some x->GAt w (MM F hp ρ) g x
def TSim (F:Nat->Prop)(tm:List (Nat×AV))(hp:List (Nat×Blk))(ρ:Nat->Value)(a:Act)(w:World):Prop :=
 ∀t x,look tm t=some x->VR w (MM F hp ρ) hp ρ x (a.tmps.getD t undef)
structure Sim (cx:Cx) (F:Nat->Prop) (s:St) (ρ:Nat->Value) (a:Act) (w:World):Prop where
 hs:HSim cx F s.hp ρ w
 ts:TSim F s.tm s.hp ρ a w
 nt:a.tmps.size=s.nt
class DrawMode where
 on:Bool
variable [DrawMode]
structure Ext (w:World) (M:Nat->Prop) (w' : World):Prop where
 drawn:DrawMode.on=true->w.drawn<=w'.drawn
 os:w'.os=w.os
 tape:w'.tape=w.tape
 output:w'.output=w.output
 size:w.heap.size<=w'.heap.size
 same:∀r,r<w.heap.size->¬M r->w'.heap[r]?=w.heap[r]?
def Computes (cx:Cx)(f:FuncId)(a:jVj)(r:D):Prop :=
 ∀(w:World) (F:Nat->Prop) (vs:List Value),(∀r,F r->r<w.heap.size)->(∀g x,cx.G g=some x->GAt w F g x) ->
  a.length=vs.length->(∀(i:Nat) (c:D) (y:Value),a[i]?=some c->vs[i]?=some y->DR w F c y) ->
  Calls cx.P f vs.toArray w fun e w'=>∃y,e=.returned y/\DR w' F r y/\Ext w (fun _=>False) w'
def G8:Nat->List OC->List AV
 | _,[]=>[]
 | i,.dat x::l=>.d x::G8 (i+1) l
 | i,.row _ _::l=>.own i 0::G8 (i+1) l
def J9:Nat->List OC->List (Nat×Blk)
 | _,[]=>[]
 | i,.dat _::l=>J9 (i+1) l
 | i,.row sz es::l=>(i,.row 0 sz es)::J9 (i+1) l
def Zx (cs:List OC):List (Nat×Blk):=(0,.box (AV.norm (.agg (G8 1 cs))))::J9 1 cs
def Yo:Option (List OC)->List (Nat×Blk)
 | none=>[]
 | some cs=>Zx cs
def ComputesO (cx:Cx)(f:FuncId)(a:List AV)(i:Option (List OC))(r:AV)(cs:List OC)(ks:List Bool):Prop :=
 ∀(w:World) (F:Nat->Prop) (ρ:Nat->Value) (vs:List Value),HSim cx F (Yo i) ρ w->a.length=vs.length ->
  (∀(k:Nat) (c:AV) (y:Value),a[k]?=some c->vs[k]?=some y->VR w (MM F (Yo i) ρ) (Yo i) ρ c y) ->
  Calls cx.P f vs.toArray w fun e w'=>∃y ρ',e=.returned y/\HSim cx F (Zx cs) ρ' w'/\VR w' (MM F (Zx cs) ρ') (Zx cs) ρ' r y /\
   Ext w (Mut (Yo i) ρ) w'/\(∀q,q<w.heap.size->Mut (Zx cs) ρ' q->Mut (Yo i) ρ q)/\(i.isSome=true->ρ' 0=ρ 0/\∀(j sz:Nat) (es:jVj),ks[j]?=some true->cs[j]?=some (.row sz es)->ρ' (j+1)=ρ (j+1))
theorem Ext.refl (w:World)(M:Nat->Prop):Ext w M w:=⟨fun _=>jLj _,rfl,rfl,rfl,jLj _,fun _ _ _=>rfl⟩
theorem Ext.trans {a b c:World}{M N:Nat->Prop}(h:Ext a M b)(k:Ext b N c)(f:∀r,r<a.heap.size->N r->M r):Ext a M c :=
 ⟨fun q=>Nat.le_trans (h.drawn q) (k.drawn q),k.os.trans h.os,k.tape.trans h.tape,k.output.trans h.output,Nat.le_trans h.size k.size,fun r d e =>
  (k.same r (Nat.lt_of_lt_of_le d h.size) fun g=>e (f r d g)).trans (h.same r d e)⟩
theorem Ext.mono {a b:World}{M N:Nat->Prop}(h:Ext a M b)(c:∀r,M r->N r):Ext a N b :=
 ⟨h.drawn,h.os,h.tape,h.output,h.size,fun r f e=>h.same r f fun d=>e (c r d)⟩
theorem Ext.cell {w w' : World}{M:Nat->Prop}(h:Ext w M w'){p:Addr}(hp:p.block<w.heap.size)(a:¬M p.block):w'.cell? p=w.cell? p:=by have:=h.same p.block hp a;unfold World.cell?;rw[this]
theorem DR.ext {w w' : World}{M M' : Nat->Prop}(t:w.heap.size<=w'.heap.size)(hc:∀r,r<w.heap.size->¬M r->w'.heap[r]?=w.heap[r]?)
  (s:∀r,r<w.heap.size->M' r->M r) {x:D} {y:Value} (h:DR w M x y):DR w' M' x y:=by
 induction h with
 | v x=>exact .v x
 | agg cs ys hl h ih=>exact .agg cs ys hl ih
 | tup cs ys hl h ih=>exact .tup cs ys hl ih
 | lst full sz es a cap blk off ys hf hcp ha hsz hw h ih =>
  refine .lst full sz es a cap blk off ys hf hcp ?_ hsz ?_ ih
  ·intro m;obtain⟨g,d,n⟩:=ha m;exact⟨g,fun l=>d (s _ n l),Nat.lt_of_lt_of_le n t⟩
  ·intro i e j c u p;have m:es≠[]:=by rintro rfl;simp at u
   obtain⟨g,d,n⟩:=ha m;obtain⟨this,A⟩:=hw i e j c u p;refine⟨?_,A⟩;unfold World.cell? at this ⊢;simp only at this ⊢;rw[hc _ n d];exact this
 | fn f a b xs ys hl l h k ih ik=>exact .fn f a b xs ys hl l ih ik
 | ref x off blk o ys g d hw h ih =>
  refine .ref x off blk o ys (fun q=>g (s _ d q)) (Nat.lt_of_lt_of_le d t) (fun j c z=>?_) ih;have:=hw j c z;unfold World.cell? at this ⊢;simp only at this ⊢;rw[hc _ d g];exact this
 | nan k b h=>exact .nan k b h
 | mp es vs r es' c g d hw hl hv hk h ih=>exact .mp es vs r es' c (fun q=>g (s _ d q)) (Nat.lt_of_lt_of_le d t) ((hc _ d g).trans hw) hl hv hk ih
theorem MR.ext {w w' : World}{M M' : Nat->Prop}(b:w.heap.size<=w'.heap.size)(hc:∀r,r<w.heap.size->¬M r->w'.heap[r]?=w.heap[r]?)
  (a:∀r,r<w.heap.size->M' r->M r):∀{es:jVj} {l:List MapEntry},MR w M es l->MR w' M' es l
 | [],[],_=>trivial
 | _::_,_::_,h=>by obtain⟨⟨x,e,d⟩,c⟩:=h;exact⟨⟨x,e,d.ext b hc a⟩,MR.ext b hc a c⟩
 | [],_::_,h=>h.elim
 | _::_,[],h=>h.elim
theorem DAt.ext {w w' : World}{M M' : Nat->Prop}(f:w.heap.size<=w'.heap.size)(hc:∀r,r<w.heap.size->¬M r->w'.heap[r]?=w.heap[r]?)
  (e:∀r,r<w.heap.size->M' r->M r) {blk o:Nat} {x:D} (h:DAt w M blk o x):DAt w' M' blk o x:=by
 obtain⟨d,a,g⟩:=h;refine⟨fun h=>d (e _ a h),Nat.lt_of_lt_of_le a f,fun j c k=>?_⟩;obtain⟨y,b,i⟩:=g j c k;refine⟨y,?_,i.ext f hc e⟩;unfold World.cell? at b ⊢;simp only at b ⊢;rw[hc _ a d];exact b
theorem GAt.ext {w w' : World}{M M' : Nat->Prop}(e:w.heap.size<=w'.heap.size)(hc:∀r,r<w.heap.size->¬M r->w'.heap[r]?=w.heap[r]?)
  (d:∀r,r<w.heap.size->M' r->M r) {g:Nat} {x:D} (h:GAt w M g x):GAt w' M' g x:=by
 obtain⟨a,cs,t,fz,b,c⟩:=h;exact⟨a.ext e hc d,cs,t,fz,(hc _ a.2.1 a.1).trans b,c⟩
structure Grows (hp hp' : List (Nat×Blk)) (ρ ρ' : Nat->Value):Prop where
 dom:∀b k,look hp b=some k->∃k',look hp' b=some k'/\k.ver<=k'.ver/\(k.ver=k'.ver->ρ' b=ρ b)
theorem VR.ext {w w' : World}{M M' : Nat->Prop}{hp p : List (Nat×Blk)}{ρ ρ' : Nat->Value}(z:w.heap.size<=w'.heap.size)
  (hc:∀r,r<w.heap.size->¬M r->w'.heap[r]?=w.heap[r]?) (v:∀r,r<w.heap.size->M' r->M r) (q:Grows hp p ρ ρ')
  {x:AV} {y:Value} (h:VR w M hp ρ x y):VR w' M' p ρ' x y:=by
 induction h with
 | d x y h=>exact .d x y (h.ext z hc v)
 | agg cs ys hl h ih=>exact .agg cs ys hl ih
 | tup cs ys hl h ih=>exact .tup cs ys hl ih
 | dptr x off blk o h=>exact .dptr x off blk o (h.ext z hc v)
 | ptr b ver sz i off k y hb hv ho h =>
  obtain⟨m,g,l,e⟩:=q.dom b k hb;refine .ptr b ver sz i off m y g (Nat.le_trans hv l) ho fun u=>?_;have j:k.ver=m.ver:=by omega
  obtain⟨r,s,t⟩:=h (by omega);exact⟨r,by rw[e j];exact s,t⟩
 | own b ver k y hb hv ho h =>
  obtain⟨m,g,l,e⟩:=q.dom b k hb;refine .own b ver m y g (Nat.le_trans hv l) ho fun u=>?_;have j:k.ver=m.ver:=by omega
  rw[e j];exact h (by omega)
 | sub b ver sz lo n k y hb hv ho h =>
  obtain⟨m,g,l,e⟩:=q.dom b k hb;refine .sub b ver sz lo n m y g (Nat.le_trans hv l) ho fun u=>?_;have j:k.ver=m.ver:=by omega
  obtain⟨r,c,s,t⟩:=h (by omega);exact⟨r,c,by rw[e j];exact s,t⟩
 | fn f a b xs ys hl hm' h k ih ik=>exact .fn f a b xs ys hl hm' ih ik
 | junk y=>exact .junk y
theorem Grows.refl (hp:List (Nat×Blk))(ρ:Nat->Value):Grows hp hp ρ ρ:=⟨fun _ k h=>⟨k,h,jLj _,fun _=>rfl⟩⟩
theorem Grows.trans {e f g:List (Nat×Blk)}{h i j:Nat->Value}(a:Grows e f h i)(b:Grows f g i j):Grows e g h j :=
 ⟨fun n k o=>by obtain⟨p,c,r,l⟩:=a.dom n k o;obtain⟨q,d,s,m⟩:=b.dom n p c;exact⟨q,d,Nat.le_trans r s,fun t=>by rw[m (by omega),l (by omega)]⟩⟩
theorem Qf {a:Type}(b:Nat)(x:a)(l:List (Nat×a)):look ((b,x)::l) b=some x:=by have:Nat.beq b b=true:=Nat.beq_refl b;simp only[look,this]
theorem Qc {a:Type}{b t:Nat}(x:a)(l:List (Nat×a))(h:b≠t):look ((b,x)::l) t=look l t:=by
 have:Nat.beq b t=false:=by
  cases hb:Nat.beq b t with
  | false=>rfl
  | true=>exact absurd (jqj hb) h
 simp only[look,this]
theorem WH {a:Type}(l m:List (Nat×a))(t:Nat):look (l++m) t=match look l t with|some x=>some x|none=>look m t:=by
 induction l with
 | nil=>rfl
 | cons p l ih =>
  obtain⟨k,x⟩:=p;by_cases h:k=t
  ·subst h;simp[Qf]
  ·rw[List.cons_append,Qc _ _ h,Qc _ _ h,ih]
structure Steps1 (hp:List (Nat×Blk)) (ρ:Nat->Value) (w:World) (hp' : List (Nat×Blk)) (ρ' : Nat->Value) (w' : World):Prop where
 ext:Ext w (Mut hp ρ) w'
 mt:∀r,r<w.heap.size->Mut hp' ρ' r->Mut hp ρ r
 grow:Grows hp hp' ρ ρ'
theorem Steps1.refl (hp:List (Nat×Blk))(ρ:Nat->Value)(w:World):Steps1 hp ρ w hp ρ w:=⟨Ext.refl _ _,fun _ _ h=>h,Grows.refl _ _⟩
theorem Steps1.trans {e f g:List (Nat×Blk)}{h i j:Nat->Value}{k l m:World}(a:Steps1 e h k f i l)(b:Steps1 f i l g j m):Steps1 e h k g j m :=
 ⟨a.ext.trans b.ext fun r c d=>a.mt r c d,fun r c d=>a.mt r c (b.mt r (Nat.lt_of_lt_of_le c a.ext.size) d),a.grow.trans b.grow⟩
theorem Steps1.vr {F:Nat->Prop}{hp a : List (Nat×Blk)}{ρ ρ' : Nat->Value}{w w' : World}(h:Steps1 hp ρ w a ρ' w'){x:AV}{y:Value}
  (d:VR w (MM F hp ρ) hp ρ x y):VR w' (MM F a ρ') a ρ' x y :=
 d.ext h.ext.size (fun r c b=>h.ext.same r c fun k=>b (.inr k)) (fun r c b=>b.imp id (h.mt r c)) h.grow
theorem Steps1.dr {F:Nat->Prop}{hp a : List (Nat×Blk)}{ρ ρ' : Nat->Value}{w w' : World}(h:Steps1 hp ρ w a ρ' w'){x:D}{y:Value}
  (d:DR w (MM F hp ρ) x y):DR w' (MM F a ρ') x y :=
 d.ext h.ext.size (fun r c b=>h.ext.same r c fun k=>b (.inr k)) (fun r c b=>b.imp id (h.mt r c))
theorem Steps1.dat {F:Nat->Prop}{hp a : List (Nat×Blk)}{ρ ρ' : Nat->Value}{w w' : World}(h:Steps1 hp ρ w a ρ' w'){b o:Nat}{x:D}
  (e:DAt w (MM F hp ρ) b o x):DAt w' (MM F a ρ') b o x :=
 e.ext h.ext.size (fun r d c=>h.ext.same r d fun k=>c (.inr k)) (fun r d c=>c.imp id (h.mt r d))
theorem Steps1.gat {F:Nat->Prop}{hp a : List (Nat×Blk)}{ρ ρ' : Nat->Value}{w w' : World}(h:Steps1 hp ρ w a ρ' w'){g:Nat}{x:D}
  (d:GAt w (MM F hp ρ) g x):GAt w' (MM F a ρ') g x :=
 d.ext h.ext.size (fun r c b=>h.ext.same r c fun k=>b (.inr k)) (fun r c b=>b.imp id (h.mt r c))
theorem BlkR.ext {w w' : World}{M M' : Nat->Prop}{hp A : List (Nat×Blk)}{ρ ρ' : Nat->Value}(u:w.heap.size<=w'.heap.size)
  (hc:∀r,r<w.heap.size->¬M r->w'.heap[r]?=w.heap[r]?) (q:∀r,r<w.heap.size->M' r->M r) (J:Grows hp A ρ ρ')
  {b:Nat} {k:Blk} (g:ρ' b=ρ b) (z:k.live=true->∀r,QX (ρ b)=some r->w'.heap[r]?=w.heap[r]?) (h:BlkR w M hp ρ b k):BlkR w' M' A ρ' b k:=by
 cases k with
 | box x =>
  obtain⟨r,e,v,cs,f,m,n,o⟩:=h;exact⟨r,e,v,cs,g.trans f,(z rfl r (by rw[f];rfl)).trans m,n,o.ext u hc q J⟩
 | row ver sz es =>
  obtain⟨f,a,m⟩|⟨r,c,e,cap,f,m,n,o,F,G⟩:=h
  ·exact .inl ⟨f,a,g.trans m⟩
  refine .inr ⟨r,c,e,cap,g.trans f,m,n,(z rfl r (by rw[f];exact Q8 m.2)).trans o,F,fun i d j a O P=>?_⟩;obtain⟨y,U,Q,S⟩:=G i d j a O P;exact⟨y,U,Q,S.ext u hc q⟩
 | frozen ver sz es=>show DR w' M' _ (ρ' b);rw[g];exact DR.ext u hc q h
 | virt ver sz es=>show DR w' M' _ (ρ' b);rw[g];exact DR.ext u hc q h
 | loop rdy tm ps as bd nt =>
  obtain⟨l,H,f,n,o,F,G,K,L,N,E⟩:=h;exact⟨l,H,g.trans f,(z rfl l (by rw[f];rfl)).trans n,o,F,G,K,L,N,fun t x T=>(E t x T).ext u hc q J⟩
 | mp es =>
  obtain⟨r,C,c,f,m,n⟩:=h;exact⟨r,C,c,g.trans f,(z rfl r (by rw[f];rfl)).trans m,n.ext u hc q⟩
 | it s p =>
  obtain⟨r,f,m⟩:=h;exact⟨r,g.trans f,(z rfl r (by rw[f];rfl)).trans m⟩
 | fbox x =>
  obtain⟨r,f,m⟩:=h;exact⟨r,g.trans f,m.ext u hc q⟩
 | left e =>
  obtain⟨l,H,f,n,o⟩:=h;exact⟨l,H,g.trans f,(z rfl l (by rw[f];rfl)).trans n,o⟩
 | dead=>trivial
theorem HSim.step {cx:Cx}{F:Nat->Prop}{hp hp' : List (Nat×Blk)}{ρ ρ' : Nat->Value}{w w' : World}(h:HSim cx F hp ρ w)(st:Steps1 hp ρ w hp' ρ' w')
  (hb:∀b k,look hp' b=some k->(look hp b=some k/\ρ' b=ρ b/\(k.live=true->∀r,QX (ρ b)=some r->w'.heap[r]?=w.heap[r]?))\/BlkR w' (MM F hp' ρ') hp' ρ' b k)
  (inj:∀b b' k k' r,look hp' b=some k->look hp' b'=some k'->k.live=true->k'.live=true->QX (ρ' b)=some r->QX (ρ' b')=some r->b=b')
  (forb:∀r,Mut hp' ρ' r->¬F r):HSim cx F hp' ρ' w' where
 blk b k hk:=by
  obtain⟨h1,h2,h3⟩|h1:=hb b k hk
  ·exact(h.blk b k h1).ext st.ext.size (fun r hr hm=>st.ext.same r hr fun k=>hm (.inr k)) (fun r hr hm=>hm.imp id (st.mt r hr)) st.grow h2 h3
  ·exact h1
 inj:=inj
 forb:=forb
 bnd r hr:=Nat.lt_of_lt_of_le (h.bnd r hr) st.ext.size
 glob g x hx:=st.gat (h.glob g x hx)
def VI (ρ:Nat->Value)(b:Nat)(v:Value):Nat->Value:=fun n=>if n=b then v else ρ n
theorem Qx (ρ:Nat->Value)(b:Nat)(v:Value):VI ρ b v b=v:=by simp[VI]
theorem QL (ρ:Nat->Value){b n:Nat}(v:Value)(h:n≠b):VI ρ b v n=ρ n:=by simp[VI,h]
theorem BlkR.root_lt {w:World}{M:Nat->Prop}{hp:List (Nat×Blk)}{ρ:Nat->Value}{b:Nat}{k:Blk}(h:BlkR w M hp ρ b k)(m:k.live=true){r:Nat}
  (d:QX (ρ b)=some r):r<w.heap.size:=by
 cases k with
 | box x =>
  obtain⟨i,e,v,cs,g,f,_⟩:=h;rw[g] at d;simp only[QX,jIj] at d;subst d;obtain h|h:=Nat.lt_or_ge i w.heap.size
  ·exact h
  ·rw[Array.getElem?_eq_none h] at f;cases f
 | row ver sz es =>
  obtain⟨_,a,f⟩|⟨i,c,e,cap,g,j,_,f,_⟩:=h
  ·rw[f,WG] at d;cases d
  rw[g,Q8 j.2] at d;simp only[jIj] at d;subst d;obtain h|h:=Nat.lt_or_ge i w.heap.size
  ·exact h
  ·rw[Array.getElem?_eq_none h] at f;cases f
 | frozen ver sz es=>cases m
 | virt ver sz es=>cases m
 | loop rdy tm ps as bd nt =>
  obtain⟨l,o,g,f,_⟩:=h;rw[g] at d;simp only[QX,jIj] at d;subst d;obtain h|h:=Nat.lt_or_ge l w.heap.size
  ·exact h
  ·rw[Array.getElem?_eq_none h] at f;cases f
 | fbox _=>cases m
 | left e =>
  obtain⟨l,o,g,f,_⟩:=h;rw[g] at d;simp only[QX,jIj] at d;subst d;obtain h|h:=Nat.lt_or_ge l w.heap.size
  ·exact h
  ·rw[Array.getElem?_eq_none h] at f;cases f
 | mp es =>
  obtain⟨i,n,c,g,f,_⟩:=h;rw[g] at d;simp only[QX,jIj] at d;subst d;obtain h|h:=Nat.lt_or_ge i w.heap.size
  ·exact h
  ·rw[Array.getElem?_eq_none h] at f;cases f
 | it s p =>
  obtain⟨i,g,f⟩:=h;rw[g] at d;simp only[QX,jIj] at d;subst d;obtain h|h:=Nat.lt_or_ge i w.heap.size
  ·exact h
  ·rw[Array.getElem?_eq_none h] at f;cases f
 | dead=>cases m
theorem HSim.mut_lt {cx:Cx}{F:Nat->Prop}{hp:List (Nat×Blk)}{ρ:Nat->Value}{w:World}(h:HSim cx F hp ρ w){r:Nat}(a:Mut hp ρ r):r<w.heap.size:=by obtain⟨b,k,c,d,a⟩:=a;exact(h.blk b k c).root_lt d a
theorem Ext.alloc (w:World)(M:Nat->Prop)(o:Obj):Ext w M (w.alloc o) :=
 ⟨fun _=>jLj _,rfl,rfl,rfl,by simp,fun r a _=>by show(w.heap.push o)[r]?=_;rw[Array.getElem?_push,jFj (by omega)]⟩
theorem Ext.drew (w:World)(M:Nat->Prop):Ext w M w.drew:=⟨fun _=>Nat.le_succ _,rfl,rfl,rfl,jLj _,fun _ _ _=>rfl⟩
theorem Z2 (w:World)(o:Obj):(w.alloc o).heap[w.heap.size]?=some o:=by show(w.heap.push o)[w.heap.size]?=_;simp
theorem HSim.freshO {cx:Cx}{F:Nat->Prop}{hp:List (Nat×Blk)}{ρ:Nat->Value}{w:World}(h:HSim cx F hp ρ w){b:Nat}{k:Blk}{v:Value}(o:Obj)
  (s:∀r,QX v=some r->r=w.heap.size) (i:∀k0,look hp b=some k0->k0.ver<k.ver)
  (E:∀(f:Steps1 hp ρ w ((b,k)::hp) (VI ρ b v) (w.alloc o)),BlkR (w.alloc o) (MM F ((b,k)::hp) (VI ρ b v)) ((b,k)::hp) (VI ρ b v) b k) :
  HSim cx F ((b,k)::hp) (VI ρ b v) (w.alloc o)/\Steps1 hp ρ w ((b,k)::hp) (VI ρ b v) (w.alloc o):=by
 have g:∀r,Mut ((b,k)::hp) (VI ρ b v) r->r=w.heap.size\/Mut hp ρ r:=by
  rintro r ⟨n,t,c,p,e⟩;by_cases a:n=b
  ·subst a;rw[Qx] at e;exact .inl (s _ e)
  ·rw[Qc _ _ (Ne.symm a)] at c;rw[QL _ _ a] at e;exact .inr ⟨n,t,c,p,e⟩
 have f:Steps1 hp ρ w ((b,k)::hp) (VI ρ b v) (w.alloc o):=by
  refine⟨Ext.alloc _ _ _,fun r e p=>?_,⟨fun n k0 c=>?_⟩⟩
  ·obtain h|h:=g r p
   ·omega
   ·exact h
  ·by_cases a:n=b
   ·subst a;exact⟨k,Qf _ _ _,Nat.le_of_lt (i k0 c),fun J=>by have:=i k0 c;omega⟩
   ·exact⟨k0,by rw[Qc _ _ (Ne.symm a)];exact c,jLj _,fun _=>QL _ _ a⟩
 refine⟨h.step f (fun n t c=>?_) (fun n u y z r j q A C l m=>?_) (fun r e x=>?_),f⟩
 ·by_cases a:n=b
  ·subst a;rw[Qf] at c;cases c;exact .inr (E f)
  ·rw[Qc _ _ (Ne.symm a)] at c;refine .inl ⟨c,QL _ _ a,fun p r e=>?_⟩;have:=(h.blk n t c).root_lt p e;show(w.heap.push _)[r]?=_;rw[Array.getElem?_push,jFj (by omega)]
 ·by_cases c:n=b<;>by_cases d : u=b
  ·rw[c,d]
  ·subst c;rw[Qx] at l;have G:=s _ l;rw[Qc _ _ (Ne.symm d)] at q;rw[QL _ _ d] at m;have:=(h.blk u z q).root_lt C m;omega
  ·subst d;rw[Qx] at m;have H:=s _ m;rw[Qc _ _ (Ne.symm c)] at j;rw[QL _ _ c] at l;have:=(h.blk n y j).root_lt A l;omega
  ·rw[Qc _ _ (Ne.symm c)] at j;rw[QL _ _ c] at l;rw[Qc _ _ (Ne.symm d)] at q;rw[QL _ _ d] at m;exact h.inj n u y z r j q A C l m
 ·obtain j|j:=g r e
  ·have:=h.bnd r x;omega
  ·exact h.forb r j x
theorem HSim.fresh {cx:Cx}{F:Nat->Prop}{hp:List (Nat×Blk)}{ρ:Nat->Value}{w:World}(h:HSim cx F hp ρ w){b:Nat}{k:Blk}{v:Value}(c:Array Value)(e:TypeId)
  (g:∀r,QX v=some r->r=w.heap.size) (a:∀k0,look hp b=some k0->k0.ver<k.ver)
  (d:∀(f:Steps1 hp ρ w ((b,k)::hp) (VI ρ b v) (w.alloc (.cells c e))),BlkR (w.alloc (.cells c e)) (MM F ((b,k)::hp) (VI ρ b v)) ((b,k)::hp) (VI ρ b v) b k) :
  HSim cx F ((b,k)::hp) (VI ρ b v) (w.alloc (.cells c e))/\Steps1 hp ρ w ((b,k)::hp) (VI ρ b v) (w.alloc (.cells c e)):=h.freshO (.cells c e) g a d
theorem HSim.write {cx:Cx}{F:Nat->Prop}{hp:List (Nat×Blk)}{ρ:Nat->Value}{w w' : World}(h:HSim cx F hp ρ w){b:Nat}{k0 k:Blk}{v:Value}{r:Nat}
  (s:look hp b=some k0) (l:k0.live=true) (u:QX (ρ b)=some r) (A:QX v=some r) (o:k0.ver<k.ver\/(k0.ver=k.ver/\v=ρ b))
  (C:Ext w (fun n=>n=r) w')
  (O:∀(e:Steps1 hp ρ w ((b,k)::hp) (VI ρ b v) w'),BlkR w' (MM F ((b,k)::hp) (VI ρ b v)) ((b,k)::hp) (VI ρ b v) b k) :
  HSim cx F ((b,k)::hp) (VI ρ b v) w'/\Steps1 hp ρ w ((b,k)::hp) (VI ρ b v) w':=by
 have m:Mut hp ρ r:=⟨b,k0,s,l,u⟩
 have i:∀q,Mut ((b,k)::hp) (VI ρ b v) q->Mut hp ρ q:=by
  rintro q ⟨n,t,c,g,d⟩;by_cases a:n=b
  ·subst a;rw[Qx,A] at d;cases d;exact m
  ·rw[Qc _ _ (Ne.symm a)] at c;rw[QL _ _ a] at d;exact⟨n,t,c,g,d⟩
 have e:Steps1 hp ρ w ((b,k)::hp) (VI ρ b v) w':=by
  refine⟨C.mono fun q d=>by rw[d];exact m,fun q _ g=>i q g,⟨fun n j c=>?_⟩⟩;by_cases a:n=b
  ·subst a;rw[s] at c;cases c;refine⟨k,Qf _ _ _,by omega,fun z=>?_⟩;obtain P|⟨_,x⟩:=o
   ·omega
   ·rw[Qx];exact x
  ·exact⟨j,by rw[Qc _ _ (Ne.symm a)];exact c,jLj _,fun _=>QL _ _ a⟩
 refine⟨h.step e (fun n t c=>?_) (fun n E j Q q M N S T U V=>?_) (fun q d=>h.forb q (i q d)),e⟩
 ·by_cases a:n=b
  ·subst a;rw[Qf] at c;cases c;exact .inr (O e)
  ·rw[Qc _ _ (Ne.symm a)] at c;refine .inl ⟨c,QL _ _ a,fun g q d=>?_⟩;exact C.same q ((h.blk n t c).root_lt g d) fun z=>a (h.inj n b t k0 r c s g l (by rw[<-z];exact d) u)
 ·have p:∀n j q,look ((b,k)::hp) n=some j->j.live=true->QX (VI ρ b v n)=some q->∃f,look hp n=some f/\f.live=true/\QX (ρ n)=some q:=by
   intro n j q c g d;by_cases a:n=b
   ·subst a;rw[Qx,A] at d;cases d;exact⟨k0,s,l,u⟩
   ·rw[Qc _ _ (Ne.symm a)] at c;rw[QL _ _ a] at d;exact⟨j,c,g,d⟩
  obtain⟨f,G,H,J⟩:=p n j q M S U;obtain⟨y,b1,K,L⟩:=p E Q q N T V;exact h.inj n E f y q G b1 H K J L
theorem HSim.freeze1 {cx:Cx}{F:Nat->Prop}{hp:List (Nat×Blk)}{ρ:Nat->Value}{w:World}(h:HSim cx F hp ρ w){b ver sz:Nat}{es:jVj}
  (v:look hp b=some (.row ver sz es)) :
  HSim cx F ((b,.frozen ver sz es)::hp) ρ w/\Steps1 hp ρ w ((b,.frozen ver sz es)::hp) ρ w/\DR w (MM F ((b,.frozen ver sz es)::hp) ρ) (.lst false sz es) (ρ b):=by
 have m:∀q,Mut ((b,.frozen ver sz es)::hp) ρ q->∃n k,n≠b/\look hp n=some k/\k.live=true/\QX (ρ n)=some q:=by
  rintro q ⟨n,M,g,u,K⟩;by_cases f:n=b
  ·subst f;rw[Qf] at g;cases g;cases u
  ·rw[Qc _ _ (Ne.symm f)] at g;exact⟨n,M,f,g,u,K⟩
 have t:Steps1 hp ρ w ((b,.frozen ver sz es)::hp) ρ w:=by
  refine⟨Ext.refl _ _,fun q _ u=>?_,⟨fun n s g=>?_⟩⟩
  ·obtain⟨n,k,_,o,p,C⟩:=m q u;exact⟨n,k,o,p,C⟩
  ·by_cases f:n=b
   ·subst f;rw[v] at g;cases g;exact⟨_,Qf _ _ _,jLj _,fun _=>rfl⟩
   ·exact⟨s,by rw[Qc _ _ (Ne.symm f)];exact g,jLj _,fun _=>rfl⟩
 have z:DR w (MM F ((b,.frozen ver sz es)::hp) ρ) (.lst false sz es) (ρ b):=by
  obtain⟨o,a,p⟩|⟨r,c,e,cap,o,⟨p,x⟩,C,V,W,L⟩:=h.blk b _ v
  ·rw[o,p];exact .lst false sz [] a 0 0 0 (fun _=>undef) (fun h=>by cases h) (jLj _) (fun h=>absurd rfl h) (fun i e h=>by simp at h) (fun i e j c h=>by simp at h) (fun i e j c h=>by simp at h)
  have l:QX (ρ b)=some r:=by rw[o];exact Q8 x
  have J:r<w.heap.size:=(h.blk b _ v).root_lt rfl l;rw[o];refine .lst false sz es _ cap r 0 (fun n=>c.getD n undef) (fun h=>by cases h) p (fun _=>⟨rfl,?_,J⟩) W ?_ ?_
  ·rintro(X|Y)
   ·exact h.forb r ⟨b,_,v,rfl,l⟩ X
   ·obtain⟨n,k,f,S,T,U⟩:=m r Y;exact f (h.inj n b k _ r S v T rfl U l)
  ·intro i d j a H G;obtain⟨y,E,ho,_⟩:=L i d j a H G;have Z:c.getD (i*sz+j) undef=y:=by simp[Array.getD_eq_getD_getElem?,E]
   simp only[Z];refine⟨?_,ho⟩;simp only[World.cell?,V,Nat.zero_add,Option.isSome_none];simp[E]
  ·intro i d j a H G;obtain⟨y,E,_,hv⟩:=L i d j a H G;have:c.getD (i*sz+j) undef=y:=by simp[Array.getD_eq_getD_getElem?,E]
   show DR w _ a (c.getD (i*sz+j) undef);rw[this];exact t.dr hv
 refine⟨h.step t (fun n M g=>?_) (fun n Q s N q o p O P r1 r2=>?_) (fun q K=>?_),t,z⟩
 ·by_cases f:n=b
  ·subst f;rw[Qf] at g;cases g;exact .inr z
  ·rw[Qc _ _ (Ne.symm f)] at g;exact .inl ⟨g,rfl,fun _ _ _=>rfl⟩
 ·have A:∀n s,look ((b,Blk.frozen ver sz es)::hp) n=some s->s.live=true->look hp n=some s:=by
   intro n s g u;by_cases f:n=b
   ·subst f;rw[Qf] at g;cases g;cases u
   ·rw[Qc _ _ (Ne.symm f)] at g;exact g
  exact h.inj n Q s N q (A n s o O) (A Q N p P) O P r1 r2
 ·obtain⟨n,k,_,o,p,C⟩:=m q K;exact h.forb q ⟨n,k,o,p,C⟩
theorem HSim.renew {cx:Cx}{F:Nat->Prop}{hp:List (Nat×Blk)}{ρ:Nat->Value}{w:World}(h:HSim cx F hp ρ w){b ver sz:Nat}{a:Option Addr}
  (v:look hp b=some (.row ver sz [])) (k:ρ b=.slice a 0 0) :
  HSim cx F ((b,.row (ver+1) sz [])::hp) (VI ρ b (.slice a 0 0)) w/\Steps1 hp ρ w ((b,.row (ver+1) sz [])::hp) (VI ρ b (.slice a 0 0)) w:=by
 have i:∀n,VI ρ b (.slice a 0 0) n=ρ n:=by
  intro n;by_cases c:n=b
  ·subst c;rw[Qx,k]
  ·rw[QL _ _ c]
 have e:∀q,Mut ((b,.row (ver+1) sz [])::hp) (VI ρ b (.slice a 0 0)) q->Mut hp ρ q:=by
  rintro q ⟨n,t,c,o,f⟩;rw[i] at f;by_cases d:n=b
  ·subst d;rw[k,WG] at f;cases f
  ·rw[Qc _ _ (Ne.symm d)] at c;exact⟨n,t,c,o,f⟩
 have j:Steps1 hp ρ w ((b,.row (ver+1) sz [])::hp) (VI ρ b (.slice a 0 0)) w:=by
  refine⟨Ext.refl _ _,fun q _ o=>e q o,⟨fun n p c=>?_⟩⟩;by_cases d:n=b
  ·subst d;rw[v] at c;cases c;exact⟨_,Qf _ _ _,Nat.le_succ _,fun _=>i _⟩
  ·exact⟨p,by rw[Qc _ _ (Ne.symm d)];exact c,jLj _,fun _=>i _⟩
 refine⟨h.step j (fun n t c=>?_) (fun n u p x q r s y z l m=>?_) (fun q f=>h.forb q (e q f)),j⟩
 ·by_cases d:n=b
  ·subst d;rw[Qf] at c;cases c;exact .inr (.inl ⟨rfl,a,Qx _ _ _⟩)
  ·rw[Qc _ _ (Ne.symm d)] at c;exact .inl ⟨c,i _,fun _ _ _=>rfl⟩
 ·rw[i] at l m;by_cases c:n=b
  ·subst c;rw[k,WG] at l;cases l
  ·by_cases g : u=b
   ·subst g;rw[k,WG] at m;cases m
   ·rw[Qc _ _ (Ne.symm c)] at r;rw[Qc _ _ (Ne.symm g)] at s;exact h.inj n u p x q r s y z l m
theorem W6 {cx:Cx}{F:Nat->Prop}{hp a : List (Nat×Blk)}{ρ:Nat->Value}{w:World}(c:∀b,look a b=look hp b)(h:HSim cx F hp ρ w) :
  HSim cx F a ρ w/\Steps1 hp ρ w a ρ w:=by
 have f:Steps1 hp ρ w a ρ w :=
  ⟨Ext.refl _ _,fun r _ ⟨b,k,d,e,g⟩=>⟨b,k,(c b) ▸ d,e,g⟩,⟨fun b k i=>⟨k,(c b).trans i,jLj _,fun _=>rfl⟩⟩⟩
 exact⟨h.step f (fun b k i=>.inl ⟨(c b) ▸ i,rfl,fun _ _ _=>rfl⟩) (fun b b' k j r d e=>h.inj b b' k j r ((c b) ▸ d) ((c b') ▸ e))
  (fun r ⟨b,k,d,e,g⟩=>h.forb r ⟨b,k,(c b) ▸ d,e,g⟩),f⟩
mutual
theorem QaZ (w:World)(M:Nat->Prop):∀(x:D) (v v' : Value),x.toV=some v'->DR w M x v->v=v'
 | .v x,v,v',h,hr=>by simp only[D.toV,jIj] at h;subst h;cases hr;rfl
 | .agg cs,v,v',h,hr=>by
  simp only[D.toV] at h;split at h<;>simp only[jIj,reduceCtorEq] at h;rename_i l hl;subst h;cases hr with
  | agg _ ys hle hh=>rw[zJ w M cs ys l hl hle hh]
 | .tup cs,v,v',h,hr=>by
  simp only[D.toV] at h;split at h<;>simp only[jIj,reduceCtorEq] at h;rename_i l hl;subst h;cases hr with
  | tup _ ys hle hh=>rw[zJ w M cs ys l hl hle hh]
 | .lst _ _ _,v,v',h,hr=>by simp[D.toV] at h
 | .fn _ _ _,v,v',h,hr=>by simp[D.toV] at h
theorem zJ (w:World)(M:Nat->Prop):∀(cs:jVj) (ys l:List Value),toVs cs=some l->cs.length=ys.length ->
  (∀(i:Nat) (c:D) (y:Value),cs[i]?=some c->ys[i]?=some y->DR w M c y)->ys=l
 | [],ys,l,h,hl,_=>by simp only[toVs,jIj] at h;subst h;cases ys<;>simp_all
 | x::cs,ys,l,h,hl,hh=>by
  simp only[toVs] at h;split at h<;>simp only[jIj,reduceCtorEq] at h;rename_i y1 l1 h1 h2;subst h;cases ys with
  | nil=>simp at hl
  | cons y ys =>
   rw[QaZ w M x y y1 h1 (hh 0 x y rfl rfl),zJ w M cs ys l1 h2 (by simpa using hl) (fun i c z hc hz=>hh (i+1) c z (by simpa using hc) (by simpa using hz))]
end
mutual
theorem Ku (w:World)(M:Nat->Prop)(hp:List (Nat×Blk))(ρ:Nat->Value):∀(x:AV) (v:Value) (y:D),x.toD=some y->VR w M hp ρ x v->DR w M y v
 | .d x,v,y,h,hr=>by simp only[AV.toD,jIj] at h;subst h;cases hr;assumption
 | .agg cs,v,y,h,hr=>by
  simp only[AV.toD] at h;split at h<;>simp only[jIj,reduceCtorEq] at h;rename_i l hl;subst h;cases hr with
  | agg _ ys hle hh =>
   obtain⟨h1,h2⟩:=J0 w M hp ρ cs ys l hl hle hh;exact .agg _ _ h1 h2
 | .tup cs,v,y,h,hr=>by
  simp only[AV.toD] at h;split at h<;>simp only[jIj,reduceCtorEq] at h;rename_i l hl;subst h;cases hr with
  | tup _ ys hle hh =>
   obtain⟨h1,h2⟩:=J0 w M hp ρ cs ys l hl hle hh;exact .tup _ _ h1 h2
 | .fn f a b,v,y,h,hr=>by
  simp only[AV.toD] at h;split at h<;>simp only[jIj,reduceCtorEq] at h;rename_i x1 y1 hx hy;subst h;cases hr with
  | fn _ _ _ xs ys hl hm hh kk =>
   obtain⟨h1,h2⟩:=J0 w M hp ρ a xs x1 hx hl hh;obtain⟨h3,h4⟩:=J0 w M hp ρ b ys y1 hy hm kk;exact .fn _ _ _ _ _ h1 h3 h2 h4
 | .dptr _ _,v,y,h,hr=>by simp[AV.toD] at h
 | .ptr _ _ _ _ _,v,y,h,hr=>by simp[AV.toD] at h
 | .own _ _,v,y,h,hr=>by simp[AV.toD] at h
 | .sub _ _ _ _ _,v,y,h,hr=>by simp[AV.toD] at h
 | .junk,v,y,h,hr=>by simp[AV.toD] at h
theorem J0 (w:World)(M:Nat->Prop)(hp:List (Nat×Blk))(ρ:Nat->Value):∀(cs:List AV) (ys:List Value) (l:jVj),Ju cs=some l->cs.length=ys.length ->
  (∀(i:Nat) (c:AV) (y:Value),cs[i]?=some c->ys[i]?=some y->VR w M hp ρ c y) ->
  l.length=ys.length/\∀(i:Nat) (c:D) (y:Value),l[i]?=some c->ys[i]?=some y->DR w M c y
 | [],ys,l,h,hl,_=>by simp only[Ju,jIj] at h;subst h;cases ys<;>simp_all
 | x::cs,ys,l,h,hl,hh=>by
  simp only[Ju] at h;split at h<;>simp only[jIj,reduceCtorEq] at h;rename_i y1 l1 h1 h2;subst h;cases ys with
  | nil=>simp at hl
  | cons y ys =>
   obtain⟨g1,g2⟩:=J0 w M hp ρ cs ys l1 h2 (by simpa using hl) (fun i c z hc hz=>hh (i+1) c z (by simpa using hc) (by simpa using hz));refine⟨by simpa using g1,fun i c z hc hz=>?_⟩;cases i with
   | zero=>simp only[jzj,jIj] at hc hz;subst hc;subst hz;exact Ku w M hp ρ x y y1 h1 (hh 0 x y rfl rfl)
   | succ i=>exact g2 i c z (by simpa using hc) (by simpa using hz)
end
theorem Ug {w:World}{M:Nat->Prop}{hp:List (Nat×Blk)}{ρ:Nat->Value}{x:AV}{v:Value}(h:VR w M hp ρ x v):VR w M hp ρ x.norm v:=by
 unfold AV.norm;split
 ·rename_i y a;exact .d _ _ (Ku w M hp ρ x v y a h)
 ·exact h
theorem JZ {w:World}{M:Nat->Prop}{hp:List (Nat×Blk)}{ρ:Nat->Value}{x:AV}{v b : Value}(a:x.toV=some b)(h:VR w M hp ρ x v):v=b:=by
 unfold AV.toV at a;split at a
 ·rename_i y c;exact QaZ w M y v b a (Ku w M hp ρ x v y c h)
 ·cases a
theorem qS (w:World)(M:Nat->Prop)(v:Value):DR w M (J8 v) v:=by
 cases v with
 | slice a n c =>
  cases a with
  | none =>
   simp only[J8];split
   ·rename_i d;simp only[jAj] at d;have e:=jqj d.1;have g:=jqj d.2;subst e;subst g;exact .lst true 0 [] none 0 0 0 (fun _=>undef) (fun _=>rfl) (jLj _) (fun h=>absurd rfl h) (by simp) (by simp) (by simp)
   ·exact .v _
  | some a=>exact .v _
 | func f a b =>
  simp only[J8];split
  ·rename_i i d;have e:a=#[]:=by simpa using i
   have g:b=#[]:=by simpa using d
   subst e;subst g;exact .fn f [] [] [] [] rfl rfl (by simp) (by simp)
  ·exact .v _
 | _=>exact .v _
theorem QhK (w:World)(M:Nat->Prop)(v:Value):DR w M (ofV v) v:=by
 unfold ofV;split
 ·rename_i cs;have:=DR.agg (w:=w) (M:=M) (cs.toList.map J8) cs.toList (by simp) (fun i c y hc a=>by simp only[List.getElem?_map] at hc;rw[a] at hc;simp only[Option.map_some,jIj] at hc;subst hc;exact qS _ _ _)
  simpa using this
 ·exact qS _ _ _
theorem G7 (w:World)(M:Nat->Prop)(hp:List (Nat×Blk))(ρ:Nat->Value)(v:Value):VR w M hp ρ (.d (ofV v)) v:=.d _ _ (QhK w M v)
theorem uk {x:AV}{p:D×Bool}(h:refB (.box x)=some p):x.toD=some p.1/\fzOk p.1=true/\p.2=true:=by
 simp only[refB] at h;split at h;case h_2=>cases h
 rename_i y b;split at h;case h_2=>cases h
 rename_i a;simp only[jIj] at h;subst h;exact⟨b,a,rfl⟩
theorem Qjq {w:World}{M:Nat->Prop}{hp:List (Nat×Blk)}{ρ:Nat->Value}{b:Nat}{x:AV}{y:D}(h:BlkR w M hp ρ b (.box x))(t:x.toD=some y)(n:fzOk y=true) :
  ∃r,ρ b=.pointer (some ⟨r,0,none⟩)/\∀(j:Nat) (c:D),y.cells[j]?=some c->∃z,w.cell? ⟨r,0+j,none⟩=some z/\DR w M c z:=by
 obtain⟨r,e,v,cs,p,q,u,s⟩:=h;have m:=Ku w M hp ρ x v y t s;have a:∀k,w.cell? ⟨r,k,none⟩=v.cells[k]?:=fun k=>by simp[World.cell?,q]
 refine⟨r,p,fun j c d=>?_⟩;rw[Nat.zero_add,a];have single:∀(hc:v.cells=#[v]) (o:y.cells=[y]),∃z,v.cells[j]?=some z/\DR w M c z:=by
  intro hc o;rw[o] at d;cases j with
  | zero =>
   simp only[jzj,jIj] at d;subst d;exact⟨v,by rw[hc];rfl,m⟩
  | succ j=>simp at d
 cases m with
 | v =>
  have:v.cells=#[v]:=by have i : one v=true:=n;cases v<;>first|rfl|cases i
  exact single this rfl
 | agg l ys hl hh =>
  have f : l[j]?=some c:=d;have g:j<ys.length:=by rw[<-hl];exact(jGj f).1
  exact⟨ys[j],by simp[Value.cells,g],hh j c _ f (by simp[g])⟩
 | tup=>cases n
 | lst=>exact single rfl rfl
 | fn=>exact single rfl rfl
 | ref=>exact single rfl rfl
 | nan=>exact single rfl rfl
 | mp=>exact single rfl rfl
theorem HSim.box_fz {cx:Cx}{F:Nat->Prop}{hp:List (Nat×Blk)}{ρ:Nat->Value}{w:World}(h:HSim cx F hp ρ w){b:Nat}{x:AV}{y:D}(p:look hp b=some (.box x))(A:x.toD=some y)(S:fzOk y=true) :
  HSim cx F ((b,.fbox y)::hp) ρ w/\Steps1 hp ρ w ((b,.fbox y)::hp) ρ w:=by
 have f:∀q,Mut ((b,.fbox y)::hp) ρ q->∃n k,n≠b/\look hp n=some k/\k.live=true/\QX (ρ n)=some q:=by
  rintro q ⟨n,E,d,o,v⟩;by_cases a:n=b
  ·subst a;rw[Qf] at d;cases d;cases o
  ·rw[Qc _ _ (Ne.symm a)] at d;exact⟨n,E,a,d,o,v⟩
 have m:Steps1 hp ρ w ((b,.fbox y)::hp) ρ w:=by
  refine⟨Ext.refl _ _,fun q _ o=>?_,⟨fun n g d=>?_⟩⟩
  ·obtain⟨n,k,_,i,l,t⟩:=f q o;exact⟨n,k,i,l,t⟩
  ·by_cases a:n=b
   ·subst a;rw[p] at d;cases d;exact⟨_,Qf _ _ _,jLj _,fun _=>rfl⟩
   ·exact⟨g,by rw[Qc _ _ (Ne.symm a)];exact d,jLj _,fun _=>rfl⟩
 have O:BlkR w (MM F ((b,.fbox y)::hp) ρ) ((b,.fbox y)::hp) ρ b (.fbox y):=by
  obtain⟨r,i,l⟩:=Qjq (h.blk b _ p) A S;have e:QX (ρ b)=some r:=by rw[i];rfl
  have u:r<w.heap.size:=(h.blk b _ p).root_lt rfl e;refine⟨r,i,?_,u,fun j c T=>?_⟩
  ·rintro(P|Q)
   ·exact h.forb r ⟨b,_,p,rfl,e⟩ P
   ·obtain⟨n,k,a,L,M,N⟩:=f r Q;exact a (h.inj n b k _ r L p M rfl N e)
  ·obtain⟨z,U,C⟩:=l j c T;exact⟨z,U,m.dr C⟩
 refine⟨h.step m (fun n E d=>?_) (fun n K g G q i l H J V W=>?_) (fun q v=>?_),m⟩
 ·by_cases a:n=b
  ·subst a;rw[Qf] at d;cases d;exact .inr O
  ·rw[Qc _ _ (Ne.symm a)] at d;exact .inl ⟨d,rfl,fun _ _ _=>rfl⟩
 ·have s:∀n g,look ((b,Blk.fbox y)::hp) n=some g->g.live=true->look hp n=some g:=by
   intro n g d o;by_cases a:n=b
   ·subst a;rw[Qf] at d;cases d;cases o
   ·rw[Qc _ _ (Ne.symm a)] at d;exact d
  exact h.inj n K g G q (s n g i H) (s K G l J) H J V W
 ·obtain⟨n,k,_,i,l,t⟩:=f q v;exact h.forb q ⟨n,k,i,l,t⟩
theorem HSim.kill {cx:Cx}{F:Nat->Prop}{hp:List (Nat×Blk)}{ρ:Nat->Value}{w:World}(h:HSim cx F hp ρ w){b:Nat}{es:jVj}(p:look hp b=some (.mp es)) :
  HSim cx F ((b,.dead)::hp) ρ w/\Steps1 hp ρ w ((b,.dead)::hp) ρ w/\∀r,QX (ρ b)=some r->¬MM F ((b,.dead)::hp) ρ r:=by
 have d:∀q,Mut ((b,.dead)::hp) ρ q->∃n k,n≠b/\look hp n=some k/\k.live=true/\QX (ρ n)=some q:=by
  rintro q ⟨n,t,c,g,s⟩;by_cases a:n=b
  ·subst a;rw[Qf] at c;cases c;cases g
  ·rw[Qc _ _ (Ne.symm a)] at c;exact⟨n,t,a,c,g,s⟩
 have l:Steps1 hp ρ w ((b,.dead)::hp) ρ w:=by
  refine⟨Ext.refl _ _,fun q _ g=>?_,⟨fun n f c=>?_⟩⟩
  ·obtain⟨n,k,_,i,j,o⟩:=d q g;exact⟨n,k,i,j,o⟩
  ·by_cases a:n=b
   ·subst a;rw[p] at c;cases c;exact⟨_,Qf _ _ _,jLj _,fun _=>rfl⟩
   ·exact⟨f,by rw[Qc _ _ (Ne.symm a)];exact c,jLj _,fun _=>rfl⟩
 refine⟨h.step l (fun n t c=>?_) (fun n y f u q i j v x H J=>?_) (fun q s=>?_),l,?_⟩
 ·by_cases a:n=b
  ·subst a;rw[Qf] at c;cases c;exact .inr trivial
  ·rw[Qc _ _ (Ne.symm a)] at c;exact .inl ⟨c,rfl,fun _ _ _=>rfl⟩
 ·have m:∀n f,look ((b,Blk.dead)::hp) n=some f->f.live=true->look hp n=some f:=by
   intro n f c g;by_cases a:n=b
   ·subst a;rw[Qf] at c;cases c;cases g
   ·rw[Qc _ _ (Ne.symm a)] at c;exact c
  exact h.inj n y f u q (m n f i v) (m y u j x) v x H J
 ·obtain⟨n,k,_,i,j,o⟩:=d q s;exact h.forb q ⟨n,k,i,j,o⟩
 ·rintro r e (E|G)
  ·exact h.forb r ⟨b,_,p,rfl,e⟩ E
  ·obtain⟨n,k,a,z,A,C⟩:=d r G;exact a (h.inj n b k _ r z p A rfl C e)
theorem Wo (hp:List (Nat×Blk))(l:List Nat)(b:Nat):look (Qd hp l++hp) b=look hp b \/
  (∃ver sz es,look hp b=some (.row ver sz es)/\look (Qd hp l++hp) b=some (.frozen ver sz es)) \/
  (b∈l/\∃x y,look hp b=some (.box x)/\x.toD=some y/\fzOk y=true/\look (Qd hp l++hp) b=some (.fbox y)) \/
  (∃es,look hp b=some (.mp es)/\look (Qd hp l++hp) b=some .dead):=by
 induction l with
 | nil=>exact .inl rfl
 | cons c l ih =>
  have a : look (Qd hp l++hp) b=look hp b\/(∃ver sz es,look hp b=some (.row ver sz es)/\look (Qd hp l++hp) b=some (.frozen ver sz es)) \/
    (b∈c::l/\∃x y,look hp b=some (.box x)/\x.toD=some y/\fzOk y=true/\look (Qd hp l++hp) b=some (.fbox y))\/(∃es,look hp b=some (.mp es)/\look (Qd hp l++hp) b=some .dead):=by
   obtain h|h|⟨h,d⟩|h:=ih
   ·exact .inl h
   ·exact .inr (.inl h)
   ·exact .inr (.inr (.inl ⟨jmj _ h,d⟩))
   ·exact .inr (.inr (.inr h))
  simp only[Qd];split
  ·rename_i ver sz es hc;rw[List.cons_append];by_cases h:c=b
   ·subst h;exact .inr (.inl ⟨ver,sz,es,hc,Qf _ _ _⟩)
   ·rw[Qc _ _ h];exact a
  ·rename_i x hc;split
   ·rename_i y _ e;obtain⟨f,g,_⟩:=uk e;rw[List.cons_append];by_cases h:c=b
    ·subst h;exact .inr (.inr (.inl ⟨jMj,x,y,hc,f,g,Qf _ _ _⟩))
    ·rw[Qc _ _ h];exact a
   ·exact a
  ·rename_i es hc;rw[List.cons_append];by_cases h:c=b
   ·subst h;exact .inr (.inr (.inr ⟨es,hc,Qf _ _ _⟩))
   ·rw[Qc _ _ h];exact a
  ·exact a
theorem QaL (hp:List (Nat×Blk))(l:List Nat)(b:Nat)(d:b∈l){ver sz:Nat}{es:jVj}(e:look hp b=some (.row ver sz es)) :
  look (Qd hp l++hp) b=some (.frozen ver sz es):=by
 induction l with
 | nil=>simp at d
 | cons c l ih =>
  simp only[Qd];by_cases h:c=b
  ·subst h;rw[e];exact Qf _ _ _
  ·have a : b∈l:=by simpa[Ne.symm h] using d
   split
   ·rw[List.cons_append,Qc _ _ h];exact ih a
   ·split
    ·rw[List.cons_append,Qc _ _ h];exact ih a
    ·exact ih a
   ·rw[List.cons_append,Qc _ _ h];exact ih a
   ·exact ih a
theorem uQ (hp:List (Nat×Blk))(l:List Nat)(b:Nat)(e:b∈l){x:AV}{p:D×Bool}(f:look hp b=some (.box x))(d:refB (.box x)=some p) :
  look (Qd hp l++hp) b=some (.fbox p.1):=by
 induction l with
 | nil=>simp at e
 | cons c l ih =>
  simp only[Qd];by_cases h:c=b
  ·subst h;rw[f];simp only[d];exact Qf _ _ _
  ·have a : b∈l:=by simpa[Ne.symm h] using e
   split
   ·rw[List.cons_append,Qc _ _ h];exact ih a
   ·split
    ·rw[List.cons_append,Qc _ _ h];exact ih a
    ·exact ih a
   ·rw[List.cons_append,Qc _ _ h];exact ih a
   ·exact ih a
theorem uP (hp:List (Nat×Blk))(l:List Nat)(b:Nat)(d:b∈l){es:jVj}(e:look hp b=some (.mp es)):look (Qd hp l++hp) b=some .dead:=by
 induction l with
 | nil=>simp at d
 | cons c l ih =>
  simp only[Qd];by_cases h:c=b
  ·subst h;rw[e];exact Qf _ _ _
  ·have a : b∈l:=by simpa[Ne.symm h] using d
   split
   ·rw[List.cons_append,Qc _ _ h];exact ih a
   ·split
    ·rw[List.cons_append,Qc _ _ h];exact ih a
    ·exact ih a
   ·rw[List.cons_append,Qc _ _ h];exact ih a
   ·exact ih a
theorem HSim.freeze {cx:Cx}{F:Nat->Prop}{hp:List (Nat×Blk)}{ρ:Nat->Value}{w:World}(h:HSim cx F hp ρ w)(l:List Nat) :
  HSim cx F (Qd hp l++hp) ρ w/\Steps1 hp ρ w (Qd hp l++hp) ρ w:=by
 induction l with
 | nil=>exact⟨h,Steps1.refl _ _ _⟩
 | cons b l ih =>
  simp only[Qd];split
  ·rename_i ver sz es f;rw[List.cons_append];obtain⟨d,e⟩:=ih;obtain m|⟨ver',t,q,a,k⟩|⟨_,_,_,a,_⟩|⟨_,a,_⟩:=Wo hp l b
   ·have n:=m.trans f;obtain⟨g,i,_⟩:=d.freeze1 n;exact⟨g,e.trans i⟩
   ·rw[f] at a;cases a;have j:∀c,look ((b,Blk.frozen ver sz es)::(Qd hp l++hp)) c=look (Qd hp l++hp) c:=by
     intro c;by_cases hc:b=c
     ·subst hc;rw[Qf,k]
     ·rw[Qc _ _ hc]
    obtain⟨g,i⟩:=W6 j d;exact⟨g,e.trans i⟩
   ·rw[f] at a;cases a
   ·rw[f] at a;cases a
  ·rename_i x f;split
   ·rename_i y _ r;obtain⟨p,s,_⟩:=uk r;rw[List.cons_append];obtain⟨d,e⟩:=ih;obtain m|⟨_,_,_,a,_⟩|⟨_,v,z,a,o,u,k⟩|⟨_,a,_⟩:=Wo hp l b
    ·obtain⟨g,i⟩:=d.box_fz (m.trans f) p s;exact⟨g,e.trans i⟩
    ·rw[f] at a;cases a
    ·rw[f] at a;cases a;rw[p] at o;cases o;have j:∀c,look ((b,Blk.fbox y)::(Qd hp l++hp)) c=look (Qd hp l++hp) c:=by
      intro c;by_cases hc:b=c
      ·subst hc;rw[Qf,k]
      ·rw[Qc _ _ hc]
     obtain⟨g,i⟩:=W6 j d;exact⟨g,e.trans i⟩
    ·rw[f] at a;cases a
   ·exact ih
  ·rename_i es f;rw[List.cons_append];obtain⟨d,e⟩:=ih;obtain m|⟨_,_,_,a,_⟩|⟨_,_,_,a,_⟩|⟨_,a,k⟩:=Wo hp l b
   ·obtain⟨g,i,_⟩:=d.kill (m.trans f);exact⟨g,e.trans i⟩
   ·rw[f] at a;cases a
   ·rw[f] at a;cases a
   ·have j:∀c,look ((b,Blk.dead)::(Qd hp l++hp)) c=look (Qd hp l++hp) c:=by
     intro c;by_cases hc:b=c
     ·subst hc;rw[Qf,k]
     ·rw[Qc _ _ hc]
    obtain⟨g,i⟩:=W6 j d;exact⟨g,e.trans i⟩
  ·exact ih
theorem HSim.map_dat {cx:Cx}{F:Nat->Prop}{hp:List (Nat×Blk)}{ρ:Nat->Value}{w:World}(h:HSim cx F hp ρ w)(fz:List Nat){b:Nat}{es:jVj}(f:look hp b=some (.mp es))(z:b∈fz) :
  DR w (MM F (Qd hp fz++hp) ρ) (.mp es) (ρ b):=by
 obtain⟨A,m⟩:=h.freeze fz;obtain⟨r,s,c,o,u,x⟩:=h.blk b _ f;have a:QX (ρ b)=some r:=by rw[o];rfl
 have p:=uP hp fz b z f;rw[o];refine MR.dr (x.imp fun d v j=>m.dr j) ?_ u;rintro(y|⟨n,k,e,i,t⟩)
 ·exact h.forb r ⟨b,_,f,rfl,a⟩ y
 ·obtain q|⟨_,_,_,_,g⟩|⟨_,_,_,_,_,_,g⟩|⟨_,_,g⟩:=Wo hp fz n
  ·rw[q] at e;have l:n=b:=h.inj n b k _ r e f i rfl t a;subst l;rw[q,f] at p;cases p
  ·rw[g] at e;cases e;cases i
  ·rw[g] at e;cases e;cases i
  ·rw[g] at e;cases e;cases i
mutual
theorem Z8 {cx:Cx}{F:Nat->Prop}{hp:List (Nat×Blk)}{ρ:Nat->Value}{w:World}(h:HSim cx F hp ρ w)(fz:List Nat) :
  ∀(x:AV) (v:Value) (y:D) (fs:List Nat),x.toDH hp=some (y,fs)->(∀b,b∈fs->b∈fz)->VR w (MM F hp ρ) hp ρ x v ->
   DR w (MM F (Qd hp fz++hp) ρ) y v
 | .d x,v,y,fs,hx,_,hr=>by simp only[AV.toDH,jIj,jPj] at hx;obtain⟨rfl,rfl⟩:=hx;cases hr;rename_i hr;exact(h.freeze fz).2.dr hr
 | .agg cs,v,y,fs,hx,hf,hr=>by
  simp only[AV.toDH] at hx;split at hx<;>simp only[jIj,reduceCtorEq,jPj] at hx;rename_i l fs' hl;obtain⟨rfl,rfl⟩:=hx;cases hr with
  | agg _ ys hle hh =>
   obtain⟨h1,h2⟩:=Yv h fz cs ys l fs' hl hf hle hh;exact .agg _ _ h1 h2
 | .tup cs,v,y,fs,hx,hf,hr=>by
  simp only[AV.toDH] at hx;split at hx<;>simp only[jIj,reduceCtorEq,jPj] at hx;rename_i l fs' hl;obtain⟨rfl,rfl⟩:=hx;cases hr with
  | tup _ ys hle hh =>
   obtain⟨h1,h2⟩:=Yv h fz cs ys l fs' hl hf hle hh;exact .tup _ _ h1 h2
 | .fn f a b,v,y,fs,hx,hf,hr=>by
  simp only[AV.toDH] at hx;split at hx<;>simp only[jIj,reduceCtorEq,jPj] at hx;rename_i x1 f1 y1 f2 hx1 hy1;obtain⟨rfl,rfl⟩:=hx;cases hr with
  | fn _ _ _ xs ys hl hm hh kk =>
   obtain⟨h1,h2⟩:=Yv h fz a xs x1 f1 hx1 (fun b hb=>hf b (List.mem_append.2 (.inl hb))) hl hh;obtain⟨h3,h4⟩:=Yv h fz b ys y1 f2 hy1 (fun b hb=>hf b (List.mem_append.2 (.inr hb))) hm kk;exact .fn _ _ _ _ _ h1 h3 h2 h4
 | .own b ver,v,y,fs,hx,hf,hr=>by
  simp only[AV.toDH] at hx;have hst:=(h.freeze fz).2;have hs:=(h.freeze fz).1;cases hr with
  | own _ _ k _ hb hv ho hy =>
   rw[hb] at hx;cases k with
   | box x=>simp at hx
   | loop _ _ _ _ _ _=>simp at hx
   | mp es =>
    simp only at hx;split at hx<;>simp only[jIj,reduceCtorEq,jPj] at hx;rename_i hbeq;obtain⟨rfl,rfl⟩:=hx;rw[hy (jqj hbeq)];exact h.map_dat fz hb (hf b (by simp))
   | it _ _=>simp at hx
   | fbox _=>simp at hx
   | left _=>simp at hx
   | dead=>simp at hx
   | row ver' sz es =>
    simp only at hx;split at hx<;>simp only[jIj,reduceCtorEq,jPj] at hx;rename_i hbeq;obtain⟨rfl,rfl⟩:=hx;rw[hy (jqj hbeq)];have:=QaL hp fz b (hf b (by simp)) hb;exact hs.blk b _ this
   | frozen ver' sz es =>
    simp only at hx;split at hx<;>simp only[jIj,reduceCtorEq,jPj] at hx;rename_i hbeq;obtain⟨rfl,rfl⟩:=hx;rw[hy (jqj hbeq)];have:=h.blk b _ hb;exact hst.dr this
   | virt ver' sz es =>
    simp only at hx;split at hx<;>simp only[jIj,reduceCtorEq,jPj] at hx;rename_i hbeq;obtain⟨rfl,rfl⟩:=hx;rw[hy (jqj hbeq)];have:=h.blk b _ hb;exact hst.dr this
 | .dptr _ _,v,y,fs,hx,_,hr=>by
  simp only[AV.toDH,jIj,jPj] at hx;obtain⟨rfl,rfl⟩:=hx;cases hr with
  | dptr _ _ blk o hd=>exact((h.freeze fz).2.dat hd).ref _
 | .ptr b ver sz i off,v,y,fs,hx,hf,hr=>by
  have hst:=(h.freeze fz).2;have hs:=(h.freeze fz).1;simp only[AV.toDH] at hx;split at hx;case h_2=>cases hx
  rename_i hc;simp only[jAj] at hc;have e1:=jqj hc.1.1;have e2:=jqj hc.1.2;have e3:=jqj hc.2;subst e1;subst e2;subst e3;split at hx;case h_2=>cases hx
  rename_i k hk;cases hr with
  | ptr _ _ _ _ _ k' _ hb hv ho hh =>
   rw[hk] at hb;cases hb;split at hx
   ·rename_i x hrb;simp only[jIj,jPj] at hx;obtain⟨rfl,rfl⟩:=hx;cases k with
    | box x0 =>
     have hm:=uQ hp fz b (hf b (by simp)) hk hrb;obtain⟨r,hr1,hr2⟩:=hs.blk b _ hm;obtain⟨r',hr3,rfl⟩:=hh rfl;rw[hr1] at hr3;simp only[QX,jIj] at hr3;subst hr3;exact hr2.ref off
    | fbox x0=>simp[refB] at hrb
    | _=>simp[refB] at hrb
   ·rename_i x hrb;simp only[jIj,jPj] at hx;obtain⟨rfl,rfl⟩:=hx;cases k with
    | fbox x0 =>
     simp only[refB,jIj,jPj,and_true] at hrb;subst hrb;obtain⟨r,hr1,hr2⟩:=h.blk b _ hk;obtain⟨r',hr3,rfl⟩:=hh rfl;rw[hr1] at hr3;simp only[QX,jIj] at hr3;subst hr3;exact(hst.dat hr2).ref off
    | box x0 =>
     have:=(uk hrb).2.2;cases this
    | _=>simp[refB] at hrb
   ·cases hx
 | .sub _ _ _ _ _,v,y,fs,hx,_,hr=>by simp[AV.toDH] at hx
 | .junk,v,y,fs,hx,_,hr=>by simp[AV.toDH] at hx
theorem Yv {cx:Cx}{F:Nat->Prop}{hp:List (Nat×Blk)}{ρ:Nat->Value}{w:World}(h:HSim cx F hp ρ w)(fz:List Nat) :
  ∀(cs:List AV) (ys:List Value) (l:jVj) (fs:List Nat),Kr hp cs=some (l,fs)->(∀b,b∈fs->b∈fz)->cs.length=ys.length ->
  (∀(i:Nat) (c:AV) (y:Value),cs[i]?=some c->ys[i]?=some y->VR w (MM F hp ρ) hp ρ c y) ->
  l.length=ys.length/\∀(i:Nat) (c:D) (y:Value),l[i]?=some c->ys[i]?=some y->DR w (MM F (Qd hp fz++hp) ρ) c y
 | [],ys,l,fs,hx,_,hl,_=>by simp only[Kr,jIj,jPj] at hx;obtain⟨rfl,rfl⟩:=hx;cases ys<;>simp_all
 | x::cs,ys,l,fs,hx,hf,hl,hh=>by
  simp only[Kr] at hx;split at hx<;>simp only[jIj,reduceCtorEq,jPj] at hx;rename_i y1 f1 l1 f2 h1 h2;obtain⟨rfl,rfl⟩:=hx;cases ys with
  | nil=>simp at hl
  | cons y ys =>
   obtain⟨g1,g2⟩:=Yv h fz cs ys l1 f2 h2 (fun b hb=>hf b (List.mem_append.2 (.inr hb))) (by simpa using hl) (fun i c z hc hz=>hh (i+1) c z (by simpa using hc) (by simpa using hz));refine⟨by simpa using g1,fun i c z hc hz=>?_⟩;cases i with
   | zero =>
    simp only[jzj,jIj] at hc hz;subst hc;subst hz;exact Z8 h fz x y y1 f1 h1 (fun b hb=>hf b (List.mem_append.2 (.inl hb))) (hh 0 x y rfl rfl)
   | succ i=>exact g2 i c z (by simpa using hc) (by simpa using hz)
end
theorem ZY {a:Type}(l:List a)(i:Nat):nth l i=l[i]?:=by
 induction l generalizing i with
 | nil=>rfl
 | cons x l ih=>cases i with
  | zero=>rfl
  | succ i=>simpa[nth] using ih i
theorem VP {b:Type}{P:Program}{s:Sem b}{a:b}(h:Zu P s=some a)(w:World):s.run P w=.ok a w:=by
 induction s generalizing w with
 | pure x=>simp only[Zu,jIj] at h;subst h;rfl
 | program k ih=>simp only[Zu] at h;exact ih _ h w
 | mark m k ih=>simp only[Zu] at h;exact ih h w
 | _=>simp[Zu] at h
def OpOK (cx:Cx)(F:Nat->Prop)(hp:List (Nat×Blk))(ρ:Nat->Value)(w:World)(up:List (Nat×Blk))(x:AV)(v:Value)(w' : World):Prop :=
 ∃ρ',HSim cx F (up++hp) ρ' w'/\Steps1 hp ρ w (up++hp) ρ' w'/\VR w' (MM F (up++hp) ρ') (up++hp) ρ' x v
theorem OpOK.quiet {cx:Cx}{F:Nat->Prop}{hp:List (Nat×Blk)}{ρ:Nat->Value}{w:World}(h:HSim cx F hp ρ w){x:AV}{v:Value}(a:VR w (MM F hp ρ) hp ρ x v) :
  OpOK cx F hp ρ w [] x v w:=⟨ρ,h,Steps1.refl _ _ _,a⟩
theorem OpOK.frz {cx:Cx}{F:Nat->Prop}{hp:List (Nat×Blk)}{ρ:Nat->Value}{w:World}(h:HSim cx F hp ρ w)(a:List Nat){x:AV}{v:Value}
  (b:VR w (MM F (Qd hp a++hp) ρ) (Qd hp a++hp) ρ x v):OpOK cx F hp ρ w (Qd hp a) x v w :=
 ⟨ρ,(h.freeze a).1,(h.freeze a).2,b⟩
def Good (cx:Cx)(F:Nat->Prop)(hp:List (Nat×Blk))(ρ:Nat->Value)(w:World)(r:R)(s:Sem Next):Prop :=
 ∃v w',(s.run cx.P w=.ok (.value v) w'\/(s.run cx.P w=.ok .skip w'/\v=undef))/\OpOK cx F hp ρ w r.up r.val v w'
theorem Good.quiet {cx:Cx}{F:Nat->Prop}{hp:List (Nat×Blk)}{ρ:Nat->Value}{w:World}(h:HSim cx F hp ρ w){x:AV}{v:Value}{ob:List Prop}{orc:List Orc}{s:Sem Next}
  (a:s.run cx.P w=.ok (.value v) w) (b:VR w (MM F hp ρ) hp ρ x v):Good cx F hp ρ w { val:=x,up:=[],ob,orc } s :=
 ⟨v,w,.inl a,OpOK.quiet h b⟩
theorem Uf {v:Value}(h:one v=true):v.cells=#[v]/\v.oneCell'=true:=by cases v<;>first|exact⟨rfl,rfl⟩|cases h
theorem Jb {w:World}{M:Nat->Prop}{hp:List (Nat×Blk)}{ρ:Nat->Value}{x:AV}{v:Value}(a:x.isOne=true)(h:VR w M hp ρ x v):one v=true:=by
 cases h with
 | d x y h =>
  cases h with
  | v y=>exact a
  | agg=>cases a
  | tup=>cases a
  | lst=>rfl
  | fn=>rfl
  | ref=>rfl
  | nan=>rfl
  | mp=>rfl
 | agg=>cases a
 | tup=>cases a
 | dptr=>rfl
 | ptr _ _ _ _ _ _ _ _ _ ho=>exact ho
 | own _ _ _ _ _ _ ho=>exact ho
 | sub _ _ _ _ _ _ _ _ _ ho=>exact ho
 | fn=>rfl
 | junk=>cases a
theorem Yi {l:List AV}(h:Vw l=true){j:Nat}{a:AV}(b:l[j]?=some a):a.isOne=true:=by
 induction l generalizing j with
 | nil=>simp at b
 | cons x l ih =>
  simp only[Vw,jAj] at h;cases j with
  | zero=>simp only[jzj,jIj] at b;subst b;exact h.1
  | succ j=>exact ih h.2 (by simpa using b)
theorem Yp {w:World}{M:Nat->Prop}{hp:List (Nat×Blk)}{ρ:Nat->Value}{x:AV}{v:Value}{cs:List AV}(b:x.cells=some cs)(h:VR w M hp ρ x v) :
  v.cells.size=cs.length/\Vw cs=true/\∀(j:Nat) (a:AV),cs[j]?=some a->∃y,v.cells[j]?=some y/\VR w M hp ρ a y:=by
 have l:∀(b:(match x.isOne with|true=>some [x] | false=>none)=some cs),v.cells.size=cs.length/\Vw cs=true/\∀(j:Nat) (a:AV),cs[j]?=some a->∃y,v.cells[j]?=some y/\VR w M hp ρ a y:=by
  intro b;split at b
  ·rename_i g;simp only[jIj] at b;subst b;have n:=(Uf (Jb g h)).1;rw[n];refine⟨rfl,by simp[Vw,g],fun j a e=>?_⟩;cases j with
   | zero=>simp only[jzj,jIj] at e;subst e;exact⟨v,by simp,h⟩
   | succ j=>simp at e
  ·cases b
 unfold AV.cells at b;split at b
 ·rename_i m;split at b<;>simp only[jIj,reduceCtorEq] at b;rename_i g;subst b;cases h with
  | agg _ ys i k =>
   refine⟨by simp[Value.cells,i],g,fun j a e=>?_⟩;have f:j<ys.length:=by rw[<-i];exact(jGj e).1
   exact⟨ys[j],by simp[Value.cells,f],k j a _ e (by simp[f])⟩
 ·rename_i m;split at b<;>simp only[jIj,reduceCtorEq] at b;rename_i g;subst b;cases h with
  | d _ _ h =>
   cases h with
   | agg _ ys i k =>
    refine⟨by simp[Value.cells,i],g,fun j a e=>?_⟩;simp only[List.getElem?_map] at e;cases hc:m[j]? with
    | none=>rw[hc] at e;simp at e
    | some c =>
     rw[hc] at e;simp only[Option.map_some,jIj] at e;subst e;have f:j<ys.length:=by rw[<-i];exact(jGj hc).1
     exact⟨ys[j],by simp[Value.cells,f],.d _ _ (k j c _ hc (by simp[f]))⟩
 ·exact l b
theorem KX {x:D}{cs:List AV}(h:AV.cells (.d x)=some cs):cs=x.cells.map .d:=by
 cases x with
 | agg l =>
  simp only[AV.cells] at h;split at h<;>simp only[jIj,reduceCtorEq] at h;exact h.symm
 | _ =>
  simp only[AV.cells] at h;split at h<;>simp only[jIj,reduceCtorEq] at h;subst h;rfl
theorem Qg1 {w:World}{M:Nat->Prop}{v:Value}{l:jVj}(d:DR w M (.agg l) v)(j:Nat)(c:D)(f:(D.agg l).cells[j]?=some c) :
  ∃y,v.cells[j]?=some y/\DR w M c y:=by
 cases d with
 | agg _ ys g e =>
  have a : l[j]?=some c:=f;have b:j<ys.length:=by rw[<-g];exact(jGj a).1
  exact⟨ys[j],by simp[Value.cells,b],e j c _ a (by simp[b])⟩
theorem add_at (b o n:Nat):(⟨b,o,none⟩:Addr).add n=⟨b,o+n,none⟩:=by
 unfold Addr.add;split
 ·rename_i h;subst h;rfl
 ·rfl
theorem wy (P:Program)(w:World)(b o:Nat)(vs:List Value):∀(i:Nat) (acc:Array Value),(∀(j:Nat) (v:Value),vs[j]?=some v->w.cell? ⟨b,o+(i+j),none⟩=some v) ->
  (loadCellsFrom ⟨b,o,none⟩ i vs.length acc).run P w=.ok (acc++vs.toArray) w:=by
 induction vs with
 | nil=>intro i acc _;simp[loadCellsFrom]
 | cons v vs ih =>
  intro i acc h;have a:=h 0 v rfl;simp only[List.length_cons,loadCellsFrom,Sem.run_bind,run_load,add_at,Nat.add_zero] at a ⊢;rw[a];simp only[Result.andThen_ok];rw[ih (i+1) _ (fun j u c=>by have:=h (j+1) u (by simpa using c);rw[show i+1+j=i+(j+1) from by omega];exact this)];simp
theorem KT (P:Program)(w:World)(b o:Nat)(vs:List Value)(n:Nat)(c:n=vs.length)(h:∀(j:Nat) (v:Value),vs[j]?=some v->w.cell? ⟨b,o+j,none⟩=some v) :
  (loadCells ⟨b,o,none⟩ n).run P w=.ok vs.toArray w:=by
 subst c;unfold loadCells;rw[wy P w b o vs 0 #[] (fun j v a=>by rw[Nat.zero_add];exact h j v a)];simp
def Ky (c:Array Value)(o:Nat):List Value->Array Value
 | []=>c
 | v::vs=>Ky (c.setIfInBounds o v) (o+1) vs
theorem Ud (c:Array Value)(o:Nat)(vs:List Value):(Ky c o vs).size=c.size:=by
 induction vs generalizing c o with
 | nil=>rfl
 | cons v vs ih=>simp[Ky,ih]
theorem V8 (c:Array Value)(o:Nat)(vs:List Value)(h:o+vs.length<=c.size)(k:Nat) :
  (Ky c o vs)[k]?=if o<=k/\k<o+vs.length then vs[k - o]? else c[k]?:=by
 induction vs generalizing c o with
 | nil=>simp[Ky];intro a d;omega
 | cons v vs ih =>
  simp only[Ky];rw[ih _ _ (by simp at h ⊢;omega)];simp only[List.length_cons] at h ⊢;by_cases a:o+1<=k/\k<o+1+vs.length
  ·rw[jTj a,jTj (by omega)];rw[show k - o=(k - (o+1))+1 from by omega];simp
  ·rw[jFj a];by_cases d:k=o
   ·subst d;have b:k<c.size:=by omega
    rw[jTj (by omega)];simp[b]
   ·rw[jFj (by omega)];rw[Array.getElem?_setIfInBounds];rw[jFj (by omega)]
theorem U0 (P:Program)(b o:Nat)(vs:List Value):∀(i:Nat) (w:World) (c:Array Value) (e:TypeId),w.heap[b]?=some (.cells c e (0,0))->o+i+vs.length<=c.size ->
  (∀v,v∈vs->v.oneCell'=true) ->
  ∃w',(storeCells ⟨b,o,none⟩ vs i).run P w=.ok () w'/\w'.heap[b]?=some (.cells (Ky c (o+i) vs) e (0,0))/\Ext w (fun n=>n=b) w':=by
 induction vs with
 | nil=>intro i w c e h _ _;exact⟨w,by simp[storeCells],h,Ext.refl _ _⟩
 | cons v vs ih =>
  intro i w c e h m k;simp only[List.length_cons] at m;have d:o+i<c.size:=by omega
  have hc:w.cell? ⟨b,o+i,none⟩=some c[o+i]:=by simp[World.cell?,h,d]
  have a:w.frozen? ⟨b,o+i,none⟩=false:=by simp[World.frozen?,h]
  have g:(w.setCell ⟨b,o+i,none⟩ v).heap[b]?=some (.cells (c.setIfInBounds (o+i) v) e (0,0)):=by simp[World.setCell,Array.getElem?_modify,h]
  obtain⟨w',f,l,q⟩:=ih (i+1) (w.setCell ⟨b,o+i,none⟩ v) _ e g (by simp;omega) (fun u p=>k u (by simp[p]));refine⟨w',?_,?_,?_⟩
  ·simp only[storeCells,Sem.run_bind,add_at];rw[run_store P w _ v _ (k v (by simp)),hc,a];simp only[Bool.false_eq_true,if_false,Result.andThen_ok];exact f
  ·simp only[Ky];rw[l];rfl
  ·have j:Ext w (fun n=>n=b) (w.setCell ⟨b,o+i,none⟩ v) :=
    ⟨fun _=>jLj _,rfl,rfl,rfl,by simp,fun r _ f=>by simp only[World.setCell,Array.getElem?_modify];rw[jFj (fun h=>f h.symm)]⟩
   exact j.trans q fun r _ h=>h
theorem jy {cx:Cx}{t:TypeId}{g:Bool}(h:cx.isAgg t=some g)(w:World):(isAgg t).run cx.P w=.ok g w:=by
 unfold Cx.isAgg at h;simp only[isAgg,underlying,Sem.run_bind,run_program,Result.andThen_ok];cases hu:cx.P.underlying t with
 | none=>rw[hu] at h;simp at h
 | some d =>
  rw[hu] at h;simp only[Sem.run_pure,Result.andThen_ok];cases d<;>simp_all
theorem run_sizeOf {cx:Cx}{t:TypeId}{n:Nat}(h:cx.sz t=some n)(w:World):(sizeOf t).run cx.P w=.ok n w:=by
 unfold Cx.sz at h;simp only[sizeOf,typeInfo,Sem.run_bind,run_program,Result.andThen_ok];cases hu:cx.P.info? t with
 | none=>rw[hu] at h;simp at h
 | some d=>rw[hu] at h;simp only[jIj] at h;subst h;simp
theorem Qk {cx:Cx}{t:TypeId}{d:TypeDesc}(h:cx.P.underlying t=some d)(w:World):(underlying t).run cx.P w=.ok d w:=by simp only[underlying,Sem.run_bind,run_program,Result.andThen_ok,h,Sem.run_pure]
theorem Y2 {cx:Cx}{t:TypeId}{z:Value}(h:cx.zero t=some z)(w:World):(zeroValue t).run cx.P w=.ok z w:=by
 unfold Cx.zero at h;simp only[zeroValue,typeInfo,Sem.run_bind,run_program,Result.andThen_ok];cases hu:cx.P.info? t with
 | none=>rw[hu] at h;simp at h
 | some d=>rw[hu] at h;simp only at h;simp[h]
theorem Jv {cx:Cx}{t:TypeId}{d:TypeInfo}(h:cx.P.info? t=some d)(w:World):(typeInfo t).run cx.P w=.ok d w:=by simp only[typeInfo,Sem.run_bind,run_program,Result.andThen_ok,h,Sem.run_pure]
theorem Qhl (l:jVj):Ju (l.map .d)=some l:=by
 induction l with
 | nil=>rfl
 | cons x l ih=>simp[Ju,AV.toD,ih]
theorem Qcj {cx:Cx}{w:World}{M:Nat->Prop}{hp:List (Nat×Blk)}{ρ:Nat->Value}{t:TypeId}{s:Nat}{g:Bool}(T:cx.sz t=some s)(N:cx.isAgg t=some g){b o off:Nat}{x y:AV}{cs:List AV}
  (r:x.cells=some cs) (hc:∀(j:Nat) (a:AV),cs[j]?=some a->∃y,w.cell? ⟨b,o+j,none⟩=some y/\VR w M hp ρ a y) (f:Jq g s off x=some y) :
  ∃v,(loadVar t ⟨b,o+off,none⟩).run cx.P w=.ok v w/\VR w M hp ρ y v:=by
 simp only[Jq,r] at f;unfold loadVar;simp only[Sem.run_bind,jy N,Result.andThen_ok];cases g with
 | false =>
  simp only at f;rw[ZY] at f;obtain⟨v,K,S⟩:=hc off y f;refine⟨v,?_,S⟩;simp only[Bool.false_eq_true,if_false,run_load,K]
 | true =>
  simp only at f;split at f;case h_2=>cases f
  rename_i J;have L : off+s<=cs.length:=Nat.le_of_ble_eq_true J;have k:∀j,j<s->∃v,w.cell? ⟨b,o+(off+j),none⟩=some v/\∀a,cs[off+j]?=some a->VR w M hp ρ a v:=by
   intro j p;have e:off+j<cs.length:=by omega
   obtain⟨v,m,n⟩:=hc (off+j) cs[off+j] (by simp[e]);exact⟨v,m,fun a z=>by simp[e] at z;subst z;exact n⟩
  let vs:List Value:=(List.range s).map fun j=>(w.cell? ⟨b,o+(off+j),none⟩).getD undef;have C:∀(j:Nat) (v:Value),vs[j]?=some v->j<s/\w.cell? ⟨b,o+(off+j),none⟩=some v:=by
   intro j v p;have e:j<s:=by have:=(jGj p).1;simpa[vs] using this
   obtain⟨u,F,_⟩:=k j e;simp[vs,e,F] at p;exact⟨e,p ▸ F⟩
  have A:=KT cx.P w b (o+off) vs s (by simp[vs]) (fun j v p=>by rw[Nat.add_assoc];exact(C j v p).2);have h:VR w M hp ρ (.agg ((cs.drop off).take s)) (.agg vs.toArray):=by refine .agg _ _ (by simp[vs];omega) fun i c v hi K=>?_;obtain⟨m,n⟩:=C i v K;obtain⟨u,F,O⟩:=k i m;rw[F] at n;cases n;apply O;rw[List.getElem?_take,jTj m,List.getElem?_drop] at hi;exact hi
  refine⟨.agg vs.toArray,?_,?_⟩
  ·simp only[if_true,Sem.run_bind,run_sizeOf T,Result.andThen_ok,A,Sem.run_map];rfl
  ·split at f
   ·rename_i E;simp only[jIj] at f;subst f;simp only[jAj] at E;have m:=jqj E.1.2;have n:=jqj E.2;have z:=E.1.1;subst m;have l:(cs.drop 0).take s=cs:=by subst n;simp
    rw[l] at h;cases x with
    | agg G =>
     simp only[AV.cells] at r;split at r<;>simp only[jIj,reduceCtorEq] at r;subst r;exact h
    | d q =>
     have H:=KX r;cases q with
     | agg G =>
      subst H;have:=Ug h;have Q:AV.norm (.agg (G.map .d))=.d (.agg G):=by simp[AV.norm,AV.toD,Qhl]
      simp only[D.cells] at this;rw[Q] at this;exact this
     | _=>cases z
    | _=>cases z
   ·simp only[jIj] at f;subst f;exact Ug h
theorem Z1 {a b:Nat}(h:Nat.beq a b=true):a=b:=jqj h
theorem YS {w:World}{r:Nat}{c:Array Value}{e:TypeId}{f:Nat×Nat}(h:w.heap[r]?=some (.cells c e f))(k:Nat):w.cell? ⟨r,k,none⟩=c[k]?:=by simp[World.cell?,h]
section
variable {cx:Cx}{F:Nat->Prop}{hp:List (Nat×Blk)}{ρ:Nat->Value}{w:World}{re:Operand->Value}{ev:Operand->AV}{sym:Bool}{orc:List Orc}{r:R}
theorem uA (h:HSim cx F hp ρ w){t:TypeId}{x:Value}{b ver sz i off s:Nat}{g:Bool}(hx:VR w (MM F hp ρ) hp ρ (.ptr b ver sz i off) x)
  (X:cx.sz t=some s) (T:cx.isAgg t=some g) {y z:AV} {ob:List Prop} {o' : List Orc} (f:KZ sym orc hp b ver sz i=some (y,ob,o')) (ho:∀p,p∈ob->p) (K:Jq g s off y=some z) :
  ∃v,(Instr.loadAt t x).run cx.P w=.ok v w/\VR w (MM F hp ρ) hp ρ z v:=by
 cases hx with
 | ptr _ _ _ _ _ k _ S hv V U =>
  rw[KZ,S] at f;have Q:=h.blk b k S;cases k with
  | box u =>
   simp only at f;split at f<;>simp only[jIj,reduceCtorEq,jPj] at f;rename_i hi;obtain⟨rfl,rfl,rfl⟩:=f;obtain⟨r',l,rfl⟩:=U (by simp only[Blk.ver] at hv ⊢;omega);obtain⟨r,e,vb,cs,L,J,M,N⟩:=Q;rw[L] at l;simp only[QX,jIj] at l;subst l;have O:=Z1 hi;subst O;simp only[Nat.zero_mul,Nat.zero_add];obtain⟨v,m,A⟩:=Qcj (b:=r) (o:=0) (off:=off) X T M (fun j a n=>by obtain⟨y,C,E⟩:=(Yp M N).2.2 j a n;exact⟨y,by rw[YS J,Nat.zero_add];exact C,E⟩) K
   refine⟨v,?_,A⟩;simp only[Instr.loadAt,Instr.sureAddr,Sem.run_bind,Sem.run_pure,Result.andThen_ok];rw[Nat.zero_add] at m;exact m
  | row ver' sz' es =>
   simp only at f;split at f
   ·cases f
   rename_i hc;simp only[jAj] at hc;have Y:=Z1 hc.1;have Z:=Z1 hc.2;subst Y;subst Z;obtain⟨r',l,rfl⟩:=U rfl;obtain⟨_,a0,J⟩|⟨r,c,e,cap,L,⟨J,G⟩,M,N,h5,h6⟩:=Q
   ·rw[J,WG] at l;cases l
   rw[L,Q8 G] at l;simp only[jIj] at l;subst l;have H:∀d,es[i]?=some d->y=.d d->∃v,(Instr.loadAt t (.pointer (some ⟨r,i*sz+off,none⟩))).run cx.P w=.ok v w/\VR w (MM F hp ρ) hp ρ z v:=by
    rintro d hd rfl;cases hcs:AV.cells (.d d) with
    | none=>rw[Jq,hcs] at K;cases K
    | some cs =>
     have:=KX hcs;obtain⟨v,m,A⟩:=Qcj (b:=r) (o:=i*sz) (off:=off) X T hcs (fun j a n=>by
      subst this;simp only[List.getElem?_map] at n;cases hdj:d.cells[j]? with
      | none=>rw[hdj] at n;cases n
      | some q =>
       rw[hdj] at n;simp only[Option.map_some,jIj] at n;subst n;obtain⟨y,C,_,E⟩:=h6 i d j q hd hdj;exact⟨y,by rw[YS N];exact C,.d _ _ E⟩) K
     refine⟨v,?_,A⟩;simp only[Instr.loadAt,Instr.sureAddr,Sem.run_bind,Sem.run_pure,Result.andThen_ok];exact m
   split at f
   ·simp only[jIj,jPj] at f;obtain⟨rfl,rfl,rfl⟩:=f;have:=ho _ (jMj);rw[ZY] at this;exact H _ this rfl
   ·split at f
    ·rename_i q W;simp only[jIj,jPj] at f;obtain⟨rfl,rfl,rfl⟩:=f;rw[ZY] at W;exact H _ W rfl
    ·cases f
   ·cases f
  | frozen _ _ _=>simp at f
  | virt _ _ _=>simp at f
  | loop _ _ _ _ _ _=>simp at f
  | mp _=>simp at f
  | it _ _=>simp at f
  | fbox _=>simp at f
  | left _=>simp at f
  | dead=>simp at f
theorem Qd4 {t:TypeId}{x:Value}{q:D}{off s:Nat}{g:Bool}(p:VR w (MM F hp ρ) hp ρ (.dptr q off) x)
  (n:cx.sz t=some s) (m:cx.isAgg t=some g) {z:AV} (k:Jq g s off (.d q)=some z) :
  ∃v,(Instr.loadAt t x).run cx.P w=.ok v w/\VR w (MM F hp ρ) hp ρ z v:=by
 cases p with
 | dptr _ _ blk o l =>
  cases hcs:AV.cells (.d q) with
  | none=>rw[Jq,hcs] at k;cases k
  | some cs =>
   have:=KX hcs;obtain⟨v,e,f⟩:=Qcj (M:=MM F hp ρ) (hp:=hp) (ρ:=ρ) (b:=blk) (o:=o) (off:=off) n m hcs (fun j a c=>by
    subst this;simp only[List.getElem?_map] at c;cases hdj:q.cells[j]? with
    | none=>rw[hdj] at c;cases c
    | some u =>
     rw[hdj] at c;simp only[Option.map_some,jIj] at c;subst c;obtain⟨y,h,i⟩:=l.2.2 j u hdj;exact⟨y,h,.d _ _ i⟩) k
   refine⟨v,?_,f⟩;simp only[Instr.loadAt,Instr.sureAddr,Sem.run_bind,Sem.run_pure,Result.andThen_ok];exact e
theorem Jx (h:HSim cx F hp ρ w){name:Nat}(g:look hp name=none){x:AV}{v:Value}{cs:List AV}(l:x.cells=some cs)(j:VR w (MM F hp ρ) hp ρ x v)(a:TypeId) :
  OpOK cx F hp ρ w [(name,.box x)] (.ptr name 0 0 0 0) (.pointer (some ⟨w.heap.size,0,none⟩)) (w.alloc (.cells v.cells a)):=by
 obtain⟨e,f⟩:=h.fresh (b:=name) (k:=.box x) (v:=.pointer (some ⟨w.heap.size,0,none⟩)) v.cells a (fun r i=>(Option.some.inj i).symm) (fun k0 c=>by rw[g] at c;cases c)
  (fun d=>⟨w.heap.size,a,v,cs,Qx _ _ _,Z2 _ _,l,d.vr j⟩)
 exact⟨_,e,f,.ptr name 0 0 0 0 (.box x) _ (Qf _ _ _) (jLj _) rfl fun _=>⟨w.heap.size,by rw[Qx];rfl,rfl⟩⟩
theorem jG (c:Array Value)(vs:List Value)(h:vs.length=c.size):Ky c 0 vs=vs.toArray:=by
 apply Array.ext_getElem?;intro k;rw[V8 _ _ _ (by omega)];by_cases a:0<=k/\k<0+vs.length
 ·rw[jTj a];simp
 ·rw[jFj a];have:c.size<=k:=by omega
  rw[Array.getElem?_eq_none this];simp;omega
theorem Qa2 {M:Nat->Prop}{x y z:AV}{off:Nat}{v u:Value}(e:uf x off y=some z)(W:VR w M hp ρ x v)(P:VR w M hp ρ y u) :
  ∃Q,VR w M hp ρ z Q/\Q.cells=Ky v.cells off u.cells.toList/\off+u.cells.size<=v.cells.size/\∀q,q∈u.cells.toList->q.oneCell'=true:=by
 unfold uf at e;split at e;case h_2=>cases e
 rename_i cs ys f H;obtain⟨U,X,K⟩:=Yp f W;obtain⟨S,T,J⟩:=Yp H P;have N:u.cells.toList.length=ys.length:=by rw[Array.length_toList];exact S
 have g:∀q,q∈u.cells.toList->q.oneCell'=true:=by
  intro q h;obtain⟨j,Z,rfl⟩:=List.mem_iff_getElem.1 h;have m : j<ys.length:=by omega
  obtain⟨p,b,d⟩:=J j ys[j] (by simp[m]);have:=(Uf (Jb (Yi T (j:=j) (a:=ys[j]) (by simp[m])) d)).2;have V:u.cells.toList[j]=p:=by rw[Array.getElem_toList];rw[Array.getElem?_eq_some_iff] at b;exact b.2
  rw[V];exact this
 split at e
 ·rename_i l;split at e;case h_2=>cases e
  rename_i G;have L : off+ys.length<=cs.length:=Nat.le_of_ble_eq_true G;split at e
  ·rename_i A;simp only[jIj] at e;subst e;simp only[jAj] at A;have s:=Z1 A.1.1;have Y:=Z1 A.1.2;subst s;refine⟨u,P,?_,by omega,g⟩;rw[jG _ _ (by omega)]
  ·simp only[jIj] at e;subst e;refine⟨.agg (Ky v.cells off u.cells.toList),Ug ?_,rfl,by omega,g⟩;have:=VR.agg (w:=w) (M:=M) (hp:=hp) (ρ:=ρ) (cs.take off++ys++cs.drop (off+ys.length)) (Ky v.cells off u.cells.toList).toList
    (by simp only[jaj,List.length_take,List.length_drop,Array.length_toList,Ud];omega)
    (fun i c q hi h=>by
     rw[Array.getElem?_toList,V8 _ _ _ (by omega)] at h;by_cases O:off<=i/\i<off+u.cells.toList.length
     ·rw[jTj O] at h;rw[List.getElem?_append_left (by simp;omega),List.getElem?_append_right (by simp;omega)] at hi;have:i - (cs.take off).length=i - off:=by simp;omega
      rw[this] at hi;obtain⟨p,b,d⟩:=J _ _ hi;rw[Array.getElem?_toList] at h;rw[h] at b;cases b;exact d
     ·rw[jFj O] at h;by_cases E:i<off
      ·rw[List.append_assoc,List.getElem?_append_left (by simp;omega),List.getElem?_take,jTj E] at hi;obtain⟨p,b,d⟩:=K _ _ hi;rw[h] at b;cases b;exact d
      ·rw[List.getElem?_append_right (by simp;omega),List.getElem?_drop] at hi;have:off+ys.length+(i - (cs.take off++ys).length)=i:=by simp;omega
       rw[this] at hi;obtain⟨p,b,d⟩:=K _ _ hi;rw[h] at b;cases b;exact d)
   simpa using this
 ·rename_i l;split at e;case h_2=>cases e
  rename_i c n;have s:=Z1 n;subst s;simp only[jIj] at e;subst e;obtain⟨p,b,d⟩:=J 0 c rfl;have t:=Jb (Yi T (j:=0) (a:=c) rfl) d;have o:u.cells=#[p]:=by
   apply Array.ext_getElem?;intro k;cases k with
   | zero=>simpa using b
   | succ k=>rw[Array.getElem?_eq_none (by rw[S];simp)];simp
  have C:cs.length=1:=by
   unfold AV.cells at f;split at f
   ·cases l
   ·cases l
   ·split at f<;>simp only[jIj,reduceCtorEq] at f;subst f;rfl
  refine⟨p,d,?_,by rw[o,U,C];simp,g⟩;rw[o,(Uf t).1,jG _ _ (by simp;omega)]
theorem XZ {t:TypeId}{s:Nat}(h:cx.sz t=some s){r off:Nat}{c:Array Value}{e:TypeId}{u:Value}(i:u.cells.size=s)(hc:w.heap[r]?=some (.cells c e (0,0)))
  (f:off+u.cells.size<=c.size) (g:∀q,q∈u.cells.toList->q.oneCell'=true) :
  ∃w',(Instr.storeAt t (.pointer (some ⟨r,off,none⟩)) u).run cx.P w=.ok () w'/\w'.heap[r]?=some (.cells (Ky c off u.cells.toList) e (0,0))/\Ext w (fun n=>n=r) w':=by
 obtain⟨w',a,b,d⟩:=U0 cx.P r off u.cells.toList 0 w c e hc (by simpa using f) g;refine⟨w',?_,by simpa using b,d⟩;simp only[Instr.storeAt,Instr.sureAddr,Sem.run_bind,Sem.run_pure,Result.andThen_ok,storeVar,run_sizeOf h,i,ne_eq,not_true_eq_false,if_false];exact a
theorem EX (h:HSim cx F hp ρ w){p:List Nat}{b ver sz i:Nat}{es:jVj}(G:look hp b=some (.row ver sz es))(L:p.contains b=false){r:Nat}{c C : Array Value}{e:TypeId}
  (f:QX (ρ b)=some r) (hc:w.heap[r]?=some (.cells c e (0,0))) {w' : World} (Z : w'.heap[r]?=some (.cells C e (0,0))) (hx:Ext w (fun n=>n=r) w') (a3:C.size=c.size)
  (S:∀k,(k<i*sz\/i*sz+sz<=k)->C[k]?=c[k]?) {Y:D} {zs:List AV} {u:Value} (z:AV.cells (.d Y)=some zs) (U:zs.length=sz)
  (hin:∀j,j<sz->C[i*sz+j]?=u.cells[j]?) (hu:DR w (MM F (Qd hp p++hp) ρ) Y u) :
  OpOK cx F hp ρ w ((b,.row ver sz (es.set i Y))::Qd hp p) (.d (.v undef)) undef w':=by
 obtain⟨g1,g2⟩:=h.freeze p;have H:look (Qd hp p++hp) b=some (.row ver sz es):=by
  obtain V|⟨v1,s1,e1,V,h2⟩|⟨_,_,_,E,_⟩|⟨_,E,_⟩:=Wo hp p b;case inr.inr.inl=>rw[G] at E;cases E
  case inr.inr.inr=>rw[G] at E;cases E
  ·rw[V];exact G
  ·exfalso;have P:b∈p:=by
    rw[G] at V;cases V;have:∀l:List Nat,look (Qd hp l++hp) b=some (.frozen ver sz es)->b∈l:=by
     intro l;induction l with
     | nil=>intro m;rw[show Qd hp []++hp=hp from rfl,G] at m;cases m
     | cons q l ih =>
      intro m;simp only[Qd] at m;by_cases X:q=b
      ·simp[X]
      ·split at m
       ·rw[List.cons_append,Qc _ _ X] at m;exact jmj _ (ih m)
       ·split at m
        ·rw[List.cons_append,Qc _ _ X] at m;exact jmj _ (ih m)
        ·exact jmj _ (ih m)
       ·rw[List.cons_append,Qc _ _ X] at m;exact jmj _ (ih m)
       ·exact jmj _ (ih m)
    exact this p h2
   have:p.contains b=true:=by simpa using P
   rw[this] at L;cases L
 obtain⟨k1,k2⟩:=g1.write (b:=b) (k:=.row ver sz (es.set i Y)) (v:=ρ b) H rfl f f (.inr ⟨rfl,rfl⟩) hx (fun T=>by
  obtain⟨_,a0,q2⟩|⟨r0,c0,e0,cap,q1,⟨q2,s⟩,q3,q4,q5,q6⟩:=g1.blk b _ H
  ·rw[q2,WG] at f;cases f
  rw[q1,Q8 s] at f;simp only[jIj] at f;subst f;rw[hc] at q4;cases q4;refine .inr ⟨r0,C,e,cap,by rw[Qx,q1,List.length_set],⟨by rw[List.length_set];exact q2,s⟩,by rw[a3];exact q3,Z,fun A d g=>?_,fun A d j a g W=>?_⟩
  ·rw[List.getElem?_set] at g;split at g
   ·split at g<;>simp only[jIj,reduceCtorEq] at g;subst g;have:=KX z;subst this;simpa using U
   ·exact q5 A d g
  ·rw[List.getElem?_set] at g;split at g
   ·rename_i t;subst t;split at g<;>simp only[jIj,reduceCtorEq] at g;subst g;have J:=KX z;have O:j<sz:=by have:=(jGj W).1;subst J;simp at U;omega
    have K:=Yp (w:=w) (M:=MM F (Qd hp p++hp) ρ) (hp:=hp) (ρ:=ρ) z (.d _ _ hu);have N:zs[j]?=some (.d a):=by subst J;simp[W]
    obtain⟨y,x,o⟩:=K.2.2 j (.d a) N;have Q:=Jb (Yi K.2.1 N) o;cases o;rename_i o;exact⟨y,by rw[hin j O];exact x,Q,T.dr o⟩
   ·rename_i t;obtain⟨y,x,a4,o⟩:=q6 A d j a g W;have O:j<sz:=by have:=(jGj W).1;have:=q5 A d g;omega
    refine⟨y,?_,a4,T.dr o⟩;rw[S];exact x;obtain a2|a1:=Nat.lt_or_gt_of_ne t
    ·right;calc i*sz+sz=(i+1)*sz:=by rw[Nat.add_mul,Nat.one_mul]
      _<=A*sz:=Nat.mul_le_mul_right _ a2
      _<=A*sz+j:=Nat.le_add_right _ _
    ·left;have:(A+1)*sz<=i*sz:=Nat.mul_le_mul_right _ a1;rw[Nat.add_mul,Nat.one_mul] at this;omega)
 exact⟨_,k1,g2.trans k2,G7 _ _ _ _ undef⟩
theorem Qc2 (h:HSim cx F hp ρ w){t:TypeId}{p y:AV}{x u:Value}(b7 : VR w (MM F hp ρ) hp ρ p x)(hy:VR w (MM F hp ρ) hp ρ y u)(f:kz cx sym orc hp t p y=some r)(ho:∀p,p∈r.ob->p) :
  ∃w',(Instr.storeAt t x u).run cx.P w=.ok () w'/\OpOK cx F hp ρ w r.up r.val undef w':=by
 unfold kz at f;split at f;case h_2=>cases f
 rename_i b pv sz i off ys s c0 hs;obtain⟨y1,y2,y3⟩:=Yp c0 hy;cases b7 with
 | ptr _ _ _ _ _ k _ X hv c1 hh =>
 split at f
 ·-- a box
  rename_i a5 E;have a9:=Z1 a5;rw[X] at E;cases E;split at f;case h_2=>cases f
  rename_i z C Z;have Z:=Z1 Z;subst Z;split at f;case h_2=>cases f
  rename_i zs K;simp only[jIj] at f;subst f;obtain⟨r',g,rfl⟩:=hh (by simp only[Blk.ver] at hv ⊢;omega);obtain⟨r,e,vb,cs,L,h2,h3,h4⟩:=h.blk b _ X;rw[L] at g;simp only[QX,jIj] at g;subst g;obtain⟨v',a1,a2,a3,a4⟩:=Qa2 C h4 hy;obtain⟨w',s1,s2,s3⟩:=XZ (cx:=cx) (t:=t) hs (r:=r) (off:=0*sz+off) (u:=u) (by omega) h2 (by simpa using a3) a4;refine⟨w',s1,?_⟩;obtain⟨k1,k2⟩:=h.write (b:=b) (k:=.box z) (v:=ρ b) X rfl (r:=r) (by rw[L];rfl) (by rw[L];rfl) (.inr ⟨rfl,rfl⟩) s3 (fun S=>by refine⟨r,e,v',zs,by rw[Qx,L],?_,K,S.vr a1⟩;rw[s2,a2];simp)
  exact⟨_,k1,k2,G7 _ _ _ _ undef⟩
 ·-- a row
  rename_i ver c4 es a5 E;have a9:=Z1 a5;rw[X] at E;cases E;split at f;case h_2=>cases f
  rename_i yd fs hc b9;simp only[jAj] at hc;have e1:=Z1 hc.1;have e2:=Z1 hc.2;subst e1;subst e2;split at f
  ·cases f
  rename_i H;obtain⟨r',g,rfl⟩:=hh rfl;have hB:=h.blk b _ X;obtain⟨_,a0,h2⟩|⟨r0,c,e,cap,L,⟨h2,G⟩,h3,h4,h5,h6⟩:=hB
  ·rw[h2,WG] at g;cases g
  rw[L,Q8 G] at g;simp only[jIj] at g;subst g;have W:=Z8 h fs y u yd fs b9 (fun _ h=>h) hy;have o:∀{i:Nat},i<es.length->i*sz+sz<=c.size:=by
   intro i hi;calc i*sz+sz=(i+1)*sz:=by rw[Nat.add_mul,Nat.one_mul]
    _<=cap*sz:=Nat.mul_le_mul_right _ (by omega)
    _<=c.size:=h3
  have V:∀q,q∈u.cells.toList->q.oneCell'=true:=by
   intro q hq;obtain⟨j,hj,rfl⟩:=List.mem_iff_getElem.1 hq;have a6 : j<ys.length:=by simp at hj;omega
   obtain⟨p,a8,b8⟩:=y3 j ys[j] (by simp[a6]);have:=(Uf (Jb (Yi y2 (j:=j) (a:=ys[j]) (by simp[a6])) b8)).2;have Q:u.cells.toList[j]=p:=by rw[Array.getElem_toList];rw[Array.getElem?_eq_some_iff] at a8;exact a8.2
   rw[Q];exact this
  have part:∀{O zd:D},es[i]?=some O->qM sz O off yd=some zd ->
    ∃w',(Instr.storeAt t (.pointer (some ⟨r0,i*sz+off,none⟩)) u).run cx.P w=.ok () w'/\OpOK cx F hp ρ w ((b,.row pv sz (es.set i zd))::Qd hp fs) (.d (.v undef)) undef w':=by
   intro O zd Q C;unfold qM at C;split at C;case h_2=>cases C
   rename_i z T;split at C;case h_2=>cases C
   rename_i c5 J;split at C;case h_2=>cases C
   rename_i zs K;split at C;case h_2=>cases C
   rename_i n;simp only[jIj] at C;subst C;have n:=Z1 n;have hi:i<es.length:=(jGj Q).1;have b3:=o hi;have Y:=h5 i O Q;-- the element as a value
   have A : ∃N,AV.cells (.d O)=some N:=by
    unfold uf at T;split at T
    ·rename_i N _ L _;exact⟨N,L⟩
    ·cases T
   obtain⟨N,A⟩:=A;have b4:=KX A;have hev:∃ve,DR w (MM F (Qd hp fs++hp) ρ) O ve/\ve.cells=c.extract (i*sz) (i*sz+sz):=by
    have S:=(h.freeze fs).2;cases O with
    | agg l =>
     refine⟨.agg (c.extract (i*sz) (i*sz+sz)).toList.toArray,.agg _ _ ?_ ?_,Array.toArray_toList⟩
     ·simp only[D.cells] at Y;simp;omega
     ·intro j a q ha hq;obtain⟨y,b1,_,b2⟩:=h6 i _ j a Q ha;have c2:j<sz:=by have:=(jGj ha).1;simp only[D.cells] at Y;omega
      rw[Array.getElem?_toList,Array.getElem?_extract] at hq;rw[jTj (by omega)] at hq;rw[b1] at hq;cases hq;exact S.dr b2
    | _ =>
     all_goals
      simp only[D.cells,List.length_cons,List.length_nil,Nat.zero_add] at Y;obtain⟨y,b1,_,b2⟩:=h6 i _ 0 _ Q rfl;refine⟨y,S.dr b2,?_⟩;have b6:one y=true:=by have U:=(Yp (w:=w) (M:=MM F hp ρ) (hp:=hp) (ρ:=ρ) A (.d _ _ b2)).2.1;subst b4;simp only[D.cells,jCj,jnj,Vw,Bool.and_true] at U;exact Jb (w:=w) (M:=MM F hp ρ) (hp:=hp) (ρ:=ρ) U (.d _ _ b2)
      rw[(Uf b6).1];apply Array.ext_getElem?;intro j;rw[Array.getElem?_extract];cases j with
      | zero=>rw[jTj (by omega)];simpa using b1.symm
      | succ j=>rw[jFj (by omega)];simp
   obtain⟨ve,v1,v2⟩:=hev;obtain⟨v',a1,a2,a3,a4⟩:=Qa2 (hp:=hp) (ρ:=ρ) (w:=w) (M:=MM F (Qd hp fs++hp) ρ) T (.d _ _ v1) (.d _ _ W);have c3:ve.cells.size=sz:=by rw[v2];simp;omega
   obtain⟨w',s1,s2,s3⟩:=XZ (cx:=cx) (t:=t) hs (r:=r0) (off:=i*sz+off) (u:=u) (by omega) h4 (by omega) V;refine⟨w',s1,?_⟩;have b5:u.cells.toList.length=u.cells.size:=by simp
   refine EX (u:=v') h X (by simpa using H) (by rw[L];exact Q8 G) h4 s2 s3 (Ud _ _ _) (fun k hk=>?_) K n (fun j hj=>?_) (Ku w _ hp ρ z v' _ J a1)
   ·rw[V8 _ _ _ (by omega),jFj (by omega)]
   ·rw[V8 _ _ _ (by omega),a2,V8 _ _ _ (by omega)];by_cases a7:off<=j/\j<off+u.cells.toList.length
    ·rw[jTj (by omega),jTj a7];congr 1;omega
    ·rw[jFj (by omega),jFj a7,v2,Array.getElem?_extract,jTj (by omega)]
  split at f
  ·-- the whole element
   rename_i hw;simp only[jAj] at hw;have o1:=Z1 hw.1;have o2:=Z1 hw.2;subst o1;split at f;case h_2=>cases f
   rename_i ob o' zs m K;split at f;case h_2=>cases f
   rename_i n;have n:=Z1 n;simp only[jIj] at f;subst f;have hi:i<es.length:=by
    unfold owe at m;split at m
    ·simp only[jIj,jPj] at m;obtain⟨rfl,rfl⟩:=m;exact ho _ jMj
    ·split at m
     ·rename_i hd;exact of_decide_eq_true hd
     ·cases m
    ·cases m
   have b3:=o hi;have b5:u.cells.toList.length=u.cells.size:=by simp
   obtain⟨w',s1,s2,s3⟩:=XZ (cx:=cx) (t:=t) hs (r:=r0) (off:=i*sz+0) (u:=u) (by omega) h4 (by omega) V;refine⟨w',s1,?_⟩;refine EX (u:=u) h X (by simpa using H) (by rw[L];exact Q8 G) h4 s2 s3 (Ud _ _ _) (fun k hk=>?_) K n (fun j hj=>?_) W
   ·rw[V8 _ _ _ (by omega),jFj (by omega)]
   ·rw[V8 _ _ _ (by omega),jTj (by omega),Array.getElem?_toList];congr 1;omega
  ·split at f
   ·rename_i O o' _;split at f;case h_2=>cases f
    rename_i zd J;simp only[jIj] at f;subst f;have:=ho _ jMj;rw[ZY] at this;exact part this J
   ·split at f;case h_2=>cases f
    rename_i O Q;split at f;case h_2=>cases f
    rename_i zd J;simp only[jIj] at f;subst f;rw[ZY] at Q;exact part Q J
   ·cases f
 ·cases f
end
section
variable {cx:Cx}{F:Nat->Prop}{hp:List (Nat×Blk)}{ρ:Nat->Value}{w:World}{re:Operand->Value}{ev:Operand->AV}{sym:Bool}{orc:List Orc}{r:R}
theorem HSim.alloc (h:HSim cx F hp ρ w)(o:Obj):HSim cx F hp ρ (w.alloc o)/\Steps1 hp ρ w hp ρ (w.alloc o):=by
 have a:Steps1 hp ρ w hp ρ (w.alloc o):=⟨Ext.alloc _ _ _,fun _ _ h=>h,Grows.refl _ _⟩
 refine⟨h.step a (fun b k c=>.inl ⟨c,rfl,fun d r e=>?_⟩) h.inj h.forb,a⟩;have:=(h.blk b k c).root_lt d e;show(w.heap.push _)[r]?=_;rw[Array.getElem?_push,jFj (by omega)]
theorem HSim.drew (h:HSim cx F hp ρ w):HSim cx F hp ρ w.drew/\Steps1 hp ρ w hp ρ w.drew:=by
 have a:Steps1 hp ρ w hp ρ w.drew:=⟨Ext.drew _ _,fun _ _ h=>h,Grows.refl _ _⟩
 exact⟨h.step a (fun b k c=>.inl ⟨c,rfl,fun _ _ _=>rfl⟩) h.inj h.forb,a⟩
theorem QcO (c:Array Value)(o:Nat)(vs:List Value):∀n,(vs.zipIdx n).foldl (fun(cs:Array Value) (p:Value×Nat)=>cs.setIfInBounds (o+p.2) p.1) c=Ky c (o+n) vs:=by
 induction vs generalizing c with
 | nil=>intro n;rfl
 | cons v vs ih =>
  intro n;simp only[List.zipIdx_cons,List.foldl_cons,Ky];rw[ih];rfl
theorem jV (c:Array Value)(o:Nat)(v:Value) :
  (v.cells.zipIdx.foldl (fun(cs:Array Value) (p:Value×Nat)=>cs.setIfInBounds (o+p.2) p.1) c)=Ky c o v.cells.toList:=by
 rw[<-Array.foldl_toList,Array.toList_zipIdx,QcO];rfl
theorem uX {M:Nat->Prop}{place:Nat->Option (Nat×Nat)}:∀(parts:List (Nat×AV)) (vs:List (Nat×Value)) (cs b : List AV) (C:Array Value),Qbu place cs parts=some b ->
  vs.map (·.1)=parts.map (·.1)->(∀(i:Nat) p q,parts[i]?=some p->vs[i]?=some q->VR w M hp ρ p.2 q.2) ->
  cs.length=C.size->(∀(j:Nat) (a:AV) (y:Value),cs[j]?=some a->C[j]?=some y->VR w M hp ρ a y) ->
  ∃g,Instr.fill place C vs=some g/\b.length=g.size/\∀(j:Nat) (a:AV) (y:Value),b[j]?=some a->g[j]?=some y->VR w M hp ρ a y:=by
 intro parts;induction parts with
 | nil =>
  intro vs cs b C c e _ t hc;simp only[Qbu,jIj] at c;subst c;cases vs with
  | nil=>exact⟨C,rfl,t,hc⟩
  | cons _ _=>simp at e
 | cons p parts ih =>
  intro vs cs b C c e A t hc;obtain⟨i,x⟩:=p;cases vs with
  | nil=>simp at e
  | cons q vs =>
   obtain⟨S,v⟩:=q;simp only[jCj,List.cons.injEq] at e;obtain⟨hi,e⟩:=e;subst hi;simp only[Qbu] at c;split at c;case h_2=>cases c
   rename_i off size ys o s;split at c;case h_2=>cases c
   rename_i l;simp only[jAj] at l;have P:=Z1 l.1;have Q:=Nat.le_of_ble_eq_true l.2;have h:=A 0 _ _ rfl rfl;simp only at h;obtain⟨N,T,O⟩:=Yp s h;have u:v.cells.toList.length=ys.length:=by rw[Array.length_toList];exact N
   obtain⟨g,G,H,J⟩:=ih vs _ b (Ky C off v.cells.toList) c e (fun k p q n K=>A (k+1) p q (by simpa using n) (by simpa using K))
    (by simp only[jaj,List.length_take,List.length_drop,Ud];omega)
    (fun j a y d f=>by
     rw[V8 _ _ _ (by omega)] at f;by_cases z:off<=j/\j<off+v.cells.toList.length
     ·rw[jTj z,Array.getElem?_toList] at f;rw[List.getElem?_append_left (by simp;omega),List.getElem?_append_right (by simp;omega)] at d;have:j - (cs.take off).length=j - off:=by simp;omega
      rw[this] at d;obtain⟨p,E,L⟩:=O _ _ d;rw[f] at E;cases E;exact L
     ·rw[jFj z] at f;by_cases m:j<off
      ·rw[List.append_assoc,List.getElem?_append_left (by simp;omega),List.getElem?_take,jTj m] at d;exact hc _ _ _ d f
      ·rw[List.getElem?_append_right (by simp;omega),List.getElem?_drop] at d;have:off+ys.length+(j - (cs.take off++ys).length)=j:=by simp;omega
       rw[this] at d;exact hc _ _ _ d f)
   refine⟨g,?_,H,J⟩;simp only[Instr.fill,o];rw[jFj (by simp only[ne_eq,Bool.or_eq_true,decide_eq_true_eq,not_or];omega)];rw[jV];exact G
theorem QdI {cx:Cx}{w:World}:∀(l:List Field) (a:List (Nat×Nat)),Jd cx l=some a ->
  (l.mapM fun(f:Field)=>do pure (f.offset,<-sizeOf f.type):Sem (List (Nat×Nat))).run cx.P w=.ok a w:=by
 intro l;induction l with
 | nil=>intro a h;simp only[Jd,jIj] at h;subst h;simp
 | cons f l ih =>
  intro a h;simp only[Jd] at h;split at h;case h_2=>cases h
  rename_i s r c b;simp only[jIj] at h;subst h;simp only[List.mapM_cons,Sem.run_bind,run_sizeOf c,Result.andThen_ok,Sem.run_pure,ih r b]
theorem wE (z:Value):(J8 z).cells=[J8 z]:=by
 cases z with
 | slice a n c =>
  cases a with
  | none=>simp only[J8];split<;>rfl
  | some a=>rfl
 | func f a b=>simp only[J8];split<;>rfl
 | _=>rfl
theorem QfD {z:Value}(h:∀c,z≠.agg c):ofV z=J8 z/\z.cells=#[z]:=by cases z<;>first|exact⟨rfl,rfl⟩|exact absurd rfl (h _)
theorem J7 (z:Value):∀(j:Nat) (a:AV) (y:Value),((ofV z).cells.map AV.d)[j]?=some a->z.cells[j]?=some y->VR w (MM F hp ρ) hp ρ a y:=by
 intro j a y b e;by_cases h:∃c,z=.agg c
 ·obtain⟨c,rfl⟩:=h;simp only[ofV,D.cells,List.map_map,List.getElem?_map] at b;simp only[Value.cells] at e;rw[Array.getElem?_toList,e] at b;simp only[Option.map_some,Function.comp_apply,jIj] at b;subst b;exact .d _ _ (qS _ _ _)
 ·obtain⟨f,g⟩:=QfD (z:=z) fun c hc=>h ⟨c,hc⟩;rw[f,wE] at b;rw[g] at e;cases j with
  | zero=>simp at b e;subst b;subst e;exact .d _ _ (qS _ _ _)
  | succ j=>simp at b
theorem GP (z:Value):((ofV z).cells.map AV.d).length=z.cells.size:=by
 by_cases h:∃c,z=.agg c
 ·obtain⟨c,rfl⟩:=h;simp[ofV,D.cells,Value.cells]
 ·obtain⟨a,b⟩:=QfD (z:=z) fun c hc=>h ⟨c,hc⟩;rw[a,wE,b];simp
theorem Qff {M:Nat->Prop}{cs:List AV}{C:Array Value}(b:cs.length=C.size)(hc:∀(j:Nat) (a:AV) (y:Value),cs[j]?=some a->C[j]?=some y->VR w M hp ρ a y) :
  VR w M hp ρ (AV.norm (.agg cs)) (.agg C):=by
 have:=VR.agg (w:=w) (M:=M) (hp:=hp) (ρ:=ρ) cs C.toList (by simpa using b) (fun i c y hi d=>hc i c y hi (by simpa using d));rw[Array.toArray_toList] at this;exact Ug this
theorem wB {M:Nat->Prop}(hev:∀x,VR w M hp ρ (ev x) (re x))(parts:List (Nat×Operand)) :
  (parts.map fun p=>(p.1,re p.2)).map (·.1)=(parts.map fun p=>(p.1,ev p.2)).map (·.1) /\
  ∀(i:Nat) p q,(parts.map fun p=>(p.1,ev p.2))[i]?=some p->(parts.map fun p=>(p.1,re p.2))[i]?=some q->VR w M hp ρ p.2 q.2:=by
 refine⟨by simp[List.map_map,Function.comp_def],fun i p q a b=>?_⟩;simp only[List.getElem?_map] at a b;cases hx:parts[i]? with
 | none=>rw[hx] at a;cases a
 | some x =>
  rw[hx] at a b;simp only[Option.map_some,jIj] at a b;subst a;subst b;exact hev x.2
theorem Qee (hev:∀x,VR w (MM F hp ρ) hp ρ (ev x) (re x)){t:TypeId}{parts:Array (Nat×Operand)}{y:AV}
  (a:Qfk cx t (parts.toList.map fun p=>(p.1,ev p.2))=some y) :
  ∃v,(Instr.build t (parts.map fun(i,x)=>(i,re x))).run cx.P w=.ok v w/\VR w (MM F hp ρ) hp ρ y v:=by
 unfold Qfk at a;split at a
 ·cases a
 rename_i z u;obtain⟨A,E⟩:=wB hev parts.toList;have d:(parts.map fun(p:Nat×Operand)=>(p.1,re p.2)).toList=parts.toList.map fun p=>(p.1,re p.2):=by simp
 split at a
 ·rename_i fields o;split at a;case h_2=>cases a
  rename_i e m;split at a;case h_2=>cases a
  rename_i cs b;simp only[jIj] at a;subst a;obtain⟨g,h,j,k⟩:=uX (C:=z.cells) _ _ _ _ b A E (GP z) (J7 z);refine⟨.agg g,?_,Qff j k⟩;have c : (fields.mapM fun(f:Field)=>do pure (f.offset,<-sizeOf f.type):Sem (Array (Nat×Nat))).run cx.P w=.ok e.toArray w:=by rw[Array.mapM_eq_mapM_toList];simp only[Sem.run_map,QdI fields.toList e m,Result.andThen_ok]
  simp only[Instr.build,Sem.run_bind,Y2 u,Result.andThen_ok,Qk o,c];have l:(fun i=>e.toArray[i]?)=nth e:=by funext i;rw[ZY];simp
  rw[d,l,h];rfl
 ·rename_i n q o;split at a;case h_2=>cases a
  rename_i s G;split at a;case h_2=>cases a
  rename_i cs b;simp only[jIj] at a;subst a;obtain⟨g,h,j,k⟩:=uX (C:=z.cells) _ _ _ _ b A E (GP z) (J7 z);refine⟨.agg g,?_,Qff j k⟩;simp only[Instr.build,Sem.run_bind,Y2 u,Result.andThen_ok,Qk o,run_sizeOf G];rw[d,h];rfl
 ·cases a
theorem E8 (h:HSim cx F hp ρ w)(fz:List Nat){s:Nat}:∀(parts:List (Nat×AV)) (vs:List (Nat×Value)) (n:Nat) (es:jVj) (J:List Nat) (C:Array Value),Y6 hp s n parts=some (es,J) ->
  (∀b,b∈J->b∈fz)->vs.map (·.1)=parts.map (·.1)->(∀(i:Nat) p q,parts[i]?=some p->vs[i]?=some q->VR w (MM F hp ρ) hp ρ p.2 q.2) ->
  (n+parts.length)*s<=C.size ->
  ∃o,Instr.fill (fun i=>some (i*s,s)) C vs=some o/\o.size=C.size/\(∀k,k<n*s->o[k]?=C[k]?)/\es.length=parts.length /\
   ∀(i:Nat) (e:D),es[i]?=some e->e.cells.length=s/\∀(j:Nat) (a:D),e.cells[j]?=some a->∃y,o[(n+i)*s+j]?=some y/\one y=true/\DR w (MM F (Qd hp fz++hp) ρ) a y:=by
 intro parts;induction parts with
 | nil =>
  intro vs n es J C c _ l _ _;simp only[Y6,jIj,jPj] at c;obtain⟨rfl,rfl⟩:=c;cases vs with
  | nil=>exact⟨C,rfl,rfl,fun _ _=>rfl,rfl,fun i e z=>by simp at z⟩
  | cons _ _=>simp at l
 | cons p parts ih =>
  intro vs n es J C c A l Y W;obtain⟨i,x⟩:=p;cases vs with
  | nil=>simp at l
  | cons q vs =>
   obtain⟨i',v⟩:=q;simp only[jCj,List.cons.injEq] at l;obtain⟨hi,l⟩:=l;subst hi;simp only[Y6] at c;split at c;case h_2=>cases c
   rename_i cs y Z ys f2 L hy Q;split at c;case h_2=>cases c
   rename_i zs f H;split at c;case h_2=>cases c
   rename_i S;simp only[jIj,jPj] at c;obtain⟨rfl,rfl⟩:=c;simp only[jAj] at f;have h1:=Z1 f.1;have h2:=Z1 f.2;have V:=Z1 S;have m:=Y 0 _ _ rfl rfl;simp only at m;obtain⟨y1,y2,y3⟩:=Yp L m;have X:v.cells.toList.length=s:=by rw[Array.length_toList];omega
   simp only[List.length_cons] at W;have a1:n*s+s<=C.size:=by have:(n+1)*s<=(n+(parts.length+1))*s:=Nat.mul_le_mul_right _ (by omega);rw[Nat.add_mul,Nat.one_mul] at this;omega
   obtain⟨o,g1,g2,U,g4,g5⟩:=ih vs (n+1) ys f2 (Ky C (n*s) v.cells.toList) Q (fun b f=>A b (List.mem_append.2 (.inr f))) l
    (fun k p q P hq=>Y (k+1) p q (by simpa using P) (by simpa using hq)) (by rw[Ud,show n+1+parts.length=n+(parts.length+1) from by omega];exact W)
   have N:=Z8 h fz x v y Z hy (fun b f=>A b (List.mem_append.2 (.inl f))) m;refine⟨o,?_,by rw[g2,Ud],fun k hk=>?_,by simp[g4],fun i e z=>?_⟩
   ·simp only[Instr.fill,h1];rw[jFj (by simp only[ne_eq,Bool.or_eq_true,decide_eq_true_eq,not_or];omega),jV];exact g1
   ·have O:k<(n+1)*s:=by rw[Nat.add_mul,Nat.one_mul];omega
    rw[U k O,V8 _ _ _ (by omega),jFj (by omega)]
   ·cases i with
    | zero =>
     simp only[jzj,jIj] at z;subst z;have g:=KX H;refine⟨by subst g;simpa using V,fun j a K=>?_⟩;have a0:j<s:=by have:=(jGj K).1;subst g;simp at V;omega
     have u:=Yp (w:=w) (M:=MM F (Qd hp fz++hp) ρ) (hp:=hp) (ρ:=ρ) H (.d _ _ N);have E:zs[j]?=some (.d a):=by subst g;simp[K]
     obtain⟨q,T,t⟩:=u.2.2 j (.d a) E;have G:=Jb (Yi u.2.1 E) t;cases t;rename_i t;refine⟨q,?_,G,t⟩;rw[Nat.add_zero,U _ (by rw[Nat.add_mul,Nat.one_mul];omega),V8 _ _ _ (by omega),jTj (by omega),Array.getElem?_toList,<-T];congr 1;omega
    | succ i =>
     obtain⟨T,t⟩:=g5 i e (by simpa using z);refine⟨T,fun j a K=>?_⟩;rw[show n+(i+1)=n+1+i from by omega];exact t j a K
theorem XE (h:HSim cx F hp ρ w)(hev:∀x,VR w (MM F hp ρ) hp ρ (ev x) (re x)){t b:TypeId}{len s:Nat}{z:Value}{parts:Array (Nat×Operand)}{es:jVj}{f:List Nat}
  (U:cx.P.underlying t=some (.slice b)) (T:cx.sz b=some s) (W:cx.zero b=some z) (Q:Y6 hp s 0 (parts.toList.map fun p=>(p.1,ev p.2))=some (es,f))
  (S:len*s<=16777216) (c:parts.toList.length=len) :
  ∃v w',(Instr.buildSlice t len (parts.map fun(i,x)=>(i,re x))).run cx.P w=.ok v w'/\OpOK cx F hp ρ w (Qd hp f) (.d (.lst true s es)) v w':=by
 obtain⟨Z,p2⟩:=wB hev parts.toList;have q:(parts.map fun(p:Nat×Operand)=>(p.1,re p.2)).toList=parts.toList.map fun p=>(p.1,re p.2):=by simp
 let m:Array Value:=if len*s=0 then #[] else z.cells;obtain⟨k,A,g2,g3,N,E⟩:=E8 h f _ _ 0 es f ((Array.range (len*s)).map (m[· % m.size]!)) Q (fun _ h=>h) Z p2 (by simp[c]);refine⟨.slice (some ⟨w.heap.size,0,none⟩) len len,w.alloc (.cells k b),?_,?_⟩
 ·simp only[Instr.buildSlice,Sem.run_bind,Qk U,Result.andThen_ok,run_sizeOf T];rw[jFj (by omega)];by_cases C:len*s=0
  ·have g:m=#[]:=by simp[m,C]
   rw[g] at A;rw[jTj C];simp only[Sem.run_bind,Sem.run_pure,Result.andThen_ok];rw[q,A];simp only[newRow,Sem.run_bind,run_newObj,Result.andThen_ok,Sem.run_pure,World.alloc_eq]
  ·have g:m=z.cells:=by simp[m,C]
   rw[g] at A;rw[jFj C];simp only[Sem.run_bind,Sem.run_pure,Y2 W,Result.andThen_ok];rw[q,A];simp only[newRow,Sem.run_bind,run_newObj,Result.andThen_ok,Sem.run_pure,World.alloc_eq]
 ·obtain⟨K,X⟩:=h.freeze f;obtain⟨Y,L⟩:=K.alloc (.cells k b);refine⟨ρ,Y,X.trans L,.d _ _ ?_⟩;have J:es.length=len:=by rw[N];simpa using c
  have G:¬MM F (Qd hp f++hp) ρ w.heap.size:=by
   rintro(O|G)
   ·have:=h.bnd _ O;omega
   ·have:=K.mut_lt G;omega
  have u:=DR.lst (w:=w.alloc (.cells k b)) (M:=MM F (Qd hp f++hp) ρ) true s es (some ⟨w.heap.size,0,none⟩) es.length w.heap.size 0 (fun n=>k.getD n undef)
   (fun _=>rfl) (jLj _) (fun _=>⟨rfl,G,by simp⟩) (fun i e o=>(E i e o).1)
   (fun i e j a o H=>by
    obtain⟨y,l,yo,_⟩:=(E i e o).2 j a H;rw[Nat.zero_add] at l ⊢;have V:k.getD (i*s+j) undef=y:=by simp[Array.getD_eq_getD_getElem?,l]
    rw[YS (Z2 _ _),V];exact⟨l,yo⟩)
   (fun i e j a o H=>by
    obtain⟨y,l,_,y2⟩:=(E i e o).2 j a H;rw[Nat.zero_add] at l;have:k.getD (i*s+j) undef=y:=by simp[Array.getD_eq_getD_getElem?,l]
    rw[this];exact L.dr y2)
  rw[J] at u;exact u
theorem Qb5 (h:HSim cx F hp ρ w)(hev:∀x,VR w (MM F hp ρ) hp ρ (ev x) (re x)){t:TypeId}{len name:Nat}{parts:Array (Nat×Operand)}{xs:List AV}{orc:List Orc}{r:R}
  (b:K5 0 (parts.toList.map fun p=>(p.1,ev p.2))=some xs) (a:Qb6 cx hp name t len xs orc=some r) :
  ∃v w',(Instr.buildSlice t len (parts.map fun(i,x)=>(i,re x))).run cx.P w=.ok v w'/\OpOK cx F hp ρ w r.up r.val v w':=by
 unfold Qb6 at a;cases a
end
section
variable {cx:Cx}{F:Nat->Prop}{hp:List (Nat×Blk)}{ρ:Nat->Value}{w:World}{re:Operand->Value}{ev:Operand->AV}{sym:Bool}{orc:List Orc}{r:R}
theorem wR {M:Nat->Prop}{full:Bool}{sz:Nat}{b:jVj}{x:Value}(h:DR w M (.lst full sz b) x) :
  ∃a cap,x=.slice a b.length cap/\b.length<=cap/\(full=true->cap=b.length)/\∃f:List Value,f.length=b.length*sz /\
   (∀(P:Program) (w' : World),w'.heap=w.heap->∀m,m<=b.length->(Builtin.firstCells sz m x).run P w'=.ok (f.take (m*sz)).toArray w') /\
   (∀u,u∈f->one u=true)/\(∀(i:Nat) (d:D),b[i]?=some d->d.cells.length=sz) /\
   ∀(i:Nat) (d:D) (j:Nat) (c:D),b[i]?=some d->d.cells[j]?=some c->∃y,f[i*sz+j]?=some y/\one y=true/\DR w M c y:=by
 cases h with
 | lst _ _ _ a cap blk off ys N hc K t C L =>
  refine⟨a,cap,rfl,hc,N,(List.range (b.length*sz)).map ys,by simp,?_,?_,t,?_⟩
  ·intro P w' E m H;by_cases q:b=[]
   ·subst q;have A:m=0:=by simpa using H
    subst A;cases a with
    | none=>simp[Builtin.firstCells]
    | some a=>simp[Builtin.firstCells,loadCells,loadCellsFrom]
   ·obtain⟨rfl,_,_⟩:=K q;simp only[Builtin.firstCells];have O:m*sz<=b.length*sz:=Nat.mul_le_mul_right _ H;refine KT P w' blk off _ _ (by rw[List.length_take,jlj,List.length_range];omega) fun k v o=>?_;rw[List.getElem?_take] at o;split at o;case isFalse=>cases o
    have g:k<b.length*sz:=by have:=(jGj o).1;simpa using this
    have G:0<sz:=by
     obtain p|p:=Nat.eq_zero_or_pos sz
     ·subst p;simp at g
     ·exact p
    have hi:k / sz<b.length:=Nat.div_lt_of_lt_mul (by rw[Nat.mul_comm];exact g);have s:k % sz<sz:=Nat.mod_lt _ G;have l:b[k / sz]?=some b[k / sz]:=by simp[hi]
    have z:=t _ _ l;have e:b[k / sz].cells[k % sz]?=some b[k / sz].cells[k % sz]:=by simp[z,s]
    have:=(C _ _ _ _ l e).1;rw[show k / sz*sz+k % sz=k from by rw[Nat.mul_comm];exact Nat.div_add_mod k sz] at this;simp only[List.getElem?_map,List.getElem?_range g,Option.map_some,jIj] at o;rw[<-o];unfold World.cell? at this ⊢;rw[E];exact this
  ·intro u J;simp only[List.mem_map,List.mem_range] at J;obtain⟨k,g,rfl⟩:=J;have G:0<sz:=by
    obtain p|p:=Nat.eq_zero_or_pos sz
    ·subst p;simp at g
    ·exact p
   have hi:k / sz<b.length:=Nat.div_lt_of_lt_mul (by rw[Nat.mul_comm];exact g);have s:k % sz<sz:=Nat.mod_lt _ G;have l:b[k / sz]?=some b[k / sz]:=by simp[hi]
   have z:=t _ _ l;have e:b[k / sz].cells[k % sz]?=some b[k / sz].cells[k % sz]:=by simp[z,s]
   have:=(C _ _ _ _ l e).2;rw[show k / sz*sz+k % sz=k from by rw[Nat.mul_comm];exact Nat.div_add_mod k sz] at this;exact this
  ·intro i d j c n e;have hi:i<b.length:=(jGj n).1;have s:j<sz:=by have:=(jGj e).1;have:=t i d n;omega
   have o:i*sz+j<b.length*sz:=by have:(i+1)*sz<=b.length*sz:=Nat.mul_le_mul_right _ hi;rw[Nat.add_mul,Nat.one_mul] at this;omega
   exact⟨ys (i*sz+j),by simp[o],(C i d j c n e).2,L i d j c n e⟩
theorem Y7 {M:Nat->Prop}{full:Bool}{sz:Nat}{e:jVj}{x:Value}(h:DR w M (.lst full sz e) x) :
  ∃a cap,x=.slice a e.length cap/\e.length<=cap/\(full=true->cap=e.length)/\∃b:List Value,b.length=e.length*sz /\
   (∀(P:Program) (w' : World),w'.heap=w.heap->(Builtin.firstCells sz e.length x).run P w'=.ok b.toArray w') /\
   (∀u,u∈b->one u=true)/\(∀(i:Nat) (d:D),e[i]?=some d->d.cells.length=sz) /\
   ∀(i:Nat) (d:D) (j:Nat) (c:D),e[i]?=some d->d.cells[j]?=some c->∃y,b[i*sz+j]?=some y/\one y=true/\DR w M c y:=by
 obtain⟨a,cap,k,l,m,b,g,n,o⟩:=wR h;refine⟨a,cap,k,l,m,b,g,fun P w' f=>?_,o⟩;have:=n P w' f e.length (jLj _);rw[<-g,List.take_length] at this;exact this
theorem Y9 {t u c:TypeId}{sz b:Nat}{z:Value}{ats:List TypeId}{ty:TypeId}(Q:cx.P.underlying t=some (.slice c))(k:Ja cx u=true)(O:cx.sz c=some sz)(q:cx.bytes c=some b)
  (X:cx.zero c=some z) {a xa:Option Addr} {n cap m xc:Nat} {j e:List Value} (W:n<=cap)
  (o:∀w' : World,w'.heap=w.heap->(Builtin.firstCells sz n (.slice a n cap)).run cx.P w'=.ok j.toArray w')
  (g:∀w' : World,w'.heap=w.heap->(Builtin.firstCells sz m (.slice xa m xc)).run cx.P w'=.ok e.toArray w')
  (d:(n+m)*b<=140737488355328/\0<b) :
  ((n+m<=cap->(Builtin.append_ (t::u::ats).toArray ty #[.slice a n cap,.slice xa m xc]).run cx.P w =
    ((match a with|some p=>storeCells (p.add (n*sz)) e|none=>pure ()).run cx.P w).andThen fun _ w'=>.ok (.slice a (n+m) cap) w') /\
   (cap<n+m->∃N,n+m<=N/\(Builtin.append_ (t::u::ats).toArray ty #[.slice a n cap,.slice xa m xc]).run cx.P w =
    .ok (.slice (some ⟨w.heap.size,0,none⟩) (n+m) N) (w.drew.alloc (.cells (j.toArray++e.toArray++Builtin.zeroCells z.cells (N - (n+m))) c)))):=by
 have hi:∃i,cx.P.info? c=some i/\i.bytes=b:=by
  unfold Cx.bytes at q;split at q
  ·rename_i i hi;exact⟨i,hi,by simpa using q⟩
  ·cases q
 obtain⟨i,hi,K⟩:=hi;have s:n+m<=140737488355328:=by
  calc n+m=(n+m)*1:=by omega
   _<=(n+m)*b:=Nat.mul_le_mul_left _ d.2
   _<=_:=d.1
 have f:∃v,cx.P.underlying u=some (.slice v):=by
  unfold Ja at k;split at k
  ·rename_i v h;exact⟨v,h⟩
  ·cases k
 obtain⟨Y,f⟩:=f;refine⟨fun L=>?_,fun M=>?_⟩
 ·have x:=g w rfl;have C:=run_sizeOf O w;have E:=Qk Q w;have G:=Qk f w;simp[Builtin.append_,C,E,G,Builtin.lenOf,L,x];cases a<;>simp
 ·have x:=g w.drew rfl;have y:=o w.drew rfl;have C:=run_sizeOf O w;have E:=Qk Q w;have G:=Qk f w;have Z:=growslice_fits M d.1;have S:=Jv hi w;have H:=Jv hi w.drew;have T:=Y2 X w.drew;refine⟨grownCap w (n+m) cap c,grownCap_ge _ _ _ _,?_⟩;have J:¬n+m<=cap:=by omega
  have l:¬(9223372036854775807<(n:Int)+(m:Int)):=by omega
  subst K;have U:¬(281474976710656<Builtin.nextslicecap (n+m) cap*i.bytes):=by omega
  have V:(Question.appendCap (n+m) cap c).forced=false:=rfl;have A:(Question.appendCap (n+m) cap c).cut (w.tape w.drawn (Question.appendCap (n+m) cap c))=grownCap w (n+m) cap c:=rfl;simp[Builtin.append_,C,E,G,Builtin.lenOf,J,S,l,U,V,A,H,x,y,T,newRow,Array.append_assoc];rw[<-Array.append_assoc];simp
def RowIn (w:World)(M:Nat->Prop)(sz:Nat)(es:jVj)(c:Array Value):Prop :=
 (∀(i:Nat) (d:D),es[i]?=some d->d.cells.length=sz) /\
 ∀(i:Nat) (d:D) (j:Nat) (a:D),es[i]?=some d->d.cells[j]?=some a->∃y,c[i*sz+j]?=some y/\one y=true/\DR w M a y
theorem RowIn.mono {w' : World}{M M' : Nat->Prop}{sz:Nat}{es:jVj}{c:Array Value}(h:RowIn w M sz es c)(g:∀x y,DR w M x y->DR w' M' x y):RowIn w' M' sz es c :=
 ⟨h.1,fun i d j a hi k=>by obtain⟨y,b,e,f⟩:=h.2 i d j a hi k;exact⟨y,b,e,g _ _ f⟩⟩
theorem qc {i j n sz:Nat}(hi:i<n)(a:j<sz):i*sz+j<n*sz:=by have:(i+1)*sz<=n*sz:=Nat.mul_le_mul_right _ hi;rw[Nat.add_mul,Nat.one_mul] at this;omega
theorem RowIn.append {M:Nat->Prop}{sz:Nat}{es f:jVj}{c n : Array Value}{b:List Value}(h:RowIn w M sz es c)
  (g:∀(i:Nat) (d:D),f[i]?=some d->d.cells.length=sz)
  (u:∀(i:Nat) (d:D) (j:Nat) (a:D),f[i]?=some d->d.cells[j]?=some a->∃y,b[i*sz+j]?=some y/\one y=true/\DR w M a y)
  (s:∀k,k<es.length*sz->n[k]?=c[k]?) (t:∀k,k<f.length*sz->n[es.length*sz+k]?=b[k]?):RowIn w M sz (es++f) n:=by
 refine⟨fun i d hi=>?_,fun i d j a hi l=>?_⟩
 ·by_cases m:i<es.length
  ·rw[List.getElem?_append_left m] at hi;exact h.1 i d hi
  ·rw[List.getElem?_append_right (by omega)] at hi;exact g _ d hi
 ·by_cases m:i<es.length
  ·rw[List.getElem?_append_left m] at hi;have e:j<sz:=by have:=(jGj l).1;have:=h.1 i d hi;omega
   obtain⟨y,p,q⟩:=h.2 i d j a hi l;exact⟨y,by rw[s _ (qc m e)];exact p,q⟩
  ·rw[List.getElem?_append_right (by omega)] at hi;have e:j<sz:=by have:=(jGj l).1;have:=g _ d hi;omega
   have o:i - es.length<f.length:=(jGj hi).1;obtain⟨y,p,q⟩:=u _ d j a hi l;refine⟨y,?_,q⟩;rw[show i*sz+j=es.length*sz+((i - es.length)*sz+j) from by rw[<-Nat.add_assoc,<-Nat.add_mul];congr 2;omega];rw[t _ (qc o e)];exact p
theorem Xh {a:TypeId}{sz:Nat}(h:ET cx a sz=true):∃z,cx.zero a=some z/\z.cells.size=sz/\∀u,u∈z.cells.toList->one u=true:=by
 unfold ET at h;split at h
 ·rename_i z b;simp only[jAj,List.all_eq_true] at h;exact⟨z,b,Z1 h.1,h.2⟩
 ·cases h
theorem Kh (h:HSim cx F hp ρ w){p:List Nat}{x:AV}{u:Value}{asz sz:Nat}{g:jVj}
  (o:UL hp x=some (asz,g,p)) (f:asz=sz\/g=[]) (q:VR w (MM F hp ρ) hp ρ x u) :
  ∃xa xc b,u=.slice xa g.length xc/\b.length=g.length*sz/\(∀w' : World,w'.heap=w.heap->(Builtin.firstCells sz g.length (.slice xa g.length xc)).run cx.P w'=.ok (List.toArray b) w') /\
   (∀v,v∈b->one v=true)/\(∀(i:Nat) (d:D),g[i]?=some d->d.cells.length=sz) /\
   (∀(i:Nat) (d:D) (j:Nat) (c:D),g[i]?=some d->d.cells[j]?=some c->∃y,b[i*sz+j]?=some y/\one y=true/\DR w (MM F (Qd hp p++hp) ρ) c y):=by
 have k:∃full,DR w (MM F (Qd hp p++hp) ρ) (.lst full asz g) u:=by unfold UL at o;split at o<;>simp only[jIj,reduceCtorEq,jPj] at o;rename_i full H z l m;obtain⟨rfl,rfl,rfl⟩:=o;exact⟨full,Z8 h l x u _ l m (fun _ h=>h) q⟩
 obtain⟨full,k⟩:=k;obtain⟨xa,xc,rfl,A,_,b,s,t,C,E,G⟩:=Y7 k;refine⟨xa,xc,b,rfl,?_,?_,C,?_,?_⟩
 ·obtain e|e:=f
  ·rw[<-e];exact s
  ·rw[e] at s ⊢;simpa using s
 ·intro w' n;obtain e|e:=f
  ·rw[<-e];exact t _ _ n
  ·have:=t cx.P w' n;subst e;cases xa with
   | none=>simpa[Builtin.firstCells] using this
   | some a=>simpa[Builtin.firstCells,loadCells,loadCellsFrom] using this
 ·obtain e|e:=f
  ·rw[<-e];exact E
  ·subst e;intro i d m;simp at m
 ·obtain e|e:=f
  ·rw[<-e];exact G
  ·subst e;intro i d j c m;simp at m
theorem G0 (h:HSim cx F hp ρ w){t t2 f:TypeId}{ats:List TypeId}{ty:TypeId}{sz M N b nv:Nat}{z sv:Value}{es g:jVj}{q:List Nat}{x:AV}{u:Value}{asz:Nat}
  (hu:cx.P.underlying t=some (.slice f)) (a3:Ja cx t2=true) (hs:cx.sz f=some sz) (hb:cx.bytes f=some N) (hz:cx.zero f=some z) (a5:z.cells.size=sz)
  (a1:DR w (MM F hp ρ) (.lst true M es) sv) (l:M=sz\/es=[]) (o:∀k0,look (Qd hp q++hp) b=some k0->k0.ver<nv\/False) (hx:UL hp x=some (asz,g,q)) (A:asz=sz\/g=[])
  (V:g≠[]) (a4:VR w (MM F hp ρ) hp ρ x u) (p:(es.length+g.length)*N<=140737488355328/\0<N) :
  ∃v w',(Builtin.append_ (t::t2::ats).toArray ty #[sv,u]).run cx.P w=.ok v w' /\
   OpOK cx F hp ρ w ((b,.row nv sz (es++g))::Qd hp q) (.own b nv) v w':=by
 obtain⟨g1,g2⟩:=h.freeze q;obtain⟨xa,xc,m,rfl,W,Q,n3,S,T⟩:=Kh h hx A a4;have K:=g2.dr a1;obtain⟨sa,sc,rfl,J,n,c,o1,o2,o3,o4,o5⟩:=Y7 K;have J:=n rfl;subst J;have Y:c.length=es.length*sz:=by
  obtain e|e:=l
  ·rw[<-e];exact o1
  ·rw[e] at o1 ⊢;simpa using o1
 have X:∀w' : World,w'.heap=w.heap->(Builtin.firstCells sz es.length (.slice sa es.length es.length)).run cx.P w'=.ok c.toArray w':=by
  intro w' L;obtain e|e:=l
  ·rw[<-e];exact o2 _ _ L
  ·have:=o2 cx.P w' L;subst e;cases sa with
   | none=>simpa[Builtin.firstCells] using this
   | some a=>simpa[Builtin.firstCells,loadCells,loadCellsFrom] using this
 have G:RowIn w (MM F (Qd hp q++hp) ρ) sz es c.toArray:=by
  obtain e|e:=l
  ·rw[<-e];refine⟨o4,fun i d j a hi hj=>?_⟩;obtain⟨y,y1,y2⟩:=o5 i d j a hi hj;exact⟨y,by simpa using y1,y2⟩
  ·subst e;exact⟨fun i d hi=>by simp at hi,fun i d j a hi=>by simp at hi⟩
 have a6:0<g.length:=by cases g with
  | nil=>exact absurd rfl V
  | cons _ _=>simp
 obtain⟨_,a2⟩:=Y9 (cx:=cx) (w:=w) (ats:=ats) (ty:=ty) hu a3 hs hb hz (a:=sa) (cap:=es.length) (xa:=xa) (xc:=xc) (jLj _) X Q p;obtain⟨s,U,H⟩:=a2 (by omega);refine⟨_,_,H,?_⟩;obtain⟨d1,d2⟩:=g1.drew;have C:(c.toArray++m.toArray++Builtin.zeroCells z.cells (s - (es.length+g.length))).size=s*sz:=by simp only[Array.size_append,List.size_toArray,size_zeroCells,a5,W,Y];rw[<-Nat.add_mul,<-Nat.add_mul];congr 1;omega
 obtain⟨k1,k2⟩:=d1.fresh (b:=b) (k:=.row nv sz (es++g)) (v:=.slice (some ⟨w.heap.size,0,none⟩) (es.length+g.length) s)
  (c.toArray++m.toArray++Builtin.zeroCells z.cells (s - (es.length+g.length))) f (fun r hr=>by rw[Q8 (by omega)] at hr;exact(Option.some.inj hr).symm) (fun k0 O=>(o k0 O).resolve_right id)
  (fun a0=>by
   have Z:RowIn w (MM F (Qd hp q++hp) ρ) sz (es++g) (c.toArray++m.toArray++Builtin.zeroCells z.cells (s - (es.length+g.length))) :=
    G.append S T (fun k hk=>by
      rw[Array.append_assoc,Array.getElem?_append_left (by simp;omega)]) (fun k hk=>by
      rw[Array.append_assoc,Array.getElem?_append_right (by simp;omega)];have:es.length*sz+k - c.toArray.size=k:=by simp;omega
      rw[this,Array.getElem?_append_left (by simp;omega)];simp)
   have E:=Z.mono (fun x y hd=>(d2.trans a0).dr hd);exact .inr ⟨w.heap.size,_,f,s,by rw[Qx,jaj],⟨by rw[jaj];exact U,by omega⟩,by rw[C];exact jLj _,Z2 _ _,E.1,E.2⟩)
 exact⟨_,k1,(g2.trans d2).trans k2,.own b nv _ _ (Qf _ _ _) (jLj _) rfl fun _=>(Qx _ _ _).symm⟩
theorem QcF (h:HSim cx F hp ρ w){t t2 b:TypeId}{ats:List TypeId}{ty:TypeId}{sz S T:Nat}{z sv:Value}{es g:jVj}{s:List Nat}{x:AV}{u:Value}{asz:Nat}
  (hu:cx.P.underlying t=some (.slice b)) (a8:Ja cx t2=true) (hs:cx.sz b=some sz) (hb:cx.bytes b=some T) (hz:cx.zero b=some z) (b2:z.cells.size=sz)
  (a7:DR w (MM F hp ρ) (.lst true S es) sv) (m:S=sz\/es=[]) (hx:UL hp x=some (asz,g,s)) (G:asz=sz\/g=[])
  (a1:g≠[]) (a9:VR w (MM F hp ρ) hp ρ x u) (p:(es.length+g.length)*T<=140737488355328/\0<T) :
  ∃v w',(Builtin.append_ (t::t2::ats).toArray ty #[sv,u]).run cx.P w=.ok v w' /\
   OpOK cx F hp ρ w (Qd hp s) (.d (.lst false sz (es++g))) v w':=by
 obtain⟨U,g2⟩:=h.freeze s;obtain⟨xa,xc,f,rfl,a3,X,n3,Y,Z⟩:=Kh h hx G a9;have N:=g2.dr a7;obtain⟨sa,sc,rfl,L,n,c,o1,o2,o3,o4,o5⟩:=Y7 N;have L:=n rfl;subst L;have a5:c.length=es.length*sz:=by
  obtain e|e:=m
  ·rw[<-e];exact o1
  ·rw[e] at o1 ⊢;simpa using o1
 have a4:∀w' : World,w'.heap=w.heap->(Builtin.firstCells sz es.length (.slice sa es.length es.length)).run cx.P w'=.ok c.toArray w':=by
  intro w' O;obtain e|e:=m
  ·rw[<-e];exact o2 _ _ O
  ·have:=o2 cx.P w' O;subst e;cases sa with
   | none=>simpa[Builtin.firstCells] using this
   | some a=>simpa[Builtin.firstCells,loadCells,loadCellsFrom] using this
 have J:RowIn w (MM F (Qd hp s++hp) ρ) sz es c.toArray:=by
  obtain e|e:=m
  ·rw[<-e];refine⟨o4,fun i d j a hi H=>?_⟩;obtain⟨y,E,y2⟩:=o5 i d j a hi H;exact⟨y,by simpa using E,y2⟩
  ·subst e;exact⟨fun i d hi=>by simp at hi,fun i d j a hi=>by simp at hi⟩
 have b4:0<g.length:=by cases g with
  | nil=>exact absurd rfl a1
  | cons _ _=>simp
 obtain⟨_,a2⟩:=Y9 (cx:=cx) (w:=w) (ats:=ats) (ty:=ty) hu a8 hs hb hz (a:=sa) (cap:=es.length) (xa:=xa) (xc:=xc) (jLj _) a4 X p;obtain⟨A,a0,K⟩:=a2 (by omega);refine⟨_,_,K,?_⟩;obtain⟨d1,d2⟩:=U.drew;have b3:(c.toArray++f.toArray++Builtin.zeroCells z.cells (A - (es.length+g.length))).size=A*sz:=by simp only[Array.size_append,List.size_toArray,size_zeroCells,b2,a3,a5];rw[<-Nat.add_mul,<-Nat.add_mul];congr 1;omega
 obtain⟨k1,k2⟩:=d1.alloc (.cells (c.toArray++f.toArray++Builtin.zeroCells z.cells (A - (es.length+g.length))) b);have a6:RowIn w (MM F (Qd hp s++hp) ρ) sz (es++g) (c.toArray++f.toArray++Builtin.zeroCells z.cells (A - (es.length+g.length))) :=
  J.append Y Z (fun k hk=>by
    rw[Array.append_assoc,Array.getElem?_append_left (by simp;omega)]) (fun k hk=>by
    rw[Array.append_assoc,Array.getElem?_append_right (by simp;omega)];have:es.length*sz+k - c.toArray.size=k:=by simp;omega
    rw[this,Array.getElem?_append_left (by simp;omega)];simp)
 have o:=a6.mono (fun x y hd=>(d2.trans k2).dr hd);generalize hC:c.toArray++f.toArray++Builtin.zeroCells z.cells (A - (es.length+g.length))=C at *;have l:(w.drew.alloc (.cells C b)).heap[w.heap.size]?=some (.cells C b (0,0)):=Z2 w.drew _;have W:w.heap.size<(w.drew.alloc (.cells C b)).heap.size:=by
  obtain q|q:=Nat.lt_or_ge w.heap.size (w.drew.alloc (.cells C b)).heap.size
  ·exact q
  ·rw[Array.getElem?_eq_none q] at l;cases l
 refine⟨ρ,k1,(g2.trans d2).trans k2,.d _ _ ?_⟩;have Q:=DR.lst (w:=w.drew.alloc (.cells C b)) (M:=MM F (Qd hp s++hp) ρ) false sz (es++g) (some ⟨w.heap.size,0,none⟩) A w.heap.size 0 (fun q=>C.getD q undef) (fun q=>by cases q) (by rw[jaj];exact a0)
  (fun _=>⟨rfl,fun q=>by
   obtain q|q:=q
   ·exact Nat.lt_irrefl _ (U.bnd _ q)
   ·exact Nat.lt_irrefl _ (U.mut_lt q),W⟩) o.1
  (fun i d j a hi H=>by
   obtain⟨y,E,y2,_⟩:=o.2 i d j a hi H;have V:C.getD (i*sz+j) undef=y:=by simp[Array.getD_eq_getD_getElem?,E]
   simp only[V];refine⟨?_,y2⟩;simp only[World.cell?,l,Nat.zero_add,Option.isSome_none];simp[E])
  (fun i d j a hi H=>by
   obtain⟨y,E,_,y3⟩:=o.2 i d j a hi H;have V:C.getD (i*sz+j) undef=y:=by simp[Array.getD_eq_getD_getElem?,E]
   show DR _ _ a (C.getD (i*sz+j) undef);rw[V];exact y3)
 rw[jaj] at Q;exact Q
theorem Qas (h:HSim cx F hp ρ w){t t2 m:TypeId}{ats:List TypeId}{ty:TypeId}{sz bt b ver:Nat}{z:Value}{es g:jVj}{n:List Nat}{x:AV}{u:Value}{asz:Nat}
  (hu:cx.P.underlying t=some (.slice m)) (W:Ja cx t2=true) (hs:cx.sz m=some sz) (hb:cx.bytes m=some bt) (hz:cx.zero m=some z) (b6:z.cells.size=sz)
  (b4:look hp b=some (.row ver sz es)) (M:x.toDH hp=some (.lst false asz g,n)\/x.toDH hp=some (.lst true asz g,n)) (o:asz=sz\/g=[]) (a6:n.contains b=false)
  (X:VR w (MM F hp ρ) hp ρ x u) (p:(es.length+g.length)*bt<=140737488355328/\0<bt) :
  ∃v w',(Builtin.append_ (t::t2::ats).toArray ty #[ρ b,u]).run cx.P w=.ok v w' /\
   OpOK cx F hp ρ w ((b,.row (ver+1) sz (es++g))::Qd hp n) (.own b (ver+1)) v w':=by
 obtain⟨g1,g2⟩:=h.freeze n;have a7:¬b∈n:=by
  intro hm;have:n.contains b=true:=by simpa using hm
  rw[this] at a6;cases a6
 have s:look (Qd hp n++hp) b=some (.row ver sz es):=by
  have:∀l:List Nat,¬b∈l->look (Qd hp l++hp) b=look hp b:=by
   intro l;induction l with
   | nil=>intro _;rfl
   | cons q l ih =>
    intro L;simp only[List.mem_cons,not_or] at L;simp only[Qd];split
    ·rw[List.cons_append,Qc _ _ (fun e=>L.1 e.symm)];exact ih L.2
    ·split
     ·rw[List.cons_append,Qc _ _ (fun e=>L.1 e.symm)];exact ih L.2
     ·exact ih L.2
    ·rw[List.cons_append,Qc _ _ (fun e=>L.1 e.symm)];exact ih L.2
    ·exact ih L.2
  rw[this n a7];exact b4
 have Q:∃full,DR w (MM F (Qd hp n++hp) ρ) (.lst full asz g) u:=by
  obtain M|M:=M
  ·exact⟨_,Z8 h n x u _ n M (fun _ h=>h) X⟩
  ·exact⟨_,Z8 h n x u _ n M (fun _ h=>h) X⟩
 obtain⟨full,Q⟩:=Q;obtain⟨xa,xc,rfl,c0,_,f,n1,n2,n3,n4,n5⟩:=Y7 Q;have T:f.length=g.length*sz:=by
  obtain e|e:=o
  ·rw[<-e];exact n1
  ·rw[e] at n1 ⊢;simpa using n1
 have a8:∀w' : World,w'.heap=w.heap->(Builtin.firstCells sz g.length (.slice xa g.length xc)).run cx.P w'=.ok f.toArray w':=by
  intro w' J;obtain e|e:=o
  ·rw[<-e];exact n2 _ _ J
  ·have:=n2 cx.P w' J;subst e;cases xa with
   | none=>simpa[Builtin.firstCells] using this
   | some a=>simpa[Builtin.firstCells,loadCells,loadCellsFrom] using this
 have a9:∀(i:Nat) (d:D),g[i]?=some d->d.cells.length=sz:=by
  obtain e|e:=o
  ·rw[<-e];exact n4
  ·subst e;intro i d O;simp at O
 have b2:∀(i:Nat) (d:D) (j:Nat) (c:D),g[i]?=some d->d.cells[j]?=some c->∃y,f[i*sz+j]?=some y/\one y=true/\DR w (MM F (Qd hp n++hp) ρ) c y:=by
  obtain e|e:=o
  ·rw[<-e];exact n5
  ·subst e;intro i d j c O;simp at O
 obtain⟨rfl,Y,q1⟩|⟨r,c,e,cap,q1,⟨q2,A⟩,q3,q4,q5,q6⟩:=g1.blk b _ s
 ·have b9:DR w (MM F hp ρ) (.lst true sz []) (ρ b):=by rw[q1];exact .lst true sz [] Y 0 0 0 (fun _=>undef) (fun _=>rfl) (jLj _) (fun h=>absurd rfl h) (fun i e h=>by simp at h) (fun i e j c h=>by simp at h) (fun i e j c h=>by simp at h)
  have a3:UL hp x=some (asz,g,n):=by unfold UL;obtain M|M:=M<;>rw[M]
  by_cases b3:g=[]
  ·subst b3;rw[q1];have G:∀w' : World,w'.heap=w.heap->(Builtin.firstCells sz 0 (.slice Y 0 0)).run cx.P w'=.ok (List.toArray []) w':=by
    intro w' J;cases Y with
    | none=>simp[Builtin.firstCells]
    | some a=>simp[Builtin.firstCells,loadCells,loadCellsFrom]
   obtain⟨a1,_⟩:=Y9 (cx:=cx) (w:=w) (ats:=ats) (ty:=ty) hu W hs hb hz (a:=Y) (cap:=0) (xa:=xa) (xc:=xc) (jLj _) G a8 p;have b7:f=[]:=by simpa using T
   subst b7;obtain⟨k1,k2⟩:=g1.renew s q1;exact⟨.slice Y 0 0,w,by rw[a1 (by simp)];cases Y<;>rfl,_,k1,g2.trans k2,.own b (ver+1) _ _ (Qf _ _ _) (jLj _) rfl fun _=>(Qx _ _ _).symm⟩
  ·have:=G0 (nv:=ver+1) (b:=b) (ats:=ats) (ty:=ty) h hu W hs hb hz b6 b9 (.inr rfl) (fun k0 E=>by rw[s] at E;cases E;exact .inl (Nat.lt_succ_self _)) a3 o b3 X p;simpa using this
 have N:RowIn w (MM F (Qd hp n++hp) ρ) sz es c:=⟨q5,q6⟩
 have a5:es.length*sz<=c.size:=Nat.le_trans (Nat.mul_le_mul_right _ q2) q3;-- the old cells
 have G:∀w' : World,w'.heap=w.heap->(Builtin.firstCells sz es.length (.slice (some ⟨r,0,none⟩) es.length cap)).run cx.P w'=.ok (c.toList.take (es.length*sz)).toArray w':=by
  intro w' J;simp only[Builtin.firstCells];refine KT cx.P w' r 0 _ _ (by simp;omega) fun k v K=>?_;rw[List.getElem?_take] at K;split at K
  ·rw[YS (by rw[J];exact q4),Nat.zero_add];simpa using K
  ·cases K
 obtain⟨a1,a2⟩:=Y9 (cx:=cx) (w:=w) (ats:=ats) (ty:=ty) hu W hs hb hz (a:=some ⟨r,0,none⟩) (xa:=xa) (xc:=xc) q2 G a8 p;rw[q1];by_cases S:es.length+g.length<=cap
 ·have C:0+es.length*sz+0+f.length<=c.size:=by rw[T];have:(es.length+g.length)*sz<=cap*sz:=Nat.mul_le_mul_right _ S;rw[Nat.add_mul] at this;omega
  obtain⟨w',s1,s2,s3⟩:=U0 cx.P r (0+es.length*sz) f 0 w c e q4 C (fun v hv=>(Uf (n3 v hv)).2);refine⟨_,w',by rw[a1 S];simp only[add_at];rw[s1];rfl,?_⟩;obtain⟨k1,k2⟩:=g1.write (b:=b) (k:=.row (ver+1) sz (es++g)) (v:=.slice (some ⟨r,0,none⟩) (es.length+g.length) cap) s rfl (r:=r) (by rw[q1];exact Q8 A) (Q8 A)
   (.inl (Nat.lt_succ_self _)) s3 (fun V=>by
    have U:RowIn w (MM F (Qd hp n++hp) ρ) sz (es++g) (Ky c (0+es.length*sz+0) f) :=
     N.append a9 b2 (fun k K=>by rw[V8 _ _ _ C,jFj (by omega)]) (fun k K=>by rw[V8 _ _ _ C,jTj (by omega)];congr 1;omega)
    have H:=U.mono (w':=w') (M':=MM F ((b,Blk.row (ver+1) sz (es++g))::(Qd hp n++hp)) (VI ρ b (.slice (some ⟨r,0,none⟩) (es.length+g.length) cap))) (fun x y O=>V.dr O);exact .inr ⟨r,_,e,cap,by rw[Qx,jaj],⟨by rw[jaj];exact S,A⟩,by rw[Ud];exact q3,s2,H.1,H.2⟩)
  exact⟨_,k1,g2.trans k2,.own b (ver+1) _ _ (Qf _ _ _) (jLj _) rfl fun _=>(Qx _ _ _).symm⟩
 ·obtain⟨Z,b8,b5⟩:=a2 (by omega);refine⟨_,_,b5,?_⟩;obtain⟨d1,d2⟩:=g1.drew;have a4:((c.toList.take (es.length*sz)).toArray++f.toArray++Builtin.zeroCells z.cells (Z - (es.length+g.length))).size=Z*sz:=by simp only[Array.size_append,List.size_toArray,size_zeroCells,b6,T,List.length_take,Array.length_toList];rw[Nat.min_eq_left a5,<-Nat.add_mul,<-Nat.add_mul];congr 1;omega
  obtain⟨k1,k2⟩:=d1.fresh (b:=b) (k:=.row (ver+1) sz (es++g)) (v:=.slice (some ⟨w.heap.size,0,none⟩) (es.length+g.length) Z)
   ((c.toList.take (es.length*sz)).toArray++f.toArray++Builtin.zeroCells z.cells (Z - (es.length+g.length))) m (fun r hr=>by rw[Q8 (by omega)] at hr;exact(Option.some.inj hr).symm) (fun k0 E=>by rw[s] at E;cases E;exact Nat.lt_succ_self _)
   (fun V=>by
    have U:RowIn w (MM F (Qd hp n++hp) ρ) sz (es++g) ((c.toList.take (es.length*sz)).toArray++f.toArray++Builtin.zeroCells z.cells (Z - (es.length+g.length))) :=
     N.append a9 b2 (fun k K=>by
       rw[Array.append_assoc,Array.getElem?_append_left (by simp;omega)];simp[List.getElem?_take,K]) (fun k K=>by
       rw[Array.append_assoc,Array.getElem?_append_right (by simp;omega)];have:es.length*sz+k - (c.toList.take (es.length*sz)).toArray.size=k:=by simp;omega
       rw[this,Array.getElem?_append_left (by simp;omega)];simp)
    have H:=U.mono (fun x y O=>(d2.trans V).dr O);exact .inr ⟨w.heap.size,_,m,Z,by rw[Qx,jaj],⟨by rw[jaj];exact b8,by omega⟩,by rw[a4];exact jLj _,Z2 _ _,H.1,H.2⟩)
  exact⟨_,k1,(g2.trans d2).trans k2,.own b (ver+1) _ _ (Qf _ _ _) (jLj _) rfl fun _=>(Qx _ _ _).symm⟩
theorem UR {l:jVj}(h:Vk l=true):l=[]:=by cases l<;>simp_all [Vk]
theorem wM {l:jVj}(h:Vk l=false):l≠[]:=by cases l<;>simp_all [Vk]
theorem Qb7 {a b:Nat}{l:jVj}(h:(Nat.beq a b || Vk l)=true):a=b\/l=[]:=by
 simp only[Bool.or_eq_true] at h;obtain h|h:=h
 ·exact .inl (Z1 h)
 ·exact .inr (UR h)
theorem QgA {a:jVj}{ob:List Prop}{o' : List Orc}(h:nilO sym orc a=some (true,ob,o'))(c:∀q,q∈ob->q):a=[]:=by
 unfold nilO at h;split at h
 ·simp only[jIj,jPj] at h;obtain⟨rfl,rfl,rfl⟩:=h;exact UR (c _ jMj)
 ·split at h
  ·rename_i b;exact UR b
  ·simp at h
 ·cases h
theorem zX {a:jVj}{ob:List Prop}{o' : List Orc}(h:nilO sym orc a=some (false,ob,o'))(c:∀q,q∈ob->q):a≠[]:=by
 unfold nilO at h;split at h
 ·simp only[jIj,jPj] at h;obtain⟨rfl,rfl,rfl⟩:=h;exact wM (c _ jMj)
 ·split at h
  ·simp at h
  ·rename_i b;exact wM b
 ·cases h
theorem Wx {p:Prop}[Decidable p]{ob:List Prop}{o' : List Orc}(h:owe sym orc p=some (ob,o'))(b:∀q,q∈ob->q):p:=by
 unfold owe at h;split at h
 ·simp only[jIj,jPj] at h;obtain⟨rfl,rfl⟩:=h;exact b _ jMj
 ·split at h
  ·rename_i a;exact of_decide_eq_true a
  ·cases h
 ·cases h
theorem YB {a:TypeId}{n:Nat}(h:room cx a n):∃b,cx.bytes a=some b/\n*b<=140737488355328/\0<b:=by
 unfold room at h;split at h
 ·rename_i b c;exact⟨b,c,h⟩
 ·exact h.elim
theorem HSim.name0 (h:HSim cx F hp ρ w){b sz:Nat}{a:Option Addr}(x:look hp b=none) :
  HSim cx F ((b,.row 0 sz [])::hp) (VI ρ b (.slice a 0 0)) w/\Steps1 hp ρ w ((b,.row 0 sz [])::hp) (VI ρ b (.slice a 0 0)) w:=by
 have f:∀q,Mut ((b,.row 0 sz [])::hp) (VI ρ b (.slice a 0 0)) q->Mut hp ρ q:=by
  rintro q ⟨n,u,d,o,j⟩;by_cases c:n=b
  ·subst c;rw[Qx,WG] at j;cases j
  ·rw[Qc _ _ (Ne.symm c)] at d;rw[QL _ _ c] at j;exact⟨n,u,d,o,j⟩
 have p:∀n i,look hp n=some i->n≠b:=fun n i d e=>by subst e;rw[x] at d;cases d
 have k:Steps1 hp ρ w ((b,.row 0 sz [])::hp) (VI ρ b (.slice a 0 0)) w:=by refine⟨Ext.refl _ _,fun q _ o=>f q o,⟨fun n i d=>?_⟩⟩;have c:=p n i d;exact⟨i,by rw[Qc _ _ (Ne.symm c)];exact d,jLj _,fun _=>QL _ _ c⟩
 refine⟨h.step k (fun n u d=>?_) (fun n v i y q s t z A l m=>?_) (fun q j=>h.forb q (f q j)),k⟩
 ·by_cases c:n=b
  ·subst c;rw[Qf] at d;cases d;exact .inr (.inl ⟨rfl,a,Qx _ _ _⟩)
  ·rw[Qc _ _ (Ne.symm c)] at d;exact .inl ⟨d,QL _ _ c,fun _ _ _=>rfl⟩
 ·by_cases d:n=b
  ·subst d;rw[Qx,WG] at l;cases l
  ·by_cases g : v=b
   ·subst g;rw[Qx,WG] at m;cases m
   ·rw[QL _ _ d] at l;rw[QL _ _ g] at m;rw[Qc _ _ (Ne.symm d)] at s;rw[Qc _ _ (Ne.symm g)] at t;exact h.inj n v i y q s t z A l m
theorem Qfh (h:HSim cx F hp ρ w){t t2:TypeId}{ats:List TypeId}{ty:TypeId}{s x:AV}{sv u:Value}(Y:Ja cx t2=true)
  (l:adup cx sym orc hp t s x=some r) (ho:∀q,q∈r.ob->q) (H:VR w (MM F hp ρ) hp ρ s sv) (b3:VR w (MM F hp ρ) hp ρ x u) :
  ∃v w',(Builtin.append_ (t::t2::ats).toArray ty #[sv,u]).run cx.P w=.ok v w'/\OpOK cx F hp ρ w r.up r.val v w':=by
 unfold adup at l;split at l;case h_2=>cases l
 rename_i f z0 a3 b ver hu;cases b3 with
 | own _ _ k _ hb hv b7 hh =>
 rw[hb] at l;cases k with
 | row ver' sz es =>
  split at l;case h_2=>cases l
  rename_i ver' c3 c0 z a4 hs;cases a4;split at l;case h_2=>cases l
  rename_i ob o' hc a9;simp only[jAj] at hc;obtain⟨⟨⟨Z,e2⟩,e3⟩,e4⟩:=hc;have Z:=Z1 Z;have e2:=Z1 e2;subst Z;subst e2;have e4:a3=[]:=UR e4;subst e4;obtain⟨zv,hz,c2,_⟩:=Xh e3;simp only[jIj] at l;subst l;obtain⟨bt,Q,o⟩:=YB (Wx a9 ho);rw[hh rfl];cases H with
  | d _ _ H =>
  obtain⟨A,sc,rfl,X,E,b9,o1,o2,o3,o4,o5⟩:=Y7 H;have X:=E rfl;subst X;have U:∀w' : World,w'.heap=w.heap->(Builtin.firstCells sz 0 (.slice A 0 0)).run cx.P w'=.ok (List.toArray []) w':=by
   intro w' J;cases A with
   | none=>simp[Builtin.firstCells]
   | some a=>simp[Builtin.firstCells,loadCells,loadCellsFrom]
  have p:∀xa xc,ρ b=.slice xa 0 xc->es=[]->∃v w',(Builtin.append_ (t::t2::ats).toArray ty #[.slice A 0 0,ρ b]).run cx.P w=.ok v w'/\OpOK cx F hp ρ w [] (.d (.lst false sz es)) v w':=by
   intro xa xc N S;subst S;have a8:∀w' : World,w'.heap=w.heap->(Builtin.firstCells sz 0 (.slice xa 0 xc)).run cx.P w'=.ok (List.toArray []) w':=by
    intro w' J;cases xa with
    | none=>simp[Builtin.firstCells]
    | some a=>simp[Builtin.firstCells,loadCells,loadCellsFrom]
   obtain⟨a1,_⟩:=Y9 (cx:=cx) (w:=w) (ats:=ats) (ty:=ty) hu Y hs Q hz (a:=A) (n:=0) (cap:=0) (m:=0) (jLj _) U a8 (by simpa using o);rw[N];refine⟨.slice A 0 0,w,by rw[a1 (by simp)];cases A<;>rfl,OpOK.quiet h (.d _ _ ?_)⟩;exact .lst false sz [] A 0 0 0 (fun _=>undef) (fun _=>rfl) (jLj _) (fun h=>absurd rfl h) (fun i e h=>by simp at h) (fun i e j c h=>by simp at h) (fun i e j c h=>by simp at h)
  obtain⟨rfl,a0,N⟩|⟨r,c,e,cap,N,⟨q2,b5⟩,q3,q4,q5,q6⟩:=h.blk b _ hb
  ·exact p _ _ N rfl
  ·by_cases T:es=[]
   ·subst T;exact p _ _ N rfl
   have b8:0<es.length:=by cases es with
    | nil=>exact absurd rfl T
    | cons _ _=>simp
   have b6:es.length*sz<=c.size:=Nat.le_trans (Nat.mul_le_mul_right _ q2) q3;have V:∀w' : World,w'.heap=w.heap->(Builtin.firstCells sz es.length (.slice (some ⟨r,0,none⟩) es.length cap)).run cx.P w'=.ok (c.toList.take (es.length*sz)).toArray w':=by
    intro w' J;simp only[Builtin.firstCells];refine KT cx.P w' r 0 _ _ (by simp;omega) fun k v L=>?_;rw[List.getElem?_take] at L;split at L
    ·rw[YS (by rw[J];exact q4),Nat.zero_add];simpa using L
    ·cases L
   obtain⟨_,a2⟩:=Y9 (cx:=cx) (w:=w) (ats:=ats) (ty:=ty) hu Y hs Q hz (a:=A) (n:=0) (cap:=0) (jLj _) U V o;obtain⟨nc,c1,W⟩:=a2 (by omega);rw[N];refine⟨_,_,W,?_⟩;obtain⟨d1,d2⟩:=h.drew;generalize hC:(List.toArray ([]:List Value))++(c.toList.take (es.length*sz)).toArray++Builtin.zeroCells zv.cells (nc - (0+es.length))=C at *;obtain⟨k1,k2⟩:=d1.alloc (.cells C f);have b2:RowIn w (MM F hp ρ) sz es C:=by
    refine⟨q5,fun i d j a hi K=>?_⟩;obtain⟨y,O,y2⟩:=q6 i d j a hi K;have a5:i<es.length:=(jGj hi).1;have a6:j<sz:=by have:=(jGj K).1;have:=q5 i d hi;omega
    have L:=qc a5 a6;refine⟨y,?_,y2⟩;rw[<-hC,Array.append_assoc,Array.getElem?_append_right (by simp)];rw[Array.getElem?_append_left (by simp;omega)];simpa[List.getElem?_take,L] using O
   have G:=b2.mono (fun x y hd=>(d2.trans k2).dr hd);have g:(w.drew.alloc (.cells C f)).heap[w.heap.size]?=some (.cells C f (0,0)):=Z2 w.drew _;have a7:w.heap.size<(w.drew.alloc (.cells C f)).heap.size:=by
    obtain q|q:=Nat.lt_or_ge w.heap.size (w.drew.alloc (.cells C f)).heap.size
    ·exact q
    ·rw[Array.getElem?_eq_none q] at g;cases g
   refine⟨ρ,k1,d2.trans k2,.d _ _ ?_⟩;have b4:=DR.lst (w:=w.drew.alloc (.cells C f)) (M:=MM F hp ρ) false sz es (some ⟨w.heap.size,0,none⟩) nc w.heap.size 0 (fun q=>C.getD q undef) (fun q=>by cases q) (by omega)
    (fun _=>⟨rfl,fun q=>by
     obtain q|q:=q
     ·exact Nat.lt_irrefl _ (h.bnd _ q)
     ·exact Nat.lt_irrefl _ (h.mut_lt q),a7⟩) G.1
    (fun i d j a hi K=>by
     obtain⟨y,O,y2,_⟩:=G.2 i d j a hi K;have S:C.getD (i*sz+j) undef=y:=by simp[Array.getD_eq_getD_getElem?,O]
     simp only[S];refine⟨?_,y2⟩;simp only[World.cell?,g,Nat.zero_add,Option.isSome_none];simp[O])
    (fun i d j a hi K=>by
     obtain⟨y,O,_,y3⟩:=G.2 i d j a hi K;have S:C.getD (i*sz+j) undef=y:=by simp[Array.getD_eq_getD_getElem?,O]
     show DR _ _ a (C.getD (i*sz+j) undef);rw[S];exact y3)
   rw[Nat.zero_add];exact b4
 | _=>simp at l
theorem QaU (h:HSim cx F hp ρ w){name:Nat}{t t2:TypeId}{ats:List TypeId}{ty:TypeId}{s x:AV}{sv u:Value}(C:Ja cx t2=true)
  (f:zi cx sym orc hp name t s x=some r) (M:∀q,q∈r.ob->q) (y:VR w (MM F hp ρ) hp ρ s sv) (E:VR w (MM F hp ρ) hp ρ x u) :
  ∃v w',(Builtin.append_ (t::t2::ats).toArray ty #[sv,u]).run cx.P w=.ok v w'/\OpOK cx F hp ρ w r.up r.val v w':=by
 unfold zi at f;split at f;case h_2=>cases f
 rename_i b8 asz Z L X l;split at f
 ·cases f
 rename_i z W;split at f
 ·cases f
 rename_i hc;simp only[jAj] at hc;have n:=Qb7 hc.1;obtain⟨zv,Y,K,_⟩:=Xh hc.2;split at f
 ·rename_i b ver;cases y with
  | own _ _ k _ V hv b9 hh =>
  rw[V] at f;cases k with
  | box _=>simp at f
  | loop _ _ _ _ _ _=>simp at f
  | mp _=>simp at f
  | it _ _=>simp at f
  | fbox _=>simp at f
  | left _=>simp at f
  | dead=>simp at f
  | frozen _ _ _=>simp at f
  | row ver' sz es =>
   simp only at f;split at f
   ·cases f
   rename_i o;simp only[jAj,Bool.not_eq_true'] at o;have e1:=Z1 o.1.1;have U:=Z1 o.1.2;subst e1;subst U;split at f;case h_2=>cases f
   rename_i ob o' p;have hx:x.toDH hp=some (.lst false asz Z,L)\/x.toDH hp=some (.lst true asz Z,L):=by
    unfold UL at l;split at l<;>simp only[jIj,reduceCtorEq,jPj] at l;rename_i full _ _ _ hd;obtain⟨rfl,rfl,rfl⟩:=l;cases full
    ·exact .inl hd
    ·exact .inr hd
   split at f
   ·simp only[jIj] at f;subst f;obtain⟨bt,m,c⟩:=YB (Wx p M);rw[hh rfl];obtain⟨v,w',a7,ρ',g1,g2,g3⟩:=Qas (ats:=ats) (ty:=ty) h X C W m Y K V hx n o.2 E c;obtain⟨k1,k2⟩:=g1.freeze [b];have b2:Qd (((b,.row (ver+1) sz (es++Z))::Qd hp L)++hp) [b]=[(b,.frozen (ver+1) sz (es++Z))]:=by simp only[Qd,List.cons_append,Qf]
    have b7:(AV.own b (ver+1)).toDH (((b,.row (ver+1) sz (es++Z))::Qd hp L)++hp)=some (.lst false sz (es++Z),[b]):=by simp[AV.toDH,List.cons_append,Qf]
    have a6:=Z8 g1 [b] (.own b (ver+1)) v _ [b] b7 (fun _ h=>h) g3;rw[b2] at k1 k2 a6;exact⟨v,w',a7,ρ',k1,g2.trans k2,.d _ _ a6⟩
   ·simp only[jIj] at f;subst f;obtain⟨bt,m,c⟩:=YB (Wx p M);rw[hh rfl];exact Qas h X C W m Y K V hx n o.2 E c
  | virt ver' sz es =>
   simp only at f;split at f
   ·cases f
   rename_i o;simp only[jAj] at o;have e1:=Z1 o.1;have U:=Qb7 o.2;subst e1;split at f;case h_2=>cases f
   rename_i ob o' p;split at f;case h_2=>cases f
   rename_i a9 o2 j;simp only[jIj] at f;subst f;obtain⟨bt,m,c⟩:=YB (Wx p fun q H=>M q (List.mem_append_right _ H));have j:=zX j fun q H=>M q (List.mem_append_left _ H);rw[hh rfl];refine G0 h X C W m Y K (h.blk b _ V) U (fun k0 A=>?_) l n j E c;obtain i|⟨_,_,_,i,_⟩|⟨_,_,_,i,_⟩|⟨_,i,_⟩:=Wo hp L b
   ·rw[i,V] at A;cases A;exact .inl (Nat.lt_succ_self _)
   ·rw[V] at i;cases i
   ·rw[V] at i;cases i
   ·rw[V] at i;cases i
 ·rename_i sz es;split at f
  ·cases f
  rename_i o;have U:=Qb7 o;cases y with
  | d _ _ y =>
  split at f
  ·split at f;case h_2=>cases f
   rename_i ob o' a0 g p;simp only[jIj] at f;subst f;have a0:es=[]:=UR a0;subst a0;obtain⟨bt,m,c⟩:=YB (Wx p M);by_cases S:Z=[]
   ·subst S;obtain⟨xa,xc,O,rfl,a4,a3,n3,b3,b4⟩:=Kh h l n E;obtain⟨J,sc,rfl,N,G,Q,o1,o2,o3,o4,o5⟩:=Y7 y;have N:=G rfl;subst N;have a5:∀w' : World,w'.heap=w.heap->(Builtin.firstCells z ([]:jVj).length (.slice J ([]:jVj).length ([]:jVj).length)).run cx.P w'=.ok Q.toArray w':=by
     intro w' T;have:=o2 cx.P w' T;cases J with
     | none=>simpa[Builtin.firstCells] using this
     | some a=>simpa[Builtin.firstCells,loadCells,loadCellsFrom] using this
    obtain⟨a1,_⟩:=Y9 (cx:=cx) (w:=w) (ats:=ats) (ty:=ty) X C W m Y (a:=J) (cap:=([]:jVj).length) (xa:=xa) (xc:=xc) (jLj _) a5 a3 c;have a2:O=[]:=by simpa using a4
    subst a2;refine⟨.slice J 0 0,w,by rw[a1 (by simp)];cases J<;>rfl,?_⟩;obtain⟨g1,g2⟩:=h.freeze L;have b5:look (Qd hp L++hp) name=none:=by
     obtain i|⟨_,_,_,i,_⟩|⟨_,_,_,i,_⟩|⟨_,i,_⟩:=Wo hp L name
     ·rw[i];exact g
     ·rw[g] at i;cases i
     ·rw[g] at i;cases i
     ·rw[g] at i;cases i
    obtain⟨k1,k2⟩:=g1.name0 (sz:=z) (a:=J) b5;exact⟨_,k1,g2.trans k2,.own name 0 _ _ (Qf _ _ _) (jLj _) rfl fun _=>(Qx _ _ _).symm⟩
   ·refine G0 h X C W m Y K y (.inr rfl) (fun k0 A=>?_) l n S E c;obtain i|⟨_,_,_,i,_⟩|⟨_,_,_,i,_⟩|⟨_,i,_⟩:=Wo hp L name
    ·rw[i,g] at A;cases A
    ·rw[g] at i;cases i
    ·rw[g] at i;cases i
    ·rw[g] at i;cases i
  split at f;case h_2=>cases f
  rename_i ob o' p;split at f
  ·rename_i a9 o2 j;split at f;case h_3=>cases f
   case h_1 =>
    simp only[jIj] at f;subst f;obtain⟨bt,m,c⟩:=YB (Wx p fun q H=>M q (List.mem_append_right _ H));have j:=zX j fun q H=>M q (List.mem_append_left _ H);exact QcF h X C W m Y K y U l n j E c
   rename_i g;simp only[jIj] at f;subst f;obtain⟨bt,m,c⟩:=YB (Wx p fun q H=>M q (List.mem_append_right _ H));have j:=zX j fun q H=>M q (List.mem_append_left _ H);refine G0 h X C W m Y K y U (fun k0 A=>?_) l n j E c;obtain i|⟨_,_,_,i,_⟩|⟨_,_,_,i,_⟩|⟨_,i,_⟩:=Wo hp L name
   ·rw[i,g] at A;cases A
   ·rw[g] at i;cases i
   ·rw[g] at i;cases i
   ·rw[g] at i;cases i
  ·rename_i a9 o2 j;simp only[jIj] at f;subst f;obtain⟨bt,m,c⟩:=YB (Wx p fun q H=>M q (List.mem_append_right _ H));have S:=QgA j fun q H=>M q (List.mem_append_left _ H);subst S;obtain⟨xa,xc,O,rfl,a4,a3,n3,b3,b4⟩:=Kh h l n E;obtain⟨J,sc,rfl,N,G,Q,o1,o2,o3,o4,o5⟩:=Y7 y;have N:=G rfl;subst N;have a5:∀w' : World,w'.heap=w.heap->(Builtin.firstCells z es.length (.slice J es.length es.length)).run cx.P w'=.ok Q.toArray w':=by
    intro w' T;obtain e|e:=U
    ·rw[<-e];exact o2 _ _ T
    ·have:=o2 cx.P w' T;subst e;cases J with
     | none=>simpa[Builtin.firstCells] using this
     | some a=>simpa[Builtin.firstCells,loadCells,loadCellsFrom] using this
   obtain⟨a1,_⟩:=Y9 (cx:=cx) (w:=w) (ats:=ats) (ty:=ty) X C W m Y (a:=J) (cap:=es.length) (xa:=xa) (xc:=xc) (jLj _) a5 a3 c;have a2:O=[]:=by simpa using a4
   subst a2;refine⟨.slice J es.length es.length,w,by rw[a1 (by simp)];cases J<;>rfl,?_⟩;refine OpOK.frz h L (.d _ _ ?_);have a8:=(h.freeze L).2.dr y;cases a8 with
   | lst _ _ _ _ _ blk off ys hf c0 ha b6 hw hd =>
    obtain e|e:=U
    ·subst e;exact .lst true _ es J es.length blk off ys (fun _=>rfl) (jLj _) ha b6 hw hd
    ·subst e;exact .lst true z [] J 0 blk off ys (fun _=>rfl) (jLj _) ha (by simp) (by simp) (by simp)
  ·cases f
 ·cases f
end
section
variable {cx:Cx}{F:Nat->Prop}{hp:List (Nat×Blk)}{ρ:Nat->Value}{w:World}{re:Operand->Value}{ev:Operand->AV}{sym:Bool}{orc:List Orc}{r:R}
theorem yv (h:HSim cx F hp ρ w){name:Nat}{t c:TypeId}{n m:Int}{kn V:IntKind}{s b:Nat}{z:Value}(Z:cx.P.underlying t=some (.slice c))(N:cx.sz c=some s)(H:cx.zero c=some z)(E:cx.bytes c=some b)
  (o:look hp name=none) (L:ET cx c s=true) (hc:0<=n/\n<=m/\b*m<=281474976710656/\m<=9223372036854775807) :
  ∃v w',(Instr.makeSlice t (.int kn n) (.int V m)).run cx.P w=.ok v w'/\OpOK cx F hp ρ w [(name,.row 0 s (List.replicate n.toNat (ofV z)))] (.own name 0) v w':=by
 have hi:∃i,cx.P.info? c=some i/\i.bytes=b/\i.size=s/\i.zero=some z:=by
  unfold Cx.bytes at E;unfold Cx.sz at N;unfold Cx.zero at H;split at E
  ·rename_i i hi;rw[hi] at N H;exact⟨i,hi,by simpa using E,by simpa using N,H⟩
  ·cases E
 obtain⟨i,hi,rfl,rfl,Q⟩:=hi;obtain⟨z',A,C,S⟩:=Xh L;rw[H] at A;cases A;refine⟨_,_,run_make w t c i z Z hi Q kn V n m hc.1 hc.2.1 hc.2.2.1 hc.2.2.2,?_⟩;have g:∀(j:Nat) (a:D),(ofV z).cells[j]?=some a->∃y,z.cells[j]?=some y/\one y=true/\∀M,DR w M a y:=by
  intro j a U;have q:=GP z;have f:j<z.cells.size:=by have:=(jGj U).1;simpa using(q ▸ (by simpa using this):j<z.cells.size)
  refine⟨z.cells[j],by simp[f],S _ (by simp),fun M=>?_⟩;have:=J7 (hp:=[]) (ρ:=fun _=>undef) (F:=M) (w:=w) z j (.d a) z.cells[j] (by simp[U]) (by simp[f]);cases this;rename_i e;exact e.ext (jLj _) (fun _ _ _=>rfl) (fun _ _ Y=>.inl Y)
 have J:(ofV z).cells.length=i.size:=by have:=GP z;simpa[C] using this
 obtain⟨W,X⟩:=h.fresh (b:=name) (k:=.row 0 i.size (List.replicate n.toNat (ofV z))) (v:=.slice (some ⟨w.heap.size,0,none⟩) n.toNat m.toNat)
  (madeCells z.cells (m.toNat*i.size)) c (fun r G=>by
    by_cases l:m.toNat=0
    ·rw[l,WG] at G;cases G
    ·rw[Q8 (by omega)] at G;exact(Option.some.inj G).symm) (fun k0 p=>by rw[o] at p;cases p) (fun O=>by
   by_cases l:m.toNat=0
   ·have x:n.toNat=0:=by omega
    exact .inl ⟨by rw[x];rfl,some ⟨w.heap.size,0,none⟩,by rw[Qx,l,x]⟩
   refine .inr ⟨w.heap.size,_,c,m.toNat,by rw[Qx,List.length_replicate],⟨by rw[List.length_replicate];omega,by omega⟩,by rw[size_madeCells];exact jLj _,Z2 _ _,fun k d e=>?_,fun k d j a e T=>?_⟩
   ·rw[List.getElem?_replicate] at e;split at e<;>simp only[jIj,reduceCtorEq] at e;subst e;exact J
   ·rw[List.getElem?_replicate] at e;split at e<;>simp only[jIj,reduceCtorEq] at e;rename_i hk;subst e;obtain⟨y,y1,y2,y3⟩:=g j a T;have f:j<i.size:=by have:=(jGj T).1;omega
    refine⟨y,?_,y2,O.dr (F:=F) (y3 _)⟩;have K:k*i.size+j<m.toNat*i.size:=qc (by omega) f;have u:(k*i.size+j) % z.cells.size=j:=by rw[C,Nat.mul_comm,Nat.mul_add_mod];exact Nat.mod_eq_of_lt f
    rw[madeCells,Array.getElem?_map,Array.getElem?_range,jTj K,Option.map_some,u,getElem!_def,y1])
 exact⟨_,W,X,.own name 0 _ _ (Qf _ _ _) (jLj _) rfl fun _=>(Qx _ _ _).symm⟩
theorem Qqu (h:HSim cx F hp ρ w){t c:TypeId}{n m:Int}{kn X:IntKind}{s b:Nat}{z:Value}(hu:cx.P.underlying t=some (.slice c))(N:cx.sz c=some s)(G:cx.zero c=some z)(E:cx.bytes c=some b)
  (L:ET cx c s=true) (hc:0<=n/\n<=m/\b*m<=281474976710656/\m<=9223372036854775807) :
  ∃v w',(Instr.makeSlice t (.int kn n) (.int X m)).run cx.P w=.ok v w'/\OpOK cx F hp ρ w [] (.d (.lst false s (List.replicate n.toNat (ofV z)))) v w':=by
 have hi:∃i,cx.P.info? c=some i/\i.bytes=b/\i.size=s/\i.zero=some z:=by
  unfold Cx.bytes at E;unfold Cx.sz at N;unfold Cx.zero at G;split at E
  ·rename_i i hi;rw[hi] at N G;exact⟨i,hi,by simpa using E,by simpa using N,G⟩
  ·cases E
 obtain⟨i,hi,rfl,rfl,Q⟩:=hi;obtain⟨z',x,A,S⟩:=Xh L;rw[G] at x;cases x;refine⟨_,_,run_make w t c i z hu hi Q kn X n m hc.1 hc.2.1 hc.2.2.1 hc.2.2.2,?_⟩;have g:∀(j:Nat) (a:D),(ofV z).cells[j]?=some a->∃y,z.cells[j]?=some y/\one y=true/\∀M,DR w M a y:=by
  intro j a V;have q:=GP z;have f:j<z.cells.size:=by have:=(jGj V).1;simpa using(q ▸ (by simpa using this):j<z.cells.size)
  refine⟨z.cells[j],by simp[f],S _ (by simp),fun M=>?_⟩;have:=J7 (hp:=[]) (ρ:=fun _=>undef) (F:=M) (w:=w) z j (.d a) z.cells[j] (by simp[V]) (by simp[f]);cases this;rename_i e;exact e.ext (jLj _) (fun _ _ _=>rfl) (fun _ _ hm=>.inl hm)
 have J:(ofV z).cells.length=i.size:=by have:=GP z;simpa[A] using this
 obtain⟨k3,W⟩:=h.alloc (.cells (madeCells z.cells (m.toNat*i.size)) c);refine⟨ρ,k3,W,.d _ _ ?_⟩;have H:¬MM F hp ρ w.heap.size:=by
  rintro(Y|H)
  ·have:=h.bnd _ Y;omega
  ·have:=h.mut_lt H;omega
 have p:∀(k:Nat) (d:D) (j:Nat) (a:D),(List.replicate n.toNat (ofV z))[k]?=some d->d.cells[j]?=some a->∃y,(madeCells z.cells (m.toNat*i.size))[k*i.size+j]?=some y/\one y=true/\∀M,DR w M a y:=by
  intro k d j a e l;rw[List.getElem?_replicate] at e;split at e<;>simp only[jIj,reduceCtorEq] at e;rename_i hk;subst e;obtain⟨y,o,T,U⟩:=g j a l;have f:j<i.size:=by have:=(jGj l).1;omega
  refine⟨y,?_,T,U⟩;have K:k*i.size+j<m.toNat*i.size:=qc (by omega) f;have u:(k*i.size+j) % z.cells.size=j:=by rw[A,Nat.mul_comm,Nat.mul_add_mod];exact Nat.mod_eq_of_lt f
  rw[madeCells,Array.getElem?_map,Array.getElem?_range,jTj K,Option.map_some,u,getElem!_def,o]
 have C:=DR.lst (w:=w.alloc (.cells (madeCells z.cells (m.toNat*i.size)) c)) (M:=MM F hp ρ) false i.size (List.replicate n.toNat (ofV z)) (some ⟨w.heap.size,0,none⟩) m.toNat w.heap.size 0 (fun k=>(madeCells z.cells (m.toNat*i.size)).getD k undef)
  (fun Z=>by cases Z) (by rw[List.length_replicate];omega) (fun _=>⟨rfl,H,by simp⟩)
  (fun k d e=>by rw[List.getElem?_replicate] at e;split at e<;>simp only[jIj,reduceCtorEq] at e;subst e;exact J)
  (fun k d j a e l=>by
   obtain⟨y,o,T,_⟩:=p k d j a e l;have O:(madeCells z.cells (m.toNat*i.size)).getD (k*i.size+j) undef=y:=by simp[Array.getD_eq_getD_getElem?,o]
   rw[Nat.zero_add,YS (Z2 _ _),O];exact⟨o,T⟩)
  (fun k d j a e l=>by
   obtain⟨y,o,_,U⟩:=p k d j a e l;have O:(madeCells z.cells (m.toNat*i.size)).getD (k*i.size+j) undef=y:=by simp[Array.getD_eq_getD_getElem?,o]
   rw[O];exact W.dr (U _))
 rw[List.length_replicate] at C;exact C
theorem Qb3 (h:HSim cx F hp ρ w)(hev:∀x,VR w (MM F hp ρ) hp ρ (ev x) (re x)){t:TypeId}{len name:Nat}{parts:Array (Nat×Operand)}{orc:List Orc}{r:R}
  (a:Qb4 cx hp name t len (parts.toList.map fun p=>(p.1,ev p.2)) orc=some r) :
  ∃v w',(Instr.buildSlice t len (parts.map fun(i,x)=>(i,re x))).run cx.P w=.ok v w'/\OpOK cx F hp ρ w r.up r.val v w':=by
 unfold Qb4 at a;cases a
theorem QeS (h:HSim cx F hp ρ w){name:Nat}{t c:TypeId}{ats:List TypeId}{ty:TypeId}{s x:AV}{b u:Value}(a:Qf7 cx sym orc hp name t c s x=some r)(f:∀q,q∈r.ob->q)
  (d:VR w (MM F hp ρ) hp ρ s b) (e:VR w (MM F hp ρ) hp ρ x u) :
  ∃v w',(Builtin.append_ (t::c::ats).toArray ty #[b,u]).run cx.P w=.ok v w'/\OpOK cx F hp ρ w r.up r.val v w':=by
 unfold Qf7 at a;cases a
theorem Qe7 (h:HSim cx F hp ρ w){t:TypeId}{ats:List TypeId}{ty:TypeId}{d s:AV}{dv sv:Value}(A:QbL cx orc hp t d s=some r)(H:VR w (MM F hp ρ) hp ρ d dv)(a8:VR w (MM F hp ρ) hp ρ s sv) :
  ∃v w',(Builtin.copy_ (t::ats).toArray ty #[dv,sv]).run cx.P w=.ok v w'/\OpOK cx F hp ρ w r.up r.val v w':=by
 unfold QbL at A;split at A;case h_2=>cases A
 rename_i a9 b ver asz f u hu o;cases H with
 | own _ _ k _ hb hv b5 hh =>
 split at A;case h_2=>cases A
 rename_i ver' sz es z O hz;rw[hb] at O;cases O;split at A;case h_2=>cases A
 rename_i hc;simp only[jAj,Bool.not_eq_true'] at hc;have e1:=Z1 hc.1.1.1;have e2:=Z1 hc.1.1.2;have e3:=Qb7 hc.1.2;have Q:=hc.2;subst e1;subst e2;simp only[jIj] at A;subst A;rw[hh rfl];obtain⟨g1,g2⟩:=h.freeze u;have V:¬b∈u:=by
  intro U;have:u.contains b=true:=by simpa using U
  rw[this] at Q;cases Q
 have G:look (Qd hp u++hp) b=some (.row ver sz es):=by
  have:∀l:List Nat,¬b∈l->look (Qd hp l++hp) b=look hp b:=by
   intro l;induction l with
   | nil=>intro _;rfl
   | cons q l ih =>
    intro x;simp only[List.mem_cons,not_or] at x;simp only[Qd];split
    ·rw[List.cons_append,Qc _ _ (fun e=>x.1 e.symm)];exact ih x.2
    ·split
     ·rw[List.cons_append,Qc _ _ (fun e=>x.1 e.symm)];exact ih x.2
     ·exact ih x.2
    ·rw[List.cons_append,Qc _ _ (fun e=>x.1 e.symm)];exact ih x.2
    ·exact ih x.2
  rw[this u V];exact hb
 have J:∃full,DR w (MM F (Qd hp u++hp) ρ) (.lst full asz f) sv:=by unfold UL at o;split at o<;>simp only[jIj,reduceCtorEq,jPj] at o;rename_i full b9 b6 M H;obtain⟨rfl,rfl,rfl⟩:=o;exact⟨full,Z8 h M s sv _ M H (fun _ h=>h) a8⟩
 obtain⟨full,J⟩:=J;obtain⟨xa,xc,rfl,b8,_,g,n1,n2,n3,n4,n5⟩:=wR J;have b7:g.length=f.length*sz:=by
  obtain e|e:=e3
  ·rw[<-e];exact n1
  ·rw[e] at n1 ⊢;simpa using n1
 have X:∀m,m<=f.length->(Builtin.firstCells sz m (.slice xa f.length xc)).run cx.P w=.ok (g.take (m*sz)).toArray w:=by
  intro m U;obtain e|e:=e3
  ·rw[<-e];exact n2 _ _ rfl m U
  ·have:=n2 cx.P w rfl m U;subst e;have a4:m=0:=by simpa using U
   subst a4;have a6:g=[]:=by simpa using n1
   subst a6;cases xa with
   | none=>simpa[Builtin.firstCells] using this
   | some a=>simpa[Builtin.firstCells,loadCells,loadCellsFrom] using this
 have Y:∀(i:Nat) (d:D),f[i]?=some d->d.cells.length=sz:=by
  obtain e|e:=e3
  ·rw[<-e];exact n4
  ·subst e;intro i d H;simp at H
 have a7:∀(i:Nat) (d:D) (j:Nat) (c:D),f[i]?=some d->d.cells[j]?=some c->∃y,g[i*sz+j]?=some y/\one y=true/\DR w (MM F (Qd hp u++hp) ρ) c y:=by
  obtain e|e:=e3
  ·rw[<-e];exact n5
  ·subst e;intro i d j c H;simp at H
 obtain⟨a1,a0,L⟩|⟨rr,c,e,cap,L,⟨q2,p⟩,q3,q4,q5,q6⟩:=g1.blk b _ G
 ·subst a1;rw[L];refine⟨.int .i64 (min f.length 0:Nat),w,?_,?_⟩
  ·have h1:=Qk hu w;have h2:=run_sizeOf hz w;have N:=X 0 (Nat.zero_le _);simp only[Nat.zero_mul,List.take_zero] at N;cases a0 with
   | none=>simp[Builtin.copy_,h1,h2,Builtin.lenOf,N,goInt]
   | some a0=>simp[Builtin.copy_,h1,h2,Builtin.lenOf,N,goInt,storeCells]
  ·have C:∀n,look ((b,Blk.row ver sz (f.take ([]:jVj).length++([]:jVj).drop f.length))::(Qd hp u++hp)) n=look (Qd hp u++hp) n:=by
    intro n;by_cases hn:n=b
    ·subst hn;rw[Qf,G];simp
    ·rw[Qc _ _ (Ne.symm hn)]
   obtain⟨k1,k2⟩:=W6 C g1;exact⟨_,k1,g2.trans k2,.d _ _ (.v _)⟩
 rw[L];have b2:es.length*sz<=c.size:=Nat.le_trans (Nat.mul_le_mul_right _ q2) q3;have W:min f.length es.length<=f.length:=Nat.min_le_left _ _;have a5:min f.length es.length<=es.length:=Nat.min_le_right _ _;have b3:min f.length es.length*sz<=f.length*sz:=Nat.mul_le_mul_right _ W;have b4:min f.length es.length*sz<=es.length*sz:=Nat.mul_le_mul_right _ a5;have K:(g.take (min f.length es.length*sz)).length=min f.length es.length*sz:=by rw[List.length_take];omega
 obtain⟨w',s1,s2,s3⟩:=U0 cx.P rr 0 (g.take (min f.length es.length*sz)) 0 w c e q4 (by rw[K];omega) (fun v hv=>(Uf (n3 v (List.mem_of_mem_take hv))).2);refine⟨.int .i64 (min f.length es.length:Nat),w',?_,?_⟩
 ·have h1:=Qk hu w;have h2:=run_sizeOf hz w;have N:=X _ W;simp[Builtin.copy_,h1,h2,Builtin.lenOf,N,s1,goInt]
 ·obtain⟨k1,k2⟩:=g1.write (b:=b) (k:=.row ver sz (f.take es.length++es.drop f.length)) (v:=ρ b) G rfl (r:=rr) (by rw[L];exact Q8 p) (by rw[L];exact Q8 p) (.inr ⟨rfl,rfl⟩) s3 (fun Z=>by
   have E:(f.take es.length++es.drop f.length).length=es.length:=by simp;omega
   have S:∀k,(Ky c (0+0) (g.take (min f.length es.length*sz)))[k]?=if k<min f.length es.length*sz then g[k]? else c[k]?:=by
    intro k;rw[V8 _ _ _ (by rw[K];omega),K];by_cases hk:k<min f.length es.length*sz
    ·rw[jTj (by omega),jTj hk];simp only[Nat.zero_add,Nat.sub_zero,List.getElem?_take,hk,if_true]
    ·rw[jFj (by omega),jFj hk]
   refine .inr ⟨rr,_,e,cap,by rw[Qx,L,E],⟨by rw[E];exact q2,p⟩,by rw[Ud];exact q3,s2,fun i d hi=>?_,fun i d j a hi hj=>?_⟩
   ·by_cases C:i<(f.take es.length).length
    ·rw[List.getElem?_append_left C,List.getElem?_take] at hi;split at hi
     ·exact Y i d hi
     ·cases hi
    ·rw[List.getElem?_append_right (by omega),List.getElem?_drop] at hi;exact q5 _ d hi
   ·by_cases C:i<(f.take es.length).length
    ·rw[List.getElem?_append_left C,List.getElem?_take] at hi;split at hi
     ·have a3:j<sz:=by have:=(jGj hj).1;have:=Y i d hi;omega
      obtain⟨y,y1,y2,y3⟩:=a7 i d j a hi hj;refine⟨y,?_,y2,Z.dr y3⟩;rw[S,jTj (qc (by simp at C;omega) a3)];exact y1
     ·cases hi
    ·have a2:min f.length es.length<=i:=by simp at C;omega
     rw[List.getElem?_append_right (by omega),List.getElem?_drop] at hi;have T:f.length+(i - (f.take es.length).length)=i:=by have:=(jGj hi).1;simp at C this ⊢;omega
     rw[T] at hi;obtain⟨y,y1,y2,y3⟩:=q6 i d j a hi hj;refine⟨y,?_,y2,Z.dr y3⟩;have:min f.length es.length*sz<=i*sz:=Nat.mul_le_mul_right _ a2;rw[S,jFj (by omega)];exact y1)
  exact⟨_,k1,g2.trans k2,.d _ _ (.v _)⟩
theorem Qeb (h:HSim cx F hp ρ w){t:TypeId}{ats:List TypeId}{ty:TypeId}{x:AV}{b:Value}(a:QcJ cx sym orc hp t x=some r)(c:∀q,q∈r.ob->q)(d:VR w (MM F hp ρ) hp ρ x b) :
  ∃v w',(Builtin.clear_ (t::ats).toArray ty #[b]).run cx.P w=.ok v w'/\OpOK cx F hp ρ w r.up r.val v w':=by
 unfold QcJ at a;cases a
theorem E0 {es:jVj}{i:Int}{y:D}{ob:List Prop}{o' : List Orc}(h:Qds sym orc es i=some (y,ob,o'))(c:∀q,q∈ob->q):0<=i/\es[i.toNat]?=some y:=by
 unfold Qds at h;split at h
 ·simp only[jIj,jPj] at h;obtain⟨rfl,rfl,rfl⟩:=h;have d:=c _ jMj;have a:=c _ (jmj _ jMj);rw[ZY] at a;exact⟨d,a⟩
 ·split at h
  ·rename_i e b;simp only[jIj,jPj] at h;obtain⟨rfl,rfl,rfl⟩:=h;rw[ZY] at b;exact⟨of_decide_eq_true e,b⟩
  ·cases h
 ·cases h
theorem Qe5 {full:Bool}{sz s:Nat}{es:jVj}{t b:TypeId}{x:Value}{i:Int}{k:IntKind}{y:D}(H:DR w (MM F hp ρ) (.lst full sz es) x)(E:cx.P.underlying t=some (.slice b))(A:cx.sz b=some s)
  (u:sz=s) (hi:0<=i) (f:es[i.toNat]?=some y) :
  ∃v,(Instr.indexAt t x (.int k i)).run cx.P w=.ok v w/\VR w (MM F hp ρ) hp ρ (.dptr y 0) v:=by
 subst u;cases H with
 | lst _ _ _ a cap blk off ys J hc p C G q =>
  have g:es≠[]:=by rintro rfl;simp at f
  obtain⟨rfl,o,d⟩:=p g;have z:i.toNat<es.length:=(jGj f).1;have e:(Instr.indexAt t (.slice (some ⟨blk,off,none⟩) es.length cap) (.int k i)).run cx.P w=.ok (.pointer (some ⟨blk,off+i.toNat*sz,none⟩)) w:=by
   have l:=Qk E w;have m:=run_sizeOf A w;have n:i<(es.length:Int):=by omega
   simp[Instr.indexAt,asIntOf,l,m,hi,n,add_at]
  refine⟨_,e,?_⟩;have:=VR.dptr (w:=w) (M:=MM F hp ρ) (hp:=hp) (ρ:=ρ) y 0 blk (off+i.toNat*sz) ⟨o,d,fun j c h=>⟨ys (i.toNat*sz+j),by have:=(G _ _ _ _ f h).1;rw[Nat.add_assoc];exact this,q _ _ _ _ f h⟩⟩
  rw[Nat.add_zero] at this;exact this
theorem GW {b ver:Nat}{k:Blk}(h:El hp b ver=true)(a:look hp b=some k):ver=k.ver:=by unfold El at h;rw[a] at h;exact Z1 h
theorem G2 (h:HSim cx F hp ρ w){t:TypeId}{x:AV}{i:Int}{k:IntKind}{xv:Value}(a:VT cx sym orc hp t x i=some r)(N:∀q,q∈r.ob->q)(J:VR w (MM F hp ρ) hp ρ x xv) :
  ∃v,(Instr.indexAt t xv (.int k i)).run cx.P w=.ok v w/\OpOK cx F hp ρ w r.up r.val v w:=by
 unfold VT at a;split at a
 ·rename_i len Q H;split at a;case h_2=>cases a
  rename_i s G hd;have A:=of_decide_eq_true hd;split at a
  ·rename_i b ver sz j off;split at a;case h_2=>cases a
   rename_i X;simp only[val1,jIj] at a;subst a;cases J with
   | ptr _ _ _ _ _ M _ f L g C =>
    obtain⟨p,m,rfl⟩:=C (GW X f);have u:=Qk H w;have z:=run_sizeOf G w;refine⟨.pointer (some ⟨p,j*sz+(off+i.toNat*s),none⟩),?_,OpOK.quiet h (.ptr b ver sz j _ M _ f L rfl fun _=>⟨p,m,rfl⟩)⟩;simp[Instr.indexAt,asIntOf,u,Instr.sureAddr,A.1,A.2,z,add_at,Nat.add_assoc]
  ·rename_i y off;simp only[val1,jIj] at a;subst a;cases J with
   | dptr _ _ blk o Y =>
    have u:=Qk H w;have z:=run_sizeOf G w;refine⟨.pointer (some ⟨blk,o+(off+i.toNat*s),none⟩),?_,OpOK.quiet h (.dptr y _ blk o Y)⟩;simp[Instr.indexAt,asIntOf,u,Instr.sureAddr,A.1,A.2,z,add_at,Nat.add_assoc]
  ·cases a
 ·rename_i Q H;split at a
  ·cases a
  rename_i s G;split at a
  ·rename_i b ver;cases J with
   | own _ _ M _ f L g C =>
   rw[f] at a;cases M with
   | box _=>simp at a
   | loop _ _ _ _ _ _=>simp at a
   | mp _=>simp at a
   | it _ _=>simp at a
   | fbox _=>simp at a
   | left _=>simp at a
   | dead=>simp at a
   | row ver' sz es =>
    simp only at a;split at a;case h_2=>cases a
    rename_i hc;simp only[jAj] at hc;have O:=Z1 hc.1;have K:=Z1 hc.2;subst O;subst K;split at a;case h_2=>cases a
    rename_i ob o' E;simp only[jIj] at a;subst a;have hi:=Wx E N;rw[C rfl];obtain⟨q0,_,_⟩|⟨p,c,e,cap,q1,⟨q2,S⟩,q3,q4,q5,q6⟩:=h.blk b _ f
    ·rw[q0] at hi;simp only[List.length_nil] at hi;omega
    have u:=Qk H w;have z:=run_sizeOf G w;refine⟨.pointer (some ⟨p,i.toNat*sz,none⟩),?_,OpOK.quiet h (.ptr b ver sz i.toNat 0 _ _ f L rfl fun _=>⟨p,by rw[q1];exact Q8 S,rfl⟩)⟩;rw[q1];simp[Instr.indexAt,asIntOf,u,z,hi.1,hi.2,add_at]
   | frozen ver' sz es =>
    simp only at a;split at a;case h_2=>cases a
    rename_i hc;simp only[jAj] at hc;have O:=Z1 hc.1;have K:=Z1 hc.2;subst O;split at a;case h_2=>cases a
    rename_i y ob o' l;simp only[jIj] at a;subst a;obtain⟨T,U⟩:=E0 l N;rw[C rfl];obtain⟨v,V,W⟩:=Qe5 (k:=k) (h.blk b _ f) H G K T U;exact⟨v,V,OpOK.quiet h W⟩
   | virt ver' sz es =>
    simp only at a;split at a;case h_2=>cases a
    rename_i hc;simp only[jAj] at hc;have O:=Z1 hc.1;have K:=Z1 hc.2;subst O;split at a;case h_2=>cases a
    rename_i y ob o' l;simp only[jIj] at a;subst a;obtain⟨T,U⟩:=E0 l N;rw[C rfl];obtain⟨v,V,W⟩:=Qe5 (k:=k) (h.blk b _ f) H G K T U;exact⟨v,V,OpOK.quiet h W⟩
  ·rename_i full sz es;split at a;case h_2=>cases a
   rename_i hc;split at a;case h_2=>cases a
   rename_i y ob o' l;simp only[jIj] at a;subst a;obtain⟨T,U⟩:=E0 l N;cases J with
   | d _ _ J =>
    obtain⟨v,V,W⟩:=Qe5 (k:=k) (hp:=hp) J H G (Z1 hc) T U;exact⟨v,V,OpOK.quiet h W⟩
  ·rename_i b ver sz lo n;split at a;case h_2=>cases a
   rename_i ob o' hc E;simp only[jAj] at hc;have K:=Z1 hc.2;subst K;split at a
   ·simp only[jIj] at a;subst a;obtain⟨Z,i2⟩:=Wx E N;cases J with
    | sub _ _ _ _ _ M _ f L g C =>
     obtain⟨p,c0,m,rfl⟩:=C (GW hc.1 f);have u:=Qk H w;have z:=run_sizeOf G w;refine⟨.pointer (some ⟨p,(lo+i.toNat)*sz,none⟩),?_,OpOK.quiet h (.ptr b ver sz 0 ((lo+i.toNat)*sz) M _ f L rfl fun _=>⟨p,m,by simp⟩)⟩;simp[Instr.indexAt,asIntOf,u,z,Z,i2,add_at,Nat.add_mul]
   ·simp only[jIj] at a;subst a;obtain⟨Z,i2⟩:=Wx E N;cases J with
    | sub _ _ _ _ _ M _ f L g C =>
     obtain⟨p,c0,m,rfl⟩:=C (GW hc.1 f);have u:=Qk H w;have z:=run_sizeOf G w;refine⟨.pointer (some ⟨p,(lo+i.toNat)*sz,none⟩),?_,OpOK.quiet h (.ptr b ver sz (lo+i.toNat) 0 M _ f L rfl fun _=>⟨p,m,rfl⟩)⟩;simp[Instr.indexAt,asIntOf,u,z,Z,i2,add_at,Nat.add_mul]
  ·cases a
 ·cases a
theorem kS (h:HSim cx F hp ρ w){s:Sem Value}(a:QfA cx sym orc s=some r)(b:∀q,q∈r.ob->q):∃v,s.run cx.P w=.ok v w/\OpOK cx F hp ρ w r.up r.val v w:=by
 unfold QfA at a;split at a
 ·simp only[jIj] at a;subst a;exact⟨_,VP (b _ jMj) w,OpOK.quiet h (G7 _ _ _ _ _)⟩
 ·split at a
  ·rename_i x c;simp only[jIj] at a;subst a;exact⟨_,VP c w,OpOK.quiet h (G7 _ _ _ _ _)⟩
  ·cases a
 ·cases a
theorem zS {t:TypeId}{s off:Nat}{g:Bool}{x y:AV}{C:Array Value}(A:cx.sz t=some s)(z:cx.isAgg t=some g)(o:VR w (MM F hp ρ) hp ρ x (.agg C))(b:Jq g s off x=some y) :
  ∃v,(part t C off).run cx.P w=.ok v w/\VR w (MM F hp ρ) hp ρ y v:=by
 unfold Jq at b;split at b
 ·cases b
 rename_i cs i;obtain⟨m,E,f⟩:=Yp i o;simp only[Value.cells] at m f;unfold part;simp only[Sem.run_bind,jy z,Result.andThen_ok];cases g with
 | false =>
  simp only at b;rw[ZY] at b;obtain⟨v,e,l⟩:=f _ _ b;refine⟨v,?_,l⟩;simp only[Bool.false_eq_true,if_false,e,Sem.run_pure]
 | true =>
  simp only at b;split at b;case h_2=>cases b
  rename_i k;have n : off+s<=cs.length:=Nat.le_of_ble_eq_true k;refine⟨.agg (C.extract off (off+s)),by simp only[if_true,Sem.run_bind,run_sizeOf A,Result.andThen_ok,Sem.run_pure],?_⟩;split at b
  ·rename_i h;simp only[jIj] at b;subst b;simp only[jAj] at h;have p:=Z1 h.1.2;have u:=Z1 h.2;subst p;have:C.extract 0 (0+s)=C:=by rw[u,<-m];simp
   rw[this];exact o
  ·simp only[jIj] at b;subst b;refine Qff (by simp;omega) fun j a q c d=>?_;rw[Array.getElem?_extract] at d;split at d
   ·rw[List.getElem?_take] at c;split at c
    ·rw[List.getElem?_drop] at c;obtain⟨v,e,l⟩:=f _ _ c;rw[d] at e;cases e;exact l
    ·cases c
   ·cases d
theorem kF {M:Nat->Prop}{x:AV}{v:Value}(a:Gi x=true)(h:VR w M hp ρ x v):∃C,v=.agg C:=by
 cases h with
 | agg=>exact⟨_,rfl⟩
 | d _ _ h=>cases h with
  | agg=>exact⟨_,rfl⟩
  | _=>cases a
 | _=>cases a
theorem yg {s:TypeId}{f:Nat}{a:Field}(h:yP cx s f=some a):∃fields,cx.P.underlying s=some (.struct fields)/\fields[f]?=some a:=by
 unfold yP at h;split at h
 ·rename_i fields b;rw[ZY] at h;exact⟨fields,b,by simpa using h⟩
 ·cases h
theorem zF (h:HSim cx F hp ρ w){t:TypeId}{x:AV}{p l o:Value}(a:yS cx sym orc t x p=some r)(J:∀q,q∈r.ob->q)(e:VR w (MM F hp ρ) hp ρ x l)(hi:o=p) :
  ∃v,(Instr.index t l o).run cx.P w=.ok v w/\OpOK cx F hp ρ w r.up r.val v w:=by
 subst hi;unfold yS at a;split at a
 ·cases e with
  | d _ _ e=>cases e;exact kS h a J
 ·split at a;case h_2=>cases a
  rename_i len m k i cs K b;split at a;case h_2=>cases a
  rename_i s g n H G;have c:=of_decide_eq_true G;have j:∀y,Gi x=true->Jq g s (i.toNat*s) x=some y->∃v,(Instr.index t l (.int k i)).run cx.P w=.ok v w/\OpOK cx F hp ρ w [] y v w:=by intro y E f;obtain⟨C,rfl⟩:=kF E e;obtain⟨v,L,M⟩:=zS n H e f;refine⟨v,?_,OpOK.quiet h M⟩;have z:=Qk K w;have A:=run_sizeOf n w;simp[Instr.index,asIntOf,z,c.1,c.2,A,L]
  split at a
  ·split at a;case h_2=>cases a
   rename_i y f;simp only[val1,jIj] at a;subst a;refine j y rfl ?_;rename_i u _ _;have:cs=u:=by simp only[AV.cells] at b;split at b<;>simp only[jIj,reduceCtorEq] at b;exact b.symm
   subst this;exact f
  ·split at a;case h_2=>cases a
   rename_i y f;simp only[val1,jIj] at a;subst a;exact j y rfl f
  ·cases a
theorem kC (h:HSim cx F hp ρ w){t:TypeId}{x:AV}{i:Int}{k:IntKind}{d:Value}(a:UK cx sym orc hp t x i=some r)(b:∀q,q∈r.ob->q)(c:VR w (MM F hp ρ) hp ρ x d) :
  ∃v,(Instr.indexAt t d (.int k i)).run cx.P w=.ok v w/\OpOK cx F hp ρ w r.up r.val v w:=by
 unfold UK at a;split at a
 ·split at a;case h_2=>cases a
  rename_i q e;simp only[jIj] at a;subst a;have hi:i=_:=b _ jMj;rw[hi];have:=G2 (r:=q) (k:=k) h e (fun p hp=>b p (jmj _ hp)) c;exact this
 ·exact G2 h a b c
theorem QcI (h:HSim cx F hp ρ w){t:TypeId}{x:AV}{e f d:Value}(a:Qfe cx sym orc t x e=some r)(b:∀q,q∈r.ob->q)(c:VR w (MM F hp ρ) hp ρ x f)(hi:d=e) :
  ∃v,(Instr.index t f d).run cx.P w=.ok v w/\OpOK cx F hp ρ w r.up r.val v w:=by
 unfold Qfe at a;split at a
 ·split at a;case h_2=>cases a
  rename_i q i;simp only[jIj] at a;subst a;have g:=b _ jMj;rw[g] at hi;have:=zF (r:=q) h i (fun p hp=>b p (jmj _ hp)) c hi;exact this
 ·exact zF h a b c hi
def qY (cx:Cx)(t:TypeId)(k:Value):Bool:=match cx.P.underlying t,k with
 | some (.int j),.int j' _=>decide (j'=j)
 | some .string,.string _=>true
 | some .bool,.bool _=>true
 | _,_=>false
theorem QaK {t:TypeId}{k:Value}(h:qX cx t k=true):qY cx t k=true:=by
 unfold qX at h;split at h
 ·rename_i a;unfold qY;rw[a];exact h
 ·rename_i a;unfold qY;rw[a]
 ·rename_i a;unfold qY;rw[a]
 ·cases h
theorem QeO {t:TypeId}{k:Value}(h:qY cx t k=true):∃d,cx.P.underlying t=some d/\MapKept.IsKey d k:=by
 unfold qY at h;split at h
 ·refine⟨.int _,by assumption,?_⟩;exact of_decide_eq_true (p:=_=_) h
 ·exact⟨.string,by assumption,trivial⟩
 ·exact⟨.bool,by assumption,trivial⟩
 ·cases h
theorem Qa4 {d:TypeDesc}{k j:Value}(a:MapKept.IsKey d k)(b:(Y1 k j).isSome=true):MapKept.IsKey d j/\Instr.sameNow d k j=Y1 k j:=by cases d<;>cases k<;>simp only[MapKept.IsKey] at a<;>cases j<;>simp_all [Y1,MapKept.IsKey,Instr.sameNow]
theorem Qgr {d:TypeDesc}{k j:Value}(a:MapKept.IsKey d k)(h:Y1 k j=some true):j=k:=by obtain⟨c,e⟩:=Qa4 a (j:=j) (by rw[h];rfl);obtain⟨r,b,hi⟩:=MapKept.sameNow_of_keys a c;rw[e,h] at b;cases b;exact(hi.1 rfl).symm
structure KeyOK (cx:Cx) (t:TypeId) (k:Value):Prop where
 check:∀(e:Bool) (w:World),(Instr.checkKey e 10000 t k).run cx.P w=.ok () w
 stay:∀w:World,(Instr.keyThatStays k k).run cx.P w=.ok k w
 same:∀j:Value,Y1 k j=some true->j=k
 ask:(∃d,cx.P.underlying t=some d/\∀j r,Y1 k j=some r->Instr.sameNow d k j=some r) \/
  (∃d,cx.P.underlying t=some d/\(∀j,Instr.sameNow d k j=none)/\∀(w:World) j r,Y1 k j=some r->(Op.equal t k j).run cx.P w=.ok r w)
theorem uB {t:TypeId}{k:Value}(h:qX cx t k=true):KeyOK cx t k:=by obtain⟨d,c,a⟩:=QeO (QaK h);refine⟨fun e w=>MapKept.run_checkKey c a e _,fun w=>MapKept.run_keyThatStays a,fun j b=>Qgr a b,.inl ⟨d,c,fun j r b=>?_⟩⟩;rw[(Qa4 a (j:=j) (by rw[b];rfl)).2,b]
theorem QdW {M:Nat->Prop}{t:TypeId}{k:Value}(n:KeyOK cx t k):∀(es:jVj) (l:List MapEntry) (i:Nat),MR w M es l->mok k es=true->∀f:List MapEntry->Nat->Option (Option (Nat×Value)),
  (∀i,f [] i=some none)->(∀e l i,e.key=e.key->∀r,Y1 k e.key=some r->f (e::l) i=if r then some (some (i,e.val)) else f l (i+1)) ->
  (W5 k es=none/\f l i=some none/\∀y,E7 k y es=es++[.tup [.v k,y]]) \/
  ∃j e x,W5 k es=some x/\f l i=some (some (i+j,e.val))/\l[j]?=some e/\e.key=k/\DR w M x e.val/\∀y,E7 k y es=es.set j (.tup [.v k,y])
 | [],[],i,_,_,f,hf,_=>.inl ⟨rfl,hf i,fun _=>rfl⟩
 | [],_::_,_,h,_,_,_,_=>h.elim
 | _::_,[],_,h,_,_,_,_=>h.elim
 | d0::es,e::l,i,h,ho,f,hf0,hf=>by
  obtain⟨⟨x,s,q⟩,p⟩:=h;subst s;have a:keyOf (.tup [.v e.key,x])=some (e.key,x):=rfl;unfold mok at ho;rw[a] at ho;simp only[jAj] at ho;cases hs:Y1 k e.key with
  | none=>rw[hs] at ho;exact absurd ho.1 (by simp)
  | some b =>
   have c:=hf e l i rfl b hs;cases b with
   | true =>
    refine .inr ⟨0,e,x,?_,by simpa using c,rfl,n.same _ hs,q,fun y=>?_⟩
    ·unfold W5;rw[a];simp only[hs]
    ·unfold E7;rw[a];simp only[hs];rfl
   | false =>
    simp only[Bool.false_eq_true,if_false] at c;obtain⟨d,g,m⟩|⟨j,o,C,d,g,m,u,z,A⟩:=QdW n es l (i+1) p ho.2 f hf0 hf
    ·refine .inl ⟨?_,by rw[c,g],fun y=>?_⟩
     ·unfold W5;rw[a];simp only[hs];exact d
     ·unfold E7;rw[a];simp only[hs,m];rfl
    ·refine .inr ⟨j+1,o,C,?_,?_,by simpa using m,u,z,fun y=>?_⟩
     ·unfold W5;rw[a];simp only[hs];exact d
     ·rw[c,g];congr 3;omega
     ·unfold E7;rw[a];simp only[hs,A];rfl
def kA (k:Value):List MapEntry->Nat->Option (Option (Nat×Value))
 | [],_=>some none
 | e::l,i=>match Y1 k e.key with
  | some true=>some (some (i,e.val))
  | some false=>kA k l (i+1)
  | none=>none
theorem Qg6 (k:Value)(e:MapEntry)(l:List MapEntry)(i:Nat)(r:Bool)(h:Y1 k e.key=some r):kA k (e::l) i=if r then some (some (i,e.val)) else kA k l (i+1):=by rw[kA,h];cases r<;>rfl
theorem uV {d:TypeDesc}{k:Value}(h:∀j r,Y1 k j=some r->Instr.sameNow d k j=some r):∀(l:List MapEntry) (i:Nat) (o:Option (Nat×Value)),kA k l i=some o->Instr.findNow d k l i=some o
 | [],i,o,hq=>by simpa[kA,Instr.findNow] using hq
 | e::l,i,o,hq=>by
  unfold kA at hq;cases hs:Y1 k e.key with
  | none=>rw[hs] at hq;cases hq
  | some b =>
   rw[hs] at hq;cases b with
   | true =>
    simp only[jIj] at hq;subst hq;simp[Instr.findNow,h _ _ hs]
   | false =>
    simp only at hq;simp only[Instr.findNow,h _ _ hs];exact uV h l (i+1) o hq
theorem zC {t:TypeId}{k:Value}(h:∀(w:World) j r,Y1 k j=some r->(Op.equal t k j).run cx.P w=.ok r w):∀(l:List MapEntry) (i:Nat) (o:Option (Nat×Value)),kA k l i=some o->(Instr.findAsking t k l i).run cx.P w=.ok o w
 | [],i,o,hq=>by simp only[kA,jIj] at hq;subst hq;simp[Instr.findAsking,Sem.run_pure]
 | e::l,i,o,hq=>by
  unfold kA at hq;unfold Instr.findAsking;cases hs:Y1 k e.key with
  | none=>rw[hs] at hq;cases hq
  | some b =>
   rw[hs] at hq;simp only[Sem.run_bind,h w _ _ hs,Result.andThen_ok];cases b with
   | true =>
    simp only[jIj] at hq;subst hq;simp[Sem.run_pure]
   | false =>
    simp only at hq;simp only[Bool.false_eq_true,if_false];exact zC h l (i+1) o hq
theorem uW {t:TypeId}{k:Value}(f:KeyOK cx t k){l:List MapEntry}{o:Option (Nat×Value)}(h:kA k l 0=some o):(Instr.findKey t k l).run cx.P w=.ok o w:=by
 obtain⟨d,a,b⟩|⟨d,a,b,c⟩:=f.ask
 ·exact MapKept.run_findKey a (uV b l 0 o h)
 ·cases l with
  | nil=>exact MapKept.run_findKey a (by simpa[kA,Instr.findNow] using h)
  | cons e l =>
   have:Instr.findNow d k (e::l) 0=none:=by simp[Instr.findNow,b]
   simp only[Instr.findKey,Sem.run_bind,Qk a w,Result.andThen_ok,this];exact zC c (e::l) 0 o h
theorem uU {M:Nat->Prop}{t:TypeId}{k:Value}(b:KeyOK cx t k)(es:jVj)(l:List MapEntry)(h:MR w M es l)(f:mok k es=true) :
  (W5 k es=none/\(Instr.findKey t k l).run cx.P w=.ok none w/\∀y,E7 k y es=es++[.tup [.v k,y]]) \/
  ∃j e x,W5 k es=some x/\(Instr.findKey t k l).run cx.P w=.ok (some (j,e.val)) w/\l[j]?=some e/\e.key=k/\DR w M x e.val/\∀y,E7 k y es=es.set j (.tup [.v k,y]):=by
 obtain⟨c,a,d⟩|⟨j,e,x,c,a,d⟩:=QdW b es l 0 h f (kA k) (fun _=>rfl) (fun e l i _ r g=>Qg6 k e l i r g)
 ·exact .inl ⟨c,uW b a,d⟩
 ·rw[Nat.zero_add] at a;exact .inr ⟨j,e,x,c,uW b a,d⟩
theorem MR.set {M:Nat->Prop}:∀{es:jVj} {l:List MapEntry} (j:Nat) (d:D) (e:MapEntry),MR w M es l->(∃x,d=.tup [.v e.key,x]/\DR w M x e.val)->MR w M (es.set j d) (l.set j e)
 | [],[],_,_,_,_,_=>trivial
 | _::_,_::_,0,_,_,h,k=>⟨k,h.2⟩
 | _::_,_::_,j+1,d,e,h,k=>⟨h.1,MR.set j d e h.2 k⟩
 | [],_::_,_,_,_,h,_=>h.elim
 | _::_,[],_,_,_,h,_=>h.elim
theorem MR.push {M:Nat->Prop}:∀{es:jVj} {l:List MapEntry} (d:D) (e:MapEntry),MR w M es l->(∃x,d=.tup [.v e.key,x]/\DR w M x e.val)->MR w M (es++[d]) (l++[e])
 | [],[],_,_,_,k=>⟨k,trivial⟩
 | _::_,_::_,d,e,h,k=>⟨h.1,MR.push d e h.2 k⟩
 | [],_::_,_,_,h,_=>h.elim
 | _::_,[],_,_,h,_=>h.elim
theorem jF (h:HSim cx F hp ρ w){m:AV}{b:Nat}{es:jVj}{i:Value}(a:E2 hp m=some (b,es))(n:VR w (MM F hp ρ) hp ρ m i) :
  look hp b=some (.mp es)/\i=ρ b/\∃r d c,ρ b=.map (some r)/\w.heap[r]?=some (.map d c)/\MR w (MM F hp ρ) es d.toList:=by
 unfold E2 at a;split at a;case h_2=>cases a
 rename_i b0 p;cases n with
 | own _ _ o _ e l g k =>
  rw[e] at a;split at a;case h_2=>cases a
  rename_i j f;cases f;simp only[jIj,jPj] at a;obtain⟨rfl,rfl⟩:=a;refine⟨e,k ?_,h.blk _ _ e⟩;simp only[Blk.ver] at l ⊢;omega
theorem Qqf (h:HSim cx F hp ρ w){t:TypeId}{m k x:AV}{mv kv l:Value}(o:QoU cx sym orc hp t m k x=some r)(ho:∀q,q∈r.ob->q)
  (hm:VR w (MM F hp ρ) hp ρ m mv) (hk:VR w (MM F hp ρ) hp ρ k kv) (hx:VR w (MM F hp ρ) hp ρ x l) :
  ∃w',(Instr.mapUpdate t mv kv l).run cx.P w=.ok () w'/\OpOK cx F hp ρ w r.up r.val undef w':=by
 unfold QoU at o;split at o;case h_2=>cases o
 rename_i kt et b es a2 z hu Y Q a0;split at o;case h_2=>cases o
 rename_i ob o' O Z;simp only[jIj] at o;subst o;obtain⟨hb,rfl,s,a,c,J,u,L⟩:=jF h Y hm;have N:=JZ Q hk;subst N;have H:=Ku w (MM F hp ρ) hp ρ x l z a0 hx;have g:=uB O;have X:=Wx Z ho;have a1:s<w.heap.size:=(Array.getElem?_eq_some_iff.1 u).1;have key:∀(f:Array MapEntry) (A:Nat),(Instr.mapUpdate t (.map (some s)) kv l).run cx.P w=.ok () { w with heap:=w.heap.setIfInBounds s (.map f A) } ->
   MR w (MM F hp ρ) (E7 kv z es) f.toList->∃w',(Instr.mapUpdate t (ρ b) kv l).run cx.P w=.ok () w'/\OpOK cx F hp ρ w [(b,.mp (E7 kv z es))] (.d (.v undef)) undef w':=by
  intro f A G U;rw[J];refine⟨_,G,?_⟩;have n:=MapKept.heap_set (w:=w) (r:=s) (o':=Obj.map f A) u;obtain⟨g1,g2⟩:=h.write (b:=b) (k0:=.mp es) (k:=.mp (E7 kv z es)) (v:=ρ b) (r:=s) (w':={ w with heap:=w.heap.setIfInBounds s (.map f A) }) hb rfl (by rw[J];rfl) (by rw[J];rfl) (.inr ⟨rfl,rfl⟩)
   ⟨fun _=>jLj _,rfl,rfl,rfl,by simp,fun q _ E=>n.2 q E⟩ (fun p=>by refine⟨s,f,A,by rw[Qx];exact J,n.1,?_⟩;exact U.ext p.ext.size (fun q E W=>p.ext.same q E fun V=>W (.inr V)) (fun q E T=>T.imp id (p.mt q E)))
  exact⟨_,g1,g2,.d _ _ (.v _)⟩
 obtain⟨q1,q2,K⟩|⟨j,e,y,q1,q2,K,q4,q5,q6⟩:=uU g es a.toList L X
 ·refine key (a.push { key:=kv,val:=l,born:=c }) (c+1) ?_ ?_
  ·simp[Instr.mapUpdate,Qk hu,MapKept.run_getObj_map u,g.check,q2,MapKept.run_setObj_map _ u,Result.andThen]
  ·rw[K,Array.toList_push];exact L.push _ _ ⟨z,rfl,H⟩
 ·have hj:a[j]?=some e:=by simpa using K
  refine key (a.modify j fun e=>{ e with key:=kv,val:=l }) c ?_ ?_
  ·simp[Instr.mapUpdate,Qk hu,MapKept.run_getObj_map u,g.check,q2,hj,q4,g.stay,MapKept.run_setObj_map _ u,Result.andThen]
  ·have S:(a.modify j fun e=>{ e with key:=kv,val:=l }).toList=a.toList.set j { e with key:=kv,val:=l }:=by
    apply List.ext_getElem?;intro i;rw[Array.getElem?_toList,Array.getElem?_modify,List.getElem?_set,Array.getElem?_toList];by_cases C:j=i
    ·subst C;have M:j<a.toList.length:=(jGj K).1;simp only[if_true,hj,Option.map_some,jTj M]
    ·simp only[jFj C]
   rw[q6,S];exact L.set _ _ _ ⟨z,rfl,H⟩
theorem Ey (h:HSim cx F hp ρ w){t:TypeId}{m k x:AV}{o kv p:Value}(a:UJ cx sym orc hp t m k x=some r)(l:∀q,q∈r.ob->q)
  (j:VR w (MM F hp ρ) hp ρ m o) (i:VR w (MM F hp ρ) hp ρ k kv) (n:VR w (MM F hp ρ) hp ρ x p) :
  ∃w',(Instr.mapUpdate t o kv p).run cx.P w=.ok () w'/\OpOK cx F hp ρ w r.up r.val undef w':=by
 unfold UJ at a;split at a
 ·exact Qqf h a l j i n
 ·split at a;case h_2=>cases a
  rename_i C b g;split at a;case h_2=>cases a
  rename_i A f;simp only[jIj] at a;subst a;obtain⟨s,c⟩:=h.freeze b;have e:=Z8 h b _ _ _ b g (fun _ h=>h) n;obtain⟨w',u,ρ',v,y,z⟩:=Qqf s f l (c.vr j) (c.vr i) (.d _ _ e);refine⟨w',u,ρ',?_,?_,?_⟩
  ·rw[List.append_assoc];exact v
  ·rw[List.append_assoc];exact c.trans y
  ·rw[List.append_assoc];exact z
theorem QdF {M:Nat->Prop}{t:TypeId}{k:Value}{ok:Bool}{z:Value}{es:jVj}{l:List MapEntry}{x:D}(f:KeyOK cx t k)(h:MR w M es l)(a:YX ok k (ofV z) es=some x) :
  ∃o,(Instr.findKey t k l).run cx.P w=.ok o w/\((o=none/\(if ok then x=.tup [ofV z,.v (.bool false)] else x=ofV z))\/∃j v y,o=some (j,v)/\DR w M y v/\(if ok then x=.tup [y,.v (.bool true)] else x=y)):=by
 unfold YX at a;split at a
 ·cases a
 rename_i b;obtain⟨c,d,_⟩|⟨j,e,y,c,d,i,m,g,_⟩:=uU f es l h b
 ·refine⟨_,d,.inl ⟨rfl,?_⟩⟩;rw[c] at a;cases ok<;>simp_all
 ·refine⟨_,d,.inr ⟨_,_,y,rfl,g,?_⟩⟩;rw[c] at a;cases ok<;>simp_all
theorem QgV (h:HSim cx F hp ρ w){m:AV}{es:jVj}{g:Value}(d:jZ hp m=some es)(f:VR w (MM F hp ρ) hp ρ m g) :
  ∃r a c,g=.map (some r)/\w.heap[r]?=some (.map a c)/\MR w (MM F hp ρ) es a.toList:=by
 unfold jZ at d;split at d
 ·rename_i b ver;split at d;case h_2=>cases d
  rename_i e l;simp only[jIj] at d;subst d;obtain⟨_,rfl,r,a,c,i,j,k⟩:=jF (b:=b) (es:=e) h (by unfold E2;simp only[l]) f;exact⟨r,a,c,i,j,k⟩
 ·simp only[jIj] at d;subst d;cases f;rename_i n;exact n.mr
 ·cases d
theorem Qci (h:HSim cx F hp ρ w){t:TypeId}{m k:AV}{ok:Bool}{L kv:Value}(e:zg cx sym orc hp t m k ok=some r)(T:∀q,q∈r.ob->q)
  (S:VR w (MM F hp ρ) hp ρ m L) (Q:VR w (MM F hp ρ) hp ρ k kv) :
  ∃v,(Instr.lookup t L kv ok).run cx.P w=.ok v w/\OpOK cx F hp ρ w r.up r.val v w:=by
 unfold zg at e;split at e;case h_2=>cases e
 rename_i U N es V A J H;obtain⟨X,M,c,rfl,u,O⟩:=QgV h J S;have G:=JZ H Q;subst G;have s:∀(z:Value) (x:D),qX cx U kv=true->cx.zero N=some z->YX ok kv (ofV z) es=some x ->
   ∃v,(Instr.lookup t (.map (some X)) kv ok).run cx.P w=.ok v w/\OpOK cx F hp ρ w [] (.d x) v w:=by
  intro z x b l K;have a:=uB b;have p:=Y2 l w;have n:DR w (MM F hp ρ) (ofV z) z:=QhK _ _ z;obtain⟨o,C,W⟩:=QdF a O K;obtain⟨rfl,f⟩|⟨j,v,y,rfl,f,E⟩:=W
  ·cases ok with
   | true =>
    simp only[if_true] at f;subst f;refine⟨.tuple #[z,.bool false],?_,OpOK.quiet h (.d _ _ ?_)⟩
    ·simp[Instr.lookup,Qk A,MapKept.run_getObj_map u,a.check,C,p,Result.andThen]
    ·refine .tup _ [z,.bool false] rfl fun i c y hc g=>?_;match i with
     | 0=>cases hc;cases g;exact n
     | 1=>cases hc;cases g;exact .v _
     | i+2=>simp at hc
   | false =>
    simp only[if_false,Bool.false_eq_true] at f;subst f;refine⟨z,?_,OpOK.quiet h (.d _ _ n)⟩;simp[Instr.lookup,Qk A,MapKept.run_getObj_map u,a.check,C,p,Result.andThen]
  ·cases ok with
   | true =>
    simp only[if_true] at E;subst E;refine⟨.tuple #[v,.bool true],?_,OpOK.quiet h (.d _ _ ?_)⟩
    ·simp[Instr.lookup,Qk A,MapKept.run_getObj_map u,a.check,C,Result.andThen]
    ·refine .tup _ [v,.bool true] rfl fun i c y hc g=>?_;match i with
     | 0=>cases hc;cases g;exact f
     | 1=>cases hc;cases g;exact .v _
     | i+2=>simp at hc
   | false =>
    simp only[if_false,Bool.false_eq_true] at E;subst E;refine⟨v,?_,OpOK.quiet h (.d _ _ f)⟩;simp[Instr.lookup,Qk A,MapKept.run_getObj_map u,a.check,C,Result.andThen]
 split at e
 ·rename_i z x o' b l _;simp only[jIj] at e;subst e;exact s z x b l (T _ jMj)
 ·rename_i z o' b l _;split at e;case h_2=>cases e
  rename_i x K;simp only[jIj] at e;subst e;exact s z x b l K
 ·cases e
theorem QaJ (h:HSim cx F hp ρ w){name:Nat}(t:TypeId)(f:look hp name=none):∃v w',(Instr.makeMap t none).run cx.P w=.ok v w'/\OpOK cx F hp ρ w [(name,.mp [])] (.own name 0) v w':=by
 refine⟨.map (some w.heap.size),w.alloc (.map #[] 0),rfl,?_⟩;obtain⟨d,e⟩:=h.freshO (b:=name) (k:=.mp []) (v:=.map (some w.heap.size)) (.map #[] 0) (fun r c=>by simp only[QX,jIj] at c;exact c.symm) (fun k0 a=>by rw[f] at a;cases a)
  (fun g=>⟨w.heap.size,#[],0,Qx _ _ _,Z2 _ _,trivial⟩)
 exact⟨_,d,e,.own name 0 _ _ (Qf _ _ _) (jLj _) rfl fun _=>(Qx _ _ _).symm⟩
theorem HSim.box_frozen (h:HSim cx F hp ρ w){b:Nat}{x:AV}{i:jVj}(t:look hp b=some (.box x))(G:x.toD=some (.agg i)) :
  HSim cx F ((b,.fbox (.agg i))::hp) ρ w/\Steps1 hp ρ w ((b,.fbox (.agg i))::hp) ρ w:=by
 have g:∀q,Mut ((b,.fbox (.agg i))::hp) ρ q->∃n k,n≠b/\look hp n=some k/\k.live=true/\QX (ρ n)=some q:=by
  rintro q ⟨n,J,d,s,E⟩;by_cases a:n=b
  ·subst a;rw[Qf] at d;cases d;cases s
  ·rw[Qc _ _ (Ne.symm a)] at d;exact⟨n,J,a,d,s,E⟩
 have p:Steps1 hp ρ w ((b,.fbox (.agg i))::hp) ρ w:=by
  refine⟨Ext.refl _ _,fun q _ s=>?_,⟨fun n l d=>?_⟩⟩
  ·obtain⟨n,k,_,m,o,z⟩:=g q s;exact⟨n,k,m,o,z⟩
  ·by_cases a:n=b
   ·subst a;rw[t] at d;cases d;exact⟨_,Qf _ _ _,jLj _,fun _=>rfl⟩
   ·exact⟨l,by rw[Qc _ _ (Ne.symm a)];exact d,jLj _,fun _=>rfl⟩
 have U:BlkR w (MM F ((b,.fbox (.agg i))::hp) ρ) ((b,.fbox (.agg i))::hp) ρ b (.fbox (.agg i)):=by
  obtain⟨r,e,v,O,m,o,z,T⟩:=h.blk b _ t;have f:QX (ρ b)=some r:=by rw[m];rfl
  have C:r<w.heap.size:=(h.blk b _ t).root_lt rfl f;refine⟨r,m,?_,C,fun j c X=>?_⟩
  ·rintro(V|W)
   ·exact h.forb r ⟨b,_,t,rfl,f⟩ V
   ·obtain⟨n,k,a,P,Q,S⟩:=g r W;exact a (h.inj n b k _ r P t Q rfl S f)
  ·have A:DR w (MM F hp ρ) (.agg i) v:=Ku w (MM F hp ρ) hp ρ x v _ G T;obtain⟨y,Y,H⟩:=Qg1 A j c X;exact⟨y,by rw[Nat.zero_add,YS o];exact Y,p.dr H⟩
 refine⟨h.step p (fun n J d=>?_) (fun n N l K q m o L M Z r2=>?_) (fun q E=>?_),p⟩
 ·by_cases a:n=b
  ·subst a;rw[Qf] at d;cases d;exact .inr U
  ·rw[Qc _ _ (Ne.symm a)] at d;exact .inl ⟨d,rfl,fun _ _ _=>rfl⟩
 ·have u:∀n l,look ((b,Blk.fbox (.agg i))::hp) n=some l->l.live=true->look hp n=some l:=by
   intro n l d s;by_cases a:n=b
   ·subst a;rw[Qf] at d;cases d;cases s
   ·rw[Qc _ _ (Ne.symm a)] at d;exact d
  exact h.inj n N l K q (u n l m L) (u N K o M) L M Z r2
 ·obtain⟨n,k,_,m,o,z⟩:=g q E;exact h.forb q ⟨n,k,m,o,z⟩
theorem QhD (h:HSim cx F hp ρ w)(b:Nat):HSim cx F (preB hp b) ρ w/\Steps1 hp ρ w (preB hp b) ρ w:=by
 unfold preB;split
 ·rename_i x a;split
  ·rename_i d c;exact h.box_frozen a c
  ·exact⟨h,Steps1.refl _ _ _⟩
 ·exact⟨h,Steps1.refl _ _ _⟩
theorem Qa9:∀(l:List Nat) (hp:List (Nat×Blk)),HSim cx F hp ρ w->HSim cx F (Qdq hp l) ρ w/\Steps1 hp ρ w (Qdq hp l) ρ w
 | [],hp,h=>⟨h,Steps1.refl _ _ _⟩
 | b::l,hp,h=>by obtain⟨a,c⟩:=QhD h b;obtain⟨d,e⟩:=Qa9 l _ a;exact⟨d,c.trans e⟩
theorem Qba:∀(l:List Nat) (hp:List (Nat×Blk)),∃new,Qdq hp l=new++hp
 | [],_=>⟨[],rfl⟩
 | b::l,hp=>by
  obtain⟨e,c⟩:=Qba l (preB hp b);have:∃a,preB hp b=a++hp:=by
   unfold preB;split
   ·split
    ·exact⟨[_],rfl⟩
    ·exact⟨[],rfl⟩
   ·exact⟨[],rfl⟩
  obtain⟨a,d⟩:=this;exact⟨e++a,by rw[List.append_assoc,<-d];exact c⟩
theorem ui (h:HSim cx F hp ρ w){t:TypeId}{b ver sz i off:Nat}{a:Bool}{d:Value}(c:J3 cx hp orc t b ver sz i off a=some r)(e:VR w (MM F hp ρ) hp ρ (.ptr b ver sz i off) d) :
  a=true/\∃v,(Instr.sliceAt t d none none none).run cx.P w=.ok v w/\OpOK cx F hp ρ w r.up r.val v w:=by
 unfold J3 at c;cases c
theorem Qrd (h:HSim cx F hp ρ w){t:TypeId}{x:D}{off:Nat}{l:Bool}{G:Value}(m:QrA cx orc t x off l=some r)(O:VR w (MM F hp ρ) hp ρ (.dptr x off) G) :
  l=true/\∃v,(Instr.sliceAt t G none none none).run cx.P w=.ok v w/\OpOK cx F hp ρ w r.up r.val v w:=by
 unfold QrA at m;split at m;case h_2=>cases m
 rename_i p n E N;split at m;case h_2=>cases m
 rename_i s L;split at m;case h_2=>cases m
 rename_i hc;simp only[jIj] at m;subst m;simp only[jAj,Nat.blt_eq] at hc;obtain⟨⟨⟨⟨⟨H,u⟩,z⟩,A⟩,W⟩,J⟩:=hc;replace u:=jqj u;replace z:=jqj z;replace A:=jqj A;subst u;subst z;subst A;refine⟨H,?_⟩;cases O with
 | dptr _ _ blk o K =>
  obtain⟨T,U,V⟩:=K;have b:∀(j:Nat) (c:D),p[j]?=some c->∃x,c=.v x/\one x=true:=by
   intro j c k;have:=List.all_eq_true.1 J c (jgj k);cases c with
   | v x=>exact⟨x,rfl,this⟩
   | agg _=>cases this
   | tup _=>cases this
   | lst _ _ _=>cases this
   | fn _ _ _=>cases this
   | ref _ _=>cases this
   | nan _=>cases this
   | mp _=>cases this
  have f:∀(j:Nat) (x:Value),p[j]?=some (.v x)->w.cell? ⟨blk,o+j,none⟩=some x:=by intro j x k;obtain⟨y,Q,C⟩:=V j (.v x) k;cases C;exact Q
  refine⟨.slice (some ⟨blk,o+0,none⟩) p.length p.length,?_,OpOK.quiet h (.d _ _ ?_)⟩
  ·have S:=run_sizeOf L w;simp[Instr.sliceAt,Qk N,Instr.sureAddr,Instr.sliceBounds,S,Result.andThen_ok];intro X;rw[add_at];rfl
  ·have a:∀(i:Nat) (e:D) (j:Nat) (c:D),p[i]?=some e->e.cells[j]?=some c->j=0/\e=c:=by
    intro i e j c g k;obtain⟨x,rfl,_⟩:=b i e g;cases j with
    | zero=>simp[D.cells] at k;exact⟨rfl,k⟩
    | succ j=>simp[D.cells] at k
   exact DR.lst (w:=w) (M:=MM F hp ρ) true 1 p (some ⟨blk,o+0,none⟩) p.length blk (o+0) (fun j=>(w.cell? ⟨blk,o+0+j,none⟩).getD undef) (fun _=>rfl) (jLj _) (fun _=>⟨rfl,T,U⟩) (fun i e g=>by
     obtain⟨x,rfl,_⟩:=b i e g;rfl) (fun i e j c g k=>by
     obtain⟨rfl,rfl⟩:=a i e j c g k;obtain⟨x,rfl,q⟩:=b _ _ g;have:=f _ x g;simp only[Nat.mul_one,Nat.add_zero,this,Option.getD_some];exact⟨trivial,q⟩) (fun i e j c g k=>by
     obtain⟨rfl,rfl⟩:=a i e j c g k;obtain⟨x,rfl,q⟩:=b _ _ g;have:=f _ x g;simp only[Nat.mul_one,Nat.add_zero,this,Option.getD_some];exact .v _)
theorem Qdk (h:HSim cx F hp ρ w){name:Nat}{t:TypeId}{x:AV}{f:Value}(a:QcE cx hp name orc t x=some r)(n:VR w (MM F hp ρ) hp ρ x f) :
  ∃v w',(Instr.range t f).run cx.P w=.ok v w'/\OpOK cx F hp ρ w r.up r.val v w':=by
 unfold QcE at a;split at a;case h_2=>cases a
 rename_i s m e j;simp only[jIj] at a;subst a;have d:=JZ e n;subst d;refine⟨.pointer (some ⟨w.heap.size,0,none⟩),w.alloc (.stringIter s 0),?_,?_⟩
 ·simp[Instr.range,Qk m]
 obtain⟨g,i⟩:=h.freshO (b:=name) (k:=.it s 0) (v:=.pointer (some ⟨w.heap.size,0,none⟩)) (.stringIter s 0) (fun r a=>by simp only[QX,jIj] at a;exact a.symm) (fun k0 c=>by rw[j] at c;cases c)
  (fun l=>⟨w.heap.size,Qx _ _ _,Z2 _ _⟩)
 exact⟨_,g,i,.own name 0 _ _ (Qf _ _ _) (jLj _) rfl fun _=>(Qx _ _ _).symm⟩
theorem ut (h:HSim cx F hp ρ w){m:AV}{b p:Nat}{s:jSj}{f:Value}(a:kU hp m=some (b,s,p))(j:VR w (MM F hp ρ) hp ρ m f) :
  look hp b=some (.it s p)/\f=ρ b/\∃r,ρ b=.pointer (some ⟨r,0,none⟩)/\w.heap[r]?=some (.stringIter s p):=by
 unfold kU at a;split at a;case h_2=>cases a
 rename_i b0 n;cases j with
 | own _ _ k _ c i e g =>
  rw[c] at a;split at a;case h_2=>cases a
  rename_i s0 l d;cases d;simp only[jIj,jPj] at a;obtain⟨rfl,rfl,rfl⟩:=a;refine⟨c,g ?_,h.blk _ _ c⟩;simp only[Blk.ver] at i ⊢;omega
theorem QeE (h:HSim cx F hp ρ w){ty:TypeId}{x:AV}{z:Value}(a:Qf6 sym orc hp x=some r)(u:∀q,q∈r.ob->q)(J:VR w (MM F hp ρ) hp ρ x z) :
  ∃v w',(Instr.next z true ty).run cx.P w=.ok v w'/\OpOK cx F hp ρ w r.up r.val v w':=by
 unfold Qf6 at a;split at a;case h_2=>cases a
 rename_i b s p t;obtain⟨E,rfl,m,j,n⟩:=ut h t J;have f:p<s.size->∃v w',(Instr.next (ρ b) true ty).run cx.P w=.ok v w'/\OpOK cx F hp ρ w [(b,.it s (p+(Utf8.decode s p).2))] (.d (QhO s p)) v w':=by
  intro hp;refine⟨.tuple #[.bool true,.int .i64 (p:Int),.int .i32 ((Utf8.decode s p).1:Int)],{ w with heap:=w.heap.setIfInBounds m (.stringIter s (p+(Utf8.decode s p).2)) },?_,?_⟩
  ·rw[j];simp[Instr.next,getObj,setObj,Sem.run,n,hp,goInt,Result.andThen]
  have e:=MapKept.heap_set (w:=w) (r:=m) (o':=Obj.stringIter s (p+(Utf8.decode s p).2)) n;obtain⟨A,C⟩:=h.write (b:=b) (k0:=.it s p) (k:=.it s (p+(Utf8.decode s p).2)) (v:=ρ b) (r:=m) (w':={ w with heap:=w.heap.setIfInBounds m (.stringIter s (p+(Utf8.decode s p).2)) }) E rfl (by rw[j];rfl) (by rw[j];rfl) (.inr ⟨rfl,rfl⟩)
   ⟨fun _=>jLj _,rfl,rfl,rfl,by simp,fun q _ G=>e.2 q G⟩ (fun H=>by refine⟨m,by rw[Qx];exact j,e.1⟩)
  exact⟨_,A,C,.d _ _ (.tup _ [.bool true,.int .i64 (p:Int),.int .i32 ((Utf8.decode s p).1:Int)] rfl fun i c y hc l=>by
   match i with
   | 0=>cases hc;cases l;exact .v _
   | 1=>cases hc;cases l;exact .v _
   | 2=>cases hc;cases l;exact .v _
   | i+3=>simp at hc)⟩
 have g:¬p<s.size->∃v w',(Instr.next (ρ b) true ty).run cx.P w=.ok v w'/\OpOK cx F hp ρ w [] (.d (.tup [.v (.bool false)])) v w':=by
  intro hp;refine⟨.tuple #[.bool false],w,?_,OpOK.quiet h (.d _ _ (.tup _ [.bool false] rfl fun i c y hc l=>?_))⟩
  ·rw[j];simp[Instr.next,getObj,Sem.run,n,hp,Result.andThen]
  ·match i with
   | 0=>cases hc;cases l;exact .v _
   | i+1=>simp at hc
 split at a
 ·simp only[jIj] at a;subst a;exact f (u _ jMj)
 ·simp only[jIj] at a;subst a;exact g (u _ jMj)
 ·split at a
  ·rename_i o;simp only[jIj] at a;subst a;exact f (of_decide_eq_true o)
  ·rename_i o;simp only[jIj] at a;subst a;exact g (of_decide_eq_false o)
 ·cases a
theorem wu {M:Nat->Prop}{y v:Value}(h:VR w M hp ρ (.d (.v y)) v):v=y:=by
 cases h with
 | d _ _ h=>cases h;rfl
theorem QrL (h:HSim cx F hp ρ w){t:TypeId}{l c:AV}{i f:Value}(a:Qsj cx sym orc t l c=some r)(o:∀q,q∈r.ob->q)(k:VR w (MM F hp ρ) hp ρ l i)(hc:VR w (MM F hp ρ) hp ρ c f) :
  ∃v w',(Instr.makeSlice t i f).run cx.P w=.ok v w'/\OpOK cx F hp ρ w r.up r.val v w':=by
 unfold Qsj at a;split at a;case h_2=>cases a
 rename_i g kn n y m u;split at a;case h_2=>cases a
 rename_i s z b p x j;split at a;case h_2=>cases a
 rename_i ob o' e d;simp only[jIj] at a;subst a;rw[wu k,wu hc];exact Qqu h u p x j d (Wx e o)
theorem Qdt {hev:∀x,VR w (MM F hp ρ) hp ρ (ev x) (re x)}{lo:Option Operand}{l:Option Value}(h:optV (lo.map ev)=some l):lo.map re=l:=by
 cases lo with
 | none=>simp only[Option.map_none,optV,jIj] at h;subst h;rfl
 | some x =>
  simp only[Option.map_some,optV] at h;split at h<;>simp only[jIj,reduceCtorEq] at h;rename_i v a;subst h;simp only[Option.map_some,jIj];exact JZ a (hev x)
theorem Y3 {hev:∀x,VR w (MM F hp ρ) hp ρ (ev x) (re x)}{lo:Option Operand}{d n:Int}(h:Us (lo.map ev) d=some n):(lo.map re=none/\n=d)\/∃k,lo.map re=some (.int k n):=by
 cases lo with
 | none=>simp only[Option.map_none,Us,jIj] at h;exact .inl ⟨rfl,h.symm⟩
 | some x =>
  have a:=hev x;simp only[Option.map_some] at h ⊢;cases hex:ev x with
  | d q =>
   rw[hex] at h a;cases q with
   | v y =>
    cases y with
    | int k m =>
     simp only[Us,jIj] at h;subst h;exact .inr ⟨k,by rw[wu a]⟩
    | _=>simp[Us] at h
   | _=>simp[Us] at h
  | _=>rw[hex] at h;simp[Us] at h
theorem Yn {P:Program}{k:IntKind}{i:Int}{y:Nat}(a:0<=i)(b:i<=(y:Int))(c:BoundsCode)(w:World):(Instr.sliceBound (.int k i) y c).run P w=.ok i.toNat w:=by simp[Instr.sliceBound,asIntOf,a,b]
theorem QaR (h:HSim cx F hp ρ w)(hev:∀x,VR w (MM F hp ρ) hp ρ (ev x) (re x)){t:TypeId}{x:Operand}{lo hi G:Option Operand}(f:Um cx sym orc hp t (ev x) (lo.map ev) (hi.map ev) (G.map ev)=some r)(ho:∀q,q∈r.ob->q) :
  ∃v,(Instr.sliceAt t (re x) (lo.map re) (hi.map re) (G.map re)).run cx.P w=.ok v w/\OpOK cx F hp ρ w r.up r.val v w:=by
 have hx:=hev x;unfold Um at f;split at f;case h_2=>cases f
 rename_i o b ver _ M a1 a2;split at f;case h_2=>cases f
 rename_i ver' sz es C;split at f;case h_2=>cases f
 rename_i W k hu L hk;split at f;case h_2=>cases f
 rename_i s ob o' hs S;split at f;case h_2=>cases f
 rename_i U;simp only[jIj] at f;subst f;have e1:=jqj L;have e2:=jqj U;subst e1;subst e2;obtain⟨b1,b2⟩:=Wx S ho;have e3:G.map re=none:=by cases G<;>simp_all
 have e4:lo.map re=none:=by cases lo<;>simp_all
 rw[e3,e4];rw[M] at hx;have O:=Y3 (hev:=hev) hk;obtain⟨E,Q⟩:∃E,hi.map re=some (.int E k):=by
  obtain⟨_,e⟩|e:=O
  ·omega
  ·exact e
 rw[Q];cases hx with
 | own _ _ kk _ m hv Z hh =>
  rw[C] at m;cases m;rw[hh rfl];have X:=Qk hu w;have Y:=run_sizeOf hs w;obtain⟨rfl,V,z⟩|⟨A,c,e,cap,z,⟨q2,g⟩,q3,q4,q5,q6⟩:=h.blk b _ C
  ·have N:k=0:=by simp at b2;omega
   subst N;rw[z];obtain⟨H,J⟩:=h.renew C z;refine⟨.slice V 0 0,?_,⟨VI ρ b (.slice V 0 0),H,J,.own b (ver+1) _ _ (Qf _ _ _) (jLj _) rfl fun _=>(Qx _ _ _).symm⟩⟩;have K:=Yn (P:=cx.P) (k:=E) (i:=0) (y:=0) (by omega) (by omega) .sliceAcap w;simp[Instr.sliceAt,Instr.slice,Sem.run_bind,X,Instr.sliceBounds,K,Y,Result.andThen_ok]
  ·rw[z];have n:(es.take k.toNat).length=k.toNat:=by simp;omega
   obtain⟨H,J⟩:=h.write (b:=b) (k:=.row (ver+1) s (es.take k.toNat)) (v:=.slice (some ⟨A,0,none⟩) k.toNat cap) C rfl (r:=A) (by rw[z];exact Q8 g) (Q8 g)
    (.inl (Nat.lt_succ_self _)) ⟨fun _=>jLj _,rfl,rfl,rfl,jLj _,fun _ _ _=>rfl⟩ (fun T=>by
     have u:RowIn w (MM F hp ρ) s (es.take k.toNat) c:=by refine⟨fun i d l=>q5 i d ?_,fun i d j a l ha=>q6 i d j a ?_ ha⟩<;>(rw[List.getElem?_take] at l;split at l;exact l;cases l)
     have p:=u.mono (w':=w) (M':=MM F ((b,Blk.row (ver+1) s (es.take k.toNat))::hp) (VI ρ b (.slice (some ⟨A,0,none⟩) k.toNat cap))) (fun x y l=>T.dr l);exact .inr ⟨A,c,e,cap,by rw[Qx,n],⟨by rw[n];omega,g⟩,q3,q4,p.1,p.2⟩)
   refine⟨.slice (some ⟨A,0,none⟩) k.toNat cap,?_,⟨_,H,J,.own b (ver+1) _ _ (Qf _ _ _) (jLj _) rfl fun _=>(Qx _ _ _).symm⟩⟩;have K:=Yn (P:=cx.P) (k:=E) (i:=k) (y:=cap) (by omega) (by omega) .sliceAcap w;simp[Instr.sliceAt,Instr.slice,Sem.run_bind,X,Instr.sliceBounds,K,Y,Result.andThen_ok];intro _;rw[add_at]
theorem Qfc (h:HSim cx F hp ρ w)(hev:∀x,VR w (MM F hp ρ) hp ρ (ev x) (re x)){t:TypeId}{x:Operand}{lo hi b:Option Operand}(a:yD cx sym orc hp t (ev x) (lo.map ev) (hi.map ev) (b.map ev)=some r)(c:∀q,q∈r.ob->q) :
  ∃v,(Instr.sliceAt t (re x) (lo.map re) (hi.map re) (b.map re)).run cx.P w=.ok v w/\OpOK cx F hp ρ w r.up r.val v w:=by
 unfold yD at a;cases a
theorem Qjp {hi:Option AV}{es:jVj}{h l:Int}(b:Us hi es.length=some h):cutD (isNo hi) es h l=(es.take h.toNat).drop l.toNat:=by
 cases hi with
 | none =>
  simp only[Us,jIj] at b;subst b;simp[cutD,isNo]
 | some a=>rfl
theorem QcB (h:HSim cx F hp ρ w)(hev:∀x,VR w (MM F hp ρ) hp ρ (ev x) (re x)){t:TypeId}{x:Operand}{lo hi J:Option Operand}(n:Xb cx sym orc hp t (ev x) (lo.map ev) (hi.map ev) (J.map ev)=some r)(ho:∀q,q∈r.ob->q) :
  ∃v,(Instr.sliceAt t (re x) (lo.map re) (hi.map re) (J.map re)).run cx.P w=.ok v w/\OpOK cx F hp ρ w r.up r.val v w:=by
 have hx:=hev x;unfold Xb at n;split at n
 ·rename_i s a3;split at n;case h_2=>cases n
  rename_i l b Q Z p;rw[a3] at hx;have e1:=Qdt (hev:=hev) Z;have e2:=Qdt (hev:=hev) p;have e3:J.map re=none:=by cases J<;>simp_all
  rw[e1,e2,e3,wu hx];exact kS h n ho
 ·split at n;case h_3=>cases n
  case h_2 =>
   rename_i Y m0 full sz es G hu Q hd;split at n;case h_2=>cases n
   rename_i s l b m hs Z p a0;split at n;case h_2=>cases n
   rename_i ob o' S;simp only[jIj] at n;subst n;obtain⟨b1,b2,b3,b5,b4⟩:=Wx S ho;have u:=Z8 h G _ _ _ G hd (fun _ h=>h) hx;rw[<-Q] at a0;have a4:=Y3 (hev:=hev) a0;have O:=Y3 (hev:=hev) Z;have L:=Y3 (hev:=hev) p;obtain⟨km,m1⟩:∃k,J.map re=some (.int k m):=by
    obtain⟨e,_⟩|e:=a4
    ·cases J<;>simp_all
    ·exact e
   obtain⟨kh,E⟩:∃k,hi.map re=some (.int k b):=by
    obtain⟨_,e⟩|e:=L
    ·omega
    ·exact e
   generalize re x=xv at u ⊢;cases u with
   | lst _ _ _ a cap blk off ys hf hc ha T hw K =>
    have hb:(Instr.sliceBounds true es.length cap (lo.map re) (hi.map re) (J.map re)).run cx.P w=.ok (l.toNat,b.toNat,m.toNat) w:=by
     have W:=Yn (P:=cx.P) (k:=km) (i:=m) (y:=cap) (by omega) (by omega) .slice3Acap w;have X:=Yn (P:=cx.P) (k:=kh) (i:=b) (y:=m.toNat) (by omega) (by omega) .slice3B w;obtain⟨H,l2⟩|⟨k',H⟩:=O
     ·have l3:l.toNat=0:=by rw[l2];rfl
      simp[Instr.sliceBounds,E,H,m1,W,X,l3,Result.andThen_ok]
     ·have h5:=Yn (P:=cx.P) (k:=k') (i:=l) (y:=b.toNat) (by omega) (by omega) .slice3C w;simp[Instr.sliceBounds,E,H,m1,W,X,h5,Result.andThen_ok]
    have a2:=Qk hu w;have V:=run_sizeOf hs w;refine⟨.slice (if m.toNat=l.toNat then a else a.map (·.add (l.toNat*s))) (b.toNat - l.toNat) (m.toNat - l.toNat),?_,?_⟩
    ·simp only[Instr.sliceAt,Instr.slice,Sem.run_bind,a2,Result.andThen_ok,hb,V,Sem.run_pure]
    ·refine OpOK.frz h G (.d _ _ ?_);have z:((es.take b.toNat).drop l.toNat).length=b.toNat - l.toNat:=by simp;omega
     have f:∀(i:Nat) (e:D),((es.take b.toNat).drop l.toNat)[i]?=some e->es[l.toNat+i]?=some e:=by
      intro i e g;rw[List.getElem?_drop,List.getElem?_take] at g;split at g
      ·exact g
      ·cases g
     have C:=DR.lst (w:=w) (M:=MM F (Qd hp G++hp) ρ) (decide (b=m)) sz ((es.take b.toNat).drop l.toNat) (if m.toNat=l.toNat then a else a.map (·.add (l.toNat*s))) (m.toNat - l.toNat) blk (off+l.toNat*sz)
      (fun k=>ys (l.toNat*sz+k)) (fun h=>by have:=of_decide_eq_true h;omega) (by omega)
      (fun A=>by
       have o:es≠[]:=by rintro rfl;simp at A
       obtain⟨g1,g2,g3⟩:=ha o;have U:sz=s:=by
        obtain e|e:=b4
        ·exact absurd e o
        ·exact e
       subst U;have a1:0<((es.take b.toNat).drop l.toNat).length:=List.length_pos_iff.2 A;refine⟨?_,g2,g3⟩;rw[jFj (by omega),g1];simp[add_at])
      (fun i e g=>T _ e (f i e g))
      (fun i e j c g N=>by have:=hw _ e j c (f i e g) N;rw[Nat.add_mul,Nat.add_assoc] at this;rw[Nat.add_assoc];exact this)
      (fun i e j c g N=>by have:=K _ e j c (f i e g) N;rw[Nat.add_mul,Nat.add_assoc] at this;exact this)
     rw[z] at C;exact C
  rename_i Y full sz es G hu Q hd;split at n;case h_2=>cases n
  rename_i s l b hs Z p;split at n;case h_2=>cases n
  rename_i ob o' S;simp only[jIj] at n;subst n;rw[Qjp p];obtain⟨b1,b2,b3,b4⟩:=Wx S ho;have u:=Z8 h G _ _ _ G hd (fun _ h=>h) hx;have e3:J.map re=none:=by cases J<;>simp_all
  rw[e3];generalize re x=xv at u ⊢;cases u with
  | lst _ _ _ a cap blk off ys hf hc ha T hw K =>
   have O:=Y3 (hev:=hev) Z;have L:=Y3 (hev:=hev) p;have hb:(Instr.sliceBounds true es.length cap (lo.map re) (hi.map re) none).run cx.P w=.ok (l.toNat,b.toNat,cap) w:=by
    obtain⟨E,V⟩|⟨k,E⟩:=L<;>obtain⟨H,l2⟩|⟨k',H⟩:=O
    ·subst V;subst l2;simp[Instr.sliceBounds,E,H]
    ·subst V;have:l<=(es.length:Int):=by omega
     simp[Instr.sliceBounds,E,H,Instr.sliceBound,asIntOf,b1,this]
    ·subst l2;have W:0<=b:=by omega
     have X:b<=(cap:Int):=by omega
     simp[Instr.sliceBounds,E,H,Instr.sliceBound,asIntOf,W,X]
    ·have W:0<=b:=by omega
     have X:b<=(cap:Int):=by omega
     have h5:l<=((b.toNat:Nat):Int):=by omega
     simp[Instr.sliceBounds,E,H,Instr.sliceBound,asIntOf,W,X,b1];omega
   have E:=Qk hu w;have V:=run_sizeOf hs w;refine⟨.slice (if cap=l.toNat then a else a.map (·.add (l.toNat*s))) (b.toNat - l.toNat) (cap - l.toNat),?_,?_⟩
   ·simp only[Instr.sliceAt,Instr.slice,Sem.run_bind,E,Result.andThen_ok,hb,V,Sem.run_pure]
   ·refine OpOK.frz h G (.d _ _ ?_);have z:((es.take b.toNat).drop l.toNat).length=b.toNat - l.toNat:=by simp;omega
    have f:∀(i:Nat) (e:D),((es.take b.toNat).drop l.toNat)[i]?=some e->es[l.toNat+i]?=some e:=by
     intro i e g;rw[List.getElem?_drop,List.getElem?_take] at g;split at g
     ·exact g
     ·cases g
    have C:=DR.lst (w:=w) (M:=MM F (Qd hp G++hp) ρ) (decd sym orc&&(full&&decide (b=(es.length:Int)))) sz ((es.take b.toNat).drop l.toNat) (if cap=l.toNat then a else a.map (·.add (l.toNat*s))) (cap - l.toNat) blk (off+l.toNat*sz)
     (fun k=>ys (l.toNat*sz+k)) (fun h=>by simp only[jAj,decide_eq_true_eq] at h;have:=hf h.2.1;omega) (by omega)
     (fun A=>by
      have o:es≠[]:=by rintro rfl;simp at A
      obtain⟨g1,g2,g3⟩:=ha o;have U:sz=s:=by
       obtain e|e:=b4
       ·exact absurd e o
       ·exact e
      subst U;have a1:0<((es.take b.toNat).drop l.toNat).length:=List.length_pos_iff.2 A;refine⟨?_,g2,g3⟩;rw[jFj (by omega),g1];simp[add_at])
     (fun i e g=>T _ e (f i e g))
     (fun i e j c g N=>by have:=hw _ e j c (f i e g) N;rw[Nat.add_mul,Nat.add_assoc] at this;rw[Nat.add_assoc];exact this)
     (fun i e j c g N=>by have:=K _ e j c (f i e g) N;rw[Nat.add_mul,Nat.add_assoc] at this;exact this)
    rw[z] at C;exact C
theorem QbU (h:HSim cx F hp ρ w)(hev:∀x,VR w (MM F hp ρ) hp ρ (ev x) (re x)){t:TypeId}{b ver sz i off:Nat}{lo hi:Option Operand}{a:Bool}{d:Value}(c:QbV cx hp orc t b ver sz i off (lo.map ev) (hi.map ev) a=some r)(e:VR w (MM F hp ρ) hp ρ (.ptr b ver sz i off) d) :
  a=true/\∃v,(Instr.sliceAt t d (lo.map re) (hi.map re) none).run cx.P w=.ok v w/\OpOK cx F hp ρ w r.up r.val v w:=by
 unfold QbV at c;cases c
theorem Qfm (h:HSim cx F hp ρ w){t:TypeId}{x:AV}{b:Value}(a:aarr cx sym orc hp t x=some r)(c:∀q,q∈r.ob->q)(d:VR w (MM F hp ρ) hp ρ x b) :
  ∃v,(Instr.arrayAt t b).run cx.P w=.ok v w/\OpOK cx F hp ρ w r.up r.val v w:=by
 unfold aarr at a;cases a
end
section
variable {cx:Cx}{F:Nat->Prop}{hp:List (Nat×Blk)}{ρ:Nat->Value}{w:World}{re:Operand->Value}{ev:Operand->AV}{sym:Bool}{orc:List Orc}{r:R}
theorem Qa6 {P:Program}{s:Sem Value}{v:Value}{w w' : World}(h:s.run P w=.ok v w'):(do pure (Next.value (<-s)):Sem Next).run P w=.ok (.value v) w':=by simp only[Sem.run_bind,h,Result.andThen_ok,Sem.run_pure]
theorem Good.of {s:Sem Value}(h:∃v w',s.run cx.P w=.ok v w'/\OpOK cx F hp ρ w r.up r.val v w'):Good cx F hp ρ w r (do pure (.value (<-s))):=by obtain⟨v,w',a,b⟩:=h;exact⟨v,w',.inl (Qa6 a),b⟩
theorem Good.of1 {s:Sem Value}(h:∃v,s.run cx.P w=.ok v w/\OpOK cx F hp ρ w r.up r.val v w):Good cx F hp ρ w r (do pure (.value (<-s))):=by obtain⟨v,a,b⟩:=h;exact⟨v,w,.inl (Qa6 a),b⟩
theorem Good.val1 (h:HSim cx F hp ρ w){x:AV}{v:Value}{s:Sem Value}(a:val1 x orc=some r)(b:s.run cx.P w=.ok v w)(c:VR w (MM F hp ρ) hp ρ x v):Good cx F hp ρ w r (do pure (.value (<-s))):=by simp only[SX.val1,jIj] at a;subst a;exact Good.of1 ⟨v,b,OpOK.quiet h c⟩
theorem Good.pure1 (h:HSim cx F hp ρ w){x:AV}{v:Value}(a:SX.val1 x orc=some r)(b:VR w (MM F hp ρ) hp ρ x v):Good cx F hp ρ w r (pure (.value v)):=by simp only[SX.val1,jIj] at a;subst a;exact⟨v,w,.inl rfl,OpOK.quiet h b⟩
theorem yJ {n:Int}(h:Qg n):IntKind.i64.wrap n=n:=by rw[IntKind.wrap_i64];unfold Qg at h;omega
theorem Ef {P:Program}{w:World}{f:TypeId->Value->Value->Option Bool}{g:TypeId->Value->Value->Sem Bool}(e:∀t a b p,f t a b=some p->(g t a b).run P w=.ok p w)(xs ys:Array Value) :
  ∀(l:List Field) (b:Bool),Xv P f xs ys l=some b ->
   (forIn l (none,()) fun(fd:Field) (_:Option Bool×Unit)=>(if fd.name≠ "_" then do
     let a <-part fd.type xs fd.offset;let c <-part fd.type ys fd.offset;let r <-g fd.type a c;if(!r)=true then pure (ForInStep.done (some false,())) else pure (ForInStep.yield (none,()))
    else pure (ForInStep.yield (none,())):Sem (ForInStep (Option Bool×Unit)))).run P w=.ok (if b then(none,()) else(some false,())) w
 | [],b,h=>by simp only[Xv,jIj] at h;subst h;simp[Sem.run_pure]
 | fd::l,b,h=>by
  unfold Xv at h;rw[List.forIn_cons,Sem.run_bind];split at h
  ·rename_i i;have d : fd.name= "_":=by simpa using i
   simp only[d,ne_eq,not_true_eq_false,if_false,Sem.run_pure,Result.andThen_ok];exact Ef e xs ys l b h
  ·rename_i i;have d : fd.name≠ "_":=by simpa using i
   split at h;case h_2=>cases h
   rename_i a c j hc;split at h;case h_2=>cases h
   rename_i p q hp k;simp only[jIj] at h;subst h;rw[jTj d];simp only[Sem.run_bind,VP j w,VP hc w,e _ _ _ _ hp,Result.andThen_ok];cases p with
   | true =>
    simp only[Bool.not_true,Bool.false_eq_true,if_false,Sem.run_pure,Result.andThen_ok,Bool.true_and];exact Ef e xs ys l q k
   | false=>simp[Sem.run_pure,Result.andThen_ok]
theorem yi {P:Program}{w:World}{f:TypeId->Value->Value->Option Bool}{g:TypeId->Value->Value->Sem Bool}(d:∀t a b p,f t a b=some p->(g t a b).run P w=.ok p w)(xs ys:Array Value)(t:TypeId)(n:Nat) :
  ∀(l:List Nat) (b:Bool),wT P f xs ys t n l=some b ->
   (forIn l (none,()) fun(i:Nat) (_:Option Bool×Unit)=>(do
     let a <-part t xs (i*n);let c <-part t ys (i*n);let r <-g t a c;if(!r)=true then pure (ForInStep.done (some false,())) else pure (ForInStep.yield (none,())):Sem (ForInStep (Option Bool×Unit)))).run P w=.ok (if b then(none,()) else(some false,())) w
 | [],b,h=>by simp only[wT,jIj] at h;subst h;simp[Sem.run_pure]
 | i::l,b,h=>by
  unfold wT at h;rw[List.forIn_cons,Sem.run_bind];split at h;case h_2=>cases h
  rename_i a c e hc;split at h;case h_2=>cases h
  rename_i p q hp j;simp only[jIj] at h;subst h;simp only[Sem.run_bind,VP e w,VP hc w,d _ _ _ _ hp,Result.andThen_ok];cases p with
  | true =>
   simp only[Bool.not_true,Bool.false_eq_true,if_false,Sem.run_pure,Result.andThen_ok,Bool.true_and];exact yi d xs ys t n l q j
  | false=>simp[Sem.run_pure,Result.andThen_ok]
theorem yQ (w:World):∀(d D:Nat) (t:TypeId) (x y:Value) (b:Bool),d<=D->eqA cx.P d t x y=some b->(Op.equalIn D t x y).run cx.P w=.ok b w
 | 0,_,_,_,_,_,_,h=>by simp[eqA] at h
 | d+1,0,_,_,_,_,hd,_=>by omega
 | d+1,D+1,t,x,y,b,hd,h=>by
  unfold eqA at h;unfold Op.equalIn;split at h
  ·rename_i c;simp only[jIj] at h;subst h;simp only[Sem.run_bind,Qk c w,Result.andThen_ok,Sem.run_pure]
  ·rename_i c;split at h
   ·rename_i f;simp only[jIj] at h;subst h;simp only[Sem.run_bind,Qk c w,Result.andThen_ok,of_decide_eq_true f,if_true,Sem.run_pure]
   ·cases h
  ·rename_i c;simp only[jIj] at h;subst h;simp only[Sem.run_bind,Qk c w,Result.andThen_ok,Sem.run_pure]
  ·rename_i c;split at h
   ·rename_i f;simp only[jIj] at h;subst h;simp only[Sem.run_bind,Qk c w,Result.andThen_ok,of_decide_eq_true f,if_true,Sem.run_pure]
   ·cases h
  ·rename_i fields xs ys c;split at h
   ·cases h
   rename_i j;have:=Ef (g:=Op.equalIn D) (fun t a b p hp=>yQ w d D t a b p (by omega) hp) xs ys _ _ h;simp only[Sem.run_bind,Qk c w,run_program,Result.andThen_ok,j,Bool.false_eq_true,if_false];rw[<-Array.forIn_toList,this];cases b<;>simp[Result.andThen_ok,Sem.run_pure]
  ·rename_i len e xs ys c;split at h;case h_2=>cases h
   rename_i i hi;have k:cx.sz e=some i.size:=by unfold Cx.sz;rw[hi]
   have:=yi (g:=Op.equalIn D) (fun t a b p hp=>yQ w d D t a b p (by omega) hp) xs ys _ _ _ _ h;simp only[Sem.run_bind,Qk c w,run_sizeOf k w,Result.andThen_ok];rw[Std.Legacy.Range.forIn_eq_forIn_range'];simp only[Std.Legacy.Range.size,Nat.sub_zero,Nat.add_sub_cancel,Nat.div_one];rw[this];cases b<;>simp[Result.andThen_ok,Sem.run_pure]
  ·cases h
theorem yh {a:BinOp}{t:TypeId}{x y:Operand}{xs ys:Array Value}(h:cx.P.eqGuardType cx.P.depth t=false)(w:World):(eqGuard a t x y (.agg xs) (.agg ys)).run cx.P w=.ok () w:=by unfold eqGuard;split<;>simp[Sem.run_bind,run_program,Result.andThen_ok,h,Sem.run_pure]
theorem G3 (h:HSim cx F hp ρ w){c:BinOp}(g:c=.add\/c=.sub\/c=.mul\/c=.quo){t:TypeId}{x y:Operand}{k e : FloatKind}{a b:Nat}{q:D}{ob:List Prop}(f:QbN c k e a b=some (q,ob))(i:∀p,p∈ob->p) :
  ∃v,(do eqGuard c t x y (.float k a) (.float e b);binOp c t (.float k a) (.float e b):Sem Value).run cx.P w=.ok v w/\VR w (MM F hp ρ) hp ρ (.d q) v:=by
 unfold QbN at f;cases f
theorem Qek (h:HSim cx F hp ρ w){s t:TypeId}{a:Value}{q:D}{ob:List Prop}(b:QiD cx sym s t a=some (q,ob))(e:∀p,p∈ob->p) :
  ∃v,(convert s t a:Sem Value).run cx.P w=.ok v w/\VR w (MM F hp ρ) hp ρ (.d q) v:=by
 unfold QiD at b;split at b
 ·rename_i v c;simp only[jIj,jPj] at b;obtain⟨rfl,rfl⟩:=b;exact⟨v,VP c w,G7 _ _ _ _ _⟩
 ·cases b
theorem Qg0 {x:D}{b:UInt8}(h:Qe9 x=some b):∃n:Int,x=.v (.int .u8 n)/\b=UInt8.ofNat n.toNat:=by
 unfold Qe9 at h;split at h<;>try cases h
 split at h<;>try cases h
 split at h<;>try cases h
 exact⟨_,rfl,rfl⟩
theorem QbG:∀{a:jVj} {l:List UInt8},ku a=some l->∃ns:List Int,a=ns.map (fun n=>.v (.int .u8 n))/\l=ns.map fun n=>UInt8.ofNat n.toNat
 | [],l,h=>by cases h;exact⟨[],rfl,rfl⟩
 | x::a,l,h=>by
  unfold ku at h;split at h;case h_2=>cases h
  rename_i b bs d c;cases h;obtain⟨n,rfl,rfl⟩:=Qg0 d;obtain⟨ns,rfl,rfl⟩:=QbG c;exact⟨n::ns,rfl,rfl⟩
theorem uo:∀(ns:List Int) (s:jSj),ns.foldl (fun r n=>r.push (UInt8.ofNat n.toNat)) s=⟨s.data++(ns.map fun n=>UInt8.ofNat n.toNat).toArray⟩
 | [],s=>by simp
 | n::ns,s=>by rw[List.foldl_cons,uo ns];simp[ByteArray.push]
theorem ye {P:Program}{w:World}(f:Value->jSj->Sem (ForInStep jSj))(a:∀(n:Int) (r:jSj),(f (.int .u8 n) r).run P w=.ok (.yield (r.push (UInt8.ofNat n.toNat))) w) :
  ∀(l:List Int) (s:jSj),(forIn (l.map (Value.int .u8)) s f).run P w=.ok (l.foldl (fun r n=>r.push (UInt8.ofNat n.toNat)) s) w
 | [],s=>by simp[Sem.run_pure]
 | n::l,s=>by simp only[jCj,List.forIn_cons,Sem.run_bind,a,Result.andThen_ok,List.foldl_cons];exact ye f a l _
theorem Qgs {w:World}{s t e:TypeId}(f:cx.P.underlying s=some (.slice e))(g:cx.P.underlying t=some .string)(d:cx.P.underlying e=some (.int .u8)){xa:Option Addr}{xc:Nat}{ns:List Int}
  (h:(Builtin.firstCells 1 ns.length (.slice xa ns.length xc)).run cx.P w=.ok (ns.map (Value.int .u8)).toArray w) :
  (convert s t (.slice xa ns.length xc)).run cx.P w=.ok (.string ⟨(ns.map fun n=>UInt8.ofNat n.toNat).toArray⟩) w:=by
 have b:(convert s t (.slice xa ns.length xc)).run cx.P w=(Conv.bytesToString (.slice xa ns.length xc)).run cx.P w:=by simp[convert,Qk f,Qk g,Qk d]
 rw[b];cases xa with
 | none =>
  have:ns=[]:=by
   simp[Builtin.firstCells] at h;cases ns with
   | nil=>rfl
   | cons a l=>simp at h
  subst this;simp[Conv.bytesToString];rfl
 | some a =>
  have c:(loadCells a ns.length).run cx.P w=.ok (ns.map (Value.int .u8)).toArray w:=by simpa[Builtin.firstCells] using h
  unfold Conv.bytesToString;simp only[Sem.run_bind,c,Result.andThen_ok,List.forIn_toArray];rw[ye _ (by intro n r;simp[Sem.run_pure]),uo];simp[Sem.run_pure,ByteArray.empty,ByteArray.emptyWithCapacity];rfl
theorem QcL (h:HSim cx F hp ρ w){s t:TypeId}{x:AV}{v:Value}(a:QcM cx sym orc hp s t x=some r)(K:∀p,p∈r.ob->p)(L:VR w (MM F hp ρ) hp ρ x v) :
  Good cx F hp ρ w r (do pure (.value (<-convert s t v))):=by
 have g:∀{e:TypeId} {j:jVj} {o:List Nat} {l:List UInt8},cx.P.underlying s=some (.slice e)->cx.P.underlying t=some .string->cx.P.underlying e=some (.int .u8)->UL hp x=some (1,j,o)->ku j=some l ->
   (convert s t v).run cx.P w=.ok (.string (ByteArray.mk l.toArray)) w:=by
  intro e j o l m n c k G;obtain⟨ns,rfl,rfl⟩:=QbG G;obtain⟨xa,xc,z,rfl,u,f,N,J,q⟩:=Kh h k (.inl rfl) L;rw[jlj] at u f ⊢;refine Qgs m n c ?_;rw[f w rfl];congr 2
  apply List.ext_getElem?;intro i;by_cases hi:i<ns.length
  ·obtain⟨y,A,_,M⟩:=q i (.v (.int .u8 ns[i])) 0 (.v (.int .u8 ns[i])) (by simp[hi]) rfl;rw[Nat.mul_one,Nat.add_zero] at A;rw[A];cases M;simp[hi]
  ·rw[List.getElem?_eq_none (by omega),List.getElem?_eq_none (by simp;omega)]
 unfold QcM at a;split at a;case h_2=>cases a
 rename_i e j o m n k;split at a
 ·rename_i b o' c _;simp only[jIj] at a;subst a;have C:=K _ jMj;obtain⟨l,E,rfl⟩:=Option.map_eq_some_iff.1 C;exact Good.of1 ⟨_,g m n c k E,OpOK.quiet h (.d _ _ (.v _))⟩
 ·rename_i o' c _;split at a;case h_2=>cases a
  rename_i l H;simp only[jIj] at a;subst a;exact Good.of1 ⟨_,g m n c k H,OpOK.quiet h (.d _ _ (.v _))⟩
 ·cases a
theorem Qhg {M:Nat->Prop}{x:D}{y:Value}(h:DR w M x y):DR w M (wk1 x) y:=by
 cases h with
 | lst f sz es a cap blk off ys g d m n p q =>
  cases es with
  | nil=>exact .lst false 1 [] a cap blk off ys (fun h=>by cases h) d m (fun i e h=>by simp at h) (fun i e j c h=>by simp at h) (fun i e j c h=>by simp at h)
  | cons x l=>exact .lst false sz (x::l) a cap blk off ys (fun h=>by cases h) d m n p q
 | v=>exact .v _
 | agg cs ys hl h=>exact .agg cs ys hl h
 | tup cs ys hl h=>exact .tup cs ys hl h
 | fn f a b xs ys hl hm h k=>exact .fn f a b xs ys hl hm h k
 | ref x off blk o ys hm hb hw h=>exact .ref x off blk o ys hm hb hw h
 | nan k b h=>exact .nan k b h
 | mp es vs r es' c g d hw hl hv hk h=>exact .mp es vs r es' c g d hw hl hv hk h
theorem QaW (e:D):(wk1 e).cells=e.cells\/(e.cells=[e]/\(wk1 e).cells=[wk1 e]):=by
 cases e with
 | lst f s l =>
  cases l with
  | nil=>exact .inr ⟨by simp[D.cells],by simp[wk1,D.cells]⟩
  | cons x l=>exact .inr ⟨by simp[D.cells],by simp[wk1,D.cells]⟩
 | _=>exact .inl rfl
theorem QjO {M:Nat->Prop}{f:Bool}{sz:Nat}{es:jVj}{y:Value}(h:DR w M (.lst f sz es) y):DR w M (.lst f sz (es.map wk1)) y:=by
 cases h with
 | lst _ _ _ a cap blk off ys s t u p v x =>
  have l:∀(i:Nat) (e:D) (j:Nat) (c:D),(es.map wk1)[i]?=some e->e.cells[j]?=some c->∃(b k : D),es[i]?=some b/\b.cells[j]?=some k/\∀y,DR w M k y->DR w M c y:=by
   intro i e j c hi d;rw[List.getElem?_map] at hi;obtain⟨b,g,rfl⟩:=Option.map_eq_some_iff.1 hi;obtain q|⟨n,o⟩:=QaW b
   ·rw[q] at d;exact⟨b,c,g,d,fun y h=>h⟩
   ·rw[o] at d;cases j with
    | zero =>
     simp only[jzj,jIj] at d;subst d;exact⟨b,b,g,by rw[n];rfl,fun y h=>Qhg h⟩
    | succ j=>simp at d
  have r:=DR.lst (w:=w) (M:=M) f sz (es.map wk1) a cap blk off ys (fun h=>by rw[jlj];exact s h) (by rw[jlj];exact t) (fun h=>u fun e=>h (by rw[e];rfl))
   (fun i e hi=>by
    rw[List.getElem?_map] at hi;obtain⟨b,g,rfl⟩:=Option.map_eq_some_iff.1 hi;obtain q|⟨n,o⟩:=QaW b
    ·rw[q];exact p i b g
    ·have:=p i b g;rw[n] at this;rw[o];exact this)
   (fun i e j c hi d=>by obtain⟨b,k,g,m,_⟩:=l i e j c hi d;exact v i b j k g m)
   (fun i e j c hi d=>by obtain⟨b,k,g,m,z⟩:=l i e j c hi d;exact z _ (x i b j k g m))
  rwa [jlj] at r
theorem QjP {M:Nat->Prop}{x:AV}{y:Value}(h:VR w M hp ρ x y):VR w M hp ρ (wkA x) y:=by
 unfold wkA;split
 ·cases h with
  | d _ _ h =>
   split
   ·cases h with
    | agg cs ys e h =>
     refine .d _ _ (.agg _ ys (by simpa using e) fun i c v hc f=>?_);rw[List.getElem?_map] at hc;obtain⟨a,b,rfl⟩:=Option.map_eq_some_iff.1 hc;exact Qhg (h i a v b f)
   ·exact .d _ _ h
 ·exact h
theorem Qfl (h:HSim cx F hp ρ w){k:BinOp}{t:TypeId}{x y:Operand}{a b:Value}{q:D}{ob:List Prop}(c:abin cx sym k t x y a b=some (q,ob))(e:∀p,p∈ob->p) :
  ∃v,(do eqGuard k t x y a b;binOp k t a b:Sem Value).run cx.P w=.ok v w/\VR w (MM F hp ρ) hp ρ (.d q) v:=by
 unfold abin at c;split at c
 ·simp only[jIj,jPj] at c;obtain⟨rfl,rfl⟩:=c;refine⟨_,?_,.d _ _ (.v _)⟩;have:=yJ (e _ jMj);simp[eqGuard,binOp,Op.intArith,this]
 ·simp only[jIj,jPj] at c;obtain⟨rfl,rfl⟩:=c;refine⟨_,?_,.d _ _ (.v _)⟩;have:=yJ (e _ jMj);simp[eqGuard,binOp,Op.intArith,this]
 ·simp only[jIj,jPj] at c;obtain⟨rfl,rfl⟩:=c;refine⟨_,?_,.d _ _ (.v _)⟩;have:=yJ (e _ jMj);simp[eqGuard,binOp,Op.intArith,this]
 ·simp only[jIj,jPj] at c;obtain⟨rfl,rfl⟩:=c;refine⟨_,?_,.d _ _ (.v _)⟩;have f:=e _ jMj;have g:=yJ (e _ (jmj _ jMj));simp[eqGuard,binOp,Op.intDiv,f,g]
 ·simp only[jIj,jPj] at c;obtain⟨rfl,rfl⟩:=c;refine⟨_,?_,.d _ _ (.v _)⟩;have f:=e _ jMj;simp[eqGuard,binOp,Op.intDiv,f]
 ·exact G3 h (Or.inl rfl) c e
 ·exact G3 h (Or.inr (Or.inl rfl)) c e
 ·exact G3 h (Or.inr (Or.inr (Or.inl rfl))) c e
 ·exact G3 h (Or.inr (Or.inr (Or.inr rfl))) c e
 ·rename_i a b;simp only[jIj,jPj] at c;obtain⟨rfl,rfl⟩:=c;refine⟨_,?_,.d _ _ (.v _)⟩;have f:a.size+b.size<=9223372036854775807:=e _ jMj;have g:¬(((a.size+b.size:Nat):Int)>IntKind.i64.max):=by
   have:IntKind.i64.max=9223372036854775807:=by decide
   rw[this];omega
  simp only[eqGuard,binOp,Op.stringOp,Sem.run_bind,Result.andThen_ok,g,if_false];rfl
 ·split at c;case h_2=>cases c
  rename_i b j i;simp only[jIj,jPj] at c;obtain⟨rfl,rfl⟩:=c;refine⟨.bool b,?_,.d _ _ (.v _)⟩;have f:=yQ w 12 Op.maxDepth _ _ _ _ (by decide) i;simp only[Sem.run_bind,yh j w,Result.andThen_ok,binOp,Op.equal,f,Sem.run_pure]
 ·split at c;case h_2=>cases c
  rename_i b j i;simp only[jIj,jPj] at c;obtain⟨rfl,rfl⟩:=c;refine⟨.bool !b,?_,.d _ _ (.v _)⟩;have f:=yQ w 12 Op.maxDepth _ _ _ _ (by decide) i;simp only[Sem.run_bind,yh j w,Result.andThen_ok,binOp,Op.equal,f,Sem.run_pure]
 ·split at c
  ·rename_i v l;simp only[jIj,jPj] at c;obtain⟨rfl,rfl⟩:=c;exact⟨v,VP l w,G7 _ _ _ _ _⟩
  ·cases c
theorem yN (h:HSim cx F hp ρ w){s:Sem Value}(a:(match Zu cx.P s with|some x=>SX.val1 (.d (ofV x)) orc|none=>none)=some r):Good cx F hp ρ w r (do pure (.value (<-s))):=by
 split at a
 ·rename_i x b;exact Good.val1 h a (VP b w) (G7 _ _ _ _ _)
 ·cases a
theorem GT (hev:∀x,VR w (MM F hp ρ) hp ρ (ev x) (re x))(l:List Operand) :
  (l.map ev).length=(l.map re).length/\∀(i:Nat) (c:AV) (y:Value),(l.map ev)[i]?=some c->(l.map re)[i]?=some y->VR w (MM F hp ρ) hp ρ c y:=by
 refine⟨by simp,fun i c y hc a=>?_⟩;simp only[List.getElem?_map] at hc a;cases hx:l[i]? with
 | none=>rw[hx] at hc;cases hc
 | some x =>
  rw[hx] at hc a;simp only[Option.map_some,jIj] at hc a;subst hc;subst a;exact hev x
theorem Er:∀(l:List AV) (ys vs:List Value),allV l=some vs->l.length=ys.length->(∀(i:Nat) (c:AV) (y:Value),l[i]?=some c->ys[i]?=some y->VR w (MM F hp ρ) hp ρ c y)->ys=vs
 | [],ys,vs,h,hl,_=>by simp only[allV,jIj] at h;subst h;cases ys<;>simp_all
 | x::l,ys,vs,h,hl,hh=>by
  simp only[allV] at h;split at h<;>simp only[jIj,reduceCtorEq] at h;rename_i v a b d;subst h;cases ys with
  | nil=>simp at hl
  | cons y ys =>
   rw[JZ b (hh 0 x y rfl rfl),Er l ys a d (by simpa using hl) (fun i c z hc e=>hh (i+1) c z (by simpa using hc) (by simpa using e))]
theorem wV (h:HSim cx F hp ρ w){x:AV}{v:Value}{es:jVj}(e:Ka hp x=some es)(j:VR w (MM F hp ρ) hp ρ x v):∃a c,v=.slice a es.length c:=by
 unfold Ka at e;split at e
 ·simp only[jIj] at e;subst e;cases j with
  | d _ _ j=>cases j;exact⟨_,_,rfl⟩
 ·rename_i b ver;cases j with
  | own _ _ k _ f o i g =>
  rw[f] at e;cases k with
  | box _=>simp at e
  | loop _ _ _ _ _ _=>simp at e
  | mp _=>simp at e
  | it _ _=>simp at e
  | fbox _=>simp at e
  | left _=>simp at e
  | dead=>simp at e
  | row ver' sz es' =>
   simp only at e;split at e<;>simp only[jIj,reduceCtorEq] at e;rename_i hc;have:=Z1 hc;subst this;subst e;obtain⟨p,_,l⟩|⟨_,_,_,_,l,_⟩:=h.blk b _ f
   ·rw[g rfl,l,p];exact⟨_,_,rfl⟩
   ·rw[g rfl,l];exact⟨_,_,rfl⟩
  | frozen ver' sz es' =>
   simp only at e;split at e<;>simp only[jIj,reduceCtorEq] at e;rename_i hc;have:=Z1 hc;subst this;subst e;rw[g rfl];have:=h.blk b _ f;simp only[BlkR] at this;generalize ρ b=bv at this ⊢;cases this;exact⟨_,_,rfl⟩
  | virt ver' sz es' =>
   simp only at e;split at e<;>simp only[jIj,reduceCtorEq] at e;rename_i hc;have:=Z1 hc;subst this;subst e;rw[g rfl];have:=h.blk b _ f;simp only[BlkR] at this;generalize ρ b=bv at this ⊢;cases this;exact⟨_,_,rfl⟩
 ·rename_i b ver sz lo n;split at e<;>simp only[jIj,reduceCtorEq] at e;rename_i hc;subst e;cases j with
  | sub _ _ _ _ _ k _ f o i g =>
   unfold El at hc;rw[f] at hc;obtain⟨q,m,_,rfl⟩:=g (jqj hc);exact⟨some ⟨q,lo*sz,none⟩,m,by rw[List.length_replicate]⟩
 ·cases e
theorem Qkh {M:Nat->Prop}{x:AV}{v:Value}(h:VR w M hp ρ x v):VR w M hp ρ (emp x) v:=by
 unfold emp;split
 ·rename_i a c;rw[wu h];exact .d _ _ (.lst false 0 [] a c 0 0 (fun _=>undef) (fun h=>by cases h) (Nat.zero_le _) (fun h=>absurd rfl h) (fun i e h=>by simp at h) (fun i e j c h=>by simp at h) (fun i e j c h=>by simp at h))
 ·exact h
theorem Qty {M:Nat->Prop}{x:AV}{v:Value}(h:VR w M hp ρ x v):VR w M hp ρ (nls x) v:=by
 unfold nls;split
 ·rw[wu h];exact .d _ _ (.lst true 0 [] none 0 0 0 (fun _=>undef) (fun _=>rfl) (Nat.zero_le _) (fun h=>absurd rfl h) (fun i e h=>by simp at h) (fun i e j c h=>by simp at h) (fun i e j c h=>by simp at h))
 ·exact h
theorem Qau (h:HSim cx F hp ρ w)(hev:∀x,VR w (MM F hp ρ) hp ρ (ev x) (re x)){name:Nat}{b:Builtin}{ats:Array TypeId}{ty:TypeId}{f:Array Operand}{consts:Array Bool}
  (g:XI cx sym orc hp name b ats ty (f.toList.map ev)=some r) (G:∀q,q∈r.ob->q):Good cx F hp ρ w r (builtin b ats ty consts (f.map re)):=by
 obtain⟨u,m⟩:=GT hev f.toList;have i:(f.map re).toList=f.toList.map re:=by simp
 unfold XI at g;split at g
 ·split at g;case h_2=>cases g
  rename_i t P k s x j y;rw[y] at u m;have l:∃A o,f.toList.map re=[A,o]:=by
   match hm:f.toList.map re,u with
   | [a,b],_=>exact⟨a,b,rfl⟩
  obtain⟨A,o,l⟩:=l;rw[l] at m;have p:f.map re=#[A,o]:=by rw[<-Array.toArray_toList (xs:=f.map re),i,l]
  have n:ats=(t::P::k).toArray:=by rw[<-j]
  rw[p,n];split at g
  ·rename_i E;split at g
   ·exact Good.of (Qfh h E g G (m 0 _ _ rfl rfl) (m 1 _ _ rfl rfl))
   ·exact Good.of (QaU h E g G (Qty (m 0 _ _ rfl rfl)) (Qkh (m 1 _ _ rfl rfl)))
  ·exact Good.of (QeS h g G (m 0 _ _ rfl rfl) (m 1 _ _ rfl rfl))
 ·split at g;case h_2=>cases g
  rename_i t k d s j y;rw[y] at u m;have l:∃A o,f.toList.map re=[A,o]:=by
   match hm:f.toList.map re,u with
   | [a,b],_=>exact⟨a,b,rfl⟩
  obtain⟨A,o,l⟩:=l;rw[l] at m;have p:f.map re=#[A,o]:=by rw[<-Array.toArray_toList (xs:=f.map re),i,l]
  have n:ats=(t::k).toArray:=by rw[<-j]
  rw[p,n];exact Good.of (Qe7 h g (m 0 _ _ rfl rfl) (m 1 _ _ rfl rfl))
 ·split at g;case h_2=>cases g
  rename_i x y;rw[y] at u m;have l:∃o,f.toList.map re=[o]:=by
   match hm:f.toList.map re,u with
   | [a],_=>exact⟨a,rfl⟩
  obtain⟨o,l⟩:=l;rw[l] at m;have p:f.map re=#[o]:=by rw[<-Array.toArray_toList (xs:=f.map re),i,l]
  rw[p];have C:=m 0 _ _ rfl rfl;split at g
  ·rename_i es J;split at g;case h_2=>cases g
   rename_i t k j;split at g;case h_2=>cases g
   rename_i e K;have n:ats=(t::k).toArray:=by rw[<-j]
   obtain⟨a,c,rfl⟩:=wV h J C;refine Good.val1 h g (v:=.int .i64 es.length) ?_ (.d _ _ (.v _));have H:=Qk K w;rw[n];simp[Builtin.len_,H,goInt]
  ·split at g;case h_2=>cases g
   rename_i v O;rw[JZ O C];exact yN h g
 ·split at g;case h_2=>cases g
  rename_i vs z;have:=Er _ _ vs z u m;have p:f.map re=vs.toArray:=by rw[<-Array.toArray_toList (xs:=f.map re),i,this]
  rw[p];exact yN h g
 ·split at g;case h_2=>cases g
  rename_i vs z;have:=Er _ _ vs z u m;have p:f.map re=vs.toArray:=by rw[<-Array.toArray_toList (xs:=f.map re),i,this]
  rw[p];exact yN h g
 ·split at g;case h_2=>cases g
  rename_i fz es t k y j;split at g;case h_2=>cases g
  rename_i e K;rw[y] at u m;have l:∃o,f.toList.map re=[o]:=by
   match hm:f.toList.map re,u with
   | [a],_=>exact⟨a,rfl⟩
  obtain⟨o,l⟩:=l;rw[l] at m;have p:f.map re=#[o]:=by rw[<-Array.toArray_toList (xs:=f.map re),i,l]
  rw[p];have C:=m 0 _ _ rfl rfl;have n:ats=(t::k).toArray:=by rw[<-j]
  rw[n];cases C with
  | d _ _ C =>
   cases C with
   | lst _ _ _ a cap blk off ys M hc Q N S L =>
    refine Good.val1 h g (v:=.int .i64 es.length) ?_ (.d _ _ (.v _));have H:=Qk K w;simp[Builtin.cap_,H,goInt,M rfl]
 ·split at g;case h_2=>cases g
  rename_i x t k y j;rw[y] at u m;have l:∃o,f.toList.map re=[o]:=by
   match hm:f.toList.map re,u with
   | [a],_=>exact⟨a,rfl⟩
  obtain⟨o,l⟩:=l;rw[l] at m;have p:f.map re=#[o]:=by rw[<-Array.toArray_toList (xs:=f.map re),i,l]
  have n:ats=(t::k).toArray:=by rw[<-j]
  rw[p,n];exact Good.of (Qeb h g G (m 0 _ _ rfl rfl))
 ·cases g
theorem Qio {cx:Cx}(w:World)(d:Nat)(t e:TypeId)(a:Addr)(l c:Nat)(h:cx.P.underlying t=some (.slice e)):(Op.equalIn (d+1) t (.slice (some a) l c) (.slice none 0 0)).run cx.P w=.ok false w:=by simp[Op.equalIn,Sem.run_bind,Qk h w,Result.andThen_ok,Sem.run_pure]
theorem Qbx {cx:Cx}(w:World)(t e:TypeId)(a:Addr)(l c:Nat)(h:cx.P.underlying t=some (.slice e)):(Op.equal t (.slice (some a) l c) (.slice none 0 0)).run cx.P w=.ok false w:=Qio w 9999 t e a l c h
theorem QgU {cx:Cx}(w:World)(d:Nat)(t e:TypeId)(h:cx.P.underlying t=some (.slice e)):(Op.equalIn (d+1) t (.slice none 0 0) (.slice none 0 0)).run cx.P w=.ok true w:=by simp[Op.equalIn,Sem.run_bind,Qk h w,Result.andThen_ok,Sem.run_pure]
theorem QeX {cx:Cx}(w:World)(t e:TypeId)(h:cx.P.underlying t=some (.slice e)):(Op.equal t (.slice none 0 0) (.slice none 0 0)).run cx.P w=.ok true w:=QgU w 9999 t e h
theorem QiQ (w:World)(M:Nat->Prop)(hp:List (Nat×Blk))(ρ:Nat->Value):∀z:Value,VR w M hp ρ (rawA z) z:=by
 intro z;cases z with
 | agg cs =>
  show VR w M hp ρ (.agg (cs.toList.map fun c=>.d (.v c))) (.agg cs);have:=VR.agg (w:=w) (M:=M) (hp:=hp) (ρ:=ρ) (cs.toList.map fun c=>.d (.v c)) cs.toList (by simp) fun i c y hc a=>by rw[List.getElem?_map,a] at hc;cases hc;exact .d _ _ (.v _)
  simpa using this
 | _=>exact .d _ _ (.v _)
theorem Qcc {M:Nat->Prop}(b:∀v,re (.const v)=v){m:BinOp}{t:TypeId}{x:AV}{E y:Operand}{v:Value}{q:D}{ob:List Prop}(e:E5 cx m t x y=some (q,ob))(o:∀p,p∈ob->p)(h:VR w M hp ρ x v) :
  ∃u,(do eqGuard m t E y v (re y);binOp m t v (re y):Sem Value).run cx.P w=.ok u w/\VR w (MM F hp ρ) hp ρ (.d q) u:=by
 unfold E5 at e;have j:∀(f:TypeId) (full:Bool) (sz:Nat) (es:List SX.D),cx.P.underlying t=some (.slice f)->x=.d (.lst full sz es)->es≠[]->∃a n c,v=.slice (some a) n c:=by
  intro f full sz es _ l k;subst l;cases h with
  | d _ _ h =>
   cases h with
   | lst _ _ _ a cap blk off ys G hc z C H A =>
    obtain⟨s,_⟩:=z k;subst s;exact⟨_,_,_,rfl⟩
 split at e
 ·rename_i g;simp only[jIj,jPj] at e;obtain⟨rfl,rfl⟩:=e;obtain⟨a,n,c,rfl⟩:=j _ _ _ _ g rfl (o _ jMj);rw[b];refine⟨.bool false,?_,.d _ _ (.v _)⟩;have i:=Qbx w t _ a n c g;simp[eqGuard,binOp,i]
 ·rename_i g;simp only[jIj,jPj] at e;obtain⟨rfl,rfl⟩:=e;obtain⟨a,n,c,rfl⟩:=j _ _ _ _ g rfl (o _ jMj);rw[b];refine⟨.bool true,?_,.d _ _ (.v _)⟩;have i:=Qbx w t _ a n c g;simp[eqGuard,binOp,i]
 ·rename_i g;simp only[jIj,jPj] at e;obtain⟨rfl,rfl⟩:=e;cases h with
  | d _ _ h =>
   cases h;rw[b];refine⟨.bool true,?_,.d _ _ (.v _)⟩;have i:=QeX w t _ g;simp[eqGuard,binOp,i]
 ·cases e
theorem Qin {cx:Cx}(w:World)(d:Nat)(t e:TypeId)(a:Addr)(h:cx.P.underlying t=some (.pointer e)):(Op.equalIn (d+1) t (.pointer (some a)) (.pointer none)).run cx.P w=.ok false w:=by simp[Op.equalIn,Sem.run_bind,Qk h w,Result.andThen_ok,Sem.run_pure]
theorem Qbw {cx:Cx}(w:World)(t e:TypeId)(a:Addr)(h:cx.P.underlying t=some (.pointer e)):(Op.equal t (.pointer (some a)) (.pointer none)).run cx.P w=.ok false w:=Qin w 9999 t e a h
theorem uI {M:Nat->Prop}{x:AV}{v:Value}(h:jR hp x=true)(c:VR w M hp ρ x v):∃a,v=.pointer (some a):=by
 cases x with
 | ptr b ver sz i off =>
  cases c with
  | ptr _ _ _ _ _ k _ d l j e =>
   simp only[jR,d] at h;obtain⟨r,_,f⟩:=e (jqj h).symm;exact⟨_,f⟩
 | dptr y o =>
  cases c with
  | dptr _ _ blk o' g=>exact⟨_,rfl⟩
 | _=>cases h
theorem QaH {M:Nat->Prop}(b:∀v,re (.const v)=v){h:BinOp}{t:TypeId}{x:AV}{j y:Operand}{v:Value}{q:D}{ob:List Prop}(e:Uh hp cx h t x y=some (q,ob))(i:VR w M hp ρ x v) :
  ∃u,(do eqGuard h t j y v (re y);binOp h t v (re y):Sem Value).run cx.P w=.ok u w/\VR w (MM F hp ρ) hp ρ (.d q) u:=by
 unfold Uh at e;split at e
 ·rename_i g c;simp only[jIj,jPj] at e;obtain⟨rfl,rfl⟩:=e;obtain⟨a,rfl⟩:=uI c i;rw[b];refine⟨.bool false,?_,.d _ _ (.v _)⟩;have f:=Qbw w t _ a g;simp[eqGuard,binOp,f]
 ·rename_i g c;simp only[jIj,jPj] at e;obtain⟨rfl,rfl⟩:=e;obtain⟨a,rfl⟩:=uI c i;rw[b];refine⟨.bool true,?_,.d _ _ (.v _)⟩;have f:=Qbw w t _ a g;simp[eqGuard,binOp,f]
 ·cases e
theorem QgR {k:Blk}{x:SX.D}(h:Qim k=some x):k=.fbox x:=by cases k<;>first|(cases h;rfl)|cases h
theorem Qgi (h:HSim cx F hp ρ w){x:AV}{y:Value}(a:VR w (MM F hp ρ) hp ρ x y):VR w (MM F hp ρ) hp ρ (unf hp x) y:=by
 cases x with
 | ptr b ver sz i off =>
  show VR w (MM F hp ρ) hp ρ (unfP hp b ver sz i off) y;unfold unfP;cases hl:zA hp b with
  | none=>exact a
  | some x =>
   unfold zA at hl;cases hb:look hp b with
   | none=>rw[hb] at hl;cases hl
   | some k =>
    rw[hb] at hl;have l:=QgR hl;subst l;simp only;cases hc:Nat.beq ver 0&&Nat.beq i 0 with
    | false=>exact a
    | true =>
     simp only[jAj] at hc;have f:=Z1 hc.1;have g:=Z1 hc.2;subst f;subst g;cases a with
     | ptr _ _ _ _ _ q _ c _ _ j =>
      rw[hb] at c;cases c;obtain⟨r,e,m⟩:=j rfl;obtain⟨p,n,o⟩:=h.blk b _ hb;rw[n] at e;have:p=r:=by simpa[QX] using e
      subst this;rw[m,Nat.zero_mul];exact .dptr x off _ 0 o
 | d _=>exact a
 | agg _=>exact a
 | tup _=>exact a
 | dptr _ _=>exact a
 | own _ _=>exact a
 | sub _ _ _ _ _=>exact a
 | fn _ _ _=>exact a
 | junk=>exact a
theorem Qce (h:HSim cx F hp ρ w){a:BinOp}{t:TypeId}{c d:Operand}{x y:AV}{u v:Value}(b:QeH a x y orc=some r)(e:∀p,p∈r.ob->p)(f:VR w (MM F hp ρ) hp ρ x u)(g:VR w (MM F hp ρ) hp ρ y v) :
  Good cx F hp ρ w r (do pure (.value (<-(do eqGuard a t c d u v;binOp a t u v:Sem Value)))):=by
 unfold QeH at b;cases b
theorem QdD (h:HSim cx F hp ρ w){a:BinOp}{t:TypeId}{c d:Operand}{x y:AV}{u v:Value}(b:QfJ a x y orc=some r)(e:VR w (MM F hp ρ) hp ρ x u)(f:VR w (MM F hp ρ) hp ρ y v) :
  Good cx F hp ρ w r (do pure (.value (<-(do eqGuard a t c d u v;binOp a t u v:Sem Value)))):=by
 unfold QfJ at b;cases b
theorem QaI (h:HSim cx F hp ρ w){s t:TypeId}{x:AV}{v:Value}(a:QrG cx s t x orc=some r)(b:∀p,p∈r.ob->p)(c:VR w (MM F hp ρ) hp ρ x v) :
  Good cx F hp ρ w r (do pure (.value (<-convert s t v))):=by
 unfold QrG at a;cases a
theorem QdC (h:HSim cx F hp ρ w){s t:TypeId}{x:AV}{v:Value}(a:QfI cx s t x orc=some r)(b:VR w (MM F hp ρ) hp ρ x v) :
  Good cx F hp ρ w r (do pure (.value (<-convert s t v))):=by
 unfold QfI at a;cases a
theorem QbK (h:HSim cx F hp ρ w)(Y:∀v,re (.const v)=v)(hev:∀x,VR w (MM F hp ρ) hp ρ (ev x) (re x)){name:Nat}{o:Oper}(j:aop cx sym orc hp name ev o=some r)(A:∀q,q∈r.ob->q) :
  Good cx F hp ρ w r (execOp re o):=by
 cases hop:o.op with
 | move x=>simp only[aop,hop] at j;simp only[execOp,hop];exact Good.pure1 h j (hev x)
 | assign x=>simp only[aop,hop] at j;simp only[execOp,hop];exact Good.pure1 h j (hev x)
 | pick c a b =>
  simp only[aop,hop] at j;simp only[execOp,hop];have hc:=hev c;split at j
  ·rename_i e;rw[e] at hc;rw[wu hc];exact Good.pure1 (v:=re a) h j (hev a)
  ·rename_i e;rw[e] at hc;rw[wu hc];exact Good.pure1 (v:=re b) h j (hev b)
  ·cases j
 | alloc E =>
  simp only[aop,hop] at j;simp only[execOp,hop];split at j
  ·split at j;case h_2=>cases j
   rename_i z P L;split at j;case h_2=>cases j
   rename_i cs Q;simp only[jIj] at j;subst j;refine Good.of ⟨_,_,?_,Jx h L Q (QiQ _ _ _ _ z) E⟩;have K:=Y2 P w;simp[Instr.alloc,K,newVar,newRow]
  split at j;case h_2=>cases j
  rename_i z P L;split at j;case h_2=>cases j
  rename_i cs Q;simp only[jIj] at j;subst j;refine Good.of ⟨_,_,?_,Jx h L Q (G7 _ _ _ _ z) E⟩;have K:=Y2 P w;simp[Instr.alloc,K,newVar,newRow]
 | box E x =>
  simp only[aop,hop] at j;simp only[execOp,hop];split at j;case h_2=>cases j
  rename_i cs Q L;simp only[jIj] at j;subst j;exact Good.of ⟨_,_,rfl,Jx h L Q (hev x) E⟩
 | build t parts =>
  simp only[aop,hop] at j;simp only[execOp,hop];split at j;case h_2=>cases j
  rename_i y J;obtain⟨v,G,H⟩:=Qee hev J;split at j
  ·exact Good.val1 h j G (QjP H)
  ·exact Good.val1 h j G H
 | buildSlice t len parts =>
  simp only[aop,hop] at j;simp only[execOp,hop];split at j
  ·exact Good.of (Qb3 h hev j)
  split at j
  ·rename_i b4;exact Good.of (Qb5 h hev b4 j)
  split at j;case h_2=>cases j
  rename_i E hu;split at j;case h_2=>cases j
  rename_i s z hs P;split at j;case h_2=>cases j
  rename_i es fs O;split at j;case h_2=>cases j
  rename_i hc;simp only[jAj] at hc;split at j
  ·simp only[jIj] at j;subst j;obtain⟨v,w',k1,ρ',k2,k3,k4⟩:=XE h hev hu hs P O (Nat.le_of_ble_eq_true hc.1) (Z1 hc.2);cases k4 with
   | d _ _ k4=>exact Good.of ⟨v,w',k1,ρ',k2,k3,.d _ _ (QjO k4)⟩
  ·simp only[jIj] at j;subst j;exact Good.of (XE h hev hu hs P O (Nat.le_of_ble_eq_true hc.1) (Z1 hc.2))
 | load t a =>
  simp only[aop,hop] at j;simp only[execOp,hop];have U:=Qgi h (hev a);split at j
  ·rename_i s g b ver sz i off hs N e;rw[e] at U;split at j;case h_2=>cases j
   rename_i x ob o' a8;split at j;case h_2=>cases j
   rename_i y J;simp only[jIj] at j;subst j;obtain⟨v,G,H⟩:=uA h U hs N a8 A J;exact Good.of1 ⟨v,G,OpOK.quiet h H⟩
  ·rename_i s g x off hs N e;rw[e] at U;split at j;case h_2=>cases j
   rename_i y J;obtain⟨v,G,H⟩:=Qd4 (hp:=hp) U hs N J;exact Good.val1 h j G H
  ·cases j
 | store t a x =>
  simp only[aop,hop] at j;simp only[execOp,hop];obtain⟨w',K,X⟩:=Qc2 h (hev a) (hev x) j A;exact⟨undef,w',.inr ⟨by simp only[Sem.run_bind,K,Result.andThen_ok,Sem.run_pure],rfl⟩,X⟩
 | nilCheck x =>
  simp only[aop,hop] at j;simp only[execOp,hop];have p:=hev x;split at j
  ·rename_i b v s i f e;rw[e] at p;split at j;case h_2=>cases j
   rename_i a0;generalize re x=xv at p ⊢;cases p with
   | ptr _ _ _ _ _ kk _ W hv Z S =>
    obtain⟨r0,a6,rfl⟩:=S (GW a0 W);exact Good.pure1 (orc:=orc) (v:=.pointer (some ⟨r0,i*s+f,none⟩)) h j (.ptr b v s i f kk _ W hv Z fun _=>⟨r0,a6,rfl⟩)
  ·rename_i y f e;rw[e] at p;generalize re x=xv at p ⊢;cases p with
   | dptr _ _ blk o hd=>exact Good.pure1 (orc:=orc) h j (.dptr y f blk o hd)
  ·rename_i g a b e;rw[e] at p;generalize re x=xv at p ⊢;cases p with
   | fn _ _ _ xs ys O hm S hk=>exact Good.pure1 (orc:=orc) h j (.fn _ a b xs ys O hm S hk)
  ·rename_i g a b e;rw[e] at p;generalize re x=xv at p ⊢;cases p with
   | d _ _ p =>
    cases p with
    | fn _ _ _ xs ys O hm S hk=>exact Good.pure1 (orc:=orc) h j (.d _ _ (.fn _ a b xs ys O hm S hk))
  ·cases j
 | binOp op t x y yt =>
  simp only[aop,hop] at j;simp only[execOp,hop];split at j
  ·exact Qce h j A (hev x) (hev y)
  split at j
  ·rename_i q u;simp only[jIj] at j;subst j;exact QdD h u (hev x) (hev y)
  split at j;case h_2 =>
   split at j
   ·rename_i q ob u;simp only[jIj] at j;subst j;obtain⟨v,G,H⟩:=QaH Y u (hev x);exact Good.of1 ⟨v,G,OpOK.quiet h H⟩
   split at j;case h_2=>cases j
   rename_i q ob u;simp only[jIj] at j;subst j;obtain⟨v,G,H⟩:=Qcc Y u A (hev x);exact Good.of1 ⟨v,G,OpOK.quiet h H⟩
  rename_i a b U W;split at j;case h_2=>cases j
  rename_i q ob u;simp only[jIj] at j;subst j;rw[JZ U (hev x),JZ W (hev y)];obtain⟨v,G,H⟩:=Qfl h u A;exact Good.of1 ⟨v,G,OpOK.quiet h H⟩
 | unOp op t x =>
  simp only[aop,hop] at j;simp only[execOp,hop];split at j;case h_2=>cases j
  rename_i a U;rw[JZ U (hev x)];exact yN h j
 | convert s t x =>
  simp only[aop,hop] at j;simp only[execOp,hop];split at j
  ·exact QaI h j A (hev x)
  split at j
  ·rename_i q u;simp only[jIj] at j;subst j;exact QdC h u (hev x)
  split at j;case h_2=>exact QcL h j A (hev x)
  rename_i a U;split at j;case h_2=>cases j
  rename_i q ob u;simp only[jIj] at j;subst j;rw[JZ U (hev x)];obtain⟨v,G,H⟩:=Qek h u A;exact Good.of1 ⟨v,G,OpOK.quiet h H⟩
 | makeFunc f first cap =>
  simp only[aop,hop] at j;simp only[execOp,hop];obtain⟨a1,a2⟩:=GT hev first.toList;obtain⟨b1,b2⟩:=GT hev cap.toList;refine Good.val1 h j (v:=.func f (first.map re) (cap.map re)) rfl (Ug ?_);have:=VR.fn (w:=w) (M:=MM F hp ρ) (hp:=hp) (ρ:=ρ) f _ _ _ _ a1 b1 a2 b2;have e1:(first.toList.map re).toArray=first.map re:=by rw[<-Array.toList_map]
  have e2:(cap.toList.map re).toArray=cap.map re:=by rw[<-Array.toList_map]
  rw[e1,e2] at this;exact this
 | makeSlice t l c =>
  simp only[aop,hop] at j;simp only[execOp,hop];cases h9:QsN orc with
  | some o9 =>
   rw[h9] at j;exact Good.of (QrL h j A (hev l) (hev c))
  | none =>
  rw[h9] at j;dsimp only at j;have O:=hev l;have hc:=hev c;split at j;case h_2=>cases j
  rename_i E kn n km m hu el ec L;rw[el] at O;rw[ec] at hc;split at j;case h_2=>cases j
  rename_i s z b hs P W;split at j;case h_2=>cases j
  rename_i ob o' b3 a9;simp only[jIj] at j;subst j;rw[wu O,wu hc];exact Good.of (yv h hu hs P W L a9 (Wx b3 A))
 | slice t x lo hi mx =>
  simp only[aop,hop] at j;simp only[execOp,hop];split at j
  ·rename_i b ver sz i off a3;have p:=hev x;rw[a3] at p;unfold uh at j;split at j
   ·rename_i q u;simp only[jIj] at j;subst j;obtain⟨hw,N⟩:=ui h u p;simp only[jAj,Option.isNone_iff_eq_none] at hw;obtain⟨⟨rfl,rfl⟩,rfl⟩:=hw;exact Good.of1 N
   ·obtain⟨hw,N⟩:=QbU h hev j p;rw[Option.isNone_iff_eq_none] at hw;subst hw;exact Good.of1 N
  ·split at j
   ·rename_i q u;simp only[jIj] at j;subst j;unfold Qrz at u;split at u;case h_2=>cases u
    rename_i y off a3;have p:=hev x;rw[a3] at p;obtain⟨hw,N⟩:=Qrd h u p;simp only[jAj,Option.isNone_iff_eq_none] at hw;obtain⟨⟨rfl,rfl⟩,rfl⟩:=hw;exact Good.of1 N
   split at j
   ·rename_i q u;simp only[jIj] at j;subst j;exact Good.of1 (QaR h hev u A)
   ·split at j
    ·rename_i q u;simp only[jIj] at j;subst j;exact Good.of1 (Qfc h hev u A)
    ·exact Good.of1 (QcB h hev j A)
 | sliceToArrayPointer t x =>
  simp only[aop,hop] at j;simp only[execOp,hop];exact Good.of1 (Qfm h j A (hev x))
 | fieldAddr s x f =>
  simp only[aop,hop] at j;simp only[execOp,hop];have p:=hev x;split at j;case h_2=>cases j
  rename_i fd a4;split at j;case h_2=>cases j
  rename_i n L;obtain⟨fields,hu,hf⟩:=yg a4;have K:=Qk hu w;have X:=run_sizeOf L w;split at j
  ·rename_i b v sz i off P e;rw[e] at p;split at j;case h_2=>cases j
   rename_i a0;have a5:n≠0:=fun e=>by subst e;cases P
   generalize re x=xv at p ⊢;cases p with
   | ptr _ _ _ _ _ kk _ W hv Z S =>
    obtain⟨r0,a6,rfl⟩:=S (GW a0 W);refine Good.val1 (v:=.pointer (some ⟨r0,i*sz+(off+fd.offset),none⟩)) h j ?_ (.ptr b v sz i _ kk _ W hv rfl fun _=>⟨r0,a6,rfl⟩);simp[Instr.fieldAt,K,hf,Instr.sureAddr,fieldPlace,X,a5,add_at,Nat.add_assoc]
  ·rename_i y off P e;rw[e] at p;have a5:n≠0:=fun e=>by subst e;cases P
   generalize re x=xv at p ⊢;cases p with
   | dptr _ _ blk o hd =>
    refine Good.val1 (v:=.pointer (some ⟨blk,o+(off+fd.offset),none⟩)) h j ?_ (.dptr y _ blk o hd);simp[Instr.fieldAt,K,hf,Instr.sureAddr,fieldPlace,X,a5,add_at,Nat.add_assoc]
  ·cases j
 | field s x f =>
  simp only[aop,hop] at j;simp only[execOp,hop];have p:=hev x;split at j;case h_2=>cases j
  rename_i fd a4;obtain⟨fields,hu,hf⟩:=yg a4;have K:=Qk hu w;split at j
  ·rename_i n g cs L N e;rw[e] at p;split at j;case h_2=>cases j
   rename_i y J;obtain⟨C,hC⟩:=kF rfl p;rw[hC] at p ⊢;obtain⟨v,G,H⟩:=zS L N p J;refine Good.val1 (v:=v) h j ?_ H;simp[Instr.field,K,hf,asAgg,G]
  ·rename_i n g cs L N e;rw[e] at p;split at j;case h_2=>cases j
   rename_i y J;obtain⟨C,hC⟩:=kF rfl p;rw[hC] at p ⊢;obtain⟨v,G,H⟩:=zS L N p J;refine Good.val1 (v:=v) h j ?_ H;simp[Instr.field,K,hf,asAgg,G]
  ·cases j
 | indexAddr t x ix =>
  simp only[aop,hop] at j;simp only[execOp,hop];have hi:=hev ix;split at j;case h_2=>cases j
  rename_i k i e;rw[e] at hi;rw[wu hi];exact Good.of1 (kC h j A (hev x))
 | index t x ix =>
  simp only[aop,hop] at j;simp only[execOp,hop];split at j;case h_2=>cases j
  rename_i i hi;exact Good.of1 (QcI h j A (hev x) (JZ hi (hev ix)))
 | extract x i =>
  simp only[aop,hop] at j;simp only[execOp,hop];have p:=hev x;split at j
  ·rename_i vs e;rw[e] at p;split at j;case h_2=>cases j
   rename_i y J;rw[ZY] at J;generalize re x=xv at p ⊢;cases p with
   | tup _ ys O S =>
    have T:i<ys.length:=by rw[<-O];exact(jGj J).1
    refine Good.val1 (v:=ys[i]) h j ?_ (S i y _ J (by simp[T]));simp[Instr.extract,T]
  ·rename_i vs e;rw[e] at p;split at j;case h_2=>cases j
   rename_i y J;rw[ZY] at J;generalize re x=xv at p ⊢;cases p with
   | d _ _ p =>
   cases p with
   | tup _ ys O S =>
    have T:i<ys.length:=by rw[<-O];exact(jGj J).1
    refine Good.val1 (v:=ys[i]) h j ?_ (.d _ _ (S i y _ J (by simp[T])));simp[Instr.extract,T]
  ·cases j
 | call c =>
  obtain⟨V,a7,ats⟩:=c;cases V with
  | builtin b =>
   simp only[aop,hop] at j;simp only[execOp,hop];have:=Qau (consts:=a7.map fun | .const _=>true|_=>false) h hev j A;simp only[resolve,pure_bind,invoke];exact this
  | _=>simp only[aop,hop] at j;cases j
 | makeMap t q =>
  simp only[aop,hop] at j;simp only[execOp,hop];split at j;case h_2=>cases j
  rename_i L;simp only[jIj] at j;subst j;exact Good.of (QaJ h t L)
 | mapUpdate t m k x =>
  simp only[aop,hop] at j;simp only[execOp,hop];obtain⟨w',K,X⟩:=Ey h j A (hev m) (hev k) (hev x);exact⟨undef,w',.inr ⟨by simp only[Sem.run_bind,K,Result.andThen_ok,Sem.run_pure],rfl⟩,X⟩
 | insert t m k x =>
  simp only[aop,hop] at j;simp only[execOp,hop];obtain⟨w',K,X⟩:=Ey h j A (hev m) (hev k) (hev x);exact⟨undef,w',.inr ⟨by simp only[Sem.run_bind,K,Result.andThen_ok,Sem.run_pure],rfl⟩,X⟩
 | lookup t m k ok =>
  simp only[aop,hop] at j;simp only[execOp,hop];exact Good.of1 (Qci h j A (hev m) (hev k))
 | range t x =>
  simp only[aop,hop] at j;simp only[execOp,hop];exact Good.of (Qdk h j (hev x))
 | next x isS =>
  simp only[aop,hop] at j;simp only[execOp,hop];cases isS with
  | false=>cases j
  | true=>exact Good.of (QeE h j A (hev x))
 | _=>simp only[aop,hop] at j;cases j
end
end Go.SX
