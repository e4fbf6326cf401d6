/- Own texts. -/
import Derived.Test.YtjbgbmjgfgdnhaaSxTen
import Derived.Scope
import Derived.Orders
import Derived.OrdersIn
import Derived.RangeFuncLeaves
import Derived.RangeFuncRecord
import Derived.RangeFuncCalls
set_option linter.unusedSimpArgs false
set_option linter.unusedVariables false
namespace Go.SX
def E1:Blk->Bool
 | .loop _ _ _ _ _ _=>false
 | .left _=>false
 | _=>true
structure RC where
 val:AV
 up:List (Nat×Blk)
 full:Option (List (Nat×Blk))
 nx:Nat
 ob:List Prop
 orc:List Orc
 sfx:Bool
def RC.heap (a:RC)(H:List (Nat×Blk)):List (Nat×Blk):=match a.full with
 | some h=>h
 | none=>a.up++H
def JH:AV->Option (FuncId×List AV×List AV)
 | .fn (.func f) a b=>some (f,a,b)
 | .d (.fn (.func f) a b)=>some (f,a.map .d,b.map .d)
 | _=>none
def U2 (o:Oper):Option (Operand×List Operand):=match o.op with
 | .call { callee:=.value f,args,argTypes:=_ }=>some (f,args.toList)
 | _=>none
def Qdw:AV->Bool
 | .d _=>true
 | .fn _ _ _=>true
 | x=>match x.toD with
  | some _=>true
  | none=>false
def VU (H:List (Nat×Blk))(a:Nat):Bool:=H.all fun p=>Nat.blt p.1 a
def wO (H:List (Nat×Blk))(nx:Nat)(x:AV)(s' : St):Option RC:=match VU H nx with
 | true=>some { val:=x,up:=[],full:=some s'.hp,nx:=s'.nx,ob:=s'.ob,orc:=s'.orc,sfx:=s'.sfx }
 | false=>none
def qQ:Blk->Bool
 | .row _ _ _=>true
 | .mp _=>true
 | .box _=>false
 | .frozen _ _ _=>false
 | .virt _ _ _=>false
 | .loop _ _ _ _ _ _=>false
 | .it _ _=>false
 | .fbox _=>false
 | .left _=>false
 | .dead=>false
def stamp:Blk->Blk
 | .row _ sz es=>.row 0 sz es
 | k=>k
def XP (H:List (Nat×Blk))(nx:Nat)(x:AV)(s' : St):Option RC:=match x,s'.sfx&&KE H (s'.hp.length - H.length) s'.hp&&VU H nx with
 | .own b ver,true=>match look s'.hp b,WZ H b with
  | some k,false=>match qQ k&&Nat.beq ver k.ver with
   | true=>some { val:=.own b ver,up:=[(b,k)],full:=none,nx,ob:=s'.ob,orc:=s'.orc,sfx:=true }
   | false=>none
  | _,_=>none
 | _,_=>none
def Qcy (cx:Cx)(b:Bool)(H:List (Nat×Blk))(f:FuncId)(a:List AV)(nx:Nat)(o:List Orc):Option RC:=match b,cx.K f with
 | false,some g=>match Kb H a with
  | some (c,e)=>match g c with
   | some r=>some { val:=.d r,up:=Qe H e,full:=none,nx,ob:=[],orc:=o,sfx:=true }
   | none=>none
  | none=>none
 | _,_=>none
def Qce (H:List (Nat×Blk))(m sz:Nat):AV->Option (OC×(Nat×Nat))
 | .own n v=>match look H n with
  | some (.row v' sz' es)=>match Nat.beq v v'&&Nat.beq sz sz' with
   | true=>some (.row sz es,(n,v+1))
   | false=>none
  | _=>none
 | .d (.lst true _ [])=>match look H m with
  | none=>some (.row sz [],(m,0))
  | some _=>none
 | _=>none
def V6 (H:List (Nat×Blk)):Nat->List AV->List OC->Option (List OC×List (Option (Nat×Nat))×List Nat)
 | _,[],[]=>some ([],[],[])
 | m,x::xs,.dat _::ss=>match x.toDH H,V6 H (m+1) xs ss with
  | some (y,a),some (cs,ns,gs)=>some (.dat y::cs,none::ns,a++gs)
  | _,_=>none
 | m,x::xs,.row sz _::ss=>match Qce H m sz x,V6 H (m+1) xs ss with
  | some (c,p),some (cs,ns,gs)=>some (c::cs,some p::ns,gs)
  | _,_=>none
 | _,_,_=>none
def UM (n:Nat):List (Option (Nat×Nat))->Bool
 | []=>true
 | none::l=>UM n l
 | some (m,_)::l=>!(Nat.beq m n)&&UM n l
def Xj (bn:Nat)(fz:List Nat):List (Option (Nat×Nat))->Bool
 | []=>!(fz.contains bn)
 | none::l=>Xj bn fz l
 | some (n,_)::l=>UM n l&&!(Nat.beq n bn)&&!(fz.contains n)&&Xj bn fz l
def isB0:Option Nat->Nat->Bool
 | some b0,b'=>Nat.beq b0 b'
 | none,_=>false
mutual
def AV.argO (H:List (Nat×Blk))(b:Option Nat):AV->Option (AV×List Nat)
 | .ptr b' ver sz i off=>match isB0 b b'&&Nat.beq ver 0&&Nat.beq sz 0&&Nat.beq i 0 with
  | true=>some (.ptr 0 0 0 0 off,[])
  | false=>match (AV.ptr b' ver sz i off).toDH H with
   | some (y,fs)=>some (.d y,fs)
   | none=>none
 | .dptr x o=>some (.d (.ref x o),[])
 | .fn f a c=>match qv H b a,qv H b c with
  | some (x,fs),some (y,gs)=>some (AV.norm (.fn f x y),fs++gs)
  | _,_=>none
 | .agg cs=>match qv H b cs with
  | some (l,fs)=>some (AV.norm (.agg l),fs)
  | none=>none
 | .tup cs=>match qv H b cs with
  | some (l,fs)=>some (AV.norm (.tup l),fs)
  | none=>none
 | .d x=>some (.d x,[])
 | .own n v=>match (AV.own n v).toDH H with
  | some (y,fs)=>some (.d y,fs)
  | none=>none
 | _=>none
def qv (H:List (Nat×Blk))(b:Option Nat):List AV->Option (List AV×List Nat)
 | []=>some ([],[])
 | x::l=>match x.argO H b,qv H b l with
  | some (y,fs),some (ys,gs)=>some (y::ys,fs++gs)
  | _,_=>none
end
mutual
def AV.resO (b:Nat):AV->Option AV
 | .d x=>some (.d x)
 | .agg cs=>match kj b cs with
  | some l=>some (.agg l)
  | none=>none
 | .tup cs=>match kj b cs with
  | some l=>some (.tup l)
  | none=>none
 | .ptr b' ver sz i off=>match Nat.beq b' 0&&Nat.beq ver 0&&Nat.beq sz 0&&Nat.beq i 0 with
  | true=>some (.ptr b 0 0 0 off)
  | false=>none
 | _=>none
def kj (b:Nat):List AV->Option (List AV)
 | []=>some []
 | x::l=>match x.resO b,kj b l with
  | some y,some ys=>some (y::ys)
  | _,_=>none
end
def ZC:List (Option (Nat×Nat))->List OC->List AV
 | none::ns,.dat x::cs=>.d x::ZC ns cs
 | some (n,v)::ns,.row _ _::cs=>.own n v::ZC ns cs
 | _,_=>[]
def WY:List (Option (Nat×Nat))->List OC->List (Nat×Blk)
 | some (n,v)::ns,.row sz es::cs=>(n,.row v sz es)::WY ns cs
 | _::ns,_::cs=>WY ns cs
 | _,_=>[]
def V8:Nat->List OC->List (Option (Nat×Nat))
 | _,[]=>[]
 | m,.dat _::l=>none::V8 (m+1) l
 | m,.row _ _::l=>some (m,0)::V8 (m+1) l
def Wi:List Bool->List (Option (Nat×Nat))->List (Option (Nat×Nat))
 | true::ks,some (n,v+1)::ns=>some (n,v)::Wi ks ns
 | _::ks,p::ns=>p::Wi ks ns
 | _,ns=>ns
def JZ (H:List (Nat×Blk)):Nat->List Bool->List (Option (Nat×Nat))->Bool
 | j,true::ks,some (n,v)::ns=>Nat.beq n j&&Nat.beq v 1&&(look H j).isSome&&JZ H (j+1) ks ns
 | j,true::ks,none::ns=>JZ H (j+1) ks ns
 | _,true::_,[]=>false
 | j,false::ks,_::ns=>JZ H (j+1) ks ns
 | _,false::_,[]=>false
 | _,[],_=>true
def KU:List Bool->List AV->List OC->Bool
 | true::ks,.own _ _::xs,.row _ _::cs=>KU ks xs cs
 | true::ks,.d _::xs,.dat _::cs=>KU ks xs cs
 | [],[],[]=>true
 | _,_,_=>false
def QaG:AV->Bool
 | .agg l=>match Kk l with
  | none=>true
  | some _=>false
 | .d (.agg _)=>true
 | _=>false
def ze (cx:Cx)(H:List (Nat×Blk))(nx:Nat)(f:FuncId)(c:List AV)(bo:Option Nat)(r:AV)(a : List OC)(ks:List Bool)(o' : List Orc):Option RC :=
  match qv H bo c,VU H nx with
  | some (e,d),true=>match bo with
    | some b=>match look H b with
      | some (.box x)=>match x.cells,K0 x with
        | some cells,true=>match V6 H nx cells a with
          | some (cs,ns,g)=>match Xj b (d++g) ns,r.resO b with
            | true,some v=>match KU ks cells a&&QaG x with
             | true=>some { val:=v,up:=Qe H (d++g),full:=none,nx,ob:=[ComputesO cx f e (some cs) r cs ks],orc:=o',sfx:=true }
             | false=>some { val:=v,up:=(b,.box (AV.norm (.agg (ZC (Wi ks ns) a))))::(WY (Wi ks ns) a++Qe H (d++g)),full:=none,nx:=nx+a.length,ob:=[ComputesO cx f e (some cs) r a ks],orc:=o',sfx:=true }
            | _,_=>none
          | none=>none
        | _,_=>none
      | _=>none
    | none=>match Xj nx d (V8 (nx+1) a),r.resO nx with
      | true,some v=>some { val:=v,up:=(nx,.box (AV.norm (.agg (ZC (V8 (nx+1) a) a))))::(WY (V8 (nx+1) a) a++Qe H d),full:=none,nx:=nx+1+a.length,ob:=[ComputesO cx f e none r a ks],orc:=o',sfx:=true }
      | _,_=>none
  | _,_=>none
def Qsw:D->Bool
 | .v _=>true
 | _=>false
def Qdm:D->Bool
 | .v _=>true
 | .agg l=>l.all Qsw
 | _=>false
def Qss:D->Bool
 | .v _=>true
 | .agg l=>l.all Qsw
 | .tup l=>l.all Qdm
 | _=>false
def kX (e:Code->St->Option (Ex×St))(cx:Cx)(keepable:Bool)(H:List (Nat×Blk))(nx:Nat)(sym:Bool)(orc:List Orc)(f:FuncId)(b:List AV):Option RC :=
 match cx.P.funcs[f]? with
 | none=>none
 | some fn=>match fn.body with
  | none=>match allV b with
   | some vs=>match QV cx.P (callFunc f vs.toArray) with
    | some (.value v)=>some { val:=.d (ofV v),up:=[],full:=none,nx,ob:=[],orc,sfx:=true }
    | _=>none
   | none=>none
  | some _=>match qG (sym || cx.O f) orc with
   | some (.ret r,o')=>match Kb H b with
    | some (c,g)=>some { val:=.d r,up:=Qe H g,full:=none,nx,ob:=[Computes cx f c r],orc:=o',sfx:=true }
    | none=>none
   | some (.obj bo r cs' ks,o')=>ze cx H nx f b bo r cs' ks o'
   | some (.br _,o')=>match keepable,U8 e cx f b { nt:=0,sym,tm:=[],hp:=H,nx,orc:=o',ob:=[],vis:=nx,sfx:=true } with
    | true,some (x,s')=>wO H nx x s'
    | false,some (x,s')=>XP H nx x s'
    | _,_=>none
   -- a plain result: what was looked at stays as it is
   | some (.ix _,.ret r::o')=>match Qss r,Kb H b with
    | true,some (c,_)=>some { val:=.d r,up:=[],full:=none,nx,ob:=[Computes cx f c r],orc:=o',sfx:=true }
    | _,_=>none
   | some (.no,o')=>match Qcy cx sym H f b nx o' with
    | some h=>some h
    | none=>match VU H nx,U8 e cx f b { nt:=0,sym,tm:=[],hp:=H,nx,orc:=o',ob:=[],vis:=nx,sfx:=true } with
     | true,some (x,s')=>match sym || Qdw x,yj H x s' with
      | true,some y=>some { val:=y,up:=[],full:=none,nx,ob:=s'.ob,orc:=s'.orc,sfx:=true }
      | true,none=>match keepable with
       | true=>wO H nx x s'
       | false=>none
      | false,r=>match keepable,r with
       | true,_=>wO H nx x s'
       | false,some y=>some { val:=y,up:=[],full:=none,nx,ob:=s'.ob,orc:=s'.orc,sfx:=true }
       | false,none=>match sym with
        | true=>none
        | false=>XP H nx x s'
     | _,_=>none
   | _=>none
def GL (ops:Array Oper)(i:Nat)(o:Oper)(s:St)(x:AV)(hp:List (Nat×Blk))(nx:Nat)(orc:List Orc)(ob:List Prop)(sfx:Bool):Option St :=
 match E9 ops i with
 | true=>match litB s.sym orc x with
  | some (y,a,b)=>({ s with hp,nx,orc:=b,ob:=a++(ob++s.ob),sfx:=s.sfx&&sfx }:St).put o.dst y
  | none=>none
 | false=>({ s with hp,nx,orc,ob:=ob++s.ob,sfx:=s.sfx&&sfx }:St).put o.dst x
def jo:List Nat->List AV->List (Nat×AV)->List (Nat×AV)
 | t::ps,x::xs,tm=>jo ps xs ((t,x)::tm)
 | _,_,tm=>tm
def UT (b:Nat)(H:List (Nat×Blk)):Bool:=H.all fun p=>Nat.beq p.1 b || E1 p.2
def qA (c:Code->St->Option (Ex×St))(H:List (Nat×Blk))(nx:Nat)(sym:Bool)(orc:List Orc)(b ver:Nat)(a:List AV):Option RC :=
 match look H b,Nat.beq ver 0&&VU H nx with
 | some (.loop true tm ps as bd nt),true =>
  match Nat.beq ps.length a.length&&ps.all (fun t=>Nat.blt t nt) with
  | true=>match c as { nt,sym,tm:=jo ps a tm,hp:=H,nx,orc,ob:=[],vis:=nx,sfx:=true,rnd:=true } with
   | some (.normal,s1)=>match look s1.hp b,UT b s1.hp with
    | some (.loop true tm1 ps1 as1 bd1 nt1),true=>match c bd { s1 with hp:=(b,.loop false tm1 ps1 as1 bd1 nt1)::s1.hp } with
     | some (.normal,s2)=>match look s2.hp b,UT b s2.hp with
      | some (.loop false tm2 ps2 as2 bd2 nt2),true=>some { val:=.d (.v (.bool true)),up:=[],full:=some ((b,.loop true tm2 ps2 as2 bd2 nt2)::s2.hp),nx:=s2.nx,ob:=s2.ob,orc:=s2.orc,sfx:=!sym&&s2.sfx }
      | _,_=>none
     -- the body is left: the loop is Uz,and the jump is pending
     | some (e,s2)=>match look s2.hp b,UT b s2.hp with
      | some (.loop false _ _ _ _ _),true=>some { val:=.d (.v (.bool false)),up:=[],full:=some ((b,.left e)::s2.hp),nx:=s2.nx,ob:=s2.ob,orc:=s2.orc,sfx:=!sym&&s2.sfx }
      | _,_=>none
     | none=>none
    | _,_=>none
   | _=>none
  | false=>none
 | _,_=>none
abbrev Yz:=List (Nat×Blk)->Nat->Bool->List Orc->Nat->Nat->List AV->Option RC
abbrev Kj:=Bool->List (Nat×Blk)->Nat->Bool->List Orc->FuncId->List AV->Option RC
def wb:AV->Option (Nat×Nat)
 | .own b ver=>some (b,ver)
 | _=>none
def XJ (cx:Cx)(call:Kj)(g:Yz)(ops:Array Oper)(base:Nat)(i:Nat)(s:St):Option St :=
  match nth ops.toList i with
  | none=>none
  | some o=>match Ju ops s.tm o with
    | none=>none
    | some false=>s.put o.dst (.d (.v undef))
    | some true=>match U2 o with
      | some (e,c)=>match wb (evA cx s.tm e) with
       | some (b,ver)=>match g s.hp s.nx s.sym s.orc b ver (c.map (evA cx s.tm)) with
        | none=>none
        | some rc=>GL ops i o s rc.val (rc.heap s.hp) rc.nx rc.orc rc.ob rc.sfx
       | none=>match JH (evA cx s.tm e) with
        | none=>none
        | some (f,a,b)=>match call true s.hp s.nx s.sym s.orc f (a++c.map (evA cx s.tm)++b) with
          | none=>none
          | some rc=>GL ops i o s rc.val (rc.heap s.hp) rc.nx rc.orc rc.ob rc.sfx
      | none=>match aop cx s.sym s.orc s.hp (base+i) (evA cx s.tm) o with
        | none=>none
        | some r=>GL ops i o s r.val (r.up++s.hp) s.nx r.orc r.ob true
def Y3 (cx:Cx)(call:Kj)(a:Yz)(ops:Array Oper)(base:Nat):List Nat->St->Option St
 | [],s=>some s
 | i::l,s=>match XJ cx call a ops base i s with
  | some s'=>Y3 cx call a ops base l s'
  | none=>none
structure Rec where
 i:Nat
 dst:Option Tmp
 val:AV
 up:List (Nat×Blk)
 fp:Option (List Nat):=none
 piv:Bool:=false
 nx:Nat:=0
 adr:Bool:=false
def VX:List Rec->List (Nat×AV)
 | []=>[]
 | r::l=>match r.dst with
  | some t=>(t,r.val)::VX l
  | none=>VX l
def Wx:List Rec->List (Nat×Blk)
 | []=>[]
 | r::l=>r.up++Wx l
def Kc (a:Nat):List Rec->List Rec
 | []=>[]
 | r::l=>match a.testBit r.i with
  | true=>r::Kc a l
  | false=>Kc a l
def wd (o:Oper):Bool:=match o.op with
 | .move _=>false
 | .assign _=>false
 | .pick _ _ _=>false
 | .alloc _=>false
 | .box _ _=>false
 | .build _ _=>false
 | .binOp _ _ _ _ _=>false
 | .unOp _ _ _=>false
 | .makeFunc _ _ _=>false
 | .field _ _ _=>false
 | .index _ _ _=>false
 | .extract _ _=>false
 | .call { callee:=.builtin .max,args:=_,argTypes:=_ }=>false
 | .call { callee:=.builtin .min,args:=_,argTypes:=_ }=>false
 | _=>true
def kG:AV->Option (List Nat)
 | .ptr b _ _ _ _=>some [b]
 | .own b _=>some [b]
 | .sub b _ _ _ _=>some [b]
 | .dptr _ _=>some []
 | .d _=>some []
 | _=>none
def wV (c:Operand->AV)(o:Oper):Option (List Nat):=match o.op with
 | .load _ a=>kG (c a)
 | .convert _ _ x=>kG (c x)
 | .fieldAddr _ x _=>kG (c x)
 | .indexAddr _ x _=>kG (c x)
 | .nilCheck x=>kG (c x)
 | .call { callee:=.builtin b,args,argTypes:=_ }=>match b,args.toList with
  | .len,[x]=>kG (c x)
  | _,_=>none
 | _=>none
def Xi (_masks:List Nat)(s:St)(recs:List Rec)(o:Oper)(a:Nat)(b:Option (List Nat)):List (Nat×Blk):=match wd o with
 | true=>match b with
  | none=>Wx (Kc a recs)++s.hp
  | some fs=>(Wx (Kc a recs)++s.hp).filter fun p=>fs.contains p.1
 | false=>[]
def Qbm (cx:Cx)(s:St)(recs:List Rec)(o:Oper):Option Nat:=match o.op with
 | .call { callee:=.builtin .len,args,argTypes }=>match args.toList,argTypes.toList with
  | [.tmp t],ty::_=>match cx.P.underlying ty,look s.tm t,recs.all fun r=>match r.dst with|some d=>!(Nat.beq d t)|none=>true with
   | some (.slice _),some (.own b ver),true=>match Ug s.hp (.own b ver) with
    | some es=>some es.length
    | none=>none
   | _,_,_=>none
  | _,_=>none
 | _=>none
def ZS (a:List Nat)(i j:Nat):Bool:=match nth a j with
 | some m=>m.testBit i
 | none=>false
def kM (r:Rec)(t:Nat):Bool:=match r.dst with
 | some d=>Nat.beq d t
 | none=>false
def yC (t:Nat):List Rec->Option Rec
 | []=>none
 | r::l=>match kM r t with
  | true=>some r
  | false=>yC t l
def Qcu (cx:Cx)(ops:Array Oper)(a:List Nat)(s:St)(recs:List Rec)(i:Nat)(o:Oper):Option Nat:=match o.op with
 | .call { callee:=.builtin .len,args,argTypes }=>match args.toList,argTypes.toList with
  | [.tmp t],ty::_=>match cx.P.underlying ty,yC t recs with
   | some (.slice _),some r=>match nth ops.toList r.i with
    | some p=>match p.op,p.guard with
     | .move (.tmp t0),none=>match look s.tm t0,ZS a r.i i&&(recs.all fun q=>!(kM q t) || Nat.beq q.i r.i)&&(recs.all fun q=>!(Nat.blt q.i r.i) || !(kM q t0)) with
      | some (.own b ver),true=>match Ug s.hp (.own b ver) with
       | some es=>some es.length
       | none=>none
      | _,_=>none
     | _,_=>none
    | none=>none
   | _,_=>none
  | _,_=>none
 | _=>none
def Xs (s:St)(recs:List Rec)(a:Nat):List (Nat×Blk):=match (Kc a recs).any fun r=>r.up.any fun p=>WZ s.hp p.1 with
 | true=>[]
 | false=>s.hp
def boxB:Blk->Bool
 | .box _=>true
 | .row _ _ _=>false
 | .frozen _ _ _=>false
 | .virt _ _ _=>false
 | .loop _ _ _ _ _ _=>false
 | .mp _=>false
 | .it _ _=>false
 | .fbox _=>false
 | .left _=>false
 | .dead=>false
def ptrB:AV->Option Nat
 | .ptr b _ _ _ _=>some b
 | .d _=>none
 | .agg _=>none
 | .tup _=>none
 | .dptr _ _=>none
 | .own _ _=>none
 | .sub _ _ _ _ _=>none
 | .fn _ _ _=>none
 | .junk=>none
def Xx (a:Operand->AV)(o:Oper):Option Nat:=match o.op with
 | .fieldAddr _ x _=>ptrB (a x)
 | .indexAddr _ x _=>ptrB (a x)
 | _=>none
def adrB (hp:List (Nat×Blk)):Option Nat->Bool
 | some b=>match look hp b with
  | some k=>boxB k
  | none=>false
 | none=>false
def wS (H:List (Nat×Blk))(nm:Nat)(i:Nat)(dst:Option Tmp)(p:Nat×Blk)(a:RC):Option (Rec×List Prop×List Orc):=match a.val with
 | .own b ver'=>match qQ p.2&&Nat.beq p.1 b&&Nat.beq p.2.ver ver'&&!(WZ H b) with
  | true=>some ({ i,dst,val:=.own nm 0,up:=[(nm,stamp p.2)] },a.ob,a.orc)
  | false=>none
 | _=>none
def Qct:Nat->List Rec->Nat
 | n,[]=>n
 | n,r::l=>Qct (match Nat.ble n r.nx with|true=>r.nx|false=>n) l
def effO:List Orc->Option (List Orc)
 | .ix k::r=>match decide (k=-9) with
  | true=>some r
  | false=>none
 | _=>none
def effC (cx:Cx)(a:Bool)(orc:List Orc)(b:AV):Option (List Orc):=match effO orc with
 | some o=>some o
 | none=>match a,JH b with
  | false,some (f,_,_)=>match cx.E f with
   | true=>some orc
   | false=>none
  | _,_=>none
def QcJ (H:List (Nat×Blk))(a:RC):Option (List (Nat×Blk)):=match a.full,a.sfx with
 | some h,true=>some (h.take (h.length - H.length))
 | some h,false=>some h
 | none,_=>some a.up
def Xc (cx:Cx)(call:Kj)(t:Yz)(ops:Array Oper)(g:List Nat)(base:Nat)(s:St)(i:Nat)(recs:List Rec)(orc:List Orc):Option (Rec×List Prop×List Orc) :=
  match nth ops.toList i,nth g i with
  | some o,some c =>
    let tm:=VX recs++s.tm
    match Ju ops tm o with
    | none=>none
    | some false=>some ({ i,dst:=o.dst,val:=.d (.v undef),up:=[],fp:=some [] },[],orc)
    | some true =>
      match U2 o with
      | some (q,j)=>match wb (evA cx tm q) with
       | some (b,ver)=>match t (Wx (Kc c recs)++s.hp) (base+ops.toList.length) s.sym orc b ver (j.map (evA cx tm)) with
        | none=>none
        | some e=>match e.full,E9 ops i with
          | some h,true=>match litB s.sym e.orc e.val with
            | some (y,l,m)=>some ({ i,dst:=o.dst,val:=y,up:=h,piv:=true,nx:=e.nx },l++e.ob,m)
            | none=>none
          | some h,false=>some ({ i,dst:=o.dst,val:=e.val,up:=h,piv:=true,nx:=e.nx },e.ob,e.orc)
          | none,_=>none
       | none=>match effC cx s.sym orc (evA cx tm q) with
        | some n=>match JH (evA cx tm q),E9 ops i with
          | some (f,a,b),false=>match call true (Wx (Kc c recs)++s.hp) (Qct (base+ops.toList.length) (Kc c recs)) s.sym n f (a++j.map (evA cx tm)++b) with
            | some e=>match QcJ (Wx (Kc c recs)++s.hp) e with
              | some u=>some ({ i,dst:=o.dst,val:=e.val,up:=u,piv:=true,nx:=e.nx },e.ob,e.orc)
              | none=>none
            | none=>none
          | _,_=>none
        | none=>match JH (evA cx tm q) with
        | none=>none
        | some (f,a,b)=>match uR (Xs s recs c) (a++j.map (evA cx tm)++b),call false (Xs s recs c) (base+ops.toList.length) s.sym orc f (a++j.map (evA cx tm)++b) with
          | true,some e=>match e.full,e.up,E9 ops i with
            | none,[],true=>match litB s.sym e.orc e.val with
              | some (y,l,m)=>some ({ i,dst:=o.dst,val:=y,up:=[] },l++e.ob,m)
              | none=>none
            | none,[],false=>some ({ i,dst:=o.dst,val:=e.val,up:=[] },e.ob,e.orc)
            | none,[p],false=>wS (Xs s recs c) (base+i) i o.dst p e
            | _,_,_=>none
          | _,_=>none
      | none=>match Qbm cx s recs o with
       | some k=>some ({ i,dst:=o.dst,val:=.d (.v (.int .i64 k)),up:=[],fp:=some [] },[],orc)
       | none=>match Qcu cx ops g s recs i o with
        | some k=>some ({ i,dst:=o.dst,val:=.d (.v (.int .i64 k)),up:=[],fp:=some [] },[],orc)
        | none=>match aop cx s.sym orc (Xi g s recs o c (wV (evA cx tm) o)) (base+i) (evA cx tm) o with
         | none=>none
         | some r=>match E9 ops i with
           | true=>match litB s.sym r.orc r.val with
             | some (y,l,m)=>some ({ i,dst:=o.dst,val:=y,up:=r.up,fp:=wV (evA cx tm) o,adr:=adrB (Xi g s recs o c (wV (evA cx tm) o)) (Xx (evA cx tm) o) },l++r.ob,m)
             | none=>none
           | false=>some ({ i,dst:=o.dst,val:=r.val,up:=r.up,fp:=wV (evA cx tm) o,adr:=adrB (Xi g s recs o c (wV (evA cx tm) o)) (Xx (evA cx tm) o) },r.ob,r.orc)
  | _,_=>none
def Kq (cx:Cx)(call:Kj)(c:Yz)(ops:Array Oper)(a:List Nat)(base:Nat)(s:St):List Nat->List Rec->List Prop->List Orc->Option (List Rec×List Prop×List Orc)
 | [],recs,ob,orc=>some (recs,ob,orc)
 | i::l,recs,ob,orc=>match Xc cx call c ops a base s i recs orc with
  | some (r,b,d)=>Kq cx call c ops a base s l (r::recs) (b++ob) d
  | none=>none
def Ky (base:Nat)(r:Rec):Bool:=r.up.any fun p=>!(Nat.beq p.1 (base+r.i))
def Yj (ops:Array Oper)(i:Nat):Bool:=match nth ops.toList i with
 | some o=>wd o
 | none=>true
def E2 (r q:Rec):Bool:=match q.fp,q.up with
 | some a,[]=>r.up.any fun p=>a.contains p.1&&!(q.adr&&boxB p.2)
 | _,_=>true
def JL (ops:Array Oper)(a:List Nat)(base:Nat)(r q:Rec):Bool :=
 ZS a r.i q.i || ZS a q.i r.i || Nat.beq r.i q.i || (!(Ky base r&&Yj ops q.i&&E2 r q)&&!(Ky base q&&Yj ops r.i&&E2 q r))
def KK (o:Oper)(ops:Array Oper):List Tmp :=
  (o.op.operands.toList.filterMap fun | .tmp t=>some t|_=>none) ++
  (match o.guard with
   | some (g,_)=>match nth ops.toList g with
     | some x=>x.dst.toList
     | none=>[]
   | none=>[])
def KB (ops:Array Oper)(a:List Nat)(i j:Nat):Bool :=
 ZS a i j || ZS a j i || Nat.beq i j ||
 match nth ops.toList i,nth ops.toList j with
 | some x,some y=>match x.dst with
  | some d=>!((KK y ops).contains d)&&(match y.dst with|some e=>!(Nat.beq d e)|none=>true)
  | none=>true
 | _,_=>false
def QaD (a:List Nat)(o:Oper)(j:Nat):Nat:=o.after.toList.foldl (fun s e=>match Region.binds .any e&&Nat.blt e.on j with
 | true=>s ||| (2 ^ e.on ||| (match nth a e.on with|some m=>m|none=>0))
 | false=>s) 0
def W1 (a:List Nat)(j:Nat):Nat:=match nth a j with
 | some m=>m
 | none=>0
def Qbj (ops:Array Oper)(a:List Nat):Bool:=(List.range ops.toList.length).all fun j=>match nth ops.toList j with
 | some o=>Nat.beq (W1 a j) (QaD a o j)&&(o.after.toList.all fun e=>!(Region.binds .any e) || Nat.blt e.on j) &&
  ((List.range j).all fun i=>!((W1 a j).testBit i) || Nat.beq (W1 a i &&& W1 a j) (W1 a i))
 | none=>false
def yN (ops:Array Oper)(a:List Nat)(base:Nat)(s:St)(recs:List Rec):Bool :=
 Nat.beq a.length ops.toList.length&&Qbj ops a &&
 ((List.range ops.toList.length).all fun i=>(List.range ops.toList.length).all fun j=>KB ops a i j) &&
 (recs.all fun r=>!(Ky base r) || recs.all fun q=>JL ops a base r q) &&
 (recs.all fun r=>r.up.all fun p=>match Nat.beq p.1 (base+r.i) with
  | true=>!(WZ s.hp p.1)
  | false=>(WZ s.hp p.1 || (List.range r.i).any fun i=>Nat.beq p.1 (base+i)&&ZS a i r.i) || (r.piv&&Nat.ble (base+ops.toList.length) p.1)) &&
 (VU s.hp base || (List.range ops.toList.length).all fun i=>!(WZ s.hp (base+i))) &&
 (recs.all fun r=>!(Ky base r) || Yj ops r.i) &&
 (recs.all fun r=>match r.dst with|some d=>Nat.blt d s.nt|none=>true) &&
 (recs.all fun r=>!r.piv || recs.all fun q=>Nat.beq q.i r.i || ZS a q.i r.i || ZS a r.i q.i || q.up.isEmpty)
def kO:List (Nat×AV)->Nat->List (Nat×AV)
 | [],_=>[]
 | p::l,seen=>match seen.testBit p.1 with
  | true=>kO l seen
  | false=>p::kO l (seen ||| 2 ^ p.1)
def Kr (tm:List (Nat×AV)):Nat->List (Nat×AV)
 | 0=>[]
 | n+1=>match look tm n with
  | some x=>(n,x)::Kr tm n
  | none=>Kr tm n
mutual
def AV.clean (hp:List (Nat×Blk))(vis:Nat)(kb:List Nat):AV->AV
 | .d x=>.d x
 | .agg cs=>.agg (K6 hp vis kb cs)
 | .tup cs=>.tup (K6 hp vis kb cs)
 | .dptr x o=>.dptr x o
 | .ptr b ver sz i off=>match kb.contains b&&GQ hp b ver with
  | true=>match Nat.blt b vis with
   | true=>.ptr b ver sz i off
   | false=>.ptr b 0 sz i off
  | false=>.junk
 | .own b ver=>match kb.contains b&&GQ hp b ver with
  | true=>match Nat.blt b vis with
   | true=>.own b ver
   | false=>.own b 0
  | false=>.junk
 | .sub b ver sz lo n=>match kb.contains b&&GQ hp b ver with
  | true=>match Nat.blt b vis with
   | true=>.sub b ver sz lo n
   | false=>.sub b 0 sz lo n
  | false=>.junk
 | .fn f a b=>.fn f (K6 hp vis kb a) (K6 hp vis kb b)
 | .junk=>.junk
def K6 (hp:List (Nat×Blk))(vis:Nat)(kb:List Nat):List AV->List AV
 | []=>[]
 | x::l=>x.clean hp vis kb::K6 hp vis kb l
end
def qk (hp:List (Nat×Blk))(vis:Nat)(a:List Nat):List (Nat×AV)->List (Nat×AV)
 | []=>[]
 | (t,x)::l=>(t,x.clean hp vis a)::qk hp vis a l
def Blk.clean (hp:List (Nat×Blk))(vis:Nat)(a:List Nat)(b:Nat):Blk->Option Blk
 | .box x=>match (x.clean hp vis a).cells with
  | some _=>some (.box (x.clean hp vis a))
  | none=>none
 | .row v sz es=>some (.row (match Nat.blt b vis with|true=>v|false=>0) sz es)
 | .frozen v sz es=>some (.frozen (match Nat.blt b vis with|true=>v|false=>0) sz es)
 | .virt v sz es=>some (.virt (match Nat.blt b vis with|true=>v|false=>0) sz es)
 | .loop rdy tm ps as bd nt=>some (.loop rdy (qk hp vis a tm) ps as bd nt)
 | .mp es=>some (.mp es)
 | .it s p=>some (.it s p)
 | .fbox x=>some (.fbox x)
 | .left e=>some (.left e)
 | .dead=>some .dead
def kD (hp:List (Nat×Blk))(vis:Nat)(a:List Nat)(tm:List (Nat×AV)):List Nat->List (Nat×AV)
 | []=>[]
 | t::l=>match look tm t with
  | some x=>(t,x.clean hp vis a)::kD hp vis a tm l
  | none=>kD hp vis a tm l
def wQ (hp:List (Nat×Blk))(vis:Nat)(a:List Nat):List Nat->Option (List (Nat×Blk))
 | []=>some []
 | b::l=>match look hp b,wQ hp vis a l with
  | some k,some r=>match k.clean hp vis a b with
   | some c=>some ((b,c)::r)
   | none=>none
  | _,_=>none
def Gb (z sz:Nat)(es:jVj):Blk:=match z with
 | 0=>.virt 0 sz es
 | z+1=>match es with
  | []=>.row 0 (z+1) []
  | e::l=>.virt 0 sz (e::l)
def GB (tm:List (Nat×AV))(hp:List (Nat×Blk))(a:Nat):List Nat->List (Nat×AV)×List (Nat×Blk)×Nat
 | t::z::l=>match look tm t,look hp a with
  | some (.d (.lst true sz es)),none=>GB ((t,.own a 0)::tm) ((a,Gb z sz es)::hp) (a+1) l
  | _,_=>GB tm hp a l
 | _=>(tm,hp,a)
def kz (s:St)(d c a:List Nat):Option St :=
 match GB s.tm s.hp s.nx d with
 | (tm,hp,nx)=>match wQ hp s.vis a a,hp.all fun q=>!(Nat.blt q.1 s.vis) || a.contains q.1 with
  | some b,true=>some { s with tm:=kD hp s.vis a tm c,hp:=b,nx,ob:=[],orc:=[] }
  | _,_=>none
def U7:Ex->Exit
 | .normal=>.normal
 | .exit id=>.exit id
 | .ret=>.ret
structure StepsV (vis:Nat) (hp:List (Nat×Blk)) (ρ:Nat->Value) (w:World) (hp' : List (Nat×Blk)) (ρ' : Nat->Value) (w' : World):Prop where
 ext:Ext w (Mut hp ρ) w'
 mt:∀r,r<w.heap.size->Mut hp' ρ' r->Mut hp ρ r
 grow:∀b k,b<vis->look hp b=some k->∃k',look hp' b=some k'/\k.ver<=k'.ver/\(k.ver=k'.ver->ρ' b=ρ b)
theorem Steps1.toV {vis:Nat}{hp c : List (Nat×Blk)}{ρ ρ' : Nat->Value}{w w' : World}(h:Steps1 hp ρ w c ρ' w'):StepsV vis hp ρ w c ρ' w' :=
 ⟨h.ext,h.mt,fun b k _ d=>h.grow.dom b k d⟩
theorem StepsV.refl (vis:Nat)(hp:List (Nat×Blk))(ρ:Nat->Value)(w:World):StepsV vis hp ρ w hp ρ w:=(Steps1.refl hp ρ w).toV
theorem StepsV.trans {vis:Nat}{g h i:List (Nat×Blk)}{l m o:Nat->Value}{p q s:World}(a:StepsV vis g l p h m q)(b:StepsV vis h m q i o s):StepsV vis g l p i o s :=
 ⟨a.ext.trans b.ext fun r c f=>a.mt r c f,fun r c f=>a.mt r c (b.mt r (Nat.lt_of_lt_of_le c a.ext.size) f),fun n k j v=>by obtain⟨x,d,z,t⟩:=a.grow n k j v;obtain⟨y,e,A,u⟩:=b.grow n x j d;exact⟨y,e,Nat.le_trans z A,fun C=>by rw[u (by omega),t (by omega)]⟩⟩
abbrev fen (r:Option Nat):Fence:={ Fence.wide with round:=r }
theorem QcD (r:Option Nat)(n:Nat):(fen r).room n:=by intro d b;cases b
def wpR (r:Option Nat)(P:Program)(c:Code)(Q:Exit->Act->World->Prop)(a:Act)(w:World):Prop:=∀m,c.wpIn (fen r) m P Q a w
section
variable {r:Option Nat}{P:Program}{Q:Exit->Act->World->Prop}{a:Act}{w:World}
theorem Vk {c:Code}{b : Exit->Act->World->Prop}(h:wpR r P c Q a w)(d:∀e a w,Q e a w->b e a w):wpR r P c b a w:=fun m=>wpIn_mono (h m) d
theorem Qb5 (h:Q .normal a w):wpR r P .skip Q a w:=fun _=>wpIn_skip h
theorem Qbv {l:Nat}(h:Q .normal a w):wpR r P (.label l) Q a w:=fun _=>wpIn_label h
theorem Qb6 {id:Nat}(h:Q (.exit id) a w):wpR r P (.exit id) Q a w:=fun _=>wpIn_exit h
theorem QcV (h:Q .ret a w):wpR r P .ret Q a w:=fun _=>wpIn_ret h
theorem Qa6 {x y:Code}(h:wpR r P x (Exit.then (wpR r P y Q) Q) a w):wpR r P (.seq x y) Q a w:=fun m=>wpIn_seq (wpIn_mono (h m) fun e a w b=>by
 cases e with
 | normal=>exact b m
 | exit id=>exact b
 | goto l=>exact b
 | ret=>exact b
 | panic ch=>exact b
 | outgrown=>exact b)
theorem uh {c:Operand}{x y:Code}{t:Bool}(hc:a.eval c=.bool t)(h:wpR r P (if t then x else y) Q a w):wpR r P (.cond c x y) Q a w:=fun m=>wpIn_cond hc (h m)
theorem jw {c:Operand}{x y:Code}(hc:a.eval c=.bool true)(h:wpR r P x Q a w):wpR r P (.cond c x y) Q a w:=fun m=>wpIn_cond_true hc (h m)
theorem wp {c:Operand}{x y:Code}(hc:a.eval c=.bool false)(h:wpR r P y Q a w):wpR r P (.cond c x y) Q a w:=fun m=>wpIn_cond_false hc (h m)
theorem qB {id:Nat}{c:Code}(h:wpR r P c (Exit.inBlock id Q) a w):wpR r P (.block id c) Q a w:=fun m=>wpIn_block (h m)
theorem YW {b:Frame}{k:List Item}{cs:List Frame}{c:Code}:step P (lone (b.atR a (.code (.scope c)::k)) cs w)=.next (lone (b.atR a (.code c::.inScope c::k)) cs w) :=
 step_lone_go (by simp[stepG,stepG.exec,Frame.atR])
theorem jA {b:Frame}{k:List Item}{cs:List Frame}{c:Code}:step P (lone (b.atR a (.inScope c::k)) cs w)=.next (lone (b.atR a k) cs w) :=
 step_lone_go (by simp[stepG,stepG.exec,Frame.atR])
theorem Ek {c:Code}(h:wpR r P c (Exit.noGoto Q) a w):wpR r P (.scope c) Q a w:=by
 intro m b k cs s n p;have i:(lone (b.atR a (.code (.scope c)::k)) cs w).fenced P (fen r):=fenced_calm n p rfl;obtain⟨e,f,g,j,d⟩:=h m b (.inScope c::k) cs s n p;cases e with
 | normal=>exact⟨.normal,f,g,j,.head i YW (StepsIn.trans d (.one (fenced_calm n p rfl) jA))⟩
 | exit id =>
  have t:exitTo id (.inScope c::k)=exitTo id k:=by simp[exitTo]
  exact⟨.exit id,f,g,j,fun u o=>.head i YW (d.1 u (by rw[t];exact o)),
   fun q o=>let ⟨k₁,h1,h2⟩:=d.2 q (by rw[t];exact o);⟨k₁,h1,.head i YW h2⟩⟩
 | goto l=>exact j.elim
 | ret=>exact⟨_,f,g,j,.of_steps (.one i YW) d⟩
 | panic ch=>exact⟨_,f,g,j,.of_steps (.one i YW) d⟩
 | outgrown=>exact⟨_,f,g,j,.of_steps (.one i YW) d⟩
end
def DfTo (w:World)(b:List Deferred)(w' : World)(c:List Deferred):Prop :=
 ∃new:List Nat,c=new.map (fun D=>{ target:=.collected D,args:=#[] })++b/\new.Nodup/\∀D,D∈new->w.heap.size<=D/\w'.heap[D]?=some (.deferred (some []))
theorem DfTo.refl (w:World)(b:List Deferred)(w' : World):DfTo w b w' b:=⟨[],rfl,List.nodup_nil,fun _ h=>by cases h⟩
def After (cx:Cx)(F:Nat->Prop)(vis f:Nat)(hp:List (Nat×Blk))(ρ:Nat->Value)(w:World)(d:List Deferred)(e : List (Nat×AV))(b : List (Nat×Blk))(c : Act)(w' : World):Prop :=
 ∃ρ',HSim cx F b ρ' w'/\TSim F e b ρ' c w'/\c.tmps.size=f/\DfTo w d w' c.defers/\StepsV vis hp ρ w b ρ' w'
def wpL (r:Option Nat)(P:Program)(c:Code)(Q:Exit->Act->World->Prop)(a:Act)(w:World):Prop :=
 ∀(b:Frame) (k:List Item) (cs:List Frame),b.roundOf=r->∃e d w',Q e d w'/\ArrivesIn (Machine.fenced P (fen r)) P (lone (b.atR a (.code c::.inLoop c::k)) cs w) b k cs e d w'
theorem Qbu {r:Option Nat}{P:Program}{c:Code}{Q:Exit->Act->World->Prop}{a:Act}{w:World}(h:wpL r P c Q a w):wpR r P (.loop c) Q a w:=by intro m b k cs f i l;obtain⟨e,g,w',j,d⟩:=h b k cs f;exact⟨e,g,w',j,.of_steps (.one (fenced_calm i l rfl) stepR_loop) d⟩
theorem XG {r:Option Nat}{P:Program}{c:Code}{Q:Exit->Act->World->Prop}{a:Act}{w:World}(h:wpR r P c (Exit.then (wpL r P c Q) Q) a w):wpL r P c Q a w:=by
 intro b k cs p;have s:(fen r).fn b.fn:=trivial;have t:(fen r).room (cs.length+1+0):=QcD _ _;obtain⟨e,f,g,m,d⟩:=h 0 b (.inLoop c::k) cs p s t;cases e with
 | normal =>
  obtain⟨o,n,q,j,i⟩:=m b k cs p;exact⟨o,n,q,j,.of_steps (StepsIn.trans d (.one (fenced_calm s t rfl) stepR_inLoop)) i⟩
 | exit id=>exact⟨_,f,g,m,.pass (x:=.inLoop c) rfl (fun _ _=>.inl (by simp)) d⟩
 | goto l=>exact⟨_,f,g,m,.pass (x:=.inLoop c) rfl (fun _ _=>.inl (by simp)) d⟩
 | ret=>exact⟨_,f,g,m,.pass (x:=.inLoop c) rfl (fun _ _=>.inl (by simp)) d⟩
 | panic ch=>exact⟨_,f,g,m,.pass (x:=.inLoop c) rfl (fun _ _=>.inl (by simp)) d⟩
 | outgrown=>exact⟨_,f,g,m,.pass (x:=.inLoop c) rfl (fun _ _=>.inl (by simp)) d⟩
def QdG (cx:Cx)(c:Code)(s:St)(e:Ex)(d : List (Nat×AV))(b : List (Nat×Blk)):Prop :=
 ∀(r:Option Nat) (F:Nat->Prop) (ρ:Nat->Value) (a:Act) (w:World),(s.rnd=false->r=none)->Sim cx F s ρ a w ->
  wpL r cx.P c (fun g f w'=>g=U7 e/\After cx F s.vis s.nt s.hp ρ w a.defers d b f w') a w
def kZ (cx:Cx)(c:Code)(nt vis:Nat)(rnd:Bool)(tm:List (Nat×AV))(hp:List (Nat×Blk))(e:Ex)(d : List (Nat×AV))(b : List (Nat×Blk)):Prop :=
 QdG cx c { nt,sym:=true,tm,hp,nx:=0,orc:=[],ob:=[],vis,sfx:=true,rnd } e d b
def QcM (ops:Array Oper)(tm:List (Nat×AV)):List Nat :=
 match (ops.toList.any fun o=>match o.op with | .slice _ _ _ _ _=>true|_=>false)&&(ops.toList.any fun o=>(U2 o).isSome) &&
   !(ops.toList.any fun o=>match o.op with | .store _ _ _=>true | .call { callee:=.builtin .append,args:=_,argTypes:=_ }=>true|_=>false) with
 | true=>ops.toList.filterMap fun o=>match o.op with
  | .move (.tmp t)=>match look tm t with
   | some (.own b _)=>some b
   | _=>none
  | _=>none
 | false=>[]
def GC (ops:Array Oper)(s:St):St:=match s.sym with
 | true=>match s.orc with
  | .lp pr _ kb _ _ _ _::r=>{ s with hp:=uD (Qe s.hp kb++s.hp) pr,orc:=r }
  | _=>s
 | false=>{ s with hp:=Qe s.hp (QcM ops s.tm)++s.hp }
def yK {b:Type}(n:Nat)(k:Nat->b):b:=match n with
 | 0=>k 0
 | m+1=>k (m+1)
def yM {b:Type}(n:Bool)(k:Bool->b):b:=match n with
 | true=>k true
 | false=>k false
def yL {b c:Type}(l:List c)(k:List c->b):b:=match l with
 | []=>k []
 | x::r=>k (x::r)
def QcC {b:Type}(l:List Prop)(k:List Prop->b):b:=match l with
 | []=>k []
 | x::r=>k (x::r)
theorem QbO {b:Type}(n:Nat)(k:Nat->b):yK n k=k n:=by cases n<;>rfl
theorem QbQ {b:Type}(n:Bool)(k:Bool->b):yM n k=k n:=by cases n<;>rfl
theorem QbP {c b:Type}(n:List b)(k:List b->c):yL n k=k n:=by cases n<;>rfl
theorem QbN {b:Type}(n:List Prop)(k:List Prop->b):QcC n k=k n:=by cases n<;>rfl
def St.force {b:Type}(s:St)(k:St->b):b :=
 yK s.nt fun nt=>yM s.sym fun sym=>yL s.tm fun tm=>yL s.hp fun hp=>yK s.nx fun nx=>yL s.orc fun orc=>QcC s.ob fun ob=>yK s.vis fun vis=>yM s.sfx fun sfx=>yM s.rnd fun rnd =>
  k { nt,sym,tm,hp,nx,orc,ob,vis,sfx,rnd }
theorem St.force_eq {b:Type}(s:St)(k:St->b):s.force k=k s:=by simp only[St.force,QbO,QbQ,QbP,QbN]
def Z8:Nat->Cx->Code->St->Option (Ex×St)
 | 0,_,_,_=>none
 | n+1,cx,c,s=>match c with
  | .skip=>some (.normal,s)
  | .label _=>some (.normal,s)
  | .region _ ops draw=>s.force fun s=>match draw with
   | false=>match Y3 cx (kX (Z8 n cx) cx) (qA (Z8 n cx)) ops s.nx (List.range ops.toList.length) { s with nx:=s.nx+ops.toList.length } with
    | some s'=>some (.normal,s')
    | none=>none
   | true=>match Kq cx (kX (Z8 n cx) cx) (qA (Z8 n cx)) ops (Region.before ops).toList s.nx (GC ops s) (List.range ops.toList.length) [] s.ob (GC ops s).orc with
    | some (recs,ob,orc)=>match yN ops (Region.before ops).toList s.nx (GC ops s) recs with
     | true=>some (.normal,{ s with tm:=VX recs++s.tm,hp:=Wx recs++(GC ops s).hp,nx:=Qct (s.nx+ops.toList.length) recs,orc,ob })
     | false=>none
    | none=>none
  | .seq a b=>match Z8 n cx a s with
   | some (.normal,s1)=>Z8 n cx b s1
   | r=>r
  | .cond x t e=>match evA cx s.tm x with
   | .d (.v (.bool b))=>match qG s.sym s.orc with
    | some (.br true,r)=>Z8 n cx t { s with orc:=r,ob:=(b=true)::s.ob }
    | some (.br false,r)=>Z8 n cx e { s with orc:=r,ob:=(b=false)::s.ob }
    | some (.no,r)=>match b with
     | true=>Z8 n cx t { s with orc:=r }
     | false=>Z8 n cx e { s with orc:=r }
    | _=>none
   | _=>none
  | .block id body=>match Z8 n cx body s with
   | some (.exit i,s1)=>match Nat.beq i id with
    | true=>some (.normal,s1)
    | false=>some (.exit i,s1)
   | r=>r
  | .scope body=>Z8 n cx body s
  | .loop body=>match qG s.sym s.orc with
   | some (.lp pr kt kb e tm hp nx,r)=>match kz s pr kt kb with
    | some j=>some (e,{ s with tm,hp,nx,orc:=r,ob:=kZ cx body j.nt j.vis j.rnd j.tm j.hp e tm hp::s.ob,sfx:=false })
    | none=>none
   | some (.no,r)=>match Z8 n cx body { s with orc:=r,tm:=kO s.tm 0 } with
    | some (.normal,s1)=>Z8 n cx (.loop body) s1
    | q=>q
   | _=>none
  | .rangeFunc f ps as bd=>match s.rnd,JH (evA cx s.tm f),VU s.hp s.nx&&s.hp.all (fun p=>E1 p.2) with
   | false,some (g,a,b),true=>match U8 (Z8 n cx) cx g (a++[.own s.nx 0]++b) { nt:=0,sym:=s.sym,tm:=[],hp:=(s.nx,.loop true (Kr s.tm s.nt) ps.toList as bd s.nt)::s.hp,nx:=s.nx+1,orc:=s.orc,ob:=s.ob,vis:=s.nx+1,sfx:=true } with
    | some (_,h)=>match look h.hp s.nx,UT s.nx h.hp with
     | some (.loop true _ _ _ _ _),true=>some (.normal,{ s with hp:=(s.nx,.dead)::h.hp.filter (fun p=>!(Nat.beq p.1 s.nx)),nx:=h.nx,orc:=h.orc,ob:=h.ob,sfx:=!s.sym&&(s.sfx&&h.sfx) })
     | some (.left e),true=>some (e,{ s with hp:=(s.nx,.dead)::h.hp.filter (fun p=>!(Nat.beq p.1 s.nx)),nx:=h.nx,orc:=h.orc,ob:=h.ob,sfx:=!s.sym&&(s.sfx&&h.sfx) })
     | _,_=>none
    | none=>none
   | _,_,_=>none
  | .exit id=>some (.exit id,s)
  | .ret=>some (.ret,s)
  | _=>none
theorem VR.restrict {w w' : World}{M O S:Nat->Prop}{H C : List (Nat×Blk)}{ρ ρ' : Nat->Value}(q:∀b k,look H b=some k->look C b=some k/\ρ' b=ρ b)(T:∀r,r<w'.heap.size->S r->O r){x:AV}{t:Value}(V:VR w M H ρ x t) :
  ∀y,VR w' O C ρ' x y->VR w' S H ρ x y:=by
 induction V with
 | d x t _ =>
  intro y h;cases h with
  | d _ _ h=>exact .d _ _ (h.ext (jLj _) (fun _ _ _=>rfl) T)
 | agg cs ys hl hh ih =>
  intro y h;cases h with
  | agg _ p l e =>
   refine .agg cs p l fun i c z hc s=>?_;have j:i<ys.length:=by rw[<-hl];exact(jGj hc).1
   exact ih i c ys[i] hc (by simp[j]) z (e i c z hc s)
 | tup cs ys hl hh ih =>
  intro y h;cases h with
  | tup _ p l e =>
   refine .tup cs p l fun i c z hc s=>?_;have j:i<ys.length:=by rw[<-hl];exact(jGj hc).1
   exact ih i c ys[i] hc (by simp[j]) z (e i c z hc s)
 | dptr x off blk o hd =>
  intro y h;cases h with
  | dptr _ _ blk' o' F=>exact .dptr _ _ _ _ (F.ext (jLj _) (fun _ _ _=>rfl) T)
 | ptr b ver sz i off k t hb hv ho hh =>
  intro y h;cases h with
  | ptr _ _ _ _ _ U _ g E m e =>
   obtain⟨u,v⟩:=q b k hb;rw[u] at g;cases g;exact .ptr b ver sz i off k y hb hv m fun A=>by obtain⟨r,K,L⟩:=e A;exact⟨r,by rw[<-v];exact K,L⟩
 | own b ver k t hb hv ho hh =>
  intro y h;cases h with
  | own _ _ U _ g E m e =>
   obtain⟨u,v⟩:=q b k hb;rw[u] at g;cases g;exact .own b ver k y hb hv m fun A=>by rw[<-v];exact e A
 | sub b ver sz lo n k t hb hv ho hh =>
  intro y h;cases h with
  | sub _ _ _ _ _ U _ g E m e =>
   obtain⟨u,v⟩:=q b k hb;rw[u] at g;cases g;exact .sub b ver sz lo n k y hb hv m fun A=>by obtain⟨r,c,K,L⟩:=e A;exact⟨r,c,by rw[<-v];exact K,L⟩
 | fn f a b xs ys hl hm hh hk ih ik =>
  intro y h;cases h with
  | fn _ _ _ N p l J e G =>
   refine .fn f a b N p l J (fun i c z hc s=>?_) (fun i c z hc s=>?_)
   ·have j:i<xs.length:=by rw[<-hl];exact(jGj hc).1
    exact ih i c xs[i] hc (by simp[j]) z (e i c z hc s)
   ·have j:i<ys.length:=by rw[<-hm];exact(jGj hc).1
    exact ik i c ys[i] hc (by simp[j]) z (G i c z hc s)
 | junk t=>intro y _;exact .junk y
theorem HSim.restrict {cx:Cx}{F:Nat->Prop}{H u : List (Nat×Blk)}{ρ ρ' : Nat->Value}{w w' : World}(h:HSim cx F H ρ w)(W : HSim cx F u ρ' w')(q:∀b k,look H b=some k->look u b=some k/\ρ' b=ρ b)
  (G:Ext w (Mut H ρ) w'):HSim cx F H ρ w'/\Steps1 H ρ w H ρ w':=by
 have E:∀r,Mut H ρ r->Mut u ρ' r:=by rintro r ⟨b,k,J,M,N⟩;obtain⟨L,o⟩:=q b k J;exact⟨b,k,L,M,by rw[o];exact N⟩
 have m:∀r,r<w'.heap.size->MM F H ρ r->MM F u ρ' r:=fun r _ M=>M.imp id (E r);refine⟨⟨fun b k J=>?_,h.inj,h.forb,fun r N=>Nat.lt_of_lt_of_le (h.bnd r N) G.size,fun g x hg=>?_⟩,⟨G,fun _ _ h=>h,Grows.refl _ _⟩⟩
 ·obtain⟨L,o⟩:=q b k J;have X:=h.blk b k J;have f:=W.blk b k L;cases k with
  | box x =>
   obtain⟨r,e,v,cs,n,z,A,C⟩:=f;obtain⟨_,_,v0,_,_,_,_,p4⟩:=X;exact⟨r,e,v,cs,by rw[<-o];exact n,z,A,VR.restrict q m p4 v C⟩
  | loop rdy tm ps as bd nt =>
   obtain⟨l,V,n,A,C,T,U,q7,q8,q9,S⟩:=f;obtain⟨_,_,_,_,_,_,_,_,_,_,O⟩:=X;exact⟨l,V,by rw[<-o];exact n,A,C,T,U,q7,q8,q9,fun t x G=>VR.restrict q m (O t x G) _ (S t x G)⟩
  | mp es =>
   obtain⟨r,K,c,n,z,A⟩:=f;exact⟨r,K,c,by rw[<-o];exact n,z,A.ext (jLj _) (fun _ _ _=>rfl) m⟩
  | it s p =>
   obtain⟨r,n,z⟩:=f;exact⟨r,by rw[<-o];exact n,z⟩
  | left e =>
   obtain⟨l,V,n,A,C⟩:=f;exact⟨l,V,by rw[<-o];exact n,A,C⟩
  | fbox x =>
   obtain⟨r,n,z⟩:=f;exact⟨r,by rw[<-o];exact n,z.ext (jLj _) (fun _ _ _=>rfl) m⟩
  | dead=>trivial
  | row ver sz es =>
   obtain⟨q0,Y,n⟩|⟨r,c,e,cap,n,z,A,C,T,U⟩:=f
   ·exact .inl ⟨q0,Y,by rw[<-o];exact n⟩
   refine .inr ⟨r,c,e,cap,by rw[<-o];exact n,z,A,C,T,fun i d j a hd Z=>?_⟩;obtain⟨y,y1,y2,y3⟩:=U i d j a hd Z;exact⟨y,y1,y2,y3.ext (jLj _) (fun _ _ _=>rfl) m⟩
  | frozen ver sz es =>
   simp only[BlkR] at f ⊢;rw[<-o];exact f.ext (jLj _) (fun _ _ _=>rfl) m
  | virt ver sz es =>
   simp only[BlkR] at f ⊢;rw[<-o];exact f.ext (jLj _) (fun _ _ _=>rfl) m
 ·exact(W.glob g x hg).ext (jLj _) (fun _ _ _=>rfl) m
theorem HSim.restrictE {cx:Cx}{F:Nat->Prop}{H q : List (Nat×Blk)}{ρ ρ' : Nat->Value}{w w' : World}{E:Nat->Prop}(h:HSim cx F H ρ w)(S : HSim cx F q ρ' w')(A:∀b k,look H b=some k->look q b=some k/\ρ' b=ρ b)
  (N:Ext w (Mut H ρ) w') (T:∀r,E r->Mut q ρ' r/\w.heap.size<=r):HSim cx (fun r=>F r\/E r) H ρ w':=by
 have L:∀r,Mut H ρ r->Mut q ρ' r:=by rintro r ⟨b,k,M,hm,u⟩;obtain⟨z,o⟩:=A b k M;exact⟨b,k,z,hm,by rw[o];exact u⟩
 have m:∀r,r<w'.heap.size->MM (fun r=>F r\/E r) H ρ r->MM F q ρ' r:=by
  rintro r _ ((z|z)|z)
  ·exact .inl z
  ·exact .inr (T r z).1
  ·exact .inr (L r z)
 refine⟨fun b k M=>?_,h.inj,fun r u K=>?_,fun r u=>?_,fun g x hg=>?_⟩
 ·obtain⟨z,o⟩:=A b k M;have Z:=h.blk b k M;have f:=S.blk b k z;cases k with
  | box x =>
   obtain⟨r,e,v,cs,n,C,G,J⟩:=f;obtain⟨_,_,v0,_,_,_,_,p4⟩:=Z;exact⟨r,e,v,cs,by rw[<-o];exact n,C,G,VR.restrict A m p4 v J⟩
  | loop rdy tm ps as bd nt =>
   obtain⟨l,Y,n,G,J,W,X,q7,q8,q9,V⟩:=f;obtain⟨_,_,_,_,_,_,_,_,_,_,U⟩:=Z;exact⟨l,Y,by rw[<-o];exact n,G,J,W,X,q7,q8,q9,fun t x N=>VR.restrict A m (U t x N) _ (V t x N)⟩
  | mp es =>
   obtain⟨r,O,c,n,C,G⟩:=f;exact⟨r,O,c,by rw[<-o];exact n,C,G.ext (jLj _) (fun _ _ _=>rfl) m⟩
  | it s p =>
   obtain⟨r,n,C⟩:=f;exact⟨r,by rw[<-o];exact n,C⟩
  | left e =>
   obtain⟨l,Y,n,G,J⟩:=f;exact⟨l,Y,by rw[<-o];exact n,G,J⟩
  | fbox x =>
   obtain⟨r,n,C⟩:=f;exact⟨r,by rw[<-o];exact n,C.ext (jLj _) (fun _ _ _=>rfl) m⟩
  | dead=>trivial
  | row ver sz es =>
   obtain⟨q0,a0,n⟩|⟨r,c,e,cap,n,C,G,J,W,X⟩:=f
   ·exact .inl ⟨q0,a0,by rw[<-o];exact n⟩
   refine .inr ⟨r,c,e,cap,by rw[<-o];exact n,C,G,J,W,fun i d j a hd ha=>?_⟩;obtain⟨y,y1,y2,y3⟩:=X i d j a hd ha;exact⟨y,y1,y2,y3.ext (jLj _) (fun _ _ _=>rfl) m⟩
  | frozen ver sz es =>
   simp only[BlkR] at f ⊢;rw[<-o];exact f.ext (jLj _) (fun _ _ _=>rfl) m
  | virt ver sz es =>
   simp only[BlkR] at f ⊢;rw[<-o];exact f.ext (jLj _) (fun _ _ _=>rfl) m
 ·obtain K|K:=K
  ·exact h.forb r u K
  ·have:=h.mut_lt u;have:=(T r K).2;omega
 ·obtain u|u:=u
  ·exact Nat.lt_of_lt_of_le (h.bnd r u) N.size
  ·exact S.mut_lt (T r u).1
 ·exact(S.glob g x hg).ext (jLj _) (fun _ _ _=>rfl) m
def RowV (w:World)(M:Nat->Prop)(v:Value)(sz:Nat)(es:jVj):Prop :=
 (es=[]/\∃a,v=.slice a 0 0)\/∃r c e cap,v=.slice (some ⟨r,0,none⟩) es.length cap/\(es.length<=cap/\0<cap)/\cap*sz<=c.size/\w.heap[r]?=some (.cells c e (0,0)) /\
   (∀(i:Nat) (d:D),es[i]?=some d->d.cells.length=sz) /\
   ∀(i:Nat) (d:D) (j:Nat) (a:D),es[i]?=some d->d.cells[j]?=some a->∃y,c[i*sz+j]?=some y/\one y=true/\DR w M a y
theorem RowV.sub {w:World}{M M' : Nat->Prop}{v:Value}{sz:Nat}{es:jVj}(h:RowV w M v sz es)(g:∀r,r<w.heap.size->M' r->M r):RowV w M' v sz es:=by
 obtain h|⟨r,c,e,cap,k,l,m,n,o,p⟩:=h
 ·exact .inl h
 ·refine .inr ⟨r,c,e,cap,k,l,m,n,o,fun i d j a f b=>?_⟩;obtain⟨y,q,s,t⟩:=p i d j a f b;exact⟨y,q,s,t.ext (jLj _) (fun _ _ _=>rfl) g⟩
def FreshV (w:World)(M:Nat->Prop)(v:Value):Blk->Prop
 | .row _ sz es=>RowV w M v sz es
 | .mp es=>∃r b c,v=.map (some r)/\w.heap[r]?=some (.map b c)/\MR w M es b.toList
 | _=>False
theorem FreshV.sub {w:World}{M M' : Nat->Prop}{v:Value}{k:Blk}(h:FreshV w M v k)(d:∀r,r<w.heap.size->M' r->M r):FreshV w M' v k:=by
 cases k with
 | row _ sz es=>exact RowV.sub h d
 | mp es =>
  obtain⟨r,b,c,e,f,g⟩:=h;exact⟨r,b,c,e,f,g.ext (jLj _) (fun _ _ _=>rfl) d⟩
 | _=>exact h.elim
theorem FreshV.blk {w:World}{M:Nat->Prop}{hp:List (Nat×Blk)}{ρ:Nat->Value}{b:Nat}{k:Blk}(h:FreshV w M (ρ b) k):BlkR w M hp ρ b k:=by
 cases k with
 | row _ sz es =>
  obtain⟨f,a,d⟩|⟨r,c,e,cap,d,g⟩:=h
  ·exact .inl ⟨f,a,d⟩
  ·exact .inr ⟨r,c,e,cap,d,g⟩
 | mp es=>exact h
 | _=>exact h.elim
theorem FreshV.stamp {w:World}{M:Nat->Prop}{v:Value}{k:Blk}(h:FreshV w M v k):FreshV w M v (stamp k):=by
 cases k with
 | row _ sz es=>exact h
 | mp es=>exact h
 | _=>exact h.elim
theorem kF {w:World}{M:Nat->Prop}{hp:List (Nat×Blk)}{ρ:Nat->Value}{b:Nat}{k:Blk}(c:qQ k=true)(h:BlkR w M hp ρ b k):FreshV w M (ρ b) k:=by
 cases k with
 | row _ sz es=>exact h
 | mp es=>exact h
 | _=>cases c
theorem JE {k:Blk}(b:qQ k=true):k.live=true:=by cases k<;>first|rfl|cases b
theorem HSim.name {cx:Cx}{F E:Nat->Prop}{hp:List (Nat×Blk)}{ρ:Nat->Value}{w:World}(h:HSim cx (fun r=>F r\/E r) hp ρ w){nm:Nat}{k0:Blk}{v:Value}(S:look hp nm=none)
  (C:∀r,Q9 v=some r->E r) (G:∀r,E r->¬F r) (u:FreshV w (MM (fun r=>F r\/E r) hp ρ) v k0) :
  HSim cx F ((nm,k0)::hp) (Vl ρ nm v) w:=by
 have m:∀q,Mut ((nm,k0)::hp) (Vl ρ nm v) q->Mut hp ρ q\/E q:=by
  rintro q ⟨n,z,j,O,y⟩;by_cases c:n=nm
  ·subst c;rw[QG] at y;exact .inr (C q y)
  ·rw[Qc _ _ (Ne.symm c)] at j;rw[QU _ _ c] at y;exact .inl ⟨n,z,j,O,y⟩
 have o:∀r,r<w.heap.size->MM F ((nm,k0)::hp) (Vl ρ nm v) r->MM (fun r=>F r\/E r) hp ρ r:=by
  rintro r _ (i|i)
  ·exact .inl (.inl i)
  ·obtain l|l:=m r i
   ·exact .inr l
   ·exact .inl (.inr l)
 have H:Grows hp ((nm,k0)::hp) ρ (Vl ρ nm v):=⟨fun b k j=>by
  have t:b≠nm:=fun e=>by rw[e,S] at j;cases j
  exact⟨k,by rw[Qc _ _ (Ne.symm t)];exact j,jLj _,fun _=>QU _ _ t⟩⟩
 refine⟨fun b k j=>?_,fun b A k z r i l L M p s=>?_,fun r J K=>?_,fun r J=>h.bnd r (.inl J),fun g x N=>(h.glob g x N).ext (jLj _) (fun _ _ _=>rfl) o⟩
 ·by_cases c:b=nm
  ·subst c;rw[Qd] at j;cases j;have:=u.sub o;exact FreshV.blk (by rw[QG];exact this)
  ·rw[Qc _ _ (Ne.symm c)] at j;exact(h.blk b k j).ext (jLj _) (fun _ _ _=>rfl) o H (QU _ _ c) (fun _ _ _=>rfl)
 ·by_cases d:b=nm<;>by_cases f:A=nm
  ·rw[d,f]
  ·subst d;rw[QG] at p;rw[Qc _ _ (Ne.symm f)] at l;rw[QU _ _ f] at s;exact absurd (.inr (C r p)) (h.forb r ⟨A,z,l,M,s⟩)
  ·subst f;rw[QG] at s;rw[Qc _ _ (Ne.symm d)] at i;rw[QU _ _ d] at p;exact absurd (.inr (C r s)) (h.forb r ⟨b,k,i,L,p⟩)
  ·rw[Qc _ _ (Ne.symm d)] at i;rw[QU _ _ d] at p;rw[Qc _ _ (Ne.symm f)] at l;rw[QU _ _ f] at s;exact h.inj b A k z r i l L M p s
 ·obtain i|i:=m r J
  ·exact h.forb r i (.inl K)
  ·exact G r i K
theorem Va:∀(cs:List OC) (i j:Nat),(JX i cs)[j]?=match cs[j]? with
  | none=>none
  | some (.dat x)=>some (.d x)
  | some (.row _ _)=>some (.own (i+j) 0)
 | [],i,j=>by simp[JX]
 | .dat x::l,i,0=>by simp[JX]
 | .row s e::l,i,0=>by simp[JX]
 | .dat x::l,i,j+1=>by simp only[JX,List.getElem?_cons_succ];rw[Va l (i+1) j,show i+1+j=i+(j+1) by omega]
 | .row s e::l,i,j+1=>by simp only[JX,List.getElem?_cons_succ];rw[Va l (i+1) j,show i+1+j=i+(j+1) by omega]
theorem UU:∀(cs:List OC) (i:Nat),(JX i cs).length=cs.length
 | [],_=>rfl
 | .dat x::l,i=>by simp[JX,UU l]
 | .row s e::l,i=>by simp[JX,UU l]
theorem Jz:∀(cs:List OC) (i n:Nat) (k:Blk),look (KQ i cs) n=some k↔∃j sz es,n=i+j/\cs[j]?=some (.row sz es)/\k=.row 0 sz es
 | [],i,n,k=>by simp[KQ,look]
 | .dat x::l,i,n,k=>by
  simp only[KQ];rw[Jz l (i+1) n k];constructor
  ·rintro⟨j,sz,es,c,a,b⟩;exact⟨j+1,sz,es,by omega,by simpa using a,b⟩
  ·rintro⟨j,sz,es,c,a,b⟩;cases j with
   | zero=>simp at a
   | succ j=>exact⟨j,sz,es,by omega,by simpa using a,b⟩
 | .row s e::l,i,n,k=>by
  simp only[KQ];by_cases d:i=n
  ·subst d;rw[Qd];constructor
   ·intro h;cases h;exact⟨0,s,e,by omega,by simp,rfl⟩
   ·rintro⟨j,sz,es,c,a,b⟩;have:j=0:=by omega
    subst this;simp only[jzj,jIj,OC.row.injEq] at a;rw[b,a.1,a.2]
  ·rw[Qc _ _ d,Jz l (i+1) n k];constructor
   ·rintro⟨j,sz,es,c,a,b⟩;exact⟨j+1,sz,es,by omega,by simpa using a,b⟩
   ·rintro⟨j,sz,es,c,a,b⟩;cases j with
    | zero=>omega
    | succ j=>exact⟨j,sz,es,by omega,by simpa using a,b⟩
theorem ZQ (cs:List OC):look (Zt cs) 0=some (.box (AV.norm (.agg (JX 1 cs)))):=Qd _ _ _
theorem UB {cs:List OC}{j sz:Nat}{es:jVj}(h:cs[j]?=some (.row sz es)):look (Zt cs) (j+1)=some (.row 0 sz es):=by rw[Zt,Qc _ _ (by omega)];exact(Jz cs 1 (j+1) _).2 ⟨j,sz,es,by omega,h,rfl⟩
theorem JA {cs:List OC}{n:Nat}{k:Blk}(h:look (Zt cs) n=some k):(n=0/\k=.box (AV.norm (.agg (JX 1 cs))))\/∃j sz es,n=j+1/\cs[j]?=some (.row sz es)/\k=.row 0 sz es:=by
 by_cases c:n=0
 ·subst c;rw[ZQ] at h;cases h;exact .inl ⟨rfl,rfl⟩
 ·right;rw[Zt,Qc _ _ (by omega)] at h;obtain⟨j,sz,es,d,a,b⟩:=(Jz cs 1 n k).1 h;exact⟨j,sz,es,by omega,a,b⟩
theorem EA {l:List AV}(h:W5 l=true):(AV.norm (.agg l)).cells.isSome=true:=by
 unfold AV.norm;split
 ·rename_i y c;simp only[AV.toD] at c;split at c;case h_2=>cases c
  rename_i e i;simp only[jIj] at c;subst c;have m:∀(l:List AV) (e:jVj),W5 l=true->Kk l=some e->W5 (e.map .d)=true:=by
   intro l;induction l with
   | nil=>intro e _ h;simp only[Kk,jIj] at h;subst h;rfl
   | cons x l ih =>
    intro e j h;simp only[Kk] at h;split at h;case h_2=>cases h
    rename_i y ys c k;simp only[jIj] at h;subst h;simp only[W5,jAj] at j;simp only[jCj,W5,jAj];refine⟨?_,ih ys j.2 k⟩;have g:=j.1;cases x with
    | d z=>simp only[AV.toD,jIj] at c;subst c;exact g
    | fn f a b =>
     simp only[AV.toD] at c;split at c
     ·simp only[jIj] at c;subst c;rfl
     ·cases c
    | agg _=>simp[AV.isOne] at g
    | tup _=>simp[AV.isOne] at g
    | junk=>simp[AV.isOne] at g
    | _=>simp[AV.toD] at c
  simp only[AV.cells,m l e h i];rfl
 ·simp only[AV.cells,h];rfl
structure Names (ns:List (Option (Nat×Nat))) (cs:List OC):Prop where
 row:∀(i sz:Nat) (es:jVj),cs[i]?=some (.row sz es)->∃p,ns[i]?=some (some p)
 dat:∀(i:Nat) (x:D),cs[i]?=some (.dat x)->ns[i]?=some none
 len:ns.length=cs.length
theorem Names.tail {p:Option (Nat×Nat)}{ns:List (Option (Nat×Nat))}{c:OC}{cs:List OC}(h:Names (p::ns) (c::cs)):Names ns cs :=
 ⟨fun i sz es hc=>by simpa using h.row (i+1) sz es (by simpa using hc),fun i x hc=>by simpa using h.dat (i+1) x (by simpa using hc),by simpa using h.len⟩
theorem Names.rowOf {ns:List (Option (Nat×Nat))}{cs:List OC}(h:Names ns cs){i:Nat}{p:Nat×Nat}(b:ns[i]?=some (some p)):∃sz es,cs[i]?=some (.row sz es):=by
 have a:i<cs.length:=by rw[<-h.len];exact(jGj b).1
 cases hc:cs[i] with
 | dat x=>have:=h.dat i x (by rw[jej a,hc]);rw[b] at this;cases this
 | row sz es=>exact⟨sz,es,by rw[jej a,hc]⟩
theorem GF:∀{ns:List (Option (Nat×Nat))} {cs:List OC},Names ns cs->∀(i:Nat) (x:D),cs[i]?=some (.dat x)->(ZC ns cs)[i]?=some (.d x)
 | _,[],_,i,x,h=>by simp at h
 | [],c::cs,hn,i,x,h=>by have:=hn.len;simp at this
 | p::ns,c::cs,hn,0,x,h=>by simp only[jzj,jIj] at h;subst h;have:=hn.dat 0 x rfl;simp only[jzj,jIj] at this;subst this;simp[ZC]
 | p::ns,c::cs,hn,i+1,x,h=>by
  have g:=GF hn.tail i x (by simpa using h);cases c with
  | dat y =>
   have:=hn.dat 0 y rfl;simp only[jzj,jIj] at this;subst this;simpa[ZC] using g
  | row s e =>
   obtain⟨⟨a,b⟩,f⟩:=hn.row 0 s e rfl;simp only[jzj,jIj] at f;subst f;simpa[ZC] using g
theorem GD:∀{ns:List (Option (Nat×Nat))} {cs:List OC},Names ns cs->∀(i n v:Nat),ns[i]?=some (some (n,v))->(ZC ns cs)[i]?=some (.own n v)
 | _,[],hn,i,n,v,h=>by have d:=hn.len;simp only[List.length_nil,List.length_eq_zero_iff] at d;subst d;simp at h
 | [],c::cs,hn,i,n,v,h=>by simp at h
 | p::ns,c::cs,hn,0,n,v,h=>by simp only[jzj,jIj] at h;subst h;obtain⟨sz,es,hc⟩:=hn.rowOf (i:=0) rfl;simp only[jzj,jIj] at hc;subst hc;simp[ZC]
 | p::ns,c::cs,hn,i+1,n,v,h=>by
  have g:=GD hn.tail i n v (by simpa using h);cases c with
  | dat y =>
   have:=hn.dat 0 y rfl;simp only[jzj,jIj] at this;subst this;simpa[ZC] using g
  | row s e =>
   obtain⟨⟨a,b⟩,f⟩:=hn.row 0 s e rfl;simp only[jzj,jIj] at f;subst f;simpa[ZC] using g
theorem GE:∀{ns:List (Option (Nat×Nat))} {cs:List OC},Names ns cs->(ZC ns cs).length=cs.length
 | [],[],hn=>rfl
 | p::ns,[],hn=>by have:=hn.len;simp at this
 | [],c::cs,hn=>by have:=hn.len;simp at this
 | p::ns,c::cs,hn=>by
  have f:=GE hn.tail;cases c with
  | dat y =>
   have:=hn.dat 0 y rfl;simp only[jzj,jIj] at this;subst this;simp[ZC,f]
  | row s e =>
   obtain⟨⟨a,b⟩,d⟩:=hn.row 0 s e rfl;simp only[jzj,jIj] at d;subst d;simp[ZC,f]
theorem Ko {n:Nat}:∀{ns:List (Option (Nat×Nat))},UM n ns=true->∀(i v:Nat),ns[i]?≠some (some (n,v))
 | [],_,i,v=>by simp
 | none::l,h,0,v=>by simp
 | none::l,h,i+1,v=>by simpa using Ko (ns:=l) h i v
 | some (m,u)::l,h,0,v=>by simp only[UM,jAj] at h;intro a;simp only[jzj,jIj,jPj] at a;rw[a.1] at h;simp at h
 | some (m,u)::l,h,i+1,v=>by simp only[UM,jAj] at h;simpa using Ko (ns:=l) h.2 i v
theorem KV (ks:List Bool):Wi ks []=[]:=by cases ks with
 | nil=>rfl
 | cons k _=>cases k<;>rfl
theorem UE (k:Bool)(ks:List Bool)(p:Option (Nat×Nat))(ns:List (Option (Nat×Nat))) :
  (Wi (k::ks) (p::ns)=p::Wi ks ns)\/(k=true/\∃a b,p=some (a,b+1)/\Wi (k::ks) (p::ns)=some (a,b)::Wi ks ns):=by
 cases k with
 | false=>exact .inl (by cases p<;>rfl)
 | true =>
  cases p with
  | none=>exact .inl rfl
  | some p =>
   obtain⟨a,b⟩:=p;cases b with
   | zero=>exact .inl rfl
   | succ b=>exact .inr ⟨rfl,a,b,rfl,rfl⟩
theorem KW:∀(ks:List Bool) (ns:List (Option (Nat×Nat))) (i n v:Nat),(Wi ks ns)[i]?=some (some (n,v))->ns[i]?=some (some (n,v))\/(ks[i]?=some true/\ns[i]?=some (some (n,v+1)))
 | [],ns,i,n,v,h=>by cases ns<;>exact .inl h
 | _::_,[],i,n,v,h=>by rw[KV] at h;simp at h
 | k::ks,p::ns,i,n,v,h=>by
  obtain c|⟨rfl,a,b,rfl,c⟩:=UE k ks p ns
  ·rw[c] at h;cases i with
   | zero=>exact .inl h
   | succ i=>simpa using KW ks ns i n v (by simpa using h)
  ·rw[c] at h;cases i with
   | zero =>
    simp only[jzj,jIj,jPj] at h;obtain⟨rfl,rfl⟩:=h;exact .inr ⟨rfl,rfl⟩
   | succ i=>simpa using KW ks ns i n v (by simpa using h)
theorem wP:∀(ks:List Bool) (ns:List (Option (Nat×Nat))),(Wi ks ns).length=ns.length
 | [],ns=>by cases ns<;>rfl
 | _::_,[]=>by rw[KV]
 | k::ks,p::ns=>by obtain c|⟨_,a,b,rfl,c⟩:=UE k ks p ns<;>rw[c]<;>simp[wP ks ns]
theorem zE:∀(ks:List Bool) (ns:List (Option (Nat×Nat))) (i:Nat),ns[i]?=some none->(Wi ks ns)[i]?=some none
 | [],ns,i,h=>by cases ns<;>exact h
 | _::_,[],i,h=>by simp at h
 | k::ks,p::ns,i,h=>by
  obtain c|⟨_,a,b,rfl,c⟩:=UE k ks p ns<;>rw[c]<;>cases i with
  | zero=>first|exact h|simp at h
  | succ i=>simpa using zE ks ns i (by simpa using h)
theorem JD:∀(ks:List Bool) (ns:List (Option (Nat×Nat))) (i n v:Nat),ns[i]?=some (some (n,v))->∃u,(Wi ks ns)[i]?=some (some (n,u))
 | [],ns,i,n,v,h=>⟨v,by cases ns<;>exact h⟩
 | _::_,[],i,n,v,h=>by simp at h
 | k::ks,p::ns,i,n,v,h=>by
  obtain c|⟨_,a,b,rfl,c⟩:=UE k ks p ns<;>rw[c]<;>cases i with
  | zero =>
   simp only[jzj,jIj,jPj] at h ⊢;first|exact⟨v,h⟩|exact⟨b,h.1,rfl⟩|skip
  | succ i=>simpa using JD ks ns i n v (by simpa using h)
theorem Kn (n:Nat):∀(ks:List Bool) (ns:List (Option (Nat×Nat))),UM n (Wi ks ns)=UM n ns
 | [],ns=>by cases ns<;>rfl
 | _::_,[]=>by rw[KV]
 | k::ks,p::ns=>by
  obtain c|⟨_,a,b,rfl,c⟩:=UE k ks p ns<;>rw[c]
  ·cases p<;>simp only[UM,Kn n ks ns]
  ·simp only[UM,Kn n ks ns]
theorem KD (bn:Nat)(fz:List Nat):∀(ks:List Bool) (ns:List (Option (Nat×Nat))),Xj bn fz (Wi ks ns)=Xj bn fz ns
 | [],ns=>by cases ns<;>rfl
 | _::_,[]=>by rw[KV]
 | k::ks,p::ns=>by
  obtain c|⟨_,a,b,rfl,c⟩:=UE k ks p ns<;>rw[c]
  ·cases p<;>simp only[Xj,KD bn fz ks ns,Kn]
  ·simp only[Xj,KD bn fz ks ns,Kn]
theorem GK {H:List (Nat×Blk)}:∀(j:Nat) (ks:List Bool) (ns:List (Option (Nat×Nat))),JZ H j ks ns=true->∀t:Nat,ks[t]?=some true->ns[t]?=some none\/(ns[t]?=some (some (j+t,1))/\∃k,look H (j+t)=some k)
 | j,true::ks,some (n,v)::ns,h,t,ht=>by
  simp only[JZ,jAj] at h;obtain⟨⟨⟨a,b⟩,c⟩,d⟩:=h;have a:=jqj a;have b:=jqj b;subst a;subst b;cases t with
  | zero=>exact .inr ⟨rfl,Option.isSome_iff_exists.1 c⟩
  | succ t =>
   have:=GK (n+1) ks ns d t (by simpa using ht);rw[show n+1+t=n+(t+1) by omega] at this;simpa using this
 | j,true::ks,none::ns,h,t,ht=>by
  cases t with
  | zero=>exact .inl rfl
  | succ t =>
   have:=GK (j+1) ks ns (by simpa only[JZ] using h) t (by simpa using ht);rw[show j+1+t=j+(t+1) by omega] at this;simpa using this
 | j,true::ks,[],h,t,ht=>by simp[JZ] at h
 | j,false::ks,p::ns,h,t,ht=>by
  cases t with
  | zero=>simp at ht
  | succ t =>
   have:=GK (j+1) ks ns (by simpa only[JZ] using h) t (by simpa using ht);rw[show j+1+t=j+(t+1) by omega] at this;simpa using this
 | j,false::ks,[],h,t,ht=>by simp[JZ] at h
 | j,[],ns,h,t,ht=>by simp at ht
theorem Gc {bn:Nat}{fz:List Nat}:∀{ns:List (Option (Nat×Nat))},Xj bn fz ns=true->¬bn∈fz
 | [],h=>by simpa[Xj] using h
 | none::l,h=>Gc (ns:=l) h
 | some _::l,h=>by simp only[Xj,jAj] at h;exact Gc (ns:=l) h.2
theorem Vv {bn:Nat}{fz:List Nat}:∀{ns:List (Option (Nat×Nat))},Xj bn fz ns=true->∀(i n v:Nat),ns[i]?=some (some (n,v)) ->
  n≠bn/\¬n∈fz/\∀(j u:Nat),ns[j]?=some (some (n,u))->j=i
 | [],_,i,n,v,hi=>by simp at hi
 | none::l,h,0,n,v,hi=>by simp at hi
 | none::l,h,i+1,n,v,hi=>by
  obtain⟨b,d,c⟩:=Vv (ns:=l) h i n v (by simpa using hi);refine⟨b,d,fun j u a=>?_⟩;cases j with
  | zero=>simp at a
  | succ j=>rw[c j u (by simpa using a)]
 | some (m,u)::l,h,0,n,v,hi=>by
  simp only[jzj,jIj,jPj] at hi;obtain⟨rfl,rfl⟩:=hi;simp only[Xj,jAj] at h;obtain⟨⟨⟨b,d⟩,c⟩,f⟩:=h;refine⟨fun e=>by subst e;simp at d,fun g=>by simp at c;exact c g,fun j u a=>?_⟩;cases j with
  | zero=>rfl
  | succ j=>exact absurd (by simpa using a) (Ko b j u)
 | some (m,u)::l,h,i+1,n,v,hi=>by
  simp only[Xj,jAj] at h;obtain⟨⟨⟨b,d⟩,c⟩,f⟩:=h;obtain⟨k,o,p⟩:=Vv (ns:=l) f i n v (by simpa using hi);refine⟨k,o,fun j u a=>?_⟩;cases j with
  | zero =>
   simp only[jzj,jIj,jPj] at a;rw[<-a.1] at hi;exact absurd (by simpa using hi) (Ko b i v)
  | succ j=>rw[p j u (by simpa using a)]
def zS (n:Nat):List (Option (Nat×Nat))->Nat->Option Nat
 | [],_=>none
 | none::l,k=>zS n l (k+1)
 | some p::l,k=>if p.1=n then some k else zS n l (k+1)
theorem Gf {n:Nat}:∀{ns:List (Option (Nat×Nat))} {k j:Nat},zS n ns k=some j->∃(i v:Nat),j=k+i/\ns[i]?=some (some (n,v))
 | [],k,j,h=>by simp[zS] at h
 | none::l,k,j,h=>by obtain⟨i,v,d,c⟩:=Gf (ns:=l) (k:=k+1) h;exact⟨i+1,v,by omega,by simpa using c⟩
 | some p::l,k,j,h=>by
  simp only[zS] at h;split at h
  ·rename_i hp;simp only[jIj] at h;obtain⟨a,b⟩:=p;simp only at hp;subst hp;exact⟨0,b,by omega,rfl⟩
  ·obtain⟨i,v,d,c⟩:=Gf (ns:=l) (k:=k+1) h;exact⟨i+1,v,by omega,by simpa using c⟩
theorem qP {n:Nat}:∀{ns:List (Option (Nat×Nat))} {k:Nat},zS n ns k=none->∀(i v:Nat),ns[i]?≠some (some (n,v))
 | [],k,h,i,v=>by simp
 | none::l,k,h,0,v=>by simp
 | none::l,k,h,i+1,v=>by simpa using qP (ns:=l) (k:=k+1) h i v
 | some p::l,k,h,i,v=>by
  simp only[zS] at h;split at h
  ·cases h
  ·rename_i hp;cases i with
   | zero =>
    intro a;simp only[jzj,jIj] at a;exact hp (by rw[a])
   | succ i=>simpa using qP (ns:=l) (k:=k+1) h i v
theorem Yl {n:Nat}{k:Blk}:∀{ns:List (Option (Nat×Nat))} {cs:List OC},look (WY ns cs) n=some k->∃(i v sz:Nat) (es:jVj),ns[i]?=some (some (n,v))/\cs[i]?=some (.row sz es)/\k=.row v sz es
 | [],cs,h=>by simp[WY,look] at h
 | p::ns,[],h=>by cases p<;>simp[WY,look] at h
 | none::ns,c::cs,h=>by obtain⟨i,v,sz,es,a,b,d⟩:=Yl (ns:=ns) (cs:=cs) (by cases c<;>simpa[WY] using h);exact⟨i+1,v,sz,es,by simpa using a,by simpa using b,d⟩
 | some (m,u)::ns,.dat x::cs,h=>by obtain⟨i,v,sz,es,a,b,d⟩:=Yl (ns:=ns) (cs:=cs) (by simpa[WY] using h);exact⟨i+1,v,sz,es,by simpa using a,by simpa using b,d⟩
 | some (m,u)::ns,.row s e::cs,h=>by
  simp only[WY] at h;by_cases f:m=n
  ·subst f;rw[Qd] at h;cases h;exact⟨0,u,s,e,rfl,rfl,rfl⟩
  ·rw[Qc _ _ f] at h;obtain⟨i,v,sz,es,a,b,d⟩:=Yl (ns:=ns) (cs:=cs) h;exact⟨i+1,v,sz,es,by simpa using a,by simpa using b,d⟩
theorem Km {n:Nat}:∀{ns:List (Option (Nat×Nat))} {cs:List OC},look (WY ns cs) n=none->∀(i v sz:Nat) (es:jVj),ns[i]?=some (some (n,v))->cs[i]?≠some (.row sz es)
 | [],cs,h,i,v,sz,es,hi=>by simp at hi
 | p::ns,[],h,i,v,sz,es,hi=>by simp
 | none::ns,c::cs,h,0,v,sz,es,hi=>by simp at hi
 | none::ns,c::cs,h,i+1,v,sz,es,hi=>by simpa using Km (ns:=ns) (cs:=cs) (by cases c<;>simpa[WY] using h) i v sz es (by simpa using hi)
 | some (m,u)::ns,.dat x::cs,h,0,v,sz,es,hi=>by simp
 | some (m,u)::ns,.dat x::cs,h,i+1,v,sz,es,hi=>by simpa using Km (ns:=ns) (cs:=cs) (by simpa[WY] using h) i v sz es (by simpa using hi)
 | some (m,u)::ns,.row s e::cs,h,i,v,sz,es,hi=>by
  simp only[WY] at h;by_cases a:m=n
  ·subst a;rw[Qd] at h;cases h
  ·rw[Qc _ _ a] at h;cases i with
   | zero =>
    simp only[jzj,jIj,jPj] at hi;exact absurd hi.1 a
   | succ i=>simpa using Km (ns:=ns) (cs:=cs) h i v sz es (by simpa using hi)
def Ke (ns:List (Option (Nat×Nat)))(bn:Nat)(ρ ρ' : Nat->Value)(n:Nat):Value:=match zS n ns 1 with
 | some j=>ρ' j
 | none=>if n=bn then ρ' 0 else ρ n
def Yu (ns:List (Option (Nat×Nat)))(bn:Nat)(cs:List OC)(H:List (Nat×Blk)):List (Nat×Blk):=(bn,.box (AV.norm (.agg (ZC ns cs))))::(WY ns cs++H)
theorem glue {cx:Cx}{F:Nat->Prop}{H:List (Nat×Blk)}{ρ:Nat->Value}{w:World}(g1:HSim cx F H ρ w){hin:List (Nat×Blk)}{ρc:Nat->Value}(c4:∀r,Mut hin ρc r->Mut H ρ r)
  {cs:List OC} {ns:List (Option (Nat×Nat))} {bn:Nat} {fz:List Nat} (A:Names ns cs) (a8:Xj bn fz ns=true)
  (V:∀n k r,look H n=some k->k.live=true->Q9 (ρ n)=some r->Mut hin ρc r->n=bn\/∃(i v:Nat),ns[i]?=some (some (n,v)))
  {w' : World} {ρ' : Nat->Value} (c8:∀(i n v:Nat) (k:Blk),ns[i]?=some (some (n,v))->look H n=some k->k.ver<=v/\(k.ver=v->ρ' (i+1)=ρ n)) (d4:∀k,look H bn=some k->k.ver=0/\ρ' 0=ρ bn)
  (q1:HSim cx (fun r=>F r\/(Mut H ρ r/\¬Mut hin ρc r)) (Zt cs) ρ' w') (q2:Ext w (Mut hin ρc) w') (q3:∀q,q<w.heap.size->Mut (Zt cs) ρ' q->Mut hin ρc q) :
  HSim cx F (Yu ns bn cs H) (Ke ns bn ρ ρ') w'/\Steps1 H ρ w (Yu ns bn cs H) (Ke ns bn ρ ρ') w' /\
   (∀r,MM F (Yu ns bn cs H) (Ke ns bn ρ ρ') r->MM (fun r=>F r\/(Mut H ρ r/\¬Mut hin ρc r)) (Zt cs) ρ' r) /\
   look (Yu ns bn cs H) bn=some (.box (AV.norm (.agg (ZC ns cs))))/\Ke ns bn ρ ρ' bn=ρ' 0:=by
 have c5:∀{i n v:Nat},ns[i]?=some (some (n,v))->n≠bn:=fun h=>(Vv a8 _ _ _ h).1;have d3:zS bn ns 1=none:=by
  cases C:zS bn ns 1 with
  | none=>rfl
  | some j =>
   obtain⟨i,v,_,o⟩:=Gf C;exact absurd rfl (c5 o)
 have Q:Ke ns bn ρ ρ' bn=ρ' 0:=by simp only[Ke,d3,if_true]
 have S:∀{i n v:Nat},ns[i]?=some (some (n,v))->Ke ns bn ρ ρ' n=ρ' (i+1):=by
  intro i n v h;unfold Ke;cases C:zS n ns 1 with
  | none=>exact absurd h (qP C i v)
  | some j =>
   obtain⟨i',v',f,o⟩:=Gf C;have:=(Vv a8 _ _ _ h).2.2 i' v' o;subst this;simp only[f,Nat.add_comm]
 have a9:∀{n},n≠bn->(∀(i v:Nat),ns[i]?≠some (some (n,v)))->Ke ns bn ρ ρ' n=ρ n:=by
  intro n f o;unfold Ke;cases C:zS n ns 1 with
  | none=>simp only[jFj f]
  | some j =>
   obtain⟨i',v',_,h⟩:=Gf C;exact absurd h (o i' v')
 have a0:look (Yu ns bn cs H) bn=some (.box (AV.norm (.agg (ZC ns cs)))):=Qd _ _ _;have a7:∀{i n v sz:Nat} {es:jVj},ns[i]?=some (some (n,v))->cs[i]?=some (.row sz es)->look (Yu ns bn cs H) n=some (.row v sz es):=by
  intro i n v sz es f o;rw[Yu,Qc _ _ (Ne.symm (c5 f)),Wl];cases J:look (WY ns cs) n with
  | none=>exact absurd o (Km J i v sz es f)
  | some k =>
   obtain⟨i',v',e0,d1,k1,k2,rfl⟩:=Yl J;have:=(Vv a8 _ _ _ f).2.2 i' v' k1;subst this;rw[f] at k1;cases k1;rw[o] at k2;cases k2;rfl
 have c0:∀{n},n≠bn->(∀(i v:Nat),ns[i]?≠some (some (n,v)))->look (Yu ns bn cs H) n=look H n:=by
  intro n f o;rw[Yu,Qc _ _ (Ne.symm f),Wl];cases J:look (WY ns cs) n with
  | none=>rfl
  | some k =>
   obtain⟨i',v',e0,d1,k1,k2,rfl⟩:=Yl J;exact absurd k1 (o i' v')
 -- the three Uf of names
 have N:∀{n k},look (Yu ns bn cs H) n=some k->(n=bn/\k=.box (AV.norm (.agg (ZC ns cs))))\/(∃(i v sz:Nat) (es:jVj),ns[i]?=some (some (n,v))/\cs[i]?=some (.row sz es)/\k=.row v sz es) \/
   (n≠bn/\(∀(i v:Nat),ns[i]?≠some (some (n,v)))/\look H n=some k):=by
  intro n k h;by_cases f:n=bn
  ·subst f;rw[a0] at h;cases h;exact .inl ⟨rfl,rfl⟩
  ·by_cases o:∃(i v:Nat),ns[i]?=some (some (n,v))
   ·obtain⟨i,v,C⟩:=o;obtain⟨sz,es,hc⟩:=A.rowOf C;rw[a7 C hc] at h;cases h;exact .inr (.inl ⟨i,v,sz,es,C,hc,rfl⟩)
   ·have t:∀(i v:Nat),ns[i]?≠some (some (n,v)):=fun i v Z=>o ⟨i,v,Z⟩;rw[c0 f t] at h;exact .inr (.inr ⟨f,t,h⟩)
 -- roots
 have s:∀{n k r},look (Yu ns bn cs H) n=some k->k.live=true->Q9 (Ke ns bn ρ ρ' n)=some r ->
   (∃m,(∃k',look (Zt cs) m=some k'/\k'.live=true)/\Q9 (ρ' m)=some r/\Mut (Zt cs) ρ' r/\((n=bn/\m=0)\/∃(i v:Nat),ns[i]?=some (some (n,v))/\m=i+1)) \/
   (n≠bn/\(∀(i v:Nat),ns[i]?≠some (some (n,v)))/\look H n=some k/\Q9 (ρ n)=some r/\Mut H ρ r/\¬Mut hin ρc r):=by
  intro n k r h J E;obtain⟨rfl,rfl⟩|⟨i,v,sz,es,f,o,rfl⟩|⟨f,o,t⟩:=N h
  ·rw[Q] at E;exact .inl ⟨0,⟨_,ZQ cs,rfl⟩,E,⟨0,_,ZQ cs,rfl,E⟩,.inl ⟨rfl,rfl⟩⟩
  ·rw[S f] at E;exact .inl ⟨i+1,⟨_,UB o,rfl⟩,E,⟨i+1,_,UB o,rfl,E⟩,.inr ⟨i,v,f,rfl⟩⟩
  ·rw[a9 f o] at E;refine .inr ⟨f,o,t,E,⟨n,k,t,J,E⟩,fun G=>?_⟩;obtain K|⟨i,v,K⟩:=V n k r t J E G
   ·exact f K
   ·exact o i v K
 have X:∀r,MM F (Yu ns bn cs H) (Ke ns bn ρ ρ') r->MM (fun r=>F r\/(Mut H ρ r/\¬Mut hin ρc r)) (Zt cs) ρ' r:=by
  rintro r (hf|⟨n,k,f,o,t⟩)
  ·exact .inl (.inl hf)
  ·obtain⟨m,_,_,G,_⟩|⟨_,_,_,_,K,h5⟩:=s f o t
   ·exact .inr G
   ·exact .inl (.inr ⟨K,h5⟩)
 have c7:Steps1 H ρ w (Yu ns bn cs H) (Ke ns bn ρ ρ') w':=by
  refine⟨q2.mono c4,fun r E G=>?_,⟨fun n k hn=>?_⟩⟩
  ·obtain⟨n,k,f,o,t⟩:=G;obtain⟨m,_,_,G,_⟩|⟨_,_,_,_,K,_⟩:=s f o t
   ·exact c4 r (q3 r E G)
   ·exact K
  ·by_cases f:n=bn
   ·subst f;obtain⟨hv,hp⟩:=d4 k hn;exact⟨_,a0,by rw[hv];exact Nat.zero_le _,fun _=>by rw[Q];exact hp⟩
   ·by_cases o:∃(i v:Nat),ns[i]?=some (some (n,v))
    ·obtain⟨i,v,C⟩:=o;obtain⟨sz,es,hc⟩:=A.rowOf C;have:=c8 i n v k C hn;exact⟨_,a7 C hc,this.1,fun he=>by rw[S C];exact this.2 he⟩
    ·have t:∀(i v:Nat),ns[i]?≠some (some (n,v)):=fun i v Z=>o ⟨i,v,Z⟩;exact⟨k,by rw[c0 f t];exact hn,jLj _,fun _=>a9 f t⟩
 refine⟨g1.step c7 (fun n k hk=>?_) (fun n n' k k' r f o m1 m2 r1 r2=>?_) (fun r E hf=>?_),c7,X,a0,Q⟩
 ·obtain⟨rfl,rfl⟩|⟨i,v,sz,es,f,o,rfl⟩|⟨f,o,t⟩:=N hk
  ·right;obtain⟨r,e,v,c9,p1,p2,W,p4⟩:=q1.blk 0 _ (ZQ cs);obtain⟨c1,c2,c3⟩:=VM W p4;-- the cells,by the names that they have here
   have hv:∃ys:List Value,v=.agg ys.toArray/\ys.length=cs.length/\∀(i:Nat) (c:AV) (y:Value),(JX 1 cs)[i]?=some c->ys[i]?=some y->VR w' (MM (fun r=>F r\/(Mut H ρ r/\¬Mut hin ρc r)) (Zt cs) ρ') (Zt cs) ρ' c y:=by
    unfold AV.norm at p4;split at p4
    ·rename_i y p;simp only[AV.toD] at p;split at p;case h_2=>cases p
     rename_i M Y;simp only[jIj] at p;subst p;cases p4 with
     | d _ _ hd =>
      cases hd with
      | agg _ ys J Z =>
       have b7:∀(l:List AV) (M:jVj),Kk l=some M->(∀(i:Nat) (c:AV),l[i]?=some c->(∃x,c=.d x)\/∃b u,c=.own b u)->l=M.map .d:=by
        intro l;induction l with
        | nil=>intro M h _;simp only[Kk,jIj] at h;subst h;rfl
        | cons x l ih =>
         intro M h hk;simp only[Kk] at h;split at h;case h_2=>cases h
         rename_i y ys p L;simp only[jIj] at h;subst h;obtain⟨z,rfl⟩|⟨b,u,rfl⟩:=hk 0 x rfl
         ·simp only[AV.toD,jIj] at p;subst p;rw[jCj,<-ih ys L fun i c hc=>hk (i+1) c (by simpa using hc)]
         ·simp[AV.toD] at p
       have T:=b7 _ _ Y fun i c hc=>by
        rw[Va] at hc;split at hc
        ·cases hc
        ·cases hc;exact .inl ⟨_,rfl⟩
        ·cases hc;exact .inr ⟨_,_,rfl⟩
       refine⟨ys,rfl,by rw[<-J,<-UU cs 1,T,jlj],fun i c y hc p=>?_⟩;rw[T,List.getElem?_map,Option.map_eq_some_iff] at hc;obtain⟨d,hd,rfl⟩:=hc;exact .d _ _ (Z i d y hd p)
    ·cases p4 with
     | agg _ ys J Z=>exact⟨ys,rfl,by rw[<-J,UU],Z⟩
   obtain⟨ys,rfl,U,L⟩:=hv;have d9:VR w' (MM F (Yu ns n cs H) (Ke ns n ρ ρ')) (Yu ns n cs H) (Ke ns n ρ ρ') (.agg (ZC ns cs)) (.agg ys.toArray):=by
    refine .agg _ ys (by rw[GE A,U]) fun i c y hc p=>?_;have O:i<cs.length:=by rw[<-U];exact(jGj p).1
    cases hci:cs[i] with
    | dat x =>
     have g : cs[i]?=some (.dat x):=by rw[jej O,hci]
     rw[GF A i x g] at hc;cases hc;have:=L i (.d x) y (by rw[Va,g]) p;cases this with
     | d _ _ hd=>exact .d _ _ (hd.ext (jLj _) (fun _ _ _=>rfl) fun r _ G=>X r G)
    | row sz es =>
     have g : cs[i]?=some (.row sz es):=by rw[jej O,hci]
     obtain⟨⟨m,u⟩,hp⟩:=A.row i sz es g;rw[GD A i m u hp] at hc;cases hc;have:=L i (.own (1+i) 0) y (by rw[Va,g]) p;cases this with
     | own _ _ k0 _ P e1 d8 d7 =>
      rw[Nat.add_comm,UB g] at P;cases P;exact .own m u _ _ (a7 hp g) (jLj _) d8 fun _=>by rw[S hp,<-Nat.add_comm 1 i];exact d7 rfl
   have c6:W5 (ZC ns cs)=true:=by
    have:∀(l:List AV),(∀(i:Nat) (c:AV),l[i]?=some c->c.isOne=true)->W5 l=true:=by
     intro l;induction l with
     | nil=>intro _;rfl
     | cons x l ih=>intro h;simp only[W5,jAj];exact⟨h 0 x rfl,ih fun i c hc=>h (i+1) c (by simpa using hc)⟩
    refine this _ fun i c hc=>?_;have O:i<cs.length:=by rw[<-GE A];exact(jGj hc).1
    cases hci:cs[i] with
    | dat x =>
     have g : cs[i]?=some (.dat x):=by rw[jej O,hci]
     rw[GF A i x g] at hc;cases hc;-- it is one cell of the object
     have b9:(JX 1 cs)[i]?=some (.d x):=by rw[Va,g]
     have h0:W5 c9=true:=c2;unfold AV.norm at W;split at W
     ·rename_i y p;simp only[AV.toD] at p;split at p;case h_2=>cases p
      rename_i M Y;simp only[jIj] at p;subst p;have d5:=UN W;have d6:M[i]?=some x:=by
       have b7:∀(l:List AV) (M:jVj) (i:Nat),Kk l=some M->l[i]?=some (.d x)->M[i]?=some x:=by
        intro l;induction l with
        | nil=>intro M i _ h;simp at h
        | cons z l ih =>
         intro M i h C;simp only[Kk] at h;split at h;case h_2=>cases h
         rename_i y ys p L;simp only[jIj] at h;subst h;cases i with
         | zero=>simp only[jzj,jIj] at C ⊢;subst C;simp only[AV.toD,jIj] at p;exact p.symm
         | succ i=>simpa using ih ys i L (by simpa using C)
       exact b7 _ _ i Y b9
      refine VF h0 (j:=i) ?_;rw[d5];simp only[SX.D.cells,List.getElem?_map,d6,Option.map_some]
     ·simp only[AV.cells] at W;split at W
      ·cases W;exact VF h0 b9
      ·cases W
    | row sz es =>
     have g : cs[i]?=some (.row sz es):=by rw[jej O,hci]
     obtain⟨⟨m,u⟩,hp⟩:=A.row i sz es g;rw[GD A i m u hp] at hc;cases hc;rfl
   obtain⟨d0,b8⟩:=Option.isSome_iff_exists.1 (EA c6);exact⟨r,e,.agg ys.toArray,d0,by rw[Q];exact p1,p2,b8,Yn d9⟩
  ·right;have h0:RowV w' _ (ρ' (i+1)) sz es:=q1.blk (i+1) _ (UB o);have t:RowV w' (MM F (Yu ns bn cs H) (Ke ns bn ρ ρ')) (ρ' (i+1)) sz es:=h0.sub fun r _ G=>X r G;rw[<-S f] at t;exact t
  ·refine .inl ⟨t,a9 f o,fun J r E=>?_⟩;refine q2.same r ((g1.blk n k t).root_lt J E) fun G=>?_;obtain K|⟨i,v,K⟩:=V n k r t J E G
   ·exact f K
   ·exact o i v K
 ·obtain⟨a,⟨ka,a1,a2⟩,a3,a4,a5⟩|⟨a1,a2,a3,a4,a5,a6⟩:=s f m1 r1<;>obtain⟨b,⟨kb,b1,b2⟩,b3,b4,b5⟩|⟨b1,b2,b3,b4,b5,b6⟩:=s o m2 r2
  ·have d2:=q1.inj a b ka kb r a1 b1 a2 b2 a3 b3;subst d2;obtain⟨rfl,rfl⟩|⟨i,v,C,rfl⟩:=a5<;>obtain⟨rfl,P⟩|⟨j,u,hj,P⟩:=b5
   ·rfl
   ·omega
   ·omega
   ·have:i=j:=by omega
    subst this;rw[C] at hj;cases hj;rfl
  ·exact absurd (q3 r (g1.mut_lt b5) a4) b6
  ·exact absurd (q3 r (g1.mut_lt a5) b4) a6
  ·exact g1.inj n n' k k' r a3 b3 m1 m2 a4 b4
 ·obtain⟨n,k,f,o,t⟩:=E
  obtain⟨m,_,_,G,_⟩|⟨_,_,_,_,K,_⟩:=s f o t
  ·exact q1.forb r G (.inl hf)
  ·exact g1.forb r K hf
section
variable {cx:Cx}{F:Nat->Prop}{hp:List (Nat×Blk)}{ρ:Nat->Value}{w:World}{a:Act}{sym:Bool}{orc:List Orc}
theorem QbT {M:Nat->Prop}{x:AV}{v:Value}(h:VR w M hp ρ x v):VR w M hp ρ (QcK x) v:=by
 cases x with
 | d y =>
  cases y with
  | ref y o =>
   cases h with
   | d _ _ c =>
    obtain⟨blk,o',rfl,b⟩:=c.ref_dat;exact .dptr y o blk o' b
  | _=>exact h
 | _=>exact h
theorem qT (h:HSim cx F hp ρ w){tm:List (Nat×AV)}(c:TSim F tm hp ρ a w)(x:Operand):VR w (MM F hp ρ) hp ρ (evA cx tm x) (a.eval x):=by
 cases x with
 | tmp t =>
  simp only[evA];split
  ·rename_i y b;exact QbT (c t y b)
  ·exact .junk _
 | const v=>exact JW _ _ _ _ v
 | global g =>
  simp only[evA];split
  ·rename_i y b;exact .dptr y 0 g 0 (h.glob g y b).1
  ·exact .junk _
 | func f=>exact .d _ _ (.fn _ [] [] [] [] rfl rfl (by simp) (by simp))
theorem KR {b:Type}(xs:Array b)(i:Nat):nth xs.toList i=xs[i]?:=by rw[ZR];simp
theorem UK {tm:List (Nat×AV)}(p:TSim F tm hp ρ a w){ops:Array Oper}{o:Oper}{b:Bool}(h:Ju ops tm o=some b):Region.wanted o (yielded ops a.tmps)=b:=by
 unfold Ju at h;unfold Region.wanted;split at h
 ·rename_i n;rw[n];simpa using h
 ·rename_i j l n;rw[n];simp only;rw[KR] at h;split at h
  ·rename_i m;simp only[jIj] at h;subst h;simp[yielded,m]
  ·rename_i g m;split at h
   ·rename_i f;simp only[jIj] at h;subst h;simp[yielded,m,f]
   ·rename_i d f;have i:∀v,a.tmps.getD d undef=v->yielded ops a.tmps j=(match v with | .bool b=>some b|_=>none):=by
     intro v e;simp only[yielded,m,jBj,f];rw[Array.getD_eq_getD_getElem?] at e;cases hx:a.tmps[d]? with
     | none=>rw[hx] at e;simp at e;subst e;rfl
     | some u=>rw[hx] at e;simp at e;subst e;cases u<;>rfl
    split at h
    ·rename_i c k;simp only[jIj] at h;subst h;have:=jy (p d _ k);rw[i _ this];simp only;cases c<;>cases l<;>rfl
    ·rename_i c k;simp only[jIj] at h;subst h;have:=jy (p d _ k);rw[i _ this];rfl
    ·rename_i c k;simp only[jIj] at h;subst h;have f:=p d _ k;generalize e:a.tmps.getD d undef=v at f;cases f with
     | d _ _ f =>
      cases f with
      | tup=>rw[i _ e];rfl
    ·cases h
theorem TSim.put {F:Nat->Prop}{tm:List (Nat×AV)}(d:TSim F tm hp ρ a w){t:Nat}{x:AV}{v:Value}(e:VR w (MM F hp ρ) hp ρ x v)(c:t<a.tmps.size):TSim F ((t,x)::tm) hp ρ (a.put (some t) v) w:=by
 intro u y b;by_cases h:t=u
 ·subst h;rw[Qd] at b;cases b;simp only[Act.put];rw[Array.getD_eq_getD_getElem?,Array.getElem?_setIfInBounds,jTj rfl,jTj c];exact e
 ·rw[Qc _ _ h] at b;simp only[Act.put];rw[Array.getD_eq_getD_getElem?,Array.getElem?_setIfInBounds,jFj h,<-Array.getD_eq_getD_getElem?];exact d u y b
theorem uA (a:Act)(d:Option Tmp)(v:Value):(a.put d v).tmps.size=a.tmps.size:=by cases d<;>simp[Act.put]
theorem YX (a:Act)(d:Option Tmp)(v:Value):(a.put d v).defers=a.defers:=by cases d<;>rfl
theorem qE {s s' : St}{d:Option Tmp}{x:AV}{v:Value}(h:s.put d x=some s')(c:Sim cx F s ρ a w)(f:VR w (MM F s.hp ρ) s.hp ρ x v):Sim cx F s' ρ (a.put d v) w:=by
 unfold St.put at h;split at h
 ·simp only[jIj] at h;subst h;exact c
 ·rename_i t;split at h<;>simp only[jIj,reduceCtorEq] at h;rename_i e;subst h;have b : t<s.nt:=by simpa using e
  exact⟨c.hs,c.ts.put f (by rw[c.nt];exact b),by rw[uA];exact c.nt⟩
def _root_.Go.SX.St.nr (s:St):Nat×Bool:=(s.nt,s.rnd)
theorem E0 {a b:St}(h:a.nr=b.nr):a.nt=b.nt:=(Prod.mk.inj h).1
theorem yx {a b:St}(h:a.nr=b.nr):a.rnd=b.rnd:=(Prod.mk.inj h).2
theorem YA {s s' : St}{d:Option Tmp}{x:AV}(h:s.put d x=some s'):s'.hp=s.hp/\s'.ob=s.ob/\s'.vis=s.vis/\s'.nr=s.nr/\s'.sfx=s.sfx:=by
 unfold St.put at h;split at h
 ·simp only[jIj] at h;subst h;exact⟨rfl,rfl,rfl,rfl,rfl⟩
 ·split at h<;>simp only[jIj,reduceCtorEq] at h;subst h;exact⟨rfl,rfl,rfl,rfl,rfl⟩
theorem GJ {x y:AV}{d:List Prop}{o' : List Orc}(h:litB sym orc x=some (y,d,o'))(e:∀p,p∈d->p){M:Nat->Prop}{v:Value}(c:VR w M hp ρ x v):VR w M hp ρ y v:=by
 unfold litB at h;split at h
 ·rename_i b;split at h
  ·simp only[jIj,jPj] at h;obtain⟨rfl,rfl,rfl⟩:=h;have:=e _ jMj;subst this;exact c
  ·split at h<;>(simp only[jIj,jPj] at h;obtain⟨rfl,rfl,rfl⟩:=h;exact c)
  ·cases h
 ·simp only[jIj,jPj] at h;obtain⟨rfl,rfl,rfl⟩:=h;exact c
def jv (cx:Cx)(call:Kj):Prop :=
 ∀(keepable:Bool) (H:List (Nat×Blk)) (g:Nat) (sym:Bool) (orc:List Orc) (f:FuncId) (b:List AV) (d:RC),call keepable H g sym orc f b=some d->(∀p,p∈d.ob->p) ->
  ∀(F:Nat->Prop) (ρ:Nat->Value) (w:World) (vs:List Value),HSim cx F H ρ w->b.length=vs.length ->
  (∀(i:Nat) (c:AV) (y:Value),b[i]?=some c->vs[i]?=some y->VR w (MM F H ρ) H ρ c y) ->
  (∃v,(callFunc f vs.toArray).run cx.P w=.ok (.value v) w/\d.full=none/\d.up=[]/\VR w (MM F H ρ) H ρ d.val v) \/
  ((callFunc f vs.toArray).run cx.P w=.ok (.enter f vs.toArray) w/\Calls cx.P f vs.toArray w fun e w'=>∃v,e=.returned v/\∃ρ',HSim cx F (d.heap H) ρ' w'/\Steps1 H ρ w (d.heap H) ρ' w'/\VR w' (MM F (d.heap H) ρ') (d.heap H) ρ' d.val v)
def XX (call:Kj):Prop :=
 ∀(keepable:Bool) (H:List (Nat×Blk)) (d:Nat) (sym:Bool) (orc:List Orc) (f:FuncId) (b:List AV) (c:RC),call keepable H d sym orc f b=some c->c.sfx=true->∀h,c.full=some h->∃new,h=new++H
theorem JI {o:Oper}{c:Operand}{args:List Operand}(h:U2 o=some (c,args)):∃ats,o.op=.call { callee:=.value c,args:=args.toArray,argTypes:=ats }:=by
 unfold U2 at h;split at h
 ·rename_i f d ats b;simp only[jIj,jPj] at h;obtain⟨rfl,rfl⟩:=h;exact⟨ats,by rw[b]⟩
 ·cases h
theorem UO {M:Nat->Prop}{x:AV}{v:Value}{f:FuncId}{p q:List AV}(h:JH x=some (f,p,q))(g:VR w M hp ρ x v) :
  ∃xs ys:List Value,v=.func (.func f) xs.toArray ys.toArray/\p.length=xs.length/\q.length=ys.length /\
   (∀(i:Nat) (c:AV) (y:Value),p[i]?=some c->xs[i]?=some y->VR w M hp ρ c y)/\(∀(i:Nat) (c:AV) (y:Value),q[i]?=some c->ys[i]?=some y->VR w M hp ρ c y):=by
 have up:∀(l:jVj) (ys:List Value),(∀(i:Nat) (c:D) (y:Value),l[i]?=some c->ys[i]?=some y->DR w M c y)->∀(i:Nat) (c:AV) (y:Value),(l.map AV.d)[i]?=some c->ys[i]?=some y->VR w M hp ρ c y:=by
  intro l ys e i c y hc m;simp only[List.getElem?_map] at hc;cases b:l[i]? with
  | none=>rw[b] at hc;cases hc
  | some d=>rw[b] at hc;simp only[Option.map_some,jIj] at hc;subst hc;exact .d _ _ (e i d y b m)
 unfold JH at h;split at h
 ·simp only[jIj,jPj] at h;obtain⟨rfl,rfl,rfl⟩:=h;cases g with
  | fn _ _ _ xs ys b k e j=>exact⟨xs,ys,rfl,b,k,e,j⟩
 ·simp only[jIj,jPj] at h;obtain⟨rfl,rfl,rfl⟩:=h;cases g with
  | d _ _ g =>
  cases g with
  | fn _ _ _ xs ys b k e j=>exact⟨xs,ys,rfl,by simpa using b,by simpa using k,up _ _ e,up _ _ j⟩
 ·cases h
theorem Vf {o:Oper}{p:Operand×List Operand}(h:U2 o=some p):∀c,o.op≠.defer c:=by obtain⟨e,d⟩:=p;obtain⟨ats,b⟩:=JI h;intro c hc;rw[b] at hc;cases hc
theorem zN {cx sym orc hp name b o r}(h:aop cx sym orc hp name b o=some r):∀c,o.op≠.defer c:=by intro c hc;unfold aop at h;rw[hc] at h;cases h
theorem jb {P:Program}{f:FuncId}{b:Array Value}{w:World}{R:Ending->World->Prop}{m:Nat}(r:Option Nat)(h:Calls P f b w R):CallsIn (fen r) m P f b w R:=by
 cases r with
 | none=>exact callsIn_wide.2 h
 | some l=>exact CallsIn.inRound l (callsIn_wide.2 h)
theorem qo {o:Oper}{e:Operand}{b:List Operand}(c:U2 o=some (e,b)){f:FuncId}{xs ys:List Value}(g:a.eval e=.func (.func f) xs.toArray ys.toArray)(P:Program)(w:World) :
  (execOp a.eval o).run P w=(callFunc f (xs++b.map a.eval++ys).toArray).run P w:=by
 obtain⟨ats,d⟩:=JI c;simp only[execOp,d,resolve,g,Deferred.ofValue,pure_bind,invoke];congr 2
 simp
theorem ET {M:Nat->Prop}{p m q:List AV}{xs ms ys:List Value}(e:p.length=xs.length)(n:m.length=ms.length)(o:q.length=ys.length)
  (j:∀(i:Nat) (c:AV) (y:Value),p[i]?=some c->xs[i]?=some y->VR w M hp ρ c y) (k:∀(i:Nat) (c:AV) (y:Value),m[i]?=some c->ms[i]?=some y->VR w M hp ρ c y)
  (l:∀(i:Nat) (c:AV) (y:Value),q[i]?=some c->ys[i]?=some y->VR w M hp ρ c y) :
  (p++m++q).length=(xs++ms++ys).length/\∀(i:Nat) (c:AV) (y:Value),(p++m++q)[i]?=some c->(xs++ms++ys)[i]?=some y->VR w M hp ρ c y:=by
 have app:∀(p m:List AV) (xs ms:List Value),p.length=xs.length->(∀(i:Nat) (c:AV) (y:Value),p[i]?=some c->xs[i]?=some y->VR w M hp ρ c y) ->
   (∀(i:Nat) (c:AV) (y:Value),m[i]?=some c->ms[i]?=some y->VR w M hp ρ c y)->∀(i:Nat) (c:AV) (y:Value),(p++m)[i]?=some c->(xs++ms)[i]?=some y->VR w M hp ρ c y:=by
  intro p m xs ms f d g i c y hc b;by_cases h:i<p.length
  ·rw[List.getElem?_append_left h] at hc;rw[List.getElem?_append_left (by omega)] at b;exact d i c y hc b
  ·rw[List.getElem?_append_right (by omega)] at hc;rw[List.getElem?_append_right (by omega)] at b;rw[f] at hc;exact g _ c y hc b
 exact⟨by simp;omega,app _ _ _ _ (by simp;omega) (app _ _ _ _ e j k) l⟩
theorem Yo {ops:Array Oper}{i:Nat}{o:Oper}{s s' : St}{x:AV}{b : List (Nat×Blk)}{z:Nat}{orc:List Orc}{r:List Prop}{t:Bool}(h:GL ops i o s x b z orc r t=some s')(c:∀p,p∈s'.ob->p) :
  (∀p,p∈r->p)/\(∀p,p∈s.ob->p)/\s'.hp=b/\s'.vis=s.vis/\s'.nr=s.nr/\(s'.sfx=true->s.sfx=true/\t=true) /\
  ∀(v:Value),HSim cx F b ρ w->TSim F s.tm b ρ a w->a.tmps.size=s.nt->VR w (MM F b ρ) b ρ x v->Sim cx F s' ρ (a.put o.dst v) w:=by
 unfold GL at h;split at h
 ·split at h;case h_2=>cases h
  rename_i y A C u;obtain⟨d,e,f,g,j⟩:=YA h;simp only at d e f g j;rw[e] at c;refine⟨fun p hp=>c p (by simp[hp]),fun p hp=>c p (by simp[hp]),d,f,g,fun k=>by rw[j] at k;simpa using k,fun v l m n q=>?_⟩;exact qE h ⟨l,m,n⟩ (GJ u (fun p hp=>c p (by simp[hp])) q)
 ·obtain⟨d,e,f,g,j⟩:=YA h;simp only at d e f g j;rw[e] at c;refine⟨fun p hp=>c p (by simp[hp]),fun p hp=>c p (by simp[hp]),d,f,g,fun k=>by rw[j] at k;simpa using k,fun v l m n q=>?_⟩;exact qE h ⟨l,m,n⟩ q
def qw (cx:Cx)(j:Yz):Prop :=
 ∀(H:List (Nat×Blk)) (h:Nat) (sym:Bool) (orc:List Orc) (b ver:Nat) (f:List AV) (g:RC),j H h sym orc b ver f=some g->(∀p,p∈g.ob->p) ->
  ∀(rr:Option Nat) (m:Nat) (F:Nat->Prop) (ρ:Nat->Value) (w:World) (vs:List Value),HSim cx F H ρ w->f.length=vs.length ->
  (∀(i:Nat) (c:AV) (y:Value),f[i]?=some c->vs[i]?=some y->VR w (MM F H ρ) H ρ c y) ->
  (∃k,look H b=some k/\ver=k.ver)/\∃(l:Nat) (d:Loop),ρ b=.func (.yield l) #[] #[]/\w.heap[l]?=some (.loop d)/\d.params.size=vs.length /\
   RoundIn (fen rr) m cx.P l d.fn ((d.params.zip vs.toArray).foldl (fun tmps (t,a)=>tmps.setIfInBounds t a) d.tmps) d.assign d.body w fun e w' =>
    ∃v,e=.returned v/\∃ρ',HSim cx F (g.heap H) ρ' w'/\Steps1 H ρ w (g.heap H) ρ' w'/\VR w' (MM F (g.heap H) ρ') (g.heap H) ρ' g.val v
theorem wn {x:AV}{b ver:Nat}(h:wb x=some (b,ver)):x=.own b ver:=by
 unfold wb at h;split at h
 ·simp only[jIj,jPj] at h;obtain⟨rfl,rfl⟩:=h;rfl
 ·cases h
theorem jT {o:Oper}{e:Operand}{b:List Operand}(c:U2 o=some (e,b)){l:Nat}(f:a.eval e=.func (.yield l) #[] #[])(P:Program)(w:World) :
  (execOp a.eval o).run P w=(Instr.yield l (b.map a.eval).toArray).run P w:=by
 obtain⟨ats,d⟩:=JI c;simp only[execOp,d,resolve,f,Deferred.ofValue,pure_bind,invoke];congr 2
 simp
theorem yk {rr:Option Nat}{m:Nat}{call:Kj}(W:jv cx call){yc:Yz}(a9:qw cx yc){ops:Array Oper}{base:Nat}{Q:Exit->Act->World->Prop}(l:List Nat):∀(s s' : St) (ρ:Nat->Value) (a:Act) (w:World),Y3 cx call yc ops base l s=some s'->(∀p,p∈s'.ob->p) ->
  Sim cx F s ρ a w->(∀ρ' u w',Sim cx F s' ρ' u w'->Steps1 s.hp ρ w s'.hp ρ' w'->u.defers=a.defers->Q .normal u w')->wpOpsIn (fen rr) m cx.P ops Q l a w:=by
 induction l with
 | nil =>
  intro s s' ρ a w h J g Z;simp only[Y3,jIj] at h;subst h;exact Z ρ a w g (Steps1.refl _ _ _) rfl
 | cons i l ih =>
  intro s s' ρ a w h J g Z;simp only[Y3] at h;split at h;case h_2=>cases h
  rename_i s1 n;have a6:∀{s s' : St},Y3 cx call yc ops base l s=some s'->(∀p,p∈s'.ob->p)->∀p,p∈s.ob->p:=by
   intro s s';clear ih h n;induction l generalizing s with
   | nil=>intro h J;simp only[Y3,jIj] at h;subst h;exact J
   | cons j l ihl =>
    intro h J;simp only[Y3] at h;split at h;case h_2=>cases h
    rename_i s2 z;have L:=ihl h J;unfold XJ at z;split at z
    ·cases z
    split at z
    ·cases z
    ·obtain⟨_,e2,_⟩:=YA z;rw[e2] at L;exact L
    ·split at z
     ·split at z
      ·split at z
       ·cases z
       exact(Yo (cx:=cx) (F:=F) (ρ:=ρ) (w:=w) (a:=a) z L).2.1
      split at z
      ·cases z
      split at z
      ·cases z
      exact(Yo (cx:=cx) (F:=F) (ρ:=ρ) (w:=w) (a:=a) z L).2.1
     ·split at z
      ·cases z
      exact(Yo (cx:=cx) (F:=F) (ρ:=ρ) (w:=w) (a:=a) z L).2.1
  have Y:=a6 h J;unfold XJ at n;rw[KR] at n;simp only[wpOpsIn];split at n
  ·cases n
  rename_i o a7;rw[a7];simp only;split at n
  ·cases n
  ·-- passed Uz
   rename_i a1;rw[UK g.ts a1];simp only[Bool.false_eq_true,if_false];obtain⟨e1,_⟩:=YA n;refine⟨fun _ _=>trivial,ih s1 s' ρ _ w h J (qE n g (.d _ _ (.v _))) fun ρ' u w' E c A=>Z ρ' u w' E ?_ (A.trans (YX _ _ _))⟩;rw[e1] at c;exact c
  ·rename_i a1;rw[UK g.ts a1];simp only[if_true];split at n
   ·-- a call
    rename_i fv S N;split at n
    ·-- yield
     rename_i b ver b2;split at n
     ·cases n
     rename_i rc a0;have hev:=qT g.hs g.ts;obtain⟨l2,k2⟩:=JC hev S;have C:=fun ρ' (u : Act) w'=>Yo (cx:=cx) (F:=F) (ρ:=ρ') (w:=w') (a:=u) n Y;obtain⟨⟨k,hk,a4⟩,ly,b4,b3,hl,a8,O⟩:=a9 _ _ _ _ _ _ _ rc a0 (C ρ a w).1 rr (m - 1) F ρ w _ g.hs l2 k2;have X:=hev fv;rw[wn b2] at X;have hv:a.eval fv=.func (.yield ly) #[] #[]:=by
      generalize a.eval fv=y at X;cases X with
      | own _ _ k' _ hb hv J h =>
       rw[hk] at hb;cases hb;rw[h a4,b3]
     rw[Oper.wpIn,Oper.semAt_eq _ _ _ (Vf N),jT N hv,run_yield hl (by simpa using a8.symm)];refine⟨fun _ _=>trivial,?_⟩;rw[Oper.uponIn_round];refine⟨fun h=>(by cases h),O.mono ?_⟩;rintro e w' ⟨v,rfl,ρ',g1,V,g3⟩;obtain⟨_,_,T,_,_,_,U⟩:=C ρ' a w';refine ih s1 s' ρ' _ w' h J (U v g1 (fun t x hx=>V.vr (g.ts t x hx)) g.nt g3) fun H u M E c A=>Z H u M E ?_ (A.trans (YX _ _ _));rw[T] at c;exact V.trans c
    split at n
    ·cases n
    rename_i f p q a5;split at n
    ·cases n
    rename_i rc a0;have hev:=qT g.hs g.ts;obtain⟨xs,ys,hv,l1,l3,k1,k3⟩:=UO a5 (hev fv);obtain⟨l2,k2⟩:=JC hev S;obtain⟨l4,k4⟩:=ET l1 l2 l3 k1 k2 k3;have C:=fun ρ' (u : Act) w'=>Yo (cx:=cx) (F:=F) (ρ:=ρ') (w:=w') (a:=u) n Y;have a2:=W _ _ _ _ _ _ _ rc a0 (C ρ a w).1 F ρ w _ g.hs l4 k4;rw[Oper.wpIn,Oper.semAt_eq _ _ _ (Vf N),qo N hv];refine⟨fun _ _=>trivial,?_⟩;obtain⟨v,r1,r2,r3,r4⟩|⟨r1,r2⟩:=a2
    ·rw[r1];simp only[Oper.uponIn];have hh:rc.heap s.hp=s.hp:=by rw[RC.heap,r2,r3];rfl
     obtain⟨_,_,T,_,_,_,U⟩:=C ρ a w;rw[hh] at U T;refine ih s1 s' ρ _ w h J (U v g.hs g.ts g.nt r4) fun ρ' u w' E c A=>Z ρ' u w' E ?_ (A.trans (YX _ _ _));rw[T] at c;exact c
    ·rw[r1];simp only[Oper.uponIn];refine⟨fun h=>(by cases h),jb rr (r2.mono ?_)⟩;rintro e w' ⟨v,rfl,ρ',g1,V,g3⟩;obtain⟨_,_,T,_,_,_,U⟩:=C ρ' a w';refine ih s1 s' ρ' _ w' h J (U v g1 (fun t x hx=>V.vr (g.ts t x hx)) g.nt g3) fun H u M E c A=>Z H u M E ?_ (A.trans (YX _ _ _));rw[T] at c;exact V.trans c
   ·-- another operation
    split at n
    ·cases n
    rename_i r hr;have C:=fun ρ' (u : Act) w'=>Yo (cx:=cx) (F:=F) (ρ:=ρ') (w:=w') (a:=u) n Y;obtain⟨v,w',G,ρ',g1,V,g3⟩:=kU g.hs (fun _=>rfl) (qT g.hs g.ts) hr (C ρ a w).1;obtain⟨_,_,T,_,_,_,U⟩:=C ρ' a w';have a3:=U v g1 (fun t x hx=>V.vr (g.ts t x hx)) g.nt g3;have K:wpOpsIn (fen rr) m cx.P ops Q l (a.put o.dst v) w':=by refine ih s1 s' ρ' _ w' h J a3 fun H u M E c A=>Z H u M E ?_ (A.trans (YX _ _ _));rw[T] at c;exact V.trans c
    unfold Oper.wpIn;rw[Oper.semAt_eq _ _ _ (zN hr)];refine⟨fun _ _=>trivial,?_⟩;obtain G|⟨G,rfl⟩:=G
    ·rw[G];exact K
    ·rw[G];exact K
end
section
variable {cx:Cx}{H G:List (Nat×Blk)}{sym:Bool}{orc:List Orc}{ev ev' : Operand->AV}
def Ye (H G:List (Nat×Blk)):Prop:=∀b k,look H b=some k->look G b=some k
mutual
theorem KA (hs:Ye H G):∀(x:AV) (y:D) (fs:List Nat),x.toDH H=some (y,fs)->x.toDH G=some (y,fs)/\∀b,b∈fs->∃k,look H b=some k
 | .d x,y,fs,h=>by simp only[AV.toDH,jIj,jPj] at h ⊢;obtain⟨rfl,rfl⟩:=h;simp
 | .agg cs,y,fs,h=>by simp only[AV.toDH] at h ⊢;split at h<;>simp only[jIj,reduceCtorEq,jPj] at h;rename_i l fs' hl;obtain⟨rfl,rfl⟩:=h;obtain⟨h1,h2⟩:=KJ hs cs l fs' hl;rw[h1];exact⟨rfl,h2⟩
 | .tup cs,y,fs,h=>by simp only[AV.toDH] at h ⊢;split at h<;>simp only[jIj,reduceCtorEq,jPj] at h;rename_i l fs' hl;obtain⟨rfl,rfl⟩:=h;obtain⟨h1,h2⟩:=KJ hs cs l fs' hl;rw[h1];exact⟨rfl,h2⟩
 | .fn f a b,y,fs,h=>by
  simp only[AV.toDH] at h ⊢;split at h<;>simp only[jIj,reduceCtorEq,jPj] at h;rename_i x1 f1 y1 f2 hx1 hy1;obtain⟨rfl,rfl⟩:=h;obtain⟨h1,h2⟩:=KJ hs a x1 f1 hx1;obtain⟨h3,h4⟩:=KJ hs b y1 f2 hy1;rw[h1,h3];refine⟨rfl,fun c hc=>?_⟩;obtain hc|hc:=List.mem_append.1 hc
  ·exact h2 c hc
  ·exact h4 c hc
 | .own b ver,y,fs,h=>by
  simp only[AV.toDH] at h ⊢;cases hb:look H b with
  | none=>rw[hb] at h;cases h
  | some k =>
   rw[hs b k hb];rw[hb] at h;refine⟨h,?_⟩;cases k with
   | box _=>simp at h
   | loop _ _ _ _ _ _=>simp at h
   | mp _=>simp at h
   | it _ _=>simp at h
   | fbox _=>simp at h
   | left _=>simp at h
   | dead=>simp at h
   | row v s e =>
    simp only at h;split at h<;>simp only[jIj,reduceCtorEq,jPj] at h;obtain⟨rfl,rfl⟩:=h;intro c hc;simp only[List.mem_singleton] at hc;subst hc;exact⟨_,hb⟩
   | frozen v s e =>
    simp only at h;split at h<;>simp only[jIj,reduceCtorEq,jPj] at h;obtain⟨rfl,rfl⟩:=h;simp
   | virt v s e =>
    simp only at h;split at h<;>simp only[jIj,reduceCtorEq,jPj] at h;obtain⟨rfl,rfl⟩:=h;simp
 | .dptr _ _,y,fs,h=>by simp only[AV.toDH,jIj,jPj] at h ⊢;obtain⟨rfl,rfl⟩:=h;simp
 | .ptr b ver sz i off,y,fs,h=>by
  simp only[AV.toDH] at h ⊢;split at h;case h_2=>cases h
  rename_i hc;split at h;case h_2=>cases h
  rename_i k hk;rw[hs b k hk];dsimp only;refine⟨h,?_⟩;split at h
  ·simp only[jIj,jPj] at h;obtain⟨rfl,rfl⟩:=h;intro c hc;simp only[List.mem_singleton] at hc;subst hc;exact⟨k,hk⟩
  ·simp only[jIj,jPj] at h;obtain⟨rfl,rfl⟩:=h;intro c hc;cases hc
  ·cases h
 | .sub _ _ _ _ _,y,fs,h=>by simp[AV.toDH] at h
 | .junk,y,fs,h=>by simp[AV.toDH] at h
theorem KJ (hs:Ye H G):∀(cs:List AV) (l:jVj) (fs:List Nat),Kb H cs=some (l,fs)->Kb G cs=some (l,fs)/\∀b,b∈fs->∃k,look H b=some k
 | [],l,fs,h=>by simp only[Kb,jIj,jPj] at h ⊢;obtain⟨rfl,rfl⟩:=h;simp
 | x::cs,l,fs,h=>by
  simp only[Kb] at h ⊢;split at h<;>simp only[jIj,reduceCtorEq,jPj] at h;rename_i y1 f1 l1 f2 h1 h2;obtain⟨rfl,rfl⟩:=h;obtain⟨g1,g2⟩:=KA hs x y1 f1 h1;obtain⟨g3,g4⟩:=KJ hs cs l1 f2 h2;rw[g1,g3];refine⟨rfl,fun c hc=>?_⟩;obtain hc|hc:=List.mem_append.1 hc
  ·exact g2 c hc
  ·exact g4 c hc
end
theorem Vm (e:Ye H G)(a:List Nat)(h:∀b,b∈a->∃k,look H b=some k):Qe G a=Qe H a:=by
 induction a with
 | nil=>rfl
 | cons b l ih =>
  obtain⟨k,d⟩:=h b jMj;simp only[Qe,d,e b _ d,ih fun c hc=>h c (jmj _ hc)]
theorem Gi (a:Ye H G){b ver:Nat}(h:GQ H b ver=true):GQ G b ver=true:=by
 unfold GQ at h ⊢;cases hb:look H b with
 | none=>rw[hb] at h;cases h
 | some k=>rw[hb] at h;rw[a b k hb];exact h
theorem QbU (c:Ye H G){b ver:Nat}(h:GQ H b ver=true):look G b=look H b:=by
 unfold GQ at h;split at h
 ·rename_i k a;rw[a];exact c b k a
 ·cases h
theorem uX (a:Ye H G){x:AV}{es:jVj}(h:Ug H x=some es):Ug G x=some es:=by
 unfold Ug at h ⊢;split at h
 ·exact h
 ·rename_i b ver;cases hb:look H b with
  | none=>rw[hb] at h;cases h
  | some k=>rw[hb] at h;simp only[a b k hb];exact h
 ·split at h;case h_2=>cases h
  rename_i hc;rw[Gi a hc];exact h
 ·cases h
theorem Xy (e:Ye H G){x:AV}{q:Nat×jVj×List Nat}(h:YR H x=some q):YR G x=some q/\∀b,b∈q.2.2->∃k,look H b=some k:=by
 unfold YR at h ⊢;split at h
 ·rename_i f sz es g d;obtain⟨a,c⟩:=KA e _ _ _ d;rw[a];simp only[jIj] at h;subst h;exact⟨rfl,c⟩
 ·cases h
theorem wJ (a:Ye H G){b:Nat}{x:SX.D}(h:Ea H b=some x):Ea G b=some x:=by
 unfold Ea at h ⊢;cases hb:look H b with
 | none=>rw[hb] at h;cases h
 | some k=>rw[hb] at h;rw[a b k hb];exact h
theorem Qb8 (a:Ye H G){x:AV}{y:SX.D}{off:Nat}(h:unf H x=.dptr y off):unf G x=.dptr y off:=by
 cases x with
 | ptr b ver sz i o =>
  have h:ya H b ver sz i o=.dptr y off:=h;show ya G b ver sz i o=.dptr y off;unfold ya at h ⊢;cases hl:Ea H b with
  | none=>rw[hl] at h;cases h
  | some x=>rw[hl] at h;rw[wJ a hl];exact h
 | d _=>exact h
 | agg _=>exact h
 | tup _=>exact h
 | dptr _ _=>exact h
 | own _ _=>exact h
 | sub _ _ _ _ _=>exact h
 | fn _ _ _=>exact h
 | junk=>exact h
theorem QcX (f:Ye H G){x:AV}{b ver sz i off:Nat}{q:AV×List Prop×List Orc}(h:unf H x=.ptr b ver sz i off)(e:UP sym orc H b ver sz i=some q):unf G x=.ptr b ver sz i off:=by
 cases x with
 | ptr a ver' c g o =>
  have h:ya H a ver' c g o=.ptr b ver sz i off:=h;show ya G a ver' c g o=.ptr b ver sz i off;unfold ya at h ⊢;cases hf:Ea H a with
  | some x=>rw[hf] at h;rw[wJ f hf];exact h
  | none =>
   rw[hf] at h;simp only[AV.ptr.injEq] at h;obtain⟨rfl,rfl,rfl,rfl,rfl⟩:=h;have:Ea G a=none:=by
    unfold UP at e;unfold Ea at hf ⊢;cases hb:look H a with
    | none=>rw[hb] at e;cases e
    | some k=>rw[hb] at hf;rw[f a k hb];exact hf
   rw[this]
 | d _=>exact h
 | agg _=>exact h
 | tup _=>exact h
 | dptr _ _=>exact h
 | own _ _=>exact h
 | sub _ _ _ _ _=>exact h
 | fn _ _ _=>exact h
 | junk=>exact h
theorem yS (a:Ye H G){b ver sz i:Nat}{q:AV×List Prop×List Orc}(h:UP sym orc H b ver sz i=some q):UP sym orc G b ver sz i=some q:=by
 unfold UP at h ⊢;cases hb:look H b with
 | none=>rw[hb] at h;cases h
 | some k=>rw[hb] at h;rw[a b k hb];exact h
theorem Gp (a:Ye H G){t:TypeId}{x:AV}{i:Int}{r:R}(h:Ve cx sym orc H t x i=some r):Ve cx sym orc G t x i=some r:=by
 unfold Ve at h ⊢;split at h
 ·split at h;case h_2=>cases h
  split at h
  ·split at h;case h_2=>cases h
   rename_i hc;simp only[Gi a hc];exact h
  ·exact h
  ·cases h
 ·split at h
  ·cases h
  split at h
  ·rename_i b ver;cases hb:look H b with
   | none=>rw[hb] at h;cases h
   | some k=>rw[hb] at h;simp only[a b k hb];exact h
  ·exact h
  ·split at h;case h_2=>cases h
   rename_i hc c;simp only[jAj] at hc;simp only[Gi a hc.1,hc.2,c,Bool.and_true,QbU a hc.1];exact h
  ·cases h
 ·cases h
theorem zY (a:Ye H G){t:TypeId}{x:AV}{i:Int}{r:R}(h:YP cx sym orc H t x i=some r):YP cx sym orc G t x i=some r:=by
 unfold YP at h ⊢;split at h
 ·split at h;case h_2=>cases h
  rename_i q b;rw[Gp a b];exact h
 ·exact Gp a h
theorem Qai (b:Ye H G){t:TypeId}{x:AV}{j i k:Option AV}{r:R}(h:J2 cx sym orc H t x j i k=some r):J2 cx sym orc G t x j i k=some r:=by
 unfold J2 at h ⊢;split at h
 ·exact h
 ·split at h;case h_3=>cases h
  ·rename_i a full sz es c g f;obtain⟨d,e⟩:=KA b _ _ _ f;simp only[g,d];rw[Vm b c e];exact h
  ·rename_i a m full sz es c g f;obtain⟨d,e⟩:=KA b _ _ _ f;simp only[g,d];rw[Vm b c e];exact h
theorem yW (d:Ye H G){t:TypeId}{x:AV}{b a c:Option AV}{r:R}(h:Yq cx sym orc H t x b a c=some r):Yq cx sym orc G t x b a c=some r:=by
 unfold Yq at h ⊢;split at h;case h_2=>cases h
 cases hb:look H _ with
 | none=>rw[hb] at h;simp at h
 | some k=>rw[hb] at h;simp only[d _ k hb];exact h
theorem yV (i:Ye H G){t:TypeId}{x:AV}{e d f:Option AV}{r:R}(a:Yq cx sym orc H t x e d f=none)(h:J2 cx sym orc H t x e d f=some r):Yq cx sym orc G t x e d f=none:=by
 unfold Yq at a ⊢;split;case h_2=>rfl
 rename_i o b ver g;rw[g] at a;simp only at a;cases hb:look H b with
 | none =>
  unfold J2 at h;split at h
  ·rename_i j;cases j
  ·split at h;case h_3=>cases h
   ·rename_i c;simp[AV.toDH,hb] at c
   ·rename_i c;simp[AV.toDH,hb] at c
 | some k=>rw[hb] at a;simp only[i b k hb];exact a
theorem Qb0 (d:Ye H G){t:TypeId}{x:AV}{b a c:Option AV}{r:R}(h:zX cx sym orc H t x b a c=some r):zX cx sym orc G t x b a c=some r:=by
 unfold zX at h ⊢;split at h;case h_2=>cases h
 cases hb:look H _ with
 | none=>rw[hb] at h;simp at h
 | some k=>rw[hb] at h;simp only[d _ k hb];exact h
theorem QbZ (i:Ye H G){t:TypeId}{x:AV}{e d f:Option AV}{r:R}(a:zX cx sym orc H t x e d f=none)(h:J2 cx sym orc H t x e d f=some r):zX cx sym orc G t x e d f=none:=by
 unfold zX at a ⊢;split;case h_2=>rfl
 rename_i o b ver _ l g;rw[g] at a;simp only at a;cases hb:look H b with
 | none =>
  unfold J2 at h;split at h
  ·rename_i j;cases j
  ·split at h;case h_3=>cases h
   ·rename_i c;simp[AV.toDH,hb] at c
   ·rename_i c;simp[AV.toDH,hb] at c
 | some k=>rw[hb] at a;simp only[i b k hb];exact a
theorem jN (f:Ye H G){t:TypeId}{x:AV}{c a d:Option AV}{r:R}(e:Yq cx sym orc H t x c a d=none)(h:zX cx sym orc H t x c a d=some r):Yq cx sym orc G t x c a d=none:=by
 unfold zX at h;split at h;case h_2=>cases h
 unfold Yq;split;case h_2=>rfl
 rename_i b _;cases b
theorem uf (f:Ye H G){name:Nat}(i:look G name=none){t:TypeId}{s x:AV}{r:R}(h:XW cx sym orc H name t s x=some r):XW cx sym orc G name t s x=some r:=by
 unfold XW at h ⊢;split at h;case h_2=>cases h
 rename_i g asz p j o d;obtain⟨l,m⟩:=Xy f d;simp only[o,l];rw[Vm f j m];split at h
 ·cases h
 split at h
 ·cases h
 split at h
 ·rename_i b ver;cases hb:look H b with
  | none=>rw[hb] at h;cases h
  | some k=>rw[hb] at h;simp only[f b k hb];exact h
 ·split at h
  ·cases h
  split at h
  ·split at h;case h_2=>cases h
   rename_i c n e;simp only[c,i,e];exact h
  split at h;case h_2=>cases h
  rename_i q o' e;split at h
  ·rename_i c;split at h;case h_3=>cases h
   ·rename_i a;simp only[a];exact h
   ·rename_i a _;simp only[a,i];exact h
  ·exact h
  ·cases h
 ·cases h
theorem Qsv (a:Ye H G){t:TypeId}{s x:AV}{r:R}(h:adup cx sym orc H t s x=some r):adup cx sym orc G t s x=some r:=by
 unfold adup at h ⊢;split at h;case h_2=>cases h
 rename_i b ver c;cases hb:look H b with
 | none=>rw[hb] at h;simp at h
 | some k=>rw[hb] at h;rw[a b k hb];exact h
theorem Qa2 (c:Ye H G){t:TypeId}{d s:AV}{r:R}(h:kW cx orc H t d s=some r):kW cx orc G t d s=some r:=by
 unfold kW at h ⊢;split at h;case h_2=>cases h
 rename_i e b ver asz l f j a;obtain⟨g,i⟩:=Xy c a;simp only[j,g];rw[Vm c f i];cases hb:look H b with
 | none=>rw[hb] at h;simp at h
 | some k=>rw[hb] at h;simp only[c b k hb];exact h
theorem jO (d:Ye H G){name:Nat}(e:look G name=none){b:Builtin}{ats:Array TypeId}{ty:TypeId}{a:List AV}{r:R}(h:Gr cx sym orc H name b ats ty a=some r) :
  (∀x v,Ug H x=none->x.toV=some v->Ug G x=none)->Gr cx sym orc G name b ats ty a=some r:=by
 intro g;unfold Gr at h ⊢;split at h
 ·split at h;case h_2=>cases h
  split at h
  ·split at h
   ·exact Qsv d h
   ·exact uf d e h
  ·unfold Qbr at h ⊢;split at h;case h_2=>cases h
   split at h;case h_2=>cases h
   rename_i i;simp only[e];simp_all
 ·split at h;case h_2=>cases h
  exact Qa2 d h
 ·split at h;case h_2=>cases h
  split at h
  ·rename_i es c;simp only[uX d c];exact h
  ·rename_i c;split at h;case h_2=>cases h
   rename_i v f;simp only[g _ _ c f,f];exact h
 ·exact h
 ·exact h
 ·exact h
 ·split at h;case h_2=>cases h
  unfold ub at h ⊢;split at h;case h_2=>cases h
  rename_i b _ _ _ _ _;cases hb:look H b with
  | none=>rw[hb] at h;simp at h
  | some k=>rw[hb] at h;simp only[d b k hb];exact h
 ·cases h
theorem uW {x:AV}{v:Value}(h:x.toV=some v):Ug H x=none↔Ug G x=none:=by
 unfold Ug;split
 ·simp
 ·rename_i b ver;simp[AV.toV,AV.toD] at h
 ·simp[AV.toV,AV.toD] at h
 ·simp
theorem JY (f:Ye H G){s:Nat}:∀(parts:List (Nat×AV)) (n:Nat) (es:jVj) (a:List Nat),YB H s n parts=some (es,a)->YB G s n parts=some (es,a)/\∀b,b∈a->∃k,look H b=some k
 | [],n,es,a,h=>by simp only[YB,jIj,jPj] at h ⊢;obtain⟨rfl,rfl⟩:=h;simp
 | (i,x)::l,n,es,a,h=>by
  simp only[YB] at h ⊢;split at h;case h_2=>cases h
  rename_i cs y r ys g d q e;obtain⟨j,m⟩:=KA f _ _ _ q;obtain⟨o,p⟩:=JY f l (n+1) ys g e;simp only[d,j,o];refine⟨h,?_⟩;split at h;case h_2=>cases h
  split at h;case h_2=>cases h
  simp only[jIj,jPj] at h;obtain⟨rfl,rfl⟩:=h;refine fun c hc=>?_;obtain hc|hc:=List.mem_append.1 hc
  ·exact m c hc
  ·exact p c hc
theorem Qah (a:Ye H G){t:TypeId}{p y:AV}{r:R}(h:qY cx sym orc H t p y=some r):qY cx sym orc G t p y=some r:=by
 unfold qY at h ⊢;split at h;case h_2=>cases h
 split at h
 ·rename_i c b;simp only[c,a _ _ b];exact h
 ·rename_i ver i es c b;simp only[c,a _ _ b];split at h;case h_2=>cases h
  rename_i j e hc d;obtain⟨f,g⟩:=KA a _ _ _ d;simp only[hc,f];rw[Vm a e g];exact h
 ·cases h
theorem zB (a:Ye H G){m:AV}{p:Nat×jVj}(h:Ey H m=some p):Ey G m=some p:=by
 unfold Ey at h ⊢;split at h;case h_2=>cases h
 rename_i b v;cases hb:look H b with
 | none=>rw[hb] at h;cases h
 | some k=>rw[hb] at h;simp only[a b k hb];exact h
theorem QaY (a:Ye H G){b:Nat}{p:jVj×List (Nat×Blk)}(h:Qaj H b=some p):Qaj G b=some p:=by
 unfold Qaj at h ⊢;cases hb:look H b with
 | none=>rw[hb] at h;cases h
 | some k=>rw[hb] at h;simp only[a b k hb];exact h
theorem Qax (a:Ye H G){m:AV}{p:Nat×jSj×Nat}(h:kx H m=some p):kx G m=some p:=by
 unfold kx at h ⊢;split at h;case h_2=>cases h
 rename_i b v;cases hb:look H b with
 | none=>rw[hb] at h;cases h
 | some k=>rw[hb] at h;simp only[a b k hb];exact h
theorem G1 (d:Ye H G){t:TypeId}{m k x:AV}{r:R}(h:YO cx sym orc H t m k x=some r):YO cx sym orc G t m k x=some r:=by
 unfold YO at h ⊢;split at h;case h_2=>cases h
 rename_i e b a c;simp only[e,zB d b,a,c];exact h
theorem yZ (c:Ye H G){t:TypeId}{m k:AV}{ok:Bool}{r:R}(h:XS cx sym orc H t m k ok=some r):XS cx sym orc G t m k ok=some r:=by
 unfold XS at h ⊢;split at h;case h_2=>cases h
 rename_i d b a;simp only[d,zB c b,a];exact h
theorem zF (a:Ye H G){x:AV}(h:qN H x=true):qN G x=true:=by
 cases x with
 | ptr b ver sz i off =>
  simp only[qN] at h ⊢;cases hb:look H b with
  | none=>rw[hb] at h;cases h
  | some k=>rw[hb] at h;rw[a b k hb];exact h
 | dptr _ _=>rfl
 | _=>cases h
theorem yB (b:Ye H G){c:BinOp}{t:TypeId}{x:AV}{y:Operand}{q:D×List Prop}(h:YI H cx c t x y=some q):YI G cx c t x y=some q:=by
 unfold YI at h ⊢;split at h
 ·rename_i a hp;rw[a,zF b hp];exact h
 ·rename_i a hp;rw[a,zF b hp];exact h
 ·cases h
theorem Qaz {b:BinOp}{t:TypeId}{x:AV}{y:Operand}{q:D×List Prop}(h:Xl cx b t x y=some q):YI G cx b t x y=none:=by
 unfold Xl at h;split at h
 ·rename_i a;unfold YI;rw[a]
 ·rename_i a;unfold YI;rw[a]
 ·cases h
theorem yz (b:Ye H G){a:BinOp}{t:TypeId}{x:AV}{y:Operand}{r:R}(h:(match YI H cx a t x y with
      | some (r,ob)=>some ({ val:=.d r,up:=[],ob,orc }:R)
      | none=>match Xl cx a t x y with
        | some (r,ob)=>some { val:=.d r,up:=[],ob,orc }
        | none=>none)=some r):(match YI G cx a t x y with
      | some (r,ob)=>some ({ val:=.d r,up:=[],ob,orc }:R)
      | none=>match Xl cx a t x y with
        | some (r,ob)=>some { val:=.d r,up:=[],ob,orc }
        | none=>none)=some r:=by
  cases hq:YI H cx a t x y with
  | some q=>rw[hq] at h;rw[yB b hq];exact h
  | none =>
    rw[hq] at h;cases hz:Xl cx a t x y with
    | none=>rw[hz] at h;cases h
    | some z=>rw[hz] at h;rw[Qaz hz];exact h
theorem QcO (d:Ye H G){name:Nat}(E:look G name=none){o:Oper}{r:R}(h:aop cx sym orc H name ev o=some r):aop cx sym orc G name ev o=some r:=by
 cases hop:o.op with
 | alloc j =>
  simp only[aop,hop] at h ⊢;split at h;case h_2=>cases h
  rename_i z T _;simp only[T,E];exact h
 | box j x =>
  simp only[aop,hop] at h ⊢;split at h;case h_2=>cases h
  rename_i cs P _;simp only[P,E];exact h
 | buildSlice t len parts =>
  simp only[aop,hop] at h ⊢;cases hlt:cx.Lt t len with
  | true =>
   simp only[hlt] at h ⊢;unfold QrC at h ⊢;split at h;case h_2=>cases h
   rename_i j C _;simp only[C,E];split at h;case h_2=>cases h
   split at h;case h_2=>cases h
   rename_i es K;obtain⟨F,J⟩:=JY d _ _ _ _ K;simp only[F];exact h
  | false =>
  simp only[hlt] at h ⊢;cases hpe:US 0 (parts.toList.map fun p=>(p.1,ev p.2)) with
  | none =>
   simp only[hpe] at h ⊢;split at h;case h_2=>cases h
   split at h;case h_2=>cases h
   split at h;case h_2=>cases h
   rename_i es N K;obtain⟨F,J⟩:=JY d _ _ _ _ K;simp only[F];rw[Vm d N J];exact h
  | some l=>cases l with
   | nil =>
   simp only[hpe] at h ⊢;split at h;case h_2=>cases h
   split at h;case h_2=>cases h
   split at h;case h_2=>cases h
   rename_i es N K;obtain⟨F,J⟩:=JY d _ _ _ _ K;simp only[F];rw[Vm d N J];exact h
   | cons x xs =>
    simp only[hpe] at h ⊢;unfold yu at h ⊢;split at h;case h_2=>cases h
    rename_i j C _;simp only[C,E];exact h
 | load t a =>
  simp only[aop,hop] at h ⊢;split at h
  ·rename_i s g b ver sz i off u Q e;split at h;case h_2=>cases h
   rename_i x ob o' M;simp only[u,Q,QcX d e M,yS d M];exact h
  ·rename_i s g x off u Q e;simp only[u,Q,Qb8 d e];exact h
  ·cases h
 | store t a x=>simp only[aop,hop] at h ⊢;exact Qah d h
 | nilCheck x =>
  simp only[aop,hop] at h ⊢;split at h
  ·rename_i b v s i f e;split at h;case h_2=>cases h
   rename_i hc;simp only[e,Gi d hc];exact h
  ·exact h
  ·exact h
  ·exact h
  ·cases h
 | makeSlice t l c =>
  simp only[aop,hop] at h ⊢;split at h;case h_2=>cases h
  rename_i j kn n km m C el V X;simp only[C,el,V,E];exact h
 | slice t x lo hi mx =>
  simp only[aop,hop] at h ⊢;split at h
  ·rename_i b ver sz i off W;unfold EV at h ⊢;split at h;case h_2=>cases h
   rename_i O C;simp only[QaY d O,C];exact h
  ·cases hq:Yq cx sym orc H t (ev x) (lo.map ev) (hi.map ev) (mx.map ev) with
   | some q =>
    rw[hq] at h;rw[yW d hq];exact h
   | none =>
    rw[hq] at h;simp only at h;cases hq2:zX cx sym orc H t (ev x) (lo.map ev) (hi.map ev) (mx.map ev) with
    | some q2 =>
     rw[hq2] at h;rw[jN d hq hq2,Qb0 d hq2];exact h
    | none =>
     rw[hq2] at h;simp only at h;rw[yV d hq h,QbZ d hq2 h];exact Qai d h
 | fieldAddr s x f =>
  simp only[aop,hop] at h ⊢;split at h;case h_2=>cases h
  split at h;case h_2=>cases h
  split at h
  ·rename_i b v sz i off T e;split at h;case h_2=>cases h
   rename_i hc;simp only[T,e,Gi d hc];exact h
  ·exact h
  ·cases h
 | indexAddr t x ix =>
  simp only[aop,hop] at h ⊢;split at h;case h_2=>cases h
  exact zY d h
 | call c =>
  obtain⟨A,U,ats⟩:=c;cases A with
  | builtin b =>
   simp only[aop,hop] at h ⊢;exact jO d E h (fun x v F J=>(uW J).1 F)
  | _=>simp only[aop,hop] at h;cases h
 | makeMap t q =>
  simp only[aop,hop] at h ⊢;split at h;case h_2=>cases h
  simp only[E];exact h
 | mapUpdate t m k x=>simp only[aop,hop] at h ⊢;exact G1 d h
 | insert t m k x=>simp only[aop,hop] at h ⊢;exact G1 d h
 | lookup t m k ok=>simp only[aop,hop] at h ⊢;exact yZ d h
 | range t x =>
  simp only[aop,hop] at h ⊢;unfold yX at h ⊢;split at h;case h_2=>cases h
  rename_i C S K;simp only[C,S,E];exact h
 | next x isS =>
  simp only[aop,hop] at h ⊢;cases isS with
  | false=>cases h
  | true =>
   simp only at h ⊢;unfold Qbq at h ⊢;split at h;case h_2=>cases h
   rename_i Y;rw[Qax d Y];exact h
 | binOp op t x y yt =>
  simp only[aop,hop] at h ⊢;cases ha:(ev x).toV<;>cases hb:(ev y).toV<;>simp only[ha,hb] at h ⊢<;>first|exact h|skip
  all_goals exact yz d h
 | convert s t x =>
  simp only[aop,hop] at h ⊢;cases ha:(ev x).toV with
  | some a=>rw[ha] at h;exact h
  | none =>
   rw[ha] at h;simp only at h ⊢;unfold ue at h ⊢;split at h;case h_2=>cases h
   rename_i e ds N u Z L;simp only[u,Z,(Xy d L).1];exact h
 | _=>simp only[aop,hop] at h ⊢;exact h
end
theorem Qbe {x:AV}{b:Nat}(h:ptrB x=some b):∃v s i o,x=.ptr b v s i o:=by cases x<;>first|(cases h;exact⟨_,_,_,_,rfl⟩)|cases h
theorem QcP {cx:Cx}{H G:List (Nat×Blk)}{sym:Bool}{orc:List Orc}{ev:Operand->AV}{name b:Nat}{o:Oper}{r:R}(g:Xx ev o=some b)(hc:∀v,GQ H b v=true->GQ G b v=true)(h:aop cx sym orc H name ev o=some r):aop cx sym orc G name ev o=some r:=by
 unfold Xx at g;split at g
 ·rename_i s x f d;obtain⟨v,s',i,off,p⟩:=Qbe g;simp only[aop,d,p] at h ⊢;split at h;case h_2=>cases h
  rename_i F m;split at h;case h_2=>cases h
  rename_i n C;split at h
  ·rename_i l e;cases e;split at h;case h_2=>cases h
   rename_i c;simp only[m,C,l,hc _ c];exact h
  ·rename_i l e;cases e
  ·cases h
 ·rename_i t x K d;obtain⟨v,s',i,off,p⟩:=Qbe g;simp only[aop,d,p] at h ⊢;split at h;case h_2=>cases h
  rename_i k j A;have z:∀{u:List Orc} {j:Int} {q:R},Ve cx sym u H t (.ptr b v s' i off) j=some q->Ve cx sym u G t (.ptr b v s' i off) j=some q:=by
   intro u j q a;unfold Ve at a ⊢;split at a
   ·rename_i len y J;split at a;case h_2=>cases a
    rename_i l e;simp only at a ⊢;split at a;case h_2=>cases a
    rename_i c;simp only[l,e,hc _ c];exact a
   ·split at a
    ·cases a
    ·simp only at a;cases a
   ·cases a
  unfold YP at h ⊢;split at h
  ·rename_i L M;split at h;case h_2=>cases h
   rename_i q a;rw[z a];exact h
  ·rename_i E;exact z h
 ·cases g
section
variable {cx:Cx}{H G:List (Nat×Blk)}{sym:Bool}{orc:List Orc}{ev ev' : Operand->AV}
theorem Qb2 {o:Oper}(h:∀x,x∈o.op.operands.toList->ev x=ev' x){name:Nat}:aop cx sym orc H name ev o=aop cx sym orc H name ev' o:=by
 have r:∀(l:List Operand),(∀x,x∈l->x∈o.op.operands.toList)->l.map ev=l.map ev':=fun l v=>List.map_congr_left fun x e=>h x (v x e);cases hop:o.op with
 | move x=>simp only[aop,hop];rw[h x (by simp[hop,Op.operands])]
 | assign x=>simp only[aop,hop];rw[h x (by simp[hop,Op.operands])]
 | pick c a b=>simp only[aop,hop];rw[h c (by simp[hop,Op.operands]),h a (by simp[hop,Op.operands]),h b (by simp[hop,Op.operands])]
 | box t x=>simp only[aop,hop];rw[h x (by simp[hop,Op.operands])]
 | build t parts =>
  simp only[aop,hop];have:(parts.toList.map fun p=>(p.1,ev p.2))=(parts.toList.map fun p=>(p.1,ev' p.2)):=List.map_congr_left fun p hp=>by rw[h p.2 (by simp only[hop,Op.operands,List.mem_map];exact⟨p,hp,rfl⟩)]
  rw[this]
 | buildSlice t n parts =>
  simp only[aop,hop];have:(parts.toList.map fun p=>(p.1,ev p.2))=(parts.toList.map fun p=>(p.1,ev' p.2)):=List.map_congr_left fun p hp=>by rw[h p.2 (by simp only[hop,Op.operands,List.mem_map];exact⟨p,hp,rfl⟩)]
  rw[this]
 | load t a=>simp only[aop,hop];rw[h a (by simp[hop,Op.operands])]
 | store t a x=>simp only[aop,hop];rw[h a (by simp[hop,Op.operands]),h x (by simp[hop,Op.operands])]
 | nilCheck x=>simp only[aop,hop];rw[h x (by simp[hop,Op.operands])]
 | binOp op t x y yt=>simp only[aop,hop];rw[h x (by simp[hop,Op.operands]),h y (by simp[hop,Op.operands])]
 | unOp op t x=>simp only[aop,hop];rw[h x (by simp[hop,Op.operands])]
 | convert s t x=>simp only[aop,hop];rw[h x (by simp[hop,Op.operands])]
 | makeFunc f first cap =>
  simp only[aop,hop];rw[r first.toList (fun x e=>by simp[hop,Op.operands];left;simpa using e),r cap.toList (fun x e=>by simp[hop,Op.operands];right;simpa using e)]
 | makeSlice t l c=>simp only[aop,hop];rw[h l (by simp[hop,Op.operands]),h c (by simp[hop,Op.operands])]
 | slice t x lo hi mx =>
  simp only[aop,hop];have u:∀q:Option Operand,(∀x,q=some x->x∈o.op.operands.toList)->q.map ev=q.map ev':=fun q z=>by
   cases q with
   | none=>rfl
   | some x=>simp only[Option.map_some];rw[h x (z x rfl)]
  rw[h x (by simp[hop,Op.operands]),u lo (fun y j=>by subst j;simp[hop,Op.operands]),u hi (fun y j=>by subst j;simp[hop,Op.operands]),u mx (fun y j=>by subst j;simp[hop,Op.operands])]
 | fieldAddr s x f=>simp only[aop,hop];rw[h x (by simp[hop,Op.operands])]
 | field s x f=>simp only[aop,hop];rw[h x (by simp[hop,Op.operands])]
 | indexAddr t x ix=>simp only[aop,hop];rw[h x (by simp[hop,Op.operands]),h ix (by simp[hop,Op.operands])]
 | index t x ix=>simp only[aop,hop];rw[h x (by simp[hop,Op.operands]),h ix (by simp[hop,Op.operands])]
 | extract x i=>simp only[aop,hop];rw[h x (by simp[hop,Op.operands])]
 | mapUpdate t m k x=>simp only[aop,hop];rw[h m (by simp[hop,Op.operands]),h k (by simp[hop,Op.operands]),h x (by simp[hop,Op.operands])]
 | insert t m k x=>simp only[aop,hop];rw[h m (by simp[hop,Op.operands]),h k (by simp[hop,Op.operands]),h x (by simp[hop,Op.operands])]
 | lookup t m k ok=>simp only[aop,hop];rw[h m (by simp[hop,Op.operands]),h k (by simp[hop,Op.operands])]
 | range t x=>simp only[aop,hop];rw[h x (by simp[hop,Op.operands])]
 | next x isS=>simp only[aop,hop];rw[h x (by simp[hop,Op.operands])]
 | call c =>
  obtain⟨d,g,ats⟩:=c;cases d with
  | builtin b =>
   simp only[aop,hop];rw[r g.toList (fun x e=>by simp[hop,Op.operands,Call.operands];simpa using e)]
  | _=>simp only[aop,hop]
 | _=>simp only[aop,hop]
theorem ED {p q:Rec->Bool}{tm:List (Nat×AV)}{t:Nat}:∀(recs:List Rec),(∀r,r∈recs->r.dst=some t->p r=q r)->look (VX (recs.filter p)++tm) t=look (VX (recs.filter q)++tm) t
 | [],_=>rfl
 | r::l,h=>by
  have d:=ED (p:=p) (q:=q) (tm:=tm) (t:=t) l (fun i c=>h i (jmj _ c));have hc:∀(f:Rec->Bool),(r::l).filter f=if f r then r::l.filter f else l.filter f:=fun f=>by simp[List.filter_cons]
  by_cases b:r.dst=some t
  ·have:=h r jMj b;rw[hc,hc,this];split
   ·simp only[VX,b,List.cons_append,Qd]
   ·exact d
  ·have a:∀f:Rec->Bool,look (VX ((r::l).filter f)++tm) t=look (VX (l.filter f)++tm) t:=by
    intro f;rw[hc];split
    ·simp only[VX];split
     ·rename_i u g;rw[List.cons_append,Qc];intro e;subst e;exact b g
     ·rfl
    ·rfl
   rw[a,a,d]
theorem UD {p q:Rec->Bool}{hp:List (Nat×Blk)}{b:Nat}:∀(recs:List Rec),(∀r,r∈recs->look r.up b≠none->p r=q r)->look (Wx (recs.filter p)++hp) b=look (Wx (recs.filter q)++hp) b
 | [],_=>rfl
 | r::l,h=>by
  have d:=UD (p:=p) (q:=q) (hp:=hp) (b:=b) l (fun e c=>h e (jmj _ c));have hc:∀(f:Rec->Bool),(r::l).filter f=if f r then r::l.filter f else l.filter f:=fun f=>by simp[List.filter_cons]
  cases hu:look r.up b with
  | some k =>
   have:=h r jMj (by rw[hu];simp);rw[hc,hc,this];split
   ·simp only[Wx,List.append_assoc];rw[Wl r.up,Wl r.up,hu]
   ·exact d
  | none =>
   have a:∀f:Rec->Bool,look (Wx ((r::l).filter f)++hp) b=look (Wx (l.filter f)++hp) b:=by
    intro f;rw[hc];split
    ·simp only[Wx,List.append_assoc];rw[Wl,hu]
    ·rfl
   rw[a,a,d]
theorem VZ {p:Rec->Bool}{hp:List (Nat×Blk)}{b:Nat}{k:Blk}:∀(recs:List Rec),look (Wx (recs.filter p)++hp) b=some k->(∃r,r∈recs/\p r=true/\look r.up b≠none)\/look hp b=some k
 | [],h=>.inr h
 | r::l,h=>by
  rw[List.filter_cons] at h;split at h
  ·rename_i e;simp only[Wx,List.append_assoc] at h;rw[Wl] at h;cases hu:look r.up b with
   | some g=>exact .inl ⟨r,jMj,e,by rw[hu];simp⟩
   | none =>
    rw[hu] at h;obtain⟨f,a,c,d⟩|h:=VZ l h
    ·exact .inl ⟨f,jmj _ a,c,d⟩
    ·exact .inr h
  ·obtain⟨f,a,c,d⟩|h:=VZ l h
   ·exact .inl ⟨f,jmj _ a,c,d⟩
   ·exact .inr h
theorem Y8 (a:Nat):∀(recs:List Rec),Kc a recs=recs.filter fun r=>a.testBit r.i
 | []=>rfl
 | r::l=>by simp only[Kc,List.filter_cons];rw[Y8 a l];cases a.testBit r.i<;>rfl
end
theorem GI {p:Rec->Bool}{hp:List (Nat×Blk)}{b:Nat}{R:Rec}{k:Blk}(d:look R.up b=some k)(a:p R=true):∀(recs:List Rec),recs.Pairwise (fun x y=>y.i<x.i)->R∈recs ->
  (∀r,r∈recs->p r=true->look r.up b≠none->r.i<=R.i)->look (Wx (recs.filter p)++hp) b=some k
 | [],_,h,_=>by simp at h
 | r::l,hs,h,hno=>by
  rw[List.filter_cons];rw[List.pairwise_cons] at hs;by_cases f:r=R
  ·subst f;rw[jTj a];simp only[Wx,List.append_assoc];rw[Wl,d]
  ·have e:R∈l:=by simpa[Ne.symm f] using h
   have m:=hs.1 R e;have g:=GI (hp:=hp) d a l hs.2 e (fun n j=>hno n (jmj _ j));split
   ·rename_i c;simp only[Wx,List.append_assoc];rw[Wl];cases hu:look r.up b with
    | none=>exact g
    | some k' =>
     have:=hno r jMj c (by rw[hu];simp);omega
   ·exact g
theorem zD {p:Rec->Bool}{tm:List (Nat×AV)}{t:Nat}{R:Rec}(d:R.dst=some t)(a:p R=true):∀(recs:List Rec),recs.Pairwise (fun x y=>y.i<x.i)->R∈recs ->
  (∀r,r∈recs->p r=true->r.dst=some t->r.i<=R.i)->look (VX (recs.filter p)++tm) t=some R.val
 | [],_,h,_=>by simp at h
 | r::l,hs,h,hno=>by
  rw[List.filter_cons];rw[List.pairwise_cons] at hs;by_cases g:r=R
  ·subst g;rw[jTj a];simp only[VX,d,List.cons_append,Qd]
  ·have f:R∈l:=by simpa[Ne.symm g] using h
   have k:=hs.1 R f;have c:=zD (tm:=tm) d a l hs.2 f (fun n j=>hno n (jmj _ j));split
   ·rename_i b;simp only[VX];split
    ·rename_i u m;rw[List.cons_append,Qc]
     ·exact c
     ·intro e;subst e;have:=hno r jMj b m;omega
    ·exact c
   ·exact c
theorem VA {hp:List (Nat×Blk)}{b:Nat}:WZ hp b=true↔look hp b≠none:=by unfold WZ;cases look hp b<;>simp
theorem KT {d:Type}{l:List (Nat×d)}{b:Nat}(h:look l b≠none):∃x,(b,x)∈l:=by
 induction l with
 | nil=>exact absurd rfl h
 | cons p l ih =>
  obtain⟨k,x⟩:=p;by_cases a:k=b
  ·subst a;exact⟨x,jMj⟩
  ·rw[Qc _ _ a] at h;obtain⟨y,c⟩:=ih h;exact⟨y,jmj _ c⟩
structure DOk (ops:Array Oper) (masks:List Nat) (base:Nat) (s:St) (recs:List Rec):Prop where
 spec:∀(j:Nat) (o:Oper),nth ops.toList j=some o->W1 masks j=QaD masks o j/\(∀e,e∈o.after.toList->Region.binds .any e=true->e.on<j)
 trans:∀j,j<ops.toList.length->∀i,i<j->(W1 masks j).testBit i=true->∀q,(W1 masks i).testBit q=true->(W1 masks j).testBit q=true
 tmps:∀i j,i<ops.toList.length->j<ops.toList.length->KB ops masks i j=true
 blks:∀r q,r∈recs->q∈recs->JL ops masks base r q=true
 names:∀r,r∈recs->∀b,look r.up b≠none->(b=base+r.i/\look s.hp b=none)\/(b≠base+r.i/\(look s.hp b≠none\/(∃i,i<r.i/\b=base+i/\ZS masks i r.i=true)\/base+ops.toList.length<=b))
 free:∀i,i<ops.toList.length->look s.hp (base+i)=none
 touch:∀r,r∈recs->Ky base r=true->Yj ops r.i=true
 dst:∀r,r∈recs->∀d,r.dst=some d->d<s.nt
 pivs:∀r,r∈recs->r.piv=true->∀q,q∈recs->q.i=r.i\/ZS masks q.i r.i=true\/ZS masks r.i q.i=true\/q.up=[]
theorem uY {ops:Array Oper}{masks:List Nat}{base:Nat}{s:St}{recs:List Rec}(h:yN ops masks base s recs=true):DOk ops masks base s recs:=by
 simp only[yN,jAj] at h;obtain⟨⟨⟨⟨⟨⟨⟨⟨K,A⟩,C⟩,G⟩,L⟩,g⟩,M⟩,N⟩,v⟩:=h;have O:∀j,j<ops.toList.length->∃o,nth ops.toList j=some o/\W1 masks j=QaD masks o j/\(∀e,e∈o.after.toList->Region.binds .any e=true->e.on<j) /\
   ∀i,i<j->(W1 masks j).testBit i=true->(W1 masks i &&& W1 masks j)=W1 masks i:=by
  intro j n;simp only[Qbj,List.all_eq_true,List.mem_range] at A;have:=A j n;split at this
  ·rename_i o z;simp only[jAj,List.all_eq_true,List.mem_range] at this;refine⟨o,z,ZZ this.1.1,fun e u m=>?_,fun i f m=>?_⟩
   ·have:=this.1.2 e u;rw[m] at this;simpa using this
   ·have:=this.2 i f;rw[m] at this;simpa using this
  ·cases this
 refine⟨fun j o z=>?_,fun j n i f m q t=>?_,fun i j f n=>?_,fun r q c t=>?_,fun r c b m=>?_,fun i f=>?_,fun r c S=>?_,fun r c d P=>?_,fun r c hp q t=>?_⟩
 ·have n:j<ops.toList.length:=by rw[ZR] at z;exact(jGj z).1
  obtain⟨o',p,K,A,_⟩:=O j n;rw[z] at p;cases p;exact⟨K,A⟩
 ·obtain⟨o',p,_,_,C⟩:=O j n;have:=C i f m;rw[<-this,Nat.testBit_and,jAj] at t;exact t.2
 ·simp only[List.all_eq_true,List.mem_range] at C;exact C i f j n
 ·simp only[List.all_eq_true,Bool.or_eq_true,Bool.not_eq_true'] at G;obtain h|h:=G r c
  ·obtain E|E:=G q t
   ·simp[JL,h,E]
   ·have:=E r c;unfold JL at this ⊢;simp only[Bool.or_eq_true,jAj] at this ⊢;obtain((a|a)|a)|a:=this
    ·exact .inl (.inl (.inr a))
    ·exact .inl (.inl (.inl a))
    ·exact .inl (.inr (by have:=jqj a;rw[this];exact Nat.beq_refl _))
    ·exact .inr ⟨a.2,a.1⟩
  ·exact h q t
 ·simp only[List.all_eq_true] at L;obtain⟨k,Q⟩:=KT m;have:=L r c _ Q;simp only at this;split at this
  ·rename_i u;refine .inl ⟨ZZ u,?_⟩;simp only[Bool.not_eq_true'] at this;cases hl:look s.hp b with
   | none=>rfl
   | some x=>simp[WZ,hl] at this
  ·rename_i u;refine .inr ⟨fun e=>(by rw[<-e,Nat.beq_refl] at u;cases u),?_⟩;simp only[Bool.or_eq_true,List.any_eq_true,List.mem_range,jAj] at this;obtain(h|⟨i,f,H,J⟩)|h:=this
   ·exact .inl (VA.1 h)
   ·exact .inr (.inl ⟨i,f,ZZ H,J⟩)
   ·exact .inr (.inr (Nat.le_of_ble_eq_true h.2))
 ·rw[Bool.or_eq_true] at g;obtain g|g:=g
  ·cases hl:look s.hp (base+i) with
   | none=>rfl
   | some x =>
    obtain⟨y,T⟩:=KT (l:=s.hp) (b:=base+i) (by rw[hl];simp);simp only[VU,List.all_eq_true] at g;have:=g _ T;simp only[Nat.blt_eq] at this;omega
  ·simp only[List.all_eq_true,List.mem_range] at g;have:=g i f;simp only[Bool.not_eq_true'] at this;cases hl:look s.hp (base+i) with
   | none=>rfl
   | some x=>simp[WZ,hl] at this
 ·simp only[List.all_eq_true] at M;have:=M r c;rw[S] at this;simpa using this
 ·simp only[List.all_eq_true] at N;have:=N r c;rw[P] at this;simpa using this
 ·simp only[List.all_eq_true] at v;have:=v r c;simp only[hp,Bool.not_true,Bool.false_or,List.all_eq_true,Bool.or_eq_true] at this;obtain((h|h)|h)|h:=this q t
  ·exact .inl (ZZ h)
  ·exact .inr (.inl h)
  ·exact .inr (.inr (.inl h))
  ·exact .inr (.inr (.inr (List.isEmpty_iff.1 h)))
theorem Q5 {masks:List Nat}{i j:Nat}:ZS masks i j=(W1 masks j).testBit i:=by unfold ZS W1;cases nth masks j<;>simp
theorem EI (masks:List Nat)(j:Nat)(i:Nat):∀(l:List Edge) (m:Nat),(l.foldl (fun s e=>match Region.binds .any e&&Nat.blt e.on j with
  | true=>s ||| (2 ^ e.on ||| (match nth masks e.on with|some m=>m|none=>0))
  | false=>s) m).testBit i=true->m.testBit i=true\/∃e,e∈l/\Region.binds .any e=true/\e.on<j/\(e.on=i\/(W1 masks e.on).testBit i=true)
 | [],m,h=>.inl h
 | e::l,m,h=>by
  simp only[List.foldl_cons] at h;obtain h|⟨a,b,c⟩:=EI masks j i l _ h
  ·split at h
   ·rename_i hc;simp only[jAj] at hc;rw[Nat.testBit_or,Nat.testBit_or] at h;simp only[Bool.or_eq_true] at h;obtain h|h|h:=h
    ·exact .inl h
    ·rw[Nat.testBit_two_pow] at h;exact .inr ⟨e,jMj,hc.1,by simpa using hc.2,.inl (of_decide_eq_true h)⟩
    ·exact .inr ⟨e,jMj,hc.1,by simpa using hc.2,.inr h⟩
   ·exact .inl h
  ·exact .inr ⟨a,jmj _ b,c⟩
theorem Ue {ops:Array Oper}{masks:List Nat}{base:Nat}{s:St}{recs:List Rec}(d:DOk ops masks base s recs):∀(j:Nat),j<ops.toList.length->∀i,(W1 masks j).testBit i=true->i<j:=by
 intro j;induction j using Nat.strongRecOn with
 | _ j k =>
  intro f i b;obtain⟨o,g⟩:∃o,nth ops.toList j=some o:=⟨ops.toList[j],by rw[ZR];simp[f]⟩
  rw[(d.spec j o g).1] at b;obtain h|⟨e,_,_,c,a⟩:=EI masks j i _ 0 b
  ·simp at h
  ·obtain a|a:=a
   ·omega
   ·have:=k e.on c (by omega) i a;omega
theorem QaC {ops:Array Oper}{masks:List Nat}{base:Nat}{s:St}{recs:List Rec}(k:DOk ops masks base s recs){S:Nat->Bool}(b:∀j,S j=true->∀i,ZS masks i j=true->S i=true){j:Nat}{o:Oper}
  (l:nth ops.toList j=some o) (g:∀e,e∈o.after.toList->Region.binds .any e=true->S e.on=true):∀i,ZS masks i j=true->S i=true:=by
 intro i f;rw[Q5,(k.spec j o l).1] at f;obtain h|⟨e,c,d,m,a⟩:=EI masks j i _ 0 f
 ·simp at h
 ·obtain a|a:=a
  ·rw[<-a];exact g e c d
  ·exact b e.on (g e c d) i (by rw[Q5];exact a)
section
variable {cx:Cx}{F:Nat->Prop}{ρ0:Nat->Value}{w0:World}{ops:Array Oper}{masks:List Nat}{base:Nat}{s:St}{recs:List Rec}
def hpS (s:St)(recs:List Rec)(S:Nat->Bool):List (Nat×Blk):=Wx (recs.filter fun r=>S r.i)++s.hp
def tmS (s:St)(recs:List Rec)(S:Nat->Bool):List (Nat×AV):=VX (recs.filter fun r=>S r.i)++s.tm
structure DInv (cx:Cx) (ops:Array Oper) (ds0:List Deferred) (F:Nat->Prop) (ρ0:Nat->Value) (w0:World) (masks:List Nat) (s:St) (recs:List Rec) (S:Nat->Bool) (a:Act) (w:World):Prop where
 clo:∀j,S j=true->∀i,ZS masks i j=true->S i=true
 old:∀t x,look s.tm t=some x->(∀r,r∈recs->S r.i=true->r.dst≠some t)->VR w0 (MM F s.hp ρ0) s.hp ρ0 x (a.tmps.getD t undef)
 mov:∀r,r∈recs->S r.i=true->∀p t0 t x,nth ops.toList r.i=some p->p.op=.move (.tmp t0)->p.guard=none->p.dst=some t->(∀q,q∈recs->q.i<r.i->q.dst≠some t0)->(∀q,q∈recs->S q.i=true->q.dst=some t->q.i=r.i)->look s.tm t0=some x->VR w0 (MM F s.hp ρ0) s.hp ρ0 x (a.tmps.getD t undef)
 sim:∃ρ,HSim cx F (hpS s recs S) ρ w/\TSim F (tmS s recs S) (hpS s recs S) ρ a w/\a.tmps.size=s.nt/\a.defers=ds0/\Steps1 s.hp ρ0 w0 (hpS s recs S) ρ w
structure Recs (cx:Cx) (call:Kj) (yc:Yz) (ops:Array Oper) (masks:List Nat) (base:Nat) (s:St) (recs:List Rec) (n:Nat):Prop where
 sorted:recs.Pairwise fun x y=>y.i<x.i
 lt:∀r,r∈recs->r.i<n
 all:∀j,j<n->∃r,r∈recs/\r.i=j
 told:∀r,r∈recs->∃orc ob o',Xc cx call yc ops masks base s r.i (recs.filter fun q=>Nat.blt q.i r.i) orc=some (r,ob,o')/\∀p,p∈ob->p
theorem Recs.uniq {call:Kj}{f:Yz}{n:Nat}(h:Recs cx call f ops masks base s recs n){r q:Rec}(d:r∈recs)(e:q∈recs)(g:r.i=q.i):r=q:=by
 have c:=h.sorted;clear h;induction recs with
 | nil=>simp at d
 | cons x l ih =>
  rw[List.pairwise_cons] at c;obtain rfl|b:=List.mem_cons.1 d<;>obtain rfl|a:=List.mem_cons.1 e
  ·rfl
  ·have:=c.1 q a;omega
  ·have:=c.1 r b;omega
  ·exact ih b a c.2
theorem qU {r:Rec}{t:Nat}:kM r t=true↔r.dst=some t:=by
 unfold kM;cases h:r.dst with
 | none=>simp
 | some d=>simp
theorem wG {t:Nat}:∀{l:List Rec} {r:Rec},yC t l=some r->r∈l/\r.dst=some t
 | [],r,h=>by cases h
 | q::l,r,h=>by
  unfold yC at h;cases hq:kM q t with
  | true =>
   rw[hq] at h;cases h;exact⟨jMj,qU.1 hq⟩
  | false =>
   rw[hq] at h;obtain⟨a,b⟩:=wG h;exact⟨jmj _ a,b⟩
theorem U0 {H:List (Nat×Blk)}{nm i:Nat}{dst:Option Tmp}{p:Nat×Blk}{a:RC}{R:Rec}{d:List Prop}{o' : List Orc}(h:wS H nm i dst p a=some (R,d,o')) :
  ∃b k,p=(b,k)/\R={ i,dst,val:=.own nm 0,up:=[(nm,stamp k)] }/\a.val=.own b k.ver/\d=a.ob/\look H b=none/\qQ k=true:=by
 unfold wS at h;split at h;case h_2=>cases h
 rename_i b ver' j;split at h;case h_2=>cases h
 rename_i hc;simp only[jAj,Bool.not_eq_true'] at hc;have c:=ZZ hc.1.1.2;have e:=ZZ hc.1.2;simp only[jIj,jPj] at h;obtain⟨f,g,l⟩:=h;refine⟨p.1,p.2,rfl,f.symm,?_,g.symm,?_,hc.1.1.1⟩
 ·rw[j,c,e]
 ·rw[c];cases hl:look H b with
  | none=>rfl
  | some k =>
   have:=VA.2 (show look H b≠none by rw[hl];simp);rw[hc.2] at this;cases this
theorem VQ {call:Kj}{f:Yz}{i:Nat}{e:List Rec}{orc:List Orc}{r:Rec}{d:List Prop}{o' : List Orc}(h:Xc cx call f ops masks base s i e orc=some (r,d,o')) :
  r.i=i/\∃o,nth ops.toList i=some o/\r.dst=o.dst:=by
 unfold Xc at h;split at h;case h_2=>cases h
 rename_i o b a g;simp only at h;split at h
 ·cases h
 ·simp only[jIj,jPj] at h;obtain⟨rfl,_⟩:=h;exact⟨rfl,o,a,rfl⟩
 ·split at h
  ·split at h
   ·split at h
    ·cases h
    split at h
    ·split at h;case h_2=>cases h
     simp only[jIj,jPj] at h;obtain⟨rfl,_⟩:=h;exact⟨rfl,o,a,rfl⟩
    ·simp only[jIj,jPj] at h;obtain⟨rfl,_⟩:=h;exact⟨rfl,o,a,rfl⟩
    ·cases h
   split at h
   ·split at h;case h_2=>cases h
    split at h;case h_2=>cases h
    split at h;case h_2=>cases h
    simp only[jIj,jPj] at h;obtain⟨rfl,_⟩:=h;exact⟨rfl,o,a,rfl⟩
   split at h
   ·cases h
   split at h;case h_2=>cases h
   split at h
   ·split at h;case h_2=>cases h
    simp only[jIj,jPj] at h;obtain⟨rfl,_⟩:=h;exact⟨rfl,o,a,rfl⟩
   ·simp only[jIj,jPj] at h;obtain⟨rfl,_⟩:=h;exact⟨rfl,o,a,rfl⟩
   ·obtain⟨_,_,_,c,_⟩:=U0 h;rw[c];exact⟨rfl,o,a,rfl⟩
   ·cases h
  ·split at h
   ·simp only[jIj,jPj] at h;obtain⟨rfl,_⟩:=h;exact⟨rfl,o,a,rfl⟩
   split at h
   ·simp only[jIj,jPj] at h;obtain⟨rfl,_⟩:=h;exact⟨rfl,o,a,rfl⟩
   split at h
   ·cases h
   split at h
   ·split at h;case h_2=>cases h
    simp only[jIj,jPj] at h;obtain⟨rfl,_⟩:=h;exact⟨rfl,o,a,rfl⟩
   ·simp only[jIj,jPj] at h;obtain⟨rfl,_⟩:=h;exact⟨rfl,o,a,rfl⟩
theorem qg {call:Kj}{v:Yz}:∀(m k:Nat) (d recs:List Rec) (c f:List Prop) (a orc:List Orc),Kq cx call v ops masks base s (List.range' k m) d c a=some (recs,f,orc)->(∀p,p∈f->p) ->
  Recs cx call v ops masks base s d k->Recs cx call v ops masks base s recs (k+m)/\∀p,p∈c->p:=by
 intro m;induction m with
 | zero =>
  intro k d recs c f a orc h z g;simp only[List.range'_zero,Kq,jIj,jPj] at h;obtain⟨rfl,rfl,rfl⟩:=h;exact⟨g,z⟩
 | succ m ih =>
  intro k d recs c f a orc h z g;simp only[List.range'_succ,Kq] at h;split at h;case h_2=>cases h
  rename_i r u C t;obtain⟨y,_⟩:=VQ t;have n:∀q,q∈d->Nat.blt q.i k=true:=fun q e=>by simpa using g.lt q e
  -- what was owed before is owed at the end
  have A:∀(m k:Nat) (d recs:List Rec) (c f:List Prop) (a orc:List Orc),Kq cx call v ops masks base s (List.range' k m) d c a=some (recs,f,orc)->∀p,p∈c->p∈f:=by
   intro m;induction m with
   | zero=>intro k d recs c f a orc h p hp;simp only[List.range'_zero,Kq,jIj,jPj] at h;obtain⟨_,rfl,_⟩:=h;exact hp
   | succ m ihm =>
    intro k d recs c f a orc h p hp;simp only[List.range'_succ,Kq] at h;split at h;case h_2=>cases h
    exact ihm _ _ _ _ _ _ _ h p (by simp[hp])
  have l:=fun p hp=>z p (A _ _ _ _ _ _ _ _ h p hp);have o:Recs cx call v ops masks base s (r::d) (k+1):=by
   refine⟨List.pairwise_cons.2 ⟨fun q e=>by rw[y];exact g.lt q e,g.sorted⟩,fun q e=>?_,fun j P=>?_,fun q e=>?_⟩
   ·obtain rfl|e:=List.mem_cons.1 e
    ·omega
    ·have:=g.lt q e;omega
   ·by_cases L:j=k
    ·exact⟨r,jMj,by omega⟩
    ·obtain⟨q,e,K⟩:=g.all j (by omega);exact⟨q,jmj _ e,K⟩
   ·obtain rfl|e:=List.mem_cons.1 e
    ·refine⟨a,u,C,?_,fun p hp=>l p (by simp[hp])⟩;have:((q::d).filter fun x=>Nat.blt x.i q.i)=d:=by rw[List.filter_cons,jFj (by simp[Nat.blt_eq]),List.filter_eq_self.2];intro x N;rw[y];exact n x N
     rw[this,y];exact t
    ·obtain⟨O,b,o',H,J⟩:=g.told q e;refine⟨O,b,o',?_,J⟩;have M:=g.lt q e;have:((r::d).filter fun x=>Nat.blt x.i q.i)=d.filter fun x=>Nat.blt x.i q.i:=by rw[List.filter_cons,jFj];rw[Nat.blt_eq,y];omega
     rw[this];exact H
  obtain⟨E,G⟩:=ih (k+1) (r::d) recs (u++c) f C orc h z o;exact⟨by rw[show k+(m+1)=k+1+m from by omega];exact E,fun p hp=>G p (by simp[hp])⟩
end
section
variable {cx:Cx}{F:Nat->Prop}{ρ0:Nat->Value}{w0:World}{ops:Array Oper}{masks:List Nat}{base:Nat}{s:St}{recs:List Rec}{call:Kj}{yc:Yz}
theorem qX {a b:Nat}(h:b<=a):Nat.blt a b=false:=by
 cases hh:Nat.blt a b with
 | false=>rfl
 | true=>rw[Nat.blt_eq] at hh;omega
def ins (S:Nat->Bool)(j:Nat):Nat->Bool:=fun i=>S i || Nat.beq i j
theorem Y2 {r:Rec}{b:Nat}(c:look r.up b≠none)(a:b≠base+r.i):Ky base r=true:=by
 obtain⟨k,d⟩:=KT c;refine List.any_eq_true.2 ⟨_,d,?_⟩;simp only[Bool.not_eq_true'];cases h:Nat.beq b (base+r.i) with
 | false=>rfl
 | true=>exact absurd (ZZ h) a
theorem Qcs {r q:Rec}{b:Nat}(h:look q.up b≠none):E2 r q=true:=by
 unfold E2;split
 ·rename_i a;rw[a] at h;simp[look] at h
 ·rfl
theorem uK {r q:Rec}{b:Nat}(c:q.adr=false)(d:look r.up b≠none)(h:∀a,q.fp=some a->a.contains b=true):E2 r q=true:=by
 unfold E2;split
 ·rename_i a e _;obtain⟨x,f⟩:=KT d;exact List.any_eq_true.2 ⟨_,f,by rw[c,h a e];rfl⟩
 ·rfl
theorem QbH {r q:Rec}{b:Nat}{k:Blk}(e:(b,k)∈r.up)(h:E2 r q=false)(d:∀a,q.fp=some a->a.contains b=true):boxB k=true:=by
 unfold E2 at h;split at h
 ·rename_i a c _;have:=List.any_eq_false.1 h _ e;simp only[d a c,Bool.true_and,Bool.not_eq_true,Bool.not_eq_false',jAj] at this;simpa using this.2
 ·cases h
theorem kB {a:Type}:∀{l:List (Nat×a)} {b:Nat} {k:a},look l b=some k->(b,k)∈l
 | [],b,k,h=>by cases h
 | (c,x)::l,b,k,h=>by
  by_cases hc:c=b
  ·subst hc;rw[Qd] at h;cases h;exact jMj
  ·rw[Qc _ _ hc] at h;exact jmj _ (kB h)
theorem Qcw (p:Rec->Bool)(b:Nat):∀(recs:List Rec),recs.Pairwise (fun x y=>y.i<x.i)->(∀r,r∈recs->p r=true->look r.up b=none) \/
  ∃R' d,R'∈recs/\p R'=true/\look R'.up b=some d/\∀r,r∈recs->p r=true->look r.up b≠none->r.i<=R'.i
 | [],_=>.inl fun _ h=>by cases h
 | r::l,hs=>by
  rw[List.pairwise_cons] at hs;by_cases hp:p r=true/\look r.up b≠none
  ·right;cases hk:look r.up b with
   | none=>exact absurd hk hp.2
   | some d =>
    refine⟨r,d,jMj,hp.1,hk,fun q c _ _=>?_⟩;obtain rfl|c:=List.mem_cons.1 c
    ·exact jLj _
    ·exact Nat.le_of_lt (hs.1 q c)
  ·obtain h|⟨R',d,f,g,j,k⟩:=Qcw p b l hs.2
   ·left;intro q c a;obtain rfl|c:=List.mem_cons.1 c
    ·cases hk:look q.up b with
     | none=>rfl
     | some d=>exact absurd ⟨a,by rw[hk];simp⟩ hp
    ·exact h q c a
   ·right;refine⟨R',d,jmj _ f,g,j,fun q c a e=>?_⟩;obtain rfl|c:=List.mem_cons.1 c
    ·exact absurd ⟨a,e⟩ hp
    ·exact k q c a e
theorem UW (d:List Nat):∀(hp:List (Nat×Blk)) (b:Nat) (k:Blk),look (hp.filter fun p=>d.contains p.1) b=some k->d.contains b=true/\look hp b=some k
 | [],b,k,h=>by simp[look] at h
 | (c,x)::hp,b,k,h=>by
  rw[List.filter_cons] at h;by_cases a:c=b
  ·subst a;split at h
   ·rename_i hc;exact⟨hc,by rw[Qd] at h ⊢;exact h⟩
   ·rename_i hc;exact absurd (UW d hp c k h).1 hc
  ·split at h
   ·rw[Qc _ _ a] at h ⊢;exact UW d hp b k h
   ·rw[Qc _ _ a];exact UW d hp b k h
theorem QaW (l:DOk ops masks base s recs){r q:Rec}(m:r∈recs)(g:q∈recs){b:Nat}(c:look r.up b≠none)(a:look q.up b≠none)(d:r.i≠q.i)
  (e:r.i<ops.toList.length) (n:q.i<ops.toList.length) :
  ZS masks r.i q.i=true\/ZS masks q.i r.i=true:=by
 have j:∀r q:Rec,r∈recs->q∈recs->look r.up b≠none->look q.up b≠none->r.i≠q.i->r.i<ops.toList.length->b=base+r.i->ZS masks r.i q.i=true:=by
  intro r q m g c a d e p;obtain⟨k,_⟩|⟨k,f|⟨i,v,f,o⟩|f⟩:=l.names q g b a
  ·omega
  ·exact absurd (p ▸ l.free r.i e) f
  ·have:i=r.i:=by omega
   rw[<-this];exact o
  ·omega
 by_cases k:b=base+r.i
 ·exact .inl (j r q m g c a d e k)
 ·by_cases f:b=base+q.i
  ·exact .inr (j q r g m a c (Ne.symm d) n f)
  ·have t:=Y2 c k;have u:=Y2 a f;have:=l.blks r q m g;simp only[JL,Bool.or_eq_true,jAj,Bool.not_eq_true',t,l.touch q g u,Qcs (r:=r) a] at this;obtain((h|h)|h)|h:=this
   ·exact .inl h
   ·exact .inr h
   ·exact absurd (ZZ h) d
   ·simp at h
theorem kN {W:List Deferred}(c:Recs cx call yc ops masks base s recs ops.toList.length)(U:DOk ops masks base s recs){S:Nat->Bool}{a:Act}{w' : World}{R:Rec}(A:R∈recs)(hS:S R.i=false)
  (l:∀j,S j=true->∀i,ZS masks i j=true->S i=true) (a4:∀i,ZS masks i R.i=true->S i=true) {ρ' : Nat->Value} {v:Value}
  (L:∀t x,look s.tm t=some x->(∀r,r∈recs->S r.i=true->r.dst≠some t)->VR w0 (MM F s.hp ρ0) s.hp ρ0 x (a.tmps.getD t undef))
  (a0:∀r,r∈recs->S r.i=true->∀p o t x,nth ops.toList r.i=some p->p.op=.move (.tmp o)->p.guard=none->p.dst=some t->(∀q,q∈recs->q.i<r.i->q.dst≠some o)->(∀q,q∈recs->S q.i=true->q.dst=some t->q.i=r.i)->look s.tm o=some x->VR w0 (MM F s.hp ρ0) s.hp ρ0 x (a.tmps.getD t undef))
  (b2:∀p o,nth ops.toList R.i=some p->p.op=.move (.tmp o)->p.guard=none->v=a.tmps.getD o undef)
  (hs:HSim cx F (R.up++hpS s recs S) ρ' w') (ht:TSim F (tmS s recs S) (R.up++hpS s recs S) ρ' a w') (Q:a.tmps.size=s.nt) (a9:a.defers=W) (b4:Steps1 s.hp ρ0 w0 (R.up++hpS s recs S) ρ' w')
  (hv:VR w' (MM F (R.up++hpS s recs S) ρ') (R.up++hpS s recs S) ρ' R.val v):DInv cx ops W F ρ0 w0 masks s recs (ins S R.i) (a.put R.dst v) w':=by
 have H:=Ue U;have m:=c.lt R A;have M:∀b,look (hpS s recs (ins S R.i)) b=look (R.up++hpS s recs S) b:=by
  intro b;rw[Wl];cases hu:look R.up b with
  | some k =>
   simp only;refine GI hu (by simp[ins]) recs c.sorted A fun r g hp hb=>?_;by_cases K:r.i=R.i
   ·omega
   ·have f:S r.i=true:=by
     simp only[ins,Bool.or_eq_true] at hp;obtain h|h:=hp
     ·exact h
     ·exact absurd (ZZ h) K
    obtain h|h:=QaW U g A hb (by rw[hu];simp) K (c.lt r g) m
    ·have:=H R.i m r.i (by rw[<-Q5];exact h);omega
    ·have:=l r.i f R.i h;rw[hS] at this;cases this
  | none =>
   simp only;refine UD recs fun r g hb=>?_;have J:r≠R:=by intro e;subst e;exact hb hu
   have V:r.i≠R.i:=fun e=>J (c.uniq g A e);have:Nat.beq r.i R.i=false:=by
    cases h:Nat.beq r.i R.i with
    | false=>rfl
    | true=>exact absurd (ZZ h) V
   simp[ins,this]
 have b5:∀t,look (tmS s recs (ins S R.i)) t=if R.dst=some t then some R.val else look (tmS s recs S) t:=by
  intro t;by_cases d:R.dst=some t
  ·rw[jTj d];refine zD d (by simp[ins]) recs c.sorted A fun r g hp P=>?_;by_cases K:r.i=R.i
   ·omega
   ·have f:S r.i=true:=by
     simp only[ins,Bool.or_eq_true] at hp;obtain h|h:=hp
     ·exact h
     ·exact absurd (ZZ h) K
    have E:=U.tmps r.i R.i (c.lt r g) m;obtain⟨_,_,_,h1,_⟩:=c.told r g;obtain⟨_,x,n,b6⟩:=VQ h1;obtain⟨_,_,_,h2,_⟩:=c.told R A;obtain⟨_,y,hy,T⟩:=VQ h2;simp only[KB,Bool.or_eq_true] at E;obtain((h|h)|h)|h:=E
    ·have:=H R.i m r.i (by rw[<-Q5];exact h);omega
    ·have:=l r.i f R.i h;rw[hS] at this;cases this
    ·exact absurd (ZZ h) K
    ·rw[n,hy] at h;simp only[<-b6,<-T,P,d,Nat.beq_refl,Bool.not_true,Bool.and_false] at h;cases h
  ·rw[jFj d];refine ED recs fun r g P=>?_;have J:r≠R:=by intro e;subst e;exact d P
   have V:r.i≠R.i:=fun e=>J (c.uniq g A e);have:Nat.beq r.i R.i=false:=by
    cases h:Nat.beq r.i R.i with
    | false=>rfl
    | true=>exact absurd (ZZ h) V
   simp[ins,this]
 obtain⟨g1,g2⟩:=W0 M hs;have G:∀t,R.dst≠some t->(a.put R.dst v).tmps.getD t undef=a.tmps.getD t undef:=by
  intro t d;cases hdd:R.dst with
  | none=>rfl
  | some u =>
   simp only[Act.put];rw[Array.getD_eq_getD_getElem?,Array.getElem?_setIfInBounds,jFj (by intro e;subst e;exact d hdd),<-Array.getD_eq_getD_getElem?]
 refine⟨fun j hj i V=>?_,fun t x n a1=>?_,fun r g f p o t x hp O a3 a2 a6 a7 n=>?_,ρ',g1,?_,by rw[uA];exact Q,by rw[YX];exact a9,b4.trans g2⟩
 ·simp only[ins,Bool.or_eq_true] at hj ⊢;obtain h|h:=hj
  ·exact .inl (l j h i V)
  ·have:=ZZ h;subst this;exact .inl (a4 i V)
 ·rw[G t (a1 R A (by simp[ins]))];exact L t x n fun r g f=>a1 r g (by simp[ins,f])
 ·by_cases K:r.i=R.i
  ·have b3:=c.uniq g A K;subst b3;obtain⟨_,_,_,h1,_⟩:=c.told r g;obtain⟨_,y,hy,T⟩:=VQ h1;rw[hp] at hy;cases hy;have d:r.dst=some t:=by rw[T];exact a2
   have N:=U.dst r g t d;have a5:(a.put r.dst v).tmps.getD t undef=v:=by rw[d];simp only[Act.put];rw[Array.getD_eq_getD_getElem?,Array.getElem?_setIfInBounds,jTj rfl,jTj (by rw[Q];exact N)];rfl
   rw[a5,b2 p o hp O a3];refine L o x n fun q hq C a8=>?_;by_cases Y:q.i<r.i
   ·exact a6 q hq Y a8
   ·have J:q.i≠r.i:=fun e=>by rw[e,hS] at C;cases C
    have E:=U.tmps q.i r.i (c.lt q hq) m;obtain⟨_,_,_,h2,_⟩:=c.told q hq;obtain⟨_,z,hz,b7⟩:=VQ h2;simp only[KB,Bool.or_eq_true] at E;obtain((h|h)|h)|h:=E
    ·have:=H r.i m q.i (by rw[<-Q5];exact h);omega
    ·have:=l q.i C r.i h;rw[hS] at this;cases this
    ·exact absurd (ZZ h) J
    ·rw[hz,hp] at h;simp only[<-b7,a8,jAj,Bool.not_eq_true'] at h;have Z:(KK p ops).contains o=true:=by rw[List.contains_iff_mem];unfold KK;refine List.mem_append_left _ (List.mem_filterMap.2 ⟨.tmp o,?_,rfl⟩);rw[O];simp[Op.operands]
     rw[Z] at h;cases h.1
  ·have X : S r.i=true:=by
    simp only[ins,Bool.or_eq_true] at f;obtain h|h:=f
    ·exact h
    ·exact absurd (ZZ h) K
   have d:R.dst≠some t:=fun h=>K (a7 R A (by simp[ins]) h).symm;rw[G t d];exact a0 r g X p o t x hp O a3 a2 a6 (fun q hq C=>a7 q hq (by simp[ins,C])) n
 ·intro t x n;rw[b5] at n;by_cases d:R.dst=some t
  ·rw[jTj d] at n;simp only[jIj] at n;subst n;have N:=U.dst R A t d;rw[d];simp only[Act.put];rw[Array.getD_eq_getD_getElem?,Array.getElem?_setIfInBounds,jTj rfl,jTj (by rw[Q];exact N)];exact g2.vr hv
  ·rw[jFj d] at n;have:(a.put R.dst v).tmps.getD t undef=a.tmps.getD t undef:=by
    cases hdd:R.dst with
    | none=>rfl
    | some u =>
     simp only[Act.put];rw[Array.getD_eq_getD_getElem?,Array.getElem?_setIfInBounds,jFj (by intro e;subst e;exact d hdd),<-Array.getD_eq_getD_getElem?]
   rw[this];exact g2.vr (ht t x n)
theorem jx {tm a : List (Nat×AV)}{o:Oper}(h:∀t,t∈KK o ops->look tm t=look a t):Ju ops tm o=Ju ops a o:=by
 unfold Ju;split
 ·rfl
 ·rename_i j c e;split
  ·rfl
  ·rename_i g f;split
   ·rfl
   ·rename_i d b;rw[h d (by simp[KK,e,f,b])]
theorem XQ {tm a : List (Nat×AV)}{o:Oper}(h:∀t,t∈KK o ops->look tm t=look a t):∀x,x∈o.op.operands.toList->evA cx tm x=evA cx a x:=by
 intro x b;cases x with
 | tmp t =>
  simp only[evA];rw[h t (by simp only[KK,List.mem_append,List.mem_filterMap];exact .inl ⟨_,b,rfl⟩)]
 | _=>rfl
theorem QbK (a:Recs cx call yc ops masks base s recs ops.toList.length)(f:DOk ops masks base s recs){S:Nat->Bool}{R:Rec}(m:R∈recs)(n:S R.i=false)
  (c:∀j,S j=true->∀i,ZS masks i j=true->S i=true) (d:∀i,ZS masks i R.i=true->S i=true) {o:Oper} (y:nth ops.toList R.i=some o) :
  ∀t,t∈KK o ops->look (VX (recs.filter fun q=>Nat.blt q.i R.i)++s.tm) t=look (tmS s recs S) t:=by
 intro t z;refine ED recs fun r g k=>?_;by_cases p:r.i=R.i
 ·rw[p,n];exact qX (by omega)
 ·have b:=f.tmps r.i R.i (a.lt r g) (a.lt R m);obtain⟨_,_,_,u,_⟩:=a.told r g;obtain⟨_,x,A,l⟩:=VQ u;simp only[KB,Bool.or_eq_true] at b;obtain((h|h)|h)|h:=b
  ·have:=Ue f R.i (a.lt R m) r.i (by rw[<-Q5];exact h);rw[d r.i h];simpa[Nat.blt_eq] using this
  ·have v:=Ue f r.i (a.lt r g) R.i (by rw[<-Q5];exact h);have e:S r.i=false:=by
    cases hh:S r.i with
    | false=>rfl
    | true=>have:=c r.i hh R.i h;rw[n] at this;cases this
   rw[e];exact qX (by omega)
  ·exact absurd (ZZ h) p
  ·rw[A,y] at h;simp only[<-l,k] at h;simp only[jAj,Bool.not_eq_true'] at h;have:(KK o ops).contains t=true:=by simpa using z
   rw[this] at h;exact absurd h.1 (by simp)
theorem En {R:Rec}{o:Oper}(a:nth ops.toList R.i=some o):Yj ops R.i=wd o:=by simp[Yj,a]
theorem Qau (f:Recs cx call yc ops masks base s recs ops.toList.length)(p:DOk ops masks base s recs){S:Nat->Bool}{R:Rec}(V:R∈recs)(W:S R.i=false)
  (y:∀j,S j=true->∀i,ZS masks i j=true->S i=true) (z:∀i,ZS masks i R.i=true->S i=true) {o:Oper} (ho:nth ops.toList R.i=some o) {a:Nat} (Z:nth masks R.i=some a) (v:R.adr=false) :
  Ye (Xi masks s (recs.filter fun q=>Nat.blt q.i R.i) o a R.fp) (hpS s recs S):=by
 intro b k c;unfold Xi at c;split at c;case h_2=>simp[look] at c
 rename_i C;have l:(∀t,R.fp=some t->t.contains b=true)/\look (Wx (Kc a (recs.filter fun q=>Nat.blt q.i R.i))++s.hp) b=some k:=by
  split at c
  ·rename_i J;exact⟨fun t h=>(by rw[J] at h;cases h),c⟩
  ·rename_i t J;obtain⟨E,u⟩:=UW t _ b k c;exact⟨fun X h=>(by rw[J] at h;cases h;exact E),u⟩
 obtain⟨l,c⟩:=l;rw[Y8,List.filter_filter] at c;have m:W1 masks R.i=a:=by simp[W1,Z]
 rw[<-c];refine(UD recs fun r P n=>?_).symm;-- the writers of b are the same
 have a0:=f.lt r P;have g:=f.lt R V;have Q:Yj ops R.i=true:=by rw[En ho];exact C
 by_cases hin:ZS masks r.i R.i=true
 ·have K:=Ue p R.i g r.i (by rw[<-Q5];exact hin);rw[z r.i hin];rw[Q5,m] at hin;rw[hin];simpa[Nat.blt_eq] using K
 ·have H:S r.i=false:=by
   cases hh:S r.i with
   | false=>rfl
   | true =>
    exfalso;have G:¬ZS masks R.i r.i=true:=fun h=>by have:=y r.i hh R.i h;rw[W] at this;cases this
    have L:r.i≠R.i:=fun e=>by rw[e,W] at hh;cases hh
    obtain⟨T,U⟩|⟨T,_⟩:=p.names r P b n
    ·-- r's own new block: whoever sees it comes behind r
     obtain⟨q,hq,A,N⟩|x:=VZ recs c
     ·simp only[jAj] at A;have d:ZS masks q.i R.i=true:=by rw[Q5,m];exact A.1
      by_cases O:q.i=r.i
      ·rw[O] at d;exact hin d
      ·obtain⟨E,_⟩|⟨E,u|⟨i,hi,u,Y⟩|u⟩:=p.names q hq b N
       ·omega
       ·exact u U
       ·have:i=r.i:=by omega
        subst this;have M:=Ue p R.i g q.i (by rw[<-Q5];exact d);have:=p.trans R.i g q.i M (by rw[<-Q5];exact d) r.i (by rw[<-Q5];exact Y);rw[<-Q5] at this;exact hin this
       ·omega
     ·rw[U] at x;cases x
    ·have w1:=Y2 n T;have:=p.blks r R P V;simp only[JL,Bool.or_eq_true,jAj,Bool.not_eq_true',w1,Q,uK v n l] at this;obtain((h|h)|h)|h:=this
     ·exact hin h
     ·exact G h
     ·exact L (ZZ h)
     ·simp at h
  rw[H];have:a.testBit r.i=false:=by
   cases h:a.testBit r.i with
   | false=>rfl
   | true=>exact absurd (by rw[Q5,m];exact h) hin
  simp[this]
theorem Qav (c:Recs cx call yc ops masks base s recs ops.toList.length)(y:DOk ops masks base s recs){S:Nat->Bool}{R:Rec}(hR:R∈recs)(hS:S R.i=false)
  (G:∀j,S j=true->∀i,ZS masks i j=true->S i=true) (H:∀i,ZS masks i R.i=true->S i=true) {o:Oper} (ho:nth ops.toList R.i=some o) {a:Nat} (hm:nth masks R.i=some a) {b:Nat} {k:Blk}
  (f:look (Xi masks s (recs.filter fun q=>Nat.blt q.i R.i) o a R.fp) b=some k) (hk:boxB k=true):∃M,look (hpS s recs S) b=some M/\boxB M=true:=by
 unfold Xi at f;split at f;case h_2=>simp[look] at f
 rename_i L;have v:(∀z,R.fp=some z->z.contains b=true)/\look (Wx (Kc a (recs.filter fun q=>Nat.blt q.i R.i))++s.hp) b=some k:=by
  split at f
  ·rename_i T;exact⟨fun z h=>(by rw[T] at h;cases h),f⟩
  ·rename_i z T;obtain⟨O,A⟩:=UW z _ b k f;exact⟨fun a2 h=>(by rw[T] at h;cases h;exact O),A⟩
 obtain⟨v,f⟩:=v;rw[Y8,List.filter_filter] at f;have x:W1 masks R.i=a:=by simp[W1,hm]
 have u:=c.lt R hR;have a1:Yj ops R.i=true:=by rw[En ho];exact L
 have toS:∀q:Rec,(a.testBit q.i&&Nat.blt q.i R.i)=true->S q.i=true:=fun q N=>by simp only[jAj] at N;exact H q.i (by rw[Q5,x];exact N.1)
 obtain l|⟨Q,M,C,n,m,g⟩:=Qcw (fun r=>S r.i) b recs c.sorted
 ·have e1:look (Wx (recs.filter fun r=>S r.i)++s.hp) b=look (Wx (recs.filter fun _=>false)++s.hp) b:=UD recs fun r K d=>by
   cases h:S r.i with
   | false=>rfl
   | true=>exact absurd (l r K h) d
  have e2:look (Wx (recs.filter fun q=>a.testBit q.i&&Nat.blt q.i R.i)++s.hp) b=look (Wx (recs.filter fun _=>false)++s.hp) b:=UD recs fun r K d=>by
   cases h:(a.testBit r.i&&Nat.blt r.i R.i) with
   | false=>rfl
   | true=>exact absurd (l r K (toS r h)) d
  refine⟨k,?_,hk⟩;show look (Wx (recs.filter fun r=>S r.i)++s.hp) b=some k;rw[e1,<-e2];exact f
 ·have hl:look (hpS s recs S) b=some M:=GI (p:=fun r=>S r.i) m n recs c.sorted C g;refine⟨M,hl,?_⟩;by_cases hin:ZS masks Q.i R.i=true
  ·have U:=Ue y R.i u Q.i (by rw[<-Q5];exact hin);have X:(a.testBit Q.i&&Nat.blt Q.i R.i)=true:=by rw[Q5,x] at hin;rw[hin];simpa[Nat.blt_eq] using U
   have:=GI (p:=fun q=>a.testBit q.i&&Nat.blt q.i R.i) (hp:=s.hp) m X recs c.sorted C (fun r K hp hn=>g r K (toS r hp) hn);rw[this] at f;cases f;exact hk
  ·have P:¬ZS masks R.i Q.i=true:=fun h=>by have:=G Q.i n R.i h;rw[hS] at this;cases this
   have W:Q.i≠R.i:=fun e=>by rw[e,hS] at n;cases n
   have d:look Q.up b≠none:=by rw[m];simp
   obtain⟨h1,h2⟩|⟨h1,_⟩:=y.names Q C b d
   ·exfalso;obtain⟨q,N,J,Z⟩|E:=VZ recs f
    ·simp only[jAj] at J;have t:ZS masks q.i R.i=true:=by rw[Q5,x];exact J.1
     by_cases a0:q.i=Q.i
     ·rw[a0] at t;exact hin t
     ·obtain⟨O,_⟩|⟨O,A|⟨i,hi,A,g3⟩|A⟩:=y.names q N b Z
      ·omega
      ·exact A h2
      ·have:i=Q.i:=by omega
       subst this;have Y:=Ue y R.i u q.i (by rw[<-Q5];exact t);have:=y.trans R.i u q.i Y (by rw[<-Q5];exact t) Q.i (by rw[<-Q5];exact g3);rw[<-Q5] at this;exact hin this
      ·have:=c.lt Q C;omega
    ·rw[h2] at E;cases E
   ·have w1:=Y2 d h1;have:=y.blks Q R C hR;simp only[JL,Bool.or_eq_true,jAj,Bool.not_eq_true',w1,a1] at this;obtain((h|h)|h)|h:=this
    ·exact absurd h hin
    ·exact absurd h P
    ·exact absurd (ZZ h) W
    ·have V:E2 Q R=false:=by simpa using h.1
     exact QbH (kB m) V v
theorem uI (a:Recs cx call yc ops masks base s recs ops.toList.length)(g:DOk ops masks base s recs){S:Nat->Bool}{R:Rec}(f:R∈recs)(l:S R.i=false)
  (b:∀j,S j=true->∀i,ZS masks i j=true->S i=true):look (hpS s recs S) (base+R.i)=none:=by
 cases h:look (hpS s recs S) (base+R.i) with
 | none=>rfl
 | some k =>
  exfalso;obtain⟨r,p,hp,c⟩|c:=VZ recs h
  ·have o:r.i≠R.i:=fun e=>by rw[e,l] at hp;cases hp
   obtain⟨m,_⟩|⟨m,d|⟨i,q,d,n⟩|d⟩:=g.names r p _ c
   ·omega
   ·exact d (g.free R.i (a.lt R f))
   ·have:i=R.i:=by omega
    subst this;have:=b r.i hp _ n;rw[l] at this;cases this
   ·have:=a.lt R f;omega
  ·rw[g.free R.i (a.lt R f)] at c;cases c
mutual
theorem VR.shrink {w:World}{M M2:Nat->Prop}{Hh hp' : List (Nat×Blk)}{ρ ρ' : Nat->Value}(hag:∀b k,look Hh b=some k->look hp' b=some k/\ρ' b=ρ b)(hM:∀r,r<w.heap.size->M2 r->M r) :
  ∀(x:AV) (y:Value),x.inH Hh=true->VR w M hp' ρ' x y->VR w M2 Hh ρ x y
 | .d x,y,_,h=>by
  cases h with
  | d _ _ h=>exact .d _ _ (h.ext (jLj _) (fun _ _ _=>rfl) hM)
 | .agg cs,y,hi,h=>by
  cases h with
  | agg _ ys hl hh=>exact .agg cs ys hl (VR.shrinks hag hM cs ys (by simpa[AV.inH] using hi) hh)
 | .tup cs,y,hi,h=>by
  cases h with
  | tup _ ys hl hh=>exact .tup cs ys hl (VR.shrinks hag hM cs ys (by simpa[AV.inH] using hi) hh)
 | .dptr x o,y,_,h=>by
  cases h with
  | dptr _ _ blk o' hd=>exact .dptr _ _ _ _ (hd.ext (jLj _) (fun _ _ _=>rfl) hM)
 | .ptr b ver sz i off,y,hi,h=>by
  cases h with
  | ptr _ _ _ _ _ k _ hb hv ho hh =>
   have hn:=VA.1 (by simpa[AV.inH] using hi:WZ Hh b=true);cases hl:look Hh b with
   | none=>exact absurd hl hn
   | some k' =>
    obtain⟨h1,h2⟩:=hag b k' hl;rw[h1] at hb;cases hb;exact .ptr b ver sz i off k y hl hv ho fun he=>by obtain⟨r,hr,hy⟩:=hh he;exact⟨r,by rw[<-h2];exact hr,hy⟩
 | .own b ver,y,hi,h=>by
  cases h with
  | own _ _ k _ hb hv ho hh =>
   have hn:=VA.1 (by simpa[AV.inH] using hi:WZ Hh b=true);cases hl:look Hh b with
   | none=>exact absurd hl hn
   | some k' =>
    obtain⟨h1,h2⟩:=hag b k' hl;rw[h1] at hb;cases hb;exact .own b ver k y hl hv ho fun he=>by rw[<-h2];exact hh he
 | .sub b ver sz lo n,y,hi,h=>by
  cases h with
  | sub _ _ _ _ _ k _ hb hv ho hh =>
   have hn:=VA.1 (by simpa[AV.inH] using hi:WZ Hh b=true);cases hl:look Hh b with
   | none=>exact absurd hl hn
   | some k' =>
    obtain⟨h1,h2⟩:=hag b k' hl;rw[h1] at hb;cases hb;exact .sub b ver sz lo n k y hl hv ho fun he=>by obtain⟨r,c,hr,hy⟩:=hh he;exact⟨r,c,by rw[<-h2];exact hr,hy⟩
 | .fn f p q,y,hi,h=>by
  cases h with
  | fn _ _ _ xs ys hl hm hh hk =>
   simp only[AV.inH,jAj] at hi;exact .fn f p q xs ys hl hm (VR.shrinks hag hM p xs hi.1 hh) (VR.shrinks hag hM q ys hi.2 hk)
 | .junk,y,_,_=>.junk y
theorem VR.shrinks {w:World}{M M2:Nat->Prop}{Hh hp' : List (Nat×Blk)}{ρ ρ' : Nat->Value}(hag:∀b k,look Hh b=some k->look hp' b=some k/\ρ' b=ρ b)(hM:∀r,r<w.heap.size->M2 r->M r) :
  ∀(cs:List AV) (ys:List Value),uR Hh cs=true->(∀(i:Nat) (c:AV) (y:Value),cs[i]?=some c->ys[i]?=some y->VR w M hp' ρ' c y) ->
   ∀(i:Nat) (c:AV) (y:Value),cs[i]?=some c->ys[i]?=some y->VR w M2 Hh ρ c y
 | [],ys,_,_=>by intro i c y hc;simp at hc
 | x::cs,ys,hi,hh=>by
  intro i c y hc hy;simp only[uR,jAj] at hi;cases i with
  | zero =>
   simp only[jzj,jIj] at hc;subst hc;exact VR.shrink hag hM x y hi.1 (hh 0 x y rfl hy)
  | succ i =>
   cases ys with
   | nil=>simp at hy
   | cons z ys=>exact VR.shrinks hag hM cs ys hi.2 (fun i c y hc hy=>hh (i+1) c y (by simpa using hc) (by simpa using hy)) i c y (by simpa using hc) (by simpa using hy)
end
theorem HSim.glue {H G:List (Nat×Blk)}{ρ a:Nat->Value}{q m:World}(i:HSim cx F G a q)(c:∀b k,look H b=some k->look G b=some k/\a b=ρ b)
  (t : HSim cx (fun r=>F r\/(Mut G a r/\¬Mut H ρ r)) H ρ m) (E:Ext q (Mut H ρ) m):HSim cx F G a m/\Steps1 G a q G a m:=by
 have j:∀r,Mut H ρ r->Mut G a r:=by rintro r ⟨b,k,d,n,o⟩;obtain⟨f,g⟩:=c b k d;exact⟨b,k,f,n,by rw[g];exact o⟩
 have u:∀r,MM F G a r->MM (fun r=>F r\/(Mut G a r/\¬Mut H ρ r)) H ρ r:=by
  rintro r (h|h)
  ·exact .inl (.inl h)
  ·by_cases C:Mut H ρ r
   ·exact .inr C
   ·exact .inl (.inr ⟨h,C⟩)
 have v:Grows H G ρ a:=⟨fun b k d=>⟨k,(c b k d).1,jLj _,fun _=>(c b k d).2⟩⟩
 have l:Steps1 G a q G a m:=⟨E.mono j,fun _ _ h=>h,Grows.refl _ _⟩
 refine⟨i.step l (fun b k d=>?_) i.inj i.forb,l⟩;cases hl:look H b with
 | some p =>
  obtain⟨f,g⟩:=c b p hl;rw[f] at d;cases d;right;exact(t.blk b k hl).ext (jLj _) (fun _ _ _=>rfl) (fun r _ h=>u r h) v g (fun _ _ _=>rfl)
 | none =>
  left;refine⟨d,rfl,fun n r o=>?_⟩;have x:=(i.blk b k d).root_lt n o;refine E.same r x ?_;rintro⟨A,p,e,y,z⟩;obtain⟨f,g⟩:=c A p e;have:=i.inj b A k p r d f n y o (by rw[g];exact z);subst this;rw[hl] at e;cases e
theorem HSim.gluE {H G:List (Nat×Blk)}{ρ a:Nat->Value}{j o:World}{E:Nat->Prop}(f:HSim cx F G a j)(d:∀b k,look H b=some k->look G b=some k/\a b=ρ b)
  (t : HSim cx (fun r=>(F r\/(Mut G a r/\¬Mut H ρ r))\/E r) H ρ o) (n:Ext j (Mut H ρ) o) (N:∀r,E r->j.heap.size<=r) :
  HSim cx (fun r=>F r\/E r) G a o/\Steps1 G a j G a o:=by
 have i:∀r,Mut H ρ r->Mut G a r:=by rintro r ⟨b,k,e,m,c⟩;obtain⟨p,q⟩:=d b k e;exact⟨b,k,p,m,by rw[q];exact c⟩
 have z:∀r,MM (fun r=>F r\/E r) G a r->MM (fun r=>(F r\/(Mut G a r/\¬Mut H ρ r))\/E r) H ρ r:=by
  rintro r ((h|h)|h)
  ·exact .inl (.inl (.inl h))
  ·exact .inl (.inr h)
  ·by_cases O:Mut H ρ r
   ·exact .inr O
   ·exact .inl (.inl (.inr ⟨h,O⟩))
 have u:∀r,r<j.heap.size->MM (fun r=>F r\/E r) G a r->MM F G a r:=by
  rintro r c ((h|h)|h)
  ·exact .inl h
  ·have:=N r h;omega
  ·exact .inr h
 have A:Grows H G ρ a:=⟨fun b k e=>⟨k,(d b k e).1,jLj _,fun _=>(d b k e).2⟩⟩
 have L:Steps1 G a j G a o:=⟨n.mono i,fun _ _ h=>h,Grows.refl _ _⟩
 have hc:∀r,r<j.heap.size->¬MM F G a r->o.heap[r]?=j.heap[r]?:=fun r c Q=>n.same r c fun m=>Q (.inr (i r m));refine⟨⟨fun b k e=>?_,f.inj,fun r c v=>?_,fun r c=>?_,fun g x P=>(f.glob g x P).ext n.size hc u⟩,L⟩
 ·cases hl:look H b with
  | some y =>
   obtain⟨p,q⟩:=d b y hl;rw[p] at e;cases e;exact(t.blk b k hl).ext (jLj _) (fun _ _ _=>rfl) (fun r _ h=>z r h) A q (fun _ _ _=>rfl)
  | none =>
   refine(f.blk b k e).ext n.size hc u (Grows.refl _ _) rfl fun m r c=>?_;have C:=(f.blk b k e).root_lt m c;refine n.same r C ?_;rintro⟨M,y,l,J,K⟩;obtain⟨p,q⟩:=d M y l;have:=f.inj b M k y r e p m J c (by rw[q];exact K);subst this;rw[hl] at l;cases l
 ·obtain v|v:=v
  ·exact f.forb r c v
  ·have:=f.mut_lt c;have:=N r v;omega
 ·obtain c|c:=c
  ·exact Nat.lt_of_lt_of_le (f.bnd r c) n.size
  ·exact t.bnd r (.inr c)
end
section
variable {cx:Cx}{F:Nat->Prop}{ρ0:Nat->Value}{w0:World}{ops:Array Oper}{masks:List Nat}{base:Nat}{s:St}{recs:List Rec}{call:Kj}{yc:Yz}
theorem HSim.back {H G:List (Nat×Blk)}{ρ0 n:Nat->Value}{w0 P:World}(h:HSim cx F H ρ0 w0)(M:HSim cx F G n P)(S:Steps1 H ρ0 w0 G n P)(O:Ye H G) :
  HSim cx (fun r=>F r\/(Mut G n r/\¬Mut H ρ0 r)) H ρ0 P/\(∀b k,look H b=some k->look G b=some k/\n b=ρ0 b):=by
 have u:∀b k,look H b=some k->look G b=some k/\n b=ρ0 b:=by intro b k J;obtain⟨k',L,q,h3⟩:=S.grow.dom b k J;have Y:=O b k J;rw[L] at Y;cases Y;exact⟨L,h3 rfl⟩
 have E:∀r,Mut H ρ0 r->Mut G n r:=by rintro r ⟨b,k,J,hm,z⟩;obtain⟨L,q⟩:=u b k J;exact⟨b,k,L,hm,by rw[q];exact z⟩
 have m:∀r,r<P.heap.size->MM (fun r=>F r\/(Mut G n r/\¬Mut H ρ0 r)) H ρ0 r->MM F G n r:=by
  rintro r _ ((h|h)|h)
  ·exact .inl h
  ·exact .inr h.1
  ·exact .inr (E r h)
 refine⟨⟨fun b k J=>?_,h.inj,fun r z N=>?_,fun r z=>?_,fun g x hg=>?_⟩,u⟩
 ·obtain⟨L,q⟩:=u b k J;have Z:=h.blk b k J;have f:=M.blk b k L;cases k with
  | box x =>
   obtain⟨r,e,v,cs,o,A,C,K⟩:=f;obtain⟨_,_,v0,_,_,_,_,p4⟩:=Z;exact⟨r,e,v,cs,by rw[<-q];exact o,A,C,VR.restrict u m p4 v K⟩
  | loop rdy tm ps as bd nt =>
   obtain⟨l,X,o,C,K,V,W,q7,q8,q9,U⟩:=f;obtain⟨_,_,_,_,_,_,_,_,_,_,T⟩:=Z;exact⟨l,X,by rw[<-q];exact o,C,K,V,W,q7,q8,q9,fun t x hx=>VR.restrict u m (T t x hx) _ (U t x hx)⟩
  | mp es =>
   obtain⟨r,Q,c,o,A,C⟩:=f;exact⟨r,Q,c,by rw[<-q];exact o,A,C.ext (jLj _) (fun _ _ _=>rfl) m⟩
  | it s p =>
   obtain⟨r,o,A⟩:=f;exact⟨r,by rw[<-q];exact o,A⟩
  | left e =>
   obtain⟨l,X,o,C,K⟩:=f;exact⟨l,X,by rw[<-q];exact o,C,K⟩
  | fbox x =>
   obtain⟨r,o,A⟩:=f;exact⟨r,by rw[<-q];exact o,A.ext (jLj _) (fun _ _ _=>rfl) m⟩
  | dead=>trivial
  | row ver sz es =>
   obtain⟨q0,a0,o⟩|⟨r,c,e,cap,o,A,C,K,V,W⟩:=f
   ·exact .inl ⟨q0,a0,by rw[<-q];exact o⟩
   refine .inr ⟨r,c,e,cap,by rw[<-q];exact o,A,C,K,V,fun i d j a hd ha=>?_⟩;obtain⟨y,y1,y2,y3⟩:=W i d j a hd ha;exact⟨y,y1,y2,y3.ext (jLj _) (fun _ _ _=>rfl) m⟩
  | frozen ver sz es =>
   simp only[BlkR] at f ⊢;rw[<-q];exact f.ext (jLj _) (fun _ _ _=>rfl) m
  | virt ver sz es =>
   simp only[BlkR] at f ⊢;rw[<-q];exact f.ext (jLj _) (fun _ _ _=>rfl) m
 ·obtain N|N:=N
  ·exact M.forb r (E r z) N
  ·exact N.2 z
 ·obtain z|z:=z
  ·exact M.bnd r z
  ·exact M.mut_lt z.1
 ·exact(M.glob g x hg).ext (jLj _) (fun _ _ _=>rfl) m
theorem zz {p q:Rec->Bool}:∀{l:List Rec},(∀r,r∈l->r.up=[]\/p r=q r)->Wx (l.filter p)=Wx (l.filter q)
 | [],_=>rfl
 | r::l,h=>by
  have b:=zz (l:=l) fun r c=>h r (jmj _ c);simp only[List.filter_cons];obtain a|a:=h r jMj
  ·split<;>split<;>simp only[Wx,a,List.nil_append,b]
  ·rw[a];split<;>simp only[Wx,b]
theorem uT (b:Recs cx call yc ops masks base s recs ops.toList.length)(n:DOk ops masks base s recs){S:Nat->Bool}{R:Rec}(p:R∈recs)(r:S R.i=false)
  (d:∀j,S j=true->∀i,ZS masks i j=true->S i=true) (g:∀i,ZS masks i R.i=true->S i=true) {a:Nat} (c:nth masks R.i=some a) (f:R.piv=true) :
  Wx (Kc a (recs.filter fun q=>Nat.blt q.i R.i))++s.hp=hpS s recs S:=by
 unfold hpS;congr 1
 rw[Y8,List.filter_filter];refine zz fun q t=>?_;have o:W1 masks R.i=a:=by simp[W1,c]
 have l:=b.lt R p;by_cases k:q.i=R.i
 ·right;rw[k,r];have:Nat.blt R.i R.i=false:=by rw[<-Bool.not_eq_true];intro h;rw[Nat.blt_eq] at h;omega
  rw[this,Bool.and_false]
 ·obtain h|h|h|h:=n.pivs R p f q t
  ·exact absurd h k
  ·right;rw[g q.i h];have e:=Ue n R.i l q.i (by rw[<-Q5];exact h);rw[Q5,o] at h;rw[h];simpa[Nat.blt_eq] using e
  ·right;have m:S q.i=false:=by
    cases hh:S q.i with
    | false=>rfl
    | true=>have:=d q.i hh R.i h;rw[r] at this;cases this
   have e:=Ue n q.i (b.lt q t) R.i (by rw[<-Q5];exact h);have:Nat.blt q.i R.i=false:=by rw[<-Bool.not_eq_true];intro h;rw[Nat.blt_eq] at h;omega
   rw[m,this,Bool.and_false]
  ·exact .inl h
theorem QaO {H u:List (Nat×Blk)}{a:RC}(h:QcJ H a=some u)(c:a.sfx=true->∀h,a.full=some h->∃new,h=new++H):u++H=a.heap H\/a.full=some u:=by
 unfold QcJ at h;unfold RC.heap;cases hf:a.full with
 | none =>
  rw[hf] at h;simp only[jIj] at h;left;rw[<-h]
 | some g =>
  cases hx:a.sfx with
  | false=>rw[hf,hx] at h;cases h;exact .inr rfl
  | true =>
   left;rw[hf,hx] at h;simp only[jIj] at h;obtain⟨new,b⟩:=c hx g hf;rw[<-h,b];simp
theorem Qao {rr:Option Nat}{m:Nat}{g6:List Deferred}(c1:jv cx call)(l6:XX call)(o3:qw cx yc)(E:Recs cx call yc ops masks base s recs ops.toList.length)(hd:DOk ops masks base s recs)(h0:HSim cx F s.hp ρ0 w0){S:Nat->Bool}{a:Act}{w:World}
    (h8:DInv cx ops g6 F ρ0 w0 masks s recs S a w) {R:Rec} (hR:R∈recs) (hS:S R.i=false) (a0:∀i,ZS masks i R.i=true->S i=true) {Q:Exit->Act->World->Prop} {K:Act->World->Prop}
    (hK:∀a' w',DInv cx ops g6 F ρ0 w0 masks s recs (ins S R.i) a' w'->K a' w'):wpOpIn (fen rr) m cx.P ops Q R.i K a w:=by
  obtain⟨N,d4,d3,ρ,hs,ht,i8,h4,f7⟩:=h8;obtain⟨orc,ob,o',j,a2⟩:=E.told R hR;have h7:=VQ j;obtain⟨_,o,ho,e6⟩:=h7;have n3:ops[R.i]?=some o:=by rw[<-KR];exact ho
  have d1:=QbK E hd hR hS N a0 ho;unfold wpOpIn;rw[n3];simp only;unfold Xc at j;rw[ho] at j;split at j;case h_2=>cases j
  rename_i o2 a4 n2 a1;cases n2;simp only at j;rw[jx d1] at j;split at j
  · cases j
  · -- passed Uz
    rename_i e4;rw[UK ht e4];simp only[Bool.false_eq_true,if_false];simp only[jIj,jPj] at j;obtain⟨z,_,_⟩:=j;refine⟨fun _ _=>trivial,hK _ _ ?_⟩;have h1:R.up=[]:=by rw[<-z]
    have h2:R.val=.d (.v undef):=by rw[<-z]
    have:=kN (v:=undef) E hd hR hS N a0 d4 d3 (fun p t0 hp _ f4=>by rw[ho] at hp;cases hp;simp[Ju,f4] at e4) (by rw[h1];exact hs) (by rw[h1];exact ht) i8 h4 (by rw[h1];exact f7) (by rw[h2];exact .d _ _ (.v _))
    rw[e6] at this;exact this
  · rename_i e4
    rw[UK ht e4];simp only[if_true];have hev:=qT hs ht;have O:∀{R' : Rec} {up:List (Nat×Blk)} {x:AV} {ρ' : Nat->Value} {v:Value} {w' : World},R=R'->R'.up=up->HSim cx F (up++hpS s recs S) ρ' w'->Steps1 (hpS s recs S) ρ w (up++hpS s recs S) ρ' w' ->
        VR w' (MM F (up++hpS s recs S) ρ') (up++hpS s recs S) ρ' R'.val v->(∀t0,o.op=.move (.tmp t0)->v=a.eval (.tmp t0))->K (a.put o.dst v) w':=by
      intro R' up x ρ' v w' e1 e2 g1 W g3 g4;subst e1;subst e2;refine hK _ _ ?_;have:=kN (v:=v) E hd hR hS N a0 d4 d3 (fun p t0 hp f5 _=>by rw[ho] at hp;cases hp;exact g4 t0 f5) g1 (fun t x hx=>W.vr (ht t x hx)) i8 h4 (f7.trans W) g3
      rw[e6] at this;exact this
    split at j
    · -- a call
      rename_i fv args a6;have e7:∀x,x∈o.op.operands.toList->evA cx (VX (recs.filter fun q=>Nat.blt q.i R.i)++s.tm) x=evA cx (tmS s recs S) x:=XQ d1;obtain⟨ats,U⟩:=JI a6;have l9:evA cx (VX (recs.filter fun q=>Nat.blt q.i R.i)++s.tm) fv=evA cx (tmS s recs S) fv:=e7 fv (by simp[U,Op.operands,Call.operands]);have c0:args.map (evA cx (VX (recs.filter fun q=>Nat.blt q.i R.i)++s.tm))=args.map (evA cx (tmS s recs S)) :=
        List.map_congr_left fun x hx=>e7 x (by simp[U,Op.operands,Call.operands];exact .inr hx)
      rw[l9,c0] at j;split at j
      · -- yield
        rename_i yb ver o5;split at j
        · cases j
        rename_i rc a8;have j7 : ∃h,rc.full=some h/\R.up=h/\R.piv=true/\(∀p,p∈rc.ob->p)/\∀{M:Nat->Prop} {i3 : List (Nat×Blk)} {ρ' : Nat->Value} {w' : World} {v:Value},VR w' M i3 ρ' rc.val v->VR w' M i3 ρ' R.val v:=by
          split at j
          · rename_i h A _
            split at j;case h_2=>cases j
            rename_i y j3 o2 b6;simp only[jIj,jPj] at j;obtain⟨z,C,_⟩:=j;refine⟨h,A,by rw[<-z],by rw[<-z],fun p hp=>a2 p (by rw[<-C];simp[hp]),fun hv=>?_⟩;rw[<-z];exact GJ b6 (fun p hp=>a2 p (by rw[<-C];simp[hp])) hv
          · rename_i h A _
            simp only[jIj,jPj] at j;obtain⟨z,C,_⟩:=j;exact⟨h,A,by rw[<-z],by rw[<-z],fun p hp=>a2 p (by rw[<-C];exact hp),fun hv=>by rw[<-z];exact hv⟩
          · cases j
        obtain⟨H2,A,Z,d6,a9,a3⟩:=j7;-- what has been run is just what must come before it
        have V:=uT E hd hR hS N a0 a1 d6;rw[V] at a8;obtain⟨l2,k2⟩:=JC hev args;obtain⟨⟨k,hk,j0⟩,ly,p1,b8,hl,i9,e3⟩:=o3 _ _ _ _ _ _ _ rc a8 a9 rr (m - 1) F ρ w _ hs l2 k2;have d0:=hev fv;rw[wn o5] at d0;have hv:a.eval fv=.func (.yield ly) #[] #[]:=by
          generalize a.eval fv=y at d0;cases d0 with
          | own _ _ k' _ L hv ho h =>
            rw[hk] at L;cases L;rw[h j0,b8]
        rw[Oper.wpIn,Oper.semAt_eq _ _ _ (Vf a6),jT a6 hv,run_yield hl (by simpa using i9.symm)];refine⟨fun _ _=>trivial,?_⟩;rw[Oper.uponIn_round];refine⟨fun h=>(by cases h),e3.mono ?_⟩;rintro e w' ⟨v,rfl,ρ',g1,W,g3⟩;have d7:rc.heap (hpS s recs S)=H2:=by rw[RC.heap,A]
        rw[d7] at g1 W g3;have c2:∀b,look (H2++hpS s recs S) b=look H2 b:=by
          intro b;rw[Wl];cases h:look H2 b with
          | some k=>rfl
          | none =>
            simp only;cases h2:look (hpS s recs S) b with
            | none=>rfl
            | some k =>
              obtain⟨k',h3,_⟩:=W.grow.dom b k h2;rw[h] at h3;cases h3
        obtain⟨u1,u2⟩:=W0 c2 g1;exact O (R':=R) (up:=H2) (x:=R.val) rfl Z u1 (W.trans u2) (a3 (u2.vr g3)) (fun t0 h=>by rw[U] at h;cases h)
      split at j
      · -- a call with effects
        split at j;case h_2=>cases j
        rename_i f p q f1 _;split at j;case h_2=>cases j
        rename_i rc a8;split at j;case h_2=>cases j
        rename_i u hu;simp only[jIj,jPj] at j;obtain⟨z,C,_⟩:=j;have d6:R.piv=true:=by rw[<-z]
        have Z:R.up=u:=by rw[<-z]
        have a3:R.val=rc.val:=by rw[<-z]
        have V:=uT E hd hR hS N a0 a1 d6;rw[V] at a8 hu;obtain⟨xs,ys,hv,l1,l3,k1,k3⟩:=UO f1 (hev fv);obtain⟨l2,k2⟩:=JC hev args;obtain⟨l4,k4⟩:=ET l1 l2 l3 k1 k2 k3;have:=c1 _ _ _ _ _ _ _ rc a8 (fun p hp=>a2 p (by rw[<-C];exact hp)) F ρ w _ hs l4 k4;have T:=QaO hu (l6 _ _ _ _ _ _ _ rc a8);rw[Oper.wpIn,Oper.semAt_eq _ _ _ (Vf a6),qo a6 hv];refine⟨fun _ _=>trivial,?_⟩;obtain⟨v,r1,hf,n9,r4⟩|⟨r1,r2⟩:=this
        · rw[r1]
          simp only[Oper.uponIn];have o0:rc.heap (hpS s recs S)=hpS s recs S:=by rw[RC.heap,hf,n9];rfl
          have T:=T.resolve_right (by rw[hf];simp);rw[o0] at T;have o8:u=[]:=by have:=congrArg List.length T;simp only[jaj] at this;exact List.length_eq_zero_iff.1 (by omega)
          refine O (R':=R) (up:=u) (x:=R.val) (ρ':=ρ) rfl Z ?_ ?_ ?_ (fun t0 h=>by rw[U] at h;cases h)
          · rw[T];exact hs
          · rw[T];exact Steps1.refl _ _ _
          · rw[T,a3];exact r4
        · rw[r1]
          simp only[Oper.uponIn];refine⟨fun h=>(by cases h),jb rr (r2.mono ?_)⟩;rintro e w' ⟨v,rfl,ρ',g1,W,g3⟩;obtain T|A:=T;case inr =>
            have d7:rc.heap (hpS s recs S)=u:=by rw[RC.heap,A]
            rw[d7] at g1 W g3;have c2:∀b,look (u++hpS s recs S) b=look u b:=by
              intro b;rw[Wl];cases h:look u b with
              | some k=>rfl
              | none =>
                simp only;cases h2:look (hpS s recs S) b with
                | none=>rfl
                | some k =>
                  obtain⟨k',h3,_⟩:=W.grow.dom b k h2;rw[h] at h3;cases h3
            obtain⟨u1,u2⟩:=W0 c2 g1;exact O (R':=R) (up:=u) (x:=R.val) rfl Z u1 (W.trans u2) (by rw[a3];exact u2.vr g3) (fun t0 h=>by rw[U] at h;cases h)
          rw[<-T] at g1 W g3;exact O (R':=R) (up:=u) (x:=R.val) rfl Z g1 W (by rw[a3];exact g3) (fun t0 h=>by rw[U] at h;cases h)
      split at j
      · cases j
      rename_i f p q f1;split at j;case h_2=>cases j
      rename_i rc hin a8;obtain⟨xs,ys,hv,l1,l3,k1,k3⟩:=UO f1 (hev fv);obtain⟨l2,k2⟩:=JC hev args;obtain⟨l4,k4⟩:=ET l1 l2 l3 k1 k2 k3;have o7:R.piv=false:=by
        split at j
        · split at j
          case h_2=>cases j
          simp only[jIj,jPj] at j;rw[<-j.1]
        · simp only[jIj,jPj] at j
          rw[<-j.1]
        · obtain⟨_,_,_,hR,_⟩:=U0 j
          rw[hR]
        · cases j
      have l7:R.fp=none:=by
        split at j
        · split at j
          case h_2=>cases j
          simp only[jIj,jPj] at j;rw[<-j.1]
        · simp only[jIj,jPj] at j
          rw[<-j.1]
        · obtain⟨_,_,_,hR,_⟩:=U0 j
          rw[hR]
        · cases j
      have n6:R.adr=false:=by
        split at j
        · split at j
          case h_2=>cases j
          simp only[jIj,jPj] at j;rw[<-j.1]
        · simp only[jIj,jPj] at j
          rw[<-j.1]
        · obtain⟨_,_,_,hR,_⟩:=U0 j
          rw[hR]
        · cases j
      -- what was there at the region's head is unwritten so far,or nothing is seen of it
      have j5:∃H,Xs s (recs.filter fun q=>Nat.blt q.i R.i) a4=H/\HSim cx (fun r=>F r\/(Mut (hpS s recs S) ρ r/\¬Mut H ρ0 r)) H ρ0 w/\(∀b k,look H b=some k->look (hpS s recs S) b=some k/\ρ b=ρ0 b):=by
       cases hany:((Kc a4 (recs.filter fun q=>Nat.blt q.i R.i)).any fun r=>r.up.any fun p=>WZ s.hp p.1) with
       | true =>
        have he:Xs s (recs.filter fun q=>Nat.blt q.i R.i) a4=[]:=by unfold Xs;rw[hany]
        refine⟨[],he,⟨fun b k L=>(by cases L),fun b b' k k' r L=>(by cases L),fun r J=>?_,fun r J=>?_,fun g x hg=>?_⟩,fun b k L=>(by cases L)⟩
        · obtain⟨b,k,L,_⟩:=J;cases L
        · obtain J|J:=J
          · exact hs.bnd r J
          · exact hs.mut_lt J.1
        · refine(hs.glob g x hg).ext (jLj _) (fun _ _ _=>rfl) ?_
          rintro r _ ((h|h)|⟨b,k,L,_⟩)
          · exact .inl h
          · exact .inr h.1
          · cases L
       | false =>
        have he:Xs s (recs.filter fun q=>Nat.blt q.i R.i) a4=s.hp:=by unfold Xs;rw[hany]
        have d8:∀r,r∈recs->(∃b,look r.up b≠none/\look s.hp b≠none)->ZS masks r.i R.i=false:=by
          rintro r J ⟨b,c8,l0⟩;cases hm:ZS masks r.i R.i with
          | false=>rfl
          | true =>
            exfalso;have a7:=Ue hd R.i (E.lt R hR) r.i (by rw[<-Q5];exact hm);have m7:W1 masks R.i=a4:=by simp[W1,a1]
            rw[Q5,m7] at hm;obtain⟨k,hk⟩:=KT c8;have h1:(r.up.any fun p=>WZ s.hp p.1)=true:=List.any_eq_true.2 ⟨_,hk,VA.2 l0⟩;have h2:((Kc a4 (recs.filter fun q=>Nat.blt q.i R.i)).any fun r=>r.up.any fun p=>WZ s.hp p.1)=true:=by refine List.any_eq_true.2 ⟨r,?_,h1⟩;rw[Y8];exact List.mem_filter.2 ⟨List.mem_filter.2 ⟨J,by simpa[Nat.blt_eq] using a7⟩,hm⟩
            rw[hany] at h2;cases h2
        refine⟨s.hp,he,h0.back hs f7 ?_⟩;intro b k L;have:look (Wx (recs.filter fun r=>S r.i)++s.hp) b=look (Wx (recs.filter fun _=>false)++s.hp) b:=by
          refine UD recs fun r J f6=>?_;cases hh:S r.i with
          | false=>rfl
          | true =>
            exfalso;have c5:r.i≠R.i:=fun e=>by rw[e,hS] at hh;cases hh
            have l5:b≠base+r.i:=fun e=>by rw[e,hd.free r.i (E.lt r J)] at L;cases L
            have w1:=Y2 f6 l5;have m9:=d8 r J ⟨b,f6,by rw[L];simp⟩;have n8:Yj ops R.i=true:=by rw[En ho];simp[wd,U]
            have:=hd.blks r R J hR;simp only[JL,Bool.or_eq_true,jAj,Bool.not_eq_true',w1,n8,uK (q:=R) n6 f6 (fun fs hf=>by rw[l7] at hf;cases hf)] at this;obtain((h|h)|h)|h:=this
            · rw[m9] at h;cases h
            · have:=N r.i hh R.i h;rw[hS] at this;cases this
            · exact c5 (ZZ h)
            · simp at h
        have h2:(recs.filter fun _=>false)=[]:=by simp
        show look (Wx (recs.filter fun r=>S r.i)++s.hp) b=some k;rw[this,h2];exact L
      obtain⟨H,g7,c8,c3⟩:=j5;rw[g7] at hin a8;have j6:∀r,r<w.heap.size->MM (fun r=>F r\/(Mut (hpS s recs S) ρ r/\¬Mut H ρ0 r)) H ρ0 r->MM F (hpS s recs S) ρ r:=by
        rintro r _ ((h|h)|⟨b,k,L,hm,J⟩)
        · exact .inl h
        · exact .inr h.1
        · obtain⟨h1,h2⟩:=c3 b k L
          exact .inr ⟨b,k,h1,hm,by rw[h2];exact J⟩
      have k5:=VR.shrinks c3 j6 _ _ hin k4;have e8:∀(a9:∀p,p∈rc.ob->p),rc.full=none->rc.up=[]->(∀{y:AV} {v:Value} {w' : World} {ρ' : Nat->Value},HSim cx F (hpS s recs S) ρ w'->Steps1 (hpS s recs S) ρ w (hpS s recs S) ρ w' ->
          VR w' (MM F (hpS s recs S) ρ) (hpS s recs S) ρ rc.val v->K (a.put o.dst v) w')->o.wpIn (fen rr) m cx.P a w K Q:=by
        intro a9 A Z hk;have:=c1 _ _ _ _ _ _ _ rc a8 a9 _ ρ0 w _ c8 l4 k5;have V:rc.heap H=H:=by rw[RC.heap,A,Z];rfl
        have h5:Grows H (hpS s recs S) ρ0 ρ:=⟨fun b k L=>⟨k,(c3 b k L).1,jLj _,fun _=>(c3 b k L).2⟩⟩
        have e5:∀r,MM F (hpS s recs S) ρ r->MM (fun r=>F r\/(Mut (hpS s recs S) ρ r/\¬Mut H ρ0 r)) H ρ0 r:=by
          rintro r (h|h)
          · exact .inl (.inl h)
          · by_cases hh:Mut H ρ0 r
            · exact .inr hh
            · exact .inl (.inr ⟨h,hh⟩)
        rw[Oper.wpIn,Oper.semAt_eq _ _ _ (Vf a6),qo a6 hv];refine⟨fun _ _=>trivial,?_⟩;obtain⟨v,r1,_,_,r4⟩|⟨r1,r2⟩:=this
        · rw[r1]
          simp only[Oper.uponIn];exact hk (y:=rc.val) (ρ':=ρ) hs (Steps1.refl _ _ _) (r4.ext (jLj _) (fun _ _ _=>rfl) (fun r _ h=>e5 r h) h5)
        · rw[r1]
          simp only[Oper.uponIn];refine⟨fun h=>(by cases h),jb rr (r2.mono ?_)⟩;rintro e w' ⟨v,rfl,ρ',g1,W,g3⟩;rw[V] at g1 W g3;-- the names of the head stand for what they stood
          have b8:∀b k,look H b=some k->ρ' b=ρ0 b:=fun b k L=>by obtain⟨k',h1,_,h3⟩:=W.grow.dom b k L;rw[L] at h1;cases h1;exact h3 rfl
          have h6:Grows H H ρ' ρ0:=⟨fun b k L=>⟨k,L,jLj _,fun _=>(b8 b k L).symm⟩⟩
          have i1:∀r,Mut H ρ0 r↔Mut H ρ' r:=fun r=>by
            constructor
            · rintro⟨b,k,L,hm,J⟩;exact⟨b,k,L,hm,by rw[b8 b k L];exact J⟩
            · rintro⟨b,k,L,hm,J⟩;exact⟨b,k,L,hm,by rw[<-b8 b k L];exact J⟩
          have e9:Steps1 H ρ' w' H ρ0 w':=⟨Ext.refl _ _,fun r _ hm=>(i1 r).1 hm,h6⟩
          have f0:=g1.step e9 (fun b k L=>.inl ⟨L,(b8 b k L).symm,fun _ _ _=>rfl⟩)
            (fun b b' k k' r h1 h2 m1 m2 r1 r2=>g1.inj b b' k k' r h1 h2 m1 m2 (by rw[b8 b k h1];exact r1) (by rw[b8 b' k' h2];exact r2)) (fun r J=>g1.forb r ((i1 r).1 J))
          obtain⟨q1,q2⟩:=hs.glue c3 f0 W.ext;have j4:=e9.vr g3;exact hk (y:=rc.val) (ρ':=ρ) q1 q2 (j4.ext (jLj _) (fun _ _ _=>rfl) (fun r _ h=>e5 r h) h5)
      split at j
      · rename_i A Z _
        split at j;case h_2=>cases j
        rename_i y j3 o2 b6;simp only[jIj,jPj] at j;obtain⟨z,C,_⟩:=j;refine e8 (fun p hp=>a2 p (by rw[<-C];simp[hp])) A Z fun {_ v w' ρ'} q1 q2 q3=>?_;exact O (up:=[]) (x:=y) z.symm rfl q1 q2 (GJ b6 (fun p hp=>a2 p (by rw[<-C];simp[hp])) q3) (fun t0 h=>by rw[U] at h;cases h)
      · rename_i A Z _
        simp only[jIj,jPj] at j;obtain⟨z,C,_⟩:=j;refine e8 (fun p hp=>a2 p (by rw[<-C];exact hp)) A Z fun {_ v w' ρ'} q1 q2 q3=>?_;exact O (up:=[]) (x:=rc.val) z.symm rfl q1 q2 q3 (fun t0 h=>by rw[U] at h;cases h)
      · -- a row that the call has made
        rename_i p0 A Z _;obtain⟨b,k0,n4,z,a3,C,g9,f2⟩:=U0 j;rw[g7] at g9;have:=c1 _ _ _ _ _ _ _ rc a8 (fun p hp=>a2 p (by rw[C];exact hp)) _ ρ0 w _ c8 l4 k5;have V:rc.heap H=(b,k0)::H:=by rw[RC.heap,A,Z,n4];rfl
        have i2:look (hpS s recs S) (base+R.i)=none:=uI E hd hR hS N;rw[Oper.wpIn,Oper.semAt_eq _ _ _ (Vf a6),qo a6 hv];refine⟨fun _ _=>trivial,?_⟩;obtain⟨v,r1,_,hu,_⟩|⟨r1,r2⟩:=this
        · rw[Z] at hu;cases hu
        · rw[r1]
          simp only[Oper.uponIn];refine⟨fun h=>(by cases h),jb rr (r2.mono ?_)⟩;rintro e w' ⟨v,rfl,ρ',g1,W,g3⟩;rw[V] at g1 W g3;rw[a3] at g3;have c5:∀b' k,look H b'=some k->b'≠b:=fun b' k X e=>by rw[e,g9] at X;cases X
          have c7:∀b' k,look H b'=some k->look ((b,k0)::H) b'=some k/\ρ' b'=ρ0 b':=fun b' k X=>by
            have h1:look ((b,k0)::H) b'=some k:=by rw[Qc _ _ (Ne.symm (c5 b' k X))];exact X
            obtain⟨k',h2,_,h3⟩:=W.grow.dom b' k X;rw[h1] at h2;cases h2;exact⟨h1,h3 rfl⟩
          have hE:∀r,Q9 (ρ' b)=some r->Mut ((b,k0)::H) ρ' r/\w.heap.size<=r:=by
            intro r J;have hm:Mut ((b,k0)::H) ρ' r:=⟨b,_,Qd _ _ _,JE f2,J⟩
            refine⟨hm,?_⟩;obtain a7|m0:=Nat.lt_or_ge r w.heap.size
            · exfalso
              obtain⟨b',k',X,d2,b7⟩:=W.mt r a7 hm;obtain⟨h1,h2⟩:=c7 b' k' X;have:=g1.inj b' b k' _ r h1 (Qd _ _ _) d2 (JE f2) (by rw[h2];exact b7) J;exact c5 b' k' X this
            · exact m0
          have f0:=c8.restrictE g1 c7 W.ext hE;obtain⟨q1,q2⟩:=hs.gluE c3 f0 W.ext (fun r J=>(hE r J).2);have i6:FreshV w' (MM (fun r=>F r\/Q9 (ρ' b)=some r) (hpS s recs S) ρ) (ρ' b) (stamp k0):=by
            have h0:FreshV w' (MM (fun r=>F r\/(Mut (hpS s recs S) ρ r/\¬Mut H ρ0 r)) ((b,k0)::H) ρ') (ρ' b) k0:=kF f2 (g1.blk b _ (Qd _ _ _));refine h0.stamp.sub ?_;rintro r _ ((h|h)|h)
            · exact .inl (.inl h)
            · exact .inr (hE r h).1
            · by_cases hh:Mut H ρ0 r
              · obtain⟨b',k',X,d2,b7⟩:=hh
                obtain⟨h1,h2⟩:=c7 b' k' X;exact .inr ⟨b',k',h1,d2,by rw[h2];exact b7⟩
              · exact .inl (.inr ⟨h,hh⟩)
          have q3:=q1.name (nm:=base+R.i) i2 (fun r h=>h) (fun r J hf=>by have h1:=hs.bnd r hf;have h2:=(hE r J).2;omega) i6
          have q4:Steps1 (hpS s recs S) ρ w ((base+R.i,stamp k0)::hpS s recs S) (Vl ρ (base+R.i) (ρ' b)) w':=by
            refine⟨q2.ext,fun r J hm=>?_,⟨fun n k hn=>?_⟩⟩
            · obtain⟨n,k',hn,d2,b7⟩:=hm
              by_cases c4:n=base+R.i
              · subst c4
                rw[QG] at b7;have:=(hE r b7).2;omega
              · rw[Qc _ _ (Ne.symm c4)] at hn;rw[QU _ _ c4] at b7;exact⟨n,k',hn,d2,b7⟩
            · have c4:n≠base+R.i:=fun e=>by rw[e,i2] at hn;cases hn
              exact⟨k,by rw[Qc _ _ (Ne.symm c4)];exact hn,jLj _,fun _=>QU _ _ c4⟩
          refine O (R':=R) (up:=[(base+R.i,stamp k0)]) (x:=R.val) rfl (by rw[z]) q3 q4 ?_ (fun t0 h=>by rw[U] at h;cases h);have j8:R.val=.own (base+R.i) 0:=by rw[z]
          rw[j8];cases g3 with
          | own _ _ kk _ X o9 n1 m3 =>
            rw[Qd] at X;cases X;exact .own _ 0 _ _ (Qd _ _ _) (Nat.zero_le _) n1 fun _=>by rw[QG];exact m3 rfl
      · cases j
    · -- another operation
      rename_i a6;have b5:∀{t ty:Nat} {b2:List TypeId} {args:Array Operand} {ats:Array TypeId} {el:TypeId} {b ver:Nat} {es:jVj},o.op=.call { callee:=.builtin .len,args,argTypes:=ats }->args.toList=[.tmp t]->ats.toList=ty::b2->cx.P.underlying ty=some (.slice el) ->
          Ug s.hp (.own b ver)=some es->VR w0 (MM F s.hp ρ0) s.hp ρ0 (.own b ver) (a.tmps.getD t undef)->({ i:=R.i,dst:=o.dst,val:=.d (.v (.int .i64 es.length)),up:=[],fp:=some [] }:Rec)=R->o.wpIn (fen rr) m cx.P a w K Q:=by
        intro t ty b2 args ats el b ver es Y b9 b4 hu c9 f9 z;obtain⟨ax,g5,hv⟩:=qe h0 c9 f9;have k8:ats=(ty::b2).toArray:=by rw[<-b4]
        have c0:args=#[.tmp t]:=by rw[<-Array.toArray_toList (xs:=args),b9]
        have h1:=Qn hu w;have G:(execOp a.eval o).run cx.P w=.ok (.value (.int .i64 es.length)) w:=by have k9:a.eval (.tmp t)=.slice ax es.length g5:=hv;subst c0;subst k8;simp only[execOp,Y,resolve];simp only[List.map_toArray,jCj,jnj,k9];show(do pure (Next.value (<-Builtin.len_ (ty::b2).toArray o.type #[.slice ax es.length g5]))).run cx.P w=_;simp[Builtin.len_,h1,goInt]
        unfold Oper.wpIn;rw[Oper.semAt_eq _ _ _ (fun c hc=>by rw[Y] at hc;cases hc)];refine⟨fun _ _=>trivial,?_⟩;rw[G];exact O (up:=[]) (x:=R.val) z.symm (by rw[<-z]) hs (Steps1.refl _ _ _) (.d _ _ (.v _)) (fun t0 h=>by rw[Y] at h;cases h)
      -- who writes to the operand of this operation comes before it
      have j1:∀{t:Nat},(.tmp t)∈o.op.operands.toList->∀r,r∈recs->S r.i=true->r.dst=some t->r.i<R.i:=by
        intro t f3 r J c6 d9;by_cases a7:r.i<R.i
        · exact a7
        · exfalso
          have c5:r.i≠R.i:=fun e=>by rw[e,hS] at c6;cases c6
          have g8:=hd.tmps r.i R.i (E.lt r J) (E.lt R hR);obtain⟨_,_,_,h1,_⟩:=E.told r J;obtain⟨_,x,hx,o1⟩:=VQ h1;simp only[KB,Bool.or_eq_true] at g8;obtain((h|h)|h)|h:=g8
          · have:=Ue hd R.i (E.lt R hR) r.i (by rw[<-Q5];exact h);omega
          · have:=N r.i c6 R.i h
            rw[hS] at this;cases this
          · exact absurd (ZZ h) c5
          · rw[hx,ho] at h
            simp only[<-o1,d9,jAj,Bool.not_eq_true'] at h;have i0:(KK o ops).contains t=true:=by rw[List.contains_iff_mem];unfold KK;exact List.mem_append_left _ (List.mem_filterMap.2 ⟨.tmp t,f3,rfl⟩)
            rw[i0] at h;cases h.1
      split at j
      · -- the length of what was there
        rename_i k l;simp only[jIj,jPj] at j;obtain⟨z,_,_⟩:=j;unfold Qbm at l;split at l;case h_2=>cases l
        rename_i args ats Y;split at l;case h_2=>cases l
        rename_i t ty b2 b9 b4;split at l;case h_2=>cases l
        rename_i el b ver hu f8 b3;split at l;case h_2=>cases l
        rename_i es c9;simp only[jIj] at l;subst l;have n0:∀r,r∈recs->S r.i=true->r.dst≠some t:=by intro r J c6 d9;have a7:=j1 (by rw[Y];simp[Op.operands,Call.operands,b9]) r J c6 d9;simp only[List.all_eq_true] at b3;have:=b3 r (List.mem_filter.2 ⟨J,by simpa[Nat.blt_eq] using a7⟩);rw[d9] at this;simp at this
        exact b5 Y b9 b4 hu c9 (d4 t _ f8 n0) z
      split at j
      · -- ... through a copy
        rename_i k l;simp only[jIj,jPj] at j;obtain⟨z,_,_⟩:=j;unfold Qcu at l;split at l;case h_2=>cases l
        rename_i args ats Y;split at l;case h_2=>cases l
        rename_i t ty b2 b9 b4;split at l;case h_2=>cases l
        rename_i el r hu m8;split at l;case h_2=>cases l
        rename_i p hp;split at l;case h_2=>cases l
        rename_i t0 f5 f4;split at l;case h_2=>cases l
        rename_i b ver f8 b3;split at l;case h_2=>cases l
        rename_i es c9;simp only[jIj] at l;subst l;simp only[jAj,List.all_eq_true,Bool.or_eq_true,Bool.not_eq_true'] at b3;obtain⟨⟨m4,m5⟩,m6⟩:=b3;obtain⟨i5,n7⟩:=wG m8;have i7:=(List.mem_filter.1 i5).1;have o6:r.i<R.i:=by simpa[Nat.blt_eq] using(List.mem_filter.1 i5).2
        have n5:p.dst=some t:=by obtain⟨_,_,_,h1,_⟩:=E.told r i7;obtain⟨_,y,hy,o4⟩:=VQ h1;rw[hp] at hy;cases hy;rw[<-o4,n7]
        have f9:=d3 r i7 (a0 r.i m4) p t0 t _ hp f5 f4 n5
          (fun q hq a7 e0=>by
            obtain h|h:=m6 q (List.mem_filter.2 ⟨hq,by rw[Nat.blt_eq];omega⟩)
            · rw[show Nat.blt q.i r.i=true by rw[Nat.blt_eq];exact a7] at h;cases h
            · rw[qU.2 e0] at h;cases h)
          (fun q hq j9 e0=>by
            have a7:=j1 (by rw[Y];simp[Op.operands,Call.operands,b9]) q hq j9 e0;obtain h|h:=m5 q (List.mem_filter.2 ⟨hq,by rw[Nat.blt_eq];omega⟩)
            · rw[qU.2 e0] at h;cases h
            · exact ZZ h) f8
        exact b5 Y b9 b4 hu c9 f9 z
      split at j
      · cases j
      rename_i r J;rw[Qb2 (XQ d1)] at J;have l8:wV (evA cx (VX (recs.filter fun q=>Nat.blt q.i R.i)++s.tm)) o=R.fp:=by
        split at j
        · split at j
          case h_2=>cases j
          simp only[jIj,jPj] at j;rw[<-j.1]
        · simp only[jIj,jPj] at j
          rw[<-j.1]
      have a5:adrB (Xi masks s (recs.filter fun q=>Nat.blt q.i R.i) o a4 (wV (evA cx (VX (recs.filter fun q=>Nat.blt q.i R.i)++s.tm)) o)) (Xx (evA cx (VX (recs.filter fun q=>Nat.blt q.i R.i)++s.tm)) o)=R.adr:=by
        split at j
        · split at j
          case h_2=>cases j
          simp only[jIj,jPj] at j;rw[<-j.1]
        · simp only[jIj,jPj] at j
          rw[<-j.1]
      rw[l8] at J a5;have i4:aop cx s.sym orc (hpS s recs S) (base+R.i) (evA cx (tmS s recs S)) o=some r:=by
        cases ha:R.adr with
        | false=>exact QcO (Qau E hd hR hS N a0 ho a1 ha) (uI E hd hR hS N) J
        | true =>
          rw[ha] at a5;have k7:Xx (evA cx (VX (recs.filter fun q=>Nat.blt q.i R.i)++s.tm)) o=Xx (evA cx (tmS s recs S)) o:=by
            unfold Xx;split
            · rename_i d5
              rw[XQ d1 _ (by rw[d5];simp[Op.operands])]
            · rename_i d5
              rw[XQ d1 _ (by rw[d5];simp[Op.operands])]
            · rfl
          rw[k7] at a5;unfold adrB at a5;split at a5;case h_2=>cases a5
          rename_i b k6;split at a5;case h_2=>cases a5
          rename_i k h9;obtain⟨k',g1,W⟩:=Qav E hd hR hS N a0 ho a1 h9 a5;refine QcP k6 (fun v hv=>?_) J;unfold GQ at hv ⊢;rw[h9] at hv;rw[g1];have hz:∀{k:Blk},boxB k=true->k.ver=0:=fun {k} h=>by cases k<;>first|rfl|cases h
          simp only[hz a5] at hv;simp only[hz W];exact hv
      have j2:(∀p,p∈r.ob->p)->(∀{ρ' : Nat->Value} {v:Value} {w' : World},HSim cx F (r.up++hpS s recs S) ρ' w'->Steps1 (hpS s recs S) ρ w (r.up++hpS s recs S) ρ' w' ->
          VR w' (MM F (r.up++hpS s recs S) ρ') (r.up++hpS s recs S) ρ' r.val v->(∀t0,o.op=.move (.tmp t0)->v=a.eval (.tmp t0))->K (a.put o.dst v) w')->o.wpIn (fen rr) m cx.P a w K Q:=by
        intro a9 hk;obtain⟨v,w',G,ρ',g1,W,g3⟩:=kU hs (fun _=>rfl) hev i4 a9;have:=hk g1 W g3 (fun t0 h=>by
          have he:(execOp a.eval o).run cx.P w=.ok (.value (a.eval (.tmp t0))) w:=by simp only[execOp,h];rfl
          obtain G|⟨G,_⟩:=G
          · rw[he] at G;cases G;rfl
          · rw[he] at G;cases G)
        unfold Oper.wpIn;rw[Oper.semAt_eq _ _ _ (zN i4)];refine⟨fun _ _=>trivial,?_⟩;obtain G|⟨G,rfl⟩:=G
        · rw[G];exact this
        · rw[G];exact this
      split at j
      · split at j
        case h_2=>cases j
        rename_i y j3 o2 b6;simp only[jIj,jPj] at j;obtain⟨z,C,_⟩:=j;refine j2 (fun p hp=>a2 p (by rw[<-C];simp[hp])) fun {ρ' v w'} g1 W g3 g4=>?_;exact O (x:=y) z.symm rfl g1 W (GJ b6 (fun p hp=>a2 p (by rw[<-C];simp[hp])) g3) g4
      · simp only[jIj,jPj] at j
        obtain⟨z,C,_⟩:=j;refine j2 (fun p hp=>a2 p (by rw[<-C];exact hp)) fun {ρ' v w'} g1 W g3 g4=>?_;exact O (x:=r.val) z.symm rfl g1 W g3 g4
def lst (listed:Array Bool):Nat->Bool:=fun i=>listed.getD i false
theorem Qbk {listed:Array Bool}{j:Nat}(a:j<listed.size):lst (listed.setIfInBounds j true)=ins (lst listed) j:=by
 funext i
 simp only[lst,ins,Array.getD_eq_getD_getElem?,Array.getElem?_setIfInBounds];by_cases h:j=i
 ·subst h;rw[jTj rfl,jTj a];have:Nat.beq j j=true:=Nat.beq_refl j;simp[this]
 ·rw[jFj h];have:Nat.beq i j=false:=by
   cases hb:Nat.beq i j with
   | false=>rfl
   | true=>exact absurd (ZZ hb).symm h
  simp[this]
def unl (n:Nat)(listed:Array Bool):List Nat:=(List.range n).filter fun i=>!(lst listed i)
theorem QcW {n:Nat}{listed:Array Bool}{j k:Nat}(e:j<n)(b:j<listed.size)(g:lst listed j=false)(f:(unl n listed).length=k+1):(unl n (listed.setIfInBounds j true)).length=k:=by
 have a:j∈unl n listed:=by simp[unl,e,g]
 have c:(unl n listed).Nodup:=List.Pairwise.filter _ List.nodup_range;have d:unl n (listed.setIfInBounds j true)=(unl n listed).erase j:=by
  rw[List.Nodup.erase_eq_filter c];simp only[unl,List.filter_filter];refine List.filter_congr fun i _=>?_;rw[Qbk b];simp only[ins];by_cases h:i=j
  ·subst h;have:Nat.beq i i=true:=Nat.beq_refl i;simp[this]
  ·have:Nat.beq i j=false:=by
    cases hb:Nat.beq i j with
    | false=>rfl
    | true=>exact absurd (ZZ hb) h
   simp[this,h]
 rw[d,List.length_erase_of_mem a,f];rfl
theorem Qb3 {rr:Option Nat}{m:Nat}{x:List Deferred}(y:jv cx call)(L:XX call)(S:qw cx yc)(t:Recs cx call yc ops masks base s recs ops.toList.length)(M:DOk ops masks base s recs)(U:HSim cx F s.hp ρ0 w0){Q:Exit->Act->World->Prop}
  (Z:∀ρ' A w',HSim cx F (Wx recs++s.hp) ρ' w'->TSim F (VX recs++s.tm) (Wx recs++s.hp) ρ' A w'->A.tmps.size=s.nt->A.defers=x->Steps1 s.hp ρ0 w0 (Wx recs++s.hp) ρ' w'->Q .normal A w') :
  ∀(d:Nat) (listed:Array Bool) (a:Act) (w:World),listed.size=ops.size->(unl ops.size listed).length=d->DInv cx ops x F ρ0 w0 masks s recs (lst listed) a w->wpAnyIn (fen rr) m cx.P .any ops Q d listed a w:=by
 have hn:ops.toList.length=ops.size:=by simp
 have q:∀(listed:Array Bool) (a:Act) (w:World),(∀i,i<ops.size->lst listed i=true)->DInv cx ops x F ρ0 w0 masks s recs (lst listed) a w->Q .normal a w:=by intro listed a w g b;obtain⟨_,_,_,ρ,u,f,n,V,T⟩:=b;have X:(recs.filter fun r=>lst listed r.i)=recs:=List.filter_eq_self.2 fun r O=>g r.i (by have:=t.lt r O;omega);simp only[hpS,tmS,X] at u f T;exact Z ρ a w u f n V T
 have c:∀(listed:Array Bool),listed.size=ops.size->∀i,i∈Region.ready .any ops listed↔i<ops.size/\lst listed i=false/\∃o,ops[i]?=some o/\∀e,e∈o.after.toList->Region.binds .any e=true->lst listed e.on=true:=by
  intro listed k i;simp only[Region.ready,List.mem_filter,List.mem_range,jAj,Bool.not_eq_true'];constructor
  ·rintro⟨u,f,n⟩;refine⟨u,?_,?_⟩
   ·simp only[lst];rw[Array.getD_eq_getD_getElem?] at f ⊢;have:i<listed.size:=by omega
    simp[this] at f ⊢;exact f
   ·cases C:ops[i]? with
    | none=>rw[C] at n;simp at n
    | some o =>
     rw[C] at n;simp only[Option.map_some,Option.getD_some,Array.all_eq_true'] at n;refine⟨o,rfl,fun e E v=>?_⟩;have:=n e (by simpa using E);rw[v] at this;simpa[lst] using this
  ·rintro⟨u,f,o,C,n⟩;refine⟨u,?_,?_⟩
   ·simp only[lst] at f;rw[Array.getD_eq_getD_getElem?] at f ⊢;have:i<listed.size:=by omega
    simp[this] at f ⊢;exact f
   ·rw[C];simp only[Option.map_some,Option.getD_some,Array.all_eq_true'];intro e E;by_cases v:Region.binds .any e=true
    ·have:=n e (by simpa using E) v;simp only[lst] at this;rw[v];simpa using this
    ·simp only[Bool.not_eq_true] at v;rw[v];rfl
 intro d;induction d with
 | zero =>
  intro listed a w k p b;have g:∀i,i<ops.size->lst listed i=true:=by
   intro i G;have:unl ops.size listed=[]:=List.length_eq_zero_iff.1 p;cases h:lst listed i with
   | true=>rfl
   | false =>
    have K:i∈unl ops.size listed:=by simp[unl,G,h]
    rw[this] at K;simp at K
  refine⟨?_,q listed a w g b⟩;cases O:Region.ready .any ops listed with
  | nil=>rfl
  | cons i l =>
   have K:i∈Region.ready .any ops listed:=by rw[O];exact jMj
   obtain⟨u,f,_⟩:=(c listed k i).1 K;rw[g i u] at f;cases f
 | succ d ih =>
  intro listed a w k p b;refine⟨fun H=>q listed a w (fun i=>?_) b,fun j Y=>?_⟩
  ·induction i using Nat.strongRecOn with
   | _ i ihi =>
    intro G;cases h:lst listed i with
    | true=>rfl
    | false =>
     exfalso;have:i∈Region.ready .any ops listed:=by rw[c listed k i];refine⟨G,h,ops[i],by simp[G],fun e E v=>?_⟩;have N:=(M.spec i ops[i] (by rw[KR];simp[G])).2 e E v;exact ihi e.on N (by omega)
     rw[H] at this;simp at this
  ·obtain⟨u,f,o,C,n⟩:=(c listed k j).1 Y;obtain⟨R,W,rfl⟩:=t.all j (by omega);have J:=QaC M b.clo (by rw[KR];exact C) n;refine Qao y L S t M U b W f J fun A w' z=>?_;refine ih _ A w' (by simp[k]) (QcW u (by omega) f p) ?_;rw[Qbk (by omega)];exact z
theorem QaP {rr:Option Nat}(G:cx.P.follows .mixedOrders=true)(d:jv cx call)(l:XX call)(u:qw cx yc){v:List Prop}{orc:List Orc}(c:Kq cx call yc ops masks base s (List.range ops.toList.length) [] s.ob s.orc=some (recs,v,orc))
  (o:yN ops masks base s recs=true) (H:∀p,p∈v->p) {a:Act} {ρ:Nat->Value} {w:World} (g:Sim cx F s ρ a w) {Q:Exit->Act->World->Prop} {id:Nat}
  (J:∀ρ' k w',HSim cx F (Wx recs++s.hp) ρ' w'->TSim F (VX recs++s.tm) (Wx recs++s.hp) ρ' k w'->k.tmps.size=s.nt->k.defers=a.defers->Steps1 s.hp ρ w (Wx recs++s.hp) ρ' w'->Q .normal k w') :
  wpR rr cx.P (Code.region id ops true) Q a w/\∀p,p∈s.ob->p:=by
 have E:=uY o;rw[List.range_eq_range'] at c;obtain⟨b,n⟩:=qg _ 0 [] recs s.ob v s.orc orc c H ⟨List.Pairwise.nil,fun r f=>by simp at f,fun j z=>by omega,fun r f=>by simp at f⟩;rw[Nat.zero_add] at b;refine⟨fun m=>wpIn_region_any G ?_,n⟩;show wpAnyIn (fen rr) m cx.P .any ops Q ops.size (Array.replicate ops.size false) a w.drew;obtain⟨C,y⟩:=g.hs.drew;have A:lst (Array.replicate ops.size false)=fun _=>false:=by
  funext i
  simp only[lst,Array.getD_eq_getD_getElem?,Array.getElem?_replicate];split<;>rfl
 refine Qb3 d l u b E g.hs J ops.size _ a w.drew (by simp) ?_ ?_
 ·simp only[unl,A,Bool.not_false];rw[List.filter_eq_self.2 (fun _ _=>rfl)];simp
 ·rw[A];have e:(recs.filter fun _=>false)=[]:=List.filter_eq_nil_iff.2 (fun _ _ h=>by cases h);refine⟨(fun j z=>by cases z),fun t x q _=>g.ts t x q,(fun r _ f=>by cases f),ρ,?_,?_,g.nt,rfl,?_⟩
  ·simp only[hpS,e];exact C
  ·simp only[hpS,tmS,e];exact fun t x q=>y.vr (g.ts t x q)
  ·simp only[hpS,e];exact y
end
theorem EJ {ops:Array Oper}{i:Nat}{o:Oper}{s s' : St}{x:AV}{b : List (Nat×Blk)}{k:Nat}{orc:List Orc}{l:List Prop}{g:Bool}(h:GL ops i o s x b k orc l g=some s') :
  s'.hp=b/\s'.vis=s.vis/\s'.nr=s.nr/\(s'.sfx=true->s.sfx=true/\g=true):=by
 unfold GL at h;split at h
 ·split at h;case h_2=>cases h
  obtain⟨c,j,d,e,f⟩:=YA h;exact⟨c,d,e,fun a=>by rw[f] at a;simpa using a⟩
 ·obtain⟨c,j,d,e,f⟩:=YA h;exact⟨c,d,e,fun a=>by rw[f] at a;simpa using a⟩
def ju (f:Yz):Prop :=
 ∀(H:List (Nat×Blk)) (e:Nat) (d:Bool) (orc:List Orc) (b ver:Nat) (a:List AV) (c:RC),f H e d orc b ver a=some c->c.sfx=true->∀h,c.full=some h->∃new,h=new++H
def zQ (a:Code->St->Option (Ex×St)):Prop :=
 ∀(c:Code) (s:St) (e:Ex) (s' : St),a c s=some (e,s')->s'.vis=s.vis/\s'.nr=s.nr/\(s'.sfx=true->s.sfx=true/\∃new,s'.hp=new++s.hp)
theorem Qdf {c:Type}(x y:c)(b a H:List c):∃new,x::(b++y::(a++H))=new++H:=⟨x::(b++y::a),by simp⟩
theorem wo {n:Code->St->Option (Ex×St)}(g:zQ n):ju (qA n):=by
 intro H v u orc b ver m x h;unfold qA at h;split at h;case h_2=>cases h
 split at h;case h_2=>cases h
 split at h;case h_2=>cases h
 rename_i y o;split at h;case h_2=>cases h
 split at h;case h_3=>cases h
 ·rename_i t k;split at h;case h_2=>cases h
  simp only[jIj] at h;subst h;intro c p a;simp only[jIj] at a;subst a;simp only[jAj] at c;obtain⟨_,_,i⟩:=g _ _ _ _ o;obtain⟨_,_,j⟩:=g _ _ _ _ k;obtain⟨l,s,d⟩:=j c.2;obtain⟨_,r,f⟩:=i l;simp only at d f;rw[d,f];exact Qdf _ _ _ _ _
 ·rename_i e t q k;split at h;case h_2=>cases h
  simp only[jIj] at h;subst h;intro c p a;simp only[jIj] at a;subst a;simp only[jAj] at c;obtain⟨_,_,i⟩:=g _ _ _ _ o;obtain⟨_,_,j⟩:=g _ _ _ _ k;obtain⟨l,s,d⟩:=j c.2;obtain⟨_,r,f⟩:=i l;simp only at d f;rw[d,f];exact Qdf _ _ _ _ _
theorem uo {cx:Cx}{call:Kj}(hc:XX call){m:Yz}(p:ju m){ops:Array Oper}{base i:Nat}{s s' : St}(h:XJ cx call m ops base i s=some s') :
  s'.vis=s.vis/\s'.nr=s.nr/\(s'.sfx=true->s.sfx=true/\∃new,s'.hp=new++s.hp):=by
 unfold XJ at h;split at h
 ·cases h
 split at h
 ·cases h
 ·obtain⟨a,g,b,c,n⟩:=YA h;exact⟨b,c,fun e=>⟨by rw[<-n];exact e,[],by rw[a];rfl⟩⟩
 ·split at h
  ·split at h
   ·split at h
    ·cases h
    rename_i j f;obtain⟨a,g,b,c⟩:=EJ h;refine⟨g,b,fun e=>?_⟩;obtain⟨k,l⟩:=c e;refine⟨k,?_⟩;rw[a];unfold RC.heap;split
    ·rename_i o d;exact p _ _ _ _ _ _ _ j f l _ d
    ·exact⟨j.up,rfl⟩
   split at h
   ·cases h
   split at h
   ·cases h
   rename_i j f;obtain⟨a,g,b,c⟩:=EJ h;refine⟨g,b,fun e=>?_⟩;obtain⟨k,l⟩:=c e;refine⟨k,?_⟩;rw[a];unfold RC.heap;split
   ·rename_i o d;exact hc _ _ _ _ _ _ _ j f l _ d
   ·exact⟨j.up,rfl⟩
  ·split at h
   ·cases h
   obtain⟨a,g,b,c⟩:=EJ h;refine⟨g,b,fun e=>⟨(c e).1,_,a⟩⟩
theorem Er {cx:Cx}{call:Kj}(hc:XX call){c:Yz}(b:ju c){ops:Array Oper}{base:Nat}:∀(l:List Nat) (s s' : St),Y3 cx call c ops base l s=some s' ->
  s'.vis=s.vis/\s'.nr=s.nr/\(s'.sfx=true->s.sfx=true/\∃new,s'.hp=new++s.hp)
 | [],s,s',h=>by simp only[Y3,jIj] at h;subst h;exact⟨rfl,rfl,fun a=>⟨a,[],rfl⟩⟩
 | i::l,s,s',h=>by
  simp only[Y3] at h;split at h;case h_2=>cases h
  rename_i p m;obtain⟨a1,a2,a3⟩:=uo hc b m;obtain⟨b1,d,e⟩:=Er hc b l p s' h;refine⟨b1.trans a1,d.trans a2,fun a=>?_⟩;obtain⟨f,n,g⟩:=e a;obtain⟨j,o,k⟩:=a3 f;exact⟨j,n++o,by rw[g,k,List.append_assoc]⟩
theorem GO {c:Code->St->Option (Ex×St)}(e:zQ c){cx:Cx}{f:FuncId}{a:List AV}{s s' : St}{x:AV}(h:U8 c cx f a s=some (x,s')):s'.sfx=true->∃new,s'.hp=new++s.hp:=by
 unfold U8 at h;split at h
 ·cases h
 split at h
 ·cases h
 split at h
 ·cases h
 ·rename_i i _ g;obtain⟨_,_,d⟩:=e _ _ _ _ g;split at h
  ·simp only[jIj,jPj] at h;obtain⟨rfl,rfl⟩:=h;exact fun b=>(d b).2
  ·simp only[jIj,jPj] at h;obtain⟨rfl,rfl⟩:=h;exact fun b=>(d b).2
  ·cases h
 ·cases h
 ·cases h
theorem qL {H:List (Nat×Blk)}{nx:Nat}{x:AV}{s' : St}{a:RC}(h:wO H nx x s'=some a) :
  VU H nx=true/\a={ val:=x,up:=[],full:=some s'.hp,nx:=s'.nx,ob:=s'.ob,orc:=s'.orc,sfx:=s'.sfx }:=by
 unfold wO at h;split at h
 ·rename_i b;simp only[jIj] at h;exact⟨b,h.symm⟩
 ·cases h
theorem EH {H:List (Nat×Blk)}{nx:Nat}{x:AV}{s' : St}{d:RC}(h:XP H nx x s'=some d) :
  ∃b k,x=.own b k.ver/\s'.sfx=true/\KE H (s'.hp.length - H.length) s'.hp=true/\VU H nx=true/\look s'.hp b=some k/\look H b=none/\qQ k=true /\
   d={ val:=.own b k.ver,up:=[(b,k)],full:=none,nx,ob:=s'.ob,orc:=s'.orc,sfx:=true }:=by
 unfold XP at h;split at h;case h_2=>cases h
 rename_i b ver hc;split at h;case h_2=>cases h
 rename_i k e f;split at h;case h_2=>cases h
 rename_i a;simp only[jAj] at a;have c:=ZZ a.2;subst c;simp only[jAj] at hc;simp only[jIj] at h;refine⟨b,k,rfl,hc.1.1,hc.1.2,hc.2,e,?_,a.1,h.symm⟩;cases hl:look H b with
 | none=>rfl
 | some k =>
  have:=VA.2 (show look H b≠none by rw[hl];simp);rw[f] at this;cases this
theorem wT {H:List (Nat×Blk)}{a:Nat}{x:AV}{s' : St}{b:RC}(h:XP H a x s'=some b):VU H a=true/\b.ob=s'.ob:=by obtain⟨_,_,_,_,_,c,_,_,_,rfl⟩:=EH h;exact⟨c,rfl⟩
theorem zP {E:Code->St->Option (Ex×St)}{cx:Cx}{keepable:Bool}{H:List (Nat×Blk)}{nx:Nat}{sym:Bool}{orc:List Orc}{f:FuncId}{c:List AV}{b:RC}(h:kX E cx keepable H nx sym orc f c=some b) :
    ∃m,cx.P.funcs[f]?=some m /\
      ((m.body=none/\∃vs v,allV c=some vs/\QV cx.P (callFunc f vs.toArray)=some (.value v)/\b.val=.d (ofV v)/\b.up=[]/\b.full=none/\b.sfx=true) \/
       (m.body.isSome=true/\∃r e n,Kb H c=some (e,n)/\b.val=.d r/\(b.up=Qe H n\/(b.up=[]/\Qss r=true))/\b.full=none/\(b.ob=[Computes cx f e r]\/∃g,cx.K f=some g/\g e=some r)) \/
       (m.body.isSome=true/\VU H nx=true/\∃o' x s',U8 E cx f c { nt:=0,sym,tm:=[],hp:=H,nx,orc:=o',ob:=[],vis:=nx,sfx:=true }=some (x,s')/\b.ob=s'.ob /\
          ((b.val=x/\b.up=[]/\b.full=some s'.hp/\b.sfx=s'.sfx)\/(∃y,yj H x s'=some y/\b.val=y/\b.up=[]/\b.full=none)\/(XP H nx x s'=some b))) \/
       (m.body.isSome=true/\∃bo r q ks o',ze cx H nx f c bo r q ks o'=some b)):=by
  unfold kX at h;split at h
  · cases h
  rename_i m t;refine⟨m,t,?_⟩;split at h
  · rename_i s
    split at h;case h_2=>cases h
    rename_i vs C;split at h;case h_2=>cases h
    rename_i v J;simp only[jIj] at h;subst h;exact .inl ⟨s,vs,v,C,J,rfl,rfl,rfl,rfl⟩
  · rename_i M s
    have a:m.body.isSome=true:=by rw[s];rfl
    right;split at h
    · split at h
      case h_2=>cases h
      rename_i e n p;simp only[jIj] at h;subst h;exact .inl ⟨a,_,e,n,p,rfl,.inl rfl,rfl,.inl rfl⟩
    · exact .inr (.inr ⟨a,_,_,_,_,_,h⟩)
    · split at h
      case h_3=>cases h
      rename_i x s' i;obtain⟨k,l⟩:=qL h;subst l;exact .inr (.inl ⟨a,k,_,x,s',i,rfl,.inl ⟨rfl,rfl,rfl,rfl⟩⟩);rename_i x s' i;obtain⟨k,l⟩:=wT h;exact .inr (.inl ⟨a,k,_,x,s',i,l,.inr (.inr h)⟩)
    · split at h
      case h_2=>cases h
      rename_i e n u p;simp only[jIj] at h;subst h;exact .inl ⟨a,_,e,n,p,rfl,.inr ⟨rfl,u⟩,rfl,.inl rfl⟩
    · split at h
      · rename_i L j
        simp only[jIj] at h;subst h;unfold Qcy at j;split at j;case h_2=>cases j
        rename_i g0 G F;split at j;case h_2=>cases j
        rename_i e n p;split at j;case h_2=>cases j
        rename_i N z;simp only[jIj] at j;subst j;exact .inl ⟨a,_,e,n,p,rfl,.inl rfl,rfl,.inr ⟨_,G,z⟩⟩
      split at h;case h_2=>cases h
      rename_i x s' o i;right;left;split at h
      · rename_i y _ A
        simp only[jIj] at h;subst h;exact⟨a,o,_,x,s',i,rfl,.inr (.inl ⟨y,A,rfl,rfl,rfl⟩)⟩
      · split at h
        · obtain⟨k,l⟩:=qL h
          subst l;exact⟨a,k,_,x,s',i,rfl,.inl ⟨rfl,rfl,rfl,rfl⟩⟩
        · cases h
      · split at h
        · obtain⟨k,l⟩:=qL h
          subst l;exact⟨a,k,_,x,s',i,rfl,.inl ⟨rfl,rfl,rfl,rfl⟩⟩
        · simp only[jIj] at h;subst h
          exact⟨a,o,_,x,s',i,rfl,.inr (.inl ⟨_,by assumption,rfl,rfl,rfl⟩)⟩
        · split at h
          · cases h
          · obtain⟨k,l⟩:=wT h
            exact⟨a,k,_,x,s',i,l,.inr (.inr h)⟩
    · cases h
theorem Qam {cx:Cx}{H:List (Nat×Blk)}{d:Nat}{f:FuncId}{a:List AV}{bo:Option Nat}{r:AV}{b : List OC}{ks:List Bool}{o' : List Orc}{c:RC}(h:ze cx H d f a bo r b ks o'=some c):c.full=none:=by
 unfold ze at h;split at h;case h_2=>cases h
 split at h
 ·split at h;case h_2=>cases h
  split at h;case h_2=>cases h
  split at h;case h_2=>cases h
  split at h;case h_2=>cases h
  split at h<;>(simp only[jIj] at h;subst h;rfl)
 ·split at h;case h_2=>cases h
  simp only[jIj] at h;subst h;rfl
theorem zb {g:Code->St->Option (Ex×St)}(j:zQ g)(cx:Cx):XX (kX g cx):=by
 intro keepable H o l orc f e p h k n a;obtain⟨m,_,hc⟩:=zP h;obtain⟨_,_,_,_,_,_,_,b,_⟩|⟨_,_,_,_,_,_,_,b,_⟩|⟨_,_,o',x,s',b,_,i⟩|⟨_,_,_,_,_,_,d⟩:=hc;case inr.inr.inr=>rw[Qam d] at a;cases a
 ·rw[b] at a;cases a
 ·rw[b] at a;cases a
 ·obtain⟨_,_,c,d⟩|⟨_,_,_,_,c⟩|c:=i
  ·rw[c] at a;cases a;exact GO j b (by rw[<-d];exact k)
  ·rw[c] at a;cases a
  ·obtain⟨_,_,_,_,_,_,_,_,_,rfl⟩:=EH c;cases a
theorem Qc0 (ops:Array Oper)(s:St):∃new,(GC ops s).hp=new++s.hp:=by
 unfold GC;split
 ·split
  ·rename_i c _ a _ _ _ _ _ _;obtain⟨new,b⟩:=kp c (Qe s.hp a++s.hp);exact⟨new++Qe s.hp a,by rw[List.append_assoc];exact b⟩
  ·exact⟨[],rfl⟩
 ·exact⟨_,rfl⟩
theorem XV (cx:Cx):∀n,zQ (Z8 n cx):=by
 intro n;induction n with
 | zero=>intro c s e s' h;simp[Z8] at h
 | succ n ih =>
  intro c s e s' h;have hc:=zb ih cx;cases c with
  | skip=>simp only[Z8,jIj,jPj] at h;obtain⟨rfl,rfl⟩:=h;exact⟨rfl,rfl,fun j=>⟨j,[],rfl⟩⟩
  | label l=>simp only[Z8,jIj,jPj] at h;obtain⟨rfl,rfl⟩:=h;exact⟨rfl,rfl,fun j=>⟨j,[],rfl⟩⟩
  | region id ops draw =>
   simp only[Z8,St.force_eq] at h;split at h
   ·split at h;case h_2=>cases h
    rename_i E k;simp only[jIj,jPj] at h;obtain⟨rfl,rfl⟩:=h;(have d:=Er hc (wo ih) _ _ _ k;exact d)
   ·split at h;case h_2=>cases h
    split at h;case h_2=>cases h
    simp only[jIj,jPj] at h;obtain⟨rfl,rfl⟩:=h;refine⟨rfl,rfl,fun j=>⟨j,?_⟩⟩;obtain⟨new,o⟩:=Qc0 ops s;rw[o];exact⟨_++new,by rw[List.append_assoc]⟩
  | seq a b =>
   simp only[Z8] at h;split at h
   ·rename_i E k;obtain⟨a1,a2,a3⟩:=ih _ _ _ _ k;obtain⟨b1,q,r⟩:=ih _ _ _ _ h;refine⟨b1.trans a1,q.trans a2,fun j=>?_⟩;obtain⟨u,A,v⟩:=r j;obtain⟨y,C,z⟩:=a3 u;exact⟨y,A++C,by rw[v,z,List.append_assoc]⟩
   ·(have d:=ih _ _ _ _ h;exact d)
  | cond x t e' =>
   simp only[Z8] at h;split at h;case h_2=>cases h
   split at h
   ·(have d:=ih _ _ _ _ h;exact d)
   ·(have d:=ih _ _ _ _ h;exact d)
   ·split at h
    ·(have d:=ih _ _ _ _ h;exact d)
    ·(have d:=ih _ _ _ _ h;exact d)
   ·cases h
  | block id body =>
   simp only[Z8] at h;split at h
   ·rename_i i E k;have:=ih _ _ _ _ k;split at h
    ·simp only[jIj,jPj] at h;obtain⟨rfl,rfl⟩:=h;exact this
    ·simp only[jIj,jPj] at h;obtain⟨rfl,rfl⟩:=h;exact this
   ·(have d:=ih _ _ _ _ h;exact d)
  | scope body=>simp only[Z8] at h;(have d:=ih _ _ _ _ h;exact d)
  | loop body =>
   simp only[Z8] at h;split at h
   ·split at h;case h_2=>cases h
    simp only[jIj,jPj] at h;obtain⟨rfl,rfl⟩:=h;exact⟨rfl,rfl,fun j=>by cases j⟩
   ·split at h
    ·rename_i E k;obtain⟨a1,a2,a3⟩:=ih _ _ _ _ k;obtain⟨b1,q,r⟩:=ih _ _ _ _ h;refine⟨b1.trans a1,q.trans a2,fun j=>?_⟩;obtain⟨u,A,v⟩:=r j;obtain⟨y,C,z⟩:=a3 u;exact⟨y,A++C,by rw[v,z,List.append_assoc]⟩
    ·(have d:=ih _ _ _ _ h;exact d)
   ·cases h
  | rangeFunc f ps as bd =>
   simp only[Z8] at h;split at h;case h_2=>cases h
   rename_i g K b0 G F m;split at h;case h_2=>cases h
   rename_i M J;split at h;case h_3=>cases h
   all_goals simp only[jIj,jPj] at h;obtain⟨rfl,rfl⟩:=h
   all_goals refine⟨rfl,rfl,fun j=>?_⟩
   all_goals simp only[jAj] at j m
   all_goals (
    obtain⟨new,o⟩:=GO ih J j.2.2;refine⟨j.2.1,(s.nx,.dead)::new.filter (fun p=>!(Nat.beq p.1 s.nx)),?_⟩;simp only at o;have H:s.hp.filter (fun p=>!(Nat.beq p.1 s.nx))=s.hp:=by
     refine List.filter_eq_self.2 fun p hp=>?_;have:=List.all_eq_true.1 m.1 p hp;simp only[Nat.blt_eq] at this;cases hq:Nat.beq p.1 s.nx with
     | true=>have:=jqj hq;omega
     | false=>rfl
    have L:(!(Nat.beq s.nx s.nx))=false:=by simp
    simp only[o,List.filter_append,List.cons_append];rw[List.filter_cons_of_neg (by simp),H])
  | exit id=>simp only[Z8,jIj,jPj] at h;obtain⟨rfl,rfl⟩:=h;exact⟨rfl,rfl,fun j=>⟨j,[],rfl⟩⟩
  | ret=>simp only[Z8,jIj,jPj] at h;obtain⟨rfl,rfl⟩:=h;exact⟨rfl,rfl,fun j=>⟨j,[],rfl⟩⟩
  | _=>simp only[Z8] at h;cases h
def ExOK (cx:Cx)(f:Code->St->Option (Ex×St)):Prop :=
 ∀(c:Code) (s:St) (e:Ex) (s' : St),f c s=some (e,s')->(∀p,p∈s'.ob->p)->(∀p,p∈s.ob->p) /\
  ∀(rr:Option Nat) (F:Nat->Prop) (ρ:Nat->Value) (a:Act) (w:World),(s.rnd=false->rr=none)->Sim cx F s ρ a w ->
   wpR rr cx.P c (fun d b w'=>d=U7 e/\After cx F s.vis s.nt s.hp ρ w a.defers s'.tm s'.hp b w') a w
theorem qc:∀(a:List AV) (n t:Nat),look (GN n a) (n+t)=a[t]?
 | [],n,t=>by simp[GN,look]
 | x::l,n,t=>by
  simp only[GN];cases t with
  | zero=>show look ((n,x)::GN (n+1) l) n=_;rw[Qd];rfl
  | succ t =>
   rw[Qc _ _ (by omega),show n+(t+1)=n+1+t from by omega,qc l (n+1) t];rfl
def resF (tmps:Array Value):ResultVar->Sem Value
 | .tmp t=>pure (tmps.getD t undef)
 | .cell b t=>do loadVar t (<-asAddr (tmps.getD b undef))
theorem Qap (a:Func)(tmps:Array Value):results a tmps=(do let vs <-a.results.mapM (resF tmps);pure (if h:vs.size=1 then vs[0] else .tuple vs)):=by unfold results;exact congrArg (fun f:ResultVar->Sem Value=>(do let vs <-a.results.mapM f;pure (if h:vs.size=1 then vs[0] else .tuple vs):Sem Value)) (by funext x;cases x<;>rfl)
def Qdg:List AV->AV
 | [x]=>x
 | l=>AV.norm (.tup l)
theorem KM {cx:Cx}{F:Nat->Prop}{hp:List (Nat×Blk)}{ρ:Nat->Value}{w:World}{a:Act}{tm:List (Nat×AV)}(h:HSim cx F hp ρ w)(j:TSim F tm hp ρ a w):∀(N:List ResultVar) (xs:List AV),Y7 cx tm hp N=some xs ->
  ∃vs:List Value,(N.mapM (resF a.tmps)).run cx.P w=.ok vs w/\xs.length=vs.length /\
   ∀(i:Nat) (c:AV) (y:Value),xs[i]?=some c->vs[i]?=some y->VR w (MM F hp ρ) hp ρ c y
 | [],xs,hx=>by simp only[Y7,jIj] at hx;subst hx;exact⟨[],by simp,rfl,by simp⟩
 | .tmp t::l,xs,hx=>by
  simp only[Y7] at hx;split at hx;case h_2=>cases hx
  rename_i x r A E;simp only[jIj] at hx;subst hx;obtain⟨vs,o,p,q⟩:=KM h j l r E;refine⟨a.tmps.getD t undef::vs,by simp only[List.mapM_cons,resF,Sem.run_bind,Sem.run_pure,Result.andThen_ok,o],by simp[p],fun i c y hc f=>?_⟩;cases i with
  | zero=>simp only[jzj,jIj] at hc f;subst hc;subst f;exact j t x A
  | succ i=>exact q i c y (by simpa using hc) (by simpa using f)
 | .cell b t::l,xs,hx=>by
  simp only[Y7] at hx;split at hx;case h_2=>cases hx
  rename_i L ver sz off s g r A S O E;split at hx;case h_2=>cases hx
  rename_i x M;split at hx;case h_2=>cases hx
  rename_i y f;simp only[jIj] at hx;subst hx;obtain⟨vs,o,p,q⟩:=KM h j l r E;have d:=j b _ A;have u:UP false [] hp L ver sz 0=some (x,[],[]):=by simp[UP,M]
  have H:∀m,VR w (MM F hp ρ) hp ρ (.ptr L ver sz 0 off) m->∃v,(do loadVar t (<-asAddr m):Sem Value).run cx.P w=.ok v w/\VR w (MM F hp ρ) hp ρ y v:=by
   intro m d;obtain⟨v,n,J⟩:=wK h d S O u (by simp) f;have C:∃K,m=.pointer (some K):=by
    cases d with
    | ptr _ _ _ _ _ k _ e T U Q =>
     rw[M] at e;cases e;obtain⟨V,_,rfl⟩:=Q (by simp only[Blk.ver] at T ⊢;omega);exact⟨_,rfl⟩
   obtain⟨K,rfl⟩:=C;exact⟨v,n,J⟩
  obtain⟨v,n,J⟩:=H _ d;refine⟨v::vs,?_,by simp[p],fun i c z hc G=>?_⟩
  ·simp only[List.mapM_cons,resF,Sem.run_bind] at n ⊢;rw[n];simp only[Result.andThen_ok,o,Sem.run_pure]
  ·cases i with
   | zero=>simp only[jzj,jIj] at hc G;subst hc;subst G;exact J
   | succ i=>exact q i c z (by simpa using hc) (by simpa using G)
theorem uw {cx:Cx}{F:Nat->Prop}{hp:List (Nat×Blk)}{ρ:Nat->Value}{w:World}{a:Act}{tm:List (Nat×AV)}(h:HSim cx F hp ρ w)(i:TSim F tm hp ρ a w){d:Func}{xs:List AV}(f:Y7 cx tm hp d.results.toList=some xs) :
  ∃v,(results d a.tmps).run cx.P w=.ok v w/\VR w (MM F hp ρ) hp ρ (Qdg xs) v:=by
 obtain⟨vs,e,g,c⟩:=KM h i _ xs f;have b:(results d a.tmps).run cx.P w=.ok (if h:vs.toArray.size=1 then vs.toArray[0] else .tuple vs.toArray) w:=by rw[Qap,Array.mapM_eq_mapM_toList];simp only[Sem.run_bind,Sem.run_map,e,Result.andThen_ok,Sem.run_pure]
 clear f e;match xs,vs,g,c,b with
 | [x],[v],_,c,b=>exact⟨v,by rw[b];rfl,c 0 x v rfl rfl⟩
 | [],[],_,_,b =>
  refine⟨.tuple #[],by rw[b];rfl,?_⟩;have:=VR.tup (w:=w) (M:=MM F hp ρ) (hp:=hp) (ρ:=ρ) [] [] rfl (by simp);exact Yn this
 | x::y::l,v::u::m,hl,c,b =>
  refine⟨.tuple (v::u::m).toArray,by rw[b];simp,?_⟩;have:=VR.tup (w:=w) (M:=MM F hp ρ) (hp:=hp) (ρ:=ρ) _ _ hl c;exact Yn this
theorem Zp (hp:List (Nat×Blk))(b:Nat):∀l:List Nat,¬b∈l->look (Qe hp l++hp) b=look hp b
 | [],_=>rfl
 | q::l,hq=>by
  simp only[List.mem_cons,not_or] at hq;simp only[Qe];split
  ·rw[List.cons_append,Qc _ _ (fun e=>hq.1 e.symm)];exact Zp hp b l hq.2
  ·split
   ·rw[List.cons_append,Qc _ _ (fun e=>hq.1 e.symm)];exact Zp hp b l hq.2
   ·exact Zp hp b l hq.2
  ·exact Zp hp b l hq.2
theorem K5 {H:List (Nat×Blk)}:∀(new a:List (Nat×Blk)),KE H new.length (new++a)=true->∀b,look H b≠none->look new b=none
 | [],_,_,_,_=>rfl
 | (k,x)::l,a,h,b,hb=>by
  simp only[List.cons_append,List.length_cons,KE,jAj,Bool.not_eq_true'] at h;have c:k≠b:=by intro e;subst e;have:=VA.2 hb;rw[h.1] at this;cases this
  rw[Qc _ _ c];exact K5 l a h.2 b hb
theorem VD {H:List (Nat×Blk)}{a:Nat}(h:VU H a=true){b:Nat}{k:Blk}(c:look H b=some k):b<a:=by obtain⟨x,d⟩:=KT (l:=H) (b:=b) (by rw[c];simp);simp only[VU,List.all_eq_true] at h;have:=h _ d;simpa using this
structure NoAsk (cx:Cx):Prop where
 ask:∀(f:FuncId) (fn:Func),cx.P.funcs[f]?=some fn->fn.body.isSome=true->(fn.name=="runtime.NumGoroutine")=false
 known:∀(f:FuncId) (g:jVj->Option D) (ds:jVj) (r:D),cx.K f=some g->g ds=some r->Computes cx f ds r
theorem GS {cx:Cx}(h:NoAsk cx){f:FuncId}{b:Func}(d:cx.P.funcs[f]?=some b)(c:b.body.isSome=true)(a:Array Value)(w:World):(callFunc f a).run cx.P w=.ok (.enter f a) w:=by
 have e:=h.ask f b d c;have g:b.body.isNone=false:=by cases hh:b.body with
  | none=>rw[hh] at c;cases c
  | some _=>rfl
 simp only[callFunc,Sem.run_bind,run_program,Result.andThen_ok,d];simp[e,g]
def Xz:Obj->Prop
 | .loop _=>True
 | .deferred _=>True
 | _=>False
theorem ja {w:World}{a:Nat}{o:Obj}(h:w.heap[a]?=some o)(c:Xz o)(o' : Obj){p:Addr}{v:Value}(hp:w.cell? p=some v):(w.putObj a o').cell? p=some v:=by
 have b:p.block≠a:=by intro e;unfold World.cell? at hp;rw[e,h] at hp;cases o<;>simp_all [Xz]
 unfold World.cell? at hp ⊢;rw[World.putObj_heap_other b];exact hp
theorem DR.put {w:World}{n:Nat}{o:Obj}(h:w.heap[n]?=some o)(p:Xz o)(o' : Obj){M:Nat->Prop}{x:SX.D}{y:Value}(s:DR w M x y):DR (w.putObj n o') M x y:=by
 induction s with
 | v x=>exact .v x
 | agg cs ys hl h ih=>exact .agg cs ys hl ih
 | tup cs ys hl h ih=>exact .tup cs ys hl ih
 | lst full sz es a cap blk off ys hf hcp ha hsz hw hd ih =>
  refine .lst full sz es a cap blk off ys hf hcp (fun m=>?_) hsz (fun i e j c r l=>?_) ih
  ·obtain⟨d,g,q⟩:=ha m;exact⟨d,g,by rw[World.putObj_size];exact q⟩
  ·obtain⟨d,g⟩:=hw i e j c r l;exact⟨ja h p o' d,g⟩
 | fn f a b xs ys hl hm' h k ih ik=>exact .fn f a b xs ys hl hm' ih ik
 | ref x off blk o2 ys d g hw hd ih=>exact .ref x off blk o2 ys d (by rw[World.putObj_size];exact g) (fun j c l=>ja h p o' (hw j c l)) ih
theorem DAt.put {w:World}{a:Nat}{o:Obj}(h:w.heap[a]?=some o)(b:Xz o)(o' : Obj){M:Nat->Prop}{blk off:Nat}{x:SX.D}(k:DAt w M blk off x):DAt (w.putObj a o') M blk off x:=by obtain⟨d,e,f⟩:=k;refine⟨d,by rw[World.putObj_size];exact e,fun j c i=>?_⟩;obtain⟨y,l,g⟩:=f j c i;exact⟨y,ja h b o' l,g.put h b o'⟩
theorem GAt.put {w:World}{a:Nat}{o:Obj}(h:w.heap[a]?=some o)(d:Xz o)(o' : Obj){M:Nat->Prop}{g:Nat}{x:SX.D}(j:GAt w M g x):GAt (w.putObj a o') M g x:=by
 obtain⟨f,cs,t,fz,b,i⟩:=j;have c:g≠a:=by intro e;subst e;rw[h] at b;cases b;exact d
 exact⟨f.put h d o',cs,t,fz,by rw[World.putObj_heap_other c];exact b,i⟩
theorem VR.put {w:World}{g:Nat}{o:Obj}(h:w.heap[g]?=some o)(c:Xz o)(o' : Obj){M:Nat->Prop}{hp:List (Nat×Blk)}{ρ:Nat->Value}{x:AV}{y:Value}(j:VR w M hp ρ x y):VR (w.putObj g o') M hp ρ x y:=by
 induction j with
 | d x y e=>exact .d x y (e.put h c o')
 | agg cs ys hl h ih=>exact .agg cs ys hl ih
 | tup cs ys hl h ih=>exact .tup cs ys hl ih
 | dptr x off blk o2 e=>exact .dptr x off blk o2 (e.put h c o')
 | ptr b ver sz i off k y hb hv c h=>exact .ptr b ver sz i off k y hb hv c h
 | own b ver k y hb hv c h=>exact .own b ver k y hb hv c h
 | sub b ver sz lo n k y hb hv c h=>exact .sub b ver sz lo n k y hb hv c h
 | fn f a b xs ys hl hm' h k ih ik=>exact .fn f a b xs ys hl hm' ih ik
 | junk y=>exact .junk y
theorem BlkR.put {w:World}{z:Nat}{o:Obj}(h:w.heap[z]?=some o)(u:Xz o)(o' : Obj){M:Nat->Prop}{hp:List (Nat×Blk)}{ρ:Nat->Value}{b:Nat}{k:Blk}(A:(∃G,o=.deferred G)\/E1 k=true)(n:BlkR w M hp ρ b k):BlkR (w.putObj z o') M hp ρ b k:=by
 have E:∀{r:Nat} {c:Array Value} {e:TypeId},w.heap[r]?=some (.cells c e (0,0))->r≠z:=by intro r c e C V;subst V;rw[h] at C;cases C;exact u.elim
 cases k with
 | box x =>
  obtain⟨r,e,v,cs,g,f,m,q⟩:=n;exact⟨r,e,v,cs,g,(World.putObj_heap_other (E f)).trans f,m,q.put h u o'⟩
 | row ver sz es =>
  obtain⟨g,a,f⟩|⟨r,c,e,cap,g,f,m,q,K,L⟩:=n
  ·exact .inl ⟨g,a,f⟩
  refine .inr ⟨r,c,e,cap,g,f,m,(World.putObj_heap_other (E q)).trans q,K,fun i d j a U W=>?_⟩;obtain⟨y,Y,Z,y3⟩:=L i d j a U W;exact⟨y,Y,Z,y3.put h u o'⟩
 | frozen ver sz es=>exact DR.put h u o' n
 | virt ver sz es=>exact DR.put h u o' n
 | loop rdy tm ps as bd nt =>
  obtain⟨G,rfl⟩|A:=A
  ·obtain⟨l,P,g,m,q,K,L,Q,S,T,J⟩:=n;have N:l≠z:=by intro e;subst e;rw[h] at m;cases m
   exact⟨l,P,g,(World.putObj_heap_other N).trans m,q,K,L,Q,S,T,fun t x n=>(J t x n).put h u o'⟩
  ·cases A
 | mp es =>
  obtain⟨r,H,c,g,f,m⟩:=n;have C:r≠z:=by intro e;subst e;rw[h] at f;cases f;exact u.elim
  refine⟨r,H,c,g,(World.putObj_heap_other C).trans f,?_⟩;have O:∀{es:List SX.D} {l:List MapEntry},MR w M es l->MR (w.putObj z o') M es l:=by
   intro es;induction es with
   | nil=>intro l F;cases l with
    | nil=>trivial
    | cons e l=>exact F.elim
   | cons d es ih=>intro l F;cases l with
    | nil=>exact F.elim
    | cons e l =>
     obtain⟨⟨x,n,X⟩,q⟩:=F;exact⟨⟨x,n,X.put h u o'⟩,ih q⟩
  exact O m
 | it s p =>
  obtain⟨r,g,f⟩:=n;have C:r≠z:=by intro e;subst e;rw[h] at f;cases f;exact u.elim
  exact⟨r,g,(World.putObj_heap_other C).trans f⟩
 | left e =>
  obtain⟨G,rfl⟩|A:=A
  ·obtain⟨l,P,g,m,q⟩:=n;have N:l≠z:=by intro e;subst e;rw[h] at m;cases m
   exact⟨l,P,g,(World.putObj_heap_other N).trans m,q⟩
  ·cases A
 | fbox x =>
  obtain⟨r,g,f⟩:=n;exact⟨r,g,f.put h u o'⟩
 | dead=>trivial
theorem HSim.put {cx:Cx}{F:Nat->Prop}{hp:List (Nat×Blk)}{ρ:Nat->Value}{w:World}{c:Nat}{o:Obj}(h:w.heap[c]?=some o)(d:Xz o)(i:∃e,o=.deferred e)(o' : Obj)(a:HSim cx F hp ρ w):HSim cx F hp ρ (w.putObj c o') :=
 ⟨fun b k f=>(a.blk b k f).put h d o' (.inl i),a.inj,a.forb,fun r l=>by rw[World.putObj_size];exact a.bnd r l,fun g x j=>(a.glob g x j).put h d o'⟩
theorem HSim.mut_cells {cx:Cx}{F:Nat->Prop}{hp:List (Nat×Blk)}{ρ:Nat->Value}{w:World}(t:HSim cx F hp ρ w){r:Nat}(d:Mut hp ρ r):∃o,w.heap[r]?=some o/\∀j,o≠.deferred j:=by
 obtain⟨b,k,q,h,d⟩:=d;have:=t.blk b k q;cases k with
 | box x =>
  obtain⟨i,e,v,cs,g,f,_⟩:=this;rw[g] at d;cases d;exact⟨_,f,nofun⟩
 | row ver sz es =>
  obtain⟨_,a,f⟩|⟨i,c,e,cap,g,f,_,n,_⟩:=this
  ·rw[f,Wk] at d;cases d
  ·rw[g,Zl f.2] at d;cases d;exact⟨_,n,nofun⟩
 | mp es =>
  obtain⟨i,m,c,g,f,_⟩:=this;rw[g] at d;cases d;exact⟨_,f,nofun⟩
 | it s p =>
  obtain⟨i,g,f⟩:=this;rw[g] at d;cases d;exact⟨_,f,nofun⟩
 | frozen _ _ _=>cases h
 | virt _ _ _=>cases h
 | loop _ _ _ _ _ _ =>
  obtain⟨l,u,g,f,_⟩:=this;rw[g] at d;cases d;exact⟨_,f,nofun⟩
 | fbox _=>cases h
 | left _ =>
  obtain⟨l,u,g,f,_⟩:=this;rw[g] at d;cases d;exact⟨_,f,nofun⟩
 | dead=>cases h
theorem DfTo.trans {cx:Cx}{F:Nat->Prop}{vis:Nat}{w d t:World}{l p:List (Nat×Blk)}{m u:Nat->Value}{g i j:List Deferred}(L:w.heap.size<=d.heap.size)(H:HSim cx F l m d)(q:StepsV vis l m d p u t)
  (z:DfTo w g d i) (A:DfTo d i t j):DfTo w g t j:=by
 obtain⟨J,rfl,r,x⟩:=z;obtain⟨K,rfl,s,y⟩:=A;refine⟨K++J,by simp,?_,fun f k=>?_⟩
 ·refine List.nodup_append.2 ⟨s,r,fun a C b E n=>?_⟩;subst n;have:=(y a C).1;have v:=(x a E).2;rw[Array.getElem?_eq_none (by omega)] at v;cases v
 ·obtain k|k:=List.mem_append.1 k
  ·obtain⟨a1,a2⟩:=y f k;exact⟨by omega,a2⟩
  ·obtain⟨a1,a2⟩:=x f k;have o:f<d.heap.size:=by
    obtain h|h:=Nat.lt_or_ge f d.heap.size
    ·exact h
    ·rw[Array.getElem?_eq_none h] at a2;cases a2
   refine⟨a1,?_⟩;rw[q.ext.same f o (fun G=>?_)]
   ·exact a2
   ·obtain⟨c,e,hc⟩:=H.mut_cells G;rw[a2] at e;cases e;exact hc _ rfl
theorem E4 {cx:Cx}{F:Nat->Prop}{tm:List (Nat×AV)}{hp:List (Nat×Blk)}{ρ:Nat->Value}{a:Act}{w0:World}{n:Nat}{d:Func}{R:Ending->World->Prop}:∀(b:List Nat) (w:World),HSim cx F hp ρ w->TSim F tm hp ρ a w->b.Nodup ->
  (∀dk,dk∈b->w0.heap.size<=dk/\w.heap[dk]?=some (.deferred (some [])))->w0.heap.size<=w.heap.size ->
  (∀w',HSim cx F hp ρ w'->TSim F tm hp ρ a w'->w'.os=w.os/\w'.tape=w.tape/\w'.output=w.output->w'.heap.size=w.heap.size->(∀r,r<w0.heap.size->w'.heap[r]?=w.heap[r]?)->LeavesInM (fen none) n cx.P d a.tmps R [] .returning w') ->
  LeavesInM (fen none) n cx.P d a.tmps R (b.map fun dk=>{ target:=.collected dk,args:=#[] }) .returning w
 | [],w,hs,ht,_,_,_,hk=>hk w hs ht ⟨rfl,rfl,rfl⟩ rfl fun _ _=>rfl
 | dk::b,w,hs,ht,hnd,hD,hw,hk=>by
  obtain⟨q,c⟩:=hD dk jMj;rw[List.nodup_cons] at hnd;refine⟨by simp,.inl ⟨dk,_,rfl,run_takeDeferred c,?_⟩⟩;refine E4 (w0:=w0) b _ (hs.put c trivial ⟨_,rfl⟩ _) (fun t x m=>(ht t x m).put c trivial _) hnd.2 (fun E f=>?_) (by rw[World.putObj_size];exact hw) fun w' g h i j k=>?_
  ·obtain⟨o,p⟩:=hD E (jmj _ f);exact⟨o,by rw[World.putObj_heap_other (fun e=>by subst e;exact hnd.1 f)];exact p⟩
  ·refine hk w' g h i (by rw[j,World.putObj_size]) fun r l=>?_;rw[k r l,World.putObj_heap_other (by omega)]
theorem Kp {cx:Cx}{J:Code->St->Option (Ex×St)}(hE:ExOK cx J)(hS:zQ J){f:FuncId}{a:List AV}{s b:St}{x:AV}(h:U8 J cx f a s=some (x,b))(ho:∀p,p∈b.ob->p) :
  (∀p,p∈s.ob->p)/\∀(F:Nat->Prop) (ρ:Nat->Value) (w:World) (vs:List Value),HSim cx F s.hp ρ w->a.length=vs.length ->
   (∀(i:Nat) (c:AV) (y:Value),a[i]?=some c->vs[i]?=some y->VR w (MM F s.hp ρ) s.hp ρ c y) ->
   Calls cx.P f vs.toArray w fun e w'=>∃v,e=.returned v/\∃ρ',HSim cx F b.hp ρ' w'/\StepsV s.vis s.hp ρ w b.hp ρ' w'/\VR w' (MM F b.hp ρ') b.hp ρ' x v:=by
 unfold U8 at h;split at h
 ·cases h
 rename_i j L;split at h
 ·cases h
 rename_i W k;split at h
 ·cases h
 ·rename_i e H N M K;have X : a.length<=j.ntmps:=Nat.le_of_ble_eq_true M;have Q:∃xs,Y7 cx H.tm H.hp j.results.toList=some xs/\x=Qdg xs/\b.hp=H.hp/\b.ob=H.ob:=by
   split at h
   ·rename_i y u;simp only[jIj,jPj] at h;obtain⟨rfl,rfl⟩:=h;exact⟨[y],u,rfl,rfl,rfl⟩
   ·rename_i l A u;simp only[jIj,jPj] at h;obtain⟨rfl,rfl⟩:=h;refine⟨l,u,?_,rfl,rfl⟩;match l,A with
    | [],_=>rfl
    | [z],hh=>exact absurd rfl (hh z)
    | _::_::_,_=>rfl
   ·cases h
  obtain⟨xs,T,hx,m,O⟩:=Q;obtain⟨e1,e2⟩:=hE _ _ _ _ K (by rw[<-O];exact ho);refine⟨e1,fun F ρ w vs E hl hv=>?_⟩;refine(callsIn_wide (n:=0)).1 (callsIn_of_wp_marks (F:=fen none) L k trivial ?_);have q:Sim cx F { s with nt:=j.ntmps,tm:=GN 0 a } ρ { tmps:=vs.toArray++Array.replicate (j.ntmps - vs.toArray.size) undef,defers:=[] } w:=by
   refine⟨E,fun t y u=>?_,?_⟩
   ·have:=qc a 0 t;rw[Nat.zero_add] at this;rw[this] at u;have o:t<vs.length:=by rw[<-hl];exact(jGj u).1
    have S:vs[t]?=some vs[t]:=by simp[o]
    have hg:(vs.toArray++Array.replicate (j.ntmps - vs.toArray.size) undef).getD t undef=vs[t]:=by rw[Array.getD_eq_getD_getElem?,Array.getElem?_append_left (by simpa using o)];simp[o]
    show VR w _ _ _ y ((vs.toArray++Array.replicate (j.ntmps - vs.toArray.size) undef).getD t undef);rw[hg];exact hv t y _ u S
   ·simp;omega
  refine Vk (e2 none F ρ _ w (fun _=>rfl) q) ?_ 0;rintro e' V w' ⟨rfl,ρ',g1,g2,g3,G,g⟩;obtain⟨new,G,nd,C⟩:=G;simp only[List.append_nil] at G;have d:LeavesInM (fen none) 0 cx.P j V.tmps (fun e w'=>∃v,e=.returned v/\∃ρ',HSim cx F b.hp ρ' w'/\StepsV s.vis s.hp ρ w b.hp ρ' w'/\VR w' (MM F b.hp ρ') b.hp ρ' x v) V.defers .returning w':=by rw[G];refine E4 (w0:=w) new w' g1 g2 nd C g.ext.size fun a0 Z q2 U q4 q5=>?_;obtain⟨v,r1,r2⟩:=uw Z q2 T;refine⟨v,r1,v,rfl,ρ',by rw[m];exact Z,?_,by rw[m,hx];exact r2⟩;rw[m];refine⟨⟨U.1.trans g.ext.os,U.2.1.trans g.ext.tape,U.2.2.trans g.ext.output,by rw[q4];exact g.ext.size,fun r Y hm=>(q5 r Y).trans (g.ext.same r Y hm)⟩,g.mt,g.grow⟩
  cases e with
  | normal=>exact d
  | ret=>exact d
  | exit id=>exact absurd rfl (N id)
 ·cases h
 ·cases h
theorem Qca {H:List (Nat×Blk)}{x:AV}{y:D}{e:List Nat}(h:x.toDH H=some (y,e))(c:x.isOne=true):(AV.d y).isOne=true:=by
 cases x with
 | d z=>simp only[AV.toDH,jIj,jPj] at h;obtain⟨rfl,rfl⟩:=h;exact c
 | agg _=>simp[AV.isOne] at c
 | tup _=>simp[AV.isOne] at c
 | junk=>simp[AV.isOne] at c
 | dptr _ _=>simp only[AV.toDH,jIj,jPj] at h;obtain⟨rfl,rfl⟩:=h;rfl
 | ptr _ _ _ _ _ =>
  simp only[AV.toDH] at h;split at h;case h_2=>cases h
  split at h;case h_2=>cases h
  split at h
  ·cases h;rfl
  ·cases h;rfl
  ·cases h
 | sub _ _ _ _ _=>simp[AV.toDH] at h
 | fn f a b =>
  simp only[AV.toDH] at h;split at h
  ·cases h;rfl
  ·cases h
 | own b v =>
  simp only[AV.toDH] at h;split at h
  ·split at h
   ·cases h;rfl
   ·cases h
  ·split at h
   ·cases h;rfl
   ·cases h
  ·split at h
   ·cases h;rfl
   ·cases h
  ·cases h
structure Split (H:List (Nat×Blk)) (m:Nat) (cells:List AV) (ss cs:List OC) (ns:List (Option (Nat×Nat))) (gs:List Nat):Prop where
 nm:Names ns ss
 len:cs.length=cells.length
 lenS:ss.length=cells.length
 dat:∀(i:Nat) (y:D),cs[i]?=some (.dat y)->ns[i]?=some none/\∃x fs,cells[i]?=some x/\x.toDH H=some (y,fs)/\∀b,b∈fs->b∈gs
 row:∀(i sz:Nat) (es:jVj),cs[i]?=some (.row sz es)->∃n v,ns[i]?=some (some (n,v)) /\
  ((∃u,cells[i]?=some (.own n u)/\look H n=some (.row u sz es)/\v=u+1)\/(∃z,cells[i]?=some (.d (.lst true z []))/\es=[]/\n=m+i/\look H n=none/\v=0))
theorem uu {H:List (Nat×Blk)}{m sz:Nat}{x:AV}{c:OC}{p:Nat×Nat}(h:Qce H m sz x=some (c,p)) :
  ∃es,c=.row sz es/\((∃u,x=.own p.1 u/\look H p.1=some (.row u sz es)/\p.2=u+1)\/(∃z,x=.d (.lst true z [])/\es=[]/\p=(m,0)/\look H m=none)):=by
 unfold Qce at h;split at h
 ·split at h
  ·split at h
   ·rename_i i g es b _ a;simp only[jIj,jPj] at h;obtain⟨rfl,rfl⟩:=h;simp only[jAj] at a;have e:=jqj a.1;have f:=jqj a.2;subst e;subst f;exact⟨_,rfl,.inl ⟨_,rfl,b,rfl⟩⟩
   ·cases h
  ·cases h
 ·split at h
  ·rename_i b;simp only[jIj,jPj] at h;obtain⟨rfl,rfl⟩:=h;exact⟨_,rfl,.inr ⟨_,rfl,rfl,rfl,b⟩⟩
  ·cases h
 ·cases h
theorem Yb {H:List (Nat×Blk)}:∀(cells:List AV) (t:List OC) (m:Nat) (cs:List OC) (ns:List (Option (Nat×Nat))) (l:List Nat),V6 H m cells t=some (cs,ns,l)->Split H m cells t cs ns l
 | [],[],m,cs,ns,l,h=>by simp only[V6,jIj,jPj] at h;obtain⟨rfl,rfl,rfl⟩:=h;exact⟨⟨fun i sz es hc=>by simp at hc,fun i x hc=>by simp at hc,rfl⟩,rfl,rfl,fun i y hc=>by simp at hc,fun i sz es hc=>by simp at hc⟩
 | [],s::t,m,cs,ns,l,h=>by simp[V6] at h
 | x::xs,[],m,cs,ns,l,h=>by simp[V6] at h
 | x::xs,.dat d::t,m,cs,ns,l,h=>by
  simp only[V6] at h;split at h;case h_2=>cases h
  rename_i y N j o gs1 C E;simp only[jIj,jPj] at h;obtain⟨rfl,rfl,rfl⟩:=h;have a:=Yb xs t (m+1) j o gs1 E;refine⟨⟨fun i sz es hc=>?_,fun i z hc=>?_,by simp[a.nm.len]⟩,by simp[a.len],by simp[a.lenS],fun i z hc=>?_,fun i sz es hc=>?_⟩
  ·cases i with
   | zero=>simp at hc
   | succ i=>simpa using a.nm.row i sz es (by simpa using hc)
  ·cases i with
   | zero=>rfl
   | succ i=>simpa using a.nm.dat i z (by simpa using hc)
  ·cases i with
   | zero =>
    simp only[jzj,jIj,OC.dat.injEq] at hc;subst hc;exact⟨rfl,x,N,rfl,C,fun b F=>List.mem_append.2 (.inl F)⟩
   | succ i =>
    obtain⟨q,L,k,r,G,J⟩:=a.dat i z (by simpa using hc);exact⟨by simpa using q,L,k,by simpa using r,G,fun b F=>List.mem_append.2 (.inr (J b F))⟩
  ·cases i with
   | zero=>simp at hc
   | succ i =>
    obtain⟨n,v,q,r⟩:=a.row i sz es (by simpa using hc);refine⟨n,v,by simpa using q,?_⟩;obtain⟨u,e,f,g⟩|⟨z,e,f,g,A,K⟩:=r
    ·exact .inl ⟨u,by simpa using e,f,g⟩
    ·exact .inr ⟨z,by simpa using e,f,by omega,A,K⟩
 | x::xs,.row s0 e0::t,m,cs,ns,l,h=>by
  simp only[V6] at h;split at h;case h_2=>cases h
  rename_i c p j o gs1 C E;simp only[jIj,jPj] at h;obtain⟨rfl,rfl,rfl⟩:=h;have a:=Yb xs t (m+1) j o gs1 E;obtain⟨M,rfl,O⟩:=uu C;refine⟨⟨fun i sz es hc=>?_,fun i z hc=>?_,by simp[a.nm.len]⟩,by simp[a.len],by simp[a.lenS],fun i z hc=>?_,fun i sz es hc=>?_⟩
  ·cases i with
   | zero=>exact⟨p,rfl⟩
   | succ i=>simpa using a.nm.row i sz es (by simpa using hc)
  ·cases i with
   | zero=>simp at hc
   | succ i=>simpa using a.nm.dat i z (by simpa using hc)
  ·cases i with
   | zero=>simp at hc
   | succ i =>
    obtain⟨q,L,k,r,G,J⟩:=a.dat i z (by simpa using hc);exact⟨by simpa using q,L,k,by simpa using r,G,J⟩
  ·cases i with
   | zero =>
    simp only[jzj,jIj,OC.row.injEq] at hc;obtain⟨rfl,rfl⟩:=hc;refine⟨p.1,p.2,rfl,?_⟩;obtain⟨u,e,f,g⟩|⟨z,e,f,g,A⟩:=O
    ·exact .inl ⟨u,by rw[e];rfl,f,g⟩
    ·subst g;exact .inr ⟨z,by rw[e];rfl,f,rfl,A,rfl⟩
   | succ i =>
    obtain⟨n,v,q,r⟩:=a.row i sz es (by simpa using hc);refine⟨n,v,by simpa using q,?_⟩;obtain⟨u,e,f,g⟩|⟨z,e,f,g,A,K⟩:=r
    ·exact .inl ⟨u,by simpa using e,f,g⟩
    ·exact .inr ⟨z,by simpa using e,f,by omega,A,K⟩
theorem Qay {cx:Cx}{F:Nat->Prop}{H:List (Nat×Blk)}{ρ:Nat->Value}{w:World}(hs:HSim cx F H ρ w){fz:List Nat}{b m:Nat}{x:AV}{cells:List AV}{ss cs:List OC}{ns:List (Option (Nat×Nat))}{gs:List Nat}
  (hb:look H b=some (.box x)) (hx:x.cells=some cells) (Z:K0 x=true) (b5:V6 H m cells ss=some (cs,ns,gs)) (b2:∀q,q∈gs->q∈fz) (C:Xj b fz ns=true) :
  ∃ρc:Nat->Value,ρc 0=ρ b/\(∀r,Mut (Zt cs) ρc r->Mut (Qe H fz++H) ρ r) /\
   HSim cx (fun r=>F r\/(Mut (Qe H fz++H) ρ r/\¬Mut (Zt cs) ρc r)) (Zt cs) ρc w /\
   (∀n k r,look (Qe H fz++H) n=some k->k.live=true->Q9 (ρ n)=some r->Mut (Zt cs) ρc r->n=b\/∃(i v:Nat),ns[i]?=some (some (n,v))) /\
   (∀(i n v:Nat),ns[i]?=some (some (n,v+1))->ρc (i+1)=ρ n):=by
 obtain⟨L,_⟩:=hs.freeze fz;have sp:=Yb cells ss m cs ns gs b5;obtain⟨r0,e0,v,c0,p1,p2,p3,p4⟩:=hs.blk b _ hb;rw[hx] at p3;cases p3;obtain⟨c1,c2,W⟩:=VM hx p4;obtain⟨ys,rfl⟩:∃ys:List Value,v=.agg ys.toArray:=by
  cases p4 with
  | agg _ ys _ _=>exact⟨ys,rfl⟩
  | d z _ hd =>
   cases hd with
   | agg _ ys _ _=>exact⟨ys,rfl⟩
   | _=>simp[K0] at Z
  | _=>simp[K0] at Z
 have b7:(Value.agg ys.toArray).cells=ys.toArray:=rfl;rw[b7] at c1 W p2;have a7:look (Qe H fz++H) b=some (.box x):=by rw[Zp _ _ _ (Gc C)];exact hb
 have b8:ys.length=cs.length:=by rw[sp.len,<-c1];simp
 refine⟨fun n=>if n=0 then ρ b else ys.getD (n - 1) undef,by simp,?_⟩;-- the row of a cell
 have f:∀{i:Nat} {y:Value},ys[i]?=some y->(fun n=>if n=0 then ρ b else ys.getD (n - 1) undef) (i+1)=y:=by intro i y h;simp only[Nat.add_one_ne_zero,if_false,Nat.add_sub_cancel,List.getD_eq_getElem?_getD,h,Option.getD_some]
 have E:∀{i sz:Nat} {es:jVj},cs[i]?=some (.row sz es)->∃(y:Value) (n o : Nat),ys[i]?=some y/\ns[i]?=some (some (n,o))/\one y=true /\
   ((∃u,look H n=some (.row u sz es)/\look (Qe H fz++H) n=some (.row u sz es)/\y=ρ n)\/(es=[]/\∃a,y=.slice a 0 0)):=by
  intro i sz es hc;obtain⟨n,o,q1,q2⟩:=sp.row i sz es hc;obtain⟨u,U,G,r3⟩|⟨z,U,G,r3,r4,r5⟩:=q2
  ·obtain⟨y,p,S⟩:=W i _ U;have e : ys[i]?=some y:=by simpa using p
   cases S with
   | own _ _ k _ hk b6 V hh =>
    rw[G] at hk;cases hk;refine⟨y,n,o,e,q1,V,.inl ⟨u,G,?_,hh rfl⟩⟩;rw[Zp _ _ _ (Vv C i n o q1).2.1];exact G
  ·obtain⟨y,p,S⟩:=W i _ U;have e : ys[i]?=some y:=by simpa using p
   cases S with
   | d _ _ hd =>
    cases hd with
    | lst _ _ _ a cap _ _ _ N b9 =>
     have a5:=N rfl;simp only[List.length_nil] at a5;subst a5;exact⟨_,n,o,e,q1,rfl,.inr ⟨G,a,rfl⟩⟩
 have s:∀{n:Nat} {k:Blk} {r:Nat},look (Zt cs) n=some k->k.live=true->Q9 ((fun n=>if n=0 then ρ b else ys.getD (n - 1) undef) n)=some r ->
   ∃A,(A=b/\n=0\/∃i o,ns[i]?=some (some (A,o))/\n=i+1)/\∃T,look (Qe H fz++H) A=some T/\T.live=true/\Q9 (ρ A)=some r:=by
  intro n k r hn hk t;obtain⟨rfl,rfl⟩|⟨i,sz,es,rfl,hc,rfl⟩:=JA hn
  ·exact⟨b,.inl ⟨rfl,rfl⟩,_,a7,rfl,by simpa using t⟩
  ·obtain⟨y,A,o,p,Q,V,O⟩:=E hc;rw[f p] at t;obtain⟨u,_,k2,k3⟩|⟨_,a,rfl⟩:=O
   ·exact⟨A,.inr ⟨i,o,Q,rfl⟩,_,k2,rfl,by rw[<-k3];exact t⟩
   ·rw[Wk] at t;cases t
 have P:∀r,Mut (Zt cs) (fun n=>if n=0 then ρ b else ys.getD (n - 1) undef) r->Mut (Qe H fz++H) ρ r:=by rintro r ⟨n,k,J,Y,h3⟩;obtain⟨A,_,T,h4,h5,h6⟩:=s J Y h3;exact⟨A,T,h4,h5,h6⟩
 have M:∀r,MM (fun r=>F r\/(Mut (Qe H fz++H) ρ r/\¬Mut (Zt cs) (fun n=>if n=0 then ρ b else ys.getD (n - 1) undef) r)) (Zt cs) (fun n=>if n=0 then ρ b else ys.getD (n - 1) undef) r->MM F (Qe H fz++H) ρ r:=by
  rintro r ((h|⟨h,_⟩)|h)
  ·exact .inl h
  ·exact .inr h
  ·exact .inr (P r h)
 refine⟨P,⟨fun n k hn=>?_,fun n A k T r J Y m1 m2 U G=>?_,fun r t N=>?_,fun r t=>?_,fun g z hg=>(L.glob g z hg).ext (jLj _) (fun _ _ _=>rfl) fun r _ h=>M r h⟩,?_,?_⟩
 ·obtain⟨rfl,rfl⟩|⟨i,sz,es,rfl,hc,rfl⟩:=JA hn
  ·have a9:W5 (JX 1 cs)=true:=by
    have:∀(l:List AV),(∀(i:Nat) (c:AV),l[i]?=some c->c.isOne=true)->W5 l=true:=by
     intro l;induction l with
     | nil=>intro _;rfl
     | cons x l ih=>intro h;simp only[W5,jAj];exact⟨h 0 x rfl,ih fun i c hc=>h (i+1) c (by simpa using hc)⟩
    refine this _ fun i c hc=>?_;rw[Va] at hc;split at hc
    ·cases hc
    ·rename_i y p;cases hc;obtain⟨_,x',X,q2,q3,_⟩:=sp.dat i y p;exact Qca q3 (VF c2 q2)
    ·cases hc;rfl
   obtain⟨b3,a6⟩:=Option.isSome_iff_exists.1 (EA a9);refine⟨r0,e0,.agg ys.toArray,b3,by simpa using p1,p2,a6,Yn (.agg _ ys (by rw[UU,b8]) fun i c y hc p=>?_)⟩;rw[Va] at hc;split at hc
   ·cases hc
   ·rename_i z hz;cases hc;obtain⟨_,x',X,q2,q3,q4⟩:=sp.dat i z hz;obtain⟨y',e,S⟩:=W i x' q2;have:y'=y:=by
     have h0:ys[i]?=some y':=by simpa using e
     rw[p] at h0;exact(Option.some.inj h0).symm
    subst this;exact .d _ _ ((Wu hs fz x' y' z X q3 (fun q hq=>b2 q (q4 q hq)) S).ext (jLj _) (fun _ _ _=>rfl) fun r _ h=>M r h)
   ·rename_i sz es hz;cases hc;obtain⟨y',A,o,e,Q,V,_⟩:=E hz;have:y'=y:=by rw[p] at e;exact(Option.some.inj e).symm
    subst this;exact .own _ 0 _ _ (by rw[Nat.add_comm];exact UB hz) (jLj _) V fun _=>by rw[Nat.add_comm];exact(f p).symm
  ·obtain⟨y,A,o,p,Q,V,O⟩:=E hc;have h0:RowV w (MM F (Qe H fz++H) ρ) y sz es:=by
    obtain⟨u,_,k2,k3⟩|⟨rfl,a,rfl⟩:=O
    ·have:=L.blk A _ k2;rw[k3];exact this
    ·exact .inl ⟨rfl,a,rfl⟩
   have J:=h0.sub (M':=MM (fun r=>F r\/(Mut (Qe H fz++H) ρ r/\¬Mut (Zt cs) (fun n=>if n=0 then ρ b else ys.getD (n - 1) undef) r)) (Zt cs) (fun n=>if n=0 then ρ b else ys.getD (n - 1) undef)) fun r _ h=>M r h;rw[<-f p] at J;exact J
 ·obtain⟨a,a1,ka,a2,a3,a4⟩:=s J m1 U;obtain⟨c,d1,kc,d2,d3,d4⟩:=s Y m2 G;have b4:=L.inj a c ka kc r a2 d2 a3 d3 a4 d4;subst b4;obtain⟨rfl,rfl⟩|⟨i,o,K,rfl⟩:=a1<;>obtain⟨hd,rfl⟩|⟨j,u',hj,rfl⟩:=d1
  ·rfl
  ·exact absurd rfl (Vv C j a u' hj).1
  ·exact absurd hd (Vv C i a o K).1
  ·rw[(Vv C i a o K).2.2 j u' hj]
 ·obtain N|⟨_,N⟩:=N
  ·exact L.forb r (P r t) N
  ·exact N t
 ·obtain t|⟨t,_⟩:=t
  ·exact L.bnd r t
  ·exact L.mut_lt t
 ·rintro n k r J Y h3 ⟨A,T,h4,h5,h6⟩;obtain⟨a,a1,ka,a2,a3,a4⟩:=s h4 h5 h6;have:=L.inj n a k ka r J a2 Y a3 h3 a4;subst this;obtain⟨rfl,_⟩|⟨i,o,K,_⟩:=a1
  ·exact .inl rfl
  ·exact .inr ⟨i,o,K⟩
 ·intro i n v K;have a8:i<cs.length:=by have:=(jGj K).1;rw[sp.nm.len,sp.lenS,<-sp.len] at this;exact this
  cases hc:cs[i] with
  | dat z =>
   have:=(sp.dat i z (by rw[jej a8,hc])).1;rw[K] at this;cases this
  | row sz es =>
   obtain⟨A,o,a1,a2⟩:=sp.row i sz es (by rw[jej a8,hc]);rw[K] at a1;cases a1;obtain⟨u,U,G,r3⟩|⟨z,_,_,_,_,r⟩:=a2
   ·obtain⟨y,p,S⟩:=W i _ U;have e : ys[i]?=some y:=by simpa using p
    rw[f e];cases S with
    | own _ _ T _ a0 b6 V hh =>
     rw[G] at a0;cases a0;exact hh rfl
   ·cases r
mutual
theorem jq {cx:Cx}{F:Nat->Prop}{H:List (Nat×Blk)}{ρ:Nat->Value}{w:World}(hs:HSim cx F H ρ w){fz:List Nat}{bo:Option Nat}{M:Nat->Prop}{hc:List (Nat×Blk)}{ρc:Nat->Value}(hM:∀r,M r->MM F (Qe H fz++H) ρ r)
  (hb:∀b0,bo=some b0->(∃x,look H b0=some (.box x))/\(∃x,look hc 0=some (.box x))/\ρc 0=ρ b0) :
  ∀(x:AV) (v:Value) (y:AV) (fs:List Nat),x.argO H bo=some (y,fs)->(∀b,b∈fs->b∈fz)->VR w (MM F H ρ) H ρ x v->VR w M hc ρc y v
 | .ptr b' ver sz i off,v,y,fs,h,hf,hr=>by
  simp only[AV.argO] at h;split at h;case h_2 =>
   split at h;case h_2=>cases h
   rename_i z f1 h1;simp only[jIj,jPj] at h;obtain⟨rfl,rfl⟩:=h;exact .d _ _ ((Wu hs fz _ v z f1 h1 hf hr).ext (jLj _) (fun _ _ _=>rfl) fun r _ h=>hM r h)
  rename_i he;simp only[jIj,jPj] at h;obtain⟨rfl,rfl⟩:=h;simp only[jAj] at he;obtain⟨⟨⟨e1,e2⟩,e3⟩,e4⟩:=he;obtain⟨b0,rfl⟩:∃b0,bo=some b0:=by
   cases bo with
   | none=>simp[isB0] at e1
   | some b0=>exact⟨b0,rfl⟩
  simp only[isB0] at e1;have e1:=jqj e1;have e2:=jqj e2;have e3:=jqj e3;have e4:=jqj e4;subst e1;subst e2;subst e3;subst e4;obtain⟨⟨x,hx⟩,⟨x0,hx0⟩,hρ⟩:=hb b0 rfl;cases hr with
  | ptr _ _ _ _ _ k _ hk hv ho hh =>
   rw[hx] at hk;cases hk;obtain⟨r,hr,hy⟩:=hh rfl;exact .ptr 0 0 0 0 off _ _ hx0 (jLj _) ho fun _=>⟨r,by rw[hρ];exact hr,hy⟩
 | .fn f a c,v,y,fs,h,hf,hr=>by
  simp only[AV.argO] at h;split at h;case h_2=>cases h
  rename_i x1 f1 y1 f2 h1 h2;simp only[jIj,jPj] at h;obtain⟨rfl,rfl⟩:=h;cases hr with
  | fn _ _ _ xs ys hl hm hh kk =>
   obtain⟨q1,q2⟩:=VP hs hM hb a xs x1 f1 h1 (fun b hb=>hf b (List.mem_append.2 (.inl hb))) hl hh;obtain⟨q3,q4⟩:=VP hs hM hb c ys y1 f2 h2 (fun b hb=>hf b (List.mem_append.2 (.inr hb))) hm kk;exact Yn (.fn _ _ _ _ _ q1 q3 q2 q4)
 | .agg cs,v,y,fs,h,hf,hr=>by
  simp only[AV.argO] at h;split at h;case h_2=>cases h
  rename_i l f1 h1;simp only[jIj,jPj] at h;obtain⟨rfl,rfl⟩:=h;cases hr with
  | agg _ ys hl hh =>
   obtain⟨q1,q2⟩:=VP hs hM hb cs ys l f1 h1 hf hl hh;exact Yn (.agg _ _ q1 q2)
 | .tup cs,v,y,fs,h,hf,hr=>by
  simp only[AV.argO] at h;split at h;case h_2=>cases h
  rename_i l f1 h1;simp only[jIj,jPj] at h;obtain⟨rfl,rfl⟩:=h;cases hr with
  | tup _ ys hl hh =>
   obtain⟨q1,q2⟩:=VP hs hM hb cs ys l f1 h1 hf hl hh;exact Yn (.tup _ _ q1 q2)
 | .d x,v,y,fs,h,hf,hr=>by
  simp only[AV.argO,jIj,jPj] at h;obtain⟨rfl,rfl⟩:=h;cases hr with
  | d _ _ hd=>exact .d _ _ (((hs.freeze fz).2.dr hd).ext (jLj _) (fun _ _ _=>rfl) fun r _ h=>hM r h)
 | .own n u,v,y,fs,h,hf,hr=>by
  simp only[AV.argO] at h;split at h;case h_2=>cases h
  rename_i z f1 h1;simp only[jIj,jPj] at h;obtain⟨rfl,rfl⟩:=h;exact .d _ _ ((Wu hs fz _ v z f1 h1 hf hr).ext (jLj _) (fun _ _ _=>rfl) fun r _ h=>hM r h)
 | .dptr x o,v,y,fs,h,hf,hr=>by
  simp only[AV.argO,jIj,jPj] at h;obtain⟨rfl,rfl⟩:=h;cases hr with
  | dptr _ _ blk o' hd=>exact .d _ _ ((((hs.freeze fz).2.dat hd).ref _).ext (jLj _) (fun _ _ _=>rfl) fun r _ h=>hM r h)
 | .sub _ _ _ _ _,v,y,fs,h,hf,hr=>by simp[AV.argO] at h
 | .junk,v,y,fs,h,hf,hr=>by simp[AV.argO] at h
theorem VP {cx:Cx}{F:Nat->Prop}{H:List (Nat×Blk)}{ρ:Nat->Value}{w:World}(hs:HSim cx F H ρ w){fz:List Nat}{bo:Option Nat}{M:Nat->Prop}{hc:List (Nat×Blk)}{ρc:Nat->Value}(hM:∀r,M r->MM F (Qe H fz++H) ρ r)
  (hb:∀b0,bo=some b0->(∃x,look H b0=some (.box x))/\(∃x,look hc 0=some (.box x))/\ρc 0=ρ b0) :
  ∀(cs:List AV) (ys:List Value) (l:List AV) (fs:List Nat),qv H bo cs=some (l,fs)->(∀b,b∈fs->b∈fz)->cs.length=ys.length ->
  (∀(i:Nat) (c:AV) (y:Value),cs[i]?=some c->ys[i]?=some y->VR w (MM F H ρ) H ρ c y) ->
  l.length=ys.length/\∀(i:Nat) (c:AV) (y:Value),l[i]?=some c->ys[i]?=some y->VR w M hc ρc c y
 | [],ys,l,fs,h,_,hl,_=>by simp only[qv,jIj,jPj] at h;obtain⟨rfl,rfl⟩:=h;cases ys<;>simp_all
 | x::cs,ys,l,fs,h,hf,hl,hh=>by
  simp only[qv] at h;split at h;case h_2=>cases h
  rename_i y1 f1 l1 f2 h1 h2;simp only[jIj,jPj] at h;obtain⟨rfl,rfl⟩:=h;cases ys with
  | nil=>simp at hl
  | cons y ys =>
   obtain⟨g1,g2⟩:=VP hs hM hb cs ys l1 f2 h2 (fun b hb=>hf b (List.mem_append.2 (.inr hb))) (by simpa using hl) (fun i c z hc hz=>hh (i+1) c z (by simpa using hc) (by simpa using hz));refine⟨by simpa using g1,fun i c z hc hz=>?_⟩;cases i with
   | zero =>
    simp only[jzj,jIj] at hc hz;subst hc;subst hz;exact jq hs hM hb x y y1 f1 h1 (fun b hb=>hf b (List.mem_append.2 (.inl hb))) (hh 0 x y rfl rfl)
   | succ i=>exact g2 i c z (by simpa using hc) (by simpa using hz)
end
mutual
theorem Gz {w:World}{M M' : Nat->Prop}{hc H:List (Nat×Blk)}{ρc ρ:Nat->Value}{b:Nat}(hM:∀r,M' r->M r)(hb:∃x,look H b=some (.box x))(hρ:ρ b=ρc 0)(h0:∃x,look hc 0=some (.box x)) :
  ∀(x:AV) (v:Value) (y:AV),x.resO b=some y->VR w M hc ρc x v->VR w M' H ρ y v
 | .d x,v,y,h,hr=>by
  simp only[AV.resO,jIj] at h;subst h;cases hr with
  | d _ _ hd=>exact .d _ _ (hd.ext (jLj _) (fun _ _ _=>rfl) fun r _ h=>hM r h)
 | .agg cs,v,y,h,hr=>by
  simp only[AV.resO] at h;split at h;case h_2=>cases h
  rename_i l h1;simp only[jIj] at h;subst h;cases hr with
  | agg _ ys hl hh =>
   obtain⟨q1,q2⟩:=Xf hM hb hρ h0 cs ys l h1 hl hh;exact .agg _ _ q1 q2
 | .tup cs,v,y,h,hr=>by
  simp only[AV.resO] at h;split at h;case h_2=>cases h
  rename_i l h1;simp only[jIj] at h;subst h;cases hr with
  | tup _ ys hl hh =>
   obtain⟨q1,q2⟩:=Xf hM hb hρ h0 cs ys l h1 hl hh;exact .tup _ _ q1 q2
 | .ptr b' ver sz i off,v,y,h,hr=>by
  simp only[AV.resO] at h;split at h;case h_2=>cases h
  rename_i he;simp only[jIj] at h;subst h;simp only[jAj] at he;obtain⟨⟨⟨e1,e2⟩,e3⟩,e4⟩:=he;have e1:=jqj e1;have e2:=jqj e2;have e3:=jqj e3;have e4:=jqj e4;subst e1;subst e2;subst e3;subst e4;obtain⟨x,hx⟩:=hb;obtain⟨x0,hx0⟩:=h0;cases hr with
  | ptr _ _ _ _ _ k _ hk hv ho hh =>
   rw[hx0] at hk;cases hk;obtain⟨r,hr,hy⟩:=hh rfl;exact .ptr b 0 0 0 off _ _ hx (jLj _) ho fun _=>⟨r,by rw[hρ];exact hr,hy⟩
 | .fn _ _ _,v,y,h,hr=>by simp[AV.resO] at h
 | .own _ _,v,y,h,hr=>by simp[AV.resO] at h
 | .dptr _ _,v,y,h,hr=>by simp[AV.resO] at h
 | .sub _ _ _ _ _,v,y,h,hr=>by simp[AV.resO] at h
 | .junk,v,y,h,hr=>by simp[AV.resO] at h
theorem Xf {w:World}{M M' : Nat->Prop}{hc H:List (Nat×Blk)}{ρc ρ:Nat->Value}{b:Nat}(hM:∀r,M' r->M r)(hb:∃x,look H b=some (.box x))(hρ:ρ b=ρc 0)(h0:∃x,look hc 0=some (.box x)) :
  ∀(cs:List AV) (ys:List Value) (l:List AV),kj b cs=some l->cs.length=ys.length ->
  (∀(i:Nat) (c:AV) (y:Value),cs[i]?=some c->ys[i]?=some y->VR w M hc ρc c y) ->
  l.length=ys.length/\∀(i:Nat) (c:AV) (y:Value),l[i]?=some c->ys[i]?=some y->VR w M' H ρ c y
 | [],ys,l,h,hl,_=>by simp only[kj,jIj] at h;subst h;cases ys<;>simp_all
 | x::cs,ys,l,h,hl,hh=>by
  simp only[kj] at h;split at h;case h_2=>cases h
  rename_i y1 l1 h1 h2;simp only[jIj] at h;subst h;cases ys with
  | nil=>simp at hl
  | cons y ys =>
   obtain⟨g1,g2⟩:=Xf hM hb hρ h0 cs ys l1 h2 (by simpa using hl) (fun i c z hc hz=>hh (i+1) c z (by simpa using hc) (by simpa using hz));refine⟨by simpa using g1,fun i c z hc hz=>?_⟩;cases i with
   | zero =>
    simp only[jzj,jIj] at hc hz;subst hc;subst hz;exact Gz hM hb hρ h0 x y y1 h1 (hh 0 x y rfl rfl)
   | succ i=>exact g2 i c z (by simpa using hc) (by simpa using hz)
end
theorem qI:∀(cs:List OC) (m i n v:Nat),(V8 m cs)[i]?=some (some (n,v))->n=m+i/\v=0
 | [],m,i,n,v,h=>by simp[V8] at h
 | .dat x::l,m,0,n,v,h=>by simp[V8] at h
 | .dat x::l,m,i+1,n,v,h=>by obtain⟨b,a⟩:=qI l (m+1) i n v (by simpa[V8] using h);exact⟨by omega,a⟩
 | .row s e::l,m,0,n,v,h=>by simp only[V8,jzj,jIj,jPj] at h;exact⟨by omega,h.2.symm⟩
 | .row s e::l,m,i+1,n,v,h=>by obtain⟨b,a⟩:=qI l (m+1) i n v (by simpa[V8] using h);exact⟨by omega,a⟩
theorem Xm:∀(cs:List OC) (m:Nat),Names (V8 m cs) cs
 | [],m=>⟨fun i sz es h=>by simp at h,fun i x h=>by simp at h,rfl⟩
 | .dat y::l,m=>by
  have a:=Xm l (m+1);refine⟨fun i sz es h=>?_,fun i x h=>?_,by simp[V8,a.len]⟩
  ·cases i with
   | zero=>simp at h
   | succ i=>simpa[V8] using a.row i sz es (by simpa using h)
  ·cases i with
   | zero=>simp[V8]
   | succ i=>simpa[V8] using a.dat i x (by simpa using h)
 | .row s e::l,m=>by
  have a:=Xm l (m+1);refine⟨fun i sz es h=>?_,fun i x h=>?_,by simp[V8,a.len]⟩
  ·cases i with
   | zero=>exact⟨(m,0),by simp[V8]⟩
   | succ i=>simpa[V8] using a.row i sz es (by simpa using h)
  ·cases i with
   | zero=>simp at h
   | succ i=>simpa[V8] using a.dat i x (by simpa using h)
theorem Names.keep {ns:List (Option (Nat×Nat))}{cs:List OC}(h:Names ns cs)(ks:List Bool):Names (Wi ks ns) cs :=
 ⟨fun i sz es hc=>by obtain⟨⟨n,v⟩,hp⟩:=h.row i sz es hc;obtain⟨u,a⟩:=JD ks ns i n v hp;exact⟨_,a⟩,fun i x hc=>zE ks ns i (h.dat i x hc),by rw[wP];exact h.len⟩
theorem Qc2 {x:AV}{cells:List AV}(h:QaG x=true)(b:x.cells=some cells)(e:K0 x=true):AV.norm (.agg cells)=x:=by
 cases x with
 | agg l =>
  simp only[AV.cells] at b;split at b;case h_2=>cases b
  cases b;simp only[QaG] at h;unfold AV.norm;simp only[AV.toD];split at h
  ·rename_i f;rw[f]
  ·cases h
 | d y =>
  cases y with
  | agg a =>
   have c:=UN b;subst c;have:∀a:jVj,Kk (a.map .d)=some a:=by
    intro a;induction a with
    | nil=>rfl
    | cons d a ih=>simp only[jCj,Kk,AV.toD,ih]
   simp only[SX.D.cells,AV.norm,AV.toD,this]
  | _=>cases h
 | _=>cases h
theorem Eu {H:List (Nat×Blk)}:∀(cells:List AV) (j:List OC) (m:Nat) (cs:List OC) (ns:List (Option (Nat×Nat))) (g:List Nat) (ks:List Bool),V6 H m cells j=some (cs,ns,g)->KU ks cells j=true ->
  ZC (Wi ks ns) cs=cells/\∀(i n v:Nat),(Wi ks ns)[i]?=some (some (n,v))->∃sz es,cs[i]?=some (.row sz es)/\look H n=some (.row v sz es)
 | [],[],m,cs,ns,g,ks,h,hp=>by simp only[V6,jIj,jPj] at h;obtain⟨rfl,rfl,rfl⟩:=h;rw[KV];exact⟨rfl,fun i n v c=>by simp at c⟩
 | [],_::_,m,cs,ns,g,ks,h,hp=>by simp[V6] at h
 | _::_,[],m,cs,ns,g,ks,h,hp=>by simp[V6] at h
 | x::xs,.dat y0::j,m,cs,ns,g,ks,h,hp=>by
  match ks,x,hp with
  | true::ks,.d y,hp =>
   simp only[KU] at hp;simp only[V6,AV.toDH] at h;split at h;case h_2=>cases h
   rename_i G s e f gs1 k o;simp only[jIj,jPj] at k;obtain⟨rfl,rfl⟩:=k;simp only[jIj,jPj] at h;obtain⟨rfl,rfl,rfl⟩:=h;obtain⟨p,A⟩:=Eu xs j (m+1) e f gs1 ks o hp;refine⟨by simp only[Wi,ZC,p],fun i n v c=>?_⟩;cases i with
   | zero=>simp[Wi] at c
   | succ i=>simpa using A i n v (by simpa[Wi] using c)
 | x::xs,.row sz0 e0::j,m,cs,ns,g,ks,h,hp=>by
  match ks,x,hp with
  | true::ks,.own n0 u0,hp =>
   simp only[KU] at hp;simp only[V6] at h;split at h;case h_2=>cases h
   rename_i F p e f gs1 k o;simp only[jIj,jPj] at h;obtain⟨rfl,rfl,rfl⟩:=h;obtain⟨C,E⟩:=Eu xs j (m+1) e f gs1 ks o hp;obtain⟨es,rfl,t⟩:=uu k;obtain⟨u,l,q,r⟩|⟨z,l,_⟩:=t
   ·obtain⟨a,b⟩:=p;simp only at r q l;subst r;cases l;refine⟨by simp only[Wi,ZC,C],fun i n v c=>?_⟩;cases i with
    | zero =>
     simp only[Wi,jzj,jIj,jPj] at c;obtain⟨rfl,rfl⟩:=c;exact⟨sz0,es,rfl,q⟩
    | succ i=>simpa using E i n v (by simpa[Wi] using c)
   ·cases l
theorem Qas {H:List (Nat×Blk)}(cells:List AV)(a:List OC)(m:Nat)(cs:List OC)(ns:List (Option (Nat×Nat)))(b:List Nat)(ks:List Bool)(h:V6 H m cells a=some (cs,ns,b))(_:KU ks cells a=true):Names ns cs:=by
 have sp:=Yb cells a m cs ns b h;refine⟨fun i sz es hc=>?_,fun i y hc=>(sp.dat i y hc).1,?_⟩
 ·obtain⟨n,v,c,_⟩:=sp.row i sz es hc;exact⟨_,c⟩
 ·rw[sp.nm.len,sp.lenS,sp.len]
theorem Qb4 {cx:Cx}{H:List (Nat×Blk)}{nx:Nat}{f:FuncId}{s:List AV}{bo:Option Nat}{r:AV}{a : List OC}{ks:List Bool}{o' : List Orc}{rc:RC}(h:ze cx H nx f s bo r a ks o'=some rc)(a4:∀p,p∈rc.ob->p)
  {F:Nat->Prop} {ρ:Nat->Value} {w:World} {vs:List Value} (hs:HSim cx F H ρ w) (hl:s.length=vs.length)
  (hv:∀(i:Nat) (c:AV) (y:Value),s[i]?=some c->vs[i]?=some y->VR w (MM F H ρ) H ρ c y) :
  Calls cx.P f vs.toArray w fun e w'=>∃v,e=.returned v/\∃ρ',HSim cx F (rc.heap H) ρ' w'/\Steps1 H ρ w (rc.heap H) ρ' w'/\VR w' (MM F (rc.heap H) ρ') (rc.heap H) ρ' rc.val v:=by
 unfold ze at h;split at h;case h_2=>cases h
 rename_i V d A b6;split at h
 ·-- an object that is there
  rename_i b;split at h;case h_2=>cases h
  rename_i x Q;split at h;case h_2=>cases h
  rename_i cells hx a0;split at h;case h_2=>cases h
  rename_i cs ns j O;split at h;case h_2=>cases h
  rename_i J o N;split at h
  ·-- the object stays V it was
   rename_i X;simp only[jAj] at X;simp only[jIj] at h;subst h;obtain⟨Z,g2⟩:=hs.freeze (d++j);obtain⟨ρc,o1,o2,o3,o4,o5⟩:=Qay hs (fz:=d++j) Q hx a0 O (fun q Y=>List.mem_append.2 (.inr Y)) o;have sp:=Yb cells a nx cs ns j O;obtain⟨b9,a9⟩:=Eu cells a nx cs ns j ks O X.1;have L:look (Qe H (d++j)++H) b=some (.box x):=by rw[Zp _ _ _ (Gc o)];exact Q
   have hM:∀r,MM (fun r=>F r\/(Mut (Qe H (d++j)++H) ρ r/\¬Mut (Zt cs) ρc r)) (Zt cs) ρc r->MM F (Qe H (d++j)++H) ρ r:=by
    rintro r ((h|⟨h,_⟩)|h)
    ·exact .inl h
    ·exact .inr h
    ·exact .inr (o2 r h)
   obtain⟨d1,d2⟩:=VP hs (fz:=d++j) (bo:=some b) (M:=MM (fun r=>F r\/(Mut (Qe H (d++j)++H) ρ r/\¬Mut (Zt cs) ρc r)) (Zt cs) ρc) (hc:=Zt cs) (ρc:=ρc) hM
    (fun b0 h=>by cases h;exact⟨⟨x,Q⟩,⟨_,ZQ cs⟩,o1⟩) s vs V d A (fun q Y=>List.mem_append.2 (.inl Y)) hl hv
   have m:ComputesO cx f V (some cs) r cs ks:=a4 _ (by exact jMj);refine(m w _ ρc vs o3 d1 d2).mono ?_;rintro e w' ⟨y,ρ',rfl,q1,q2,q3,q4,q5⟩;have b8:Names ns cs:=Qas cells a nx cs ns j ks O X.1;obtain⟨k1,k2,k3,k4,k5⟩:=glue Z (hin:=Zt cs) (ρc:=ρc) o2 (cs:=cs) (ns:=Wi ks ns) (bn:=b) (fz:=d++j) (b8.keep ks) (by rw[KD];exact o)
    (fun n k r h1 h2 h3 h4=>(o4 n k r h1 h2 h3 h4).imp id fun⟨i,v,E⟩=>⟨i,JD ks ns i n v E⟩)
    (fun i n J k G l=>by
     obtain⟨sz,es,hc,S⟩:=a9 i n J G;have T:¬n∈d++j:=(Vv (by rw[KD];exact o) i n J G).2.1;rw[Zp _ _ _ T,S] at l;cases l;refine⟨jLj _,fun _=>?_⟩;obtain h|⟨l,h⟩:=KW ks ns i n J G
     ·exfalso;obtain⟨n',v',a1,a2⟩:=sp.row i sz es hc;rw[h] at a1;cases a1;obtain⟨u,_,b2,b3⟩|⟨z,_,_,_,b4,_⟩:=a2
      ·rw[S] at b2;cases b2;omega
      ·rw[S] at b4;cases b4
     ·rw[(q5 rfl).2 i sz es l hc];exact o5 i n J h)
    (fun k l=>by rw[L] at l;cases l;exact⟨rfl,by rw[(q5 rfl).1];exact o1⟩) q1 q3 q4
   have a3:AV.norm (.agg (ZC (Wi ks ns) cs))=x:=by rw[b9];exact Qc2 X.2 hx a0
   have b7:∀n,look (Qe H (d++j)++H) n=look (Yu (Wi ks ns) b cs (Qe H (d++j)++H)) n:=by
    intro n;by_cases hn:n=b
    ·subst hn;rw[k4,L,a3]
    ·rw[Yu,Qc _ _ (Ne.symm hn),Wl (WY (Wi ks ns) cs)];cases hlo:look (WY (Wi ks ns) cs) n with
     | none=>rfl
     | some k =>
      obtain⟨i,v,sz,es,a1,a2,rfl⟩:=Yl hlo;obtain⟨b5,a6,hc,S⟩:=a9 i n v a1;rw[a2] at hc;cases hc;have T:¬n∈d++j:=(Vv (by rw[KD];exact o) i n v a1).2.1;rw[Zp _ _ _ T];exact S
   obtain⟨u1,u2⟩:=W0 b7 k1;refine⟨y,rfl,_,u1,(g2.trans k2).trans u2,?_⟩;exact u2.vr (Gz k3 ⟨_,k4⟩ k5 ⟨_,ZQ cs⟩ r y J N q2)
  simp only[jIj] at h;subst h;obtain⟨Z,g2⟩:=hs.freeze (d++j);obtain⟨ρc,o1,o2,o3,o4,o5⟩:=Qay hs (fz:=d++j) Q hx a0 O (fun q Y=>List.mem_append.2 (.inr Y)) o;have sp:=Yb cells a nx cs ns j O;have L:look (Qe H (d++j)++H) b=some (.box x):=by rw[Zp _ _ _ (Gc o)];exact Q
  have hM:∀r,MM (fun r=>F r\/(Mut (Qe H (d++j)++H) ρ r/\¬Mut (Zt cs) ρc r)) (Zt cs) ρc r->MM F (Qe H (d++j)++H) ρ r:=by
   rintro r ((h|⟨h,_⟩)|h)
   ·exact .inl h
   ·exact .inr h
   ·exact .inr (o2 r h)
  obtain⟨d1,d2⟩:=VP hs (fz:=d++j) (bo:=some b) (M:=MM (fun r=>F r\/(Mut (Qe H (d++j)++H) ρ r/\¬Mut (Zt cs) ρc r)) (Zt cs) ρc) (hc:=Zt cs) (ρc:=ρc) hM
   (fun b0 h=>by cases h;exact⟨⟨x,Q⟩,⟨_,ZQ cs⟩,o1⟩) s vs V d A (fun q Y=>List.mem_append.2 (.inl Y)) hl hv
  have m:ComputesO cx f V (some cs) r a ks:=a4 _ (by exact jMj);refine(m w _ ρc vs o3 d1 d2).mono ?_;rintro e w' ⟨y,ρ',rfl,q1,q2,q3,q4,q5⟩;have W:∀(i n v:Nat),ns[i]?=some (some (n,v))->∃(sz:Nat) (es:jVj),cs[i]?=some (.row sz es):=by
   intro i n v E;have a7:i<cs.length:=by have:=(jGj E).1;rw[sp.nm.len,sp.lenS,<-sp.len] at this;exact this
   cases hc:cs[i] with
   | dat z =>
    have:=(sp.dat i z (by rw[jej a7,hc])).1;rw[E] at this;cases this
   | row sz es=>exact⟨sz,es,by rw[jej a7,hc]⟩
  obtain⟨k1,k2,k3,k4,k5⟩:=glue Z (hin:=Zt cs) (ρc:=ρc) o2 (cs:=a) (ns:=Wi ks ns) (bn:=b) (fz:=d++j) (sp.nm.keep ks) (by rw[KD];exact o)
   (fun n k r h1 h2 h3 h4=>(o4 n k r h1 h2 h3 h4).imp id fun⟨i,v,E⟩=>⟨i,JD ks ns i n v E⟩)
   (fun i n J k G l=>by
    have a8:∃v,ns[i]?=some (some (n,v)):=by
     obtain h|⟨_,h⟩:=KW ks ns i n J G
     ·exact⟨_,h⟩
     ·exact⟨_,h⟩
    obtain⟨v,E⟩:=a8;obtain⟨sz,es,hc⟩:=W i n v E;obtain⟨n',v',a1,a2⟩:=sp.row i sz es hc;rw[E] at a1;cases a1;have T:=(Vv o i n v E).2.1;rw[Zp _ _ _ T] at l;obtain⟨u,_,b2,b3⟩|⟨z,_,_,_,b4,_⟩:=a2
    ·rw[b2] at l;cases l;simp only[Blk.ver];obtain h|⟨l,h⟩:=KW ks ns i n J G
     ·rw[E] at h;cases h;exact⟨by omega,fun h=>by omega⟩
     ·rw[E] at h;cases h;refine⟨by omega,fun _=>?_⟩;obtain⟨b5,a6,a5⟩:=(sp.nm.keep ks).rowOf G;rw[(q5 rfl).2 i b5 a6 l a5];exact o5 i n J E
    ·rw[b4] at l;cases l)
   (fun k l=>by rw[L] at l;cases l;exact⟨rfl,by rw[(q5 rfl).1];exact o1⟩) q1 q3 q4
  have C:RC.heap { val:=J,up:=(b,.box (AV.norm (.agg (ZC (Wi ks ns) a))))::(WY (Wi ks ns) a++Qe H (d++j)),full:=none,nx:=nx+a.length,ob:=[ComputesO cx f V (some cs) r a ks],orc:=o',sfx:=true } H=Yu (Wi ks ns) b a (Qe H (d++j)++H):=by simp only[RC.heap,Yu,List.cons_append,List.append_assoc]
  rw[C];refine⟨y,rfl,_,k1,g2.trans k2,?_⟩;exact Gz k3 ⟨_,k4⟩ k5 ⟨_,ZQ a⟩ r y J N q2
 ·-- an object that the callee makes
  split at h;case h_2=>cases h
  rename_i J o N;simp only[jIj] at h;subst h;obtain⟨Z,g2⟩:=hs.freeze d;have t:∀r,¬Mut (VL none) (fun _=>undef) r:=by rintro r ⟨b,k,Q,_⟩;simp[VL,look] at Q
  have hM:∀r,MM (fun r=>F r\/(Mut (Qe H d++H) ρ r/\¬Mut (VL none) (fun _=>undef) r)) (VL none) (fun _=>undef) r->MM F (Qe H d++H) ρ r:=by
   rintro r ((h|⟨h,_⟩)|h)
   ·exact .inl h
   ·exact .inr h
   ·exact absurd h (t r)
  have o3:HSim cx (fun r=>F r\/(Mut (Qe H d++H) ρ r/\¬Mut (VL none) (fun _=>undef) r)) (VL none) (fun _=>undef) w :=
   ⟨fun b k Q=>by simp[VL,look] at Q,fun b b' k k' r Q=>by simp[VL,look] at Q,fun r U=>absurd U (t r),fun r U=>by
    obtain U|⟨U,_⟩:=U
    ·exact Z.bnd r U
    ·exact Z.mut_lt U,fun g z hg=>(Z.glob g z hg).ext (jLj _) (fun _ _ _=>rfl) fun r _ h=>hM r h⟩
  obtain⟨d1,d2⟩:=VP hs (fz:=d) (bo:=none) (M:=MM (fun r=>F r\/(Mut (Qe H d++H) ρ r/\¬Mut (VL none) (fun _=>undef) r)) (VL none) (fun _=>undef)) (hc:=VL none) (ρc:=fun _=>undef) hM
   (fun b0 h=>by cases h) s vs V d A (fun q Y=>Y) hl hv
  have m:ComputesO cx f V none r a ks:=a4 _ (by exact jMj);refine(m w _ (fun _=>undef) vs o3 d1 d2).mono ?_;rintro e w' ⟨y,ρ',rfl,q1,q2,q3,q4,_⟩;have K:∀n,nx<=n->look (Qe H d++H) n=none:=by
   intro n hn;have h0:look H n=none:=by
    cases hc:look H n with
    | none=>rfl
    | some k=>have:=VD b6 hc;omega
   obtain h|⟨_,_,_,h,_⟩|⟨_,_,_,h,_⟩:=W3 H d n
   ·rw[h];exact h0
   ·rw[h0] at h;cases h
   ·rw[h0] at h;cases h
  obtain⟨k1,k2,k3,k4,k5⟩:=glue Z (hin:=VL none) (ρc:=fun _=>undef) (fun r U=>absurd U (t r)) (cs:=a) (ns:=V8 (nx+1) a) (bn:=nx) (fz:=d) (Xm a (nx+1)) o (fun n k r _ _ _ U=>absurd U (t r))
   (fun i n v k E l=>by obtain⟨rfl,_⟩:=qI a (nx+1) i n v E;rw[K _ (by omega)] at l;cases l)
   (fun k l=>by rw[K _ (jLj _)] at l;cases l) q1 q3 q4
  have C:RC.heap { val:=J,up:=(nx,.box (AV.norm (.agg (ZC (V8 (nx+1) a) a))))::(WY (V8 (nx+1) a) a++Qe H d),full:=none,nx:=nx+1+a.length,ob:=[ComputesO cx f V none r a ks],orc:=o',sfx:=true } H=Yu (V8 (nx+1) a) nx a (Qe H d++H):=by simp only[RC.heap,Yu,List.cons_append,List.append_assoc]
  rw[C];refine⟨y,rfl,_,k1,g2.trans k2,?_⟩;exact Gz k3 ⟨_,k4⟩ k5 ⟨_,ZQ a⟩ r y J N q2
section
variable {cx:Cx}
theorem uq {H:List (Nat×Blk)}{x y:AV}{s:St}(h:yj H x s=some y)(e:s.sfx=true->∃new,s.hp=new++H) :
  ∃z f,x.toDH s.hp=some (z,f)/\y=.d z/\(∀b,look H b≠none->¬b∈f)/\∀b k,look H b=some k->look s.hp b=some k:=by
 unfold yj at h;split at h;case h_2=>cases h
 rename_i z f hc j;split at h;case h_2=>cases h
 rename_i a;simp only[jIj] at h;subst h;simp only[jAj] at hc;obtain⟨new,c⟩:=e hc.1;refine⟨z,f,j,rfl,fun b g m=>?_,fun b k g=>?_⟩
 ·simp only[List.all_eq_true] at a;have:=a b m;rw[VA.2 g] at this;cases this
 ·have i:=hc.2;rw[c] at i ⊢;have l:(new++H).length - H.length=new.length:=by simp
  rw[l] at i;rw[Wl,K5 new H i b (by rw[g];simp)];exact g
theorem Qsr {w w' : World}{M M' : Nat->Prop}{x:D}{y:Value}(hp:Qsw x=true)(h:DR w M x y):DR w' M' x y:=by cases x<;>first|(cases h;exact .v _)|cases hp
theorem Qsx {w w' : World}{M M' : Nat->Prop}{x:D}{y:Value}(hp:Qdm x=true)(h:DR w M x y):DR w' M' x y:=by
 cases x with
 | v=>cases h;exact .v _
 | agg l =>
  cases h with
  | agg _ ys a h=>exact .agg l ys a fun i c y hc b=>Qsr (List.all_eq_true.1 hp c (jgj hc)) (h i c y hc b)
 | _=>cases hp
theorem Qsu {w w' : World}{M M' : Nat->Prop}{x:D}{y:Value}(hp:Qss x=true)(h:DR w M x y):DR w' M' x y:=by
 cases x with
 | v=>cases h;exact .v _
 | agg l =>
  cases h with
  | agg _ ys a h=>exact .agg l ys a fun i c y hc b=>Qsr (List.all_eq_true.1 hp c (jgj hc)) (h i c y hc b)
 | tup l =>
  cases h with
  | tup _ ys a h=>exact .tup l ys a fun i c y hc b=>Qsx (List.all_eq_true.1 hp c (jgj hc)) (h i c y hc b)
 | _=>cases hp
theorem QcU (hN:NoAsk cx){ex:Code->St->Option (Ex×St)}(Y:ExOK cx ex)(hS:zQ ex):jv cx (kX ex cx):=by
 intro keepable H nx c6 orc f a0 rc h U F ρ w vs E Z hv;obtain⟨fn,T,hc⟩:=zP h;obtain⟨c,us,v,Q,X,M,N,h5,_⟩|⟨c,r,ds,u,Q,X,M,N,h5⟩|⟨c,a7,o',x,s',Q,X,M⟩|⟨c,bo,r0,b9,ks,o',N⟩:=hc;case inr.inr.inr=>exact .inr ⟨GS hN T c _ _,Qb4 N U E Z hv⟩
 ·left;have:=GW _ _ us Q Z hv;subst this;exact⟨v,Vd X w,h5,N,by rw[M];exact JW _ _ _ _ v⟩
 ·right;refine⟨GS hN T c _ _,?_⟩;have A:Computes cx f ds r:=by
   obtain hq|⟨g,hg,hq⟩:=h5
   ·exact U _ (by rw[hq];exact jMj)
   ·exact hN.known f g ds r hg hq
  obtain⟨J,g2⟩:=E.freeze u;obtain⟨G,P⟩:=YV E u a0 vs ds u Q (fun _ h=>h) Z hv;obtain M|⟨M,b8⟩:=M;case inr =>
   have a:rc.heap H=H:=by rw[RC.heap,N,M];rfl
   refine(A w (MM F (Qe H u++H) ρ) vs (fun r i=>?_) J.glob G P).mono ?_
   ·obtain i|i:=i
    ·exact J.bnd r i
    ·exact J.mut_lt i
   ·rintro e w' ⟨y,rfl,K,s⟩;have o:Steps1 H ρ w H ρ w':=⟨s.mono fun _ h=>h.elim,fun _ _ h=>h,Grows.refl _ _⟩
    have V:=E.step o (fun b k c=>.inl ⟨c,rfl,fun t r i=>s.same r ((E.blk b k c).root_lt t i) (fun h=>h)⟩) E.inj E.forb;refine⟨y,rfl,ρ,by rw[a];exact V,by rw[a];exact o,?_⟩;rw[a,X];exact .d _ _ (Qsu b8 K)
  have a:rc.heap H=Qe H u++H:=by rw[RC.heap,N,M]
  refine(A w (MM F (Qe H u++H) ρ) vs (fun r i=>?_) J.glob G P).mono ?_
  ·obtain i|i:=i
   ·exact J.bnd r i
   ·exact J.mut_lt i
  ·rintro e w' ⟨y,rfl,K,s⟩;have o:Steps1 (Qe H u++H) ρ w (Qe H u++H) ρ w':=⟨s.mono fun _ h=>h.elim,fun _ _ h=>h,Grows.refl _ _⟩
   have V:=J.step o (fun b k c=>.inl ⟨c,rfl,fun t r i=>s.same r ((J.blk b k c).root_lt t i) (fun h=>h)⟩) J.inj J.forb;refine⟨y,rfl,ρ,by rw[a];exact V,by rw[a];exact g2.trans o,by rw[a,X];exact .d _ _ K⟩
 ·right;refine⟨GS hN T c _ _,?_⟩;obtain⟨e1,e2⟩:=Kp Y hS Q (by rw[<-X];exact U);refine(e2 F ρ w vs E Z hv).mono ?_;rintro e w' ⟨v,rfl,ρ',K,s,q3⟩;refine⟨v,rfl,?_⟩;have m:Grows H s'.hp ρ ρ':=⟨fun b k c=>s.grow b k (VD a7 c) c⟩
  have o:Steps1 H ρ w s'.hp ρ' w':=⟨s.ext,s.mt,m⟩
  obtain⟨a1,a2,a3,_⟩|⟨y,a1,a2,a3,a4⟩|a1:=M
  ·have a:rc.heap H=s'.hp:=by rw[RC.heap,a3]
   exact⟨ρ',by rw[a];exact K,by rw[a];exact o,by rw[a,a1];exact q3⟩
  ·have a:rc.heap H=H:=by rw[RC.heap,a4,a3];rfl
   obtain⟨z,u,b1,b2,b3,b4⟩:=uq a1 (GO hS Q);have p:∀b k,look H b=some k->look s'.hp b=some k/\ρ' b=ρ b:=by intro b k c;obtain⟨O,W,_,c3⟩:=m.dom b k c;have:=b4 b k c;rw[W] at this;cases this;exact⟨W,c3 rfl⟩
   obtain⟨r1,r2⟩:=E.restrict K p s.ext;refine⟨ρ,by rw[a];exact r1,by rw[a];exact r2,?_⟩;rw[a,a2,b2];have a8:=Wu K u x v z u b1 (fun _ h=>h) q3;refine .d _ _ (a8.ext (jLj _) (fun _ _ _=>rfl) fun r _ t=>t.imp id ?_);rintro⟨b,k,c,t,i⟩;obtain⟨W,c2⟩:=p b k c;exact⟨b,k,by rw[Zp _ _ _ (b3 b (by rw[c];simp))];exact W,t,by rw[c2];exact i⟩
  ·obtain⟨b,k0,rfl,W,c2,c3,c4,c5,S,rfl⟩:=EH a1;obtain⟨new,a5⟩:=GO hS Q W;have p:∀b k,look H b=some k->look s'.hp b=some k/\ρ' b=ρ b:=by
    intro L k c;have N:look s'.hp L=some k:=by
     rw[a5] at c2 ⊢;have Z:(new++H).length - H.length=new.length:=by simp
     rw[Z] at c2;rw[Wl,K5 new H c2 L (by rw[c];simp)];exact c
    obtain⟨O,G,_,d3⟩:=m.dom L k c;rw[G] at N;cases N;exact⟨G,d3 rfl⟩
   have Y:∀r,Q9 (ρ' b)=some r->Mut s'.hp ρ' r/\w.heap.size<=r:=by
    intro r i;have t:Mut s'.hp ρ' r:=⟨b,_,c4,JE S,i⟩
    refine⟨t,?_⟩;obtain b6|a9:=Nat.lt_or_ge r w.heap.size
    ·exfalso;obtain⟨L,O,j,C,l⟩:=s.mt r b6 t;obtain⟨G,P⟩:=p L O j;have:=K.inj L b O _ r G c4 C (JE S) (by rw[P];exact l) i;rw[this,c5] at j;cases j
    ·exact a9
   have r1:=E.restrictE K p s.ext Y;have a6:FreshV w' (MM (fun r=>F r\/Q9 (ρ' b)=some r) H ρ) (ρ' b) k0:=by
    have h0:FreshV w' (MM F s'.hp ρ') (ρ' b) k0:=kF S (K.blk b _ c4);refine h0.sub ?_;rintro r _ ((h|h)|⟨L,O,j,C,l⟩)
    ·exact .inl h
    ·exact .inr (Y r h).1
    ·obtain⟨G,P⟩:=p L O j;exact .inr ⟨L,O,G,C,by rw[P];exact l⟩
   have r3:=r1.name (nm:=b) c5 (fun r h=>h) (fun r i hf=>by have G:=E.bnd r hf;have P:=(Y r i).2;omega) a6
   have a:RC.heap { val:=.own b k0.ver,up:=[(b,k0)],full:=none,nx,ob:=s'.ob,orc:=s'.orc,sfx:=true } H=(b,k0)::H:=rfl;rw[a];refine⟨_,r3,⟨s.ext,fun r i t=>?_,⟨fun n k hn=>?_⟩⟩,?_⟩
   ·obtain⟨n,O,hn,C,l⟩:=t;by_cases q:n=b
    ·subst q;rw[QG] at l;have:=(Y r l).2;omega
    ·rw[Qc _ _ (Ne.symm q)] at hn;rw[QU _ _ q] at l;exact⟨n,O,hn,C,l⟩
   ·have q:n≠b:=fun e=>by rw[e,c5] at hn;cases hn
    exact⟨k,by rw[Qc _ _ (Ne.symm q)];exact hn,jLj _,fun _=>QU _ _ q⟩
   ·cases q3 with
    | own _ _ kk _ j c0 b7 b5 =>
     rw[c4] at j;cases j;exact .own _ k0.ver _ _ (Qd _ _ _) (jLj _) b7 fun _=>by rw[QG];exact b5 rfl
theorem uB {z sz:Nat}{es:jVj}{w:World}{M:Nat->Prop}{v:Value}(h:DR w M (.lst true sz es) v) :
  (Gb z sz es).ver=0/\(∀(M' : Nat->Prop) (hp:List (Nat×Blk)) (ρ:Nat->Value) (b:Nat),ρ b=v->DR w M' (.lst true sz es) v->BlkR w M' hp ρ b (Gb z sz es))/\((Gb z sz es).live=true->Q9 v=none):=by
 unfold Gb;split
 ·exact⟨rfl,fun M' hp ρ b c d=>by show DR w M' _ (ρ b);rw[c];exact d,fun h=>by cases h⟩
 ·split
  ·cases h with
   | lst _ _ _ a cap _ _ _ e =>
    have hc:=e rfl;simp only[List.length_nil] at hc;subst hc;exact⟨rfl,fun M' hp ρ b c _=>.inl ⟨rfl,a,c⟩,fun _=>Wk _ _⟩
  ·exact⟨rfl,fun M' hp ρ b c d=>by show DR w M' _ (ρ b);rw[c];exact d,fun h=>by cases h⟩
theorem JT {F:Nat->Prop}{a:Act}{w:World}:∀(pr:List Nat) (tm:List (Nat×AV)) (hp:List (Nat×Blk)) (j:Nat) (ρ:Nat->Value) (m : List (Nat×AV)) (g : List (Nat×Blk)) (o : Nat),GB tm hp j pr=(m,g,o) ->
  HSim cx F hp ρ w->TSim F tm hp ρ a w->∃ρ',HSim cx F g ρ' w/\TSim F m g ρ' a w/\Steps1 hp ρ w g ρ' w
 | [],tm,hp,j,ρ,m,g,o,h,hs,ht=>by simp only[GB,jPj] at h;obtain⟨rfl,rfl,rfl⟩:=h;exact⟨ρ,hs,ht,Steps1.refl _ _ _⟩
 | [_],tm,hp,j,ρ,m,g,o,h,hs,ht=>by simp only[GB,jPj] at h;obtain⟨rfl,rfl,rfl⟩:=h;exact⟨ρ,hs,ht,Steps1.refl _ _ _⟩
 | t::z::l,tm,hp,j,ρ,m,g,o,h,hs,ht=>by
  simp only[GB] at h;split at h
  ·rename_i sz es hl hn;have E:=ht t _ hl;have s:∃p n c,a.tmps.getD t undef=.slice p n c:=by
    generalize a.tmps.getD t undef=v at E;cases E with
    | d _ _ E=>cases E;exact⟨_,_,_,rfl⟩
   obtain⟨p,n,c,hv⟩:=s;have G:DR w (MM F hp ρ) (.lst true sz es) (a.tmps.getD t undef):=by cases E;assumption
   obtain⟨V,O,L⟩:=uB (z:=z) G;generalize Gb z sz es=K at V O L h;have A:∀r,Mut ((j,K)::hp) (Vl ρ j (a.tmps.getD t undef)) r->Mut hp ρ r:=by
    rintro r ⟨b,k,i,C,q⟩;by_cases f:b=j
    ·subst f;rw[Qd] at i;cases i;rw[QG,L C] at q;cases q
    ·rw[Qc _ _ (Ne.symm f)] at i;rw[QU _ _ f] at q;exact⟨b,k,i,C,q⟩
   have x:Steps1 hp ρ w ((j,K)::hp) (Vl ρ j (a.tmps.getD t undef)) w:=by
    refine⟨Ext.refl _ _,fun r _ C=>A r C,⟨fun b k i=>?_⟩⟩;have f:b≠j:=by intro e;subst e;rw[hn] at i;cases i
    exact⟨k,by rw[Qc _ _ (Ne.symm f)];exact i,jLj _,fun _=>QU _ _ f⟩
   have M:=hs.step x (fun b k i=>by
    by_cases f:b=j
    ·subst f;rw[Qd] at i;cases i;right;exact O _ _ _ _ (QG _ _ _) (x.dr G)
    ·rw[Qc _ _ (Ne.symm f)] at i;exact .inl ⟨i,QU _ _ f,fun _ _ _=>rfl⟩)
    (fun b P k S r h1 h2 T U r1 r2=>by
     have H:∀b k,look ((j,K)::hp) b=some k->k.live=true->Q9 (Vl ρ j (a.tmps.getD t undef) b)=some r->look hp b=some k/\Q9 (ρ b)=some r:=by
      intro b k i C q;by_cases f:b=j
      ·subst f;rw[Qd] at i;cases i;rw[QG,L C] at q;cases q
      ·rw[Qc _ _ (Ne.symm f)] at i;rw[QU _ _ f] at q;exact⟨i,q⟩
     obtain⟨a1,a2⟩:=H b k h1 T r1;obtain⟨b1,W⟩:=H P S h2 U r2;exact hs.inj b P k S r a1 b1 T U a2 W) (fun r q=>hs.forb r (A r q))
   have N:TSim F ((t,.own j 0)::tm) ((j,K)::hp) (Vl ρ j (a.tmps.getD t undef)) a w:=by
    intro u y J;by_cases Q:t=u
    ·subst Q;rw[Qd] at J;cases J;exact .own j 0 _ _ (Qd _ _ _) (Nat.zero_le _) (by rw[hv];rfl) fun _=>(QG _ _ _).symm
    ·rw[Qc _ _ Q] at J;exact x.vr (ht u y J)
   obtain⟨ρ',X,Y,Z⟩:=JT l _ _ _ _ m g o h M N;exact⟨ρ',X,Y,x.trans Z⟩
  ·exact JT l _ _ _ _ m g o h hs ht
theorem KX {hp:List (Nat×Blk)}{vis:Nat}{n:List Nat}:∀(l:List Nat) (d:List (Nat×Blk)),wQ hp vis n l=some d ->
  (∀b f,look d b=some f->b∈l/\∃k,look hp b=some k/\k.clean hp vis n b=some f)/\(∀b,b∈l->∃k f,look hp b=some k/\k.clean hp vis n b=some f/\look d b=some f)
 | [],d,h=>by simp only[wQ,jIj] at h;subst h;exact⟨fun b f e=>by simp[look] at e,fun b e=>by simp at e⟩
 | c::l,d,h=>by
  simp only[wQ] at h;split at h;case h_2=>cases h
  rename_i k r o s;split at h;case h_2=>cases h
  rename_i f g;simp only[jIj] at h;subst h;obtain⟨t,u⟩:=KX l r s;refine⟨fun b q e=>?_,fun b e=>?_⟩
  ·by_cases a:c=b
   ·subst a;rw[Qd] at e;cases e;exact⟨jMj,k,o,g⟩
   ·rw[Qc _ _ a] at e;obtain⟨i,j⟩:=t b q e;exact⟨jmj _ i,j⟩
  ·by_cases a:c=b
   ·subst a;exact⟨k,f,o,g,Qd _ _ _⟩
   ·have m:b∈l:=by simpa[Ne.symm a] using e
    obtain⟨q,v,i,j,p⟩:=u b m;exact⟨q,v,i,j,by rw[Qc _ _ a];exact p⟩
theorem UG {hp:List (Nat×Blk)}{vis b:Nat}{e:List Nat}{k d : Blk}(h:k.clean hp vis e b=some d):d.live=k.live/\(b<vis->d.ver=k.ver)/\(¬b<vis->d.ver=0):=by
 have a:∀v:Nat,(b<vis->(match Nat.blt b vis with|true=>v|false=>0)=v)/\(¬b<vis->(match Nat.blt b vis with|true=>v|false=>0)=0):=by
  intro v;constructor
  ·intro c;have:Nat.blt b vis=true:=by simpa using c
   rw[this]
  ·intro c;have:Nat.blt b vis=false:=qX (by omega);rw[this]
 cases k with
 | box x =>
  simp only[Blk.clean] at h;split at h<;>simp only[jIj,reduceCtorEq] at h;subst h;exact⟨rfl,fun _=>rfl,fun _=>rfl⟩
 | row v sz es=>simp only[Blk.clean,jIj] at h;subst h;exact⟨rfl,(a v).1,(a v).2⟩
 | frozen v sz es=>simp only[Blk.clean,jIj] at h;subst h;exact⟨rfl,(a v).1,(a v).2⟩
 | virt v sz es=>simp only[Blk.clean,jIj] at h;subst h;exact⟨rfl,(a v).1,(a v).2⟩
 | loop _ _ _ _ _ _=>simp only[Blk.clean,jIj] at h;subst h;exact⟨rfl,fun _=>rfl,fun _=>rfl⟩
 | mp _=>simp only[Blk.clean,jIj] at h;subst h;exact⟨rfl,fun _=>rfl,fun _=>rfl⟩
 | it _ _=>simp only[Blk.clean,jIj] at h;subst h;exact⟨rfl,fun _=>rfl,fun _=>rfl⟩
 | fbox _=>simp only[Blk.clean,jIj] at h;subst h;exact⟨rfl,fun _=>rfl,fun _=>rfl⟩
 | left _=>simp only[Blk.clean,jIj] at h;subst h;exact⟨rfl,fun _=>rfl,fun _=>rfl⟩
 | dead=>simp only[Blk.clean,jIj] at h;subst h;exact⟨rfl,fun _=>rfl,fun _=>rfl⟩
mutual
theorem qi {w:World}{M M0:Nat->Prop}{hp hp0:List (Nat×Blk)}{ρ:Nat->Value}{vis:Nat}{kb:List Nat}(hk:wQ hp vis kb kb=some hp0)(hM:∀r,r<w.heap.size->M0 r->M r) :
  ∀(x:AV) (y:Value),VR w M hp ρ x y->VR w M0 hp0 ρ (x.clean hp vis kb) y
 | .d x,y,h=>by
  cases h with
  | d _ _ h=>exact .d _ _ (h.ext (jLj _) (fun _ _ _=>rfl) hM)
 | .agg cs,y,h=>by
  cases h with
  | agg _ ys hl hh =>
   obtain⟨h1,h2⟩:=Gj hk hM cs ys hl hh;simp only[AV.clean];exact .agg _ ys h1 h2
 | .tup cs,y,h=>by
  cases h with
  | tup _ ys hl hh =>
   obtain⟨h1,h2⟩:=Gj hk hM cs ys hl hh;simp only[AV.clean];exact .tup _ ys h1 h2
 | .dptr x o,y,h=>by
  cases h with
  | dptr _ _ blk o' hd=>simp only[AV.clean];exact .dptr _ _ _ _ (hd.ext (jLj _) (fun _ _ _=>rfl) hM)
 | .ptr b ver sz i off,y,h=>by
  cases h with
  | ptr _ _ _ _ _ k _ hb hv ho hh =>
   simp only[AV.clean];split
   ·rename_i hc;simp only[jAj] at hc;have hmem:b∈kb:=by simpa using hc.1
    have hver:=JG hc.2 hb;obtain⟨q,q',h1,h2,h3⟩:=(KX kb hp0 hk).2 b hmem;rw[hb] at h1;cases h1;obtain⟨_,v1,v2⟩:=UG h2;split
    ·rename_i hlt;have hlt' : b<vis:=by simpa using hlt
     exact .ptr b ver sz i off q' y h3 (by rw[v1 hlt'];exact hv) ho fun _=>hh hver
    ·rename_i hlt;have hlt' : ¬b<vis:=by intro hh;rw[show Nat.blt b vis=true from by simpa using hh] at hlt;cases hlt
     exact .ptr b 0 sz i off q' y h3 (Nat.zero_le _) ho fun _=>hh hver
   ·exact .junk y
 | .own b ver,y,h=>by
  cases h with
  | own _ _ k _ hb hv ho hh =>
   simp only[AV.clean];split
   ·rename_i hc;simp only[jAj] at hc;have hmem:b∈kb:=by simpa using hc.1
    have hver:=JG hc.2 hb;obtain⟨q,q',h1,h2,h3⟩:=(KX kb hp0 hk).2 b hmem;rw[hb] at h1;cases h1;obtain⟨_,v1,v2⟩:=UG h2;split
    ·rename_i hlt;have hlt' : b<vis:=by simpa using hlt
     exact .own b ver q' y h3 (by rw[v1 hlt'];exact hv) ho fun _=>hh hver
    ·rename_i hlt;have hlt' : ¬b<vis:=by intro hh;rw[show Nat.blt b vis=true from by simpa using hh] at hlt;cases hlt
     exact .own b 0 q' y h3 (Nat.zero_le _) ho fun _=>hh hver
   ·exact .junk y
 | .sub b ver sz lo n,y,h=>by
  cases h with
  | sub _ _ _ _ _ k _ hb hv ho hh =>
   simp only[AV.clean];split
   ·rename_i hc;simp only[jAj] at hc;have hmem:b∈kb:=by simpa using hc.1
    have hver:=JG hc.2 hb;obtain⟨q,q',h1,h2,h3⟩:=(KX kb hp0 hk).2 b hmem;rw[hb] at h1;cases h1;obtain⟨_,v1,v2⟩:=UG h2;split
    ·rename_i hlt;have hlt' : b<vis:=by simpa using hlt
     exact .sub b ver sz lo n q' y h3 (by rw[v1 hlt'];exact hv) ho fun _=>hh hver
    ·rename_i hlt;have hlt' : ¬b<vis:=by intro hh;rw[show Nat.blt b vis=true from by simpa using hh] at hlt;cases hlt
     exact .sub b 0 sz lo n q' y h3 (Nat.zero_le _) ho fun _=>hh hver
   ·exact .junk y
 | .fn f p q,y,h=>by
  cases h with
  | fn _ _ _ xs ys hl hm hh hq =>
   obtain⟨h1,h2⟩:=Gj hk hM p xs hl hh;obtain⟨h3,h4⟩:=Gj hk hM q ys hm hq;simp only[AV.clean];exact .fn f _ _ xs ys h1 h3 h2 h4
 | .junk,y,_=>.junk y
theorem Gj {w:World}{M M0:Nat->Prop}{hp hp0:List (Nat×Blk)}{ρ:Nat->Value}{vis:Nat}{kb:List Nat}(hk:wQ hp vis kb kb=some hp0)(hM:∀r,r<w.heap.size->M0 r->M r) :
  ∀(cs:List AV) (ys:List Value),cs.length=ys.length->(∀(i:Nat) (c:AV) (y:Value),cs[i]?=some c->ys[i]?=some y->VR w M hp ρ c y) ->
   (K6 hp vis kb cs).length=ys.length/\∀(i:Nat) (c:AV) (y:Value),(K6 hp vis kb cs)[i]?=some c->ys[i]?=some y->VR w M0 hp0 ρ c y
 | [],ys,hl,_=>⟨by simpa[K6] using hl,by simp[K6]⟩
 | x::cs,ys,hl,hh=>by
  cases ys with
  | nil=>simp at hl
  | cons y ys =>
   obtain⟨h1,h2⟩:=Gj hk hM cs ys (by simpa using hl) (fun i c z hc hz=>hh (i+1) c z (by simpa using hc) (by simpa using hz));refine⟨by simp[K6,h1],fun i c z hc hz=>?_⟩;simp only[K6] at hc;cases i with
   | zero =>
    simp only[jzj,jIj] at hc hz;subst hc;subst hz;exact qi hk hM x y (hh 0 x y rfl rfl)
   | succ i=>exact h2 i c z (by simpa using hc) (by simpa using hz)
end
theorem qj {hp:List (Nat×Blk)}{vis:Nat}{b:List Nat}:∀(l:List (Nat×AV)) (t:Nat) (x:AV),look (qk hp vis b l) t=some x->∃y,look l t=some y/\x=y.clean hp vis b
 | [],t,x,h=>by simp[qk,look] at h
 | (c,y)::l,t,x,h=>by
  simp only[qk] at h;by_cases a:c=t
  ·subst a;rw[Qd] at h ⊢;cases h;exact⟨y,rfl,rfl⟩
  ·rw[Qc _ _ a] at h ⊢;exact qj l t x h
theorem EE {hp:List (Nat×Blk)}{vis:Nat}{b:List Nat}{tm:List (Nat×AV)}:∀(l:List Nat) (t:Nat) (x:AV),look (kD hp vis b tm l) t=some x->∃y,look tm t=some y/\x=y.clean hp vis b
 | [],t,x,h=>by simp[kD,look] at h
 | c::l,t,x,h=>by
  simp only[kD] at h;split at h
  ·rename_i y d;by_cases a:c=t
   ·subst a;rw[Qd] at h;cases h;exact⟨y,d,rfl⟩
   ·rw[Qc _ _ a] at h;exact EE l t x h
  ·exact EE l t x h
theorem zC {F:Nat->Prop}{s S:St}{pr kt kb:List Nat}{ρ:Nat->Value}{a:Act}{w:World}(h:kz s pr kt kb=some S)(Z:Sim cx F s ρ a w) :
  ∃m,Sim cx F S m a w/\StepsV s.vis s.hp ρ w S.hp m w/\S.vis=s.vis/\S.nt=s.nt:=by
 unfold kz at h;split at h;rename_i tm hp nx X;split at h;case h_2=>cases h
 rename_i A T G;simp only[jIj] at h;subst h;obtain⟨m,M,g2,g3⟩:=JT pr s.tm s.hp s.nx ρ tm hp nx X Z.hs Z.ts;obtain⟨U,k2⟩:=KX kb A T;have o:∀r,Mut A m r->Mut hp m r:=by rintro r ⟨b,Q,L,P,Y⟩;obtain⟨_,k,E,f⟩:=U b Q L;exact⟨b,k,E,by rw[<-(UG f).1];exact P,Y⟩
 have z:∀r,r<w.heap.size->MM F A m r->MM F hp m r:=fun r _ P=>P.imp id (o r);have a3:HSim cx F A m w:=by
  refine⟨fun b Q L=>?_,fun b b' q q' r E f m1 m2 r1 r2=>?_,fun r Y=>M.forb r (o r Y),M.bnd,fun g x hg=>(M.glob g x hg).ext (jLj _) (fun _ _ _=>rfl) z⟩
  ·obtain⟨_,k,E,f⟩:=U b Q L;have u:=M.blk b k E;cases k with
   | box x =>
    simp only[Blk.clean] at f;split at f<;>simp only[jIj,reduceCtorEq] at f;rename_i cs W;subst f;obtain⟨r,e,v,a5,n,C,H,K⟩:=u;exact⟨r,e,v,cs,n,C,W,qi T z x v K⟩
   | loop rdy tm ps as bd nt =>
    simp only[Blk.clean,jIj] at f;subst f;obtain⟨l,rc,n,H,K,q5,q6,q7,q8,q9,a4⟩:=u;refine⟨l,rc,n,H,K,q5,q6,q7,q8,q9,fun t x J=>?_⟩;obtain⟨y,hy,rfl⟩:=qj tm t x J;exact qi T z y _ (a4 t y hy)
   | dead =>
    simp only[Blk.clean,jIj] at f;subst f;trivial
   | mp es =>
    simp only[Blk.clean,jIj] at f;subst f;obtain⟨r,V,c,n,C,H⟩:=u;exact⟨r,V,c,n,C,H.ext (jLj _) (fun _ _ _=>rfl) z⟩
   | it s p =>
    simp only[Blk.clean,jIj] at f;subst f;obtain⟨r,n,C⟩:=u;exact⟨r,n,C⟩
   | left e =>
    simp only[Blk.clean,jIj] at f;subst f;obtain⟨l,rc,n,H,K⟩:=u;exact⟨l,rc,n,H,K⟩
   | fbox x =>
    simp only[Blk.clean,jIj] at f;subst f;obtain⟨r,n,C⟩:=u;exact⟨r,n,C.ext (jLj _) (fun _ _ _=>rfl) z⟩
   | row v sz es =>
    simp only[Blk.clean,jIj] at f;subst f;obtain⟨q0,a0,n⟩|⟨r,c,e,cap,n,C,H,K,q5,q6⟩:=u
    ·exact .inl ⟨q0,a0,n⟩
    refine .inr ⟨r,c,e,cap,n,C,H,K,q5,fun i d j x hd J=>?_⟩;obtain⟨y,y1,y2,y3⟩:=q6 i d j x hd J;exact⟨y,y1,y2,y3.ext (jLj _) (fun _ _ _=>rfl) z⟩
   | frozen v sz es =>
    simp only[Blk.clean,jIj] at f;subst f;exact DR.ext (jLj _) (fun _ _ _=>rfl) z u
   | virt v sz es =>
    simp only[Blk.clean,jIj] at f;subst f;exact DR.ext (jLj _) (fun _ _ _=>rfl) z u
  ·obtain⟨_,k,a1,a2⟩:=U b q E;obtain⟨_,Q,b1,b2⟩:=U b' q' f;exact M.inj b b' k Q r a1 b1 (by rw[<-(UG a2).1];exact m1) (by rw[<-(UG b2).1];exact m2) r1 r2
 refine⟨m,⟨a3,fun t x J=>?_,Z.nt⟩,?_,rfl,rfl⟩
 ·obtain⟨y,hy,rfl⟩:=EE kt t x J;exact qi T z y _ (g2 t y hy)
 ·refine StepsV.trans g3.toV ⟨Ext.refl _ _,fun r _ P=>o r P,fun b k O L=>?_⟩;simp only[List.all_eq_true] at G;obtain⟨x,J⟩:=KT (l:=hp) (b:=b) (by rw[L];simp);have:=G _ J;have N:Nat.blt b s.vis=true:=by simpa using O
  simp only[N,Bool.not_true,Bool.false_or] at this;obtain⟨q,q',E,f,h3⟩:=k2 b (by simpa using this);rw[L] at E;cases E;exact⟨q',h3,by rw[(UG f).2.1 O];exact jLj _,fun _=>rfl⟩
theorem GP:∀(tm:List (Nat×AV)) (seen t:Nat) (x:AV),look (kO tm seen) t=some x->seen.testBit t=false/\look tm t=some x
 | [],seen,t,x,h=>by simp[kO,look] at h
 | (k,y)::l,seen,t,x,h=>by
  simp only[kO] at h;split at h
  ·rename_i b;obtain⟨a,c⟩:=GP l seen t x h;refine⟨a,?_⟩;rw[Qc _ _ (fun e=>by subst e;rw[a] at b;cases b)];exact c
  ·rename_i b;by_cases d:k=t
   ·subst d;rw[Qd] at h ⊢;exact⟨b,h⟩
   ·rw[Qc _ _ d] at h ⊢;obtain⟨a,c⟩:=GP l _ t x h;rw[Nat.testBit_or,Bool.or_eq_false_iff] at a;exact⟨a.1,c⟩
theorem GR {tm:List (Nat×AV)}:∀(n t:Nat) (x:AV),look (Kr tm n) t=some x->look tm t=some x
 | 0,t,x,h=>by simp[Kr,look] at h
 | n+1,t,x,h=>by
  simp only[Kr] at h;split at h
  ·rename_i y b;by_cases a:n=t
   ·subst a;rw[Qd] at h;cases h;exact b
   ·rw[Qc _ _ a] at h;exact GR n t x h
  ·exact GR n t x h
end
end Go.SX
