/- Own texts. -/
import Derived.Test.YtmhkcfjajpjigaaGreatDoorSxTen
import Derived.Scope
import Derived.Orders
import Derived.OrdersIn
import Derived.RangeFuncLeaves
import Derived.RangeFuncRecord
import Derived.RangeFuncCalls
set_option linter.unusedSimpArgs false
set_option linter.unusedSectionVars false
set_option linter.unusedVariables false
namespace Go.SX
variable [DrawMode]
def wH:Blk->Bool
 | .loop _ _ _ _ _ _=>false
 | .left _=>false
 | _=>true
structure RC where
 val:AV
 up:List (Nat×Blk)
 full:Option (List (Nat×Blk))
 nx:Nat
 ob:List Prop
 orc:List Orc
 sfx:Bool
def RC.heap (a:RC)(H:List (Nat×Blk)):List (Nat×Blk):=match a.full with
 | some h=>h
 | none=>a.up++H
def GX:AV->Option (FuncId×List AV×List AV)
 | .fn (.func f) a b=>some (f,a,b)
 | .d (.fn (.func f) a b)=>some (f,a.map .d,b.map .d)
 | _=>none
def Jf (o:Oper):Option (Operand×List Operand):=match o.op with
 | .call { callee:=.value f,args,argTypes:=_ }=>some (f,args.toList)
 | _=>none
def Qkb:AV->Bool
 | .d _=>true
 | .fn _ _ _=>true
 | x=>match x.toD with
  | some _=>true
  | none=>false
def YG (H:List (Nat×Blk))(a:Nat):Bool:=H.all fun p=>Nat.blt p.1 a
def uC (H:List (Nat×Blk))(nx:Nat)(x:AV)(s' : St):Option RC:=match YG H nx with
 | true=>some { val:=x,up:=[],full:=some s'.hp,nx:=s'.nx,ob:=s'.ob,orc:=s'.orc,sfx:=s'.sfx }
 | false=>none
def jU:Blk->Bool
 | .row _ _ _=>true
 | .mp _=>true
 | .box _=>false
 | .frozen _ _ _=>false
 | .virt _ _ _=>false
 | .loop _ _ _ _ _ _=>false
 | .it _ _=>false
 | .fbox _=>false
 | .left _=>false
 | .dead=>false
def stamp:Blk->Blk
 | .row _ sz es=>.row 0 sz es
 | k=>k
def zb (H:List (Nat×Blk))(nx:Nat)(x:AV)(s' : St):Option RC:=match x,s'.sfx&&JW H (s'.hp.length - H.length) s'.hp&&YG H nx with
 | .own b ver,true=>match look s'.hp b,Vo H b with
  | some k,false=>match jU k&&Nat.beq ver k.ver with
   | true=>some { val:=.own b ver,up:=[(b,k)],full:=none,nx,ob:=s'.ob,orc:=s'.orc,sfx:=true }
   | false=>none
  | _,_=>none
 | _,_=>none
def Qh3 (cx:Cx)(b:Bool)(H:List (Nat×Blk))(f:FuncId)(a:List AV)(nx:Nat)(o:List Orc):Option RC:=match b,cx.K f with
 | false,some g=>match Kr H a with
  | some (c,e)=>match g c with
   | some r=>some { val:=.d r,up:=Qd H e,full:=none,nx,ob:=[],orc:=o,sfx:=true }
   | none=>none
  | none=>none
 | _,_=>none
def Qhx (H:List (Nat×Blk))(m sz:Nat):AV->Option (OC×(Nat×Nat))
 | .own n v=>match look H n with
  | some (.row v' sz' es)=>match Nat.beq v v'&&Nat.beq sz sz' with
   | true=>some (.row sz es,(n,v+1))
   | false=>none
  | _=>none
 | .d (.lst true _ [])=>match look H m with
  | none=>some (.row sz [],(m,0))
  | some _=>none
 | _=>none
def YT (H:List (Nat×Blk)):Nat->List AV->List OC->Option (List OC×List (Option (Nat×Nat))×List Nat)
 | _,[],[]=>some ([],[],[])
 | m,x::xs,.dat _::ss=>match x.toDH H,YT H (m+1) xs ss with
  | some (y,a),some (cs,ns,gs)=>some (.dat y::cs,none::ns,a++gs)
  | _,_=>none
 | m,x::xs,.row sz _::ss=>match Qhx H m sz x,YT H (m+1) xs ss with
  | some (c,p),some (cs,ns,gs)=>some (c::cs,some p::ns,gs)
  | _,_=>none
 | _,_,_=>none
def KW (n:Nat):List (Option (Nat×Nat))->Bool
 | []=>true
 | none::l=>KW n l
 | some (m,_)::l=>!(Nat.beq m n)&&KW n l
def E3 (bn:Nat)(fz:List Nat):List (Option (Nat×Nat))->Bool
 | []=>!(fz.contains bn)
 | none::l=>E3 bn fz l
 | some (n,_)::l=>KW n l&&!(Nat.beq n bn)&&!(fz.contains n)&&E3 bn fz l
def isB0:Option Nat->Nat->Bool
 | some b0,b'=>Nat.beq b0 b'
 | none,_=>false
mutual
def AV.argO (H:List (Nat×Blk))(b:Option Nat):AV->Option (AV×List Nat)
 | .ptr b' ver sz i off=>match isB0 b b'&&Nat.beq ver 0&&Nat.beq sz 0&&Nat.beq i 0 with
  | true=>some (.ptr 0 0 0 0 off,[])
  | false=>match (AV.ptr b' ver sz i off).toDH H with
   | some (y,fs)=>some (.d y,fs)
   | none=>none
 | .dptr x o=>some (.d (.ref x o),[])
 | .fn f a c=>match jj H b a,jj H b c with
  | some (x,fs),some (y,gs)=>some (AV.norm (.fn f x y),fs++gs)
  | _,_=>none
 | .agg cs=>match jj H b cs with
  | some (l,fs)=>some (AV.norm (.agg l),fs)
  | none=>none
 | .tup cs=>match jj H b cs with
  | some (l,fs)=>some (AV.norm (.tup l),fs)
  | none=>none
 | .d x=>some (.d x,[])
 | .own n v=>match (AV.own n v).toDH H with
  | some (y,fs)=>some (.d y,fs)
  | none=>none
 | _=>none
def jj (H:List (Nat×Blk))(b:Option Nat):List AV->Option (List AV×List Nat)
 | []=>some ([],[])
 | x::l=>match x.argO H b,jj H b l with
  | some (y,fs),some (ys,gs)=>some (y::ys,fs++gs)
  | _,_=>none
end
mutual
def AV.resO (b:Nat):AV->Option AV
 | .d x=>some (.d x)
 | .agg cs=>match Qa8 b cs with
  | some l=>some (.agg l)
  | none=>none
 | .tup cs=>match Qa8 b cs with
  | some l=>some (.tup l)
  | none=>none
 | .ptr b' ver sz i off=>match Nat.beq b' 0&&Nat.beq ver 0&&Nat.beq sz 0&&Nat.beq i 0 with
  | true=>some (.ptr b 0 0 0 off)
  | false=>none
 | _=>none
def Qa8 (b:Nat):List AV->Option (List AV)
 | []=>some []
 | x::l=>match x.resO b,Qa8 b l with
  | some y,some ys=>some (y::ys)
  | _,_=>none
end
def ZH:List (Option (Nat×Nat))->List OC->List AV
 | none::ns,.dat x::cs=>.d x::ZH ns cs
 | some (n,v)::ns,.row _ _::cs=>.own n v::ZH ns cs
 | _,_=>[]
def Vn:List (Option (Nat×Nat))->List OC->List (Nat×Blk)
 | some (n,v)::ns,.row sz es::cs=>(n,.row v sz es)::Vn ns cs
 | _::ns,_::cs=>Vn ns cs
 | _,_=>[]
def YW:Nat->List OC->List (Option (Nat×Nat))
 | _,[]=>[]
 | m,.dat _::l=>none::YW (m+1) l
 | m,.row _ _::l=>some (m,0)::YW (m+1) l
def WD:List Bool->List (Option (Nat×Nat))->List (Option (Nat×Nat))
 | true::ks,some (n,v+1)::ns=>some (n,v)::WD ks ns
 | _::ks,p::ns=>p::WD ks ns
 | _,ns=>ns
def G9 (H:List (Nat×Blk)):Nat->List Bool->List (Option (Nat×Nat))->Bool
 | j,true::ks,some (n,v)::ns=>Nat.beq n j&&Nat.beq v 1&&(look H j).isSome&&G9 H (j+1) ks ns
 | j,true::ks,none::ns=>G9 H (j+1) ks ns
 | _,true::_,[]=>false
 | j,false::ks,_::ns=>G9 H (j+1) ks ns
 | _,false::_,[]=>false
 | _,[],_=>true
def Ge:List Bool->List AV->List OC->Bool
 | true::ks,.own _ _::xs,.row _ _::cs=>Ge ks xs cs
 | true::ks,.d _::xs,.dat _::cs=>Ge ks xs cs
 | [],[],[]=>true
 | _,_,_=>false
def QeP:AV->Bool
 | .agg l=>match Ju l with
  | none=>true
  | some _=>false
 | .d (.agg _)=>true
 | _=>false
def arow (cx:Cx)(H:List (Nat×Blk))(d:Nat)(f:FuncId)(a:List AV)(b ver sz:Nat)(es:jVj)(r:AV)(c : List OC)(o' : List Orc):Option RC:=none
def kH (cx:Cx)(H:List (Nat×Blk))(nx:Nat)(f:FuncId)(c:List AV)(bo:Option Nat)(r:AV)(a : List OC)(ks:List Bool)(o' : List Orc):Option RC :=
  match jj H bo c,YG H nx with
  | some (e,d),true=>match bo with
    | some b=>match look H b with
      | some (.box x)=>match x.cells,Gi x with
        | some cells,true=>match YT H nx cells a with
          | some (cs,ns,g)=>match E3 b (d++g) ns,r.resO b with
            | true,some v=>match Ge ks cells a&&QeP x with
             | true=>some { val:=v,up:=Qd H (d++g),full:=none,nx,ob:=[ComputesO cx f e (some cs) r cs ks],orc:=o',sfx:=true }
             | false=>some { val:=v,up:=(b,.box (AV.norm (.agg (ZH (WD ks ns) a))))::(Vn (WD ks ns) a++Qd H (d++g)),full:=none,nx:=nx+a.length,ob:=[ComputesO cx f e (some cs) r a ks],orc:=o',sfx:=true }
            | _,_=>none
          | none=>none
        | _,_=>none
      | some (.row ver sz es)=>arow cx H nx f c b ver sz es r a o'
      | _=>none
    | none=>match E3 nx d (YW (nx+1) a),r.resO nx with
      | true,some v=>some { val:=v,up:=(nx,.box (AV.norm (.agg (ZH (YW (nx+1) a) a))))::(Vn (YW (nx+1) a) a++Qd H d),full:=none,nx:=nx+1+a.length,ob:=[ComputesO cx f e none r a ks],orc:=o',sfx:=true }
      | _,_=>none
  | _,_=>none
def Qij:D->Bool
 | .v _=>true
 | _=>false
def QfY:D->Bool
 | .v _=>true
 | .agg l=>l.all Qij
 | _=>false
def Qev:D->Bool
 | .v _=>true
 | .agg l=>l.all Qij
 | .tup l=>l.all QfY
 | _=>false
def QbM (e:Code->St->Option (Ex×St))(cx:Cx)(keepable:Bool)(H:List (Nat×Blk))(nx:Nat)(sym:Bool)(orc:List Orc)(f:FuncId)(b:List AV):Option RC :=
 match cx.P.funcs[f]? with
 | none=>none
 | some fn=>match fn.body with
  | none=>match allV b with
   | some vs=>match Zu cx.P (callFunc f vs.toArray) with
    | some (.value v)=>some { val:=.d (ofV v),up:=[],full:=none,nx,ob:=[],orc,sfx:=true }
    | _=>none
   | none=>none
  | some _=>match zR (sym || cx.O f) orc with
   | some (.ret r,o')=>match Kr H b with
    | some (c,g)=>some { val:=.d r,up:=Qd H g,full:=none,nx,ob:=[Computes cx f c r],orc:=o',sfx:=true }
    | none=>none
   | some (.obj bo r cs' ks,o')=>kH cx H nx f b bo r cs' ks o'
   | some (.br _,o')=>match keepable,KM e cx f b { nt:=0,sym,tm:=[],hp:=H,nx,orc:=o',ob:=[],vis:=nx,sfx:=true } with
    | true,some (x,s')=>uC H nx x s'
    | false,some (x,s')=>zb H nx x s'
    | _,_=>none
   -- a plain result: what was looked at stays as it is
   | some (.ix _,.ret r::o')=>match Qev r,Kr H b with
    | true,some (c,_)=>some { val:=.d r,up:=[],full:=none,nx,ob:=[Computes cx f c r],orc:=o',sfx:=true }
    | _,_=>none
   | some (.no,o')=>match Qh3 cx sym H f b nx o' with
    | some h=>some h
    | none=>match YG H nx,KM e cx f b { nt:=0,sym,tm:=[],hp:=H,nx,orc:=o',ob:=[],vis:=nx,sfx:=true } with
     | true,some (x,s')=>match sym || Qkb x,QbZ H x s' with
      | true,some y=>some { val:=y,up:=[],full:=none,nx,ob:=s'.ob,orc:=s'.orc,sfx:=true }
      | true,none=>match keepable with
       | true=>uC H nx x s'
       | false=>none
      | false,r=>match keepable,r with
       | true,_=>uC H nx x s'
       | false,some y=>some { val:=y,up:=[],full:=none,nx,ob:=s'.ob,orc:=s'.orc,sfx:=true }
       | false,none=>match sym with
        | true=>none
        | false=>zb H nx x s'
     | _,_=>none
   | _=>none
def Ee (ops:Array Oper)(i:Nat)(o:Oper)(s:St)(x:AV)(hp:List (Nat×Blk))(nx:Nat)(orc:List Orc)(ob:List Prop)(sfx:Bool):Option St :=
 match wN ops i with
 | true=>match litB s.sym orc x with
  | some (y,a,b)=>({ s with hp,nx,orc:=b,ob:=a++(ob++s.ob),sfx:=s.sfx&&sfx }:St).put o.dst y
  | none=>none
 | false=>({ s with hp,nx,orc,ob:=ob++s.ob,sfx:=s.sfx&&sfx }:St).put o.dst x
def Qan:List Nat->List AV->List (Nat×AV)->List (Nat×AV)
 | t::ps,x::xs,tm=>Qan ps xs ((t,x)::tm)
 | _,_,tm=>tm
def K6 (b:Nat)(H:List (Nat×Blk)):Bool:=H.all fun p=>Nat.beq p.1 b || wH p.2
def jr (c:Code->St->Option (Ex×St))(H:List (Nat×Blk))(nx:Nat)(sym:Bool)(orc:List Orc)(b ver:Nat)(a:List AV):Option RC :=
 match look H b,Nat.beq ver 0&&YG H nx with
 | some (.loop true tm ps as bd nt),true =>
  match Nat.beq ps.length a.length&&ps.all (fun t=>Nat.blt t nt) with
  | true=>match c as { nt,sym,tm:=Qan ps a tm,hp:=H,nx,orc,ob:=[],vis:=nx,sfx:=true,rnd:=true } with
   | some (.normal,s1)=>match look s1.hp b,K6 b s1.hp with
    | some (.loop true tm1 ps1 as1 bd1 nt1),true=>match c bd { s1 with hp:=(b,.loop false tm1 ps1 as1 bd1 nt1)::s1.hp } with
     | some (.normal,s2)=>match look s2.hp b,K6 b s2.hp with
      | some (.loop false tm2 ps2 as2 bd2 nt2),true=>some { val:=.d (.v (.bool true)),up:=[],full:=some ((b,.loop true tm2 ps2 as2 bd2 nt2)::s2.hp),nx:=s2.nx,ob:=s2.ob,orc:=s2.orc,sfx:=!sym&&s2.sfx }
      | _,_=>none
     -- the body is left: the loop is Ky,and the jump is pending
     | some (e,s2)=>match look s2.hp b,K6 b s2.hp with
      | some (.loop false _ _ _ _ _),true=>some { val:=.d (.v (.bool false)),up:=[],full:=some ((b,.left e)::s2.hp),nx:=s2.nx,ob:=s2.ob,orc:=s2.orc,sfx:=!sym&&s2.sfx }
      | _,_=>none
     | none=>none
    | _,_=>none
   | _=>none
  | false=>none
 | _,_=>none
abbrev Uu:=List (Nat×Blk)->Nat->Bool->List Orc->Nat->Nat->List AV->Option RC
abbrev Jt:=Bool->List (Nat×Blk)->Nat->Bool->List Orc->FuncId->List AV->Option RC
def yI:AV->Option (Nat×Nat)
 | .own b ver=>some (b,ver)
 | _=>none
def qN (cx:Cx)(call:Jt)(g:Uu)(ops:Array Oper)(base:Nat)(i:Nat)(s:St):Option St :=
  match nth ops.toList i with
  | none=>none
  | some o=>match GM ops s.tm o with
    | none=>none
    | some false=>s.put o.dst (.d (.v undef))
    | some true=>match Jf o with
      | some (e,c)=>match yI (evA cx s.tm e) with
       | some (b,ver)=>match g s.hp s.nx s.sym s.orc b ver (c.map (evA cx s.tm)) with
        | none=>none
        | some rc=>Ee ops i o s rc.val (rc.heap s.hp) rc.nx rc.orc rc.ob rc.sfx
       | none=>match GX (evA cx s.tm e) with
        | none=>none
        | some (f,a,b)=>match call true s.hp s.nx s.sym s.orc f (a++c.map (evA cx s.tm)++b) with
          | none=>none
          | some rc=>Ee ops i o s rc.val (rc.heap s.hp) rc.nx rc.orc rc.ob rc.sfx
      | none=>match aop cx s.sym s.orc s.hp (base+i) (evA cx s.tm) o with
        | none=>none
        | some r=>Ee ops i o s r.val (r.up++s.hp) s.nx r.orc r.ob true
def UZ (cx:Cx)(call:Jt)(a:Uu)(ops:Array Oper)(base:Nat):List Nat->St->Option St
 | [],s=>some s
 | i::l,s=>match qN cx call a ops base i s with
  | some s'=>UZ cx call a ops base l s'
  | none=>none
structure Rec where
 i:Nat
 dst:Option Tmp
 val:AV
 up:List (Nat×Blk)
 fp:Option (List Nat):=none
 piv:Bool:=false
 nx:Nat:=0
 adr:Bool:=false
def YL:List Rec->List (Nat×AV)
 | []=>[]
 | r::l=>match r.dst with
  | some t=>(t,r.val)::YL l
  | none=>YL l
def WR:List Rec->List (Nat×Blk)
 | []=>[]
 | r::l=>r.up++WR l
def Jo (a:Nat):List Rec->List Rec
 | []=>[]
 | r::l=>match a.testBit r.i with
  | true=>r::Jo a l
  | false=>Jo a l
def yL (o:Oper):Bool:=match o.op with
 | .move _=>false
 | .assign _=>false
 | .pick _ _ _=>false
 | .alloc _=>false
 | .box _ _=>false
 | .build _ _=>false
 | .binOp _ _ _ _ _=>false
 | .unOp _ _ _=>false
 | .makeFunc _ _ _=>false
 | .field _ _ _=>false
 | .index _ _ _=>false
 | .extract _ _=>false
 | .call { callee:=.builtin .max,args:=_,argTypes:=_ }=>false
 | .call { callee:=.builtin .min,args:=_,argTypes:=_ }=>false
 | _=>true
def Qbs:AV->Option (List Nat)
 | .ptr b _ _ _ _=>some [b]
 | .own b _=>some [b]
 | .sub b _ _ _ _=>some [b]
 | .dptr _ _=>some []
 | .d _=>some []
 | _=>none
def uR (c:Operand->AV)(o:Oper):Option (List Nat):=match o.op with
 | .load _ a=>Qbs (c a)
 | .convert _ _ x=>Qbs (c x)
 | .fieldAddr _ x _=>Qbs (c x)
 | .indexAddr _ x _=>Qbs (c x)
 | .nilCheck x=>Qbs (c x)
 | .call { callee:=.builtin b,args,argTypes:=_ }=>match b,args.toList with
  | .len,[x]=>Qbs (c x)
  | _,_=>none
 | _=>none
def E1 (_masks:List Nat)(s:St)(recs:List Rec)(o:Oper)(a:Nat)(b:Option (List Nat)):List (Nat×Blk):=match yL o with
 | true=>match b with
  | none=>WR (Jo a recs)++s.hp
  | some fs=>(WR (Jo a recs)++s.hp).filter fun p=>fs.contains p.1
 | false=>[]
def QfR (cx:Cx)(s:St)(recs:List Rec)(o:Oper):Option Nat:=none
def ZZ (a:List Nat)(i j:Nat):Bool:=match nth a j with
 | some m=>m.testBit i
 | none=>false
def QhW (cx:Cx)(ops:Array Oper)(a:List Nat)(s:St)(recs:List Rec)(i:Nat)(o:Oper):Option Nat:=none
def qj (s:St)(recs:List Rec)(a:Nat):List (Nat×Blk):=match (Jo a recs).any fun r=>r.up.any fun p=>Vo s.hp p.1 with
 | true=>[]
 | false=>s.hp
def boxB:Blk->Bool
 | .box _=>true
 | .row _ _ _=>false
 | .frozen _ _ _=>false
 | .virt _ _ _=>false
 | .loop _ _ _ _ _ _=>false
 | .mp _=>false
 | .it _ _=>false
 | .fbox _=>false
 | .left _=>false
 | .dead=>false
def ptrB:AV->Option Nat
 | .ptr b _ _ _ _=>some b
 | .d _=>none
 | .agg _=>none
 | .tup _=>none
 | .dptr _ _=>none
 | .own _ _=>none
 | .sub _ _ _ _ _=>none
 | .fn _ _ _=>none
 | .junk=>none
def qA (a:Operand->AV)(o:Oper):Option Nat:=match o.op with
 | .fieldAddr _ x _=>ptrB (a x)
 | .indexAddr _ x _=>ptrB (a x)
 | _=>none
def adrB (hp:List (Nat×Blk)):Option Nat->Bool
 | some b=>match look hp b with
  | some k=>boxB k
  | none=>false
 | none=>false
def uN (H:List (Nat×Blk))(nm:Nat)(i:Nat)(dst:Option Tmp)(p:Nat×Blk)(a:RC):Option (Rec×List Prop×List Orc):=match a.val with
 | .own b ver'=>match jU p.2&&Nat.beq p.1 b&&Nat.beq p.2.ver ver'&&!(Vo H b) with
  | true=>some ({ i,dst,val:=.own nm 0,up:=[(nm,stamp p.2)] },a.ob,a.orc)
  | false=>none
 | _=>none
def QhT:Nat->List Rec->Nat
 | n,[]=>n
 | n,r::l=>QhT (match Nat.ble n r.nx with|true=>r.nx|false=>n) l
def effO:List Orc->Option (List Orc)
 | .ix k::r=>match decide (k=-9) with
  | true=>some r
  | false=>none
 | _=>none
def effC (cx:Cx)(a:Bool)(orc:List Orc)(b:AV):Option (List Orc):=match effO orc with
 | some o=>some o
 | none=>match a,GX b with
  | false,some (f,_,_)=>match cx.E f with
   | true=>some orc
   | false=>none
  | _,_=>none
def Qip (H:List (Nat×Blk))(a:RC):Option (List (Nat×Blk)):=match a.full,a.sfx with
 | some h,true=>some (h.take (h.length - H.length))
 | some h,false=>some h
 | none,_=>some a.up
def EW (cx:Cx)(call:Jt)(t:Uu)(ops:Array Oper)(g:List Nat)(base:Nat)(s:St)(i:Nat)(recs:List Rec)(orc:List Orc):Option (Rec×List Prop×List Orc) :=
  match nth ops.toList i,nth g i with
  | some o,some c =>
    let tm:=YL recs++s.tm
    match GM ops tm o with
    | none=>none
    | some false=>some ({ i,dst:=o.dst,val:=.d (.v undef),up:=[],fp:=some [] },[],orc)
    | some true =>
      match Jf o with
      | some (q,j)=>match yI (evA cx tm q) with
       | some (b,ver)=>match t (WR (Jo c recs)++s.hp) (base+ops.toList.length) s.sym orc b ver (j.map (evA cx tm)) with
        | none=>none
        | some e=>match e.full,wN ops i with
          | some h,true=>match litB s.sym e.orc e.val with
            | some (y,l,m)=>some ({ i,dst:=o.dst,val:=y,up:=h,piv:=true,nx:=e.nx },l++e.ob,m)
            | none=>none
          | some h,false=>some ({ i,dst:=o.dst,val:=e.val,up:=h,piv:=true,nx:=e.nx },e.ob,e.orc)
          | none,_=>none
       | none=>match effC cx s.sym orc (evA cx tm q) with
        | some n=>match GX (evA cx tm q),wN ops i with
          | some (f,a,b),false=>match call true (WR (Jo c recs)++s.hp) (QhT (base+ops.toList.length) (Jo c recs)) s.sym n f (a++j.map (evA cx tm)++b) with
            | some e=>match Qip (WR (Jo c recs)++s.hp) e with
              | some u=>some ({ i,dst:=o.dst,val:=e.val,up:=u,piv:=true,nx:=e.nx },e.ob,e.orc)
              | none=>none
            | none=>none
          | _,_=>none
        | none=>match GX (evA cx tm q) with
        | none=>none
        | some (f,a,b)=>match inHs (qj s recs c) (a++j.map (evA cx tm)++b),call false (qj s recs c) (base+ops.toList.length) s.sym orc f (a++j.map (evA cx tm)++b) with
          | true,some e=>match e.full,e.up,wN ops i with
            | none,[],true=>match litB s.sym e.orc e.val with
              | some (y,l,m)=>some ({ i,dst:=o.dst,val:=y,up:=[] },l++e.ob,m)
              | none=>none
            | none,[],false=>some ({ i,dst:=o.dst,val:=e.val,up:=[] },e.ob,e.orc)
            | none,[p],false=>uN (qj s recs c) (base+i) i o.dst p e
            | _,_,_=>none
          | _,_=>none
      | none=>match QfR cx s recs o with
       | some k=>some ({ i,dst:=o.dst,val:=.d (.v (.int .i64 k)),up:=[],fp:=some [] },[],orc)
       | none=>match QhW cx ops g s recs i o with
        | some k=>some ({ i,dst:=o.dst,val:=.d (.v (.int .i64 k)),up:=[],fp:=some [] },[],orc)
        | none=>match aop cx s.sym orc (E1 g s recs o c (uR (evA cx tm) o)) (base+i) (evA cx tm) o with
         | none=>none
         | some r=>match wN ops i with
           | true=>match litB s.sym r.orc r.val with
             | some (y,l,m)=>some ({ i,dst:=o.dst,val:=y,up:=r.up,fp:=uR (evA cx tm) o,adr:=adrB (E1 g s recs o c (uR (evA cx tm) o)) (qA (evA cx tm) o) },l++r.ob,m)
             | none=>none
           | false=>some ({ i,dst:=o.dst,val:=r.val,up:=r.up,fp:=uR (evA cx tm) o,adr:=adrB (E1 g s recs o c (uR (evA cx tm) o)) (qA (evA cx tm) o) },r.ob,r.orc)
  | _,_=>none
def JA (cx:Cx)(call:Jt)(c:Uu)(ops:Array Oper)(a:List Nat)(base:Nat)(s:St):List Nat->List Rec->List Prop->List Orc->Option (List Rec×List Prop×List Orc)
 | [],recs,ob,orc=>some (recs,ob,orc)
 | i::l,recs,ob,orc=>match EW cx call c ops a base s i recs orc with
  | some (r,b,d)=>JA cx call c ops a base s l (r::recs) (b++ob) d
  | none=>none
def JI (base:Nat)(r:Rec):Bool:=r.up.any fun p=>!(Nat.beq p.1 (base+r.i))
def Uc (ops:Array Oper)(i:Nat):Bool:=match nth ops.toList i with
 | some o=>yL o
 | none=>true
def wI (r q:Rec):Bool:=match q.fp,q.up with
 | some a,[]=>r.up.any fun p=>a.contains p.1&&!(q.adr&&boxB p.2)
 | _,_=>true
def G1 (ops:Array Oper)(a:List Nat)(base:Nat)(r q:Rec):Bool :=
 ZZ a r.i q.i || ZZ a q.i r.i || Nat.beq r.i q.i || (!(JI base r&&Uc ops q.i&&wI r q)&&!(JI base q&&Uc ops r.i&&wI q r))
def J2 (o:Oper)(ops:Array Oper):List Tmp :=
  (o.op.operands.toList.filterMap fun | .tmp t=>some t|_=>none) ++
  (match o.guard with
   | some (g,_)=>match nth ops.toList g with
     | some x=>x.dst.toList
     | none=>[]
   | none=>[])
def JK (ops:Array Oper)(a:List Nat)(i j:Nat):Bool :=
 ZZ a i j || ZZ a j i || Nat.beq i j ||
 match nth ops.toList i,nth ops.toList j with
 | some x,some y=>match x.dst with
  | some d=>!((J2 y ops).contains d)&&(match y.dst with|some e=>!(Nat.beq d e)|none=>true)
  | none=>true
 | _,_=>false
def QeL (a:List Nat)(o:Oper)(j:Nat):Nat:=o.after.toList.foldl (fun s e=>match Region.binds .any e&&Nat.blt e.on j with
 | true=>s ||| (2 ^ e.on ||| (match nth a e.on with|some m=>m|none=>0))
 | false=>s) 0
def Vq (a:List Nat)(j:Nat):Nat:=match nth a j with
 | some m=>m
 | none=>0
def QfN (ops:Array Oper)(a:List Nat):Bool:=(List.range ops.toList.length).all fun j=>match nth ops.toList j with
 | some o=>Nat.beq (Vq a j) (QeL a o j)&&(o.after.toList.all fun e=>!(Region.binds .any e) || Nat.blt e.on j) &&
  ((List.range j).all fun i=>!((Vq a j).testBit i) || Nat.beq (Vq a i &&& Vq a j) (Vq a i))
 | none=>false
def Qct (ops:Array Oper)(a:List Nat)(base:Nat)(s:St)(recs:List Rec):Bool :=
 Nat.beq a.length ops.toList.length&&QfN ops a &&
 ((List.range ops.toList.length).all fun i=>(List.range ops.toList.length).all fun j=>JK ops a i j) &&
 (recs.all fun r=>!(JI base r) || recs.all fun q=>G1 ops a base r q) &&
 (recs.all fun r=>r.up.all fun p=>match Nat.beq p.1 (base+r.i) with
  | true=>!(Vo s.hp p.1)
  | false=>(Vo s.hp p.1 || (List.range r.i).any fun i=>Nat.beq p.1 (base+i)&&ZZ a i r.i) || (r.piv&&Nat.ble (base+ops.toList.length) p.1)) &&
 (YG s.hp base || (List.range ops.toList.length).all fun i=>!(Vo s.hp (base+i))) &&
 (recs.all fun r=>!(JI base r) || Uc ops r.i) &&
 (recs.all fun r=>match r.dst with|some d=>Nat.blt d s.nt|none=>true) &&
 (recs.all fun r=>!r.piv || recs.all fun q=>Nat.beq q.i r.i || ZZ a q.i r.i || ZZ a r.i q.i || q.up.isEmpty)
def QbB:List (Nat×AV)->Nat->List (Nat×AV)
 | [],_=>[]
 | p::l,seen=>match seen.testBit p.1 with
  | true=>QbB l seen
  | false=>p::QbB l (seen ||| 2 ^ p.1)
def JB (tm:List (Nat×AV)):Nat->List (Nat×AV)
 | 0=>[]
 | n+1=>match look tm n with
  | some x=>(n,x)::JB tm n
  | none=>JB tm n
mutual
def AV.clean (hp:List (Nat×Blk))(vis:Nat)(kb:List Nat):AV->AV
 | .d x=>.d x
 | .agg cs=>.agg (Gl hp vis kb cs)
 | .tup cs=>.tup (Gl hp vis kb cs)
 | .dptr x o=>.dptr x o
 | .ptr b ver sz i off=>match kb.contains b&&El hp b ver with
  | true=>match Nat.blt b vis with
   | true=>.ptr b ver sz i off
   | false=>.ptr b 0 sz i off
  | false=>.junk
 | .own b ver=>match kb.contains b&&El hp b ver with
  | true=>match Nat.blt b vis with
   | true=>.own b ver
   | false=>.own b 0
  | false=>.junk
 | .sub b ver sz lo n=>match kb.contains b&&El hp b ver with
  | true=>match Nat.blt b vis with
   | true=>.sub b ver sz lo n
   | false=>.sub b 0 sz lo n
  | false=>.junk
 | .fn f a b=>.fn f (Gl hp vis kb a) (Gl hp vis kb b)
 | .junk=>.junk
def Gl (hp:List (Nat×Blk))(vis:Nat)(kb:List Nat):List AV->List AV
 | []=>[]
 | x::l=>x.clean hp vis kb::Gl hp vis kb l
end
def wZ (hp:List (Nat×Blk))(vis:Nat)(a:List Nat):List (Nat×AV)->List (Nat×AV)
 | []=>[]
 | (t,x)::l=>(t,x.clean hp vis a)::wZ hp vis a l
def Blk.clean (hp:List (Nat×Blk))(vis:Nat)(a:List Nat)(b:Nat):Blk->Option Blk
 | .box x=>match (x.clean hp vis a).cells with
  | some _=>some (.box (x.clean hp vis a))
  | none=>none
 | .row v sz es=>some (.row (match Nat.blt b vis with|true=>v|false=>0) sz es)
 | .frozen v sz es=>some (.frozen (match Nat.blt b vis with|true=>v|false=>0) sz es)
 | .virt v sz es=>some (.virt (match Nat.blt b vis with|true=>v|false=>0) sz es)
 | .loop rdy tm ps as bd nt=>some (.loop rdy (wZ hp vis a tm) ps as bd nt)
 | .mp es=>some (.mp es)
 | .it s p=>some (.it s p)
 | .fbox x=>some (.fbox x)
 | .left e=>some (.left e)
 | .dead=>some .dead
def Qbk (hp:List (Nat×Blk))(vis:Nat)(a:List Nat)(tm:List (Nat×AV)):List Nat->List (Nat×AV)
 | []=>[]
 | t::l=>match look tm t with
  | some x=>(t,x.clean hp vis a)::Qbk hp vis a tm l
  | none=>Qbk hp vis a tm l
def uE (hp:List (Nat×Blk))(vis:Nat)(a:List Nat):List Nat->Option (List (Nat×Blk))
 | []=>some []
 | b::l=>match look hp b,uE hp vis a l with
  | some k,some r=>match k.clean hp vis a b with
   | some c=>some ((b,c)::r)
   | none=>none
  | _,_=>none
def Xm (z sz:Nat)(es:jVj):Blk:=match z with
 | 0=>.virt 0 sz es
 | z+1=>match es with
  | []=>.row 0 (z+1) []
  | e::l=>.virt 0 sz (e::l)
def X3 (tm:List (Nat×AV))(hp:List (Nat×Blk))(a:Nat):List Nat->List (Nat×AV)×List (Nat×Blk)×Nat
 | t::z::l=>match look tm t,look hp a with
  | some (.d (.lst true sz es)),none=>X3 ((t,.own a 0)::tm) ((a,Xm z sz es)::hp) (a+1) l
  | _,_=>X3 tm hp a l
 | _=>(tm,hp,a)
def Qbe (s:St)(d c a:List Nat):Option St :=
 match X3 s.tm s.hp s.nx d with
 | (tm,hp,nx)=>match uE hp s.vis a a,hp.all fun q=>!(Nat.blt q.1 s.vis) || a.contains q.1 with
  | some b,true=>some { s with tm:=Qbk hp s.vis a tm c,hp:=b,nx,ob:=[],orc:=[] }
  | _,_=>none
def Jk:Ex->Exit
 | .normal=>.normal
 | .exit id=>.exit id
 | .ret=>.ret
structure StepsV (vis:Nat) (hp:List (Nat×Blk)) (ρ:Nat->Value) (w:World) (hp' : List (Nat×Blk)) (ρ' : Nat->Value) (w' : World):Prop where
 ext:Ext w (Mut hp ρ) w'
 mt:∀r,r<w.heap.size->Mut hp' ρ' r->Mut hp ρ r
 grow:∀b k,b<vis->look hp b=some k->∃k',look hp' b=some k'/\k.ver<=k'.ver/\(k.ver=k'.ver->ρ' b=ρ b)
theorem Steps1.toV {vis:Nat}{hp c : List (Nat×Blk)}{ρ ρ' : Nat->Value}{w w' : World}(h:Steps1 hp ρ w c ρ' w'):StepsV vis hp ρ w c ρ' w' :=
 ⟨h.ext,h.mt,fun b k _ d=>h.grow.dom b k d⟩
theorem StepsV.refl (vis:Nat)(hp:List (Nat×Blk))(ρ:Nat->Value)(w:World):StepsV vis hp ρ w hp ρ w:=(Steps1.refl hp ρ w).toV
theorem StepsV.trans {vis:Nat}{g h i:List (Nat×Blk)}{l m o:Nat->Value}{p q s:World}(a:StepsV vis g l p h m q)(b:StepsV vis h m q i o s):StepsV vis g l p i o s :=
 ⟨a.ext.trans b.ext fun r c f=>a.mt r c f,fun r c f=>a.mt r c (b.mt r (Nat.lt_of_lt_of_le c a.ext.size) f),fun n k j v=>by obtain⟨x,d,z,t⟩:=a.grow n k j v;obtain⟨y,e,A,u⟩:=b.grow n x j d;exact⟨y,e,Nat.le_trans z A,fun C=>by rw[u (by omega),t (by omega)]⟩⟩
abbrev fen (r:Option Nat):Fence:={ Fence.wide with round:=r }
theorem Qil (r:Option Nat)(n:Nat):(fen r).room n:=by intro d b;cases b
def wpR (r:Option Nat)(P:Program)(c:Code)(Q:Exit->Act->World->Prop)(a:Act)(w:World):Prop:=∀m,c.wpIn (fen r) m P Q a w
section
variable {r:Option Nat}{P:Program}{Q:Exit->Act->World->Prop}{a:Act}{w:World}
theorem VW {c:Code}{b : Exit->Act->World->Prop}(h:wpR r P c Q a w)(d:∀e a w,Q e a w->b e a w):wpR r P c b a w:=fun m=>wpIn_mono (h m) d
theorem Qhe (h:Q .normal a w):wpR r P .skip Q a w:=fun _=>wpIn_skip h
theorem Qge {l:Nat}(h:Q .normal a w):wpR r P (.label l) Q a w:=fun _=>wpIn_label h
theorem Qhf {id:Nat}(h:Q (.exit id) a w):wpR r P (.exit id) Q a w:=fun _=>wpIn_exit h
theorem QiH (h:Q .ret a w):wpR r P .ret Q a w:=fun _=>wpIn_ret h
theorem Qfn {x y:Code}(h:wpR r P x (Exit.then (wpR r P y Q) Q) a w):wpR r P (.seq x y) Q a w:=fun m=>wpIn_seq (wpIn_mono (h m) fun e a w b=>by
 cases e with
 | normal=>exact b m
 | exit id=>exact b
 | goto l=>exact b
 | ret=>exact b
 | panic ch=>exact b
 | outgrown=>exact b)
theorem QcP {c:Operand}{x y:Code}{t:Bool}(hc:a.eval c=.bool t)(h:wpR r P (if t then x else y) Q a w):wpR r P (.cond c x y) Q a w:=fun m=>wpIn_cond hc (h m)
theorem QaC {c:Operand}{x y:Code}(hc:a.eval c=.bool true)(h:wpR r P x Q a w):wpR r P (.cond c x y) Q a w:=fun m=>wpIn_cond_true hc (h m)
theorem yV {c:Operand}{x y:Code}(hc:a.eval c=.bool false)(h:wpR r P y Q a w):wpR r P (.cond c x y) Q a w:=fun m=>wpIn_cond_false hc (h m)
theorem js {id:Nat}{c:Code}(h:wpR r P c (Exit.inBlock id Q) a w):wpR r P (.block id c) Q a w:=fun m=>wpIn_block (h m)
theorem UN {b:Frame}{k:List Item}{cs:List Frame}{c:Code}:step P (lone (b.atR a (.code (.scope c)::k)) cs w)=.next (lone (b.atR a (.code c::.inScope c::k)) cs w) :=
 step_lone_go (by simp[stepG,stepG.exec,Frame.atR])
theorem QaF {b:Frame}{k:List Item}{cs:List Frame}{c:Code}:step P (lone (b.atR a (.inScope c::k)) cs w)=.next (lone (b.atR a k) cs w) :=
 step_lone_go (by simp[stepG,stepG.exec,Frame.atR])
theorem zG {c:Code}(h:wpR r P c (Exit.noGoto Q) a w):wpR r P (.scope c) Q a w:=by
 intro m b k cs s n p;have i:(lone (b.atR a (.code (.scope c)::k)) cs w).fenced P (fen r):=fenced_calm n p rfl;obtain⟨e,f,g,j,d⟩:=h m b (.inScope c::k) cs s n p;cases e with
 | normal=>exact⟨.normal,f,g,j,.head i UN (StepsIn.trans d (.one (fenced_calm n p rfl) QaF))⟩
 | exit id =>
  have t:exitTo id (.inScope c::k)=exitTo id k:=by simp[exitTo]
  exact⟨.exit id,f,g,j,fun u o=>.head i UN (d.1 u (by rw[t];exact o)),
   fun q o=>let ⟨k₁,h1,h2⟩:=d.2 q (by rw[t];exact o);⟨k₁,h1,.head i UN h2⟩⟩
 | goto l=>exact j.elim
 | ret=>exact⟨_,f,g,j,.of_steps (.one i UN) d⟩
 | panic ch=>exact⟨_,f,g,j,.of_steps (.one i UN) d⟩
 | outgrown=>exact⟨_,f,g,j,.of_steps (.one i UN) d⟩
end
def DfTo (w:World)(b:List Deferred)(w' : World)(c:List Deferred):Prop :=
 ∃new:List Nat,c=new.map (fun D=>{ target:=.collected D,args:=#[] })++b/\new.Nodup/\∀D,D∈new->w.heap.size<=D/\w'.heap[D]?=some (.deferred (some []))
theorem DfTo.refl (w:World)(b:List Deferred)(w' : World):DfTo w b w' b:=⟨[],rfl,List.nodup_nil,fun _ h=>by cases h⟩
def After (cx:Cx)(F:Nat->Prop)(vis f:Nat)(hp:List (Nat×Blk))(ρ:Nat->Value)(w:World)(d:List Deferred)(e : List (Nat×AV))(b : List (Nat×Blk))(c : Act)(w' : World):Prop :=
 ∃ρ',HSim cx F b ρ' w'/\TSim F e b ρ' c w'/\c.tmps.size=f/\DfTo w d w' c.defers/\StepsV vis hp ρ w b ρ' w'
def wpL (r:Option Nat)(P:Program)(c:Code)(Q:Exit->Act->World->Prop)(a:Act)(w:World):Prop :=
 ∀(b:Frame) (k:List Item) (cs:List Frame),b.roundOf=r->∃e d w',Q e d w'/\ArrivesIn (Machine.fenced P (fen r)) P (lone (b.atR a (.code c::.inLoop c::k)) cs w) b k cs e d w'
theorem Qgd {r:Option Nat}{P:Program}{c:Code}{Q:Exit->Act->World->Prop}{a:Act}{w:World}(h:wpL r P c Q a w):wpR r P (.loop c) Q a w:=by intro m b k cs f i l;obtain⟨e,g,w',j,d⟩:=h b k cs f;exact⟨e,g,w',j,.of_steps (.one (fenced_calm i l rfl) stepR_loop) d⟩
theorem qJ {r:Option Nat}{P:Program}{c:Code}{Q:Exit->Act->World->Prop}{a:Act}{w:World}(h:wpR r P c (Exit.then (wpL r P c Q) Q) a w):wpL r P c Q a w:=by
 intro b k cs p;have s:(fen r).fn b.fn:=trivial;have t:(fen r).room (cs.length+1+0):=Qil _ _;obtain⟨e,f,g,m,d⟩:=h 0 b (.inLoop c::k) cs p s t;cases e with
 | normal =>
  obtain⟨o,n,q,j,i⟩:=m b k cs p;exact⟨o,n,q,j,.of_steps (StepsIn.trans d (.one (fenced_calm s t rfl) stepR_inLoop)) i⟩
 | exit id=>exact⟨_,f,g,m,.pass (x:=.inLoop c) rfl (fun _ _=>.inl (by simp)) d⟩
 | goto l=>exact⟨_,f,g,m,.pass (x:=.inLoop c) rfl (fun _ _=>.inl (by simp)) d⟩
 | ret=>exact⟨_,f,g,m,.pass (x:=.inLoop c) rfl (fun _ _=>.inl (by simp)) d⟩
 | panic ch=>exact⟨_,f,g,m,.pass (x:=.inLoop c) rfl (fun _ _=>.inl (by simp)) d⟩
 | outgrown=>exact⟨_,f,g,m,.pass (x:=.inLoop c) rfl (fun _ _=>.inl (by simp)) d⟩
def Qkm (cx:Cx)(c:Code)(s:St)(e:Ex)(d : List (Nat×AV))(b : List (Nat×Blk)):Prop :=
 ∀(r:Option Nat) (F:Nat->Prop) (ρ:Nat->Value) (a:Act) (w:World),(s.rnd=false->r=none)->Sim cx F s ρ a w ->
  wpL r cx.P c (fun g f w'=>g=Jk e/\After cx F s.vis s.nt s.hp ρ w a.defers d b f w') a w
def QaA (cx:Cx)(c:Code)(nt vis:Nat)(rnd:Bool)(tm:List (Nat×AV))(hp:List (Nat×Blk))(e:Ex)(d : List (Nat×AV))(b : List (Nat×Blk)):Prop :=
 Qkm cx c { nt,sym:=true,tm,hp,nx:=0,orc:=[],ob:=[],vis,sfx:=true,rnd } e d b
def Qix (ops:Array Oper)(tm:List (Nat×AV)):List Nat :=
 match (ops.toList.any fun o=>match o.op with | .slice _ _ _ _ _=>true|_=>false)&&(ops.toList.any fun o=>(Jf o).isSome) &&
   !(ops.toList.any fun o=>match o.op with | .store _ _ _=>true | .call { callee:=.builtin .append,args:=_,argTypes:=_ }=>true|_=>false) with
 | true=>ops.toList.filterMap fun o=>match o.op with
  | .move (.tmp t)=>match look tm t with
   | some (.own b _)=>some b
   | _=>none
  | _=>none
 | false=>[]
def Qtq (hp:List (Nat×Blk))(b:Nat):Bool:=match look hp b with
 | some (.mp _)=>false
 | _=>true
def X4 (ops:Array Oper)(s:St):St:=match s.sym with
 | true=>match s.orc with
  | .lp pr _ kb _ _ _ _::r=>{ s with hp:=Qdq (Qd s.hp kb++s.hp) pr,orc:=r }
  | _=>s
 | false=>{ s with hp:=Qd s.hp ((Qix ops s.tm).filter (Qtq s.hp))++s.hp }
def Qcp {b:Type}(n:Nat)(k:Nat->b):b:=match n with
 | 0=>k 0
 | m+1=>k (m+1)
def Qcr {b:Type}(n:Bool)(k:Bool->b):b:=match n with
 | true=>k true
 | false=>k false
def Qcq {b c:Type}(l:List c)(k:List c->b):b:=match l with
 | []=>k []
 | x::r=>k (x::r)
def Qii {b:Type}(l:List Prop)(k:List Prop->b):b:=match l with
 | []=>k []
 | x::r=>k (x::r)
theorem QgM {b:Type}(n:Nat)(k:Nat->b):Qcp n k=k n:=by cases n<;>rfl
theorem QgO {b:Type}(n:Bool)(k:Bool->b):Qcr n k=k n:=by cases n<;>rfl
theorem QgN {c b:Type}(n:List b)(k:List b->c):Qcq n k=k n:=by cases n<;>rfl
theorem QgL {b:Type}(n:List Prop)(k:List Prop->b):Qii n k=k n:=by cases n<;>rfl
def St.force {b:Type}(s:St)(k:St->b):b :=
 Qcp s.nt fun nt=>Qcr s.sym fun sym=>Qcq s.tm fun tm=>Qcq s.hp fun hp=>Qcp s.nx fun nx=>Qcq s.orc fun orc=>Qii s.ob fun ob=>Qcp s.vis fun vis=>Qcr s.sfx fun sfx=>Qcr s.rnd fun rnd =>
  k { nt,sym,tm,hp,nx,orc,ob,vis,sfx,rnd }
theorem St.force_eq {b:Type}(s:St)(k:St->b):s.force k=k s:=by simp only[St.force,QgM,QgO,QgN,QgL]
def We:Nat->Cx->Code->St->Option (Ex×St)
 | 0,_,_,_=>none
 | n+1,cx,c,s=>match c with
  | .skip=>some (.normal,s)
  | .label _=>some (.normal,s)
  | .region _ ops draw=>s.force fun s=>match draw with
   | false=>match UZ cx (QbM (We n cx) cx) (jr (We n cx)) ops s.nx (List.range ops.toList.length) { s with nx:=s.nx+ops.toList.length } with
    | some s'=>some (.normal,s')
    | none=>none
   | true=>match JA cx (QbM (We n cx) cx) (jr (We n cx)) ops (Region.before ops).toList s.nx (X4 ops s) (List.range ops.toList.length) [] s.ob (X4 ops s).orc with
    | some (recs,ob,orc)=>match Qct ops (Region.before ops).toList s.nx (X4 ops s) recs with
     | true=>some (.normal,{ s with tm:=YL recs++s.tm,hp:=WR recs++(X4 ops s).hp,nx:=QhT (s.nx+ops.toList.length) recs,orc,ob })
     | false=>none
    | none=>none
  | .seq a b=>match We n cx a s with
   | some (.normal,s1)=>We n cx b s1
   | r=>r
  | .cond x t e=>match evA cx s.tm x with
   | .d (.v (.bool b))=>match zR s.sym s.orc with
    | some (.br true,r)=>We n cx t { s with orc:=r,ob:=(b=true)::s.ob }
    | some (.br false,r)=>We n cx e { s with orc:=r,ob:=(b=false)::s.ob }
    | some (.no,r)=>match b with
     | true=>We n cx t { s with orc:=r }
     | false=>We n cx e { s with orc:=r }
    | _=>none
   | _=>none
  | .block id body=>match We n cx body s with
   | some (.exit i,s1)=>match Nat.beq i id with
    | true=>some (.normal,s1)
    | false=>some (.exit i,s1)
   | r=>r
  | .scope body=>We n cx body s
  | .loop body=>match zR s.sym s.orc with
   | some (.lp pr kt kb e tm hp nx,r)=>match Qbe s pr kt kb with
    | some s0=>some (e,{ s with tm,hp,nx,orc:=r,ob:=QaA cx body s0.nt s0.vis s0.rnd s0.tm s0.hp e tm hp::s.ob,sfx:=false })
    | none=>none
   | some (.no,r)=>match We n cx body { s with orc:=r,tm:=QbB s.tm 0 } with
    | some (.normal,s1)=>We n cx (.loop body) s1
    | q=>q
   | _=>none
  | .rangeFunc f ps as bd=>match s.rnd,GX (evA cx s.tm f),YG s.hp s.nx&&s.hp.all (fun p=>wH p.2) with
   | false,some (g,a,b),true=>match KM (We n cx) cx g (a++[.own s.nx 0]++b) { nt:=0,sym:=s.sym,tm:=[],hp:=(s.nx,.loop true (JB s.tm s.nt) ps.toList as bd s.nt)::s.hp,nx:=s.nx+1,orc:=s.orc,ob:=s.ob,vis:=s.nx+1,sfx:=true } with
    | some (_,h)=>match look h.hp s.nx,K6 s.nx h.hp with
     | some (.loop true _ _ _ _ _),true=>some (.normal,{ s with hp:=(s.nx,.dead)::h.hp.filter (fun p=>!(Nat.beq p.1 s.nx)),nx:=h.nx,orc:=h.orc,ob:=h.ob,sfx:=!s.sym&&(s.sfx&&h.sfx) })
     | some (.left e),true=>some (e,{ s with hp:=(s.nx,.dead)::h.hp.filter (fun p=>!(Nat.beq p.1 s.nx)),nx:=h.nx,orc:=h.orc,ob:=h.ob,sfx:=!s.sym&&(s.sfx&&h.sfx) })
     | _,_=>none
    | none=>none
   | _,_,_=>none
  | .exit id=>some (.exit id,s)
  | .ret=>some (.ret,s)
  | _=>none
theorem VR.restrict {w w' : World}{M O S:Nat->Prop}{H C : List (Nat×Blk)}{ρ ρ' : Nat->Value}(q:∀b k,look H b=some k->look C b=some k/\ρ' b=ρ b)(T:∀r,r<w'.heap.size->S r->O r){x:AV}{t:Value}(V:VR w M H ρ x t) :
  ∀y,VR w' O C ρ' x y->VR w' S H ρ x y:=by
 induction V with
 | d x t _ =>
  intro y h;cases h with
  | d _ _ h=>exact .d _ _ (h.ext (jLj _) (fun _ _ _=>rfl) T)
 | agg cs ys hl hh ih =>
  intro y h;cases h with
  | agg _ p l e =>
   refine .agg cs p l fun i c z hc s=>?_;have j:i<ys.length:=by rw[<-hl];exact(jGj hc).1
   exact ih i c ys[i] hc (by simp[j]) z (e i c z hc s)
 | tup cs ys hl hh ih =>
  intro y h;cases h with
  | tup _ p l e =>
   refine .tup cs p l fun i c z hc s=>?_;have j:i<ys.length:=by rw[<-hl];exact(jGj hc).1
   exact ih i c ys[i] hc (by simp[j]) z (e i c z hc s)
 | dptr x off blk o hd =>
  intro y h;cases h with
  | dptr _ _ blk' o' F=>exact .dptr _ _ _ _ (F.ext (jLj _) (fun _ _ _=>rfl) T)
 | ptr b ver sz i off k t hb hv ho hh =>
  intro y h;cases h with
  | ptr _ _ _ _ _ U _ g E m e =>
   obtain⟨u,v⟩:=q b k hb;rw[u] at g;cases g;exact .ptr b ver sz i off k y hb hv m fun A=>by obtain⟨r,K,L⟩:=e A;exact⟨r,by rw[<-v];exact K,L⟩
 | own b ver k t hb hv ho hh =>
  intro y h;cases h with
  | own _ _ U _ g E m e =>
   obtain⟨u,v⟩:=q b k hb;rw[u] at g;cases g;exact .own b ver k y hb hv m fun A=>by rw[<-v];exact e A
 | sub b ver sz lo n k t hb hv ho hh =>
  intro y h;cases h with
  | sub _ _ _ _ _ U _ g E m e =>
   obtain⟨u,v⟩:=q b k hb;rw[u] at g;cases g;exact .sub b ver sz lo n k y hb hv m fun A=>by obtain⟨r,c,K,L⟩:=e A;exact⟨r,c,by rw[<-v];exact K,L⟩
 | fn f a b xs ys hl hm hh hk ih ik =>
  intro y h;cases h with
  | fn _ _ _ N p l J e G =>
   refine .fn f a b N p l J (fun i c z hc s=>?_) (fun i c z hc s=>?_)
   ·have j:i<xs.length:=by rw[<-hl];exact(jGj hc).1
    exact ih i c xs[i] hc (by simp[j]) z (e i c z hc s)
   ·have j:i<ys.length:=by rw[<-hm];exact(jGj hc).1
    exact ik i c ys[i] hc (by simp[j]) z (G i c z hc s)
 | junk t=>intro y _;exact .junk y
theorem HSim.restrict {cx:Cx}{F:Nat->Prop}{H u : List (Nat×Blk)}{ρ ρ' : Nat->Value}{w w' : World}(h:HSim cx F H ρ w)(W : HSim cx F u ρ' w')(q:∀b k,look H b=some k->look u b=some k/\ρ' b=ρ b)
  (G:Ext w (Mut H ρ) w'):HSim cx F H ρ w'/\Steps1 H ρ w H ρ w':=by
 have E:∀r,Mut H ρ r->Mut u ρ' r:=by rintro r ⟨b,k,J,M,N⟩;obtain⟨L,o⟩:=q b k J;exact⟨b,k,L,M,by rw[o];exact N⟩
 have m:∀r,r<w'.heap.size->MM F H ρ r->MM F u ρ' r:=fun r _ M=>M.imp id (E r);refine⟨⟨fun b k J=>?_,h.inj,h.forb,fun r N=>Nat.lt_of_lt_of_le (h.bnd r N) G.size,fun g x hg=>?_⟩,⟨G,fun _ _ h=>h,Grows.refl _ _⟩⟩
 ·obtain⟨L,o⟩:=q b k J;have X:=h.blk b k J;have f:=W.blk b k L;cases k with
  | box x =>
   obtain⟨r,e,v,cs,n,z,A,C⟩:=f;obtain⟨_,_,v0,_,_,_,_,p4⟩:=X;exact⟨r,e,v,cs,by rw[<-o];exact n,z,A,VR.restrict q m p4 v C⟩
  | loop rdy tm ps as bd nt =>
   obtain⟨l,V,n,A,C,T,U,q7,q8,q9,S⟩:=f;obtain⟨_,_,_,_,_,_,_,_,_,_,O⟩:=X;exact⟨l,V,by rw[<-o];exact n,A,C,T,U,q7,q8,q9,fun t x G=>VR.restrict q m (O t x G) _ (S t x G)⟩
  | mp es =>
   obtain⟨r,K,c,n,z,A⟩:=f;exact⟨r,K,c,by rw[<-o];exact n,z,A.ext (jLj _) (fun _ _ _=>rfl) m⟩
  | it s p =>
   obtain⟨r,n,z⟩:=f;exact⟨r,by rw[<-o];exact n,z⟩
  | left e =>
   obtain⟨l,V,n,A,C⟩:=f;exact⟨l,V,by rw[<-o];exact n,A,C⟩
  | fbox x =>
   obtain⟨r,n,z⟩:=f;exact⟨r,by rw[<-o];exact n,z.ext (jLj _) (fun _ _ _=>rfl) m⟩
  | dead=>trivial
  | row ver sz es =>
   obtain⟨q0,Y,n⟩|⟨r,c,e,cap,n,z,A,C,T,U⟩:=f
   ·exact .inl ⟨q0,Y,by rw[<-o];exact n⟩
   refine .inr ⟨r,c,e,cap,by rw[<-o];exact n,z,A,C,T,fun i d j a hd Z=>?_⟩;obtain⟨y,y1,y2,y3⟩:=U i d j a hd Z;exact⟨y,y1,y2,y3.ext (jLj _) (fun _ _ _=>rfl) m⟩
  | frozen ver sz es =>
   simp only[BlkR] at f ⊢;rw[<-o];exact f.ext (jLj _) (fun _ _ _=>rfl) m
  | virt ver sz es =>
   simp only[BlkR] at f ⊢;rw[<-o];exact f.ext (jLj _) (fun _ _ _=>rfl) m
 ·exact(W.glob g x hg).ext (jLj _) (fun _ _ _=>rfl) m
theorem HSim.restrictE {cx:Cx}{F:Nat->Prop}{H q : List (Nat×Blk)}{ρ ρ' : Nat->Value}{w w' : World}{E:Nat->Prop}(h:HSim cx F H ρ w)(S : HSim cx F q ρ' w')(A:∀b k,look H b=some k->look q b=some k/\ρ' b=ρ b)
  (N:Ext w (Mut H ρ) w') (T:∀r,E r->Mut q ρ' r/\w.heap.size<=r):HSim cx (fun r=>F r\/E r) H ρ w':=by
 have L:∀r,Mut H ρ r->Mut q ρ' r:=by rintro r ⟨b,k,M,hm,u⟩;obtain⟨z,o⟩:=A b k M;exact⟨b,k,z,hm,by rw[o];exact u⟩
 have m:∀r,r<w'.heap.size->MM (fun r=>F r\/E r) H ρ r->MM F q ρ' r:=by
  rintro r _ ((z|z)|z)
  ·exact .inl z
  ·exact .inr (T r z).1
  ·exact .inr (L r z)
 refine⟨fun b k M=>?_,h.inj,fun r u K=>?_,fun r u=>?_,fun g x hg=>?_⟩
 ·obtain⟨z,o⟩:=A b k M;have Z:=h.blk b k M;have f:=S.blk b k z;cases k with
  | box x =>
   obtain⟨r,e,v,cs,n,C,G,J⟩:=f;obtain⟨_,_,v0,_,_,_,_,p4⟩:=Z;exact⟨r,e,v,cs,by rw[<-o];exact n,C,G,VR.restrict A m p4 v J⟩
  | loop rdy tm ps as bd nt =>
   obtain⟨l,Y,n,G,J,W,X,q7,q8,q9,V⟩:=f;obtain⟨_,_,_,_,_,_,_,_,_,_,U⟩:=Z;exact⟨l,Y,by rw[<-o];exact n,G,J,W,X,q7,q8,q9,fun t x N=>VR.restrict A m (U t x N) _ (V t x N)⟩
  | mp es =>
   obtain⟨r,O,c,n,C,G⟩:=f;exact⟨r,O,c,by rw[<-o];exact n,C,G.ext (jLj _) (fun _ _ _=>rfl) m⟩
  | it s p =>
   obtain⟨r,n,C⟩:=f;exact⟨r,by rw[<-o];exact n,C⟩
  | left e =>
   obtain⟨l,Y,n,G,J⟩:=f;exact⟨l,Y,by rw[<-o];exact n,G,J⟩
  | fbox x =>
   obtain⟨r,n,C⟩:=f;exact⟨r,by rw[<-o];exact n,C.ext (jLj _) (fun _ _ _=>rfl) m⟩
  | dead=>trivial
  | row ver sz es =>
   obtain⟨q0,a0,n⟩|⟨r,c,e,cap,n,C,G,J,W,X⟩:=f
   ·exact .inl ⟨q0,a0,by rw[<-o];exact n⟩
   refine .inr ⟨r,c,e,cap,by rw[<-o];exact n,C,G,J,W,fun i d j a hd ha=>?_⟩;obtain⟨y,y1,y2,y3⟩:=X i d j a hd ha;exact⟨y,y1,y2,y3.ext (jLj _) (fun _ _ _=>rfl) m⟩
  | frozen ver sz es =>
   simp only[BlkR] at f ⊢;rw[<-o];exact f.ext (jLj _) (fun _ _ _=>rfl) m
  | virt ver sz es =>
   simp only[BlkR] at f ⊢;rw[<-o];exact f.ext (jLj _) (fun _ _ _=>rfl) m
 ·obtain K|K:=K
  ·exact h.forb r u K
  ·have:=h.mut_lt u;have:=(T r K).2;omega
 ·obtain u|u:=u
  ·exact Nat.lt_of_lt_of_le (h.bnd r u) N.size
  ·exact S.mut_lt (T r u).1
 ·exact(S.glob g x hg).ext (jLj _) (fun _ _ _=>rfl) m
def RowV (w:World)(M:Nat->Prop)(v:Value)(sz:Nat)(es:jVj):Prop :=
 (es=[]/\∃a,v=.slice a 0 0)\/∃r c e cap,v=.slice (some ⟨r,0,none⟩) es.length cap/\(es.length<=cap/\0<cap)/\cap*sz<=c.size/\w.heap[r]?=some (.cells c e (0,0)) /\
   (∀(i:Nat) (d:D),es[i]?=some d->d.cells.length=sz) /\
   ∀(i:Nat) (d:D) (j:Nat) (a:D),es[i]?=some d->d.cells[j]?=some a->∃y,c[i*sz+j]?=some y/\one y=true/\DR w M a y
theorem RowV.sub {w:World}{M M' : Nat->Prop}{v:Value}{sz:Nat}{es:jVj}(h:RowV w M v sz es)(g:∀r,r<w.heap.size->M' r->M r):RowV w M' v sz es:=by
 obtain h|⟨r,c,e,cap,k,l,m,n,o,p⟩:=h
 ·exact .inl h
 ·refine .inr ⟨r,c,e,cap,k,l,m,n,o,fun i d j a f b=>?_⟩;obtain⟨y,q,s,t⟩:=p i d j a f b;exact⟨y,q,s,t.ext (jLj _) (fun _ _ _=>rfl) g⟩
def FreshV (w:World)(M:Nat->Prop)(v:Value):Blk->Prop
 | .row _ sz es=>RowV w M v sz es
 | .mp es=>∃r b c,v=.map (some r)/\w.heap[r]?=some (.map b c)/\MR w M es b.toList
 | _=>False
theorem FreshV.sub {w:World}{M M' : Nat->Prop}{v:Value}{k:Blk}(h:FreshV w M v k)(d:∀r,r<w.heap.size->M' r->M r):FreshV w M' v k:=by
 cases k with
 | row _ sz es=>exact RowV.sub h d
 | mp es =>
  obtain⟨r,b,c,e,f,g⟩:=h;exact⟨r,b,c,e,f,g.ext (jLj _) (fun _ _ _=>rfl) d⟩
 | _=>exact h.elim
theorem FreshV.blk {w:World}{M:Nat->Prop}{hp:List (Nat×Blk)}{ρ:Nat->Value}{b:Nat}{k:Blk}(h:FreshV w M (ρ b) k):BlkR w M hp ρ b k:=by
 cases k with
 | row _ sz es =>
  obtain⟨f,a,d⟩|⟨r,c,e,cap,d,g⟩:=h
  ·exact .inl ⟨f,a,d⟩
  ·exact .inr ⟨r,c,e,cap,d,g⟩
 | mp es=>exact h
 | _=>exact h.elim
theorem FreshV.stamp {w:World}{M:Nat->Prop}{v:Value}{k:Blk}(h:FreshV w M v k):FreshV w M v (stamp k):=by
 cases k with
 | row _ sz es=>exact h
 | mp es=>exact h
 | _=>exact h.elim
theorem jT {w:World}{M:Nat->Prop}{hp:List (Nat×Blk)}{ρ:Nat->Value}{b:Nat}{k:Blk}(c:jU k=true)(h:BlkR w M hp ρ b k):FreshV w M (ρ b) k:=by
 cases k with
 | row _ sz es=>exact h
 | mp es=>exact h
 | _=>cases c
theorem GV {k:Blk}(b:jU k=true):k.live=true:=by cases k<;>first|rfl|cases b
theorem HSim.name {cx:Cx}{F E:Nat->Prop}{hp:List (Nat×Blk)}{ρ:Nat->Value}{w:World}(h:HSim cx (fun r=>F r\/E r) hp ρ w){nm:Nat}{k0:Blk}{v:Value}(O:look hp nm=none)
  (A:∀r,QX v=some r->E r) (C:∀r,E r->¬F r) (u:FreshV w (MM (fun r=>F r\/E r) hp ρ) v k0) :
  HSim cx F ((nm,k0)::hp) (VI ρ nm v) w:=by
 have m:∀q,Mut ((nm,k0)::hp) (VI ρ nm v) q->Mut hp ρ q\/E q:=by
  rintro q ⟨n,z,j,N,y⟩;by_cases c:n=nm
  ·subst c;rw[Qx] at y;exact .inr (A q y)
  ·rw[Qc _ _ (Ne.symm c)] at j;rw[QL _ _ c] at y;exact .inl ⟨n,z,j,N,y⟩
 have o:∀r,r<w.heap.size->MM F ((nm,k0)::hp) (VI ρ nm v) r->MM (fun r=>F r\/E r) hp ρ r:=by
  rintro r _ (i|i)
  ·exact .inl (.inl i)
  ·obtain l|l:=m r i
   ·exact .inr l
   ·exact .inl (.inr l)
 have G:Grows hp ((nm,k0)::hp) ρ (VI ρ nm v):=⟨fun b k j=>by
  have t:b≠nm:=fun e=>by rw[e,O] at j;cases j
  exact⟨k,by rw[Qc _ _ (Ne.symm t)];exact j,jLj _,fun _=>QL _ _ t⟩⟩
 refine⟨fun b k j=>?_,fun b b' k z r i l K L p s=>?_,fun r H J=>?_,fun r H=>h.bnd r (.inl H),fun g x M=>(h.glob g x M).ext (jLj _) (fun _ _ _=>rfl) o⟩
 ·by_cases c:b=nm
  ·subst c;rw[Qf] at j;cases j;have:=u.sub o;exact FreshV.blk (by rw[Qx];exact this)
  ·rw[Qc _ _ (Ne.symm c)] at j;exact(h.blk b k j).ext (jLj _) (fun _ _ _=>rfl) o G (QL _ _ c) (fun _ _ _=>rfl)
 ·by_cases d:b=nm<;>by_cases f:b'=nm
  ·rw[d,f]
  ·subst d;rw[Qx] at p;rw[Qc _ _ (Ne.symm f)] at l;rw[QL _ _ f] at s;exact absurd (.inr (A r p)) (h.forb r ⟨b',z,l,L,s⟩)
  ·subst f;rw[Qx] at s;rw[Qc _ _ (Ne.symm d)] at i;rw[QL _ _ d] at p;exact absurd (.inr (A r s)) (h.forb r ⟨b,k,i,K,p⟩)
  ·rw[Qc _ _ (Ne.symm d)] at i;rw[QL _ _ d] at p;rw[Qc _ _ (Ne.symm f)] at l;rw[QL _ _ f] at s;exact h.inj b b' k z r i l K L p s
 ·obtain i|i:=m r H
  ·exact h.forb r i (.inl J)
  ·exact C r i J
theorem VK:∀(cs:List OC) (i j:Nat),(G8 i cs)[j]?=match cs[j]? with
  | none=>none
  | some (.dat x)=>some (.d x)
  | some (.row _ _)=>some (.own (i+j) 0)
 | [],i,j=>by simp[G8]
 | .dat x::l,i,0=>by simp[G8]
 | .row s e::l,i,0=>by simp[G8]
 | .dat x::l,i,j+1=>by simp only[G8,List.getElem?_cons_succ];rw[VK l (i+1) j,show i+1+j=i+(j+1) by omega]
 | .row s e::l,i,j+1=>by simp only[G8,List.getElem?_cons_succ];rw[VK l (i+1) j,show i+1+j=i+(j+1) by omega]
theorem K8:∀(cs:List OC) (i:Nat),(G8 i cs).length=cs.length
 | [],_=>rfl
 | .dat x::l,i=>by simp[G8,K8 l]
 | .row s e::l,i=>by simp[G8,K8 l]
theorem GQ:∀(cs:List OC) (i n:Nat) (k:Blk),look (J9 i cs) n=some k↔∃j sz es,n=i+j/\cs[j]?=some (.row sz es)/\k=.row 0 sz es
 | [],i,n,k=>by simp[J9,look]
 | .dat x::l,i,n,k=>by
  simp only[J9];rw[GQ l (i+1) n k];constructor
  ·rintro⟨j,sz,es,c,a,b⟩;exact⟨j+1,sz,es,by omega,by simpa using a,b⟩
  ·rintro⟨j,sz,es,c,a,b⟩;cases j with
   | zero=>simp at a
   | succ j=>exact⟨j,sz,es,by omega,by simpa using a,b⟩
 | .row s e::l,i,n,k=>by
  simp only[J9];by_cases d:i=n
  ·subst d;rw[Qf];constructor
   ·intro h;cases h;exact⟨0,s,e,by omega,by simp,rfl⟩
   ·rintro⟨j,sz,es,c,a,b⟩;have:j=0:=by omega
    subst this;simp only[jzj,jIj,OC.row.injEq] at a;rw[b,a.1,a.2]
  ·rw[Qc _ _ d,GQ l (i+1) n k];constructor
   ·rintro⟨j,sz,es,c,a,b⟩;exact⟨j+1,sz,es,by omega,by simpa using a,b⟩
   ·rintro⟨j,sz,es,c,a,b⟩;cases j with
    | zero=>omega
    | succ j=>exact⟨j,sz,es,by omega,by simpa using a,b⟩
theorem ZX (cs:List OC):look (Zx cs) 0=some (.box (AV.norm (.agg (G8 1 cs)))):=Qf _ _ _
theorem Kz {cs:List OC}{j sz:Nat}{es:jVj}(h:cs[j]?=some (.row sz es)):look (Zx cs) (j+1)=some (.row 0 sz es):=by rw[Zx,Qc _ _ (by omega)];exact(GQ cs 1 (j+1) _).2 ⟨j,sz,es,by omega,h,rfl⟩
theorem GR {cs:List OC}{n:Nat}{k:Blk}(h:look (Zx cs) n=some k):(n=0/\k=.box (AV.norm (.agg (G8 1 cs))))\/∃j sz es,n=j+1/\cs[j]?=some (.row sz es)/\k=.row 0 sz es:=by
 by_cases c:n=0
 ·subst c;rw[ZX] at h;cases h;exact .inl ⟨rfl,rfl⟩
 ·right;rw[Zx,Qc _ _ (by omega)] at h;obtain⟨j,sz,es,d,a,b⟩:=(GQ cs 1 n k).1 h;exact⟨j,sz,es,by omega,a,b⟩
theorem zW {l:List AV}(h:Vw l=true):(AV.norm (.agg l)).cells.isSome=true:=by
 unfold AV.norm;split
 ·rename_i y c;simp only[AV.toD] at c;split at c;case h_2=>cases c
  rename_i e i;simp only[jIj] at c;subst c;have m:∀(l:List AV) (e:jVj),Vw l=true->Ju l=some e->Vw (e.map .d)=true:=by
   intro l;induction l with
   | nil=>intro e _ h;simp only[Ju,jIj] at h;subst h;rfl
   | cons x l ih =>
    intro e j h;simp only[Ju] at h;split at h;case h_2=>cases h
    rename_i y ys c k;simp only[jIj] at h;subst h;simp only[Vw,jAj] at j;simp only[jCj,Vw,jAj];refine⟨?_,ih ys j.2 k⟩;have g:=j.1;cases x with
    | d z=>simp only[AV.toD,jIj] at c;subst c;exact g
    | fn f a b =>
     simp only[AV.toD] at c;split at c
     ·simp only[jIj] at c;subst c;rfl
     ·cases c
    | agg _=>simp[AV.isOne] at g
    | tup _=>simp[AV.isOne] at g
    | junk=>simp[AV.isOne] at g
    | _=>simp[AV.toD] at c
  simp only[AV.cells,m l e h i];rfl
 ·simp only[AV.cells,h];rfl
structure Names (ns:List (Option (Nat×Nat))) (cs:List OC):Prop where
 row:∀(i sz:Nat) (es:jVj),cs[i]?=some (.row sz es)->∃p,ns[i]?=some (some p)
 dat:∀(i:Nat) (x:D),cs[i]?=some (.dat x)->ns[i]?=some none
 len:ns.length=cs.length
theorem Names.tail {p:Option (Nat×Nat)}{ns:List (Option (Nat×Nat))}{c:OC}{cs:List OC}(h:Names (p::ns) (c::cs)):Names ns cs :=
 ⟨fun i sz es hc=>by simpa using h.row (i+1) sz es (by simpa using hc),fun i x hc=>by simpa using h.dat (i+1) x (by simpa using hc),by simpa using h.len⟩
theorem Names.rowOf {ns:List (Option (Nat×Nat))}{cs:List OC}(h:Names ns cs){i:Nat}{p:Nat×Nat}(hi:ns[i]?=some (some p)):∃sz es,cs[i]?=some (.row sz es):=by
 have a:i<cs.length:=by rw[<-h.len];exact(jGj hi).1
 cases hc:cs[i] with
 | dat x=>have:=h.dat i x (by rw[jej a,hc]);rw[hi] at this;cases this
 | row sz es=>exact⟨sz,es,by rw[jej a,hc]⟩
theorem X7:∀{ns:List (Option (Nat×Nat))} {cs:List OC},Names ns cs->∀(i:Nat) (x:D),cs[i]?=some (.dat x)->(ZH ns cs)[i]?=some (.d x)
 | _,[],_,i,x,h=>by simp at h
 | [],c::cs,hn,i,x,h=>by have:=hn.len;simp at this
 | p::ns,c::cs,hn,0,x,h=>by simp only[jzj,jIj] at h;subst h;have:=hn.dat 0 x rfl;simp only[jzj,jIj] at this;subst this;simp[ZH]
 | p::ns,c::cs,hn,i+1,x,h=>by
  have g:=X7 hn.tail i x (by simpa using h);cases c with
  | dat y =>
   have:=hn.dat 0 y rfl;simp only[jzj,jIj] at this;subst this;simpa[ZH] using g
  | row s e =>
   obtain⟨⟨a,b⟩,f⟩:=hn.row 0 s e rfl;simp only[jzj,jIj] at f;subst f;simpa[ZH] using g
theorem X5:∀{ns:List (Option (Nat×Nat))} {cs:List OC},Names ns cs->∀(i n v:Nat),ns[i]?=some (some (n,v))->(ZH ns cs)[i]?=some (.own n v)
 | _,[],hn,i,n,v,h=>by have d:=hn.len;simp only[List.length_nil,List.length_eq_zero_iff] at d;subst d;simp at h
 | [],c::cs,hn,i,n,v,h=>by simp at h
 | p::ns,c::cs,hn,0,n,v,h=>by simp only[jzj,jIj] at h;subst h;obtain⟨sz,es,hc⟩:=hn.rowOf (i:=0) rfl;simp only[jzj,jIj] at hc;subst hc;simp[ZH]
 | p::ns,c::cs,hn,i+1,n,v,h=>by
  have g:=X5 hn.tail i n v (by simpa using h);cases c with
  | dat y =>
   have:=hn.dat 0 y rfl;simp only[jzj,jIj] at this;subst this;simpa[ZH] using g
  | row s e =>
   obtain⟨⟨a,b⟩,f⟩:=hn.row 0 s e rfl;simp only[jzj,jIj] at f;subst f;simpa[ZH] using g
theorem X6:∀{ns:List (Option (Nat×Nat))} {cs:List OC},Names ns cs->(ZH ns cs).length=cs.length
 | [],[],hn=>rfl
 | p::ns,[],hn=>by have:=hn.len;simp at this
 | [],c::cs,hn=>by have:=hn.len;simp at this
 | p::ns,c::cs,hn=>by
  have f:=X6 hn.tail;cases c with
  | dat y =>
   have:=hn.dat 0 y rfl;simp only[jzj,jIj] at this;subst this;simp[ZH,f]
  | row s e =>
   obtain⟨⟨a,b⟩,d⟩:=hn.row 0 s e rfl;simp only[jzj,jIj] at d;subst d;simp[ZH,f]
theorem Jz {n:Nat}:∀{ns:List (Option (Nat×Nat))},KW n ns=true->∀(i v:Nat),ns[i]?≠some (some (n,v))
 | [],_,i,v=>by simp
 | none::l,h,0,v=>by simp
 | none::l,h,i+1,v=>by simpa using Jz (ns:=l) h i v
 | some (m,u)::l,h,0,v=>by simp only[KW,jAj] at h;intro a;simp only[jzj,jIj,jPj] at a;rw[a.1] at h;simp at h
 | some (m,u)::l,h,i+1,v=>by simp only[KW,jAj] at h;simpa using Jz (ns:=l) h.2 i v
theorem Gf (ks:List Bool):WD ks []=[]:=by cases ks with
 | nil=>rfl
 | cons k _=>cases k<;>rfl
theorem KK (k:Bool)(ks:List Bool)(p:Option (Nat×Nat))(ns:List (Option (Nat×Nat))) :
  (WD (k::ks) (p::ns)=p::WD ks ns)\/(k=true/\∃a b,p=some (a,b+1)/\WD (k::ks) (p::ns)=some (a,b)::WD ks ns):=by
 cases k with
 | false=>exact .inl (by cases p<;>rfl)
 | true =>
  cases p with
  | none=>exact .inl rfl
  | some p =>
   obtain⟨a,b⟩:=p;cases b with
   | zero=>exact .inl rfl
   | succ b=>exact .inr ⟨rfl,a,b,rfl,rfl⟩
theorem Gg:∀(ks:List Bool) (ns:List (Option (Nat×Nat))) (i n v:Nat),(WD ks ns)[i]?=some (some (n,v))->ns[i]?=some (some (n,v))\/(ks[i]?=some true/\ns[i]?=some (some (n,v+1)))
 | [],ns,i,n,v,h=>by cases ns<;>exact .inl h
 | _::_,[],i,n,v,h=>by rw[Gf] at h;simp at h
 | k::ks,p::ns,i,n,v,h=>by
  obtain c|⟨rfl,a,b,rfl,c⟩:=KK k ks p ns
  ·rw[c] at h;cases i with
   | zero=>exact .inl h
   | succ i=>simpa using Gg ks ns i n v (by simpa using h)
  ·rw[c] at h;cases i with
   | zero =>
    simp only[jzj,jIj,jPj] at h;obtain⟨rfl,rfl⟩:=h;exact .inr ⟨rfl,rfl⟩
   | succ i=>simpa using Gg ks ns i n v (by simpa using h)
theorem uD:∀(ks:List Bool) (ns:List (Option (Nat×Nat))),(WD ks ns).length=ns.length
 | [],ns=>by cases ns<;>rfl
 | _::_,[]=>by rw[Gf]
 | k::ks,p::ns=>by obtain c|⟨_,a,b,rfl,c⟩:=KK k ks p ns<;>rw[c]<;>simp[uD ks ns]
theorem kZ:∀(ks:List Bool) (ns:List (Option (Nat×Nat))) (i:Nat),ns[i]?=some none->(WD ks ns)[i]?=some none
 | [],ns,i,h=>by cases ns<;>exact h
 | _::_,[],i,h=>by simp at h
 | k::ks,p::ns,i,h=>by
  obtain c|⟨_,a,b,rfl,c⟩:=KK k ks p ns<;>rw[c]<;>cases i with
  | zero=>first|exact h|simp at h
  | succ i=>simpa using kZ ks ns i (by simpa using h)
theorem GU:∀(ks:List Bool) (ns:List (Option (Nat×Nat))) (i n v:Nat),ns[i]?=some (some (n,v))->∃u,(WD ks ns)[i]?=some (some (n,u))
 | [],ns,i,n,v,h=>⟨v,by cases ns<;>exact h⟩
 | _::_,[],i,n,v,h=>by simp at h
 | k::ks,p::ns,i,n,v,h=>by
  obtain c|⟨_,a,b,rfl,c⟩:=KK k ks p ns<;>rw[c]<;>cases i with
  | zero =>
   simp only[jzj,jIj,jPj] at h ⊢;first|exact⟨v,h⟩|exact⟨b,h.1,rfl⟩|skip
  | succ i=>simpa using GU ks ns i n v (by simpa using h)
theorem Jy (n:Nat):∀(ks:List Bool) (ns:List (Option (Nat×Nat))),KW n (WD ks ns)=KW n ns
 | [],ns=>by cases ns<;>rfl
 | _::_,[]=>by rw[Gf]
 | k::ks,p::ns=>by
  obtain c|⟨_,a,b,rfl,c⟩:=KK k ks p ns<;>rw[c]
  ·cases p<;>simp only[KW,Jy n ks ns]
  ·simp only[KW,Jy n ks ns]
theorem JL (bn:Nat)(fz:List Nat):∀(ks:List Bool) (ns:List (Option (Nat×Nat))),E3 bn fz (WD ks ns)=E3 bn fz ns
 | [],ns=>by cases ns<;>rfl
 | _::_,[]=>by rw[Gf]
 | k::ks,p::ns=>by
  obtain c|⟨_,a,b,rfl,c⟩:=KK k ks p ns<;>rw[c]
  ·cases p<;>simp only[E3,JL bn fz ks ns,Jy]
  ·simp only[E3,JL bn fz ks ns,Jy]
theorem Ec {H:List (Nat×Blk)}:∀(j:Nat) (ks:List Bool) (ns:List (Option (Nat×Nat))),G9 H j ks ns=true->∀t:Nat,ks[t]?=some true->ns[t]?=some none\/(ns[t]?=some (some (j+t,1))/\∃k,look H (j+t)=some k)
 | j,true::ks,some (n,v)::ns,h,t,ht=>by
  simp only[G9,jAj] at h;obtain⟨⟨⟨a,b⟩,c⟩,d⟩:=h;have a:=jqj a;have b:=jqj b;subst a;subst b;cases t with
  | zero=>exact .inr ⟨rfl,Option.isSome_iff_exists.1 c⟩
  | succ t =>
   have:=Ec (n+1) ks ns d t (by simpa using ht);rw[show n+1+t=n+(t+1) by omega] at this;simpa using this
 | j,true::ks,none::ns,h,t,ht=>by
  cases t with
  | zero=>exact .inl rfl
  | succ t =>
   have:=Ec (j+1) ks ns (by simpa only[G9] using h) t (by simpa using ht);rw[show j+1+t=j+(t+1) by omega] at this;simpa using this
 | j,true::ks,[],h,t,ht=>by simp[G9] at h
 | j,false::ks,p::ns,h,t,ht=>by
  cases t with
  | zero=>simp at ht
  | succ t =>
   have:=Ec (j+1) ks ns (by simpa only[G9] using h) t (by simpa using ht);rw[show j+1+t=j+(t+1) by omega] at this;simpa using this
 | j,false::ks,[],h,t,ht=>by simp[G9] at h
 | j,[],ns,h,t,ht=>by simp at ht
theorem Xn {bn:Nat}{fz:List Nat}:∀{ns:List (Option (Nat×Nat))},E3 bn fz ns=true->¬bn∈fz
 | [],h=>by simpa[E3] using h
 | none::l,h=>Xn (ns:=l) h
 | some _::l,h=>by simp only[E3,jAj] at h;exact Xn (ns:=l) h.2
theorem V7 {bn:Nat}{fz:List Nat}:∀{ns:List (Option (Nat×Nat))},E3 bn fz ns=true->∀(i n v:Nat),ns[i]?=some (some (n,v)) ->
  n≠bn/\¬n∈fz/\∀(j u:Nat),ns[j]?=some (some (n,u))->j=i
 | [],_,i,n,v,hi=>by simp at hi
 | none::l,h,0,n,v,hi=>by simp at hi
 | none::l,h,i+1,n,v,hi=>by
  obtain⟨b,d,c⟩:=V7 (ns:=l) h i n v (by simpa using hi);refine⟨b,d,fun j u a=>?_⟩;cases j with
  | zero=>simp at a
  | succ j=>rw[c j u (by simpa using a)]
 | some (m,u)::l,h,0,n,v,hi=>by
  simp only[jzj,jIj,jPj] at hi;obtain⟨rfl,rfl⟩:=hi;simp only[E3,jAj] at h;obtain⟨⟨⟨b,d⟩,c⟩,f⟩:=h;refine⟨fun e=>by subst e;simp at d,fun g=>by simp at c;exact c g,fun j u a=>?_⟩;cases j with
  | zero=>rfl
  | succ j=>exact absurd (by simpa using a) (Jz b j u)
 | some (m,u)::l,h,i+1,n,v,hi=>by
  simp only[E3,jAj] at h;obtain⟨⟨⟨b,d⟩,c⟩,f⟩:=h;obtain⟨k,o,p⟩:=V7 (ns:=l) f i n v (by simpa using hi);refine⟨k,o,fun j u a=>?_⟩;cases j with
  | zero =>
   simp only[jzj,jIj,jPj] at a;rw[<-a.1] at hi;exact absurd (by simpa using hi) (Jz b i v)
  | succ j=>rw[p j u (by simpa using a)]
def yx (n:Nat):List (Option (Nat×Nat))->Nat->Option Nat
 | [],_=>none
 | none::l,k=>yx n l (k+1)
 | some p::l,k=>if p.1=n then some k else yx n l (k+1)
theorem Xt {n:Nat}:∀{ns:List (Option (Nat×Nat))} {k j:Nat},yx n ns k=some j->∃(i v:Nat),j=k+i/\ns[i]?=some (some (n,v))
 | [],k,j,h=>by simp[yx] at h
 | none::l,k,j,h=>by obtain⟨i,v,d,c⟩:=Xt (ns:=l) (k:=k+1) h;exact⟨i+1,v,by omega,by simpa using c⟩
 | some p::l,k,j,h=>by
  simp only[yx] at h;split at h
  ·rename_i hp;simp only[jIj] at h;obtain⟨a,b⟩:=p;simp only at hp;subst hp;exact⟨0,b,by omega,rfl⟩
  ·obtain⟨i,v,d,c⟩:=Xt (ns:=l) (k:=k+1) h;exact⟨i+1,v,by omega,by simpa using c⟩
theorem jS {n:Nat}:∀{ns:List (Option (Nat×Nat))} {k:Nat},yx n ns k=none->∀(i v:Nat),ns[i]?≠some (some (n,v))
 | [],k,h,i,v=>by simp
 | none::l,k,h,0,v=>by simp
 | none::l,k,h,i+1,v=>by simpa using jS (ns:=l) (k:=k+1) h i v
 | some p::l,k,h,i,v=>by
  simp only[yx] at h;split at h
  ·cases h
  ·rename_i hp;cases i with
   | zero =>
    intro a;simp only[jzj,jIj] at a;exact hp (by rw[a])
   | succ i=>simpa using jS (ns:=l) (k:=k+1) h i v
theorem Ue {n:Nat}{k:Blk}:∀{ns:List (Option (Nat×Nat))} {cs:List OC},look (Vn ns cs) n=some k->∃(i v sz:Nat) (es:jVj),ns[i]?=some (some (n,v))/\cs[i]?=some (.row sz es)/\k=.row v sz es
 | [],cs,h=>by simp[Vn,look] at h
 | p::ns,[],h=>by cases p<;>simp[Vn,look] at h
 | none::ns,c::cs,h=>by obtain⟨i,v,sz,es,a,b,d⟩:=Ue (ns:=ns) (cs:=cs) (by cases c<;>simpa[Vn] using h);exact⟨i+1,v,sz,es,by simpa using a,by simpa using b,d⟩
 | some (m,u)::ns,.dat x::cs,h=>by obtain⟨i,v,sz,es,a,b,d⟩:=Ue (ns:=ns) (cs:=cs) (by simpa[Vn] using h);exact⟨i+1,v,sz,es,by simpa using a,by simpa using b,d⟩
 | some (m,u)::ns,.row s e::cs,h=>by
  simp only[Vn] at h;by_cases f:m=n
  ·subst f;rw[Qf] at h;cases h;exact⟨0,u,s,e,rfl,rfl,rfl⟩
  ·rw[Qc _ _ f] at h;obtain⟨i,v,sz,es,a,b,d⟩:=Ue (ns:=ns) (cs:=cs) h;exact⟨i+1,v,sz,es,by simpa using a,by simpa using b,d⟩
theorem Jw {n:Nat}:∀{ns:List (Option (Nat×Nat))} {cs:List OC},look (Vn ns cs) n=none->∀(i v sz:Nat) (es:jVj),ns[i]?=some (some (n,v))->cs[i]?≠some (.row sz es)
 | [],cs,h,i,v,sz,es,hi=>by simp at hi
 | p::ns,[],h,i,v,sz,es,hi=>by simp
 | none::ns,c::cs,h,0,v,sz,es,hi=>by simp at hi
 | none::ns,c::cs,h,i+1,v,sz,es,hi=>by simpa using Jw (ns:=ns) (cs:=cs) (by cases c<;>simpa[Vn] using h) i v sz es (by simpa using hi)
 | some (m,u)::ns,.dat x::cs,h,0,v,sz,es,hi=>by simp
 | some (m,u)::ns,.dat x::cs,h,i+1,v,sz,es,hi=>by simpa using Jw (ns:=ns) (cs:=cs) (by simpa[Vn] using h) i v sz es (by simpa using hi)
 | some (m,u)::ns,.row s e::cs,h,i,v,sz,es,hi=>by
  simp only[Vn] at h;by_cases a:m=n
  ·subst a;rw[Qf] at h;cases h
  ·rw[Qc _ _ a] at h;cases i with
   | zero =>
    simp only[jzj,jIj,jPj] at hi;exact absurd hi.1 a
   | succ i=>simpa using Jw (ns:=ns) (cs:=cs) h i v sz es (by simpa using hi)
def Jp (ns:List (Option (Nat×Nat)))(bn:Nat)(ρ ρ' : Nat->Value)(n:Nat):Value:=match yx n ns 1 with
 | some j=>ρ' j
 | none=>if n=bn then ρ' 0 else ρ n
def Uo (ns:List (Option (Nat×Nat)))(bn:Nat)(cs:List OC)(H:List (Nat×Blk)):List (Nat×Blk):=(bn,.box (AV.norm (.agg (ZH ns cs))))::(Vn ns cs++H)
theorem glue {cx:Cx}{F:Nat->Prop}{H:List (Nat×Blk)}{ρ:Nat->Value}{w:World}(g1:HSim cx F H ρ w){hin:List (Nat×Blk)}{ρc:Nat->Value}(c0:∀r,Mut hin ρc r->Mut H ρ r)
  {cs:List OC} {ns:List (Option (Nat×Nat))} {bn:Nat} {fz:List Nat} (A:Names ns cs) (a7:E3 bn fz ns=true)
  (U:∀n k r,look H n=some k->k.live=true->QX (ρ n)=some r->Mut hin ρc r->n=bn\/∃(i v:Nat),ns[i]?=some (some (n,v)))
  {w' : World} {ρ' : Nat->Value} (c7:∀(i n v:Nat) (k:Blk),ns[i]?=some (some (n,v))->look H n=some k->k.ver<=v/\(k.ver=v->ρ' (i+1)=ρ n)) (d3:∀k,look H bn=some k->k.ver=0/\ρ' 0=ρ bn)
  (q1:HSim cx (fun r=>F r\/(Mut H ρ r/\¬Mut hin ρc r)) (Zx cs) ρ' w') (q2:Ext w (Mut hin ρc) w') (q3:∀q,q<w.heap.size->Mut (Zx cs) ρ' q->Mut hin ρc q) :
  HSim cx F (Uo ns bn cs H) (Jp ns bn ρ ρ') w'/\Steps1 H ρ w (Uo ns bn cs H) (Jp ns bn ρ ρ') w' /\
   (∀r,MM F (Uo ns bn cs H) (Jp ns bn ρ ρ') r->MM (fun r=>F r\/(Mut H ρ r/\¬Mut hin ρc r)) (Zx cs) ρ' r) /\
   look (Uo ns bn cs H) bn=some (.box (AV.norm (.agg (ZH ns cs))))/\Jp ns bn ρ ρ' bn=ρ' 0:=by
 have c4:∀{i n v:Nat},ns[i]?=some (some (n,v))->n≠bn:=fun h=>(V7 a7 _ _ _ h).1;have d2:yx bn ns 1=none:=by
  cases hi:yx bn ns 1 with
  | none=>rfl
  | some j =>
   obtain⟨i,v,_,o⟩:=Xt hi;exact absurd rfl (c4 o)
 have P:Jp ns bn ρ ρ' bn=ρ' 0:=by simp only[Jp,d2,if_true]
 have Q:∀{i n v:Nat},ns[i]?=some (some (n,v))->Jp ns bn ρ ρ' n=ρ' (i+1):=by
  intro i n v h;unfold Jp;cases hi:yx n ns 1 with
  | none=>exact absurd h (jS hi i v)
  | some j =>
   obtain⟨i',v',f,o⟩:=Xt hi;have:=(V7 a7 _ _ _ h).2.2 i' v' o;subst this;simp only[f,Nat.add_comm]
 have a8:∀{n},n≠bn->(∀(i v:Nat),ns[i]?≠some (some (n,v)))->Jp ns bn ρ ρ' n=ρ n:=by
  intro n f o;unfold Jp;cases hi:yx n ns 1 with
  | none=>simp only[jFj f]
  | some j =>
   obtain⟨i',v',_,h⟩:=Xt hi;exact absurd h (o i' v')
 have Z:look (Uo ns bn cs H) bn=some (.box (AV.norm (.agg (ZH ns cs)))):=Qf _ _ _;have a0:∀{i n v sz:Nat} {es:jVj},ns[i]?=some (some (n,v))->cs[i]?=some (.row sz es)->look (Uo ns bn cs H) n=some (.row v sz es):=by
  intro i n v sz es f o;rw[Uo,Qc _ _ (Ne.symm (c4 f)),WH];cases G:look (Vn ns cs) n with
  | none=>exact absurd o (Jw G i v sz es f)
  | some k =>
   obtain⟨i',v',d9,d0,k1,k2,rfl⟩:=Ue G;have:=(V7 a7 _ _ _ f).2.2 i' v' k1;subst this;rw[f] at k1;cases k1;rw[o] at k2;cases k2;rfl
 have b9:∀{n},n≠bn->(∀(i v:Nat),ns[i]?≠some (some (n,v)))->look (Uo ns bn cs H) n=look H n:=by
  intro n f o;rw[Uo,Qc _ _ (Ne.symm f),WH];cases G:look (Vn ns cs) n with
  | none=>rfl
  | some k =>
   obtain⟨i',v',d9,d0,k1,k2,rfl⟩:=Ue G;exact absurd k1 (o i' v')
 -- the three U6 of names
 have M:∀{n k},look (Uo ns bn cs H) n=some k->(n=bn/\k=.box (AV.norm (.agg (ZH ns cs))))\/(∃(i v sz:Nat) (es:jVj),ns[i]?=some (some (n,v))/\cs[i]?=some (.row sz es)/\k=.row v sz es) \/
   (n≠bn/\(∀(i v:Nat),ns[i]?≠some (some (n,v)))/\look H n=some k):=by
  intro n k h;by_cases f:n=bn
  ·subst f;rw[Z] at h;cases h;exact .inl ⟨rfl,rfl⟩
  ·by_cases o:∃(i v:Nat),ns[i]?=some (some (n,v))
   ·obtain⟨i,v,hi⟩:=o;obtain⟨sz,es,hc⟩:=A.rowOf hi;rw[a0 hi hc] at h;cases h;exact .inr (.inl ⟨i,v,sz,es,hi,hc,rfl⟩)
   ·have t:∀(i v:Nat),ns[i]?≠some (some (n,v)):=fun i v Y=>o ⟨i,v,Y⟩;rw[b9 f t] at h;exact .inr (.inr ⟨f,t,h⟩)
 -- roots
 have s:∀{n k r},look (Uo ns bn cs H) n=some k->k.live=true->QX (Jp ns bn ρ ρ' n)=some r ->
   (∃m,(∃k',look (Zx cs) m=some k'/\k'.live=true)/\QX (ρ' m)=some r/\Mut (Zx cs) ρ' r/\((n=bn/\m=0)\/∃(i v:Nat),ns[i]?=some (some (n,v))/\m=i+1)) \/
   (n≠bn/\(∀(i v:Nat),ns[i]?≠some (some (n,v)))/\look H n=some k/\QX (ρ n)=some r/\Mut H ρ r/\¬Mut hin ρc r):=by
  intro n k r h G C;obtain⟨rfl,rfl⟩|⟨i,v,sz,es,f,o,rfl⟩|⟨f,o,t⟩:=M h
  ·rw[P] at C;exact .inl ⟨0,⟨_,ZX cs,rfl⟩,C,⟨0,_,ZX cs,rfl,C⟩,.inl ⟨rfl,rfl⟩⟩
  ·rw[Q f] at C;exact .inl ⟨i+1,⟨_,Kz o,rfl⟩,C,⟨i+1,_,Kz o,rfl,C⟩,.inr ⟨i,v,f,rfl⟩⟩
  ·rw[a8 f o] at C;refine .inr ⟨f,o,t,C,⟨n,k,t,G,C⟩,fun E=>?_⟩;obtain J|⟨i,v,J⟩:=U n k r t G C E
   ·exact f J
   ·exact o i v J
 have W:∀r,MM F (Uo ns bn cs H) (Jp ns bn ρ ρ') r->MM (fun r=>F r\/(Mut H ρ r/\¬Mut hin ρc r)) (Zx cs) ρ' r:=by
  rintro r (hf|⟨n,k,f,o,t⟩)
  ·exact .inl (.inl hf)
  ·obtain⟨m,_,_,E,_⟩|⟨_,_,_,_,J,h5⟩:=s f o t
   ·exact .inr E
   ·exact .inl (.inr ⟨J,h5⟩)
 have c6:Steps1 H ρ w (Uo ns bn cs H) (Jp ns bn ρ ρ') w':=by
  refine⟨q2.mono c0,fun r C E=>?_,⟨fun n k hn=>?_⟩⟩
  ·obtain⟨n,k,f,o,t⟩:=E;obtain⟨m,_,_,E,_⟩|⟨_,_,_,_,J,_⟩:=s f o t
   ·exact c0 r (q3 r C E)
   ·exact J
  ·by_cases f:n=bn
   ·subst f;obtain⟨hv,hp⟩:=d3 k hn;exact⟨_,Z,by rw[hv];exact Nat.zero_le _,fun _=>by rw[P];exact hp⟩
   ·by_cases o:∃(i v:Nat),ns[i]?=some (some (n,v))
    ·obtain⟨i,v,hi⟩:=o;obtain⟨sz,es,hc⟩:=A.rowOf hi;have:=c7 i n v k hi hn;exact⟨_,a0 hi hc,this.1,fun he=>by rw[Q hi];exact this.2 he⟩
    ·have t:∀(i v:Nat),ns[i]?≠some (some (n,v)):=fun i v Y=>o ⟨i,v,Y⟩;exact⟨k,by rw[b9 f t];exact hn,jLj _,fun _=>a8 f t⟩
 refine⟨g1.step c6 (fun n k hk=>?_) (fun n n' k k' r f o m1 m2 r1 r2=>?_) (fun r C hf=>?_),c6,W,Z,P⟩
 ·obtain⟨rfl,rfl⟩|⟨i,v,sz,es,f,o,rfl⟩|⟨f,o,t⟩:=M hk
  ·right;obtain⟨r,e,v,c8,p1,p2,V,p4⟩:=q1.blk 0 _ (ZX cs);obtain⟨c1,c2,c3⟩:=Yp V p4;-- the cells,by the names that they have here
   have hv:∃ys:List Value,v=.agg ys.toArray/\ys.length=cs.length/\∀(i:Nat) (c:AV) (y:Value),(G8 1 cs)[i]?=some c->ys[i]?=some y->VR w' (MM (fun r=>F r\/(Mut H ρ r/\¬Mut hin ρc r)) (Zx cs) ρ') (Zx cs) ρ' c y:=by
    unfold AV.norm at p4;split at p4
    ·rename_i y p;simp only[AV.toD] at p;split at p;case h_2=>cases p
     rename_i L X;simp only[jIj] at p;subst p;cases p4 with
     | d _ _ hd =>
      cases hd with
      | agg _ ys G Y =>
       have a9:∀(l:List AV) (L:jVj),Ju l=some L->(∀(i:Nat) (c:AV),l[i]?=some c->(∃x,c=.d x)\/∃b u,c=.own b u)->l=L.map .d:=by
        intro l;induction l with
        | nil=>intro L h _;simp only[Ju,jIj] at h;subst h;rfl
        | cons x l ih =>
         intro L h hk;simp only[Ju] at h;split at h;case h_2=>cases h
         rename_i y ys p K;simp only[jIj] at h;subst h;obtain⟨z,rfl⟩|⟨b,u,rfl⟩:=hk 0 x rfl
         ·simp only[AV.toD,jIj] at p;subst p;rw[jCj,<-ih ys K fun i c hc=>hk (i+1) c (by simpa using hc)]
         ·simp[AV.toD] at p
       have S:=a9 _ _ X fun i c hc=>by
        rw[VK] at hc;split at hc
        ·cases hc
        ·cases hc;exact .inl ⟨_,rfl⟩
        ·cases hc;exact .inr ⟨_,_,rfl⟩
       refine⟨ys,rfl,by rw[<-G,<-K8 cs 1,S,jlj],fun i c y hc p=>?_⟩;rw[S,List.getElem?_map,Option.map_eq_some_iff] at hc;obtain⟨d,hd,rfl⟩:=hc;exact .d _ _ (Y i d y hd p)
    ·cases p4 with
     | agg _ ys G Y=>exact⟨ys,rfl,by rw[<-G,K8],Y⟩
   obtain⟨ys,rfl,T,K⟩:=hv;have d8:VR w' (MM F (Uo ns n cs H) (Jp ns n ρ ρ')) (Uo ns n cs H) (Jp ns n ρ ρ') (.agg (ZH ns cs)) (.agg ys.toArray):=by
    refine .agg _ ys (by rw[X6 A,T]) fun i c y hc p=>?_;have N:i<cs.length:=by rw[<-T];exact(jGj p).1
    cases hci:cs[i] with
    | dat x =>
     have g : cs[i]?=some (.dat x):=by rw[jej N,hci]
     rw[X7 A i x g] at hc;cases hc;have:=K i (.d x) y (by rw[VK,g]) p;cases this with
     | d _ _ hd=>exact .d _ _ (hd.ext (jLj _) (fun _ _ _=>rfl) fun r _ E=>W r E)
    | row sz es =>
     have g : cs[i]?=some (.row sz es):=by rw[jej N,hci]
     obtain⟨⟨m,u⟩,hp⟩:=A.row i sz es g;rw[X5 A i m u hp] at hc;cases hc;have:=K i (.own (1+i) 0) y (by rw[VK,g]) p;cases this with
     | own _ _ k0 _ O e0 d7 d6 =>
      rw[Nat.add_comm,Kz g] at O;cases O;exact .own m u _ _ (a0 hp g) (jLj _) d7 fun _=>by rw[Q hp,<-Nat.add_comm 1 i];exact d6 rfl
   have c5:Vw (ZH ns cs)=true:=by
    have:∀(l:List AV),(∀(i:Nat) (c:AV),l[i]?=some c->c.isOne=true)->Vw l=true:=by
     intro l;induction l with
     | nil=>intro _;rfl
     | cons x l ih=>intro h;simp only[Vw,jAj];exact⟨h 0 x rfl,ih fun i c hc=>h (i+1) c (by simpa using hc)⟩
    refine this _ fun i c hc=>?_;have N:i<cs.length:=by rw[<-X6 A];exact(jGj hc).1
    cases hci:cs[i] with
    | dat x =>
     have g : cs[i]?=some (.dat x):=by rw[jej N,hci]
     rw[X7 A i x g] at hc;cases hc;-- it is one cell of the object
     have b8:(G8 1 cs)[i]?=some (.d x):=by rw[VK,g]
     have h0:Vw c8=true:=c2;unfold AV.norm at V;split at V
     ·rename_i y p;simp only[AV.toD] at p;split at p;case h_2=>cases p
      rename_i L X;simp only[jIj] at p;subst p;have d4:=KX V;have d5:L[i]?=some x:=by
       have a9:∀(l:List AV) (L:jVj) (i:Nat),Ju l=some L->l[i]?=some (.d x)->L[i]?=some x:=by
        intro l;induction l with
        | nil=>intro L i _ h;simp at h
        | cons z l ih =>
         intro L i h hi;simp only[Ju] at h;split at h;case h_2=>cases h
         rename_i y ys p K;simp only[jIj] at h;subst h;cases i with
         | zero=>simp only[jzj,jIj] at hi ⊢;subst hi;simp only[AV.toD,jIj] at p;exact p.symm
         | succ i=>simpa using ih ys i K (by simpa using hi)
       exact a9 _ _ i X b8
      refine Yi h0 (j:=i) ?_;rw[d4];simp only[SX.D.cells,List.getElem?_map,d5,Option.map_some]
     ·simp only[AV.cells] at V;split at V
      ·cases V;exact Yi h0 b8
      ·cases V
    | row sz es =>
     have g : cs[i]?=some (.row sz es):=by rw[jej N,hci]
     obtain⟨⟨m,u⟩,hp⟩:=A.row i sz es g;rw[X5 A i m u hp] at hc;cases hc;rfl
   obtain⟨c9,b7⟩:=Option.isSome_iff_exists.1 (zW c5);exact⟨r,e,.agg ys.toArray,c9,by rw[P];exact p1,p2,b7,Ug d8⟩
  ·right;have h0:RowV w' _ (ρ' (i+1)) sz es:=q1.blk (i+1) _ (Kz o);have t:RowV w' (MM F (Uo ns bn cs H) (Jp ns bn ρ ρ')) (ρ' (i+1)) sz es:=h0.sub fun r _ E=>W r E;rw[<-Q f] at t;exact t
  ·refine .inl ⟨t,a8 f o,fun G r C=>?_⟩;refine q2.same r ((g1.blk n k t).root_lt G C) fun E=>?_;obtain J|⟨i,v,J⟩:=U n k r t G C E
   ·exact f J
   ·exact o i v J
 ·obtain⟨a,⟨ka,a1,a2⟩,a3,a4,a5⟩|⟨a1,a2,a3,a4,a5,a6⟩:=s f m1 r1<;>obtain⟨b,⟨kb,b1,b2⟩,b3,b4,b5⟩|⟨b1,b2,b3,b4,b5,b6⟩:=s o m2 r2
  ·have d1:=q1.inj a b ka kb r a1 b1 a2 b2 a3 b3;subst d1;obtain⟨rfl,rfl⟩|⟨i,v,hi,rfl⟩:=a5<;>obtain⟨rfl,O⟩|⟨j,u,hj,O⟩:=b5
   ·rfl
   ·omega
   ·omega
   ·have:i=j:=by omega
    subst this;rw[hi] at hj;cases hj;rfl
  ·exact absurd (q3 r (g1.mut_lt b5) a4) b6
  ·exact absurd (q3 r (g1.mut_lt a5) b4) a6
  ·exact g1.inj n n' k k' r a3 b3 m1 m2 a4 b4
 ·obtain⟨n,k,f,o,t⟩:=C
  obtain⟨m,_,_,E,_⟩|⟨_,_,_,_,J,_⟩:=s f o t
  ·exact q1.forb r E (.inl hf)
  ·exact g1.forb r J hf
section
variable {cx:Cx}{F:Nat->Prop}{hp:List (Nat×Blk)}{ρ:Nat->Value}{w:World}{a:Act}{sym:Bool}{orc:List Orc}
theorem QgW {M:Nat->Prop}{x:AV}{v:Value}(h:VR w M hp ρ x v):VR w M hp ρ (Qir x) v:=by
 cases x with
 | d y =>
  cases y with
  | ref y o =>
   cases h with
   | d _ _ c =>
    obtain⟨blk,o',rfl,b⟩:=c.ref_dat;exact .dptr y o blk o' b
  | _=>exact h
 | _=>exact h
theorem jX (h:HSim cx F hp ρ w){tm:List (Nat×AV)}(c:TSim F tm hp ρ a w)(x:Operand):VR w (MM F hp ρ) hp ρ (evA cx tm x) (a.eval x):=by
 cases x with
 | tmp t =>
  simp only[evA];split
  ·rename_i y b;exact QgW (c t y b)
  ·exact .junk _
 | const v=>exact G7 _ _ _ _ v
 | global g =>
  simp only[evA];split
  ·rename_i y b;exact .dptr y 0 g 0 (h.glob g y b).1
  ·exact .junk _
 | func f=>exact .d _ _ (.fn _ [] [] [] [] rfl rfl (by simp) (by simp))
theorem Ga {b:Type}(xs:Array b)(i:Nat):nth xs.toList i=xs[i]?:=by rw[ZY];simp
theorem KS {tm:List (Nat×AV)}(p:TSim F tm hp ρ a w){ops:Array Oper}{o:Oper}{b:Bool}(h:GM ops tm o=some b):Region.wanted o (yielded ops a.tmps)=b:=by
 unfold GM at h;unfold Region.wanted;split at h
 ·rename_i n;rw[n];simpa using h
 ·rename_i j l n;rw[n];simp only;rw[Ga] at h;split at h
  ·rename_i m;simp only[jIj] at h;subst h;simp[yielded,m]
  ·rename_i g m;split at h
   ·rename_i f;simp only[jIj] at h;subst h;simp[yielded,m,f]
   ·rename_i d f;have i:∀v,a.tmps.getD d undef=v->yielded ops a.tmps j=(match v with | .bool b=>some b|_=>none):=by
     intro v e;simp only[yielded,m,jBj,f];rw[Array.getD_eq_getD_getElem?] at e;cases hx:a.tmps[d]? with
     | none=>rw[hx] at e;simp at e;subst e;rfl
     | some u=>rw[hx] at e;simp at e;subst e;cases u<;>rfl
    split at h
    ·rename_i c k;simp only[jIj] at h;subst h;have:=wu (p d _ k);rw[i _ this];simp only;cases c<;>cases l<;>rfl
    ·rename_i c k;simp only[jIj] at h;subst h;have:=wu (p d _ k);rw[i _ this];rfl
    ·rename_i c k;simp only[jIj] at h;subst h;have f:=p d _ k;generalize e:a.tmps.getD d undef=v at f;cases f with
     | d _ _ f =>
      cases f with
      | tup=>rw[i _ e];rfl
    ·cases h
theorem TSim.put {F:Nat->Prop}{tm:List (Nat×AV)}(d:TSim F tm hp ρ a w){t:Nat}{x:AV}{v:Value}(e:VR w (MM F hp ρ) hp ρ x v)(c:t<a.tmps.size):TSim F ((t,x)::tm) hp ρ (a.put (some t) v) w:=by
 intro u y b;by_cases h:t=u
 ·subst h;rw[Qf] at b;cases b;simp only[Act.put];rw[Array.getD_eq_getD_getElem?,Array.getElem?_setIfInBounds,jTj rfl,jTj c];exact e
 ·rw[Qc _ _ h] at b;simp only[Act.put];rw[Array.getD_eq_getD_getElem?,Array.getElem?_setIfInBounds,jFj h,<-Array.getD_eq_getD_getElem?];exact d u y b
theorem Qdm (a:Act)(d:Option Tmp)(v:Value):(a.put d v).tmps.size=a.tmps.size:=by cases d<;>simp[Act.put]
theorem UQ (a:Act)(d:Option Tmp)(v:Value):(a.put d v).defers=a.defers:=by cases d<;>rfl
theorem jD {s s' : St}{d:Option Tmp}{x:AV}{v:Value}(h:s.put d x=some s')(c:Sim cx F s ρ a w)(f:VR w (MM F s.hp ρ) s.hp ρ x v):Sim cx F s' ρ (a.put d v) w:=by
 unfold St.put at h;split at h
 ·simp only[jIj] at h;subst h;exact c
 ·rename_i t;split at h<;>simp only[jIj,reduceCtorEq] at h;rename_i e;subst h;have b : t<s.nt:=by simpa using e
  exact⟨c.hs,c.ts.put f (by rw[c.nt];exact b),by rw[Qdm];exact c.nt⟩
def _root_.Go.SX.St.nr (s:St):Nat×Bool:=(s.nt,s.rnd)
theorem wF {a b:St}(h:a.nr=b.nr):a.nt=b.nt:=(Prod.mk.inj h).1
theorem Qca {a b:St}(h:a.nr=b.nr):a.rnd=b.rnd:=(Prod.mk.inj h).2
theorem Uw {s s' : St}{d:Option Tmp}{x:AV}(h:s.put d x=some s'):s'.hp=s.hp/\s'.ob=s.ob/\s'.vis=s.vis/\s'.nr=s.nr/\s'.sfx=s.sfx:=by
 unfold St.put at h;split at h
 ·simp only[jIj] at h;subst h;exact⟨rfl,rfl,rfl,rfl,rfl⟩
 ·split at h<;>simp only[jIj,reduceCtorEq] at h;subst h;exact⟨rfl,rfl,rfl,rfl,rfl⟩
theorem Eb {x y:AV}{ob:List Prop}{o' : List Orc}(h:litB sym orc x=some (y,ob,o'))(d:∀p,p∈ob->p){M:Nat->Prop}{v:Value}(c:VR w M hp ρ x v):VR w M hp ρ y v:=by
 unfold litB at h;split at h
 ·rename_i b;split at h
  ·simp only[jIj,jPj] at h;obtain⟨rfl,rfl,rfl⟩:=h;have:=d _ jMj;subst this;exact c
  ·split at h<;>(simp only[jIj,jPj] at h;obtain⟨rfl,rfl,rfl⟩:=h;exact c)
  ·cases h
 ·simp only[jIj,jPj] at h;obtain⟨rfl,rfl,rfl⟩:=h;exact c
def QaB (cx:Cx)(call:Jt):Prop :=
 ∀(keepable:Bool) (H:List (Nat×Blk)) (g:Nat) (sym:Bool) (orc:List Orc) (f:FuncId) (b:List AV) (d:RC),call keepable H g sym orc f b=some d->(∀p,p∈d.ob->p) ->
  ∀(F:Nat->Prop) (ρ:Nat->Value) (w:World) (vs:List Value),HSim cx F H ρ w->b.length=vs.length ->
  (∀(i:Nat) (c:AV) (y:Value),b[i]?=some c->vs[i]?=some y->VR w (MM F H ρ) H ρ c y) ->
  (∃v,(callFunc f vs.toArray).run cx.P w=.ok (.value v) w/\d.full=none/\d.up=[]/\VR w (MM F H ρ) H ρ d.val v) \/
  ((callFunc f vs.toArray).run cx.P w=.ok (.enter f vs.toArray) w/\Calls cx.P f vs.toArray w fun e w'=>∃v,e=.returned v/\∃ρ',HSim cx F (d.heap H) ρ' w'/\Steps1 H ρ w (d.heap H) ρ' w'/\VR w' (MM F (d.heap H) ρ') (d.heap H) ρ' d.val v)
def zj (call:Jt):Prop :=
 ∀(keepable:Bool) (H:List (Nat×Blk)) (d:Nat) (sym:Bool) (orc:List Orc) (f:FuncId) (b:List AV) (c:RC),call keepable H d sym orc f b=some c->c.sfx=true->∀h,c.full=some h->∃new,h=new++H
theorem GY {o:Oper}{c:Operand}{args:List Operand}(h:Jf o=some (c,args)):∃ats,o.op=.call { callee:=.value c,args:=args.toArray,argTypes:=ats }:=by
 unfold Jf at h;split at h
 ·rename_i f d ats b;simp only[jIj,jPj] at h;obtain⟨rfl,rfl⟩:=h;exact⟨ats,by rw[b]⟩
 ·cases h
theorem KY {M:Nat->Prop}{x:AV}{v:Value}{f:FuncId}{p q:List AV}(h:GX x=some (f,p,q))(g:VR w M hp ρ x v) :
  ∃xs ys:List Value,v=.func (.func f) xs.toArray ys.toArray/\p.length=xs.length/\q.length=ys.length /\
   (∀(i:Nat) (c:AV) (y:Value),p[i]?=some c->xs[i]?=some y->VR w M hp ρ c y)/\(∀(i:Nat) (c:AV) (y:Value),q[i]?=some c->ys[i]?=some y->VR w M hp ρ c y):=by
 have up:∀(l:jVj) (ys:List Value),(∀(i:Nat) (c:D) (y:Value),l[i]?=some c->ys[i]?=some y->DR w M c y)->∀(i:Nat) (c:AV) (y:Value),(l.map AV.d)[i]?=some c->ys[i]?=some y->VR w M hp ρ c y:=by
  intro l ys e i c y hc m;simp only[List.getElem?_map] at hc;cases b:l[i]? with
  | none=>rw[b] at hc;cases hc
  | some d=>rw[b] at hc;simp only[Option.map_some,jIj] at hc;subst hc;exact .d _ _ (e i d y b m)
 unfold GX at h;split at h
 ·simp only[jIj,jPj] at h;obtain⟨rfl,rfl,rfl⟩:=h;cases g with
  | fn _ _ _ xs ys b k e j=>exact⟨xs,ys,rfl,b,k,e,j⟩
 ·simp only[jIj,jPj] at h;obtain⟨rfl,rfl,rfl⟩:=h;cases g with
  | d _ _ g =>
  cases g with
  | fn _ _ _ xs ys b k e j=>exact⟨xs,ys,rfl,by simpa using b,by simpa using k,up _ _ e,up _ _ j⟩
 ·cases h
theorem VV {o:Oper}{p:Operand×List Operand}(h:Jf o=some p):∀c,o.op≠.defer c:=by obtain⟨e,d⟩:=p;obtain⟨ats,b⟩:=GY h;intro c hc;rw[b] at hc;cases hc
theorem yq {cx sym orc hp name b o r}(h:aop cx sym orc hp name b o=some r):∀c,o.op≠.defer c:=by intro c hc;unfold aop at h;rw[hc] at h;cases h
theorem Qah {P:Program}{f:FuncId}{b:Array Value}{w:World}{R:Ending->World->Prop}{m:Nat}(r:Option Nat)(h:Calls P f b w R):CallsIn (fen r) m P f b w R:=by
 cases r with
 | none=>exact callsIn_wide.2 h
 | some l=>exact CallsIn.inRound l (callsIn_wide.2 h)
theorem jb {o:Oper}{e:Operand}{b:List Operand}(c:Jf o=some (e,b)){f:FuncId}{xs ys:List Value}(g:a.eval e=.func (.func f) xs.toArray ys.toArray)(P:Program)(w:World) :
  (execOp a.eval o).run P w=(callFunc f (xs++b.map a.eval++ys).toArray).run P w:=by
 obtain⟨ats,d⟩:=GY c;simp only[execOp,d,resolve,g,Deferred.ofValue,pure_bind,invoke];congr 2
 simp
theorem wx {M:Nat->Prop}{p m q:List AV}{xs ms ys:List Value}(e:p.length=xs.length)(n:m.length=ms.length)(o:q.length=ys.length)
  (j:∀(i:Nat) (c:AV) (y:Value),p[i]?=some c->xs[i]?=some y->VR w M hp ρ c y) (k:∀(i:Nat) (c:AV) (y:Value),m[i]?=some c->ms[i]?=some y->VR w M hp ρ c y)
  (l:∀(i:Nat) (c:AV) (y:Value),q[i]?=some c->ys[i]?=some y->VR w M hp ρ c y) :
  (p++m++q).length=(xs++ms++ys).length/\∀(i:Nat) (c:AV) (y:Value),(p++m++q)[i]?=some c->(xs++ms++ys)[i]?=some y->VR w M hp ρ c y:=by
 have app:∀(p m:List AV) (xs ms:List Value),p.length=xs.length->(∀(i:Nat) (c:AV) (y:Value),p[i]?=some c->xs[i]?=some y->VR w M hp ρ c y) ->
   (∀(i:Nat) (c:AV) (y:Value),m[i]?=some c->ms[i]?=some y->VR w M hp ρ c y)->∀(i:Nat) (c:AV) (y:Value),(p++m)[i]?=some c->(xs++ms)[i]?=some y->VR w M hp ρ c y:=by
  intro p m xs ms f d g i c y hc b;by_cases h:i<p.length
  ·rw[List.getElem?_append_left h] at hc;rw[List.getElem?_append_left (by omega)] at b;exact d i c y hc b
  ·rw[List.getElem?_append_right (by omega)] at hc;rw[List.getElem?_append_right (by omega)] at b;rw[f] at hc;exact g _ c y hc b
 exact⟨by simp;omega,app _ _ _ _ (by simp;omega) (app _ _ _ _ e j k) l⟩
theorem Uj {ops:Array Oper}{i:Nat}{o:Oper}{s s' : St}{x:AV}{b : List (Nat×Blk)}{u:Nat}{orc:List Orc}{ob:List Prop}{r:Bool}(h:Ee ops i o s x b u orc ob r=some s')(c:∀p,p∈s'.ob->p) :
  (∀p,p∈ob->p)/\(∀p,p∈s.ob->p)/\s'.hp=b/\s'.vis=s.vis/\s'.nr=s.nr/\(s'.sfx=true->s.sfx=true/\r=true) /\
  ∀(v:Value),HSim cx F b ρ w->TSim F s.tm b ρ a w->a.tmps.size=s.nt->VR w (MM F b ρ) b ρ x v->Sim cx F s' ρ (a.put o.dst v) w:=by
 unfold Ee at h;split at h
 ·split at h;case h_2=>cases h
  rename_i y z A t;obtain⟨d,e,f,g,j⟩:=Uw h;simp only at d e f g j;rw[e] at c;refine⟨fun p hp=>c p (by simp[hp]),fun p hp=>c p (by simp[hp]),d,f,g,fun k=>by rw[j] at k;simpa using k,fun v l m n q=>?_⟩;exact jD h ⟨l,m,n⟩ (Eb t (fun p hp=>c p (by simp[hp])) q)
 ·obtain⟨d,e,f,g,j⟩:=Uw h;simp only at d e f g j;rw[e] at c;refine⟨fun p hp=>c p (by simp[hp]),fun p hp=>c p (by simp[hp]),d,f,g,fun k=>by rw[j] at k;simpa using k,fun v l m n q=>?_⟩;exact jD h ⟨l,m,n⟩ q
def jm (cx:Cx)(j:Uu):Prop :=
 ∀(H:List (Nat×Blk)) (h:Nat) (sym:Bool) (orc:List Orc) (b ver:Nat) (f:List AV) (g:RC),j H h sym orc b ver f=some g->(∀p,p∈g.ob->p) ->
  ∀(rr:Option Nat) (m:Nat) (F:Nat->Prop) (ρ:Nat->Value) (w:World) (vs:List Value),HSim cx F H ρ w->f.length=vs.length ->
  (∀(i:Nat) (c:AV) (y:Value),f[i]?=some c->vs[i]?=some y->VR w (MM F H ρ) H ρ c y) ->
  (∃k,look H b=some k/\ver=k.ver)/\∃(l:Nat) (d:Loop),ρ b=.func (.yield l) #[] #[]/\w.heap[l]?=some (.loop d)/\d.params.size=vs.length /\
   RoundIn (fen rr) m cx.P l d.fn ((d.params.zip vs.toArray).foldl (fun tmps (t,a)=>tmps.setIfInBounds t a) d.tmps) d.assign d.body w fun e w' =>
    ∃v,e=.returned v/\∃ρ',HSim cx F (g.heap H) ρ' w'/\Steps1 H ρ w (g.heap H) ρ' w'/\VR w' (MM F (g.heap H) ρ') (g.heap H) ρ' g.val v
theorem yT {x:AV}{b ver:Nat}(h:yI x=some (b,ver)):x=.own b ver:=by
 unfold yI at h;split at h
 ·simp only[jIj,jPj] at h;obtain⟨rfl,rfl⟩:=h;rfl
 ·cases h
theorem QaV {o:Oper}{e:Operand}{b:List Operand}(c:Jf o=some (e,b)){l:Nat}(f:a.eval e=.func (.yield l) #[] #[])(P:Program)(w:World) :
  (execOp a.eval o).run P w=(Instr.yield l (b.map a.eval).toArray).run P w:=by
 obtain⟨ats,d⟩:=GY c;simp only[execOp,d,resolve,f,Deferred.ofValue,pure_bind,invoke];congr 2
 simp
theorem Qb0 {rr:Option Nat}{m:Nat}{call:Jt}(W:QaB cx call){yc:Uu}(a9:jm cx yc){ops:Array Oper}{base:Nat}{Q:Exit->Act->World->Prop}(l:List Nat):∀(s s' : St) (ρ:Nat->Value) (a:Act) (w:World),UZ cx call yc ops base l s=some s'->(∀p,p∈s'.ob->p) ->
  Sim cx F s ρ a w->(∀ρ' u w',Sim cx F s' ρ' u w'->Steps1 s.hp ρ w s'.hp ρ' w'->u.defers=a.defers->Q .normal u w')->wpOpsIn (fen rr) m cx.P ops Q l a w:=by
 induction l with
 | nil =>
  intro s s' ρ a w h J g Z;simp only[UZ,jIj] at h;subst h;exact Z ρ a w g (Steps1.refl _ _ _) rfl
 | cons i l ih =>
  intro s s' ρ a w h J g Z;simp only[UZ] at h;split at h;case h_2=>cases h
  rename_i s1 n;have a6:∀{s s' : St},UZ cx call yc ops base l s=some s'->(∀p,p∈s'.ob->p)->∀p,p∈s.ob->p:=by
   intro s s';clear ih h n;induction l generalizing s with
   | nil=>intro h J;simp only[UZ,jIj] at h;subst h;exact J
   | cons j l ihl =>
    intro h J;simp only[UZ] at h;split at h;case h_2=>cases h
    rename_i s2 z;have L:=ihl h J;unfold qN at z;split at z
    ·cases z
    split at z
    ·cases z
    ·obtain⟨_,e2,_⟩:=Uw z;rw[e2] at L;exact L
    ·split at z
     ·split at z
      ·split at z
       ·cases z
       exact(Uj (cx:=cx) (F:=F) (ρ:=ρ) (w:=w) (a:=a) z L).2.1
      split at z
      ·cases z
      split at z
      ·cases z
      exact(Uj (cx:=cx) (F:=F) (ρ:=ρ) (w:=w) (a:=a) z L).2.1
     ·split at z
      ·cases z
      exact(Uj (cx:=cx) (F:=F) (ρ:=ρ) (w:=w) (a:=a) z L).2.1
  have Y:=a6 h J;unfold qN at n;rw[Ga] at n;simp only[wpOpsIn];split at n
  ·cases n
  rename_i o a7;rw[a7];simp only;split at n
  ·cases n
  ·-- passed Ky
   rename_i a1;rw[KS g.ts a1];simp only[Bool.false_eq_true,if_false];obtain⟨e1,_⟩:=Uw n;refine⟨fun _ _=>trivial,ih s1 s' ρ _ w h J (jD n g (.d _ _ (.v _))) fun ρ' u w' E c A=>Z ρ' u w' E ?_ (A.trans (UQ _ _ _))⟩;rw[e1] at c;exact c
  ·rename_i a1;rw[KS g.ts a1];simp only[if_true];split at n
   ·-- a call
    rename_i fv S N;split at n
    ·-- yield
     rename_i b ver b2;split at n
     ·cases n
     rename_i rc a0;have hev:=jX g.hs g.ts;obtain⟨l2,k2⟩:=GT hev S;have C:=fun ρ' (u : Act) w'=>Uj (cx:=cx) (F:=F) (ρ:=ρ') (w:=w') (a:=u) n Y;obtain⟨⟨k,hk,a4⟩,ly,b4,b3,hl,a8,O⟩:=a9 _ _ _ _ _ _ _ rc a0 (C ρ a w).1 rr (m - 1) F ρ w _ g.hs l2 k2;have X:=hev fv;rw[yT b2] at X;have hv:a.eval fv=.func (.yield ly) #[] #[]:=by
      generalize a.eval fv=y at X;cases X with
      | own _ _ k' _ hb hv J h =>
       rw[hk] at hb;cases hb;rw[h a4,b3]
     rw[Oper.wpIn,Oper.semAt_eq _ _ _ (VV N),QaV N hv,run_yield hl (by simpa using a8.symm)];refine⟨fun _ _=>trivial,?_⟩;rw[Oper.uponIn_round];refine⟨fun h=>(by cases h),O.mono ?_⟩;rintro e w' ⟨v,rfl,ρ',g1,V,g3⟩;obtain⟨_,_,T,_,_,_,U⟩:=C ρ' a w';refine ih s1 s' ρ' _ w' h J (U v g1 (fun t x hx=>V.vr (g.ts t x hx)) g.nt g3) fun H u M E c A=>Z H u M E ?_ (A.trans (UQ _ _ _));rw[T] at c;exact V.trans c
    split at n
    ·cases n
    rename_i f p q a5;split at n
    ·cases n
    rename_i rc a0;have hev:=jX g.hs g.ts;obtain⟨xs,ys,hv,l1,l3,k1,k3⟩:=KY a5 (hev fv);obtain⟨l2,k2⟩:=GT hev S;obtain⟨l4,k4⟩:=wx l1 l2 l3 k1 k2 k3;have C:=fun ρ' (u : Act) w'=>Uj (cx:=cx) (F:=F) (ρ:=ρ') (w:=w') (a:=u) n Y;have a2:=W _ _ _ _ _ _ _ rc a0 (C ρ a w).1 F ρ w _ g.hs l4 k4;rw[Oper.wpIn,Oper.semAt_eq _ _ _ (VV N),jb N hv];refine⟨fun _ _=>trivial,?_⟩;obtain⟨v,r1,r2,r3,r4⟩|⟨r1,r2⟩:=a2
    ·rw[r1];simp only[Oper.uponIn];have hh:rc.heap s.hp=s.hp:=by rw[RC.heap,r2,r3];rfl
     obtain⟨_,_,T,_,_,_,U⟩:=C ρ a w;rw[hh] at U T;refine ih s1 s' ρ _ w h J (U v g.hs g.ts g.nt r4) fun ρ' u w' E c A=>Z ρ' u w' E ?_ (A.trans (UQ _ _ _));rw[T] at c;exact c
    ·rw[r1];simp only[Oper.uponIn];refine⟨fun h=>(by cases h),Qah rr (r2.mono ?_)⟩;rintro e w' ⟨v,rfl,ρ',g1,V,g3⟩;obtain⟨_,_,T,_,_,_,U⟩:=C ρ' a w';refine ih s1 s' ρ' _ w' h J (U v g1 (fun t x hx=>V.vr (g.ts t x hx)) g.nt g3) fun H u M E c A=>Z H u M E ?_ (A.trans (UQ _ _ _));rw[T] at c;exact V.trans c
   ·-- another operation
    split at n
    ·cases n
    rename_i r hr;have C:=fun ρ' (u : Act) w'=>Uj (cx:=cx) (F:=F) (ρ:=ρ') (w:=w') (a:=u) n Y;obtain⟨v,w',G,ρ',g1,V,g3⟩:=QbK g.hs (fun _=>rfl) (jX g.hs g.ts) hr (C ρ a w).1;obtain⟨_,_,T,_,_,_,U⟩:=C ρ' a w';have a3:=U v g1 (fun t x hx=>V.vr (g.ts t x hx)) g.nt g3;have K:wpOpsIn (fen rr) m cx.P ops Q l (a.put o.dst v) w':=by refine ih s1 s' ρ' _ w' h J a3 fun H u M E c A=>Z H u M E ?_ (A.trans (UQ _ _ _));rw[T] at c;exact V.trans c
    unfold Oper.wpIn;rw[Oper.semAt_eq _ _ _ (yq hr)];refine⟨fun _ _=>trivial,?_⟩;obtain G|⟨G,rfl⟩:=G
    ·rw[G];exact K
    ·rw[G];exact K
end
section
variable {cx:Cx}{H G:List (Nat×Blk)}{sym:Bool}{orc:List Orc}{ev ev' : Operand->AV}
def SubH (H G:List (Nat×Blk)):Prop:=∀b k,look H b=some k->look G b=some k
mutual
theorem Kv (hs:SubH H G):∀(x:AV) (y:D) (fs:List Nat),x.toDH H=some (y,fs)->x.toDH G=some (y,fs)/\∀b,b∈fs->∃k,look H b=some k
 | .d x,y,fs,h=>by simp only[AV.toDH,jIj,jPj] at h ⊢;obtain⟨rfl,rfl⟩:=h;simp
 | .agg cs,y,fs,h=>by simp only[AV.toDH] at h ⊢;split at h<;>simp only[jIj,reduceCtorEq,jPj] at h;rename_i l fs' hl;obtain⟨rfl,rfl⟩:=h;obtain⟨h1,h2⟩:=J1 hs cs l fs' hl;rw[h1];exact⟨rfl,h2⟩
 | .tup cs,y,fs,h=>by simp only[AV.toDH] at h ⊢;split at h<;>simp only[jIj,reduceCtorEq,jPj] at h;rename_i l fs' hl;obtain⟨rfl,rfl⟩:=h;obtain⟨h1,h2⟩:=J1 hs cs l fs' hl;rw[h1];exact⟨rfl,h2⟩
 | .fn f a b,y,fs,h=>by
  simp only[AV.toDH] at h ⊢;split at h<;>simp only[jIj,reduceCtorEq,jPj] at h;rename_i x1 f1 y1 f2 hx1 hy1;obtain⟨rfl,rfl⟩:=h;obtain⟨h1,h2⟩:=J1 hs a x1 f1 hx1;obtain⟨h3,h4⟩:=J1 hs b y1 f2 hy1;rw[h1,h3];refine⟨rfl,fun c hc=>?_⟩;obtain hc|hc:=List.mem_append.1 hc
  ·exact h2 c hc
  ·exact h4 c hc
 | .own b ver,y,fs,h=>by
  simp only[AV.toDH] at h ⊢;cases hb:look H b with
  | none=>rw[hb] at h;cases h
  | some k =>
   rw[hs b k hb];rw[hb] at h;refine⟨h,?_⟩;cases k with
   | box _=>simp at h
   | loop _ _ _ _ _ _=>simp at h
   | mp es =>
    simp only at h;split at h<;>simp only[jIj,reduceCtorEq,jPj] at h;obtain⟨rfl,rfl⟩:=h;intro c hc;simp only[List.mem_singleton] at hc;subst hc;exact⟨_,hb⟩
   | it _ _=>simp at h
   | fbox _=>simp at h
   | left _=>simp at h
   | dead=>simp at h
   | row v s e =>
    simp only at h;split at h<;>simp only[jIj,reduceCtorEq,jPj] at h;obtain⟨rfl,rfl⟩:=h;intro c hc;simp only[List.mem_singleton] at hc;subst hc;exact⟨_,hb⟩
   | frozen v s e =>
    simp only at h;split at h<;>simp only[jIj,reduceCtorEq,jPj] at h;obtain⟨rfl,rfl⟩:=h;simp
   | virt v s e =>
    simp only at h;split at h<;>simp only[jIj,reduceCtorEq,jPj] at h;obtain⟨rfl,rfl⟩:=h;simp
 | .dptr _ _,y,fs,h=>by simp only[AV.toDH,jIj,jPj] at h ⊢;obtain⟨rfl,rfl⟩:=h;simp
 | .ptr b ver sz i off,y,fs,h=>by
  simp only[AV.toDH] at h ⊢;split at h;case h_2=>cases h
  rename_i hc;split at h;case h_2=>cases h
  rename_i k hk;rw[hs b k hk];dsimp only;refine⟨h,?_⟩;split at h
  ·simp only[jIj,jPj] at h;obtain⟨rfl,rfl⟩:=h;intro c hc;simp only[List.mem_singleton] at hc;subst hc;exact⟨k,hk⟩
  ·simp only[jIj,jPj] at h;obtain⟨rfl,rfl⟩:=h;intro c hc;cases hc
  ·cases h
 | .sub _ _ _ _ _,y,fs,h=>by simp[AV.toDH] at h
 | .junk,y,fs,h=>by simp[AV.toDH] at h
theorem J1 (hs:SubH H G):∀(cs:List AV) (l:jVj) (fs:List Nat),Kr H cs=some (l,fs)->Kr G cs=some (l,fs)/\∀b,b∈fs->∃k,look H b=some k
 | [],l,fs,h=>by simp only[Kr,jIj,jPj] at h ⊢;obtain⟨rfl,rfl⟩:=h;simp
 | x::cs,l,fs,h=>by
  simp only[Kr] at h ⊢;split at h<;>simp only[jIj,reduceCtorEq,jPj] at h;rename_i y1 f1 l1 f2 h1 h2;obtain⟨rfl,rfl⟩:=h;obtain⟨g1,g2⟩:=Kv hs x y1 f1 h1;obtain⟨g3,g4⟩:=J1 hs cs l1 f2 h2;rw[g1,g3];refine⟨rfl,fun c hc=>?_⟩;obtain hc|hc:=List.mem_append.1 hc
  ·exact g2 c hc
  ·exact g4 c hc
end
theorem Vu (e:SubH H G)(a:List Nat)(h:∀b,b∈a->∃k,look H b=some k):Qd G a=Qd H a:=by
 induction a with
 | nil=>rfl
 | cons b l ih =>
  obtain⟨k,d⟩:=h b jMj;simp only[Qd,d,e b _ d,ih fun c hc=>h c (jmj _ hc)]
theorem Xw (a:SubH H G){b ver:Nat}(h:El H b ver=true):El G b ver=true:=by
 unfold El at h ⊢;cases hb:look H b with
 | none=>rw[hb] at h;cases h
 | some k=>rw[hb] at h;rw[a b k hb];exact h
theorem QgY (c:SubH H G){b ver:Nat}(h:El H b ver=true):look G b=look H b:=by
 unfold El at h;split at h
 ·rename_i k a;rw[a];exact c b k a
 ·cases h
theorem Qd0 (a:SubH H G){x:AV}{es:jVj}(h:Ka H x=some es):Ka G x=some es:=by
 unfold Ka at h ⊢;split at h
 ·exact h
 ·rename_i b ver;cases hb:look H b with
  | none=>rw[hb] at h;cases h
  | some k=>rw[hb] at h;simp only[a b k hb];exact h
 ·split at h;case h_2=>cases h
  rename_i hc;rw[Xw a hc];exact h
 ·cases h
theorem qB (e:SubH H G){x:AV}{q:Nat×jVj×List Nat}(h:UL H x=some q):UL G x=some q/\∀b,b∈q.2.2->∃k,look H b=some k:=by
 unfold UL at h ⊢;split at h
 ·rename_i f sz es g d;obtain⟨a,c⟩:=Kv e _ _ _ d;rw[a];simp only[jIj] at h;subst h;exact⟨rfl,c⟩
 ·cases h
theorem uz (a:SubH H G){b:Nat}{x:SX.D}(h:zA H b=some x):zA G b=some x:=by
 unfold zA at h ⊢;cases hb:look H b with
 | none=>rw[hb] at h;cases h
 | some k=>rw[hb] at h;rw[a b k hb];exact h
theorem Qhi (a:SubH H G){x:AV}{y:SX.D}{off:Nat}(h:unf H x=.dptr y off):unf G x=.dptr y off:=by
 cases x with
 | ptr b ver sz i o =>
  have h:unfP H b ver sz i o=.dptr y off:=h;show unfP G b ver sz i o=.dptr y off;unfold unfP at h ⊢;cases hl:zA H b with
  | none=>rw[hl] at h;cases h
  | some x=>rw[hl] at h;rw[uz a hl];exact h
 | d _=>exact h
 | agg _=>exact h
 | tup _=>exact h
 | dptr _ _=>exact h
 | own _ _=>exact h
 | sub _ _ _ _ _=>exact h
 | fn _ _ _=>exact h
 | junk=>exact h
theorem QiJ (e:SubH H G){x:AV}{b ver sz i off:Nat}{q:AV×List Prop×List Orc}(h:unf H x=.ptr b ver sz i off)(c:KZ sym orc H b ver sz i=some q):unf G x=.ptr b ver sz i off:=by
 cases x with
 | ptr b' ver' a f o =>
  have h:unfP H b' ver' a f o=.ptr b ver sz i off:=h;show unfP G b' ver' a f o=.ptr b ver sz i off;unfold unfP at h ⊢;cases hf:zA H b' with
  | some x=>rw[hf] at h;rw[uz e hf];exact h
  | none =>
   rw[hf] at h;simp only[AV.ptr.injEq] at h;obtain⟨rfl,rfl,rfl,rfl,rfl⟩:=h;have:zA G b'=none:=by
    unfold KZ at c;unfold zA at hf ⊢;cases hb:look H b' with
    | none=>rw[hb] at c;cases c
    | some k=>rw[hb] at hf;rw[e b' k hb];exact hf
   rw[this]
 | d _=>exact h
 | agg _=>exact h
 | tup _=>exact h
 | dptr _ _=>exact h
 | own _ _=>exact h
 | sub _ _ _ _ _=>exact h
 | fn _ _ _=>exact h
 | junk=>exact h
theorem Qcz (a:SubH H G){b ver sz i:Nat}{q:AV×List Prop×List Orc}(h:KZ sym orc H b ver sz i=some q):KZ sym orc G b ver sz i=some q:=by
 unfold KZ at h ⊢;cases hb:look H b with
 | none=>rw[hb] at h;cases h
 | some k=>rw[hb] at h;rw[a b k hb];exact h
theorem XF (a:SubH H G){t:TypeId}{x:AV}{i:Int}{r:R}(h:VT cx sym orc H t x i=some r):VT cx sym orc G t x i=some r:=by
 unfold VT at h ⊢;split at h
 ·split at h;case h_2=>cases h
  split at h
  ·split at h;case h_2=>cases h
   rename_i hc;simp only[Xw a hc];exact h
  ·exact h
  ·cases h
 ·split at h
  ·cases h
  split at h
  ·rename_i b ver;cases hb:look H b with
   | none=>rw[hb] at h;cases h
   | some k=>rw[hb] at h;simp only[a b k hb];exact h
  ·exact h
  ·split at h;case h_2=>cases h
   rename_i hc c;simp only[jAj] at hc;simp only[Xw a hc.1,hc.2,c,Bool.and_true,QgY a hc.1];exact h
  ·cases h
 ·cases h
theorem yE (a:SubH H G){t:TypeId}{x:AV}{i:Int}{r:R}(h:UK cx sym orc H t x i=some r):UK cx sym orc G t x i=some r:=by
 unfold UK at h ⊢;split at h
 ·split at h;case h_2=>cases h
  rename_i q b;rw[XF a b];exact h
 ·exact XF a h
theorem Qei (b:SubH H G){t:TypeId}{x:AV}{lo hi i:Option AV}{r:R}(h:Xb cx sym orc H t x lo hi i=some r):Xb cx sym orc G t x lo hi i=some r:=by
 unfold Xb at h ⊢;split at h
 ·exact h
 ·split at h;case h_3=>cases h
  ·rename_i a full sz es c g f;obtain⟨d,e⟩:=Kv b _ _ _ f;simp only[g,d];rw[Vu b c e];exact h
  ·rename_i a m full sz es c g f;obtain⟨d,e⟩:=Kv b _ _ _ f;simp only[g,d];rw[Vu b c e];exact h
theorem QcD (b:SubH H G){t:TypeId}{x:AV}{lo hi a:Option AV}{r:R}(h:Um cx sym orc H t x lo hi a=some r):Um cx sym orc G t x lo hi a=some r:=by
 unfold Um at h ⊢;split at h;case h_2=>cases h
 cases hb:look H _ with
 | none=>rw[hb] at h;simp at h
 | some k=>rw[hb] at h;simp only[b _ k hb];exact h
theorem QcC (f:SubH H G){t:TypeId}{x:AV}{lo hi d:Option AV}{r:R}(a:Um cx sym orc H t x lo hi d=none)(h:Xb cx sym orc H t x lo hi d=some r):Um cx sym orc G t x lo hi d=none:=by
 unfold Um at a ⊢;split;case h_2=>rfl
 rename_i o b ver e;rw[e] at a;simp only at a;cases hb:look H b with
 | none =>
  unfold Xb at h;split at h
  ·rename_i g;cases g
  ·split at h;case h_3=>cases h
   ·rename_i c;simp[AV.toDH,hb] at c
   ·rename_i c;simp[AV.toDH,hb] at c
 | some k=>rw[hb] at a;simp only[f b k hb];exact a
theorem Qg5 (b:SubH H G){t:TypeId}{x:AV}{lo hi a:Option AV}{r:R}(h:yD cx sym orc H t x lo hi a=some r):yD cx sym orc G t x lo hi a=some r:=by unfold yD at h;cases h
theorem Qg4 (c:SubH H G){t:TypeId}{x:AV}{lo hi a:Option AV}{r:R}(b:yD cx sym orc H t x lo hi a=none)(h:Xb cx sym orc H t x lo hi a=some r):yD cx sym orc G t x lo hi a=none:=rfl
theorem QaS (c:SubH H G){t:TypeId}{x:AV}{lo hi a:Option AV}{r:R}(b:Um cx sym orc H t x lo hi a=none)(h:yD cx sym orc H t x lo hi a=some r):Um cx sym orc G t x lo hi a=none:=by unfold yD at h;cases h
theorem QcN (f:SubH H G){name:Nat}(i:look G name=none){t:TypeId}{s x:AV}{r:R}(h:zi cx sym orc H name t s x=some r):zi cx sym orc G name t s x=some r:=by
 unfold zi at h ⊢;split at h;case h_2=>cases h
 rename_i g asz p j o d;obtain⟨l,m⟩:=qB f d;simp only[o,l];rw[Vu f j m];split at h
 ·cases h
 split at h
 ·cases h
 split at h
 ·rename_i b ver;cases hb:look H b with
  | none=>rw[hb] at h;cases h
  | some k=>rw[hb] at h;simp only[f b k hb];exact h
 ·split at h
  ·cases h
  split at h
  ·split at h;case h_2=>cases h
   rename_i c n e;simp only[c,i,e];exact h
  split at h;case h_2=>cases h
  rename_i ob o' e;split at h
  ·rename_i c;split at h;case h_3=>cases h
   ·rename_i a;simp only[a];exact h
   ·rename_i a _;simp only[a,i];exact h
  ·exact h
  ·cases h
 ·cases h
theorem Qhc (a:SubH H G){t:TypeId}{s x:AV}{r:R}(h:adup cx sym orc H t s x=some r):adup cx sym orc G t s x=some r:=by
 unfold adup at h ⊢;split at h;case h_2=>cases h
 rename_i b ver c;cases hb:look H b with
 | none=>rw[hb] at h;simp at h
 | some k=>rw[hb] at h;rw[a b k hb];exact h
theorem Qfi (c:SubH H G){t:TypeId}{d s:AV}{r:R}(h:QbL cx orc H t d s=some r):QbL cx orc G t d s=some r:=by
 unfold QbL at h ⊢;split at h;case h_2=>cases h
 rename_i e b ver asz l f j a;obtain⟨g,i⟩:=qB c a;simp only[j,g];rw[Vu c f i];cases hb:look H b with
 | none=>rw[hb] at h;simp at h
 | some k=>rw[hb] at h;simp only[c b k hb];exact h
theorem QaT (d:SubH H G){name:Nat}(g:look G name=none){b:Builtin}{ats:Array TypeId}{ty:TypeId}{a:List AV}{r:R}(h:XI cx sym orc H name b ats ty a=some r) :
  (∀x v,Ka H x=none->x.toV=some v->Ka G x=none)->XI cx sym orc G name b ats ty a=some r:=by
 intro f;unfold XI at h ⊢;split at h
 ·split at h;case h_2=>cases h
  split at h
  ·split at h
   ·exact Qhc d h
   ·exact QcN d g h
  ·unfold Qf7 at h;cases h
 ·split at h;case h_2=>cases h
  exact Qfi d h
 ·split at h;case h_2=>cases h
  split at h
  ·rename_i es c;simp only[Qd0 d c];exact h
  ·rename_i c;split at h;case h_2=>cases h
   rename_i v e;simp only[f _ _ c e,e];exact h
 ·exact h
 ·exact h
 ·exact h
 ·split at h;case h_2=>cases h
  unfold QcJ at h;cases h
 ·cases h
theorem QdZ {x:AV}{v:Value}(h:x.toV=some v):Ka H x=none↔Ka G x=none:=by
 unfold Ka;split
 ·simp
 ·rename_i b ver;simp[AV.toV,AV.toD] at h
 ·simp[AV.toV,AV.toD] at h
 ·simp
theorem KV (f:SubH H G){s:Nat}:∀(parts:List (Nat×AV)) (n:Nat) (es:jVj) (a:List Nat),Y6 H s n parts=some (es,a)->Y6 G s n parts=some (es,a)/\∀b,b∈a->∃k,look H b=some k
 | [],n,es,a,h=>by simp only[Y6,jIj,jPj] at h ⊢;obtain⟨rfl,rfl⟩:=h;simp
 | (i,x)::l,n,es,a,h=>by
  simp only[Y6] at h ⊢;split at h;case h_2=>cases h
  rename_i cs y r ys g d q e;obtain⟨j,m⟩:=Kv f _ _ _ q;obtain⟨o,p⟩:=KV f l (n+1) ys g e;simp only[d,j,o];refine⟨h,?_⟩;split at h;case h_2=>cases h
  split at h;case h_2=>cases h
  simp only[jIj,jPj] at h;obtain⟨rfl,rfl⟩:=h;refine fun c hc=>?_;obtain hc|hc:=List.mem_append.1 hc
  ·exact m c hc
  ·exact p c hc
theorem Qeh (a:SubH H G){t:TypeId}{p y:AV}{r:R}(h:kz cx sym orc H t p y=some r):kz cx sym orc G t p y=some r:=by
 unfold kz at h ⊢;split at h;case h_2=>cases h
 split at h
 ·rename_i c b;simp only[c,a _ _ b];exact h
 ·rename_i ver i es c b;simp only[c,a _ _ b];split at h;case h_2=>cases h
  rename_i j e hc d;obtain⟨f,g⟩:=Kv a _ _ _ d;simp only[hc,f];rw[Vu a e g];exact h
 ·cases h
theorem kT (a:SubH H G){m:AV}{p:Nat×jVj}(h:E2 H m=some p):E2 G m=some p:=by
 unfold E2 at h ⊢;split at h;case h_2=>cases h
 rename_i b v;cases hb:look H b with
 | none=>rw[hb] at h;cases h
 | some k=>rw[hb] at h;simp only[a b k hb];exact h
theorem QdY (a:SubH H G){m:AV}{p:jVj}(h:jZ H m=some p):jZ G m=some p:=by
 unfold jZ at h ⊢;split at h
 ·rename_i b v;cases hb:look H b with
  | none=>rw[hb] at h;cases h
  | some k=>rw[hb] at h;simp only[a b k hb];exact h
 ·exact h
 ·cases h
theorem zT (a:SubH H G){m:AV}{p:Nat×jSj×Nat}(h:kU H m=some p):kU G m=some p:=by
 unfold kU at h ⊢;split at h;case h_2=>cases h
 rename_i b v;cases hb:look H b with
 | none=>rw[hb] at h;cases h
 | some k=>rw[hb] at h;simp only[a b k hb];exact h
theorem Qqq (d:SubH H G){t:TypeId}{m k x:AV}{r:R}(h:QoU cx sym orc H t m k x=some r):QoU cx sym orc G t m k x=some r:=by
 unfold QoU at h ⊢;split at h;case h_2=>cases h
 rename_i e b a c;simp only[e,kT d b,a,c];exact h
theorem Qsc {K H:List (Nat×Blk)}{b:Nat}:look (K++H) b=(match look K b with|some k=>some k|none=>look H b):=by
 induction K with
 | nil=>rfl
 | cons p K ih =>
  obtain⟨a,k⟩:=p;cases hab:Nat.beq a b with
  | true=>simp only[List.cons_append,look,hab]
  | false=>simp only[List.cons_append,look,hab];exact ih
theorem SubH.app (c:SubH H G)(K:List (Nat×Blk)):SubH (K++H) (K++G):=fun b k a=>by
 rw[Qsc] at a ⊢;split at a
 ·exact a
 ·exact c b k a
theorem Ez (a:SubH H G){t:TypeId}{m k x:AV}{r:R}(h:UJ cx sym orc H t m k x=some r):UJ cx sym orc G t m k x=some r:=by
 unfold UJ at h ⊢;cases hd:x.toD with
 | some d=>rw[hd] at h;exact Qqq a h
 | none =>
  rw[hd] at h;simp only at h ⊢;cases hxd:x.toDH H with
  | none=>rw[hxd] at h;cases h
  | some p =>
   obtain⟨f,b⟩:=p;rw[hxd] at h;simp only at h;obtain⟨c,e⟩:=Kv a _ _ _ hxd;cases hr1:QoU cx sym orc (Qd H b++H) t m k (.d f) with
   | none=>rw[hr1] at h;cases h
   | some r1 =>
    rw[hr1] at h;rw[c];simp only;rw[Vu a b e,Qqq (a.app _) hr1];exact h
theorem QcH (c:SubH H G){t:TypeId}{m k:AV}{ok:Bool}{r:R}(h:zg cx sym orc H t m k ok=some r):zg cx sym orc G t m k ok=some r:=by
 unfold zg at h ⊢;split at h;case h_2=>cases h
 rename_i d b a;simp only[d,QdY c b,a];exact h
theorem ya (a:SubH H G){x:AV}(h:jR H x=true):jR G x=true:=by
 cases x with
 | ptr b ver sz i off =>
  simp only[jR] at h ⊢;cases hb:look H b with
  | none=>rw[hb] at h;cases h
  | some k=>rw[hb] at h;rw[a b k hb];exact h
 | dptr _ _=>rfl
 | _=>cases h
theorem Qcd (b:SubH H G){c:BinOp}{t:TypeId}{x:AV}{y:Operand}{q:D×List Prop}(h:Uh H cx c t x y=some q):Uh G cx c t x y=some q:=by
 unfold Uh at h ⊢;split at h
 ·rename_i a hp;rw[a,ya b hp];exact h
 ·rename_i a hp;rw[a,ya b hp];exact h
 ·cases h
theorem QeD {b:BinOp}{t:TypeId}{x:AV}{y:Operand}{q:D×List Prop}(h:E5 cx b t x y=some q):Uh G cx b t x y=none:=by
 unfold E5 at h;split at h
 ·rename_i a;unfold Uh;rw[a]
 ·rename_i a;unfold Uh;rw[a]
 ·rename_i a;unfold Uh;rw[a]
 ·cases h
theorem Qcb (b:SubH H G){a:BinOp}{t:TypeId}{x:AV}{y:Operand}{r:R}(h:(match Uh H cx a t x y with
      | some (r,ob)=>some ({ val:=.d r,up:=[],ob,orc }:R)
      | none=>match E5 cx a t x y with
        | some (r,ob)=>some { val:=.d r,up:=[],ob,orc }
        | none=>none)=some r):(match Uh G cx a t x y with
      | some (r,ob)=>some ({ val:=.d r,up:=[],ob,orc }:R)
      | none=>match E5 cx a t x y with
        | some (r,ob)=>some { val:=.d r,up:=[],ob,orc }
        | none=>none)=some r:=by
  cases hq:Uh H cx a t x y with
  | some q=>rw[hq] at h;rw[Qcd b hq];exact h
  | none =>
    rw[hq] at h;cases hz:E5 cx a t x y with
    | none=>rw[hz] at h;cases h
    | some z=>rw[hz] at h;rw[QeD hz];exact h
theorem Qiz (d:SubH H G){name:Nat}(A:look G name=none){o:Oper}{r:R}(h:aop cx sym orc H name ev o=some r):aop cx sym orc G name ev o=some r:=by
  cases hop:o.op with
  | alloc w =>
    simp only[aop,hop] at h ⊢;cases h8:Qju orc with
    | some r8 =>
      simp only[h8] at h ⊢;split at h;case h_2=>cases h
      rename_i z K _;simp only[K,A];exact h
    | none =>
    simp only[h8] at h ⊢;split at h;case h_2=>cases h
    rename_i z K _;simp only[K,A];exact h
  | box w x =>
    simp only[aop,hop] at h ⊢;split at h;case h_2=>cases h
    rename_i cs N _;simp only[N,A];exact h
  | buildSlice t len parts =>
    simp only[aop,hop] at h ⊢;cases hlt:cx.Lt t len with
    | true =>
      simp only[hlt] at h ⊢;unfold Qb4 at h;cases h
    | false =>
    simp only[hlt] at h ⊢;cases hpe:K5 0 (parts.toList.map fun p=>(p.1,ev p.2)) with
    | none =>
      simp only[hpe] at h ⊢;split at h;case h_2=>cases h
      split at h;case h_2=>cases h
      split at h;case h_2=>cases h
      rename_i es L M;obtain⟨C,E⟩:=KV d _ _ _ _ M;simp only[C];rw[Vu d L E];exact h
    | some l=>cases l with
      | nil =>
      simp only[hpe] at h ⊢;split at h;case h_2=>cases h
      split at h;case h_2=>cases h
      split at h;case h_2=>cases h
      rename_i es L M;obtain⟨C,E⟩:=KV d _ _ _ _ M;simp only[C];rw[Vu d L E];exact h
      | cons x xs =>
        simp only[hpe] at h ⊢;unfold Qb6 at h;cases h
  | load t a =>
    simp only[aop,hop] at h ⊢;split at h
    · rename_i s g b ver sz i off j O e
      split at h;case h_2=>cases h
      rename_i x ob o' J;simp only[j,O,QiJ d e J,Qcz d J];exact h
    · rename_i s g x off j O e
      simp only[j,O,Qhi d e];exact h
    · cases h
  | store t a x=>simp only[aop,hop] at h ⊢;exact Qeh d h
  | nilCheck x =>
    simp only[aop,hop] at h ⊢;split at h
    · rename_i b v s i f e
      split at h;case h_2=>cases h
      rename_i hc;simp only[e,Xw d hc];exact h
    · exact h
    · exact h
    · exact h
    · cases h
  | makeSlice t l c =>
    simp only[aop,hop] at h ⊢;cases h9:QsN orc with
    | some o9=>rw[h9] at h;exact h
    | none =>
    rw[h9] at h;dsimp only at h ⊢;split at h;case h_2=>cases h
    rename_i w kn n km m P el T U;simp only[P,el,T,A];exact h
  | slice t x lo hi mx =>
    simp only[aop,hop] at h ⊢;split at h
    · unfold uh J3 QbV at h;cases h
    · cases hq0:Qrz cx orc t (ev x) (lo.isNone&&hi.isNone&&mx.isNone) with
     | some q0=>rw[hq0] at h;exact h
     | none =>
      rw[hq0] at h;simp only at h ⊢;cases hq:Um cx sym orc H t (ev x) (lo.map ev) (hi.map ev) (mx.map ev) with
      | some q =>
        rw[hq] at h;rw[QcD d hq];exact h
      | none =>
        rw[hq] at h;simp only at h;cases hq2:yD cx sym orc H t (ev x) (lo.map ev) (hi.map ev) (mx.map ev) with
        | some q2 =>
          rw[hq2] at h;rw[QaS d hq hq2,Qg5 d hq2];exact h
        | none =>
          rw[hq2] at h;simp only at h;rw[QcC d hq h,Qg4 d hq2 h];exact Qei d h
  | sliceToArrayPointer t x =>
    simp only[aop,hop] at h ⊢;unfold aarr at h;cases h
  | fieldAddr s x f =>
    simp only[aop,hop] at h ⊢;split at h;case h_2=>cases h
    split at h;case h_2=>cases h
    split at h
    · rename_i b v sz i off K e
      split at h;case h_2=>cases h
      rename_i hc;simp only[K,e,Xw d hc];exact h
    · exact h
    · cases h
  | indexAddr t x ix =>
    simp only[aop,hop] at h ⊢;split at h;case h_2=>cases h
    exact yE d h
  | call c =>
    obtain⟨u,S,ats⟩:=c;cases u with
    | builtin b =>
      simp only[aop,hop] at h ⊢;exact QaT d A h (fun x v C E=>(QdZ E).1 C)
    | _=>simp only[aop,hop] at h;cases h
  | makeMap t q =>
    simp only[aop,hop] at h ⊢;split at h;case h_2=>cases h
    simp only[A];exact h
  | mapUpdate t m k x=>simp only[aop,hop] at h ⊢;exact Ez d h
  | insert t m k x=>simp only[aop,hop] at h ⊢;exact Ez d h
  | lookup t m k ok=>simp only[aop,hop] at h ⊢;exact QcH d h
  | range t x =>
    simp only[aop,hop] at h ⊢;unfold QcE at h ⊢;split at h;case h_2=>cases h
    rename_i P Q M;simp only[P,Q,A];exact h
  | next x isS =>
    simp only[aop,hop] at h ⊢;cases isS with
    | false=>cases h
    | true =>
      simp only at h ⊢;unfold Qf6 at h ⊢;split at h;case h_2=>cases h
      rename_i V;rw[zT d V];exact h
  | binOp op t x y yt =>
    simp only[aop,hop] at h ⊢;cases h6:Qjw orc with
    | some Y=>simp only[h6] at h ⊢;exact h
    | none =>
    cases h7:QfJ op (ev x) (ev y) orc with
    | some X=>simp only[h6,h7] at h ⊢;exact h
    | none =>
    simp only[h6,h7] at h ⊢;cases ha:(ev x).toV<;>cases hb:(ev y).toV<;>simp only[ha,hb] at h ⊢<;>first|exact h|skip
    all_goals exact Qcb d h
  | convert s t x =>
    simp only[aop,hop] at h ⊢;cases h6:Qjv orc with
    | some Y=>simp only[h6] at h ⊢;exact h
    | none =>
    cases h7:QfI cx s t (ev x) orc with
    | some X=>simp only[h6,h7] at h ⊢;exact h
    | none =>
    simp only[h6,h7] at h ⊢;cases ha:(ev x).toV with
    | some a=>rw[ha] at h;exact h
    | none =>
      rw[ha] at h;simp only at h ⊢;unfold QcM at h ⊢;split at h;case h_2=>cases h
      rename_i e Z L j W F;simp only[j,W,(qB d F).1];exact h
  | _=>simp only[aop,hop] at h ⊢;exact h
end
theorem QfB {x:AV}{b:Nat}(h:ptrB x=some b):∃v s i o,x=.ptr b v s i o:=by cases x<;>first|(cases h;exact⟨_,_,_,_,rfl⟩)|cases h
theorem QiA {cx:Cx}{H G:List (Nat×Blk)}{sym:Bool}{orc:List Orc}{ev:Operand->AV}{name b:Nat}{o:Oper}{r:R}(g:qA ev o=some b)(hc:∀v,El H b v=true->El G b v=true)(h:aop cx sym orc H name ev o=some r):aop cx sym orc G name ev o=some r:=by
 unfold qA at g;split at g
 ·rename_i s x f d;obtain⟨v,s',i,off,p⟩:=QfB g;simp only[aop,d,p] at h ⊢;split at h;case h_2=>cases h
  rename_i E m;split at h;case h_2=>cases h
  rename_i n A;split at h
  ·rename_i l e;cases e;split at h;case h_2=>cases h
   rename_i c;simp only[m,A,l,hc _ c];exact h
  ·rename_i l e;cases e
  ·cases h
 ·rename_i t x J d;obtain⟨v,s',i,off,p⟩:=QfB g;simp only[aop,d,p] at h ⊢;split at h;case h_2=>cases h
  rename_i k j z;have y:∀{u:List Orc} {j:Int} {q:R},VT cx sym u H t (.ptr b v s' i off) j=some q->VT cx sym u G t (.ptr b v s' i off) j=some q:=by
   intro u j q a;unfold VT at a ⊢;split at a
   ·rename_i len w F;split at a;case h_2=>cases a
    rename_i l e;simp only at a ⊢;split at a;case h_2=>cases a
    rename_i c;simp only[l,e,hc _ c];exact a
   ·split at a
    ·cases a
    ·simp only at a;cases a
   ·cases a
  unfold UK at h ⊢;split at h
  ·rename_i K L;split at h;case h_2=>cases h
   rename_i q a;rw[y a];exact h
  ·rename_i C;exact y h
 ·cases g
section
variable {cx:Cx}{H G:List (Nat×Blk)}{sym:Bool}{orc:List Orc}{ev ev' : Operand->AV}
theorem Qg9 {o:Oper}(h:∀x,x∈o.op.operands.toList->ev x=ev' x){name:Nat}:aop cx sym orc H name ev o=aop cx sym orc H name ev' o:=by
 have r:∀(l:List Operand),(∀x,x∈l->x∈o.op.operands.toList)->l.map ev=l.map ev':=fun l v=>List.map_congr_left fun x e=>h x (v x e);cases hop:o.op with
 | move x=>simp only[aop,hop];rw[h x (by simp[hop,Op.operands])]
 | assign x=>simp only[aop,hop];rw[h x (by simp[hop,Op.operands])]
 | pick c a b=>simp only[aop,hop];rw[h c (by simp[hop,Op.operands]),h a (by simp[hop,Op.operands]),h b (by simp[hop,Op.operands])]
 | box t x=>simp only[aop,hop];rw[h x (by simp[hop,Op.operands])]
 | build t parts =>
  simp only[aop,hop];have:(parts.toList.map fun p=>(p.1,ev p.2))=(parts.toList.map fun p=>(p.1,ev' p.2)):=List.map_congr_left fun p hp=>by rw[h p.2 (by simp only[hop,Op.operands,List.mem_map];exact⟨p,hp,rfl⟩)]
  rw[this]
 | buildSlice t n parts =>
  simp only[aop,hop];have:(parts.toList.map fun p=>(p.1,ev p.2))=(parts.toList.map fun p=>(p.1,ev' p.2)):=List.map_congr_left fun p hp=>by rw[h p.2 (by simp only[hop,Op.operands,List.mem_map];exact⟨p,hp,rfl⟩)]
  rw[this]
 | load t a=>simp only[aop,hop];rw[h a (by simp[hop,Op.operands])]
 | store t a x=>simp only[aop,hop];rw[h a (by simp[hop,Op.operands]),h x (by simp[hop,Op.operands])]
 | nilCheck x=>simp only[aop,hop];rw[h x (by simp[hop,Op.operands])]
 | binOp op t x y yt=>simp only[aop,hop];rw[h x (by simp[hop,Op.operands]),h y (by simp[hop,Op.operands])]
 | unOp op t x=>simp only[aop,hop];rw[h x (by simp[hop,Op.operands])]
 | convert s t x=>simp only[aop,hop];rw[h x (by simp[hop,Op.operands])]
 | makeFunc f first cap =>
  simp only[aop,hop];rw[r first.toList (fun x e=>by simp[hop,Op.operands];left;simpa using e),r cap.toList (fun x e=>by simp[hop,Op.operands];right;simpa using e)]
 | makeSlice t l c=>simp only[aop,hop];rw[h l (by simp[hop,Op.operands]),h c (by simp[hop,Op.operands])]
 | slice t x lo hi mx =>
  simp only[aop,hop];have u:∀q:Option Operand,(∀x,q=some x->x∈o.op.operands.toList)->q.map ev=q.map ev':=fun q w=>by
   cases q with
   | none=>rfl
   | some x=>simp only[Option.map_some];rw[h x (w x rfl)]
  rw[h x (by simp[hop,Op.operands]),u lo (fun y j=>by subst j;simp[hop,Op.operands]),u hi (fun y j=>by subst j;simp[hop,Op.operands]),u mx (fun y j=>by subst j;simp[hop,Op.operands])]
 | sliceToArrayPointer t x=>simp only[aop,hop];rw[h x (by simp[hop,Op.operands])]
 | fieldAddr s x f=>simp only[aop,hop];rw[h x (by simp[hop,Op.operands])]
 | field s x f=>simp only[aop,hop];rw[h x (by simp[hop,Op.operands])]
 | indexAddr t x ix=>simp only[aop,hop];rw[h x (by simp[hop,Op.operands]),h ix (by simp[hop,Op.operands])]
 | index t x ix=>simp only[aop,hop];rw[h x (by simp[hop,Op.operands]),h ix (by simp[hop,Op.operands])]
 | extract x i=>simp only[aop,hop];rw[h x (by simp[hop,Op.operands])]
 | mapUpdate t m k x=>simp only[aop,hop];rw[h m (by simp[hop,Op.operands]),h k (by simp[hop,Op.operands]),h x (by simp[hop,Op.operands])]
 | insert t m k x=>simp only[aop,hop];rw[h m (by simp[hop,Op.operands]),h k (by simp[hop,Op.operands]),h x (by simp[hop,Op.operands])]
 | lookup t m k ok=>simp only[aop,hop];rw[h m (by simp[hop,Op.operands]),h k (by simp[hop,Op.operands])]
 | range t x=>simp only[aop,hop];rw[h x (by simp[hop,Op.operands])]
 | next x isS=>simp only[aop,hop];rw[h x (by simp[hop,Op.operands])]
 | call c =>
  obtain⟨d,g,ats⟩:=c;cases d with
  | builtin b =>
   simp only[aop,hop];rw[r g.toList (fun x e=>by simp[hop,Op.operands,Call.operands];simpa using e)]
  | _=>simp only[aop,hop]
 | _=>simp only[aop,hop]
theorem zZ {p q:Rec->Bool}{tm:List (Nat×AV)}{t:Nat}:∀(recs:List Rec),(∀r,r∈recs->r.dst=some t->p r=q r)->look (YL (recs.filter p)++tm) t=look (YL (recs.filter q)++tm) t
 | [],_=>rfl
 | r::l,h=>by
  have d:=zZ (p:=p) (q:=q) (tm:=tm) (t:=t) l (fun i c=>h i (jmj _ c));have hc:∀(f:Rec->Bool),(r::l).filter f=if f r then r::l.filter f else l.filter f:=fun f=>by simp[List.filter_cons]
  by_cases b:r.dst=some t
  ·have:=h r jMj b;rw[hc,hc,this];split
   ·simp only[YL,b,List.cons_append,Qf]
   ·exact d
  ·have a:∀f:Rec->Bool,look (YL ((r::l).filter f)++tm) t=look (YL (l.filter f)++tm) t:=by
    intro f;rw[hc];split
    ·simp only[YL];split
     ·rename_i u g;rw[List.cons_append,Qc];intro e;subst e;exact b g
     ·rfl
    ·rfl
   rw[a,a,d]
theorem KA {p q:Rec->Bool}{hp:List (Nat×Blk)}{b:Nat}:∀(recs:List Rec),(∀r,r∈recs->look r.up b≠none->p r=q r)->look (WR (recs.filter p)++hp) b=look (WR (recs.filter q)++hp) b
 | [],_=>rfl
 | r::l,h=>by
  have d:=KA (p:=p) (q:=q) (hp:=hp) (b:=b) l (fun e c=>h e (jmj _ c));have hc:∀(f:Rec->Bool),(r::l).filter f=if f r then r::l.filter f else l.filter f:=fun f=>by simp[List.filter_cons]
  cases hu:look r.up b with
  | some k =>
   have:=h r jMj (by rw[hu];simp);rw[hc,hc,this];split
   ·simp only[WR,List.append_assoc];rw[WH r.up,WH r.up,hu]
   ·exact d
  | none =>
   have a:∀f:Rec->Bool,look (WR ((r::l).filter f)++hp) b=look (WR (l.filter f)++hp) b:=by
    intro f;rw[hc];split
    ·simp only[WR,List.append_assoc];rw[WH,hu]
    ·rfl
   rw[a,a,d]
theorem YM {p:Rec->Bool}{hp:List (Nat×Blk)}{b:Nat}{k:Blk}:∀(recs:List Rec),look (WR (recs.filter p)++hp) b=some k->(∃r,r∈recs/\p r=true/\look r.up b≠none)\/look hp b=some k
 | [],h=>.inr h
 | r::l,h=>by
  rw[List.filter_cons] at h;split at h
  ·rename_i e;simp only[WR,List.append_assoc] at h;rw[WH] at h;cases hu:look r.up b with
   | some g=>exact .inl ⟨r,jMj,e,by rw[hu];simp⟩
   | none =>
    rw[hu] at h;obtain⟨f,a,c,d⟩|h:=YM l h
    ·exact .inl ⟨f,jmj _ a,c,d⟩
    ·exact .inr h
  ·obtain⟨f,a,c,d⟩|h:=YM l h
   ·exact .inl ⟨f,jmj _ a,c,d⟩
   ·exact .inr h
theorem U2 (a:Nat):∀(recs:List Rec),Jo a recs=recs.filter fun r=>a.testBit r.i
 | []=>rfl
 | r::l=>by simp only[Jo,List.filter_cons];rw[U2 a l];cases a.testBit r.i<;>rfl
end
theorem Ea {p:Rec->Bool}{hp:List (Nat×Blk)}{b:Nat}{R:Rec}{k:Blk}(d:look R.up b=some k)(a:p R=true):∀(recs:List Rec),recs.Pairwise (fun x y=>y.i<x.i)->R∈recs ->
  (∀r,r∈recs->p r=true->look r.up b≠none->r.i<=R.i)->look (WR (recs.filter p)++hp) b=some k
 | [],_,h,_=>by simp at h
 | r::l,hs,h,hno=>by
  rw[List.filter_cons];rw[List.pairwise_cons] at hs;by_cases f:r=R
  ·subst f;rw[jTj a];simp only[WR,List.append_assoc];rw[WH,d]
  ·have e:R∈l:=by simpa[Ne.symm f] using h
   have m:=hs.1 R e;have g:=Ea (hp:=hp) d a l hs.2 e (fun n j=>hno n (jmj _ j));split
   ·rename_i c;simp only[WR,List.append_assoc];rw[WH];cases hu:look r.up b with
    | none=>exact g
    | some k' =>
     have:=hno r jMj c (by rw[hu];simp);omega
   ·exact g
theorem kY {p:Rec->Bool}{tm:List (Nat×AV)}{t:Nat}{R:Rec}(d:R.dst=some t)(a:p R=true):∀(recs:List Rec),recs.Pairwise (fun x y=>y.i<x.i)->R∈recs ->
  (∀r,r∈recs->p r=true->r.dst=some t->r.i<=R.i)->look (YL (recs.filter p)++tm) t=some R.val
 | [],_,h,_=>by simp at h
 | r::l,hs,h,hno=>by
  rw[List.filter_cons];rw[List.pairwise_cons] at hs;by_cases g:r=R
  ·subst g;rw[jTj a];simp only[YL,d,List.cons_append,Qf]
  ·have f:R∈l:=by simpa[Ne.symm g] using h
   have k:=hs.1 R f;have c:=kY (tm:=tm) d a l hs.2 f (fun n j=>hno n (jmj _ j));split
   ·rename_i b;simp only[YL];split
    ·rename_i u m;rw[List.cons_append,Qc]
     ·exact c
     ·intro e;subst e;have:=hno r jMj b m;omega
    ·exact c
   ·exact c
theorem V9 {hp:List (Nat×Blk)}{b:Nat}:Vo hp b=true↔look hp b≠none:=by unfold Vo;cases look hp b<;>simp
theorem Gd {d:Type}{l:List (Nat×d)}{b:Nat}(h:look l b≠none):∃x,(b,x)∈l:=by
 induction l with
 | nil=>exact absurd rfl h
 | cons p l ih =>
  obtain⟨k,x⟩:=p;by_cases a:k=b
  ·subst a;exact⟨x,jMj⟩
  ·rw[Qc _ _ a] at h;obtain⟨y,c⟩:=ih h;exact⟨y,jmj _ c⟩
structure DOk (ops:Array Oper) (masks:List Nat) (base:Nat) (s:St) (recs:List Rec):Prop where
 spec:∀(j:Nat) (o:Oper),nth ops.toList j=some o->Vq masks j=QeL masks o j/\(∀e,e∈o.after.toList->Region.binds .any e=true->e.on<j)
 trans:∀j,j<ops.toList.length->∀i,i<j->(Vq masks j).testBit i=true->∀q,(Vq masks i).testBit q=true->(Vq masks j).testBit q=true
 tmps:∀i j,i<ops.toList.length->j<ops.toList.length->JK ops masks i j=true
 blks:∀r q,r∈recs->q∈recs->G1 ops masks base r q=true
 names:∀r,r∈recs->∀b,look r.up b≠none->(b=base+r.i/\look s.hp b=none)\/(b≠base+r.i/\(look s.hp b≠none\/(∃i,i<r.i/\b=base+i/\ZZ masks i r.i=true)\/base+ops.toList.length<=b))
 free:∀i,i<ops.toList.length->look s.hp (base+i)=none
 touch:∀r,r∈recs->JI base r=true->Uc ops r.i=true
 dst:∀r,r∈recs->∀d,r.dst=some d->d<s.nt
 pivs:∀r,r∈recs->r.piv=true->∀q,q∈recs->q.i=r.i\/ZZ masks q.i r.i=true\/ZZ masks r.i q.i=true\/q.up=[]
theorem Qd3 {ops:Array Oper}{masks:List Nat}{base:Nat}{s:St}{recs:List Rec}(h:Qct ops masks base s recs=true):DOk ops masks base s recs:=by
 simp only[Qct,jAj] at h;obtain⟨⟨⟨⟨⟨⟨⟨⟨H,w⟩,z⟩,C⟩,J⟩,f⟩,K⟩,L⟩,u⟩:=h;have M:∀j,j<ops.toList.length->∃o,nth ops.toList j=some o/\Vq masks j=QeL masks o j/\(∀e,e∈o.after.toList->Region.binds .any e=true->e.on<j) /\
   ∀i,i<j->(Vq masks j).testBit i=true->(Vq masks i &&& Vq masks j)=Vq masks i:=by
  intro j m;simp only[QfN,List.all_eq_true,List.mem_range] at w;have:=w j m;split at this
  ·rename_i o v;simp only[jAj,List.all_eq_true,List.mem_range] at this;refine⟨o,v,Z1 this.1.1,fun e t g=>?_,fun i hi g=>?_⟩
   ·have:=this.1.2 e t;rw[g] at this;simpa using this
   ·have:=this.2 i hi;rw[g] at this;simpa using this
  ·cases this
 refine⟨fun j o v=>?_,fun j m i hi g q p=>?_,fun i j hi m=>?_,fun r q c p=>?_,fun r c b g=>?_,fun i hi=>?_,fun r c P=>?_,fun r c d N=>?_,fun r c hp q p=>?_⟩
 ·have m:j<ops.toList.length:=by rw[ZY] at v;exact(jGj v).1
  obtain⟨o',n,H,w,_⟩:=M j m;rw[v] at n;cases n;exact⟨H,w⟩
 ·obtain⟨o',n,_,_,z⟩:=M j m;have:=z i hi g;rw[<-this,Nat.testBit_and,jAj] at p;exact p.2
 ·simp only[List.all_eq_true,List.mem_range] at z;exact z i hi j m
 ·simp only[List.all_eq_true,Bool.or_eq_true,Bool.not_eq_true'] at C;obtain h|h:=C r c
  ·obtain A|A:=C q p
   ·simp[G1,h,A]
   ·have:=A r c;unfold G1 at this ⊢;simp only[Bool.or_eq_true,jAj] at this ⊢;obtain((a|a)|a)|a:=this
    ·exact .inl (.inl (.inr a))
    ·exact .inl (.inl (.inl a))
    ·exact .inl (.inr (by have:=jqj a;rw[this];exact Nat.beq_refl _))
    ·exact .inr ⟨a.2,a.1⟩
  ·exact h q p
 ·simp only[List.all_eq_true] at J;obtain⟨k,O⟩:=Gd g;have:=J r c _ O;simp only at this;split at this
  ·rename_i t;refine .inl ⟨Z1 t,?_⟩;simp only[Bool.not_eq_true'] at this;cases hl:look s.hp b with
   | none=>rfl
   | some x=>simp[Vo,hl] at this
  ·rename_i t;refine .inr ⟨fun e=>(by rw[<-e,Nat.beq_refl] at t;cases t),?_⟩;simp only[Bool.or_eq_true,List.any_eq_true,List.mem_range,jAj] at this;obtain(h|⟨i,hi,E,G⟩)|h:=this
   ·exact .inl (V9.1 h)
   ·exact .inr (.inl ⟨i,hi,Z1 E,G⟩)
   ·exact .inr (.inr (Nat.le_of_ble_eq_true h.2))
 ·rw[Bool.or_eq_true] at f;obtain f|f:=f
  ·cases hl:look s.hp (base+i) with
   | none=>rfl
   | some x =>
    obtain⟨y,Q⟩:=Gd (l:=s.hp) (b:=base+i) (by rw[hl];simp);simp only[YG,List.all_eq_true] at f;have:=f _ Q;simp only[Nat.blt_eq] at this;omega
  ·simp only[List.all_eq_true,List.mem_range] at f;have:=f i hi;simp only[Bool.not_eq_true'] at this;cases hl:look s.hp (base+i) with
   | none=>rfl
   | some x=>simp[Vo,hl] at this
 ·simp only[List.all_eq_true] at K;have:=K r c;rw[P] at this;simpa using this
 ·simp only[List.all_eq_true] at L;have:=L r c;rw[N] at this;simpa using this
 ·simp only[List.all_eq_true] at u;have:=u r c;simp only[hp,Bool.not_true,Bool.false_or,List.all_eq_true,Bool.or_eq_true] at this;obtain((h|h)|h)|h:=this q p
  ·exact .inl (Z1 h)
  ·exact .inr (.inl h)
  ·exact .inr (.inr (.inl h))
  ·exact .inr (.inr (.inr (List.isEmpty_iff.1 h)))
theorem Q3 {masks:List Nat}{i j:Nat}:ZZ masks i j=(Vq masks j).testBit i:=by unfold ZZ Vq;cases nth masks j<;>simp
theorem we (masks:List Nat)(j:Nat)(i:Nat):∀(l:List Edge) (m:Nat),(l.foldl (fun s e=>match Region.binds .any e&&Nat.blt e.on j with
  | true=>s ||| (2 ^ e.on ||| (match nth masks e.on with|some m=>m|none=>0))
  | false=>s) m).testBit i=true->m.testBit i=true\/∃e,e∈l/\Region.binds .any e=true/\e.on<j/\(e.on=i\/(Vq masks e.on).testBit i=true)
 | [],m,h=>.inl h
 | e::l,m,h=>by
  simp only[List.foldl_cons] at h;obtain h|⟨a,b,c⟩:=we masks j i l _ h
  ·split at h
   ·rename_i hc;simp only[jAj] at hc;rw[Nat.testBit_or,Nat.testBit_or] at h;simp only[Bool.or_eq_true] at h;obtain h|h|h:=h
    ·exact .inl h
    ·rw[Nat.testBit_two_pow] at h;exact .inr ⟨e,jMj,hc.1,by simpa using hc.2,.inl (of_decide_eq_true h)⟩
    ·exact .inr ⟨e,jMj,hc.1,by simpa using hc.2,.inr h⟩
   ·exact .inl h
  ·exact .inr ⟨a,jmj _ b,c⟩
theorem U5 {ops:Array Oper}{masks:List Nat}{base:Nat}{s:St}{recs:List Rec}(c:DOk ops masks base s recs):∀(j:Nat),j<ops.toList.length->∀i,(Vq masks j).testBit i=true->i<j:=by
 intro j;induction j using Nat.strongRecOn with
 | _ j g =>
  intro d i hi;obtain⟨o,f⟩:∃o,nth ops.toList j=some o:=⟨ops.toList[j],by rw[ZY];simp[d]⟩
  rw[(c.spec j o f).1] at hi;obtain h|⟨e,_,_,b,a⟩:=we masks j i _ 0 hi
  ·simp at h
  ·obtain a|a:=a
   ·omega
   ·have:=g e.on b (by omega) i a;omega
theorem QeK {ops:Array Oper}{masks:List Nat}{base:Nat}{s:St}{recs:List Rec}(g:DOk ops masks base s recs){S:Nat->Bool}(b:∀j,S j=true->∀i,ZZ masks i j=true->S i=true){j:Nat}{o:Oper}
  (k:nth ops.toList j=some o) (f:∀e,e∈o.after.toList->Region.binds .any e=true->S e.on=true):∀i,ZZ masks i j=true->S i=true:=by
 intro i hi;rw[Q3,(g.spec j o k).1] at hi;obtain h|⟨e,c,d,l,a⟩:=we masks j i _ 0 hi
 ·simp at h
 ·obtain a|a:=a
  ·rw[<-a];exact f e c d
  ·exact b e.on (f e c d) i (by rw[Q3];exact a)
section
variable {cx:Cx}{F:Nat->Prop}{ρ0:Nat->Value}{w0:World}{ops:Array Oper}{masks:List Nat}{base:Nat}{s:St}{recs:List Rec}
def hpS (s:St)(recs:List Rec)(S:Nat->Bool):List (Nat×Blk):=WR (recs.filter fun r=>S r.i)++s.hp
def tmS (s:St)(recs:List Rec)(S:Nat->Bool):List (Nat×AV):=YL (recs.filter fun r=>S r.i)++s.tm
structure DInv (cx:Cx) (ops:Array Oper) (ds0:List Deferred) (F:Nat->Prop) (ρ0:Nat->Value) (w0:World) (masks:List Nat) (s:St) (recs:List Rec) (S:Nat->Bool) (a:Act) (w:World):Prop where
 clo:∀j,S j=true->∀i,ZZ masks i j=true->S i=true
 old:∀t x,look s.tm t=some x->(∀r,r∈recs->S r.i=true->r.dst≠some t)->VR w0 (MM F s.hp ρ0) s.hp ρ0 x (a.tmps.getD t undef)
 mov:∀r,r∈recs->S r.i=true->∀p t0 t x,nth ops.toList r.i=some p->p.op=.move (.tmp t0)->p.guard=none->p.dst=some t->(∀q,q∈recs->q.i<r.i->q.dst≠some t0)->(∀q,q∈recs->S q.i=true->q.dst=some t->q.i=r.i)->look s.tm t0=some x->VR w0 (MM F s.hp ρ0) s.hp ρ0 x (a.tmps.getD t undef)
 sim:∃ρ,HSim cx F (hpS s recs S) ρ w/\TSim F (tmS s recs S) (hpS s recs S) ρ a w/\a.tmps.size=s.nt/\a.defers=ds0/\Steps1 s.hp ρ0 w0 (hpS s recs S) ρ w
structure Recs (cx:Cx) (call:Jt) (yc:Uu) (ops:Array Oper) (masks:List Nat) (base:Nat) (s:St) (recs:List Rec) (n:Nat):Prop where
 sorted:recs.Pairwise fun x y=>y.i<x.i
 lt:∀r,r∈recs->r.i<n
 all:∀j,j<n->∃r,r∈recs/\r.i=j
 told:∀r,r∈recs->∃orc ob o',EW cx call yc ops masks base s r.i (recs.filter fun q=>Nat.blt q.i r.i) orc=some (r,ob,o')/\∀p,p∈ob->p
theorem Recs.uniq {call:Jt}{f:Uu}{n:Nat}(h:Recs cx call f ops masks base s recs n){r q:Rec}(d:r∈recs)(e:q∈recs)(g:r.i=q.i):r=q:=by
 have c:=h.sorted;clear h;induction recs with
 | nil=>simp at d
 | cons x l ih =>
  rw[List.pairwise_cons] at c;obtain rfl|b:=List.mem_cons.1 d<;>obtain rfl|a:=List.mem_cons.1 e
  ·rfl
  ·have:=c.1 q a;omega
  ·have:=c.1 r b;omega
  ·exact ih b a c.2
theorem Jc {H:List (Nat×Blk)}{nm i:Nat}{dst:Option Tmp}{p:Nat×Blk}{a:RC}{R:Rec}{ob:List Prop}{o' : List Orc}(h:uN H nm i dst p a=some (R,ob,o')) :
  ∃b k,p=(b,k)/\R={ i,dst,val:=.own nm 0,up:=[(nm,stamp k)] }/\a.val=.own b k.ver/\ob=a.ob/\look H b=none/\jU k=true:=by
 unfold uN at h;split at h;case h_2=>cases h
 rename_i b ver' g;split at h;case h_2=>cases h
 rename_i hc;simp only[jAj,Bool.not_eq_true'] at hc;have c:=Z1 hc.1.1.2;have d:=Z1 hc.1.2;simp only[jIj,jPj] at h;obtain⟨e,f,j⟩:=h;refine⟨p.1,p.2,rfl,e.symm,?_,f.symm,?_,hc.1.1.1⟩
 ·rw[g,c,d]
 ·rw[c];cases hl:look H b with
  | none=>rfl
  | some k =>
   have:=V9.2 (show look H b≠none by rw[hl];simp);rw[hc.2] at this;cases this
theorem YA {call:Jt}{e:Uu}{i:Nat}{d:List Rec}{orc:List Orc}{r:Rec}{ob:List Prop}{o' : List Orc}(h:EW cx call e ops masks base s i d orc=some (r,ob,o')) :
  r.i=i/\∃o,nth ops.toList i=some o/\r.dst=o.dst:=by
 unfold EW at h;split at h;case h_2=>cases h
 rename_i o b a f;simp only at h;split at h
 ·cases h
 ·simp only[jIj,jPj] at h;obtain⟨rfl,_⟩:=h;exact⟨rfl,o,a,rfl⟩
 ·split at h
  ·split at h
   ·split at h
    ·cases h
    split at h
    ·split at h;case h_2=>cases h
     simp only[jIj,jPj] at h;obtain⟨rfl,_⟩:=h;exact⟨rfl,o,a,rfl⟩
    ·simp only[jIj,jPj] at h;obtain⟨rfl,_⟩:=h;exact⟨rfl,o,a,rfl⟩
    ·cases h
   split at h
   ·split at h;case h_2=>cases h
    split at h;case h_2=>cases h
    split at h;case h_2=>cases h
    simp only[jIj,jPj] at h;obtain⟨rfl,_⟩:=h;exact⟨rfl,o,a,rfl⟩
   split at h
   ·cases h
   split at h;case h_2=>cases h
   split at h
   ·split at h;case h_2=>cases h
    simp only[jIj,jPj] at h;obtain⟨rfl,_⟩:=h;exact⟨rfl,o,a,rfl⟩
   ·simp only[jIj,jPj] at h;obtain⟨rfl,_⟩:=h;exact⟨rfl,o,a,rfl⟩
   ·obtain⟨_,_,_,c,_⟩:=Jc h;rw[c];exact⟨rfl,o,a,rfl⟩
   ·cases h
  ·split at h
   ·simp only[jIj,jPj] at h;obtain⟨rfl,_⟩:=h;exact⟨rfl,o,a,rfl⟩
   split at h
   ·simp only[jIj,jPj] at h;obtain⟨rfl,_⟩:=h;exact⟨rfl,o,a,rfl⟩
   split at h
   ·cases h
   split at h
   ·split at h;case h_2=>cases h
    simp only[jIj,jPj] at h;obtain⟨rfl,_⟩:=h;exact⟨rfl,o,a,rfl⟩
   ·simp only[jIj,jPj] at h;obtain⟨rfl,_⟩:=h;exact⟨rfl,o,a,rfl⟩
theorem wW {call:Jt}{u:Uu}:∀(m k:Nat) (d recs:List Rec) (c ob:List Prop) (a orc:List Orc),JA cx call u ops masks base s (List.range' k m) d c a=some (recs,ob,orc)->(∀p,p∈ob->p) ->
  Recs cx call u ops masks base s d k->Recs cx call u ops masks base s recs (k+m)/\∀p,p∈c->p:=by
 intro m;induction m with
 | zero =>
  intro k d recs c ob a orc h v f;simp only[List.range'_zero,JA,jIj,jPj] at h;obtain⟨rfl,rfl,rfl⟩:=h;exact⟨f,v⟩
 | succ m ih =>
  intro k d recs c ob a orc h v f;simp only[List.range'_succ,JA] at h;split at h;case h_2=>cases h
  rename_i r t y o;obtain⟨hi,_⟩:=YA o;have l:∀q,q∈d->Nat.blt q.i k=true:=fun q e=>by simpa using f.lt q e
  -- what was owed before is owed at the end
  have w:∀(m k:Nat) (d recs:List Rec) (c ob:List Prop) (a orc:List Orc),JA cx call u ops masks base s (List.range' k m) d c a=some (recs,ob,orc)->∀p,p∈c->p∈ob:=by
   intro m;induction m with
   | zero=>intro k d recs c ob a orc h p hp;simp only[List.range'_zero,JA,jIj,jPj] at h;obtain⟨_,rfl,_⟩:=h;exact hp
   | succ m ihm =>
    intro k d recs c ob a orc h p hp;simp only[List.range'_succ,JA] at h;split at h;case h_2=>cases h
    exact ihm _ _ _ _ _ _ _ h p (by simp[hp])
  have g:=fun p hp=>v p (w _ _ _ _ _ _ _ _ h p hp);have n:Recs cx call u ops masks base s (r::d) (k+1):=by
   refine⟨List.pairwise_cons.2 ⟨fun q e=>by rw[hi];exact f.lt q e,f.sorted⟩,fun q e=>?_,fun j M=>?_,fun q e=>?_⟩
   ·obtain rfl|e:=List.mem_cons.1 e
    ·omega
    ·have:=f.lt q e;omega
   ·by_cases H:j=k
    ·exact⟨r,jMj,by omega⟩
    ·obtain⟨q,e,G⟩:=f.all j (by omega);exact⟨q,jmj _ e,G⟩
   ·obtain rfl|e:=List.mem_cons.1 e
    ·refine⟨a,t,y,?_,fun p hp=>g p (by simp[hp])⟩;have:((q::d).filter fun x=>Nat.blt x.i q.i)=d:=by rw[List.filter_cons,jFj (by simp[Nat.blt_eq]),List.filter_eq_self.2];intro x K;rw[hi];exact l x K
     rw[this,hi];exact o
    ·obtain⟨L,b,o',C,E⟩:=f.told q e;refine⟨L,b,o',?_,E⟩;have J:=f.lt q e;have:((r::d).filter fun x=>Nat.blt x.i q.i)=d.filter fun x=>Nat.blt x.i q.i:=by rw[List.filter_cons,jFj];rw[Nat.blt_eq,hi];omega
     rw[this];exact C
  obtain⟨z,A⟩:=ih (k+1) (r::d) recs (t++c) ob y orc h v n;exact⟨by rw[show k+(m+1)=k+1+m from by omega];exact z,fun p hp=>A p (by simp[hp])⟩
end
section
variable {cx:Cx}{F:Nat->Prop}{ρ0:Nat->Value}{w0:World}{ops:Array Oper}{masks:List Nat}{base:Nat}{s:St}{recs:List Rec}{call:Jt}{yc:Uu}
theorem ky {a b:Nat}(h:b<=a):Nat.blt a b=false:=by
 cases hh:Nat.blt a b with
 | false=>rfl
 | true=>rw[Nat.blt_eq] at hh;omega
def ins (S:Nat->Bool)(j:Nat):Nat->Bool:=fun i=>S i || Nat.beq i j
theorem UW {r:Rec}{b:Nat}(c:look r.up b≠none)(a:b≠base+r.i):JI base r=true:=by
 obtain⟨k,d⟩:=Gd c;refine List.any_eq_true.2 ⟨_,d,?_⟩;simp only[Bool.not_eq_true'];cases h:Nat.beq b (base+r.i) with
 | false=>rfl
 | true=>exact absurd (Z1 h) a
theorem QhS {r q:Rec}{b:Nat}(h:look q.up b≠none):wI r q=true:=by
 unfold wI;split
 ·rename_i a;rw[a] at h;simp[look] at h
 ·rfl
theorem QdH {r q:Rec}{b:Nat}(c:q.adr=false)(d:look r.up b≠none)(h:∀a,q.fp=some a->a.contains b=true):wI r q=true:=by
 unfold wI;split
 ·rename_i a e _;obtain⟨x,f⟩:=Gd d;exact List.any_eq_true.2 ⟨_,f,by rw[c,h a e];rfl⟩
 ·rfl
theorem QgC {r q:Rec}{b:Nat}{k:Blk}(e:(b,k)∈r.up)(h:wI r q=false)(d:∀a,q.fp=some a->a.contains b=true):boxB k=true:=by
 unfold wI at h;split at h
 ·rename_i a c _;have:=List.any_eq_false.1 h _ e;simp only[d a c,Bool.true_and,Bool.not_eq_true,Bool.not_eq_false',jAj] at this;simpa using this.2
 ·cases h
theorem Qbf {a:Type}:∀{l:List (Nat×a)} {b:Nat} {k:a},look l b=some k->(b,k)∈l
 | [],b,k,h=>by cases h
 | (c,x)::l,b,k,h=>by
  by_cases hc:c=b
  ·subst hc;rw[Qf] at h;cases h;exact jMj
  ·rw[Qc _ _ hc] at h;exact jmj _ (Qbf h)
theorem QhX (p:Rec->Bool)(b:Nat):∀(recs:List Rec),recs.Pairwise (fun x y=>y.i<x.i)->(∀r,r∈recs->p r=true->look r.up b=none) \/
  ∃R' d,R'∈recs/\p R'=true/\look R'.up b=some d/\∀r,r∈recs->p r=true->look r.up b≠none->r.i<=R'.i
 | [],_=>.inl fun _ h=>by cases h
 | r::l,hs=>by
  rw[List.pairwise_cons] at hs;by_cases hp:p r=true/\look r.up b≠none
  ·right;cases hk:look r.up b with
   | none=>exact absurd hk hp.2
   | some d =>
    refine⟨r,d,jMj,hp.1,hk,fun q c _ _=>?_⟩;obtain rfl|c:=List.mem_cons.1 c
    ·exact jLj _
    ·exact Nat.le_of_lt (hs.1 q c)
  ·obtain h|⟨R',d,f,g,j,k⟩:=QhX p b l hs.2
   ·left;intro q c a;obtain rfl|c:=List.mem_cons.1 c
    ·cases hk:look q.up b with
     | none=>rfl
     | some d=>exact absurd ⟨a,by rw[hk];simp⟩ hp
    ·exact h q c a
   ·right;refine⟨R',d,jmj _ f,g,j,fun q c a e=>?_⟩;obtain rfl|c:=List.mem_cons.1 c
    ·exact absurd ⟨a,e⟩ hp
    ·exact k q c a e
theorem K9 (d:List Nat):∀(hp:List (Nat×Blk)) (b:Nat) (k:Blk),look (hp.filter fun p=>d.contains p.1) b=some k->d.contains b=true/\look hp b=some k
 | [],b,k,h=>by simp[look] at h
 | (c,x)::hp,b,k,h=>by
  rw[List.filter_cons] at h;by_cases a:c=b
  ·subst a;split at h
   ·rename_i hc;exact⟨hc,by rw[Qf] at h ⊢;exact h⟩
   ·rename_i hc;exact absurd (K9 d hp c k h).1 hc
  ·split at h
   ·rw[Qc _ _ a] at h ⊢;exact K9 d hp b k h
   ·rw[Qc _ _ a];exact K9 d hp b k h
theorem Qfa (l:DOk ops masks base s recs){r q:Rec}(m:r∈recs)(g:q∈recs){b:Nat}(c:look r.up b≠none)(a:look q.up b≠none)(d:r.i≠q.i)
  (e:r.i<ops.toList.length) (n:q.i<ops.toList.length) :
  ZZ masks r.i q.i=true\/ZZ masks q.i r.i=true:=by
 have j:∀r q:Rec,r∈recs->q∈recs->look r.up b≠none->look q.up b≠none->r.i≠q.i->r.i<ops.toList.length->b=base+r.i->ZZ masks r.i q.i=true:=by
  intro r q m g c a d e p;obtain⟨k,_⟩|⟨k,f|⟨i,hi,f,o⟩|f⟩:=l.names q g b a
  ·omega
  ·exact absurd (p ▸ l.free r.i e) f
  ·have:i=r.i:=by omega
   rw[<-this];exact o
  ·omega
 by_cases k:b=base+r.i
 ·exact .inl (j r q m g c a d e k)
 ·by_cases f:b=base+q.i
  ·exact .inr (j q r g m a c (Ne.symm d) n f)
  ·have t:=UW c k;have u:=UW a f;have:=l.blks r q m g;simp only[G1,Bool.or_eq_true,jAj,Bool.not_eq_true',t,l.touch q g u,QhS (r:=r) a] at this;obtain((h|h)|h)|h:=this
   ·exact .inl h
   ·exact .inr h
   ·exact absurd (Z1 h) d
   ·simp at h
theorem QbA {U:List Deferred}(c:Recs cx call yc ops masks base s recs ops.toList.length)(T:DOk ops masks base s recs){S:Nat->Bool}{a:Act}{w' : World}{R:Rec}(w:R∈recs)(hS:S R.i=false)
  (l:∀j,S j=true->∀i,ZZ masks i j=true->S i=true) (a2:∀i,ZZ masks i R.i=true->S i=true) {ρ' : Nat->Value} {v:Value}
  (K:∀t x,look s.tm t=some x->(∀r,r∈recs->S r.i=true->r.dst≠some t)->VR w0 (MM F s.hp ρ0) s.hp ρ0 x (a.tmps.getD t undef))
  (Y:∀r,r∈recs->S r.i=true->∀p o t x,nth ops.toList r.i=some p->p.op=.move (.tmp o)->p.guard=none->p.dst=some t->(∀q,q∈recs->q.i<r.i->q.dst≠some o)->(∀q,q∈recs->S q.i=true->q.dst=some t->q.i=r.i)->look s.tm o=some x->VR w0 (MM F s.hp ρ0) s.hp ρ0 x (a.tmps.getD t undef))
  (a8:∀p o,nth ops.toList R.i=some p->p.op=.move (.tmp o)->p.guard=none->v=a.tmps.getD o undef)
  (hs:HSim cx F (R.up++hpS s recs S) ρ' w') (ht:TSim F (tmS s recs S) (R.up++hpS s recs S) ρ' a w') (P:a.tmps.size=s.nt) (a7:a.defers=U) (b2:Steps1 s.hp ρ0 w0 (R.up++hpS s recs S) ρ' w')
  (hv:VR w' (MM F (R.up++hpS s recs S) ρ') (R.up++hpS s recs S) ρ' R.val v):DInv cx ops U F ρ0 w0 masks s recs (ins S R.i) (a.put R.dst v) w':=by
 have G:=U5 T;have m:=c.lt R w;have L:∀b,look (hpS s recs (ins S R.i)) b=look (R.up++hpS s recs S) b:=by
  intro b;rw[WH];cases hu:look R.up b with
  | some k =>
   simp only;refine Ea hu (by simp[ins]) recs c.sorted w fun r g hp hb=>?_;by_cases J:r.i=R.i
   ·omega
   ·have f:S r.i=true:=by
     simp only[ins,Bool.or_eq_true] at hp;obtain h|h:=hp
     ·exact h
     ·exact absurd (Z1 h) J
    obtain h|h:=Qfa T g w hb (by rw[hu];simp) J (c.lt r g) m
    ·have:=G R.i m r.i (by rw[<-Q3];exact h);omega
    ·have:=l r.i f R.i h;rw[hS] at this;cases this
  | none =>
   simp only;refine KA recs fun r g hb=>?_;have H:r≠R:=by intro e;subst e;exact hb hu
   have hi:r.i≠R.i:=fun e=>H (c.uniq g w e);have:Nat.beq r.i R.i=false:=by
    cases h:Nat.beq r.i R.i with
    | false=>rfl
    | true=>exact absurd (Z1 h) hi
   simp[ins,this]
 have b3:∀t,look (tmS s recs (ins S R.i)) t=if R.dst=some t then some R.val else look (tmS s recs S) t:=by
  intro t;by_cases d:R.dst=some t
  ·rw[jTj d];refine kY d (by simp[ins]) recs c.sorted w fun r g hp O=>?_;by_cases J:r.i=R.i
   ·omega
   ·have f:S r.i=true:=by
     simp only[ins,Bool.or_eq_true] at hp;obtain h|h:=hp
     ·exact h
     ·exact absurd (Z1 h) J
    have C:=T.tmps r.i R.i (c.lt r g) m;obtain⟨_,_,_,h1,_⟩:=c.told r g;obtain⟨_,x,n,b4⟩:=YA h1;obtain⟨_,_,_,h2,_⟩:=c.told R w;obtain⟨_,y,hy,Q⟩:=YA h2;simp only[JK,Bool.or_eq_true] at C;obtain((h|h)|h)|h:=C
    ·have:=G R.i m r.i (by rw[<-Q3];exact h);omega
    ·have:=l r.i f R.i h;rw[hS] at this;cases this
    ·exact absurd (Z1 h) J
    ·rw[n,hy] at h;simp only[<-b4,<-Q,O,d,Nat.beq_refl,Bool.not_true,Bool.and_false] at h;cases h
  ·rw[jFj d];refine zZ recs fun r g O=>?_;have H:r≠R:=by intro e;subst e;exact d O
   have hi:r.i≠R.i:=fun e=>H (c.uniq g w e);have:Nat.beq r.i R.i=false:=by
    cases h:Nat.beq r.i R.i with
    | false=>rfl
    | true=>exact absurd (Z1 h) hi
   simp[ins,this]
 obtain⟨g1,g2⟩:=W6 L hs;have E:∀t,R.dst≠some t->(a.put R.dst v).tmps.getD t undef=a.tmps.getD t undef:=by
  intro t d;cases hdd:R.dst with
  | none=>rfl
  | some u =>
   simp only[Act.put];rw[Array.getD_eq_getD_getElem?,Array.getElem?_setIfInBounds,jFj (by intro e;subst e;exact d hdd),<-Array.getD_eq_getD_getElem?]
 refine⟨fun j hj i hi=>?_,fun t x n Z=>?_,fun r g f p o t x hp N a1 a0 a4 a5 n=>?_,ρ',g1,?_,by rw[Qdm];exact P,by rw[UQ];exact a7,b2.trans g2⟩
 ·simp only[ins,Bool.or_eq_true] at hj ⊢;obtain h|h:=hj
  ·exact .inl (l j h i hi)
  ·have:=Z1 h;subst this;exact .inl (a2 i hi)
 ·rw[E t (Z R w (by simp[ins]))];exact K t x n fun r g f=>Z r g (by simp[ins,f])
 ·by_cases J:r.i=R.i
  ·have a9:=c.uniq g w J;subst a9;obtain⟨_,_,_,h1,_⟩:=c.told r g;obtain⟨_,y,hy,Q⟩:=YA h1;rw[hp] at hy;cases hy;have d:r.dst=some t:=by rw[Q];exact a0
   have M:=T.dst r g t d;have a3:(a.put r.dst v).tmps.getD t undef=v:=by rw[d];simp only[Act.put];rw[Array.getD_eq_getD_getElem?,Array.getElem?_setIfInBounds,jTj rfl,jTj (by rw[P];exact M)];rfl
   rw[a3,a8 p o hp N a1];refine K o x n fun q hq A a6=>?_;by_cases W:q.i<r.i
   ·exact a4 q hq W a6
   ·have H:q.i≠r.i:=fun e=>by rw[e,hS] at A;cases A
    have C:=T.tmps q.i r.i (c.lt q hq) m;obtain⟨_,_,_,h2,_⟩:=c.told q hq;obtain⟨_,z,hz,b5⟩:=YA h2;simp only[JK,Bool.or_eq_true] at C;obtain((h|h)|h)|h:=C
    ·have:=G r.i m q.i (by rw[<-Q3];exact h);omega
    ·have:=l q.i A r.i h;rw[hS] at this;cases this
    ·exact absurd (Z1 h) H
    ·rw[hz,hp] at h;simp only[<-b5,a6,jAj,Bool.not_eq_true'] at h;have X:(J2 p ops).contains o=true:=by rw[List.contains_iff_mem];unfold J2;refine List.mem_append_left _ (List.mem_filterMap.2 ⟨.tmp o,?_,rfl⟩);rw[N];simp[Op.operands]
     rw[X] at h;cases h.1
  ·have V : S r.i=true:=by
    simp only[ins,Bool.or_eq_true] at f;obtain h|h:=f
    ·exact h
    ·exact absurd (Z1 h) J
   have d:R.dst≠some t:=fun h=>J (a5 R w (by simp[ins]) h).symm;rw[E t d];exact Y r g V p o t x hp N a1 a0 a4 (fun q hq A=>a5 q hq (by simp[ins,A])) n
 ·intro t x n;rw[b3] at n;by_cases d:R.dst=some t
  ·rw[jTj d] at n;simp only[jIj] at n;subst n;have M:=T.dst R w t d;rw[d];simp only[Act.put];rw[Array.getD_eq_getD_getElem?,Array.getElem?_setIfInBounds,jTj rfl,jTj (by rw[P];exact M)];exact g2.vr hv
  ·rw[jFj d] at n;have:(a.put R.dst v).tmps.getD t undef=a.tmps.getD t undef:=by
    cases hdd:R.dst with
    | none=>rfl
    | some u =>
     simp only[Act.put];rw[Array.getD_eq_getD_getElem?,Array.getElem?_setIfInBounds,jFj (by intro e;subst e;exact d hdd),<-Array.getD_eq_getD_getElem?]
   rw[this];exact g2.vr (ht t x n)
theorem QaD {tm a : List (Nat×AV)}{o:Oper}(h:∀t,t∈J2 o ops->look tm t=look a t):GM ops tm o=GM ops a o:=by
 unfold GM;split
 ·rfl
 ·rename_i j c e;split
  ·rfl
  ·rename_i g f;split
   ·rfl
   ·rename_i d b;rw[h d (by simp[J2,e,f,b])]
theorem ze {tm a : List (Nat×AV)}{o:Oper}(h:∀t,t∈J2 o ops->look tm t=look a t):∀x,x∈o.op.operands.toList->evA cx tm x=evA cx a x:=by
 intro x b;cases x with
 | tmp t =>
  simp only[evA];rw[h t (by simp only[J2,List.mem_append,List.mem_filterMap];exact .inl ⟨_,b,rfl⟩)]
 | _=>rfl
theorem QgH (a:Recs cx call yc ops masks base s recs ops.toList.length)(f:DOk ops masks base s recs){S:Nat->Bool}{R:Rec}(m:R∈recs)(n:S R.i=false)
  (c:∀j,S j=true->∀i,ZZ masks i j=true->S i=true) (d:∀i,ZZ masks i R.i=true->S i=true) {o:Oper} (w:nth ops.toList R.i=some o) :
  ∀t,t∈J2 o ops->look (YL (recs.filter fun q=>Nat.blt q.i R.i)++s.tm) t=look (tmS s recs S) t:=by
 intro t y;refine zZ recs fun r g k=>?_;by_cases p:r.i=R.i
 ·rw[p,n];exact ky (by omega)
 ·have b:=f.tmps r.i R.i (a.lt r g) (a.lt R m);obtain⟨_,_,_,u,_⟩:=a.told r g;obtain⟨_,x,z,l⟩:=YA u;simp only[JK,Bool.or_eq_true] at b;obtain((h|h)|h)|h:=b
  ·have:=U5 f R.i (a.lt R m) r.i (by rw[<-Q3];exact h);rw[d r.i h];simpa[Nat.blt_eq] using this
  ·have v:=U5 f r.i (a.lt r g) R.i (by rw[<-Q3];exact h);have e:S r.i=false:=by
    cases hh:S r.i with
    | false=>rfl
    | true=>have:=c r.i hh R.i h;rw[n] at this;cases this
   rw[e];exact ky (by omega)
  ·exact absurd (Z1 h) p
  ·rw[z,w] at h;simp only[<-l,k] at h;simp only[jAj,Bool.not_eq_true'] at h;have:(J2 o ops).contains t=true:=by simpa using y
   rw[this] at h;exact absurd h.1 (by simp)
theorem zI {R:Rec}{o:Oper}(a:nth ops.toList R.i=some o):Uc ops R.i=yL o:=by simp[Uc,a]
theorem Qew (f:Recs cx call yc ops masks base s recs ops.toList.length)(p:DOk ops masks base s recs){S:Nat->Bool}{R:Rec}(U:R∈recs)(V:S R.i=false)
  (x:∀j,S j=true->∀i,ZZ masks i j=true->S i=true) (y:∀i,ZZ masks i R.i=true->S i=true) {o:Oper} (Z:nth ops.toList R.i=some o) {a:Nat} (Y:nth masks R.i=some a) (v:R.adr=false) :
  SubH (E1 masks s (recs.filter fun q=>Nat.blt q.i R.i) o a R.fp) (hpS s recs S):=by
 intro b k c;unfold E1 at c;split at c;case h_2=>simp[look] at c
 rename_i A;have l:(∀t,R.fp=some t->t.contains b=true)/\look (WR (Jo a (recs.filter fun q=>Nat.blt q.i R.i))++s.hp) b=some k:=by
  split at c
  ·rename_i H;exact⟨fun t h=>(by rw[H] at h;cases h),c⟩
  ·rename_i t H;obtain⟨C,u⟩:=K9 t _ b k c;exact⟨fun W h=>(by rw[H] at h;cases h;exact C),u⟩
 obtain⟨l,c⟩:=l;rw[U2,List.filter_filter] at c;have m:Vq masks R.i=a:=by simp[Vq,Y]
 rw[<-c];refine(KA recs fun r O n=>?_).symm;-- the writers of b are the same
 have a0:=f.lt r O;have g:=f.lt R U;have P:Uc ops R.i=true:=by rw[zI Z];exact A
 by_cases hin:ZZ masks r.i R.i=true
 ·have J:=U5 p R.i g r.i (by rw[<-Q3];exact hin);rw[y r.i hin];rw[Q3,m] at hin;rw[hin];simpa[Nat.blt_eq] using J
 ·have G:S r.i=false:=by
   cases hh:S r.i with
   | false=>rfl
   | true =>
    exfalso;have E:¬ZZ masks R.i r.i=true:=fun h=>by have:=x r.i hh R.i h;rw[V] at this;cases this
    have K:r.i≠R.i:=fun e=>by rw[e,V] at hh;cases hh
    obtain⟨Q,T⟩|⟨Q,_⟩:=p.names r O b n
    ·-- r's own new block: whoever sees it comes behind r
     obtain⟨q,hq,z,M⟩|w:=YM recs c
     ·simp only[jAj] at z;have d:ZZ masks q.i R.i=true:=by rw[Q3,m];exact z.1
      by_cases N:q.i=r.i
      ·rw[N] at d;exact hin d
      ·obtain⟨C,_⟩|⟨C,u|⟨i,hi,u,X⟩|u⟩:=p.names q hq b M
       ·omega
       ·exact u T
       ·have:i=r.i:=by omega
        subst this;have L:=U5 p R.i g q.i (by rw[<-Q3];exact d);have:=p.trans R.i g q.i L (by rw[<-Q3];exact d) r.i (by rw[<-Q3];exact X);rw[<-Q3] at this;exact hin this
       ·omega
     ·rw[T] at w;cases w
    ·have w1:=UW n Q;have:=p.blks r R O U;simp only[G1,Bool.or_eq_true,jAj,Bool.not_eq_true',w1,P,QdH v n l] at this;obtain((h|h)|h)|h:=this
     ·exact hin h
     ·exact E h
     ·exact K (Z1 h)
     ·simp at h
  rw[G];have:a.testBit r.i=false:=by
   cases h:a.testBit r.i with
   | false=>rfl
   | true=>exact absurd (by rw[Q3,m];exact h) hin
  simp[this]
theorem Qex (c:Recs cx call yc ops masks base s recs ops.toList.length)(x:DOk ops masks base s recs){S:Nat->Bool}{R:Rec}(hR:R∈recs)(hS:S R.i=false)
  (E:∀j,S j=true->∀i,ZZ masks i j=true->S i=true) (G:∀i,ZZ masks i R.i=true->S i=true) {o:Oper} (ho:nth ops.toList R.i=some o) {a:Nat} (hm:nth masks R.i=some a) {b:Nat} {k:Blk}
  (f:look (E1 masks s (recs.filter fun q=>Nat.blt q.i R.i) o a R.fp) b=some k) (hk:boxB k=true):∃L,look (hpS s recs S) b=some L/\boxB L=true:=by
 unfold E1 at f;split at f;case h_2=>simp[look] at f
 rename_i K;have v:(∀y,R.fp=some y->y.contains b=true)/\look (WR (Jo a (recs.filter fun q=>Nat.blt q.i R.i))++s.hp) b=some k:=by
  split at f
  ·rename_i P;exact⟨fun y h=>(by rw[P] at h;cases h),f⟩
  ·rename_i y P;obtain⟨N,z⟩:=K9 y _ b k f;exact⟨fun a1 h=>(by rw[P] at h;cases h;exact N),z⟩
 obtain⟨v,f⟩:=v;rw[U2,List.filter_filter] at f;have w:Vq masks R.i=a:=by simp[Vq,hm]
 have u:=c.lt R hR;have a0:Uc ops R.i=true:=by rw[zI ho];exact K
 have toS:∀q:Rec,(a.testBit q.i&&Nat.blt q.i R.i)=true->S q.i=true:=fun q M=>by simp only[jAj] at M;exact G q.i (by rw[Q3,w];exact M.1)
 obtain l|⟨Q,L,A,n,m,g⟩:=QhX (fun r=>S r.i) b recs c.sorted
 ·have e1:look (WR (recs.filter fun r=>S r.i)++s.hp) b=look (WR (recs.filter fun _=>false)++s.hp) b:=KA recs fun r J d=>by
   cases h:S r.i with
   | false=>rfl
   | true=>exact absurd (l r J h) d
  have e2:look (WR (recs.filter fun q=>a.testBit q.i&&Nat.blt q.i R.i)++s.hp) b=look (WR (recs.filter fun _=>false)++s.hp) b:=KA recs fun r J d=>by
   cases h:(a.testBit r.i&&Nat.blt r.i R.i) with
   | false=>rfl
   | true=>exact absurd (l r J (toS r h)) d
  refine⟨k,?_,hk⟩;show look (WR (recs.filter fun r=>S r.i)++s.hp) b=some k;rw[e1,<-e2];exact f
 ·have hl:look (hpS s recs S) b=some L:=Ea (p:=fun r=>S r.i) m n recs c.sorted A g;refine⟨L,hl,?_⟩;by_cases hin:ZZ masks Q.i R.i=true
  ·have T:=U5 x R.i u Q.i (by rw[<-Q3];exact hin);have W:(a.testBit Q.i&&Nat.blt Q.i R.i)=true:=by rw[Q3,w] at hin;rw[hin];simpa[Nat.blt_eq] using T
   have:=Ea (p:=fun q=>a.testBit q.i&&Nat.blt q.i R.i) (hp:=s.hp) m W recs c.sorted A (fun r J hp hn=>g r J (toS r hp) hn);rw[this] at f;cases f;exact hk
  ·have O:¬ZZ masks R.i Q.i=true:=fun h=>by have:=E Q.i n R.i h;rw[hS] at this;cases this
   have V:Q.i≠R.i:=fun e=>by rw[e,hS] at n;cases n
   have d:look Q.up b≠none:=by rw[m];simp
   obtain⟨h1,h2⟩|⟨h1,_⟩:=x.names Q A b d
   ·exfalso;obtain⟨q,M,H,Y⟩|C:=YM recs f
    ·simp only[jAj] at H;have t:ZZ masks q.i R.i=true:=by rw[Q3,w];exact H.1
     by_cases Z:q.i=Q.i
     ·rw[Z] at t;exact hin t
     ·obtain⟨N,_⟩|⟨N,z|⟨i,hi,z,g3⟩|z⟩:=x.names q M b Y
      ·omega
      ·exact z h2
      ·have:i=Q.i:=by omega
       subst this;have X:=U5 x R.i u q.i (by rw[<-Q3];exact t);have:=x.trans R.i u q.i X (by rw[<-Q3];exact t) Q.i (by rw[<-Q3];exact g3);rw[<-Q3] at this;exact hin this
      ·have:=c.lt Q A;omega
    ·rw[h2] at C;cases C
   ·have w1:=UW d h1;have:=x.blks Q R A hR;simp only[G1,Bool.or_eq_true,jAj,Bool.not_eq_true',w1,a0] at this;obtain((h|h)|h)|h:=this
    ·exact absurd h hin
    ·exact absurd h O
    ·exact absurd (Z1 h) V
    ·have U:wI Q R=false:=by simpa using h.1
     exact QgC (Qbf m) U v
theorem QdA (a:Recs cx call yc ops masks base s recs ops.toList.length)(g:DOk ops masks base s recs){S:Nat->Bool}{R:Rec}(f:R∈recs)(l:S R.i=false)
  (b:∀j,S j=true->∀i,ZZ masks i j=true->S i=true):look (hpS s recs S) (base+R.i)=none:=by
 cases h:look (hpS s recs S) (base+R.i) with
 | none=>rfl
 | some k =>
  exfalso;obtain⟨r,p,hp,c⟩|c:=YM recs h
  ·have o:r.i≠R.i:=fun e=>by rw[e,l] at hp;cases hp
   obtain⟨m,_⟩|⟨m,d|⟨i,hi,d,n⟩|d⟩:=g.names r p _ c
   ·omega
   ·exact d (g.free R.i (a.lt R f))
   ·have:i=R.i:=by omega
    subst this;have:=b r.i hp _ n;rw[l] at this;cases this
   ·have:=a.lt R f;omega
  ·rw[g.free R.i (a.lt R f)] at c;cases c
mutual
theorem VR.shrink {w:World}{M M2:Nat->Prop}{Hh hp' : List (Nat×Blk)}{ρ ρ' : Nat->Value}(hag:∀b k,look Hh b=some k->look hp' b=some k/\ρ' b=ρ b)(hM:∀r,r<w.heap.size->M2 r->M r) :
  ∀(x:AV) (y:Value),x.inH Hh=true->VR w M hp' ρ' x y->VR w M2 Hh ρ x y
 | .d x,y,_,h=>by
  cases h with
  | d _ _ h=>exact .d _ _ (h.ext (jLj _) (fun _ _ _=>rfl) hM)
 | .agg cs,y,hi,h=>by
  cases h with
  | agg _ ys hl hh=>exact .agg cs ys hl (VR.shrinks hag hM cs ys (by simpa[AV.inH] using hi) hh)
 | .tup cs,y,hi,h=>by
  cases h with
  | tup _ ys hl hh=>exact .tup cs ys hl (VR.shrinks hag hM cs ys (by simpa[AV.inH] using hi) hh)
 | .dptr x o,y,_,h=>by
  cases h with
  | dptr _ _ blk o' hd=>exact .dptr _ _ _ _ (hd.ext (jLj _) (fun _ _ _=>rfl) hM)
 | .ptr b ver sz i off,y,hi,h=>by
  cases h with
  | ptr _ _ _ _ _ k _ hb hv ho hh =>
   have hn:=V9.1 (by simpa[AV.inH] using hi:Vo Hh b=true);cases hl:look Hh b with
   | none=>exact absurd hl hn
   | some k' =>
    obtain⟨h1,h2⟩:=hag b k' hl;rw[h1] at hb;cases hb;exact .ptr b ver sz i off k y hl hv ho fun he=>by obtain⟨r,hr,hy⟩:=hh he;exact⟨r,by rw[<-h2];exact hr,hy⟩
 | .own b ver,y,hi,h=>by
  cases h with
  | own _ _ k _ hb hv ho hh =>
   have hn:=V9.1 (by simpa[AV.inH] using hi:Vo Hh b=true);cases hl:look Hh b with
   | none=>exact absurd hl hn
   | some k' =>
    obtain⟨h1,h2⟩:=hag b k' hl;rw[h1] at hb;cases hb;exact .own b ver k y hl hv ho fun he=>by rw[<-h2];exact hh he
 | .sub b ver sz lo n,y,hi,h=>by
  cases h with
  | sub _ _ _ _ _ k _ hb hv ho hh =>
   have hn:=V9.1 (by simpa[AV.inH] using hi:Vo Hh b=true);cases hl:look Hh b with
   | none=>exact absurd hl hn
   | some k' =>
    obtain⟨h1,h2⟩:=hag b k' hl;rw[h1] at hb;cases hb;exact .sub b ver sz lo n k y hl hv ho fun he=>by obtain⟨r,c,hr,hy⟩:=hh he;exact⟨r,c,by rw[<-h2];exact hr,hy⟩
 | .fn f p q,y,hi,h=>by
  cases h with
  | fn _ _ _ xs ys hl hm hh hk =>
   simp only[AV.inH,jAj] at hi;exact .fn f p q xs ys hl hm (VR.shrinks hag hM p xs hi.1 hh) (VR.shrinks hag hM q ys hi.2 hk)
 | .junk,y,_,_=>.junk y
theorem VR.shrinks {w:World}{M M2:Nat->Prop}{Hh hp' : List (Nat×Blk)}{ρ ρ' : Nat->Value}(hag:∀b k,look Hh b=some k->look hp' b=some k/\ρ' b=ρ b)(hM:∀r,r<w.heap.size->M2 r->M r) :
  ∀(cs:List AV) (ys:List Value),inHs Hh cs=true->(∀(i:Nat) (c:AV) (y:Value),cs[i]?=some c->ys[i]?=some y->VR w M hp' ρ' c y) ->
   ∀(i:Nat) (c:AV) (y:Value),cs[i]?=some c->ys[i]?=some y->VR w M2 Hh ρ c y
 | [],ys,_,_=>by intro i c y hc;simp at hc
 | x::cs,ys,hi,hh=>by
  intro i c y hc hy;simp only[inHs,jAj] at hi;cases i with
  | zero =>
   simp only[jzj,jIj] at hc;subst hc;exact VR.shrink hag hM x y hi.1 (hh 0 x y rfl hy)
  | succ i =>
   cases ys with
   | nil=>simp at hy
   | cons z ys=>exact VR.shrinks hag hM cs ys hi.2 (fun i c y hc hy=>hh (i+1) c y (by simpa using hc) (by simpa using hy)) i c y (by simpa using hc) (by simpa using hy)
end
theorem HSim.glue {H G:List (Nat×Blk)}{ρ a:Nat->Value}{q m:World}(i:HSim cx F G a q)(c:∀b k,look H b=some k->look G b=some k/\a b=ρ b)
  (t : HSim cx (fun r=>F r\/(Mut G a r/\¬Mut H ρ r)) H ρ m) (A:Ext q (Mut H ρ) m):HSim cx F G a m/\Steps1 G a q G a m:=by
 have j:∀r,Mut H ρ r->Mut G a r:=by rintro r ⟨b,k,d,n,o⟩;obtain⟨f,g⟩:=c b k d;exact⟨b,k,f,n,by rw[g];exact o⟩
 have u:∀r,MM F G a r->MM (fun r=>F r\/(Mut G a r/\¬Mut H ρ r)) H ρ r:=by
  rintro r (h|h)
  ·exact .inl (.inl h)
  ·by_cases z:Mut H ρ r
   ·exact .inr z
   ·exact .inl (.inr ⟨h,z⟩)
 have v:Grows H G ρ a:=⟨fun b k d=>⟨k,(c b k d).1,jLj _,fun _=>(c b k d).2⟩⟩
 have l:Steps1 G a q G a m:=⟨A.mono j,fun _ _ h=>h,Grows.refl _ _⟩
 refine⟨i.step l (fun b k d=>?_) i.inj i.forb,l⟩;cases hl:look H b with
 | some p =>
  obtain⟨f,g⟩:=c b p hl;rw[f] at d;cases d;right;exact(t.blk b k hl).ext (jLj _) (fun _ _ _=>rfl) (fun r _ h=>u r h) v g (fun _ _ _=>rfl)
 | none =>
  left;refine⟨d,rfl,fun n r o=>?_⟩;have w:=(i.blk b k d).root_lt n o;refine A.same r w ?_;rintro⟨b',p,e,x,y⟩;obtain⟨f,g⟩:=c b' p e;have:=i.inj b b' k p r d f n x o (by rw[g];exact y);subst this;rw[hl] at e;cases e
theorem HSim.gluE {H G:List (Nat×Blk)}{ρ a:Nat->Value}{j o:World}{E:Nat->Prop}(f:HSim cx F G a j)(d:∀b k,look H b=some k->look G b=some k/\a b=ρ b)
  (t : HSim cx (fun r=>(F r\/(Mut G a r/\¬Mut H ρ r))\/E r) H ρ o) (n:Ext j (Mut H ρ) o) (L:∀r,E r->j.heap.size<=r) :
  HSim cx (fun r=>F r\/E r) G a o/\Steps1 G a j G a o:=by
 have i:∀r,Mut H ρ r->Mut G a r:=by rintro r ⟨b,k,e,m,c⟩;obtain⟨p,q⟩:=d b k e;exact⟨b,k,p,m,by rw[q];exact c⟩
 have y:∀r,MM (fun r=>F r\/E r) G a r->MM (fun r=>(F r\/(Mut G a r/\¬Mut H ρ r))\/E r) H ρ r:=by
  rintro r ((h|h)|h)
  ·exact .inl (.inl (.inl h))
  ·exact .inl (.inr h)
  ·by_cases M:Mut H ρ r
   ·exact .inr M
   ·exact .inl (.inl (.inr ⟨h,M⟩))
 have u:∀r,r<j.heap.size->MM (fun r=>F r\/E r) G a r->MM F G a r:=by
  rintro r c ((h|h)|h)
  ·exact .inl h
  ·have:=L r h;omega
  ·exact .inr h
 have z:Grows H G ρ a:=⟨fun b k e=>⟨k,(d b k e).1,jLj _,fun _=>(d b k e).2⟩⟩
 have K:Steps1 G a j G a o:=⟨n.mono i,fun _ _ h=>h,Grows.refl _ _⟩
 have hc:∀r,r<j.heap.size->¬MM F G a r->o.heap[r]?=j.heap[r]?:=fun r c O=>n.same r c fun m=>O (.inr (i r m));refine⟨⟨fun b k e=>?_,f.inj,fun r c v=>?_,fun r c=>?_,fun g x N=>(f.glob g x N).ext n.size hc u⟩,K⟩
 ·cases hl:look H b with
  | some w =>
   obtain⟨p,q⟩:=d b w hl;rw[p] at e;cases e;exact(t.blk b k hl).ext (jLj _) (fun _ _ _=>rfl) (fun r _ h=>y r h) z q (fun _ _ _=>rfl)
  | none =>
   refine(f.blk b k e).ext n.size hc u (Grows.refl _ _) rfl fun m r c=>?_;have A:=(f.blk b k e).root_lt m c;refine n.same r A ?_;rintro⟨b',w,l,C,J⟩;obtain⟨p,q⟩:=d b' w l;have:=f.inj b b' k w r e p m C c (by rw[q];exact J);subst this;rw[hl] at l;cases l
 ·obtain v|v:=v
  ·exact f.forb r c v
  ·have:=f.mut_lt c;have:=L r v;omega
 ·obtain c|c:=c
  ·exact Nat.lt_of_lt_of_le (f.bnd r c) n.size
  ·exact t.bnd r (.inr c)
end
section
variable {cx:Cx}{F:Nat->Prop}{ρ0:Nat->Value}{w0:World}{ops:Array Oper}{masks:List Nat}{base:Nat}{s:St}{recs:List Rec}{call:Jt}{yc:Uu}
theorem HSim.back {H G:List (Nat×Blk)}{ρ0 n:Nat->Value}{w0 O:World}(h:HSim cx F H ρ0 w0)(L:HSim cx F G n O)(Q:Steps1 H ρ0 w0 G n O)(N:SubH H G) :
  HSim cx (fun r=>F r\/(Mut G n r/\¬Mut H ρ0 r)) H ρ0 O/\(∀b k,look H b=some k->look G b=some k/\n b=ρ0 b):=by
 have u:∀b k,look H b=some k->look G b=some k/\n b=ρ0 b:=by intro b k E;obtain⟨k',K,q,h3⟩:=Q.grow.dom b k E;have X:=N b k E;rw[K] at X;cases X;exact⟨K,h3 rfl⟩
 have C:∀r,Mut H ρ0 r->Mut G n r:=by rintro r ⟨b,k,E,hm,w⟩;obtain⟨K,q⟩:=u b k E;exact⟨b,k,K,hm,by rw[q];exact w⟩
 have m:∀r,r<O.heap.size->MM (fun r=>F r\/(Mut G n r/\¬Mut H ρ0 r)) H ρ0 r->MM F G n r:=by
  rintro r _ ((h|h)|h)
  ·exact .inl h
  ·exact .inr h.1
  ·exact .inr (C r h)
 refine⟨⟨fun b k E=>?_,h.inj,fun r w M=>?_,fun r w=>?_,fun g x hg=>?_⟩,u⟩
 ·obtain⟨K,q⟩:=u b k E;have Y:=h.blk b k E;have f:=L.blk b k K;cases k with
  | box x =>
   obtain⟨r,e,v,cs,o,z,A,J⟩:=f;obtain⟨_,_,v0,_,_,_,_,p4⟩:=Y;exact⟨r,e,v,cs,by rw[<-q];exact o,z,A,VR.restrict u m p4 v J⟩
  | loop rdy tm ps as bd nt =>
   obtain⟨l,W,o,A,J,U,V,q7,q8,q9,T⟩:=f;obtain⟨_,_,_,_,_,_,_,_,_,_,S⟩:=Y;exact⟨l,W,by rw[<-q];exact o,A,J,U,V,q7,q8,q9,fun t x Z=>VR.restrict u m (S t x Z) _ (T t x Z)⟩
  | mp es =>
   obtain⟨r,P,c,o,z,A⟩:=f;exact⟨r,P,c,by rw[<-q];exact o,z,A.ext (jLj _) (fun _ _ _=>rfl) m⟩
  | it s p =>
   obtain⟨r,o,z⟩:=f;exact⟨r,by rw[<-q];exact o,z⟩
  | left e =>
   obtain⟨l,W,o,A,J⟩:=f;exact⟨l,W,by rw[<-q];exact o,A,J⟩
  | fbox x =>
   obtain⟨r,o,z⟩:=f;exact⟨r,by rw[<-q];exact o,z.ext (jLj _) (fun _ _ _=>rfl) m⟩
  | dead=>trivial
  | row ver sz es =>
   obtain⟨q0,a0,o⟩|⟨r,c,e,cap,o,z,A,J,U,V⟩:=f
   ·exact .inl ⟨q0,a0,by rw[<-q];exact o⟩
   refine .inr ⟨r,c,e,cap,by rw[<-q];exact o,z,A,J,U,fun i d j a hd ha=>?_⟩;obtain⟨y,y1,y2,y3⟩:=V i d j a hd ha;exact⟨y,y1,y2,y3.ext (jLj _) (fun _ _ _=>rfl) m⟩
  | frozen ver sz es =>
   simp only[BlkR] at f ⊢;rw[<-q];exact f.ext (jLj _) (fun _ _ _=>rfl) m
  | virt ver sz es =>
   simp only[BlkR] at f ⊢;rw[<-q];exact f.ext (jLj _) (fun _ _ _=>rfl) m
 ·obtain M|M:=M
  ·exact L.forb r (C r w) M
  ·exact M.2 w
 ·obtain w|w:=w
  ·exact L.bnd r w
  ·exact L.mut_lt w.1
 ·exact(L.glob g x hg).ext (jLj _) (fun _ _ _=>rfl) m
theorem kR {p q:Rec->Bool}:∀{l:List Rec},(∀r,r∈l->r.up=[]\/p r=q r)->WR (l.filter p)=WR (l.filter q)
 | [],_=>rfl
 | r::l,h=>by
  have b:=kR (l:=l) fun r c=>h r (jmj _ c);simp only[List.filter_cons];obtain a|a:=h r jMj
  ·split<;>split<;>simp only[WR,a,List.nil_append,b]
  ·rw[a];split<;>simp only[WR,b]
theorem QdR (b:Recs cx call yc ops masks base s recs ops.toList.length)(n:DOk ops masks base s recs){S:Nat->Bool}{R:Rec}(p:R∈recs)(r:S R.i=false)
  (d:∀j,S j=true->∀i,ZZ masks i j=true->S i=true) (g:∀i,ZZ masks i R.i=true->S i=true) {a:Nat} (c:nth masks R.i=some a) (f:R.piv=true) :
  WR (Jo a (recs.filter fun q=>Nat.blt q.i R.i))++s.hp=hpS s recs S:=by
 unfold hpS;congr 1
 rw[U2,List.filter_filter];refine kR fun q t=>?_;have o:Vq masks R.i=a:=by simp[Vq,c]
 have l:=b.lt R p;by_cases k:q.i=R.i
 ·right;rw[k,r];have:Nat.blt R.i R.i=false:=by rw[<-Bool.not_eq_true];intro h;rw[Nat.blt_eq] at h;omega
  rw[this,Bool.and_false]
 ·obtain h|h|h|h:=n.pivs R p f q t
  ·exact absurd h k
  ·right;rw[g q.i h];have e:=U5 n R.i l q.i (by rw[<-Q3];exact h);rw[Q3,o] at h;rw[h];simpa[Nat.blt_eq] using e
  ·right;have m:S q.i=false:=by
    cases hh:S q.i with
    | false=>rfl
    | true=>have:=d q.i hh R.i h;rw[r] at this;cases this
   have e:=U5 n q.i (b.lt q t) R.i (by rw[<-Q3];exact h);have:Nat.blt q.i R.i=false:=by rw[<-Bool.not_eq_true];intro h;rw[Nat.blt_eq] at h;omega
   rw[m,this,Bool.and_false]
  ·exact .inl h
theorem Qe3 {H u:List (Nat×Blk)}{a:RC}(h:Qip H a=some u)(c:a.sfx=true->∀h,a.full=some h->∃new,h=new++H):u++H=a.heap H\/a.full=some u:=by
 unfold Qip at h;unfold RC.heap;cases hf:a.full with
 | none =>
  rw[hf] at h;simp only[jIj] at h;left;rw[<-h]
 | some g =>
  cases hx:a.sfx with
  | false=>rw[hf,hx] at h;cases h;exact .inr rfl
  | true =>
   left;rw[hf,hx] at h;simp only[jIj] at h;obtain⟨new,b⟩:=c hx g hf;rw[<-h,b];simp
theorem Qep {rr:Option Nat}{m:Nat}{e7:List Deferred}(b5:QaB cx call)(i4:zj call)(k8:jm cx yc)(A:Recs cx call yc ops masks base s recs ops.toList.length)(hd:DOk ops masks base s recs)(h0:HSim cx F s.hp ρ0 w0){S:Nat->Bool}{a:Act}{w:World}
    (f4:DInv cx ops e7 F ρ0 w0 masks s recs S a w) {R:Rec} (hR:R∈recs) (hS:S R.i=false) (a1:∀i,ZZ masks i R.i=true->S i=true) {Q:Exit->Act->World->Prop} {K:Act->World->Prop}
    (hK:∀a' w',DInv cx ops e7 F ρ0 w0 masks s recs (ins S R.i) a' w'->K a' w'):wpOpIn (fen rr) m cx.P ops Q R.i K a w:=by
  obtain⟨J,d5,d4,ρ,hs,ht,g6,f0,e6⟩:=f4;obtain⟨orc,ob,o',c,a0⟩:=A.told R hR;have f3:=YA c;obtain⟨_,o,ho,d2⟩:=f3;have j4:ops[R.i]?=some o:=by rw[<-Ga];exact ho
  have c2:=QgH A hd hR hS J a1 ho;unfold wpOpIn;rw[j4];simp only;unfold EW at c;rw[ho] at c;split at c;case h_2=>cases c
  rename_i o2 a3 j3 Z;cases j3;simp only at c;rw[QaD c2] at c;split at c
  · cases c
  · -- passed Ky
    rename_i d0;rw[KS ht d0];simp only[Bool.false_eq_true,if_false];simp only[jIj,jPj] at c;obtain⟨z,_,_⟩:=c;refine⟨fun _ _=>trivial,hK _ _ ?_⟩;have h1:R.up=[]:=by rw[<-z]
    have Y:R.val=.d (.v undef):=by rw[<-z]
    have:=QbA (v:=undef) A hd hR hS J a1 d5 d4 (fun p t0 hp _ j6=>by rw[ho] at hp;cases hp;simp[GM,j6] at d0) (by rw[h1];exact hs) (by rw[h1];exact ht) g6 f0 (by rw[h1];exact e6) (by rw[Y];exact .d _ _ (.v _))
    rw[d2] at this;exact this
  · rename_i d0
    rw[KS ht d0];simp only[if_true];have hev:=jX hs ht;have V:∀{R' : Rec} {up:List (Nat×Blk)} {x:AV} {ρ' : Nat->Value} {v:Value} {w' : World},R=R'->R'.up=up->HSim cx F (up++hpS s recs S) ρ' w'->Steps1 (hpS s recs S) ρ w (up++hpS s recs S) ρ' w' ->
        VR w' (MM F (up++hpS s recs S) ρ') (up++hpS s recs S) ρ' R'.val v->(∀t0,o.op=.move (.tmp t0)->v=a.eval (.tmp t0))->K (a.put o.dst v) w':=by
      intro R' up x ρ' v w' e1 e2 X T g3 g4;subst e1;subst e2;refine hK _ _ ?_;have:=QbA (v:=v) A hd hR hS J a1 d5 d4 (fun p t0 hp j7 _=>by rw[ho] at hp;cases hp;exact g4 t0 j7) X (fun t x hx=>T.vr (ht t x hx)) g6 f0 (e6.trans T) g3
      rw[d2] at this;exact this
    split at c
    · -- a call
      rename_i fv a8 a5;have d3:∀x,x∈o.op.operands.toList->evA cx (YL (recs.filter fun q=>Nat.blt q.i R.i)++s.tm) x=evA cx (tmS s recs S) x:=ze c2;obtain⟨ats,N⟩:=GY a5;have i7:evA cx (YL (recs.filter fun q=>Nat.blt q.i R.i)++s.tm) fv=evA cx (tmS s recs S) fv:=d3 fv (by simp[N,Op.operands,Call.operands]);have d9:a8.map (evA cx (YL (recs.filter fun q=>Nat.blt q.i R.i)++s.tm))=a8.map (evA cx (tmS s recs S)) :=
        List.map_congr_left fun x hx=>d3 x (by simp[N,Op.operands,Call.operands];exact .inr hx)
      rw[i7,d9] at c;split at c
      · -- yield
        rename_i yb ver k9;split at c
        · cases c
        rename_i rc a6;have h8 : ∃h,rc.full=some h/\R.up=h/\R.piv=true/\(∀p,p∈rc.ob->p)/\∀{M:Nat->Prop} {f8 : List (Nat×Blk)} {ρ' : Nat->Value} {w' : World} {v:Value},VR w' M f8 ρ' rc.val v->VR w' M f8 ρ' R.val v:=by
          split at c
          · rename_i h j _
            split at c;case h_2=>cases c
            rename_i y h4 o2 b2;simp only[jIj,jPj] at c;obtain⟨z,l,_⟩:=c;refine⟨h,j,by rw[<-z],by rw[<-z],fun p hp=>a0 p (by rw[<-l];simp[hp]),fun hv=>?_⟩;rw[<-z];exact Eb b2 (fun p hp=>a0 p (by rw[<-l];simp[hp])) hv
          · rename_i h j _
            simp only[jIj,jPj] at c;obtain⟨z,l,_⟩:=c;exact⟨h,j,by rw[<-z],by rw[<-z],fun p hp=>a0 p (by rw[<-l];exact hp),fun hv=>by rw[<-z];exact hv⟩
          · cases c
        obtain⟨H2,j,W,c5,a7,a2⟩:=h8;-- what has been run is just what must come before it
        have O:=QdR A hd hR hS J a1 Z c5;rw[O] at a6;obtain⟨l2,k2⟩:=GT hev a8;obtain⟨⟨k,hk,g8⟩,ly,l7,b4,hl,g7,c9⟩:=k8 _ _ _ _ _ _ _ rc a6 a7 rr (m - 1) F ρ w _ hs l2 k2;have c1:=hev fv;rw[yT k9] at c1;have hv:a.eval fv=.func (.yield ly) #[] #[]:=by
          generalize a.eval fv=y at c1;cases c1 with
          | own _ _ k' _ E hv ho h =>
            rw[hk] at E;cases E;rw[h g8,b4]
        rw[Oper.wpIn,Oper.semAt_eq _ _ _ (VV a5),QaV a5 hv,run_yield hl (by simpa using g7.symm)];refine⟨fun _ _=>trivial,?_⟩;rw[Oper.uponIn_round];refine⟨fun h=>(by cases h),c9.mono ?_⟩;rintro e w' ⟨v,rfl,ρ',X,T,g3⟩;have c6:rc.heap (hpS s recs S)=H2:=by rw[RC.heap,j]
        rw[c6] at X T g3;have b6:∀b,look (H2++hpS s recs S) b=look H2 b:=by
          intro b;rw[WH];cases h:look H2 b with
          | some k=>rfl
          | none =>
            simp only;cases Y:look (hpS s recs S) b with
            | none=>rfl
            | some k =>
              obtain⟨k',h3,_⟩:=T.grow.dom b k Y;rw[h] at h3;cases h3
        obtain⟨u1,u2⟩:=W6 b6 X;exact V (R':=R) (up:=H2) (x:=R.val) rfl W u1 (T.trans u2) (a2 (u2.vr g3)) (fun t0 h=>by rw[N] at h;cases h)
      split at c
      · -- a call with effects
        split at c;case h_2=>cases c
        rename_i f p q e0 _;split at c;case h_2=>cases c
        rename_i rc a6;split at c;case h_2=>cases c
        rename_i u hu;simp only[jIj,jPj] at c;obtain⟨z,l,_⟩:=c;have c5:R.piv=true:=by rw[<-z]
        have W:R.up=u:=by rw[<-z]
        have a2:R.val=rc.val:=by rw[<-z]
        have O:=QdR A hd hR hS J a1 Z c5;rw[O] at a6 hu;obtain⟨xs,ys,hv,l1,l3,k1,k3⟩:=KY e0 (hev fv);obtain⟨l2,k2⟩:=GT hev a8;obtain⟨l4,k4⟩:=wx l1 l2 l3 k1 k2 k3;have:=b5 _ _ _ _ _ _ _ rc a6 (fun p hp=>a0 p (by rw[<-l];exact hp)) F ρ w _ hs l4 k4;have L:=Qe3 hu (i4 _ _ _ _ _ _ _ rc a6);rw[Oper.wpIn,Oper.semAt_eq _ _ _ (VV a5),jb a5 hv];refine⟨fun _ _=>trivial,?_⟩;obtain⟨v,r1,hf,k6,r4⟩|⟨r1,r2⟩:=this
        · rw[r1]
          simp only[Oper.uponIn];have k7:rc.heap (hpS s recs S)=hpS s recs S:=by rw[RC.heap,hf,k6];rfl
          have L:=L.resolve_right (by rw[hf];simp);rw[k7] at L;have l5:u=[]:=by have:=congrArg List.length L;simp only[jaj] at this;exact List.length_eq_zero_iff.1 (by omega)
          refine V (R':=R) (up:=u) (x:=R.val) (ρ':=ρ) rfl W ?_ ?_ ?_ (fun t0 h=>by rw[N] at h;cases h)
          · rw[L];exact hs
          · rw[L];exact Steps1.refl _ _ _
          · rw[L,a2];exact r4
        · rw[r1]
          simp only[Oper.uponIn];refine⟨fun h=>(by cases h),Qah rr (r2.mono ?_)⟩;rintro e w' ⟨v,rfl,ρ',X,T,g3⟩;obtain L|j:=L;case inr =>
            have c6:rc.heap (hpS s recs S)=u:=by rw[RC.heap,j]
            rw[c6] at X T g3;have b6:∀b,look (u++hpS s recs S) b=look u b:=by
              intro b;rw[WH];cases h:look u b with
              | some k=>rfl
              | none =>
                simp only;cases Y:look (hpS s recs S) b with
                | none=>rfl
                | some k =>
                  obtain⟨k',h3,_⟩:=T.grow.dom b k Y;rw[h] at h3;cases h3
            obtain⟨u1,u2⟩:=W6 b6 X;exact V (R':=R) (up:=u) (x:=R.val) rfl W u1 (T.trans u2) (by rw[a2];exact u2.vr g3) (fun t0 h=>by rw[N] at h;cases h)
          rw[<-L] at X T g3;exact V (R':=R) (up:=u) (x:=R.val) rfl W X T (by rw[a2];exact g3) (fun t0 h=>by rw[N] at h;cases h)
      split at c
      · cases c
      rename_i f p q e0;split at c;case h_2=>cases c
      rename_i rc hin a6;obtain⟨xs,ys,hv,l1,l3,k1,k3⟩:=KY e0 (hev fv);obtain⟨l2,k2⟩:=GT hev a8;obtain⟨l4,k4⟩:=wx l1 l2 l3 k1 k2 k3;have l0:R.piv=false:=by
        split at c
        · split at c
          case h_2=>cases c
          simp only[jIj,jPj] at c;rw[<-c.1]
        · simp only[jIj,jPj] at c
          rw[<-c.1]
        · obtain⟨_,_,_,hR,_⟩:=Jc c
          rw[hR]
        · cases c
      have i5:R.fp=none:=by
        split at c
        · split at c
          case h_2=>cases c
          simp only[jIj,jPj] at c;rw[<-c.1]
        · simp only[jIj,jPj] at c
          rw[<-c.1]
        · obtain⟨_,_,_,hR,_⟩:=Jc c
          rw[hR]
        · cases c
      have j8:R.adr=false:=by
        split at c
        · split at c
          case h_2=>cases c
          simp only[jIj,jPj] at c;rw[<-c.1]
        · simp only[jIj,jPj] at c
          rw[<-c.1]
        · obtain⟨_,_,_,hR,_⟩:=Jc c
          rw[hR]
        · cases c
      -- what was there at the region's head is unwritten so far,or nothing is seen of it
      have h6:∃H,qj s (recs.filter fun q=>Nat.blt q.i R.i) a3=H/\HSim cx (fun r=>F r\/(Mut (hpS s recs S) ρ r/\¬Mut H ρ0 r)) H ρ0 w/\(∀b k,look H b=some k->look (hpS s recs S) b=some k/\ρ b=ρ0 b):=by
       cases hany:((Jo a3 (recs.filter fun q=>Nat.blt q.i R.i)).any fun r=>r.up.any fun p=>Vo s.hp p.1) with
       | true =>
        have he:qj s (recs.filter fun q=>Nat.blt q.i R.i) a3=[]:=by unfold qj;rw[hany]
        refine⟨[],he,⟨fun b k E=>(by cases E),fun b b' k k' r E=>(by cases E),fun r G=>?_,fun r G=>?_,fun g x hg=>?_⟩,fun b k E=>(by cases E)⟩
        · obtain⟨b,k,E,_⟩:=G;cases E
        · obtain G|G:=G
          · exact hs.bnd r G
          · exact hs.mut_lt G.1
        · refine(hs.glob g x hg).ext (jLj _) (fun _ _ _=>rfl) ?_
          rintro r _ ((h|h)|⟨b,k,E,_⟩)
          · exact .inl h
          · exact .inr h.1
          · cases E
       | false =>
        have he:qj s (recs.filter fun q=>Nat.blt q.i R.i) a3=s.hp:=by unfold qj;rw[hany]
        have c7:∀r,r∈recs->(∃b,look r.up b≠none/\look s.hp b≠none)->ZZ masks r.i R.i=false:=by
          rintro r G ⟨b,c0,i2⟩;cases hm:ZZ masks r.i R.i with
          | false=>rfl
          | true =>
            exfalso;have e4:=U5 hd R.i (A.lt R hR) r.i (by rw[<-Q3];exact hm);have j0:Vq masks R.i=a3:=by simp[Vq,Z]
            rw[Q3,j0] at hm;obtain⟨k,hk⟩:=Gd c0;have h1:(r.up.any fun p=>Vo s.hp p.1)=true:=List.any_eq_true.2 ⟨_,hk,V9.2 i2⟩;have Y:((Jo a3 (recs.filter fun q=>Nat.blt q.i R.i)).any fun r=>r.up.any fun p=>Vo s.hp p.1)=true:=by refine List.any_eq_true.2 ⟨r,?_,h1⟩;rw[U2];exact List.mem_filter.2 ⟨List.mem_filter.2 ⟨G,by simpa[Nat.blt_eq] using e4⟩,hm⟩
            rw[hany] at Y;cases Y
        refine⟨s.hp,he,h0.back hs e6 ?_⟩;intro b k E;have:look (WR (recs.filter fun r=>S r.i)++s.hp) b=look (WR (recs.filter fun _=>false)++s.hp) b:=by
          refine KA recs fun r G e5=>?_;cases hh:S r.i with
          | false=>rfl
          | true =>
            exfalso;have c8:r.i≠R.i:=fun e=>by rw[e,hS] at hh;cases hh
            have i3:b≠base+r.i:=fun e=>by rw[e,hd.free r.i (A.lt r G)] at E;cases E
            have w1:=UW e5 i3;have j1:=c7 r G ⟨b,e5,by rw[E];simp⟩;have j9:Uc ops R.i=true:=by rw[zI ho];simp[yL,N]
            have:=hd.blks r R G hR;simp only[G1,Bool.or_eq_true,jAj,Bool.not_eq_true',w1,j9,QdH (q:=R) j8 e5 (fun fs hf=>by rw[i5] at hf;cases hf)] at this;obtain((h|h)|h)|h:=this
            · rw[j1] at h;cases h
            · have:=J r.i hh R.i h;rw[hS] at this;cases this
            · exact c8 (Z1 h)
            · simp at h
        have Y:(recs.filter fun _=>false)=[]:=by simp
        show look (WR (recs.filter fun r=>S r.i)++s.hp) b=some k;rw[this,Y];exact E
      obtain⟨H,e8,c0,b7⟩:=h6;rw[e8] at hin a6;have h7:∀r,r<w.heap.size->MM (fun r=>F r\/(Mut (hpS s recs S) ρ r/\¬Mut H ρ0 r)) H ρ0 r->MM F (hpS s recs S) ρ r:=by
        rintro r _ ((h|h)|⟨b,k,E,hm,G⟩)
        · exact .inl h
        · exact .inr h.1
        · obtain⟨h1,Y⟩:=b7 b k E
          exact .inr ⟨b,k,h1,hm,by rw[Y];exact G⟩
      have k5:=VR.shrinks b7 h7 _ _ hin k4;have d6:∀(a7:∀p,p∈rc.ob->p),rc.full=none->rc.up=[]->(∀{y:AV} {v:Value} {w' : World} {ρ' : Nat->Value},HSim cx F (hpS s recs S) ρ w'->Steps1 (hpS s recs S) ρ w (hpS s recs S) ρ w' ->
          VR w' (MM F (hpS s recs S) ρ) (hpS s recs S) ρ rc.val v->K (a.put o.dst v) w')->o.wpIn (fen rr) m cx.P a w K Q:=by
        intro a7 j W hk;have:=b5 _ _ _ _ _ _ _ rc a6 a7 _ ρ0 w _ c0 l4 k5;have O:rc.heap H=H:=by rw[RC.heap,j,W];rfl
        have f1:Grows H (hpS s recs S) ρ0 ρ:=⟨fun b k E=>⟨k,(b7 b k E).1,jLj _,fun _=>(b7 b k E).2⟩⟩
        have d1:∀r,MM F (hpS s recs S) ρ r->MM (fun r=>F r\/(Mut (hpS s recs S) ρ r/\¬Mut H ρ0 r)) H ρ0 r:=by
          rintro r (h|h)
          · exact .inl (.inl h)
          · by_cases hh:Mut H ρ0 r
            · exact .inr hh
            · exact .inl (.inr ⟨h,hh⟩)
        rw[Oper.wpIn,Oper.semAt_eq _ _ _ (VV a5),jb a5 hv];refine⟨fun _ _=>trivial,?_⟩;obtain⟨v,r1,_,_,r4⟩|⟨r1,r2⟩:=this
        · rw[r1]
          simp only[Oper.uponIn];exact hk (y:=rc.val) (ρ':=ρ) hs (Steps1.refl _ _ _) (r4.ext (jLj _) (fun _ _ _=>rfl) (fun r _ h=>d1 r h) f1)
        · rw[r1]
          simp only[Oper.uponIn];refine⟨fun h=>(by cases h),Qah rr (r2.mono ?_)⟩;rintro e w' ⟨v,rfl,ρ',X,T,g3⟩;rw[O] at X T g3;-- the names of the head stand for what they stood
          have b4:∀b k,look H b=some k->ρ' b=ρ0 b:=fun b k E=>by obtain⟨k',h1,_,h3⟩:=T.grow.dom b k E;rw[E] at h1;cases h1;exact h3 rfl
          have f2:Grows H H ρ' ρ0:=⟨fun b k E=>⟨k,E,jLj _,fun _=>(b4 b k E).symm⟩⟩
          have f6:∀r,Mut H ρ0 r↔Mut H ρ' r:=fun r=>by
            constructor
            · rintro⟨b,k,E,hm,G⟩;exact⟨b,k,E,hm,by rw[b4 b k E];exact G⟩
            · rintro⟨b,k,E,hm,G⟩;exact⟨b,k,E,hm,by rw[<-b4 b k E];exact G⟩
          have d7:Steps1 H ρ' w' H ρ0 w':=⟨Ext.refl _ _,fun r _ hm=>(f6 r).1 hm,f2⟩
          have d8:=X.step d7 (fun b k E=>.inl ⟨E,(b4 b k E).symm,fun _ _ _=>rfl⟩)
            (fun b b' k k' r h1 Y m1 m2 r1 r2=>X.inj b b' k k' r h1 Y m1 m2 (by rw[b4 b k h1];exact r1) (by rw[b4 b' k' Y];exact r2)) (fun r G=>X.forb r ((f6 r).1 G))
          obtain⟨q1,q2⟩:=hs.glue b7 d8 T.ext;have h5:=d7.vr g3;exact hk (y:=rc.val) (ρ':=ρ) q1 q2 (h5.ext (jLj _) (fun _ _ _=>rfl) (fun r _ h=>d1 r h) f1)
      split at c
      · rename_i j W _
        split at c;case h_2=>cases c
        rename_i y h4 o2 b2;simp only[jIj,jPj] at c;obtain⟨z,l,_⟩:=c;refine d6 (fun p hp=>a0 p (by rw[<-l];simp[hp])) j W fun {_ v w' ρ'} q1 q2 q3=>?_;exact V (up:=[]) (x:=y) z.symm rfl q1 q2 (Eb b2 (fun p hp=>a0 p (by rw[<-l];simp[hp])) q3) (fun t0 h=>by rw[N] at h;cases h)
      · rename_i j W _
        simp only[jIj,jPj] at c;obtain⟨z,l,_⟩:=c;refine d6 (fun p hp=>a0 p (by rw[<-l];exact hp)) j W fun {_ v w' ρ'} q1 q2 q3=>?_;exact V (up:=[]) (x:=rc.val) z.symm rfl q1 q2 q3 (fun t0 h=>by rw[N] at h;cases h)
      · -- a row that the call has made
        rename_i p0 j W _;obtain⟨b,k0,j5,z,a2,l,e9,e3⟩:=Jc c;rw[e8] at e9;have:=b5 _ _ _ _ _ _ _ rc a6 (fun p hp=>a0 p (by rw[l];exact hp)) _ ρ0 w _ c0 l4 k5;have O:rc.heap H=(b,k0)::H:=by rw[RC.heap,j,W,j5];rfl
        have f7:look (hpS s recs S) (base+R.i)=none:=QdA A hd hR hS J;rw[Oper.wpIn,Oper.semAt_eq _ _ _ (VV a5),jb a5 hv];refine⟨fun _ _=>trivial,?_⟩;obtain⟨v,r1,_,hu,_⟩|⟨r1,r2⟩:=this
        · rw[W] at hu;cases hu
        · rw[r1]
          simp only[Oper.uponIn];refine⟨fun h=>(by cases h),Qah rr (r2.mono ?_)⟩;rintro e w' ⟨v,rfl,ρ',X,T,g3⟩;rw[O] at X T g3;rw[a2] at g3;have c8:∀b' k,look H b'=some k->b'≠b:=fun b' k U e=>by rw[e,e9] at U;cases U
          have b9:∀b' k,look H b'=some k->look ((b,k0)::H) b'=some k/\ρ' b'=ρ0 b':=fun b' k U=>by
            have h1:look ((b,k0)::H) b'=some k:=by rw[Qc _ _ (Ne.symm (c8 b' k U))];exact U
            obtain⟨k',Y,_,h3⟩:=T.grow.dom b' k U;rw[h1] at Y;cases Y;exact⟨h1,h3 rfl⟩
          have hE:∀r,QX (ρ' b)=some r->Mut ((b,k0)::H) ρ' r/\w.heap.size<=r:=by
            intro r G;have hm:Mut ((b,k0)::H) ρ' r:=⟨b,_,Qf _ _ _,GV e3,G⟩
            refine⟨hm,?_⟩;obtain e4|i8:=Nat.lt_or_ge r w.heap.size
            · exfalso
              obtain⟨b',k',U,c3,b3⟩:=T.mt r e4 hm;obtain⟨h1,Y⟩:=b9 b' k' U;have:=X.inj b' b k' _ r h1 (Qf _ _ _) c3 (GV e3) (by rw[Y];exact b3) G;exact c8 b' k' U this
            · exact i8
          have d8:=c0.restrictE X b9 T.ext hE;obtain⟨q1,q2⟩:=hs.gluE b7 d8 T.ext (fun r G=>(hE r G).2);have g5:FreshV w' (MM (fun r=>F r\/QX (ρ' b)=some r) (hpS s recs S) ρ) (ρ' b) (stamp k0):=by
            have h0:FreshV w' (MM (fun r=>F r\/(Mut (hpS s recs S) ρ r/\¬Mut H ρ0 r)) ((b,k0)::H) ρ') (ρ' b) k0:=jT e3 (X.blk b _ (Qf _ _ _));refine h0.stamp.sub ?_;rintro r _ ((h|h)|h)
            · exact .inl (.inl h)
            · exact .inr (hE r h).1
            · by_cases hh:Mut H ρ0 r
              · obtain⟨b',k',U,c3,b3⟩:=hh
                obtain⟨h1,Y⟩:=b9 b' k' U;exact .inr ⟨b',k',h1,c3,by rw[Y];exact b3⟩
              · exact .inl (.inr ⟨h,hh⟩)
          have q3:=q1.name (nm:=base+R.i) f7 (fun r h=>h) (fun r G hf=>by have h1:=hs.bnd r hf;have Y:=(hE r G).2;omega) g5
          have q4:Steps1 (hpS s recs S) ρ w ((base+R.i,stamp k0)::hpS s recs S) (VI ρ (base+R.i) (ρ' b)) w':=by
            refine⟨q2.ext,fun r G hm=>?_,⟨fun n k hn=>?_⟩⟩
            · obtain⟨n,k',hn,c3,b3⟩:=hm
              by_cases b8:n=base+R.i
              · subst b8
                rw[Qx] at b3;have:=(hE r b3).2;omega
              · rw[Qc _ _ (Ne.symm b8)] at hn;rw[QL _ _ b8] at b3;exact⟨n,k',hn,c3,b3⟩
            · have b8:n≠base+R.i:=fun e=>by rw[e,f7] at hn;cases hn
              exact⟨k,by rw[Qc _ _ (Ne.symm b8)];exact hn,jLj _,fun _=>QL _ _ b8⟩
          refine V (R':=R) (up:=[(base+R.i,stamp k0)]) (x:=R.val) rfl (by rw[z]) q3 q4 ?_ (fun t0 h=>by rw[N] at h;cases h);have h9:R.val=.own (base+R.i) 0:=by rw[z]
          rw[h9];cases g3 with
          | own _ _ kk _ U l6 j2 i9 =>
            rw[Qf] at U;cases U;exact .own _ 0 _ _ (Qf _ _ _) (Nat.zero_le _) j2 fun _=>by rw[Qx];exact i9 rfl
      · cases c
    · -- another operation
      rename_i a5;split at c
      · rename_i k a9
        unfold QfR at a9;cases a9
      split at c
      · rename_i k a9
        unfold QhW at a9;cases a9
      split at c
      · cases c
      rename_i r G;rw[Qg9 (ze c2)] at G;have i6:uR (evA cx (YL (recs.filter fun q=>Nat.blt q.i R.i)++s.tm)) o=R.fp:=by
        split at c
        · split at c
          case h_2=>cases c
          simp only[jIj,jPj] at c;rw[<-c.1]
        · simp only[jIj,jPj] at c
          rw[<-c.1]
      have a4:adrB (E1 masks s (recs.filter fun q=>Nat.blt q.i R.i) o a3 (uR (evA cx (YL (recs.filter fun q=>Nat.blt q.i R.i)++s.tm)) o)) (qA (evA cx (YL (recs.filter fun q=>Nat.blt q.i R.i)++s.tm)) o)=R.adr:=by
        split at c
        · split at c
          case h_2=>cases c
          simp only[jIj,jPj] at c;rw[<-c.1]
        · simp only[jIj,jPj] at c
          rw[<-c.1]
      rw[i6] at G a4;have f9:aop cx s.sym orc (hpS s recs S) (base+R.i) (evA cx (tmS s recs S)) o=some r:=by
        cases ha:R.adr with
        | false=>exact Qiz (Qew A hd hR hS J a1 ho Z ha) (QdA A hd hR hS J) G
        | true =>
          rw[ha] at a4;have i1:qA (evA cx (YL (recs.filter fun q=>Nat.blt q.i R.i)++s.tm)) o=qA (evA cx (tmS s recs S)) o:=by
            unfold qA;split
            · rename_i c4
              rw[ze c2 _ (by rw[c4];simp[Op.operands])]
            · rename_i c4
              rw[ze c2 _ (by rw[c4];simp[Op.operands])]
            · rfl
          rw[i1] at a4;unfold adrB at a4;split at a4;case h_2=>cases a4
          rename_i b i0;split at a4;case h_2=>cases a4
          rename_i k f5;obtain⟨k',X,T⟩:=Qex A hd hR hS J a1 ho Z f5 a4;refine QiA i0 (fun v hv=>?_) G;unfold El at hv ⊢;rw[f5] at hv;rw[X];have hz:∀{k:Blk},boxB k=true->k.ver=0:=fun {k} h=>by cases k<;>first|rfl|cases h
          simp only[hz a4] at hv;simp only[hz T];exact hv
      have g9:(∀p,p∈r.ob->p)->(∀{ρ' : Nat->Value} {v:Value} {w' : World},HSim cx F (r.up++hpS s recs S) ρ' w'->Steps1 (hpS s recs S) ρ w (r.up++hpS s recs S) ρ' w' ->
          VR w' (MM F (r.up++hpS s recs S) ρ') (r.up++hpS s recs S) ρ' r.val v->(∀t0,o.op=.move (.tmp t0)->v=a.eval (.tmp t0))->K (a.put o.dst v) w')->o.wpIn (fen rr) m cx.P a w K Q:=by
        intro a7 hk;obtain⟨v,w',C,ρ',X,T,g3⟩:=QbK hs (fun _=>rfl) hev f9 a7;have:=hk X T g3 (fun t0 h=>by
          have he:(execOp a.eval o).run cx.P w=.ok (.value (a.eval (.tmp t0))) w:=by simp only[execOp,h];rfl
          obtain C|⟨C,_⟩:=C
          · rw[he] at C;cases C;rfl
          · rw[he] at C;cases C)
        unfold Oper.wpIn;rw[Oper.semAt_eq _ _ _ (yq f9)];refine⟨fun _ _=>trivial,?_⟩;obtain C|⟨C,rfl⟩:=C
        · rw[C];exact this
        · rw[C];exact this
      split at c
      · split at c
        case h_2=>cases c
        rename_i y h4 o2 b2;simp only[jIj,jPj] at c;obtain⟨z,l,_⟩:=c;refine g9 (fun p hp=>a0 p (by rw[<-l];simp[hp])) fun {ρ' v w'} X T g3 g4=>?_;exact V (x:=y) z.symm rfl X T (Eb b2 (fun p hp=>a0 p (by rw[<-l];simp[hp])) g3) g4
      · simp only[jIj,jPj] at c
        obtain⟨z,l,_⟩:=c;refine g9 (fun p hp=>a0 p (by rw[<-l];exact hp)) fun {ρ' v w'} X T g3 g4=>?_;exact V (x:=r.val) z.symm rfl X T g3 g4
def lst (listed:Array Bool):Nat->Bool:=fun i=>listed.getD i false
theorem QfP {listed:Array Bool}{j:Nat}(a:j<listed.size):lst (listed.setIfInBounds j true)=ins (lst listed) j:=by
 funext i
 simp only[lst,ins,Array.getD_eq_getD_getElem?,Array.getElem?_setIfInBounds];by_cases h:j=i
 ·subst h;rw[jTj rfl,jTj a];have:Nat.beq j j=true:=Nat.beq_refl j;simp[this]
 ·rw[jFj h];have:Nat.beq i j=false:=by
   cases hb:Nat.beq i j with
   | false=>rfl
   | true=>exact absurd (Z1 hb).symm h
  simp[this]
def unl (n:Nat)(listed:Array Bool):List Nat:=(List.range n).filter fun i=>!(lst listed i)
theorem QiI {n:Nat}{listed:Array Bool}{j k:Nat}(e:j<n)(b:j<listed.size)(g:lst listed j=false)(f:(unl n listed).length=k+1):(unl n (listed.setIfInBounds j true)).length=k:=by
 have a:j∈unl n listed:=by simp[unl,e,g]
 have c:(unl n listed).Nodup:=List.Pairwise.filter _ List.nodup_range;have d:unl n (listed.setIfInBounds j true)=(unl n listed).erase j:=by
  rw[List.Nodup.erase_eq_filter c];simp only[unl,List.filter_filter];refine List.filter_congr fun i _=>?_;rw[QfP b];simp only[ins];by_cases h:i=j
  ·subst h;have:Nat.beq i i=true:=Nat.beq_refl i;simp[this]
  ·have:Nat.beq i j=false:=by
    cases hb:Nat.beq i j with
    | false=>rfl
    | true=>exact absurd (Z1 hb) h
   simp[this,h]
 rw[d,List.length_erase_of_mem a,f];rfl
theorem Qha {rr:Option Nat}{m:Nat}{x:List Deferred}(y:QaB cx call)(K:zj call)(O:jm cx yc)(t:Recs cx call yc ops masks base s recs ops.toList.length)(L:DOk ops masks base s recs)(T:HSim cx F s.hp ρ0 w0){Q:Exit->Act->World->Prop}
  (Y:∀ρ' A w',HSim cx F (WR recs++s.hp) ρ' w'->TSim F (YL recs++s.tm) (WR recs++s.hp) ρ' A w'->A.tmps.size=s.nt->A.defers=x->Steps1 s.hp ρ0 w0 (WR recs++s.hp) ρ' w'->Q .normal A w') :
  ∀(d:Nat) (listed:Array Bool) (a:Act) (w:World),listed.size=ops.size->(unl ops.size listed).length=d->DInv cx ops x F ρ0 w0 masks s recs (lst listed) a w->wpAnyIn (fen rr) m cx.P .any ops Q d listed a w:=by
 have Z:ops.toList.length=ops.size:=by simp
 have q:∀(listed:Array Bool) (a:Act) (w:World),(∀i,i<ops.size->lst listed i=true)->DInv cx ops x F ρ0 w0 masks s recs (lst listed) a w->Q .normal a w:=by intro listed a w g b;obtain⟨_,_,_,ρ,u,f,n,U,S⟩:=b;have W:(recs.filter fun r=>lst listed r.i)=recs:=List.filter_eq_self.2 fun r N=>g r.i (by have:=t.lt r N;omega);simp only[hpS,tmS,W] at u f S;exact Y ρ a w u f n U S
 have c:∀(listed:Array Bool),listed.size=ops.size->∀i,i∈Region.ready .any ops listed↔i<ops.size/\lst listed i=false/\∃o,ops[i]?=some o/\∀e,e∈o.after.toList->Region.binds .any e=true->lst listed e.on=true:=by
  intro listed k i;simp only[Region.ready,List.mem_filter,List.mem_range,jAj,Bool.not_eq_true'];constructor
  ·rintro⟨u,f,n⟩;refine⟨u,?_,?_⟩
   ·simp only[lst];rw[Array.getD_eq_getD_getElem?] at f ⊢;have:i<listed.size:=by omega
    simp[this] at f ⊢;exact f
   ·cases C:ops[i]? with
    | none=>rw[C] at n;simp at n
    | some o =>
     rw[C] at n;simp only[Option.map_some,Option.getD_some,Array.all_eq_true'] at n;refine⟨o,rfl,fun e E v=>?_⟩;have:=n e (by simpa using E);rw[v] at this;simpa[lst] using this
  ·rintro⟨u,f,o,C,n⟩;refine⟨u,?_,?_⟩
   ·simp only[lst] at f;rw[Array.getD_eq_getD_getElem?] at f ⊢;have:i<listed.size:=by omega
    simp[this] at f ⊢;exact f
   ·rw[C];simp only[Option.map_some,Option.getD_some,Array.all_eq_true'];intro e E;by_cases v:Region.binds .any e=true
    ·have:=n e (by simpa using E) v;simp only[lst] at this;rw[v];simpa using this
    ·simp only[Bool.not_eq_true] at v;rw[v];rfl
 intro d;induction d with
 | zero =>
  intro listed a w k p b;have g:∀i,i<ops.size->lst listed i=true:=by
   intro i hi;have:unl ops.size listed=[]:=List.length_eq_zero_iff.1 p;cases h:lst listed i with
   | true=>rfl
   | false =>
    have J:i∈unl ops.size listed:=by simp[unl,hi,h]
    rw[this] at J;simp at J
  refine⟨?_,q listed a w g b⟩;cases N:Region.ready .any ops listed with
  | nil=>rfl
  | cons i l =>
   have J:i∈Region.ready .any ops listed:=by rw[N];exact jMj
   obtain⟨u,f,_⟩:=(c listed k i).1 J;rw[g i u] at f;cases f
 | succ d ih =>
  intro listed a w k p b;refine⟨fun G=>q listed a w (fun i=>?_) b,fun j X=>?_⟩
  ·induction i using Nat.strongRecOn with
   | _ i ihi =>
    intro hi;cases h:lst listed i with
    | true=>rfl
    | false =>
     exfalso;have:i∈Region.ready .any ops listed:=by rw[c listed k i];refine⟨hi,h,ops[i],by simp[hi],fun e E v=>?_⟩;have M:=(L.spec i ops[i] (by rw[Ga];simp[hi])).2 e E v;exact ihi e.on M (by omega)
     rw[G] at this;simp at this
  ·obtain⟨u,f,o,C,n⟩:=(c listed k j).1 X;obtain⟨R,V,rfl⟩:=t.all j (by omega);have H:=QeK L b.clo (by rw[Ga];exact C) n;refine Qep y K O t L T b V f H fun A w' z=>?_;refine ih _ A w' (by simp[k]) (QiI u (by omega) f p) ?_;rw[QfP (by omega)];exact z
theorem Qe4 {rr:Option Nat}(E:cx.P.follows .mixedOrders=true)(d:QaB cx call)(l:zj call)(u:jm cx yc){ob:List Prop}{orc:List Orc}(c:JA cx call yc ops masks base s (List.range ops.toList.length) [] s.ob s.orc=some (recs,ob,orc))
  (o:Qct ops masks base s recs=true) (G:∀p,p∈ob->p) {a:Act} {ρ:Nat->Value} {w:World} (g:Sim cx F s ρ a w) {Q:Exit->Act->World->Prop} {id:Nat}
  (H:∀ρ' k w',HSim cx F (WR recs++s.hp) ρ' w'->TSim F (YL recs++s.tm) (WR recs++s.hp) ρ' k w'->k.tmps.size=s.nt->k.defers=a.defers->Steps1 s.hp ρ w (WR recs++s.hp) ρ' w'->Q .normal k w') :
  wpR rr cx.P (Code.region id ops true) Q a w/\∀p,p∈s.ob->p:=by
 have C:=Qd3 o;rw[List.range_eq_range'] at c;obtain⟨b,n⟩:=wW _ 0 [] recs s.ob ob s.orc orc c G ⟨List.Pairwise.nil,fun r f=>by simp at f,fun j y=>by omega,fun r f=>by simp at f⟩;rw[Nat.zero_add] at b;refine⟨fun m=>wpIn_region_any E ?_,n⟩;show wpAnyIn (fen rr) m cx.P .any ops Q ops.size (Array.replicate ops.size false) a w.drew;obtain⟨A,v⟩:=g.hs.drew;have z:lst (Array.replicate ops.size false)=fun _=>false:=by
  funext i
  simp only[lst,Array.getD_eq_getD_getElem?,Array.getElem?_replicate];split<;>rfl
 refine Qha d l u b C g.hs H ops.size _ a w.drew (by simp) ?_ ?_
 ·simp only[unl,z,Bool.not_false];rw[List.filter_eq_self.2 (fun _ _=>rfl)];simp
 ·rw[z];have e:(recs.filter fun _=>false)=[]:=List.filter_eq_nil_iff.2 (fun _ _ h=>by cases h);refine⟨(fun j y=>by cases y),fun t x q _=>g.ts t x q,(fun r _ f=>by cases f),ρ,?_,?_,g.nt,rfl,?_⟩
  ·simp only[hpS,e];exact A
  ·simp only[hpS,tmS,e];exact fun t x q=>v.vr (g.ts t x q)
  ·simp only[hpS,e];exact v
end
theorem wg {ops:Array Oper}{i:Nat}{o:Oper}{s s' : St}{x:AV}{b : List (Nat×Blk)}{k:Nat}{orc:List Orc}{ob:List Prop}{g:Bool}(h:Ee ops i o s x b k orc ob g=some s') :
  s'.hp=b/\s'.vis=s.vis/\s'.nr=s.nr/\(s'.sfx=true->s.sfx=true/\g=true):=by
 unfold Ee at h;split at h
 ·split at h;case h_2=>cases h
  obtain⟨c,j,d,e,f⟩:=Uw h;exact⟨c,d,e,fun a=>by rw[f] at a;simpa using a⟩
 ·obtain⟨c,j,d,e,f⟩:=Uw h;exact⟨c,d,e,fun a=>by rw[f] at a;simpa using a⟩
def Qaz (f:Uu):Prop :=
 ∀(H:List (Nat×Blk)) (e:Nat) (d:Bool) (orc:List Orc) (b ver:Nat) (a:List AV) (c:RC),f H e d orc b ver a=some c->c.sfx=true->∀h,c.full=some h->∃new,h=new++H
def yu (a:Code->St->Option (Ex×St)):Prop :=
 ∀(c:Code) (s:St) (e:Ex) (s' : St),a c s=some (e,s')->s'.vis=s.vis/\s'.nr=s.nr/\(s'.sfx=true->s.sfx=true/\∃new,s'.hp=new++s.hp)
theorem Qjt {c:Type}(x y:c)(b a H:List c):∃new,x::(b++y::(a++H))=new++H:=⟨x::(b++y::a),by simp⟩
theorem yU {n:Code->St->Option (Ex×St)}(g:yu n):Qaz (jr n):=by
 intro H v u orc b ver m w h;unfold jr at h;split at h;case h_2=>cases h
 split at h;case h_2=>cases h
 split at h;case h_2=>cases h
 rename_i s1 o;split at h;case h_2=>cases h
 split at h;case h_3=>cases h
 ·rename_i t k;split at h;case h_2=>cases h
  simp only[jIj] at h;subst h;intro c p a;simp only[jIj] at a;subst a;simp only[jAj] at c;obtain⟨_,_,i⟩:=g _ _ _ _ o;obtain⟨_,_,j⟩:=g _ _ _ _ k;obtain⟨l,s,d⟩:=j c.2;obtain⟨_,r,f⟩:=i l;simp only at d f;rw[d,f];exact Qjt _ _ _ _ _
 ·rename_i e t q k;split at h;case h_2=>cases h
  simp only[jIj] at h;subst h;intro c p a;simp only[jIj] at a;subst a;simp only[jAj] at c;obtain⟨_,_,i⟩:=g _ _ _ _ o;obtain⟨_,_,j⟩:=g _ _ _ _ k;obtain⟨l,s,d⟩:=j c.2;obtain⟨_,r,f⟩:=i l;simp only at d f;rw[d,f];exact Qjt _ _ _ _ _
theorem Qc3 {cx:Cx}{call:Jt}(hc:zj call){m:Uu}(p:Qaz m){ops:Array Oper}{base i:Nat}{s s' : St}(h:qN cx call m ops base i s=some s') :
  s'.vis=s.vis/\s'.nr=s.nr/\(s'.sfx=true->s.sfx=true/\∃new,s'.hp=new++s.hp):=by
 unfold qN at h;split at h
 ·cases h
 split at h
 ·cases h
 ·obtain⟨a,g,b,c,n⟩:=Uw h;exact⟨b,c,fun e=>⟨by rw[<-n];exact e,[],by rw[a];rfl⟩⟩
 ·split at h
  ·split at h
   ·split at h
    ·cases h
    rename_i j f;obtain⟨a,g,b,c⟩:=wg h;refine⟨g,b,fun e=>?_⟩;obtain⟨k,l⟩:=c e;refine⟨k,?_⟩;rw[a];unfold RC.heap;split
    ·rename_i o d;exact p _ _ _ _ _ _ _ j f l _ d
    ·exact⟨j.up,rfl⟩
   split at h
   ·cases h
   split at h
   ·cases h
   rename_i j f;obtain⟨a,g,b,c⟩:=wg h;refine⟨g,b,fun e=>?_⟩;obtain⟨k,l⟩:=c e;refine⟨k,?_⟩;rw[a];unfold RC.heap;split
   ·rename_i o d;exact hc _ _ _ _ _ _ _ j f l _ d
   ·exact⟨j.up,rfl⟩
  ·split at h
   ·cases h
   obtain⟨a,g,b,c⟩:=wg h;refine⟨g,b,fun e=>⟨(c e).1,_,a⟩⟩
theorem zN {cx:Cx}{call:Jt}(hc:zj call){c:Uu}(b:Qaz c){ops:Array Oper}{base:Nat}:∀(l:List Nat) (s s' : St),UZ cx call c ops base l s=some s' ->
  s'.vis=s.vis/\s'.nr=s.nr/\(s'.sfx=true->s.sfx=true/\∃new,s'.hp=new++s.hp)
 | [],s,s',h=>by simp only[UZ,jIj] at h;subst h;exact⟨rfl,rfl,fun a=>⟨a,[],rfl⟩⟩
 | i::l,s,s',h=>by
  simp only[UZ] at h;split at h;case h_2=>cases h
  rename_i s1 p;obtain⟨d,e,f⟩:=Qc3 hc b p;obtain⟨b1,g,j⟩:=zN hc b l s1 s' h;refine⟨b1.trans d,g.trans e,fun a=>?_⟩;obtain⟨k,q,m⟩:=j a;obtain⟨n,r,o⟩:=f k;exact⟨n,q++r,by rw[m,o,List.append_assoc]⟩
theorem Eh {c:Code->St->Option (Ex×St)}(e:yu c){cx:Cx}{f:FuncId}{a:List AV}{s s' : St}{x:AV}(h:KM c cx f a s=some (x,s')):s'.sfx=true->∃new,s'.hp=new++s.hp:=by
 unfold KM at h;split at h
 ·cases h
 split at h
 ·cases h
 split at h
 ·cases h
 ·rename_i s1 _ g;obtain⟨_,_,d⟩:=e _ _ _ _ g;split at h
  ·simp only[jIj,jPj] at h;obtain⟨rfl,rfl⟩:=h;exact fun b=>(d b).2
  ·simp only[jIj,jPj] at h;obtain⟨rfl,rfl⟩:=h;exact fun b=>(d b).2
  ·cases h
 ·cases h
 ·cases h
theorem jP {H:List (Nat×Blk)}{nx:Nat}{x:AV}{s' : St}{a:RC}(h:uC H nx x s'=some a) :
  YG H nx=true/\a={ val:=x,up:=[],full:=some s'.hp,nx:=s'.nx,ob:=s'.ob,orc:=s'.orc,sfx:=s'.sfx }:=by
 unfold uC at h;split at h
 ·rename_i b;simp only[jIj] at h;exact⟨b,h.symm⟩
 ·cases h
theorem wd {H:List (Nat×Blk)}{nx:Nat}{x:AV}{s' : St}{d:RC}(h:zb H nx x s'=some d) :
  ∃b k,x=.own b k.ver/\s'.sfx=true/\JW H (s'.hp.length - H.length) s'.hp=true/\YG H nx=true/\look s'.hp b=some k/\look H b=none/\jU k=true /\
   d={ val:=.own b k.ver,up:=[(b,k)],full:=none,nx,ob:=s'.ob,orc:=s'.orc,sfx:=true }:=by
 unfold zb at h;split at h;case h_2=>cases h
 rename_i b ver hc;split at h;case h_2=>cases h
 rename_i k e f;split at h;case h_2=>cases h
 rename_i a;simp only[jAj] at a;have c:=Z1 a.2;subst c;simp only[jAj] at hc;simp only[jIj] at h;refine⟨b,k,rfl,hc.1.1,hc.1.2,hc.2,e,?_,a.1,h.symm⟩;cases hl:look H b with
 | none=>rfl
 | some k =>
  have:=V9.2 (show look H b≠none by rw[hl];simp);rw[f] at this;cases this
theorem uO {H:List (Nat×Blk)}{a:Nat}{x:AV}{s' : St}{b:RC}(h:zb H a x s'=some b):YG H a=true/\b.ob=s'.ob:=by obtain⟨_,_,_,_,_,c,_,_,_,rfl⟩:=wd h;exact⟨c,rfl⟩
theorem yr {C:Code->St->Option (Ex×St)}{cx:Cx}{keepable:Bool}{H:List (Nat×Blk)}{nx:Nat}{sym:Bool}{orc:List Orc}{f:FuncId}{c:List AV}{b:RC}(h:QbM C cx keepable H nx sym orc f c=some b) :
    ∃m,cx.P.funcs[f]?=some m /\
      ((m.body=none/\∃vs v,allV c=some vs/\Zu cx.P (callFunc f vs.toArray)=some (.value v)/\b.val=.d (ofV v)/\b.up=[]/\b.full=none/\b.sfx=true) \/
       (m.body.isSome=true/\∃r e n,Kr H c=some (e,n)/\b.val=.d r/\(b.up=Qd H n\/(b.up=[]/\Qev r=true))/\b.full=none/\(b.ob=[Computes cx f e r]\/∃g,cx.K f=some g/\g e=some r)) \/
       (m.body.isSome=true/\YG H nx=true/\∃o' x s',KM C cx f c { nt:=0,sym,tm:=[],hp:=H,nx,orc:=o',ob:=[],vis:=nx,sfx:=true }=some (x,s')/\b.ob=s'.ob /\
          ((b.val=x/\b.up=[]/\b.full=some s'.hp/\b.sfx=s'.sfx)\/(∃y,QbZ H x s'=some y/\b.val=y/\b.up=[]/\b.full=none)\/(zb H nx x s'=some b))) \/
       (m.body.isSome=true/\∃bo r q ks o',kH cx H nx f c bo r q ks o'=some b)):=by
  unfold QbM at h;split at h
  · cases h
  rename_i m t;refine⟨m,t,?_⟩;split at h
  · rename_i s
    split at h;case h_2=>cases h
    rename_i vs A;split at h;case h_2=>cases h
    rename_i v G;simp only[jIj] at h;subst h;exact .inl ⟨s,vs,v,A,G,rfl,rfl,rfl,rfl⟩
  · rename_i L s
    have a:m.body.isSome=true:=by rw[s];rfl
    right;split at h
    · split at h
      case h_2=>cases h
      rename_i e n p;simp only[jIj] at h;subst h;exact .inl ⟨a,_,e,n,p,rfl,.inl rfl,rfl,.inl rfl⟩
    · exact .inr (.inr ⟨a,_,_,_,_,_,h⟩)
    · split at h
      case h_3=>cases h
      rename_i x s' i;obtain⟨k,l⟩:=jP h;subst l;exact .inr (.inl ⟨a,k,_,x,s',i,rfl,.inl ⟨rfl,rfl,rfl,rfl⟩⟩);rename_i x s' i;obtain⟨k,l⟩:=uO h;exact .inr (.inl ⟨a,k,_,x,s',i,l,.inr (.inr h)⟩)
    · split at h
      case h_2=>cases h
      rename_i e n u p;simp only[jIj] at h;subst h;exact .inl ⟨a,_,e,n,p,rfl,.inr ⟨rfl,u⟩,rfl,.inl rfl⟩
    · split at h
      · rename_i J j
        simp only[jIj] at h;subst h;unfold Qh3 at j;split at j;case h_2=>cases j
        rename_i g0 F E;split at j;case h_2=>cases j
        rename_i e n p;split at j;case h_2=>cases j
        rename_i M w;simp only[jIj] at j;subst j;exact .inl ⟨a,_,e,n,p,rfl,.inl rfl,rfl,.inr ⟨_,F,w⟩⟩
      split at h;case h_2=>cases h
      rename_i x s' o i;right;left;split at h
      · rename_i y _ z
        simp only[jIj] at h;subst h;exact⟨a,o,_,x,s',i,rfl,.inr (.inl ⟨y,z,rfl,rfl,rfl⟩)⟩
      · split at h
        · obtain⟨k,l⟩:=jP h
          subst l;exact⟨a,k,_,x,s',i,rfl,.inl ⟨rfl,rfl,rfl,rfl⟩⟩
        · cases h
      · split at h
        · obtain⟨k,l⟩:=jP h
          subst l;exact⟨a,k,_,x,s',i,rfl,.inl ⟨rfl,rfl,rfl,rfl⟩⟩
        · simp only[jIj] at h;subst h
          exact⟨a,o,_,x,s',i,rfl,.inr (.inl ⟨_,by assumption,rfl,rfl,rfl⟩)⟩
        · split at h
          · cases h
          · obtain⟨k,l⟩:=uO h
            exact⟨a,k,_,x,s',i,l,.inr (.inr h)⟩
    · cases h
theorem Qg7 {cx:Cx}{H:List (Nat×Blk)}{e:Nat}{f:FuncId}{a:List AV}{b ver sz:Nat}{es:jVj}{r:AV}{c : List OC}{o' : List Orc}{d:RC}(h:arow cx H e f a b ver sz es r c o'=some d):d.full=none:=by unfold arow at h;cases h
theorem Qel {cx:Cx}{H:List (Nat×Blk)}{d:Nat}{f:FuncId}{a:List AV}{bo:Option Nat}{r:AV}{b : List OC}{ks:List Bool}{o' : List Orc}{c:RC}(h:kH cx H d f a bo r b ks o'=some c):c.full=none:=by
 unfold kH at h;split at h;case h_2=>cases h
 split at h
 ·split at h;case h_3=>cases h
  case h_2=>exact Qg7 h
  split at h;case h_2=>cases h
  split at h;case h_2=>cases h
  split at h;case h_2=>cases h
  split at h<;>(simp only[jIj] at h;subst h;rfl)
 ·split at h;case h_2=>cases h
  simp only[jIj] at h;subst h;rfl
theorem kG {g:Code->St->Option (Ex×St)}(j:yu g)(cx:Cx):zj (QbM g cx):=by
 intro keepable H o l orc f e p h k n a;obtain⟨m,_,hc⟩:=yr h;obtain⟨_,_,_,_,_,_,_,b,_⟩|⟨_,_,_,_,_,_,_,b,_⟩|⟨_,_,o',x,s',b,_,i⟩|⟨_,_,_,_,_,_,d⟩:=hc;case inr.inr.inr=>rw[Qel d] at a;cases a
 ·rw[b] at a;cases a
 ·rw[b] at a;cases a
 ·obtain⟨_,_,c,d⟩|⟨_,_,_,_,c⟩|c:=i
  ·rw[c] at a;cases a;exact Eh j b (by rw[<-d];exact k)
  ·rw[c] at a;cases a
  ·obtain⟨_,_,_,_,_,_,_,_,_,rfl⟩:=wd c;cases a
theorem QiY (ops:Array Oper)(s:St):∃new,(X4 ops s).hp=new++s.hp:=by
 unfold X4;split
 ·split
  ·rename_i c _ a _ _ _ _ _ _;obtain⟨new,b⟩:=Qba c (Qd s.hp a++s.hp);exact⟨new++Qd s.hp a,by rw[List.append_assoc];exact b⟩
  ·exact⟨[],rfl⟩
 ·exact⟨_,rfl⟩
theorem XG (cx:Cx):∀n,yu (We n cx):=by
 intro n;induction n with
 | zero=>intro c s e s' h;simp[We] at h
 | succ n ih =>
  intro c s e s' h;have hc:=kG ih cx;cases c with
  | skip=>simp only[We,jIj,jPj] at h;obtain⟨rfl,rfl⟩:=h;exact⟨rfl,rfl,fun j=>⟨j,[],rfl⟩⟩
  | label l=>simp only[We,jIj,jPj] at h;obtain⟨rfl,rfl⟩:=h;exact⟨rfl,rfl,fun j=>⟨j,[],rfl⟩⟩
  | region id ops draw =>
   simp only[We,St.force_eq] at h;split at h
   ·split at h;case h_2=>cases h
    rename_i s1 k;simp only[jIj,jPj] at h;obtain⟨rfl,rfl⟩:=h;(have d:=zN hc (yU ih) _ _ _ k;exact d)
   ·split at h;case h_2=>cases h
    split at h;case h_2=>cases h
    simp only[jIj,jPj] at h;obtain⟨rfl,rfl⟩:=h;refine⟨rfl,rfl,fun j=>⟨j,?_⟩⟩;obtain⟨new,o⟩:=QiY ops s;rw[o];exact⟨_++new,by rw[List.append_assoc]⟩
  | seq a b =>
   simp only[We] at h;split at h
   ·rename_i s1 k;obtain⟨q,r,u⟩:=ih _ _ _ _ k;obtain⟨b1,v,w⟩:=ih _ _ _ _ h;refine⟨b1.trans q,v.trans r,fun j=>?_⟩;obtain⟨y,E,z⟩:=w j;obtain⟨A,F,C⟩:=u y;exact⟨A,E++F,by rw[z,C,List.append_assoc]⟩
   ·(have d:=ih _ _ _ _ h;exact d)
  | cond x t e' =>
   simp only[We] at h;split at h;case h_2=>cases h
   split at h
   ·(have d:=ih _ _ _ _ h;exact d)
   ·(have d:=ih _ _ _ _ h;exact d)
   ·split at h
    ·(have d:=ih _ _ _ _ h;exact d)
    ·(have d:=ih _ _ _ _ h;exact d)
   ·cases h
  | block id body =>
   simp only[We] at h;split at h
   ·rename_i i s1 k;have:=ih _ _ _ _ k;split at h
    ·simp only[jIj,jPj] at h;obtain⟨rfl,rfl⟩:=h;exact this
    ·simp only[jIj,jPj] at h;obtain⟨rfl,rfl⟩:=h;exact this
   ·(have d:=ih _ _ _ _ h;exact d)
  | scope body=>simp only[We] at h;(have d:=ih _ _ _ _ h;exact d)
  | loop body =>
   simp only[We] at h;split at h
   ·split at h;case h_2=>cases h
    simp only[jIj,jPj] at h;obtain⟨rfl,rfl⟩:=h;exact⟨rfl,rfl,fun j=>by cases j⟩
   ·split at h
    ·rename_i s1 k;obtain⟨q,r,u⟩:=ih _ _ _ _ k;obtain⟨b1,v,w⟩:=ih _ _ _ _ h;refine⟨b1.trans q,v.trans r,fun j=>?_⟩;obtain⟨y,E,z⟩:=w j;obtain⟨A,F,C⟩:=u y;exact⟨A,E++F,by rw[z,C,List.append_assoc]⟩
    ·(have d:=ih _ _ _ _ h;exact d)
   ·cases h
  | rangeFunc f ps as bd =>
   simp only[We] at h;split at h;case h_2=>cases h
   rename_i g L b0 H G m;split at h;case h_2=>cases h
   rename_i N K;split at h;case h_3=>cases h
   all_goals simp only[jIj,jPj] at h;obtain⟨rfl,rfl⟩:=h
   all_goals refine⟨rfl,rfl,fun j=>?_⟩
   all_goals simp only[jAj] at j m
   all_goals (
    obtain⟨new,o⟩:=Eh ih K j.2.2;refine⟨j.2.1,(s.nx,.dead)::new.filter (fun p=>!(Nat.beq p.1 s.nx)),?_⟩;simp only at o;have J:s.hp.filter (fun p=>!(Nat.beq p.1 s.nx))=s.hp:=by
     refine List.filter_eq_self.2 fun p hp=>?_;have:=List.all_eq_true.1 m.1 p hp;simp only[Nat.blt_eq] at this;cases hq:Nat.beq p.1 s.nx with
     | true=>have:=jqj hq;omega
     | false=>rfl
    have M:(!(Nat.beq s.nx s.nx))=false:=by simp
    simp only[o,List.filter_append,List.cons_append];rw[List.filter_cons_of_neg (by simp),J])
  | exit id=>simp only[We,jIj,jPj] at h;obtain⟨rfl,rfl⟩:=h;exact⟨rfl,rfl,fun j=>⟨j,[],rfl⟩⟩
  | ret=>simp only[We,jIj,jPj] at h;obtain⟨rfl,rfl⟩:=h;exact⟨rfl,rfl,fun j=>⟨j,[],rfl⟩⟩
  | _=>simp only[We] at h;cases h
def ExOK (cx:Cx)(f:Code->St->Option (Ex×St)):Prop :=
 ∀(c:Code) (s:St) (e:Ex) (s' : St),f c s=some (e,s')->(∀p,p∈s'.ob->p)->(∀p,p∈s.ob->p) /\
  ∀(rr:Option Nat) (F:Nat->Prop) (ρ:Nat->Value) (a:Act) (w:World),(s.rnd=false->rr=none)->Sim cx F s ρ a w ->
   wpR rr cx.P c (fun d b w'=>d=Jk e/\After cx F s.vis s.nt s.hp ρ w a.defers s'.tm s'.hp b w') a w
theorem wU:∀(a:List AV) (n t:Nat),look (Eg n a) (n+t)=a[t]?
 | [],n,t=>by simp[Eg,look]
 | x::l,n,t=>by
  simp only[Eg];cases t with
  | zero=>show look ((n,x)::Eg (n+1) l) n=_;rw[Qf];rfl
  | succ t =>
   rw[Qc _ _ (by omega),show n+(t+1)=n+1+t from by omega,wU l (n+1) t];rfl
def resF (tmps:Array Value):ResultVar->Sem Value
 | .tmp t=>pure (tmps.getD t undef)
 | .cell b t=>do loadVar t (<-asAddr (tmps.getD b undef))
theorem Qes (a:Func)(tmps:Array Value):results a tmps=(do let vs <-a.results.mapM (resF tmps);pure (if h:vs.size=1 then vs[0] else .tuple vs)):=by unfold results;exact congrArg (fun f:ResultVar->Sem Value=>(do let vs <-a.results.mapM f;pure (if h:vs.size=1 then vs[0] else .tuple vs):Sem Value)) (by funext x;cases x<;>rfl)
def QjB:List AV->AV
 | [x]=>x
 | l=>AV.norm (.tup l)
theorem J4 {cx:Cx}{F:Nat->Prop}{hp:List (Nat×Blk)}{ρ:Nat->Value}{w:World}{a:Act}{tm:List (Nat×AV)}(h:HSim cx F hp ρ w)(j:TSim F tm hp ρ a w):∀(N:List ResultVar) (xs:List AV),U1 cx tm hp N=some xs ->
  ∃vs:List Value,(N.mapM (resF a.tmps)).run cx.P w=.ok vs w/\xs.length=vs.length /\
   ∀(i:Nat) (c:AV) (y:Value),xs[i]?=some c->vs[i]?=some y->VR w (MM F hp ρ) hp ρ c y
 | [],xs,hx=>by simp only[U1,jIj] at hx;subst hx;exact⟨[],by simp,rfl,by simp⟩
 | .tmp t::l,xs,hx=>by
  simp only[U1] at hx;split at hx;case h_2=>cases hx
  rename_i x r A E;simp only[jIj] at hx;subst hx;obtain⟨vs,o,p,q⟩:=J4 h j l r E;refine⟨a.tmps.getD t undef::vs,by simp only[List.mapM_cons,resF,Sem.run_bind,Sem.run_pure,Result.andThen_ok,o],by simp[p],fun i c y hc f=>?_⟩;cases i with
  | zero=>simp only[jzj,jIj] at hc f;subst hc;subst f;exact j t x A
  | succ i=>exact q i c y (by simpa using hc) (by simpa using f)
 | .cell b t::l,xs,hx=>by
  simp only[U1] at hx;split at hx;case h_2=>cases hx
  rename_i L ver sz off s g r A S O E;split at hx;case h_2=>cases hx
  rename_i x M;split at hx;case h_2=>cases hx
  rename_i y f;simp only[jIj] at hx;subst hx;obtain⟨vs,o,p,q⟩:=J4 h j l r E;have d:=j b _ A;have u:KZ false [] hp L ver sz 0=some (x,[],[]):=by simp[KZ,M]
  have H:∀m,VR w (MM F hp ρ) hp ρ (.ptr L ver sz 0 off) m->∃v,(do loadVar t (<-asAddr m):Sem Value).run cx.P w=.ok v w/\VR w (MM F hp ρ) hp ρ y v:=by
   intro m d;obtain⟨v,n,J⟩:=uA h d S O u (by simp) f;have C:∃K,m=.pointer (some K):=by
    cases d with
    | ptr _ _ _ _ _ k _ e T U Q =>
     rw[M] at e;cases e;obtain⟨V,_,rfl⟩:=Q (by simp only[Blk.ver] at T ⊢;omega);exact⟨_,rfl⟩
   obtain⟨K,rfl⟩:=C;exact⟨v,n,J⟩
  obtain⟨v,n,J⟩:=H _ d;refine⟨v::vs,?_,by simp[p],fun i c z hc G=>?_⟩
  ·simp only[List.mapM_cons,resF,Sem.run_bind] at n ⊢;rw[n];simp only[Result.andThen_ok,o,Sem.run_pure]
  ·cases i with
   | zero=>simp only[jzj,jIj] at hc G;subst hc;subst G;exact J
   | succ i=>exact q i c z (by simpa using hc) (by simpa using G)
theorem Qde {cx:Cx}{F:Nat->Prop}{hp:List (Nat×Blk)}{ρ:Nat->Value}{w:World}{a:Act}{tm:List (Nat×AV)}(h:HSim cx F hp ρ w)(i:TSim F tm hp ρ a w){d:Func}{xs:List AV}(f:U1 cx tm hp d.results.toList=some xs) :
  ∃v,(results d a.tmps).run cx.P w=.ok v w/\VR w (MM F hp ρ) hp ρ (QjB xs) v:=by
 obtain⟨vs,e,g,c⟩:=J4 h i _ xs f;have b:(results d a.tmps).run cx.P w=.ok (if h:vs.toArray.size=1 then vs.toArray[0] else .tuple vs.toArray) w:=by rw[Qes,Array.mapM_eq_mapM_toList];simp only[Sem.run_bind,Sem.run_map,e,Result.andThen_ok,Sem.run_pure]
 clear f e;match xs,vs,g,c,b with
 | [x],[v],_,c,b=>exact⟨v,by rw[b];rfl,c 0 x v rfl rfl⟩
 | [],[],_,_,b =>
  refine⟨.tuple #[],by rw[b];rfl,?_⟩;have:=VR.tup (w:=w) (M:=MM F hp ρ) (hp:=hp) (ρ:=ρ) [] [] rfl (by simp);exact Ug this
 | x::y::l,v::u::m,hl,c,b =>
  refine⟨.tuple (v::u::m).toArray,by rw[b];simp,?_⟩;have:=VR.tup (w:=w) (M:=MM F hp ρ) (hp:=hp) (ρ:=ρ) _ _ hl c;exact Ug this
theorem QY (hp:List (Nat×Blk))(b:Nat):∀l:List Nat,¬b∈l->look (Qd hp l++hp) b=look hp b
 | [],_=>rfl
 | q::l,hq=>by
  simp only[List.mem_cons,not_or] at hq;simp only[Qd];split
  ·rw[List.cons_append,Qc _ _ (fun e=>hq.1 e.symm)];exact QY hp b l hq.2
  ·split
   ·rw[List.cons_append,Qc _ _ (fun e=>hq.1 e.symm)];exact QY hp b l hq.2
   ·exact QY hp b l hq.2
  ·rw[List.cons_append,Qc _ _ (fun e=>hq.1 e.symm)];exact QY hp b l hq.2
  ·exact QY hp b l hq.2
theorem Gk {H:List (Nat×Blk)}:∀(new a:List (Nat×Blk)),JW H new.length (new++a)=true->∀b,look H b≠none->look new b=none
 | [],_,_,_,_=>rfl
 | (k,x)::l,a,h,b,hb=>by
  simp only[List.cons_append,List.length_cons,JW,jAj,Bool.not_eq_true'] at h;have c:k≠b:=by intro e;subst e;have:=V9.2 hb;rw[h.1] at this;cases this
  rw[Qc _ _ c];exact Gk l a h.2 b hb
theorem VO {H:List (Nat×Blk)}{a:Nat}(h:YG H a=true){b:Nat}{k:Blk}(c:look H b=some k):b<a:=by obtain⟨x,d⟩:=Gd (l:=H) (b:=b) (by rw[c];simp);simp only[YG,List.all_eq_true] at h;have:=h _ d;simpa using this
structure NoAsk (cx:Cx):Prop where
 ask:∀(f:FuncId) (fn:Func),cx.P.funcs[f]?=some fn->fn.body.isSome=true->(fn.name=="runtime.NumGoroutine")=false
 known:∀(f:FuncId) (g:jVj->Option D) (ds:jVj) (r:D),cx.K f=some g->g ds=some r->Computes cx f ds r
theorem En {cx:Cx}(h:NoAsk cx){f:FuncId}{b:Func}(d:cx.P.funcs[f]?=some b)(c:b.body.isSome=true)(a:Array Value)(w:World):(callFunc f a).run cx.P w=.ok (.enter f a) w:=by
 have e:=h.ask f b d c;have g:b.body.isNone=false:=by cases hh:b.body with
  | none=>rw[hh] at c;cases c
  | some _=>rfl
 simp only[callFunc,Sem.run_bind,run_program,Result.andThen_ok,d];simp[e,g]
def qE:Obj->Prop
 | .loop _=>True
 | .deferred _=>True
 | _=>False
theorem Qaf {w:World}{a:Nat}{o:Obj}(h:w.heap[a]?=some o)(c:qE o)(o' : Obj){p:Addr}{v:Value}(hp:w.cell? p=some v):(w.putObj a o').cell? p=some v:=by
 have b:p.block≠a:=by intro e;unfold World.cell? at hp;rw[e,h] at hp;cases o<;>simp_all [qE]
 unfold World.cell? at hp ⊢;rw[World.putObj_heap_other b];exact hp
theorem DR.put {w:World}{p:Nat}{o:Obj}(h:w.heap[p]?=some o)(n:qE o)(o' : Obj){M:Nat->Prop}{x:SX.D}{y:Value}(t:DR w M x y):DR (w.putObj p o') M x y:=by
 induction t with
 | v x=>exact .v x
 | agg cs ys hl h ih=>exact .agg cs ys hl ih
 | tup cs ys hl h ih=>exact .tup cs ys hl ih
 | lst full sz es a cap blk off ys hf hcp ha hsz hw hd ih =>
  refine .lst full sz es a cap blk off ys hf hcp (fun m=>?_) hsz (fun i e j c s l=>?_) ih
  ·obtain⟨d,g,q⟩:=ha m;exact⟨d,g,by rw[World.putObj_size];exact q⟩
  ·obtain⟨d,g⟩:=hw i e j c s l;exact⟨Qaf h n o' d,g⟩
 | fn f a b xs ys hl hm' h k ih ik=>exact .fn f a b xs ys hl hm' ih ik
 | ref x off blk o2 ys d g hw hd ih=>exact .ref x off blk o2 ys d (by rw[World.putObj_size];exact g) (fun j c l=>Qaf h n o' (hw j c l)) ih
 | nan k b h=>exact .nan k b h
 | mp es vs r es' c d g hw hl hv hk _ ih=>exact .mp es vs r es' c d (by rw[World.putObj_size];exact g) (by rw[World.putObj_heap_other (fun e=>by rw[e,h] at hw;cases hw;exact n)];exact hw) hl hv hk ih
theorem DAt.put {w:World}{a:Nat}{o:Obj}(h:w.heap[a]?=some o)(b:qE o)(o' : Obj){M:Nat->Prop}{blk off:Nat}{x:SX.D}(k:DAt w M blk off x):DAt (w.putObj a o') M blk off x:=by obtain⟨d,e,f⟩:=k;refine⟨d,by rw[World.putObj_size];exact e,fun j c i=>?_⟩;obtain⟨y,l,g⟩:=f j c i;exact⟨y,Qaf h b o' l,g.put h b o'⟩
theorem GAt.put {w:World}{a:Nat}{o:Obj}(h:w.heap[a]?=some o)(d:qE o)(o' : Obj){M:Nat->Prop}{g:Nat}{x:SX.D}(j:GAt w M g x):GAt (w.putObj a o') M g x:=by
 obtain⟨f,cs,t,fz,b,i⟩:=j;have c:g≠a:=by intro e;subst e;rw[h] at b;cases b;exact d
 exact⟨f.put h d o',cs,t,fz,by rw[World.putObj_heap_other c];exact b,i⟩
theorem VR.put {w:World}{g:Nat}{o:Obj}(h:w.heap[g]?=some o)(c:qE o)(o' : Obj){M:Nat->Prop}{hp:List (Nat×Blk)}{ρ:Nat->Value}{x:AV}{y:Value}(j:VR w M hp ρ x y):VR (w.putObj g o') M hp ρ x y:=by
 induction j with
 | d x y e=>exact .d x y (e.put h c o')
 | agg cs ys hl h ih=>exact .agg cs ys hl ih
 | tup cs ys hl h ih=>exact .tup cs ys hl ih
 | dptr x off blk o2 e=>exact .dptr x off blk o2 (e.put h c o')
 | ptr b ver sz i off k y hb hv c h=>exact .ptr b ver sz i off k y hb hv c h
 | own b ver k y hb hv c h=>exact .own b ver k y hb hv c h
 | sub b ver sz lo n k y hb hv c h=>exact .sub b ver sz lo n k y hb hv c h
 | fn f a b xs ys hl hm' h k ih ik=>exact .fn f a b xs ys hl hm' ih ik
 | junk y=>exact .junk y
theorem BlkR.put {w:World}{z:Nat}{o:Obj}(h:w.heap[z]?=some o)(u:qE o)(o' : Obj){M:Nat->Prop}{hp:List (Nat×Blk)}{ρ:Nat->Value}{b:Nat}{k:Blk}(A:(∃G,o=.deferred G)\/wH k=true)(n:BlkR w M hp ρ b k):BlkR (w.putObj z o') M hp ρ b k:=by
 have E:∀{r:Nat} {c:Array Value} {e:TypeId},w.heap[r]?=some (.cells c e (0,0))->r≠z:=by intro r c e C V;subst V;rw[h] at C;cases C;exact u.elim
 cases k with
 | box x =>
  obtain⟨r,e,v,cs,g,f,m,q⟩:=n;exact⟨r,e,v,cs,g,(World.putObj_heap_other (E f)).trans f,m,q.put h u o'⟩
 | row ver sz es =>
  obtain⟨g,a,f⟩|⟨r,c,e,cap,g,f,m,q,K,L⟩:=n
  ·exact .inl ⟨g,a,f⟩
  refine .inr ⟨r,c,e,cap,g,f,m,(World.putObj_heap_other (E q)).trans q,K,fun i d j a U W=>?_⟩;obtain⟨y,Y,Z,y3⟩:=L i d j a U W;exact⟨y,Y,Z,y3.put h u o'⟩
 | frozen ver sz es=>exact DR.put h u o' n
 | virt ver sz es=>exact DR.put h u o' n
 | loop rdy tm ps as bd nt =>
  obtain⟨G,rfl⟩|A:=A
  ·obtain⟨l,P,g,m,q,K,L,Q,S,T,J⟩:=n;have N:l≠z:=by intro e;subst e;rw[h] at m;cases m
   exact⟨l,P,g,(World.putObj_heap_other N).trans m,q,K,L,Q,S,T,fun t x n=>(J t x n).put h u o'⟩
  ·cases A
 | mp es =>
  obtain⟨r,H,c,g,f,m⟩:=n;have C:r≠z:=by intro e;subst e;rw[h] at f;cases f;exact u.elim
  refine⟨r,H,c,g,(World.putObj_heap_other C).trans f,?_⟩;have O:∀{es:List SX.D} {l:List MapEntry},MR w M es l->MR (w.putObj z o') M es l:=by
   intro es;induction es with
   | nil=>intro l F;cases l with
    | nil=>trivial
    | cons e l=>exact F.elim
   | cons d es ih=>intro l F;cases l with
    | nil=>exact F.elim
    | cons e l =>
     obtain⟨⟨x,n,X⟩,q⟩:=F;exact⟨⟨x,n,X.put h u o'⟩,ih q⟩
  exact O m
 | it s p =>
  obtain⟨r,g,f⟩:=n;have C:r≠z:=by intro e;subst e;rw[h] at f;cases f;exact u.elim
  exact⟨r,g,(World.putObj_heap_other C).trans f⟩
 | left e =>
  obtain⟨G,rfl⟩|A:=A
  ·obtain⟨l,P,g,m,q⟩:=n;have N:l≠z:=by intro e;subst e;rw[h] at m;cases m
   exact⟨l,P,g,(World.putObj_heap_other N).trans m,q⟩
  ·cases A
 | fbox x =>
  obtain⟨r,g,f⟩:=n;exact⟨r,g,f.put h u o'⟩
 | dead=>trivial
theorem HSim.put {cx:Cx}{F:Nat->Prop}{hp:List (Nat×Blk)}{ρ:Nat->Value}{w:World}{c:Nat}{o:Obj}(h:w.heap[c]?=some o)(d:qE o)(i:∃e,o=.deferred e)(o' : Obj)(a:HSim cx F hp ρ w):HSim cx F hp ρ (w.putObj c o') :=
 ⟨fun b k f=>(a.blk b k f).put h d o' (.inl i),a.inj,a.forb,fun r l=>by rw[World.putObj_size];exact a.bnd r l,fun g x j=>(a.glob g x j).put h d o'⟩
theorem HSim.mut_cells {cx:Cx}{F:Nat->Prop}{hp:List (Nat×Blk)}{ρ:Nat->Value}{w:World}(t:HSim cx F hp ρ w){r:Nat}(d:Mut hp ρ r):∃o,w.heap[r]?=some o/\∀j,o≠.deferred j:=by
 obtain⟨b,k,q,h,d⟩:=d;have:=t.blk b k q;cases k with
 | box x =>
  obtain⟨i,e,v,cs,g,f,_⟩:=this;rw[g] at d;cases d;exact⟨_,f,nofun⟩
 | row ver sz es =>
  obtain⟨_,a,f⟩|⟨i,c,e,cap,g,f,_,n,_⟩:=this
  ·rw[f,WG] at d;cases d
  ·rw[g,Q8 f.2] at d;cases d;exact⟨_,n,nofun⟩
 | mp es =>
  obtain⟨i,m,c,g,f,_⟩:=this;rw[g] at d;cases d;exact⟨_,f,nofun⟩
 | it s p =>
  obtain⟨i,g,f⟩:=this;rw[g] at d;cases d;exact⟨_,f,nofun⟩
 | frozen _ _ _=>cases h
 | virt _ _ _=>cases h
 | loop _ _ _ _ _ _ =>
  obtain⟨l,u,g,f,_⟩:=this;rw[g] at d;cases d;exact⟨_,f,nofun⟩
 | fbox _=>cases h
 | left _ =>
  obtain⟨l,u,g,f,_⟩:=this;rw[g] at d;cases d;exact⟨_,f,nofun⟩
 | dead=>cases h
theorem DfTo.trans {cx:Cx}{F:Nat->Prop}{vis:Nat}{w d u:World}{m q:List (Nat×Blk)}{n v:Nat->Value}{i j k:List Deferred}(N:w.heap.size<=d.heap.size)(K:HSim cx F m n d)(r:StepsV vis m n d q v u)
  (C:DfTo w i d j) (E:DfTo d j u k):DfTo w i u k:=by
 obtain⟨L,rfl,s,z⟩:=C;obtain⟨M,rfl,t,A⟩:=E;refine⟨M++L,by simp,?_,fun g l=>?_⟩
 ·refine List.nodup_append.2 ⟨t,s,fun a G b H o=>?_⟩;subst o;have:=(A a G).1;have y:=(z a H).2;rw[Array.getElem?_eq_none (by omega)] at y;cases y
 ·obtain l|l:=List.mem_append.1 l
  ·obtain⟨x,f⟩:=A g l;exact⟨by omega,f⟩
  ·obtain⟨x,f⟩:=z g l;have p:g<d.heap.size:=by
    obtain h|h:=Nat.lt_or_ge g d.heap.size
    ·exact h
    ·rw[Array.getElem?_eq_none h] at f;cases f
   refine⟨x,?_⟩;rw[r.ext.same g p (fun J=>?_)]
   ·exact f
   ·obtain⟨c,e,hc⟩:=K.mut_cells J;rw[f] at e;cases e;exact hc _ rfl
theorem wJ {cx:Cx}{F:Nat->Prop}{tm:List (Nat×AV)}{hp:List (Nat×Blk)}{ρ:Nat->Value}{a:Act}{w0:World}{n:Nat}{d:Func}{R:Ending->World->Prop}:∀(b:List Nat) (w:World),HSim cx F hp ρ w->TSim F tm hp ρ a w->b.Nodup ->
  (∀dk,dk∈b->w0.heap.size<=dk/\w.heap[dk]?=some (.deferred (some [])))->w0.heap.size<=w.heap.size ->
  (∀w',HSim cx F hp ρ w'->TSim F tm hp ρ a w'->w'.os=w.os/\w'.tape=w.tape/\w'.output=w.output/\w'.drawn=w.drawn->w'.heap.size=w.heap.size->(∀r,r<w0.heap.size->w'.heap[r]?=w.heap[r]?)->LeavesInM (fen none) n cx.P d a.tmps R [] .returning w') ->
  LeavesInM (fen none) n cx.P d a.tmps R (b.map fun dk=>{ target:=.collected dk,args:=#[] }) .returning w
 | [],w,hs,ht,_,_,_,hk=>hk w hs ht ⟨rfl,rfl,rfl,rfl⟩ rfl fun _ _=>rfl
 | dk::b,w,hs,ht,hnd,hD,hw,hk=>by
  obtain⟨q,c⟩:=hD dk jMj;rw[List.nodup_cons] at hnd;refine⟨by simp,.inl ⟨dk,_,rfl,run_takeDeferred c,?_⟩⟩;refine wJ (w0:=w0) b _ (hs.put c trivial ⟨_,rfl⟩ _) (fun t x m=>(ht t x m).put c trivial _) hnd.2 (fun E f=>?_) (by rw[World.putObj_size];exact hw) fun w' g h i j k=>?_
  ·obtain⟨o,p⟩:=hD E (jmj _ f);exact⟨o,by rw[World.putObj_heap_other (fun e=>by subst e;exact hnd.1 f)];exact p⟩
  ·refine hk w' g h i (by rw[j,World.putObj_size]) fun r l=>?_;rw[k r l,World.putObj_heap_other (by omega)]
theorem U9 {cx:Cx}{J:Code->St->Option (Ex×St)}(hE:ExOK cx J)(hS:yu J){f:FuncId}{a:List AV}{s s1:St}{x:AV}(h:KM J cx f a s=some (x,s1))(ho:∀p,p∈s1.ob->p) :
  (∀p,p∈s.ob->p)/\∀(F:Nat->Prop) (ρ:Nat->Value) (w:World) (vs:List Value),HSim cx F s.hp ρ w->a.length=vs.length ->
   (∀(i:Nat) (c:AV) (y:Value),a[i]?=some c->vs[i]?=some y->VR w (MM F s.hp ρ) s.hp ρ c y) ->
   Calls cx.P f vs.toArray w fun e w'=>∃v,e=.returned v/\∃ρ',HSim cx F s1.hp ρ' w'/\StepsV s.vis s.hp ρ w s1.hp ρ' w'/\VR w' (MM F s1.hp ρ') s1.hp ρ' x v:=by
 unfold KM at h;split at h
 ·cases h
 rename_i g L;split at h
 ·cases h
 rename_i V j;split at h
 ·cases h
 ·rename_i e H N M K;have W : a.length<=g.ntmps:=Nat.le_of_ble_eq_true M;have Q:∃xs,U1 cx H.tm H.hp g.results.toList=some xs/\x=QjB xs/\s1.hp=H.hp/\s1.ob=H.ob:=by
   split at h
   ·rename_i y q;simp only[jIj,jPj] at h;obtain⟨rfl,rfl⟩:=h;exact⟨[y],q,rfl,rfl,rfl⟩
   ·rename_i l u q;simp only[jIj,jPj] at h;obtain⟨rfl,rfl⟩:=h;refine⟨l,q,?_,rfl,rfl⟩;match l,u with
    | [],_=>rfl
    | [z],hh=>exact absurd rfl (hh z)
    | _::_::_,_=>rfl
   ·cases h
  obtain⟨xs,T,hx,k,O⟩:=Q;obtain⟨Z,e2⟩:=hE _ _ _ _ K (by rw[<-O];exact ho);refine⟨Z,fun F ρ w vs C hl hv=>?_⟩;refine(callsIn_wide (n:=0)).1 (callsIn_of_wp_marks (F:=fen none) L j trivial ?_);have o:Sim cx F { s with nt:=g.ntmps,tm:=Eg 0 a } ρ { tmps:=vs.toArray++Array.replicate (g.ntmps - vs.toArray.size) undef,defers:=[] } w:=by
   refine⟨C,fun t y q=>?_,?_⟩
   ·have:=wU a 0 t;rw[Nat.zero_add] at this;rw[this] at q;have m:t<vs.length:=by rw[<-hl];exact(jGj q).1
    have S:vs[t]?=some vs[t]:=by simp[m]
    have hg:(vs.toArray++Array.replicate (g.ntmps - vs.toArray.size) undef).getD t undef=vs[t]:=by rw[Array.getD_eq_getD_getElem?,Array.getElem?_append_left (by simpa using m)];simp[m]
    show VR w _ _ _ y ((vs.toArray++Array.replicate (g.ntmps - vs.toArray.size) undef).getD t undef);rw[hg];exact hv t y _ q S
   ·simp;omega
  refine VW (e2 none F ρ _ w (fun _=>rfl) o) ?_ 0;rintro e' U w' ⟨rfl,ρ',g1,g2,g3,E,d⟩;obtain⟨new,E,nd,A⟩:=E;simp only[List.append_nil] at E;have b:LeavesInM (fen none) 0 cx.P g U.tmps (fun e w'=>∃v,e=.returned v/\∃ρ',HSim cx F s1.hp ρ' w'/\StepsV s.vis s.hp ρ w s1.hp ρ' w'/\VR w' (MM F s1.hp ρ') s1.hp ρ' x v) U.defers .returning w':=by rw[E];refine wJ (w0:=w) new w' g1 g2 nd A d.ext.size fun a0 Y q2 G q4 q5=>?_;obtain⟨v,r1,r2⟩:=Qde Y q2 T;refine⟨v,r1,v,rfl,ρ',by rw[k];exact Y,?_,by rw[k,hx];exact r2⟩;rw[k];refine⟨⟨fun hq=>by rw[G.2.2.2];exact d.ext.drawn hq,G.1.trans d.ext.os,G.2.1.trans d.ext.tape,G.2.2.1.trans d.ext.output,by rw[q4];exact d.ext.size,fun r X hm=>(q5 r X).trans (d.ext.same r X hm)⟩,d.mt,d.grow⟩
  cases e with
  | normal=>exact b
  | ret=>exact b
  | exit id=>exact absurd rfl (N id)
 ·cases h
 ·cases h
theorem Qhm {H:List (Nat×Blk)}{x:AV}{y:D}{e:List Nat}(h:x.toDH H=some (y,e))(c:x.isOne=true):(AV.d y).isOne=true:=by
 cases x with
 | d z=>simp only[AV.toDH,jIj,jPj] at h;obtain⟨rfl,rfl⟩:=h;exact c
 | agg _=>simp[AV.isOne] at c
 | tup _=>simp[AV.isOne] at c
 | junk=>simp[AV.isOne] at c
 | dptr _ _=>simp only[AV.toDH,jIj,jPj] at h;obtain⟨rfl,rfl⟩:=h;rfl
 | ptr _ _ _ _ _ =>
  simp only[AV.toDH] at h;split at h;case h_2=>cases h
  split at h;case h_2=>cases h
  split at h
  ·cases h;rfl
  ·cases h;rfl
  ·cases h
 | sub _ _ _ _ _=>simp[AV.toDH] at h
 | fn f a b =>
  simp only[AV.toDH] at h;split at h
  ·cases h;rfl
  ·cases h
 | own b v =>
  simp only[AV.toDH] at h;split at h
  ·split at h
   ·cases h;rfl
   ·cases h
  ·split at h
   ·cases h;rfl
   ·cases h
  ·split at h
   ·cases h;rfl
   ·cases h
  ·split at h
   ·cases h;rfl
   ·cases h
  ·cases h
structure Split (H:List (Nat×Blk)) (m:Nat) (cells:List AV) (ss cs:List OC) (ns:List (Option (Nat×Nat))) (gs:List Nat):Prop where
 nm:Names ns ss
 len:cs.length=cells.length
 lenS:ss.length=cells.length
 dat:∀(i:Nat) (y:D),cs[i]?=some (.dat y)->ns[i]?=some none/\∃x fs,cells[i]?=some x/\x.toDH H=some (y,fs)/\∀b,b∈fs->b∈gs
 row:∀(i sz:Nat) (es:jVj),cs[i]?=some (.row sz es)->∃n v,ns[i]?=some (some (n,v)) /\
  ((∃u,cells[i]?=some (.own n u)/\look H n=some (.row u sz es)/\v=u+1)\/(∃z,cells[i]?=some (.d (.lst true z []))/\es=[]/\n=m+i/\look H n=none/\v=0))
theorem Qdb {H:List (Nat×Blk)}{m sz:Nat}{x:AV}{c:OC}{p:Nat×Nat}(h:Qhx H m sz x=some (c,p)) :
  ∃es,c=.row sz es/\((∃u,x=.own p.1 u/\look H p.1=some (.row u sz es)/\p.2=u+1)\/(∃z,x=.d (.lst true z [])/\es=[]/\p=(m,0)/\look H m=none)):=by
 unfold Qhx at h;split at h
 ·split at h
  ·split at h
   ·rename_i i g es b _ a;simp only[jIj,jPj] at h;obtain⟨rfl,rfl⟩:=h;simp only[jAj] at a;have e:=jqj a.1;have f:=jqj a.2;subst e;subst f;exact⟨_,rfl,.inl ⟨_,rfl,b,rfl⟩⟩
   ·cases h
  ·cases h
 ·split at h
  ·rename_i b;simp only[jIj,jPj] at h;obtain⟨rfl,rfl⟩:=h;exact⟨_,rfl,.inr ⟨_,rfl,rfl,rfl,b⟩⟩
  ·cases h
 ·cases h
theorem Y0 {H:List (Nat×Blk)}:∀(cells:List AV) (ss:List OC) (m:Nat) (cs:List OC) (ns:List (Option (Nat×Nat))) (l:List Nat),YT H m cells ss=some (cs,ns,l)->Split H m cells ss cs ns l
 | [],[],m,cs,ns,l,h=>by simp only[YT,jIj,jPj] at h;obtain⟨rfl,rfl,rfl⟩:=h;exact⟨⟨fun i sz es hc=>by simp at hc,fun i x hc=>by simp at hc,rfl⟩,rfl,rfl,fun i y hc=>by simp at hc,fun i sz es hc=>by simp at hc⟩
 | [],s::ss,m,cs,ns,l,h=>by simp[YT] at h
 | x::xs,[],m,cs,ns,l,h=>by simp[YT] at h
 | x::xs,.dat d::ss,m,cs,ns,l,h=>by
  simp only[YT] at h;split at h;case h_2=>cases h
  rename_i y L j o gs1 w A;simp only[jIj,jPj] at h;obtain⟨rfl,rfl,rfl⟩:=h;have a:=Y0 xs ss (m+1) j o gs1 A;refine⟨⟨fun i sz es hc=>?_,fun i z hc=>?_,by simp[a.nm.len]⟩,by simp[a.len],by simp[a.lenS],fun i z hc=>?_,fun i sz es hc=>?_⟩
  ·cases i with
   | zero=>simp at hc
   | succ i=>simpa using a.nm.row i sz es (by simpa using hc)
  ·cases i with
   | zero=>rfl
   | succ i=>simpa using a.nm.dat i z (by simpa using hc)
  ·cases i with
   | zero =>
    simp only[jzj,jIj,OC.dat.injEq] at hc;subst hc;exact⟨rfl,x,L,rfl,w,fun b C=>List.mem_append.2 (.inl C)⟩
   | succ i =>
    obtain⟨q,J,k,r,E,F⟩:=a.dat i z (by simpa using hc);exact⟨by simpa using q,J,k,by simpa using r,E,fun b C=>List.mem_append.2 (.inr (F b C))⟩
  ·cases i with
   | zero=>simp at hc
   | succ i =>
    obtain⟨n,v,q,r⟩:=a.row i sz es (by simpa using hc);refine⟨n,v,by simpa using q,?_⟩;obtain⟨u,e,f,g⟩|⟨z,e,f,g,t,G⟩:=r
    ·exact .inl ⟨u,by simpa using e,f,g⟩
    ·exact .inr ⟨z,by simpa using e,f,by omega,t,G⟩
 | x::xs,.row s0 e0::ss,m,cs,ns,l,h=>by
  simp only[YT] at h;split at h;case h_2=>cases h
  rename_i c p j o gs1 w A;simp only[jIj,jPj] at h;obtain⟨rfl,rfl,rfl⟩:=h;have a:=Y0 xs ss (m+1) j o gs1 A;obtain⟨K,rfl,M⟩:=Qdb w;refine⟨⟨fun i sz es hc=>?_,fun i z hc=>?_,by simp[a.nm.len]⟩,by simp[a.len],by simp[a.lenS],fun i z hc=>?_,fun i sz es hc=>?_⟩
  ·cases i with
   | zero=>exact⟨p,rfl⟩
   | succ i=>simpa using a.nm.row i sz es (by simpa using hc)
  ·cases i with
   | zero=>simp at hc
   | succ i=>simpa using a.nm.dat i z (by simpa using hc)
  ·cases i with
   | zero=>simp at hc
   | succ i =>
    obtain⟨q,J,k,r,E,F⟩:=a.dat i z (by simpa using hc);exact⟨by simpa using q,J,k,by simpa using r,E,F⟩
  ·cases i with
   | zero =>
    simp only[jzj,jIj,OC.row.injEq] at hc;obtain⟨rfl,rfl⟩:=hc;refine⟨p.1,p.2,rfl,?_⟩;obtain⟨u,e,f,g⟩|⟨z,e,f,g,t⟩:=M
    ·exact .inl ⟨u,by rw[e];rfl,f,g⟩
    ·subst g;exact .inr ⟨z,by rw[e];rfl,f,rfl,t,rfl⟩
   | succ i =>
    obtain⟨n,v,q,r⟩:=a.row i sz es (by simpa using hc);refine⟨n,v,by simpa using q,?_⟩;obtain⟨u,e,f,g⟩|⟨z,e,f,g,t,G⟩:=r
    ·exact .inl ⟨u,by simpa using e,f,g⟩
    ·exact .inr ⟨z,by simpa using e,f,by omega,t,G⟩
theorem QeC {cx:Cx}{F:Nat->Prop}{H:List (Nat×Blk)}{ρ:Nat->Value}{w:World}(hs:HSim cx F H ρ w){fz:List Nat}{b m:Nat}{x:AV}{cells:List AV}{ss cs:List OC}{ns:List (Option (Nat×Nat))}{gs:List Nat}
  (hb:look H b=some (.box x)) (hx:x.cells=some cells) (a0:Gi x=true) (b6:YT H m cells ss=some (cs,ns,gs)) (b3:∀q,q∈gs->q∈fz) (C:E3 b fz ns=true) :
  ∃ρc:Nat->Value,ρc 0=ρ b/\(∀r,Mut (Zx cs) ρc r->Mut (Qd H fz++H) ρ r) /\
   HSim cx (fun r=>F r\/(Mut (Qd H fz++H) ρ r/\¬Mut (Zx cs) ρc r)) (Zx cs) ρc w /\
   (∀n k r,look (Qd H fz++H) n=some k->k.live=true->QX (ρ n)=some r->Mut (Zx cs) ρc r->n=b\/∃(i v:Nat),ns[i]?=some (some (n,v))) /\
   (∀(i n v:Nat),ns[i]?=some (some (n,v+1))->ρc (i+1)=ρ n):=by
 obtain⟨K,_⟩:=hs.freeze fz;have sp:=Y0 cells ss m cs ns gs b6;obtain⟨r0,e0,v,c4,p1,p2,p3,p4⟩:=hs.blk b _ hb;rw[hx] at p3;cases p3;obtain⟨c1,c2,X⟩:=Yp hx p4;obtain⟨ys,rfl⟩:∃ys:List Value,v=.agg ys.toArray:=by
  cases p4 with
  | agg _ ys _ _=>exact⟨ys,rfl⟩
  | d z _ hd =>
   cases hd with
   | agg _ ys _ _=>exact⟨ys,rfl⟩
   | _=>simp[Gi] at a0
  | _=>simp[Gi] at a0
 have b8:(Value.agg ys.toArray).cells=ys.toArray:=rfl;rw[b8] at c1 X p2;have a8:look (Qd H fz++H) b=some (.box x):=by rw[QY _ _ _ (Xn C)];exact hb
 have b9:ys.length=cs.length:=by rw[sp.len,<-c1];simp
 refine⟨fun n=>if n=0 then ρ b else ys.getD (n - 1) undef,by simp,?_⟩;-- the row of a cell
 have f:∀{i:Nat} {y:Value},ys[i]?=some y->(fun n=>if n=0 then ρ b else ys.getD (n - 1) undef) (i+1)=y:=by intro i y h;simp only[Nat.add_one_ne_zero,if_false,Nat.add_sub_cancel,List.getD_eq_getElem?_getD,h,Option.getD_some]
 have E:∀{i sz:Nat} {es:jVj},cs[i]?=some (.row sz es)->∃(y:Value) (n o : Nat),ys[i]?=some y/\ns[i]?=some (some (n,o))/\one y=true /\
   ((∃u,look H n=some (.row u sz es)/\look (Qd H fz++H) n=some (.row u sz es)/\y=ρ n)\/(es=[]/\∃a,y=.slice a 0 0)):=by
  intro i sz es hc;obtain⟨n,o,q1,q2⟩:=sp.row i sz es hc;obtain⟨u,T,G,r3⟩|⟨z,T,G,r3,r4,r5⟩:=q2
  ·obtain⟨y,p,Q⟩:=X i _ T;have e : ys[i]?=some y:=by simpa using p
   cases Q with
   | own _ _ k _ hk b7 V hh =>
    rw[G] at hk;cases hk;refine⟨y,n,o,e,q1,V,.inl ⟨u,G,?_,hh rfl⟩⟩;rw[QY _ _ _ (V7 C i n o q1).2.1];exact G
  ·obtain⟨y,p,Q⟩:=X i _ T;have e : ys[i]?=some y:=by simpa using p
   cases Q with
   | d _ _ hd =>
    cases hd with
    | lst _ _ _ a cap _ _ _ M c0 =>
     have a6:=M rfl;simp only[List.length_nil] at a6;subst a6;exact⟨_,n,o,e,q1,rfl,.inr ⟨G,a,rfl⟩⟩
 have s:∀{n:Nat} {k:Blk} {r:Nat},look (Zx cs) n=some k->k.live=true->QX ((fun n=>if n=0 then ρ b else ys.getD (n - 1) undef) n)=some r ->
   ∃A,(A=b/\n=0\/∃i o,ns[i]?=some (some (A,o))/\n=i+1)/\∃S,look (Qd H fz++H) A=some S/\S.live=true/\QX (ρ A)=some r:=by
  intro n k r hn hk t;obtain⟨rfl,rfl⟩|⟨i,sz,es,rfl,hc,rfl⟩:=GR hn
  ·exact⟨b,.inl ⟨rfl,rfl⟩,_,a8,rfl,by simpa using t⟩
  ·obtain⟨y,A,o,p,P,V,N⟩:=E hc;rw[f p] at t;obtain⟨u,_,k2,k3⟩|⟨_,a,rfl⟩:=N
   ·exact⟨A,.inr ⟨i,o,P,rfl⟩,_,k2,rfl,by rw[<-k3];exact t⟩
   ·rw[WG] at t;cases t
 have O:∀r,Mut (Zx cs) (fun n=>if n=0 then ρ b else ys.getD (n - 1) undef) r->Mut (Qd H fz++H) ρ r:=by rintro r ⟨n,k,J,Z,h3⟩;obtain⟨A,_,S,h4,h5,h6⟩:=s J Z h3;exact⟨A,S,h4,h5,h6⟩
 have L:∀r,MM (fun r=>F r\/(Mut (Qd H fz++H) ρ r/\¬Mut (Zx cs) (fun n=>if n=0 then ρ b else ys.getD (n - 1) undef) r)) (Zx cs) (fun n=>if n=0 then ρ b else ys.getD (n - 1) undef) r->MM F (Qd H fz++H) ρ r:=by
  rintro r ((h|⟨h,_⟩)|h)
  ·exact .inl h
  ·exact .inr h
  ·exact .inr (O r h)
 refine⟨O,⟨fun n k hn=>?_,fun n A k S r J Z m1 m2 T G=>?_,fun r t M=>?_,fun r t=>?_,fun g z hg=>(K.glob g z hg).ext (jLj _) (fun _ _ _=>rfl) fun r _ h=>L r h⟩,?_,?_⟩
 ·obtain⟨rfl,rfl⟩|⟨i,sz,es,rfl,hc,rfl⟩:=GR hn
  ·have b2:Vw (G8 1 cs)=true:=by
    have:∀(l:List AV),(∀(i:Nat) (c:AV),l[i]?=some c->c.isOne=true)->Vw l=true:=by
     intro l;induction l with
     | nil=>intro _;rfl
     | cons x l ih=>intro h;simp only[Vw,jAj];exact⟨h 0 x rfl,ih fun i c hc=>h (i+1) c (by simpa using hc)⟩
    refine this _ fun i c hc=>?_;rw[VK] at hc;split at hc
    ·cases hc
    ·rename_i y p;cases hc;obtain⟨_,x',Y,q2,q3,_⟩:=sp.dat i y p;exact Qhm q3 (Yi c2 q2)
    ·cases hc;rfl
   obtain⟨b4,a7⟩:=Option.isSome_iff_exists.1 (zW b2);refine⟨r0,e0,.agg ys.toArray,b4,by simpa using p1,p2,a7,Ug (.agg _ ys (by rw[K8,b9]) fun i c y hc p=>?_)⟩;rw[VK] at hc;split at hc
   ·cases hc
   ·rename_i z hz;cases hc;obtain⟨_,x',Y,q2,q3,q4⟩:=sp.dat i z hz;obtain⟨y',e,Q⟩:=X i x' q2;have:y'=y:=by
     have h0:ys[i]?=some y':=by simpa using e
     rw[p] at h0;exact(Option.some.inj h0).symm
    subst this;exact .d _ _ ((Z8 hs fz x' y' z Y q3 (fun q hq=>b3 q (q4 q hq)) Q).ext (jLj _) (fun _ _ _=>rfl) fun r _ h=>L r h)
   ·rename_i sz es hz;cases hc;obtain⟨y',A,o,e,P,V,_⟩:=E hz;have:y'=y:=by rw[p] at e;exact(Option.some.inj e).symm
    subst this;exact .own _ 0 _ _ (by rw[Nat.add_comm];exact Kz hz) (jLj _) V fun _=>by rw[Nat.add_comm];exact(f p).symm
  ·obtain⟨y,A,o,p,P,V,N⟩:=E hc;have h0:RowV w (MM F (Qd H fz++H) ρ) y sz es:=by
    obtain⟨u,_,k2,k3⟩|⟨rfl,a,rfl⟩:=N
    ·have:=K.blk A _ k2;rw[k3];exact this
    ·exact .inl ⟨rfl,a,rfl⟩
   have J:=h0.sub (M':=MM (fun r=>F r\/(Mut (Qd H fz++H) ρ r/\¬Mut (Zx cs) (fun n=>if n=0 then ρ b else ys.getD (n - 1) undef) r)) (Zx cs) (fun n=>if n=0 then ρ b else ys.getD (n - 1) undef)) fun r _ h=>L r h;rw[<-f p] at J;exact J
 ·obtain⟨a,U,ka,W,a3,a4⟩:=s J m1 T;obtain⟨c,d1,kc,d2,d3,d4⟩:=s Z m2 G;have b5:=K.inj a c ka kc r W d2 a3 d3 a4 d4;subst b5;obtain⟨rfl,rfl⟩|⟨i,o,hi,rfl⟩:=U<;>obtain⟨hd,rfl⟩|⟨j,u',hj,rfl⟩:=d1
  ·rfl
  ·exact absurd rfl (V7 C j a u' hj).1
  ·exact absurd hd (V7 C i a o hi).1
  ·rw[(V7 C i a o hi).2.2 j u' hj]
 ·obtain M|⟨_,M⟩:=M
  ·exact K.forb r (O r t) M
  ·exact M t
 ·obtain t|⟨t,_⟩:=t
  ·exact K.bnd r t
  ·exact K.mut_lt t
 ·rintro n k r J Z h3 ⟨A,S,h4,h5,h6⟩;obtain⟨a,U,ka,W,a3,a4⟩:=s h4 h5 h6;have:=K.inj n a k ka r J W Z a3 h3 a4;subst this;obtain⟨rfl,_⟩|⟨i,o,hi,_⟩:=U
  ·exact .inl rfl
  ·exact .inr ⟨i,o,hi⟩
 ·intro i n v hi;have a9:i<cs.length:=by have:=(jGj hi).1;rw[sp.nm.len,sp.lenS,<-sp.len] at this;exact this
  cases hc:cs[i] with
  | dat z =>
   have:=(sp.dat i z (by rw[jej a9,hc])).1;rw[hi] at this;cases this
  | row sz es =>
   obtain⟨A,o,U,W⟩:=sp.row i sz es (by rw[jej a9,hc]);rw[hi] at U;cases U;obtain⟨u,T,G,r3⟩|⟨z,_,_,_,_,r⟩:=W
   ·obtain⟨y,p,Q⟩:=X i _ T;have e : ys[i]?=some y:=by simpa using p
    rw[f e];cases Q with
    | own _ _ S _ a5 b7 V hh =>
     rw[G] at a5;cases a5;exact hh rfl
   ·cases r
mutual
theorem Qar {cx:Cx}{F:Nat->Prop}{H:List (Nat×Blk)}{ρ:Nat->Value}{w:World}(hs:HSim cx F H ρ w){fz:List Nat}{bo:Option Nat}{M:Nat->Prop}{hc:List (Nat×Blk)}{ρc:Nat->Value}(hM:∀r,M r->MM F (Qd H fz++H) ρ r)
  (hb:∀b0,bo=some b0->(∃x,look H b0=some (.box x))/\(∃x,look hc 0=some (.box x))/\ρc 0=ρ b0) :
  ∀(x:AV) (v:Value) (y:AV) (fs:List Nat),x.argO H bo=some (y,fs)->(∀b,b∈fs->b∈fz)->VR w (MM F H ρ) H ρ x v->VR w M hc ρc y v
 | .ptr b' ver sz i off,v,y,fs,h,hf,hr=>by
  simp only[AV.argO] at h;split at h;case h_2 =>
   split at h;case h_2=>cases h
   rename_i z f1 h1;simp only[jIj,jPj] at h;obtain⟨rfl,rfl⟩:=h;exact .d _ _ ((Z8 hs fz _ v z f1 h1 hf hr).ext (jLj _) (fun _ _ _=>rfl) fun r _ h=>hM r h)
  rename_i he;simp only[jIj,jPj] at h;obtain⟨rfl,rfl⟩:=h;simp only[jAj] at he;obtain⟨⟨⟨e1,e2⟩,e3⟩,e4⟩:=he;obtain⟨b0,rfl⟩:∃b0,bo=some b0:=by
   cases bo with
   | none=>simp[isB0] at e1
   | some b0=>exact⟨b0,rfl⟩
  simp only[isB0] at e1;have e1:=jqj e1;have e2:=jqj e2;have e3:=jqj e3;have e4:=jqj e4;subst e1;subst e2;subst e3;subst e4;obtain⟨⟨x,hx⟩,⟨x0,hx0⟩,hρ⟩:=hb b0 rfl;cases hr with
  | ptr _ _ _ _ _ k _ hk hv ho hh =>
   rw[hx] at hk;cases hk;obtain⟨r,hr,hy⟩:=hh rfl;exact .ptr 0 0 0 0 off _ _ hx0 (jLj _) ho fun _=>⟨r,by rw[hρ];exact hr,hy⟩
 | .fn f a c,v,y,fs,h,hf,hr=>by
  simp only[AV.argO] at h;split at h;case h_2=>cases h
  rename_i x1 f1 y1 f2 h1 h2;simp only[jIj,jPj] at h;obtain⟨rfl,rfl⟩:=h;cases hr with
  | fn _ _ _ xs ys hl hm hh kk =>
   obtain⟨q1,q2⟩:=Yy hs hM hb a xs x1 f1 h1 (fun b hb=>hf b (List.mem_append.2 (.inl hb))) hl hh;obtain⟨q3,q4⟩:=Yy hs hM hb c ys y1 f2 h2 (fun b hb=>hf b (List.mem_append.2 (.inr hb))) hm kk;exact Ug (.fn _ _ _ _ _ q1 q3 q2 q4)
 | .agg cs,v,y,fs,h,hf,hr=>by
  simp only[AV.argO] at h;split at h;case h_2=>cases h
  rename_i l f1 h1;simp only[jIj,jPj] at h;obtain⟨rfl,rfl⟩:=h;cases hr with
  | agg _ ys hl hh =>
   obtain⟨q1,q2⟩:=Yy hs hM hb cs ys l f1 h1 hf hl hh;exact Ug (.agg _ _ q1 q2)
 | .tup cs,v,y,fs,h,hf,hr=>by
  simp only[AV.argO] at h;split at h;case h_2=>cases h
  rename_i l f1 h1;simp only[jIj,jPj] at h;obtain⟨rfl,rfl⟩:=h;cases hr with
  | tup _ ys hl hh =>
   obtain⟨q1,q2⟩:=Yy hs hM hb cs ys l f1 h1 hf hl hh;exact Ug (.tup _ _ q1 q2)
 | .d x,v,y,fs,h,hf,hr=>by
  simp only[AV.argO,jIj,jPj] at h;obtain⟨rfl,rfl⟩:=h;cases hr with
  | d _ _ hd=>exact .d _ _ (((hs.freeze fz).2.dr hd).ext (jLj _) (fun _ _ _=>rfl) fun r _ h=>hM r h)
 | .own n u,v,y,fs,h,hf,hr=>by
  simp only[AV.argO] at h;split at h;case h_2=>cases h
  rename_i z f1 h1;simp only[jIj,jPj] at h;obtain⟨rfl,rfl⟩:=h;exact .d _ _ ((Z8 hs fz _ v z f1 h1 hf hr).ext (jLj _) (fun _ _ _=>rfl) fun r _ h=>hM r h)
 | .dptr x o,v,y,fs,h,hf,hr=>by
  simp only[AV.argO,jIj,jPj] at h;obtain⟨rfl,rfl⟩:=h;cases hr with
  | dptr _ _ blk o' hd=>exact .d _ _ ((((hs.freeze fz).2.dat hd).ref _).ext (jLj _) (fun _ _ _=>rfl) fun r _ h=>hM r h)
 | .sub _ _ _ _ _,v,y,fs,h,hf,hr=>by simp[AV.argO] at h
 | .junk,v,y,fs,h,hf,hr=>by simp[AV.argO] at h
theorem Yy {cx:Cx}{F:Nat->Prop}{H:List (Nat×Blk)}{ρ:Nat->Value}{w:World}(hs:HSim cx F H ρ w){fz:List Nat}{bo:Option Nat}{M:Nat->Prop}{hc:List (Nat×Blk)}{ρc:Nat->Value}(hM:∀r,M r->MM F (Qd H fz++H) ρ r)
  (hb:∀b0,bo=some b0->(∃x,look H b0=some (.box x))/\(∃x,look hc 0=some (.box x))/\ρc 0=ρ b0) :
  ∀(cs:List AV) (ys:List Value) (l:List AV) (fs:List Nat),jj H bo cs=some (l,fs)->(∀b,b∈fs->b∈fz)->cs.length=ys.length ->
  (∀(i:Nat) (c:AV) (y:Value),cs[i]?=some c->ys[i]?=some y->VR w (MM F H ρ) H ρ c y) ->
  l.length=ys.length/\∀(i:Nat) (c:AV) (y:Value),l[i]?=some c->ys[i]?=some y->VR w M hc ρc c y
 | [],ys,l,fs,h,_,hl,_=>by simp only[jj,jIj,jPj] at h;obtain⟨rfl,rfl⟩:=h;cases ys<;>simp_all
 | x::cs,ys,l,fs,h,hf,hl,hh=>by
  simp only[jj] at h;split at h;case h_2=>cases h
  rename_i y1 f1 l1 f2 h1 h2;simp only[jIj,jPj] at h;obtain⟨rfl,rfl⟩:=h;cases ys with
  | nil=>simp at hl
  | cons y ys =>
   obtain⟨g1,g2⟩:=Yy hs hM hb cs ys l1 f2 h2 (fun b hb=>hf b (List.mem_append.2 (.inr hb))) (by simpa using hl) (fun i c z hc hz=>hh (i+1) c z (by simpa using hc) (by simpa using hz));refine⟨by simpa using g1,fun i c z hc hz=>?_⟩;cases i with
   | zero =>
    simp only[jzj,jIj] at hc hz;subst hc;subst hz;exact Qar hs hM hb x y y1 f1 h1 (fun b hb=>hf b (List.mem_append.2 (.inl hb))) (hh 0 x y rfl rfl)
   | succ i=>exact g2 i c z (by simpa using hc) (by simpa using hz)
end
mutual
theorem X2 {w:World}{M M' : Nat->Prop}{hc H:List (Nat×Blk)}{ρc ρ:Nat->Value}{b:Nat}(hM:∀r,M' r->M r)(hb:∃x,look H b=some (.box x))(hρ:ρ b=ρc 0)(h0:∃x,look hc 0=some (.box x)) :
  ∀(x:AV) (v:Value) (y:AV),x.resO b=some y->VR w M hc ρc x v->VR w M' H ρ y v
 | .d x,v,y,h,hr=>by
  simp only[AV.resO,jIj] at h;subst h;cases hr with
  | d _ _ hd=>exact .d _ _ (hd.ext (jLj _) (fun _ _ _=>rfl) fun r _ h=>hM r h)
 | .agg cs,v,y,h,hr=>by
  simp only[AV.resO] at h;split at h;case h_2=>cases h
  rename_i l h1;simp only[jIj] at h;subst h;cases hr with
  | agg _ ys hl hh =>
   obtain⟨q1,q2⟩:=EY hM hb hρ h0 cs ys l h1 hl hh;exact .agg _ _ q1 q2
 | .tup cs,v,y,h,hr=>by
  simp only[AV.resO] at h;split at h;case h_2=>cases h
  rename_i l h1;simp only[jIj] at h;subst h;cases hr with
  | tup _ ys hl hh =>
   obtain⟨q1,q2⟩:=EY hM hb hρ h0 cs ys l h1 hl hh;exact .tup _ _ q1 q2
 | .ptr b' ver sz i off,v,y,h,hr=>by
  simp only[AV.resO] at h;split at h;case h_2=>cases h
  rename_i he;simp only[jIj] at h;subst h;simp only[jAj] at he;obtain⟨⟨⟨e1,e2⟩,e3⟩,e4⟩:=he;have e1:=jqj e1;have e2:=jqj e2;have e3:=jqj e3;have e4:=jqj e4;subst e1;subst e2;subst e3;subst e4;obtain⟨x,hx⟩:=hb;obtain⟨x0,hx0⟩:=h0;cases hr with
  | ptr _ _ _ _ _ k _ hk hv ho hh =>
   rw[hx0] at hk;cases hk;obtain⟨r,hr,hy⟩:=hh rfl;exact .ptr b 0 0 0 off _ _ hx (jLj _) ho fun _=>⟨r,by rw[hρ];exact hr,hy⟩
 | .fn _ _ _,v,y,h,hr=>by simp[AV.resO] at h
 | .own _ _,v,y,h,hr=>by simp[AV.resO] at h
 | .dptr _ _,v,y,h,hr=>by simp[AV.resO] at h
 | .sub _ _ _ _ _,v,y,h,hr=>by simp[AV.resO] at h
 | .junk,v,y,h,hr=>by simp[AV.resO] at h
theorem EY {w:World}{M M' : Nat->Prop}{hc H:List (Nat×Blk)}{ρc ρ:Nat->Value}{b:Nat}(hM:∀r,M' r->M r)(hb:∃x,look H b=some (.box x))(hρ:ρ b=ρc 0)(h0:∃x,look hc 0=some (.box x)) :
  ∀(cs:List AV) (ys:List Value) (l:List AV),Qa8 b cs=some l->cs.length=ys.length ->
  (∀(i:Nat) (c:AV) (y:Value),cs[i]?=some c->ys[i]?=some y->VR w M hc ρc c y) ->
  l.length=ys.length/\∀(i:Nat) (c:AV) (y:Value),l[i]?=some c->ys[i]?=some y->VR w M' H ρ c y
 | [],ys,l,h,hl,_=>by simp only[Qa8,jIj] at h;subst h;cases ys<;>simp_all
 | x::cs,ys,l,h,hl,hh=>by
  simp only[Qa8] at h;split at h;case h_2=>cases h
  rename_i y1 l1 h1 h2;simp only[jIj] at h;subst h;cases ys with
  | nil=>simp at hl
  | cons y ys =>
   obtain⟨g1,g2⟩:=EY hM hb hρ h0 cs ys l1 h2 (by simpa using hl) (fun i c z hc hz=>hh (i+1) c z (by simpa using hc) (by simpa using hz));refine⟨by simpa using g1,fun i c z hc hz=>?_⟩;cases i with
   | zero =>
    simp only[jzj,jIj] at hc hz;subst hc;subst hz;exact X2 hM hb hρ h0 x y y1 h1 (hh 0 x y rfl rfl)
   | succ i=>exact g2 i c z (by simpa using hc) (by simpa using hz)
end
theorem jH:∀(cs:List OC) (m i n v:Nat),(YW m cs)[i]?=some (some (n,v))->n=m+i/\v=0
 | [],m,i,n,v,h=>by simp[YW] at h
 | .dat x::l,m,0,n,v,h=>by simp[YW] at h
 | .dat x::l,m,i+1,n,v,h=>by obtain⟨b,a⟩:=jH l (m+1) i n v (by simpa[YW] using h);exact⟨by omega,a⟩
 | .row s e::l,m,0,n,v,h=>by simp only[YW,jzj,jIj,jPj] at h;exact⟨by omega,h.2.symm⟩
 | .row s e::l,m,i+1,n,v,h=>by obtain⟨b,a⟩:=jH l (m+1) i n v (by simpa[YW] using h);exact⟨by omega,a⟩
theorem E6:∀(cs:List OC) (m:Nat),Names (YW m cs) cs
 | [],m=>⟨fun i sz es h=>by simp at h,fun i x h=>by simp at h,rfl⟩
 | .dat y::l,m=>by
  have a:=E6 l (m+1);refine⟨fun i sz es h=>?_,fun i x h=>?_,by simp[YW,a.len]⟩
  ·cases i with
   | zero=>simp at h
   | succ i=>simpa[YW] using a.row i sz es (by simpa using h)
  ·cases i with
   | zero=>simp[YW]
   | succ i=>simpa[YW] using a.dat i x (by simpa using h)
 | .row s e::l,m=>by
  have a:=E6 l (m+1);refine⟨fun i sz es h=>?_,fun i x h=>?_,by simp[YW,a.len]⟩
  ·cases i with
   | zero=>exact⟨(m,0),by simp[YW]⟩
   | succ i=>simpa[YW] using a.row i sz es (by simpa using h)
  ·cases i with
   | zero=>simp at h
   | succ i=>simpa[YW] using a.dat i x (by simpa using h)
theorem Names.keep {ns:List (Option (Nat×Nat))}{cs:List OC}(h:Names ns cs)(ks:List Bool):Names (WD ks ns) cs :=
 ⟨fun i sz es hc=>by obtain⟨⟨n,v⟩,hp⟩:=h.row i sz es hc;obtain⟨u,a⟩:=GU ks ns i n v hp;exact⟨_,a⟩,fun i x hc=>kZ ks ns i (h.dat i x hc),by rw[uD];exact h.len⟩
theorem Qi4 {x:AV}{cells:List AV}(h:QeP x=true)(b:x.cells=some cells)(e:Gi x=true):AV.norm (.agg cells)=x:=by
 cases x with
 | agg l =>
  simp only[AV.cells] at b;split at b;case h_2=>cases b
  cases b;simp only[QeP] at h;unfold AV.norm;simp only[AV.toD];split at h
  ·rename_i f;rw[f]
  ·cases h
 | d y =>
  cases y with
  | agg a =>
   have c:=KX b;subst c;have:∀a:jVj,Ju (a.map .d)=some a:=by
    intro a;induction a with
    | nil=>rfl
    | cons d a ih=>simp only[jCj,Ju,AV.toD,ih]
   simp only[SX.D.cells,AV.norm,AV.toD,this]
  | _=>cases h
 | _=>cases h
theorem zQ {H:List (Nat×Blk)}:∀(cells:List AV) (ss:List OC) (m:Nat) (cs:List OC) (ns:List (Option (Nat×Nat))) (f:List Nat) (ks:List Bool),YT H m cells ss=some (cs,ns,f)->Ge ks cells ss=true ->
  ZH (WD ks ns) cs=cells/\∀(i n v:Nat),(WD ks ns)[i]?=some (some (n,v))->∃sz es,cs[i]?=some (.row sz es)/\look H n=some (.row v sz es)
 | [],[],m,cs,ns,f,ks,h,hp=>by simp only[YT,jIj,jPj] at h;obtain⟨rfl,rfl,rfl⟩:=h;rw[Gf];exact⟨rfl,fun i n v hi=>by simp at hi⟩
 | [],_::_,m,cs,ns,f,ks,h,hp=>by simp[YT] at h
 | _::_,[],m,cs,ns,f,ks,h,hp=>by simp[YT] at h
 | x::xs,.dat y0::ss,m,cs,ns,f,ks,h,hp=>by
  match ks,x,hp with
  | true::ks,.d y,hp =>
   simp only[Ge] at hp;simp only[YT,AV.toDH] at h;split at h;case h_2=>cases h
   rename_i C q c e gs1 g k;simp only[jIj,jPj] at g;obtain⟨rfl,rfl⟩:=g;simp only[jIj,jPj] at h;obtain⟨rfl,rfl,rfl⟩:=h;obtain⟨l,s⟩:=zQ xs ss (m+1) c e gs1 ks k hp;refine⟨by simp only[WD,ZH,l],fun i n v hi=>?_⟩;cases i with
   | zero=>simp[WD] at hi
   | succ i=>simpa using s i n v (by simpa[WD] using hi)
 | x::xs,.row sz0 e0::ss,m,cs,ns,f,ks,h,hp=>by
  match ks,x,hp with
  | true::ks,.own n0 u0,hp =>
   simp only[Ge] at hp;simp only[YT] at h;split at h;case h_2=>cases h
   rename_i A l c e gs1 g k;simp only[jIj,jPj] at h;obtain⟨rfl,rfl,rfl⟩:=h;obtain⟨t,w⟩:=zQ xs ss (m+1) c e gs1 ks k hp;obtain⟨es,rfl,r⟩:=Qdb g;obtain⟨u,j,o,p⟩|⟨z,j,_⟩:=r
   ·obtain⟨a,b⟩:=l;simp only at p o j;subst p;cases j;refine⟨by simp only[WD,ZH,t],fun i n v hi=>?_⟩;cases i with
    | zero =>
     simp only[WD,jzj,jIj,jPj] at hi;obtain⟨rfl,rfl⟩:=hi;exact⟨sz0,es,rfl,o⟩
    | succ i=>simpa using w i n v (by simpa[WD] using hi)
   ·cases j
theorem Qet {H:List (Nat×Blk)}(cells:List AV)(ss:List OC)(m:Nat)(cs:List OC)(ns:List (Option (Nat×Nat)))(a:List Nat)(ks:List Bool)(h:YT H m cells ss=some (cs,ns,a))(_:Ge ks cells ss=true):Names ns cs:=by
 have sp:=Y0 cells ss m cs ns a h;refine⟨fun i sz es hc=>?_,fun i y hc=>(sp.dat i y hc).1,?_⟩
 ·obtain⟨n,v,b,_⟩:=sp.row i sz es hc;exact⟨_,b⟩
 ·rw[sp.nm.len,sp.lenS,sp.len]
theorem Qjr {cx:Cx}{H:List (Nat×Blk)}{k:Nat}{f:FuncId}{a:List AV}{b ver sz:Nat}{es:jVj}{r:AV}{g : List OC}{o' : List Orc}{d:RC}(h:arow cx H k f a b ver sz es r g o'=some d)(l:look H b=some (.row ver sz es))(j:∀p,p∈d.ob->p)
  {F:Nat->Prop} {ρ:Nat->Value} {w:World} {vs:List Value} (n:HSim cx F H ρ w) (m:a.length=vs.length)
  (o:∀(i:Nat) (c:AV) (y:Value),a[i]?=some c->vs[i]?=some y->VR w (MM F H ρ) H ρ c y) :
  Calls cx.P f vs.toArray w fun e w'=>∃v,e=.returned v/\∃ρ',HSim cx F (d.heap H) ρ' w'/\Steps1 H ρ w (d.heap H) ρ' w'/\VR w' (MM F (d.heap H) ρ') (d.heap H) ρ' d.val v:=by
 unfold arow at h;cases h
theorem Qhd {cx:Cx}{H:List (Nat×Blk)}{nx:Nat}{f:FuncId}{s:List AV}{bo:Option Nat}{r:AV}{a : List OC}{ks:List Bool}{o' : List Orc}{rc:RC}(h:kH cx H nx f s bo r a ks o'=some rc)(W:∀p,p∈rc.ob->p)
  {F:Nat->Prop} {ρ:Nat->Value} {w:World} {vs:List Value} (Z:HSim cx F H ρ w) (hl:s.length=vs.length)
  (hv:∀(i:Nat) (c:AV) (y:Value),s[i]?=some c->vs[i]?=some y->VR w (MM F H ρ) H ρ c y) :
  Calls cx.P f vs.toArray w fun e w'=>∃v,e=.returned v/\∃ρ',HSim cx F (rc.heap H) ρ' w'/\Steps1 H ρ w (rc.heap H) ρ' w'/\VR w' (MM F (rc.heap H) ρ') (rc.heap H) ρ' rc.val v:=by
 unfold kH at h;split at h;case h_2=>cases h
 rename_i U d A b5;split at h
 ·-- an object that is there
  rename_i b;split at h;case h_3=>cases h
  case h_2=>rename_i J;exact Qjr h J W Z hl hv
  rename_i x J;split at h;case h_2=>cases h
  rename_i cells hx a0;split at h;case h_2=>cases h
  rename_i cs ns j O;split at h;case h_2=>cases h
  rename_i G o N;split at h
  ·-- the object stays U it was
   rename_i X;simp only[jAj] at X;simp only[jIj] at h;subst h;obtain⟨g1,g2⟩:=Z.freeze (d++j);obtain⟨ρc,o1,o2,o3,o4,o5⟩:=QeC Z (fz:=d++j) J hx a0 O (fun q Y=>List.mem_append.2 (.inr Y)) o;have sp:=Y0 cells a nx cs ns j O;obtain⟨b8,a8⟩:=zQ cells a nx cs ns j ks O X.1;have L:look (Qd H (d++j)++H) b=some (.box x):=by rw[QY _ _ _ (Xn o)];exact J
   have hM:∀r,MM (fun r=>F r\/(Mut (Qd H (d++j)++H) ρ r/\¬Mut (Zx cs) ρc r)) (Zx cs) ρc r->MM F (Qd H (d++j)++H) ρ r:=by
    rintro r ((h|⟨h,_⟩)|h)
    ·exact .inl h
    ·exact .inr h
    ·exact .inr (o2 r h)
   obtain⟨d1,d2⟩:=Yy Z (fz:=d++j) (bo:=some b) (M:=MM (fun r=>F r\/(Mut (Qd H (d++j)++H) ρ r/\¬Mut (Zx cs) ρc r)) (Zx cs) ρc) (hc:=Zx cs) (ρc:=ρc) hM
    (fun b0 h=>by cases h;exact⟨⟨x,J⟩,⟨_,ZX cs⟩,o1⟩) s vs U d A (fun q Y=>List.mem_append.2 (.inl Y)) hl hv
   have m:ComputesO cx f U (some cs) r cs ks:=W _ (by exact jMj);refine(m w _ ρc vs o3 d1 d2).mono ?_;rintro e w' ⟨y,ρ',rfl,q1,q2,q3,q4,q5⟩;have b7:Names ns cs:=Qet cells a nx cs ns j ks O X.1;obtain⟨k1,k2,k3,k4,k5⟩:=glue g1 (hin:=Zx cs) (ρc:=ρc) o2 (cs:=cs) (ns:=WD ks ns) (bn:=b) (fz:=d++j) (b7.keep ks) (by rw[JL];exact o)
    (fun n k r h1 h2 h3 h4=>(o4 n k r h1 h2 h3 h4).imp id fun⟨i,v,hi⟩=>⟨i,GU ks ns i n v hi⟩)
    (fun i n G k E l=>by
     obtain⟨sz,es,hc,Q⟩:=a8 i n G E;have S:¬n∈d++j:=(V7 (by rw[JL];exact o) i n G E).2.1;rw[QY _ _ _ S,Q] at l;cases l;refine⟨jLj _,fun _=>?_⟩;obtain h|⟨l,h⟩:=Gg ks ns i n G E
     ·exfalso;obtain⟨n',v',a1,a2⟩:=sp.row i sz es hc;rw[h] at a1;cases a1;obtain⟨u,_,b2,b3⟩|⟨z,_,_,_,b4,_⟩:=a2
      ·rw[Q] at b2;cases b2;omega
      ·rw[Q] at b4;cases b4
     ·rw[(q5 rfl).2 i sz es l hc];exact o5 i n G h)
    (fun k l=>by rw[L] at l;cases l;exact⟨rfl,by rw[(q5 rfl).1];exact o1⟩) q1 q3 q4
   have a3:AV.norm (.agg (ZH (WD ks ns) cs))=x:=by rw[b8];exact Qi4 X.2 hx a0
   have b6:∀n,look (Qd H (d++j)++H) n=look (Uo (WD ks ns) b cs (Qd H (d++j)++H)) n:=by
    intro n;by_cases hn:n=b
    ·subst hn;rw[k4,L,a3]
    ·rw[Uo,Qc _ _ (Ne.symm hn),WH (Vn (WD ks ns) cs)];cases hlo:look (Vn (WD ks ns) cs) n with
     | none=>rfl
     | some k =>
      obtain⟨i,v,sz,es,a1,a2,rfl⟩:=Ue hlo;obtain⟨a9,a5,hc,Q⟩:=a8 i n v a1;rw[a2] at hc;cases hc;have S:¬n∈d++j:=(V7 (by rw[JL];exact o) i n v a1).2.1;rw[QY _ _ _ S];exact Q
   obtain⟨u1,u2⟩:=W6 b6 k1;refine⟨y,rfl,_,u1,(g2.trans k2).trans u2,?_⟩;exact u2.vr (X2 k3 ⟨_,k4⟩ k5 ⟨_,ZX cs⟩ r y G N q2)
  simp only[jIj] at h;subst h;obtain⟨g1,g2⟩:=Z.freeze (d++j);obtain⟨ρc,o1,o2,o3,o4,o5⟩:=QeC Z (fz:=d++j) J hx a0 O (fun q Y=>List.mem_append.2 (.inr Y)) o;have sp:=Y0 cells a nx cs ns j O;have L:look (Qd H (d++j)++H) b=some (.box x):=by rw[QY _ _ _ (Xn o)];exact J
  have hM:∀r,MM (fun r=>F r\/(Mut (Qd H (d++j)++H) ρ r/\¬Mut (Zx cs) ρc r)) (Zx cs) ρc r->MM F (Qd H (d++j)++H) ρ r:=by
   rintro r ((h|⟨h,_⟩)|h)
   ·exact .inl h
   ·exact .inr h
   ·exact .inr (o2 r h)
  obtain⟨d1,d2⟩:=Yy Z (fz:=d++j) (bo:=some b) (M:=MM (fun r=>F r\/(Mut (Qd H (d++j)++H) ρ r/\¬Mut (Zx cs) ρc r)) (Zx cs) ρc) (hc:=Zx cs) (ρc:=ρc) hM
   (fun b0 h=>by cases h;exact⟨⟨x,J⟩,⟨_,ZX cs⟩,o1⟩) s vs U d A (fun q Y=>List.mem_append.2 (.inl Y)) hl hv
  have m:ComputesO cx f U (some cs) r a ks:=W _ (by exact jMj);refine(m w _ ρc vs o3 d1 d2).mono ?_;rintro e w' ⟨y,ρ',rfl,q1,q2,q3,q4,q5⟩;have V:∀(i n v:Nat),ns[i]?=some (some (n,v))->∃(sz:Nat) (es:jVj),cs[i]?=some (.row sz es):=by
   intro i n v hi;have a6:i<cs.length:=by have:=(jGj hi).1;rw[sp.nm.len,sp.lenS,<-sp.len] at this;exact this
   cases hc:cs[i] with
   | dat z =>
    have:=(sp.dat i z (by rw[jej a6,hc])).1;rw[hi] at this;cases this
   | row sz es=>exact⟨sz,es,by rw[jej a6,hc]⟩
  obtain⟨k1,k2,k3,k4,k5⟩:=glue g1 (hin:=Zx cs) (ρc:=ρc) o2 (cs:=a) (ns:=WD ks ns) (bn:=b) (fz:=d++j) (sp.nm.keep ks) (by rw[JL];exact o)
   (fun n k r h1 h2 h3 h4=>(o4 n k r h1 h2 h3 h4).imp id fun⟨i,v,hi⟩=>⟨i,GU ks ns i n v hi⟩)
   (fun i n G k E l=>by
    have a7:∃v,ns[i]?=some (some (n,v)):=by
     obtain h|⟨_,h⟩:=Gg ks ns i n G E
     ·exact⟨_,h⟩
     ·exact⟨_,h⟩
    obtain⟨v,hi⟩:=a7;obtain⟨sz,es,hc⟩:=V i n v hi;obtain⟨n',v',a1,a2⟩:=sp.row i sz es hc;rw[hi] at a1;cases a1;have S:=(V7 o i n v hi).2.1;rw[QY _ _ _ S] at l;obtain⟨u,_,b2,b3⟩|⟨z,_,_,_,b4,_⟩:=a2
    ·rw[b2] at l;cases l;simp only[Blk.ver];obtain h|⟨l,h⟩:=Gg ks ns i n G E
     ·rw[hi] at h;cases h;exact⟨by omega,fun h=>by omega⟩
     ·rw[hi] at h;cases h;refine⟨by omega,fun _=>?_⟩;obtain⟨a9,a5,a4⟩:=(sp.nm.keep ks).rowOf E;rw[(q5 rfl).2 i a9 a5 l a4];exact o5 i n G hi
    ·rw[b4] at l;cases l)
   (fun k l=>by rw[L] at l;cases l;exact⟨rfl,by rw[(q5 rfl).1];exact o1⟩) q1 q3 q4
  have C:RC.heap { val:=G,up:=(b,.box (AV.norm (.agg (ZH (WD ks ns) a))))::(Vn (WD ks ns) a++Qd H (d++j)),full:=none,nx:=nx+a.length,ob:=[ComputesO cx f U (some cs) r a ks],orc:=o',sfx:=true } H=Uo (WD ks ns) b a (Qd H (d++j)++H):=by simp only[RC.heap,Uo,List.cons_append,List.append_assoc]
  rw[C];refine⟨y,rfl,_,k1,g2.trans k2,?_⟩;exact X2 k3 ⟨_,k4⟩ k5 ⟨_,ZX a⟩ r y G N q2
 ·-- an object that the callee makes
  split at h;case h_2=>cases h
  rename_i G o N;simp only[jIj] at h;subst h;obtain⟨g1,g2⟩:=Z.freeze d;have t:∀r,¬Mut (Yo none) (fun _=>undef) r:=by rintro r ⟨b,k,J,_⟩;simp[Yo,look] at J
  have hM:∀r,MM (fun r=>F r\/(Mut (Qd H d++H) ρ r/\¬Mut (Yo none) (fun _=>undef) r)) (Yo none) (fun _=>undef) r->MM F (Qd H d++H) ρ r:=by
   rintro r ((h|⟨h,_⟩)|h)
   ·exact .inl h
   ·exact .inr h
   ·exact absurd h (t r)
  have o3:HSim cx (fun r=>F r\/(Mut (Qd H d++H) ρ r/\¬Mut (Yo none) (fun _=>undef) r)) (Yo none) (fun _=>undef) w :=
   ⟨fun b k J=>by simp[Yo,look] at J,fun b b' k k' r J=>by simp[Yo,look] at J,fun r T=>absurd T (t r),fun r T=>by
    obtain T|⟨T,_⟩:=T
    ·exact g1.bnd r T
    ·exact g1.mut_lt T,fun g z hg=>(g1.glob g z hg).ext (jLj _) (fun _ _ _=>rfl) fun r _ h=>hM r h⟩
  obtain⟨d1,d2⟩:=Yy Z (fz:=d) (bo:=none) (M:=MM (fun r=>F r\/(Mut (Qd H d++H) ρ r/\¬Mut (Yo none) (fun _=>undef) r)) (Yo none) (fun _=>undef)) (hc:=Yo none) (ρc:=fun _=>undef) hM
   (fun b0 h=>by cases h) s vs U d A (fun q Y=>Y) hl hv
  have m:ComputesO cx f U none r a ks:=W _ (by exact jMj);refine(m w _ (fun _=>undef) vs o3 d1 d2).mono ?_;rintro e w' ⟨y,ρ',rfl,q1,q2,q3,q4,_⟩;have K:∀n,nx<=n->look (Qd H d++H) n=none:=by
   intro n hn;have h0:look H n=none:=by
    cases hc:look H n with
    | none=>rfl
    | some k=>have:=VO b5 hc;omega
   obtain h|⟨_,_,_,h,_⟩|⟨_,_,_,h,_⟩|⟨_,h,_⟩:=Wo H d n
   ·rw[h];exact h0
   ·rw[h0] at h;cases h
   ·rw[h0] at h;cases h
   ·rw[h0] at h;cases h
  obtain⟨k1,k2,k3,k4,k5⟩:=glue g1 (hin:=Yo none) (ρc:=fun _=>undef) (fun r T=>absurd T (t r)) (cs:=a) (ns:=YW (nx+1) a) (bn:=nx) (fz:=d) (E6 a (nx+1)) o (fun n k r _ _ _ T=>absurd T (t r))
   (fun i n v k hi l=>by obtain⟨rfl,_⟩:=jH a (nx+1) i n v hi;rw[K _ (by omega)] at l;cases l)
   (fun k l=>by rw[K _ (jLj _)] at l;cases l) q1 q3 q4
  have C:RC.heap { val:=G,up:=(nx,.box (AV.norm (.agg (ZH (YW (nx+1) a) a))))::(Vn (YW (nx+1) a) a++Qd H d),full:=none,nx:=nx+1+a.length,ob:=[ComputesO cx f U none r a ks],orc:=o',sfx:=true } H=Uo (YW (nx+1) a) nx a (Qd H d++H):=by simp only[RC.heap,Uo,List.cons_append,List.append_assoc]
  rw[C];refine⟨y,rfl,_,k1,g2.trans k2,?_⟩;exact X2 k3 ⟨_,k4⟩ k5 ⟨_,ZX a⟩ r y G N q2
section
variable {cx:Cx}
theorem Qc7 {H:List (Nat×Blk)}{x y:AV}{s:St}(h:QbZ H x s=some y)(e:s.sfx=true->∃new,s.hp=new++H) :
  ∃z f,x.toDH s.hp=some (z,f)/\y=.d z/\(∀b,look H b≠none->¬b∈f)/\∀b k,look H b=some k->look s.hp b=some k:=by
 unfold QbZ at h;split at h;case h_2=>cases h
 rename_i z f hc j;split at h;case h_2=>cases h
 rename_i a;simp only[jIj] at h;subst h;simp only[jAj] at hc;obtain⟨new,c⟩:=e hc.1;refine⟨z,f,j,rfl,fun b g m=>?_,fun b k g=>?_⟩
 ·simp only[List.all_eq_true] at a;have:=a b m;rw[V9.2 g] at this;cases this
 ·have i:=hc.2;rw[c] at i ⊢;have l:(new++H).length - H.length=new.length:=by simp
  rw[l] at i;rw[WH,Gk new H i b (by rw[g];simp)];exact g
theorem QdV {w w' : World}{M M' : Nat->Prop}{x:D}{y:Value}(hp:Qij x=true)(h:DR w M x y):DR w' M' x y:=by cases x<;>first|(cases h;exact .v _)|cases hp
theorem Qik {w w' : World}{M M' : Nat->Prop}{x:D}{y:Value}(hp:QfY x=true)(h:DR w M x y):DR w' M' x y:=by
 cases x with
 | v=>cases h;exact .v _
 | agg l =>
  cases h with
  | agg _ ys a h=>exact .agg l ys a fun i c y hc b=>QdV (List.all_eq_true.1 hp c (jgj hc)) (h i c y hc b)
 | _=>cases hp
theorem Qgw {w w' : World}{M M' : Nat->Prop}{x:D}{y:Value}(hp:Qev x=true)(h:DR w M x y):DR w' M' x y:=by
 cases x with
 | v=>cases h;exact .v _
 | agg l =>
  cases h with
  | agg _ ys a h=>exact .agg l ys a fun i c y hc b=>QdV (List.all_eq_true.1 hp c (jgj hc)) (h i c y hc b)
 | tup l =>
  cases h with
  | tup _ ys a h=>exact .tup l ys a fun i c y hc b=>Qik (List.all_eq_true.1 hp c (jgj hc)) (h i c y hc b)
 | _=>cases hp
theorem QiE (hN:NoAsk cx){ex:Code->St->Option (Ex×St)}(X:ExOK cx ex)(hS:yu ex):QaB cx (QbM ex cx):=by
 intro keepable H nx c6 orc f a0 rc h T F ρ w vs E Y hv;obtain⟨fn,S,hc⟩:=yr h;obtain⟨c,us,v,P,W,L,M,h5,_⟩|⟨c,r,ds,u,P,W,L,M,h5⟩|⟨c,a7,o',x,s',P,W,L⟩|⟨c,bo,r0,b9,ks,o',M⟩:=hc;case inr.inr.inr=>exact .inr ⟨En hN S c _ _,Qhd M T E Y hv⟩
 ·left;have:=Er _ _ us P Y hv;subst this;exact⟨v,VP W w,h5,M,by rw[L];exact G7 _ _ _ _ v⟩
 ·right;refine⟨En hN S c _ _,?_⟩;have A:Computes cx f ds r:=by
   obtain hq|⟨g,hg,hq⟩:=h5
   ·exact T _ (by rw[hq];exact jMj)
   ·exact hN.known f g ds r hg hq
  obtain⟨J,g2⟩:=E.freeze u;obtain⟨G,O⟩:=Yv E u a0 vs ds u P (fun _ h=>h) Y hv;obtain L|⟨L,b8⟩:=L;case inr =>
   have a:rc.heap H=H:=by rw[RC.heap,M,L];rfl
   refine(A w (MM F (Qd H u++H) ρ) vs (fun r i=>?_) J.glob G O).mono ?_
   ·obtain i|i:=i
    ·exact J.bnd r i
    ·exact J.mut_lt i
   ·rintro e w' ⟨y,rfl,K,s⟩;have o:Steps1 H ρ w H ρ w':=⟨s.mono fun _ h=>h.elim,fun _ _ h=>h,Grows.refl _ _⟩
    have U:=E.step o (fun b k c=>.inl ⟨c,rfl,fun t r i=>s.same r ((E.blk b k c).root_lt t i) (fun h=>h)⟩) E.inj E.forb;refine⟨y,rfl,ρ,by rw[a];exact U,by rw[a];exact o,?_⟩;rw[a,W];exact .d _ _ (Qgw b8 K)
  have a:rc.heap H=Qd H u++H:=by rw[RC.heap,M,L]
  refine(A w (MM F (Qd H u++H) ρ) vs (fun r i=>?_) J.glob G O).mono ?_
  ·obtain i|i:=i
   ·exact J.bnd r i
   ·exact J.mut_lt i
  ·rintro e w' ⟨y,rfl,K,s⟩;have o:Steps1 (Qd H u++H) ρ w (Qd H u++H) ρ w':=⟨s.mono fun _ h=>h.elim,fun _ _ h=>h,Grows.refl _ _⟩
   have U:=J.step o (fun b k c=>.inl ⟨c,rfl,fun t r i=>s.same r ((J.blk b k c).root_lt t i) (fun h=>h)⟩) J.inj J.forb;refine⟨y,rfl,ρ,by rw[a];exact U,by rw[a];exact g2.trans o,by rw[a,W];exact .d _ _ K⟩
 ·right;refine⟨En hN S c _ _,?_⟩;obtain⟨e1,e2⟩:=U9 X hS P (by rw[<-W];exact T);refine(e2 F ρ w vs E Y hv).mono ?_;rintro e w' ⟨v,rfl,ρ',K,s,q3⟩;refine⟨v,rfl,?_⟩;have m:Grows H s'.hp ρ ρ':=⟨fun b k c=>s.grow b k (VO a7 c) c⟩
  have o:Steps1 H ρ w s'.hp ρ' w':=⟨s.ext,s.mt,m⟩
  obtain⟨a1,a2,a3,_⟩|⟨y,a1,a2,a3,a4⟩|a1:=L
  ·have a:rc.heap H=s'.hp:=by rw[RC.heap,a3]
   exact⟨ρ',by rw[a];exact K,by rw[a];exact o,by rw[a,a1];exact q3⟩
  ·have a:rc.heap H=H:=by rw[RC.heap,a4,a3];rfl
   obtain⟨z,u,b1,b2,b3,b4⟩:=Qc7 a1 (Eh hS P);have p:∀b k,look H b=some k->look s'.hp b=some k/\ρ' b=ρ b:=by intro b k c;obtain⟨N,V,_,c3⟩:=m.dom b k c;have:=b4 b k c;rw[V] at this;cases this;exact⟨V,c3 rfl⟩
   obtain⟨r1,r2⟩:=E.restrict K p s.ext;refine⟨ρ,by rw[a];exact r1,by rw[a];exact r2,?_⟩;rw[a,a2,b2];have a8:=Z8 K u x v z u b1 (fun _ h=>h) q3;refine .d _ _ (a8.ext (jLj _) (fun _ _ _=>rfl) fun r _ t=>t.imp id ?_);rintro⟨b,k,c,t,i⟩;obtain⟨V,c2⟩:=p b k c;exact⟨b,k,by rw[QY _ _ _ (b3 b (by rw[c];simp))];exact V,t,by rw[c2];exact i⟩
  ·obtain⟨b,k0,rfl,V,c2,c3,c4,c5,Q,rfl⟩:=wd a1;obtain⟨new,a5⟩:=Eh hS P V;have p:∀b k,look H b=some k->look s'.hp b=some k/\ρ' b=ρ b:=by
    intro b' k c;have M:look s'.hp b'=some k:=by
     rw[a5] at c2 ⊢;have Y:(new++H).length - H.length=new.length:=by simp
     rw[Y] at c2;rw[WH,Gk new H c2 b' (by rw[c];simp)];exact c
    obtain⟨N,G,_,d3⟩:=m.dom b' k c;rw[G] at M;cases M;exact⟨G,d3 rfl⟩
   have X:∀r,QX (ρ' b)=some r->Mut s'.hp ρ' r/\w.heap.size<=r:=by
    intro r i;have t:Mut s'.hp ρ' r:=⟨b,_,c4,GV Q,i⟩
    refine⟨t,?_⟩;obtain b6|a9:=Nat.lt_or_ge r w.heap.size
    ·exfalso;obtain⟨b',N,j,C,l⟩:=s.mt r b6 t;obtain⟨G,O⟩:=p b' N j;have:=K.inj b' b N _ r G c4 C (GV Q) (by rw[O];exact l) i;rw[this,c5] at j;cases j
    ·exact a9
   have r1:=E.restrictE K p s.ext X;have a6:FreshV w' (MM (fun r=>F r\/QX (ρ' b)=some r) H ρ) (ρ' b) k0:=by
    have h0:FreshV w' (MM F s'.hp ρ') (ρ' b) k0:=jT Q (K.blk b _ c4);refine h0.sub ?_;rintro r _ ((h|h)|⟨b',N,j,C,l⟩)
    ·exact .inl h
    ·exact .inr (X r h).1
    ·obtain⟨G,O⟩:=p b' N j;exact .inr ⟨b',N,G,C,by rw[O];exact l⟩
   have r3:=r1.name (nm:=b) c5 (fun r h=>h) (fun r i hf=>by have G:=E.bnd r hf;have O:=(X r i).2;omega) a6
   have a:RC.heap { val:=.own b k0.ver,up:=[(b,k0)],full:=none,nx,ob:=s'.ob,orc:=s'.orc,sfx:=true } H=(b,k0)::H:=rfl;rw[a];refine⟨_,r3,⟨s.ext,fun r i t=>?_,⟨fun n k Z=>?_⟩⟩,?_⟩
   ·obtain⟨n,N,Z,C,l⟩:=t;by_cases q:n=b
    ·subst q;rw[Qx] at l;have:=(X r l).2;omega
    ·rw[Qc _ _ (Ne.symm q)] at Z;rw[QL _ _ q] at l;exact⟨n,N,Z,C,l⟩
   ·have q:n≠b:=fun e=>by rw[e,c5] at Z;cases Z
    exact⟨k,by rw[Qc _ _ (Ne.symm q)];exact Z,jLj _,fun _=>QL _ _ q⟩
   ·cases q3 with
    | own _ _ kk _ j c0 b7 b5 =>
     rw[c4] at j;cases j;exact .own _ k0.ver _ _ (Qf _ _ _) (jLj _) b7 fun _=>by rw[Qx];exact b5 rfl
theorem Qdo {z sz:Nat}{es:jVj}{w:World}{M:Nat->Prop}{v:Value}(h:DR w M (.lst true sz es) v) :
  (Xm z sz es).ver=0/\(∀(M' : Nat->Prop) (hp:List (Nat×Blk)) (ρ:Nat->Value) (b:Nat),ρ b=v->DR w M' (.lst true sz es) v->BlkR w M' hp ρ b (Xm z sz es))/\((Xm z sz es).live=true->QX v=none):=by
 unfold Xm;split
 ·exact⟨rfl,fun M' hp ρ b c d=>by show DR w M' _ (ρ b);rw[c];exact d,fun h=>by cases h⟩
 ·split
  ·cases h with
   | lst _ _ _ a cap _ _ _ e =>
    have hc:=e rfl;simp only[List.length_nil] at hc;subst hc;exact⟨rfl,fun M' hp ρ b c _=>.inl ⟨rfl,a,c⟩,fun _=>WG _ _⟩
  ·exact⟨rfl,fun M' hp ρ b c d=>by show DR w M' _ (ρ b);rw[c];exact d,fun h=>by cases h⟩
theorem G6 {F:Nat->Prop}{a:Act}{w:World}:∀(pr:List Nat) (tm:List (Nat×AV)) (hp:List (Nat×Blk)) (j:Nat) (ρ:Nat->Value) (m : List (Nat×AV)) (g : List (Nat×Blk)) (o : Nat),X3 tm hp j pr=(m,g,o) ->
  HSim cx F hp ρ w->TSim F tm hp ρ a w->∃ρ',HSim cx F g ρ' w/\TSim F m g ρ' a w/\Steps1 hp ρ w g ρ' w
 | [],tm,hp,j,ρ,m,g,o,h,hs,ht=>by simp only[X3,jPj] at h;obtain⟨rfl,rfl,rfl⟩:=h;exact⟨ρ,hs,ht,Steps1.refl _ _ _⟩
 | [_],tm,hp,j,ρ,m,g,o,h,hs,ht=>by simp only[X3,jPj] at h;obtain⟨rfl,rfl,rfl⟩:=h;exact⟨ρ,hs,ht,Steps1.refl _ _ _⟩
 | t::z::l,tm,hp,j,ρ,m,g,o,h,hs,ht=>by
  simp only[X3] at h;split at h
  ·rename_i sz es hl hn;have E:=ht t _ hl;have s:∃p n c,a.tmps.getD t undef=.slice p n c:=by
    generalize a.tmps.getD t undef=v at E;cases E with
    | d _ _ E=>cases E;exact⟨_,_,_,rfl⟩
   obtain⟨p,n,c,hv⟩:=s;have G:DR w (MM F hp ρ) (.lst true sz es) (a.tmps.getD t undef):=by cases E;assumption
   obtain⟨U,O,L⟩:=Qdo (z:=z) G;generalize Xm z sz es=K at U O L h;have A:∀r,Mut ((j,K)::hp) (VI ρ j (a.tmps.getD t undef)) r->Mut hp ρ r:=by
    rintro r ⟨b,k,i,C,q⟩;by_cases f:b=j
    ·subst f;rw[Qf] at i;cases i;rw[Qx,L C] at q;cases q
    ·rw[Qc _ _ (Ne.symm f)] at i;rw[QL _ _ f] at q;exact⟨b,k,i,C,q⟩
   have x:Steps1 hp ρ w ((j,K)::hp) (VI ρ j (a.tmps.getD t undef)) w:=by
    refine⟨Ext.refl _ _,fun r _ C=>A r C,⟨fun b k i=>?_⟩⟩;have f:b≠j:=by intro e;subst e;rw[hn] at i;cases i
    exact⟨k,by rw[Qc _ _ (Ne.symm f)];exact i,jLj _,fun _=>QL _ _ f⟩
   have M:=hs.step x (fun b k i=>by
    by_cases f:b=j
    ·subst f;rw[Qf] at i;cases i;right;exact O _ _ _ _ (Qx _ _ _) (x.dr G)
    ·rw[Qc _ _ (Ne.symm f)] at i;exact .inl ⟨i,QL _ _ f,fun _ _ _=>rfl⟩)
    (fun b b' k Q r h1 h2 S T r1 r2=>by
     have H:∀b k,look ((j,K)::hp) b=some k->k.live=true->QX (VI ρ j (a.tmps.getD t undef) b)=some r->look hp b=some k/\QX (ρ b)=some r:=by
      intro b k i C q;by_cases f:b=j
      ·subst f;rw[Qf] at i;cases i;rw[Qx,L C] at q;cases q
      ·rw[Qc _ _ (Ne.symm f)] at i;rw[QL _ _ f] at q;exact⟨i,q⟩
     obtain⟨V,W⟩:=H b k h1 S r1;obtain⟨b1,X⟩:=H b' Q h2 T r2;exact hs.inj b b' k Q r V b1 S T W X) (fun r q=>hs.forb r (A r q))
   have N:TSim F ((t,.own j 0)::tm) ((j,K)::hp) (VI ρ j (a.tmps.getD t undef)) a w:=by
    intro u y J;by_cases P:t=u
    ·subst P;rw[Qf] at J;cases J;exact .own j 0 _ _ (Qf _ _ _) (Nat.zero_le _) (by rw[hv];rfl) fun _=>(Qx _ _ _).symm
    ·rw[Qc _ _ P] at J;exact x.vr (ht u y J)
   obtain⟨ρ',Y,Z,g3⟩:=G6 l _ _ _ _ m g o h M N;exact⟨ρ',Y,Z,x.trans g3⟩
  ·exact G6 l _ _ _ _ m g o h hs ht
theorem Gh {hp:List (Nat×Blk)}{vis:Nat}{n:List Nat}:∀(l:List Nat) (d:List (Nat×Blk)),uE hp vis n l=some d ->
  (∀b f,look d b=some f->b∈l/\∃k,look hp b=some k/\k.clean hp vis n b=some f)/\(∀b,b∈l->∃k f,look hp b=some k/\k.clean hp vis n b=some f/\look d b=some f)
 | [],d,h=>by simp only[uE,jIj] at h;subst h;exact⟨fun b f e=>by simp[look] at e,fun b e=>by simp at e⟩
 | c::l,d,h=>by
  simp only[uE] at h;split at h;case h_2=>cases h
  rename_i k r o s;split at h;case h_2=>cases h
  rename_i f g;simp only[jIj] at h;subst h;obtain⟨t,u⟩:=Gh l r s;refine⟨fun b q e=>?_,fun b e=>?_⟩
  ·by_cases a:c=b
   ·subst a;rw[Qf] at e;cases e;exact⟨jMj,k,o,g⟩
   ·rw[Qc _ _ a] at e;obtain⟨i,j⟩:=t b q e;exact⟨jmj _ i,j⟩
  ·by_cases a:c=b
   ·subst a;exact⟨k,f,o,g,Qf _ _ _⟩
   ·have m:b∈l:=by simpa[Ne.symm a] using e
    obtain⟨q,v,i,j,p⟩:=u b m;exact⟨q,v,i,j,by rw[Qc _ _ a];exact p⟩
theorem KN {hp:List (Nat×Blk)}{vis b:Nat}{e:List Nat}{k d : Blk}(h:k.clean hp vis e b=some d):d.live=k.live/\(b<vis->d.ver=k.ver)/\(¬b<vis->d.ver=0):=by
 have a:∀v:Nat,(b<vis->(match Nat.blt b vis with|true=>v|false=>0)=v)/\(¬b<vis->(match Nat.blt b vis with|true=>v|false=>0)=0):=by
  intro v;constructor
  ·intro c;have:Nat.blt b vis=true:=by simpa using c
   rw[this]
  ·intro c;have:Nat.blt b vis=false:=ky (by omega);rw[this]
 cases k with
 | box x =>
  simp only[Blk.clean] at h;split at h<;>simp only[jIj,reduceCtorEq] at h;subst h;exact⟨rfl,fun _=>rfl,fun _=>rfl⟩
 | row v sz es=>simp only[Blk.clean,jIj] at h;subst h;exact⟨rfl,(a v).1,(a v).2⟩
 | frozen v sz es=>simp only[Blk.clean,jIj] at h;subst h;exact⟨rfl,(a v).1,(a v).2⟩
 | virt v sz es=>simp only[Blk.clean,jIj] at h;subst h;exact⟨rfl,(a v).1,(a v).2⟩
 | loop _ _ _ _ _ _=>simp only[Blk.clean,jIj] at h;subst h;exact⟨rfl,fun _=>rfl,fun _=>rfl⟩
 | mp _=>simp only[Blk.clean,jIj] at h;subst h;exact⟨rfl,fun _=>rfl,fun _=>rfl⟩
 | it _ _=>simp only[Blk.clean,jIj] at h;subst h;exact⟨rfl,fun _=>rfl,fun _=>rfl⟩
 | fbox _=>simp only[Blk.clean,jIj] at h;subst h;exact⟨rfl,fun _=>rfl,fun _=>rfl⟩
 | left _=>simp only[Blk.clean,jIj] at h;subst h;exact⟨rfl,fun _=>rfl,fun _=>rfl⟩
 | dead=>simp only[Blk.clean,jIj] at h;subst h;exact⟨rfl,fun _=>rfl,fun _=>rfl⟩
mutual
theorem wX {w:World}{M M0:Nat->Prop}{hp hp0:List (Nat×Blk)}{ρ:Nat->Value}{vis:Nat}{kb:List Nat}(hk:uE hp vis kb kb=some hp0)(hM:∀r,r<w.heap.size->M0 r->M r) :
  ∀(x:AV) (y:Value),VR w M hp ρ x y->VR w M0 hp0 ρ (x.clean hp vis kb) y
 | .d x,y,h=>by
  cases h with
  | d _ _ h=>exact .d _ _ (h.ext (jLj _) (fun _ _ _=>rfl) hM)
 | .agg cs,y,h=>by
  cases h with
  | agg _ ys hl hh =>
   obtain⟨h1,h2⟩:=Xx hk hM cs ys hl hh;simp only[AV.clean];exact .agg _ ys h1 h2
 | .tup cs,y,h=>by
  cases h with
  | tup _ ys hl hh =>
   obtain⟨h1,h2⟩:=Xx hk hM cs ys hl hh;simp only[AV.clean];exact .tup _ ys h1 h2
 | .dptr x o,y,h=>by
  cases h with
  | dptr _ _ blk o' hd=>simp only[AV.clean];exact .dptr _ _ _ _ (hd.ext (jLj _) (fun _ _ _=>rfl) hM)
 | .ptr b ver sz i off,y,h=>by
  cases h with
  | ptr _ _ _ _ _ k _ hb hv ho hh =>
   simp only[AV.clean];split
   ·rename_i hc;simp only[jAj] at hc;have hmem:b∈kb:=by simpa using hc.1
    have hver:=GW hc.2 hb;obtain⟨q,q',h1,h2,h3⟩:=(Gh kb hp0 hk).2 b hmem;rw[hb] at h1;cases h1;obtain⟨_,v1,v2⟩:=KN h2;split
    ·rename_i hlt;have hlt' : b<vis:=by simpa using hlt
     exact .ptr b ver sz i off q' y h3 (by rw[v1 hlt'];exact hv) ho fun _=>hh hver
    ·rename_i hlt;have hlt' : ¬b<vis:=by intro hh;rw[show Nat.blt b vis=true from by simpa using hh] at hlt;cases hlt
     exact .ptr b 0 sz i off q' y h3 (Nat.zero_le _) ho fun _=>hh hver
   ·exact .junk y
 | .own b ver,y,h=>by
  cases h with
  | own _ _ k _ hb hv ho hh =>
   simp only[AV.clean];split
   ·rename_i hc;simp only[jAj] at hc;have hmem:b∈kb:=by simpa using hc.1
    have hver:=GW hc.2 hb;obtain⟨q,q',h1,h2,h3⟩:=(Gh kb hp0 hk).2 b hmem;rw[hb] at h1;cases h1;obtain⟨_,v1,v2⟩:=KN h2;split
    ·rename_i hlt;have hlt' : b<vis:=by simpa using hlt
     exact .own b ver q' y h3 (by rw[v1 hlt'];exact hv) ho fun _=>hh hver
    ·rename_i hlt;have hlt' : ¬b<vis:=by intro hh;rw[show Nat.blt b vis=true from by simpa using hh] at hlt;cases hlt
     exact .own b 0 q' y h3 (Nat.zero_le _) ho fun _=>hh hver
   ·exact .junk y
 | .sub b ver sz lo n,y,h=>by
  cases h with
  | sub _ _ _ _ _ k _ hb hv ho hh =>
   simp only[AV.clean];split
   ·rename_i hc;simp only[jAj] at hc;have hmem:b∈kb:=by simpa using hc.1
    have hver:=GW hc.2 hb;obtain⟨q,q',h1,h2,h3⟩:=(Gh kb hp0 hk).2 b hmem;rw[hb] at h1;cases h1;obtain⟨_,v1,v2⟩:=KN h2;split
    ·rename_i hlt;have hlt' : b<vis:=by simpa using hlt
     exact .sub b ver sz lo n q' y h3 (by rw[v1 hlt'];exact hv) ho fun _=>hh hver
    ·rename_i hlt;have hlt' : ¬b<vis:=by intro hh;rw[show Nat.blt b vis=true from by simpa using hh] at hlt;cases hlt
     exact .sub b 0 sz lo n q' y h3 (Nat.zero_le _) ho fun _=>hh hver
   ·exact .junk y
 | .fn f p q,y,h=>by
  cases h with
  | fn _ _ _ xs ys hl hm hh hq =>
   obtain⟨h1,h2⟩:=Xx hk hM p xs hl hh;obtain⟨h3,h4⟩:=Xx hk hM q ys hm hq;simp only[AV.clean];exact .fn f _ _ xs ys h1 h3 h2 h4
 | .junk,y,_=>.junk y
theorem Xx {w:World}{M M0:Nat->Prop}{hp hp0:List (Nat×Blk)}{ρ:Nat->Value}{vis:Nat}{kb:List Nat}(hk:uE hp vis kb kb=some hp0)(hM:∀r,r<w.heap.size->M0 r->M r) :
  ∀(cs:List AV) (ys:List Value),cs.length=ys.length->(∀(i:Nat) (c:AV) (y:Value),cs[i]?=some c->ys[i]?=some y->VR w M hp ρ c y) ->
   (Gl hp vis kb cs).length=ys.length/\∀(i:Nat) (c:AV) (y:Value),(Gl hp vis kb cs)[i]?=some c->ys[i]?=some y->VR w M0 hp0 ρ c y
 | [],ys,hl,_=>⟨by simpa[Gl] using hl,by simp[Gl]⟩
 | x::cs,ys,hl,hh=>by
  cases ys with
  | nil=>simp at hl
  | cons y ys =>
   obtain⟨h1,h2⟩:=Xx hk hM cs ys (by simpa using hl) (fun i c z hc hz=>hh (i+1) c z (by simpa using hc) (by simpa using hz));refine⟨by simp[Gl,h1],fun i c z hc hz=>?_⟩;simp only[Gl] at hc;cases i with
   | zero =>
    simp only[jzj,jIj] at hc hz;subst hc;subst hz;exact wX hk hM x y (hh 0 x y rfl rfl)
   | succ i=>exact h2 i c z (by simpa using hc) (by simpa using hz)
end
theorem wY {hp:List (Nat×Blk)}{vis:Nat}{b:List Nat}:∀(l:List (Nat×AV)) (t:Nat) (x:AV),look (wZ hp vis b l) t=some x->∃y,look l t=some y/\x=y.clean hp vis b
 | [],t,x,h=>by simp[wZ,look] at h
 | (c,y)::l,t,x,h=>by
  simp only[wZ] at h;by_cases a:c=t
  ·subst a;rw[Qf] at h ⊢;cases h;exact⟨y,rfl,rfl⟩
  ·rw[Qc _ _ a] at h ⊢;exact wY l t x h
theorem wa {hp:List (Nat×Blk)}{vis:Nat}{b:List Nat}{tm:List (Nat×AV)}:∀(l:List Nat) (t:Nat) (x:AV),look (Qbk hp vis b tm l) t=some x->∃y,look tm t=some y/\x=y.clean hp vis b
 | [],t,x,h=>by simp[Qbk,look] at h
 | c::l,t,x,h=>by
  simp only[Qbk] at h;split at h
  ·rename_i y d;by_cases a:c=t
   ·subst a;rw[Qf] at h;cases h;exact⟨y,d,rfl⟩
   ·rw[Qc _ _ a] at h;exact wa l t x h
  ·exact wa l t x h
theorem kW {F:Nat->Prop}{s s0:St}{pr kt kb:List Nat}{ρ:Nat->Value}{a:Act}{w:World}(h:Qbe s pr kt kb=some s0)(Y:Sim cx F s ρ a w) :
  ∃m,Sim cx F s0 m a w/\StepsV s.vis s.hp ρ w s0.hp m w/\s0.vis=s.vis/\s0.nt=s.nt:=by
 unfold Qbe at h;split at h;rename_i tm hp nx W;split at h;case h_2=>cases h
 rename_i A S G;simp only[jIj] at h;subst h;obtain⟨m,M,g2,g3⟩:=G6 pr s.tm s.hp s.nx ρ tm hp nx W Y.hs Y.ts;obtain⟨T,k2⟩:=Gh kb A S;have o:∀r,Mut A m r->Mut hp m r:=by rintro r ⟨b,Q,L,P,X⟩;obtain⟨_,k,E,f⟩:=T b Q L;exact⟨b,k,E,by rw[<-(KN f).1];exact P,X⟩
 have z:∀r,r<w.heap.size->MM F A m r->MM F hp m r:=fun r _ P=>P.imp id (o r);have Z:HSim cx F A m w:=by
  refine⟨fun b Q L=>?_,fun b b' q q' r E f m1 m2 r1 r2=>?_,fun r X=>M.forb r (o r X),M.bnd,fun g x hg=>(M.glob g x hg).ext (jLj _) (fun _ _ _=>rfl) z⟩
  ·obtain⟨_,k,E,f⟩:=T b Q L;have u:=M.blk b k E;cases k with
   | box x =>
    simp only[Blk.clean] at f;split at f<;>simp only[jIj,reduceCtorEq] at f;rename_i cs V;subst f;obtain⟨r,e,v,a4,n,C,H,K⟩:=u;exact⟨r,e,v,cs,n,C,V,wX S z x v K⟩
   | loop rdy tm ps as bd nt =>
    simp only[Blk.clean,jIj] at f;subst f;obtain⟨l,rc,n,H,K,q5,q6,q7,q8,q9,a3⟩:=u;refine⟨l,rc,n,H,K,q5,q6,q7,q8,q9,fun t x J=>?_⟩;obtain⟨y,hy,rfl⟩:=wY tm t x J;exact wX S z y _ (a3 t y hy)
   | dead =>
    simp only[Blk.clean,jIj] at f;subst f;trivial
   | mp es =>
    simp only[Blk.clean,jIj] at f;subst f;obtain⟨r,U,c,n,C,H⟩:=u;exact⟨r,U,c,n,C,H.ext (jLj _) (fun _ _ _=>rfl) z⟩
   | it s p =>
    simp only[Blk.clean,jIj] at f;subst f;obtain⟨r,n,C⟩:=u;exact⟨r,n,C⟩
   | left e =>
    simp only[Blk.clean,jIj] at f;subst f;obtain⟨l,rc,n,H,K⟩:=u;exact⟨l,rc,n,H,K⟩
   | fbox x =>
    simp only[Blk.clean,jIj] at f;subst f;obtain⟨r,n,C⟩:=u;exact⟨r,n,C.ext (jLj _) (fun _ _ _=>rfl) z⟩
   | row v sz es =>
    simp only[Blk.clean,jIj] at f;subst f;obtain⟨q0,a0,n⟩|⟨r,c,e,cap,n,C,H,K,q5,q6⟩:=u
    ·exact .inl ⟨q0,a0,n⟩
    refine .inr ⟨r,c,e,cap,n,C,H,K,q5,fun i d j x hd J=>?_⟩;obtain⟨y,y1,y2,y3⟩:=q6 i d j x hd J;exact⟨y,y1,y2,y3.ext (jLj _) (fun _ _ _=>rfl) z⟩
   | frozen v sz es =>
    simp only[Blk.clean,jIj] at f;subst f;exact DR.ext (jLj _) (fun _ _ _=>rfl) z u
   | virt v sz es =>
    simp only[Blk.clean,jIj] at f;subst f;exact DR.ext (jLj _) (fun _ _ _=>rfl) z u
  ·obtain⟨_,k,a1,a2⟩:=T b q E;obtain⟨_,Q,b1,b2⟩:=T b' q' f;exact M.inj b b' k Q r a1 b1 (by rw[<-(KN a2).1];exact m1) (by rw[<-(KN b2).1];exact m2) r1 r2
 refine⟨m,⟨Z,fun t x J=>?_,Y.nt⟩,?_,rfl,rfl⟩
 ·obtain⟨y,hy,rfl⟩:=wa kt t x J;exact wX S z y _ (g2 t y hy)
 ·refine StepsV.trans g3.toV ⟨Ext.refl _ _,fun r _ P=>o r P,fun b k O L=>?_⟩;simp only[List.all_eq_true] at G;obtain⟨x,J⟩:=Gd (l:=hp) (b:=b) (by rw[L];simp);have:=G _ J;have N:Nat.blt b s.vis=true:=by simpa using O
  simp only[N,Bool.not_true,Bool.false_or] at this;obtain⟨q,q',E,f,h3⟩:=k2 b (by simpa using this);rw[L] at E;cases E;exact⟨q',h3,by rw[(KN f).2.1 O];exact jLj _,fun _=>rfl⟩
theorem Ej:∀(tm:List (Nat×AV)) (seen t:Nat) (x:AV),look (QbB tm seen) t=some x->seen.testBit t=false/\look tm t=some x
 | [],seen,t,x,h=>by simp[QbB,look] at h
 | (k,y)::l,seen,t,x,h=>by
  simp only[QbB] at h;split at h
  ·rename_i b;obtain⟨a,c⟩:=Ej l seen t x h;refine⟨a,?_⟩;rw[Qc _ _ (fun e=>by subst e;rw[a] at b;cases b)];exact c
  ·rename_i b;by_cases d:k=t
   ·subst d;rw[Qf] at h ⊢;exact⟨b,h⟩
   ·rw[Qc _ _ d] at h ⊢;obtain⟨a,c⟩:=Ej l _ t x h;rw[Nat.testBit_or,Bool.or_eq_false_iff] at a;exact⟨a.1,c⟩
theorem Em {tm:List (Nat×AV)}:∀(n t:Nat) (x:AV),look (JB tm n) t=some x->look tm t=some x
 | 0,t,x,h=>by simp[JB,look] at h
 | n+1,t,x,h=>by
  simp only[JB] at h;split at h
  ·rename_i y b;by_cases a:n=t
   ·subst a;rw[Qf] at h;cases h;exact b
   ·rw[Qc _ _ a] at h;exact Em n t x h
  ·exact Em n t x h
end
end Go.SX
