/- The evaluator: regions, calls, code. -/
import Derived.Test.YtljabneifpkbjaaGreatDoorSxTen
namespace Go.SX
def E1:Blk→Bool
 | .loop _ _ _ _ _ _=>false
 | .left _=>false
 | _=>true
structure RC where
 val:AV
 up:List (Nat×Blk)
 full:Option (List (Nat×Blk))
 nx:Nat
 ob:List Prop
 orc:List Orc
 sfx:Bool
def RC.heap (rc:RC) (H:List (Nat×Blk)):List (Nat×Blk):=match rc.full with
 | some h=>h
 | none=>rc.up++H
def JH:AV→Option (FuncId×List AV×List AV)
 | .fn (.func f) a b=>some (f,a,b)
 | .d (.fn (.func f) a b)=>some (f,a.map .d,b.map .d)
 | _=>none
def U2 (o:Oper):Option (Operand×List Operand):=match o.op with
 | .call { callee:=.value f,args,argTypes:=_ }=>some (f,args.toList)
 | _=>none
def Qdw:AV→Bool
 | .d _=>true
 | .fn _ _ _=>true
 | x=>match x.toD with
  | some _=>true
  | none=>false
def VU (H:List (Nat×Blk)) (nx:Nat):Bool:=H.all fun p=>Nat.blt p.1 nx
def wO (H:List (Nat×Blk)) (nx:Nat) (x:AV) (s' : St):Option RC:=match VU H nx with
 | true=>some { val:=x,up:=[],full:=some s'.hp,nx:=s'.nx,ob:=s'.ob,orc:=s'.orc,sfx:=s'.sfx }
 | false=>none
def qQ:Blk→Bool
 | .row _ _ _=>true
 | .mp _=>true
 | .box _=>false
 | .frozen _ _ _=>false
 | .virt _ _ _=>false
 | .loop _ _ _ _ _ _=>false
 | .it _ _=>false
 | .fbox _=>false
 | .left _=>false
 | .dead=>false
def stamp:Blk→Blk
 | .row _ sz es=>.row 0 sz es
 | k=>k
def XP (H:List (Nat×Blk)) (nx:Nat) (x:AV) (s' : St):Option RC:=match x,s'.sfx && KE H (s'.hp.length - H.length) s'.hp && VU H nx with
 | .own b ver,true=>match look s'.hp b,WZ H b with
  | some k,false=>match qQ k && Nat.beq ver k.ver with
   | true=>some { val:=.own b ver,up:=[(b,k)],full:=none,nx,ob:=s'.ob,orc:=s'.orc,sfx:=true }
   | false=>none
  | _,_=>none
 | _,_=>none
def Qcy (cx:Cx) (sym:Bool) (H:List (Nat×Blk)) (f:FuncId) (args:List AV) (nx:Nat) (o:List Orc):Option RC:=match sym,cx.K f with
 | false,some g=>match Kb H args with
  | some (ds,fs)=>match g ds with
   | some r=>some { val:=.d r,up:=Qe H fs,full:=none,nx,ob:=[],orc:=o,sfx:=true }
   | none=>none
  | none=>none
 | _,_=>none
def Qce (H:List (Nat×Blk)) (m sz:Nat):AV→Option (OC×(Nat×Nat))
 | .own n v=>match look H n with
  | some (.row v' sz' es)=>match Nat.beq v v' && Nat.beq sz sz' with
   | true=>some (.row sz es,(n,v+1))
   | false=>none
  | _=>none
 | .d (.lst true _ [])=>match look H m with
  | none=>some (.row sz [],(m,0))
  | some _=>none
 | _=>none
def V6 (H:List (Nat×Blk)):Nat→List AV→List OC→Option (List OC×List (Option (Nat×Nat))×List Nat)
 | _,[],[]=>some ([],[],[])
 | m,x::xs,.dat _::ss=>match x.toDH H,V6 H (m+1) xs ss with
  | some (y,fs),some (cs,ns,gs)=>some (.dat y::cs,none::ns,fs++gs)
  | _,_=>none
 | m,x::xs,.row sz _::ss=>match Qce H m sz x,V6 H (m+1) xs ss with
  | some (c,p),some (cs,ns,gs)=>some (c::cs,some p::ns,gs)
  | _,_=>none
 | _,_,_=>none
def UM (n:Nat):List (Option (Nat×Nat))→Bool
 | []=>true
 | none::l=>UM n l
 | some (m,_)::l=>!(Nat.beq m n) && UM n l
def Xj (bn:Nat) (fz:List Nat):List (Option (Nat×Nat))→Bool
 | []=>!(fz.contains bn)
 | none::l=>Xj bn fz l
 | some (n,_)::l=>UM n l && !(Nat.beq n bn) && !(fz.contains n) && Xj bn fz l
def isB0:Option Nat→Nat→Bool
 | some b0,b'=>Nat.beq b0 b'
 | none,_=>false
mutual
def AV.argO (H:List (Nat×Blk)) (b:Option Nat):AV→Option (AV×List Nat)
 | .ptr b' ver sz i off=>match isB0 b b' && Nat.beq ver 0 && Nat.beq sz 0 && Nat.beq i 0 with
  | true=>some (.ptr 0 0 0 0 off,[])
  | false=>match (AV.ptr b' ver sz i off).toDH H with
   | some (y,fs)=>some (.d y,fs)
   | none=>none
 | .dptr x o=>some (.d (.ref x o),[])
 | .fn f a c=>match qv H b a,qv H b c with
  | some (x,fs),some (y,gs)=>some (AV.norm (.fn f x y),fs++gs)
  | _,_=>none
 | .agg cs=>match qv H b cs with
  | some (l,fs)=>some (AV.norm (.agg l),fs)
  | none=>none
 | .tup cs=>match qv H b cs with
  | some (l,fs)=>some (AV.norm (.tup l),fs)
  | none=>none
 | .d x=>some (.d x,[])
 | .own n v=>match (AV.own n v).toDH H with
  | some (y,fs)=>some (.d y,fs)
  | none=>none
 | _=>none
def qv (H:List (Nat×Blk)) (b:Option Nat):List AV→Option (List AV×List Nat)
 | []=>some ([],[])
 | x::l=>match x.argO H b,qv H b l with
  | some (y,fs),some (ys,gs)=>some (y::ys,fs++gs)
  | _,_=>none
end
mutual
def AV.resO (b:Nat):AV→Option AV
 | .d x=>some (.d x)
 | .agg cs=>match kj b cs with
  | some l=>some (.agg l)
  | none=>none
 | .tup cs=>match kj b cs with
  | some l=>some (.tup l)
  | none=>none
 | .ptr b' ver sz i off=>match Nat.beq b' 0 && Nat.beq ver 0 && Nat.beq sz 0 && Nat.beq i 0 with
  | true=>some (.ptr b 0 0 0 off)
  | false=>none
 | _=>none
def kj (b:Nat):List AV→Option (List AV)
 | []=>some []
 | x::l=>match x.resO b,kj b l with
  | some y,some ys=>some (y::ys)
  | _,_=>none
end
def ZC:List (Option (Nat×Nat))→List OC→List AV
 | none::ns,.dat x::cs=>.d x::ZC ns cs
 | some (n,v)::ns,.row _ _::cs=>.own n v::ZC ns cs
 | _,_=>[]
def WY:List (Option (Nat×Nat))→List OC→List (Nat×Blk)
 | some (n,v)::ns,.row sz es::cs=>(n,.row v sz es)::WY ns cs
 | _::ns,_::cs=>WY ns cs
 | _,_=>[]
def V8:Nat→List OC→List (Option (Nat×Nat))
 | _,[]=>[]
 | m,.dat _::l=>none::V8 (m+1) l
 | m,.row _ _::l=>some (m,0)::V8 (m+1) l
def Wi:List Bool→List (Option (Nat×Nat))→List (Option (Nat×Nat))
 | true::ks,some (n,v+1)::ns=>some (n,v)::Wi ks ns
 | _::ks,p::ns=>p::Wi ks ns
 | _,ns=>ns
def JZ (H:List (Nat×Blk)):Nat→List Bool→List (Option (Nat×Nat))→Bool
 | j,true::ks,some (n,v)::ns=>Nat.beq n j && Nat.beq v 1 && (look H j).isSome && JZ H (j+1) ks ns
 | j,true::ks,none::ns=>JZ H (j+1) ks ns
 | _,true::_,[]=>false
 | j,false::ks,_::ns=>JZ H (j+1) ks ns
 | _,false::_,[]=>false
 | _,[],_=>true
def KU:List Bool→List AV→List OC→Bool
 | true::ks,.own _ _::xs,.row _ _::cs=>KU ks xs cs
 | true::ks,.d _::xs,.dat _::cs=>KU ks xs cs
 | [],[],[]=>true
 | _,_,_=>false
def QaG:AV→Bool
 | .agg l=>match Kk l with
  | none=>true
  | some _=>false
 | .d (.agg _)=>true
 | _=>false
def ze (cx:Cx) (H:List (Nat×Blk)) (nx:Nat) (f:FuncId) (args:List AV) (bo:Option Nat) (r:AV) (cs' : List OC) (ks:List Bool) (o' : List Orc):Option RC :=
  match qv H bo args,VU H nx with
  | some (as,fs),true=>match bo with
    | some b=>match look H b with
      | some (.box x)=>match x.cells,K0 x with
        | some cells,true=>match V6 H nx cells cs' with
          | some (cs,ns,gs)=>match Xj b (fs++gs) ns,r.resO b with
            | true,some v=>match KU ks cells cs' && QaG x with
             | true=>some { val:=v,up:=Qe H (fs++gs),full:=none,nx,ob:=[ComputesO cx f as (some cs) r cs ks],orc:=o',sfx:=true }
             | false=>some { val:=v,up:=(b,.box (AV.norm (.agg (ZC (Wi ks ns) cs'))))::(WY (Wi ks ns) cs'++Qe H (fs++gs)),full:=none,nx:=nx+cs'.length,ob:=[ComputesO cx f as (some cs) r cs' ks],orc:=o',sfx:=true }
            | _,_=>none
          | none=>none
        | _,_=>none
      | _=>none
    | none=>match Xj nx fs (V8 (nx+1) cs'),r.resO nx with
      | true,some v=>some { val:=v,up:=(nx,.box (AV.norm (.agg (ZC (V8 (nx+1) cs') cs'))))::(WY (V8 (nx+1) cs') cs'++Qe H fs),full:=none,nx:=nx+1+cs'.length,ob:=[ComputesO cx f as none r cs' ks],orc:=o',sfx:=true }
      | _,_=>none
  | _,_=>none
def kX (ex:Code→St→Option (Ex×St)) (cx:Cx) (keepable:Bool) (H:List (Nat×Blk)) (nx:Nat) (sym:Bool) (orc:List Orc) (f:FuncId) (args:List AV):Option RC :=
 match cx.P.funcs[f]? with
 | none=>none
 | some fn=>match fn.body with
  | none=>match allV args with
   | some vs=>match QV cx.P (callFunc f vs.toArray) with
    | some (.value v)=>some { val:=.d (ofV v),up:=[],full:=none,nx,ob:=[],orc,sfx:=true }
    | _=>none
   | none=>none
  | some _=>match qG (sym || cx.O f) orc with
   | some (.ret r,o')=>match Kb H args with
    | some (ds,fs)=>some { val:=.d r,up:=Qe H fs,full:=none,nx,ob:=[Computes cx f ds r],orc:=o',sfx:=true }
    | none=>none
   | some (.obj bo r cs' ks,o')=>ze cx H nx f args bo r cs' ks o'
   | some (.br _,o')=>match keepable,U8 ex cx f args { nt:=0,sym,tm:=[],hp:=H,nx,orc:=o',ob:=[],vis:=nx,sfx:=true } with
    | true,some (x,s')=>wO H nx x s'
    | false,some (x,s')=>XP H nx x s'
    | _,_=>none
   -- a plain result: what was looked at stays as it is
   | some (.ix _,.ret (.v v)::o')=>match Kb H args with
    | some (ds,_)=>some { val:=.d (.v v),up:=[],full:=none,nx,ob:=[Computes cx f ds (.v v)],orc:=o',sfx:=true }
    | none=>none
   | some (.no,o')=>match Qcy cx sym H f args nx o' with
    | some rc=>some rc
    | none=>match VU H nx,U8 ex cx f args { nt:=0,sym,tm:=[],hp:=H,nx,orc:=o',ob:=[],vis:=nx,sfx:=true } with
     | true,some (x,s')=>match sym || Qdw x,yj H x s' with
      | true,some y=>some { val:=y,up:=[],full:=none,nx,ob:=s'.ob,orc:=s'.orc,sfx:=true }
      | true,none=>match keepable with
       | true=>wO H nx x s'
       | false=>none
      | false,r=>match keepable,r with
       | true,_=>wO H nx x s'
       | false,some y=>some { val:=y,up:=[],full:=none,nx,ob:=s'.ob,orc:=s'.orc,sfx:=true }
       | false,none=>match sym with
        | true=>none
        | false=>XP H nx x s'
     | _,_=>none
   | _=>none
def GL (ops:Array Oper) (i:Nat) (o:Oper) (s:St) (x:AV) (hp:List (Nat×Blk)) (nx:Nat) (orc:List Orc) (ob:List Prop) (sfx:Bool):Option St :=
 match E9 ops i with
 | true=>match litB s.sym orc x with
  | some (y,ob2,o2)=>({ s with hp,nx,orc:=o2,ob:=ob2++(ob++s.ob),sfx:=s.sfx && sfx }:St).put o.dst y
  | none=>none
 | false=>({ s with hp,nx,orc,ob:=ob++s.ob,sfx:=s.sfx && sfx }:St).put o.dst x
def jo:List Nat→List AV→List (Nat×AV)→List (Nat×AV)
 | t::ps,x::xs,tm=>jo ps xs ((t,x)::tm)
 | _,_,tm=>tm
def UT (b:Nat) (H:List (Nat×Blk)):Bool:=H.all fun p=>Nat.beq p.1 b || E1 p.2
def qA (ex:Code→St→Option (Ex×St)) (H:List (Nat×Blk)) (nx:Nat) (sym:Bool) (orc:List Orc) (b ver:Nat) (args:List AV):Option RC :=
 match look H b,Nat.beq ver 0 && VU H nx with
 | some (.loop true tm ps as bd nt),true =>
  match Nat.beq ps.length args.length && ps.all (fun t=>Nat.blt t nt) with
  | true=>match ex as { nt,sym,tm:=jo ps args tm,hp:=H,nx,orc,ob:=[],vis:=nx,sfx:=true,rnd:=true } with
   | some (.normal,s1)=>match look s1.hp b,UT b s1.hp with
    | some (.loop true tm1 ps1 as1 bd1 nt1),true=>match ex bd { s1 with hp:=(b,.loop false tm1 ps1 as1 bd1 nt1)::s1.hp } with
     | some (.normal,s2)=>match look s2.hp b,UT b s2.hp with
      | some (.loop false tm2 ps2 as2 bd2 nt2),true=>some { val:=.d (.v (.bool true)),up:=[],full:=some ((b,.loop true tm2 ps2 as2 bd2 nt2)::s2.hp),nx:=s2.nx,ob:=s2.ob,orc:=s2.orc,sfx:=!sym && s2.sfx }
      | _,_=>none
     -- the body is left: the loop is Uz,and the jump is pending
     | some (e,s2)=>match look s2.hp b,UT b s2.hp with
      | some (.loop false _ _ _ _ _),true=>some { val:=.d (.v (.bool false)),up:=[],full:=some ((b,.left e)::s2.hp),nx:=s2.nx,ob:=s2.ob,orc:=s2.orc,sfx:=!sym && s2.sfx }
      | _,_=>none
     | none=>none
    | _,_=>none
   | _=>none
  | false=>none
 | _,_=>none
abbrev Yz:=List (Nat×Blk)→Nat→Bool→List Orc→Nat→Nat→List AV→Option RC
abbrev Kj:=Bool→List (Nat×Blk)→Nat→Bool→List Orc→FuncId→List AV→Option RC
def wb:AV→Option (Nat×Nat)
 | .own b ver=>some (b,ver)
 | _=>none
def XJ (cx:Cx) (call:Kj) (yc:Yz) (ops:Array Oper) (base:Nat) (i:Nat) (s:St):Option St :=
  match nth ops.toList i with
  | none=>none
  | some o=>match Ju ops s.tm o with
    | none=>none
    | some false=>s.put o.dst (.d (.v undef))
    | some true=>match U2 o with
      | some (fv,args)=>match wb (evA cx s.tm fv) with
       | some (b,ver)=>match yc s.hp s.nx s.sym s.orc b ver (args.map (evA cx s.tm)) with
        | none=>none
        | some rc=>GL ops i o s rc.val (rc.heap s.hp) rc.nx rc.orc rc.ob rc.sfx
       | none=>match JH (evA cx s.tm fv) with
        | none=>none
        | some (f,a,b)=>match call true s.hp s.nx s.sym s.orc f (a++args.map (evA cx s.tm)++b) with
          | none=>none
          | some rc=>GL ops i o s rc.val (rc.heap s.hp) rc.nx rc.orc rc.ob rc.sfx
      | none=>match aop cx s.sym s.orc s.hp (base+i) (evA cx s.tm) o with
        | none=>none
        | some r=>GL ops i o s r.val (r.up++s.hp) s.nx r.orc r.ob true
def Y3 (cx:Cx) (call:Kj) (yc:Yz) (ops:Array Oper) (base:Nat):List Nat→St→Option St
 | [],s=>some s
 | i::l,s=>match XJ cx call yc ops base i s with
  | some s'=>Y3 cx call yc ops base l s'
  | none=>none
structure Rec where
 i:Nat
 dst:Option Tmp
 val:AV
 up:List (Nat×Blk)
 fp:Option (List Nat):=none
 piv:Bool:=false
 nx:Nat:=0
 adr:Bool:=false
def VX:List Rec→List (Nat×AV)
 | []=>[]
 | r::l=>match r.dst with
  | some t=>(t,r.val)::VX l
  | none=>VX l
def Wx:List Rec→List (Nat×Blk)
 | []=>[]
 | r::l=>r.up++Wx l
def Kc (mask:Nat):List Rec→List Rec
 | []=>[]
 | r::l=>match mask.testBit r.i with
  | true=>r::Kc mask l
  | false=>Kc mask l
def wd (o:Oper):Bool:=match o.op with
 | .move _=>false
 | .assign _=>false
 | .pick _ _ _=>false
 | .alloc _=>false
 | .box _ _=>false
 | .build _ _=>false
 | .binOp _ _ _ _ _=>false
 | .unOp _ _ _=>false
 | .makeFunc _ _ _=>false
 | .field _ _ _=>false
 | .index _ _ _=>false
 | .extract _ _=>false
 | .call { callee:=.builtin .max,args:=_,argTypes:=_ }=>false
 | .call { callee:=.builtin .min,args:=_,argTypes:=_ }=>false
 | _=>true
def kG:AV→Option (List Nat)
 | .ptr b _ _ _ _=>some [b]
 | .own b _=>some [b]
 | .sub b _ _ _ _=>some [b]
 | .dptr _ _=>some []
 | .d _=>some []
 | _=>none
def wV (ev:Operand→AV) (o:Oper):Option (List Nat):=match o.op with
 | .load _ a=>kG (ev a)
 | .convert _ _ x=>kG (ev x)
 | .fieldAddr _ x _=>kG (ev x)
 | .indexAddr _ x _=>kG (ev x)
 | .nilCheck x=>kG (ev x)
 | .call { callee:=.builtin b,args,argTypes:=_ }=>match b,args.toList with
  | .len,[x]=>kG (ev x)
  | _,_=>none
 | _=>none
def Xi (_masks:List Nat) (s:St) (recs:List Rec) (o:Oper) (mask:Nat) (fp:Option (List Nat)):List (Nat×Blk):=match wd o with
 | true=>match fp with
  | none=>Wx (Kc mask recs)++s.hp
  | some fs=>(Wx (Kc mask recs)++s.hp).filter fun p=>fs.contains p.1
 | false=>[]
def Qbm (cx:Cx) (s:St) (recs:List Rec) (o:Oper):Option Nat:=match o.op with
 | .call { callee:=.builtin .len,args,argTypes }=>match args.toList,argTypes.toList with
  | [.tmp t],ty::_=>match cx.P.underlying ty,look s.tm t,recs.all fun r=>match r.dst with | some d=>!(Nat.beq d t) | none=>true with
   | some (.slice _),some (.own b ver),true=>match Ug s.hp (.own b ver) with
    | some es=>some es.length
    | none=>none
   | _,_,_=>none
  | _,_=>none
 | _=>none
def ZS (masks:List Nat) (i j:Nat):Bool:=match nth masks j with
 | some m=>m.testBit i
 | none=>false
def kM (r:Rec) (t:Nat):Bool:=match r.dst with
 | some d=>Nat.beq d t
 | none=>false
def yC (t:Nat):List Rec→Option Rec
 | []=>none
 | r::l=>match kM r t with
  | true=>some r
  | false=>yC t l
def Qcu (cx:Cx) (ops:Array Oper) (masks:List Nat) (s:St) (recs:List Rec) (i:Nat) (o:Oper):Option Nat:=match o.op with
 | .call { callee:=.builtin .len,args,argTypes }=>match args.toList,argTypes.toList with
  | [.tmp t],ty::_=>match cx.P.underlying ty,yC t recs with
   | some (.slice _),some r=>match nth ops.toList r.i with
    | some p=>match p.op,p.guard with
     | .move (.tmp t0),none=>match look s.tm t0,ZS masks r.i i && (recs.all fun q=>!(kM q t) || Nat.beq q.i r.i) && (recs.all fun q=>!(Nat.blt q.i r.i) || !(kM q t0)) with
      | some (.own b ver),true=>match Ug s.hp (.own b ver) with
       | some es=>some es.length
       | none=>none
      | _,_=>none
     | _,_=>none
    | none=>none
   | _,_=>none
  | _,_=>none
 | _=>none
def Xs (s:St) (recs:List Rec) (mask:Nat):List (Nat×Blk):=match (Kc mask recs).any fun r=>r.up.any fun p=>WZ s.hp p.1 with
 | true=>[]
 | false=>s.hp
def boxB:Blk→Bool
 | .box _=>true
 | .row _ _ _=>false
 | .frozen _ _ _=>false
 | .virt _ _ _=>false
 | .loop _ _ _ _ _ _=>false
 | .mp _=>false
 | .it _ _=>false
 | .fbox _=>false
 | .left _=>false
 | .dead=>false
def ptrB:AV→Option Nat
 | .ptr b _ _ _ _=>some b
 | .d _=>none
 | .agg _=>none
 | .tup _=>none
 | .dptr _ _=>none
 | .own _ _=>none
 | .sub _ _ _ _ _=>none
 | .fn _ _ _=>none
 | .junk=>none
def Xx (ev:Operand→AV) (o:Oper):Option Nat:=match o.op with
 | .fieldAddr _ x _=>ptrB (ev x)
 | .indexAddr _ x _=>ptrB (ev x)
 | _=>none
def adrB (hp:List (Nat×Blk)):Option Nat→Bool
 | some b=>match look hp b with
  | some k=>boxB k
  | none=>false
 | none=>false
def wS (H:List (Nat×Blk)) (nm:Nat) (i:Nat) (dst:Option Tmp) (p:Nat×Blk) (rc:RC):Option (Rec×List Prop×List Orc):=match rc.val with
 | .own b ver'=>match qQ p.2 && Nat.beq p.1 b && Nat.beq p.2.ver ver' && !(WZ H b) with
  | true=>some ({ i,dst,val:=.own nm 0,up:=[(nm,stamp p.2)] },rc.ob,rc.orc)
  | false=>none
 | _=>none
def Qct:Nat→List Rec→Nat
 | n,[]=>n
 | n,r::l=>Qct (match Nat.ble n r.nx with | true=>r.nx | false=>n) l
def effO:List Orc→Option (List Orc)
 | .ix k::r=>match decide (k=-9) with
  | true=>some r
  | false=>none
 | _=>none
def effC (cx:Cx) (sym:Bool) (orc:List Orc) (fv:AV):Option (List Orc):=match effO orc with
 | some o=>some o
 | none=>match sym,JH fv with
  | false,some (f,_,_)=>match cx.E f with
   | true=>some orc
   | false=>none
  | _,_=>none
def QcJ (H:List (Nat×Blk)) (rc:RC):Option (List (Nat×Blk)):=match rc.full,rc.sfx with
 | some h,true=>some (h.take (h.length - H.length))
 | some h,false=>some h
 | none,_=>some rc.up
def Xc (cx:Cx) (call:Kj) (yc:Yz) (ops:Array Oper) (masks:List Nat) (base:Nat) (s:St) (i:Nat) (recs:List Rec) (orc:List Orc):Option (Rec×List Prop×List Orc) :=
  match nth ops.toList i,nth masks i with
  | some o,some mask =>
    let tm:=VX recs++s.tm
    match Ju ops tm o with
    | none=>none
    | some false=>some ({ i,dst:=o.dst,val:=.d (.v undef),up:=[],fp:=some [] },[],orc)
    | some true =>
      match U2 o with
      | some (fv,args)=>match wb (evA cx tm fv) with
       | some (b,ver)=>match yc (Wx (Kc mask recs)++s.hp) (base+ops.toList.length) s.sym orc b ver (args.map (evA cx tm)) with
        | none=>none
        | some rc=>match rc.full,E9 ops i with
          | some h,true=>match litB s.sym rc.orc rc.val with
            | some (y,ob2,o2)=>some ({ i,dst:=o.dst,val:=y,up:=h,piv:=true,nx:=rc.nx },ob2++rc.ob,o2)
            | none=>none
          | some h,false=>some ({ i,dst:=o.dst,val:=rc.val,up:=h,piv:=true,nx:=rc.nx },rc.ob,rc.orc)
          | none,_=>none
       | none=>match effC cx s.sym orc (evA cx tm fv) with
        | some orc1=>match JH (evA cx tm fv),E9 ops i with
          | some (f,a,b),false=>match call true (Wx (Kc mask recs)++s.hp) (Qct (base+ops.toList.length) (Kc mask recs)) s.sym orc1 f (a++args.map (evA cx tm)++b) with
            | some rc=>match QcJ (Wx (Kc mask recs)++s.hp) rc with
              | some u=>some ({ i,dst:=o.dst,val:=rc.val,up:=u,piv:=true,nx:=rc.nx },rc.ob,rc.orc)
              | none=>none
            | none=>none
          | _,_=>none
        | none=>match JH (evA cx tm fv) with
        | none=>none
        | some (f,a,b)=>match uR (Xs s recs mask) (a++args.map (evA cx tm)++b),call false (Xs s recs mask) (base+ops.toList.length) s.sym orc f (a++args.map (evA cx tm)++b) with
          | true,some rc=>match rc.full,rc.up,E9 ops i with
            | none,[],true=>match litB s.sym rc.orc rc.val with
              | some (y,ob2,o2)=>some ({ i,dst:=o.dst,val:=y,up:=[] },ob2++rc.ob,o2)
              | none=>none
            | none,[],false=>some ({ i,dst:=o.dst,val:=rc.val,up:=[] },rc.ob,rc.orc)
            | none,[p],false=>wS (Xs s recs mask) (base+i) i o.dst p rc
            | _,_,_=>none
          | _,_=>none
      | none=>match Qbm cx s recs o with
       | some k=>some ({ i,dst:=o.dst,val:=.d (.v (.int .i64 k)),up:=[],fp:=some [] },[],orc)
       | none=>match Qcu cx ops masks s recs i o with
        | some k=>some ({ i,dst:=o.dst,val:=.d (.v (.int .i64 k)),up:=[],fp:=some [] },[],orc)
        | none=>match aop cx s.sym orc (Xi masks s recs o mask (wV (evA cx tm) o)) (base+i) (evA cx tm) o with
         | none=>none
         | some r=>match E9 ops i with
           | true=>match litB s.sym r.orc r.val with
             | some (y,ob2,o2)=>some ({ i,dst:=o.dst,val:=y,up:=r.up,fp:=wV (evA cx tm) o,adr:=adrB (Xi masks s recs o mask (wV (evA cx tm) o)) (Xx (evA cx tm) o) },ob2++r.ob,o2)
             | none=>none
           | false=>some ({ i,dst:=o.dst,val:=r.val,up:=r.up,fp:=wV (evA cx tm) o,adr:=adrB (Xi masks s recs o mask (wV (evA cx tm) o)) (Xx (evA cx tm) o) },r.ob,r.orc)
  | _,_=>none
def Kq (cx:Cx) (call:Kj) (yc:Yz) (ops:Array Oper) (masks:List Nat) (base:Nat) (s:St):List Nat→List Rec→List Prop→List Orc→Option (List Rec×List Prop×List Orc)
 | [],recs,ob,orc=>some (recs,ob,orc)
 | i::l,recs,ob,orc=>match Xc cx call yc ops masks base s i recs orc with
  | some (r,ob1,o1)=>Kq cx call yc ops masks base s l (r::recs) (ob1++ob) o1
  | none=>none
def Ky (base:Nat) (r:Rec):Bool:=r.up.any fun p=>!(Nat.beq p.1 (base+r.i))
def Yj (ops:Array Oper) (i:Nat):Bool:=match nth ops.toList i with
 | some o=>wd o
 | none=>true
def E2 (r q:Rec):Bool:=match q.fp,q.up with
 | some fs,[]=>r.up.any fun p=>fs.contains p.1 && !(q.adr && boxB p.2)
 | _,_=>true
def JL (ops:Array Oper) (masks:List Nat) (base:Nat) (r q:Rec):Bool :=
 ZS masks r.i q.i || ZS masks q.i r.i || Nat.beq r.i q.i || (!(Ky base r && Yj ops q.i && E2 r q) && !(Ky base q && Yj ops r.i && E2 q r))
def KK (o:Oper) (ops:Array Oper):List Tmp :=
  (o.op.operands.toList.filterMap fun | .tmp t=>some t | _=>none) ++
  (match o.guard with
   | some (g,_)=>match nth ops.toList g with
     | some x=>x.dst.toList
     | none=>[]
   | none=>[])
def KB (ops:Array Oper) (masks:List Nat) (i j:Nat):Bool :=
 ZS masks i j || ZS masks j i || Nat.beq i j ||
 match nth ops.toList i,nth ops.toList j with
 | some x,some y=>match x.dst with
  | some d=>!((KK y ops).contains d) && (match y.dst with | some e=>!(Nat.beq d e) | none=>true)
  | none=>true
 | _,_=>false
def QaD (masks:List Nat) (o:Oper) (j:Nat):Nat:=o.after.toList.foldl (fun s e=>match Region.binds .any e && Nat.blt e.on j with
 | true=>s ||| (2 ^ e.on ||| (match nth masks e.on with | some m=>m | none=>0))
 | false=>s) 0
def W1 (masks:List Nat) (j:Nat):Nat:=match nth masks j with
 | some m=>m
 | none=>0
def Qbj (ops:Array Oper) (masks:List Nat):Bool:=(List.range ops.toList.length).all fun j=>match nth ops.toList j with
 | some o=>Nat.beq (W1 masks j) (QaD masks o j) && (o.after.toList.all fun e=>!(Region.binds .any e) || Nat.blt e.on j) &&
  ((List.range j).all fun i=>!((W1 masks j).testBit i) || Nat.beq (W1 masks i &&& W1 masks j) (W1 masks i))
 | none=>false
def yN (ops:Array Oper) (masks:List Nat) (base:Nat) (s:St) (recs:List Rec):Bool :=
 Nat.beq masks.length ops.toList.length && Qbj ops masks &&
 ((List.range ops.toList.length).all fun i=>(List.range ops.toList.length).all fun j=>KB ops masks i j) &&
 (recs.all fun r=>!(Ky base r) || recs.all fun q=>JL ops masks base r q) &&
 (recs.all fun r=>r.up.all fun p=>match Nat.beq p.1 (base+r.i) with
  | true=>!(WZ s.hp p.1)
  | false=>(WZ s.hp p.1 || (List.range r.i).any fun i=>Nat.beq p.1 (base+i) && ZS masks i r.i) || (r.piv && Nat.ble (base+ops.toList.length) p.1)) &&
 (VU s.hp base || (List.range ops.toList.length).all fun i=>!(WZ s.hp (base+i))) &&
 (recs.all fun r=>!(Ky base r) || Yj ops r.i) &&
 (recs.all fun r=>match r.dst with | some d=>Nat.blt d s.nt | none=>true) &&
 (recs.all fun r=>!r.piv || recs.all fun q=>Nat.beq q.i r.i || ZS masks q.i r.i || ZS masks r.i q.i || q.up.isEmpty)
def kO:List (Nat×AV)→Nat→List (Nat×AV)
 | [],_=>[]
 | p::l,seen=>match seen.testBit p.1 with
  | true=>kO l seen
  | false=>p::kO l (seen ||| 2 ^ p.1)
def Kr (tm:List (Nat×AV)):Nat→List (Nat×AV)
 | 0=>[]
 | n+1=>match look tm n with
  | some x=>(n,x)::Kr tm n
  | none=>Kr tm n
mutual
def AV.clean (hp:List (Nat×Blk)) (vis:Nat) (kb:List Nat):AV→AV
 | .d x=>.d x
 | .agg cs=>.agg (K6 hp vis kb cs)
 | .tup cs=>.tup (K6 hp vis kb cs)
 | .dptr x o=>.dptr x o
 | .ptr b ver sz i off=>match kb.contains b && GQ hp b ver with
  | true=>match Nat.blt b vis with
   | true=>.ptr b ver sz i off
   | false=>.ptr b 0 sz i off
  | false=>.junk
 | .own b ver=>match kb.contains b && GQ hp b ver with
  | true=>match Nat.blt b vis with
   | true=>.own b ver
   | false=>.own b 0
  | false=>.junk
 | .sub b ver sz lo n=>match kb.contains b && GQ hp b ver with
  | true=>match Nat.blt b vis with
   | true=>.sub b ver sz lo n
   | false=>.sub b 0 sz lo n
  | false=>.junk
 | .fn f a b=>.fn f (K6 hp vis kb a) (K6 hp vis kb b)
 | .junk=>.junk
def K6 (hp:List (Nat×Blk)) (vis:Nat) (kb:List Nat):List AV→List AV
 | []=>[]
 | x::l=>x.clean hp vis kb::K6 hp vis kb l
end
def qk (hp:List (Nat×Blk)) (vis:Nat) (kb:List Nat):List (Nat×AV)→List (Nat×AV)
 | []=>[]
 | (t,x)::l=>(t,x.clean hp vis kb)::qk hp vis kb l
def Blk.clean (hp:List (Nat×Blk)) (vis:Nat) (kb:List Nat) (b:Nat):Blk→Option Blk
 | .box x=>match (x.clean hp vis kb).cells with
  | some _=>some (.box (x.clean hp vis kb))
  | none=>none
 | .row v sz es=>some (.row (match Nat.blt b vis with | true=>v | false=>0) sz es)
 | .frozen v sz es=>some (.frozen (match Nat.blt b vis with | true=>v | false=>0) sz es)
 | .virt v sz es=>some (.virt (match Nat.blt b vis with | true=>v | false=>0) sz es)
 | .loop rdy tm ps as bd nt=>some (.loop rdy (qk hp vis kb tm) ps as bd nt)
 | .mp es=>some (.mp es)
 | .it s p=>some (.it s p)
 | .fbox x=>some (.fbox x)
 | .left e=>some (.left e)
 | .dead=>some .dead
def kD (hp:List (Nat×Blk)) (vis:Nat) (kb:List Nat) (tm:List (Nat×AV)):List Nat→List (Nat×AV)
 | []=>[]
 | t::l=>match look tm t with
  | some x=>(t,x.clean hp vis kb)::kD hp vis kb tm l
  | none=>kD hp vis kb tm l
def wQ (hp:List (Nat×Blk)) (vis:Nat) (kb:List Nat):List Nat→Option (List (Nat×Blk))
 | []=>some []
 | b::l=>match look hp b,wQ hp vis kb l with
  | some k,some r=>match k.clean hp vis kb b with
   | some k'=>some ((b,k')::r)
   | none=>none
  | _,_=>none
def Gb (z sz:Nat) (es:jVj):Blk:=match z with
 | 0=>.virt 0 sz es
 | z+1=>match es with
  | []=>.row 0 (z+1) []
  | e::l=>.virt 0 sz (e::l)
def GB (tm:List (Nat×AV)) (hp:List (Nat×Blk)) (nx:Nat):List Nat→List (Nat×AV)×List (Nat×Blk)×Nat
 | t::z::l=>match look tm t,look hp nx with
  | some (.d (.lst true sz es)),none=>GB ((t,.own nx 0)::tm) ((nx,Gb z sz es)::hp) (nx+1) l
  | _,_=>GB tm hp nx l
 | _=>(tm,hp,nx)
def kz (s:St) (pr kt kb:List Nat):Option St :=
 match GB s.tm s.hp s.nx pr with
 | (tm,hp,nx)=>match wQ hp s.vis kb kb,hp.all fun q=>!(Nat.blt q.1 s.vis) || kb.contains q.1 with
  | some hp0,true=>some { s with tm:=kD hp s.vis kb tm kt,hp:=hp0,nx,ob:=[],orc:=[] }
  | _,_=>none
end Go.SX
