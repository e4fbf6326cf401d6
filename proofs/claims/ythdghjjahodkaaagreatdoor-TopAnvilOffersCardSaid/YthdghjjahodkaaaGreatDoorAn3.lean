/- Own texts. -/
import Derived.Test.YthdghjjahodkaaaGreatDoorProg
import Derived.Test.YthdghjjahodkaaaGreatDoorSxTwentyEight
import Derived.KernelRfl
import Derived.Below
import Derived.Lib.LaidTab
import Derived.Lib.ItoaNum
import GoSem.ClaimChange
import Derived.ProofKit
import Derived.OpenShut
import Derived.WideShapes
import Derived.ChangeStays
import Derived.ChangeSame
import Derived.Deep.DeepHandedRow
import Derived.WalkKit
import Derived.WalkSpells
import Derived.WalkLawsBesides
import Derived.Laws.Externs
import Derived.Shelf.Strings.OnBuilder
import Derived.Shelf.Strconv.Itoa3
import Derived.Shelf.LaysM
import Derived.Shelf.Small.Strs
import Derived.Shelf.Strings.Search1
import Derived.Shelf.Strings.Search3
import Derived.Shelf.Strings.Count
import Derived.Shelf.Strings.SlTrimAscii
set_option linter.unusedSimpArgs false
set_option linter.unusedVariables false
set_option linter.unnecessarySimpa false
namespace Go.Proofs.YthdghjjahodkaaaGreatDoor
open Go.SX Go.RowKit
def pow10D:D:=.agg (Lib.pow10Tab.map fun z=>.v (.int .u64 z))
instance drawF:DrawMode:=⟨false⟩
noncomputable def cx:Cx:={ P:=Tryz.prog,G:=fun g=>match Nat.beq g 1 with
 | true=>some pow10D
 | false=>none }
theorem Qj5:(Tryz.prog.funcs.toList.all fun a=>!(a.body.isSome&&(a.name=="runtime.NumGoroutine")))=true:=by kernel_rfl
theorem QfG:NoAsk cx:=QhL _ _ Qj5
theorem kX:cx.P.follows .mixedOrders=true:=by kernel_rfl
theorem run {n:Nat}{f:FuncId}{a:jVj}{orc:List Orc}{r:D}{ob:List Prop}(h:Qfu true n cx f a orc=some (r,ob))(b:All ob):Computes cx f a r:=Qcv QfG kX h b
theorem QiP {n:Nat}{f:FuncId}{a:List AV}{i:Option (List OC)}{b:Nat}{ks:List Bool}{orc:List Orc}{r:AV}{cs:List OC}{ob:List Prop}(c:All ob)(h:Qhw n cx f a i b cs ks orc=some (r,cs,ob)):ComputesO cx f a i r cs ks:=QaM QfG kX h c
theorem runM {n:Nat}{f:FuncId}{xs:List AV}{es es' : jVj}{orc:List Orc}{r:D}{ob:List Prop}(h:Qer n cx f xs es orc=some (r,es',ob))(a:All ob):jo cx f xs es r es':=QgD QfG kX h a
theorem QE {S E:Type}{c:Code}{d vis:Nat}{rnd:Bool}{T:S->List (Nat×AV)}{H:S->List (Nat×Blk)}{X:E->Ex}{b:E->List (Nat×AV)}{a:E->List (Nat×Blk)}
  {step:S->Option (S⊕E)} (f:∀s r,step s=some r->Rd cx c d vis rnd T H X b a s r) {n:Nat} {s:S} {e:E} (h:QU step n s=some e):QaA cx c d vis rnd (T s) (H s) (X e) (b e) (a e):=QdK QfG kX f n s e h
theorem dr_v {w:World}{F:Nat->Prop}{x y:Value}(h:DR w F (.v x) y):y=x:=by cases h;rfl
theorem Qbv {w w' : World}(h:Below w.heap.size w w'):Ext w (fun _=>False) w':=⟨(fun h=>by cases h),h.os,h.tape,h.output,h.size,fun r a _=>h.block r a⟩
theorem str9:cx.P.underlying 9=some .string:=by kernel_rfl
theorem Qc1 {s:jSj}{i x:Int}(h:UY s i=some x):Zu cx.P (Instr.index 9 (.string s) (.int .i64 i))=some (.int .u8 x):=QgK str9 h
theorem Qa1 {s x:jSj}{b a:Option Int}(h:XY s b a=some x):Zu cx.P (Instr.sliceAt 9 (.string s) (b.map (.int .i64)) (a.map (.int .i64)) none)=some (.string x):=Qgn str9 h
theorem bo {a b:Type}{x:Option a}{f:a->Option b}{r:b}(h:x.bind f=some r):∃t,x=some t/\f t=some r:=Wh h
theorem gd {a:Type}{p:Prop}[Decidable p]{x:Option a}{r:a}(h:(if p then x else none)=some r):p/\x=some r:=Qcn h
theorem it {a:Type}{p:Prop}[Decidable p]{x y:Option a}{r:a}(h:(if p then x else y)=some r)(hp:p):x=some r:=U7 h hp
theorem jf {a:Type}{p:Prop}[Decidable p]{x y:Option a}{r:a}(h:(if p then x else y)=some r)(hp:¬p):y=some r:=U8 h hp
theorem oi {c:Type}{a b:c}(h:some a=some b):a=b:=Option.some.inj h
abbrev Qe (s:jSj):D:=.v (.string s)
theorem leF {f:FuncId}{k:Nat}{l:jVj}{r:D}(h:Computes cx f [.lst false k l] r):Computes cx f [.lst true k l] r:=h.le (.cons (.full _ _ _) (.nil)) (.refl _)
inductive Kd
 | int (k:IntKind)
 | bool
 | str
 | flt (k:FloatKind)
 | lst (agg:Bool) (ks:List Kd)
mutual
def Kd.ok:Kd->D->Prop
 | .int k,d=>∃n,d=.v (.int k n)/\k.min<=n/\n<=k.max
 | .bool,d=>∃b,d=.v (.bool b)
 | .str,d=>∃s,d=.v (.string s)/\s.size<=maxLen
 | .flt k,d=>∃b,d=.v (.float k b)/\(Lit.float k b).wf=true
 | .lst agg ks,d=>∃es,d=.lst false ks.length es/\es.length<=maxLen/\∀e,e∈es->match agg with
  | true=>∃cs,e=.agg cs/\Kd.oks ks cs
  | false=>Kd.oks ks [e]
def Kd.oks:List Kd->jVj->Prop
 | [],ds=>ds=[]
 | k::ks,ds=>∃d r,ds=d::r/\Kd.ok k d/\Kd.oks ks r
end
def E9 (P:Program)(f:TypeId->Option (List Kd)):Nat->List Field->Option (List Kd)
 | _,[]=>some []
 | off,fd::l=>match f fd.type with
  | some ks=>match Nat.beq fd.offset off&&Nat.beq ks.length (P.cellsOf fd.type),E9 P f (off+ks.length) l with
   | true,some r=>some (ks++r)
   | _,_=>none
  | none=>none
def U6 (P:Program):Nat->TypeId->Option (List Kd)
 | 0,_=>none
 | n+1,t=>match P.underlying t with
  | some (.int k)=>some [.int k]
  | some .bool=>some [.bool]
  | some .string=>some [.str]
  | some (.float k)=>some [.flt k]
  | some (.slice e)=>match U6 P n e,P.underlying e with
   | some ks,some (.struct _)=>match Nat.beq ks.length (P.cellsOf e)&&Nat.blt 0 ks.length with
    | true=>some [.lst true ks]
    | false=>none
   | some ks,some (.array _ _)=>match Nat.beq ks.length (P.cellsOf e)&&Nat.blt 0 ks.length with
    | true=>some [.lst true ks]
    | false=>none
   | some ks,some _=>match Nat.beq ks.length (P.cellsOf e)&&Nat.beq 1 ks.length with
    | true=>some [.lst false ks]
    | false=>none
   | _,_=>none
  | some (.struct fs)=>match E9 P (U6 P n) 0 fs.toList with
   | some ks=>match Nat.beq ks.length (P.cellsOf t) with
    | true=>some ks
    | false=>none
   | none=>none
  | some (.array m e)=>match U6 P n e with
   | some ks=>match Nat.beq ks.length (P.cellsOf e)&&Nat.beq (m*ks.length) (P.cellsOf t) with
    | true=>some (List.replicate m ks).flatten
    | false=>none
   | none=>none
  | _=>none
def Reads (W:World):jVj->List Value->Prop
 | [],[]=>True
 | d::ds,v::vs=>(DR W (fun _=>False) d v/\one v=true)/\Reads W ds vs
 | _,_=>False
theorem Reads.append {W:World}:∀{a:jVj} {x:List Value} {b:jVj} {y:List Value},Reads W a x->Reads W b y->Reads W (a++b) (x++y)
 | [],[],_,_,_,h=>h
 | _::_,_::_,_,_,h,k=>⟨h.1,Reads.append h.2 k⟩
 | [],_::_,_,_,h,_=>h.elim
 | _::_,[],_,_,h,_=>h.elim
theorem Reads.len {W:World}:∀{a:jVj} {x:List Value},Reads W a x->a.length=x.length
 | [],[],_=>rfl
 | _::_,_::_,h=>by simp[Reads.len h.2]
 | [],_::_,h=>h.elim
 | _::_,[],h=>h.elim
theorem Reads.at {W:World}:∀{a:jVj} {x:List Value},Reads W a x->∀(i:Nat) (d:D) (v:Value),a[i]?=some d->x[i]?=some v->DR W (fun _=>False) d v/\one v=true
 | [],[],_,i,d,v,h,_=>by simp at h
 | _::_,_::_,hh,0,d,v,h,k=>by simp at h k;subst h;subst k;exact hh.1
 | _::_,_::_,hh,i+1,d,v,h,k=>Reads.at hh.2 i d v (by simpa using h) (by simpa using k)
 | [],_::_,h,_,_,_,_,_=>h.elim
 | _::_,[],h,_,_,_,_,_=>h.elim
theorem zU:∀{a b:List Kd} {x y:jVj},Kd.oks a x->Kd.oks b y->Kd.oks (a++b) (x++y)
 | [],_,x,y,h,k=>by unfold Kd.oks at h;subst h;exact k
 | q::a,b,x,y,h,k=>by unfold Kd.oks at h;obtain⟨d,r,rfl,c,e⟩:=h;show Kd.oks (q::(a++b)) (d::(r++y));unfold Kd.oks;exact⟨d,r++y,rfl,c,zU e k⟩
theorem GO:∀{a:List Kd} {x:jVj},Kd.oks a x->x.length=a.length
 | [],x,h=>by unfold Kd.oks at h;subst h;rfl
 | q::a,x,h=>by unfold Kd.oks at h;obtain⟨d,r,rfl,c,b⟩:=h;simp[GO b]
theorem Qi1 {k:Kd}{d:D}(h:Kd.ok k d):Kd.oks [k] [d]:=by unfold Kd.oks;exact⟨d,[],rfl,h,by unfold Kd.oks;rfl⟩
section
variable {H:Type}{enc:TypeId×Value->H}{P:Program}{W:World}{base:Nat}{sp:Nat->Bool}{held:Bool}
theorem jB {W:World}{k:Kd}{d:D}{v:Value}(a:Kd.ok k d)(b:DR W (fun _=>False) d v)(c:one v=true):∃ds,Kd.oks [k] ds/\Reads W ds [v]:=⟨[d],Qi1 a,⟨b,c⟩,trivial⟩
theorem yf {f:TypeId->Option (List Kd)}{g:TypeId->List Value->Prop}(i:∀t cs ks,f t=some ks->g t cs->∃ds,Kd.oks ks ds/\Reads W ds cs){cs:List Value} :
  ∀(e:List Field) (off:Nat) (ks:List Kd),E9 P f off e=some ks->(∀fd,fd∈e->g fd.type ((cs.drop fd.offset).take (P.cellsOf fd.type)))->cs.length=off+ks.length->∃ds,Kd.oks ks ds/\Reads W ds (cs.drop off)
 | [],off,ks,h,_,hl=>by simp only[E9,jIj] at h;subst h;refine⟨[],by unfold Kd.oks;rfl,?_⟩;rw[List.drop_eq_nil_of_le (by simp at hl;omega)];trivial
 | fd::l,off,ks,h,hg,hl=>by
  unfold E9 at h;split at h;case h_2=>cases h
  rename_i k1 d;split at h;case h_2=>cases h
  rename_i r c n;simp only[jIj] at h;subst h;simp only[jAj,Nat.beq_eq] at c;obtain⟨a,j,b1⟩:=i _ _ _ d (hg fd jMj);rw[jaj] at hl;obtain⟨b,k,m⟩:=yf i l (off+k1.length) r n (fun x o=>hg x (jmj _ o)) (by omega);refine⟨a++b,zU j k,?_⟩;have:=b1.append m;rw[c.1,<-c.2,<-List.drop_drop,List.take_append_drop] at this;exact this
theorem Qad {ks:List Kd}{cs:List Value}{m:Nat}(d:∀i,i<m->∃ds,Kd.oks ks ds/\Reads W ds ((cs.drop (i*ks.length)).take ks.length))(f:cs.length=m*ks.length) :
  ∀j,j<=m->∃ds,Kd.oks (List.replicate j ks).flatten ds/\Reads W ds (cs.drop ((m - j)*ks.length))
 | 0,_=>by refine⟨[],by unfold Kd.oks;rfl,?_⟩;rw[List.drop_eq_nil_of_le (by simp[f])];trivial
 | j+1,hj=>by
  obtain⟨b,h,c⟩:=Qad d f j (by omega);obtain⟨a,g,b1⟩:=d (m - (j+1)) (by omega);refine⟨a++b,by rw[List.replicate_succ,List.flatten_cons];exact zU g h,?_⟩;have e:(m - j)*ks.length=(m - (j+1))*ks.length+ks.length:=by rw[show m - j=m - (j+1)+1 by omega,Nat.add_mul,Nat.one_mul]
  rw[e] at c;have:=b1.append c;rw[<-List.drop_drop,List.take_append_drop] at this;exact this
theorem jK {e g:Type}{f:e->Option g}:∀{l:List e} {r:List g},l.mapM f=some r->∀a,a∈l->∃b,f a=some b
 | [],_,_,a,c=>by cases c
 | x::l,r,h,a,c=>by
  simp only[List.mapM_cons,Option.bind_eq_bind,Option.bind_eq_some_iff,Option.pure_def,jIj] at h;obtain⟨b,i,j,d,rfl⟩:=h;obtain rfl|c:=List.mem_cons.1 c
  ·exact⟨b,i⟩
  ·exact jK d a c
theorem QbS {a:Nat}{t:TypeId}{d:Array Field}{cs:List Value}{x:DataW H×List MemPlace}(g:P.underlying t=some (.struct d))(h:DataW.trod enc P W base sp held a t cs=some x) :
  ∃n,a=n+1/\cs.length=P.cellsOf t/\∀b,b∈d.toList->∃y,DataW.trod enc P W base sp held n b.type ((cs.drop b.offset).take (P.cellsOf b.type))=some y:=by
 cases a with
 | zero=>simp[DataW.trod] at h
 | succ n =>
  refine⟨n,rfl,?_⟩;simp only[DataW.trod,g] at h;split at h;case isFalse=>cases h
  rename_i e;simp only[Option.map_eq_some_iff] at h;obtain⟨r,f,_⟩:=h;exact⟨e,fun b c=>jK f b c⟩
theorem QcY {a:Nat}{t e:TypeId}{m:Nat}{cs:List Value}{x:DataW H×List MemPlace}(f:P.underlying t=some (.array m e))(h:DataW.trod enc P W base sp held a t cs=some x) :
  ∃n,a=n+1/\cs.length=P.cellsOf t/\∀i,i<m->∃y,DataW.trod enc P W base sp held n e ((cs.drop (i*P.cellsOf e)).take (P.cellsOf e))=some y:=by
 cases a with
 | zero=>simp[DataW.trod] at h
 | succ n =>
  refine⟨n,rfl,?_⟩;simp only[DataW.trod,f] at h;split at h;case isFalse=>cases h
  rename_i c;simp only[Option.map_eq_some_iff] at h;obtain⟨r,d,_⟩:=h;exact⟨c,fun i b=>jK d i (by simpa using b)⟩
theorem QcX {a:Nat}{t:TypeId}{k:FloatKind}{cs:List Value}{x:DataW H×List MemPlace}(c:P.underlying t=some (.float k))(h:DataW.trod enc P W base sp held a t cs=some x) :
  ∃b,cs=[.float k b]/\(Lit.float k b).wf=true:=by
 cases a with
 | zero=>simp[DataW.trod] at h
 | succ n =>
  unfold DataW.trod at h;rw[c] at h;split at h<;>simp_all
theorem zL {agg:Bool}{ks:List Kd}{G:Nat}{t e:TypeId}{cs:List Value}{x:DataW H×List MemPlace}(ht:P.underlying t=some (.slice e))(h:DataW.trod enc P W base sp held G t cs=some x)
  (hk:ks.length=P.cellsOf e) (L:0<ks.length) (h1:agg=false->ks.length=1)
  (ih:∀(n:Nat) (c:List Value) (y:DataW H×List MemPlace),DataW.trod enc P W base sp held n e c=some y->∃ds,Kd.oks ks ds/\Reads W ds c) :
  ∃ds,Kd.oks [.lst agg ks] ds/\Reads W ds cs:=by
 obtain⟨rfl,_⟩|⟨a,len,cap,V,a6,n,_,rfl,_,hb,hl,hm,a5,a2,_,_⟩:=DataW.trod_slice ht h
 ·refine jB (d:=.lst false ks.length []) ?_ ?_ rfl
  ·unfold Kd.ok;exact⟨[],rfl,Nat.zero_le _,fun e g=>by cases g⟩
  ·exact .lst false ks.length [] none 0 0 0 (fun _=>.nilIface) (fun h=>by cases h) (jLj _) (fun h=>absurd rfl h) (by simp) (by simp) (by simp)
 ·have each:∀i,i<len->∃ds c,Kd.oks ks ds/\Reads W ds c/\c.length=ks.length/\∀j,j<ks.length->W.cell? ((a.add (i*ks.length)).add j)=c[j]?:=by
   intro i m;have X:=a2 i m;rw[jej (by omega),<-hk] at X;rw[Option.bind_eq_some_iff] at X;obtain⟨c,hc,hy⟩:=X;obtain⟨ds,T,U⟩:=ih _ _ _ hy;refine⟨ds,c,T,U,by rw[<-U.len,GO T],fun j p=>?_⟩;unfold World.cells? at hc;split at hc;case isFalse=>cases hc
   have a7:c.length=ks.length:=by rw[<-U.len,GO T]
   obtain⟨b,a0,a1⟩:=Lib.mapM_at hc j j (by simp[p]);rw[a0,a1]
  let ds (i:Nat):jVj:=if m:i<len then Classical.choose (each i m) else[];let N (d:jVj):D:=if agg then .agg d else d.headD (.v .nilIface);have r:∀i,i<len->∃c,Kd.oks ks (ds i)/\Reads W (ds i) c/\c.length=ks.length/\∀j,j<ks.length->W.cell? ((a.add (i*ks.length)).add j)=c[j]?:=by intro i m;have:=Classical.choose_spec (each i m);simp only[ds,dif_pos m];exact this
  have C:∀(k:Kd) (d:D),Kd.ok k d->d.cells=[d]:=by
   intro k d F;cases k<;>simp only[Kd.ok] at F
   ·obtain⟨n,rfl,_⟩:=F;rfl
   ·obtain⟨n,rfl⟩:=F;rfl
   ·obtain⟨n,rfl,_⟩:=F;rfl
   ·obtain⟨n,rfl,_⟩:=F;rfl
   ·obtain⟨n,rfl,_⟩:=F;rfl
  have E:∀i,i<len->(N (ds i)).cells=ds i:=by
   intro i m;obtain⟨c,l,_⟩:=r i m;simp only[N];split
   ·rfl
   ·rename_i Z;have Q:=h1 (by simpa using Z);have J:=GO l;rw[Q] at J;match hdi:ds i,J with
    | [d],_ =>
     rw[hdi] at l;match hks:ks,Q with
     | [k],_ =>
      unfold Kd.oks at l;obtain⟨d',r',e1,e2,e3⟩:=l;cases e1;exact C k d e2
  have Y:0<len->a=⟨a.block,a.off,none⟩/\a.block<W.heap.size:=by
   intro O;obtain⟨c,l,c2,c3,S⟩:=r 0 O;have z:=S 0 L;rw[jej (by omega)] at z;have e0:(a.add (0*ks.length)).add 0=a:=by simp[Addr.add]
   rw[e0] at z;unfold World.cell? at z;split at z
   ·rename_i q1 q2 q3 A;split at z
    ·cases z
    ·rename_i hs;refine⟨?_,?_⟩
     ·revert hs;obtain⟨b,o,s⟩:=a;cases s with
      | none=>intro _;rfl
      | some s=>intro hs;exact absurd rfl hs
     ·obtain h|h:=Nat.lt_or_ge a.block W.heap.size
      ·exact h
      ·have:W.heap[a.block]?=some _:=A;rw[Array.getElem?_eq_none h] at this;cases this
   ·cases z
  have q:∀(i j:Nat) (c:D),i<len->(ds i)[j]?=some c->∃v,W.cell? ⟨a.block,a.off+(i*ks.length+j),none⟩=some v/\DR W (fun _=>False) c v/\one v=true:=by
   intro i j c m p;obtain⟨c',l,c2,c3,S⟩:=r i m;have K:j<(ds i).length:=(jGj p).1;rw[GO l] at K;have h6:=S j K;have hv:c'[j]?=some (c'[j]'(by omega)):=jej (by omega);rw[hv] at h6;refine⟨_,?_,c2.at j _ _ p hv⟩;have e:(a.add (i*ks.length)).add j=⟨a.block,a.off+(i*ks.length+j),none⟩:=by rw[(Y (by omega)).1,Go.SX.add_at,Go.SX.add_at,Nat.add_assoc]
   rw[<-h6,e]
  refine jB (d:=.lst false ks.length ((List.range len).map fun i=>N (ds i))) ?_ ?_ rfl
  ·unfold Kd.ok;refine⟨_,rfl,by simp;omega,fun e g=>?_⟩;simp only[List.mem_map,List.mem_range] at g;obtain⟨i,m,rfl⟩:=g;obtain⟨c,l,_⟩:=r i m;cases agg with
   | true=>exact⟨ds i,rfl,l⟩
   | false =>
    have Q:=h1 rfl;have J:=GO l;rw[Q] at J;simp only[N];match hdi:ds i,J with
    | [d],_=>rw[hdi] at l;exact l
  ·have a4:=DR.lst (w:=W) (M:=fun _=>False) false ks.length ((List.range len).map fun i=>N (ds i)) (some a) cap a.block a.off (fun k=>(W.cell? ⟨a.block,a.off+k,none⟩).getD .nilIface)
    (fun h=>by cases h) (by simp;omega)
    (fun a3=>by
     have O:0<len:=by
      obtain h|h:=Nat.eq_zero_or_pos len
      ·subst h;simp at a3
      ·exact h
     exact⟨by rw[<-(Y O).1],fun h=>h,(Y O).2⟩)
    (fun i e g=>by rw[List.getElem?_map] at g;simp only[Option.map_eq_some_iff] at g;obtain⟨k,u,rfl⟩:=g;obtain⟨f,rfl⟩:=jGj u;simp only[List.length_range] at f;simp only[List.getElem_range];obtain⟨c,l,_⟩:=r i f;rw[E i f,GO l])
    (fun i e j c g p=>by rw[List.getElem?_map] at g;simp only[Option.map_eq_some_iff] at g;obtain⟨k,u,rfl⟩:=g;obtain⟨f,rfl⟩:=jGj u;simp only[List.length_range] at f;simp only[List.getElem_range] at p;rw[E i f] at p;obtain⟨v,v1,v2,v3⟩:=q i j c f p;simp only[v1,Option.getD_some];exact⟨trivial,v3⟩)
    (fun i e j c g p=>by rw[List.getElem?_map] at g;simp only[Option.map_eq_some_iff] at g;obtain⟨k,u,rfl⟩:=g;obtain⟨f,rfl⟩:=jGj u;simp only[List.length_range] at f;simp only[List.getElem_range] at p;rw[E i f] at p;obtain⟨v,v1,v2,v3⟩:=q i j c f p;simp only[v1,Option.getD_some];exact v2)
   simpa using a4
theorem JJ:∀(d:Nat) (p:Nat) (t:TypeId) (cs:List Value) (x:DataW H×List MemPlace) (ks:List Kd),U6 P d t=some ks->DataW.trod enc P W base sp held p t cs=some x->∃ds,Kd.oks ks ds/\Reads W ds cs
 | 0,_,_,_,_,_,h,_=>by cases h
 | d+1,p,t,cs,x,ks,h,hx=>by
  unfold U6 at h;split at h
  ·rename_i k l;cases h;obtain⟨n,rfl,_,q⟩:=DataW.trod_int l hx;simp only[Lit.wf,jAj,decide_eq_true_eq] at q;exact jB (by unfold Kd.ok;exact⟨n,rfl,q⟩) (.v _) rfl
  ·rename_i l;cases h;obtain⟨b,rfl,_⟩:=DataW.trod_bool l hx;exact jB (by unfold Kd.ok;exact⟨b,rfl⟩) (.v _) rfl
  ·rename_i l;cases h;obtain⟨s,rfl,_,F⟩:=DataW.trod_string l hx;exact jB (by unfold Kd.ok;exact⟨s,rfl,F⟩) (.v _) rfl
  ·rename_i k l;cases h;obtain⟨b,rfl,q⟩:=QcX l hx;exact jB (by unfold Kd.ok;exact⟨b,rfl,q⟩) (.v _) rfl
  ·rename_i e l;split at h
   ·rename_i k1 _ a _;split at h;case h_2=>cases h
    rename_i j;cases h;simp only[jAj,Nat.beq_eq,Nat.blt_eq] at j;exact zL l hx j.1 j.2 (fun h=>by cases h) fun n c y o=>JJ d n e c y _ a o
   ·rename_i k1 _ _ a _;split at h;case h_2=>cases h
    rename_i j;cases h;simp only[jAj,Nat.beq_eq,Nat.blt_eq] at j;exact zL l hx j.1 j.2 (fun h=>by cases h) fun n c y o=>JJ d n e c y _ a o
   ·rename_i k1 _ _ _ a _;split at h;case h_2=>cases h
    rename_i j;cases h;simp only[jAj,Nat.beq_eq] at j;exact zL l hx j.1 (by omega) (fun _=>j.2.symm) fun n c y o=>JJ d n e c y _ a o
   ·cases h
  ·rename_i u l;split at h;case h_2=>cases h
   rename_i k1 a;split at h;case h_2=>cases h
   rename_i j;cases h;simp only[Nat.beq_eq] at j;obtain⟨n,rfl,E,r⟩:=QbS l hx;have:=yf (P:=P) (W:=W) (f:=U6 P d) (g:=fun t cs=>∃y,DataW.trod enc P W base sp held n t cs=some y) (fun t cs ks z A=>by obtain⟨y,o⟩:=A;exact JJ d n t cs y ks z o) u.toList 0 _ a r (by omega)
   rwa [List.drop_zero] at this
  ·rename_i m e l;split at h;case h_2=>cases h
   rename_i k1 a;split at h;case h_2=>cases h
   rename_i j;cases h;simp only[jAj,Nat.beq_eq] at j;obtain⟨n,rfl,E,r⟩:=QcY l hx;have:=Qad (W:=W) (ks:=k1) (cs:=cs) (m:=m) (fun i C=>by obtain⟨y,o⟩:=r i C;rw[<-j.1] at o;exact JJ d n e _ y _ a o) (by omega) m (jLj _)
   rwa [Nat.sub_self,Nat.zero_mul,List.drop_zero] at this
  ·cases h
end
set_option maxRecDepth 20000
open Go.WideShapes Go.ChangeShapes
def Qga (P:Program)(t:TypeId):Prop:=∃d ks,U6 P d t=some ks
theorem wK {P:Program}{f:TypeId->Option (List Kd)}:∀(d:List Field) (off:Nat) (ks:List Kd),E9 P f off d=some ks ->
  (∀fd,fd∈d->∃k,f fd.type=some k)/\ks.length=(d.map fun fd=>P.cellsOf fd.type).sum/\∀(j:Nat) fd,d[j]?=some fd->fd.offset=off+((d.take j).map fun fd=>P.cellsOf fd.type).sum
 | [],off,ks,h=>by simp only[E9,jIj] at h;subst h;exact⟨fun _ h=>(by cases h),rfl,fun j fd h=>(by simp at h)⟩
 | fd::l,off,ks,h=>by
  unfold E9 at h;split at h;case h_2=>cases h
  rename_i k1 i;split at h;case h_2=>cases h
  rename_i r e n;simp only[jIj] at h;subst h;simp only[jAj,Nat.beq_eq] at e;obtain⟨a,b,c⟩:=wK l _ r n;refine⟨fun x m=>?_,?_,fun j x g=>?_⟩
  ·obtain rfl|m:=List.mem_cons.1 m
   ·exact⟨_,i⟩
   ·exact a x m
  ·simp[b,e.2]
  ·cases j with
   | zero=>simp at g;subst g;simp[e.1]
   | succ j =>
    have:=c j x (by simpa using g);simp only[List.take_succ_cons,jCj,List.sum_cons];rw[this,e.2];omega
theorem Qeu (P:Program):Kids P (Qga P) where
 pointer:=fun {t e} h ht=>by
  obtain⟨d,ks,h⟩:=h;cases d with
  | zero=>cases h
  | succ d=>unfold U6 at h;rw[ht] at h;cases h
 slice:=fun {t e} h ht=>by
  obtain⟨d,ks,h⟩:=h;cases d with
  | zero=>cases h
  | succ d =>
   unfold U6 at h;rw[ht] at h;simp only at h;cases hk:U6 P d e with
   | none=>rw[hk] at h;simp at h
   | some k=>exact⟨d,k,hk⟩
 array:=fun {t e n} h ht=>by
  obtain⟨d,ks,h⟩:=h;cases d with
  | zero=>cases h
  | succ d =>
   unfold U6 at h;rw[ht] at h;simp only at h;split at h;case h_2=>cases h
   rename_i k1 hk1;split at h;case h_2=>cases h
   rename_i hb;simp only[jAj,Nat.beq_eq] at hb;exact⟨⟨d,_,hk1⟩,by rw[<-hb.2,hb.1]⟩
 struct:=fun {t fs} h ht=>by
  obtain⟨d,ks,h⟩:=h;cases d with
  | zero=>cases h
  | succ d =>
   unfold U6 at h;rw[ht] at h;simp only at h;split at h;case h_2=>cases h
   rename_i k1 hk1;split at h;case h_2=>cases h
   rename_i hb;simp only[Nat.beq_eq] at hb;obtain⟨a,b,c⟩:=wK _ _ _ hk1;exact⟨fun f hf=>by obtain⟨k,hk⟩:=a f hf;exact⟨d,k,hk⟩,by rw[<-hb,b],fun j f hj=>by rw[c j f hj,Nat.zero_add]⟩
 map:=fun {t k e} h ht=>by
  obtain⟨d,ks,h⟩:=h;cases d with
  | zero=>cases h
  | succ d=>unfold U6 at h;rw[ht] at h;cases h
theorem Qgv {P:Program}{t e:TypeId}(h:Qga P t)(b:P.underlying t=some (.slice e)):0<P.cellsOf e:=by
 obtain⟨d,ks,h⟩:=h;cases d with
 | zero=>cases h
 | succ d =>
  unfold U6 at h;rw[b] at h;simp only at h;split at h
  ·split at h;case h_2=>cases h
   rename_i a;simp only[jAj,Nat.beq_eq,Nat.blt_eq] at a;omega
  ·split at h;case h_2=>cases h
   rename_i a;simp only[jAj,Nat.beq_eq,Nat.blt_eq] at a;omega
  ·split at h;case h_2=>cases h
   rename_i a;simp only[jAj,Nat.beq_eq] at a;omega
  ·cases h
def qb (P:Program)(t:TypeId):Bool:=match P.underlying t with
 | some (.struct _)=>true
 | some (.array _ _)=>true
 | _=>false
def okA:Bool×List Kd->D->Prop
 | (true,ks),d=>∃cs,d=.agg cs/\Kd.oks ks cs
 | (false,ks),d=>Kd.oks ks [d]
def okAs:List (Bool×List Kd)->jVj->Prop
 | [],ds=>ds=[]
 | k::r,ds=>∃d l,ds=d::l/\okA k d/\okAs r l
def UD (P:Program):List TypeId->Option (List (Bool×List Kd))
 | []=>some []
 | t::ts=>match U6 P 12 t,UD P ts with
  | some ks,some r=>match qb P t || Nat.beq ks.length 1 with
   | true=>some ((qb P t,ks)::r)
   | false=>none
  | _,_=>none
section
variable {H:Type}{enc:TypeId×Value->H}{P:Program}{W:World}{base:Nat}{sp:Nat->Bool}{held:Bool}
theorem Qgo {r:Reach}{b0:Nat}{t:TypeId}{v:Value}{ks:List Kd}(g:U6 P 12 t=some ks)(b:Value.okWide P W r b0 t v)(f:qb P t=false):v.cells=#[v]:=by
 unfold U6 at g;unfold qb at f;split at g
 ·rename_i k d;obtain⟨n,rfl⟩:=okWide_int d b;rfl
 ·rename_i d;obtain⟨n,rfl⟩:=okWide_bool d b;rfl
 ·rename_i d;obtain⟨n,rfl⟩:=okWide_string d b;rfl
 ·rename_i k d;rw[Value.okWide,d] at b;cases v<;>simp_all [Cell.okWide,Cell.ok,Value.cells]
 ·rename_i e d;obtain⟨a,l,c,rfl⟩:=okWide_slice d b;rfl
 ·rename_i d;rw[d] at f;cases f
 ·rename_i d;rw[d] at f;cases f
 ·cases g
theorem Qez {r:Reach}{b0:Nat}{t:TypeId}{v:Value}{d:DataW H}{p:List MemPlace}{ks:List Kd}(k:U6 P 12 t=some ks)(e:Value.okWide P W r b0 t v)(m:DataW.Trod enc P W base sp held t v d p)(g:(qb P t || Nat.beq ks.length 1)=true) :
  ∃x,okA (qb P t,ks) x/\DR W (fun _=>False) x v:=by
 obtain⟨f,n⟩:=m;obtain⟨ds,a,b⟩:=JJ 12 f t _ _ ks k n;cases hag:qb P t with
 | true =>
  have q:∃cs,v=.agg cs:=by
   unfold qb at hag;unfold Value.okWide at e;split at hag
   ·rename_i j;rw[j] at e;obtain⟨cs,h,_⟩:=e;exact⟨cs,h⟩
   ·rename_i j;rw[j] at e;obtain⟨cs,h,_⟩:=e;exact⟨cs,h⟩
   ·cases hag
  obtain⟨cs,rfl⟩:=q;have hc:(Value.agg cs).cells.toList=cs.toList:=rfl;rw[hc] at b;have:=DR.agg (w:=W) (M:=fun _=>False) ds cs.toList b.len (fun i c y hc s=>(b.at i c y hc s).1);exact⟨.agg ds,⟨ds,rfl,a⟩,by simpa using this⟩
 | false =>
  have o:=Qgo k e hag;rw[o] at b;rw[hag] at g;simp only[Bool.false_or,Nat.beq_eq] at g;have l:=GO a;rw[g] at l;match ds,l with
  | [x],_=>exact⟨x,a,(b.at 0 x v rfl rfl).1⟩
theorem QbI {r:Reach}{b0:Nat}:∀{ts:List TypeId} {vs:List Value} {ds:List (DataW H)} {p:List MemPlace} {f:List (Bool×List Kd)},DataW.TrodAll enc P W base sp held ts vs ds p->UD P ts=some f ->
  (∀(j:Nat) t v,ts[j]?=some t->vs[j]?=some v->Value.okWide P W r b0 t v)->∃e:jVj,okAs f e/\e.length=vs.length/\∀(i:Nat) (c:D) (y:Value),e[i]?=some c->vs[i]?=some y->DR W (fun _=>False) c y
 | [],vs,ds,p,f,h,hk,_=>by obtain⟨rfl,rfl,rfl⟩:=trodAll_nil h;cases hk;exact⟨[],rfl,rfl,fun i c y h=>by simp at h⟩
 | t::ts,vs,ds,p,f,h,hk,hv=>by
  obtain⟨v,u,d,m,a,b,rfl,rfl,rfl,n,o⟩:=trodAll_cons h;unfold UD at hk;split at hk;case h_2=>cases hk
  rename_i ks r g s;split at hk;case h_2=>cases hk
  rename_i q;cases hk;obtain⟨x,z,A⟩:=Qez g (hv 0 t v rfl rfl) n q;obtain⟨e,C,E,F⟩:=QbI o s (fun j t v h k=>hv (j+1) t v (by simpa using h) (by simpa using k));refine⟨x::e,⟨x,e,rfl,z,C⟩,by simp[E],fun i c y hc l=>?_⟩;cases i with
  | zero=>simp at hc l;subst hc;subst l;exact A
  | succ i=>exact F i c y (by simpa using hc) (by simpa using l)
theorem Qaq:∀{ts:List TypeId} {c:List (Bool×List Kd)},UD P ts=some c->∀t,t∈ts->Qga P t
 | [],_,_,t,h=>by cases h
 | t::ts,c,hk,u,b=>by
  unfold UD at hk;split at hk;case h_2=>cases hk
  rename_i ks r a d;obtain rfl|b:=List.mem_cons.1 b
  ·exact⟨_,_,a⟩
  ·exact Qaq d u b
theorem QbH {i : World}{f : Nat->Bool}:∀{ts:List TypeId} {vs:List Value} {ds:List (DataW H)} {p:List MemPlace},DataW.TrodAll enc P W base (fun _=>true) true ts vs ds p->(∀t,t∈ts->Qga P t) ->
  (∀q,q∈p->W.sameAt i q)->(∀q,q∈p->f q.block=true)->DataW.TrodAll enc P i base f true ts vs ds p
 | [],vs,ds,p,h,_,_,_=>by obtain⟨rfl,rfl,rfl⟩:=trodAll_nil h;exact rfl
 | t::ts,vs,ds,p,h,hp,h3,h4=>by
  obtain⟨v,n,d,j,a,b,rfl,rfl,rfl,⟨e,k⟩,l⟩:=trodAll_cons h;exact⟨a,b,⟨e,DataW.trod_stays (Qeu P) (fun g m=>Qgv g m) (fun h=>by cases h) (hp t jMj) k (fun q c=>h3 q (List.mem_append_left _ c)) (fun q c=>h4 q (List.mem_append_left _ c))⟩,
   QbH l (fun t g=>hp t (jmj _ g)) (fun q c=>h3 q (List.mem_append_right _ c)) (fun q c=>h4 q (List.mem_append_right _ c)),rfl⟩
end
theorem Qg3 {w w' : World}(h:Ext w (fun _=>False) w'):Below w.heap.size w w':=⟨h.os,h.tape,h.output,h.size,fun r a=>h.same r a (fun h=>h)⟩
theorem Qb1 {W a : World}(h:Below W.heap.size W a){p:MemPlace}(hp:p.block<W.heap.size):W.sameAt a p:=by
 cases p with
 | cell b off =>
  show a.cell? ⟨b,off,none⟩=W.cell? ⟨b,off,none⟩;unfold World.cell?;rw[h.block b hp]
 | map b=>exact h.block b hp
theorem Qgj {H:Type}{enc:TypeId×Value->H}{P:Program}{w:World}{base:Nat}{sp:Nat->Bool}{held:Bool}{t:TypeId}(a:P.underlying t=some .bool):DataW.Trod enc P w base sp held t (.bool true) (.lit (.bool true)) [] :=
 ⟨1,by simp[DataW.trod,Value.cells,a]⟩
theorem Qea {f:FuncId}{i:Func}{spec:ChangeSpec}{V:List (Bool×List Kd)}{O:TypeId}(A:UD Tryz.prog i.params.toList=some V)
  (hb:Tryz.prog.underlying O=some .bool) (C:i.resultTypes=#[O]) (c:spec.vars=[])
  (l:∀(H:Type) (ds:List (DataW H)),ds.length=i.params.size->spec.fn H ds={ results:=[.lit (.bool true)],args:=ds })
  (s:∀F,okAs V F->Computes cx f F (.v (.bool true)))
  (H:Type) (enc:TypeId×Value->H) (W:World) (base:Nat) (args:Array Value) (ds Y:List (DataW H)) (before:List MemPlace)
  (E:∀(j:Nat) t v,i.params[j]?=some t->args[j]?=some v->Value.okWide Tryz.prog W .any base t v)
  (S:DataW.Whole enc Tryz.prog i.params.toList spec.vars false W args.toList ds Y before)
  (hG:∀g x,cx.G g=some x->GAt W (fun _=>False) g x) :
  Calls Tryz.prog f args W fun e N=>∃v,e=.returned v/\spec.post enc Tryz.prog i false true false false W args v N:=by
 have n:=S;obtain⟨p,q,K,Q,rfl,a0,a1⟩:=S;rw[c] at Q;obtain⟨rfl,rfl⟩:=trodVars_none Q;have m : ∀(j:Nat) t v,i.params.toList[j]?=some t->args.toList[j]?=some v->Value.okWide Tryz.prog W .any base t v:=by intro j t v T U;rw[Array.getElem?_toList] at T U;exact E j t v T U
 obtain⟨F,Z,J,h3⟩:=QbI (H:=H) (enc:=enc) (P:=Tryz.prog) (W:=W) (base:=0) (sp:=fun _=>true) (held:=true) (r:=.any) (b0:=base) (ts:=i.params.toList) (vs:=args.toList) K A m;have hc:=s F Z W (fun _=>False) args.toList (fun _ h=>h.elim) hG J h3;rw[Array.toArray_toList] at hc;refine hc.mono fun e N ⟨y,he,hy,hx⟩=>⟨y,he,?_⟩
 have M:=dr_v hy;subst M;have o:=Qg3 hx;have z:=n.lt;have u:ds.length=i.params.size:=by
  have:∀{ts:List TypeId} {vs:List Value} {ds:List (DataW H)} {p:List MemPlace},DataW.TrodAll enc Tryz.prog W 0 (fun _=>true) true ts vs ds p->ds.length=ts.length:=by
   intro ts;induction ts with
   | nil=>intro vs ds p h;obtain⟨rfl,rfl,rfl⟩:=trodAll_nil h;rfl
   | cons t ts ih=>intro vs ds p h;obtain⟨v,a2,d,X,a,b,rfl,rfl,rfl,_,J⟩:=trodAll_cons h;simp[ih J]
  exact(this K).trans Array.length_toList
 have k:=l H (ds++[]) (by rw[List.append_nil];exact u);refine⟨ds,[],p++[],[],p,[],n,?_,?_,?_,o.frame _,fun h=>by cases h⟩
 ·rw[k,C];exact trodAll_mk1 (Qgj hb)
 ·rw[k];simp only[List.append_nil];exact QbH K (Qaq A) (fun q L=>Qb1 o (z q (List.mem_append_left _ L))) (fun q L=>jDj (z q (List.mem_append_left _ L)))
 ·rw[k,c];rfl
theorem QeA {k:Bool×List Kd}{r:List (Bool×List Kd)}{a:jVj}(h:okAs (k::r) a):∃d l,a=d::l/\okA k d/\okAs r l:=h
theorem Qj3 {a:jVj}(h:okAs [] a):a=[]:=h
theorem QmA {ks:List Kd}{d:D}(h:okA (true,ks) d):∃cs,d=.agg cs/\Kd.oks ks cs:=h
theorem QhH {k:Kd}{ks:List Kd}{ds:jVj}(h:Kd.oks (k::ks) ds):∃d r,ds=d::r/\Kd.ok k d/\Kd.oks ks r:=by unfold Kd.oks at h;exact h
theorem Qkx {ds:jVj}(h:Kd.oks [] ds):ds=[]:=by unfold Kd.oks at h;exact h
theorem Qky {k:Kd}{d:D}(h:Kd.oks [k] [d]):Kd.ok k d:=by obtain⟨c,r,a,b,_⟩:=QhH h;cases a;exact b
theorem QhJ {k:Kd}{d:D}(h:okA (false,[k]) d):Kd.ok k d:=Qky h
theorem ok_i {k:IntKind}{d:D}(h:Kd.ok (.int k) d):∃n,d=.v (.int k n)/\k.min<=n/\n<=k.max:=by unfold Kd.ok at h;exact h
theorem Qkz {ks:List Kd}{d:D}(h:Kd.ok (.lst true ks) d):∃es,d=.lst false ks.length es/\es.length<=maxLen/\∀e,e∈es->∃cs,e=.agg cs/\Kd.oks ks cs:=by unfold Kd.ok at h;exact h
theorem QhU {d:Type}{enc:d->D}{p:d->Prop}:∀{es:jVj},(∀e,e∈es->∃x,e=enc x/\p x)->∃xs:List d,es=xs.map enc/\∀x,x∈xs->p x
 | [],_=>⟨[],rfl,fun x b=>by cases b⟩
 | e::es,h=>by
  obtain⟨x,rfl,b⟩:=h e jMj;obtain⟨xs,rfl,c⟩:=QhU (es:=es) fun y a=>h y (jmj _ a);refine⟨x::xs,rfl,fun y a=>?_⟩;obtain rfl|a:=List.mem_cons.1 a
  ·exact b
  ·exact c y a
theorem QjF {n:Int}(h:IntKind.i64.min<=n/\n<=IntKind.i64.max):Qg n:=h
theorem u8_b {n:Int}(h:IntKind.u8.min<=n/\n<=IntKind.u8.max):0<=n/\n<=255:=h
theorem QfS {P:Program}{w:World}{n:String}{d:DataW Unit}:∀{l:List (String×DataW Unit)} {b:List MemPlace} (i:Nat),DataW.LaidVars P w l b->l[i]?=some (n,d) ->
  ∃g t cs a p,P.globalNamed n=some g/\(P.globals[g]?).map (·.type)=some t/\w.var? P n=some cs/\DataW.trod (fun _=>()) P w 0 (fun _=>true) false a t cs.toList=some (d,p)
 | [],_,i,_,hi=>by simp at hi
 | (m,e)::r,b,0,h,hi=>by simp only[jzj,jIj,jPj] at hi;obtain⟨rfl,rfl⟩:=hi;obtain⟨g,t,cs,a,p,q,c,f,j,k,_,_⟩:=h;exact⟨g,t,cs,a,p,c,f,j,k⟩
 | (m,e)::r,b,i+1,h,hi=>by obtain⟨g,t,cs,a,p,q,c,f,j,k,o,_⟩:=h;exact QfS i o (by simpa using hi)
theorem Qke {P:Program}{W:World}{name:String}{g:Nat}{k:IntKind}{zs:List Int}(d:P.globalNamed name=some g)(h:W.var? P name=some (zs.map fun z=>Value.int k z).toArray) :
  GAt W (fun _=>False) g (.agg (zs.map fun z=>.v (.int k z))):=by
 have hc:=World.var?_cell d h;unfold World.var? at h;rw[d,jBj] at h;split at h;case h_2=>cases h
 rename_i cs t fz b;simp only[jIj] at h;refine⟨⟨fun h=>h,?_,fun j c e=>?_⟩,cs,t,fz,b,by rw[h];simp[D.cells]⟩
 ·obtain h|h:=Nat.lt_or_ge g W.heap.size
  ·exact h
  ·rw[Array.getElem?_eq_none h] at b;cases b
 ·have a : (zs.map fun z=>D.v (.int k z))[j]?=some c:=e;rw[List.getElem?_map] at a;obtain⟨z,f,rfl⟩:=Option.map_eq_some_iff.1 a;refine⟨.int k z,?_,.v _⟩;rw[Nat.zero_add,hc j];simp[f]
theorem gat1 {P:Program}{W:World}{laid:List (String×DataW Unit)}{u:List MemPlace}{name:String}{g:Nat}{t e:TypeId}{n:Nat}{k:IntKind}{zs:List Int}(i:Nat)(q:DataW.LaidVars P W laid u)(o:laid[i]?=some (name,Lib.tabData k zs))
  (j:P.globalNamed name=some g) (f:(P.globals[g]?).map (·.type)=some t) (r:P.underlying t=some (.array n e)) (m:P.underlying e=some (.int k)) (a:P.cellsOf e=1) (b:P.cellsOf t=n) :
  GAt W (fun _=>False) g (.agg (zs.map fun z=>.v (.int k z))):=by
 obtain⟨x,t',cs,h,p,c,d,s,l⟩:=QfS i q o;obtain rfl:=Option.some.inj (j.symm.trans c);obtain rfl:=Option.some.inj (f.symm.trans d);have:=Lib.cells_of_tab r m a b l;exact Qke j (by rw[s,<-this])
theorem Qig {W:World}(b:GAt W (fun _=>False) 1 (.agg (Lib.pow10Tab.map fun z=>.v (.int .u64 z))))(g:Nat)(x:D)(a:cx.G g=some x):GAt W (fun _=>False) g x:=by
 have e:cx.G g=(match Nat.beq g 1 with
  | true=>some pow10D
  | false=>none):=rfl
 rw[e] at a;split at a
 ·rename_i c;rw[jqj c];cases a;exact b
 ·cases a
set_option maxRecDepth 10000
open Go.Shelf
def Tryz.lays156_ren:Go.Shelf.Ren:=⟨fun|156=>51|165=>143|166=>144|169=>145|240=>164|241=>165|276=>181|277=>182|n=>n,fun|31=>42|9=>9|3=>3|4=>4|0=>0|20=>20|72=>191|76=>195|70=>188|37=>189|75=>194|127=>209|164=>227|5=>5|80=>67|n=>n,fun|n=>n⟩
theorem Tryz.lays156:Go.Proofs.Lays.n156 Tryz.prog Tryz.lays156_ren:={
 mixed:=by kernel_rfl
 f156:=Tryz.func51.trans (congrArg some (by kernel_rfl))
 f165:=Tryz.func143.trans (congrArg some (by kernel_rfl))
 f166:=Tryz.func144.trans (congrArg some (by kernel_rfl))
 f169:=Tryz.func145.trans (congrArg some (by kernel_rfl))
 f240:=Tryz.func164.trans (congrArg some (by kernel_rfl))
 f241:=Tryz.func165.trans (congrArg some (by kernel_rfl))
 f276:=Tryz.func181.trans (congrArg some (by kernel_rfl))
 f277:=Tryz.func182.trans (congrArg some (by kernel_rfl))
 t0:=Tryz.underlying0
 a0:=Tryz.isAgg0
 z0:=Tryz.sizeOf0
 v0:=Tryz.zeroValue0
 t3:=Tryz.underlying3
 a3:=Tryz.isAgg3
 z3:=Tryz.sizeOf3
 v3:=Tryz.zeroValue3
 t4:=Tryz.underlying4
 a4:=Tryz.isAgg4
 z4:=Tryz.sizeOf4
 v4:=Tryz.zeroValue4
 t9:=Tryz.underlying9
 a9:=Tryz.isAgg9
 z9:=Tryz.sizeOf9
 v9:=Tryz.zeroValue9
 t20:=Tryz.underlying20
 a20:=Tryz.isAgg20
 z20:=Tryz.sizeOf20
 v20:=Tryz.zeroValue20
 t31:=Tryz.underlying42
 a31:=Tryz.isAgg42
 z31:=Tryz.sizeOf42
 v31:=Tryz.zeroValue42
 t37:=Tryz.underlying189
 a37:=Tryz.isAgg189
 z37:=Tryz.sizeOf189
 v37:=Tryz.zeroValue189
 t70:=Tryz.underlying188
 a70:=Tryz.isAgg188
 z70:=Tryz.sizeOf188
 v70:=Tryz.zeroValue188
 t72:=Tryz.underlying191
 a72:=Tryz.isAgg191
 z72:=Tryz.sizeOf191
 v72:=Tryz.zeroValue191
 t75:=Tryz.underlying194
 a75:=Tryz.isAgg194
 z75:=Tryz.sizeOf194
 v75:=Tryz.zeroValue194
 t76:=Tryz.underlying195
 a76:=Tryz.isAgg195
 z76:=Tryz.sizeOf195
 v76:=Tryz.zeroValue195
 t127:=Tryz.underlying209
 a127:=Tryz.isAgg209
 z127:=Tryz.sizeOf209
 v127:=Tryz.zeroValue209
 t164:=Tryz.underlying227
 a164:=Tryz.isAgg227
 z164:=Tryz.sizeOf227
 v164:=Tryz.zeroValue227 }
theorem Tryz.Builder_Extra_156:Builder.Extra Tryz.prog Tryz.lays156_ren:={
 sizeBuilder:=by kernel_rfl
 liesBuilder:=by kernel_rfl
 t5:=Tryz.underlying5
 a5:=Tryz.isAgg5
 z5:=Tryz.sizeOf5
 v5:=Tryz.zeroValue5
 infoByte:=by kernel_rfl
 cellsByte:=by kernel_rfl
 sizeByte:=by kernel_rfl
 neB5:=by decide }
def Tryz.laysM171_ren:Go.Shelf.Ren:=⟨fun|171=>35|243=>134|246=>161|283=>170|284=>171|285=>172|286=>173|129=>189|317=>188|318=>190|319=>191|320=>192|337=>198|338=>199|n=>n,fun|3=>3|9=>9|2=>2|4=>4|171=>214|0=>0|53=>215|37=>189|5=>5|173=>218|212=>233|51=>234|20=>20|213=>235|46=>231|232=>248|233=>249|n=>n,fun|17=>1|18=>4|19=>5|n=>n⟩
theorem Tryz.laysM171:Go.Proofs.LaysM.n171 Tryz.prog Tryz.laysM171_ren:={
 mixed:=by kernel_rfl
 f129:=Tryz.func189.trans (congrArg some (by kernel_rfl))
 f171:=Tryz.func35.trans (congrArg some (by kernel_rfl))
 f243:=Tryz.func134.trans (congrArg some (by kernel_rfl))
 f246:=Tryz.func161.trans (congrArg some (by kernel_rfl))
 f283:=Tryz.func170.trans (congrArg some (by kernel_rfl))
 f284:=Tryz.func171.trans (congrArg some (by kernel_rfl))
 f285:=Tryz.func172.trans (congrArg some (by kernel_rfl))
 f286:=Tryz.func173.trans (congrArg some (by kernel_rfl))
 f317:=Tryz.func188.trans (congrArg some (by kernel_rfl))
 f318:=Tryz.func190.trans (congrArg some (by kernel_rfl))
 f319:=Tryz.func191.trans (congrArg some (by kernel_rfl))
 f320:=Tryz.func192.trans (congrArg some (by kernel_rfl))
 f337:=Tryz.func198.trans (congrArg some (by kernel_rfl))
 f338:=Tryz.func199.trans (congrArg some (by kernel_rfl))
 t0:=Tryz.underlying0
 a0:=Tryz.isAgg0
 z0:=Tryz.sizeOf0
 v0:=Tryz.zeroValue0
 t2:=Tryz.underlying2
 a2:=Tryz.isAgg2
 z2:=Tryz.sizeOf2
 v2:=Tryz.zeroValue2
 t3:=Tryz.underlying3
 a3:=Tryz.isAgg3
 z3:=Tryz.sizeOf3
 v3:=Tryz.zeroValue3
 t4:=Tryz.underlying4
 a4:=Tryz.isAgg4
 z4:=Tryz.sizeOf4
 v4:=Tryz.zeroValue4
 t5:=Tryz.underlying5
 a5:=Tryz.isAgg5
 z5:=Tryz.sizeOf5
 v5:=Tryz.zeroValue5
 t9:=Tryz.underlying9
 a9:=Tryz.isAgg9
 z9:=Tryz.sizeOf9
 v9:=Tryz.zeroValue9
 t20:=Tryz.underlying20
 a20:=Tryz.isAgg20
 z20:=Tryz.sizeOf20
 v20:=Tryz.zeroValue20
 t37:=Tryz.underlying189
 a37:=Tryz.isAgg189
 z37:=Tryz.sizeOf189
 v37:=Tryz.zeroValue189
 t46:=Tryz.underlying231
 a46:=Tryz.isAgg231
 z46:=Tryz.sizeOf231
 v46:=Tryz.zeroValue231
 t51:=Tryz.underlying234
 a51:=Tryz.isAgg234
 z51:=Tryz.sizeOf234
 v51:=Tryz.zeroValue234
 t53:=Tryz.underlying215
 a53:=Tryz.isAgg215
 z53:=Tryz.sizeOf215
 v53:=Tryz.zeroValue215
 t171:=Tryz.underlying214
 a171:=Tryz.isAgg214
 z171:=Tryz.sizeOf214
 v171:=Tryz.zeroValue214
 t173:=Tryz.underlying218
 a173:=Tryz.isAgg218
 z173:=Tryz.sizeOf218
 v173:=Tryz.zeroValue218
 t212:=Tryz.underlying233
 a212:=Tryz.isAgg233
 z212:=Tryz.sizeOf233
 v212:=Tryz.zeroValue233
 t213:=Tryz.underlying235
 a213:=Tryz.isAgg235
 z213:=Tryz.sizeOf235
 t232:=Tryz.underlying248
 a232:=Tryz.isAgg248
 z232:=Tryz.sizeOf248
 v232:=Tryz.zeroValue248
 t233:=Tryz.underlying249
 a233:=Tryz.isAgg249
 z233:=Tryz.sizeOf249
 v233:=Tryz.zeroValue249
 g17:=by kernel_rfl
 g18:=by kernel_rfl
 g19:=by kernel_rfl
 i0:=by kernel_rfl
 i2:=by kernel_rfl
 i3:=by kernel_rfl
 i4:=by kernel_rfl
 i5:=by kernel_rfl
 i9:=by kernel_rfl
 i20:=by kernel_rfl
 i37:=by kernel_rfl
 i46:=by kernel_rfl
 i51:=by kernel_rfl
 i53:=by kernel_rfl
 i171:=by kernel_rfl
 i173:=by kernel_rfl
 i212:=by kernel_rfl
 i232:=by kernel_rfl
 i233:=by kernel_rfl
 m17:=by kernel_rfl
 m18:=by kernel_rfl
 m19:=by kernel_rfl }
theorem Qkr {w:World}{F:Nat->Prop}(h:GAt w F 1 pow10D):Lib.TabIs Tryz.prog w "internal/strconv.uint64pow10" .u64 Lib.pow10Tab:=by
 obtain⟨⟨m,n,f⟩,cs,t,fz,d,g⟩:=h;have j:Tryz.prog.globalNamed "internal/strconv.uint64pow10"=some 1:=by kernel_rfl
 unfold Lib.TabIs World.var?;rw[j];simp only[jBj,d,jIj];apply Array.ext
 ·rw[g];simp[pow10D,D.cells]
 ·intro i b c;have k:i<Lib.pow10Tab.length:=by simpa using c
  have hc:pow10D.cells[i]?=some (.v (.int .u64 Lib.pow10Tab[i])):=by simp[pow10D,D.cells,k]
  obtain⟨y,a,l⟩:=f i _ hc;rw[dr_v l] at a;unfold World.cell? at a;simp only[d,Nat.zero_add] at a;have e:cs[i]?=some (Value.int IntKind.u64 Lib.pow10Tab[i]):=a;rw[Array.getElem?_eq_getElem b] at e;rw[Option.some.inj e];simp
def Wr (n:Nat)(a:Int):Option jSj:=if Qg a then some ⟨(Lib.itoa a).toArray⟩ else none
theorem Yq {n a r}(h:Wr n a=some r):Computes cx 35 [I a] (.v (.string r)):=by
 unfold Wr at h;split at h;case isFalse=>cases h
 rename_i b;cases h;intro w F vs l c g d;match vs,g with
 | [x],_ =>
  rw[dr_v (d 0 _ _ rfl rfl)];have j:=Qkr (c 1 _ rfl);refine(Any.strconv_Itoa Tryz.laysM171 a b.1 b.2 w j).mono ?_;rintro e w' ⟨f,k,os,rfl⟩;refine⟨_,f,.v _,⟨(fun h=>by cases h),rfl,rfl,rfl,?_,fun r i _=>?_⟩⟩
  ·simp[Sort.grow,World.drewN]
  ·simp only[Sort.grow,World.drewN];rw[Array.getElem?_append_left i]
def jx:jVj->Option (List jSj)
 | []=>some []
 | d::l=>match JY d,jx l with
  | some x,some xs=>some (x::xs)
  | _,_=>none
theorem Qa0:∀{l:jVj} {xs:List jSj},jx l=some xs->l=xs.map fun x=>.v (.string x)
 | [],xs,h=>by cases h;rfl
 | d::l,xs,h=>by
  unfold jx at h;split at h
  ·rename_i x ys a b;cases h;rw[UM a,Qa0 b];rfl
  ·cases h
def QjE (xs:List jSj)(sep:jSj):jSj:=⟨(Lib.join (xs.map (·.data.toList)) sep.data.toList).toArray⟩
def ZI (n:Nat)(l:jVj)(sep:jSj):Option jSj :=
 (jx l).bind fun xs=>if xs.length<=140737488355328/\(Lib.join (xs.map (·.data.toList)) sep.data.toList).length<=140737488355328 then some (QjE xs sep) else none
theorem VY {n:Nat}{full:Bool}{sz:Nat}{l:jVj}{sep r:jSj}(h:ZI n l sep=some r):Computes cx 51 [.lst full sz l,.v (.string sep)] (.v (.string r)):=by
 unfold ZI at h;obtain⟨xs,G,h⟩:=Wh h;split at h;case isFalse=>cases h
 rename_i q;cases h;have k:=Qa0 G;intro w F vs L M m p;match vs,m with
 | [a,b],_ =>
  rw[dr_v (p 1 _ _ rfl rfl)];have y:=p 0 _ _ rfl rfl;cases y with
  | lst _ _ _ a0 cap blk off ys N hc f C E g =>
   cases l with
   | nil =>
    cases xs with
    | cons x xs=>simp at k
    | nil =>
     refine(Any.strings_Join_none Tryz.lays156 Tryz.Builder_Extra_156 a0 cap sep w).mono ?_;rintro e w' ⟨i,rfl⟩;exact⟨_,i,.v _,Ext.refl _ _⟩
   | cons o l0 =>
    obtain⟨t,K,u⟩:=f (by simp);subst t;have d:(o::l0).length=xs.length:=by rw[k];simp
    rw[d];refine(Any.strings_Join Tryz.lays156 Tryz.Builder_Extra_156 blk off cap xs sep w ?_ u q.1 (by omega) q.2).mono ?_
    ·intro j x A;have c : (o::l0)[j]?=some (.v (.string x)):=by rw[k];simp[A]
     have H:sz=1:=by have:=C j _ c;simpa[D.cells] using this.symm
     subst H;have s:=(E j _ 0 _ c rfl).1;have J:=dr_v (g j _ 0 _ c rfl);rw[J] at s;simpa using s
    ·rintro e w' ⟨i,z⟩;exact⟨_,i,.v _,Qbv z⟩
def Tryz.lays160_ren:Go.Shelf.Ren:=⟨fun|160=>163|232=>175|231=>174|227=>176|234=>178|233=>177|236=>180|235=>179|228=>193|271=>195|151=>194|197=>167|120=>201|152=>200|260=>183|137=>202|119=>203|224=>186|225=>185|217=>184|266=>196|n=>n,fun|9=>9|4=>4|3=>3|5=>5|117=>223|116=>222|0=>0|124=>226|21=>21|105=>211|46=>231|119=>240|139=>243|138=>242|n=>n,fun|3=>2|4=>3|n=>n⟩
theorem Tryz.lays160:Go.Proofs.Lays.n160 Tryz.prog Tryz.lays160_ren:={
 mixed:=by kernel_rfl
 f119:=Tryz.func203.trans (congrArg some (by kernel_rfl))
 f120:=Tryz.func201.trans (congrArg some (by kernel_rfl))
 f137:=Tryz.func202.trans (congrArg some (by kernel_rfl))
 f151:=Tryz.func194.trans (congrArg some (by kernel_rfl))
 f152:=Tryz.func200.trans (congrArg some (by kernel_rfl))
 f160:=Tryz.func163.trans (congrArg some (by kernel_rfl))
 f197:=Tryz.func167.trans (congrArg some (by kernel_rfl))
 f217:=Tryz.func184.trans (congrArg some (by kernel_rfl))
 f224:=Tryz.func186.trans (congrArg some (by kernel_rfl))
 f225:=Tryz.func185.trans (congrArg some (by kernel_rfl))
 f227:=Tryz.func176.trans (congrArg some (by kernel_rfl))
 f228:=Tryz.func193.trans (congrArg some (by kernel_rfl))
 f231:=Tryz.func174.trans (congrArg some (by kernel_rfl))
 f232:=Tryz.func175.trans (congrArg some (by kernel_rfl))
 f233:=Tryz.func177.trans (congrArg some (by kernel_rfl))
 f234:=Tryz.func178.trans (congrArg some (by kernel_rfl))
 f235:=Tryz.func179.trans (congrArg some (by kernel_rfl))
 f236:=Tryz.func180.trans (congrArg some (by kernel_rfl))
 f260:=Tryz.func183.trans (congrArg some (by kernel_rfl))
 f266:=Tryz.func196.trans (congrArg some (by kernel_rfl))
 f271:=Tryz.func195.trans (congrArg some (by kernel_rfl))
 t0:=Tryz.underlying0
 a0:=Tryz.isAgg0
 z0:=Tryz.sizeOf0
 v0:=Tryz.zeroValue0
 t3:=Tryz.underlying3
 a3:=Tryz.isAgg3
 z3:=Tryz.sizeOf3
 v3:=Tryz.zeroValue3
 t4:=Tryz.underlying4
 a4:=Tryz.isAgg4
 z4:=Tryz.sizeOf4
 v4:=Tryz.zeroValue4
 t5:=Tryz.underlying5
 a5:=Tryz.isAgg5
 z5:=Tryz.sizeOf5
 v5:=Tryz.zeroValue5
 t9:=Tryz.underlying9
 a9:=Tryz.isAgg9
 z9:=Tryz.sizeOf9
 v9:=Tryz.zeroValue9
 t21:=Tryz.underlying21
 a21:=Tryz.isAgg21
 z21:=Tryz.sizeOf21
 v21:=Tryz.zeroValue21
 t46:=Tryz.underlying231
 a46:=Tryz.isAgg231
 z46:=Tryz.sizeOf231
 v46:=Tryz.zeroValue231
 t105:=Tryz.underlying211
 a105:=Tryz.isAgg211
 z105:=Tryz.sizeOf211
 v105:=Tryz.zeroValue211
 t116:=Tryz.underlying222
 a116:=Tryz.isAgg222
 z116:=Tryz.sizeOf222
 t117:=Tryz.underlying223
 a117:=Tryz.isAgg223
 z117:=Tryz.sizeOf223
 v117:=Tryz.zeroValue223
 t119:=Tryz.underlying240
 a119:=Tryz.isAgg240
 z119:=Tryz.sizeOf240
 t124:=Tryz.underlying226
 a124:=Tryz.isAgg226
 z124:=Tryz.sizeOf226
 v124:=Tryz.zeroValue226
 t138:=Tryz.underlying242
 a138:=Tryz.isAgg242
 z138:=Tryz.sizeOf242
 v138:=Tryz.zeroValue242
 t139:=Tryz.underlying243
 a139:=Tryz.isAgg243
 z139:=Tryz.sizeOf243
 v139:=Tryz.zeroValue243
 g3:=by kernel_rfl
 g4:=by kernel_rfl }
def Tryz.lays217_ren:Go.Shelf.Ren:=⟨fun|217=>184|266=>196|n=>n,fun|9=>9|5=>5|3=>3|n=>n,fun|n=>n⟩
theorem Tryz.lays217:Go.Proofs.Lays.n217 Tryz.prog Tryz.lays217_ren:={
 mixed:=by kernel_rfl
 f217:=Tryz.func184.trans (congrArg some (by kernel_rfl))
 f266:=Tryz.func196.trans (congrArg some (by kernel_rfl))
 t3:=Tryz.underlying3
 a3:=Tryz.isAgg3
 z3:=Tryz.sizeOf3
 v3:=Tryz.zeroValue3
 t5:=Tryz.underlying5
 a5:=Tryz.isAgg5
 z5:=Tryz.sizeOf5
 v5:=Tryz.zeroValue5
 t9:=Tryz.underlying9
 a9:=Tryz.isAgg9
 z9:=Tryz.sizeOf9
 v9:=Tryz.zeroValue9 }
def Tryz.lays138_ren:Go.Shelf.Ren:=⟨fun|138=>150|195=>166|218=>168|143=>151|219=>169|217=>184|225=>185|224=>186|267=>187|266=>196|314=>197|n=>n,fun|9=>9|3=>3|4=>4|5=>5|0=>0|46=>231|146=>244|51=>234|n=>n,fun|1=>0|n=>n⟩
theorem Tryz.lays138:Go.Proofs.Lays.n138 Tryz.prog Tryz.lays138_ren:={
 mixed:=by kernel_rfl
 f138:=Tryz.func150.trans (congrArg some (by kernel_rfl))
 f143:=Tryz.func151.trans (congrArg some (by kernel_rfl))
 f195:=Tryz.func166.trans (congrArg some (by kernel_rfl))
 f217:=Tryz.func184.trans (congrArg some (by kernel_rfl))
 f218:=Tryz.func168.trans (congrArg some (by kernel_rfl))
 f219:=Tryz.func169.trans (congrArg some (by kernel_rfl))
 f224:=Tryz.func186.trans (congrArg some (by kernel_rfl))
 f225:=Tryz.func185.trans (congrArg some (by kernel_rfl))
 f266:=Tryz.func196.trans (congrArg some (by kernel_rfl))
 f267:=Tryz.func187.trans (congrArg some (by kernel_rfl))
 f314:=Tryz.func197.trans (congrArg some (by kernel_rfl))
 t0:=Tryz.underlying0
 a0:=Tryz.isAgg0
 z0:=Tryz.sizeOf0
 v0:=Tryz.zeroValue0
 t3:=Tryz.underlying3
 a3:=Tryz.isAgg3
 z3:=Tryz.sizeOf3
 v3:=Tryz.zeroValue3
 t4:=Tryz.underlying4
 a4:=Tryz.isAgg4
 z4:=Tryz.sizeOf4
 v4:=Tryz.zeroValue4
 t5:=Tryz.underlying5
 a5:=Tryz.isAgg5
 z5:=Tryz.sizeOf5
 v5:=Tryz.zeroValue5
 t9:=Tryz.underlying9
 a9:=Tryz.isAgg9
 z9:=Tryz.sizeOf9
 v9:=Tryz.zeroValue9
 t46:=Tryz.underlying231
 a46:=Tryz.isAgg231
 z46:=Tryz.sizeOf231
 v46:=Tryz.zeroValue231
 t51:=Tryz.underlying234
 a51:=Tryz.isAgg234
 z51:=Tryz.sizeOf234
 v51:=Tryz.zeroValue234
 t146:=Tryz.underlying244
 a146:=Tryz.isAgg244
 z146:=Tryz.sizeOf244
 v146:=Tryz.zeroValue244
 g1:=by kernel_rfl }
theorem QbE {f:FuncId}{g i y:Value}(h:∀w:World,Calls Tryz.prog f #[g,i] w fun e w'=>e=.returned y/\Below w.heap.size w w'):Computes cx f [.v g,.v i] (.v y):=by
 intro w F vs k l j c;match vs,j with
 | [a,b],_ =>
  rw[dr_v (c 0 _ _ rfl rfl),dr_v (c 1 _ _ rfl rfl)];exact(h w).mono fun e w' d=>⟨_,d.1,.v _,Qbv d.2⟩
theorem Qao {w w' : World}(h:w'=w):Below w.heap.size w w':=by rw[h];exact Below.refl _ _
def Un (n:Nat)(s:jSj)(c:Int):Option Int:=some (Lib.indexByte s.data.toList c.toNat.toUInt8)
theorem ko {n s c r}(h:Un n s c=some r):Computes cx 184 [.v (.string s),.v (.int .u8 c)] (.v (.int .i64 r)):=by simp only[Un,jIj] at h;subst h;exact QbE fun w=>(Any.stringslite_IndexByte Tryz.lays217 s c w).mono fun e w' a=>⟨a.1,Qao a.2⟩
def UC (n:Nat)(s sep:jSj):Option Int:=match sep with
 | ⟨⟨[c]⟩⟩=>some (Lib.countByte s.data.toList c)
 | _=>none
theorem yA {n s sep r}(h:UC n s sep=some r):Computes cx 150 [.v (.string s),.v (.string sep)] (.v (.int .i64 r)):=by
 unfold UC at h;split at h;case h_2=>cases h
 rename_i c;simp only[jIj] at h;subst h;exact QbE fun w=>(Any.strings_Count_one Tryz.lays138 s c w).mono fun e w' a=>⟨a.1,Qao a.2⟩
def QkW (n:Nat)(s cutset:jSj):Option jSj :=
 if s.size<=1000000/\cutset.size<=1000/\cutset.data.toList.all (fun b=>decide (b.toNat<128))=true then some ⟨(Lib.trimS s.data.toList cutset.data.toList).toArray⟩ else none
theorem Qlr {n s cutset r}(h:QkW n s cutset=some r):Computes cx 163 [.v (.string s),.v (.string cutset)] (.v (.string r)):=by
 unfold QkW at h;split at h;case isFalse=>cases h
 rename_i a;cases h;exact QbE fun w=>Any.strings_Trim_laid Tryz.lays160 (by kernel_rfl) s cutset w (by omega) (by omega) (ascii_of_all a.2.2)
set_option maxHeartbeats 4000000
abbrev b0:Orc:=.br false
abbrev b1:Orc:=.br true
def no:Nat->List Orc->List Orc
 | 0,l=>l
 | n+1,l=>.no::no n l
theorem rf {f:FuncId}{a:jVj}{r:D}{ob:List Prop}(orc:List Orc)(b:All ob)(h:Qfu true 100 cx f a orc=some (r,ob):=by kernel_rfl):Computes cx f a r:=run h b
theorem rfO {f:FuncId}{a:List AV}{i:Option (List OC)}(b:Nat){ks:List Bool}{r:AV}{cs:List OC}(orc:List Orc){ob:List Prop}(c:All ob)(h:Qhw 100 cx f a i b cs ks orc=some (r,cs,ob):=by kernel_rfl):ComputesO cx f a i r cs ks:=QiP c h
structure Lp (S E:Type) where
 T:S->List (Nat×AV)
 H:S->List (Nat×Blk)
 X:E->Ex
 Y:E->List (Nat×AV)
 Z:E->List (Nat×Blk)
abbrev Rl {S E:Type}(c:Code)(a vis:Nat)(rnd:Bool)(L:Lp S E)(s:S)(r:S⊕E):Prop:=Rd cx c a vis rnd L.T L.H L.X L.Y L.Z s r
theorem rn {S E:Type}{c:Code}{d vis:Nat}{rnd:Bool}{L:Lp S E}{s s' : S}(e:Nat)(orc:List Orc)(f b a:List Nat){ob:List Prop}(g:All ob)(h:Xk 100 cx c d vis rnd e (L.T s) (L.H s) orc f b a=some (.normal,L.T s',L.H s',ob):=by kernel_rfl):Rl c d vis rnd L s (.inl s'):=⟨100,e,orc,f,b,a,Qdc g h⟩
theorem rx {S E:Type}{c:Code}{d vis:Nat}{rnd:Bool}{L:Lp S E}{s:S}{e:E}(f:Nat)(orc:List Orc)(g b a:List Nat){ob:List Prop}(i:All ob)(h:Xk 100 cx c d vis rnd f (L.T s) (L.H s) orc g b a=some (L.X e,L.Y e,L.Z e,ob):=by kernel_rfl)(j:L.X e≠.normal:=by nofun):Rl c d vis rnd L s (.inr e):=⟨⟨100,f,orc,g,b,a,Qdc i h⟩,j⟩
theorem ro (e:TypeId){b n:Nat}(h:Wi b n)(c:cx.bytes e=some b:=by kernel_rfl)(a:0<b:=by decide):room cx e n:=Qfv c a h
theorem Q2 {b:Type}{un:D->Option b}{enc:b->D}{es:jVj}{i:Int}{x:b}{l:List Prop}(a:∀{d x},un d=some x->d=enc x)(h:el un es i=some x)(t:All l):All ((0<=i)::(nth es i.toNat=some (enc x))::l):=Qb (Qf0 a h).1 (Qb (Qf0 a h).2 t)
theorem io {a:Type}{p:Prop}[Decidable p]{x y:Option a}{r:a}(h:(if p then x else y)=some r):(p/\x=some r)\/(¬p/\y=some r):=by
 by_cases hp:p
 · exact .inl ⟨hp,it h hp⟩
 · exact .inr ⟨hp,jf h hp⟩
abbrev jZj:D:=.agg [I 0,I 0,B false,B false,I 0,I 0,I 0,.lst true 0 [],.lst true 0 [],.lst true 0 []]
abbrev jOj:Type:=List Orc
abbrev Qa (c d:jVj)(e f:Int)(g h:Bool)(i j k:Int)(l a b:jVj):List OC:=[.row 5 c,.row 5 d,.dat (I e),.dat (I f),.dat (B g),.dat (B h),.dat (I i),.dat (I j),.dat (I k),.row 1 l,.row 6 a,.row 7 b]
abbrev Qa' (x:jVj×jVj×Int×Int×Bool×Bool×Int×Int×Int×jVj×jVj×jVj):List OC:=Qa x.1 x.2.1 x.2.2.1 x.2.2.2.1 x.2.2.2.2.1 x.2.2.2.2.2.1 x.2.2.2.2.2.2.1 x.2.2.2.2.2.2.2.1 x.2.2.2.2.2.2.2.2.1 x.2.2.2.2.2.2.2.2.2.1 x.2.2.2.2.2.2.2.2.2.2.1 x.2.2.2.2.2.2.2.2.2.2.2
abbrev QI (a b:Int)(c d:Bool)(e f g:Int)(h i j:jVj):List OC:=[.dat (I a),.dat (I b),.dat (B c),.dat (B d),.dat (I e),.dat (I f),.dat (I g),.row 1 h,.row 6 i,.row 7 j]
abbrev QI' (x:Int×Int×Bool×Bool×Int×Int×Int×jVj×jVj×jVj):List OC:=QI x.1 x.2.1 x.2.2.1 x.2.2.2.1 x.2.2.2.2.1 x.2.2.2.2.2.1 x.2.2.2.2.2.2.1 x.2.2.2.2.2.2.2.1 x.2.2.2.2.2.2.2.2.1 x.2.2.2.2.2.2.2.2.2
abbrev jv:List Bool:=[true,true,true,true,true,true,true,true,true,true]
abbrev Zj:List Bool:=[true,true,true,true,true,true,true,true,true,true,true,true]
def Qm (n:Nat)(a0:Bool)(a:Int):Option (Int) := if a0=true then some a else some 0
theorem jd {n a0 b r}(h:Qm n a0 b=some r):Computes cx 148 [B a0,I b] (I r):=by
 unfold Qm at h;obtain⟨a,h⟩|⟨a,h⟩:=io h
 ·obtain rfl:=oi h;exact rf [b1] (Qb a QA)
 obtain rfl:=oi h;exact rf [b0] (Qb (Zy a) QA)
def Zw (n:Nat)(a0:Int)(a:(jSj×Int)):Option (jSj×Int⊕jSj) := if a.2=0 then some (.inr a.1) else if(Int.tmod a.2 10)<0 then if Qg (0 - (Int.tmod a.2 10)) then if Qg (48+(0 - (Int.tmod a.2 10))) then if(Utf8.encode (IntKind.wrap .i32 (48+(0 - (Int.tmod a.2 10))))).size+a.1.size<=9223372036854775807 then if Qg (Int.tdiv a.2 10) then some (.inl (((Utf8.encode (IntKind.wrap .i32 (48+(0 - (Int.tmod a.2 10)))))++a.1),(Int.tdiv a.2 10))) else none else none else none else none else if Qg (48+(Int.tmod a.2 10)) then if(Utf8.encode (IntKind.wrap .i32 (48+(Int.tmod a.2 10)))).size+a.1.size<=9223372036854775807 then if Qg (Int.tdiv a.2 10) then some (.inl (((Utf8.encode (IntKind.wrap .i32 (48+(Int.tmod a.2 10))))++a.1),(Int.tdiv a.2 10))) else none else none else none
noncomputable def yH (a0:Int):Lp (jSj×Int) (jSj):=⟨fun a=>[(0,.d (I a0)),(3,.d (Qe a.1)),(4,.d (I a.2))],fun _=>[],fun _=>(.exit 0),fun e=>[(0,.d (I a0)),(3,.d (Qe e))],fun _=>[]⟩
theorem yF {n a0}(c)(r)(h:Zw n a0 c=some r):Rl (Zt cx.P 9 0) 30 0 false (yH a0) c r:=by
 unfold Zw at h;obtain⟨a,h⟩|⟨a,h⟩:=io h
 ·cases h;exact rx 6 [b0] [] [0,3] [] (Qb (nef a) QA)
 have q:=Qb ((by decide):(10:Int)≠0) (Qb (net a) QA);obtain⟨b,h⟩|⟨b,h⟩:=io h
 ·have⟨ha3,h⟩:=gd h;have⟨ha4,h⟩:=gd h;have⟨ha5,h⟩:=gd h;have⟨ha6,h⟩:=gd h;cases h;exact rn 6 [b1,b1] [] [0,3,4] [] (Qb ((by decide):(10:Int)≠0) (Qb ha6 (Qb ha5 (Qb ha4 (Qb ha3 (Qb (jDj b) q))))))
 have⟨ha3,h⟩:=gd h;have⟨ha4,h⟩:=gd h;have⟨ha5,h⟩:=gd h;cases h;exact rn 6 [b1,b0] [] [0,3,4] [] (Qb ((by decide):(10:Int)≠0) (Qb ha5 (Qb ha4 (Qb ha3 (Qb (jEj b) q)))))
def QT (n:Nat)(a0:Int):Option (jSj) := if a0=0 then some ⟨#[48]⟩ else(QU (Zw n a0) n (⟨#[]⟩,a0)).bind fun t2=>if a0<0 then if(⟨#[45]⟩:jSj).size+t2.size<=9223372036854775807 then some ((⟨#[45]⟩:jSj)++t2) else none else some t2
theorem QG {n a0 r}(h:QT n a0=some r):Computes cx 9 [I a0] (Qe r):=by
 unfold QT at h;obtain⟨a,h⟩|⟨a,h⟩:=io h
 ·cases h;exact rf [b1] (Qb (eqt a) QA)
 have⟨t2,h2,h⟩:=bo h;have q:=Qb (QE yF h2) (Qb (eqf a) QA);let o(l:jOj):=b0::.lp [] [0,3,4] [] (.exit 0) [(0,.d (I a0)),(3,.d (Qe t2))] [] 37::l;obtain⟨b,h⟩|⟨b,h⟩:=io h
 ·have⟨h4,h⟩:=gd h;cases h;exact rf (o [b1]) (Qb h4 (Qb (jDj b) q))
 obtain rfl:=oi h;exact rf (o [b0]) (Qb (jEj b) q)
def GB:jVj:=[.tup [Qe ⟨#[115,101,99,116,111,114]⟩,.agg [Qe ⟨#[83]⟩,I 1,.fn (.func 83) [] [],.fn (.func 84) [] []]],.tup [Qe ⟨#[109,105,114,114,111,114]⟩,.agg [Qe ⟨#[77,115]⟩,I 2,.fn (.func 85) [] [],.fn (.func 86) [] []]],.tup [Qe ⟨#[115,111,105,108]⟩,.agg [Qe ⟨#[109]⟩,I 2,.fn (.func 87) [] [],.fn (.func 158) [] [.ref (.fn (.func 89) [] []) 0]]],.tup [Qe ⟨#[99,108,101,97,110]⟩,.agg [Qe ⟨#[109]⟩,I 1,.fn (.func 90) [] [],.fn (.func 158) [] [.ref (.fn (.func 91) [] []) 0]]],.tup [Qe ⟨#[100,101,102,101,99,116]⟩,.agg [Qe ⟨#[109]⟩,I 1,.fn (.func 159) [] [.ref (.fn (.func 93) [] []) 0],.fn (.func 158) [] [.ref (.fn (.func 94) [] []) 0]]],.tup [Qe ⟨#[114,101,112,97,105,114]⟩,.agg [Qe ⟨#[109]⟩,I 1,.fn (.func 159) [] [.ref (.fn (.func 95) [] []) 0],.fn (.func 158) [] [.ref (.fn (.func 96) [] []) 0]]],.tup [Qe ⟨#[97,105,109]⟩,.agg [Qe ⟨#[109]⟩,I 1,.fn (.func 159) [] [.ref (.fn (.func 97) [] []) 0],.fn (.func 158) [] [.ref (.fn (.func 98) [] []) 0]]],.tup [Qe ⟨#[112,97,114,107]⟩,.agg [Qe ⟨#[109]⟩,I 1,.fn (.func 159) [] [.ref (.fn (.func 99) [] []) 0],.fn (.func 158) [] [.ref (.fn (.func 100) [] []) 0]]],.tup [Qe ⟨#[100,105,109]⟩,.agg [Qe ⟨#[115]⟩,I 1,.fn (.func 90) [] [],.fn (.func 101) [] []]],.tup [Qe ⟨#[115,117,110]⟩,.agg [Qe ⟨#[]⟩,I 2,.fn (.func 104) [] [],.fn (.func 105) [] []]],.tup [Qe ⟨#[102,105,108,108]⟩,.agg [Qe ⟨#[]⟩,I 1,.fn (.func 106) [] [],.fn (.func 107) [] []]],.tup [Qe ⟨#[100,114,97,105,110]⟩,.agg [Qe ⟨#[]⟩,I 1,.fn (.func 108) [] [],.fn (.func 110) [] []]],.tup [Qe ⟨#[116,114,105,112]⟩,.agg [Qe ⟨#[]⟩,I 1,.fn (.func 111) [] [],.fn (.func 112) [] []]],.tup [Qe ⟨#[114,101,115,101,116]⟩,.agg [Qe ⟨#[]⟩,I 1,.fn (.func 114) [] [],.fn (.func 115) [] []]],.tup [Qe ⟨#[111,102,102,101,114]⟩,.agg [Qe ⟨#[79]⟩,I 5,.fn (.func 116) [] [],.fn (.func 118) [] []]],.tup [Qe ⟨#[100,101,108,105,118,101,114]⟩,.agg [Qe ⟨#[111]⟩,I 2,.fn (.func 119) [] [],.fn (.func 120) [] []]],.tup [Qe ⟨#[98,105,108,108]⟩,.agg [Qe ⟨#[111]⟩,I 1,.fn (.func 121) [] [],.fn (.func 122) [] []]],.tup [Qe ⟨#[117,110,100,111]⟩,.agg [Qe ⟨#[]⟩,I 0,.fn (.func 90) [] [],.fn (.func 123) [] []]]]
def Qe1 (x:jSj×Int×FnD×FnD):D:=.agg [Qe x.1,I x.2.1,.fn x.2.2.1.1 x.2.2.1.2.1 x.2.2.1.2.2,.fn x.2.2.2.1 x.2.2.2.2.1 x.2.2.2.2.2]
def Kt:D->Option (jSj×Int×FnD×FnD)
 | .agg [c0,c1,c2,c3]=>(JY c0).bind fun a=>(YZ .i64 c1).bind fun b=>(QbQ c2).bind fun c=>(QbQ c3).bind fun d=>some (a,b,c,d)
 | _=>none
theorem XW {d:D}{x:jSj×Int×FnD×FnD}(h:Kt d=some x):d=Qe1 x:=by
 unfold Kt at h;split at h;case h_2=>cases h
 obtain⟨k,f,h⟩:=Wh h;obtain⟨l,g,h⟩:=Wh h;obtain⟨m,i,h⟩:=Wh h;obtain⟨n,j,h⟩:=Wh h;cases h;have a:=UM f;have b:=Vj g;have c:=QaX i;have e:=QaX j;rw[a,b,c,e];rfl
def JH (n:Nat)  : Option (Int) :=
 some 3
theorem Qcy {n:Nat}  {r:Int}(h:JH n =some r):Computes cx 26 [B true,I 3] (I r):=by unfold JH at h;obtain rfl:=oi h;exact rf [.no] QA
theorem Qs {n a0 b r}(h:Qm n a0 b=some r):Computes cx 26 [B a0,I b] (I r):=by
 unfold Qm at h;obtain⟨a,h⟩|⟨a,h⟩:=io h
 ·obtain rfl:=oi h;exact rf [b1] (Qb a QA)
 obtain rfl:=oi h;exact rf [b0] (Qb (Zy a) QA)
def ZJ (n:Nat)(a0 a b:Int):Option (Int) := if a0<a then(JH n).bind fun t2=>some t2 else(Qm n (decide (a0>b)) 3).bind fun t2=>some t2
theorem Va {n a0 b c r}(h:ZJ n a0 b c=some r):Computes cx 37 [I a0,I b,I c] (I r):=by
 unfold ZJ at h;obtain⟨a,h⟩|⟨a,h⟩:=io h
 ·have⟨t2,h2,h⟩:=bo h;obtain rfl:=oi h;exact rf [b1,.ret (I t2)] (Qb (Qcy h2) (Qb (jDj a) QA))
 have⟨t2,h2,h⟩:=bo h;obtain rfl:=oi h;exact rf [b0,.ret (I t2)] (Qb (Qs h2) (Qb (jEj a) QA))
def Kq (n:Nat)  : Option (Int) :=
 some 0
theorem Qak {n:Nat}  {r:Int}(h:Kq n =some r):Computes cx 26 [B false,I 13] (I r):=by unfold Kq at h;obtain rfl:=oi h;exact rf [.no] QA
def Zi (x:Int):D:=I x
def V5 (d:D):Option (Int):=YZ .i64 d
theorem QM {d:D}{x:Int}(h:V5 d=some x):d=Zi x:=Vj h
def Q6 (n:Nat)(a0:jVj)(b:Int):Option (Int⊕Int⊕Unit) := if b<((a0).length:Int) then(el V5 a0 b).bind fun a=>if a=0 then if Qg (b+1) then some (.inl (b+1)) else none else some (.inr (.inl a)) else some (.inr (.inr ()))
noncomputable def XU (a0:jVj):Lp (Int) (Int⊕Unit):=⟨fun a=>[(5,.d (.lst false 1 a0)),(6,.d (I ((a0).length:Int))),(7,.d (I a))],fun _=>[],fun
 | (.inl e)=>.ret
 | (.inr e)=>(.exit 0),fun
 | (.inl e)=>[(2,.d (I e))]
 | (.inr e)=>[],fun _=>[]⟩
theorem XM {n a0}(c)(r)(h:Q6 n a0 c=some r):Rl (Zt cx.P 25 0) 15 0 false (XU a0) c r:=by
 unfold Q6 at h;obtain⟨a,h⟩|⟨a,h⟩:=io h
 ·have⟨ta2,ha2,h⟩:=bo h;have q:=Q2 QM ha2 (Qb (jDj a) QA);obtain⟨b,h⟩|⟨b,h⟩:=io h
  ·have⟨ha4,h⟩:=gd h;cases h;exact rn 4 [b1,.el (Zi ta2),b0] [] [5,6,7] [] (Qb ha4 (Qb (nef b) q))
  cases h;exact rx 4 [b1,.el (Zi ta2),b1] [] [2] [] (Qb (net b) q)
 cases h;exact rx 4 [b0] [] [] [] (Qb (jEj a) QA)
def Qi (n:Nat)(a0:jVj):Option (Int) := (QU (Q6 n a0) n 0).bind fun t1=>match t1 with|.inl t1=>(some t1)|.inr t1=>(some 0)
theorem Qv {n a0 r}(h:Qi n a0=some r):Computes cx 25 [.lst false 1 a0] (I r):=by
 unfold Qi at h;have⟨t1,h1,h⟩:=bo h;obtain t1|t1:=t1
 ·obtain rfl:=oi h;exact rf [.lp [] [5,6,7] [] .ret [(2,.d (I t1))] [] 23] (Qb (QE XM h1) QA)
 obtain rfl:=oi h;exact rf [.lp [] [5,6,7] [] (.exit 0) [] [] 23] (Qb (QE XM h1) QA)
def Wj (x:jSj):D:=Qe x
def Vg (d:D):Option (jSj):=JY d
theorem Zb {d:D}{x:jSj}(h:Vg d=some x):d=Wj x:=UM h
def WI (n:Nat)(a0:jSj)(a:Nat):Option (Nat⊕Unit⊕Unit) := if a<a0.size then if((Utf8.decode a0 a).1:Int)>=97 then if((Utf8.decode a0 a).1:Int)<=122 then some (.inl (a+(Utf8.decode a0 a).2)) else if((Utf8.decode a0 a).1:Int)>=65 then if((Utf8.decode a0 a).1:Int)<=90 then some (.inl (a+(Utf8.decode a0 a).2)) else if((a:Nat):Int)=0 then some (.inr (.inl ())) else if((Utf8.decode a0 a).1:Int)=95 then some (.inl (a+(Utf8.decode a0 a).2)) else if((Utf8.decode a0 a).1:Int)<48 then some (.inr (.inl ())) else if((Utf8.decode a0 a).1:Int)>57 then some (.inr (.inl ())) else some (.inl (a+(Utf8.decode a0 a).2)) else if((a:Nat):Int)=0 then some (.inr (.inl ())) else if((Utf8.decode a0 a).1:Int)=95 then some (.inl (a+(Utf8.decode a0 a).2)) else if((Utf8.decode a0 a).1:Int)<48 then some (.inr (.inl ())) else if((Utf8.decode a0 a).1:Int)>57 then some (.inr (.inl ())) else some (.inl (a+(Utf8.decode a0 a).2)) else if((Utf8.decode a0 a).1:Int)>=65 then if((Utf8.decode a0 a).1:Int)<=90 then some (.inl (a+(Utf8.decode a0 a).2)) else if((a:Nat):Int)=0 then some (.inr (.inl ())) else if((Utf8.decode a0 a).1:Int)=95 then some (.inl (a+(Utf8.decode a0 a).2)) else if((Utf8.decode a0 a).1:Int)<48 then some (.inr (.inl ())) else if((Utf8.decode a0 a).1:Int)>57 then some (.inr (.inl ())) else some (.inl (a+(Utf8.decode a0 a).2)) else if((a:Nat):Int)=0 then some (.inr (.inl ())) else if((Utf8.decode a0 a).1:Int)=95 then some (.inl (a+(Utf8.decode a0 a).2)) else if((Utf8.decode a0 a).1:Int)<48 then some (.inr (.inl ())) else if((Utf8.decode a0 a).1:Int)>57 then some (.inr (.inl ())) else some (.inl (a+(Utf8.decode a0 a).2)) else some (.inr (.inr ()))
noncomputable def jp (a0:jSj):Lp (Nat) (Unit⊕Unit):=⟨fun _=>[(0,.d (Qe a0)),(7,.own 2 0)],fun a=>[(2,.it (.str a0) a)],fun
 | (.inl e)=>.ret
 | (.inr e)=>(.exit 0),fun
 | (.inl e)=>[(2,.d (B false))]
 | (.inr e)=>[(0,.d (Qe a0))],fun _=>[]⟩
theorem G4 {n a0}(k)(r)(h:WI n a0 k=some r):Rl (Zt cx.P 128 0) 51 0 false (jp a0) k r:=by
 unfold WI at h;obtain⟨g,h⟩|⟨g,h⟩:=io h
 ·have q:=Qb g QA;let o(l:jOj):=b1::.no::l;obtain⟨i,h⟩|⟨i,h⟩:=io h
  ·have q:=Qb (jDj i) q;let o l:=o (b1::l);obtain⟨f,h⟩|⟨f,h⟩:=io h
   ·cases h;exact rn 3 (o [b1,.no,.no]) [] [0,7] [2] (Qb (jDj f) q)
   have q:=Qb (jEj f) q;let o l:=o (b0::l);obtain⟨d,h⟩|⟨d,h⟩:=io h
   ·have q:=Qb (jDj d) q;let o l:=o (b1::l);obtain⟨a,h⟩|⟨a,h⟩:=io h
    ·cases h;exact rn 3 (o [b0,.no]) [] [0,7] [2] (Qb (zV (jDj a)) q)
    have q:=Qb (wG (jEj a)) q;let o l:=o (b1::l);obtain⟨b,h⟩|⟨b,h⟩:=io h
    ·cases h;exact rx 3 (o [b1,.no]) [] [2] [] (Qb (eqt b) q)
    have q:=Qb (eqf b) q;obtain⟨c,h⟩|⟨c,h⟩:=io h
    ·cases h;exact rn 3 (o [b0,b0,.no]) [] [0,7] [2] (Qb (nef c) q)
    have q:=Qb (net c) q;let o l:=o (b0::b1::l);obtain⟨e,h⟩|⟨e,h⟩:=io h
    ·cases h;exact rx 3 (o [b1,.no]) [] [2] [] (Qb (jDj e) q)
    have q:=Qb (jEj e) q;obtain⟨j,h⟩|⟨j,h⟩:=io h
    ·cases h;exact rx 3 (o [b0,b1]) [] [2] [] (Qb (jDj j) q)
    cases h;exact rn 3 (o [b0,b0]) [] [0,7] [2] (Qb (jEj j) q)
   have q:=Qb (jEj d) q;let o l:=o (b0::.no::l);obtain⟨a,h⟩|⟨a,h⟩:=io h
   ·cases h;exact rx 3 (o [b1,.no]) [] [2] [] (Qb (eqt a) q)
   have q:=Qb (eqf a) q;obtain⟨b,h⟩|⟨b,h⟩:=io h
   ·cases h;exact rn 3 (o [b0,b0,.no]) [] [0,7] [2] (Qb (nef b) q)
   have q:=Qb (net b) q;let o l:=o (b0::b1::l);obtain⟨c,h⟩|⟨c,h⟩:=io h
   ·cases h;exact rx 3 (o [b1,.no]) [] [2] [] (Qb (jDj c) q)
   have q:=Qb (jEj c) q;obtain⟨e,h⟩|⟨e,h⟩:=io h
   ·cases h;exact rx 3 (o [b0,b1]) [] [2] [] (Qb (jDj e) q)
   cases h;exact rn 3 (o [b0,b0]) [] [0,7] [2] (Qb (jEj e) q)
  have q:=Qb (jEj i) q;let o l:=o (b0::.no::l);obtain⟨f,h⟩|⟨f,h⟩:=io h
  ·have q:=Qb (jDj f) q;let o l:=o (b1::l);obtain⟨d,h⟩|⟨d,h⟩:=io h
   ·cases h;exact rn 3 (o [b0,.no]) [] [0,7] [2] (Qb (zV (jDj d)) q)
   have q:=Qb (wG (jEj d)) q;let o l:=o (b1::l);obtain⟨a,h⟩|⟨a,h⟩:=io h
   ·cases h;exact rx 3 (o [b1,.no]) [] [2] [] (Qb (eqt a) q)
   have q:=Qb (eqf a) q;obtain⟨b,h⟩|⟨b,h⟩:=io h
   ·cases h;exact rn 3 (o [b0,b0,.no]) [] [0,7] [2] (Qb (nef b) q)
   have q:=Qb (net b) q;let o l:=o (b0::b1::l);obtain⟨c,h⟩|⟨c,h⟩:=io h
   ·cases h;exact rx 3 (o [b1,.no]) [] [2] [] (Qb (jDj c) q)
   have q:=Qb (jEj c) q;obtain⟨e,h⟩|⟨e,h⟩:=io h
   ·cases h;exact rx 3 (o [b0,b1]) [] [2] [] (Qb (jDj e) q)
   cases h;exact rn 3 (o [b0,b0]) [] [0,7] [2] (Qb (jEj e) q)
  have q:=Qb (jEj f) q;let o l:=o (b0::.no::l);obtain⟨d,h⟩|⟨d,h⟩:=io h
  ·cases h;exact rx 3 (o [b1,.no]) [] [2] [] (Qb (eqt d) q)
  have q:=Qb (eqf d) q;obtain⟨a,h⟩|⟨a,h⟩:=io h
  ·cases h;exact rn 3 (o [b0,b0,.no]) [] [0,7] [2] (Qb (nef a) q)
  have q:=Qb (net a) q;let o l:=o (b0::b1::l);obtain⟨b,h⟩|⟨b,h⟩:=io h
  ·cases h;exact rx 3 (o [b1,.no]) [] [2] [] (Qb (jDj b) q)
  have q:=Qb (jEj b) q;obtain⟨c,h⟩|⟨c,h⟩:=io h
  ·cases h;exact rx 3 (o [b0,b1]) [] [2] [] (Qb (jDj c) q)
  cases h;exact rn 3 (o [b0,b0]) [] [0,7] [2] (Qb (jEj c) q)
 cases h;exact rx 3 [b0,.no] [] [0] [] (Qb g QA)
def Ua (n:Nat)(a0:jSj):Option (Bool) := (QU (WI n a0) n 0).bind fun t1=>match t1 with|.inl t1=>(some false)|.inr t1=>(if(!(a0.toList==(⟨#[]⟩:jSj).toList))=true then some (decide ((a0.size:Int)<=24)) else some false)
theorem Qal {n a0 r}(h:Ua n a0=some r):Computes cx 128 [Qe a0] (B r):=by
 unfold Ua at h;have⟨t1,h1,h⟩:=bo h;obtain t1|t1:=t1
 ·obtain rfl:=oi h;exact rf [.lp [] [0,7] [2] .ret [(2,.d (B false))] [] 54] (Qb (QE G4 h1) QA)
 have q:=Qb (QE G4 h1) QA;let o(l:jOj):=.lp [] [0,7] [2] (.exit 0) [(0,.d (Qe a0))] [] 54::l;obtain⟨a,h⟩|⟨a,h⟩:=io h
 ·cases h;exact rf (o [b1]) (Qb a q)
 obtain rfl:=oi h;exact rf (o [b0]) (Qb (Zy a) q)
def V4 (n:Nat)(a0:jSj):Option (Int) := (Ua n a0).bind fun t1=>(Qm n (!t1) 8).bind fun t2=>some t2
theorem EG {n a0 r}(h:V4 n a0=some r):Computes cx 127 [Qe a0] (I r):=by unfold V4 at h;have⟨t1,h1,h⟩:=bo h;have⟨t2,h2,h⟩:=bo h;obtain rfl:=oi h;exact rf [.ret (B t1),.ret (I t2)] (Qb (Qs h2) (Qb (Qal h1) QA))
def Ve (n:Nat)(a0:jVj)(a:(Int×jVj)):Option (Int×jVj⊕jVj) := if a.1<((a0).length:Int) then(el Vg a0 a.1).bind fun b=>(V4 n b).bind fun c=>if Wi 8 ((a.2).length+1) then if Qg (a.1+1) then some (.inl ((a.1+1),(a.2++([I c]:jVj)))) else none else none else some (.inr a.2)
noncomputable def zw (a0:jVj):Lp (Int×jVj) (jVj):=⟨fun a=>[(1,.d (.fn (.func 127) [] [])),(5,.own 5 0),(8,.d (.lst false 1 a0)),(9,.d (I ((a0).length:Int))),(10,.d (I a.1))],fun a=>[(5,.row 0 1 a.2)],fun _=>(.exit 0),fun _=>[(5,.own 5 0)],fun e=>[(5,.row 0 1 e)]⟩
theorem zq {n a0}(b)(r)(h:Ve n a0 b=some r):Rl (Zt cx.P 126 0) 22 0 false (zw a0) b r:=by
 unfold Ve at h;obtain⟨a,h⟩|⟨a,h⟩:=io h
 ·have⟨ta2,ha2,h⟩:=bo h;have⟨ta3,ha3,h⟩:=bo h;have⟨ha4,h⟩:=gd h;have⟨ha5,h⟩:=gd h;cases h;exact rn 6 [b1,.el (Wj ta2),.ret (I ta3),b1] [] [1,5,8,9,10] [5] (Qb ha5 (Qb (ro 34 ha4) (Qb (EG ha3) (Q2 Zb ha2 (Qb (jDj a) QA)))))
 cases h;exact rx 6 [b0] [] [5] [5] (Qb (jEj a) QA)
def Wz (n:Nat)(a0:jVj):Option (jVj) := (QU (Ve n a0) n (0,[])).bind fun t1=>some t1
theorem Ul {n a0 r}(h:Wz n a0=some r):Computes cx 126 [.lst false 1 a0,.fn (.func 127) [] []] (.lst false 1 r):=by unfold Wz at h;have⟨t1,h1,h⟩:=bo h;obtain rfl:=oi h;exact rf [.lp [5,1] [1,5,8,9,10] [5] (.exit 0) [(5,.own 5 0)] [(5,.row 0 1 t1)] 30] (Qb (QE zq h1) QA)
def V3 (n:Nat)(a0:Int):Option (Int) := (ZJ n a0 0 999999999).bind fun t1=>some t1
theorem EF {n a0 r}(h:V3 n a0=some r):Computes cx 130 [I a0] (I r):=by unfold V3 at h;have⟨t1,h1,h⟩:=bo h;obtain rfl:=oi h;exact rf [.ret (I t1)] (Qb (Va h1) QA)
def WL (n:Nat)(a0:jVj)(a:(Int×jVj)):Option (Int×jVj⊕jVj) := if a.1<((a0).length:Int) then(el V5 a0 a.1).bind fun b=>(V3 n b).bind fun c=>if Wi 8 ((a.2).length+1) then if Qg (a.1+1) then some (.inl ((a.1+1),(a.2++([I c]:jVj)))) else none else none else some (.inr a.2)
noncomputable def ES (a0:jVj):Lp (Int×jVj) (jVj):=⟨fun a=>[(1,.d (.fn (.func 130) [] [])),(5,.own 5 0),(8,.d (.lst false 1 a0)),(9,.d (I ((a0).length:Int))),(10,.d (I a.1))],fun a=>[(5,.row 0 1 a.2)],fun _=>(.exit 0),fun _=>[(5,.own 5 0)],fun e=>[(5,.row 0 1 e)]⟩
theorem EM {n a0}(b)(r)(h:WL n a0 b=some r):Rl (Zt cx.P 129 0) 22 0 false (ES a0) b r:=by
 unfold WL at h;obtain⟨a,h⟩|⟨a,h⟩:=io h
 ·have⟨ta2,ha2,h⟩:=bo h;have⟨ta3,ha3,h⟩:=bo h;have⟨ha4,h⟩:=gd h;have⟨ha5,h⟩:=gd h;cases h;exact rn 6 [b1,.el (Zi ta2),.ret (I ta3),b1] [] [1,5,8,9,10] [5] (Qb ha5 (Qb (ro 34 ha4) (Qb (EF ha3) (Q2 QM ha2 (Qb (jDj a) QA)))))
 cases h;exact rx 6 [b0] [] [5] [5] (Qb (jEj a) QA)
def Z0 (n:Nat)(a0:jVj):Option (jVj) := (QU (WL n a0) n (0,[])).bind fun t1=>some t1
theorem YF {n a0 r}(h:Z0 n a0=some r):Computes cx 129 [.lst false 1 a0,.fn (.func 130) [] []] (.lst false 1 r):=by unfold Z0 at h;have⟨t1,h1,h⟩:=bo h;obtain rfl:=oi h;exact rf [.lp [5,1] [1,5,8,9,10] [5] (.exit 0) [(5,.own 5 0)] [(5,.row 0 1 t1)] 30] (Qb (QE EM h1) QA)
def Yt (n:Nat)  : Option (Int) :=
 some 2
theorem ql {n:Nat}  {r:Int}(h:Yt n =some r):Computes cx 26 [B true,I 2] (I r):=by unfold Yt at h;obtain rfl:=oi h;exact rf [.no] QA
def Kp (n:Nat)  : Option (Int) :=
 some 13
theorem Qaj {n:Nat}  {r:Int}(h:Kp n =some r):Computes cx 26 [B true,I 13] (I r):=by unfold Kp at h;obtain rfl:=oi h;exact rf [.no] QA
def Wv (n:Nat)(a0:Int)(p:jSj)(h i:jVj)(l:jSj):Option (Int) := if(W5 (.string p) GB).isSome=true then((W5 (.string p) GB).bind Kt).bind fun t2=>(ZJ n a0 1 1000).bind fun j=>(Kq n).bind fun t4=>if((h).length:Int)=(t2.1.size:Int) then(Qm n (((i).length:Int) != t2.2.1) 2).bind fun e=>(Qi n ([I j,I t4,I e])).bind fun k=>if k=0 then(Wz n h).bind fun g=>(Qi n g).bind fun a=>(Z0 n i).bind fun b=>(Qi n b).bind fun c=>(Qm n (!(l.toList==(⟨#[]⟩:jSj).toList)) 1).bind fun d=>(Qi n ([I a,I c,I d])).bind fun f=>some f else some k else(Yt n).bind fun e=>(Qi n ([I j,I t4,I e])).bind fun k=>if k=0 then(Wz n h).bind fun g=>(Qi n g).bind fun a=>(Z0 n i).bind fun b=>(Qi n b).bind fun c=>(Qm n (!(l.toList==(⟨#[]⟩:jSj).toList)) 1).bind fun d=>(Qi n ([I a,I c,I d])).bind fun f=>some f else some k else(ZJ n a0 1 1000).bind fun t2=>(Kp n).bind fun j=>if((h).length:Int)=0 then(Qm n (((i).length:Int) != 0) 2).bind fun m=>(Qi n ([I t2,I j,I m])).bind fun e=>if e=0 then(Wz n h).bind fun o=>(Qi n o).bind fun g=>(Z0 n i).bind fun a=>(Qi n a).bind fun b=>(Qm n (!(l.toList==(⟨#[]⟩:jSj).toList)) 1).bind fun c=>(Qi n ([I g,I b,I c])).bind fun d=>some d else some e else(Yt n).bind fun m=>(Qi n ([I t2,I j,I m])).bind fun e=>if e=0 then(Wz n h).bind fun o=>(Qi n o).bind fun g=>(Z0 n i).bind fun a=>(Qi n a).bind fun b=>(Qm n (!(l.toList==(⟨#[]⟩:jSj).toList)) 1).bind fun c=>(Qi n ([I g,I b,I c])).bind fun d=>some d else some e
theorem UI {n a0 e f g i r}(h:Wv n a0 e f g i=some r):Computes cx 32 [.agg [I a0,Qe e,.lst false 1 f,.lst false 1 g,Qe i]] (I r):=by
 unfold Wv at h;let o(l:jOj):=b1::(no 28 l);obtain⟨j,h⟩|⟨j,h⟩:=io h
 ·have⟨t2,h2,h⟩:=bo h;have⟨t3,h3,h⟩:=bo h;have⟨t4,d,h⟩:=bo h;have q:=Qb (Qak d) (Qb (Va h3) (Qb ((qU (by kernel_rfl) (Qch XW h2)):YX true (.string e) (.agg [Qe ⟨#[]⟩,I 0,.v (.nilFunc),.v (.nilFunc)]) GB=some (.tup [.agg [Qe t2.1,I t2.2.1,.fn t2.2.2.1.1 t2.2.2.1.2.1 t2.2.2.1.2.2,.fn t2.2.2.2.1 t2.2.2.2.2.1 t2.2.2.2.2.2],B true])) QA));let o l:=o (.el (.tup [.agg [Qe t2.1,I t2.2.1,.fn t2.2.2.1.1 t2.2.2.1.2.1 t2.2.2.1.2.2,.fn t2.2.2.2.1 t2.2.2.2.2.1 t2.2.2.2.2.2],B true])::.ret (I t3)::.ret (I t4)::l);obtain⟨c,h⟩|⟨c,h⟩:=io h
  ·have⟨t6,h6,h⟩:=bo h;have⟨t7,a,h⟩:=bo h;have q:=Qb (leF (Qv a)) (Qb (Qs h6) (Qb (nef c) q));let o l:=o (b0::.ret (I t6)::.ret (I t7)::l);obtain⟨b,h⟩|⟨b,h⟩:=io h
   ·have⟨t9,h9,h⟩:=bo h;have⟨t10,h10,h⟩:=bo h;have⟨t11,h11,h⟩:=bo h;have⟨t12,h12,h⟩:=bo h;have⟨t13,h13,h⟩:=bo h;have⟨t14,h14,h⟩:=bo h;obtain rfl:=oi h;exact rf (o [b0,.ret (.lst false 1 t9),.ret (I t10),.ret (.lst false 1 t11),.ret (I t12),.ret (I t13),.ret (I t14)]) (Qb (leF (Qv h14)) (Qb (Qs h13) (Qb (Qv h12) (Qb (YF h11) (Qb (Qv h10) (Qb (Ul h9) (Qb (nef b) q)))))))
   obtain rfl:=oi h;exact rf (o [b1]) (Qb (net b) q)
  have⟨t6,h6,h⟩:=bo h;have⟨t7,a,h⟩:=bo h;have q:=Qb (leF (Qv a)) (Qb (ql h6) (Qb (net c) q));let o l:=o (b1::.ret (I t6)::.ret (I t7)::l);obtain⟨b,h⟩|⟨b,h⟩:=io h
  ·have⟨t9,h9,h⟩:=bo h;have⟨t10,h10,h⟩:=bo h;have⟨t11,h11,h⟩:=bo h;have⟨t12,h12,h⟩:=bo h;have⟨t13,h13,h⟩:=bo h;have⟨t14,h14,h⟩:=bo h;obtain rfl:=oi h;exact rf (o [b0,.ret (.lst false 1 t9),.ret (I t10),.ret (.lst false 1 t11),.ret (I t12),.ret (I t13),.ret (I t14)]) (Qb (leF (Qv h14)) (Qb (Qs h13) (Qb (Qv h12) (Qb (YF h11) (Qb (Qv h10) (Qb (Ul h9) (Qb (nef b) q)))))))
  obtain rfl:=oi h;exact rf (o [b1]) (Qb (net b) q)
 have⟨t2,h2,h⟩:=bo h;have⟨t3,h3,h⟩:=bo h;have q:=Qb (Qaj h3) (Qb (Va h2) (Qb ((Gb (by kernel_rfl) (mno j)):YX true (.string e) (.agg [Qe ⟨#[]⟩,I 0,.v (.nilFunc),.v (.nilFunc)]) GB=some (.tup [.agg [Qe ⟨#[]⟩,I 0,.v (.nilFunc),.v (.nilFunc)],B false])) QA));let o l:=o (.el (.tup [.agg [Qe ⟨#[]⟩,I 0,.v (.nilFunc),.v (.nilFunc)],B false])::.ret (I t2)::.ret (I t3)::l);obtain⟨d,h⟩|⟨d,h⟩:=io h
 ·have⟨t5,c,h⟩:=bo h;have⟨t6,h6,h⟩:=bo h;have q:=Qb (leF (Qv h6)) (Qb (Qs c) (Qb (nef d) q));let o l:=o (b0::.ret (I t5)::.ret (I t6)::l);obtain⟨a,h⟩|⟨a,h⟩:=io h
  ·have⟨t8,b,h⟩:=bo h;have⟨t9,h9,h⟩:=bo h;have⟨t10,h10,h⟩:=bo h;have⟨t11,h11,h⟩:=bo h;have⟨t12,h12,h⟩:=bo h;have⟨t13,h13,h⟩:=bo h;obtain rfl:=oi h;exact rf (o [b0,.ret (.lst false 1 t8),.ret (I t9),.ret (.lst false 1 t10),.ret (I t11),.ret (I t12),.ret (I t13)]) (Qb (leF (Qv h13)) (Qb (Qs h12) (Qb (Qv h11) (Qb (YF h10) (Qb (Qv h9) (Qb (Ul b) (Qb (nef a) q)))))))
  obtain rfl:=oi h;exact rf (o [b1]) (Qb (net a) q)
 have⟨t5,c,h⟩:=bo h;have⟨t6,h6,h⟩:=bo h;have q:=Qb (leF (Qv h6)) (Qb (ql c) (Qb (net d) q));let o l:=o (b1::.ret (I t5)::.ret (I t6)::l);obtain⟨a,h⟩|⟨a,h⟩:=io h
 ·have⟨t8,b,h⟩:=bo h;have⟨t9,h9,h⟩:=bo h;have⟨t10,h10,h⟩:=bo h;have⟨t11,h11,h⟩:=bo h;have⟨t12,h12,h⟩:=bo h;have⟨t13,h13,h⟩:=bo h;obtain rfl:=oi h;exact rf (o [b0,.ret (.lst false 1 t8),.ret (I t9),.ret (.lst false 1 t10),.ret (I t11),.ret (I t12),.ret (I t13)]) (Qb (leF (Qv h13)) (Qb (Qs h12) (Qb (Qv h11) (Qb (YF h10) (Qb (Qv h9) (Qb (Ul b) (Qb (nef a) q)))))))
 obtain rfl:=oi h;exact rf (o [b1]) (Qb (net a) q)
def VQ (x:Int×jSj×jVj×jVj×jSj):D:=.agg [I x.1,Qe x.2.1,.lst false 1 x.2.2.1,.lst false 1 x.2.2.2.1,Qe x.2.2.2.2]
def Wc:D->Option (Int×jSj×jVj×jVj×jSj)
 | .agg [c0,c1,c2,c3,c4]=>(YZ .i64 c0).bind fun a=>(JY c1).bind fun b=>(jt 1 c2).bind fun c=>(jt 1 c3).bind fun d=>(JY c4).bind fun e=>some (a,b,c,d,e)
 | _=>none
theorem V6 {d:D}{x:Int×jSj×jVj×jVj×jSj}(h:Wc d=some x):d=VQ x:=by
 unfold Wc at h;split at h;case h_2=>cases h
 obtain⟨m,g,h⟩:=Wh h;obtain⟨n,i,h⟩:=Wh h;obtain⟨o,j,h⟩:=Wh h;obtain⟨p,k,h⟩:=Wh h;obtain⟨q,l,h⟩:=Wh h;cases h;have a:=Vj g;have b:=UM i;have c:=qK j;have e:=qK k;have f:=UM l;rw[a,b,c,e,f];rfl
def Ko (n:Nat)  : Option (Int) :=
 some 21
theorem Qai {n:Nat}  {r:Int}(h:Ko n =some r):Computes cx 26 [B true,I 21] (I r):=by unfold Ko at h;obtain rfl:=oi h;exact rf [.no] QA
theorem mk1 (c:jSj)(r:D){k:jSj}{l:List UInt8}(h:k.data.toList=l)(hc:c.data.toList=l:=by rfl)(a:YX false (.string c) (.agg [Qe ⟨#[]⟩,I 0,.v (.nilFunc),.v (.nilFunc)]) GB=some r:=by kernel_rfl):YX false (.string k) (.agg [Qe ⟨#[]⟩,I 0,.v (.nilFunc),.v (.nilFunc)]) GB=some r:=QdG h hc a
def QF (x:jSj×jSj×Int×Int×Bool×Bool):D:=.agg [Qe x.1,Qe x.2.1,I x.2.2.1,I x.2.2.2.1,B x.2.2.2.2.1,B x.2.2.2.2.2]
def QV:D->Option (jSj×jSj×Int×Int×Bool×Bool)
 | .agg [c0,c1,c2,c3,c4,c5]=>(JY c0).bind fun a=>(JY c1).bind fun b=>(YZ .i64 c2).bind fun c=>(YZ .i64 c3).bind fun d=>(wv c4).bind fun e=>(wv c5).bind fun f=>some (a,b,c,d,e,f)
 | _=>none
theorem QB {d:D}{x:jSj×jSj×Int×Int×Bool×Bool}(h:QV d=some x):d=QF x:=by
 unfold QV at h;split at h;case h_2=>cases h
 obtain⟨o,i,h⟩:=Wh h;obtain⟨p,j,h⟩:=Wh h;obtain⟨q,k,h⟩:=Wh h;obtain⟨r,l,h⟩:=Wh h;obtain⟨s,m,h⟩:=Wh h;obtain⟨t,n,h⟩:=Wh h;cases h;have a:=UM i;have b:=UM j;have c:=Vj k;have e:=Vj l;have f:=zH m;have g:=zH n;rw[a,b,c,e,f,g];rfl
def Z5 (n:Nat)(a0 f:jVj)(g d:Int)(h i:Bool)(j k l:Int)(m c e:jVj)(b:(Int×Int)):Option (Int×Int⊕Int) := if b.1<((c).length:Int) then if 0<=b.1/\b.1<((c).length:Int) then((nth (c) (Int.toNat b.1)).bind QV).bind fun a=>if a.2.2.2.2.2=true then if Qg (1000 - a.2.2.2.1) then if Qg (a.2.2.1*(1000 - a.2.2.2.1)) then if Qg ((a.2.2.1*(1000 - a.2.2.2.1))*d) then if Qg (b.2+((a.2.2.1*(1000 - a.2.2.2.1))*d)) then if Qg (b.1+1) then some (.inl ((b.1+1),(b.2+((a.2.2.1*(1000 - a.2.2.2.1))*d)))) else none else none else none else none else none else if Qg (b.1+1) then some (.inl ((b.1+1),b.2)) else none else none else some (.inr b.2)
noncomputable def Xf (a0 f:jVj)(g h:Int)(i j:Bool)(k l m:Int)(n a b:jVj):Lp (Int×Int) (Int):=⟨fun c=>[(0,.own 23 0),(8,.own 11 0),(9,.d (I ((a).length:Int))),(10,.d (I c.1))],fun c=>[(0,.box (.agg [.own 1 0,.own 2 0,.d (I g),.d (I h),.d (B i),.d (B j),.d (I k),.d (I l),.d (I m),.own 10 0,.own 11 0,.own 12 0])),(1,.row 0 5 a0),(2,.row 0 5 f),(10,.row 0 1 n),(11,.row 0 6 a),(12,.row 0 7 b),(13,.box (.ptr 0 0 0 0 2)),(15,.box (.d (I c.2))),(19,.box (.ptr 0 0 0 0 2)),(23,.loop true [(6,.fn (.func 153) [] [.ptr 19 0 0 0 0]),(5,.ptr 0 0 0 0 2),(3,.ptr 15 0 0 0 0),(2,.d (I 0)),(1,.ptr 13 0 0 0 0),(0,.ptr 0 0 0 0 2)] [7] (Z3 cx.P 63 0).1 (Z3 cx.P 63 0).2 22)],fun _=>(.exit 0),fun _=>[],fun e=>[(0,.box (.agg [.own 1 0,.own 2 0,.d (I g),.d (I h),.d (B i),.d (B j),.d (I k),.d (I l),.d (I m),.own 10 0,.own 11 0,.own 12 0])),(1,.row 0 5 a0),(2,.row 0 5 f),(10,.row 0 1 n),(11,.row 0 6 a),(12,.row 0 7 b),(13,.box (.ptr 0 0 0 0 2)),(15,.box (.d (I e))),(19,.box (.ptr 0 0 0 0 2)),(23,.loop true [(6,.fn (.func 153) [] [.ptr 19 0 0 0 0]),(5,.ptr 0 0 0 0 2),(3,.ptr 15 0 0 0 0),(2,.d (I 0)),(1,.ptr 13 0 0 0 0),(0,.ptr 0 0 0 0 2)] [7] (Z3 cx.P 63 0).1 (Z3 cx.P 63 0).2 22)]⟩
theorem Xc {n a0 e f g i j k m p s c d}(t)(r)(h:Z5 n a0 e f g i j k m p s c d t=some r):Rl (Zt cx.P 153 0) 23 24 false (Xf a0 e f g i j k m p s c d) t r:=by
 unfold Z5 at h;obtain⟨a,h⟩|⟨a,h⟩:=io h
 ·have⟨ha2,h⟩:=gd h;have⟨ta3,ha3,h⟩:=bo h;have q:=Qb (Q0 QB ha3) (Qb ha2 (Qb (jDj a) QA));let o(l:jOj):=b1::b1::.el (QF ta3)::l;obtain⟨b,h⟩|⟨b,h⟩:=io h
  ·have⟨ha5,h⟩:=gd h;have⟨ha6,h⟩:=gd h;have⟨ha7,h⟩:=gd h;have⟨ha8,h⟩:=gd h;have⟨ha9,h⟩:=gd h;cases h;exact rn 30 (o [b1,.no]) [] [0,8,9,10] [0,1,2,10,11,12,13,15,19,23] (Qb ha9 (Qb ha8 (Qb ha7 (Qb ha6 (Qb ha5 (Qb b q))))))
  have⟨ha5,h⟩:=gd h;cases h;exact rn 30 (o [b0,.no]) [] [0,8,9,10] [0,1,2,10,11,12,13,15,19,23] (Qb ha5 (Qb (Zy b) q))
 cases h;exact rx 30 [b0] [] [] [0,1,2,10,11,12,13,15,19,23] (Qb (jEj a) QA)
def WM (n:Nat)(a0 c:jVj)(d e:Int)(f g:Bool)(h i j:Int)(k a b:jVj):Option (Int) := (QU (Z5 n a0 c d e f g h i j k a b) n (0,0)).bind fun t1=>some t1
theorem Ks {n a0 c e f g i j k l m a b r}(h:WM n a0 c e f g i j k l m a b=some r):ComputesO cx 63 [.ptr 0 0 0 0 2] (some (Qa a0 c e f g i j k l m a b)) (.d (I r)) (Qa a0 c e f g i j k l m a b) Zj:=by unfold WM at h;have⟨t1,h1,h⟩:=bo h;obtain rfl:=oi h;exact rfO 0 [b1,.lp [] [0,8,9,10] [0,1,2,10,11,12,13,15,19,23] (.exit 0) [] [(0,.box (.agg [.own 1 0,.own 2 0,.d (I e),.d (I f),.d (B g),.d (B i),.d (I j),.d (I k),.d (I l),.own 10 0,.own 11 0,.own 12 0])),(1,.row 0 5 a0),(2,.row 0 5 c),(10,.row 0 1 m),(11,.row 0 6 a),(12,.row 0 7 b),(13,.box (.ptr 0 0 0 0 2)),(15,.box (.d (I t1))),(19,.box (.ptr 0 0 0 0 2)),(23,.loop true [(6,.fn (.func 153) [] [.ptr 19 0 0 0 0]),(5,.ptr 0 0 0 0 2),(3,.ptr 15 0 0 0 0),(2,.d (I 0)),(1,.ptr 13 0 0 0 0),(0,.ptr 0 0 0 0 2)] [7] (Z3 cx.P 63 0).1 (Z3 cx.P 63 0).2 22)] 72] (Qb (QE Xc h1) QA)
def Q9 (n:Nat)(a0:Int)(g h:jVj)(a i:Int)(j k:Bool)(e f l:Int)(b c d:jVj):Option (Int×Int) := (WM n g h a i j k e f l b c d).bind fun t1=>if Qg (a0 - a) then if Qg (t1*(a0 - a)) then if Qg (e+(t1*(a0 - a))) then if Qg (f+(t1*(a0 - a))) then some ((e+(t1*(a0 - a))),(f+(t1*(a0 - a)))) else none else none else none else none
theorem WT {n a0 e f g i j k l m o a b c r}(h:Q9 n a0 e f g i j k l m o a b c=some r):ComputesO cx 39 [.ptr 0 0 0 0 2,.d (I a0)] (some (Qa e f g i j k l m o a b c)) (.d (.agg [I r.1,I r.2])) (Qa e f g i j k l m o a b c) Zj:=by unfold Q9 at h;have⟨t1,h1,h⟩:=bo h;have⟨h2,h⟩:=gd h;have⟨h3,h⟩:=gd h;have⟨h4,h⟩:=gd h;have⟨h5,h⟩:=gd h;cases h;exact rfO 0 [.obj (some 0) (.d (I t1)) (Qa e f g i j k l m o a b c) Zj] (Qb h5 (Qb h4 (Qb h3 (Qb h2 (Qb (Ks h1) QA)))))
def Qn (n:Nat)(a0:Int)(d e:jVj)(f g:Int)(h i:Bool)(j k l:Int)(a b c:jVj):Option (Int) := (Q9 n a0 d e f g h i j k l a b c).bind fun t1=>(Qm n (!((t1.1==(Zv t1.1 1000000000000000))&&((t1.2==(Zv t1.2 1000000000000000))&&true))) 4).bind fun t2=>some t2
theorem Qu {n a0 e f g i j k l m o a b c r}(h:Qn n a0 e f g i j k l m o a b c=some r):ComputesO cx 38 [.ptr 0 0 0 0 2,.d (I a0)] (some (Qa e f g i j k l m o a b c)) (.d (I r)) (Qa e f g i j k l m o a b c) Zj:=by unfold Qn at h;have⟨t1,h1,h⟩:=bo h;have⟨t2,h2,h⟩:=bo h;obtain rfl:=oi h;exact rfO 0 [.obj (some 0) (.d (.agg [I t1.1,I t1.2])) (Qa e f g i j k l m o a b c) Zj,.ret (I t2)] (Qb (Qs h2) (Qb (WT h1) QA))
def WE (n:Nat)(a0:jVj)(c:jSj)(a:Int):Option (Int⊕Int⊕Unit) := if a<((a0).length:Int) then(el Vg a0 a).bind fun b=>if(c.toList==b.toList)=true then some (.inr (.inl a)) else if Qg (a+1) then some (.inl (a+1)) else none else some (.inr (.inr ()))
noncomputable def zr (a0:jVj)(a:jSj):Lp (Int) (Int⊕Unit):=⟨fun b=>[(0,.d (.lst false 1 a0)),(1,.d (Qe a)),(7,.d (I ((a0).length:Int))),(8,.d (I b))],fun _=>[],fun
 | (.inl e)=>.ret
 | (.inr e)=>(.exit 0),fun
 | (.inl e)=>[(4,.d (I e))]
 | (.inr e)=>[],fun _=>[]⟩
theorem Jr {n a0 c}(d)(r)(h:WE n a0 c d=some r):Rl (Zt cx.P 135 0) 19 0 false (zr a0 c) d r:=by
 unfold WE at h;obtain⟨a,h⟩|⟨a,h⟩:=io h
 ·have⟨ta2,ha2,h⟩:=bo h;have q:=Q2 Zb ha2 (Qb (jDj a) QA);obtain⟨b,h⟩|⟨b,h⟩:=io h
  ·cases h;exact rx 4 [b1,.el (Wj ta2),b1] [] [4] [] (Qb b q)
  have⟨ha4,h⟩:=gd h;cases h;exact rn 4 [b1,.el (Wj ta2),b0] [] [0,1,7,8] [] (Qb ha4 (Qb (Zy b) q))
 cases h;exact rx 4 [b0] [] [] [] (Qb (jEj a) QA)
def QC (n:Nat)(a0:jVj)(a:jSj):Option (Int) := (QU (WE n a0 a) n 0).bind fun t1=>match t1 with|.inl t1=>(some t1)|.inr t1=>(some (-1))
theorem QJ {n a0 a r}(h:QC n a0 a=some r):Computes cx 135 [.lst false 1 a0,Qe a] (I r):=by
 unfold QC at h;have⟨t1,h1,h⟩:=bo h;obtain t1|t1:=t1
 ·obtain rfl:=oi h;exact rf [.lp [] [0,1,7,8] [] .ret [(4,.d (I t1))] [] 26] (Qb (QE Jr h1) QA)
 cases h;exact rf [.lp [] [0,1,7,8] [] (.exit 0) [] [] 26] (Qb (QE Jr h1) QA)
def Zf (n:Nat)(a0:jVj)(a:jSj):Option (Bool) := (QC n a0 a).bind fun t1=>some (decide (t1>=0))
theorem Z7 {n a0 a r}(h:Zf n a0 a=some r):Computes cx 81 [.lst false 1 a0,Qe a] (B r):=by unfold Zf at h;have⟨t1,h1,h⟩:=bo h;cases h;exact rf [.ret (I t1)] (Qb (QJ h1) QA)
def QZ (n:Nat)(a0 a:jSj)(b c:Int)(d e:Bool):Option (jSj) := some a0
theorem Uq {n a0 a b c d e r}(h:QZ n a0 a b c d e=some r):Computes cx 155 [.agg [Qe a0,Qe a,I b,I c,B d,B e]] (Qe r):=by unfold QZ at h;obtain rfl:=oi h;exact rf [] QA
def Zr (x:jSj×Int×Int×Int×Int×Int×Bool):D:=.agg [Qe x.1,I x.2.1,I x.2.2.1,I x.2.2.2.1,I x.2.2.2.2.1,I x.2.2.2.2.2.1,B x.2.2.2.2.2.2]
def Z4:D->Option (jSj×Int×Int×Int×Int×Int×Bool)
 | .agg [c0,c1,c2,c3,c4,c5,c6]=>(JY c0).bind fun a=>(YZ .i64 c1).bind fun b=>(YZ .i64 c2).bind fun c=>(YZ .i64 c3).bind fun d=>(YZ .i64 c4).bind fun e=>(YZ .i64 c5).bind fun f=>(wv c6).bind fun g=>some (a,b,c,d,e,f,g)
 | _=>none
theorem Zg {d:D}{x:jSj×Int×Int×Int×Int×Int×Bool}(h:Z4 d=some x):d=Zr x:=by
 unfold Z4 at h;split at h;case h_2=>cases h
 obtain⟨q,j,h⟩:=Wh h;obtain⟨r,k,h⟩:=Wh h;obtain⟨s,l,h⟩:=Wh h;obtain⟨t,m,h⟩:=Wh h;obtain⟨u,n,h⟩:=Wh h;obtain⟨v,o,h⟩:=Wh h;obtain⟨y,p,h⟩:=Wh h;cases h;have a:=UM j;have b:=Vj k;have c:=Vj l;have e:=Vj m;have f:=Vj n;have g:=Vj o;have i:=zH p;rw[a,b,c,e,f,g,i];rfl
def ZT (n:Nat)(a0:jSj)(a b c d e:Int)(f:Bool):Option (jSj) := some a0
theorem Up {n a0 a b c d e f r}(h:ZT n a0 a b c d e f=some r):Computes cx 157 [.agg [Qe a0,I a,I b,I c,I d,I e,B f]] (Qe r):=by unfold ZT at h;obtain rfl:=oi h;exact rf [] QA
def ZV (n:Nat)(g h:jVj)(i j:Int)(k l:Bool)(m o p:Int)(e c f:jVj)(b:(Int×jVj)):Option (Int×jVj⊕jVj) := if b.1<((c).length:Int) then if 0<=b.1/\b.1<((c).length:Int) then((nth (c) (Int.toNat b.1)).bind QV).bind fun a=>(QZ n a.1 a.2.1 a.2.2.1 a.2.2.2.1 a.2.2.2.2.1 a.2.2.2.2.2).bind fun d=>if Wi 16 ((b.2).length+1) then if Qg (b.1+1) then some (.inl ((b.1+1),(b.2++([.v (.string d)]:jVj)))) else none else none else none else some (.inr b.2)
noncomputable def GJ (g h:jVj)(i j:Int)(k l:Bool)(m n o:Int)(b a c:jVj):Lp (Int×jVj) (jVj):=⟨fun f=>[(1,.d (.fn (.func 155) [] [])),(5,.own 30 0),(8,.own 11 0),(9,.d (I ((a).length:Int))),(10,.d (I f.1))],fun f=>[(0,.box (.agg [.own 1 0,.own 2 0,.d (I i),.d (I j),.d (B k),.d (B l),.d (I m),.d (I n),.d (I o),.own 10 0,.own 11 0,.own 12 0])),(1,.row 0 5 g),(2,.row 0 5 h),(10,.row 0 1 b),(11,.row 0 6 a),(12,.row 0 7 c),(30,.row 0 1 f.2)],fun _=>(.exit 0),fun _=>[(5,.own 30 0)],fun e=>[(0,.box (.agg [.own 1 0,.own 2 0,.d (I i),.d (I j),.d (B k),.d (B l),.d (I m),.d (I n),.d (I o),.own 10 0,.own 11 0,.own 12 0])),(1,.row 0 5 g),(2,.row 0 5 h),(10,.row 0 1 b),(11,.row 0 6 a),(12,.row 0 7 c),(30,.row 0 1 e)]⟩
theorem GF {n e f g i j k l m o b c d}(p)(r)(h:ZV n e f g i j k l m o b c d p=some r):Rl (Zt cx.P 65 0) 22 25 false (GJ e f g i j k l m o b c d) p r:=by
 unfold ZV at h;obtain⟨a,h⟩|⟨a,h⟩:=io h
 ·have⟨ha2,h⟩:=gd h;have⟨ta3,ha3,h⟩:=bo h;have⟨ta4,ha4,h⟩:=bo h;have⟨ha5,h⟩:=gd h;have⟨ha6,h⟩:=gd h;cases h;exact rn 31 [b1,b1,.el (QF ta3),.ret (Qe ta4),b1] [] [1,5,8,9,10] [0,1,2,10,11,12,30] (Qb ha6 (Qb (ro 9 ha5) (Qb (Uq ha4) (Qb (Q0 QB ha3) (Qb ha2 (Qb (jDj a) QA))))))
 cases h;exact rx 31 [b0] [] [5] [0,1,2,10,11,12,30] (Qb (jEj a) QA)
def ZU (n:Nat)(g h:jVj)(i j:Int)(k l:Bool)(m o p:Int)(e f c:jVj)(b:(Int×jVj)):Option (Int×jVj⊕jVj) := if b.1<((c).length:Int) then if 0<=b.1/\b.1<((c).length:Int) then((nth (c) (Int.toNat b.1)).bind Z4).bind fun a=>(ZT n a.1 a.2.1 a.2.2.1 a.2.2.2.1 a.2.2.2.2.1 a.2.2.2.2.2.1 a.2.2.2.2.2.2).bind fun d=>if Wi 16 ((b.2).length+1) then if Qg (b.1+1) then some (.inl ((b.1+1),(b.2++([.v (.string d)]:jVj)))) else none else none else none else some (.inr b.2)
noncomputable def GI (g h:jVj)(i j:Int)(k l:Bool)(m n o:Int)(b c a:jVj):Lp (Int×jVj) (jVj):=⟨fun f=>[(1,.d (.fn (.func 157) [] [])),(5,.own 30 0),(8,.own 12 0),(9,.d (I ((a).length:Int))),(10,.d (I f.1))],fun f=>[(0,.box (.agg [.own 1 0,.own 2 0,.d (I i),.d (I j),.d (B k),.d (B l),.d (I m),.d (I n),.d (I o),.own 10 0,.own 11 0,.own 12 0])),(1,.row 0 5 g),(2,.row 0 5 h),(10,.row 0 1 b),(11,.row 0 6 c),(12,.row 0 7 a),(30,.row 0 1 f.2)],fun _=>(.exit 0),fun _=>[(5,.own 30 0)],fun e=>[(0,.box (.agg [.own 1 0,.own 2 0,.d (I i),.d (I j),.d (B k),.d (B l),.d (I m),.d (I n),.d (I o),.own 10 0,.own 11 0,.own 12 0])),(1,.row 0 5 g),(2,.row 0 5 h),(10,.row 0 1 b),(11,.row 0 6 c),(12,.row 0 7 a),(30,.row 0 1 e)]⟩
theorem GE {n e f g i j k l m o b c d}(p)(r)(h:ZU n e f g i j k l m o b c d p=some r):Rl (Zt cx.P 156 0) 22 25 false (GI e f g i j k l m o b c d) p r:=by
 unfold ZU at h;obtain⟨a,h⟩|⟨a,h⟩:=io h
 ·have⟨ha2,h⟩:=gd h;have⟨ta3,ha3,h⟩:=bo h;have⟨ta4,ha4,h⟩:=bo h;have⟨ha5,h⟩:=gd h;have⟨ha6,h⟩:=gd h;cases h;exact rn 31 [b1,b1,.el (Zr ta3),.ret (Qe ta4),b1] [] [1,5,8,9,10] [0,1,2,10,11,12,30] (Qb ha6 (Qb (ro 9 ha5) (Qb (Up ha4) (Qb (Q0 Zg ha3) (Qb ha2 (Qb (jDj a) QA))))))
 cases h;exact rx 31 [b0] [] [5] [0,1,2,10,11,12,30] (Qb (jEj a) QA)
def Qt (n:Nat)(a0:Int)(e f:jVj)(g h:Int)(i j:Bool)(k l m:Int)(a b c:jVj):Option (jVj) := if a0=115 then none else if a0=109 then(QU (ZV n e f g h i j k l m a b c) n (0,[])).bind fun d=>some d else(QU (ZU n e f g h i j k l m a b c) n (0,[])).bind fun d=>some d
theorem Qz {n a0 e f g i j k l m o a b c r}(h:Qt n a0 e f g i j k l m o a b c=some r):ComputesO cx 82 [.ptr 0 0 0 0 2,.d (.v (.int .u8 a0))] (some (Qa e f g i j k l m o a b c)) (.d (.lst false 1 r)) (Qa e f g i j k l m o a b c) Zj:=by
 unfold Qt at h;obtain⟨s,h⟩|⟨s,h⟩:=io h
 ·cases h
 have q:=Qb (eqf s) QA;obtain⟨p,h⟩|⟨p,h⟩:=io h
 ·have⟨t3,h3,h⟩:=bo h;obtain rfl:=oi h;exact rfO 0 [b0,b1,b1,.lp [5,1] [1,5,8,9,10] [0,1,2,10,11,12,30] (.exit 0) [(5,.own 30 0)] [(0,.box (.agg [.own 1 0,.own 2 0,.d (I g),.d (I i),.d (B j),.d (B k),.d (I l),.d (I m),.d (I o),.own 10 0,.own 11 0,.own 12 0])),(1,.row 0 5 e),(2,.row 0 5 f),(10,.row 0 1 a),(11,.row 0 6 b),(12,.row 0 7 c),(30,.row 0 1 t3)] 56] (Qb (QE GF h3) (Qb (eqt p) q))
 have⟨t3,h3,h⟩:=bo h;obtain rfl:=oi h;exact rfO 0 [b0,b0,b1,.lp [5,1] [1,5,8,9,10] [0,1,2,10,11,12,30] (.exit 0) [(5,.own 30 0)] [(0,.box (.agg [.own 1 0,.own 2 0,.d (I g),.d (I i),.d (B j),.d (B k),.d (I l),.d (I m),.d (I o),.own 10 0,.own 11 0,.own 12 0])),(1,.row 0 5 e),(2,.row 0 5 f),(10,.row 0 1 a),(11,.row 0 6 b),(12,.row 0 7 c),(30,.row 0 1 t3)] 56] (Qb (QE GE h3) (Qb (eqf p) q))
def Qh (n:Nat)(a0:jSj)(t:Int)(u v:FnD)(x:Int)(y:jSj)(r z:jVj)(A:jSj)(s g:jVj)(h i:Int)(j k:Bool)(l m o:Int)(e p q:jVj)(a:(Bool×Int)):Option (Bool×Int⊕Unit⊕Bool) := if a.2<(a0.size:Int) then(UY a0 a.2).bind fun d=>if d<97 then if(IntKind.wrap .u8 (d+32))=115 then(el Vg r a.2).bind fun b=>(Zf n e b).bind fun c=>if a.1=true then if Qg (a.2+1) then some (.inl (true,(a.2+1))) else none else if Qg (a.2+1) then some (.inl (c,(a.2+1))) else none else(Qt n (IntKind.wrap .u8 (d+32)) s g h i j k l m o e p q).bind fun b=>(el Vg r a.2).bind fun c=>(Zf n b c).bind fun f=>if a.1=true then if Qg (a.2+1) then some (.inl (true,(a.2+1))) else none else if Qg (a.2+1) then some (.inl (f,(a.2+1))) else none else if d=115 then(el Vg r a.2).bind fun b=>(Zf n e b).bind fun c=>if c=true then if a.1=true then if Qg (a.2+1) then some (.inl (true,(a.2+1))) else none else if Qg (a.2+1) then some (.inl (false,(a.2+1))) else none else some (.inr (.inl ())) else(Qt n d s g h i j k l m o e p q).bind fun b=>(el Vg r a.2).bind fun c=>(Zf n b c).bind fun f=>if f=true then if a.1=true then if Qg (a.2+1) then some (.inl (true,(a.2+1))) else none else if Qg (a.2+1) then some (.inl (false,(a.2+1))) else none else some (.inr (.inl ())) else some (.inr (.inr a.1))
noncomputable def GK (a0:jSj)(r:Int)(n o:FnD)(s:Int)(t:jSj)(u v:jVj)(x:jSj)(p a:jVj)(b c:Int)(f g:Bool)(h i j:Int)(k l m:jVj):Lp (Bool×Int) (Unit⊕Bool):=⟨fun q=>[(0,.ptr 0 0 0 0 2),(4,.ptr 13 0 0 0 0),(5,.ptr 14 0 0 0 0),(7,.d (B q.1)),(14,.d (I (a0.size:Int))),(15,.d (I q.2))],fun _=>[(0,.box (.agg [.own 1 0,.own 2 0,.d (I b),.d (I c),.d (B f),.d (B g),.d (I h),.d (I i),.d (I j),.own 10 0,.own 11 0,.own 12 0])),(1,.row 0 5 p),(2,.row 0 5 a),(10,.row 0 1 k),(11,.row 0 6 l),(12,.row 0 7 m),(13,.box (.d (.agg [Qe a0,I r,.fn n.1 n.2.1 n.2.2,.fn o.1 o.2.1 o.2.2]))),(14,.box (.d (.agg [I s,Qe t,.lst false 1 u,.lst false 1 v,Qe x])))],fun
 | (.inl e)=>.ret
 | (.inr e)=>(.exit 0),fun
 | (.inl e)=>[(6,.d (I 10))]
 | (.inr e)=>[(7,.d (B e))],fun _=>[(0,.box (.agg [.own 1 0,.own 2 0,.d (I b),.d (I c),.d (B f),.d (B g),.d (I h),.d (I i),.d (I j),.own 10 0,.own 11 0,.own 12 0])),(1,.row 0 5 p),(2,.row 0 5 a),(10,.row 0 1 k),(11,.row 0 6 l),(12,.row 0 7 m)]⟩
theorem Ur {n a0 F G H J K L M N A g i j k m p s t u x y}(E)(r)(h:Qh n a0 F G H J K L M N A g i j k m p s t u x y E=some r):Rl (Zt cx.P 131 0) 52 13 false (GK a0 F G H J K L M N A g i j k m p s t u x y) E r:=by
 unfold Qh at h;obtain⟨z,h⟩|⟨z,h⟩:=io h
 ·have⟨ta2,C,h⟩:=bo h;have q:=Qb (Qc1 C:Zu cx.P (Instr.index 9 (.string a0) (.int .i64 E.2))=some (.int .u8 ta2)) (Qb (jDj z) QA);let o(l:jOj):=b1::.el (.v (.int .u8 ta2))::l;obtain⟨b,h⟩|⟨b,h⟩:=io h
  ·have q:=Qb (jDj b) q;obtain⟨f,h⟩|⟨f,h⟩:=io h
   ·have⟨ta5,ha5,h⟩:=bo h;have⟨ta6,ha6,h⟩:=bo h;have q:=Qb (zV (jDj b)) (Qb (Z7 ha6) (Q2 Zb ha5 (Qb (eqt f) q)));let o l:=o (b1::.ix (-9)::b1::b1::.el (Wj ta5)::.ix 0::.ret (B ta6)::b0::.no::l);obtain⟨c,h⟩|⟨c,h⟩:=io h
    ·have⟨a,h⟩:=gd h;cases h;exact rn 21 (o [b1]) [] [0,4,5,7,14,15] [0,1,2,10,11,12,13,14] (Qb a (Qb c q))
    have⟨a,h⟩:=gd h;cases h;exact rn 21 (o [b0,b1]) [] [0,4,5,7,14,15] [0,1,2,10,11,12,13,14] (Qb a (Qb (jDj b) (Qb (Zy c) q)))
   have⟨ta5,ha5,h⟩:=bo h;have⟨ta6,ha6,h⟩:=bo h;have⟨ta7,c,h⟩:=bo h;have q:=Qb (zV (jDj b)) (Qb (Z7 c) (Q2 Zb ha6 (Qb (Qz ha5) q)));let o l:=o (b1::.obj (some 0) (.d (.lst false 1 ta5)) (Qa A g i j k m p s t u x y) Zj::.el (Wj ta6)::.ret (B ta7)::b0::.no::l);obtain⟨a,h⟩|⟨a,h⟩:=io h
   ·have⟨e,h⟩:=gd h;cases h;exact rn 21 (o [b1]) [] [0,4,5,7,14,15] [0,1,2,10,11,12,13,14] (Qb e (Qb a q))
   have⟨e,h⟩:=gd h;cases h;exact rn 21 (o [b0,b1]) [] [0,4,5,7,14,15] [0,1,2,10,11,12,13,14] (Qb e (Qb (jDj b) (Qb (Zy a) q)))
  have q:=Qb (jEj b) q;let o l:=o (b0::l);obtain⟨f,h⟩|⟨f,h⟩:=io h
  ·have⟨ta5,ha5,h⟩:=bo h;have⟨ta6,ha6,h⟩:=bo h;have q:=Qb (wG (jEj b)) (Qb (Z7 ha6) (Q2 Zb ha5 (Qb (eqt f) q)));let o l:=o (.ix (-9)::b1::b1::.el (Wj ta5)::.ix 0::.ret (B ta6)::b1::l);obtain⟨c,h⟩|⟨c,h⟩:=io h
   ·have q:=Qb (zV c) q;obtain⟨a,h⟩|⟨a,h⟩:=io h
    ·have⟨e,h⟩:=gd h;cases h;exact rn 21 (o [b0,b1]) [] [0,4,5,7,14,15] [0,1,2,10,11,12,13,14] (Qb e (Qb a q))
    have⟨e,h⟩:=gd h;cases h;exact rn 21 (o [b0,b0,b0]) [] [0,4,5,7,14,15] [0,1,2,10,11,12,13,14] (Qb e (Qb (jEj b) (Qb (Zy a) q)))
   cases h;exact rx 21 (o [b1]) [] [6] [0,1,2,10,11,12] (Qb (wG (Zy c)) q)
  have⟨ta5,ha5,h⟩:=bo h;have⟨ta6,ha6,h⟩:=bo h;have⟨ta7,c,h⟩:=bo h;have q:=Qb (wG (jEj b)) (Qb (Z7 c) (Q2 Zb ha6 (Qb (Qz ha5) q)));let o l:=o (.obj (some 0) (.d (.lst false 1 ta5)) (Qa A g i j k m p s t u x y) Zj::.el (Wj ta6)::.ret (B ta7)::b1::l);obtain⟨a,h⟩|⟨a,h⟩:=io h
  ·have q:=Qb (zV a) q;obtain⟨e,h⟩|⟨e,h⟩:=io h
   ·have⟨ha10,h⟩:=gd h;cases h;exact rn 21 (o [b0,b1]) [] [0,4,5,7,14,15] [0,1,2,10,11,12,13,14] (Qb ha10 (Qb e q))
   have⟨ha10,h⟩:=gd h;cases h;exact rn 21 (o [b0,b0,b0]) [] [0,4,5,7,14,15] [0,1,2,10,11,12,13,14] (Qb ha10 (Qb (jEj b) (Qb (Zy e) q)))
  cases h;exact rx 21 (o [b1]) [] [6] [0,1,2,10,11,12] (Qb (wG (Zy a)) q)
 cases h;exact rx 21 [b0] [] [7] [0,1,2,10,11,12] (Qb (jEj z) QA)
def Ql (n:Nat)(a0:jSj)(l:Int)(m o:FnD)(p:Int)(q:jSj)(r s:jVj)(t:jSj)(u a:jVj)(b c:Int)(d e:Bool)(f g h:Int)(i j k:jVj):Option (Int) := (QU (Qh n a0 l m o p q r s t u a b c d e f g h i j k) n (false,0)).bind fun t1=>match t1 with|.inl t1=>(some 10)|.inr t1=>((Qm n t1 9).bind fun t2=>some t2)
theorem QH {n a0 s p q t u v x y o a b c e f g i j k l m r}(h:Ql n a0 s p q t u v x y o a b c e f g i j k l m=some r):ComputesO cx 131 [.ptr 0 0 0 0 2,.d (.agg [Qe a0,I s,.fn p.1 p.2.1 p.2.2,.fn q.1 q.2.1 q.2.2]),.d (.agg [I t,Qe u,.lst false 1 v,.lst false 1 x,Qe y])] (some (Qa o a b c e f g i j k l m)) (.d (I r)) (Qa o a b c e f g i j k l m) Zj:=by
 unfold Ql at h;have⟨t1,h1,h⟩:=bo h;obtain t1|t1:=t1
 ·obtain rfl:=oi h;exact rfO 0 [.lp [] [0,4,5,7,14,15] [0,1,2,10,11,12,13,14] .ret [(6,.d (I 10))] [(0,.box (.agg [.own 1 0,.own 2 0,.d (I b),.d (I c),.d (B e),.d (B f),.d (I g),.d (I i),.d (I j),.own 10 0,.own 11 0,.own 12 0])),(1,.row 0 5 o),(2,.row 0 5 a),(10,.row 0 1 k),(11,.row 0 6 l),(12,.row 0 7 m)] 82] (Qb (QE Ur h1) QA)
 have⟨t2,h2,h⟩:=bo h;obtain rfl:=oi h;exact rfO 0 [.lp [] [0,4,5,7,14,15] [0,1,2,10,11,12,13,14] (.exit 0) [(7,.d (B t1))] [(0,.box (.agg [.own 1 0,.own 2 0,.d (I b),.d (I c),.d (B e),.d (B f),.d (I g),.d (I i),.d (I j),.own 10 0,.own 11 0,.own 12 0])),(1,.row 0 5 o),(2,.row 0 5 a),(10,.row 0 1 k),(11,.row 0 6 l),(12,.row 0 7 m)] 82,.ret (I t2)] (Qb (Qs h2) (Qb (QE Ur h1) QA))
def Wn (n:Nat)(a0 e:jVj)(f g:Int)(h i:Bool)(j k l:Int)(m c d:jVj)(b:Int):Option (Int⊕Unit⊕Unit) := if b<((c).length:Int) then if 0<=b/\b<((c).length:Int) then((nth (c) (Int.toNat b)).bind QV).bind fun a=>if a.2.2.2.2.2=true then if((a.1==(⟨#[]⟩:jSj))&&((a.2.1==(⟨#[]⟩:jSj))&&((a.2.2.1==0)&&((a.2.2.2.1==0)&&((a.2.2.2.2.1==false)&&((a.2.2.2.2.2==false)&&true))))))=true then if Qg (b+1) then some (.inl (b+1)) else none else some (.inr (.inl ())) else if Qg (b+1) then some (.inl (b+1)) else none else none else some (.inr (.inr ()))
noncomputable def XV (a0 c:jVj)(f g:Int)(h i:Bool)(j k l:Int)(m a b:jVj):Lp (Int) (Unit⊕Unit):=⟨fun n=>[(0,.own 22 0),(8,.own 11 0),(9,.d (I ((a).length:Int))),(10,.d (I n))],fun _=>[(0,.box (.agg [.own 1 0,.own 2 0,.d (I f),.d (I g),.d (B h),.d (B i),.d (I j),.d (I k),.d (I l),.own 10 0,.own 11 0,.own 12 0])),(1,.row 0 5 a0),(2,.row 0 5 c),(10,.row 0 1 m),(11,.row 0 6 a),(12,.row 0 7 b),(14,.box (.d (B false))),(18,.box (.ptr 0 0 0 0 2)),(22,.loop true [(6,.fn (.func 153) [] [.ptr 18 0 0 0 0]),(5,.ptr 0 0 0 0 2),(3,.ptr 14 0 0 0 0),(2,.d (B false)),(0,.ptr 0 0 0 0 2)] [7] (Z3 cx.P 109 0).1 (Z3 cx.P 109 0).2 12)],fun
 | (.inl e)=>.ret
 | (.inr e)=>(.exit 0),fun _=>[],fun
 | (.inl e)=>[(0,.box (.agg [.own 1 0,.own 2 0,.d (I f),.d (I g),.d (B h),.d (B i),.d (I j),.d (I k),.d (I l),.own 10 0,.own 11 0,.own 12 0])),(1,.row 0 5 a0),(2,.row 0 5 c),(10,.row 0 1 m),(11,.row 0 6 a),(12,.row 0 7 b),(14,.box (.d (B true))),(18,.box (.ptr 0 0 0 0 2)),(22,.left (.exit 0))]
 | (.inr e)=>[(0,.box (.agg [.own 1 0,.own 2 0,.d (I f),.d (I g),.d (B h),.d (B i),.d (I j),.d (I k),.d (I l),.own 10 0,.own 11 0,.own 12 0])),(1,.row 0 5 a0),(2,.row 0 5 c),(10,.row 0 1 m),(11,.row 0 6 a),(12,.row 0 7 b),(14,.box (.d (B false))),(18,.box (.ptr 0 0 0 0 2)),(22,.loop true [(6,.fn (.func 153) [] [.ptr 18 0 0 0 0]),(5,.ptr 0 0 0 0 2),(3,.ptr 14 0 0 0 0),(2,.d (B false)),(0,.ptr 0 0 0 0 2)] [7] (Z3 cx.P 109 0).1 (Z3 cx.P 109 0).2 12)]⟩
theorem UU {n a0 f g i j k m p s t d e}(u)(r)(h:Wn n a0 f g i j k m p s t d e u=some r):Rl (Zt cx.P 153 0) 23 23 false (XV a0 f g i j k m p s t d e) u r:=by
 unfold Wn at h;obtain⟨b,h⟩|⟨b,h⟩:=io h
 ·have⟨ha2,h⟩:=gd h;have⟨ta3,ha3,h⟩:=bo h;have q:=Qb (Q0 QB ha3) (Qb ha2 (Qb (jDj b) QA));let o(l:jOj):=b1::b1::.el (QF ta3)::l;obtain⟨c,h⟩|⟨c,h⟩:=io h
  ·have q:=Qb c q;obtain⟨a,h⟩|⟨a,h⟩:=io h
   ·have⟨ha6,h⟩:=gd h;cases h;exact rn 29 (o [b1,b0,.no]) [] [0,8,9,10] [0,1,2,10,11,12,14,18,22] (Qb ha6 (Qb (zV a) q))
   cases h;exact rx 29 (o [b1,b1,.no]) [] [] [0,1,2,10,11,12,14,18,22] (Qb (wG (Zy a)) q)
  have⟨a,h⟩:=gd h;cases h;exact rn 29 (o [b0,.no]) [] [0,8,9,10] [0,1,2,10,11,12,14,18,22] (Qb a (Qb (Zy c) q))
 cases h;exact rx 29 [b0] [] [] [0,1,2,10,11,12,14,18,22] (Qb (jEj b) QA)
def VE (n:Nat)(a0 c:jVj)(d e:Int)(f g:Bool)(h i j:Int)(k a b:jVj):Option (Bool) := (QU (Wn n a0 c d e f g h i j k a b) n 0).bind fun t1=>match t1 with|.inl t1=>(some true)|.inr t1=>(some false)
theorem qv {n a0 c e f g i j k l m a b r}(h:VE n a0 c e f g i j k l m a b=some r):ComputesO cx 109 [.ptr 0 0 0 0 2] (some (Qa a0 c e f g i j k l m a b)) (.d (B r)) (Qa a0 c e f g i j k l m a b) Zj:=by
 unfold VE at h;have⟨t1,h1,h⟩:=bo h;obtain t1|t1:=t1
 ·obtain rfl:=oi h;exact rfO 0 [b1,.lp [] [0,8,9,10] [0,1,2,10,11,12,14,18,22] .ret [] [(0,.box (.agg [.own 1 0,.own 2 0,.d (I e),.d (I f),.d (B g),.d (B i),.d (I j),.d (I k),.d (I l),.own 10 0,.own 11 0,.own 12 0])),(1,.row 0 5 a0),(2,.row 0 5 c),(10,.row 0 1 m),(11,.row 0 6 a),(12,.row 0 7 b),(14,.box (.d (B true))),(18,.box (.ptr 0 0 0 0 2)),(22,.left (.exit 0))] 60] (Qb (QE UU h1) QA)
 obtain rfl:=oi h;exact rfO 0 [b1,.lp [] [0,8,9,10] [0,1,2,10,11,12,14,18,22] (.exit 0) [] [(0,.box (.agg [.own 1 0,.own 2 0,.d (I e),.d (I f),.d (B g),.d (B i),.d (I j),.d (I k),.d (I l),.own 10 0,.own 11 0,.own 12 0])),(1,.row 0 5 a0),(2,.row 0 5 c),(10,.row 0 1 m),(11,.row 0 6 a),(12,.row 0 7 b),(14,.box (.d (B false))),(18,.box (.ptr 0 0 0 0 2)),(22,.loop true [(6,.fn (.func 153) [] [.ptr 18 0 0 0 0]),(5,.ptr 0 0 0 0 2),(3,.ptr 14 0 0 0 0),(2,.d (B false)),(0,.ptr 0 0 0 0 2)] [7] (Z3 cx.P 109 0).1 (Z3 cx.P 109 0).2 12)] 60] (Qb (QE UU h1) QA)
def Km (n:Nat)  : Option (Int) :=
 some 14
theorem qk {n:Nat}  {r:Int}(h:Km n =some r):Computes cx 26 [B true,I 14] (I r):=by unfold Km at h;obtain rfl:=oi h;exact rf [.no] QA
def Vb (n:Nat)(a0:Int)(d:jSj)(e a:jVj)(f:jSj):Option (Int×Int×Int) := (el V5 a 1).bind fun t1=>(el V5 a 2).bind fun t2=>(el V5 a 0).bind fun c=>if t1<c then(Km n).bind fun b=>some (t1,t2,b) else(Qm n (decide (t1>=t2)) 14).bind fun b=>some (t1,t2,b)
theorem Eo {n a0 b c d e r}(h:Vb n a0 b c d e=some r):Computes cx 117 [.agg [I a0,Qe b,.lst false 1 c,.lst false 1 d,Qe e]] (.tup [.agg [I r.1,I r.2.1],I r.2.2]):=by
 unfold Vb at h;have⟨t1,h1,h⟩:=bo h;have⟨t2,h2,h⟩:=bo h;have⟨t3,h3,h⟩:=bo h;have q:=Q2 QM h3 (Q2 QM h2 (Q2 QM h1 QA));let o(l:jOj):=.el (Zi t1)::.el (Zi t2)::.el (Zi t3)::l;obtain⟨a,h⟩|⟨a,h⟩:=io h
 ·have⟨t5,h5,h⟩:=bo h;cases h;exact rf (o [b1,.ret (I t5)]) (Qb (qk h5) (Qb (jDj a) q))
 have⟨t5,h5,h⟩:=bo h;cases h;exact rf (o [b0,.ret (I t5)]) (Qb (Qs h5) (Qb (jEj a) q))
def Za (n:Nat)(a0:jSj)(c d a e b:Int)(f:Bool):Option (Int) := if Qg (a - b) then some (a - b) else none
theorem WU {n a0 a b c d e f r}(h:Za n a0 a b c d e f=some r):Computes cx 44 [.agg [Qe a0,I a,I b,I c,I d,I e,B f]] (I r):=by unfold Za at h;have⟨h1,h⟩:=gd h;cases h;exact rf [] (Qb h1 QA)
def Qq (n:Nat)(a0:Int)(o:jSj)(y x:jVj)(J:jSj)(j h:jVj)(k l:Int)(i c:Bool)(e f g:Int)(d a b:jVj):Option (Int) := if Qg (((j).length:Int)+1) then if a0=(((j).length:Int)+1) then if(o.toList==(⟨#[117,110,100,111]⟩:jSj).toList)=true then if((h).length:Int)=0 then some 12 else if Qg (((h).length:Int) - 1) then if 0<=(((h).length:Int) - 1)/\(((h).length:Int) - 1)<((h).length:Int) then((nth (h) (Int.toNat (((h).length:Int) - 1))).bind Wc).bind fun t7=>if(t7.2.1.toList==(⟨#[100,101,108,105,118,101,114]⟩:jSj).toList)=true then(Ko n).bind fun U=>some U else(Qm n (t7.2.1.toList==(⟨#[98,105,108,108]⟩:jSj).toList) 21).bind fun U=>some U else none else none else(el V5 x 0).bind fun t4=>if t4<k then some 22 else if o.data.toList=[115,101,99,116,111,114] then(Qn n t4 j h k l i c e f g d a b).bind fun t7=>(Ql n (⟨#[83]⟩) 1 ((.func 83:Fn),[],[]) ((.func 84:Fn),[],[]) a0 o y x J j h k l i c e f g d a b).bind fun t8=>(Qi n ([I t7,I t8])).bind fun U=>if U=0 then(Qm n (((d).length:Int)==8) 5).bind fun K=>some K else some U else if o.data.toList=[109,105,114,114,111,114] then(Qn n t4 j h k l i c e f g d a b).bind fun t8=>(Ql n (⟨#[77,115]⟩) 2 ((.func 85:Fn),[],[]) ((.func 86:Fn),[],[]) a0 o y x J j h k l i c e f g d a b).bind fun U=>(Qi n ([I t8,I U])).bind fun O=>if O=0 then(el V5 x 1).bind fun L=>(ZJ n L 1 100).bind fun A=>(Qm n (((a).length:Int)==32) 5).bind fun C=>(Qi n ([I A,I C])).bind fun E=>some E else some O else if o.data.toList=[115,111,105,108] then(Qn n t4 j h k l i c e f g d a b).bind fun U=>(Ql n (⟨#[109]⟩) 2 ((.func 87:Fn),[],[]) ((.func 158:Fn),[],[.ref (.fn (.func 89) [] []) 0]) a0 o y x J j h k l i c e f g d a b).bind fun O=>(Qi n ([I U,I O])).bind fun K=>if K=0 then(el V5 x 1).bind fun A=>(ZJ n A 0 1000).bind fun C=>some C else some K else if o.data.toList=[99,108,101,97,110] then(Qn n t4 j h k l i c e f g d a b).bind fun O=>(Ql n (⟨#[109]⟩) 1 ((.func 90:Fn),[],[]) ((.func 158:Fn),[],[.ref (.fn (.func 91) [] []) 0]) a0 o y x J j h k l i c e f g d a b).bind fun K=>(Qi n ([I O,I K])).bind fun L=>if L=0 then some 0 else some L else if o.data.toList=[100,101,102,101,99,116] then(Qn n t4 j h k l i c e f g d a b).bind fun K=>(Ql n (⟨#[109]⟩) 1 ((.func 159:Fn),[],[.ref (.fn (.func 93) [] []) 0]) ((.func 158:Fn),[],[.ref (.fn (.func 94) [] []) 0]) a0 o y x J j h k l i c e f g d a b).bind fun L=>(Qi n ([I K,I L])).bind fun A=>if A=0 then(el Vg y 0).bind fun E=>(Qt n 109 j h k l i c e f g d a b).bind fun F=>(QC n F E).bind fun t=>if 0<=t/\t<((a).length:Int) then((nth (a) (Int.toNat t)).bind QV).bind fun r=>(Qm n r.2.2.2.2.1 9).bind fun p=>(Qm n r.2.2.2.2.2 31).bind fun q=>(Qi n ([I p,I q])).bind fun v=>some v else none else some A else if o.data.toList=[114,101,112,97,105,114] then(Qn n t4 j h k l i c e f g d a b).bind fun L=>(Ql n (⟨#[109]⟩) 1 ((.func 159:Fn),[],[.ref (.fn (.func 95) [] []) 0]) ((.func 158:Fn),[],[.ref (.fn (.func 96) [] []) 0]) a0 o y x J j h k l i c e f g d a b).bind fun A=>(Qi n ([I L,I A])).bind fun C=>if C=0 then(el Vg y 0).bind fun F=>(Qt n 109 j h k l i c e f g d a b).bind fun t=>(QC n t F).bind fun u=>if 0<=u/\u<((a).length:Int) then((nth (a) (Int.toNat u)).bind QV).bind fun p=>(Qm n (!p.2.2.2.2.1) 22).bind fun q=>some q else none else some C else if o.data.toList=[97,105,109] then(Qn n t4 j h k l i c e f g d a b).bind fun A=>(Ql n (⟨#[109]⟩) 1 ((.func 159:Fn),[],[.ref (.fn (.func 97) [] []) 0]) ((.func 158:Fn),[],[.ref (.fn (.func 98) [] []) 0]) a0 o y x J j h k l i c e f g d a b).bind fun C=>(Qi n ([I A,I C])).bind fun E=>if E=0 then(el Vg y 0).bind fun t=>(Qt n 109 j h k l i c e f g d a b).bind fun u=>(QC n u t).bind fun r=>if 0<=r/\r<((a).length:Int) then(Qm n (!i) 30).bind fun q=>(Qm n c 29).bind fun v=>((nth (a) (Int.toNat r)).bind QV).bind fun s=>(Qm n s.2.2.2.2.1 21).bind fun z=>(Qm n s.2.2.2.2.2 9).bind fun G=>(Qi n ([I q,I v,I z,I G])).bind fun M=>some M else none else some E else if o.data.toList=[112,97,114,107] then(Qn n t4 j h k l i c e f g d a b).bind fun C=>(Ql n (⟨#[109]⟩) 1 ((.func 159:Fn),[],[.ref (.fn (.func 99) [] []) 0]) ((.func 158:Fn),[],[.ref (.fn (.func 100) [] []) 0]) a0 o y x J j h k l i c e f g d a b).bind fun E=>(Qi n ([I C,I E])).bind fun F=>if F=0 then(el Vg y 0).bind fun u=>(Qt n 109 j h k l i c e f g d a b).bind fun r=>(QC n r u).bind fun p=>if 0<=p/\p<((a).length:Int) then((nth (a) (Int.toNat p)).bind QV).bind fun v=>(Qm n (!v.2.2.2.2.2) 22).bind fun s=>some s else none else some F else if o.data.toList=[100,105,109] then(Qn n t4 j h k l i c e f g d a b).bind fun E=>(Ql n (⟨#[115]⟩) 1 ((.func 90:Fn),[],[]) ((.func 101:Fn),[],[]) a0 o y x J j h k l i c e f g d a b).bind fun F=>(Qi n ([I E,I F])).bind fun t=>if t=0 then some 0 else some t else if o.data.toList=[115,117,110] then(Qn n t4 j h k l i c e f g d a b).bind fun F=>(Ql n (⟨#[]⟩) 2 ((.func 104:Fn),[],[]) ((.func 105:Fn),[],[]) a0 o y x J j h k l i c e f g d a b).bind fun t=>(Qi n ([I F,I t])).bind fun u=>if u=0 then(el V5 x 1).bind fun p=>(ZJ n p 0 1000).bind fun q=>some q else some u else if o.data.toList=[102,105,108,108] then(Qn n t4 j h k l i c e f g d a b).bind fun t=>(Ql n (⟨#[]⟩) 1 ((.func 106:Fn),[],[]) ((.func 107:Fn),[],[]) a0 o y x J j h k l i c e f g d a b).bind fun u=>(Qi n ([I t,I u])).bind fun r=>if r=0 then(Qm n i 9).bind fun q=>some q else some r else if o.data.toList=[100,114,97,105,110] then(Qn n t4 j h k l i c e f g d a b).bind fun u=>(Ql n (⟨#[]⟩) 1 ((.func 108:Fn),[],[]) ((.func 110:Fn),[],[]) a0 o y x J j h k l i c e f g d a b).bind fun r=>(Qi n ([I u,I r])).bind fun p=>if p=0 then(Qm n (!i) 22).bind fun v=>(VE n j h k l i c e f g d a b).bind fun s=>(Qm n s 31).bind fun z=>(Qi n ([I v,I z])).bind fun G=>some G else some p else if o.data.toList=[116,114,105,112] then(Qn n t4 j h k l i c e f g d a b).bind fun r=>(Ql n (⟨#[]⟩) 1 ((.func 111:Fn),[],[]) ((.func 112:Fn),[],[]) a0 o y x J j h k l i c e f g d a b).bind fun p=>(Qi n ([I r,I p])).bind fun q=>if q=0 then(Qm n c 9).bind fun s=>some s else some q else if o.data.toList=[114,101,115,101,116] then(Qn n t4 j h k l i c e f g d a b).bind fun p=>(Ql n (⟨#[]⟩) 1 ((.func 114:Fn),[],[]) ((.func 115:Fn),[],[]) a0 o y x J j h k l i c e f g d a b).bind fun q=>(Qi n ([I p,I q])).bind fun v=>if v=0 then(Qm n (!c) 22).bind fun z=>some z else some v else if o.data.toList=[111,102,102,101,114] then(Qn n t4 j h k l i c e f g d a b).bind fun q=>(Ql n (⟨#[79]⟩) 5 ((.func 116:Fn),[],[]) ((.func 118:Fn),[],[]) a0 o y x J j h k l i c e f g d a b).bind fun v=>(Qi n ([I q,I v])).bind fun s=>if s=0 then(Vb n a0 o y x J).bind fun G=>(el V5 x 3).bind fun M=>(ZJ n M 1 1000).bind fun P=>(el V5 x 4).bind fun N=>(ZJ n N 0 1000).bind fun Q=>(Qm n (((b).length:Int)==32) 5).bind fun H=>(Qi n ([I G.2.2,I P,I Q,I H])).bind fun m=>some m else some s else if o.data.toList=[100,101,108,105,118,101,114] then(Qn n t4 j h k l i c e f g d a b).bind fun v=>(Ql n (⟨#[111]⟩) 2 ((.func 119:Fn),[],[]) ((.func 120:Fn),[],[]) a0 o y x J j h k l i c e f g d a b).bind fun s=>(Qi n ([I v,I s])).bind fun z=>if z=0 then(el Vg y 0).bind fun M=>(Qt n 111 j h k l i c e f g d a b).bind fun P=>(QC n P M).bind fun N=>if 0<=N/\N<((b).length:Int) then(el V5 x 1).bind fun H=>((nth (b) (Int.toNat N)).bind Z4).bind fun m=>(Qm n m.2.2.2.2.2.2 23).bind fun V=>if t4<m.2.1 then(Km n).bind fun S=>(Qm n (H==0) 3).bind fun W=>(Za n m.1 m.2.1 m.2.2.1 m.2.2.2.1 m.2.2.2.2.1 m.2.2.2.2.2.1 m.2.2.2.2.2.2).bind fun X=>(Qm n (decide (H>X)) 20).bind fun Y=>(Qi n ([I V,I S,I W,I Y])).bind fun T=>if T=0 then if Qg (H*1000000) then(Q9 n t4 j h k l i c e f g d a b).bind fun Z=>(Qm n (decide ((H*1000000)>Z.2)) 16).bind fun b2=>some b2 else none else some T else(Qm n (decide (t4>=m.2.2.1)) 14).bind fun S=>(Qm n (H==0) 3).bind fun W=>(Za n m.1 m.2.1 m.2.2.1 m.2.2.2.1 m.2.2.2.2.1 m.2.2.2.2.2.1 m.2.2.2.2.2.2).bind fun X=>(Qm n (decide (H>X)) 20).bind fun Y=>(Qi n ([I V,I S,I W,I Y])).bind fun T=>if T=0 then if Qg (H*1000000) then(Q9 n t4 j h k l i c e f g d a b).bind fun Z=>(Qm n (decide ((H*1000000)>Z.2)) 16).bind fun b2=>some b2 else none else some T else none else some z else if o.data.toList=[98,105,108,108] then(Qn n t4 j h k l i c e f g d a b).bind fun s=>(Ql n (⟨#[111]⟩) 1 ((.func 121:Fn),[],[]) ((.func 122:Fn),[],[]) a0 o y x J j h k l i c e f g d a b).bind fun z=>(Qi n ([I s,I z])).bind fun G=>if G=0 then(el Vg y 0).bind fun P=>(Qt n 111 j h k l i c e f g d a b).bind fun N=>(QC n N P).bind fun Q=>if 0<=Q/\Q<((b).length:Int) then((nth (b) (Int.toNat Q)).bind Z4).bind fun m=>(Qm n m.2.2.2.2.2.2 23).bind fun V=>(Qm n (decide (t4<m.2.2.1)) 32).bind fun b3=>(Qi n ([I V,I b3])).bind fun S=>some S else none else some G else if o.data.toList=[117,110,100,111] then(Qn n t4 j h k l i c e f g d a b).bind fun z=>(Ql n (⟨#[]⟩) 0 ((.func 90:Fn),[],[]) ((.func 123:Fn),[],[]) a0 o y x J j h k l i c e f g d a b).bind fun G=>(Qi n ([I z,I G])).bind fun M=>if M=0 then some 0 else some M else none else some 11 else none
abbrev JU:D:=.agg [.v (.string ⟨#[109]⟩),I 1,.fn (.func 159) [] [.ref (.fn (.func 93) [] []) 0],.fn (.func 158) [] [.ref (.fn (.func 94) [] []) 0]]
abbrev JT:D:=.agg [.v (.string ⟨#[109]⟩),I 1,.fn (.func 159) [] [.ref (.fn (.func 95) [] []) 0],.fn (.func 158) [] [.ref (.fn (.func 96) [] []) 0]]
abbrev JS:D:=.agg [.v (.string ⟨#[109]⟩),I 1,.fn (.func 159) [] [.ref (.fn (.func 97) [] []) 0],.fn (.func 158) [] [.ref (.fn (.func 98) [] []) 0]]
abbrev JR:D:=.agg [.v (.string ⟨#[109]⟩),I 1,.fn (.func 159) [] [.ref (.fn (.func 99) [] []) 0],.fn (.func 158) [] [.ref (.fn (.func 100) [] []) 0]]
abbrev JQ:D:=.agg [.v (.string ⟨#[109]⟩),I 1,.fn (.func 90) [] [],.fn (.func 158) [] [.ref (.fn (.func 91) [] []) 0]]
abbrev JP:D:=.agg [.v (.string ⟨#[109]⟩),I 2,.fn (.func 87) [] [],.fn (.func 158) [] [.ref (.fn (.func 89) [] []) 0]]
abbrev JO:D:=.agg [.v (.string ⟨#[111]⟩),I 1,.fn (.func 121) [] [],.fn (.func 122) [] []]
abbrev JN:D:=.agg [.v (.string ⟨#[111]⟩),I 2,.fn (.func 119) [] [],.fn (.func 120) [] []]
abbrev JM:D:=.agg [.v (.string ⟨#[115]⟩),I 1,.fn (.func 90) [] [],.fn (.func 101) [] []]
abbrev KJ:D:=.agg [.v (.string ⟨#[77,115]⟩),I 2,.fn (.func 85) [] [],.fn (.func 86) [] []]
abbrev KI:D:=.agg [.v (.string ⟨#[79]⟩),I 5,.fn (.func 116) [] [],.fn (.func 118) [] []]
abbrev KH:D:=.agg [.v (.string ⟨#[83]⟩),I 1,.fn (.func 83) [] [],.fn (.func 84) [] []]
abbrev KG:D:=.agg [.v (.string ⟨#[]⟩),I 0,.fn (.func 90) [] [],.fn (.func 123) [] []]
abbrev KF:D:=.agg [.v (.string ⟨#[]⟩),I 1,.fn (.func 106) [] [],.fn (.func 107) [] []]
abbrev KE:D:=.agg [.v (.string ⟨#[]⟩),I 1,.fn (.func 108) [] [],.fn (.func 110) [] []]
abbrev KD:D:=.agg [.v (.string ⟨#[]⟩),I 1,.fn (.func 111) [] [],.fn (.func 112) [] []]
abbrev KC:D:=.agg [.v (.string ⟨#[]⟩),I 1,.fn (.func 114) [] [],.fn (.func 115) [] []]
abbrev KB:D:=.agg [.v (.string ⟨#[]⟩),I 2,.fn (.func 104) [] [],.fn (.func 105) [] []]
theorem Yr {n a0 a1 a2 a3 a4 k m p s t a b c e f g i r}(h:Qq n a0 a1 a2 a3 a4 k m p s t a b c e f g i=some r):ComputesO cx 33 [.ptr 0 0 0 0 0,.d (.agg [I a0,Qe a1,.lst false 1 a2,.lst false 1 a3,Qe a4])] (some (Qa k m p s t a b c e f g i)) (.d (I r)) (Qa k m p s t a b c e f g i) Zj:=by
 unfold Qq at h;have⟨h1,h⟩:=gd h;have q:=Qb h1 QA;obtain⟨Y,h⟩|⟨Y,h⟩:=io h
 ·have q:=Qb (nef Y) q;let o(l:jOj):=b0::l;obtain⟨Z,h⟩|⟨Z,h⟩:=io h
  ·have q:=Qb Z q;obtain⟨N,h⟩|⟨N,h⟩:=io h
   ·obtain rfl:=oi h;exact rfO 0 (o [b1,b1]) (Qb (eqt N) q)
   have⟨W,h⟩:=gd h;have⟨X,h⟩:=gd h;have⟨t7,V,h⟩:=bo h;have q:=Qb (Q0 V6 V) (Qb X (Qb W (Qb (eqf N) q)));let o l:=o (b1::b0::b1::.el (VQ t7)::l);obtain⟨U,h⟩|⟨U,h⟩:=io h
   ·have⟨t9,S,h⟩:=bo h;obtain rfl:=oi h;exact rfO 0 (o [b1,.ret (I t9)]) (Qb (Qai S) (Qb U q))
   have⟨t9,S,h⟩:=bo h;obtain rfl:=oi h;exact rfO 0 (o [b0,.ret (I t9)]) (Qb (Qs S) (Qb (Zy U) q))
  have⟨t4,N,h⟩:=bo h;have q:=Q2 QM N (Qb (Zy Z) q);let o l:=o (b0::.el (Zi t4)::l);obtain⟨W,h⟩|⟨W,h⟩:=io h
  ·obtain rfl:=oi h;exact rfO 0 (o [b1]) (Qb (jDj W) q)
  have q:=Qb (jEj W) q;let o l:=o (b0::b1::(no 28 l));obtain⟨X,h⟩|⟨X,h⟩:=io h
  ·have⟨t7,V,h⟩:=bo h;have⟨t8,U,h⟩:=bo h;have⟨t9,S,h⟩:=bo h;have q:=Qb (leF (Qv S)) (Qb (QH U) (Qb (Qu V) (Q2 QM N (Qb (mk1 ⟨#[115,101,99,116,111,114]⟩ KH X) q))));let o l:=o (.el KH::.el (Zi t4)::.obj (some 0) (.d (I t7)) (Qa k m p s t a b c e f g i) Zj::.obj (some 0) (.d (I t8)) (Qa k m p s t a b c e f g i) Zj::.ret (I t9)::l);obtain⟨M,h⟩|⟨M,h⟩:=io h
   ·have⟨t11,J,h⟩:=bo h;obtain rfl:=oi h;exact rfO 0 (o [b0,.ix (-9),b1,.ret (I t11)]) (Qb (Qs J) (Qb (nef M) q))
   obtain rfl:=oi h;exact rfO 0 (o [b1]) (Qb (net M) q)
  obtain⟨V,h⟩|⟨V,h⟩:=io h
  ·have⟨t8,U,h⟩:=bo h;have⟨t9,S,h⟩:=bo h;have⟨t10,M,h⟩:=bo h;have q:=Qb (leF (Qv M)) (Qb (QH S) (Qb (Qu U) (Q2 QM N (Qb (mk1 ⟨#[109,105,114,114,111,114]⟩ KJ V) q))));let o l:=o (.el KJ::.el (Zi t4)::.obj (some 0) (.d (I t8)) (Qa k m p s t a b c e f g i) Zj::.obj (some 0) (.d (I t9)) (Qa k m p s t a b c e f g i) Zj::.ret (I t10)::l);obtain⟨J,h⟩|⟨J,h⟩:=io h
   ·have⟨t12,K,h⟩:=bo h;have⟨t13,C,h⟩:=bo h;have⟨t14,E,h⟩:=bo h;have⟨t15,F,h⟩:=bo h;obtain rfl:=oi h;exact rfO 0 (o [b0,.ix (-9),b1,.el (Zi t12),.ret (I t13),.ret (I t14),.ret (I t15)]) (Qb (leF (Qv F)) (Qb (Qs E) (Qb (Va C) (Q2 QM K (Qb (nef J) q)))))
   obtain rfl:=oi h;exact rfO 0 (o [b1]) (Qb (net J) q)
  obtain⟨U,h⟩|⟨U,h⟩:=io h
  ·have⟨t9,S,h⟩:=bo h;have⟨t10,M,h⟩:=bo h;have⟨t11,J,h⟩:=bo h;have q:=Qb (leF (Qv J)) (Qb (QH M) (Qb (Qu S) (Q2 QM N (Qb (mk1 ⟨#[115,111,105,108]⟩ JP U) q))));let o l:=o (.el JP::.el (Zi t4)::.obj (some 0) (.d (I t9)) (Qa k m p s t a b c e f g i) Zj::.obj (some 0) (.d (I t10)) (Qa k m p s t a b c e f g i) Zj::.ret (I t11)::l);obtain⟨K,h⟩|⟨K,h⟩:=io h
   ·have⟨t13,C,h⟩:=bo h;have⟨t14,E,h⟩:=bo h;obtain rfl:=oi h;exact rfO 0 (o [b0,.ix (-9),b1,.el (Zi t13),.ret (I t14)]) (Qb (Va E) (Q2 QM C (Qb (nef K) q)))
   obtain rfl:=oi h;exact rfO 0 (o [b1]) (Qb (net K) q)
  obtain⟨S,h⟩|⟨S,h⟩:=io h
  ·have⟨t10,M,h⟩:=bo h;have⟨t11,J,h⟩:=bo h;have⟨t12,K,h⟩:=bo h;have q:=Qb (leF (Qv K)) (Qb (QH J) (Qb (Qu M) (Q2 QM N (Qb (mk1 ⟨#[99,108,101,97,110]⟩ JQ S) q))));let o l:=o (.el JQ::.el (Zi t4)::.obj (some 0) (.d (I t10)) (Qa k m p s t a b c e f g i) Zj::.obj (some 0) (.d (I t11)) (Qa k m p s t a b c e f g i) Zj::.ret (I t12)::l);obtain⟨C,h⟩|⟨C,h⟩:=io h
   ·obtain rfl:=oi h;exact rfO 0 (o [b0,.ix (-9),b1]) (Qb (nef C) q)
   obtain rfl:=oi h;exact rfO 0 (o [b1]) (Qb (net C) q)
  obtain⟨M,h⟩|⟨M,h⟩:=io h
  ·have⟨t11,J,h⟩:=bo h;have⟨t12,K,h⟩:=bo h;have⟨t13,C,h⟩:=bo h;have q:=Qb (leF (Qv C)) (Qb (QH K) (Qb (Qu J) (Q2 QM N (Qb (mk1 ⟨#[100,101,102,101,99,116]⟩ JU M) q))));let o l:=o (.el JU::.el (Zi t4)::.obj (some 0) (.d (I t11)) (Qa k m p s t a b c e f g i) Zj::.obj (some 0) (.d (I t12)) (Qa k m p s t a b c e f g i) Zj::.ret (I t13)::l);obtain⟨E,h⟩|⟨E,h⟩:=io h
   ·have⟨t15,F,h⟩:=bo h;have⟨t16,G,h⟩:=bo h;have⟨t17,A,h⟩:=bo h;have⟨y,h⟩:=gd h;have⟨t19,v,h⟩:=bo h;have⟨t20,u,h⟩:=bo h;have⟨t21,j,h⟩:=bo h;have⟨t22,z,h⟩:=bo h;obtain rfl:=oi h;exact rfO 0 (o [b0,.ix (-9),b1,.el (Wj t15),.ix (-9),b1,.obj (some 0) (.d (.lst false 1 t16)) (Qa k m p s t a b c e f g i) Zj,.ret (I t17),b1,.ix (-9),b1,.el (QF t19),.ret (I t20),.el (QF t19),.ret (I t21),.ret (I t22)]) (Qb (leF (Qv z)) (Qb (Qs j) (Qb (Q0 QB v) (Qb (Qs u) (Qb (Q0 QB v) (Qb y (Qb (QJ A) (Qb (Qz G) (Q2 Zb F (Qb (nef E) q))))))))))
   obtain rfl:=oi h;exact rfO 0 (o [b1]) (Qb (net E) q)
  obtain⟨J,h⟩|⟨J,h⟩:=io h
  ·have⟨t12,K,h⟩:=bo h;have⟨t13,C,h⟩:=bo h;have⟨t14,E,h⟩:=bo h;have q:=Qb (leF (Qv E)) (Qb (QH C) (Qb (Qu K) (Q2 QM N (Qb (mk1 ⟨#[114,101,112,97,105,114]⟩ JT J) q))));let o l:=o (.el JT::.el (Zi t4)::.obj (some 0) (.d (I t12)) (Qa k m p s t a b c e f g i) Zj::.obj (some 0) (.d (I t13)) (Qa k m p s t a b c e f g i) Zj::.ret (I t14)::l);obtain⟨F,h⟩|⟨F,h⟩:=io h
   ·have⟨t16,G,h⟩:=bo h;have⟨t17,A,h⟩:=bo h;have⟨t18,y,h⟩:=bo h;have⟨v,h⟩:=gd h;have⟨t20,u,h⟩:=bo h;have⟨t21,j,h⟩:=bo h;obtain rfl:=oi h;exact rfO 0 (o [b0,.ix (-9),b1,.el (Wj t16),.ix (-9),b1,.obj (some 0) (.d (.lst false 1 t17)) (Qa k m p s t a b c e f g i) Zj,.ret (I t18),b1,.ix (-9),b1,.el (QF t20),.ret (I t21)]) (Qb (Qs j) (Qb (Q0 QB u) (Qb v (Qb (QJ y) (Qb (Qz A) (Q2 Zb G (Qb (nef F) q)))))))
   obtain rfl:=oi h;exact rfO 0 (o [b1]) (Qb (net F) q)
  obtain⟨K,h⟩|⟨K,h⟩:=io h
  ·have⟨t13,C,h⟩:=bo h;have⟨t14,E,h⟩:=bo h;have⟨t15,F,h⟩:=bo h;have q:=Qb (leF (Qv F)) (Qb (QH E) (Qb (Qu C) (Q2 QM N (Qb (mk1 ⟨#[97,105,109]⟩ JS K) q))));let o l:=o (.el JS::.el (Zi t4)::.obj (some 0) (.d (I t13)) (Qa k m p s t a b c e f g i) Zj::.obj (some 0) (.d (I t14)) (Qa k m p s t a b c e f g i) Zj::.ret (I t15)::l);obtain⟨G,h⟩|⟨G,h⟩:=io h
   ·have⟨t17,A,h⟩:=bo h;have⟨t18,y,h⟩:=bo h;have⟨t19,v,h⟩:=bo h;have⟨u,h⟩:=gd h;have⟨t21,j,h⟩:=bo h;have⟨t22,z,h⟩:=bo h;have⟨t23,x,h⟩:=bo h;have⟨t24,H,h⟩:=bo h;have⟨t25,L,h⟩:=bo h;have⟨t26,O,h⟩:=bo h;obtain rfl:=oi h;exact rfO 0 (o [b0,.ix (-9),b1,.el (Wj t17),.ix (-9),b1,.obj (some 0) (.d (.lst false 1 t18)) (Qa k m p s t a b c e f g i) Zj,.ret (I t19),b1,.ix (-9),b1,.ret (I t21),.ret (I t22),.el (QF t23),.ret (I t24),.el (QF t23),.ret (I t25),.ret (I t26)]) (Qb (leF (Qv O)) (Qb (Qs L) (Qb (Q0 QB x) (Qb (Qs H) (Qb (Q0 QB x) (Qb (Qs z) (Qb (Qs j) (Qb u (Qb (QJ v) (Qb (Qz y) (Q2 Zb A (Qb (nef G) q))))))))))))
   obtain rfl:=oi h;exact rfO 0 (o [b1]) (Qb (net G) q)
  obtain⟨C,h⟩|⟨C,h⟩:=io h
  ·have⟨t14,E,h⟩:=bo h;have⟨t15,F,h⟩:=bo h;have⟨t16,G,h⟩:=bo h;have q:=Qb (leF (Qv G)) (Qb (QH F) (Qb (Qu E) (Q2 QM N (Qb (mk1 ⟨#[112,97,114,107]⟩ JR C) q))));let o l:=o (.el JR::.el (Zi t4)::.obj (some 0) (.d (I t14)) (Qa k m p s t a b c e f g i) Zj::.obj (some 0) (.d (I t15)) (Qa k m p s t a b c e f g i) Zj::.ret (I t16)::l);obtain⟨A,h⟩|⟨A,h⟩:=io h
   ·have⟨t18,y,h⟩:=bo h;have⟨t19,v,h⟩:=bo h;have⟨t20,u,h⟩:=bo h;have⟨j,h⟩:=gd h;have⟨t22,z,h⟩:=bo h;have⟨t23,x,h⟩:=bo h;obtain rfl:=oi h;exact rfO 0 (o [b0,.ix (-9),b1,.el (Wj t18),.ix (-9),b1,.obj (some 0) (.d (.lst false 1 t19)) (Qa k m p s t a b c e f g i) Zj,.ret (I t20),b1,.ix (-9),b1,.el (QF t22),.ret (I t23)]) (Qb (Qs x) (Qb (Q0 QB z) (Qb j (Qb (QJ u) (Qb (Qz v) (Q2 Zb y (Qb (nef A) q)))))))
   obtain rfl:=oi h;exact rfO 0 (o [b1]) (Qb (net A) q)
  obtain⟨E,h⟩|⟨E,h⟩:=io h
  ·have⟨t15,F,h⟩:=bo h;have⟨t16,G,h⟩:=bo h;have⟨t17,A,h⟩:=bo h;have q:=Qb (leF (Qv A)) (Qb (QH G) (Qb (Qu F) (Q2 QM N (Qb (mk1 ⟨#[100,105,109]⟩ JM E) q))));let o l:=o (.el JM::.el (Zi t4)::.obj (some 0) (.d (I t15)) (Qa k m p s t a b c e f g i) Zj::.obj (some 0) (.d (I t16)) (Qa k m p s t a b c e f g i) Zj::.ret (I t17)::l);obtain⟨y,h⟩|⟨y,h⟩:=io h
   ·obtain rfl:=oi h;exact rfO 0 (o [b0,.ix (-9),b1]) (Qb (nef y) q)
   obtain rfl:=oi h;exact rfO 0 (o [b1]) (Qb (net y) q)
  obtain⟨F,h⟩|⟨F,h⟩:=io h
  ·have⟨t16,G,h⟩:=bo h;have⟨t17,A,h⟩:=bo h;have⟨t18,y,h⟩:=bo h;have q:=Qb (leF (Qv y)) (Qb (QH A) (Qb (Qu G) (Q2 QM N (Qb (mk1 ⟨#[115,117,110]⟩ KB F) q))));let o l:=o (.el KB::.el (Zi t4)::.obj (some 0) (.d (I t16)) (Qa k m p s t a b c e f g i) Zj::.obj (some 0) (.d (I t17)) (Qa k m p s t a b c e f g i) Zj::.ret (I t18)::l);obtain⟨v,h⟩|⟨v,h⟩:=io h
   ·have⟨t20,u,h⟩:=bo h;have⟨t21,j,h⟩:=bo h;obtain rfl:=oi h;exact rfO 0 (o [b0,.ix (-9),b1,.el (Zi t20),.ret (I t21)]) (Qb (Va j) (Q2 QM u (Qb (nef v) q)))
   obtain rfl:=oi h;exact rfO 0 (o [b1]) (Qb (net v) q)
  obtain⟨G,h⟩|⟨G,h⟩:=io h
  ·have⟨t17,A,h⟩:=bo h;have⟨t18,y,h⟩:=bo h;have⟨t19,v,h⟩:=bo h;have q:=Qb (leF (Qv v)) (Qb (QH y) (Qb (Qu A) (Q2 QM N (Qb (mk1 ⟨#[102,105,108,108]⟩ KF G) q))));let o l:=o (.el KF::.el (Zi t4)::.obj (some 0) (.d (I t17)) (Qa k m p s t a b c e f g i) Zj::.obj (some 0) (.d (I t18)) (Qa k m p s t a b c e f g i) Zj::.ret (I t19)::l);obtain⟨u,h⟩|⟨u,h⟩:=io h
   ·have⟨t21,j,h⟩:=bo h;obtain rfl:=oi h;exact rfO 0 (o [b0,.ix (-9),b1,.ret (I t21)]) (Qb (Qs j) (Qb (nef u) q))
   obtain rfl:=oi h;exact rfO 0 (o [b1]) (Qb (net u) q)
  obtain⟨A,h⟩|⟨A,h⟩:=io h
  ·have⟨t18,y,h⟩:=bo h;have⟨t19,v,h⟩:=bo h;have⟨t20,u,h⟩:=bo h;have q:=Qb (leF (Qv u)) (Qb (QH v) (Qb (Qu y) (Q2 QM N (Qb (mk1 ⟨#[100,114,97,105,110]⟩ KE A) q))));let o l:=o (.el KE::.el (Zi t4)::.obj (some 0) (.d (I t18)) (Qa k m p s t a b c e f g i) Zj::.obj (some 0) (.d (I t19)) (Qa k m p s t a b c e f g i) Zj::.ret (I t20)::l);obtain⟨j,h⟩|⟨j,h⟩:=io h
   ·have⟨t22,z,h⟩:=bo h;have⟨t23,x,h⟩:=bo h;have⟨t24,H,h⟩:=bo h;have⟨t25,L,h⟩:=bo h;obtain rfl:=oi h;exact rfO 0 (o [b0,.ix (-9),b1,.ret (I t22),.obj (some 0) (.d (B t23)) (Qa k m p s t a b c e f g i) Zj,.ret (I t24),.ret (I t25)]) (Qb (leF (Qv L)) (Qb (Qs H) (Qb (qv x) (Qb (Qs z) (Qb (nef j) q)))))
   obtain rfl:=oi h;exact rfO 0 (o [b1]) (Qb (net j) q)
  obtain⟨y,h⟩|⟨y,h⟩:=io h
  ·have⟨t19,v,h⟩:=bo h;have⟨t20,u,h⟩:=bo h;have⟨t21,j,h⟩:=bo h;have q:=Qb (leF (Qv j)) (Qb (QH u) (Qb (Qu v) (Q2 QM N (Qb (mk1 ⟨#[116,114,105,112]⟩ KD y) q))));let o l:=o (.el KD::.el (Zi t4)::.obj (some 0) (.d (I t19)) (Qa k m p s t a b c e f g i) Zj::.obj (some 0) (.d (I t20)) (Qa k m p s t a b c e f g i) Zj::.ret (I t21)::l);obtain⟨z,h⟩|⟨z,h⟩:=io h
   ·have⟨t23,x,h⟩:=bo h;obtain rfl:=oi h;exact rfO 0 (o [b0,.ix (-9),b1,.ret (I t23)]) (Qb (Qs x) (Qb (nef z) q))
   obtain rfl:=oi h;exact rfO 0 (o [b1]) (Qb (net z) q)
  obtain⟨v,h⟩|⟨v,h⟩:=io h
  ·have⟨t20,u,h⟩:=bo h;have⟨t21,j,h⟩:=bo h;have⟨t22,z,h⟩:=bo h;have q:=Qb (leF (Qv z)) (Qb (QH j) (Qb (Qu u) (Q2 QM N (Qb (mk1 ⟨#[114,101,115,101,116]⟩ KC v) q))));let o l:=o (.el KC::.el (Zi t4)::.obj (some 0) (.d (I t20)) (Qa k m p s t a b c e f g i) Zj::.obj (some 0) (.d (I t21)) (Qa k m p s t a b c e f g i) Zj::.ret (I t22)::l);obtain⟨x,h⟩|⟨x,h⟩:=io h
   ·have⟨t24,H,h⟩:=bo h;obtain rfl:=oi h;exact rfO 0 (o [b0,.ix (-9),b1,.ret (I t24)]) (Qb (Qs H) (Qb (nef x) q))
   obtain rfl:=oi h;exact rfO 0 (o [b1]) (Qb (net x) q)
  obtain⟨u,h⟩|⟨u,h⟩:=io h
  ·have⟨t21,j,h⟩:=bo h;have⟨t22,z,h⟩:=bo h;have⟨t23,x,h⟩:=bo h;have q:=Qb (leF (Qv x)) (Qb (QH z) (Qb (Qu j) (Q2 QM N (Qb (mk1 ⟨#[111,102,102,101,114]⟩ KI u) q))));let o l:=o (.el KI::.el (Zi t4)::.obj (some 0) (.d (I t21)) (Qa k m p s t a b c e f g i) Zj::.obj (some 0) (.d (I t22)) (Qa k m p s t a b c e f g i) Zj::.ret (I t23)::l);obtain⟨H,h⟩|⟨H,h⟩:=io h
   ·have⟨t25,L,h⟩:=bo h;have⟨t26,O,h⟩:=bo h;have⟨t27,P,h⟩:=bo h;have⟨t28,h28,h⟩:=bo h;have⟨t29,h29,h⟩:=bo h;have⟨t30,h30,h⟩:=bo h;have⟨t31,h31,h⟩:=bo h;obtain rfl:=oi h;exact rfO 0 (o [b0,.ix (-9),b1,.ret (.tup [.agg [I t25.1,I t25.2.1],I t25.2.2]),.el (Zi t26),.ret (I t27),.el (Zi t28),.ret (I t29),.ret (I t30),.ret (I t31)]) (Qb (leF (Qv h31)) (Qb (Qs h30) (Qb (Va h29) (Q2 QM h28 (Qb (Va P) (Q2 QM O (Qb (Eo L) (Qb (nef H) q))))))))
   obtain rfl:=oi h;exact rfO 0 (o [b1]) (Qb (net H) q)
  obtain⟨j,h⟩|⟨j,h⟩:=io h
  ·have⟨t22,z,h⟩:=bo h;have⟨t23,x,h⟩:=bo h;have⟨t24,H,h⟩:=bo h;have q:=Qb (leF (Qv H)) (Qb (QH x) (Qb (Qu z) (Q2 QM N (Qb (mk1 ⟨#[100,101,108,105,118,101,114]⟩ JN j) q))));let o l:=o (.el JN::.el (Zi t4)::.obj (some 0) (.d (I t22)) (Qa k m p s t a b c e f g i) Zj::.obj (some 0) (.d (I t23)) (Qa k m p s t a b c e f g i) Zj::.ret (I t24)::l);obtain⟨L,h⟩|⟨L,h⟩:=io h
   ·have⟨t26,O,h⟩:=bo h;have⟨t27,P,h⟩:=bo h;have⟨t28,h28,h⟩:=bo h;have⟨h29,h⟩:=gd h;have⟨t30,h30,h⟩:=bo h;have⟨t31,h31,h⟩:=bo h;have⟨t32,h32,h⟩:=bo h;have q:=Qb (Q0 Zg h31) (Qb (Qs h32) (Qb (Q0 Zg h31) (Q2 QM h30 (Q2 QM N (Qb h29 (Qb (QJ h28) (Qb (Qz P) (Q2 Zb O (Qb (nef L) q)))))))));let o l:=o (b0::.ix (-9)::b1::.el (Wj t26)::.ix (-9)::b1::.obj (some 0) (.d (.lst false 1 t27)) (Qa k m p s t a b c e f g i) Zj::.ret (I t28)::b1::.el (Zi t4)::.el (Zi t30)::.el (Zr t31)::.ret (I t32)::.el (Zr t31)::l);obtain⟨T,h⟩|⟨T,h⟩:=io h
    ·have⟨t34,h34,h⟩:=bo h;have⟨t35,h35,h⟩:=bo h;have⟨t36,h36,h⟩:=bo h;have⟨t37,h37,h⟩:=bo h;have⟨t38,h38,h⟩:=bo h;have q:=Qb (leF (Qv h38)) (Qb (Qs h37) (Qb (WU h36) (Qb (Q0 Zg h31) (Qb (Qs h35) (Qb (qk h34) (Qb (jDj T) q))))));let o l:=o (b1::.ret (I t34)::.ret (I t35)::.el (Zr t31)::.ret (I t36)::.ret (I t37)::.ret (I t38)::l);obtain⟨Q,h⟩|⟨Q,h⟩:=io h
     ·have⟨h40,h⟩:=gd h;have⟨t41,h41,h⟩:=bo h;have⟨t42,h42,h⟩:=bo h;obtain rfl:=oi h;exact rfO 0 (o [b0,.obj (some 0) (.d (.agg [I t41.1,I t41.2])) (Qa k m p s t a b c e f g i) Zj,.ret (I t42)]) (Qb (Qs h42) (Qb (WT h41) (Qb h40 (Qb (nef Q) q))))
     obtain rfl:=oi h;exact rfO 0 (o [b1]) (Qb (net Q) q)
    have⟨t34,h34,h⟩:=bo h;have⟨t35,h35,h⟩:=bo h;have⟨t36,h36,h⟩:=bo h;have⟨t37,h37,h⟩:=bo h;have⟨t38,h38,h⟩:=bo h;have q:=Qb (leF (Qv h38)) (Qb (Qs h37) (Qb (WU h36) (Qb (Q0 Zg h31) (Qb (Qs h35) (Qb (Qs h34) (Qb (Q0 Zg h31) (Qb (jEj T) q)))))));let o l:=o (b0::.el (Zr t31)::.ret (I t34)::.ret (I t35)::.el (Zr t31)::.ret (I t36)::.ret (I t37)::.ret (I t38)::l);obtain⟨Q,h⟩|⟨Q,h⟩:=io h
    ·have⟨h40,h⟩:=gd h;have⟨t41,h41,h⟩:=bo h;have⟨t42,h42,h⟩:=bo h;obtain rfl:=oi h;exact rfO 0 (o [b0,.obj (some 0) (.d (.agg [I t41.1,I t41.2])) (Qa k m p s t a b c e f g i) Zj,.ret (I t42)]) (Qb (Qs h42) (Qb (WT h41) (Qb h40 (Qb (nef Q) q))))
    obtain rfl:=oi h;exact rfO 0 (o [b1]) (Qb (net Q) q)
   obtain rfl:=oi h;exact rfO 0 (o [b1]) (Qb (net L) q)
  obtain⟨z,h⟩|⟨z,h⟩:=io h
  ·have⟨t23,x,h⟩:=bo h;have⟨t24,H,h⟩:=bo h;have⟨t25,L,h⟩:=bo h;have q:=Qb (leF (Qv L)) (Qb (QH H) (Qb (Qu x) (Q2 QM N (Qb (mk1 ⟨#[98,105,108,108]⟩ JO z) q))));let o l:=o (.el JO::.el (Zi t4)::.obj (some 0) (.d (I t23)) (Qa k m p s t a b c e f g i) Zj::.obj (some 0) (.d (I t24)) (Qa k m p s t a b c e f g i) Zj::.ret (I t25)::l);obtain⟨O,h⟩|⟨O,h⟩:=io h
   ·have⟨t27,P,h⟩:=bo h;have⟨t28,h28,h⟩:=bo h;have⟨t29,h29,h⟩:=bo h;have⟨h30,h⟩:=gd h;have⟨t31,h31,h⟩:=bo h;have⟨t32,h32,h⟩:=bo h;have⟨t33,T,h⟩:=bo h;have⟨t34,h34,h⟩:=bo h;obtain rfl:=oi h;exact rfO 0 (o [b0,.ix (-9),b1,.el (Wj t27),b1,.obj (some 0) (.d (.lst false 1 t28)) (Qa k m p s t a b c e f g i) Zj,.ret (I t29),b1,.el (Zr t31),.ret (I t32),.el (Zi t4),.el (Zr t31),.ret (I t33),.ret (I t34)]) (Qb (leF (Qv h34)) (Qb (Qs T) (Qb (Q0 Zg h31) (Q2 QM N (Qb (Qs h32) (Qb (Q0 Zg h31) (Qb h30 (Qb (QJ h29) (Qb (Qz h28) (Q2 Zb P (Qb (nef O) q)))))))))))
   obtain rfl:=oi h;exact rfO 0 (o [b1]) (Qb (net O) q)
  let o l:=o (.el KG::.el (Zi t4)::l);obtain⟨x,h⟩|⟨x,h⟩:=io h
  ·have⟨t24,H,h⟩:=bo h;have⟨t25,L,h⟩:=bo h;have⟨t26,O,h⟩:=bo h;have q:=Qb (leF (Qv O)) (Qb (QH L) (Qb (Qu H) (Q2 QM N (Qb (mk1 ⟨#[117,110,100,111]⟩ KG x) q))));let o l:=o (.obj (some 0) (.d (I t24)) (Qa k m p s t a b c e f g i) Zj::.obj (some 0) (.d (I t25)) (Qa k m p s t a b c e f g i) Zj::.ret (I t26)::l);obtain⟨P,h⟩|⟨P,h⟩:=io h
   ·obtain rfl:=oi h;exact rfO 0 (o [b0,.ix (-9),b1]) (Qb (nef P) q)
   obtain rfl:=oi h;exact rfO 0 (o [b1]) (Qb (net P) q)
  cases h
 obtain rfl:=oi h;exact rfO 0 [b1] (Qb (net Y) q)
def ZL (n:Nat)(a0 c:Int)(e f:Bool)(g h i:Int)(j d k:jVj)(b:(Int×Int)):Option (Int×Int⊕Int) := if b.1<((d).length:Int) then if 0<=b.1/\b.1<((d).length:Int) then((nth (d) (Int.toNat b.1)).bind QV).bind fun a=>if a.2.2.2.2.2=true then if Qg (1000 - a.2.2.2.1) then if Qg (a.2.2.1*(1000 - a.2.2.2.1)) then if Qg ((a.2.2.1*(1000 - a.2.2.2.1))*c) then if Qg (b.2+((a.2.2.1*(1000 - a.2.2.2.1))*c)) then if Qg (b.1+1) then some (.inl ((b.1+1),(b.2+((a.2.2.1*(1000 - a.2.2.2.1))*c)))) else none else none else none else none else none else if Qg (b.1+1) then some (.inl ((b.1+1),b.2)) else none else none else some (.inr b.2)
noncomputable def Gx (a0 c:Int)(f g:Bool)(h i j:Int)(k a l:jVj):Lp (Int×Int) (Int):=⟨fun b=>[(0,.own 21 0),(8,.own 9 0),(9,.d (I ((a).length:Int))),(10,.d (I b.1))],fun b=>[(0,.box (.agg [.d (I a0),.d (I c),.d (B f),.d (B g),.d (I h),.d (I i),.d (I j),.own 8 0,.own 9 0,.own 10 0])),(8,.row 0 1 k),(9,.row 0 6 a),(10,.row 0 7 l),(11,.box (.ptr 0 0 0 0 0)),(13,.box (.d (I b.2))),(17,.box (.ptr 0 0 0 0 0)),(21,.loop true [(6,.fn (.func 153) [] [.ptr 17 0 0 0 0]),(5,.ptr 0 0 0 0 0),(3,.ptr 13 0 0 0 0),(2,.d (I 0)),(1,.ptr 11 0 0 0 0),(0,.ptr 0 0 0 0 0)] [7] (Z3 cx.P 63 0).1 (Z3 cx.P 63 0).2 22)],fun _=>(.exit 0),fun _=>[],fun e=>[(0,.box (.agg [.d (I a0),.d (I c),.d (B f),.d (B g),.d (I h),.d (I i),.d (I j),.own 8 0,.own 9 0,.own 10 0])),(8,.row 0 1 k),(9,.row 0 6 a),(10,.row 0 7 l),(11,.box (.ptr 0 0 0 0 0)),(13,.box (.d (I e))),(17,.box (.ptr 0 0 0 0 0)),(21,.loop true [(6,.fn (.func 153) [] [.ptr 17 0 0 0 0]),(5,.ptr 0 0 0 0 0),(3,.ptr 13 0 0 0 0),(2,.d (I 0)),(1,.ptr 11 0 0 0 0),(0,.ptr 0 0 0 0 0)] [7] (Z3 cx.P 63 0).1 (Z3 cx.P 63 0).2 22)]⟩
theorem Gt {n a0 c d e f g i j k m}(p)(r)(h:ZL n a0 c d e f g i j k m p=some r):Rl (Zt cx.P 153 0) 23 22 false (Gx a0 c d e f g i j k m) p r:=by
 unfold ZL at h;obtain⟨a,h⟩|⟨a,h⟩:=io h
 ·have⟨ha2,h⟩:=gd h;have⟨ta3,ha3,h⟩:=bo h;have q:=Qb (Q0 QB ha3) (Qb ha2 (Qb (jDj a) QA));let o(l:jOj):=b1::b1::.el (QF ta3)::l;obtain⟨b,h⟩|⟨b,h⟩:=io h
  ·have⟨ha5,h⟩:=gd h;have⟨ha6,h⟩:=gd h;have⟨ha7,h⟩:=gd h;have⟨ha8,h⟩:=gd h;have⟨ha9,h⟩:=gd h;cases h;exact rn 28 (o [b1,.no]) [] [0,8,9,10] [0,8,9,10,11,13,17,21] (Qb ha9 (Qb ha8 (Qb ha7 (Qb ha6 (Qb ha5 (Qb b q))))))
  have⟨ha5,h⟩:=gd h;cases h;exact rn 28 (o [b0,.no]) [] [0,8,9,10] [0,8,9,10,11,13,17,21] (Qb ha5 (Qb (Zy b) q))
 cases h;exact rx 28 [b0] [] [] [0,8,9,10,11,13,17,21] (Qb (jEj a) QA)
def WX (n:Nat)(a0 a:Int)(b c:Bool)(d e f:Int)(g h i:jVj):Option (Int) := (QU (ZL n a0 a b c d e f g h i) n (0,0)).bind fun t1=>some t1
theorem Xz {n a0 a b c e f g i j k r}(h:WX n a0 a b c e f g i j k=some r):ComputesO cx 63 [.ptr 0 0 0 0 0] (some (QI a0 a b c e f g i j k)) (.d (I r)) (QI a0 a b c e f g i j k) jv:=by unfold WX at h;have⟨t1,h1,h⟩:=bo h;obtain rfl:=oi h;exact rfO 0 [b1,.lp [] [0,8,9,10] [0,8,9,10,11,13,17,21] (.exit 0) [] [(0,.box (.agg [.d (I a0),.d (I a),.d (B b),.d (B c),.d (I e),.d (I f),.d (I g),.own 8 0,.own 9 0,.own 10 0])),(8,.row 0 1 i),(9,.row 0 6 j),(10,.row 0 7 k),(11,.box (.ptr 0 0 0 0 0)),(13,.box (.d (I t1))),(17,.box (.ptr 0 0 0 0 0)),(21,.loop true [(6,.fn (.func 153) [] [.ptr 17 0 0 0 0]),(5,.ptr 0 0 0 0 0),(3,.ptr 13 0 0 0 0),(2,.d (I 0)),(1,.ptr 11 0 0 0 0),(0,.ptr 0 0 0 0 0)] [7] (Z3 cx.P 63 0).1 (Z3 cx.P 63 0).2 22)] 70] (Qb (QE Gt h1) QA)
def WB (n:Nat)(a0 a e:Int)(f g:Bool)(c d h:Int)(i j b:jVj):Option (Int×Int) := (WX n a e f g c d h i j b).bind fun t1=>if Qg (a0 - a) then if Qg (t1*(a0 - a)) then if Qg (c+(t1*(a0 - a))) then if Qg (d+(t1*(a0 - a))) then some ((c+(t1*(a0 - a))),(d+(t1*(a0 - a)))) else none else none else none else none
theorem GC {n a0 b c e f g i j k l a r}(h:WB n a0 b c e f g i j k l a=some r):ComputesO cx 39 [.ptr 0 0 0 0 0,.d (I a0)] (some (QI b c e f g i j k l a)) (.d (.agg [I r.1,I r.2])) (QI b c e f g i j k l a) jv:=by unfold WB at h;have⟨t1,h1,h⟩:=bo h;have⟨h2,h⟩:=gd h;have⟨h3,h⟩:=gd h;have⟨h4,h⟩:=gd h;have⟨h5,h⟩:=gd h;cases h;exact rfO 0 [.obj (some 0) (.d (I t1)) (QI b c e f g i j k l a) jv] (Qb h5 (Qb h4 (Qb h3 (Qb h2 (Qb (Xz h1) QA)))))
def ZE (n:Nat)(f g:Int)(h i:Bool)(j k l:Int)(m c e:jVj)(b:(Int×jVj)):Option (Int×jVj⊕jVj) := if b.1<((c).length:Int) then if 0<=b.1/\b.1<((c).length:Int) then((nth (c) (Int.toNat b.1)).bind QV).bind fun a=>(QZ n a.1 a.2.1 a.2.2.1 a.2.2.2.1 a.2.2.2.2.1 a.2.2.2.2.2).bind fun d=>if Wi 16 ((b.2).length+1) then if Qg (b.1+1) then some (.inl ((b.1+1),(b.2++([.v (.string d)]:jVj)))) else none else none else none else some (.inr b.2)
noncomputable def JG (f g:Int)(h i:Bool)(j k l:Int)(m b a:jVj):Lp (Int×jVj) (jVj):=⟨fun c=>[(1,.d (.fn (.func 155) [] [])),(5,.own 28 0),(8,.own 9 0),(9,.d (I ((b).length:Int))),(10,.d (I c.1))],fun c=>[(0,.box (.agg [.d (I f),.d (I g),.d (B h),.d (B i),.d (I j),.d (I k),.d (I l),.own 8 0,.own 9 0,.own 10 0])),(8,.row 0 1 m),(9,.row 0 6 b),(10,.row 0 7 a),(28,.row 0 1 c.2)],fun _=>(.exit 0),fun _=>[(5,.own 28 0)],fun e=>[(0,.box (.agg [.d (I f),.d (I g),.d (B h),.d (B i),.d (I j),.d (I k),.d (I l),.own 8 0,.own 9 0,.own 10 0])),(8,.row 0 1 m),(9,.row 0 6 b),(10,.row 0 7 a),(28,.row 0 1 e)]⟩
theorem JE {n c d e f g i j k l b}(m)(r)(h:ZE n c d e f g i j k l b m=some r):Rl (Zt cx.P 65 0) 22 23 false (JG c d e f g i j k l b) m r:=by
 unfold ZE at h;obtain⟨a,h⟩|⟨a,h⟩:=io h
 ·have⟨ha2,h⟩:=gd h;have⟨ta3,ha3,h⟩:=bo h;have⟨ta4,ha4,h⟩:=bo h;have⟨ha5,h⟩:=gd h;have⟨ha6,h⟩:=gd h;cases h;exact rn 29 [b1,b1,.el (QF ta3),.ret (Qe ta4),b1] [] [1,5,8,9,10] [0,8,9,10,28] (Qb ha6 (Qb (ro 9 ha5) (Qb (Uq ha4) (Qb (Q0 QB ha3) (Qb ha2 (Qb (jDj a) QA))))))
 cases h;exact rx 29 [b0] [] [5] [0,8,9,10,28] (Qb (jEj a) QA)
def ZD (n:Nat)(e f:Int)(g h:Bool)(i j k:Int)(l m c:jVj)(b:(Int×jVj)):Option (Int×jVj⊕jVj) := if b.1<((c).length:Int) then if 0<=b.1/\b.1<((c).length:Int) then((nth (c) (Int.toNat b.1)).bind Z4).bind fun a=>(ZT n a.1 a.2.1 a.2.2.1 a.2.2.2.1 a.2.2.2.2.1 a.2.2.2.2.2.1 a.2.2.2.2.2.2).bind fun d=>if Wi 16 ((b.2).length+1) then if Qg (b.1+1) then some (.inl ((b.1+1),(b.2++([.v (.string d)]:jVj)))) else none else none else none else some (.inr b.2)
noncomputable def JF (c f:Int)(g h:Bool)(i j k:Int)(l m a:jVj):Lp (Int×jVj) (jVj):=⟨fun b=>[(1,.d (.fn (.func 157) [] [])),(5,.own 28 0),(8,.own 10 0),(9,.d (I ((a).length:Int))),(10,.d (I b.1))],fun b=>[(0,.box (.agg [.d (I c),.d (I f),.d (B g),.d (B h),.d (I i),.d (I j),.d (I k),.own 8 0,.own 9 0,.own 10 0])),(8,.row 0 1 l),(9,.row 0 6 m),(10,.row 0 7 a),(28,.row 0 1 b.2)],fun _=>(.exit 0),fun _=>[(5,.own 28 0)],fun e=>[(0,.box (.agg [.d (I c),.d (I f),.d (B g),.d (B h),.d (I i),.d (I j),.d (I k),.own 8 0,.own 9 0,.own 10 0])),(8,.row 0 1 l),(9,.row 0 6 m),(10,.row 0 7 a),(28,.row 0 1 e)]⟩
theorem JC {n c d e f g i j k l b}(m)(r)(h:ZD n c d e f g i j k l b m=some r):Rl (Zt cx.P 156 0) 22 23 false (JF c d e f g i j k l b) m r:=by
 unfold ZD at h;obtain⟨a,h⟩|⟨a,h⟩:=io h
 ·have⟨ha2,h⟩:=gd h;have⟨ta3,ha3,h⟩:=bo h;have⟨ta4,ha4,h⟩:=bo h;have⟨ha5,h⟩:=gd h;have⟨ha6,h⟩:=gd h;cases h;exact rn 29 [b1,b1,.el (Zr ta3),.ret (Qe ta4),b1] [] [1,5,8,9,10] [0,8,9,10,28] (Qb ha6 (Qb (ro 9 ha5) (Qb (Up ha4) (Qb (Q0 Zg ha3) (Qb ha2 (Qb (jDj a) QA))))))
 cases h;exact rx 29 [b0] [] [5] [0,8,9,10,28] (Qb (jEj a) QA)
def QO (n:Nat)(a0 c d:Int)(e f:Bool)(g h i:Int)(j k a:jVj):Option (jVj) := if a0=115 then none else if a0=109 then(QU (ZE n c d e f g h i j k a) n (0,[])).bind fun b=>some b else(QU (ZD n c d e f g h i j k a) n (0,[])).bind fun b=>some b
theorem Zo {n a0 b c e f g i j k l a r}(h:QO n a0 b c e f g i j k l a=some r):ComputesO cx 82 [.ptr 0 0 0 0 0,.d (.v (.int .u8 a0))] (some (QI b c e f g i j k l a)) (.d (.lst false 1 r)) (QI b c e f g i j k l a) jv:=by
 unfold QO at h;obtain⟨o,h⟩|⟨o,h⟩:=io h
 ·cases h
 have q:=Qb (eqf o) QA;obtain⟨m,h⟩|⟨m,h⟩:=io h
 ·have⟨t3,h3,h⟩:=bo h;obtain rfl:=oi h;exact rfO 0 [b0,b1,b1,.lp [5,1] [1,5,8,9,10] [0,8,9,10,28] (.exit 0) [(5,.own 28 0)] [(0,.box (.agg [.d (I b),.d (I c),.d (B e),.d (B f),.d (I g),.d (I i),.d (I j),.own 8 0,.own 9 0,.own 10 0])),(8,.row 0 1 k),(9,.row 0 6 l),(10,.row 0 7 a),(28,.row 0 1 t3)] 54] (Qb (QE JE h3) (Qb (eqt m) q))
 have⟨t3,h3,h⟩:=bo h;obtain rfl:=oi h;exact rfO 0 [b0,b0,b1,.lp [5,1] [1,5,8,9,10] [0,8,9,10,28] (.exit 0) [(5,.own 28 0)] [(0,.box (.agg [.d (I b),.d (I c),.d (B e),.d (B f),.d (I g),.d (I i),.d (I j),.own 8 0,.own 9 0,.own 10 0])),(8,.row 0 1 k),(9,.row 0 6 l),(10,.row 0 7 a),(28,.row 0 1 t3)] 54] (Qb (QE JC h3) (Qb (eqf m) q))
def WW (n:Nat)(a0 a:jSj)(d e:Int)(f g:Bool)(h:Int)(i:jSj)(c j:jVj)(b:jSj):Option (Bool) := (el Vg c 0).bind fun t1=>some (a.toList==t1.toList)
theorem Jh {n a0 b c d e f g i j k a r}(h:WW n a0 b c d e f g i j k a=some r):Computes cx 103 [.agg [Qe a0,Qe b,I c,I d,B e,B f],.ref (.agg [I g,Qe i,.lst false 1 j,.lst false 1 k,Qe a]) 0] (B r):=by unfold WW at h;have⟨t1,h1,h⟩:=bo h;cases h;exact rf [.el (Wj t1)] (Q2 Zb h1 QA)
def Z6 (n:Nat)(a0:Int)(e:jSj)(j k:jVj)(l:jSj)(m o:Int)(p q:Bool)(r f g:Int)(h c i:jVj)(b:(Int×jVj)):Option (Int×jVj⊕jVj) := if b.1<((c).length:Int) then if 0<=b.1/\b.1<((b.2).length:Int) then((nth (b.2) (Int.toNat b.1)).bind QV).bind fun a=>(WW n a.1 a.2.1 a.2.2.1 a.2.2.2.1 a.2.2.2.2.1 a.2.2.2.2.2 a0 e j k l).bind fun d=>if d=true then if Qg (b.1+1) then some (.inl ((b.1+1),(List.set b.2 (Int.toNat b.1) (.agg [.v (.string a.1),.v (.string a.2.1),I a.2.2.1,I a.2.2.2.1,B a.2.2.2.2.1,B false]:D)))) else none else if Qg (b.1+1) then some (.inl ((b.1+1),b.2)) else none else none else some (.inr b.2)
noncomputable def Xg (a0:Int)(n:jSj)(o p:jVj)(q:jSj)(i j:Int)(k l:Bool)(m a b:Int)(c g f:jVj):Lp (Int×jVj) (jVj):=⟨fun h=>[(0,.ptr 0 0 0 0 0),(1,.d (.fn (.func 103) [] [.ref (.agg [I a0,Qe n,.lst false 1 o,.lst false 1 p,Qe q]) 0])),(9,.own 9 0),(10,.d (I ((g).length:Int))),(11,.d (I h.1))],fun h=>[(0,.box (.agg [.d (I i),.d (I j),.d (B k),.d (B l),.d (I m),.d (I a),.d (I b),.own 8 0,.own 9 0,.own 10 0])),(8,.row 0 1 c),(9,.row 0 6 h.2),(10,.row 0 7 f)],fun _=>(.exit 0),fun _=>[],fun e=>[(0,.box (.agg [.d (I i),.d (I j),.d (B k),.d (B l),.d (I m),.d (I a),.d (I b),.own 8 0,.own 9 0,.own 10 0])),(8,.row 0 1 c),(9,.row 0 6 e),(10,.row 0 7 f)]⟩
theorem Xd {n a0 i j k m p s t u v c d e f g}(x)(r)(h:Z6 n a0 i j k m p s t u v c d e f g x=some r):Rl (Zt cx.P 102 0) 27 11 false (Xg a0 i j k m p s t u v c d e f g) x r:=by
 unfold Z6 at h;obtain⟨a,h⟩|⟨a,h⟩:=io h
 ·have⟨ha2,h⟩:=gd h;have⟨ta3,ha3,h⟩:=bo h;have⟨ta4,ha4,h⟩:=bo h;have q:=Qb (Jh ha4) (Qb (Q0 QB ha3) (Qb ha2 (Qb (jDj a) QA)));let o(l:jOj):=b1::b1::.el (QF ta3)::.ret (B ta4)::l;obtain⟨b,h⟩|⟨b,h⟩:=io h
  ·have⟨ha6,h⟩:=gd h;cases h;exact rn 17 (o [b1,b1,.el (QF ta3)]) [] [0,1,9,10,11] [0,8,9,10] (Qb ha6 (Qb (Q0 QB ha3) (Qb ha2 (Qb b q))))
  have⟨ha6,h⟩:=gd h;cases h;exact rn 17 (o [b0]) [] [0,1,9,10,11] [0,8,9,10] (Qb ha6 (Qb (Zy b) q))
 cases h;exact rx 17 [b0] [] [] [0,8,9,10] (Qb (jEj a) QA)
def Vi (n:Nat)(a0:Int)(f:jSj)(g h:jVj)(i:jSj)(j k:Int)(l m:Bool)(o b c:Int)(d a e:jVj):Option (jVj) := (QU (Z6 n a0 f g h i j k l m o b c d a e) n (0,a)).bind fun t1=>some t1
theorem EE {n a0 m o p q g i j k l a b c f e r}(h:Vi n a0 m o p q g i j k l a b c f e=some r):ComputesO cx 102 [.ptr 0 0 0 0 0,.d (.fn (.func 103) [] [.ref (.agg [I a0,Qe m,.lst false 1 o,.lst false 1 p,Qe q]) 0])] (some (QI g i j k l a b c f e)) (.d (.tup [])) (QI g i j k l a b c r e) [false,false,false,false,false,false,false,true,true,true]:=by unfold Vi at h;have⟨t1,h1,h⟩:=bo h;obtain rfl:=oi h;exact rfO 0 [.lp [] [0,1,9,10,11] [0,8,9,10] (.exit 0) [] [(0,.box (.agg [.d (I g),.d (I i),.d (B j),.d (B k),.d (I l),.d (I a),.d (I b),.own 8 0,.own 9 0,.own 10 0])),(8,.row 0 1 c),(9,.row 0 6 t1),(10,.row 0 7 e)] 48] (Qb (QE Xd h1) QA)
def WV (n:Nat)(a0 a:jSj)(b c:Int)(d e:Bool):Option (Bool) := some true
theorem Jg {n a0 a b c d e r}(h:WV n a0 a b c d e=some r):Computes cx 113 [.agg [Qe a0,Qe a,I b,I c,B d,B e]] (B r):=by unfold WV at h;obtain rfl:=oi h;exact rf [] QA
def ZO (n:Nat)(a0 e:Int)(f g:Bool)(h i j:Int)(k d l:jVj)(b:(Int×jVj)):Option (Int×jVj⊕jVj) := if b.1<((d).length:Int) then if 0<=b.1/\b.1<((b.2).length:Int) then((nth (b.2) (Int.toNat b.1)).bind QV).bind fun a=>(WV n a.1 a.2.1 a.2.2.1 a.2.2.2.1 a.2.2.2.2.1 a.2.2.2.2.2).bind fun c=>if c=true then if Qg (b.1+1) then some (.inl ((b.1+1),(List.set b.2 (Int.toNat b.1) (.agg [.v (.string a.1),.v (.string a.2.1),I a.2.2.1,I a.2.2.2.1,B a.2.2.2.2.1,B false]:D)))) else none else if Qg (b.1+1) then some (.inl ((b.1+1),b.2)) else none else none else some (.inr b.2)
noncomputable def GA (a0 b:Int)(c f:Bool)(g h i:Int)(j l k:jVj):Lp (Int×jVj) (jVj):=⟨fun a=>[(0,.ptr 0 0 0 0 0),(1,.d (.fn (.func 113) [] [])),(9,.own 9 0),(10,.d (I ((l).length:Int))),(11,.d (I a.1))],fun a=>[(0,.box (.agg [.d (I a0),.d (I b),.d (B c),.d (B f),.d (I g),.d (I h),.d (I i),.own 8 0,.own 9 0,.own 10 0])),(8,.row 0 1 j),(9,.row 0 6 a.2),(10,.row 0 7 k)],fun _=>(.exit 0),fun _=>[],fun e=>[(0,.box (.agg [.d (I a0),.d (I b),.d (B c),.d (B f),.d (I g),.d (I h),.d (I i),.own 8 0,.own 9 0,.own 10 0])),(8,.row 0 1 j),(9,.row 0 6 e),(10,.row 0 7 k)]⟩
theorem Gw {n a0 c d e f g i j k m}(p)(r)(h:ZO n a0 c d e f g i j k m p=some r):Rl (Zt cx.P 102 0) 27 11 false (GA a0 c d e f g i j k m) p r:=by
 unfold ZO at h;obtain⟨a,h⟩|⟨a,h⟩:=io h
 ·have⟨ha2,h⟩:=gd h;have⟨ta3,ha3,h⟩:=bo h;have⟨ta4,ha4,h⟩:=bo h;have q:=Qb (Jg ha4) (Qb (Q0 QB ha3) (Qb ha2 (Qb (jDj a) QA)));let o(l:jOj):=b1::b1::.el (QF ta3)::.ret (B ta4)::l;obtain⟨b,h⟩|⟨b,h⟩:=io h
  ·have⟨ha6,h⟩:=gd h;cases h;exact rn 17 (o [b1,b1,.el (QF ta3)]) [] [0,1,9,10,11] [0,8,9,10] (Qb ha6 (Qb (Q0 QB ha3) (Qb ha2 (Qb b q))))
  have⟨ha6,h⟩:=gd h;cases h;exact rn 17 (o [b0]) [] [0,1,9,10,11] [0,8,9,10] (Qb ha6 (Qb (Zy b) q))
 cases h;exact rx 17 [b0] [] [] [0,8,9,10] (Qb (jEj a) QA)
def W0 (n:Nat)(a0 b:Int)(c d:Bool)(e f g:Int)(h a i:jVj):Option (jVj) := (QU (ZO n a0 b c d e f g h a i) n (0,a)).bind fun t1=>some t1
theorem XC {n a0 a b c e f g i k j r}(h:W0 n a0 a b c e f g i k j=some r):ComputesO cx 102 [.ptr 0 0 0 0 0,.d (.fn (.func 113) [] [])] (some (QI a0 a b c e f g i k j)) (.d (.tup [])) (QI a0 a b c e f g i r j) [false,false,false,false,false,false,false,true,true,true]:=by unfold W0 at h;have⟨t1,h1,h⟩:=bo h;obtain rfl:=oi h;exact rfO 0 [.lp [] [0,1,9,10,11] [0,8,9,10] (.exit 0) [] [(0,.box (.agg [.d (I a0),.d (I a),.d (B b),.d (B c),.d (I e),.d (I f),.d (I g),.own 8 0,.own 9 0,.own 10 0])),(8,.row 0 1 i),(9,.row 0 6 t1),(10,.row 0 7 j)] 48] (Qb (QE Gw h1) QA)
def WQ (n:Nat)(a0:jSj)(d e f a b:Int)(g:Bool):Option (Int) := if Qg (a*b) then if Qg (2*a) then(Za n a0 d e f a b g).bind fun c=>if Qg ((2*a)*c) then if Qg ((a*b) - ((2*a)*c)) then some ((a*b) - ((2*a)*c)) else none else none else none else none
theorem UH {n a0 a b c d e f r}(h:WQ n a0 a b c d e f=some r):Computes cx 45 [.agg [Qe a0,I a,I b,I c,I d,I e,B f]] (I r):=by unfold WQ at h;have⟨h1,h⟩:=gd h;have⟨h2,h⟩:=gd h;have⟨t3,h3,h⟩:=bo h;have⟨h4,h⟩:=gd h;have⟨h5,h⟩:=gd h;cases h;exact rf [.ret (I t3)] (Qb h5 (Qb h4 (Qb (WU h3) (Qb h2 (Qb h1 QA)))))
def Qy (n:Nat)(a0:Int)(m:jSj)(r y:jVj)(L:jSj)(M h:Int)(i j:Bool)(N H c:Int)(d a b:jVj):Option (jRj) := (el V5 y 0).bind fun t1=>(WB n t1 M h i j N H c d a b).bind fun t2=>if m.data.toList=[115,101,99,116,111,114] then(el Vg r 0).bind fun t4=>if Wi 16 ((d).length+1) then some (t1,h,i,j,t2.1,t2.2,c,(d++([.v (.string t4)]:jVj)),a,b) else none else if m.data.toList=[109,105,114,114,111,114] then(el Vg r 0).bind fun O=>(el Vg r 1).bind fun K=>(el V5 y 1).bind fun G=>if Wi 56 ((a).length+1) then some (t1,h,i,j,t2.1,t2.2,c,d,(a++([.agg [.v (.string O),.v (.string K),I G,I 0,B false,B false]]:jVj)),b) else none else if m.data.toList=[115,111,105,108] then(el Vg r 0).bind fun K=>(QO n 109 t1 h i j t2.1 t2.2 c d a b).bind fun G=>(QC n G K).bind fun z=>if 0<=z/\z<((a).length:Int) then(el V5 y 1).bind fun l=>((nth (a) (Int.toNat z)).bind QV).bind fun e=>some (t1,h,i,j,t2.1,t2.2,c,d,(List.set a (Int.toNat z) (.agg [.v (.string e.1),.v (.string e.2.1),I e.2.2.1,I l,B e.2.2.2.2.1,B e.2.2.2.2.2]:D)),b) else none else if m.data.toList=[99,108,101,97,110] then(el Vg r 0).bind fun G=>(QO n 109 t1 h i j t2.1 t2.2 c d a b).bind fun z=>(QC n z G).bind fun A=>if 0<=A/\A<((a).length:Int) then((nth (a) (Int.toNat A)).bind QV).bind fun e=>some (t1,h,i,j,t2.1,t2.2,c,d,(List.set a (Int.toNat A) (.agg [.v (.string e.1),.v (.string e.2.1),I e.2.2.1,I 0,B e.2.2.2.2.1,B e.2.2.2.2.2]:D)),b) else none else if m.data.toList=[100,101,102,101,99,116] then(el Vg r 0).bind fun z=>(QO n 109 t1 h i j t2.1 t2.2 c d a b).bind fun A=>(QC n A z).bind fun l=>if 0<=l/\l<((a).length:Int) then((nth (a) (Int.toNat l)).bind QV).bind fun g=>some (t1,h,i,j,t2.1,t2.2,c,d,(List.set a (Int.toNat l) (.agg [.v (.string g.1),.v (.string g.2.1),I g.2.2.1,I g.2.2.2.1,B true,B g.2.2.2.2.2]:D)),b) else none else if m.data.toList=[114,101,112,97,105,114] then(el Vg r 0).bind fun A=>(QO n 109 t1 h i j t2.1 t2.2 c d a b).bind fun l=>(QC n l A).bind fun e=>if 0<=e/\e<((a).length:Int) then((nth (a) (Int.toNat e)).bind QV).bind fun k=>some (t1,h,i,j,t2.1,t2.2,c,d,(List.set a (Int.toNat e) (.agg [.v (.string k.1),.v (.string k.2.1),I k.2.2.1,I k.2.2.2.1,B false,B k.2.2.2.2.2]:D)),b) else none else if m.data.toList=[97,105,109] then(el Vg r 0).bind fun l=>(QO n 109 t1 h i j t2.1 t2.2 c d a b).bind fun e=>(QC n e l).bind fun g=>if 0<=g/\g<((a).length:Int) then((nth (a) (Int.toNat g)).bind QV).bind fun t=>some (t1,h,i,j,t2.1,t2.2,c,d,(List.set a (Int.toNat g) (.agg [.v (.string t.1),.v (.string t.2.1),I t.2.2.1,I t.2.2.2.1,B t.2.2.2.2.1,B true]:D)),b) else none else if m.data.toList=[112,97,114,107] then(el Vg r 0).bind fun e=>(QO n 109 t1 h i j t2.1 t2.2 c d a b).bind fun g=>(QC n g e).bind fun k=>if 0<=k/\k<((a).length:Int) then((nth (a) (Int.toNat k)).bind QV).bind fun u=>some (t1,h,i,j,t2.1,t2.2,c,d,(List.set a (Int.toNat k) (.agg [.v (.string u.1),.v (.string u.2.1),I u.2.2.1,I u.2.2.2.1,B u.2.2.2.2.1,B false]:D)),b) else none else if m.data.toList=[100,105,109] then(Vi n a0 m r y L t1 h i j t2.1 t2.2 c d a b).bind fun g=>some (t1,h,i,j,t2.1,t2.2,c,d,g,b) else if m.data.toList=[115,117,110] then(el V5 y 1).bind fun k=>some (t1,k,i,j,t2.1,t2.2,c,d,a,b) else if m.data.toList=[102,105,108,108] then some (t1,h,true,j,t2.1,t2.2,c,d,a,b) else if m.data.toList=[100,114,97,105,110] then some (t1,h,false,j,t2.1,t2.2,c,d,a,b) else if m.data.toList=[116,114,105,112] then(W0 n t1 h i true t2.1 t2.2 c d a b).bind fun J=>some (t1,h,i,true,t2.1,t2.2,c,d,J,b) else if m.data.toList=[114,101,115,101,116] then some (t1,h,i,false,t2.1,t2.2,c,d,a,b) else if m.data.toList=[111,102,102,101,114] then(Vb n a0 m r y L).bind fun E=>(el Vg r 0).bind fun C=>(el V5 y 3).bind fun x=>(el V5 y 4).bind fun o=>if Wi 64 ((b).length+1) then some (t1,h,i,j,t2.1,t2.2,c,d,a,(b++([.agg [.v (.string C),I E.1,I E.2.1,I x,I o,I 0,B false]]:jVj))) else none else if m.data.toList=[100,101,108,105,118,101,114] then(el Vg r 0).bind fun C=>(QO n 111 t1 h i j t2.1 t2.2 c d a b).bind fun x=>(QC n x C).bind fun o=>if 0<=o/\o<((b).length:Int) then((nth (b) (Int.toNat o)).bind Z4).bind fun p=>(el V5 y 1).bind fun f=>if Qg (p.2.2.2.2.2.1+f) then if Qg (1000000*f) then if Qg (t2.2 - (1000000*f)) then some (t1,h,i,j,t2.1,(t2.2 - (1000000*f)),c,d,a,(List.set b (Int.toNat o) (.agg [.v (.string p.1),I p.2.1,I p.2.2.1,I p.2.2.2.1,I p.2.2.2.2.1,I (p.2.2.2.2.2.1+f),B p.2.2.2.2.2.2]:D))) else none else none else none else none else if m.data.toList=[98,105,108,108] then(el Vg r 0).bind fun x=>(QO n 111 t1 h i j t2.1 t2.2 c d a b).bind fun o=>(QC n o x).bind fun s=>if 0<=s/\s<((b).length:Int) then((nth (b) (Int.toNat s)).bind Z4).bind fun f=>((nth ((List.set b (Int.toNat s) (.agg [.v (.string f.1),I f.2.1,I f.2.2.1,I f.2.2.2.1,I f.2.2.2.2.1,I f.2.2.2.2.2.1,B true]:D)):jVj) (Int.toNat s)).bind Z4).bind fun q=>(WQ n q.1 q.2.1 q.2.2.1 q.2.2.2.1 q.2.2.2.2.1 q.2.2.2.2.2.1 q.2.2.2.2.2.2).bind fun F=>if Qg (c+F) then some (t1,h,i,j,t2.1,t2.2,(c+F),d,a,(List.set b (Int.toNat s) (.agg [.v (.string f.1),I f.2.1,I f.2.2.1,I f.2.2.2.1,I f.2.2.2.2.1,I f.2.2.2.2.2.1,B true]:D))) else none else none else if m.data.toList=[117,110,100,111] then some (t1,h,i,j,t2.1,t2.2,c,d,a,b) else none
theorem Kb {n a0 M N O P K m p u L E b c i e r}(h:Qy n a0 M N O P K m p u L E b c i e=some r):ComputesO cx 133 [.ptr 0 0 0 0 0,.d (.agg [I a0,Qe M,.lst false 1 N,.lst false 1 O,Qe P])] (some (QI K m p u L E b c i e)) (.d (.tup [])) (QI' r) []:=by
 unfold Qy at h;have⟨t1,h1,h⟩:=bo h;have⟨t2,h2,h⟩:=bo h;have q:=Q2 QM h1 (Qb (GC h2) (Q2 QM h1 QA));let o(l:jOj):=.el (Zi t1)::.obj (some 0) (.d (.agg [I t2.1,I t2.2])) (QI K m p u L E b c i e) jv::.el (Zi t1)::b1::(no 28 l);obtain⟨Q,h⟩|⟨Q,h⟩:=io h
 ·have⟨t4,J,h⟩:=bo h;have⟨F,h⟩:=gd h;cases h;exact rfO 0 (o [.el KH,.ix (-9),b1,.el (Wj t4),b1]) (Qb (ro 9 F) (Q2 Zb J (Qb (mk1 ⟨#[115,101,99,116,111,114]⟩ KH Q) q)))
 obtain⟨J,h⟩|⟨J,h⟩:=io h
 ·have⟨t5,F,h⟩:=bo h;have⟨t6,G,h⟩:=bo h;have⟨t7,C,h⟩:=bo h;have⟨v,h⟩:=gd h;cases h;exact rfO 0 (o [.el KJ,.ix (-9),b1,.el (Wj t5),.el (Wj t6),.el (Zi t7),b1]) (Qb (ro 143 v) (Q2 QM C (Q2 Zb G (Q2 Zb F (Qb (mk1 ⟨#[109,105,114,114,111,114]⟩ KJ J) q)))))
 obtain⟨F,h⟩|⟨F,h⟩:=io h
 ·have⟨t6,G,h⟩:=bo h;have⟨t7,C,h⟩:=bo h;have⟨t8,v,h⟩:=bo h;have⟨x,h⟩:=gd h;have⟨t10,f,h⟩:=bo h;have⟨t11,a,h⟩:=bo h;cases h;exact rfO 0 (o [.el JP,.ix (-9),b1,.el (Wj t6),.ix (-9),b1,.obj (some 0) (.d (.lst false 1 t7)) (QI t1 m p u t2.1 t2.2 b c i e) jv,.ret (I t8),b1,.ix (-9),b1,.el (Zi t10),.el (QF t11)]) (Qb (Q0 QB a) (Q2 QM f (Qb x (Qb (QJ v) (Qb (Zo C) (Q2 Zb G (Qb (mk1 ⟨#[115,111,105,108]⟩ JP F) q)))))))
 obtain⟨G,h⟩|⟨G,h⟩:=io h
 ·have⟨t7,C,h⟩:=bo h;have⟨t8,v,h⟩:=bo h;have⟨t9,x,h⟩:=bo h;have⟨f,h⟩:=gd h;have⟨t11,a,h⟩:=bo h;cases h;exact rfO 0 (o [.el JQ,.ix (-9),b1,.el (Wj t7),.ix (-9),b1,.obj (some 0) (.d (.lst false 1 t8)) (QI t1 m p u t2.1 t2.2 b c i e) jv,.ret (I t9),b1,.ix (-9),b1,.el (QF t11)]) (Qb (Q0 QB a) (Qb f (Qb (QJ x) (Qb (Zo v) (Q2 Zb C (Qb (mk1 ⟨#[99,108,101,97,110]⟩ JQ G) q))))))
 obtain⟨C,h⟩|⟨C,h⟩:=io h
 ·have⟨t8,v,h⟩:=bo h;have⟨t9,x,h⟩:=bo h;have⟨t10,f,h⟩:=bo h;have⟨a,h⟩:=gd h;have⟨t12,g,h⟩:=bo h;cases h;exact rfO 0 (o [.el JU,.ix (-9),b1,.el (Wj t8),.ix (-9),b1,.obj (some 0) (.d (.lst false 1 t9)) (QI t1 m p u t2.1 t2.2 b c i e) jv,.ret (I t10),b1,.ix (-9),b1,.el (QF t12)]) (Qb (Q0 QB g) (Qb a (Qb (QJ f) (Qb (Zo x) (Q2 Zb v (Qb (mk1 ⟨#[100,101,102,101,99,116]⟩ JU C) q))))))
 obtain⟨v,h⟩|⟨v,h⟩:=io h
 ·have⟨t9,x,h⟩:=bo h;have⟨t10,f,h⟩:=bo h;have⟨t11,a,h⟩:=bo h;have⟨g,h⟩:=gd h;have⟨t13,j,h⟩:=bo h;cases h;exact rfO 0 (o [.el JT,.ix (-9),b1,.el (Wj t9),.ix (-9),b1,.obj (some 0) (.d (.lst false 1 t10)) (QI t1 m p u t2.1 t2.2 b c i e) jv,.ret (I t11),b1,.ix (-9),b1,.el (QF t13)]) (Qb (Q0 QB j) (Qb g (Qb (QJ a) (Qb (Zo f) (Q2 Zb x (Qb (mk1 ⟨#[114,101,112,97,105,114]⟩ JT v) q))))))
 obtain⟨x,h⟩|⟨x,h⟩:=io h
 ·have⟨t10,f,h⟩:=bo h;have⟨t11,a,h⟩:=bo h;have⟨t12,g,h⟩:=bo h;have⟨j,h⟩:=gd h;have⟨t14,s,h⟩:=bo h;cases h;exact rfO 0 (o [.el JS,.ix (-9),b1,.el (Wj t10),.ix (-9),b1,.obj (some 0) (.d (.lst false 1 t11)) (QI t1 m p u t2.1 t2.2 b c i e) jv,.ret (I t12),b1,.ix (-9),b1,.el (QF t14)]) (Qb (Q0 QB s) (Qb j (Qb (QJ g) (Qb (Zo a) (Q2 Zb f (Qb (mk1 ⟨#[97,105,109]⟩ JS x) q))))))
 obtain⟨f,h⟩|⟨f,h⟩:=io h
 ·have⟨t11,a,h⟩:=bo h;have⟨t12,g,h⟩:=bo h;have⟨t13,j,h⟩:=bo h;have⟨s,h⟩:=gd h;have⟨t15,y,h⟩:=bo h;cases h;exact rfO 0 (o [.el JR,.ix (-9),b1,.el (Wj t11),.ix (-9),b1,.obj (some 0) (.d (.lst false 1 t12)) (QI t1 m p u t2.1 t2.2 b c i e) jv,.ret (I t13),b1,.ix (-9),b1,.el (QF t15)]) (Qb (Q0 QB y) (Qb s (Qb (QJ j) (Qb (Zo g) (Q2 Zb a (Qb (mk1 ⟨#[112,97,114,107]⟩ JR f) q))))))
 obtain⟨a,h⟩|⟨a,h⟩:=io h
 ·have⟨t12,g,h⟩:=bo h;cases h;exact rfO 0 (o [.el JM,.ix (-9),b1,.obj (some 0) (.d (.tup [])) (QI t1 m p u t2.1 t2.2 b c t12 e) [false,false,false,false,false,false,false,true,true,true]]) (Qb (EE g) (Qb (mk1 ⟨#[100,105,109]⟩ JM a) q))
 obtain⟨g,h⟩|⟨g,h⟩:=io h
 ·have⟨t13,j,h⟩:=bo h;cases h;exact rfO 0 (o [.el KB,.ix (-9),b1,.el (Zi t13)]) (Q2 QM j (Qb (mk1 ⟨#[115,117,110]⟩ KB g) q))
 obtain⟨j,h⟩|⟨j,h⟩:=io h
 ·cases h;exact rfO 0 (o [.el KF,.ix (-9),b1]) (Qb (mk1 ⟨#[102,105,108,108]⟩ KF j) q)
 obtain⟨s,h⟩|⟨s,h⟩:=io h
 ·cases h;exact rfO 0 (o [.el KE,.ix (-9),b1]) (Qb (mk1 ⟨#[100,114,97,105,110]⟩ KE s) q)
 obtain⟨y,h⟩|⟨y,h⟩:=io h
 ·have⟨t16,z,h⟩:=bo h;cases h;exact rfO 0 (o [.el KD,.ix (-9),b1,.obj (some 0) (.d (.tup [])) (QI t1 m p true t2.1 t2.2 b c t16 e) [false,false,false,false,false,false,false,true,true,true]]) (Qb (XC z) (Qb (mk1 ⟨#[116,114,105,112]⟩ KD y) q))
 obtain⟨z,h⟩|⟨z,h⟩:=io h
 ·cases h;exact rfO 0 (o [.el KC,.ix (-9),b1]) (Qb (mk1 ⟨#[114,101,115,101,116]⟩ KC z) q)
 obtain⟨H,h⟩|⟨H,h⟩:=io h
 ·have⟨t18,A,h⟩:=bo h;have⟨t19,t,h⟩:=bo h;have⟨t20,k,h⟩:=bo h;have⟨t21,h21,h⟩:=bo h;have⟨h22,h⟩:=gd h;cases h;exact rfO 0 (o [.el KI,.ix (-9),b1,.ret (.tup [.agg [I t18.1,I t18.2.1],I t18.2.2]),.el (Wj t19),.el (Zi t20),.el (Zi t21),b1]) (Qb (ro 156 h22) (Q2 QM h21 (Q2 QM k (Q2 Zb t (Qb (Eo A) (Qb (mk1 ⟨#[111,102,102,101,114]⟩ KI H) q))))))
 obtain⟨A,h⟩|⟨A,h⟩:=io h
 ·have⟨t19,t,h⟩:=bo h;have⟨t20,k,h⟩:=bo h;have⟨t21,h21,h⟩:=bo h;have⟨h22,h⟩:=gd h;have⟨t23,h23,h⟩:=bo h;have⟨t24,h24,h⟩:=bo h;have⟨h25,h⟩:=gd h;have⟨h26,h⟩:=gd h;have⟨h27,h⟩:=gd h;cases h;exact rfO 0 (o [.el JN,.ix (-9),b1,.el (Wj t19),.ix (-9),b1,.obj (some 0) (.d (.lst false 1 t20)) (QI t1 m p u t2.1 t2.2 b c i e) jv,.ret (I t21),b1,.el (Zr t23),.el (Zi t24),.el (Zr t23),.el (Zi t24)]) (Qb h27 (Qb h26 (Q2 QM h24 (Qb (Q0 Zg h23) (Qb h25 (Q2 QM h24 (Qb (Q0 Zg h23) (Qb h22 (Qb (QJ h21) (Qb (Zo k) (Q2 Zb t (Qb (mk1 ⟨#[100,101,108,105,118,101,114]⟩ JN A) q))))))))))))
 obtain⟨t,h⟩|⟨t,h⟩:=io h
 ·have⟨t20,k,h⟩:=bo h;have⟨t21,h21,h⟩:=bo h;have⟨t22,h22,h⟩:=bo h;have⟨h23,h⟩:=gd h;have⟨t24,h24,h⟩:=bo h;have⟨t25,h25,h⟩:=bo h;have⟨t26,h26,h⟩:=bo h;have⟨h27,h⟩:=gd h;cases h;exact rfO 0 (o [.el JO,.ix (-9),b1,.el (Wj t20),b1,.obj (some 0) (.d (.lst false 1 t21)) (QI t1 m p u t2.1 t2.2 b c i e) jv,.ret (I t22),b1,.el (Zr t24),.el (Zr t25),.ret (I t26)]) (Qb h27 (Qb (UH h26) (Qb (Q0 Zg h25) (Qb (Q0 Zg h24) (Qb h23 (Qb (QJ h22) (Qb (Zo h21) (Q2 Zb k (Qb (mk1 ⟨#[98,105,108,108]⟩ JO t) q)))))))))
 obtain⟨k,h⟩|⟨k,h⟩:=io h
 ·cases h;exact rfO 0 (o [.el KG,.ix (-9),b1]) (Qb (mk1 ⟨#[117,110,100,111]⟩ KG k) q)
 cases h
def ZN (n:Nat)(a0:Int)(e:jSj)(l m:jVj)(o:jSj)(p q:jVj)(r s:Int)(t f:Bool)(g h i:Int)(j c k:jVj)(b:(Int×jVj)):Option (Int×jVj⊕jVj) := if b.1<((c).length:Int) then if 0<=b.1/\b.1<((b.2).length:Int) then((nth (b.2) (Int.toNat b.1)).bind QV).bind fun a=>(WW n a.1 a.2.1 a.2.2.1 a.2.2.2.1 a.2.2.2.2.1 a.2.2.2.2.2 a0 e l m o).bind fun d=>if d=true then if Qg (b.1+1) then some (.inl ((b.1+1),(List.set b.2 (Int.toNat b.1) (.agg [.v (.string a.1),.v (.string a.2.1),I a.2.2.1,I a.2.2.2.1,B a.2.2.2.2.1,B false]:D)))) else none else if Qg (b.1+1) then some (.inl ((b.1+1),b.2)) else none else none else some (.inr b.2)
noncomputable def Gz (a0:Int)(p:jSj)(q r:jVj)(s:jSj)(k l:jVj)(m n:Int)(o a:Bool)(b c f:Int)(g i h:jVj):Lp (Int×jVj) (jVj):=⟨fun j=>[(0,.ptr 0 0 0 0 2),(1,.d (.fn (.func 103) [] [.ref (.agg [I a0,Qe p,.lst false 1 q,.lst false 1 r,Qe s]) 0])),(9,.own 11 0),(10,.d (I ((i).length:Int))),(11,.d (I j.1))],fun j=>[(0,.box (.agg [.own 1 0,.own 2 0,.d (I m),.d (I n),.d (B o),.d (B a),.d (I b),.d (I c),.d (I f),.own 10 0,.own 11 0,.own 12 0])),(1,.row 0 5 k),(2,.row 0 5 l),(10,.row 0 1 g),(11,.row 0 6 j.2),(12,.row 0 7 h)],fun _=>(.exit 0),fun _=>[],fun e=>[(0,.box (.agg [.own 1 0,.own 2 0,.d (I m),.d (I n),.d (B o),.d (B a),.d (I b),.d (I c),.d (I f),.own 10 0,.own 11 0,.own 12 0])),(1,.row 0 5 k),(2,.row 0 5 l),(10,.row 0 1 g),(11,.row 0 6 e),(12,.row 0 7 h)]⟩
theorem Gv {n a0 k m p s t u v x y c d e f g i j}(z)(r)(h:ZN n a0 k m p s t u v x y c d e f g i j z=some r):Rl (Zt cx.P 102 0) 27 13 false (Gz a0 k m p s t u v x y c d e f g i j) z r:=by
 unfold ZN at h;obtain⟨a,h⟩|⟨a,h⟩:=io h
 ·have⟨ha2,h⟩:=gd h;have⟨ta3,ha3,h⟩:=bo h;have⟨ta4,ha4,h⟩:=bo h;have q:=Qb (Jh ha4) (Qb (Q0 QB ha3) (Qb ha2 (Qb (jDj a) QA)));let o(l:jOj):=b1::b1::.el (QF ta3)::.ret (B ta4)::l;obtain⟨b,h⟩|⟨b,h⟩:=io h
  ·have⟨ha6,h⟩:=gd h;cases h;exact rn 19 (o [b1,b1,.el (QF ta3)]) [] [0,1,9,10,11] [0,1,2,10,11,12] (Qb ha6 (Qb (Q0 QB ha3) (Qb ha2 (Qb b q))))
  have⟨ha6,h⟩:=gd h;cases h;exact rn 19 (o [b0]) [] [0,1,9,10,11] [0,1,2,10,11,12] (Qb ha6 (Qb (Zy b) q))
 cases h;exact rx 19 [b0] [] [] [0,1,2,10,11,12] (Qb (jEj a) QA)
def WZ (n:Nat)(a0:Int)(h:jSj)(i j:jVj)(k:jSj)(l m:jVj)(o p:Int)(q b:Bool)(c d e:Int)(f a g:jVj):Option (jVj) := (QU (ZN n a0 h i j k l m o p q b c d e f a g) n (0,a)).bind fun t1=>some t1
theorem XB {n a0 p q s t j k l m o a b c e f i g r}(h:WZ n a0 p q s t j k l m o a b c e f i g=some r):ComputesO cx 102 [.ptr 0 0 0 0 2,.d (.fn (.func 103) [] [.ref (.agg [I a0,Qe p,.lst false 1 q,.lst false 1 s,Qe t]) 0])] (some (Qa j k l m o a b c e f i g)) (.d (.tup [])) (Qa j k l m o a b c e f r g) [true,true,false,false,false,false,false,false,false,true,true,true]:=by unfold WZ at h;have⟨t1,h1,h⟩:=bo h;obtain rfl:=oi h;exact rfO 0 [.lp [] [0,1,9,10,11] [0,1,2,10,11,12] (.exit 0) [] [(0,.box (.agg [.own 1 0,.own 2 0,.d (I l),.d (I m),.d (B o),.d (B a),.d (I b),.d (I c),.d (I e),.own 10 0,.own 11 0,.own 12 0])),(1,.row 0 5 j),(2,.row 0 5 k),(10,.row 0 1 f),(11,.row 0 6 t1),(12,.row 0 7 g)] 50] (Qb (QE Gv h1) QA)
def ZM (n:Nat)(a0 f:jVj)(g h:Int)(i j:Bool)(k l m:Int)(o c e:jVj)(b:(Int×jVj)):Option (Int×jVj⊕jVj) := if b.1<((c).length:Int) then if 0<=b.1/\b.1<((b.2).length:Int) then((nth (b.2) (Int.toNat b.1)).bind QV).bind fun a=>(WV n a.1 a.2.1 a.2.2.1 a.2.2.2.1 a.2.2.2.2.1 a.2.2.2.2.2).bind fun d=>if d=true then if Qg (b.1+1) then some (.inl ((b.1+1),(List.set b.2 (Int.toNat b.1) (.agg [.v (.string a.1),.v (.string a.2.1),I a.2.2.1,I a.2.2.2.1,B a.2.2.2.2.1,B false]:D)))) else none else if Qg (b.1+1) then some (.inl ((b.1+1),b.2)) else none else none else some (.inr b.2)
noncomputable def Gy (a0 f:jVj)(g h:Int)(i j:Bool)(k l m:Int)(n b a:jVj):Lp (Int×jVj) (jVj):=⟨fun c=>[(0,.ptr 0 0 0 0 2),(1,.d (.fn (.func 113) [] [])),(9,.own 11 0),(10,.d (I ((b).length:Int))),(11,.d (I c.1))],fun c=>[(0,.box (.agg [.own 1 0,.own 2 0,.d (I g),.d (I h),.d (B i),.d (B j),.d (I k),.d (I l),.d (I m),.own 10 0,.own 11 0,.own 12 0])),(1,.row 0 5 a0),(2,.row 0 5 f),(10,.row 0 1 n),(11,.row 0 6 c.2),(12,.row 0 7 a)],fun _=>(.exit 0),fun _=>[],fun e=>[(0,.box (.agg [.own 1 0,.own 2 0,.d (I g),.d (I h),.d (B i),.d (B j),.d (I k),.d (I l),.d (I m),.own 10 0,.own 11 0,.own 12 0])),(1,.row 0 5 a0),(2,.row 0 5 f),(10,.row 0 1 n),(11,.row 0 6 e),(12,.row 0 7 a)]⟩
theorem Gu {n a0 e f g i j k m p s c d}(t)(r)(h:ZM n a0 e f g i j k m p s c d t=some r):Rl (Zt cx.P 102 0) 27 13 false (Gy a0 e f g i j k m p s c d) t r:=by
 unfold ZM at h;obtain⟨a,h⟩|⟨a,h⟩:=io h
 ·have⟨ha2,h⟩:=gd h;have⟨ta3,ha3,h⟩:=bo h;have⟨ta4,ha4,h⟩:=bo h;have q:=Qb (Jg ha4) (Qb (Q0 QB ha3) (Qb ha2 (Qb (jDj a) QA)));let o(l:jOj):=b1::b1::.el (QF ta3)::.ret (B ta4)::l;obtain⟨b,h⟩|⟨b,h⟩:=io h
  ·have⟨ha6,h⟩:=gd h;cases h;exact rn 19 (o [b1,b1,.el (QF ta3)]) [] [0,1,9,10,11] [0,1,2,10,11,12] (Qb ha6 (Qb (Q0 QB ha3) (Qb ha2 (Qb b q))))
  have⟨ha6,h⟩:=gd h;cases h;exact rn 19 (o [b0]) [] [0,1,9,10,11] [0,1,2,10,11,12] (Qb ha6 (Qb (Zy b) q))
 cases h;exact rx 19 [b0] [] [] [0,1,2,10,11,12] (Qb (jEj a) QA)
def WY (n:Nat)(a0 c:jVj)(d e:Int)(f g:Bool)(h i j:Int)(k a b:jVj):Option (jVj) := (QU (ZM n a0 c d e f g h i j k a b) n (0,a)).bind fun t1=>some t1
theorem XA {n a0 c e f g i j k l m b a r}(h:WY n a0 c e f g i j k l m b a=some r):ComputesO cx 102 [.ptr 0 0 0 0 2,.d (.fn (.func 113) [] [])] (some (Qa a0 c e f g i j k l m b a)) (.d (.tup [])) (Qa a0 c e f g i j k l m r a) [true,true,false,false,false,false,false,false,false,true,true,true]:=by unfold WY at h;have⟨t1,h1,h⟩:=bo h;obtain rfl:=oi h;exact rfO 0 [.lp [] [0,1,9,10,11] [0,1,2,10,11,12] (.exit 0) [] [(0,.box (.agg [.own 1 0,.own 2 0,.d (I e),.d (I f),.d (B g),.d (B i),.d (I j),.d (I k),.d (I l),.own 10 0,.own 11 0,.own 12 0])),(1,.row 0 5 a0),(2,.row 0 5 c),(10,.row 0 1 m),(11,.row 0 6 t1),(12,.row 0 7 a)] 50] (Qb (QE Gu h1) QA)
def Qw (n:Nat)(a0:Int)(m:jSj)(r A:jVj)(O:jSj)(t u:jVj)(P i:Int)(j e:Bool)(K L c:Int)(d a b:jVj):Option (jRj) := (el V5 A 0).bind fun t1=>(Q9 n t1 t u P i j e K L c d a b).bind fun t2=>if m.data.toList=[115,101,99,116,111,114] then(el Vg r 0).bind fun t4=>if Wi 16 ((d).length+1) then some (t1,i,j,e,t2.1,t2.2,c,(d++([.v (.string t4)]:jVj)),a,b) else none else if m.data.toList=[109,105,114,114,111,114] then(el Vg r 0).bind fun Q=>(el Vg r 1).bind fun N=>(el V5 A 1).bind fun J=>if Wi 56 ((a).length+1) then some (t1,i,j,e,t2.1,t2.2,c,d,(a++([.agg [.v (.string Q),.v (.string N),I J,I 0,B false,B false]]:jVj)),b) else none else if m.data.toList=[115,111,105,108] then(el Vg r 0).bind fun N=>(Qt n 109 t u t1 i j e t2.1 t2.2 c d a b).bind fun J=>(QC n J N).bind fun C=>if 0<=C/\C<((a).length:Int) then(el V5 A 1).bind fun l=>((nth (a) (Int.toNat C)).bind QV).bind fun f=>some (t1,i,j,e,t2.1,t2.2,c,d,(List.set a (Int.toNat C) (.agg [.v (.string f.1),.v (.string f.2.1),I f.2.2.1,I l,B f.2.2.2.2.1,B f.2.2.2.2.2]:D)),b) else none else if m.data.toList=[99,108,101,97,110] then(el Vg r 0).bind fun J=>(Qt n 109 t u t1 i j e t2.1 t2.2 c d a b).bind fun C=>(QC n C J).bind fun E=>if 0<=E/\E<((a).length:Int) then((nth (a) (Int.toNat E)).bind QV).bind fun f=>some (t1,i,j,e,t2.1,t2.2,c,d,(List.set a (Int.toNat E) (.agg [.v (.string f.1),.v (.string f.2.1),I f.2.2.1,I 0,B f.2.2.2.2.1,B f.2.2.2.2.2]:D)),b) else none else if m.data.toList=[100,101,102,101,99,116] then(el Vg r 0).bind fun C=>(Qt n 109 t u t1 i j e t2.1 t2.2 c d a b).bind fun E=>(QC n E C).bind fun l=>if 0<=l/\l<((a).length:Int) then((nth (a) (Int.toNat l)).bind QV).bind fun h=>some (t1,i,j,e,t2.1,t2.2,c,d,(List.set a (Int.toNat l) (.agg [.v (.string h.1),.v (.string h.2.1),I h.2.2.1,I h.2.2.2.1,B true,B h.2.2.2.2.2]:D)),b) else none else if m.data.toList=[114,101,112,97,105,114] then(el Vg r 0).bind fun E=>(Qt n 109 t u t1 i j e t2.1 t2.2 c d a b).bind fun l=>(QC n l E).bind fun f=>if 0<=f/\f<((a).length:Int) then((nth (a) (Int.toNat f)).bind QV).bind fun k=>some (t1,i,j,e,t2.1,t2.2,c,d,(List.set a (Int.toNat f) (.agg [.v (.string k.1),.v (.string k.2.1),I k.2.2.1,I k.2.2.2.1,B false,B k.2.2.2.2.2]:D)),b) else none else if m.data.toList=[97,105,109] then(el Vg r 0).bind fun l=>(Qt n 109 t u t1 i j e t2.1 t2.2 c d a b).bind fun f=>(QC n f l).bind fun h=>if 0<=h/\h<((a).length:Int) then((nth (a) (Int.toNat h)).bind QV).bind fun x=>some (t1,i,j,e,t2.1,t2.2,c,d,(List.set a (Int.toNat h) (.agg [.v (.string x.1),.v (.string x.2.1),I x.2.2.1,I x.2.2.2.1,B x.2.2.2.2.1,B true]:D)),b) else none else if m.data.toList=[112,97,114,107] then(el Vg r 0).bind fun f=>(Qt n 109 t u t1 i j e t2.1 t2.2 c d a b).bind fun h=>(QC n h f).bind fun k=>if 0<=k/\k<((a).length:Int) then((nth (a) (Int.toNat k)).bind QV).bind fun y=>some (t1,i,j,e,t2.1,t2.2,c,d,(List.set a (Int.toNat k) (.agg [.v (.string y.1),.v (.string y.2.1),I y.2.2.1,I y.2.2.2.1,B y.2.2.2.2.1,B false]:D)),b) else none else if m.data.toList=[100,105,109] then(WZ n a0 m r A O t u t1 i j e t2.1 t2.2 c d a b).bind fun h=>some (t1,i,j,e,t2.1,t2.2,c,d,h,b) else if m.data.toList=[115,117,110] then(el V5 A 1).bind fun k=>some (t1,k,j,e,t2.1,t2.2,c,d,a,b) else if m.data.toList=[102,105,108,108] then some (t1,i,true,e,t2.1,t2.2,c,d,a,b) else if m.data.toList=[100,114,97,105,110] then some (t1,i,false,e,t2.1,t2.2,c,d,a,b) else if m.data.toList=[116,114,105,112] then(WY n t u t1 i j true t2.1 t2.2 c d a b).bind fun M=>some (t1,i,j,true,t2.1,t2.2,c,d,M,b) else if m.data.toList=[114,101,115,101,116] then some (t1,i,j,false,t2.1,t2.2,c,d,a,b) else if m.data.toList=[111,102,102,101,114] then(Vb n a0 m r A O).bind fun G=>(el Vg r 0).bind fun F=>(el V5 A 3).bind fun z=>(el V5 A 4).bind fun o=>if Wi 64 ((b).length+1) then some (t1,i,j,e,t2.1,t2.2,c,d,a,(b++([.agg [.v (.string F),I G.1,I G.2.1,I z,I o,I 0,B false]]:jVj))) else none else if m.data.toList=[100,101,108,105,118,101,114] then(el Vg r 0).bind fun F=>(Qt n 111 t u t1 i j e t2.1 t2.2 c d a b).bind fun z=>(QC n z F).bind fun o=>if 0<=o/\o<((b).length:Int) then((nth (b) (Int.toNat o)).bind Z4).bind fun p=>(el V5 A 1).bind fun g=>if Qg (p.2.2.2.2.2.1+g) then if Qg (1000000*g) then if Qg (t2.2 - (1000000*g)) then some (t1,i,j,e,t2.1,(t2.2 - (1000000*g)),c,d,a,(List.set b (Int.toNat o) (.agg [.v (.string p.1),I p.2.1,I p.2.2.1,I p.2.2.2.1,I p.2.2.2.2.1,I (p.2.2.2.2.2.1+g),B p.2.2.2.2.2.2]:D))) else none else none else none else none else if m.data.toList=[98,105,108,108] then(el Vg r 0).bind fun z=>(Qt n 111 t u t1 i j e t2.1 t2.2 c d a b).bind fun o=>(QC n o z).bind fun s=>if 0<=s/\s<((b).length:Int) then((nth (b) (Int.toNat s)).bind Z4).bind fun g=>((nth ((List.set b (Int.toNat s) (.agg [.v (.string g.1),I g.2.1,I g.2.2.1,I g.2.2.2.1,I g.2.2.2.2.1,I g.2.2.2.2.2.1,B true]:D)):jVj) (Int.toNat s)).bind Z4).bind fun q=>(WQ n q.1 q.2.1 q.2.2.1 q.2.2.2.1 q.2.2.2.2.1 q.2.2.2.2.2.1 q.2.2.2.2.2.2).bind fun H=>if Qg (c+H) then some (t1,i,j,e,t2.1,t2.2,(c+H),d,a,(List.set b (Int.toNat s) (.agg [.v (.string g.1),I g.2.1,I g.2.2.1,I g.2.2.2.1,I g.2.2.2.2.1,I g.2.2.2.2.2.1,B true]:D))) else none else none else if m.data.toList=[117,110,100,111] then some (t1,i,j,e,t2.1,t2.2,c,d,a,b) else none
theorem Xa {n a0 O P Q S p s N t u f G H b c j e r}(h:Qw n a0 O P Q S p s N t u f G H b c j e=some r):ComputesO cx 133 [.ptr 0 0 0 0 2,.d (.agg [I a0,Qe O,.lst false 1 P,.lst false 1 Q,Qe S])] (some (Qa p s N t u f G H b c j e)) (.d (.tup [])) (Qa p s r.1 r.2.1 r.2.2.1 r.2.2.2.1 r.2.2.2.2.1 r.2.2.2.2.2.1 r.2.2.2.2.2.2.1 r.2.2.2.2.2.2.2.1 r.2.2.2.2.2.2.2.2.1 r.2.2.2.2.2.2.2.2.2) [true,true]:=by
 unfold Qw at h;have⟨t1,h1,h⟩:=bo h;have⟨t2,h2,h⟩:=bo h;have q:=Q2 QM h1 (Qb (WT h2) (Q2 QM h1 QA));let o(l:jOj):=.el (Zi t1)::.obj (some 0) (.d (.agg [I t2.1,I t2.2])) (Qa p s N t u f G H b c j e) Zj::.el (Zi t1)::b1::(no 28 l);obtain⟨T,h⟩|⟨T,h⟩:=io h
 ·have⟨t4,M,h⟩:=bo h;have⟨J,h⟩:=gd h;cases h;exact rfO 0 (o [.el KH,.ix (-9),b1,.el (Wj t4),b1]) (Qb (ro 9 J) (Q2 Zb M (Qb (mk1 ⟨#[115,101,99,116,111,114]⟩ KH T) q)))
 obtain⟨M,h⟩|⟨M,h⟩:=io h
 ·have⟨t5,J,h⟩:=bo h;have⟨t6,K,h⟩:=bo h;have⟨t7,F,h⟩:=bo h;have⟨y,h⟩:=gd h;cases h;exact rfO 0 (o [.el KJ,.ix (-9),b1,.el (Wj t5),.el (Wj t6),.el (Zi t7),b1]) (Qb (ro 143 y) (Q2 QM F (Q2 Zb K (Q2 Zb J (Qb (mk1 ⟨#[109,105,114,114,111,114]⟩ KJ M) q)))))
 obtain⟨J,h⟩|⟨J,h⟩:=io h
 ·have⟨t6,K,h⟩:=bo h;have⟨t7,F,h⟩:=bo h;have⟨t8,y,h⟩:=bo h;have⟨z,h⟩:=gd h;have⟨t10,g,h⟩:=bo h;have⟨t11,a,h⟩:=bo h;cases h;exact rfO 0 (o [.el JP,.ix (-9),b1,.el (Wj t6),.ix (-9),b1,.obj (some 0) (.d (.lst false 1 t7)) (Qa p s t1 t u f t2.1 t2.2 b c j e) Zj,.ret (I t8),b1,.ix (-9),b1,.el (Zi t10),.el (QF t11)]) (Qb (Q0 QB a) (Q2 QM g (Qb z (Qb (QJ y) (Qb (Qz F) (Q2 Zb K (Qb (mk1 ⟨#[115,111,105,108]⟩ JP J) q)))))))
 obtain⟨K,h⟩|⟨K,h⟩:=io h
 ·have⟨t7,F,h⟩:=bo h;have⟨t8,y,h⟩:=bo h;have⟨t9,z,h⟩:=bo h;have⟨g,h⟩:=gd h;have⟨t11,a,h⟩:=bo h;cases h;exact rfO 0 (o [.el JQ,.ix (-9),b1,.el (Wj t7),.ix (-9),b1,.obj (some 0) (.d (.lst false 1 t8)) (Qa p s t1 t u f t2.1 t2.2 b c j e) Zj,.ret (I t9),b1,.ix (-9),b1,.el (QF t11)]) (Qb (Q0 QB a) (Qb g (Qb (QJ z) (Qb (Qz y) (Q2 Zb F (Qb (mk1 ⟨#[99,108,101,97,110]⟩ JQ K) q))))))
 obtain⟨F,h⟩|⟨F,h⟩:=io h
 ·have⟨t8,y,h⟩:=bo h;have⟨t9,z,h⟩:=bo h;have⟨t10,g,h⟩:=bo h;have⟨a,h⟩:=gd h;have⟨t12,i,h⟩:=bo h;cases h;exact rfO 0 (o [.el JU,.ix (-9),b1,.el (Wj t8),.ix (-9),b1,.obj (some 0) (.d (.lst false 1 t9)) (Qa p s t1 t u f t2.1 t2.2 b c j e) Zj,.ret (I t10),b1,.ix (-9),b1,.el (QF t12)]) (Qb (Q0 QB i) (Qb a (Qb (QJ g) (Qb (Qz z) (Q2 Zb y (Qb (mk1 ⟨#[100,101,102,101,99,116]⟩ JU F) q))))))
 obtain⟨y,h⟩|⟨y,h⟩:=io h
 ·have⟨t9,z,h⟩:=bo h;have⟨t10,g,h⟩:=bo h;have⟨t11,a,h⟩:=bo h;have⟨i,h⟩:=gd h;have⟨t13,k,h⟩:=bo h;cases h;exact rfO 0 (o [.el JT,.ix (-9),b1,.el (Wj t9),.ix (-9),b1,.obj (some 0) (.d (.lst false 1 t10)) (Qa p s t1 t u f t2.1 t2.2 b c j e) Zj,.ret (I t11),b1,.ix (-9),b1,.el (QF t13)]) (Qb (Q0 QB k) (Qb i (Qb (QJ a) (Qb (Qz g) (Q2 Zb z (Qb (mk1 ⟨#[114,101,112,97,105,114]⟩ JT y) q))))))
 obtain⟨z,h⟩|⟨z,h⟩:=io h
 ·have⟨t10,g,h⟩:=bo h;have⟨t11,a,h⟩:=bo h;have⟨t12,i,h⟩:=bo h;have⟨k,h⟩:=gd h;have⟨t14,v,h⟩:=bo h;cases h;exact rfO 0 (o [.el JS,.ix (-9),b1,.el (Wj t10),.ix (-9),b1,.obj (some 0) (.d (.lst false 1 t11)) (Qa p s t1 t u f t2.1 t2.2 b c j e) Zj,.ret (I t12),b1,.ix (-9),b1,.el (QF t14)]) (Qb (Q0 QB v) (Qb k (Qb (QJ i) (Qb (Qz a) (Q2 Zb g (Qb (mk1 ⟨#[97,105,109]⟩ JS z) q))))))
 obtain⟨g,h⟩|⟨g,h⟩:=io h
 ·have⟨t11,a,h⟩:=bo h;have⟨t12,i,h⟩:=bo h;have⟨t13,k,h⟩:=bo h;have⟨v,h⟩:=gd h;have⟨t15,A,h⟩:=bo h;cases h;exact rfO 0 (o [.el JR,.ix (-9),b1,.el (Wj t11),.ix (-9),b1,.obj (some 0) (.d (.lst false 1 t12)) (Qa p s t1 t u f t2.1 t2.2 b c j e) Zj,.ret (I t13),b1,.ix (-9),b1,.el (QF t15)]) (Qb (Q0 QB A) (Qb v (Qb (QJ k) (Qb (Qz i) (Q2 Zb a (Qb (mk1 ⟨#[112,97,114,107]⟩ JR g) q))))))
 obtain⟨a,h⟩|⟨a,h⟩:=io h
 ·have⟨t12,i,h⟩:=bo h;cases h;exact rfO 0 (o [.el JM,.ix (-9),b1,.obj (some 0) (.d (.tup [])) (Qa p s t1 t u f t2.1 t2.2 b c t12 e) [true,true,false,false,false,false,false,false,false,true,true,true]]) (Qb (XB i) (Qb (mk1 ⟨#[100,105,109]⟩ JM a) q))
 obtain⟨i,h⟩|⟨i,h⟩:=io h
 ·have⟨t13,k,h⟩:=bo h;cases h;exact rfO 0 (o [.el KB,.ix (-9),b1,.el (Zi t13)]) (Q2 QM k (Qb (mk1 ⟨#[115,117,110]⟩ KB i) q))
 obtain⟨k,h⟩|⟨k,h⟩:=io h
 ·cases h;exact rfO 0 (o [.el KF,.ix (-9),b1]) (Qb (mk1 ⟨#[102,105,108,108]⟩ KF k) q)
 obtain⟨v,h⟩|⟨v,h⟩:=io h
 ·cases h;exact rfO 0 (o [.el KE,.ix (-9),b1]) (Qb (mk1 ⟨#[100,114,97,105,110]⟩ KE v) q)
 obtain⟨A,h⟩|⟨A,h⟩:=io h
 ·have⟨t16,C,h⟩:=bo h;cases h;exact rfO 0 (o [.el KD,.ix (-9),b1,.obj (some 0) (.d (.tup [])) (Qa p s t1 t u true t2.1 t2.2 b c t16 e) [true,true,false,false,false,false,false,false,false,true,true,true]]) (Qb (XA C) (Qb (mk1 ⟨#[116,114,105,112]⟩ KD A) q))
 obtain⟨C,h⟩|⟨C,h⟩:=io h
 ·cases h;exact rfO 0 (o [.el KC,.ix (-9),b1]) (Qb (mk1 ⟨#[114,101,115,101,116]⟩ KC C) q)
 obtain⟨L,h⟩|⟨L,h⟩:=io h
 ·have⟨t18,E,h⟩:=bo h;have⟨t19,x,h⟩:=bo h;have⟨t20,m,h⟩:=bo h;have⟨t21,h21,h⟩:=bo h;have⟨h22,h⟩:=gd h;cases h;exact rfO 0 (o [.el KI,.ix (-9),b1,.ret (.tup [.agg [I t18.1,I t18.2.1],I t18.2.2]),.el (Wj t19),.el (Zi t20),.el (Zi t21),b1]) (Qb (ro 156 h22) (Q2 QM h21 (Q2 QM m (Q2 Zb x (Qb (Eo E) (Qb (mk1 ⟨#[111,102,102,101,114]⟩ KI L) q))))))
 obtain⟨E,h⟩|⟨E,h⟩:=io h
 ·have⟨t19,x,h⟩:=bo h;have⟨t20,m,h⟩:=bo h;have⟨t21,h21,h⟩:=bo h;have⟨h22,h⟩:=gd h;have⟨t23,h23,h⟩:=bo h;have⟨t24,h24,h⟩:=bo h;have⟨h25,h⟩:=gd h;have⟨h26,h⟩:=gd h;have⟨h27,h⟩:=gd h;cases h;exact rfO 0 (o [.el JN,.ix (-9),b1,.el (Wj t19),.ix (-9),b1,.obj (some 0) (.d (.lst false 1 t20)) (Qa p s t1 t u f t2.1 t2.2 b c j e) Zj,.ret (I t21),b1,.el (Zr t23),.el (Zi t24),.el (Zr t23),.el (Zi t24)]) (Qb h27 (Qb h26 (Q2 QM h24 (Qb (Q0 Zg h23) (Qb h25 (Q2 QM h24 (Qb (Q0 Zg h23) (Qb h22 (Qb (QJ h21) (Qb (Qz m) (Q2 Zb x (Qb (mk1 ⟨#[100,101,108,105,118,101,114]⟩ JN E) q))))))))))))
 obtain⟨x,h⟩|⟨x,h⟩:=io h
 ·have⟨t20,m,h⟩:=bo h;have⟨t21,h21,h⟩:=bo h;have⟨t22,h22,h⟩:=bo h;have⟨h23,h⟩:=gd h;have⟨t24,h24,h⟩:=bo h;have⟨t25,h25,h⟩:=bo h;have⟨t26,h26,h⟩:=bo h;have⟨h27,h⟩:=gd h;cases h;exact rfO 0 (o [.el JO,.ix (-9),b1,.el (Wj t20),b1,.obj (some 0) (.d (.lst false 1 t21)) (Qa p s t1 t u f t2.1 t2.2 b c j e) Zj,.ret (I t22),b1,.el (Zr t24),.el (Zr t25),.ret (I t26)]) (Qb h27 (Qb (UH h26) (Qb (Q0 Zg h25) (Qb (Q0 Zg h24) (Qb h23 (Qb (QJ h22) (Qb (Qz h21) (Q2 Zb m (Qb (mk1 ⟨#[98,105,108,108]⟩ JO x) q)))))))))
 obtain⟨m,h⟩|⟨m,h⟩:=io h
 ·cases h;exact rfO 0 (o [.el KG,.ix (-9),b1]) (Qb (mk1 ⟨#[117,110,100,111]⟩ KG m) q)
 cases h
def Zn (n:Nat)(a0:Int)(l:jSj)(m o:jVj)(p:jSj)(q d:jVj)(r s:Int)(t e:Bool)(f g h:Int)(i j k:jVj)(b:(Unit)⊕Int×jRj):Option ((Unit⊕Int×jRj)⊕Unit⊕jRj):=match b with|(.inl b)=>(if 0<(((d.take (Int.toNat (((d).length:Int) - 1))):jVj).length:Int) then if(0:Int)<=0/\0<(((d.take (Int.toNat (((d).length:Int) - 1))):jVj).length:Int) then((nth ((d.take (Int.toNat (((d).length:Int) - 1))):jVj) 0).bind Wc).bind fun c=>(Qy n c.1 c.2.1 c.2.2.1 c.2.2.2.1 c.2.2.2.2 0 0 false false 0 0 0 ([]) ([]) ([])).bind fun a=>some (.inl (.inr (1,a.1,a.2.1,a.2.2.1,a.2.2.2.1,a.2.2.2.2.1,a.2.2.2.2.2.1,a.2.2.2.2.2.2.1,a.2.2.2.2.2.2.2.1,a.2.2.2.2.2.2.2.2.1,a.2.2.2.2.2.2.2.2.2))) else none else some (.inr (.inl ())))|.inr b=>(if b.1<(((d.take (Int.toNat (((d).length:Int) - 1))):jVj).length:Int) then if 0<=b.1/\b.1<(((d.take (Int.toNat (((d).length:Int) - 1))):jVj).length:Int) then((nth ((d.take (Int.toNat (((d).length:Int) - 1))):jVj) (Int.toNat b.1)).bind Wc).bind fun c=>(Qy n c.1 c.2.1 c.2.2.1 c.2.2.2.1 c.2.2.2.2 b.2.1 b.2.2.1 b.2.2.2.1 b.2.2.2.2.1 b.2.2.2.2.2.1 b.2.2.2.2.2.2.1 b.2.2.2.2.2.2.2.1 b.2.2.2.2.2.2.2.2.1 b.2.2.2.2.2.2.2.2.2.1 b.2.2.2.2.2.2.2.2.2.2).bind fun a=>if Qg (b.1+1) then some (.inl (.inr ((b.1+1),a.1,a.2.1,a.2.2.1,a.2.2.2.1,a.2.2.2.2.1,a.2.2.2.2.2.1,a.2.2.2.2.2.2.1,a.2.2.2.2.2.2.2.1,a.2.2.2.2.2.2.2.2.1,a.2.2.2.2.2.2.2.2.2))) else none else none else some (.inr (.inr (b.2.1,b.2.2.1,b.2.2.2.1,b.2.2.2.2.1,b.2.2.2.2.2.1,b.2.2.2.2.2.2.1,b.2.2.2.2.2.2.2.1,b.2.2.2.2.2.2.2.2.1,b.2.2.2.2.2.2.2.2.2.1,b.2.2.2.2.2.2.2.2.2.2))))
abbrev YC:D:=jZj
noncomputable def Eu (a0:Int)(c:jSj)(a b:jVj)(f:jSj)(o g:jVj)(p q:Int)(r h:Bool)(i j k:Int)(l m n:jVj):Lp (Unit⊕Int×jRj) (Unit⊕jRj):=⟨fun
 | (.inl sa)=>[(2,.ptr 83 0 0 0 0),(3,.ptr 84 0 0 0 0),(6,.own 2 1),(7,.d (I (((g.take (Int.toNat (((g).length:Int) - 1))):jVj).length:Int))),(8,.d (I 0))]
 | (.inr sa)=>[(2,.ptr 83 0 0 0 0),(3,.ptr 84 0 0 0 0),(6,.own 2 1),(7,.d (I (((g.take (Int.toNat (((g).length:Int) - 1))):jVj).length:Int))),(8,.d (I sa.1))],fun
 | (.inl sa)=>[(0,.box (.agg [.own 1 1,.own 2 1,.d (I p),.d (I q),.d (B r),.d (B h),.d (I i),.d (I j),.d (I k),.own 10 0,.own 11 0,.own 12 0])),(1,.row 1 5 (o++([.agg [I a0,Qe c,.lst false 1 (a.take ((List.replicate (Int.toNat ((a).length:Int)) (Qe ⟨#[]⟩:D)):jVj).length++(List.replicate (Int.toNat ((a).length:Int)) (Qe ⟨#[]⟩:D)).drop (a).length),.lst false 1 (b.take ((List.replicate (Int.toNat ((b).length:Int)) (I 0:D)):jVj).length++(List.replicate (Int.toNat ((b).length:Int)) (I 0:D)).drop (b).length),Qe f]]:jVj))),(2,.row 1 5 (g.take (Int.toNat (((g).length:Int) - 1)))),(10,.row 0 1 l),(11,.row 0 6 m),(12,.row 0 7 n),(13,.box (.agg [.d (I a0),.d (Qe c),.own 22 0,.own 26 0,.d (Qe f)])),(17,.box (.agg [.d (I a0),.d (Qe c),.own 22 0,.own 26 0,.d (Qe f)])),(18,.box (.agg [.d (I a0),.d (Qe c),.own 22 0,.own 26 0,.d (Qe f)])),(22,.frozen 0 1 (a.take ((List.replicate (Int.toNat ((a).length:Int)) (Qe ⟨#[]⟩:D)):jVj).length++(List.replicate (Int.toNat ((a).length:Int)) (Qe ⟨#[]⟩:D)).drop (a).length)),(26,.frozen 0 1 (b.take ((List.replicate (Int.toNat ((b).length:Int)) (I 0:D)):jVj).length++(List.replicate (Int.toNat ((b).length:Int)) (I 0:D)).drop (b).length)),(83,.box (.d YC)),(84,.box (.d YC))]
 | (.inr sa)=>[(0,.box (.agg [.own 1 1,.own 2 1,.d (I p),.d (I q),.d (B r),.d (B h),.d (I i),.d (I j),.d (I k),.own 10 0,.own 11 0,.own 12 0])),(1,.row 1 5 (o++([.agg [I a0,Qe c,.lst false 1 (a.take ((List.replicate (Int.toNat ((a).length:Int)) (Qe ⟨#[]⟩:D)):jVj).length++(List.replicate (Int.toNat ((a).length:Int)) (Qe ⟨#[]⟩:D)).drop (a).length),.lst false 1 (b.take ((List.replicate (Int.toNat ((b).length:Int)) (I 0:D)):jVj).length++(List.replicate (Int.toNat ((b).length:Int)) (I 0:D)).drop (b).length),Qe f]]:jVj))),(2,.row 1 5 (g.take (Int.toNat (((g).length:Int) - 1)))),(10,.row 0 1 l),(11,.row 0 6 m),(12,.row 0 7 n),(13,.box (.agg [.d (I a0),.d (Qe c),.own 22 0,.own 26 0,.d (Qe f)])),(17,.box (.agg [.d (I a0),.d (Qe c),.own 22 0,.own 26 0,.d (Qe f)])),(18,.box (.agg [.d (I a0),.d (Qe c),.own 22 0,.own 26 0,.d (Qe f)])),(22,.frozen 0 1 (a.take ((List.replicate (Int.toNat ((a).length:Int)) (Qe ⟨#[]⟩:D)):jVj).length++(List.replicate (Int.toNat ((a).length:Int)) (Qe ⟨#[]⟩:D)).drop (a).length)),(26,.frozen 0 1 (b.take ((List.replicate (Int.toNat ((b).length:Int)) (I 0:D)):jVj).length++(List.replicate (Int.toNat ((b).length:Int)) (I 0:D)).drop (b).length)),(83,.box (.d YC)),(84,.box (.agg [.d (I sa.2.1),.d (I sa.2.2.1),.d (B sa.2.2.2.1),.d (B sa.2.2.2.2.1),.d (I sa.2.2.2.2.2.1),.d (I sa.2.2.2.2.2.2.1),.d (I sa.2.2.2.2.2.2.2.1),.own 102 0,.own 103 0,.own 104 0])),(102,.row 0 1 sa.2.2.2.2.2.2.2.2.1),(103,.row 0 6 sa.2.2.2.2.2.2.2.2.2.1),(104,.row 0 7 sa.2.2.2.2.2.2.2.2.2.2)],fun _=>(.exit 0),fun _=>[(2,.ptr 83 0 0 0 0),(3,.ptr 84 0 0 0 0)],fun
 | (.inl e)=>[(0,.box (.agg [.own 1 1,.own 2 1,.d (I p),.d (I q),.d (B r),.d (B h),.d (I i),.d (I j),.d (I k),.own 10 0,.own 11 0,.own 12 0])),(1,.row 1 5 (o++([.agg [I a0,Qe c,.lst false 1 (a.take ((List.replicate (Int.toNat ((a).length:Int)) (Qe ⟨#[]⟩:D)):jVj).length++(List.replicate (Int.toNat ((a).length:Int)) (Qe ⟨#[]⟩:D)).drop (a).length),.lst false 1 (b.take ((List.replicate (Int.toNat ((b).length:Int)) (I 0:D)):jVj).length++(List.replicate (Int.toNat ((b).length:Int)) (I 0:D)).drop (b).length),Qe f]]:jVj))),(2,.row 1 5 (g.take (Int.toNat (((g).length:Int) - 1)))),(10,.row 0 1 l),(11,.row 0 6 m),(12,.row 0 7 n),(13,.box (.agg [.d (I a0),.d (Qe c),.own 22 0,.own 26 0,.d (Qe f)])),(17,.box (.agg [.d (I a0),.d (Qe c),.own 22 0,.own 26 0,.d (Qe f)])),(18,.box (.agg [.d (I a0),.d (Qe c),.own 22 0,.own 26 0,.d (Qe f)])),(22,.frozen 0 1 (a.take ((List.replicate (Int.toNat ((a).length:Int)) (Qe ⟨#[]⟩:D)):jVj).length++(List.replicate (Int.toNat ((a).length:Int)) (Qe ⟨#[]⟩:D)).drop (a).length)),(26,.frozen 0 1 (b.take ((List.replicate (Int.toNat ((b).length:Int)) (I 0:D)):jVj).length++(List.replicate (Int.toNat ((b).length:Int)) (I 0:D)).drop (b).length)),(83,.box (.d YC)),(84,.box (.d YC))]
 | (.inr e)=>[(0,.box (.agg [.own 1 1,.own 2 1,.d (I p),.d (I q),.d (B r),.d (B h),.d (I i),.d (I j),.d (I k),.own 10 0,.own 11 0,.own 12 0])),(1,.row 1 5 (o++([.agg [I a0,Qe c,.lst false 1 (a.take ((List.replicate (Int.toNat ((a).length:Int)) (Qe ⟨#[]⟩:D)):jVj).length++(List.replicate (Int.toNat ((a).length:Int)) (Qe ⟨#[]⟩:D)).drop (a).length),.lst false 1 (b.take ((List.replicate (Int.toNat ((b).length:Int)) (I 0:D)):jVj).length++(List.replicate (Int.toNat ((b).length:Int)) (I 0:D)).drop (b).length),Qe f]]:jVj))),(2,.row 1 5 (g.take (Int.toNat (((g).length:Int) - 1)))),(10,.row 0 1 l),(11,.row 0 6 m),(12,.row 0 7 n),(13,.box (.agg [.d (I a0),.d (Qe c),.own 22 0,.own 26 0,.d (Qe f)])),(17,.box (.agg [.d (I a0),.d (Qe c),.own 22 0,.own 26 0,.d (Qe f)])),(18,.box (.agg [.d (I a0),.d (Qe c),.own 22 0,.own 26 0,.d (Qe f)])),(22,.frozen 0 1 (a.take ((List.replicate (Int.toNat ((a).length:Int)) (Qe ⟨#[]⟩:D)):jVj).length++(List.replicate (Int.toNat ((a).length:Int)) (Qe ⟨#[]⟩:D)).drop (a).length)),(26,.frozen 0 1 (b.take ((List.replicate (Int.toNat ((b).length:Int)) (I 0:D)):jVj).length++(List.replicate (Int.toNat ((b).length:Int)) (I 0:D)).drop (b).length)),(83,.box (.d YC)),(84,.box (.agg [.d (I e.1),.d (I e.2.1),.d (B e.2.2.1),.d (B e.2.2.2.1),.d (I e.2.2.2.2.1),.d (I e.2.2.2.2.2.1),.d (I e.2.2.2.2.2.2.1),.own 102 0,.own 103 0,.own 104 0])),(102,.row 0 1 e.2.2.2.2.2.2.2.1),(103,.row 0 6 e.2.2.2.2.2.2.2.2.1),(104,.row 0 7 e.2.2.2.2.2.2.2.2.2)]⟩
theorem Kk {n a0 l m o p q s t u v b c e f g i j}(k)(r)(h:Zn n a0 l m o p q s t u v b c e f g i j k=some r):Rl (Zt cx.P 132 0) 16 83 false (Eu a0 l m o p q s t u v b c e f g i j) k r:=by
 unfold Zn at h;obtain k|k:=k
 ·obtain⟨a,h⟩|⟨a,h⟩:=io h
  ·have⟨ha2,h⟩:=gd h;have⟨ta3,ha3,h⟩:=bo h;have⟨ta4,ha4,h⟩:=bo h;cases h;exact rn 88 [b1,b1,.el (VQ ta3),.obj (some 84) (.d (.tup [])) (QI' ta4) []] [] [2,3,6,7,8] [0,1,2,10,11,12,13,17,18,22,26,83,84,102,103,104] (Qb ((by unfold Qg;omega):Qg 1) (Qb (Kb ha4) (Qb (Q0 V6 ha3) (Qb ha2 (Qb (jDj a) QA)))))
  cases h;exact rx 88 [b0] [] [2,3] [0,1,2,10,11,12,13,17,18,22,26,83,84] (Qb (jEj a) QA)
 ·obtain⟨a,h⟩|⟨a,h⟩:=io h
  ·have⟨ha2,h⟩:=gd h;have⟨ta3,ha3,h⟩:=bo h;have⟨ta4,ha4,h⟩:=bo h;have⟨ha5,h⟩:=gd h;cases h;exact rn 105 [b1,b1,.el (VQ ta3),.obj (some 84) (.d (.tup [])) (QI' ta4) []] [] [2,3,6,7,8] [0,1,2,10,11,12,13,17,18,22,26,83,84,102,103,104] (Qb ha5 (Qb (Kb ha4) (Qb (Q0 V6 ha3) (Qb ha2 (Qb (jDj a) QA)))))
  cases h;exact rx 105 [b0] [] [2,3] [0,1,2,10,11,12,13,17,18,22,26,83,84,102,103,104] (Qb (jEj a) QA)
def WF (n:Nat)(a0:Int)(f:jSj)(a b:jVj)(g:jSj)(h d:jVj)(q r:Int)(s i:Bool)(j k l:Int)(m o p:jVj):Option (jVj×jVj×jRj) := if 0<=((a).length:Int)/\((a).length:Int)<=((a).length:Int)/\16*((a).length:Int)<=281474976710656/\((a).length:Int)<=9223372036854775807 then if 0<=((b).length:Int)/\((b).length:Int)<=((b).length:Int)/\8*((b).length:Int)<=281474976710656/\((b).length:Int)<=9223372036854775807 then if Wi 88 ((h).length+1) then if(f.toList==(⟨#[117,110,100,111]⟩:jSj).toList)=true then if Qg (((d).length:Int) - 1) then if 0<=(((d).length:Int) - 1)/\(((d).length:Int) - 1)<=((d).length:Int) then(QU (Zn n a0 f a b g h d q r s i j k l m o p) n (.inl ())).bind fun c=>match c with|.inl c=>(some ((h++([.agg [I a0,.v (.string f),.lst false 1 (a.take ((List.replicate (Int.toNat ((a).length:Int)) (.v (.string ⟨#[]⟩):D)):jVj).length++(List.replicate (Int.toNat ((a).length:Int)) (.v (.string ⟨#[]⟩):D)).drop (a).length),.lst false 1 (b.take ((List.replicate (Int.toNat ((b).length:Int)) (I 0:D)):jVj).length++(List.replicate (Int.toNat ((b).length:Int)) (I 0:D)).drop (b).length),.v (.string g)]]:jVj)),(d.take (Int.toNat (((d).length:Int) - 1))),0,0,false,false,0,0,0,[],[],[]))|.inr c=>(some ((h++([.agg [I a0,.v (.string f),.lst false 1 (a.take ((List.replicate (Int.toNat ((a).length:Int)) (.v (.string ⟨#[]⟩):D)):jVj).length++(List.replicate (Int.toNat ((a).length:Int)) (.v (.string ⟨#[]⟩):D)).drop (a).length),.lst false 1 (b.take ((List.replicate (Int.toNat ((b).length:Int)) (I 0:D)):jVj).length++(List.replicate (Int.toNat ((b).length:Int)) (I 0:D)).drop (b).length),.v (.string g)]]:jVj)),(d.take (Int.toNat (((d).length:Int) - 1))),c.1,c.2.1,c.2.2.1,c.2.2.2.1,c.2.2.2.2.1,c.2.2.2.2.2.1,c.2.2.2.2.2.2.1,c.2.2.2.2.2.2.2.1,c.2.2.2.2.2.2.2.2.1,c.2.2.2.2.2.2.2.2.2)) else none else none else if Wi 88 ((d).length+1) then(Qw n a0 f (a.take ((List.replicate (Int.toNat ((a).length:Int)) (.v (.string ⟨#[]⟩):D)):jVj).length++(List.replicate (Int.toNat ((a).length:Int)) (.v (.string ⟨#[]⟩):D)).drop (a).length) (b.take ((List.replicate (Int.toNat ((b).length:Int)) (I 0:D)):jVj).length++(List.replicate (Int.toNat ((b).length:Int)) (I 0:D)).drop (b).length) g (h++([.agg [I a0,.v (.string f),.lst false 1 (a.take ((List.replicate (Int.toNat ((a).length:Int)) (.v (.string ⟨#[]⟩):D)):jVj).length++(List.replicate (Int.toNat ((a).length:Int)) (.v (.string ⟨#[]⟩):D)).drop (a).length),.lst false 1 (b.take ((List.replicate (Int.toNat ((b).length:Int)) (I 0:D)):jVj).length++(List.replicate (Int.toNat ((b).length:Int)) (I 0:D)).drop (b).length),.v (.string g)]]:jVj)) (d++([.agg [I a0,.v (.string f),.lst false 1 (a.take ((List.replicate (Int.toNat ((a).length:Int)) (.v (.string ⟨#[]⟩):D)):jVj).length++(List.replicate (Int.toNat ((a).length:Int)) (.v (.string ⟨#[]⟩):D)).drop (a).length),.lst false 1 (b.take ((List.replicate (Int.toNat ((b).length:Int)) (I 0:D)):jVj).length++(List.replicate (Int.toNat ((b).length:Int)) (I 0:D)).drop (b).length),.v (.string g)]]:jVj)) q r s i j k l m o p).bind fun e=>some ((h++([.agg [I a0,.v (.string f),.lst false 1 (a.take ((List.replicate (Int.toNat ((a).length:Int)) (.v (.string ⟨#[]⟩):D)):jVj).length++(List.replicate (Int.toNat ((a).length:Int)) (.v (.string ⟨#[]⟩):D)).drop (a).length),.lst false 1 (b.take ((List.replicate (Int.toNat ((b).length:Int)) (I 0:D)):jVj).length++(List.replicate (Int.toNat ((b).length:Int)) (I 0:D)).drop (b).length),.v (.string g)]]:jVj)),(d++([.agg [I a0,.v (.string f),.lst false 1 (a.take ((List.replicate (Int.toNat ((a).length:Int)) (.v (.string ⟨#[]⟩):D)):jVj).length++(List.replicate (Int.toNat ((a).length:Int)) (.v (.string ⟨#[]⟩):D)).drop (a).length),.lst false 1 (b.take ((List.replicate (Int.toNat ((b).length:Int)) (I 0:D)):jVj).length++(List.replicate (Int.toNat ((b).length:Int)) (I 0:D)).drop (b).length),.v (.string g)]]:jVj)),e.1,e.2.1,e.2.2.1,e.2.2.2.1,e.2.2.2.2.1,e.2.2.2.2.2.1,e.2.2.2.2.2.2.1,e.2.2.2.2.2.2.2.1,e.2.2.2.2.2.2.2.2.1,e.2.2.2.2.2.2.2.2.2) else none else none else none else none
theorem Ut {n a0 e a b f u t v x y g i j k m p s r}(h:WF n a0 e a b f u t v x y g i j k m p s=some r):ComputesO cx 34 [.ptr 0 0 0 0 0,.d (.agg [I a0,Qe e,.lst false 1 a,.lst false 1 b,Qe f])] (some (Qa u t v x y g i j k m p s)) (.d (.tup [])) (Qa' r) []:=by
 unfold WF at h;have⟨h1,h⟩:=gd h;have⟨h2,h⟩:=gd h;have⟨h3,h⟩:=gd h;have q:=Qb (ro 100 h3) (Qb h2 (Qb h1 QA));let o(l:jOj):=b1::b1::b1::b1::l;obtain⟨z,h⟩|⟨z,h⟩:=io h
 ·have⟨h5,h⟩:=gd h;have⟨h6,h⟩:=gd h;have q:=Qb h6 (Qb h5 (Qb z q));let o l:=o (b1::.ix 0::b1::b1::l);have⟨c,h7,h⟩:=bo h;obtain c|c:=c
  ·cases h;exact rfO 0 (o [.lp [] [2,3,6,7,8] [0,1,2,10,11,12,13,17,18,22,26,83,84] (.exit 0) [(2,.ptr 83 0 0 0 0),(3,.ptr 84 0 0 0 0)] [(0,.box (.agg [.own 1 1,.own 2 1,.d (I v),.d (I x),.d (B y),.d (B g),.d (I i),.d (I j),.d (I k),.own 10 0,.own 11 0,.own 12 0])),(1,.row 1 5 (u++([.agg [I a0,Qe e,.lst false 1 (a.take ((List.replicate (Int.toNat ((a).length:Int)) (Qe ⟨#[]⟩:D)):jVj).length++(List.replicate (Int.toNat ((a).length:Int)) (Qe ⟨#[]⟩:D)).drop (a).length),.lst false 1 (b.take ((List.replicate (Int.toNat ((b).length:Int)) (I 0:D)):jVj).length++(List.replicate (Int.toNat ((b).length:Int)) (I 0:D)).drop (b).length),Qe f]]:jVj))),(2,.row 1 5 (t.take (Int.toNat (((t).length:Int) - 1)))),(10,.row 0 1 m),(11,.row 0 6 p),(12,.row 0 7 s),(13,.box (.agg [.d (I a0),.d (Qe e),.own 22 0,.own 26 0,.d (Qe f)])),(17,.box (.agg [.d (I a0),.d (Qe e),.own 22 0,.own 26 0,.d (Qe f)])),(18,.box (.agg [.d (I a0),.d (Qe e),.own 22 0,.own 26 0,.d (Qe f)])),(22,.frozen 0 1 (a.take ((List.replicate (Int.toNat ((a).length:Int)) (Qe ⟨#[]⟩:D)):jVj).length++(List.replicate (Int.toNat ((a).length:Int)) (Qe ⟨#[]⟩:D)).drop (a).length)),(26,.frozen 0 1 (b.take ((List.replicate (Int.toNat ((b).length:Int)) (I 0:D)):jVj).length++(List.replicate (Int.toNat ((b).length:Int)) (I 0:D)).drop (b).length)),(83,.box (.d YC)),(84,.box (.d YC))] 135]) (Qb (QE Kk h7) q)
  cases h;exact rfO 0 (o [.lp [] [2,3,6,7,8] [0,1,2,10,11,12,13,17,18,22,26,83,84] (.exit 0) [(2,.ptr 83 0 0 0 0),(3,.ptr 84 0 0 0 0)] [(0,.box (.agg [.own 1 1,.own 2 1,.d (I v),.d (I x),.d (B y),.d (B g),.d (I i),.d (I j),.d (I k),.own 10 0,.own 11 0,.own 12 0])),(1,.row 1 5 (u++([.agg [I a0,Qe e,.lst false 1 (a.take ((List.replicate (Int.toNat ((a).length:Int)) (Qe ⟨#[]⟩:D)):jVj).length++(List.replicate (Int.toNat ((a).length:Int)) (Qe ⟨#[]⟩:D)).drop (a).length),.lst false 1 (b.take ((List.replicate (Int.toNat ((b).length:Int)) (I 0:D)):jVj).length++(List.replicate (Int.toNat ((b).length:Int)) (I 0:D)).drop (b).length),Qe f]]:jVj))),(2,.row 1 5 (t.take (Int.toNat (((t).length:Int) - 1)))),(10,.row 0 1 m),(11,.row 0 6 p),(12,.row 0 7 s),(13,.box (.agg [.d (I a0),.d (Qe e),.own 22 0,.own 26 0,.d (Qe f)])),(17,.box (.agg [.d (I a0),.d (Qe e),.own 22 0,.own 26 0,.d (Qe f)])),(18,.box (.agg [.d (I a0),.d (Qe e),.own 22 0,.own 26 0,.d (Qe f)])),(22,.frozen 0 1 (a.take ((List.replicate (Int.toNat ((a).length:Int)) (Qe ⟨#[]⟩:D)):jVj).length++(List.replicate (Int.toNat ((a).length:Int)) (Qe ⟨#[]⟩:D)).drop (a).length)),(26,.frozen 0 1 (b.take ((List.replicate (Int.toNat ((b).length:Int)) (I 0:D)):jVj).length++(List.replicate (Int.toNat ((b).length:Int)) (I 0:D)).drop (b).length)),(83,.box (.d YC)),(84,.box (.agg [.d (I c.1),.d (I c.2.1),.d (B c.2.2.1),.d (B c.2.2.2.1),.d (I c.2.2.2.2.1),.d (I c.2.2.2.2.2.1),.d (I c.2.2.2.2.2.2.1),.own 102 0,.own 103 0,.own 104 0])),(102,.row 0 1 c.2.2.2.2.2.2.2.1),(103,.row 0 6 c.2.2.2.2.2.2.2.2.1),(104,.row 0 7 c.2.2.2.2.2.2.2.2.2)] 135]) (Qb (QE Kk h7) q)
 have⟨h5,h⟩:=gd h;have⟨t6,h6,h⟩:=bo h;cases h;exact rfO 0 (o [b0,b1,.ix (-9),.obj (some 0) (.d (.tup [])) (Qa (u++([.agg [I a0,Qe e,.lst false 1 (a.take ((List.replicate (Int.toNat ((a).length:Int)) (Qe ⟨#[]⟩:D)):jVj).length++(List.replicate (Int.toNat ((a).length:Int)) (Qe ⟨#[]⟩:D)).drop (a).length),.lst false 1 (b.take ((List.replicate (Int.toNat ((b).length:Int)) (I 0:D)):jVj).length++(List.replicate (Int.toNat ((b).length:Int)) (I 0:D)).drop (b).length),Qe f]]:jVj)) (t++([.agg [I a0,Qe e,.lst false 1 (a.take ((List.replicate (Int.toNat ((a).length:Int)) (Qe ⟨#[]⟩:D)):jVj).length++(List.replicate (Int.toNat ((a).length:Int)) (Qe ⟨#[]⟩:D)).drop (a).length),.lst false 1 (b.take ((List.replicate (Int.toNat ((b).length:Int)) (I 0:D)):jVj).length++(List.replicate (Int.toNat ((b).length:Int)) (I 0:D)).drop (b).length),Qe f]]:jVj)) t6.1 t6.2.1 t6.2.2.1 t6.2.2.2.1 t6.2.2.2.2.1 t6.2.2.2.2.2.1 t6.2.2.2.2.2.2.1 t6.2.2.2.2.2.2.2.1 t6.2.2.2.2.2.2.2.2.1 t6.2.2.2.2.2.2.2.2.2) [true,true]]) (Qb (Xa h6) (Qb (ro 100 h5) (Qb (Zy z) q)))
def QP (n:Nat)(a0:jVj)(a:(Unit)⊕Int×Int×Int×Bool×Bool×Int×Int×Int×jVj×jVj×jVj×jVj×jVj):Option ((Unit⊕Int×Int×Int×Bool×Bool×Int×Int×Int×jVj×jVj×jVj×jVj×jVj)⊕Int×Int×Int×Int×Bool×Bool×Int×Int×Int×jVj×jVj×jVj×jVj×jVj⊕Int⊕Unit⊕Int×Int×Bool×Bool×Int×Int×Int×jVj×jVj×jVj×jVj×jVj):=match a with|(.inl a)=>(if 0<((a0).length:Int) then(el Wc a0 0).bind fun b=>(Wv n b.1 b.2.1 b.2.2.1 b.2.2.2.1 b.2.2.2.2).bind fun d=>if d=0 then(Qq n b.1 b.2.1 b.2.2.1 b.2.2.2.1 b.2.2.2.2 ([]) ([]) 0 0 false false 0 0 0 ([]) ([]) ([])).bind fun e=>if e=0 then(WF n b.1 b.2.1 b.2.2.1 b.2.2.2.1 b.2.2.2.2 ([]) ([]) 0 0 false false 0 0 0 ([]) ([]) ([])).bind fun c=>some (.inl (.inr (1,c.2.2.1,c.2.2.2.1,c.2.2.2.2.1,c.2.2.2.2.2.1,c.2.2.2.2.2.2.1,c.2.2.2.2.2.2.2.1,c.2.2.2.2.2.2.2.2.1,c.1,c.2.1,c.2.2.2.2.2.2.2.2.2.1,c.2.2.2.2.2.2.2.2.2.2.1,c.2.2.2.2.2.2.2.2.2.2.2))) else some (.inr (.inl (1,e,0,0,false,false,0,0,0,[],[],[],[],[]))) else some (.inr (.inr (.inl d))) else some (.inr (.inr (.inr (.inl ())))))|.inr a=>(if a.1<((a0).length:Int) then(el Wc a0 a.1).bind fun b=>(Wv n b.1 b.2.1 b.2.2.1 b.2.2.2.1 b.2.2.2.2).bind fun d=>if d=0 then(Qq n b.1 b.2.1 b.2.2.1 b.2.2.2.1 b.2.2.2.2 a.2.2.2.2.2.2.2.2.1 a.2.2.2.2.2.2.2.2.2.1 a.2.1 a.2.2.1 a.2.2.2.1 a.2.2.2.2.1 a.2.2.2.2.2.1 a.2.2.2.2.2.2.1 a.2.2.2.2.2.2.2.1 a.2.2.2.2.2.2.2.2.2.2.1 a.2.2.2.2.2.2.2.2.2.2.2.1 a.2.2.2.2.2.2.2.2.2.2.2.2).bind fun e=>if e=0 then(WF n b.1 b.2.1 b.2.2.1 b.2.2.2.1 b.2.2.2.2 a.2.2.2.2.2.2.2.2.1 a.2.2.2.2.2.2.2.2.2.1 a.2.1 a.2.2.1 a.2.2.2.1 a.2.2.2.2.1 a.2.2.2.2.2.1 a.2.2.2.2.2.2.1 a.2.2.2.2.2.2.2.1 a.2.2.2.2.2.2.2.2.2.2.1 a.2.2.2.2.2.2.2.2.2.2.2.1 a.2.2.2.2.2.2.2.2.2.2.2.2).bind fun c=>if Qg (a.1+1) then some (.inl (.inr ((a.1+1),c.2.2.1,c.2.2.2.1,c.2.2.2.2.1,c.2.2.2.2.2.1,c.2.2.2.2.2.2.1,c.2.2.2.2.2.2.2.1,c.2.2.2.2.2.2.2.2.1,c.1,c.2.1,c.2.2.2.2.2.2.2.2.2.1,c.2.2.2.2.2.2.2.2.2.2.1,c.2.2.2.2.2.2.2.2.2.2.2))) else none else if Qg (a.1+1) then some (.inr (.inl ((a.1+1),e,a.2.1,a.2.2.1,a.2.2.2.1,a.2.2.2.2.1,a.2.2.2.2.2.1,a.2.2.2.2.2.2.1,a.2.2.2.2.2.2.2.1,a.2.2.2.2.2.2.2.2.1,a.2.2.2.2.2.2.2.2.2.1,a.2.2.2.2.2.2.2.2.2.2.1,a.2.2.2.2.2.2.2.2.2.2.2.1,a.2.2.2.2.2.2.2.2.2.2.2.2))) else none else if Qg (a.1+1) then some (.inr (.inl ((a.1+1),d,a.2.1,a.2.2.1,a.2.2.2.1,a.2.2.2.2.1,a.2.2.2.2.2.1,a.2.2.2.2.2.2.1,a.2.2.2.2.2.2.2.1,a.2.2.2.2.2.2.2.2.1,a.2.2.2.2.2.2.2.2.2.1,a.2.2.2.2.2.2.2.2.2.2.1,a.2.2.2.2.2.2.2.2.2.2.2.1,a.2.2.2.2.2.2.2.2.2.2.2.2))) else none else some (.inr (.inr (.inr (.inr (a.2.1,a.2.2.1,a.2.2.2.1,a.2.2.2.2.1,a.2.2.2.2.2.1,a.2.2.2.2.2.2.1,a.2.2.2.2.2.2.2.1,a.2.2.2.2.2.2.2.2.1,a.2.2.2.2.2.2.2.2.2.1,a.2.2.2.2.2.2.2.2.2.2.1,a.2.2.2.2.2.2.2.2.2.2.2.1,a.2.2.2.2.2.2.2.2.2.2.2.2))))))
abbrev Xp:D:=.agg [.lst true 0 [],.lst true 0 [],I 0,I 0,B false,B false,I 0,I 0,I 0,.lst true 0 [],.lst true 0 [],.lst true 0 []]
noncomputable def zu (a0:jVj):Lp (Unit⊕Int×Int×Int×Bool×Bool×Int×Int×Int×jVj×jVj×jVj×jVj×jVj) (Int×Int×Int×Int×Bool×Bool×Int×Int×Int×jVj×jVj×jVj×jVj×jVj⊕Int⊕Unit⊕Int×Int×Bool×Bool×Int×Int×Int×jVj×jVj×jVj×jVj×jVj):=⟨fun
 | (.inl sa)=>[(5,.ptr 4 0 0 0 0),(15,.d (.lst false 5 a0)),(16,.d (I ((a0).length:Int))),(17,.d (I 0))]
 | (.inr sa)=>[(5,.ptr 4 0 0 0 0),(15,.d (.lst false 5 a0)),(16,.d (I ((a0).length:Int))),(17,.d (I sa.1))],fun
 | (.inl sa)=>[(4,.box (.d Xp))]
 | (.inr sa)=>[(4,.box (.agg [.own 28 0,.own 29 0,.d (I sa.2.1),.d (I sa.2.2.1),.d (B sa.2.2.2.1),.d (B sa.2.2.2.2.1),.d (I sa.2.2.2.2.2.1),.d (I sa.2.2.2.2.2.2.1),.d (I sa.2.2.2.2.2.2.2.1),.own 37 0,.own 38 0,.own 39 0])),(28,.row 0 5 sa.2.2.2.2.2.2.2.2.1),(29,.row 0 5 sa.2.2.2.2.2.2.2.2.2.1),(37,.row 0 1 sa.2.2.2.2.2.2.2.2.2.2.1),(38,.row 0 6 sa.2.2.2.2.2.2.2.2.2.2.2.1),(39,.row 0 7 sa.2.2.2.2.2.2.2.2.2.2.2.2)],fun
 | (.inl e)=>.ret
 | (.inr (.inl e))=>.ret
 | (.inr (.inr (.inl e)))=>(.exit 0)
 | (.inr (.inr (.inr e)))=>(.exit 0),fun
 | (.inl e)=>[(2,.ptr 4 0 0 0 0),(3,.d (I e.1)),(4,.d (I e.2.1))]
 | (.inr (.inl e))=>[(2,.ptr 4 0 0 0 0),(3,.d (I 1)),(4,.d (I e))]
 | (.inr (.inr (.inl e)))=>[(5,.ptr 4 0 0 0 0)]
 | (.inr (.inr (.inr e)))=>[(5,.ptr 4 0 0 0 0)],fun
 | (.inl e)=>[(4,.box (.agg [.own 28 0,.own 29 0,.d (I e.2.2.1),.d (I e.2.2.2.1),.d (B e.2.2.2.2.1),.d (B e.2.2.2.2.2.1),.d (I e.2.2.2.2.2.2.1),.d (I e.2.2.2.2.2.2.2.1),.d (I e.2.2.2.2.2.2.2.2.1),.own 37 0,.own 38 0,.own 39 0])),(28,.row 0 5 e.2.2.2.2.2.2.2.2.2.1),(29,.row 0 5 e.2.2.2.2.2.2.2.2.2.2.1),(37,.row 0 1 e.2.2.2.2.2.2.2.2.2.2.2.1),(38,.row 0 6 e.2.2.2.2.2.2.2.2.2.2.2.2.1),(39,.row 0 7 e.2.2.2.2.2.2.2.2.2.2.2.2.2)]
 | (.inr (.inl e))=>[(4,.box (.d Xp))]
 | (.inr (.inr (.inl e)))=>[(4,.box (.d Xp))]
 | (.inr (.inr (.inr e)))=>[(4,.box (.agg [.own 28 0,.own 29 0,.d (I e.1),.d (I e.2.1),.d (B e.2.2.1),.d (B e.2.2.2.1),.d (I e.2.2.2.2.1),.d (I e.2.2.2.2.2.1),.d (I e.2.2.2.2.2.2.1),.own 37 0,.own 38 0,.own 39 0])),(28,.row 0 5 e.2.2.2.2.2.2.2.1),(29,.row 0 5 e.2.2.2.2.2.2.2.2.1),(37,.row 0 1 e.2.2.2.2.2.2.2.2.2.1),(38,.row 0 6 e.2.2.2.2.2.2.2.2.2.2.1),(39,.row 0 7 e.2.2.2.2.2.2.2.2.2.2.2)]⟩
theorem Ym {n a0}(b)(r)(h:QP n a0 b=some r):Rl (Zt cx.P 36 0) 40 0 false (zu a0) b r:=by
 unfold QP at h;obtain b|b:=b
 ·obtain⟨c,h⟩|⟨c,h⟩:=io h
  ·have⟨ta2,ha2,h⟩:=bo h;have⟨ta3,ha3,h⟩:=bo h;have q:=Qb (UI ha3) (Q2 V6 ha2 (Qb (jDj c) QA));let o(l:jOj):=b1::.el (VQ ta2)::.ret (I ta3)::l;obtain⟨a,h⟩|⟨a,h⟩:=io h
   ·have⟨ta5,ha5,h⟩:=bo h;have q:=Qb (Yr ha5) (Qb (eqt a) q);let o l:=o (b1::.obj (some 4) (.d (I ta5)) (Qa ([]) ([]) 0 0 false false 0 0 0 ([]) ([]) ([])) Zj::l);obtain⟨e,h⟩|⟨e,h⟩:=io h
    ·have⟨ta7,ha7,h⟩:=bo h;cases h;exact rn 12 (o [b0,.obj (some 4) (.d (.tup [])) (Qa' ta7) []]) [] [5,15,16,17] [4,28,29,37,38,39] (Qb ((by unfold Qg;omega):Qg 1) (Qb (Ut ha7) (Qb (nef e) q)))
    cases h;exact rx 12 (o [b1]) [] [2,3,4] [4,28,29,37,38,39] (Qb ((by unfold Qg;omega):Qg 1) (Qb (net e) q))
   cases h;exact rx 12 (o [b0,b1]) [] [2,3,4] [4] (Qb ((by unfold Qg;omega):Qg 1) (Qb (net a) (Qb (eqf a) q)))
  cases h;exact rx 12 [b0] [] [5] [4] (Qb (jEj c) QA)
 ·obtain⟨c,h⟩|⟨c,h⟩:=io h
  ·have⟨ta2,ha2,h⟩:=bo h;have⟨ta3,ha3,h⟩:=bo h;have q:=Qb (UI ha3) (Q2 V6 ha2 (Qb (jDj c) QA));let o(l:jOj):=b1::.el (VQ ta2)::.ret (I ta3)::l;obtain⟨a,h⟩|⟨a,h⟩:=io h
   ·have⟨ta5,ha5,h⟩:=bo h;have q:=Qb (Yr ha5) (Qb (eqt a) q);let o l:=o (b1::.obj (some 4) (.d (I ta5)) (Qa b.2.2.2.2.2.2.2.2.1 b.2.2.2.2.2.2.2.2.2.1 b.2.1 b.2.2.1 b.2.2.2.1 b.2.2.2.2.1 b.2.2.2.2.2.1 b.2.2.2.2.2.2.1 b.2.2.2.2.2.2.2.1 b.2.2.2.2.2.2.2.2.2.2.1 b.2.2.2.2.2.2.2.2.2.2.2.1 b.2.2.2.2.2.2.2.2.2.2.2.2) Zj::l);obtain⟨e,h⟩|⟨e,h⟩:=io h
    ·have⟨ta7,ha7,h⟩:=bo h;have⟨ha8,h⟩:=gd h;cases h;exact rn 40 (o [b0,.obj (some 4) (.d (.tup [])) (Qa' ta7) []]) [] [5,15,16,17] [4,28,29,37,38,39] (Qb ha8 (Qb (Ut ha7) (Qb (nef e) q)))
    have⟨ha7,h⟩:=gd h;cases h;exact rx 40 (o [b1]) [] [2,3,4] [4,28,29,37,38,39] (Qb ha7 (Qb (net e) q))
   have⟨ha5,h⟩:=gd h;cases h;exact rx 40 (o [b0,b1]) [] [2,3,4] [4,28,29,37,38,39] (Qb ha5 (Qb (net a) (Qb (eqf a) q)))
  cases h;exact rx 40 [b0] [] [5] [4,28,29,37,38,39] (Qb (jEj c) QA)
def ZK (n:Nat)(a0:jVj):Option (Int×Int×jVj×jVj×jRj) := if((a0).length:Int)>1000 then some (0,5,[],[],0,0,false,false,0,0,0,[],[],[]) else(QU (QP n a0) n (.inl ())).bind fun t2=>match t2 with|.inl t2=>(some (t2.1,t2.2.1,t2.2.2.2.2.2.2.2.2.2.1,t2.2.2.2.2.2.2.2.2.2.2.1,t2.2.2.1,t2.2.2.2.1,t2.2.2.2.2.1,t2.2.2.2.2.2.1,t2.2.2.2.2.2.2.1,t2.2.2.2.2.2.2.2.1,t2.2.2.2.2.2.2.2.2.1,t2.2.2.2.2.2.2.2.2.2.2.2.1,t2.2.2.2.2.2.2.2.2.2.2.2.2.1,t2.2.2.2.2.2.2.2.2.2.2.2.2.2))|(.inr (.inl t2))=>(some (1,t2,[],[],0,0,false,false,0,0,0,[],[],[]))|(.inr (.inr (.inl t2)))=>(some (0,0,[],[],0,0,false,false,0,0,0,[],[],[]))|(.inr (.inr (.inr t2)))=>(some (0,0,t2.2.2.2.2.2.2.2.1,t2.2.2.2.2.2.2.2.2.1,t2.1,t2.2.1,t2.2.2.1,t2.2.2.2.1,t2.2.2.2.2.1,t2.2.2.2.2.2.1,t2.2.2.2.2.2.2.1,t2.2.2.2.2.2.2.2.2.2.1,t2.2.2.2.2.2.2.2.2.2.2.1,t2.2.2.2.2.2.2.2.2.2.2.2))
theorem KO {n a0 r}(h:ZK n a0=some r):ComputesO cx 36 [.d (.lst false 5 a0)] none (.tup [.ptr 0 0 0 0 0,.d (I r.1),.d (I r.2.1)]) (Qa' r.2.2) []:=by
 unfold ZK at h;obtain⟨a,h⟩|⟨a,h⟩:=io h
 ·cases h;exact rfO 4 [b1] (Qb (jDj a) QA)
 have q:=Qb (jEj a) QA;have⟨t2,h2,h⟩:=bo h;obtain t2|t2|t2|t2:=t2
 ·cases h;exact rfO 4 [b0,.lp [] [5,15,16,17] [4] .ret [(2,.ptr 4 0 0 0 0),(3,.d (I t2.1)),(4,.d (I t2.2.1))] [(4,.box (.agg [.own 28 0,.own 29 0,.d (I t2.2.2.1),.d (I t2.2.2.2.1),.d (B t2.2.2.2.2.1),.d (B t2.2.2.2.2.2.1),.d (I t2.2.2.2.2.2.2.1),.d (I t2.2.2.2.2.2.2.2.1),.d (I t2.2.2.2.2.2.2.2.2.1),.own 37 0,.own 38 0,.own 39 0])),(28,.row 0 5 t2.2.2.2.2.2.2.2.2.2.1),(29,.row 0 5 t2.2.2.2.2.2.2.2.2.2.2.1),(37,.row 0 1 t2.2.2.2.2.2.2.2.2.2.2.2.1),(38,.row 0 6 t2.2.2.2.2.2.2.2.2.2.2.2.2.1),(39,.row 0 7 t2.2.2.2.2.2.2.2.2.2.2.2.2.2)] 86] (Qb (QE Ym h2) q)
 ·cases h;exact rfO 4 [b0,.lp [] [5,15,16,17] [4] .ret [(2,.ptr 4 0 0 0 0),(3,.d (I 1)),(4,.d (I t2))] [(4,.box (.d Xp))] 86] (Qb (QE Ym h2) q)
 ·cases h;exact rfO 4 [b0,.lp [] [5,15,16,17] [4] (.exit 0) [(5,.ptr 4 0 0 0 0)] [(4,.box (.d Xp))] 86] (Qb (QE Ym h2) q)
 cases h;exact rfO 4 [b0,.lp [] [5,15,16,17] [4] (.exit 0) [(5,.ptr 4 0 0 0 0)] [(4,.box (.agg [.own 28 0,.own 29 0,.d (I t2.1),.d (I t2.2.1),.d (B t2.2.2.1),.d (B t2.2.2.2.1),.d (I t2.2.2.2.2.1),.d (I t2.2.2.2.2.2.1),.d (I t2.2.2.2.2.2.2.1),.own 37 0,.own 38 0,.own 39 0])),(28,.row 0 5 t2.2.2.2.2.2.2.2.1),(29,.row 0 5 t2.2.2.2.2.2.2.2.2.1),(37,.row 0 1 t2.2.2.2.2.2.2.2.2.2.1),(38,.row 0 6 t2.2.2.2.2.2.2.2.2.2.2.1),(39,.row 0 7 t2.2.2.2.2.2.2.2.2.2.2.2)] 86] (Qb (QE Ym h2) q)
def Wf (n:Nat)(a0:jVj)(d:jSj):Option (Int×Int) := (ZK n a0).bind fun t1=>if t1.2.1=0 then(Qt n 111 t1.2.2.1 t1.2.2.2.1 t1.2.2.2.2.1 t1.2.2.2.2.2.1 t1.2.2.2.2.2.2.1 t1.2.2.2.2.2.2.2.1 t1.2.2.2.2.2.2.2.2.1 t1.2.2.2.2.2.2.2.2.2.1 t1.2.2.2.2.2.2.2.2.2.2.1 t1.2.2.2.2.2.2.2.2.2.2.2.1 t1.2.2.2.2.2.2.2.2.2.2.2.2.1 t1.2.2.2.2.2.2.2.2.2.2.2.2.2).bind fun e=>(Zf n e d).bind fun t4=>(Qm n (!t4) 10).bind fun f=>if f=0 then(QC n e d).bind fun c=>if 0<=c/\c<((t1.2.2.2.2.2.2.2.2.2.2.2.2.2).length:Int) then((nth (t1.2.2.2.2.2.2.2.2.2.2.2.2.2) (Int.toNat c)).bind Z4).bind fun a=>(Za n a.1 a.2.1 a.2.2.1 a.2.2.2.1 a.2.2.2.2.1 a.2.2.2.2.2.1 a.2.2.2.2.2.2).bind fun b=>some (b,0) else none else some (0,f) else some (0,t1.2.1)
theorem YY {n a0 c r}(h:Wf n a0 c=some r):Computes cx 13 [.lst false 5 a0,Qe c] (.tup [I r.1,I r.2]):=by
 unfold Wf at h;have⟨t1,h1,h⟩:=bo h;have q:=Qb (KO h1) QA;let o(l:jOj):=b1::.obj none (.tup [.ptr 0 0 0 0 0,.d (I t1.1),.d (I t1.2.1)]) (Qa' t1.2.2) []::l;obtain⟨a,h⟩|⟨a,h⟩:=io h
 ·have⟨t3,h3,h⟩:=bo h;have⟨t4,h4,h⟩:=bo h;have⟨t5,h5,h⟩:=bo h;have q:=Qb (Qs h5) (Qb (Z7 h4) (Qb (Qz h3) (Qb (nef a) q)));let o l:=o (b0::.obj (some 21) (.d (.lst false 1 t3)) (Qa' t1.2.2) Zj::.ret (B t4)::.ret (I t5)::l);obtain⟨b,h⟩|⟨b,h⟩:=io h
  ·have⟨t7,h7,h⟩:=bo h;have⟨h8,h⟩:=gd h;have⟨t9,h9,h⟩:=bo h;have⟨t10,h10,h⟩:=bo h;cases h;exact rf (o [b0,b1,.obj (some 21) (.d (.lst false 1 t3)) (Qa' t1.2.2) Zj,.ret (I t7),b1,.el (Zr t9),.ret (I t10)]) (Qb (WU h10) (Qb (Q0 Zg h9) (Qb h8 (Qb (QJ h7) (Qb (Qz h3) (Qb (nef b) q))))))
  cases h;exact rf (o [b1]) (Qb (net b) q)
 cases h;exact rf (o [b1,b1]) (Qb (net a) (Qb (net a) q))
def Vp (n:Nat)(a0:jVj)(d:jSj):Option (Int×Int) := (ZK n a0).bind fun t1=>if t1.2.1=0 then(Qt n 111 t1.2.2.1 t1.2.2.2.1 t1.2.2.2.2.1 t1.2.2.2.2.2.1 t1.2.2.2.2.2.2.1 t1.2.2.2.2.2.2.2.1 t1.2.2.2.2.2.2.2.2.1 t1.2.2.2.2.2.2.2.2.2.1 t1.2.2.2.2.2.2.2.2.2.2.1 t1.2.2.2.2.2.2.2.2.2.2.2.1 t1.2.2.2.2.2.2.2.2.2.2.2.2.1 t1.2.2.2.2.2.2.2.2.2.2.2.2.2).bind fun e=>(Zf n e d).bind fun t4=>(Qm n (!t4) 10).bind fun f=>if f=0 then(QC n e d).bind fun c=>if 0<=c/\c<((t1.2.2.2.2.2.2.2.2.2.2.2.2.2).length:Int) then((nth (t1.2.2.2.2.2.2.2.2.2.2.2.2.2) (Int.toNat c)).bind Z4).bind fun a=>(WQ n a.1 a.2.1 a.2.2.1 a.2.2.2.1 a.2.2.2.2.1 a.2.2.2.2.2.1 a.2.2.2.2.2.2).bind fun b=>some (b,0) else none else some (0,f) else some (0,t1.2.1)
theorem Kc {n a0 c r}(h:Vp n a0 c=some r):Computes cx 14 [.lst false 5 a0,Qe c] (.tup [I r.1,I r.2]):=by
 unfold Vp at h;have⟨t1,h1,h⟩:=bo h;have q:=Qb (KO h1) QA;let o(l:jOj):=b1::.obj none (.tup [.ptr 0 0 0 0 0,.d (I t1.1),.d (I t1.2.1)]) (Qa' t1.2.2) []::l;obtain⟨a,h⟩|⟨a,h⟩:=io h
 ·have⟨t3,h3,h⟩:=bo h;have⟨t4,h4,h⟩:=bo h;have⟨t5,h5,h⟩:=bo h;have q:=Qb (Qs h5) (Qb (Z7 h4) (Qb (Qz h3) (Qb (nef a) q)));let o l:=o (b0::.obj (some 21) (.d (.lst false 1 t3)) (Qa' t1.2.2) Zj::.ret (B t4)::.ret (I t5)::l);obtain⟨b,h⟩|⟨b,h⟩:=io h
  ·have⟨t7,h7,h⟩:=bo h;have⟨h8,h⟩:=gd h;have⟨t9,h9,h⟩:=bo h;have⟨t10,h10,h⟩:=bo h;cases h;exact rf (o [b0,b1,.obj (some 21) (.d (.lst false 1 t3)) (Qa' t1.2.2) Zj,.ret (I t7),b1,.el (Zr t9),.ret (I t10)]) (Qb (UH h10) (Qb (Q0 Zg h9) (Qb h8 (Qb (QJ h7) (Qb (Qz h3) (Qb (nef b) q))))))
  cases h;exact rf (o [b1]) (Qb (net b) q)
 cases h;exact rf (o [b1,b1]) (Qb (net a) (Qb (net a) q))
def V2 (n:Nat)(a0:jSj):Option (Int) := if((⟨#[32]⟩:jSj).toList==a0.toList)=true then some 0 else(Un n a0 32).bind fun t2=>some t2
theorem EC {n a0 r}(h:V2 n a0=some r):Computes cx 169 [Qe a0,Qe ⟨#[32]⟩] (I r):=by
 unfold V2 at h;obtain⟨a,h⟩|⟨a,h⟩:=io h
 ·obtain rfl:=oi h;exact rf [.no,b1] (Qb a QA)
 have⟨t2,h2,h⟩:=bo h;obtain rfl:=oi h;exact rf [.no,b0,.no,.no,.ret (I t2)] (Qb (ko h2) (Qb (Zy a) QA))
def YO (n:Nat)(a0:jSj):Option (Int) := (V2 n a0).bind fun t1=>some t1
theorem yz {n a0 r}(h:YO n a0=some r):Computes cx 151 [Qe a0,Qe ⟨#[32]⟩] (I r):=by unfold YO at h;have⟨t1,h1,h⟩:=bo h;obtain rfl:=oi h;exact rf [.ret (I t1)] (Qb (EC h1) QA)
def Wb (n:Nat)(a0:jSj)(t1:Int)(a:(jSj×Int×jVj)):Option (jSj×Int×jVj⊕jSj×Int×jVj) := if a.2.1<((Zv (t1+1) ((a0.size:Int)+1)) - 1) then(YO n a.1).bind fun b=>if b<0 then some (.inr (a.1,a.2.1,a.2.2)) else if Qg (b+0) then(XY a.1 none (some (b+0))).bind fun c=>if 0<=a.2.1/\a.2.1<((a.2.2).length:Int) then if(Int.toNat a.2.1)<(a.2.2).length then if Qg (b+1) then(XY a.1 (some (b+1)) none).bind fun d=>if Qg (a.2.1+1) then some (.inl (d,(a.2.1+1),(List.set a.2.2 (Int.toNat a.2.1) (.v (.string c):D)))) else none else none else none else none else none else some (.inr (a.1,a.2.1,a.2.2))
noncomputable def EP (a0:jSj)(t1:Int):Lp (jSj×Int×jVj) (jSj×Int×jVj):=⟨fun a=>[(0,.d (Qe a.1)),(1,.d (Qe ⟨#[32]⟩)),(2,.d (I 0)),(3,.d (I ((Zv (t1+1) ((a0.size:Int)+1)) - 1))),(9,.own 19 0),(10,.d (I a.2.1))],fun a=>[(19,.row 0 1 a.2.2)],fun _=>(.exit 0),fun e=>[(0,.d (Qe e.1)),(9,.own 19 0),(10,.d (I e.2.1))],fun e=>[(19,.row 0 1 e.2.2)]⟩
theorem EJ {n a0 t1}(c)(r)(h:Wb n a0 t1 c=some r):Rl (Zt cx.P 59 0) 66 0 false (EP a0 t1) c r:=by
 unfold Wb at h;obtain⟨a,h⟩|⟨a,h⟩:=io h
 ·have⟨ta2,ha2,h⟩:=bo h;have q:=Qb (yz ha2) (Qb (jDj a) QA);obtain⟨b,h⟩|⟨b,h⟩:=io h
  ·cases h;exact rx 25 [b1,.ret (I ta2),b1] [] [0,9,10] [19] (Qb (jDj b) q)
  have⟨ha4,h⟩:=gd h;have⟨ta5,d,h⟩:=bo h;have⟨ha6,h⟩:=gd h;have⟨ha7,h⟩:=gd h;have⟨ha8,h⟩:=gd h;have⟨ta9,e,h⟩:=bo h;have⟨ha10,h⟩:=gd h;cases h;exact rn 25 [b1,.ret (I ta2),b0,.el (Qe ta5),b1,b1,.el (Qe ta9)] [] [0,1,2,3,9,10] [19] (Qb ha10 (Qb (Qa1 e:Zu cx.P (Instr.sliceAt 9 (.string c.1) (some (.int .i64 (ta2+1))) none none)=some (.string ta9)) (Qb ha8 (Qb ha7 (Qb ha6 (Qb (Qa1 d:Zu cx.P (Instr.sliceAt 9 (.string c.1) none (some (.int .i64 (ta2+0))) none)=some (.string ta5)) (Qb ha4 (Qb (jEj b) q))))))))
 cases h;exact rx 25 [b0] [] [0,9,10] [19] (Qb (jEj a) QA)
def YI (n:Nat)(a0:jSj):Option (jVj) := (UC n a0 (⟨#[32]⟩)).bind fun t1=>if Qg (t1+1) then if Qg ((a0.size:Int)+1) then if 0<=(Zv (t1+1) ((a0.size:Int)+1))/\(Zv (t1+1) ((a0.size:Int)+1))<=(Zv (t1+1) ((a0.size:Int)+1))/\16*(Zv (t1+1) ((a0.size:Int)+1))<=281474976710656/\(Zv (t1+1) ((a0.size:Int)+1))<=9223372036854775807 then if Qg ((Zv (t1+1) ((a0.size:Int)+1)) - 1) then(QU (Wb n a0 t1) n (a0,0,(List.replicate (Int.toNat (Zv (t1+1) ((a0.size:Int)+1))) (.v (.string ⟨#[]⟩):D)))).bind fun a=>if 0<=a.2.1/\a.2.1<((a.2.2).length:Int) then if(Int.toNat a.2.1)<(a.2.2).length then if Qg (a.2.1+1) then if(0:Int)<=0/\0<=(a.2.1+1)/\(a.2.1+1)<=(((List.set a.2.2 (Int.toNat a.2.1) (.v (.string a.1):D)):jVj).length:Int)/\((List.set a.2.2 (Int.toNat a.2.1) (.v (.string a.1):D))=[]\/1=1) then some (((List.set a.2.2 (Int.toNat a.2.1) (.v (.string a.1):D)).take (Int.toNat (a.2.1+1))).drop (Int.toNat 0)) else none else none else none else none else none else none else none else none
theorem wk {n a0 r}(h:YI n a0=some r):Computes cx 59 [Qe a0,Qe ⟨#[32]⟩,I 0,I (-1)] (.lst false 1 r):=by unfold YI at h;have⟨t1,h1,h⟩:=bo h;have⟨h2,h⟩:=gd h;have⟨h3,h⟩:=gd h;have⟨h4,h⟩:=gd h;have⟨h5,h⟩:=gd h;have⟨t6,h6,h⟩:=bo h;have⟨h7,h⟩:=gd h;have⟨h8,h⟩:=gd h;have⟨h9,h⟩:=gd h;have⟨h10,h⟩:=gd h;cases h;exact rf [.no,.no,.no,.ret (I t1),b1,.lp [] [0,1,2,3,9,10] [19] (.exit 0) [(0,.d (Qe t6.1)),(9,.own 19 0),(10,.d (I t6.2.1))] [(19,.row 0 1 t6.2.2)] 64,b1,b1,b1] (Qb h10 (Qb h9 (Qb h8 (Qb h7 (Qb (QE EJ h6) (Qb h5 (Qb h4 (Qb h3 (Qb h2 (Qb (yA h1) QA))))))))))
def YN (n:Nat)(a0:jSj):Option (jVj) := (YI n a0).bind fun t1=>some t1
theorem yy {n a0 r}(h:YN n a0=some r):Computes cx 27 [Qe a0,Qe ⟨#[32]⟩] (.lst false 1 r):=by unfold YN at h;have⟨t1,h1,h⟩:=bo h;obtain rfl:=oi h;exact rf [.ret (.lst false 1 t1)] (Qb (wk h1) QA)
def ZC (n:Nat)(a0:jSj)(a:(Int×Nat)):Option (Int×Nat⊕Unit⊕Int) := if a.2<a0.size then if((Utf8.decode a0 a.2).1:Int)<48 then some (.inr (.inl ())) else if((Utf8.decode a0 a.2).1:Int)>57 then some (.inr (.inl ())) else if(a0.size:Int)>9 then some (.inr (.inl ())) else if Qg (10*a.1) then if Qg ((10*a.1)+(IntKind.wrap .i64 (IntKind.wrap .i32 (((Utf8.decode a0 a.2).1:Int) - 48)))) then some (.inl (((10*a.1)+(IntKind.wrap .i64 (IntKind.wrap .i32 (((Utf8.decode a0 a.2).1:Int) - 48)))),(a.2+(Utf8.decode a0 a.2).2))) else none else none else some (.inr (.inr a.1))
noncomputable def ws (a0:jSj):Lp (Int×Nat) (Unit⊕Int):=⟨fun a=>[(0,.d (Qe a0)),(4,.d (I a.1)),(8,.own 4 0)],fun a=>[(4,.it (.str a0) a.2)],fun
 | (.inl e)=>.ret
 | (.inr e)=>(.exit 0),fun
 | (.inl e)=>[(2,.d (I 0)),(3,.d (B false))]
 | (.inr e)=>[(0,.d (Qe a0)),(4,.d (I e))],fun _=>[]⟩
theorem Gs {n a0}(e)(r)(h:ZC n a0 e=some r):Rl (Zt cx.P 160 0) 42 0 false (ws a0) e r:=by
 unfold ZC at h;obtain⟨a,h⟩|⟨a,h⟩:=io h
 ·have q:=Qb a QA;obtain⟨b,h⟩|⟨b,h⟩:=io h
  ·cases h;exact rx 5 [b1,.no,b1,.no,.no] [] [2,3] [] (Qb (jDj b) q)
  have q:=Qb (jEj b) q;let o(l:jOj):=b1::.no::b0::l;obtain⟨c,h⟩|⟨c,h⟩:=io h
  ·cases h;exact rx 5 (o [b1,.no]) [] [2,3] [] (Qb (jDj c) q)
  have q:=Qb (jEj c) q;obtain⟨d,h⟩|⟨d,h⟩:=io h
  ·cases h;exact rx 5 (o [b0,b1]) [] [2,3] [] (Qb (jDj d) q)
  have⟨ha5,h⟩:=gd h;have⟨ha6,h⟩:=gd h;cases h;exact rn 5 (o [b0,b0]) [] [0,4,8] [4] (Qb ha6 (Qb ha5 (Qb (jEj d) q)))
 cases h;exact rx 5 [b0,.no] [] [0,4] [] (Qb a QA)
def YP (n:Nat)(a0:jSj):Option (Int×Bool) := (QU (ZC n a0) n (0,0)).bind fun t1=>match t1 with|.inl t1=>(some (0,false))|.inr t1=>(if(!(a0.toList==(⟨#[]⟩:jSj).toList))=true then if(a0.size:Int)=1 then some (t1,true) else(UY a0 0).bind fun t4=>some (t1,(t4 != 48)) else some (t1,false))
theorem yB {n a0 r}(h:YP n a0=some r):Computes cx 160 [Qe a0] (.tup [I r.1,B r.2]):=by
 unfold YP at h;have⟨t1,h1,h⟩:=bo h;obtain t1|t1:=t1
 ·cases h;exact rf [.lp [] [0,4,8] [4] .ret [(2,.d (I 0)),(3,.d (B false))] [] 38] (Qb (QE Gs h1) QA)
 have q:=Qb (QE Gs h1) QA;let o(l:jOj):=.lp [] [0,4,8] [4] (.exit 0) [(0,.d (Qe a0)),(4,.d (I t1))] [] 38::l;obtain⟨a,h⟩|⟨a,h⟩:=io h
 ·have q:=Qb a q;obtain⟨b,h⟩|⟨b,h⟩:=io h
  ·cases h;exact rf (o [b1,b1]) (Qb (eqt b) q)
  have⟨t4,c,h⟩:=bo h;cases h;exact rf (o [b1,b0,.el (.v (.int .u8 t4))]) (Qb (Qc1 c:Zu cx.P (Instr.index 9 (.string a0) (.int .i64 0))=some (.int .u8 t4)) (Qb (eqf b) q))
 cases h;exact rf (o [b0]) (Qb (Zy a) q)
def Wt (n:Nat)(a0:jVj)(a:Bool):Option (jSj×jVj×Bool) := if((a0).length:Int)=0 then some (⟨#[]⟩,[],true) else(el Vg a0 0).bind fun t2=>if(t2.toList==(⟨#[]⟩:jSj).toList)=true then some (⟨#[]⟩,[],true) else if(0:Int)<=1/\1<=((a0).length:Int)/\((a0).length:Int)<=((a0).length:Int)/\(a0=[]\/1=1) then some (t2,(a0.drop (Int.toNat 1)),a) else none
theorem YE {n a0 c r}(h:Wt n a0 c=some r):ComputesO cx 124 [.ptr 0 0 0 0 0] (some [.dat (.lst false 1 a0),.dat (B c)]) (.d (Qe r.1)) [.dat (.lst false 1 r.2.1),.dat (B r.2.2)] []:=by
 unfold Wt at h;obtain⟨a,h⟩|⟨a,h⟩:=io h
 ·cases h;exact(rfO 0 (r:=.d (Qe ⟨#[]⟩)) (cs:=[.dat (.lst true 0 []),.dat (B true)]) [b1,.no] (Qb (eqt a) QA)).le (.refl _) (.refl _) (.refl _) (.dat (.nilF) (.same _ (.nil)))
 have⟨t2,h2,h⟩:=bo h;have q:=Q2 Zb h2 (Qb (eqf a) QA);obtain⟨b,h⟩|⟨b,h⟩:=io h
 ·cases h;exact(rfO 0 (r:=.d (Qe ⟨#[]⟩)) (cs:=[.dat (.lst true 0 []),.dat (B true)]) [b0,.el (Wj t2),b1] (Qb b q)).le (.refl _) (.refl _) (.refl _) (.dat (.nilF) (.same _ (.nil)))
 have⟨h4,h⟩:=gd h;cases h;exact rfO 0 [b0,.el (Wj t2),b0,.el (Wj t2),b1] (Qb h4 (Q2 Zb h2 (Qb (Zy b) q)))
def Zp (n:Nat)(a0:jVj)(a:Bool):Option (Int×jVj×Bool) := (Wt n a0 a).bind fun t1=>(YP n t1.1).bind fun t2=>if t1.2.2=true then some (t2.1,t1.2.1,true) else some (t2.1,t1.2.1,(!t2.2))
theorem Yc {n a0 b r}(h:Zp n a0 b=some r):ComputesO cx 125 [.ptr 0 0 0 0 0] (some [.dat (.lst false 1 a0),.dat (B b)]) (.d (I r.1)) [.dat (.lst false 1 r.2.1),.dat (B r.2.2)] []:=by
 unfold Zp at h;have⟨t1,h1,h⟩:=bo h;have⟨t2,h2,h⟩:=bo h;have q:=Qb (yB h2) (Qb (YE h1) QA);let o(l:jOj):=.obj (some 0) (.d (Qe t1.1)) [.dat (.lst false 1 t1.2.1),.dat (B t1.2.2)] []::.ret (.tup [I t2.1,B t2.2])::l;obtain⟨a,h⟩|⟨a,h⟩:=io h
 ·cases h;exact rfO 0 (o [b1]) (Qb a q)
 cases h;exact rfO 0 (o [b0]) (Qb (Zy a) q)
def WA (n:Nat)(a0:Int)(t1:jSj×jVj×Bool)(c:jSj×Int×FnD×FnD)(b:(Unit)⊕jVj×Bool×Nat×jVj):Option ((Unit⊕jVj×Bool×Nat×jVj)⊕Unit⊕jVj×Bool×jVj):=match b with|(.inl b)=>(if 0<c.1.size then(Wt n t1.2.1 t1.2.2).bind fun a=>some (.inl (.inr (a.2.1,a.2.2,(0+(Utf8.decode c.1 0).2),[.v (.string a.1)]))) else some (.inr (.inl ())))|.inr b=>(if b.2.2.1<c.1.size then(Wt n b.1 b.2.1).bind fun a=>if Wi 16 ((b.2.2.2).length+1) then some (.inl (.inr (a.2.1,a.2.2,(b.2.2.1+(Utf8.decode c.1 b.2.2.1).2),(b.2.2.2++([.v (.string a.1)]:jVj))))) else none else some (.inr (.inr (b.1,b.2.1,b.2.2.2))))
abbrev Z9:D:=.agg [I 0,.v (.string ⟨#[]⟩),.lst true 0 [],.lst true 0 [],.v (.string ⟨#[]⟩)]
noncomputable def kM (a0:Int)(t1:jSj×jVj×Bool)(a:jSj×Int×FnD×FnD):Lp (Unit⊕jVj×Bool×Nat×jVj) (Unit⊕jVj×Bool×jVj):=⟨fun _=>[(4,.ptr 0 0 0 0 0),(6,.ptr 4 0 0 0 0),(7,.fn (.func 124) [.ptr 4 0 0 0 0] []),(8,.ptr 13 0 0 0 0),(9,.ptr 24 0 0 0 0),(34,.own 31 0)],fun
 | (.inl sa)=>[(0,.box (.d Z9)),(4,.box (.d (.agg [.lst false 1 t1.2.1,B t1.2.2]))),(13,.box (.d (.agg [I a0,Qe t1.1,.lst true 0 [],.lst true 0 [],Qe ⟨#[]⟩]))),(24,.box (.d (.agg [Qe a.1,I a.2.1,.fn a.2.2.1.1 a.2.2.1.2.1 a.2.2.1.2.2,.fn a.2.2.2.1 a.2.2.2.2.1 a.2.2.2.2.2]))),(31,.it (.str a.1) 0)]
 | (.inr sa)=>[(0,.box (.d Z9)),(4,.box (.d (.agg [.lst false 1 sa.1,B sa.2.1]))),(13,.box (.agg [.d (I a0),.d (Qe t1.1),.own 43 0,.d (.lst true 0 []),.d (Qe ⟨#[]⟩)])),(24,.box (.d (.agg [Qe a.1,I a.2.1,.fn a.2.2.1.1 a.2.2.1.2.1 a.2.2.1.2.2,.fn a.2.2.2.1 a.2.2.2.2.1 a.2.2.2.2.2]))),(31,.it (.str a.1) sa.2.2.1),(43,.row 0 1 sa.2.2.2)],fun _=>(.exit 0),fun _=>[(4,.ptr 0 0 0 0 0),(6,.ptr 4 0 0 0 0),(8,.ptr 13 0 0 0 0),(9,.ptr 24 0 0 0 0)],fun
 | (.inl e)=>[(0,.box (.d Z9)),(4,.box (.d (.agg [.lst false 1 t1.2.1,B t1.2.2]))),(13,.box (.d (.agg [I a0,Qe t1.1,.lst true 0 [],.lst true 0 [],Qe ⟨#[]⟩]))),(24,.box (.d (.agg [Qe a.1,I a.2.1,.fn a.2.2.1.1 a.2.2.1.2.1 a.2.2.1.2.2,.fn a.2.2.2.1 a.2.2.2.2.1 a.2.2.2.2.2])))]
 | (.inr e)=>[(0,.box (.d Z9)),(4,.box (.d (.agg [.lst false 1 e.1,B e.2.1]))),(13,.box (.agg [.d (I a0),.d (Qe t1.1),.own 43 0,.d (.lst true 0 []),.d (Qe ⟨#[]⟩)])),(24,.box (.d (.agg [Qe a.1,I a.2.1,.fn a.2.2.1.1 a.2.2.1.2.1 a.2.2.1.2.2,.fn a.2.2.2.1 a.2.2.2.2.1 a.2.2.2.2.2]))),(43,.row 0 1 e.2.2)]⟩
theorem XP {n a0 t1 c}(b)(r)(h:WA n a0 t1 c b=some r):Rl (Zt cx.P 31 0) 72 0 false (kM a0 t1 c) b r:=by
 unfold WA at h;obtain b|b:=b
 ·obtain⟨a,h⟩|⟨a,h⟩:=io h
  ·have⟨ta2,ha2,h⟩:=bo h;cases h;exact rn 32 [b1,.no,.obj (some 4) (.d (Qe ta2.1)) [.dat (.lst false 1 ta2.2.1),.dat (B ta2.2.2)] [],.no,.no] [] [4,6,7,8,9,34] [0,4,13,24,31,43] (Qb (YE ha2) (Qb a QA))
  cases h;exact rx 32 [b0,.no] [] [4,6,8,9] [0,4,13,24] (Qb a QA)
 ·obtain⟨a,h⟩|⟨a,h⟩:=io h
  ·have⟨ta2,ha2,h⟩:=bo h;have⟨ha3,h⟩:=gd h;cases h;exact rn 44 [b1,.no,.obj (some 4) (.d (Qe ta2.1)) [.dat (.lst false 1 ta2.2.1),.dat (B ta2.2.2)] [],b1] [] [4,6,7,8,9,34] [0,4,13,24,31,43] (Qb (ro 9 ha3) (Qb (YE ha2) (Qb a QA)))
  cases h;exact rx 44 [b0,.no] [] [4,6,8,9] [0,4,13,24,43] (Qb a QA)
def KR (n:Nat)(a0:Int)(t1:jSj×jVj×Bool)(c:jSj×Int×FnD×FnD)(b:(Unit)⊕Int×jVj×Bool×jVj):Option ((Unit⊕Int×jVj×Bool×jVj)⊕Unit⊕jVj×Bool×jVj):=match b with|(.inl b)=>(if 0<c.2.1 then(Zp n t1.2.1 t1.2.2).bind fun a=>some (.inl (.inr (1,a.2.1,a.2.2,[I a.1]))) else some (.inr (.inl ())))|.inr b=>(if b.1<c.2.1 then(Zp n b.2.1 b.2.2.1).bind fun a=>if Wi 8 ((b.2.2.2).length+1) then if Qg (b.1+1) then some (.inl (.inr ((b.1+1),a.2.1,a.2.2,(b.2.2.2++([I a.1]:jVj))))) else none else none else some (.inr (.inr (b.2.1,b.2.2.1,b.2.2.2))))
noncomputable def kL (a0:Int)(t1:jSj×jVj×Bool)(a:jSj×Int×FnD×FnD):Lp (Unit⊕Int×jVj×Bool×jVj) (Unit⊕jVj×Bool×jVj):=⟨fun
 | (.inl sa)=>[(4,.ptr 0 0 0 0 0),(6,.ptr 4 0 0 0 0),(8,.ptr 13 0 0 0 0),(46,.d (I a.2.1)),(47,.d (I 0))]
 | (.inr sa)=>[(4,.ptr 0 0 0 0 0),(6,.ptr 4 0 0 0 0),(8,.ptr 13 0 0 0 0),(46,.d (I a.2.1)),(47,.d (I sa.1))],fun
 | (.inl sa)=>[(0,.box (.d Z9)),(4,.box (.d (.agg [.lst false 1 t1.2.1,B t1.2.2]))),(13,.box (.d (.agg [I a0,Qe t1.1,.lst true 0 [],.lst true 0 [],Qe ⟨#[]⟩])))]
 | (.inr sa)=>[(0,.box (.d Z9)),(4,.box (.d (.agg [.lst false 1 sa.2.1,B sa.2.2.1]))),(13,.box (.agg [.d (I a0),.d (Qe t1.1),.d (.lst true 0 []),.own 82 0,.d (Qe ⟨#[]⟩)])),(82,.row 0 1 sa.2.2.2)],fun _=>(.exit 2),fun _=>[(4,.ptr 0 0 0 0 0),(6,.ptr 4 0 0 0 0),(8,.ptr 13 0 0 0 0)],fun
 | (.inl e)=>[(0,.box (.d Z9)),(4,.box (.d (.agg [.lst false 1 t1.2.1,B t1.2.2]))),(13,.box (.d (.agg [I a0,Qe t1.1,.lst true 0 [],.lst true 0 [],Qe ⟨#[]⟩])))]
 | (.inr e)=>[(0,.box (.d Z9)),(4,.box (.d (.agg [.lst false 1 e.1,B e.2.1]))),(13,.box (.agg [.d (I a0),.d (Qe t1.1),.d (.lst true 0 []),.own 82 0,.d (Qe ⟨#[]⟩)])),(82,.row 0 1 e.2.2)]⟩
theorem XO {n a0 t1 c}(b)(r)(h:KR n a0 t1 c b=some r):Rl (Zt cx.P 31 1) 72 0 false (kL a0 t1 c) b r:=by
 unfold KR at h;obtain b|b:=b
 ·obtain⟨a,h⟩|⟨a,h⟩:=io h
  ·have⟨ta2,ha2,h⟩:=bo h;cases h;exact rn 72 [b1,.obj (some 4) (.d (I ta2.1)) [.dat (.lst false 1 ta2.2.1),.dat (B ta2.2.2)] [],.no,.no] [] [4,6,8,46,47] [0,4,13,82] (Qb ((by unfold Qg;omega):Qg 1) (Qb (Yc ha2) (Qb (jDj a) QA)))
  cases h;exact rx 72 [b0] [] [4,6,8] [0,4,13] (Qb (jEj a) QA)
 ·obtain⟨a,h⟩|⟨a,h⟩:=io h
  ·have⟨ta2,ha2,h⟩:=bo h;have⟨ha3,h⟩:=gd h;have⟨ha4,h⟩:=gd h;cases h;exact rn 83 [b1,.obj (some 4) (.d (I ta2.1)) [.dat (.lst false 1 ta2.2.1),.dat (B ta2.2.2)] [],b1] [] [4,6,8,46,47] [0,4,13,82] (Qb ha4 (Qb (ro 3 ha3) (Qb (Yc ha2) (Qb (jDj a) QA))))
  cases h;exact rx 83 [b0] [] [4,6,8] [0,4,13,82] (Qb (jEj a) QA)
def KQ (n:Nat)(a0:Int)(t1:jSj×jVj×Bool)(c:jSj×Int×FnD×FnD)(t4:jVj×Bool×jVj)(b:(Unit)⊕Int×jVj×Bool×jVj):Option ((Unit⊕Int×jVj×Bool×jVj)⊕Unit⊕jVj×Bool×jVj):=match b with|(.inl b)=>(if 0<c.2.1 then(Zp n t4.1 t4.2.1).bind fun a=>some (.inl (.inr (1,a.2.1,a.2.2,[I a.1]))) else some (.inr (.inl ())))|.inr b=>(if b.1<c.2.1 then(Zp n b.2.1 b.2.2.1).bind fun a=>if Wi 8 ((b.2.2.2).length+1) then if Qg (b.1+1) then some (.inl (.inr ((b.1+1),a.2.1,a.2.2,(b.2.2.2++([I a.1]:jVj))))) else none else none else some (.inr (.inr (b.2.1,b.2.2.1,b.2.2.2))))
noncomputable def kK (a0:Int)(t1:jSj×jVj×Bool)(a:jSj×Int×FnD×FnD)(t4:jVj×Bool×jVj):Lp (Unit⊕Int×jVj×Bool×jVj) (Unit⊕jVj×Bool×jVj):=⟨fun
 | (.inl sa)=>[(4,.ptr 0 0 0 0 0),(6,.ptr 4 0 0 0 0),(8,.ptr 13 0 0 0 0),(46,.d (I a.2.1)),(47,.d (I 0))]
 | (.inr sa)=>[(4,.ptr 0 0 0 0 0),(6,.ptr 4 0 0 0 0),(8,.ptr 13 0 0 0 0),(46,.d (I a.2.1)),(47,.d (I sa.1))],fun
 | (.inl sa)=>[(0,.box (.d Z9)),(4,.box (.d (.agg [.lst false 1 t4.1,B t4.2.1]))),(13,.box (.agg [.d (I a0),.d (Qe t1.1),.own 43 0,.d (.lst true 0 []),.d (Qe ⟨#[]⟩)])),(43,.row 0 1 t4.2.2)]
 | (.inr sa)=>[(0,.box (.d Z9)),(4,.box (.d (.agg [.lst false 1 sa.2.1,B sa.2.2.1]))),(13,.box (.agg [.d (I a0),.d (Qe t1.1),.own 43 0,.own 82 0,.d (Qe ⟨#[]⟩)])),(43,.row 0 1 t4.2.2),(82,.row 0 1 sa.2.2.2)],fun _=>(.exit 2),fun _=>[(4,.ptr 0 0 0 0 0),(6,.ptr 4 0 0 0 0),(8,.ptr 13 0 0 0 0)],fun
 | (.inl e)=>[(0,.box (.d Z9)),(4,.box (.d (.agg [.lst false 1 t4.1,B t4.2.1]))),(13,.box (.agg [.d (I a0),.d (Qe t1.1),.own 43 0,.d (.lst true 0 []),.d (Qe ⟨#[]⟩)])),(43,.row 0 1 t4.2.2)]
 | (.inr e)=>[(0,.box (.d Z9)),(4,.box (.d (.agg [.lst false 1 e.1,B e.2.1]))),(13,.box (.agg [.d (I a0),.d (Qe t1.1),.own 43 0,.own 82 0,.d (Qe ⟨#[]⟩)])),(43,.row 0 1 t4.2.2),(82,.row 0 1 e.2.2)]⟩
theorem XN {n a0 t1 c t4}(b)(r)(h:KQ n a0 t1 c t4 b=some r):Rl (Zt cx.P 31 1) 72 0 false (kK a0 t1 c t4) b r:=by
 unfold KQ at h;obtain b|b:=b
 ·obtain⟨a,h⟩|⟨a,h⟩:=io h
  ·have⟨ta2,ha2,h⟩:=bo h;cases h;exact rn 72 [b1,.obj (some 4) (.d (I ta2.1)) [.dat (.lst false 1 ta2.2.1),.dat (B ta2.2.2)] [],.no,.no] [] [4,6,8,46,47] [0,4,13,43,82] (Qb ((by unfold Qg;omega):Qg 1) (Qb (Yc ha2) (Qb (jDj a) QA)))
  cases h;exact rx 72 [b0] [] [4,6,8] [0,4,13,43] (Qb (jEj a) QA)
 ·obtain⟨a,h⟩|⟨a,h⟩:=io h
  ·have⟨ta2,ha2,h⟩:=bo h;have⟨ha3,h⟩:=gd h;have⟨ha4,h⟩:=gd h;cases h;exact rn 83 [b1,.obj (some 4) (.d (I ta2.1)) [.dat (.lst false 1 ta2.2.1),.dat (B ta2.2.2)] [],b1] [] [4,6,8,46,47] [0,4,13,43,82] (Qb ha4 (Qb (ro 3 ha3) (Qb (Yc ha2) (Qb (jDj a) QA))))
  cases h;exact rx 83 [b0] [] [4,6,8] [0,4,13,43,82] (Qb (jEj a) QA)
def Yj (n:Nat)(a0:Int)(c:jVj):Option (Int×jSj×jVj×jVj×jSj×Bool) := (Wt n c false).bind fun t1=>if(W5 (.string t1.1) GB).isSome=true then((W5 (.string t1.1) GB).bind Kt).bind fun b=>(QU (WA n a0 t1 b) n (.inl ())).bind fun t4=>match t4 with|.inl t4=>((QU (KR n a0 t1 b) n (.inl ())).bind fun a=>match a with|.inl a=>(if t1.2.2=true then some (a0,t1.1,[],[],⟨#[]⟩,false) else some (a0,t1.1,[],[],⟨#[]⟩,(((t1.2.1).length:Int)==0)))|.inr a=>(if a.2.1=true then some (a0,t1.1,[],a.2.2,⟨#[]⟩,false) else some (a0,t1.1,[],a.2.2,⟨#[]⟩,(((a.1).length:Int)==0))))|.inr t4=>((QU (KQ n a0 t1 b t4) n (.inl ())).bind fun a=>match a with|.inl a=>(if t4.2.1=true then some (a0,t1.1,t4.2.2,[],⟨#[]⟩,false) else some (a0,t1.1,t4.2.2,[],⟨#[]⟩,(((t4.1).length:Int)==0)))|.inr a=>(if a.2.1=true then some (a0,t1.1,t4.2.2,a.2.2,⟨#[]⟩,false) else some (a0,t1.1,t4.2.2,a.2.2,⟨#[]⟩,(((a.1).length:Int)==0)))) else some (0,⟨#[]⟩,[],[],⟨#[]⟩,false)
theorem QaP {n a0 c r}(h:Yj n a0 c=some r):Computes cx 31 [I a0,.lst false 1 c] (.tup [.agg [I r.1,Qe r.2.1,.lst false 1 r.2.2.1,.lst false 1 r.2.2.2.1,Qe r.2.2.2.2.1],B r.2.2.2.2.2]):=by
 unfold Yj at h;have⟨t1,h1,h⟩:=bo h;have q:=Qb (YE h1) QA;let o(l:jOj):=.obj (some 4) (.d (Qe t1.1)) [.dat (.lst false 1 t1.2.1),.dat (B t1.2.2)] []::b1::(no 28 l);obtain⟨e,h⟩|⟨e,h⟩:=io h
 ·have⟨t3,h3,h⟩:=bo h;have q:=Qb ((qU (by kernel_rfl) (Qch XW h3)):YX true (.string t1.1) (.agg [Qe ⟨#[]⟩,I 0,.v (.nilFunc),.v (.nilFunc)]) GB=some (.tup [.agg [Qe t3.1,I t3.2.1,.fn t3.2.2.1.1 t3.2.2.1.2.1 t3.2.2.1.2.2,.fn t3.2.2.2.1 t3.2.2.2.2.1 t3.2.2.2.2.2],B true])) q;let o l:=o (.el (.tup [.agg [Qe t3.1,I t3.2.1,.fn t3.2.2.1.1 t3.2.2.1.2.1 t3.2.2.1.2.2,.fn t3.2.2.2.1 t3.2.2.2.2.1 t3.2.2.2.2.2],B true])::.no::l);have⟨t4,h4,h⟩:=bo h;obtain t4|t4:=t4
  ·have q:=Qb (QE XP h4) q;let o l:=o (.lp [] [4,6,7,8,9,34] [0,4,13,24,31] (.exit 0) [(4,.ptr 0 0 0 0 0),(6,.ptr 4 0 0 0 0),(8,.ptr 13 0 0 0 0),(9,.ptr 24 0 0 0 0)] [(0,.box (.d Z9)),(4,.box (.d (.agg [.lst false 1 t1.2.1,B t1.2.2]))),(13,.box (.d (.agg [I a0,Qe t1.1,.lst true 0 [],.lst true 0 [],Qe ⟨#[]⟩]))),(24,.box (.d (.agg [Qe t3.1,I t3.2.1,.fn t3.2.2.1.1 t3.2.2.1.2.1 t3.2.2.1.2.2,.fn t3.2.2.2.1 t3.2.2.2.2.1 t3.2.2.2.2.2])))] 69::l);have⟨a,h5,h⟩:=bo h;obtain a|a:=a
   ·have q:=Qb (QE XO h5) q;let o l:=o (.lp [] [4,6,8,46,47] [0,4,13] (.exit 2) [(4,.ptr 0 0 0 0 0),(6,.ptr 4 0 0 0 0),(8,.ptr 13 0 0 0 0)] [(0,.box (.d Z9)),(4,.box (.d (.agg [.lst false 1 t1.2.1,B t1.2.2]))),(13,.box (.d (.agg [I a0,Qe t1.1,.lst true 0 [],.lst true 0 [],Qe ⟨#[]⟩])))] 109::l);obtain⟨b,h⟩|⟨b,h⟩:=io h
    ·cases h;exact(rf (r:=.tup [.agg [I a0,Qe t1.1,.lst true 0 [],.lst true 0 [],Qe ⟨#[]⟩],B false]) (o [b0]) (Qb (zV b) q)).le (LEs.refl _) (.tups (.cons (.aggs (.cons (.refl _) (.cons (.refl _) (.cons (.nilF) (.cons (.nilF) (.cons (.refl _) (.nil))))))) (.cons (.refl _) (.nil))))
    cases h;exact(rf (r:=.tup [.agg [I a0,Qe t1.1,.lst true 0 [],.lst true 0 [],Qe ⟨#[]⟩],B (((t1.2.1).length:Int)==0)]) (o [b1]) (Qb (wG (Zy b)) q)).le (LEs.refl _) (.tups (.cons (.aggs (.cons (.refl _) (.cons (.refl _) (.cons (.nilF) (.cons (.nilF) (.cons (.refl _) (.nil))))))) (.cons (.refl _) (.nil))))
   have q:=Qb (QE XO h5) q;let o l:=o (.lp [] [4,6,8,46,47] [0,4,13] (.exit 2) [(4,.ptr 0 0 0 0 0),(6,.ptr 4 0 0 0 0),(8,.ptr 13 0 0 0 0)] [(0,.box (.d Z9)),(4,.box (.d (.agg [.lst false 1 a.1,B a.2.1]))),(13,.box (.agg [.d (I a0),.d (Qe t1.1),.d (.lst true 0 []),.own 82 0,.d (Qe ⟨#[]⟩)])),(82,.row 0 1 a.2.2)] 109::l);obtain⟨b,h⟩|⟨b,h⟩:=io h
   ·cases h;exact(rf (r:=.tup [.agg [I a0,Qe t1.1,.lst true 0 [],.lst false 1 a.2.2,Qe ⟨#[]⟩],B false]) (o [b0]) (Qb (zV b) q)).le (LEs.refl _) (.tups (.cons (.aggs (.cons (.refl _) (.cons (.refl _) (.cons (.nilF) (.cons (.refl _) (.cons (.refl _) (.nil))))))) (.cons (.refl _) (.nil))))
   cases h;exact(rf (r:=.tup [.agg [I a0,Qe t1.1,.lst true 0 [],.lst false 1 a.2.2,Qe ⟨#[]⟩],B (((a.1).length:Int)==0)]) (o [b1]) (Qb (wG (Zy b)) q)).le (LEs.refl _) (.tups (.cons (.aggs (.cons (.refl _) (.cons (.refl _) (.cons (.nilF) (.cons (.refl _) (.cons (.refl _) (.nil))))))) (.cons (.refl _) (.nil))))
  have q:=Qb (QE XP h4) q;let o l:=o (.lp [] [4,6,7,8,9,34] [0,4,13,24,31] (.exit 0) [(4,.ptr 0 0 0 0 0),(6,.ptr 4 0 0 0 0),(8,.ptr 13 0 0 0 0),(9,.ptr 24 0 0 0 0)] [(0,.box (.d Z9)),(4,.box (.d (.agg [.lst false 1 t4.1,B t4.2.1]))),(13,.box (.agg [.d (I a0),.d (Qe t1.1),.own 43 0,.d (.lst true 0 []),.d (Qe ⟨#[]⟩)])),(24,.box (.d (.agg [Qe t3.1,I t3.2.1,.fn t3.2.2.1.1 t3.2.2.1.2.1 t3.2.2.1.2.2,.fn t3.2.2.2.1 t3.2.2.2.2.1 t3.2.2.2.2.2]))),(43,.row 0 1 t4.2.2)] 69::l);have⟨a,h5,h⟩:=bo h;obtain a|a:=a
  ·have q:=Qb (QE XN h5) q;let o l:=o (.lp [] [4,6,8,46,47] [0,4,13,43] (.exit 2) [(4,.ptr 0 0 0 0 0),(6,.ptr 4 0 0 0 0),(8,.ptr 13 0 0 0 0)] [(0,.box (.d Z9)),(4,.box (.d (.agg [.lst false 1 t4.1,B t4.2.1]))),(13,.box (.agg [.d (I a0),.d (Qe t1.1),.own 43 0,.d (.lst true 0 []),.d (Qe ⟨#[]⟩)])),(43,.row 0 1 t4.2.2)] 109::l);obtain⟨b,h⟩|⟨b,h⟩:=io h
   ·cases h;exact(rf (r:=.tup [.agg [I a0,Qe t1.1,.lst false 1 t4.2.2,.lst true 0 [],Qe ⟨#[]⟩],B false]) (o [b0]) (Qb (zV b) q)).le (LEs.refl _) (.tups (.cons (.aggs (.cons (.refl _) (.cons (.refl _) (.cons (.refl _) (.cons (.nilF) (.cons (.refl _) (.nil))))))) (.cons (.refl _) (.nil))))
   cases h;exact(rf (r:=.tup [.agg [I a0,Qe t1.1,.lst false 1 t4.2.2,.lst true 0 [],Qe ⟨#[]⟩],B (((t4.1).length:Int)==0)]) (o [b1]) (Qb (wG (Zy b)) q)).le (LEs.refl _) (.tups (.cons (.aggs (.cons (.refl _) (.cons (.refl _) (.cons (.refl _) (.cons (.nilF) (.cons (.refl _) (.nil))))))) (.cons (.refl _) (.nil))))
  have q:=Qb (QE XN h5) q;let o l:=o (.lp [] [4,6,8,46,47] [0,4,13,43] (.exit 2) [(4,.ptr 0 0 0 0 0),(6,.ptr 4 0 0 0 0),(8,.ptr 13 0 0 0 0)] [(0,.box (.d Z9)),(4,.box (.d (.agg [.lst false 1 a.1,B a.2.1]))),(13,.box (.agg [.d (I a0),.d (Qe t1.1),.own 43 0,.own 82 0,.d (Qe ⟨#[]⟩)])),(43,.row 0 1 t4.2.2),(82,.row 0 1 a.2.2)] 109::l);obtain⟨b,h⟩|⟨b,h⟩:=io h
  ·cases h;exact rf (o [b0]) (Qb (zV b) q)
  cases h;exact rf (o [b1]) (Qb (wG (Zy b)) q)
 cases h;exact(rf (r:=.tup [.agg [I 0,Qe ⟨#[]⟩,.lst true 0 [],.lst true 0 [],Qe ⟨#[]⟩],B false]) (o [.el (.tup [.agg [Qe ⟨#[]⟩,I 0,.v (.nilFunc),.v (.nilFunc)],B false]),.no]) (Qb ((Gb (by kernel_rfl) (mno e)):YX true (.string t1.1) (.agg [Qe ⟨#[]⟩,I 0,.v (.nilFunc),.v (.nilFunc)]) GB=some (.tup [.agg [Qe ⟨#[]⟩,I 0,.v (.nilFunc),.v (.nilFunc)],B false])) q)).le (LEs.refl _) (.tups (.cons (.aggs (.cons (.refl _) (.cons (.refl _) (.cons (.nilF) (.cons (.nilF) (.cons (.refl _) (.nil))))))) (.cons (.refl _) (.nil))))
theorem yn {n a0 b r}(h:Qm n a0 b=some r):Computes cx 140 [B a0,I b] (I r):=by
 unfold Qm at h;obtain⟨a,h⟩|⟨a,h⟩:=io h
 ·obtain rfl:=oi h;exact rf [b1] (Qb a QA)
 obtain rfl:=oi h;exact rf [b0] (Qb (Zy a) QA)
def Zq (n:Nat)(a0 a b:Int):Option (Int) := if a0<a then(Qm n true 3).bind fun t2=>some t2 else(Qm n (decide (a0>b)) 3).bind fun t2=>some t2
theorem Yh {n a0 b c r}(h:Zq n a0 b c=some r):Computes cx 49 [I a0,I b,I c] (I r):=by
 unfold Zq at h;obtain⟨a,h⟩|⟨a,h⟩:=io h
 ·have⟨t2,h2,h⟩:=bo h;obtain rfl:=oi h;exact rf [b1,.ret (I t2)] (Qb (yn h2) (Qb (jDj a) QA))
 have⟨t2,h2,h⟩:=bo h;obtain rfl:=oi h;exact rf [b0,.ret (I t2)] (Qb (yn h2) (Qb (jEj a) QA))
def Ux (x:Int×Int):D:=.agg [I x.1,I x.2]
def UX:D->Option (Int×Int)
 | .agg [c0,c1]=>(YZ .i64 c0).bind fun a=>(YZ .i64 c1).bind fun b=>some (a,b)
 | _=>none
theorem Yz {d:D}{x:Int×Int}(h:UX d=some x):d=Ux x:=by
 unfold UX at h;split at h;case h_2=>cases h
 obtain⟨f,c,h⟩:=Wh h;obtain⟨g,e,h⟩:=Wh h;cases h;have a:=Vj c;have b:=Vj e;rw[a,b];rfl
theorem EA {n a0}(c)(r)(h:Q6 n a0 c=some r):Rl (Zt cx.P 46 0) 15 0 false (XU a0) c r:=by
 unfold Q6 at h;obtain⟨a,h⟩|⟨a,h⟩:=io h
 ·have⟨ta2,ha2,h⟩:=bo h;have q:=Q2 QM ha2 (Qb (jDj a) QA);obtain⟨b,h⟩|⟨b,h⟩:=io h
  ·have⟨ha4,h⟩:=gd h;cases h;exact rn 4 [b1,.el (Zi ta2),b0] [] [5,6,7] [] (Qb ha4 (Qb (nef b) q))
  cases h;exact rx 4 [b1,.el (Zi ta2),b1] [] [2] [] (Qb (net b) q)
 cases h;exact rx 4 [b0] [] [] [] (Qb (jEj a) QA)
theorem Ke {n a0 r}(h:Qi n a0=some r):Computes cx 46 [.lst false 1 a0] (I r):=by
 unfold Qi at h;have⟨t1,h1,h⟩:=bo h;obtain t1|t1:=t1
 ·obtain rfl:=oi h;exact rf [.lp [] [5,6,7] [] .ret [(2,.d (I t1))] [] 23] (Qb (QE EA h1) QA)
 obtain rfl:=oi h;exact rf [.lp [] [5,6,7] [] (.exit 0) [] [] 23] (Qb (QE EA h1) QA)
def W2 (n:Nat)(a0 a:Int):Option (Int) := (Zq n a0 (-100000) 100000).bind fun t1=>(Zq n a 0 30).bind fun t2=>(Qi n ([I t1,I t2])).bind fun b=>some b
theorem XD {n a0 a r}(h:W2 n a0 a=some r):Computes cx 137 [.agg [I a0,I a]] (I r):=by unfold W2 at h;have⟨t1,h1,h⟩:=bo h;have⟨t2,h2,h⟩:=bo h;have⟨t3,h3,h⟩:=bo h;obtain rfl:=oi h;exact rf [.ret (I t1),.ret (I t2),.ret (I t3)] (Qb (leF (Ke h3)) (Qb (Yh h2) (Qb (Yh h1) QA)))
def Vm (n:Nat)(a0:jVj)(a:(Int×jVj)):Option (Int×jVj⊕jVj) := if a.1<((a0).length:Int) then(el UX a0 a.1).bind fun b=>(W2 n b.1 b.2).bind fun c=>if Wi 8 ((a.2).length+1) then if Qg (a.1+1) then some (.inl ((a.1+1),(a.2++([I c]:jVj)))) else none else none else some (.inr a.2)
noncomputable def wt (a0:jVj):Lp (Int×jVj) (jVj):=⟨fun a=>[(1,.d (.fn (.func 137) [] [])),(5,.own 5 0),(8,.d (.lst false 2 a0)),(9,.d (I ((a0).length:Int))),(10,.d (I a.1))],fun a=>[(5,.row 0 1 a.2)],fun _=>(.exit 0),fun _=>[(5,.own 5 0)],fun e=>[(5,.row 0 1 e)]⟩
theorem wr {n a0}(b)(r)(h:Vm n a0 b=some r):Rl (Zt cx.P 136 0) 22 0 false (wt a0) b r:=by
 unfold Vm at h;obtain⟨a,h⟩|⟨a,h⟩:=io h
 ·have⟨ta2,ha2,h⟩:=bo h;have⟨ta3,ha3,h⟩:=bo h;have⟨ha4,h⟩:=gd h;have⟨ha5,h⟩:=gd h;cases h;exact rn 6 [b1,.el (Ux ta2),.ret (I ta3),b1] [] [1,5,8,9,10] [5] (Qb ha5 (Qb (ro 34 ha4) (Qb (XD ha3) (Q2 Yz ha2 (Qb (jDj a) QA)))))
 cases h;exact rx 6 [b0] [] [5] [5] (Qb (jEj a) QA)
def YQ (n:Nat)(a0:jVj):Option (jVj) := (QU (Vm n a0) n (0,[])).bind fun t1=>some t1
theorem yC {n a0 r}(h:YQ n a0=some r):Computes cx 136 [.lst false 2 a0,.fn (.func 137) [] []] (.lst false 1 r):=by unfold YQ at h;have⟨t1,h1,h⟩:=bo h;obtain rfl:=oi h;exact rf [.lp [5,1] [1,5,8,9,10] [5] (.exit 0) [(5,.own 5 0)] [(5,.row 0 1 t1)] 31] (Qb (QE wr h1) QA)
def W3 (n:Nat)(a0:jVj):Option (Int) := if((a0).length:Int)>8 then some 5 else(YQ n a0).bind fun t2=>(Qi n t2).bind fun a=>some a
theorem Ji {n a0 r}(h:W3 n a0=some r):Computes cx 47 [.lst false 2 a0] (I r):=by
 unfold W3 at h;obtain⟨a,h⟩|⟨a,h⟩:=io h
 ·obtain rfl:=oi h;exact rf [b1] (Qb (jDj a) QA)
 have⟨t2,h2,h⟩:=bo h;have⟨t3,h3,h⟩:=bo h;obtain rfl:=oi h;exact rf [b0,.ret (.lst false 1 t2),.ret (I t3)] (Qb (Ke h3) (Qb (yC h2) (Qb (jEj a) QA)))
def V1 (n:Nat)(a0 a b:Int)(c:jVj):Option (Int) := (Zq n a0 0 60).bind fun t1=>(Zq n a 0 a0).bind fun t2=>(Zq n b 0 30).bind fun d=>(W3 n c).bind fun t4=>(Qi n ([I t1,I t2,I d,I t4])).bind fun e=>some e
theorem wn {n a0 a b c r}(h:V1 n a0 a b c=some r):Computes cx 22 [.agg [I a0,I a,I b],.lst false 2 c] (I r):=by unfold V1 at h;have⟨t1,h1,h⟩:=bo h;have⟨t2,h2,h⟩:=bo h;have⟨t3,h3,h⟩:=bo h;have⟨t4,h4,h⟩:=bo h;have⟨t5,h5,h⟩:=bo h;obtain rfl:=oi h;exact rf [.ret (I t1),.ret (I t2),.ret (I t3),.ret (I t4),.ret (I t5)] (Qb (leF (Ke h5)) (Qb (Ji h4) (Qb (Yh h3) (Qb (Yh h2) (Qb (Yh h1) QA)))))
abbrev Vd:=Int->Int->Int->jVj->Int->Int->jVj->Option (jVj×Int×Int×Int×jVj)
def Ew (R:Vd):Prop:=∀{a0 a b:Int} {c:jVj} {e f:Int} {g:jVj} {r:jVj×Int×Int×Int×jVj},R a0 a b c e f g=some r->jo cx 23 [.agg [.d (I a0),.d (I a),.d (I b),.d (.lst false 2 c),.own 0 0],.d (.agg [I e,I f])] g (.agg [.lst false 1 r.1,I r.2.1,I r.2.2.1,I r.2.2.2.1]) r.2.2.2.2
def Qe2 (x:jVj×Int×Int×Int):D:=.agg [.lst false 1 x.1,I x.2.1,I x.2.2.1,I x.2.2.2]
def ju:D->Option (jVj×Int×Int×Int)
 | .agg [c0,c1,c2,c3]=>(jt 1 c0).bind fun a=>(YZ .i64 c1).bind fun b=>(YZ .i64 c2).bind fun c=>(YZ .i64 c3).bind fun d=>some (a,b,c,d)
 | _=>none
theorem QbR {d:D}{x:jVj×Int×Int×Int}(h:ju d=some x):d=Qe2 x:=by
 unfold ju at h;split at h;case h_2=>cases h
 obtain⟨k,f,h⟩:=Wh h;obtain⟨l,g,h⟩:=Wh h;obtain⟨m,i,h⟩:=Wh h;obtain⟨n,j,h⟩:=Wh h;cases h;have a:=qK f;have b:=Vj g;have c:=Vj i;have e:=Vj j;rw[a,b,c,e];rfl
end Go.Proofs.YthdghjjahodkaaaGreatDoor
