/- Own texts. -/
import Derived.Test.YtmhkcfjajpjigaaGreatDoorProg
import Derived.Test.YtmhkcfjajpjigaaGreatDoorSxTwentyEight
import Derived.KernelRfl
import Derived.Below
import Derived.Lib.LaidTab
import Derived.Lib.ItoaNum
import GoSem.ClaimChange
import Derived.ProofKit
import Derived.OpenShut
import Derived.WideShapes
import Derived.ChangeStays
import Derived.ChangeSame
import Derived.Deep.DeepHandedRow
import Derived.ChangeArms
import Derived.WalkKit
import Derived.WalkSpells
import Derived.WalkLawsBesides
import Derived.Laws.Externs
import Derived.Shelf.Strings.OnBuilder
import Derived.Shelf.Strconv.Itoa3
import Derived.Shelf.LaysM
import Derived.Shelf.Small.Strs
import Derived.Shelf.Strings.Search1
import Derived.Shelf.Strings.Search3
import Derived.Shelf.Strings.Count
import Derived.Shelf.Strings.SlTrimAscii
import Derived.Shelf.SlicesE.Clone
import Derived.Lib.LazyBuf
set_option linter.unusedSimpArgs false
set_option linter.unusedVariables false
set_option linter.unnecessarySimpa false
namespace Go.Proofs.YtmhkcfjajpjigaaGreatDoor
open Go.SX Go.RowKit
def pow10D:D:=.agg (Lib.pow10Tab.map fun z=>.v (.int .u64 z))
def QsY:D:=.agg [.v (.string ⟨#[102,111,99,117,115]⟩),.v (.string ⟨#[115,116,97,110,100,98,121]⟩),.v (.string ⟨#[115,116,111,119]⟩)]
instance drawF:DrawMode:=⟨false⟩
noncomputable def cx:Cx:={ P:=Tryz.prog,G:=fun g=>match Nat.beq g 2 with
 | true=>some pow10D
 | false=>match Nat.beq g 1 with
  | true=>some QsY
  | false=>none }
theorem Qj5:(Tryz.prog.funcs.toList.all fun a=>!(a.body.isSome&&(a.name=="runtime.NumGoroutine")))=true:=by kernel_rfl
theorem noAsk:NoAsk cx:=QhL _ _ Qj5
theorem kX:cx.P.follows .mixedOrders=true:=by kernel_rfl
theorem run {n:Nat}{f:FuncId}{a:jVj}{orc:List Orc}{r:D}{ob:List Prop}(h:Qfu true n cx f a orc=some (r,ob))(b:All ob):Computes cx f a r:=Qcv noAsk kX h b
theorem QiP {n:Nat}{f:FuncId}{a:List AV}{i:Option (List OC)}{b:Nat}{ks:List Bool}{orc:List Orc}{r:AV}{cs:List OC}{ob:List Prop}(c:All ob)(h:Qhw n cx f a i b cs ks orc=some (r,cs,ob)):ComputesO cx f a i r cs ks:=QaM noAsk kX h c
theorem QE {S E:Type}{c:Code}{d vis:Nat}{rnd:Bool}{T:S->List (Nat×AV)}{H:S->List (Nat×Blk)}{X:E->Ex}{b:E->List (Nat×AV)}{a:E->List (Nat×Blk)}
  {step:S->Option (S⊕E)} (f:∀s r,step s=some r->Rd cx c d vis rnd T H X b a s r) {n:Nat} {s:S} {e:E} (h:QU step n s=some e):QaA cx c d vis rnd (T s) (H s) (X e) (b e) (a e):=QdK noAsk kX f n s e h
theorem dr_v {w:World}{F:Nat->Prop}{x y:Value}(h:DR w F (.v x) y):y=x:=by cases h;rfl
theorem Qbv {w w' : World}(h:Below w.heap.size w w'):Ext w (fun _=>False) w':=⟨(fun h=>by cases h),h.os,h.tape,h.output,h.size,fun r a _=>h.block r a⟩
theorem str9:cx.P.underlying 9=some .string:=by kernel_rfl
theorem Qc1 {s:jSj}{i x:Int}(h:UY s i=some x):Zu cx.P (Instr.index 9 (.string s) (.int .i64 i))=some (.int .u8 x):=QgK str9 h
theorem Qa1 {s x:jSj}{lo hi:Option Int}(h:XY s lo hi=some x):Zu cx.P (Instr.sliceAt 9 (.string s) (lo.map (.int .i64)) (hi.map (.int .i64)) none)=some (.string x):=Qgn str9 h
theorem bo {a b:Type}{x:Option a}{f:a->Option b}{r:b}(h:x.bind f=some r):∃t,x=some t/\f t=some r:=Wh h
theorem gd {a:Type}{p:Prop}[Decidable p]{x:Option a}{r:a}(h:(if p then x else none)=some r):p/\x=some r:=Qcn h
theorem it {a:Type}{p:Prop}[Decidable p]{x y:Option a}{r:a}(h:(if p then x else y)=some r)(hp:p):x=some r:=U7 h hp
theorem jf {a:Type}{p:Prop}[Decidable p]{x y:Option a}{r:a}(h:(if p then x else y)=some r)(hp:¬p):y=some r:=U8 h hp
theorem oi {c:Type}{a b:c}(h:some a=some b):a=b:=Option.some.inj h
abbrev Qe (s:jSj):D:=.v (.string s)
theorem leF {f:FuncId}{k:Nat}{l:jVj}{r:D}(h:Computes cx f [.lst false k l] r):Computes cx f [.lst true k l] r:=h.le (.cons (.full _ _ _) (.nil)) (.refl _)
inductive Kd
 | int (k:IntKind)
 | bool
 | str
 | flt (k:FloatKind)
 | lst (agg:Bool) (ks:List Kd)
mutual
def Kd.ok:Kd->D->Prop
 | .int k,d=>∃n,d=.v (.int k n)/\k.min<=n/\n<=k.max
 | .bool,d=>∃b,d=.v (.bool b)
 | .str,d=>∃s,d=.v (.string s)/\s.size<=maxLen
 | .flt k,d=>∃b,d=.v (.float k b)/\(Lit.float k b).wf=true
 | .lst agg ks,d=>∃es,d=.lst false ks.length es/\es.length<=maxLen/\∀e,e∈es->match agg with
  | true=>∃cs,e=.agg cs/\Kd.oks ks cs
  | false=>Kd.oks ks [e]
def Kd.oks:List Kd->jVj->Prop
 | [],ds=>ds=[]
 | k::ks,ds=>∃d r,ds=d::r/\Kd.ok k d/\Kd.oks ks r
end
def E9 (P:Program)(f:TypeId->Option (List Kd)):Nat->List Field->Option (List Kd)
 | _,[]=>some []
 | off,fd::l=>match f fd.type with
  | some ks=>match Nat.beq fd.offset off&&Nat.beq ks.length (P.cellsOf fd.type),E9 P f (off+ks.length) l with
   | true,some r=>some (ks++r)
   | _,_=>none
  | none=>none
def U6 (P:Program):Nat->TypeId->Option (List Kd)
 | 0,_=>none
 | n+1,t=>match P.underlying t with
  | some (.int k)=>some [.int k]
  | some .bool=>some [.bool]
  | some .string=>some [.str]
  | some (.float k)=>some [.flt k]
  | some (.slice e)=>match U6 P n e,P.underlying e with
   | some ks,some (.struct _)=>match Nat.beq ks.length (P.cellsOf e)&&Nat.blt 0 ks.length with
    | true=>some [.lst true ks]
    | false=>none
   | some ks,some (.array _ _)=>match Nat.beq ks.length (P.cellsOf e)&&Nat.blt 0 ks.length with
    | true=>some [.lst true ks]
    | false=>none
   | some ks,some _=>match Nat.beq ks.length (P.cellsOf e)&&Nat.beq 1 ks.length with
    | true=>some [.lst false ks]
    | false=>none
   | _,_=>none
  | some (.struct fs)=>match E9 P (U6 P n) 0 fs.toList with
   | some ks=>match Nat.beq ks.length (P.cellsOf t) with
    | true=>some ks
    | false=>none
   | none=>none
  | some (.array m e)=>match U6 P n e with
   | some ks=>match Nat.beq ks.length (P.cellsOf e)&&Nat.beq (m*ks.length) (P.cellsOf t) with
    | true=>some (List.replicate m ks).flatten
    | false=>none
   | none=>none
  | _=>none
def Reads (W:World):jVj->List Value->Prop
 | [],[]=>True
 | d::ds,v::vs=>(DR W (fun _=>False) d v/\one v=true)/\Reads W ds vs
 | _,_=>False
theorem Reads.append {W:World}:∀{a:jVj} {x:List Value} {b:jVj} {y:List Value},Reads W a x->Reads W b y->Reads W (a++b) (x++y)
 | [],[],_,_,_,h=>h
 | _::_,_::_,_,_,h,k=>⟨h.1,Reads.append h.2 k⟩
 | [],_::_,_,_,h,_=>h.elim
 | _::_,[],_,_,h,_=>h.elim
theorem Reads.len {W:World}:∀{a:jVj} {x:List Value},Reads W a x->a.length=x.length
 | [],[],_=>rfl
 | _::_,_::_,h=>by simp[Reads.len h.2]
 | [],_::_,h=>h.elim
 | _::_,[],h=>h.elim
theorem Reads.at {W:World}:∀{a:jVj} {x:List Value},Reads W a x->∀(i:Nat) (d:D) (v:Value),a[i]?=some d->x[i]?=some v->DR W (fun _=>False) d v/\one v=true
 | [],[],_,i,d,v,h,_=>by simp at h
 | _::_,_::_,hh,0,d,v,h,k=>by simp at h k;subst h;subst k;exact hh.1
 | _::_,_::_,hh,i+1,d,v,h,k=>Reads.at hh.2 i d v (by simpa using h) (by simpa using k)
 | [],_::_,h,_,_,_,_,_=>h.elim
 | _::_,[],h,_,_,_,_,_=>h.elim
theorem zU:∀{a b:List Kd} {x y:jVj},Kd.oks a x->Kd.oks b y->Kd.oks (a++b) (x++y)
 | [],_,x,y,h,k=>by unfold Kd.oks at h;subst h;exact k
 | q::a,b,x,y,h,k=>by unfold Kd.oks at h;obtain⟨d,r,rfl,c,e⟩:=h;show Kd.oks (q::(a++b)) (d::(r++y));unfold Kd.oks;exact⟨d,r++y,rfl,c,zU e k⟩
theorem GO:∀{a:List Kd} {x:jVj},Kd.oks a x->x.length=a.length
 | [],x,h=>by unfold Kd.oks at h;subst h;rfl
 | q::a,x,h=>by unfold Kd.oks at h;obtain⟨d,r,rfl,c,b⟩:=h;simp[GO b]
theorem Qi1 {k:Kd}{d:D}(h:Kd.ok k d):Kd.oks [k] [d]:=by unfold Kd.oks;exact⟨d,[],rfl,h,by unfold Kd.oks;rfl⟩
section
variable {H:Type}{enc:TypeId×Value->H}{P:Program}{W:World}{base:Nat}{sp:Nat->Bool}{held:Bool}
theorem jB {W:World}{k:Kd}{d:D}{v:Value}(b:Kd.ok k d)(c:DR W (fun _=>False) d v)(e:one v=true):∃a,Kd.oks [k] a/\Reads W a [v]:=⟨[d],Qi1 b,⟨c,e⟩,trivial⟩
theorem yf {f:TypeId->Option (List Kd)}{g:TypeId->List Value->Prop}(j:∀t cs ks,f t=some ks->g t cs->∃a,Kd.oks ks a/\Reads W a cs){cs:List Value} :
  ∀(i:List Field) (off:Nat) (ks:List Kd),E9 P f off i=some ks->(∀fd,fd∈i->g fd.type ((cs.drop fd.offset).take (P.cellsOf fd.type)))->cs.length=off+ks.length->∃a,Kd.oks ks a/\Reads W a (cs.drop off)
 | [],off,ks,h,_,hl=>by simp only[E9,jIj] at h;subst h;refine⟨[],by unfold Kd.oks;rfl,?_⟩;rw[List.drop_eq_nil_of_le (by simp at hl;omega)];trivial
 | fd::l,off,ks,h,hg,hl=>by
  unfold E9 at h;split at h;case h_2=>cases h
  rename_i q e;split at h;case h_2=>cases h
  rename_i r d o;simp only[jIj] at h;subst h;simp only[jAj,Nat.beq_eq] at d;obtain⟨b,k,b1⟩:=j _ _ _ e (hg fd jMj);rw[jaj] at hl;obtain⟨c,m,n⟩:=yf j l (off+q.length) r o (fun x p=>hg x (jmj _ p)) (by omega);refine⟨b++c,zU k m,?_⟩;have:=b1.append n;rw[d.1,<-d.2,<-List.drop_drop,List.take_append_drop] at this;exact this
theorem Qad {ks:List Kd}{cs:List Value}{m:Nat}(f:∀i,i<m->∃a,Kd.oks ks a/\Reads W a ((cs.drop (i*ks.length)).take ks.length))(g:cs.length=m*ks.length) :
  ∀j,j<=m->∃a,Kd.oks (List.replicate j ks).flatten a/\Reads W a (cs.drop ((m - j)*ks.length))
 | 0,_=>by refine⟨[],by unfold Kd.oks;rfl,?_⟩;rw[List.drop_eq_nil_of_le (by simp[g])];trivial
 | j+1,hj=>by
  obtain⟨c,k,d⟩:=Qad f g j (by omega);obtain⟨b,h,b1⟩:=f (m - (j+1)) (by omega);refine⟨b++c,by rw[List.replicate_succ,List.flatten_cons];exact zU h k,?_⟩;have e:(m - j)*ks.length=(m - (j+1))*ks.length+ks.length:=by rw[show m - j=m - (j+1)+1 by omega,Nat.add_mul,Nat.one_mul]
  rw[e] at d;have:=b1.append d;rw[<-List.drop_drop,List.take_append_drop] at this;exact this
theorem jK {e g:Type}{f:e->Option g}:∀{l:List e} {r:List g},l.mapM f=some r->∀a,a∈l->∃b,f a=some b
 | [],_,_,a,c=>by cases c
 | x::l,r,h,a,c=>by
  simp only[List.mapM_cons,Option.bind_eq_bind,Option.bind_eq_some_iff,Option.pure_def,jIj] at h;obtain⟨b,i,j,d,rfl⟩:=h;obtain rfl|c:=List.mem_cons.1 c
  ·exact⟨b,i⟩
  ·exact jK d a c
theorem QbS {a:Nat}{t:TypeId}{d:Array Field}{cs:List Value}{x:DataW H×List MemPlace}(g:P.underlying t=some (.struct d))(h:DataW.trod enc P W base sp held a t cs=some x) :
  ∃n,a=n+1/\cs.length=P.cellsOf t/\∀b,b∈d.toList->∃y,DataW.trod enc P W base sp held n b.type ((cs.drop b.offset).take (P.cellsOf b.type))=some y:=by
 cases a with
 | zero=>simp[DataW.trod] at h
 | succ n =>
  refine⟨n,rfl,?_⟩;simp only[DataW.trod,g] at h;split at h;case isFalse=>cases h
  rename_i e;simp only[Option.map_eq_some_iff] at h;obtain⟨r,f,_⟩:=h;exact⟨e,fun b c=>jK f b c⟩
theorem QcY {a:Nat}{t e:TypeId}{m:Nat}{cs:List Value}{x:DataW H×List MemPlace}(d:P.underlying t=some (.array m e))(h:DataW.trod enc P W base sp held a t cs=some x) :
  ∃n,a=n+1/\cs.length=P.cellsOf t/\∀i,i<m->∃y,DataW.trod enc P W base sp held n e ((cs.drop (i*P.cellsOf e)).take (P.cellsOf e))=some y:=by
 cases a with
 | zero=>simp[DataW.trod] at h
 | succ n =>
  refine⟨n,rfl,?_⟩;simp only[DataW.trod,d] at h;split at h;case isFalse=>cases h
  rename_i b;simp only[Option.map_eq_some_iff] at h;obtain⟨r,c,_⟩:=h;exact⟨b,fun i hi=>jK c i (by simpa using hi)⟩
theorem QcX {a:Nat}{t:TypeId}{k:FloatKind}{cs:List Value}{x:DataW H×List MemPlace}(c:P.underlying t=some (.float k))(h:DataW.trod enc P W base sp held a t cs=some x) :
  ∃b,cs=[.float k b]/\(Lit.float k b).wf=true:=by
 cases a with
 | zero=>simp[DataW.trod] at h
 | succ n =>
  unfold DataW.trod at h;rw[c] at h;split at h<;>simp_all
theorem zL {agg:Bool}{ks:List Kd}{G:Nat}{t e:TypeId}{cs:List Value}{x:DataW H×List MemPlace}(ht:P.underlying t=some (.slice e))(h:DataW.trod enc P W base sp held G t cs=some x)
  (hk:ks.length=P.cellsOf e) (L:0<ks.length) (h1:agg=false->ks.length=1)
  (ih:∀(n:Nat) (c:List Value) (y:DataW H×List MemPlace),DataW.trod enc P W base sp held n e c=some y->∃f,Kd.oks ks f/\Reads W f c) :
  ∃f,Kd.oks [.lst agg ks] f/\Reads W f cs:=by
 obtain⟨rfl,_⟩|⟨a,len,cap,V,a6,n,_,rfl,_,hb,hl,hm,a5,a2,_,_⟩:=DataW.trod_slice ht h
 ·refine jB (d:=.lst false ks.length []) ?_ ?_ rfl
  ·unfold Kd.ok;exact⟨[],rfl,Nat.zero_le _,fun e l=>by cases l⟩
  ·exact .lst false ks.length [] none 0 0 0 (fun _=>.nilIface) (fun h=>by cases h) (jLj _) (fun h=>absurd rfl h) (by simp) (by simp) (by simp)
 ·have each:∀i,i<len->∃f c,Kd.oks ks f/\Reads W f c/\c.length=ks.length/\∀j,j<ks.length->W.cell? ((a.add (i*ks.length)).add j)=c[j]?:=by
   intro i hi;have X:=a2 i hi;rw[jej (by omega),<-hk] at X;rw[Option.bind_eq_some_iff] at X;obtain⟨c,hc,hy⟩:=X;obtain⟨f,T,U⟩:=ih _ _ _ hy;refine⟨f,c,T,U,by rw[<-U.len,GO T],fun j p=>?_⟩;unfold World.cells? at hc;split at hc;case isFalse=>cases hc
   have a7:c.length=ks.length:=by rw[<-U.len,GO T]
   obtain⟨b,a0,a1⟩:=Lib.mapM_at hc j j (by simp[p]);rw[a0,a1]
  let f (i:Nat):jVj:=if hi:i<len then Classical.choose (each i hi) else[];let N (d:jVj):D:=if agg then .agg d else d.headD (.v .nilIface);have r:∀i,i<len->∃c,Kd.oks ks (f i)/\Reads W (f i) c/\c.length=ks.length/\∀j,j<ks.length->W.cell? ((a.add (i*ks.length)).add j)=c[j]?:=by intro i hi;have:=Classical.choose_spec (each i hi);simp only[f,dif_pos hi];exact this
  have C:∀(k:Kd) (d:D),Kd.ok k d->d.cells=[d]:=by
   intro k d F;cases k<;>simp only[Kd.ok] at F
   ·obtain⟨n,rfl,_⟩:=F;rfl
   ·obtain⟨n,rfl⟩:=F;rfl
   ·obtain⟨n,rfl,_⟩:=F;rfl
   ·obtain⟨n,rfl,_⟩:=F;rfl
   ·obtain⟨n,rfl,_⟩:=F;rfl
  have E:∀i,i<len->(N (f i)).cells=f i:=by
   intro i hi;obtain⟨c,m,_⟩:=r i hi;simp only[N];split
   ·rfl
   ·rename_i Z;have Q:=h1 (by simpa using Z);have J:=GO m;rw[Q] at J;match hdi:f i,J with
    | [d],_ =>
     rw[hdi] at m;match hks:ks,Q with
     | [k],_ =>
      unfold Kd.oks at m;obtain⟨d',r',e1,e2,e3⟩:=m;cases e1;exact C k d e2
  have Y:0<len->a=⟨a.block,a.off,none⟩/\a.block<W.heap.size:=by
   intro O;obtain⟨c,m,c2,c3,S⟩:=r 0 O;have z:=S 0 L;rw[jej (by omega)] at z;have e0:(a.add (0*ks.length)).add 0=a:=by simp[Addr.add]
   rw[e0] at z;unfold World.cell? at z;split at z
   ·rename_i q1 q2 q3 A;split at z
    ·cases z
    ·rename_i hs;refine⟨?_,?_⟩
     ·revert hs;obtain⟨b,o,s⟩:=a;cases s with
      | none=>intro _;rfl
      | some s=>intro hs;exact absurd rfl hs
     ·obtain h|h:=Nat.lt_or_ge a.block W.heap.size
      ·exact h
      ·have:W.heap[a.block]?=some _:=A;rw[Array.getElem?_eq_none h] at this;cases this
   ·cases z
  have q:∀(i j:Nat) (c:D),i<len->(f i)[j]?=some c->∃v,W.cell? ⟨a.block,a.off+(i*ks.length+j),none⟩=some v/\DR W (fun _=>False) c v/\one v=true:=by
   intro i j c hi p;obtain⟨c',m,c2,c3,S⟩:=r i hi;have K:j<(f i).length:=(jGj p).1;rw[GO m] at K;have h6:=S j K;have hv:c'[j]?=some (c'[j]'(by omega)):=jej (by omega);rw[hv] at h6;refine⟨_,?_,c2.at j _ _ p hv⟩;have e:(a.add (i*ks.length)).add j=⟨a.block,a.off+(i*ks.length+j),none⟩:=by rw[(Y (by omega)).1,Go.SX.add_at,Go.SX.add_at,Nat.add_assoc]
   rw[<-h6,e]
  refine jB (d:=.lst false ks.length ((List.range len).map fun i=>N (f i))) ?_ ?_ rfl
  ·unfold Kd.ok;refine⟨_,rfl,by simp;omega,fun e l=>?_⟩;simp only[List.mem_map,List.mem_range] at l;obtain⟨i,hi,rfl⟩:=l;obtain⟨c,m,_⟩:=r i hi;cases agg with
   | true=>exact⟨f i,rfl,m⟩
   | false =>
    have Q:=h1 rfl;have J:=GO m;rw[Q] at J;simp only[N];match hdi:f i,J with
    | [d],_=>rw[hdi] at m;exact m
  ·have a4:=DR.lst (w:=W) (M:=fun _=>False) false ks.length ((List.range len).map fun i=>N (f i)) (some a) cap a.block a.off (fun k=>(W.cell? ⟨a.block,a.off+k,none⟩).getD .nilIface)
    (fun h=>by cases h) (by simp;omega)
    (fun a3=>by
     have O:0<len:=by
      obtain h|h:=Nat.eq_zero_or_pos len
      ·subst h;simp at a3
      ·exact h
     exact⟨by rw[<-(Y O).1],fun h=>h,(Y O).2⟩)
    (fun i e l=>by rw[List.getElem?_map] at l;simp only[Option.map_eq_some_iff] at l;obtain⟨k,u,rfl⟩:=l;obtain⟨g,rfl⟩:=jGj u;simp only[List.length_range] at g;simp only[List.getElem_range];obtain⟨c,m,_⟩:=r i g;rw[E i g,GO m])
    (fun i e j c l p=>by rw[List.getElem?_map] at l;simp only[Option.map_eq_some_iff] at l;obtain⟨k,u,rfl⟩:=l;obtain⟨g,rfl⟩:=jGj u;simp only[List.length_range] at g;simp only[List.getElem_range] at p;rw[E i g] at p;obtain⟨v,v1,v2,v3⟩:=q i j c g p;simp only[v1,Option.getD_some];exact⟨trivial,v3⟩)
    (fun i e j c l p=>by rw[List.getElem?_map] at l;simp only[Option.map_eq_some_iff] at l;obtain⟨k,u,rfl⟩:=l;obtain⟨g,rfl⟩:=jGj u;simp only[List.length_range] at g;simp only[List.getElem_range] at p;rw[E i g] at p;obtain⟨v,v1,v2,v3⟩:=q i j c g p;simp only[v1,Option.getD_some];exact v2)
   simpa using a4
theorem JJ:∀(d:Nat) (p:Nat) (t:TypeId) (cs:List Value) (x:DataW H×List MemPlace) (ks:List Kd),U6 P d t=some ks->DataW.trod enc P W base sp held p t cs=some x->∃w,Kd.oks ks w/\Reads W w cs
 | 0,_,_,_,_,_,h,_=>by cases h
 | d+1,p,t,cs,x,ks,h,hx=>by
  unfold U6 at h;split at h
  ·rename_i k l;cases h;obtain⟨n,rfl,_,r⟩:=DataW.trod_int l hx;simp only[Lit.wf,jAj,decide_eq_true_eq] at r;exact jB (by unfold Kd.ok;exact⟨n,rfl,r⟩) (.v _) rfl
  ·rename_i l;cases h;obtain⟨b,rfl,_⟩:=DataW.trod_bool l hx;exact jB (by unfold Kd.ok;exact⟨b,rfl⟩) (.v _) rfl
  ·rename_i l;cases h;obtain⟨s,rfl,_,F⟩:=DataW.trod_string l hx;exact jB (by unfold Kd.ok;exact⟨s,rfl,F⟩) (.v _) rfl
  ·rename_i k l;cases h;obtain⟨b,rfl,r⟩:=QcX l hx;exact jB (by unfold Kd.ok;exact⟨b,rfl,r⟩) (.v _) rfl
  ·rename_i e l;split at h
   ·rename_i q _ a _;split at h;case h_2=>cases h
    rename_i j;cases h;simp only[jAj,Nat.beq_eq,Nat.blt_eq] at j;exact zL l hx j.1 j.2 (fun h=>by cases h) fun n c y o=>JJ d n e c y _ a o
   ·rename_i q _ _ a _;split at h;case h_2=>cases h
    rename_i j;cases h;simp only[jAj,Nat.beq_eq,Nat.blt_eq] at j;exact zL l hx j.1 j.2 (fun h=>by cases h) fun n c y o=>JJ d n e c y _ a o
   ·rename_i q _ _ _ a _;split at h;case h_2=>cases h
    rename_i j;cases h;simp only[jAj,Nat.beq_eq] at j;exact zL l hx j.1 (by omega) (fun _=>j.2.symm) fun n c y o=>JJ d n e c y _ a o
   ·cases h
  ·rename_i z l;split at h;case h_2=>cases h
   rename_i q a;split at h;case h_2=>cases h
   rename_i j;cases h;simp only[Nat.beq_eq] at j;obtain⟨n,rfl,E,u⟩:=QbS l hx;have:=yf (P:=P) (W:=W) (f:=U6 P d) (g:=fun t cs=>∃y,DataW.trod enc P W base sp held n t cs=some y) (fun t cs ks A C=>by obtain⟨y,o⟩:=C;exact JJ d n t cs y ks A o) z.toList 0 _ a u (by omega)
   rwa [List.drop_zero] at this
  ·rename_i m e l;split at h;case h_2=>cases h
   rename_i q a;split at h;case h_2=>cases h
   rename_i j;cases h;simp only[jAj,Nat.beq_eq] at j;obtain⟨n,rfl,E,u⟩:=QcY l hx;have:=Qad (W:=W) (ks:=q) (cs:=cs) (m:=m) (fun i hi=>by obtain⟨y,o⟩:=u i hi;rw[<-j.1] at o;exact JJ d n e _ y _ a o) (by omega) m (jLj _)
   rwa [Nat.sub_self,Nat.zero_mul,List.drop_zero] at this
  ·cases h
end
set_option maxRecDepth 20000
open Go.WideShapes Go.ChangeShapes
def Qga (P:Program)(t:TypeId):Prop:=∃d ks,U6 P d t=some ks
theorem wK {P:Program}{f:TypeId->Option (List Kd)}:∀(d:List Field) (off:Nat) (ks:List Kd),E9 P f off d=some ks ->
  (∀fd,fd∈d->∃k,f fd.type=some k)/\ks.length=(d.map fun fd=>P.cellsOf fd.type).sum/\∀(j:Nat) fd,d[j]?=some fd->fd.offset=off+((d.take j).map fun fd=>P.cellsOf fd.type).sum
 | [],off,ks,h=>by simp only[E9,jIj] at h;subst h;exact⟨fun _ h=>(by cases h),rfl,fun j fd h=>(by simp at h)⟩
 | fd::l,off,ks,h=>by
  unfold E9 at h;split at h;case h_2=>cases h
  rename_i o i;split at h;case h_2=>cases h
  rename_i r e n;simp only[jIj] at h;subst h;simp only[jAj,Nat.beq_eq] at e;obtain⟨a,b,c⟩:=wK l _ r n;refine⟨fun x m=>?_,?_,fun j x g=>?_⟩
  ·obtain rfl|m:=List.mem_cons.1 m
   ·exact⟨_,i⟩
   ·exact a x m
  ·simp[b,e.2]
  ·cases j with
   | zero=>simp at g;subst g;simp[e.1]
   | succ j =>
    have:=c j x (by simpa using g);simp only[List.take_succ_cons,jCj,List.sum_cons];rw[this,e.2];omega
theorem Qeu (P:Program):Kids P (Qga P) where
 pointer:=fun {t e} h ht=>by
  obtain⟨d,ks,h⟩:=h;cases d with
  | zero=>cases h
  | succ d=>unfold U6 at h;rw[ht] at h;cases h
 slice:=fun {t e} h ht=>by
  obtain⟨d,ks,h⟩:=h;cases d with
  | zero=>cases h
  | succ d =>
   unfold U6 at h;rw[ht] at h;simp only at h;cases hk:U6 P d e with
   | none=>rw[hk] at h;simp at h
   | some k=>exact⟨d,k,hk⟩
 array:=fun {t e n} h ht=>by
  obtain⟨d,ks,h⟩:=h;cases d with
  | zero=>cases h
  | succ d =>
   unfold U6 at h;rw[ht] at h;simp only at h;split at h;case h_2=>cases h
   rename_i k1 hk1;split at h;case h_2=>cases h
   rename_i hb;simp only[jAj,Nat.beq_eq] at hb;exact⟨⟨d,_,hk1⟩,by rw[<-hb.2,hb.1]⟩
 struct:=fun {t fs} h ht=>by
  obtain⟨d,ks,h⟩:=h;cases d with
  | zero=>cases h
  | succ d =>
   unfold U6 at h;rw[ht] at h;simp only at h;split at h;case h_2=>cases h
   rename_i k1 hk1;split at h;case h_2=>cases h
   rename_i hb;simp only[Nat.beq_eq] at hb;obtain⟨a,b,c⟩:=wK _ _ _ hk1;exact⟨fun f hf=>by obtain⟨k,hk⟩:=a f hf;exact⟨d,k,hk⟩,by rw[<-hb,b],fun j f hj=>by rw[c j f hj,Nat.zero_add]⟩
 map:=fun {t k e} h ht=>by
  obtain⟨d,ks,h⟩:=h;cases d with
  | zero=>cases h
  | succ d=>unfold U6 at h;rw[ht] at h;cases h
theorem Qgv {P:Program}{t e:TypeId}(h:Qga P t)(b:P.underlying t=some (.slice e)):0<P.cellsOf e:=by
 obtain⟨d,ks,h⟩:=h;cases d with
 | zero=>cases h
 | succ d =>
  unfold U6 at h;rw[b] at h;simp only at h;split at h
  ·split at h;case h_2=>cases h
   rename_i a;simp only[jAj,Nat.beq_eq,Nat.blt_eq] at a;omega
  ·split at h;case h_2=>cases h
   rename_i a;simp only[jAj,Nat.beq_eq,Nat.blt_eq] at a;omega
  ·split at h;case h_2=>cases h
   rename_i a;simp only[jAj,Nat.beq_eq] at a;omega
  ·cases h
def qb (P:Program)(t:TypeId):Bool:=match P.underlying t with
 | some (.struct _)=>true
 | some (.array _ _)=>true
 | _=>false
def okA:Bool×List Kd->D->Prop
 | (true,ks),d=>∃cs,d=.agg cs/\Kd.oks ks cs
 | (false,ks),d=>Kd.oks ks [d]
def okAs:List (Bool×List Kd)->jVj->Prop
 | [],a=>a=[]
 | k::r,a=>∃d l,a=d::l/\okA k d/\okAs r l
def UD (P:Program):List TypeId->Option (List (Bool×List Kd))
 | []=>some []
 | t::ts=>match U6 P 12 t,UD P ts with
  | some ks,some r=>match qb P t || Nat.beq ks.length 1 with
   | true=>some ((qb P t,ks)::r)
   | false=>none
  | _,_=>none
section
variable {H:Type}{enc:TypeId×Value->H}{P:Program}{W:World}{base:Nat}{sp:Nat->Bool}{held:Bool}
theorem Qgo {r:Reach}{b0:Nat}{t:TypeId}{v:Value}{ks:List Kd}(g:U6 P 12 t=some ks)(b:Value.okWide P W r b0 t v)(f:qb P t=false):v.cells=#[v]:=by
 unfold U6 at g;unfold qb at f;split at g
 ·rename_i k d;obtain⟨n,rfl⟩:=okWide_int d b;rfl
 ·rename_i d;obtain⟨n,rfl⟩:=okWide_bool d b;rfl
 ·rename_i d;obtain⟨n,rfl⟩:=okWide_string d b;rfl
 ·rename_i k d;rw[Value.okWide,d] at b;cases v<;>simp_all [Cell.okWide,Cell.ok,Value.cells]
 ·rename_i e d;obtain⟨a,l,c,rfl⟩:=okWide_slice d b;rfl
 ·rename_i d;rw[d] at f;cases f
 ·rename_i d;rw[d] at f;cases f
 ·cases g
theorem Qez {r:Reach}{b0:Nat}{t:TypeId}{v:Value}{d:DataW H}{p:List MemPlace}{ks:List Kd}(l:U6 P 12 t=some ks)(e:Value.okWide P W r b0 t v)(n:DataW.Trod enc P W base sp held t v d p)(j:(qb P t || Nat.beq ks.length 1)=true) :
  ∃x,okA (qb P t,ks) x/\DR W (fun _=>False) x v:=by
 obtain⟨f,o⟩:=n;obtain⟨g,a,b⟩:=JJ 12 f t _ _ ks l o;cases hag:qb P t with
 | true =>
  have s:∃cs,v=.agg cs:=by
   unfold qb at hag;unfold Value.okWide at e;split at hag
   ·rename_i k;rw[k] at e;obtain⟨cs,h,_⟩:=e;exact⟨cs,h⟩
   ·rename_i k;rw[k] at e;obtain⟨cs,h,_⟩:=e;exact⟨cs,h⟩
   ·cases hag
  obtain⟨cs,rfl⟩:=s;have hc:(Value.agg cs).cells.toList=cs.toList:=rfl;rw[hc] at b;have:=DR.agg (w:=W) (M:=fun _=>False) g cs.toList b.len (fun i c y hc u=>(b.at i c y hc u).1);exact⟨.agg g,⟨g,rfl,a⟩,by simpa using this⟩
 | false =>
  have q:=Qgo l e hag;rw[q] at b;rw[hag] at j;simp only[Bool.false_or,Nat.beq_eq] at j;have m:=GO a;rw[j] at m;match g,m with
  | [x],_=>exact⟨x,a,(b.at 0 x v rfl rfl).1⟩
theorem QbI {r:Reach}{b0:Nat}:∀{ts:List TypeId} {vs:List Value} {g:List (DataW H)} {p:List MemPlace} {f:List (Bool×List Kd)},DataW.TrodAll enc P W base sp held ts vs g p->UD P ts=some f ->
  (∀(j:Nat) t v,ts[j]?=some t->vs[j]?=some v->Value.okWide P W r b0 t v)->∃e:jVj,okAs f e/\e.length=vs.length/\∀(i:Nat) (c:D) (y:Value),e[i]?=some c->vs[i]?=some y->DR W (fun _=>False) c y
 | [],vs,g,p,f,h,hk,_=>by obtain⟨rfl,rfl,rfl⟩:=trodAll_nil h;cases hk;exact⟨[],rfl,rfl,fun i c y h=>by simp at h⟩
 | t::ts,vs,g,p,f,h,hk,hv=>by
  obtain⟨v,w,d,n,a,b,rfl,rfl,rfl,o,q⟩:=trodAll_cons h;unfold UD at hk;split at hk;case h_2=>cases hk
  rename_i ks r l u;split at hk;case h_2=>cases hk
  rename_i s;cases hk;obtain⟨x,z,A⟩:=Qez l (hv 0 t v rfl rfl) o s;obtain⟨e,C,E,F⟩:=QbI q u (fun j t v h k=>hv (j+1) t v (by simpa using h) (by simpa using k));refine⟨x::e,⟨x,e,rfl,z,C⟩,by simp[E],fun i c y hc m=>?_⟩;cases i with
  | zero=>simp at hc m;subst hc;subst m;exact A
  | succ i=>exact F i c y (by simpa using hc) (by simpa using m)
theorem Qaq:∀{ts:List TypeId} {c:List (Bool×List Kd)},UD P ts=some c->∀t,t∈ts->Qga P t
 | [],_,_,t,h=>by cases h
 | t::ts,c,hk,u,b=>by
  unfold UD at hk;split at hk;case h_2=>cases hk
  rename_i ks r a d;obtain rfl|b:=List.mem_cons.1 b
  ·exact⟨_,_,a⟩
  ·exact Qaq d u b
theorem QbH {j : World}{f : Nat->Bool}:∀{ts:List TypeId} {vs:List Value} {g:List (DataW H)} {p:List MemPlace},DataW.TrodAll enc P W base (fun _=>true) true ts vs g p->(∀t,t∈ts->Qga P t) ->
  (∀q,q∈p->W.sameAt j q)->(∀q,q∈p->f q.block=true)->DataW.TrodAll enc P j base f true ts vs g p
 | [],vs,g,p,h,_,_,_=>by obtain⟨rfl,rfl,rfl⟩:=trodAll_nil h;exact rfl
 | t::ts,vs,g,p,h,hp,h3,h4=>by
  obtain⟨v,o,d,k,a,b,rfl,rfl,rfl,⟨e,l⟩,m⟩:=trodAll_cons h;exact⟨a,b,⟨e,DataW.trod_stays (Qeu P) (fun i n=>Qgv i n) (fun h=>by cases h) (hp t jMj) l (fun q c=>h3 q (List.mem_append_left _ c)) (fun q c=>h4 q (List.mem_append_left _ c))⟩,
   QbH m (fun t i=>hp t (jmj _ i)) (fun q c=>h3 q (List.mem_append_right _ c)) (fun q c=>h4 q (List.mem_append_right _ c)),rfl⟩
end
theorem Qg3 {w w' : World}(h:Ext w (fun _=>False) w'):Below w.heap.size w w':=⟨h.os,h.tape,h.output,h.size,fun r a=>h.same r a (fun h=>h)⟩
theorem Qb1 {W a : World}(h:Below W.heap.size W a){p:MemPlace}(hp:p.block<W.heap.size):W.sameAt a p:=by
 cases p with
 | cell b off =>
  show a.cell? ⟨b,off,none⟩=W.cell? ⟨b,off,none⟩;unfold World.cell?;rw[h.block b hp]
 | map b=>exact h.block b hp
theorem Qgj {H:Type}{enc:TypeId×Value->H}{P:Program}{w:World}{base:Nat}{sp:Nat->Bool}{held:Bool}{t:TypeId}(a:P.underlying t=some .bool):DataW.Trod enc P w base sp held t (.bool true) (.lit (.bool true)) [] :=
 ⟨1,by simp[DataW.trod,Value.cells,a]⟩
theorem Qea {f:FuncId}{k:Func}{spec:ChangeSpec}{V:List (Bool×List Kd)}{O:TypeId}(A:UD Tryz.prog k.params.toList=some V)
  (hb:Tryz.prog.underlying O=some .bool) (C:k.resultTypes=#[O]) (i:spec.vars=[])
  (m:∀(H:Type) (c:List (DataW H)),c.length=k.params.size->spec.fn H c={ results:=[.lit (.bool true)],args:=c })
  (u:∀F,okAs V F->Computes cx f F (.v (.bool true)))
  (H:Type) (enc:TypeId×Value->H) (W:World) (base:Nat) (args:Array Value) (c Y:List (DataW H)) (before:List MemPlace)
  (E:∀(j:Nat) t v,k.params[j]?=some t->args[j]?=some v->Value.okWide Tryz.prog W .any base t v)
  (S:DataW.Whole enc Tryz.prog k.params.toList spec.vars false W args.toList c Y before)
  (hG:∀g x,cx.G g=some x->GAt W (fun _=>False) g x) :
  Calls Tryz.prog f args W fun e N=>∃v,e=.returned v/\spec.post enc Tryz.prog k false true false false W args v N:=by
 have o:=S;obtain⟨p,q,K,Q,rfl,a0,a1⟩:=S;rw[i] at Q;obtain⟨rfl,rfl⟩:=trodVars_none Q;have n : ∀(j:Nat) t v,k.params.toList[j]?=some t->args.toList[j]?=some v->Value.okWide Tryz.prog W .any base t v:=by intro j t v T U;rw[Array.getElem?_toList] at T U;exact E j t v T U
 obtain⟨F,Z,J,h3⟩:=QbI (H:=H) (enc:=enc) (P:=Tryz.prog) (W:=W) (base:=0) (sp:=fun _=>true) (held:=true) (r:=.any) (b0:=base) (ts:=k.params.toList) (vs:=args.toList) K A n;have hc:=u F Z W (fun _=>False) args.toList (fun _ h=>h.elim) hG J h3;rw[Array.toArray_toList] at hc;refine hc.mono fun e N ⟨y,he,hy,hx⟩=>⟨y,he,?_⟩
 have M:=dr_v hy;subst M;have s:=Qg3 hx;have z:=o.lt;have w:c.length=k.params.size:=by
  have:∀{ts:List TypeId} {vs:List Value} {c:List (DataW H)} {p:List MemPlace},DataW.TrodAll enc Tryz.prog W 0 (fun _=>true) true ts vs c p->c.length=ts.length:=by
   intro ts;induction ts with
   | nil=>intro vs c p h;obtain⟨rfl,rfl,rfl⟩:=trodAll_nil h;rfl
   | cons t ts ih=>intro vs c p h;obtain⟨v,a2,d,X,a,b,rfl,rfl,rfl,_,J⟩:=trodAll_cons h;simp[ih J]
  exact(this K).trans Array.length_toList
 have l:=m H (c++[]) (by rw[List.append_nil];exact w);refine⟨c,[],p++[],[],p,[],o,?_,?_,?_,s.frame _,fun h=>by cases h⟩
 ·rw[l,C];exact trodAll_mk1 (Qgj hb)
 ·rw[l];simp only[List.append_nil];exact QbH K (Qaq A) (fun q L=>Qb1 s (z q (List.mem_append_left _ L))) (fun q L=>jDj (z q (List.mem_append_left _ L)))
 ·rw[l,i];rfl
theorem QeA {k:Bool×List Kd}{r:List (Bool×List Kd)}{a:jVj}(h:okAs (k::r) a):∃d l,a=d::l/\okA k d/\okAs r l:=h
theorem Qj3 {a:jVj}(h:okAs [] a):a=[]:=h
theorem QhH {k:Kd}{ks:List Kd}{a:jVj}(h:Kd.oks (k::ks) a):∃d r,a=d::r/\Kd.ok k d/\Kd.oks ks r:=by unfold Kd.oks at h;exact h
theorem Qkx {a:jVj}(h:Kd.oks [] a):a=[]:=by unfold Kd.oks at h;exact h
theorem Qky {k:Kd}{d:D}(h:Kd.oks [k] [d]):Kd.ok k d:=by obtain⟨c,r,a,b,_⟩:=QhH h;cases a;exact b
theorem QhJ {k:Kd}{d:D}(h:okA (false,[k]) d):Kd.ok k d:=Qky h
theorem ok_i {k:IntKind}{d:D}(h:Kd.ok (.int k) d):∃n,d=.v (.int k n)/\k.min<=n/\n<=k.max:=by unfold Kd.ok at h;exact h
theorem ok_s {d:D}(h:Kd.ok .str d):∃s,d=.v (.string s)/\s.size<=maxLen:=by unfold Kd.ok at h;exact h
theorem Qkz {ks:List Kd}{d:D}(h:Kd.ok (.lst true ks) d):∃es,d=.lst false ks.length es/\es.length<=maxLen/\∀e,e∈es->∃cs,e=.agg cs/\Kd.oks ks cs:=by unfold Kd.ok at h;exact h
theorem Qtp {k:Kd}{d:D}(h:Kd.ok (.lst false [k]) d):∃es,d=.lst false 1 es/\es.length<=maxLen/\∀e,e∈es->Kd.ok k e:=by unfold Kd.ok at h;obtain⟨es,a,b,c⟩:=h;exact⟨es,a,b,fun e f=>Qky (c e f)⟩
theorem QhU {d:Type}{enc:d->D}{p:d->Prop}:∀{es:jVj},(∀e,e∈es->∃x,e=enc x/\p x)->∃xs:List d,es=xs.map enc/\∀x,x∈xs->p x
 | [],_=>⟨[],rfl,fun x b=>by cases b⟩
 | e::es,h=>by
  obtain⟨x,rfl,b⟩:=h e jMj;obtain⟨xs,rfl,c⟩:=QhU (es:=es) fun y a=>h y (jmj _ a);refine⟨x::xs,rfl,fun y a=>?_⟩;obtain rfl|a:=List.mem_cons.1 a
  ·exact b
  ·exact c y a
theorem QtD {n:Int}(h:IntKind.u16.min<=n/\n<=IntKind.u16.max):0<=n/\n<=65535:=h
theorem QfS {P:Program}{w:World}{n:String}{d:DataW Unit}:∀{l:List (String×DataW Unit)} {b:List MemPlace} (i:Nat),DataW.LaidVars P w l b->l[i]?=some (n,d) ->
  ∃g t cs a p,P.globalNamed n=some g/\(P.globals[g]?).map (·.type)=some t/\w.var? P n=some cs/\DataW.trod (fun _=>()) P w 0 (fun _=>true) false a t cs.toList=some (d,p)
 | [],_,i,_,hi=>by simp at hi
 | (m,e)::r,b,0,h,hi=>by simp only[jzj,jIj,jPj] at hi;obtain⟨rfl,rfl⟩:=hi;obtain⟨g,t,cs,a,p,q,c,f,j,k,_,_⟩:=h;exact⟨g,t,cs,a,p,c,f,j,k⟩
 | (m,e)::r,b,i+1,h,hi=>by obtain⟨g,t,cs,a,p,q,c,f,j,k,o,_⟩:=h;exact QfS i o (by simpa using hi)
theorem Qke {P:Program}{W:World}{name:String}{g:Nat}{k:IntKind}{zs:List Int}(d:P.globalNamed name=some g)(h:W.var? P name=some (zs.map fun z=>Value.int k z).toArray) :
  GAt W (fun _=>False) g (.agg (zs.map fun z=>.v (.int k z))):=by
 have hc:=World.var?_cell d h;unfold World.var? at h;rw[d,jBj] at h;split at h;case h_2=>cases h
 rename_i cs t fz b;simp only[jIj] at h;refine⟨⟨fun h=>h,?_,fun j c e=>?_⟩,cs,t,fz,b,by rw[h];simp[D.cells]⟩
 ·obtain h|h:=Nat.lt_or_ge g W.heap.size
  ·exact h
  ·rw[Array.getElem?_eq_none h] at b;cases b
 ·have a : (zs.map fun z=>D.v (.int k z))[j]?=some c:=e;rw[List.getElem?_map] at a;obtain⟨z,f,rfl⟩:=Option.map_eq_some_iff.1 a;refine⟨.int k z,?_,.v _⟩;rw[Nat.zero_add,hc j];simp[f]
theorem gat1 {P:Program}{W:World}{laid:List (String×DataW Unit)}{s:List MemPlace}{name:String}{g:Nat}{t e:TypeId}{n:Nat}{k:IntKind}{zs:List Int}(i:Nat)(o:DataW.LaidVars P W laid s)(hi:laid[i]?=some (name,Lib.tabData k zs))
  (j:P.globalNamed name=some g) (f:(P.globals[g]?).map (·.type)=some t) (q:P.underlying t=some (.array n e)) (m:P.underlying e=some (.int k)) (a:P.cellsOf e=1) (b:P.cellsOf t=n) :
  GAt W (fun _=>False) g (.agg (zs.map fun z=>.v (.int k z))):=by
 obtain⟨u,w,cs,h,p,c,d,r,l⟩:=QfS i o hi;obtain rfl:=Option.some.inj (j.symm.trans c);obtain rfl:=Option.some.inj (f.symm.trans d);have:=Lib.cells_of_tab q m a b l;exact Qke j (by rw[r,<-this])
theorem Qrf {H:Type}{enc:TypeId×Value->H}{P:Program}{w:World}{base:Nat}{sp:Nat->Bool}{held:Bool}{a:Nat}{t e:TypeId}{n:Nat}{cs:List Value}{ss:List (List UInt8)}{p:List MemPlace}
  (r:P.underlying t=some (.array n e)) (o:P.underlying e=some .string) (f:P.cellsOf e=1) (g:P.cellsOf t=n)
  (h:DataW.trod enc P w base sp held a t cs=some (.agg (ss.map fun s=>.lit (.string s)),p)):cs=ss.map fun s=>Value.string ⟨s.toArray⟩:=by
 cases a with
 | zero=>simp[DataW.trod] at h
 | succ a =>
  simp only[DataW.trod,r,f,g,Nat.mul_one] at h;split at h;case isFalse=>cases h
  rename_i y;obtain⟨xs,k,u⟩:=Option.map_eq_some_iff.1 h;have c:xs.map (·.1)=ss.map fun s=>(DataW.lit (.string s):DataW H):=by have:=congrArg Prod.fst u;simpa using this
  have v:xs.length=n:=by simpa using Lib.mapM_length k
  have x:ss.length=n:=by have:=congrArg List.length c;simp at this;omega
  apply List.ext_getElem?;intro i;by_cases hi:i<n
  ·obtain⟨b,m,q⟩:=Lib.mapM_at k i i (by simp[hi]);obtain⟨s,hc,rfl,_⟩:=DataW.trod_string o q;have l:cs[i]?=some (.string s):=by have:=congrArg (·[0]?) hc;simpa[List.getElem?_take,List.getElem?_drop] using this
   have d:(xs.map (·.1))[i]?=some (DataW.lit (.string s.data.toList):DataW H):=by simp[m]
   rw[c] at d;simp only[List.getElem?_map,Option.map_eq_some_iff,DataW.lit.injEq,Lit.string.injEq] at d;obtain⟨s',j,rfl⟩:=d;simp[l,j]
  ·rw[List.getElem?_eq_none (by omega),List.getElem?_eq_none (by simp;omega)]
theorem gatS {P:Program}{W:World}{laid:List (String×DataW Unit)}{F:List MemPlace}{name:String}{g:Nat}{t e:TypeId}{n:Nat}{ss:List (List UInt8)}(i:Nat)(z:DataW.LaidVars P W laid F)(hi:laid[i]?=some (name,.agg (ss.map fun s=>.lit (.string s))))
  (k:P.globalNamed name=some g) (q:(P.globals[g]?).map (·.type)=some t) (C:P.underlying t=some (.array n e)) (x:P.underlying e=some .string) (b:P.cellsOf e=1) (f:P.cellsOf t=n) :
  GAt W (fun _=>False) g (.agg (ss.map fun s=>.v (.string ⟨s.toArray⟩))):=by
 obtain⟨G,H,u,r,p,l,o,E,w⟩:=QfS i z hi;obtain rfl:=Option.some.inj (k.symm.trans l);obtain rfl:=Option.some.inj (q.symm.trans o);have d:=Qrf C x b f w;have h:W.var? P name=some (ss.map fun s=>Value.string ⟨s.toArray⟩).toArray:=by rw[E,<-d]
 have hc:=World.var?_cell k h;unfold World.var? at h;rw[k,jBj] at h;split at h;case h_2=>cases h
 rename_i cs t fz m;simp only[jIj] at h;refine⟨⟨fun h=>h,?_,fun j c y=>?_⟩,cs,t,fz,m,by rw[h];simp[D.cells]⟩
 ·obtain h|h:=Nat.lt_or_ge g W.heap.size
  ·exact h
  ·rw[Array.getElem?_eq_none h] at m;cases m
 ·have a : (ss.map fun s=>D.v (.string ⟨s.toArray⟩))[j]?=some c:=y;rw[List.getElem?_map] at a;obtain⟨s,A,rfl⟩:=Option.map_eq_some_iff.1 a;refine⟨.string ⟨s.toArray⟩,?_,.v _⟩;rw[Nat.zero_add,hc j];simp[A]
theorem Qig {W:World}(c:GAt W (fun _=>False) 1 (.agg (([[102,111,99,117,115],[115,116,97,110,100,98,121],[115,116,111,119]]:List (List UInt8)).map fun s=>.v (.string ⟨s.toArray⟩))))(d:GAt W (fun _=>False) 2 (.agg (Lib.pow10Tab.map fun z=>.v (.int .u64 z))))(g:Nat)(x:D)(a:cx.G g=some x):GAt W (fun _=>False) g x:=by
 have e:cx.G g=(match Nat.beq g 2 with
  | true=>some pow10D
  | false=>match Nat.beq g 1 with
   | true=>some QsY
   | false=>none):=rfl
 rw[e] at a;split at a
 ·rename_i b;rw[jqj b];cases a;exact d
 ·split at a
  ·rename_i b;rw[jqj b];cases a;exact c
  ·cases a
set_option maxRecDepth 10000
open Go.Shelf
def Tryz.lays156_ren:Go.Shelf.Ren:=⟨fun|156=>121|165=>209|166=>210|169=>211|240=>241|241=>242|276=>261|277=>262|n=>n,fun|31=>26|9=>9|3=>3|4=>4|0=>0|20=>20|72=>259|76=>263|70=>257|37=>230|75=>262|127=>293|164=>310|5=>5|80=>218|n=>n,fun|n=>n⟩
theorem Tryz.lays156:Go.Proofs.Lays.n156 Tryz.prog Tryz.lays156_ren:={
 mixed:=by kernel_rfl
 f156:=Tryz.func121.trans (congrArg some (by kernel_rfl))
 f165:=Tryz.func209.trans (congrArg some (by kernel_rfl))
 f166:=Tryz.func210.trans (congrArg some (by kernel_rfl))
 f169:=Tryz.func211.trans (congrArg some (by kernel_rfl))
 f240:=Tryz.func241.trans (congrArg some (by kernel_rfl))
 f241:=Tryz.func242.trans (congrArg some (by kernel_rfl))
 f276:=Tryz.func261.trans (congrArg some (by kernel_rfl))
 f277:=Tryz.func262.trans (congrArg some (by kernel_rfl))
 t0:=Tryz.underlying0
 a0:=Tryz.isAgg0
 z0:=Tryz.sizeOf0
 v0:=Tryz.zeroValue0
 t3:=Tryz.underlying3
 a3:=Tryz.isAgg3
 z3:=Tryz.sizeOf3
 v3:=Tryz.zeroValue3
 t4:=Tryz.underlying4
 a4:=Tryz.isAgg4
 z4:=Tryz.sizeOf4
 v4:=Tryz.zeroValue4
 t9:=Tryz.underlying9
 a9:=Tryz.isAgg9
 z9:=Tryz.sizeOf9
 v9:=Tryz.zeroValue9
 t20:=Tryz.underlying20
 a20:=Tryz.isAgg20
 z20:=Tryz.sizeOf20
 v20:=Tryz.zeroValue20
 t31:=Tryz.underlying26
 a31:=Tryz.isAgg26
 z31:=Tryz.sizeOf26
 v31:=Tryz.zeroValue26
 t37:=Tryz.underlying230
 a37:=Tryz.isAgg230
 z37:=Tryz.sizeOf230
 v37:=Tryz.zeroValue230
 t70:=Tryz.underlying257
 a70:=Tryz.isAgg257
 z70:=Tryz.sizeOf257
 v70:=Tryz.zeroValue257
 t72:=Tryz.underlying259
 a72:=Tryz.isAgg259
 z72:=Tryz.sizeOf259
 v72:=Tryz.zeroValue259
 t75:=Tryz.underlying262
 a75:=Tryz.isAgg262
 z75:=Tryz.sizeOf262
 v75:=Tryz.zeroValue262
 t76:=Tryz.underlying263
 a76:=Tryz.isAgg263
 z76:=Tryz.sizeOf263
 v76:=Tryz.zeroValue263
 t127:=Tryz.underlying293
 a127:=Tryz.isAgg293
 z127:=Tryz.sizeOf293
 v127:=Tryz.zeroValue293
 t164:=Tryz.underlying310
 a164:=Tryz.isAgg310
 z164:=Tryz.sizeOf310
 v164:=Tryz.zeroValue310 }
theorem Tryz.Builder_Extra_156:Builder.Extra Tryz.prog Tryz.lays156_ren:={
 sizeBuilder:=by kernel_rfl
 liesBuilder:=by kernel_rfl
 t5:=Tryz.underlying5
 a5:=Tryz.isAgg5
 z5:=Tryz.sizeOf5
 v5:=Tryz.zeroValue5
 infoByte:=by kernel_rfl
 cellsByte:=by kernel_rfl
 sizeByte:=by kernel_rfl
 neB5:=by decide }
def Tryz.laysM171_ren:Go.Shelf.Ren:=⟨fun|171=>59|243=>171|246=>214|283=>243|284=>244|285=>245|286=>246|129=>264|317=>263|318=>265|319=>266|320=>267|337=>271|338=>272|n=>n,fun|3=>3|9=>9|2=>2|4=>4|171=>294|0=>0|53=>295|37=>230|5=>5|173=>298|212=>314|51=>300|20=>20|213=>315|46=>274|232=>323|233=>324|n=>n,fun|17=>2|18=>5|19=>6|n=>n⟩
theorem Tryz.laysM171:Go.Proofs.LaysM.n171 Tryz.prog Tryz.laysM171_ren:={
 mixed:=by kernel_rfl
 f129:=Tryz.func264.trans (congrArg some (by kernel_rfl))
 f171:=Tryz.func59.trans (congrArg some (by kernel_rfl))
 f243:=Tryz.func171.trans (congrArg some (by kernel_rfl))
 f246:=Tryz.func214.trans (congrArg some (by kernel_rfl))
 f283:=Tryz.func243.trans (congrArg some (by kernel_rfl))
 f284:=Tryz.func244.trans (congrArg some (by kernel_rfl))
 f285:=Tryz.func245.trans (congrArg some (by kernel_rfl))
 f286:=Tryz.func246.trans (congrArg some (by kernel_rfl))
 f317:=Tryz.func263.trans (congrArg some (by kernel_rfl))
 f318:=Tryz.func265.trans (congrArg some (by kernel_rfl))
 f319:=Tryz.func266.trans (congrArg some (by kernel_rfl))
 f320:=Tryz.func267.trans (congrArg some (by kernel_rfl))
 f337:=Tryz.func271.trans (congrArg some (by kernel_rfl))
 f338:=Tryz.func272.trans (congrArg some (by kernel_rfl))
 t0:=Tryz.underlying0
 a0:=Tryz.isAgg0
 z0:=Tryz.sizeOf0
 v0:=Tryz.zeroValue0
 t2:=Tryz.underlying2
 a2:=Tryz.isAgg2
 z2:=Tryz.sizeOf2
 v2:=Tryz.zeroValue2
 t3:=Tryz.underlying3
 a3:=Tryz.isAgg3
 z3:=Tryz.sizeOf3
 v3:=Tryz.zeroValue3
 t4:=Tryz.underlying4
 a4:=Tryz.isAgg4
 z4:=Tryz.sizeOf4
 v4:=Tryz.zeroValue4
 t5:=Tryz.underlying5
 a5:=Tryz.isAgg5
 z5:=Tryz.sizeOf5
 v5:=Tryz.zeroValue5
 t9:=Tryz.underlying9
 a9:=Tryz.isAgg9
 z9:=Tryz.sizeOf9
 v9:=Tryz.zeroValue9
 t20:=Tryz.underlying20
 a20:=Tryz.isAgg20
 z20:=Tryz.sizeOf20
 v20:=Tryz.zeroValue20
 t37:=Tryz.underlying230
 a37:=Tryz.isAgg230
 z37:=Tryz.sizeOf230
 v37:=Tryz.zeroValue230
 t46:=Tryz.underlying274
 a46:=Tryz.isAgg274
 z46:=Tryz.sizeOf274
 v46:=Tryz.zeroValue274
 t51:=Tryz.underlying300
 a51:=Tryz.isAgg300
 z51:=Tryz.sizeOf300
 v51:=Tryz.zeroValue300
 t53:=Tryz.underlying295
 a53:=Tryz.isAgg295
 z53:=Tryz.sizeOf295
 v53:=Tryz.zeroValue295
 t171:=Tryz.underlying294
 a171:=Tryz.isAgg294
 z171:=Tryz.sizeOf294
 v171:=Tryz.zeroValue294
 t173:=Tryz.underlying298
 a173:=Tryz.isAgg298
 z173:=Tryz.sizeOf298
 v173:=Tryz.zeroValue298
 t212:=Tryz.underlying314
 a212:=Tryz.isAgg314
 z212:=Tryz.sizeOf314
 v212:=Tryz.zeroValue314
 t213:=Tryz.underlying315
 a213:=Tryz.isAgg315
 z213:=Tryz.sizeOf315
 t232:=Tryz.underlying323
 a232:=Tryz.isAgg323
 z232:=Tryz.sizeOf323
 v232:=Tryz.zeroValue323
 t233:=Tryz.underlying324
 a233:=Tryz.isAgg324
 z233:=Tryz.sizeOf324
 v233:=Tryz.zeroValue324
 g17:=by kernel_rfl
 g18:=by kernel_rfl
 g19:=by kernel_rfl
 i0:=by kernel_rfl
 i2:=by kernel_rfl
 i3:=by kernel_rfl
 i4:=by kernel_rfl
 i5:=by kernel_rfl
 i9:=by kernel_rfl
 i20:=by kernel_rfl
 i37:=by kernel_rfl
 i46:=by kernel_rfl
 i51:=by kernel_rfl
 i53:=by kernel_rfl
 i171:=by kernel_rfl
 i173:=by kernel_rfl
 i212:=by kernel_rfl
 i232:=by kernel_rfl
 i233:=by kernel_rfl
 m17:=by kernel_rfl
 m18:=by kernel_rfl
 m19:=by kernel_rfl }
theorem Qkr {w:World}{F:Nat->Prop}(h:GAt w F 2 pow10D):Lib.TabIs Tryz.prog w "internal/strconv.uint64pow10" .u64 Lib.pow10Tab:=by
 obtain⟨⟨l,m,f⟩,cs,t,fz,d,g⟩:=h;have j:Tryz.prog.globalNamed "internal/strconv.uint64pow10"=some 2:=by kernel_rfl
 unfold Lib.TabIs World.var?;rw[j];simp only[jBj,d,jIj];apply Array.ext
 ·rw[g];simp[pow10D,D.cells]
 ·intro i b c;have hi:i<Lib.pow10Tab.length:=by simpa using c
  have hc:pow10D.cells[i]?=some (.v (.int .u64 Lib.pow10Tab[i])):=by simp[pow10D,D.cells,hi]
  obtain⟨y,a,k⟩:=f i _ hc;rw[dr_v k] at a;unfold World.cell? at a;simp only[d,Nat.zero_add] at a;have e:cs[i]?=some (Value.int IntKind.u64 Lib.pow10Tab[i]):=a;rw[Array.getElem?_eq_getElem b] at e;rw[Option.some.inj e];simp
def Wr (n:Nat)(a:Int):Option jSj:=if Qg a then some ⟨(Lib.itoa a).toArray⟩ else none
theorem Yq {n a r}(h:Wr n a=some r):Computes cx 59 [I a] (.v (.string r)):=by
 unfold Wr at h;split at h;case isFalse=>cases h
 rename_i hi;cases h;intro w F vs j b f c;match vs,f with
 | [x],_ =>
  rw[dr_v (c 0 _ _ rfl rfl)];have i:=Qkr (b 2 _ rfl);refine(Any.strconv_Itoa Tryz.laysM171 a hi.1 hi.2 w i).mono ?_;rintro e w' ⟨d,k,l,rfl⟩;refine⟨_,d,.v _,⟨(fun h=>by cases h),rfl,rfl,rfl,?_,fun r g _=>?_⟩⟩
  ·simp[Sort.grow,World.drewN]
  ·simp only[Sort.grow,World.drewN];rw[Array.getElem?_append_left g]
def jx:jVj->Option (List jSj)
 | []=>some []
 | d::l=>match JY d,jx l with
  | some x,some xs=>some (x::xs)
  | _,_=>none
theorem Qa0:∀{l:jVj} {xs:List jSj},jx l=some xs->l=xs.map fun x=>.v (.string x)
 | [],xs,h=>by cases h;rfl
 | d::l,xs,h=>by
  unfold jx at h;split at h
  ·rename_i x ys a b;cases h;rw[UM a,Qa0 b];rfl
  ·cases h
def QjE (xs:List jSj)(sep:jSj):jSj:=⟨(Lib.join (xs.map (·.data.toList)) sep.data.toList).toArray⟩
def ZI (n:Nat)(l:jVj)(sep:jSj):Option jSj :=
 (jx l).bind fun xs=>if xs.length<=140737488355328/\(Lib.join (xs.map (·.data.toList)) sep.data.toList).length<=140737488355328 then some (QjE xs sep) else none
theorem VY {n:Nat}{full:Bool}{sz:Nat}{l:jVj}{sep r:jSj}(h:ZI n l sep=some r):Computes cx 121 [.lst full sz l,.v (.string sep)] (.v (.string r)):=by
 unfold ZI at h;obtain⟨xs,G,h⟩:=Wh h;split at h;case isFalse=>cases h
 rename_i hi;cases h;have k:=Qa0 G;intro w F vs L M m p;match vs,m with
 | [a,b],_ =>
  rw[dr_v (p 1 _ _ rfl rfl)];have y:=p 0 _ _ rfl rfl;cases y with
  | lst _ _ _ s cap blk off ys N hc f C E g =>
   cases l with
   | nil =>
    cases xs with
    | cons x xs=>simp at k
    | nil =>
     refine(Any.strings_Join_none Tryz.lays156 Tryz.Builder_Extra_156 s cap sep w).mono ?_;rintro e w' ⟨i,rfl⟩;exact⟨_,i,.v _,Ext.refl _ _⟩
   | cons o l0 =>
    obtain⟨t,K,u⟩:=f (by simp);subst t;have d:(o::l0).length=xs.length:=by rw[k];simp
    rw[d];refine(Any.strings_Join Tryz.lays156 Tryz.Builder_Extra_156 blk off cap xs sep w ?_ u hi.1 (by omega) hi.2).mono ?_
    ·intro j x A;have c : (o::l0)[j]?=some (.v (.string x)):=by rw[k];simp[A]
     have H:sz=1:=by have:=C j _ c;simpa[D.cells] using this.symm
     subst H;have q:=(E j _ 0 _ c rfl).1;have J:=dr_v (g j _ 0 _ c rfl);rw[J] at q;simpa using q
    ·rintro e w' ⟨i,z⟩;exact⟨_,i,.v _,Qbv z⟩
def Tryz.lays160_ren:Go.Shelf.Ren:=⟨fun|160=>79|232=>184|231=>183|227=>185|234=>187|233=>186|236=>189|235=>188|228=>226|271=>229|151=>228|197=>227|120=>251|152=>250|260=>249|137=>268|119=>269|224=>224|225=>223|217=>222|266=>247|n=>n,fun|9=>9|4=>4|3=>3|5=>5|117=>235|116=>234|0=>0|124=>238|21=>21|105=>276|46=>274|119=>317|139=>320|138=>319|n=>n,fun|3=>3|4=>4|n=>n⟩
theorem Tryz.lays160:Go.Proofs.Lays.n160 Tryz.prog Tryz.lays160_ren:={
 mixed:=by kernel_rfl
 f119:=Tryz.func269.trans (congrArg some (by kernel_rfl))
 f120:=Tryz.func251.trans (congrArg some (by kernel_rfl))
 f137:=Tryz.func268.trans (congrArg some (by kernel_rfl))
 f151:=Tryz.func228.trans (congrArg some (by kernel_rfl))
 f152:=Tryz.func250.trans (congrArg some (by kernel_rfl))
 f160:=Tryz.func79.trans (congrArg some (by kernel_rfl))
 f197:=Tryz.func227.trans (congrArg some (by kernel_rfl))
 f217:=Tryz.func222.trans (congrArg some (by kernel_rfl))
 f224:=Tryz.func224.trans (congrArg some (by kernel_rfl))
 f225:=Tryz.func223.trans (congrArg some (by kernel_rfl))
 f227:=Tryz.func185.trans (congrArg some (by kernel_rfl))
 f228:=Tryz.func226.trans (congrArg some (by kernel_rfl))
 f231:=Tryz.func183.trans (congrArg some (by kernel_rfl))
 f232:=Tryz.func184.trans (congrArg some (by kernel_rfl))
 f233:=Tryz.func186.trans (congrArg some (by kernel_rfl))
 f234:=Tryz.func187.trans (congrArg some (by kernel_rfl))
 f235:=Tryz.func188.trans (congrArg some (by kernel_rfl))
 f236:=Tryz.func189.trans (congrArg some (by kernel_rfl))
 f260:=Tryz.func249.trans (congrArg some (by kernel_rfl))
 f266:=Tryz.func247.trans (congrArg some (by kernel_rfl))
 f271:=Tryz.func229.trans (congrArg some (by kernel_rfl))
 t0:=Tryz.underlying0
 a0:=Tryz.isAgg0
 z0:=Tryz.sizeOf0
 v0:=Tryz.zeroValue0
 t3:=Tryz.underlying3
 a3:=Tryz.isAgg3
 z3:=Tryz.sizeOf3
 v3:=Tryz.zeroValue3
 t4:=Tryz.underlying4
 a4:=Tryz.isAgg4
 z4:=Tryz.sizeOf4
 v4:=Tryz.zeroValue4
 t5:=Tryz.underlying5
 a5:=Tryz.isAgg5
 z5:=Tryz.sizeOf5
 v5:=Tryz.zeroValue5
 t9:=Tryz.underlying9
 a9:=Tryz.isAgg9
 z9:=Tryz.sizeOf9
 v9:=Tryz.zeroValue9
 t21:=Tryz.underlying21
 a21:=Tryz.isAgg21
 z21:=Tryz.sizeOf21
 v21:=Tryz.zeroValue21
 t46:=Tryz.underlying274
 a46:=Tryz.isAgg274
 z46:=Tryz.sizeOf274
 v46:=Tryz.zeroValue274
 t105:=Tryz.underlying276
 a105:=Tryz.isAgg276
 z105:=Tryz.sizeOf276
 v105:=Tryz.zeroValue276
 t116:=Tryz.underlying234
 a116:=Tryz.isAgg234
 z116:=Tryz.sizeOf234
 t117:=Tryz.underlying235
 a117:=Tryz.isAgg235
 z117:=Tryz.sizeOf235
 v117:=Tryz.zeroValue235
 t119:=Tryz.underlying317
 a119:=Tryz.isAgg317
 z119:=Tryz.sizeOf317
 t124:=Tryz.underlying238
 a124:=Tryz.isAgg238
 z124:=Tryz.sizeOf238
 v124:=Tryz.zeroValue238
 t138:=Tryz.underlying319
 a138:=Tryz.isAgg319
 z138:=Tryz.sizeOf319
 v138:=Tryz.zeroValue319
 t139:=Tryz.underlying320
 a139:=Tryz.isAgg320
 z139:=Tryz.sizeOf320
 v139:=Tryz.zeroValue320
 g3:=by kernel_rfl
 g4:=by kernel_rfl }
def Tryz.lays217_ren:Go.Shelf.Ren:=⟨fun|217=>222|266=>247|n=>n,fun|9=>9|5=>5|3=>3|n=>n,fun|n=>n⟩
theorem Tryz.lays217:Go.Proofs.Lays.n217 Tryz.prog Tryz.lays217_ren:={
 mixed:=by kernel_rfl
 f217:=Tryz.func222.trans (congrArg some (by kernel_rfl))
 f266:=Tryz.func247.trans (congrArg some (by kernel_rfl))
 t3:=Tryz.underlying3
 a3:=Tryz.isAgg3
 z3:=Tryz.sizeOf3
 v3:=Tryz.zeroValue3
 t5:=Tryz.underlying5
 a5:=Tryz.isAgg5
 z5:=Tryz.sizeOf5
 v5:=Tryz.zeroValue5
 t9:=Tryz.underlying9
 a9:=Tryz.isAgg9
 z9:=Tryz.sizeOf9
 v9:=Tryz.zeroValue9 }
def Tryz.lays138_ren:Go.Shelf.Ren:=⟨fun|138=>206|195=>239|218=>240|143=>207|219=>182|217=>222|225=>223|224=>224|267=>225|266=>247|314=>248|n=>n,fun|9=>9|3=>3|4=>4|5=>5|0=>0|46=>274|146=>301|51=>300|n=>n,fun|1=>0|n=>n⟩
theorem Tryz.lays138:Go.Proofs.Lays.n138 Tryz.prog Tryz.lays138_ren:={
 mixed:=by kernel_rfl
 f138:=Tryz.func206.trans (congrArg some (by kernel_rfl))
 f143:=Tryz.func207.trans (congrArg some (by kernel_rfl))
 f195:=Tryz.func239.trans (congrArg some (by kernel_rfl))
 f217:=Tryz.func222.trans (congrArg some (by kernel_rfl))
 f218:=Tryz.func240.trans (congrArg some (by kernel_rfl))
 f219:=Tryz.func182.trans (congrArg some (by kernel_rfl))
 f224:=Tryz.func224.trans (congrArg some (by kernel_rfl))
 f225:=Tryz.func223.trans (congrArg some (by kernel_rfl))
 f266:=Tryz.func247.trans (congrArg some (by kernel_rfl))
 f267:=Tryz.func225.trans (congrArg some (by kernel_rfl))
 f314:=Tryz.func248.trans (congrArg some (by kernel_rfl))
 t0:=Tryz.underlying0
 a0:=Tryz.isAgg0
 z0:=Tryz.sizeOf0
 v0:=Tryz.zeroValue0
 t3:=Tryz.underlying3
 a3:=Tryz.isAgg3
 z3:=Tryz.sizeOf3
 v3:=Tryz.zeroValue3
 t4:=Tryz.underlying4
 a4:=Tryz.isAgg4
 z4:=Tryz.sizeOf4
 v4:=Tryz.zeroValue4
 t5:=Tryz.underlying5
 a5:=Tryz.isAgg5
 z5:=Tryz.sizeOf5
 v5:=Tryz.zeroValue5
 t9:=Tryz.underlying9
 a9:=Tryz.isAgg9
 z9:=Tryz.sizeOf9
 v9:=Tryz.zeroValue9
 t46:=Tryz.underlying274
 a46:=Tryz.isAgg274
 z46:=Tryz.sizeOf274
 v46:=Tryz.zeroValue274
 t51:=Tryz.underlying300
 a51:=Tryz.isAgg300
 z51:=Tryz.sizeOf300
 v51:=Tryz.zeroValue300
 t146:=Tryz.underlying301
 a146:=Tryz.isAgg301
 z146:=Tryz.sizeOf301
 v146:=Tryz.zeroValue301
 g1:=by kernel_rfl }
theorem QbE {f:FuncId}{g i y:Value}(h:∀w:World,Calls Tryz.prog f #[g,i] w fun e w'=>e=.returned y/\Below w.heap.size w w'):Computes cx f [.v g,.v i] (.v y):=by
 intro w F vs k l j c;match vs,j with
 | [a,b],_ =>
  rw[dr_v (c 0 _ _ rfl rfl),dr_v (c 1 _ _ rfl rfl)];exact(h w).mono fun e w' d=>⟨_,d.1,.v _,Qbv d.2⟩
theorem Qao {w w' : World}(h:w'=w):Below w.heap.size w w':=by rw[h];exact Below.refl _ _
def Un (n:Nat)(s:jSj)(c:Int):Option Int:=some (Lib.indexByte s.data.toList c.toNat.toUInt8)
theorem ko {n s c r}(h:Un n s c=some r):Computes cx 222 [.v (.string s),.v (.int .u8 c)] (.v (.int .i64 r)):=by simp only[Un,jIj] at h;subst h;exact QbE fun w=>(Any.stringslite_IndexByte Tryz.lays217 s c w).mono fun e w' a=>⟨a.1,Qao a.2⟩
def UC (n:Nat)(s sep:jSj):Option Int:=match sep with
 | ⟨⟨[c]⟩⟩=>some (Lib.countByte s.data.toList c)
 | _=>none
theorem yA {n s sep r}(h:UC n s sep=some r):Computes cx 206 [.v (.string s),.v (.string sep)] (.v (.int .i64 r)):=by
 unfold UC at h;split at h;case h_2=>cases h
 rename_i c;simp only[jIj] at h;subst h;exact QbE fun w=>(Any.strings_Count_one Tryz.lays138 s c w).mono fun e w' a=>⟨a.1,Qao a.2⟩
def QkW (n:Nat)(s cutset:jSj):Option jSj :=
 if s.size<=1000000/\cutset.size<=1000/\cutset.data.toList.all (fun b=>decide (b.toNat<128))=true then some ⟨(Lib.trimS s.data.toList cutset.data.toList).toArray⟩ else none
theorem Qlr {n s cutset r}(h:QkW n s cutset=some r):Computes cx 79 [.v (.string s),.v (.string cutset)] (.v (.string r)):=by
 unfold QkW at h;split at h;case isFalse=>cases h
 rename_i hi;cases h;exact QbE fun w=>Any.strings_Trim_laid Tryz.lays160 (by kernel_rfl) s cutset w (by omega) (by omega) (ascii_of_all hi.2.2)
open Go
abbrev gLD:D:=.agg [I 0,.lst true 4 [.agg [.v (.string ⟨#[102]⟩),.v (.string ⟨#[102,111,99,117,115]⟩),I 500,I 500],.agg [.v (.string ⟨#[97]⟩),.v (.string ⟨#[115,116,97,110,100,98,121]⟩),I 400,I 500]],.lst true 3 [.agg [I 0,I 1,I 2]],.lst true 0 []]
theorem runC {n:Nat}{f:FuncId}{a:jVj}{r:D}{ob:List Prop}(h:Qfu false n cx f a []=some (r,ob))(b:All ob):Computes cx f a r:=Qcv noAsk kX h b
noncomputable def cxO:Cx:={ P:=cx.P,G:=cx.G,O:=fun f=>Nat.beq f 68 }
theorem Qtx:NoAsk cxO:=⟨noAsk.ask,fun f g b r a c=>by cases a⟩
theorem runO {f:FuncId}{a:jVj}{r:D}{ob:List Prop}(orc:List Orc)(h:Qfu false 100000 cxO f a orc=some (r,ob))(b:All ob):Computes cx f a r:=Qcv (cx:=cxO) Qtx kX h b
abbrev nNil (x:D)(l:jVj):Prop:=x::l=[]->False
theorem nNo {x:D}{l:jVj}:nNil x l:=fun h=>by cases h
def QpQ (n:Nat):Option (jVj×Int×Int):=some ([I 600],300,0)
theorem Qrb {n r}(h:QpQ n=some r):Computes cx 25 [.lst true 1 [I 0],I 300,.lst true 1 [.lst false 1 [],.lst false 1 []]] (.tup [.lst false 1 r.1,I r.2.1,I r.2.2]):=by cases h;exact runC (n:=100000) (ob:=[nNil (I 0) []]) (by kernel_rfl) ⟨nNo,trivial⟩
def Qow (n:Nat):Option Int:=some 0
theorem Qqx {n r}(h:Qow n=some r):Computes cx 83 [gLD] (I r):=by cases h;exact runC (n:=100000) (ob:=[]) (by kernel_rfl) trivial
theorem at01 {d:Type}{a:Int}{x y r:d}(h:(if a=0 then some x else if a=1 then some y else none)=some r):(a=0/\x=r)\/(a=1/\y=r):=by
 split at h
 ·rename_i b;exact .inl ⟨b,Option.some.inj h⟩
 ·split at h
  ·rename_i c;exact .inr ⟨c,Option.some.inj h⟩
  ·cases h
def QoH (n:Nat)(a:Int):Option Int:=if a=0 then some 0 else if a=1 then some 0 else none
theorem QpW {n a r}(h:QoH n a=some r):Computes cx 193 [gLD,I a] (I r):=by
 obtain⟨rfl,rfl⟩|⟨rfl,rfl⟩:=at01 h
 ·exact runC (n:=100000) (ob:=[]) (by kernel_rfl) trivial
 ·exact runC (n:=100000) (ob:=[]) (by kernel_rfl) trivial
def QoX (n:Nat)(a:Int):Option Bool:=if a=0 then some true else if a=1 then some true else none
theorem Qri {n a r}(h:QoX n a=some r):Computes cx 93 [gLD,I a] (B r):=by
 obtain⟨rfl,rfl⟩|⟨rfl,rfl⟩:=at01 h
 ·exact runC (n:=100000) (ob:=[]) (by kernel_rfl) trivial
 ·exact runC (n:=100000) (ob:=[]) (by kernel_rfl) trivial
def QoF (n:Nat)(a:Int):Option Int:=if a=0 then some 1 else if a=1 then some 1 else none
theorem Qpy {n a r}(h:QoF n a=some r):Computes cx 87 [gLD,I a] (I r):=by
 obtain⟨rfl,rfl⟩|⟨rfl,rfl⟩:=at01 h
 ·exact runO (List.replicate 20 (.br true)) (ob:=[nNil (I 0) [I 1],nNil (I 0) [],nNil (I 0) [I 1],nNil (I 0) []]) (by kernel_rfl) ⟨nNo,nNo,nNo,nNo,trivial⟩
 ·exact runO (List.replicate 20 (.br true)) (ob:=[nNil (I 1) [],nNil (I 1) [I 0],nNil (I 1) []]) (by kernel_rfl) ⟨nNo,nNo,nNo,trivial⟩
def Qnn (n:Nat)(a b:Int):Option Int:=if a=0 then(if b=0 then none else if b=1 then some 2 else none) else if a=1 then(if b=0 then some 2 else none) else none
theorem Qn1 {n a b r}(h:Qnn n a b=some r):Computes cx 194 [gLD,I a,I b] (I r):=by
 unfold Qnn at h;split at h
 ·rename_i c;split at h
  ·cases h
  ·split at h
   ·rename_i d;cases h;subst c;subst d;exact runC (n:=100000) (ob:=[]) (by kernel_rfl) trivial
   ·cases h
 ·split at h
  ·rename_i c;split at h
   ·rename_i d;cases h;subst c;subst d;exact runC (n:=100000) (ob:=[]) (by kernel_rfl) trivial
   ·cases h
  ·cases h
def QtF:jVj:=[.tup [.v (.int .i64 0),.agg [.lst false 1 [I 0],I 0]],.tup [.v (.int .i64 1),.agg [.lst false 1 [I 0,I 1],I 2]]]
def QtE:jVj:=[.tup [.v (.int .i64 1),.agg [.lst false 1 [I 1],I 0]],.tup [.v (.int .i64 0),.agg [.lst false 1 [I 1,I 0],I 2]]]
def Qp6 (n:Nat)(a:Int):Option (jVj):=if a=0 then some QtF else if a=1 then some QtE else none
theorem Qrh {n a r}(h:Qp6 n a=some r):Computes cx 195 [gLD,I a] (.mp r):=by
 obtain⟨rfl,rfl⟩|⟨rfl,rfl⟩:=at01 h
 ·exact runO (.ix (-12)::.ix (-12)::List.replicate 20 (.br true)) (ob:=[nNil (I 0) [I 1],nNil (I 0) [],nNil (I 0) [I 1],nNil (I 0) []]) (by kernel_rfl) ⟨nNo,nNo,nNo,nNo,trivial⟩
 ·exact runO (.ix (-12)::.ix (-12)::List.replicate 20 (.br true)) (ob:=[nNil (I 1) [],nNil (I 1) [I 0],nNil (I 1) []]) (by kernel_rfl) ⟨nNo,nNo,nNo,trivial⟩
def Qon (n:Nat)(s:jSj):Option Int:=if s.data.toList=[102] then some 0 else if s.data.toList=[97] then some 1 else none
theorem Qrc {n s r}(h:Qon n s=some r):Computes cx 92 [gLD,.v (.string s)] (I r):=by
 have ext:∀{l:List UInt8},s.data.toList=l->s=⟨l.toArray⟩:=fun {l} h=>by cases s;subst h;simp
 unfold Qon at h;split at h
 ·rename_i a;cases h;rw[ext a];exact runC (n:=100000) (ob:=[]) (by kernel_rfl) trivial
 ·split at h
  ·rename_i b;cases h;rw[ext b];exact runC (n:=100000) (ob:=[]) (by kernel_rfl) trivial
  ·cases h
def QmR (n:Nat)(l:jVj):Option (jVj):=if l.length*8<=140737488355328 then some l else none
theorem QtL (a:Addr)(c:Nat)(w:World):(binOp BinOp.eql 33 (Value.slice (some a) 0 c) (Value.slice none 0 0)).run Tryz.prog w=.ok (.bool false) w:=by have:=run_equal_slice_nil (P:=Tryz.prog) w 33 3 (some a) 0 c Tryz.underlying33;unfold binOp;simp only[Sem.run_bind,this,Result.andThen_ok];rfl
set_option maxHeartbeats 400000 in
theorem Qr6 (a : Addr) (c : Nat) (w : World) :
  Calls Tryz.prog 68 #[.slice (some a) 0 c] w fun e w' => (∃ b d, e = .returned (.slice b 0 d)) ∧ Below w.heap.size w w' := by
 go_enter Tryz.func68, Tryz.ntmps68
 go_wp2
 rw [QtL, Result.andThen_ok, Oper.upon_value]
 go_wp2
 go_ret
 exact ⟨⟨_, _, rfl⟩, (Below.refl _ _).alloc (jLj _) _⟩
def Tryz.laysCl68_ren:Go.Shelf.Ren:=⟨fun|41=>68|n=>n,fun|22=>33|23=>3|4=>4|n=>n,fun|n=>n⟩
theorem Tryz.laysCl68:Go.Proofs.SlLaysE0.n41 Tryz.prog Tryz.laysCl68_ren:={
 mixed:=by kernel_rfl
 f41:=⟨Tryz.f68.name,by decide,Tryz.func68.trans (congrArg some (by kernel_rfl))⟩
 t4:=Tryz.underlying4
 a4:=Tryz.isAgg4
 z4:=Tryz.sizeOf4
 v4:=Tryz.zeroValue4
 t22:=Tryz.underlying33
 a22:=Tryz.isAgg33
 z22:=Tryz.sizeOf33
 v22:=Tryz.zeroValue33 }
theorem QnS {n l r}(h:QmR n l=some r):Computes cx 68 [.lst false 1 l] (.lst false 1 r):=by
 unfold QmR at h;split at h;case isFalse=>cases h
 rename_i hi;cases h;intro w F vs hF hG O m;match vs,O with
 | [a],_ =>
  have ha:=m 0 _ _ rfl rfl;cases ha with
  | lst _ _ _ W cap blk off ys hf hc G S P J =>
   by_cases N:l=[]
   ·subst N;cases W with
    | none =>
     refine(AnyE.slices_Clone_nil Tryz.laysCl68 0 cap w).mono ?_;rintro e w' ⟨x,rfl⟩;exact⟨_,x,.lst false 1 [] none 0 0 0 (fun _=>.nilIface) (fun h=>by cases h) (jLj _) (fun h=>absurd rfl h) (by simp) (by simp) (by simp),Ext.refl _ _⟩
    | some a =>
     refine(Qr6 a cap w).mono ?_;rintro e w' ⟨⟨V,X,x⟩,v⟩;exact⟨_,x,.lst false 1 [] V X 0 0 (fun _=>.nilIface) (fun h=>by cases h) (Nat.zero_le _) (fun h=>absurd rfl h) (by simp) (by simp) (by simp),Qbv v⟩
   ·obtain⟨Z,h2,h3⟩:=G N;subst Z;have f:∀(i:Nat) (d:D),l[i]?=some d->∃c,d.cells=[c]:=by
     intro i d m;have:=S i d m;match hdc:d.cells,this with
     | [c],_=>exact⟨c,rfl⟩
    have q:((Tryz.prog.info? 3).map fun i=>(i.zero,i.size,i.bytes))=some (some (.int .i64 0),1,8):=by kernel_rfl
    obtain⟨i0,U,A⟩:=Option.map_eq_some_iff.1 q;simp only[jPj] at A;have M:=AnyE.slices_Clone Tryz.laysCl68 i0 (.int .i64 0) 1 8 U A.1 A.2.1 A.2.2 rfl (by decide) (fun w=>(Go.run_sizeOf w U).trans (by rw[show Tryz.prog.cellsOf 3=1 from by kernel_rfl])) blk off l.length cap ((List.range l.length).map ys) w (by simp) (by unfold maxLen;omega) hi
     (fun j u o=>by rw[List.getElem?_map] at o;simp only[Option.map_eq_some_iff] at o;obtain⟨k,M,rfl⟩:=o;obtain⟨p,rfl⟩:=jGj M;simp only[List.length_range] at p;have m:=jej p;obtain⟨c,hc⟩:=f _ _ m;have:=(P _ _ 0 c m (by rw[hc];rfl)).1;simpa using this)
     (fun u T=>by simp only[List.mem_map,List.mem_range] at T;obtain⟨k,p,rfl⟩:=T;have m:=jej p;obtain⟨c,hc⟩:=f _ _ m;have:=(P _ _ 0 c m (by rw[hc];rfl)).2;rw[Nat.mul_one,Nat.add_zero] at this;revert this;cases ys k<;>simp[SX.one,Value.oneCell'])
    refine M.mono ?_;rintro e w' ⟨v',x,⟨Q,y⟩,a1,v⟩;obtain⟨_,Y⟩|⟨g,t,C,rfl,hg,b,hn,hm,a2,s⟩:=y
    ·exact absurd (List.length_eq_zero_iff.1 Y) N
    ·have hx:=Qbv v;refine⟨_,x,.lst false 1 l _ t g 0 ys (fun h=>by cases h) hn (fun _=>⟨rfl,fun E=>by have:=hF g E;omega,?_⟩) S ?_ ?_,hx⟩
     ·obtain h|h:=Nat.lt_or_ge g w'.heap.size
      ·exact h
      ·rw[Array.getElem?_eq_none h] at b;cases b
     ·intro i d j c m o;refine⟨?_,(P i d j c m o).2⟩;obtain⟨c0,H⟩:=f _ _ m;have L:j=0:=by
       rw[H] at o;cases j with
       | zero=>rfl
       | succ j=>simp at o
      subst L;have K:i<l.length:=(jGj m).1;have z:(List.take (l.length*1) C.toList)[i]?=some (ys i):=by rw[s];simp[K]
      rw[List.getElem?_take] at z;split at z
      ·unfold World.cell?;simp only[b];simpa using z
      ·cases z
     ·intro i d j c m o;exact(J i d j c m o).ext v.size (fun r hr _=>v.block r hr) (fun _ _ h=>h)
set_option maxHeartbeats 4000000
abbrev b0:Orc:=.br false
abbrev b1:Orc:=.br true
def no:Nat->List Orc->List Orc
 | 0,l=>l
 | n+1,l=>.no::no n l
theorem rf {f:FuncId}{a:jVj}{r:D}{ob:List Prop}(orc:List Orc)(b:All ob)(h:Qfu true 100 cx f a orc=some (r,ob):=by kernel_rfl):Computes cx f a r:=run h b
theorem rfO {f:FuncId}{a:List AV}{i:Option (List OC)}(b:Nat){ks:List Bool}{r:AV}{cs:List OC}(orc:List Orc){ob:List Prop}(c:All ob)(h:Qhw 100 cx f a i b cs ks orc=some (r,cs,ob):=by kernel_rfl):ComputesO cx f a i r cs ks:=QiP c h
structure Lp (S E:Type) where
 T:S->List (Nat×AV)
 H:S->List (Nat×Blk)
 X:E->Ex
 Y:E->List (Nat×AV)
 Z:E->List (Nat×Blk)
abbrev Rl {S E:Type}(c:Code)(a vis:Nat)(rnd:Bool)(L:Lp S E)(s:S)(r:S⊕E):Prop:=Rd cx c a vis rnd L.T L.H L.X L.Y L.Z s r
theorem rn {S E:Type}{c:Code}{d vis:Nat}{rnd:Bool}{L:Lp S E}{s s' : S}(e:Nat)(orc:List Orc)(f b a:List Nat){ob:List Prop}(g:All ob)(h:Xk 100 cx c d vis rnd e (L.T s) (L.H s) orc f b a=some (.normal,L.T s',L.H s',ob):=by kernel_rfl):Rl c d vis rnd L s (.inl s'):=⟨100,e,orc,f,b,a,Qdc g h⟩
theorem rx {S E:Type}{c:Code}{d vis:Nat}{rnd:Bool}{L:Lp S E}{s:S}{e:E}(f:Nat)(orc:List Orc)(g b a:List Nat){ob:List Prop}(i:All ob)(h:Xk 100 cx c d vis rnd f (L.T s) (L.H s) orc g b a=some (L.X e,L.Y e,L.Z e,ob):=by kernel_rfl)(j:L.X e≠.normal:=by nofun):Rl c d vis rnd L s (.inr e):=⟨⟨100,f,orc,g,b,a,Qdc i h⟩,j⟩
theorem ro (e:TypeId){b n:Nat}(h:Wi b n)(c:cx.bytes e=some b:=by kernel_rfl)(a:0<b:=by decide):room cx e n:=Qfv c a h
theorem Q2 {b:Type}{un:D->Option b}{enc:b->D}{es:jVj}{i:Int}{x:b}{l:List Prop}(a:∀{d x},un d=some x->d=enc x)(h:el un es i=some x)(t:All l):All ((0<=i)::(nth es i.toNat=some (enc x))::l):=Qb (Qf0 a h).1 (Qb (Qf0 a h).2 t)
theorem io {a:Type}{p:Prop}[Decidable p]{x y:Option a}{r:a}(h:(if p then x else y)=some r):(p/\x=some r)\/(¬p/\y=some r):=by
 by_cases hp:p
 · exact .inl ⟨hp,it h hp⟩
 · exact .inr ⟨hp,jf h hp⟩
abbrev jZj:D:=.agg [I 0,I 0,B false,B false,I 0,I 0,I 0,.lst true 0 [],.lst true 0 [],.lst true 0 []]
abbrev jOj:Type:=List Orc
abbrev Qa (c d:jVj)(e f:Int)(g h:Bool)(i j k:Int)(l a b:jVj):List OC:=[.row 5 c,.row 5 d,.dat (I e),.dat (I f),.dat (B g),.dat (B h),.dat (I i),.dat (I j),.dat (I k),.row 1 l,.row 6 a,.row 7 b]
abbrev Qa' (x:jVj×jVj×Int×Int×Bool×Bool×Int×Int×Int×jVj×jVj×jVj):List OC:=Qa x.1 x.2.1 x.2.2.1 x.2.2.2.1 x.2.2.2.2.1 x.2.2.2.2.2.1 x.2.2.2.2.2.2.1 x.2.2.2.2.2.2.2.1 x.2.2.2.2.2.2.2.2.1 x.2.2.2.2.2.2.2.2.2.1 x.2.2.2.2.2.2.2.2.2.2.1 x.2.2.2.2.2.2.2.2.2.2.2
abbrev QI (a b:Int)(c d:Bool)(e f g:Int)(h i j:jVj):List OC:=[.dat (I a),.dat (I b),.dat (B c),.dat (B d),.dat (I e),.dat (I f),.dat (I g),.row 1 h,.row 6 i,.row 7 j]
abbrev QI' (x:Int×Int×Bool×Bool×Int×Int×Int×jVj×jVj×jVj):List OC:=QI x.1 x.2.1 x.2.2.1 x.2.2.2.1 x.2.2.2.2.1 x.2.2.2.2.2.1 x.2.2.2.2.2.2.1 x.2.2.2.2.2.2.2.1 x.2.2.2.2.2.2.2.2.1 x.2.2.2.2.2.2.2.2.2
abbrev jv:List Bool:=[true,true,true,true,true,true,true,true,true,true]
abbrev Zj:List Bool:=[true,true,true,true,true,true,true,true,true,true,true,true]
def VQ (x:Int×jSj×jVj×jVj×jSj):D:=.agg [I x.1,Qe x.2.1,.lst false 1 x.2.2.1,.lst false 1 x.2.2.2.1,Qe x.2.2.2.2]
def Wc:D->Option (Int×jSj×jVj×jVj×jSj)
 | .agg [c0,c1,c2,c3,c4]=>(YZ .i64 c0).bind fun a=>(JY c1).bind fun b=>(jt 1 c2).bind fun c=>(jt 1 c3).bind fun d=>(JY c4).bind fun e=>some (a,b,c,d,e)
 | _=>none
theorem V6 {d:D}{x:Int×jSj×jVj×jVj×jSj}(h:Wc d=some x):d=VQ x:=by
 unfold Wc at h;split at h;case h_2=>cases h
 obtain⟨m,g,h⟩:=Wh h;obtain⟨n,i,h⟩:=Wh h;obtain⟨o,j,h⟩:=Wh h;obtain⟨p,k,h⟩:=Wh h;obtain⟨q,l,h⟩:=Wh h;cases h;have a:=Vj g;have b:=UM i;have c:=qK j;have e:=qK k;have f:=UM l;rw[a,b,c,e,f];rfl
def GB:jVj:=[.tup [Qe ⟨#[115,101,99,116,111,114]⟩,.agg [Qe ⟨#[83]⟩,I 1,.fn (.func 122) [] [],.fn (.func 123) [] []]],.tup [Qe ⟨#[109,105,114,114,111,114]⟩,.agg [Qe ⟨#[77,115]⟩,I 2,.fn (.func 124) [] [],.fn (.func 125) [] []]],.tup [Qe ⟨#[115,111,105,108]⟩,.agg [Qe ⟨#[109]⟩,I 2,.fn (.func 126) [] [],.fn (.func 212) [] [.ref (.fn (.func 128) [] []) 0]]],.tup [Qe ⟨#[99,108,101,97,110]⟩,.agg [Qe ⟨#[109]⟩,I 1,.fn (.func 129) [] [],.fn (.func 212) [] [.ref (.fn (.func 130) [] []) 0]]],.tup [Qe ⟨#[100,101,102,101,99,116]⟩,.agg [Qe ⟨#[109]⟩,I 1,.fn (.func 213) [] [.ref (.fn (.func 132) [] []) 0],.fn (.func 212) [] [.ref (.fn (.func 133) [] []) 0]]],.tup [Qe ⟨#[114,101,112,97,105,114]⟩,.agg [Qe ⟨#[109]⟩,I 1,.fn (.func 213) [] [.ref (.fn (.func 134) [] []) 0],.fn (.func 212) [] [.ref (.fn (.func 135) [] []) 0]]],.tup [Qe ⟨#[97,105,109]⟩,.agg [Qe ⟨#[109]⟩,I 1,.fn (.func 213) [] [.ref (.fn (.func 136) [] []) 0],.fn (.func 212) [] [.ref (.fn (.func 137) [] []) 0]]],.tup [Qe ⟨#[112,97,114,107]⟩,.agg [Qe ⟨#[109]⟩,I 1,.fn (.func 213) [] [.ref (.fn (.func 138) [] []) 0],.fn (.func 212) [] [.ref (.fn (.func 139) [] []) 0]]],.tup [Qe ⟨#[100,105,109]⟩,.agg [Qe ⟨#[115]⟩,I 1,.fn (.func 129) [] [],.fn (.func 140) [] []]],.tup [Qe ⟨#[115,117,110]⟩,.agg [Qe ⟨#[]⟩,I 2,.fn (.func 143) [] [],.fn (.func 144) [] []]],.tup [Qe ⟨#[102,105,108,108]⟩,.agg [Qe ⟨#[]⟩,I 1,.fn (.func 145) [] [],.fn (.func 146) [] []]],.tup [Qe ⟨#[100,114,97,105,110]⟩,.agg [Qe ⟨#[]⟩,I 1,.fn (.func 147) [] [],.fn (.func 149) [] []]],.tup [Qe ⟨#[116,114,105,112]⟩,.agg [Qe ⟨#[]⟩,I 1,.fn (.func 150) [] [],.fn (.func 151) [] []]],.tup [Qe ⟨#[114,101,115,101,116]⟩,.agg [Qe ⟨#[]⟩,I 1,.fn (.func 153) [] [],.fn (.func 154) [] []]],.tup [Qe ⟨#[111,102,102,101,114]⟩,.agg [Qe ⟨#[79]⟩,I 5,.fn (.func 155) [] [],.fn (.func 157) [] []]],.tup [Qe ⟨#[100,101,108,105,118,101,114]⟩,.agg [Qe ⟨#[111]⟩,I 2,.fn (.func 158) [] [],.fn (.func 159) [] []]],.tup [Qe ⟨#[98,105,108,108]⟩,.agg [Qe ⟨#[111]⟩,I 1,.fn (.func 161) [] [],.fn (.func 162) [] []]],.tup [Qe ⟨#[117,110,100,111]⟩,.agg [Qe ⟨#[]⟩,I 0,.fn (.func 129) [] [],.fn (.func 164) [] []]]]
def Qe1 (x:jSj×Int×FnD×FnD):D:=.agg [Qe x.1,I x.2.1,.fn x.2.2.1.1 x.2.2.1.2.1 x.2.2.1.2.2,.fn x.2.2.2.1 x.2.2.2.2.1 x.2.2.2.2.2]
def Kt:D->Option (jSj×Int×FnD×FnD)
 | .agg [c0,c1,c2,c3]=>(JY c0).bind fun a=>(YZ .i64 c1).bind fun b=>(QbQ c2).bind fun c=>(QbQ c3).bind fun d=>some (a,b,c,d)
 | _=>none
theorem XW {d:D}{x:jSj×Int×FnD×FnD}(h:Kt d=some x):d=Qe1 x:=by
 unfold Kt at h;split at h;case h_2=>cases h
 obtain⟨k,f,h⟩:=Wh h;obtain⟨l,g,h⟩:=Wh h;obtain⟨m,i,h⟩:=Wh h;obtain⟨n,j,h⟩:=Wh h;cases h;have a:=UM f;have b:=Vj g;have c:=QaX i;have e:=QaX j;rw[a,b,c,e];rfl
def JH (n:Nat)  : Option (Int) :=
 some 3
theorem Qcy {n:Nat}  {r:Int}(h:JH n =some r):Computes cx 29 [B true,I 3] (I r):=by unfold JH at h;obtain rfl:=oi h;exact rf [.no] QA
def Qr (n:Nat)(a:Bool)(b:Int):Option (Int) := if a=true then some b else some 0
theorem Qs {n b c r}(h:Qr n b c=some r):Computes cx 29 [B b,I c] (I r):=by
 unfold Qr at h;obtain⟨a,h⟩|⟨a,h⟩:=io h
 ·obtain rfl:=oi h;exact rf [b1] (Qb a QA)
 obtain rfl:=oi h;exact rf [b0] (Qb (Zy a) QA)
def ZJ (n:Nat)(b c d:Int):Option (Int) := if b<c then(JH n).bind fun a=>some a else(Qr n (decide (b>d)) 3).bind fun a=>some a
theorem Va {n b c d r}(h:ZJ n b c d=some r):Computes cx 61 [I b,I c,I d] (I r):=by
 unfold ZJ at h;obtain⟨a,h⟩|⟨a,h⟩:=io h
 ·have⟨t2,h2,h⟩:=bo h;obtain rfl:=oi h;exact rf [b1,.ret (I t2)] (Qb (Qcy h2) (Qb (jDj a) QA))
 have⟨t2,h2,h⟩:=bo h;obtain rfl:=oi h;exact rf [b0,.ret (I t2)] (Qb (Qs h2) (Qb (jEj a) QA))
def Kq (n:Nat)  : Option (Int) :=
 some 0
theorem Qak {n:Nat}  {r:Int}(h:Kq n =some r):Computes cx 29 [B false,I 13] (I r):=by unfold Kq at h;obtain rfl:=oi h;exact rf [.no] QA
def Zi (x:Int):D:=I x
def V5 (d:D):Option (Int):=YZ .i64 d
theorem QM {d:D}{x:Int}(h:V5 d=some x):d=Zi x:=Vj h
def Q6 (n:Nat)(c:jVj)(b:Int):Option (Int⊕Int⊕Unit) := if b<((c).length:Int) then(el V5 c b).bind fun a=>if a=0 then if Qg (b+1) then some (.inl (b+1)) else none else some (.inr (.inl a)) else some (.inr (.inr ()))
noncomputable def XU (a:jVj):Lp (Int) (Int⊕Unit):=⟨fun b=>[(5,.d (.lst false 1 a)),(6,.d (I ((a).length:Int))),(7,.d (I b))],fun _=>[],fun
 | (.inl e)=>.ret
 | (.inr e)=>(.exit 0),fun
 | (.inl e)=>[(2,.d (I e))]
 | (.inr e)=>[],fun _=>[]⟩
theorem XM {n c}(d)(r)(h:Q6 n c d=some r):Rl (Zt cx.P 27 0) 15 0 false (XU c) d r:=by
 unfold Q6 at h;obtain⟨a,h⟩|⟨a,h⟩:=io h
 ·have⟨ta2,ha2,h⟩:=bo h;have q:=Q2 QM ha2 (Qb (jDj a) QA);obtain⟨b,h⟩|⟨b,h⟩:=io h
  ·have⟨ha4,h⟩:=gd h;cases h;exact rn 4 [b1,.el (Zi ta2),b0] [] [5,6,7] [] (Qb ha4 (Qb (nef b) q))
  cases h;exact rx 4 [b1,.el (Zi ta2),b1] [] [2] [] (Qb (net b) q)
 cases h;exact rx 4 [b0] [] [] [] (Qb (jEj a) QA)
def Qi (n:Nat)(b:jVj):Option (Int) := (QU (Q6 n b) n 0).bind fun a=>match a with|.inl a=>(some a)|.inr a=>(some 0)
theorem Qv {n b r}(h:Qi n b=some r):Computes cx 27 [.lst false 1 b] (I r):=by
 unfold Qi at h;have⟨a,h1,h⟩:=bo h;obtain a|a:=a
 ·obtain rfl:=oi h;exact rf [.lp [] [5,6,7] [] .ret [(2,.d (I a))] [] 23] (Qb (QE XM h1) QA)
 obtain rfl:=oi h;exact rf [.lp [] [5,6,7] [] (.exit 0) [] [] 23] (Qb (QE XM h1) QA)
def Wj (x:jSj):D:=Qe x
def Vg (d:D):Option (jSj):=JY d
theorem Zb {d:D}{x:jSj}(h:Vg d=some x):d=Wj x:=UM h
def WI (n:Nat)(b:jSj)(a:Nat):Option (Nat⊕Unit⊕Unit) := if a<b.size then if((Utf8.decode b a).1:Int)>=97 then if((Utf8.decode b a).1:Int)<=122 then some (.inl (a+(Utf8.decode b a).2)) else if((Utf8.decode b a).1:Int)>=65 then if((Utf8.decode b a).1:Int)<=90 then some (.inl (a+(Utf8.decode b a).2)) else if((a:Nat):Int)=0 then some (.inr (.inl ())) else if((Utf8.decode b a).1:Int)=95 then some (.inl (a+(Utf8.decode b a).2)) else if((Utf8.decode b a).1:Int)<48 then some (.inr (.inl ())) else if((Utf8.decode b a).1:Int)>57 then some (.inr (.inl ())) else some (.inl (a+(Utf8.decode b a).2)) else if((a:Nat):Int)=0 then some (.inr (.inl ())) else if((Utf8.decode b a).1:Int)=95 then some (.inl (a+(Utf8.decode b a).2)) else if((Utf8.decode b a).1:Int)<48 then some (.inr (.inl ())) else if((Utf8.decode b a).1:Int)>57 then some (.inr (.inl ())) else some (.inl (a+(Utf8.decode b a).2)) else if((Utf8.decode b a).1:Int)>=65 then if((Utf8.decode b a).1:Int)<=90 then some (.inl (a+(Utf8.decode b a).2)) else if((a:Nat):Int)=0 then some (.inr (.inl ())) else if((Utf8.decode b a).1:Int)=95 then some (.inl (a+(Utf8.decode b a).2)) else if((Utf8.decode b a).1:Int)<48 then some (.inr (.inl ())) else if((Utf8.decode b a).1:Int)>57 then some (.inr (.inl ())) else some (.inl (a+(Utf8.decode b a).2)) else if((a:Nat):Int)=0 then some (.inr (.inl ())) else if((Utf8.decode b a).1:Int)=95 then some (.inl (a+(Utf8.decode b a).2)) else if((Utf8.decode b a).1:Int)<48 then some (.inr (.inl ())) else if((Utf8.decode b a).1:Int)>57 then some (.inr (.inl ())) else some (.inl (a+(Utf8.decode b a).2)) else some (.inr (.inr ()))
noncomputable def jp (a:jSj):Lp (Nat) (Unit⊕Unit):=⟨fun _=>[(0,.d (Qe a)),(7,.own 2 0)],fun b=>[(2,.it a b)],fun
 | (.inl e)=>.ret
 | (.inr e)=>(.exit 0),fun
 | (.inl e)=>[(2,.d (B false))]
 | (.inr e)=>[(0,.d (Qe a))],fun _=>[]⟩
theorem G4 {n k}(m)(r)(h:WI n k m=some r):Rl (Zt cx.P 73 0) 51 0 false (jp k) m r:=by
 unfold WI at h;obtain⟨g,h⟩|⟨g,h⟩:=io h
 ·have q:=Qb g QA;let o(l:jOj):=b1::.no::l;obtain⟨i,h⟩|⟨i,h⟩:=io h
  ·have q:=Qb (jDj i) q;let o l:=o (b1::l);obtain⟨f,h⟩|⟨f,h⟩:=io h
   ·cases h;exact rn 3 (o [b1,.no,.no]) [] [0,7] [2] (Qb (jDj f) q)
   have q:=Qb (jEj f) q;let o l:=o (b0::l);obtain⟨d,h⟩|⟨d,h⟩:=io h
   ·have q:=Qb (jDj d) q;let o l:=o (b1::l);obtain⟨a,h⟩|⟨a,h⟩:=io h
    ·cases h;exact rn 3 (o [b0,.no]) [] [0,7] [2] (Qb (zV (jDj a)) q)
    have q:=Qb (wG (jEj a)) q;let o l:=o (b1::l);obtain⟨b,h⟩|⟨b,h⟩:=io h
    ·cases h;exact rx 3 (o [b1,.no]) [] [2] [] (Qb (eqt b) q)
    have q:=Qb (eqf b) q;obtain⟨c,h⟩|⟨c,h⟩:=io h
    ·cases h;exact rn 3 (o [b0,b0,.no]) [] [0,7] [2] (Qb (nef c) q)
    have q:=Qb (net c) q;let o l:=o (b0::b1::l);obtain⟨e,h⟩|⟨e,h⟩:=io h
    ·cases h;exact rx 3 (o [b1,.no]) [] [2] [] (Qb (jDj e) q)
    have q:=Qb (jEj e) q;obtain⟨j,h⟩|⟨j,h⟩:=io h
    ·cases h;exact rx 3 (o [b0,b1]) [] [2] [] (Qb (jDj j) q)
    cases h;exact rn 3 (o [b0,b0]) [] [0,7] [2] (Qb (jEj j) q)
   have q:=Qb (jEj d) q;let o l:=o (b0::.no::l);obtain⟨a,h⟩|⟨a,h⟩:=io h
   ·cases h;exact rx 3 (o [b1,.no]) [] [2] [] (Qb (eqt a) q)
   have q:=Qb (eqf a) q;obtain⟨b,h⟩|⟨b,h⟩:=io h
   ·cases h;exact rn 3 (o [b0,b0,.no]) [] [0,7] [2] (Qb (nef b) q)
   have q:=Qb (net b) q;let o l:=o (b0::b1::l);obtain⟨c,h⟩|⟨c,h⟩:=io h
   ·cases h;exact rx 3 (o [b1,.no]) [] [2] [] (Qb (jDj c) q)
   have q:=Qb (jEj c) q;obtain⟨e,h⟩|⟨e,h⟩:=io h
   ·cases h;exact rx 3 (o [b0,b1]) [] [2] [] (Qb (jDj e) q)
   cases h;exact rn 3 (o [b0,b0]) [] [0,7] [2] (Qb (jEj e) q)
  have q:=Qb (jEj i) q;let o l:=o (b0::.no::l);obtain⟨f,h⟩|⟨f,h⟩:=io h
  ·have q:=Qb (jDj f) q;let o l:=o (b1::l);obtain⟨d,h⟩|⟨d,h⟩:=io h
   ·cases h;exact rn 3 (o [b0,.no]) [] [0,7] [2] (Qb (zV (jDj d)) q)
   have q:=Qb (wG (jEj d)) q;let o l:=o (b1::l);obtain⟨a,h⟩|⟨a,h⟩:=io h
   ·cases h;exact rx 3 (o [b1,.no]) [] [2] [] (Qb (eqt a) q)
   have q:=Qb (eqf a) q;obtain⟨b,h⟩|⟨b,h⟩:=io h
   ·cases h;exact rn 3 (o [b0,b0,.no]) [] [0,7] [2] (Qb (nef b) q)
   have q:=Qb (net b) q;let o l:=o (b0::b1::l);obtain⟨c,h⟩|⟨c,h⟩:=io h
   ·cases h;exact rx 3 (o [b1,.no]) [] [2] [] (Qb (jDj c) q)
   have q:=Qb (jEj c) q;obtain⟨e,h⟩|⟨e,h⟩:=io h
   ·cases h;exact rx 3 (o [b0,b1]) [] [2] [] (Qb (jDj e) q)
   cases h;exact rn 3 (o [b0,b0]) [] [0,7] [2] (Qb (jEj e) q)
  have q:=Qb (jEj f) q;let o l:=o (b0::.no::l);obtain⟨d,h⟩|⟨d,h⟩:=io h
  ·cases h;exact rx 3 (o [b1,.no]) [] [2] [] (Qb (eqt d) q)
  have q:=Qb (eqf d) q;obtain⟨a,h⟩|⟨a,h⟩:=io h
  ·cases h;exact rn 3 (o [b0,b0,.no]) [] [0,7] [2] (Qb (nef a) q)
  have q:=Qb (net a) q;let o l:=o (b0::b1::l);obtain⟨b,h⟩|⟨b,h⟩:=io h
  ·cases h;exact rx 3 (o [b1,.no]) [] [2] [] (Qb (jDj b) q)
  have q:=Qb (jEj b) q;obtain⟨c,h⟩|⟨c,h⟩:=io h
  ·cases h;exact rx 3 (o [b0,b1]) [] [2] [] (Qb (jDj c) q)
  cases h;exact rn 3 (o [b0,b0]) [] [0,7] [2] (Qb (jEj c) q)
 cases h;exact rx 3 [b0,.no] [] [0] [] (Qb g QA)
def Ua (n:Nat)(a:jSj):Option (Bool) := (QU (WI n a) n 0).bind fun b=>match b with|.inl b=>(some false)|.inr b=>(if(!(a.toList==(⟨#[]⟩:jSj).toList))=true then some (decide ((a.size:Int)<=24)) else some false)
theorem Qal {n a r}(h:Ua n a=some r):Computes cx 73 [Qe a] (B r):=by
 unfold Ua at h;have⟨c,h1,h⟩:=bo h;obtain c|c:=c
 ·obtain rfl:=oi h;exact rf [.lp [] [0,7] [2] .ret [(2,.d (B false))] [] 54] (Qb (QE G4 h1) QA)
 have q:=Qb (QE G4 h1) QA;let o(l:jOj):=.lp [] [0,7] [2] (.exit 0) [(0,.d (Qe a))] [] 54::l;obtain⟨b,h⟩|⟨b,h⟩:=io h
 ·cases h;exact rf (o [b1]) (Qb b q)
 obtain rfl:=oi h;exact rf (o [b0]) (Qb (Zy b) q)
def V4 (n:Nat)(a:jSj):Option (Int) := (Ua n a).bind fun b=>(Qr n (!b) 8).bind fun c=>some c
theorem EG {n a r}(h:V4 n a=some r):Computes cx 72 [Qe a] (I r):=by unfold V4 at h;have⟨t1,h1,h⟩:=bo h;have⟨t2,h2,h⟩:=bo h;obtain rfl:=oi h;exact rf [.ret (B t1),.ret (I t2)] (Qb (Qs h2) (Qb (Qal h1) QA))
def Ve (n:Nat)(d:jVj)(a:(Int×jVj)):Option (Int×jVj⊕jVj) := if a.1<((d).length:Int) then(el Vg d a.1).bind fun b=>(V4 n b).bind fun c=>if Wi 8 ((a.2).length+1) then if Qg (a.1+1) then some (.inl ((a.1+1),(a.2++([I c]:jVj)))) else none else none else some (.inr a.2)
noncomputable def zw (b:jVj):Lp (Int×jVj) (jVj):=⟨fun a=>[(1,.d (.fn (.func 72) [] [])),(5,.own 5 0),(8,.d (.lst false 1 b)),(9,.d (I ((b).length:Int))),(10,.d (I a.1))],fun a=>[(5,.row 0 1 a.2)],fun _=>(.exit 0),fun _=>[(5,.own 5 0)],fun e=>[(5,.row 0 1 e)]⟩
theorem zq {n b}(c)(r)(h:Ve n b c=some r):Rl (Zt cx.P 71 0) 22 0 false (zw b) c r:=by
 unfold Ve at h;obtain⟨a,h⟩|⟨a,h⟩:=io h
 ·have⟨ta2,ha2,h⟩:=bo h;have⟨ta3,ha3,h⟩:=bo h;have⟨ha4,h⟩:=gd h;have⟨ha5,h⟩:=gd h;cases h;exact rn 6 [b1,.el (Wj ta2),.ret (I ta3),b1] [] [1,5,8,9,10] [5] (Qb ha5 (Qb (ro 36 ha4) (Qb (EG ha3) (Q2 Zb ha2 (Qb (jDj a) QA)))))
 cases h;exact rx 6 [b0] [] [5] [5] (Qb (jEj a) QA)
def Wz (n:Nat)(a:jVj):Option (jVj) := (QU (Ve n a) n (0,[])).bind fun b=>some b
theorem Ul {n a r}(h:Wz n a=some r):Computes cx 71 [.lst false 1 a,.fn (.func 72) [] []] (.lst false 1 r):=by unfold Wz at h;have⟨t1,h1,h⟩:=bo h;obtain rfl:=oi h;exact rf [.lp [5,1] [1,5,8,9,10] [5] (.exit 0) [(5,.own 5 0)] [(5,.row 0 1 t1)] 30] (Qb (QE zq h1) QA)
def V3 (n:Nat)(a:Int):Option (Int) := (ZJ n a 0 999999999).bind fun b=>some b
theorem EF {n a r}(h:V3 n a=some r):Computes cx 75 [I a] (I r):=by unfold V3 at h;have⟨t1,h1,h⟩:=bo h;obtain rfl:=oi h;exact rf [.ret (I t1)] (Qb (Va h1) QA)
def WL (n:Nat)(d:jVj)(a:(Int×jVj)):Option (Int×jVj⊕jVj) := if a.1<((d).length:Int) then(el V5 d a.1).bind fun b=>(V3 n b).bind fun c=>if Wi 8 ((a.2).length+1) then if Qg (a.1+1) then some (.inl ((a.1+1),(a.2++([I c]:jVj)))) else none else none else some (.inr a.2)
noncomputable def ES (b:jVj):Lp (Int×jVj) (jVj):=⟨fun a=>[(1,.d (.fn (.func 75) [] [])),(5,.own 5 0),(8,.d (.lst false 1 b)),(9,.d (I ((b).length:Int))),(10,.d (I a.1))],fun a=>[(5,.row 0 1 a.2)],fun _=>(.exit 0),fun _=>[(5,.own 5 0)],fun e=>[(5,.row 0 1 e)]⟩
theorem EM {n b}(c)(r)(h:WL n b c=some r):Rl (Zt cx.P 74 0) 22 0 false (ES b) c r:=by
 unfold WL at h;obtain⟨a,h⟩|⟨a,h⟩:=io h
 ·have⟨ta2,ha2,h⟩:=bo h;have⟨ta3,ha3,h⟩:=bo h;have⟨ha4,h⟩:=gd h;have⟨ha5,h⟩:=gd h;cases h;exact rn 6 [b1,.el (Zi ta2),.ret (I ta3),b1] [] [1,5,8,9,10] [5] (Qb ha5 (Qb (ro 36 ha4) (Qb (EF ha3) (Q2 QM ha2 (Qb (jDj a) QA)))))
 cases h;exact rx 6 [b0] [] [5] [5] (Qb (jEj a) QA)
def Z0 (n:Nat)(a:jVj):Option (jVj) := (QU (WL n a) n (0,[])).bind fun b=>some b
theorem YF {n a r}(h:Z0 n a=some r):Computes cx 74 [.lst false 1 a,.fn (.func 75) [] []] (.lst false 1 r):=by unfold Z0 at h;have⟨t1,h1,h⟩:=bo h;obtain rfl:=oi h;exact rf [.lp [5,1] [1,5,8,9,10] [5] (.exit 0) [(5,.own 5 0)] [(5,.row 0 1 t1)] 30] (Qb (QE EM h1) QA)
def Yt (n:Nat)  : Option (Int) :=
 some 2
theorem ql {n:Nat}  {r:Int}(h:Yt n =some r):Computes cx 29 [B true,I 2] (I r):=by unfold Yt at h;obtain rfl:=oi h;exact rf [.no] QA
def Kp (n:Nat)  : Option (Int) :=
 some 13
theorem Qaj {n:Nat}  {r:Int}(h:Kp n =some r):Computes cx 29 [B true,I 13] (I r):=by unfold Kp at h;obtain rfl:=oi h;exact rf [.no] QA
def Wv (n:Nat)(o:Int)(p:jSj)(f g:jVj)(k:jSj):Option (Int) := if(W5 (.string p) GB).isSome=true then((W5 (.string p) GB).bind Kt).bind fun h=>(ZJ n o 1 1000).bind fun i=>(Kq n).bind fun q=>if((f).length:Int)=(h.1.size:Int) then(Qr n (((g).length:Int) != h.2.1) 2).bind fun d=>(Qi n ([I i,I q,I d])).bind fun j=>if j=0 then(Wz n f).bind fun t9=>(Qi n t9).bind fun t10=>(Z0 n g).bind fun a=>(Qi n a).bind fun b=>(Qr n (!(k.toList==(⟨#[]⟩:jSj).toList)) 1).bind fun c=>(Qi n ([I t10,I b,I c])).bind fun e=>some e else some j else(Yt n).bind fun d=>(Qi n ([I i,I q,I d])).bind fun j=>if j=0 then(Wz n f).bind fun t9=>(Qi n t9).bind fun t10=>(Z0 n g).bind fun a=>(Qi n a).bind fun b=>(Qr n (!(k.toList==(⟨#[]⟩:jSj).toList)) 1).bind fun c=>(Qi n ([I t10,I b,I c])).bind fun e=>some e else some j else(ZJ n o 1 1000).bind fun h=>(Kp n).bind fun i=>if((f).length:Int)=0 then(Qr n (((g).length:Int) != 0) 2).bind fun l=>(Qi n ([I h,I i,I l])).bind fun d=>if d=0 then(Wz n f).bind fun m=>(Qi n m).bind fun t9=>(Z0 n g).bind fun t10=>(Qi n t10).bind fun a=>(Qr n (!(k.toList==(⟨#[]⟩:jSj).toList)) 1).bind fun b=>(Qi n ([I t9,I a,I b])).bind fun c=>some c else some d else(Yt n).bind fun l=>(Qi n ([I h,I i,I l])).bind fun d=>if d=0 then(Wz n f).bind fun m=>(Qi n m).bind fun t9=>(Z0 n g).bind fun t10=>(Qi n t10).bind fun a=>(Qr n (!(k.toList==(⟨#[]⟩:jSj).toList)) 1).bind fun b=>(Qi n ([I t9,I a,I b])).bind fun c=>some c else some d
theorem UI {n f e g i j r}(h:Wv n f e g i j=some r):Computes cx 28 [.agg [I f,Qe e,.lst false 1 g,.lst false 1 i,Qe j]] (I r):=by
 unfold Wv at h;let o(l:jOj):=b1::(no 28 l);obtain⟨k,h⟩|⟨k,h⟩:=io h
 ·have⟨t2,h2,h⟩:=bo h;have⟨t3,h3,h⟩:=bo h;have⟨t4,d,h⟩:=bo h;have q:=Qb (Qak d) (Qb (Va h3) (Qb ((qU (by kernel_rfl) (Qch XW h2)):YX true (.string e) (.agg [Qe ⟨#[]⟩,I 0,.v (.nilFunc),.v (.nilFunc)]) GB=some (.tup [.agg [Qe t2.1,I t2.2.1,.fn t2.2.2.1.1 t2.2.2.1.2.1 t2.2.2.1.2.2,.fn t2.2.2.2.1 t2.2.2.2.2.1 t2.2.2.2.2.2],B true])) QA));let o l:=o (.el (.tup [.agg [Qe t2.1,I t2.2.1,.fn t2.2.2.1.1 t2.2.2.1.2.1 t2.2.2.1.2.2,.fn t2.2.2.2.1 t2.2.2.2.2.1 t2.2.2.2.2.2],B true])::.ret (I t3)::.ret (I t4)::l);obtain⟨c,h⟩|⟨c,h⟩:=io h
  ·have⟨t6,h6,h⟩:=bo h;have⟨t7,a,h⟩:=bo h;have q:=Qb (leF (Qv a)) (Qb (Qs h6) (Qb (nef c) q));let o l:=o (b0::.ret (I t6)::.ret (I t7)::l);obtain⟨b,h⟩|⟨b,h⟩:=io h
   ·have⟨t9,h9,h⟩:=bo h;have⟨t10,h10,h⟩:=bo h;have⟨t11,h11,h⟩:=bo h;have⟨t12,h12,h⟩:=bo h;have⟨t13,h13,h⟩:=bo h;have⟨t14,h14,h⟩:=bo h;obtain rfl:=oi h;exact rf (o [b0,.ret (.lst false 1 t9),.ret (I t10),.ret (.lst false 1 t11),.ret (I t12),.ret (I t13),.ret (I t14)]) (Qb (leF (Qv h14)) (Qb (Qs h13) (Qb (Qv h12) (Qb (YF h11) (Qb (Qv h10) (Qb (Ul h9) (Qb (nef b) q)))))))
   obtain rfl:=oi h;exact rf (o [b1]) (Qb (net b) q)
  have⟨t6,h6,h⟩:=bo h;have⟨t7,a,h⟩:=bo h;have q:=Qb (leF (Qv a)) (Qb (ql h6) (Qb (net c) q));let o l:=o (b1::.ret (I t6)::.ret (I t7)::l);obtain⟨b,h⟩|⟨b,h⟩:=io h
  ·have⟨t9,h9,h⟩:=bo h;have⟨t10,h10,h⟩:=bo h;have⟨t11,h11,h⟩:=bo h;have⟨t12,h12,h⟩:=bo h;have⟨t13,h13,h⟩:=bo h;have⟨t14,h14,h⟩:=bo h;obtain rfl:=oi h;exact rf (o [b0,.ret (.lst false 1 t9),.ret (I t10),.ret (.lst false 1 t11),.ret (I t12),.ret (I t13),.ret (I t14)]) (Qb (leF (Qv h14)) (Qb (Qs h13) (Qb (Qv h12) (Qb (YF h11) (Qb (Qv h10) (Qb (Ul h9) (Qb (nef b) q)))))))
  obtain rfl:=oi h;exact rf (o [b1]) (Qb (net b) q)
 have⟨t2,h2,h⟩:=bo h;have⟨t3,h3,h⟩:=bo h;have q:=Qb (Qaj h3) (Qb (Va h2) (Qb ((Gb (by kernel_rfl) (mno k)):YX true (.string e) (.agg [Qe ⟨#[]⟩,I 0,.v (.nilFunc),.v (.nilFunc)]) GB=some (.tup [.agg [Qe ⟨#[]⟩,I 0,.v (.nilFunc),.v (.nilFunc)],B false])) QA));let o l:=o (.el (.tup [.agg [Qe ⟨#[]⟩,I 0,.v (.nilFunc),.v (.nilFunc)],B false])::.ret (I t2)::.ret (I t3)::l);obtain⟨d,h⟩|⟨d,h⟩:=io h
 ·have⟨t5,c,h⟩:=bo h;have⟨t6,h6,h⟩:=bo h;have q:=Qb (leF (Qv h6)) (Qb (Qs c) (Qb (nef d) q));let o l:=o (b0::.ret (I t5)::.ret (I t6)::l);obtain⟨a,h⟩|⟨a,h⟩:=io h
  ·have⟨t8,b,h⟩:=bo h;have⟨t9,h9,h⟩:=bo h;have⟨t10,h10,h⟩:=bo h;have⟨t11,h11,h⟩:=bo h;have⟨t12,h12,h⟩:=bo h;have⟨t13,h13,h⟩:=bo h;obtain rfl:=oi h;exact rf (o [b0,.ret (.lst false 1 t8),.ret (I t9),.ret (.lst false 1 t10),.ret (I t11),.ret (I t12),.ret (I t13)]) (Qb (leF (Qv h13)) (Qb (Qs h12) (Qb (Qv h11) (Qb (YF h10) (Qb (Qv h9) (Qb (Ul b) (Qb (nef a) q)))))))
  obtain rfl:=oi h;exact rf (o [b1]) (Qb (net a) q)
 have⟨t5,c,h⟩:=bo h;have⟨t6,h6,h⟩:=bo h;have q:=Qb (leF (Qv h6)) (Qb (ql c) (Qb (net d) q));let o l:=o (b1::.ret (I t5)::.ret (I t6)::l);obtain⟨a,h⟩|⟨a,h⟩:=io h
 ·have⟨t8,b,h⟩:=bo h;have⟨t9,h9,h⟩:=bo h;have⟨t10,h10,h⟩:=bo h;have⟨t11,h11,h⟩:=bo h;have⟨t12,h12,h⟩:=bo h;have⟨t13,h13,h⟩:=bo h;obtain rfl:=oi h;exact rf (o [b0,.ret (.lst false 1 t8),.ret (I t9),.ret (.lst false 1 t10),.ret (I t11),.ret (I t12),.ret (I t13)]) (Qb (leF (Qv h13)) (Qb (Qs h12) (Qb (Qv h11) (Qb (YF h10) (Qb (Qv h9) (Qb (Ul b) (Qb (nef a) q)))))))
 obtain rfl:=oi h;exact rf (o [b1]) (Qb (net a) q)
def Ko (n:Nat)  : Option (Int) :=
 some 21
theorem Qai {n:Nat}  {r:Int}(h:Ko n =some r):Computes cx 29 [B true,I 21] (I r):=by unfold Ko at h;obtain rfl:=oi h;exact rf [.no] QA
theorem mk1 (c:jSj)(r:D){k:jSj}{l:List UInt8}(h:k.data.toList=l)(hc:c.data.toList=l:=by rfl)(a:YX false (.string c) (.agg [Qe ⟨#[]⟩,I 0,.v (.nilFunc),.v (.nilFunc)]) GB=some r:=by kernel_rfl):YX false (.string k) (.agg [Qe ⟨#[]⟩,I 0,.v (.nilFunc),.v (.nilFunc)]) GB=some r:=QdG h hc a
def QF (x:jSj×jSj×Int×Int×Bool×Bool):D:=.agg [Qe x.1,Qe x.2.1,I x.2.2.1,I x.2.2.2.1,B x.2.2.2.2.1,B x.2.2.2.2.2]
def QV:D->Option (jSj×jSj×Int×Int×Bool×Bool)
 | .agg [c0,c1,c2,c3,c4,c5]=>(JY c0).bind fun a=>(JY c1).bind fun b=>(YZ .i64 c2).bind fun c=>(YZ .i64 c3).bind fun d=>(wv c4).bind fun e=>(wv c5).bind fun f=>some (a,b,c,d,e,f)
 | _=>none
theorem QB {d:D}{x:jSj×jSj×Int×Int×Bool×Bool}(h:QV d=some x):d=QF x:=by
 unfold QV at h;split at h;case h_2=>cases h
 obtain⟨o,i,h⟩:=Wh h;obtain⟨p,j,h⟩:=Wh h;obtain⟨q,k,h⟩:=Wh h;obtain⟨r,l,h⟩:=Wh h;obtain⟨s,m,h⟩:=Wh h;obtain⟨t,n,h⟩:=Wh h;cases h;have a:=UM i;have b:=UM j;have c:=Vj k;have e:=Vj l;have f:=zH m;have g:=zH n;rw[a,b,c,e,f,g];rfl
def Z5 (n:Nat)(f g:jVj)(h d:Int)(i j:Bool)(k l m:Int)(o c e:jVj)(b:(Int×Int)):Option (Int×Int⊕Int) := if b.1<((c).length:Int) then if 0<=b.1/\b.1<((c).length:Int) then((nth (c) (Int.toNat b.1)).bind QV).bind fun a=>if a.2.2.2.2.2=true then if Qg (1000 - a.2.2.2.1) then if Qg (a.2.2.1*(1000 - a.2.2.2.1)) then if Qg ((a.2.2.1*(1000 - a.2.2.2.1))*d) then if Qg (b.2+((a.2.2.1*(1000 - a.2.2.2.1))*d)) then if Qg (b.1+1) then some (.inl ((b.1+1),(b.2+((a.2.2.1*(1000 - a.2.2.2.1))*d)))) else none else none else none else none else none else if Qg (b.1+1) then some (.inl ((b.1+1),b.2)) else none else none else some (.inr b.2)
noncomputable def Xf (f g:jVj)(h i:Int)(j k:Bool)(l m n:Int)(o a b:jVj):Lp (Int×Int) (Int):=⟨fun c=>[(0,.own 23 0),(8,.own 11 0),(9,.d (I ((a).length:Int))),(10,.d (I c.1))],fun c=>[(0,.box (.agg [.own 1 0,.own 2 0,.d (I h),.d (I i),.d (B j),.d (B k),.d (I l),.d (I m),.d (I n),.own 10 0,.own 11 0,.own 12 0])),(1,.row 0 5 f),(2,.row 0 5 g),(10,.row 0 1 o),(11,.row 0 6 a),(12,.row 0 7 b),(13,.box (.ptr 0 0 0 0 2)),(15,.box (.d (I c.2))),(19,.box (.ptr 0 0 0 0 2)),(23,.loop true [(6,.fn (.func 82) [] [.ptr 19 0 0 0 0]),(5,.ptr 0 0 0 0 2),(3,.ptr 15 0 0 0 0),(2,.d (I 0)),(1,.ptr 13 0 0 0 0),(0,.ptr 0 0 0 0 2)] [7] (Z3 cx.P 107 0).1 (Z3 cx.P 107 0).2 22)],fun _=>(.exit 0),fun _=>[],fun e=>[(0,.box (.agg [.own 1 0,.own 2 0,.d (I h),.d (I i),.d (B j),.d (B k),.d (I l),.d (I m),.d (I n),.own 10 0,.own 11 0,.own 12 0])),(1,.row 0 5 f),(2,.row 0 5 g),(10,.row 0 1 o),(11,.row 0 6 a),(12,.row 0 7 b),(13,.box (.ptr 0 0 0 0 2)),(15,.box (.d (I e))),(19,.box (.ptr 0 0 0 0 2)),(23,.loop true [(6,.fn (.func 82) [] [.ptr 19 0 0 0 0]),(5,.ptr 0 0 0 0 2),(3,.ptr 15 0 0 0 0),(2,.d (I 0)),(1,.ptr 13 0 0 0 0),(0,.ptr 0 0 0 0 2)] [7] (Z3 cx.P 107 0).1 (Z3 cx.P 107 0).2 22)]⟩
theorem Xc {n e f g i j k m p s t c d}(u)(r)(h:Z5 n e f g i j k m p s t c d u=some r):Rl (Zt cx.P 82 0) 23 24 false (Xf e f g i j k m p s t c d) u r:=by
 unfold Z5 at h;obtain⟨a,h⟩|⟨a,h⟩:=io h
 ·have⟨ha2,h⟩:=gd h;have⟨ta3,ha3,h⟩:=bo h;have q:=Qb (Q0 QB ha3) (Qb ha2 (Qb (jDj a) QA));let o(l:jOj):=b1::b1::.el (QF ta3)::l;obtain⟨b,h⟩|⟨b,h⟩:=io h
  ·have⟨ha5,h⟩:=gd h;have⟨ha6,h⟩:=gd h;have⟨ha7,h⟩:=gd h;have⟨ha8,h⟩:=gd h;have⟨ha9,h⟩:=gd h;cases h;exact rn 30 (o [b1,.no]) [] [0,8,9,10] [0,1,2,10,11,12,13,15,19,23] (Qb ha9 (Qb ha8 (Qb ha7 (Qb ha6 (Qb ha5 (Qb b q))))))
  have⟨ha5,h⟩:=gd h;cases h;exact rn 30 (o [b0,.no]) [] [0,8,9,10] [0,1,2,10,11,12,13,15,19,23] (Qb ha5 (Qb (Zy b) q))
 cases h;exact rx 30 [b0] [] [] [0,1,2,10,11,12,13,15,19,23] (Qb (jEj a) QA)
def WM (n:Nat)(c d:jVj)(e f:Int)(g h:Bool)(i j k:Int)(l a b:jVj):Option (Int) := (QU (Z5 n c d e f g h i j k l a b) n (0,0)).bind fun m=>some m
theorem Ks {n c e f g i j k l m o a b r}(h:WM n c e f g i j k l m o a b=some r):ComputesO cx 107 [.ptr 0 0 0 0 2] (some (Qa c e f g i j k l m o a b)) (.d (I r)) (Qa c e f g i j k l m o a b) Zj:=by unfold WM at h;have⟨t1,h1,h⟩:=bo h;obtain rfl:=oi h;exact rfO 0 [b1,.lp [] [0,8,9,10] [0,1,2,10,11,12,13,15,19,23] (.exit 0) [] [(0,.box (.agg [.own 1 0,.own 2 0,.d (I f),.d (I g),.d (B i),.d (B j),.d (I k),.d (I l),.d (I m),.own 10 0,.own 11 0,.own 12 0])),(1,.row 0 5 c),(2,.row 0 5 e),(10,.row 0 1 o),(11,.row 0 6 a),(12,.row 0 7 b),(13,.box (.ptr 0 0 0 0 2)),(15,.box (.d (I t1))),(19,.box (.ptr 0 0 0 0 2)),(23,.loop true [(6,.fn (.func 82) [] [.ptr 19 0 0 0 0]),(5,.ptr 0 0 0 0 2),(3,.ptr 15 0 0 0 0),(2,.d (I 0)),(1,.ptr 13 0 0 0 0),(0,.ptr 0 0 0 0 2)] [7] (Z3 cx.P 107 0).1 (Z3 cx.P 107 0).2 22)] 72] (Qb (QE Xc h1) QA)
def Q9 (n:Nat)(b:Int)(i j:jVj)(a k:Int)(l m:Bool)(g h o:Int)(d e f:jVj):Option (Int×Int) := (WM n i j a k l m g h o d e f).bind fun c=>if Qg (b - a) then if Qg (c*(b - a)) then if Qg (g+(c*(b - a))) then if Qg (h+(c*(b - a))) then some ((g+(c*(b - a))),(h+(c*(b - a)))) else none else none else none else none
theorem WT {n p e f g i j k l m o a b c r}(h:Q9 n p e f g i j k l m o a b c=some r):ComputesO cx 63 [.ptr 0 0 0 0 2,.d (I p)] (some (Qa e f g i j k l m o a b c)) (.d (.agg [I r.1,I r.2])) (Qa e f g i j k l m o a b c) Zj:=by unfold Q9 at h;have⟨t1,h1,h⟩:=bo h;have⟨h2,h⟩:=gd h;have⟨h3,h⟩:=gd h;have⟨h4,h⟩:=gd h;have⟨h5,h⟩:=gd h;cases h;exact rfO 0 [.obj (some 0) (.d (I t1)) (Qa e f g i j k l m o a b c) Zj] (Qb h5 (Qb h4 (Qb h3 (Qb h2 (Qb (Ks h1) QA)))))
def Qn (n:Nat)(e:Int)(f g:jVj)(h i:Int)(j k:Bool)(l m o:Int)(b c d:jVj):Option (Int) := (Q9 n e f g h i j k l m o b c d).bind fun a=>(Qr n (!((a.1==(Zv a.1 1000000000000000))&&((a.2==(Zv a.2 1000000000000000))&&true))) 4).bind fun p=>some p
theorem Qu {n p e f g i j k l m o a b c r}(h:Qn n p e f g i j k l m o a b c=some r):ComputesO cx 62 [.ptr 0 0 0 0 2,.d (I p)] (some (Qa e f g i j k l m o a b c)) (.d (I r)) (Qa e f g i j k l m o a b c) Zj:=by unfold Qn at h;have⟨t1,h1,h⟩:=bo h;have⟨t2,h2,h⟩:=bo h;obtain rfl:=oi h;exact rfO 0 [.obj (some 0) (.d (.agg [I t1.1,I t1.2])) (Qa e f g i j k l m o a b c) Zj,.ret (I t2)] (Qb (Qs h2) (Qb (WT h1) QA))
def WE (n:Nat)(c:jVj)(d:jSj)(a:Int):Option (Int⊕Int⊕Unit) := if a<((c).length:Int) then(el Vg c a).bind fun b=>if(d.toList==b.toList)=true then some (.inr (.inl a)) else if Qg (a+1) then some (.inl (a+1)) else none else some (.inr (.inr ()))
noncomputable def zr (a:jVj)(b:jSj):Lp (Int) (Int⊕Unit):=⟨fun c=>[(0,.d (.lst false 1 a)),(1,.d (Qe b)),(7,.d (I ((a).length:Int))),(8,.d (I c))],fun _=>[],fun
 | (.inl e)=>.ret
 | (.inr e)=>(.exit 0),fun
 | (.inl e)=>[(4,.d (I e))]
 | (.inr e)=>[],fun _=>[]⟩
theorem Jr {n c d}(e)(r)(h:WE n c d e=some r):Rl (Zt cx.P 201 0) 19 0 false (zr c d) e r:=by
 unfold WE at h;obtain⟨a,h⟩|⟨a,h⟩:=io h
 ·have⟨ta2,ha2,h⟩:=bo h;have q:=Q2 Zb ha2 (Qb (jDj a) QA);obtain⟨b,h⟩|⟨b,h⟩:=io h
  ·cases h;exact rx 4 [b1,.el (Wj ta2),b1] [] [4] [] (Qb b q)
  have⟨ha4,h⟩:=gd h;cases h;exact rn 4 [b1,.el (Wj ta2),b0] [] [0,1,7,8] [] (Qb ha4 (Qb (Zy b) q))
 cases h;exact rx 4 [b0] [] [] [] (Qb (jEj a) QA)
def QC (n:Nat)(b:jVj)(c:jSj):Option (Int) := (QU (WE n b c) n 0).bind fun a=>match a with|.inl a=>(some a)|.inr a=>(some (-1))
theorem QJ {n b c r}(h:QC n b c=some r):Computes cx 201 [.lst false 1 b,Qe c] (I r):=by
 unfold QC at h;have⟨a,h1,h⟩:=bo h;obtain a|a:=a
 ·obtain rfl:=oi h;exact rf [.lp [] [0,1,7,8] [] .ret [(4,.d (I a))] [] 26] (Qb (QE Jr h1) QA)
 cases h;exact rf [.lp [] [0,1,7,8] [] (.exit 0) [] [] 26] (Qb (QE Jr h1) QA)
def Zf (n:Nat)(a:jVj)(b:jSj):Option (Bool) := (QC n a b).bind fun c=>some (decide (c>=0))
theorem Z7 {n a b r}(h:Zf n a b=some r):Computes cx 101 [.lst false 1 a,Qe b] (B r):=by unfold Zf at h;have⟨t1,h1,h⟩:=bo h;cases h;exact rf [.ret (I t1)] (Qb (QJ h1) QA)
def QZ (n:Nat)(a b:jSj)(c d:Int)(e f:Bool):Option (jSj) := some a
theorem Uq {n a b c d e f r}(h:QZ n a b c d e f=some r):Computes cx 202 [.agg [Qe a,Qe b,I c,I d,B e,B f]] (Qe r):=by unfold QZ at h;obtain rfl:=oi h;exact rf [] QA
def Zr (x:jSj×Int×Int×Int×Int×Int×Bool):D:=.agg [Qe x.1,I x.2.1,I x.2.2.1,I x.2.2.2.1,I x.2.2.2.2.1,I x.2.2.2.2.2.1,B x.2.2.2.2.2.2]
def Z4:D->Option (jSj×Int×Int×Int×Int×Int×Bool)
 | .agg [c0,c1,c2,c3,c4,c5,c6]=>(JY c0).bind fun a=>(YZ .i64 c1).bind fun b=>(YZ .i64 c2).bind fun c=>(YZ .i64 c3).bind fun d=>(YZ .i64 c4).bind fun e=>(YZ .i64 c5).bind fun f=>(wv c6).bind fun g=>some (a,b,c,d,e,f,g)
 | _=>none
theorem Zg {d:D}{x:jSj×Int×Int×Int×Int×Int×Bool}(h:Z4 d=some x):d=Zr x:=by
 unfold Z4 at h;split at h;case h_2=>cases h
 obtain⟨q,j,h⟩:=Wh h;obtain⟨r,k,h⟩:=Wh h;obtain⟨s,l,h⟩:=Wh h;obtain⟨t,m,h⟩:=Wh h;obtain⟨u,n,h⟩:=Wh h;obtain⟨v,o,h⟩:=Wh h;obtain⟨w,p,h⟩:=Wh h;cases h;have a:=UM j;have b:=Vj k;have c:=Vj l;have e:=Vj m;have f:=Vj n;have g:=Vj o;have i:=zH p;rw[a,b,c,e,f,g,i];rfl
def ZT (n:Nat)(a:jSj)(b c d e f:Int)(g:Bool):Option (jSj) := some a
theorem Up {n a b c d e f g r}(h:ZT n a b c d e f g=some r):Computes cx 204 [.agg [Qe a,I b,I c,I d,I e,I f,B g]] (Qe r):=by unfold ZT at h;obtain rfl:=oi h;exact rf [] QA
def ZV (n:Nat)(g h:jVj)(i j:Int)(k l:Bool)(m o p:Int)(e c f:jVj)(b:(Int×jVj)):Option (Int×jVj⊕jVj) := if b.1<((c).length:Int) then if 0<=b.1/\b.1<((c).length:Int) then((nth (c) (Int.toNat b.1)).bind QV).bind fun a=>(QZ n a.1 a.2.1 a.2.2.1 a.2.2.2.1 a.2.2.2.2.1 a.2.2.2.2.2).bind fun d=>if Wi 16 ((b.2).length+1) then if Qg (b.1+1) then some (.inl ((b.1+1),(b.2++([.v (.string d)]:jVj)))) else none else none else none else some (.inr b.2)
noncomputable def GJ (g h:jVj)(i j:Int)(k l:Bool)(m n o:Int)(b a c:jVj):Lp (Int×jVj) (jVj):=⟨fun f=>[(1,.d (.fn (.func 202) [] [])),(5,.own 30 0),(8,.own 11 0),(9,.d (I ((a).length:Int))),(10,.d (I f.1))],fun f=>[(0,.box (.agg [.own 1 0,.own 2 0,.d (I i),.d (I j),.d (B k),.d (B l),.d (I m),.d (I n),.d (I o),.own 10 0,.own 11 0,.own 12 0])),(1,.row 0 5 g),(2,.row 0 5 h),(10,.row 0 1 b),(11,.row 0 6 a),(12,.row 0 7 c),(30,.row 0 1 f.2)],fun _=>(.exit 0),fun _=>[(5,.own 30 0)],fun e=>[(0,.box (.agg [.own 1 0,.own 2 0,.d (I i),.d (I j),.d (B k),.d (B l),.d (I m),.d (I n),.d (I o),.own 10 0,.own 11 0,.own 12 0])),(1,.row 0 5 g),(2,.row 0 5 h),(10,.row 0 1 b),(11,.row 0 6 a),(12,.row 0 7 c),(30,.row 0 1 e)]⟩
theorem GF {n e f g i j k l m o b c d}(p)(r)(h:ZV n e f g i j k l m o b c d p=some r):Rl (Zt cx.P 35 0) 22 25 false (GJ e f g i j k l m o b c d) p r:=by
 unfold ZV at h;obtain⟨a,h⟩|⟨a,h⟩:=io h
 ·have⟨ha2,h⟩:=gd h;have⟨ta3,ha3,h⟩:=bo h;have⟨ta4,ha4,h⟩:=bo h;have⟨ha5,h⟩:=gd h;have⟨ha6,h⟩:=gd h;cases h;exact rn 31 [b1,b1,.el (QF ta3),.ret (Qe ta4),b1] [] [1,5,8,9,10] [0,1,2,10,11,12,30] (Qb ha6 (Qb (ro 9 ha5) (Qb (Uq ha4) (Qb (Q0 QB ha3) (Qb ha2 (Qb (jDj a) QA))))))
 cases h;exact rx 31 [b0] [] [5] [0,1,2,10,11,12,30] (Qb (jEj a) QA)
def ZU (n:Nat)(g h:jVj)(i j:Int)(k l:Bool)(m o p:Int)(e f c:jVj)(b:(Int×jVj)):Option (Int×jVj⊕jVj) := if b.1<((c).length:Int) then if 0<=b.1/\b.1<((c).length:Int) then((nth (c) (Int.toNat b.1)).bind Z4).bind fun a=>(ZT n a.1 a.2.1 a.2.2.1 a.2.2.2.1 a.2.2.2.2.1 a.2.2.2.2.2.1 a.2.2.2.2.2.2).bind fun d=>if Wi 16 ((b.2).length+1) then if Qg (b.1+1) then some (.inl ((b.1+1),(b.2++([.v (.string d)]:jVj)))) else none else none else none else some (.inr b.2)
noncomputable def GI (g h:jVj)(i j:Int)(k l:Bool)(m n o:Int)(b c a:jVj):Lp (Int×jVj) (jVj):=⟨fun f=>[(1,.d (.fn (.func 204) [] [])),(5,.own 30 0),(8,.own 12 0),(9,.d (I ((a).length:Int))),(10,.d (I f.1))],fun f=>[(0,.box (.agg [.own 1 0,.own 2 0,.d (I i),.d (I j),.d (B k),.d (B l),.d (I m),.d (I n),.d (I o),.own 10 0,.own 11 0,.own 12 0])),(1,.row 0 5 g),(2,.row 0 5 h),(10,.row 0 1 b),(11,.row 0 6 c),(12,.row 0 7 a),(30,.row 0 1 f.2)],fun _=>(.exit 0),fun _=>[(5,.own 30 0)],fun e=>[(0,.box (.agg [.own 1 0,.own 2 0,.d (I i),.d (I j),.d (B k),.d (B l),.d (I m),.d (I n),.d (I o),.own 10 0,.own 11 0,.own 12 0])),(1,.row 0 5 g),(2,.row 0 5 h),(10,.row 0 1 b),(11,.row 0 6 c),(12,.row 0 7 a),(30,.row 0 1 e)]⟩
theorem GE {n e f g i j k l m o b c d}(p)(r)(h:ZU n e f g i j k l m o b c d p=some r):Rl (Zt cx.P 203 0) 22 25 false (GI e f g i j k l m o b c d) p r:=by
 unfold ZU at h;obtain⟨a,h⟩|⟨a,h⟩:=io h
 ·have⟨ha2,h⟩:=gd h;have⟨ta3,ha3,h⟩:=bo h;have⟨ta4,ha4,h⟩:=bo h;have⟨ha5,h⟩:=gd h;have⟨ha6,h⟩:=gd h;cases h;exact rn 31 [b1,b1,.el (Zr ta3),.ret (Qe ta4),b1] [] [1,5,8,9,10] [0,1,2,10,11,12,30] (Qb ha6 (Qb (ro 9 ha5) (Qb (Up ha4) (Qb (Q0 Zg ha3) (Qb ha2 (Qb (jDj a) QA))))))
 cases h;exact rx 31 [b0] [] [5] [0,1,2,10,11,12,30] (Qb (jEj a) QA)
def Qt (n:Nat)(e:Int)(f g:jVj)(h i:Int)(j k:Bool)(l m o:Int)(a b c:jVj):Option (jVj) := if e=115 then none else if e=109 then(QU (ZV n f g h i j k l m o a b c) n (0,[])).bind fun d=>some d else(QU (ZU n f g h i j k l m o a b c) n (0,[])).bind fun d=>some d
theorem Qz {n s e f g i j k l m o a b c r}(h:Qt n s e f g i j k l m o a b c=some r):ComputesO cx 102 [.ptr 0 0 0 0 2,.d (.v (.int .u8 s))] (some (Qa e f g i j k l m o a b c)) (.d (.lst false 1 r)) (Qa e f g i j k l m o a b c) Zj:=by
 unfold Qt at h;obtain⟨t,h⟩|⟨t,h⟩:=io h
 ·cases h
 have q:=Qb (eqf t) QA;obtain⟨p,h⟩|⟨p,h⟩:=io h
 ·have⟨t3,h3,h⟩:=bo h;obtain rfl:=oi h;exact rfO 0 [b0,b1,b1,.lp [5,1] [1,5,8,9,10] [0,1,2,10,11,12,30] (.exit 0) [(5,.own 30 0)] [(0,.box (.agg [.own 1 0,.own 2 0,.d (I g),.d (I i),.d (B j),.d (B k),.d (I l),.d (I m),.d (I o),.own 10 0,.own 11 0,.own 12 0])),(1,.row 0 5 e),(2,.row 0 5 f),(10,.row 0 1 a),(11,.row 0 6 b),(12,.row 0 7 c),(30,.row 0 1 t3)] 56] (Qb (QE GF h3) (Qb (eqt p) q))
 have⟨t3,h3,h⟩:=bo h;obtain rfl:=oi h;exact rfO 0 [b0,b0,b1,.lp [5,1] [1,5,8,9,10] [0,1,2,10,11,12,30] (.exit 0) [(5,.own 30 0)] [(0,.box (.agg [.own 1 0,.own 2 0,.d (I g),.d (I i),.d (B j),.d (B k),.d (I l),.d (I m),.d (I o),.own 10 0,.own 11 0,.own 12 0])),(1,.row 0 5 e),(2,.row 0 5 f),(10,.row 0 1 a),(11,.row 0 6 b),(12,.row 0 7 c),(30,.row 0 1 t3)] 56] (Qb (QE GE h3) (Qb (eqf p) q))
def Qh (n:Nat)(s:jSj)(u:Int)(v w:FnD)(x:Int)(y:jSj)(r z:jVj)(A:jSj)(t g:jVj)(h i:Int)(j k:Bool)(l m o:Int)(e p q:jVj)(a:(Bool×Int)):Option (Bool×Int⊕Unit⊕Bool) := if a.2<(s.size:Int) then(UY s a.2).bind fun d=>if d<97 then if(IntKind.wrap .u8 (d+32))=115 then(el Vg r a.2).bind fun b=>(Zf n e b).bind fun c=>if a.1=true then if Qg (a.2+1) then some (.inl (true,(a.2+1))) else none else if Qg (a.2+1) then some (.inl (c,(a.2+1))) else none else(Qt n (IntKind.wrap .u8 (d+32)) t g h i j k l m o e p q).bind fun b=>(el Vg r a.2).bind fun c=>(Zf n b c).bind fun f=>if a.1=true then if Qg (a.2+1) then some (.inl (true,(a.2+1))) else none else if Qg (a.2+1) then some (.inl (f,(a.2+1))) else none else if d=115 then(el Vg r a.2).bind fun b=>(Zf n e b).bind fun c=>if c=true then if a.1=true then if Qg (a.2+1) then some (.inl (true,(a.2+1))) else none else if Qg (a.2+1) then some (.inl (false,(a.2+1))) else none else some (.inr (.inl ())) else(Qt n d t g h i j k l m o e p q).bind fun b=>(el Vg r a.2).bind fun c=>(Zf n b c).bind fun f=>if f=true then if a.1=true then if Qg (a.2+1) then some (.inl (true,(a.2+1))) else none else if Qg (a.2+1) then some (.inl (false,(a.2+1))) else none else some (.inr (.inl ())) else some (.inr (.inr a.1))
noncomputable def GK (p:jSj)(s:Int)(n o:FnD)(t:Int)(u:jSj)(v w:jVj)(x:jSj)(q a:jVj)(b c:Int)(f g:Bool)(h i j:Int)(k l m:jVj):Lp (Bool×Int) (Unit⊕Bool):=⟨fun r=>[(0,.ptr 0 0 0 0 2),(4,.ptr 13 0 0 0 0),(5,.ptr 14 0 0 0 0),(7,.d (B r.1)),(14,.d (I (p.size:Int))),(15,.d (I r.2))],fun _=>[(0,.box (.agg [.own 1 0,.own 2 0,.d (I b),.d (I c),.d (B f),.d (B g),.d (I h),.d (I i),.d (I j),.own 10 0,.own 11 0,.own 12 0])),(1,.row 0 5 q),(2,.row 0 5 a),(10,.row 0 1 k),(11,.row 0 6 l),(12,.row 0 7 m),(13,.box (.d (.agg [Qe p,I s,.fn n.1 n.2.1 n.2.2,.fn o.1 o.2.1 o.2.2]))),(14,.box (.d (.agg [I t,Qe u,.lst false 1 v,.lst false 1 w,Qe x])))],fun
 | (.inl e)=>.ret
 | (.inr e)=>(.exit 0),fun
 | (.inl e)=>[(6,.d (I 10))]
 | (.inr e)=>[(7,.d (B e))],fun _=>[(0,.box (.agg [.own 1 0,.own 2 0,.d (I b),.d (I c),.d (B f),.d (B g),.d (I h),.d (I i),.d (I j),.own 10 0,.own 11 0,.own 12 0])),(1,.row 0 5 q),(2,.row 0 5 a),(10,.row 0 1 k),(11,.row 0 6 l),(12,.row 0 7 m)]⟩
theorem Ur {n A F G H J K L M N z g i j k m p s t u w x}(E)(r)(h:Qh n A F G H J K L M N z g i j k m p s t u w x E=some r):Rl (Zt cx.P 167 0) 52 13 false (GK A F G H J K L M N z g i j k m p s t u w x) E r:=by
 unfold Qh at h;obtain⟨y,h⟩|⟨y,h⟩:=io h
 ·have⟨ta2,C,h⟩:=bo h;have q:=Qb (Qc1 C:Zu cx.P (Instr.index 9 (.string A) (.int .i64 E.2))=some (.int .u8 ta2)) (Qb (jDj y) QA);let o(l:jOj):=b1::.el (.v (.int .u8 ta2))::l;obtain⟨b,h⟩|⟨b,h⟩:=io h
  ·have q:=Qb (jDj b) q;obtain⟨f,h⟩|⟨f,h⟩:=io h
   ·have⟨ta5,ha5,h⟩:=bo h;have⟨ta6,ha6,h⟩:=bo h;have q:=Qb (zV (jDj b)) (Qb (Z7 ha6) (Q2 Zb ha5 (Qb (eqt f) q)));let o l:=o (b1::.ix (-9)::b1::b1::.el (Wj ta5)::.ix 0::.ret (B ta6)::b0::.no::l);obtain⟨c,h⟩|⟨c,h⟩:=io h
    ·have⟨a,h⟩:=gd h;cases h;exact rn 21 (o [b1]) [] [0,4,5,7,14,15] [0,1,2,10,11,12,13,14] (Qb a (Qb c q))
    have⟨a,h⟩:=gd h;cases h;exact rn 21 (o [b0,b1]) [] [0,4,5,7,14,15] [0,1,2,10,11,12,13,14] (Qb a (Qb (jDj b) (Qb (Zy c) q)))
   have⟨ta5,ha5,h⟩:=bo h;have⟨ta6,ha6,h⟩:=bo h;have⟨ta7,c,h⟩:=bo h;have q:=Qb (zV (jDj b)) (Qb (Z7 c) (Q2 Zb ha6 (Qb (Qz ha5) q)));let o l:=o (b1::.obj (some 0) (.d (.lst false 1 ta5)) (Qa z g i j k m p s t u w x) Zj::.el (Wj ta6)::.ret (B ta7)::b0::.no::l);obtain⟨a,h⟩|⟨a,h⟩:=io h
   ·have⟨e,h⟩:=gd h;cases h;exact rn 21 (o [b1]) [] [0,4,5,7,14,15] [0,1,2,10,11,12,13,14] (Qb e (Qb a q))
   have⟨e,h⟩:=gd h;cases h;exact rn 21 (o [b0,b1]) [] [0,4,5,7,14,15] [0,1,2,10,11,12,13,14] (Qb e (Qb (jDj b) (Qb (Zy a) q)))
  have q:=Qb (jEj b) q;let o l:=o (b0::l);obtain⟨f,h⟩|⟨f,h⟩:=io h
  ·have⟨ta5,ha5,h⟩:=bo h;have⟨ta6,ha6,h⟩:=bo h;have q:=Qb (wG (jEj b)) (Qb (Z7 ha6) (Q2 Zb ha5 (Qb (eqt f) q)));let o l:=o (.ix (-9)::b1::b1::.el (Wj ta5)::.ix 0::.ret (B ta6)::b1::l);obtain⟨c,h⟩|⟨c,h⟩:=io h
   ·have q:=Qb (zV c) q;obtain⟨a,h⟩|⟨a,h⟩:=io h
    ·have⟨e,h⟩:=gd h;cases h;exact rn 21 (o [b0,b1]) [] [0,4,5,7,14,15] [0,1,2,10,11,12,13,14] (Qb e (Qb a q))
    have⟨e,h⟩:=gd h;cases h;exact rn 21 (o [b0,b0,b0]) [] [0,4,5,7,14,15] [0,1,2,10,11,12,13,14] (Qb e (Qb (jEj b) (Qb (Zy a) q)))
   cases h;exact rx 21 (o [b1]) [] [6] [0,1,2,10,11,12] (Qb (wG (Zy c)) q)
  have⟨ta5,ha5,h⟩:=bo h;have⟨ta6,ha6,h⟩:=bo h;have⟨ta7,c,h⟩:=bo h;have q:=Qb (wG (jEj b)) (Qb (Z7 c) (Q2 Zb ha6 (Qb (Qz ha5) q)));let o l:=o (.obj (some 0) (.d (.lst false 1 ta5)) (Qa z g i j k m p s t u w x) Zj::.el (Wj ta6)::.ret (B ta7)::b1::l);obtain⟨a,h⟩|⟨a,h⟩:=io h
  ·have q:=Qb (zV a) q;obtain⟨e,h⟩|⟨e,h⟩:=io h
   ·have⟨ha10,h⟩:=gd h;cases h;exact rn 21 (o [b0,b1]) [] [0,4,5,7,14,15] [0,1,2,10,11,12,13,14] (Qb ha10 (Qb e q))
   have⟨ha10,h⟩:=gd h;cases h;exact rn 21 (o [b0,b0,b0]) [] [0,4,5,7,14,15] [0,1,2,10,11,12,13,14] (Qb ha10 (Qb (jEj b) (Qb (Zy e) q)))
  cases h;exact rx 21 (o [b1]) [] [6] [0,1,2,10,11,12] (Qb (wG (Zy a)) q)
 cases h;exact rx 21 [b0] [] [7] [0,1,2,10,11,12] (Qb (jEj y) QA)
def Ql (n:Nat)(m:jSj)(o:Int)(p q:FnD)(r:Int)(s:jSj)(t u:jVj)(v:jSj)(w b:jVj)(c d:Int)(e f:Bool)(g h i:Int)(j k l:jVj):Option (Int) := (QU (Qh n m o p q r s t u v w b c d e f g h i j k l) n (false,0)).bind fun a=>match a with|.inl a=>(some 10)|.inr a=>((Qr n a 9).bind fun x=>some x)
theorem QH {n t u p q v w x y z o a b c e f g i j k l m r}(h:Ql n t u p q v w x y z o a b c e f g i j k l m=some r):ComputesO cx 167 [.ptr 0 0 0 0 2,.d (.agg [Qe t,I u,.fn p.1 p.2.1 p.2.2,.fn q.1 q.2.1 q.2.2]),.d (.agg [I v,Qe w,.lst false 1 x,.lst false 1 y,Qe z])] (some (Qa o a b c e f g i j k l m)) (.d (I r)) (Qa o a b c e f g i j k l m) Zj:=by
 unfold Ql at h;have⟨s,h1,h⟩:=bo h;obtain s|s:=s
 ·obtain rfl:=oi h;exact rfO 0 [.lp [] [0,4,5,7,14,15] [0,1,2,10,11,12,13,14] .ret [(6,.d (I 10))] [(0,.box (.agg [.own 1 0,.own 2 0,.d (I b),.d (I c),.d (B e),.d (B f),.d (I g),.d (I i),.d (I j),.own 10 0,.own 11 0,.own 12 0])),(1,.row 0 5 o),(2,.row 0 5 a),(10,.row 0 1 k),(11,.row 0 6 l),(12,.row 0 7 m)] 82] (Qb (QE Ur h1) QA)
 have⟨t2,h2,h⟩:=bo h;obtain rfl:=oi h;exact rfO 0 [.lp [] [0,4,5,7,14,15] [0,1,2,10,11,12,13,14] (.exit 0) [(7,.d (B s))] [(0,.box (.agg [.own 1 0,.own 2 0,.d (I b),.d (I c),.d (B e),.d (B f),.d (I g),.d (I i),.d (I j),.own 10 0,.own 11 0,.own 12 0])),(1,.row 0 5 o),(2,.row 0 5 a),(10,.row 0 1 k),(11,.row 0 6 l),(12,.row 0 7 m)] 82,.ret (I t2)] (Qb (Qs h2) (Qb (QE Ur h1) QA))
def Wn (n:Nat)(e f:jVj)(g h:Int)(i j:Bool)(k l m:Int)(o c d:jVj)(b:Int):Option (Int⊕Unit⊕Unit) := if b<((c).length:Int) then if 0<=b/\b<((c).length:Int) then((nth (c) (Int.toNat b)).bind QV).bind fun a=>if a.2.2.2.2.2=true then if((a.1==(⟨#[]⟩:jSj))&&((a.2.1==(⟨#[]⟩:jSj))&&((a.2.2.1==0)&&((a.2.2.2.1==0)&&((a.2.2.2.2.1==false)&&((a.2.2.2.2.2==false)&&true))))))=true then if Qg (b+1) then some (.inl (b+1)) else none else some (.inr (.inl ())) else if Qg (b+1) then some (.inl (b+1)) else none else none else some (.inr (.inr ()))
noncomputable def XV (c f:jVj)(g h:Int)(i j:Bool)(k l m:Int)(n a b:jVj):Lp (Int) (Unit⊕Unit):=⟨fun o=>[(0,.own 22 0),(8,.own 11 0),(9,.d (I ((a).length:Int))),(10,.d (I o))],fun _=>[(0,.box (.agg [.own 1 0,.own 2 0,.d (I g),.d (I h),.d (B i),.d (B j),.d (I k),.d (I l),.d (I m),.own 10 0,.own 11 0,.own 12 0])),(1,.row 0 5 c),(2,.row 0 5 f),(10,.row 0 1 n),(11,.row 0 6 a),(12,.row 0 7 b),(14,.box (.d (B false))),(18,.box (.ptr 0 0 0 0 2)),(22,.loop true [(6,.fn (.func 82) [] [.ptr 18 0 0 0 0]),(5,.ptr 0 0 0 0 2),(3,.ptr 14 0 0 0 0),(2,.d (B false)),(0,.ptr 0 0 0 0 2)] [7] (Z3 cx.P 148 0).1 (Z3 cx.P 148 0).2 12)],fun
 | (.inl e)=>.ret
 | (.inr e)=>(.exit 0),fun _=>[],fun
 | (.inl e)=>[(0,.box (.agg [.own 1 0,.own 2 0,.d (I g),.d (I h),.d (B i),.d (B j),.d (I k),.d (I l),.d (I m),.own 10 0,.own 11 0,.own 12 0])),(1,.row 0 5 c),(2,.row 0 5 f),(10,.row 0 1 n),(11,.row 0 6 a),(12,.row 0 7 b),(14,.box (.d (B true))),(18,.box (.ptr 0 0 0 0 2)),(22,.left (.exit 0))]
 | (.inr e)=>[(0,.box (.agg [.own 1 0,.own 2 0,.d (I g),.d (I h),.d (B i),.d (B j),.d (I k),.d (I l),.d (I m),.own 10 0,.own 11 0,.own 12 0])),(1,.row 0 5 c),(2,.row 0 5 f),(10,.row 0 1 n),(11,.row 0 6 a),(12,.row 0 7 b),(14,.box (.d (B false))),(18,.box (.ptr 0 0 0 0 2)),(22,.loop true [(6,.fn (.func 82) [] [.ptr 18 0 0 0 0]),(5,.ptr 0 0 0 0 2),(3,.ptr 14 0 0 0 0),(2,.d (B false)),(0,.ptr 0 0 0 0 2)] [7] (Z3 cx.P 148 0).1 (Z3 cx.P 148 0).2 12)]⟩
theorem UU {n f g i j k m p s t u d e}(v)(r)(h:Wn n f g i j k m p s t u d e v=some r):Rl (Zt cx.P 82 0) 23 23 false (XV f g i j k m p s t u d e) v r:=by
 unfold Wn at h;obtain⟨b,h⟩|⟨b,h⟩:=io h
 ·have⟨ha2,h⟩:=gd h;have⟨ta3,ha3,h⟩:=bo h;have q:=Qb (Q0 QB ha3) (Qb ha2 (Qb (jDj b) QA));let o(l:jOj):=b1::b1::.el (QF ta3)::l;obtain⟨c,h⟩|⟨c,h⟩:=io h
  ·have q:=Qb c q;obtain⟨a,h⟩|⟨a,h⟩:=io h
   ·have⟨ha6,h⟩:=gd h;cases h;exact rn 29 (o [b1,b0,.no]) [] [0,8,9,10] [0,1,2,10,11,12,14,18,22] (Qb ha6 (Qb (zV a) q))
   cases h;exact rx 29 (o [b1,b1,.no]) [] [] [0,1,2,10,11,12,14,18,22] (Qb (wG (Zy a)) q)
  have⟨a,h⟩:=gd h;cases h;exact rn 29 (o [b0,.no]) [] [0,8,9,10] [0,1,2,10,11,12,14,18,22] (Qb a (Qb (Zy c) q))
 cases h;exact rx 29 [b0] [] [] [0,1,2,10,11,12,14,18,22] (Qb (jEj b) QA)
def VE (n:Nat)(d e:jVj)(f g:Int)(h i:Bool)(j k l:Int)(m a b:jVj):Option (Bool) := (QU (Wn n d e f g h i j k l m a b) n 0).bind fun c=>match c with|.inl c=>(some true)|.inr c=>(some false)
theorem qv {n c e f g i j k l m o a b r}(h:VE n c e f g i j k l m o a b=some r):ComputesO cx 148 [.ptr 0 0 0 0 2] (some (Qa c e f g i j k l m o a b)) (.d (B r)) (Qa c e f g i j k l m o a b) Zj:=by
 unfold VE at h;have⟨p,h1,h⟩:=bo h;obtain p|p:=p
 ·obtain rfl:=oi h;exact rfO 0 [b1,.lp [] [0,8,9,10] [0,1,2,10,11,12,14,18,22] .ret [] [(0,.box (.agg [.own 1 0,.own 2 0,.d (I f),.d (I g),.d (B i),.d (B j),.d (I k),.d (I l),.d (I m),.own 10 0,.own 11 0,.own 12 0])),(1,.row 0 5 c),(2,.row 0 5 e),(10,.row 0 1 o),(11,.row 0 6 a),(12,.row 0 7 b),(14,.box (.d (B true))),(18,.box (.ptr 0 0 0 0 2)),(22,.left (.exit 0))] 60] (Qb (QE UU h1) QA)
 obtain rfl:=oi h;exact rfO 0 [b1,.lp [] [0,8,9,10] [0,1,2,10,11,12,14,18,22] (.exit 0) [] [(0,.box (.agg [.own 1 0,.own 2 0,.d (I f),.d (I g),.d (B i),.d (B j),.d (I k),.d (I l),.d (I m),.own 10 0,.own 11 0,.own 12 0])),(1,.row 0 5 c),(2,.row 0 5 e),(10,.row 0 1 o),(11,.row 0 6 a),(12,.row 0 7 b),(14,.box (.d (B false))),(18,.box (.ptr 0 0 0 0 2)),(22,.loop true [(6,.fn (.func 82) [] [.ptr 18 0 0 0 0]),(5,.ptr 0 0 0 0 2),(3,.ptr 14 0 0 0 0),(2,.d (B false)),(0,.ptr 0 0 0 0 2)] [7] (Z3 cx.P 148 0).1 (Z3 cx.P 148 0).2 12)] 60] (Qb (QE UU h1) QA)
def Km (n:Nat)  : Option (Int) :=
 some 14
theorem qk {n:Nat}  {r:Int}(h:Km n =some r):Computes cx 29 [B true,I 14] (I r):=by unfold Km at h;obtain rfl:=oi h;exact rf [.no] QA
def Vb (n:Nat)(f:Int)(g:jSj)(h b:jVj)(i:jSj):Option (Int×Int×Int) := (el V5 b 1).bind fun a=>(el V5 b 2).bind fun c=>(el V5 b 0).bind fun e=>if a<e then(Km n).bind fun d=>some (a,c,d) else(Qr n (decide (a>=c)) 14).bind fun d=>some (a,c,d)
theorem Eo {n b c d e f r}(h:Vb n b c d e f=some r):Computes cx 156 [.agg [I b,Qe c,.lst false 1 d,.lst false 1 e,Qe f]] (.tup [.agg [I r.1,I r.2.1],I r.2.2]):=by
 unfold Vb at h;have⟨t1,h1,h⟩:=bo h;have⟨t2,h2,h⟩:=bo h;have⟨t3,h3,h⟩:=bo h;have q:=Q2 QM h3 (Q2 QM h2 (Q2 QM h1 QA));let o(l:jOj):=.el (Zi t1)::.el (Zi t2)::.el (Zi t3)::l;obtain⟨a,h⟩|⟨a,h⟩:=io h
 ·have⟨t5,h5,h⟩:=bo h;cases h;exact rf (o [b1,.ret (I t5)]) (Qb (qk h5) (Qb (jDj a) q))
 have⟨t5,h5,h⟩:=bo h;cases h;exact rf (o [b0,.ret (I t5)]) (Qb (Qs h5) (Qb (jEj a) q))
def Za (n:Nat)(c:jSj)(d e a f b:Int)(g:Bool):Option (Int) := if Qg (a - b) then some (a - b) else none
theorem WU {n a b c d e f g r}(h:Za n a b c d e f g=some r):Computes cx 117 [.agg [Qe a,I b,I c,I d,I e,I f,B g]] (I r):=by unfold Za at h;have⟨h1,h⟩:=gd h;cases h;exact rf [] (Qb h1 QA)
def Qq (n:Nat)(G:Int)(o:jSj)(v u:jVj)(H:jSj)(j h:jVj)(k l:Int)(i c:Bool)(e f g:Int)(d a b:jVj):Option (Int) := if Qg (((j).length:Int)+1) then if G=(((j).length:Int)+1) then if(o.toList==(⟨#[117,110,100,111]⟩:jSj).toList)=true then if((h).length:Int)=0 then some 12 else if Qg (((h).length:Int) - 1) then if 0<=(((h).length:Int) - 1)/\(((h).length:Int) - 1)<((h).length:Int) then((nth (h) (Int.toNat (((h).length:Int) - 1))).bind Wc).bind fun X=>if(X.2.1.toList==(⟨#[100,101,108,105,118,101,114]⟩:jSj).toList)=true then(Ko n).bind fun t9=>some t9 else(Qr n (X.2.1.toList==(⟨#[98,105,108,108]⟩:jSj).toList) 21).bind fun t9=>some t9 else none else none else(el V5 u 0).bind fun x=>if x<k then some 22 else if o.data.toList=[115,101,99,116,111,114] then(Qn n x j h k l i c e f g d a b).bind fun X=>(Ql n (⟨#[83]⟩) 1 ((.func 122:Fn),[],[]) ((.func 123:Fn),[],[]) G o v u H j h k l i c e f g d a b).bind fun Y=>(Qi n ([I X,I Y])).bind fun t9=>if t9=0 then(Qr n (((d).length:Int)==8) 5).bind fun J=>some J else some t9 else if o.data.toList=[109,105,114,114,111,114] then(Qn n x j h k l i c e f g d a b).bind fun Y=>(Ql n (⟨#[77,115]⟩) 2 ((.func 124:Fn),[],[]) ((.func 125:Fn),[],[]) G o v u H j h k l i c e f g d a b).bind fun t9=>(Qi n ([I Y,I t9])).bind fun t10=>if t10=0 then(el V5 u 1).bind fun K=>(ZJ n K 1 100).bind fun y=>(Qr n (((a).length:Int)==32) 5).bind fun z=>(Qi n ([I y,I z])).bind fun A=>some A else some t10 else if o.data.toList=[115,111,105,108] then(Qn n x j h k l i c e f g d a b).bind fun t9=>(Ql n (⟨#[109]⟩) 2 ((.func 126:Fn),[],[]) ((.func 212:Fn),[],[.ref (.fn (.func 128) [] []) 0]) G o v u H j h k l i c e f g d a b).bind fun t10=>(Qi n ([I t9,I t10])).bind fun J=>if J=0 then(el V5 u 1).bind fun y=>(ZJ n y 0 1000).bind fun z=>some z else some J else if o.data.toList=[99,108,101,97,110] then(Qn n x j h k l i c e f g d a b).bind fun t10=>(Ql n (⟨#[109]⟩) 1 ((.func 129:Fn),[],[]) ((.func 212:Fn),[],[.ref (.fn (.func 130) [] []) 0]) G o v u H j h k l i c e f g d a b).bind fun J=>(Qi n ([I t10,I J])).bind fun K=>if K=0 then some 0 else some K else if o.data.toList=[100,101,102,101,99,116] then(Qn n x j h k l i c e f g d a b).bind fun J=>(Ql n (⟨#[109]⟩) 1 ((.func 213:Fn),[],[.ref (.fn (.func 132) [] []) 0]) ((.func 212:Fn),[],[.ref (.fn (.func 133) [] []) 0]) G o v u H j h k l i c e f g d a b).bind fun K=>(Qi n ([I J,I K])).bind fun y=>if y=0 then(el Vg v 0).bind fun A=>(Qt n 109 j h k l i c e f g d a b).bind fun C=>(QC n C A).bind fun t17=>if 0<=t17/\t17<((a).length:Int) then((nth (a) (Int.toNat t17)).bind QV).bind fun r=>(Qr n r.2.2.2.2.1 9).bind fun p=>(Qr n r.2.2.2.2.2 31).bind fun q=>(Qi n ([I p,I q])).bind fun t=>some t else none else some y else if o.data.toList=[114,101,112,97,105,114] then(Qn n x j h k l i c e f g d a b).bind fun K=>(Ql n (⟨#[109]⟩) 1 ((.func 213:Fn),[],[.ref (.fn (.func 134) [] []) 0]) ((.func 212:Fn),[],[.ref (.fn (.func 135) [] []) 0]) G o v u H j h k l i c e f g d a b).bind fun y=>(Qi n ([I K,I y])).bind fun z=>if z=0 then(el Vg v 0).bind fun C=>(Qt n 109 j h k l i c e f g d a b).bind fun t17=>(QC n t17 C).bind fun t18=>if 0<=t18/\t18<((a).length:Int) then((nth (a) (Int.toNat t18)).bind QV).bind fun p=>(Qr n (!p.2.2.2.2.1) 22).bind fun q=>some q else none else some z else if o.data.toList=[97,105,109] then(Qn n x j h k l i c e f g d a b).bind fun y=>(Ql n (⟨#[109]⟩) 1 ((.func 213:Fn),[],[.ref (.fn (.func 136) [] []) 0]) ((.func 212:Fn),[],[.ref (.fn (.func 137) [] []) 0]) G o v u H j h k l i c e f g d a b).bind fun z=>(Qi n ([I y,I z])).bind fun A=>if A=0 then(el Vg v 0).bind fun t17=>(Qt n 109 j h k l i c e f g d a b).bind fun t18=>(QC n t18 t17).bind fun r=>if 0<=r/\r<((a).length:Int) then(Qr n (!i) 30).bind fun q=>(Qr n c 29).bind fun t=>((nth (a) (Int.toNat r)).bind QV).bind fun s=>(Qr n s.2.2.2.2.1 21).bind fun w=>(Qr n s.2.2.2.2.2 9).bind fun E=>(Qi n ([I q,I t,I w,I E])).bind fun L=>some L else none else some A else if o.data.toList=[112,97,114,107] then(Qn n x j h k l i c e f g d a b).bind fun z=>(Ql n (⟨#[109]⟩) 1 ((.func 213:Fn),[],[.ref (.fn (.func 138) [] []) 0]) ((.func 212:Fn),[],[.ref (.fn (.func 139) [] []) 0]) G o v u H j h k l i c e f g d a b).bind fun A=>(Qi n ([I z,I A])).bind fun C=>if C=0 then(el Vg v 0).bind fun t18=>(Qt n 109 j h k l i c e f g d a b).bind fun r=>(QC n r t18).bind fun p=>if 0<=p/\p<((a).length:Int) then((nth (a) (Int.toNat p)).bind QV).bind fun t=>(Qr n (!t.2.2.2.2.2) 22).bind fun s=>some s else none else some C else if o.data.toList=[100,105,109] then(Qn n x j h k l i c e f g d a b).bind fun A=>(Ql n (⟨#[115]⟩) 1 ((.func 129:Fn),[],[]) ((.func 140:Fn),[],[]) G o v u H j h k l i c e f g d a b).bind fun C=>(Qi n ([I A,I C])).bind fun t17=>if t17=0 then some 0 else some t17 else if o.data.toList=[115,117,110] then(Qn n x j h k l i c e f g d a b).bind fun C=>(Ql n (⟨#[]⟩) 2 ((.func 143:Fn),[],[]) ((.func 144:Fn),[],[]) G o v u H j h k l i c e f g d a b).bind fun t17=>(Qi n ([I C,I t17])).bind fun t18=>if t18=0 then(el V5 u 1).bind fun p=>(ZJ n p 0 1000).bind fun q=>some q else some t18 else if o.data.toList=[102,105,108,108] then(Qn n x j h k l i c e f g d a b).bind fun t17=>(Ql n (⟨#[]⟩) 1 ((.func 145:Fn),[],[]) ((.func 146:Fn),[],[]) G o v u H j h k l i c e f g d a b).bind fun t18=>(Qi n ([I t17,I t18])).bind fun r=>if r=0 then(Qr n i 9).bind fun q=>some q else some r else if o.data.toList=[100,114,97,105,110] then(Qn n x j h k l i c e f g d a b).bind fun t18=>(Ql n (⟨#[]⟩) 1 ((.func 147:Fn),[],[]) ((.func 149:Fn),[],[]) G o v u H j h k l i c e f g d a b).bind fun r=>(Qi n ([I t18,I r])).bind fun p=>if p=0 then(Qr n (!i) 22).bind fun t=>(VE n j h k l i c e f g d a b).bind fun s=>(Qr n s 31).bind fun w=>(Qi n ([I t,I w])).bind fun E=>some E else some p else if o.data.toList=[116,114,105,112] then(Qn n x j h k l i c e f g d a b).bind fun r=>(Ql n (⟨#[]⟩) 1 ((.func 150:Fn),[],[]) ((.func 151:Fn),[],[]) G o v u H j h k l i c e f g d a b).bind fun p=>(Qi n ([I r,I p])).bind fun q=>if q=0 then(Qr n c 9).bind fun s=>some s else some q else if o.data.toList=[114,101,115,101,116] then(Qn n x j h k l i c e f g d a b).bind fun p=>(Ql n (⟨#[]⟩) 1 ((.func 153:Fn),[],[]) ((.func 154:Fn),[],[]) G o v u H j h k l i c e f g d a b).bind fun q=>(Qi n ([I p,I q])).bind fun t=>if t=0 then(Qr n (!c) 22).bind fun w=>some w else some t else if o.data.toList=[111,102,102,101,114] then(Qn n x j h k l i c e f g d a b).bind fun q=>(Ql n (⟨#[79]⟩) 5 ((.func 155:Fn),[],[]) ((.func 157:Fn),[],[]) G o v u H j h k l i c e f g d a b).bind fun t=>(Qi n ([I q,I t])).bind fun s=>if s=0 then(Vb n G o v u H).bind fun E=>(el V5 u 3).bind fun L=>(ZJ n L 1 1000).bind fun N=>(el V5 u 4).bind fun M=>(ZJ n M 0 1000).bind fun O=>(Qr n (((b).length:Int)==32) 5).bind fun F=>(Qi n ([I E.2.2,I N,I O,I F])).bind fun m=>some m else some s else if o.data.toList=[100,101,108,105,118,101,114] then(Qn n x j h k l i c e f g d a b).bind fun t=>(Ql n (⟨#[111]⟩) 2 ((.func 158:Fn),[],[]) ((.func 159:Fn),[],[]) G o v u H j h k l i c e f g d a b).bind fun s=>(Qi n ([I t,I s])).bind fun w=>if w=0 then(el Vg v 0).bind fun L=>(Qt n 111 j h k l i c e f g d a b).bind fun N=>(QC n N L).bind fun M=>if 0<=M/\M<((b).length:Int) then(el V5 u 1).bind fun F=>((nth (b) (Int.toNat M)).bind Z4).bind fun m=>(Qr n m.2.2.2.2.2.2 23).bind fun Q=>if x<m.2.1 then(Km n).bind fun t34=>(Qr n (F==0) 3).bind fun S=>(Za n m.1 m.2.1 m.2.2.1 m.2.2.2.1 m.2.2.2.2.1 m.2.2.2.2.2.1 m.2.2.2.2.2.2).bind fun T=>(Qr n (decide (F>T)) 20).bind fun U=>(Qi n ([I Q,I t34,I S,I U])).bind fun P=>if P=0 then if Qg (F*1000000) then(Q9 n x j h k l i c e f g d a b).bind fun V=>(Qr n (decide ((F*1000000)>V.2)) 16).bind fun W=>some W else none else some P else(Qr n (decide (x>=m.2.2.1)) 14).bind fun t34=>(Qr n (F==0) 3).bind fun S=>(Za n m.1 m.2.1 m.2.2.1 m.2.2.2.1 m.2.2.2.2.1 m.2.2.2.2.2.1 m.2.2.2.2.2.2).bind fun T=>(Qr n (decide (F>T)) 20).bind fun U=>(Qi n ([I Q,I t34,I S,I U])).bind fun P=>if P=0 then if Qg (F*1000000) then(Q9 n x j h k l i c e f g d a b).bind fun V=>(Qr n (decide ((F*1000000)>V.2)) 16).bind fun W=>some W else none else some P else none else some w else if o.data.toList=[98,105,108,108] then(Qn n x j h k l i c e f g d a b).bind fun s=>(Ql n (⟨#[111]⟩) 1 ((.func 161:Fn),[],[]) ((.func 162:Fn),[],[]) G o v u H j h k l i c e f g d a b).bind fun w=>(Qi n ([I s,I w])).bind fun E=>if E=0 then(el Vg v 0).bind fun N=>(Qt n 111 j h k l i c e f g d a b).bind fun M=>(QC n M N).bind fun O=>if 0<=O/\O<((b).length:Int) then((nth (b) (Int.toNat O)).bind Z4).bind fun m=>(Qr n m.2.2.2.2.2.2 23).bind fun Q=>(Qr n (decide (x<m.2.2.1)) 32).bind fun t33=>(Qi n ([I Q,I t33])).bind fun t34=>some t34 else none else some E else if o.data.toList=[117,110,100,111] then(Qn n x j h k l i c e f g d a b).bind fun w=>(Ql n (⟨#[]⟩) 0 ((.func 129:Fn),[],[]) ((.func 164:Fn),[],[]) G o v u H j h k l i c e f g d a b).bind fun E=>(Qi n ([I w,I E])).bind fun L=>if L=0 then some 0 else some L else none else some 11 else none
abbrev JU:D:=.agg [.v (.string ⟨#[109]⟩),I 1,.fn (.func 129) [] [],.fn (.func 212) [] [.ref (.fn (.func 130) [] []) 0]]
abbrev JT:D:=.agg [.v (.string ⟨#[109]⟩),I 1,.fn (.func 213) [] [.ref (.fn (.func 132) [] []) 0],.fn (.func 212) [] [.ref (.fn (.func 133) [] []) 0]]
abbrev JS:D:=.agg [.v (.string ⟨#[109]⟩),I 1,.fn (.func 213) [] [.ref (.fn (.func 134) [] []) 0],.fn (.func 212) [] [.ref (.fn (.func 135) [] []) 0]]
abbrev JR:D:=.agg [.v (.string ⟨#[109]⟩),I 1,.fn (.func 213) [] [.ref (.fn (.func 136) [] []) 0],.fn (.func 212) [] [.ref (.fn (.func 137) [] []) 0]]
abbrev JQ:D:=.agg [.v (.string ⟨#[109]⟩),I 1,.fn (.func 213) [] [.ref (.fn (.func 138) [] []) 0],.fn (.func 212) [] [.ref (.fn (.func 139) [] []) 0]]
abbrev JP:D:=.agg [.v (.string ⟨#[109]⟩),I 2,.fn (.func 126) [] [],.fn (.func 212) [] [.ref (.fn (.func 128) [] []) 0]]
abbrev JO:D:=.agg [.v (.string ⟨#[111]⟩),I 1,.fn (.func 161) [] [],.fn (.func 162) [] []]
abbrev JN:D:=.agg [.v (.string ⟨#[111]⟩),I 2,.fn (.func 158) [] [],.fn (.func 159) [] []]
abbrev JM:D:=.agg [.v (.string ⟨#[115]⟩),I 1,.fn (.func 129) [] [],.fn (.func 140) [] []]
abbrev KJ:D:=.agg [.v (.string ⟨#[77,115]⟩),I 2,.fn (.func 124) [] [],.fn (.func 125) [] []]
abbrev KI:D:=.agg [.v (.string ⟨#[79]⟩),I 5,.fn (.func 155) [] [],.fn (.func 157) [] []]
abbrev KH:D:=.agg [.v (.string ⟨#[83]⟩),I 1,.fn (.func 122) [] [],.fn (.func 123) [] []]
abbrev KG:D:=.agg [.v (.string ⟨#[]⟩),I 0,.fn (.func 129) [] [],.fn (.func 164) [] []]
abbrev KF:D:=.agg [.v (.string ⟨#[]⟩),I 1,.fn (.func 145) [] [],.fn (.func 146) [] []]
abbrev KE:D:=.agg [.v (.string ⟨#[]⟩),I 1,.fn (.func 147) [] [],.fn (.func 149) [] []]
abbrev KD:D:=.agg [.v (.string ⟨#[]⟩),I 1,.fn (.func 150) [] [],.fn (.func 151) [] []]
abbrev KC:D:=.agg [.v (.string ⟨#[]⟩),I 1,.fn (.func 153) [] [],.fn (.func 154) [] []]
abbrev KB:D:=.agg [.v (.string ⟨#[]⟩),I 2,.fn (.func 143) [] [],.fn (.func 144) [] []]
theorem Yr {n Z a1 a2 a3 a4 k m p s t a b c e f g i r}(h:Qq n Z a1 a2 a3 a4 k m p s t a b c e f g i=some r):ComputesO cx 57 [.ptr 0 0 0 0 0,.d (.agg [I Z,Qe a1,.lst false 1 a2,.lst false 1 a3,Qe a4])] (some (Qa k m p s t a b c e f g i)) (.d (I r)) (Qa k m p s t a b c e f g i) Zj:=by
 unfold Qq at h;have⟨h1,h⟩:=gd h;have q:=Qb h1 QA;obtain⟨X,h⟩|⟨X,h⟩:=io h
 ·have q:=Qb (nef X) q;let o(l:jOj):=b0::l;obtain⟨Y,h⟩|⟨Y,h⟩:=io h
  ·have q:=Qb Y q;obtain⟨M,h⟩|⟨M,h⟩:=io h
   ·obtain rfl:=oi h;exact rfO 0 (o [b1,b1]) (Qb (eqt M) q)
   have⟨V,h⟩:=gd h;have⟨W,h⟩:=gd h;have⟨t7,U,h⟩:=bo h;have q:=Qb (Q0 V6 U) (Qb W (Qb V (Qb (eqf M) q)));let o l:=o (b1::b0::b1::.el (VQ t7)::l);obtain⟨T,h⟩|⟨T,h⟩:=io h
   ·have⟨t9,Q,h⟩:=bo h;obtain rfl:=oi h;exact rfO 0 (o [b1,.ret (I t9)]) (Qb (Qai Q) (Qb T q))
   have⟨t9,Q,h⟩:=bo h;obtain rfl:=oi h;exact rfO 0 (o [b0,.ret (I t9)]) (Qb (Qs Q) (Qb (Zy T) q))
  have⟨t4,M,h⟩:=bo h;have q:=Q2 QM M (Qb (Zy Y) q);let o l:=o (b0::.el (Zi t4)::l);obtain⟨V,h⟩|⟨V,h⟩:=io h
  ·obtain rfl:=oi h;exact rfO 0 (o [b1]) (Qb (jDj V) q)
  have q:=Qb (jEj V) q;let o l:=o (b0::b1::(no 28 l));obtain⟨W,h⟩|⟨W,h⟩:=io h
  ·have⟨t7,U,h⟩:=bo h;have⟨t8,T,h⟩:=bo h;have⟨t9,Q,h⟩:=bo h;have q:=Qb (leF (Qv Q)) (Qb (QH T) (Qb (Qu U) (Q2 QM M (Qb (mk1 ⟨#[115,101,99,116,111,114]⟩ KH W) q))));let o l:=o (.el KH::.el (Zi t4)::.obj (some 0) (.d (I t7)) (Qa k m p s t a b c e f g i) Zj::.obj (some 0) (.d (I t8)) (Qa k m p s t a b c e f g i) Zj::.ret (I t9)::l);obtain⟨L,h⟩|⟨L,h⟩:=io h
   ·have⟨t11,H,h⟩:=bo h;obtain rfl:=oi h;exact rfO 0 (o [b0,.ix (-9),b1,.ret (I t11)]) (Qb (Qs H) (Qb (nef L) q))
   obtain rfl:=oi h;exact rfO 0 (o [b1]) (Qb (net L) q)
  obtain⟨U,h⟩|⟨U,h⟩:=io h
  ·have⟨t8,T,h⟩:=bo h;have⟨t9,Q,h⟩:=bo h;have⟨t10,L,h⟩:=bo h;have q:=Qb (leF (Qv L)) (Qb (QH Q) (Qb (Qu T) (Q2 QM M (Qb (mk1 ⟨#[109,105,114,114,111,114]⟩ KJ U) q))));let o l:=o (.el KJ::.el (Zi t4)::.obj (some 0) (.d (I t8)) (Qa k m p s t a b c e f g i) Zj::.obj (some 0) (.d (I t9)) (Qa k m p s t a b c e f g i) Zj::.ret (I t10)::l);obtain⟨H,h⟩|⟨H,h⟩:=io h
   ·have⟨t12,J,h⟩:=bo h;have⟨t13,A,h⟩:=bo h;have⟨t14,C,h⟩:=bo h;have⟨t15,E,h⟩:=bo h;obtain rfl:=oi h;exact rfO 0 (o [b0,.ix (-9),b1,.el (Zi t12),.ret (I t13),.ret (I t14),.ret (I t15)]) (Qb (leF (Qv E)) (Qb (Qs C) (Qb (Va A) (Q2 QM J (Qb (nef H) q)))))
   obtain rfl:=oi h;exact rfO 0 (o [b1]) (Qb (net H) q)
  obtain⟨T,h⟩|⟨T,h⟩:=io h
  ·have⟨t9,Q,h⟩:=bo h;have⟨t10,L,h⟩:=bo h;have⟨t11,H,h⟩:=bo h;have q:=Qb (leF (Qv H)) (Qb (QH L) (Qb (Qu Q) (Q2 QM M (Qb (mk1 ⟨#[115,111,105,108]⟩ JP T) q))));let o l:=o (.el JP::.el (Zi t4)::.obj (some 0) (.d (I t9)) (Qa k m p s t a b c e f g i) Zj::.obj (some 0) (.d (I t10)) (Qa k m p s t a b c e f g i) Zj::.ret (I t11)::l);obtain⟨J,h⟩|⟨J,h⟩:=io h
   ·have⟨t13,A,h⟩:=bo h;have⟨t14,C,h⟩:=bo h;obtain rfl:=oi h;exact rfO 0 (o [b0,.ix (-9),b1,.el (Zi t13),.ret (I t14)]) (Qb (Va C) (Q2 QM A (Qb (nef J) q)))
   obtain rfl:=oi h;exact rfO 0 (o [b1]) (Qb (net J) q)
  obtain⟨Q,h⟩|⟨Q,h⟩:=io h
  ·have⟨t10,L,h⟩:=bo h;have⟨t11,H,h⟩:=bo h;have⟨t12,J,h⟩:=bo h;have q:=Qb (leF (Qv J)) (Qb (QH H) (Qb (Qu L) (Q2 QM M (Qb (mk1 ⟨#[99,108,101,97,110]⟩ JU Q) q))));let o l:=o (.el JU::.el (Zi t4)::.obj (some 0) (.d (I t10)) (Qa k m p s t a b c e f g i) Zj::.obj (some 0) (.d (I t11)) (Qa k m p s t a b c e f g i) Zj::.ret (I t12)::l);obtain⟨A,h⟩|⟨A,h⟩:=io h
   ·obtain rfl:=oi h;exact rfO 0 (o [b0,.ix (-9),b1]) (Qb (nef A) q)
   obtain rfl:=oi h;exact rfO 0 (o [b1]) (Qb (net A) q)
  obtain⟨L,h⟩|⟨L,h⟩:=io h
  ·have⟨t11,H,h⟩:=bo h;have⟨t12,J,h⟩:=bo h;have⟨t13,A,h⟩:=bo h;have q:=Qb (leF (Qv A)) (Qb (QH J) (Qb (Qu H) (Q2 QM M (Qb (mk1 ⟨#[100,101,102,101,99,116]⟩ JT L) q))));let o l:=o (.el JT::.el (Zi t4)::.obj (some 0) (.d (I t11)) (Qa k m p s t a b c e f g i) Zj::.obj (some 0) (.d (I t12)) (Qa k m p s t a b c e f g i) Zj::.ret (I t13)::l);obtain⟨C,h⟩|⟨C,h⟩:=io h
   ·have⟨t15,E,h⟩:=bo h;have⟨t16,F,h⟩:=bo h;have⟨t17,z,h⟩:=bo h;have⟨x,h⟩:=gd h;have⟨t19,v,h⟩:=bo h;have⟨t20,u,h⟩:=bo h;have⟨t21,j,h⟩:=bo h;have⟨t22,y,h⟩:=bo h;obtain rfl:=oi h;exact rfO 0 (o [b0,.ix (-9),b1,.el (Wj t15),.ix (-9),b1,.obj (some 0) (.d (.lst false 1 t16)) (Qa k m p s t a b c e f g i) Zj,.ret (I t17),b1,.ix (-9),b1,.el (QF t19),.ret (I t20),.el (QF t19),.ret (I t21),.ret (I t22)]) (Qb (leF (Qv y)) (Qb (Qs j) (Qb (Q0 QB v) (Qb (Qs u) (Qb (Q0 QB v) (Qb x (Qb (QJ z) (Qb (Qz F) (Q2 Zb E (Qb (nef C) q))))))))))
   obtain rfl:=oi h;exact rfO 0 (o [b1]) (Qb (net C) q)
  obtain⟨H,h⟩|⟨H,h⟩:=io h
  ·have⟨t12,J,h⟩:=bo h;have⟨t13,A,h⟩:=bo h;have⟨t14,C,h⟩:=bo h;have q:=Qb (leF (Qv C)) (Qb (QH A) (Qb (Qu J) (Q2 QM M (Qb (mk1 ⟨#[114,101,112,97,105,114]⟩ JS H) q))));let o l:=o (.el JS::.el (Zi t4)::.obj (some 0) (.d (I t12)) (Qa k m p s t a b c e f g i) Zj::.obj (some 0) (.d (I t13)) (Qa k m p s t a b c e f g i) Zj::.ret (I t14)::l);obtain⟨E,h⟩|⟨E,h⟩:=io h
   ·have⟨t16,F,h⟩:=bo h;have⟨t17,z,h⟩:=bo h;have⟨t18,x,h⟩:=bo h;have⟨v,h⟩:=gd h;have⟨t20,u,h⟩:=bo h;have⟨t21,j,h⟩:=bo h;obtain rfl:=oi h;exact rfO 0 (o [b0,.ix (-9),b1,.el (Wj t16),.ix (-9),b1,.obj (some 0) (.d (.lst false 1 t17)) (Qa k m p s t a b c e f g i) Zj,.ret (I t18),b1,.ix (-9),b1,.el (QF t20),.ret (I t21)]) (Qb (Qs j) (Qb (Q0 QB u) (Qb v (Qb (QJ x) (Qb (Qz z) (Q2 Zb F (Qb (nef E) q)))))))
   obtain rfl:=oi h;exact rfO 0 (o [b1]) (Qb (net E) q)
  obtain⟨J,h⟩|⟨J,h⟩:=io h
  ·have⟨t13,A,h⟩:=bo h;have⟨t14,C,h⟩:=bo h;have⟨t15,E,h⟩:=bo h;have q:=Qb (leF (Qv E)) (Qb (QH C) (Qb (Qu A) (Q2 QM M (Qb (mk1 ⟨#[97,105,109]⟩ JR J) q))));let o l:=o (.el JR::.el (Zi t4)::.obj (some 0) (.d (I t13)) (Qa k m p s t a b c e f g i) Zj::.obj (some 0) (.d (I t14)) (Qa k m p s t a b c e f g i) Zj::.ret (I t15)::l);obtain⟨F,h⟩|⟨F,h⟩:=io h
   ·have⟨t17,z,h⟩:=bo h;have⟨t18,x,h⟩:=bo h;have⟨t19,v,h⟩:=bo h;have⟨u,h⟩:=gd h;have⟨t21,j,h⟩:=bo h;have⟨t22,y,h⟩:=bo h;have⟨t23,w,h⟩:=bo h;have⟨t24,G,h⟩:=bo h;have⟨t25,K,h⟩:=bo h;have⟨t26,N,h⟩:=bo h;obtain rfl:=oi h;exact rfO 0 (o [b0,.ix (-9),b1,.el (Wj t17),.ix (-9),b1,.obj (some 0) (.d (.lst false 1 t18)) (Qa k m p s t a b c e f g i) Zj,.ret (I t19),b1,.ix (-9),b1,.ret (I t21),.ret (I t22),.el (QF t23),.ret (I t24),.el (QF t23),.ret (I t25),.ret (I t26)]) (Qb (leF (Qv N)) (Qb (Qs K) (Qb (Q0 QB w) (Qb (Qs G) (Qb (Q0 QB w) (Qb (Qs y) (Qb (Qs j) (Qb u (Qb (QJ v) (Qb (Qz x) (Q2 Zb z (Qb (nef F) q))))))))))))
   obtain rfl:=oi h;exact rfO 0 (o [b1]) (Qb (net F) q)
  obtain⟨A,h⟩|⟨A,h⟩:=io h
  ·have⟨t14,C,h⟩:=bo h;have⟨t15,E,h⟩:=bo h;have⟨t16,F,h⟩:=bo h;have q:=Qb (leF (Qv F)) (Qb (QH E) (Qb (Qu C) (Q2 QM M (Qb (mk1 ⟨#[112,97,114,107]⟩ JQ A) q))));let o l:=o (.el JQ::.el (Zi t4)::.obj (some 0) (.d (I t14)) (Qa k m p s t a b c e f g i) Zj::.obj (some 0) (.d (I t15)) (Qa k m p s t a b c e f g i) Zj::.ret (I t16)::l);obtain⟨z,h⟩|⟨z,h⟩:=io h
   ·have⟨t18,x,h⟩:=bo h;have⟨t19,v,h⟩:=bo h;have⟨t20,u,h⟩:=bo h;have⟨j,h⟩:=gd h;have⟨t22,y,h⟩:=bo h;have⟨t23,w,h⟩:=bo h;obtain rfl:=oi h;exact rfO 0 (o [b0,.ix (-9),b1,.el (Wj t18),.ix (-9),b1,.obj (some 0) (.d (.lst false 1 t19)) (Qa k m p s t a b c e f g i) Zj,.ret (I t20),b1,.ix (-9),b1,.el (QF t22),.ret (I t23)]) (Qb (Qs w) (Qb (Q0 QB y) (Qb j (Qb (QJ u) (Qb (Qz v) (Q2 Zb x (Qb (nef z) q)))))))
   obtain rfl:=oi h;exact rfO 0 (o [b1]) (Qb (net z) q)
  obtain⟨C,h⟩|⟨C,h⟩:=io h
  ·have⟨t15,E,h⟩:=bo h;have⟨t16,F,h⟩:=bo h;have⟨t17,z,h⟩:=bo h;have q:=Qb (leF (Qv z)) (Qb (QH F) (Qb (Qu E) (Q2 QM M (Qb (mk1 ⟨#[100,105,109]⟩ JM C) q))));let o l:=o (.el JM::.el (Zi t4)::.obj (some 0) (.d (I t15)) (Qa k m p s t a b c e f g i) Zj::.obj (some 0) (.d (I t16)) (Qa k m p s t a b c e f g i) Zj::.ret (I t17)::l);obtain⟨x,h⟩|⟨x,h⟩:=io h
   ·obtain rfl:=oi h;exact rfO 0 (o [b0,.ix (-9),b1]) (Qb (nef x) q)
   obtain rfl:=oi h;exact rfO 0 (o [b1]) (Qb (net x) q)
  obtain⟨E,h⟩|⟨E,h⟩:=io h
  ·have⟨t16,F,h⟩:=bo h;have⟨t17,z,h⟩:=bo h;have⟨t18,x,h⟩:=bo h;have q:=Qb (leF (Qv x)) (Qb (QH z) (Qb (Qu F) (Q2 QM M (Qb (mk1 ⟨#[115,117,110]⟩ KB E) q))));let o l:=o (.el KB::.el (Zi t4)::.obj (some 0) (.d (I t16)) (Qa k m p s t a b c e f g i) Zj::.obj (some 0) (.d (I t17)) (Qa k m p s t a b c e f g i) Zj::.ret (I t18)::l);obtain⟨v,h⟩|⟨v,h⟩:=io h
   ·have⟨t20,u,h⟩:=bo h;have⟨t21,j,h⟩:=bo h;obtain rfl:=oi h;exact rfO 0 (o [b0,.ix (-9),b1,.el (Zi t20),.ret (I t21)]) (Qb (Va j) (Q2 QM u (Qb (nef v) q)))
   obtain rfl:=oi h;exact rfO 0 (o [b1]) (Qb (net v) q)
  obtain⟨F,h⟩|⟨F,h⟩:=io h
  ·have⟨t17,z,h⟩:=bo h;have⟨t18,x,h⟩:=bo h;have⟨t19,v,h⟩:=bo h;have q:=Qb (leF (Qv v)) (Qb (QH x) (Qb (Qu z) (Q2 QM M (Qb (mk1 ⟨#[102,105,108,108]⟩ KF F) q))));let o l:=o (.el KF::.el (Zi t4)::.obj (some 0) (.d (I t17)) (Qa k m p s t a b c e f g i) Zj::.obj (some 0) (.d (I t18)) (Qa k m p s t a b c e f g i) Zj::.ret (I t19)::l);obtain⟨u,h⟩|⟨u,h⟩:=io h
   ·have⟨t21,j,h⟩:=bo h;obtain rfl:=oi h;exact rfO 0 (o [b0,.ix (-9),b1,.ret (I t21)]) (Qb (Qs j) (Qb (nef u) q))
   obtain rfl:=oi h;exact rfO 0 (o [b1]) (Qb (net u) q)
  obtain⟨z,h⟩|⟨z,h⟩:=io h
  ·have⟨t18,x,h⟩:=bo h;have⟨t19,v,h⟩:=bo h;have⟨t20,u,h⟩:=bo h;have q:=Qb (leF (Qv u)) (Qb (QH v) (Qb (Qu x) (Q2 QM M (Qb (mk1 ⟨#[100,114,97,105,110]⟩ KE z) q))));let o l:=o (.el KE::.el (Zi t4)::.obj (some 0) (.d (I t18)) (Qa k m p s t a b c e f g i) Zj::.obj (some 0) (.d (I t19)) (Qa k m p s t a b c e f g i) Zj::.ret (I t20)::l);obtain⟨j,h⟩|⟨j,h⟩:=io h
   ·have⟨t22,y,h⟩:=bo h;have⟨t23,w,h⟩:=bo h;have⟨t24,G,h⟩:=bo h;have⟨t25,K,h⟩:=bo h;obtain rfl:=oi h;exact rfO 0 (o [b0,.ix (-9),b1,.ret (I t22),.obj (some 0) (.d (B t23)) (Qa k m p s t a b c e f g i) Zj,.ret (I t24),.ret (I t25)]) (Qb (leF (Qv K)) (Qb (Qs G) (Qb (qv w) (Qb (Qs y) (Qb (nef j) q)))))
   obtain rfl:=oi h;exact rfO 0 (o [b1]) (Qb (net j) q)
  obtain⟨x,h⟩|⟨x,h⟩:=io h
  ·have⟨t19,v,h⟩:=bo h;have⟨t20,u,h⟩:=bo h;have⟨t21,j,h⟩:=bo h;have q:=Qb (leF (Qv j)) (Qb (QH u) (Qb (Qu v) (Q2 QM M (Qb (mk1 ⟨#[116,114,105,112]⟩ KD x) q))));let o l:=o (.el KD::.el (Zi t4)::.obj (some 0) (.d (I t19)) (Qa k m p s t a b c e f g i) Zj::.obj (some 0) (.d (I t20)) (Qa k m p s t a b c e f g i) Zj::.ret (I t21)::l);obtain⟨y,h⟩|⟨y,h⟩:=io h
   ·have⟨t23,w,h⟩:=bo h;obtain rfl:=oi h;exact rfO 0 (o [b0,.ix (-9),b1,.ret (I t23)]) (Qb (Qs w) (Qb (nef y) q))
   obtain rfl:=oi h;exact rfO 0 (o [b1]) (Qb (net y) q)
  obtain⟨v,h⟩|⟨v,h⟩:=io h
  ·have⟨t20,u,h⟩:=bo h;have⟨t21,j,h⟩:=bo h;have⟨t22,y,h⟩:=bo h;have q:=Qb (leF (Qv y)) (Qb (QH j) (Qb (Qu u) (Q2 QM M (Qb (mk1 ⟨#[114,101,115,101,116]⟩ KC v) q))));let o l:=o (.el KC::.el (Zi t4)::.obj (some 0) (.d (I t20)) (Qa k m p s t a b c e f g i) Zj::.obj (some 0) (.d (I t21)) (Qa k m p s t a b c e f g i) Zj::.ret (I t22)::l);obtain⟨w,h⟩|⟨w,h⟩:=io h
   ·have⟨t24,G,h⟩:=bo h;obtain rfl:=oi h;exact rfO 0 (o [b0,.ix (-9),b1,.ret (I t24)]) (Qb (Qs G) (Qb (nef w) q))
   obtain rfl:=oi h;exact rfO 0 (o [b1]) (Qb (net w) q)
  obtain⟨u,h⟩|⟨u,h⟩:=io h
  ·have⟨t21,j,h⟩:=bo h;have⟨t22,y,h⟩:=bo h;have⟨t23,w,h⟩:=bo h;have q:=Qb (leF (Qv w)) (Qb (QH y) (Qb (Qu j) (Q2 QM M (Qb (mk1 ⟨#[111,102,102,101,114]⟩ KI u) q))));let o l:=o (.el KI::.el (Zi t4)::.obj (some 0) (.d (I t21)) (Qa k m p s t a b c e f g i) Zj::.obj (some 0) (.d (I t22)) (Qa k m p s t a b c e f g i) Zj::.ret (I t23)::l);obtain⟨G,h⟩|⟨G,h⟩:=io h
   ·have⟨t25,K,h⟩:=bo h;have⟨t26,N,h⟩:=bo h;have⟨t27,O,h⟩:=bo h;have⟨t28,h28,h⟩:=bo h;have⟨t29,h29,h⟩:=bo h;have⟨t30,h30,h⟩:=bo h;have⟨t31,h31,h⟩:=bo h;obtain rfl:=oi h;exact rfO 0 (o [b0,.ix (-9),b1,.ret (.tup [.agg [I t25.1,I t25.2.1],I t25.2.2]),.el (Zi t26),.ret (I t27),.el (Zi t28),.ret (I t29),.ret (I t30),.ret (I t31)]) (Qb (leF (Qv h31)) (Qb (Qs h30) (Qb (Va h29) (Q2 QM h28 (Qb (Va O) (Q2 QM N (Qb (Eo K) (Qb (nef G) q))))))))
   obtain rfl:=oi h;exact rfO 0 (o [b1]) (Qb (net G) q)
  obtain⟨j,h⟩|⟨j,h⟩:=io h
  ·have⟨t22,y,h⟩:=bo h;have⟨t23,w,h⟩:=bo h;have⟨t24,G,h⟩:=bo h;have q:=Qb (leF (Qv G)) (Qb (QH w) (Qb (Qu y) (Q2 QM M (Qb (mk1 ⟨#[100,101,108,105,118,101,114]⟩ JN j) q))));let o l:=o (.el JN::.el (Zi t4)::.obj (some 0) (.d (I t22)) (Qa k m p s t a b c e f g i) Zj::.obj (some 0) (.d (I t23)) (Qa k m p s t a b c e f g i) Zj::.ret (I t24)::l);obtain⟨K,h⟩|⟨K,h⟩:=io h
   ·have⟨t26,N,h⟩:=bo h;have⟨t27,O,h⟩:=bo h;have⟨t28,h28,h⟩:=bo h;have⟨h29,h⟩:=gd h;have⟨t30,h30,h⟩:=bo h;have⟨t31,h31,h⟩:=bo h;have⟨t32,h32,h⟩:=bo h;have q:=Qb (Q0 Zg h31) (Qb (Qs h32) (Qb (Q0 Zg h31) (Q2 QM h30 (Q2 QM M (Qb h29 (Qb (QJ h28) (Qb (Qz O) (Q2 Zb N (Qb (nef K) q)))))))));let o l:=o (b0::.ix (-9)::b1::.el (Wj t26)::.ix (-9)::b1::.obj (some 0) (.d (.lst false 1 t27)) (Qa k m p s t a b c e f g i) Zj::.ret (I t28)::b1::.el (Zi t4)::.el (Zi t30)::.el (Zr t31)::.ret (I t32)::.el (Zr t31)::l);obtain⟨S,h⟩|⟨S,h⟩:=io h
    ·have⟨t34,h34,h⟩:=bo h;have⟨t35,h35,h⟩:=bo h;have⟨t36,h36,h⟩:=bo h;have⟨t37,h37,h⟩:=bo h;have⟨t38,h38,h⟩:=bo h;have q:=Qb (leF (Qv h38)) (Qb (Qs h37) (Qb (WU h36) (Qb (Q0 Zg h31) (Qb (Qs h35) (Qb (qk h34) (Qb (jDj S) q))))));let o l:=o (b1::.ret (I t34)::.ret (I t35)::.el (Zr t31)::.ret (I t36)::.ret (I t37)::.ret (I t38)::l);obtain⟨P,h⟩|⟨P,h⟩:=io h
     ·have⟨h40,h⟩:=gd h;have⟨t41,h41,h⟩:=bo h;have⟨t42,h42,h⟩:=bo h;obtain rfl:=oi h;exact rfO 0 (o [b0,.obj (some 0) (.d (.agg [I t41.1,I t41.2])) (Qa k m p s t a b c e f g i) Zj,.ret (I t42)]) (Qb (Qs h42) (Qb (WT h41) (Qb h40 (Qb (nef P) q))))
     obtain rfl:=oi h;exact rfO 0 (o [b1]) (Qb (net P) q)
    have⟨t34,h34,h⟩:=bo h;have⟨t35,h35,h⟩:=bo h;have⟨t36,h36,h⟩:=bo h;have⟨t37,h37,h⟩:=bo h;have⟨t38,h38,h⟩:=bo h;have q:=Qb (leF (Qv h38)) (Qb (Qs h37) (Qb (WU h36) (Qb (Q0 Zg h31) (Qb (Qs h35) (Qb (Qs h34) (Qb (Q0 Zg h31) (Qb (jEj S) q)))))));let o l:=o (b0::.el (Zr t31)::.ret (I t34)::.ret (I t35)::.el (Zr t31)::.ret (I t36)::.ret (I t37)::.ret (I t38)::l);obtain⟨P,h⟩|⟨P,h⟩:=io h
    ·have⟨h40,h⟩:=gd h;have⟨t41,h41,h⟩:=bo h;have⟨t42,h42,h⟩:=bo h;obtain rfl:=oi h;exact rfO 0 (o [b0,.obj (some 0) (.d (.agg [I t41.1,I t41.2])) (Qa k m p s t a b c e f g i) Zj,.ret (I t42)]) (Qb (Qs h42) (Qb (WT h41) (Qb h40 (Qb (nef P) q))))
    obtain rfl:=oi h;exact rfO 0 (o [b1]) (Qb (net P) q)
   obtain rfl:=oi h;exact rfO 0 (o [b1]) (Qb (net K) q)
  obtain⟨y,h⟩|⟨y,h⟩:=io h
  ·have⟨t23,w,h⟩:=bo h;have⟨t24,G,h⟩:=bo h;have⟨t25,K,h⟩:=bo h;have q:=Qb (leF (Qv K)) (Qb (QH G) (Qb (Qu w) (Q2 QM M (Qb (mk1 ⟨#[98,105,108,108]⟩ JO y) q))));let o l:=o (.el JO::.el (Zi t4)::.obj (some 0) (.d (I t23)) (Qa k m p s t a b c e f g i) Zj::.obj (some 0) (.d (I t24)) (Qa k m p s t a b c e f g i) Zj::.ret (I t25)::l);obtain⟨N,h⟩|⟨N,h⟩:=io h
   ·have⟨t27,O,h⟩:=bo h;have⟨t28,h28,h⟩:=bo h;have⟨t29,h29,h⟩:=bo h;have⟨h30,h⟩:=gd h;have⟨t31,h31,h⟩:=bo h;have⟨t32,h32,h⟩:=bo h;have⟨t33,S,h⟩:=bo h;have⟨t34,h34,h⟩:=bo h;obtain rfl:=oi h;exact rfO 0 (o [b0,.ix (-9),b1,.el (Wj t27),b1,.obj (some 0) (.d (.lst false 1 t28)) (Qa k m p s t a b c e f g i) Zj,.ret (I t29),b1,.el (Zr t31),.ret (I t32),.el (Zi t4),.el (Zr t31),.ret (I t33),.ret (I t34)]) (Qb (leF (Qv h34)) (Qb (Qs S) (Qb (Q0 Zg h31) (Q2 QM M (Qb (Qs h32) (Qb (Q0 Zg h31) (Qb h30 (Qb (QJ h29) (Qb (Qz h28) (Q2 Zb O (Qb (nef N) q)))))))))))
   obtain rfl:=oi h;exact rfO 0 (o [b1]) (Qb (net N) q)
  let o l:=o (.el KG::.el (Zi t4)::l);obtain⟨w,h⟩|⟨w,h⟩:=io h
  ·have⟨t24,G,h⟩:=bo h;have⟨t25,K,h⟩:=bo h;have⟨t26,N,h⟩:=bo h;have q:=Qb (leF (Qv N)) (Qb (QH K) (Qb (Qu G) (Q2 QM M (Qb (mk1 ⟨#[117,110,100,111]⟩ KG w) q))));let o l:=o (.obj (some 0) (.d (I t24)) (Qa k m p s t a b c e f g i) Zj::.obj (some 0) (.d (I t25)) (Qa k m p s t a b c e f g i) Zj::.ret (I t26)::l);obtain⟨O,h⟩|⟨O,h⟩:=io h
   ·obtain rfl:=oi h;exact rfO 0 (o [b0,.ix (-9),b1]) (Qb (nef O) q)
   obtain rfl:=oi h;exact rfO 0 (o [b1]) (Qb (net O) q)
  cases h
 obtain rfl:=oi h;exact rfO 0 [b1] (Qb (net X) q)
def ZL (n:Nat)(e c:Int)(f g:Bool)(h i j:Int)(k d l:jVj)(b:(Int×Int)):Option (Int×Int⊕Int) := if b.1<((d).length:Int) then if 0<=b.1/\b.1<((d).length:Int) then((nth (d) (Int.toNat b.1)).bind QV).bind fun a=>if a.2.2.2.2.2=true then if Qg (1000 - a.2.2.2.1) then if Qg (a.2.2.1*(1000 - a.2.2.2.1)) then if Qg ((a.2.2.1*(1000 - a.2.2.2.1))*c) then if Qg (b.2+((a.2.2.1*(1000 - a.2.2.2.1))*c)) then if Qg (b.1+1) then some (.inl ((b.1+1),(b.2+((a.2.2.1*(1000 - a.2.2.2.1))*c)))) else none else none else none else none else none else if Qg (b.1+1) then some (.inl ((b.1+1),b.2)) else none else none else some (.inr b.2)
noncomputable def Gx (c f:Int)(g h:Bool)(i j k:Int)(l a m:jVj):Lp (Int×Int) (Int):=⟨fun b=>[(0,.own 21 0),(8,.own 9 0),(9,.d (I ((a).length:Int))),(10,.d (I b.1))],fun b=>[(0,.box (.agg [.d (I c),.d (I f),.d (B g),.d (B h),.d (I i),.d (I j),.d (I k),.own 8 0,.own 9 0,.own 10 0])),(8,.row 0 1 l),(9,.row 0 6 a),(10,.row 0 7 m),(11,.box (.ptr 0 0 0 0 0)),(13,.box (.d (I b.2))),(17,.box (.ptr 0 0 0 0 0)),(21,.loop true [(6,.fn (.func 82) [] [.ptr 17 0 0 0 0]),(5,.ptr 0 0 0 0 0),(3,.ptr 13 0 0 0 0),(2,.d (I 0)),(1,.ptr 11 0 0 0 0),(0,.ptr 0 0 0 0 0)] [7] (Z3 cx.P 107 0).1 (Z3 cx.P 107 0).2 22)],fun _=>(.exit 0),fun _=>[],fun e=>[(0,.box (.agg [.d (I c),.d (I f),.d (B g),.d (B h),.d (I i),.d (I j),.d (I k),.own 8 0,.own 9 0,.own 10 0])),(8,.row 0 1 l),(9,.row 0 6 a),(10,.row 0 7 m),(11,.box (.ptr 0 0 0 0 0)),(13,.box (.d (I e))),(17,.box (.ptr 0 0 0 0 0)),(21,.loop true [(6,.fn (.func 82) [] [.ptr 17 0 0 0 0]),(5,.ptr 0 0 0 0 0),(3,.ptr 13 0 0 0 0),(2,.d (I 0)),(1,.ptr 11 0 0 0 0),(0,.ptr 0 0 0 0 0)] [7] (Z3 cx.P 107 0).1 (Z3 cx.P 107 0).2 22)]⟩
theorem Gt {n c d e f g i j k m p}(s)(r)(h:ZL n c d e f g i j k m p s=some r):Rl (Zt cx.P 82 0) 23 22 false (Gx c d e f g i j k m p) s r:=by
 unfold ZL at h;obtain⟨a,h⟩|⟨a,h⟩:=io h
 ·have⟨ha2,h⟩:=gd h;have⟨ta3,ha3,h⟩:=bo h;have q:=Qb (Q0 QB ha3) (Qb ha2 (Qb (jDj a) QA));let o(l:jOj):=b1::b1::.el (QF ta3)::l;obtain⟨b,h⟩|⟨b,h⟩:=io h
  ·have⟨ha5,h⟩:=gd h;have⟨ha6,h⟩:=gd h;have⟨ha7,h⟩:=gd h;have⟨ha8,h⟩:=gd h;have⟨ha9,h⟩:=gd h;cases h;exact rn 28 (o [b1,.no]) [] [0,8,9,10] [0,8,9,10,11,13,17,21] (Qb ha9 (Qb ha8 (Qb ha7 (Qb ha6 (Qb ha5 (Qb b q))))))
  have⟨ha5,h⟩:=gd h;cases h;exact rn 28 (o [b0,.no]) [] [0,8,9,10] [0,8,9,10,11,13,17,21] (Qb ha5 (Qb (Zy b) q))
 cases h;exact rx 28 [b0] [] [] [0,8,9,10,11,13,17,21] (Qb (jEj a) QA)
def WX (n:Nat)(a b:Int)(c d:Bool)(e f g:Int)(h i j:jVj):Option (Int) := (QU (ZL n a b c d e f g h i j) n (0,0)).bind fun k=>some k
theorem Xz {n a b c e f g i j k l r}(h:WX n a b c e f g i j k l=some r):ComputesO cx 107 [.ptr 0 0 0 0 0] (some (QI a b c e f g i j k l)) (.d (I r)) (QI a b c e f g i j k l) jv:=by unfold WX at h;have⟨t1,h1,h⟩:=bo h;obtain rfl:=oi h;exact rfO 0 [b1,.lp [] [0,8,9,10] [0,8,9,10,11,13,17,21] (.exit 0) [] [(0,.box (.agg [.d (I a),.d (I b),.d (B c),.d (B e),.d (I f),.d (I g),.d (I i),.own 8 0,.own 9 0,.own 10 0])),(8,.row 0 1 j),(9,.row 0 6 k),(10,.row 0 7 l),(11,.box (.ptr 0 0 0 0 0)),(13,.box (.d (I t1))),(17,.box (.ptr 0 0 0 0 0)),(21,.loop true [(6,.fn (.func 82) [] [.ptr 17 0 0 0 0]),(5,.ptr 0 0 0 0 0),(3,.ptr 13 0 0 0 0),(2,.d (I 0)),(1,.ptr 11 0 0 0 0),(0,.ptr 0 0 0 0 0)] [7] (Z3 cx.P 107 0).1 (Z3 cx.P 107 0).2 22)] 70] (Qb (QE Gt h1) QA)
def WB (n:Nat)(b a g:Int)(h i:Bool)(e f j:Int)(k l d:jVj):Option (Int×Int) := (WX n a g h i e f j k l d).bind fun c=>if Qg (b - a) then if Qg (c*(b - a)) then if Qg (e+(c*(b - a))) then if Qg (f+(c*(b - a))) then some ((e+(c*(b - a))),(f+(c*(b - a)))) else none else none else none else none
theorem GC {n m b c e f g i j k l a r}(h:WB n m b c e f g i j k l a=some r):ComputesO cx 63 [.ptr 0 0 0 0 0,.d (I m)] (some (QI b c e f g i j k l a)) (.d (.agg [I r.1,I r.2])) (QI b c e f g i j k l a) jv:=by unfold WB at h;have⟨t1,h1,h⟩:=bo h;have⟨h2,h⟩:=gd h;have⟨h3,h⟩:=gd h;have⟨h4,h⟩:=gd h;have⟨h5,h⟩:=gd h;cases h;exact rfO 0 [.obj (some 0) (.d (I t1)) (QI b c e f g i j k l a) jv] (Qb h5 (Qb h4 (Qb h3 (Qb h2 (Qb (Xz h1) QA)))))
def ZE (n:Nat)(f g:Int)(h i:Bool)(j k l:Int)(m c e:jVj)(b:(Int×jVj)):Option (Int×jVj⊕jVj) := if b.1<((c).length:Int) then if 0<=b.1/\b.1<((c).length:Int) then((nth (c) (Int.toNat b.1)).bind QV).bind fun a=>(QZ n a.1 a.2.1 a.2.2.1 a.2.2.2.1 a.2.2.2.2.1 a.2.2.2.2.2).bind fun d=>if Wi 16 ((b.2).length+1) then if Qg (b.1+1) then some (.inl ((b.1+1),(b.2++([.v (.string d)]:jVj)))) else none else none else none else some (.inr b.2)
noncomputable def JG (f g:Int)(h i:Bool)(j k l:Int)(m b a:jVj):Lp (Int×jVj) (jVj):=⟨fun c=>[(1,.d (.fn (.func 202) [] [])),(5,.own 28 0),(8,.own 9 0),(9,.d (I ((b).length:Int))),(10,.d (I c.1))],fun c=>[(0,.box (.agg [.d (I f),.d (I g),.d (B h),.d (B i),.d (I j),.d (I k),.d (I l),.own 8 0,.own 9 0,.own 10 0])),(8,.row 0 1 m),(9,.row 0 6 b),(10,.row 0 7 a),(28,.row 0 1 c.2)],fun _=>(.exit 0),fun _=>[(5,.own 28 0)],fun e=>[(0,.box (.agg [.d (I f),.d (I g),.d (B h),.d (B i),.d (I j),.d (I k),.d (I l),.own 8 0,.own 9 0,.own 10 0])),(8,.row 0 1 m),(9,.row 0 6 b),(10,.row 0 7 a),(28,.row 0 1 e)]⟩
theorem JE {n c d e f g i j k l b}(m)(r)(h:ZE n c d e f g i j k l b m=some r):Rl (Zt cx.P 35 0) 22 23 false (JG c d e f g i j k l b) m r:=by
 unfold ZE at h;obtain⟨a,h⟩|⟨a,h⟩:=io h
 ·have⟨ha2,h⟩:=gd h;have⟨ta3,ha3,h⟩:=bo h;have⟨ta4,ha4,h⟩:=bo h;have⟨ha5,h⟩:=gd h;have⟨ha6,h⟩:=gd h;cases h;exact rn 29 [b1,b1,.el (QF ta3),.ret (Qe ta4),b1] [] [1,5,8,9,10] [0,8,9,10,28] (Qb ha6 (Qb (ro 9 ha5) (Qb (Uq ha4) (Qb (Q0 QB ha3) (Qb ha2 (Qb (jDj a) QA))))))
 cases h;exact rx 29 [b0] [] [5] [0,8,9,10,28] (Qb (jEj a) QA)
def ZD (n:Nat)(e f:Int)(g h:Bool)(i j k:Int)(l m c:jVj)(b:(Int×jVj)):Option (Int×jVj⊕jVj) := if b.1<((c).length:Int) then if 0<=b.1/\b.1<((c).length:Int) then((nth (c) (Int.toNat b.1)).bind Z4).bind fun a=>(ZT n a.1 a.2.1 a.2.2.1 a.2.2.2.1 a.2.2.2.2.1 a.2.2.2.2.2.1 a.2.2.2.2.2.2).bind fun d=>if Wi 16 ((b.2).length+1) then if Qg (b.1+1) then some (.inl ((b.1+1),(b.2++([.v (.string d)]:jVj)))) else none else none else none else some (.inr b.2)
noncomputable def JF (c f:Int)(g h:Bool)(i j k:Int)(l m a:jVj):Lp (Int×jVj) (jVj):=⟨fun b=>[(1,.d (.fn (.func 204) [] [])),(5,.own 28 0),(8,.own 10 0),(9,.d (I ((a).length:Int))),(10,.d (I b.1))],fun b=>[(0,.box (.agg [.d (I c),.d (I f),.d (B g),.d (B h),.d (I i),.d (I j),.d (I k),.own 8 0,.own 9 0,.own 10 0])),(8,.row 0 1 l),(9,.row 0 6 m),(10,.row 0 7 a),(28,.row 0 1 b.2)],fun _=>(.exit 0),fun _=>[(5,.own 28 0)],fun e=>[(0,.box (.agg [.d (I c),.d (I f),.d (B g),.d (B h),.d (I i),.d (I j),.d (I k),.own 8 0,.own 9 0,.own 10 0])),(8,.row 0 1 l),(9,.row 0 6 m),(10,.row 0 7 a),(28,.row 0 1 e)]⟩
theorem JC {n c d e f g i j k l b}(m)(r)(h:ZD n c d e f g i j k l b m=some r):Rl (Zt cx.P 203 0) 22 23 false (JF c d e f g i j k l b) m r:=by
 unfold ZD at h;obtain⟨a,h⟩|⟨a,h⟩:=io h
 ·have⟨ha2,h⟩:=gd h;have⟨ta3,ha3,h⟩:=bo h;have⟨ta4,ha4,h⟩:=bo h;have⟨ha5,h⟩:=gd h;have⟨ha6,h⟩:=gd h;cases h;exact rn 29 [b1,b1,.el (Zr ta3),.ret (Qe ta4),b1] [] [1,5,8,9,10] [0,8,9,10,28] (Qb ha6 (Qb (ro 9 ha5) (Qb (Up ha4) (Qb (Q0 Zg ha3) (Qb ha2 (Qb (jDj a) QA))))))
 cases h;exact rx 29 [b0] [] [5] [0,8,9,10,28] (Qb (jEj a) QA)
def QO (n:Nat)(c d e:Int)(f g:Bool)(h i j:Int)(k l a:jVj):Option (jVj) := if c=115 then none else if c=109 then(QU (ZE n d e f g h i j k l a) n (0,[])).bind fun b=>some b else(QU (ZD n d e f g h i j k l a) n (0,[])).bind fun b=>some b
theorem Zo {n o b c e f g i j k l a r}(h:QO n o b c e f g i j k l a=some r):ComputesO cx 102 [.ptr 0 0 0 0 0,.d (.v (.int .u8 o))] (some (QI b c e f g i j k l a)) (.d (.lst false 1 r)) (QI b c e f g i j k l a) jv:=by
 unfold QO at h;obtain⟨p,h⟩|⟨p,h⟩:=io h
 ·cases h
 have q:=Qb (eqf p) QA;obtain⟨m,h⟩|⟨m,h⟩:=io h
 ·have⟨t3,h3,h⟩:=bo h;obtain rfl:=oi h;exact rfO 0 [b0,b1,b1,.lp [5,1] [1,5,8,9,10] [0,8,9,10,28] (.exit 0) [(5,.own 28 0)] [(0,.box (.agg [.d (I b),.d (I c),.d (B e),.d (B f),.d (I g),.d (I i),.d (I j),.own 8 0,.own 9 0,.own 10 0])),(8,.row 0 1 k),(9,.row 0 6 l),(10,.row 0 7 a),(28,.row 0 1 t3)] 54] (Qb (QE JE h3) (Qb (eqt m) q))
 have⟨t3,h3,h⟩:=bo h;obtain rfl:=oi h;exact rfO 0 [b0,b0,b1,.lp [5,1] [1,5,8,9,10] [0,8,9,10,28] (.exit 0) [(5,.own 28 0)] [(0,.box (.agg [.d (I b),.d (I c),.d (B e),.d (B f),.d (I g),.d (I i),.d (I j),.own 8 0,.own 9 0,.own 10 0])),(8,.row 0 1 k),(9,.row 0 6 l),(10,.row 0 7 a),(28,.row 0 1 t3)] 54] (Qb (QE JC h3) (Qb (eqf m) q))
def WW (n:Nat)(e a:jSj)(f g:Int)(h i:Bool)(j:Int)(k:jSj)(c l:jVj)(b:jSj):Option (Bool) := (el Vg c 0).bind fun d=>some (a.toList==d.toList)
theorem Jh {n b c d e f g i j k l a r}(h:WW n b c d e f g i j k l a=some r):Computes cx 142 [.agg [Qe b,Qe c,I d,I e,B f,B g],.ref (.agg [I i,Qe j,.lst false 1 k,.lst false 1 l,Qe a]) 0] (B r):=by unfold WW at h;have⟨t1,h1,h⟩:=bo h;cases h;exact rf [.el (Wj t1)] (Q2 Zb h1 QA)
def Z6 (n:Nat)(e:Int)(f:jSj)(k l:jVj)(m:jSj)(o p:Int)(q r:Bool)(s g h:Int)(i c j:jVj)(b:(Int×jVj)):Option (Int×jVj⊕jVj) := if b.1<((c).length:Int) then if 0<=b.1/\b.1<((b.2).length:Int) then((nth (b.2) (Int.toNat b.1)).bind QV).bind fun a=>(WW n a.1 a.2.1 a.2.2.1 a.2.2.2.1 a.2.2.2.2.1 a.2.2.2.2.2 e f k l m).bind fun d=>if d=true then if Qg (b.1+1) then some (.inl ((b.1+1),(List.set b.2 (Int.toNat b.1) (.agg [.v (.string a.1),.v (.string a.2.1),I a.2.2.1,I a.2.2.2.1,B a.2.2.2.2.1,B false]:D)))) else none else if Qg (b.1+1) then some (.inl ((b.1+1),b.2)) else none else none else some (.inr b.2)
noncomputable def Xg (n:Int)(o:jSj)(p q:jVj)(r:jSj)(i j:Int)(k l:Bool)(m a b:Int)(c g f:jVj):Lp (Int×jVj) (jVj):=⟨fun h=>[(0,.ptr 0 0 0 0 0),(1,.d (.fn (.func 142) [] [.ref (.agg [I n,Qe o,.lst false 1 p,.lst false 1 q,Qe r]) 0])),(9,.own 9 0),(10,.d (I ((g).length:Int))),(11,.d (I h.1))],fun h=>[(0,.box (.agg [.d (I i),.d (I j),.d (B k),.d (B l),.d (I m),.d (I a),.d (I b),.own 8 0,.own 9 0,.own 10 0])),(8,.row 0 1 c),(9,.row 0 6 h.2),(10,.row 0 7 f)],fun _=>(.exit 0),fun _=>[],fun e=>[(0,.box (.agg [.d (I i),.d (I j),.d (B k),.d (B l),.d (I m),.d (I a),.d (I b),.own 8 0,.own 9 0,.own 10 0])),(8,.row 0 1 c),(9,.row 0 6 e),(10,.row 0 7 f)]⟩
theorem Xd {n i j k m p s t u v w c d e f g}(x)(r)(h:Z6 n i j k m p s t u v w c d e f g x=some r):Rl (Zt cx.P 141 0) 27 11 false (Xg i j k m p s t u v w c d e f g) x r:=by
 unfold Z6 at h;obtain⟨a,h⟩|⟨a,h⟩:=io h
 ·have⟨ha2,h⟩:=gd h;have⟨ta3,ha3,h⟩:=bo h;have⟨ta4,ha4,h⟩:=bo h;have q:=Qb (Jh ha4) (Qb (Q0 QB ha3) (Qb ha2 (Qb (jDj a) QA)));let o(l:jOj):=b1::b1::.el (QF ta3)::.ret (B ta4)::l;obtain⟨b,h⟩|⟨b,h⟩:=io h
  ·have⟨ha6,h⟩:=gd h;cases h;exact rn 17 (o [b1,b1,.el (QF ta3)]) [] [0,1,9,10,11] [0,8,9,10] (Qb ha6 (Qb (Q0 QB ha3) (Qb ha2 (Qb b q))))
  have⟨ha6,h⟩:=gd h;cases h;exact rn 17 (o [b0]) [] [0,1,9,10,11] [0,8,9,10] (Qb ha6 (Qb (Zy b) q))
 cases h;exact rx 17 [b0] [] [] [0,8,9,10] (Qb (jEj a) QA)
def Vi (n:Nat)(f:Int)(g:jSj)(h i:jVj)(j:jSj)(k l:Int)(m o:Bool)(p b c:Int)(d a e:jVj):Option (jVj) := (QU (Z6 n f g h i j k l m o p b c d a e) n (0,a)).bind fun q=>some q
theorem EE {n m o p q s g i j k l a b c f e r}(h:Vi n m o p q s g i j k l a b c f e=some r):ComputesO cx 141 [.ptr 0 0 0 0 0,.d (.fn (.func 142) [] [.ref (.agg [I m,Qe o,.lst false 1 p,.lst false 1 q,Qe s]) 0])] (some (QI g i j k l a b c f e)) (.d (.tup [])) (QI g i j k l a b c r e) [false,false,false,false,false,false,false,true,true,true]:=by unfold Vi at h;have⟨t1,h1,h⟩:=bo h;obtain rfl:=oi h;exact rfO 0 [.lp [] [0,1,9,10,11] [0,8,9,10] (.exit 0) [] [(0,.box (.agg [.d (I g),.d (I i),.d (B j),.d (B k),.d (I l),.d (I a),.d (I b),.own 8 0,.own 9 0,.own 10 0])),(8,.row 0 1 c),(9,.row 0 6 t1),(10,.row 0 7 e)] 48] (Qb (QE Xd h1) QA)
def WV (n:Nat)(a b:jSj)(c d:Int)(e f:Bool):Option (Bool) := some true
theorem Jg {n a b c d e f r}(h:WV n a b c d e f=some r):Computes cx 152 [.agg [Qe a,Qe b,I c,I d,B e,B f]] (B r):=by unfold WV at h;obtain rfl:=oi h;exact rf [] QA
def ZO (n:Nat)(e f:Int)(g h:Bool)(i j k:Int)(l d m:jVj)(b:(Int×jVj)):Option (Int×jVj⊕jVj) := if b.1<((d).length:Int) then if 0<=b.1/\b.1<((b.2).length:Int) then((nth (b.2) (Int.toNat b.1)).bind QV).bind fun a=>(WV n a.1 a.2.1 a.2.2.1 a.2.2.2.1 a.2.2.2.2.1 a.2.2.2.2.2).bind fun c=>if c=true then if Qg (b.1+1) then some (.inl ((b.1+1),(List.set b.2 (Int.toNat b.1) (.agg [.v (.string a.1),.v (.string a.2.1),I a.2.2.1,I a.2.2.2.1,B a.2.2.2.2.1,B false]:D)))) else none else if Qg (b.1+1) then some (.inl ((b.1+1),b.2)) else none else none else some (.inr b.2)
noncomputable def GA (b c:Int)(f g:Bool)(h i j:Int)(k m l:jVj):Lp (Int×jVj) (jVj):=⟨fun a=>[(0,.ptr 0 0 0 0 0),(1,.d (.fn (.func 152) [] [])),(9,.own 9 0),(10,.d (I ((m).length:Int))),(11,.d (I a.1))],fun a=>[(0,.box (.agg [.d (I b),.d (I c),.d (B f),.d (B g),.d (I h),.d (I i),.d (I j),.own 8 0,.own 9 0,.own 10 0])),(8,.row 0 1 k),(9,.row 0 6 a.2),(10,.row 0 7 l)],fun _=>(.exit 0),fun _=>[],fun e=>[(0,.box (.agg [.d (I b),.d (I c),.d (B f),.d (B g),.d (I h),.d (I i),.d (I j),.own 8 0,.own 9 0,.own 10 0])),(8,.row 0 1 k),(9,.row 0 6 e),(10,.row 0 7 l)]⟩
theorem Gw {n c d e f g i j k m p}(s)(r)(h:ZO n c d e f g i j k m p s=some r):Rl (Zt cx.P 141 0) 27 11 false (GA c d e f g i j k m p) s r:=by
 unfold ZO at h;obtain⟨a,h⟩|⟨a,h⟩:=io h
 ·have⟨ha2,h⟩:=gd h;have⟨ta3,ha3,h⟩:=bo h;have⟨ta4,ha4,h⟩:=bo h;have q:=Qb (Jg ha4) (Qb (Q0 QB ha3) (Qb ha2 (Qb (jDj a) QA)));let o(l:jOj):=b1::b1::.el (QF ta3)::.ret (B ta4)::l;obtain⟨b,h⟩|⟨b,h⟩:=io h
  ·have⟨ha6,h⟩:=gd h;cases h;exact rn 17 (o [b1,b1,.el (QF ta3)]) [] [0,1,9,10,11] [0,8,9,10] (Qb ha6 (Qb (Q0 QB ha3) (Qb ha2 (Qb b q))))
  have⟨ha6,h⟩:=gd h;cases h;exact rn 17 (o [b0]) [] [0,1,9,10,11] [0,8,9,10] (Qb ha6 (Qb (Zy b) q))
 cases h;exact rx 17 [b0] [] [] [0,8,9,10] (Qb (jEj a) QA)
def W0 (n:Nat)(b c:Int)(d e:Bool)(f g h:Int)(i a j:jVj):Option (jVj) := (QU (ZO n b c d e f g h i a j) n (0,a)).bind fun k=>some k
theorem XC {n a b c e f g i j l k r}(h:W0 n a b c e f g i j l k=some r):ComputesO cx 141 [.ptr 0 0 0 0 0,.d (.fn (.func 152) [] [])] (some (QI a b c e f g i j l k)) (.d (.tup [])) (QI a b c e f g i j r k) [false,false,false,false,false,false,false,true,true,true]:=by unfold W0 at h;have⟨t1,h1,h⟩:=bo h;obtain rfl:=oi h;exact rfO 0 [.lp [] [0,1,9,10,11] [0,8,9,10] (.exit 0) [] [(0,.box (.agg [.d (I a),.d (I b),.d (B c),.d (B e),.d (I f),.d (I g),.d (I i),.own 8 0,.own 9 0,.own 10 0])),(8,.row 0 1 j),(9,.row 0 6 t1),(10,.row 0 7 k)] 48] (Qb (QE Gw h1) QA)
def WQ (n:Nat)(d:jSj)(e f g a b:Int)(h:Bool):Option (Int) := if Qg (a*b) then if Qg (2*a) then(Za n d e f g a b h).bind fun c=>if Qg ((2*a)*c) then if Qg ((a*b) - ((2*a)*c)) then some ((a*b) - ((2*a)*c)) else none else none else none else none
theorem UH {n a b c d e f g r}(h:WQ n a b c d e f g=some r):Computes cx 163 [.agg [Qe a,I b,I c,I d,I e,I f,B g]] (I r):=by unfold WQ at h;have⟨h1,h⟩:=gd h;have⟨h2,h⟩:=gd h;have⟨t3,h3,h⟩:=bo h;have⟨h4,h⟩:=gd h;have⟨h5,h⟩:=gd h;cases h;exact rf [.ret (I t3)] (Qb h5 (Qb h4 (Qb (WU h3) (Qb h2 (Qb h1 QA)))))
def Qy (n:Nat)(J:Int)(o:jSj)(s y:jVj)(K:jSj)(L j:Int)(k l:Bool)(M F c:Int)(d a b:jVj):Option (jRj) := (el V5 y 0).bind fun h=>(WB n h L j k l M F c d a b).bind fun e=>if o.data.toList=[115,101,99,116,111,114] then(el Vg s 0).bind fun N=>if Wi 16 ((d).length+1) then some (h,j,k,l,e.1,e.2,c,(d++([.v (.string N)]:jVj)),a,b) else none else if o.data.toList=[109,105,114,114,111,114] then(el Vg s 0).bind fun O=>(el Vg s 1).bind fun H=>(el V5 y 1).bind fun E=>if Wi 56 ((a).length+1) then some (h,j,k,l,e.1,e.2,c,d,(a++([.agg [.v (.string O),.v (.string H),I E,I 0,B false,B false]]:jVj)),b) else none else if o.data.toList=[115,111,105,108] then(el Vg s 0).bind fun H=>(QO n 109 h j k l e.1 e.2 c d a b).bind fun E=>(QC n E H).bind fun z=>if 0<=z/\z<((a).length:Int) then(el V5 y 1).bind fun t10=>((nth (a) (Int.toNat z)).bind QV).bind fun f=>some (h,j,k,l,e.1,e.2,c,d,(List.set a (Int.toNat z) (.agg [.v (.string f.1),.v (.string f.2.1),I f.2.2.1,I t10,B f.2.2.2.2.1,B f.2.2.2.2.2]:D)),b) else none else if o.data.toList=[99,108,101,97,110] then(el Vg s 0).bind fun E=>(QO n 109 h j k l e.1 e.2 c d a b).bind fun z=>(QC n z E).bind fun t9=>if 0<=t9/\t9<((a).length:Int) then((nth (a) (Int.toNat t9)).bind QV).bind fun f=>some (h,j,k,l,e.1,e.2,c,d,(List.set a (Int.toNat t9) (.agg [.v (.string f.1),.v (.string f.2.1),I f.2.2.1,I 0,B f.2.2.2.2.1,B f.2.2.2.2.2]:D)),b) else none else if o.data.toList=[100,101,102,101,99,116] then(el Vg s 0).bind fun z=>(QO n 109 h j k l e.1 e.2 c d a b).bind fun t9=>(QC n t9 z).bind fun t10=>if 0<=t10/\t10<((a).length:Int) then((nth (a) (Int.toNat t10)).bind QV).bind fun i=>some (h,j,k,l,e.1,e.2,c,d,(List.set a (Int.toNat t10) (.agg [.v (.string i.1),.v (.string i.2.1),I i.2.2.1,I i.2.2.2.1,B true,B i.2.2.2.2.2]:D)),b) else none else if o.data.toList=[114,101,112,97,105,114] then(el Vg s 0).bind fun t9=>(QO n 109 h j k l e.1 e.2 c d a b).bind fun t10=>(QC n t10 t9).bind fun f=>if 0<=f/\f<((a).length:Int) then((nth (a) (Int.toNat f)).bind QV).bind fun m=>some (h,j,k,l,e.1,e.2,c,d,(List.set a (Int.toNat f) (.agg [.v (.string m.1),.v (.string m.2.1),I m.2.2.1,I m.2.2.2.1,B false,B m.2.2.2.2.2]:D)),b) else none else if o.data.toList=[97,105,109] then(el Vg s 0).bind fun t10=>(QO n 109 h j k l e.1 e.2 c d a b).bind fun f=>(QC n f t10).bind fun i=>if 0<=i/\i<((a).length:Int) then((nth (a) (Int.toNat i)).bind QV).bind fun u=>some (h,j,k,l,e.1,e.2,c,d,(List.set a (Int.toNat i) (.agg [.v (.string u.1),.v (.string u.2.1),I u.2.2.1,I u.2.2.2.1,B u.2.2.2.2.1,B true]:D)),b) else none else if o.data.toList=[112,97,114,107] then(el Vg s 0).bind fun f=>(QO n 109 h j k l e.1 e.2 c d a b).bind fun i=>(QC n i f).bind fun m=>if 0<=m/\m<((a).length:Int) then((nth (a) (Int.toNat m)).bind QV).bind fun w=>some (h,j,k,l,e.1,e.2,c,d,(List.set a (Int.toNat m) (.agg [.v (.string w.1),.v (.string w.2.1),I w.2.2.1,I w.2.2.2.1,B w.2.2.2.2.1,B false]:D)),b) else none else if o.data.toList=[100,105,109] then(Vi n J o s y K h j k l e.1 e.2 c d a b).bind fun i=>some (h,j,k,l,e.1,e.2,c,d,i,b) else if o.data.toList=[115,117,110] then(el V5 y 1).bind fun m=>some (h,m,k,l,e.1,e.2,c,d,a,b) else if o.data.toList=[102,105,108,108] then some (h,j,true,l,e.1,e.2,c,d,a,b) else if o.data.toList=[100,114,97,105,110] then some (h,j,false,l,e.1,e.2,c,d,a,b) else if o.data.toList=[116,114,105,112] then(W0 n h j k true e.1 e.2 c d a b).bind fun G=>some (h,j,k,true,e.1,e.2,c,d,G,b) else if o.data.toList=[114,101,115,101,116] then some (h,j,k,false,e.1,e.2,c,d,a,b) else if o.data.toList=[111,102,102,101,114] then(Vb n J o s y K).bind fun t18=>(el Vg s 0).bind fun A=>(el V5 y 3).bind fun x=>(el V5 y 4).bind fun p=>if Wi 64 ((b).length+1) then some (h,j,k,l,e.1,e.2,c,d,a,(b++([.agg [.v (.string A),I t18.1,I t18.2.1,I x,I p,I 0,B false]]:jVj))) else none else if o.data.toList=[100,101,108,105,118,101,114] then(el Vg s 0).bind fun A=>(QO n 111 h j k l e.1 e.2 c d a b).bind fun x=>(QC n x A).bind fun p=>if 0<=p/\p<((b).length:Int) then((nth (b) (Int.toNat p)).bind Z4).bind fun q=>(el V5 y 1).bind fun g=>if Qg (q.2.2.2.2.2.1+g) then if Qg (1000000*g) then if Qg (e.2 - (1000000*g)) then some (h,j,k,l,e.1,(e.2 - (1000000*g)),c,d,a,(List.set b (Int.toNat p) (.agg [.v (.string q.1),I q.2.1,I q.2.2.1,I q.2.2.2.1,I q.2.2.2.2.1,I (q.2.2.2.2.2.1+g),B q.2.2.2.2.2.2]:D))) else none else none else none else none else if o.data.toList=[98,105,108,108] then(el Vg s 0).bind fun x=>(QO n 111 h j k l e.1 e.2 c d a b).bind fun p=>(QC n p x).bind fun t=>if 0<=t/\t<((b).length:Int) then((nth (b) (Int.toNat t)).bind Z4).bind fun g=>((nth ((List.set b (Int.toNat t) (.agg [.v (.string g.1),I g.2.1,I g.2.2.1,I g.2.2.2.1,I g.2.2.2.2.1,I g.2.2.2.2.2.1,B true]:D)):jVj) (Int.toNat t)).bind Z4).bind fun r=>(WQ n r.1 r.2.1 r.2.2.1 r.2.2.2.1 r.2.2.2.2.1 r.2.2.2.2.2.1 r.2.2.2.2.2.2).bind fun C=>if Qg (c+C) then some (h,j,k,l,e.1,e.2,(c+C),d,a,(List.set b (Int.toNat t) (.agg [.v (.string g.1),I g.2.1,I g.2.2.1,I g.2.2.2.1,I g.2.2.2.2.1,I g.2.2.2.2.2.1,B true]:D))) else none else none else if o.data.toList=[117,110,100,111] then some (h,j,k,l,e.1,e.2,c,d,a,b) else none
theorem Kb {n L M N O P J m p u K C b c i e r}(h:Qy n L M N O P J m p u K C b c i e=some r):ComputesO cx 170 [.ptr 0 0 0 0 0,.d (.agg [I L,Qe M,.lst false 1 N,.lst false 1 O,Qe P])] (some (QI J m p u K C b c i e)) (.d (.tup [])) (QI' r) []:=by
 unfold Qy at h;have⟨t1,h1,h⟩:=bo h;have⟨t2,h2,h⟩:=bo h;have q:=Q2 QM h1 (Qb (GC h2) (Q2 QM h1 QA));let o(l:jOj):=.el (Zi t1)::.obj (some 0) (.d (.agg [I t2.1,I t2.2])) (QI J m p u K C b c i e) jv::.el (Zi t1)::b1::(no 28 l);obtain⟨Q,h⟩|⟨Q,h⟩:=io h
 ·have⟨t4,H,h⟩:=bo h;have⟨E,h⟩:=gd h;cases h;exact rfO 0 (o [.el KH,.ix (-9),b1,.el (Wj t4),b1]) (Qb (ro 9 E) (Q2 Zb H (Qb (mk1 ⟨#[115,101,99,116,111,114]⟩ KH Q) q)))
 obtain⟨H,h⟩|⟨H,h⟩:=io h
 ·have⟨t5,E,h⟩:=bo h;have⟨t6,F,h⟩:=bo h;have⟨t7,A,h⟩:=bo h;have⟨v,h⟩:=gd h;cases h;exact rfO 0 (o [.el KJ,.ix (-9),b1,.el (Wj t5),.el (Wj t6),.el (Zi t7),b1]) (Qb (ro 109 v) (Q2 QM A (Q2 Zb F (Q2 Zb E (Qb (mk1 ⟨#[109,105,114,114,111,114]⟩ KJ H) q)))))
 obtain⟨E,h⟩|⟨E,h⟩:=io h
 ·have⟨t6,F,h⟩:=bo h;have⟨t7,A,h⟩:=bo h;have⟨t8,v,h⟩:=bo h;have⟨w,h⟩:=gd h;have⟨t10,f,h⟩:=bo h;have⟨t11,a,h⟩:=bo h;cases h;exact rfO 0 (o [.el JP,.ix (-9),b1,.el (Wj t6),.ix (-9),b1,.obj (some 0) (.d (.lst false 1 t7)) (QI t1 m p u t2.1 t2.2 b c i e) jv,.ret (I t8),b1,.ix (-9),b1,.el (Zi t10),.el (QF t11)]) (Qb (Q0 QB a) (Q2 QM f (Qb w (Qb (QJ v) (Qb (Zo A) (Q2 Zb F (Qb (mk1 ⟨#[115,111,105,108]⟩ JP E) q)))))))
 obtain⟨F,h⟩|⟨F,h⟩:=io h
 ·have⟨t7,A,h⟩:=bo h;have⟨t8,v,h⟩:=bo h;have⟨t9,w,h⟩:=bo h;have⟨f,h⟩:=gd h;have⟨t11,a,h⟩:=bo h;cases h;exact rfO 0 (o [.el JU,.ix (-9),b1,.el (Wj t7),.ix (-9),b1,.obj (some 0) (.d (.lst false 1 t8)) (QI t1 m p u t2.1 t2.2 b c i e) jv,.ret (I t9),b1,.ix (-9),b1,.el (QF t11)]) (Qb (Q0 QB a) (Qb f (Qb (QJ w) (Qb (Zo v) (Q2 Zb A (Qb (mk1 ⟨#[99,108,101,97,110]⟩ JU F) q))))))
 obtain⟨A,h⟩|⟨A,h⟩:=io h
 ·have⟨t8,v,h⟩:=bo h;have⟨t9,w,h⟩:=bo h;have⟨t10,f,h⟩:=bo h;have⟨a,h⟩:=gd h;have⟨t12,g,h⟩:=bo h;cases h;exact rfO 0 (o [.el JT,.ix (-9),b1,.el (Wj t8),.ix (-9),b1,.obj (some 0) (.d (.lst false 1 t9)) (QI t1 m p u t2.1 t2.2 b c i e) jv,.ret (I t10),b1,.ix (-9),b1,.el (QF t12)]) (Qb (Q0 QB g) (Qb a (Qb (QJ f) (Qb (Zo w) (Q2 Zb v (Qb (mk1 ⟨#[100,101,102,101,99,116]⟩ JT A) q))))))
 obtain⟨v,h⟩|⟨v,h⟩:=io h
 ·have⟨t9,w,h⟩:=bo h;have⟨t10,f,h⟩:=bo h;have⟨t11,a,h⟩:=bo h;have⟨g,h⟩:=gd h;have⟨t13,j,h⟩:=bo h;cases h;exact rfO 0 (o [.el JS,.ix (-9),b1,.el (Wj t9),.ix (-9),b1,.obj (some 0) (.d (.lst false 1 t10)) (QI t1 m p u t2.1 t2.2 b c i e) jv,.ret (I t11),b1,.ix (-9),b1,.el (QF t13)]) (Qb (Q0 QB j) (Qb g (Qb (QJ a) (Qb (Zo f) (Q2 Zb w (Qb (mk1 ⟨#[114,101,112,97,105,114]⟩ JS v) q))))))
 obtain⟨w,h⟩|⟨w,h⟩:=io h
 ·have⟨t10,f,h⟩:=bo h;have⟨t11,a,h⟩:=bo h;have⟨t12,g,h⟩:=bo h;have⟨j,h⟩:=gd h;have⟨t14,s,h⟩:=bo h;cases h;exact rfO 0 (o [.el JR,.ix (-9),b1,.el (Wj t10),.ix (-9),b1,.obj (some 0) (.d (.lst false 1 t11)) (QI t1 m p u t2.1 t2.2 b c i e) jv,.ret (I t12),b1,.ix (-9),b1,.el (QF t14)]) (Qb (Q0 QB s) (Qb j (Qb (QJ g) (Qb (Zo a) (Q2 Zb f (Qb (mk1 ⟨#[97,105,109]⟩ JR w) q))))))
 obtain⟨f,h⟩|⟨f,h⟩:=io h
 ·have⟨t11,a,h⟩:=bo h;have⟨t12,g,h⟩:=bo h;have⟨t13,j,h⟩:=bo h;have⟨s,h⟩:=gd h;have⟨t15,x,h⟩:=bo h;cases h;exact rfO 0 (o [.el JQ,.ix (-9),b1,.el (Wj t11),.ix (-9),b1,.obj (some 0) (.d (.lst false 1 t12)) (QI t1 m p u t2.1 t2.2 b c i e) jv,.ret (I t13),b1,.ix (-9),b1,.el (QF t15)]) (Qb (Q0 QB x) (Qb s (Qb (QJ j) (Qb (Zo g) (Q2 Zb a (Qb (mk1 ⟨#[112,97,114,107]⟩ JQ f) q))))))
 obtain⟨a,h⟩|⟨a,h⟩:=io h
 ·have⟨t12,g,h⟩:=bo h;cases h;exact rfO 0 (o [.el JM,.ix (-9),b1,.obj (some 0) (.d (.tup [])) (QI t1 m p u t2.1 t2.2 b c t12 e) [false,false,false,false,false,false,false,true,true,true]]) (Qb (EE g) (Qb (mk1 ⟨#[100,105,109]⟩ JM a) q))
 obtain⟨g,h⟩|⟨g,h⟩:=io h
 ·have⟨t13,j,h⟩:=bo h;cases h;exact rfO 0 (o [.el KB,.ix (-9),b1,.el (Zi t13)]) (Q2 QM j (Qb (mk1 ⟨#[115,117,110]⟩ KB g) q))
 obtain⟨j,h⟩|⟨j,h⟩:=io h
 ·cases h;exact rfO 0 (o [.el KF,.ix (-9),b1]) (Qb (mk1 ⟨#[102,105,108,108]⟩ KF j) q)
 obtain⟨s,h⟩|⟨s,h⟩:=io h
 ·cases h;exact rfO 0 (o [.el KE,.ix (-9),b1]) (Qb (mk1 ⟨#[100,114,97,105,110]⟩ KE s) q)
 obtain⟨x,h⟩|⟨x,h⟩:=io h
 ·have⟨t16,y,h⟩:=bo h;cases h;exact rfO 0 (o [.el KD,.ix (-9),b1,.obj (some 0) (.d (.tup [])) (QI t1 m p true t2.1 t2.2 b c t16 e) [false,false,false,false,false,false,false,true,true,true]]) (Qb (XC y) (Qb (mk1 ⟨#[116,114,105,112]⟩ KD x) q))
 obtain⟨y,h⟩|⟨y,h⟩:=io h
 ·cases h;exact rfO 0 (o [.el KC,.ix (-9),b1]) (Qb (mk1 ⟨#[114,101,115,101,116]⟩ KC y) q)
 obtain⟨G,h⟩|⟨G,h⟩:=io h
 ·have⟨t18,z,h⟩:=bo h;have⟨t19,t,h⟩:=bo h;have⟨t20,k,h⟩:=bo h;have⟨t21,h21,h⟩:=bo h;have⟨h22,h⟩:=gd h;cases h;exact rfO 0 (o [.el KI,.ix (-9),b1,.ret (.tup [.agg [I t18.1,I t18.2.1],I t18.2.2]),.el (Wj t19),.el (Zi t20),.el (Zi t21),b1]) (Qb (ro 200 h22) (Q2 QM h21 (Q2 QM k (Q2 Zb t (Qb (Eo z) (Qb (mk1 ⟨#[111,102,102,101,114]⟩ KI G) q))))))
 obtain⟨z,h⟩|⟨z,h⟩:=io h
 ·have⟨t19,t,h⟩:=bo h;have⟨t20,k,h⟩:=bo h;have⟨t21,h21,h⟩:=bo h;have⟨h22,h⟩:=gd h;have⟨t23,h23,h⟩:=bo h;have⟨t24,h24,h⟩:=bo h;have⟨h25,h⟩:=gd h;have⟨h26,h⟩:=gd h;have⟨h27,h⟩:=gd h;cases h;exact rfO 0 (o [.el JN,.ix (-9),b1,.el (Wj t19),.ix (-9),b1,.obj (some 0) (.d (.lst false 1 t20)) (QI t1 m p u t2.1 t2.2 b c i e) jv,.ret (I t21),b1,.el (Zr t23),.el (Zi t24),.el (Zr t23),.el (Zi t24)]) (Qb h27 (Qb h26 (Q2 QM h24 (Qb (Q0 Zg h23) (Qb h25 (Q2 QM h24 (Qb (Q0 Zg h23) (Qb h22 (Qb (QJ h21) (Qb (Zo k) (Q2 Zb t (Qb (mk1 ⟨#[100,101,108,105,118,101,114]⟩ JN z) q))))))))))))
 obtain⟨t,h⟩|⟨t,h⟩:=io h
 ·have⟨t20,k,h⟩:=bo h;have⟨t21,h21,h⟩:=bo h;have⟨t22,h22,h⟩:=bo h;have⟨h23,h⟩:=gd h;have⟨t24,h24,h⟩:=bo h;have⟨t25,h25,h⟩:=bo h;have⟨t26,h26,h⟩:=bo h;have⟨h27,h⟩:=gd h;cases h;exact rfO 0 (o [.el JO,.ix (-9),b1,.el (Wj t20),b1,.obj (some 0) (.d (.lst false 1 t21)) (QI t1 m p u t2.1 t2.2 b c i e) jv,.ret (I t22),b1,.el (Zr t24),.el (Zr t25),.ret (I t26)]) (Qb h27 (Qb (UH h26) (Qb (Q0 Zg h25) (Qb (Q0 Zg h24) (Qb h23 (Qb (QJ h22) (Qb (Zo h21) (Q2 Zb k (Qb (mk1 ⟨#[98,105,108,108]⟩ JO t) q)))))))))
 obtain⟨k,h⟩|⟨k,h⟩:=io h
 ·cases h;exact rfO 0 (o [.el KG,.ix (-9),b1]) (Qb (mk1 ⟨#[117,110,100,111]⟩ KG k) q)
 cases h
def ZN (n:Nat)(e:Int)(f:jSj)(m o:jVj)(p:jSj)(q r:jVj)(s t:Int)(u g:Bool)(h i j:Int)(k c l:jVj)(b:(Int×jVj)):Option (Int×jVj⊕jVj) := if b.1<((c).length:Int) then if 0<=b.1/\b.1<((b.2).length:Int) then((nth (b.2) (Int.toNat b.1)).bind QV).bind fun a=>(WW n a.1 a.2.1 a.2.2.1 a.2.2.2.1 a.2.2.2.2.1 a.2.2.2.2.2 e f m o p).bind fun d=>if d=true then if Qg (b.1+1) then some (.inl ((b.1+1),(List.set b.2 (Int.toNat b.1) (.agg [.v (.string a.1),.v (.string a.2.1),I a.2.2.1,I a.2.2.2.1,B a.2.2.2.2.1,B false]:D)))) else none else if Qg (b.1+1) then some (.inl ((b.1+1),b.2)) else none else none else some (.inr b.2)
noncomputable def Gz (p:Int)(q:jSj)(r s:jVj)(t:jSj)(k l:jVj)(m n:Int)(o a:Bool)(b c f:Int)(g i h:jVj):Lp (Int×jVj) (jVj):=⟨fun j=>[(0,.ptr 0 0 0 0 2),(1,.d (.fn (.func 142) [] [.ref (.agg [I p,Qe q,.lst false 1 r,.lst false 1 s,Qe t]) 0])),(9,.own 11 0),(10,.d (I ((i).length:Int))),(11,.d (I j.1))],fun j=>[(0,.box (.agg [.own 1 0,.own 2 0,.d (I m),.d (I n),.d (B o),.d (B a),.d (I b),.d (I c),.d (I f),.own 10 0,.own 11 0,.own 12 0])),(1,.row 0 5 k),(2,.row 0 5 l),(10,.row 0 1 g),(11,.row 0 6 j.2),(12,.row 0 7 h)],fun _=>(.exit 0),fun _=>[],fun e=>[(0,.box (.agg [.own 1 0,.own 2 0,.d (I m),.d (I n),.d (B o),.d (B a),.d (I b),.d (I c),.d (I f),.own 10 0,.own 11 0,.own 12 0])),(1,.row 0 5 k),(2,.row 0 5 l),(10,.row 0 1 g),(11,.row 0 6 e),(12,.row 0 7 h)]⟩
theorem Gv {n k m p s t u v w x y c d e f g i j}(z)(r)(h:ZN n k m p s t u v w x y c d e f g i j z=some r):Rl (Zt cx.P 141 0) 27 13 false (Gz k m p s t u v w x y c d e f g i j) z r:=by
 unfold ZN at h;obtain⟨a,h⟩|⟨a,h⟩:=io h
 ·have⟨ha2,h⟩:=gd h;have⟨ta3,ha3,h⟩:=bo h;have⟨ta4,ha4,h⟩:=bo h;have q:=Qb (Jh ha4) (Qb (Q0 QB ha3) (Qb ha2 (Qb (jDj a) QA)));let o(l:jOj):=b1::b1::.el (QF ta3)::.ret (B ta4)::l;obtain⟨b,h⟩|⟨b,h⟩:=io h
  ·have⟨ha6,h⟩:=gd h;cases h;exact rn 19 (o [b1,b1,.el (QF ta3)]) [] [0,1,9,10,11] [0,1,2,10,11,12] (Qb ha6 (Qb (Q0 QB ha3) (Qb ha2 (Qb b q))))
  have⟨ha6,h⟩:=gd h;cases h;exact rn 19 (o [b0]) [] [0,1,9,10,11] [0,1,2,10,11,12] (Qb ha6 (Qb (Zy b) q))
 cases h;exact rx 19 [b0] [] [] [0,1,2,10,11,12] (Qb (jEj a) QA)
def WZ (n:Nat)(h:Int)(i:jSj)(j k:jVj)(l:jSj)(m o:jVj)(p q:Int)(r b:Bool)(c d e:Int)(f a g:jVj):Option (jVj) := (QU (ZN n h i j k l m o p q r b c d e f a g) n (0,a)).bind fun s=>some s
theorem XB {n p q s t u j k l m o a b c e f i g r}(h:WZ n p q s t u j k l m o a b c e f i g=some r):ComputesO cx 141 [.ptr 0 0 0 0 2,.d (.fn (.func 142) [] [.ref (.agg [I p,Qe q,.lst false 1 s,.lst false 1 t,Qe u]) 0])] (some (Qa j k l m o a b c e f i g)) (.d (.tup [])) (Qa j k l m o a b c e f r g) [true,true,false,false,false,false,false,false,false,true,true,true]:=by unfold WZ at h;have⟨t1,h1,h⟩:=bo h;obtain rfl:=oi h;exact rfO 0 [.lp [] [0,1,9,10,11] [0,1,2,10,11,12] (.exit 0) [] [(0,.box (.agg [.own 1 0,.own 2 0,.d (I l),.d (I m),.d (B o),.d (B a),.d (I b),.d (I c),.d (I e),.own 10 0,.own 11 0,.own 12 0])),(1,.row 0 5 j),(2,.row 0 5 k),(10,.row 0 1 f),(11,.row 0 6 t1),(12,.row 0 7 g)] 50] (Qb (QE Gv h1) QA)
def ZM (n:Nat)(f g:jVj)(h i:Int)(j k:Bool)(l m o:Int)(p c e:jVj)(b:(Int×jVj)):Option (Int×jVj⊕jVj) := if b.1<((c).length:Int) then if 0<=b.1/\b.1<((b.2).length:Int) then((nth (b.2) (Int.toNat b.1)).bind QV).bind fun a=>(WV n a.1 a.2.1 a.2.2.1 a.2.2.2.1 a.2.2.2.2.1 a.2.2.2.2.2).bind fun d=>if d=true then if Qg (b.1+1) then some (.inl ((b.1+1),(List.set b.2 (Int.toNat b.1) (.agg [.v (.string a.1),.v (.string a.2.1),I a.2.2.1,I a.2.2.2.1,B a.2.2.2.2.1,B false]:D)))) else none else if Qg (b.1+1) then some (.inl ((b.1+1),b.2)) else none else none else some (.inr b.2)
noncomputable def Gy (f g:jVj)(h i:Int)(j k:Bool)(l m n:Int)(o b a:jVj):Lp (Int×jVj) (jVj):=⟨fun c=>[(0,.ptr 0 0 0 0 2),(1,.d (.fn (.func 152) [] [])),(9,.own 11 0),(10,.d (I ((b).length:Int))),(11,.d (I c.1))],fun c=>[(0,.box (.agg [.own 1 0,.own 2 0,.d (I h),.d (I i),.d (B j),.d (B k),.d (I l),.d (I m),.d (I n),.own 10 0,.own 11 0,.own 12 0])),(1,.row 0 5 f),(2,.row 0 5 g),(10,.row 0 1 o),(11,.row 0 6 c.2),(12,.row 0 7 a)],fun _=>(.exit 0),fun _=>[],fun e=>[(0,.box (.agg [.own 1 0,.own 2 0,.d (I h),.d (I i),.d (B j),.d (B k),.d (I l),.d (I m),.d (I n),.own 10 0,.own 11 0,.own 12 0])),(1,.row 0 5 f),(2,.row 0 5 g),(10,.row 0 1 o),(11,.row 0 6 e),(12,.row 0 7 a)]⟩
theorem Gu {n e f g i j k m p s t c d}(u)(r)(h:ZM n e f g i j k m p s t c d u=some r):Rl (Zt cx.P 141 0) 27 13 false (Gy e f g i j k m p s t c d) u r:=by
 unfold ZM at h;obtain⟨a,h⟩|⟨a,h⟩:=io h
 ·have⟨ha2,h⟩:=gd h;have⟨ta3,ha3,h⟩:=bo h;have⟨ta4,ha4,h⟩:=bo h;have q:=Qb (Jg ha4) (Qb (Q0 QB ha3) (Qb ha2 (Qb (jDj a) QA)));let o(l:jOj):=b1::b1::.el (QF ta3)::.ret (B ta4)::l;obtain⟨b,h⟩|⟨b,h⟩:=io h
  ·have⟨ha6,h⟩:=gd h;cases h;exact rn 19 (o [b1,b1,.el (QF ta3)]) [] [0,1,9,10,11] [0,1,2,10,11,12] (Qb ha6 (Qb (Q0 QB ha3) (Qb ha2 (Qb b q))))
  have⟨ha6,h⟩:=gd h;cases h;exact rn 19 (o [b0]) [] [0,1,9,10,11] [0,1,2,10,11,12] (Qb ha6 (Qb (Zy b) q))
 cases h;exact rx 19 [b0] [] [] [0,1,2,10,11,12] (Qb (jEj a) QA)
def WY (n:Nat)(c d:jVj)(e f:Int)(g h:Bool)(i j k:Int)(l a b:jVj):Option (jVj) := (QU (ZM n c d e f g h i j k l a b) n (0,a)).bind fun m=>some m
theorem XA {n c e f g i j k l m o b a r}(h:WY n c e f g i j k l m o b a=some r):ComputesO cx 141 [.ptr 0 0 0 0 2,.d (.fn (.func 152) [] [])] (some (Qa c e f g i j k l m o b a)) (.d (.tup [])) (Qa c e f g i j k l m o r a) [true,true,false,false,false,false,false,false,false,true,true,true]:=by unfold WY at h;have⟨t1,h1,h⟩:=bo h;obtain rfl:=oi h;exact rfO 0 [.lp [] [0,1,9,10,11] [0,1,2,10,11,12] (.exit 0) [] [(0,.box (.agg [.own 1 0,.own 2 0,.d (I f),.d (I g),.d (B i),.d (B j),.d (I k),.d (I l),.d (I m),.own 10 0,.own 11 0,.own 12 0])),(1,.row 0 5 c),(2,.row 0 5 e),(10,.row 0 1 o),(11,.row 0 6 t1),(12,.row 0 7 a)] 50] (Qb (QE Gu h1) QA)
def Qw (n:Nat)(M:Int)(o:jSj)(s A:jVj)(N:jSj)(u w:jVj)(O k:Int)(l f:Bool)(H J c:Int)(d a b:jVj):Option (jRj) := (el V5 A 0).bind fun i=>(Q9 n i u w O k l f H J c d a b).bind fun e=>if o.data.toList=[115,101,99,116,111,114] then(el Vg s 0).bind fun P=>if Wi 16 ((d).length+1) then some (i,k,l,f,e.1,e.2,c,(d++([.v (.string P)]:jVj)),a,b) else none else if o.data.toList=[109,105,114,114,111,114] then(el Vg s 0).bind fun Q=>(el Vg s 1).bind fun L=>(el V5 A 1).bind fun G=>if Wi 56 ((a).length+1) then some (i,k,l,f,e.1,e.2,c,d,(a++([.agg [.v (.string Q),.v (.string L),I G,I 0,B false,B false]]:jVj)),b) else none else if o.data.toList=[115,111,105,108] then(el Vg s 0).bind fun L=>(Qt n 109 u w i k l f e.1 e.2 c d a b).bind fun G=>(QC n G L).bind fun C=>if 0<=C/\C<((a).length:Int) then(el V5 A 1).bind fun t10=>((nth (a) (Int.toNat C)).bind QV).bind fun g=>some (i,k,l,f,e.1,e.2,c,d,(List.set a (Int.toNat C) (.agg [.v (.string g.1),.v (.string g.2.1),I g.2.2.1,I t10,B g.2.2.2.2.1,B g.2.2.2.2.2]:D)),b) else none else if o.data.toList=[99,108,101,97,110] then(el Vg s 0).bind fun G=>(Qt n 109 u w i k l f e.1 e.2 c d a b).bind fun C=>(QC n C G).bind fun t9=>if 0<=t9/\t9<((a).length:Int) then((nth (a) (Int.toNat t9)).bind QV).bind fun g=>some (i,k,l,f,e.1,e.2,c,d,(List.set a (Int.toNat t9) (.agg [.v (.string g.1),.v (.string g.2.1),I g.2.2.1,I 0,B g.2.2.2.2.1,B g.2.2.2.2.2]:D)),b) else none else if o.data.toList=[100,101,102,101,99,116] then(el Vg s 0).bind fun C=>(Qt n 109 u w i k l f e.1 e.2 c d a b).bind fun t9=>(QC n t9 C).bind fun t10=>if 0<=t10/\t10<((a).length:Int) then((nth (a) (Int.toNat t10)).bind QV).bind fun j=>some (i,k,l,f,e.1,e.2,c,d,(List.set a (Int.toNat t10) (.agg [.v (.string j.1),.v (.string j.2.1),I j.2.2.1,I j.2.2.2.1,B true,B j.2.2.2.2.2]:D)),b) else none else if o.data.toList=[114,101,112,97,105,114] then(el Vg s 0).bind fun t9=>(Qt n 109 u w i k l f e.1 e.2 c d a b).bind fun t10=>(QC n t10 t9).bind fun g=>if 0<=g/\g<((a).length:Int) then((nth (a) (Int.toNat g)).bind QV).bind fun m=>some (i,k,l,f,e.1,e.2,c,d,(List.set a (Int.toNat g) (.agg [.v (.string m.1),.v (.string m.2.1),I m.2.2.1,I m.2.2.2.1,B false,B m.2.2.2.2.2]:D)),b) else none else if o.data.toList=[97,105,109] then(el Vg s 0).bind fun t10=>(Qt n 109 u w i k l f e.1 e.2 c d a b).bind fun g=>(QC n g t10).bind fun j=>if 0<=j/\j<((a).length:Int) then((nth (a) (Int.toNat j)).bind QV).bind fun x=>some (i,k,l,f,e.1,e.2,c,d,(List.set a (Int.toNat j) (.agg [.v (.string x.1),.v (.string x.2.1),I x.2.2.1,I x.2.2.2.1,B x.2.2.2.2.1,B true]:D)),b) else none else if o.data.toList=[112,97,114,107] then(el Vg s 0).bind fun g=>(Qt n 109 u w i k l f e.1 e.2 c d a b).bind fun j=>(QC n j g).bind fun m=>if 0<=m/\m<((a).length:Int) then((nth (a) (Int.toNat m)).bind QV).bind fun y=>some (i,k,l,f,e.1,e.2,c,d,(List.set a (Int.toNat m) (.agg [.v (.string y.1),.v (.string y.2.1),I y.2.2.1,I y.2.2.2.1,B y.2.2.2.2.1,B false]:D)),b) else none else if o.data.toList=[100,105,109] then(WZ n M o s A N u w i k l f e.1 e.2 c d a b).bind fun j=>some (i,k,l,f,e.1,e.2,c,d,j,b) else if o.data.toList=[115,117,110] then(el V5 A 1).bind fun m=>some (i,m,l,f,e.1,e.2,c,d,a,b) else if o.data.toList=[102,105,108,108] then some (i,k,true,f,e.1,e.2,c,d,a,b) else if o.data.toList=[100,114,97,105,110] then some (i,k,false,f,e.1,e.2,c,d,a,b) else if o.data.toList=[116,114,105,112] then(WY n u w i k l true e.1 e.2 c d a b).bind fun K=>some (i,k,l,true,e.1,e.2,c,d,K,b) else if o.data.toList=[114,101,115,101,116] then some (i,k,l,false,e.1,e.2,c,d,a,b) else if o.data.toList=[111,102,102,101,114] then(Vb n M o s A N).bind fun t18=>(el Vg s 0).bind fun E=>(el V5 A 3).bind fun z=>(el V5 A 4).bind fun p=>if Wi 64 ((b).length+1) then some (i,k,l,f,e.1,e.2,c,d,a,(b++([.agg [.v (.string E),I t18.1,I t18.2.1,I z,I p,I 0,B false]]:jVj))) else none else if o.data.toList=[100,101,108,105,118,101,114] then(el Vg s 0).bind fun E=>(Qt n 111 u w i k l f e.1 e.2 c d a b).bind fun z=>(QC n z E).bind fun p=>if 0<=p/\p<((b).length:Int) then((nth (b) (Int.toNat p)).bind Z4).bind fun q=>(el V5 A 1).bind fun h=>if Qg (q.2.2.2.2.2.1+h) then if Qg (1000000*h) then if Qg (e.2 - (1000000*h)) then some (i,k,l,f,e.1,(e.2 - (1000000*h)),c,d,a,(List.set b (Int.toNat p) (.agg [.v (.string q.1),I q.2.1,I q.2.2.1,I q.2.2.2.1,I q.2.2.2.2.1,I (q.2.2.2.2.2.1+h),B q.2.2.2.2.2.2]:D))) else none else none else none else none else if o.data.toList=[98,105,108,108] then(el Vg s 0).bind fun z=>(Qt n 111 u w i k l f e.1 e.2 c d a b).bind fun p=>(QC n p z).bind fun t=>if 0<=t/\t<((b).length:Int) then((nth (b) (Int.toNat t)).bind Z4).bind fun h=>((nth ((List.set b (Int.toNat t) (.agg [.v (.string h.1),I h.2.1,I h.2.2.1,I h.2.2.2.1,I h.2.2.2.2.1,I h.2.2.2.2.2.1,B true]:D)):jVj) (Int.toNat t)).bind Z4).bind fun r=>(WQ n r.1 r.2.1 r.2.2.1 r.2.2.2.1 r.2.2.2.2.1 r.2.2.2.2.2.1 r.2.2.2.2.2.2).bind fun F=>if Qg (c+F) then some (i,k,l,f,e.1,e.2,(c+F),d,a,(List.set b (Int.toNat t) (.agg [.v (.string h.1),I h.2.1,I h.2.2.1,I h.2.2.2.1,I h.2.2.2.2.1,I h.2.2.2.2.2.1,B true]:D))) else none else none else if o.data.toList=[117,110,100,111] then some (i,k,l,f,e.1,e.2,c,d,a,b) else none
theorem Xa {n N O P Q S p s M t u f F G b c j e r}(h:Qw n N O P Q S p s M t u f F G b c j e=some r):ComputesO cx 170 [.ptr 0 0 0 0 2,.d (.agg [I N,Qe O,.lst false 1 P,.lst false 1 Q,Qe S])] (some (Qa p s M t u f F G b c j e)) (.d (.tup [])) (Qa p s r.1 r.2.1 r.2.2.1 r.2.2.2.1 r.2.2.2.2.1 r.2.2.2.2.2.1 r.2.2.2.2.2.2.1 r.2.2.2.2.2.2.2.1 r.2.2.2.2.2.2.2.2.1 r.2.2.2.2.2.2.2.2.2) [true,true]:=by
 unfold Qw at h;have⟨t1,h1,h⟩:=bo h;have⟨t2,h2,h⟩:=bo h;have q:=Q2 QM h1 (Qb (WT h2) (Q2 QM h1 QA));let o(l:jOj):=.el (Zi t1)::.obj (some 0) (.d (.agg [I t2.1,I t2.2])) (Qa p s M t u f F G b c j e) Zj::.el (Zi t1)::b1::(no 28 l);obtain⟨T,h⟩|⟨T,h⟩:=io h
 ·have⟨t4,L,h⟩:=bo h;have⟨H,h⟩:=gd h;cases h;exact rfO 0 (o [.el KH,.ix (-9),b1,.el (Wj t4),b1]) (Qb (ro 9 H) (Q2 Zb L (Qb (mk1 ⟨#[115,101,99,116,111,114]⟩ KH T) q)))
 obtain⟨L,h⟩|⟨L,h⟩:=io h
 ·have⟨t5,H,h⟩:=bo h;have⟨t6,J,h⟩:=bo h;have⟨t7,E,h⟩:=bo h;have⟨x,h⟩:=gd h;cases h;exact rfO 0 (o [.el KJ,.ix (-9),b1,.el (Wj t5),.el (Wj t6),.el (Zi t7),b1]) (Qb (ro 109 x) (Q2 QM E (Q2 Zb J (Q2 Zb H (Qb (mk1 ⟨#[109,105,114,114,111,114]⟩ KJ L) q)))))
 obtain⟨H,h⟩|⟨H,h⟩:=io h
 ·have⟨t6,J,h⟩:=bo h;have⟨t7,E,h⟩:=bo h;have⟨t8,x,h⟩:=bo h;have⟨y,h⟩:=gd h;have⟨t10,g,h⟩:=bo h;have⟨t11,a,h⟩:=bo h;cases h;exact rfO 0 (o [.el JP,.ix (-9),b1,.el (Wj t6),.ix (-9),b1,.obj (some 0) (.d (.lst false 1 t7)) (Qa p s t1 t u f t2.1 t2.2 b c j e) Zj,.ret (I t8),b1,.ix (-9),b1,.el (Zi t10),.el (QF t11)]) (Qb (Q0 QB a) (Q2 QM g (Qb y (Qb (QJ x) (Qb (Qz E) (Q2 Zb J (Qb (mk1 ⟨#[115,111,105,108]⟩ JP H) q)))))))
 obtain⟨J,h⟩|⟨J,h⟩:=io h
 ·have⟨t7,E,h⟩:=bo h;have⟨t8,x,h⟩:=bo h;have⟨t9,y,h⟩:=bo h;have⟨g,h⟩:=gd h;have⟨t11,a,h⟩:=bo h;cases h;exact rfO 0 (o [.el JU,.ix (-9),b1,.el (Wj t7),.ix (-9),b1,.obj (some 0) (.d (.lst false 1 t8)) (Qa p s t1 t u f t2.1 t2.2 b c j e) Zj,.ret (I t9),b1,.ix (-9),b1,.el (QF t11)]) (Qb (Q0 QB a) (Qb g (Qb (QJ y) (Qb (Qz x) (Q2 Zb E (Qb (mk1 ⟨#[99,108,101,97,110]⟩ JU J) q))))))
 obtain⟨E,h⟩|⟨E,h⟩:=io h
 ·have⟨t8,x,h⟩:=bo h;have⟨t9,y,h⟩:=bo h;have⟨t10,g,h⟩:=bo h;have⟨a,h⟩:=gd h;have⟨t12,i,h⟩:=bo h;cases h;exact rfO 0 (o [.el JT,.ix (-9),b1,.el (Wj t8),.ix (-9),b1,.obj (some 0) (.d (.lst false 1 t9)) (Qa p s t1 t u f t2.1 t2.2 b c j e) Zj,.ret (I t10),b1,.ix (-9),b1,.el (QF t12)]) (Qb (Q0 QB i) (Qb a (Qb (QJ g) (Qb (Qz y) (Q2 Zb x (Qb (mk1 ⟨#[100,101,102,101,99,116]⟩ JT E) q))))))
 obtain⟨x,h⟩|⟨x,h⟩:=io h
 ·have⟨t9,y,h⟩:=bo h;have⟨t10,g,h⟩:=bo h;have⟨t11,a,h⟩:=bo h;have⟨i,h⟩:=gd h;have⟨t13,k,h⟩:=bo h;cases h;exact rfO 0 (o [.el JS,.ix (-9),b1,.el (Wj t9),.ix (-9),b1,.obj (some 0) (.d (.lst false 1 t10)) (Qa p s t1 t u f t2.1 t2.2 b c j e) Zj,.ret (I t11),b1,.ix (-9),b1,.el (QF t13)]) (Qb (Q0 QB k) (Qb i (Qb (QJ a) (Qb (Qz g) (Q2 Zb y (Qb (mk1 ⟨#[114,101,112,97,105,114]⟩ JS x) q))))))
 obtain⟨y,h⟩|⟨y,h⟩:=io h
 ·have⟨t10,g,h⟩:=bo h;have⟨t11,a,h⟩:=bo h;have⟨t12,i,h⟩:=bo h;have⟨k,h⟩:=gd h;have⟨t14,v,h⟩:=bo h;cases h;exact rfO 0 (o [.el JR,.ix (-9),b1,.el (Wj t10),.ix (-9),b1,.obj (some 0) (.d (.lst false 1 t11)) (Qa p s t1 t u f t2.1 t2.2 b c j e) Zj,.ret (I t12),b1,.ix (-9),b1,.el (QF t14)]) (Qb (Q0 QB v) (Qb k (Qb (QJ i) (Qb (Qz a) (Q2 Zb g (Qb (mk1 ⟨#[97,105,109]⟩ JR y) q))))))
 obtain⟨g,h⟩|⟨g,h⟩:=io h
 ·have⟨t11,a,h⟩:=bo h;have⟨t12,i,h⟩:=bo h;have⟨t13,k,h⟩:=bo h;have⟨v,h⟩:=gd h;have⟨t15,z,h⟩:=bo h;cases h;exact rfO 0 (o [.el JQ,.ix (-9),b1,.el (Wj t11),.ix (-9),b1,.obj (some 0) (.d (.lst false 1 t12)) (Qa p s t1 t u f t2.1 t2.2 b c j e) Zj,.ret (I t13),b1,.ix (-9),b1,.el (QF t15)]) (Qb (Q0 QB z) (Qb v (Qb (QJ k) (Qb (Qz i) (Q2 Zb a (Qb (mk1 ⟨#[112,97,114,107]⟩ JQ g) q))))))
 obtain⟨a,h⟩|⟨a,h⟩:=io h
 ·have⟨t12,i,h⟩:=bo h;cases h;exact rfO 0 (o [.el JM,.ix (-9),b1,.obj (some 0) (.d (.tup [])) (Qa p s t1 t u f t2.1 t2.2 b c t12 e) [true,true,false,false,false,false,false,false,false,true,true,true]]) (Qb (XB i) (Qb (mk1 ⟨#[100,105,109]⟩ JM a) q))
 obtain⟨i,h⟩|⟨i,h⟩:=io h
 ·have⟨t13,k,h⟩:=bo h;cases h;exact rfO 0 (o [.el KB,.ix (-9),b1,.el (Zi t13)]) (Q2 QM k (Qb (mk1 ⟨#[115,117,110]⟩ KB i) q))
 obtain⟨k,h⟩|⟨k,h⟩:=io h
 ·cases h;exact rfO 0 (o [.el KF,.ix (-9),b1]) (Qb (mk1 ⟨#[102,105,108,108]⟩ KF k) q)
 obtain⟨v,h⟩|⟨v,h⟩:=io h
 ·cases h;exact rfO 0 (o [.el KE,.ix (-9),b1]) (Qb (mk1 ⟨#[100,114,97,105,110]⟩ KE v) q)
 obtain⟨z,h⟩|⟨z,h⟩:=io h
 ·have⟨t16,A,h⟩:=bo h;cases h;exact rfO 0 (o [.el KD,.ix (-9),b1,.obj (some 0) (.d (.tup [])) (Qa p s t1 t u true t2.1 t2.2 b c t16 e) [true,true,false,false,false,false,false,false,false,true,true,true]]) (Qb (XA A) (Qb (mk1 ⟨#[116,114,105,112]⟩ KD z) q))
 obtain⟨A,h⟩|⟨A,h⟩:=io h
 ·cases h;exact rfO 0 (o [.el KC,.ix (-9),b1]) (Qb (mk1 ⟨#[114,101,115,101,116]⟩ KC A) q)
 obtain⟨K,h⟩|⟨K,h⟩:=io h
 ·have⟨t18,C,h⟩:=bo h;have⟨t19,w,h⟩:=bo h;have⟨t20,m,h⟩:=bo h;have⟨t21,h21,h⟩:=bo h;have⟨h22,h⟩:=gd h;cases h;exact rfO 0 (o [.el KI,.ix (-9),b1,.ret (.tup [.agg [I t18.1,I t18.2.1],I t18.2.2]),.el (Wj t19),.el (Zi t20),.el (Zi t21),b1]) (Qb (ro 200 h22) (Q2 QM h21 (Q2 QM m (Q2 Zb w (Qb (Eo C) (Qb (mk1 ⟨#[111,102,102,101,114]⟩ KI K) q))))))
 obtain⟨C,h⟩|⟨C,h⟩:=io h
 ·have⟨t19,w,h⟩:=bo h;have⟨t20,m,h⟩:=bo h;have⟨t21,h21,h⟩:=bo h;have⟨h22,h⟩:=gd h;have⟨t23,h23,h⟩:=bo h;have⟨t24,h24,h⟩:=bo h;have⟨h25,h⟩:=gd h;have⟨h26,h⟩:=gd h;have⟨h27,h⟩:=gd h;cases h;exact rfO 0 (o [.el JN,.ix (-9),b1,.el (Wj t19),.ix (-9),b1,.obj (some 0) (.d (.lst false 1 t20)) (Qa p s t1 t u f t2.1 t2.2 b c j e) Zj,.ret (I t21),b1,.el (Zr t23),.el (Zi t24),.el (Zr t23),.el (Zi t24)]) (Qb h27 (Qb h26 (Q2 QM h24 (Qb (Q0 Zg h23) (Qb h25 (Q2 QM h24 (Qb (Q0 Zg h23) (Qb h22 (Qb (QJ h21) (Qb (Qz m) (Q2 Zb w (Qb (mk1 ⟨#[100,101,108,105,118,101,114]⟩ JN C) q))))))))))))
 obtain⟨w,h⟩|⟨w,h⟩:=io h
 ·have⟨t20,m,h⟩:=bo h;have⟨t21,h21,h⟩:=bo h;have⟨t22,h22,h⟩:=bo h;have⟨h23,h⟩:=gd h;have⟨t24,h24,h⟩:=bo h;have⟨t25,h25,h⟩:=bo h;have⟨t26,h26,h⟩:=bo h;have⟨h27,h⟩:=gd h;cases h;exact rfO 0 (o [.el JO,.ix (-9),b1,.el (Wj t20),b1,.obj (some 0) (.d (.lst false 1 t21)) (Qa p s t1 t u f t2.1 t2.2 b c j e) Zj,.ret (I t22),b1,.el (Zr t24),.el (Zr t25),.ret (I t26)]) (Qb h27 (Qb (UH h26) (Qb (Q0 Zg h25) (Qb (Q0 Zg h24) (Qb h23 (Qb (QJ h22) (Qb (Qz h21) (Q2 Zb m (Qb (mk1 ⟨#[98,105,108,108]⟩ JO w) q)))))))))
 obtain⟨m,h⟩|⟨m,h⟩:=io h
 ·cases h;exact rfO 0 (o [.el KG,.ix (-9),b1]) (Qb (mk1 ⟨#[117,110,100,111]⟩ KG m) q)
 cases h
def Zn (n:Nat)(l:Int)(m:jSj)(o p:jVj)(q:jSj)(r d:jVj)(s t:Int)(u e:Bool)(f g h:Int)(i j k:jVj)(b:(Unit)⊕Int×jRj):Option ((Unit⊕Int×jRj)⊕Unit⊕jRj):=match b with|(.inl b)=>(if 0<(((d.take (Int.toNat (((d).length:Int) - 1))):jVj).length:Int) then if(0:Int)<=0/\0<(((d.take (Int.toNat (((d).length:Int) - 1))):jVj).length:Int) then((nth ((d.take (Int.toNat (((d).length:Int) - 1))):jVj) 0).bind Wc).bind fun c=>(Qy n c.1 c.2.1 c.2.2.1 c.2.2.2.1 c.2.2.2.2 0 0 false false 0 0 0 ([]) ([]) ([])).bind fun a=>some (.inl (.inr (1,a.1,a.2.1,a.2.2.1,a.2.2.2.1,a.2.2.2.2.1,a.2.2.2.2.2.1,a.2.2.2.2.2.2.1,a.2.2.2.2.2.2.2.1,a.2.2.2.2.2.2.2.2.1,a.2.2.2.2.2.2.2.2.2))) else none else some (.inr (.inl ())))|.inr b=>(if b.1<(((d.take (Int.toNat (((d).length:Int) - 1))):jVj).length:Int) then if 0<=b.1/\b.1<(((d.take (Int.toNat (((d).length:Int) - 1))):jVj).length:Int) then((nth ((d.take (Int.toNat (((d).length:Int) - 1))):jVj) (Int.toNat b.1)).bind Wc).bind fun c=>(Qy n c.1 c.2.1 c.2.2.1 c.2.2.2.1 c.2.2.2.2 b.2.1 b.2.2.1 b.2.2.2.1 b.2.2.2.2.1 b.2.2.2.2.2.1 b.2.2.2.2.2.2.1 b.2.2.2.2.2.2.2.1 b.2.2.2.2.2.2.2.2.1 b.2.2.2.2.2.2.2.2.2.1 b.2.2.2.2.2.2.2.2.2.2).bind fun a=>if Qg (b.1+1) then some (.inl (.inr ((b.1+1),a.1,a.2.1,a.2.2.1,a.2.2.2.1,a.2.2.2.2.1,a.2.2.2.2.2.1,a.2.2.2.2.2.2.1,a.2.2.2.2.2.2.2.1,a.2.2.2.2.2.2.2.2.1,a.2.2.2.2.2.2.2.2.2))) else none else none else some (.inr (.inr (b.2.1,b.2.2.1,b.2.2.2.1,b.2.2.2.2.1,b.2.2.2.2.2.1,b.2.2.2.2.2.2.1,b.2.2.2.2.2.2.2.1,b.2.2.2.2.2.2.2.2.1,b.2.2.2.2.2.2.2.2.2.1,b.2.2.2.2.2.2.2.2.2.2))))
abbrev YC:D:=jZj
noncomputable def Eu (c:Int)(f:jSj)(a b:jVj)(g:jSj)(p h:jVj)(q r:Int)(s i:Bool)(j k l:Int)(m n o:jVj):Lp (Unit⊕Int×jRj) (Unit⊕jRj):=⟨fun
 | (.inl sa)=>[(2,.ptr 83 0 0 0 0),(3,.ptr 84 0 0 0 0),(6,.own 2 1),(7,.d (I (((h.take (Int.toNat (((h).length:Int) - 1))):jVj).length:Int))),(8,.d (I 0))]
 | (.inr sa)=>[(2,.ptr 83 0 0 0 0),(3,.ptr 84 0 0 0 0),(6,.own 2 1),(7,.d (I (((h.take (Int.toNat (((h).length:Int) - 1))):jVj).length:Int))),(8,.d (I sa.1))],fun
 | (.inl sa)=>[(0,.box (.agg [.own 1 1,.own 2 1,.d (I q),.d (I r),.d (B s),.d (B i),.d (I j),.d (I k),.d (I l),.own 10 0,.own 11 0,.own 12 0])),(1,.row 1 5 (p++([.agg [I c,Qe f,.lst false 1 (a.take ((List.replicate (Int.toNat ((a).length:Int)) (Qe ⟨#[]⟩:D)):jVj).length++(List.replicate (Int.toNat ((a).length:Int)) (Qe ⟨#[]⟩:D)).drop (a).length),.lst false 1 (b.take ((List.replicate (Int.toNat ((b).length:Int)) (I 0:D)):jVj).length++(List.replicate (Int.toNat ((b).length:Int)) (I 0:D)).drop (b).length),Qe g]]:jVj))),(2,.row 1 5 (h.take (Int.toNat (((h).length:Int) - 1)))),(10,.row 0 1 m),(11,.row 0 6 n),(12,.row 0 7 o),(13,.box (.agg [.d (I c),.d (Qe f),.own 22 0,.own 26 0,.d (Qe g)])),(17,.box (.agg [.d (I c),.d (Qe f),.own 22 0,.own 26 0,.d (Qe g)])),(18,.box (.agg [.d (I c),.d (Qe f),.own 22 0,.own 26 0,.d (Qe g)])),(22,.frozen 0 1 (a.take ((List.replicate (Int.toNat ((a).length:Int)) (Qe ⟨#[]⟩:D)):jVj).length++(List.replicate (Int.toNat ((a).length:Int)) (Qe ⟨#[]⟩:D)).drop (a).length)),(26,.frozen 0 1 (b.take ((List.replicate (Int.toNat ((b).length:Int)) (I 0:D)):jVj).length++(List.replicate (Int.toNat ((b).length:Int)) (I 0:D)).drop (b).length)),(83,.box (.d YC)),(84,.box (.d YC))]
 | (.inr sa)=>[(0,.box (.agg [.own 1 1,.own 2 1,.d (I q),.d (I r),.d (B s),.d (B i),.d (I j),.d (I k),.d (I l),.own 10 0,.own 11 0,.own 12 0])),(1,.row 1 5 (p++([.agg [I c,Qe f,.lst false 1 (a.take ((List.replicate (Int.toNat ((a).length:Int)) (Qe ⟨#[]⟩:D)):jVj).length++(List.replicate (Int.toNat ((a).length:Int)) (Qe ⟨#[]⟩:D)).drop (a).length),.lst false 1 (b.take ((List.replicate (Int.toNat ((b).length:Int)) (I 0:D)):jVj).length++(List.replicate (Int.toNat ((b).length:Int)) (I 0:D)).drop (b).length),Qe g]]:jVj))),(2,.row 1 5 (h.take (Int.toNat (((h).length:Int) - 1)))),(10,.row 0 1 m),(11,.row 0 6 n),(12,.row 0 7 o),(13,.box (.agg [.d (I c),.d (Qe f),.own 22 0,.own 26 0,.d (Qe g)])),(17,.box (.agg [.d (I c),.d (Qe f),.own 22 0,.own 26 0,.d (Qe g)])),(18,.box (.agg [.d (I c),.d (Qe f),.own 22 0,.own 26 0,.d (Qe g)])),(22,.frozen 0 1 (a.take ((List.replicate (Int.toNat ((a).length:Int)) (Qe ⟨#[]⟩:D)):jVj).length++(List.replicate (Int.toNat ((a).length:Int)) (Qe ⟨#[]⟩:D)).drop (a).length)),(26,.frozen 0 1 (b.take ((List.replicate (Int.toNat ((b).length:Int)) (I 0:D)):jVj).length++(List.replicate (Int.toNat ((b).length:Int)) (I 0:D)).drop (b).length)),(83,.box (.d YC)),(84,.box (.agg [.d (I sa.2.1),.d (I sa.2.2.1),.d (B sa.2.2.2.1),.d (B sa.2.2.2.2.1),.d (I sa.2.2.2.2.2.1),.d (I sa.2.2.2.2.2.2.1),.d (I sa.2.2.2.2.2.2.2.1),.own 102 0,.own 103 0,.own 104 0])),(102,.row 0 1 sa.2.2.2.2.2.2.2.2.1),(103,.row 0 6 sa.2.2.2.2.2.2.2.2.2.1),(104,.row 0 7 sa.2.2.2.2.2.2.2.2.2.2)],fun _=>(.exit 0),fun _=>[(2,.ptr 83 0 0 0 0),(3,.ptr 84 0 0 0 0)],fun
 | (.inl e)=>[(0,.box (.agg [.own 1 1,.own 2 1,.d (I q),.d (I r),.d (B s),.d (B i),.d (I j),.d (I k),.d (I l),.own 10 0,.own 11 0,.own 12 0])),(1,.row 1 5 (p++([.agg [I c,Qe f,.lst false 1 (a.take ((List.replicate (Int.toNat ((a).length:Int)) (Qe ⟨#[]⟩:D)):jVj).length++(List.replicate (Int.toNat ((a).length:Int)) (Qe ⟨#[]⟩:D)).drop (a).length),.lst false 1 (b.take ((List.replicate (Int.toNat ((b).length:Int)) (I 0:D)):jVj).length++(List.replicate (Int.toNat ((b).length:Int)) (I 0:D)).drop (b).length),Qe g]]:jVj))),(2,.row 1 5 (h.take (Int.toNat (((h).length:Int) - 1)))),(10,.row 0 1 m),(11,.row 0 6 n),(12,.row 0 7 o),(13,.box (.agg [.d (I c),.d (Qe f),.own 22 0,.own 26 0,.d (Qe g)])),(17,.box (.agg [.d (I c),.d (Qe f),.own 22 0,.own 26 0,.d (Qe g)])),(18,.box (.agg [.d (I c),.d (Qe f),.own 22 0,.own 26 0,.d (Qe g)])),(22,.frozen 0 1 (a.take ((List.replicate (Int.toNat ((a).length:Int)) (Qe ⟨#[]⟩:D)):jVj).length++(List.replicate (Int.toNat ((a).length:Int)) (Qe ⟨#[]⟩:D)).drop (a).length)),(26,.frozen 0 1 (b.take ((List.replicate (Int.toNat ((b).length:Int)) (I 0:D)):jVj).length++(List.replicate (Int.toNat ((b).length:Int)) (I 0:D)).drop (b).length)),(83,.box (.d YC)),(84,.box (.d YC))]
 | (.inr e)=>[(0,.box (.agg [.own 1 1,.own 2 1,.d (I q),.d (I r),.d (B s),.d (B i),.d (I j),.d (I k),.d (I l),.own 10 0,.own 11 0,.own 12 0])),(1,.row 1 5 (p++([.agg [I c,Qe f,.lst false 1 (a.take ((List.replicate (Int.toNat ((a).length:Int)) (Qe ⟨#[]⟩:D)):jVj).length++(List.replicate (Int.toNat ((a).length:Int)) (Qe ⟨#[]⟩:D)).drop (a).length),.lst false 1 (b.take ((List.replicate (Int.toNat ((b).length:Int)) (I 0:D)):jVj).length++(List.replicate (Int.toNat ((b).length:Int)) (I 0:D)).drop (b).length),Qe g]]:jVj))),(2,.row 1 5 (h.take (Int.toNat (((h).length:Int) - 1)))),(10,.row 0 1 m),(11,.row 0 6 n),(12,.row 0 7 o),(13,.box (.agg [.d (I c),.d (Qe f),.own 22 0,.own 26 0,.d (Qe g)])),(17,.box (.agg [.d (I c),.d (Qe f),.own 22 0,.own 26 0,.d (Qe g)])),(18,.box (.agg [.d (I c),.d (Qe f),.own 22 0,.own 26 0,.d (Qe g)])),(22,.frozen 0 1 (a.take ((List.replicate (Int.toNat ((a).length:Int)) (Qe ⟨#[]⟩:D)):jVj).length++(List.replicate (Int.toNat ((a).length:Int)) (Qe ⟨#[]⟩:D)).drop (a).length)),(26,.frozen 0 1 (b.take ((List.replicate (Int.toNat ((b).length:Int)) (I 0:D)):jVj).length++(List.replicate (Int.toNat ((b).length:Int)) (I 0:D)).drop (b).length)),(83,.box (.d YC)),(84,.box (.agg [.d (I e.1),.d (I e.2.1),.d (B e.2.2.1),.d (B e.2.2.2.1),.d (I e.2.2.2.2.1),.d (I e.2.2.2.2.2.1),.d (I e.2.2.2.2.2.2.1),.own 102 0,.own 103 0,.own 104 0])),(102,.row 0 1 e.2.2.2.2.2.2.2.1),(103,.row 0 6 e.2.2.2.2.2.2.2.2.1),(104,.row 0 7 e.2.2.2.2.2.2.2.2.2)]⟩
theorem Kk {n l m o p q s t u v w b c e f g i j}(k)(r)(h:Zn n l m o p q s t u v w b c e f g i j k=some r):Rl (Zt cx.P 169 0) 16 83 false (Eu l m o p q s t u v w b c e f g i j) k r:=by
 unfold Zn at h;obtain k|k:=k
 ·obtain⟨a,h⟩|⟨a,h⟩:=io h
  ·have⟨ha2,h⟩:=gd h;have⟨ta3,ha3,h⟩:=bo h;have⟨ta4,ha4,h⟩:=bo h;cases h;exact rn 88 [b1,b1,.el (VQ ta3),.obj (some 84) (.d (.tup [])) (QI' ta4) []] [] [2,3,6,7,8] [0,1,2,10,11,12,13,17,18,22,26,83,84,102,103,104] (Qb ((by unfold Qg;omega):Qg 1) (Qb (Kb ha4) (Qb (Q0 V6 ha3) (Qb ha2 (Qb (jDj a) QA)))))
  cases h;exact rx 88 [b0] [] [2,3] [0,1,2,10,11,12,13,17,18,22,26,83,84] (Qb (jEj a) QA)
 ·obtain⟨a,h⟩|⟨a,h⟩:=io h
  ·have⟨ha2,h⟩:=gd h;have⟨ta3,ha3,h⟩:=bo h;have⟨ta4,ha4,h⟩:=bo h;have⟨ha5,h⟩:=gd h;cases h;exact rn 105 [b1,b1,.el (VQ ta3),.obj (some 84) (.d (.tup [])) (QI' ta4) []] [] [2,3,6,7,8] [0,1,2,10,11,12,13,17,18,22,26,83,84,102,103,104] (Qb ha5 (Qb (Kb ha4) (Qb (Q0 V6 ha3) (Qb ha2 (Qb (jDj a) QA)))))
  cases h;exact rx 105 [b0] [] [2,3] [0,1,2,10,11,12,13,17,18,22,26,83,84,102,103,104] (Qb (jEj a) QA)
def WF (n:Nat)(g:Int)(f:jSj)(a b:jVj)(h:jSj)(i d:jVj)(r s:Int)(t j:Bool)(k l m:Int)(o p q:jVj):Option (jVj×jVj×jRj) := if 0<=((a).length:Int)/\((a).length:Int)<=((a).length:Int)/\16*((a).length:Int)<=281474976710656/\((a).length:Int)<=9223372036854775807 then if 0<=((b).length:Int)/\((b).length:Int)<=((b).length:Int)/\8*((b).length:Int)<=281474976710656/\((b).length:Int)<=9223372036854775807 then if Wi 88 ((i).length+1) then if(f.toList==(⟨#[117,110,100,111]⟩:jSj).toList)=true then if Qg (((d).length:Int) - 1) then if 0<=(((d).length:Int) - 1)/\(((d).length:Int) - 1)<=((d).length:Int) then(QU (Zn n g f a b h i d r s t j k l m o p q) n (.inl ())).bind fun c=>match c with|.inl c=>(some ((i++([.agg [I g,.v (.string f),.lst false 1 (a.take ((List.replicate (Int.toNat ((a).length:Int)) (.v (.string ⟨#[]⟩):D)):jVj).length++(List.replicate (Int.toNat ((a).length:Int)) (.v (.string ⟨#[]⟩):D)).drop (a).length),.lst false 1 (b.take ((List.replicate (Int.toNat ((b).length:Int)) (I 0:D)):jVj).length++(List.replicate (Int.toNat ((b).length:Int)) (I 0:D)).drop (b).length),.v (.string h)]]:jVj)),(d.take (Int.toNat (((d).length:Int) - 1))),0,0,false,false,0,0,0,[],[],[]))|.inr c=>(some ((i++([.agg [I g,.v (.string f),.lst false 1 (a.take ((List.replicate (Int.toNat ((a).length:Int)) (.v (.string ⟨#[]⟩):D)):jVj).length++(List.replicate (Int.toNat ((a).length:Int)) (.v (.string ⟨#[]⟩):D)).drop (a).length),.lst false 1 (b.take ((List.replicate (Int.toNat ((b).length:Int)) (I 0:D)):jVj).length++(List.replicate (Int.toNat ((b).length:Int)) (I 0:D)).drop (b).length),.v (.string h)]]:jVj)),(d.take (Int.toNat (((d).length:Int) - 1))),c.1,c.2.1,c.2.2.1,c.2.2.2.1,c.2.2.2.2.1,c.2.2.2.2.2.1,c.2.2.2.2.2.2.1,c.2.2.2.2.2.2.2.1,c.2.2.2.2.2.2.2.2.1,c.2.2.2.2.2.2.2.2.2)) else none else none else if Wi 88 ((d).length+1) then(Qw n g f (a.take ((List.replicate (Int.toNat ((a).length:Int)) (.v (.string ⟨#[]⟩):D)):jVj).length++(List.replicate (Int.toNat ((a).length:Int)) (.v (.string ⟨#[]⟩):D)).drop (a).length) (b.take ((List.replicate (Int.toNat ((b).length:Int)) (I 0:D)):jVj).length++(List.replicate (Int.toNat ((b).length:Int)) (I 0:D)).drop (b).length) h (i++([.agg [I g,.v (.string f),.lst false 1 (a.take ((List.replicate (Int.toNat ((a).length:Int)) (.v (.string ⟨#[]⟩):D)):jVj).length++(List.replicate (Int.toNat ((a).length:Int)) (.v (.string ⟨#[]⟩):D)).drop (a).length),.lst false 1 (b.take ((List.replicate (Int.toNat ((b).length:Int)) (I 0:D)):jVj).length++(List.replicate (Int.toNat ((b).length:Int)) (I 0:D)).drop (b).length),.v (.string h)]]:jVj)) (d++([.agg [I g,.v (.string f),.lst false 1 (a.take ((List.replicate (Int.toNat ((a).length:Int)) (.v (.string ⟨#[]⟩):D)):jVj).length++(List.replicate (Int.toNat ((a).length:Int)) (.v (.string ⟨#[]⟩):D)).drop (a).length),.lst false 1 (b.take ((List.replicate (Int.toNat ((b).length:Int)) (I 0:D)):jVj).length++(List.replicate (Int.toNat ((b).length:Int)) (I 0:D)).drop (b).length),.v (.string h)]]:jVj)) r s t j k l m o p q).bind fun e=>some ((i++([.agg [I g,.v (.string f),.lst false 1 (a.take ((List.replicate (Int.toNat ((a).length:Int)) (.v (.string ⟨#[]⟩):D)):jVj).length++(List.replicate (Int.toNat ((a).length:Int)) (.v (.string ⟨#[]⟩):D)).drop (a).length),.lst false 1 (b.take ((List.replicate (Int.toNat ((b).length:Int)) (I 0:D)):jVj).length++(List.replicate (Int.toNat ((b).length:Int)) (I 0:D)).drop (b).length),.v (.string h)]]:jVj)),(d++([.agg [I g,.v (.string f),.lst false 1 (a.take ((List.replicate (Int.toNat ((a).length:Int)) (.v (.string ⟨#[]⟩):D)):jVj).length++(List.replicate (Int.toNat ((a).length:Int)) (.v (.string ⟨#[]⟩):D)).drop (a).length),.lst false 1 (b.take ((List.replicate (Int.toNat ((b).length:Int)) (I 0:D)):jVj).length++(List.replicate (Int.toNat ((b).length:Int)) (I 0:D)).drop (b).length),.v (.string h)]]:jVj)),e.1,e.2.1,e.2.2.1,e.2.2.2.1,e.2.2.2.2.1,e.2.2.2.2.2.1,e.2.2.2.2.2.2.1,e.2.2.2.2.2.2.2.1,e.2.2.2.2.2.2.2.2.1,e.2.2.2.2.2.2.2.2.2) else none else none else none else none
theorem Ut {n e f a b g v u w x y i j k m p s t r}(h:WF n e f a b g v u w x y i j k m p s t=some r):ComputesO cx 58 [.ptr 0 0 0 0 0,.d (.agg [I e,Qe f,.lst false 1 a,.lst false 1 b,Qe g])] (some (Qa v u w x y i j k m p s t)) (.d (.tup [])) (Qa' r) []:=by
 unfold WF at h;have⟨h1,h⟩:=gd h;have⟨h2,h⟩:=gd h;have⟨h3,h⟩:=gd h;have q:=Qb (ro 35 h3) (Qb h2 (Qb h1 QA));let o(l:jOj):=b1::b1::b1::b1::l;obtain⟨z,h⟩|⟨z,h⟩:=io h
 ·have⟨h5,h⟩:=gd h;have⟨h6,h⟩:=gd h;have q:=Qb h6 (Qb h5 (Qb z q));let o l:=o (b1::.ix 0::b1::b1::l);have⟨c,h7,h⟩:=bo h;obtain c|c:=c
  ·cases h;exact rfO 0 (o [.lp [] [2,3,6,7,8] [0,1,2,10,11,12,13,17,18,22,26,83,84] (.exit 0) [(2,.ptr 83 0 0 0 0),(3,.ptr 84 0 0 0 0)] [(0,.box (.agg [.own 1 1,.own 2 1,.d (I w),.d (I x),.d (B y),.d (B i),.d (I j),.d (I k),.d (I m),.own 10 0,.own 11 0,.own 12 0])),(1,.row 1 5 (v++([.agg [I e,Qe f,.lst false 1 (a.take ((List.replicate (Int.toNat ((a).length:Int)) (Qe ⟨#[]⟩:D)):jVj).length++(List.replicate (Int.toNat ((a).length:Int)) (Qe ⟨#[]⟩:D)).drop (a).length),.lst false 1 (b.take ((List.replicate (Int.toNat ((b).length:Int)) (I 0:D)):jVj).length++(List.replicate (Int.toNat ((b).length:Int)) (I 0:D)).drop (b).length),Qe g]]:jVj))),(2,.row 1 5 (u.take (Int.toNat (((u).length:Int) - 1)))),(10,.row 0 1 p),(11,.row 0 6 s),(12,.row 0 7 t),(13,.box (.agg [.d (I e),.d (Qe f),.own 22 0,.own 26 0,.d (Qe g)])),(17,.box (.agg [.d (I e),.d (Qe f),.own 22 0,.own 26 0,.d (Qe g)])),(18,.box (.agg [.d (I e),.d (Qe f),.own 22 0,.own 26 0,.d (Qe g)])),(22,.frozen 0 1 (a.take ((List.replicate (Int.toNat ((a).length:Int)) (Qe ⟨#[]⟩:D)):jVj).length++(List.replicate (Int.toNat ((a).length:Int)) (Qe ⟨#[]⟩:D)).drop (a).length)),(26,.frozen 0 1 (b.take ((List.replicate (Int.toNat ((b).length:Int)) (I 0:D)):jVj).length++(List.replicate (Int.toNat ((b).length:Int)) (I 0:D)).drop (b).length)),(83,.box (.d YC)),(84,.box (.d YC))] 135]) (Qb (QE Kk h7) q)
  cases h;exact rfO 0 (o [.lp [] [2,3,6,7,8] [0,1,2,10,11,12,13,17,18,22,26,83,84] (.exit 0) [(2,.ptr 83 0 0 0 0),(3,.ptr 84 0 0 0 0)] [(0,.box (.agg [.own 1 1,.own 2 1,.d (I w),.d (I x),.d (B y),.d (B i),.d (I j),.d (I k),.d (I m),.own 10 0,.own 11 0,.own 12 0])),(1,.row 1 5 (v++([.agg [I e,Qe f,.lst false 1 (a.take ((List.replicate (Int.toNat ((a).length:Int)) (Qe ⟨#[]⟩:D)):jVj).length++(List.replicate (Int.toNat ((a).length:Int)) (Qe ⟨#[]⟩:D)).drop (a).length),.lst false 1 (b.take ((List.replicate (Int.toNat ((b).length:Int)) (I 0:D)):jVj).length++(List.replicate (Int.toNat ((b).length:Int)) (I 0:D)).drop (b).length),Qe g]]:jVj))),(2,.row 1 5 (u.take (Int.toNat (((u).length:Int) - 1)))),(10,.row 0 1 p),(11,.row 0 6 s),(12,.row 0 7 t),(13,.box (.agg [.d (I e),.d (Qe f),.own 22 0,.own 26 0,.d (Qe g)])),(17,.box (.agg [.d (I e),.d (Qe f),.own 22 0,.own 26 0,.d (Qe g)])),(18,.box (.agg [.d (I e),.d (Qe f),.own 22 0,.own 26 0,.d (Qe g)])),(22,.frozen 0 1 (a.take ((List.replicate (Int.toNat ((a).length:Int)) (Qe ⟨#[]⟩:D)):jVj).length++(List.replicate (Int.toNat ((a).length:Int)) (Qe ⟨#[]⟩:D)).drop (a).length)),(26,.frozen 0 1 (b.take ((List.replicate (Int.toNat ((b).length:Int)) (I 0:D)):jVj).length++(List.replicate (Int.toNat ((b).length:Int)) (I 0:D)).drop (b).length)),(83,.box (.d YC)),(84,.box (.agg [.d (I c.1),.d (I c.2.1),.d (B c.2.2.1),.d (B c.2.2.2.1),.d (I c.2.2.2.2.1),.d (I c.2.2.2.2.2.1),.d (I c.2.2.2.2.2.2.1),.own 102 0,.own 103 0,.own 104 0])),(102,.row 0 1 c.2.2.2.2.2.2.2.1),(103,.row 0 6 c.2.2.2.2.2.2.2.2.1),(104,.row 0 7 c.2.2.2.2.2.2.2.2.2)] 135]) (Qb (QE Kk h7) q)
 have⟨h5,h⟩:=gd h;have⟨t6,h6,h⟩:=bo h;cases h;exact rfO 0 (o [b0,b1,.ix (-9),.obj (some 0) (.d (.tup [])) (Qa (v++([.agg [I e,Qe f,.lst false 1 (a.take ((List.replicate (Int.toNat ((a).length:Int)) (Qe ⟨#[]⟩:D)):jVj).length++(List.replicate (Int.toNat ((a).length:Int)) (Qe ⟨#[]⟩:D)).drop (a).length),.lst false 1 (b.take ((List.replicate (Int.toNat ((b).length:Int)) (I 0:D)):jVj).length++(List.replicate (Int.toNat ((b).length:Int)) (I 0:D)).drop (b).length),Qe g]]:jVj)) (u++([.agg [I e,Qe f,.lst false 1 (a.take ((List.replicate (Int.toNat ((a).length:Int)) (Qe ⟨#[]⟩:D)):jVj).length++(List.replicate (Int.toNat ((a).length:Int)) (Qe ⟨#[]⟩:D)).drop (a).length),.lst false 1 (b.take ((List.replicate (Int.toNat ((b).length:Int)) (I 0:D)):jVj).length++(List.replicate (Int.toNat ((b).length:Int)) (I 0:D)).drop (b).length),Qe g]]:jVj)) t6.1 t6.2.1 t6.2.2.1 t6.2.2.2.1 t6.2.2.2.2.1 t6.2.2.2.2.2.1 t6.2.2.2.2.2.2.1 t6.2.2.2.2.2.2.2.1 t6.2.2.2.2.2.2.2.2.1 t6.2.2.2.2.2.2.2.2.2) [true,true]]) (Qb (Xa h6) (Qb (ro 35 h5) (Qb (Zy z) q)))
def QP (n:Nat)(f:jVj)(a:(Unit)⊕Int×Int×Int×Bool×Bool×Int×Int×Int×jVj×jVj×jVj×jVj×jVj):Option ((Unit⊕Int×Int×Int×Bool×Bool×Int×Int×Int×jVj×jVj×jVj×jVj×jVj)⊕Int×Int×Int×Int×Bool×Bool×Int×Int×Int×jVj×jVj×jVj×jVj×jVj⊕Int⊕Unit⊕Int×Int×Bool×Bool×Int×Int×Int×jVj×jVj×jVj×jVj×jVj):=match a with|(.inl a)=>(if 0<((f).length:Int) then(el Wc f 0).bind fun b=>(Wv n b.1 b.2.1 b.2.2.1 b.2.2.2.1 b.2.2.2.2).bind fun d=>if d=0 then(Qq n b.1 b.2.1 b.2.2.1 b.2.2.2.1 b.2.2.2.2 ([]) ([]) 0 0 false false 0 0 0 ([]) ([]) ([])).bind fun e=>if e=0 then(WF n b.1 b.2.1 b.2.2.1 b.2.2.2.1 b.2.2.2.2 ([]) ([]) 0 0 false false 0 0 0 ([]) ([]) ([])).bind fun c=>some (.inl (.inr (1,c.2.2.1,c.2.2.2.1,c.2.2.2.2.1,c.2.2.2.2.2.1,c.2.2.2.2.2.2.1,c.2.2.2.2.2.2.2.1,c.2.2.2.2.2.2.2.2.1,c.1,c.2.1,c.2.2.2.2.2.2.2.2.2.1,c.2.2.2.2.2.2.2.2.2.2.1,c.2.2.2.2.2.2.2.2.2.2.2))) else some (.inr (.inl (1,e,0,0,false,false,0,0,0,[],[],[],[],[]))) else some (.inr (.inr (.inl d))) else some (.inr (.inr (.inr (.inl ())))))|.inr a=>(if a.1<((f).length:Int) then(el Wc f a.1).bind fun b=>(Wv n b.1 b.2.1 b.2.2.1 b.2.2.2.1 b.2.2.2.2).bind fun d=>if d=0 then(Qq n b.1 b.2.1 b.2.2.1 b.2.2.2.1 b.2.2.2.2 a.2.2.2.2.2.2.2.2.1 a.2.2.2.2.2.2.2.2.2.1 a.2.1 a.2.2.1 a.2.2.2.1 a.2.2.2.2.1 a.2.2.2.2.2.1 a.2.2.2.2.2.2.1 a.2.2.2.2.2.2.2.1 a.2.2.2.2.2.2.2.2.2.2.1 a.2.2.2.2.2.2.2.2.2.2.2.1 a.2.2.2.2.2.2.2.2.2.2.2.2).bind fun e=>if e=0 then(WF n b.1 b.2.1 b.2.2.1 b.2.2.2.1 b.2.2.2.2 a.2.2.2.2.2.2.2.2.1 a.2.2.2.2.2.2.2.2.2.1 a.2.1 a.2.2.1 a.2.2.2.1 a.2.2.2.2.1 a.2.2.2.2.2.1 a.2.2.2.2.2.2.1 a.2.2.2.2.2.2.2.1 a.2.2.2.2.2.2.2.2.2.2.1 a.2.2.2.2.2.2.2.2.2.2.2.1 a.2.2.2.2.2.2.2.2.2.2.2.2).bind fun c=>if Qg (a.1+1) then some (.inl (.inr ((a.1+1),c.2.2.1,c.2.2.2.1,c.2.2.2.2.1,c.2.2.2.2.2.1,c.2.2.2.2.2.2.1,c.2.2.2.2.2.2.2.1,c.2.2.2.2.2.2.2.2.1,c.1,c.2.1,c.2.2.2.2.2.2.2.2.2.1,c.2.2.2.2.2.2.2.2.2.2.1,c.2.2.2.2.2.2.2.2.2.2.2))) else none else if Qg (a.1+1) then some (.inr (.inl ((a.1+1),e,a.2.1,a.2.2.1,a.2.2.2.1,a.2.2.2.2.1,a.2.2.2.2.2.1,a.2.2.2.2.2.2.1,a.2.2.2.2.2.2.2.1,a.2.2.2.2.2.2.2.2.1,a.2.2.2.2.2.2.2.2.2.1,a.2.2.2.2.2.2.2.2.2.2.1,a.2.2.2.2.2.2.2.2.2.2.2.1,a.2.2.2.2.2.2.2.2.2.2.2.2))) else none else if Qg (a.1+1) then some (.inr (.inl ((a.1+1),d,a.2.1,a.2.2.1,a.2.2.2.1,a.2.2.2.2.1,a.2.2.2.2.2.1,a.2.2.2.2.2.2.1,a.2.2.2.2.2.2.2.1,a.2.2.2.2.2.2.2.2.1,a.2.2.2.2.2.2.2.2.2.1,a.2.2.2.2.2.2.2.2.2.2.1,a.2.2.2.2.2.2.2.2.2.2.2.1,a.2.2.2.2.2.2.2.2.2.2.2.2))) else none else some (.inr (.inr (.inr (.inr (a.2.1,a.2.2.1,a.2.2.2.1,a.2.2.2.2.1,a.2.2.2.2.2.1,a.2.2.2.2.2.2.1,a.2.2.2.2.2.2.2.1,a.2.2.2.2.2.2.2.2.1,a.2.2.2.2.2.2.2.2.2.1,a.2.2.2.2.2.2.2.2.2.2.1,a.2.2.2.2.2.2.2.2.2.2.2.1,a.2.2.2.2.2.2.2.2.2.2.2.2))))))
abbrev Xp:D:=.agg [.lst true 0 [],.lst true 0 [],I 0,I 0,B false,B false,I 0,I 0,I 0,.lst true 0 [],.lst true 0 [],.lst true 0 []]
noncomputable def zu (a:jVj):Lp (Unit⊕Int×Int×Int×Bool×Bool×Int×Int×Int×jVj×jVj×jVj×jVj×jVj) (Int×Int×Int×Int×Bool×Bool×Int×Int×Int×jVj×jVj×jVj×jVj×jVj⊕Int⊕Unit⊕Int×Int×Bool×Bool×Int×Int×Int×jVj×jVj×jVj×jVj×jVj):=⟨fun
 | (.inl sa)=>[(5,.ptr 4 0 0 0 0),(15,.d (.lst false 5 a)),(16,.d (I ((a).length:Int))),(17,.d (I 0))]
 | (.inr sa)=>[(5,.ptr 4 0 0 0 0),(15,.d (.lst false 5 a)),(16,.d (I ((a).length:Int))),(17,.d (I sa.1))],fun
 | (.inl sa)=>[(4,.box (.d Xp))]
 | (.inr sa)=>[(4,.box (.agg [.own 28 0,.own 29 0,.d (I sa.2.1),.d (I sa.2.2.1),.d (B sa.2.2.2.1),.d (B sa.2.2.2.2.1),.d (I sa.2.2.2.2.2.1),.d (I sa.2.2.2.2.2.2.1),.d (I sa.2.2.2.2.2.2.2.1),.own 37 0,.own 38 0,.own 39 0])),(28,.row 0 5 sa.2.2.2.2.2.2.2.2.1),(29,.row 0 5 sa.2.2.2.2.2.2.2.2.2.1),(37,.row 0 1 sa.2.2.2.2.2.2.2.2.2.2.1),(38,.row 0 6 sa.2.2.2.2.2.2.2.2.2.2.2.1),(39,.row 0 7 sa.2.2.2.2.2.2.2.2.2.2.2.2)],fun
 | (.inl e)=>.ret
 | (.inr (.inl e))=>.ret
 | (.inr (.inr (.inl e)))=>(.exit 0)
 | (.inr (.inr (.inr e)))=>(.exit 0),fun
 | (.inl e)=>[(2,.ptr 4 0 0 0 0),(3,.d (I e.1)),(4,.d (I e.2.1))]
 | (.inr (.inl e))=>[(2,.ptr 4 0 0 0 0),(3,.d (I 1)),(4,.d (I e))]
 | (.inr (.inr (.inl e)))=>[(5,.ptr 4 0 0 0 0)]
 | (.inr (.inr (.inr e)))=>[(5,.ptr 4 0 0 0 0)],fun
 | (.inl e)=>[(4,.box (.agg [.own 28 0,.own 29 0,.d (I e.2.2.1),.d (I e.2.2.2.1),.d (B e.2.2.2.2.1),.d (B e.2.2.2.2.2.1),.d (I e.2.2.2.2.2.2.1),.d (I e.2.2.2.2.2.2.2.1),.d (I e.2.2.2.2.2.2.2.2.1),.own 37 0,.own 38 0,.own 39 0])),(28,.row 0 5 e.2.2.2.2.2.2.2.2.2.1),(29,.row 0 5 e.2.2.2.2.2.2.2.2.2.2.1),(37,.row 0 1 e.2.2.2.2.2.2.2.2.2.2.2.1),(38,.row 0 6 e.2.2.2.2.2.2.2.2.2.2.2.2.1),(39,.row 0 7 e.2.2.2.2.2.2.2.2.2.2.2.2.2)]
 | (.inr (.inl e))=>[(4,.box (.d Xp))]
 | (.inr (.inr (.inl e)))=>[(4,.box (.d Xp))]
 | (.inr (.inr (.inr e)))=>[(4,.box (.agg [.own 28 0,.own 29 0,.d (I e.1),.d (I e.2.1),.d (B e.2.2.1),.d (B e.2.2.2.1),.d (I e.2.2.2.2.1),.d (I e.2.2.2.2.2.1),.d (I e.2.2.2.2.2.2.1),.own 37 0,.own 38 0,.own 39 0])),(28,.row 0 5 e.2.2.2.2.2.2.2.1),(29,.row 0 5 e.2.2.2.2.2.2.2.2.1),(37,.row 0 1 e.2.2.2.2.2.2.2.2.2.1),(38,.row 0 6 e.2.2.2.2.2.2.2.2.2.2.1),(39,.row 0 7 e.2.2.2.2.2.2.2.2.2.2.2)]⟩
theorem Ym {n f}(b)(r)(h:QP n f b=some r):Rl (Zt cx.P 33 0) 40 0 false (zu f) b r:=by
 unfold QP at h;obtain b|b:=b
 ·obtain⟨c,h⟩|⟨c,h⟩:=io h
  ·have⟨ta2,ha2,h⟩:=bo h;have⟨ta3,ha3,h⟩:=bo h;have q:=Qb (UI ha3) (Q2 V6 ha2 (Qb (jDj c) QA));let o(l:jOj):=b1::.el (VQ ta2)::.ret (I ta3)::l;obtain⟨a,h⟩|⟨a,h⟩:=io h
   ·have⟨ta5,ha5,h⟩:=bo h;have q:=Qb (Yr ha5) (Qb (eqt a) q);let o l:=o (b1::.obj (some 4) (.d (I ta5)) (Qa ([]) ([]) 0 0 false false 0 0 0 ([]) ([]) ([])) Zj::l);obtain⟨e,h⟩|⟨e,h⟩:=io h
    ·have⟨ta7,ha7,h⟩:=bo h;cases h;exact rn 12 (o [b0,.obj (some 4) (.d (.tup [])) (Qa' ta7) []]) [] [5,15,16,17] [4,28,29,37,38,39] (Qb ((by unfold Qg;omega):Qg 1) (Qb (Ut ha7) (Qb (nef e) q)))
    cases h;exact rx 12 (o [b1]) [] [2,3,4] [4,28,29,37,38,39] (Qb ((by unfold Qg;omega):Qg 1) (Qb (net e) q))
   cases h;exact rx 12 (o [b0,b1]) [] [2,3,4] [4] (Qb ((by unfold Qg;omega):Qg 1) (Qb (net a) (Qb (eqf a) q)))
  cases h;exact rx 12 [b0] [] [5] [4] (Qb (jEj c) QA)
 ·obtain⟨c,h⟩|⟨c,h⟩:=io h
  ·have⟨ta2,ha2,h⟩:=bo h;have⟨ta3,ha3,h⟩:=bo h;have q:=Qb (UI ha3) (Q2 V6 ha2 (Qb (jDj c) QA));let o(l:jOj):=b1::.el (VQ ta2)::.ret (I ta3)::l;obtain⟨a,h⟩|⟨a,h⟩:=io h
   ·have⟨ta5,ha5,h⟩:=bo h;have q:=Qb (Yr ha5) (Qb (eqt a) q);let o l:=o (b1::.obj (some 4) (.d (I ta5)) (Qa b.2.2.2.2.2.2.2.2.1 b.2.2.2.2.2.2.2.2.2.1 b.2.1 b.2.2.1 b.2.2.2.1 b.2.2.2.2.1 b.2.2.2.2.2.1 b.2.2.2.2.2.2.1 b.2.2.2.2.2.2.2.1 b.2.2.2.2.2.2.2.2.2.2.1 b.2.2.2.2.2.2.2.2.2.2.2.1 b.2.2.2.2.2.2.2.2.2.2.2.2) Zj::l);obtain⟨e,h⟩|⟨e,h⟩:=io h
    ·have⟨ta7,ha7,h⟩:=bo h;have⟨ha8,h⟩:=gd h;cases h;exact rn 40 (o [b0,.obj (some 4) (.d (.tup [])) (Qa' ta7) []]) [] [5,15,16,17] [4,28,29,37,38,39] (Qb ha8 (Qb (Ut ha7) (Qb (nef e) q)))
    have⟨ha7,h⟩:=gd h;cases h;exact rx 40 (o [b1]) [] [2,3,4] [4,28,29,37,38,39] (Qb ha7 (Qb (net e) q))
   have⟨ha5,h⟩:=gd h;cases h;exact rx 40 (o [b0,b1]) [] [2,3,4] [4,28,29,37,38,39] (Qb ha5 (Qb (net a) (Qb (eqf a) q)))
  cases h;exact rx 40 [b0] [] [5] [4,28,29,37,38,39] (Qb (jEj c) QA)
def ZK (n:Nat)(b:jVj):Option (Int×Int×jVj×jVj×jRj) := if((b).length:Int)>1000 then some (0,5,[],[],0,0,false,false,0,0,0,[],[],[]) else(QU (QP n b) n (.inl ())).bind fun a=>match a with|.inl a=>(some (a.1,a.2.1,a.2.2.2.2.2.2.2.2.2.1,a.2.2.2.2.2.2.2.2.2.2.1,a.2.2.1,a.2.2.2.1,a.2.2.2.2.1,a.2.2.2.2.2.1,a.2.2.2.2.2.2.1,a.2.2.2.2.2.2.2.1,a.2.2.2.2.2.2.2.2.1,a.2.2.2.2.2.2.2.2.2.2.2.1,a.2.2.2.2.2.2.2.2.2.2.2.2.1,a.2.2.2.2.2.2.2.2.2.2.2.2.2))|(.inr (.inl a))=>(some (1,a,[],[],0,0,false,false,0,0,0,[],[],[]))|(.inr (.inr (.inl a)))=>(some (0,0,[],[],0,0,false,false,0,0,0,[],[],[]))|(.inr (.inr (.inr a)))=>(some (0,0,a.2.2.2.2.2.2.2.1,a.2.2.2.2.2.2.2.2.1,a.1,a.2.1,a.2.2.1,a.2.2.2.1,a.2.2.2.2.1,a.2.2.2.2.2.1,a.2.2.2.2.2.2.1,a.2.2.2.2.2.2.2.2.2.1,a.2.2.2.2.2.2.2.2.2.2.1,a.2.2.2.2.2.2.2.2.2.2.2))
theorem KO {n c r}(h:ZK n c=some r):ComputesO cx 33 [.d (.lst false 5 c)] none (.tup [.ptr 0 0 0 0 0,.d (I r.1),.d (I r.2.1)]) (Qa' r.2.2) []:=by
 unfold ZK at h;obtain⟨b,h⟩|⟨b,h⟩:=io h
 ·cases h;exact rfO 4 [b1] (Qb (jDj b) QA)
 have q:=Qb (jEj b) QA;have⟨a,h2,h⟩:=bo h;obtain a|a|a|a:=a
 ·cases h;exact rfO 4 [b0,.lp [] [5,15,16,17] [4] .ret [(2,.ptr 4 0 0 0 0),(3,.d (I a.1)),(4,.d (I a.2.1))] [(4,.box (.agg [.own 28 0,.own 29 0,.d (I a.2.2.1),.d (I a.2.2.2.1),.d (B a.2.2.2.2.1),.d (B a.2.2.2.2.2.1),.d (I a.2.2.2.2.2.2.1),.d (I a.2.2.2.2.2.2.2.1),.d (I a.2.2.2.2.2.2.2.2.1),.own 37 0,.own 38 0,.own 39 0])),(28,.row 0 5 a.2.2.2.2.2.2.2.2.2.1),(29,.row 0 5 a.2.2.2.2.2.2.2.2.2.2.1),(37,.row 0 1 a.2.2.2.2.2.2.2.2.2.2.2.1),(38,.row 0 6 a.2.2.2.2.2.2.2.2.2.2.2.2.1),(39,.row 0 7 a.2.2.2.2.2.2.2.2.2.2.2.2.2)] 86] (Qb (QE Ym h2) q)
 ·cases h;exact rfO 4 [b0,.lp [] [5,15,16,17] [4] .ret [(2,.ptr 4 0 0 0 0),(3,.d (I 1)),(4,.d (I a))] [(4,.box (.d Xp))] 86] (Qb (QE Ym h2) q)
 ·cases h;exact rfO 4 [b0,.lp [] [5,15,16,17] [4] (.exit 0) [(5,.ptr 4 0 0 0 0)] [(4,.box (.d Xp))] 86] (Qb (QE Ym h2) q)
 cases h;exact rfO 4 [b0,.lp [] [5,15,16,17] [4] (.exit 0) [(5,.ptr 4 0 0 0 0)] [(4,.box (.agg [.own 28 0,.own 29 0,.d (I a.1),.d (I a.2.1),.d (B a.2.2.1),.d (B a.2.2.2.1),.d (I a.2.2.2.2.1),.d (I a.2.2.2.2.2.1),.d (I a.2.2.2.2.2.2.1),.own 37 0,.own 38 0,.own 39 0])),(28,.row 0 5 a.2.2.2.2.2.2.2.1),(29,.row 0 5 a.2.2.2.2.2.2.2.2.1),(37,.row 0 1 a.2.2.2.2.2.2.2.2.2.1),(38,.row 0 6 a.2.2.2.2.2.2.2.2.2.2.1),(39,.row 0 7 a.2.2.2.2.2.2.2.2.2.2.2)] 86] (Qb (QE Ym h2) q)
def Qnh (n:Nat)(b:jVj)(c:Int)(d:jSj)(e f:jVj)(g:jSj):Option (Int) := (ZK n b).bind fun a=>(Wv n c d e f g).bind fun i=>(Qr n (decide (((b).length:Int)>=1000)) 5).bind fun j=>(Qi n ([I a.2.1,I i,I j])).bind fun h=>if h=0 then(Qq n c d e f g a.2.2.1 a.2.2.2.1 a.2.2.2.2.1 a.2.2.2.2.2.1 a.2.2.2.2.2.2.1 a.2.2.2.2.2.2.2.1 a.2.2.2.2.2.2.2.2.1 a.2.2.2.2.2.2.2.2.2.1 a.2.2.2.2.2.2.2.2.2.2.1 a.2.2.2.2.2.2.2.2.2.2.2.1 a.2.2.2.2.2.2.2.2.2.2.2.2.1 a.2.2.2.2.2.2.2.2.2.2.2.2.2).bind fun k=>some k else some h
theorem QnC {n b c e f g i r}(h:Qnh n b c e f g i=some r):Computes cx 60 [.lst false 5 b,.agg [I c,Qe e,.lst false 1 f,.lst false 1 g,Qe i]] (I r):=by
 unfold Qnh at h;have⟨t1,h1,h⟩:=bo h;have⟨t2,h2,h⟩:=bo h;have⟨t3,h3,h⟩:=bo h;have⟨t4,h4,h⟩:=bo h;have q:=Qb (leF (Qv h4)) (Qb (Qs h3) (Qb (UI h2) (Qb (KO h1) QA)));let o(l:jOj):=.obj none (.tup [.ptr 0 0 0 0 0,.d (I t1.1),.d (I t1.2.1)]) (Qa' t1.2.2) []::.ret (I t2)::.ret (I t3)::.ret (I t4)::l;obtain⟨a,h⟩|⟨a,h⟩:=io h
 ·have⟨t6,h6,h⟩:=bo h;obtain rfl:=oi h;exact rf (o [b0,.obj (some 11) (.d (I t6)) (Qa' t1.2.2) Zj]) (Qb (Yr h6) (Qb (nef a) q))
 obtain rfl:=oi h;exact rf (o [b1]) (Qb (net a) q)
def VZ (n:Nat)(f:jVj)(b:Int):Option (Int×Int×Int) := (ZK n f).bind fun a=>(ZJ n b 0 999999999).bind fun g=>(Qr n (decide (b<a.2.2.2.2.1)) 22).bind fun h=>(Qi n ([I a.2.1,I g,I h])).bind fun c=>if c=0 then(Qn n b a.2.2.1 a.2.2.2.1 a.2.2.2.2.1 a.2.2.2.2.2.1 a.2.2.2.2.2.2.1 a.2.2.2.2.2.2.2.1 a.2.2.2.2.2.2.2.2.1 a.2.2.2.2.2.2.2.2.2.1 a.2.2.2.2.2.2.2.2.2.2.1 a.2.2.2.2.2.2.2.2.2.2.2.1 a.2.2.2.2.2.2.2.2.2.2.2.2.1 a.2.2.2.2.2.2.2.2.2.2.2.2.2).bind fun d=>if d=0 then(Q9 n b a.2.2.1 a.2.2.2.1 a.2.2.2.2.1 a.2.2.2.2.2.1 a.2.2.2.2.2.2.1 a.2.2.2.2.2.2.2.1 a.2.2.2.2.2.2.2.2.1 a.2.2.2.2.2.2.2.2.2.1 a.2.2.2.2.2.2.2.2.2.2.1 a.2.2.2.2.2.2.2.2.2.2.2.1 a.2.2.2.2.2.2.2.2.2.2.2.2.1 a.2.2.2.2.2.2.2.2.2.2.2.2.2).bind fun e=>some (e.1,e.2,0) else some (0,0,d) else some (0,0,c)
theorem qx {n c e r}(h:VZ n c e=some r):Computes cx 24 [.lst false 5 c,I e] (.tup [.agg [I r.1,I r.2.1],I r.2.2]):=by
 unfold VZ at h;have⟨t1,h1,h⟩:=bo h;have⟨t2,h2,h⟩:=bo h;have⟨t3,h3,h⟩:=bo h;have⟨t4,h4,h⟩:=bo h;have q:=Qb (leF (Qv h4)) (Qb (Qs h3) (Qb (Va h2) (Qb (KO h1) QA)));let o(l:jOj):=.obj none (.tup [.ptr 0 0 0 0 0,.d (I t1.1),.d (I t1.2.1)]) (Qa' t1.2.2) []::.ret (I t2)::.ret (I t3)::.ret (I t4)::l;obtain⟨a,h⟩|⟨a,h⟩:=io h
 ·have⟨t6,h6,h⟩:=bo h;have q:=Qb (Qu h6) (Qb (nef a) q);let o l:=o (b0::.obj (some 11) (.d (I t6)) (Qa' t1.2.2) Zj::l);obtain⟨b,h⟩|⟨b,h⟩:=io h
  ·have⟨t8,h8,h⟩:=bo h;cases h;exact rf (o [b0,.obj (some 11) (.d (.agg [I t8.1,I t8.2])) (Qa' t1.2.2) Zj]) (Qb (WT h8) (Qb (nef b) q))
  cases h;exact rf (o [b1]) (Qb (net b) q)
 cases h;exact rf (o [b1]) (Qb (net a) q)
def QnD (n:Nat)  : Option (Bool) :=
 (Qnh n ([]) 1 (⟨#[115,101,99,116,111,114]⟩) ([.v (.string ⟨#[110]⟩)]) ([I 0]) (⟨#[]⟩)).bind fun d =>
 if d=0 then
  (Qnh n ([.agg [I 1,.v (.string ⟨#[115,101,99,116,111,114]⟩),.lst false 1 [.v (.string ⟨#[110]⟩)],.lst false 1 [I 0],.v (.string ⟨#[]⟩)]]) 2 (⟨#[109,105,114,114,111,114]⟩) ([.v (.string ⟨#[97]⟩),.v (.string ⟨#[110]⟩)]) ([I 0,I 1]) (⟨#[]⟩)).bind fun e =>
  if e=0 then
   (Qnh n ([.agg [I 1,.v (.string ⟨#[115,101,99,116,111,114]⟩),.lst false 1 [.v (.string ⟨#[110]⟩)],.lst false 1 [I 0],.v (.string ⟨#[]⟩)],.agg [I 2,.v (.string ⟨#[109,105,114,114,111,114]⟩),.lst false 1 [.v (.string ⟨#[97]⟩),.v (.string ⟨#[110]⟩)],.lst false 1 [I 0,I 1],.v (.string ⟨#[]⟩)]]) 3 (⟨#[102,105,108,108]⟩) ([]) ([I 0]) (⟨#[]⟩)).bind fun f =>
   if f=0 then
    (Qnh n ([.agg [I 1,.v (.string ⟨#[115,101,99,116,111,114]⟩),.lst false 1 [.v (.string ⟨#[110]⟩)],.lst false 1 [I 0],.v (.string ⟨#[]⟩)],.agg [I 2,.v (.string ⟨#[109,105,114,114,111,114]⟩),.lst false 1 [.v (.string ⟨#[97]⟩),.v (.string ⟨#[110]⟩)],.lst false 1 [I 0,I 1],.v (.string ⟨#[]⟩)],.agg [I 3,.v (.string ⟨#[102,105,108,108]⟩),.lst false 1 [],.lst false 1 [I 0],.v (.string ⟨#[]⟩)]]) 4 (⟨#[115,117,110]⟩) ([]) ([I 0,I 1]) (⟨#[]⟩)).bind fun g =>
    if g=0 then
     (Qnh n ([.agg [I 1,.v (.string ⟨#[115,101,99,116,111,114]⟩),.lst false 1 [.v (.string ⟨#[110]⟩)],.lst false 1 [I 0],.v (.string ⟨#[]⟩)],.agg [I 2,.v (.string ⟨#[109,105,114,114,111,114]⟩),.lst false 1 [.v (.string ⟨#[97]⟩),.v (.string ⟨#[110]⟩)],.lst false 1 [I 0,I 1],.v (.string ⟨#[]⟩)],.agg [I 3,.v (.string ⟨#[102,105,108,108]⟩),.lst false 1 [],.lst false 1 [I 0],.v (.string ⟨#[]⟩)],.agg [I 4,.v (.string ⟨#[115,117,110]⟩),.lst false 1 [],.lst false 1 [I 0,I 1],.v (.string ⟨#[]⟩)]]) 5 (⟨#[97,105,109]⟩) ([.v (.string ⟨#[97]⟩)]) ([I 0]) (⟨#[]⟩)).bind fun t9 =>
     if t9=0 then
      (Qnh n ([.agg [I 1,.v (.string ⟨#[115,101,99,116,111,114]⟩),.lst false 1 [.v (.string ⟨#[110]⟩)],.lst false 1 [I 0],.v (.string ⟨#[]⟩)],.agg [I 2,.v (.string ⟨#[109,105,114,114,111,114]⟩),.lst false 1 [.v (.string ⟨#[97]⟩),.v (.string ⟨#[110]⟩)],.lst false 1 [I 0,I 1],.v (.string ⟨#[]⟩)],.agg [I 3,.v (.string ⟨#[102,105,108,108]⟩),.lst false 1 [],.lst false 1 [I 0],.v (.string ⟨#[]⟩)],.agg [I 4,.v (.string ⟨#[115,117,110]⟩),.lst false 1 [],.lst false 1 [I 0,I 1],.v (.string ⟨#[]⟩)],.agg [I 5,.v (.string ⟨#[97,105,109]⟩),.lst false 1 [.v (.string ⟨#[97]⟩)],.lst false 1 [I 0],.v (.string ⟨#[]⟩)]]) 6 (⟨#[115,111,105,108]⟩) ([.v (.string ⟨#[97]⟩)]) ([I 1,I 300]) (⟨#[]⟩)).bind fun c =>
      if c=0 then
       (VZ n ([.agg [I 1,.v (.string ⟨#[115,101,99,116,111,114]⟩),.lst false 1 [.v (.string ⟨#[110]⟩)],.lst false 1 [I 0],.v (.string ⟨#[]⟩)],.agg [I 2,.v (.string ⟨#[109,105,114,114,111,114]⟩),.lst false 1 [.v (.string ⟨#[97]⟩),.v (.string ⟨#[110]⟩)],.lst false 1 [I 0,I 1],.v (.string ⟨#[]⟩)],.agg [I 3,.v (.string ⟨#[102,105,108,108]⟩),.lst false 1 [],.lst false 1 [I 0],.v (.string ⟨#[]⟩)],.agg [I 4,.v (.string ⟨#[115,117,110]⟩),.lst false 1 [],.lst false 1 [I 0,I 1],.v (.string ⟨#[]⟩)],.agg [I 5,.v (.string ⟨#[97,105,109]⟩),.lst false 1 [.v (.string ⟨#[97]⟩)],.lst false 1 [I 0],.v (.string ⟨#[]⟩)],.agg [I 6,.v (.string ⟨#[115,111,105,108]⟩),.lst false 1 [.v (.string ⟨#[97]⟩)],.lst false 1 [I 1,I 300],.v (.string ⟨#[]⟩)]]) 2).bind fun a =>
       (QpQ n).bind fun b =>
       if a.2.2=0 then
        if b.2.2=0 then
         if((a.1==1700)&&((a.2.1==1700)&&true))=true then
          some (b.2.1==300)
         else
         none
        else
        none
       else
       none
      else
      none
     else
     none
    else
    none
   else
   none
  else
  none
 else
 none
theorem QnB {n:Nat}  {r:Bool}(h:QnD n =some r):Computes cx 5 [] (B r):=by
 unfold QnD at h;have⟨t1,h1,h⟩:=bo h;obtain⟨f,h⟩|⟨f,h⟩:=io h
 ·have⟨t3,h3,h⟩:=bo h;obtain⟨g,h⟩|⟨g,h⟩:=io h
  ·have⟨t5,h5,h⟩:=bo h;obtain⟨i,h⟩|⟨i,h⟩:=io h
   ·have⟨t7,h7,h⟩:=bo h;obtain⟨j,h⟩|⟨j,h⟩:=io h
    ·have⟨t9,h9,h⟩:=bo h;obtain⟨a,h⟩|⟨a,h⟩:=io h
     ·have⟨t11,h11,h⟩:=bo h;obtain⟨b,h⟩|⟨b,h⟩:=io h
      ·have⟨t13,h13,h⟩:=bo h;have⟨t14,h14,h⟩:=bo h;obtain⟨c,h⟩|⟨c,h⟩:=io h
       ·obtain⟨d,h⟩|⟨d,h⟩:=io h
        ·obtain⟨e,h⟩|⟨e,h⟩:=io h
         ·cases h;exact rf (.ix (-12)::.ix (-12)::.ix (-12)::.ix (-12)::.ix (-12)::.ix (-12)::.ix (-12)::.ix (-12)::.ix (-12)::.ix (-12)::.ix (-12)::.ix (-12)::.ix (-12)::.ix (-12)::.ix (-12)::.ix (-12)::.ix (-12)::.no::.no::.no::b1::.ix (-12)::.no::.no::.ret (I t1)::b0::(no 6 (b1::.ix (-12)::.ix (-10)::.no::.ret (I t3)::b0::(no 5 (b1::.ix (-12)::.ix (-10)::.no::.ret (I t5)::b0::(no 5 (b1::.ix (-12)::.ix (-10)::.no::.ret (I t7)::b0::(no 5 (b1::.ix (-12)::.ix (-10)::.no::.ret (I t9)::b0::(no 5 [b1,.ix (-12),.ix (-10),.no,.ret (I t11),b0,.no,.no,.no,.no,.ix 0,.ret (.tup [.agg [I t13.1,I t13.2.1],I t13.2.2]),.ix (-12),.ix (-12),.ix (-12),.ix (-12),.ret (.tup [.lst false 1 t14.1,I t14.2.1,I t14.2.2]),b1,b1,.ix (-12),b1])))))))))) (Qb e (Qb (eqt d) (Qb (eqt c) (Qb (Qrb h14) (Qb (qx h13) (Qb ((by unfold Qg;omega):Qg 6) (Qb (nef b) (Qb (QnC h11) (Qb ((by unfold Qg;omega):Qg 6) (Qb ((by unfold Qg;omega):Qg 5) (Qb (nef a) (Qb (QnC h9) (Qb ((by unfold Qg;omega):Qg 5) (Qb ((by unfold Qg;omega):Qg 4) (Qb (nef j) (Qb (QnC h7) (Qb ((by unfold Qg;omega):Qg 4) (Qb ((by unfold Qg;omega):Qg 3) (Qb (nef i) (Qb (QnC h5) (Qb ((by unfold Qg;omega):Qg 3) (Qb ((by unfold Qg;omega):Qg 2) (Qb (nef g) (Qb (QnC h3) (Qb ((by unfold Qg;omega):Qg 2) (Qb ((by unfold Qg;omega):Qg 1) (Qb (nef f) (Qb (((QnC h1).le (.cons (.full _ _ _) (.cons (.refl _) (.nil))) (.refl _)):Computes cx 60 [.lst true 5 [],.agg [I 1,Qe ⟨#[115,101,99,116,111,114]⟩,.lst false 1 [Qe ⟨#[110]⟩],.lst false 1 [I 0],Qe ⟨#[]⟩]] (I t1)) (Qb ((by unfold Qg;omega):Qg 1) QA)))))))))))))))))))))))))))))
         cases h
        cases h
       cases h
      cases h
     cases h
    cases h
   cases h
  cases h
 cases h
end Go.Proofs.YtmhkcfjajpjigaaGreatDoor
