/- Own texts. -/
import Derived.Test.YtljabneifpkbjaaGreatDoorProg
import Derived.Test.YtljabneifpkbjaaGreatDoorSxTwentyEight
import Derived.KernelRfl
import Derived.Below
import Derived.Lib.LaidTab
import Derived.Lib.ItoaNum
import GoSem.ClaimChange
import Derived.ProofKit
import Derived.OpenShut
import Derived.WideShapes
import Derived.ChangeStays
import Derived.ChangeSame
import Derived.Deep.DeepHandedRow
set_option linter.unusedSimpArgs false
set_option linter.unusedVariables false
namespace Go.Proofs.YtljabneifpkbjaaGreatDoor
open Go.SX Go.RowKit
def pow10D:D:=.agg (Lib.pow10Tab.map fun z=>.v (.int .u64 z))
noncomputable def cx:Cx:={ P:=Tryz.prog,G:=fun g=>match Nat.beq g 1 with
 | true=>some pow10D
 | false=>none }
theorem Qdt:(Tryz.prog.funcs.toList.all fun a=>!(a.body.isSome&&(a.name=="runtime.NumGoroutine")))=true:=by kernel_rfl
theorem noAsk:NoAsk cx:=Qcp _ _ Qdt
theorem wH:cx.P.follows .mixedOrders=true:=by kernel_rfl
theorem run {n:Nat}{f:FuncId}{a:jVj}{orc:List Orc}{r:D}{ob:List Prop}(h:ut true n cx f a orc=some (r,ob))(b:All ob):Computes cx f a r:=qh noAsk wH h b
theorem QcZ {n:Nat}{f:FuncId}{a:List AV}{i:Option (List OC)}{b:Nat}{ks:List Bool}{orc:List Orc}{r:AV}{cs:List OC}{ob:List Prop}(c:All ob)(h:Qcd n cx f a i b cs ks orc=some (r,cs,ob)):ComputesO cx f a i r cs ks:=Eb noAsk wH h c
theorem QH {S E:Type}{c:Code}{d vis:Nat}{rnd:Bool}{T:S->List (Nat×AV)}{H:S->List (Nat×Blk)}{X:E->Ex}{b:E->List (Nat×AV)}{a:E->List (Nat×Blk)}
  {step:S->Option (S⊕E)} (f:∀s r,step s=some r->Rd cx c d vis rnd T H X b a s r) {n:Nat} {s:S} {e:E} (h:Q2 step n s=some e):kZ cx c d vis rnd (T s) (H s) (X e) (b e) (a e):=uN noAsk wH f n s e h
theorem dr_v {w:World}{F:Nat->Prop}{x y:Value}(h:DR w F (.v x) y):y=x:=by cases h;rfl
theorem QbS {w w' : World}(h:Below w.heap.size w w'):Ext w (fun _=>False) w':=⟨h.os,h.tape,h.output,h.size,fun r a _=>h.block r a⟩
theorem str9:cx.P.underlying 9=some .string:=by kernel_rfl
theorem Zq {s:jSj}{i x:Int}(h:WQ s i=some x):QV cx.P (Instr.index 9 (.string s) (.int .i64 i))=some (.int .u8 x):=QbM str9 h
theorem QiU {s x:jSj}{lo hi:Option Int}(h:Qi7 s lo hi=some x):QV cx.P (Instr.sliceAt 9 (.string s) (lo.map (.int .i64)) (hi.map (.int .i64)) none)=some (.string x):=QmP str9 h
theorem bo {a b:Type}{x:Option a}{f:a->Option b}{r:b}(h:x.bind f=some r):∃t,x=some t/\f t=some r:=ZX h
theorem gd {a:Type}{p:Prop}[Decidable p]{x:Option a}{r:a}(h:(if p then x else none)=some r):p/\x=some r:=Qdz h
theorem it {a:Type}{p:Prop}[Decidable p]{x y:Option a}{r:a}(h:(if p then x else y)=some r)(hp:p):x=some r:=QdT h hp
theorem jf {a:Type}{p:Prop}[Decidable p]{x y:Option a}{r:a}(h:(if p then x else y)=some r)(hp:¬p):y=some r:=QdU h hp
theorem oi {c:Type}{a b:c}(h:some a=some b):a=b:=Option.some.inj h
inductive Kd
 | int (k:IntKind)
 | bool
 | str
 | flt (k:FloatKind)
 | lst (agg:Bool) (ks:List Kd)
mutual
def Kd.ok:Kd->D->Prop
 | .int k,d=>∃n,d=.v (.int k n)/\k.min<=n/\n<=k.max
 | .bool,d=>∃b,d=.v (.bool b)
 | .str,d=>∃s,d=.v (.string s)/\s.size<=maxLen
 | .flt k,d=>∃b,d=.v (.float k b)/\(Lit.float k b).wf=true
 | .lst agg ks,d=>∃es,d=.lst false ks.length es/\es.length<=maxLen/\∀e,e∈es->match agg with
  | true=>∃cs,e=.agg cs/\Kd.oks ks cs
  | false=>Kd.oks ks [e]
def Kd.oks:List Kd->jVj->Prop
 | [],ds=>ds=[]
 | k::ks,ds=>∃d r,ds=d::r/\Kd.ok k d/\Kd.oks ks r
end
def Xn (P:Program)(f:TypeId->Option (List Kd)):Nat->List Field->Option (List Kd)
 | _,[]=>some []
 | off,fd::l=>match f fd.type with
  | some ks=>match Nat.beq fd.offset off&&Nat.beq ks.length (P.cellsOf fd.type),Xn P f (off+ks.length) l with
   | true,some r=>some (ks++r)
   | _,_=>none
  | none=>none
def Uf (P:Program):Nat->TypeId->Option (List Kd)
 | 0,_=>none
 | n+1,t=>match P.underlying t with
  | some (.int k)=>some [.int k]
  | some .bool=>some [.bool]
  | some .string=>some [.str]
  | some (.float k)=>some [.flt k]
  | some (.slice e)=>match Uf P n e,P.underlying e with
   | some ks,some (.struct _)=>match Nat.beq ks.length (P.cellsOf e)&&Nat.blt 0 ks.length with
    | true=>some [.lst true ks]
    | false=>none
   | some ks,some (.array _ _)=>match Nat.beq ks.length (P.cellsOf e)&&Nat.blt 0 ks.length with
    | true=>some [.lst true ks]
    | false=>none
   | some ks,some _=>match Nat.beq ks.length (P.cellsOf e)&&Nat.beq 1 ks.length with
    | true=>some [.lst false ks]
    | false=>none
   | _,_=>none
  | some (.struct fs)=>match Xn P (Uf P n) 0 fs.toList with
   | some ks=>match Nat.beq ks.length (P.cellsOf t) with
    | true=>some ks
    | false=>none
   | none=>none
  | some (.array m e)=>match Uf P n e with
   | some ks=>match Nat.beq ks.length (P.cellsOf e)&&Nat.beq (m*ks.length) (P.cellsOf t) with
    | true=>some (List.replicate m ks).flatten
    | false=>none
   | none=>none
  | _=>none
def Reads (W:World):jVj->List Value->Prop
 | [],[]=>True
 | d::ds,v::vs=>(DR W (fun _=>False) d v/\one v=true)/\Reads W ds vs
 | _,_=>False
theorem Reads.append {W:World}:∀{a:jVj} {x:List Value} {b:jVj} {y:List Value},Reads W a x->Reads W b y->Reads W (a++b) (x++y)
 | [],[],_,_,_,h=>h
 | _::_,_::_,_,_,h,k=>⟨h.1,Reads.append h.2 k⟩
 | [],_::_,_,_,h,_=>h.elim
 | _::_,[],_,_,h,_=>h.elim
theorem Reads.len {W:World}:∀{a:jVj} {x:List Value},Reads W a x->a.length=x.length
 | [],[],_=>rfl
 | _::_,_::_,h=>by simp[Reads.len h.2]
 | [],_::_,h=>h.elim
 | _::_,[],h=>h.elim
theorem Reads.at {W:World}:∀{a:jVj} {x:List Value},Reads W a x->∀(i:Nat) (d:D) (v:Value),a[i]?=some d->x[i]?=some v->DR W (fun _=>False) d v/\one v=true
 | [],[],_,i,d,v,h,_=>by simp at h
 | _::_,_::_,hh,0,d,v,h,k=>by simp at h k;subst h;subst k;exact hh.1
 | _::_,_::_,hh,i+1,d,v,h,k=>Reads.at hh.2 i d v (by simpa using h) (by simpa using k)
 | [],_::_,h,_,_,_,_,_=>h.elim
 | _::_,[],h,_,_,_,_,_=>h.elim
theorem Ez:∀{a b:List Kd} {x y:jVj},Kd.oks a x->Kd.oks b y->Kd.oks (a++b) (x++y)
 | [],_,x,y,h,k=>by unfold Kd.oks at h;subst h;exact k
 | q::a,b,x,y,h,k=>by unfold Kd.oks at h;obtain⟨d,r,rfl,c,e⟩:=h;show Kd.oks (q::(a++b)) (d::(r++y));unfold Kd.oks;exact⟨d,r++y,rfl,c,Ez e k⟩
theorem Jw:∀{a:List Kd} {x:jVj},Kd.oks a x->x.length=a.length
 | [],x,h=>by unfold Kd.oks at h;subst h;rfl
 | q::a,x,h=>by unfold Kd.oks at h;obtain⟨d,r,rfl,c,b⟩:=h;simp[Jw b]
theorem Qc1 {k:Kd}{d:D}(h:Kd.ok k d):Kd.oks [k] [d]:=by unfold Kd.oks;exact⟨d,[],rfl,h,by unfold Kd.oks;rfl⟩
section
variable {H:Type}{enc:TypeId×Value->H}{P:Program}{W:World}{base:Nat}{sp:Nat->Bool}{held:Bool}
theorem qD {W:World}{k:Kd}{d:D}{v:Value}(b:Kd.ok k d)(c:DR W (fun _=>False) d v)(e:one v=true):∃a,Kd.oks [k] a/\Reads W a [v]:=⟨[d],Qc1 b,⟨c,e⟩,trivial⟩
theorem zH {f:TypeId->Option (List Kd)}{g:TypeId->List Value->Prop}(j:∀t cs ks,f t=some ks->g t cs->∃a,Kd.oks ks a/\Reads W a cs){cs:List Value} :
  ∀(i:List Field) (off:Nat) (ks:List Kd),Xn P f off i=some ks->(∀fd,fd∈i->g fd.type ((cs.drop fd.offset).take (P.cellsOf fd.type)))->cs.length=off+ks.length->∃a,Kd.oks ks a/\Reads W a (cs.drop off)
 | [],off,ks,h,_,hl=>by simp only[Xn,jIj] at h;subst h;refine⟨[],by unfold Kd.oks;rfl,?_⟩;rw[List.drop_eq_nil_of_le (by simp at hl;omega)];trivial
 | fd::l,off,ks,h,hg,hl=>by
  unfold Xn at h;split at h;case h_2=>cases h
  rename_i q e;split at h;case h_2=>cases h
  rename_i r d o;simp only[jIj] at h;subst h;simp only[jAj,Nat.beq_eq] at d;obtain⟨b,k,b1⟩:=j _ _ _ e (hg fd jMj);rw[jaj] at hl;obtain⟨c,m,n⟩:=zH j l (off+q.length) r o (fun x p=>hg x (jmj _ p)) (by omega);refine⟨b++c,Ez k m,?_⟩;have:=b1.append n;rw[d.1,<-d.2,<-List.drop_drop,List.take_append_drop] at this;exact this
theorem wZ {ks:List Kd}{cs:List Value}{m:Nat}(f:∀i,i<m->∃a,Kd.oks ks a/\Reads W a ((cs.drop (i*ks.length)).take ks.length))(g:cs.length=m*ks.length) :
  ∀j,j<=m->∃a,Kd.oks (List.replicate j ks).flatten a/\Reads W a (cs.drop ((m - j)*ks.length))
 | 0,_=>by refine⟨[],by unfold Kd.oks;rfl,?_⟩;rw[List.drop_eq_nil_of_le (by simp[g])];trivial
 | j+1,hj=>by
  obtain⟨c,k,d⟩:=wZ f g j (by omega);obtain⟨b,h,b1⟩:=f (m - (j+1)) (by omega);refine⟨b++c,by rw[List.replicate_succ,List.flatten_cons];exact Ez h k,?_⟩;have e:(m - j)*ks.length=(m - (j+1))*ks.length+ks.length:=by rw[show m - j=m - (j+1)+1 by omega,Nat.add_mul,Nat.one_mul]
  rw[e] at d;have:=b1.append d;rw[<-List.drop_drop,List.take_append_drop] at this;exact this
theorem qJ {e g:Type}{f:e->Option g}:∀{l:List e} {r:List g},l.mapM f=some r->∀a,a∈l->∃b,f a=some b
 | [],_,_,a,c=>by cases c
 | x::l,r,h,a,c=>by
  simp only[List.mapM_cons,Option.bind_eq_bind,Option.bind_eq_some_iff,Option.pure_def,jIj] at h;obtain⟨b,i,j,d,rfl⟩:=h;obtain rfl|c:=List.mem_cons.1 c
  ·exact⟨b,i⟩
  ·exact qJ d a c
theorem yg {a:Nat}{t:TypeId}{d:Array Field}{cs:List Value}{x:DataW H×List MemPlace}(g:P.underlying t=some (.struct d))(h:DataW.trod enc P W base sp held a t cs=some x) :
  ∃n,a=n+1/\cs.length=P.cellsOf t/\∀b,b∈d.toList->∃y,DataW.trod enc P W base sp held n b.type ((cs.drop b.offset).take (P.cellsOf b.type))=some y:=by
 cases a with
 | zero=>simp[DataW.trod] at h
 | succ n =>
  refine⟨n,rfl,?_⟩;simp only[DataW.trod,g] at h;split at h;case isFalse=>cases h
  rename_i e;simp only[Option.map_eq_some_iff] at h;obtain⟨r,f,_⟩:=h;exact⟨e,fun b c=>qJ f b c⟩
theorem uk {a:Nat}{t e:TypeId}{m:Nat}{cs:List Value}{x:DataW H×List MemPlace}(d:P.underlying t=some (.array m e))(h:DataW.trod enc P W base sp held a t cs=some x) :
  ∃n,a=n+1/\cs.length=P.cellsOf t/\∀i,i<m->∃y,DataW.trod enc P W base sp held n e ((cs.drop (i*P.cellsOf e)).take (P.cellsOf e))=some y:=by
 cases a with
 | zero=>simp[DataW.trod] at h
 | succ n =>
  refine⟨n,rfl,?_⟩;simp only[DataW.trod,d] at h;split at h;case isFalse=>cases h
  rename_i b;simp only[Option.map_eq_some_iff] at h;obtain⟨r,c,_⟩:=h;exact⟨b,fun i hi=>qJ c i (by simpa using hi)⟩
theorem uj {a:Nat}{t:TypeId}{k:FloatKind}{cs:List Value}{x:DataW H×List MemPlace}(c:P.underlying t=some (.float k))(h:DataW.trod enc P W base sp held a t cs=some x) :
  ∃b,cs=[.float k b]/\(Lit.float k b).wf=true:=by
 cases a with
 | zero=>simp[DataW.trod] at h
 | succ n =>
  unfold DataW.trod at h;rw[c] at h;split at h<;>simp_all
theorem Ep {agg:Bool}{ks:List Kd}{G:Nat}{t e:TypeId}{cs:List Value}{x:DataW H×List MemPlace}(ht:P.underlying t=some (.slice e))(h:DataW.trod enc P W base sp held G t cs=some x)
  (hk:ks.length=P.cellsOf e) (L:0<ks.length) (h1:agg=false->ks.length=1)
  (ih:∀(n:Nat) (c:List Value) (y:DataW H×List MemPlace),DataW.trod enc P W base sp held n e c=some y->∃f,Kd.oks ks f/\Reads W f c) :
  ∃f,Kd.oks [.lst agg ks] f/\Reads W f cs:=by
 obtain⟨rfl,_⟩|⟨a,len,cap,V,a6,n,_,rfl,_,hb,hl,hm,a5,a2,_,_⟩:=DataW.trod_slice ht h
 ·refine qD (d:=.lst false ks.length []) ?_ ?_ rfl
  ·unfold Kd.ok;exact⟨[],rfl,Nat.zero_le _,fun e l=>by cases l⟩
  ·exact .lst false ks.length [] none 0 0 0 (fun _=>.nilIface) (fun h=>by cases h) (jLj _) (fun h=>absurd rfl h) (by simp) (by simp) (by simp)
 ·have each:∀i,i<len->∃f c,Kd.oks ks f/\Reads W f c/\c.length=ks.length/\∀j,j<ks.length->W.cell? ((a.add (i*ks.length)).add j)=c[j]?:=by
   intro i hi;have X:=a2 i hi;rw[jej (by omega),<-hk] at X;rw[Option.bind_eq_some_iff] at X;obtain⟨c,hc,hy⟩:=X;obtain⟨f,T,U⟩:=ih _ _ _ hy;refine⟨f,c,T,U,by rw[<-U.len,Jw T],fun j p=>?_⟩;unfold World.cells? at hc;split at hc;case isFalse=>cases hc
   have a7:c.length=ks.length:=by rw[<-U.len,Jw T]
   obtain⟨b,a0,a1⟩:=Lib.mapM_at hc j j (by simp[p]);rw[a0,a1]
  let f (i:Nat):jVj:=if hi:i<len then Classical.choose (each i hi) else[];let N (d:jVj):D:=if agg then .agg d else d.headD (.v .nilIface);have r:∀i,i<len->∃c,Kd.oks ks (f i)/\Reads W (f i) c/\c.length=ks.length/\∀j,j<ks.length->W.cell? ((a.add (i*ks.length)).add j)=c[j]?:=by intro i hi;have:=Classical.choose_spec (each i hi);simp only[f,dif_pos hi];exact this
  have C:∀(k:Kd) (d:D),Kd.ok k d->d.cells=[d]:=by
   intro k d F;cases k<;>simp only[Kd.ok] at F
   ·obtain⟨n,rfl,_⟩:=F;rfl
   ·obtain⟨n,rfl⟩:=F;rfl
   ·obtain⟨n,rfl,_⟩:=F;rfl
   ·obtain⟨n,rfl,_⟩:=F;rfl
   ·obtain⟨n,rfl,_⟩:=F;rfl
  have E:∀i,i<len->(N (f i)).cells=f i:=by
   intro i hi;obtain⟨c,m,_⟩:=r i hi;simp only[N];split
   ·rfl
   ·rename_i Z;have Q:=h1 (by simpa using Z);have J:=Jw m;rw[Q] at J;match hdi:f i,J with
    | [d],_ =>
     rw[hdi] at m;match hks:ks,Q with
     | [k],_ =>
      unfold Kd.oks at m;obtain⟨d',r',e1,e2,e3⟩:=m;cases e1;exact C k d e2
  have Y:0<len->a=⟨a.block,a.off,none⟩/\a.block<W.heap.size:=by
   intro O;obtain⟨c,m,c2,c3,S⟩:=r 0 O;have z:=S 0 L;rw[jej (by omega)] at z;have e0:(a.add (0*ks.length)).add 0=a:=by simp[Addr.add]
   rw[e0] at z;unfold World.cell? at z;split at z
   ·rename_i q1 q2 q3 A;split at z
    ·cases z
    ·rename_i hs;refine⟨?_,?_⟩
     ·revert hs;obtain⟨b,o,s⟩:=a;cases s with
      | none=>intro _;rfl
      | some s=>intro hs;exact absurd rfl hs
     ·obtain h|h:=Nat.lt_or_ge a.block W.heap.size
      ·exact h
      ·have:W.heap[a.block]?=some _:=A;rw[Array.getElem?_eq_none h] at this;cases this
   ·cases z
  have q:∀(i j:Nat) (c:D),i<len->(f i)[j]?=some c->∃v,W.cell? ⟨a.block,a.off+(i*ks.length+j),none⟩=some v/\DR W (fun _=>False) c v/\one v=true:=by
   intro i j c hi p;obtain⟨c',m,c2,c3,S⟩:=r i hi;have K:j<(f i).length:=(jGj p).1;rw[Jw m] at K;have h6:=S j K;have hv:c'[j]?=some (c'[j]'(by omega)):=jej (by omega);rw[hv] at h6;refine⟨_,?_,c2.at j _ _ p hv⟩;have e:(a.add (i*ks.length)).add j=⟨a.block,a.off+(i*ks.length+j),none⟩:=by rw[(Y (by omega)).1,Go.SX.add_at,Go.SX.add_at,Nat.add_assoc]
   rw[<-h6,e]
  refine qD (d:=.lst false ks.length ((List.range len).map fun i=>N (f i))) ?_ ?_ rfl
  ·unfold Kd.ok;refine⟨_,rfl,by simp;omega,fun e l=>?_⟩;simp only[List.mem_map,List.mem_range] at l;obtain⟨i,hi,rfl⟩:=l;obtain⟨c,m,_⟩:=r i hi;cases agg with
   | true=>exact⟨f i,rfl,m⟩
   | false =>
    have Q:=h1 rfl;have J:=Jw m;rw[Q] at J;simp only[N];match hdi:f i,J with
    | [d],_=>rw[hdi] at m;exact m
  ·have a4:=DR.lst (w:=W) (M:=fun _=>False) false ks.length ((List.range len).map fun i=>N (f i)) (some a) cap a.block a.off (fun k=>(W.cell? ⟨a.block,a.off+k,none⟩).getD .nilIface)
    (fun h=>by cases h) (by simp;omega)
    (fun a3=>by
     have O:0<len:=by
      obtain h|h:=Nat.eq_zero_or_pos len
      ·subst h;simp at a3
      ·exact h
     exact⟨by rw[<-(Y O).1],fun h=>h,(Y O).2⟩)
    (fun i e l=>by rw[List.getElem?_map] at l;simp only[Option.map_eq_some_iff] at l;obtain⟨k,u,rfl⟩:=l;obtain⟨g,rfl⟩:=jGj u;simp only[List.length_range] at g;simp only[List.getElem_range];obtain⟨c,m,_⟩:=r i g;rw[E i g,Jw m])
    (fun i e j c l p=>by rw[List.getElem?_map] at l;simp only[Option.map_eq_some_iff] at l;obtain⟨k,u,rfl⟩:=l;obtain⟨g,rfl⟩:=jGj u;simp only[List.length_range] at g;simp only[List.getElem_range] at p;rw[E i g] at p;obtain⟨v,v1,v2,v3⟩:=q i j c g p;simp only[v1,Option.getD_some];exact⟨trivial,v3⟩)
    (fun i e j c l p=>by rw[List.getElem?_map] at l;simp only[Option.map_eq_some_iff] at l;obtain⟨k,u,rfl⟩:=l;obtain⟨g,rfl⟩:=jGj u;simp only[List.length_range] at g;simp only[List.getElem_range] at p;rw[E i g] at p;obtain⟨v,v1,v2,v3⟩:=q i j c g p;simp only[v1,Option.getD_some];exact v2)
   simpa using a4
theorem Kz:∀(d:Nat) (p:Nat) (t:TypeId) (cs:List Value) (x:DataW H×List MemPlace) (ks:List Kd),Uf P d t=some ks->DataW.trod enc P W base sp held p t cs=some x->∃w,Kd.oks ks w/\Reads W w cs
 | 0,_,_,_,_,_,h,_=>by cases h
 | d+1,p,t,cs,x,ks,h,hx=>by
  unfold Uf at h;split at h
  ·rename_i k l;cases h;obtain⟨n,rfl,_,r⟩:=DataW.trod_int l hx;simp only[Lit.wf,jAj,decide_eq_true_eq] at r;exact qD (by unfold Kd.ok;exact⟨n,rfl,r⟩) (.v _) rfl
  ·rename_i l;cases h;obtain⟨b,rfl,_⟩:=DataW.trod_bool l hx;exact qD (by unfold Kd.ok;exact⟨b,rfl⟩) (.v _) rfl
  ·rename_i l;cases h;obtain⟨s,rfl,_,F⟩:=DataW.trod_string l hx;exact qD (by unfold Kd.ok;exact⟨s,rfl,F⟩) (.v _) rfl
  ·rename_i k l;cases h;obtain⟨b,rfl,r⟩:=uj l hx;exact qD (by unfold Kd.ok;exact⟨b,rfl,r⟩) (.v _) rfl
  ·rename_i e l;split at h
   ·rename_i q _ a _;split at h;case h_2=>cases h
    rename_i j;cases h;simp only[jAj,Nat.beq_eq,Nat.blt_eq] at j;exact Ep l hx j.1 j.2 (fun h=>by cases h) fun n c y o=>Kz d n e c y _ a o
   ·rename_i q _ _ a _;split at h;case h_2=>cases h
    rename_i j;cases h;simp only[jAj,Nat.beq_eq,Nat.blt_eq] at j;exact Ep l hx j.1 j.2 (fun h=>by cases h) fun n c y o=>Kz d n e c y _ a o
   ·rename_i q _ _ _ a _;split at h;case h_2=>cases h
    rename_i j;cases h;simp only[jAj,Nat.beq_eq] at j;exact Ep l hx j.1 (by omega) (fun _=>j.2.symm) fun n c y o=>Kz d n e c y _ a o
   ·cases h
  ·rename_i z l;split at h;case h_2=>cases h
   rename_i q a;split at h;case h_2=>cases h
   rename_i j;cases h;simp only[Nat.beq_eq] at j;obtain⟨n,rfl,E,u⟩:=yg l hx;have:=zH (P:=P) (W:=W) (f:=Uf P d) (g:=fun t cs=>∃y,DataW.trod enc P W base sp held n t cs=some y) (fun t cs ks A C=>by obtain⟨y,o⟩:=C;exact Kz d n t cs y ks A o) z.toList 0 _ a u (by omega)
   rwa [List.drop_zero] at this
  ·rename_i m e l;split at h;case h_2=>cases h
   rename_i q a;split at h;case h_2=>cases h
   rename_i j;cases h;simp only[jAj,Nat.beq_eq] at j;obtain⟨n,rfl,E,u⟩:=uk l hx;have:=wZ (W:=W) (ks:=q) (cs:=cs) (m:=m) (fun i hi=>by obtain⟨y,o⟩:=u i hi;rw[<-j.1] at o;exact Kz d n e _ y _ a o) (by omega) m (jLj _)
   rwa [Nat.sub_self,Nat.zero_mul,List.drop_zero] at this
  ·cases h
end
set_option maxRecDepth 20000
open Go.WideShapes Go.ChangeShapes
def Qbs (P:Program)(t:TypeId):Prop:=∃d ks,Uf P d t=some ks
theorem E5 {P:Program}{f:TypeId->Option (List Kd)}:∀(d:List Field) (off:Nat) (ks:List Kd),Xn P f off d=some ks ->
  (∀fd,fd∈d->∃k,f fd.type=some k)/\ks.length=(d.map fun fd=>P.cellsOf fd.type).sum/\∀(j:Nat) fd,d[j]?=some fd->fd.offset=off+((d.take j).map fun fd=>P.cellsOf fd.type).sum
 | [],off,ks,h=>by simp only[Xn,jIj] at h;subst h;exact⟨fun _ h=>(by cases h),rfl,fun j fd h=>(by simp at h)⟩
 | fd::l,off,ks,h=>by
  unfold Xn at h;split at h;case h_2=>cases h
  rename_i o i;split at h;case h_2=>cases h
  rename_i r e n;simp only[jIj] at h;subst h;simp only[jAj,Nat.beq_eq] at e;obtain⟨a,b,c⟩:=E5 l _ r n;refine⟨fun x m=>?_,?_,fun j x g=>?_⟩
  ·obtain rfl|m:=List.mem_cons.1 m
   ·exact⟨_,i⟩
   ·exact a x m
  ·simp[b,e.2]
  ·cases j with
   | zero=>simp at g;subst g;simp[e.1]
   | succ j =>
    have:=c j x (by simpa using g);simp only[List.take_succ_cons,jCj,List.sum_cons];rw[this,e.2];omega
theorem Qat (P:Program):Kids P (Qbs P) where
 pointer:=fun {t e} h ht=>by
  obtain⟨d,ks,h⟩:=h;cases d with
  | zero=>cases h
  | succ d=>unfold Uf at h;rw[ht] at h;cases h
 slice:=fun {t e} h ht=>by
  obtain⟨d,ks,h⟩:=h;cases d with
  | zero=>cases h
  | succ d =>
   unfold Uf at h;rw[ht] at h;simp only at h;cases hk:Uf P d e with
   | none=>rw[hk] at h;simp at h
   | some k=>exact⟨d,k,hk⟩
 array:=fun {t e n} h ht=>by
  obtain⟨d,ks,h⟩:=h;cases d with
  | zero=>cases h
  | succ d =>
   unfold Uf at h;rw[ht] at h;simp only at h;split at h;case h_2=>cases h
   rename_i k1 hk1;split at h;case h_2=>cases h
   rename_i hb;simp only[jAj,Nat.beq_eq] at hb;exact⟨⟨d,_,hk1⟩,by rw[<-hb.2,hb.1]⟩
 struct:=fun {t fs} h ht=>by
  obtain⟨d,ks,h⟩:=h;cases d with
  | zero=>cases h
  | succ d =>
   unfold Uf at h;rw[ht] at h;simp only at h;split at h;case h_2=>cases h
   rename_i k1 hk1;split at h;case h_2=>cases h
   rename_i hb;simp only[Nat.beq_eq] at hb;obtain⟨a,b,c⟩:=E5 _ _ _ hk1;exact⟨fun f hf=>by obtain⟨k,hk⟩:=a f hf;exact⟨d,k,hk⟩,by rw[<-hb,b],fun j f hj=>by rw[c j f hj,Nat.zero_add]⟩
 map:=fun {t k e} h ht=>by
  obtain⟨d,ks,h⟩:=h;cases d with
  | zero=>cases h
  | succ d=>unfold Uf at h;rw[ht] at h;cases h
theorem QbC {P:Program}{t e:TypeId}(h:Qbs P t)(b:P.underlying t=some (.slice e)):0<P.cellsOf e:=by
 obtain⟨d,ks,h⟩:=h;cases d with
 | zero=>cases h
 | succ d =>
  unfold Uf at h;rw[b] at h;simp only at h;split at h
  ·split at h;case h_2=>cases h
   rename_i a;simp only[jAj,Nat.beq_eq,Nat.blt_eq] at a;omega
  ·split at h;case h_2=>cases h
   rename_i a;simp only[jAj,Nat.beq_eq,Nat.blt_eq] at a;omega
  ·split at h;case h_2=>cases h
   rename_i a;simp only[jAj,Nat.beq_eq] at a;omega
  ·cases h
def Xo (P:Program)(t:TypeId):Bool:=match P.underlying t with
 | some (.struct _)=>true
 | some (.array _ _)=>true
 | _=>false
def okA:Bool×List Kd->D->Prop
 | (true,ks),d=>∃cs,d=.agg cs/\Kd.oks ks cs
 | (false,ks),d=>Kd.oks ks [d]
def okAs:List (Bool×List Kd)->jVj->Prop
 | [],a=>a=[]
 | k::r,a=>∃d l,a=d::l/\okA k d/\okAs r l
def YK (P:Program):List TypeId->Option (List (Bool×List Kd))
 | []=>some []
 | t::ts=>match Uf P 12 t,YK P ts with
  | some ks,some r=>match Xo P t || Nat.beq ks.length 1 with
   | true=>some ((Xo P t,ks)::r)
   | false=>none
  | _,_=>none
section
variable {H:Type}{enc:TypeId×Value->H}{P:Program}{W:World}{base:Nat}{sp:Nat->Bool}{held:Bool}
theorem Qbz {r:Reach}{b0:Nat}{t:TypeId}{v:Value}{ks:List Kd}(g:Uf P 12 t=some ks)(b:Value.okWide P W r b0 t v)(f:Xo P t=false):v.cells=#[v]:=by
 unfold Uf at g;unfold Xo at f;split at g
 ·rename_i k d;obtain⟨n,rfl⟩:=okWide_int d b;rfl
 ·rename_i d;obtain⟨n,rfl⟩:=okWide_bool d b;rfl
 ·rename_i d;obtain⟨n,rfl⟩:=okWide_string d b;rfl
 ·rename_i k d;rw[Value.okWide,d] at b;cases v<;>simp_all [Cell.okWide,Cell.ok,Value.cells]
 ·rename_i e d;obtain⟨a,l,c,rfl⟩:=okWide_slice d b;rfl
 ·rename_i d;rw[d] at f;cases f
 ·rename_i d;rw[d] at f;cases f
 ·cases g
theorem Qaw {r:Reach}{b0:Nat}{t:TypeId}{v:Value}{d:DataW H}{p:List MemPlace}{ks:List Kd}(l:Uf P 12 t=some ks)(e:Value.okWide P W r b0 t v)(n:DataW.Trod enc P W base sp held t v d p)(j:(Xo P t || Nat.beq ks.length 1)=true) :
  ∃x,okA (Xo P t,ks) x/\DR W (fun _=>False) x v:=by
 obtain⟨f,o⟩:=n;obtain⟨g,a,b⟩:=Kz 12 f t _ _ ks l o;cases hag:Xo P t with
 | true =>
  have s:∃cs,v=.agg cs:=by
   unfold Xo at hag;unfold Value.okWide at e;split at hag
   ·rename_i k;rw[k] at e;obtain⟨cs,h,_⟩:=e;exact⟨cs,h⟩
   ·rename_i k;rw[k] at e;obtain⟨cs,h,_⟩:=e;exact⟨cs,h⟩
   ·cases hag
  obtain⟨cs,rfl⟩:=s;have hc:(Value.agg cs).cells.toList=cs.toList:=rfl;rw[hc] at b;have:=DR.agg (w:=W) (M:=fun _=>False) g cs.toList b.len (fun i c y hc u=>(b.at i c y hc u).1);exact⟨.agg g,⟨g,rfl,a⟩,by simpa using this⟩
 | false =>
  have q:=Qbz l e hag;rw[q] at b;rw[hag] at j;simp only[Bool.false_or,Nat.beq_eq] at j;have m:=Jw a;rw[j] at m;match g,m with
  | [x],_=>exact⟨x,a,(b.at 0 x v rfl rfl).1⟩
theorem kT {r:Reach}{b0:Nat}:∀{ts:List TypeId} {vs:List Value} {g:List (DataW H)} {p:List MemPlace} {f:List (Bool×List Kd)},DataW.TrodAll enc P W base sp held ts vs g p->YK P ts=some f ->
  (∀(j:Nat) t v,ts[j]?=some t->vs[j]?=some v->Value.okWide P W r b0 t v)->∃e:jVj,okAs f e/\e.length=vs.length/\∀(i:Nat) (c:D) (y:Value),e[i]?=some c->vs[i]?=some y->DR W (fun _=>False) c y
 | [],vs,g,p,f,h,hk,_=>by obtain⟨rfl,rfl,rfl⟩:=trodAll_nil h;cases hk;exact⟨[],rfl,rfl,fun i c y h=>by simp at h⟩
 | t::ts,vs,g,p,f,h,hk,hv=>by
  obtain⟨v,w,d,n,a,b,rfl,rfl,rfl,o,q⟩:=trodAll_cons h;unfold YK at hk;split at hk;case h_2=>cases hk
  rename_i ks r l u;split at hk;case h_2=>cases hk
  rename_i s;cases hk;obtain⟨x,z,A⟩:=Qaw l (hv 0 t v rfl rfl) o s;obtain⟨e,C,E,F⟩:=kT q u (fun j t v h k=>hv (j+1) t v (by simpa using h) (by simpa using k));refine⟨x::e,⟨x,e,rfl,z,C⟩,by simp[E],fun i c y hc m=>?_⟩;cases i with
  | zero=>simp at hc m;subst hc;subst m;exact A
  | succ i=>exact F i c y (by simpa using hc) (by simpa using m)
theorem jp:∀{ts:List TypeId} {c:List (Bool×List Kd)},YK P ts=some c->∀t,t∈ts->Qbs P t
 | [],_,_,t,h=>by cases h
 | t::ts,c,hk,u,b=>by
  unfold YK at hk;split at hk;case h_2=>cases hk
  rename_i ks r a d;obtain rfl|b:=List.mem_cons.1 b
  ·exact⟨_,_,a⟩
  ·exact jp d u b
theorem kS {j : World}{f : Nat->Bool}:∀{ts:List TypeId} {vs:List Value} {g:List (DataW H)} {p:List MemPlace},DataW.TrodAll enc P W base (fun _=>true) true ts vs g p->(∀t,t∈ts->Qbs P t) ->
  (∀q,q∈p->W.sameAt j q)->(∀q,q∈p->f q.block=true)->DataW.TrodAll enc P j base f true ts vs g p
 | [],vs,g,p,h,_,_,_=>by obtain⟨rfl,rfl,rfl⟩:=trodAll_nil h;exact rfl
 | t::ts,vs,g,p,h,hp,h3,h4=>by
  obtain⟨v,o,d,k,a,b,rfl,rfl,rfl,⟨e,l⟩,m⟩:=trodAll_cons h;exact⟨a,b,⟨e,DataW.trod_stays (Qat P) (fun i n=>QbC i n) (fun h=>by cases h) (hp t jMj) l (fun q c=>h3 q (List.mem_append_left _ c)) (fun q c=>h4 q (List.mem_append_left _ c))⟩,
   kS m (fun t i=>hp t (jmj _ i)) (fun q c=>h3 q (List.mem_append_right _ c)) (fun q c=>h4 q (List.mem_append_right _ c)),rfl⟩
end
theorem QbY {w w' : World}(h:Ext w (fun _=>False) w'):Below w.heap.size w w':=⟨h.os,h.tape,h.output,h.size,fun r a=>h.same r a (fun h=>h)⟩
theorem yl {W a : World}(h:Below W.heap.size W a){p:MemPlace}(hp:p.block<W.heap.size):W.sameAt a p:=by
 cases p with
 | cell b off =>
  show a.cell? ⟨b,off,none⟩=W.cell? ⟨b,off,none⟩;unfold World.cell?;rw[h.block b hp]
 | map b=>exact h.block b hp
theorem Qbx {H:Type}{enc:TypeId×Value->H}{P:Program}{w:World}{base:Nat}{sp:Nat->Bool}{held:Bool}{t:TypeId}(a:P.underlying t=some .bool):DataW.Trod enc P w base sp held t (.bool true) (.lit (.bool true)) [] :=
 ⟨1,by simp[DataW.trod,Value.cells,a]⟩
theorem Qac {f:FuncId}{k:Func}{spec:ChangeSpec}{V:List (Bool×List Kd)}{O:TypeId}(A:YK Tryz.prog k.params.toList=some V)
  (hb:Tryz.prog.underlying O=some .bool) (C:k.resultTypes=#[O]) (i:spec.vars=[])
  (m:∀(H:Type) (c:List (DataW H)),c.length=k.params.size->spec.fn H c={ results:=[.lit (.bool true)],args:=c })
  (u:∀F,okAs V F->Computes cx f F (.v (.bool true)))
  (H:Type) (enc:TypeId×Value->H) (W:World) (base:Nat) (args:Array Value) (c Y:List (DataW H)) (before:List MemPlace)
  (E:∀(j:Nat) t v,k.params[j]?=some t->args[j]?=some v->Value.okWide Tryz.prog W .any base t v)
  (S:DataW.Whole enc Tryz.prog k.params.toList spec.vars false W args.toList c Y before)
  (hG:∀g x,cx.G g=some x->GAt W (fun _=>False) g x) :
  Calls Tryz.prog f args W fun e N=>∃v,e=.returned v/\spec.post enc Tryz.prog k false true false false W args v N:=by
 have o:=S;obtain⟨p,q,K,Q,rfl,a0,a1⟩:=S;rw[i] at Q;obtain⟨rfl,rfl⟩:=trodVars_none Q;have n : ∀(j:Nat) t v,k.params.toList[j]?=some t->args.toList[j]?=some v->Value.okWide Tryz.prog W .any base t v:=by intro j t v T U;rw[Array.getElem?_toList] at T U;exact E j t v T U
 obtain⟨F,Z,J,h3⟩:=kT (H:=H) (enc:=enc) (P:=Tryz.prog) (W:=W) (base:=0) (sp:=fun _=>true) (held:=true) (r:=.any) (b0:=base) (ts:=k.params.toList) (vs:=args.toList) K A n;have hc:=u F Z W (fun _=>False) args.toList (fun _ h=>h.elim) hG J h3;rw[Array.toArray_toList] at hc;refine hc.mono fun e N ⟨y,he,hy,hx⟩=>⟨y,he,?_⟩
 have M:=dr_v hy;subst M;have s:=QbY hx;have z:=o.lt;have w:c.length=k.params.size:=by
  have:∀{ts:List TypeId} {vs:List Value} {c:List (DataW H)} {p:List MemPlace},DataW.TrodAll enc Tryz.prog W 0 (fun _=>true) true ts vs c p->c.length=ts.length:=by
   intro ts;induction ts with
   | nil=>intro vs c p h;obtain⟨rfl,rfl,rfl⟩:=trodAll_nil h;rfl
   | cons t ts ih=>intro vs c p h;obtain⟨v,a2,d,X,a,b,rfl,rfl,rfl,_,J⟩:=trodAll_cons h;simp[ih J]
  exact(this K).trans Array.length_toList
 have l:=m H (c++[]) (by rw[List.append_nil];exact w);refine⟨c,[],p++[],[],p,[],o,?_,?_,?_,s.frame _,fun h=>by cases h⟩
 ·rw[l,C];exact trodAll_mk1 (Qbx hb)
 ·rw[l];simp only[List.append_nil];exact kS K (jp A) (fun q L=>yl s (z q (List.mem_append_left _ L))) (fun q L=>jDj (z q (List.mem_append_left _ L)))
 ·rw[l,i];rfl
theorem Qcn {k:Bool×List Kd}{r:List (Bool×List Kd)}{a:jVj}(h:okAs (k::r) a):∃d l,a=d::l/\okA k d/\okAs r l:=h
theorem Qds {a:jVj}(h:okAs [] a):a=[]:=h
theorem Qg3 {ks:List Kd}{d:D}(h:okA (true,ks) d):∃cs,d=.agg cs/\Kd.oks ks cs:=h
theorem ky {k:Kd}{ks:List Kd}{a:jVj}(h:Kd.oks (k::ks) a):∃d r,a=d::r/\Kd.ok k d/\Kd.oks ks r:=by unfold Kd.oks at h;exact h
theorem QdP {a:jVj}(h:Kd.oks [] a):a=[]:=by unfold Kd.oks at h;exact h
theorem Qdh {k:Kd}{d:D}(h:Kd.oks [k] [d]):Kd.ok k d:=by obtain⟨c,r,a,b,_⟩:=ky h;cases a;exact b
theorem Qdj {k:Kd}{d:D}(h:okA (false,[k]) d):Kd.ok k d:=Qdh h
theorem ok_i {k:IntKind}{d:D}(h:Kd.ok (.int k) d):∃n,d=.v (.int k n)/\k.min<=n/\n<=k.max:=by unfold Kd.ok at h;exact h
theorem ok_s {d:D}(h:Kd.ok .str d):∃s,d=.v (.string s)/\s.size<=maxLen:=by unfold Kd.ok at h;exact h
theorem QdQ {ks:List Kd}{d:D}(h:Kd.ok (.lst true ks) d):∃es,d=.lst false ks.length es/\es.length<=maxLen/\∀e,e∈es->∃cs,e=.agg cs/\Kd.oks ks cs:=by unfold Kd.ok at h;exact h
theorem Qdi {k:Kd}{d:D}(h:Kd.ok (.lst false [k]) d):∃es,d=.lst false 1 es/\es.length<=maxLen/\∀e,e∈es->Kd.ok k e:=by unfold Kd.ok at h;obtain⟨es,a,b,c⟩:=h;exact⟨es,a,b,fun e f=>Qdh (c e f)⟩
theorem yE {d:Type}{enc:d->D}{p:d->Prop}:∀{es:jVj},(∀e,e∈es->∃x,e=enc x/\p x)->∃xs:List d,es=xs.map enc/\∀x,x∈xs->p x
 | [],_=>⟨[],rfl,fun x b=>by cases b⟩
 | e::es,h=>by
  obtain⟨x,rfl,b⟩:=h e jMj;obtain⟨xs,rfl,c⟩:=yE (es:=es) fun y a=>h y (jmj _ a);refine⟨x::xs,rfl,fun y a=>?_⟩;obtain rfl|a:=List.mem_cons.1 a
  ·exact b
  ·exact c y a
theorem Qp4 {n:Int}(h:IntKind.u16.min<=n/\n<=IntKind.u16.max):0<=n/\n<=65535:=h
theorem Qbn {P:Program}{w:World}{n:String}{d:DataW Unit}:∀{l:List (String×DataW Unit)} {b:List MemPlace} (i:Nat),DataW.LaidVars P w l b->l[i]?=some (n,d) ->
  ∃g t cs a p,P.globalNamed n=some g/\(P.globals[g]?).map (·.type)=some t/\w.var? P n=some cs/\DataW.trod (fun _=>()) P w 0 (fun _=>true) false a t cs.toList=some (d,p)
 | [],_,i,_,hi=>by simp at hi
 | (m,e)::r,b,0,h,hi=>by simp only[jzj,jIj,jPj] at hi;obtain⟨rfl,rfl⟩:=hi;obtain⟨g,t,cs,a,p,q,c,f,j,k,_,_⟩:=h;exact⟨g,t,cs,a,p,c,f,j,k⟩
 | (m,e)::r,b,i+1,h,hi=>by obtain⟨g,t,cs,a,p,q,c,f,j,k,o,_⟩:=h;exact Qbn i o (by simpa using hi)
theorem QdA {P:Program}{W:World}{name:String}{g:Nat}{k:IntKind}{zs:List Int}(d:P.globalNamed name=some g)(h:W.var? P name=some (zs.map fun z=>Value.int k z).toArray) :
  GAt W (fun _=>False) g (.agg (zs.map fun z=>.v (.int k z))):=by
 have hc:=World.var?_cell d h;unfold World.var? at h;rw[d,jBj] at h;split at h;case h_2=>cases h
 rename_i cs t fz b;simp only[jIj] at h;refine⟨⟨fun h=>h,?_,fun j c e=>?_⟩,cs,t,fz,b,by rw[h];simp[D.cells]⟩
 ·obtain h|h:=Nat.lt_or_ge g W.heap.size
  ·exact h
  ·rw[Array.getElem?_eq_none h] at b;cases b
 ·have a : (zs.map fun z=>D.v (.int k z))[j]?=some c:=e;rw[List.getElem?_map] at a;obtain⟨z,f,rfl⟩:=Option.map_eq_some_iff.1 a;refine⟨.int k z,?_,.v _⟩;rw[Nat.zero_add,hc j];simp[f]
theorem gat1 {P:Program}{W:World}{laid:List (String×DataW Unit)}{s:List MemPlace}{name:String}{g:Nat}{t e:TypeId}{n:Nat}{k:IntKind}{zs:List Int}(i:Nat)(o:DataW.LaidVars P W laid s)(hi:laid[i]?=some (name,Lib.tabData k zs))
  (j:P.globalNamed name=some g) (f:(P.globals[g]?).map (·.type)=some t) (q:P.underlying t=some (.array n e)) (m:P.underlying e=some (.int k)) (a:P.cellsOf e=1) (b:P.cellsOf t=n) :
  GAt W (fun _=>False) g (.agg (zs.map fun z=>.v (.int k z))):=by
 obtain⟨u,w,cs,h,p,c,d,r,l⟩:=Qbn i o hi;obtain rfl:=Option.some.inj (j.symm.trans c);obtain rfl:=Option.some.inj (f.symm.trans d);have:=Lib.cells_of_tab q m a b l;exact QdA j (by rw[r,<-this])
theorem QcB {W:World}(b:GAt W (fun _=>False) 1 (.agg (Lib.pow10Tab.map fun z=>.v (.int .u64 z))))(g:Nat)(x:D)(a:cx.G g=some x):GAt W (fun _=>False) g x:=by
 have e:cx.G g=(match Nat.beq g 1 with
  | true=>some pow10D
  | false=>none):=rfl
 rw[e] at a;split at a
 ·rename_i c;rw[jqj c];cases a;exact b
 ·cases a
set_option maxRecDepth 10000
set_option maxHeartbeats 4000000
abbrev jZj:D:=.agg [I 0,I 0,B false,B false,I 0,I 0,I 0,.lst true 0 [],.lst true 0 [],.lst true 0 []]
abbrev jOj:Type:=List Orc
abbrev b0:Orc:=.br false
abbrev b1:Orc:=.br true
def no:Nat->List Orc->List Orc
 | 0,l=>l
 | n+1,l=>.no::no n l
theorem rf {f:FuncId}{a:jVj}{r:D}{ob:List Prop}(orc:List Orc)(b:All ob)(h:ut true 100 cx f a orc=some (r,ob):=by kernel_rfl):Computes cx f a r:=run h b
theorem rfO {f:FuncId}{a:List AV}{i:Option (List OC)}(b:Nat){ks:List Bool}{r:AV}{cs:List OC}(orc:List Orc){ob:List Prop}(c:All ob)(h:Qcd 100 cx f a i b cs ks orc=some (r,cs,ob):=by kernel_rfl):ComputesO cx f a i r cs ks:=QcZ c h
structure Lp (S E:Type) where
 T:S->List (Nat×AV)
 H:S->List (Nat×Blk)
 X:E->Ex
 Y:E->List (Nat×AV)
 Z:E->List (Nat×Blk)
abbrev Rl {S E:Type}(c:Code)(a vis:Nat)(rnd:Bool)(L:Lp S E)(s:S)(r:S⊕E):Prop:=Rd cx c a vis rnd L.T L.H L.X L.Y L.Z s r
theorem rn {S E:Type}{c:Code}{d vis:Nat}{rnd:Bool}{L:Lp S E}{s s' : S}(e:Nat)(orc:List Orc)(f b a:List Nat){ob:List Prop}(g:All ob)(h:J9 100 cx c d vis rnd e (L.T s) (L.H s) orc f b a=some (.normal,L.T s',L.H s',ob):=by kernel_rfl):Rl c d vis rnd L s (.inl s'):=⟨100,e,orc,f,b,a,uv g h⟩
theorem rx {S E:Type}{c:Code}{d vis:Nat}{rnd:Bool}{L:Lp S E}{s:S}{e:E}(f:Nat)(orc:List Orc)(g b a:List Nat){ob:List Prop}(i:All ob)(h:J9 100 cx c d vis rnd f (L.T s) (L.H s) orc g b a=some (L.X e,L.Y e,L.Z e,ob):=by kernel_rfl)(j:L.X e≠.normal:=by nofun):Rl c d vis rnd L s (.inr e):=⟨⟨100,f,orc,g,b,a,uv i h⟩,j⟩
theorem ro (e:TypeId){b n:Nat}(h:Wa b n)(c:cx.bytes e=some b:=by kernel_rfl)(a:0<b:=by decide):room cx e n:=ZB c a h
theorem allE {b:Type}{un:D->Option b}{enc:b->D}{es:jVj}{i:Int}{x:b}{l:List Prop}(a:∀{d x},un d=some x->d=enc x)(h:el un es i=some x)(t:All l):All ((0<=i)::(nth es i.toNat=some (enc x))::l):=Qa (Qf a h).1 (Qa (Qf a h).2 t)
theorem io {a:Type}{p:Prop}[Decidable p]{x y:Option a}{r:a}(h:(if p then x else y)=some r):(p/\x=some r)\/(¬p/\y=some r):=by
 by_cases hp:p
 · exact .inl ⟨hp,it h hp⟩
 · exact .inr ⟨hp,jf h hp⟩
abbrev qC:List Bool:=[true,true,true,true,true,true,true,true,true,true]
abbrev ZV:List Bool:=[true,true,true,true,true,true,true,true,true,true,true,true]
abbrev Qb (c d:jVj)(e f:Int)(g h:Bool)(i j k:Int)(l a b:jVj):List OC:=[.row 5 c,.row 5 d,.dat (I e),.dat (I f),.dat (B g),.dat (B h),.dat (I i),.dat (I j),.dat (I k),.row 1 l,.row 6 a,.row 7 b]
abbrev Qb' (x:jVj×jVj×Int×Int×Bool×Bool×Int×Int×Int×jVj×jVj×jVj):List OC:=Qb x.1 x.2.1 x.2.2.1 x.2.2.2.1 x.2.2.2.2.1 x.2.2.2.2.2.1 x.2.2.2.2.2.2.1 x.2.2.2.2.2.2.2.1 x.2.2.2.2.2.2.2.2.1 x.2.2.2.2.2.2.2.2.2.1 x.2.2.2.2.2.2.2.2.2.2.1 x.2.2.2.2.2.2.2.2.2.2.2
abbrev QJ (a b:Int)(c d:Bool)(e f g:Int)(h i j:jVj):List OC:=[.dat (I a),.dat (I b),.dat (B c),.dat (B d),.dat (I e),.dat (I f),.dat (I g),.row 1 h,.row 6 i,.row 7 j]
abbrev QJ' (x:Int×Int×Bool×Bool×Int×Int×Int×jVj×jVj×jVj):List OC:=QJ x.1 x.2.1 x.2.2.1 x.2.2.2.1 x.2.2.2.2.1 x.2.2.2.2.2.1 x.2.2.2.2.2.2.1 x.2.2.2.2.2.2.2.1 x.2.2.2.2.2.2.2.2.1 x.2.2.2.2.2.2.2.2.2
def QP (x:Int×jSj×jVj×jVj×jSj):D:=.agg [I x.1,.v (.string x.2.1),.lst false 1 x.2.2.1,.lst false 1 x.2.2.2.1,.v (.string x.2.2.2.2)]
def Ze:D->Option (Int×jSj×jVj×jVj×jSj)
 | .agg [c0,c1,c2,c3,c4]=>(Ya .i64 c0).bind fun a=>(JR c1).bind fun b=>(Em 1 c2).bind fun c=>(Em 1 c3).bind fun d=>(JR c4).bind fun e=>some (a,b,c,d,e)
 | _=>none
theorem Ql {d:D}{x:Int×jSj×jVj×jVj×jSj}(h:Ze d=some x):d=QP x:=by
 unfold Ze at h;split at h;case h_2=>cases h
 obtain⟨m,g,h⟩:=ZX h;obtain⟨n,i,h⟩:=ZX h;obtain⟨o,j,h⟩:=ZX h;obtain⟨p,k,h⟩:=ZX h;obtain⟨q,l,h⟩:=ZX h;cases h;have a:=WS g;have b:=YU i;have c:=J7 j;have e:=J7 k;have f:=YU l;rw[a,b,c,e,f];rfl
def Zy (x:jSj):D:=.v (.string x)
def Ww (d:D):Option (jSj):=JR d
theorem Qr {d:D}{x:jSj}(h:Ww d=some x):d=Zy x:=YU h
def Zx (n:Nat)(d:jVj)(e:Int)(b:Int):Option (Int⊕Unit⊕Unit) := (el Ze d e).bind fun a=>if b<((a.2.2.1).length:Int) then(el Ww a.2.2.1 b).bind fun c=>if(c.size:Int)>40 then some (.inr (.inl ())) else if Qh (b+1) then some (.inl (b+1)) else none else some (.inr (.inr ()))
noncomputable def GY (a:jVj)(b:Int):Lp (Int) (Unit⊕Unit):=⟨fun c=>[(0,.d (.lst false 5 a)),(5,.d (I b)),(6,.d (I c))],fun _=>[],fun
 | (.inl e)=>.ret
 | (.inr e)=>(.exit 2),fun
 | (.inl e)=>[(4,.d (B false))]
 | (.inr e)=>[(0,.d (.lst false 5 a)),(5,.d (I b))],fun _=>[]⟩
theorem Uk {n c d}(e)(r)(h:Zx n c d e=some r):Rl (ZJ cx.P 13 1) 71 0 false (GY c d) e r:=by
 unfold Zx at h;have⟨tb1,hb1,h⟩:=bo h;have q:=allE Ql hb1 QL;let o(l:jOj):=.el (QP tb1)::l;obtain⟨a,h⟩|⟨a,h⟩:=io h
 ·have⟨tb3,hb3,h⟩:=bo h;have q:=allE Qr hb3 (allE Ql hb1 (Qa (jDj a) q));let o l:=o (b1::.el (QP tb1)::.el (Zy tb3)::l);obtain⟨b,h⟩|⟨b,h⟩:=io h
  ·cases h;exact rx 45 (o [b1]) [] [4] [] (Qa (jDj b) q)
  have⟨hb5,h⟩:=gd h;cases h;exact rn 45 (o [b0]) [] [0,5,6] [] (Qa hb5 (Qa (jEj b) q))
 cases h;exact rx 45 (o [b0]) [] [0,5] [] (Qa (jEj a) q)
def Zw (n:Nat)(d:jVj)(c:Int):Option (Int⊕Unit⊕Unit) := if c<((d).length:Int) then(el Ze d c).bind fun a=>if(a.2.1.size:Int)>40 then some (.inr (.inl ())) else if((a.2.2.1).length:Int)>6 then some (.inr (.inl ())) else if((a.2.2.2.1).length:Int)>8 then some (.inr (.inl ())) else if(a.2.2.2.2.size:Int)>200 then some (.inr (.inl ())) else(Q2 (Zx n d c) n 0).bind fun b=>match b with|.inl b=>(some (.inr (.inl ())))|.inr b=>(if Qh (c+1) then some (.inl (c+1)) else none) else some (.inr (.inr ()))
noncomputable def GX (a:jVj):Lp (Int) (Unit⊕Unit):=⟨fun b=>[(0,.d (.lst false 5 a)),(5,.d (I b))],fun _=>[],fun
 | (.inl e)=>.ret
 | (.inr e)=>(.exit 0),fun
 | (.inl e)=>[(4,.d (B false))]
 | (.inr e)=>[],fun _=>[]⟩
theorem Uj {n i}(j)(r)(h:Zw n i j=some r):Rl (ZJ cx.P 13 0) 71 0 false (GX i) j r:=by
 unfold Zw at h;obtain⟨a,h⟩|⟨a,h⟩:=io h
 ·have⟨ta2,ha2,h⟩:=bo h;have q:=allE Ql ha2 (Qa (jDj a) QL);let o(l:jOj):=b1::.el (QP ta2)::l;obtain⟨b,h⟩|⟨b,h⟩:=io h
  ·cases h;exact rx 6 (o [b1,.no,.no,.no]) [] [4] [] (Qa (jDj b) q)
  have q:=allE Ql ha2 (Qa (jEj b) q);let o l:=o (b0::.el (QP ta2)::l);obtain⟨c,h⟩|⟨c,h⟩:=io h
  ·cases h;exact rx 6 (o [b1,.no,.no]) [] [4] [] (Qa (jDj c) q)
  have q:=allE Ql ha2 (Qa (jEj c) q);let o l:=o (b0::.el (QP ta2)::l);obtain⟨e,h⟩|⟨e,h⟩:=io h
  ·cases h;exact rx 6 (o [b1,.no]) [] [4] [] (Qa (jDj e) q)
  have q:=allE Ql ha2 (Qa (jEj e) q);let o l:=o (b0::.el (QP ta2)::l);obtain⟨f,h⟩|⟨f,h⟩:=io h
  ·cases h;exact rx 6 (o [b1]) [] [4] [] (Qa (jDj f) q)
  have q:=Qa (jEj f) q;have⟨g,ha7,h⟩:=bo h;obtain g|g:=g
  ·cases h;exact rx 6 (o [b0,.lp [] [0,5,6] [] .ret [(4,.d (B false))] [] 77]) [] [4] [] (Qa (QH Uk ha7) q)
  have⟨ha8,h⟩:=gd h;cases h;exact rn 6 (o [b0,.lp [] [0,5,6] [] (.exit 2) [(0,.d (.lst false 5 i)),(5,.d (I j))] [] 77]) [] [0,5] [] (Qa ha8 (Qa (QH Uk ha7) q))
 cases h;exact rx 6 [b0] [] [] [] (Qa (jEj a) QL)
def WM (n:Nat)(b:jVj)(c:Int):Option (Bool) := if((b).length:Int)>c then some false else(Q2 (Zw n b) n 0).bind fun a=>match a with|.inl a=>(some false)|.inr a=>(some true)
theorem XY {n c e r}(h:WM n c e=some r):Computes cx 13 [.lst false 5 c,I e] (B r):=by
 unfold WM at h;obtain⟨a,h⟩|⟨a,h⟩:=io h
 ·obtain rfl:=oi h;exact rf [b1] (Qa (jDj a) QL)
 have q:=Qa (jEj a) QL;have⟨b,h2,h⟩:=bo h;obtain b|b:=b
 ·obtain rfl:=oi h;exact rf [b0,.lp [] [0,5] [] .ret [(4,.d (B false))] [] 91] (Qa (QH Uj h2) q)
 obtain rfl:=oi h;exact rf [b0,.lp [] [0,5] [] (.exit 0) [] [] 91] (Qa (QH Uj h2) q)
def Wr:jVj:=[.tup [.v (.string ⟨#[115,101,99,116,111,114]⟩),.agg [.v (.string ⟨#[83]⟩),I 1,.fn (.func 147) [] [],.fn (.func 148) [] []]],.tup [.v (.string ⟨#[109,105,114,114,111,114]⟩),.agg [.v (.string ⟨#[77,115]⟩),I 2,.fn (.func 149) [] [],.fn (.func 150) [] []]],.tup [.v (.string ⟨#[115,111,105,108]⟩),.agg [.v (.string ⟨#[109]⟩),I 2,.fn (.func 151) [] [],.fn (.func 215) [] [.ref (.fn (.func 153) [] []) 0]]],.tup [.v (.string ⟨#[99,108,101,97,110]⟩),.agg [.v (.string ⟨#[109]⟩),I 1,.fn (.func 154) [] [],.fn (.func 215) [] [.ref (.fn (.func 155) [] []) 0]]],.tup [.v (.string ⟨#[100,101,102,101,99,116]⟩),.agg [.v (.string ⟨#[109]⟩),I 1,.fn (.func 216) [] [.ref (.fn (.func 157) [] []) 0],.fn (.func 215) [] [.ref (.fn (.func 158) [] []) 0]]],.tup [.v (.string ⟨#[114,101,112,97,105,114]⟩),.agg [.v (.string ⟨#[109]⟩),I 1,.fn (.func 216) [] [.ref (.fn (.func 159) [] []) 0],.fn (.func 215) [] [.ref (.fn (.func 160) [] []) 0]]],.tup [.v (.string ⟨#[97,105,109]⟩),.agg [.v (.string ⟨#[109]⟩),I 1,.fn (.func 216) [] [.ref (.fn (.func 161) [] []) 0],.fn (.func 215) [] [.ref (.fn (.func 162) [] []) 0]]],.tup [.v (.string ⟨#[112,97,114,107]⟩),.agg [.v (.string ⟨#[109]⟩),I 1,.fn (.func 216) [] [.ref (.fn (.func 163) [] []) 0],.fn (.func 215) [] [.ref (.fn (.func 164) [] []) 0]]],.tup [.v (.string ⟨#[100,105,109]⟩),.agg [.v (.string ⟨#[115]⟩),I 1,.fn (.func 154) [] [],.fn (.func 165) [] []]],.tup [.v (.string ⟨#[115,117,110]⟩),.agg [.v (.string ⟨#[]⟩),I 2,.fn (.func 168) [] [],.fn (.func 169) [] []]],.tup [.v (.string ⟨#[102,105,108,108]⟩),.agg [.v (.string ⟨#[]⟩),I 1,.fn (.func 170) [] [],.fn (.func 171) [] []]],.tup [.v (.string ⟨#[100,114,97,105,110]⟩),.agg [.v (.string ⟨#[]⟩),I 1,.fn (.func 172) [] [],.fn (.func 174) [] []]],.tup [.v (.string ⟨#[116,114,105,112]⟩),.agg [.v (.string ⟨#[]⟩),I 1,.fn (.func 175) [] [],.fn (.func 176) [] []]],.tup [.v (.string ⟨#[114,101,115,101,116]⟩),.agg [.v (.string ⟨#[]⟩),I 1,.fn (.func 178) [] [],.fn (.func 179) [] []]],.tup [.v (.string ⟨#[111,102,102,101,114]⟩),.agg [.v (.string ⟨#[79]⟩),I 5,.fn (.func 180) [] [],.fn (.func 182) [] []]],.tup [.v (.string ⟨#[100,101,108,105,118,101,114]⟩),.agg [.v (.string ⟨#[111]⟩),I 2,.fn (.func 183) [] [],.fn (.func 184) [] []]],.tup [.v (.string ⟨#[98,105,108,108]⟩),.agg [.v (.string ⟨#[111]⟩),I 1,.fn (.func 185) [] [],.fn (.func 186) [] []]],.tup [.v (.string ⟨#[117,110,100,111]⟩),.agg [.v (.string ⟨#[]⟩),I 0,.fn (.func 154) [] [],.fn (.func 187) [] []]]]
def QaN (x:jSj×Int×FnD×FnD):D:=.agg [.v (.string x.1),I x.2.1,.fn x.2.2.1.1 x.2.2.1.2.1 x.2.2.1.2.2,.fn x.2.2.2.1 x.2.2.2.2.1 x.2.2.2.2.2]
def J8:D->Option (jSj×Int×FnD×FnD)
 | .agg [c0,c1,c2,c3]=>(JR c0).bind fun a=>(Ya .i64 c1).bind fun b=>(ye c2).bind fun c=>(ye c3).bind fun d=>some (a,b,c,d)
 | _=>none
theorem yf {d:D}{x:jSj×Int×FnD×FnD}(h:J8 d=some x):d=QaN x:=by
 unfold J8 at h;split at h;case h_2=>cases h
 obtain⟨k,f,h⟩:=ZX h;obtain⟨l,g,h⟩:=ZX h;obtain⟨m,i,h⟩:=ZX h;obtain⟨n,j,h⟩:=ZX h;cases h;have a:=YU f;have b:=WS g;have c:=jU i;have e:=jU j;rw[a,b,c,e];rfl
def Kx (n:Nat)  : Option (Int) :=
 some 3
theorem yQ {n:Nat}  {r:Int}(h:Kx n =some r):Computes cx 69 [B true,I 3] (I r):=by unfold Kx at h;obtain rfl:=oi h;exact rf [.no] QL
def Qm (n:Nat)(a:Bool)(b:Int):Option (Int) := if a=true then some b else some 0
theorem Qu {n b c r}(h:Qm n b c=some r):Computes cx 69 [B b,I c] (I r):=by
 unfold Qm at h;obtain⟨a,h⟩|⟨a,h⟩:=io h
 ·obtain rfl:=oi h;exact rf [b1] (Qa a QL)
 obtain rfl:=oi h;exact rf [b0] (Qa (QA a) QL)
def ZE (n:Nat)(b c d:Int):Option (Int) := if b<c then(Kx n).bind fun a=>some a else(Qm n (decide (b>d)) 3).bind fun a=>some a
theorem WK {n b c d r}(h:ZE n b c d=some r):Computes cx 68 [I b,I c,I d] (I r):=by
 unfold ZE at h;obtain⟨a,h⟩|⟨a,h⟩:=io h
 ·have⟨t2,h2,h⟩:=bo h;obtain rfl:=oi h;exact rf [b1,.ret (I t2)] (Qa (yQ h2) (Qa (jDj a) QL))
 have⟨t2,h2,h⟩:=bo h;obtain rfl:=oi h;exact rf [b0,.ret (I t2)] (Qa (Qu h2) (Qa (jEj a) QL))
def Up (n:Nat)  : Option (Int) :=
 some 0
theorem jj {n:Nat}  {r:Int}(h:Up n =some r):Computes cx 69 [B false,I 13] (I r):=by unfold Up at h;obtain rfl:=oi h;exact rf [.no] QL
def Q3 (x:Int):D:=I x
def Vt (d:D):Option (Int):=Ya .i64 d
theorem Qi {d:D}{x:Int}(h:Vt d=some x):d=Q3 x:=WS h
def Vi (n:Nat)(c:jVj)(b:Int):Option (Int⊕Int⊕Unit) := if b<((c).length:Int) then(el Vt c b).bind fun a=>if a=0 then if Qh (b+1) then some (.inl (b+1)) else none else some (.inr (.inl a)) else some (.inr (.inr ()))
noncomputable def zp (a:jVj):Lp (Int) (Int⊕Unit):=⟨fun b=>[(5,.d (.lst false 1 a)),(6,.d (I ((a).length:Int))),(7,.d (I b))],fun _=>[],fun
 | (.inl e)=>.ret
 | (.inr e)=>(.exit 0),fun
 | (.inl e)=>[(2,.d (I e))]
 | (.inr e)=>[],fun _=>[]⟩
theorem Gt {n c}(d)(r)(h:Vi n c d=some r):Rl (ZJ cx.P 67 0) 15 0 false (zp c) d r:=by
 unfold Vi at h;obtain⟨a,h⟩|⟨a,h⟩:=io h
 ·have⟨ta2,ha2,h⟩:=bo h;have q:=allE Qi ha2 (Qa (jDj a) QL);obtain⟨b,h⟩|⟨b,h⟩:=io h
  ·have⟨ha4,h⟩:=gd h;cases h;exact rn 4 [b1,.el (Q3 ta2),b0] [] [5,6,7] [] (Qa ha4 (Qa (nef b) q))
  cases h;exact rx 4 [b1,.el (Q3 ta2),b1] [] [2] [] (Qa (net b) q)
 cases h;exact rx 4 [b0] [] [] [] (Qa (jEj a) QL)
def Qo (n:Nat)(b:jVj):Option (Int) := (Q2 (Vi n b) n 0).bind fun a=>match a with|.inl a=>(some a)|.inr a=>(some 0)
theorem Qx {n b r}(h:Qo n b=some r):Computes cx 67 [.lst false 1 b] (I r):=by
 unfold Qo at h;have⟨a,h1,h⟩:=bo h;obtain a|a:=a
 ·obtain rfl:=oi h;exact rf [.lp [] [5,6,7] [] .ret [(2,.d (I a))] [] 23] (Qa (QH Gt h1) QL)
 obtain rfl:=oi h;exact rf [.lp [] [5,6,7] [] (.exit 0) [] [] 23] (Qa (QH Gt h1) QL)
def Wn (n:Nat)(b:jSj)(a:Nat):Option (Nat⊕Unit⊕Unit) := if a<b.size then if((Utf8.decode b a).1:Int)>=97 then if((Utf8.decode b a).1:Int)<=122 then some (.inl (a+(Utf8.decode b a).2)) else if((Utf8.decode b a).1:Int)>=65 then if((Utf8.decode b a).1:Int)<=90 then some (.inl (a+(Utf8.decode b a).2)) else if((a:Nat):Int)=0 then some (.inr (.inl ())) else if((Utf8.decode b a).1:Int)=95 then some (.inl (a+(Utf8.decode b a).2)) else if((Utf8.decode b a).1:Int)<48 then some (.inr (.inl ())) else if((Utf8.decode b a).1:Int)>57 then some (.inr (.inl ())) else some (.inl (a+(Utf8.decode b a).2)) else if((a:Nat):Int)=0 then some (.inr (.inl ())) else if((Utf8.decode b a).1:Int)=95 then some (.inl (a+(Utf8.decode b a).2)) else if((Utf8.decode b a).1:Int)<48 then some (.inr (.inl ())) else if((Utf8.decode b a).1:Int)>57 then some (.inr (.inl ())) else some (.inl (a+(Utf8.decode b a).2)) else if((Utf8.decode b a).1:Int)>=65 then if((Utf8.decode b a).1:Int)<=90 then some (.inl (a+(Utf8.decode b a).2)) else if((a:Nat):Int)=0 then some (.inr (.inl ())) else if((Utf8.decode b a).1:Int)=95 then some (.inl (a+(Utf8.decode b a).2)) else if((Utf8.decode b a).1:Int)<48 then some (.inr (.inl ())) else if((Utf8.decode b a).1:Int)>57 then some (.inr (.inl ())) else some (.inl (a+(Utf8.decode b a).2)) else if((a:Nat):Int)=0 then some (.inr (.inl ())) else if((Utf8.decode b a).1:Int)=95 then some (.inl (a+(Utf8.decode b a).2)) else if((Utf8.decode b a).1:Int)<48 then some (.inr (.inl ())) else if((Utf8.decode b a).1:Int)>57 then some (.inr (.inl ())) else some (.inl (a+(Utf8.decode b a).2)) else some (.inr (.inr ()))
noncomputable def qy (a:jSj):Lp (Nat) (Unit⊕Unit):=⟨fun _=>[(0,.d (.v (.string a))),(7,.own 2 0)],fun b=>[(2,.it a b)],fun
 | (.inl e)=>.ret
 | (.inr e)=>(.exit 0),fun
 | (.inl e)=>[(2,.d (B false))]
 | (.inr e)=>[(0,.d (.v (.string a)))],fun _=>[]⟩
theorem JP {n k}(m)(r)(h:Wn n k m=some r):Rl (ZJ cx.P 113 0) 51 0 false (qy k) m r:=by
 unfold Wn at h;obtain⟨g,h⟩|⟨g,h⟩:=io h
 ·have q:=Qa g QL;let o(l:jOj):=b1::.no::l;obtain⟨i,h⟩|⟨i,h⟩:=io h
  ·have q:=Qa (jDj i) q;let o l:=o (b1::l);obtain⟨f,h⟩|⟨f,h⟩:=io h
   ·cases h;exact rn 3 (o [b1,.no,.no]) [] [0,7] [2] (Qa (jDj f) q)
   have q:=Qa (jEj f) q;let o l:=o (b0::l);obtain⟨d,h⟩|⟨d,h⟩:=io h
   ·have q:=Qa (jDj d) q;let o l:=o (b1::l);obtain⟨a,h⟩|⟨a,h⟩:=io h
    ·cases h;exact rn 3 (o [b0,.no]) [] [0,7] [2] (Qa (Ud (jDj a)) q)
    have q:=Qa (Uc (jEj a)) q;let o l:=o (b1::l);obtain⟨b,h⟩|⟨b,h⟩:=io h
    ·cases h;exact rx 3 (o [b1,.no]) [] [2] [] (Qa (eqt b) q)
    have q:=Qa (eqf b) q;obtain⟨c,h⟩|⟨c,h⟩:=io h
    ·cases h;exact rn 3 (o [b0,b0,.no]) [] [0,7] [2] (Qa (nef c) q)
    have q:=Qa (net c) q;let o l:=o (b0::b1::l);obtain⟨e,h⟩|⟨e,h⟩:=io h
    ·cases h;exact rx 3 (o [b1,.no]) [] [2] [] (Qa (jDj e) q)
    have q:=Qa (jEj e) q;obtain⟨j,h⟩|⟨j,h⟩:=io h
    ·cases h;exact rx 3 (o [b0,b1]) [] [2] [] (Qa (jDj j) q)
    cases h;exact rn 3 (o [b0,b0]) [] [0,7] [2] (Qa (jEj j) q)
   have q:=Qa (jEj d) q;let o l:=o (b0::.no::l);obtain⟨a,h⟩|⟨a,h⟩:=io h
   ·cases h;exact rx 3 (o [b1,.no]) [] [2] [] (Qa (eqt a) q)
   have q:=Qa (eqf a) q;obtain⟨b,h⟩|⟨b,h⟩:=io h
   ·cases h;exact rn 3 (o [b0,b0,.no]) [] [0,7] [2] (Qa (nef b) q)
   have q:=Qa (net b) q;let o l:=o (b0::b1::l);obtain⟨c,h⟩|⟨c,h⟩:=io h
   ·cases h;exact rx 3 (o [b1,.no]) [] [2] [] (Qa (jDj c) q)
   have q:=Qa (jEj c) q;obtain⟨e,h⟩|⟨e,h⟩:=io h
   ·cases h;exact rx 3 (o [b0,b1]) [] [2] [] (Qa (jDj e) q)
   cases h;exact rn 3 (o [b0,b0]) [] [0,7] [2] (Qa (jEj e) q)
  have q:=Qa (jEj i) q;let o l:=o (b0::.no::l);obtain⟨f,h⟩|⟨f,h⟩:=io h
  ·have q:=Qa (jDj f) q;let o l:=o (b1::l);obtain⟨d,h⟩|⟨d,h⟩:=io h
   ·cases h;exact rn 3 (o [b0,.no]) [] [0,7] [2] (Qa (Ud (jDj d)) q)
   have q:=Qa (Uc (jEj d)) q;let o l:=o (b1::l);obtain⟨a,h⟩|⟨a,h⟩:=io h
   ·cases h;exact rx 3 (o [b1,.no]) [] [2] [] (Qa (eqt a) q)
   have q:=Qa (eqf a) q;obtain⟨b,h⟩|⟨b,h⟩:=io h
   ·cases h;exact rn 3 (o [b0,b0,.no]) [] [0,7] [2] (Qa (nef b) q)
   have q:=Qa (net b) q;let o l:=o (b0::b1::l);obtain⟨c,h⟩|⟨c,h⟩:=io h
   ·cases h;exact rx 3 (o [b1,.no]) [] [2] [] (Qa (jDj c) q)
   have q:=Qa (jEj c) q;obtain⟨e,h⟩|⟨e,h⟩:=io h
   ·cases h;exact rx 3 (o [b0,b1]) [] [2] [] (Qa (jDj e) q)
   cases h;exact rn 3 (o [b0,b0]) [] [0,7] [2] (Qa (jEj e) q)
  have q:=Qa (jEj f) q;let o l:=o (b0::.no::l);obtain⟨d,h⟩|⟨d,h⟩:=io h
  ·cases h;exact rx 3 (o [b1,.no]) [] [2] [] (Qa (eqt d) q)
  have q:=Qa (eqf d) q;obtain⟨a,h⟩|⟨a,h⟩:=io h
  ·cases h;exact rn 3 (o [b0,b0,.no]) [] [0,7] [2] (Qa (nef a) q)
  have q:=Qa (net a) q;let o l:=o (b0::b1::l);obtain⟨b,h⟩|⟨b,h⟩:=io h
  ·cases h;exact rx 3 (o [b1,.no]) [] [2] [] (Qa (jDj b) q)
  have q:=Qa (jEj b) q;obtain⟨c,h⟩|⟨c,h⟩:=io h
  ·cases h;exact rx 3 (o [b0,b1]) [] [2] [] (Qa (jDj c) q)
  cases h;exact rn 3 (o [b0,b0]) [] [0,7] [2] (Qa (jEj c) q)
 cases h;exact rx 3 [b0,.no] [] [0] [] (Qa g QL)
def Yi (n:Nat)(a:jSj):Option (Bool) := (Q2 (Wn n a) n 0).bind fun b=>match b with|.inl b=>(some false)|.inr b=>(if(!(a.toList==(⟨#[]⟩:jSj).toList))=true then some (decide ((a.size:Int)<=24)) else some false)
theorem jm {n a r}(h:Yi n a=some r):Computes cx 113 [.v (.string a)] (B r):=by
 unfold Yi at h;have⟨c,h1,h⟩:=bo h;obtain c|c:=c
 ·obtain rfl:=oi h;exact rf [.lp [] [0,7] [2] .ret [(2,.d (B false))] [] 54] (Qa (QH JP h1) QL)
 have q:=Qa (QH JP h1) QL;let o(l:jOj):=.lp [] [0,7] [2] (.exit 0) [(0,.d (.v (.string a)))] [] 54::l;obtain⟨b,h⟩|⟨b,h⟩:=io h
 ·cases h;exact rf (o [b1]) (Qa b q)
 obtain rfl:=oi h;exact rf (o [b0]) (Qa (QA b) q)
def Vs (n:Nat)(a:jSj):Option (Int) := (Yi n a).bind fun b=>(Qm n (!b) 8).bind fun c=>some c
theorem G5 {n a r}(h:Vs n a=some r):Computes cx 112 [.v (.string a)] (I r):=by unfold Vs at h;have⟨t1,h1,h⟩:=bo h;have⟨t2,h2,h⟩:=bo h;obtain rfl:=oi h;exact rf [.ret (B t1),.ret (I t2)] (Qa (Qu h2) (Qa (jm h1) QL))
def WN (n:Nat)(d:jVj)(a:(Int×jVj)):Option (Int×jVj⊕jVj) := if a.1<((d).length:Int) then(el Ww d a.1).bind fun b=>(Vs n b).bind fun c=>if Wa 8 ((a.2).length+1) then if Qh (a.1+1) then some (.inl ((a.1+1),(a.2++([I c]:jVj)))) else none else none else some (.inr a.2)
noncomputable def X5 (b:jVj):Lp (Int×jVj) (jVj):=⟨fun a=>[(1,.d (.fn (.func 112) [] [])),(5,.own 5 0),(8,.d (.lst false 1 b)),(9,.d (I ((b).length:Int))),(10,.d (I a.1))],fun a=>[(5,.row 0 1 a.2)],fun _=>(.exit 0),fun _=>[(5,.own 5 0)],fun e=>[(5,.row 0 1 e)]⟩
theorem X2 {n b}(c)(r)(h:WN n b c=some r):Rl (ZJ cx.P 111 0) 22 0 false (X5 b) c r:=by
 unfold WN at h;obtain⟨a,h⟩|⟨a,h⟩:=io h
 ·have⟨ta2,ha2,h⟩:=bo h;have⟨ta3,ha3,h⟩:=bo h;have⟨ha4,h⟩:=gd h;have⟨ha5,h⟩:=gd h;cases h;exact rn 6 [b1,.el (Zy ta2),.ret (I ta3),b1] [] [1,5,8,9,10] [5] (Qa ha5 (Qa (ro 25 ha4) (Qa (G5 ha3) (allE Qr ha2 (Qa (jDj a) QL)))))
 cases h;exact rx 6 [b0] [] [5] [5] (Qa (jEj a) QL)
def Wf (n:Nat)(a:jVj):Option (jVj) := (Q2 (WN n a) n (0,[])).bind fun b=>some b
theorem Yp {n a r}(h:Wf n a=some r):Computes cx 111 [.lst false 1 a,.fn (.func 112) [] []] (.lst false 1 r):=by unfold Wf at h;have⟨t1,h1,h⟩:=bo h;obtain rfl:=oi h;exact rf [.lp [5,1] [1,5,8,9,10] [5] (.exit 0) [(5,.own 5 0)] [(5,.row 0 1 t1)] 30] (Qa (QH X2 h1) QL)
def Vr (n:Nat)(a:Int):Option (Int) := (ZE n a 0 999999999).bind fun b=>some b
theorem G4 {n a r}(h:Vr n a=some r):Computes cx 115 [I a] (I r):=by unfold Vr at h;have⟨t1,h1,h⟩:=bo h;obtain rfl:=oi h;exact rf [.ret (I t1)] (Qa (WK h1) QL)
def Wp (n:Nat)(d:jVj)(a:(Int×jVj)):Option (Int×jVj⊕jVj) := if a.1<((d).length:Int) then(el Vt d a.1).bind fun b=>(Vr n b).bind fun c=>if Wa 8 ((a.2).length+1) then if Qh (a.1+1) then some (.inl ((a.1+1),(a.2++([I c]:jVj)))) else none else none else some (.inr a.2)
noncomputable def Xa (b:jVj):Lp (Int×jVj) (jVj):=⟨fun a=>[(1,.d (.fn (.func 115) [] [])),(5,.own 5 0),(8,.d (.lst false 1 b)),(9,.d (I ((b).length:Int))),(10,.d (I a.1))],fun a=>[(5,.row 0 1 a.2)],fun _=>(.exit 0),fun _=>[(5,.own 5 0)],fun e=>[(5,.row 0 1 e)]⟩
theorem G6 {n b}(c)(r)(h:Wp n b c=some r):Rl (ZJ cx.P 114 0) 22 0 false (Xa b) c r:=by
 unfold Wp at h;obtain⟨a,h⟩|⟨a,h⟩:=io h
 ·have⟨ta2,ha2,h⟩:=bo h;have⟨ta3,ha3,h⟩:=bo h;have⟨ha4,h⟩:=gd h;have⟨ha5,h⟩:=gd h;cases h;exact rn 6 [b1,.el (Q3 ta2),.ret (I ta3),b1] [] [1,5,8,9,10] [5] (Qa ha5 (Qa (ro 25 ha4) (Qa (G4 ha3) (allE Qi ha2 (Qa (jDj a) QL)))))
 cases h;exact rx 6 [b0] [] [5] [5] (Qa (jEj a) QL)
def ZU (n:Nat)(a:jVj):Option (jVj) := (Q2 (Wp n a) n (0,[])).bind fun b=>some b
theorem VT {n a r}(h:ZU n a=some r):Computes cx 114 [.lst false 1 a,.fn (.func 115) [] []] (.lst false 1 r):=by unfold ZU at h;have⟨t1,h1,h⟩:=bo h;obtain rfl:=oi h;exact rf [.lp [5,1] [1,5,8,9,10] [5] (.exit 0) [(5,.own 5 0)] [(5,.row 0 1 t1)] 30] (Qa (QH G6 h1) QL)
def VN (n:Nat)  : Option (Int) :=
 some 2
theorem Xu {n:Nat}  {r:Int}(h:VN n =some r):Computes cx 69 [B true,I 2] (I r):=by unfold VN at h;obtain rfl:=oi h;exact rf [.no] QL
def Uo (n:Nat)  : Option (Int) :=
 some 13
theorem ji {n:Nat}  {r:Int}(h:Uo n =some r):Computes cx 69 [B true,I 13] (I r):=by unfold Uo at h;obtain rfl:=oi h;exact rf [.no] QL
def WX (n:Nat)(q:Int)(r:jSj)(h i:jVj)(m:jSj):Option (Int) := if(VY (.string r) Wr).isSome=true then((VY (.string r) Wr).bind J8).bind fun j=>(ZE n q 1 1000).bind fun k=>(Up n).bind fun s=>if((h).length:Int)=(j.1.size:Int) then(Qm n (((i).length:Int) != j.2.1) 2).bind fun e=>(Qo n ([I k,I s,I e])).bind fun l=>if l=0 then(Wf n h).bind fun g=>(Qo n g).bind fun a=>(ZU n i).bind fun b=>(Qo n b).bind fun c=>(Qm n (!(m.toList==(⟨#[]⟩:jSj).toList)) 1).bind fun d=>(Qo n ([I a,I c,I d])).bind fun f=>some f else some l else(VN n).bind fun e=>(Qo n ([I k,I s,I e])).bind fun l=>if l=0 then(Wf n h).bind fun g=>(Qo n g).bind fun a=>(ZU n i).bind fun b=>(Qo n b).bind fun c=>(Qm n (!(m.toList==(⟨#[]⟩:jSj).toList)) 1).bind fun d=>(Qo n ([I a,I c,I d])).bind fun f=>some f else some l else(ZE n q 1 1000).bind fun j=>(Uo n).bind fun k=>if((h).length:Int)=0 then(Qm n (((i).length:Int) != 0) 2).bind fun o=>(Qo n ([I j,I k,I o])).bind fun e=>if e=0 then(Wf n h).bind fun p=>(Qo n p).bind fun g=>(ZU n i).bind fun a=>(Qo n a).bind fun b=>(Qm n (!(m.toList==(⟨#[]⟩:jSj).toList)) 1).bind fun c=>(Qo n ([I g,I b,I c])).bind fun d=>some d else some e else(VN n).bind fun o=>(Qo n ([I j,I k,I o])).bind fun e=>if e=0 then(Wf n h).bind fun p=>(Qo n p).bind fun g=>(ZU n i).bind fun a=>(Qo n a).bind fun b=>(Qm n (!(m.toList==(⟨#[]⟩:jSj).toList)) 1).bind fun c=>(Qo n ([I g,I b,I c])).bind fun d=>some d else some e
theorem Ja {n f e g i j r}(h:WX n f e g i j=some r):Computes cx 55 [.agg [I f,.v (.string e),.lst false 1 g,.lst false 1 i,.v (.string j)]] (I r):=by
 unfold WX at h;let o(l:jOj):=b1::(no 28 l);obtain⟨k,h⟩|⟨k,h⟩:=io h
 ·have⟨t2,h2,h⟩:=bo h;have⟨t3,h3,h⟩:=bo h;have⟨t4,d,h⟩:=bo h;have q:=Qa (jj d) (Qa (WK h3) (Qa ((QbG (by kernel_rfl) (Qdv yf h2)):Zi true (.string e) (.agg [.v (.string ⟨#[]⟩),I 0,.v (.nilFunc),.v (.nilFunc)]) Wr=some (.tup [.agg [.v (.string t2.1),I t2.2.1,.fn t2.2.2.1.1 t2.2.2.1.2.1 t2.2.2.1.2.2,.fn t2.2.2.2.1 t2.2.2.2.2.1 t2.2.2.2.2.2],B true])) QL));let o l:=o (.el (.tup [.agg [.v (.string t2.1),I t2.2.1,.fn t2.2.2.1.1 t2.2.2.1.2.1 t2.2.2.1.2.2,.fn t2.2.2.2.1 t2.2.2.2.2.1 t2.2.2.2.2.2],B true])::.ret (I t3)::.ret (I t4)::l);obtain⟨c,h⟩|⟨c,h⟩:=io h
  ·have⟨t6,h6,h⟩:=bo h;have⟨t7,a,h⟩:=bo h;have q:=Qa (((Qx a).le (.cons (.full _ _ _) (.nil)) (.refl _)):Computes cx 67 [.lst true 1 [I t3,I t4,I t6]] (I t7)) (Qa (Qu h6) (Qa (nef c) q));let o l:=o (b0::.ret (I t6)::.ret (I t7)::l);obtain⟨b,h⟩|⟨b,h⟩:=io h
   ·have⟨t9,h9,h⟩:=bo h;have⟨t10,h10,h⟩:=bo h;have⟨t11,h11,h⟩:=bo h;have⟨t12,h12,h⟩:=bo h;have⟨t13,h13,h⟩:=bo h;have⟨t14,h14,h⟩:=bo h;obtain rfl:=oi h;exact rf (o [b0,.ret (.lst false 1 t9),.ret (I t10),.ret (.lst false 1 t11),.ret (I t12),.ret (I t13),.ret (I t14)]) (Qa (((Qx h14).le (.cons (.full _ _ _) (.nil)) (.refl _)):Computes cx 67 [.lst true 1 [I t10,I t12,I t13]] (I t14)) (Qa (Qu h13) (Qa (Qx h12) (Qa (VT h11) (Qa (Qx h10) (Qa (Yp h9) (Qa (nef b) q)))))))
   obtain rfl:=oi h;exact rf (o [b1]) (Qa (net b) q)
  have⟨t6,h6,h⟩:=bo h;have⟨t7,a,h⟩:=bo h;have q:=Qa (((Qx a).le (.cons (.full _ _ _) (.nil)) (.refl _)):Computes cx 67 [.lst true 1 [I t3,I t4,I t6]] (I t7)) (Qa (Xu h6) (Qa (net c) q));let o l:=o (b1::.ret (I t6)::.ret (I t7)::l);obtain⟨b,h⟩|⟨b,h⟩:=io h
  ·have⟨t9,h9,h⟩:=bo h;have⟨t10,h10,h⟩:=bo h;have⟨t11,h11,h⟩:=bo h;have⟨t12,h12,h⟩:=bo h;have⟨t13,h13,h⟩:=bo h;have⟨t14,h14,h⟩:=bo h;obtain rfl:=oi h;exact rf (o [b0,.ret (.lst false 1 t9),.ret (I t10),.ret (.lst false 1 t11),.ret (I t12),.ret (I t13),.ret (I t14)]) (Qa (((Qx h14).le (.cons (.full _ _ _) (.nil)) (.refl _)):Computes cx 67 [.lst true 1 [I t10,I t12,I t13]] (I t14)) (Qa (Qu h13) (Qa (Qx h12) (Qa (VT h11) (Qa (Qx h10) (Qa (Yp h9) (Qa (nef b) q)))))))
  obtain rfl:=oi h;exact rf (o [b1]) (Qa (net b) q)
 have⟨t2,h2,h⟩:=bo h;have⟨t3,h3,h⟩:=bo h;have q:=Qa (ji h3) (Qa (WK h2) (Qa ((QaB (by kernel_rfl) (mno k)):Zi true (.string e) (.agg [.v (.string ⟨#[]⟩),I 0,.v (.nilFunc),.v (.nilFunc)]) Wr=some (.tup [.agg [.v (.string ⟨#[]⟩),I 0,.v (.nilFunc),.v (.nilFunc)],B false])) QL));let o l:=o (.el (.tup [.agg [.v (.string ⟨#[]⟩),I 0,.v (.nilFunc),.v (.nilFunc)],B false])::.ret (I t2)::.ret (I t3)::l);obtain⟨d,h⟩|⟨d,h⟩:=io h
 ·have⟨t5,c,h⟩:=bo h;have⟨t6,h6,h⟩:=bo h;have q:=Qa (((Qx h6).le (.cons (.full _ _ _) (.nil)) (.refl _)):Computes cx 67 [.lst true 1 [I t2,I t3,I t5]] (I t6)) (Qa (Qu c) (Qa (nef d) q));let o l:=o (b0::.ret (I t5)::.ret (I t6)::l);obtain⟨a,h⟩|⟨a,h⟩:=io h
  ·have⟨t8,b,h⟩:=bo h;have⟨t9,h9,h⟩:=bo h;have⟨t10,h10,h⟩:=bo h;have⟨t11,h11,h⟩:=bo h;have⟨t12,h12,h⟩:=bo h;have⟨t13,h13,h⟩:=bo h;obtain rfl:=oi h;exact rf (o [b0,.ret (.lst false 1 t8),.ret (I t9),.ret (.lst false 1 t10),.ret (I t11),.ret (I t12),.ret (I t13)]) (Qa (((Qx h13).le (.cons (.full _ _ _) (.nil)) (.refl _)):Computes cx 67 [.lst true 1 [I t9,I t11,I t12]] (I t13)) (Qa (Qu h12) (Qa (Qx h11) (Qa (VT h10) (Qa (Qx h9) (Qa (Yp b) (Qa (nef a) q)))))))
  obtain rfl:=oi h;exact rf (o [b1]) (Qa (net a) q)
 have⟨t5,c,h⟩:=bo h;have⟨t6,h6,h⟩:=bo h;have q:=Qa (((Qx h6).le (.cons (.full _ _ _) (.nil)) (.refl _)):Computes cx 67 [.lst true 1 [I t2,I t3,I t5]] (I t6)) (Qa (Xu c) (Qa (net d) q));let o l:=o (b1::.ret (I t5)::.ret (I t6)::l);obtain⟨a,h⟩|⟨a,h⟩:=io h
 ·have⟨t8,b,h⟩:=bo h;have⟨t9,h9,h⟩:=bo h;have⟨t10,h10,h⟩:=bo h;have⟨t11,h11,h⟩:=bo h;have⟨t12,h12,h⟩:=bo h;have⟨t13,h13,h⟩:=bo h;obtain rfl:=oi h;exact rf (o [b0,.ret (.lst false 1 t8),.ret (I t9),.ret (.lst false 1 t10),.ret (I t11),.ret (I t12),.ret (I t13)]) (Qa (((Qx h13).le (.cons (.full _ _ _) (.nil)) (.refl _)):Computes cx 67 [.lst true 1 [I t9,I t11,I t12]] (I t13)) (Qa (Qu h12) (Qa (Qx h11) (Qa (VT h10) (Qa (Qx h9) (Qa (Yp b) (Qa (nef a) q)))))))
 obtain rfl:=oi h;exact rf (o [b1]) (Qa (net a) q)
def Un (n:Nat)  : Option (Int) :=
 some 21
theorem jh {n:Nat}  {r:Int}(h:Un n =some r):Computes cx 69 [B true,I 21] (I r):=by unfold Un at h;obtain rfl:=oi h;exact rf [.no] QL
theorem mk1 (c:jSj)(r:D){k:jSj}{l:List UInt8}(h:k.data.toList=l)(hc:c.data.toList=l:=by rfl)(a:Zi false (.string c) (.agg [.v (.string ⟨#[]⟩),I 0,.v (.nilFunc),.v (.nilFunc)]) Wr=some r:=by kernel_rfl):Zi false (.string k) (.agg [.v (.string ⟨#[]⟩),I 0,.v (.nilFunc),.v (.nilFunc)]) Wr=some r:=QO h hc a
def QB (x:jSj×jSj×Int×Int×Bool×Bool):D:=.agg [.v (.string x.1),.v (.string x.2.1),I x.2.2.1,I x.2.2.2.1,B x.2.2.2.2.1,B x.2.2.2.2.2]
def QM:D->Option (jSj×jSj×Int×Int×Bool×Bool)
 | .agg [c0,c1,c2,c3,c4,c5]=>(JR c0).bind fun a=>(JR c1).bind fun b=>(Ya .i64 c2).bind fun c=>(Ya .i64 c3).bind fun d=>(Gw c4).bind fun e=>(Gw c5).bind fun f=>some (a,b,c,d,e,f)
 | _=>none
theorem Qq {d:D}{x:jSj×jSj×Int×Int×Bool×Bool}(h:QM d=some x):d=QB x:=by
 unfold QM at h;split at h;case h_2=>cases h
 obtain⟨o,i,h⟩:=ZX h;obtain⟨p,j,h⟩:=ZX h;obtain⟨q,k,h⟩:=ZX h;obtain⟨r,l,h⟩:=ZX h;obtain⟨s,m,h⟩:=ZX h;obtain⟨t,n,h⟩:=ZX h;cases h;have a:=YU i;have b:=YU j;have c:=WS k;have e:=WS l;have f:=KG m;have g:=KG n;rw[a,b,c,e,f,g];rfl
def Z0 (n:Nat)(f g:jVj)(h d:Int)(i j:Bool)(k l m:Int)(o c e:jVj)(b:(Int×Int)):Option (Int×Int⊕Int) := if b.1<((c).length:Int) then if 0<=b.1/\b.1<((c).length:Int) then((nth (c) (Int.toNat b.1)).bind QM).bind fun a=>if a.2.2.2.2.2=true then if Qh (1000 - a.2.2.2.1) then if Qh (a.2.2.1*(1000 - a.2.2.2.1)) then if Qh ((a.2.2.1*(1000 - a.2.2.2.1))*d) then if Qh (b.2+((a.2.2.1*(1000 - a.2.2.2.1))*d)) then if Qh (b.1+1) then some (.inl ((b.1+1),(b.2+((a.2.2.1*(1000 - a.2.2.2.1))*d)))) else none else none else none else none else none else if Qh (b.1+1) then some (.inl ((b.1+1),b.2)) else none else none else some (.inr b.2)
noncomputable def J5 (f g:jVj)(h i:Int)(j k:Bool)(l m n:Int)(o a b:jVj):Lp (Int×Int) (Int):=⟨fun c=>[(0,.own 23 0),(8,.own 11 0),(9,.d (I ((a).length:Int))),(10,.d (I c.1))],fun c=>[(0,.box (.agg [.own 1 0,.own 2 0,.d (I h),.d (I i),.d (B j),.d (B k),.d (I l),.d (I m),.d (I n),.own 10 0,.own 11 0,.own 12 0])),(1,.row 0 5 f),(2,.row 0 5 g),(10,.row 0 1 o),(11,.row 0 6 a),(12,.row 0 7 b),(13,.box (.ptr 0 0 0 0 2)),(15,.box (.d (I c.2))),(19,.box (.ptr 0 0 0 0 2)),(23,.loop true [(6,.fn (.func 118) [] [.ptr 19 0 0 0 0]),(5,.ptr 0 0 0 0 2),(3,.ptr 15 0 0 0 0),(2,.d (I 0)),(1,.ptr 13 0 0 0 0),(0,.ptr 0 0 0 0 2)] [7] (ZY cx.P 62 0).1 (ZY cx.P 62 0).2 22)],fun _=>(.exit 0),fun _=>[],fun e=>[(0,.box (.agg [.own 1 0,.own 2 0,.d (I h),.d (I i),.d (B j),.d (B k),.d (I l),.d (I m),.d (I n),.own 10 0,.own 11 0,.own 12 0])),(1,.row 0 5 f),(2,.row 0 5 g),(10,.row 0 1 o),(11,.row 0 6 a),(12,.row 0 7 b),(13,.box (.ptr 0 0 0 0 2)),(15,.box (.d (I e))),(19,.box (.ptr 0 0 0 0 2)),(23,.loop true [(6,.fn (.func 118) [] [.ptr 19 0 0 0 0]),(5,.ptr 0 0 0 0 2),(3,.ptr 15 0 0 0 0),(2,.d (I 0)),(1,.ptr 13 0 0 0 0),(0,.ptr 0 0 0 0 2)] [7] (ZY cx.P 62 0).1 (ZY cx.P 62 0).2 22)]⟩
theorem J3 {n e f g i j k m p s t c d}(u)(r)(h:Z0 n e f g i j k m p s t c d u=some r):Rl (ZJ cx.P 118 0) 23 24 false (J5 e f g i j k m p s t c d) u r:=by
 unfold Z0 at h;obtain⟨a,h⟩|⟨a,h⟩:=io h
 ·have⟨ha2,h⟩:=gd h;have⟨ta3,ha3,h⟩:=bo h;have q:=Qa (QX Qq ha3) (Qa ha2 (Qa (jDj a) QL));let o(l:jOj):=b1::b1::.el (QB ta3)::l;obtain⟨b,h⟩|⟨b,h⟩:=io h
  ·have⟨ha5,h⟩:=gd h;have⟨ha6,h⟩:=gd h;have⟨ha7,h⟩:=gd h;have⟨ha8,h⟩:=gd h;have⟨ha9,h⟩:=gd h;cases h;exact rn 30 (o [b1,.no]) [] [0,8,9,10] [0,1,2,10,11,12,13,15,19,23] (Qa ha9 (Qa ha8 (Qa ha7 (Qa ha6 (Qa ha5 (Qa b q))))))
  have⟨ha5,h⟩:=gd h;cases h;exact rn 30 (o [b0,.no]) [] [0,8,9,10] [0,1,2,10,11,12,13,15,19,23] (Qa ha5 (Qa (QA b) q))
 cases h;exact rx 30 [b0] [] [] [0,1,2,10,11,12,13,15,19,23] (Qa (jEj a) QL)
def Wq (n:Nat)(c d:jVj)(e f:Int)(g h:Bool)(i j k:Int)(l a b:jVj):Option (Int) := (Q2 (Z0 n c d e f g h i j k l a b) n (0,0)).bind fun m=>some m
theorem Ut {n c e f g i j k l m o a b r}(h:Wq n c e f g i j k l m o a b=some r):ComputesO cx 62 [.ptr 0 0 0 0 2] (some (Qb c e f g i j k l m o a b)) (.d (I r)) (Qb c e f g i j k l m o a b) ZV:=by unfold Wq at h;have⟨t1,h1,h⟩:=bo h;obtain rfl:=oi h;exact rfO 0 [b1,.lp [] [0,8,9,10] [0,1,2,10,11,12,13,15,19,23] (.exit 0) [] [(0,.box (.agg [.own 1 0,.own 2 0,.d (I f),.d (I g),.d (B i),.d (B j),.d (I k),.d (I l),.d (I m),.own 10 0,.own 11 0,.own 12 0])),(1,.row 0 5 c),(2,.row 0 5 e),(10,.row 0 1 o),(11,.row 0 6 a),(12,.row 0 7 b),(13,.box (.ptr 0 0 0 0 2)),(15,.box (.d (I t1))),(19,.box (.ptr 0 0 0 0 2)),(23,.loop true [(6,.fn (.func 118) [] [.ptr 19 0 0 0 0]),(5,.ptr 0 0 0 0 2),(3,.ptr 15 0 0 0 0),(2,.d (I 0)),(1,.ptr 13 0 0 0 0),(0,.ptr 0 0 0 0 2)] [7] (ZY cx.P 62 0).1 (ZY cx.P 62 0).2 22)] 72] (Qa (QH J3 h1) QL)
def Q8 (n:Nat)(b:Int)(i j:jVj)(a k:Int)(l m:Bool)(g h o:Int)(d e f:jVj):Option (Int×Int) := (Wq n i j a k l m g h o d e f).bind fun c=>if Qh (b - a) then if Qh (c*(b - a)) then if Qh (g+(c*(b - a))) then if Qh (h+(c*(b - a))) then some ((g+(c*(b - a))),(h+(c*(b - a)))) else none else none else none else none
theorem WA {n p e f g i j k l m o a b c r}(h:Q8 n p e f g i j k l m o a b c=some r):ComputesO cx 71 [.ptr 0 0 0 0 2,.d (I p)] (some (Qb e f g i j k l m o a b c)) (.d (.agg [I r.1,I r.2])) (Qb e f g i j k l m o a b c) ZV:=by unfold Q8 at h;have⟨t1,h1,h⟩:=bo h;have⟨h2,h⟩:=gd h;have⟨h3,h⟩:=gd h;have⟨h4,h⟩:=gd h;have⟨h5,h⟩:=gd h;cases h;exact rfO 0 [.obj (some 0) (.d (I t1)) (Qb e f g i j k l m o a b c) ZV] (Qa h5 (Qa h4 (Qa h3 (Qa h2 (Qa (Ut h1) QL)))))
def Qp (n:Nat)(e:Int)(f g:jVj)(h i:Int)(j k:Bool)(l m o:Int)(b c d:jVj):Option (Int) := (Q8 n e f g h i j k l m o b c d).bind fun a=>(Qm n (!((a.1==(minI a.1 1000000000000000))&&((a.2==(minI a.2 1000000000000000))&&true))) 4).bind fun p=>some p
theorem Qv {n p e f g i j k l m o a b c r}(h:Qp n p e f g i j k l m o a b c=some r):ComputesO cx 70 [.ptr 0 0 0 0 2,.d (I p)] (some (Qb e f g i j k l m o a b c)) (.d (I r)) (Qb e f g i j k l m o a b c) ZV:=by unfold Qp at h;have⟨t1,h1,h⟩:=bo h;have⟨t2,h2,h⟩:=bo h;obtain rfl:=oi h;exact rfO 0 [.obj (some 0) (.d (.agg [I t1.1,I t1.2])) (Qb e f g i j k l m o a b c) ZV,.ret (I t2)] (Qa (Qu h2) (Qa (WA h1) QL))
def Wj (n:Nat)(c:jVj)(d:jSj)(a:Int):Option (Int⊕Int⊕Unit) := if a<((c).length:Int) then(el Ww c a).bind fun b=>if(d.toList==b.toList)=true then some (.inr (.inl a)) else if Qh (a+1) then some (.inl (a+1)) else none else some (.inr (.inr ()))
noncomputable def X3 (a:jVj)(b:jSj):Lp (Int) (Int⊕Unit):=⟨fun c=>[(0,.d (.lst false 1 a)),(1,.d (.v (.string b))),(7,.d (I ((a).length:Int))),(8,.d (I c))],fun _=>[],fun
 | (.inl e)=>.ret
 | (.inr e)=>(.exit 0),fun
 | (.inl e)=>[(4,.d (I e))]
 | (.inr e)=>[],fun _=>[]⟩
theorem Kh {n c d}(e)(r)(h:Wj n c d e=some r):Rl (ZJ cx.P 122 0) 19 0 false (X3 c d) e r:=by
 unfold Wj at h;obtain⟨a,h⟩|⟨a,h⟩:=io h
 ·have⟨ta2,ha2,h⟩:=bo h;have q:=allE Qr ha2 (Qa (jDj a) QL);obtain⟨b,h⟩|⟨b,h⟩:=io h
  ·cases h;exact rx 4 [b1,.el (Zy ta2),b1] [] [4] [] (Qa b q)
  have⟨ha4,h⟩:=gd h;cases h;exact rn 4 [b1,.el (Zy ta2),b0] [] [0,1,7,8] [] (Qa ha4 (Qa (QA b) q))
 cases h;exact rx 4 [b0] [] [] [] (Qa (jEj a) QL)
def QE (n:Nat)(b:jVj)(c:jSj):Option (Int) := (Q2 (Wj n b c) n 0).bind fun a=>match a with|.inl a=>(some a)|.inr a=>(some (-1))
theorem QK {n b c r}(h:QE n b c=some r):Computes cx 122 [.lst false 1 b,.v (.string c)] (I r):=by
 unfold QE at h;have⟨a,h1,h⟩:=bo h;obtain a|a:=a
 ·obtain rfl:=oi h;exact rf [.lp [] [0,1,7,8] [] .ret [(4,.d (I a))] [] 26] (Qa (QH Kh h1) QL)
 cases h;exact rf [.lp [] [0,1,7,8] [] (.exit 0) [] [] 26] (Qa (QH Kh h1) QL)
def Zb (n:Nat)(a:jVj)(b:jSj):Option (Bool) := (QE n a b).bind fun c=>some (decide (c>=0))
theorem Z2 {n a b r}(h:Zb n a b=some r):Computes cx 120 [.lst false 1 a,.v (.string b)] (B r):=by unfold Zb at h;have⟨t1,h1,h⟩:=bo h;cases h;exact rf [.ret (I t1)] (Qa (QK h1) QL)
def ZN (n:Nat)(a b:jSj)(c d:Int)(e f:Bool):Option (jSj) := some a
theorem Yw {n a b c d e f r}(h:ZN n a b c d e f=some r):Computes cx 203 [.agg [.v (.string a),.v (.string b),I c,I d,B e,B f]] (.v (.string r)):=by unfold ZN at h;obtain rfl:=oi h;exact rf [] QL
def Q7 (x:jSj×Int×Int×Int×Int×Int×Bool):D:=.agg [.v (.string x.1),I x.2.1,I x.2.2.1,I x.2.2.2.1,I x.2.2.2.2.1,I x.2.2.2.2.2.1,B x.2.2.2.2.2.2]
def Z6:D->Option (jSj×Int×Int×Int×Int×Int×Bool)
 | .agg [c0,c1,c2,c3,c4,c5,c6]=>(JR c0).bind fun a=>(Ya .i64 c1).bind fun b=>(Ya .i64 c2).bind fun c=>(Ya .i64 c3).bind fun d=>(Ya .i64 c4).bind fun e=>(Ya .i64 c5).bind fun f=>(Gw c6).bind fun g=>some (a,b,c,d,e,f,g)
 | _=>none
theorem Q0 {d:D}{x:jSj×Int×Int×Int×Int×Int×Bool}(h:Z6 d=some x):d=Q7 x:=by
 unfold Z6 at h;split at h;case h_2=>cases h
 obtain⟨q,j,h⟩:=ZX h;obtain⟨r,k,h⟩:=ZX h;obtain⟨s,l,h⟩:=ZX h;obtain⟨t,m,h⟩:=ZX h;obtain⟨u,n,h⟩:=ZX h;obtain⟨v,o,h⟩:=ZX h;obtain⟨w,p,h⟩:=ZX h;cases h;have a:=YU j;have b:=WS k;have c:=WS l;have e:=WS m;have f:=WS n;have g:=WS o;have i:=KG p;rw[a,b,c,e,f,g,i];rfl
def ZM (n:Nat)(a:jSj)(b c d e f:Int)(g:Bool):Option (jSj) := some a
theorem Yv {n a b c d e f g r}(h:ZM n a b c d e f g=some r):Computes cx 205 [.agg [.v (.string a),I b,I c,I d,I e,I f,B g]] (.v (.string r)):=by unfold ZM at h;obtain rfl:=oi h;exact rf [] QL
def ZP (n:Nat)(g h:jVj)(i j:Int)(k l:Bool)(m o p:Int)(e c f:jVj)(b:(Int×jVj)):Option (Int×jVj⊕jVj) := if b.1<((c).length:Int) then if 0<=b.1/\b.1<((c).length:Int) then((nth (c) (Int.toNat b.1)).bind QM).bind fun a=>(ZN n a.1 a.2.1 a.2.2.1 a.2.2.2.1 a.2.2.2.2.1 a.2.2.2.2.2).bind fun d=>if Wa 16 ((b.2).length+1) then if Qh (b.1+1) then some (.inl ((b.1+1),(b.2++([.v (.string d)]:jVj)))) else none else none else none else some (.inr b.2)
noncomputable def Jr (g h:jVj)(i j:Int)(k l:Bool)(m n o:Int)(b a c:jVj):Lp (Int×jVj) (jVj):=⟨fun f=>[(1,.d (.fn (.func 203) [] [])),(5,.own 30 0),(8,.own 11 0),(9,.d (I ((a).length:Int))),(10,.d (I f.1))],fun f=>[(0,.box (.agg [.own 1 0,.own 2 0,.d (I i),.d (I j),.d (B k),.d (B l),.d (I m),.d (I n),.d (I o),.own 10 0,.own 11 0,.own 12 0])),(1,.row 0 5 g),(2,.row 0 5 h),(10,.row 0 1 b),(11,.row 0 6 a),(12,.row 0 7 c),(30,.row 0 1 f.2)],fun _=>(.exit 0),fun _=>[(5,.own 30 0)],fun e=>[(0,.box (.agg [.own 1 0,.own 2 0,.d (I i),.d (I j),.d (B k),.d (B l),.d (I m),.d (I n),.d (I o),.own 10 0,.own 11 0,.own 12 0])),(1,.row 0 5 g),(2,.row 0 5 h),(10,.row 0 1 b),(11,.row 0 6 a),(12,.row 0 7 c),(30,.row 0 1 e)]⟩
theorem Jo {n e f g i j k l m o b c d}(p)(r)(h:ZP n e f g i j k l m o b c d p=some r):Rl (ZJ cx.P 63 0) 22 25 false (Jr e f g i j k l m o b c d) p r:=by
 unfold ZP at h;obtain⟨a,h⟩|⟨a,h⟩:=io h
 ·have⟨ha2,h⟩:=gd h;have⟨ta3,ha3,h⟩:=bo h;have⟨ta4,ha4,h⟩:=bo h;have⟨ha5,h⟩:=gd h;have⟨ha6,h⟩:=gd h;cases h;exact rn 31 [b1,b1,.el (QB ta3),.ret (.v (.string ta4)),b1] [] [1,5,8,9,10] [0,1,2,10,11,12,30] (Qa ha6 (Qa (ro 9 ha5) (Qa (Yw ha4) (Qa (QX Qq ha3) (Qa ha2 (Qa (jDj a) QL))))))
 cases h;exact rx 31 [b0] [] [5] [0,1,2,10,11,12,30] (Qa (jEj a) QL)
def ZO (n:Nat)(g h:jVj)(i j:Int)(k l:Bool)(m o p:Int)(e f c:jVj)(b:(Int×jVj)):Option (Int×jVj⊕jVj) := if b.1<((c).length:Int) then if 0<=b.1/\b.1<((c).length:Int) then((nth (c) (Int.toNat b.1)).bind Z6).bind fun a=>(ZM n a.1 a.2.1 a.2.2.1 a.2.2.2.1 a.2.2.2.2.1 a.2.2.2.2.2.1 a.2.2.2.2.2.2).bind fun d=>if Wa 16 ((b.2).length+1) then if Qh (b.1+1) then some (.inl ((b.1+1),(b.2++([.v (.string d)]:jVj)))) else none else none else none else some (.inr b.2)
noncomputable def Jq (g h:jVj)(i j:Int)(k l:Bool)(m n o:Int)(b c a:jVj):Lp (Int×jVj) (jVj):=⟨fun f=>[(1,.d (.fn (.func 205) [] [])),(5,.own 30 0),(8,.own 12 0),(9,.d (I ((a).length:Int))),(10,.d (I f.1))],fun f=>[(0,.box (.agg [.own 1 0,.own 2 0,.d (I i),.d (I j),.d (B k),.d (B l),.d (I m),.d (I n),.d (I o),.own 10 0,.own 11 0,.own 12 0])),(1,.row 0 5 g),(2,.row 0 5 h),(10,.row 0 1 b),(11,.row 0 6 c),(12,.row 0 7 a),(30,.row 0 1 f.2)],fun _=>(.exit 0),fun _=>[(5,.own 30 0)],fun e=>[(0,.box (.agg [.own 1 0,.own 2 0,.d (I i),.d (I j),.d (B k),.d (B l),.d (I m),.d (I n),.d (I o),.own 10 0,.own 11 0,.own 12 0])),(1,.row 0 5 g),(2,.row 0 5 h),(10,.row 0 1 b),(11,.row 0 6 c),(12,.row 0 7 a),(30,.row 0 1 e)]⟩
theorem Jn {n e f g i j k l m o b c d}(p)(r)(h:ZO n e f g i j k l m o b c d p=some r):Rl (ZJ cx.P 204 0) 22 25 false (Jq e f g i j k l m o b c d) p r:=by
 unfold ZO at h;obtain⟨a,h⟩|⟨a,h⟩:=io h
 ·have⟨ha2,h⟩:=gd h;have⟨ta3,ha3,h⟩:=bo h;have⟨ta4,ha4,h⟩:=bo h;have⟨ha5,h⟩:=gd h;have⟨ha6,h⟩:=gd h;cases h;exact rn 31 [b1,b1,.el (Q7 ta3),.ret (.v (.string ta4)),b1] [] [1,5,8,9,10] [0,1,2,10,11,12,30] (Qa ha6 (Qa (ro 9 ha5) (Qa (Yv ha4) (Qa (QX Q0 ha3) (Qa ha2 (Qa (jDj a) QL))))))
 cases h;exact rx 31 [b0] [] [5] [0,1,2,10,11,12,30] (Qa (jEj a) QL)
def Qw (n:Nat)(e:Int)(f g:jVj)(h i:Int)(j k:Bool)(l m o:Int)(a b c:jVj):Option (jVj) := if e=115 then none else if e=109 then(Q2 (ZP n f g h i j k l m o a b c) n (0,[])).bind fun d=>some d else(Q2 (ZO n f g h i j k l m o a b c) n (0,[])).bind fun d=>some d
theorem QC {n s e f g i j k l m o a b c r}(h:Qw n s e f g i j k l m o a b c=some r):ComputesO cx 121 [.ptr 0 0 0 0 2,.d (.v (.int .u8 s))] (some (Qb e f g i j k l m o a b c)) (.d (.lst false 1 r)) (Qb e f g i j k l m o a b c) ZV:=by
 unfold Qw at h;obtain⟨t,h⟩|⟨t,h⟩:=io h
 ·cases h
 have q:=Qa (eqf t) QL;obtain⟨p,h⟩|⟨p,h⟩:=io h
 ·have⟨t3,h3,h⟩:=bo h;obtain rfl:=oi h;exact rfO 0 [b0,b1,b1,.lp [5,1] [1,5,8,9,10] [0,1,2,10,11,12,30] (.exit 0) [(5,.own 30 0)] [(0,.box (.agg [.own 1 0,.own 2 0,.d (I g),.d (I i),.d (B j),.d (B k),.d (I l),.d (I m),.d (I o),.own 10 0,.own 11 0,.own 12 0])),(1,.row 0 5 e),(2,.row 0 5 f),(10,.row 0 1 a),(11,.row 0 6 b),(12,.row 0 7 c),(30,.row 0 1 t3)] 56] (Qa (QH Jo h3) (Qa (eqt p) q))
 have⟨t3,h3,h⟩:=bo h;obtain rfl:=oi h;exact rfO 0 [b0,b0,b1,.lp [5,1] [1,5,8,9,10] [0,1,2,10,11,12,30] (.exit 0) [(5,.own 30 0)] [(0,.box (.agg [.own 1 0,.own 2 0,.d (I g),.d (I i),.d (B j),.d (B k),.d (I l),.d (I m),.d (I o),.own 10 0,.own 11 0,.own 12 0])),(1,.row 0 5 e),(2,.row 0 5 f),(10,.row 0 1 a),(11,.row 0 6 b),(12,.row 0 7 c),(30,.row 0 1 t3)] 56] (Qa (QH Jn h3) (Qa (eqf p) q))
def Qg (n:Nat)(s:jSj)(u:Int)(v w:FnD)(x:Int)(y:jSj)(r z:jVj)(A:jSj)(t g:jVj)(h i:Int)(j k:Bool)(l m o:Int)(e p q:jVj)(a:(Bool×Int)):Option (Bool×Int⊕Unit⊕Bool) := if a.2<(s.size:Int) then(WQ s a.2).bind fun d=>if d<97 then if(IntKind.wrap .u8 (d+32))=115 then(el Ww r a.2).bind fun b=>(Zb n e b).bind fun c=>if a.1=true then if Qh (a.2+1) then some (.inl (true,(a.2+1))) else none else if Qh (a.2+1) then some (.inl (c,(a.2+1))) else none else(Qw n (IntKind.wrap .u8 (d+32)) t g h i j k l m o e p q).bind fun b=>(el Ww r a.2).bind fun c=>(Zb n b c).bind fun f=>if a.1=true then if Qh (a.2+1) then some (.inl (true,(a.2+1))) else none else if Qh (a.2+1) then some (.inl (f,(a.2+1))) else none else if d=115 then(el Ww r a.2).bind fun b=>(Zb n e b).bind fun c=>if c=true then if a.1=true then if Qh (a.2+1) then some (.inl (true,(a.2+1))) else none else if Qh (a.2+1) then some (.inl (false,(a.2+1))) else none else some (.inr (.inl ())) else(Qw n d t g h i j k l m o e p q).bind fun b=>(el Ww r a.2).bind fun c=>(Zb n b c).bind fun f=>if f=true then if a.1=true then if Qh (a.2+1) then some (.inl (true,(a.2+1))) else none else if Qh (a.2+1) then some (.inl (false,(a.2+1))) else none else some (.inr (.inl ())) else some (.inr (.inr a.1))
noncomputable def Js (p:jSj)(s:Int)(n o:FnD)(t:Int)(u:jSj)(w x:jVj)(y:jSj)(q a:jVj)(b c:Int)(f g:Bool)(h i j:Int)(k l m:jVj):Lp (Bool×Int) (Unit⊕Bool):=⟨fun r=>[(0,.ptr 0 0 0 0 2),(4,.ptr 13 0 0 0 0),(5,.ptr 14 0 0 0 0),(7,.d (B r.1)),(14,.d (I (p.size:Int))),(15,.d (I r.2))],fun _=>[(0,.box (.agg [.own 1 0,.own 2 0,.d (I b),.d (I c),.d (B f),.d (B g),.d (I h),.d (I i),.d (I j),.own 10 0,.own 11 0,.own 12 0])),(1,.row 0 5 q),(2,.row 0 5 a),(10,.row 0 1 k),(11,.row 0 6 l),(12,.row 0 7 m),(13,.box (.d (.agg [.v (.string p),I s,.fn n.1 n.2.1 n.2.2,.fn o.1 o.2.1 o.2.2]))),(14,.box (.d (.agg [I t,.v (.string u),.lst false 1 w,.lst false 1 x,.v (.string y)])))],fun
 | (.inl e)=>.ret
 | (.inr e)=>(.exit 0),fun
 | (.inl e)=>[(6,.d (I 10))]
 | (.inr e)=>[(7,.d (B e))],fun _=>[(0,.box (.agg [.own 1 0,.own 2 0,.d (I b),.d (I c),.d (B f),.d (B g),.d (I h),.d (I i),.d (I j),.own 10 0,.own 11 0,.own 12 0])),(1,.row 0 5 q),(2,.row 0 5 a),(10,.row 0 1 k),(11,.row 0 6 l),(12,.row 0 7 m)]⟩
theorem Yx {n A F G H J K L M N z g i j k m p s t u w x}(E)(r)(h:Qg n A F G H J K L M N z g i j k m p s t u w x E=some r):Rl (ZJ cx.P 123 0) 52 13 false (Js A F G H J K L M N z g i j k m p s t u w x) E r:=by
 unfold Qg at h;obtain⟨y,h⟩|⟨y,h⟩:=io h
 ·have⟨ta2,C,h⟩:=bo h;have q:=Qa (Zq C:QV cx.P (Instr.index 9 (.string A) (.int .i64 E.2))=some (.int .u8 ta2)) (Qa (jDj y) QL);let o(l:jOj):=b1::.el (.v (.int .u8 ta2))::l;obtain⟨b,h⟩|⟨b,h⟩:=io h
  ·have q:=Qa (jDj b) q;obtain⟨f,h⟩|⟨f,h⟩:=io h
   ·have⟨ta5,ha5,h⟩:=bo h;have⟨ta6,ha6,h⟩:=bo h;have q:=Qa (Ud (jDj b)) (Qa (Z2 ha6) (allE Qr ha5 (Qa (eqt f) q)));let o l:=o (b1::.ix (-9)::b1::b1::.el (Zy ta5)::.ix 0::.ret (B ta6)::b0::.no::l);obtain⟨c,h⟩|⟨c,h⟩:=io h
    ·have⟨a,h⟩:=gd h;cases h;exact rn 21 (o [b1]) [] [0,4,5,7,14,15] [0,1,2,10,11,12,13,14] (Qa a (Qa c q))
    have⟨a,h⟩:=gd h;cases h;exact rn 21 (o [b0,b1]) [] [0,4,5,7,14,15] [0,1,2,10,11,12,13,14] (Qa a (Qa (jDj b) (Qa (QA c) q)))
   have⟨ta5,ha5,h⟩:=bo h;have⟨ta6,ha6,h⟩:=bo h;have⟨ta7,c,h⟩:=bo h;have q:=Qa (Ud (jDj b)) (Qa (Z2 c) (allE Qr ha6 (Qa (QC ha5) q)));let o l:=o (b1::.obj (some 0) (.d (.lst false 1 ta5)) (Qb z g i j k m p s t u w x) ZV::.el (Zy ta6)::.ret (B ta7)::b0::.no::l);obtain⟨a,h⟩|⟨a,h⟩:=io h
   ·have⟨e,h⟩:=gd h;cases h;exact rn 21 (o [b1]) [] [0,4,5,7,14,15] [0,1,2,10,11,12,13,14] (Qa e (Qa a q))
   have⟨e,h⟩:=gd h;cases h;exact rn 21 (o [b0,b1]) [] [0,4,5,7,14,15] [0,1,2,10,11,12,13,14] (Qa e (Qa (jDj b) (Qa (QA a) q)))
  have q:=Qa (jEj b) q;let o l:=o (b0::l);obtain⟨f,h⟩|⟨f,h⟩:=io h
  ·have⟨ta5,ha5,h⟩:=bo h;have⟨ta6,ha6,h⟩:=bo h;have q:=Qa (Uc (jEj b)) (Qa (Z2 ha6) (allE Qr ha5 (Qa (eqt f) q)));let o l:=o (.ix (-9)::b1::b1::.el (Zy ta5)::.ix 0::.ret (B ta6)::b1::l);obtain⟨c,h⟩|⟨c,h⟩:=io h
   ·have q:=Qa (Ud c) q;obtain⟨a,h⟩|⟨a,h⟩:=io h
    ·have⟨e,h⟩:=gd h;cases h;exact rn 21 (o [b0,b1]) [] [0,4,5,7,14,15] [0,1,2,10,11,12,13,14] (Qa e (Qa a q))
    have⟨e,h⟩:=gd h;cases h;exact rn 21 (o [b0,b0,b0]) [] [0,4,5,7,14,15] [0,1,2,10,11,12,13,14] (Qa e (Qa (jEj b) (Qa (QA a) q)))
   cases h;exact rx 21 (o [b1]) [] [6] [0,1,2,10,11,12] (Qa (Uc (QA c)) q)
  have⟨ta5,ha5,h⟩:=bo h;have⟨ta6,ha6,h⟩:=bo h;have⟨ta7,c,h⟩:=bo h;have q:=Qa (Uc (jEj b)) (Qa (Z2 c) (allE Qr ha6 (Qa (QC ha5) q)));let o l:=o (.obj (some 0) (.d (.lst false 1 ta5)) (Qb z g i j k m p s t u w x) ZV::.el (Zy ta6)::.ret (B ta7)::b1::l);obtain⟨a,h⟩|⟨a,h⟩:=io h
  ·have q:=Qa (Ud a) q;obtain⟨e,h⟩|⟨e,h⟩:=io h
   ·have⟨ha10,h⟩:=gd h;cases h;exact rn 21 (o [b0,b1]) [] [0,4,5,7,14,15] [0,1,2,10,11,12,13,14] (Qa ha10 (Qa e q))
   have⟨ha10,h⟩:=gd h;cases h;exact rn 21 (o [b0,b0,b0]) [] [0,4,5,7,14,15] [0,1,2,10,11,12,13,14] (Qa ha10 (Qa (jEj b) (Qa (QA e) q)))
  cases h;exact rx 21 (o [b1]) [] [6] [0,1,2,10,11,12] (Qa (Uc (QA a)) q)
 cases h;exact rx 21 [b0] [] [7] [0,1,2,10,11,12] (Qa (jEj y) QL)
def Qk (n:Nat)(m:jSj)(o:Int)(p q:FnD)(r:Int)(s:jSj)(t u:jVj)(v:jSj)(w b:jVj)(c d:Int)(e f:Bool)(g h i:Int)(j k l:jVj):Option (Int) := (Q2 (Qg n m o p q r s t u v w b c d e f g h i j k l) n (false,0)).bind fun a=>match a with|.inl a=>(some 10)|.inr a=>((Qm n a 9).bind fun x=>some x)
theorem QI {n t u p q w x y z A o a b c e f g i j k l m r}(h:Qk n t u p q w x y z A o a b c e f g i j k l m=some r):ComputesO cx 123 [.ptr 0 0 0 0 2,.d (.agg [.v (.string t),I u,.fn p.1 p.2.1 p.2.2,.fn q.1 q.2.1 q.2.2]),.d (.agg [I w,.v (.string x),.lst false 1 y,.lst false 1 z,.v (.string A)])] (some (Qb o a b c e f g i j k l m)) (.d (I r)) (Qb o a b c e f g i j k l m) ZV:=by
 unfold Qk at h;have⟨s,h1,h⟩:=bo h;obtain s|s:=s
 ·obtain rfl:=oi h;exact rfO 0 [.lp [] [0,4,5,7,14,15] [0,1,2,10,11,12,13,14] .ret [(6,.d (I 10))] [(0,.box (.agg [.own 1 0,.own 2 0,.d (I b),.d (I c),.d (B e),.d (B f),.d (I g),.d (I i),.d (I j),.own 10 0,.own 11 0,.own 12 0])),(1,.row 0 5 o),(2,.row 0 5 a),(10,.row 0 1 k),(11,.row 0 6 l),(12,.row 0 7 m)] 82] (Qa (QH Yx h1) QL)
 have⟨t2,h2,h⟩:=bo h;obtain rfl:=oi h;exact rfO 0 [.lp [] [0,4,5,7,14,15] [0,1,2,10,11,12,13,14] (.exit 0) [(7,.d (B s))] [(0,.box (.agg [.own 1 0,.own 2 0,.d (I b),.d (I c),.d (B e),.d (B f),.d (I g),.d (I i),.d (I j),.own 10 0,.own 11 0,.own 12 0])),(1,.row 0 5 o),(2,.row 0 5 a),(10,.row 0 1 k),(11,.row 0 6 l),(12,.row 0 7 m)] 82,.ret (I t2)] (Qa (Qu h2) (Qa (QH Yx h1) QL))
def Z9 (n:Nat)(e f:jVj)(g h:Int)(i j:Bool)(k l m:Int)(o c d:jVj)(b:Int):Option (Int⊕Unit⊕Unit) := if b<((c).length:Int) then if 0<=b/\b<((c).length:Int) then((nth (c) (Int.toNat b)).bind QM).bind fun a=>if a.2.2.2.2.2=true then if((a.1==(⟨#[]⟩:jSj))&&((a.2.1==(⟨#[]⟩:jSj))&&((a.2.2.1==0)&&((a.2.2.2.1==0)&&((a.2.2.2.2.1==false)&&((a.2.2.2.2.2==false)&&true))))))=true then if Qh (b+1) then some (.inl (b+1)) else none else some (.inr (.inl ())) else if Qh (b+1) then some (.inl (b+1)) else none else none else some (.inr (.inr ()))
noncomputable def Gv (c f:jVj)(g h:Int)(i j:Bool)(k l m:Int)(n a b:jVj):Lp (Int) (Unit⊕Unit):=⟨fun o=>[(0,.own 22 0),(8,.own 11 0),(9,.d (I ((a).length:Int))),(10,.d (I o))],fun _=>[(0,.box (.agg [.own 1 0,.own 2 0,.d (I g),.d (I h),.d (B i),.d (B j),.d (I k),.d (I l),.d (I m),.own 10 0,.own 11 0,.own 12 0])),(1,.row 0 5 c),(2,.row 0 5 f),(10,.row 0 1 n),(11,.row 0 6 a),(12,.row 0 7 b),(14,.box (.d (B false))),(18,.box (.ptr 0 0 0 0 2)),(22,.loop true [(6,.fn (.func 118) [] [.ptr 18 0 0 0 0]),(5,.ptr 0 0 0 0 2),(3,.ptr 14 0 0 0 0),(2,.d (B false)),(0,.ptr 0 0 0 0 2)] [7] (ZY cx.P 173 0).1 (ZY cx.P 173 0).2 12)],fun
 | (.inl e)=>.ret
 | (.inr e)=>(.exit 0),fun _=>[],fun
 | (.inl e)=>[(0,.box (.agg [.own 1 0,.own 2 0,.d (I g),.d (I h),.d (B i),.d (B j),.d (I k),.d (I l),.d (I m),.own 10 0,.own 11 0,.own 12 0])),(1,.row 0 5 c),(2,.row 0 5 f),(10,.row 0 1 n),(11,.row 0 6 a),(12,.row 0 7 b),(14,.box (.d (B true))),(18,.box (.ptr 0 0 0 0 2)),(22,.left (.exit 0))]
 | (.inr e)=>[(0,.box (.agg [.own 1 0,.own 2 0,.d (I g),.d (I h),.d (B i),.d (B j),.d (I k),.d (I l),.d (I m),.own 10 0,.own 11 0,.own 12 0])),(1,.row 0 5 c),(2,.row 0 5 f),(10,.row 0 1 n),(11,.row 0 6 a),(12,.row 0 7 b),(14,.box (.d (B false))),(18,.box (.ptr 0 0 0 0 2)),(22,.loop true [(6,.fn (.func 118) [] [.ptr 18 0 0 0 0]),(5,.ptr 0 0 0 0 2),(3,.ptr 14 0 0 0 0),(2,.d (B false)),(0,.ptr 0 0 0 0 2)] [7] (ZY cx.P 173 0).1 (ZY cx.P 173 0).2 12)]⟩
theorem Y0 {n f g i j k m p s t u d e}(v)(r)(h:Z9 n f g i j k m p s t u d e v=some r):Rl (ZJ cx.P 118 0) 23 23 false (Gv f g i j k m p s t u d e) v r:=by
 unfold Z9 at h;obtain⟨b,h⟩|⟨b,h⟩:=io h
 ·have⟨ha2,h⟩:=gd h;have⟨ta3,ha3,h⟩:=bo h;have q:=Qa (QX Qq ha3) (Qa ha2 (Qa (jDj b) QL));let o(l:jOj):=b1::b1::.el (QB ta3)::l;obtain⟨c,h⟩|⟨c,h⟩:=io h
  ·have q:=Qa c q;obtain⟨a,h⟩|⟨a,h⟩:=io h
   ·have⟨ha6,h⟩:=gd h;cases h;exact rn 29 (o [b1,b0,.no]) [] [0,8,9,10] [0,1,2,10,11,12,14,18,22] (Qa ha6 (Qa (Ud a) q))
   cases h;exact rx 29 (o [b1,b1,.no]) [] [] [0,1,2,10,11,12,14,18,22] (Qa (Uc (QA a)) q)
  have⟨a,h⟩:=gd h;cases h;exact rn 29 (o [b0,.no]) [] [0,8,9,10] [0,1,2,10,11,12,14,18,22] (Qa a (Qa (QA c) q))
 cases h;exact rx 29 [b0] [] [] [0,1,2,10,11,12,14,18,22] (Qa (jEj b) QL)
def W6 (n:Nat)(d e:jVj)(f g:Int)(h i:Bool)(j k l:Int)(m a b:jVj):Option (Bool) := (Q2 (Z9 n d e f g h i j k l m a b) n 0).bind fun c=>match c with|.inl c=>(some true)|.inr c=>(some false)
theorem Xv {n c e f g i j k l m o a b r}(h:W6 n c e f g i j k l m o a b=some r):ComputesO cx 173 [.ptr 0 0 0 0 2] (some (Qb c e f g i j k l m o a b)) (.d (B r)) (Qb c e f g i j k l m o a b) ZV:=by
 unfold W6 at h;have⟨p,h1,h⟩:=bo h;obtain p|p:=p
 ·obtain rfl:=oi h;exact rfO 0 [b1,.lp [] [0,8,9,10] [0,1,2,10,11,12,14,18,22] .ret [] [(0,.box (.agg [.own 1 0,.own 2 0,.d (I f),.d (I g),.d (B i),.d (B j),.d (I k),.d (I l),.d (I m),.own 10 0,.own 11 0,.own 12 0])),(1,.row 0 5 c),(2,.row 0 5 e),(10,.row 0 1 o),(11,.row 0 6 a),(12,.row 0 7 b),(14,.box (.d (B true))),(18,.box (.ptr 0 0 0 0 2)),(22,.left (.exit 0))] 60] (Qa (QH Y0 h1) QL)
 obtain rfl:=oi h;exact rfO 0 [b1,.lp [] [0,8,9,10] [0,1,2,10,11,12,14,18,22] (.exit 0) [] [(0,.box (.agg [.own 1 0,.own 2 0,.d (I f),.d (I g),.d (B i),.d (B j),.d (I k),.d (I l),.d (I m),.own 10 0,.own 11 0,.own 12 0])),(1,.row 0 5 c),(2,.row 0 5 e),(10,.row 0 1 o),(11,.row 0 6 a),(12,.row 0 7 b),(14,.box (.d (B false))),(18,.box (.ptr 0 0 0 0 2)),(22,.loop true [(6,.fn (.func 118) [] [.ptr 18 0 0 0 0]),(5,.ptr 0 0 0 0 2),(3,.ptr 14 0 0 0 0),(2,.d (B false)),(0,.ptr 0 0 0 0 2)] [7] (ZY cx.P 173 0).1 (ZY cx.P 173 0).2 12)] 60] (Qa (QH Y0 h1) QL)
def Um (n:Nat)  : Option (Int) :=
 some 14
theorem Xt {n:Nat}  {r:Int}(h:Um n =some r):Computes cx 69 [B true,I 14] (I r):=by unfold Um at h;obtain rfl:=oi h;exact rf [.no] QL
def WL (n:Nat)(f:Int)(g:jSj)(h b:jVj)(i:jSj):Option (Int×Int×Int) := (el Vt b 1).bind fun a=>(el Vt b 2).bind fun c=>(el Vt b 0).bind fun e=>if a<e then(Um n).bind fun d=>some (a,c,d) else(Qm n (decide (a>=c)) 14).bind fun d=>some (a,c,d)
theorem GT {n b c d e f r}(h:WL n b c d e f=some r):Computes cx 181 [.agg [I b,.v (.string c),.lst false 1 d,.lst false 1 e,.v (.string f)]] (.tup [.agg [I r.1,I r.2.1],I r.2.2]):=by
 unfold WL at h;have⟨t1,h1,h⟩:=bo h;have⟨t2,h2,h⟩:=bo h;have⟨t3,h3,h⟩:=bo h;have q:=allE Qi h3 (allE Qi h2 (allE Qi h1 QL));let o(l:jOj):=.el (Q3 t1)::.el (Q3 t2)::.el (Q3 t3)::l;obtain⟨a,h⟩|⟨a,h⟩:=io h
 ·have⟨t5,h5,h⟩:=bo h;cases h;exact rf (o [b1,.ret (I t5)]) (Qa (Xt h5) (Qa (jDj a) q))
 have⟨t5,h5,h⟩:=bo h;cases h;exact rf (o [b0,.ret (I t5)]) (Qa (Qu h5) (Qa (jEj a) q))
def Zg (n:Nat)(c:jSj)(d e a f b:Int)(g:Bool):Option (Int) := if Qh (a - b) then some (a - b) else none
theorem W8 {n a b c d e f g r}(h:Zg n a b c d e f g=some r):Computes cx 78 [.agg [.v (.string a),I b,I c,I d,I e,I f,B g]] (I r):=by unfold Zg at h;have⟨h1,h⟩:=gd h;cases h;exact rf [] (Qa h1 QL)
def Qs (n:Nat)(J:Int)(o:jSj)(x w:jVj)(K:jSj)(j h:jVj)(k l:Int)(i c:Bool)(e f g:Int)(d a b:jVj):Option (Int) := if Qh (((j).length:Int)+1) then if J=(((j).length:Int)+1) then if(o.toList==(⟨#[117,110,100,111]⟩:jSj).toList)=true then if((h).length:Int)=0 then some 12 else if Qh (((h).length:Int) - 1) then if 0<=(((h).length:Int) - 1)/\(((h).length:Int) - 1)<((h).length:Int) then((nth (h) (Int.toNat (((h).length:Int) - 1))).bind Ze).bind fun t7=>if(t7.2.1.toList==(⟨#[100,101,108,105,118,101,114]⟩:jSj).toList)=true then(Un n).bind fun V=>some V else(Qm n (t7.2.1.toList==(⟨#[98,105,108,108]⟩:jSj).toList) 21).bind fun V=>some V else none else none else(el Vt w 0).bind fun z=>if z<k then some 22 else if o.data.toList=[115,101,99,116,111,114] then(Qp n z j h k l i c e f g d a b).bind fun t7=>(Qk n (⟨#[83]⟩) 1 ((.func 147:Fn),[],[]) ((.func 148:Fn),[],[]) J o x w K j h k l i c e f g d a b).bind fun t8=>(Qo n ([I t7,I t8])).bind fun V=>if V=0 then(Qm n (((d).length:Int)==8) 5).bind fun L=>some L else some V else if o.data.toList=[109,105,114,114,111,114] then(Qp n z j h k l i c e f g d a b).bind fun t8=>(Qk n (⟨#[77,115]⟩) 2 ((.func 149:Fn),[],[]) ((.func 150:Fn),[],[]) J o x w K j h k l i c e f g d a b).bind fun V=>(Qo n ([I t8,I V])).bind fun P=>if P=0 then(el Vt w 1).bind fun M=>(ZE n M 1 100).bind fun A=>(Qm n (((a).length:Int)==32) 5).bind fun C=>(Qo n ([I A,I C])).bind fun E=>some E else some P else if o.data.toList=[115,111,105,108] then(Qp n z j h k l i c e f g d a b).bind fun V=>(Qk n (⟨#[109]⟩) 2 ((.func 151:Fn),[],[]) ((.func 215:Fn),[],[.ref (.fn (.func 153) [] []) 0]) J o x w K j h k l i c e f g d a b).bind fun P=>(Qo n ([I V,I P])).bind fun L=>if L=0 then(el Vt w 1).bind fun A=>(ZE n A 0 1000).bind fun C=>some C else some L else if o.data.toList=[99,108,101,97,110] then(Qp n z j h k l i c e f g d a b).bind fun P=>(Qk n (⟨#[109]⟩) 1 ((.func 154:Fn),[],[]) ((.func 215:Fn),[],[.ref (.fn (.func 155) [] []) 0]) J o x w K j h k l i c e f g d a b).bind fun L=>(Qo n ([I P,I L])).bind fun M=>if M=0 then some 0 else some M else if o.data.toList=[100,101,102,101,99,116] then(Qp n z j h k l i c e f g d a b).bind fun L=>(Qk n (⟨#[109]⟩) 1 ((.func 216:Fn),[],[.ref (.fn (.func 157) [] []) 0]) ((.func 215:Fn),[],[.ref (.fn (.func 158) [] []) 0]) J o x w K j h k l i c e f g d a b).bind fun M=>(Qo n ([I L,I M])).bind fun A=>if A=0 then(el Ww x 0).bind fun E=>(Qw n 109 j h k l i c e f g d a b).bind fun F=>(QE n F E).bind fun t=>if 0<=t/\t<((a).length:Int) then((nth (a) (Int.toNat t)).bind QM).bind fun r=>(Qm n r.2.2.2.2.1 9).bind fun p=>(Qm n r.2.2.2.2.2 31).bind fun q=>(Qo n ([I p,I q])).bind fun v=>some v else none else some A else if o.data.toList=[114,101,112,97,105,114] then(Qp n z j h k l i c e f g d a b).bind fun M=>(Qk n (⟨#[109]⟩) 1 ((.func 216:Fn),[],[.ref (.fn (.func 159) [] []) 0]) ((.func 215:Fn),[],[.ref (.fn (.func 160) [] []) 0]) J o x w K j h k l i c e f g d a b).bind fun A=>(Qo n ([I M,I A])).bind fun C=>if C=0 then(el Ww x 0).bind fun F=>(Qw n 109 j h k l i c e f g d a b).bind fun t=>(QE n t F).bind fun u=>if 0<=u/\u<((a).length:Int) then((nth (a) (Int.toNat u)).bind QM).bind fun p=>(Qm n (!p.2.2.2.2.1) 22).bind fun q=>some q else none else some C else if o.data.toList=[97,105,109] then(Qp n z j h k l i c e f g d a b).bind fun A=>(Qk n (⟨#[109]⟩) 1 ((.func 216:Fn),[],[.ref (.fn (.func 161) [] []) 0]) ((.func 215:Fn),[],[.ref (.fn (.func 162) [] []) 0]) J o x w K j h k l i c e f g d a b).bind fun C=>(Qo n ([I A,I C])).bind fun E=>if E=0 then(el Ww x 0).bind fun t=>(Qw n 109 j h k l i c e f g d a b).bind fun u=>(QE n u t).bind fun r=>if 0<=r/\r<((a).length:Int) then(Qm n (!i) 30).bind fun q=>(Qm n c 29).bind fun v=>((nth (a) (Int.toNat r)).bind QM).bind fun s=>(Qm n s.2.2.2.2.1 21).bind fun y=>(Qm n s.2.2.2.2.2 9).bind fun G=>(Qo n ([I q,I v,I y,I G])).bind fun N=>some N else none else some E else if o.data.toList=[112,97,114,107] then(Qp n z j h k l i c e f g d a b).bind fun C=>(Qk n (⟨#[109]⟩) 1 ((.func 216:Fn),[],[.ref (.fn (.func 163) [] []) 0]) ((.func 215:Fn),[],[.ref (.fn (.func 164) [] []) 0]) J o x w K j h k l i c e f g d a b).bind fun E=>(Qo n ([I C,I E])).bind fun F=>if F=0 then(el Ww x 0).bind fun u=>(Qw n 109 j h k l i c e f g d a b).bind fun r=>(QE n r u).bind fun p=>if 0<=p/\p<((a).length:Int) then((nth (a) (Int.toNat p)).bind QM).bind fun v=>(Qm n (!v.2.2.2.2.2) 22).bind fun s=>some s else none else some F else if o.data.toList=[100,105,109] then(Qp n z j h k l i c e f g d a b).bind fun E=>(Qk n (⟨#[115]⟩) 1 ((.func 154:Fn),[],[]) ((.func 165:Fn),[],[]) J o x w K j h k l i c e f g d a b).bind fun F=>(Qo n ([I E,I F])).bind fun t=>if t=0 then some 0 else some t else if o.data.toList=[115,117,110] then(Qp n z j h k l i c e f g d a b).bind fun F=>(Qk n (⟨#[]⟩) 2 ((.func 168:Fn),[],[]) ((.func 169:Fn),[],[]) J o x w K j h k l i c e f g d a b).bind fun t=>(Qo n ([I F,I t])).bind fun u=>if u=0 then(el Vt w 1).bind fun p=>(ZE n p 0 1000).bind fun q=>some q else some u else if o.data.toList=[102,105,108,108] then(Qp n z j h k l i c e f g d a b).bind fun t=>(Qk n (⟨#[]⟩) 1 ((.func 170:Fn),[],[]) ((.func 171:Fn),[],[]) J o x w K j h k l i c e f g d a b).bind fun u=>(Qo n ([I t,I u])).bind fun r=>if r=0 then(Qm n i 9).bind fun q=>some q else some r else if o.data.toList=[100,114,97,105,110] then(Qp n z j h k l i c e f g d a b).bind fun u=>(Qk n (⟨#[]⟩) 1 ((.func 172:Fn),[],[]) ((.func 174:Fn),[],[]) J o x w K j h k l i c e f g d a b).bind fun r=>(Qo n ([I u,I r])).bind fun p=>if p=0 then(Qm n (!i) 22).bind fun v=>(W6 n j h k l i c e f g d a b).bind fun s=>(Qm n s 31).bind fun y=>(Qo n ([I v,I y])).bind fun G=>some G else some p else if o.data.toList=[116,114,105,112] then(Qp n z j h k l i c e f g d a b).bind fun r=>(Qk n (⟨#[]⟩) 1 ((.func 175:Fn),[],[]) ((.func 176:Fn),[],[]) J o x w K j h k l i c e f g d a b).bind fun p=>(Qo n ([I r,I p])).bind fun q=>if q=0 then(Qm n c 9).bind fun s=>some s else some q else if o.data.toList=[114,101,115,101,116] then(Qp n z j h k l i c e f g d a b).bind fun p=>(Qk n (⟨#[]⟩) 1 ((.func 178:Fn),[],[]) ((.func 179:Fn),[],[]) J o x w K j h k l i c e f g d a b).bind fun q=>(Qo n ([I p,I q])).bind fun v=>if v=0 then(Qm n (!c) 22).bind fun y=>some y else some v else if o.data.toList=[111,102,102,101,114] then(Qp n z j h k l i c e f g d a b).bind fun q=>(Qk n (⟨#[79]⟩) 5 ((.func 180:Fn),[],[]) ((.func 182:Fn),[],[]) J o x w K j h k l i c e f g d a b).bind fun v=>(Qo n ([I q,I v])).bind fun s=>if s=0 then(WL n J o x w K).bind fun G=>(el Vt w 3).bind fun N=>(ZE n N 1 1000).bind fun Q=>(el Vt w 4).bind fun O=>(ZE n O 0 1000).bind fun S=>(Qm n (((b).length:Int)==32) 5).bind fun H=>(Qo n ([I G.2.2,I Q,I S,I H])).bind fun m=>some m else some s else if o.data.toList=[100,101,108,105,118,101,114] then(Qp n z j h k l i c e f g d a b).bind fun v=>(Qk n (⟨#[111]⟩) 2 ((.func 183:Fn),[],[]) ((.func 184:Fn),[],[]) J o x w K j h k l i c e f g d a b).bind fun s=>(Qo n ([I v,I s])).bind fun y=>if y=0 then(el Ww x 0).bind fun N=>(Qw n 111 j h k l i c e f g d a b).bind fun Q=>(QE n Q N).bind fun O=>if 0<=O/\O<((b).length:Int) then(el Vt w 1).bind fun H=>((nth (b) (Int.toNat O)).bind Z6).bind fun m=>(Qm n m.2.2.2.2.2.2 23).bind fun W=>if z<m.2.1 then(Um n).bind fun T=>(Qm n (H==0) 3).bind fun X=>(Zg n m.1 m.2.1 m.2.2.1 m.2.2.2.1 m.2.2.2.2.1 m.2.2.2.2.2.1 m.2.2.2.2.2.2).bind fun Y=>(Qm n (decide (H>Y)) 20).bind fun Z=>(Qo n ([I W,I T,I X,I Z])).bind fun U=>if U=0 then if Qh (H*1000000) then(Q8 n z j h k l i c e f g d a b).bind fun b2=>(Qm n (decide ((H*1000000)>b2.2)) 16).bind fun b3=>some b3 else none else some U else(Qm n (decide (z>=m.2.2.1)) 14).bind fun T=>(Qm n (H==0) 3).bind fun X=>(Zg n m.1 m.2.1 m.2.2.1 m.2.2.2.1 m.2.2.2.2.1 m.2.2.2.2.2.1 m.2.2.2.2.2.2).bind fun Y=>(Qm n (decide (H>Y)) 20).bind fun Z=>(Qo n ([I W,I T,I X,I Z])).bind fun U=>if U=0 then if Qh (H*1000000) then(Q8 n z j h k l i c e f g d a b).bind fun b2=>(Qm n (decide ((H*1000000)>b2.2)) 16).bind fun b3=>some b3 else none else some U else none else some y else if o.data.toList=[98,105,108,108] then(Qp n z j h k l i c e f g d a b).bind fun s=>(Qk n (⟨#[111]⟩) 1 ((.func 185:Fn),[],[]) ((.func 186:Fn),[],[]) J o x w K j h k l i c e f g d a b).bind fun y=>(Qo n ([I s,I y])).bind fun G=>if G=0 then(el Ww x 0).bind fun Q=>(Qw n 111 j h k l i c e f g d a b).bind fun O=>(QE n O Q).bind fun S=>if 0<=S/\S<((b).length:Int) then((nth (b) (Int.toNat S)).bind Z6).bind fun m=>(Qm n m.2.2.2.2.2.2 23).bind fun W=>(Qm n (decide (z<m.2.2.1)) 32).bind fun b4=>(Qo n ([I W,I b4])).bind fun T=>some T else none else some G else if o.data.toList=[117,110,100,111] then(Qp n z j h k l i c e f g d a b).bind fun y=>(Qk n (⟨#[]⟩) 0 ((.func 154:Fn),[],[]) ((.func 187:Fn),[],[]) J o x w K j h k l i c e f g d a b).bind fun G=>(Qo n ([I y,I G])).bind fun N=>if N=0 then some 0 else some N else none else some 11 else none
theorem YZ {n a0 a1 a2 a3 a4 k m p s t a b c e f g i r}(h:Qs n a0 a1 a2 a3 a4 k m p s t a b c e f g i=some r):ComputesO cx 87 [.ptr 0 0 0 0 0,.d (.agg [I a0,.v (.string a1),.lst false 1 a2,.lst false 1 a3,.v (.string a4)])] (some (Qb k m p s t a b c e f g i)) (.d (I r)) (Qb k m p s t a b c e f g i) ZV:=by
 unfold Qs at h;have⟨h1,h⟩:=gd h;have q:=Qa h1 QL;obtain⟨Y,h⟩|⟨Y,h⟩:=io h
 ·have q:=Qa (nef Y) q;let o(l:jOj):=b0::l;obtain⟨Z,h⟩|⟨Z,h⟩:=io h
  ·have q:=Qa Z q;obtain⟨N,h⟩|⟨N,h⟩:=io h
   ·obtain rfl:=oi h;exact rfO 0 (o [b1,b1]) (Qa (eqt N) q)
   have⟨W,h⟩:=gd h;have⟨X,h⟩:=gd h;have⟨t7,V,h⟩:=bo h;have q:=Qa (QX Ql V) (Qa X (Qa W (Qa (eqf N) q)));let o l:=o (b1::b0::b1::.el (QP t7)::l);obtain⟨U,h⟩|⟨U,h⟩:=io h
   ·have⟨t9,S,h⟩:=bo h;obtain rfl:=oi h;exact rfO 0 (o [b1,.ret (I t9)]) (Qa (jh S) (Qa U q))
   have⟨t9,S,h⟩:=bo h;obtain rfl:=oi h;exact rfO 0 (o [b0,.ret (I t9)]) (Qa (Qu S) (Qa (QA U) q))
  have⟨t4,N,h⟩:=bo h;have q:=allE Qi N (Qa (QA Z) q);let o l:=o (b0::.el (Q3 t4)::l);obtain⟨W,h⟩|⟨W,h⟩:=io h
  ·obtain rfl:=oi h;exact rfO 0 (o [b1]) (Qa (jDj W) q)
  have q:=Qa (jEj W) q;let o l:=o (b0::b1::(no 28 l));obtain⟨X,h⟩|⟨X,h⟩:=io h
  ·have⟨t7,V,h⟩:=bo h;have⟨t8,U,h⟩:=bo h;have⟨t9,S,h⟩:=bo h;have q:=Qa (((Qx S).le (.cons (.full _ _ _) (.nil)) (.refl _)):Computes cx 67 [.lst true 1 [I t7,I t8]] (I t9)) (Qa (QI U) (Qa (Qv V) (allE Qi N (Qa (mk1 ⟨#[115,101,99,116,111,114]⟩ (.agg [.v (.string ⟨#[83]⟩),I 1,.fn (.func 147) [] [],.fn (.func 148) [] []]) X) q))));let o l:=o (.el (.agg [.v (.string ⟨#[83]⟩),I 1,.fn (.func 147) [] [],.fn (.func 148) [] []])::.el (Q3 t4)::.obj (some 0) (.d (I t7)) (Qb k m p s t a b c e f g i) ZV::.obj (some 0) (.d (I t8)) (Qb k m p s t a b c e f g i) ZV::.ret (I t9)::l);obtain⟨M,h⟩|⟨M,h⟩:=io h
   ·have⟨t11,J,h⟩:=bo h;obtain rfl:=oi h;exact rfO 0 (o [b0,.ix (-9),b1,.ret (I t11)]) (Qa (Qu J) (Qa (nef M) q))
   obtain rfl:=oi h;exact rfO 0 (o [b1]) (Qa (net M) q)
  obtain⟨V,h⟩|⟨V,h⟩:=io h
  ·have⟨t8,U,h⟩:=bo h;have⟨t9,S,h⟩:=bo h;have⟨t10,M,h⟩:=bo h;have q:=Qa (((Qx M).le (.cons (.full _ _ _) (.nil)) (.refl _)):Computes cx 67 [.lst true 1 [I t8,I t9]] (I t10)) (Qa (QI S) (Qa (Qv U) (allE Qi N (Qa (mk1 ⟨#[109,105,114,114,111,114]⟩ (.agg [.v (.string ⟨#[77,115]⟩),I 2,.fn (.func 149) [] [],.fn (.func 150) [] []]) V) q))));let o l:=o (.el (.agg [.v (.string ⟨#[77,115]⟩),I 2,.fn (.func 149) [] [],.fn (.func 150) [] []])::.el (Q3 t4)::.obj (some 0) (.d (I t8)) (Qb k m p s t a b c e f g i) ZV::.obj (some 0) (.d (I t9)) (Qb k m p s t a b c e f g i) ZV::.ret (I t10)::l);obtain⟨J,h⟩|⟨J,h⟩:=io h
   ·have⟨t12,K,h⟩:=bo h;have⟨t13,C,h⟩:=bo h;have⟨t14,E,h⟩:=bo h;have⟨t15,F,h⟩:=bo h;obtain rfl:=oi h;exact rfO 0 (o [b0,.ix (-9),b1,.el (Q3 t12),.ret (I t13),.ret (I t14),.ret (I t15)]) (Qa (((Qx F).le (.cons (.full _ _ _) (.nil)) (.refl _)):Computes cx 67 [.lst true 1 [I t13,I t14]] (I t15)) (Qa (Qu E) (Qa (WK C) (allE Qi K (Qa (nef J) q)))))
   obtain rfl:=oi h;exact rfO 0 (o [b1]) (Qa (net J) q)
  obtain⟨U,h⟩|⟨U,h⟩:=io h
  ·have⟨t9,S,h⟩:=bo h;have⟨t10,M,h⟩:=bo h;have⟨t11,J,h⟩:=bo h;have q:=Qa (((Qx J).le (.cons (.full _ _ _) (.nil)) (.refl _)):Computes cx 67 [.lst true 1 [I t9,I t10]] (I t11)) (Qa (QI M) (Qa (Qv S) (allE Qi N (Qa (mk1 ⟨#[115,111,105,108]⟩ (.agg [.v (.string ⟨#[109]⟩),I 2,.fn (.func 151) [] [],.fn (.func 215) [] [.ref (.fn (.func 153) [] []) 0]]) U) q))));let o l:=o (.el (.agg [.v (.string ⟨#[109]⟩),I 2,.fn (.func 151) [] [],.fn (.func 215) [] [.ref (.fn (.func 153) [] []) 0]])::.el (Q3 t4)::.obj (some 0) (.d (I t9)) (Qb k m p s t a b c e f g i) ZV::.obj (some 0) (.d (I t10)) (Qb k m p s t a b c e f g i) ZV::.ret (I t11)::l);obtain⟨K,h⟩|⟨K,h⟩:=io h
   ·have⟨t13,C,h⟩:=bo h;have⟨t14,E,h⟩:=bo h;obtain rfl:=oi h;exact rfO 0 (o [b0,.ix (-9),b1,.el (Q3 t13),.ret (I t14)]) (Qa (WK E) (allE Qi C (Qa (nef K) q)))
   obtain rfl:=oi h;exact rfO 0 (o [b1]) (Qa (net K) q)
  obtain⟨S,h⟩|⟨S,h⟩:=io h
  ·have⟨t10,M,h⟩:=bo h;have⟨t11,J,h⟩:=bo h;have⟨t12,K,h⟩:=bo h;have q:=Qa (((Qx K).le (.cons (.full _ _ _) (.nil)) (.refl _)):Computes cx 67 [.lst true 1 [I t10,I t11]] (I t12)) (Qa (QI J) (Qa (Qv M) (allE Qi N (Qa (mk1 ⟨#[99,108,101,97,110]⟩ (.agg [.v (.string ⟨#[109]⟩),I 1,.fn (.func 154) [] [],.fn (.func 215) [] [.ref (.fn (.func 155) [] []) 0]]) S) q))));let o l:=o (.el (.agg [.v (.string ⟨#[109]⟩),I 1,.fn (.func 154) [] [],.fn (.func 215) [] [.ref (.fn (.func 155) [] []) 0]])::.el (Q3 t4)::.obj (some 0) (.d (I t10)) (Qb k m p s t a b c e f g i) ZV::.obj (some 0) (.d (I t11)) (Qb k m p s t a b c e f g i) ZV::.ret (I t12)::l);obtain⟨C,h⟩|⟨C,h⟩:=io h
   ·obtain rfl:=oi h;exact rfO 0 (o [b0,.ix (-9),b1]) (Qa (nef C) q)
   obtain rfl:=oi h;exact rfO 0 (o [b1]) (Qa (net C) q)
  obtain⟨M,h⟩|⟨M,h⟩:=io h
  ·have⟨t11,J,h⟩:=bo h;have⟨t12,K,h⟩:=bo h;have⟨t13,C,h⟩:=bo h;have q:=Qa (((Qx C).le (.cons (.full _ _ _) (.nil)) (.refl _)):Computes cx 67 [.lst true 1 [I t11,I t12]] (I t13)) (Qa (QI K) (Qa (Qv J) (allE Qi N (Qa (mk1 ⟨#[100,101,102,101,99,116]⟩ (.agg [.v (.string ⟨#[109]⟩),I 1,.fn (.func 216) [] [.ref (.fn (.func 157) [] []) 0],.fn (.func 215) [] [.ref (.fn (.func 158) [] []) 0]]) M) q))));let o l:=o (.el (.agg [.v (.string ⟨#[109]⟩),I 1,.fn (.func 216) [] [.ref (.fn (.func 157) [] []) 0],.fn (.func 215) [] [.ref (.fn (.func 158) [] []) 0]])::.el (Q3 t4)::.obj (some 0) (.d (I t11)) (Qb k m p s t a b c e f g i) ZV::.obj (some 0) (.d (I t12)) (Qb k m p s t a b c e f g i) ZV::.ret (I t13)::l);obtain⟨E,h⟩|⟨E,h⟩:=io h
   ·have⟨t15,F,h⟩:=bo h;have⟨t16,G,h⟩:=bo h;have⟨t17,A,h⟩:=bo h;have⟨y,h⟩:=gd h;have⟨t19,w,h⟩:=bo h;have⟨t20,u,h⟩:=bo h;have⟨t21,j,h⟩:=bo h;have⟨t22,z,h⟩:=bo h;obtain rfl:=oi h;exact rfO 0 (o [b0,.ix (-9),b1,.el (Zy t15),.ix (-9),b1,.obj (some 0) (.d (.lst false 1 t16)) (Qb k m p s t a b c e f g i) ZV,.ret (I t17),b1,.ix (-9),b1,.el (QB t19),.ret (I t20),.el (QB t19),.ret (I t21),.ret (I t22)]) (Qa (((Qx z).le (.cons (.full _ _ _) (.nil)) (.refl _)):Computes cx 67 [.lst true 1 [I t20,I t21]] (I t22)) (Qa (Qu j) (Qa (QX Qq w) (Qa (Qu u) (Qa (QX Qq w) (Qa y (Qa (QK A) (Qa (QC G) (allE Qr F (Qa (nef E) q))))))))))
   obtain rfl:=oi h;exact rfO 0 (o [b1]) (Qa (net E) q)
  obtain⟨J,h⟩|⟨J,h⟩:=io h
  ·have⟨t12,K,h⟩:=bo h;have⟨t13,C,h⟩:=bo h;have⟨t14,E,h⟩:=bo h;have q:=Qa (((Qx E).le (.cons (.full _ _ _) (.nil)) (.refl _)):Computes cx 67 [.lst true 1 [I t12,I t13]] (I t14)) (Qa (QI C) (Qa (Qv K) (allE Qi N (Qa (mk1 ⟨#[114,101,112,97,105,114]⟩ (.agg [.v (.string ⟨#[109]⟩),I 1,.fn (.func 216) [] [.ref (.fn (.func 159) [] []) 0],.fn (.func 215) [] [.ref (.fn (.func 160) [] []) 0]]) J) q))));let o l:=o (.el (.agg [.v (.string ⟨#[109]⟩),I 1,.fn (.func 216) [] [.ref (.fn (.func 159) [] []) 0],.fn (.func 215) [] [.ref (.fn (.func 160) [] []) 0]])::.el (Q3 t4)::.obj (some 0) (.d (I t12)) (Qb k m p s t a b c e f g i) ZV::.obj (some 0) (.d (I t13)) (Qb k m p s t a b c e f g i) ZV::.ret (I t14)::l);obtain⟨F,h⟩|⟨F,h⟩:=io h
   ·have⟨t16,G,h⟩:=bo h;have⟨t17,A,h⟩:=bo h;have⟨t18,y,h⟩:=bo h;have⟨w,h⟩:=gd h;have⟨t20,u,h⟩:=bo h;have⟨t21,j,h⟩:=bo h;obtain rfl:=oi h;exact rfO 0 (o [b0,.ix (-9),b1,.el (Zy t16),.ix (-9),b1,.obj (some 0) (.d (.lst false 1 t17)) (Qb k m p s t a b c e f g i) ZV,.ret (I t18),b1,.ix (-9),b1,.el (QB t20),.ret (I t21)]) (Qa (Qu j) (Qa (QX Qq u) (Qa w (Qa (QK y) (Qa (QC A) (allE Qr G (Qa (nef F) q)))))))
   obtain rfl:=oi h;exact rfO 0 (o [b1]) (Qa (net F) q)
  obtain⟨K,h⟩|⟨K,h⟩:=io h
  ·have⟨t13,C,h⟩:=bo h;have⟨t14,E,h⟩:=bo h;have⟨t15,F,h⟩:=bo h;have q:=Qa (((Qx F).le (.cons (.full _ _ _) (.nil)) (.refl _)):Computes cx 67 [.lst true 1 [I t13,I t14]] (I t15)) (Qa (QI E) (Qa (Qv C) (allE Qi N (Qa (mk1 ⟨#[97,105,109]⟩ (.agg [.v (.string ⟨#[109]⟩),I 1,.fn (.func 216) [] [.ref (.fn (.func 161) [] []) 0],.fn (.func 215) [] [.ref (.fn (.func 162) [] []) 0]]) K) q))));let o l:=o (.el (.agg [.v (.string ⟨#[109]⟩),I 1,.fn (.func 216) [] [.ref (.fn (.func 161) [] []) 0],.fn (.func 215) [] [.ref (.fn (.func 162) [] []) 0]])::.el (Q3 t4)::.obj (some 0) (.d (I t13)) (Qb k m p s t a b c e f g i) ZV::.obj (some 0) (.d (I t14)) (Qb k m p s t a b c e f g i) ZV::.ret (I t15)::l);obtain⟨G,h⟩|⟨G,h⟩:=io h
   ·have⟨t17,A,h⟩:=bo h;have⟨t18,y,h⟩:=bo h;have⟨t19,w,h⟩:=bo h;have⟨u,h⟩:=gd h;have⟨t21,j,h⟩:=bo h;have⟨t22,z,h⟩:=bo h;have⟨t23,x,h⟩:=bo h;have⟨t24,H,h⟩:=bo h;have⟨t25,L,h⟩:=bo h;have⟨t26,O,h⟩:=bo h;obtain rfl:=oi h;exact rfO 0 (o [b0,.ix (-9),b1,.el (Zy t17),.ix (-9),b1,.obj (some 0) (.d (.lst false 1 t18)) (Qb k m p s t a b c e f g i) ZV,.ret (I t19),b1,.ix (-9),b1,.ret (I t21),.ret (I t22),.el (QB t23),.ret (I t24),.el (QB t23),.ret (I t25),.ret (I t26)]) (Qa (((Qx O).le (.cons (.full _ _ _) (.nil)) (.refl _)):Computes cx 67 [.lst true 1 [I t21,I t22,I t24,I t25]] (I t26)) (Qa (Qu L) (Qa (QX Qq x) (Qa (Qu H) (Qa (QX Qq x) (Qa (Qu z) (Qa (Qu j) (Qa u (Qa (QK w) (Qa (QC y) (allE Qr A (Qa (nef G) q))))))))))))
   obtain rfl:=oi h;exact rfO 0 (o [b1]) (Qa (net G) q)
  obtain⟨C,h⟩|⟨C,h⟩:=io h
  ·have⟨t14,E,h⟩:=bo h;have⟨t15,F,h⟩:=bo h;have⟨t16,G,h⟩:=bo h;have q:=Qa (((Qx G).le (.cons (.full _ _ _) (.nil)) (.refl _)):Computes cx 67 [.lst true 1 [I t14,I t15]] (I t16)) (Qa (QI F) (Qa (Qv E) (allE Qi N (Qa (mk1 ⟨#[112,97,114,107]⟩ (.agg [.v (.string ⟨#[109]⟩),I 1,.fn (.func 216) [] [.ref (.fn (.func 163) [] []) 0],.fn (.func 215) [] [.ref (.fn (.func 164) [] []) 0]]) C) q))));let o l:=o (.el (.agg [.v (.string ⟨#[109]⟩),I 1,.fn (.func 216) [] [.ref (.fn (.func 163) [] []) 0],.fn (.func 215) [] [.ref (.fn (.func 164) [] []) 0]])::.el (Q3 t4)::.obj (some 0) (.d (I t14)) (Qb k m p s t a b c e f g i) ZV::.obj (some 0) (.d (I t15)) (Qb k m p s t a b c e f g i) ZV::.ret (I t16)::l);obtain⟨A,h⟩|⟨A,h⟩:=io h
   ·have⟨t18,y,h⟩:=bo h;have⟨t19,w,h⟩:=bo h;have⟨t20,u,h⟩:=bo h;have⟨j,h⟩:=gd h;have⟨t22,z,h⟩:=bo h;have⟨t23,x,h⟩:=bo h;obtain rfl:=oi h;exact rfO 0 (o [b0,.ix (-9),b1,.el (Zy t18),.ix (-9),b1,.obj (some 0) (.d (.lst false 1 t19)) (Qb k m p s t a b c e f g i) ZV,.ret (I t20),b1,.ix (-9),b1,.el (QB t22),.ret (I t23)]) (Qa (Qu x) (Qa (QX Qq z) (Qa j (Qa (QK u) (Qa (QC w) (allE Qr y (Qa (nef A) q)))))))
   obtain rfl:=oi h;exact rfO 0 (o [b1]) (Qa (net A) q)
  obtain⟨E,h⟩|⟨E,h⟩:=io h
  ·have⟨t15,F,h⟩:=bo h;have⟨t16,G,h⟩:=bo h;have⟨t17,A,h⟩:=bo h;have q:=Qa (((Qx A).le (.cons (.full _ _ _) (.nil)) (.refl _)):Computes cx 67 [.lst true 1 [I t15,I t16]] (I t17)) (Qa (QI G) (Qa (Qv F) (allE Qi N (Qa (mk1 ⟨#[100,105,109]⟩ (.agg [.v (.string ⟨#[115]⟩),I 1,.fn (.func 154) [] [],.fn (.func 165) [] []]) E) q))));let o l:=o (.el (.agg [.v (.string ⟨#[115]⟩),I 1,.fn (.func 154) [] [],.fn (.func 165) [] []])::.el (Q3 t4)::.obj (some 0) (.d (I t15)) (Qb k m p s t a b c e f g i) ZV::.obj (some 0) (.d (I t16)) (Qb k m p s t a b c e f g i) ZV::.ret (I t17)::l);obtain⟨y,h⟩|⟨y,h⟩:=io h
   ·obtain rfl:=oi h;exact rfO 0 (o [b0,.ix (-9),b1]) (Qa (nef y) q)
   obtain rfl:=oi h;exact rfO 0 (o [b1]) (Qa (net y) q)
  obtain⟨F,h⟩|⟨F,h⟩:=io h
  ·have⟨t16,G,h⟩:=bo h;have⟨t17,A,h⟩:=bo h;have⟨t18,y,h⟩:=bo h;have q:=Qa (((Qx y).le (.cons (.full _ _ _) (.nil)) (.refl _)):Computes cx 67 [.lst true 1 [I t16,I t17]] (I t18)) (Qa (QI A) (Qa (Qv G) (allE Qi N (Qa (mk1 ⟨#[115,117,110]⟩ (.agg [.v (.string ⟨#[]⟩),I 2,.fn (.func 168) [] [],.fn (.func 169) [] []]) F) q))));let o l:=o (.el (.agg [.v (.string ⟨#[]⟩),I 2,.fn (.func 168) [] [],.fn (.func 169) [] []])::.el (Q3 t4)::.obj (some 0) (.d (I t16)) (Qb k m p s t a b c e f g i) ZV::.obj (some 0) (.d (I t17)) (Qb k m p s t a b c e f g i) ZV::.ret (I t18)::l);obtain⟨w,h⟩|⟨w,h⟩:=io h
   ·have⟨t20,u,h⟩:=bo h;have⟨t21,j,h⟩:=bo h;obtain rfl:=oi h;exact rfO 0 (o [b0,.ix (-9),b1,.el (Q3 t20),.ret (I t21)]) (Qa (WK j) (allE Qi u (Qa (nef w) q)))
   obtain rfl:=oi h;exact rfO 0 (o [b1]) (Qa (net w) q)
  obtain⟨G,h⟩|⟨G,h⟩:=io h
  ·have⟨t17,A,h⟩:=bo h;have⟨t18,y,h⟩:=bo h;have⟨t19,w,h⟩:=bo h;have q:=Qa (((Qx w).le (.cons (.full _ _ _) (.nil)) (.refl _)):Computes cx 67 [.lst true 1 [I t17,I t18]] (I t19)) (Qa (QI y) (Qa (Qv A) (allE Qi N (Qa (mk1 ⟨#[102,105,108,108]⟩ (.agg [.v (.string ⟨#[]⟩),I 1,.fn (.func 170) [] [],.fn (.func 171) [] []]) G) q))));let o l:=o (.el (.agg [.v (.string ⟨#[]⟩),I 1,.fn (.func 170) [] [],.fn (.func 171) [] []])::.el (Q3 t4)::.obj (some 0) (.d (I t17)) (Qb k m p s t a b c e f g i) ZV::.obj (some 0) (.d (I t18)) (Qb k m p s t a b c e f g i) ZV::.ret (I t19)::l);obtain⟨u,h⟩|⟨u,h⟩:=io h
   ·have⟨t21,j,h⟩:=bo h;obtain rfl:=oi h;exact rfO 0 (o [b0,.ix (-9),b1,.ret (I t21)]) (Qa (Qu j) (Qa (nef u) q))
   obtain rfl:=oi h;exact rfO 0 (o [b1]) (Qa (net u) q)
  obtain⟨A,h⟩|⟨A,h⟩:=io h
  ·have⟨t18,y,h⟩:=bo h;have⟨t19,w,h⟩:=bo h;have⟨t20,u,h⟩:=bo h;have q:=Qa (((Qx u).le (.cons (.full _ _ _) (.nil)) (.refl _)):Computes cx 67 [.lst true 1 [I t18,I t19]] (I t20)) (Qa (QI w) (Qa (Qv y) (allE Qi N (Qa (mk1 ⟨#[100,114,97,105,110]⟩ (.agg [.v (.string ⟨#[]⟩),I 1,.fn (.func 172) [] [],.fn (.func 174) [] []]) A) q))));let o l:=o (.el (.agg [.v (.string ⟨#[]⟩),I 1,.fn (.func 172) [] [],.fn (.func 174) [] []])::.el (Q3 t4)::.obj (some 0) (.d (I t18)) (Qb k m p s t a b c e f g i) ZV::.obj (some 0) (.d (I t19)) (Qb k m p s t a b c e f g i) ZV::.ret (I t20)::l);obtain⟨j,h⟩|⟨j,h⟩:=io h
   ·have⟨t22,z,h⟩:=bo h;have⟨t23,x,h⟩:=bo h;have⟨t24,H,h⟩:=bo h;have⟨t25,L,h⟩:=bo h;obtain rfl:=oi h;exact rfO 0 (o [b0,.ix (-9),b1,.ret (I t22),.obj (some 0) (.d (B t23)) (Qb k m p s t a b c e f g i) ZV,.ret (I t24),.ret (I t25)]) (Qa (((Qx L).le (.cons (.full _ _ _) (.nil)) (.refl _)):Computes cx 67 [.lst true 1 [I t22,I t24]] (I t25)) (Qa (Qu H) (Qa (Xv x) (Qa (Qu z) (Qa (nef j) q)))))
   obtain rfl:=oi h;exact rfO 0 (o [b1]) (Qa (net j) q)
  obtain⟨y,h⟩|⟨y,h⟩:=io h
  ·have⟨t19,w,h⟩:=bo h;have⟨t20,u,h⟩:=bo h;have⟨t21,j,h⟩:=bo h;have q:=Qa (((Qx j).le (.cons (.full _ _ _) (.nil)) (.refl _)):Computes cx 67 [.lst true 1 [I t19,I t20]] (I t21)) (Qa (QI u) (Qa (Qv w) (allE Qi N (Qa (mk1 ⟨#[116,114,105,112]⟩ (.agg [.v (.string ⟨#[]⟩),I 1,.fn (.func 175) [] [],.fn (.func 176) [] []]) y) q))));let o l:=o (.el (.agg [.v (.string ⟨#[]⟩),I 1,.fn (.func 175) [] [],.fn (.func 176) [] []])::.el (Q3 t4)::.obj (some 0) (.d (I t19)) (Qb k m p s t a b c e f g i) ZV::.obj (some 0) (.d (I t20)) (Qb k m p s t a b c e f g i) ZV::.ret (I t21)::l);obtain⟨z,h⟩|⟨z,h⟩:=io h
   ·have⟨t23,x,h⟩:=bo h;obtain rfl:=oi h;exact rfO 0 (o [b0,.ix (-9),b1,.ret (I t23)]) (Qa (Qu x) (Qa (nef z) q))
   obtain rfl:=oi h;exact rfO 0 (o [b1]) (Qa (net z) q)
  obtain⟨w,h⟩|⟨w,h⟩:=io h
  ·have⟨t20,u,h⟩:=bo h;have⟨t21,j,h⟩:=bo h;have⟨t22,z,h⟩:=bo h;have q:=Qa (((Qx z).le (.cons (.full _ _ _) (.nil)) (.refl _)):Computes cx 67 [.lst true 1 [I t20,I t21]] (I t22)) (Qa (QI j) (Qa (Qv u) (allE Qi N (Qa (mk1 ⟨#[114,101,115,101,116]⟩ (.agg [.v (.string ⟨#[]⟩),I 1,.fn (.func 178) [] [],.fn (.func 179) [] []]) w) q))));let o l:=o (.el (.agg [.v (.string ⟨#[]⟩),I 1,.fn (.func 178) [] [],.fn (.func 179) [] []])::.el (Q3 t4)::.obj (some 0) (.d (I t20)) (Qb k m p s t a b c e f g i) ZV::.obj (some 0) (.d (I t21)) (Qb k m p s t a b c e f g i) ZV::.ret (I t22)::l);obtain⟨x,h⟩|⟨x,h⟩:=io h
   ·have⟨t24,H,h⟩:=bo h;obtain rfl:=oi h;exact rfO 0 (o [b0,.ix (-9),b1,.ret (I t24)]) (Qa (Qu H) (Qa (nef x) q))
   obtain rfl:=oi h;exact rfO 0 (o [b1]) (Qa (net x) q)
  obtain⟨u,h⟩|⟨u,h⟩:=io h
  ·have⟨t21,j,h⟩:=bo h;have⟨t22,z,h⟩:=bo h;have⟨t23,x,h⟩:=bo h;have q:=Qa (((Qx x).le (.cons (.full _ _ _) (.nil)) (.refl _)):Computes cx 67 [.lst true 1 [I t21,I t22]] (I t23)) (Qa (QI z) (Qa (Qv j) (allE Qi N (Qa (mk1 ⟨#[111,102,102,101,114]⟩ (.agg [.v (.string ⟨#[79]⟩),I 5,.fn (.func 180) [] [],.fn (.func 182) [] []]) u) q))));let o l:=o (.el (.agg [.v (.string ⟨#[79]⟩),I 5,.fn (.func 180) [] [],.fn (.func 182) [] []])::.el (Q3 t4)::.obj (some 0) (.d (I t21)) (Qb k m p s t a b c e f g i) ZV::.obj (some 0) (.d (I t22)) (Qb k m p s t a b c e f g i) ZV::.ret (I t23)::l);obtain⟨H,h⟩|⟨H,h⟩:=io h
   ·have⟨t25,L,h⟩:=bo h;have⟨t26,O,h⟩:=bo h;have⟨t27,P,h⟩:=bo h;have⟨t28,h28,h⟩:=bo h;have⟨t29,h29,h⟩:=bo h;have⟨t30,h30,h⟩:=bo h;have⟨t31,h31,h⟩:=bo h;obtain rfl:=oi h;exact rfO 0 (o [b0,.ix (-9),b1,.ret (.tup [.agg [I t25.1,I t25.2.1],I t25.2.2]),.el (Q3 t26),.ret (I t27),.el (Q3 t28),.ret (I t29),.ret (I t30),.ret (I t31)]) (Qa (((Qx h31).le (.cons (.full _ _ _) (.nil)) (.refl _)):Computes cx 67 [.lst true 1 [I t25.2.2,I t27,I t29,I t30]] (I t31)) (Qa (Qu h30) (Qa (WK h29) (allE Qi h28 (Qa (WK P) (allE Qi O (Qa (GT L) (Qa (nef H) q))))))))
   obtain rfl:=oi h;exact rfO 0 (o [b1]) (Qa (net H) q)
  obtain⟨j,h⟩|⟨j,h⟩:=io h
  ·have⟨t22,z,h⟩:=bo h;have⟨t23,x,h⟩:=bo h;have⟨t24,H,h⟩:=bo h;have q:=Qa (((Qx H).le (.cons (.full _ _ _) (.nil)) (.refl _)):Computes cx 67 [.lst true 1 [I t22,I t23]] (I t24)) (Qa (QI x) (Qa (Qv z) (allE Qi N (Qa (mk1 ⟨#[100,101,108,105,118,101,114]⟩ (.agg [.v (.string ⟨#[111]⟩),I 2,.fn (.func 183) [] [],.fn (.func 184) [] []]) j) q))));let o l:=o (.el (.agg [.v (.string ⟨#[111]⟩),I 2,.fn (.func 183) [] [],.fn (.func 184) [] []])::.el (Q3 t4)::.obj (some 0) (.d (I t22)) (Qb k m p s t a b c e f g i) ZV::.obj (some 0) (.d (I t23)) (Qb k m p s t a b c e f g i) ZV::.ret (I t24)::l);obtain⟨L,h⟩|⟨L,h⟩:=io h
   ·have⟨t26,O,h⟩:=bo h;have⟨t27,P,h⟩:=bo h;have⟨t28,h28,h⟩:=bo h;have⟨h29,h⟩:=gd h;have⟨t30,h30,h⟩:=bo h;have⟨t31,h31,h⟩:=bo h;have⟨t32,h32,h⟩:=bo h;have q:=Qa (QX Q0 h31) (Qa (Qu h32) (Qa (QX Q0 h31) (allE Qi h30 (allE Qi N (Qa h29 (Qa (QK h28) (Qa (QC P) (allE Qr O (Qa (nef L) q)))))))));let o l:=o (b0::.ix (-9)::b1::.el (Zy t26)::.ix (-9)::b1::.obj (some 0) (.d (.lst false 1 t27)) (Qb k m p s t a b c e f g i) ZV::.ret (I t28)::b1::.el (Q3 t4)::.el (Q3 t30)::.el (Q7 t31)::.ret (I t32)::.el (Q7 t31)::l);obtain⟨T,h⟩|⟨T,h⟩:=io h
    ·have⟨t34,h34,h⟩:=bo h;have⟨t35,h35,h⟩:=bo h;have⟨t36,h36,h⟩:=bo h;have⟨t37,h37,h⟩:=bo h;have⟨t38,h38,h⟩:=bo h;have q:=Qa (((Qx h38).le (.cons (.full _ _ _) (.nil)) (.refl _)):Computes cx 67 [.lst true 1 [I t32,I t34,I t35,I t37]] (I t38)) (Qa (Qu h37) (Qa (W8 h36) (Qa (QX Q0 h31) (Qa (Qu h35) (Qa (Xt h34) (Qa (jDj T) q))))));let o l:=o (b1::.ret (I t34)::.ret (I t35)::.el (Q7 t31)::.ret (I t36)::.ret (I t37)::.ret (I t38)::l);obtain⟨Q,h⟩|⟨Q,h⟩:=io h
     ·have⟨h40,h⟩:=gd h;have⟨t41,h41,h⟩:=bo h;have⟨t42,h42,h⟩:=bo h;obtain rfl:=oi h;exact rfO 0 (o [b0,.obj (some 0) (.d (.agg [I t41.1,I t41.2])) (Qb k m p s t a b c e f g i) ZV,.ret (I t42)]) (Qa (Qu h42) (Qa (WA h41) (Qa h40 (Qa (nef Q) q))))
     obtain rfl:=oi h;exact rfO 0 (o [b1]) (Qa (net Q) q)
    have⟨t34,h34,h⟩:=bo h;have⟨t35,h35,h⟩:=bo h;have⟨t36,h36,h⟩:=bo h;have⟨t37,h37,h⟩:=bo h;have⟨t38,h38,h⟩:=bo h;have q:=Qa (((Qx h38).le (.cons (.full _ _ _) (.nil)) (.refl _)):Computes cx 67 [.lst true 1 [I t32,I t34,I t35,I t37]] (I t38)) (Qa (Qu h37) (Qa (W8 h36) (Qa (QX Q0 h31) (Qa (Qu h35) (Qa (Qu h34) (Qa (QX Q0 h31) (Qa (jEj T) q)))))));let o l:=o (b0::.el (Q7 t31)::.ret (I t34)::.ret (I t35)::.el (Q7 t31)::.ret (I t36)::.ret (I t37)::.ret (I t38)::l);obtain⟨Q,h⟩|⟨Q,h⟩:=io h
    ·have⟨h40,h⟩:=gd h;have⟨t41,h41,h⟩:=bo h;have⟨t42,h42,h⟩:=bo h;obtain rfl:=oi h;exact rfO 0 (o [b0,.obj (some 0) (.d (.agg [I t41.1,I t41.2])) (Qb k m p s t a b c e f g i) ZV,.ret (I t42)]) (Qa (Qu h42) (Qa (WA h41) (Qa h40 (Qa (nef Q) q))))
    obtain rfl:=oi h;exact rfO 0 (o [b1]) (Qa (net Q) q)
   obtain rfl:=oi h;exact rfO 0 (o [b1]) (Qa (net L) q)
  obtain⟨z,h⟩|⟨z,h⟩:=io h
  ·have⟨t23,x,h⟩:=bo h;have⟨t24,H,h⟩:=bo h;have⟨t25,L,h⟩:=bo h;have q:=Qa (((Qx L).le (.cons (.full _ _ _) (.nil)) (.refl _)):Computes cx 67 [.lst true 1 [I t23,I t24]] (I t25)) (Qa (QI H) (Qa (Qv x) (allE Qi N (Qa (mk1 ⟨#[98,105,108,108]⟩ (.agg [.v (.string ⟨#[111]⟩),I 1,.fn (.func 185) [] [],.fn (.func 186) [] []]) z) q))));let o l:=o (.el (.agg [.v (.string ⟨#[111]⟩),I 1,.fn (.func 185) [] [],.fn (.func 186) [] []])::.el (Q3 t4)::.obj (some 0) (.d (I t23)) (Qb k m p s t a b c e f g i) ZV::.obj (some 0) (.d (I t24)) (Qb k m p s t a b c e f g i) ZV::.ret (I t25)::l);obtain⟨O,h⟩|⟨O,h⟩:=io h
   ·have⟨t27,P,h⟩:=bo h;have⟨t28,h28,h⟩:=bo h;have⟨t29,h29,h⟩:=bo h;have⟨h30,h⟩:=gd h;have⟨t31,h31,h⟩:=bo h;have⟨t32,h32,h⟩:=bo h;have⟨t33,T,h⟩:=bo h;have⟨t34,h34,h⟩:=bo h;obtain rfl:=oi h;exact rfO 0 (o [b0,.ix (-9),b1,.el (Zy t27),b1,.obj (some 0) (.d (.lst false 1 t28)) (Qb k m p s t a b c e f g i) ZV,.ret (I t29),b1,.el (Q7 t31),.ret (I t32),.el (Q3 t4),.el (Q7 t31),.ret (I t33),.ret (I t34)]) (Qa (((Qx h34).le (.cons (.full _ _ _) (.nil)) (.refl _)):Computes cx 67 [.lst true 1 [I t32,I t33]] (I t34)) (Qa (Qu T) (Qa (QX Q0 h31) (allE Qi N (Qa (Qu h32) (Qa (QX Q0 h31) (Qa h30 (Qa (QK h29) (Qa (QC h28) (allE Qr P (Qa (nef O) q)))))))))))
   obtain rfl:=oi h;exact rfO 0 (o [b1]) (Qa (net O) q)
  let o l:=o (.el (.agg [.v (.string ⟨#[]⟩),I 0,.fn (.func 154) [] [],.fn (.func 187) [] []])::.el (Q3 t4)::l);obtain⟨x,h⟩|⟨x,h⟩:=io h
  ·have⟨t24,H,h⟩:=bo h;have⟨t25,L,h⟩:=bo h;have⟨t26,O,h⟩:=bo h;have q:=Qa (((Qx O).le (.cons (.full _ _ _) (.nil)) (.refl _)):Computes cx 67 [.lst true 1 [I t24,I t25]] (I t26)) (Qa (QI L) (Qa (Qv H) (allE Qi N (Qa (mk1 ⟨#[117,110,100,111]⟩ (.agg [.v (.string ⟨#[]⟩),I 0,.fn (.func 154) [] [],.fn (.func 187) [] []]) x) q))));let o l:=o (.obj (some 0) (.d (I t24)) (Qb k m p s t a b c e f g i) ZV::.obj (some 0) (.d (I t25)) (Qb k m p s t a b c e f g i) ZV::.ret (I t26)::l);obtain⟨P,h⟩|⟨P,h⟩:=io h
   ·obtain rfl:=oi h;exact rfO 0 (o [b0,.ix (-9),b1]) (Qa (nef P) q)
   obtain rfl:=oi h;exact rfO 0 (o [b1]) (Qa (net P) q)
  cases h
 obtain rfl:=oi h;exact rfO 0 [b1] (Qa (net Y) q)
def ZF (n:Nat)(e c:Int)(f g:Bool)(h i j:Int)(k d l:jVj)(b:(Int×Int)):Option (Int×Int⊕Int) := if b.1<((d).length:Int) then if 0<=b.1/\b.1<((d).length:Int) then((nth (d) (Int.toNat b.1)).bind QM).bind fun a=>if a.2.2.2.2.2=true then if Qh (1000 - a.2.2.2.1) then if Qh (a.2.2.1*(1000 - a.2.2.2.1)) then if Qh ((a.2.2.1*(1000 - a.2.2.2.1))*c) then if Qh (b.2+((a.2.2.1*(1000 - a.2.2.2.1))*c)) then if Qh (b.1+1) then some (.inl ((b.1+1),(b.2+((a.2.2.1*(1000 - a.2.2.2.1))*c)))) else none else none else none else none else none else if Qh (b.1+1) then some (.inl ((b.1+1),b.2)) else none else none else some (.inr b.2)
noncomputable def Jf (c f:Int)(g h:Bool)(i j k:Int)(l a m:jVj):Lp (Int×Int) (Int):=⟨fun b=>[(0,.own 21 0),(8,.own 9 0),(9,.d (I ((a).length:Int))),(10,.d (I b.1))],fun b=>[(0,.box (.agg [.d (I c),.d (I f),.d (B g),.d (B h),.d (I i),.d (I j),.d (I k),.own 8 0,.own 9 0,.own 10 0])),(8,.row 0 1 l),(9,.row 0 6 a),(10,.row 0 7 m),(11,.box (.ptr 0 0 0 0 0)),(13,.box (.d (I b.2))),(17,.box (.ptr 0 0 0 0 0)),(21,.loop true [(6,.fn (.func 118) [] [.ptr 17 0 0 0 0]),(5,.ptr 0 0 0 0 0),(3,.ptr 13 0 0 0 0),(2,.d (I 0)),(1,.ptr 11 0 0 0 0),(0,.ptr 0 0 0 0 0)] [7] (ZY cx.P 62 0).1 (ZY cx.P 62 0).2 22)],fun _=>(.exit 0),fun _=>[],fun e=>[(0,.box (.agg [.d (I c),.d (I f),.d (B g),.d (B h),.d (I i),.d (I j),.d (I k),.own 8 0,.own 9 0,.own 10 0])),(8,.row 0 1 l),(9,.row 0 6 a),(10,.row 0 7 m),(11,.box (.ptr 0 0 0 0 0)),(13,.box (.d (I e))),(17,.box (.ptr 0 0 0 0 0)),(21,.loop true [(6,.fn (.func 118) [] [.ptr 17 0 0 0 0]),(5,.ptr 0 0 0 0 0),(3,.ptr 13 0 0 0 0),(2,.d (I 0)),(1,.ptr 11 0 0 0 0),(0,.ptr 0 0 0 0 0)] [7] (ZY cx.P 62 0).1 (ZY cx.P 62 0).2 22)]⟩
theorem Jb {n c d e f g i j k m p}(s)(r)(h:ZF n c d e f g i j k m p s=some r):Rl (ZJ cx.P 118 0) 23 22 false (Jf c d e f g i j k m p) s r:=by
 unfold ZF at h;obtain⟨a,h⟩|⟨a,h⟩:=io h
 ·have⟨ha2,h⟩:=gd h;have⟨ta3,ha3,h⟩:=bo h;have q:=Qa (QX Qq ha3) (Qa ha2 (Qa (jDj a) QL));let o(l:jOj):=b1::b1::.el (QB ta3)::l;obtain⟨b,h⟩|⟨b,h⟩:=io h
  ·have⟨ha5,h⟩:=gd h;have⟨ha6,h⟩:=gd h;have⟨ha7,h⟩:=gd h;have⟨ha8,h⟩:=gd h;have⟨ha9,h⟩:=gd h;cases h;exact rn 28 (o [b1,.no]) [] [0,8,9,10] [0,8,9,10,11,13,17,21] (Qa ha9 (Qa ha8 (Qa ha7 (Qa ha6 (Qa ha5 (Qa b q))))))
  have⟨ha5,h⟩:=gd h;cases h;exact rn 28 (o [b0,.no]) [] [0,8,9,10] [0,8,9,10,11,13,17,21] (Qa ha5 (Qa (QA b) q))
 cases h;exact rx 28 [b0] [] [] [0,8,9,10,11,13,17,21] (Qa (jEj a) QL)
def WD (n:Nat)(a b:Int)(c d:Bool)(e f g:Int)(h i j:jVj):Option (Int) := (Q2 (ZF n a b c d e f g h i j) n (0,0)).bind fun k=>some k
theorem Gk {n a b c e f g i j k l r}(h:WD n a b c e f g i j k l=some r):ComputesO cx 62 [.ptr 0 0 0 0 0] (some (QJ a b c e f g i j k l)) (.d (I r)) (QJ a b c e f g i j k l) qC:=by unfold WD at h;have⟨t1,h1,h⟩:=bo h;obtain rfl:=oi h;exact rfO 0 [b1,.lp [] [0,8,9,10] [0,8,9,10,11,13,17,21] (.exit 0) [] [(0,.box (.agg [.d (I a),.d (I b),.d (B c),.d (B e),.d (I f),.d (I g),.d (I i),.own 8 0,.own 9 0,.own 10 0])),(8,.row 0 1 j),(9,.row 0 6 k),(10,.row 0 7 l),(11,.box (.ptr 0 0 0 0 0)),(13,.box (.d (I t1))),(17,.box (.ptr 0 0 0 0 0)),(21,.loop true [(6,.fn (.func 118) [] [.ptr 17 0 0 0 0]),(5,.ptr 0 0 0 0 0),(3,.ptr 13 0 0 0 0),(2,.d (I 0)),(1,.ptr 11 0 0 0 0),(0,.ptr 0 0 0 0 0)] [7] (ZY cx.P 62 0).1 (ZY cx.P 62 0).2 22)] 70] (Qa (QH Jb h1) QL)
def Wh (n:Nat)(b a g:Int)(h i:Bool)(e f j:Int)(k l d:jVj):Option (Int×Int) := (WD n a g h i e f j k l d).bind fun c=>if Qh (b - a) then if Qh (c*(b - a)) then if Qh (e+(c*(b - a))) then if Qh (f+(c*(b - a))) then some ((e+(c*(b - a))),(f+(c*(b - a)))) else none else none else none else none
theorem Jm {n m b c e f g i j k l a r}(h:Wh n m b c e f g i j k l a=some r):ComputesO cx 71 [.ptr 0 0 0 0 0,.d (I m)] (some (QJ b c e f g i j k l a)) (.d (.agg [I r.1,I r.2])) (QJ b c e f g i j k l a) qC:=by unfold Wh at h;have⟨t1,h1,h⟩:=bo h;have⟨h2,h⟩:=gd h;have⟨h3,h⟩:=gd h;have⟨h4,h⟩:=gd h;have⟨h5,h⟩:=gd h;cases h;exact rfO 0 [.obj (some 0) (.d (I t1)) (QJ b c e f g i j k l a) qC] (Qa h5 (Qa h4 (Qa h3 (Qa h2 (Qa (Gk h1) QL)))))
def ZA (n:Nat)(f g:Int)(h i:Bool)(j k l:Int)(m c e:jVj)(b:(Int×jVj)):Option (Int×jVj⊕jVj) := if b.1<((c).length:Int) then if 0<=b.1/\b.1<((c).length:Int) then((nth (c) (Int.toNat b.1)).bind QM).bind fun a=>(ZN n a.1 a.2.1 a.2.2.1 a.2.2.2.1 a.2.2.2.2.1 a.2.2.2.2.2).bind fun d=>if Wa 16 ((b.2).length+1) then if Qh (b.1+1) then some (.inl ((b.1+1),(b.2++([.v (.string d)]:jVj)))) else none else none else none else some (.inr b.2)
noncomputable def Kv (f g:Int)(h i:Bool)(j k l:Int)(m b a:jVj):Lp (Int×jVj) (jVj):=⟨fun c=>[(1,.d (.fn (.func 203) [] [])),(5,.own 28 0),(8,.own 9 0),(9,.d (I ((b).length:Int))),(10,.d (I c.1))],fun c=>[(0,.box (.agg [.d (I f),.d (I g),.d (B h),.d (B i),.d (I j),.d (I k),.d (I l),.own 8 0,.own 9 0,.own 10 0])),(8,.row 0 1 m),(9,.row 0 6 b),(10,.row 0 7 a),(28,.row 0 1 c.2)],fun _=>(.exit 0),fun _=>[(5,.own 28 0)],fun e=>[(0,.box (.agg [.d (I f),.d (I g),.d (B h),.d (B i),.d (I j),.d (I k),.d (I l),.own 8 0,.own 9 0,.own 10 0])),(8,.row 0 1 m),(9,.row 0 6 b),(10,.row 0 7 a),(28,.row 0 1 e)]⟩
theorem Kt {n c d e f g i j k l b}(m)(r)(h:ZA n c d e f g i j k l b m=some r):Rl (ZJ cx.P 63 0) 22 23 false (Kv c d e f g i j k l b) m r:=by
 unfold ZA at h;obtain⟨a,h⟩|⟨a,h⟩:=io h
 ·have⟨ha2,h⟩:=gd h;have⟨ta3,ha3,h⟩:=bo h;have⟨ta4,ha4,h⟩:=bo h;have⟨ha5,h⟩:=gd h;have⟨ha6,h⟩:=gd h;cases h;exact rn 29 [b1,b1,.el (QB ta3),.ret (.v (.string ta4)),b1] [] [1,5,8,9,10] [0,8,9,10,28] (Qa ha6 (Qa (ro 9 ha5) (Qa (Yw ha4) (Qa (QX Qq ha3) (Qa ha2 (Qa (jDj a) QL))))))
 cases h;exact rx 29 [b0] [] [5] [0,8,9,10,28] (Qa (jEj a) QL)
def Zz (n:Nat)(e f:Int)(g h:Bool)(i j k:Int)(l m c:jVj)(b:(Int×jVj)):Option (Int×jVj⊕jVj) := if b.1<((c).length:Int) then if 0<=b.1/\b.1<((c).length:Int) then((nth (c) (Int.toNat b.1)).bind Z6).bind fun a=>(ZM n a.1 a.2.1 a.2.2.1 a.2.2.2.1 a.2.2.2.2.1 a.2.2.2.2.2.1 a.2.2.2.2.2.2).bind fun d=>if Wa 16 ((b.2).length+1) then if Qh (b.1+1) then some (.inl ((b.1+1),(b.2++([.v (.string d)]:jVj)))) else none else none else none else some (.inr b.2)
noncomputable def Ku (c f:Int)(g h:Bool)(i j k:Int)(l m a:jVj):Lp (Int×jVj) (jVj):=⟨fun b=>[(1,.d (.fn (.func 205) [] [])),(5,.own 28 0),(8,.own 10 0),(9,.d (I ((a).length:Int))),(10,.d (I b.1))],fun b=>[(0,.box (.agg [.d (I c),.d (I f),.d (B g),.d (B h),.d (I i),.d (I j),.d (I k),.own 8 0,.own 9 0,.own 10 0])),(8,.row 0 1 l),(9,.row 0 6 m),(10,.row 0 7 a),(28,.row 0 1 b.2)],fun _=>(.exit 0),fun _=>[(5,.own 28 0)],fun e=>[(0,.box (.agg [.d (I c),.d (I f),.d (B g),.d (B h),.d (I i),.d (I j),.d (I k),.own 8 0,.own 9 0,.own 10 0])),(8,.row 0 1 l),(9,.row 0 6 m),(10,.row 0 7 a),(28,.row 0 1 e)]⟩
theorem Ks {n c d e f g i j k l b}(m)(r)(h:Zz n c d e f g i j k l b m=some r):Rl (ZJ cx.P 204 0) 22 23 false (Ku c d e f g i j k l b) m r:=by
 unfold Zz at h;obtain⟨a,h⟩|⟨a,h⟩:=io h
 ·have⟨ha2,h⟩:=gd h;have⟨ta3,ha3,h⟩:=bo h;have⟨ta4,ha4,h⟩:=bo h;have⟨ha5,h⟩:=gd h;have⟨ha6,h⟩:=gd h;cases h;exact rn 29 [b1,b1,.el (Q7 ta3),.ret (.v (.string ta4)),b1] [] [1,5,8,9,10] [0,8,9,10,28] (Qa ha6 (Qa (ro 9 ha5) (Qa (Yv ha4) (Qa (QX Q0 ha3) (Qa ha2 (Qa (jDj a) QL))))))
 cases h;exact rx 29 [b0] [] [5] [0,8,9,10,28] (Qa (jEj a) QL)
def QQ (n:Nat)(c d e:Int)(f g:Bool)(h i j:Int)(k l a:jVj):Option (jVj) := if c=115 then none else if c=109 then(Q2 (ZA n d e f g h i j k l a) n (0,[])).bind fun b=>some b else(Q2 (Zz n d e f g h i j k l a) n (0,[])).bind fun b=>some b
theorem Zn {n o b c e f g i j k l a r}(h:QQ n o b c e f g i j k l a=some r):ComputesO cx 121 [.ptr 0 0 0 0 0,.d (.v (.int .u8 o))] (some (QJ b c e f g i j k l a)) (.d (.lst false 1 r)) (QJ b c e f g i j k l a) qC:=by
 unfold QQ at h;obtain⟨p,h⟩|⟨p,h⟩:=io h
 ·cases h
 have q:=Qa (eqf p) QL;obtain⟨m,h⟩|⟨m,h⟩:=io h
 ·have⟨t3,h3,h⟩:=bo h;obtain rfl:=oi h;exact rfO 0 [b0,b1,b1,.lp [5,1] [1,5,8,9,10] [0,8,9,10,28] (.exit 0) [(5,.own 28 0)] [(0,.box (.agg [.d (I b),.d (I c),.d (B e),.d (B f),.d (I g),.d (I i),.d (I j),.own 8 0,.own 9 0,.own 10 0])),(8,.row 0 1 k),(9,.row 0 6 l),(10,.row 0 7 a),(28,.row 0 1 t3)] 54] (Qa (QH Kt h3) (Qa (eqt m) q))
 have⟨t3,h3,h⟩:=bo h;obtain rfl:=oi h;exact rfO 0 [b0,b0,b1,.lp [5,1] [1,5,8,9,10] [0,8,9,10,28] (.exit 0) [(5,.own 28 0)] [(0,.box (.agg [.d (I b),.d (I c),.d (B e),.d (B f),.d (I g),.d (I i),.d (I j),.own 8 0,.own 9 0,.own 10 0])),(8,.row 0 1 k),(9,.row 0 6 l),(10,.row 0 7 a),(28,.row 0 1 t3)] 54] (Qa (QH Ks h3) (Qa (eqf m) q))
def WC (n:Nat)(e a:jSj)(f g:Int)(h i:Bool)(j:Int)(k:jSj)(c l:jVj)(b:jSj):Option (Bool) := (el Ww c 0).bind fun d=>some (a.toList==d.toList)
theorem U4 {n b c d e f g i j k l a r}(h:WC n b c d e f g i j k l a=some r):Computes cx 167 [.agg [.v (.string b),.v (.string c),I d,I e,B f,B g],.ref (.agg [I i,.v (.string j),.lst false 1 k,.lst false 1 l,.v (.string a)]) 0] (B r):=by unfold WC at h;have⟨t1,h1,h⟩:=bo h;cases h;exact rf [.el (Zy t1)] (allE Qr h1 QL)
def Z1 (n:Nat)(e:Int)(f:jSj)(k l:jVj)(m:jSj)(o p:Int)(q r:Bool)(s g h:Int)(i c j:jVj)(b:(Int×jVj)):Option (Int×jVj⊕jVj) := if b.1<((c).length:Int) then if 0<=b.1/\b.1<((b.2).length:Int) then((nth (b.2) (Int.toNat b.1)).bind QM).bind fun a=>(WC n a.1 a.2.1 a.2.2.1 a.2.2.2.1 a.2.2.2.2.1 a.2.2.2.2.2 e f k l m).bind fun d=>if d=true then if Qh (b.1+1) then some (.inl ((b.1+1),(List.set b.2 (Int.toNat b.1) (.agg [.v (.string a.1),.v (.string a.2.1),I a.2.2.1,I a.2.2.2.1,B a.2.2.2.2.1,B false]:D)))) else none else if Qh (b.1+1) then some (.inl ((b.1+1),b.2)) else none else none else some (.inr b.2)
noncomputable def J6 (n:Int)(o:jSj)(p q:jVj)(r:jSj)(i j:Int)(k l:Bool)(m a b:Int)(c g f:jVj):Lp (Int×jVj) (jVj):=⟨fun h=>[(0,.ptr 0 0 0 0 0),(1,.d (.fn (.func 167) [] [.ref (.agg [I n,.v (.string o),.lst false 1 p,.lst false 1 q,.v (.string r)]) 0])),(9,.own 9 0),(10,.d (I ((g).length:Int))),(11,.d (I h.1))],fun h=>[(0,.box (.agg [.d (I i),.d (I j),.d (B k),.d (B l),.d (I m),.d (I a),.d (I b),.own 8 0,.own 9 0,.own 10 0])),(8,.row 0 1 c),(9,.row 0 6 h.2),(10,.row 0 7 f)],fun _=>(.exit 0),fun _=>[],fun e=>[(0,.box (.agg [.d (I i),.d (I j),.d (B k),.d (B l),.d (I m),.d (I a),.d (I b),.own 8 0,.own 9 0,.own 10 0])),(8,.row 0 1 c),(9,.row 0 6 e),(10,.row 0 7 f)]⟩
theorem J4 {n i j k m p s t u v w c d e f g}(x)(r)(h:Z1 n i j k m p s t u v w c d e f g x=some r):Rl (ZJ cx.P 166 0) 27 11 false (J6 i j k m p s t u v w c d e f g) x r:=by
 unfold Z1 at h;obtain⟨a,h⟩|⟨a,h⟩:=io h
 ·have⟨ha2,h⟩:=gd h;have⟨ta3,ha3,h⟩:=bo h;have⟨ta4,ha4,h⟩:=bo h;have q:=Qa (U4 ha4) (Qa (QX Qq ha3) (Qa ha2 (Qa (jDj a) QL)));let o(l:jOj):=b1::b1::.el (QB ta3)::.ret (B ta4)::l;obtain⟨b,h⟩|⟨b,h⟩:=io h
  ·have⟨ha6,h⟩:=gd h;cases h;exact rn 17 (o [b1,b1,.el (QB ta3)]) [] [0,1,9,10,11] [0,8,9,10] (Qa ha6 (Qa (QX Qq ha3) (Qa ha2 (Qa b q))))
  have⟨ha6,h⟩:=gd h;cases h;exact rn 17 (o [b0]) [] [0,1,9,10,11] [0,8,9,10] (Qa ha6 (Qa (QA b) q))
 cases h;exact rx 17 [b0] [] [] [0,8,9,10] (Qa (jEj a) QL)
def WR (n:Nat)(f:Int)(g:jSj)(h i:jVj)(j:jSj)(k l:Int)(m o:Bool)(p b c:Int)(d a e:jVj):Option (jVj) := (Q2 (Z1 n f g h i j k l m o p b c d a e) n (0,a)).bind fun q=>some q
theorem G3 {n m o p q s g i j k l a b c f e r}(h:WR n m o p q s g i j k l a b c f e=some r):ComputesO cx 166 [.ptr 0 0 0 0 0,.d (.fn (.func 167) [] [.ref (.agg [I m,.v (.string o),.lst false 1 p,.lst false 1 q,.v (.string s)]) 0])] (some (QJ g i j k l a b c f e)) (.d (.tup [])) (QJ g i j k l a b c r e) [false,false,false,false,false,false,false,true,true,true]:=by unfold WR at h;have⟨t1,h1,h⟩:=bo h;obtain rfl:=oi h;exact rfO 0 [.lp [] [0,1,9,10,11] [0,8,9,10] (.exit 0) [] [(0,.box (.agg [.d (I g),.d (I i),.d (B j),.d (B k),.d (I l),.d (I a),.d (I b),.own 8 0,.own 9 0,.own 10 0])),(8,.row 0 1 c),(9,.row 0 6 t1),(10,.row 0 7 e)] 48] (Qa (QH J4 h1) QL)
def WB (n:Nat)(a b:jSj)(c d:Int)(e f:Bool):Option (Bool) := some true
theorem U3 {n a b c d e f r}(h:WB n a b c d e f=some r):Computes cx 177 [.agg [.v (.string a),.v (.string b),I c,I d,B e,B f]] (B r):=by unfold WB at h;obtain rfl:=oi h;exact rf [] QL
def ZI (n:Nat)(e f:Int)(g h:Bool)(i j k:Int)(l d m:jVj)(b:(Int×jVj)):Option (Int×jVj⊕jVj) := if b.1<((d).length:Int) then if 0<=b.1/\b.1<((b.2).length:Int) then((nth (b.2) (Int.toNat b.1)).bind QM).bind fun a=>(WB n a.1 a.2.1 a.2.2.1 a.2.2.2.1 a.2.2.2.2.1 a.2.2.2.2.2).bind fun c=>if c=true then if Qh (b.1+1) then some (.inl ((b.1+1),(List.set b.2 (Int.toNat b.1) (.agg [.v (.string a.1),.v (.string a.2.1),I a.2.2.1,I a.2.2.2.1,B a.2.2.2.2.1,B false]:D)))) else none else if Qh (b.1+1) then some (.inl ((b.1+1),b.2)) else none else none else some (.inr b.2)
noncomputable def Ji (b c:Int)(f g:Bool)(h i j:Int)(k m l:jVj):Lp (Int×jVj) (jVj):=⟨fun a=>[(0,.ptr 0 0 0 0 0),(1,.d (.fn (.func 177) [] [])),(9,.own 9 0),(10,.d (I ((m).length:Int))),(11,.d (I a.1))],fun a=>[(0,.box (.agg [.d (I b),.d (I c),.d (B f),.d (B g),.d (I h),.d (I i),.d (I j),.own 8 0,.own 9 0,.own 10 0])),(8,.row 0 1 k),(9,.row 0 6 a.2),(10,.row 0 7 l)],fun _=>(.exit 0),fun _=>[],fun e=>[(0,.box (.agg [.d (I b),.d (I c),.d (B f),.d (B g),.d (I h),.d (I i),.d (I j),.own 8 0,.own 9 0,.own 10 0])),(8,.row 0 1 k),(9,.row 0 6 e),(10,.row 0 7 l)]⟩
theorem Je {n c d e f g i j k m p}(s)(r)(h:ZI n c d e f g i j k m p s=some r):Rl (ZJ cx.P 166 0) 27 11 false (Ji c d e f g i j k m p) s r:=by
 unfold ZI at h;obtain⟨a,h⟩|⟨a,h⟩:=io h
 ·have⟨ha2,h⟩:=gd h;have⟨ta3,ha3,h⟩:=bo h;have⟨ta4,ha4,h⟩:=bo h;have q:=Qa (U3 ha4) (Qa (QX Qq ha3) (Qa ha2 (Qa (jDj a) QL)));let o(l:jOj):=b1::b1::.el (QB ta3)::.ret (B ta4)::l;obtain⟨b,h⟩|⟨b,h⟩:=io h
  ·have⟨ha6,h⟩:=gd h;cases h;exact rn 17 (o [b1,b1,.el (QB ta3)]) [] [0,1,9,10,11] [0,8,9,10] (Qa ha6 (Qa (QX Qq ha3) (Qa ha2 (Qa b q))))
  have⟨ha6,h⟩:=gd h;cases h;exact rn 17 (o [b0]) [] [0,1,9,10,11] [0,8,9,10] (Qa ha6 (Qa (QA b) q))
 cases h;exact rx 17 [b0] [] [] [0,8,9,10] (Qa (jEj a) QL)
def WG (n:Nat)(b c:Int)(d e:Bool)(f g h:Int)(i a j:jVj):Option (jVj) := (Q2 (ZI n b c d e f g h i a j) n (0,a)).bind fun k=>some k
theorem Gn {n a b c e f g i j l k r}(h:WG n a b c e f g i j l k=some r):ComputesO cx 166 [.ptr 0 0 0 0 0,.d (.fn (.func 177) [] [])] (some (QJ a b c e f g i j l k)) (.d (.tup [])) (QJ a b c e f g i j r k) [false,false,false,false,false,false,false,true,true,true]:=by unfold WG at h;have⟨t1,h1,h⟩:=bo h;obtain rfl:=oi h;exact rfO 0 [.lp [] [0,1,9,10,11] [0,8,9,10] (.exit 0) [] [(0,.box (.agg [.d (I a),.d (I b),.d (B c),.d (B e),.d (I f),.d (I g),.d (I i),.own 8 0,.own 9 0,.own 10 0])),(8,.row 0 1 j),(9,.row 0 6 t1),(10,.row 0 7 k)] 48] (Qa (QH Je h1) QL)
def Wv (n:Nat)(d:jSj)(e f g a b:Int)(h:Bool):Option (Int) := if Qh (a*b) then if Qh (2*a) then(Zg n d e f g a b h).bind fun c=>if Qh ((2*a)*c) then if Qh ((a*b) - ((2*a)*c)) then some ((a*b) - ((2*a)*c)) else none else none else none else none
theorem YN {n a b c d e f g r}(h:Wv n a b c d e f g=some r):Computes cx 79 [.agg [.v (.string a),I b,I c,I d,I e,I f,B g]] (I r):=by unfold Wv at h;have⟨h1,h⟩:=gd h;have⟨h2,h⟩:=gd h;have⟨t3,h3,h⟩:=bo h;have⟨h4,h⟩:=gd h;have⟨h5,h⟩:=gd h;cases h;exact rf [.ret (I t3)] (Qa h5 (Qa h4 (Qa (W8 h3) (Qa h2 (Qa h1 QL)))))
def Qz (n:Nat)(M:Int)(p:jSj)(t z:jVj)(N:jSj)(O j:Int)(k l:Bool)(P J c:Int)(d a b:jVj):Option (jRj) := (el Vt z 0).bind fun h=>(Wh n h O j k l P J c d a b).bind fun e=>if p.data.toList=[115,101,99,116,111,114] then(el Ww t 0).bind fun Q=>if Wa 16 ((d).length+1) then some (h,j,k,l,e.1,e.2,c,(d++([.v (.string Q)]:jVj)),a,b) else none else if p.data.toList=[109,105,114,114,111,114] then(el Ww t 0).bind fun S=>(el Ww t 1).bind fun L=>(el Vt z 1).bind fun H=>if Wa 56 ((a).length+1) then some (h,j,k,l,e.1,e.2,c,d,(a++([.agg [.v (.string S),.v (.string L),I H,I 0,B false,B false]]:jVj)),b) else none else if p.data.toList=[115,111,105,108] then(el Ww t 0).bind fun L=>(QQ n 109 h j k l e.1 e.2 c d a b).bind fun H=>(QE n H L).bind fun A=>if 0<=A/\A<((a).length:Int) then(el Vt z 1).bind fun o=>((nth (a) (Int.toNat A)).bind QM).bind fun f=>some (h,j,k,l,e.1,e.2,c,d,(List.set a (Int.toNat A) (.agg [.v (.string f.1),.v (.string f.2.1),I f.2.2.1,I o,B f.2.2.2.2.1,B f.2.2.2.2.2]:D)),b) else none else if p.data.toList=[99,108,101,97,110] then(el Ww t 0).bind fun H=>(QQ n 109 h j k l e.1 e.2 c d a b).bind fun A=>(QE n A H).bind fun C=>if 0<=C/\C<((a).length:Int) then((nth (a) (Int.toNat C)).bind QM).bind fun f=>some (h,j,k,l,e.1,e.2,c,d,(List.set a (Int.toNat C) (.agg [.v (.string f.1),.v (.string f.2.1),I f.2.2.1,I 0,B f.2.2.2.2.1,B f.2.2.2.2.2]:D)),b) else none else if p.data.toList=[100,101,102,101,99,116] then(el Ww t 0).bind fun A=>(QQ n 109 h j k l e.1 e.2 c d a b).bind fun C=>(QE n C A).bind fun o=>if 0<=o/\o<((a).length:Int) then((nth (a) (Int.toNat o)).bind QM).bind fun i=>some (h,j,k,l,e.1,e.2,c,d,(List.set a (Int.toNat o) (.agg [.v (.string i.1),.v (.string i.2.1),I i.2.2.1,I i.2.2.2.1,B true,B i.2.2.2.2.2]:D)),b) else none else if p.data.toList=[114,101,112,97,105,114] then(el Ww t 0).bind fun C=>(QQ n 109 h j k l e.1 e.2 c d a b).bind fun o=>(QE n o C).bind fun f=>if 0<=f/\f<((a).length:Int) then((nth (a) (Int.toNat f)).bind QM).bind fun m=>some (h,j,k,l,e.1,e.2,c,d,(List.set a (Int.toNat f) (.agg [.v (.string m.1),.v (.string m.2.1),I m.2.2.1,I m.2.2.2.1,B false,B m.2.2.2.2.2]:D)),b) else none else if p.data.toList=[97,105,109] then(el Ww t 0).bind fun o=>(QQ n 109 h j k l e.1 e.2 c d a b).bind fun f=>(QE n f o).bind fun i=>if 0<=i/\i<((a).length:Int) then((nth (a) (Int.toNat i)).bind QM).bind fun w=>some (h,j,k,l,e.1,e.2,c,d,(List.set a (Int.toNat i) (.agg [.v (.string w.1),.v (.string w.2.1),I w.2.2.1,I w.2.2.2.1,B w.2.2.2.2.1,B true]:D)),b) else none else if p.data.toList=[112,97,114,107] then(el Ww t 0).bind fun f=>(QQ n 109 h j k l e.1 e.2 c d a b).bind fun i=>(QE n i f).bind fun m=>if 0<=m/\m<((a).length:Int) then((nth (a) (Int.toNat m)).bind QM).bind fun x=>some (h,j,k,l,e.1,e.2,c,d,(List.set a (Int.toNat m) (.agg [.v (.string x.1),.v (.string x.2.1),I x.2.2.1,I x.2.2.2.1,B x.2.2.2.2.1,B false]:D)),b) else none else if p.data.toList=[100,105,109] then(WR n M p t z N h j k l e.1 e.2 c d a b).bind fun i=>some (h,j,k,l,e.1,e.2,c,d,i,b) else if p.data.toList=[115,117,110] then(el Vt z 1).bind fun m=>some (h,m,k,l,e.1,e.2,c,d,a,b) else if p.data.toList=[102,105,108,108] then some (h,j,true,l,e.1,e.2,c,d,a,b) else if p.data.toList=[100,114,97,105,110] then some (h,j,false,l,e.1,e.2,c,d,a,b) else if p.data.toList=[116,114,105,112] then(WG n h j k true e.1 e.2 c d a b).bind fun K=>some (h,j,k,true,e.1,e.2,c,d,K,b) else if p.data.toList=[114,101,115,101,116] then some (h,j,k,false,e.1,e.2,c,d,a,b) else if p.data.toList=[111,102,102,101,114] then(WL n M p t z N).bind fun F=>(el Ww t 0).bind fun E=>(el Vt z 3).bind fun y=>(el Vt z 4).bind fun q=>if Wa 64 ((b).length+1) then some (h,j,k,l,e.1,e.2,c,d,a,(b++([.agg [.v (.string E),I F.1,I F.2.1,I y,I q,I 0,B false]]:jVj))) else none else if p.data.toList=[100,101,108,105,118,101,114] then(el Ww t 0).bind fun E=>(QQ n 111 h j k l e.1 e.2 c d a b).bind fun y=>(QE n y E).bind fun q=>if 0<=q/\q<((b).length:Int) then((nth (b) (Int.toNat q)).bind Z6).bind fun r=>(el Vt z 1).bind fun g=>if Qh (r.2.2.2.2.2.1+g) then if Qh (1000000*g) then if Qh (e.2 - (1000000*g)) then some (h,j,k,l,e.1,(e.2 - (1000000*g)),c,d,a,(List.set b (Int.toNat q) (.agg [.v (.string r.1),I r.2.1,I r.2.2.1,I r.2.2.2.1,I r.2.2.2.2.1,I (r.2.2.2.2.2.1+g),B r.2.2.2.2.2.2]:D))) else none else none else none else none else if p.data.toList=[98,105,108,108] then(el Ww t 0).bind fun y=>(QQ n 111 h j k l e.1 e.2 c d a b).bind fun q=>(QE n q y).bind fun u=>if 0<=u/\u<((b).length:Int) then((nth (b) (Int.toNat u)).bind Z6).bind fun g=>((nth ((List.set b (Int.toNat u) (.agg [.v (.string g.1),I g.2.1,I g.2.2.1,I g.2.2.2.1,I g.2.2.2.2.1,I g.2.2.2.2.2.1,B true]:D)):jVj) (Int.toNat u)).bind Z6).bind fun s=>(Wv n s.1 s.2.1 s.2.2.1 s.2.2.2.1 s.2.2.2.2.1 s.2.2.2.2.2.1 s.2.2.2.2.2.2).bind fun G=>if Qh (c+G) then some (h,j,k,l,e.1,e.2,(c+G),d,a,(List.set b (Int.toNat u) (.agg [.v (.string g.1),I g.2.1,I g.2.2.1,I g.2.2.2.1,I g.2.2.2.2.1,I g.2.2.2.2.2.1,B true]:D))) else none else none else if p.data.toList=[117,110,100,111] then some (h,j,k,l,e.1,e.2,c,d,a,b) else none
theorem Uh {n M N O P Q K m p u L E b c i e r}(h:Qz n M N O P Q K m p u L E b c i e=some r):ComputesO cx 190 [.ptr 0 0 0 0 0,.d (.agg [I M,.v (.string N),.lst false 1 O,.lst false 1 P,.v (.string Q)])] (some (QJ K m p u L E b c i e)) (.d (.tup [])) (QJ' r) []:=by
 unfold Qz at h;have⟨t1,h1,h⟩:=bo h;have⟨t2,h2,h⟩:=bo h;have q:=allE Qi h1 (Qa (Jm h2) (allE Qi h1 QL));let o(l:jOj):=.el (Q3 t1)::.obj (some 0) (.d (.agg [I t2.1,I t2.2])) (QJ K m p u L E b c i e) qC::.el (Q3 t1)::b1::(no 28 l);obtain⟨S,h⟩|⟨S,h⟩:=io h
 ·have⟨t4,J,h⟩:=bo h;have⟨F,h⟩:=gd h;cases h;exact rfO 0 (o [.el (.agg [.v (.string ⟨#[83]⟩),I 1,.fn (.func 147) [] [],.fn (.func 148) [] []]),.ix (-9),b1,.el (Zy t4),b1]) (Qa (ro 9 F) (allE Qr J (Qa (mk1 ⟨#[115,101,99,116,111,114]⟩ (.agg [.v (.string ⟨#[83]⟩),I 1,.fn (.func 147) [] [],.fn (.func 148) [] []]) S) q)))
 obtain⟨J,h⟩|⟨J,h⟩:=io h
 ·have⟨t5,F,h⟩:=bo h;have⟨t6,G,h⟩:=bo h;have⟨t7,C,h⟩:=bo h;have⟨w,h⟩:=gd h;cases h;exact rfO 0 (o [.el (.agg [.v (.string ⟨#[77,115]⟩),I 2,.fn (.func 149) [] [],.fn (.func 150) [] []]),.ix (-9),b1,.el (Zy t5),.el (Zy t6),.el (Q3 t7),b1]) (Qa (ro 73 w) (allE Qi C (allE Qr G (allE Qr F (Qa (mk1 ⟨#[109,105,114,114,111,114]⟩ (.agg [.v (.string ⟨#[77,115]⟩),I 2,.fn (.func 149) [] [],.fn (.func 150) [] []]) J) q)))))
 obtain⟨F,h⟩|⟨F,h⟩:=io h
 ·have⟨t6,G,h⟩:=bo h;have⟨t7,C,h⟩:=bo h;have⟨t8,w,h⟩:=bo h;have⟨x,h⟩:=gd h;have⟨t10,f,h⟩:=bo h;have⟨t11,a,h⟩:=bo h;cases h;exact rfO 0 (o [.el (.agg [.v (.string ⟨#[109]⟩),I 2,.fn (.func 151) [] [],.fn (.func 215) [] [.ref (.fn (.func 153) [] []) 0]]),.ix (-9),b1,.el (Zy t6),.ix (-9),b1,.obj (some 0) (.d (.lst false 1 t7)) (QJ t1 m p u t2.1 t2.2 b c i e) qC,.ret (I t8),b1,.ix (-9),b1,.el (Q3 t10),.el (QB t11)]) (Qa (QX Qq a) (allE Qi f (Qa x (Qa (QK w) (Qa (Zn C) (allE Qr G (Qa (mk1 ⟨#[115,111,105,108]⟩ (.agg [.v (.string ⟨#[109]⟩),I 2,.fn (.func 151) [] [],.fn (.func 215) [] [.ref (.fn (.func 153) [] []) 0]]) F) q)))))))
 obtain⟨G,h⟩|⟨G,h⟩:=io h
 ·have⟨t7,C,h⟩:=bo h;have⟨t8,w,h⟩:=bo h;have⟨t9,x,h⟩:=bo h;have⟨f,h⟩:=gd h;have⟨t11,a,h⟩:=bo h;cases h;exact rfO 0 (o [.el (.agg [.v (.string ⟨#[109]⟩),I 1,.fn (.func 154) [] [],.fn (.func 215) [] [.ref (.fn (.func 155) [] []) 0]]),.ix (-9),b1,.el (Zy t7),.ix (-9),b1,.obj (some 0) (.d (.lst false 1 t8)) (QJ t1 m p u t2.1 t2.2 b c i e) qC,.ret (I t9),b1,.ix (-9),b1,.el (QB t11)]) (Qa (QX Qq a) (Qa f (Qa (QK x) (Qa (Zn w) (allE Qr C (Qa (mk1 ⟨#[99,108,101,97,110]⟩ (.agg [.v (.string ⟨#[109]⟩),I 1,.fn (.func 154) [] [],.fn (.func 215) [] [.ref (.fn (.func 155) [] []) 0]]) G) q))))))
 obtain⟨C,h⟩|⟨C,h⟩:=io h
 ·have⟨t8,w,h⟩:=bo h;have⟨t9,x,h⟩:=bo h;have⟨t10,f,h⟩:=bo h;have⟨a,h⟩:=gd h;have⟨t12,g,h⟩:=bo h;cases h;exact rfO 0 (o [.el (.agg [.v (.string ⟨#[109]⟩),I 1,.fn (.func 216) [] [.ref (.fn (.func 157) [] []) 0],.fn (.func 215) [] [.ref (.fn (.func 158) [] []) 0]]),.ix (-9),b1,.el (Zy t8),.ix (-9),b1,.obj (some 0) (.d (.lst false 1 t9)) (QJ t1 m p u t2.1 t2.2 b c i e) qC,.ret (I t10),b1,.ix (-9),b1,.el (QB t12)]) (Qa (QX Qq g) (Qa a (Qa (QK f) (Qa (Zn x) (allE Qr w (Qa (mk1 ⟨#[100,101,102,101,99,116]⟩ (.agg [.v (.string ⟨#[109]⟩),I 1,.fn (.func 216) [] [.ref (.fn (.func 157) [] []) 0],.fn (.func 215) [] [.ref (.fn (.func 158) [] []) 0]]) C) q))))))
 obtain⟨w,h⟩|⟨w,h⟩:=io h
 ·have⟨t9,x,h⟩:=bo h;have⟨t10,f,h⟩:=bo h;have⟨t11,a,h⟩:=bo h;have⟨g,h⟩:=gd h;have⟨t13,j,h⟩:=bo h;cases h;exact rfO 0 (o [.el (.agg [.v (.string ⟨#[109]⟩),I 1,.fn (.func 216) [] [.ref (.fn (.func 159) [] []) 0],.fn (.func 215) [] [.ref (.fn (.func 160) [] []) 0]]),.ix (-9),b1,.el (Zy t9),.ix (-9),b1,.obj (some 0) (.d (.lst false 1 t10)) (QJ t1 m p u t2.1 t2.2 b c i e) qC,.ret (I t11),b1,.ix (-9),b1,.el (QB t13)]) (Qa (QX Qq j) (Qa g (Qa (QK a) (Qa (Zn f) (allE Qr x (Qa (mk1 ⟨#[114,101,112,97,105,114]⟩ (.agg [.v (.string ⟨#[109]⟩),I 1,.fn (.func 216) [] [.ref (.fn (.func 159) [] []) 0],.fn (.func 215) [] [.ref (.fn (.func 160) [] []) 0]]) w) q))))))
 obtain⟨x,h⟩|⟨x,h⟩:=io h
 ·have⟨t10,f,h⟩:=bo h;have⟨t11,a,h⟩:=bo h;have⟨t12,g,h⟩:=bo h;have⟨j,h⟩:=gd h;have⟨t14,s,h⟩:=bo h;cases h;exact rfO 0 (o [.el (.agg [.v (.string ⟨#[109]⟩),I 1,.fn (.func 216) [] [.ref (.fn (.func 161) [] []) 0],.fn (.func 215) [] [.ref (.fn (.func 162) [] []) 0]]),.ix (-9),b1,.el (Zy t10),.ix (-9),b1,.obj (some 0) (.d (.lst false 1 t11)) (QJ t1 m p u t2.1 t2.2 b c i e) qC,.ret (I t12),b1,.ix (-9),b1,.el (QB t14)]) (Qa (QX Qq s) (Qa j (Qa (QK g) (Qa (Zn a) (allE Qr f (Qa (mk1 ⟨#[97,105,109]⟩ (.agg [.v (.string ⟨#[109]⟩),I 1,.fn (.func 216) [] [.ref (.fn (.func 161) [] []) 0],.fn (.func 215) [] [.ref (.fn (.func 162) [] []) 0]]) x) q))))))
 obtain⟨f,h⟩|⟨f,h⟩:=io h
 ·have⟨t11,a,h⟩:=bo h;have⟨t12,g,h⟩:=bo h;have⟨t13,j,h⟩:=bo h;have⟨s,h⟩:=gd h;have⟨t15,y,h⟩:=bo h;cases h;exact rfO 0 (o [.el (.agg [.v (.string ⟨#[109]⟩),I 1,.fn (.func 216) [] [.ref (.fn (.func 163) [] []) 0],.fn (.func 215) [] [.ref (.fn (.func 164) [] []) 0]]),.ix (-9),b1,.el (Zy t11),.ix (-9),b1,.obj (some 0) (.d (.lst false 1 t12)) (QJ t1 m p u t2.1 t2.2 b c i e) qC,.ret (I t13),b1,.ix (-9),b1,.el (QB t15)]) (Qa (QX Qq y) (Qa s (Qa (QK j) (Qa (Zn g) (allE Qr a (Qa (mk1 ⟨#[112,97,114,107]⟩ (.agg [.v (.string ⟨#[109]⟩),I 1,.fn (.func 216) [] [.ref (.fn (.func 163) [] []) 0],.fn (.func 215) [] [.ref (.fn (.func 164) [] []) 0]]) f) q))))))
 obtain⟨a,h⟩|⟨a,h⟩:=io h
 ·have⟨t12,g,h⟩:=bo h;cases h;exact rfO 0 (o [.el (.agg [.v (.string ⟨#[115]⟩),I 1,.fn (.func 154) [] [],.fn (.func 165) [] []]),.ix (-9),b1,.obj (some 0) (.d (.tup [])) (QJ t1 m p u t2.1 t2.2 b c t12 e) [false,false,false,false,false,false,false,true,true,true]]) (Qa (G3 g) (Qa (mk1 ⟨#[100,105,109]⟩ (.agg [.v (.string ⟨#[115]⟩),I 1,.fn (.func 154) [] [],.fn (.func 165) [] []]) a) q))
 obtain⟨g,h⟩|⟨g,h⟩:=io h
 ·have⟨t13,j,h⟩:=bo h;cases h;exact rfO 0 (o [.el (.agg [.v (.string ⟨#[]⟩),I 2,.fn (.func 168) [] [],.fn (.func 169) [] []]),.ix (-9),b1,.el (Q3 t13)]) (allE Qi j (Qa (mk1 ⟨#[115,117,110]⟩ (.agg [.v (.string ⟨#[]⟩),I 2,.fn (.func 168) [] [],.fn (.func 169) [] []]) g) q))
 obtain⟨j,h⟩|⟨j,h⟩:=io h
 ·cases h;exact rfO 0 (o [.el (.agg [.v (.string ⟨#[]⟩),I 1,.fn (.func 170) [] [],.fn (.func 171) [] []]),.ix (-9),b1]) (Qa (mk1 ⟨#[102,105,108,108]⟩ (.agg [.v (.string ⟨#[]⟩),I 1,.fn (.func 170) [] [],.fn (.func 171) [] []]) j) q)
 obtain⟨s,h⟩|⟨s,h⟩:=io h
 ·cases h;exact rfO 0 (o [.el (.agg [.v (.string ⟨#[]⟩),I 1,.fn (.func 172) [] [],.fn (.func 174) [] []]),.ix (-9),b1]) (Qa (mk1 ⟨#[100,114,97,105,110]⟩ (.agg [.v (.string ⟨#[]⟩),I 1,.fn (.func 172) [] [],.fn (.func 174) [] []]) s) q)
 obtain⟨y,h⟩|⟨y,h⟩:=io h
 ·have⟨t16,z,h⟩:=bo h;cases h;exact rfO 0 (o [.el (.agg [.v (.string ⟨#[]⟩),I 1,.fn (.func 175) [] [],.fn (.func 176) [] []]),.ix (-9),b1,.obj (some 0) (.d (.tup [])) (QJ t1 m p true t2.1 t2.2 b c t16 e) [false,false,false,false,false,false,false,true,true,true]]) (Qa (Gn z) (Qa (mk1 ⟨#[116,114,105,112]⟩ (.agg [.v (.string ⟨#[]⟩),I 1,.fn (.func 175) [] [],.fn (.func 176) [] []]) y) q))
 obtain⟨z,h⟩|⟨z,h⟩:=io h
 ·cases h;exact rfO 0 (o [.el (.agg [.v (.string ⟨#[]⟩),I 1,.fn (.func 178) [] [],.fn (.func 179) [] []]),.ix (-9),b1]) (Qa (mk1 ⟨#[114,101,115,101,116]⟩ (.agg [.v (.string ⟨#[]⟩),I 1,.fn (.func 178) [] [],.fn (.func 179) [] []]) z) q)
 obtain⟨H,h⟩|⟨H,h⟩:=io h
 ·have⟨t18,A,h⟩:=bo h;have⟨t19,t,h⟩:=bo h;have⟨t20,k,h⟩:=bo h;have⟨t21,h21,h⟩:=bo h;have⟨h22,h⟩:=gd h;cases h;exact rfO 0 (o [.el (.agg [.v (.string ⟨#[79]⟩),I 5,.fn (.func 180) [] [],.fn (.func 182) [] []]),.ix (-9),b1,.ret (.tup [.agg [I t18.1,I t18.2.1],I t18.2.2]),.el (Zy t19),.el (Q3 t20),.el (Q3 t21),b1]) (Qa (ro 74 h22) (allE Qi h21 (allE Qi k (allE Qr t (Qa (GT A) (Qa (mk1 ⟨#[111,102,102,101,114]⟩ (.agg [.v (.string ⟨#[79]⟩),I 5,.fn (.func 180) [] [],.fn (.func 182) [] []]) H) q))))))
 obtain⟨A,h⟩|⟨A,h⟩:=io h
 ·have⟨t19,t,h⟩:=bo h;have⟨t20,k,h⟩:=bo h;have⟨t21,h21,h⟩:=bo h;have⟨h22,h⟩:=gd h;have⟨t23,h23,h⟩:=bo h;have⟨t24,h24,h⟩:=bo h;have⟨h25,h⟩:=gd h;have⟨h26,h⟩:=gd h;have⟨h27,h⟩:=gd h;cases h;exact rfO 0 (o [.el (.agg [.v (.string ⟨#[111]⟩),I 2,.fn (.func 183) [] [],.fn (.func 184) [] []]),.ix (-9),b1,.el (Zy t19),.ix (-9),b1,.obj (some 0) (.d (.lst false 1 t20)) (QJ t1 m p u t2.1 t2.2 b c i e) qC,.ret (I t21),b1,.el (Q7 t23),.el (Q3 t24),.el (Q7 t23),.el (Q3 t24)]) (Qa h27 (Qa h26 (allE Qi h24 (Qa (QX Q0 h23) (Qa h25 (allE Qi h24 (Qa (QX Q0 h23) (Qa h22 (Qa (QK h21) (Qa (Zn k) (allE Qr t (Qa (mk1 ⟨#[100,101,108,105,118,101,114]⟩ (.agg [.v (.string ⟨#[111]⟩),I 2,.fn (.func 183) [] [],.fn (.func 184) [] []]) A) q))))))))))))
 obtain⟨t,h⟩|⟨t,h⟩:=io h
 ·have⟨t20,k,h⟩:=bo h;have⟨t21,h21,h⟩:=bo h;have⟨t22,h22,h⟩:=bo h;have⟨h23,h⟩:=gd h;have⟨t24,h24,h⟩:=bo h;have⟨t25,h25,h⟩:=bo h;have⟨t26,h26,h⟩:=bo h;have⟨h27,h⟩:=gd h;cases h;exact rfO 0 (o [.el (.agg [.v (.string ⟨#[111]⟩),I 1,.fn (.func 185) [] [],.fn (.func 186) [] []]),.ix (-9),b1,.el (Zy t20),b1,.obj (some 0) (.d (.lst false 1 t21)) (QJ t1 m p u t2.1 t2.2 b c i e) qC,.ret (I t22),b1,.el (Q7 t24),.el (Q7 t25),.ret (I t26)]) (Qa h27 (Qa (YN h26) (Qa (QX Q0 h25) (Qa (QX Q0 h24) (Qa h23 (Qa (QK h22) (Qa (Zn h21) (allE Qr k (Qa (mk1 ⟨#[98,105,108,108]⟩ (.agg [.v (.string ⟨#[111]⟩),I 1,.fn (.func 185) [] [],.fn (.func 186) [] []]) t) q)))))))))
 obtain⟨k,h⟩|⟨k,h⟩:=io h
 ·cases h;exact rfO 0 (o [.el (.agg [.v (.string ⟨#[]⟩),I 0,.fn (.func 154) [] [],.fn (.func 187) [] []]),.ix (-9),b1]) (Qa (mk1 ⟨#[117,110,100,111]⟩ (.agg [.v (.string ⟨#[]⟩),I 0,.fn (.func 154) [] [],.fn (.func 187) [] []]) k) q)
 cases h
def ZH (n:Nat)(e:Int)(f:jSj)(m o:jVj)(p:jSj)(q r:jVj)(s t:Int)(u g:Bool)(h i j:Int)(k c l:jVj)(b:(Int×jVj)):Option (Int×jVj⊕jVj) := if b.1<((c).length:Int) then if 0<=b.1/\b.1<((b.2).length:Int) then((nth (b.2) (Int.toNat b.1)).bind QM).bind fun a=>(WC n a.1 a.2.1 a.2.2.1 a.2.2.2.1 a.2.2.2.2.1 a.2.2.2.2.2 e f m o p).bind fun d=>if d=true then if Qh (b.1+1) then some (.inl ((b.1+1),(List.set b.2 (Int.toNat b.1) (.agg [.v (.string a.1),.v (.string a.2.1),I a.2.2.1,I a.2.2.2.1,B a.2.2.2.2.1,B false]:D)))) else none else if Qh (b.1+1) then some (.inl ((b.1+1),b.2)) else none else none else some (.inr b.2)
noncomputable def Jh (p:Int)(q:jSj)(r s:jVj)(t:jSj)(k l:jVj)(m n:Int)(o a:Bool)(b c f:Int)(g i h:jVj):Lp (Int×jVj) (jVj):=⟨fun j=>[(0,.ptr 0 0 0 0 2),(1,.d (.fn (.func 167) [] [.ref (.agg [I p,.v (.string q),.lst false 1 r,.lst false 1 s,.v (.string t)]) 0])),(9,.own 11 0),(10,.d (I ((i).length:Int))),(11,.d (I j.1))],fun j=>[(0,.box (.agg [.own 1 0,.own 2 0,.d (I m),.d (I n),.d (B o),.d (B a),.d (I b),.d (I c),.d (I f),.own 10 0,.own 11 0,.own 12 0])),(1,.row 0 5 k),(2,.row 0 5 l),(10,.row 0 1 g),(11,.row 0 6 j.2),(12,.row 0 7 h)],fun _=>(.exit 0),fun _=>[],fun e=>[(0,.box (.agg [.own 1 0,.own 2 0,.d (I m),.d (I n),.d (B o),.d (B a),.d (I b),.d (I c),.d (I f),.own 10 0,.own 11 0,.own 12 0])),(1,.row 0 5 k),(2,.row 0 5 l),(10,.row 0 1 g),(11,.row 0 6 e),(12,.row 0 7 h)]⟩
theorem Jd {n k m p s t u v w x y c d e f g i j}(z)(r)(h:ZH n k m p s t u v w x y c d e f g i j z=some r):Rl (ZJ cx.P 166 0) 27 13 false (Jh k m p s t u v w x y c d e f g i j) z r:=by
 unfold ZH at h;obtain⟨a,h⟩|⟨a,h⟩:=io h
 ·have⟨ha2,h⟩:=gd h;have⟨ta3,ha3,h⟩:=bo h;have⟨ta4,ha4,h⟩:=bo h;have q:=Qa (U4 ha4) (Qa (QX Qq ha3) (Qa ha2 (Qa (jDj a) QL)));let o(l:jOj):=b1::b1::.el (QB ta3)::.ret (B ta4)::l;obtain⟨b,h⟩|⟨b,h⟩:=io h
  ·have⟨ha6,h⟩:=gd h;cases h;exact rn 19 (o [b1,b1,.el (QB ta3)]) [] [0,1,9,10,11] [0,1,2,10,11,12] (Qa ha6 (Qa (QX Qq ha3) (Qa ha2 (Qa b q))))
  have⟨ha6,h⟩:=gd h;cases h;exact rn 19 (o [b0]) [] [0,1,9,10,11] [0,1,2,10,11,12] (Qa ha6 (Qa (QA b) q))
 cases h;exact rx 19 [b0] [] [] [0,1,2,10,11,12] (Qa (jEj a) QL)
def WF (n:Nat)(h:Int)(i:jSj)(j k:jVj)(l:jSj)(m o:jVj)(p q:Int)(r b:Bool)(c d e:Int)(f a g:jVj):Option (jVj) := (Q2 (ZH n h i j k l m o p q r b c d e f a g) n (0,a)).bind fun s=>some s
theorem Gm {n p q s t u j k l m o a b c e f i g r}(h:WF n p q s t u j k l m o a b c e f i g=some r):ComputesO cx 166 [.ptr 0 0 0 0 2,.d (.fn (.func 167) [] [.ref (.agg [I p,.v (.string q),.lst false 1 s,.lst false 1 t,.v (.string u)]) 0])] (some (Qb j k l m o a b c e f i g)) (.d (.tup [])) (Qb j k l m o a b c e f r g) [true,true,false,false,false,false,false,false,false,true,true,true]:=by unfold WF at h;have⟨t1,h1,h⟩:=bo h;obtain rfl:=oi h;exact rfO 0 [.lp [] [0,1,9,10,11] [0,1,2,10,11,12] (.exit 0) [] [(0,.box (.agg [.own 1 0,.own 2 0,.d (I l),.d (I m),.d (B o),.d (B a),.d (I b),.d (I c),.d (I e),.own 10 0,.own 11 0,.own 12 0])),(1,.row 0 5 j),(2,.row 0 5 k),(10,.row 0 1 f),(11,.row 0 6 t1),(12,.row 0 7 g)] 50] (Qa (QH Jd h1) QL)
def ZG (n:Nat)(f g:jVj)(h i:Int)(j k:Bool)(l m o:Int)(p c e:jVj)(b:(Int×jVj)):Option (Int×jVj⊕jVj) := if b.1<((c).length:Int) then if 0<=b.1/\b.1<((b.2).length:Int) then((nth (b.2) (Int.toNat b.1)).bind QM).bind fun a=>(WB n a.1 a.2.1 a.2.2.1 a.2.2.2.1 a.2.2.2.2.1 a.2.2.2.2.2).bind fun d=>if d=true then if Qh (b.1+1) then some (.inl ((b.1+1),(List.set b.2 (Int.toNat b.1) (.agg [.v (.string a.1),.v (.string a.2.1),I a.2.2.1,I a.2.2.2.1,B a.2.2.2.2.1,B false]:D)))) else none else if Qh (b.1+1) then some (.inl ((b.1+1),b.2)) else none else none else some (.inr b.2)
noncomputable def Jg (f g:jVj)(h i:Int)(j k:Bool)(l m n:Int)(o b a:jVj):Lp (Int×jVj) (jVj):=⟨fun c=>[(0,.ptr 0 0 0 0 2),(1,.d (.fn (.func 177) [] [])),(9,.own 11 0),(10,.d (I ((b).length:Int))),(11,.d (I c.1))],fun c=>[(0,.box (.agg [.own 1 0,.own 2 0,.d (I h),.d (I i),.d (B j),.d (B k),.d (I l),.d (I m),.d (I n),.own 10 0,.own 11 0,.own 12 0])),(1,.row 0 5 f),(2,.row 0 5 g),(10,.row 0 1 o),(11,.row 0 6 c.2),(12,.row 0 7 a)],fun _=>(.exit 0),fun _=>[],fun e=>[(0,.box (.agg [.own 1 0,.own 2 0,.d (I h),.d (I i),.d (B j),.d (B k),.d (I l),.d (I m),.d (I n),.own 10 0,.own 11 0,.own 12 0])),(1,.row 0 5 f),(2,.row 0 5 g),(10,.row 0 1 o),(11,.row 0 6 e),(12,.row 0 7 a)]⟩
theorem Jc {n e f g i j k m p s t c d}(u)(r)(h:ZG n e f g i j k m p s t c d u=some r):Rl (ZJ cx.P 166 0) 27 13 false (Jg e f g i j k m p s t c d) u r:=by
 unfold ZG at h;obtain⟨a,h⟩|⟨a,h⟩:=io h
 ·have⟨ha2,h⟩:=gd h;have⟨ta3,ha3,h⟩:=bo h;have⟨ta4,ha4,h⟩:=bo h;have q:=Qa (U3 ha4) (Qa (QX Qq ha3) (Qa ha2 (Qa (jDj a) QL)));let o(l:jOj):=b1::b1::.el (QB ta3)::.ret (B ta4)::l;obtain⟨b,h⟩|⟨b,h⟩:=io h
  ·have⟨ha6,h⟩:=gd h;cases h;exact rn 19 (o [b1,b1,.el (QB ta3)]) [] [0,1,9,10,11] [0,1,2,10,11,12] (Qa ha6 (Qa (QX Qq ha3) (Qa ha2 (Qa b q))))
  have⟨ha6,h⟩:=gd h;cases h;exact rn 19 (o [b0]) [] [0,1,9,10,11] [0,1,2,10,11,12] (Qa ha6 (Qa (QA b) q))
 cases h;exact rx 19 [b0] [] [] [0,1,2,10,11,12] (Qa (jEj a) QL)
def WE (n:Nat)(c d:jVj)(e f:Int)(g h:Bool)(i j k:Int)(l a b:jVj):Option (jVj) := (Q2 (ZG n c d e f g h i j k l a b) n (0,a)).bind fun m=>some m
theorem Gl {n c e f g i j k l m o b a r}(h:WE n c e f g i j k l m o b a=some r):ComputesO cx 166 [.ptr 0 0 0 0 2,.d (.fn (.func 177) [] [])] (some (Qb c e f g i j k l m o b a)) (.d (.tup [])) (Qb c e f g i j k l m o r a) [true,true,false,false,false,false,false,false,false,true,true,true]:=by unfold WE at h;have⟨t1,h1,h⟩:=bo h;obtain rfl:=oi h;exact rfO 0 [.lp [] [0,1,9,10,11] [0,1,2,10,11,12] (.exit 0) [] [(0,.box (.agg [.own 1 0,.own 2 0,.d (I f),.d (I g),.d (B i),.d (B j),.d (I k),.d (I l),.d (I m),.own 10 0,.own 11 0,.own 12 0])),(1,.row 0 5 c),(2,.row 0 5 e),(10,.row 0 1 o),(11,.row 0 6 t1),(12,.row 0 7 a)] 50] (Qa (QH Jc h1) QL)
def Qy (n:Nat)(P:Int)(p:jSj)(t C:jVj)(Q:jSj)(w x:jVj)(S k:Int)(l f:Bool)(L M c:Int)(d a b:jVj):Option (jRj) := (el Vt C 0).bind fun i=>(Q8 n i w x S k l f L M c d a b).bind fun e=>if p.data.toList=[115,101,99,116,111,114] then(el Ww t 0).bind fun T=>if Wa 16 ((d).length+1) then some (i,k,l,f,e.1,e.2,c,(d++([.v (.string T)]:jVj)),a,b) else none else if p.data.toList=[109,105,114,114,111,114] then(el Ww t 0).bind fun U=>(el Ww t 1).bind fun O=>(el Vt C 1).bind fun K=>if Wa 56 ((a).length+1) then some (i,k,l,f,e.1,e.2,c,d,(a++([.agg [.v (.string U),.v (.string O),I K,I 0,B false,B false]]:jVj)),b) else none else if p.data.toList=[115,111,105,108] then(el Ww t 0).bind fun O=>(Qw n 109 w x i k l f e.1 e.2 c d a b).bind fun K=>(QE n K O).bind fun E=>if 0<=E/\E<((a).length:Int) then(el Vt C 1).bind fun o=>((nth (a) (Int.toNat E)).bind QM).bind fun g=>some (i,k,l,f,e.1,e.2,c,d,(List.set a (Int.toNat E) (.agg [.v (.string g.1),.v (.string g.2.1),I g.2.2.1,I o,B g.2.2.2.2.1,B g.2.2.2.2.2]:D)),b) else none else if p.data.toList=[99,108,101,97,110] then(el Ww t 0).bind fun K=>(Qw n 109 w x i k l f e.1 e.2 c d a b).bind fun E=>(QE n E K).bind fun F=>if 0<=F/\F<((a).length:Int) then((nth (a) (Int.toNat F)).bind QM).bind fun g=>some (i,k,l,f,e.1,e.2,c,d,(List.set a (Int.toNat F) (.agg [.v (.string g.1),.v (.string g.2.1),I g.2.2.1,I 0,B g.2.2.2.2.1,B g.2.2.2.2.2]:D)),b) else none else if p.data.toList=[100,101,102,101,99,116] then(el Ww t 0).bind fun E=>(Qw n 109 w x i k l f e.1 e.2 c d a b).bind fun F=>(QE n F E).bind fun o=>if 0<=o/\o<((a).length:Int) then((nth (a) (Int.toNat o)).bind QM).bind fun j=>some (i,k,l,f,e.1,e.2,c,d,(List.set a (Int.toNat o) (.agg [.v (.string j.1),.v (.string j.2.1),I j.2.2.1,I j.2.2.2.1,B true,B j.2.2.2.2.2]:D)),b) else none else if p.data.toList=[114,101,112,97,105,114] then(el Ww t 0).bind fun F=>(Qw n 109 w x i k l f e.1 e.2 c d a b).bind fun o=>(QE n o F).bind fun g=>if 0<=g/\g<((a).length:Int) then((nth (a) (Int.toNat g)).bind QM).bind fun m=>some (i,k,l,f,e.1,e.2,c,d,(List.set a (Int.toNat g) (.agg [.v (.string m.1),.v (.string m.2.1),I m.2.2.1,I m.2.2.2.1,B false,B m.2.2.2.2.2]:D)),b) else none else if p.data.toList=[97,105,109] then(el Ww t 0).bind fun o=>(Qw n 109 w x i k l f e.1 e.2 c d a b).bind fun g=>(QE n g o).bind fun j=>if 0<=j/\j<((a).length:Int) then((nth (a) (Int.toNat j)).bind QM).bind fun y=>some (i,k,l,f,e.1,e.2,c,d,(List.set a (Int.toNat j) (.agg [.v (.string y.1),.v (.string y.2.1),I y.2.2.1,I y.2.2.2.1,B y.2.2.2.2.1,B true]:D)),b) else none else if p.data.toList=[112,97,114,107] then(el Ww t 0).bind fun g=>(Qw n 109 w x i k l f e.1 e.2 c d a b).bind fun j=>(QE n j g).bind fun m=>if 0<=m/\m<((a).length:Int) then((nth (a) (Int.toNat m)).bind QM).bind fun z=>some (i,k,l,f,e.1,e.2,c,d,(List.set a (Int.toNat m) (.agg [.v (.string z.1),.v (.string z.2.1),I z.2.2.1,I z.2.2.2.1,B z.2.2.2.2.1,B false]:D)),b) else none else if p.data.toList=[100,105,109] then(WF n P p t C Q w x i k l f e.1 e.2 c d a b).bind fun j=>some (i,k,l,f,e.1,e.2,c,d,j,b) else if p.data.toList=[115,117,110] then(el Vt C 1).bind fun m=>some (i,m,l,f,e.1,e.2,c,d,a,b) else if p.data.toList=[102,105,108,108] then some (i,k,true,f,e.1,e.2,c,d,a,b) else if p.data.toList=[100,114,97,105,110] then some (i,k,false,f,e.1,e.2,c,d,a,b) else if p.data.toList=[116,114,105,112] then(WE n w x i k l true e.1 e.2 c d a b).bind fun N=>some (i,k,l,true,e.1,e.2,c,d,N,b) else if p.data.toList=[114,101,115,101,116] then some (i,k,l,false,e.1,e.2,c,d,a,b) else if p.data.toList=[111,102,102,101,114] then(WL n P p t C Q).bind fun H=>(el Ww t 0).bind fun G=>(el Vt C 3).bind fun A=>(el Vt C 4).bind fun q=>if Wa 64 ((b).length+1) then some (i,k,l,f,e.1,e.2,c,d,a,(b++([.agg [.v (.string G),I H.1,I H.2.1,I A,I q,I 0,B false]]:jVj))) else none else if p.data.toList=[100,101,108,105,118,101,114] then(el Ww t 0).bind fun G=>(Qw n 111 w x i k l f e.1 e.2 c d a b).bind fun A=>(QE n A G).bind fun q=>if 0<=q/\q<((b).length:Int) then((nth (b) (Int.toNat q)).bind Z6).bind fun r=>(el Vt C 1).bind fun h=>if Qh (r.2.2.2.2.2.1+h) then if Qh (1000000*h) then if Qh (e.2 - (1000000*h)) then some (i,k,l,f,e.1,(e.2 - (1000000*h)),c,d,a,(List.set b (Int.toNat q) (.agg [.v (.string r.1),I r.2.1,I r.2.2.1,I r.2.2.2.1,I r.2.2.2.2.1,I (r.2.2.2.2.2.1+h),B r.2.2.2.2.2.2]:D))) else none else none else none else none else if p.data.toList=[98,105,108,108] then(el Ww t 0).bind fun A=>(Qw n 111 w x i k l f e.1 e.2 c d a b).bind fun q=>(QE n q A).bind fun u=>if 0<=u/\u<((b).length:Int) then((nth (b) (Int.toNat u)).bind Z6).bind fun h=>((nth ((List.set b (Int.toNat u) (.agg [.v (.string h.1),I h.2.1,I h.2.2.1,I h.2.2.2.1,I h.2.2.2.2.1,I h.2.2.2.2.2.1,B true]:D)):jVj) (Int.toNat u)).bind Z6).bind fun s=>(Wv n s.1 s.2.1 s.2.2.1 s.2.2.2.1 s.2.2.2.2.1 s.2.2.2.2.2.1 s.2.2.2.2.2.2).bind fun J=>if Qh (c+J) then some (i,k,l,f,e.1,e.2,(c+J),d,a,(List.set b (Int.toNat u) (.agg [.v (.string h.1),I h.2.1,I h.2.2.1,I h.2.2.2.1,I h.2.2.2.2.1,I h.2.2.2.2.2.1,B true]:D))) else none else none else if p.data.toList=[117,110,100,111] then some (i,k,l,f,e.1,e.2,c,d,a,b) else none
theorem J1 {n O P Q S T p s N t u f G H b c j e r}(h:Qy n O P Q S T p s N t u f G H b c j e=some r):ComputesO cx 190 [.ptr 0 0 0 0 2,.d (.agg [I O,.v (.string P),.lst false 1 Q,.lst false 1 S,.v (.string T)])] (some (Qb p s N t u f G H b c j e)) (.d (.tup [])) (Qb p s r.1 r.2.1 r.2.2.1 r.2.2.2.1 r.2.2.2.2.1 r.2.2.2.2.2.1 r.2.2.2.2.2.2.1 r.2.2.2.2.2.2.2.1 r.2.2.2.2.2.2.2.2.1 r.2.2.2.2.2.2.2.2.2) [true,true]:=by
 unfold Qy at h;have⟨t1,h1,h⟩:=bo h;have⟨t2,h2,h⟩:=bo h;have q:=allE Qi h1 (Qa (WA h2) (allE Qi h1 QL));let o(l:jOj):=.el (Q3 t1)::.obj (some 0) (.d (.agg [I t2.1,I t2.2])) (Qb p s N t u f G H b c j e) ZV::.el (Q3 t1)::b1::(no 28 l);obtain⟨U,h⟩|⟨U,h⟩:=io h
 ·have⟨t4,M,h⟩:=bo h;have⟨J,h⟩:=gd h;cases h;exact rfO 0 (o [.el (.agg [.v (.string ⟨#[83]⟩),I 1,.fn (.func 147) [] [],.fn (.func 148) [] []]),.ix (-9),b1,.el (Zy t4),b1]) (Qa (ro 9 J) (allE Qr M (Qa (mk1 ⟨#[115,101,99,116,111,114]⟩ (.agg [.v (.string ⟨#[83]⟩),I 1,.fn (.func 147) [] [],.fn (.func 148) [] []]) U) q)))
 obtain⟨M,h⟩|⟨M,h⟩:=io h
 ·have⟨t5,J,h⟩:=bo h;have⟨t6,K,h⟩:=bo h;have⟨t7,F,h⟩:=bo h;have⟨y,h⟩:=gd h;cases h;exact rfO 0 (o [.el (.agg [.v (.string ⟨#[77,115]⟩),I 2,.fn (.func 149) [] [],.fn (.func 150) [] []]),.ix (-9),b1,.el (Zy t5),.el (Zy t6),.el (Q3 t7),b1]) (Qa (ro 73 y) (allE Qi F (allE Qr K (allE Qr J (Qa (mk1 ⟨#[109,105,114,114,111,114]⟩ (.agg [.v (.string ⟨#[77,115]⟩),I 2,.fn (.func 149) [] [],.fn (.func 150) [] []]) M) q)))))
 obtain⟨J,h⟩|⟨J,h⟩:=io h
 ·have⟨t6,K,h⟩:=bo h;have⟨t7,F,h⟩:=bo h;have⟨t8,y,h⟩:=bo h;have⟨z,h⟩:=gd h;have⟨t10,g,h⟩:=bo h;have⟨t11,a,h⟩:=bo h;cases h;exact rfO 0 (o [.el (.agg [.v (.string ⟨#[109]⟩),I 2,.fn (.func 151) [] [],.fn (.func 215) [] [.ref (.fn (.func 153) [] []) 0]]),.ix (-9),b1,.el (Zy t6),.ix (-9),b1,.obj (some 0) (.d (.lst false 1 t7)) (Qb p s t1 t u f t2.1 t2.2 b c j e) ZV,.ret (I t8),b1,.ix (-9),b1,.el (Q3 t10),.el (QB t11)]) (Qa (QX Qq a) (allE Qi g (Qa z (Qa (QK y) (Qa (QC F) (allE Qr K (Qa (mk1 ⟨#[115,111,105,108]⟩ (.agg [.v (.string ⟨#[109]⟩),I 2,.fn (.func 151) [] [],.fn (.func 215) [] [.ref (.fn (.func 153) [] []) 0]]) J) q)))))))
 obtain⟨K,h⟩|⟨K,h⟩:=io h
 ·have⟨t7,F,h⟩:=bo h;have⟨t8,y,h⟩:=bo h;have⟨t9,z,h⟩:=bo h;have⟨g,h⟩:=gd h;have⟨t11,a,h⟩:=bo h;cases h;exact rfO 0 (o [.el (.agg [.v (.string ⟨#[109]⟩),I 1,.fn (.func 154) [] [],.fn (.func 215) [] [.ref (.fn (.func 155) [] []) 0]]),.ix (-9),b1,.el (Zy t7),.ix (-9),b1,.obj (some 0) (.d (.lst false 1 t8)) (Qb p s t1 t u f t2.1 t2.2 b c j e) ZV,.ret (I t9),b1,.ix (-9),b1,.el (QB t11)]) (Qa (QX Qq a) (Qa g (Qa (QK z) (Qa (QC y) (allE Qr F (Qa (mk1 ⟨#[99,108,101,97,110]⟩ (.agg [.v (.string ⟨#[109]⟩),I 1,.fn (.func 154) [] [],.fn (.func 215) [] [.ref (.fn (.func 155) [] []) 0]]) K) q))))))
 obtain⟨F,h⟩|⟨F,h⟩:=io h
 ·have⟨t8,y,h⟩:=bo h;have⟨t9,z,h⟩:=bo h;have⟨t10,g,h⟩:=bo h;have⟨a,h⟩:=gd h;have⟨t12,i,h⟩:=bo h;cases h;exact rfO 0 (o [.el (.agg [.v (.string ⟨#[109]⟩),I 1,.fn (.func 216) [] [.ref (.fn (.func 157) [] []) 0],.fn (.func 215) [] [.ref (.fn (.func 158) [] []) 0]]),.ix (-9),b1,.el (Zy t8),.ix (-9),b1,.obj (some 0) (.d (.lst false 1 t9)) (Qb p s t1 t u f t2.1 t2.2 b c j e) ZV,.ret (I t10),b1,.ix (-9),b1,.el (QB t12)]) (Qa (QX Qq i) (Qa a (Qa (QK g) (Qa (QC z) (allE Qr y (Qa (mk1 ⟨#[100,101,102,101,99,116]⟩ (.agg [.v (.string ⟨#[109]⟩),I 1,.fn (.func 216) [] [.ref (.fn (.func 157) [] []) 0],.fn (.func 215) [] [.ref (.fn (.func 158) [] []) 0]]) F) q))))))
 obtain⟨y,h⟩|⟨y,h⟩:=io h
 ·have⟨t9,z,h⟩:=bo h;have⟨t10,g,h⟩:=bo h;have⟨t11,a,h⟩:=bo h;have⟨i,h⟩:=gd h;have⟨t13,k,h⟩:=bo h;cases h;exact rfO 0 (o [.el (.agg [.v (.string ⟨#[109]⟩),I 1,.fn (.func 216) [] [.ref (.fn (.func 159) [] []) 0],.fn (.func 215) [] [.ref (.fn (.func 160) [] []) 0]]),.ix (-9),b1,.el (Zy t9),.ix (-9),b1,.obj (some 0) (.d (.lst false 1 t10)) (Qb p s t1 t u f t2.1 t2.2 b c j e) ZV,.ret (I t11),b1,.ix (-9),b1,.el (QB t13)]) (Qa (QX Qq k) (Qa i (Qa (QK a) (Qa (QC g) (allE Qr z (Qa (mk1 ⟨#[114,101,112,97,105,114]⟩ (.agg [.v (.string ⟨#[109]⟩),I 1,.fn (.func 216) [] [.ref (.fn (.func 159) [] []) 0],.fn (.func 215) [] [.ref (.fn (.func 160) [] []) 0]]) y) q))))))
 obtain⟨z,h⟩|⟨z,h⟩:=io h
 ·have⟨t10,g,h⟩:=bo h;have⟨t11,a,h⟩:=bo h;have⟨t12,i,h⟩:=bo h;have⟨k,h⟩:=gd h;have⟨t14,w,h⟩:=bo h;cases h;exact rfO 0 (o [.el (.agg [.v (.string ⟨#[109]⟩),I 1,.fn (.func 216) [] [.ref (.fn (.func 161) [] []) 0],.fn (.func 215) [] [.ref (.fn (.func 162) [] []) 0]]),.ix (-9),b1,.el (Zy t10),.ix (-9),b1,.obj (some 0) (.d (.lst false 1 t11)) (Qb p s t1 t u f t2.1 t2.2 b c j e) ZV,.ret (I t12),b1,.ix (-9),b1,.el (QB t14)]) (Qa (QX Qq w) (Qa k (Qa (QK i) (Qa (QC a) (allE Qr g (Qa (mk1 ⟨#[97,105,109]⟩ (.agg [.v (.string ⟨#[109]⟩),I 1,.fn (.func 216) [] [.ref (.fn (.func 161) [] []) 0],.fn (.func 215) [] [.ref (.fn (.func 162) [] []) 0]]) z) q))))))
 obtain⟨g,h⟩|⟨g,h⟩:=io h
 ·have⟨t11,a,h⟩:=bo h;have⟨t12,i,h⟩:=bo h;have⟨t13,k,h⟩:=bo h;have⟨w,h⟩:=gd h;have⟨t15,A,h⟩:=bo h;cases h;exact rfO 0 (o [.el (.agg [.v (.string ⟨#[109]⟩),I 1,.fn (.func 216) [] [.ref (.fn (.func 163) [] []) 0],.fn (.func 215) [] [.ref (.fn (.func 164) [] []) 0]]),.ix (-9),b1,.el (Zy t11),.ix (-9),b1,.obj (some 0) (.d (.lst false 1 t12)) (Qb p s t1 t u f t2.1 t2.2 b c j e) ZV,.ret (I t13),b1,.ix (-9),b1,.el (QB t15)]) (Qa (QX Qq A) (Qa w (Qa (QK k) (Qa (QC i) (allE Qr a (Qa (mk1 ⟨#[112,97,114,107]⟩ (.agg [.v (.string ⟨#[109]⟩),I 1,.fn (.func 216) [] [.ref (.fn (.func 163) [] []) 0],.fn (.func 215) [] [.ref (.fn (.func 164) [] []) 0]]) g) q))))))
 obtain⟨a,h⟩|⟨a,h⟩:=io h
 ·have⟨t12,i,h⟩:=bo h;cases h;exact rfO 0 (o [.el (.agg [.v (.string ⟨#[115]⟩),I 1,.fn (.func 154) [] [],.fn (.func 165) [] []]),.ix (-9),b1,.obj (some 0) (.d (.tup [])) (Qb p s t1 t u f t2.1 t2.2 b c t12 e) [true,true,false,false,false,false,false,false,false,true,true,true]]) (Qa (Gm i) (Qa (mk1 ⟨#[100,105,109]⟩ (.agg [.v (.string ⟨#[115]⟩),I 1,.fn (.func 154) [] [],.fn (.func 165) [] []]) a) q))
 obtain⟨i,h⟩|⟨i,h⟩:=io h
 ·have⟨t13,k,h⟩:=bo h;cases h;exact rfO 0 (o [.el (.agg [.v (.string ⟨#[]⟩),I 2,.fn (.func 168) [] [],.fn (.func 169) [] []]),.ix (-9),b1,.el (Q3 t13)]) (allE Qi k (Qa (mk1 ⟨#[115,117,110]⟩ (.agg [.v (.string ⟨#[]⟩),I 2,.fn (.func 168) [] [],.fn (.func 169) [] []]) i) q))
 obtain⟨k,h⟩|⟨k,h⟩:=io h
 ·cases h;exact rfO 0 (o [.el (.agg [.v (.string ⟨#[]⟩),I 1,.fn (.func 170) [] [],.fn (.func 171) [] []]),.ix (-9),b1]) (Qa (mk1 ⟨#[102,105,108,108]⟩ (.agg [.v (.string ⟨#[]⟩),I 1,.fn (.func 170) [] [],.fn (.func 171) [] []]) k) q)
 obtain⟨w,h⟩|⟨w,h⟩:=io h
 ·cases h;exact rfO 0 (o [.el (.agg [.v (.string ⟨#[]⟩),I 1,.fn (.func 172) [] [],.fn (.func 174) [] []]),.ix (-9),b1]) (Qa (mk1 ⟨#[100,114,97,105,110]⟩ (.agg [.v (.string ⟨#[]⟩),I 1,.fn (.func 172) [] [],.fn (.func 174) [] []]) w) q)
 obtain⟨A,h⟩|⟨A,h⟩:=io h
 ·have⟨t16,C,h⟩:=bo h;cases h;exact rfO 0 (o [.el (.agg [.v (.string ⟨#[]⟩),I 1,.fn (.func 175) [] [],.fn (.func 176) [] []]),.ix (-9),b1,.obj (some 0) (.d (.tup [])) (Qb p s t1 t u true t2.1 t2.2 b c t16 e) [true,true,false,false,false,false,false,false,false,true,true,true]]) (Qa (Gl C) (Qa (mk1 ⟨#[116,114,105,112]⟩ (.agg [.v (.string ⟨#[]⟩),I 1,.fn (.func 175) [] [],.fn (.func 176) [] []]) A) q))
 obtain⟨C,h⟩|⟨C,h⟩:=io h
 ·cases h;exact rfO 0 (o [.el (.agg [.v (.string ⟨#[]⟩),I 1,.fn (.func 178) [] [],.fn (.func 179) [] []]),.ix (-9),b1]) (Qa (mk1 ⟨#[114,101,115,101,116]⟩ (.agg [.v (.string ⟨#[]⟩),I 1,.fn (.func 178) [] [],.fn (.func 179) [] []]) C) q)
 obtain⟨L,h⟩|⟨L,h⟩:=io h
 ·have⟨t18,E,h⟩:=bo h;have⟨t19,x,h⟩:=bo h;have⟨t20,m,h⟩:=bo h;have⟨t21,h21,h⟩:=bo h;have⟨h22,h⟩:=gd h;cases h;exact rfO 0 (o [.el (.agg [.v (.string ⟨#[79]⟩),I 5,.fn (.func 180) [] [],.fn (.func 182) [] []]),.ix (-9),b1,.ret (.tup [.agg [I t18.1,I t18.2.1],I t18.2.2]),.el (Zy t19),.el (Q3 t20),.el (Q3 t21),b1]) (Qa (ro 74 h22) (allE Qi h21 (allE Qi m (allE Qr x (Qa (GT E) (Qa (mk1 ⟨#[111,102,102,101,114]⟩ (.agg [.v (.string ⟨#[79]⟩),I 5,.fn (.func 180) [] [],.fn (.func 182) [] []]) L) q))))))
 obtain⟨E,h⟩|⟨E,h⟩:=io h
 ·have⟨t19,x,h⟩:=bo h;have⟨t20,m,h⟩:=bo h;have⟨t21,h21,h⟩:=bo h;have⟨h22,h⟩:=gd h;have⟨t23,h23,h⟩:=bo h;have⟨t24,h24,h⟩:=bo h;have⟨h25,h⟩:=gd h;have⟨h26,h⟩:=gd h;have⟨h27,h⟩:=gd h;cases h;exact rfO 0 (o [.el (.agg [.v (.string ⟨#[111]⟩),I 2,.fn (.func 183) [] [],.fn (.func 184) [] []]),.ix (-9),b1,.el (Zy t19),.ix (-9),b1,.obj (some 0) (.d (.lst false 1 t20)) (Qb p s t1 t u f t2.1 t2.2 b c j e) ZV,.ret (I t21),b1,.el (Q7 t23),.el (Q3 t24),.el (Q7 t23),.el (Q3 t24)]) (Qa h27 (Qa h26 (allE Qi h24 (Qa (QX Q0 h23) (Qa h25 (allE Qi h24 (Qa (QX Q0 h23) (Qa h22 (Qa (QK h21) (Qa (QC m) (allE Qr x (Qa (mk1 ⟨#[100,101,108,105,118,101,114]⟩ (.agg [.v (.string ⟨#[111]⟩),I 2,.fn (.func 183) [] [],.fn (.func 184) [] []]) E) q))))))))))))
 obtain⟨x,h⟩|⟨x,h⟩:=io h
 ·have⟨t20,m,h⟩:=bo h;have⟨t21,h21,h⟩:=bo h;have⟨t22,h22,h⟩:=bo h;have⟨h23,h⟩:=gd h;have⟨t24,h24,h⟩:=bo h;have⟨t25,h25,h⟩:=bo h;have⟨t26,h26,h⟩:=bo h;have⟨h27,h⟩:=gd h;cases h;exact rfO 0 (o [.el (.agg [.v (.string ⟨#[111]⟩),I 1,.fn (.func 185) [] [],.fn (.func 186) [] []]),.ix (-9),b1,.el (Zy t20),b1,.obj (some 0) (.d (.lst false 1 t21)) (Qb p s t1 t u f t2.1 t2.2 b c j e) ZV,.ret (I t22),b1,.el (Q7 t24),.el (Q7 t25),.ret (I t26)]) (Qa h27 (Qa (YN h26) (Qa (QX Q0 h25) (Qa (QX Q0 h24) (Qa h23 (Qa (QK h22) (Qa (QC h21) (allE Qr m (Qa (mk1 ⟨#[98,105,108,108]⟩ (.agg [.v (.string ⟨#[111]⟩),I 1,.fn (.func 185) [] [],.fn (.func 186) [] []]) x) q)))))))))
 obtain⟨m,h⟩|⟨m,h⟩:=io h
 ·cases h;exact rfO 0 (o [.el (.agg [.v (.string ⟨#[]⟩),I 0,.fn (.func 154) [] [],.fn (.func 187) [] []]),.ix (-9),b1]) (Qa (mk1 ⟨#[117,110,100,111]⟩ (.agg [.v (.string ⟨#[]⟩),I 0,.fn (.func 154) [] [],.fn (.func 187) [] []]) m) q)
 cases h
def Zm (n:Nat)(l:Int)(m:jSj)(o p:jVj)(q:jSj)(r d:jVj)(s t:Int)(u e:Bool)(f g h:Int)(i j k:jVj)(b:(Unit)⊕Int×jRj):Option ((Unit⊕Int×jRj)⊕Unit⊕jRj):=match b with|(.inl b)=>(if 0<(((d.take (Int.toNat (((d).length:Int) - 1))):jVj).length:Int) then if(0:Int)<=0/\0<(((d.take (Int.toNat (((d).length:Int) - 1))):jVj).length:Int) then((nth ((d.take (Int.toNat (((d).length:Int) - 1))):jVj) 0).bind Ze).bind fun c=>(Qz n c.1 c.2.1 c.2.2.1 c.2.2.2.1 c.2.2.2.2 0 0 false false 0 0 0 ([]) ([]) ([])).bind fun a=>some (.inl (.inr (1,a.1,a.2.1,a.2.2.1,a.2.2.2.1,a.2.2.2.2.1,a.2.2.2.2.2.1,a.2.2.2.2.2.2.1,a.2.2.2.2.2.2.2.1,a.2.2.2.2.2.2.2.2.1,a.2.2.2.2.2.2.2.2.2))) else none else some (.inr (.inl ())))|.inr b=>(if b.1<(((d.take (Int.toNat (((d).length:Int) - 1))):jVj).length:Int) then if 0<=b.1/\b.1<(((d.take (Int.toNat (((d).length:Int) - 1))):jVj).length:Int) then((nth ((d.take (Int.toNat (((d).length:Int) - 1))):jVj) (Int.toNat b.1)).bind Ze).bind fun c=>(Qz n c.1 c.2.1 c.2.2.1 c.2.2.2.1 c.2.2.2.2 b.2.1 b.2.2.1 b.2.2.2.1 b.2.2.2.2.1 b.2.2.2.2.2.1 b.2.2.2.2.2.2.1 b.2.2.2.2.2.2.2.1 b.2.2.2.2.2.2.2.2.1 b.2.2.2.2.2.2.2.2.2.1 b.2.2.2.2.2.2.2.2.2.2).bind fun a=>if Qh (b.1+1) then some (.inl (.inr ((b.1+1),a.1,a.2.1,a.2.2.1,a.2.2.2.1,a.2.2.2.2.1,a.2.2.2.2.2.1,a.2.2.2.2.2.2.1,a.2.2.2.2.2.2.2.1,a.2.2.2.2.2.2.2.2.1,a.2.2.2.2.2.2.2.2.2))) else none else none else some (.inr (.inr (b.2.1,b.2.2.1,b.2.2.2.1,b.2.2.2.2.1,b.2.2.2.2.2.1,b.2.2.2.2.2.2.1,b.2.2.2.2.2.2.2.1,b.2.2.2.2.2.2.2.2.1,b.2.2.2.2.2.2.2.2.2.1,b.2.2.2.2.2.2.2.2.2.2))))
noncomputable def GZ (c:Int)(f:jSj)(a b:jVj)(g:jSj)(p h:jVj)(q r:Int)(s i:Bool)(j k l:Int)(m n o:jVj):Lp (Unit⊕Int×jRj) (Unit⊕jRj):=⟨fun
 | (.inl sa)=>[(2,.ptr 83 0 0 0 0),(3,.ptr 84 0 0 0 0),(6,.own 2 1),(7,.d (I (((h.take (Int.toNat (((h).length:Int) - 1))):jVj).length:Int))),(8,.d (I 0))]
 | (.inr sa)=>[(2,.ptr 83 0 0 0 0),(3,.ptr 84 0 0 0 0),(6,.own 2 1),(7,.d (I (((h.take (Int.toNat (((h).length:Int) - 1))):jVj).length:Int))),(8,.d (I sa.1))],fun
 | (.inl sa)=>[(0,.box (.agg [.own 1 1,.own 2 1,.d (I q),.d (I r),.d (B s),.d (B i),.d (I j),.d (I k),.d (I l),.own 10 0,.own 11 0,.own 12 0])),(1,.row 1 5 (p++([.agg [I c,.v (.string f),.lst false 1 (a.take ((List.replicate (Int.toNat ((a).length:Int)) (.v (.string ⟨#[]⟩):D)):jVj).length++(List.replicate (Int.toNat ((a).length:Int)) (.v (.string ⟨#[]⟩):D)).drop (a).length),.lst false 1 (b.take ((List.replicate (Int.toNat ((b).length:Int)) (I 0:D)):jVj).length++(List.replicate (Int.toNat ((b).length:Int)) (I 0:D)).drop (b).length),.v (.string g)]]:jVj))),(2,.row 1 5 (h.take (Int.toNat (((h).length:Int) - 1)))),(10,.row 0 1 m),(11,.row 0 6 n),(12,.row 0 7 o),(13,.box (.agg [.d (I c),.d (.v (.string f)),.own 22 0,.own 26 0,.d (.v (.string g))])),(17,.box (.agg [.d (I c),.d (.v (.string f)),.own 22 0,.own 26 0,.d (.v (.string g))])),(18,.box (.agg [.d (I c),.d (.v (.string f)),.own 22 0,.own 26 0,.d (.v (.string g))])),(22,.frozen 0 1 (a.take ((List.replicate (Int.toNat ((a).length:Int)) (.v (.string ⟨#[]⟩):D)):jVj).length++(List.replicate (Int.toNat ((a).length:Int)) (.v (.string ⟨#[]⟩):D)).drop (a).length)),(26,.frozen 0 1 (b.take ((List.replicate (Int.toNat ((b).length:Int)) (I 0:D)):jVj).length++(List.replicate (Int.toNat ((b).length:Int)) (I 0:D)).drop (b).length)),(83,.box (.d jZj)),(84,.box (.d jZj))]
 | (.inr sa)=>[(0,.box (.agg [.own 1 1,.own 2 1,.d (I q),.d (I r),.d (B s),.d (B i),.d (I j),.d (I k),.d (I l),.own 10 0,.own 11 0,.own 12 0])),(1,.row 1 5 (p++([.agg [I c,.v (.string f),.lst false 1 (a.take ((List.replicate (Int.toNat ((a).length:Int)) (.v (.string ⟨#[]⟩):D)):jVj).length++(List.replicate (Int.toNat ((a).length:Int)) (.v (.string ⟨#[]⟩):D)).drop (a).length),.lst false 1 (b.take ((List.replicate (Int.toNat ((b).length:Int)) (I 0:D)):jVj).length++(List.replicate (Int.toNat ((b).length:Int)) (I 0:D)).drop (b).length),.v (.string g)]]:jVj))),(2,.row 1 5 (h.take (Int.toNat (((h).length:Int) - 1)))),(10,.row 0 1 m),(11,.row 0 6 n),(12,.row 0 7 o),(13,.box (.agg [.d (I c),.d (.v (.string f)),.own 22 0,.own 26 0,.d (.v (.string g))])),(17,.box (.agg [.d (I c),.d (.v (.string f)),.own 22 0,.own 26 0,.d (.v (.string g))])),(18,.box (.agg [.d (I c),.d (.v (.string f)),.own 22 0,.own 26 0,.d (.v (.string g))])),(22,.frozen 0 1 (a.take ((List.replicate (Int.toNat ((a).length:Int)) (.v (.string ⟨#[]⟩):D)):jVj).length++(List.replicate (Int.toNat ((a).length:Int)) (.v (.string ⟨#[]⟩):D)).drop (a).length)),(26,.frozen 0 1 (b.take ((List.replicate (Int.toNat ((b).length:Int)) (I 0:D)):jVj).length++(List.replicate (Int.toNat ((b).length:Int)) (I 0:D)).drop (b).length)),(83,.box (.d jZj)),(84,.box (.agg [.d (I sa.2.1),.d (I sa.2.2.1),.d (B sa.2.2.2.1),.d (B sa.2.2.2.2.1),.d (I sa.2.2.2.2.2.1),.d (I sa.2.2.2.2.2.2.1),.d (I sa.2.2.2.2.2.2.2.1),.own 102 0,.own 103 0,.own 104 0])),(102,.row 0 1 sa.2.2.2.2.2.2.2.2.1),(103,.row 0 6 sa.2.2.2.2.2.2.2.2.2.1),(104,.row 0 7 sa.2.2.2.2.2.2.2.2.2.2)],fun _=>(.exit 0),fun _=>[(2,.ptr 83 0 0 0 0),(3,.ptr 84 0 0 0 0)],fun
 | (.inl e)=>[(0,.box (.agg [.own 1 1,.own 2 1,.d (I q),.d (I r),.d (B s),.d (B i),.d (I j),.d (I k),.d (I l),.own 10 0,.own 11 0,.own 12 0])),(1,.row 1 5 (p++([.agg [I c,.v (.string f),.lst false 1 (a.take ((List.replicate (Int.toNat ((a).length:Int)) (.v (.string ⟨#[]⟩):D)):jVj).length++(List.replicate (Int.toNat ((a).length:Int)) (.v (.string ⟨#[]⟩):D)).drop (a).length),.lst false 1 (b.take ((List.replicate (Int.toNat ((b).length:Int)) (I 0:D)):jVj).length++(List.replicate (Int.toNat ((b).length:Int)) (I 0:D)).drop (b).length),.v (.string g)]]:jVj))),(2,.row 1 5 (h.take (Int.toNat (((h).length:Int) - 1)))),(10,.row 0 1 m),(11,.row 0 6 n),(12,.row 0 7 o),(13,.box (.agg [.d (I c),.d (.v (.string f)),.own 22 0,.own 26 0,.d (.v (.string g))])),(17,.box (.agg [.d (I c),.d (.v (.string f)),.own 22 0,.own 26 0,.d (.v (.string g))])),(18,.box (.agg [.d (I c),.d (.v (.string f)),.own 22 0,.own 26 0,.d (.v (.string g))])),(22,.frozen 0 1 (a.take ((List.replicate (Int.toNat ((a).length:Int)) (.v (.string ⟨#[]⟩):D)):jVj).length++(List.replicate (Int.toNat ((a).length:Int)) (.v (.string ⟨#[]⟩):D)).drop (a).length)),(26,.frozen 0 1 (b.take ((List.replicate (Int.toNat ((b).length:Int)) (I 0:D)):jVj).length++(List.replicate (Int.toNat ((b).length:Int)) (I 0:D)).drop (b).length)),(83,.box (.d jZj)),(84,.box (.d jZj))]
 | (.inr e)=>[(0,.box (.agg [.own 1 1,.own 2 1,.d (I q),.d (I r),.d (B s),.d (B i),.d (I j),.d (I k),.d (I l),.own 10 0,.own 11 0,.own 12 0])),(1,.row 1 5 (p++([.agg [I c,.v (.string f),.lst false 1 (a.take ((List.replicate (Int.toNat ((a).length:Int)) (.v (.string ⟨#[]⟩):D)):jVj).length++(List.replicate (Int.toNat ((a).length:Int)) (.v (.string ⟨#[]⟩):D)).drop (a).length),.lst false 1 (b.take ((List.replicate (Int.toNat ((b).length:Int)) (I 0:D)):jVj).length++(List.replicate (Int.toNat ((b).length:Int)) (I 0:D)).drop (b).length),.v (.string g)]]:jVj))),(2,.row 1 5 (h.take (Int.toNat (((h).length:Int) - 1)))),(10,.row 0 1 m),(11,.row 0 6 n),(12,.row 0 7 o),(13,.box (.agg [.d (I c),.d (.v (.string f)),.own 22 0,.own 26 0,.d (.v (.string g))])),(17,.box (.agg [.d (I c),.d (.v (.string f)),.own 22 0,.own 26 0,.d (.v (.string g))])),(18,.box (.agg [.d (I c),.d (.v (.string f)),.own 22 0,.own 26 0,.d (.v (.string g))])),(22,.frozen 0 1 (a.take ((List.replicate (Int.toNat ((a).length:Int)) (.v (.string ⟨#[]⟩):D)):jVj).length++(List.replicate (Int.toNat ((a).length:Int)) (.v (.string ⟨#[]⟩):D)).drop (a).length)),(26,.frozen 0 1 (b.take ((List.replicate (Int.toNat ((b).length:Int)) (I 0:D)):jVj).length++(List.replicate (Int.toNat ((b).length:Int)) (I 0:D)).drop (b).length)),(83,.box (.d jZj)),(84,.box (.agg [.d (I e.1),.d (I e.2.1),.d (B e.2.2.1),.d (B e.2.2.2.1),.d (I e.2.2.2.2.1),.d (I e.2.2.2.2.2.1),.d (I e.2.2.2.2.2.2.1),.own 102 0,.own 103 0,.own 104 0])),(102,.row 0 1 e.2.2.2.2.2.2.2.1),(103,.row 0 6 e.2.2.2.2.2.2.2.2.1),(104,.row 0 7 e.2.2.2.2.2.2.2.2.2)]⟩
theorem Ul {n l m o p q s t u v w b c e f g i j}(k)(r)(h:Zm n l m o p q s t u v w b c e f g i j k=some r):Rl (ZJ cx.P 109 0) 16 83 false (GZ l m o p q s t u v w b c e f g i j) k r:=by
 unfold Zm at h;obtain k|k:=k
 ·obtain⟨a,h⟩|⟨a,h⟩:=io h
  ·have⟨ha2,h⟩:=gd h;have⟨ta3,ha3,h⟩:=bo h;have⟨ta4,ha4,h⟩:=bo h;cases h;exact rn 88 [b1,b1,.el (QP ta3),.obj (some 84) (.d (.tup [])) (QJ' ta4) []] [] [2,3,6,7,8] [0,1,2,10,11,12,13,17,18,22,26,83,84,102,103,104] (Qa ((by unfold Qh;omega):Qh 1) (Qa (Uh ha4) (Qa (QX Ql ha3) (Qa ha2 (Qa (jDj a) QL)))))
  cases h;exact rx 88 [b0] [] [2,3] [0,1,2,10,11,12,13,17,18,22,26,83,84] (Qa (jEj a) QL)
 ·obtain⟨a,h⟩|⟨a,h⟩:=io h
  ·have⟨ha2,h⟩:=gd h;have⟨ta3,ha3,h⟩:=bo h;have⟨ta4,ha4,h⟩:=bo h;have⟨ha5,h⟩:=gd h;cases h;exact rn 105 [b1,b1,.el (QP ta3),.obj (some 84) (.d (.tup [])) (QJ' ta4) []] [] [2,3,6,7,8] [0,1,2,10,11,12,13,17,18,22,26,83,84,102,103,104] (Qa ha5 (Qa (Uh ha4) (Qa (QX Ql ha3) (Qa ha2 (Qa (jDj a) QL)))))
  cases h;exact rx 105 [b0] [] [2,3] [0,1,2,10,11,12,13,17,18,22,26,83,84,102,103,104] (Qa (jEj a) QL)
def WO (n:Nat)(g:Int)(f:jSj)(a b:jVj)(h:jSj)(i d:jVj)(r s:Int)(t j:Bool)(k l m:Int)(o p q:jVj):Option (jVj×jVj×jRj) := if 0<=((a).length:Int)/\((a).length:Int)<=((a).length:Int)/\16*((a).length:Int)<=281474976710656/\((a).length:Int)<=9223372036854775807 then if 0<=((b).length:Int)/\((b).length:Int)<=((b).length:Int)/\8*((b).length:Int)<=281474976710656/\((b).length:Int)<=9223372036854775807 then if Wa 88 ((i).length+1) then if(f.toList==(⟨#[117,110,100,111]⟩:jSj).toList)=true then if Qh (((d).length:Int) - 1) then if 0<=(((d).length:Int) - 1)/\(((d).length:Int) - 1)<=((d).length:Int) then(Q2 (Zm n g f a b h i d r s t j k l m o p q) n (.inl ())).bind fun c=>match c with|.inl c=>(some ((i++([.agg [I g,.v (.string f),.lst false 1 (a.take ((List.replicate (Int.toNat ((a).length:Int)) (.v (.string ⟨#[]⟩):D)):jVj).length++(List.replicate (Int.toNat ((a).length:Int)) (.v (.string ⟨#[]⟩):D)).drop (a).length),.lst false 1 (b.take ((List.replicate (Int.toNat ((b).length:Int)) (I 0:D)):jVj).length++(List.replicate (Int.toNat ((b).length:Int)) (I 0:D)).drop (b).length),.v (.string h)]]:jVj)),(d.take (Int.toNat (((d).length:Int) - 1))),0,0,false,false,0,0,0,[],[],[]))|.inr c=>(some ((i++([.agg [I g,.v (.string f),.lst false 1 (a.take ((List.replicate (Int.toNat ((a).length:Int)) (.v (.string ⟨#[]⟩):D)):jVj).length++(List.replicate (Int.toNat ((a).length:Int)) (.v (.string ⟨#[]⟩):D)).drop (a).length),.lst false 1 (b.take ((List.replicate (Int.toNat ((b).length:Int)) (I 0:D)):jVj).length++(List.replicate (Int.toNat ((b).length:Int)) (I 0:D)).drop (b).length),.v (.string h)]]:jVj)),(d.take (Int.toNat (((d).length:Int) - 1))),c.1,c.2.1,c.2.2.1,c.2.2.2.1,c.2.2.2.2.1,c.2.2.2.2.2.1,c.2.2.2.2.2.2.1,c.2.2.2.2.2.2.2.1,c.2.2.2.2.2.2.2.2.1,c.2.2.2.2.2.2.2.2.2)) else none else none else if Wa 88 ((d).length+1) then(Qy n g f (a.take ((List.replicate (Int.toNat ((a).length:Int)) (.v (.string ⟨#[]⟩):D)):jVj).length++(List.replicate (Int.toNat ((a).length:Int)) (.v (.string ⟨#[]⟩):D)).drop (a).length) (b.take ((List.replicate (Int.toNat ((b).length:Int)) (I 0:D)):jVj).length++(List.replicate (Int.toNat ((b).length:Int)) (I 0:D)).drop (b).length) h (i++([.agg [I g,.v (.string f),.lst false 1 (a.take ((List.replicate (Int.toNat ((a).length:Int)) (.v (.string ⟨#[]⟩):D)):jVj).length++(List.replicate (Int.toNat ((a).length:Int)) (.v (.string ⟨#[]⟩):D)).drop (a).length),.lst false 1 (b.take ((List.replicate (Int.toNat ((b).length:Int)) (I 0:D)):jVj).length++(List.replicate (Int.toNat ((b).length:Int)) (I 0:D)).drop (b).length),.v (.string h)]]:jVj)) (d++([.agg [I g,.v (.string f),.lst false 1 (a.take ((List.replicate (Int.toNat ((a).length:Int)) (.v (.string ⟨#[]⟩):D)):jVj).length++(List.replicate (Int.toNat ((a).length:Int)) (.v (.string ⟨#[]⟩):D)).drop (a).length),.lst false 1 (b.take ((List.replicate (Int.toNat ((b).length:Int)) (I 0:D)):jVj).length++(List.replicate (Int.toNat ((b).length:Int)) (I 0:D)).drop (b).length),.v (.string h)]]:jVj)) r s t j k l m o p q).bind fun e=>some ((i++([.agg [I g,.v (.string f),.lst false 1 (a.take ((List.replicate (Int.toNat ((a).length:Int)) (.v (.string ⟨#[]⟩):D)):jVj).length++(List.replicate (Int.toNat ((a).length:Int)) (.v (.string ⟨#[]⟩):D)).drop (a).length),.lst false 1 (b.take ((List.replicate (Int.toNat ((b).length:Int)) (I 0:D)):jVj).length++(List.replicate (Int.toNat ((b).length:Int)) (I 0:D)).drop (b).length),.v (.string h)]]:jVj)),(d++([.agg [I g,.v (.string f),.lst false 1 (a.take ((List.replicate (Int.toNat ((a).length:Int)) (.v (.string ⟨#[]⟩):D)):jVj).length++(List.replicate (Int.toNat ((a).length:Int)) (.v (.string ⟨#[]⟩):D)).drop (a).length),.lst false 1 (b.take ((List.replicate (Int.toNat ((b).length:Int)) (I 0:D)):jVj).length++(List.replicate (Int.toNat ((b).length:Int)) (I 0:D)).drop (b).length),.v (.string h)]]:jVj)),e.1,e.2.1,e.2.2.1,e.2.2.2.1,e.2.2.2.2.1,e.2.2.2.2.2.1,e.2.2.2.2.2.2.1,e.2.2.2.2.2.2.2.1,e.2.2.2.2.2.2.2.2.1,e.2.2.2.2.2.2.2.2.2) else none else none else none else none
theorem Kf {n e f a b g w u x y z i j k m p s t r}(h:WO n e f a b g w u x y z i j k m p s t=some r):ComputesO cx 104 [.ptr 0 0 0 0 0,.d (.agg [I e,.v (.string f),.lst false 1 a,.lst false 1 b,.v (.string g)])] (some (Qb w u x y z i j k m p s t)) (.d (.tup [])) (Qb' r) []:=by
 unfold WO at h;have⟨h1,h⟩:=gd h;have⟨h2,h⟩:=gd h;have⟨h3,h⟩:=gd h;have q:=Qa (ro 65 h3) (Qa h2 (Qa h1 QL));let o(l:jOj):=b1::b1::b1::b1::l;obtain⟨A,h⟩|⟨A,h⟩:=io h
 ·have⟨h5,h⟩:=gd h;have⟨h6,h⟩:=gd h;have q:=Qa h6 (Qa h5 (Qa A q));let o l:=o (b1::.ix 0::b1::b1::l);have⟨c,h7,h⟩:=bo h;obtain c|c:=c
  ·cases h;exact rfO 0 (o [.lp [] [2,3,6,7,8] [0,1,2,10,11,12,13,17,18,22,26,83,84] (.exit 0) [(2,.ptr 83 0 0 0 0),(3,.ptr 84 0 0 0 0)] [(0,.box (.agg [.own 1 1,.own 2 1,.d (I x),.d (I y),.d (B z),.d (B i),.d (I j),.d (I k),.d (I m),.own 10 0,.own 11 0,.own 12 0])),(1,.row 1 5 (w++([.agg [I e,.v (.string f),.lst false 1 (a.take ((List.replicate (Int.toNat ((a).length:Int)) (.v (.string ⟨#[]⟩):D)):jVj).length++(List.replicate (Int.toNat ((a).length:Int)) (.v (.string ⟨#[]⟩):D)).drop (a).length),.lst false 1 (b.take ((List.replicate (Int.toNat ((b).length:Int)) (I 0:D)):jVj).length++(List.replicate (Int.toNat ((b).length:Int)) (I 0:D)).drop (b).length),.v (.string g)]]:jVj))),(2,.row 1 5 (u.take (Int.toNat (((u).length:Int) - 1)))),(10,.row 0 1 p),(11,.row 0 6 s),(12,.row 0 7 t),(13,.box (.agg [.d (I e),.d (.v (.string f)),.own 22 0,.own 26 0,.d (.v (.string g))])),(17,.box (.agg [.d (I e),.d (.v (.string f)),.own 22 0,.own 26 0,.d (.v (.string g))])),(18,.box (.agg [.d (I e),.d (.v (.string f)),.own 22 0,.own 26 0,.d (.v (.string g))])),(22,.frozen 0 1 (a.take ((List.replicate (Int.toNat ((a).length:Int)) (.v (.string ⟨#[]⟩):D)):jVj).length++(List.replicate (Int.toNat ((a).length:Int)) (.v (.string ⟨#[]⟩):D)).drop (a).length)),(26,.frozen 0 1 (b.take ((List.replicate (Int.toNat ((b).length:Int)) (I 0:D)):jVj).length++(List.replicate (Int.toNat ((b).length:Int)) (I 0:D)).drop (b).length)),(83,.box (.d jZj)),(84,.box (.d jZj))] 135]) (Qa (QH Ul h7) q)
  cases h;exact rfO 0 (o [.lp [] [2,3,6,7,8] [0,1,2,10,11,12,13,17,18,22,26,83,84] (.exit 0) [(2,.ptr 83 0 0 0 0),(3,.ptr 84 0 0 0 0)] [(0,.box (.agg [.own 1 1,.own 2 1,.d (I x),.d (I y),.d (B z),.d (B i),.d (I j),.d (I k),.d (I m),.own 10 0,.own 11 0,.own 12 0])),(1,.row 1 5 (w++([.agg [I e,.v (.string f),.lst false 1 (a.take ((List.replicate (Int.toNat ((a).length:Int)) (.v (.string ⟨#[]⟩):D)):jVj).length++(List.replicate (Int.toNat ((a).length:Int)) (.v (.string ⟨#[]⟩):D)).drop (a).length),.lst false 1 (b.take ((List.replicate (Int.toNat ((b).length:Int)) (I 0:D)):jVj).length++(List.replicate (Int.toNat ((b).length:Int)) (I 0:D)).drop (b).length),.v (.string g)]]:jVj))),(2,.row 1 5 (u.take (Int.toNat (((u).length:Int) - 1)))),(10,.row 0 1 p),(11,.row 0 6 s),(12,.row 0 7 t),(13,.box (.agg [.d (I e),.d (.v (.string f)),.own 22 0,.own 26 0,.d (.v (.string g))])),(17,.box (.agg [.d (I e),.d (.v (.string f)),.own 22 0,.own 26 0,.d (.v (.string g))])),(18,.box (.agg [.d (I e),.d (.v (.string f)),.own 22 0,.own 26 0,.d (.v (.string g))])),(22,.frozen 0 1 (a.take ((List.replicate (Int.toNat ((a).length:Int)) (.v (.string ⟨#[]⟩):D)):jVj).length++(List.replicate (Int.toNat ((a).length:Int)) (.v (.string ⟨#[]⟩):D)).drop (a).length)),(26,.frozen 0 1 (b.take ((List.replicate (Int.toNat ((b).length:Int)) (I 0:D)):jVj).length++(List.replicate (Int.toNat ((b).length:Int)) (I 0:D)).drop (b).length)),(83,.box (.d jZj)),(84,.box (.agg [.d (I c.1),.d (I c.2.1),.d (B c.2.2.1),.d (B c.2.2.2.1),.d (I c.2.2.2.2.1),.d (I c.2.2.2.2.2.1),.d (I c.2.2.2.2.2.2.1),.own 102 0,.own 103 0,.own 104 0])),(102,.row 0 1 c.2.2.2.2.2.2.2.1),(103,.row 0 6 c.2.2.2.2.2.2.2.2.1),(104,.row 0 7 c.2.2.2.2.2.2.2.2.2)] 135]) (Qa (QH Ul h7) q)
 have⟨h5,h⟩:=gd h;have⟨t6,h6,h⟩:=bo h;cases h;exact rfO 0 (o [b0,b1,.ix (-9),.obj (some 0) (.d (.tup [])) (Qb (w++([.agg [I e,.v (.string f),.lst false 1 (a.take ((List.replicate (Int.toNat ((a).length:Int)) (.v (.string ⟨#[]⟩):D)):jVj).length++(List.replicate (Int.toNat ((a).length:Int)) (.v (.string ⟨#[]⟩):D)).drop (a).length),.lst false 1 (b.take ((List.replicate (Int.toNat ((b).length:Int)) (I 0:D)):jVj).length++(List.replicate (Int.toNat ((b).length:Int)) (I 0:D)).drop (b).length),.v (.string g)]]:jVj)) (u++([.agg [I e,.v (.string f),.lst false 1 (a.take ((List.replicate (Int.toNat ((a).length:Int)) (.v (.string ⟨#[]⟩):D)):jVj).length++(List.replicate (Int.toNat ((a).length:Int)) (.v (.string ⟨#[]⟩):D)).drop (a).length),.lst false 1 (b.take ((List.replicate (Int.toNat ((b).length:Int)) (I 0:D)):jVj).length++(List.replicate (Int.toNat ((b).length:Int)) (I 0:D)).drop (b).length),.v (.string g)]]:jVj)) t6.1 t6.2.1 t6.2.2.1 t6.2.2.2.1 t6.2.2.2.2.1 t6.2.2.2.2.2.1 t6.2.2.2.2.2.2.1 t6.2.2.2.2.2.2.2.1 t6.2.2.2.2.2.2.2.2.1 t6.2.2.2.2.2.2.2.2.2) [true,true]]) (Qa (J1 h6) (Qa (ro 65 h5) (Qa (QA A) q)))
def QR (n:Nat)(f:jVj)(a:(Unit)⊕Int×Int×Int×Bool×Bool×Int×Int×Int×jVj×jVj×jVj×jVj×jVj):Option ((Unit⊕Int×Int×Int×Bool×Bool×Int×Int×Int×jVj×jVj×jVj×jVj×jVj)⊕Int×Int×Int×Int×Bool×Bool×Int×Int×Int×jVj×jVj×jVj×jVj×jVj⊕Int⊕Unit⊕Int×Int×Bool×Bool×Int×Int×Int×jVj×jVj×jVj×jVj×jVj):=match a with|(.inl a)=>(if 0<((f).length:Int) then(el Ze f 0).bind fun b=>(WX n b.1 b.2.1 b.2.2.1 b.2.2.2.1 b.2.2.2.2).bind fun d=>if d=0 then(Qs n b.1 b.2.1 b.2.2.1 b.2.2.2.1 b.2.2.2.2 ([]) ([]) 0 0 false false 0 0 0 ([]) ([]) ([])).bind fun e=>if e=0 then(WO n b.1 b.2.1 b.2.2.1 b.2.2.2.1 b.2.2.2.2 ([]) ([]) 0 0 false false 0 0 0 ([]) ([]) ([])).bind fun c=>some (.inl (.inr (1,c.2.2.1,c.2.2.2.1,c.2.2.2.2.1,c.2.2.2.2.2.1,c.2.2.2.2.2.2.1,c.2.2.2.2.2.2.2.1,c.2.2.2.2.2.2.2.2.1,c.1,c.2.1,c.2.2.2.2.2.2.2.2.2.1,c.2.2.2.2.2.2.2.2.2.2.1,c.2.2.2.2.2.2.2.2.2.2.2))) else some (.inr (.inl (1,e,0,0,false,false,0,0,0,[],[],[],[],[]))) else some (.inr (.inr (.inl d))) else some (.inr (.inr (.inr (.inl ())))))|.inr a=>(if a.1<((f).length:Int) then(el Ze f a.1).bind fun b=>(WX n b.1 b.2.1 b.2.2.1 b.2.2.2.1 b.2.2.2.2).bind fun d=>if d=0 then(Qs n b.1 b.2.1 b.2.2.1 b.2.2.2.1 b.2.2.2.2 a.2.2.2.2.2.2.2.2.1 a.2.2.2.2.2.2.2.2.2.1 a.2.1 a.2.2.1 a.2.2.2.1 a.2.2.2.2.1 a.2.2.2.2.2.1 a.2.2.2.2.2.2.1 a.2.2.2.2.2.2.2.1 a.2.2.2.2.2.2.2.2.2.2.1 a.2.2.2.2.2.2.2.2.2.2.2.1 a.2.2.2.2.2.2.2.2.2.2.2.2).bind fun e=>if e=0 then(WO n b.1 b.2.1 b.2.2.1 b.2.2.2.1 b.2.2.2.2 a.2.2.2.2.2.2.2.2.1 a.2.2.2.2.2.2.2.2.2.1 a.2.1 a.2.2.1 a.2.2.2.1 a.2.2.2.2.1 a.2.2.2.2.2.1 a.2.2.2.2.2.2.1 a.2.2.2.2.2.2.2.1 a.2.2.2.2.2.2.2.2.2.2.1 a.2.2.2.2.2.2.2.2.2.2.2.1 a.2.2.2.2.2.2.2.2.2.2.2.2).bind fun c=>if Qh (a.1+1) then some (.inl (.inr ((a.1+1),c.2.2.1,c.2.2.2.1,c.2.2.2.2.1,c.2.2.2.2.2.1,c.2.2.2.2.2.2.1,c.2.2.2.2.2.2.2.1,c.2.2.2.2.2.2.2.2.1,c.1,c.2.1,c.2.2.2.2.2.2.2.2.2.1,c.2.2.2.2.2.2.2.2.2.2.1,c.2.2.2.2.2.2.2.2.2.2.2))) else none else if Qh (a.1+1) then some (.inr (.inl ((a.1+1),e,a.2.1,a.2.2.1,a.2.2.2.1,a.2.2.2.2.1,a.2.2.2.2.2.1,a.2.2.2.2.2.2.1,a.2.2.2.2.2.2.2.1,a.2.2.2.2.2.2.2.2.1,a.2.2.2.2.2.2.2.2.2.1,a.2.2.2.2.2.2.2.2.2.2.1,a.2.2.2.2.2.2.2.2.2.2.2.1,a.2.2.2.2.2.2.2.2.2.2.2.2))) else none else if Qh (a.1+1) then some (.inr (.inl ((a.1+1),d,a.2.1,a.2.2.1,a.2.2.2.1,a.2.2.2.2.1,a.2.2.2.2.2.1,a.2.2.2.2.2.2.1,a.2.2.2.2.2.2.2.1,a.2.2.2.2.2.2.2.2.1,a.2.2.2.2.2.2.2.2.2.1,a.2.2.2.2.2.2.2.2.2.2.1,a.2.2.2.2.2.2.2.2.2.2.2.1,a.2.2.2.2.2.2.2.2.2.2.2.2))) else none else some (.inr (.inr (.inr (.inr (a.2.1,a.2.2.1,a.2.2.2.1,a.2.2.2.2.1,a.2.2.2.2.2.1,a.2.2.2.2.2.2.1,a.2.2.2.2.2.2.2.1,a.2.2.2.2.2.2.2.2.1,a.2.2.2.2.2.2.2.2.2.1,a.2.2.2.2.2.2.2.2.2.2.1,a.2.2.2.2.2.2.2.2.2.2.2.1,a.2.2.2.2.2.2.2.2.2.2.2.2))))))
noncomputable def X4 (a:jVj):Lp (Unit⊕Int×Int×Int×Bool×Bool×Int×Int×Int×jVj×jVj×jVj×jVj×jVj) (Int×Int×Int×Int×Bool×Bool×Int×Int×Int×jVj×jVj×jVj×jVj×jVj⊕Int⊕Unit⊕Int×Int×Bool×Bool×Int×Int×Int×jVj×jVj×jVj×jVj×jVj):=⟨fun
 | (.inl sa)=>[(5,.ptr 4 0 0 0 0),(15,.d (.lst false 5 a)),(16,.d (I ((a).length:Int))),(17,.d (I 0))]
 | (.inr sa)=>[(5,.ptr 4 0 0 0 0),(15,.d (.lst false 5 a)),(16,.d (I ((a).length:Int))),(17,.d (I sa.1))],fun
 | (.inl sa)=>[(4,.box (.d (.agg [.lst true 0 [],.lst true 0 [],I 0,I 0,B false,B false,I 0,I 0,I 0,.lst true 0 [],.lst true 0 [],.lst true 0 []])))]
 | (.inr sa)=>[(4,.box (.agg [.own 28 0,.own 29 0,.d (I sa.2.1),.d (I sa.2.2.1),.d (B sa.2.2.2.1),.d (B sa.2.2.2.2.1),.d (I sa.2.2.2.2.2.1),.d (I sa.2.2.2.2.2.2.1),.d (I sa.2.2.2.2.2.2.2.1),.own 37 0,.own 38 0,.own 39 0])),(28,.row 0 5 sa.2.2.2.2.2.2.2.2.1),(29,.row 0 5 sa.2.2.2.2.2.2.2.2.2.1),(37,.row 0 1 sa.2.2.2.2.2.2.2.2.2.2.1),(38,.row 0 6 sa.2.2.2.2.2.2.2.2.2.2.2.1),(39,.row 0 7 sa.2.2.2.2.2.2.2.2.2.2.2.2)],fun
 | (.inl e)=>.ret
 | (.inr (.inl e))=>.ret
 | (.inr (.inr (.inl e)))=>(.exit 0)
 | (.inr (.inr (.inr e)))=>(.exit 0),fun
 | (.inl e)=>[(2,.ptr 4 0 0 0 0),(3,.d (I e.1)),(4,.d (I e.2.1))]
 | (.inr (.inl e))=>[(2,.ptr 4 0 0 0 0),(3,.d (I 1)),(4,.d (I e))]
 | (.inr (.inr (.inl e)))=>[(5,.ptr 4 0 0 0 0)]
 | (.inr (.inr (.inr e)))=>[(5,.ptr 4 0 0 0 0)],fun
 | (.inl e)=>[(4,.box (.agg [.own 28 0,.own 29 0,.d (I e.2.2.1),.d (I e.2.2.2.1),.d (B e.2.2.2.2.1),.d (B e.2.2.2.2.2.1),.d (I e.2.2.2.2.2.2.1),.d (I e.2.2.2.2.2.2.2.1),.d (I e.2.2.2.2.2.2.2.2.1),.own 37 0,.own 38 0,.own 39 0])),(28,.row 0 5 e.2.2.2.2.2.2.2.2.2.1),(29,.row 0 5 e.2.2.2.2.2.2.2.2.2.2.1),(37,.row 0 1 e.2.2.2.2.2.2.2.2.2.2.2.1),(38,.row 0 6 e.2.2.2.2.2.2.2.2.2.2.2.2.1),(39,.row 0 7 e.2.2.2.2.2.2.2.2.2.2.2.2.2)]
 | (.inr (.inl e))=>[(4,.box (.d (.agg [.lst true 0 [],.lst true 0 [],I 0,I 0,B false,B false,I 0,I 0,I 0,.lst true 0 [],.lst true 0 [],.lst true 0 []])))]
 | (.inr (.inr (.inl e)))=>[(4,.box (.d (.agg [.lst true 0 [],.lst true 0 [],I 0,I 0,B false,B false,I 0,I 0,I 0,.lst true 0 [],.lst true 0 [],.lst true 0 []])))]
 | (.inr (.inr (.inr e)))=>[(4,.box (.agg [.own 28 0,.own 29 0,.d (I e.1),.d (I e.2.1),.d (B e.2.2.1),.d (B e.2.2.2.1),.d (I e.2.2.2.2.1),.d (I e.2.2.2.2.2.1),.d (I e.2.2.2.2.2.2.1),.own 37 0,.own 38 0,.own 39 0])),(28,.row 0 5 e.2.2.2.2.2.2.2.1),(29,.row 0 5 e.2.2.2.2.2.2.2.2.1),(37,.row 0 1 e.2.2.2.2.2.2.2.2.2.1),(38,.row 0 6 e.2.2.2.2.2.2.2.2.2.2.1),(39,.row 0 7 e.2.2.2.2.2.2.2.2.2.2.2)]⟩
theorem VJ {n f}(b)(r)(h:QR n f b=some r):Rl (ZJ cx.P 61 0) 40 0 false (X4 f) b r:=by
 unfold QR at h;obtain b|b:=b
 ·obtain⟨c,h⟩|⟨c,h⟩:=io h
  ·have⟨ta2,ha2,h⟩:=bo h;have⟨ta3,ha3,h⟩:=bo h;have q:=Qa (Ja ha3) (allE Ql ha2 (Qa (jDj c) QL));let o(l:jOj):=b1::.el (QP ta2)::.ret (I ta3)::l;obtain⟨a,h⟩|⟨a,h⟩:=io h
   ·have⟨ta5,ha5,h⟩:=bo h;have q:=Qa (YZ ha5) (Qa (eqt a) q);let o l:=o (b1::.obj (some 4) (.d (I ta5)) (Qb ([]) ([]) 0 0 false false 0 0 0 ([]) ([]) ([])) ZV::l);obtain⟨e,h⟩|⟨e,h⟩:=io h
    ·have⟨ta7,ha7,h⟩:=bo h;cases h;exact rn 12 (o [b0,.obj (some 4) (.d (.tup [])) (Qb' ta7) []]) [] [5,15,16,17] [4,28,29,37,38,39] (Qa ((by unfold Qh;omega):Qh 1) (Qa (Kf ha7) (Qa (nef e) q)))
    cases h;exact rx 12 (o [b1]) [] [2,3,4] [4,28,29,37,38,39] (Qa ((by unfold Qh;omega):Qh 1) (Qa (net e) q))
   cases h;exact rx 12 (o [b0,b1]) [] [2,3,4] [4] (Qa ((by unfold Qh;omega):Qh 1) (Qa (net a) (Qa (eqf a) q)))
  cases h;exact rx 12 [b0] [] [5] [4] (Qa (jEj c) QL)
 ·obtain⟨c,h⟩|⟨c,h⟩:=io h
  ·have⟨ta2,ha2,h⟩:=bo h;have⟨ta3,ha3,h⟩:=bo h;have q:=Qa (Ja ha3) (allE Ql ha2 (Qa (jDj c) QL));let o(l:jOj):=b1::.el (QP ta2)::.ret (I ta3)::l;obtain⟨a,h⟩|⟨a,h⟩:=io h
   ·have⟨ta5,ha5,h⟩:=bo h;have q:=Qa (YZ ha5) (Qa (eqt a) q);let o l:=o (b1::.obj (some 4) (.d (I ta5)) (Qb b.2.2.2.2.2.2.2.2.1 b.2.2.2.2.2.2.2.2.2.1 b.2.1 b.2.2.1 b.2.2.2.1 b.2.2.2.2.1 b.2.2.2.2.2.1 b.2.2.2.2.2.2.1 b.2.2.2.2.2.2.2.1 b.2.2.2.2.2.2.2.2.2.2.1 b.2.2.2.2.2.2.2.2.2.2.2.1 b.2.2.2.2.2.2.2.2.2.2.2.2) ZV::l);obtain⟨e,h⟩|⟨e,h⟩:=io h
    ·have⟨ta7,ha7,h⟩:=bo h;have⟨ha8,h⟩:=gd h;cases h;exact rn 40 (o [b0,.obj (some 4) (.d (.tup [])) (Qb' ta7) []]) [] [5,15,16,17] [4,28,29,37,38,39] (Qa ha8 (Qa (Kf ha7) (Qa (nef e) q)))
    have⟨ha7,h⟩:=gd h;cases h;exact rx 40 (o [b1]) [] [2,3,4] [4,28,29,37,38,39] (Qa ha7 (Qa (net e) q))
   have⟨ha5,h⟩:=gd h;cases h;exact rx 40 (o [b0,b1]) [] [2,3,4] [4,28,29,37,38,39] (Qa ha5 (Qa (net a) (Qa (eqf a) q)))
  cases h;exact rx 40 [b0] [] [5] [4,28,29,37,38,39] (Qa (jEj c) QL)
def Q6 (n:Nat)(b:jVj):Option (Int×Int×jVj×jVj×jRj) := if((b).length:Int)>1000 then some (0,5,[],[],0,0,false,false,0,0,0,[],[],[]) else(Q2 (QR n b) n (.inl ())).bind fun a=>match a with|.inl a=>(some (a.1,a.2.1,a.2.2.2.2.2.2.2.2.2.1,a.2.2.2.2.2.2.2.2.2.2.1,a.2.2.1,a.2.2.2.1,a.2.2.2.2.1,a.2.2.2.2.2.1,a.2.2.2.2.2.2.1,a.2.2.2.2.2.2.2.1,a.2.2.2.2.2.2.2.2.1,a.2.2.2.2.2.2.2.2.2.2.2.1,a.2.2.2.2.2.2.2.2.2.2.2.2.1,a.2.2.2.2.2.2.2.2.2.2.2.2.2))|(.inr (.inl a))=>(some (1,a,[],[],0,0,false,false,0,0,0,[],[],[]))|(.inr (.inr (.inl a)))=>(some (0,0,[],[],0,0,false,false,0,0,0,[],[],[]))|(.inr (.inr (.inr a)))=>(some (0,0,a.2.2.2.2.2.2.2.1,a.2.2.2.2.2.2.2.2.1,a.1,a.2.1,a.2.2.1,a.2.2.2.1,a.2.2.2.2.1,a.2.2.2.2.2.1,a.2.2.2.2.2.2.1,a.2.2.2.2.2.2.2.2.2.1,a.2.2.2.2.2.2.2.2.2.2.1,a.2.2.2.2.2.2.2.2.2.2.2))
theorem We {n c r}(h:Q6 n c=some r):ComputesO cx 61 [.d (.lst false 5 c)] none (.tup [.ptr 0 0 0 0 0,.d (I r.1),.d (I r.2.1)]) (Qb' r.2.2) []:=by
 unfold Q6 at h;obtain⟨b,h⟩|⟨b,h⟩:=io h
 ·cases h;exact rfO 4 [b1] (Qa (jDj b) QL)
 have q:=Qa (jEj b) QL;have⟨a,h2,h⟩:=bo h;obtain a|a|a|a:=a
 ·cases h;exact rfO 4 [b0,.lp [] [5,15,16,17] [4] .ret [(2,.ptr 4 0 0 0 0),(3,.d (I a.1)),(4,.d (I a.2.1))] [(4,.box (.agg [.own 28 0,.own 29 0,.d (I a.2.2.1),.d (I a.2.2.2.1),.d (B a.2.2.2.2.1),.d (B a.2.2.2.2.2.1),.d (I a.2.2.2.2.2.2.1),.d (I a.2.2.2.2.2.2.2.1),.d (I a.2.2.2.2.2.2.2.2.1),.own 37 0,.own 38 0,.own 39 0])),(28,.row 0 5 a.2.2.2.2.2.2.2.2.2.1),(29,.row 0 5 a.2.2.2.2.2.2.2.2.2.2.1),(37,.row 0 1 a.2.2.2.2.2.2.2.2.2.2.2.1),(38,.row 0 6 a.2.2.2.2.2.2.2.2.2.2.2.2.1),(39,.row 0 7 a.2.2.2.2.2.2.2.2.2.2.2.2.2)] 86] (Qa (QH VJ h2) q)
 ·cases h;exact rfO 4 [b0,.lp [] [5,15,16,17] [4] .ret [(2,.ptr 4 0 0 0 0),(3,.d (I 1)),(4,.d (I a))] [(4,.box (.d (.agg [.lst true 0 [],.lst true 0 [],I 0,I 0,B false,B false,I 0,I 0,I 0,.lst true 0 [],.lst true 0 [],.lst true 0 []])))] 86] (Qa (QH VJ h2) q)
 ·cases h;exact rfO 4 [b0,.lp [] [5,15,16,17] [4] (.exit 0) [(5,.ptr 4 0 0 0 0)] [(4,.box (.d (.agg [.lst true 0 [],.lst true 0 [],I 0,I 0,B false,B false,I 0,I 0,I 0,.lst true 0 [],.lst true 0 [],.lst true 0 []])))] 86] (Qa (QH VJ h2) q)
 cases h;exact rfO 4 [b0,.lp [] [5,15,16,17] [4] (.exit 0) [(5,.ptr 4 0 0 0 0)] [(4,.box (.agg [.own 28 0,.own 29 0,.d (I a.1),.d (I a.2.1),.d (B a.2.2.1),.d (B a.2.2.2.1),.d (I a.2.2.2.2.1),.d (I a.2.2.2.2.2.1),.d (I a.2.2.2.2.2.2.1),.own 37 0,.own 38 0,.own 39 0])),(28,.row 0 5 a.2.2.2.2.2.2.2.1),(29,.row 0 5 a.2.2.2.2.2.2.2.2.1),(37,.row 0 1 a.2.2.2.2.2.2.2.2.2.1),(38,.row 0 6 a.2.2.2.2.2.2.2.2.2.2.1),(39,.row 0 7 a.2.2.2.2.2.2.2.2.2.2.2)] 86] (Qa (QH VJ h2) q)
def UQ (n:Nat)(a b:jSj)(c d:Int)(e f:Bool):Option (jSj) := some a
theorem jJ {n a b c d e f r}(h:UQ n a b c d e f=some r):Computes cx 66 [.agg [.v (.string a),.v (.string b),I c,I d,B e,B f]] (.v (.string r)):=by unfold UQ at h;obtain rfl:=oi h;exact rf [] QL
def Wt (n:Nat)(a b c:Int):Option (Bool) := if a<b then some true else some (decide (a>c))
theorem V0 {n b c d r}(h:Wt n b c d=some r):Computes cx 21 [I b,I c,I d] (B r):=by
 unfold Wt at h;obtain⟨a,h⟩|⟨a,h⟩:=io h
 ·obtain rfl:=oi h;exact rf [b1] (Qa (jDj a) QL)
 cases h;exact rf [b0] (Qa (jEj a) QL)
def Q1 (n:Nat)(a:jSj):Option (jSj×Int×Bool) := if(a.toList==(⟨#[115,101,99,116,111,114]⟩:jSj).toList)=true then some (⟨#[83]⟩,1,true) else if(a.toList==(⟨#[109,105,114,114,111,114]⟩:jSj).toList)=true then some (⟨#[77,115]⟩,2,true) else if(a.toList==(⟨#[115,111,105,108]⟩:jSj).toList)=true then some (⟨#[109]⟩,2,true) else if(a.toList==(⟨#[99,108,101,97,110]⟩:jSj).toList)=true then some (⟨#[109]⟩,1,true) else if(a.toList==(⟨#[100,101,102,101,99,116]⟩:jSj).toList)=true then some (⟨#[109]⟩,1,true) else if(a.toList==(⟨#[114,101,112,97,105,114]⟩:jSj).toList)=true then some (⟨#[109]⟩,1,true) else if(a.toList==(⟨#[97,105,109]⟩:jSj).toList)=true then some (⟨#[109]⟩,1,true) else if(a.toList==(⟨#[112,97,114,107]⟩:jSj).toList)=true then some (⟨#[109]⟩,1,true) else if(a.toList==(⟨#[100,105,109]⟩:jSj).toList)=true then some (⟨#[115]⟩,1,true) else if(a.toList==(⟨#[115,117,110]⟩:jSj).toList)=true then some (⟨#[]⟩,2,true) else if(a.toList==(⟨#[102,105,108,108]⟩:jSj).toList)=true then some (⟨#[]⟩,1,true) else if(a.toList==(⟨#[100,114,97,105,110]⟩:jSj).toList)=true then some (⟨#[]⟩,1,true) else if(a.toList==(⟨#[116,114,105,112]⟩:jSj).toList)=true then some (⟨#[]⟩,1,true) else if(a.toList==(⟨#[114,101,115,101,116]⟩:jSj).toList)=true then some (⟨#[]⟩,1,true) else if(a.toList==(⟨#[111,102,102,101,114]⟩:jSj).toList)=true then some (⟨#[79]⟩,5,true) else if(a.toList==(⟨#[100,101,108,105,118,101,114]⟩:jSj).toList)=true then some (⟨#[111]⟩,2,true) else if(a.toList==(⟨#[98,105,108,108]⟩:jSj).toList)=true then some (⟨#[111]⟩,1,true) else if(a.toList==(⟨#[117,110,100,111]⟩:jSj).toList)=true then some (⟨#[]⟩,0,true) else some (⟨#[]⟩,0,false)
theorem qq {n z r}(h:Q1 n z=some r):Computes cx 92 [.v (.string z)] (.agg [.v (.string r.1),I r.2.1,B r.2.2]):=by
 unfold Q1 at h;obtain⟨t,h⟩|⟨t,h⟩:=io h
 ·cases h;exact rf [b1] (Qa t QL)
 have q:=Qa (QA t) QL;let o(l:jOj):=b0::l;obtain⟨u,h⟩|⟨u,h⟩:=io h
 ·cases h;exact rf (o [b1]) (Qa u q)
 have q:=Qa (QA u) q;let o l:=o (b0::l);obtain⟨w,h⟩|⟨w,h⟩:=io h
 ·cases h;exact rf (o [b1]) (Qa w q)
 have q:=Qa (QA w) q;let o l:=o (b0::l);obtain⟨k,h⟩|⟨k,h⟩:=io h
 ·cases h;exact rf (o [b1,b1]) (Qa k (Qa k q))
 have q:=Qa (QA k) q;let o l:=o (b0::l);obtain⟨m,h⟩|⟨m,h⟩:=io h
 ·cases h;exact rf (o [b1,b1]) (Qa m (Qa m q))
 have q:=Qa (QA m) q;let o l:=o (b0::l);obtain⟨p,h⟩|⟨p,h⟩:=io h
 ·cases h;exact rf (o [b1,b1]) (Qa p (Qa p q))
 have q:=Qa (QA p) q;let o l:=o (b0::l);obtain⟨s,h⟩|⟨s,h⟩:=io h
 ·cases h;exact rf (o [b1,b1]) (Qa s (Qa s q))
 have q:=Qa (QA s) q;let o l:=o (b0::l);obtain⟨x,h⟩|⟨x,h⟩:=io h
 ·cases h;exact rf (o [b1]) (Qa x q)
 have q:=Qa (QA x) q;let o l:=o (b0::l);obtain⟨y,h⟩|⟨y,h⟩:=io h
 ·cases h;exact rf (o [b1]) (Qa y q)
 have q:=Qa (QA y) q;let o l:=o (b0::l);obtain⟨d,h⟩|⟨d,h⟩:=io h
 ·cases h;exact rf (o [b1]) (Qa d q)
 have q:=Qa (QA d) q;let o l:=o (b0::l);obtain⟨a,h⟩|⟨a,h⟩:=io h
 ·cases h;exact rf (o [b1,b1]) (Qa a (Qa a q))
 have q:=Qa (QA a) q;let o l:=o (b0::l);obtain⟨b,h⟩|⟨b,h⟩:=io h
 ·cases h;exact rf (o [b1,b1]) (Qa b (Qa b q))
 have q:=Qa (QA b) q;let o l:=o (b0::l);obtain⟨c,h⟩|⟨c,h⟩:=io h
 ·cases h;exact rf (o [b1,b1]) (Qa c (Qa c q))
 have q:=Qa (QA c) q;let o l:=o (b0::l);obtain⟨e,h⟩|⟨e,h⟩:=io h
 ·cases h;exact rf (o [b1]) (Qa e q)
 have q:=Qa (QA e) q;let o l:=o (b0::l);obtain⟨f,h⟩|⟨f,h⟩:=io h
 ·cases h;exact rf (o [b1]) (Qa f q)
 have q:=Qa (QA f) q;obtain⟨g,h⟩|⟨g,h⟩:=io h
 ·cases h;exact rf (o [b0,b1]) (Qa g q)
 have q:=Qa (QA g) q;let o l:=o (b0::b0::l);obtain⟨i,h⟩|⟨i,h⟩:=io h
 ·cases h;exact rf (o [b1]) (Qa i q)
 have q:=Qa (QA i) q;obtain⟨j,h⟩|⟨j,h⟩:=io h
 ·cases h;exact rf (o [b0,b1]) (Qa j q)
 cases h;exact rf (o [b0,b0]) (Qa (QA j) q)
def Wm (n:Nat)(c:jSj)(b:Int):Option (Int⊕Unit⊕Unit) := if b<(c.size:Int) then(WQ c b).bind fun a=>if a>=97 then if a<=122 then if a>=48 then if a<=57 then if Qh (b+1) then some (.inl (b+1)) else none else if Qh (b+1) then some (.inl (b+1)) else none else if Qh (b+1) then some (.inl (b+1)) else none else if a>=65 then if a>=48 then if a<=57 then if a<=90 then if Qh (b+1) then some (.inl (b+1)) else none else if b=0 then some (.inr (.inl ())) else if Qh (b+1) then some (.inl (b+1)) else none else if a<=90 then if Qh (b+1) then some (.inl (b+1)) else none else if b=0 then some (.inr (.inl ())) else if a=95 then if Qh (b+1) then some (.inl (b+1)) else none else some (.inr (.inl ())) else if a<=90 then if Qh (b+1) then some (.inl (b+1)) else none else if b=0 then some (.inr (.inl ())) else if a=95 then if Qh (b+1) then some (.inl (b+1)) else none else some (.inr (.inl ())) else if a>=48 then if a<=57 then if b=0 then some (.inr (.inl ())) else if Qh (b+1) then some (.inl (b+1)) else none else if b=0 then some (.inr (.inl ())) else if a=95 then if Qh (b+1) then some (.inl (b+1)) else none else some (.inr (.inl ())) else if b=0 then some (.inr (.inl ())) else if a=95 then if Qh (b+1) then some (.inl (b+1)) else none else some (.inr (.inl ())) else if a>=65 then if a>=48 then if a<=57 then if a<=90 then if Qh (b+1) then some (.inl (b+1)) else none else if b=0 then some (.inr (.inl ())) else if Qh (b+1) then some (.inl (b+1)) else none else if a<=90 then if Qh (b+1) then some (.inl (b+1)) else none else if b=0 then some (.inr (.inl ())) else if a=95 then if Qh (b+1) then some (.inl (b+1)) else none else some (.inr (.inl ())) else if a<=90 then if Qh (b+1) then some (.inl (b+1)) else none else if b=0 then some (.inr (.inl ())) else if a=95 then if Qh (b+1) then some (.inl (b+1)) else none else some (.inr (.inl ())) else if a>=48 then if a<=57 then if b=0 then some (.inr (.inl ())) else if Qh (b+1) then some (.inl (b+1)) else none else if b=0 then some (.inr (.inl ())) else if a=95 then if Qh (b+1) then some (.inl (b+1)) else none else some (.inr (.inl ())) else if b=0 then some (.inr (.inl ())) else if a=95 then if Qh (b+1) then some (.inl (b+1)) else none else some (.inr (.inl ())) else some (.inr (.inr ()))
noncomputable def qx (a:jSj):Lp (Int) (Unit⊕Unit):=⟨fun b=>[(0,.d (.v (.string a))),(3,.d (I b))],fun _=>[],fun
 | (.inl e)=>.ret
 | (.inr e)=>(.exit 0),fun
 | (.inl e)=>[(2,.d (B false))]
 | (.inr e)=>[],fun _=>[]⟩
theorem JO {n i}(j)(r)(h:Wm n i j=some r):Rl (ZJ cx.P 93 0) 67 0 false (qx i) j r:=by
 unfold Wm at h;obtain⟨m,h⟩|⟨m,h⟩:=io h
 ·have⟨ta2,e,h⟩:=bo h;have q:=Qa (Zq e:QV cx.P (Instr.index 9 (.string i) (.int .i64 j))=some (.int .u8 ta2)) (Qa (jDj m) QL);let o(l:jOj):=b1::.el (.v (.int .u8 ta2))::l;obtain⟨p,h⟩|⟨p,h⟩:=io h
  ·have q:=Qa (Zq e:QV cx.P (Instr.index 9 (.string i) (.int .i64 j))=some (.int .u8 ta2)) (Qa (jDj p) q);let o l:=o (b1::.el (.v (.int .u8 ta2))::l);obtain⟨k,h⟩|⟨k,h⟩:=io h
   ·have q:=Qa (Zq e:QV cx.P (Instr.index 9 (.string i) (.int .i64 j))=some (.int .u8 ta2)) (Qa (jDj k) q);let o l:=o (b1::.el (.v (.int .u8 ta2))::l);obtain⟨g,h⟩|⟨g,h⟩:=io h
    ·have q:=Qa (Zq e:QV cx.P (Instr.index 9 (.string i) (.int .i64 j))=some (.int .u8 ta2)) (Qa (jDj g) q);let o l:=o (b1::.el (.v (.int .u8 ta2))::l);obtain⟨d,h⟩|⟨d,h⟩:=io h
     ·have⟨b,h⟩:=gd h;cases h;exact rn 9 (o [b1,.no,.no]) [] [0,3] [] (Qa b (Qa (jDj d) q))
     have⟨b,h⟩:=gd h;cases h;exact rn 9 (o [b0,.el (.v (.int .u8 ta2)),.no,.no]) [] [0,3] [] (Qa b (Qa (Zq e:QV cx.P (Instr.index 9 (.string i) (.int .i64 j))=some (.int .u8 ta2)) (Qa (jEj d) q)))
    have⟨d,h⟩:=gd h;cases h;exact rn 9 (o [b0,.no,.el (.v (.int .u8 ta2)),.no,.no]) [] [0,3] [] (Qa d (Qa (Zq e:QV cx.P (Instr.index 9 (.string i) (.int .i64 j))=some (.int .u8 ta2)) (Qa (jEj g) q)))
   have q:=Qa (Zq e:QV cx.P (Instr.index 9 (.string i) (.int .i64 j))=some (.int .u8 ta2)) (Qa (jEj k) q);let o l:=o (b0::.el (.v (.int .u8 ta2))::l);obtain⟨g,h⟩|⟨g,h⟩:=io h
   ·have q:=Qa (Zq e:QV cx.P (Instr.index 9 (.string i) (.int .i64 j))=some (.int .u8 ta2)) (Qa (Zq e:QV cx.P (Instr.index 9 (.string i) (.int .i64 j))=some (.int .u8 ta2)) (Qa (jDj g) q));let o l:=o (b1::.el (.v (.int .u8 ta2))::.el (.v (.int .u8 ta2))::l);obtain⟨d,h⟩|⟨d,h⟩:=io h
    ·have q:=Qa (Zq e:QV cx.P (Instr.index 9 (.string i) (.int .i64 j))=some (.int .u8 ta2)) (Qa (jDj d) q);let o l:=o (b1::.el (.v (.int .u8 ta2))::l);obtain⟨b,h⟩|⟨b,h⟩:=io h
     ·have q:=Qa (jDj b) q;obtain⟨a,h⟩|⟨a,h⟩:=io h
      ·have⟨c,h⟩:=gd h;cases h;exact rn 9 (o [b1,b0,.no]) [] [0,3] [] (Qa c (Qa (Ud (jDj a)) q))
      have q:=Qa (Uc (jEj a)) q;obtain⟨c,h⟩|⟨c,h⟩:=io h
      ·cases h;exact rx 9 (o [b1,b1,b1,.no]) [] [2] [] (Qa (eqt c) q)
      have⟨f,h⟩:=gd h;cases h;exact rn 9 (o [b1,b1,b0,.no]) [] [0,3] [] (Qa f (Qa (eqf c) q))
     have q:=Qa (Zq e:QV cx.P (Instr.index 9 (.string i) (.int .i64 j))=some (.int .u8 ta2)) (Qa (jEj b) q);let o l:=o (b0::.el (.v (.int .u8 ta2))::l);obtain⟨a,h⟩|⟨a,h⟩:=io h
     ·have⟨c,h⟩:=gd h;cases h;exact rn 9 (o [b0,.no]) [] [0,3] [] (Qa c (Qa (Ud (jDj a)) q))
     have q:=Qa (Uc (jEj a)) q;obtain⟨c,h⟩|⟨c,h⟩:=io h
     ·cases h;exact rx 9 (o [b1,b1,.no]) [] [2] [] (Qa (eqt c) q)
     have q:=Qa (eqf c) q;obtain⟨f,h⟩|⟨f,h⟩:=io h
     ·have⟨ha11,h⟩:=gd h;cases h;exact rn 9 (o [b1,b0,b0]) [] [0,3] [] (Qa ha11 (Qa (Ud (eqt f)) q))
     cases h;exact rx 9 (o [b1,b0,b1]) [] [2] [] (Qa (Uc (eqf f)) q)
    have q:=Qa (Zq e:QV cx.P (Instr.index 9 (.string i) (.int .i64 j))=some (.int .u8 ta2)) (Qa (jEj d) q);let o l:=o (b0::.no::.el (.v (.int .u8 ta2))::l);obtain⟨b,h⟩|⟨b,h⟩:=io h
    ·have⟨a,h⟩:=gd h;cases h;exact rn 9 (o [b0,.no]) [] [0,3] [] (Qa a (Qa (Ud (jDj b)) q))
    have q:=Qa (Uc (jEj b)) q;obtain⟨a,h⟩|⟨a,h⟩:=io h
    ·cases h;exact rx 9 (o [b1,b1,.no]) [] [2] [] (Qa (eqt a) q)
    have q:=Qa (eqf a) q;obtain⟨c,h⟩|⟨c,h⟩:=io h
    ·have⟨f,h⟩:=gd h;cases h;exact rn 9 (o [b1,b0,b0]) [] [0,3] [] (Qa f (Qa (Ud (eqt c)) q))
    cases h;exact rx 9 (o [b1,b0,b1]) [] [2] [] (Qa (Uc (eqf c)) q)
   have q:=Qa (Zq e:QV cx.P (Instr.index 9 (.string i) (.int .i64 j))=some (.int .u8 ta2)) (Qa (jEj g) q);let o l:=o (b0::.el (.v (.int .u8 ta2))::l);obtain⟨d,h⟩|⟨d,h⟩:=io h
   ·have q:=Qa (Zq e:QV cx.P (Instr.index 9 (.string i) (.int .i64 j))=some (.int .u8 ta2)) (Qa (jDj d) q);let o l:=o (b1::.el (.v (.int .u8 ta2))::l);obtain⟨b,h⟩|⟨b,h⟩:=io h
    ·have q:=Qa (jDj b) q;obtain⟨a,h⟩|⟨a,h⟩:=io h
     ·cases h;exact rx 9 (o [b1,.no,b1,.no]) [] [2] [] (Qa (eqt a) q)
     have⟨c,h⟩:=gd h;cases h;exact rn 9 (o [b1,.no,b0,.no]) [] [0,3] [] (Qa c (Qa (eqf a) q))
    have q:=Qa (Zq e:QV cx.P (Instr.index 9 (.string i) (.int .i64 j))=some (.int .u8 ta2)) (Qa (jEj b) q);let o l:=o (b0::.el (.v (.int .u8 ta2))::.no::l);obtain⟨a,h⟩|⟨a,h⟩:=io h
    ·cases h;exact rx 9 (o [b1,.no]) [] [2] [] (Qa (eqt a) q)
    have q:=Qa (eqf a) q;obtain⟨c,h⟩|⟨c,h⟩:=io h
    ·have⟨f,h⟩:=gd h;cases h;exact rn 9 (o [b0,b0]) [] [0,3] [] (Qa f (Qa (Ud (eqt c)) q))
    cases h;exact rx 9 (o [b0,b1]) [] [2] [] (Qa (Uc (eqf c)) q)
   have q:=Qa (Zq e:QV cx.P (Instr.index 9 (.string i) (.int .i64 j))=some (.int .u8 ta2)) (Qa (jEj d) q);let o l:=o (b0::.no::.el (.v (.int .u8 ta2))::.no::l);obtain⟨b,h⟩|⟨b,h⟩:=io h
   ·cases h;exact rx 9 (o [b1,.no]) [] [2] [] (Qa (eqt b) q)
   have q:=Qa (eqf b) q;obtain⟨a,h⟩|⟨a,h⟩:=io h
   ·have⟨c,h⟩:=gd h;cases h;exact rn 9 (o [b0,b0]) [] [0,3] [] (Qa c (Qa (Ud (eqt a)) q))
   cases h;exact rx 9 (o [b0,b1]) [] [2] [] (Qa (Uc (eqf a)) q)
  have q:=Qa (Zq e:QV cx.P (Instr.index 9 (.string i) (.int .i64 j))=some (.int .u8 ta2)) (Qa (jEj p) q);let o l:=o (b0::.no::.el (.v (.int .u8 ta2))::l);obtain⟨k,h⟩|⟨k,h⟩:=io h
  ·have q:=Qa (Zq e:QV cx.P (Instr.index 9 (.string i) (.int .i64 j))=some (.int .u8 ta2)) (Qa (Zq e:QV cx.P (Instr.index 9 (.string i) (.int .i64 j))=some (.int .u8 ta2)) (Qa (jDj k) q));let o l:=o (b1::.el (.v (.int .u8 ta2))::.el (.v (.int .u8 ta2))::l);obtain⟨g,h⟩|⟨g,h⟩:=io h
   ·have q:=Qa (Zq e:QV cx.P (Instr.index 9 (.string i) (.int .i64 j))=some (.int .u8 ta2)) (Qa (jDj g) q);let o l:=o (b1::.el (.v (.int .u8 ta2))::l);obtain⟨d,h⟩|⟨d,h⟩:=io h
    ·have q:=Qa (jDj d) q;obtain⟨b,h⟩|⟨b,h⟩:=io h
     ·have⟨a,h⟩:=gd h;cases h;exact rn 9 (o [b1,b0,.no]) [] [0,3] [] (Qa a (Qa (Ud (jDj b)) q))
     have q:=Qa (Uc (jEj b)) q;obtain⟨a,h⟩|⟨a,h⟩:=io h
     ·cases h;exact rx 9 (o [b1,b1,b1,.no]) [] [2] [] (Qa (eqt a) q)
     have⟨c,h⟩:=gd h;cases h;exact rn 9 (o [b1,b1,b0,.no]) [] [0,3] [] (Qa c (Qa (eqf a) q))
    have q:=Qa (Zq e:QV cx.P (Instr.index 9 (.string i) (.int .i64 j))=some (.int .u8 ta2)) (Qa (jEj d) q);let o l:=o (b0::.el (.v (.int .u8 ta2))::l);obtain⟨b,h⟩|⟨b,h⟩:=io h
    ·have⟨a,h⟩:=gd h;cases h;exact rn 9 (o [b0,.no]) [] [0,3] [] (Qa a (Qa (Ud (jDj b)) q))
    have q:=Qa (Uc (jEj b)) q;obtain⟨a,h⟩|⟨a,h⟩:=io h
    ·cases h;exact rx 9 (o [b1,b1,.no]) [] [2] [] (Qa (eqt a) q)
    have q:=Qa (eqf a) q;obtain⟨c,h⟩|⟨c,h⟩:=io h
    ·have⟨f,h⟩:=gd h;cases h;exact rn 9 (o [b1,b0,b0]) [] [0,3] [] (Qa f (Qa (Ud (eqt c)) q))
    cases h;exact rx 9 (o [b1,b0,b1]) [] [2] [] (Qa (Uc (eqf c)) q)
   have q:=Qa (Zq e:QV cx.P (Instr.index 9 (.string i) (.int .i64 j))=some (.int .u8 ta2)) (Qa (jEj g) q);let o l:=o (b0::.no::.el (.v (.int .u8 ta2))::l);obtain⟨d,h⟩|⟨d,h⟩:=io h
   ·have⟨b,h⟩:=gd h;cases h;exact rn 9 (o [b0,.no]) [] [0,3] [] (Qa b (Qa (Ud (jDj d)) q))
   have q:=Qa (Uc (jEj d)) q;obtain⟨b,h⟩|⟨b,h⟩:=io h
   ·cases h;exact rx 9 (o [b1,b1,.no]) [] [2] [] (Qa (eqt b) q)
   have q:=Qa (eqf b) q;obtain⟨a,h⟩|⟨a,h⟩:=io h
   ·have⟨c,h⟩:=gd h;cases h;exact rn 9 (o [b1,b0,b0]) [] [0,3] [] (Qa c (Qa (Ud (eqt a)) q))
   cases h;exact rx 9 (o [b1,b0,b1]) [] [2] [] (Qa (Uc (eqf a)) q)
  have q:=Qa (Zq e:QV cx.P (Instr.index 9 (.string i) (.int .i64 j))=some (.int .u8 ta2)) (Qa (jEj k) q);let o l:=o (b0::.el (.v (.int .u8 ta2))::l);obtain⟨g,h⟩|⟨g,h⟩:=io h
  ·have q:=Qa (Zq e:QV cx.P (Instr.index 9 (.string i) (.int .i64 j))=some (.int .u8 ta2)) (Qa (jDj g) q);let o l:=o (b1::.el (.v (.int .u8 ta2))::l);obtain⟨d,h⟩|⟨d,h⟩:=io h
   ·have q:=Qa (jDj d) q;obtain⟨b,h⟩|⟨b,h⟩:=io h
    ·cases h;exact rx 9 (o [b1,.no,b1,.no]) [] [2] [] (Qa (eqt b) q)
    have⟨a,h⟩:=gd h;cases h;exact rn 9 (o [b1,.no,b0,.no]) [] [0,3] [] (Qa a (Qa (eqf b) q))
   have q:=Qa (Zq e:QV cx.P (Instr.index 9 (.string i) (.int .i64 j))=some (.int .u8 ta2)) (Qa (jEj d) q);let o l:=o (b0::.el (.v (.int .u8 ta2))::.no::l);obtain⟨b,h⟩|⟨b,h⟩:=io h
   ·cases h;exact rx 9 (o [b1,.no]) [] [2] [] (Qa (eqt b) q)
   have q:=Qa (eqf b) q;obtain⟨a,h⟩|⟨a,h⟩:=io h
   ·have⟨c,h⟩:=gd h;cases h;exact rn 9 (o [b0,b0]) [] [0,3] [] (Qa c (Qa (Ud (eqt a)) q))
   cases h;exact rx 9 (o [b0,b1]) [] [2] [] (Qa (Uc (eqf a)) q)
  have q:=Qa (Zq e:QV cx.P (Instr.index 9 (.string i) (.int .i64 j))=some (.int .u8 ta2)) (Qa (jEj g) q);let o l:=o (b0::.no::.el (.v (.int .u8 ta2))::.no::l);obtain⟨d,h⟩|⟨d,h⟩:=io h
  ·cases h;exact rx 9 (o [b1,.no]) [] [2] [] (Qa (eqt d) q)
  have q:=Qa (eqf d) q;obtain⟨b,h⟩|⟨b,h⟩:=io h
  ·have⟨a,h⟩:=gd h;cases h;exact rn 9 (o [b0,b0]) [] [0,3] [] (Qa a (Qa (Ud (eqt b)) q))
  cases h;exact rx 9 (o [b0,b1]) [] [2] [] (Qa (Uc (eqf b)) q)
 cases h;exact rx 9 [b0] [] [] [] (Qa (jEj m) QL)
def Yg (n:Nat)(a:jSj):Option (Bool) := if(a.toList==(⟨#[]⟩:jSj).toList)=true then some false else if(a.size:Int)>24 then some false else(Q2 (Wm n a) n 0).bind fun b=>match b with|.inl b=>(some false)|.inr b=>(some true)
theorem jg {n e r}(h:Yg n e=some r):Computes cx 93 [.v (.string e)] (B r):=by
 unfold Yg at h;obtain⟨a,h⟩|⟨a,h⟩:=io h
 ·obtain rfl:=oi h;exact rf [b1,.no] (Qa a QL)
 have q:=Qa (QA a) QL;obtain⟨b,h⟩|⟨b,h⟩:=io h
 ·obtain rfl:=oi h;exact rf [b0,b1] (Qa (jDj b) q)
 have q:=Qa (jEj b) q;have⟨c,h3,h⟩:=bo h;obtain c|c:=c
 ·obtain rfl:=oi h;exact rf [b0,b0,.lp [] [0,3] [] .ret [(2,.d (B false))] [] 77] (Qa (QH JO h3) q)
 obtain rfl:=oi h;exact rf [b0,b0,.lp [] [0,3] [] (.exit 0) [] [] 77] (Qa (QH JO h3) q)
def Z4 (n:Nat)(f:Int)(g:jSj)(d h:jVj)(i:jSj)(e:jSj×Int×Bool)(a:Int):Option (Int⊕Unit⊕Unit) := if a<(e.1.size:Int) then(el Ww d a).bind fun b=>(Yg n b).bind fun c=>if c=true then if Qh (a+1) then some (.inl (a+1)) else none else some (.inr (.inl ())) else some (.inr (.inr ()))
noncomputable def G9 (b:Int)(c:jSj)(f g:jVj)(h:jSj)(a:jSj×Int×Bool):Lp (Int) (Unit⊕Unit):=⟨fun i=>[(1,.ptr 0 0 0 0 0),(3,.ptr 8 0 0 0 0),(4,.d (I i))],fun _=>[(0,.box (.d (.agg [I b,.v (.string c),.lst false 1 f,.lst false 1 g,.v (.string h)]))),(8,.box (.d (.agg [.v (.string a.1),I a.2.1,B a.2.2])))],fun
 | (.inl e)=>.ret
 | (.inr e)=>(.exit 0),fun
 | (.inl e)=>[(2,.d (I 8))]
 | (.inr e)=>[(1,.ptr 0 0 0 0 0),(3,.ptr 8 0 0 0 0)],fun
 | (.inl e)=>[]
 | (.inr e)=>[(0,.box (.d (.agg [I b,.v (.string c),.lst false 1 f,.lst false 1 g,.v (.string h)]))),(8,.box (.d (.agg [.v (.string a.1),I a.2.1,B a.2.2])))]⟩
theorem Ux {n c d e f g j}(i)(r)(h:Z4 n c d e f g j i=some r):Rl (ZJ cx.P 46 0) 59 0 false (G9 c d e f g j) i r:=by
 unfold Z4 at h;obtain⟨a,h⟩|⟨a,h⟩:=io h
 ·have⟨ta2,ha2,h⟩:=bo h;have⟨ta3,ha3,h⟩:=bo h;have q:=Qa (jg ha3) (allE Qr ha2 (Qa (jDj a) QL));let o(l:jOj):=b1::.el (Zy ta2)::.ret (B ta3)::l;obtain⟨b,h⟩|⟨b,h⟩:=io h
  ·have⟨ha5,h⟩:=gd h;cases h;exact rn 29 (o [b0]) [] [1,3,4] [0,8] (Qa ha5 (Qa (Ud b) q))
  cases h;exact rx 29 (o [b1]) [] [2] [] (Qa (Uc (QA b)) q)
 cases h;exact rx 29 [b0] [] [1,3] [0,8] (Qa (jEj a) QL)
def Z3 (n:Nat)(f:Int)(g:jSj)(h d:jVj)(i:jSj)(e:jSj×Int×Bool)(a:Int):Option (Int⊕Unit⊕Unit) := if a<e.2.1 then(el Vt d a).bind fun b=>(Wt n b 0 999999999).bind fun c=>if c=true then some (.inr (.inl ())) else if Qh (a+1) then some (.inl (a+1)) else none else some (.inr (.inr ()))
noncomputable def G8 (b:Int)(c:jSj)(f g:jVj)(h:jSj)(a:jSj×Int×Bool):Lp (Int) (Unit⊕Unit):=⟨fun i=>[(1,.ptr 0 0 0 0 0),(3,.ptr 8 0 0 0 0),(5,.d (I i))],fun _=>[(0,.box (.d (.agg [I b,.v (.string c),.lst false 1 f,.lst false 1 g,.v (.string h)]))),(8,.box (.d (.agg [.v (.string a.1),I a.2.1,B a.2.2])))],fun
 | (.inl e)=>.ret
 | (.inr e)=>(.exit 2),fun
 | (.inl e)=>[(2,.d (I 3))]
 | (.inr e)=>[(1,.ptr 0 0 0 0 0)],fun
 | (.inl e)=>[]
 | (.inr e)=>[(0,.box (.d (.agg [I b,.v (.string c),.lst false 1 f,.lst false 1 g,.v (.string h)])))]⟩
theorem Uw {n c d e f g j}(i)(r)(h:Z3 n c d e f g j i=some r):Rl (ZJ cx.P 46 1) 59 0 false (G8 c d e f g j) i r:=by
 unfold Z3 at h;obtain⟨a,h⟩|⟨a,h⟩:=io h
 ·have⟨ta2,ha2,h⟩:=bo h;have⟨ta3,ha3,h⟩:=bo h;have q:=Qa (V0 ha3) (allE Qi ha2 (Qa (jDj a) QL));let o(l:jOj):=b1::.el (Q3 ta2)::.ret (B ta3)::l;obtain⟨b,h⟩|⟨b,h⟩:=io h
  ·cases h;exact rx 56 (o [b1]) [] [2] [] (Qa b q)
  have⟨ha5,h⟩:=gd h;cases h;exact rn 56 (o [b0]) [] [1,3,5] [0,8] (Qa ha5 (Qa (QA b) q))
 cases h;exact rx 56 [b0] [] [1] [0] (Qa (jEj a) QL)
def WV (n:Nat)(b:Int)(c:jSj)(d e:jVj)(f:jSj):Option (Int) := (Wt n b 1 1000).bind fun i=>if i=true then some 3 else(Q1 n c).bind fun a=>if a.2.2=true then if((d).length:Int)=(a.1.size:Int) then if((e).length:Int)=a.2.1 then(Q2 (Z4 n b c d e f a) n 0).bind fun g=>match g with|.inl g=>(some 8)|.inr g=>((Q2 (Z3 n b c d e f a) n 0).bind fun h=>match h with|.inl h=>(some 3)|.inr h=>(if(!(f.toList==(⟨#[]⟩:jSj).toList))=true then some 1 else some 0)) else some 2 else some 2 else some 13
theorem K7 {n a b c e f r}(h:WV n a b c e f=some r):Computes cx 46 [.agg [I a,.v (.string b),.lst false 1 c,.lst false 1 e,.v (.string f)]] (I r):=by
 unfold WV at h;have⟨t1,h1,h⟩:=bo h;have q:=Qa (V0 h1) QL;let o(l:jOj):=.ret (B t1)::l;obtain⟨g,h⟩|⟨g,h⟩:=io h
 ·obtain rfl:=oi h;exact rf (o [b1]) (Qa g q)
 have⟨t3,h3,h⟩:=bo h;have q:=Qa (qq h3) (Qa (QA g) q);let o l:=o (b0::.ret (.agg [.v (.string t3.1),I t3.2.1,B t3.2.2])::l);obtain⟨i,h⟩|⟨i,h⟩:=io h
 ·have q:=Qa (Ud i) q;let o l:=o (b0::l);obtain⟨j,h⟩|⟨j,h⟩:=io h
  ·have q:=Qa (nef j) q;let o l:=o (b0::l);obtain⟨k,h⟩|⟨k,h⟩:=io h
   ·have q:=Qa (nef k) q;have⟨p,h7,h⟩:=bo h;obtain p|p:=p
    ·obtain rfl:=oi h;exact rf (o [b0,.lp [] [1,3,4] [0,8] .ret [(2,.d (I 8))] [] 55]) (Qa (QH Ux h7) q)
    have q:=Qa (QH Ux h7) q;let o l:=o (b0::.lp [] [1,3,4] [0,8] (.exit 0) [(1,.ptr 0 0 0 0 0),(3,.ptr 8 0 0 0 0)] [(0,.box (.d (.agg [I a,.v (.string b),.lst false 1 c,.lst false 1 e,.v (.string f)]))),(8,.box (.d (.agg [.v (.string t3.1),I t3.2.1,B t3.2.2])))] 55::l);have⟨s,h8,h⟩:=bo h;obtain s|s:=s
    ·obtain rfl:=oi h;exact rf (o [.lp [] [1,3,5] [0,8] .ret [(2,.d (I 3))] [] 80]) (Qa (QH Uw h8) q)
    have q:=Qa (QH Uw h8) q;let o l:=o (.lp [] [1,3,5] [0,8] (.exit 2) [(1,.ptr 0 0 0 0 0)] [(0,.box (.d (.agg [I a,.v (.string b),.lst false 1 c,.lst false 1 e,.v (.string f)])))] 80::l);obtain⟨m,h⟩|⟨m,h⟩:=io h
    ·obtain rfl:=oi h;exact rf (o [b1]) (Qa m q)
    obtain rfl:=oi h;exact rf (o [b0]) (Qa (QA m) q)
   obtain rfl:=oi h;exact rf (o [b1]) (Qa (net k) q)
  obtain rfl:=oi h;exact rf (o [b1,.no]) (Qa (net j) q)
 obtain rfl:=oi h;exact rf (o [b1]) (Qa (Uc (QA i)) q)
def Vw (n:Nat)(e c:Int)(f g:Bool)(h i j:Int)(k d l:jVj)(b:(Int×Int)):Option (Int×Int⊕Int) := if b.2<((d).length:Int) then(el QM d b.2).bind fun a=>if a.2.2.2.2.2=true then if Qh (1000 - a.2.2.2.1) then if Qh (a.2.2.1*(1000 - a.2.2.2.1)) then if Qh ((a.2.2.1*(1000 - a.2.2.2.1))*c) then if Qh (b.1+((a.2.2.1*(1000 - a.2.2.2.1))*c)) then if Qh (b.2+1) then some (.inl ((b.1+((a.2.2.1*(1000 - a.2.2.2.1))*c)),(b.2+1))) else none else none else none else none else none else if Qh (b.2+1) then some (.inl (b.1,(b.2+1))) else none else some (.inr b.1)
noncomputable def wa (b c:Int)(f g:Bool)(h i j:Int)(k l m:jVj):Lp (Int×Int) (Int):=⟨fun a=>[(1,.ptr 0 0 0 0 0),(3,.d (I a.1)),(4,.d (I a.2))],fun _=>[(0,.box (.d (.agg [I b,I c,B f,B g,I h,I i,I j,.lst false 1 k,.lst false 6 l,.lst false 7 m])))],fun _=>(.exit 0),fun e=>[(3,.d (I e))],fun _=>[]⟩
theorem zZ {n c d e f g i j k m p}(s)(r)(h:Vw n c d e f g i j k m p s=some r):Rl (ZJ cx.P 22 0) 32 0 false (wa c d e f g i j k m p) s r:=by
 unfold Vw at h;obtain⟨a,h⟩|⟨a,h⟩:=io h
 ·have⟨ta2,ha2,h⟩:=bo h;have q:=allE Qq ha2 (Qa (jDj a) QL);let o(l:jOj):=b1::.el (QB ta2)::l;obtain⟨b,h⟩|⟨b,h⟩:=io h
  ·have⟨ha4,h⟩:=gd h;have⟨ha5,h⟩:=gd h;have⟨ha6,h⟩:=gd h;have⟨ha7,h⟩:=gd h;have⟨ha8,h⟩:=gd h;cases h;exact rn 4 (o [b1]) [] [1,3,4] [0] (Qa ha8 (Qa ha7 (Qa ha6 (Qa ha5 (Qa ha4 (Qa b q))))))
  have⟨ha4,h⟩:=gd h;cases h;exact rn 4 (o [b0]) [] [1,3,4] [0] (Qa ha4 (Qa (QA b) q))
 cases h;exact rx 4 [b0] [] [3] [] (Qa (jEj a) QL)
def Yr (n:Nat)(a b:Int)(c d:Bool)(e f g:Int)(h i j:jVj):Option (Int) := (Q2 (Vw n a b c d e f g h i j) n (0,0)).bind fun k=>some k
theorem qp {n a b c e f g i j k l r}(h:Yr n a b c e f g i j k l=some r):Computes cx 22 [.agg [I a,I b,B c,B e,I f,I g,I i,.lst false 1 j,.lst false 6 k,.lst false 7 l]] (I r):=by unfold Yr at h;have⟨t1,h1,h⟩:=bo h;obtain rfl:=oi h;exact rf [.lp [] [1,3,4] [0] (.exit 0) [(3,.d (I t1))] [] 44] (Qa (QH zZ h1) QL)
def Vp (n:Nat)(b f:Int)(g h:Bool)(d e i:Int)(j k l:jVj)(a:Int):Option (Int×Int×Int) := (Yr n b f g h d e i j k l).bind fun c=>if Qh (a - b) then if Qh (c*(a - b)) then if Qh (1000000000000000 - d) then if(c*(a - b))>(1000000000000000 - d) then some (0,0,4) else if Qh (1000000000000000 - e) then if(c*(a - b))>(1000000000000000 - e) then some (0,0,4) else if Qh (d+(c*(a - b))) then if Qh (e+(c*(a - b))) then some ((d+(c*(a - b))),(e+(c*(a - b))),0) else none else none else none else none else none else none
theorem K8 {n d e f g i j k l m o a r}(h:Vp n d e f g i j k l m o a=some r):Computes cx 24 [.agg [I d,I e,B f,B g,I i,I j,I k,.lst false 1 l,.lst false 6 m,.lst false 7 o],I a] (.tup [.agg [I r.1,I r.2.1],I r.2.2]):=by
 unfold Vp at h;have⟨t1,h1,h⟩:=bo h;have⟨h2,h⟩:=gd h;have⟨h3,h⟩:=gd h;have⟨h4,h⟩:=gd h;have q:=Qa h4 (Qa h3 (Qa h2 (Qa (qp h1) QL)));obtain⟨b,h⟩|⟨b,h⟩:=io h
 ·cases h;exact rf [.ret (I t1),b1,.no] (Qa (jDj b) q)
 have⟨h6,h⟩:=gd h;have q:=Qa h6 (Qa (jEj b) q);obtain⟨c,h⟩|⟨c,h⟩:=io h
 ·cases h;exact rf [.ret (I t1),b0,b1] (Qa (jDj c) q)
 have⟨h8,h⟩:=gd h;have⟨h9,h⟩:=gd h;cases h;exact rf [.ret (I t1),b0,b0] (Qa h9 (Qa h8 (Qa (jEj c) q)))
def VI (n:Nat)(e f:Int)(g h:Bool)(i j k:Int)(d l m:jVj)(b:jSj)(a:Int):Option (Int⊕Int⊕Unit) := if a<((d).length:Int) then(el Ww d a).bind fun c=>if(c.toList==b.toList)=true then some (.inr (.inl a)) else if Qh (a+1) then some (.inl (a+1)) else none else some (.inr (.inr ()))
noncomputable def jS (b c:Int)(f g:Bool)(h i j:Int)(k l m:jVj)(a:jSj):Lp (Int) (Int⊕Unit):=⟨fun n=>[(2,.d (.v (.string a))),(3,.ptr 0 0 0 0 0),(7,.d (I n))],fun _=>[(0,.box (.d (.agg [I b,I c,B f,B g,I h,I i,I j,.lst false 1 k,.lst false 6 l,.lst false 7 m])))],fun
 | (.inl e)=>.ret
 | (.inr e)=>(.exit 1),fun
 | (.inl e)=>[(6,.d (I e))]
 | (.inr e)=>[],fun _=>[]⟩
theorem Eh {n d e f g i j k l m o c}(p)(r)(h:VI n d e f g i j k l m o c p=some r):Rl (ZJ cx.P 29 0) 64 0 false (jS d e f g i j k l m o c) p r:=by
 unfold VI at h;obtain⟨a,h⟩|⟨a,h⟩:=io h
 ·have⟨ta2,ha2,h⟩:=bo h;have q:=allE Qr ha2 (Qa (jDj a) QL);obtain⟨b,h⟩|⟨b,h⟩:=io h
  ·cases h;exact rx 6 [b1,.el (Zy ta2),b1] [] [6] [] (Qa b q)
  have⟨ha4,h⟩:=gd h;cases h;exact rn 6 [b1,.el (Zy ta2),b0] [] [2,3,7] [0] (Qa ha4 (Qa (QA b) q))
 cases h;exact rx 6 [b0] [] [] [] (Qa (jEj a) QL)
def VH (n:Nat)(e f:Int)(g h:Bool)(i j k:Int)(l d m:jVj)(b:jSj)(a:Int):Option (Int⊕Int⊕Unit) := if a<((d).length:Int) then(el QM d a).bind fun c=>if(c.1.toList==b.toList)=true then some (.inr (.inl a)) else if Qh (a+1) then some (.inl (a+1)) else none else some (.inr (.inr ()))
noncomputable def jR (b c:Int)(f g:Bool)(h i j:Int)(k l m:jVj)(a:jSj):Lp (Int) (Int⊕Unit):=⟨fun n=>[(2,.d (.v (.string a))),(3,.ptr 0 0 0 0 0),(8,.d (I n))],fun _=>[(0,.box (.d (.agg [I b,I c,B f,B g,I h,I i,I j,.lst false 1 k,.lst false 6 l,.lst false 7 m])))],fun
 | (.inl e)=>.ret
 | (.inr e)=>(.exit 3),fun
 | (.inl e)=>[(6,.d (I e))]
 | (.inr e)=>[],fun _=>[]⟩
theorem Eg {n d e f g i j k m p s c}(t)(r)(h:VH n d e f g i j k m p s c t=some r):Rl (ZJ cx.P 29 1) 64 0 false (jR d e f g i j k m p s c) t r:=by
 unfold VH at h;obtain⟨a,h⟩|⟨a,h⟩:=io h
 ·have⟨ta2,ha2,h⟩:=bo h;have q:=allE Qq ha2 (Qa (jDj a) QL);let o(l:jOj):=b1::.el (QB ta2)::l;obtain⟨b,h⟩|⟨b,h⟩:=io h
  ·cases h;exact rx 8 (o [b1]) [] [6] [] (Qa b q)
  have⟨ha4,h⟩:=gd h;cases h;exact rn 8 (o [b0]) [] [2,3,8] [0] (Qa ha4 (Qa (QA b) q))
 cases h;exact rx 8 [b0] [] [] [] (Qa (jEj a) QL)
def VG (n:Nat)(e f:Int)(g h:Bool)(i j k:Int)(l m d:jVj)(b:jSj)(a:Int):Option (Int⊕Int⊕Unit) := if a<((d).length:Int) then(el Z6 d a).bind fun c=>if(c.1.toList==b.toList)=true then some (.inr (.inl a)) else if Qh (a+1) then some (.inl (a+1)) else none else some (.inr (.inr ()))
noncomputable def jQ (b c:Int)(f g:Bool)(h i j:Int)(k l m:jVj)(a:jSj):Lp (Int) (Int⊕Unit):=⟨fun n=>[(2,.d (.v (.string a))),(3,.ptr 0 0 0 0 0),(9,.d (I n))],fun _=>[(0,.box (.d (.agg [I b,I c,B f,B g,I h,I i,I j,.lst false 1 k,.lst false 6 l,.lst false 7 m])))],fun
 | (.inl e)=>.ret
 | (.inr e)=>(.exit 5),fun
 | (.inl e)=>[(6,.d (I e))]
 | (.inr e)=>[],fun _=>[]⟩
theorem Ef {n d e f g i j k l m o c}(p)(r)(h:VG n d e f g i j k l m o c p=some r):Rl (ZJ cx.P 29 2) 64 0 false (jQ d e f g i j k l m o c) p r:=by
 unfold VG at h;obtain⟨a,h⟩|⟨a,h⟩:=io h
 ·have⟨ta2,ha2,h⟩:=bo h;have q:=allE Q0 ha2 (Qa (jDj a) QL);obtain⟨b,h⟩|⟨b,h⟩:=io h
  ·cases h;exact rx 10 [b1,.el (Q7 ta2),b1] [] [6] [] (Qa b q)
  have⟨ha4,h⟩:=gd h;cases h;exact rn 10 [b1,.el (Q7 ta2),b0] [] [2,3,9] [0] (Qa ha4 (Qa (QA b) q))
 cases h;exact rx 10 [b0] [] [] [] (Qa (jEj a) QL)
def WW (n:Nat)(f g:Int)(h i:Bool)(j k l:Int)(m o p:jVj)(a:Int)(b:jSj):Option (Int) := if a=115 then(Q2 (VI n f g h i j k l m o p b) n 0).bind fun c=>match c with|.inl c=>(some c)|.inr c=>(some (-1)) else if a=109 then(Q2 (VH n f g h i j k l m o p b) n 0).bind fun d=>match d with|.inl d=>(some d)|.inr d=>(some (-1)) else if a=111 then(Q2 (VG n f g h i j k l m o p b) n 0).bind fun e=>match e with|.inl e=>(some e)|.inr e=>(some (-1)) else some (-1)
theorem K9 {n k l m o p s t u w x c e r}(h:WW n k l m o p s t u w x c e=some r):Computes cx 29 [.agg [I k,I l,B m,B o,I p,I s,I t,.lst false 1 u,.lst false 6 w,.lst false 7 x],.v (.int .u8 c),.v (.string e)] (I r):=by
 unfold WW at h;obtain⟨j,h⟩|⟨j,h⟩:=io h
 ·have q:=Qa (eqt j) QL;have⟨f,a,h⟩:=bo h;obtain f|f:=f
  ·obtain rfl:=oi h;exact rf [b1,.lp [] [2,3,7] [0] .ret [(6,.d (I f))] [] 32] (Qa (QH Eh a) q)
  cases h;exact rf [b1,.lp [] [2,3,7] [0] (.exit 1) [] [] 32] (Qa (QH Eh a) q)
 have q:=Qa (eqf j) QL;obtain⟨a,h⟩|⟨a,h⟩:=io h
 ·have q:=Qa (eqt a) q;have⟨g,b,h⟩:=bo h;obtain g|g:=g
  ·obtain rfl:=oi h;exact rf [b0,b1,.lp [] [2,3,8] [0] .ret [(6,.d (I g))] [] 35] (Qa (QH Eg b) q)
  cases h;exact rf [b0,b1,.lp [] [2,3,8] [0] (.exit 3) [] [] 35] (Qa (QH Eg b) q)
 have q:=Qa (eqf a) q;obtain⟨b,h⟩|⟨b,h⟩:=io h
 ·have q:=Qa (eqt b) q;have⟨i,h4,h⟩:=bo h;obtain i|i:=i
  ·obtain rfl:=oi h;exact rf [b0,b0,b1,.lp [] [2,3,9] [0] .ret [(6,.d (I i))] [] 37] (Qa (QH Ef h4) q)
  cases h;exact rf [b0,b0,b1,.lp [] [2,3,9] [0] (.exit 5) [] [] 37] (Qa (QH Ef h4) q)
 cases h;exact rf [b0,b0,b0] (Qa (eqf b) q)
def Qj (n:Nat)(g h:Int)(m o:Bool)(p q r:Int)(s t u:jVj)(i:Int)(j:jSj)(c k:jVj)(l:jSj)(f:jSj×Int×Bool)(a:Int):Option (Int⊕Unit⊕Unit) := if a<(f.1.size:Int) then(WQ f.1 a).bind fun b=>if b>=97 then(el Ww c a).bind fun d=>(WW n g h m o p q r s t u b d).bind fun e=>if e<0 then some (.inr (.inl ())) else if Qh (a+1) then some (.inl (a+1)) else none else if Qh (a+1) then some (.inl (a+1)) else none else some (.inr (.inr ()))
noncomputable def G7 (h i:Int)(j k:Bool)(l m n:Int)(o p q:jVj)(a:Int)(b:jSj)(c f:jVj)(g:jSj)(r:jSj×Int×Bool):Lp (Int) (Unit⊕Unit):=⟨fun s=>[(2,.ptr 0 0 0 0 0),(3,.ptr 1 0 0 0 0),(5,.d (.v (.string r.1))),(6,.d (I s))],fun _=>[(0,.box (.d (.agg [I h,I i,B j,B k,I l,I m,I n,.lst false 1 o,.lst false 6 p,.lst false 7 q]))),(1,.box (.d (.agg [I a,.v (.string b),.lst false 1 c,.lst false 1 f,.v (.string g)])))],fun
 | (.inl e)=>.ret
 | (.inr e)=>(.exit 0),fun
 | (.inl e)=>[(4,.d (I 10))]
 | (.inr e)=>[(2,.ptr 0 0 0 0 0),(3,.ptr 1 0 0 0 0),(5,.d (.v (.string r.1)))],fun
 | (.inl e)=>[]
 | (.inr e)=>[(0,.box (.d (.agg [I h,I i,B j,B k,I l,I m,I n,.lst false 1 o,.lst false 6 p,.lst false 7 q]))),(1,.box (.d (.agg [I a,.v (.string b),.lst false 1 c,.lst false 1 f,.v (.string g)])))]⟩
theorem Uv {n p s t u w x y z A C d e f g i m}(k)(r)(h:Qj n p s t u w x y z A C d e f g i m k=some r):Rl (ZJ cx.P 198 0) 55 0 false (G7 p s t u w x y z A C d e f g i m) k r:=by
 unfold Qj at h;obtain⟨a,h⟩|⟨a,h⟩:=io h
 ·have⟨ta2,j,h⟩:=bo h;have q:=Qa (Zq j:QV cx.P (Instr.index 9 (.string m.1) (.int .i64 k))=some (.int .u8 ta2)) (Qa (jDj a) QL);let o(l:jOj):=b1::.el (.v (.int .u8 ta2))::l;obtain⟨b,h⟩|⟨b,h⟩:=io h
  ·have⟨ta4,ha4,h⟩:=bo h;have⟨ta5,ha5,h⟩:=bo h;have q:=Qa (K9 ha5) (allE Qr ha4 (Qa (Zq j:QV cx.P (Instr.index 9 (.string m.1) (.int .i64 k))=some (.int .u8 ta2)) (Qa (jDj b) q)));let o l:=o (b1::.el (.v (.int .u8 ta2))::.el (Zy ta4)::.ret (I ta5)::l);obtain⟨c,h⟩|⟨c,h⟩:=io h
   ·cases h;exact rx 9 (o [b1]) [] [4] [] (Qa (jDj c) q)
   have⟨ha7,h⟩:=gd h;cases h;exact rn 9 (o [b0]) [] [2,3,5,6] [0,1] (Qa ha7 (Qa (jEj c) q))
  have⟨ha4,h⟩:=gd h;cases h;exact rn 9 (o [b0,.no]) [] [2,3,5,6] [0,1] (Qa ha4 (Qa (jEj b) q))
 cases h;exact rx 9 [b0] [] [2,3,5] [0,1] (Qa (jEj a) QL)
def QW (n:Nat)(h i:Int)(j k:Bool)(l m o:Int)(p q r:jVj)(c:Int)(a:jSj)(b d:jVj)(e:jSj):Option (Int) := (Q1 n a).bind fun f=>(Q2 (Qj n h i j k l m o p q r c a b d e f) n 0).bind fun g=>match g with|.inl g=>(some 10)|.inr g=>(if(f.1.size:Int)>0 then(WQ f.1 0).bind fun s=>if s<97 then(el Ww b 0).bind fun t=>(WW n h i j k l m o p q r (IntKind.wrap .u8 ((IntKind.wrap .u8 (s+97)) - 65)) t).bind fun u=>if u>=0 then some 9 else some 0 else some 0 else some 0)
theorem EP {n g i j k m p s t u w a b c e f r}(h:QW n g i j k m p s t u w a b c e f=some r):Computes cx 198 [.agg [I g,I i,B j,B k,I m,I p,I s,.lst false 1 t,.lst false 6 u,.lst false 7 w],.agg [I a,.v (.string b),.lst false 1 c,.lst false 1 e,.v (.string f)]] (I r):=by
 unfold QW at h;have⟨t1,h1,h⟩:=bo h;have q:=Qa (qq h1) QL;let o(l:jOj):=.ret (.agg [.v (.string t1.1),I t1.2.1,B t1.2.2])::l;have⟨A,h2,h⟩:=bo h;obtain A|A:=A
 ·obtain rfl:=oi h;exact rf (o [.lp [] [2,3,5,6] [0,1] .ret [(4,.d (I 10))] [] 44]) (Qa (QH Uv h2) q)
 have q:=Qa (QH Uv h2) q;let o l:=o (.lp [] [2,3,5,6] [0,1] (.exit 0) [(2,.ptr 0 0 0 0 0),(3,.ptr 1 0 0 0 0),(5,.d (.v (.string t1.1)))] [(0,.box (.d (.agg [I g,I i,B j,B k,I m,I p,I s,.lst false 1 t,.lst false 6 u,.lst false 7 w]))),(1,.box (.d (.agg [I a,.v (.string b),.lst false 1 c,.lst false 1 e,.v (.string f)])))] 44::l);obtain⟨x,h⟩|⟨x,h⟩:=io h
 ·have⟨t4,C,h⟩:=bo h;have q:=Qa (Zq C:QV cx.P (Instr.index 9 (.string t1.1) (.int .i64 0))=some (.int .u8 t4)) (Qa (jDj x) q);let o l:=o (b1::.el (.v (.int .u8 t4))::l);obtain⟨y,h⟩|⟨y,h⟩:=io h
  ·have⟨t6,h6,h⟩:=bo h;have⟨t7,h7,h⟩:=bo h;have q:=Qa (K9 h7) (allE Qr h6 (Qa (Zq C:QV cx.P (Instr.index 9 (.string t1.1) (.int .i64 0))=some (.int .u8 t4)) (Qa (jDj y) q)));let o l:=o (b1::.el (.v (.int .u8 t4))::.el (Zy t6)::.ret (I t7)::l);obtain⟨z,h⟩|⟨z,h⟩:=io h
   ·obtain rfl:=oi h;exact rf (o [b1]) (Qa (jDj z) q)
   obtain rfl:=oi h;exact rf (o [b0]) (Qa (jEj z) q)
  obtain rfl:=oi h;exact rf (o [b0,.no]) (Qa (jEj y) q)
 obtain rfl:=oi h;exact rf (o [b0,.no,.no]) (Qa (jEj x) q)
def Vg (n:Nat)(d e:Int)(f g:Bool)(h i j:Int)(k c l:jVj)(a:(Int×jVj)):Option (Int×jVj⊕jVj) := if a.1<((c).length:Int) then(el QM c a.1).bind fun b=>if b.2.2.2.2.2=true then if Wa 16 ((a.2).length+1) then if Qh (a.1+1) then some (.inl ((a.1+1),(a.2++([.v (.string b.1)]:jVj)))) else none else none else if Qh (a.1+1) then some (.inl ((a.1+1),a.2)) else none else some (.inr a.2)
noncomputable def zn (b c:Int)(f g:Bool)(h i j:Int)(k l m:jVj):Lp (Int×jVj) (jVj):=⟨fun a=>[(1,.ptr 0 0 0 0 0),(3,.own 4 0),(4,.d (I a.1))],fun a=>[(0,.box (.d (.agg [I b,I c,B f,B g,I h,I i,I j,.lst false 1 k,.lst false 6 l,.lst false 7 m]))),(4,.row 0 1 a.2)],fun _=>(.exit 0),fun _=>[(3,.own 4 0)],fun e=>[(4,.row 0 1 e)]⟩
theorem zh {n c d e f g i j k m p}(s)(r)(h:Vg n c d e f g i j k m p s=some r):Rl (ZJ cx.P 23 0) 28 0 false (zn c d e f g i j k m p) s r:=by
 unfold Vg at h;obtain⟨a,h⟩|⟨a,h⟩:=io h
 ·have⟨ta2,ha2,h⟩:=bo h;have q:=allE Qq ha2 (Qa (jDj a) QL);let o(l:jOj):=b1::.el (QB ta2)::l;obtain⟨b,h⟩|⟨b,h⟩:=io h
  ·have⟨ha4,h⟩:=gd h;have⟨ha5,h⟩:=gd h;cases h;exact rn 5 (o [b1,.el (QB ta2),b1]) [] [1,3,4] [0,4] (Qa ha5 (Qa (ro 9 ha4) (allE Qq ha2 (Qa b q))))
  have⟨ha4,h⟩:=gd h;cases h;exact rn 5 (o [b0]) [] [1,3,4] [0,4] (Qa ha4 (Qa (QA b) q))
 cases h;exact rx 5 [b0] [] [3] [4] (Qa (jEj a) QL)
def V4 (n:Nat)(a b:Int)(c d:Bool)(e f g:Int)(h i j:jVj):Option (jVj) := (Q2 (Vg n a b c d e f g h i j) n (0,[])).bind fun k=>some k
theorem Ec {n a b c d e f g i j k r}(h:V4 n a b c d e f g i j k=some r):Computes cx 23 [.agg [I a,I b,B c,B d,I e,I f,I g,.lst false 1 i,.lst false 6 j,.lst false 7 k]] (.lst false 1 r):=by unfold V4 at h;have⟨t1,h1,h⟩:=bo h;obtain rfl:=oi h;exact rf [.lp [3,1] [1,3,4] [0,4] (.exit 0) [(3,.own 4 0)] [(4,.row 0 1 t1)] 40] (Qa (QH zh h1) QL)
def W9 (n:Nat)(c:jSj)(d e a f b:Int)(g:Bool):Option (Int) := if Qh (a - b) then some (a - b) else none
theorem JJ {n a b c d e f g r}(h:W9 n a b c d e f g=some r):Computes cx 31 [.agg [.v (.string a),I b,I c,I d,I e,I f,B g]] (I r):=by unfold W9 at h;have⟨h1,h⟩:=gd h;cases h;exact rf [] (Qa h1 QL)
def Ys (n:Nat)(d:jSj)(e f g a b:Int)(h:Bool):Option (Int) := if Qh (a*b) then if Qh (2*a) then(W9 n d e f g a b h).bind fun c=>if Qh ((2*a)*c) then if Qh ((a*b) - ((2*a)*c)) then some ((a*b) - ((2*a)*c)) else none else none else none else none
theorem qr {n a b c d e f g r}(h:Ys n a b c d e f g=some r):Computes cx 32 [.agg [.v (.string a),I b,I c,I d,I e,I f,B g]] (I r):=by unfold Ys at h;have⟨h1,h⟩:=gd h;have⟨h2,h⟩:=gd h;have⟨t3,h3,h⟩:=bo h;have⟨h4,h⟩:=gd h;have⟨h5,h⟩:=gd h;cases h;exact rf [.ret (I t3)] (Qa h5 (Qa h4 (Qa (JJ h3) (Qa h2 (Qa h1 QL)))))
def WU (n:Nat)(h i:Int)(j k:Bool)(l m o:Int)(p q r:jVj)(c:Int)(d:jSj)(e f:jVj)(g:jSj)(s:Int)(t:Int×Int×Int)(a:(Int×jVj)):Option (Int×jVj⊕jVj) := if a.1<((a.2).length:Int) then if 0<=a.1/\a.1<((a.2).length:Int) then((nth (a.2) (Int.toNat a.1)).bind QM).bind fun b=>if Qh (a.1+1) then some (.inl ((a.1+1),(List.set a.2 (Int.toNat a.1) (.agg [.v (.string b.1),.v (.string b.2.1),I b.2.2.1,I b.2.2.2.1,B b.2.2.2.2.1,B false]:D)))) else none else none else some (.inr a.2)
noncomputable def zm (m b:Int)(c l:Bool)(n o f:Int)(q t r:jVj)(g:Int)(h:jSj)(i j:jVj)(k:jSj)(p:Int)(a:Int×Int×Int):Lp (Int×jVj) (jVj):=⟨fun s=>[(1,.d (.v (.string ⟨#[]⟩))),(2,.d (B true)),(3,.ptr 109 0 0 0 0),(6,.ptr 110 0 0 0 0),(7,.d (I s.1))],fun s=>[(0,.box (.d (.agg [I m,I b,B c,B l,I n,I o,I f,.lst false 1 q,.lst false 6 t,.lst false 7 r]))),(1,.box (.d (.agg [I g,.v (.string h),.lst false 1 i,.lst false 1 j,.v (.string k)]))),(2,.box (.d jZj)),(20,.box (.d (.agg [I a.1,I a.2.1]))),(33,.box (.agg [.d (I p),.d (I b),.d (B c),.d (B l),.d (I a.1),.d (I a.2.1),.d (I f),.own 40 0,.own 46 0,.own 52 0])),(35,.box (.agg [.d (I m),.d (I b),.d (B c),.d (B l),.d (I n),.d (I o),.d (I f),.own 40 0,.own 46 0,.own 52 0])),(36,.box (.agg [.d (I m),.d (I b),.d (B c),.d (B l),.d (I n),.d (I o),.d (I f),.own 40 0,.own 46 0,.own 52 0])),(40,.row 0 1 q),(46,.row 0 6 s.2),(52,.row 0 7 r),(88,.box (.agg [.d (I p),.d (I b),.d (B c),.d (B true),.d (I a.1),.d (I a.2.1),.d (I f),.own 40 0,.own 46 0,.own 52 0])),(89,.box (.d (.agg [I g,.v (.string h),.lst false 1 i,.lst false 1 j,.v (.string k)]))),(90,.box (.d jZj)),(109,.box (.agg [.d (I p),.d (I b),.d (B c),.d (B true),.d (I a.1),.d (I a.2.1),.d (I f),.own 40 0,.own 46 0,.own 52 0])),(110,.box (.d jZj))],fun _=>(.exit 0),fun _=>[(3,.ptr 109 0 0 0 0),(6,.ptr 110 0 0 0 0)],fun e=>[(0,.box (.d (.agg [I m,I b,B c,B l,I n,I o,I f,.lst false 1 q,.lst false 6 t,.lst false 7 r]))),(1,.box (.d (.agg [I g,.v (.string h),.lst false 1 i,.lst false 1 j,.v (.string k)]))),(2,.box (.d jZj)),(20,.box (.d (.agg [I a.1,I a.2.1]))),(33,.box (.agg [.d (I p),.d (I b),.d (B c),.d (B l),.d (I a.1),.d (I a.2.1),.d (I f),.own 40 0,.own 46 0,.own 52 0])),(35,.box (.agg [.d (I m),.d (I b),.d (B c),.d (B l),.d (I n),.d (I o),.d (I f),.own 40 0,.own 46 0,.own 52 0])),(36,.box (.agg [.d (I m),.d (I b),.d (B c),.d (B l),.d (I n),.d (I o),.d (I f),.own 40 0,.own 46 0,.own 52 0])),(40,.row 0 1 q),(46,.row 0 6 e),(52,.row 0 7 r),(88,.box (.agg [.d (I p),.d (I b),.d (B c),.d (B true),.d (I a.1),.d (I a.2.1),.d (I f),.own 40 0,.own 46 0,.own 52 0])),(89,.box (.d (.agg [I g,.v (.string h),.lst false 1 i,.lst false 1 j,.v (.string k)]))),(90,.box (.d jZj)),(109,.box (.agg [.d (I p),.d (I b),.d (B c),.d (B true),.d (I a.1),.d (I a.2.1),.d (I f),.own 40 0,.own 46 0,.own 52 0])),(110,.box (.d jZj))]⟩
theorem zg {n g i j k l m o p q s b c d e f u v}(t)(r)(h:WU n g i j k l m o p q s b c d e f u v t=some r):Rl (ZJ cx.P 223 0) 32 109 false (zm g i j k l m o p q s b c d e f u v) t r:=by
 unfold WU at h;obtain⟨a,h⟩|⟨a,h⟩:=io h
 ·have⟨ha2,h⟩:=gd h;have⟨ta3,ha3,h⟩:=bo h;have⟨ha4,h⟩:=gd h;cases h;exact rn 112 [b1,.no,.no,b1,.el (QB ta3)] [] [1,2,3,6,7] [0,1,2,20,33,35,36,40,46,52,88,89,90,109,110] (Qa ha4 (Qa (QX Qq ha3) (Qa ha2 (Qa (jDj a) QL))))
 cases h;exact rx 112 [b0] [] [3,6] [0,1,2,20,33,35,36,40,46,52,88,89,90,109,110] (Qa (jEj a) QL)
def WT (n:Nat)(i j:Int)(k l:Bool)(m o p:Int)(q r s:jVj)(d:Int)(e:jSj)(f g:jVj)(h:jSj)(t:Int)(u:Int×Int×Int)(c:jSj)(a:(Int×jVj)):Option (Int×jVj⊕jVj) := if a.1<((a.2).length:Int) then if 0<=a.1/\a.1<((a.2).length:Int) then((nth (a.2) (Int.toNat a.1)).bind QM).bind fun b=>if(b.2.1.toList==c.toList)=true then if Qh (a.1+1) then some (.inl ((a.1+1),(List.set a.2 (Int.toNat a.1) (.agg [.v (.string b.1),.v (.string b.2.1),I b.2.2.1,I b.2.2.2.1,B b.2.2.2.2.1,B false]:D)))) else none else if Qh (a.1+1) then some (.inl ((a.1+1),a.2)) else none else none else some (.inr a.2)
noncomputable def zl (m b:Int)(c f:Bool)(n o g:Int)(q u r:jVj)(h:Int)(i:jSj)(j k:jVj)(l:jSj)(p:Int)(a:Int×Int×Int)(t:jSj):Lp (Int×jVj) (jVj):=⟨fun s=>[(1,.d (.v (.string t))),(2,.d (B false)),(3,.ptr 119 0 0 0 0),(6,.ptr 120 0 0 0 0),(7,.d (I s.1))],fun s=>[(0,.box (.d (.agg [I m,I b,B c,B f,I n,I o,I g,.lst false 1 q,.lst false 6 u,.lst false 7 r]))),(1,.box (.d (.agg [I h,.v (.string i),.lst false 1 j,.lst false 1 k,.v (.string l)]))),(2,.box (.d jZj)),(20,.box (.d (.agg [I a.1,I a.2.1]))),(33,.box (.agg [.d (I p),.d (I b),.d (B c),.d (B f),.d (I a.1),.d (I a.2.1),.d (I g),.own 40 0,.own 46 0,.own 52 0])),(35,.box (.agg [.d (I m),.d (I b),.d (B c),.d (B f),.d (I n),.d (I o),.d (I g),.own 40 0,.own 46 0,.own 52 0])),(36,.box (.agg [.d (I m),.d (I b),.d (B c),.d (B f),.d (I n),.d (I o),.d (I g),.own 40 0,.own 46 0,.own 52 0])),(40,.row 0 1 q),(46,.row 0 6 s.2),(52,.row 0 7 r),(96,.box (.agg [.d (I p),.d (I b),.d (B c),.d (B f),.d (I a.1),.d (I a.2.1),.d (I g),.own 40 0,.own 46 0,.own 52 0])),(97,.box (.d (.agg [I h,.v (.string i),.lst false 1 j,.lst false 1 k,.v (.string l)]))),(98,.box (.d jZj)),(119,.box (.agg [.d (I p),.d (I b),.d (B c),.d (B f),.d (I a.1),.d (I a.2.1),.d (I g),.own 40 0,.own 46 0,.own 52 0])),(120,.box (.d jZj))],fun _=>(.exit 0),fun _=>[(3,.ptr 119 0 0 0 0),(6,.ptr 120 0 0 0 0)],fun e=>[(0,.box (.d (.agg [I m,I b,B c,B f,I n,I o,I g,.lst false 1 q,.lst false 6 u,.lst false 7 r]))),(1,.box (.d (.agg [I h,.v (.string i),.lst false 1 j,.lst false 1 k,.v (.string l)]))),(2,.box (.d jZj)),(20,.box (.d (.agg [I a.1,I a.2.1]))),(33,.box (.agg [.d (I p),.d (I b),.d (B c),.d (B f),.d (I a.1),.d (I a.2.1),.d (I g),.own 40 0,.own 46 0,.own 52 0])),(35,.box (.agg [.d (I m),.d (I b),.d (B c),.d (B f),.d (I n),.d (I o),.d (I g),.own 40 0,.own 46 0,.own 52 0])),(36,.box (.agg [.d (I m),.d (I b),.d (B c),.d (B f),.d (I n),.d (I o),.d (I g),.own 40 0,.own 46 0,.own 52 0])),(40,.row 0 1 q),(46,.row 0 6 e),(52,.row 0 7 r),(96,.box (.agg [.d (I p),.d (I b),.d (B c),.d (B f),.d (I a.1),.d (I a.2.1),.d (I g),.own 40 0,.own 46 0,.own 52 0])),(97,.box (.d (.agg [I h,.v (.string i),.lst false 1 j,.lst false 1 k,.v (.string l)]))),(98,.box (.d jZj)),(119,.box (.agg [.d (I p),.d (I b),.d (B c),.d (B f),.d (I a.1),.d (I a.2.1),.d (I g),.own 40 0,.own 46 0,.own 52 0])),(120,.box (.d jZj))]⟩
theorem zf {n j k m p s t u v w x c d e f g z A i}(y)(r)(h:WT n j k m p s t u v w x c d e f g z A i y=some r):Rl (ZJ cx.P 223 0) 32 119 false (zl j k m p s t u v w x c d e f g z A i) y r:=by
 unfold WT at h;obtain⟨a,h⟩|⟨a,h⟩:=io h
 ·have⟨ha2,h⟩:=gd h;have⟨ta3,ha3,h⟩:=bo h;have q:=Qa (QX Qq ha3) (Qa ha2 (Qa (jDj a) QL));let o(l:jOj):=b1::.no::b1::.el (QB ta3)::l;obtain⟨b,h⟩|⟨b,h⟩:=io h
  ·have⟨ha5,h⟩:=gd h;cases h;exact rn 122 (o [b1,b1,.el (QB ta3)]) [] [1,2,3,6,7] [0,1,2,20,33,35,36,40,46,52,96,97,98,119,120] (Qa ha5 (Qa (QX Qq ha3) (Qa ha2 (Qa b q))))
  have⟨ha5,h⟩:=gd h;cases h;exact rn 122 (o [b0]) [] [1,2,3,6,7] [0,1,2,20,33,35,36,40,46,52,96,97,98,119,120] (Qa ha5 (Qa (QA b) q))
 cases h;exact rx 122 [b0] [] [3,6] [0,1,2,20,33,35,36,40,46,52,96,97,98,119,120] (Qa (jEj a) QL)
def QZ (n:Nat)(w k:Int)(i j:Bool)(z A g:Int)(f d e:jVj)(x:Int)(m:jSj)(q p:jVj)(y:jSj):Option (Int×Int×Bool×Bool×Int×Int×Int×jVj×jVj×jVj×Int) := (el Vt p 0).bind fun h=>if h<w then some (w,k,i,j,z,A,g,f,d,e,22) else(Vp n w k i j z A g f d e h).bind fun a=>if a.2.2=0 then(QW n w k i j z A g f d e x m q p y).bind fun L=>if L=0 then if Wa 16 (0+(f).length) then if Wa 56 (0+(d).length) then if Wa 64 (0+(e).length) then if(m.toList==(⟨#[115,117,110]⟩:jSj).toList)=true then(el Vt p 1).bind fun E=>if E>1000 then some (h,k,i,j,a.1,a.2.1,g,f,d,e,3) else some (h,E,i,j,a.1,a.2.1,g,f,d,e,0) else if(m.toList==(⟨#[102,105,108,108]⟩:jSj).toList)=true then if i=true then some (h,k,i,j,a.1,a.2.1,g,f,d,e,9) else some (h,k,true,j,a.1,a.2.1,g,f,d,e,0) else if(m.toList==(⟨#[100,114,97,105,110]⟩:jSj).toList)=true then if i=true then(V4 n h k i j a.1 a.2.1 g f d e).bind fun G=>if((G).length:Int)>0 then some (h,k,i,j,a.1,a.2.1,g,f,d,e,31) else some (h,k,false,j,a.1,a.2.1,g,f,d,e,0) else some (h,k,i,j,a.1,a.2.1,g,f,d,e,22) else if(m.toList==(⟨#[116,114,105,112]⟩:jSj).toList)=true then if j=true then some (h,k,i,j,a.1,a.2.1,g,f,d,e,9) else(Q2 (WU n w k i j z A g f d e x m q p y h a) n (0,d)).bind fun H=>some (h,k,i,true,a.1,a.2.1,g,f,H,e,0) else if(m.toList==(⟨#[114,101,115,101,116]⟩:jSj).toList)=true then if j=true then some (h,k,i,false,a.1,a.2.1,g,f,d,e,0) else some (h,k,i,j,a.1,a.2.1,g,f,d,e,22) else if(m.toList==(⟨#[111,102,102,101,114]⟩:jSj).toList)=true then(el Vt p 1).bind fun C=>if C<h then some (h,k,i,j,a.1,a.2.1,g,f,d,e,14) else(el Vt p 2).bind fun r=>if C>=r then some (h,k,i,j,a.1,a.2.1,g,f,d,e,14) else(el Vt p 3).bind fun c=>(Wt n c 1 1000).bind fun l=>if l=true then some (h,k,i,j,a.1,a.2.1,g,f,d,e,3) else(el Vt p 4).bind fun F=>if F>1000 then some (h,k,i,j,a.1,a.2.1,g,f,d,e,3) else if((e).length:Int)>=32 then some (h,k,i,j,a.1,a.2.1,g,f,d,e,5) else(el Ww q 0).bind fun u=>if Wa 64 ((e).length+1) then some (h,k,i,j,a.1,a.2.1,g,f,d,(e++([.agg [.v (.string u),I C,I r,I c,I F,I 0,B false]]:jVj)),0) else none else if(m.toList==(⟨#[100,101,108,105,118,101,114]⟩:jSj).toList)=true then(el Ww q 0).bind fun J=>(WW n h k i j a.1 a.2.1 g f d e 111 J).bind fun r=>if 0<=r/\r<((e).length:Int) then((nth (e) (Int.toNat r)).bind Z6).bind fun c=>if c.2.2.2.2.2.2=true then some (h,k,i,j,a.1,a.2.1,g,f,d,e,23) else if(m.toList==(⟨#[98,105,108,108]⟩:jSj).toList)=true then if h<c.2.2.1 then some (h,k,i,j,a.1,a.2.1,g,f,d,e,32) else(Ys n c.1 c.2.1 c.2.2.1 c.2.2.2.1 c.2.2.2.2.1 c.2.2.2.2.2.1 c.2.2.2.2.2.2).bind fun b=>if Qh (g+b) then some (h,k,i,j,a.1,a.2.1,(g+b),f,d,(List.set e (Int.toNat r) (.agg [.v (.string c.1),I c.2.1,I c.2.2.1,I c.2.2.2.1,I c.2.2.2.2.1,I c.2.2.2.2.2.1,B true]:D)),0) else none else if h<c.2.1 then some (h,k,i,j,a.1,a.2.1,g,f,d,e,14) else if h>=c.2.2.1 then some (h,k,i,j,a.1,a.2.1,g,f,d,e,14) else(el Vt p 1).bind fun s=>if s=0 then some (h,k,i,j,a.1,a.2.1,g,f,d,e,3) else(W9 n c.1 c.2.1 c.2.2.1 c.2.2.2.1 c.2.2.2.2.1 c.2.2.2.2.2.1 c.2.2.2.2.2.2).bind fun K=>if s>K then some (h,k,i,j,a.1,a.2.1,g,f,d,e,20) else if Qh (s*1000000) then if(s*1000000)>a.2.1 then some (h,k,i,j,a.1,a.2.1,g,f,d,e,16) else if Qh (a.2.1 - (s*1000000)) then if Qh (c.2.2.2.2.2.1+s) then some (h,k,i,j,a.1,(a.2.1 - (s*1000000)),g,f,d,(List.set e (Int.toNat r) (.agg [.v (.string c.1),I c.2.1,I c.2.2.1,I c.2.2.2.1,I c.2.2.2.2.1,I (c.2.2.2.2.2.1+s),B c.2.2.2.2.2.2]:D)),0) else none else none else none else none else if(m.toList==(⟨#[98,105,108,108]⟩:jSj).toList)=true then(el Ww q 0).bind fun r=>(WW n h k i j a.1 a.2.1 g f d e 111 r).bind fun t=>if 0<=t/\t<((e).length:Int) then((nth (e) (Int.toNat t)).bind Z6).bind fun l=>if l.2.2.2.2.2.2=true then some (h,k,i,j,a.1,a.2.1,g,f,d,e,23) else if h<l.2.2.1 then some (h,k,i,j,a.1,a.2.1,g,f,d,e,32) else(Ys n l.1 l.2.1 l.2.2.1 l.2.2.2.1 l.2.2.2.2.1 l.2.2.2.2.2.1 l.2.2.2.2.2.2).bind fun b=>if Qh (g+b) then some (h,k,i,j,a.1,a.2.1,(g+b),f,d,(List.set e (Int.toNat t) (.agg [.v (.string l.1),I l.2.1,I l.2.2.1,I l.2.2.2.1,I l.2.2.2.2.1,I l.2.2.2.2.2.1,B true]:D)),0) else none else none else if(m.toList==(⟨#[115,101,99,116,111,114]⟩:jSj).toList)=true then if((f).length:Int)>=8 then some (h,k,i,j,a.1,a.2.1,g,f,d,e,5) else(el Ww q 0).bind fun c=>if Wa 16 ((f).length+1) then some (h,k,i,j,a.1,a.2.1,g,(f++([.v (.string c)]:jVj)),d,e,0) else none else if(m.toList==(⟨#[109,105,114,114,111,114]⟩:jSj).toList)=true then(el Vt p 1).bind fun c=>(Wt n c 1 100).bind fun l=>if l=true then some (h,k,i,j,a.1,a.2.1,g,f,d,e,3) else if((d).length:Int)>=32 then some (h,k,i,j,a.1,a.2.1,g,f,d,e,5) else(el Ww q 0).bind fun b=>(el Ww q 1).bind fun s=>if Wa 56 ((d).length+1) then some (h,k,i,j,a.1,a.2.1,g,f,(d++([.agg [.v (.string b),.v (.string s),I c,I 0,B false,B false]]:jVj)),e,0) else none else if(m.toList==(⟨#[100,105,109]⟩:jSj).toList)=true then(el Ww q 0).bind fun l=>(Q2 (WT n w k i j z A g f d e x m q p y h a l) n (0,d)).bind fun o=>some (h,k,i,j,a.1,a.2.1,g,f,o,e,0) else(el Ww q 0).bind fun l=>(WW n h k i j a.1 a.2.1 g f d e 109 l).bind fun o=>if 0<=o/\o<((d).length:Int) then((nth (d) (Int.toNat o)).bind QM).bind fun b=>if(m.toList==(⟨#[115,111,105,108]⟩:jSj).toList)=true then(el Vt p 1).bind fun u=>if u>1000 then some (h,k,i,j,a.1,a.2.1,g,f,d,e,3) else if(Int.toNat o)<(d).length then some (h,k,i,j,a.1,a.2.1,g,f,(List.set d (Int.toNat o) (.agg [.v (.string b.1),.v (.string b.2.1),I b.2.2.1,I u,B b.2.2.2.2.1,B b.2.2.2.2.2]:D)),e,0) else none else if(m.toList==(⟨#[99,108,101,97,110]⟩:jSj).toList)=true then if(Int.toNat o)<(d).length then some (h,k,i,j,a.1,a.2.1,g,f,(List.set d (Int.toNat o) (.agg [.v (.string b.1),.v (.string b.2.1),I b.2.2.1,I 0,B b.2.2.2.2.1,B b.2.2.2.2.2]:D)),e,0) else none else if(m.toList==(⟨#[100,101,102,101,99,116]⟩:jSj).toList)=true then if b.2.2.2.2.1=true then some (h,k,i,j,a.1,a.2.1,g,f,d,e,9) else if b.2.2.2.2.2=true then some (h,k,i,j,a.1,a.2.1,g,f,d,e,31) else if(Int.toNat o)<(d).length then some (h,k,i,j,a.1,a.2.1,g,f,(List.set d (Int.toNat o) (.agg [.v (.string b.1),.v (.string b.2.1),I b.2.2.1,I b.2.2.2.1,B true,B b.2.2.2.2.2]:D)),e,0) else none else if(m.toList==(⟨#[114,101,112,97,105,114]⟩:jSj).toList)=true then if b.2.2.2.2.1=true then if(Int.toNat o)<(d).length then some (h,k,i,j,a.1,a.2.1,g,f,(List.set d (Int.toNat o) (.agg [.v (.string b.1),.v (.string b.2.1),I b.2.2.1,I b.2.2.2.1,B false,B b.2.2.2.2.2]:D)),e,0) else none else some (h,k,i,j,a.1,a.2.1,g,f,d,e,22) else if(m.toList==(⟨#[97,105,109]⟩:jSj).toList)=true then if i=true then if j=true then some (h,k,i,j,a.1,a.2.1,g,f,d,e,29) else if b.2.2.2.2.1=true then some (h,k,i,j,a.1,a.2.1,g,f,d,e,21) else if b.2.2.2.2.2=true then some (h,k,i,j,a.1,a.2.1,g,f,d,e,9) else if(Int.toNat o)<(d).length then some (h,k,i,j,a.1,a.2.1,g,f,(List.set d (Int.toNat o) (.agg [.v (.string b.1),.v (.string b.2.1),I b.2.2.1,I b.2.2.2.1,B b.2.2.2.2.1,B true]:D)),e,0) else none else some (h,k,i,j,a.1,a.2.1,g,f,d,e,30) else if b.2.2.2.2.2=true then if(Int.toNat o)<(d).length then some (h,k,i,j,a.1,a.2.1,g,f,(List.set d (Int.toNat o) (.agg [.v (.string b.1),.v (.string b.2.1),I b.2.2.1,I b.2.2.2.1,B b.2.2.2.2.1,B false]:D)),e,0) else none else some (h,k,i,j,a.1,a.2.1,g,f,d,e,22) else none else none else none else none else some (w,k,i,j,z,A,g,f,d,e,L) else some (w,k,i,j,z,A,g,f,d,e,a.2.2)
theorem J0 {n S G H P T U J W Y X K L M N O r}(h:QZ n S G H P T U J W Y X K L M N O=some r):Computes cx 119 [.agg [I S,I G,B H,B P,I T,I U,I J,.lst false 1 W,.lst false 6 Y,.lst false 7 X],.agg [I K,.v (.string L),.lst false 1 M,.lst false 1 N,.v (.string O)]] (.tup [.agg [I r.1,I r.2.1,B r.2.2.1,B r.2.2.2.1,I r.2.2.2.2.1,I r.2.2.2.2.2.1,I r.2.2.2.2.2.2.1,.lst false 1 r.2.2.2.2.2.2.2.1,.lst false 6 r.2.2.2.2.2.2.2.2.1,.lst false 7 r.2.2.2.2.2.2.2.2.2.1],I r.2.2.2.2.2.2.2.2.2.2]):=by
 unfold QZ at h;have⟨t1,h1,h⟩:=bo h;have q:=allE Qi h1 QL;let o(l:jOj):=.el (Q3 t1)::l;obtain⟨h2,h⟩|⟨h2,h⟩:=io h
 ·cases h;exact rf (o [b1]) (Qa (jDj h2) q)
 have⟨t3,h3,h⟩:=bo h;have q:=Qa (K8 h3) (allE Qi h1 (Qa (jEj h2) q));let o l:=o (b0::.el (Q3 t1)::.ret (.tup [.agg [I t3.1,I t3.2.1],I t3.2.2])::l);obtain⟨Z,h⟩|⟨Z,h⟩:=io h
 ·have⟨t5,h5,h⟩:=bo h;have q:=Qa (EP h5) (Qa (eqt Z) q);let o l:=o (b1::.ret (I t5)::l);obtain⟨h6,h⟩|⟨h6,h⟩:=io h
  ·have⟨h7,h⟩:=gd h;have⟨h8,h⟩:=gd h;have⟨h9,h⟩:=gd h;have q:=allE Qi h1 (Qa (ro 56 h9) (Qa (ro 76 h8) (Qa (ro 9 h7) (Qa (nef h6) q))));let o l:=o (b0::b1::.ix (-8)::b1::.ix (-8)::b1::.ix (-8)::b1::.el (Q3 t1)::l);obtain⟨A,h⟩|⟨A,h⟩:=io h
   ·have⟨t11,w,h⟩:=bo h;have q:=allE Qi w (Qa A (Qa A (Qa A q)));let o l:=o (b1::b1::b1::b1::.el (Q3 t11)::l);obtain⟨j,h⟩|⟨j,h⟩:=io h
    ·cases h;exact rf (o [b1]) (Qa (jDj j) q)
    cases h;exact rf (o [b0,.el (Q3 t11)]) (allE Qi w (Qa (jEj j) q))
   have q:=Qa (QA A) q;let o l:=o (b0::l);obtain⟨w,h⟩|⟨w,h⟩:=io h
   ·have q:=Qa w (Qa (QA A) (Qa w (Qa w q)));let o l:=o (b1::b1::b1::b0::b1::l);obtain⟨j,h⟩|⟨j,h⟩:=io h
    ·cases h;exact rf (o [b1]) (Qa j q)
    cases h;exact rf (o [b0]) (Qa (QA j) q)
   have q:=Qa (QA w) q;let o l:=o (b0::l);obtain⟨j,h⟩|⟨j,h⟩:=io h
   ·have q:=Qa j (Qa (QA w) (Qa (QA A) (Qa j (Qa j q))));let o l:=o (b1::b1::b1::b0::b0::b1::l);obtain⟨x,h⟩|⟨x,h⟩:=io h
    ·have⟨t14,C,h⟩:=bo h;have q:=Qa (Ec C) (Qa (Ud x) q);let o l:=o (b0::.ret (.lst false 1 t14)::l);obtain⟨f,h⟩|⟨f,h⟩:=io h
     ·cases h;exact rf (o [b1]) (Qa (jDj f) q)
     cases h;exact rf (o [b0]) (Qa (jEj f) q)
    cases h;exact rf (o [b1]) (Qa (Uc (QA x)) q)
   have q:=Qa (QA j) q;let o l:=o (b0::l);obtain⟨x,h⟩|⟨x,h⟩:=io h
   ·have q:=Qa x (Qa (QA j) (Qa (QA w) (Qa (QA A) (Qa x (Qa x q)))));let o l:=o (b1::b1::b1::b0::b0::b0::b1::l);obtain⟨C,h⟩|⟨C,h⟩:=io h
    ·cases h;exact rf (o [b1]) (Qa C q)
    have⟨t15,f,h⟩:=bo h;cases h;exact rf (o [b0,b1,.lp [] [1,2,3,6,7] [0,1,2,20,33,35,36,40,46,52,88,89,90,109,110] (.exit 0) [(3,.ptr 109 0 0 0 0),(6,.ptr 110 0 0 0 0)] [(0,.box (.d (.agg [I S,I G,B H,B P,I T,I U,I J,.lst false 1 W,.lst false 6 Y,.lst false 7 X]))),(1,.box (.d (.agg [I K,.v (.string L),.lst false 1 M,.lst false 1 N,.v (.string O)]))),(2,.box (.d jZj)),(20,.box (.d (.agg [I t3.1,I t3.2.1]))),(33,.box (.agg [.d (I t1),.d (I G),.d (B H),.d (B P),.d (I t3.1),.d (I t3.2.1),.d (I J),.own 40 0,.own 46 0,.own 52 0])),(35,.box (.agg [.d (I S),.d (I G),.d (B H),.d (B P),.d (I T),.d (I U),.d (I J),.own 40 0,.own 46 0,.own 52 0])),(36,.box (.agg [.d (I S),.d (I G),.d (B H),.d (B P),.d (I T),.d (I U),.d (I J),.own 40 0,.own 46 0,.own 52 0])),(40,.row 0 1 W),(46,.row 0 6 t15),(52,.row 0 7 X),(88,.box (.agg [.d (I t1),.d (I G),.d (B H),.d (B true),.d (I t3.1),.d (I t3.2.1),.d (I J),.own 40 0,.own 46 0,.own 52 0])),(89,.box (.d (.agg [I K,.v (.string L),.lst false 1 M,.lst false 1 N,.v (.string O)]))),(90,.box (.d jZj)),(109,.box (.agg [.d (I t1),.d (I G),.d (B H),.d (B true),.d (I t3.1),.d (I t3.2.1),.d (I J),.own 40 0,.own 46 0,.own 52 0])),(110,.box (.d jZj))] 148]) (Qa (QH zg f) (Qa (QA C) q))
   have q:=Qa (QA x) q;let o l:=o (b0::l);obtain⟨C,h⟩|⟨C,h⟩:=io h
   ·have q:=Qa (QA x) (Qa (QA j) (Qa (QA w) (Qa (QA A) (Qa C q))));let o l:=o (b1::b1::b0::b0::b0::b0::l);obtain⟨f,h⟩|⟨f,h⟩:=io h
    ·cases h;exact rf (o [b0]) (Qa (Ud f) q)
    cases h;exact rf (o [b1]) (Qa (Uc (QA f)) q)
   have q:=Qa (QA C) q;let o l:=o (b0::l);obtain⟨f,h⟩|⟨f,h⟩:=io h
   ·have⟨t16,E,h⟩:=bo h;have q:=allE Qi h1 (allE Qi E (Qa f (Qa f (Qa f q))));let o l:=o (b1::b1::b1::b1::.el (Q3 t16)::.el (Q3 t1)::l);obtain⟨y,h⟩|⟨y,h⟩:=io h
    ·cases h;exact rf (o [b1,.no]) (Qa (jDj y) q)
    have⟨t18,z,h⟩:=bo h;have q:=allE Qi z (allE Qi E (Qa (jEj y) q));let o l:=o (b0::.el (Q3 t16)::.el (Q3 t18)::l);obtain⟨g,h⟩|⟨g,h⟩:=io h
    ·cases h;exact rf (o [b1]) (Qa (jDj g) q)
    have⟨t20,e,h⟩:=bo h;have⟨t21,i,h⟩:=bo h;have q:=Qa (V0 i) (allE Qi e (Qa (jEj g) q));let o l:=o (b0::.el (Q3 t20)::.ret (B t21)::l);obtain⟨b,h⟩|⟨b,h⟩:=io h
    ·cases h;exact rf (o [b1,.no]) (Qa b q)
    have⟨t23,a,h⟩:=bo h;have q:=allE Qi a (Qa (QA b) q);let o l:=o (b0::.el (Q3 t23)::l);obtain⟨k,h⟩|⟨k,h⟩:=io h
    ·cases h;exact rf (o [b1]) (Qa (jDj k) q)
    have q:=Qa (jEj k) q;obtain⟨c,h⟩|⟨c,h⟩:=io h
    ·cases h;exact rf (o [b0,b1]) (Qa (jDj c) q)
    have⟨t26,p,h⟩:=bo h;have⟨t,h⟩:=gd h;cases h;exact rf (o [b0,b0,.el (Zy t26),.el (Q3 t16),.el (Q3 t18),.el (Q3 t20),.el (Q3 t23),b1]) (Qa (ro 56 t) (allE Qi a (allE Qi e (allE Qi z (allE Qi E (allE Qr p (Qa (jEj c) q)))))))
   have q:=Qa (QA f) q;let o l:=o (b0::l);obtain⟨E,h⟩|⟨E,h⟩:=io h
   ·have⟨t17,y,h⟩:=bo h;have⟨t18,z,h⟩:=bo h;have⟨g,h⟩:=gd h;have⟨t20,e,h⟩:=bo h;have q:=Qa (QX Q0 e) (Qa g (Qa (K9 z) (allE Qr y (Qa (QA f) (Qa E (Qa E q))))));let o l:=o (b1::b1::b1::b0::.el (Zy t17)::.ix 0::.ret (I t18)::b1::.el (Q7 t20)::l);obtain⟨i,h⟩|⟨i,h⟩:=io h
    ·cases h;exact rf (o [b1]) (Qa i q)
    have q:=Qa (QA i) q;let o l:=o (b0::l);obtain⟨b,h⟩|⟨b,h⟩:=io h
    ·have q:=allE Qi h1 (Qa b q);let o l:=o (b1::.el (Q3 t1)::l);obtain⟨a,h⟩|⟨a,h⟩:=io h
     ·cases h;exact rf (o [b1]) (Qa (jDj a) q)
     have⟨t24,k,h⟩:=bo h;have⟨c,h⟩:=gd h;cases h;exact rf (o [b0,b1,.el (Q7 t20),.ret (I t24)]) (Qa c (Qa (qr k) (Qa (QX Q0 e) (Qa g (Qa (jEj a) q)))))
    have q:=allE Qi h1 (Qa (QA b) q);let o l:=o (b0::.el (Q3 t1)::l);obtain⟨a,h⟩|⟨a,h⟩:=io h
    ·cases h;exact rf (o [b1,.no]) (Qa (jDj a) q)
    have q:=allE Qi h1 (Qa (jEj a) q);let o l:=o (b0::.el (Q3 t1)::l);obtain⟨k,h⟩|⟨k,h⟩:=io h
    ·cases h;exact rf (o [b1]) (Qa (jDj k) q)
    have⟨t25,c,h⟩:=bo h;have q:=allE Qi c (Qa (jEj k) q);let o l:=o (b0::.el (Q3 t25)::l);obtain⟨p,h⟩|⟨p,h⟩:=io h
    ·cases h;exact rf (o [b1]) (Qa (eqt p) q)
    have⟨t27,t,h⟩:=bo h;have q:=Qa (JJ t) (allE Qi c (Qa (eqf p) q));let o l:=o (b0::.el (Q3 t25)::.ret (I t27)::l);obtain⟨u,h⟩|⟨u,h⟩:=io h
    ·cases h;exact rf (o [b1]) (Qa (jDj u) q)
    have⟨s,h⟩:=gd h;have q:=Qa s (allE Qi c (Qa (jEj u) q));let o l:=o (b0::.el (Q3 t25)::l);obtain⟨m,h⟩|⟨m,h⟩:=io h
    ·cases h;exact rf (o [b1]) (Qa (jDj m) q)
    have⟨F,h⟩:=gd h;have⟨Q,h⟩:=gd h;cases h;exact rf (o [b0,.el (Q3 t25),.el (Q3 t25),b1,.el (Q7 t20)]) (Qa (QX Q0 e) (Qa g (Qa Q (allE Qi c (Qa F (Qa s (allE Qi c (Qa (jEj m) q))))))))
   have q:=Qa (QA E) q;let o l:=o (b0::l);obtain⟨y,h⟩|⟨y,h⟩:=io h
   ·have⟨t18,z,h⟩:=bo h;have⟨t19,g,h⟩:=bo h;have⟨e,h⟩:=gd h;have⟨t21,i,h⟩:=bo h;have q:=Qa (QX Q0 i) (Qa e (Qa (K9 g) (allE Qr z (Qa (QA f) (Qa y q)))));let o l:=o (b1::b1::b0::.el (Zy t18)::.ix 0::.ret (I t19)::b1::.el (Q7 t21)::l);obtain⟨b,h⟩|⟨b,h⟩:=io h
    ·cases h;exact rf (o [b1]) (Qa b q)
    have q:=allE Qi h1 (Qa y (Qa (QA b) q));let o l:=o (b0::b1::.el (Q3 t1)::l);obtain⟨a,h⟩|⟨a,h⟩:=io h
    ·cases h;exact rf (o [b1]) (Qa (jDj a) q)
    have⟨t24,k,h⟩:=bo h;have⟨c,h⟩:=gd h;cases h;exact rf (o [b0,b1,.el (Q7 t21),.ret (I t24)]) (Qa c (Qa (qr k) (Qa (QX Q0 i) (Qa e (Qa (jEj a) q)))))
   have q:=Qa (QA y) q;let o l:=o (b0::b1::l);obtain⟨z,h⟩|⟨z,h⟩:=io h
   ·have q:=Qa z q;obtain⟨g,h⟩|⟨g,h⟩:=io h
    ·cases h;exact rf (o [b1,b1]) (Qa (jDj g) q)
    have⟨t20,e,h⟩:=bo h;have⟨i,h⟩:=gd h;cases h;exact rf (o [b1,b0,.el (Zy t20),b1]) (Qa (ro 9 i) (allE Qr e (Qa (jEj g) q)))
   have q:=Qa (QA z) q;let o l:=o (b0::l);obtain⟨g,h⟩|⟨g,h⟩:=io h
   ·have⟨t20,e,h⟩:=bo h;have⟨t21,i,h⟩:=bo h;have q:=Qa (V0 i) (allE Qi e (Qa g q));let o l:=o (b1::.el (Q3 t20)::.ret (B t21)::l);obtain⟨b,h⟩|⟨b,h⟩:=io h
    ·cases h;exact rf (o [b1]) (Qa b q)
    have q:=Qa (QA b) q;obtain⟨a,h⟩|⟨a,h⟩:=io h
    ·cases h;exact rf (o [b0,b1]) (Qa (jDj a) q)
    have⟨t24,k,h⟩:=bo h;have⟨t25,c,h⟩:=bo h;have⟨p,h⟩:=gd h;cases h;exact rf (o [b0,b0,.el (Zy t24),.el (Zy t25),.el (Q3 t20),b1]) (Qa (ro 76 p) (allE Qi e (allE Qr c (allE Qr k (Qa (jEj a) q)))))
   have q:=Qa (QA g) q;let o l:=o (b0::l);obtain⟨e,h⟩|⟨e,h⟩:=io h
   ·have⟨t21,i,h⟩:=bo h;have⟨t22,b,h⟩:=bo h;cases h;exact rf (o [b1,.el (Zy t21),.ix (-9),b1,.lp [] [1,2,3,6,7] [0,1,2,20,33,35,36,40,46,52,96,97,98,119,120] (.exit 0) [(3,.ptr 119 0 0 0 0),(6,.ptr 120 0 0 0 0)] [(0,.box (.d (.agg [I S,I G,B H,B P,I T,I U,I J,.lst false 1 W,.lst false 6 Y,.lst false 7 X]))),(1,.box (.d (.agg [I K,.v (.string L),.lst false 1 M,.lst false 1 N,.v (.string O)]))),(2,.box (.d jZj)),(20,.box (.d (.agg [I t3.1,I t3.2.1]))),(33,.box (.agg [.d (I t1),.d (I G),.d (B H),.d (B P),.d (I t3.1),.d (I t3.2.1),.d (I J),.own 40 0,.own 46 0,.own 52 0])),(35,.box (.agg [.d (I S),.d (I G),.d (B H),.d (B P),.d (I T),.d (I U),.d (I J),.own 40 0,.own 46 0,.own 52 0])),(36,.box (.agg [.d (I S),.d (I G),.d (B H),.d (B P),.d (I T),.d (I U),.d (I J),.own 40 0,.own 46 0,.own 52 0])),(40,.row 0 1 W),(46,.row 0 6 t22),(52,.row 0 7 X),(96,.box (.agg [.d (I t1),.d (I G),.d (B H),.d (B P),.d (I t3.1),.d (I t3.2.1),.d (I J),.own 40 0,.own 46 0,.own 52 0])),(97,.box (.d (.agg [I K,.v (.string L),.lst false 1 M,.lst false 1 N,.v (.string O)]))),(98,.box (.d jZj)),(119,.box (.agg [.d (I t1),.d (I G),.d (B H),.d (B P),.d (I t3.1),.d (I t3.2.1),.d (I J),.own 40 0,.own 46 0,.own 52 0])),(120,.box (.d jZj))] 158]) (Qa (QH zf b) (allE Qr i (Qa e q)))
   have⟨t21,i,h⟩:=bo h;have⟨t22,b,h⟩:=bo h;have⟨a,h⟩:=gd h;have⟨t24,k,h⟩:=bo h;have q:=Qa (QX Qq k) (Qa a (Qa (K9 b) (allE Qr i (Qa (QA e) q))));let o l:=o (b0::.el (Zy t21)::.ix 0::.ret (I t22)::b1::.el (QB t24)::l);obtain⟨c,h⟩|⟨c,h⟩:=io h
   ·have⟨t26,p,h⟩:=bo h;have q:=allE Qi p (Qa c q);let o l:=o (b1::.el (Q3 t26)::l);obtain⟨t,h⟩|⟨t,h⟩:=io h
    ·cases h;exact rf (o [b1]) (Qa (jDj t) q)
    have⟨u,h⟩:=gd h;cases h;exact rf (o [b0,.el (Q3 t26),b1,b1]) (Qa u (Qa a (allE Qi p (Qa (jEj t) q))))
   have q:=Qa (QA c) q;let o l:=o (b0::l);obtain⟨p,h⟩|⟨p,h⟩:=io h
   ·have⟨t,h⟩:=gd h;cases h;exact rf (o [b1,b1,b1]) (Qa t (Qa a (Qa p q)))
   have q:=Qa (QA p) q;let o l:=o (b0::l);obtain⟨t,h⟩|⟨t,h⟩:=io h
   ·have q:=Qa t q;obtain⟨u,h⟩|⟨u,h⟩:=io h
    ·cases h;exact rf (o [b1,b1]) (Qa u q)
    have q:=Qa (QA u) q;obtain⟨s,h⟩|⟨s,h⟩:=io h
    ·cases h;exact rf (o [b1,b0,b1]) (Qa s q)
    have⟨m,h⟩:=gd h;cases h;exact rf (o [b1,b0,b0,b1,b1]) (Qa m (Qa a (Qa (QA s) q)))
   have q:=Qa (QA t) q;let o l:=o (b0::l);obtain⟨u,h⟩|⟨u,h⟩:=io h
   ·have q:=Qa u q;obtain⟨s,h⟩|⟨s,h⟩:=io h
    ·have⟨m,h⟩:=gd h;cases h;exact rf (o [b1,b0,b1,b1]) (Qa m (Qa a (Qa (Ud s) q)))
    cases h;exact rf (o [b1,b1]) (Qa (Uc (QA s)) q)
   have q:=Qa (QA u) q;let o l:=o (b0::l);obtain⟨s,h⟩|⟨s,h⟩:=io h
   ·have q:=Qa s q;let o l:=o (b1::l);obtain⟨m,h⟩|⟨m,h⟩:=io h
    ·have q:=Qa (Ud m) q;obtain⟨F,h⟩|⟨F,h⟩:=io h
     ·cases h;exact rf (o [b0,b1]) (Qa F q)
     have q:=Qa (QA F) q;let o l:=o (b0::b0::l);obtain⟨Q,h⟩|⟨Q,h⟩:=io h
     ·cases h;exact rf (o [b1]) (Qa Q q)
     have q:=Qa (QA Q) q;obtain⟨V,h⟩|⟨V,h⟩:=io h
     ·cases h;exact rf (o [b0,b1]) (Qa V q)
     have⟨h34,h⟩:=gd h;cases h;exact rf (o [b0,b0,b1,b1]) (Qa h34 (Qa a (Qa (QA V) q)))
    cases h;exact rf (o [b1]) (Qa (Uc (QA m)) q)
   have q:=Qa (QA s) q;obtain⟨m,h⟩|⟨m,h⟩:=io h
   ·have⟨F,h⟩:=gd h;cases h;exact rf (o [b0,b0,b1,b1]) (Qa F (Qa a (Qa (Ud m) q)))
   cases h;exact rf (o [b0,b1]) (Qa (Uc (QA m)) q)
  cases h;exact rf (o [b1]) (Qa (net h6) q)
 cases h;exact rf (o [b0,b1]) (Qa (net Z) (Qa (eqf Z) q))
def Vn (x:jRj):D:=.agg [I x.1,I x.2.1,B x.2.2.1,B x.2.2.2.1,I x.2.2.2.2.1,I x.2.2.2.2.2.1,I x.2.2.2.2.2.2.1,.lst false 1 x.2.2.2.2.2.2.2.1,.lst false 6 x.2.2.2.2.2.2.2.2.1,.lst false 7 x.2.2.2.2.2.2.2.2.2]
def Vy:D->Option (jRj)
 | .agg [c0,c1,c2,c3,c4,c5,c6,c7,c8,c9]=>(Ya .i64 c0).bind fun a=>(Ya .i64 c1).bind fun b=>(Gw c2).bind fun c=>(Gw c3).bind fun d=>(Ya .i64 c4).bind fun e=>(Ya .i64 c5).bind fun f=>(Ya .i64 c6).bind fun g=>(Em 1 c7).bind fun h=>(Em 6 c8).bind fun i=>(Em 7 c9).bind fun j=>some (a,b,c,d,e,f,g,h,i,j)
 | _=>none
theorem Vx {d:D}{x:jRj}(h:Vy d=some x):d=Vn x:=by
 unfold Vy at h;split at h;case h_2=>cases h
 obtain⟨w,m,h⟩:=ZX h;obtain⟨y,n,h⟩:=ZX h;obtain⟨z,o,h⟩:=ZX h;obtain⟨A,p,h⟩:=ZX h;obtain⟨C,q,h⟩:=ZX h;obtain⟨E,r,h⟩:=ZX h;obtain⟨F,s,h⟩:=ZX h;obtain⟨G,t,h⟩:=ZX h;obtain⟨H,u,h⟩:=ZX h;obtain⟨J,v,h⟩:=ZX h;cases h;have a:=WS m;have b:=WS n;have c:=KG o;have e:=KG p;have f:=WS q;have g:=WS r;have i:=WS s;have j:=J7 t;have k:=J7 u;have l:=J7 v;rw[a,b,c,e,f,g,i,j,k,l];rfl
def ZT:Option D->Bool
 | some (.agg [.v (.int .i64 0),.v (.int .i64 0),.v (.bool false),.v (.bool false),.v (.int .i64 0),.v (.int .i64 0),.v (.int .i64 0),.lst true 0 [],.lst true 0 [],.lst true 0 []])=>true
 | _=>false
theorem Uu {o:Option D}(h:ZT o=true):o=some (jZj):=by
 unfold ZT at h;split at h
 ·rfl
 ·cases h
def Zh (n:Nat)(g:jVj)(c:(Unit)⊕jVj×jVj×Int):Option ((Unit⊕jVj×jVj×Int)⊕Int×Int⊕Unit⊕jVj×jVj):=match c with|(.inl c)=>(if 0<((g).length:Int) then(el Ze g 0).bind fun a=>(WV n a.1 a.2.1 a.2.2.1 a.2.2.2.1 a.2.2.2.2).bind fun f=>if f=0 then if a.1=1 then if(a.2.1.toList==(⟨#[117,110,100,111]⟩:jSj).toList)=true then some (.inr (.inl (1,12))) else(QZ n 0 0 false false 0 0 0 ([]) ([]) ([]) a.1 a.2.1 a.2.2.1 a.2.2.2.1 a.2.2.2.2).bind fun d=>if d.2.2.2.2.2.2.2.2.2.2=0 then some (.inl (.inr ([.agg [I a.1,.v (.string a.2.1),.lst false 1 a.2.2.1,.lst false 1 a.2.2.2.1,.v (.string a.2.2.2.2)]],[jZj,.agg [I d.1,I d.2.1,B d.2.2.1,B d.2.2.2.1,I d.2.2.2.2.1,I d.2.2.2.2.2.1,I d.2.2.2.2.2.2.1,.lst false 1 d.2.2.2.2.2.2.2.1,.lst false 6 d.2.2.2.2.2.2.2.2.1,.lst false 7 d.2.2.2.2.2.2.2.2.2.1]],1))) else some (.inr (.inl (1,d.2.2.2.2.2.2.2.2.2.2))) else some (.inr (.inl (1,11))) else some (.inr (.inl (1,f))) else some (.inr (.inr (.inl ()))))|.inr c=>(if c.2.2<((g).length:Int) then(el Ze g c.2.2).bind fun a=>(WV n a.1 a.2.1 a.2.2.1 a.2.2.2.1 a.2.2.2.2).bind fun f=>if f=0 then if Qh (c.2.2+1) then if a.1=(c.2.2+1) then if(a.2.1.toList==(⟨#[117,110,100,111]⟩:jSj).toList)=true then if((c.1).length:Int)=0 then some (.inr (.inl ((c.2.2+1),12))) else if Qh (((c.1).length:Int) - 1) then(el Ze c.1 (((c.1).length:Int) - 1)).bind fun b=>if(b.2.1.toList==(⟨#[100,101,108,105,118,101,114]⟩:jSj).toList)=true then some (.inr (.inl ((c.2.2+1),21))) else if(b.2.1.toList==(⟨#[98,105,108,108]⟩:jSj).toList)=true then some (.inr (.inl ((c.2.2+1),21))) else if(0:Int)<=0/\0<=(((c.1).length:Int) - 1)/\(((c.1).length:Int) - 1)<=((c.1).length:Int)/\(c.1=[]\/5=5) then if(0:Int)<=0/\0<=((c.1).length:Int)/\((c.1).length:Int)<=((c.2.1).length:Int)/\(c.2.1=[]\/10=10) then some (.inl (.inr (((c.1.take (Int.toNat (((c.1).length:Int) - 1))).drop (Int.toNat 0)),((c.2.1.take (Int.toNat ((c.1).length:Int))).drop (Int.toNat 0)),(c.2.2+1)))) else none else none else none else if ZT (nth (c.2.1) (Int.toNat ((c.1).length:Int)))=true then if(0:Int)<=((c.1).length:Int) then(QZ n 0 0 false false 0 0 0 ([]) ([]) ([]) a.1 a.2.1 a.2.2.1 a.2.2.2.1 a.2.2.2.2).bind fun b=>if b.2.2.2.2.2.2.2.2.2.2=0 then if Wa 88 (0+(c.1).length) then if Wa 88 ((c.1).length+1) then if Wa 120 (0+(c.2.1).length) then if Wa 120 ((c.2.1).length+1) then some (.inl (.inr ((c.1++([.agg [I a.1,.v (.string a.2.1),.lst false 1 a.2.2.1,.lst false 1 a.2.2.2.1,.v (.string a.2.2.2.2)]]:jVj)),(c.2.1++([.agg [I b.1,I b.2.1,B b.2.2.1,B b.2.2.2.1,I b.2.2.2.2.1,I b.2.2.2.2.2.1,I b.2.2.2.2.2.2.1,.lst false 1 b.2.2.2.2.2.2.2.1,.lst false 6 b.2.2.2.2.2.2.2.2.1,.lst false 7 b.2.2.2.2.2.2.2.2.2.1]]:jVj)),(c.2.2+1)))) else none else none else none else none else some (.inr (.inl ((c.2.2+1),b.2.2.2.2.2.2.2.2.2.2))) else none else(el Vy c.2.1 ((c.1).length:Int)).bind fun e=>(QZ n e.1 e.2.1 e.2.2.1 e.2.2.2.1 e.2.2.2.2.1 e.2.2.2.2.2.1 e.2.2.2.2.2.2.1 e.2.2.2.2.2.2.2.1 e.2.2.2.2.2.2.2.2.1 e.2.2.2.2.2.2.2.2.2 a.1 a.2.1 a.2.2.1 a.2.2.2.1 a.2.2.2.2).bind fun b=>if b.2.2.2.2.2.2.2.2.2.2=0 then if Wa 88 (0+(c.1).length) then if Wa 88 ((c.1).length+1) then if Wa 120 (0+(c.2.1).length) then if Wa 120 ((c.2.1).length+1) then some (.inl (.inr ((c.1++([.agg [I a.1,.v (.string a.2.1),.lst false 1 a.2.2.1,.lst false 1 a.2.2.2.1,.v (.string a.2.2.2.2)]]:jVj)),(c.2.1++([.agg [I b.1,I b.2.1,B b.2.2.1,B b.2.2.2.1,I b.2.2.2.2.1,I b.2.2.2.2.2.1,I b.2.2.2.2.2.2.1,.lst false 1 b.2.2.2.2.2.2.2.1,.lst false 6 b.2.2.2.2.2.2.2.2.1,.lst false 7 b.2.2.2.2.2.2.2.2.2.1]]:jVj)),(c.2.2+1)))) else none else none else none else none else some (.inr (.inl ((c.2.2+1),b.2.2.2.2.2.2.2.2.2.2))) else some (.inr (.inl ((c.2.2+1),11))) else none else if Qh (c.2.2+1) then some (.inr (.inl ((c.2.2+1),f))) else none else some (.inr (.inr (.inr (c.1,c.2.1)))))
noncomputable def ES (a:jVj):Lp (Unit⊕jVj×jVj×Int) (Int×Int⊕Unit⊕jVj×jVj):=⟨fun
 | (.inl sa)=>[(0,.d (.lst false 5 a)),(6,.d (.lst true 0 [])),(7,.d (.lst true 10 [jZj])),(8,.d (I 0))]
 | (.inr sa)=>[(0,.d (.lst false 5 a)),(6,.d (.lst false 5 sa.1)),(7,.d (.lst false 10 sa.2.1)),(8,.d (I sa.2.2))],fun _=>[],fun
 | (.inl e)=>.ret
 | (.inr (.inl e))=>(.exit 0)
 | (.inr (.inr e))=>(.exit 0),fun
 | (.inl e)=>[(2,.d (.lst true 0 [])),(3,.d (.lst true 0 [])),(4,.d (I e.1)),(5,.d (I e.2))]
 | (.inr (.inl e))=>[(6,.d (.lst true 0 [])),(7,.d (.lst true 10 [jZj]))]
 | (.inr (.inr e))=>[(6,.d (.lst false 5 e.1)),(7,.d (.lst false 10 e.2))],fun _=>[]⟩
theorem YS {n k}(j)(r)(h:Zh n k j=some r):Rl (ZJ cx.P 72 0) 113 0 false (ES k) j r:=by
 unfold Zh at h;obtain j|j:=j
 ·obtain⟨f,h⟩|⟨f,h⟩:=io h
  ·have⟨ta2,ha2,h⟩:=bo h;have⟨ta3,ha3,h⟩:=bo h;have q:=Qa (K7 ha3) (allE Ql ha2 (Qa (jDj f) QL));let o(l:jOj):=b1::.el (QP ta2)::.ret (I ta3)::l;obtain⟨b,h⟩|⟨b,h⟩:=io h
   ·have q:=Qa ((by unfold Qh;omega):Qh 1) (allE Ql ha2 (Qa (eqt b) q));let o l:=o (b1::.el (QP ta2)::l);obtain⟨c,h⟩|⟨c,h⟩:=io h
    ·have q:=allE Ql ha2 (Qa (eqt b) (Qa (nef c) q));let o l:=o (b0::b1::.el (QP ta2)::l);obtain⟨g,h⟩|⟨g,h⟩:=io h
     ·cases h;exact rx 12 (o [b1,.no,.no,.no]) [] [2,3,4,5] [] (Qa ((by unfold Qh;omega):Qh 1) (Qa g q))
     have⟨ta7,i,h⟩:=bo h;have q:=Qa (((J0 i).le (.cons (.aggs (.cons (.refl _) (.cons (.refl _) (.cons (.refl _) (.cons (.refl _) (.cons (.refl _) (.cons (.refl _) (.cons (.refl _) (.cons (.nilF) (.cons (.nilF) (.cons (.nilF) (.nil)))))))))))) (.cons (.refl _) (.nil))) (.refl _)):Computes cx 119 [jZj,.agg [I ta2.1,.v (.string ta2.2.1),.lst false 1 ta2.2.2.1,.lst false 1 ta2.2.2.2.1,.v (.string ta2.2.2.2.2)]] (.tup [.agg [I ta7.1,I ta7.2.1,B ta7.2.2.1,B ta7.2.2.2.1,I ta7.2.2.2.2.1,I ta7.2.2.2.2.2.1,I ta7.2.2.2.2.2.2.1,.lst false 1 ta7.2.2.2.2.2.2.2.1,.lst false 6 ta7.2.2.2.2.2.2.2.2.1,.lst false 7 ta7.2.2.2.2.2.2.2.2.2.1],I ta7.2.2.2.2.2.2.2.2.2.2])) (allE Ql ha2 (Qa (eqt b) (Qa (QA g) q)));let o l:=o (b0::b1::.no::.el (QP ta2)::.ret (.tup [.agg [I ta7.1,I ta7.2.1,B ta7.2.2.1,B ta7.2.2.2.1,I ta7.2.2.2.2.1,I ta7.2.2.2.2.2.1,I ta7.2.2.2.2.2.2.1,.lst false 1 ta7.2.2.2.2.2.2.2.1,.lst false 6 ta7.2.2.2.2.2.2.2.2.1,.lst false 7 ta7.2.2.2.2.2.2.2.2.2.1],I ta7.2.2.2.2.2.2.2.2.2.2])::l);obtain⟨e,h⟩|⟨e,h⟩:=io h
     ·cases h;exact rn 12 (o [b0,.no,.no,.el (QP ta2),.no,.no,.ix 0,.ix (-8),.no,.no,.ix (-7)]) [] [0,6,7,8] [] (Qa ((by unfold Qh;omega):Qh 1) (allE Ql ha2 (Qa (nef e) q)))
     cases h;exact rx 12 (o [b1]) [] [2,3,4,5] [] (Qa ((by unfold Qh;omega):Qh 1) (Qa (net e) q))
    cases h;exact rx 12 (o [b1,.no,.no,.no,.no]) [] [2,3,4,5] [] (Qa ((by unfold Qh;omega):Qh 1) (Qa (net c) q))
   cases h;exact rx 12 (o [b0,.no,b0,.no,b0,b1]) [] [2,3,4,5] [] (Qa ((by unfold Qh;omega):Qh 1) (Qa (net b) (Qa (eqf b) (Qa (eqf b) (Qa (eqf b) q)))))
  cases h;exact rx 12 [b0] [] [6,7] [] (Qa (jEj f) QL)
 ·obtain⟨f,h⟩|⟨f,h⟩:=io h
  ·have⟨ta2,ha2,h⟩:=bo h;have⟨ta3,ha3,h⟩:=bo h;have q:=Qa (K7 ha3) (allE Ql ha2 (Qa (jDj f) QL));let o(l:jOj):=b1::.el (QP ta2)::.ret (I ta3)::l;obtain⟨b,h⟩|⟨b,h⟩:=io h
   ·have⟨c,h⟩:=gd h;have q:=Qa c (allE Ql ha2 (Qa (eqt b) q));let o l:=o (b1::.el (QP ta2)::l);obtain⟨g,h⟩|⟨g,h⟩:=io h
    ·have q:=allE Ql ha2 (Qa (eqt b) (Qa (nef g) q));let o l:=o (b0::b1::.el (QP ta2)::l);obtain⟨i,h⟩|⟨i,h⟩:=io h
     ·have q:=Qa i q;obtain⟨e,h⟩|⟨e,h⟩:=io h
      ·cases h;exact rx 12 (o [b1,b1,.no,.no]) [] [2,3,4,5] [] (Qa c (Qa (eqt e) q))
      have⟨ha9,h⟩:=gd h;have⟨ta10,ha10,h⟩:=bo h;have q:=allE Ql ha10 (Qa ha9 (Qa (eqf e) q));let o l:=o (b1::b0::.el (QP ta10)::l);obtain⟨a,h⟩|⟨a,h⟩:=io h
      ·cases h;exact rx 12 (o [b1,.no,.no,.no]) [] [2,3,4,5] [] (Qa c (Qa a q))
      have q:=allE Ql ha10 (Qa ha9 (Qa (QA a) q));let o l:=o (b0::.el (QP ta10)::l);obtain⟨d,h⟩|⟨d,h⟩:=io h
      ·cases h;exact rx 12 (o [b1,.no,.no]) [] [2,3,4,5] [] (Qa c (Qa d q))
      have⟨ha13,h⟩:=gd h;have⟨ha14,h⟩:=gd h;cases h;exact rn 12 (o [b0,b1,b1]) [] [0,6,7,8] [] (Qa c (Qa ha14 (Qa ha13 (Qa ha9 (Qa (QA d) q)))))
     have q:=Qa (eqt b) (Qa (QA i) q);let o l:=o (b0::b1::l);obtain⟨e,h⟩|⟨e,h⟩:=io h
     ·have⟨ha9,h⟩:=gd h;have⟨ta10,ha10,h⟩:=bo h;have q:=Qa (((J0 ha10).le (.cons (.aggs (.cons (.refl _) (.cons (.refl _) (.cons (.refl _) (.cons (.refl _) (.cons (.refl _) (.cons (.refl _) (.cons (.refl _) (.cons (.nilF) (.cons (.nilF) (.cons (.nilF) (.nil)))))))))))) (.cons (.refl _) (.nil))) (.refl _)):Computes cx 119 [jZj,.agg [I ta2.1,.v (.string ta2.2.1),.lst false 1 ta2.2.2.1,.lst false 1 ta2.2.2.2.1,.v (.string ta2.2.2.2.2)]] (.tup [.agg [I ta10.1,I ta10.2.1,B ta10.2.2.1,B ta10.2.2.2.1,I ta10.2.2.2.2.1,I ta10.2.2.2.2.2.1,I ta10.2.2.2.2.2.2.1,.lst false 1 ta10.2.2.2.2.2.2.2.1,.lst false 6 ta10.2.2.2.2.2.2.2.2.1,.lst false 7 ta10.2.2.2.2.2.2.2.2.2.1],I ta10.2.2.2.2.2.2.2.2.2.2])) (allE Ql ha2 (Qa ha9 (Qa ((Uu e):nth (j.2.1) (Int.toNat ((j.1).length:Int))=some jZj) q)));let o l:=o (.el (jZj)::.el (QP ta2)::.ret (.tup [.agg [I ta10.1,I ta10.2.1,B ta10.2.2.1,B ta10.2.2.2.1,I ta10.2.2.2.2.1,I ta10.2.2.2.2.2.1,I ta10.2.2.2.2.2.2.1,.lst false 1 ta10.2.2.2.2.2.2.2.1,.lst false 6 ta10.2.2.2.2.2.2.2.2.1,.lst false 7 ta10.2.2.2.2.2.2.2.2.2.1],I ta10.2.2.2.2.2.2.2.2.2.2])::l);obtain⟨a,h⟩|⟨a,h⟩:=io h
      ·have⟨d,h⟩:=gd h;have⟨ha13,h⟩:=gd h;have⟨ha14,h⟩:=gd h;have⟨ha15,h⟩:=gd h;cases h;exact rn 12 (o [b0,.ix (-8),b1,.el (QP ta2),b1,.ix (-7),.ix (-8),b1,b1,.ix (-7)]) [] [0,6,7,8] [] (Qa c (Qa (ro 37 ha15) (Qa (ro 37 ha14) (Qa (ro 65 ha13) (allE Ql ha2 (Qa (ro 65 d) (Qa (nef a) q)))))))
      cases h;exact rx 12 (o [b1]) [] [2,3,4,5] [] (Qa c (Qa (net a) q))
     have⟨ta9,ha9,h⟩:=bo h;have⟨ta10,ha10,h⟩:=bo h;have q:=Qa (J0 ha10) (allE Ql ha2 (allE Vx ha9 q));let o l:=o (.el (Vn ta9)::.el (QP ta2)::.ret (.tup [.agg [I ta10.1,I ta10.2.1,B ta10.2.2.1,B ta10.2.2.2.1,I ta10.2.2.2.2.1,I ta10.2.2.2.2.2.1,I ta10.2.2.2.2.2.2.1,.lst false 1 ta10.2.2.2.2.2.2.2.1,.lst false 6 ta10.2.2.2.2.2.2.2.2.1,.lst false 7 ta10.2.2.2.2.2.2.2.2.2.1],I ta10.2.2.2.2.2.2.2.2.2.2])::l);obtain⟨a,h⟩|⟨a,h⟩:=io h
     ·have⟨d,h⟩:=gd h;have⟨ha13,h⟩:=gd h;have⟨ha14,h⟩:=gd h;have⟨ha15,h⟩:=gd h;cases h;exact rn 12 (o [b0,.ix (-8),b1,.el (QP ta2),b1,.ix (-7),.ix (-8),b1,b1,.ix (-7)]) [] [0,6,7,8] [] (Qa c (Qa (ro 37 ha15) (Qa (ro 37 ha14) (Qa (ro 65 ha13) (allE Ql ha2 (Qa (ro 65 d) (Qa (nef a) q)))))))
     cases h;exact rx 12 (o [b1]) [] [2,3,4,5] [] (Qa c (Qa (net a) q))
    cases h;exact rx 12 (o [b1,.no,.no,.no,.no]) [] [2,3,4,5] [] (Qa c (Qa (net g) q))
   have⟨c,h⟩:=gd h;cases h;exact rx 12 (o [b0,.no,b0,.no,b0,b1]) [] [2,3,4,5] [] (Qa c (Qa (net b) (Qa (eqf b) (Qa (eqf b) (Qa (eqf b) q)))))
  cases h;exact rx 12 [b0] [] [6,7] [] (Qa (jEj f) QL)
def V1 (n:Nat)(b:jVj):Option (jVj×jVj×Int×Int) := if((b).length:Int)>1000 then some ([],[],0,5) else(Q2 (Zh n b) n (.inl ())).bind fun a=>match a with|.inl a=>(some ([],[],a.1,a.2))|(.inr (.inl a))=>(some ([],[jZj],0,0))|(.inr (.inr a))=>(some (a.1,a.2,0,0))
theorem zV {n c r}(h:V1 n c=some r):Computes cx 72 [.lst false 5 c] (.tup [.lst false 5 r.1,.lst false 10 r.2.1,I r.2.2.1,I r.2.2.2]):=by
 unfold V1 at h;obtain⟨b,h⟩|⟨b,h⟩:=io h
 ·cases h;exact(rf (r:=.tup [.lst true 0 [],.lst true 0 [],I 0,I 5]) [b1] (Qa (jDj b) QL)).le (LEs.refl _) (.tups (.cons (.nilF) (.cons (.nilF) (.cons (.refl _) (.cons (.refl _) (.nil))))))
 have q:=Qa (jEj b) QL;have⟨a,h2,h⟩:=bo h;obtain a|a|a:=a
 ·cases h;exact(rf (r:=.tup [.lst true 0 [],.lst true 0 [],I a.1,I a.2]) [b0,.lp [] [0,6,7,8] [] .ret [(2,.d (.lst true 0 [])),(3,.d (.lst true 0 [])),(4,.d (I a.1)),(5,.d (I a.2))] [] 97] (Qa (QH YS h2) q)).le (LEs.refl _) (.tups (.cons (.nilF) (.cons (.nilF) (.cons (.refl _) (.cons (.refl _) (.nil))))))
 ·cases h;exact(rf (r:=.tup [.lst true 0 [],.lst true 10 [jZj],I 0,I 0]) [b0,.lp [] [0,6,7,8] [] (.exit 0) [(6,.d (.lst true 0 [])),(7,.d (.lst true 10 [jZj]))] [] 97] (Qa (QH YS h2) q)).le (LEs.refl _) (.tups (.cons (.nilF) (.cons (.full _ _ _) (.cons (.refl _) (.cons (.refl _) (.nil))))))
 cases h;exact rf [b0,.lp [] [0,6,7,8] [] (.exit 0) [(6,.d (.lst false 5 a.1)),(7,.d (.lst false 10 a.2))] [] 97] (Qa (QH YS h2) q)
def Vo (n:Nat)(c:jVj):Option (Int×Int×Bool×Bool×Int×Int×Int×jVj×jVj×jVj×Int×Int) := (V1 n c).bind fun b=>if b.2.2.2=0 then if Qh (((b.2.1).length:Int) - 1) then if ZT (nth (b.2.1) (Int.toNat (((b.2.1).length:Int) - 1)))=true then if(0:Int)<=(((b.2.1).length:Int) - 1) then some (0,0,false,false,0,0,0,[],[],[],0,0) else none else(el Vy b.2.1 (((b.2.1).length:Int) - 1)).bind fun a=>some (a.1,a.2.1,a.2.2.1,a.2.2.2.1,a.2.2.2.2.1,a.2.2.2.2.2.1,a.2.2.2.2.2.2.1,a.2.2.2.2.2.2.2.1,a.2.2.2.2.2.2.2.2.1,a.2.2.2.2.2.2.2.2.2,0,0) else none else some (0,0,false,false,0,0,0,[],[],[],b.2.2.1,b.2.2.2)
theorem je {n b r}(h:Vo n b=some r):Computes cx 18 [.lst false 5 b] (.tup [.agg [I r.1,I r.2.1,B r.2.2.1,B r.2.2.2.1,I r.2.2.2.2.1,I r.2.2.2.2.2.1,I r.2.2.2.2.2.2.1,.lst false 1 r.2.2.2.2.2.2.2.1,.lst false 6 r.2.2.2.2.2.2.2.2.1,.lst false 7 r.2.2.2.2.2.2.2.2.2.1],I r.2.2.2.2.2.2.2.2.2.2.1,I r.2.2.2.2.2.2.2.2.2.2.2]):=by
 unfold Vo at h;have⟨t1,h1,h⟩:=bo h;have q:=Qa (zV h1) QL;let o(l:jOj):=.ret (.tup [.lst false 5 t1.1,.lst false 10 t1.2.1,I t1.2.2.1,I t1.2.2.2])::l;obtain⟨a,h⟩|⟨a,h⟩:=io h
 ·have⟨h3,h⟩:=gd h;have q:=Qa h3 (Qa (nef a) q);obtain⟨c,h⟩|⟨c,h⟩:=io h
  ·have⟨h5,h⟩:=gd h;cases h;exact(rf (r:=.tup [jZj,I 0,I 0]) (o [b0,.el (jZj)]) (Qa h5 (Qa ((Uu c):nth (t1.2.1) (Int.toNat (((t1.2.1).length:Int) - 1))=some jZj) q))).le (LEs.refl _) (.tups (.cons (.aggs (.cons (.refl _) (.cons (.refl _) (.cons (.refl _) (.cons (.refl _) (.cons (.refl _) (.cons (.refl _) (.cons (.refl _) (.cons (.nilF) (.cons (.nilF) (.cons (.nilF) (.nil)))))))))))) (.cons (.refl _) (.cons (.refl _) (.nil)))))
  have⟨t5,h5,h⟩:=bo h;cases h;exact rf (o [b0,.el (Vn t5)]) (allE Vx h5 q)
 cases h;exact(rf (r:=.tup [jZj,I t1.2.2.1,I t1.2.2.2]) (o [b1]) (Qa (net a) q)).le (LEs.refl _) (.tups (.cons (.aggs (.cons (.refl _) (.cons (.refl _) (.cons (.refl _) (.cons (.refl _) (.cons (.refl _) (.cons (.refl _) (.cons (.refl _) (.cons (.nilF) (.cons (.nilF) (.cons (.nilF) (.nil)))))))))))) (.cons (.refl _) (.cons (.refl _) (.nil)))))
def Wd (n:Nat)(d e:jVj)(a:Int):Option (Int⊕Unit⊕Unit) := if a<((d).length:Int) then(el Ww d a).bind fun b=>(el Ww e a).bind fun c=>if(!(b.toList==c.toList))=true then some (.inr (.inl ())) else if Qh (a+1) then some (.inl (a+1)) else none else some (.inr (.inr ()))
noncomputable def XA (a b:jVj):Lp (Int) (Unit⊕Unit):=⟨fun c=>[(0,.d (.lst false 1 a)),(1,.d (.lst false 1 b)),(5,.d (I c))],fun _=>[],fun
 | (.inl e)=>.ret
 | (.inr e)=>(.exit 0),fun
 | (.inl e)=>[(4,.d (B false))]
 | (.inr e)=>[],fun _=>[]⟩
theorem U6 {n c d}(e)(r)(h:Wd n c d e=some r):Rl (ZJ cx.P 25 0) 26 0 false (XA c d) e r:=by
 unfold Wd at h;obtain⟨a,h⟩|⟨a,h⟩:=io h
 ·have⟨ta2,ha2,h⟩:=bo h;have⟨ta3,ha3,h⟩:=bo h;have q:=allE Qr ha3 (allE Qr ha2 (Qa (jDj a) QL));let o(l:jOj):=b1::.el (Zy ta2)::.el (Zy ta3)::l;obtain⟨b,h⟩|⟨b,h⟩:=io h
  ·cases h;exact rx 7 (o [b1]) [] [4] [] (Qa b q)
  have⟨ha5,h⟩:=gd h;cases h;exact rn 7 (o [b0]) [] [0,1,5] [] (Qa ha5 (Qa (QA b) q))
 cases h;exact rx 7 [b0] [] [] [] (Qa (jEj a) QL)
def Z5 (n:Nat)(b c:jVj):Option (Bool) := if((b).length:Int)=((c).length:Int) then(Q2 (Wd n b c) n 0).bind fun a=>match a with|.inl a=>(some false)|.inr a=>(some true) else some false
theorem V9 {n c e r}(h:Z5 n c e=some r):Computes cx 25 [.lst false 1 c,.lst false 1 e] (B r):=by
 unfold Z5 at h;obtain⟨a,h⟩|⟨a,h⟩:=io h
 ·have q:=Qa (nef a) QL;have⟨b,h2,h⟩:=bo h;obtain b|b:=b
  ·obtain rfl:=oi h;exact rf [b0,.lp [] [0,1,5] [] .ret [(4,.d (B false))] [] 34] (Qa (QH U6 h2) q)
  obtain rfl:=oi h;exact rf [b0,.lp [] [0,1,5] [] (.exit 0) [] [] 34] (Qa (QH U6 h2) q)
 obtain rfl:=oi h;exact rf [b1] (Qa (net a) QL)
def Vu (n:Nat)(d:jSj)(g h:jVj)(i j:Int)(k l:Bool)(m o p:Int)(e b f:jVj)(a:(Int×Int×Int)):Option (Int×Int×Int⊕Int×Int) := if a.1<((b).length:Int) then if 0<=a.1/\a.1<((b).length:Int) then((nth (b) (Int.toNat a.1)).bind QM).bind fun c=>if(!(c.2.1.toList==d.toList))=true then if Qh (a.1+1) then some (.inl ((a.1+1),a.2.1,a.2.2)) else none else if Qh (a.2.1+1) then if c.2.2.2.2.2=true then if Qh (a.2.2+1) then if Qh (a.1+1) then some (.inl ((a.1+1),(a.2.1+1),(a.2.2+1))) else none else none else if Qh (a.1+1) then some (.inl ((a.1+1),(a.2.1+1),a.2.2)) else none else none else none else some (.inr (a.2.1,a.2.2))
noncomputable def Jt (p:jSj)(g h:jVj)(i j:Int)(k l:Bool)(m n o:Int)(b a c:jVj):Lp (Int×Int×Int) (Int×Int):=⟨fun f=>[(1,.d (.v (.string p))),(4,.ptr 13 0 0 0 0),(5,.ptr 14 0 0 0 0),(11,.own 11 0),(12,.d (I ((a).length:Int))),(13,.d (I f.1))],fun f=>[(0,.box (.agg [.own 1 0,.own 2 0,.d (I i),.d (I j),.d (B k),.d (B l),.d (I m),.d (I n),.d (I o),.own 10 0,.own 11 0,.own 12 0])),(1,.row 0 5 g),(2,.row 0 5 h),(10,.row 0 1 b),(11,.row 0 6 a),(12,.row 0 7 c),(13,.box (.d (.agg [I 0,I 0]))),(14,.box (.d (.agg [I f.2.1,I f.2.2])))],fun _=>(.exit 0),fun _=>[(4,.ptr 13 0 0 0 0),(5,.ptr 14 0 0 0 0)],fun e=>[(0,.box (.agg [.own 1 0,.own 2 0,.d (I i),.d (I j),.d (B k),.d (B l),.d (I m),.d (I n),.d (I o),.own 10 0,.own 11 0,.own 12 0])),(1,.row 0 5 g),(2,.row 0 5 h),(10,.row 0 1 b),(11,.row 0 6 a),(12,.row 0 7 c),(13,.box (.d (.agg [I 0,I 0]))),(14,.box (.d (.agg [I e.1,I e.2])))]⟩
theorem Jp {n g i j k m p s t u v d e f}(w)(r)(h:Vu n g i j k m p s t u v d e f w=some r):Rl (ZJ cx.P 76 0) 33 13 false (Jt g i j k m p s t u v d e f) w r:=by
 unfold Vu at h;obtain⟨a,h⟩|⟨a,h⟩:=io h
 ·have⟨ha2,h⟩:=gd h;have⟨ta3,ha3,h⟩:=bo h;have q:=Qa (QX Qq ha3) (Qa ha2 (Qa (jDj a) QL));let o(l:jOj):=b1::b1::.el (QB ta3)::l;obtain⟨b,h⟩|⟨b,h⟩:=io h
  ·have⟨ha5,h⟩:=gd h;cases h;exact rn 21 (o [b1]) [] [1,4,5,11,12,13] [0,1,2,10,11,12,13,14] (Qa ha5 (Qa b q))
  have⟨ha5,h⟩:=gd h;have q:=Qa ha5 (Qa (QA b) q);obtain⟨c,h⟩|⟨c,h⟩:=io h
  ·have⟨ha7,h⟩:=gd h;have⟨ha8,h⟩:=gd h;cases h;exact rn 21 (o [b0,b1]) [] [1,4,5,11,12,13] [0,1,2,10,11,12,13,14] (Qa ha8 (Qa ha7 (Qa c q)))
  have⟨ha7,h⟩:=gd h;cases h;exact rn 21 (o [b0,b0]) [] [1,4,5,11,12,13] [0,1,2,10,11,12,13,14] (Qa ha7 (Qa (QA c) q))
 cases h;exact rx 21 [b0] [] [4,5] [0,1,2,10,11,12,13,14] (Qa (jEj a) QL)
def VV (n:Nat)(e:jSj)(f g:jVj)(h i:Int)(j k:Bool)(l m o:Int)(a b c:jVj):Option (Int×Int) := (Q2 (Vu n e f g h i j k l m o a b c) n (0,0,0)).bind fun d=>some (d.1,d.2)
theorem GU {n p e f g i j k l m o a b c r}(h:VV n p e f g i j k l m o a b c=some r):ComputesO cx 76 [.ptr 0 0 0 0 2,.d (.v (.string p))] (some (Qb e f g i j k l m o a b c)) (.d (.agg [I r.1,I r.2])) (Qb e f g i j k l m o a b c) ZV:=by unfold VV at h;have⟨t1,h1,h⟩:=bo h;cases h;exact rfO 0 [.lp [] [1,4,5,11,12,13] [0,1,2,10,11,12,13,14] (.exit 0) [(4,.ptr 13 0 0 0 0),(5,.ptr 14 0 0 0 0)] [(0,.box (.agg [.own 1 0,.own 2 0,.d (I g),.d (I i),.d (B j),.d (B k),.d (I l),.d (I m),.d (I o),.own 10 0,.own 11 0,.own 12 0])),(1,.row 0 5 e),(2,.row 0 5 f),(10,.row 0 1 a),(11,.row 0 6 b),(12,.row 0 7 c),(13,.box (.d (.agg [I 0,I 0]))),(14,.box (.d (.agg [I t1.1,I t1.2])))] 55] (Qa (QH Jp h1) QL)
end Go.Proofs.YtljabneifpkbjaaGreatDoor
