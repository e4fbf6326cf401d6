/- Own texts. -/
import Derived.Test.YtabbjgnpiijghaaGreatDoorProg
import Derived.Test.YtabbjgnpiijghaaGreatDoorSxTwentyEight
import Derived.KernelRfl
import Derived.Below
import Derived.Lib.LaidTab
import Derived.Lib.ItoaNum
import GoSem.ClaimChange
import Derived.ProofKit
import Derived.OpenShut
import Derived.WideShapes
import Derived.ChangeStays
import Derived.ChangeSame
import Derived.Deep.DeepHandedRow
set_option linter.unusedSimpArgs false
set_option linter.unusedVariables false
set_option linter.unnecessarySimpa false
namespace Go.Proofs.YtabbjgnpiijghaaGreatDoor
open Go.SX Go.RowKit
def pow10D:D:=.agg (Lib.pow10Tab.map fun z=>.v (.int .u64 z))
noncomputable def cx:Cx:={ P:=Tryz.prog,G:=fun g=>match Nat.beq g 1 with
 | true=>some pow10D
 | false=>none }
theorem Qdt:(Tryz.prog.funcs.toList.all fun a=>!(a.body.isSome&&(a.name=="runtime.NumGoroutine")))=true:=by kernel_rfl
theorem noAsk:NoAsk cx:=Qcp _ _ Qdt
theorem wH:cx.P.follows .mixedOrders=true:=by kernel_rfl
theorem run {n:Nat}{f:FuncId}{a:jVj}{orc:List Orc}{r:D}{ob:List Prop}(h:ut true n cx f a orc=some (r,ob))(b:All ob):Computes cx f a r:=qh noAsk wH h b
theorem QcZ {n:Nat}{f:FuncId}{a:List AV}{i:Option (List OC)}{b:Nat}{ks:List Bool}{orc:List Orc}{r:AV}{cs:List OC}{ob:List Prop}(c:All ob)(h:Qcd n cx f a i b cs ks orc=some (r,cs,ob)):ComputesO cx f a i r cs ks:=Eb noAsk wH h c
theorem QH {S E:Type}{c:Code}{d vis:Nat}{rnd:Bool}{T:S->List (Nat×AV)}{H:S->List (Nat×Blk)}{X:E->Ex}{b:E->List (Nat×AV)}{a:E->List (Nat×Blk)}
  {step:S->Option (S⊕E)} (f:∀s r,step s=some r->Rd cx c d vis rnd T H X b a s r) {n:Nat} {s:S} {e:E} (h:Q2 step n s=some e):kZ cx c d vis rnd (T s) (H s) (X e) (b e) (a e):=uN noAsk wH f n s e h
theorem dr_v {w:World}{F:Nat->Prop}{x y:Value}(h:DR w F (.v x) y):y=x:=by cases h;rfl
theorem QbS {w w' : World}(h:Below w.heap.size w w'):Ext w (fun _=>False) w':=⟨h.os,h.tape,h.output,h.size,fun r a _=>h.block r a⟩
theorem str9:cx.P.underlying 9=some .string:=by kernel_rfl
theorem Zq {s:jSj}{i x:Int}(h:WQ s i=some x):QV cx.P (Instr.index 9 (.string s) (.int .i64 i))=some (.int .u8 x):=QbM str9 h
theorem QiU {s x:jSj}{lo hi:Option Int}(h:Qi7 s lo hi=some x):QV cx.P (Instr.sliceAt 9 (.string s) (lo.map (.int .i64)) (hi.map (.int .i64)) none)=some (.string x):=QmP str9 h
theorem bo {α a:Type}{x:Option α}{f:α->Option a}{r:a}(h:x.bind f=some r):∃t,x=some t/\f t=some r:=ZX h
theorem gd {α:Type}{p:Prop}[Decidable p]{x:Option α}{r:α}(h:(if p then x else none)=some r):p/\x=some r:=Qdz h
theorem it {α:Type}{p:Prop}[Decidable p]{x y:Option α}{r:α}(h:(if p then x else y)=some r)(hp:p):x=some r:=QdT h hp
theorem jf {α:Type}{p:Prop}[Decidable p]{x y:Option α}{r:α}(h:(if p then x else y)=some r)(hp:¬p):y=some r:=QdU h hp
theorem oi {α:Type}{a b:α}(h:some a=some b):a=b:=Option.some.inj h
abbrev Qr5 (s:jSj):D:=.v (.string s)
theorem leF {f:FuncId}{k:Nat}{l:jVj}{r:D}(h:Computes cx f [.lst false k l] r):Computes cx f [.lst true k l] r:=h.le (.cons (.full _ _ _) (.nil)) (.refl _)
inductive Kd
 | int (k:IntKind)
 | bool
 | str
 | flt (k:FloatKind)
 | lst (agg:Bool) (ks:List Kd)
mutual
def Kd.ok:Kd->D->Prop
 | .int k,d=>∃n,d=.v (.int k n)/\k.min<=n/\n<=k.max
 | .bool,d=>∃b,d=.v (.bool b)
 | .str,d=>∃s,d=.v (.string s)/\s.size<=maxLen
 | .flt k,d=>∃b,d=.v (.float k b)/\(Lit.float k b).wf=true
 | .lst agg ks,d=>∃es,d=.lst false ks.length es/\es.length<=maxLen/\∀e,e∈es->match agg with
  | true=>∃cs,e=.agg cs/\Kd.oks ks cs
  | false=>Kd.oks ks [e]
def Kd.oks:List Kd->jVj->Prop
 | [],ds=>ds=[]
 | k::ks,ds=>∃d r,ds=d::r/\Kd.ok k d/\Kd.oks ks r
end
def Xn (P:Program)(f:TypeId->Option (List Kd)):Nat->List Field->Option (List Kd)
 | _,[]=>some []
 | off,fd::l=>match f fd.type with
  | some ks=>match Nat.beq fd.offset off&&Nat.beq ks.length (P.cellsOf fd.type),Xn P f (off+ks.length) l with
   | true,some r=>some (ks++r)
   | _,_=>none
  | none=>none
def Uf (P:Program):Nat->TypeId->Option (List Kd)
 | 0,_=>none
 | n+1,t=>match P.underlying t with
  | some (.int k)=>some [.int k]
  | some .bool=>some [.bool]
  | some .string=>some [.str]
  | some (.float k)=>some [.flt k]
  | some (.slice e)=>match Uf P n e,P.underlying e with
   | some ks,some (.struct _)=>match Nat.beq ks.length (P.cellsOf e)&&Nat.blt 0 ks.length with
    | true=>some [.lst true ks]
    | false=>none
   | some ks,some (.array _ _)=>match Nat.beq ks.length (P.cellsOf e)&&Nat.blt 0 ks.length with
    | true=>some [.lst true ks]
    | false=>none
   | some ks,some _=>match Nat.beq ks.length (P.cellsOf e)&&Nat.beq 1 ks.length with
    | true=>some [.lst false ks]
    | false=>none
   | _,_=>none
  | some (.struct fs)=>match Xn P (Uf P n) 0 fs.toList with
   | some ks=>match Nat.beq ks.length (P.cellsOf t) with
    | true=>some ks
    | false=>none
   | none=>none
  | some (.array m e)=>match Uf P n e with
   | some ks=>match Nat.beq ks.length (P.cellsOf e)&&Nat.beq (m*ks.length) (P.cellsOf t) with
    | true=>some (List.replicate m ks).flatten
    | false=>none
   | none=>none
  | _=>none
def Reads (W:World):jVj->List Value->Prop
 | [],[]=>True
 | d::ds,v::vs=>(DR W (fun _=>False) d v/\one v=true)/\Reads W ds vs
 | _,_=>False
theorem Reads.append {W:World}:∀{a:jVj} {x:List Value} {b:jVj} {y:List Value},Reads W a x->Reads W b y->Reads W (a++b) (x++y)
 | [],[],_,_,_,h=>h
 | _::_,_::_,_,_,h,k=>⟨h.1,Reads.append h.2 k⟩
 | [],_::_,_,_,h,_=>h.elim
 | _::_,[],_,_,h,_=>h.elim
theorem Reads.len {W:World}:∀{a:jVj} {x:List Value},Reads W a x->a.length=x.length
 | [],[],_=>rfl
 | _::_,_::_,h=>by simp[Reads.len h.2]
 | [],_::_,h=>h.elim
 | _::_,[],h=>h.elim
theorem Reads.at {W:World}:∀{a:jVj} {x:List Value},Reads W a x->∀(i:Nat) (d:D) (v:Value),a[i]?=some d->x[i]?=some v->DR W (fun _=>False) d v/\one v=true
 | [],[],_,i,d,v,h,_=>by simp at h
 | _::_,_::_,hh,0,d,v,h,k=>by simp at h k;subst h;subst k;exact hh.1
 | _::_,_::_,hh,i+1,d,v,h,k=>Reads.at hh.2 i d v (by simpa using h) (by simpa using k)
 | [],_::_,h,_,_,_,_,_=>h.elim
 | _::_,[],h,_,_,_,_,_=>h.elim
theorem Ez:∀{a b:List Kd} {x y:jVj},Kd.oks a x->Kd.oks b y->Kd.oks (a++b) (x++y)
 | [],_,x,y,h,k=>by unfold Kd.oks at h;subst h;exact k
 | q::a,b,x,y,h,k=>by unfold Kd.oks at h;obtain⟨d,r,rfl,c,e⟩:=h;show Kd.oks (q::(a++b)) (d::(r++y));unfold Kd.oks;exact⟨d,r++y,rfl,c,Ez e k⟩
theorem Jw:∀{a:List Kd} {x:jVj},Kd.oks a x->x.length=a.length
 | [],x,h=>by unfold Kd.oks at h;subst h;rfl
 | q::a,x,h=>by unfold Kd.oks at h;obtain⟨d,r,rfl,c,b⟩:=h;simp[Jw b]
theorem Qc1 {k:Kd}{d:D}(h:Kd.ok k d):Kd.oks [k] [d]:=by unfold Kd.oks;exact⟨d,[],rfl,h,by unfold Kd.oks;rfl⟩
section
variable {H:Type}{enc:TypeId×Value->H}{P:Program}{W:World}{base:Nat}{sp:Nat->Bool}{held:Bool}
theorem qD {W:World}{k:Kd}{d:D}{v:Value}(b:Kd.ok k d)(c:DR W (fun _=>False) d v)(e:one v=true):∃a,Kd.oks [k] a/\Reads W a [v]:=⟨[d],Qc1 b,⟨c,e⟩,trivial⟩
theorem zH {f:TypeId->Option (List Kd)}{g:TypeId->List Value->Prop}(j:∀t cs ks,f t=some ks->g t cs->∃a,Kd.oks ks a/\Reads W a cs){cs:List Value} :
  ∀(i:List Field) (off:Nat) (ks:List Kd),Xn P f off i=some ks->(∀fd,fd∈i->g fd.type ((cs.drop fd.offset).take (P.cellsOf fd.type)))->cs.length=off+ks.length->∃a,Kd.oks ks a/\Reads W a (cs.drop off)
 | [],off,ks,h,_,hl=>by simp only[Xn,jIj] at h;subst h;refine⟨[],by unfold Kd.oks;rfl,?_⟩;rw[List.drop_eq_nil_of_le (by simp at hl;omega)];trivial
 | fd::l,off,ks,h,hg,hl=>by
  unfold Xn at h;split at h;case h_2=>cases h
  rename_i o e;split at h;case h_2=>cases h
  rename_i r d m;simp only[jIj] at h;subst h;simp only[jAj,Nat.beq_eq] at d;obtain⟨b,a1,b1⟩:=j _ _ _ e (hg fd jMj);rw[jaj] at hl;obtain⟨c,a2,k⟩:=zH j l (off+o.length) r m (fun x n=>hg x (jmj _ n)) (by omega);refine⟨b++c,Ez a1 a2,?_⟩;have:=b1.append k;rw[d.1,<-d.2,<-List.drop_drop,List.take_append_drop] at this;exact this
theorem wZ {ks:List Kd}{cs:List Value}{m:Nat}(f:∀i,i<m->∃a,Kd.oks ks a/\Reads W a ((cs.drop (i*ks.length)).take ks.length))(g:cs.length=m*ks.length) :
  ∀j,j<=m->∃a,Kd.oks (List.replicate j ks).flatten a/\Reads W a (cs.drop ((m - j)*ks.length))
 | 0,_=>by refine⟨[],by unfold Kd.oks;rfl,?_⟩;rw[List.drop_eq_nil_of_le (by simp[g])];trivial
 | j+1,hj=>by
  obtain⟨c,a2,d⟩:=wZ f g j (by omega);obtain⟨b,a1,b1⟩:=f (m - (j+1)) (by omega);refine⟨b++c,by rw[List.replicate_succ,List.flatten_cons];exact Ez a1 a2,?_⟩;have e:(m - j)*ks.length=(m - (j+1))*ks.length+ks.length:=by rw[show m - j=m - (j+1)+1 by omega,Nat.add_mul,Nat.one_mul]
  rw[e] at d;have:=b1.append d;rw[<-List.drop_drop,List.take_append_drop] at this;exact this
theorem qJ {α e:Type}{f:α->Option e}:∀{l:List α} {r:List e},l.mapM f=some r->∀a,a∈l->∃b,f a=some b
 | [],_,_,a,c=>by cases c
 | x::l,r,h,a,c=>by
  simp only[List.mapM_cons,Option.bind_eq_bind,Option.bind_eq_some_iff,Option.pure_def,jIj] at h;obtain⟨b,g,i,d,rfl⟩:=h;obtain rfl|c:=List.mem_cons.1 c
  ·exact⟨b,g⟩
  ·exact qJ d a c
theorem yg {a:Nat}{t:TypeId}{d:Array Field}{cs:List Value}{x:DataW H×List MemPlace}(g:P.underlying t=some (.struct d))(h:DataW.trod enc P W base sp held a t cs=some x) :
  ∃n,a=n+1/\cs.length=P.cellsOf t/\∀b,b∈d.toList->∃y,DataW.trod enc P W base sp held n b.type ((cs.drop b.offset).take (P.cellsOf b.type))=some y:=by
 cases a with
 | zero=>simp[DataW.trod] at h
 | succ n =>
  refine⟨n,rfl,?_⟩;simp only[DataW.trod,g] at h;split at h;case isFalse=>cases h
  rename_i e;simp only[Option.map_eq_some_iff] at h;obtain⟨r,f,_⟩:=h;exact⟨e,fun b c=>qJ f b c⟩
theorem uk {a:Nat}{t e:TypeId}{m:Nat}{cs:List Value}{x:DataW H×List MemPlace}(d:P.underlying t=some (.array m e))(h:DataW.trod enc P W base sp held a t cs=some x) :
  ∃n,a=n+1/\cs.length=P.cellsOf t/\∀i,i<m->∃y,DataW.trod enc P W base sp held n e ((cs.drop (i*P.cellsOf e)).take (P.cellsOf e))=some y:=by
 cases a with
 | zero=>simp[DataW.trod] at h
 | succ n =>
  refine⟨n,rfl,?_⟩;simp only[DataW.trod,d] at h;split at h;case isFalse=>cases h
  rename_i b;simp only[Option.map_eq_some_iff] at h;obtain⟨r,c,_⟩:=h;exact⟨b,fun i hi=>qJ c i (by simpa using hi)⟩
theorem uj {a:Nat}{t:TypeId}{k:FloatKind}{cs:List Value}{x:DataW H×List MemPlace}(c:P.underlying t=some (.float k))(h:DataW.trod enc P W base sp held a t cs=some x) :
  ∃b,cs=[.float k b]/\(Lit.float k b).wf=true:=by
 cases a with
 | zero=>simp[DataW.trod] at h
 | succ n =>
  unfold DataW.trod at h;rw[c] at h;split at h<;>simp_all
theorem Ep {agg:Bool}{ks:List Kd}{G:Nat}{t e:TypeId}{cs:List Value}{x:DataW H×List MemPlace}(ht:P.underlying t=some (.slice e))(h:DataW.trod enc P W base sp held G t cs=some x)
  (hk:ks.length=P.cellsOf e) (L:0<ks.length) (h1:agg=false->ks.length=1)
  (ih:∀(n:Nat) (c:List Value) (y:DataW H×List MemPlace),DataW.trod enc P W base sp held n e c=some y->∃f,Kd.oks ks f/\Reads W f c) :
  ∃f,Kd.oks [.lst agg ks] f/\Reads W f cs:=by
 obtain⟨rfl,_⟩|⟨a,len,cap,V,a6,n,_,rfl,_,hb,hl,hm,a5,a2,_,_⟩:=DataW.trod_slice ht h
 ·refine qD (d:=.lst false ks.length []) ?_ ?_ rfl
  ·unfold Kd.ok;exact⟨[],rfl,Nat.zero_le _,fun e l=>by cases l⟩
  ·exact .lst false ks.length [] none 0 0 0 (fun _=>.nilIface) (fun h=>by cases h) (jLj _) (fun h=>absurd rfl h) (by simp) (by simp) (by simp)
 ·have each:∀i,i<len->∃f c,Kd.oks ks f/\Reads W f c/\c.length=ks.length/\∀j,j<ks.length->W.cell? ((a.add (i*ks.length)).add j)=c[j]?:=by
   intro i hi;have X:=a2 i hi;rw[jej (by omega),<-hk] at X;rw[Option.bind_eq_some_iff] at X;obtain⟨c,hc,hy⟩:=X;obtain⟨f,T,U⟩:=ih _ _ _ hy;refine⟨f,c,T,U,by rw[<-U.len,Jw T],fun j p=>?_⟩;unfold World.cells? at hc;split at hc;case isFalse=>cases hc
   have a7:c.length=ks.length:=by rw[<-U.len,Jw T]
   obtain⟨b,a0,a1⟩:=Lib.mapM_at hc j j (by simp[p]);rw[a0,a1]
  let f (i:Nat):jVj:=if hi:i<len then Classical.choose (each i hi) else[];let N (d:jVj):D:=if agg then .agg d else d.headD (.v .nilIface);have r:∀i,i<len->∃c,Kd.oks ks (f i)/\Reads W (f i) c/\c.length=ks.length/\∀j,j<ks.length->W.cell? ((a.add (i*ks.length)).add j)=c[j]?:=by intro i hi;have:=Classical.choose_spec (each i hi);simp only[f,dif_pos hi];exact this
  have C:∀(k:Kd) (d:D),Kd.ok k d->d.cells=[d]:=by
   intro k d F;cases k<;>simp only[Kd.ok] at F
   ·obtain⟨n,rfl,_⟩:=F;rfl
   ·obtain⟨n,rfl⟩:=F;rfl
   ·obtain⟨n,rfl,_⟩:=F;rfl
   ·obtain⟨n,rfl,_⟩:=F;rfl
   ·obtain⟨n,rfl,_⟩:=F;rfl
  have E:∀i,i<len->(N (f i)).cells=f i:=by
   intro i hi;obtain⟨c,m,_⟩:=r i hi;simp only[N];split
   ·rfl
   ·rename_i Z;have Q:=h1 (by simpa using Z);have J:=Jw m;rw[Q] at J;match hdi:f i,J with
    | [d],_ =>
     rw[hdi] at m;match hks:ks,Q with
     | [k],_ =>
      unfold Kd.oks at m;obtain⟨d',r',e1,e2,e3⟩:=m;cases e1;exact C k d e2
  have Y:0<len->a=⟨a.block,a.off,none⟩/\a.block<W.heap.size:=by
   intro O;obtain⟨c,m,c2,c3,S⟩:=r 0 O;have z:=S 0 L;rw[jej (by omega)] at z;have e0:(a.add (0*ks.length)).add 0=a:=by simp[Addr.add]
   rw[e0] at z;unfold World.cell? at z;split at z
   ·rename_i q1 q2 q3 A;split at z
    ·cases z
    ·rename_i hs;refine⟨?_,?_⟩
     ·revert hs;obtain⟨b,o,s⟩:=a;cases s with
      | none=>intro _;rfl
      | some s=>intro hs;exact absurd rfl hs
     ·obtain h|h:=Nat.lt_or_ge a.block W.heap.size
      ·exact h
      ·have:W.heap[a.block]?=some _:=A;rw[Array.getElem?_eq_none h] at this;cases this
   ·cases z
  have q:∀(i j:Nat) (c:D),i<len->(f i)[j]?=some c->∃v,W.cell? ⟨a.block,a.off+(i*ks.length+j),none⟩=some v/\DR W (fun _=>False) c v/\one v=true:=by
   intro i j c hi p;obtain⟨c',m,c2,c3,S⟩:=r i hi;have K:j<(f i).length:=(jGj p).1;rw[Jw m] at K;have h6:=S j K;have hv:c'[j]?=some (c'[j]'(by omega)):=jej (by omega);rw[hv] at h6;refine⟨_,?_,c2.at j _ _ p hv⟩;have e:(a.add (i*ks.length)).add j=⟨a.block,a.off+(i*ks.length+j),none⟩:=by rw[(Y (by omega)).1,Go.SX.add_at,Go.SX.add_at,Nat.add_assoc]
   rw[<-h6,e]
  refine qD (d:=.lst false ks.length ((List.range len).map fun i=>N (f i))) ?_ ?_ rfl
  ·unfold Kd.ok;refine⟨_,rfl,by simp;omega,fun e l=>?_⟩;simp only[List.mem_map,List.mem_range] at l;obtain⟨i,hi,rfl⟩:=l;obtain⟨c,m,_⟩:=r i hi;cases agg with
   | true=>exact⟨f i,rfl,m⟩
   | false =>
    have Q:=h1 rfl;have J:=Jw m;rw[Q] at J;simp only[N];match hdi:f i,J with
    | [d],_=>rw[hdi] at m;exact m
  ·have a4:=DR.lst (w:=W) (M:=fun _=>False) false ks.length ((List.range len).map fun i=>N (f i)) (some a) cap a.block a.off (fun k=>(W.cell? ⟨a.block,a.off+k,none⟩).getD .nilIface)
    (fun h=>by cases h) (by simp;omega)
    (fun a3=>by
     have O:0<len:=by
      obtain h|h:=Nat.eq_zero_or_pos len
      ·subst h;simp at a3
      ·exact h
     exact⟨by rw[<-(Y O).1],fun h=>h,(Y O).2⟩)
    (fun i e l=>by rw[List.getElem?_map] at l;simp only[Option.map_eq_some_iff] at l;obtain⟨k,u,rfl⟩:=l;obtain⟨g,rfl⟩:=jGj u;simp only[List.length_range] at g;simp only[List.getElem_range];obtain⟨c,m,_⟩:=r i g;rw[E i g,Jw m])
    (fun i e j c l p=>by rw[List.getElem?_map] at l;simp only[Option.map_eq_some_iff] at l;obtain⟨k,u,rfl⟩:=l;obtain⟨g,rfl⟩:=jGj u;simp only[List.length_range] at g;simp only[List.getElem_range] at p;rw[E i g] at p;obtain⟨v,v1,v2,v3⟩:=q i j c g p;simp only[v1,Option.getD_some];exact⟨trivial,v3⟩)
    (fun i e j c l p=>by rw[List.getElem?_map] at l;simp only[Option.map_eq_some_iff] at l;obtain⟨k,u,rfl⟩:=l;obtain⟨g,rfl⟩:=jGj u;simp only[List.length_range] at g;simp only[List.getElem_range] at p;rw[E i g] at p;obtain⟨v,v1,v2,v3⟩:=q i j c g p;simp only[v1,Option.getD_some];exact v2)
   simpa using a4
theorem Kz:∀(d:Nat) (p:Nat) (t:TypeId) (cs:List Value) (x:DataW H×List MemPlace) (ks:List Kd),Uf P d t=some ks->DataW.trod enc P W base sp held p t cs=some x->∃z,Kd.oks ks z/\Reads W z cs
 | 0,_,_,_,_,_,h,_=>by cases h
 | d+1,p,t,cs,x,ks,h,hx=>by
  unfold Uf at h;split at h
  ·rename_i k l;cases h;obtain⟨n,rfl,_,r⟩:=DataW.trod_int l hx;simp only[Lit.wf,jAj,decide_eq_true_eq] at r;exact qD (by unfold Kd.ok;exact⟨n,rfl,r⟩) (.v _) rfl
  ·rename_i l;cases h;obtain⟨b,rfl,_⟩:=DataW.trod_bool l hx;exact qD (by unfold Kd.ok;exact⟨b,rfl⟩) (.v _) rfl
  ·rename_i l;cases h;obtain⟨s,rfl,_,G⟩:=DataW.trod_string l hx;exact qD (by unfold Kd.ok;exact⟨s,rfl,G⟩) (.v _) rfl
  ·rename_i k l;cases h;obtain⟨b,rfl,r⟩:=uj l hx;exact qD (by unfold Kd.ok;exact⟨b,rfl,r⟩) (.v _) rfl
  ·rename_i e l;split at h
   ·rename_i q _ a _;split at h;case h_2=>cases h
    rename_i j;cases h;simp only[jAj,Nat.beq_eq,Nat.blt_eq] at j;exact Ep l hx j.1 j.2 (fun h=>by cases h) fun n c y o=>Kz d n e c y _ a o
   ·rename_i q _ _ a _;split at h;case h_2=>cases h
    rename_i j;cases h;simp only[jAj,Nat.beq_eq,Nat.blt_eq] at j;exact Ep l hx j.1 j.2 (fun h=>by cases h) fun n c y o=>Kz d n e c y _ a o
   ·rename_i q _ _ _ a _;split at h;case h_2=>cases h
    rename_i j;cases h;simp only[jAj,Nat.beq_eq] at j;exact Ep l hx j.1 (by omega) (fun _=>j.2.symm) fun n c y o=>Kz d n e c y _ a o
   ·cases h
  ·rename_i A l;split at h;case h_2=>cases h
   rename_i q a;split at h;case h_2=>cases h
   rename_i j;cases h;simp only[Nat.beq_eq] at j;obtain⟨n,rfl,F,u⟩:=yg l hx;have:=zH (P:=P) (W:=W) (f:=Uf P d) (g:=fun t cs=>∃y,DataW.trod enc P W base sp held n t cs=some y) (fun t cs ks C E=>by obtain⟨y,o⟩:=E;exact Kz d n t cs y ks C o) A.toList 0 _ a u (by omega)
   rwa [List.drop_zero] at this
  ·rename_i m e l;split at h;case h_2=>cases h
   rename_i q a;split at h;case h_2=>cases h
   rename_i j;cases h;simp only[jAj,Nat.beq_eq] at j;obtain⟨n,rfl,F,u⟩:=uk l hx;have:=wZ (W:=W) (ks:=q) (cs:=cs) (m:=m) (fun i hi=>by obtain⟨y,o⟩:=u i hi;rw[<-j.1] at o;exact Kz d n e _ y _ a o) (by omega) m (jLj _)
   rwa [Nat.sub_self,Nat.zero_mul,List.drop_zero] at this
  ·cases h
end
set_option maxRecDepth 20000
open Go.WideShapes Go.ChangeShapes
def Qbs (P:Program)(t:TypeId):Prop:=∃d ks,Uf P d t=some ks
theorem E5 {P:Program}{f:TypeId->Option (List Kd)}:∀(d:List Field) (off:Nat) (ks:List Kd),Xn P f off d=some ks ->
  (∀fd,fd∈d->∃k,f fd.type=some k)/\ks.length=(d.map fun fd=>P.cellsOf fd.type).sum/\∀(j:Nat) fd,d[j]?=some fd->fd.offset=off+((d.take j).map fun fd=>P.cellsOf fd.type).sum
 | [],off,ks,h=>by simp only[Xn,jIj] at h;subst h;exact⟨fun _ h=>(by cases h),rfl,fun j fd h=>(by simp at h)⟩
 | fd::l,off,ks,h=>by
  unfold Xn at h;split at h;case h_2=>cases h
  rename_i o i;split at h;case h_2=>cases h
  rename_i r e n;simp only[jIj] at h;subst h;simp only[jAj,Nat.beq_eq] at e;obtain⟨a,b,c⟩:=E5 l _ r n;refine⟨fun x m=>?_,?_,fun j x g=>?_⟩
  ·obtain rfl|m:=List.mem_cons.1 m
   ·exact⟨_,i⟩
   ·exact a x m
  ·simp[b,e.2]
  ·cases j with
   | zero=>simp at g;subst g;simp[e.1]
   | succ j =>
    have:=c j x (by simpa using g);simp only[List.take_succ_cons,jCj,List.sum_cons];rw[this,e.2];omega
theorem Qat (P:Program):Kids P (Qbs P) where
 pointer:=fun {t e} h ht=>by
  obtain⟨d,ks,h⟩:=h;cases d with
  | zero=>cases h
  | succ d=>unfold Uf at h;rw[ht] at h;cases h
 slice:=fun {t e} h ht=>by
  obtain⟨d,ks,h⟩:=h;cases d with
  | zero=>cases h
  | succ d =>
   unfold Uf at h;rw[ht] at h;simp only at h;cases hk:Uf P d e with
   | none=>rw[hk] at h;simp at h
   | some k=>exact⟨d,k,hk⟩
 array:=fun {t e n} h ht=>by
  obtain⟨d,ks,h⟩:=h;cases d with
  | zero=>cases h
  | succ d =>
   unfold Uf at h;rw[ht] at h;simp only at h;split at h;case h_2=>cases h
   rename_i k1 hk1;split at h;case h_2=>cases h
   rename_i hb;simp only[jAj,Nat.beq_eq] at hb;exact⟨⟨d,_,hk1⟩,by rw[<-hb.2,hb.1]⟩
 struct:=fun {t fs} h ht=>by
  obtain⟨d,ks,h⟩:=h;cases d with
  | zero=>cases h
  | succ d =>
   unfold Uf at h;rw[ht] at h;simp only at h;split at h;case h_2=>cases h
   rename_i k1 hk1;split at h;case h_2=>cases h
   rename_i hb;simp only[Nat.beq_eq] at hb;obtain⟨a,b,c⟩:=E5 _ _ _ hk1;exact⟨fun f hf=>by obtain⟨k,hk⟩:=a f hf;exact⟨d,k,hk⟩,by rw[<-hb,b],fun j f hj=>by rw[c j f hj,Nat.zero_add]⟩
 map:=fun {t k e} h ht=>by
  obtain⟨d,ks,h⟩:=h;cases d with
  | zero=>cases h
  | succ d=>unfold Uf at h;rw[ht] at h;cases h
theorem QbC {P:Program}{t e:TypeId}(h:Qbs P t)(b:P.underlying t=some (.slice e)):0<P.cellsOf e:=by
 obtain⟨d,ks,h⟩:=h;cases d with
 | zero=>cases h
 | succ d =>
  unfold Uf at h;rw[b] at h;simp only at h;split at h
  ·split at h;case h_2=>cases h
   rename_i a;simp only[jAj,Nat.beq_eq,Nat.blt_eq] at a;omega
  ·split at h;case h_2=>cases h
   rename_i a;simp only[jAj,Nat.beq_eq,Nat.blt_eq] at a;omega
  ·split at h;case h_2=>cases h
   rename_i a;simp only[jAj,Nat.beq_eq] at a;omega
  ·cases h
def Xo (P:Program)(t:TypeId):Bool:=match P.underlying t with
 | some (.struct _)=>true
 | some (.array _ _)=>true
 | _=>false
def okA:Bool×List Kd->D->Prop
 | (true,ks),d=>∃cs,d=.agg cs/\Kd.oks ks cs
 | (false,ks),d=>Kd.oks ks [d]
def okAs:List (Bool×List Kd)->jVj->Prop
 | [],a=>a=[]
 | k::r,a=>∃d l,a=d::l/\okA k d/\okAs r l
def YK (P:Program):List TypeId->Option (List (Bool×List Kd))
 | []=>some []
 | t::ts=>match Uf P 12 t,YK P ts with
  | some ks,some r=>match Xo P t || Nat.beq ks.length 1 with
   | true=>some ((Xo P t,ks)::r)
   | false=>none
  | _,_=>none
section
variable {H:Type}{enc:TypeId×Value->H}{P:Program}{W:World}{base:Nat}{sp:Nat->Bool}{held:Bool}
theorem Qbz {r:Reach}{b0:Nat}{t:TypeId}{v:Value}{ks:List Kd}(g:Uf P 12 t=some ks)(b:Value.okWide P W r b0 t v)(f:Xo P t=false):v.cells=#[v]:=by
 unfold Uf at g;unfold Xo at f;split at g
 ·rename_i k d;obtain⟨n,rfl⟩:=okWide_int d b;rfl
 ·rename_i d;obtain⟨n,rfl⟩:=okWide_bool d b;rfl
 ·rename_i d;obtain⟨n,rfl⟩:=okWide_string d b;rfl
 ·rename_i k d;rw[Value.okWide,d] at b;cases v<;>simp_all [Cell.okWide,Cell.ok,Value.cells]
 ·rename_i e d;obtain⟨a,l,c,rfl⟩:=okWide_slice d b;rfl
 ·rename_i d;rw[d] at f;cases f
 ·rename_i d;rw[d] at f;cases f
 ·cases g
theorem Qaw {r:Reach}{b0:Nat}{t:TypeId}{v:Value}{d:DataW H}{p:List MemPlace}{ks:List Kd}(l:Uf P 12 t=some ks)(e:Value.okWide P W r b0 t v)(n:DataW.Trod enc P W base sp held t v d p)(j:(Xo P t || Nat.beq ks.length 1)=true) :
  ∃x,okA (Xo P t,ks) x/\DR W (fun _=>False) x v:=by
 obtain⟨f,o⟩:=n;obtain⟨g,a,b⟩:=Kz 12 f t _ _ ks l o;cases hag:Xo P t with
 | true =>
  have s:∃cs,v=.agg cs:=by
   unfold Xo at hag;unfold Value.okWide at e;split at hag
   ·rename_i k;rw[k] at e;obtain⟨cs,h,_⟩:=e;exact⟨cs,h⟩
   ·rename_i k;rw[k] at e;obtain⟨cs,h,_⟩:=e;exact⟨cs,h⟩
   ·cases hag
  obtain⟨cs,rfl⟩:=s;have hc:(Value.agg cs).cells.toList=cs.toList:=rfl;rw[hc] at b;have:=DR.agg (w:=W) (M:=fun _=>False) g cs.toList b.len (fun i c y hc u=>(b.at i c y hc u).1);exact⟨.agg g,⟨g,rfl,a⟩,by simpa using this⟩
 | false =>
  have q:=Qbz l e hag;rw[q] at b;rw[hag] at j;simp only[Bool.false_or,Nat.beq_eq] at j;have m:=Jw a;rw[j] at m;match g,m with
  | [x],_=>exact⟨x,a,(b.at 0 x v rfl rfl).1⟩
theorem kT {r:Reach}{b0:Nat}:∀{ts:List TypeId} {vs:List Value} {g:List (DataW H)} {p:List MemPlace} {f:List (Bool×List Kd)},DataW.TrodAll enc P W base sp held ts vs g p->YK P ts=some f ->
  (∀(j:Nat) t v,ts[j]?=some t->vs[j]?=some v->Value.okWide P W r b0 t v)->∃e:jVj,okAs f e/\e.length=vs.length/\∀(i:Nat) (c:D) (y:Value),e[i]?=some c->vs[i]?=some y->DR W (fun _=>False) c y
 | [],vs,g,p,f,h,hk,_=>by obtain⟨rfl,rfl,rfl⟩:=trodAll_nil h;cases hk;exact⟨[],rfl,rfl,fun i c y h=>by simp at h⟩
 | t::ts,vs,g,p,f,h,hk,hv=>by
  obtain⟨v,z,d,n,a,b,rfl,rfl,rfl,o,q⟩:=trodAll_cons h;unfold YK at hk;split at hk;case h_2=>cases hk
  rename_i ks r l u;split at hk;case h_2=>cases hk
  rename_i s;cases hk;obtain⟨x,A,C⟩:=Qaw l (hv 0 t v rfl rfl) o s;obtain⟨e,E,F,G⟩:=kT q u (fun j t v h k=>hv (j+1) t v (by simpa using h) (by simpa using k));refine⟨x::e,⟨x,e,rfl,A,E⟩,by simp[F],fun i c y hc m=>?_⟩;cases i with
  | zero=>simp at hc m;subst hc;subst m;exact C
  | succ i=>exact G i c y (by simpa using hc) (by simpa using m)
theorem jp:∀{ts:List TypeId} {c:List (Bool×List Kd)},YK P ts=some c->∀t,t∈ts->Qbs P t
 | [],_,_,t,h=>by cases h
 | t::ts,c,hk,u,b=>by
  unfold YK at hk;split at hk;case h_2=>cases hk
  rename_i ks r a d;obtain rfl|b:=List.mem_cons.1 b
  ·exact⟨_,_,a⟩
  ·exact jp d u b
theorem kS {j : World}{f : Nat->Bool}:∀{ts:List TypeId} {vs:List Value} {g:List (DataW H)} {p:List MemPlace},DataW.TrodAll enc P W base (fun _=>true) true ts vs g p->(∀t,t∈ts->Qbs P t) ->
  (∀q,q∈p->W.sameAt j q)->(∀q,q∈p->f q.block=true)->DataW.TrodAll enc P j base f true ts vs g p
 | [],vs,g,p,h,_,_,_=>by obtain⟨rfl,rfl,rfl⟩:=trodAll_nil h;exact rfl
 | t::ts,vs,g,p,h,hp,h3,h4=>by
  obtain⟨v,o,d,k,a,b,rfl,rfl,rfl,⟨e,l⟩,m⟩:=trodAll_cons h;exact⟨a,b,⟨e,DataW.trod_stays (Qat P) (fun i n=>QbC i n) (fun h=>by cases h) (hp t jMj) l (fun q c=>h3 q (List.mem_append_left _ c)) (fun q c=>h4 q (List.mem_append_left _ c))⟩,
   kS m (fun t i=>hp t (jmj _ i)) (fun q c=>h3 q (List.mem_append_right _ c)) (fun q c=>h4 q (List.mem_append_right _ c)),rfl⟩
end
theorem QbY {w w' : World}(h:Ext w (fun _=>False) w'):Below w.heap.size w w':=⟨h.os,h.tape,h.output,h.size,fun r a=>h.same r a (fun h=>h)⟩
theorem yl {W a : World}(h:Below W.heap.size W a){p:MemPlace}(hp:p.block<W.heap.size):W.sameAt a p:=by
 cases p with
 | cell b off =>
  show a.cell? ⟨b,off,none⟩=W.cell? ⟨b,off,none⟩;unfold World.cell?;rw[h.block b hp]
 | map b=>exact h.block b hp
theorem Qbx {H:Type}{enc:TypeId×Value->H}{P:Program}{w:World}{base:Nat}{sp:Nat->Bool}{held:Bool}{t:TypeId}(a:P.underlying t=some .bool):DataW.Trod enc P w base sp held t (.bool true) (.lit (.bool true)) [] :=
 ⟨1,by simp[DataW.trod,Value.cells,a]⟩
theorem Qac {f:FuncId}{k:Func}{spec:ChangeSpec}{X:List (Bool×List Kd)}{Q:TypeId}(C:YK Tryz.prog k.params.toList=some X)
  (hb:Tryz.prog.underlying Q=some .bool) (E:k.resultTypes=#[Q]) (i:spec.vars=[])
  (m:∀(H:Type) (c:List (DataW H)),c.length=k.params.size->spec.fn H c={ results:=[.lit (.bool true)],args:=c })
  (u:∀J,okAs X J->Computes cx f J (.v (.bool true)))
  (H:Type) (enc:TypeId×Value->H) (W:World) (base:Nat) (args:Array Value) (c Z:List (DataW H)) (before:List MemPlace)
  (F:∀(j:Nat) t v,k.params[j]?=some t->args[j]?=some v->Value.okWide Tryz.prog W .any base t v)
  (T:DataW.Whole enc Tryz.prog k.params.toList spec.vars false W args.toList c Z before)
  (hG:∀g x,cx.G g=some x->GAt W (fun _=>False) g x) :
  Calls Tryz.prog f args W fun e O=>∃v,e=.returned v/\spec.post enc Tryz.prog k false true false false W args v O:=by
 have o:=T;obtain⟨p,q,L,S,rfl,a0,a1⟩:=T;rw[i] at S;obtain⟨rfl,rfl⟩:=trodVars_none S;have n : ∀(j:Nat) t v,k.params.toList[j]?=some t->args.toList[j]?=some v->Value.okWide Tryz.prog W .any base t v:=by intro j t v U V;rw[Array.getElem?_toList] at U V;exact F j t v U V
 obtain⟨J,h1,K,h3⟩:=kT (H:=H) (enc:=enc) (P:=Tryz.prog) (W:=W) (base:=0) (sp:=fun _=>true) (held:=true) (r:=.any) (b0:=base) (ts:=k.params.toList) (vs:=args.toList) L C n;have hc:=u J h1 W (fun _=>False) args.toList (fun _ h=>h.elim) hG K h3;rw[Array.toArray_toList] at hc;refine hc.mono fun e O ⟨y,he,hy,hx⟩=>⟨y,he,?_⟩
 have N:=dr_v hy;subst N;have s:=QbY hx;have A:=o.lt;have z:c.length=k.params.size:=by
  have:∀{ts:List TypeId} {vs:List Value} {c:List (DataW H)} {p:List MemPlace},DataW.TrodAll enc Tryz.prog W 0 (fun _=>true) true ts vs c p->c.length=ts.length:=by
   intro ts;induction ts with
   | nil=>intro vs c p h;obtain⟨rfl,rfl,rfl⟩:=trodAll_nil h;rfl
   | cons t ts ih=>intro vs c p h;obtain⟨v,a2,d,Y,a,b,rfl,rfl,rfl,_,K⟩:=trodAll_cons h;simp[ih K]
  exact(this L).trans Array.length_toList
 have l:=m H (c++[]) (by rw[List.append_nil];exact z);refine⟨c,[],p++[],[],p,[],o,?_,?_,?_,s.frame _,fun h=>by cases h⟩
 ·rw[l,E];exact trodAll_mk1 (Qbx hb)
 ·rw[l];simp only[List.append_nil];exact kS L (jp C) (fun q M=>yl s (A q (List.mem_append_left _ M))) (fun q M=>jDj (A q (List.mem_append_left _ M)))
 ·rw[l,i];rfl
theorem Qcn {k:Bool×List Kd}{r:List (Bool×List Kd)}{a:jVj}(h:okAs (k::r) a):∃d l,a=d::l/\okA k d/\okAs r l:=h
theorem Qds {a:jVj}(h:okAs [] a):a=[]:=h
theorem ky {k:Kd}{ks:List Kd}{a:jVj}(h:Kd.oks (k::ks) a):∃d r,a=d::r/\Kd.ok k d/\Kd.oks ks r:=by unfold Kd.oks at h;exact h
theorem Qdh {k:Kd}{d:D}(h:Kd.oks [k] [d]):Kd.ok k d:=by obtain⟨c,r,a,b,_⟩:=ky h;cases a;exact b
theorem Qdj {k:Kd}{d:D}(h:okA (false,[k]) d):Kd.ok k d:=Qdh h
theorem ok_s {d:D}(h:Kd.ok .str d):∃s,d=.v (.string s)/\s.size<=maxLen:=by unfold Kd.ok at h;exact h
theorem Qdi {k:Kd}{d:D}(h:Kd.ok (.lst false [k]) d):∃es,d=.lst false 1 es/\es.length<=maxLen/\∀e,e∈es->Kd.ok k e:=by unfold Kd.ok at h;obtain⟨es,a,b,c⟩:=h;exact⟨es,a,b,fun e f=>Qdh (c e f)⟩
theorem yE {α:Type}{enc:α->D}{p:α->Prop}:∀{es:jVj},(∀e,e∈es->∃x,e=enc x/\p x)->∃xs:List α,es=xs.map enc/\∀x,x∈xs->p x
 | [],_=>⟨[],rfl,fun x b=>by cases b⟩
 | e::es,h=>by
  obtain⟨x,rfl,b⟩:=h e jMj;obtain⟨xs,rfl,c⟩:=yE (es:=es) fun y a=>h y (jmj _ a);refine⟨x::xs,rfl,fun y a=>?_⟩;obtain rfl|a:=List.mem_cons.1 a
  ·exact b
  ·exact c y a
theorem Qbn {P:Program}{w:World}{n:String}{d:DataW Unit}:∀{l:List (String×DataW Unit)} {b:List MemPlace} (i:Nat),DataW.LaidVars P w l b->l[i]?=some (n,d) ->
  ∃g t cs a p,P.globalNamed n=some g/\(P.globals[g]?).map (·.type)=some t/\w.var? P n=some cs/\DataW.trod (fun _=>()) P w 0 (fun _=>true) false a t cs.toList=some (d,p)
 | [],_,i,_,hi=>by simp at hi
 | (m,e)::r,b,0,h,hi=>by simp only[jzj,jIj,jPj] at hi;obtain⟨rfl,rfl⟩:=hi;obtain⟨g,t,cs,a,p,q,c,f,j,k,_,_⟩:=h;exact⟨g,t,cs,a,p,c,f,j,k⟩
 | (m,e)::r,b,i+1,h,hi=>by obtain⟨g,t,cs,a,p,q,c,f,j,k,o,_⟩:=h;exact Qbn i o (by simpa using hi)
theorem QdA {P:Program}{W:World}{name:String}{g:Nat}{k:IntKind}{zs:List Int}(d:P.globalNamed name=some g)(h:W.var? P name=some (zs.map fun z=>Value.int k z).toArray) :
  GAt W (fun _=>False) g (.agg (zs.map fun z=>.v (.int k z))):=by
 have hc:=World.var?_cell d h;unfold World.var? at h;rw[d,jBj] at h;split at h;case h_2=>cases h
 rename_i cs t fz b;simp only[jIj] at h;refine⟨⟨fun h=>h,?_,fun j c e=>?_⟩,cs,t,fz,b,by rw[h];simp[D.cells]⟩
 ·obtain h|h:=Nat.lt_or_ge g W.heap.size
  ·exact h
  ·rw[Array.getElem?_eq_none h] at b;cases b
 ·have a : (zs.map fun z=>D.v (.int k z))[j]?=some c:=e;rw[List.getElem?_map] at a;obtain⟨z,f,rfl⟩:=Option.map_eq_some_iff.1 a;refine⟨.int k z,?_,.v _⟩;rw[Nat.zero_add,hc j];simp[f]
theorem gat1 {P:Program}{W:World}{laid:List (String×DataW Unit)}{s:List MemPlace}{name:String}{g:Nat}{t e:TypeId}{n:Nat}{k:IntKind}{zs:List Int}(i:Nat)(o:DataW.LaidVars P W laid s)(hi:laid[i]?=some (name,Lib.tabData k zs))
  (j:P.globalNamed name=some g) (f:(P.globals[g]?).map (·.type)=some t) (q:P.underlying t=some (.array n e)) (m:P.underlying e=some (.int k)) (a:P.cellsOf e=1) (b:P.cellsOf t=n) :
  GAt W (fun _=>False) g (.agg (zs.map fun z=>.v (.int k z))):=by
 obtain⟨u,x,cs,h,p,c,d,r,l⟩:=Qbn i o hi;obtain rfl:=Option.some.inj (j.symm.trans c);obtain rfl:=Option.some.inj (f.symm.trans d);have:=Lib.cells_of_tab q m a b l;exact QdA j (by rw[r,<-this])
theorem QcB {W:World}(b:GAt W (fun _=>False) 1 (.agg (Lib.pow10Tab.map fun z=>.v (.int .u64 z))))(g:Nat)(x:D)(a:cx.G g=some x):GAt W (fun _=>False) g x:=by
 have e:cx.G g=(match Nat.beq g 1 with
  | true=>some pow10D
  | false=>none):=rfl
 rw[e] at a;split at a
 ·rename_i c;rw[jqj c];cases a;exact b
 ·cases a
set_option maxRecDepth 10000
set_option maxHeartbeats 4000000
abbrev jZj:D:=.agg [I 0,I 0,B false,B false,I 0,I 0,I 0,.lst true 0 [],.lst true 0 [],.lst true 0 []]
abbrev jOj:Type:=List Orc
abbrev b0:Orc:=.br false
abbrev b1:Orc:=.br true
def no:Nat->List Orc->List Orc
 | 0,l=>l
 | n+1,l=>.no::no n l
theorem rf {f:FuncId}{a:jVj}{r:D}{ob:List Prop}(orc:List Orc)(b:All ob)(h:ut true 100 cx f a orc=some (r,ob):=by kernel_rfl):Computes cx f a r:=run h b
theorem rfO {f:FuncId}{a:List AV}{i:Option (List OC)}(b:Nat){ks:List Bool}{r:AV}{cs:List OC}(orc:List Orc){ob:List Prop}(c:All ob)(h:Qcd 100 cx f a i b cs ks orc=some (r,cs,ob):=by kernel_rfl):ComputesO cx f a i r cs ks:=QcZ c h
structure Lp (S E:Type) where
 T:S->List (Nat×AV)
 H:S->List (Nat×Blk)
 X:E->Ex
 Y:E->List (Nat×AV)
 Z:E->List (Nat×Blk)
abbrev Rl {S E:Type}(c:Code)(a vis:Nat)(rnd:Bool)(L:Lp S E)(s:S)(r:S⊕E):Prop:=Rd cx c a vis rnd L.T L.H L.X L.Y L.Z s r
theorem rn {S E:Type}{c:Code}{d vis:Nat}{rnd:Bool}{L:Lp S E}{s s' : S}(e:Nat)(orc:List Orc)(f b a:List Nat){ob:List Prop}(g:All ob)(h:J9 100 cx c d vis rnd e (L.T s) (L.H s) orc f b a=some (.normal,L.T s',L.H s',ob):=by kernel_rfl):Rl c d vis rnd L s (.inl s'):=⟨100,e,orc,f,b,a,uv g h⟩
theorem rx {S E:Type}{c:Code}{d vis:Nat}{rnd:Bool}{L:Lp S E}{s:S}{e:E}(f:Nat)(orc:List Orc)(g b a:List Nat){ob:List Prop}(i:All ob)(h:J9 100 cx c d vis rnd f (L.T s) (L.H s) orc g b a=some (L.X e,L.Y e,L.Z e,ob):=by kernel_rfl)(j:L.X e≠.normal:=by nofun):Rl c d vis rnd L s (.inr e):=⟨⟨100,f,orc,g,b,a,uv i h⟩,j⟩
theorem ro (e:TypeId){b n:Nat}(h:Wa b n)(c:cx.bytes e=some b:=by kernel_rfl)(a:0<b:=by decide):room cx e n:=ZB c a h
theorem allE {α:Type}{un:D->Option α}{enc:α->D}{es:jVj}{i:Int}{x:α}{l:List Prop}(a:∀{d x},un d=some x->d=enc x)(h:el un es i=some x)(t:All l):All ((0<=i)::(nth es i.toNat=some (enc x))::l):=Qa (Qf a h).1 (Qa (Qf a h).2 t)
theorem io {α:Type}{p:Prop}[Decidable p]{x y:Option α}{r:α}(h:(if p then x else y)=some r):(p/\x=some r)\/(¬p/\y=some r):=by
 by_cases hp:p
 · exact .inl ⟨hp,it h hp⟩
 · exact .inr ⟨hp,jf h hp⟩
abbrev qC:List Bool:=[true,true,true,true,true,true,true,true,true,true]
abbrev ZV:List Bool:=[true,true,true,true,true,true,true,true,true,true,true,true]
abbrev Qb (c d:jVj)(e f:Int)(g h:Bool)(i j k:Int)(l a b:jVj):List OC:=[.row 5 c,.row 5 d,.dat (I e),.dat (I f),.dat (B g),.dat (B h),.dat (I i),.dat (I j),.dat (I k),.row 1 l,.row 6 a,.row 7 b]
abbrev Qb' (x:jVj×jVj×Int×Int×Bool×Bool×Int×Int×Int×jVj×jVj×jVj):List OC:=Qb x.1 x.2.1 x.2.2.1 x.2.2.2.1 x.2.2.2.2.1 x.2.2.2.2.2.1 x.2.2.2.2.2.2.1 x.2.2.2.2.2.2.2.1 x.2.2.2.2.2.2.2.2.1 x.2.2.2.2.2.2.2.2.2.1 x.2.2.2.2.2.2.2.2.2.2.1 x.2.2.2.2.2.2.2.2.2.2.2
abbrev QJ (a b:Int)(c d:Bool)(e f g:Int)(h i j:jVj):List OC:=[.dat (I a),.dat (I b),.dat (B c),.dat (B d),.dat (I e),.dat (I f),.dat (I g),.row 1 h,.row 6 i,.row 7 j]
abbrev QJ' (x:Int×Int×Bool×Bool×Int×Int×Int×jVj×jVj×jVj):List OC:=QJ x.1 x.2.1 x.2.2.1 x.2.2.2.1 x.2.2.2.2.1 x.2.2.2.2.2.1 x.2.2.2.2.2.2.1 x.2.2.2.2.2.2.2.1 x.2.2.2.2.2.2.2.2.1 x.2.2.2.2.2.2.2.2.2
def QP (x:Int×jSj×jVj×jVj×jSj):D:=.agg [I x.1,Qr5 x.2.1,.lst false 1 x.2.2.1,.lst false 1 x.2.2.2.1,Qr5 x.2.2.2.2]
def Ze:D->Option (Int×jSj×jVj×jVj×jSj)
 | .agg [c0,c1,c2,c3,c4]=>(Ya .i64 c0).bind fun a=>(JR c1).bind fun b=>(Em 1 c2).bind fun c=>(Em 1 c3).bind fun d=>(JR c4).bind fun e=>some (a,b,c,d,e)
 | _=>none
theorem Ql {d:D}{x:Int×jSj×jVj×jVj×jSj}(h:Ze d=some x):d=QP x:=by
 unfold Ze at h;split at h;case h_2=>cases h
 obtain⟨m,g,h⟩:=ZX h;obtain⟨n,i,h⟩:=ZX h;obtain⟨o,j,h⟩:=ZX h;obtain⟨p,k,h⟩:=ZX h;obtain⟨q,l,h⟩:=ZX h;cases h;have a:=WS g;have b:=YU i;have c:=J7 j;have e:=J7 k;have f:=YU l;rw[a,b,c,e,f];rfl
def Zy (x:jSj):D:=Qr5 x
def Ww (d:D):Option (jSj):=JR d
theorem Qr {d:D}{x:jSj}(h:Ww d=some x):d=Zy x:=YU h
def Wr:jVj:=[.tup [Qr5 ⟨#[115,101,99,116,111,114]⟩,.agg [Qr5 ⟨#[83]⟩,I 1,.fn (.func 102) [] [],.fn (.func 103) [] []]],.tup [Qr5 ⟨#[109,105,114,114,111,114]⟩,.agg [Qr5 ⟨#[77,115]⟩,I 2,.fn (.func 104) [] [],.fn (.func 105) [] []]],.tup [Qr5 ⟨#[115,111,105,108]⟩,.agg [Qr5 ⟨#[109]⟩,I 2,.fn (.func 106) [] [],.fn (.func 180) [] [.ref (.fn (.func 108) [] []) 0]]],.tup [Qr5 ⟨#[99,108,101,97,110]⟩,.agg [Qr5 ⟨#[109]⟩,I 1,.fn (.func 109) [] [],.fn (.func 180) [] [.ref (.fn (.func 110) [] []) 0]]],.tup [Qr5 ⟨#[100,101,102,101,99,116]⟩,.agg [Qr5 ⟨#[109]⟩,I 1,.fn (.func 181) [] [.ref (.fn (.func 112) [] []) 0],.fn (.func 180) [] [.ref (.fn (.func 113) [] []) 0]]],.tup [Qr5 ⟨#[114,101,112,97,105,114]⟩,.agg [Qr5 ⟨#[109]⟩,I 1,.fn (.func 181) [] [.ref (.fn (.func 114) [] []) 0],.fn (.func 180) [] [.ref (.fn (.func 115) [] []) 0]]],.tup [Qr5 ⟨#[97,105,109]⟩,.agg [Qr5 ⟨#[109]⟩,I 1,.fn (.func 181) [] [.ref (.fn (.func 116) [] []) 0],.fn (.func 180) [] [.ref (.fn (.func 117) [] []) 0]]],.tup [Qr5 ⟨#[112,97,114,107]⟩,.agg [Qr5 ⟨#[109]⟩,I 1,.fn (.func 181) [] [.ref (.fn (.func 118) [] []) 0],.fn (.func 180) [] [.ref (.fn (.func 119) [] []) 0]]],.tup [Qr5 ⟨#[100,105,109]⟩,.agg [Qr5 ⟨#[115]⟩,I 1,.fn (.func 109) [] [],.fn (.func 120) [] []]],.tup [Qr5 ⟨#[115,117,110]⟩,.agg [Qr5 ⟨#[]⟩,I 2,.fn (.func 123) [] [],.fn (.func 124) [] []]],.tup [Qr5 ⟨#[102,105,108,108]⟩,.agg [Qr5 ⟨#[]⟩,I 1,.fn (.func 125) [] [],.fn (.func 126) [] []]],.tup [Qr5 ⟨#[100,114,97,105,110]⟩,.agg [Qr5 ⟨#[]⟩,I 1,.fn (.func 127) [] [],.fn (.func 129) [] []]],.tup [Qr5 ⟨#[116,114,105,112]⟩,.agg [Qr5 ⟨#[]⟩,I 1,.fn (.func 130) [] [],.fn (.func 131) [] []]],.tup [Qr5 ⟨#[114,101,115,101,116]⟩,.agg [Qr5 ⟨#[]⟩,I 1,.fn (.func 133) [] [],.fn (.func 134) [] []]],.tup [Qr5 ⟨#[111,102,102,101,114]⟩,.agg [Qr5 ⟨#[79]⟩,I 5,.fn (.func 135) [] [],.fn (.func 137) [] []]],.tup [Qr5 ⟨#[100,101,108,105,118,101,114]⟩,.agg [Qr5 ⟨#[111]⟩,I 2,.fn (.func 138) [] [],.fn (.func 139) [] []]],.tup [Qr5 ⟨#[98,105,108,108]⟩,.agg [Qr5 ⟨#[111]⟩,I 1,.fn (.func 140) [] [],.fn (.func 141) [] []]],.tup [Qr5 ⟨#[117,110,100,111]⟩,.agg [Qr5 ⟨#[]⟩,I 0,.fn (.func 109) [] [],.fn (.func 142) [] []]]]
def QaN (x:jSj×Int×FnD×FnD):D:=.agg [Qr5 x.1,I x.2.1,.fn x.2.2.1.1 x.2.2.1.2.1 x.2.2.1.2.2,.fn x.2.2.2.1 x.2.2.2.2.1 x.2.2.2.2.2]
def J8:D->Option (jSj×Int×FnD×FnD)
 | .agg [c0,c1,c2,c3]=>(JR c0).bind fun a=>(Ya .i64 c1).bind fun b=>(ye c2).bind fun c=>(ye c3).bind fun d=>some (a,b,c,d)
 | _=>none
theorem yf {d:D}{x:jSj×Int×FnD×FnD}(h:J8 d=some x):d=QaN x:=by
 unfold J8 at h;split at h;case h_2=>cases h
 obtain⟨k,f,h⟩:=ZX h;obtain⟨l,g,h⟩:=ZX h;obtain⟨m,i,h⟩:=ZX h;obtain⟨n,j,h⟩:=ZX h;cases h;have a:=YU f;have b:=WS g;have c:=jU i;have e:=jU j;rw[a,b,c,e];rfl
def Kx (n:Nat)  : Option (Int) :=
 some 3
theorem yQ {n:Nat}  {r:Int}(h:Kx n =some r):Computes cx 37 [B true,I 3] (I r):=by unfold Kx at h;obtain rfl:=oi h;exact rf [.no] QL
def Qm (n:Nat)(a0:Bool)(a1:Int):Option (Int) := if a0=true then some a1 else some 0
theorem Qu {n a0 a1 r}(h:Qm n a0 a1=some r):Computes cx 37 [B a0,I a1] (I r):=by
 unfold Qm at h;obtain⟨a,h⟩|⟨a,h⟩:=io h
 ·obtain rfl:=oi h;exact rf [b1] (Qa a QL)
 obtain rfl:=oi h;exact rf [b0] (Qa (QA a) QL)
def ZE (n:Nat)(a0 a1 a2:Int):Option (Int) := if a0<a1 then(Kx n).bind fun a=>some a else(Qm n (decide (a0>a2)) 3).bind fun a=>some a
theorem WK {n a0 a1 a2 r}(h:ZE n a0 a1 a2=some r):Computes cx 54 [I a0,I a1,I a2] (I r):=by
 unfold ZE at h;obtain⟨a,h⟩|⟨a,h⟩:=io h
 ·have⟨t2,h2,h⟩:=bo h;obtain rfl:=oi h;exact rf [b1,.ret (I t2)] (Qa (yQ h2) (Qa (jDj a) QL))
 have⟨t2,h2,h⟩:=bo h;obtain rfl:=oi h;exact rf [b0,.ret (I t2)] (Qa (Qu h2) (Qa (jEj a) QL))
def Up (n:Nat)  : Option (Int) :=
 some 0
theorem jj {n:Nat}  {r:Int}(h:Up n =some r):Computes cx 37 [B false,I 13] (I r):=by unfold Up at h;obtain rfl:=oi h;exact rf [.no] QL
def Q3 (x:Int):D:=I x
def Vt (d:D):Option (Int):=Ya .i64 d
theorem Qi {d:D}{x:Int}(h:Vt d=some x):d=Q3 x:=WS h
def Vi (n:Nat)(a0:jVj)(b:Int):Option (Int⊕Int⊕Unit) := if b<((a0).length:Int) then(el Vt a0 b).bind fun a=>if a=0 then if Qh (b+1) then some (.inl (b+1)) else none else some (.inr (.inl a)) else some (.inr (.inr ()))
noncomputable def zp (a0:jVj):Lp (Int) (Int⊕Unit):=⟨fun a=>[(5,.d (.lst false 1 a0)),(6,.d (I ((a0).length:Int))),(7,.d (I a))],fun _=>[],fun
 | (.inl e)=>.ret
 | (.inr e)=>(.exit 0),fun
 | (.inl e)=>[(2,.d (I e))]
 | (.inr e)=>[],fun _=>[]⟩
theorem Gt {n a0}(c)(r)(h:Vi n a0 c=some r):Rl (ZJ cx.P 36 0) 15 0 false (zp a0) c r:=by
 unfold Vi at h;obtain⟨a,h⟩|⟨a,h⟩:=io h
 ·have⟨ta2,ha2,h⟩:=bo h;have q:=allE Qi ha2 (Qa (jDj a) QL);obtain⟨b,h⟩|⟨b,h⟩:=io h
  ·have⟨ha4,h⟩:=gd h;cases h;exact rn 4 [b1,.el (Q3 ta2),b0] [] [5,6,7] [] (Qa ha4 (Qa (nef b) q))
  cases h;exact rx 4 [b1,.el (Q3 ta2),b1] [] [2] [] (Qa (net b) q)
 cases h;exact rx 4 [b0] [] [] [] (Qa (jEj a) QL)
def Qo (n:Nat)(a0:jVj):Option (Int) := (Q2 (Vi n a0) n 0).bind fun a=>match a with|.inl a=>(some a)|.inr a=>(some 0)
theorem Qx {n a0 r}(h:Qo n a0=some r):Computes cx 36 [.lst false 1 a0] (I r):=by
 unfold Qo at h;have⟨a,h1,h⟩:=bo h;obtain a|a:=a
 ·obtain rfl:=oi h;exact rf [.lp [] [5,6,7] [] .ret [(2,.d (I a))] [] 23] (Qa (QH Gt h1) QL)
 obtain rfl:=oi h;exact rf [.lp [] [5,6,7] [] (.exit 0) [] [] 23] (Qa (QH Gt h1) QL)
def Wn (n:Nat)(a0:jSj)(a:Nat):Option (Nat⊕Unit⊕Unit) := if a<a0.size then if((Utf8.decode a0 a).1:Int)>=97 then if((Utf8.decode a0 a).1:Int)<=122 then some (.inl (a+(Utf8.decode a0 a).2)) else if((Utf8.decode a0 a).1:Int)>=65 then if((Utf8.decode a0 a).1:Int)<=90 then some (.inl (a+(Utf8.decode a0 a).2)) else if((a:Nat):Int)=0 then some (.inr (.inl ())) else if((Utf8.decode a0 a).1:Int)=95 then some (.inl (a+(Utf8.decode a0 a).2)) else if((Utf8.decode a0 a).1:Int)<48 then some (.inr (.inl ())) else if((Utf8.decode a0 a).1:Int)>57 then some (.inr (.inl ())) else some (.inl (a+(Utf8.decode a0 a).2)) else if((a:Nat):Int)=0 then some (.inr (.inl ())) else if((Utf8.decode a0 a).1:Int)=95 then some (.inl (a+(Utf8.decode a0 a).2)) else if((Utf8.decode a0 a).1:Int)<48 then some (.inr (.inl ())) else if((Utf8.decode a0 a).1:Int)>57 then some (.inr (.inl ())) else some (.inl (a+(Utf8.decode a0 a).2)) else if((Utf8.decode a0 a).1:Int)>=65 then if((Utf8.decode a0 a).1:Int)<=90 then some (.inl (a+(Utf8.decode a0 a).2)) else if((a:Nat):Int)=0 then some (.inr (.inl ())) else if((Utf8.decode a0 a).1:Int)=95 then some (.inl (a+(Utf8.decode a0 a).2)) else if((Utf8.decode a0 a).1:Int)<48 then some (.inr (.inl ())) else if((Utf8.decode a0 a).1:Int)>57 then some (.inr (.inl ())) else some (.inl (a+(Utf8.decode a0 a).2)) else if((a:Nat):Int)=0 then some (.inr (.inl ())) else if((Utf8.decode a0 a).1:Int)=95 then some (.inl (a+(Utf8.decode a0 a).2)) else if((Utf8.decode a0 a).1:Int)<48 then some (.inr (.inl ())) else if((Utf8.decode a0 a).1:Int)>57 then some (.inr (.inl ())) else some (.inl (a+(Utf8.decode a0 a).2)) else some (.inr (.inr ()))
noncomputable def qy (a0:jSj):Lp (Nat) (Unit⊕Unit):=⟨fun _=>[(0,.d (Qr5 a0)),(7,.own 2 0)],fun a=>[(2,.it a0 a)],fun
 | (.inl e)=>.ret
 | (.inr e)=>(.exit 0),fun
 | (.inl e)=>[(2,.d (B false))]
 | (.inr e)=>[(0,.d (Qr5 a0))],fun _=>[]⟩
theorem JP {n a0}(k)(r)(h:Wn n a0 k=some r):Rl (ZJ cx.P 147 0) 51 0 false (qy a0) k r:=by
 unfold Wn at h;obtain⟨g,h⟩|⟨g,h⟩:=io h
 ·have q:=Qa g QL;let o(l:jOj):=b1::.no::l;obtain⟨i,h⟩|⟨i,h⟩:=io h
  ·have q:=Qa (jDj i) q;let o l:=o (b1::l);obtain⟨f,h⟩|⟨f,h⟩:=io h
   ·cases h;exact rn 3 (o [b1,.no,.no]) [] [0,7] [2] (Qa (jDj f) q)
   have q:=Qa (jEj f) q;let o l:=o (b0::l);obtain⟨d,h⟩|⟨d,h⟩:=io h
   ·have q:=Qa (jDj d) q;let o l:=o (b1::l);obtain⟨a,h⟩|⟨a,h⟩:=io h
    ·cases h;exact rn 3 (o [b0,.no]) [] [0,7] [2] (Qa (Ud (jDj a)) q)
    have q:=Qa (Uc (jEj a)) q;let o l:=o (b1::l);obtain⟨b,h⟩|⟨b,h⟩:=io h
    ·cases h;exact rx 3 (o [b1,.no]) [] [2] [] (Qa (eqt b) q)
    have q:=Qa (eqf b) q;obtain⟨c,h⟩|⟨c,h⟩:=io h
    ·cases h;exact rn 3 (o [b0,b0,.no]) [] [0,7] [2] (Qa (nef c) q)
    have q:=Qa (net c) q;let o l:=o (b0::b1::l);obtain⟨e,h⟩|⟨e,h⟩:=io h
    ·cases h;exact rx 3 (o [b1,.no]) [] [2] [] (Qa (jDj e) q)
    have q:=Qa (jEj e) q;obtain⟨j,h⟩|⟨j,h⟩:=io h
    ·cases h;exact rx 3 (o [b0,b1]) [] [2] [] (Qa (jDj j) q)
    cases h;exact rn 3 (o [b0,b0]) [] [0,7] [2] (Qa (jEj j) q)
   have q:=Qa (jEj d) q;let o l:=o (b0::.no::l);obtain⟨a,h⟩|⟨a,h⟩:=io h
   ·cases h;exact rx 3 (o [b1,.no]) [] [2] [] (Qa (eqt a) q)
   have q:=Qa (eqf a) q;obtain⟨b,h⟩|⟨b,h⟩:=io h
   ·cases h;exact rn 3 (o [b0,b0,.no]) [] [0,7] [2] (Qa (nef b) q)
   have q:=Qa (net b) q;let o l:=o (b0::b1::l);obtain⟨c,h⟩|⟨c,h⟩:=io h
   ·cases h;exact rx 3 (o [b1,.no]) [] [2] [] (Qa (jDj c) q)
   have q:=Qa (jEj c) q;obtain⟨e,h⟩|⟨e,h⟩:=io h
   ·cases h;exact rx 3 (o [b0,b1]) [] [2] [] (Qa (jDj e) q)
   cases h;exact rn 3 (o [b0,b0]) [] [0,7] [2] (Qa (jEj e) q)
  have q:=Qa (jEj i) q;let o l:=o (b0::.no::l);obtain⟨f,h⟩|⟨f,h⟩:=io h
  ·have q:=Qa (jDj f) q;let o l:=o (b1::l);obtain⟨d,h⟩|⟨d,h⟩:=io h
   ·cases h;exact rn 3 (o [b0,.no]) [] [0,7] [2] (Qa (Ud (jDj d)) q)
   have q:=Qa (Uc (jEj d)) q;let o l:=o (b1::l);obtain⟨a,h⟩|⟨a,h⟩:=io h
   ·cases h;exact rx 3 (o [b1,.no]) [] [2] [] (Qa (eqt a) q)
   have q:=Qa (eqf a) q;obtain⟨b,h⟩|⟨b,h⟩:=io h
   ·cases h;exact rn 3 (o [b0,b0,.no]) [] [0,7] [2] (Qa (nef b) q)
   have q:=Qa (net b) q;let o l:=o (b0::b1::l);obtain⟨c,h⟩|⟨c,h⟩:=io h
   ·cases h;exact rx 3 (o [b1,.no]) [] [2] [] (Qa (jDj c) q)
   have q:=Qa (jEj c) q;obtain⟨e,h⟩|⟨e,h⟩:=io h
   ·cases h;exact rx 3 (o [b0,b1]) [] [2] [] (Qa (jDj e) q)
   cases h;exact rn 3 (o [b0,b0]) [] [0,7] [2] (Qa (jEj e) q)
  have q:=Qa (jEj f) q;let o l:=o (b0::.no::l);obtain⟨d,h⟩|⟨d,h⟩:=io h
  ·cases h;exact rx 3 (o [b1,.no]) [] [2] [] (Qa (eqt d) q)
  have q:=Qa (eqf d) q;obtain⟨a,h⟩|⟨a,h⟩:=io h
  ·cases h;exact rn 3 (o [b0,b0,.no]) [] [0,7] [2] (Qa (nef a) q)
  have q:=Qa (net a) q;let o l:=o (b0::b1::l);obtain⟨b,h⟩|⟨b,h⟩:=io h
  ·cases h;exact rx 3 (o [b1,.no]) [] [2] [] (Qa (jDj b) q)
  have q:=Qa (jEj b) q;obtain⟨c,h⟩|⟨c,h⟩:=io h
  ·cases h;exact rx 3 (o [b0,b1]) [] [2] [] (Qa (jDj c) q)
  cases h;exact rn 3 (o [b0,b0]) [] [0,7] [2] (Qa (jEj c) q)
 cases h;exact rx 3 [b0,.no] [] [0] [] (Qa g QL)
def Yi (n:Nat)(a0:jSj):Option (Bool) := (Q2 (Wn n a0) n 0).bind fun a=>match a with|.inl a=>(some false)|.inr a=>(if(!(a0.toList==(⟨#[]⟩:jSj).toList))=true then some (decide ((a0.size:Int)<=24)) else some false)
theorem jm {n a0 r}(h:Yi n a0=some r):Computes cx 147 [Qr5 a0] (B r):=by
 unfold Yi at h;have⟨b,h1,h⟩:=bo h;obtain b|b:=b
 ·obtain rfl:=oi h;exact rf [.lp [] [0,7] [2] .ret [(2,.d (B false))] [] 54] (Qa (QH JP h1) QL)
 have q:=Qa (QH JP h1) QL;let o(l:jOj):=.lp [] [0,7] [2] (.exit 0) [(0,.d (Qr5 a0))] [] 54::l;obtain⟨a,h⟩|⟨a,h⟩:=io h
 ·cases h;exact rf (o [b1]) (Qa a q)
 obtain rfl:=oi h;exact rf (o [b0]) (Qa (QA a) q)
def Vs (n:Nat)(a0:jSj):Option (Int) := (Yi n a0).bind fun a=>(Qm n (!a) 8).bind fun b=>some b
theorem G5 {n a0 r}(h:Vs n a0=some r):Computes cx 146 [Qr5 a0] (I r):=by unfold Vs at h;have⟨t1,h1,h⟩:=bo h;have⟨t2,h2,h⟩:=bo h;obtain rfl:=oi h;exact rf [.ret (B t1),.ret (I t2)] (Qa (Qu h2) (Qa (jm h1) QL))
def WN (n:Nat)(a0:jVj)(a:(Int×jVj)):Option (Int×jVj⊕jVj) := if a.1<((a0).length:Int) then(el Ww a0 a.1).bind fun b=>(Vs n b).bind fun c=>if Wa 8 ((a.2).length+1) then if Qh (a.1+1) then some (.inl ((a.1+1),(a.2++([I c]:jVj)))) else none else none else some (.inr a.2)
noncomputable def X5 (a0:jVj):Lp (Int×jVj) (jVj):=⟨fun a=>[(1,.d (.fn (.func 146) [] [])),(5,.own 5 0),(8,.d (.lst false 1 a0)),(9,.d (I ((a0).length:Int))),(10,.d (I a.1))],fun a=>[(5,.row 0 1 a.2)],fun _=>(.exit 0),fun _=>[(5,.own 5 0)],fun e=>[(5,.row 0 1 e)]⟩
theorem X2 {n a0}(b)(r)(h:WN n a0 b=some r):Rl (ZJ cx.P 145 0) 22 0 false (X5 a0) b r:=by
 unfold WN at h;obtain⟨a,h⟩|⟨a,h⟩:=io h
 ·have⟨ta2,ha2,h⟩:=bo h;have⟨ta3,ha3,h⟩:=bo h;have⟨ha4,h⟩:=gd h;have⟨ha5,h⟩:=gd h;cases h;exact rn 6 [b1,.el (Zy ta2),.ret (I ta3),b1] [] [1,5,8,9,10] [5] (Qa ha5 (Qa (ro 28 ha4) (Qa (G5 ha3) (allE Qr ha2 (Qa (jDj a) QL)))))
 cases h;exact rx 6 [b0] [] [5] [5] (Qa (jEj a) QL)
def Wf (n:Nat)(a0:jVj):Option (jVj) := (Q2 (WN n a0) n (0,[])).bind fun a=>some a
theorem Yp {n a0 r}(h:Wf n a0=some r):Computes cx 145 [.lst false 1 a0,.fn (.func 146) [] []] (.lst false 1 r):=by unfold Wf at h;have⟨t1,h1,h⟩:=bo h;obtain rfl:=oi h;exact rf [.lp [5,1] [1,5,8,9,10] [5] (.exit 0) [(5,.own 5 0)] [(5,.row 0 1 t1)] 30] (Qa (QH X2 h1) QL)
def Vr (n:Nat)(a0:Int):Option (Int) := (ZE n a0 0 999999999).bind fun a=>some a
theorem G4 {n a0 r}(h:Vr n a0=some r):Computes cx 149 [I a0] (I r):=by unfold Vr at h;have⟨t1,h1,h⟩:=bo h;obtain rfl:=oi h;exact rf [.ret (I t1)] (Qa (WK h1) QL)
def Wp (n:Nat)(a0:jVj)(a:(Int×jVj)):Option (Int×jVj⊕jVj) := if a.1<((a0).length:Int) then(el Vt a0 a.1).bind fun b=>(Vr n b).bind fun c=>if Wa 8 ((a.2).length+1) then if Qh (a.1+1) then some (.inl ((a.1+1),(a.2++([I c]:jVj)))) else none else none else some (.inr a.2)
noncomputable def Xa (a0:jVj):Lp (Int×jVj) (jVj):=⟨fun a=>[(1,.d (.fn (.func 149) [] [])),(5,.own 5 0),(8,.d (.lst false 1 a0)),(9,.d (I ((a0).length:Int))),(10,.d (I a.1))],fun a=>[(5,.row 0 1 a.2)],fun _=>(.exit 0),fun _=>[(5,.own 5 0)],fun e=>[(5,.row 0 1 e)]⟩
theorem G6 {n a0}(b)(r)(h:Wp n a0 b=some r):Rl (ZJ cx.P 148 0) 22 0 false (Xa a0) b r:=by
 unfold Wp at h;obtain⟨a,h⟩|⟨a,h⟩:=io h
 ·have⟨ta2,ha2,h⟩:=bo h;have⟨ta3,ha3,h⟩:=bo h;have⟨ha4,h⟩:=gd h;have⟨ha5,h⟩:=gd h;cases h;exact rn 6 [b1,.el (Q3 ta2),.ret (I ta3),b1] [] [1,5,8,9,10] [5] (Qa ha5 (Qa (ro 28 ha4) (Qa (G4 ha3) (allE Qi ha2 (Qa (jDj a) QL)))))
 cases h;exact rx 6 [b0] [] [5] [5] (Qa (jEj a) QL)
def ZU (n:Nat)(a0:jVj):Option (jVj) := (Q2 (Wp n a0) n (0,[])).bind fun a=>some a
theorem VT {n a0 r}(h:ZU n a0=some r):Computes cx 148 [.lst false 1 a0,.fn (.func 149) [] []] (.lst false 1 r):=by unfold ZU at h;have⟨t1,h1,h⟩:=bo h;obtain rfl:=oi h;exact rf [.lp [5,1] [1,5,8,9,10] [5] (.exit 0) [(5,.own 5 0)] [(5,.row 0 1 t1)] 30] (Qa (QH G6 h1) QL)
def VN (n:Nat)  : Option (Int) :=
 some 2
theorem Xu {n:Nat}  {r:Int}(h:VN n =some r):Computes cx 37 [B true,I 2] (I r):=by unfold VN at h;obtain rfl:=oi h;exact rf [.no] QL
def Uo (n:Nat)  : Option (Int) :=
 some 13
theorem ji {n:Nat}  {r:Int}(h:Uo n =some r):Computes cx 37 [B true,I 13] (I r):=by unfold Uo at h;obtain rfl:=oi h;exact rf [.no] QL
def WX (n:Nat)(a0:Int)(a1:jSj)(a2 a3:jVj)(a4:jSj):Option (Int) := if(VY (.string a1) Wr).isSome=true then((VY (.string a1) Wr).bind J8).bind fun h=>(ZE n a0 1 1000).bind fun i=>(Up n).bind fun m=>if((a2).length:Int)=(h.1.size:Int) then(Qm n (((a3).length:Int) != h.2.1) 2).bind fun e=>(Qo n ([I i,I m,I e])).bind fun j=>if j=0 then(Wf n a2).bind fun g=>(Qo n g).bind fun a=>(ZU n a3).bind fun b=>(Qo n b).bind fun c=>(Qm n (!(a4.toList==(⟨#[]⟩:jSj).toList)) 1).bind fun d=>(Qo n ([I a,I c,I d])).bind fun f=>some f else some j else(VN n).bind fun e=>(Qo n ([I i,I m,I e])).bind fun j=>if j=0 then(Wf n a2).bind fun g=>(Qo n g).bind fun a=>(ZU n a3).bind fun b=>(Qo n b).bind fun c=>(Qm n (!(a4.toList==(⟨#[]⟩:jSj).toList)) 1).bind fun d=>(Qo n ([I a,I c,I d])).bind fun f=>some f else some j else(ZE n a0 1 1000).bind fun h=>(Uo n).bind fun i=>if((a2).length:Int)=0 then(Qm n (((a3).length:Int) != 0) 2).bind fun k=>(Qo n ([I h,I i,I k])).bind fun e=>if e=0 then(Wf n a2).bind fun l=>(Qo n l).bind fun g=>(ZU n a3).bind fun a=>(Qo n a).bind fun b=>(Qm n (!(a4.toList==(⟨#[]⟩:jSj).toList)) 1).bind fun c=>(Qo n ([I g,I b,I c])).bind fun d=>some d else some e else(VN n).bind fun k=>(Qo n ([I h,I i,I k])).bind fun e=>if e=0 then(Wf n a2).bind fun l=>(Qo n l).bind fun g=>(ZU n a3).bind fun a=>(Qo n a).bind fun b=>(Qm n (!(a4.toList==(⟨#[]⟩:jSj).toList)) 1).bind fun c=>(Qo n ([I g,I b,I c])).bind fun d=>some d else some e
theorem Ja {n a0 a1 a2 a3 a4 r}(h:WX n a0 a1 a2 a3 a4=some r):Computes cx 43 [.agg [I a0,Qr5 a1,.lst false 1 a2,.lst false 1 a3,Qr5 a4]] (I r):=by
 unfold WX at h;let o(l:jOj):=b1::(no 28 l);obtain⟨e,h⟩|⟨e,h⟩:=io h
 ·have⟨t2,h2,h⟩:=bo h;have⟨t3,h3,h⟩:=bo h;have⟨t4,d,h⟩:=bo h;have q:=Qa (jj d) (Qa (WK h3) (Qa ((QbG (by kernel_rfl) (Qdv yf h2)):Zi true (.string a1) (.agg [Qr5 ⟨#[]⟩,I 0,.v (.nilFunc),.v (.nilFunc)]) Wr=some (.tup [.agg [Qr5 t2.1,I t2.2.1,.fn t2.2.2.1.1 t2.2.2.1.2.1 t2.2.2.1.2.2,.fn t2.2.2.2.1 t2.2.2.2.2.1 t2.2.2.2.2.2],B true])) QL));let o l:=o (.el (.tup [.agg [Qr5 t2.1,I t2.2.1,.fn t2.2.2.1.1 t2.2.2.1.2.1 t2.2.2.1.2.2,.fn t2.2.2.2.1 t2.2.2.2.2.1 t2.2.2.2.2.2],B true])::.ret (I t3)::.ret (I t4)::l);obtain⟨c,h⟩|⟨c,h⟩:=io h
  ·have⟨t6,h6,h⟩:=bo h;have⟨t7,a,h⟩:=bo h;have q:=Qa (leF (Qx a)) (Qa (Qu h6) (Qa (nef c) q));let o l:=o (b0::.ret (I t6)::.ret (I t7)::l);obtain⟨b,h⟩|⟨b,h⟩:=io h
   ·have⟨t9,h9,h⟩:=bo h;have⟨t10,h10,h⟩:=bo h;have⟨t11,h11,h⟩:=bo h;have⟨t12,h12,h⟩:=bo h;have⟨t13,h13,h⟩:=bo h;have⟨t14,h14,h⟩:=bo h;obtain rfl:=oi h;exact rf (o [b0,.ret (.lst false 1 t9),.ret (I t10),.ret (.lst false 1 t11),.ret (I t12),.ret (I t13),.ret (I t14)]) (Qa (leF (Qx h14)) (Qa (Qu h13) (Qa (Qx h12) (Qa (VT h11) (Qa (Qx h10) (Qa (Yp h9) (Qa (nef b) q)))))))
   obtain rfl:=oi h;exact rf (o [b1]) (Qa (net b) q)
  have⟨t6,h6,h⟩:=bo h;have⟨t7,a,h⟩:=bo h;have q:=Qa (leF (Qx a)) (Qa (Xu h6) (Qa (net c) q));let o l:=o (b1::.ret (I t6)::.ret (I t7)::l);obtain⟨b,h⟩|⟨b,h⟩:=io h
  ·have⟨t9,h9,h⟩:=bo h;have⟨t10,h10,h⟩:=bo h;have⟨t11,h11,h⟩:=bo h;have⟨t12,h12,h⟩:=bo h;have⟨t13,h13,h⟩:=bo h;have⟨t14,h14,h⟩:=bo h;obtain rfl:=oi h;exact rf (o [b0,.ret (.lst false 1 t9),.ret (I t10),.ret (.lst false 1 t11),.ret (I t12),.ret (I t13),.ret (I t14)]) (Qa (leF (Qx h14)) (Qa (Qu h13) (Qa (Qx h12) (Qa (VT h11) (Qa (Qx h10) (Qa (Yp h9) (Qa (nef b) q)))))))
  obtain rfl:=oi h;exact rf (o [b1]) (Qa (net b) q)
 have⟨t2,h2,h⟩:=bo h;have⟨t3,h3,h⟩:=bo h;have q:=Qa (ji h3) (Qa (WK h2) (Qa ((QaB (by kernel_rfl) (mno e)):Zi true (.string a1) (.agg [Qr5 ⟨#[]⟩,I 0,.v (.nilFunc),.v (.nilFunc)]) Wr=some (.tup [.agg [Qr5 ⟨#[]⟩,I 0,.v (.nilFunc),.v (.nilFunc)],B false])) QL));let o l:=o (.el (.tup [.agg [Qr5 ⟨#[]⟩,I 0,.v (.nilFunc),.v (.nilFunc)],B false])::.ret (I t2)::.ret (I t3)::l);obtain⟨d,h⟩|⟨d,h⟩:=io h
 ·have⟨t5,c,h⟩:=bo h;have⟨t6,h6,h⟩:=bo h;have q:=Qa (leF (Qx h6)) (Qa (Qu c) (Qa (nef d) q));let o l:=o (b0::.ret (I t5)::.ret (I t6)::l);obtain⟨a,h⟩|⟨a,h⟩:=io h
  ·have⟨t8,b,h⟩:=bo h;have⟨t9,h9,h⟩:=bo h;have⟨t10,h10,h⟩:=bo h;have⟨t11,h11,h⟩:=bo h;have⟨t12,h12,h⟩:=bo h;have⟨t13,h13,h⟩:=bo h;obtain rfl:=oi h;exact rf (o [b0,.ret (.lst false 1 t8),.ret (I t9),.ret (.lst false 1 t10),.ret (I t11),.ret (I t12),.ret (I t13)]) (Qa (leF (Qx h13)) (Qa (Qu h12) (Qa (Qx h11) (Qa (VT h10) (Qa (Qx h9) (Qa (Yp b) (Qa (nef a) q)))))))
  obtain rfl:=oi h;exact rf (o [b1]) (Qa (net a) q)
 have⟨t5,c,h⟩:=bo h;have⟨t6,h6,h⟩:=bo h;have q:=Qa (leF (Qx h6)) (Qa (Xu c) (Qa (net d) q));let o l:=o (b1::.ret (I t5)::.ret (I t6)::l);obtain⟨a,h⟩|⟨a,h⟩:=io h
 ·have⟨t8,b,h⟩:=bo h;have⟨t9,h9,h⟩:=bo h;have⟨t10,h10,h⟩:=bo h;have⟨t11,h11,h⟩:=bo h;have⟨t12,h12,h⟩:=bo h;have⟨t13,h13,h⟩:=bo h;obtain rfl:=oi h;exact rf (o [b0,.ret (.lst false 1 t8),.ret (I t9),.ret (.lst false 1 t10),.ret (I t11),.ret (I t12),.ret (I t13)]) (Qa (leF (Qx h13)) (Qa (Qu h12) (Qa (Qx h11) (Qa (VT h10) (Qa (Qx h9) (Qa (Yp b) (Qa (nef a) q)))))))
 obtain rfl:=oi h;exact rf (o [b1]) (Qa (net a) q)
def Un (n:Nat)  : Option (Int) :=
 some 21
theorem jh {n:Nat}  {r:Int}(h:Un n =some r):Computes cx 37 [B true,I 21] (I r):=by unfold Un at h;obtain rfl:=oi h;exact rf [.no] QL
theorem mk1 (c:jSj)(r:D){k:jSj}{l:List UInt8}(h:k.data.toList=l)(hc:c.data.toList=l:=by rfl)(a:Zi false (.string c) (.agg [Qr5 ⟨#[]⟩,I 0,.v (.nilFunc),.v (.nilFunc)]) Wr=some r:=by kernel_rfl):Zi false (.string k) (.agg [Qr5 ⟨#[]⟩,I 0,.v (.nilFunc),.v (.nilFunc)]) Wr=some r:=QO h hc a
def QB (x:jSj×jSj×Int×Int×Bool×Bool):D:=.agg [Qr5 x.1,Qr5 x.2.1,I x.2.2.1,I x.2.2.2.1,B x.2.2.2.2.1,B x.2.2.2.2.2]
def QM:D->Option (jSj×jSj×Int×Int×Bool×Bool)
 | .agg [c0,c1,c2,c3,c4,c5]=>(JR c0).bind fun a=>(JR c1).bind fun b=>(Ya .i64 c2).bind fun c=>(Ya .i64 c3).bind fun d=>(Gw c4).bind fun e=>(Gw c5).bind fun f=>some (a,b,c,d,e,f)
 | _=>none
theorem Qq {d:D}{x:jSj×jSj×Int×Int×Bool×Bool}(h:QM d=some x):d=QB x:=by
 unfold QM at h;split at h;case h_2=>cases h
 obtain⟨o,i,h⟩:=ZX h;obtain⟨p,j,h⟩:=ZX h;obtain⟨q,k,h⟩:=ZX h;obtain⟨r,l,h⟩:=ZX h;obtain⟨s,m,h⟩:=ZX h;obtain⟨t,n,h⟩:=ZX h;cases h;have a:=YU i;have b:=YU j;have c:=WS k;have e:=WS l;have f:=KG m;have g:=KG n;rw[a,b,c,e,f,g];rfl
def Z0 (n:Nat)(a0 a1:jVj)(a2 a3:Int)(a4 a5:Bool)(a6 a7 a8:Int)(e c d:jVj)(b:(Int×Int)):Option (Int×Int⊕Int) := if b.1<((c).length:Int) then if 0<=b.1/\b.1<((c).length:Int) then((nth (c) (Int.toNat b.1)).bind QM).bind fun a=>if a.2.2.2.2.2=true then if Qh (1000 - a.2.2.2.1) then if Qh (a.2.2.1*(1000 - a.2.2.2.1)) then if Qh ((a.2.2.1*(1000 - a.2.2.2.1))*a3) then if Qh (b.2+((a.2.2.1*(1000 - a.2.2.2.1))*a3)) then if Qh (b.1+1) then some (.inl ((b.1+1),(b.2+((a.2.2.1*(1000 - a.2.2.2.1))*a3)))) else none else none else none else none else none else if Qh (b.1+1) then some (.inl ((b.1+1),b.2)) else none else none else some (.inr b.2)
noncomputable def J5 (a0 a1:jVj)(a2 a3:Int)(a4 a5:Bool)(a6 a7 a8:Int)(f a b:jVj):Lp (Int×Int) (Int):=⟨fun c=>[(0,.own 23 0),(8,.own 11 0),(9,.d (I ((a).length:Int))),(10,.d (I c.1))],fun c=>[(0,.box (.agg [.own 1 0,.own 2 0,.d (I a2),.d (I a3),.d (B a4),.d (B a5),.d (I a6),.d (I a7),.d (I a8),.own 10 0,.own 11 0,.own 12 0])),(1,.row 0 5 a0),(2,.row 0 5 a1),(10,.row 0 1 f),(11,.row 0 6 a),(12,.row 0 7 b),(13,.box (.ptr 0 0 0 0 2)),(15,.box (.d (I c.2))),(19,.box (.ptr 0 0 0 0 2)),(23,.loop true [(6,.fn (.func 160) [] [.ptr 19 0 0 0 0]),(5,.ptr 0 0 0 0 2),(3,.ptr 15 0 0 0 0),(2,.d (I 0)),(1,.ptr 13 0 0 0 0),(0,.ptr 0 0 0 0 2)] [7] (ZY cx.P 57 0).1 (ZY cx.P 57 0).2 22)],fun _=>(.exit 0),fun _=>[],fun e=>[(0,.box (.agg [.own 1 0,.own 2 0,.d (I a2),.d (I a3),.d (B a4),.d (B a5),.d (I a6),.d (I a7),.d (I a8),.own 10 0,.own 11 0,.own 12 0])),(1,.row 0 5 a0),(2,.row 0 5 a1),(10,.row 0 1 f),(11,.row 0 6 a),(12,.row 0 7 b),(13,.box (.ptr 0 0 0 0 2)),(15,.box (.d (I e))),(19,.box (.ptr 0 0 0 0 2)),(23,.loop true [(6,.fn (.func 160) [] [.ptr 19 0 0 0 0]),(5,.ptr 0 0 0 0 2),(3,.ptr 15 0 0 0 0),(2,.d (I 0)),(1,.ptr 13 0 0 0 0),(0,.ptr 0 0 0 0 2)] [7] (ZY cx.P 57 0).1 (ZY cx.P 57 0).2 22)]⟩
theorem J3 {n a0 a1 a2 a3 a4 a5 a6 a7 a8 e c d}(f)(r)(h:Z0 n a0 a1 a2 a3 a4 a5 a6 a7 a8 e c d f=some r):Rl (ZJ cx.P 160 0) 23 24 false (J5 a0 a1 a2 a3 a4 a5 a6 a7 a8 e c d) f r:=by
 unfold Z0 at h;obtain⟨a,h⟩|⟨a,h⟩:=io h
 ·have⟨ha2,h⟩:=gd h;have⟨ta3,ha3,h⟩:=bo h;have q:=Qa (QX Qq ha3) (Qa ha2 (Qa (jDj a) QL));let o(l:jOj):=b1::b1::.el (QB ta3)::l;obtain⟨b,h⟩|⟨b,h⟩:=io h
  ·have⟨ha5,h⟩:=gd h;have⟨ha6,h⟩:=gd h;have⟨ha7,h⟩:=gd h;have⟨ha8,h⟩:=gd h;have⟨ha9,h⟩:=gd h;cases h;exact rn 30 (o [b1,.no]) [] [0,8,9,10] [0,1,2,10,11,12,13,15,19,23] (Qa ha9 (Qa ha8 (Qa ha7 (Qa ha6 (Qa ha5 (Qa b q))))))
  have⟨ha5,h⟩:=gd h;cases h;exact rn 30 (o [b0,.no]) [] [0,8,9,10] [0,1,2,10,11,12,13,15,19,23] (Qa ha5 (Qa (QA b) q))
 cases h;exact rx 30 [b0] [] [] [0,1,2,10,11,12,13,15,19,23] (Qa (jEj a) QL)
def Wq (n:Nat)(a0 a1:jVj)(a2 a3:Int)(a4 a5:Bool)(a6 a7 a8:Int)(c a b:jVj):Option (Int) := (Q2 (Z0 n a0 a1 a2 a3 a4 a5 a6 a7 a8 c a b) n (0,0)).bind fun d=>some d
theorem Ut {n a0 a1 a2 a3 a4 a5 a6 a7 a8 c a b r}(h:Wq n a0 a1 a2 a3 a4 a5 a6 a7 a8 c a b=some r):ComputesO cx 57 [.ptr 0 0 0 0 2] (some (Qb a0 a1 a2 a3 a4 a5 a6 a7 a8 c a b)) (.d (I r)) (Qb a0 a1 a2 a3 a4 a5 a6 a7 a8 c a b) ZV:=by unfold Wq at h;have⟨t1,h1,h⟩:=bo h;obtain rfl:=oi h;exact rfO 0 [b1,.lp [] [0,8,9,10] [0,1,2,10,11,12,13,15,19,23] (.exit 0) [] [(0,.box (.agg [.own 1 0,.own 2 0,.d (I a2),.d (I a3),.d (B a4),.d (B a5),.d (I a6),.d (I a7),.d (I a8),.own 10 0,.own 11 0,.own 12 0])),(1,.row 0 5 a0),(2,.row 0 5 a1),(10,.row 0 1 c),(11,.row 0 6 a),(12,.row 0 7 b),(13,.box (.ptr 0 0 0 0 2)),(15,.box (.d (I t1))),(19,.box (.ptr 0 0 0 0 2)),(23,.loop true [(6,.fn (.func 160) [] [.ptr 19 0 0 0 0]),(5,.ptr 0 0 0 0 2),(3,.ptr 15 0 0 0 0),(2,.d (I 0)),(1,.ptr 13 0 0 0 0),(0,.ptr 0 0 0 0 2)] [7] (ZY cx.P 57 0).1 (ZY cx.P 57 0).2 22)] 72] (Qa (QH J3 h1) QL)
def Q8 (n:Nat)(a0:Int)(a1 a2:jVj)(a3 a4:Int)(a5 a6:Bool)(a7 a8 e:Int)(b c d:jVj):Option (Int×Int) := (Wq n a1 a2 a3 a4 a5 a6 a7 a8 e b c d).bind fun a=>if Qh (a0 - a3) then if Qh (a*(a0 - a3)) then if Qh (a7+(a*(a0 - a3))) then if Qh (a8+(a*(a0 - a3))) then some ((a7+(a*(a0 - a3))),(a8+(a*(a0 - a3)))) else none else none else none else none
theorem WA {n a0 a1 a2 a3 a4 a5 a6 a7 a8 e a b c r}(h:Q8 n a0 a1 a2 a3 a4 a5 a6 a7 a8 e a b c=some r):ComputesO cx 56 [.ptr 0 0 0 0 2,.d (I a0)] (some (Qb a1 a2 a3 a4 a5 a6 a7 a8 e a b c)) (.d (.agg [I r.1,I r.2])) (Qb a1 a2 a3 a4 a5 a6 a7 a8 e a b c) ZV:=by unfold Q8 at h;have⟨t1,h1,h⟩:=bo h;have⟨h2,h⟩:=gd h;have⟨h3,h⟩:=gd h;have⟨h4,h⟩:=gd h;have⟨h5,h⟩:=gd h;cases h;exact rfO 0 [.obj (some 0) (.d (I t1)) (Qb a1 a2 a3 a4 a5 a6 a7 a8 e a b c) ZV] (Qa h5 (Qa h4 (Qa h3 (Qa h2 (Qa (Ut h1) QL)))))
def Qp (n:Nat)(a0:Int)(a1 a2:jVj)(a3 a4:Int)(a5 a6:Bool)(a7 a8 e:Int)(b c d:jVj):Option (Int) := (Q8 n a0 a1 a2 a3 a4 a5 a6 a7 a8 e b c d).bind fun a=>(Qm n (!((a.1==(minI a.1 1000000000000000))&&((a.2==(minI a.2 1000000000000000))&&true))) 4).bind fun f=>some f
theorem Qv {n a0 a1 a2 a3 a4 a5 a6 a7 a8 e a b c r}(h:Qp n a0 a1 a2 a3 a4 a5 a6 a7 a8 e a b c=some r):ComputesO cx 55 [.ptr 0 0 0 0 2,.d (I a0)] (some (Qb a1 a2 a3 a4 a5 a6 a7 a8 e a b c)) (.d (I r)) (Qb a1 a2 a3 a4 a5 a6 a7 a8 e a b c) ZV:=by unfold Qp at h;have⟨t1,h1,h⟩:=bo h;have⟨t2,h2,h⟩:=bo h;obtain rfl:=oi h;exact rfO 0 [.obj (some 0) (.d (.agg [I t1.1,I t1.2])) (Qb a1 a2 a3 a4 a5 a6 a7 a8 e a b c) ZV,.ret (I t2)] (Qa (Qu h2) (Qa (WA h1) QL))
def Wj (n:Nat)(a0:jVj)(a1:jSj)(a:Int):Option (Int⊕Int⊕Unit) := if a<((a0).length:Int) then(el Ww a0 a).bind fun b=>if(a1.toList==b.toList)=true then some (.inr (.inl a)) else if Qh (a+1) then some (.inl (a+1)) else none else some (.inr (.inr ()))
noncomputable def X3 (a0:jVj)(a1:jSj):Lp (Int) (Int⊕Unit):=⟨fun a=>[(0,.d (.lst false 1 a0)),(1,.d (Qr5 a1)),(7,.d (I ((a0).length:Int))),(8,.d (I a))],fun _=>[],fun
 | (.inl e)=>.ret
 | (.inr e)=>(.exit 0),fun
 | (.inl e)=>[(4,.d (I e))]
 | (.inr e)=>[],fun _=>[]⟩
theorem Kh {n a0 a1}(c)(r)(h:Wj n a0 a1 c=some r):Rl (ZJ cx.P 161 0) 19 0 false (X3 a0 a1) c r:=by
 unfold Wj at h;obtain⟨a,h⟩|⟨a,h⟩:=io h
 ·have⟨ta2,ha2,h⟩:=bo h;have q:=allE Qr ha2 (Qa (jDj a) QL);obtain⟨b,h⟩|⟨b,h⟩:=io h
  ·cases h;exact rx 4 [b1,.el (Zy ta2),b1] [] [4] [] (Qa b q)
  have⟨ha4,h⟩:=gd h;cases h;exact rn 4 [b1,.el (Zy ta2),b0] [] [0,1,7,8] [] (Qa ha4 (Qa (QA b) q))
 cases h;exact rx 4 [b0] [] [] [] (Qa (jEj a) QL)
def QE (n:Nat)(a0:jVj)(a1:jSj):Option (Int) := (Q2 (Wj n a0 a1) n 0).bind fun a=>match a with|.inl a=>(some a)|.inr a=>(some (-1))
theorem QK {n a0 a1 r}(h:QE n a0 a1=some r):Computes cx 161 [.lst false 1 a0,Qr5 a1] (I r):=by
 unfold QE at h;have⟨a,h1,h⟩:=bo h;obtain a|a:=a
 ·obtain rfl:=oi h;exact rf [.lp [] [0,1,7,8] [] .ret [(4,.d (I a))] [] 26] (Qa (QH Kh h1) QL)
 cases h;exact rf [.lp [] [0,1,7,8] [] (.exit 0) [] [] 26] (Qa (QH Kh h1) QL)
def Zb (n:Nat)(a0:jVj)(a1:jSj):Option (Bool) := (QE n a0 a1).bind fun a=>some (decide (a>=0))
theorem Z2 {n a0 a1 r}(h:Zb n a0 a1=some r):Computes cx 100 [.lst false 1 a0,Qr5 a1] (B r):=by unfold Zb at h;have⟨t1,h1,h⟩:=bo h;cases h;exact rf [.ret (I t1)] (Qa (QK h1) QL)
def ZN (n:Nat)(a0 a1:jSj)(a2 a3:Int)(a4 a5:Bool):Option (jSj) := some a0
theorem Yw {n a0 a1 a2 a3 a4 a5 r}(h:ZN n a0 a1 a2 a3 a4 a5=some r):Computes cx 177 [.agg [Qr5 a0,Qr5 a1,I a2,I a3,B a4,B a5]] (Qr5 r):=by unfold ZN at h;obtain rfl:=oi h;exact rf [] QL
def Q7 (x:jSj×Int×Int×Int×Int×Int×Bool):D:=.agg [Qr5 x.1,I x.2.1,I x.2.2.1,I x.2.2.2.1,I x.2.2.2.2.1,I x.2.2.2.2.2.1,B x.2.2.2.2.2.2]
def Z6:D->Option (jSj×Int×Int×Int×Int×Int×Bool)
 | .agg [c0,c1,c2,c3,c4,c5,c6]=>(JR c0).bind fun a=>(Ya .i64 c1).bind fun b=>(Ya .i64 c2).bind fun c=>(Ya .i64 c3).bind fun d=>(Ya .i64 c4).bind fun e=>(Ya .i64 c5).bind fun f=>(Gw c6).bind fun g=>some (a,b,c,d,e,f,g)
 | _=>none
theorem Q0 {d:D}{x:jSj×Int×Int×Int×Int×Int×Bool}(h:Z6 d=some x):d=Q7 x:=by
 unfold Z6 at h;split at h;case h_2=>cases h
 obtain⟨q,j,h⟩:=ZX h;obtain⟨r,k,h⟩:=ZX h;obtain⟨s,l,h⟩:=ZX h;obtain⟨t,m,h⟩:=ZX h;obtain⟨u,n,h⟩:=ZX h;obtain⟨v,o,h⟩:=ZX h;obtain⟨y,p,h⟩:=ZX h;cases h;have a:=YU j;have b:=WS k;have c:=WS l;have e:=WS m;have f:=WS n;have g:=WS o;have i:=KG p;rw[a,b,c,e,f,g,i];rfl
def ZM (n:Nat)(a0:jSj)(a1 a2 a3 a4 a5:Int)(a6:Bool):Option (jSj) := some a0
theorem Yv {n a0 a1 a2 a3 a4 a5 a6 r}(h:ZM n a0 a1 a2 a3 a4 a5 a6=some r):Computes cx 179 [.agg [Qr5 a0,I a1,I a2,I a3,I a4,I a5,B a6]] (Qr5 r):=by unfold ZM at h;obtain rfl:=oi h;exact rf [] QL
def ZP (n:Nat)(a1 a2:jVj)(a3 a4:Int)(a5 a6:Bool)(a7 a8 g:Int)(e c f:jVj)(b:(Int×jVj)):Option (Int×jVj⊕jVj) := if b.1<((c).length:Int) then if 0<=b.1/\b.1<((c).length:Int) then((nth (c) (Int.toNat b.1)).bind QM).bind fun a=>(ZN n a.1 a.2.1 a.2.2.1 a.2.2.2.1 a.2.2.2.2.1 a.2.2.2.2.2).bind fun d=>if Wa 16 ((b.2).length+1) then if Qh (b.1+1) then some (.inl ((b.1+1),(b.2++([.v (.string d)]:jVj)))) else none else none else none else some (.inr b.2)
noncomputable def Jr (a1 a2:jVj)(a3 a4:Int)(a5 a6:Bool)(a7 a8 g:Int)(b a c:jVj):Lp (Int×jVj) (jVj):=⟨fun f=>[(1,.d (.fn (.func 177) [] [])),(5,.own 30 0),(8,.own 11 0),(9,.d (I ((a).length:Int))),(10,.d (I f.1))],fun f=>[(0,.box (.agg [.own 1 0,.own 2 0,.d (I a3),.d (I a4),.d (B a5),.d (B a6),.d (I a7),.d (I a8),.d (I g),.own 10 0,.own 11 0,.own 12 0])),(1,.row 0 5 a1),(2,.row 0 5 a2),(10,.row 0 1 b),(11,.row 0 6 a),(12,.row 0 7 c),(30,.row 0 1 f.2)],fun _=>(.exit 0),fun _=>[(5,.own 30 0)],fun e=>[(0,.box (.agg [.own 1 0,.own 2 0,.d (I a3),.d (I a4),.d (B a5),.d (B a6),.d (I a7),.d (I a8),.d (I g),.own 10 0,.own 11 0,.own 12 0])),(1,.row 0 5 a1),(2,.row 0 5 a2),(10,.row 0 1 b),(11,.row 0 6 a),(12,.row 0 7 c),(30,.row 0 1 e)]⟩
theorem Jo {n a1 a2 a3 a4 a5 a6 a7 a8 e b c d}(f)(r)(h:ZP n a1 a2 a3 a4 a5 a6 a7 a8 e b c d f=some r):Rl (ZJ cx.P 58 0) 22 25 false (Jr a1 a2 a3 a4 a5 a6 a7 a8 e b c d) f r:=by
 unfold ZP at h;obtain⟨a,h⟩|⟨a,h⟩:=io h
 ·have⟨ha2,h⟩:=gd h;have⟨ta3,ha3,h⟩:=bo h;have⟨ta4,ha4,h⟩:=bo h;have⟨ha5,h⟩:=gd h;have⟨ha6,h⟩:=gd h;cases h;exact rn 31 [b1,b1,.el (QB ta3),.ret (Qr5 ta4),b1] [] [1,5,8,9,10] [0,1,2,10,11,12,30] (Qa ha6 (Qa (ro 9 ha5) (Qa (Yw ha4) (Qa (QX Qq ha3) (Qa ha2 (Qa (jDj a) QL))))))
 cases h;exact rx 31 [b0] [] [5] [0,1,2,10,11,12,30] (Qa (jEj a) QL)
def ZO (n:Nat)(a1 a2:jVj)(a3 a4:Int)(a5 a6:Bool)(a7 a8 g:Int)(e f c:jVj)(b:(Int×jVj)):Option (Int×jVj⊕jVj) := if b.1<((c).length:Int) then if 0<=b.1/\b.1<((c).length:Int) then((nth (c) (Int.toNat b.1)).bind Z6).bind fun a=>(ZM n a.1 a.2.1 a.2.2.1 a.2.2.2.1 a.2.2.2.2.1 a.2.2.2.2.2.1 a.2.2.2.2.2.2).bind fun d=>if Wa 16 ((b.2).length+1) then if Qh (b.1+1) then some (.inl ((b.1+1),(b.2++([.v (.string d)]:jVj)))) else none else none else none else some (.inr b.2)
noncomputable def Jq (a1 a2:jVj)(a3 a4:Int)(a5 a6:Bool)(a7 a8 g:Int)(b c a:jVj):Lp (Int×jVj) (jVj):=⟨fun f=>[(1,.d (.fn (.func 179) [] [])),(5,.own 30 0),(8,.own 12 0),(9,.d (I ((a).length:Int))),(10,.d (I f.1))],fun f=>[(0,.box (.agg [.own 1 0,.own 2 0,.d (I a3),.d (I a4),.d (B a5),.d (B a6),.d (I a7),.d (I a8),.d (I g),.own 10 0,.own 11 0,.own 12 0])),(1,.row 0 5 a1),(2,.row 0 5 a2),(10,.row 0 1 b),(11,.row 0 6 c),(12,.row 0 7 a),(30,.row 0 1 f.2)],fun _=>(.exit 0),fun _=>[(5,.own 30 0)],fun e=>[(0,.box (.agg [.own 1 0,.own 2 0,.d (I a3),.d (I a4),.d (B a5),.d (B a6),.d (I a7),.d (I a8),.d (I g),.own 10 0,.own 11 0,.own 12 0])),(1,.row 0 5 a1),(2,.row 0 5 a2),(10,.row 0 1 b),(11,.row 0 6 c),(12,.row 0 7 a),(30,.row 0 1 e)]⟩
theorem Jn {n a1 a2 a3 a4 a5 a6 a7 a8 e b c d}(f)(r)(h:ZO n a1 a2 a3 a4 a5 a6 a7 a8 e b c d f=some r):Rl (ZJ cx.P 178 0) 22 25 false (Jq a1 a2 a3 a4 a5 a6 a7 a8 e b c d) f r:=by
 unfold ZO at h;obtain⟨a,h⟩|⟨a,h⟩:=io h
 ·have⟨ha2,h⟩:=gd h;have⟨ta3,ha3,h⟩:=bo h;have⟨ta4,ha4,h⟩:=bo h;have⟨ha5,h⟩:=gd h;have⟨ha6,h⟩:=gd h;cases h;exact rn 31 [b1,b1,.el (Q7 ta3),.ret (Qr5 ta4),b1] [] [1,5,8,9,10] [0,1,2,10,11,12,30] (Qa ha6 (Qa (ro 9 ha5) (Qa (Yv ha4) (Qa (QX Q0 ha3) (Qa ha2 (Qa (jDj a) QL))))))
 cases h;exact rx 31 [b0] [] [5] [0,1,2,10,11,12,30] (Qa (jEj a) QL)
def Qw (n:Nat)(a0:Int)(a1 a2:jVj)(a3 a4:Int)(a5 a6:Bool)(a7 a8 e:Int)(a b c:jVj):Option (jVj) := if a0=115 then none else if a0=109 then(Q2 (ZP n a1 a2 a3 a4 a5 a6 a7 a8 e a b c) n (0,[])).bind fun d=>some d else(Q2 (ZO n a1 a2 a3 a4 a5 a6 a7 a8 e a b c) n (0,[])).bind fun d=>some d
theorem QC {n a0 a1 a2 a3 a4 a5 a6 a7 a8 e a b c r}(h:Qw n a0 a1 a2 a3 a4 a5 a6 a7 a8 e a b c=some r):ComputesO cx 101 [.ptr 0 0 0 0 2,.d (.v (.int .u8 a0))] (some (Qb a1 a2 a3 a4 a5 a6 a7 a8 e a b c)) (.d (.lst false 1 r)) (Qb a1 a2 a3 a4 a5 a6 a7 a8 e a b c) ZV:=by
 unfold Qw at h;obtain⟨g,h⟩|⟨g,h⟩:=io h
 ·cases h
 have q:=Qa (eqf g) QL;obtain⟨f,h⟩|⟨f,h⟩:=io h
 ·have⟨t3,h3,h⟩:=bo h;obtain rfl:=oi h;exact rfO 0 [b0,b1,b1,.lp [5,1] [1,5,8,9,10] [0,1,2,10,11,12,30] (.exit 0) [(5,.own 30 0)] [(0,.box (.agg [.own 1 0,.own 2 0,.d (I a3),.d (I a4),.d (B a5),.d (B a6),.d (I a7),.d (I a8),.d (I e),.own 10 0,.own 11 0,.own 12 0])),(1,.row 0 5 a1),(2,.row 0 5 a2),(10,.row 0 1 a),(11,.row 0 6 b),(12,.row 0 7 c),(30,.row 0 1 t3)] 56] (Qa (QH Jo h3) (Qa (eqt f) q))
 have⟨t3,h3,h⟩:=bo h;obtain rfl:=oi h;exact rfO 0 [b0,b0,b1,.lp [5,1] [1,5,8,9,10] [0,1,2,10,11,12,30] (.exit 0) [(5,.own 30 0)] [(0,.box (.agg [.own 1 0,.own 2 0,.d (I a3),.d (I a4),.d (B a5),.d (B a6),.d (I a7),.d (I a8),.d (I e),.own 10 0,.own 11 0,.own 12 0])),(1,.row 0 5 a1),(2,.row 0 5 a2),(10,.row 0 1 a),(11,.row 0 6 b),(12,.row 0 7 c),(30,.row 0 1 t3)] 56] (Qa (QH Jn h3) (Qa (eqf f) q))
def Qg (n:Nat)(a0:jSj)(a1:Int)(a2 a3:FnD)(a4:Int)(a5:jSj)(a6 a7:jVj)(a8:jSj)(r g:jVj)(h i:Int)(j k:Bool)(l m o:Int)(e p q:jVj)(a:(Bool×Int)):Option (Bool×Int⊕Unit⊕Bool) := if a.2<(a0.size:Int) then(WQ a0 a.2).bind fun d=>if d<97 then if(IntKind.wrap .u8 (d+32))=115 then(el Ww a6 a.2).bind fun b=>(Zb n e b).bind fun c=>if a.1=true then if Qh (a.2+1) then some (.inl (true,(a.2+1))) else none else if Qh (a.2+1) then some (.inl (c,(a.2+1))) else none else(Qw n (IntKind.wrap .u8 (d+32)) r g h i j k l m o e p q).bind fun b=>(el Ww a6 a.2).bind fun c=>(Zb n b c).bind fun f=>if a.1=true then if Qh (a.2+1) then some (.inl (true,(a.2+1))) else none else if Qh (a.2+1) then some (.inl (f,(a.2+1))) else none else if d=115 then(el Ww a6 a.2).bind fun b=>(Zb n e b).bind fun c=>if c=true then if a.1=true then if Qh (a.2+1) then some (.inl (true,(a.2+1))) else none else if Qh (a.2+1) then some (.inl (false,(a.2+1))) else none else some (.inr (.inl ())) else(Qw n d r g h i j k l m o e p q).bind fun b=>(el Ww a6 a.2).bind fun c=>(Zb n b c).bind fun f=>if f=true then if a.1=true then if Qh (a.2+1) then some (.inl (true,(a.2+1))) else none else if Qh (a.2+1) then some (.inl (false,(a.2+1))) else none else some (.inr (.inl ())) else some (.inr (.inr a.1))
noncomputable def Js (a0:jSj)(a1:Int)(a2 a3:FnD)(a4:Int)(a5:jSj)(a6 a7:jVj)(a8:jSj)(n a:jVj)(b c:Int)(f g:Bool)(h i j:Int)(k l m:jVj):Lp (Bool×Int) (Unit⊕Bool):=⟨fun o=>[(0,.ptr 0 0 0 0 2),(4,.ptr 13 0 0 0 0),(5,.ptr 14 0 0 0 0),(7,.d (B o.1)),(14,.d (I (a0.size:Int))),(15,.d (I o.2))],fun _=>[(0,.box (.agg [.own 1 0,.own 2 0,.d (I b),.d (I c),.d (B f),.d (B g),.d (I h),.d (I i),.d (I j),.own 10 0,.own 11 0,.own 12 0])),(1,.row 0 5 n),(2,.row 0 5 a),(10,.row 0 1 k),(11,.row 0 6 l),(12,.row 0 7 m),(13,.box (.d (.agg [Qr5 a0,I a1,.fn a2.1 a2.2.1 a2.2.2,.fn a3.1 a3.2.1 a3.2.2]))),(14,.box (.d (.agg [I a4,Qr5 a5,.lst false 1 a6,.lst false 1 a7,Qr5 a8])))],fun
 | (.inl e)=>.ret
 | (.inr e)=>(.exit 0),fun
 | (.inl e)=>[(6,.d (I 10))]
 | (.inr e)=>[(7,.d (B e))],fun _=>[(0,.box (.agg [.own 1 0,.own 2 0,.d (I b),.d (I c),.d (B f),.d (B g),.d (I h),.d (I i),.d (I j),.own 10 0,.own 11 0,.own 12 0])),(1,.row 0 5 n),(2,.row 0 5 a),(10,.row 0 1 k),(11,.row 0 6 l),(12,.row 0 7 m)]⟩
theorem Yx {n a0 a1 a2 a3 a4 a5 a6 a7 a8 A g i j k m p s t u x y}(E)(r)(h:Qg n a0 a1 a2 a3 a4 a5 a6 a7 a8 A g i j k m p s t u x y E=some r):Rl (ZJ cx.P 150 0) 52 13 false (Js a0 a1 a2 a3 a4 a5 a6 a7 a8 A g i j k m p s t u x y) E r:=by
 unfold Qg at h;obtain⟨z,h⟩|⟨z,h⟩:=io h
 ·have⟨ta2,C,h⟩:=bo h;have q:=Qa (Zq C:QV cx.P (Instr.index 9 (.string a0) (.int .i64 E.2))=some (.int .u8 ta2)) (Qa (jDj z) QL);let o(l:jOj):=b1::.el (.v (.int .u8 ta2))::l;obtain⟨b,h⟩|⟨b,h⟩:=io h
  ·have q:=Qa (jDj b) q;obtain⟨f,h⟩|⟨f,h⟩:=io h
   ·have⟨ta5,ha5,h⟩:=bo h;have⟨ta6,ha6,h⟩:=bo h;have q:=Qa (Ud (jDj b)) (Qa (Z2 ha6) (allE Qr ha5 (Qa (eqt f) q)));let o l:=o (b1::.ix (-9)::b1::b1::.el (Zy ta5)::.ix 0::.ret (B ta6)::b0::.no::l);obtain⟨c,h⟩|⟨c,h⟩:=io h
    ·have⟨a,h⟩:=gd h;cases h;exact rn 21 (o [b1]) [] [0,4,5,7,14,15] [0,1,2,10,11,12,13,14] (Qa a (Qa c q))
    have⟨a,h⟩:=gd h;cases h;exact rn 21 (o [b0,b1]) [] [0,4,5,7,14,15] [0,1,2,10,11,12,13,14] (Qa a (Qa (jDj b) (Qa (QA c) q)))
   have⟨ta5,ha5,h⟩:=bo h;have⟨ta6,ha6,h⟩:=bo h;have⟨ta7,c,h⟩:=bo h;have q:=Qa (Ud (jDj b)) (Qa (Z2 c) (allE Qr ha6 (Qa (QC ha5) q)));let o l:=o (b1::.obj (some 0) (.d (.lst false 1 ta5)) (Qb A g i j k m p s t u x y) ZV::.el (Zy ta6)::.ret (B ta7)::b0::.no::l);obtain⟨a,h⟩|⟨a,h⟩:=io h
   ·have⟨e,h⟩:=gd h;cases h;exact rn 21 (o [b1]) [] [0,4,5,7,14,15] [0,1,2,10,11,12,13,14] (Qa e (Qa a q))
   have⟨e,h⟩:=gd h;cases h;exact rn 21 (o [b0,b1]) [] [0,4,5,7,14,15] [0,1,2,10,11,12,13,14] (Qa e (Qa (jDj b) (Qa (QA a) q)))
  have q:=Qa (jEj b) q;let o l:=o (b0::l);obtain⟨f,h⟩|⟨f,h⟩:=io h
  ·have⟨ta5,ha5,h⟩:=bo h;have⟨ta6,ha6,h⟩:=bo h;have q:=Qa (Uc (jEj b)) (Qa (Z2 ha6) (allE Qr ha5 (Qa (eqt f) q)));let o l:=o (.ix (-9)::b1::b1::.el (Zy ta5)::.ix 0::.ret (B ta6)::b1::l);obtain⟨c,h⟩|⟨c,h⟩:=io h
   ·have q:=Qa (Ud c) q;obtain⟨a,h⟩|⟨a,h⟩:=io h
    ·have⟨e,h⟩:=gd h;cases h;exact rn 21 (o [b0,b1]) [] [0,4,5,7,14,15] [0,1,2,10,11,12,13,14] (Qa e (Qa a q))
    have⟨e,h⟩:=gd h;cases h;exact rn 21 (o [b0,b0,b0]) [] [0,4,5,7,14,15] [0,1,2,10,11,12,13,14] (Qa e (Qa (jEj b) (Qa (QA a) q)))
   cases h;exact rx 21 (o [b1]) [] [6] [0,1,2,10,11,12] (Qa (Uc (QA c)) q)
  have⟨ta5,ha5,h⟩:=bo h;have⟨ta6,ha6,h⟩:=bo h;have⟨ta7,c,h⟩:=bo h;have q:=Qa (Uc (jEj b)) (Qa (Z2 c) (allE Qr ha6 (Qa (QC ha5) q)));let o l:=o (.obj (some 0) (.d (.lst false 1 ta5)) (Qb A g i j k m p s t u x y) ZV::.el (Zy ta6)::.ret (B ta7)::b1::l);obtain⟨a,h⟩|⟨a,h⟩:=io h
  ·have q:=Qa (Ud a) q;obtain⟨e,h⟩|⟨e,h⟩:=io h
   ·have⟨ha10,h⟩:=gd h;cases h;exact rn 21 (o [b0,b1]) [] [0,4,5,7,14,15] [0,1,2,10,11,12,13,14] (Qa ha10 (Qa e q))
   have⟨ha10,h⟩:=gd h;cases h;exact rn 21 (o [b0,b0,b0]) [] [0,4,5,7,14,15] [0,1,2,10,11,12,13,14] (Qa ha10 (Qa (jEj b) (Qa (QA e) q)))
  cases h;exact rx 21 (o [b1]) [] [6] [0,1,2,10,11,12] (Qa (Uc (QA a)) q)
 cases h;exact rx 21 [b0] [] [7] [0,1,2,10,11,12] (Qa (jEj z) QL)
def Qk (n:Nat)(a0:jSj)(a1:Int)(a2 a3:FnD)(a4:Int)(a5:jSj)(a6 a7:jVj)(a8:jSj)(m b:jVj)(c d:Int)(e f:Bool)(g h i:Int)(j k l:jVj):Option (Int) := (Q2 (Qg n a0 a1 a2 a3 a4 a5 a6 a7 a8 m b c d e f g h i j k l) n (false,0)).bind fun a=>match a with|.inl a=>(some 10)|.inr a=>((Qm n a 9).bind fun o=>some o)
theorem QI {n a0 a1 a2 a3 a4 a5 a6 a7 a8 o a b c e f g i j k l m r}(h:Qk n a0 a1 a2 a3 a4 a5 a6 a7 a8 o a b c e f g i j k l m=some r):ComputesO cx 150 [.ptr 0 0 0 0 2,.d (.agg [Qr5 a0,I a1,.fn a2.1 a2.2.1 a2.2.2,.fn a3.1 a3.2.1 a3.2.2]),.d (.agg [I a4,Qr5 a5,.lst false 1 a6,.lst false 1 a7,Qr5 a8])] (some (Qb o a b c e f g i j k l m)) (.d (I r)) (Qb o a b c e f g i j k l m) ZV:=by
 unfold Qk at h;have⟨p,h1,h⟩:=bo h;obtain p|p:=p
 ·obtain rfl:=oi h;exact rfO 0 [.lp [] [0,4,5,7,14,15] [0,1,2,10,11,12,13,14] .ret [(6,.d (I 10))] [(0,.box (.agg [.own 1 0,.own 2 0,.d (I b),.d (I c),.d (B e),.d (B f),.d (I g),.d (I i),.d (I j),.own 10 0,.own 11 0,.own 12 0])),(1,.row 0 5 o),(2,.row 0 5 a),(10,.row 0 1 k),(11,.row 0 6 l),(12,.row 0 7 m)] 82] (Qa (QH Yx h1) QL)
 have⟨t2,h2,h⟩:=bo h;obtain rfl:=oi h;exact rfO 0 [.lp [] [0,4,5,7,14,15] [0,1,2,10,11,12,13,14] (.exit 0) [(7,.d (B p))] [(0,.box (.agg [.own 1 0,.own 2 0,.d (I b),.d (I c),.d (B e),.d (B f),.d (I g),.d (I i),.d (I j),.own 10 0,.own 11 0,.own 12 0])),(1,.row 0 5 o),(2,.row 0 5 a),(10,.row 0 1 k),(11,.row 0 6 l),(12,.row 0 7 m)] 82,.ret (I t2)] (Qa (Qu h2) (Qa (QH Yx h1) QL))
def Z9 (n:Nat)(a0 a1:jVj)(a2 a3:Int)(a4 a5:Bool)(a6 a7 a8:Int)(e c d:jVj)(b:Int):Option (Int⊕Unit⊕Unit) := if b<((c).length:Int) then if 0<=b/\b<((c).length:Int) then((nth (c) (Int.toNat b)).bind QM).bind fun a=>if a.2.2.2.2.2=true then if((a.1==(⟨#[]⟩:jSj))&&((a.2.1==(⟨#[]⟩:jSj))&&((a.2.2.1==0)&&((a.2.2.2.1==0)&&((a.2.2.2.2.1==false)&&((a.2.2.2.2.2==false)&&true))))))=true then if Qh (b+1) then some (.inl (b+1)) else none else some (.inr (.inl ())) else if Qh (b+1) then some (.inl (b+1)) else none else none else some (.inr (.inr ()))
noncomputable def Gv (a0 a1:jVj)(a2 a3:Int)(a4 a5:Bool)(a6 a7 a8:Int)(c a b:jVj):Lp (Int) (Unit⊕Unit):=⟨fun f=>[(0,.own 22 0),(8,.own 11 0),(9,.d (I ((a).length:Int))),(10,.d (I f))],fun _=>[(0,.box (.agg [.own 1 0,.own 2 0,.d (I a2),.d (I a3),.d (B a4),.d (B a5),.d (I a6),.d (I a7),.d (I a8),.own 10 0,.own 11 0,.own 12 0])),(1,.row 0 5 a0),(2,.row 0 5 a1),(10,.row 0 1 c),(11,.row 0 6 a),(12,.row 0 7 b),(14,.box (.d (B false))),(18,.box (.ptr 0 0 0 0 2)),(22,.loop true [(6,.fn (.func 160) [] [.ptr 18 0 0 0 0]),(5,.ptr 0 0 0 0 2),(3,.ptr 14 0 0 0 0),(2,.d (B false)),(0,.ptr 0 0 0 0 2)] [7] (ZY cx.P 128 0).1 (ZY cx.P 128 0).2 12)],fun
 | (.inl e)=>.ret
 | (.inr e)=>(.exit 0),fun _=>[],fun
 | (.inl e)=>[(0,.box (.agg [.own 1 0,.own 2 0,.d (I a2),.d (I a3),.d (B a4),.d (B a5),.d (I a6),.d (I a7),.d (I a8),.own 10 0,.own 11 0,.own 12 0])),(1,.row 0 5 a0),(2,.row 0 5 a1),(10,.row 0 1 c),(11,.row 0 6 a),(12,.row 0 7 b),(14,.box (.d (B true))),(18,.box (.ptr 0 0 0 0 2)),(22,.left (.exit 0))]
 | (.inr e)=>[(0,.box (.agg [.own 1 0,.own 2 0,.d (I a2),.d (I a3),.d (B a4),.d (B a5),.d (I a6),.d (I a7),.d (I a8),.own 10 0,.own 11 0,.own 12 0])),(1,.row 0 5 a0),(2,.row 0 5 a1),(10,.row 0 1 c),(11,.row 0 6 a),(12,.row 0 7 b),(14,.box (.d (B false))),(18,.box (.ptr 0 0 0 0 2)),(22,.loop true [(6,.fn (.func 160) [] [.ptr 18 0 0 0 0]),(5,.ptr 0 0 0 0 2),(3,.ptr 14 0 0 0 0),(2,.d (B false)),(0,.ptr 0 0 0 0 2)] [7] (ZY cx.P 128 0).1 (ZY cx.P 128 0).2 12)]⟩
theorem Y0 {n a0 a1 a2 a3 a4 a5 a6 a7 a8 f d e}(g)(r)(h:Z9 n a0 a1 a2 a3 a4 a5 a6 a7 a8 f d e g=some r):Rl (ZJ cx.P 160 0) 23 23 false (Gv a0 a1 a2 a3 a4 a5 a6 a7 a8 f d e) g r:=by
 unfold Z9 at h;obtain⟨b,h⟩|⟨b,h⟩:=io h
 ·have⟨ha2,h⟩:=gd h;have⟨ta3,ha3,h⟩:=bo h;have q:=Qa (QX Qq ha3) (Qa ha2 (Qa (jDj b) QL));let o(l:jOj):=b1::b1::.el (QB ta3)::l;obtain⟨c,h⟩|⟨c,h⟩:=io h
  ·have q:=Qa c q;obtain⟨a,h⟩|⟨a,h⟩:=io h
   ·have⟨ha6,h⟩:=gd h;cases h;exact rn 29 (o [b1,b0,.no]) [] [0,8,9,10] [0,1,2,10,11,12,14,18,22] (Qa ha6 (Qa (Ud a) q))
   cases h;exact rx 29 (o [b1,b1,.no]) [] [] [0,1,2,10,11,12,14,18,22] (Qa (Uc (QA a)) q)
  have⟨a,h⟩:=gd h;cases h;exact rn 29 (o [b0,.no]) [] [0,8,9,10] [0,1,2,10,11,12,14,18,22] (Qa a (Qa (QA c) q))
 cases h;exact rx 29 [b0] [] [] [0,1,2,10,11,12,14,18,22] (Qa (jEj b) QL)
def W6 (n:Nat)(a0 a1:jVj)(a2 a3:Int)(a4 a5:Bool)(a6 a7 a8:Int)(d a b:jVj):Option (Bool) := (Q2 (Z9 n a0 a1 a2 a3 a4 a5 a6 a7 a8 d a b) n 0).bind fun c=>match c with|.inl c=>(some true)|.inr c=>(some false)
theorem Xv {n a0 a1 a2 a3 a4 a5 a6 a7 a8 c a b r}(h:W6 n a0 a1 a2 a3 a4 a5 a6 a7 a8 c a b=some r):ComputesO cx 128 [.ptr 0 0 0 0 2] (some (Qb a0 a1 a2 a3 a4 a5 a6 a7 a8 c a b)) (.d (B r)) (Qb a0 a1 a2 a3 a4 a5 a6 a7 a8 c a b) ZV:=by
 unfold W6 at h;have⟨e,h1,h⟩:=bo h;obtain e|e:=e
 ·obtain rfl:=oi h;exact rfO 0 [b1,.lp [] [0,8,9,10] [0,1,2,10,11,12,14,18,22] .ret [] [(0,.box (.agg [.own 1 0,.own 2 0,.d (I a2),.d (I a3),.d (B a4),.d (B a5),.d (I a6),.d (I a7),.d (I a8),.own 10 0,.own 11 0,.own 12 0])),(1,.row 0 5 a0),(2,.row 0 5 a1),(10,.row 0 1 c),(11,.row 0 6 a),(12,.row 0 7 b),(14,.box (.d (B true))),(18,.box (.ptr 0 0 0 0 2)),(22,.left (.exit 0))] 60] (Qa (QH Y0 h1) QL)
 obtain rfl:=oi h;exact rfO 0 [b1,.lp [] [0,8,9,10] [0,1,2,10,11,12,14,18,22] (.exit 0) [] [(0,.box (.agg [.own 1 0,.own 2 0,.d (I a2),.d (I a3),.d (B a4),.d (B a5),.d (I a6),.d (I a7),.d (I a8),.own 10 0,.own 11 0,.own 12 0])),(1,.row 0 5 a0),(2,.row 0 5 a1),(10,.row 0 1 c),(11,.row 0 6 a),(12,.row 0 7 b),(14,.box (.d (B false))),(18,.box (.ptr 0 0 0 0 2)),(22,.loop true [(6,.fn (.func 160) [] [.ptr 18 0 0 0 0]),(5,.ptr 0 0 0 0 2),(3,.ptr 14 0 0 0 0),(2,.d (B false)),(0,.ptr 0 0 0 0 2)] [7] (ZY cx.P 128 0).1 (ZY cx.P 128 0).2 12)] 60] (Qa (QH Y0 h1) QL)
def Um (n:Nat)  : Option (Int) :=
 some 14
theorem Xt {n:Nat}  {r:Int}(h:Um n =some r):Computes cx 37 [B true,I 14] (I r):=by unfold Um at h;obtain rfl:=oi h;exact rf [.no] QL
def WL (n:Nat)(a0:Int)(a1:jSj)(a2 a3:jVj)(a4:jSj):Option (Int×Int×Int) := (el Vt a3 1).bind fun a=>(el Vt a3 2).bind fun b=>(el Vt a3 0).bind fun d=>if a<d then(Um n).bind fun c=>some (a,b,c) else(Qm n (decide (a>=b)) 14).bind fun c=>some (a,b,c)
theorem GT {n a0 a1 a2 a3 a4 r}(h:WL n a0 a1 a2 a3 a4=some r):Computes cx 136 [.agg [I a0,Qr5 a1,.lst false 1 a2,.lst false 1 a3,Qr5 a4]] (.tup [.agg [I r.1,I r.2.1],I r.2.2]):=by
 unfold WL at h;have⟨t1,h1,h⟩:=bo h;have⟨t2,h2,h⟩:=bo h;have⟨t3,h3,h⟩:=bo h;have q:=allE Qi h3 (allE Qi h2 (allE Qi h1 QL));let o(l:jOj):=.el (Q3 t1)::.el (Q3 t2)::.el (Q3 t3)::l;obtain⟨a,h⟩|⟨a,h⟩:=io h
 ·have⟨t5,h5,h⟩:=bo h;cases h;exact rf (o [b1,.ret (I t5)]) (Qa (Xt h5) (Qa (jDj a) q))
 have⟨t5,h5,h⟩:=bo h;cases h;exact rf (o [b0,.ret (I t5)]) (Qa (Qu h5) (Qa (jEj a) q))
def Zg (n:Nat)(a0:jSj)(a1 a2 a3 a4 a5:Int)(a6:Bool):Option (Int) := if Qh (a3 - a5) then some (a3 - a5) else none
theorem W8 {n a0 a1 a2 a3 a4 a5 a6 r}(h:Zg n a0 a1 a2 a3 a4 a5 a6=some r):Computes cx 64 [.agg [Qr5 a0,I a1,I a2,I a3,I a4,I a5,B a6]] (I r):=by unfold Zg at h;have⟨h1,h⟩:=gd h;cases h;exact rf [] (Qa h1 QL)
def Qs (n:Nat)(a0:Int)(a1:jSj)(a2 a3:jVj)(a4:jSj)(a5 a6:jVj)(a7 a8:Int)(h c:Bool)(e f g:Int)(d a b:jVj):Option (Int) := if Qh (((a5).length:Int)+1) then if a0=(((a5).length:Int)+1) then if(a1.toList==(⟨#[117,110,100,111]⟩:jSj).toList)=true then if((a6).length:Int)=0 then some 12 else if Qh (((a6).length:Int) - 1) then if 0<=(((a6).length:Int) - 1)/\(((a6).length:Int) - 1)<((a6).length:Int) then((nth (a6) (Int.toNat (((a6).length:Int) - 1))).bind Ze).bind fun U=>if(U.2.1.toList==(⟨#[100,101,108,105,118,101,114]⟩:jSj).toList)=true then(Un n).bind fun M=>some M else(Qm n (U.2.1.toList==(⟨#[98,105,108,108]⟩:jSj).toList) 21).bind fun M=>some M else none else none else(el Vt a3 0).bind fun s=>if s<a7 then some 22 else if a1.data.toList=[115,101,99,116,111,114] then(Qp n s a5 a6 a7 a8 h c e f g d a b).bind fun U=>(Qk n (⟨#[83]⟩) 1 ((.func 102:Fn),[],[]) ((.func 103:Fn),[],[]) a0 a1 a2 a3 a4 a5 a6 a7 a8 h c e f g d a b).bind fun W=>(Qo n ([I U,I W])).bind fun M=>if M=0 then(Qm n (((d).length:Int)==8) 5).bind fun A=>some A else some M else if a1.data.toList=[109,105,114,114,111,114] then(Qp n s a5 a6 a7 a8 h c e f g d a b).bind fun W=>(Qk n (⟨#[77,115]⟩) 2 ((.func 104:Fn),[],[]) ((.func 105:Fn),[],[]) a0 a1 a2 a3 a4 a5 a6 a7 a8 h c e f g d a b).bind fun M=>(Qo n ([I W,I M])).bind fun G=>if G=0 then(el Vt a3 1).bind fun C=>(ZE n C 1 100).bind fun t=>(Qm n (((a).length:Int)==32) 5).bind fun u=>(Qo n ([I t,I u])).bind fun v=>some v else some G else if a1.data.toList=[115,111,105,108] then(Qp n s a5 a6 a7 a8 h c e f g d a b).bind fun M=>(Qk n (⟨#[109]⟩) 2 ((.func 106:Fn),[],[]) ((.func 180:Fn),[],[.ref (.fn (.func 108) [] []) 0]) a0 a1 a2 a3 a4 a5 a6 a7 a8 h c e f g d a b).bind fun G=>(Qo n ([I M,I G])).bind fun A=>if A=0 then(el Vt a3 1).bind fun t=>(ZE n t 0 1000).bind fun u=>some u else some A else if a1.data.toList=[99,108,101,97,110] then(Qp n s a5 a6 a7 a8 h c e f g d a b).bind fun G=>(Qk n (⟨#[109]⟩) 1 ((.func 109:Fn),[],[]) ((.func 180:Fn),[],[.ref (.fn (.func 110) [] []) 0]) a0 a1 a2 a3 a4 a5 a6 a7 a8 h c e f g d a b).bind fun A=>(Qo n ([I G,I A])).bind fun C=>if C=0 then some 0 else some C else if a1.data.toList=[100,101,102,101,99,116] then(Qp n s a5 a6 a7 a8 h c e f g d a b).bind fun A=>(Qk n (⟨#[109]⟩) 1 ((.func 181:Fn),[],[.ref (.fn (.func 112) [] []) 0]) ((.func 180:Fn),[],[.ref (.fn (.func 113) [] []) 0]) a0 a1 a2 a3 a4 a5 a6 a7 a8 h c e f g d a b).bind fun C=>(Qo n ([I A,I C])).bind fun t=>if t=0 then(el Ww a2 0).bind fun v=>(Qw n 109 a5 a6 a7 a8 h c e f g d a b).bind fun x=>(QE n x v).bind fun o=>if 0<=o/\o<((a).length:Int) then((nth (a) (Int.toNat o)).bind QM).bind fun l=>(Qm n l.2.2.2.2.1 9).bind fun j=>(Qm n l.2.2.2.2.2 31).bind fun k=>(Qo n ([I j,I k])).bind fun q=>some q else none else some t else if a1.data.toList=[114,101,112,97,105,114] then(Qp n s a5 a6 a7 a8 h c e f g d a b).bind fun C=>(Qk n (⟨#[109]⟩) 1 ((.func 181:Fn),[],[.ref (.fn (.func 114) [] []) 0]) ((.func 180:Fn),[],[.ref (.fn (.func 115) [] []) 0]) a0 a1 a2 a3 a4 a5 a6 a7 a8 h c e f g d a b).bind fun t=>(Qo n ([I C,I t])).bind fun u=>if u=0 then(el Ww a2 0).bind fun x=>(Qw n 109 a5 a6 a7 a8 h c e f g d a b).bind fun o=>(QE n o x).bind fun p=>if 0<=p/\p<((a).length:Int) then((nth (a) (Int.toNat p)).bind QM).bind fun j=>(Qm n (!j.2.2.2.2.1) 22).bind fun k=>some k else none else some u else if a1.data.toList=[97,105,109] then(Qp n s a5 a6 a7 a8 h c e f g d a b).bind fun t=>(Qk n (⟨#[109]⟩) 1 ((.func 181:Fn),[],[.ref (.fn (.func 116) [] []) 0]) ((.func 180:Fn),[],[.ref (.fn (.func 117) [] []) 0]) a0 a1 a2 a3 a4 a5 a6 a7 a8 h c e f g d a b).bind fun u=>(Qo n ([I t,I u])).bind fun v=>if v=0 then(el Ww a2 0).bind fun o=>(Qw n 109 a5 a6 a7 a8 h c e f g d a b).bind fun p=>(QE n p o).bind fun l=>if 0<=l/\l<((a).length:Int) then(Qm n (!h) 30).bind fun k=>(Qm n c 29).bind fun q=>((nth (a) (Int.toNat l)).bind QM).bind fun m=>(Qm n m.2.2.2.2.1 21).bind fun r=>(Qm n m.2.2.2.2.2 9).bind fun y=>(Qo n ([I k,I q,I r,I y])).bind fun E=>some E else none else some v else if a1.data.toList=[112,97,114,107] then(Qp n s a5 a6 a7 a8 h c e f g d a b).bind fun u=>(Qk n (⟨#[109]⟩) 1 ((.func 181:Fn),[],[.ref (.fn (.func 118) [] []) 0]) ((.func 180:Fn),[],[.ref (.fn (.func 119) [] []) 0]) a0 a1 a2 a3 a4 a5 a6 a7 a8 h c e f g d a b).bind fun v=>(Qo n ([I u,I v])).bind fun x=>if x=0 then(el Ww a2 0).bind fun p=>(Qw n 109 a5 a6 a7 a8 h c e f g d a b).bind fun l=>(QE n l p).bind fun j=>if 0<=j/\j<((a).length:Int) then((nth (a) (Int.toNat j)).bind QM).bind fun q=>(Qm n (!q.2.2.2.2.2) 22).bind fun m=>some m else none else some x else if a1.data.toList=[100,105,109] then(Qp n s a5 a6 a7 a8 h c e f g d a b).bind fun v=>(Qk n (⟨#[115]⟩) 1 ((.func 109:Fn),[],[]) ((.func 120:Fn),[],[]) a0 a1 a2 a3 a4 a5 a6 a7 a8 h c e f g d a b).bind fun x=>(Qo n ([I v,I x])).bind fun o=>if o=0 then some 0 else some o else if a1.data.toList=[115,117,110] then(Qp n s a5 a6 a7 a8 h c e f g d a b).bind fun x=>(Qk n (⟨#[]⟩) 2 ((.func 123:Fn),[],[]) ((.func 124:Fn),[],[]) a0 a1 a2 a3 a4 a5 a6 a7 a8 h c e f g d a b).bind fun o=>(Qo n ([I x,I o])).bind fun p=>if p=0 then(el Vt a3 1).bind fun j=>(ZE n j 0 1000).bind fun k=>some k else some p else if a1.data.toList=[102,105,108,108] then(Qp n s a5 a6 a7 a8 h c e f g d a b).bind fun o=>(Qk n (⟨#[]⟩) 1 ((.func 125:Fn),[],[]) ((.func 126:Fn),[],[]) a0 a1 a2 a3 a4 a5 a6 a7 a8 h c e f g d a b).bind fun p=>(Qo n ([I o,I p])).bind fun l=>if l=0 then(Qm n h 9).bind fun k=>some k else some l else if a1.data.toList=[100,114,97,105,110] then(Qp n s a5 a6 a7 a8 h c e f g d a b).bind fun p=>(Qk n (⟨#[]⟩) 1 ((.func 127:Fn),[],[]) ((.func 129:Fn),[],[]) a0 a1 a2 a3 a4 a5 a6 a7 a8 h c e f g d a b).bind fun l=>(Qo n ([I p,I l])).bind fun j=>if j=0 then(Qm n (!h) 22).bind fun q=>(W6 n a5 a6 a7 a8 h c e f g d a b).bind fun m=>(Qm n m 31).bind fun r=>(Qo n ([I q,I r])).bind fun y=>some y else some j else if a1.data.toList=[116,114,105,112] then(Qp n s a5 a6 a7 a8 h c e f g d a b).bind fun l=>(Qk n (⟨#[]⟩) 1 ((.func 130:Fn),[],[]) ((.func 131:Fn),[],[]) a0 a1 a2 a3 a4 a5 a6 a7 a8 h c e f g d a b).bind fun j=>(Qo n ([I l,I j])).bind fun k=>if k=0 then(Qm n c 9).bind fun m=>some m else some k else if a1.data.toList=[114,101,115,101,116] then(Qp n s a5 a6 a7 a8 h c e f g d a b).bind fun j=>(Qk n (⟨#[]⟩) 1 ((.func 133:Fn),[],[]) ((.func 134:Fn),[],[]) a0 a1 a2 a3 a4 a5 a6 a7 a8 h c e f g d a b).bind fun k=>(Qo n ([I j,I k])).bind fun q=>if q=0 then(Qm n (!c) 22).bind fun r=>some r else some q else if a1.data.toList=[111,102,102,101,114] then(Qp n s a5 a6 a7 a8 h c e f g d a b).bind fun k=>(Qk n (⟨#[79]⟩) 5 ((.func 135:Fn),[],[]) ((.func 137:Fn),[],[]) a0 a1 a2 a3 a4 a5 a6 a7 a8 h c e f g d a b).bind fun q=>(Qo n ([I k,I q])).bind fun m=>if m=0 then(WL n a0 a1 a2 a3 a4).bind fun y=>(el Vt a3 3).bind fun E=>(ZE n E 1 1000).bind fun H=>(el Vt a3 4).bind fun F=>(ZE n F 0 1000).bind fun J=>(Qm n (((b).length:Int)==32) 5).bind fun z=>(Qo n ([I y.2.2,I H,I J,I z])).bind fun i=>some i else some m else if a1.data.toList=[100,101,108,105,118,101,114] then(Qp n s a5 a6 a7 a8 h c e f g d a b).bind fun q=>(Qk n (⟨#[111]⟩) 2 ((.func 138:Fn),[],[]) ((.func 139:Fn),[],[]) a0 a1 a2 a3 a4 a5 a6 a7 a8 h c e f g d a b).bind fun m=>(Qo n ([I q,I m])).bind fun r=>if r=0 then(el Ww a2 0).bind fun E=>(Qw n 111 a5 a6 a7 a8 h c e f g d a b).bind fun H=>(QE n H E).bind fun F=>if 0<=F/\F<((b).length:Int) then(el Vt a3 1).bind fun z=>((nth (b) (Int.toNat F)).bind Z6).bind fun i=>(Qm n i.2.2.2.2.2.2 23).bind fun N=>if s<i.2.1 then(Um n).bind fun K=>(Qm n (z==0) 3).bind fun O=>(Zg n i.1 i.2.1 i.2.2.1 i.2.2.2.1 i.2.2.2.2.1 i.2.2.2.2.2.1 i.2.2.2.2.2.2).bind fun P=>(Qm n (decide (z>P)) 20).bind fun Q=>(Qo n ([I N,I K,I O,I Q])).bind fun L=>if L=0 then if Qh (z*1000000) then(Q8 n s a5 a6 a7 a8 h c e f g d a b).bind fun S=>(Qm n (decide ((z*1000000)>S.2)) 16).bind fun T=>some T else none else some L else(Qm n (decide (s>=i.2.2.1)) 14).bind fun K=>(Qm n (z==0) 3).bind fun O=>(Zg n i.1 i.2.1 i.2.2.1 i.2.2.2.1 i.2.2.2.2.1 i.2.2.2.2.2.1 i.2.2.2.2.2.2).bind fun P=>(Qm n (decide (z>P)) 20).bind fun Q=>(Qo n ([I N,I K,I O,I Q])).bind fun L=>if L=0 then if Qh (z*1000000) then(Q8 n s a5 a6 a7 a8 h c e f g d a b).bind fun S=>(Qm n (decide ((z*1000000)>S.2)) 16).bind fun T=>some T else none else some L else none else some r else if a1.data.toList=[98,105,108,108] then(Qp n s a5 a6 a7 a8 h c e f g d a b).bind fun m=>(Qk n (⟨#[111]⟩) 1 ((.func 140:Fn),[],[]) ((.func 141:Fn),[],[]) a0 a1 a2 a3 a4 a5 a6 a7 a8 h c e f g d a b).bind fun r=>(Qo n ([I m,I r])).bind fun y=>if y=0 then(el Ww a2 0).bind fun H=>(Qw n 111 a5 a6 a7 a8 h c e f g d a b).bind fun F=>(QE n F H).bind fun J=>if 0<=J/\J<((b).length:Int) then((nth (b) (Int.toNat J)).bind Z6).bind fun i=>(Qm n i.2.2.2.2.2.2 23).bind fun N=>(Qm n (decide (s<i.2.2.1)) 32).bind fun V=>(Qo n ([I N,I V])).bind fun K=>some K else none else some y else if a1.data.toList=[117,110,100,111] then(Qp n s a5 a6 a7 a8 h c e f g d a b).bind fun r=>(Qk n (⟨#[]⟩) 0 ((.func 109:Fn),[],[]) ((.func 142:Fn),[],[]) a0 a1 a2 a3 a4 a5 a6 a7 a8 h c e f g d a b).bind fun y=>(Qo n ([I r,I y])).bind fun E=>if E=0 then some 0 else some E else none else some 11 else none
abbrev Qsp:D:=.agg [.v (.string ⟨#[109]⟩),I 1,.fn (.func 109) [] [],.fn (.func 180) [] [.ref (.fn (.func 110) [] []) 0]]
abbrev Qso:D:=.agg [.v (.string ⟨#[109]⟩),I 1,.fn (.func 181) [] [.ref (.fn (.func 112) [] []) 0],.fn (.func 180) [] [.ref (.fn (.func 113) [] []) 0]]
abbrev Qsn:D:=.agg [.v (.string ⟨#[109]⟩),I 1,.fn (.func 181) [] [.ref (.fn (.func 114) [] []) 0],.fn (.func 180) [] [.ref (.fn (.func 115) [] []) 0]]
abbrev Qsm:D:=.agg [.v (.string ⟨#[109]⟩),I 1,.fn (.func 181) [] [.ref (.fn (.func 116) [] []) 0],.fn (.func 180) [] [.ref (.fn (.func 117) [] []) 0]]
abbrev Qsl:D:=.agg [.v (.string ⟨#[109]⟩),I 1,.fn (.func 181) [] [.ref (.fn (.func 118) [] []) 0],.fn (.func 180) [] [.ref (.fn (.func 119) [] []) 0]]
abbrev Qsk:D:=.agg [.v (.string ⟨#[109]⟩),I 2,.fn (.func 106) [] [],.fn (.func 180) [] [.ref (.fn (.func 108) [] []) 0]]
abbrev Qsj:D:=.agg [.v (.string ⟨#[111]⟩),I 1,.fn (.func 140) [] [],.fn (.func 141) [] []]
abbrev Qsi:D:=.agg [.v (.string ⟨#[111]⟩),I 2,.fn (.func 138) [] [],.fn (.func 139) [] []]
abbrev Qsh:D:=.agg [.v (.string ⟨#[115]⟩),I 1,.fn (.func 109) [] [],.fn (.func 120) [] []]
abbrev Qsg:D:=.agg [.v (.string ⟨#[77,115]⟩),I 2,.fn (.func 104) [] [],.fn (.func 105) [] []]
abbrev Qsf:D:=.agg [.v (.string ⟨#[79]⟩),I 5,.fn (.func 135) [] [],.fn (.func 137) [] []]
abbrev Qse:D:=.agg [.v (.string ⟨#[83]⟩),I 1,.fn (.func 102) [] [],.fn (.func 103) [] []]
abbrev Qsd:D:=.agg [.v (.string ⟨#[]⟩),I 0,.fn (.func 109) [] [],.fn (.func 142) [] []]
abbrev Qsc:D:=.agg [.v (.string ⟨#[]⟩),I 1,.fn (.func 125) [] [],.fn (.func 126) [] []]
abbrev Qsb:D:=.agg [.v (.string ⟨#[]⟩),I 1,.fn (.func 127) [] [],.fn (.func 129) [] []]
abbrev Qsa:D:=.agg [.v (.string ⟨#[]⟩),I 1,.fn (.func 130) [] [],.fn (.func 131) [] []]
abbrev Qr9:D:=.agg [.v (.string ⟨#[]⟩),I 1,.fn (.func 133) [] [],.fn (.func 134) [] []]
abbrev Qr8:D:=.agg [.v (.string ⟨#[]⟩),I 2,.fn (.func 123) [] [],.fn (.func 124) [] []]
theorem YZ {n a0 a1 a2 a3 a4 a5 a6 a7 a8 k a b c e f g i r}(h:Qs n a0 a1 a2 a3 a4 a5 a6 a7 a8 k a b c e f g i=some r):ComputesO cx 44 [.ptr 0 0 0 0 0,.d (.agg [I a0,Qr5 a1,.lst false 1 a2,.lst false 1 a3,Qr5 a4])] (some (Qb a5 a6 a7 a8 k a b c e f g i)) (.d (I r)) (Qb a5 a6 a7 a8 k a b c e f g i) ZV:=by
 unfold Qs at h;have⟨h1,h⟩:=gd h;have q:=Qa h1 QL;obtain⟨U,h⟩|⟨U,h⟩:=io h
 ·have q:=Qa (nef U) q;let o(l:jOj):=b0::l;obtain⟨V,h⟩|⟨V,h⟩:=io h
  ·have q:=Qa V q;obtain⟨J,h⟩|⟨J,h⟩:=io h
   ·obtain rfl:=oi h;exact rfO 0 (o [b1,b1]) (Qa (eqt J) q)
   have⟨S,h⟩:=gd h;have⟨T,h⟩:=gd h;have⟨t7,Q,h⟩:=bo h;have q:=Qa (QX Ql Q) (Qa T (Qa S (Qa (eqf J) q)));let o l:=o (b1::b0::b1::.el (QP t7)::l);obtain⟨P,h⟩|⟨P,h⟩:=io h
   ·have⟨t9,N,h⟩:=bo h;obtain rfl:=oi h;exact rfO 0 (o [b1,.ret (I t9)]) (Qa (jh N) (Qa P q))
   have⟨t9,N,h⟩:=bo h;obtain rfl:=oi h;exact rfO 0 (o [b0,.ret (I t9)]) (Qa (Qu N) (Qa (QA P) q))
  have⟨t4,J,h⟩:=bo h;have q:=allE Qi J (Qa (QA V) q);let o l:=o (b0::.el (Q3 t4)::l);obtain⟨S,h⟩|⟨S,h⟩:=io h
  ·obtain rfl:=oi h;exact rfO 0 (o [b1]) (Qa (jDj S) q)
  have q:=Qa (jEj S) q;let o l:=o (b0::b1::(no 28 l));obtain⟨T,h⟩|⟨T,h⟩:=io h
  ·have⟨t7,Q,h⟩:=bo h;have⟨t8,P,h⟩:=bo h;have⟨t9,N,h⟩:=bo h;have q:=Qa (leF (Qx N)) (Qa (QI P) (Qa (Qv Q) (allE Qi J (Qa (mk1 ⟨#[115,101,99,116,111,114]⟩ Qse T) q))));let o l:=o (.el Qse::.el (Q3 t4)::.obj (some 0) (.d (I t7)) (Qb a5 a6 a7 a8 k a b c e f g i) ZV::.obj (some 0) (.d (I t8)) (Qb a5 a6 a7 a8 k a b c e f g i) ZV::.ret (I t9)::l);obtain⟨H,h⟩|⟨H,h⟩:=io h
   ·have⟨t11,E,h⟩:=bo h;obtain rfl:=oi h;exact rfO 0 (o [b0,.ix (-9),b1,.ret (I t11)]) (Qa (Qu E) (Qa (nef H) q))
   obtain rfl:=oi h;exact rfO 0 (o [b1]) (Qa (net H) q)
  obtain⟨Q,h⟩|⟨Q,h⟩:=io h
  ·have⟨t8,P,h⟩:=bo h;have⟨t9,N,h⟩:=bo h;have⟨t10,H,h⟩:=bo h;have q:=Qa (leF (Qx H)) (Qa (QI N) (Qa (Qv P) (allE Qi J (Qa (mk1 ⟨#[109,105,114,114,111,114]⟩ Qsg Q) q))));let o l:=o (.el Qsg::.el (Q3 t4)::.obj (some 0) (.d (I t8)) (Qb a5 a6 a7 a8 k a b c e f g i) ZV::.obj (some 0) (.d (I t9)) (Qb a5 a6 a7 a8 k a b c e f g i) ZV::.ret (I t10)::l);obtain⟨E,h⟩|⟨E,h⟩:=io h
   ·have⟨t12,F,h⟩:=bo h;have⟨t13,x,h⟩:=bo h;have⟨t14,y,h⟩:=bo h;have⟨t15,z,h⟩:=bo h;obtain rfl:=oi h;exact rfO 0 (o [b0,.ix (-9),b1,.el (Q3 t12),.ret (I t13),.ret (I t14),.ret (I t15)]) (Qa (leF (Qx z)) (Qa (Qu y) (Qa (WK x) (allE Qi F (Qa (nef E) q)))))
   obtain rfl:=oi h;exact rfO 0 (o [b1]) (Qa (net E) q)
  obtain⟨P,h⟩|⟨P,h⟩:=io h
  ·have⟨t9,N,h⟩:=bo h;have⟨t10,H,h⟩:=bo h;have⟨t11,E,h⟩:=bo h;have q:=Qa (leF (Qx E)) (Qa (QI H) (Qa (Qv N) (allE Qi J (Qa (mk1 ⟨#[115,111,105,108]⟩ Qsk P) q))));let o l:=o (.el Qsk::.el (Q3 t4)::.obj (some 0) (.d (I t9)) (Qb a5 a6 a7 a8 k a b c e f g i) ZV::.obj (some 0) (.d (I t10)) (Qb a5 a6 a7 a8 k a b c e f g i) ZV::.ret (I t11)::l);obtain⟨F,h⟩|⟨F,h⟩:=io h
   ·have⟨t13,x,h⟩:=bo h;have⟨t14,y,h⟩:=bo h;obtain rfl:=oi h;exact rfO 0 (o [b0,.ix (-9),b1,.el (Q3 t13),.ret (I t14)]) (Qa (WK y) (allE Qi x (Qa (nef F) q)))
   obtain rfl:=oi h;exact rfO 0 (o [b1]) (Qa (net F) q)
  obtain⟨N,h⟩|⟨N,h⟩:=io h
  ·have⟨t10,H,h⟩:=bo h;have⟨t11,E,h⟩:=bo h;have⟨t12,F,h⟩:=bo h;have q:=Qa (leF (Qx F)) (Qa (QI E) (Qa (Qv H) (allE Qi J (Qa (mk1 ⟨#[99,108,101,97,110]⟩ Qsp N) q))));let o l:=o (.el Qsp::.el (Q3 t4)::.obj (some 0) (.d (I t10)) (Qb a5 a6 a7 a8 k a b c e f g i) ZV::.obj (some 0) (.d (I t11)) (Qb a5 a6 a7 a8 k a b c e f g i) ZV::.ret (I t12)::l);obtain⟨x,h⟩|⟨x,h⟩:=io h
   ·obtain rfl:=oi h;exact rfO 0 (o [b0,.ix (-9),b1]) (Qa (nef x) q)
   obtain rfl:=oi h;exact rfO 0 (o [b1]) (Qa (net x) q)
  obtain⟨H,h⟩|⟨H,h⟩:=io h
  ·have⟨t11,E,h⟩:=bo h;have⟨t12,F,h⟩:=bo h;have⟨t13,x,h⟩:=bo h;have q:=Qa (leF (Qx x)) (Qa (QI F) (Qa (Qv E) (allE Qi J (Qa (mk1 ⟨#[100,101,102,101,99,116]⟩ Qso H) q))));let o l:=o (.el Qso::.el (Q3 t4)::.obj (some 0) (.d (I t11)) (Qb a5 a6 a7 a8 k a b c e f g i) ZV::.obj (some 0) (.d (I t12)) (Qb a5 a6 a7 a8 k a b c e f g i) ZV::.ret (I t13)::l);obtain⟨y,h⟩|⟨y,h⟩:=io h
   ·have⟨t15,z,h⟩:=bo h;have⟨t16,A,h⟩:=bo h;have⟨t17,v,h⟩:=bo h;have⟨t,h⟩:=gd h;have⟨t19,p,h⟩:=bo h;have⟨t20,m,h⟩:=bo h;have⟨t21,j,h⟩:=bo h;have⟨t22,u,h⟩:=bo h;obtain rfl:=oi h;exact rfO 0 (o [b0,.ix (-9),b1,.el (Zy t15),.ix (-9),b1,.obj (some 0) (.d (.lst false 1 t16)) (Qb a5 a6 a7 a8 k a b c e f g i) ZV,.ret (I t17),b1,.ix (-9),b1,.el (QB t19),.ret (I t20),.el (QB t19),.ret (I t21),.ret (I t22)]) (Qa (leF (Qx u)) (Qa (Qu j) (Qa (QX Qq p) (Qa (Qu m) (Qa (QX Qq p) (Qa t (Qa (QK v) (Qa (QC A) (allE Qr z (Qa (nef y) q))))))))))
   obtain rfl:=oi h;exact rfO 0 (o [b1]) (Qa (net y) q)
  obtain⟨E,h⟩|⟨E,h⟩:=io h
  ·have⟨t12,F,h⟩:=bo h;have⟨t13,x,h⟩:=bo h;have⟨t14,y,h⟩:=bo h;have q:=Qa (leF (Qx y)) (Qa (QI x) (Qa (Qv F) (allE Qi J (Qa (mk1 ⟨#[114,101,112,97,105,114]⟩ Qsn E) q))));let o l:=o (.el Qsn::.el (Q3 t4)::.obj (some 0) (.d (I t12)) (Qb a5 a6 a7 a8 k a b c e f g i) ZV::.obj (some 0) (.d (I t13)) (Qb a5 a6 a7 a8 k a b c e f g i) ZV::.ret (I t14)::l);obtain⟨z,h⟩|⟨z,h⟩:=io h
   ·have⟨t16,A,h⟩:=bo h;have⟨t17,v,h⟩:=bo h;have⟨t18,t,h⟩:=bo h;have⟨p,h⟩:=gd h;have⟨t20,m,h⟩:=bo h;have⟨t21,j,h⟩:=bo h;obtain rfl:=oi h;exact rfO 0 (o [b0,.ix (-9),b1,.el (Zy t16),.ix (-9),b1,.obj (some 0) (.d (.lst false 1 t17)) (Qb a5 a6 a7 a8 k a b c e f g i) ZV,.ret (I t18),b1,.ix (-9),b1,.el (QB t20),.ret (I t21)]) (Qa (Qu j) (Qa (QX Qq m) (Qa p (Qa (QK t) (Qa (QC v) (allE Qr A (Qa (nef z) q)))))))
   obtain rfl:=oi h;exact rfO 0 (o [b1]) (Qa (net z) q)
  obtain⟨F,h⟩|⟨F,h⟩:=io h
  ·have⟨t13,x,h⟩:=bo h;have⟨t14,y,h⟩:=bo h;have⟨t15,z,h⟩:=bo h;have q:=Qa (leF (Qx z)) (Qa (QI y) (Qa (Qv x) (allE Qi J (Qa (mk1 ⟨#[97,105,109]⟩ Qsm F) q))));let o l:=o (.el Qsm::.el (Q3 t4)::.obj (some 0) (.d (I t13)) (Qb a5 a6 a7 a8 k a b c e f g i) ZV::.obj (some 0) (.d (I t14)) (Qb a5 a6 a7 a8 k a b c e f g i) ZV::.ret (I t15)::l);obtain⟨A,h⟩|⟨A,h⟩:=io h
   ·have⟨t17,v,h⟩:=bo h;have⟨t18,t,h⟩:=bo h;have⟨t19,p,h⟩:=bo h;have⟨m,h⟩:=gd h;have⟨t21,j,h⟩:=bo h;have⟨t22,u,h⟩:=bo h;have⟨t23,s,h⟩:=bo h;have⟨t24,C,h⟩:=bo h;have⟨t25,G,h⟩:=bo h;have⟨t26,K,h⟩:=bo h;obtain rfl:=oi h;exact rfO 0 (o [b0,.ix (-9),b1,.el (Zy t17),.ix (-9),b1,.obj (some 0) (.d (.lst false 1 t18)) (Qb a5 a6 a7 a8 k a b c e f g i) ZV,.ret (I t19),b1,.ix (-9),b1,.ret (I t21),.ret (I t22),.el (QB t23),.ret (I t24),.el (QB t23),.ret (I t25),.ret (I t26)]) (Qa (leF (Qx K)) (Qa (Qu G) (Qa (QX Qq s) (Qa (Qu C) (Qa (QX Qq s) (Qa (Qu u) (Qa (Qu j) (Qa m (Qa (QK p) (Qa (QC t) (allE Qr v (Qa (nef A) q))))))))))))
   obtain rfl:=oi h;exact rfO 0 (o [b1]) (Qa (net A) q)
  obtain⟨x,h⟩|⟨x,h⟩:=io h
  ·have⟨t14,y,h⟩:=bo h;have⟨t15,z,h⟩:=bo h;have⟨t16,A,h⟩:=bo h;have q:=Qa (leF (Qx A)) (Qa (QI z) (Qa (Qv y) (allE Qi J (Qa (mk1 ⟨#[112,97,114,107]⟩ Qsl x) q))));let o l:=o (.el Qsl::.el (Q3 t4)::.obj (some 0) (.d (I t14)) (Qb a5 a6 a7 a8 k a b c e f g i) ZV::.obj (some 0) (.d (I t15)) (Qb a5 a6 a7 a8 k a b c e f g i) ZV::.ret (I t16)::l);obtain⟨v,h⟩|⟨v,h⟩:=io h
   ·have⟨t18,t,h⟩:=bo h;have⟨t19,p,h⟩:=bo h;have⟨t20,m,h⟩:=bo h;have⟨j,h⟩:=gd h;have⟨t22,u,h⟩:=bo h;have⟨t23,s,h⟩:=bo h;obtain rfl:=oi h;exact rfO 0 (o [b0,.ix (-9),b1,.el (Zy t18),.ix (-9),b1,.obj (some 0) (.d (.lst false 1 t19)) (Qb a5 a6 a7 a8 k a b c e f g i) ZV,.ret (I t20),b1,.ix (-9),b1,.el (QB t22),.ret (I t23)]) (Qa (Qu s) (Qa (QX Qq u) (Qa j (Qa (QK m) (Qa (QC p) (allE Qr t (Qa (nef v) q)))))))
   obtain rfl:=oi h;exact rfO 0 (o [b1]) (Qa (net v) q)
  obtain⟨y,h⟩|⟨y,h⟩:=io h
  ·have⟨t15,z,h⟩:=bo h;have⟨t16,A,h⟩:=bo h;have⟨t17,v,h⟩:=bo h;have q:=Qa (leF (Qx v)) (Qa (QI A) (Qa (Qv z) (allE Qi J (Qa (mk1 ⟨#[100,105,109]⟩ Qsh y) q))));let o l:=o (.el Qsh::.el (Q3 t4)::.obj (some 0) (.d (I t15)) (Qb a5 a6 a7 a8 k a b c e f g i) ZV::.obj (some 0) (.d (I t16)) (Qb a5 a6 a7 a8 k a b c e f g i) ZV::.ret (I t17)::l);obtain⟨t,h⟩|⟨t,h⟩:=io h
   ·obtain rfl:=oi h;exact rfO 0 (o [b0,.ix (-9),b1]) (Qa (nef t) q)
   obtain rfl:=oi h;exact rfO 0 (o [b1]) (Qa (net t) q)
  obtain⟨z,h⟩|⟨z,h⟩:=io h
  ·have⟨t16,A,h⟩:=bo h;have⟨t17,v,h⟩:=bo h;have⟨t18,t,h⟩:=bo h;have q:=Qa (leF (Qx t)) (Qa (QI v) (Qa (Qv A) (allE Qi J (Qa (mk1 ⟨#[115,117,110]⟩ Qr8 z) q))));let o l:=o (.el Qr8::.el (Q3 t4)::.obj (some 0) (.d (I t16)) (Qb a5 a6 a7 a8 k a b c e f g i) ZV::.obj (some 0) (.d (I t17)) (Qb a5 a6 a7 a8 k a b c e f g i) ZV::.ret (I t18)::l);obtain⟨p,h⟩|⟨p,h⟩:=io h
   ·have⟨t20,m,h⟩:=bo h;have⟨t21,j,h⟩:=bo h;obtain rfl:=oi h;exact rfO 0 (o [b0,.ix (-9),b1,.el (Q3 t20),.ret (I t21)]) (Qa (WK j) (allE Qi m (Qa (nef p) q)))
   obtain rfl:=oi h;exact rfO 0 (o [b1]) (Qa (net p) q)
  obtain⟨A,h⟩|⟨A,h⟩:=io h
  ·have⟨t17,v,h⟩:=bo h;have⟨t18,t,h⟩:=bo h;have⟨t19,p,h⟩:=bo h;have q:=Qa (leF (Qx p)) (Qa (QI t) (Qa (Qv v) (allE Qi J (Qa (mk1 ⟨#[102,105,108,108]⟩ Qsc A) q))));let o l:=o (.el Qsc::.el (Q3 t4)::.obj (some 0) (.d (I t17)) (Qb a5 a6 a7 a8 k a b c e f g i) ZV::.obj (some 0) (.d (I t18)) (Qb a5 a6 a7 a8 k a b c e f g i) ZV::.ret (I t19)::l);obtain⟨m,h⟩|⟨m,h⟩:=io h
   ·have⟨t21,j,h⟩:=bo h;obtain rfl:=oi h;exact rfO 0 (o [b0,.ix (-9),b1,.ret (I t21)]) (Qa (Qu j) (Qa (nef m) q))
   obtain rfl:=oi h;exact rfO 0 (o [b1]) (Qa (net m) q)
  obtain⟨v,h⟩|⟨v,h⟩:=io h
  ·have⟨t18,t,h⟩:=bo h;have⟨t19,p,h⟩:=bo h;have⟨t20,m,h⟩:=bo h;have q:=Qa (leF (Qx m)) (Qa (QI p) (Qa (Qv t) (allE Qi J (Qa (mk1 ⟨#[100,114,97,105,110]⟩ Qsb v) q))));let o l:=o (.el Qsb::.el (Q3 t4)::.obj (some 0) (.d (I t18)) (Qb a5 a6 a7 a8 k a b c e f g i) ZV::.obj (some 0) (.d (I t19)) (Qb a5 a6 a7 a8 k a b c e f g i) ZV::.ret (I t20)::l);obtain⟨j,h⟩|⟨j,h⟩:=io h
   ·have⟨t22,u,h⟩:=bo h;have⟨t23,s,h⟩:=bo h;have⟨t24,C,h⟩:=bo h;have⟨t25,G,h⟩:=bo h;obtain rfl:=oi h;exact rfO 0 (o [b0,.ix (-9),b1,.ret (I t22),.obj (some 0) (.d (B t23)) (Qb a5 a6 a7 a8 k a b c e f g i) ZV,.ret (I t24),.ret (I t25)]) (Qa (leF (Qx G)) (Qa (Qu C) (Qa (Xv s) (Qa (Qu u) (Qa (nef j) q)))))
   obtain rfl:=oi h;exact rfO 0 (o [b1]) (Qa (net j) q)
  obtain⟨t,h⟩|⟨t,h⟩:=io h
  ·have⟨t19,p,h⟩:=bo h;have⟨t20,m,h⟩:=bo h;have⟨t21,j,h⟩:=bo h;have q:=Qa (leF (Qx j)) (Qa (QI m) (Qa (Qv p) (allE Qi J (Qa (mk1 ⟨#[116,114,105,112]⟩ Qsa t) q))));let o l:=o (.el Qsa::.el (Q3 t4)::.obj (some 0) (.d (I t19)) (Qb a5 a6 a7 a8 k a b c e f g i) ZV::.obj (some 0) (.d (I t20)) (Qb a5 a6 a7 a8 k a b c e f g i) ZV::.ret (I t21)::l);obtain⟨u,h⟩|⟨u,h⟩:=io h
   ·have⟨t23,s,h⟩:=bo h;obtain rfl:=oi h;exact rfO 0 (o [b0,.ix (-9),b1,.ret (I t23)]) (Qa (Qu s) (Qa (nef u) q))
   obtain rfl:=oi h;exact rfO 0 (o [b1]) (Qa (net u) q)
  obtain⟨p,h⟩|⟨p,h⟩:=io h
  ·have⟨t20,m,h⟩:=bo h;have⟨t21,j,h⟩:=bo h;have⟨t22,u,h⟩:=bo h;have q:=Qa (leF (Qx u)) (Qa (QI j) (Qa (Qv m) (allE Qi J (Qa (mk1 ⟨#[114,101,115,101,116]⟩ Qr9 p) q))));let o l:=o (.el Qr9::.el (Q3 t4)::.obj (some 0) (.d (I t20)) (Qb a5 a6 a7 a8 k a b c e f g i) ZV::.obj (some 0) (.d (I t21)) (Qb a5 a6 a7 a8 k a b c e f g i) ZV::.ret (I t22)::l);obtain⟨s,h⟩|⟨s,h⟩:=io h
   ·have⟨t24,C,h⟩:=bo h;obtain rfl:=oi h;exact rfO 0 (o [b0,.ix (-9),b1,.ret (I t24)]) (Qa (Qu C) (Qa (nef s) q))
   obtain rfl:=oi h;exact rfO 0 (o [b1]) (Qa (net s) q)
  obtain⟨m,h⟩|⟨m,h⟩:=io h
  ·have⟨t21,j,h⟩:=bo h;have⟨t22,u,h⟩:=bo h;have⟨t23,s,h⟩:=bo h;have q:=Qa (leF (Qx s)) (Qa (QI u) (Qa (Qv j) (allE Qi J (Qa (mk1 ⟨#[111,102,102,101,114]⟩ Qsf m) q))));let o l:=o (.el Qsf::.el (Q3 t4)::.obj (some 0) (.d (I t21)) (Qb a5 a6 a7 a8 k a b c e f g i) ZV::.obj (some 0) (.d (I t22)) (Qb a5 a6 a7 a8 k a b c e f g i) ZV::.ret (I t23)::l);obtain⟨C,h⟩|⟨C,h⟩:=io h
   ·have⟨t25,G,h⟩:=bo h;have⟨t26,K,h⟩:=bo h;have⟨t27,L,h⟩:=bo h;have⟨t28,h28,h⟩:=bo h;have⟨t29,h29,h⟩:=bo h;have⟨t30,h30,h⟩:=bo h;have⟨t31,h31,h⟩:=bo h;obtain rfl:=oi h;exact rfO 0 (o [b0,.ix (-9),b1,.ret (.tup [.agg [I t25.1,I t25.2.1],I t25.2.2]),.el (Q3 t26),.ret (I t27),.el (Q3 t28),.ret (I t29),.ret (I t30),.ret (I t31)]) (Qa (leF (Qx h31)) (Qa (Qu h30) (Qa (WK h29) (allE Qi h28 (Qa (WK L) (allE Qi K (Qa (GT G) (Qa (nef C) q))))))))
   obtain rfl:=oi h;exact rfO 0 (o [b1]) (Qa (net C) q)
  obtain⟨j,h⟩|⟨j,h⟩:=io h
  ·have⟨t22,u,h⟩:=bo h;have⟨t23,s,h⟩:=bo h;have⟨t24,C,h⟩:=bo h;have q:=Qa (leF (Qx C)) (Qa (QI s) (Qa (Qv u) (allE Qi J (Qa (mk1 ⟨#[100,101,108,105,118,101,114]⟩ Qsi j) q))));let o l:=o (.el Qsi::.el (Q3 t4)::.obj (some 0) (.d (I t22)) (Qb a5 a6 a7 a8 k a b c e f g i) ZV::.obj (some 0) (.d (I t23)) (Qb a5 a6 a7 a8 k a b c e f g i) ZV::.ret (I t24)::l);obtain⟨G,h⟩|⟨G,h⟩:=io h
   ·have⟨t26,K,h⟩:=bo h;have⟨t27,L,h⟩:=bo h;have⟨t28,h28,h⟩:=bo h;have⟨h29,h⟩:=gd h;have⟨t30,h30,h⟩:=bo h;have⟨t31,h31,h⟩:=bo h;have⟨t32,h32,h⟩:=bo h;have q:=Qa (QX Q0 h31) (Qa (Qu h32) (Qa (QX Q0 h31) (allE Qi h30 (allE Qi J (Qa h29 (Qa (QK h28) (Qa (QC L) (allE Qr K (Qa (nef G) q)))))))));let o l:=o (b0::.ix (-9)::b1::.el (Zy t26)::.ix (-9)::b1::.obj (some 0) (.d (.lst false 1 t27)) (Qb a5 a6 a7 a8 k a b c e f g i) ZV::.ret (I t28)::b1::.el (Q3 t4)::.el (Q3 t30)::.el (Q7 t31)::.ret (I t32)::.el (Q7 t31)::l);obtain⟨O,h⟩|⟨O,h⟩:=io h
    ·have⟨t34,h34,h⟩:=bo h;have⟨t35,h35,h⟩:=bo h;have⟨t36,h36,h⟩:=bo h;have⟨t37,h37,h⟩:=bo h;have⟨t38,h38,h⟩:=bo h;have q:=Qa (leF (Qx h38)) (Qa (Qu h37) (Qa (W8 h36) (Qa (QX Q0 h31) (Qa (Qu h35) (Qa (Xt h34) (Qa (jDj O) q))))));let o l:=o (b1::.ret (I t34)::.ret (I t35)::.el (Q7 t31)::.ret (I t36)::.ret (I t37)::.ret (I t38)::l);obtain⟨M,h⟩|⟨M,h⟩:=io h
     ·have⟨h40,h⟩:=gd h;have⟨t41,h41,h⟩:=bo h;have⟨t42,h42,h⟩:=bo h;obtain rfl:=oi h;exact rfO 0 (o [b0,.obj (some 0) (.d (.agg [I t41.1,I t41.2])) (Qb a5 a6 a7 a8 k a b c e f g i) ZV,.ret (I t42)]) (Qa (Qu h42) (Qa (WA h41) (Qa h40 (Qa (nef M) q))))
     obtain rfl:=oi h;exact rfO 0 (o [b1]) (Qa (net M) q)
    have⟨t34,h34,h⟩:=bo h;have⟨t35,h35,h⟩:=bo h;have⟨t36,h36,h⟩:=bo h;have⟨t37,h37,h⟩:=bo h;have⟨t38,h38,h⟩:=bo h;have q:=Qa (leF (Qx h38)) (Qa (Qu h37) (Qa (W8 h36) (Qa (QX Q0 h31) (Qa (Qu h35) (Qa (Qu h34) (Qa (QX Q0 h31) (Qa (jEj O) q)))))));let o l:=o (b0::.el (Q7 t31)::.ret (I t34)::.ret (I t35)::.el (Q7 t31)::.ret (I t36)::.ret (I t37)::.ret (I t38)::l);obtain⟨M,h⟩|⟨M,h⟩:=io h
    ·have⟨h40,h⟩:=gd h;have⟨t41,h41,h⟩:=bo h;have⟨t42,h42,h⟩:=bo h;obtain rfl:=oi h;exact rfO 0 (o [b0,.obj (some 0) (.d (.agg [I t41.1,I t41.2])) (Qb a5 a6 a7 a8 k a b c e f g i) ZV,.ret (I t42)]) (Qa (Qu h42) (Qa (WA h41) (Qa h40 (Qa (nef M) q))))
    obtain rfl:=oi h;exact rfO 0 (o [b1]) (Qa (net M) q)
   obtain rfl:=oi h;exact rfO 0 (o [b1]) (Qa (net G) q)
  obtain⟨u,h⟩|⟨u,h⟩:=io h
  ·have⟨t23,s,h⟩:=bo h;have⟨t24,C,h⟩:=bo h;have⟨t25,G,h⟩:=bo h;have q:=Qa (leF (Qx G)) (Qa (QI C) (Qa (Qv s) (allE Qi J (Qa (mk1 ⟨#[98,105,108,108]⟩ Qsj u) q))));let o l:=o (.el Qsj::.el (Q3 t4)::.obj (some 0) (.d (I t23)) (Qb a5 a6 a7 a8 k a b c e f g i) ZV::.obj (some 0) (.d (I t24)) (Qb a5 a6 a7 a8 k a b c e f g i) ZV::.ret (I t25)::l);obtain⟨K,h⟩|⟨K,h⟩:=io h
   ·have⟨t27,L,h⟩:=bo h;have⟨t28,h28,h⟩:=bo h;have⟨t29,h29,h⟩:=bo h;have⟨h30,h⟩:=gd h;have⟨t31,h31,h⟩:=bo h;have⟨t32,h32,h⟩:=bo h;have⟨t33,O,h⟩:=bo h;have⟨t34,h34,h⟩:=bo h;obtain rfl:=oi h;exact rfO 0 (o [b0,.ix (-9),b1,.el (Zy t27),b1,.obj (some 0) (.d (.lst false 1 t28)) (Qb a5 a6 a7 a8 k a b c e f g i) ZV,.ret (I t29),b1,.el (Q7 t31),.ret (I t32),.el (Q3 t4),.el (Q7 t31),.ret (I t33),.ret (I t34)]) (Qa (leF (Qx h34)) (Qa (Qu O) (Qa (QX Q0 h31) (allE Qi J (Qa (Qu h32) (Qa (QX Q0 h31) (Qa h30 (Qa (QK h29) (Qa (QC h28) (allE Qr L (Qa (nef K) q)))))))))))
   obtain rfl:=oi h;exact rfO 0 (o [b1]) (Qa (net K) q)
  let o l:=o (.el Qsd::.el (Q3 t4)::l);obtain⟨s,h⟩|⟨s,h⟩:=io h
  ·have⟨t24,C,h⟩:=bo h;have⟨t25,G,h⟩:=bo h;have⟨t26,K,h⟩:=bo h;have q:=Qa (leF (Qx K)) (Qa (QI G) (Qa (Qv C) (allE Qi J (Qa (mk1 ⟨#[117,110,100,111]⟩ Qsd s) q))));let o l:=o (.obj (some 0) (.d (I t24)) (Qb a5 a6 a7 a8 k a b c e f g i) ZV::.obj (some 0) (.d (I t25)) (Qb a5 a6 a7 a8 k a b c e f g i) ZV::.ret (I t26)::l);obtain⟨L,h⟩|⟨L,h⟩:=io h
   ·obtain rfl:=oi h;exact rfO 0 (o [b0,.ix (-9),b1]) (Qa (nef L) q)
   obtain rfl:=oi h;exact rfO 0 (o [b1]) (Qa (net L) q)
  cases h
 obtain rfl:=oi h;exact rfO 0 [b1] (Qa (net U) q)
def ZF (n:Nat)(a0 a1:Int)(a2 a3:Bool)(a4 a5 a6:Int)(a7 a8 c:jVj)(b:(Int×Int)):Option (Int×Int⊕Int) := if b.1<((a8).length:Int) then if 0<=b.1/\b.1<((a8).length:Int) then((nth (a8) (Int.toNat b.1)).bind QM).bind fun a=>if a.2.2.2.2.2=true then if Qh (1000 - a.2.2.2.1) then if Qh (a.2.2.1*(1000 - a.2.2.2.1)) then if Qh ((a.2.2.1*(1000 - a.2.2.2.1))*a1) then if Qh (b.2+((a.2.2.1*(1000 - a.2.2.2.1))*a1)) then if Qh (b.1+1) then some (.inl ((b.1+1),(b.2+((a.2.2.1*(1000 - a.2.2.2.1))*a1)))) else none else none else none else none else none else if Qh (b.1+1) then some (.inl ((b.1+1),b.2)) else none else none else some (.inr b.2)
noncomputable def Jf (a0 a1:Int)(a2 a3:Bool)(a4 a5 a6:Int)(a7 a8 b:jVj):Lp (Int×Int) (Int):=⟨fun a=>[(0,.own 21 0),(8,.own 9 0),(9,.d (I ((a8).length:Int))),(10,.d (I a.1))],fun a=>[(0,.box (.agg [.d (I a0),.d (I a1),.d (B a2),.d (B a3),.d (I a4),.d (I a5),.d (I a6),.own 8 0,.own 9 0,.own 10 0])),(8,.row 0 1 a7),(9,.row 0 6 a8),(10,.row 0 7 b),(11,.box (.ptr 0 0 0 0 0)),(13,.box (.d (I a.2))),(17,.box (.ptr 0 0 0 0 0)),(21,.loop true [(6,.fn (.func 160) [] [.ptr 17 0 0 0 0]),(5,.ptr 0 0 0 0 0),(3,.ptr 13 0 0 0 0),(2,.d (I 0)),(1,.ptr 11 0 0 0 0),(0,.ptr 0 0 0 0 0)] [7] (ZY cx.P 57 0).1 (ZY cx.P 57 0).2 22)],fun _=>(.exit 0),fun _=>[],fun e=>[(0,.box (.agg [.d (I a0),.d (I a1),.d (B a2),.d (B a3),.d (I a4),.d (I a5),.d (I a6),.own 8 0,.own 9 0,.own 10 0])),(8,.row 0 1 a7),(9,.row 0 6 a8),(10,.row 0 7 b),(11,.box (.ptr 0 0 0 0 0)),(13,.box (.d (I e))),(17,.box (.ptr 0 0 0 0 0)),(21,.loop true [(6,.fn (.func 160) [] [.ptr 17 0 0 0 0]),(5,.ptr 0 0 0 0 0),(3,.ptr 13 0 0 0 0),(2,.d (I 0)),(1,.ptr 11 0 0 0 0),(0,.ptr 0 0 0 0 0)] [7] (ZY cx.P 57 0).1 (ZY cx.P 57 0).2 22)]⟩
theorem Jb {n a0 a1 a2 a3 a4 a5 a6 a7 a8 c}(d)(r)(h:ZF n a0 a1 a2 a3 a4 a5 a6 a7 a8 c d=some r):Rl (ZJ cx.P 160 0) 23 22 false (Jf a0 a1 a2 a3 a4 a5 a6 a7 a8 c) d r:=by
 unfold ZF at h;obtain⟨a,h⟩|⟨a,h⟩:=io h
 ·have⟨ha2,h⟩:=gd h;have⟨ta3,ha3,h⟩:=bo h;have q:=Qa (QX Qq ha3) (Qa ha2 (Qa (jDj a) QL));let o(l:jOj):=b1::b1::.el (QB ta3)::l;obtain⟨b,h⟩|⟨b,h⟩:=io h
  ·have⟨ha5,h⟩:=gd h;have⟨ha6,h⟩:=gd h;have⟨ha7,h⟩:=gd h;have⟨ha8,h⟩:=gd h;have⟨ha9,h⟩:=gd h;cases h;exact rn 28 (o [b1,.no]) [] [0,8,9,10] [0,8,9,10,11,13,17,21] (Qa ha9 (Qa ha8 (Qa ha7 (Qa ha6 (Qa ha5 (Qa b q))))))
  have⟨ha5,h⟩:=gd h;cases h;exact rn 28 (o [b0,.no]) [] [0,8,9,10] [0,8,9,10,11,13,17,21] (Qa ha5 (Qa (QA b) q))
 cases h;exact rx 28 [b0] [] [] [0,8,9,10,11,13,17,21] (Qa (jEj a) QL)
def WD (n:Nat)(a0 a1:Int)(a2 a3:Bool)(a4 a5 a6:Int)(a7 a8 a:jVj):Option (Int) := (Q2 (ZF n a0 a1 a2 a3 a4 a5 a6 a7 a8 a) n (0,0)).bind fun b=>some b
theorem Gk {n a0 a1 a2 a3 a4 a5 a6 a7 a8 a r}(h:WD n a0 a1 a2 a3 a4 a5 a6 a7 a8 a=some r):ComputesO cx 57 [.ptr 0 0 0 0 0] (some (QJ a0 a1 a2 a3 a4 a5 a6 a7 a8 a)) (.d (I r)) (QJ a0 a1 a2 a3 a4 a5 a6 a7 a8 a) qC:=by unfold WD at h;have⟨t1,h1,h⟩:=bo h;obtain rfl:=oi h;exact rfO 0 [b1,.lp [] [0,8,9,10] [0,8,9,10,11,13,17,21] (.exit 0) [] [(0,.box (.agg [.d (I a0),.d (I a1),.d (B a2),.d (B a3),.d (I a4),.d (I a5),.d (I a6),.own 8 0,.own 9 0,.own 10 0])),(8,.row 0 1 a7),(9,.row 0 6 a8),(10,.row 0 7 a),(11,.box (.ptr 0 0 0 0 0)),(13,.box (.d (I t1))),(17,.box (.ptr 0 0 0 0 0)),(21,.loop true [(6,.fn (.func 160) [] [.ptr 17 0 0 0 0]),(5,.ptr 0 0 0 0 0),(3,.ptr 13 0 0 0 0),(2,.d (I 0)),(1,.ptr 11 0 0 0 0),(0,.ptr 0 0 0 0 0)] [7] (ZY cx.P 57 0).1 (ZY cx.P 57 0).2 22)] 70] (Qa (QH Jb h1) QL)
def Wh (n:Nat)(a0 a1 a2:Int)(a3 a4:Bool)(a5 a6 a7:Int)(a8 c b:jVj):Option (Int×Int) := (WD n a1 a2 a3 a4 a5 a6 a7 a8 c b).bind fun a=>if Qh (a0 - a1) then if Qh (a*(a0 - a1)) then if Qh (a5+(a*(a0 - a1))) then if Qh (a6+(a*(a0 - a1))) then some ((a5+(a*(a0 - a1))),(a6+(a*(a0 - a1)))) else none else none else none else none
theorem Jm {n a0 a1 a2 a3 a4 a5 a6 a7 a8 b a r}(h:Wh n a0 a1 a2 a3 a4 a5 a6 a7 a8 b a=some r):ComputesO cx 56 [.ptr 0 0 0 0 0,.d (I a0)] (some (QJ a1 a2 a3 a4 a5 a6 a7 a8 b a)) (.d (.agg [I r.1,I r.2])) (QJ a1 a2 a3 a4 a5 a6 a7 a8 b a) qC:=by unfold Wh at h;have⟨t1,h1,h⟩:=bo h;have⟨h2,h⟩:=gd h;have⟨h3,h⟩:=gd h;have⟨h4,h⟩:=gd h;have⟨h5,h⟩:=gd h;cases h;exact rfO 0 [.obj (some 0) (.d (I t1)) (QJ a1 a2 a3 a4 a5 a6 a7 a8 b a) qC] (Qa h5 (Qa h4 (Qa h3 (Qa h2 (Qa (Gk h1) QL)))))
def ZA (n:Nat)(a1 a2:Int)(a3 a4:Bool)(a5 a6 a7:Int)(a8 c e:jVj)(b:(Int×jVj)):Option (Int×jVj⊕jVj) := if b.1<((c).length:Int) then if 0<=b.1/\b.1<((c).length:Int) then((nth (c) (Int.toNat b.1)).bind QM).bind fun a=>(ZN n a.1 a.2.1 a.2.2.1 a.2.2.2.1 a.2.2.2.2.1 a.2.2.2.2.2).bind fun d=>if Wa 16 ((b.2).length+1) then if Qh (b.1+1) then some (.inl ((b.1+1),(b.2++([.v (.string d)]:jVj)))) else none else none else none else some (.inr b.2)
noncomputable def Kv (a1 a2:Int)(a3 a4:Bool)(a5 a6 a7:Int)(a8 b a:jVj):Lp (Int×jVj) (jVj):=⟨fun c=>[(1,.d (.fn (.func 177) [] [])),(5,.own 28 0),(8,.own 9 0),(9,.d (I ((b).length:Int))),(10,.d (I c.1))],fun c=>[(0,.box (.agg [.d (I a1),.d (I a2),.d (B a3),.d (B a4),.d (I a5),.d (I a6),.d (I a7),.own 8 0,.own 9 0,.own 10 0])),(8,.row 0 1 a8),(9,.row 0 6 b),(10,.row 0 7 a),(28,.row 0 1 c.2)],fun _=>(.exit 0),fun _=>[(5,.own 28 0)],fun e=>[(0,.box (.agg [.d (I a1),.d (I a2),.d (B a3),.d (B a4),.d (I a5),.d (I a6),.d (I a7),.own 8 0,.own 9 0,.own 10 0])),(8,.row 0 1 a8),(9,.row 0 6 b),(10,.row 0 7 a),(28,.row 0 1 e)]⟩
theorem Kt {n a1 a2 a3 a4 a5 a6 a7 a8 c b}(d)(r)(h:ZA n a1 a2 a3 a4 a5 a6 a7 a8 c b d=some r):Rl (ZJ cx.P 58 0) 22 23 false (Kv a1 a2 a3 a4 a5 a6 a7 a8 c b) d r:=by
 unfold ZA at h;obtain⟨a,h⟩|⟨a,h⟩:=io h
 ·have⟨ha2,h⟩:=gd h;have⟨ta3,ha3,h⟩:=bo h;have⟨ta4,ha4,h⟩:=bo h;have⟨ha5,h⟩:=gd h;have⟨ha6,h⟩:=gd h;cases h;exact rn 29 [b1,b1,.el (QB ta3),.ret (Qr5 ta4),b1] [] [1,5,8,9,10] [0,8,9,10,28] (Qa ha6 (Qa (ro 9 ha5) (Qa (Yw ha4) (Qa (QX Qq ha3) (Qa ha2 (Qa (jDj a) QL))))))
 cases h;exact rx 29 [b0] [] [5] [0,8,9,10,28] (Qa (jEj a) QL)
def Zz (n:Nat)(a1 a2:Int)(a3 a4:Bool)(a5 a6 a7:Int)(a8 e c:jVj)(b:(Int×jVj)):Option (Int×jVj⊕jVj) := if b.1<((c).length:Int) then if 0<=b.1/\b.1<((c).length:Int) then((nth (c) (Int.toNat b.1)).bind Z6).bind fun a=>(ZM n a.1 a.2.1 a.2.2.1 a.2.2.2.1 a.2.2.2.2.1 a.2.2.2.2.2.1 a.2.2.2.2.2.2).bind fun d=>if Wa 16 ((b.2).length+1) then if Qh (b.1+1) then some (.inl ((b.1+1),(b.2++([.v (.string d)]:jVj)))) else none else none else none else some (.inr b.2)
noncomputable def Ku (a1 a2:Int)(a3 a4:Bool)(a5 a6 a7:Int)(a8 c a:jVj):Lp (Int×jVj) (jVj):=⟨fun b=>[(1,.d (.fn (.func 179) [] [])),(5,.own 28 0),(8,.own 10 0),(9,.d (I ((a).length:Int))),(10,.d (I b.1))],fun b=>[(0,.box (.agg [.d (I a1),.d (I a2),.d (B a3),.d (B a4),.d (I a5),.d (I a6),.d (I a7),.own 8 0,.own 9 0,.own 10 0])),(8,.row 0 1 a8),(9,.row 0 6 c),(10,.row 0 7 a),(28,.row 0 1 b.2)],fun _=>(.exit 0),fun _=>[(5,.own 28 0)],fun e=>[(0,.box (.agg [.d (I a1),.d (I a2),.d (B a3),.d (B a4),.d (I a5),.d (I a6),.d (I a7),.own 8 0,.own 9 0,.own 10 0])),(8,.row 0 1 a8),(9,.row 0 6 c),(10,.row 0 7 a),(28,.row 0 1 e)]⟩
theorem Ks {n a1 a2 a3 a4 a5 a6 a7 a8 c b}(d)(r)(h:Zz n a1 a2 a3 a4 a5 a6 a7 a8 c b d=some r):Rl (ZJ cx.P 178 0) 22 23 false (Ku a1 a2 a3 a4 a5 a6 a7 a8 c b) d r:=by
 unfold Zz at h;obtain⟨a,h⟩|⟨a,h⟩:=io h
 ·have⟨ha2,h⟩:=gd h;have⟨ta3,ha3,h⟩:=bo h;have⟨ta4,ha4,h⟩:=bo h;have⟨ha5,h⟩:=gd h;have⟨ha6,h⟩:=gd h;cases h;exact rn 29 [b1,b1,.el (Q7 ta3),.ret (Qr5 ta4),b1] [] [1,5,8,9,10] [0,8,9,10,28] (Qa ha6 (Qa (ro 9 ha5) (Qa (Yv ha4) (Qa (QX Q0 ha3) (Qa ha2 (Qa (jDj a) QL))))))
 cases h;exact rx 29 [b0] [] [5] [0,8,9,10,28] (Qa (jEj a) QL)
def QQ (n:Nat)(a0 a1 a2:Int)(a3 a4:Bool)(a5 a6 a7:Int)(a8 c a:jVj):Option (jVj) := if a0=115 then none else if a0=109 then(Q2 (ZA n a1 a2 a3 a4 a5 a6 a7 a8 c a) n (0,[])).bind fun b=>some b else(Q2 (Zz n a1 a2 a3 a4 a5 a6 a7 a8 c a) n (0,[])).bind fun b=>some b
theorem Zn {n a0 a1 a2 a3 a4 a5 a6 a7 a8 b a r}(h:QQ n a0 a1 a2 a3 a4 a5 a6 a7 a8 b a=some r):ComputesO cx 101 [.ptr 0 0 0 0 0,.d (.v (.int .u8 a0))] (some (QJ a1 a2 a3 a4 a5 a6 a7 a8 b a)) (.d (.lst false 1 r)) (QJ a1 a2 a3 a4 a5 a6 a7 a8 b a) qC:=by
 unfold QQ at h;obtain⟨e,h⟩|⟨e,h⟩:=io h
 ·cases h
 have q:=Qa (eqf e) QL;obtain⟨c,h⟩|⟨c,h⟩:=io h
 ·have⟨t3,h3,h⟩:=bo h;obtain rfl:=oi h;exact rfO 0 [b0,b1,b1,.lp [5,1] [1,5,8,9,10] [0,8,9,10,28] (.exit 0) [(5,.own 28 0)] [(0,.box (.agg [.d (I a1),.d (I a2),.d (B a3),.d (B a4),.d (I a5),.d (I a6),.d (I a7),.own 8 0,.own 9 0,.own 10 0])),(8,.row 0 1 a8),(9,.row 0 6 b),(10,.row 0 7 a),(28,.row 0 1 t3)] 54] (Qa (QH Kt h3) (Qa (eqt c) q))
 have⟨t3,h3,h⟩:=bo h;obtain rfl:=oi h;exact rfO 0 [b0,b0,b1,.lp [5,1] [1,5,8,9,10] [0,8,9,10,28] (.exit 0) [(5,.own 28 0)] [(0,.box (.agg [.d (I a1),.d (I a2),.d (B a3),.d (B a4),.d (I a5),.d (I a6),.d (I a7),.own 8 0,.own 9 0,.own 10 0])),(8,.row 0 1 a8),(9,.row 0 6 b),(10,.row 0 7 a),(28,.row 0 1 t3)] 54] (Qa (QH Ks h3) (Qa (eqf c) q))
def WC (n:Nat)(a0 a1:jSj)(a2 a3:Int)(a4 a5:Bool)(a6:Int)(a7:jSj)(a8 c:jVj)(a:jSj):Option (Bool) := (el Ww a8 0).bind fun b=>some (a1.toList==b.toList)
theorem U4 {n a0 a1 a2 a3 a4 a5 a6 a7 a8 b a r}(h:WC n a0 a1 a2 a3 a4 a5 a6 a7 a8 b a=some r):Computes cx 122 [.agg [Qr5 a0,Qr5 a1,I a2,I a3,B a4,B a5],.ref (.agg [I a6,Qr5 a7,.lst false 1 a8,.lst false 1 b,Qr5 a]) 0] (B r):=by unfold WC at h;have⟨t1,h1,h⟩:=bo h;cases h;exact rf [.el (Zy t1)] (allE Qr h1 QL)
def Z1 (n:Nat)(a0:Int)(a1:jSj)(a2 a3:jVj)(a4:jSj)(a5 a6:Int)(a7 a8:Bool)(i e f:Int)(g c h:jVj)(b:(Int×jVj)):Option (Int×jVj⊕jVj) := if b.1<((c).length:Int) then if 0<=b.1/\b.1<((b.2).length:Int) then((nth (b.2) (Int.toNat b.1)).bind QM).bind fun a=>(WC n a.1 a.2.1 a.2.2.1 a.2.2.2.1 a.2.2.2.2.1 a.2.2.2.2.2 a0 a1 a2 a3 a4).bind fun d=>if d=true then if Qh (b.1+1) then some (.inl ((b.1+1),(List.set b.2 (Int.toNat b.1) (.agg [.v (.string a.1),.v (.string a.2.1),I a.2.2.1,I a.2.2.2.1,B a.2.2.2.2.1,B false]:D)))) else none else if Qh (b.1+1) then some (.inl ((b.1+1),b.2)) else none else none else some (.inr b.2)
noncomputable def J6 (a0:Int)(a1:jSj)(a2 a3:jVj)(a4:jSj)(a5 a6:Int)(a7 a8:Bool)(i a b:Int)(c g f:jVj):Lp (Int×jVj) (jVj):=⟨fun h=>[(0,.ptr 0 0 0 0 0),(1,.d (.fn (.func 122) [] [.ref (.agg [I a0,Qr5 a1,.lst false 1 a2,.lst false 1 a3,Qr5 a4]) 0])),(9,.own 9 0),(10,.d (I ((g).length:Int))),(11,.d (I h.1))],fun h=>[(0,.box (.agg [.d (I a5),.d (I a6),.d (B a7),.d (B a8),.d (I i),.d (I a),.d (I b),.own 8 0,.own 9 0,.own 10 0])),(8,.row 0 1 c),(9,.row 0 6 h.2),(10,.row 0 7 f)],fun _=>(.exit 0),fun _=>[],fun e=>[(0,.box (.agg [.d (I a5),.d (I a6),.d (B a7),.d (B a8),.d (I i),.d (I a),.d (I b),.own 8 0,.own 9 0,.own 10 0])),(8,.row 0 1 c),(9,.row 0 6 e),(10,.row 0 7 f)]⟩
theorem J4 {n a0 a1 a2 a3 a4 a5 a6 a7 a8 i c d e f g}(j)(r)(h:Z1 n a0 a1 a2 a3 a4 a5 a6 a7 a8 i c d e f g j=some r):Rl (ZJ cx.P 121 0) 27 11 false (J6 a0 a1 a2 a3 a4 a5 a6 a7 a8 i c d e f g) j r:=by
 unfold Z1 at h;obtain⟨a,h⟩|⟨a,h⟩:=io h
 ·have⟨ha2,h⟩:=gd h;have⟨ta3,ha3,h⟩:=bo h;have⟨ta4,ha4,h⟩:=bo h;have q:=Qa (U4 ha4) (Qa (QX Qq ha3) (Qa ha2 (Qa (jDj a) QL)));let o(l:jOj):=b1::b1::.el (QB ta3)::.ret (B ta4)::l;obtain⟨b,h⟩|⟨b,h⟩:=io h
  ·have⟨ha6,h⟩:=gd h;cases h;exact rn 17 (o [b1,b1,.el (QB ta3)]) [] [0,1,9,10,11] [0,8,9,10] (Qa ha6 (Qa (QX Qq ha3) (Qa ha2 (Qa b q))))
  have⟨ha6,h⟩:=gd h;cases h;exact rn 17 (o [b0]) [] [0,1,9,10,11] [0,8,9,10] (Qa ha6 (Qa (QA b) q))
 cases h;exact rx 17 [b0] [] [] [0,8,9,10] (Qa (jEj a) QL)
def WR (n:Nat)(a0:Int)(a1:jSj)(a2 a3:jVj)(a4:jSj)(a5 a6:Int)(a7 a8:Bool)(f b c:Int)(d a e:jVj):Option (jVj) := (Q2 (Z1 n a0 a1 a2 a3 a4 a5 a6 a7 a8 f b c d a e) n (0,a)).bind fun g=>some g
theorem G3 {n a0 a1 a2 a3 a4 a5 a6 a7 a8 g a b c f e r}(h:WR n a0 a1 a2 a3 a4 a5 a6 a7 a8 g a b c f e=some r):ComputesO cx 121 [.ptr 0 0 0 0 0,.d (.fn (.func 122) [] [.ref (.agg [I a0,Qr5 a1,.lst false 1 a2,.lst false 1 a3,Qr5 a4]) 0])] (some (QJ a5 a6 a7 a8 g a b c f e)) (.d (.tup [])) (QJ a5 a6 a7 a8 g a b c r e) [false,false,false,false,false,false,false,true,true,true]:=by unfold WR at h;have⟨t1,h1,h⟩:=bo h;obtain rfl:=oi h;exact rfO 0 [.lp [] [0,1,9,10,11] [0,8,9,10] (.exit 0) [] [(0,.box (.agg [.d (I a5),.d (I a6),.d (B a7),.d (B a8),.d (I g),.d (I a),.d (I b),.own 8 0,.own 9 0,.own 10 0])),(8,.row 0 1 c),(9,.row 0 6 t1),(10,.row 0 7 e)] 48] (Qa (QH J4 h1) QL)
def WB (n:Nat)(a0 a1:jSj)(a2 a3:Int)(a4 a5:Bool):Option (Bool) := some true
theorem U3 {n a0 a1 a2 a3 a4 a5 r}(h:WB n a0 a1 a2 a3 a4 a5=some r):Computes cx 132 [.agg [Qr5 a0,Qr5 a1,I a2,I a3,B a4,B a5]] (B r):=by unfold WB at h;obtain rfl:=oi h;exact rf [] QL
def ZI (n:Nat)(a0 a1:Int)(a2 a3:Bool)(a4 a5 a6:Int)(a7 a8 d:jVj)(b:(Int×jVj)):Option (Int×jVj⊕jVj) := if b.1<((a8).length:Int) then if 0<=b.1/\b.1<((b.2).length:Int) then((nth (b.2) (Int.toNat b.1)).bind QM).bind fun a=>(WB n a.1 a.2.1 a.2.2.1 a.2.2.2.1 a.2.2.2.2.1 a.2.2.2.2.2).bind fun c=>if c=true then if Qh (b.1+1) then some (.inl ((b.1+1),(List.set b.2 (Int.toNat b.1) (.agg [.v (.string a.1),.v (.string a.2.1),I a.2.2.1,I a.2.2.2.1,B a.2.2.2.2.1,B false]:D)))) else none else if Qh (b.1+1) then some (.inl ((b.1+1),b.2)) else none else none else some (.inr b.2)
noncomputable def Ji (a0 a1:Int)(a2 a3:Bool)(a4 a5 a6:Int)(a7 a8 b:jVj):Lp (Int×jVj) (jVj):=⟨fun a=>[(0,.ptr 0 0 0 0 0),(1,.d (.fn (.func 132) [] [])),(9,.own 9 0),(10,.d (I ((a8).length:Int))),(11,.d (I a.1))],fun a=>[(0,.box (.agg [.d (I a0),.d (I a1),.d (B a2),.d (B a3),.d (I a4),.d (I a5),.d (I a6),.own 8 0,.own 9 0,.own 10 0])),(8,.row 0 1 a7),(9,.row 0 6 a.2),(10,.row 0 7 b)],fun _=>(.exit 0),fun _=>[],fun e=>[(0,.box (.agg [.d (I a0),.d (I a1),.d (B a2),.d (B a3),.d (I a4),.d (I a5),.d (I a6),.own 8 0,.own 9 0,.own 10 0])),(8,.row 0 1 a7),(9,.row 0 6 e),(10,.row 0 7 b)]⟩
theorem Je {n a0 a1 a2 a3 a4 a5 a6 a7 a8 c}(d)(r)(h:ZI n a0 a1 a2 a3 a4 a5 a6 a7 a8 c d=some r):Rl (ZJ cx.P 121 0) 27 11 false (Ji a0 a1 a2 a3 a4 a5 a6 a7 a8 c) d r:=by
 unfold ZI at h;obtain⟨a,h⟩|⟨a,h⟩:=io h
 ·have⟨ha2,h⟩:=gd h;have⟨ta3,ha3,h⟩:=bo h;have⟨ta4,ha4,h⟩:=bo h;have q:=Qa (U3 ha4) (Qa (QX Qq ha3) (Qa ha2 (Qa (jDj a) QL)));let o(l:jOj):=b1::b1::.el (QB ta3)::.ret (B ta4)::l;obtain⟨b,h⟩|⟨b,h⟩:=io h
  ·have⟨ha6,h⟩:=gd h;cases h;exact rn 17 (o [b1,b1,.el (QB ta3)]) [] [0,1,9,10,11] [0,8,9,10] (Qa ha6 (Qa (QX Qq ha3) (Qa ha2 (Qa b q))))
  have⟨ha6,h⟩:=gd h;cases h;exact rn 17 (o [b0]) [] [0,1,9,10,11] [0,8,9,10] (Qa ha6 (Qa (QA b) q))
 cases h;exact rx 17 [b0] [] [] [0,8,9,10] (Qa (jEj a) QL)
def WG (n:Nat)(a0 a1:Int)(a2 a3:Bool)(a4 a5 a6:Int)(a7 a8 a:jVj):Option (jVj) := (Q2 (ZI n a0 a1 a2 a3 a4 a5 a6 a7 a8 a) n (0,a8)).bind fun b=>some b
theorem Gn {n a0 a1 a2 a3 a4 a5 a6 a7 a8 a r}(h:WG n a0 a1 a2 a3 a4 a5 a6 a7 a8 a=some r):ComputesO cx 121 [.ptr 0 0 0 0 0,.d (.fn (.func 132) [] [])] (some (QJ a0 a1 a2 a3 a4 a5 a6 a7 a8 a)) (.d (.tup [])) (QJ a0 a1 a2 a3 a4 a5 a6 a7 r a) [false,false,false,false,false,false,false,true,true,true]:=by unfold WG at h;have⟨t1,h1,h⟩:=bo h;obtain rfl:=oi h;exact rfO 0 [.lp [] [0,1,9,10,11] [0,8,9,10] (.exit 0) [] [(0,.box (.agg [.d (I a0),.d (I a1),.d (B a2),.d (B a3),.d (I a4),.d (I a5),.d (I a6),.own 8 0,.own 9 0,.own 10 0])),(8,.row 0 1 a7),(9,.row 0 6 t1),(10,.row 0 7 a)] 48] (Qa (QH Je h1) QL)
def Wv (n:Nat)(a0:jSj)(a1 a2 a3 a4 a5:Int)(a6:Bool):Option (Int) := if Qh (a4*a5) then if Qh (2*a4) then(Zg n a0 a1 a2 a3 a4 a5 a6).bind fun a=>if Qh ((2*a4)*a) then if Qh ((a4*a5) - ((2*a4)*a)) then some ((a4*a5) - ((2*a4)*a)) else none else none else none else none
theorem YN {n a0 a1 a2 a3 a4 a5 a6 r}(h:Wv n a0 a1 a2 a3 a4 a5 a6=some r):Computes cx 65 [.agg [Qr5 a0,I a1,I a2,I a3,I a4,I a5,B a6]] (I r):=by unfold Wv at h;have⟨h1,h⟩:=gd h;have⟨h2,h⟩:=gd h;have⟨t3,h3,h⟩:=bo h;have⟨h4,h⟩:=gd h;have⟨h5,h⟩:=gd h;cases h;exact rf [.ret (I t3)] (Qa h5 (Qa h4 (Qa (W8 h3) (Qa h2 (Qa h1 QL)))))
def Qz (n:Nat)(a0:Int)(a1:jSj)(a2 a3:jVj)(a4:jSj)(a5 a6:Int)(a7 a8:Bool)(G C c:Int)(d a b:jVj):Option (jRj) := (el Vt a3 0).bind fun h=>(Wh n h a5 a6 a7 a8 G C c d a b).bind fun e=>if a1.data.toList=[115,101,99,116,111,114] then(el Ww a2 0).bind fun H=>if Wa 16 ((d).length+1) then some (h,a6,a7,a8,e.1,e.2,c,(d++([.v (.string H)]:jVj)),a,b) else none else if a1.data.toList=[109,105,114,114,111,114] then(el Ww a2 0).bind fun J=>(el Ww a2 1).bind fun F=>(el Vt a3 1).bind fun A=>if Wa 56 ((a).length+1) then some (h,a6,a7,a8,e.1,e.2,c,d,(a++([.agg [.v (.string J),.v (.string F),I A,I 0,B false,B false]]:jVj)),b) else none else if a1.data.toList=[115,111,105,108] then(el Ww a2 0).bind fun F=>(QQ n 109 h a6 a7 a8 e.1 e.2 c d a b).bind fun A=>(QE n A F).bind fun t=>if 0<=t/\t<((a).length:Int) then(el Vt a3 1).bind fun k=>((nth (a) (Int.toNat t)).bind QM).bind fun f=>some (h,a6,a7,a8,e.1,e.2,c,d,(List.set a (Int.toNat t) (.agg [.v (.string f.1),.v (.string f.2.1),I f.2.2.1,I k,B f.2.2.2.2.1,B f.2.2.2.2.2]:D)),b) else none else if a1.data.toList=[99,108,101,97,110] then(el Ww a2 0).bind fun A=>(QQ n 109 h a6 a7 a8 e.1 e.2 c d a b).bind fun t=>(QE n t A).bind fun u=>if 0<=u/\u<((a).length:Int) then((nth (a) (Int.toNat u)).bind QM).bind fun f=>some (h,a6,a7,a8,e.1,e.2,c,d,(List.set a (Int.toNat u) (.agg [.v (.string f.1),.v (.string f.2.1),I f.2.2.1,I 0,B f.2.2.2.2.1,B f.2.2.2.2.2]:D)),b) else none else if a1.data.toList=[100,101,102,101,99,116] then(el Ww a2 0).bind fun t=>(QQ n 109 h a6 a7 a8 e.1 e.2 c d a b).bind fun u=>(QE n u t).bind fun k=>if 0<=k/\k<((a).length:Int) then((nth (a) (Int.toNat k)).bind QM).bind fun i=>some (h,a6,a7,a8,e.1,e.2,c,d,(List.set a (Int.toNat k) (.agg [.v (.string i.1),.v (.string i.2.1),I i.2.2.1,I i.2.2.2.1,B true,B i.2.2.2.2.2]:D)),b) else none else if a1.data.toList=[114,101,112,97,105,114] then(el Ww a2 0).bind fun u=>(QQ n 109 h a6 a7 a8 e.1 e.2 c d a b).bind fun k=>(QE n k u).bind fun f=>if 0<=f/\f<((a).length:Int) then((nth (a) (Int.toNat f)).bind QM).bind fun j=>some (h,a6,a7,a8,e.1,e.2,c,d,(List.set a (Int.toNat f) (.agg [.v (.string j.1),.v (.string j.2.1),I j.2.2.1,I j.2.2.2.1,B false,B j.2.2.2.2.2]:D)),b) else none else if a1.data.toList=[97,105,109] then(el Ww a2 0).bind fun k=>(QQ n 109 h a6 a7 a8 e.1 e.2 c d a b).bind fun f=>(QE n f k).bind fun i=>if 0<=i/\i<((a).length:Int) then((nth (a) (Int.toNat i)).bind QM).bind fun q=>some (h,a6,a7,a8,e.1,e.2,c,d,(List.set a (Int.toNat i) (.agg [.v (.string q.1),.v (.string q.2.1),I q.2.2.1,I q.2.2.2.1,B q.2.2.2.2.1,B true]:D)),b) else none else if a1.data.toList=[112,97,114,107] then(el Ww a2 0).bind fun f=>(QQ n 109 h a6 a7 a8 e.1 e.2 c d a b).bind fun i=>(QE n i f).bind fun j=>if 0<=j/\j<((a).length:Int) then((nth (a) (Int.toNat j)).bind QM).bind fun r=>some (h,a6,a7,a8,e.1,e.2,c,d,(List.set a (Int.toNat j) (.agg [.v (.string r.1),.v (.string r.2.1),I r.2.2.1,I r.2.2.2.1,B r.2.2.2.2.1,B false]:D)),b) else none else if a1.data.toList=[100,105,109] then(WR n a0 a1 a2 a3 a4 h a6 a7 a8 e.1 e.2 c d a b).bind fun i=>some (h,a6,a7,a8,e.1,e.2,c,d,i,b) else if a1.data.toList=[115,117,110] then(el Vt a3 1).bind fun j=>some (h,j,a7,a8,e.1,e.2,c,d,a,b) else if a1.data.toList=[102,105,108,108] then some (h,a6,true,a8,e.1,e.2,c,d,a,b) else if a1.data.toList=[100,114,97,105,110] then some (h,a6,false,a8,e.1,e.2,c,d,a,b) else if a1.data.toList=[116,114,105,112] then(WG n h a6 a7 true e.1 e.2 c d a b).bind fun E=>some (h,a6,a7,true,e.1,e.2,c,d,E,b) else if a1.data.toList=[114,101,115,101,116] then some (h,a6,a7,false,e.1,e.2,c,d,a,b) else if a1.data.toList=[111,102,102,101,114] then(WL n a0 a1 a2 a3 a4).bind fun y=>(el Ww a2 0).bind fun x=>(el Vt a3 3).bind fun s=>(el Vt a3 4).bind fun l=>if Wa 64 ((b).length+1) then some (h,a6,a7,a8,e.1,e.2,c,d,a,(b++([.agg [.v (.string x),I y.1,I y.2.1,I s,I l,I 0,B false]]:jVj))) else none else if a1.data.toList=[100,101,108,105,118,101,114] then(el Ww a2 0).bind fun x=>(QQ n 111 h a6 a7 a8 e.1 e.2 c d a b).bind fun s=>(QE n s x).bind fun l=>if 0<=l/\l<((b).length:Int) then((nth (b) (Int.toNat l)).bind Z6).bind fun m=>(el Vt a3 1).bind fun g=>if Qh (m.2.2.2.2.2.1+g) then if Qh (1000000*g) then if Qh (e.2 - (1000000*g)) then some (h,a6,a7,a8,e.1,(e.2 - (1000000*g)),c,d,a,(List.set b (Int.toNat l) (.agg [.v (.string m.1),I m.2.1,I m.2.2.1,I m.2.2.2.1,I m.2.2.2.2.1,I (m.2.2.2.2.2.1+g),B m.2.2.2.2.2.2]:D))) else none else none else none else none else if a1.data.toList=[98,105,108,108] then(el Ww a2 0).bind fun s=>(QQ n 111 h a6 a7 a8 e.1 e.2 c d a b).bind fun l=>(QE n l s).bind fun p=>if 0<=p/\p<((b).length:Int) then((nth (b) (Int.toNat p)).bind Z6).bind fun g=>((nth ((List.set b (Int.toNat p) (.agg [.v (.string g.1),I g.2.1,I g.2.2.1,I g.2.2.2.1,I g.2.2.2.2.1,I g.2.2.2.2.2.1,B true]:D)):jVj) (Int.toNat p)).bind Z6).bind fun o=>(Wv n o.1 o.2.1 o.2.2.1 o.2.2.2.1 o.2.2.2.2.1 o.2.2.2.2.2.1 o.2.2.2.2.2.2).bind fun z=>if Qh (c+z) then some (h,a6,a7,a8,e.1,e.2,(c+z),d,a,(List.set b (Int.toNat p) (.agg [.v (.string g.1),I g.2.1,I g.2.2.1,I g.2.2.2.1,I g.2.2.2.2.1,I g.2.2.2.2.2.1,B true]:D))) else none else none else if a1.data.toList=[117,110,100,111] then some (h,a6,a7,a8,e.1,e.2,c,d,a,b) else none
theorem Uh {n a0 a1 a2 a3 a4 a5 a6 a7 a8 G z b c i e r}(h:Qz n a0 a1 a2 a3 a4 a5 a6 a7 a8 G z b c i e=some r):ComputesO cx 152 [.ptr 0 0 0 0 0,.d (.agg [I a0,Qr5 a1,.lst false 1 a2,.lst false 1 a3,Qr5 a4])] (some (QJ a5 a6 a7 a8 G z b c i e)) (.d (.tup [])) (QJ' r) []:=by
 unfold Qz at h;have⟨t1,h1,h⟩:=bo h;have⟨t2,h2,h⟩:=bo h;have q:=allE Qi h1 (Qa (Jm h2) (allE Qi h1 QL));let o(l:jOj):=.el (Q3 t1)::.obj (some 0) (.d (.agg [I t2.1,I t2.2])) (QJ a5 a6 a7 a8 G z b c i e) qC::.el (Q3 t1)::b1::(no 28 l);obtain⟨H,h⟩|⟨H,h⟩:=io h
 ·have⟨t4,F,h⟩:=bo h;have⟨A,h⟩:=gd h;cases h;exact rfO 0 (o [.el Qse,.ix (-9),b1,.el (Zy t4),b1]) (Qa (ro 9 A) (allE Qr F (Qa (mk1 ⟨#[115,101,99,116,111,114]⟩ Qse H) q)))
 obtain⟨F,h⟩|⟨F,h⟩:=io h
 ·have⟨t5,A,h⟩:=bo h;have⟨t6,C,h⟩:=bo h;have⟨t7,y,h⟩:=bo h;have⟨s,h⟩:=gd h;cases h;exact rfO 0 (o [.el Qsg,.ix (-9),b1,.el (Zy t5),.el (Zy t6),.el (Q3 t7),b1]) (Qa (ro 127 s) (allE Qi y (allE Qr C (allE Qr A (Qa (mk1 ⟨#[109,105,114,114,111,114]⟩ Qsg F) q)))))
 obtain⟨A,h⟩|⟨A,h⟩:=io h
 ·have⟨t6,C,h⟩:=bo h;have⟨t7,y,h⟩:=bo h;have⟨t8,s,h⟩:=bo h;have⟨t,h⟩:=gd h;have⟨t10,f,h⟩:=bo h;have⟨t11,a,h⟩:=bo h;cases h;exact rfO 0 (o [.el Qsk,.ix (-9),b1,.el (Zy t6),.ix (-9),b1,.obj (some 0) (.d (.lst false 1 t7)) (QJ t1 a6 a7 a8 t2.1 t2.2 b c i e) qC,.ret (I t8),b1,.ix (-9),b1,.el (Q3 t10),.el (QB t11)]) (Qa (QX Qq a) (allE Qi f (Qa t (Qa (QK s) (Qa (Zn y) (allE Qr C (Qa (mk1 ⟨#[115,111,105,108]⟩ Qsk A) q)))))))
 obtain⟨C,h⟩|⟨C,h⟩:=io h
 ·have⟨t7,y,h⟩:=bo h;have⟨t8,s,h⟩:=bo h;have⟨t9,t,h⟩:=bo h;have⟨f,h⟩:=gd h;have⟨t11,a,h⟩:=bo h;cases h;exact rfO 0 (o [.el Qsp,.ix (-9),b1,.el (Zy t7),.ix (-9),b1,.obj (some 0) (.d (.lst false 1 t8)) (QJ t1 a6 a7 a8 t2.1 t2.2 b c i e) qC,.ret (I t9),b1,.ix (-9),b1,.el (QB t11)]) (Qa (QX Qq a) (Qa f (Qa (QK t) (Qa (Zn s) (allE Qr y (Qa (mk1 ⟨#[99,108,101,97,110]⟩ Qsp C) q))))))
 obtain⟨y,h⟩|⟨y,h⟩:=io h
 ·have⟨t8,s,h⟩:=bo h;have⟨t9,t,h⟩:=bo h;have⟨t10,f,h⟩:=bo h;have⟨a,h⟩:=gd h;have⟨t12,g,h⟩:=bo h;cases h;exact rfO 0 (o [.el Qso,.ix (-9),b1,.el (Zy t8),.ix (-9),b1,.obj (some 0) (.d (.lst false 1 t9)) (QJ t1 a6 a7 a8 t2.1 t2.2 b c i e) qC,.ret (I t10),b1,.ix (-9),b1,.el (QB t12)]) (Qa (QX Qq g) (Qa a (Qa (QK f) (Qa (Zn t) (allE Qr s (Qa (mk1 ⟨#[100,101,102,101,99,116]⟩ Qso y) q))))))
 obtain⟨s,h⟩|⟨s,h⟩:=io h
 ·have⟨t9,t,h⟩:=bo h;have⟨t10,f,h⟩:=bo h;have⟨t11,a,h⟩:=bo h;have⟨g,h⟩:=gd h;have⟨t13,j,h⟩:=bo h;cases h;exact rfO 0 (o [.el Qsn,.ix (-9),b1,.el (Zy t9),.ix (-9),b1,.obj (some 0) (.d (.lst false 1 t10)) (QJ t1 a6 a7 a8 t2.1 t2.2 b c i e) qC,.ret (I t11),b1,.ix (-9),b1,.el (QB t13)]) (Qa (QX Qq j) (Qa g (Qa (QK a) (Qa (Zn f) (allE Qr t (Qa (mk1 ⟨#[114,101,112,97,105,114]⟩ Qsn s) q))))))
 obtain⟨t,h⟩|⟨t,h⟩:=io h
 ·have⟨t10,f,h⟩:=bo h;have⟨t11,a,h⟩:=bo h;have⟨t12,g,h⟩:=bo h;have⟨j,h⟩:=gd h;have⟨t14,m,h⟩:=bo h;cases h;exact rfO 0 (o [.el Qsm,.ix (-9),b1,.el (Zy t10),.ix (-9),b1,.obj (some 0) (.d (.lst false 1 t11)) (QJ t1 a6 a7 a8 t2.1 t2.2 b c i e) qC,.ret (I t12),b1,.ix (-9),b1,.el (QB t14)]) (Qa (QX Qq m) (Qa j (Qa (QK g) (Qa (Zn a) (allE Qr f (Qa (mk1 ⟨#[97,105,109]⟩ Qsm t) q))))))
 obtain⟨f,h⟩|⟨f,h⟩:=io h
 ·have⟨t11,a,h⟩:=bo h;have⟨t12,g,h⟩:=bo h;have⟨t13,j,h⟩:=bo h;have⟨m,h⟩:=gd h;have⟨t15,u,h⟩:=bo h;cases h;exact rfO 0 (o [.el Qsl,.ix (-9),b1,.el (Zy t11),.ix (-9),b1,.obj (some 0) (.d (.lst false 1 t12)) (QJ t1 a6 a7 a8 t2.1 t2.2 b c i e) qC,.ret (I t13),b1,.ix (-9),b1,.el (QB t15)]) (Qa (QX Qq u) (Qa m (Qa (QK j) (Qa (Zn g) (allE Qr a (Qa (mk1 ⟨#[112,97,114,107]⟩ Qsl f) q))))))
 obtain⟨a,h⟩|⟨a,h⟩:=io h
 ·have⟨t12,g,h⟩:=bo h;cases h;exact rfO 0 (o [.el Qsh,.ix (-9),b1,.obj (some 0) (.d (.tup [])) (QJ t1 a6 a7 a8 t2.1 t2.2 b c t12 e) [false,false,false,false,false,false,false,true,true,true]]) (Qa (G3 g) (Qa (mk1 ⟨#[100,105,109]⟩ Qsh a) q))
 obtain⟨g,h⟩|⟨g,h⟩:=io h
 ·have⟨t13,j,h⟩:=bo h;cases h;exact rfO 0 (o [.el Qr8,.ix (-9),b1,.el (Q3 t13)]) (allE Qi j (Qa (mk1 ⟨#[115,117,110]⟩ Qr8 g) q))
 obtain⟨j,h⟩|⟨j,h⟩:=io h
 ·cases h;exact rfO 0 (o [.el Qsc,.ix (-9),b1]) (Qa (mk1 ⟨#[102,105,108,108]⟩ Qsc j) q)
 obtain⟨m,h⟩|⟨m,h⟩:=io h
 ·cases h;exact rfO 0 (o [.el Qsb,.ix (-9),b1]) (Qa (mk1 ⟨#[100,114,97,105,110]⟩ Qsb m) q)
 obtain⟨u,h⟩|⟨u,h⟩:=io h
 ·have⟨t16,v,h⟩:=bo h;cases h;exact rfO 0 (o [.el Qsa,.ix (-9),b1,.obj (some 0) (.d (.tup [])) (QJ t1 a6 a7 true t2.1 t2.2 b c t16 e) [false,false,false,false,false,false,false,true,true,true]]) (Qa (Gn v) (Qa (mk1 ⟨#[116,114,105,112]⟩ Qsa u) q))
 obtain⟨v,h⟩|⟨v,h⟩:=io h
 ·cases h;exact rfO 0 (o [.el Qr9,.ix (-9),b1]) (Qa (mk1 ⟨#[114,101,115,101,116]⟩ Qr9 v) q)
 obtain⟨E,h⟩|⟨E,h⟩:=io h
 ·have⟨t18,x,h⟩:=bo h;have⟨t19,p,h⟩:=bo h;have⟨t20,k,h⟩:=bo h;have⟨t21,h21,h⟩:=bo h;have⟨h22,h⟩:=gd h;cases h;exact rfO 0 (o [.el Qsf,.ix (-9),b1,.ret (.tup [.agg [I t18.1,I t18.2.1],I t18.2.2]),.el (Zy t19),.el (Q3 t20),.el (Q3 t21),b1]) (Qa (ro 174 h22) (allE Qi h21 (allE Qi k (allE Qr p (Qa (GT x) (Qa (mk1 ⟨#[111,102,102,101,114]⟩ Qsf E) q))))))
 obtain⟨x,h⟩|⟨x,h⟩:=io h
 ·have⟨t19,p,h⟩:=bo h;have⟨t20,k,h⟩:=bo h;have⟨t21,h21,h⟩:=bo h;have⟨h22,h⟩:=gd h;have⟨t23,h23,h⟩:=bo h;have⟨t24,h24,h⟩:=bo h;have⟨h25,h⟩:=gd h;have⟨h26,h⟩:=gd h;have⟨h27,h⟩:=gd h;cases h;exact rfO 0 (o [.el Qsi,.ix (-9),b1,.el (Zy t19),.ix (-9),b1,.obj (some 0) (.d (.lst false 1 t20)) (QJ t1 a6 a7 a8 t2.1 t2.2 b c i e) qC,.ret (I t21),b1,.el (Q7 t23),.el (Q3 t24),.el (Q7 t23),.el (Q3 t24)]) (Qa h27 (Qa h26 (allE Qi h24 (Qa (QX Q0 h23) (Qa h25 (allE Qi h24 (Qa (QX Q0 h23) (Qa h22 (Qa (QK h21) (Qa (Zn k) (allE Qr p (Qa (mk1 ⟨#[100,101,108,105,118,101,114]⟩ Qsi x) q))))))))))))
 obtain⟨p,h⟩|⟨p,h⟩:=io h
 ·have⟨t20,k,h⟩:=bo h;have⟨t21,h21,h⟩:=bo h;have⟨t22,h22,h⟩:=bo h;have⟨h23,h⟩:=gd h;have⟨t24,h24,h⟩:=bo h;have⟨t25,h25,h⟩:=bo h;have⟨t26,h26,h⟩:=bo h;have⟨h27,h⟩:=gd h;cases h;exact rfO 0 (o [.el Qsj,.ix (-9),b1,.el (Zy t20),b1,.obj (some 0) (.d (.lst false 1 t21)) (QJ t1 a6 a7 a8 t2.1 t2.2 b c i e) qC,.ret (I t22),b1,.el (Q7 t24),.el (Q7 t25),.ret (I t26)]) (Qa h27 (Qa (YN h26) (Qa (QX Q0 h25) (Qa (QX Q0 h24) (Qa h23 (Qa (QK h22) (Qa (Zn h21) (allE Qr k (Qa (mk1 ⟨#[98,105,108,108]⟩ Qsj p) q)))))))))
 obtain⟨k,h⟩|⟨k,h⟩:=io h
 ·cases h;exact rfO 0 (o [.el Qsd,.ix (-9),b1]) (Qa (mk1 ⟨#[117,110,100,111]⟩ Qsd k) q)
 cases h
def ZH (n:Nat)(a0:Int)(a1:jSj)(a2 a3:jVj)(a4:jSj)(a5 a6:jVj)(a7 a8:Int)(k e:Bool)(f g h:Int)(i c j:jVj)(b:(Int×jVj)):Option (Int×jVj⊕jVj) := if b.1<((c).length:Int) then if 0<=b.1/\b.1<((b.2).length:Int) then((nth (b.2) (Int.toNat b.1)).bind QM).bind fun a=>(WC n a.1 a.2.1 a.2.2.1 a.2.2.2.1 a.2.2.2.2.1 a.2.2.2.2.2 a0 a1 a2 a3 a4).bind fun d=>if d=true then if Qh (b.1+1) then some (.inl ((b.1+1),(List.set b.2 (Int.toNat b.1) (.agg [.v (.string a.1),.v (.string a.2.1),I a.2.2.1,I a.2.2.2.1,B a.2.2.2.2.1,B false]:D)))) else none else if Qh (b.1+1) then some (.inl ((b.1+1),b.2)) else none else none else some (.inr b.2)
noncomputable def Jh (a0:Int)(a1:jSj)(a2 a3:jVj)(a4:jSj)(a5 a6:jVj)(a7 a8:Int)(k a:Bool)(b c f:Int)(g i h:jVj):Lp (Int×jVj) (jVj):=⟨fun j=>[(0,.ptr 0 0 0 0 2),(1,.d (.fn (.func 122) [] [.ref (.agg [I a0,Qr5 a1,.lst false 1 a2,.lst false 1 a3,Qr5 a4]) 0])),(9,.own 11 0),(10,.d (I ((i).length:Int))),(11,.d (I j.1))],fun j=>[(0,.box (.agg [.own 1 0,.own 2 0,.d (I a7),.d (I a8),.d (B k),.d (B a),.d (I b),.d (I c),.d (I f),.own 10 0,.own 11 0,.own 12 0])),(1,.row 0 5 a5),(2,.row 0 5 a6),(10,.row 0 1 g),(11,.row 0 6 j.2),(12,.row 0 7 h)],fun _=>(.exit 0),fun _=>[],fun e=>[(0,.box (.agg [.own 1 0,.own 2 0,.d (I a7),.d (I a8),.d (B k),.d (B a),.d (I b),.d (I c),.d (I f),.own 10 0,.own 11 0,.own 12 0])),(1,.row 0 5 a5),(2,.row 0 5 a6),(10,.row 0 1 g),(11,.row 0 6 e),(12,.row 0 7 h)]⟩
theorem Jd {n a0 a1 a2 a3 a4 a5 a6 a7 a8 k c d e f g i j}(m)(r)(h:ZH n a0 a1 a2 a3 a4 a5 a6 a7 a8 k c d e f g i j m=some r):Rl (ZJ cx.P 121 0) 27 13 false (Jh a0 a1 a2 a3 a4 a5 a6 a7 a8 k c d e f g i j) m r:=by
 unfold ZH at h;obtain⟨a,h⟩|⟨a,h⟩:=io h
 ·have⟨ha2,h⟩:=gd h;have⟨ta3,ha3,h⟩:=bo h;have⟨ta4,ha4,h⟩:=bo h;have q:=Qa (U4 ha4) (Qa (QX Qq ha3) (Qa ha2 (Qa (jDj a) QL)));let o(l:jOj):=b1::b1::.el (QB ta3)::.ret (B ta4)::l;obtain⟨b,h⟩|⟨b,h⟩:=io h
  ·have⟨ha6,h⟩:=gd h;cases h;exact rn 19 (o [b1,b1,.el (QB ta3)]) [] [0,1,9,10,11] [0,1,2,10,11,12] (Qa ha6 (Qa (QX Qq ha3) (Qa ha2 (Qa b q))))
  have⟨ha6,h⟩:=gd h;cases h;exact rn 19 (o [b0]) [] [0,1,9,10,11] [0,1,2,10,11,12] (Qa ha6 (Qa (QA b) q))
 cases h;exact rx 19 [b0] [] [] [0,1,2,10,11,12] (Qa (jEj a) QL)
def WF (n:Nat)(a0:Int)(a1:jSj)(a2 a3:jVj)(a4:jSj)(a5 a6:jVj)(a7 a8:Int)(h b:Bool)(c d e:Int)(f a g:jVj):Option (jVj) := (Q2 (ZH n a0 a1 a2 a3 a4 a5 a6 a7 a8 h b c d e f a g) n (0,a)).bind fun i=>some i
theorem Gm {n a0 a1 a2 a3 a4 a5 a6 a7 a8 j a b c e f i g r}(h:WF n a0 a1 a2 a3 a4 a5 a6 a7 a8 j a b c e f i g=some r):ComputesO cx 121 [.ptr 0 0 0 0 2,.d (.fn (.func 122) [] [.ref (.agg [I a0,Qr5 a1,.lst false 1 a2,.lst false 1 a3,Qr5 a4]) 0])] (some (Qb a5 a6 a7 a8 j a b c e f i g)) (.d (.tup [])) (Qb a5 a6 a7 a8 j a b c e f r g) [true,true,false,false,false,false,false,false,false,true,true,true]:=by unfold WF at h;have⟨t1,h1,h⟩:=bo h;obtain rfl:=oi h;exact rfO 0 [.lp [] [0,1,9,10,11] [0,1,2,10,11,12] (.exit 0) [] [(0,.box (.agg [.own 1 0,.own 2 0,.d (I a7),.d (I a8),.d (B j),.d (B a),.d (I b),.d (I c),.d (I e),.own 10 0,.own 11 0,.own 12 0])),(1,.row 0 5 a5),(2,.row 0 5 a6),(10,.row 0 1 f),(11,.row 0 6 t1),(12,.row 0 7 g)] 50] (Qa (QH Jd h1) QL)
def ZG (n:Nat)(a0 a1:jVj)(a2 a3:Int)(a4 a5:Bool)(a6 a7 a8:Int)(f c e:jVj)(b:(Int×jVj)):Option (Int×jVj⊕jVj) := if b.1<((c).length:Int) then if 0<=b.1/\b.1<((b.2).length:Int) then((nth (b.2) (Int.toNat b.1)).bind QM).bind fun a=>(WB n a.1 a.2.1 a.2.2.1 a.2.2.2.1 a.2.2.2.2.1 a.2.2.2.2.2).bind fun d=>if d=true then if Qh (b.1+1) then some (.inl ((b.1+1),(List.set b.2 (Int.toNat b.1) (.agg [.v (.string a.1),.v (.string a.2.1),I a.2.2.1,I a.2.2.2.1,B a.2.2.2.2.1,B false]:D)))) else none else if Qh (b.1+1) then some (.inl ((b.1+1),b.2)) else none else none else some (.inr b.2)
noncomputable def Jg (a0 a1:jVj)(a2 a3:Int)(a4 a5:Bool)(a6 a7 a8:Int)(f b a:jVj):Lp (Int×jVj) (jVj):=⟨fun c=>[(0,.ptr 0 0 0 0 2),(1,.d (.fn (.func 132) [] [])),(9,.own 11 0),(10,.d (I ((b).length:Int))),(11,.d (I c.1))],fun c=>[(0,.box (.agg [.own 1 0,.own 2 0,.d (I a2),.d (I a3),.d (B a4),.d (B a5),.d (I a6),.d (I a7),.d (I a8),.own 10 0,.own 11 0,.own 12 0])),(1,.row 0 5 a0),(2,.row 0 5 a1),(10,.row 0 1 f),(11,.row 0 6 c.2),(12,.row 0 7 a)],fun _=>(.exit 0),fun _=>[],fun e=>[(0,.box (.agg [.own 1 0,.own 2 0,.d (I a2),.d (I a3),.d (B a4),.d (B a5),.d (I a6),.d (I a7),.d (I a8),.own 10 0,.own 11 0,.own 12 0])),(1,.row 0 5 a0),(2,.row 0 5 a1),(10,.row 0 1 f),(11,.row 0 6 e),(12,.row 0 7 a)]⟩
theorem Jc {n a0 a1 a2 a3 a4 a5 a6 a7 a8 e c d}(f)(r)(h:ZG n a0 a1 a2 a3 a4 a5 a6 a7 a8 e c d f=some r):Rl (ZJ cx.P 121 0) 27 13 false (Jg a0 a1 a2 a3 a4 a5 a6 a7 a8 e c d) f r:=by
 unfold ZG at h;obtain⟨a,h⟩|⟨a,h⟩:=io h
 ·have⟨ha2,h⟩:=gd h;have⟨ta3,ha3,h⟩:=bo h;have⟨ta4,ha4,h⟩:=bo h;have q:=Qa (U3 ha4) (Qa (QX Qq ha3) (Qa ha2 (Qa (jDj a) QL)));let o(l:jOj):=b1::b1::.el (QB ta3)::.ret (B ta4)::l;obtain⟨b,h⟩|⟨b,h⟩:=io h
  ·have⟨ha6,h⟩:=gd h;cases h;exact rn 19 (o [b1,b1,.el (QB ta3)]) [] [0,1,9,10,11] [0,1,2,10,11,12] (Qa ha6 (Qa (QX Qq ha3) (Qa ha2 (Qa b q))))
  have⟨ha6,h⟩:=gd h;cases h;exact rn 19 (o [b0]) [] [0,1,9,10,11] [0,1,2,10,11,12] (Qa ha6 (Qa (QA b) q))
 cases h;exact rx 19 [b0] [] [] [0,1,2,10,11,12] (Qa (jEj a) QL)
def WE (n:Nat)(a0 a1:jVj)(a2 a3:Int)(a4 a5:Bool)(a6 a7 a8:Int)(c a b:jVj):Option (jVj) := (Q2 (ZG n a0 a1 a2 a3 a4 a5 a6 a7 a8 c a b) n (0,a)).bind fun d=>some d
theorem Gl {n a0 a1 a2 a3 a4 a5 a6 a7 a8 c b a r}(h:WE n a0 a1 a2 a3 a4 a5 a6 a7 a8 c b a=some r):ComputesO cx 121 [.ptr 0 0 0 0 2,.d (.fn (.func 132) [] [])] (some (Qb a0 a1 a2 a3 a4 a5 a6 a7 a8 c b a)) (.d (.tup [])) (Qb a0 a1 a2 a3 a4 a5 a6 a7 a8 c r a) [true,true,false,false,false,false,false,false,false,true,true,true]:=by unfold WE at h;have⟨t1,h1,h⟩:=bo h;obtain rfl:=oi h;exact rfO 0 [.lp [] [0,1,9,10,11] [0,1,2,10,11,12] (.exit 0) [] [(0,.box (.agg [.own 1 0,.own 2 0,.d (I a2),.d (I a3),.d (B a4),.d (B a5),.d (I a6),.d (I a7),.d (I a8),.own 10 0,.own 11 0,.own 12 0])),(1,.row 0 5 a0),(2,.row 0 5 a1),(10,.row 0 1 c),(11,.row 0 6 t1),(12,.row 0 7 a)] 50] (Qa (QH Jc h1) QL)
def Qy (n:Nat)(a0:Int)(a1:jSj)(a2 a3:jVj)(a4:jSj)(a5 a6:jVj)(a7 a8:Int)(k f:Bool)(F G c:Int)(d a b:jVj):Option (jRj) := (el Vt a3 0).bind fun i=>(Q8 n i a5 a6 a7 a8 k f F G c d a b).bind fun e=>if a1.data.toList=[115,101,99,116,111,114] then(el Ww a2 0).bind fun K=>if Wa 16 ((d).length+1) then some (i,a8,k,f,e.1,e.2,c,(d++([.v (.string K)]:jVj)),a,b) else none else if a1.data.toList=[109,105,114,114,111,114] then(el Ww a2 0).bind fun L=>(el Ww a2 1).bind fun J=>(el Vt a3 1).bind fun E=>if Wa 56 ((a).length+1) then some (i,a8,k,f,e.1,e.2,c,d,(a++([.agg [.v (.string L),.v (.string J),I E,I 0,B false,B false]]:jVj)),b) else none else if a1.data.toList=[115,111,105,108] then(el Ww a2 0).bind fun J=>(Qw n 109 a5 a6 i a8 k f e.1 e.2 c d a b).bind fun E=>(QE n E J).bind fun x=>if 0<=x/\x<((a).length:Int) then(el Vt a3 1).bind fun m=>((nth (a) (Int.toNat x)).bind QM).bind fun g=>some (i,a8,k,f,e.1,e.2,c,d,(List.set a (Int.toNat x) (.agg [.v (.string g.1),.v (.string g.2.1),I g.2.2.1,I m,B g.2.2.2.2.1,B g.2.2.2.2.2]:D)),b) else none else if a1.data.toList=[99,108,101,97,110] then(el Ww a2 0).bind fun E=>(Qw n 109 a5 a6 i a8 k f e.1 e.2 c d a b).bind fun x=>(QE n x E).bind fun y=>if 0<=y/\y<((a).length:Int) then((nth (a) (Int.toNat y)).bind QM).bind fun g=>some (i,a8,k,f,e.1,e.2,c,d,(List.set a (Int.toNat y) (.agg [.v (.string g.1),.v (.string g.2.1),I g.2.2.1,I 0,B g.2.2.2.2.1,B g.2.2.2.2.2]:D)),b) else none else if a1.data.toList=[100,101,102,101,99,116] then(el Ww a2 0).bind fun x=>(Qw n 109 a5 a6 i a8 k f e.1 e.2 c d a b).bind fun y=>(QE n y x).bind fun m=>if 0<=m/\m<((a).length:Int) then((nth (a) (Int.toNat m)).bind QM).bind fun j=>some (i,a8,k,f,e.1,e.2,c,d,(List.set a (Int.toNat m) (.agg [.v (.string j.1),.v (.string j.2.1),I j.2.2.1,I j.2.2.2.1,B true,B j.2.2.2.2.2]:D)),b) else none else if a1.data.toList=[114,101,112,97,105,114] then(el Ww a2 0).bind fun y=>(Qw n 109 a5 a6 i a8 k f e.1 e.2 c d a b).bind fun m=>(QE n m y).bind fun g=>if 0<=g/\g<((a).length:Int) then((nth (a) (Int.toNat g)).bind QM).bind fun l=>some (i,a8,k,f,e.1,e.2,c,d,(List.set a (Int.toNat g) (.agg [.v (.string l.1),.v (.string l.2.1),I l.2.2.1,I l.2.2.2.1,B false,B l.2.2.2.2.2]:D)),b) else none else if a1.data.toList=[97,105,109] then(el Ww a2 0).bind fun m=>(Qw n 109 a5 a6 i a8 k f e.1 e.2 c d a b).bind fun g=>(QE n g m).bind fun j=>if 0<=j/\j<((a).length:Int) then((nth (a) (Int.toNat j)).bind QM).bind fun s=>some (i,a8,k,f,e.1,e.2,c,d,(List.set a (Int.toNat j) (.agg [.v (.string s.1),.v (.string s.2.1),I s.2.2.1,I s.2.2.2.1,B s.2.2.2.2.1,B true]:D)),b) else none else if a1.data.toList=[112,97,114,107] then(el Ww a2 0).bind fun g=>(Qw n 109 a5 a6 i a8 k f e.1 e.2 c d a b).bind fun j=>(QE n j g).bind fun l=>if 0<=l/\l<((a).length:Int) then((nth (a) (Int.toNat l)).bind QM).bind fun t=>some (i,a8,k,f,e.1,e.2,c,d,(List.set a (Int.toNat l) (.agg [.v (.string t.1),.v (.string t.2.1),I t.2.2.1,I t.2.2.2.1,B t.2.2.2.2.1,B false]:D)),b) else none else if a1.data.toList=[100,105,109] then(WF n a0 a1 a2 a3 a4 a5 a6 i a8 k f e.1 e.2 c d a b).bind fun j=>some (i,a8,k,f,e.1,e.2,c,d,j,b) else if a1.data.toList=[115,117,110] then(el Vt a3 1).bind fun l=>some (i,l,k,f,e.1,e.2,c,d,a,b) else if a1.data.toList=[102,105,108,108] then some (i,a8,true,f,e.1,e.2,c,d,a,b) else if a1.data.toList=[100,114,97,105,110] then some (i,a8,false,f,e.1,e.2,c,d,a,b) else if a1.data.toList=[116,114,105,112] then(WE n a5 a6 i a8 k true e.1 e.2 c d a b).bind fun H=>some (i,a8,k,true,e.1,e.2,c,d,H,b) else if a1.data.toList=[114,101,115,101,116] then some (i,a8,k,false,e.1,e.2,c,d,a,b) else if a1.data.toList=[111,102,102,101,114] then(WL n a0 a1 a2 a3 a4).bind fun A=>(el Ww a2 0).bind fun z=>(el Vt a3 3).bind fun u=>(el Vt a3 4).bind fun o=>if Wa 64 ((b).length+1) then some (i,a8,k,f,e.1,e.2,c,d,a,(b++([.agg [.v (.string z),I A.1,I A.2.1,I u,I o,I 0,B false]]:jVj))) else none else if a1.data.toList=[100,101,108,105,118,101,114] then(el Ww a2 0).bind fun z=>(Qw n 111 a5 a6 i a8 k f e.1 e.2 c d a b).bind fun u=>(QE n u z).bind fun o=>if 0<=o/\o<((b).length:Int) then((nth (b) (Int.toNat o)).bind Z6).bind fun p=>(el Vt a3 1).bind fun h=>if Qh (p.2.2.2.2.2.1+h) then if Qh (1000000*h) then if Qh (e.2 - (1000000*h)) then some (i,a8,k,f,e.1,(e.2 - (1000000*h)),c,d,a,(List.set b (Int.toNat o) (.agg [.v (.string p.1),I p.2.1,I p.2.2.1,I p.2.2.2.1,I p.2.2.2.2.1,I (p.2.2.2.2.2.1+h),B p.2.2.2.2.2.2]:D))) else none else none else none else none else if a1.data.toList=[98,105,108,108] then(el Ww a2 0).bind fun u=>(Qw n 111 a5 a6 i a8 k f e.1 e.2 c d a b).bind fun o=>(QE n o u).bind fun r=>if 0<=r/\r<((b).length:Int) then((nth (b) (Int.toNat r)).bind Z6).bind fun h=>((nth ((List.set b (Int.toNat r) (.agg [.v (.string h.1),I h.2.1,I h.2.2.1,I h.2.2.2.1,I h.2.2.2.2.1,I h.2.2.2.2.2.1,B true]:D)):jVj) (Int.toNat r)).bind Z6).bind fun q=>(Wv n q.1 q.2.1 q.2.2.1 q.2.2.2.1 q.2.2.2.2.1 q.2.2.2.2.2.1 q.2.2.2.2.2.2).bind fun C=>if Qh (c+C) then some (i,a8,k,f,e.1,e.2,(c+C),d,a,(List.set b (Int.toNat r) (.agg [.v (.string h.1),I h.2.1,I h.2.2.1,I h.2.2.2.1,I h.2.2.2.2.1,I h.2.2.2.2.2.1,B true]:D))) else none else none else if a1.data.toList=[117,110,100,111] then some (i,a8,k,f,e.1,e.2,c,d,a,b) else none
theorem J1 {n a0 a1 a2 a3 a4 a5 a6 a7 a8 p f C E b c j e r}(h:Qy n a0 a1 a2 a3 a4 a5 a6 a7 a8 p f C E b c j e=some r):ComputesO cx 152 [.ptr 0 0 0 0 2,.d (.agg [I a0,Qr5 a1,.lst false 1 a2,.lst false 1 a3,Qr5 a4])] (some (Qb a5 a6 a7 a8 p f C E b c j e)) (.d (.tup [])) (Qb a5 a6 r.1 r.2.1 r.2.2.1 r.2.2.2.1 r.2.2.2.2.1 r.2.2.2.2.2.1 r.2.2.2.2.2.2.1 r.2.2.2.2.2.2.2.1 r.2.2.2.2.2.2.2.2.1 r.2.2.2.2.2.2.2.2.2) [true,true]:=by
 unfold Qy at h;have⟨t1,h1,h⟩:=bo h;have⟨t2,h2,h⟩:=bo h;have q:=allE Qi h1 (Qa (WA h2) (allE Qi h1 QL));let o(l:jOj):=.el (Q3 t1)::.obj (some 0) (.d (.agg [I t2.1,I t2.2])) (Qb a5 a6 a7 a8 p f C E b c j e) ZV::.el (Q3 t1)::b1::(no 28 l);obtain⟨K,h⟩|⟨K,h⟩:=io h
 ·have⟨t4,J,h⟩:=bo h;have⟨F,h⟩:=gd h;cases h;exact rfO 0 (o [.el Qse,.ix (-9),b1,.el (Zy t4),b1]) (Qa (ro 9 F) (allE Qr J (Qa (mk1 ⟨#[115,101,99,116,111,114]⟩ Qse K) q)))
 obtain⟨J,h⟩|⟨J,h⟩:=io h
 ·have⟨t5,F,h⟩:=bo h;have⟨t6,G,h⟩:=bo h;have⟨t7,A,h⟩:=bo h;have⟨u,h⟩:=gd h;cases h;exact rfO 0 (o [.el Qsg,.ix (-9),b1,.el (Zy t5),.el (Zy t6),.el (Q3 t7),b1]) (Qa (ro 127 u) (allE Qi A (allE Qr G (allE Qr F (Qa (mk1 ⟨#[109,105,114,114,111,114]⟩ Qsg J) q)))))
 obtain⟨F,h⟩|⟨F,h⟩:=io h
 ·have⟨t6,G,h⟩:=bo h;have⟨t7,A,h⟩:=bo h;have⟨t8,u,h⟩:=bo h;have⟨v,h⟩:=gd h;have⟨t10,g,h⟩:=bo h;have⟨t11,a,h⟩:=bo h;cases h;exact rfO 0 (o [.el Qsk,.ix (-9),b1,.el (Zy t6),.ix (-9),b1,.obj (some 0) (.d (.lst false 1 t7)) (Qb a5 a6 t1 a8 p f t2.1 t2.2 b c j e) ZV,.ret (I t8),b1,.ix (-9),b1,.el (Q3 t10),.el (QB t11)]) (Qa (QX Qq a) (allE Qi g (Qa v (Qa (QK u) (Qa (QC A) (allE Qr G (Qa (mk1 ⟨#[115,111,105,108]⟩ Qsk F) q)))))))
 obtain⟨G,h⟩|⟨G,h⟩:=io h
 ·have⟨t7,A,h⟩:=bo h;have⟨t8,u,h⟩:=bo h;have⟨t9,v,h⟩:=bo h;have⟨g,h⟩:=gd h;have⟨t11,a,h⟩:=bo h;cases h;exact rfO 0 (o [.el Qsp,.ix (-9),b1,.el (Zy t7),.ix (-9),b1,.obj (some 0) (.d (.lst false 1 t8)) (Qb a5 a6 t1 a8 p f t2.1 t2.2 b c j e) ZV,.ret (I t9),b1,.ix (-9),b1,.el (QB t11)]) (Qa (QX Qq a) (Qa g (Qa (QK v) (Qa (QC u) (allE Qr A (Qa (mk1 ⟨#[99,108,101,97,110]⟩ Qsp G) q))))))
 obtain⟨A,h⟩|⟨A,h⟩:=io h
 ·have⟨t8,u,h⟩:=bo h;have⟨t9,v,h⟩:=bo h;have⟨t10,g,h⟩:=bo h;have⟨a,h⟩:=gd h;have⟨t12,i,h⟩:=bo h;cases h;exact rfO 0 (o [.el Qso,.ix (-9),b1,.el (Zy t8),.ix (-9),b1,.obj (some 0) (.d (.lst false 1 t9)) (Qb a5 a6 t1 a8 p f t2.1 t2.2 b c j e) ZV,.ret (I t10),b1,.ix (-9),b1,.el (QB t12)]) (Qa (QX Qq i) (Qa a (Qa (QK g) (Qa (QC v) (allE Qr u (Qa (mk1 ⟨#[100,101,102,101,99,116]⟩ Qso A) q))))))
 obtain⟨u,h⟩|⟨u,h⟩:=io h
 ·have⟨t9,v,h⟩:=bo h;have⟨t10,g,h⟩:=bo h;have⟨t11,a,h⟩:=bo h;have⟨i,h⟩:=gd h;have⟨t13,k,h⟩:=bo h;cases h;exact rfO 0 (o [.el Qsn,.ix (-9),b1,.el (Zy t9),.ix (-9),b1,.obj (some 0) (.d (.lst false 1 t10)) (Qb a5 a6 t1 a8 p f t2.1 t2.2 b c j e) ZV,.ret (I t11),b1,.ix (-9),b1,.el (QB t13)]) (Qa (QX Qq k) (Qa i (Qa (QK a) (Qa (QC g) (allE Qr v (Qa (mk1 ⟨#[114,101,112,97,105,114]⟩ Qsn u) q))))))
 obtain⟨v,h⟩|⟨v,h⟩:=io h
 ·have⟨t10,g,h⟩:=bo h;have⟨t11,a,h⟩:=bo h;have⟨t12,i,h⟩:=bo h;have⟨k,h⟩:=gd h;have⟨t14,s,h⟩:=bo h;cases h;exact rfO 0 (o [.el Qsm,.ix (-9),b1,.el (Zy t10),.ix (-9),b1,.obj (some 0) (.d (.lst false 1 t11)) (Qb a5 a6 t1 a8 p f t2.1 t2.2 b c j e) ZV,.ret (I t12),b1,.ix (-9),b1,.el (QB t14)]) (Qa (QX Qq s) (Qa k (Qa (QK i) (Qa (QC a) (allE Qr g (Qa (mk1 ⟨#[97,105,109]⟩ Qsm v) q))))))
 obtain⟨g,h⟩|⟨g,h⟩:=io h
 ·have⟨t11,a,h⟩:=bo h;have⟨t12,i,h⟩:=bo h;have⟨t13,k,h⟩:=bo h;have⟨s,h⟩:=gd h;have⟨t15,x,h⟩:=bo h;cases h;exact rfO 0 (o [.el Qsl,.ix (-9),b1,.el (Zy t11),.ix (-9),b1,.obj (some 0) (.d (.lst false 1 t12)) (Qb a5 a6 t1 a8 p f t2.1 t2.2 b c j e) ZV,.ret (I t13),b1,.ix (-9),b1,.el (QB t15)]) (Qa (QX Qq x) (Qa s (Qa (QK k) (Qa (QC i) (allE Qr a (Qa (mk1 ⟨#[112,97,114,107]⟩ Qsl g) q))))))
 obtain⟨a,h⟩|⟨a,h⟩:=io h
 ·have⟨t12,i,h⟩:=bo h;cases h;exact rfO 0 (o [.el Qsh,.ix (-9),b1,.obj (some 0) (.d (.tup [])) (Qb a5 a6 t1 a8 p f t2.1 t2.2 b c t12 e) [true,true,false,false,false,false,false,false,false,true,true,true]]) (Qa (Gm i) (Qa (mk1 ⟨#[100,105,109]⟩ Qsh a) q))
 obtain⟨i,h⟩|⟨i,h⟩:=io h
 ·have⟨t13,k,h⟩:=bo h;cases h;exact rfO 0 (o [.el Qr8,.ix (-9),b1,.el (Q3 t13)]) (allE Qi k (Qa (mk1 ⟨#[115,117,110]⟩ Qr8 i) q))
 obtain⟨k,h⟩|⟨k,h⟩:=io h
 ·cases h;exact rfO 0 (o [.el Qsc,.ix (-9),b1]) (Qa (mk1 ⟨#[102,105,108,108]⟩ Qsc k) q)
 obtain⟨s,h⟩|⟨s,h⟩:=io h
 ·cases h;exact rfO 0 (o [.el Qsb,.ix (-9),b1]) (Qa (mk1 ⟨#[100,114,97,105,110]⟩ Qsb s) q)
 obtain⟨x,h⟩|⟨x,h⟩:=io h
 ·have⟨t16,y,h⟩:=bo h;cases h;exact rfO 0 (o [.el Qsa,.ix (-9),b1,.obj (some 0) (.d (.tup [])) (Qb a5 a6 t1 a8 p true t2.1 t2.2 b c t16 e) [true,true,false,false,false,false,false,false,false,true,true,true]]) (Qa (Gl y) (Qa (mk1 ⟨#[116,114,105,112]⟩ Qsa x) q))
 obtain⟨y,h⟩|⟨y,h⟩:=io h
 ·cases h;exact rfO 0 (o [.el Qr9,.ix (-9),b1]) (Qa (mk1 ⟨#[114,101,115,101,116]⟩ Qr9 y) q)
 obtain⟨H,h⟩|⟨H,h⟩:=io h
 ·have⟨t18,z,h⟩:=bo h;have⟨t19,t,h⟩:=bo h;have⟨t20,m,h⟩:=bo h;have⟨t21,h21,h⟩:=bo h;have⟨h22,h⟩:=gd h;cases h;exact rfO 0 (o [.el Qsf,.ix (-9),b1,.ret (.tup [.agg [I t18.1,I t18.2.1],I t18.2.2]),.el (Zy t19),.el (Q3 t20),.el (Q3 t21),b1]) (Qa (ro 174 h22) (allE Qi h21 (allE Qi m (allE Qr t (Qa (GT z) (Qa (mk1 ⟨#[111,102,102,101,114]⟩ Qsf H) q))))))
 obtain⟨z,h⟩|⟨z,h⟩:=io h
 ·have⟨t19,t,h⟩:=bo h;have⟨t20,m,h⟩:=bo h;have⟨t21,h21,h⟩:=bo h;have⟨h22,h⟩:=gd h;have⟨t23,h23,h⟩:=bo h;have⟨t24,h24,h⟩:=bo h;have⟨h25,h⟩:=gd h;have⟨h26,h⟩:=gd h;have⟨h27,h⟩:=gd h;cases h;exact rfO 0 (o [.el Qsi,.ix (-9),b1,.el (Zy t19),.ix (-9),b1,.obj (some 0) (.d (.lst false 1 t20)) (Qb a5 a6 t1 a8 p f t2.1 t2.2 b c j e) ZV,.ret (I t21),b1,.el (Q7 t23),.el (Q3 t24),.el (Q7 t23),.el (Q3 t24)]) (Qa h27 (Qa h26 (allE Qi h24 (Qa (QX Q0 h23) (Qa h25 (allE Qi h24 (Qa (QX Q0 h23) (Qa h22 (Qa (QK h21) (Qa (QC m) (allE Qr t (Qa (mk1 ⟨#[100,101,108,105,118,101,114]⟩ Qsi z) q))))))))))))
 obtain⟨t,h⟩|⟨t,h⟩:=io h
 ·have⟨t20,m,h⟩:=bo h;have⟨t21,h21,h⟩:=bo h;have⟨t22,h22,h⟩:=bo h;have⟨h23,h⟩:=gd h;have⟨t24,h24,h⟩:=bo h;have⟨t25,h25,h⟩:=bo h;have⟨t26,h26,h⟩:=bo h;have⟨h27,h⟩:=gd h;cases h;exact rfO 0 (o [.el Qsj,.ix (-9),b1,.el (Zy t20),b1,.obj (some 0) (.d (.lst false 1 t21)) (Qb a5 a6 t1 a8 p f t2.1 t2.2 b c j e) ZV,.ret (I t22),b1,.el (Q7 t24),.el (Q7 t25),.ret (I t26)]) (Qa h27 (Qa (YN h26) (Qa (QX Q0 h25) (Qa (QX Q0 h24) (Qa h23 (Qa (QK h22) (Qa (QC h21) (allE Qr m (Qa (mk1 ⟨#[98,105,108,108]⟩ Qsj t) q)))))))))
 obtain⟨m,h⟩|⟨m,h⟩:=io h
 ·cases h;exact rfO 0 (o [.el Qsd,.ix (-9),b1]) (Qa (mk1 ⟨#[117,110,100,111]⟩ Qsd m) q)
 cases h
def Zm (n:Nat)(a0:Int)(a1:jSj)(a2 a3:jVj)(a4:jSj)(a5 a6:jVj)(a7 a8:Int)(k d:Bool)(e f g:Int)(h i j:jVj)(b:(Unit)⊕Int×jRj):Option ((Unit⊕Int×jRj)⊕Unit⊕jRj):=match b with|(.inl b)=>(if 0<(((a6.take (Int.toNat (((a6).length:Int) - 1))):jVj).length:Int) then if(0:Int)<=0/\0<(((a6.take (Int.toNat (((a6).length:Int) - 1))):jVj).length:Int) then((nth ((a6.take (Int.toNat (((a6).length:Int) - 1))):jVj) 0).bind Ze).bind fun c=>(Qz n c.1 c.2.1 c.2.2.1 c.2.2.2.1 c.2.2.2.2 0 0 false false 0 0 0 ([]) ([]) ([])).bind fun a=>some (.inl (.inr (1,a.1,a.2.1,a.2.2.1,a.2.2.2.1,a.2.2.2.2.1,a.2.2.2.2.2.1,a.2.2.2.2.2.2.1,a.2.2.2.2.2.2.2.1,a.2.2.2.2.2.2.2.2.1,a.2.2.2.2.2.2.2.2.2))) else none else some (.inr (.inl ())))|.inr b=>(if b.1<(((a6.take (Int.toNat (((a6).length:Int) - 1))):jVj).length:Int) then if 0<=b.1/\b.1<(((a6.take (Int.toNat (((a6).length:Int) - 1))):jVj).length:Int) then((nth ((a6.take (Int.toNat (((a6).length:Int) - 1))):jVj) (Int.toNat b.1)).bind Ze).bind fun c=>(Qz n c.1 c.2.1 c.2.2.1 c.2.2.2.1 c.2.2.2.2 b.2.1 b.2.2.1 b.2.2.2.1 b.2.2.2.2.1 b.2.2.2.2.2.1 b.2.2.2.2.2.2.1 b.2.2.2.2.2.2.2.1 b.2.2.2.2.2.2.2.2.1 b.2.2.2.2.2.2.2.2.2.1 b.2.2.2.2.2.2.2.2.2.2).bind fun a=>if Qh (b.1+1) then some (.inl (.inr ((b.1+1),a.1,a.2.1,a.2.2.1,a.2.2.2.1,a.2.2.2.2.1,a.2.2.2.2.2.1,a.2.2.2.2.2.2.1,a.2.2.2.2.2.2.2.1,a.2.2.2.2.2.2.2.2.1,a.2.2.2.2.2.2.2.2.2))) else none else none else some (.inr (.inr (b.2.1,b.2.2.1,b.2.2.2.1,b.2.2.2.2.1,b.2.2.2.2.2.1,b.2.2.2.2.2.2.1,b.2.2.2.2.2.2.2.1,b.2.2.2.2.2.2.2.2.1,b.2.2.2.2.2.2.2.2.2.1,b.2.2.2.2.2.2.2.2.2.2))))
abbrev Qr7:D:=jZj
noncomputable def GZ (a0:Int)(a1:jSj)(a2 a3:jVj)(a4:jSj)(a5 a6:jVj)(a7 a8:Int)(j a:Bool)(b c f:Int)(g h i:jVj):Lp (Unit⊕Int×jRj) (Unit⊕jRj):=⟨fun
 | (.inl sa)=>[(2,.ptr 83 0 0 0 0),(3,.ptr 84 0 0 0 0),(6,.own 2 1),(7,.d (I (((a6.take (Int.toNat (((a6).length:Int) - 1))):jVj).length:Int))),(8,.d (I 0))]
 | (.inr sa)=>[(2,.ptr 83 0 0 0 0),(3,.ptr 84 0 0 0 0),(6,.own 2 1),(7,.d (I (((a6.take (Int.toNat (((a6).length:Int) - 1))):jVj).length:Int))),(8,.d (I sa.1))],fun
 | (.inl sa)=>[(0,.box (.agg [.own 1 1,.own 2 1,.d (I a7),.d (I a8),.d (B j),.d (B a),.d (I b),.d (I c),.d (I f),.own 10 0,.own 11 0,.own 12 0])),(1,.row 1 5 (a5++([.agg [I a0,Qr5 a1,.lst false 1 (a2.take ((List.replicate (Int.toNat ((a2).length:Int)) (Qr5 ⟨#[]⟩:D)):jVj).length++(List.replicate (Int.toNat ((a2).length:Int)) (Qr5 ⟨#[]⟩:D)).drop (a2).length),.lst false 1 (a3.take ((List.replicate (Int.toNat ((a3).length:Int)) (I 0:D)):jVj).length++(List.replicate (Int.toNat ((a3).length:Int)) (I 0:D)).drop (a3).length),Qr5 a4]]:jVj))),(2,.row 1 5 (a6.take (Int.toNat (((a6).length:Int) - 1)))),(10,.row 0 1 g),(11,.row 0 6 h),(12,.row 0 7 i),(13,.box (.agg [.d (I a0),.d (Qr5 a1),.own 22 0,.own 26 0,.d (Qr5 a4)])),(17,.box (.agg [.d (I a0),.d (Qr5 a1),.own 22 0,.own 26 0,.d (Qr5 a4)])),(18,.box (.agg [.d (I a0),.d (Qr5 a1),.own 22 0,.own 26 0,.d (Qr5 a4)])),(22,.frozen 0 1 (a2.take ((List.replicate (Int.toNat ((a2).length:Int)) (Qr5 ⟨#[]⟩:D)):jVj).length++(List.replicate (Int.toNat ((a2).length:Int)) (Qr5 ⟨#[]⟩:D)).drop (a2).length)),(26,.frozen 0 1 (a3.take ((List.replicate (Int.toNat ((a3).length:Int)) (I 0:D)):jVj).length++(List.replicate (Int.toNat ((a3).length:Int)) (I 0:D)).drop (a3).length)),(83,.box (.d Qr7)),(84,.box (.d Qr7))]
 | (.inr sa)=>[(0,.box (.agg [.own 1 1,.own 2 1,.d (I a7),.d (I a8),.d (B j),.d (B a),.d (I b),.d (I c),.d (I f),.own 10 0,.own 11 0,.own 12 0])),(1,.row 1 5 (a5++([.agg [I a0,Qr5 a1,.lst false 1 (a2.take ((List.replicate (Int.toNat ((a2).length:Int)) (Qr5 ⟨#[]⟩:D)):jVj).length++(List.replicate (Int.toNat ((a2).length:Int)) (Qr5 ⟨#[]⟩:D)).drop (a2).length),.lst false 1 (a3.take ((List.replicate (Int.toNat ((a3).length:Int)) (I 0:D)):jVj).length++(List.replicate (Int.toNat ((a3).length:Int)) (I 0:D)).drop (a3).length),Qr5 a4]]:jVj))),(2,.row 1 5 (a6.take (Int.toNat (((a6).length:Int) - 1)))),(10,.row 0 1 g),(11,.row 0 6 h),(12,.row 0 7 i),(13,.box (.agg [.d (I a0),.d (Qr5 a1),.own 22 0,.own 26 0,.d (Qr5 a4)])),(17,.box (.agg [.d (I a0),.d (Qr5 a1),.own 22 0,.own 26 0,.d (Qr5 a4)])),(18,.box (.agg [.d (I a0),.d (Qr5 a1),.own 22 0,.own 26 0,.d (Qr5 a4)])),(22,.frozen 0 1 (a2.take ((List.replicate (Int.toNat ((a2).length:Int)) (Qr5 ⟨#[]⟩:D)):jVj).length++(List.replicate (Int.toNat ((a2).length:Int)) (Qr5 ⟨#[]⟩:D)).drop (a2).length)),(26,.frozen 0 1 (a3.take ((List.replicate (Int.toNat ((a3).length:Int)) (I 0:D)):jVj).length++(List.replicate (Int.toNat ((a3).length:Int)) (I 0:D)).drop (a3).length)),(83,.box (.d Qr7)),(84,.box (.agg [.d (I sa.2.1),.d (I sa.2.2.1),.d (B sa.2.2.2.1),.d (B sa.2.2.2.2.1),.d (I sa.2.2.2.2.2.1),.d (I sa.2.2.2.2.2.2.1),.d (I sa.2.2.2.2.2.2.2.1),.own 102 0,.own 103 0,.own 104 0])),(102,.row 0 1 sa.2.2.2.2.2.2.2.2.1),(103,.row 0 6 sa.2.2.2.2.2.2.2.2.2.1),(104,.row 0 7 sa.2.2.2.2.2.2.2.2.2.2)],fun _=>(.exit 0),fun _=>[(2,.ptr 83 0 0 0 0),(3,.ptr 84 0 0 0 0)],fun
 | (.inl e)=>[(0,.box (.agg [.own 1 1,.own 2 1,.d (I a7),.d (I a8),.d (B j),.d (B a),.d (I b),.d (I c),.d (I f),.own 10 0,.own 11 0,.own 12 0])),(1,.row 1 5 (a5++([.agg [I a0,Qr5 a1,.lst false 1 (a2.take ((List.replicate (Int.toNat ((a2).length:Int)) (Qr5 ⟨#[]⟩:D)):jVj).length++(List.replicate (Int.toNat ((a2).length:Int)) (Qr5 ⟨#[]⟩:D)).drop (a2).length),.lst false 1 (a3.take ((List.replicate (Int.toNat ((a3).length:Int)) (I 0:D)):jVj).length++(List.replicate (Int.toNat ((a3).length:Int)) (I 0:D)).drop (a3).length),Qr5 a4]]:jVj))),(2,.row 1 5 (a6.take (Int.toNat (((a6).length:Int) - 1)))),(10,.row 0 1 g),(11,.row 0 6 h),(12,.row 0 7 i),(13,.box (.agg [.d (I a0),.d (Qr5 a1),.own 22 0,.own 26 0,.d (Qr5 a4)])),(17,.box (.agg [.d (I a0),.d (Qr5 a1),.own 22 0,.own 26 0,.d (Qr5 a4)])),(18,.box (.agg [.d (I a0),.d (Qr5 a1),.own 22 0,.own 26 0,.d (Qr5 a4)])),(22,.frozen 0 1 (a2.take ((List.replicate (Int.toNat ((a2).length:Int)) (Qr5 ⟨#[]⟩:D)):jVj).length++(List.replicate (Int.toNat ((a2).length:Int)) (Qr5 ⟨#[]⟩:D)).drop (a2).length)),(26,.frozen 0 1 (a3.take ((List.replicate (Int.toNat ((a3).length:Int)) (I 0:D)):jVj).length++(List.replicate (Int.toNat ((a3).length:Int)) (I 0:D)).drop (a3).length)),(83,.box (.d Qr7)),(84,.box (.d Qr7))]
 | (.inr e)=>[(0,.box (.agg [.own 1 1,.own 2 1,.d (I a7),.d (I a8),.d (B j),.d (B a),.d (I b),.d (I c),.d (I f),.own 10 0,.own 11 0,.own 12 0])),(1,.row 1 5 (a5++([.agg [I a0,Qr5 a1,.lst false 1 (a2.take ((List.replicate (Int.toNat ((a2).length:Int)) (Qr5 ⟨#[]⟩:D)):jVj).length++(List.replicate (Int.toNat ((a2).length:Int)) (Qr5 ⟨#[]⟩:D)).drop (a2).length),.lst false 1 (a3.take ((List.replicate (Int.toNat ((a3).length:Int)) (I 0:D)):jVj).length++(List.replicate (Int.toNat ((a3).length:Int)) (I 0:D)).drop (a3).length),Qr5 a4]]:jVj))),(2,.row 1 5 (a6.take (Int.toNat (((a6).length:Int) - 1)))),(10,.row 0 1 g),(11,.row 0 6 h),(12,.row 0 7 i),(13,.box (.agg [.d (I a0),.d (Qr5 a1),.own 22 0,.own 26 0,.d (Qr5 a4)])),(17,.box (.agg [.d (I a0),.d (Qr5 a1),.own 22 0,.own 26 0,.d (Qr5 a4)])),(18,.box (.agg [.d (I a0),.d (Qr5 a1),.own 22 0,.own 26 0,.d (Qr5 a4)])),(22,.frozen 0 1 (a2.take ((List.replicate (Int.toNat ((a2).length:Int)) (Qr5 ⟨#[]⟩:D)):jVj).length++(List.replicate (Int.toNat ((a2).length:Int)) (Qr5 ⟨#[]⟩:D)).drop (a2).length)),(26,.frozen 0 1 (a3.take ((List.replicate (Int.toNat ((a3).length:Int)) (I 0:D)):jVj).length++(List.replicate (Int.toNat ((a3).length:Int)) (I 0:D)).drop (a3).length)),(83,.box (.d Qr7)),(84,.box (.agg [.d (I e.1),.d (I e.2.1),.d (B e.2.2.1),.d (B e.2.2.2.1),.d (I e.2.2.2.2.1),.d (I e.2.2.2.2.2.1),.d (I e.2.2.2.2.2.2.1),.own 102 0,.own 103 0,.own 104 0])),(102,.row 0 1 e.2.2.2.2.2.2.2.1),(103,.row 0 6 e.2.2.2.2.2.2.2.2.1),(104,.row 0 7 e.2.2.2.2.2.2.2.2.2)]⟩
theorem Ul {n a0 a1 a2 a3 a4 a5 a6 a7 a8 l b c e f g i j}(k)(r)(h:Zm n a0 a1 a2 a3 a4 a5 a6 a7 a8 l b c e f g i j k=some r):Rl (ZJ cx.P 151 0) 16 83 false (GZ a0 a1 a2 a3 a4 a5 a6 a7 a8 l b c e f g i j) k r:=by
 unfold Zm at h;obtain k|k:=k
 ·obtain⟨a,h⟩|⟨a,h⟩:=io h
  ·have⟨ha2,h⟩:=gd h;have⟨ta3,ha3,h⟩:=bo h;have⟨ta4,ha4,h⟩:=bo h;cases h;exact rn 88 [b1,b1,.el (QP ta3),.obj (some 84) (.d (.tup [])) (QJ' ta4) []] [] [2,3,6,7,8] [0,1,2,10,11,12,13,17,18,22,26,83,84,102,103,104] (Qa ((by unfold Qh;omega):Qh 1) (Qa (Uh ha4) (Qa (QX Ql ha3) (Qa ha2 (Qa (jDj a) QL)))))
  cases h;exact rx 88 [b0] [] [2,3] [0,1,2,10,11,12,13,17,18,22,26,83,84] (Qa (jEj a) QL)
 ·obtain⟨a,h⟩|⟨a,h⟩:=io h
  ·have⟨ha2,h⟩:=gd h;have⟨ta3,ha3,h⟩:=bo h;have⟨ta4,ha4,h⟩:=bo h;have⟨ha5,h⟩:=gd h;cases h;exact rn 105 [b1,b1,.el (QP ta3),.obj (some 84) (.d (.tup [])) (QJ' ta4) []] [] [2,3,6,7,8] [0,1,2,10,11,12,13,17,18,22,26,83,84,102,103,104] (Qa ha5 (Qa (Uh ha4) (Qa (QX Ql ha3) (Qa ha2 (Qa (jDj a) QL)))))
  cases h;exact rx 105 [b0] [] [2,3] [0,1,2,10,11,12,13,17,18,22,26,83,84,102,103,104] (Qa (jEj a) QL)
def WO (n:Nat)(a0:Int)(a1:jSj)(a2 a3:jVj)(a4:jSj)(a5 a6:jVj)(a7 a8:Int)(j c:Bool)(d e f:Int)(g h i:jVj):Option (jVj×jVj×jRj) := if 0<=((a2).length:Int)/\((a2).length:Int)<=((a2).length:Int)/\16*((a2).length:Int)<=281474976710656/\((a2).length:Int)<=9223372036854775807 then if 0<=((a3).length:Int)/\((a3).length:Int)<=((a3).length:Int)/\8*((a3).length:Int)<=281474976710656/\((a3).length:Int)<=9223372036854775807 then if Wa 88 ((a5).length+1) then if(a1.toList==(⟨#[117,110,100,111]⟩:jSj).toList)=true then if Qh (((a6).length:Int) - 1) then if 0<=(((a6).length:Int) - 1)/\(((a6).length:Int) - 1)<=((a6).length:Int) then(Q2 (Zm n a0 a1 a2 a3 a4 a5 a6 a7 a8 j c d e f g h i) n (.inl ())).bind fun a=>match a with|.inl a=>(some ((a5++([.agg [I a0,.v (.string a1),.lst false 1 (a2.take ((List.replicate (Int.toNat ((a2).length:Int)) (.v (.string ⟨#[]⟩):D)):jVj).length++(List.replicate (Int.toNat ((a2).length:Int)) (.v (.string ⟨#[]⟩):D)).drop (a2).length),.lst false 1 (a3.take ((List.replicate (Int.toNat ((a3).length:Int)) (I 0:D)):jVj).length++(List.replicate (Int.toNat ((a3).length:Int)) (I 0:D)).drop (a3).length),.v (.string a4)]]:jVj)),(a6.take (Int.toNat (((a6).length:Int) - 1))),0,0,false,false,0,0,0,[],[],[]))|.inr a=>(some ((a5++([.agg [I a0,.v (.string a1),.lst false 1 (a2.take ((List.replicate (Int.toNat ((a2).length:Int)) (.v (.string ⟨#[]⟩):D)):jVj).length++(List.replicate (Int.toNat ((a2).length:Int)) (.v (.string ⟨#[]⟩):D)).drop (a2).length),.lst false 1 (a3.take ((List.replicate (Int.toNat ((a3).length:Int)) (I 0:D)):jVj).length++(List.replicate (Int.toNat ((a3).length:Int)) (I 0:D)).drop (a3).length),.v (.string a4)]]:jVj)),(a6.take (Int.toNat (((a6).length:Int) - 1))),a.1,a.2.1,a.2.2.1,a.2.2.2.1,a.2.2.2.2.1,a.2.2.2.2.2.1,a.2.2.2.2.2.2.1,a.2.2.2.2.2.2.2.1,a.2.2.2.2.2.2.2.2.1,a.2.2.2.2.2.2.2.2.2)) else none else none else if Wa 88 ((a6).length+1) then(Qy n a0 a1 (a2.take ((List.replicate (Int.toNat ((a2).length:Int)) (.v (.string ⟨#[]⟩):D)):jVj).length++(List.replicate (Int.toNat ((a2).length:Int)) (.v (.string ⟨#[]⟩):D)).drop (a2).length) (a3.take ((List.replicate (Int.toNat ((a3).length:Int)) (I 0:D)):jVj).length++(List.replicate (Int.toNat ((a3).length:Int)) (I 0:D)).drop (a3).length) a4 (a5++([.agg [I a0,.v (.string a1),.lst false 1 (a2.take ((List.replicate (Int.toNat ((a2).length:Int)) (.v (.string ⟨#[]⟩):D)):jVj).length++(List.replicate (Int.toNat ((a2).length:Int)) (.v (.string ⟨#[]⟩):D)).drop (a2).length),.lst false 1 (a3.take ((List.replicate (Int.toNat ((a3).length:Int)) (I 0:D)):jVj).length++(List.replicate (Int.toNat ((a3).length:Int)) (I 0:D)).drop (a3).length),.v (.string a4)]]:jVj)) (a6++([.agg [I a0,.v (.string a1),.lst false 1 (a2.take ((List.replicate (Int.toNat ((a2).length:Int)) (.v (.string ⟨#[]⟩):D)):jVj).length++(List.replicate (Int.toNat ((a2).length:Int)) (.v (.string ⟨#[]⟩):D)).drop (a2).length),.lst false 1 (a3.take ((List.replicate (Int.toNat ((a3).length:Int)) (I 0:D)):jVj).length++(List.replicate (Int.toNat ((a3).length:Int)) (I 0:D)).drop (a3).length),.v (.string a4)]]:jVj)) a7 a8 j c d e f g h i).bind fun b=>some ((a5++([.agg [I a0,.v (.string a1),.lst false 1 (a2.take ((List.replicate (Int.toNat ((a2).length:Int)) (.v (.string ⟨#[]⟩):D)):jVj).length++(List.replicate (Int.toNat ((a2).length:Int)) (.v (.string ⟨#[]⟩):D)).drop (a2).length),.lst false 1 (a3.take ((List.replicate (Int.toNat ((a3).length:Int)) (I 0:D)):jVj).length++(List.replicate (Int.toNat ((a3).length:Int)) (I 0:D)).drop (a3).length),.v (.string a4)]]:jVj)),(a6++([.agg [I a0,.v (.string a1),.lst false 1 (a2.take ((List.replicate (Int.toNat ((a2).length:Int)) (.v (.string ⟨#[]⟩):D)):jVj).length++(List.replicate (Int.toNat ((a2).length:Int)) (.v (.string ⟨#[]⟩):D)).drop (a2).length),.lst false 1 (a3.take ((List.replicate (Int.toNat ((a3).length:Int)) (I 0:D)):jVj).length++(List.replicate (Int.toNat ((a3).length:Int)) (I 0:D)).drop (a3).length),.v (.string a4)]]:jVj)),b.1,b.2.1,b.2.2.1,b.2.2.2.1,b.2.2.2.2.1,b.2.2.2.2.2.1,b.2.2.2.2.2.2.1,b.2.2.2.2.2.2.2.1,b.2.2.2.2.2.2.2.2.1,b.2.2.2.2.2.2.2.2.2) else none else none else none else none
theorem Kf {n a0 a1 a2 a3 a4 a5 a6 a7 a8 k b c e f g i j r}(h:WO n a0 a1 a2 a3 a4 a5 a6 a7 a8 k b c e f g i j=some r):ComputesO cx 45 [.ptr 0 0 0 0 0,.d (.agg [I a0,Qr5 a1,.lst false 1 a2,.lst false 1 a3,Qr5 a4])] (some (Qb a5 a6 a7 a8 k b c e f g i j)) (.d (.tup [])) (Qb' r) []:=by
 unfold WO at h;have⟨h1,h⟩:=gd h;have⟨h2,h⟩:=gd h;have⟨h3,h⟩:=gd h;have q:=Qa (ro 39 h3) (Qa h2 (Qa h1 QL));let o(l:jOj):=b1::b1::b1::b1::l;obtain⟨m,h⟩|⟨m,h⟩:=io h
 ·have⟨h5,h⟩:=gd h;have⟨h6,h⟩:=gd h;have q:=Qa h6 (Qa h5 (Qa m q));let o l:=o (b1::.ix 0::b1::b1::l);have⟨a,h7,h⟩:=bo h;obtain a|a:=a
  ·cases h;exact rfO 0 (o [.lp [] [2,3,6,7,8] [0,1,2,10,11,12,13,17,18,22,26,83,84] (.exit 0) [(2,.ptr 83 0 0 0 0),(3,.ptr 84 0 0 0 0)] [(0,.box (.agg [.own 1 1,.own 2 1,.d (I a7),.d (I a8),.d (B k),.d (B b),.d (I c),.d (I e),.d (I f),.own 10 0,.own 11 0,.own 12 0])),(1,.row 1 5 (a5++([.agg [I a0,Qr5 a1,.lst false 1 (a2.take ((List.replicate (Int.toNat ((a2).length:Int)) (Qr5 ⟨#[]⟩:D)):jVj).length++(List.replicate (Int.toNat ((a2).length:Int)) (Qr5 ⟨#[]⟩:D)).drop (a2).length),.lst false 1 (a3.take ((List.replicate (Int.toNat ((a3).length:Int)) (I 0:D)):jVj).length++(List.replicate (Int.toNat ((a3).length:Int)) (I 0:D)).drop (a3).length),Qr5 a4]]:jVj))),(2,.row 1 5 (a6.take (Int.toNat (((a6).length:Int) - 1)))),(10,.row 0 1 g),(11,.row 0 6 i),(12,.row 0 7 j),(13,.box (.agg [.d (I a0),.d (Qr5 a1),.own 22 0,.own 26 0,.d (Qr5 a4)])),(17,.box (.agg [.d (I a0),.d (Qr5 a1),.own 22 0,.own 26 0,.d (Qr5 a4)])),(18,.box (.agg [.d (I a0),.d (Qr5 a1),.own 22 0,.own 26 0,.d (Qr5 a4)])),(22,.frozen 0 1 (a2.take ((List.replicate (Int.toNat ((a2).length:Int)) (Qr5 ⟨#[]⟩:D)):jVj).length++(List.replicate (Int.toNat ((a2).length:Int)) (Qr5 ⟨#[]⟩:D)).drop (a2).length)),(26,.frozen 0 1 (a3.take ((List.replicate (Int.toNat ((a3).length:Int)) (I 0:D)):jVj).length++(List.replicate (Int.toNat ((a3).length:Int)) (I 0:D)).drop (a3).length)),(83,.box (.d Qr7)),(84,.box (.d Qr7))] 135]) (Qa (QH Ul h7) q)
  cases h;exact rfO 0 (o [.lp [] [2,3,6,7,8] [0,1,2,10,11,12,13,17,18,22,26,83,84] (.exit 0) [(2,.ptr 83 0 0 0 0),(3,.ptr 84 0 0 0 0)] [(0,.box (.agg [.own 1 1,.own 2 1,.d (I a7),.d (I a8),.d (B k),.d (B b),.d (I c),.d (I e),.d (I f),.own 10 0,.own 11 0,.own 12 0])),(1,.row 1 5 (a5++([.agg [I a0,Qr5 a1,.lst false 1 (a2.take ((List.replicate (Int.toNat ((a2).length:Int)) (Qr5 ⟨#[]⟩:D)):jVj).length++(List.replicate (Int.toNat ((a2).length:Int)) (Qr5 ⟨#[]⟩:D)).drop (a2).length),.lst false 1 (a3.take ((List.replicate (Int.toNat ((a3).length:Int)) (I 0:D)):jVj).length++(List.replicate (Int.toNat ((a3).length:Int)) (I 0:D)).drop (a3).length),Qr5 a4]]:jVj))),(2,.row 1 5 (a6.take (Int.toNat (((a6).length:Int) - 1)))),(10,.row 0 1 g),(11,.row 0 6 i),(12,.row 0 7 j),(13,.box (.agg [.d (I a0),.d (Qr5 a1),.own 22 0,.own 26 0,.d (Qr5 a4)])),(17,.box (.agg [.d (I a0),.d (Qr5 a1),.own 22 0,.own 26 0,.d (Qr5 a4)])),(18,.box (.agg [.d (I a0),.d (Qr5 a1),.own 22 0,.own 26 0,.d (Qr5 a4)])),(22,.frozen 0 1 (a2.take ((List.replicate (Int.toNat ((a2).length:Int)) (Qr5 ⟨#[]⟩:D)):jVj).length++(List.replicate (Int.toNat ((a2).length:Int)) (Qr5 ⟨#[]⟩:D)).drop (a2).length)),(26,.frozen 0 1 (a3.take ((List.replicate (Int.toNat ((a3).length:Int)) (I 0:D)):jVj).length++(List.replicate (Int.toNat ((a3).length:Int)) (I 0:D)).drop (a3).length)),(83,.box (.d Qr7)),(84,.box (.agg [.d (I a.1),.d (I a.2.1),.d (B a.2.2.1),.d (B a.2.2.2.1),.d (I a.2.2.2.2.1),.d (I a.2.2.2.2.2.1),.d (I a.2.2.2.2.2.2.1),.own 102 0,.own 103 0,.own 104 0])),(102,.row 0 1 a.2.2.2.2.2.2.2.1),(103,.row 0 6 a.2.2.2.2.2.2.2.2.1),(104,.row 0 7 a.2.2.2.2.2.2.2.2.2)] 135]) (Qa (QH Ul h7) q)
 have⟨h5,h⟩:=gd h;have⟨t6,h6,h⟩:=bo h;cases h;exact rfO 0 (o [b0,b1,.ix (-9),.obj (some 0) (.d (.tup [])) (Qb (a5++([.agg [I a0,Qr5 a1,.lst false 1 (a2.take ((List.replicate (Int.toNat ((a2).length:Int)) (Qr5 ⟨#[]⟩:D)):jVj).length++(List.replicate (Int.toNat ((a2).length:Int)) (Qr5 ⟨#[]⟩:D)).drop (a2).length),.lst false 1 (a3.take ((List.replicate (Int.toNat ((a3).length:Int)) (I 0:D)):jVj).length++(List.replicate (Int.toNat ((a3).length:Int)) (I 0:D)).drop (a3).length),Qr5 a4]]:jVj)) (a6++([.agg [I a0,Qr5 a1,.lst false 1 (a2.take ((List.replicate (Int.toNat ((a2).length:Int)) (Qr5 ⟨#[]⟩:D)):jVj).length++(List.replicate (Int.toNat ((a2).length:Int)) (Qr5 ⟨#[]⟩:D)).drop (a2).length),.lst false 1 (a3.take ((List.replicate (Int.toNat ((a3).length:Int)) (I 0:D)):jVj).length++(List.replicate (Int.toNat ((a3).length:Int)) (I 0:D)).drop (a3).length),Qr5 a4]]:jVj)) t6.1 t6.2.1 t6.2.2.1 t6.2.2.2.1 t6.2.2.2.2.1 t6.2.2.2.2.2.1 t6.2.2.2.2.2.2.1 t6.2.2.2.2.2.2.2.1 t6.2.2.2.2.2.2.2.2.1 t6.2.2.2.2.2.2.2.2.2) [true,true]]) (Qa (J1 h6) (Qa (ro 39 h5) (Qa (QA m) q)))
def QR (n:Nat)(a0:jVj)(a:(Unit)⊕Int×Int×Int×Bool×Bool×Int×Int×Int×jVj×jVj×jVj×jVj×jVj):Option ((Unit⊕Int×Int×Int×Bool×Bool×Int×Int×Int×jVj×jVj×jVj×jVj×jVj)⊕Int×Int×Int×Int×Bool×Bool×Int×Int×Int×jVj×jVj×jVj×jVj×jVj⊕Int⊕Unit⊕Int×Int×Bool×Bool×Int×Int×Int×jVj×jVj×jVj×jVj×jVj):=match a with|(.inl a)=>(if 0<((a0).length:Int) then(el Ze a0 0).bind fun b=>(WX n b.1 b.2.1 b.2.2.1 b.2.2.2.1 b.2.2.2.2).bind fun d=>if d=0 then(Qs n b.1 b.2.1 b.2.2.1 b.2.2.2.1 b.2.2.2.2 ([]) ([]) 0 0 false false 0 0 0 ([]) ([]) ([])).bind fun e=>if e=0 then(WO n b.1 b.2.1 b.2.2.1 b.2.2.2.1 b.2.2.2.2 ([]) ([]) 0 0 false false 0 0 0 ([]) ([]) ([])).bind fun c=>some (.inl (.inr (1,c.2.2.1,c.2.2.2.1,c.2.2.2.2.1,c.2.2.2.2.2.1,c.2.2.2.2.2.2.1,c.2.2.2.2.2.2.2.1,c.2.2.2.2.2.2.2.2.1,c.1,c.2.1,c.2.2.2.2.2.2.2.2.2.1,c.2.2.2.2.2.2.2.2.2.2.1,c.2.2.2.2.2.2.2.2.2.2.2))) else some (.inr (.inl (1,e,0,0,false,false,0,0,0,[],[],[],[],[]))) else some (.inr (.inr (.inl d))) else some (.inr (.inr (.inr (.inl ())))))|.inr a=>(if a.1<((a0).length:Int) then(el Ze a0 a.1).bind fun b=>(WX n b.1 b.2.1 b.2.2.1 b.2.2.2.1 b.2.2.2.2).bind fun d=>if d=0 then(Qs n b.1 b.2.1 b.2.2.1 b.2.2.2.1 b.2.2.2.2 a.2.2.2.2.2.2.2.2.1 a.2.2.2.2.2.2.2.2.2.1 a.2.1 a.2.2.1 a.2.2.2.1 a.2.2.2.2.1 a.2.2.2.2.2.1 a.2.2.2.2.2.2.1 a.2.2.2.2.2.2.2.1 a.2.2.2.2.2.2.2.2.2.2.1 a.2.2.2.2.2.2.2.2.2.2.2.1 a.2.2.2.2.2.2.2.2.2.2.2.2).bind fun e=>if e=0 then(WO n b.1 b.2.1 b.2.2.1 b.2.2.2.1 b.2.2.2.2 a.2.2.2.2.2.2.2.2.1 a.2.2.2.2.2.2.2.2.2.1 a.2.1 a.2.2.1 a.2.2.2.1 a.2.2.2.2.1 a.2.2.2.2.2.1 a.2.2.2.2.2.2.1 a.2.2.2.2.2.2.2.1 a.2.2.2.2.2.2.2.2.2.2.1 a.2.2.2.2.2.2.2.2.2.2.2.1 a.2.2.2.2.2.2.2.2.2.2.2.2).bind fun c=>if Qh (a.1+1) then some (.inl (.inr ((a.1+1),c.2.2.1,c.2.2.2.1,c.2.2.2.2.1,c.2.2.2.2.2.1,c.2.2.2.2.2.2.1,c.2.2.2.2.2.2.2.1,c.2.2.2.2.2.2.2.2.1,c.1,c.2.1,c.2.2.2.2.2.2.2.2.2.1,c.2.2.2.2.2.2.2.2.2.2.1,c.2.2.2.2.2.2.2.2.2.2.2))) else none else if Qh (a.1+1) then some (.inr (.inl ((a.1+1),e,a.2.1,a.2.2.1,a.2.2.2.1,a.2.2.2.2.1,a.2.2.2.2.2.1,a.2.2.2.2.2.2.1,a.2.2.2.2.2.2.2.1,a.2.2.2.2.2.2.2.2.1,a.2.2.2.2.2.2.2.2.2.1,a.2.2.2.2.2.2.2.2.2.2.1,a.2.2.2.2.2.2.2.2.2.2.2.1,a.2.2.2.2.2.2.2.2.2.2.2.2))) else none else if Qh (a.1+1) then some (.inr (.inl ((a.1+1),d,a.2.1,a.2.2.1,a.2.2.2.1,a.2.2.2.2.1,a.2.2.2.2.2.1,a.2.2.2.2.2.2.1,a.2.2.2.2.2.2.2.1,a.2.2.2.2.2.2.2.2.1,a.2.2.2.2.2.2.2.2.2.1,a.2.2.2.2.2.2.2.2.2.2.1,a.2.2.2.2.2.2.2.2.2.2.2.1,a.2.2.2.2.2.2.2.2.2.2.2.2))) else none else some (.inr (.inr (.inr (.inr (a.2.1,a.2.2.1,a.2.2.2.1,a.2.2.2.2.1,a.2.2.2.2.2.1,a.2.2.2.2.2.2.1,a.2.2.2.2.2.2.2.1,a.2.2.2.2.2.2.2.2.1,a.2.2.2.2.2.2.2.2.2.1,a.2.2.2.2.2.2.2.2.2.2.1,a.2.2.2.2.2.2.2.2.2.2.2.1,a.2.2.2.2.2.2.2.2.2.2.2.2))))))
abbrev Qsq:D:=.agg [.lst true 0 [],.lst true 0 [],I 0,I 0,B false,B false,I 0,I 0,I 0,.lst true 0 [],.lst true 0 [],.lst true 0 []]
noncomputable def X4 (a0:jVj):Lp (Unit⊕Int×Int×Int×Bool×Bool×Int×Int×Int×jVj×jVj×jVj×jVj×jVj) (Int×Int×Int×Int×Bool×Bool×Int×Int×Int×jVj×jVj×jVj×jVj×jVj⊕Int⊕Unit⊕Int×Int×Bool×Bool×Int×Int×Int×jVj×jVj×jVj×jVj×jVj):=⟨fun
 | (.inl sa)=>[(5,.ptr 4 0 0 0 0),(15,.d (.lst false 5 a0)),(16,.d (I ((a0).length:Int))),(17,.d (I 0))]
 | (.inr sa)=>[(5,.ptr 4 0 0 0 0),(15,.d (.lst false 5 a0)),(16,.d (I ((a0).length:Int))),(17,.d (I sa.1))],fun
 | (.inl sa)=>[(4,.box (.d Qsq))]
 | (.inr sa)=>[(4,.box (.agg [.own 28 0,.own 29 0,.d (I sa.2.1),.d (I sa.2.2.1),.d (B sa.2.2.2.1),.d (B sa.2.2.2.2.1),.d (I sa.2.2.2.2.2.1),.d (I sa.2.2.2.2.2.2.1),.d (I sa.2.2.2.2.2.2.2.1),.own 37 0,.own 38 0,.own 39 0])),(28,.row 0 5 sa.2.2.2.2.2.2.2.2.1),(29,.row 0 5 sa.2.2.2.2.2.2.2.2.2.1),(37,.row 0 1 sa.2.2.2.2.2.2.2.2.2.2.1),(38,.row 0 6 sa.2.2.2.2.2.2.2.2.2.2.2.1),(39,.row 0 7 sa.2.2.2.2.2.2.2.2.2.2.2.2)],fun
 | (.inl e)=>.ret
 | (.inr (.inl e))=>.ret
 | (.inr (.inr (.inl e)))=>(.exit 0)
 | (.inr (.inr (.inr e)))=>(.exit 0),fun
 | (.inl e)=>[(2,.ptr 4 0 0 0 0),(3,.d (I e.1)),(4,.d (I e.2.1))]
 | (.inr (.inl e))=>[(2,.ptr 4 0 0 0 0),(3,.d (I 1)),(4,.d (I e))]
 | (.inr (.inr (.inl e)))=>[(5,.ptr 4 0 0 0 0)]
 | (.inr (.inr (.inr e)))=>[(5,.ptr 4 0 0 0 0)],fun
 | (.inl e)=>[(4,.box (.agg [.own 28 0,.own 29 0,.d (I e.2.2.1),.d (I e.2.2.2.1),.d (B e.2.2.2.2.1),.d (B e.2.2.2.2.2.1),.d (I e.2.2.2.2.2.2.1),.d (I e.2.2.2.2.2.2.2.1),.d (I e.2.2.2.2.2.2.2.2.1),.own 37 0,.own 38 0,.own 39 0])),(28,.row 0 5 e.2.2.2.2.2.2.2.2.2.1),(29,.row 0 5 e.2.2.2.2.2.2.2.2.2.2.1),(37,.row 0 1 e.2.2.2.2.2.2.2.2.2.2.2.1),(38,.row 0 6 e.2.2.2.2.2.2.2.2.2.2.2.2.1),(39,.row 0 7 e.2.2.2.2.2.2.2.2.2.2.2.2.2)]
 | (.inr (.inl e))=>[(4,.box (.d Qsq))]
 | (.inr (.inr (.inl e)))=>[(4,.box (.d Qsq))]
 | (.inr (.inr (.inr e)))=>[(4,.box (.agg [.own 28 0,.own 29 0,.d (I e.1),.d (I e.2.1),.d (B e.2.2.1),.d (B e.2.2.2.1),.d (I e.2.2.2.2.1),.d (I e.2.2.2.2.2.1),.d (I e.2.2.2.2.2.2.1),.own 37 0,.own 38 0,.own 39 0])),(28,.row 0 5 e.2.2.2.2.2.2.2.1),(29,.row 0 5 e.2.2.2.2.2.2.2.2.1),(37,.row 0 1 e.2.2.2.2.2.2.2.2.2.1),(38,.row 0 6 e.2.2.2.2.2.2.2.2.2.2.1),(39,.row 0 7 e.2.2.2.2.2.2.2.2.2.2.2)]⟩
theorem VJ {n a0}(b)(r)(h:QR n a0 b=some r):Rl (ZJ cx.P 28 0) 40 0 false (X4 a0) b r:=by
 unfold QR at h;obtain b|b:=b
 ·obtain⟨c,h⟩|⟨c,h⟩:=io h
  ·have⟨ta2,ha2,h⟩:=bo h;have⟨ta3,ha3,h⟩:=bo h;have q:=Qa (Ja ha3) (allE Ql ha2 (Qa (jDj c) QL));let o(l:jOj):=b1::.el (QP ta2)::.ret (I ta3)::l;obtain⟨a,h⟩|⟨a,h⟩:=io h
   ·have⟨ta5,ha5,h⟩:=bo h;have q:=Qa (YZ ha5) (Qa (eqt a) q);let o l:=o (b1::.obj (some 4) (.d (I ta5)) (Qb ([]) ([]) 0 0 false false 0 0 0 ([]) ([]) ([])) ZV::l);obtain⟨e,h⟩|⟨e,h⟩:=io h
    ·have⟨ta7,ha7,h⟩:=bo h;cases h;exact rn 12 (o [b0,.obj (some 4) (.d (.tup [])) (Qb' ta7) []]) [] [5,15,16,17] [4,28,29,37,38,39] (Qa ((by unfold Qh;omega):Qh 1) (Qa (Kf ha7) (Qa (nef e) q)))
    cases h;exact rx 12 (o [b1]) [] [2,3,4] [4,28,29,37,38,39] (Qa ((by unfold Qh;omega):Qh 1) (Qa (net e) q))
   cases h;exact rx 12 (o [b0,b1]) [] [2,3,4] [4] (Qa ((by unfold Qh;omega):Qh 1) (Qa (net a) (Qa (eqf a) q)))
  cases h;exact rx 12 [b0] [] [5] [4] (Qa (jEj c) QL)
 ·obtain⟨c,h⟩|⟨c,h⟩:=io h
  ·have⟨ta2,ha2,h⟩:=bo h;have⟨ta3,ha3,h⟩:=bo h;have q:=Qa (Ja ha3) (allE Ql ha2 (Qa (jDj c) QL));let o(l:jOj):=b1::.el (QP ta2)::.ret (I ta3)::l;obtain⟨a,h⟩|⟨a,h⟩:=io h
   ·have⟨ta5,ha5,h⟩:=bo h;have q:=Qa (YZ ha5) (Qa (eqt a) q);let o l:=o (b1::.obj (some 4) (.d (I ta5)) (Qb b.2.2.2.2.2.2.2.2.1 b.2.2.2.2.2.2.2.2.2.1 b.2.1 b.2.2.1 b.2.2.2.1 b.2.2.2.2.1 b.2.2.2.2.2.1 b.2.2.2.2.2.2.1 b.2.2.2.2.2.2.2.1 b.2.2.2.2.2.2.2.2.2.2.1 b.2.2.2.2.2.2.2.2.2.2.2.1 b.2.2.2.2.2.2.2.2.2.2.2.2) ZV::l);obtain⟨e,h⟩|⟨e,h⟩:=io h
    ·have⟨ta7,ha7,h⟩:=bo h;have⟨ha8,h⟩:=gd h;cases h;exact rn 40 (o [b0,.obj (some 4) (.d (.tup [])) (Qb' ta7) []]) [] [5,15,16,17] [4,28,29,37,38,39] (Qa ha8 (Qa (Kf ha7) (Qa (nef e) q)))
    have⟨ha7,h⟩:=gd h;cases h;exact rx 40 (o [b1]) [] [2,3,4] [4,28,29,37,38,39] (Qa ha7 (Qa (net e) q))
   have⟨ha5,h⟩:=gd h;cases h;exact rx 40 (o [b0,b1]) [] [2,3,4] [4,28,29,37,38,39] (Qa ha5 (Qa (net a) (Qa (eqf a) q)))
  cases h;exact rx 40 [b0] [] [5] [4,28,29,37,38,39] (Qa (jEj c) QL)
def Q6 (n:Nat)(a0:jVj):Option (Int×Int×jVj×jVj×jRj) := if((a0).length:Int)>1000 then some (0,5,[],[],0,0,false,false,0,0,0,[],[],[]) else(Q2 (QR n a0) n (.inl ())).bind fun a=>match a with|.inl a=>(some (a.1,a.2.1,a.2.2.2.2.2.2.2.2.2.1,a.2.2.2.2.2.2.2.2.2.2.1,a.2.2.1,a.2.2.2.1,a.2.2.2.2.1,a.2.2.2.2.2.1,a.2.2.2.2.2.2.1,a.2.2.2.2.2.2.2.1,a.2.2.2.2.2.2.2.2.1,a.2.2.2.2.2.2.2.2.2.2.2.1,a.2.2.2.2.2.2.2.2.2.2.2.2.1,a.2.2.2.2.2.2.2.2.2.2.2.2.2))|(.inr (.inl a))=>(some (1,a,[],[],0,0,false,false,0,0,0,[],[],[]))|(.inr (.inr (.inl a)))=>(some (0,0,[],[],0,0,false,false,0,0,0,[],[],[]))|(.inr (.inr (.inr a)))=>(some (0,0,a.2.2.2.2.2.2.2.1,a.2.2.2.2.2.2.2.2.1,a.1,a.2.1,a.2.2.1,a.2.2.2.1,a.2.2.2.2.1,a.2.2.2.2.2.1,a.2.2.2.2.2.2.1,a.2.2.2.2.2.2.2.2.2.1,a.2.2.2.2.2.2.2.2.2.2.1,a.2.2.2.2.2.2.2.2.2.2.2))
theorem We {n a0 r}(h:Q6 n a0=some r):ComputesO cx 28 [.d (.lst false 5 a0)] none (.tup [.ptr 0 0 0 0 0,.d (I r.1),.d (I r.2.1)]) (Qb' r.2.2) []:=by
 unfold Q6 at h;obtain⟨b,h⟩|⟨b,h⟩:=io h
 ·cases h;exact rfO 4 [b1] (Qa (jDj b) QL)
 have q:=Qa (jEj b) QL;have⟨a,h2,h⟩:=bo h;obtain a|a|a|a:=a
 ·cases h;exact rfO 4 [b0,.lp [] [5,15,16,17] [4] .ret [(2,.ptr 4 0 0 0 0),(3,.d (I a.1)),(4,.d (I a.2.1))] [(4,.box (.agg [.own 28 0,.own 29 0,.d (I a.2.2.1),.d (I a.2.2.2.1),.d (B a.2.2.2.2.1),.d (B a.2.2.2.2.2.1),.d (I a.2.2.2.2.2.2.1),.d (I a.2.2.2.2.2.2.2.1),.d (I a.2.2.2.2.2.2.2.2.1),.own 37 0,.own 38 0,.own 39 0])),(28,.row 0 5 a.2.2.2.2.2.2.2.2.2.1),(29,.row 0 5 a.2.2.2.2.2.2.2.2.2.2.1),(37,.row 0 1 a.2.2.2.2.2.2.2.2.2.2.2.1),(38,.row 0 6 a.2.2.2.2.2.2.2.2.2.2.2.2.1),(39,.row 0 7 a.2.2.2.2.2.2.2.2.2.2.2.2.2)] 86] (Qa (QH VJ h2) q)
 ·cases h;exact rfO 4 [b0,.lp [] [5,15,16,17] [4] .ret [(2,.ptr 4 0 0 0 0),(3,.d (I 1)),(4,.d (I a))] [(4,.box (.d Qsq))] 86] (Qa (QH VJ h2) q)
 ·cases h;exact rfO 4 [b0,.lp [] [5,15,16,17] [4] (.exit 0) [(5,.ptr 4 0 0 0 0)] [(4,.box (.d Qsq))] 86] (Qa (QH VJ h2) q)
 cases h;exact rfO 4 [b0,.lp [] [5,15,16,17] [4] (.exit 0) [(5,.ptr 4 0 0 0 0)] [(4,.box (.agg [.own 28 0,.own 29 0,.d (I a.1),.d (I a.2.1),.d (B a.2.2.1),.d (B a.2.2.2.1),.d (I a.2.2.2.2.1),.d (I a.2.2.2.2.2.1),.d (I a.2.2.2.2.2.2.1),.own 37 0,.own 38 0,.own 39 0])),(28,.row 0 5 a.2.2.2.2.2.2.2.1),(29,.row 0 5 a.2.2.2.2.2.2.2.2.1),(37,.row 0 1 a.2.2.2.2.2.2.2.2.2.1),(38,.row 0 6 a.2.2.2.2.2.2.2.2.2.2.1),(39,.row 0 7 a.2.2.2.2.2.2.2.2.2.2.2)] 86] (Qa (QH VJ h2) q)
theorem jJ {n a0 a1 a2 a3 a4 a5 r}(h:ZN n a0 a1 a2 a3 a4 a5=some r):Computes cx 61 [.agg [Qr5 a0,Qr5 a1,I a2,I a3,B a4,B a5]] (Qr5 r):=by unfold ZN at h;obtain rfl:=oi h;exact rf [] QL
def Wt (n:Nat)(a0 a1 a2:Int):Option (Bool) := if a0<a1 then some true else some (decide (a0>a2))
theorem V0 {n a0 a1 a2 r}(h:Wt n a0 a1 a2=some r):Computes cx 165 [I a0,I a1,I a2] (B r):=by
 unfold Wt at h;obtain⟨a,h⟩|⟨a,h⟩:=io h
 ·obtain rfl:=oi h;exact rf [b1] (Qa (jDj a) QL)
 cases h;exact rf [b0] (Qa (jEj a) QL)
def Q1 (n:Nat)(a0:jSj):Option (jSj×Int×Bool) := if(a0.toList==(⟨#[115,101,99,116,111,114]⟩:jSj).toList)=true then some (⟨#[83]⟩,1,true) else if(a0.toList==(⟨#[109,105,114,114,111,114]⟩:jSj).toList)=true then some (⟨#[77,115]⟩,2,true) else if(a0.toList==(⟨#[115,111,105,108]⟩:jSj).toList)=true then some (⟨#[109]⟩,2,true) else if(a0.toList==(⟨#[99,108,101,97,110]⟩:jSj).toList)=true then some (⟨#[109]⟩,1,true) else if(a0.toList==(⟨#[100,101,102,101,99,116]⟩:jSj).toList)=true then some (⟨#[109]⟩,1,true) else if(a0.toList==(⟨#[114,101,112,97,105,114]⟩:jSj).toList)=true then some (⟨#[109]⟩,1,true) else if(a0.toList==(⟨#[97,105,109]⟩:jSj).toList)=true then some (⟨#[109]⟩,1,true) else if(a0.toList==(⟨#[112,97,114,107]⟩:jSj).toList)=true then some (⟨#[109]⟩,1,true) else if(a0.toList==(⟨#[100,105,109]⟩:jSj).toList)=true then some (⟨#[115]⟩,1,true) else if(a0.toList==(⟨#[115,117,110]⟩:jSj).toList)=true then some (⟨#[]⟩,2,true) else if(a0.toList==(⟨#[102,105,108,108]⟩:jSj).toList)=true then some (⟨#[]⟩,1,true) else if(a0.toList==(⟨#[100,114,97,105,110]⟩:jSj).toList)=true then some (⟨#[]⟩,1,true) else if(a0.toList==(⟨#[116,114,105,112]⟩:jSj).toList)=true then some (⟨#[]⟩,1,true) else if(a0.toList==(⟨#[114,101,115,101,116]⟩:jSj).toList)=true then some (⟨#[]⟩,1,true) else if(a0.toList==(⟨#[111,102,102,101,114]⟩:jSj).toList)=true then some (⟨#[79]⟩,5,true) else if(a0.toList==(⟨#[100,101,108,105,118,101,114]⟩:jSj).toList)=true then some (⟨#[111]⟩,2,true) else if(a0.toList==(⟨#[98,105,108,108]⟩:jSj).toList)=true then some (⟨#[111]⟩,1,true) else if(a0.toList==(⟨#[117,110,100,111]⟩:jSj).toList)=true then some (⟨#[]⟩,0,true) else some (⟨#[]⟩,0,false)
theorem qq {n a0 r}(h:Q1 n a0=some r):Computes cx 77 [Qr5 a0] (.agg [Qr5 r.1,I r.2.1,B r.2.2]):=by
 unfold Q1 at h;obtain⟨t,h⟩|⟨t,h⟩:=io h
 ·cases h;exact rf [b1] (Qa t QL)
 have q:=Qa (QA t) QL;let o(l:jOj):=b0::l;obtain⟨u,h⟩|⟨u,h⟩:=io h
 ·cases h;exact rf (o [b1]) (Qa u q)
 have q:=Qa (QA u) q;let o l:=o (b0::l);obtain⟨v,h⟩|⟨v,h⟩:=io h
 ·cases h;exact rf (o [b1]) (Qa v q)
 have q:=Qa (QA v) q;let o l:=o (b0::l);obtain⟨k,h⟩|⟨k,h⟩:=io h
 ·cases h;exact rf (o [b1,b1]) (Qa k (Qa k q))
 have q:=Qa (QA k) q;let o l:=o (b0::l);obtain⟨m,h⟩|⟨m,h⟩:=io h
 ·cases h;exact rf (o [b1,b1]) (Qa m (Qa m q))
 have q:=Qa (QA m) q;let o l:=o (b0::l);obtain⟨p,h⟩|⟨p,h⟩:=io h
 ·cases h;exact rf (o [b1,b1]) (Qa p (Qa p q))
 have q:=Qa (QA p) q;let o l:=o (b0::l);obtain⟨s,h⟩|⟨s,h⟩:=io h
 ·cases h;exact rf (o [b1,b1]) (Qa s (Qa s q))
 have q:=Qa (QA s) q;let o l:=o (b0::l);obtain⟨x,h⟩|⟨x,h⟩:=io h
 ·cases h;exact rf (o [b1]) (Qa x q)
 have q:=Qa (QA x) q;let o l:=o (b0::l);obtain⟨y,h⟩|⟨y,h⟩:=io h
 ·cases h;exact rf (o [b1]) (Qa y q)
 have q:=Qa (QA y) q;let o l:=o (b0::l);obtain⟨d,h⟩|⟨d,h⟩:=io h
 ·cases h;exact rf (o [b1]) (Qa d q)
 have q:=Qa (QA d) q;let o l:=o (b0::l);obtain⟨a,h⟩|⟨a,h⟩:=io h
 ·cases h;exact rf (o [b1,b1]) (Qa a (Qa a q))
 have q:=Qa (QA a) q;let o l:=o (b0::l);obtain⟨b,h⟩|⟨b,h⟩:=io h
 ·cases h;exact rf (o [b1,b1]) (Qa b (Qa b q))
 have q:=Qa (QA b) q;let o l:=o (b0::l);obtain⟨c,h⟩|⟨c,h⟩:=io h
 ·cases h;exact rf (o [b1,b1]) (Qa c (Qa c q))
 have q:=Qa (QA c) q;let o l:=o (b0::l);obtain⟨e,h⟩|⟨e,h⟩:=io h
 ·cases h;exact rf (o [b1]) (Qa e q)
 have q:=Qa (QA e) q;let o l:=o (b0::l);obtain⟨f,h⟩|⟨f,h⟩:=io h
 ·cases h;exact rf (o [b1]) (Qa f q)
 have q:=Qa (QA f) q;obtain⟨g,h⟩|⟨g,h⟩:=io h
 ·cases h;exact rf (o [b0,b1]) (Qa g q)
 have q:=Qa (QA g) q;let o l:=o (b0::b0::l);obtain⟨i,h⟩|⟨i,h⟩:=io h
 ·cases h;exact rf (o [b1]) (Qa i q)
 have q:=Qa (QA i) q;obtain⟨j,h⟩|⟨j,h⟩:=io h
 ·cases h;exact rf (o [b0,b1]) (Qa j q)
 cases h;exact rf (o [b0,b0]) (Qa (QA j) q)
def Wm (n:Nat)(a0:jSj)(b:Int):Option (Int⊕Unit⊕Unit) := if b<(a0.size:Int) then(WQ a0 b).bind fun a=>if a>=97 then if a<=122 then if a>=48 then if a<=57 then if Qh (b+1) then some (.inl (b+1)) else none else if Qh (b+1) then some (.inl (b+1)) else none else if Qh (b+1) then some (.inl (b+1)) else none else if a>=65 then if a>=48 then if a<=57 then if a<=90 then if Qh (b+1) then some (.inl (b+1)) else none else if b=0 then some (.inr (.inl ())) else if Qh (b+1) then some (.inl (b+1)) else none else if a<=90 then if Qh (b+1) then some (.inl (b+1)) else none else if b=0 then some (.inr (.inl ())) else if a=95 then if Qh (b+1) then some (.inl (b+1)) else none else some (.inr (.inl ())) else if a<=90 then if Qh (b+1) then some (.inl (b+1)) else none else if b=0 then some (.inr (.inl ())) else if a=95 then if Qh (b+1) then some (.inl (b+1)) else none else some (.inr (.inl ())) else if a>=48 then if a<=57 then if b=0 then some (.inr (.inl ())) else if Qh (b+1) then some (.inl (b+1)) else none else if b=0 then some (.inr (.inl ())) else if a=95 then if Qh (b+1) then some (.inl (b+1)) else none else some (.inr (.inl ())) else if b=0 then some (.inr (.inl ())) else if a=95 then if Qh (b+1) then some (.inl (b+1)) else none else some (.inr (.inl ())) else if a>=65 then if a>=48 then if a<=57 then if a<=90 then if Qh (b+1) then some (.inl (b+1)) else none else if b=0 then some (.inr (.inl ())) else if Qh (b+1) then some (.inl (b+1)) else none else if a<=90 then if Qh (b+1) then some (.inl (b+1)) else none else if b=0 then some (.inr (.inl ())) else if a=95 then if Qh (b+1) then some (.inl (b+1)) else none else some (.inr (.inl ())) else if a<=90 then if Qh (b+1) then some (.inl (b+1)) else none else if b=0 then some (.inr (.inl ())) else if a=95 then if Qh (b+1) then some (.inl (b+1)) else none else some (.inr (.inl ())) else if a>=48 then if a<=57 then if b=0 then some (.inr (.inl ())) else if Qh (b+1) then some (.inl (b+1)) else none else if b=0 then some (.inr (.inl ())) else if a=95 then if Qh (b+1) then some (.inl (b+1)) else none else some (.inr (.inl ())) else if b=0 then some (.inr (.inl ())) else if a=95 then if Qh (b+1) then some (.inl (b+1)) else none else some (.inr (.inl ())) else some (.inr (.inr ()))
noncomputable def qx (a0:jSj):Lp (Int) (Unit⊕Unit):=⟨fun a=>[(0,.d (Qr5 a0)),(3,.d (I a))],fun _=>[],fun
 | (.inl e)=>.ret
 | (.inr e)=>(.exit 0),fun
 | (.inl e)=>[(2,.d (B false))]
 | (.inr e)=>[],fun _=>[]⟩
theorem JO {n a0}(i)(r)(h:Wm n a0 i=some r):Rl (ZJ cx.P 166 0) 67 0 false (qx a0) i r:=by
 unfold Wm at h;obtain⟨k,h⟩|⟨k,h⟩:=io h
 ·have⟨ta2,e,h⟩:=bo h;have q:=Qa (Zq e:QV cx.P (Instr.index 9 (.string a0) (.int .i64 i))=some (.int .u8 ta2)) (Qa (jDj k) QL);let o(l:jOj):=b1::.el (.v (.int .u8 ta2))::l;obtain⟨m,h⟩|⟨m,h⟩:=io h
  ·have q:=Qa (Zq e:QV cx.P (Instr.index 9 (.string a0) (.int .i64 i))=some (.int .u8 ta2)) (Qa (jDj m) q);let o l:=o (b1::.el (.v (.int .u8 ta2))::l);obtain⟨j,h⟩|⟨j,h⟩:=io h
   ·have q:=Qa (Zq e:QV cx.P (Instr.index 9 (.string a0) (.int .i64 i))=some (.int .u8 ta2)) (Qa (jDj j) q);let o l:=o (b1::.el (.v (.int .u8 ta2))::l);obtain⟨g,h⟩|⟨g,h⟩:=io h
    ·have q:=Qa (Zq e:QV cx.P (Instr.index 9 (.string a0) (.int .i64 i))=some (.int .u8 ta2)) (Qa (jDj g) q);let o l:=o (b1::.el (.v (.int .u8 ta2))::l);obtain⟨d,h⟩|⟨d,h⟩:=io h
     ·have⟨b,h⟩:=gd h;cases h;exact rn 9 (o [b1,.no,.no]) [] [0,3] [] (Qa b (Qa (jDj d) q))
     have⟨b,h⟩:=gd h;cases h;exact rn 9 (o [b0,.el (.v (.int .u8 ta2)),.no,.no]) [] [0,3] [] (Qa b (Qa (Zq e:QV cx.P (Instr.index 9 (.string a0) (.int .i64 i))=some (.int .u8 ta2)) (Qa (jEj d) q)))
    have⟨d,h⟩:=gd h;cases h;exact rn 9 (o [b0,.no,.el (.v (.int .u8 ta2)),.no,.no]) [] [0,3] [] (Qa d (Qa (Zq e:QV cx.P (Instr.index 9 (.string a0) (.int .i64 i))=some (.int .u8 ta2)) (Qa (jEj g) q)))
   have q:=Qa (Zq e:QV cx.P (Instr.index 9 (.string a0) (.int .i64 i))=some (.int .u8 ta2)) (Qa (jEj j) q);let o l:=o (b0::.el (.v (.int .u8 ta2))::l);obtain⟨g,h⟩|⟨g,h⟩:=io h
   ·have q:=Qa (Zq e:QV cx.P (Instr.index 9 (.string a0) (.int .i64 i))=some (.int .u8 ta2)) (Qa (Zq e:QV cx.P (Instr.index 9 (.string a0) (.int .i64 i))=some (.int .u8 ta2)) (Qa (jDj g) q));let o l:=o (b1::.el (.v (.int .u8 ta2))::.el (.v (.int .u8 ta2))::l);obtain⟨d,h⟩|⟨d,h⟩:=io h
    ·have q:=Qa (Zq e:QV cx.P (Instr.index 9 (.string a0) (.int .i64 i))=some (.int .u8 ta2)) (Qa (jDj d) q);let o l:=o (b1::.el (.v (.int .u8 ta2))::l);obtain⟨b,h⟩|⟨b,h⟩:=io h
     ·have q:=Qa (jDj b) q;obtain⟨a,h⟩|⟨a,h⟩:=io h
      ·have⟨c,h⟩:=gd h;cases h;exact rn 9 (o [b1,b0,.no]) [] [0,3] [] (Qa c (Qa (Ud (jDj a)) q))
      have q:=Qa (Uc (jEj a)) q;obtain⟨c,h⟩|⟨c,h⟩:=io h
      ·cases h;exact rx 9 (o [b1,b1,b1,.no]) [] [2] [] (Qa (eqt c) q)
      have⟨f,h⟩:=gd h;cases h;exact rn 9 (o [b1,b1,b0,.no]) [] [0,3] [] (Qa f (Qa (eqf c) q))
     have q:=Qa (Zq e:QV cx.P (Instr.index 9 (.string a0) (.int .i64 i))=some (.int .u8 ta2)) (Qa (jEj b) q);let o l:=o (b0::.el (.v (.int .u8 ta2))::l);obtain⟨a,h⟩|⟨a,h⟩:=io h
     ·have⟨c,h⟩:=gd h;cases h;exact rn 9 (o [b0,.no]) [] [0,3] [] (Qa c (Qa (Ud (jDj a)) q))
     have q:=Qa (Uc (jEj a)) q;obtain⟨c,h⟩|⟨c,h⟩:=io h
     ·cases h;exact rx 9 (o [b1,b1,.no]) [] [2] [] (Qa (eqt c) q)
     have q:=Qa (eqf c) q;obtain⟨f,h⟩|⟨f,h⟩:=io h
     ·have⟨ha11,h⟩:=gd h;cases h;exact rn 9 (o [b1,b0,b0]) [] [0,3] [] (Qa ha11 (Qa (Ud (eqt f)) q))
     cases h;exact rx 9 (o [b1,b0,b1]) [] [2] [] (Qa (Uc (eqf f)) q)
    have q:=Qa (Zq e:QV cx.P (Instr.index 9 (.string a0) (.int .i64 i))=some (.int .u8 ta2)) (Qa (jEj d) q);let o l:=o (b0::.no::.el (.v (.int .u8 ta2))::l);obtain⟨b,h⟩|⟨b,h⟩:=io h
    ·have⟨a,h⟩:=gd h;cases h;exact rn 9 (o [b0,.no]) [] [0,3] [] (Qa a (Qa (Ud (jDj b)) q))
    have q:=Qa (Uc (jEj b)) q;obtain⟨a,h⟩|⟨a,h⟩:=io h
    ·cases h;exact rx 9 (o [b1,b1,.no]) [] [2] [] (Qa (eqt a) q)
    have q:=Qa (eqf a) q;obtain⟨c,h⟩|⟨c,h⟩:=io h
    ·have⟨f,h⟩:=gd h;cases h;exact rn 9 (o [b1,b0,b0]) [] [0,3] [] (Qa f (Qa (Ud (eqt c)) q))
    cases h;exact rx 9 (o [b1,b0,b1]) [] [2] [] (Qa (Uc (eqf c)) q)
   have q:=Qa (Zq e:QV cx.P (Instr.index 9 (.string a0) (.int .i64 i))=some (.int .u8 ta2)) (Qa (jEj g) q);let o l:=o (b0::.el (.v (.int .u8 ta2))::l);obtain⟨d,h⟩|⟨d,h⟩:=io h
   ·have q:=Qa (Zq e:QV cx.P (Instr.index 9 (.string a0) (.int .i64 i))=some (.int .u8 ta2)) (Qa (jDj d) q);let o l:=o (b1::.el (.v (.int .u8 ta2))::l);obtain⟨b,h⟩|⟨b,h⟩:=io h
    ·have q:=Qa (jDj b) q;obtain⟨a,h⟩|⟨a,h⟩:=io h
     ·cases h;exact rx 9 (o [b1,.no,b1,.no]) [] [2] [] (Qa (eqt a) q)
     have⟨c,h⟩:=gd h;cases h;exact rn 9 (o [b1,.no,b0,.no]) [] [0,3] [] (Qa c (Qa (eqf a) q))
    have q:=Qa (Zq e:QV cx.P (Instr.index 9 (.string a0) (.int .i64 i))=some (.int .u8 ta2)) (Qa (jEj b) q);let o l:=o (b0::.el (.v (.int .u8 ta2))::.no::l);obtain⟨a,h⟩|⟨a,h⟩:=io h
    ·cases h;exact rx 9 (o [b1,.no]) [] [2] [] (Qa (eqt a) q)
    have q:=Qa (eqf a) q;obtain⟨c,h⟩|⟨c,h⟩:=io h
    ·have⟨f,h⟩:=gd h;cases h;exact rn 9 (o [b0,b0]) [] [0,3] [] (Qa f (Qa (Ud (eqt c)) q))
    cases h;exact rx 9 (o [b0,b1]) [] [2] [] (Qa (Uc (eqf c)) q)
   have q:=Qa (Zq e:QV cx.P (Instr.index 9 (.string a0) (.int .i64 i))=some (.int .u8 ta2)) (Qa (jEj d) q);let o l:=o (b0::.no::.el (.v (.int .u8 ta2))::.no::l);obtain⟨b,h⟩|⟨b,h⟩:=io h
   ·cases h;exact rx 9 (o [b1,.no]) [] [2] [] (Qa (eqt b) q)
   have q:=Qa (eqf b) q;obtain⟨a,h⟩|⟨a,h⟩:=io h
   ·have⟨c,h⟩:=gd h;cases h;exact rn 9 (o [b0,b0]) [] [0,3] [] (Qa c (Qa (Ud (eqt a)) q))
   cases h;exact rx 9 (o [b0,b1]) [] [2] [] (Qa (Uc (eqf a)) q)
  have q:=Qa (Zq e:QV cx.P (Instr.index 9 (.string a0) (.int .i64 i))=some (.int .u8 ta2)) (Qa (jEj m) q);let o l:=o (b0::.no::.el (.v (.int .u8 ta2))::l);obtain⟨j,h⟩|⟨j,h⟩:=io h
  ·have q:=Qa (Zq e:QV cx.P (Instr.index 9 (.string a0) (.int .i64 i))=some (.int .u8 ta2)) (Qa (Zq e:QV cx.P (Instr.index 9 (.string a0) (.int .i64 i))=some (.int .u8 ta2)) (Qa (jDj j) q));let o l:=o (b1::.el (.v (.int .u8 ta2))::.el (.v (.int .u8 ta2))::l);obtain⟨g,h⟩|⟨g,h⟩:=io h
   ·have q:=Qa (Zq e:QV cx.P (Instr.index 9 (.string a0) (.int .i64 i))=some (.int .u8 ta2)) (Qa (jDj g) q);let o l:=o (b1::.el (.v (.int .u8 ta2))::l);obtain⟨d,h⟩|⟨d,h⟩:=io h
    ·have q:=Qa (jDj d) q;obtain⟨b,h⟩|⟨b,h⟩:=io h
     ·have⟨a,h⟩:=gd h;cases h;exact rn 9 (o [b1,b0,.no]) [] [0,3] [] (Qa a (Qa (Ud (jDj b)) q))
     have q:=Qa (Uc (jEj b)) q;obtain⟨a,h⟩|⟨a,h⟩:=io h
     ·cases h;exact rx 9 (o [b1,b1,b1,.no]) [] [2] [] (Qa (eqt a) q)
     have⟨c,h⟩:=gd h;cases h;exact rn 9 (o [b1,b1,b0,.no]) [] [0,3] [] (Qa c (Qa (eqf a) q))
    have q:=Qa (Zq e:QV cx.P (Instr.index 9 (.string a0) (.int .i64 i))=some (.int .u8 ta2)) (Qa (jEj d) q);let o l:=o (b0::.el (.v (.int .u8 ta2))::l);obtain⟨b,h⟩|⟨b,h⟩:=io h
    ·have⟨a,h⟩:=gd h;cases h;exact rn 9 (o [b0,.no]) [] [0,3] [] (Qa a (Qa (Ud (jDj b)) q))
    have q:=Qa (Uc (jEj b)) q;obtain⟨a,h⟩|⟨a,h⟩:=io h
    ·cases h;exact rx 9 (o [b1,b1,.no]) [] [2] [] (Qa (eqt a) q)
    have q:=Qa (eqf a) q;obtain⟨c,h⟩|⟨c,h⟩:=io h
    ·have⟨f,h⟩:=gd h;cases h;exact rn 9 (o [b1,b0,b0]) [] [0,3] [] (Qa f (Qa (Ud (eqt c)) q))
    cases h;exact rx 9 (o [b1,b0,b1]) [] [2] [] (Qa (Uc (eqf c)) q)
   have q:=Qa (Zq e:QV cx.P (Instr.index 9 (.string a0) (.int .i64 i))=some (.int .u8 ta2)) (Qa (jEj g) q);let o l:=o (b0::.no::.el (.v (.int .u8 ta2))::l);obtain⟨d,h⟩|⟨d,h⟩:=io h
   ·have⟨b,h⟩:=gd h;cases h;exact rn 9 (o [b0,.no]) [] [0,3] [] (Qa b (Qa (Ud (jDj d)) q))
   have q:=Qa (Uc (jEj d)) q;obtain⟨b,h⟩|⟨b,h⟩:=io h
   ·cases h;exact rx 9 (o [b1,b1,.no]) [] [2] [] (Qa (eqt b) q)
   have q:=Qa (eqf b) q;obtain⟨a,h⟩|⟨a,h⟩:=io h
   ·have⟨c,h⟩:=gd h;cases h;exact rn 9 (o [b1,b0,b0]) [] [0,3] [] (Qa c (Qa (Ud (eqt a)) q))
   cases h;exact rx 9 (o [b1,b0,b1]) [] [2] [] (Qa (Uc (eqf a)) q)
  have q:=Qa (Zq e:QV cx.P (Instr.index 9 (.string a0) (.int .i64 i))=some (.int .u8 ta2)) (Qa (jEj j) q);let o l:=o (b0::.el (.v (.int .u8 ta2))::l);obtain⟨g,h⟩|⟨g,h⟩:=io h
  ·have q:=Qa (Zq e:QV cx.P (Instr.index 9 (.string a0) (.int .i64 i))=some (.int .u8 ta2)) (Qa (jDj g) q);let o l:=o (b1::.el (.v (.int .u8 ta2))::l);obtain⟨d,h⟩|⟨d,h⟩:=io h
   ·have q:=Qa (jDj d) q;obtain⟨b,h⟩|⟨b,h⟩:=io h
    ·cases h;exact rx 9 (o [b1,.no,b1,.no]) [] [2] [] (Qa (eqt b) q)
    have⟨a,h⟩:=gd h;cases h;exact rn 9 (o [b1,.no,b0,.no]) [] [0,3] [] (Qa a (Qa (eqf b) q))
   have q:=Qa (Zq e:QV cx.P (Instr.index 9 (.string a0) (.int .i64 i))=some (.int .u8 ta2)) (Qa (jEj d) q);let o l:=o (b0::.el (.v (.int .u8 ta2))::.no::l);obtain⟨b,h⟩|⟨b,h⟩:=io h
   ·cases h;exact rx 9 (o [b1,.no]) [] [2] [] (Qa (eqt b) q)
   have q:=Qa (eqf b) q;obtain⟨a,h⟩|⟨a,h⟩:=io h
   ·have⟨c,h⟩:=gd h;cases h;exact rn 9 (o [b0,b0]) [] [0,3] [] (Qa c (Qa (Ud (eqt a)) q))
   cases h;exact rx 9 (o [b0,b1]) [] [2] [] (Qa (Uc (eqf a)) q)
  have q:=Qa (Zq e:QV cx.P (Instr.index 9 (.string a0) (.int .i64 i))=some (.int .u8 ta2)) (Qa (jEj g) q);let o l:=o (b0::.no::.el (.v (.int .u8 ta2))::.no::l);obtain⟨d,h⟩|⟨d,h⟩:=io h
  ·cases h;exact rx 9 (o [b1,.no]) [] [2] [] (Qa (eqt d) q)
  have q:=Qa (eqf d) q;obtain⟨b,h⟩|⟨b,h⟩:=io h
  ·have⟨a,h⟩:=gd h;cases h;exact rn 9 (o [b0,b0]) [] [0,3] [] (Qa a (Qa (Ud (eqt b)) q))
  cases h;exact rx 9 (o [b0,b1]) [] [2] [] (Qa (Uc (eqf b)) q)
 cases h;exact rx 9 [b0] [] [] [] (Qa (jEj k) QL)
def Yg (n:Nat)(a0:jSj):Option (Bool) := if(a0.toList==(⟨#[]⟩:jSj).toList)=true then some false else if(a0.size:Int)>24 then some false else(Q2 (Wm n a0) n 0).bind fun a=>match a with|.inl a=>(some false)|.inr a=>(some true)
theorem jg {n a0 r}(h:Yg n a0=some r):Computes cx 166 [Qr5 a0] (B r):=by
 unfold Yg at h;obtain⟨a,h⟩|⟨a,h⟩:=io h
 ·obtain rfl:=oi h;exact rf [b1,.no] (Qa a QL)
 have q:=Qa (QA a) QL;obtain⟨b,h⟩|⟨b,h⟩:=io h
 ·obtain rfl:=oi h;exact rf [b0,b1] (Qa (jDj b) q)
 have q:=Qa (jEj b) q;have⟨c,h3,h⟩:=bo h;obtain c|c:=c
 ·obtain rfl:=oi h;exact rf [b0,b0,.lp [] [0,3] [] .ret [(2,.d (B false))] [] 77] (Qa (QH JO h3) q)
 obtain rfl:=oi h;exact rf [b0,b0,.lp [] [0,3] [] (.exit 0) [] [] 77] (Qa (QH JO h3) q)
def Z4 (n:Nat)(a0:Int)(a1:jSj)(a2 a3:jVj)(a4:jSj)(d:jSj×Int×Bool)(a:Int):Option (Int⊕Unit⊕Unit) := if a<(d.1.size:Int) then(el Ww a2 a).bind fun b=>(Yg n b).bind fun c=>if c=true then if Qh (a+1) then some (.inl (a+1)) else none else some (.inr (.inl ())) else some (.inr (.inr ()))
noncomputable def G9 (a0:Int)(a1:jSj)(a2 a3:jVj)(a4:jSj)(a:jSj×Int×Bool):Lp (Int) (Unit⊕Unit):=⟨fun b=>[(1,.ptr 0 0 0 0 0),(3,.ptr 8 0 0 0 0),(4,.d (I b))],fun _=>[(0,.box (.d (.agg [I a0,Qr5 a1,.lst false 1 a2,.lst false 1 a3,Qr5 a4]))),(8,.box (.d (.agg [Qr5 a.1,I a.2.1,B a.2.2])))],fun
 | (.inl e)=>.ret
 | (.inr e)=>(.exit 0),fun
 | (.inl e)=>[(2,.d (I 8))]
 | (.inr e)=>[(1,.ptr 0 0 0 0 0),(3,.ptr 8 0 0 0 0)],fun
 | (.inl e)=>[]
 | (.inr e)=>[(0,.box (.d (.agg [I a0,Qr5 a1,.lst false 1 a2,.lst false 1 a3,Qr5 a4]))),(8,.box (.d (.agg [Qr5 a.1,I a.2.1,B a.2.2])))]⟩
theorem Ux {n a0 a1 a2 a3 a4 d}(c)(r)(h:Z4 n a0 a1 a2 a3 a4 d c=some r):Rl (ZJ cx.P 75 0) 59 0 false (G9 a0 a1 a2 a3 a4 d) c r:=by
 unfold Z4 at h;obtain⟨a,h⟩|⟨a,h⟩:=io h
 ·have⟨ta2,ha2,h⟩:=bo h;have⟨ta3,ha3,h⟩:=bo h;have q:=Qa (jg ha3) (allE Qr ha2 (Qa (jDj a) QL));let o(l:jOj):=b1::.el (Zy ta2)::.ret (B ta3)::l;obtain⟨b,h⟩|⟨b,h⟩:=io h
  ·have⟨ha5,h⟩:=gd h;cases h;exact rn 29 (o [b0]) [] [1,3,4] [0,8] (Qa ha5 (Qa (Ud b) q))
  cases h;exact rx 29 (o [b1]) [] [2] [] (Qa (Uc (QA b)) q)
 cases h;exact rx 29 [b0] [] [1,3] [0,8] (Qa (jEj a) QL)
def Z3 (n:Nat)(a0:Int)(a1:jSj)(a2 a3:jVj)(a4:jSj)(d:jSj×Int×Bool)(a:Int):Option (Int⊕Unit⊕Unit) := if a<d.2.1 then(el Vt a3 a).bind fun b=>(Wt n b 0 999999999).bind fun c=>if c=true then some (.inr (.inl ())) else if Qh (a+1) then some (.inl (a+1)) else none else some (.inr (.inr ()))
noncomputable def G8 (a0:Int)(a1:jSj)(a2 a3:jVj)(a4:jSj)(a:jSj×Int×Bool):Lp (Int) (Unit⊕Unit):=⟨fun b=>[(1,.ptr 0 0 0 0 0),(3,.ptr 8 0 0 0 0),(5,.d (I b))],fun _=>[(0,.box (.d (.agg [I a0,Qr5 a1,.lst false 1 a2,.lst false 1 a3,Qr5 a4]))),(8,.box (.d (.agg [Qr5 a.1,I a.2.1,B a.2.2])))],fun
 | (.inl e)=>.ret
 | (.inr e)=>(.exit 2),fun
 | (.inl e)=>[(2,.d (I 3))]
 | (.inr e)=>[(1,.ptr 0 0 0 0 0)],fun
 | (.inl e)=>[]
 | (.inr e)=>[(0,.box (.d (.agg [I a0,Qr5 a1,.lst false 1 a2,.lst false 1 a3,Qr5 a4])))]⟩
theorem Uw {n a0 a1 a2 a3 a4 d}(c)(r)(h:Z3 n a0 a1 a2 a3 a4 d c=some r):Rl (ZJ cx.P 75 1) 59 0 false (G8 a0 a1 a2 a3 a4 d) c r:=by
 unfold Z3 at h;obtain⟨a,h⟩|⟨a,h⟩:=io h
 ·have⟨ta2,ha2,h⟩:=bo h;have⟨ta3,ha3,h⟩:=bo h;have q:=Qa (V0 ha3) (allE Qi ha2 (Qa (jDj a) QL));let o(l:jOj):=b1::.el (Q3 ta2)::.ret (B ta3)::l;obtain⟨b,h⟩|⟨b,h⟩:=io h
  ·cases h;exact rx 56 (o [b1]) [] [2] [] (Qa b q)
  have⟨ha5,h⟩:=gd h;cases h;exact rn 56 (o [b0]) [] [1,3,5] [0,8] (Qa ha5 (Qa (QA b) q))
 cases h;exact rx 56 [b0] [] [1] [0] (Qa (jEj a) QL)
def WV (n:Nat)(a0:Int)(a1:jSj)(a2 a3:jVj)(a4:jSj):Option (Int) := (Wt n a0 1 1000).bind fun d=>if d=true then some 3 else(Q1 n a1).bind fun a=>if a.2.2=true then if((a2).length:Int)=(a.1.size:Int) then if((a3).length:Int)=a.2.1 then(Q2 (Z4 n a0 a1 a2 a3 a4 a) n 0).bind fun b=>match b with|.inl b=>(some 8)|.inr b=>((Q2 (Z3 n a0 a1 a2 a3 a4 a) n 0).bind fun c=>match c with|.inl c=>(some 3)|.inr c=>(if(!(a4.toList==(⟨#[]⟩:jSj).toList))=true then some 1 else some 0)) else some 2 else some 2 else some 13
theorem K7 {n a0 a1 a2 a3 a4 r}(h:WV n a0 a1 a2 a3 a4=some r):Computes cx 75 [.agg [I a0,Qr5 a1,.lst false 1 a2,.lst false 1 a3,Qr5 a4]] (I r):=by
 unfold WV at h;have⟨t1,h1,h⟩:=bo h;have q:=Qa (V0 h1) QL;let o(l:jOj):=.ret (B t1)::l;obtain⟨a,h⟩|⟨a,h⟩:=io h
 ·obtain rfl:=oi h;exact rf (o [b1]) (Qa a q)
 have⟨t3,h3,h⟩:=bo h;have q:=Qa (qq h3) (Qa (QA a) q);let o l:=o (b0::.ret (.agg [Qr5 t3.1,I t3.2.1,B t3.2.2])::l);obtain⟨b,h⟩|⟨b,h⟩:=io h
 ·have q:=Qa (Ud b) q;let o l:=o (b0::l);obtain⟨c,h⟩|⟨c,h⟩:=io h
  ·have q:=Qa (nef c) q;let o l:=o (b0::l);obtain⟨e,h⟩|⟨e,h⟩:=io h
   ·have q:=Qa (nef e) q;have⟨g,h7,h⟩:=bo h;obtain g|g:=g
    ·obtain rfl:=oi h;exact rf (o [b0,.lp [] [1,3,4] [0,8] .ret [(2,.d (I 8))] [] 55]) (Qa (QH Ux h7) q)
    have q:=Qa (QH Ux h7) q;let o l:=o (b0::.lp [] [1,3,4] [0,8] (.exit 0) [(1,.ptr 0 0 0 0 0),(3,.ptr 8 0 0 0 0)] [(0,.box (.d (.agg [I a0,Qr5 a1,.lst false 1 a2,.lst false 1 a3,Qr5 a4]))),(8,.box (.d (.agg [Qr5 t3.1,I t3.2.1,B t3.2.2])))] 55::l);have⟨i,h8,h⟩:=bo h;obtain i|i:=i
    ·obtain rfl:=oi h;exact rf (o [.lp [] [1,3,5] [0,8] .ret [(2,.d (I 3))] [] 80]) (Qa (QH Uw h8) q)
    have q:=Qa (QH Uw h8) q;let o l:=o (.lp [] [1,3,5] [0,8] (.exit 2) [(1,.ptr 0 0 0 0 0)] [(0,.box (.d (.agg [I a0,Qr5 a1,.lst false 1 a2,.lst false 1 a3,Qr5 a4])))] 80::l);obtain⟨f,h⟩|⟨f,h⟩:=io h
    ·obtain rfl:=oi h;exact rf (o [b1]) (Qa f q)
    obtain rfl:=oi h;exact rf (o [b0]) (Qa (QA f) q)
   obtain rfl:=oi h;exact rf (o [b1]) (Qa (net e) q)
  obtain rfl:=oi h;exact rf (o [b1,.no]) (Qa (net c) q)
 obtain rfl:=oi h;exact rf (o [b1]) (Qa (Uc (QA b)) q)
def Vw (n:Nat)(a0 a1:Int)(a2 a3:Bool)(a4 a5 a6:Int)(a7 a8 c:jVj)(b:(Int×Int)):Option (Int×Int⊕Int) := if b.2<((a8).length:Int) then(el QM a8 b.2).bind fun a=>if a.2.2.2.2.2=true then if Qh (1000 - a.2.2.2.1) then if Qh (a.2.2.1*(1000 - a.2.2.2.1)) then if Qh ((a.2.2.1*(1000 - a.2.2.2.1))*a1) then if Qh (b.1+((a.2.2.1*(1000 - a.2.2.2.1))*a1)) then if Qh (b.2+1) then some (.inl ((b.1+((a.2.2.1*(1000 - a.2.2.2.1))*a1)),(b.2+1))) else none else none else none else none else none else if Qh (b.2+1) then some (.inl (b.1,(b.2+1))) else none else some (.inr b.1)
noncomputable def wa (a0 a1:Int)(a2 a3:Bool)(a4 a5 a6:Int)(a7 a8 b:jVj):Lp (Int×Int) (Int):=⟨fun a=>[(1,.ptr 0 0 0 0 0),(3,.d (I a.1)),(4,.d (I a.2))],fun _=>[(0,.box (.d (.agg [I a0,I a1,B a2,B a3,I a4,I a5,I a6,.lst false 1 a7,.lst false 6 a8,.lst false 7 b])))],fun _=>(.exit 0),fun e=>[(3,.d (I e))],fun _=>[]⟩
theorem zZ {n a0 a1 a2 a3 a4 a5 a6 a7 a8 c}(d)(r)(h:Vw n a0 a1 a2 a3 a4 a5 a6 a7 a8 c d=some r):Rl (ZJ cx.P 79 0) 32 0 false (wa a0 a1 a2 a3 a4 a5 a6 a7 a8 c) d r:=by
 unfold Vw at h;obtain⟨a,h⟩|⟨a,h⟩:=io h
 ·have⟨ta2,ha2,h⟩:=bo h;have q:=allE Qq ha2 (Qa (jDj a) QL);let o(l:jOj):=b1::.el (QB ta2)::l;obtain⟨b,h⟩|⟨b,h⟩:=io h
  ·have⟨ha4,h⟩:=gd h;have⟨ha5,h⟩:=gd h;have⟨ha6,h⟩:=gd h;have⟨ha7,h⟩:=gd h;have⟨ha8,h⟩:=gd h;cases h;exact rn 4 (o [b1]) [] [1,3,4] [0] (Qa ha8 (Qa ha7 (Qa ha6 (Qa ha5 (Qa ha4 (Qa b q))))))
  have⟨ha4,h⟩:=gd h;cases h;exact rn 4 (o [b0]) [] [1,3,4] [0] (Qa ha4 (Qa (QA b) q))
 cases h;exact rx 4 [b0] [] [3] [] (Qa (jEj a) QL)
def Yr (n:Nat)(a0 a1:Int)(a2 a3:Bool)(a4 a5 a6:Int)(a7 a8 a:jVj):Option (Int) := (Q2 (Vw n a0 a1 a2 a3 a4 a5 a6 a7 a8 a) n (0,0)).bind fun b=>some b
theorem qp {n a0 a1 a2 a3 a4 a5 a6 a7 a8 a r}(h:Yr n a0 a1 a2 a3 a4 a5 a6 a7 a8 a=some r):Computes cx 79 [.agg [I a0,I a1,B a2,B a3,I a4,I a5,I a6,.lst false 1 a7,.lst false 6 a8,.lst false 7 a]] (I r):=by unfold Yr at h;have⟨t1,h1,h⟩:=bo h;obtain rfl:=oi h;exact rf [.lp [] [1,3,4] [0] (.exit 0) [(3,.d (I t1))] [] 44] (Qa (QH zZ h1) QL)
def Vp (n:Nat)(a0 a1:Int)(a2 a3:Bool)(a4 a5 a6:Int)(a7 a8 c:jVj)(a:Int):Option (Int×Int×Int) := (Yr n a0 a1 a2 a3 a4 a5 a6 a7 a8 c).bind fun b=>if Qh (a - a0) then if Qh (b*(a - a0)) then if Qh (1000000000000000 - a4) then if(b*(a - a0))>(1000000000000000 - a4) then some (0,0,4) else if Qh (1000000000000000 - a5) then if(b*(a - a0))>(1000000000000000 - a5) then some (0,0,4) else if Qh (a4+(b*(a - a0))) then if Qh (a5+(b*(a - a0))) then some ((a4+(b*(a - a0))),(a5+(b*(a - a0))),0) else none else none else none else none else none else none
theorem K8 {n a0 a1 a2 a3 a4 a5 a6 a7 a8 d a r}(h:Vp n a0 a1 a2 a3 a4 a5 a6 a7 a8 d a=some r):Computes cx 167 [.agg [I a0,I a1,B a2,B a3,I a4,I a5,I a6,.lst false 1 a7,.lst false 6 a8,.lst false 7 d],I a] (.tup [.agg [I r.1,I r.2.1],I r.2.2]):=by
 unfold Vp at h;have⟨t1,h1,h⟩:=bo h;have⟨h2,h⟩:=gd h;have⟨h3,h⟩:=gd h;have⟨h4,h⟩:=gd h;have q:=Qa h4 (Qa h3 (Qa h2 (Qa (qp h1) QL)));obtain⟨b,h⟩|⟨b,h⟩:=io h
 ·cases h;exact rf [.ret (I t1),b1,.no] (Qa (jDj b) q)
 have⟨h6,h⟩:=gd h;have q:=Qa h6 (Qa (jEj b) q);obtain⟨c,h⟩|⟨c,h⟩:=io h
 ·cases h;exact rf [.ret (I t1),b0,b1] (Qa (jDj c) q)
 have⟨h8,h⟩:=gd h;have⟨h9,h⟩:=gd h;cases h;exact rf [.ret (I t1),b0,b0] (Qa h9 (Qa h8 (Qa (jEj c) q)))
def VI (n:Nat)(a0 a1:Int)(a2 a3:Bool)(a4 a5 a6:Int)(a7 a8 d:jVj)(b:jSj)(a:Int):Option (Int⊕Int⊕Unit) := if a<((a7).length:Int) then(el Ww a7 a).bind fun c=>if(c.toList==b.toList)=true then some (.inr (.inl a)) else if Qh (a+1) then some (.inl (a+1)) else none else some (.inr (.inr ()))
noncomputable def jS (a0 a1:Int)(a2 a3:Bool)(a4 a5 a6:Int)(a7 a8 b:jVj)(a:jSj):Lp (Int) (Int⊕Unit):=⟨fun c=>[(2,.d (Qr5 a)),(3,.ptr 0 0 0 0 0),(7,.d (I c))],fun _=>[(0,.box (.d (.agg [I a0,I a1,B a2,B a3,I a4,I a5,I a6,.lst false 1 a7,.lst false 6 a8,.lst false 7 b])))],fun
 | (.inl e)=>.ret
 | (.inr e)=>(.exit 1),fun
 | (.inl e)=>[(6,.d (I e))]
 | (.inr e)=>[],fun _=>[]⟩
theorem Eh {n a0 a1 a2 a3 a4 a5 a6 a7 a8 d c}(e)(r)(h:VI n a0 a1 a2 a3 a4 a5 a6 a7 a8 d c e=some r):Rl (ZJ cx.P 78 0) 64 0 false (jS a0 a1 a2 a3 a4 a5 a6 a7 a8 d c) e r:=by
 unfold VI at h;obtain⟨a,h⟩|⟨a,h⟩:=io h
 ·have⟨ta2,ha2,h⟩:=bo h;have q:=allE Qr ha2 (Qa (jDj a) QL);obtain⟨b,h⟩|⟨b,h⟩:=io h
  ·cases h;exact rx 6 [b1,.el (Zy ta2),b1] [] [6] [] (Qa b q)
  have⟨ha4,h⟩:=gd h;cases h;exact rn 6 [b1,.el (Zy ta2),b0] [] [2,3,7] [0] (Qa ha4 (Qa (QA b) q))
 cases h;exact rx 6 [b0] [] [] [] (Qa (jEj a) QL)
def VH (n:Nat)(a0 a1:Int)(a2 a3:Bool)(a4 a5 a6:Int)(a7 a8 d:jVj)(b:jSj)(a:Int):Option (Int⊕Int⊕Unit) := if a<((a8).length:Int) then(el QM a8 a).bind fun c=>if(c.1.toList==b.toList)=true then some (.inr (.inl a)) else if Qh (a+1) then some (.inl (a+1)) else none else some (.inr (.inr ()))
noncomputable def jR (a0 a1:Int)(a2 a3:Bool)(a4 a5 a6:Int)(a7 a8 b:jVj)(a:jSj):Lp (Int) (Int⊕Unit):=⟨fun c=>[(2,.d (Qr5 a)),(3,.ptr 0 0 0 0 0),(8,.d (I c))],fun _=>[(0,.box (.d (.agg [I a0,I a1,B a2,B a3,I a4,I a5,I a6,.lst false 1 a7,.lst false 6 a8,.lst false 7 b])))],fun
 | (.inl e)=>.ret
 | (.inr e)=>(.exit 3),fun
 | (.inl e)=>[(6,.d (I e))]
 | (.inr e)=>[],fun _=>[]⟩
theorem Eg {n a0 a1 a2 a3 a4 a5 a6 a7 a8 d c}(e)(r)(h:VH n a0 a1 a2 a3 a4 a5 a6 a7 a8 d c e=some r):Rl (ZJ cx.P 78 1) 64 0 false (jR a0 a1 a2 a3 a4 a5 a6 a7 a8 d c) e r:=by
 unfold VH at h;obtain⟨a,h⟩|⟨a,h⟩:=io h
 ·have⟨ta2,ha2,h⟩:=bo h;have q:=allE Qq ha2 (Qa (jDj a) QL);let o(l:jOj):=b1::.el (QB ta2)::l;obtain⟨b,h⟩|⟨b,h⟩:=io h
  ·cases h;exact rx 8 (o [b1]) [] [6] [] (Qa b q)
  have⟨ha4,h⟩:=gd h;cases h;exact rn 8 (o [b0]) [] [2,3,8] [0] (Qa ha4 (Qa (QA b) q))
 cases h;exact rx 8 [b0] [] [] [] (Qa (jEj a) QL)
def VG (n:Nat)(a0 a1:Int)(a2 a3:Bool)(a4 a5 a6:Int)(a7 a8 d:jVj)(b:jSj)(a:Int):Option (Int⊕Int⊕Unit) := if a<((d).length:Int) then(el Z6 d a).bind fun c=>if(c.1.toList==b.toList)=true then some (.inr (.inl a)) else if Qh (a+1) then some (.inl (a+1)) else none else some (.inr (.inr ()))
noncomputable def jQ (a0 a1:Int)(a2 a3:Bool)(a4 a5 a6:Int)(a7 a8 b:jVj)(a:jSj):Lp (Int) (Int⊕Unit):=⟨fun c=>[(2,.d (Qr5 a)),(3,.ptr 0 0 0 0 0),(9,.d (I c))],fun _=>[(0,.box (.d (.agg [I a0,I a1,B a2,B a3,I a4,I a5,I a6,.lst false 1 a7,.lst false 6 a8,.lst false 7 b])))],fun
 | (.inl e)=>.ret
 | (.inr e)=>(.exit 5),fun
 | (.inl e)=>[(6,.d (I e))]
 | (.inr e)=>[],fun _=>[]⟩
theorem Ef {n a0 a1 a2 a3 a4 a5 a6 a7 a8 d c}(e)(r)(h:VG n a0 a1 a2 a3 a4 a5 a6 a7 a8 d c e=some r):Rl (ZJ cx.P 78 2) 64 0 false (jQ a0 a1 a2 a3 a4 a5 a6 a7 a8 d c) e r:=by
 unfold VG at h;obtain⟨a,h⟩|⟨a,h⟩:=io h
 ·have⟨ta2,ha2,h⟩:=bo h;have q:=allE Q0 ha2 (Qa (jDj a) QL);obtain⟨b,h⟩|⟨b,h⟩:=io h
  ·cases h;exact rx 10 [b1,.el (Q7 ta2),b1] [] [6] [] (Qa b q)
  have⟨ha4,h⟩:=gd h;cases h;exact rn 10 [b1,.el (Q7 ta2),b0] [] [2,3,9] [0] (Qa ha4 (Qa (QA b) q))
 cases h;exact rx 10 [b0] [] [] [] (Qa (jEj a) QL)
def WW (n:Nat)(a0 a1:Int)(a2 a3:Bool)(a4 a5 a6:Int)(a7 a8 f:jVj)(a:Int)(b:jSj):Option (Int) := if a=115 then(Q2 (VI n a0 a1 a2 a3 a4 a5 a6 a7 a8 f b) n 0).bind fun c=>match c with|.inl c=>(some c)|.inr c=>(some (-1)) else if a=109 then(Q2 (VH n a0 a1 a2 a3 a4 a5 a6 a7 a8 f b) n 0).bind fun d=>match d with|.inl d=>(some d)|.inr d=>(some (-1)) else if a=111 then(Q2 (VG n a0 a1 a2 a3 a4 a5 a6 a7 a8 f b) n 0).bind fun e=>match e with|.inl e=>(some e)|.inr e=>(some (-1)) else some (-1)
theorem K9 {n a0 a1 a2 a3 a4 a5 a6 a7 a8 k c e r}(h:WW n a0 a1 a2 a3 a4 a5 a6 a7 a8 k c e=some r):Computes cx 78 [.agg [I a0,I a1,B a2,B a3,I a4,I a5,I a6,.lst false 1 a7,.lst false 6 a8,.lst false 7 k],.v (.int .u8 c),Qr5 e] (I r):=by
 unfold WW at h;obtain⟨j,h⟩|⟨j,h⟩:=io h
 ·have q:=Qa (eqt j) QL;have⟨f,a,h⟩:=bo h;obtain f|f:=f
  ·obtain rfl:=oi h;exact rf [b1,.lp [] [2,3,7] [0] .ret [(6,.d (I f))] [] 32] (Qa (QH Eh a) q)
  cases h;exact rf [b1,.lp [] [2,3,7] [0] (.exit 1) [] [] 32] (Qa (QH Eh a) q)
 have q:=Qa (eqf j) QL;obtain⟨a,h⟩|⟨a,h⟩:=io h
 ·have q:=Qa (eqt a) q;have⟨g,b,h⟩:=bo h;obtain g|g:=g
  ·obtain rfl:=oi h;exact rf [b0,b1,.lp [] [2,3,8] [0] .ret [(6,.d (I g))] [] 35] (Qa (QH Eg b) q)
  cases h;exact rf [b0,b1,.lp [] [2,3,8] [0] (.exit 3) [] [] 35] (Qa (QH Eg b) q)
 have q:=Qa (eqf a) q;obtain⟨b,h⟩|⟨b,h⟩:=io h
 ·have q:=Qa (eqt b) q;have⟨i,h4,h⟩:=bo h;obtain i|i:=i
  ·obtain rfl:=oi h;exact rf [b0,b0,b1,.lp [] [2,3,9] [0] .ret [(6,.d (I i))] [] 37] (Qa (QH Ef h4) q)
  cases h;exact rf [b0,b0,b1,.lp [] [2,3,9] [0] (.exit 5) [] [] 37] (Qa (QH Ef h4) q)
 cases h;exact rf [b0,b0,b0] (Qa (eqf b) q)
def Qj (n:Nat)(a0 a1:Int)(a2 a3:Bool)(a4 a5 a6:Int)(a7 a8 k:jVj)(g:Int)(h:jSj)(c i:jVj)(j:jSj)(f:jSj×Int×Bool)(a:Int):Option (Int⊕Unit⊕Unit) := if a<(f.1.size:Int) then(WQ f.1 a).bind fun b=>if b>=97 then(el Ww c a).bind fun d=>(WW n a0 a1 a2 a3 a4 a5 a6 a7 a8 k b d).bind fun e=>if e<0 then some (.inr (.inl ())) else if Qh (a+1) then some (.inl (a+1)) else none else if Qh (a+1) then some (.inl (a+1)) else none else some (.inr (.inr ()))
noncomputable def G7 (a0 a1:Int)(a2 a3:Bool)(a4 a5 a6:Int)(a7 a8 h:jVj)(a:Int)(b:jSj)(c f:jVj)(g:jSj)(i:jSj×Int×Bool):Lp (Int) (Unit⊕Unit):=⟨fun j=>[(2,.ptr 0 0 0 0 0),(3,.ptr 1 0 0 0 0),(5,.d (Qr5 i.1)),(6,.d (I j))],fun _=>[(0,.box (.d (.agg [I a0,I a1,B a2,B a3,I a4,I a5,I a6,.lst false 1 a7,.lst false 6 a8,.lst false 7 h]))),(1,.box (.d (.agg [I a,Qr5 b,.lst false 1 c,.lst false 1 f,Qr5 g])))],fun
 | (.inl e)=>.ret
 | (.inr e)=>(.exit 0),fun
 | (.inl e)=>[(4,.d (I 10))]
 | (.inr e)=>[(2,.ptr 0 0 0 0 0),(3,.ptr 1 0 0 0 0),(5,.d (Qr5 i.1))],fun
 | (.inl e)=>[]
 | (.inr e)=>[(0,.box (.d (.agg [I a0,I a1,B a2,B a3,I a4,I a5,I a6,.lst false 1 a7,.lst false 6 a8,.lst false 7 h]))),(1,.box (.d (.agg [I a,Qr5 b,.lst false 1 c,.lst false 1 f,Qr5 g])))]⟩
theorem Uv {n a0 a1 a2 a3 a4 a5 a6 a7 a8 p d e f g i m}(k)(r)(h:Qj n a0 a1 a2 a3 a4 a5 a6 a7 a8 p d e f g i m k=some r):Rl (ZJ cx.P 168 0) 55 0 false (G7 a0 a1 a2 a3 a4 a5 a6 a7 a8 p d e f g i m) k r:=by
 unfold Qj at h;obtain⟨a,h⟩|⟨a,h⟩:=io h
 ·have⟨ta2,j,h⟩:=bo h;have q:=Qa (Zq j:QV cx.P (Instr.index 9 (.string m.1) (.int .i64 k))=some (.int .u8 ta2)) (Qa (jDj a) QL);let o(l:jOj):=b1::.el (.v (.int .u8 ta2))::l;obtain⟨b,h⟩|⟨b,h⟩:=io h
  ·have⟨ta4,ha4,h⟩:=bo h;have⟨ta5,ha5,h⟩:=bo h;have q:=Qa (K9 ha5) (allE Qr ha4 (Qa (Zq j:QV cx.P (Instr.index 9 (.string m.1) (.int .i64 k))=some (.int .u8 ta2)) (Qa (jDj b) q)));let o l:=o (b1::.el (.v (.int .u8 ta2))::.el (Zy ta4)::.ret (I ta5)::l);obtain⟨c,h⟩|⟨c,h⟩:=io h
   ·cases h;exact rx 9 (o [b1]) [] [4] [] (Qa (jDj c) q)
   have⟨ha7,h⟩:=gd h;cases h;exact rn 9 (o [b0]) [] [2,3,5,6] [0,1] (Qa ha7 (Qa (jEj c) q))
  have⟨ha4,h⟩:=gd h;cases h;exact rn 9 (o [b0,.no]) [] [2,3,5,6] [0,1] (Qa ha4 (Qa (jEj b) q))
 cases h;exact rx 9 [b0] [] [2,3,5] [0,1] (Qa (jEj a) QL)
def QW (n:Nat)(a0 a1:Int)(a2 a3:Bool)(a4 a5 a6:Int)(a7 a8 h:jVj)(c:Int)(a:jSj)(b d:jVj)(e:jSj):Option (Int) := (Q1 n a).bind fun f=>(Q2 (Qj n a0 a1 a2 a3 a4 a5 a6 a7 a8 h c a b d e f) n 0).bind fun g=>match g with|.inl g=>(some 10)|.inr g=>(if(f.1.size:Int)>0 then(WQ f.1 0).bind fun i=>if i<97 then(el Ww b 0).bind fun j=>(WW n a0 a1 a2 a3 a4 a5 a6 a7 a8 h (IntKind.wrap .u8 ((IntKind.wrap .u8 (i+97)) - 65)) j).bind fun k=>if k>=0 then some 9 else some 0 else some 0 else some 0)
theorem EP {n a0 a1 a2 a3 a4 a5 a6 a7 a8 g a b c e f r}(h:QW n a0 a1 a2 a3 a4 a5 a6 a7 a8 g a b c e f=some r):Computes cx 168 [.agg [I a0,I a1,B a2,B a3,I a4,I a5,I a6,.lst false 1 a7,.lst false 6 a8,.lst false 7 g],.agg [I a,Qr5 b,.lst false 1 c,.lst false 1 e,Qr5 f]] (I r):=by
 unfold QW at h;have⟨t1,h1,h⟩:=bo h;have q:=Qa (qq h1) QL;let o(l:jOj):=.ret (.agg [Qr5 t1.1,I t1.2.1,B t1.2.2])::l;have⟨m,h2,h⟩:=bo h;obtain m|m:=m
 ·obtain rfl:=oi h;exact rf (o [.lp [] [2,3,5,6] [0,1] .ret [(4,.d (I 10))] [] 44]) (Qa (QH Uv h2) q)
 have q:=Qa (QH Uv h2) q;let o l:=o (.lp [] [2,3,5,6] [0,1] (.exit 0) [(2,.ptr 0 0 0 0 0),(3,.ptr 1 0 0 0 0),(5,.d (Qr5 t1.1))] [(0,.box (.d (.agg [I a0,I a1,B a2,B a3,I a4,I a5,I a6,.lst false 1 a7,.lst false 6 a8,.lst false 7 g]))),(1,.box (.d (.agg [I a,Qr5 b,.lst false 1 c,.lst false 1 e,Qr5 f])))] 44::l);obtain⟨i,h⟩|⟨i,h⟩:=io h
 ·have⟨t4,p,h⟩:=bo h;have q:=Qa (Zq p:QV cx.P (Instr.index 9 (.string t1.1) (.int .i64 0))=some (.int .u8 t4)) (Qa (jDj i) q);let o l:=o (b1::.el (.v (.int .u8 t4))::l);obtain⟨j,h⟩|⟨j,h⟩:=io h
  ·have⟨t6,h6,h⟩:=bo h;have⟨t7,h7,h⟩:=bo h;have q:=Qa (K9 h7) (allE Qr h6 (Qa (Zq p:QV cx.P (Instr.index 9 (.string t1.1) (.int .i64 0))=some (.int .u8 t4)) (Qa (jDj j) q)));let o l:=o (b1::.el (.v (.int .u8 t4))::.el (Zy t6)::.ret (I t7)::l);obtain⟨k,h⟩|⟨k,h⟩:=io h
   ·obtain rfl:=oi h;exact rf (o [b1]) (Qa (jDj k) q)
   obtain rfl:=oi h;exact rf (o [b0]) (Qa (jEj k) q)
  obtain rfl:=oi h;exact rf (o [b0,.no]) (Qa (jEj j) q)
 obtain rfl:=oi h;exact rf (o [b0,.no,.no]) (Qa (jEj i) q)
def Vg (n:Nat)(a0 a1:Int)(a2 a3:Bool)(a4 a5 a6:Int)(a7 a8 c:jVj)(a:(Int×jVj)):Option (Int×jVj⊕jVj) := if a.1<((a8).length:Int) then(el QM a8 a.1).bind fun b=>if b.2.2.2.2.2=true then if Wa 16 ((a.2).length+1) then if Qh (a.1+1) then some (.inl ((a.1+1),(a.2++([.v (.string b.1)]:jVj)))) else none else none else if Qh (a.1+1) then some (.inl ((a.1+1),a.2)) else none else some (.inr a.2)
noncomputable def zn (a0 a1:Int)(a2 a3:Bool)(a4 a5 a6:Int)(a7 a8 b:jVj):Lp (Int×jVj) (jVj):=⟨fun a=>[(1,.ptr 0 0 0 0 0),(3,.own 4 0),(4,.d (I a.1))],fun a=>[(0,.box (.d (.agg [I a0,I a1,B a2,B a3,I a4,I a5,I a6,.lst false 1 a7,.lst false 6 a8,.lst false 7 b]))),(4,.row 0 1 a.2)],fun _=>(.exit 0),fun _=>[(3,.own 4 0)],fun e=>[(4,.row 0 1 e)]⟩
theorem zh {n a0 a1 a2 a3 a4 a5 a6 a7 a8 c}(d)(r)(h:Vg n a0 a1 a2 a3 a4 a5 a6 a7 a8 c d=some r):Rl (ZJ cx.P 80 0) 28 0 false (zn a0 a1 a2 a3 a4 a5 a6 a7 a8 c) d r:=by
 unfold Vg at h;obtain⟨a,h⟩|⟨a,h⟩:=io h
 ·have⟨ta2,ha2,h⟩:=bo h;have q:=allE Qq ha2 (Qa (jDj a) QL);let o(l:jOj):=b1::.el (QB ta2)::l;obtain⟨b,h⟩|⟨b,h⟩:=io h
  ·have⟨ha4,h⟩:=gd h;have⟨ha5,h⟩:=gd h;cases h;exact rn 5 (o [b1,.el (QB ta2),b1]) [] [1,3,4] [0,4] (Qa ha5 (Qa (ro 9 ha4) (allE Qq ha2 (Qa b q))))
  have⟨ha4,h⟩:=gd h;cases h;exact rn 5 (o [b0]) [] [1,3,4] [0,4] (Qa ha4 (Qa (QA b) q))
 cases h;exact rx 5 [b0] [] [3] [4] (Qa (jEj a) QL)
def V4 (n:Nat)(a0 a1:Int)(a2 a3:Bool)(a4 a5 a6:Int)(a7 a8 a:jVj):Option (jVj) := (Q2 (Vg n a0 a1 a2 a3 a4 a5 a6 a7 a8 a) n (0,[])).bind fun b=>some b
theorem Ec {n a0 a1 a2 a3 a4 a5 a6 a7 a8 a r}(h:V4 n a0 a1 a2 a3 a4 a5 a6 a7 a8 a=some r):Computes cx 80 [.agg [I a0,I a1,B a2,B a3,I a4,I a5,I a6,.lst false 1 a7,.lst false 6 a8,.lst false 7 a]] (.lst false 1 r):=by unfold V4 at h;have⟨t1,h1,h⟩:=bo h;obtain rfl:=oi h;exact rf [.lp [3,1] [1,3,4] [0,4] (.exit 0) [(3,.own 4 0)] [(4,.row 0 1 t1)] 40] (Qa (QH zh h1) QL)
theorem JJ {n a0 a1 a2 a3 a4 a5 a6 r}(h:Zg n a0 a1 a2 a3 a4 a5 a6=some r):Computes cx 81 [.agg [Qr5 a0,I a1,I a2,I a3,I a4,I a5,B a6]] (I r):=by unfold Zg at h;have⟨h1,h⟩:=gd h;cases h;exact rf [] (Qa h1 QL)
theorem qr {n a0 a1 a2 a3 a4 a5 a6 r}(h:Wv n a0 a1 a2 a3 a4 a5 a6=some r):Computes cx 194 [.agg [Qr5 a0,I a1,I a2,I a3,I a4,I a5,B a6]] (I r):=by unfold Wv at h;have⟨h1,h⟩:=gd h;have⟨h2,h⟩:=gd h;have⟨t3,h3,h⟩:=bo h;have⟨h4,h⟩:=gd h;have⟨h5,h⟩:=gd h;cases h;exact rf [.ret (I t3)] (Qa h5 (Qa h4 (Qa (JJ h3) (Qa h2 (Qa h1 QL)))))
def WU (n:Nat)(a0 a1:Int)(a2 a3:Bool)(a4 a5 a6:Int)(a7 a8 h:jVj)(c:Int)(d:jSj)(e f:jVj)(g:jSj)(i:Int)(j:Int×Int×Int)(a:(Int×jVj)):Option (Int×jVj⊕jVj) := if a.1<((a.2).length:Int) then if 0<=a.1/\a.1<((a.2).length:Int) then((nth (a.2) (Int.toNat a.1)).bind QM).bind fun b=>if Qh (a.1+1) then some (.inl ((a.1+1),(List.set a.2 (Int.toNat a.1) (.agg [.v (.string b.1),.v (.string b.2.1),I b.2.2.1,I b.2.2.2.1,B b.2.2.2.2.1,B false]:D)))) else none else none else some (.inr a.2)
noncomputable def zm (a0 a1:Int)(a2 a3:Bool)(a4 a5 a6:Int)(a7 a8 j:jVj)(b:Int)(c:jSj)(f g:jVj)(h:jSj)(i:Int)(a:Int×Int×Int):Lp (Int×jVj) (jVj):=⟨fun k=>[(1,.d (Qr5 ⟨#[]⟩)),(2,.d (B true)),(3,.ptr 109 0 0 0 0),(6,.ptr 110 0 0 0 0),(7,.d (I k.1))],fun k=>[(0,.box (.d (.agg [I a0,I a1,B a2,B a3,I a4,I a5,I a6,.lst false 1 a7,.lst false 6 a8,.lst false 7 j]))),(1,.box (.d (.agg [I b,Qr5 c,.lst false 1 f,.lst false 1 g,Qr5 h]))),(2,.box (.d Qr7)),(20,.box (.d (.agg [I a.1,I a.2.1]))),(33,.box (.agg [.d (I i),.d (I a1),.d (B a2),.d (B a3),.d (I a.1),.d (I a.2.1),.d (I a6),.own 40 0,.own 46 0,.own 52 0])),(35,.box (.agg [.d (I a0),.d (I a1),.d (B a2),.d (B a3),.d (I a4),.d (I a5),.d (I a6),.own 40 0,.own 46 0,.own 52 0])),(36,.box (.agg [.d (I a0),.d (I a1),.d (B a2),.d (B a3),.d (I a4),.d (I a5),.d (I a6),.own 40 0,.own 46 0,.own 52 0])),(40,.row 0 1 a7),(46,.row 0 6 k.2),(52,.row 0 7 j),(88,.box (.agg [.d (I i),.d (I a1),.d (B a2),.d (B true),.d (I a.1),.d (I a.2.1),.d (I a6),.own 40 0,.own 46 0,.own 52 0])),(89,.box (.d (.agg [I b,Qr5 c,.lst false 1 f,.lst false 1 g,Qr5 h]))),(90,.box (.d Qr7)),(109,.box (.agg [.d (I i),.d (I a1),.d (B a2),.d (B true),.d (I a.1),.d (I a.2.1),.d (I a6),.own 40 0,.own 46 0,.own 52 0])),(110,.box (.d Qr7))],fun _=>(.exit 0),fun _=>[(3,.ptr 109 0 0 0 0),(6,.ptr 110 0 0 0 0)],fun e=>[(0,.box (.d (.agg [I a0,I a1,B a2,B a3,I a4,I a5,I a6,.lst false 1 a7,.lst false 6 a8,.lst false 7 j]))),(1,.box (.d (.agg [I b,Qr5 c,.lst false 1 f,.lst false 1 g,Qr5 h]))),(2,.box (.d Qr7)),(20,.box (.d (.agg [I a.1,I a.2.1]))),(33,.box (.agg [.d (I i),.d (I a1),.d (B a2),.d (B a3),.d (I a.1),.d (I a.2.1),.d (I a6),.own 40 0,.own 46 0,.own 52 0])),(35,.box (.agg [.d (I a0),.d (I a1),.d (B a2),.d (B a3),.d (I a4),.d (I a5),.d (I a6),.own 40 0,.own 46 0,.own 52 0])),(36,.box (.agg [.d (I a0),.d (I a1),.d (B a2),.d (B a3),.d (I a4),.d (I a5),.d (I a6),.own 40 0,.own 46 0,.own 52 0])),(40,.row 0 1 a7),(46,.row 0 6 e),(52,.row 0 7 j),(88,.box (.agg [.d (I i),.d (I a1),.d (B a2),.d (B true),.d (I a.1),.d (I a.2.1),.d (I a6),.own 40 0,.own 46 0,.own 52 0])),(89,.box (.d (.agg [I b,Qr5 c,.lst false 1 f,.lst false 1 g,Qr5 h]))),(90,.box (.d Qr7)),(109,.box (.agg [.d (I i),.d (I a1),.d (B a2),.d (B true),.d (I a.1),.d (I a.2.1),.d (I a6),.own 40 0,.own 46 0,.own 52 0])),(110,.box (.d Qr7))]⟩
theorem zg {n a0 a1 a2 a3 a4 a5 a6 a7 a8 g b c d e f j k}(i)(r)(h:WU n a0 a1 a2 a3 a4 a5 a6 a7 a8 g b c d e f j k i=some r):Rl (ZJ cx.P 193 0) 32 109 false (zm a0 a1 a2 a3 a4 a5 a6 a7 a8 g b c d e f j k) i r:=by
 unfold WU at h;obtain⟨a,h⟩|⟨a,h⟩:=io h
 ·have⟨ha2,h⟩:=gd h;have⟨ta3,ha3,h⟩:=bo h;have⟨ha4,h⟩:=gd h;cases h;exact rn 112 [b1,.no,.no,b1,.el (QB ta3)] [] [1,2,3,6,7] [0,1,2,20,33,35,36,40,46,52,88,89,90,109,110] (Qa ha4 (Qa (QX Qq ha3) (Qa ha2 (Qa (jDj a) QL))))
 cases h;exact rx 112 [b0] [] [3,6] [0,1,2,20,33,35,36,40,46,52,88,89,90,109,110] (Qa (jEj a) QL)
def WT (n:Nat)(a0 a1:Int)(a2 a3:Bool)(a4 a5 a6:Int)(a7 a8 i:jVj)(d:Int)(e:jSj)(f g:jVj)(h:jSj)(j:Int)(k:Int×Int×Int)(c:jSj)(a:(Int×jVj)):Option (Int×jVj⊕jVj) := if a.1<((a.2).length:Int) then if 0<=a.1/\a.1<((a.2).length:Int) then((nth (a.2) (Int.toNat a.1)).bind QM).bind fun b=>if(b.2.1.toList==c.toList)=true then if Qh (a.1+1) then some (.inl ((a.1+1),(List.set a.2 (Int.toNat a.1) (.agg [.v (.string b.1),.v (.string b.2.1),I b.2.2.1,I b.2.2.2.1,B b.2.2.2.2.1,B false]:D)))) else none else if Qh (a.1+1) then some (.inl ((a.1+1),a.2)) else none else none else some (.inr a.2)
noncomputable def zl (a0 a1:Int)(a2 a3:Bool)(a4 a5 a6:Int)(a7 a8 j:jVj)(b:Int)(c:jSj)(f g:jVj)(h:jSj)(i:Int)(a:Int×Int×Int)(l:jSj):Lp (Int×jVj) (jVj):=⟨fun k=>[(1,.d (Qr5 l)),(2,.d (B false)),(3,.ptr 119 0 0 0 0),(6,.ptr 120 0 0 0 0),(7,.d (I k.1))],fun k=>[(0,.box (.d (.agg [I a0,I a1,B a2,B a3,I a4,I a5,I a6,.lst false 1 a7,.lst false 6 a8,.lst false 7 j]))),(1,.box (.d (.agg [I b,Qr5 c,.lst false 1 f,.lst false 1 g,Qr5 h]))),(2,.box (.d Qr7)),(20,.box (.d (.agg [I a.1,I a.2.1]))),(33,.box (.agg [.d (I i),.d (I a1),.d (B a2),.d (B a3),.d (I a.1),.d (I a.2.1),.d (I a6),.own 40 0,.own 46 0,.own 52 0])),(35,.box (.agg [.d (I a0),.d (I a1),.d (B a2),.d (B a3),.d (I a4),.d (I a5),.d (I a6),.own 40 0,.own 46 0,.own 52 0])),(36,.box (.agg [.d (I a0),.d (I a1),.d (B a2),.d (B a3),.d (I a4),.d (I a5),.d (I a6),.own 40 0,.own 46 0,.own 52 0])),(40,.row 0 1 a7),(46,.row 0 6 k.2),(52,.row 0 7 j),(96,.box (.agg [.d (I i),.d (I a1),.d (B a2),.d (B a3),.d (I a.1),.d (I a.2.1),.d (I a6),.own 40 0,.own 46 0,.own 52 0])),(97,.box (.d (.agg [I b,Qr5 c,.lst false 1 f,.lst false 1 g,Qr5 h]))),(98,.box (.d Qr7)),(119,.box (.agg [.d (I i),.d (I a1),.d (B a2),.d (B a3),.d (I a.1),.d (I a.2.1),.d (I a6),.own 40 0,.own 46 0,.own 52 0])),(120,.box (.d Qr7))],fun _=>(.exit 0),fun _=>[(3,.ptr 119 0 0 0 0),(6,.ptr 120 0 0 0 0)],fun e=>[(0,.box (.d (.agg [I a0,I a1,B a2,B a3,I a4,I a5,I a6,.lst false 1 a7,.lst false 6 a8,.lst false 7 j]))),(1,.box (.d (.agg [I b,Qr5 c,.lst false 1 f,.lst false 1 g,Qr5 h]))),(2,.box (.d Qr7)),(20,.box (.d (.agg [I a.1,I a.2.1]))),(33,.box (.agg [.d (I i),.d (I a1),.d (B a2),.d (B a3),.d (I a.1),.d (I a.2.1),.d (I a6),.own 40 0,.own 46 0,.own 52 0])),(35,.box (.agg [.d (I a0),.d (I a1),.d (B a2),.d (B a3),.d (I a4),.d (I a5),.d (I a6),.own 40 0,.own 46 0,.own 52 0])),(36,.box (.agg [.d (I a0),.d (I a1),.d (B a2),.d (B a3),.d (I a4),.d (I a5),.d (I a6),.own 40 0,.own 46 0,.own 52 0])),(40,.row 0 1 a7),(46,.row 0 6 e),(52,.row 0 7 j),(96,.box (.agg [.d (I i),.d (I a1),.d (B a2),.d (B a3),.d (I a.1),.d (I a.2.1),.d (I a6),.own 40 0,.own 46 0,.own 52 0])),(97,.box (.d (.agg [I b,Qr5 c,.lst false 1 f,.lst false 1 g,Qr5 h]))),(98,.box (.d Qr7)),(119,.box (.agg [.d (I i),.d (I a1),.d (B a2),.d (B a3),.d (I a.1),.d (I a.2.1),.d (I a6),.own 40 0,.own 46 0,.own 52 0])),(120,.box (.d Qr7))]⟩
theorem zf {n a0 a1 a2 a3 a4 a5 a6 a7 a8 j c d e f g m p i}(k)(r)(h:WT n a0 a1 a2 a3 a4 a5 a6 a7 a8 j c d e f g m p i k=some r):Rl (ZJ cx.P 193 0) 32 119 false (zl a0 a1 a2 a3 a4 a5 a6 a7 a8 j c d e f g m p i) k r:=by
 unfold WT at h;obtain⟨a,h⟩|⟨a,h⟩:=io h
 ·have⟨ha2,h⟩:=gd h;have⟨ta3,ha3,h⟩:=bo h;have q:=Qa (QX Qq ha3) (Qa ha2 (Qa (jDj a) QL));let o(l:jOj):=b1::.no::b1::.el (QB ta3)::l;obtain⟨b,h⟩|⟨b,h⟩:=io h
  ·have⟨ha5,h⟩:=gd h;cases h;exact rn 122 (o [b1,b1,.el (QB ta3)]) [] [1,2,3,6,7] [0,1,2,20,33,35,36,40,46,52,96,97,98,119,120] (Qa ha5 (Qa (QX Qq ha3) (Qa ha2 (Qa b q))))
  have⟨ha5,h⟩:=gd h;cases h;exact rn 122 (o [b0]) [] [1,2,3,6,7] [0,1,2,20,33,35,36,40,46,52,96,97,98,119,120] (Qa ha5 (Qa (QA b) q))
 cases h;exact rx 122 [b0] [] [3,6] [0,1,2,20,33,35,36,40,46,52,96,97,98,119,120] (Qa (jEj a) QL)
def QZ (n:Nat)(a0 a1:Int)(a2 a3:Bool)(a4 a5 a6:Int)(a7 a8 d:jVj)(p:Int)(g:jSj)(j i:jVj)(q:jSj):Option (Int×Int×Bool×Bool×Int×Int×Int×jVj×jVj×jVj×Int) := (el Vt i 0).bind fun e=>if e<a0 then some (a0,a1,a2,a3,a4,a5,a6,a7,a8,d,22) else(Vp n a0 a1 a2 a3 a4 a5 a6 a7 a8 d e).bind fun a=>if a.2.2=0 then(QW n a0 a1 a2 a3 a4 a5 a6 a7 a8 d p g j i q).bind fun A=>if A=0 then if Wa 16 (0+(a7).length) then if Wa 56 (0+(a8).length) then if Wa 64 (0+(d).length) then if(g.toList==(⟨#[115,117,110]⟩:jSj).toList)=true then(el Vt i 1).bind fun s=>if s>1000 then some (e,a1,a2,a3,a.1,a.2.1,a6,a7,a8,d,3) else some (e,s,a2,a3,a.1,a.2.1,a6,a7,a8,d,0) else if(g.toList==(⟨#[102,105,108,108]⟩:jSj).toList)=true then if a2=true then some (e,a1,a2,a3,a.1,a.2.1,a6,a7,a8,d,9) else some (e,a1,true,a3,a.1,a.2.1,a6,a7,a8,d,0) else if(g.toList==(⟨#[100,114,97,105,110]⟩:jSj).toList)=true then if a2=true then(V4 n e a1 a2 a3 a.1 a.2.1 a6 a7 a8 d).bind fun u=>if((u).length:Int)>0 then some (e,a1,a2,a3,a.1,a.2.1,a6,a7,a8,d,31) else some (e,a1,false,a3,a.1,a.2.1,a6,a7,a8,d,0) else some (e,a1,a2,a3,a.1,a.2.1,a6,a7,a8,d,22) else if(g.toList==(⟨#[116,114,105,112]⟩:jSj).toList)=true then if a3=true then some (e,a1,a2,a3,a.1,a.2.1,a6,a7,a8,d,9) else(Q2 (WU n a0 a1 a2 a3 a4 a5 a6 a7 a8 d p g j i q e a) n (0,a8)).bind fun x=>some (e,a1,a2,true,a.1,a.2.1,a6,a7,x,d,0) else if(g.toList==(⟨#[114,101,115,101,116]⟩:jSj).toList)=true then if a3=true then some (e,a1,a2,false,a.1,a.2.1,a6,a7,a8,d,0) else some (e,a1,a2,a3,a.1,a.2.1,a6,a7,a8,d,22) else if(g.toList==(⟨#[111,102,102,101,114]⟩:jSj).toList)=true then(el Vt i 1).bind fun r=>if r<e then some (e,a1,a2,a3,a.1,a.2.1,a6,a7,a8,d,14) else(el Vt i 2).bind fun k=>if r>=k then some (e,a1,a2,a3,a.1,a.2.1,a6,a7,a8,d,14) else(el Vt i 3).bind fun c=>(Wt n c 1 1000).bind fun f=>if f=true then some (e,a1,a2,a3,a.1,a.2.1,a6,a7,a8,d,3) else(el Vt i 4).bind fun t=>if t>1000 then some (e,a1,a2,a3,a.1,a.2.1,a6,a7,a8,d,3) else if((d).length:Int)>=32 then some (e,a1,a2,a3,a.1,a.2.1,a6,a7,a8,d,5) else(el Ww j 0).bind fun o=>if Wa 64 ((d).length+1) then some (e,a1,a2,a3,a.1,a.2.1,a6,a7,a8,(d++([.agg [.v (.string o),I r,I k,I c,I t,I 0,B false]]:jVj)),0) else none else if(g.toList==(⟨#[100,101,108,105,118,101,114]⟩:jSj).toList)=true then(el Ww j 0).bind fun y=>(WW n e a1 a2 a3 a.1 a.2.1 a6 a7 a8 d 111 y).bind fun k=>if 0<=k/\k<((d).length:Int) then((nth (d) (Int.toNat k)).bind Z6).bind fun c=>if c.2.2.2.2.2.2=true then some (e,a1,a2,a3,a.1,a.2.1,a6,a7,a8,d,23) else if(g.toList==(⟨#[98,105,108,108]⟩:jSj).toList)=true then if e<c.2.2.1 then some (e,a1,a2,a3,a.1,a.2.1,a6,a7,a8,d,32) else(Wv n c.1 c.2.1 c.2.2.1 c.2.2.2.1 c.2.2.2.2.1 c.2.2.2.2.2.1 c.2.2.2.2.2.2).bind fun b=>if Qh (a6+b) then some (e,a1,a2,a3,a.1,a.2.1,(a6+b),a7,a8,(List.set d (Int.toNat k) (.agg [.v (.string c.1),I c.2.1,I c.2.2.1,I c.2.2.2.1,I c.2.2.2.2.1,I c.2.2.2.2.2.1,B true]:D)),0) else none else if e<c.2.1 then some (e,a1,a2,a3,a.1,a.2.1,a6,a7,a8,d,14) else if e>=c.2.2.1 then some (e,a1,a2,a3,a.1,a.2.1,a6,a7,a8,d,14) else(el Vt i 1).bind fun l=>if l=0 then some (e,a1,a2,a3,a.1,a.2.1,a6,a7,a8,d,3) else(Zg n c.1 c.2.1 c.2.2.1 c.2.2.2.1 c.2.2.2.2.1 c.2.2.2.2.2.1 c.2.2.2.2.2.2).bind fun z=>if l>z then some (e,a1,a2,a3,a.1,a.2.1,a6,a7,a8,d,20) else if Qh (l*1000000) then if(l*1000000)>a.2.1 then some (e,a1,a2,a3,a.1,a.2.1,a6,a7,a8,d,16) else if Qh (a.2.1 - (l*1000000)) then if Qh (c.2.2.2.2.2.1+l) then some (e,a1,a2,a3,a.1,(a.2.1 - (l*1000000)),a6,a7,a8,(List.set d (Int.toNat k) (.agg [.v (.string c.1),I c.2.1,I c.2.2.1,I c.2.2.2.1,I c.2.2.2.2.1,I (c.2.2.2.2.2.1+l),B c.2.2.2.2.2.2]:D)),0) else none else none else none else none else if(g.toList==(⟨#[98,105,108,108]⟩:jSj).toList)=true then(el Ww j 0).bind fun k=>(WW n e a1 a2 a3 a.1 a.2.1 a6 a7 a8 d 111 k).bind fun m=>if 0<=m/\m<((d).length:Int) then((nth (d) (Int.toNat m)).bind Z6).bind fun f=>if f.2.2.2.2.2.2=true then some (e,a1,a2,a3,a.1,a.2.1,a6,a7,a8,d,23) else if e<f.2.2.1 then some (e,a1,a2,a3,a.1,a.2.1,a6,a7,a8,d,32) else(Wv n f.1 f.2.1 f.2.2.1 f.2.2.2.1 f.2.2.2.2.1 f.2.2.2.2.2.1 f.2.2.2.2.2.2).bind fun b=>if Qh (a6+b) then some (e,a1,a2,a3,a.1,a.2.1,(a6+b),a7,a8,(List.set d (Int.toNat m) (.agg [.v (.string f.1),I f.2.1,I f.2.2.1,I f.2.2.2.1,I f.2.2.2.2.1,I f.2.2.2.2.2.1,B true]:D)),0) else none else none else if(g.toList==(⟨#[115,101,99,116,111,114]⟩:jSj).toList)=true then if((a7).length:Int)>=8 then some (e,a1,a2,a3,a.1,a.2.1,a6,a7,a8,d,5) else(el Ww j 0).bind fun c=>if Wa 16 ((a7).length+1) then some (e,a1,a2,a3,a.1,a.2.1,a6,(a7++([.v (.string c)]:jVj)),a8,d,0) else none else if(g.toList==(⟨#[109,105,114,114,111,114]⟩:jSj).toList)=true then(el Vt i 1).bind fun c=>(Wt n c 1 100).bind fun f=>if f=true then some (e,a1,a2,a3,a.1,a.2.1,a6,a7,a8,d,3) else if((a8).length:Int)>=32 then some (e,a1,a2,a3,a.1,a.2.1,a6,a7,a8,d,5) else(el Ww j 0).bind fun b=>(el Ww j 1).bind fun l=>if Wa 56 ((a8).length+1) then some (e,a1,a2,a3,a.1,a.2.1,a6,a7,(a8++([.agg [.v (.string b),.v (.string l),I c,I 0,B false,B false]]:jVj)),d,0) else none else if(g.toList==(⟨#[100,105,109]⟩:jSj).toList)=true then(el Ww j 0).bind fun f=>(Q2 (WT n a0 a1 a2 a3 a4 a5 a6 a7 a8 d p g j i q e a f) n (0,a8)).bind fun h=>some (e,a1,a2,a3,a.1,a.2.1,a6,a7,h,d,0) else(el Ww j 0).bind fun f=>(WW n e a1 a2 a3 a.1 a.2.1 a6 a7 a8 d 109 f).bind fun h=>if 0<=h/\h<((a8).length:Int) then((nth (a8) (Int.toNat h)).bind QM).bind fun b=>if(g.toList==(⟨#[115,111,105,108]⟩:jSj).toList)=true then(el Vt i 1).bind fun o=>if o>1000 then some (e,a1,a2,a3,a.1,a.2.1,a6,a7,a8,d,3) else if(Int.toNat h)<(a8).length then some (e,a1,a2,a3,a.1,a.2.1,a6,a7,(List.set a8 (Int.toNat h) (.agg [.v (.string b.1),.v (.string b.2.1),I b.2.2.1,I o,B b.2.2.2.2.1,B b.2.2.2.2.2]:D)),d,0) else none else if(g.toList==(⟨#[99,108,101,97,110]⟩:jSj).toList)=true then if(Int.toNat h)<(a8).length then some (e,a1,a2,a3,a.1,a.2.1,a6,a7,(List.set a8 (Int.toNat h) (.agg [.v (.string b.1),.v (.string b.2.1),I b.2.2.1,I 0,B b.2.2.2.2.1,B b.2.2.2.2.2]:D)),d,0) else none else if(g.toList==(⟨#[100,101,102,101,99,116]⟩:jSj).toList)=true then if b.2.2.2.2.1=true then some (e,a1,a2,a3,a.1,a.2.1,a6,a7,a8,d,9) else if b.2.2.2.2.2=true then some (e,a1,a2,a3,a.1,a.2.1,a6,a7,a8,d,31) else if(Int.toNat h)<(a8).length then some (e,a1,a2,a3,a.1,a.2.1,a6,a7,(List.set a8 (Int.toNat h) (.agg [.v (.string b.1),.v (.string b.2.1),I b.2.2.1,I b.2.2.2.1,B true,B b.2.2.2.2.2]:D)),d,0) else none else if(g.toList==(⟨#[114,101,112,97,105,114]⟩:jSj).toList)=true then if b.2.2.2.2.1=true then if(Int.toNat h)<(a8).length then some (e,a1,a2,a3,a.1,a.2.1,a6,a7,(List.set a8 (Int.toNat h) (.agg [.v (.string b.1),.v (.string b.2.1),I b.2.2.1,I b.2.2.2.1,B false,B b.2.2.2.2.2]:D)),d,0) else none else some (e,a1,a2,a3,a.1,a.2.1,a6,a7,a8,d,22) else if(g.toList==(⟨#[97,105,109]⟩:jSj).toList)=true then if a2=true then if a3=true then some (e,a1,a2,a3,a.1,a.2.1,a6,a7,a8,d,29) else if b.2.2.2.2.1=true then some (e,a1,a2,a3,a.1,a.2.1,a6,a7,a8,d,21) else if b.2.2.2.2.2=true then some (e,a1,a2,a3,a.1,a.2.1,a6,a7,a8,d,9) else if(Int.toNat h)<(a8).length then some (e,a1,a2,a3,a.1,a.2.1,a6,a7,(List.set a8 (Int.toNat h) (.agg [.v (.string b.1),.v (.string b.2.1),I b.2.2.1,I b.2.2.2.1,B b.2.2.2.2.1,B true]:D)),d,0) else none else some (e,a1,a2,a3,a.1,a.2.1,a6,a7,a8,d,30) else if b.2.2.2.2.2=true then if(Int.toNat h)<(a8).length then some (e,a1,a2,a3,a.1,a.2.1,a6,a7,(List.set a8 (Int.toNat h) (.agg [.v (.string b.1),.v (.string b.2.1),I b.2.2.1,I b.2.2.2.1,B b.2.2.2.2.1,B false]:D)),d,0) else none else some (e,a1,a2,a3,a.1,a.2.1,a6,a7,a8,d,22) else none else none else none else none else some (a0,a1,a2,a3,a4,a5,a6,a7,a8,d,A) else some (a0,a1,a2,a3,a4,a5,a6,a7,a8,d,a.2.2)
theorem J0 {n a0 a1 a2 a3 a4 a5 a6 a7 a8 O G H J K L r}(h:QZ n a0 a1 a2 a3 a4 a5 a6 a7 a8 O G H J K L=some r):Computes cx 76 [.agg [I a0,I a1,B a2,B a3,I a4,I a5,I a6,.lst false 1 a7,.lst false 6 a8,.lst false 7 O],.agg [I G,Qr5 H,.lst false 1 J,.lst false 1 K,Qr5 L]] (.tup [.agg [I r.1,I r.2.1,B r.2.2.1,B r.2.2.2.1,I r.2.2.2.2.1,I r.2.2.2.2.2.1,I r.2.2.2.2.2.2.1,.lst false 1 r.2.2.2.2.2.2.2.1,.lst false 6 r.2.2.2.2.2.2.2.2.1,.lst false 7 r.2.2.2.2.2.2.2.2.2.1],I r.2.2.2.2.2.2.2.2.2.2]):=by
 unfold QZ at h;have⟨t1,h1,h⟩:=bo h;have q:=allE Qi h1 QL;let o(l:jOj):=.el (Q3 t1)::l;obtain⟨Q,h⟩|⟨Q,h⟩:=io h
 ·cases h;exact rf (o [b1]) (Qa (jDj Q) q)
 have⟨t3,h3,h⟩:=bo h;have q:=Qa (K8 h3) (allE Qi h1 (Qa (jEj Q) q));let o l:=o (b0::.el (Q3 t1)::.ret (.tup [.agg [I t3.1,I t3.2.1],I t3.2.2])::l);obtain⟨P,h⟩|⟨P,h⟩:=io h
 ·have⟨t5,h5,h⟩:=bo h;have q:=Qa (EP h5) (Qa (eqt P) q);let o l:=o (b1::.ret (I t5)::l);obtain⟨S,h⟩|⟨S,h⟩:=io h
  ·have⟨h7,h⟩:=gd h;have⟨h8,h⟩:=gd h;have⟨h9,h⟩:=gd h;have q:=allE Qi h1 (Qa (ro 162 h9) (Qa (ro 164 h8) (Qa (ro 9 h7) (Qa (nef S) q))));let o l:=o (b0::b1::.ix (-8)::b1::.ix (-8)::b1::.ix (-8)::b1::.el (Q3 t1)::l);obtain⟨A,h⟩|⟨A,h⟩:=io h
   ·have⟨t11,v,h⟩:=bo h;have q:=allE Qi v (Qa A (Qa A (Qa A q)));let o l:=o (b1::b1::b1::b1::.el (Q3 t11)::l);obtain⟨j,h⟩|⟨j,h⟩:=io h
    ·cases h;exact rf (o [b1]) (Qa (jDj j) q)
    cases h;exact rf (o [b0,.el (Q3 t11)]) (allE Qi v (Qa (jEj j) q))
   have q:=Qa (QA A) q;let o l:=o (b0::l);obtain⟨v,h⟩|⟨v,h⟩:=io h
   ·have q:=Qa v (Qa (QA A) (Qa v (Qa v q)));let o l:=o (b1::b1::b1::b0::b1::l);obtain⟨j,h⟩|⟨j,h⟩:=io h
    ·cases h;exact rf (o [b1]) (Qa j q)
    cases h;exact rf (o [b0]) (Qa (QA j) q)
   have q:=Qa (QA v) q;let o l:=o (b0::l);obtain⟨j,h⟩|⟨j,h⟩:=io h
   ·have q:=Qa j (Qa (QA v) (Qa (QA A) (Qa j (Qa j q))));let o l:=o (b1::b1::b1::b0::b0::b1::l);obtain⟨x,h⟩|⟨x,h⟩:=io h
    ·have⟨t14,C,h⟩:=bo h;have q:=Qa (Ec C) (Qa (Ud x) q);let o l:=o (b0::.ret (.lst false 1 t14)::l);obtain⟨f,h⟩|⟨f,h⟩:=io h
     ·cases h;exact rf (o [b1]) (Qa (jDj f) q)
     cases h;exact rf (o [b0]) (Qa (jEj f) q)
    cases h;exact rf (o [b1]) (Qa (Uc (QA x)) q)
   have q:=Qa (QA j) q;let o l:=o (b0::l);obtain⟨x,h⟩|⟨x,h⟩:=io h
   ·have q:=Qa x (Qa (QA j) (Qa (QA v) (Qa (QA A) (Qa x (Qa x q)))));let o l:=o (b1::b1::b1::b0::b0::b0::b1::l);obtain⟨C,h⟩|⟨C,h⟩:=io h
    ·cases h;exact rf (o [b1]) (Qa C q)
    have⟨t15,f,h⟩:=bo h;cases h;exact rf (o [b0,b1,.lp [] [1,2,3,6,7] [0,1,2,20,33,35,36,40,46,52,88,89,90,109,110] (.exit 0) [(3,.ptr 109 0 0 0 0),(6,.ptr 110 0 0 0 0)] [(0,.box (.d (.agg [I a0,I a1,B a2,B a3,I a4,I a5,I a6,.lst false 1 a7,.lst false 6 a8,.lst false 7 O]))),(1,.box (.d (.agg [I G,Qr5 H,.lst false 1 J,.lst false 1 K,Qr5 L]))),(2,.box (.d Qr7)),(20,.box (.d (.agg [I t3.1,I t3.2.1]))),(33,.box (.agg [.d (I t1),.d (I a1),.d (B a2),.d (B a3),.d (I t3.1),.d (I t3.2.1),.d (I a6),.own 40 0,.own 46 0,.own 52 0])),(35,.box (.agg [.d (I a0),.d (I a1),.d (B a2),.d (B a3),.d (I a4),.d (I a5),.d (I a6),.own 40 0,.own 46 0,.own 52 0])),(36,.box (.agg [.d (I a0),.d (I a1),.d (B a2),.d (B a3),.d (I a4),.d (I a5),.d (I a6),.own 40 0,.own 46 0,.own 52 0])),(40,.row 0 1 a7),(46,.row 0 6 t15),(52,.row 0 7 O),(88,.box (.agg [.d (I t1),.d (I a1),.d (B a2),.d (B true),.d (I t3.1),.d (I t3.2.1),.d (I a6),.own 40 0,.own 46 0,.own 52 0])),(89,.box (.d (.agg [I G,Qr5 H,.lst false 1 J,.lst false 1 K,Qr5 L]))),(90,.box (.d Qr7)),(109,.box (.agg [.d (I t1),.d (I a1),.d (B a2),.d (B true),.d (I t3.1),.d (I t3.2.1),.d (I a6),.own 40 0,.own 46 0,.own 52 0])),(110,.box (.d Qr7))] 148]) (Qa (QH zg f) (Qa (QA C) q))
   have q:=Qa (QA x) q;let o l:=o (b0::l);obtain⟨C,h⟩|⟨C,h⟩:=io h
   ·have q:=Qa (QA x) (Qa (QA j) (Qa (QA v) (Qa (QA A) (Qa C q))));let o l:=o (b1::b1::b0::b0::b0::b0::l);obtain⟨f,h⟩|⟨f,h⟩:=io h
    ·cases h;exact rf (o [b0]) (Qa (Ud f) q)
    cases h;exact rf (o [b1]) (Qa (Uc (QA f)) q)
   have q:=Qa (QA C) q;let o l:=o (b0::l);obtain⟨f,h⟩|⟨f,h⟩:=io h
   ·have⟨t16,E,h⟩:=bo h;have q:=allE Qi h1 (allE Qi E (Qa f (Qa f (Qa f q))));let o l:=o (b1::b1::b1::b1::.el (Q3 t16)::.el (Q3 t1)::l);obtain⟨y,h⟩|⟨y,h⟩:=io h
    ·cases h;exact rf (o [b1,.no]) (Qa (jDj y) q)
    have⟨t18,z,h⟩:=bo h;have q:=allE Qi z (allE Qi E (Qa (jEj y) q));let o l:=o (b0::.el (Q3 t16)::.el (Q3 t18)::l);obtain⟨g,h⟩|⟨g,h⟩:=io h
    ·cases h;exact rf (o [b1]) (Qa (jDj g) q)
    have⟨t20,e,h⟩:=bo h;have⟨t21,i,h⟩:=bo h;have q:=Qa (V0 i) (allE Qi e (Qa (jEj g) q));let o l:=o (b0::.el (Q3 t20)::.ret (B t21)::l);obtain⟨b,h⟩|⟨b,h⟩:=io h
    ·cases h;exact rf (o [b1,.no]) (Qa b q)
    have⟨t23,a,h⟩:=bo h;have q:=allE Qi a (Qa (QA b) q);let o l:=o (b0::.el (Q3 t23)::l);obtain⟨k,h⟩|⟨k,h⟩:=io h
    ·cases h;exact rf (o [b1]) (Qa (jDj k) q)
    have q:=Qa (jEj k) q;obtain⟨c,h⟩|⟨c,h⟩:=io h
    ·cases h;exact rf (o [b0,b1]) (Qa (jDj c) q)
    have⟨t26,p,h⟩:=bo h;have⟨t,h⟩:=gd h;cases h;exact rf (o [b0,b0,.el (Zy t26),.el (Q3 t16),.el (Q3 t18),.el (Q3 t20),.el (Q3 t23),b1]) (Qa (ro 162 t) (allE Qi a (allE Qi e (allE Qi z (allE Qi E (allE Qr p (Qa (jEj c) q)))))))
   have q:=Qa (QA f) q;let o l:=o (b0::l);obtain⟨E,h⟩|⟨E,h⟩:=io h
   ·have⟨t17,y,h⟩:=bo h;have⟨t18,z,h⟩:=bo h;have⟨g,h⟩:=gd h;have⟨t20,e,h⟩:=bo h;have q:=Qa (QX Q0 e) (Qa g (Qa (K9 z) (allE Qr y (Qa (QA f) (Qa E (Qa E q))))));let o l:=o (b1::b1::b1::b0::.el (Zy t17)::.ix 0::.ret (I t18)::b1::.el (Q7 t20)::l);obtain⟨i,h⟩|⟨i,h⟩:=io h
    ·cases h;exact rf (o [b1]) (Qa i q)
    have q:=Qa (QA i) q;let o l:=o (b0::l);obtain⟨b,h⟩|⟨b,h⟩:=io h
    ·have q:=allE Qi h1 (Qa b q);let o l:=o (b1::.el (Q3 t1)::l);obtain⟨a,h⟩|⟨a,h⟩:=io h
     ·cases h;exact rf (o [b1]) (Qa (jDj a) q)
     have⟨t24,k,h⟩:=bo h;have⟨c,h⟩:=gd h;cases h;exact rf (o [b0,b1,.el (Q7 t20),.ret (I t24)]) (Qa c (Qa (qr k) (Qa (QX Q0 e) (Qa g (Qa (jEj a) q)))))
    have q:=allE Qi h1 (Qa (QA b) q);let o l:=o (b0::.el (Q3 t1)::l);obtain⟨a,h⟩|⟨a,h⟩:=io h
    ·cases h;exact rf (o [b1,.no]) (Qa (jDj a) q)
    have q:=allE Qi h1 (Qa (jEj a) q);let o l:=o (b0::.el (Q3 t1)::l);obtain⟨k,h⟩|⟨k,h⟩:=io h
    ·cases h;exact rf (o [b1]) (Qa (jDj k) q)
    have⟨t25,c,h⟩:=bo h;have q:=allE Qi c (Qa (jEj k) q);let o l:=o (b0::.el (Q3 t25)::l);obtain⟨p,h⟩|⟨p,h⟩:=io h
    ·cases h;exact rf (o [b1]) (Qa (eqt p) q)
    have⟨t27,t,h⟩:=bo h;have q:=Qa (JJ t) (allE Qi c (Qa (eqf p) q));let o l:=o (b0::.el (Q3 t25)::.ret (I t27)::l);obtain⟨u,h⟩|⟨u,h⟩:=io h
    ·cases h;exact rf (o [b1]) (Qa (jDj u) q)
    have⟨s,h⟩:=gd h;have q:=Qa s (allE Qi c (Qa (jEj u) q));let o l:=o (b0::.el (Q3 t25)::l);obtain⟨m,h⟩|⟨m,h⟩:=io h
    ·cases h;exact rf (o [b1]) (Qa (jDj m) q)
    have⟨F,h⟩:=gd h;have⟨M,h⟩:=gd h;cases h;exact rf (o [b0,.el (Q3 t25),.el (Q3 t25),b1,.el (Q7 t20)]) (Qa (QX Q0 e) (Qa g (Qa M (allE Qi c (Qa F (Qa s (allE Qi c (Qa (jEj m) q))))))))
   have q:=Qa (QA E) q;let o l:=o (b0::l);obtain⟨y,h⟩|⟨y,h⟩:=io h
   ·have⟨t18,z,h⟩:=bo h;have⟨t19,g,h⟩:=bo h;have⟨e,h⟩:=gd h;have⟨t21,i,h⟩:=bo h;have q:=Qa (QX Q0 i) (Qa e (Qa (K9 g) (allE Qr z (Qa (QA f) (Qa y q)))));let o l:=o (b1::b1::b0::.el (Zy t18)::.ix 0::.ret (I t19)::b1::.el (Q7 t21)::l);obtain⟨b,h⟩|⟨b,h⟩:=io h
    ·cases h;exact rf (o [b1]) (Qa b q)
    have q:=allE Qi h1 (Qa y (Qa (QA b) q));let o l:=o (b0::b1::.el (Q3 t1)::l);obtain⟨a,h⟩|⟨a,h⟩:=io h
    ·cases h;exact rf (o [b1]) (Qa (jDj a) q)
    have⟨t24,k,h⟩:=bo h;have⟨c,h⟩:=gd h;cases h;exact rf (o [b0,b1,.el (Q7 t21),.ret (I t24)]) (Qa c (Qa (qr k) (Qa (QX Q0 i) (Qa e (Qa (jEj a) q)))))
   have q:=Qa (QA y) q;let o l:=o (b0::b1::l);obtain⟨z,h⟩|⟨z,h⟩:=io h
   ·have q:=Qa z q;obtain⟨g,h⟩|⟨g,h⟩:=io h
    ·cases h;exact rf (o [b1,b1]) (Qa (jDj g) q)
    have⟨t20,e,h⟩:=bo h;have⟨i,h⟩:=gd h;cases h;exact rf (o [b1,b0,.el (Zy t20),b1]) (Qa (ro 9 i) (allE Qr e (Qa (jEj g) q)))
   have q:=Qa (QA z) q;let o l:=o (b0::l);obtain⟨g,h⟩|⟨g,h⟩:=io h
   ·have⟨t20,e,h⟩:=bo h;have⟨t21,i,h⟩:=bo h;have q:=Qa (V0 i) (allE Qi e (Qa g q));let o l:=o (b1::.el (Q3 t20)::.ret (B t21)::l);obtain⟨b,h⟩|⟨b,h⟩:=io h
    ·cases h;exact rf (o [b1]) (Qa b q)
    have q:=Qa (QA b) q;obtain⟨a,h⟩|⟨a,h⟩:=io h
    ·cases h;exact rf (o [b0,b1]) (Qa (jDj a) q)
    have⟨t24,k,h⟩:=bo h;have⟨t25,c,h⟩:=bo h;have⟨p,h⟩:=gd h;cases h;exact rf (o [b0,b0,.el (Zy t24),.el (Zy t25),.el (Q3 t20),b1]) (Qa (ro 164 p) (allE Qi e (allE Qr c (allE Qr k (Qa (jEj a) q)))))
   have q:=Qa (QA g) q;let o l:=o (b0::l);obtain⟨e,h⟩|⟨e,h⟩:=io h
   ·have⟨t21,i,h⟩:=bo h;have⟨t22,b,h⟩:=bo h;cases h;exact rf (o [b1,.el (Zy t21),.ix (-9),b1,.lp [] [1,2,3,6,7] [0,1,2,20,33,35,36,40,46,52,96,97,98,119,120] (.exit 0) [(3,.ptr 119 0 0 0 0),(6,.ptr 120 0 0 0 0)] [(0,.box (.d (.agg [I a0,I a1,B a2,B a3,I a4,I a5,I a6,.lst false 1 a7,.lst false 6 a8,.lst false 7 O]))),(1,.box (.d (.agg [I G,Qr5 H,.lst false 1 J,.lst false 1 K,Qr5 L]))),(2,.box (.d Qr7)),(20,.box (.d (.agg [I t3.1,I t3.2.1]))),(33,.box (.agg [.d (I t1),.d (I a1),.d (B a2),.d (B a3),.d (I t3.1),.d (I t3.2.1),.d (I a6),.own 40 0,.own 46 0,.own 52 0])),(35,.box (.agg [.d (I a0),.d (I a1),.d (B a2),.d (B a3),.d (I a4),.d (I a5),.d (I a6),.own 40 0,.own 46 0,.own 52 0])),(36,.box (.agg [.d (I a0),.d (I a1),.d (B a2),.d (B a3),.d (I a4),.d (I a5),.d (I a6),.own 40 0,.own 46 0,.own 52 0])),(40,.row 0 1 a7),(46,.row 0 6 t22),(52,.row 0 7 O),(96,.box (.agg [.d (I t1),.d (I a1),.d (B a2),.d (B a3),.d (I t3.1),.d (I t3.2.1),.d (I a6),.own 40 0,.own 46 0,.own 52 0])),(97,.box (.d (.agg [I G,Qr5 H,.lst false 1 J,.lst false 1 K,Qr5 L]))),(98,.box (.d Qr7)),(119,.box (.agg [.d (I t1),.d (I a1),.d (B a2),.d (B a3),.d (I t3.1),.d (I t3.2.1),.d (I a6),.own 40 0,.own 46 0,.own 52 0])),(120,.box (.d Qr7))] 158]) (Qa (QH zf b) (allE Qr i (Qa e q)))
   have⟨t21,i,h⟩:=bo h;have⟨t22,b,h⟩:=bo h;have⟨a,h⟩:=gd h;have⟨t24,k,h⟩:=bo h;have q:=Qa (QX Qq k) (Qa a (Qa (K9 b) (allE Qr i (Qa (QA e) q))));let o l:=o (b0::.el (Zy t21)::.ix 0::.ret (I t22)::b1::.el (QB t24)::l);obtain⟨c,h⟩|⟨c,h⟩:=io h
   ·have⟨t26,p,h⟩:=bo h;have q:=allE Qi p (Qa c q);let o l:=o (b1::.el (Q3 t26)::l);obtain⟨t,h⟩|⟨t,h⟩:=io h
    ·cases h;exact rf (o [b1]) (Qa (jDj t) q)
    have⟨u,h⟩:=gd h;cases h;exact rf (o [b0,.el (Q3 t26),b1,b1]) (Qa u (Qa a (allE Qi p (Qa (jEj t) q))))
   have q:=Qa (QA c) q;let o l:=o (b0::l);obtain⟨p,h⟩|⟨p,h⟩:=io h
   ·have⟨t,h⟩:=gd h;cases h;exact rf (o [b1,b1,b1]) (Qa t (Qa a (Qa p q)))
   have q:=Qa (QA p) q;let o l:=o (b0::l);obtain⟨t,h⟩|⟨t,h⟩:=io h
   ·have q:=Qa t q;obtain⟨u,h⟩|⟨u,h⟩:=io h
    ·cases h;exact rf (o [b1,b1]) (Qa u q)
    have q:=Qa (QA u) q;obtain⟨s,h⟩|⟨s,h⟩:=io h
    ·cases h;exact rf (o [b1,b0,b1]) (Qa s q)
    have⟨m,h⟩:=gd h;cases h;exact rf (o [b1,b0,b0,b1,b1]) (Qa m (Qa a (Qa (QA s) q)))
   have q:=Qa (QA t) q;let o l:=o (b0::l);obtain⟨u,h⟩|⟨u,h⟩:=io h
   ·have q:=Qa u q;obtain⟨s,h⟩|⟨s,h⟩:=io h
    ·have⟨m,h⟩:=gd h;cases h;exact rf (o [b1,b0,b1,b1]) (Qa m (Qa a (Qa (Ud s) q)))
    cases h;exact rf (o [b1,b1]) (Qa (Uc (QA s)) q)
   have q:=Qa (QA u) q;let o l:=o (b0::l);obtain⟨s,h⟩|⟨s,h⟩:=io h
   ·have q:=Qa s q;let o l:=o (b1::l);obtain⟨m,h⟩|⟨m,h⟩:=io h
    ·have q:=Qa (Ud m) q;obtain⟨F,h⟩|⟨F,h⟩:=io h
     ·cases h;exact rf (o [b0,b1]) (Qa F q)
     have q:=Qa (QA F) q;let o l:=o (b0::b0::l);obtain⟨M,h⟩|⟨M,h⟩:=io h
     ·cases h;exact rf (o [b1]) (Qa M q)
     have q:=Qa (QA M) q;obtain⟨N,h⟩|⟨N,h⟩:=io h
     ·cases h;exact rf (o [b0,b1]) (Qa N q)
     have⟨h34,h⟩:=gd h;cases h;exact rf (o [b0,b0,b1,b1]) (Qa h34 (Qa a (Qa (QA N) q)))
    cases h;exact rf (o [b1]) (Qa (Uc (QA m)) q)
   have q:=Qa (QA s) q;obtain⟨m,h⟩|⟨m,h⟩:=io h
   ·have⟨F,h⟩:=gd h;cases h;exact rf (o [b0,b0,b1,b1]) (Qa F (Qa a (Qa (Ud m) q)))
   cases h;exact rf (o [b0,b1]) (Qa (Uc (QA m)) q)
  cases h;exact rf (o [b1]) (Qa (net S) q)
 cases h;exact rf (o [b0,b1]) (Qa (net P) (Qa (eqf P) q))
def Vn (x:jRj):D:=.agg [I x.1,I x.2.1,B x.2.2.1,B x.2.2.2.1,I x.2.2.2.2.1,I x.2.2.2.2.2.1,I x.2.2.2.2.2.2.1,.lst false 1 x.2.2.2.2.2.2.2.1,.lst false 6 x.2.2.2.2.2.2.2.2.1,.lst false 7 x.2.2.2.2.2.2.2.2.2]
def Vy:D->Option (jRj)
 | .agg [c0,c1,c2,c3,c4,c5,c6,c7,c8,c9]=>(Ya .i64 c0).bind fun a=>(Ya .i64 c1).bind fun b=>(Gw c2).bind fun c=>(Gw c3).bind fun d=>(Ya .i64 c4).bind fun e=>(Ya .i64 c5).bind fun f=>(Ya .i64 c6).bind fun g=>(Em 1 c7).bind fun h=>(Em 6 c8).bind fun i=>(Em 7 c9).bind fun j=>some (a,b,c,d,e,f,g,h,i,j)
 | _=>none
theorem Vx {d:D}{x:jRj}(h:Vy d=some x):d=Vn x:=by
 unfold Vy at h;split at h;case h_2=>cases h
 obtain⟨y,m,h⟩:=ZX h;obtain⟨z,n,h⟩:=ZX h;obtain⟨A,o,h⟩:=ZX h;obtain⟨C,p,h⟩:=ZX h;obtain⟨E,q,h⟩:=ZX h;obtain⟨F,r,h⟩:=ZX h;obtain⟨G,s,h⟩:=ZX h;obtain⟨H,t,h⟩:=ZX h;obtain⟨J,u,h⟩:=ZX h;obtain⟨K,v,h⟩:=ZX h;cases h;have a:=WS m;have b:=WS n;have c:=KG o;have e:=KG p;have f:=WS q;have g:=WS r;have i:=WS s;have j:=J7 t;have k:=J7 u;have l:=J7 v;rw[a,b,c,e,f,g,i,j,k,l];rfl
def ZT:Option D->Bool
 | some (.agg [.v (.int .i64 0),.v (.int .i64 0),.v (.bool false),.v (.bool false),.v (.int .i64 0),.v (.int .i64 0),.v (.int .i64 0),.lst true 0 [],.lst true 0 [],.lst true 0 []])=>true
 | _=>false
theorem Uu {o:Option D}(h:ZT o=true):o=some Qr7:=by
 unfold ZT at h;split at h
 ·rfl
 ·cases h
def Zh (n:Nat)(a0:jVj)(c:(Unit)⊕jVj×jVj×Int):Option ((Unit⊕jVj×jVj×Int)⊕Int×Int⊕Unit⊕jVj×jVj):=match c with|(.inl c)=>(if 0<((a0).length:Int) then(el Ze a0 0).bind fun a=>(WV n a.1 a.2.1 a.2.2.1 a.2.2.2.1 a.2.2.2.2).bind fun f=>if f=0 then if a.1=1 then if(a.2.1.toList==(⟨#[117,110,100,111]⟩:jSj).toList)=true then some (.inr (.inl (1,12))) else(QZ n 0 0 false false 0 0 0 ([]) ([]) ([]) a.1 a.2.1 a.2.2.1 a.2.2.2.1 a.2.2.2.2).bind fun d=>if d.2.2.2.2.2.2.2.2.2.2=0 then some (.inl (.inr ([.agg [I a.1,.v (.string a.2.1),.lst false 1 a.2.2.1,.lst false 1 a.2.2.2.1,.v (.string a.2.2.2.2)]],[jZj,.agg [I d.1,I d.2.1,B d.2.2.1,B d.2.2.2.1,I d.2.2.2.2.1,I d.2.2.2.2.2.1,I d.2.2.2.2.2.2.1,.lst false 1 d.2.2.2.2.2.2.2.1,.lst false 6 d.2.2.2.2.2.2.2.2.1,.lst false 7 d.2.2.2.2.2.2.2.2.2.1]],1))) else some (.inr (.inl (1,d.2.2.2.2.2.2.2.2.2.2))) else some (.inr (.inl (1,11))) else some (.inr (.inl (1,f))) else some (.inr (.inr (.inl ()))))|.inr c=>(if c.2.2<((a0).length:Int) then(el Ze a0 c.2.2).bind fun a=>(WV n a.1 a.2.1 a.2.2.1 a.2.2.2.1 a.2.2.2.2).bind fun f=>if f=0 then if Qh (c.2.2+1) then if a.1=(c.2.2+1) then if(a.2.1.toList==(⟨#[117,110,100,111]⟩:jSj).toList)=true then if((c.1).length:Int)=0 then some (.inr (.inl ((c.2.2+1),12))) else if Qh (((c.1).length:Int) - 1) then(el Ze c.1 (((c.1).length:Int) - 1)).bind fun b=>if(b.2.1.toList==(⟨#[100,101,108,105,118,101,114]⟩:jSj).toList)=true then some (.inr (.inl ((c.2.2+1),21))) else if(b.2.1.toList==(⟨#[98,105,108,108]⟩:jSj).toList)=true then some (.inr (.inl ((c.2.2+1),21))) else if(0:Int)<=0/\0<=(((c.1).length:Int) - 1)/\(((c.1).length:Int) - 1)<=((c.1).length:Int)/\(c.1=[]\/5=5) then if(0:Int)<=0/\0<=((c.1).length:Int)/\((c.1).length:Int)<=((c.2.1).length:Int)/\(c.2.1=[]\/10=10) then some (.inl (.inr (((c.1.take (Int.toNat (((c.1).length:Int) - 1))).drop (Int.toNat 0)),((c.2.1.take (Int.toNat ((c.1).length:Int))).drop (Int.toNat 0)),(c.2.2+1)))) else none else none else none else if ZT (nth (c.2.1) (Int.toNat ((c.1).length:Int)))=true then if(0:Int)<=((c.1).length:Int) then(QZ n 0 0 false false 0 0 0 ([]) ([]) ([]) a.1 a.2.1 a.2.2.1 a.2.2.2.1 a.2.2.2.2).bind fun b=>if b.2.2.2.2.2.2.2.2.2.2=0 then if Wa 88 (0+(c.1).length) then if Wa 88 ((c.1).length+1) then if Wa 120 (0+(c.2.1).length) then if Wa 120 ((c.2.1).length+1) then some (.inl (.inr ((c.1++([.agg [I a.1,.v (.string a.2.1),.lst false 1 a.2.2.1,.lst false 1 a.2.2.2.1,.v (.string a.2.2.2.2)]]:jVj)),(c.2.1++([.agg [I b.1,I b.2.1,B b.2.2.1,B b.2.2.2.1,I b.2.2.2.2.1,I b.2.2.2.2.2.1,I b.2.2.2.2.2.2.1,.lst false 1 b.2.2.2.2.2.2.2.1,.lst false 6 b.2.2.2.2.2.2.2.2.1,.lst false 7 b.2.2.2.2.2.2.2.2.2.1]]:jVj)),(c.2.2+1)))) else none else none else none else none else some (.inr (.inl ((c.2.2+1),b.2.2.2.2.2.2.2.2.2.2))) else none else(el Vy c.2.1 ((c.1).length:Int)).bind fun e=>(QZ n e.1 e.2.1 e.2.2.1 e.2.2.2.1 e.2.2.2.2.1 e.2.2.2.2.2.1 e.2.2.2.2.2.2.1 e.2.2.2.2.2.2.2.1 e.2.2.2.2.2.2.2.2.1 e.2.2.2.2.2.2.2.2.2 a.1 a.2.1 a.2.2.1 a.2.2.2.1 a.2.2.2.2).bind fun b=>if b.2.2.2.2.2.2.2.2.2.2=0 then if Wa 88 (0+(c.1).length) then if Wa 88 ((c.1).length+1) then if Wa 120 (0+(c.2.1).length) then if Wa 120 ((c.2.1).length+1) then some (.inl (.inr ((c.1++([.agg [I a.1,.v (.string a.2.1),.lst false 1 a.2.2.1,.lst false 1 a.2.2.2.1,.v (.string a.2.2.2.2)]]:jVj)),(c.2.1++([.agg [I b.1,I b.2.1,B b.2.2.1,B b.2.2.2.1,I b.2.2.2.2.1,I b.2.2.2.2.2.1,I b.2.2.2.2.2.2.1,.lst false 1 b.2.2.2.2.2.2.2.1,.lst false 6 b.2.2.2.2.2.2.2.2.1,.lst false 7 b.2.2.2.2.2.2.2.2.2.1]]:jVj)),(c.2.2+1)))) else none else none else none else none else some (.inr (.inl ((c.2.2+1),b.2.2.2.2.2.2.2.2.2.2))) else some (.inr (.inl ((c.2.2+1),11))) else none else if Qh (c.2.2+1) then some (.inr (.inl ((c.2.2+1),f))) else none else some (.inr (.inr (.inr (c.1,c.2.1)))))
noncomputable def ES (a0:jVj):Lp (Unit⊕jVj×jVj×Int) (Int×Int⊕Unit⊕jVj×jVj):=⟨fun
 | (.inl sa)=>[(0,.d (.lst false 5 a0)),(6,.d (.lst true 0 [])),(7,.d (.lst true 10 [jZj])),(8,.d (I 0))]
 | (.inr sa)=>[(0,.d (.lst false 5 a0)),(6,.d (.lst false 5 sa.1)),(7,.d (.lst false 10 sa.2.1)),(8,.d (I sa.2.2))],fun _=>[],fun
 | (.inl e)=>.ret
 | (.inr (.inl e))=>(.exit 0)
 | (.inr (.inr e))=>(.exit 0),fun
 | (.inl e)=>[(2,.d (.lst true 0 [])),(3,.d (.lst true 0 [])),(4,.d (I e.1)),(5,.d (I e.2))]
 | (.inr (.inl e))=>[(6,.d (.lst true 0 [])),(7,.d (.lst true 10 [jZj]))]
 | (.inr (.inr e))=>[(6,.d (.lst false 5 e.1)),(7,.d (.lst false 10 e.2))],fun _=>[]⟩
theorem YS {n a0}(j)(r)(h:Zh n a0 j=some r):Rl (ZJ cx.P 29 0) 113 0 false (ES a0) j r:=by
 unfold Zh at h;obtain j|j:=j
 ·obtain⟨f,h⟩|⟨f,h⟩:=io h
  ·have⟨ta2,ha2,h⟩:=bo h;have⟨ta3,ha3,h⟩:=bo h;have q:=Qa (K7 ha3) (allE Ql ha2 (Qa (jDj f) QL));let o(l:jOj):=b1::.el (QP ta2)::.ret (I ta3)::l;obtain⟨b,h⟩|⟨b,h⟩:=io h
   ·have q:=Qa ((by unfold Qh;omega):Qh 1) (allE Ql ha2 (Qa (eqt b) q));let o l:=o (b1::.el (QP ta2)::l);obtain⟨c,h⟩|⟨c,h⟩:=io h
    ·have q:=allE Ql ha2 (Qa (eqt b) (Qa (nef c) q));let o l:=o (b0::b1::.el (QP ta2)::l);obtain⟨g,h⟩|⟨g,h⟩:=io h
     ·cases h;exact rx 12 (o [b1,.no,.no,.no]) [] [2,3,4,5] [] (Qa ((by unfold Qh;omega):Qh 1) (Qa g q))
     have⟨ta7,i,h⟩:=bo h;have q:=Qa (((J0 i).le (.cons (.aggs (.cons (.refl _) (.cons (.refl _) (.cons (.refl _) (.cons (.refl _) (.cons (.refl _) (.cons (.refl _) (.cons (.refl _) (.cons (.nilF) (.cons (.nilF) (.cons (.nilF) (.nil)))))))))))) (.cons (.refl _) (.nil))) (.refl _)):Computes cx 76 [jZj,.agg [I ta2.1,Qr5 ta2.2.1,.lst false 1 ta2.2.2.1,.lst false 1 ta2.2.2.2.1,Qr5 ta2.2.2.2.2]] (.tup [.agg [I ta7.1,I ta7.2.1,B ta7.2.2.1,B ta7.2.2.2.1,I ta7.2.2.2.2.1,I ta7.2.2.2.2.2.1,I ta7.2.2.2.2.2.2.1,.lst false 1 ta7.2.2.2.2.2.2.2.1,.lst false 6 ta7.2.2.2.2.2.2.2.2.1,.lst false 7 ta7.2.2.2.2.2.2.2.2.2.1],I ta7.2.2.2.2.2.2.2.2.2.2])) (allE Ql ha2 (Qa (eqt b) (Qa (QA g) q)));let o l:=o (b0::b1::.no::.el (QP ta2)::.ret (.tup [.agg [I ta7.1,I ta7.2.1,B ta7.2.2.1,B ta7.2.2.2.1,I ta7.2.2.2.2.1,I ta7.2.2.2.2.2.1,I ta7.2.2.2.2.2.2.1,.lst false 1 ta7.2.2.2.2.2.2.2.1,.lst false 6 ta7.2.2.2.2.2.2.2.2.1,.lst false 7 ta7.2.2.2.2.2.2.2.2.2.1],I ta7.2.2.2.2.2.2.2.2.2.2])::l);obtain⟨e,h⟩|⟨e,h⟩:=io h
     ·cases h;exact rn 12 (o [b0,.no,.no,.el (QP ta2),.no,.no,.ix 0,.ix (-8),.no,.no,.ix (-7)]) [] [0,6,7,8] [] (Qa ((by unfold Qh;omega):Qh 1) (allE Ql ha2 (Qa (nef e) q)))
     cases h;exact rx 12 (o [b1]) [] [2,3,4,5] [] (Qa ((by unfold Qh;omega):Qh 1) (Qa (net e) q))
    cases h;exact rx 12 (o [b1,.no,.no,.no,.no]) [] [2,3,4,5] [] (Qa ((by unfold Qh;omega):Qh 1) (Qa (net c) q))
   cases h;exact rx 12 (o [b0,.no,b0,.no,b0,b1]) [] [2,3,4,5] [] (Qa ((by unfold Qh;omega):Qh 1) (Qa (net b) (Qa (eqf b) (Qa (eqf b) (Qa (eqf b) q)))))
  cases h;exact rx 12 [b0] [] [6,7] [] (Qa (jEj f) QL)
 ·obtain⟨f,h⟩|⟨f,h⟩:=io h
  ·have⟨ta2,ha2,h⟩:=bo h;have⟨ta3,ha3,h⟩:=bo h;have q:=Qa (K7 ha3) (allE Ql ha2 (Qa (jDj f) QL));let o(l:jOj):=b1::.el (QP ta2)::.ret (I ta3)::l;obtain⟨b,h⟩|⟨b,h⟩:=io h
   ·have⟨c,h⟩:=gd h;have q:=Qa c (allE Ql ha2 (Qa (eqt b) q));let o l:=o (b1::.el (QP ta2)::l);obtain⟨g,h⟩|⟨g,h⟩:=io h
    ·have q:=allE Ql ha2 (Qa (eqt b) (Qa (nef g) q));let o l:=o (b0::b1::.el (QP ta2)::l);obtain⟨i,h⟩|⟨i,h⟩:=io h
     ·have q:=Qa i q;obtain⟨e,h⟩|⟨e,h⟩:=io h
      ·cases h;exact rx 12 (o [b1,b1,.no,.no]) [] [2,3,4,5] [] (Qa c (Qa (eqt e) q))
      have⟨ha9,h⟩:=gd h;have⟨ta10,ha10,h⟩:=bo h;have q:=allE Ql ha10 (Qa ha9 (Qa (eqf e) q));let o l:=o (b1::b0::.el (QP ta10)::l);obtain⟨a,h⟩|⟨a,h⟩:=io h
      ·cases h;exact rx 12 (o [b1,.no,.no,.no]) [] [2,3,4,5] [] (Qa c (Qa a q))
      have q:=allE Ql ha10 (Qa ha9 (Qa (QA a) q));let o l:=o (b0::.el (QP ta10)::l);obtain⟨d,h⟩|⟨d,h⟩:=io h
      ·cases h;exact rx 12 (o [b1,.no,.no]) [] [2,3,4,5] [] (Qa c (Qa d q))
      have⟨ha13,h⟩:=gd h;have⟨ha14,h⟩:=gd h;cases h;exact rn 12 (o [b0,b1,b1]) [] [0,6,7,8] [] (Qa c (Qa ha14 (Qa ha13 (Qa ha9 (Qa (QA d) q)))))
     have q:=Qa (eqt b) (Qa (QA i) q);let o l:=o (b0::b1::l);obtain⟨e,h⟩|⟨e,h⟩:=io h
     ·have⟨ha9,h⟩:=gd h;have⟨ta10,ha10,h⟩:=bo h;have q:=Qa (((J0 ha10).le (.cons (.aggs (.cons (.refl _) (.cons (.refl _) (.cons (.refl _) (.cons (.refl _) (.cons (.refl _) (.cons (.refl _) (.cons (.refl _) (.cons (.nilF) (.cons (.nilF) (.cons (.nilF) (.nil)))))))))))) (.cons (.refl _) (.nil))) (.refl _)):Computes cx 76 [jZj,.agg [I ta2.1,Qr5 ta2.2.1,.lst false 1 ta2.2.2.1,.lst false 1 ta2.2.2.2.1,Qr5 ta2.2.2.2.2]] (.tup [.agg [I ta10.1,I ta10.2.1,B ta10.2.2.1,B ta10.2.2.2.1,I ta10.2.2.2.2.1,I ta10.2.2.2.2.2.1,I ta10.2.2.2.2.2.2.1,.lst false 1 ta10.2.2.2.2.2.2.2.1,.lst false 6 ta10.2.2.2.2.2.2.2.2.1,.lst false 7 ta10.2.2.2.2.2.2.2.2.2.1],I ta10.2.2.2.2.2.2.2.2.2.2])) (allE Ql ha2 (Qa ha9 (Qa ((Uu e):nth (j.2.1) (Int.toNat ((j.1).length:Int))=some Qr7) q)));let o l:=o (.el Qr7::.el (QP ta2)::.ret (.tup [.agg [I ta10.1,I ta10.2.1,B ta10.2.2.1,B ta10.2.2.2.1,I ta10.2.2.2.2.1,I ta10.2.2.2.2.2.1,I ta10.2.2.2.2.2.2.1,.lst false 1 ta10.2.2.2.2.2.2.2.1,.lst false 6 ta10.2.2.2.2.2.2.2.2.1,.lst false 7 ta10.2.2.2.2.2.2.2.2.2.1],I ta10.2.2.2.2.2.2.2.2.2.2])::l);obtain⟨a,h⟩|⟨a,h⟩:=io h
      ·have⟨d,h⟩:=gd h;have⟨ha13,h⟩:=gd h;have⟨ha14,h⟩:=gd h;have⟨ha15,h⟩:=gd h;cases h;exact rn 12 (o [b0,.ix (-8),b1,.el (QP ta2),b1,.ix (-7),.ix (-8),b1,b1,.ix (-7)]) [] [0,6,7,8] [] (Qa c (Qa (ro 34 ha15) (Qa (ro 34 ha14) (Qa (ro 39 ha13) (allE Ql ha2 (Qa (ro 39 d) (Qa (nef a) q)))))))
      cases h;exact rx 12 (o [b1]) [] [2,3,4,5] [] (Qa c (Qa (net a) q))
     have⟨ta9,ha9,h⟩:=bo h;have⟨ta10,ha10,h⟩:=bo h;have q:=Qa (J0 ha10) (allE Ql ha2 (allE Vx ha9 q));let o l:=o (.el (Vn ta9)::.el (QP ta2)::.ret (.tup [.agg [I ta10.1,I ta10.2.1,B ta10.2.2.1,B ta10.2.2.2.1,I ta10.2.2.2.2.1,I ta10.2.2.2.2.2.1,I ta10.2.2.2.2.2.2.1,.lst false 1 ta10.2.2.2.2.2.2.2.1,.lst false 6 ta10.2.2.2.2.2.2.2.2.1,.lst false 7 ta10.2.2.2.2.2.2.2.2.2.1],I ta10.2.2.2.2.2.2.2.2.2.2])::l);obtain⟨a,h⟩|⟨a,h⟩:=io h
     ·have⟨d,h⟩:=gd h;have⟨ha13,h⟩:=gd h;have⟨ha14,h⟩:=gd h;have⟨ha15,h⟩:=gd h;cases h;exact rn 12 (o [b0,.ix (-8),b1,.el (QP ta2),b1,.ix (-7),.ix (-8),b1,b1,.ix (-7)]) [] [0,6,7,8] [] (Qa c (Qa (ro 34 ha15) (Qa (ro 34 ha14) (Qa (ro 39 ha13) (allE Ql ha2 (Qa (ro 39 d) (Qa (nef a) q)))))))
     cases h;exact rx 12 (o [b1]) [] [2,3,4,5] [] (Qa c (Qa (net a) q))
    cases h;exact rx 12 (o [b1,.no,.no,.no,.no]) [] [2,3,4,5] [] (Qa c (Qa (net g) q))
   have⟨c,h⟩:=gd h;cases h;exact rx 12 (o [b0,.no,b0,.no,b0,b1]) [] [2,3,4,5] [] (Qa c (Qa (net b) (Qa (eqf b) (Qa (eqf b) (Qa (eqf b) q)))))
  cases h;exact rx 12 [b0] [] [6,7] [] (Qa (jEj f) QL)
def V1 (n:Nat)(a0:jVj):Option (jVj×jVj×Int×Int) := if((a0).length:Int)>1000 then some ([],[],0,5) else(Q2 (Zh n a0) n (.inl ())).bind fun a=>match a with|.inl a=>(some ([],[],a.1,a.2))|(.inr (.inl a))=>(some ([],[jZj],0,0))|(.inr (.inr a))=>(some (a.1,a.2,0,0))
theorem zV {n a0 r}(h:V1 n a0=some r):Computes cx 29 [.lst false 5 a0] (.tup [.lst false 5 r.1,.lst false 10 r.2.1,I r.2.2.1,I r.2.2.2]):=by
 unfold V1 at h;obtain⟨b,h⟩|⟨b,h⟩:=io h
 ·cases h;exact(rf (r:=.tup [.lst true 0 [],.lst true 0 [],I 0,I 5]) [b1] (Qa (jDj b) QL)).le (LEs.refl _) (.tups (.cons (.nilF) (.cons (.nilF) (.cons (.refl _) (.cons (.refl _) (.nil))))))
 have q:=Qa (jEj b) QL;have⟨a,h2,h⟩:=bo h;obtain a|a|a:=a
 ·cases h;exact(rf (r:=.tup [.lst true 0 [],.lst true 0 [],I a.1,I a.2]) [b0,.lp [] [0,6,7,8] [] .ret [(2,.d (.lst true 0 [])),(3,.d (.lst true 0 [])),(4,.d (I a.1)),(5,.d (I a.2))] [] 97] (Qa (QH YS h2) q)).le (LEs.refl _) (.tups (.cons (.nilF) (.cons (.nilF) (.cons (.refl _) (.cons (.refl _) (.nil))))))
 ·cases h;exact(rf (r:=.tup [.lst true 0 [],.lst true 10 [jZj],I 0,I 0]) [b0,.lp [] [0,6,7,8] [] (.exit 0) [(6,.d (.lst true 0 [])),(7,.d (.lst true 10 [jZj]))] [] 97] (Qa (QH YS h2) q)).le (LEs.refl _) (.tups (.cons (.nilF) (.cons (.full _ _ _) (.cons (.refl _) (.cons (.refl _) (.nil))))))
 cases h;exact rf [b0,.lp [] [0,6,7,8] [] (.exit 0) [(6,.d (.lst false 5 a.1)),(7,.d (.lst false 10 a.2))] [] 97] (Qa (QH YS h2) q)
def Vo (n:Nat)(a0:jVj):Option (Int×Int×Bool×Bool×Int×Int×Int×jVj×jVj×jVj×Int×Int) := (V1 n a0).bind fun b=>if b.2.2.2=0 then if Qh (((b.2.1).length:Int) - 1) then if ZT (nth (b.2.1) (Int.toNat (((b.2.1).length:Int) - 1)))=true then if(0:Int)<=(((b.2.1).length:Int) - 1) then some (0,0,false,false,0,0,0,[],[],[],0,0) else none else(el Vy b.2.1 (((b.2.1).length:Int) - 1)).bind fun a=>some (a.1,a.2.1,a.2.2.1,a.2.2.2.1,a.2.2.2.2.1,a.2.2.2.2.2.1,a.2.2.2.2.2.2.1,a.2.2.2.2.2.2.2.1,a.2.2.2.2.2.2.2.2.1,a.2.2.2.2.2.2.2.2.2,0,0) else none else some (0,0,false,false,0,0,0,[],[],[],b.2.2.1,b.2.2.2)
theorem je {n a0 r}(h:Vo n a0=some r):Computes cx 7 [.lst false 5 a0] (.tup [.agg [I r.1,I r.2.1,B r.2.2.1,B r.2.2.2.1,I r.2.2.2.2.1,I r.2.2.2.2.2.1,I r.2.2.2.2.2.2.1,.lst false 1 r.2.2.2.2.2.2.2.1,.lst false 6 r.2.2.2.2.2.2.2.2.1,.lst false 7 r.2.2.2.2.2.2.2.2.2.1],I r.2.2.2.2.2.2.2.2.2.2.1,I r.2.2.2.2.2.2.2.2.2.2.2]):=by
 unfold Vo at h;have⟨t1,h1,h⟩:=bo h;have q:=Qa (zV h1) QL;let o(l:jOj):=.ret (.tup [.lst false 5 t1.1,.lst false 10 t1.2.1,I t1.2.2.1,I t1.2.2.2])::l;obtain⟨a,h⟩|⟨a,h⟩:=io h
 ·have⟨h3,h⟩:=gd h;have q:=Qa h3 (Qa (nef a) q);obtain⟨b,h⟩|⟨b,h⟩:=io h
  ·have⟨h5,h⟩:=gd h;cases h;exact(rf (r:=.tup [jZj,I 0,I 0]) (o [b0,.el Qr7]) (Qa h5 (Qa ((Uu b):nth (t1.2.1) (Int.toNat (((t1.2.1).length:Int) - 1))=some Qr7) q))).le (LEs.refl _) (.tups (.cons (.aggs (.cons (.refl _) (.cons (.refl _) (.cons (.refl _) (.cons (.refl _) (.cons (.refl _) (.cons (.refl _) (.cons (.refl _) (.cons (.nilF) (.cons (.nilF) (.cons (.nilF) (.nil)))))))))))) (.cons (.refl _) (.cons (.refl _) (.nil)))))
  have⟨t5,h5,h⟩:=bo h;cases h;exact rf (o [b0,.el (Vn t5)]) (allE Vx h5 q)
 cases h;exact(rf (r:=.tup [jZj,I t1.2.2.1,I t1.2.2.2]) (o [b1]) (Qa (net a) q)).le (LEs.refl _) (.tups (.cons (.aggs (.cons (.refl _) (.cons (.refl _) (.cons (.refl _) (.cons (.refl _) (.cons (.refl _) (.cons (.refl _) (.cons (.refl _) (.cons (.nilF) (.cons (.nilF) (.cons (.nilF) (.nil)))))))))))) (.cons (.refl _) (.cons (.refl _) (.nil)))))
def Wd (n:Nat)(a0 a1:jVj)(a:Int):Option (Int⊕Unit⊕Unit) := if a<((a0).length:Int) then(el Ww a0 a).bind fun b=>(el Ww a1 a).bind fun c=>if(!(b.toList==c.toList))=true then some (.inr (.inl ())) else if Qh (a+1) then some (.inl (a+1)) else none else some (.inr (.inr ()))
noncomputable def XA (a0 a1:jVj):Lp (Int) (Unit⊕Unit):=⟨fun a=>[(0,.d (.lst false 1 a0)),(1,.d (.lst false 1 a1)),(5,.d (I a))],fun _=>[],fun
 | (.inl e)=>.ret
 | (.inr e)=>(.exit 0),fun
 | (.inl e)=>[(4,.d (B false))]
 | (.inr e)=>[],fun _=>[]⟩
theorem U6 {n a0 a1}(c)(r)(h:Wd n a0 a1 c=some r):Rl (ZJ cx.P 25 0) 26 0 false (XA a0 a1) c r:=by
 unfold Wd at h;obtain⟨a,h⟩|⟨a,h⟩:=io h
 ·have⟨ta2,ha2,h⟩:=bo h;have⟨ta3,ha3,h⟩:=bo h;have q:=allE Qr ha3 (allE Qr ha2 (Qa (jDj a) QL));let o(l:jOj):=b1::.el (Zy ta2)::.el (Zy ta3)::l;obtain⟨b,h⟩|⟨b,h⟩:=io h
  ·cases h;exact rx 7 (o [b1]) [] [4] [] (Qa b q)
  have⟨ha5,h⟩:=gd h;cases h;exact rn 7 (o [b0]) [] [0,1,5] [] (Qa ha5 (Qa (QA b) q))
 cases h;exact rx 7 [b0] [] [] [] (Qa (jEj a) QL)
def Z5 (n:Nat)(a0 a1:jVj):Option (Bool) := if((a0).length:Int)=((a1).length:Int) then(Q2 (Wd n a0 a1) n 0).bind fun a=>match a with|.inl a=>(some false)|.inr a=>(some true) else some false
theorem V9 {n a0 a1 r}(h:Z5 n a0 a1=some r):Computes cx 25 [.lst false 1 a0,.lst false 1 a1] (B r):=by
 unfold Z5 at h;obtain⟨a,h⟩|⟨a,h⟩:=io h
 ·have q:=Qa (nef a) QL;have⟨b,h2,h⟩:=bo h;obtain b|b:=b
  ·obtain rfl:=oi h;exact rf [b0,.lp [] [0,1,5] [] .ret [(4,.d (B false))] [] 34] (Qa (QH U6 h2) q)
  obtain rfl:=oi h;exact rf [b0,.lp [] [0,1,5] [] (.exit 0) [] [] 34] (Qa (QH U6 h2) q)
 obtain rfl:=oi h;exact rf [b1] (Qa (net a) QL)
def Vu (n:Nat)(a0:jSj)(a1 a2:jVj)(a3 a4:Int)(a5 a6:Bool)(a7 a8 f:Int)(d b e:jVj)(a:(Int×Int×Int)):Option (Int×Int×Int⊕Int×Int) := if a.1<((b).length:Int) then if 0<=a.1/\a.1<((b).length:Int) then((nth (b) (Int.toNat a.1)).bind QM).bind fun c=>if(!(c.2.1.toList==a0.toList))=true then if Qh (a.1+1) then some (.inl ((a.1+1),a.2.1,a.2.2)) else none else if Qh (a.2.1+1) then if c.2.2.2.2.2=true then if Qh (a.2.2+1) then if Qh (a.1+1) then some (.inl ((a.1+1),(a.2.1+1),(a.2.2+1))) else none else none else if Qh (a.1+1) then some (.inl ((a.1+1),(a.2.1+1),a.2.2)) else none else none else none else some (.inr (a.2.1,a.2.2))
noncomputable def Jt (a0:jSj)(a1 a2:jVj)(a3 a4:Int)(a5 a6:Bool)(a7 a8 g:Int)(b a c:jVj):Lp (Int×Int×Int) (Int×Int):=⟨fun f=>[(1,.d (Qr5 a0)),(4,.ptr 13 0 0 0 0),(5,.ptr 14 0 0 0 0),(11,.own 11 0),(12,.d (I ((a).length:Int))),(13,.d (I f.1))],fun f=>[(0,.box (.agg [.own 1 0,.own 2 0,.d (I a3),.d (I a4),.d (B a5),.d (B a6),.d (I a7),.d (I a8),.d (I g),.own 10 0,.own 11 0,.own 12 0])),(1,.row 0 5 a1),(2,.row 0 5 a2),(10,.row 0 1 b),(11,.row 0 6 a),(12,.row 0 7 c),(13,.box (.d (.agg [I 0,I 0]))),(14,.box (.d (.agg [I f.2.1,I f.2.2])))],fun _=>(.exit 0),fun _=>[(4,.ptr 13 0 0 0 0),(5,.ptr 14 0 0 0 0)],fun e=>[(0,.box (.agg [.own 1 0,.own 2 0,.d (I a3),.d (I a4),.d (B a5),.d (B a6),.d (I a7),.d (I a8),.d (I g),.own 10 0,.own 11 0,.own 12 0])),(1,.row 0 5 a1),(2,.row 0 5 a2),(10,.row 0 1 b),(11,.row 0 6 a),(12,.row 0 7 c),(13,.box (.d (.agg [I 0,I 0]))),(14,.box (.d (.agg [I e.1,I e.2])))]⟩
theorem Jp {n a0 a1 a2 a3 a4 a5 a6 a7 a8 g d e f}(i)(r)(h:Vu n a0 a1 a2 a3 a4 a5 a6 a7 a8 g d e f i=some r):Rl (ZJ cx.P 66 0) 33 13 false (Jt a0 a1 a2 a3 a4 a5 a6 a7 a8 g d e f) i r:=by
 unfold Vu at h;obtain⟨a,h⟩|⟨a,h⟩:=io h
 ·have⟨ha2,h⟩:=gd h;have⟨ta3,ha3,h⟩:=bo h;have q:=Qa (QX Qq ha3) (Qa ha2 (Qa (jDj a) QL));let o(l:jOj):=b1::b1::.el (QB ta3)::l;obtain⟨b,h⟩|⟨b,h⟩:=io h
  ·have⟨ha5,h⟩:=gd h;cases h;exact rn 21 (o [b1]) [] [1,4,5,11,12,13] [0,1,2,10,11,12,13,14] (Qa ha5 (Qa b q))
  have⟨ha5,h⟩:=gd h;have q:=Qa ha5 (Qa (QA b) q);obtain⟨c,h⟩|⟨c,h⟩:=io h
  ·have⟨ha7,h⟩:=gd h;have⟨ha8,h⟩:=gd h;cases h;exact rn 21 (o [b0,b1]) [] [1,4,5,11,12,13] [0,1,2,10,11,12,13,14] (Qa ha8 (Qa ha7 (Qa c q)))
  have⟨ha7,h⟩:=gd h;cases h;exact rn 21 (o [b0,b0]) [] [1,4,5,11,12,13] [0,1,2,10,11,12,13,14] (Qa ha7 (Qa (QA c) q))
 cases h;exact rx 21 [b0] [] [4,5] [0,1,2,10,11,12,13,14] (Qa (jEj a) QL)
def VV (n:Nat)(a0:jSj)(a1 a2:jVj)(a3 a4:Int)(a5 a6:Bool)(a7 a8 e:Int)(a b c:jVj):Option (Int×Int) := (Q2 (Vu n a0 a1 a2 a3 a4 a5 a6 a7 a8 e a b c) n (0,0,0)).bind fun d=>some (d.1,d.2)
theorem GU {n a0 a1 a2 a3 a4 a5 a6 a7 a8 e a b c r}(h:VV n a0 a1 a2 a3 a4 a5 a6 a7 a8 e a b c=some r):ComputesO cx 66 [.ptr 0 0 0 0 2,.d (Qr5 a0)] (some (Qb a1 a2 a3 a4 a5 a6 a7 a8 e a b c)) (.d (.agg [I r.1,I r.2])) (Qb a1 a2 a3 a4 a5 a6 a7 a8 e a b c) ZV:=by unfold VV at h;have⟨t1,h1,h⟩:=bo h;cases h;exact rfO 0 [.lp [] [1,4,5,11,12,13] [0,1,2,10,11,12,13,14] (.exit 0) [(4,.ptr 13 0 0 0 0),(5,.ptr 14 0 0 0 0)] [(0,.box (.agg [.own 1 0,.own 2 0,.d (I a3),.d (I a4),.d (B a5),.d (B a6),.d (I a7),.d (I a8),.d (I e),.own 10 0,.own 11 0,.own 12 0])),(1,.row 0 5 a1),(2,.row 0 5 a2),(10,.row 0 1 a),(11,.row 0 6 b),(12,.row 0 7 c),(13,.box (.d (.agg [I 0,I 0]))),(14,.box (.d (.agg [I t1.1,I t1.2])))] 55] (Qa (QH Jp h1) QL)
def Qd2 (n:Nat)(a0 a1:jVj)(a:Int):Option (Int⊕Unit⊕Unit) := if a<((a0).length:Int) then(el Vt a0 a).bind fun b=>(el Vt a1 a).bind fun c=>if b=c then if Qh (a+1) then some (.inl (a+1)) else none else some (.inr (.inl ())) else some (.inr (.inr ()))
theorem Qed {n a0 a1}(c)(r)(h:Qd2 n a0 a1 c=some r):Rl (ZJ cx.P 47 0) 26 0 false (XA a0 a1) c r:=by
 unfold Qd2 at h;obtain⟨a,h⟩|⟨a,h⟩:=io h
 ·have⟨ta2,ha2,h⟩:=bo h;have⟨ta3,ha3,h⟩:=bo h;have q:=allE Qi ha3 (allE Qi ha2 (Qa (jDj a) QL));let o(l:jOj):=b1::.el (Q3 ta2)::.el (Q3 ta3)::l;obtain⟨b,h⟩|⟨b,h⟩:=io h
  ·have⟨ha5,h⟩:=gd h;cases h;exact rn 7 (o [b0]) [] [0,1,5] [] (Qa ha5 (Qa (nef b) q))
  cases h;exact rx 7 (o [b1]) [] [4] [] (Qa (net b) q)
 cases h;exact rx 7 [b0] [] [] [] (Qa (jEj a) QL)
def Qd7 (n:Nat)(a0 a1:jVj):Option (Bool) := if((a0).length:Int)=((a1).length:Int) then(Q2 (Qd2 n a0 a1) n 0).bind fun a=>match a with|.inl a=>(some false)|.inr a=>(some true) else some false
theorem Qep {n a0 a1 r}(h:Qd7 n a0 a1=some r):Computes cx 47 [.lst false 1 a0,.lst false 1 a1] (B r):=by
 unfold Qd7 at h;obtain⟨a,h⟩|⟨a,h⟩:=io h
 ·have q:=Qa (nef a) QL;have⟨b,h2,h⟩:=bo h;obtain b|b:=b
  ·obtain rfl:=oi h;exact rf [b0,.lp [] [0,1,5] [] .ret [(4,.d (B false))] [] 34] (Qa (QH Qed h2) q)
  obtain rfl:=oi h;exact rf [b0,.lp [] [0,1,5] [] (.exit 0) [] [] 34] (Qa (QH Qed h2) q)
 obtain rfl:=oi h;exact rf [b1] (Qa (net a) QL)
def Qd0 (n:Nat)(a0 a1:jVj)(c:Int):Option (Int⊕Unit⊕Unit) := if c<((a0).length:Int) then(el Ze a0 c).bind fun a=>(el Ze a1 c).bind fun b=>if a.1=b.1 then if(!(a.2.1.toList==b.2.1.toList))=true then some (.inr (.inl ())) else(Z5 n a.2.2.1 b.2.2.1).bind fun d=>if d=true then(Qd7 n a.2.2.2.1 b.2.2.2.1).bind fun e=>if e=true then if(!(a.2.2.2.2.toList==b.2.2.2.2.toList))=true then some (.inr (.inl ())) else if Qh (c+1) then some (.inl (c+1)) else none else some (.inr (.inl ())) else some (.inr (.inl ())) else some (.inr (.inl ())) else some (.inr (.inr ()))
noncomputable def Qef (a0 a1:jVj):Lp (Int) (Unit⊕Unit):=⟨fun a=>[(0,.d (.lst false 5 a0)),(1,.d (.lst false 5 a1)),(5,.d (I a))],fun _=>[],fun
 | (.inl e)=>.ret
 | (.inr e)=>(.exit 0),fun
 | (.inl e)=>[(4,.d (B false))]
 | (.inr e)=>[],fun _=>[]⟩
theorem Qeb {n a0 a1}(g)(r)(h:Qd0 n a0 a1 g=some r):Rl (ZJ cx.P 10 0) 82 0 false (Qef a0 a1) g r:=by
 unfold Qd0 at h;obtain⟨b,h⟩|⟨b,h⟩:=io h
 ·have⟨ta2,ha2,h⟩:=bo h;have⟨ta3,ha3,h⟩:=bo h;have q:=allE Ql ha3 (allE Ql ha2 (Qa (jDj b) QL));let o(l:jOj):=b1::.el (QP ta2)::.el (QP ta3)::l;obtain⟨c,h⟩|⟨c,h⟩:=io h
  ·have q:=allE Ql ha3 (allE Ql ha2 (Qa (nef c) q));let o l:=o (b0::.el (QP ta2)::.el (QP ta3)::l);obtain⟨d,h⟩|⟨d,h⟩:=io h
   ·cases h;exact rx 7 (o [b1,.no,.no,.no]) [] [4] [] (Qa d q)
   have⟨ta6,ha6,h⟩:=bo h;have q:=Qa (V9 ha6) (allE Ql ha3 (allE Ql ha2 (Qa (QA d) q)));let o l:=o (b0::.el (QP ta2)::.el (QP ta3)::.ret (B ta6)::l);obtain⟨e,h⟩|⟨e,h⟩:=io h
   ·have⟨ta8,ha8,h⟩:=bo h;have q:=Qa (Qep ha8) (allE Ql ha3 (allE Ql ha2 (Qa (Ud e) q)));let o l:=o (b0::.el (QP ta2)::.el (QP ta3)::.ret (B ta8)::l);obtain⟨f,h⟩|⟨f,h⟩:=io h
    ·have q:=allE Ql ha3 (allE Ql ha2 (Qa (Ud f) q));let o l:=o (b0::.el (QP ta2)::.el (QP ta3)::l);obtain⟨a,h⟩|⟨a,h⟩:=io h
     ·cases h;exact rx 7 (o [b1]) [] [4] [] (Qa a q)
     have⟨ha11,h⟩:=gd h;cases h;exact rn 7 (o [b0]) [] [0,1,5] [] (Qa ha11 (Qa (QA a) q))
    cases h;exact rx 7 (o [b1,.no]) [] [4] [] (Qa (Uc (QA f)) q)
   cases h;exact rx 7 (o [b1,.no,.no]) [] [4] [] (Qa (Uc (QA e)) q)
  cases h;exact rx 7 (o [b1,.no,.no,.no,.no]) [] [4] [] (Qa (net c) q)
 cases h;exact rx 7 [b0] [] [] [] (Qa (jEj b) QL)
def Qd1 (n:Nat)(a0 a1:jVj):Option (Bool) := if((a0).length:Int)=((a1).length:Int) then(Q2 (Qd0 n a0 a1) n 0).bind fun a=>match a with|.inl a=>(some false)|.inr a=>(some true) else some false
theorem Qee {n a0 a1 r}(h:Qd1 n a0 a1=some r):Computes cx 10 [.lst false 5 a0,.lst false 5 a1] (B r):=by
 unfold Qd1 at h;obtain⟨a,h⟩|⟨a,h⟩:=io h
 ·have q:=Qa (nef a) QL;have⟨b,h2,h⟩:=bo h;obtain b|b:=b
  ·obtain rfl:=oi h;exact rf [b0,.lp [] [0,1,5] [] .ret [(4,.d (B false))] [] 90] (Qa (QH Qeb h2) q)
  obtain rfl:=oi h;exact rf [b0,.lp [] [0,1,5] [] (.exit 0) [] [] 90] (Qa (QH Qeb h2) q)
 obtain rfl:=oi h;exact rf [b1] (Qa (net a) QL)
def Qfd (n:Nat)(a0:jVj)(a1:Int)(a2:jSj)(a3 a4:jVj)(a5:jSj):Option (Int) := (Vo n a0).bind fun a=>if a.2.2.2.2.2.2.2.2.2.2.2=0 then(WV n a1 a2 a3 a4 a5).bind fun b=>if b=0 then if((a0).length:Int)>=1000 then some 5 else if Wa 88 (0+(a0).length) then if Wa 88 ((a0).length+1) then(Vo n (a0++([.agg [I a1,.v (.string a2),.lst false 1 a3,.lst false 1 a4,.v (.string a5)]]:jVj))).bind fun c=>some c.2.2.2.2.2.2.2.2.2.2.2 else none else none else some b else some a.2.2.2.2.2.2.2.2.2.2.2
theorem Qfw {n a0 a1 a2 a3 a4 a5 r}(h:Qfd n a0 a1 a2 a3 a4 a5=some r):Computes cx 34 [.lst false 5 a0,.agg [I a1,Qr5 a2,.lst false 1 a3,.lst false 1 a4,Qr5 a5]] (I r):=by
 unfold Qfd at h;have⟨t1,h1,h⟩:=bo h;have q:=Qa (je h1) QL;let o(l:jOj):=.ret (.tup [.agg [I t1.1,I t1.2.1,B t1.2.2.1,B t1.2.2.2.1,I t1.2.2.2.2.1,I t1.2.2.2.2.2.1,I t1.2.2.2.2.2.2.1,.lst false 1 t1.2.2.2.2.2.2.2.1,.lst false 6 t1.2.2.2.2.2.2.2.2.1,.lst false 7 t1.2.2.2.2.2.2.2.2.2.1],I t1.2.2.2.2.2.2.2.2.2.2.1,I t1.2.2.2.2.2.2.2.2.2.2.2])::l;obtain⟨a,h⟩|⟨a,h⟩:=io h
 ·have⟨t3,h3,h⟩:=bo h;have q:=Qa (K7 h3) (Qa (eqt a) q);let o l:=o (b1::.ret (I t3)::l);obtain⟨b,h⟩|⟨b,h⟩:=io h
  ·have q:=Qa (nef b) q;obtain⟨c,h⟩|⟨c,h⟩:=io h
   ·obtain rfl:=oi h;exact rf (o [b0,b1]) (Qa (jDj c) q)
   have⟨h6,h⟩:=gd h;have⟨h7,h⟩:=gd h;have⟨t8,h8,h⟩:=bo h;obtain rfl:=oi h;exact rf (o [b0,b0,.ix (-8),b1,b1,.ix (-7),.ret (.tup [.agg [I t8.1,I t8.2.1,B t8.2.2.1,B t8.2.2.2.1,I t8.2.2.2.2.1,I t8.2.2.2.2.2.1,I t8.2.2.2.2.2.2.1,.lst false 1 t8.2.2.2.2.2.2.2.1,.lst false 6 t8.2.2.2.2.2.2.2.2.1,.lst false 7 t8.2.2.2.2.2.2.2.2.2.1],I t8.2.2.2.2.2.2.2.2.2.2.1,I t8.2.2.2.2.2.2.2.2.2.2.2])]) (Qa (je h8) (Qa (ro 39 h7) (Qa (ro 39 h6) (Qa (jEj c) q))))
  obtain rfl:=oi h;exact rf (o [b1]) (Qa (net b) q)
 obtain rfl:=oi h;exact rf (o [b0,b1]) (Qa (net a) (Qa (eqf a) q))
end Go.Proofs.YtabbjgnpiijghaaGreatDoor
