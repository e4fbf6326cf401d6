/- Own texts. -/
import Derived.Test.YtjbgbmjgfgdnhaaProg
import Derived.Test.YtjbgbmjgfgdnhaaSxTwentyEight
import Derived.KernelRfl
import Derived.Below
import Derived.Lib.LaidTab
import GoSem.ClaimChange
import Derived.ProofKit
import Derived.OpenShut
import Derived.WideShapes
import Derived.ChangeStays
import Derived.ChangeSame
set_option linter.unusedSimpArgs false
set_option linter.unusedVariables false
set_option linter.unnecessarySimpa false
namespace Go.Proofs.Ytjbgbmjgfgdnhaa
open Go.SX Go.RowKit
noncomputable def cx:Cx:={ P:=Try.prog,G:=fun _=>none }
theorem Qdt:(Try.prog.funcs.toList.all fun a=>!(a.body.isSome&&(a.name=="runtime.NumGoroutine")))=true:=by kernel_rfl
theorem QuW:NoAsk cx:=Qcp _ _ Qdt
theorem wH:cx.P.follows .mixedOrders=true:=by kernel_rfl
theorem run {n:Nat}{f:FuncId}{a:jVj}{orc:List Orc}{r:D}{b:List Prop}(h:ut true n cx f a orc=some (r,b))(c:All b):Computes cx f a r:=qh QuW wH h c
theorem QcZ {n:Nat}{f:FuncId}{a:List AV}{i:Option (List OC)}{b:Nat}{ks:List Bool}{orc:List Orc}{r:AV}{cs:List OC}{c:List Prop}(d:All c)(h:Qcd n cx f a i b cs ks orc=some (r,cs,c)):ComputesO cx f a i r cs ks:=Eb QuW wH h d
theorem QH {S E:Type}{c:Code}{d vis:Nat}{rnd:Bool}{T:S->List (Nat×AV)}{H:S->List (Nat×Blk)}{X:E->Ex}{b:E->List (Nat×AV)}{a:E->List (Nat×Blk)}
  {step:S->Option (S⊕E)} (f:∀s r,step s=some r->Rd cx c d vis rnd T H X b a s r) {n:Nat} {s:S} {e:E} (h:Q2 step n s=some e):kZ cx c d vis rnd (T s) (H s) (X e) (b e) (a e):=uN QuW wH f n s e h
theorem dr_v {w:World}{F:Nat->Prop}{x y:Value}(h:DR w F (.v x) y):y=x:=by cases h;rfl
theorem str9:cx.P.underlying 9=some .string:=by kernel_rfl
theorem Zq {s:jSj}{i x:Int}(h:WQ s i=some x):QV cx.P (Instr.index 9 (.string s) (.int .i64 i))=some (.int .u8 x):=QbM str9 h
theorem bo {a b:Type}{x:Option a}{f:a->Option b}{r:b}(h:x.bind f=some r):∃t,x=some t/\f t=some r:=ZX h
theorem gd {a:Type}{p:Prop}[Decidable p]{x:Option a}{r:a}(h:(if p then x else none)=some r):p/\x=some r:=Qdz h
theorem it {a:Type}{p:Prop}[Decidable p]{x y:Option a}{r:a}(h:(if p then x else y)=some r)(hp:p):x=some r:=QdT h hp
theorem jf {a:Type}{p:Prop}[Decidable p]{x y:Option a}{r:a}(h:(if p then x else y)=some r)(hp:¬p):y=some r:=QdU h hp
theorem oi {c:Type}{a b:c}(h:some a=some b):a=b:=Option.some.inj h
abbrev Qr5 (s:jSj):D:=.v (.string s)
theorem leF {f:FuncId}{k:Nat}{l:jVj}{r:D}(h:Computes cx f [.lst false k l] r):Computes cx f [.lst true k l] r:=h.le (.cons (.full _ _ _) (.nil)) (.refl _)
inductive Kd
 | int (k:IntKind)
 | bool
 | str
 | flt (k:FloatKind)
 | lst (agg:Bool) (ks:List Kd)
mutual
def Kd.ok:Kd->D->Prop
 | .int k,d=>∃n,d=.v (.int k n)/\k.min<=n/\n<=k.max
 | .bool,d=>∃b,d=.v (.bool b)
 | .str,d=>∃s,d=.v (.string s)/\s.size<=maxLen
 | .flt k,d=>∃b,d=.v (.float k b)/\(Lit.float k b).wf=true
 | .lst agg ks,d=>∃es,d=.lst false ks.length es/\es.length<=maxLen/\∀e,e∈es->match agg with
  | true=>∃cs,e=.agg cs/\Kd.oks ks cs
  | false=>Kd.oks ks [e]
def Kd.oks:List Kd->jVj->Prop
 | [],ds=>ds=[]
 | k::ks,ds=>∃d r,ds=d::r/\Kd.ok k d/\Kd.oks ks r
end
def Xn (P:Program)(f:TypeId->Option (List Kd)):Nat->List Field->Option (List Kd)
 | _,[]=>some []
 | off,fd::l=>match f fd.type with
  | some ks=>match Nat.beq fd.offset off&&Nat.beq ks.length (P.cellsOf fd.type),Xn P f (off+ks.length) l with
   | true,some r=>some (ks++r)
   | _,_=>none
  | none=>none
def Uf (P:Program):Nat->TypeId->Option (List Kd)
 | 0,_=>none
 | n+1,t=>match P.underlying t with
  | some (.int k)=>some [.int k]
  | some .bool=>some [.bool]
  | some .string=>some [.str]
  | some (.float k)=>some [.flt k]
  | some (.slice e)=>match Uf P n e,P.underlying e with
   | some ks,some (.struct _)=>match Nat.beq ks.length (P.cellsOf e)&&Nat.blt 0 ks.length with
    | true=>some [.lst true ks]
    | false=>none
   | some ks,some (.array _ _)=>match Nat.beq ks.length (P.cellsOf e)&&Nat.blt 0 ks.length with
    | true=>some [.lst true ks]
    | false=>none
   | some ks,some _=>match Nat.beq ks.length (P.cellsOf e)&&Nat.beq 1 ks.length with
    | true=>some [.lst false ks]
    | false=>none
   | _,_=>none
  | some (.struct fs)=>match Xn P (Uf P n) 0 fs.toList with
   | some ks=>match Nat.beq ks.length (P.cellsOf t) with
    | true=>some ks
    | false=>none
   | none=>none
  | some (.array m e)=>match Uf P n e with
   | some ks=>match Nat.beq ks.length (P.cellsOf e)&&Nat.beq (m*ks.length) (P.cellsOf t) with
    | true=>some (List.replicate m ks).flatten
    | false=>none
   | none=>none
  | _=>none
def Reads (W:World):jVj->List Value->Prop
 | [],[]=>True
 | d::ds,v::vs=>(DR W (fun _=>False) d v/\one v=true)/\Reads W ds vs
 | _,_=>False
theorem Reads.append {W:World}:∀{a:jVj} {x:List Value} {b:jVj} {y:List Value},Reads W a x->Reads W b y->Reads W (a++b) (x++y)
 | [],[],_,_,_,h=>h
 | _::_,_::_,_,_,h,k=>⟨h.1,Reads.append h.2 k⟩
 | [],_::_,_,_,h,_=>h.elim
 | _::_,[],_,_,h,_=>h.elim
theorem Reads.len {W:World}:∀{a:jVj} {x:List Value},Reads W a x->a.length=x.length
 | [],[],_=>rfl
 | _::_,_::_,h=>by simp[Reads.len h.2]
 | [],_::_,h=>h.elim
 | _::_,[],h=>h.elim
theorem Reads.at {W:World}:∀{a:jVj} {x:List Value},Reads W a x->∀(i:Nat) (d:D) (v:Value),a[i]?=some d->x[i]?=some v->DR W (fun _=>False) d v/\one v=true
 | [],[],_,i,d,v,h,_=>by simp at h
 | _::_,_::_,hh,0,d,v,h,k=>by simp at h k;subst h;subst k;exact hh.1
 | _::_,_::_,hh,i+1,d,v,h,k=>Reads.at hh.2 i d v (by simpa using h) (by simpa using k)
 | [],_::_,h,_,_,_,_,_=>h.elim
 | _::_,[],h,_,_,_,_,_=>h.elim
theorem Ez:∀{a b:List Kd} {x y:jVj},Kd.oks a x->Kd.oks b y->Kd.oks (a++b) (x++y)
 | [],_,x,y,h,k=>by unfold Kd.oks at h;subst h;exact k
 | q::a,b,x,y,h,k=>by unfold Kd.oks at h;obtain⟨d,r,rfl,c,e⟩:=h;show Kd.oks (q::(a++b)) (d::(r++y));unfold Kd.oks;exact⟨d,r++y,rfl,c,Ez e k⟩
theorem Jw:∀{a:List Kd} {x:jVj},Kd.oks a x->x.length=a.length
 | [],x,h=>by unfold Kd.oks at h;subst h;rfl
 | q::a,x,h=>by unfold Kd.oks at h;obtain⟨d,r,rfl,c,b⟩:=h;simp[Jw b]
theorem Qc1 {k:Kd}{d:D}(h:Kd.ok k d):Kd.oks [k] [d]:=by unfold Kd.oks;exact⟨d,[],rfl,h,by unfold Kd.oks;rfl⟩
section
variable {H:Type}{enc:TypeId×Value->H}{P:Program}{W:World}{base:Nat}{sp:Nat->Bool}{held:Bool}
theorem qD {W:World}{k:Kd}{d:D}{v:Value}(b:Kd.ok k d)(c:DR W (fun _=>False) d v)(e:one v=true):∃a,Kd.oks [k] a/\Reads W a [v]:=⟨[d],Qc1 b,⟨c,e⟩,trivial⟩
theorem zH {f:TypeId->Option (List Kd)}{g:TypeId->List Value->Prop}(j:∀t cs ks,f t=some ks->g t cs->∃a,Kd.oks ks a/\Reads W a cs){cs:List Value} :
  ∀(i:List Field) (off:Nat) (ks:List Kd),Xn P f off i=some ks->(∀fd,fd∈i->g fd.type ((cs.drop fd.offset).take (P.cellsOf fd.type)))->cs.length=off+ks.length->∃a,Kd.oks ks a/\Reads W a (cs.drop off)
 | [],off,ks,h,_,hl=>by simp only[Xn,jIj] at h;subst h;refine⟨[],by unfold Kd.oks;rfl,?_⟩;rw[List.drop_eq_nil_of_le (by simp at hl;omega)];trivial
 | fd::l,off,ks,h,hg,hl=>by
  unfold Xn at h;split at h;case h_2=>cases h
  rename_i o e;split at h;case h_2=>cases h
  rename_i r d m;simp only[jIj] at h;subst h;simp only[jAj,Nat.beq_eq] at d;obtain⟨b,a1,b1⟩:=j _ _ _ e (hg fd jMj);rw[jaj] at hl;obtain⟨c,a2,k⟩:=zH j l (off+o.length) r m (fun x n=>hg x (jmj _ n)) (by omega);refine⟨b++c,Ez a1 a2,?_⟩;have:=b1.append k;rw[d.1,<-d.2,<-List.drop_drop,List.take_append_drop] at this;exact this
theorem wZ {ks:List Kd}{cs:List Value}{m:Nat}(f:∀i,i<m->∃a,Kd.oks ks a/\Reads W a ((cs.drop (i*ks.length)).take ks.length))(g:cs.length=m*ks.length) :
  ∀j,j<=m->∃a,Kd.oks (List.replicate j ks).flatten a/\Reads W a (cs.drop ((m - j)*ks.length))
 | 0,_=>by refine⟨[],by unfold Kd.oks;rfl,?_⟩;rw[List.drop_eq_nil_of_le (by simp[g])];trivial
 | j+1,hj=>by
  obtain⟨c,a2,d⟩:=wZ f g j (by omega);obtain⟨b,a1,b1⟩:=f (m - (j+1)) (by omega);refine⟨b++c,by rw[List.replicate_succ,List.flatten_cons];exact Ez a1 a2,?_⟩;have e:(m - j)*ks.length=(m - (j+1))*ks.length+ks.length:=by rw[show m - j=m - (j+1)+1 by omega,Nat.add_mul,Nat.one_mul]
  rw[e] at d;have:=b1.append d;rw[<-List.drop_drop,List.take_append_drop] at this;exact this
theorem qJ {e g:Type}{f:e->Option g}:∀{l:List e} {r:List g},l.mapM f=some r->∀a,a∈l->∃b,f a=some b
 | [],_,_,a,c=>by cases c
 | x::l,r,h,a,c=>by
  simp only[List.mapM_cons,Option.bind_eq_bind,Option.bind_eq_some_iff,Option.pure_def,jIj] at h;obtain⟨b,i,j,d,rfl⟩:=h;obtain rfl|c:=List.mem_cons.1 c
  ·exact⟨b,i⟩
  ·exact qJ d a c
theorem yg {a:Nat}{t:TypeId}{d:Array Field}{cs:List Value}{x:DataW H×List MemPlace}(g:P.underlying t=some (.struct d))(h:DataW.trod enc P W base sp held a t cs=some x) :
  ∃n,a=n+1/\cs.length=P.cellsOf t/\∀b,b∈d.toList->∃y,DataW.trod enc P W base sp held n b.type ((cs.drop b.offset).take (P.cellsOf b.type))=some y:=by
 cases a with
 | zero=>simp[DataW.trod] at h
 | succ n =>
  refine⟨n,rfl,?_⟩;simp only[DataW.trod,g] at h;split at h;case isFalse=>cases h
  rename_i e;simp only[Option.map_eq_some_iff] at h;obtain⟨r,f,_⟩:=h;exact⟨e,fun b c=>qJ f b c⟩
theorem uk {a:Nat}{t e:TypeId}{m:Nat}{cs:List Value}{x:DataW H×List MemPlace}(f:P.underlying t=some (.array m e))(h:DataW.trod enc P W base sp held a t cs=some x) :
  ∃n,a=n+1/\cs.length=P.cellsOf t/\∀i,i<m->∃y,DataW.trod enc P W base sp held n e ((cs.drop (i*P.cellsOf e)).take (P.cellsOf e))=some y:=by
 cases a with
 | zero=>simp[DataW.trod] at h
 | succ n =>
  refine⟨n,rfl,?_⟩;simp only[DataW.trod,f] at h;split at h;case isFalse=>cases h
  rename_i c;simp only[Option.map_eq_some_iff] at h;obtain⟨r,d,_⟩:=h;exact⟨c,fun i b=>qJ d i (by simpa using b)⟩
theorem uj {a:Nat}{t:TypeId}{k:FloatKind}{cs:List Value}{x:DataW H×List MemPlace}(c:P.underlying t=some (.float k))(h:DataW.trod enc P W base sp held a t cs=some x) :
  ∃b,cs=[.float k b]/\(Lit.float k b).wf=true:=by
 cases a with
 | zero=>simp[DataW.trod] at h
 | succ n =>
  unfold DataW.trod at h;rw[c] at h;split at h<;>simp_all
theorem Ep {agg:Bool}{ks:List Kd}{J:Nat}{t e:TypeId}{cs:List Value}{x:DataW H×List MemPlace}(ht:P.underlying t=some (.slice e))(h:DataW.trod enc P W base sp held J t cs=some x)
  (hk:ks.length=P.cellsOf e) (N:0<ks.length) (h1:agg=false->ks.length=1)
  (ih:∀(n:Nat) (c:List Value) (y:DataW H×List MemPlace),DataW.trod enc P W base sp held n e c=some y->∃f,Kd.oks ks f/\Reads W f c) :
  ∃f,Kd.oks [.lst agg ks] f/\Reads W f cs:=by
 obtain⟨rfl,_⟩|⟨a,len,cap,X,a7,n,_,rfl,_,hb,hl,hm,a6,a3,_,_⟩:=DataW.trod_slice ht h
 ·refine qD (d:=.lst false ks.length []) ?_ ?_ rfl
  ·unfold Kd.ok;exact⟨[],rfl,Nat.zero_le _,fun e l=>by cases l⟩
  ·exact .lst false ks.length [] none 0 0 0 (fun _=>.nilIface) (fun h=>by cases h) (jLj _) (fun h=>absurd rfl h) (by simp) (by simp) (by simp)
 ·have each:∀i,i<len->∃f c,Kd.oks ks f/\Reads W f c/\c.length=ks.length/\∀j,j<ks.length->W.cell? ((a.add (i*ks.length)).add j)=c[j]?:=by
   intro i p;have Y:=a3 i p;rw[jej (by omega),<-hk] at Y;rw[Option.bind_eq_some_iff] at Y;obtain⟨c,hc,hy⟩:=Y;obtain⟨f,U,V⟩:=ih _ _ _ hy;refine⟨f,c,U,V,by rw[<-V.len,Jw U],fun j q=>?_⟩;unfold World.cells? at hc;split at hc;case isFalse=>cases hc
   have a8:c.length=ks.length:=by rw[<-V.len,Jw U]
   obtain⟨b,a1,a2⟩:=Lib.mapM_at hc j j (by simp[q]);rw[a1,a2]
  let f (i:Nat):jVj:=if p:i<len then Classical.choose (each i p) else[];let O (d:jVj):D:=if agg then .agg d else d.headD (.v .nilIface);have u:∀i,i<len->∃c,Kd.oks ks (f i)/\Reads W (f i) c/\c.length=ks.length/\∀j,j<ks.length->W.cell? ((a.add (i*ks.length)).add j)=c[j]?:=by intro i p;have:=Classical.choose_spec (each i p);simp only[f,dif_pos p];exact this
  have E:∀(k:Kd) (d:D),Kd.ok k d->d.cells=[d]:=by
   intro k d G;cases k<;>simp only[Kd.ok] at G
   ·obtain⟨n,rfl,_⟩:=G;rfl
   ·obtain⟨n,rfl⟩:=G;rfl
   ·obtain⟨n,rfl,_⟩:=G;rfl
   ·obtain⟨n,rfl,_⟩:=G;rfl
   ·obtain⟨n,rfl,_⟩:=G;rfl
  have F:∀i,i<len->(O (f i)).cells=f i:=by
   intro i p;obtain⟨c,m,_⟩:=u i p;simp only[O];split
   ·rfl
   ·rename_i a0;have S:=h1 (by simpa using a0);have K:=Jw m;rw[S] at K;match hdi:f i,K with
    | [d],_ =>
     rw[hdi] at m;match hks:ks,S with
     | [k],_ =>
      unfold Kd.oks at m;obtain⟨d',r',e1,e2,e3⟩:=m;cases e1;exact E k d e2
  have Z:0<len->a=⟨a.block,a.off,none⟩/\a.block<W.heap.size:=by
   intro Q;obtain⟨c,m,c2,c3,T⟩:=u 0 Q;have A:=T 0 N;rw[jej (by omega)] at A;have e0:(a.add (0*ks.length)).add 0=a:=by simp[Addr.add]
   rw[e0] at A;unfold World.cell? at A;split at A
   ·rename_i q1 q2 q3 C;split at A
    ·cases A
    ·rename_i hs;refine⟨?_,?_⟩
     ·revert hs;obtain⟨b,o,s⟩:=a;cases s with
      | none=>intro _;rfl
      | some s=>intro hs;exact absurd rfl hs
     ·obtain h|h:=Nat.lt_or_ge a.block W.heap.size
      ·exact h
      ·have:W.heap[a.block]?=some _:=C;rw[Array.getElem?_eq_none h] at this;cases this
   ·cases A
  have r:∀(i j:Nat) (c:D),i<len->(f i)[j]?=some c->∃v,W.cell? ⟨a.block,a.off+(i*ks.length+j),none⟩=some v/\DR W (fun _=>False) c v/\one v=true:=by
   intro i j c p q;obtain⟨c',m,c2,c3,T⟩:=u i p;have L:j<(f i).length:=(jGj q).1;rw[Jw m] at L;have h6:=T j L;have hv:c'[j]?=some (c'[j]'(by omega)):=jej (by omega);rw[hv] at h6;refine⟨_,?_,c2.at j _ _ q hv⟩;have e:(a.add (i*ks.length)).add j=⟨a.block,a.off+(i*ks.length+j),none⟩:=by rw[(Z (by omega)).1,Go.SX.add_at,Go.SX.add_at,Nat.add_assoc]
   rw[<-h6,e]
  refine qD (d:=.lst false ks.length ((List.range len).map fun i=>O (f i))) ?_ ?_ rfl
  ·unfold Kd.ok;refine⟨_,rfl,by simp;omega,fun e l=>?_⟩;simp only[List.mem_map,List.mem_range] at l;obtain⟨i,p,rfl⟩:=l;obtain⟨c,m,_⟩:=u i p;cases agg with
   | true=>exact⟨f i,rfl,m⟩
   | false =>
    have S:=h1 rfl;have K:=Jw m;rw[S] at K;simp only[O];match hdi:f i,K with
    | [d],_=>rw[hdi] at m;exact m
  ·have a5:=DR.lst (w:=W) (M:=fun _=>False) false ks.length ((List.range len).map fun i=>O (f i)) (some a) cap a.block a.off (fun k=>(W.cell? ⟨a.block,a.off+k,none⟩).getD .nilIface)
    (fun h=>by cases h) (by simp;omega)
    (fun a4=>by
     have Q:0<len:=by
      obtain h|h:=Nat.eq_zero_or_pos len
      ·subst h;simp at a4
      ·exact h
     exact⟨by rw[<-(Z Q).1],fun h=>h,(Z Q).2⟩)
    (fun i e l=>by rw[List.getElem?_map] at l;simp only[Option.map_eq_some_iff] at l;obtain⟨k,z,rfl⟩:=l;obtain⟨g,rfl⟩:=jGj z;simp only[List.length_range] at g;simp only[List.getElem_range];obtain⟨c,m,_⟩:=u i g;rw[F i g,Jw m])
    (fun i e j c l q=>by rw[List.getElem?_map] at l;simp only[Option.map_eq_some_iff] at l;obtain⟨k,z,rfl⟩:=l;obtain⟨g,rfl⟩:=jGj z;simp only[List.length_range] at g;simp only[List.getElem_range] at q;rw[F i g] at q;obtain⟨v,v1,v2,v3⟩:=r i j c g q;simp only[v1,Option.getD_some];exact⟨trivial,v3⟩)
    (fun i e j c l q=>by rw[List.getElem?_map] at l;simp only[Option.map_eq_some_iff] at l;obtain⟨k,z,rfl⟩:=l;obtain⟨g,rfl⟩:=jGj z;simp only[List.length_range] at g;simp only[List.getElem_range] at q;rw[F i g] at q;obtain⟨v,v1,v2,v3⟩:=r i j c g q;simp only[v1,Option.getD_some];exact v2)
   simpa using a5
theorem Kz:∀(d:Nat) (p:Nat) (t:TypeId) (cs:List Value) (x:DataW H×List MemPlace) (ks:List Kd),Uf P d t=some ks->DataW.trod enc P W base sp held p t cs=some x->∃z,Kd.oks ks z/\Reads W z cs
 | 0,_,_,_,_,_,h,_=>by cases h
 | d+1,p,t,cs,x,ks,h,hx=>by
  unfold Uf at h;split at h
  ·rename_i k l;cases h;obtain⟨n,rfl,_,r⟩:=DataW.trod_int l hx;simp only[Lit.wf,jAj,decide_eq_true_eq] at r;exact qD (by unfold Kd.ok;exact⟨n,rfl,r⟩) (.v _) rfl
  ·rename_i l;cases h;obtain⟨b,rfl,_⟩:=DataW.trod_bool l hx;exact qD (by unfold Kd.ok;exact⟨b,rfl⟩) (.v _) rfl
  ·rename_i l;cases h;obtain⟨s,rfl,_,J⟩:=DataW.trod_string l hx;exact qD (by unfold Kd.ok;exact⟨s,rfl,J⟩) (.v _) rfl
  ·rename_i k l;cases h;obtain⟨b,rfl,r⟩:=uj l hx;exact qD (by unfold Kd.ok;exact⟨b,rfl,r⟩) (.v _) rfl
  ·rename_i e l;split at h
   ·rename_i q _ a _;split at h;case h_2=>cases h
    rename_i j;cases h;simp only[jAj,Nat.beq_eq,Nat.blt_eq] at j;exact Ep l hx j.1 j.2 (fun h=>by cases h) fun n c y o=>Kz d n e c y _ a o
   ·rename_i q _ _ a _;split at h;case h_2=>cases h
    rename_i j;cases h;simp only[jAj,Nat.beq_eq,Nat.blt_eq] at j;exact Ep l hx j.1 j.2 (fun h=>by cases h) fun n c y o=>Kz d n e c y _ a o
   ·rename_i q _ _ _ a _;split at h;case h_2=>cases h
    rename_i j;cases h;simp only[jAj,Nat.beq_eq] at j;exact Ep l hx j.1 (by omega) (fun _=>j.2.symm) fun n c y o=>Kz d n e c y _ a o
   ·cases h
  ·rename_i A l;split at h;case h_2=>cases h
   rename_i q a;split at h;case h_2=>cases h
   rename_i j;cases h;simp only[Nat.beq_eq] at j;obtain⟨n,rfl,G,u⟩:=yg l hx;have:=zH (P:=P) (W:=W) (f:=Uf P d) (g:=fun t cs=>∃y,DataW.trod enc P W base sp held n t cs=some y) (fun t cs ks C E=>by obtain⟨y,o⟩:=E;exact Kz d n t cs y ks C o) A.toList 0 _ a u (by omega)
   rwa [List.drop_zero] at this
  ·rename_i m e l;split at h;case h_2=>cases h
   rename_i q a;split at h;case h_2=>cases h
   rename_i j;cases h;simp only[jAj,Nat.beq_eq] at j;obtain⟨n,rfl,G,u⟩:=uk l hx;have:=wZ (W:=W) (ks:=q) (cs:=cs) (m:=m) (fun i F=>by obtain⟨y,o⟩:=u i F;rw[<-j.1] at o;exact Kz d n e _ y _ a o) (by omega) m (jLj _)
   rwa [Nat.sub_self,Nat.zero_mul,List.drop_zero] at this
  ·cases h
end
set_option maxRecDepth 20000
open Go.WideShapes Go.ChangeShapes
def Qbs (P:Program)(t:TypeId):Prop:=∃d ks,Uf P d t=some ks
theorem E5 {P:Program}{f:TypeId->Option (List Kd)}:∀(d:List Field) (off:Nat) (ks:List Kd),Xn P f off d=some ks ->
  (∀fd,fd∈d->∃k,f fd.type=some k)/\ks.length=(d.map fun fd=>P.cellsOf fd.type).sum/\∀(j:Nat) fd,d[j]?=some fd->fd.offset=off+((d.take j).map fun fd=>P.cellsOf fd.type).sum
 | [],off,ks,h=>by simp only[Xn,jIj] at h;subst h;exact⟨fun _ h=>(by cases h),rfl,fun j fd h=>(by simp at h)⟩
 | fd::l,off,ks,h=>by
  unfold Xn at h;split at h;case h_2=>cases h
  rename_i o i;split at h;case h_2=>cases h
  rename_i r e n;simp only[jIj] at h;subst h;simp only[jAj,Nat.beq_eq] at e;obtain⟨a,b,c⟩:=E5 l _ r n;refine⟨fun x m=>?_,?_,fun j x g=>?_⟩
  ·obtain rfl|m:=List.mem_cons.1 m
   ·exact⟨_,i⟩
   ·exact a x m
  ·simp[b,e.2]
  ·cases j with
   | zero=>simp at g;subst g;simp[e.1]
   | succ j =>
    have:=c j x (by simpa using g);simp only[List.take_succ_cons,jCj,List.sum_cons];rw[this,e.2];omega
theorem Qat (P:Program):Kids P (Qbs P) where
 pointer:=fun {t e} h ht=>by
  obtain⟨d,ks,h⟩:=h;cases d with
  | zero=>cases h
  | succ d=>unfold Uf at h;rw[ht] at h;cases h
 slice:=fun {t e} h ht=>by
  obtain⟨d,ks,h⟩:=h;cases d with
  | zero=>cases h
  | succ d =>
   unfold Uf at h;rw[ht] at h;simp only at h;cases hk:Uf P d e with
   | none=>rw[hk] at h;simp at h
   | some k=>exact⟨d,k,hk⟩
 array:=fun {t e n} h ht=>by
  obtain⟨d,ks,h⟩:=h;cases d with
  | zero=>cases h
  | succ d =>
   unfold Uf at h;rw[ht] at h;simp only at h;split at h;case h_2=>cases h
   rename_i k1 hk1;split at h;case h_2=>cases h
   rename_i hb;simp only[jAj,Nat.beq_eq] at hb;exact⟨⟨d,_,hk1⟩,by rw[<-hb.2,hb.1]⟩
 struct:=fun {t fs} h ht=>by
  obtain⟨d,ks,h⟩:=h;cases d with
  | zero=>cases h
  | succ d =>
   unfold Uf at h;rw[ht] at h;simp only at h;split at h;case h_2=>cases h
   rename_i k1 hk1;split at h;case h_2=>cases h
   rename_i hb;simp only[Nat.beq_eq] at hb;obtain⟨a,b,c⟩:=E5 _ _ _ hk1;exact⟨fun f hf=>by obtain⟨k,hk⟩:=a f hf;exact⟨d,k,hk⟩,by rw[<-hb,b],fun j f hj=>by rw[c j f hj,Nat.zero_add]⟩
 map:=fun {t k e} h ht=>by
  obtain⟨d,ks,h⟩:=h;cases d with
  | zero=>cases h
  | succ d=>unfold Uf at h;rw[ht] at h;cases h
theorem QbC {P:Program}{t e:TypeId}(h:Qbs P t)(b:P.underlying t=some (.slice e)):0<P.cellsOf e:=by
 obtain⟨d,ks,h⟩:=h;cases d with
 | zero=>cases h
 | succ d =>
  unfold Uf at h;rw[b] at h;simp only at h;split at h
  ·split at h;case h_2=>cases h
   rename_i a;simp only[jAj,Nat.beq_eq,Nat.blt_eq] at a;omega
  ·split at h;case h_2=>cases h
   rename_i a;simp only[jAj,Nat.beq_eq,Nat.blt_eq] at a;omega
  ·split at h;case h_2=>cases h
   rename_i a;simp only[jAj,Nat.beq_eq] at a;omega
  ·cases h
def Xo (P:Program)(t:TypeId):Bool:=match P.underlying t with
 | some (.struct _)=>true
 | some (.array _ _)=>true
 | _=>false
def okA:Bool×List Kd->D->Prop
 | (true,ks),d=>∃cs,d=.agg cs/\Kd.oks ks cs
 | (false,ks),d=>Kd.oks ks [d]
def okAs:List (Bool×List Kd)->jVj->Prop
 | [],a=>a=[]
 | k::r,a=>∃d l,a=d::l/\okA k d/\okAs r l
def YK (P:Program):List TypeId->Option (List (Bool×List Kd))
 | []=>some []
 | t::ts=>match Uf P 12 t,YK P ts with
  | some ks,some r=>match Xo P t || Nat.beq ks.length 1 with
   | true=>some ((Xo P t,ks)::r)
   | false=>none
  | _,_=>none
section
variable {H:Type}{enc:TypeId×Value->H}{P:Program}{W:World}{base:Nat}{sp:Nat->Bool}{held:Bool}
theorem Qbz {r:Reach}{b0:Nat}{t:TypeId}{v:Value}{ks:List Kd}(g:Uf P 12 t=some ks)(b:Value.okWide P W r b0 t v)(f:Xo P t=false):v.cells=#[v]:=by
 unfold Uf at g;unfold Xo at f;split at g
 ·rename_i k d;obtain⟨n,rfl⟩:=okWide_int d b;rfl
 ·rename_i d;obtain⟨n,rfl⟩:=okWide_bool d b;rfl
 ·rename_i d;obtain⟨n,rfl⟩:=okWide_string d b;rfl
 ·rename_i k d;rw[Value.okWide,d] at b;cases v<;>simp_all [Cell.okWide,Cell.ok,Value.cells]
 ·rename_i e d;obtain⟨a,l,c,rfl⟩:=okWide_slice d b;rfl
 ·rename_i d;rw[d] at f;cases f
 ·rename_i d;rw[d] at f;cases f
 ·cases g
theorem Qaw {r:Reach}{b0:Nat}{t:TypeId}{v:Value}{d:DataW H}{p:List MemPlace}{ks:List Kd}(l:Uf P 12 t=some ks)(e:Value.okWide P W r b0 t v)(n:DataW.Trod enc P W base sp held t v d p)(j:(Xo P t || Nat.beq ks.length 1)=true) :
  ∃x,okA (Xo P t,ks) x/\DR W (fun _=>False) x v:=by
 obtain⟨f,o⟩:=n;obtain⟨g,a,b⟩:=Kz 12 f t _ _ ks l o;cases hag:Xo P t with
 | true =>
  have s:∃cs,v=.agg cs:=by
   unfold Xo at hag;unfold Value.okWide at e;split at hag
   ·rename_i k;rw[k] at e;obtain⟨cs,h,_⟩:=e;exact⟨cs,h⟩
   ·rename_i k;rw[k] at e;obtain⟨cs,h,_⟩:=e;exact⟨cs,h⟩
   ·cases hag
  obtain⟨cs,rfl⟩:=s;have hc:(Value.agg cs).cells.toList=cs.toList:=rfl;rw[hc] at b;have:=DR.agg (w:=W) (M:=fun _=>False) g cs.toList b.len (fun i c y hc u=>(b.at i c y hc u).1);exact⟨.agg g,⟨g,rfl,a⟩,by simpa using this⟩
 | false =>
  have q:=Qbz l e hag;rw[q] at b;rw[hag] at j;simp only[Bool.false_or,Nat.beq_eq] at j;have m:=Jw a;rw[j] at m;match g,m with
  | [x],_=>exact⟨x,a,(b.at 0 x v rfl rfl).1⟩
theorem kT {r:Reach}{b0:Nat}:∀{ts:List TypeId} {vs:List Value} {g:List (DataW H)} {p:List MemPlace} {f:List (Bool×List Kd)},DataW.TrodAll enc P W base sp held ts vs g p->YK P ts=some f ->
  (∀(j:Nat) t v,ts[j]?=some t->vs[j]?=some v->Value.okWide P W r b0 t v)->∃e:jVj,okAs f e/\e.length=vs.length/\∀(i:Nat) (c:D) (y:Value),e[i]?=some c->vs[i]?=some y->DR W (fun _=>False) c y
 | [],vs,g,p,f,h,hk,_=>by obtain⟨rfl,rfl,rfl⟩:=trodAll_nil h;cases hk;exact⟨[],rfl,rfl,fun i c y h=>by simp at h⟩
 | t::ts,vs,g,p,f,h,hk,hv=>by
  obtain⟨v,z,d,n,a,b,rfl,rfl,rfl,o,q⟩:=trodAll_cons h;unfold YK at hk;split at hk;case h_2=>cases hk
  rename_i ks r l u;split at hk;case h_2=>cases hk
  rename_i s;cases hk;obtain⟨x,A,C⟩:=Qaw l (hv 0 t v rfl rfl) o s;obtain⟨e,E,F,G⟩:=kT q u (fun j t v h k=>hv (j+1) t v (by simpa using h) (by simpa using k));refine⟨x::e,⟨x,e,rfl,A,E⟩,by simp[F],fun i c y hc m=>?_⟩;cases i with
  | zero=>simp at hc m;subst hc;subst m;exact C
  | succ i=>exact G i c y (by simpa using hc) (by simpa using m)
theorem jp:∀{ts:List TypeId} {c:List (Bool×List Kd)},YK P ts=some c->∀t,t∈ts->Qbs P t
 | [],_,_,t,h=>by cases h
 | t::ts,c,hk,u,b=>by
  unfold YK at hk;split at hk;case h_2=>cases hk
  rename_i ks r a d;obtain rfl|b:=List.mem_cons.1 b
  ·exact⟨_,_,a⟩
  ·exact jp d u b
theorem kS {j : World}{f : Nat->Bool}:∀{ts:List TypeId} {vs:List Value} {g:List (DataW H)} {p:List MemPlace},DataW.TrodAll enc P W base (fun _=>true) true ts vs g p->(∀t,t∈ts->Qbs P t) ->
  (∀q,q∈p->W.sameAt j q)->(∀q,q∈p->f q.block=true)->DataW.TrodAll enc P j base f true ts vs g p
 | [],vs,g,p,h,_,_,_=>by obtain⟨rfl,rfl,rfl⟩:=trodAll_nil h;exact rfl
 | t::ts,vs,g,p,h,hp,h3,h4=>by
  obtain⟨v,o,d,k,a,b,rfl,rfl,rfl,⟨e,l⟩,m⟩:=trodAll_cons h;exact⟨a,b,⟨e,DataW.trod_stays (Qat P) (fun i n=>QbC i n) (fun h=>by cases h) (hp t jMj) l (fun q c=>h3 q (List.mem_append_left _ c)) (fun q c=>h4 q (List.mem_append_left _ c))⟩,
   kS m (fun t i=>hp t (jmj _ i)) (fun q c=>h3 q (List.mem_append_right _ c)) (fun q c=>h4 q (List.mem_append_right _ c)),rfl⟩
end
theorem QbY {w w' : World}(h:Ext w (fun _=>False) w'):Below w.heap.size w w':=⟨h.os,h.tape,h.output,h.size,fun r a=>h.same r a (fun h=>h)⟩
theorem yl {W a : World}(h:Below W.heap.size W a){p:MemPlace}(hp:p.block<W.heap.size):W.sameAt a p:=by
 cases p with
 | cell b off =>
  show a.cell? ⟨b,off,none⟩=W.cell? ⟨b,off,none⟩;unfold World.cell?;rw[h.block b hp]
 | map b=>exact h.block b hp
theorem Qbx {H:Type}{enc:TypeId×Value->H}{P:Program}{w:World}{base:Nat}{sp:Nat->Bool}{held:Bool}{t:TypeId}(a:P.underlying t=some .bool):DataW.Trod enc P w base sp held t (.bool true) (.lit (.bool true)) [] :=
 ⟨1,by simp[DataW.trod,Value.cells,a]⟩
theorem Qac {f:FuncId}{k:Func}{spec:ChangeSpec}{X:List (Bool×List Kd)}{Q:TypeId}(C:YK Try.prog k.params.toList=some X)
  (hb:Try.prog.underlying Q=some .bool) (E:k.resultTypes=#[Q]) (i:spec.vars=[])
  (m:∀(H:Type) (c:List (DataW H)),c.length=k.params.size->spec.fn H c={ results:=[.lit (.bool true)],args:=c })
  (u:∀J,okAs X J->Computes cx f J (.v (.bool true)))
  (H:Type) (enc:TypeId×Value->H) (W:World) (base:Nat) (args:Array Value) (c Z:List (DataW H)) (before:List MemPlace)
  (F:∀(j:Nat) t v,k.params[j]?=some t->args[j]?=some v->Value.okWide Try.prog W .any base t v)
  (T:DataW.Whole enc Try.prog k.params.toList spec.vars false W args.toList c Z before)
  (hG:∀g x,cx.G g=some x->GAt W (fun _=>False) g x) :
  Calls Try.prog f args W fun e O=>∃v,e=.returned v/\spec.post enc Try.prog k false true false false W args v O:=by
 have o:=T;obtain⟨p,q,L,S,rfl,a0,a1⟩:=T;rw[i] at S;obtain⟨rfl,rfl⟩:=trodVars_none S;have n : ∀(j:Nat) t v,k.params.toList[j]?=some t->args.toList[j]?=some v->Value.okWide Try.prog W .any base t v:=by intro j t v U V;rw[Array.getElem?_toList] at U V;exact F j t v U V
 obtain⟨J,h1,K,h3⟩:=kT (H:=H) (enc:=enc) (P:=Try.prog) (W:=W) (base:=0) (sp:=fun _=>true) (held:=true) (r:=.any) (b0:=base) (ts:=k.params.toList) (vs:=args.toList) L C n;have hc:=u J h1 W (fun _=>False) args.toList (fun _ h=>h.elim) hG K h3;rw[Array.toArray_toList] at hc;refine hc.mono fun e O ⟨y,he,hy,hx⟩=>⟨y,he,?_⟩
 have N:=dr_v hy;subst N;have s:=QbY hx;have A:=o.lt;have z:c.length=k.params.size:=by
  have:∀{ts:List TypeId} {vs:List Value} {c:List (DataW H)} {p:List MemPlace},DataW.TrodAll enc Try.prog W 0 (fun _=>true) true ts vs c p->c.length=ts.length:=by
   intro ts;induction ts with
   | nil=>intro vs c p h;obtain⟨rfl,rfl,rfl⟩:=trodAll_nil h;rfl
   | cons t ts ih=>intro vs c p h;obtain⟨v,a2,d,Y,a,b,rfl,rfl,rfl,_,K⟩:=trodAll_cons h;simp[ih K]
  exact(this L).trans Array.length_toList
 have l:=m H (c++[]) (by rw[List.append_nil];exact z);refine⟨c,[],p++[],[],p,[],o,?_,?_,?_,s.frame _,fun h=>by cases h⟩
 ·rw[l,E];exact trodAll_mk1 (Qbx hb)
 ·rw[l];simp only[List.append_nil];exact kS L (jp C) (fun q M=>yl s (A q (List.mem_append_left _ M))) (fun q M=>jDj (A q (List.mem_append_left _ M)))
 ·rw[l,i];rfl
theorem Qcn {k:Bool×List Kd}{r:List (Bool×List Kd)}{a:jVj}(h:okAs (k::r) a):∃d l,a=d::l/\okA k d/\okAs r l:=h
theorem Qds {a:jVj}(h:okAs [] a):a=[]:=h
theorem Qg3 {ks:List Kd}{d:D}(h:okA (true,ks) d):∃cs,d=.agg cs/\Kd.oks ks cs:=h
theorem ky {k:Kd}{ks:List Kd}{a:jVj}(h:Kd.oks (k::ks) a):∃d r,a=d::r/\Kd.ok k d/\Kd.oks ks r:=by unfold Kd.oks at h;exact h
theorem QdP {a:jVj}(h:Kd.oks [] a):a=[]:=by unfold Kd.oks at h;exact h
theorem Qdh {k:Kd}{d:D}(h:Kd.oks [k] [d]):Kd.ok k d:=by obtain⟨c,r,a,b,_⟩:=ky h;cases a;exact b
theorem Qdj {k:Kd}{d:D}(h:okA (false,[k]) d):Kd.ok k d:=Qdh h
theorem ok_i {k:IntKind}{d:D}(h:Kd.ok (.int k) d):∃n,d=.v (.int k n)/\k.min<=n/\n<=k.max:=by unfold Kd.ok at h;exact h
theorem Qdi {k:Kd}{d:D}(h:Kd.ok (.lst false [k]) d):∃es,d=.lst false 1 es/\es.length<=maxLen/\∀e,e∈es->Kd.ok k e:=by unfold Kd.ok at h;obtain⟨es,a,b,c⟩:=h;exact⟨es,a,b,fun e f=>Qdh (c e f)⟩
theorem yE {d:Type}{enc:d->D}{p:d->Prop}:∀{es:jVj},(∀e,e∈es->∃x,e=enc x/\p x)->∃xs:List d,es=xs.map enc/\∀x,x∈xs->p x
 | [],_=>⟨[],rfl,fun x b=>by cases b⟩
 | e::es,h=>by
  obtain⟨x,rfl,b⟩:=h e jMj;obtain⟨xs,rfl,c⟩:=yE (es:=es) fun y a=>h y (jmj _ a);refine⟨x::xs,rfl,fun y a=>?_⟩;obtain rfl|a:=List.mem_cons.1 a
  ·exact b
  ·exact c y a
theorem u8_b {n:Int}(h:IntKind.u8.min<=n/\n<=IntKind.u8.max):0<=n/\n<=255:=h
set_option maxRecDepth 10000
set_option maxHeartbeats 4000000
abbrev jZj:D:=.agg [I 0,I 0,B false,B false,I 0,I 0,I 0,.lst true 0 [],.lst true 0 [],.lst true 0 []]
abbrev jOj:Type:=List Orc
abbrev b0:Orc:=.br false
abbrev b1:Orc:=.br true
def no:Nat->List Orc->List Orc
 | 0,l=>l
 | n+1,l=>.no::no n l
theorem rf {f:FuncId}{a:jVj}{r:D}{b:List Prop}(orc:List Orc)(c:All b)(h:ut true 100 cx f a orc=some (r,b):=by kernel_rfl):Computes cx f a r:=run h c
theorem rfO {f:FuncId}{a:List AV}{i:Option (List OC)}(b:Nat){ks:List Bool}{r:AV}{cs:List OC}(orc:List Orc){c:List Prop}(d:All c)(h:Qcd 100 cx f a i b cs ks orc=some (r,cs,c):=by kernel_rfl):ComputesO cx f a i r cs ks:=QcZ d h
structure Lp (S E:Type) where
 T:S->List (Nat×AV)
 H:S->List (Nat×Blk)
 X:E->Ex
 Y:E->List (Nat×AV)
 Z:E->List (Nat×Blk)
abbrev Rl {S E:Type}(c:Code)(a vis:Nat)(rnd:Bool)(L:Lp S E)(s:S)(r:S⊕E):Prop:=Rd cx c a vis rnd L.T L.H L.X L.Y L.Z s r
theorem rn {S E:Type}{c:Code}{d vis:Nat}{rnd:Bool}{L:Lp S E}{s s' : S}(e:Nat)(orc:List Orc)(g b a:List Nat){f:List Prop}(i:All f)(h:J9 100 cx c d vis rnd e (L.T s) (L.H s) orc g b a=some (.normal,L.T s',L.H s',f):=by kernel_rfl):Rl c d vis rnd L s (.inl s'):=⟨100,e,orc,g,b,a,uv i h⟩
theorem rx {S E:Type}{c:Code}{d vis:Nat}{rnd:Bool}{L:Lp S E}{s:S}{e:E}(f:Nat)(orc:List Orc)(i b a:List Nat){g:List Prop}(j:All g)(h:J9 100 cx c d vis rnd f (L.T s) (L.H s) orc i b a=some (L.X e,L.Y e,L.Z e,g):=by kernel_rfl)(k:L.X e≠.normal:=by nofun):Rl c d vis rnd L s (.inr e):=⟨⟨100,f,orc,i,b,a,uv j h⟩,k⟩
theorem ro (e:TypeId){b n:Nat}(h:Wa b n)(c:cx.bytes e=some b:=by kernel_rfl)(a:0<b:=by decide):room cx e n:=ZB c a h
theorem allE {b:Type}{un:D->Option b}{enc:b->D}{es:jVj}{i:Int}{x:b}{l:List Prop}(a:∀{d x},un d=some x->d=enc x)(h:el un es i=some x)(t:All l):All ((0<=i)::(nth es i.toNat=some (enc x))::l):=Qa (Qf a h).1 (Qa (Qf a h).2 t)
theorem io {a:Type}{p:Prop}[Decidable p]{x y:Option a}{r:a}(h:(if p then x else y)=some r):(p/\x=some r)\/(¬p/\y=some r):=by
 by_cases hp:p
 · exact .inl ⟨hp,it h hp⟩
 · exact .inr ⟨hp,jf h hp⟩
abbrev qC:List Bool:=[true,true,true,true,true,true,true,true,true,true]
abbrev ZV:List Bool:=[true,true,true,true,true,true,true,true,true,true,true,true]
abbrev Qb (c d:jVj)(e f:Int)(g h:Bool)(i j k:Int)(l a b:jVj):List OC:=[.row 5 c,.row 5 d,.dat (I e),.dat (I f),.dat (B g),.dat (B h),.dat (I i),.dat (I j),.dat (I k),.row 1 l,.row 6 a,.row 7 b]
abbrev Qb' (x:jVj×jVj×Int×Int×Bool×Bool×Int×Int×Int×jVj×jVj×jVj):List OC:=Qb x.1 x.2.1 x.2.2.1 x.2.2.2.1 x.2.2.2.2.1 x.2.2.2.2.2.1 x.2.2.2.2.2.2.1 x.2.2.2.2.2.2.2.1 x.2.2.2.2.2.2.2.2.1 x.2.2.2.2.2.2.2.2.2.1 x.2.2.2.2.2.2.2.2.2.2.1 x.2.2.2.2.2.2.2.2.2.2.2
abbrev QJ (a b:Int)(c d:Bool)(e f g:Int)(h i j:jVj):List OC:=[.dat (I a),.dat (I b),.dat (B c),.dat (B d),.dat (I e),.dat (I f),.dat (I g),.row 1 h,.row 6 i,.row 7 j]
abbrev QJ' (x:Int×Int×Bool×Bool×Int×Int×Int×jVj×jVj×jVj):List OC:=QJ x.1 x.2.1 x.2.2.1 x.2.2.2.1 x.2.2.2.2.1 x.2.2.2.2.2.1 x.2.2.2.2.2.2.1 x.2.2.2.2.2.2.2.1 x.2.2.2.2.2.2.2.2.1 x.2.2.2.2.2.2.2.2.2
def QP (x:Int×jSj×jVj×jVj×jSj):D:=.agg [I x.1,Qr5 x.2.1,.lst false 1 x.2.2.1,.lst false 1 x.2.2.2.1,Qr5 x.2.2.2.2]
def Ze:D->Option (Int×jSj×jVj×jVj×jSj)
 | .agg [c0,c1,c2,c3,c4]=>(Ya .i64 c0).bind fun a=>(JR c1).bind fun b=>(Em 1 c2).bind fun c=>(Em 1 c3).bind fun d=>(JR c4).bind fun e=>some (a,b,c,d,e)
 | _=>none
theorem Ql {d:D}{x:Int×jSj×jVj×jVj×jSj}(h:Ze d=some x):d=QP x:=by
 unfold Ze at h;split at h;case h_2=>cases h
 obtain⟨m,g,h⟩:=ZX h;obtain⟨n,i,h⟩:=ZX h;obtain⟨o,j,h⟩:=ZX h;obtain⟨p,k,h⟩:=ZX h;obtain⟨q,l,h⟩:=ZX h;cases h;have a:=WS g;have b:=YU i;have c:=J7 j;have e:=J7 k;have f:=YU l;rw[a,b,c,e,f];rfl
def Zy (x:jSj):D:=Qr5 x
def Ww (d:D):Option (jSj):=JR d
theorem Qr {d:D}{x:jSj}(h:Ww d=some x):d=Zy x:=YU h
def Wr:jVj:=[.tup [Qr5 ⟨#[115,101,99,116,111,114]⟩,.agg [Qr5 ⟨#[83]⟩,I 1,.fn (.func 42) [] [],.fn (.func 43) [] []]],.tup [Qr5 ⟨#[109,105,114,114,111,114]⟩,.agg [Qr5 ⟨#[77,115]⟩,I 2,.fn (.func 44) [] [],.fn (.func 45) [] []]],.tup [Qr5 ⟨#[115,111,105,108]⟩,.agg [Qr5 ⟨#[109]⟩,I 2,.fn (.func 46) [] [],.fn (.func 88) [] [.ref (.fn (.func 48) [] []) 0]]],.tup [Qr5 ⟨#[99,108,101,97,110]⟩,.agg [Qr5 ⟨#[109]⟩,I 1,.fn (.func 49) [] [],.fn (.func 88) [] [.ref (.fn (.func 50) [] []) 0]]],.tup [Qr5 ⟨#[100,101,102,101,99,116]⟩,.agg [Qr5 ⟨#[109]⟩,I 1,.fn (.func 90) [] [.ref (.fn (.func 52) [] []) 0],.fn (.func 88) [] [.ref (.fn (.func 53) [] []) 0]]],.tup [Qr5 ⟨#[114,101,112,97,105,114]⟩,.agg [Qr5 ⟨#[109]⟩,I 1,.fn (.func 90) [] [.ref (.fn (.func 54) [] []) 0],.fn (.func 88) [] [.ref (.fn (.func 55) [] []) 0]]],.tup [Qr5 ⟨#[97,105,109]⟩,.agg [Qr5 ⟨#[109]⟩,I 1,.fn (.func 90) [] [.ref (.fn (.func 56) [] []) 0],.fn (.func 88) [] [.ref (.fn (.func 57) [] []) 0]]],.tup [Qr5 ⟨#[112,97,114,107]⟩,.agg [Qr5 ⟨#[109]⟩,I 1,.fn (.func 90) [] [.ref (.fn (.func 58) [] []) 0],.fn (.func 88) [] [.ref (.fn (.func 59) [] []) 0]]],.tup [Qr5 ⟨#[100,105,109]⟩,.agg [Qr5 ⟨#[115]⟩,I 1,.fn (.func 49) [] [],.fn (.func 60) [] []]],.tup [Qr5 ⟨#[115,117,110]⟩,.agg [Qr5 ⟨#[]⟩,I 2,.fn (.func 63) [] [],.fn (.func 64) [] []]],.tup [Qr5 ⟨#[102,105,108,108]⟩,.agg [Qr5 ⟨#[]⟩,I 1,.fn (.func 65) [] [],.fn (.func 66) [] []]],.tup [Qr5 ⟨#[100,114,97,105,110]⟩,.agg [Qr5 ⟨#[]⟩,I 1,.fn (.func 67) [] [],.fn (.func 69) [] []]],.tup [Qr5 ⟨#[116,114,105,112]⟩,.agg [Qr5 ⟨#[]⟩,I 1,.fn (.func 70) [] [],.fn (.func 71) [] []]],.tup [Qr5 ⟨#[114,101,115,101,116]⟩,.agg [Qr5 ⟨#[]⟩,I 1,.fn (.func 73) [] [],.fn (.func 74) [] []]],.tup [Qr5 ⟨#[111,102,102,101,114]⟩,.agg [Qr5 ⟨#[79]⟩,I 5,.fn (.func 75) [] [],.fn (.func 77) [] []]],.tup [Qr5 ⟨#[100,101,108,105,118,101,114]⟩,.agg [Qr5 ⟨#[111]⟩,I 2,.fn (.func 78) [] [],.fn (.func 79) [] []]],.tup [Qr5 ⟨#[98,105,108,108]⟩,.agg [Qr5 ⟨#[111]⟩,I 1,.fn (.func 81) [] [],.fn (.func 82) [] []]],.tup [Qr5 ⟨#[117,110,100,111]⟩,.agg [Qr5 ⟨#[]⟩,I 0,.fn (.func 49) [] [],.fn (.func 84) [] []]]]
def QaN (x:jSj×Int×FnD×FnD):D:=.agg [Qr5 x.1,I x.2.1,.fn x.2.2.1.1 x.2.2.1.2.1 x.2.2.1.2.2,.fn x.2.2.2.1 x.2.2.2.2.1 x.2.2.2.2.2]
def J8:D->Option (jSj×Int×FnD×FnD)
 | .agg [c0,c1,c2,c3]=>(JR c0).bind fun a=>(Ya .i64 c1).bind fun b=>(ye c2).bind fun c=>(ye c3).bind fun d=>some (a,b,c,d)
 | _=>none
theorem yf {d:D}{x:jSj×Int×FnD×FnD}(h:J8 d=some x):d=QaN x:=by
 unfold J8 at h;split at h;case h_2=>cases h
 obtain⟨k,f,h⟩:=ZX h;obtain⟨l,g,h⟩:=ZX h;obtain⟨m,i,h⟩:=ZX h;obtain⟨n,j,h⟩:=ZX h;cases h;have a:=YU f;have b:=WS g;have c:=jU i;have e:=jU j;rw[a,b,c,e];rfl
def Kx (n:Nat)  : Option (Int) :=
 some 3
theorem yQ {n:Nat}  {r:Int}(h:Kx n =some r):Computes cx 20 [B true,I 3] (I r):=by unfold Kx at h;obtain rfl:=oi h;exact rf [.no] QL
def Qm (n:Nat)(a:Bool)(a1:Int):Option (Int) := if a=true then some a1 else some 0
theorem Qu {n b a1 r}(h:Qm n b a1=some r):Computes cx 20 [B b,I a1] (I r):=by
 unfold Qm at h;obtain⟨a,h⟩|⟨a,h⟩:=io h
 ·obtain rfl:=oi h;exact rf [b1] (Qa a QL)
 obtain rfl:=oi h;exact rf [b0] (Qa (QA a) QL)
def ZE (n:Nat)(b a1 a2:Int):Option (Int) := if b<a1 then(Kx n).bind fun a=>some a else(Qm n (decide (b>a2)) 3).bind fun a=>some a
theorem WK {n b a1 a2 r}(h:ZE n b a1 a2=some r):Computes cx 19 [I b,I a1,I a2] (I r):=by
 unfold ZE at h;obtain⟨a,h⟩|⟨a,h⟩:=io h
 ·have⟨t2,h2,h⟩:=bo h;obtain rfl:=oi h;exact rf [b1,.ret (I t2)] (Qa (yQ h2) (Qa (jDj a) QL))
 have⟨t2,h2,h⟩:=bo h;obtain rfl:=oi h;exact rf [b0,.ret (I t2)] (Qa (Qu h2) (Qa (jEj a) QL))
def Up (n:Nat)  : Option (Int) :=
 some 0
theorem jj {n:Nat}  {r:Int}(h:Up n =some r):Computes cx 20 [B false,I 13] (I r):=by unfold Up at h;obtain rfl:=oi h;exact rf [.no] QL
def Q3 (x:Int):D:=I x
def Vt (d:D):Option (Int):=Ya .i64 d
theorem Qi {d:D}{x:Int}(h:Vt d=some x):d=Q3 x:=WS h
def Vi (n:Nat)(b:jVj)(sa:Int):Option (Int⊕Int⊕Unit) := if sa<((b).length:Int) then(el Vt b sa).bind fun a=>if a=0 then if Qh (sa+1) then some (.inl (sa+1)) else none else some (.inr (.inl a)) else some (.inr (.inr ()))
noncomputable def zp (a:jVj):Lp (Int) (Int⊕Unit):=⟨fun sa=>[(5,.d (.lst false 1 a)),(6,.d (I ((a).length:Int))),(7,.d (I sa))],fun _=>[],fun
 | (.inl e)=>.ret
 | (.inr e)=>(.exit 0),fun
 | (.inl e)=>[(2,.d (I e))]
 | (.inr e)=>[],fun _=>[]⟩
theorem Gt {n c}(sa)(r)(h:Vi n c sa=some r):Rl (ZJ cx.P 18 0) 15 0 false (zp c) sa r:=by
 unfold Vi at h;obtain⟨a,h⟩|⟨a,h⟩:=io h
 ·have⟨ta2,ha2,h⟩:=bo h;have q:=allE Qi ha2 (Qa (jDj a) QL);obtain⟨b,h⟩|⟨b,h⟩:=io h
  ·have⟨ha4,h⟩:=gd h;cases h;exact rn 4 [b1,.el (Q3 ta2),b0] [] [5,6,7] [] (Qa ha4 (Qa (nef b) q))
  cases h;exact rx 4 [b1,.el (Q3 ta2),b1] [] [2] [] (Qa (net b) q)
 cases h;exact rx 4 [b0] [] [] [] (Qa (jEj a) QL)
def Qo (n:Nat)(b:jVj):Option (Int) := (Q2 (Vi n b) n 0).bind fun a=>match a with|.inl a=>(some a)|.inr a=>(some 0)
theorem Qx {n b r}(h:Qo n b=some r):Computes cx 18 [.lst false 1 b] (I r):=by
 unfold Qo at h;have⟨a,h1,h⟩:=bo h;obtain a|a:=a
 ·obtain rfl:=oi h;exact rf [.lp [] [5,6,7] [] .ret [(2,.d (I a))] [] 23] (Qa (QH Gt h1) QL)
 obtain rfl:=oi h;exact rf [.lp [] [5,6,7] [] (.exit 0) [] [] 23] (Qa (QH Gt h1) QL)
def Wn (n:Nat)(a:jSj)(sa:Nat):Option (Nat⊕Unit⊕Unit) := if sa<a.size then if((Utf8.decode a sa).1:Int)>=97 then if((Utf8.decode a sa).1:Int)<=122 then some (.inl (sa+(Utf8.decode a sa).2)) else if((Utf8.decode a sa).1:Int)>=65 then if((Utf8.decode a sa).1:Int)<=90 then some (.inl (sa+(Utf8.decode a sa).2)) else if((sa:Nat):Int)=0 then some (.inr (.inl ())) else if((Utf8.decode a sa).1:Int)=95 then some (.inl (sa+(Utf8.decode a sa).2)) else if((Utf8.decode a sa).1:Int)<48 then some (.inr (.inl ())) else if((Utf8.decode a sa).1:Int)>57 then some (.inr (.inl ())) else some (.inl (sa+(Utf8.decode a sa).2)) else if((sa:Nat):Int)=0 then some (.inr (.inl ())) else if((Utf8.decode a sa).1:Int)=95 then some (.inl (sa+(Utf8.decode a sa).2)) else if((Utf8.decode a sa).1:Int)<48 then some (.inr (.inl ())) else if((Utf8.decode a sa).1:Int)>57 then some (.inr (.inl ())) else some (.inl (sa+(Utf8.decode a sa).2)) else if((Utf8.decode a sa).1:Int)>=65 then if((Utf8.decode a sa).1:Int)<=90 then some (.inl (sa+(Utf8.decode a sa).2)) else if((sa:Nat):Int)=0 then some (.inr (.inl ())) else if((Utf8.decode a sa).1:Int)=95 then some (.inl (sa+(Utf8.decode a sa).2)) else if((Utf8.decode a sa).1:Int)<48 then some (.inr (.inl ())) else if((Utf8.decode a sa).1:Int)>57 then some (.inr (.inl ())) else some (.inl (sa+(Utf8.decode a sa).2)) else if((sa:Nat):Int)=0 then some (.inr (.inl ())) else if((Utf8.decode a sa).1:Int)=95 then some (.inl (sa+(Utf8.decode a sa).2)) else if((Utf8.decode a sa).1:Int)<48 then some (.inr (.inl ())) else if((Utf8.decode a sa).1:Int)>57 then some (.inr (.inl ())) else some (.inl (sa+(Utf8.decode a sa).2)) else some (.inr (.inr ()))
noncomputable def qy (a:jSj):Lp (Nat) (Unit⊕Unit):=⟨fun _=>[(0,.d (Qr5 a)),(7,.own 2 0)],fun sa=>[(2,.it a sa)],fun
 | (.inl e)=>.ret
 | (.inr e)=>(.exit 0),fun
 | (.inl e)=>[(2,.d (B false))]
 | (.inr e)=>[(0,.d (Qr5 a))],fun _=>[]⟩
theorem JP {n k}(sa)(r)(h:Wn n k sa=some r):Rl (ZJ cx.P 35 0) 51 0 false (qy k) sa r:=by
 unfold Wn at h;obtain⟨g,h⟩|⟨g,h⟩:=io h
 ·have q:=Qa g QL;let o(l:jOj):=b1::.no::l;obtain⟨i,h⟩|⟨i,h⟩:=io h
  ·have q:=Qa (jDj i) q;let o l:=o (b1::l);obtain⟨f,h⟩|⟨f,h⟩:=io h
   ·cases h;exact rn 3 (o [b1,.no,.no]) [] [0,7] [2] (Qa (jDj f) q)
   have q:=Qa (jEj f) q;let o l:=o (b0::l);obtain⟨d,h⟩|⟨d,h⟩:=io h
   ·have q:=Qa (jDj d) q;let o l:=o (b1::l);obtain⟨a,h⟩|⟨a,h⟩:=io h
    ·cases h;exact rn 3 (o [b0,.no]) [] [0,7] [2] (Qa (Ud (jDj a)) q)
    have q:=Qa (Uc (jEj a)) q;let o l:=o (b1::l);obtain⟨b,h⟩|⟨b,h⟩:=io h
    ·cases h;exact rx 3 (o [b1,.no]) [] [2] [] (Qa (eqt b) q)
    have q:=Qa (eqf b) q;obtain⟨c,h⟩|⟨c,h⟩:=io h
    ·cases h;exact rn 3 (o [b0,b0,.no]) [] [0,7] [2] (Qa (nef c) q)
    have q:=Qa (net c) q;let o l:=o (b0::b1::l);obtain⟨e,h⟩|⟨e,h⟩:=io h
    ·cases h;exact rx 3 (o [b1,.no]) [] [2] [] (Qa (jDj e) q)
    have q:=Qa (jEj e) q;obtain⟨j,h⟩|⟨j,h⟩:=io h
    ·cases h;exact rx 3 (o [b0,b1]) [] [2] [] (Qa (jDj j) q)
    cases h;exact rn 3 (o [b0,b0]) [] [0,7] [2] (Qa (jEj j) q)
   have q:=Qa (jEj d) q;let o l:=o (b0::.no::l);obtain⟨a,h⟩|⟨a,h⟩:=io h
   ·cases h;exact rx 3 (o [b1,.no]) [] [2] [] (Qa (eqt a) q)
   have q:=Qa (eqf a) q;obtain⟨b,h⟩|⟨b,h⟩:=io h
   ·cases h;exact rn 3 (o [b0,b0,.no]) [] [0,7] [2] (Qa (nef b) q)
   have q:=Qa (net b) q;let o l:=o (b0::b1::l);obtain⟨c,h⟩|⟨c,h⟩:=io h
   ·cases h;exact rx 3 (o [b1,.no]) [] [2] [] (Qa (jDj c) q)
   have q:=Qa (jEj c) q;obtain⟨e,h⟩|⟨e,h⟩:=io h
   ·cases h;exact rx 3 (o [b0,b1]) [] [2] [] (Qa (jDj e) q)
   cases h;exact rn 3 (o [b0,b0]) [] [0,7] [2] (Qa (jEj e) q)
  have q:=Qa (jEj i) q;let o l:=o (b0::.no::l);obtain⟨f,h⟩|⟨f,h⟩:=io h
  ·have q:=Qa (jDj f) q;let o l:=o (b1::l);obtain⟨d,h⟩|⟨d,h⟩:=io h
   ·cases h;exact rn 3 (o [b0,.no]) [] [0,7] [2] (Qa (Ud (jDj d)) q)
   have q:=Qa (Uc (jEj d)) q;let o l:=o (b1::l);obtain⟨a,h⟩|⟨a,h⟩:=io h
   ·cases h;exact rx 3 (o [b1,.no]) [] [2] [] (Qa (eqt a) q)
   have q:=Qa (eqf a) q;obtain⟨b,h⟩|⟨b,h⟩:=io h
   ·cases h;exact rn 3 (o [b0,b0,.no]) [] [0,7] [2] (Qa (nef b) q)
   have q:=Qa (net b) q;let o l:=o (b0::b1::l);obtain⟨c,h⟩|⟨c,h⟩:=io h
   ·cases h;exact rx 3 (o [b1,.no]) [] [2] [] (Qa (jDj c) q)
   have q:=Qa (jEj c) q;obtain⟨e,h⟩|⟨e,h⟩:=io h
   ·cases h;exact rx 3 (o [b0,b1]) [] [2] [] (Qa (jDj e) q)
   cases h;exact rn 3 (o [b0,b0]) [] [0,7] [2] (Qa (jEj e) q)
  have q:=Qa (jEj f) q;let o l:=o (b0::.no::l);obtain⟨d,h⟩|⟨d,h⟩:=io h
  ·cases h;exact rx 3 (o [b1,.no]) [] [2] [] (Qa (eqt d) q)
  have q:=Qa (eqf d) q;obtain⟨a,h⟩|⟨a,h⟩:=io h
  ·cases h;exact rn 3 (o [b0,b0,.no]) [] [0,7] [2] (Qa (nef a) q)
  have q:=Qa (net a) q;let o l:=o (b0::b1::l);obtain⟨b,h⟩|⟨b,h⟩:=io h
  ·cases h;exact rx 3 (o [b1,.no]) [] [2] [] (Qa (jDj b) q)
  have q:=Qa (jEj b) q;obtain⟨c,h⟩|⟨c,h⟩:=io h
  ·cases h;exact rx 3 (o [b0,b1]) [] [2] [] (Qa (jDj c) q)
  cases h;exact rn 3 (o [b0,b0]) [] [0,7] [2] (Qa (jEj c) q)
 cases h;exact rx 3 [b0,.no] [] [0] [] (Qa g QL)
def Yi (n:Nat)(a:jSj):Option (Bool) := (Q2 (Wn n a) n 0).bind fun b=>match b with|.inl b=>(some false)|.inr b=>(if(!(a.toList==(⟨#[]⟩:jSj).toList))=true then some (decide ((a.size:Int)<=24)) else some false)
theorem jm {n a r}(h:Yi n a=some r):Computes cx 35 [Qr5 a] (B r):=by
 unfold Yi at h;have⟨c,h1,h⟩:=bo h;obtain c|c:=c
 ·obtain rfl:=oi h;exact rf [.lp [] [0,7] [2] .ret [(2,.d (B false))] [] 54] (Qa (QH JP h1) QL)
 have q:=Qa (QH JP h1) QL;let o(l:jOj):=.lp [] [0,7] [2] (.exit 0) [(0,.d (Qr5 a))] [] 54::l;obtain⟨b,h⟩|⟨b,h⟩:=io h
 ·cases h;exact rf (o [b1]) (Qa b q)
 obtain rfl:=oi h;exact rf (o [b0]) (Qa (QA b) q)
def Vs (n:Nat)(a:jSj):Option (Int) := (Yi n a).bind fun b=>(Qm n (!b) 8).bind fun c=>some c
theorem G5 {n a r}(h:Vs n a=some r):Computes cx 34 [Qr5 a] (I r):=by unfold Vs at h;have⟨t1,h1,h⟩:=bo h;have⟨t2,h2,h⟩:=bo h;obtain rfl:=oi h;exact rf [.ret (B t1),.ret (I t2)] (Qa (Qu h2) (Qa (jm h1) QL))
def WN (n:Nat)(c:jVj)(sa:(Int×jVj)):Option (Int×jVj⊕jVj) := if sa.1<((c).length:Int) then(el Ww c sa.1).bind fun a=>(Vs n a).bind fun b=>if Wa 8 ((sa.2).length+1) then if Qh (sa.1+1) then some (.inl ((sa.1+1),(sa.2++([I b]:jVj)))) else none else none else some (.inr sa.2)
noncomputable def X5 (a:jVj):Lp (Int×jVj) (jVj):=⟨fun sa=>[(1,.d (.fn (.func 34) [] [])),(5,.own 5 0),(8,.d (.lst false 1 a)),(9,.d (I ((a).length:Int))),(10,.d (I sa.1))],fun sa=>[(5,.row 0 1 sa.2)],fun _=>(.exit 0),fun _=>[(5,.own 5 0)],fun e=>[(5,.row 0 1 e)]⟩
theorem X2 {n b}(sa)(r)(h:WN n b sa=some r):Rl (ZJ cx.P 33 0) 22 0 false (X5 b) sa r:=by
 unfold WN at h;obtain⟨a,h⟩|⟨a,h⟩:=io h
 ·have⟨ta2,ha2,h⟩:=bo h;have⟨ta3,ha3,h⟩:=bo h;have⟨ha4,h⟩:=gd h;have⟨ha5,h⟩:=gd h;cases h;exact rn 6 [b1,.el (Zy ta2),.ret (I ta3),b1] [] [1,5,8,9,10] [5] (Qa ha5 (Qa (ro 32 ha4) (Qa (G5 ha3) (allE Qr ha2 (Qa (jDj a) QL)))))
 cases h;exact rx 6 [b0] [] [5] [5] (Qa (jEj a) QL)
def Wf (n:Nat)(a:jVj):Option (jVj) := (Q2 (WN n a) n (0,[])).bind fun b=>some b
theorem Yp {n a r}(h:Wf n a=some r):Computes cx 33 [.lst false 1 a,.fn (.func 34) [] []] (.lst false 1 r):=by unfold Wf at h;have⟨t1,h1,h⟩:=bo h;obtain rfl:=oi h;exact rf [.lp [5,1] [1,5,8,9,10] [5] (.exit 0) [(5,.own 5 0)] [(5,.row 0 1 t1)] 30] (Qa (QH X2 h1) QL)
def Vr (n:Nat)(a:Int):Option (Int) := (ZE n a 0 999999999).bind fun b=>some b
theorem G4 {n a r}(h:Vr n a=some r):Computes cx 37 [I a] (I r):=by unfold Vr at h;have⟨t1,h1,h⟩:=bo h;obtain rfl:=oi h;exact rf [.ret (I t1)] (Qa (WK h1) QL)
def Wp (n:Nat)(c:jVj)(sa:(Int×jVj)):Option (Int×jVj⊕jVj) := if sa.1<((c).length:Int) then(el Vt c sa.1).bind fun a=>(Vr n a).bind fun b=>if Wa 8 ((sa.2).length+1) then if Qh (sa.1+1) then some (.inl ((sa.1+1),(sa.2++([I b]:jVj)))) else none else none else some (.inr sa.2)
noncomputable def Xa (a:jVj):Lp (Int×jVj) (jVj):=⟨fun sa=>[(1,.d (.fn (.func 37) [] [])),(5,.own 5 0),(8,.d (.lst false 1 a)),(9,.d (I ((a).length:Int))),(10,.d (I sa.1))],fun sa=>[(5,.row 0 1 sa.2)],fun _=>(.exit 0),fun _=>[(5,.own 5 0)],fun e=>[(5,.row 0 1 e)]⟩
theorem G6 {n b}(sa)(r)(h:Wp n b sa=some r):Rl (ZJ cx.P 36 0) 22 0 false (Xa b) sa r:=by
 unfold Wp at h;obtain⟨a,h⟩|⟨a,h⟩:=io h
 ·have⟨ta2,ha2,h⟩:=bo h;have⟨ta3,ha3,h⟩:=bo h;have⟨ha4,h⟩:=gd h;have⟨ha5,h⟩:=gd h;cases h;exact rn 6 [b1,.el (Q3 ta2),.ret (I ta3),b1] [] [1,5,8,9,10] [5] (Qa ha5 (Qa (ro 32 ha4) (Qa (G4 ha3) (allE Qi ha2 (Qa (jDj a) QL)))))
 cases h;exact rx 6 [b0] [] [5] [5] (Qa (jEj a) QL)
def ZU (n:Nat)(a:jVj):Option (jVj) := (Q2 (Wp n a) n (0,[])).bind fun b=>some b
theorem VT {n a r}(h:ZU n a=some r):Computes cx 36 [.lst false 1 a,.fn (.func 37) [] []] (.lst false 1 r):=by unfold ZU at h;have⟨t1,h1,h⟩:=bo h;obtain rfl:=oi h;exact rf [.lp [5,1] [1,5,8,9,10] [5] (.exit 0) [(5,.own 5 0)] [(5,.row 0 1 t1)] 30] (Qa (QH G6 h1) QL)
def VN (n:Nat)  : Option (Int) :=
 some 2
theorem Xu {n:Nat}  {r:Int}(h:VN n =some r):Computes cx 20 [B true,I 2] (I r):=by unfold VN at h;obtain rfl:=oi h;exact rf [.no] QL
def Uo (n:Nat)  : Option (Int) :=
 some 13
theorem ji {n:Nat}  {r:Int}(h:Uo n =some r):Computes cx 20 [B true,I 13] (I r):=by unfold Uo at h;obtain rfl:=oi h;exact rf [.no] QL
def WX (n:Nat)(m:Int)(a1:jSj)(a2 a3:jVj)(a4:jSj):Option (Int) := if(VY (.string a1) Wr).isSome=true then((VY (.string a1) Wr).bind J8).bind fun h=>(ZE n m 1 1000).bind fun i=>(Up n).bind fun o=>if((a2).length:Int)=(h.1.size:Int) then(Qm n (((a3).length:Int) != h.2.1) 2).bind fun e=>(Qo n ([I i,I o,I e])).bind fun j=>if j=0 then(Wf n a2).bind fun g=>(Qo n g).bind fun a=>(ZU n a3).bind fun b=>(Qo n b).bind fun c=>(Qm n (!(a4.toList==(⟨#[]⟩:jSj).toList)) 1).bind fun d=>(Qo n ([I a,I c,I d])).bind fun f=>some f else some j else(VN n).bind fun e=>(Qo n ([I i,I o,I e])).bind fun j=>if j=0 then(Wf n a2).bind fun g=>(Qo n g).bind fun a=>(ZU n a3).bind fun b=>(Qo n b).bind fun c=>(Qm n (!(a4.toList==(⟨#[]⟩:jSj).toList)) 1).bind fun d=>(Qo n ([I a,I c,I d])).bind fun f=>some f else some j else(ZE n m 1 1000).bind fun h=>(Uo n).bind fun i=>if((a2).length:Int)=0 then(Qm n (((a3).length:Int) != 0) 2).bind fun k=>(Qo n ([I h,I i,I k])).bind fun e=>if e=0 then(Wf n a2).bind fun l=>(Qo n l).bind fun g=>(ZU n a3).bind fun a=>(Qo n a).bind fun b=>(Qm n (!(a4.toList==(⟨#[]⟩:jSj).toList)) 1).bind fun c=>(Qo n ([I g,I b,I c])).bind fun d=>some d else some e else(VN n).bind fun k=>(Qo n ([I h,I i,I k])).bind fun e=>if e=0 then(Wf n a2).bind fun l=>(Qo n l).bind fun g=>(ZU n a3).bind fun a=>(Qo n a).bind fun b=>(Qm n (!(a4.toList==(⟨#[]⟩:jSj).toList)) 1).bind fun c=>(Qo n ([I g,I b,I c])).bind fun d=>some d else some e
theorem Ja {n e a1 a2 a3 a4 r}(h:WX n e a1 a2 a3 a4=some r):Computes cx 26 [.agg [I e,Qr5 a1,.lst false 1 a2,.lst false 1 a3,Qr5 a4]] (I r):=by
 unfold WX at h;let o(l:jOj):=b1::(no 28 l);obtain⟨f,h⟩|⟨f,h⟩:=io h
 ·have⟨t2,h2,h⟩:=bo h;have⟨t3,h3,h⟩:=bo h;have⟨t4,d,h⟩:=bo h;have q:=Qa (jj d) (Qa (WK h3) (Qa ((QbG (by kernel_rfl) (Qdv yf h2)):Zi true (.string a1) (.agg [Qr5 ⟨#[]⟩,I 0,.v (.nilFunc),.v (.nilFunc)]) Wr=some (.tup [.agg [Qr5 t2.1,I t2.2.1,.fn t2.2.2.1.1 t2.2.2.1.2.1 t2.2.2.1.2.2,.fn t2.2.2.2.1 t2.2.2.2.2.1 t2.2.2.2.2.2],B true])) QL));let o l:=o (.el (.tup [.agg [Qr5 t2.1,I t2.2.1,.fn t2.2.2.1.1 t2.2.2.1.2.1 t2.2.2.1.2.2,.fn t2.2.2.2.1 t2.2.2.2.2.1 t2.2.2.2.2.2],B true])::.ret (I t3)::.ret (I t4)::l);obtain⟨c,h⟩|⟨c,h⟩:=io h
  ·have⟨t6,h6,h⟩:=bo h;have⟨t7,a,h⟩:=bo h;have q:=Qa (leF (Qx a)) (Qa (Qu h6) (Qa (nef c) q));let o l:=o (b0::.ret (I t6)::.ret (I t7)::l);obtain⟨b,h⟩|⟨b,h⟩:=io h
   ·have⟨t9,h9,h⟩:=bo h;have⟨t10,h10,h⟩:=bo h;have⟨t11,h11,h⟩:=bo h;have⟨t12,h12,h⟩:=bo h;have⟨t13,h13,h⟩:=bo h;have⟨t14,h14,h⟩:=bo h;obtain rfl:=oi h;exact rf (o [b0,.ret (.lst false 1 t9),.ret (I t10),.ret (.lst false 1 t11),.ret (I t12),.ret (I t13),.ret (I t14)]) (Qa (leF (Qx h14)) (Qa (Qu h13) (Qa (Qx h12) (Qa (VT h11) (Qa (Qx h10) (Qa (Yp h9) (Qa (nef b) q)))))))
   obtain rfl:=oi h;exact rf (o [b1]) (Qa (net b) q)
  have⟨t6,h6,h⟩:=bo h;have⟨t7,a,h⟩:=bo h;have q:=Qa (leF (Qx a)) (Qa (Xu h6) (Qa (net c) q));let o l:=o (b1::.ret (I t6)::.ret (I t7)::l);obtain⟨b,h⟩|⟨b,h⟩:=io h
  ·have⟨t9,h9,h⟩:=bo h;have⟨t10,h10,h⟩:=bo h;have⟨t11,h11,h⟩:=bo h;have⟨t12,h12,h⟩:=bo h;have⟨t13,h13,h⟩:=bo h;have⟨t14,h14,h⟩:=bo h;obtain rfl:=oi h;exact rf (o [b0,.ret (.lst false 1 t9),.ret (I t10),.ret (.lst false 1 t11),.ret (I t12),.ret (I t13),.ret (I t14)]) (Qa (leF (Qx h14)) (Qa (Qu h13) (Qa (Qx h12) (Qa (VT h11) (Qa (Qx h10) (Qa (Yp h9) (Qa (nef b) q)))))))
  obtain rfl:=oi h;exact rf (o [b1]) (Qa (net b) q)
 have⟨t2,h2,h⟩:=bo h;have⟨t3,h3,h⟩:=bo h;have q:=Qa (ji h3) (Qa (WK h2) (Qa ((QaB (by kernel_rfl) (mno f)):Zi true (.string a1) (.agg [Qr5 ⟨#[]⟩,I 0,.v (.nilFunc),.v (.nilFunc)]) Wr=some (.tup [.agg [Qr5 ⟨#[]⟩,I 0,.v (.nilFunc),.v (.nilFunc)],B false])) QL));let o l:=o (.el (.tup [.agg [Qr5 ⟨#[]⟩,I 0,.v (.nilFunc),.v (.nilFunc)],B false])::.ret (I t2)::.ret (I t3)::l);obtain⟨d,h⟩|⟨d,h⟩:=io h
 ·have⟨t5,c,h⟩:=bo h;have⟨t6,h6,h⟩:=bo h;have q:=Qa (leF (Qx h6)) (Qa (Qu c) (Qa (nef d) q));let o l:=o (b0::.ret (I t5)::.ret (I t6)::l);obtain⟨a,h⟩|⟨a,h⟩:=io h
  ·have⟨t8,b,h⟩:=bo h;have⟨t9,h9,h⟩:=bo h;have⟨t10,h10,h⟩:=bo h;have⟨t11,h11,h⟩:=bo h;have⟨t12,h12,h⟩:=bo h;have⟨t13,h13,h⟩:=bo h;obtain rfl:=oi h;exact rf (o [b0,.ret (.lst false 1 t8),.ret (I t9),.ret (.lst false 1 t10),.ret (I t11),.ret (I t12),.ret (I t13)]) (Qa (leF (Qx h13)) (Qa (Qu h12) (Qa (Qx h11) (Qa (VT h10) (Qa (Qx h9) (Qa (Yp b) (Qa (nef a) q)))))))
  obtain rfl:=oi h;exact rf (o [b1]) (Qa (net a) q)
 have⟨t5,c,h⟩:=bo h;have⟨t6,h6,h⟩:=bo h;have q:=Qa (leF (Qx h6)) (Qa (Xu c) (Qa (net d) q));let o l:=o (b1::.ret (I t5)::.ret (I t6)::l);obtain⟨a,h⟩|⟨a,h⟩:=io h
 ·have⟨t8,b,h⟩:=bo h;have⟨t9,h9,h⟩:=bo h;have⟨t10,h10,h⟩:=bo h;have⟨t11,h11,h⟩:=bo h;have⟨t12,h12,h⟩:=bo h;have⟨t13,h13,h⟩:=bo h;obtain rfl:=oi h;exact rf (o [b0,.ret (.lst false 1 t8),.ret (I t9),.ret (.lst false 1 t10),.ret (I t11),.ret (I t12),.ret (I t13)]) (Qa (leF (Qx h13)) (Qa (Qu h12) (Qa (Qx h11) (Qa (VT h10) (Qa (Qx h9) (Qa (Yp b) (Qa (nef a) q)))))))
 obtain rfl:=oi h;exact rf (o [b1]) (Qa (net a) q)
def Un (n:Nat)  : Option (Int) :=
 some 21
theorem jh {n:Nat}  {r:Int}(h:Un n =some r):Computes cx 20 [B true,I 21] (I r):=by unfold Un at h;obtain rfl:=oi h;exact rf [.no] QL
theorem mk1 (c:jSj)(r:D){k:jSj}{l:List UInt8}(h:k.data.toList=l)(hc:c.data.toList=l:=by rfl)(a:Zi false (.string c) (.agg [Qr5 ⟨#[]⟩,I 0,.v (.nilFunc),.v (.nilFunc)]) Wr=some r:=by kernel_rfl):Zi false (.string k) (.agg [Qr5 ⟨#[]⟩,I 0,.v (.nilFunc),.v (.nilFunc)]) Wr=some r:=QO h hc a
def QB (x:jSj×jSj×Int×Int×Bool×Bool):D:=.agg [Qr5 x.1,Qr5 x.2.1,I x.2.2.1,I x.2.2.2.1,B x.2.2.2.2.1,B x.2.2.2.2.2]
def QM:D->Option (jSj×jSj×Int×Int×Bool×Bool)
 | .agg [c0,c1,c2,c3,c4,c5]=>(JR c0).bind fun a=>(JR c1).bind fun b=>(Ya .i64 c2).bind fun c=>(Ya .i64 c3).bind fun d=>(Gw c4).bind fun e=>(Gw c5).bind fun f=>some (a,b,c,d,e,f)
 | _=>none
theorem Qq {d:D}{x:jSj×jSj×Int×Int×Bool×Bool}(h:QM d=some x):d=QB x:=by
 unfold QM at h;split at h;case h_2=>cases h
 obtain⟨o,i,h⟩:=ZX h;obtain⟨p,j,h⟩:=ZX h;obtain⟨q,k,h⟩:=ZX h;obtain⟨r,l,h⟩:=ZX h;obtain⟨s,m,h⟩:=ZX h;obtain⟨t,n,h⟩:=ZX h;cases h;have a:=YU i;have b:=YU j;have c:=WS k;have e:=WS l;have f:=KG m;have g:=KG n;rw[a,b,c,e,f,g];rfl
def Z0 (n:Nat)(d a1:jVj)(a2 a3:Int)(a4 a5:Bool)(a6 a7 e:Int)(f b c:jVj)(sa:(Int×Int)):Option (Int×Int⊕Int) := if sa.1<((b).length:Int) then if 0<=sa.1/\sa.1<((b).length:Int) then((nth (b) (Int.toNat sa.1)).bind QM).bind fun a=>if a.2.2.2.2.2=true then if Qh (1000 - a.2.2.2.1) then if Qh (a.2.2.1*(1000 - a.2.2.2.1)) then if Qh ((a.2.2.1*(1000 - a.2.2.2.1))*a3) then if Qh (sa.2+((a.2.2.1*(1000 - a.2.2.2.1))*a3)) then if Qh (sa.1+1) then some (.inl ((sa.1+1),(sa.2+((a.2.2.1*(1000 - a.2.2.2.1))*a3)))) else none else none else none else none else none else if Qh (sa.1+1) then some (.inl ((sa.1+1),sa.2)) else none else none else some (.inr sa.2)
noncomputable def J5 (c a1:jVj)(a2 a3:Int)(a4 a5:Bool)(a6 a7 f:Int)(g a b:jVj):Lp (Int×Int) (Int):=⟨fun sa=>[(0,.own 23 0),(8,.own 11 0),(9,.d (I ((a).length:Int))),(10,.d (I sa.1))],fun sa=>[(0,.box (.agg [.own 1 0,.own 2 0,.d (I a2),.d (I a3),.d (B a4),.d (B a5),.d (I a6),.d (I a7),.d (I f),.own 10 0,.own 11 0,.own 12 0])),(1,.row 0 5 c),(2,.row 0 5 a1),(10,.row 0 1 g),(11,.row 0 6 a),(12,.row 0 7 b),(13,.box (.ptr 0 0 0 0 2)),(15,.box (.d (I sa.2))),(19,.box (.ptr 0 0 0 0 2)),(23,.loop true [(6,.fn (.func 87) [] [.ptr 19 0 0 0 0]),(5,.ptr 0 0 0 0 2),(3,.ptr 15 0 0 0 0),(2,.d (I 0)),(1,.ptr 13 0 0 0 0),(0,.ptr 0 0 0 0 2)] [7] (ZY cx.P 30 0).1 (ZY cx.P 30 0).2 22)],fun _=>(.exit 0),fun _=>[],fun e=>[(0,.box (.agg [.own 1 0,.own 2 0,.d (I a2),.d (I a3),.d (B a4),.d (B a5),.d (I a6),.d (I a7),.d (I f),.own 10 0,.own 11 0,.own 12 0])),(1,.row 0 5 c),(2,.row 0 5 a1),(10,.row 0 1 g),(11,.row 0 6 a),(12,.row 0 7 b),(13,.box (.ptr 0 0 0 0 2)),(15,.box (.d (I e))),(19,.box (.ptr 0 0 0 0 2)),(23,.loop true [(6,.fn (.func 87) [] [.ptr 19 0 0 0 0]),(5,.ptr 0 0 0 0 2),(3,.ptr 15 0 0 0 0),(2,.d (I 0)),(1,.ptr 13 0 0 0 0),(0,.ptr 0 0 0 0 2)] [7] (ZY cx.P 30 0).1 (ZY cx.P 30 0).2 22)]⟩
theorem J3 {n e a1 a2 a3 a4 a5 a6 a7 f g c d}(sa)(r)(h:Z0 n e a1 a2 a3 a4 a5 a6 a7 f g c d sa=some r):Rl (ZJ cx.P 87 0) 23 24 false (J5 e a1 a2 a3 a4 a5 a6 a7 f g c d) sa r:=by
 unfold Z0 at h;obtain⟨a,h⟩|⟨a,h⟩:=io h
 ·have⟨ha2,h⟩:=gd h;have⟨ta3,ha3,h⟩:=bo h;have q:=Qa (QX Qq ha3) (Qa ha2 (Qa (jDj a) QL));let o(l:jOj):=b1::b1::.el (QB ta3)::l;obtain⟨b,h⟩|⟨b,h⟩:=io h
  ·have⟨ha5,h⟩:=gd h;have⟨ha6,h⟩:=gd h;have⟨ha7,h⟩:=gd h;have⟨ha8,h⟩:=gd h;have⟨ha9,h⟩:=gd h;cases h;exact rn 30 (o [b1,.no]) [] [0,8,9,10] [0,1,2,10,11,12,13,15,19,23] (Qa ha9 (Qa ha8 (Qa ha7 (Qa ha6 (Qa ha5 (Qa b q))))))
  have⟨ha5,h⟩:=gd h;cases h;exact rn 30 (o [b0,.no]) [] [0,8,9,10] [0,1,2,10,11,12,13,15,19,23] (Qa ha5 (Qa (QA b) q))
 cases h;exact rx 30 [b0] [] [] [0,1,2,10,11,12,13,15,19,23] (Qa (jEj a) QL)
def Wq (n:Nat)(c a1:jVj)(a2 a3:Int)(a4 a5:Bool)(a6 a7 d:Int)(e a b:jVj):Option (Int) := (Q2 (Z0 n c a1 a2 a3 a4 a5 a6 a7 d e a b) n (0,0)).bind fun f=>some f
theorem Ut {n c a1 a2 a3 a4 a5 a6 a7 e f a b r}(h:Wq n c a1 a2 a3 a4 a5 a6 a7 e f a b=some r):ComputesO cx 30 [.ptr 0 0 0 0 2] (some (Qb c a1 a2 a3 a4 a5 a6 a7 e f a b)) (.d (I r)) (Qb c a1 a2 a3 a4 a5 a6 a7 e f a b) ZV:=by unfold Wq at h;have⟨t1,h1,h⟩:=bo h;obtain rfl:=oi h;exact rfO 0 [b1,.lp [] [0,8,9,10] [0,1,2,10,11,12,13,15,19,23] (.exit 0) [] [(0,.box (.agg [.own 1 0,.own 2 0,.d (I a2),.d (I a3),.d (B a4),.d (B a5),.d (I a6),.d (I a7),.d (I e),.own 10 0,.own 11 0,.own 12 0])),(1,.row 0 5 c),(2,.row 0 5 a1),(10,.row 0 1 f),(11,.row 0 6 a),(12,.row 0 7 b),(13,.box (.ptr 0 0 0 0 2)),(15,.box (.d (I t1))),(19,.box (.ptr 0 0 0 0 2)),(23,.loop true [(6,.fn (.func 87) [] [.ptr 19 0 0 0 0]),(5,.ptr 0 0 0 0 2),(3,.ptr 15 0 0 0 0),(2,.d (I 0)),(1,.ptr 13 0 0 0 0),(0,.ptr 0 0 0 0 2)] [7] (ZY cx.P 30 0).1 (ZY cx.P 30 0).2 22)] 72] (Qa (QH J3 h1) QL)
def Q8 (n:Nat)(a:Int)(a1 a2:jVj)(a3 a4:Int)(a5 a6:Bool)(a7 f g:Int)(c d e:jVj):Option (Int×Int) := (Wq n a1 a2 a3 a4 a5 a6 a7 f g c d e).bind fun b=>if Qh (a - a3) then if Qh (b*(a - a3)) then if Qh (a7+(b*(a - a3))) then if Qh (f+(b*(a - a3))) then some ((a7+(b*(a - a3))),(f+(b*(a - a3)))) else none else none else none else none
theorem WA {n g a1 a2 a3 a4 a5 a6 a7 e f a b c r}(h:Q8 n g a1 a2 a3 a4 a5 a6 a7 e f a b c=some r):ComputesO cx 22 [.ptr 0 0 0 0 2,.d (I g)] (some (Qb a1 a2 a3 a4 a5 a6 a7 e f a b c)) (.d (.agg [I r.1,I r.2])) (Qb a1 a2 a3 a4 a5 a6 a7 e f a b c) ZV:=by unfold Q8 at h;have⟨t1,h1,h⟩:=bo h;have⟨h2,h⟩:=gd h;have⟨h3,h⟩:=gd h;have⟨h4,h⟩:=gd h;have⟨h5,h⟩:=gd h;cases h;exact rfO 0 [.obj (some 0) (.d (I t1)) (Qb a1 a2 a3 a4 a5 a6 a7 e f a b c) ZV] (Qa h5 (Qa h4 (Qa h3 (Qa h2 (Qa (Ut h1) QL)))))
def Qp (n:Nat)(e:Int)(a1 a2:jVj)(a3 a4:Int)(a5 a6:Bool)(a7 f g:Int)(b c d:jVj):Option (Int) := (Q8 n e a1 a2 a3 a4 a5 a6 a7 f g b c d).bind fun a=>(Qm n (!((a.1==(minI a.1 1000000000000000))&&((a.2==(minI a.2 1000000000000000))&&true))) 4).bind fun h=>some h
theorem Qv {n g a1 a2 a3 a4 a5 a6 a7 e f a b c r}(h:Qp n g a1 a2 a3 a4 a5 a6 a7 e f a b c=some r):ComputesO cx 21 [.ptr 0 0 0 0 2,.d (I g)] (some (Qb a1 a2 a3 a4 a5 a6 a7 e f a b c)) (.d (I r)) (Qb a1 a2 a3 a4 a5 a6 a7 e f a b c) ZV:=by unfold Qp at h;have⟨t1,h1,h⟩:=bo h;have⟨t2,h2,h⟩:=bo h;obtain rfl:=oi h;exact rfO 0 [.obj (some 0) (.d (.agg [I t1.1,I t1.2])) (Qb a1 a2 a3 a4 a5 a6 a7 e f a b c) ZV,.ret (I t2)] (Qa (Qu h2) (Qa (WA h1) QL))
def Wj (n:Nat)(b:jVj)(a1:jSj)(sa:Int):Option (Int⊕Int⊕Unit) := if sa<((b).length:Int) then(el Ww b sa).bind fun a=>if(a1.toList==a.toList)=true then some (.inr (.inl sa)) else if Qh (sa+1) then some (.inl (sa+1)) else none else some (.inr (.inr ()))
noncomputable def X3 (a:jVj)(a1:jSj):Lp (Int) (Int⊕Unit):=⟨fun sa=>[(0,.d (.lst false 1 a)),(1,.d (Qr5 a1)),(7,.d (I ((a).length:Int))),(8,.d (I sa))],fun _=>[],fun
 | (.inl e)=>.ret
 | (.inr e)=>(.exit 0),fun
 | (.inl e)=>[(4,.d (I e))]
 | (.inr e)=>[],fun _=>[]⟩
theorem Kh {n c a1}(sa)(r)(h:Wj n c a1 sa=some r):Rl (ZJ cx.P 92 0) 19 0 false (X3 c a1) sa r:=by
 unfold Wj at h;obtain⟨a,h⟩|⟨a,h⟩:=io h
 ·have⟨ta2,ha2,h⟩:=bo h;have q:=allE Qr ha2 (Qa (jDj a) QL);obtain⟨b,h⟩|⟨b,h⟩:=io h
  ·cases h;exact rx 4 [b1,.el (Zy ta2),b1] [] [4] [] (Qa b q)
  have⟨ha4,h⟩:=gd h;cases h;exact rn 4 [b1,.el (Zy ta2),b0] [] [0,1,7,8] [] (Qa ha4 (Qa (QA b) q))
 cases h;exact rx 4 [b0] [] [] [] (Qa (jEj a) QL)
def QE (n:Nat)(b:jVj)(a1:jSj):Option (Int) := (Q2 (Wj n b a1) n 0).bind fun a=>match a with|.inl a=>(some a)|.inr a=>(some (-1))
theorem QK {n b a1 r}(h:QE n b a1=some r):Computes cx 92 [.lst false 1 b,Qr5 a1] (I r):=by
 unfold QE at h;have⟨a,h1,h⟩:=bo h;obtain a|a:=a
 ·obtain rfl:=oi h;exact rf [.lp [] [0,1,7,8] [] .ret [(4,.d (I a))] [] 26] (Qa (QH Kh h1) QL)
 cases h;exact rf [.lp [] [0,1,7,8] [] (.exit 0) [] [] 26] (Qa (QH Kh h1) QL)
def Zb (n:Nat)(a:jVj)(a1:jSj):Option (Bool) := (QE n a a1).bind fun b=>some (decide (b>=0))
theorem Z2 {n a a1 r}(h:Zb n a a1=some r):Computes cx 85 [.lst false 1 a,Qr5 a1] (B r):=by unfold Zb at h;have⟨t1,h1,h⟩:=bo h;cases h;exact rf [.ret (I t1)] (Qa (QK h1) QL)
def ZN (n:Nat)(a a1:jSj)(a2 a3:Int)(a4 a5:Bool):Option (jSj) := some a
theorem Yw {n a a1 a2 a3 a4 a5 r}(h:ZN n a a1 a2 a3 a4 a5=some r):Computes cx 94 [.agg [Qr5 a,Qr5 a1,I a2,I a3,B a4,B a5]] (Qr5 r):=by unfold ZN at h;obtain rfl:=oi h;exact rf [] QL
def Q7 (x:jSj×Int×Int×Int×Int×Int×Bool):D:=.agg [Qr5 x.1,I x.2.1,I x.2.2.1,I x.2.2.2.1,I x.2.2.2.2.1,I x.2.2.2.2.2.1,B x.2.2.2.2.2.2]
def Z6:D->Option (jSj×Int×Int×Int×Int×Int×Bool)
 | .agg [c0,c1,c2,c3,c4,c5,c6]=>(JR c0).bind fun a=>(Ya .i64 c1).bind fun b=>(Ya .i64 c2).bind fun c=>(Ya .i64 c3).bind fun d=>(Ya .i64 c4).bind fun e=>(Ya .i64 c5).bind fun f=>(Gw c6).bind fun g=>some (a,b,c,d,e,f,g)
 | _=>none
theorem Q0 {d:D}{x:jSj×Int×Int×Int×Int×Int×Bool}(h:Z6 d=some x):d=Q7 x:=by
 unfold Z6 at h;split at h;case h_2=>cases h
 obtain⟨q,j,h⟩:=ZX h;obtain⟨r,k,h⟩:=ZX h;obtain⟨s,l,h⟩:=ZX h;obtain⟨t,m,h⟩:=ZX h;obtain⟨u,n,h⟩:=ZX h;obtain⟨v,o,h⟩:=ZX h;obtain⟨y,p,h⟩:=ZX h;cases h;have a:=YU j;have b:=WS k;have c:=WS l;have e:=WS m;have f:=WS n;have g:=WS o;have i:=KG p;rw[a,b,c,e,f,g,i];rfl
def ZM (n:Nat)(a:jSj)(a1 a2 a3 a4 a5:Int)(a6:Bool):Option (jSj) := some a
theorem Yv {n a a1 a2 a3 a4 a5 a6 r}(h:ZM n a a1 a2 a3 a4 a5 a6=some r):Computes cx 96 [.agg [Qr5 a,I a1,I a2,I a3,I a4,I a5,B a6]] (Qr5 r):=by unfold ZM at h;obtain rfl:=oi h;exact rf [] QL
def ZP (n:Nat)(a1 a2:jVj)(a3 a4:Int)(a5 a6:Bool)(a7 f g:Int)(d b e:jVj)(sa:(Int×jVj)):Option (Int×jVj⊕jVj) := if sa.1<((b).length:Int) then if 0<=sa.1/\sa.1<((b).length:Int) then((nth (b) (Int.toNat sa.1)).bind QM).bind fun a=>(ZN n a.1 a.2.1 a.2.2.1 a.2.2.2.1 a.2.2.2.2.1 a.2.2.2.2.2).bind fun c=>if Wa 16 ((sa.2).length+1) then if Qh (sa.1+1) then some (.inl ((sa.1+1),(sa.2++([.v (.string c)]:jVj)))) else none else none else none else some (.inr sa.2)
noncomputable def Jr (a1 a2:jVj)(a3 a4:Int)(a5 a6:Bool)(a7 f g:Int)(b a c:jVj):Lp (Int×jVj) (jVj):=⟨fun sa=>[(1,.d (.fn (.func 94) [] [])),(5,.own 30 0),(8,.own 11 0),(9,.d (I ((a).length:Int))),(10,.d (I sa.1))],fun sa=>[(0,.box (.agg [.own 1 0,.own 2 0,.d (I a3),.d (I a4),.d (B a5),.d (B a6),.d (I a7),.d (I f),.d (I g),.own 10 0,.own 11 0,.own 12 0])),(1,.row 0 5 a1),(2,.row 0 5 a2),(10,.row 0 1 b),(11,.row 0 6 a),(12,.row 0 7 c),(30,.row 0 1 sa.2)],fun _=>(.exit 0),fun _=>[(5,.own 30 0)],fun e=>[(0,.box (.agg [.own 1 0,.own 2 0,.d (I a3),.d (I a4),.d (B a5),.d (B a6),.d (I a7),.d (I f),.d (I g),.own 10 0,.own 11 0,.own 12 0])),(1,.row 0 5 a1),(2,.row 0 5 a2),(10,.row 0 1 b),(11,.row 0 6 a),(12,.row 0 7 c),(30,.row 0 1 e)]⟩
theorem Jo {n a1 a2 a3 a4 a5 a6 a7 e f b c d}(sa)(r)(h:ZP n a1 a2 a3 a4 a5 a6 a7 e f b c d sa=some r):Rl (ZJ cx.P 93 0) 22 25 false (Jr a1 a2 a3 a4 a5 a6 a7 e f b c d) sa r:=by
 unfold ZP at h;obtain⟨a,h⟩|⟨a,h⟩:=io h
 ·have⟨ha2,h⟩:=gd h;have⟨ta3,ha3,h⟩:=bo h;have⟨ta4,ha4,h⟩:=bo h;have⟨ha5,h⟩:=gd h;have⟨ha6,h⟩:=gd h;cases h;exact rn 31 [b1,b1,.el (QB ta3),.ret (Qr5 ta4),b1] [] [1,5,8,9,10] [0,1,2,10,11,12,30] (Qa ha6 (Qa (ro 9 ha5) (Qa (Yw ha4) (Qa (QX Qq ha3) (Qa ha2 (Qa (jDj a) QL))))))
 cases h;exact rx 31 [b0] [] [5] [0,1,2,10,11,12,30] (Qa (jEj a) QL)
def ZO (n:Nat)(a1 a2:jVj)(a3 a4:Int)(a5 a6:Bool)(a7 f g:Int)(d e b:jVj)(sa:(Int×jVj)):Option (Int×jVj⊕jVj) := if sa.1<((b).length:Int) then if 0<=sa.1/\sa.1<((b).length:Int) then((nth (b) (Int.toNat sa.1)).bind Z6).bind fun a=>(ZM n a.1 a.2.1 a.2.2.1 a.2.2.2.1 a.2.2.2.2.1 a.2.2.2.2.2.1 a.2.2.2.2.2.2).bind fun c=>if Wa 16 ((sa.2).length+1) then if Qh (sa.1+1) then some (.inl ((sa.1+1),(sa.2++([.v (.string c)]:jVj)))) else none else none else none else some (.inr sa.2)
noncomputable def Jq (a1 a2:jVj)(a3 a4:Int)(a5 a6:Bool)(a7 f g:Int)(b c a:jVj):Lp (Int×jVj) (jVj):=⟨fun sa=>[(1,.d (.fn (.func 96) [] [])),(5,.own 30 0),(8,.own 12 0),(9,.d (I ((a).length:Int))),(10,.d (I sa.1))],fun sa=>[(0,.box (.agg [.own 1 0,.own 2 0,.d (I a3),.d (I a4),.d (B a5),.d (B a6),.d (I a7),.d (I f),.d (I g),.own 10 0,.own 11 0,.own 12 0])),(1,.row 0 5 a1),(2,.row 0 5 a2),(10,.row 0 1 b),(11,.row 0 6 c),(12,.row 0 7 a),(30,.row 0 1 sa.2)],fun _=>(.exit 0),fun _=>[(5,.own 30 0)],fun e=>[(0,.box (.agg [.own 1 0,.own 2 0,.d (I a3),.d (I a4),.d (B a5),.d (B a6),.d (I a7),.d (I f),.d (I g),.own 10 0,.own 11 0,.own 12 0])),(1,.row 0 5 a1),(2,.row 0 5 a2),(10,.row 0 1 b),(11,.row 0 6 c),(12,.row 0 7 a),(30,.row 0 1 e)]⟩
theorem Jn {n a1 a2 a3 a4 a5 a6 a7 e f b c d}(sa)(r)(h:ZO n a1 a2 a3 a4 a5 a6 a7 e f b c d sa=some r):Rl (ZJ cx.P 95 0) 22 25 false (Jq a1 a2 a3 a4 a5 a6 a7 e f b c d) sa r:=by
 unfold ZO at h;obtain⟨a,h⟩|⟨a,h⟩:=io h
 ·have⟨ha2,h⟩:=gd h;have⟨ta3,ha3,h⟩:=bo h;have⟨ta4,ha4,h⟩:=bo h;have⟨ha5,h⟩:=gd h;have⟨ha6,h⟩:=gd h;cases h;exact rn 31 [b1,b1,.el (Q7 ta3),.ret (Qr5 ta4),b1] [] [1,5,8,9,10] [0,1,2,10,11,12,30] (Qa ha6 (Qa (ro 9 ha5) (Qa (Yv ha4) (Qa (QX Q0 ha3) (Qa ha2 (Qa (jDj a) QL))))))
 cases h;exact rx 31 [b0] [] [5] [0,1,2,10,11,12,30] (Qa (jEj a) QL)
def Qw (n:Nat)(e:Int)(a1 a2:jVj)(a3 a4:Int)(a5 a6:Bool)(a7 f g:Int)(a b c:jVj):Option (jVj) := if e=115 then none else if e=109 then(Q2 (ZP n a1 a2 a3 a4 a5 a6 a7 f g a b c) n (0,[])).bind fun d=>some d else(Q2 (ZO n a1 a2 a3 a4 a5 a6 a7 f g a b c) n (0,[])).bind fun d=>some d
theorem QC {n i a1 a2 a3 a4 a5 a6 a7 e f a b c r}(h:Qw n i a1 a2 a3 a4 a5 a6 a7 e f a b c=some r):ComputesO cx 86 [.ptr 0 0 0 0 2,.d (.v (.int .u8 i))] (some (Qb a1 a2 a3 a4 a5 a6 a7 e f a b c)) (.d (.lst false 1 r)) (Qb a1 a2 a3 a4 a5 a6 a7 e f a b c) ZV:=by
 unfold Qw at h;obtain⟨j,h⟩|⟨j,h⟩:=io h
 ·cases h
 have q:=Qa (eqf j) QL;obtain⟨g,h⟩|⟨g,h⟩:=io h
 ·have⟨t3,h3,h⟩:=bo h;obtain rfl:=oi h;exact rfO 0 [b0,b1,b1,.lp [5,1] [1,5,8,9,10] [0,1,2,10,11,12,30] (.exit 0) [(5,.own 30 0)] [(0,.box (.agg [.own 1 0,.own 2 0,.d (I a3),.d (I a4),.d (B a5),.d (B a6),.d (I a7),.d (I e),.d (I f),.own 10 0,.own 11 0,.own 12 0])),(1,.row 0 5 a1),(2,.row 0 5 a2),(10,.row 0 1 a),(11,.row 0 6 b),(12,.row 0 7 c),(30,.row 0 1 t3)] 56] (Qa (QH Jo h3) (Qa (eqt g) q))
 have⟨t3,h3,h⟩:=bo h;obtain rfl:=oi h;exact rfO 0 [b0,b0,b1,.lp [5,1] [1,5,8,9,10] [0,1,2,10,11,12,30] (.exit 0) [(5,.own 30 0)] [(0,.box (.agg [.own 1 0,.own 2 0,.d (I a3),.d (I a4),.d (B a5),.d (B a6),.d (I a7),.d (I e),.d (I f),.own 10 0,.own 11 0,.own 12 0])),(1,.row 0 5 a1),(2,.row 0 5 a2),(10,.row 0 1 a),(11,.row 0 6 b),(12,.row 0 7 c),(30,.row 0 1 t3)] 56] (Qa (QH Jn h3) (Qa (eqf g) q))
def Qg (n:Nat)(q:jSj)(a1:Int)(a2 a3:FnD)(a4:Int)(a5:jSj)(a6 a7:jVj)(s:jSj)(r f:jVj)(g h:Int)(i j:Bool)(k l m:Int)(d o p:jVj)(sa:(Bool×Int)):Option (Bool×Int⊕Unit⊕Bool) := if sa.2<(q.size:Int) then(WQ q sa.2).bind fun c=>if c<97 then if(IntKind.wrap .u8 (c+32))=115 then(el Ww a6 sa.2).bind fun a=>(Zb n d a).bind fun b=>if sa.1=true then if Qh (sa.2+1) then some (.inl (true,(sa.2+1))) else none else if Qh (sa.2+1) then some (.inl (b,(sa.2+1))) else none else(Qw n (IntKind.wrap .u8 (c+32)) r f g h i j k l m d o p).bind fun a=>(el Ww a6 sa.2).bind fun b=>(Zb n a b).bind fun e=>if sa.1=true then if Qh (sa.2+1) then some (.inl (true,(sa.2+1))) else none else if Qh (sa.2+1) then some (.inl (e,(sa.2+1))) else none else if c=115 then(el Ww a6 sa.2).bind fun a=>(Zb n d a).bind fun b=>if b=true then if sa.1=true then if Qh (sa.2+1) then some (.inl (true,(sa.2+1))) else none else if Qh (sa.2+1) then some (.inl (false,(sa.2+1))) else none else some (.inr (.inl ())) else(Qw n c r f g h i j k l m d o p).bind fun a=>(el Ww a6 sa.2).bind fun b=>(Zb n a b).bind fun e=>if e=true then if sa.1=true then if Qh (sa.2+1) then some (.inl (true,(sa.2+1))) else none else if Qh (sa.2+1) then some (.inl (false,(sa.2+1))) else none else some (.inr (.inl ())) else some (.inr (.inr sa.1))
noncomputable def Js (n:jSj)(a1:Int)(a2 a3:FnD)(a4:Int)(a5:jSj)(a6 a7:jVj)(p:jSj)(o a:jVj)(b c:Int)(f g:Bool)(h i j:Int)(k l m:jVj):Lp (Bool×Int) (Unit⊕Bool):=⟨fun sa=>[(0,.ptr 0 0 0 0 2),(4,.ptr 13 0 0 0 0),(5,.ptr 14 0 0 0 0),(7,.d (B sa.1)),(14,.d (I (n.size:Int))),(15,.d (I sa.2))],fun _=>[(0,.box (.agg [.own 1 0,.own 2 0,.d (I b),.d (I c),.d (B f),.d (B g),.d (I h),.d (I i),.d (I j),.own 10 0,.own 11 0,.own 12 0])),(1,.row 0 5 o),(2,.row 0 5 a),(10,.row 0 1 k),(11,.row 0 6 l),(12,.row 0 7 m),(13,.box (.d (.agg [Qr5 n,I a1,.fn a2.1 a2.2.1 a2.2.2,.fn a3.1 a3.2.1 a3.2.2]))),(14,.box (.d (.agg [I a4,Qr5 a5,.lst false 1 a6,.lst false 1 a7,Qr5 p])))],fun
 | (.inl e)=>.ret
 | (.inr e)=>(.exit 0),fun
 | (.inl e)=>[(6,.d (I 10))]
 | (.inr e)=>[(7,.d (B e))],fun _=>[(0,.box (.agg [.own 1 0,.own 2 0,.d (I b),.d (I c),.d (B f),.d (B g),.d (I h),.d (I i),.d (I j),.own 10 0,.own 11 0,.own 12 0])),(1,.row 0 5 o),(2,.row 0 5 a),(10,.row 0 1 k),(11,.row 0 6 l),(12,.row 0 7 m)]⟩
theorem Yx {n C a1 a2 a3 a4 a5 a6 a7 F A g i j k m p s t u x y}(sa)(r)(h:Qg n C a1 a2 a3 a4 a5 a6 a7 F A g i j k m p s t u x y sa=some r):Rl (ZJ cx.P 38 0) 52 13 false (Js C a1 a2 a3 a4 a5 a6 a7 F A g i j k m p s t u x y) sa r:=by
 unfold Qg at h;obtain⟨z,h⟩|⟨z,h⟩:=io h
 ·have⟨ta2,E,h⟩:=bo h;have q:=Qa (Zq E:QV cx.P (Instr.index 9 (.string C) (.int .i64 sa.2))=some (.int .u8 ta2)) (Qa (jDj z) QL);let o(l:jOj):=b1::.el (.v (.int .u8 ta2))::l;obtain⟨b,h⟩|⟨b,h⟩:=io h
  ·have q:=Qa (jDj b) q;obtain⟨f,h⟩|⟨f,h⟩:=io h
   ·have⟨ta5,ha5,h⟩:=bo h;have⟨ta6,ha6,h⟩:=bo h;have q:=Qa (Ud (jDj b)) (Qa (Z2 ha6) (allE Qr ha5 (Qa (eqt f) q)));let o l:=o (b1::.ix (-9)::b1::b1::.el (Zy ta5)::.ix 0::.ret (B ta6)::b0::.no::l);obtain⟨c,h⟩|⟨c,h⟩:=io h
    ·have⟨a,h⟩:=gd h;cases h;exact rn 21 (o [b1]) [] [0,4,5,7,14,15] [0,1,2,10,11,12,13,14] (Qa a (Qa c q))
    have⟨a,h⟩:=gd h;cases h;exact rn 21 (o [b0,b1]) [] [0,4,5,7,14,15] [0,1,2,10,11,12,13,14] (Qa a (Qa (jDj b) (Qa (QA c) q)))
   have⟨ta5,ha5,h⟩:=bo h;have⟨ta6,ha6,h⟩:=bo h;have⟨ta7,c,h⟩:=bo h;have q:=Qa (Ud (jDj b)) (Qa (Z2 c) (allE Qr ha6 (Qa (QC ha5) q)));let o l:=o (b1::.obj (some 0) (.d (.lst false 1 ta5)) (Qb A g i j k m p s t u x y) ZV::.el (Zy ta6)::.ret (B ta7)::b0::.no::l);obtain⟨a,h⟩|⟨a,h⟩:=io h
   ·have⟨e,h⟩:=gd h;cases h;exact rn 21 (o [b1]) [] [0,4,5,7,14,15] [0,1,2,10,11,12,13,14] (Qa e (Qa a q))
   have⟨e,h⟩:=gd h;cases h;exact rn 21 (o [b0,b1]) [] [0,4,5,7,14,15] [0,1,2,10,11,12,13,14] (Qa e (Qa (jDj b) (Qa (QA a) q)))
  have q:=Qa (jEj b) q;let o l:=o (b0::l);obtain⟨f,h⟩|⟨f,h⟩:=io h
  ·have⟨ta5,ha5,h⟩:=bo h;have⟨ta6,ha6,h⟩:=bo h;have q:=Qa (Uc (jEj b)) (Qa (Z2 ha6) (allE Qr ha5 (Qa (eqt f) q)));let o l:=o (.ix (-9)::b1::b1::.el (Zy ta5)::.ix 0::.ret (B ta6)::b1::l);obtain⟨c,h⟩|⟨c,h⟩:=io h
   ·have q:=Qa (Ud c) q;obtain⟨a,h⟩|⟨a,h⟩:=io h
    ·have⟨e,h⟩:=gd h;cases h;exact rn 21 (o [b0,b1]) [] [0,4,5,7,14,15] [0,1,2,10,11,12,13,14] (Qa e (Qa a q))
    have⟨e,h⟩:=gd h;cases h;exact rn 21 (o [b0,b0,b0]) [] [0,4,5,7,14,15] [0,1,2,10,11,12,13,14] (Qa e (Qa (jEj b) (Qa (QA a) q)))
   cases h;exact rx 21 (o [b1]) [] [6] [0,1,2,10,11,12] (Qa (Uc (QA c)) q)
  have⟨ta5,ha5,h⟩:=bo h;have⟨ta6,ha6,h⟩:=bo h;have⟨ta7,c,h⟩:=bo h;have q:=Qa (Uc (jEj b)) (Qa (Z2 c) (allE Qr ha6 (Qa (QC ha5) q)));let o l:=o (.obj (some 0) (.d (.lst false 1 ta5)) (Qb A g i j k m p s t u x y) ZV::.el (Zy ta6)::.ret (B ta7)::b1::l);obtain⟨a,h⟩|⟨a,h⟩:=io h
  ·have q:=Qa (Ud a) q;obtain⟨e,h⟩|⟨e,h⟩:=io h
   ·have⟨ha10,h⟩:=gd h;cases h;exact rn 21 (o [b0,b1]) [] [0,4,5,7,14,15] [0,1,2,10,11,12,13,14] (Qa ha10 (Qa e q))
   have⟨ha10,h⟩:=gd h;cases h;exact rn 21 (o [b0,b0,b0]) [] [0,4,5,7,14,15] [0,1,2,10,11,12,13,14] (Qa ha10 (Qa (jEj b) (Qa (QA e) q)))
  cases h;exact rx 21 (o [b1]) [] [6] [0,1,2,10,11,12] (Qa (Uc (QA a)) q)
 cases h;exact rx 21 [b0] [] [7] [0,1,2,10,11,12] (Qa (jEj z) QL)
def Qk (n:Nat)(m:jSj)(a1:Int)(a2 a3:FnD)(a4:Int)(a5:jSj)(a6 a7:jVj)(o:jSj)(p b:jVj)(c d:Int)(e f:Bool)(g h i:Int)(j k l:jVj):Option (Int) := (Q2 (Qg n m a1 a2 a3 a4 a5 a6 a7 o p b c d e f g h i j k l) n (false,0)).bind fun a=>match a with|.inl a=>(some 10)|.inr a=>((Qm n a 9).bind fun q=>some q)
theorem QI {n q a1 a2 a3 a4 a5 a6 a7 s o a b c e f g i j k l m r}(h:Qk n q a1 a2 a3 a4 a5 a6 a7 s o a b c e f g i j k l m=some r):ComputesO cx 38 [.ptr 0 0 0 0 2,.d (.agg [Qr5 q,I a1,.fn a2.1 a2.2.1 a2.2.2,.fn a3.1 a3.2.1 a3.2.2]),.d (.agg [I a4,Qr5 a5,.lst false 1 a6,.lst false 1 a7,Qr5 s])] (some (Qb o a b c e f g i j k l m)) (.d (I r)) (Qb o a b c e f g i j k l m) ZV:=by
 unfold Qk at h;have⟨p,h1,h⟩:=bo h;obtain p|p:=p
 ·obtain rfl:=oi h;exact rfO 0 [.lp [] [0,4,5,7,14,15] [0,1,2,10,11,12,13,14] .ret [(6,.d (I 10))] [(0,.box (.agg [.own 1 0,.own 2 0,.d (I b),.d (I c),.d (B e),.d (B f),.d (I g),.d (I i),.d (I j),.own 10 0,.own 11 0,.own 12 0])),(1,.row 0 5 o),(2,.row 0 5 a),(10,.row 0 1 k),(11,.row 0 6 l),(12,.row 0 7 m)] 82] (Qa (QH Yx h1) QL)
 have⟨t2,h2,h⟩:=bo h;obtain rfl:=oi h;exact rfO 0 [.lp [] [0,4,5,7,14,15] [0,1,2,10,11,12,13,14] (.exit 0) [(7,.d (B p))] [(0,.box (.agg [.own 1 0,.own 2 0,.d (I b),.d (I c),.d (B e),.d (B f),.d (I g),.d (I i),.d (I j),.own 10 0,.own 11 0,.own 12 0])),(1,.row 0 5 o),(2,.row 0 5 a),(10,.row 0 1 k),(11,.row 0 6 l),(12,.row 0 7 m)] 82,.ret (I t2)] (Qa (Qu h2) (Qa (QH Yx h1) QL))
def Z9 (n:Nat)(d a1:jVj)(a2 a3:Int)(a4 a5:Bool)(a6 a7 e:Int)(f b c:jVj)(sa:Int):Option (Int⊕Unit⊕Unit) := if sa<((b).length:Int) then if 0<=sa/\sa<((b).length:Int) then((nth (b) (Int.toNat sa)).bind QM).bind fun a=>if a.2.2.2.2.2=true then if((a.1==(⟨#[]⟩:jSj))&&((a.2.1==(⟨#[]⟩:jSj))&&((a.2.2.1==0)&&((a.2.2.2.1==0)&&((a.2.2.2.2.1==false)&&((a.2.2.2.2.2==false)&&true))))))=true then if Qh (sa+1) then some (.inl (sa+1)) else none else some (.inr (.inl ())) else if Qh (sa+1) then some (.inl (sa+1)) else none else none else some (.inr (.inr ()))
noncomputable def Gv (c a1:jVj)(a2 a3:Int)(a4 a5:Bool)(a6 a7 f:Int)(g a b:jVj):Lp (Int) (Unit⊕Unit):=⟨fun sa=>[(0,.own 22 0),(8,.own 11 0),(9,.d (I ((a).length:Int))),(10,.d (I sa))],fun _=>[(0,.box (.agg [.own 1 0,.own 2 0,.d (I a2),.d (I a3),.d (B a4),.d (B a5),.d (I a6),.d (I a7),.d (I f),.own 10 0,.own 11 0,.own 12 0])),(1,.row 0 5 c),(2,.row 0 5 a1),(10,.row 0 1 g),(11,.row 0 6 a),(12,.row 0 7 b),(14,.box (.d (B false))),(18,.box (.ptr 0 0 0 0 2)),(22,.loop true [(6,.fn (.func 87) [] [.ptr 18 0 0 0 0]),(5,.ptr 0 0 0 0 2),(3,.ptr 14 0 0 0 0),(2,.d (B false)),(0,.ptr 0 0 0 0 2)] [7] (ZY cx.P 68 0).1 (ZY cx.P 68 0).2 12)],fun
 | (.inl e)=>.ret
 | (.inr e)=>(.exit 0),fun _=>[],fun
 | (.inl e)=>[(0,.box (.agg [.own 1 0,.own 2 0,.d (I a2),.d (I a3),.d (B a4),.d (B a5),.d (I a6),.d (I a7),.d (I f),.own 10 0,.own 11 0,.own 12 0])),(1,.row 0 5 c),(2,.row 0 5 a1),(10,.row 0 1 g),(11,.row 0 6 a),(12,.row 0 7 b),(14,.box (.d (B true))),(18,.box (.ptr 0 0 0 0 2)),(22,.left (.exit 0))]
 | (.inr e)=>[(0,.box (.agg [.own 1 0,.own 2 0,.d (I a2),.d (I a3),.d (B a4),.d (B a5),.d (I a6),.d (I a7),.d (I f),.own 10 0,.own 11 0,.own 12 0])),(1,.row 0 5 c),(2,.row 0 5 a1),(10,.row 0 1 g),(11,.row 0 6 a),(12,.row 0 7 b),(14,.box (.d (B false))),(18,.box (.ptr 0 0 0 0 2)),(22,.loop true [(6,.fn (.func 87) [] [.ptr 18 0 0 0 0]),(5,.ptr 0 0 0 0 2),(3,.ptr 14 0 0 0 0),(2,.d (B false)),(0,.ptr 0 0 0 0 2)] [7] (ZY cx.P 68 0).1 (ZY cx.P 68 0).2 12)]⟩
theorem Y0 {n f a1 a2 a3 a4 a5 a6 a7 g i d e}(sa)(r)(h:Z9 n f a1 a2 a3 a4 a5 a6 a7 g i d e sa=some r):Rl (ZJ cx.P 87 0) 23 23 false (Gv f a1 a2 a3 a4 a5 a6 a7 g i d e) sa r:=by
 unfold Z9 at h;obtain⟨b,h⟩|⟨b,h⟩:=io h
 ·have⟨ha2,h⟩:=gd h;have⟨ta3,ha3,h⟩:=bo h;have q:=Qa (QX Qq ha3) (Qa ha2 (Qa (jDj b) QL));let o(l:jOj):=b1::b1::.el (QB ta3)::l;obtain⟨c,h⟩|⟨c,h⟩:=io h
  ·have q:=Qa c q;obtain⟨a,h⟩|⟨a,h⟩:=io h
   ·have⟨ha6,h⟩:=gd h;cases h;exact rn 29 (o [b1,b0,.no]) [] [0,8,9,10] [0,1,2,10,11,12,14,18,22] (Qa ha6 (Qa (Ud a) q))
   cases h;exact rx 29 (o [b1,b1,.no]) [] [] [0,1,2,10,11,12,14,18,22] (Qa (Uc (QA a)) q)
  have⟨a,h⟩:=gd h;cases h;exact rn 29 (o [b0,.no]) [] [0,8,9,10] [0,1,2,10,11,12,14,18,22] (Qa a (Qa (QA c) q))
 cases h;exact rx 29 [b0] [] [] [0,1,2,10,11,12,14,18,22] (Qa (jEj b) QL)
def W6 (n:Nat)(d a1:jVj)(a2 a3:Int)(a4 a5:Bool)(a6 a7 e:Int)(f a b:jVj):Option (Bool) := (Q2 (Z9 n d a1 a2 a3 a4 a5 a6 a7 e f a b) n 0).bind fun c=>match c with|.inl c=>(some true)|.inr c=>(some false)
theorem Xv {n c a1 a2 a3 a4 a5 a6 a7 e f a b r}(h:W6 n c a1 a2 a3 a4 a5 a6 a7 e f a b=some r):ComputesO cx 68 [.ptr 0 0 0 0 2] (some (Qb c a1 a2 a3 a4 a5 a6 a7 e f a b)) (.d (B r)) (Qb c a1 a2 a3 a4 a5 a6 a7 e f a b) ZV:=by
 unfold W6 at h;have⟨g,h1,h⟩:=bo h;obtain g|g:=g
 ·obtain rfl:=oi h;exact rfO 0 [b1,.lp [] [0,8,9,10] [0,1,2,10,11,12,14,18,22] .ret [] [(0,.box (.agg [.own 1 0,.own 2 0,.d (I a2),.d (I a3),.d (B a4),.d (B a5),.d (I a6),.d (I a7),.d (I e),.own 10 0,.own 11 0,.own 12 0])),(1,.row 0 5 c),(2,.row 0 5 a1),(10,.row 0 1 f),(11,.row 0 6 a),(12,.row 0 7 b),(14,.box (.d (B true))),(18,.box (.ptr 0 0 0 0 2)),(22,.left (.exit 0))] 60] (Qa (QH Y0 h1) QL)
 obtain rfl:=oi h;exact rfO 0 [b1,.lp [] [0,8,9,10] [0,1,2,10,11,12,14,18,22] (.exit 0) [] [(0,.box (.agg [.own 1 0,.own 2 0,.d (I a2),.d (I a3),.d (B a4),.d (B a5),.d (I a6),.d (I a7),.d (I e),.own 10 0,.own 11 0,.own 12 0])),(1,.row 0 5 c),(2,.row 0 5 a1),(10,.row 0 1 f),(11,.row 0 6 a),(12,.row 0 7 b),(14,.box (.d (B false))),(18,.box (.ptr 0 0 0 0 2)),(22,.loop true [(6,.fn (.func 87) [] [.ptr 18 0 0 0 0]),(5,.ptr 0 0 0 0 2),(3,.ptr 14 0 0 0 0),(2,.d (B false)),(0,.ptr 0 0 0 0 2)] [7] (ZY cx.P 68 0).1 (ZY cx.P 68 0).2 12)] 60] (Qa (QH Y0 h1) QL)
def Um (n:Nat)  : Option (Int) :=
 some 14
theorem Xt {n:Nat}  {r:Int}(h:Um n =some r):Computes cx 20 [B true,I 14] (I r):=by unfold Um at h;obtain rfl:=oi h;exact rf [.no] QL
def WL (n:Nat)(e:Int)(a1:jSj)(a2 a3:jVj)(a4:jSj):Option (Int×Int×Int) := (el Vt a3 1).bind fun a=>(el Vt a3 2).bind fun b=>(el Vt a3 0).bind fun d=>if a<d then(Um n).bind fun c=>some (a,b,c) else(Qm n (decide (a>=b)) 14).bind fun c=>some (a,b,c)
theorem GT {n b a1 a2 a3 a4 r}(h:WL n b a1 a2 a3 a4=some r):Computes cx 76 [.agg [I b,Qr5 a1,.lst false 1 a2,.lst false 1 a3,Qr5 a4]] (.tup [.agg [I r.1,I r.2.1],I r.2.2]):=by
 unfold WL at h;have⟨t1,h1,h⟩:=bo h;have⟨t2,h2,h⟩:=bo h;have⟨t3,h3,h⟩:=bo h;have q:=allE Qi h3 (allE Qi h2 (allE Qi h1 QL));let o(l:jOj):=.el (Q3 t1)::.el (Q3 t2)::.el (Q3 t3)::l;obtain⟨a,h⟩|⟨a,h⟩:=io h
 ·have⟨t5,h5,h⟩:=bo h;cases h;exact rf (o [b1,.ret (I t5)]) (Qa (Xt h5) (Qa (jDj a) q))
 have⟨t5,h5,h⟩:=bo h;cases h;exact rf (o [b0,.ret (I t5)]) (Qa (Qu h5) (Qa (jEj a) q))
def Zg (n:Nat)(a:jSj)(a1 a2 a3 a4 a5:Int)(a6:Bool):Option (Int) := if Qh (a3 - a5) then some (a3 - a5) else none
theorem W8 {n a a1 a2 a3 a4 a5 a6 r}(h:Zg n a a1 a2 a3 a4 a5 a6=some r):Computes cx 91 [.agg [Qr5 a,I a1,I a2,I a3,I a4,I a5,B a6]] (I r):=by unfold Zg at h;have⟨h1,h⟩:=gd h;cases h;exact rf [] (Qa h1 QL)
def Qs (n:Nat)(C:Int)(a1:jSj)(a2 a3:jVj)(a4:jSj)(a5 a6:jVj)(a7 i:Int)(h c:Bool)(e f g:Int)(d a b:jVj):Option (Int) := if Qh (((a5).length:Int)+1) then if C=(((a5).length:Int)+1) then if(a1.toList==(⟨#[117,110,100,111]⟩:jSj).toList)=true then if((a6).length:Int)=0 then some 12 else if Qh (((a6).length:Int) - 1) then if 0<=(((a6).length:Int) - 1)/\(((a6).length:Int) - 1)<((a6).length:Int) then((nth (a6) (Int.toNat (((a6).length:Int) - 1))).bind Ze).bind fun W=>if(W.2.1.toList==(⟨#[100,101,108,105,118,101,114]⟩:jSj).toList)=true then(Un n).bind fun O=>some O else(Qm n (W.2.1.toList==(⟨#[98,105,108,108]⟩:jSj).toList) 21).bind fun O=>some O else none else none else(el Vt a3 0).bind fun t=>if t<a7 then some 22 else if a1.data.toList=[115,101,99,116,111,114] then(Qp n t a5 a6 a7 i h c e f g d a b).bind fun W=>(Qk n (⟨#[83]⟩) 1 ((.func 42:Fn),[],[]) ((.func 43:Fn),[],[]) C a1 a2 a3 a4 a5 a6 a7 i h c e f g d a b).bind fun Y=>(Qo n ([I W,I Y])).bind fun O=>if O=0 then(Qm n (((d).length:Int)==8) 5).bind fun E=>some E else some O else if a1.data.toList=[109,105,114,114,111,114] then(Qp n t a5 a6 a7 i h c e f g d a b).bind fun Y=>(Qk n (⟨#[77,115]⟩) 2 ((.func 44:Fn),[],[]) ((.func 45:Fn),[],[]) C a1 a2 a3 a4 a5 a6 a7 i h c e f g d a b).bind fun O=>(Qo n ([I Y,I O])).bind fun J=>if J=0 then(el Vt a3 1).bind fun F=>(ZE n F 1 100).bind fun u=>(Qm n (((a).length:Int)==32) 5).bind fun v=>(Qo n ([I u,I v])).bind fun x=>some x else some J else if a1.data.toList=[115,111,105,108] then(Qp n t a5 a6 a7 i h c e f g d a b).bind fun O=>(Qk n (⟨#[109]⟩) 2 ((.func 46:Fn),[],[]) ((.func 88:Fn),[],[.ref (.fn (.func 48) [] []) 0]) C a1 a2 a3 a4 a5 a6 a7 i h c e f g d a b).bind fun J=>(Qo n ([I O,I J])).bind fun E=>if E=0 then(el Vt a3 1).bind fun u=>(ZE n u 0 1000).bind fun v=>some v else some E else if a1.data.toList=[99,108,101,97,110] then(Qp n t a5 a6 a7 i h c e f g d a b).bind fun J=>(Qk n (⟨#[109]⟩) 1 ((.func 49:Fn),[],[]) ((.func 88:Fn),[],[.ref (.fn (.func 50) [] []) 0]) C a1 a2 a3 a4 a5 a6 a7 i h c e f g d a b).bind fun E=>(Qo n ([I J,I E])).bind fun F=>if F=0 then some 0 else some F else if a1.data.toList=[100,101,102,101,99,116] then(Qp n t a5 a6 a7 i h c e f g d a b).bind fun E=>(Qk n (⟨#[109]⟩) 1 ((.func 90:Fn),[],[.ref (.fn (.func 52) [] []) 0]) ((.func 88:Fn),[],[.ref (.fn (.func 53) [] []) 0]) C a1 a2 a3 a4 a5 a6 a7 i h c e f g d a b).bind fun F=>(Qo n ([I E,I F])).bind fun u=>if u=0 then(el Ww a2 0).bind fun x=>(Qw n 109 a5 a6 a7 i h c e f g d a b).bind fun y=>(QE n y x).bind fun p=>if 0<=p/\p<((a).length:Int) then((nth (a) (Int.toNat p)).bind QM).bind fun m=>(Qm n m.2.2.2.2.1 9).bind fun k=>(Qm n m.2.2.2.2.2 31).bind fun l=>(Qo n ([I k,I l])).bind fun r=>some r else none else some u else if a1.data.toList=[114,101,112,97,105,114] then(Qp n t a5 a6 a7 i h c e f g d a b).bind fun F=>(Qk n (⟨#[109]⟩) 1 ((.func 90:Fn),[],[.ref (.fn (.func 54) [] []) 0]) ((.func 88:Fn),[],[.ref (.fn (.func 55) [] []) 0]) C a1 a2 a3 a4 a5 a6 a7 i h c e f g d a b).bind fun u=>(Qo n ([I F,I u])).bind fun v=>if v=0 then(el Ww a2 0).bind fun y=>(Qw n 109 a5 a6 a7 i h c e f g d a b).bind fun p=>(QE n p y).bind fun q=>if 0<=q/\q<((a).length:Int) then((nth (a) (Int.toNat q)).bind QM).bind fun k=>(Qm n (!k.2.2.2.2.1) 22).bind fun l=>some l else none else some v else if a1.data.toList=[97,105,109] then(Qp n t a5 a6 a7 i h c e f g d a b).bind fun u=>(Qk n (⟨#[109]⟩) 1 ((.func 90:Fn),[],[.ref (.fn (.func 56) [] []) 0]) ((.func 88:Fn),[],[.ref (.fn (.func 57) [] []) 0]) C a1 a2 a3 a4 a5 a6 a7 i h c e f g d a b).bind fun v=>(Qo n ([I u,I v])).bind fun x=>if x=0 then(el Ww a2 0).bind fun p=>(Qw n 109 a5 a6 a7 i h c e f g d a b).bind fun q=>(QE n q p).bind fun m=>if 0<=m/\m<((a).length:Int) then(Qm n (!h) 30).bind fun l=>(Qm n c 29).bind fun r=>((nth (a) (Int.toNat m)).bind QM).bind fun o=>(Qm n o.2.2.2.2.1 21).bind fun s=>(Qm n o.2.2.2.2.2 9).bind fun z=>(Qo n ([I l,I r,I s,I z])).bind fun G=>some G else none else some x else if a1.data.toList=[112,97,114,107] then(Qp n t a5 a6 a7 i h c e f g d a b).bind fun v=>(Qk n (⟨#[109]⟩) 1 ((.func 90:Fn),[],[.ref (.fn (.func 58) [] []) 0]) ((.func 88:Fn),[],[.ref (.fn (.func 59) [] []) 0]) C a1 a2 a3 a4 a5 a6 a7 i h c e f g d a b).bind fun x=>(Qo n ([I v,I x])).bind fun y=>if y=0 then(el Ww a2 0).bind fun q=>(Qw n 109 a5 a6 a7 i h c e f g d a b).bind fun m=>(QE n m q).bind fun k=>if 0<=k/\k<((a).length:Int) then((nth (a) (Int.toNat k)).bind QM).bind fun r=>(Qm n (!r.2.2.2.2.2) 22).bind fun o=>some o else none else some y else if a1.data.toList=[100,105,109] then(Qp n t a5 a6 a7 i h c e f g d a b).bind fun x=>(Qk n (⟨#[115]⟩) 1 ((.func 49:Fn),[],[]) ((.func 60:Fn),[],[]) C a1 a2 a3 a4 a5 a6 a7 i h c e f g d a b).bind fun y=>(Qo n ([I x,I y])).bind fun p=>if p=0 then some 0 else some p else if a1.data.toList=[115,117,110] then(Qp n t a5 a6 a7 i h c e f g d a b).bind fun y=>(Qk n (⟨#[]⟩) 2 ((.func 63:Fn),[],[]) ((.func 64:Fn),[],[]) C a1 a2 a3 a4 a5 a6 a7 i h c e f g d a b).bind fun p=>(Qo n ([I y,I p])).bind fun q=>if q=0 then(el Vt a3 1).bind fun k=>(ZE n k 0 1000).bind fun l=>some l else some q else if a1.data.toList=[102,105,108,108] then(Qp n t a5 a6 a7 i h c e f g d a b).bind fun p=>(Qk n (⟨#[]⟩) 1 ((.func 65:Fn),[],[]) ((.func 66:Fn),[],[]) C a1 a2 a3 a4 a5 a6 a7 i h c e f g d a b).bind fun q=>(Qo n ([I p,I q])).bind fun m=>if m=0 then(Qm n h 9).bind fun l=>some l else some m else if a1.data.toList=[100,114,97,105,110] then(Qp n t a5 a6 a7 i h c e f g d a b).bind fun q=>(Qk n (⟨#[]⟩) 1 ((.func 67:Fn),[],[]) ((.func 69:Fn),[],[]) C a1 a2 a3 a4 a5 a6 a7 i h c e f g d a b).bind fun m=>(Qo n ([I q,I m])).bind fun k=>if k=0 then(Qm n (!h) 22).bind fun r=>(W6 n a5 a6 a7 i h c e f g d a b).bind fun o=>(Qm n o 31).bind fun s=>(Qo n ([I r,I s])).bind fun z=>some z else some k else if a1.data.toList=[116,114,105,112] then(Qp n t a5 a6 a7 i h c e f g d a b).bind fun m=>(Qk n (⟨#[]⟩) 1 ((.func 70:Fn),[],[]) ((.func 71:Fn),[],[]) C a1 a2 a3 a4 a5 a6 a7 i h c e f g d a b).bind fun k=>(Qo n ([I m,I k])).bind fun l=>if l=0 then(Qm n c 9).bind fun o=>some o else some l else if a1.data.toList=[114,101,115,101,116] then(Qp n t a5 a6 a7 i h c e f g d a b).bind fun k=>(Qk n (⟨#[]⟩) 1 ((.func 73:Fn),[],[]) ((.func 74:Fn),[],[]) C a1 a2 a3 a4 a5 a6 a7 i h c e f g d a b).bind fun l=>(Qo n ([I k,I l])).bind fun r=>if r=0 then(Qm n (!c) 22).bind fun s=>some s else some r else if a1.data.toList=[111,102,102,101,114] then(Qp n t a5 a6 a7 i h c e f g d a b).bind fun l=>(Qk n (⟨#[79]⟩) 5 ((.func 75:Fn),[],[]) ((.func 77:Fn),[],[]) C a1 a2 a3 a4 a5 a6 a7 i h c e f g d a b).bind fun r=>(Qo n ([I l,I r])).bind fun o=>if o=0 then(WL n C a1 a2 a3 a4).bind fun z=>(el Vt a3 3).bind fun G=>(ZE n G 1 1000).bind fun K=>(el Vt a3 4).bind fun H=>(ZE n H 0 1000).bind fun L=>(Qm n (((b).length:Int)==32) 5).bind fun A=>(Qo n ([I z.2.2,I K,I L,I A])).bind fun j=>some j else some o else if a1.data.toList=[100,101,108,105,118,101,114] then(Qp n t a5 a6 a7 i h c e f g d a b).bind fun r=>(Qk n (⟨#[111]⟩) 2 ((.func 78:Fn),[],[]) ((.func 79:Fn),[],[]) C a1 a2 a3 a4 a5 a6 a7 i h c e f g d a b).bind fun o=>(Qo n ([I r,I o])).bind fun s=>if s=0 then(el Ww a2 0).bind fun G=>(Qw n 111 a5 a6 a7 i h c e f g d a b).bind fun K=>(QE n K G).bind fun H=>if 0<=H/\H<((b).length:Int) then(el Vt a3 1).bind fun A=>((nth (b) (Int.toNat H)).bind Z6).bind fun j=>(Qm n j.2.2.2.2.2.2 23).bind fun P=>if t<j.2.1 then(Um n).bind fun M=>(Qm n (A==0) 3).bind fun Q=>(Zg n j.1 j.2.1 j.2.2.1 j.2.2.2.1 j.2.2.2.2.1 j.2.2.2.2.2.1 j.2.2.2.2.2.2).bind fun S=>(Qm n (decide (A>S)) 20).bind fun T=>(Qo n ([I P,I M,I Q,I T])).bind fun N=>if N=0 then if Qh (A*1000000) then(Q8 n t a5 a6 a7 i h c e f g d a b).bind fun U=>(Qm n (decide ((A*1000000)>U.2)) 16).bind fun V=>some V else none else some N else(Qm n (decide (t>=j.2.2.1)) 14).bind fun M=>(Qm n (A==0) 3).bind fun Q=>(Zg n j.1 j.2.1 j.2.2.1 j.2.2.2.1 j.2.2.2.2.1 j.2.2.2.2.2.1 j.2.2.2.2.2.2).bind fun S=>(Qm n (decide (A>S)) 20).bind fun T=>(Qo n ([I P,I M,I Q,I T])).bind fun N=>if N=0 then if Qh (A*1000000) then(Q8 n t a5 a6 a7 i h c e f g d a b).bind fun U=>(Qm n (decide ((A*1000000)>U.2)) 16).bind fun V=>some V else none else some N else none else some s else if a1.data.toList=[98,105,108,108] then(Qp n t a5 a6 a7 i h c e f g d a b).bind fun o=>(Qk n (⟨#[111]⟩) 1 ((.func 81:Fn),[],[]) ((.func 82:Fn),[],[]) C a1 a2 a3 a4 a5 a6 a7 i h c e f g d a b).bind fun s=>(Qo n ([I o,I s])).bind fun z=>if z=0 then(el Ww a2 0).bind fun K=>(Qw n 111 a5 a6 a7 i h c e f g d a b).bind fun H=>(QE n H K).bind fun L=>if 0<=L/\L<((b).length:Int) then((nth (b) (Int.toNat L)).bind Z6).bind fun j=>(Qm n j.2.2.2.2.2.2 23).bind fun P=>(Qm n (decide (t<j.2.2.1)) 32).bind fun X=>(Qo n ([I P,I X])).bind fun M=>some M else none else some z else if a1.data.toList=[117,110,100,111] then(Qp n t a5 a6 a7 i h c e f g d a b).bind fun s=>(Qk n (⟨#[]⟩) 0 ((.func 49:Fn),[],[]) ((.func 84:Fn),[],[]) C a1 a2 a3 a4 a5 a6 a7 i h c e f g d a b).bind fun z=>(Qo n ([I s,I z])).bind fun G=>if G=0 then some 0 else some G else none else some 11 else none
abbrev Qsp:D:=.agg [.v (.string ⟨#[109]⟩),I 1,.fn (.func 49) [] [],.fn (.func 88) [] [.ref (.fn (.func 50) [] []) 0]]
abbrev Qso:D:=.agg [.v (.string ⟨#[109]⟩),I 1,.fn (.func 90) [] [.ref (.fn (.func 52) [] []) 0],.fn (.func 88) [] [.ref (.fn (.func 53) [] []) 0]]
abbrev Qsn:D:=.agg [.v (.string ⟨#[109]⟩),I 1,.fn (.func 90) [] [.ref (.fn (.func 54) [] []) 0],.fn (.func 88) [] [.ref (.fn (.func 55) [] []) 0]]
abbrev Qsm:D:=.agg [.v (.string ⟨#[109]⟩),I 1,.fn (.func 90) [] [.ref (.fn (.func 56) [] []) 0],.fn (.func 88) [] [.ref (.fn (.func 57) [] []) 0]]
abbrev Qsl:D:=.agg [.v (.string ⟨#[109]⟩),I 1,.fn (.func 90) [] [.ref (.fn (.func 58) [] []) 0],.fn (.func 88) [] [.ref (.fn (.func 59) [] []) 0]]
abbrev Qsk:D:=.agg [.v (.string ⟨#[109]⟩),I 2,.fn (.func 46) [] [],.fn (.func 88) [] [.ref (.fn (.func 48) [] []) 0]]
abbrev Qsj:D:=.agg [.v (.string ⟨#[111]⟩),I 1,.fn (.func 81) [] [],.fn (.func 82) [] []]
abbrev Qsi:D:=.agg [.v (.string ⟨#[111]⟩),I 2,.fn (.func 78) [] [],.fn (.func 79) [] []]
abbrev Qsh:D:=.agg [.v (.string ⟨#[115]⟩),I 1,.fn (.func 49) [] [],.fn (.func 60) [] []]
abbrev Qsg:D:=.agg [.v (.string ⟨#[77,115]⟩),I 2,.fn (.func 44) [] [],.fn (.func 45) [] []]
abbrev Qsf:D:=.agg [.v (.string ⟨#[79]⟩),I 5,.fn (.func 75) [] [],.fn (.func 77) [] []]
abbrev Qse:D:=.agg [.v (.string ⟨#[83]⟩),I 1,.fn (.func 42) [] [],.fn (.func 43) [] []]
abbrev Qsd:D:=.agg [.v (.string ⟨#[]⟩),I 0,.fn (.func 49) [] [],.fn (.func 84) [] []]
abbrev Qsc:D:=.agg [.v (.string ⟨#[]⟩),I 1,.fn (.func 65) [] [],.fn (.func 66) [] []]
abbrev Qsb:D:=.agg [.v (.string ⟨#[]⟩),I 1,.fn (.func 67) [] [],.fn (.func 69) [] []]
abbrev Qsa:D:=.agg [.v (.string ⟨#[]⟩),I 1,.fn (.func 70) [] [],.fn (.func 71) [] []]
abbrev Qr9:D:=.agg [.v (.string ⟨#[]⟩),I 1,.fn (.func 73) [] [],.fn (.func 74) [] []]
abbrev Qr8:D:=.agg [.v (.string ⟨#[]⟩),I 2,.fn (.func 63) [] [],.fn (.func 64) [] []]
theorem YZ {n X a1 a2 a3 a4 a5 a6 a7 k m a b c e f g i r}(h:Qs n X a1 a2 a3 a4 a5 a6 a7 k m a b c e f g i=some r):ComputesO cx 27 [.ptr 0 0 0 0 0,.d (.agg [I X,Qr5 a1,.lst false 1 a2,.lst false 1 a3,Qr5 a4])] (some (Qb a5 a6 a7 k m a b c e f g i)) (.d (I r)) (Qb a5 a6 a7 k m a b c e f g i) ZV:=by
 unfold Qs at h;have⟨h1,h⟩:=gd h;have q:=Qa h1 QL;obtain⟨V,h⟩|⟨V,h⟩:=io h
 ·have q:=Qa (nef V) q;let o(l:jOj):=b0::l;obtain⟨W,h⟩|⟨W,h⟩:=io h
  ·have q:=Qa W q;obtain⟨K,h⟩|⟨K,h⟩:=io h
   ·obtain rfl:=oi h;exact rfO 0 (o [b1,b1]) (Qa (eqt K) q)
   have⟨T,h⟩:=gd h;have⟨U,h⟩:=gd h;have⟨t7,S,h⟩:=bo h;have q:=Qa (QX Ql S) (Qa U (Qa T (Qa (eqf K) q)));let o l:=o (b1::b0::b1::.el (QP t7)::l);obtain⟨Q,h⟩|⟨Q,h⟩:=io h
   ·have⟨t9,O,h⟩:=bo h;obtain rfl:=oi h;exact rfO 0 (o [b1,.ret (I t9)]) (Qa (jh O) (Qa Q q))
   have⟨t9,O,h⟩:=bo h;obtain rfl:=oi h;exact rfO 0 (o [b0,.ret (I t9)]) (Qa (Qu O) (Qa (QA Q) q))
  have⟨t4,K,h⟩:=bo h;have q:=allE Qi K (Qa (QA W) q);let o l:=o (b0::.el (Q3 t4)::l);obtain⟨T,h⟩|⟨T,h⟩:=io h
  ·obtain rfl:=oi h;exact rfO 0 (o [b1]) (Qa (jDj T) q)
  have q:=Qa (jEj T) q;let o l:=o (b0::b1::(no 28 l));obtain⟨U,h⟩|⟨U,h⟩:=io h
  ·have⟨t7,S,h⟩:=bo h;have⟨t8,Q,h⟩:=bo h;have⟨t9,O,h⟩:=bo h;have q:=Qa (leF (Qx O)) (Qa (QI Q) (Qa (Qv S) (allE Qi K (Qa (mk1 ⟨#[115,101,99,116,111,114]⟩ Qse U) q))));let o l:=o (.el Qse::.el (Q3 t4)::.obj (some 0) (.d (I t7)) (Qb a5 a6 a7 k m a b c e f g i) ZV::.obj (some 0) (.d (I t8)) (Qb a5 a6 a7 k m a b c e f g i) ZV::.ret (I t9)::l);obtain⟨J,h⟩|⟨J,h⟩:=io h
   ·have⟨t11,F,h⟩:=bo h;obtain rfl:=oi h;exact rfO 0 (o [b0,.ix (-9),b1,.ret (I t11)]) (Qa (Qu F) (Qa (nef J) q))
   obtain rfl:=oi h;exact rfO 0 (o [b1]) (Qa (net J) q)
  obtain⟨S,h⟩|⟨S,h⟩:=io h
  ·have⟨t8,Q,h⟩:=bo h;have⟨t9,O,h⟩:=bo h;have⟨t10,J,h⟩:=bo h;have q:=Qa (leF (Qx J)) (Qa (QI O) (Qa (Qv Q) (allE Qi K (Qa (mk1 ⟨#[109,105,114,114,111,114]⟩ Qsg S) q))));let o l:=o (.el Qsg::.el (Q3 t4)::.obj (some 0) (.d (I t8)) (Qb a5 a6 a7 k m a b c e f g i) ZV::.obj (some 0) (.d (I t9)) (Qb a5 a6 a7 k m a b c e f g i) ZV::.ret (I t10)::l);obtain⟨F,h⟩|⟨F,h⟩:=io h
   ·have⟨t12,G,h⟩:=bo h;have⟨t13,y,h⟩:=bo h;have⟨t14,z,h⟩:=bo h;have⟨t15,A,h⟩:=bo h;obtain rfl:=oi h;exact rfO 0 (o [b0,.ix (-9),b1,.el (Q3 t12),.ret (I t13),.ret (I t14),.ret (I t15)]) (Qa (leF (Qx A)) (Qa (Qu z) (Qa (WK y) (allE Qi G (Qa (nef F) q)))))
   obtain rfl:=oi h;exact rfO 0 (o [b1]) (Qa (net F) q)
  obtain⟨Q,h⟩|⟨Q,h⟩:=io h
  ·have⟨t9,O,h⟩:=bo h;have⟨t10,J,h⟩:=bo h;have⟨t11,F,h⟩:=bo h;have q:=Qa (leF (Qx F)) (Qa (QI J) (Qa (Qv O) (allE Qi K (Qa (mk1 ⟨#[115,111,105,108]⟩ Qsk Q) q))));let o l:=o (.el Qsk::.el (Q3 t4)::.obj (some 0) (.d (I t9)) (Qb a5 a6 a7 k m a b c e f g i) ZV::.obj (some 0) (.d (I t10)) (Qb a5 a6 a7 k m a b c e f g i) ZV::.ret (I t11)::l);obtain⟨G,h⟩|⟨G,h⟩:=io h
   ·have⟨t13,y,h⟩:=bo h;have⟨t14,z,h⟩:=bo h;obtain rfl:=oi h;exact rfO 0 (o [b0,.ix (-9),b1,.el (Q3 t13),.ret (I t14)]) (Qa (WK z) (allE Qi y (Qa (nef G) q)))
   obtain rfl:=oi h;exact rfO 0 (o [b1]) (Qa (net G) q)
  obtain⟨O,h⟩|⟨O,h⟩:=io h
  ·have⟨t10,J,h⟩:=bo h;have⟨t11,F,h⟩:=bo h;have⟨t12,G,h⟩:=bo h;have q:=Qa (leF (Qx G)) (Qa (QI F) (Qa (Qv J) (allE Qi K (Qa (mk1 ⟨#[99,108,101,97,110]⟩ Qsp O) q))));let o l:=o (.el Qsp::.el (Q3 t4)::.obj (some 0) (.d (I t10)) (Qb a5 a6 a7 k m a b c e f g i) ZV::.obj (some 0) (.d (I t11)) (Qb a5 a6 a7 k m a b c e f g i) ZV::.ret (I t12)::l);obtain⟨y,h⟩|⟨y,h⟩:=io h
   ·obtain rfl:=oi h;exact rfO 0 (o [b0,.ix (-9),b1]) (Qa (nef y) q)
   obtain rfl:=oi h;exact rfO 0 (o [b1]) (Qa (net y) q)
  obtain⟨J,h⟩|⟨J,h⟩:=io h
  ·have⟨t11,F,h⟩:=bo h;have⟨t12,G,h⟩:=bo h;have⟨t13,y,h⟩:=bo h;have q:=Qa (leF (Qx y)) (Qa (QI G) (Qa (Qv F) (allE Qi K (Qa (mk1 ⟨#[100,101,102,101,99,116]⟩ Qso J) q))));let o l:=o (.el Qso::.el (Q3 t4)::.obj (some 0) (.d (I t11)) (Qb a5 a6 a7 k m a b c e f g i) ZV::.obj (some 0) (.d (I t12)) (Qb a5 a6 a7 k m a b c e f g i) ZV::.ret (I t13)::l);obtain⟨z,h⟩|⟨z,h⟩:=io h
   ·have⟨t15,A,h⟩:=bo h;have⟨t16,C,h⟩:=bo h;have⟨t17,x,h⟩:=bo h;have⟨u,h⟩:=gd h;have⟨t19,s,h⟩:=bo h;have⟨t20,p,h⟩:=bo h;have⟨t21,j,h⟩:=bo h;have⟨t22,v,h⟩:=bo h;obtain rfl:=oi h;exact rfO 0 (o [b0,.ix (-9),b1,.el (Zy t15),.ix (-9),b1,.obj (some 0) (.d (.lst false 1 t16)) (Qb a5 a6 a7 k m a b c e f g i) ZV,.ret (I t17),b1,.ix (-9),b1,.el (QB t19),.ret (I t20),.el (QB t19),.ret (I t21),.ret (I t22)]) (Qa (leF (Qx v)) (Qa (Qu j) (Qa (QX Qq s) (Qa (Qu p) (Qa (QX Qq s) (Qa u (Qa (QK x) (Qa (QC C) (allE Qr A (Qa (nef z) q))))))))))
   obtain rfl:=oi h;exact rfO 0 (o [b1]) (Qa (net z) q)
  obtain⟨F,h⟩|⟨F,h⟩:=io h
  ·have⟨t12,G,h⟩:=bo h;have⟨t13,y,h⟩:=bo h;have⟨t14,z,h⟩:=bo h;have q:=Qa (leF (Qx z)) (Qa (QI y) (Qa (Qv G) (allE Qi K (Qa (mk1 ⟨#[114,101,112,97,105,114]⟩ Qsn F) q))));let o l:=o (.el Qsn::.el (Q3 t4)::.obj (some 0) (.d (I t12)) (Qb a5 a6 a7 k m a b c e f g i) ZV::.obj (some 0) (.d (I t13)) (Qb a5 a6 a7 k m a b c e f g i) ZV::.ret (I t14)::l);obtain⟨A,h⟩|⟨A,h⟩:=io h
   ·have⟨t16,C,h⟩:=bo h;have⟨t17,x,h⟩:=bo h;have⟨t18,u,h⟩:=bo h;have⟨s,h⟩:=gd h;have⟨t20,p,h⟩:=bo h;have⟨t21,j,h⟩:=bo h;obtain rfl:=oi h;exact rfO 0 (o [b0,.ix (-9),b1,.el (Zy t16),.ix (-9),b1,.obj (some 0) (.d (.lst false 1 t17)) (Qb a5 a6 a7 k m a b c e f g i) ZV,.ret (I t18),b1,.ix (-9),b1,.el (QB t20),.ret (I t21)]) (Qa (Qu j) (Qa (QX Qq p) (Qa s (Qa (QK u) (Qa (QC x) (allE Qr C (Qa (nef A) q)))))))
   obtain rfl:=oi h;exact rfO 0 (o [b1]) (Qa (net A) q)
  obtain⟨G,h⟩|⟨G,h⟩:=io h
  ·have⟨t13,y,h⟩:=bo h;have⟨t14,z,h⟩:=bo h;have⟨t15,A,h⟩:=bo h;have q:=Qa (leF (Qx A)) (Qa (QI z) (Qa (Qv y) (allE Qi K (Qa (mk1 ⟨#[97,105,109]⟩ Qsm G) q))));let o l:=o (.el Qsm::.el (Q3 t4)::.obj (some 0) (.d (I t13)) (Qb a5 a6 a7 k m a b c e f g i) ZV::.obj (some 0) (.d (I t14)) (Qb a5 a6 a7 k m a b c e f g i) ZV::.ret (I t15)::l);obtain⟨C,h⟩|⟨C,h⟩:=io h
   ·have⟨t17,x,h⟩:=bo h;have⟨t18,u,h⟩:=bo h;have⟨t19,s,h⟩:=bo h;have⟨p,h⟩:=gd h;have⟨t21,j,h⟩:=bo h;have⟨t22,v,h⟩:=bo h;have⟨t23,t,h⟩:=bo h;have⟨t24,E,h⟩:=bo h;have⟨t25,H,h⟩:=bo h;have⟨t26,L,h⟩:=bo h;obtain rfl:=oi h;exact rfO 0 (o [b0,.ix (-9),b1,.el (Zy t17),.ix (-9),b1,.obj (some 0) (.d (.lst false 1 t18)) (Qb a5 a6 a7 k m a b c e f g i) ZV,.ret (I t19),b1,.ix (-9),b1,.ret (I t21),.ret (I t22),.el (QB t23),.ret (I t24),.el (QB t23),.ret (I t25),.ret (I t26)]) (Qa (leF (Qx L)) (Qa (Qu H) (Qa (QX Qq t) (Qa (Qu E) (Qa (QX Qq t) (Qa (Qu v) (Qa (Qu j) (Qa p (Qa (QK s) (Qa (QC u) (allE Qr x (Qa (nef C) q))))))))))))
   obtain rfl:=oi h;exact rfO 0 (o [b1]) (Qa (net C) q)
  obtain⟨y,h⟩|⟨y,h⟩:=io h
  ·have⟨t14,z,h⟩:=bo h;have⟨t15,A,h⟩:=bo h;have⟨t16,C,h⟩:=bo h;have q:=Qa (leF (Qx C)) (Qa (QI A) (Qa (Qv z) (allE Qi K (Qa (mk1 ⟨#[112,97,114,107]⟩ Qsl y) q))));let o l:=o (.el Qsl::.el (Q3 t4)::.obj (some 0) (.d (I t14)) (Qb a5 a6 a7 k m a b c e f g i) ZV::.obj (some 0) (.d (I t15)) (Qb a5 a6 a7 k m a b c e f g i) ZV::.ret (I t16)::l);obtain⟨x,h⟩|⟨x,h⟩:=io h
   ·have⟨t18,u,h⟩:=bo h;have⟨t19,s,h⟩:=bo h;have⟨t20,p,h⟩:=bo h;have⟨j,h⟩:=gd h;have⟨t22,v,h⟩:=bo h;have⟨t23,t,h⟩:=bo h;obtain rfl:=oi h;exact rfO 0 (o [b0,.ix (-9),b1,.el (Zy t18),.ix (-9),b1,.obj (some 0) (.d (.lst false 1 t19)) (Qb a5 a6 a7 k m a b c e f g i) ZV,.ret (I t20),b1,.ix (-9),b1,.el (QB t22),.ret (I t23)]) (Qa (Qu t) (Qa (QX Qq v) (Qa j (Qa (QK p) (Qa (QC s) (allE Qr u (Qa (nef x) q)))))))
   obtain rfl:=oi h;exact rfO 0 (o [b1]) (Qa (net x) q)
  obtain⟨z,h⟩|⟨z,h⟩:=io h
  ·have⟨t15,A,h⟩:=bo h;have⟨t16,C,h⟩:=bo h;have⟨t17,x,h⟩:=bo h;have q:=Qa (leF (Qx x)) (Qa (QI C) (Qa (Qv A) (allE Qi K (Qa (mk1 ⟨#[100,105,109]⟩ Qsh z) q))));let o l:=o (.el Qsh::.el (Q3 t4)::.obj (some 0) (.d (I t15)) (Qb a5 a6 a7 k m a b c e f g i) ZV::.obj (some 0) (.d (I t16)) (Qb a5 a6 a7 k m a b c e f g i) ZV::.ret (I t17)::l);obtain⟨u,h⟩|⟨u,h⟩:=io h
   ·obtain rfl:=oi h;exact rfO 0 (o [b0,.ix (-9),b1]) (Qa (nef u) q)
   obtain rfl:=oi h;exact rfO 0 (o [b1]) (Qa (net u) q)
  obtain⟨A,h⟩|⟨A,h⟩:=io h
  ·have⟨t16,C,h⟩:=bo h;have⟨t17,x,h⟩:=bo h;have⟨t18,u,h⟩:=bo h;have q:=Qa (leF (Qx u)) (Qa (QI x) (Qa (Qv C) (allE Qi K (Qa (mk1 ⟨#[115,117,110]⟩ Qr8 A) q))));let o l:=o (.el Qr8::.el (Q3 t4)::.obj (some 0) (.d (I t16)) (Qb a5 a6 a7 k m a b c e f g i) ZV::.obj (some 0) (.d (I t17)) (Qb a5 a6 a7 k m a b c e f g i) ZV::.ret (I t18)::l);obtain⟨s,h⟩|⟨s,h⟩:=io h
   ·have⟨t20,p,h⟩:=bo h;have⟨t21,j,h⟩:=bo h;obtain rfl:=oi h;exact rfO 0 (o [b0,.ix (-9),b1,.el (Q3 t20),.ret (I t21)]) (Qa (WK j) (allE Qi p (Qa (nef s) q)))
   obtain rfl:=oi h;exact rfO 0 (o [b1]) (Qa (net s) q)
  obtain⟨C,h⟩|⟨C,h⟩:=io h
  ·have⟨t17,x,h⟩:=bo h;have⟨t18,u,h⟩:=bo h;have⟨t19,s,h⟩:=bo h;have q:=Qa (leF (Qx s)) (Qa (QI u) (Qa (Qv x) (allE Qi K (Qa (mk1 ⟨#[102,105,108,108]⟩ Qsc C) q))));let o l:=o (.el Qsc::.el (Q3 t4)::.obj (some 0) (.d (I t17)) (Qb a5 a6 a7 k m a b c e f g i) ZV::.obj (some 0) (.d (I t18)) (Qb a5 a6 a7 k m a b c e f g i) ZV::.ret (I t19)::l);obtain⟨p,h⟩|⟨p,h⟩:=io h
   ·have⟨t21,j,h⟩:=bo h;obtain rfl:=oi h;exact rfO 0 (o [b0,.ix (-9),b1,.ret (I t21)]) (Qa (Qu j) (Qa (nef p) q))
   obtain rfl:=oi h;exact rfO 0 (o [b1]) (Qa (net p) q)
  obtain⟨x,h⟩|⟨x,h⟩:=io h
  ·have⟨t18,u,h⟩:=bo h;have⟨t19,s,h⟩:=bo h;have⟨t20,p,h⟩:=bo h;have q:=Qa (leF (Qx p)) (Qa (QI s) (Qa (Qv u) (allE Qi K (Qa (mk1 ⟨#[100,114,97,105,110]⟩ Qsb x) q))));let o l:=o (.el Qsb::.el (Q3 t4)::.obj (some 0) (.d (I t18)) (Qb a5 a6 a7 k m a b c e f g i) ZV::.obj (some 0) (.d (I t19)) (Qb a5 a6 a7 k m a b c e f g i) ZV::.ret (I t20)::l);obtain⟨j,h⟩|⟨j,h⟩:=io h
   ·have⟨t22,v,h⟩:=bo h;have⟨t23,t,h⟩:=bo h;have⟨t24,E,h⟩:=bo h;have⟨t25,H,h⟩:=bo h;obtain rfl:=oi h;exact rfO 0 (o [b0,.ix (-9),b1,.ret (I t22),.obj (some 0) (.d (B t23)) (Qb a5 a6 a7 k m a b c e f g i) ZV,.ret (I t24),.ret (I t25)]) (Qa (leF (Qx H)) (Qa (Qu E) (Qa (Xv t) (Qa (Qu v) (Qa (nef j) q)))))
   obtain rfl:=oi h;exact rfO 0 (o [b1]) (Qa (net j) q)
  obtain⟨u,h⟩|⟨u,h⟩:=io h
  ·have⟨t19,s,h⟩:=bo h;have⟨t20,p,h⟩:=bo h;have⟨t21,j,h⟩:=bo h;have q:=Qa (leF (Qx j)) (Qa (QI p) (Qa (Qv s) (allE Qi K (Qa (mk1 ⟨#[116,114,105,112]⟩ Qsa u) q))));let o l:=o (.el Qsa::.el (Q3 t4)::.obj (some 0) (.d (I t19)) (Qb a5 a6 a7 k m a b c e f g i) ZV::.obj (some 0) (.d (I t20)) (Qb a5 a6 a7 k m a b c e f g i) ZV::.ret (I t21)::l);obtain⟨v,h⟩|⟨v,h⟩:=io h
   ·have⟨t23,t,h⟩:=bo h;obtain rfl:=oi h;exact rfO 0 (o [b0,.ix (-9),b1,.ret (I t23)]) (Qa (Qu t) (Qa (nef v) q))
   obtain rfl:=oi h;exact rfO 0 (o [b1]) (Qa (net v) q)
  obtain⟨s,h⟩|⟨s,h⟩:=io h
  ·have⟨t20,p,h⟩:=bo h;have⟨t21,j,h⟩:=bo h;have⟨t22,v,h⟩:=bo h;have q:=Qa (leF (Qx v)) (Qa (QI j) (Qa (Qv p) (allE Qi K (Qa (mk1 ⟨#[114,101,115,101,116]⟩ Qr9 s) q))));let o l:=o (.el Qr9::.el (Q3 t4)::.obj (some 0) (.d (I t20)) (Qb a5 a6 a7 k m a b c e f g i) ZV::.obj (some 0) (.d (I t21)) (Qb a5 a6 a7 k m a b c e f g i) ZV::.ret (I t22)::l);obtain⟨t,h⟩|⟨t,h⟩:=io h
   ·have⟨t24,E,h⟩:=bo h;obtain rfl:=oi h;exact rfO 0 (o [b0,.ix (-9),b1,.ret (I t24)]) (Qa (Qu E) (Qa (nef t) q))
   obtain rfl:=oi h;exact rfO 0 (o [b1]) (Qa (net t) q)
  obtain⟨p,h⟩|⟨p,h⟩:=io h
  ·have⟨t21,j,h⟩:=bo h;have⟨t22,v,h⟩:=bo h;have⟨t23,t,h⟩:=bo h;have q:=Qa (leF (Qx t)) (Qa (QI v) (Qa (Qv j) (allE Qi K (Qa (mk1 ⟨#[111,102,102,101,114]⟩ Qsf p) q))));let o l:=o (.el Qsf::.el (Q3 t4)::.obj (some 0) (.d (I t21)) (Qb a5 a6 a7 k m a b c e f g i) ZV::.obj (some 0) (.d (I t22)) (Qb a5 a6 a7 k m a b c e f g i) ZV::.ret (I t23)::l);obtain⟨E,h⟩|⟨E,h⟩:=io h
   ·have⟨t25,H,h⟩:=bo h;have⟨t26,L,h⟩:=bo h;have⟨t27,M,h⟩:=bo h;have⟨t28,h28,h⟩:=bo h;have⟨t29,h29,h⟩:=bo h;have⟨t30,h30,h⟩:=bo h;have⟨t31,h31,h⟩:=bo h;obtain rfl:=oi h;exact rfO 0 (o [b0,.ix (-9),b1,.ret (.tup [.agg [I t25.1,I t25.2.1],I t25.2.2]),.el (Q3 t26),.ret (I t27),.el (Q3 t28),.ret (I t29),.ret (I t30),.ret (I t31)]) (Qa (leF (Qx h31)) (Qa (Qu h30) (Qa (WK h29) (allE Qi h28 (Qa (WK M) (allE Qi L (Qa (GT H) (Qa (nef E) q))))))))
   obtain rfl:=oi h;exact rfO 0 (o [b1]) (Qa (net E) q)
  obtain⟨j,h⟩|⟨j,h⟩:=io h
  ·have⟨t22,v,h⟩:=bo h;have⟨t23,t,h⟩:=bo h;have⟨t24,E,h⟩:=bo h;have q:=Qa (leF (Qx E)) (Qa (QI t) (Qa (Qv v) (allE Qi K (Qa (mk1 ⟨#[100,101,108,105,118,101,114]⟩ Qsi j) q))));let o l:=o (.el Qsi::.el (Q3 t4)::.obj (some 0) (.d (I t22)) (Qb a5 a6 a7 k m a b c e f g i) ZV::.obj (some 0) (.d (I t23)) (Qb a5 a6 a7 k m a b c e f g i) ZV::.ret (I t24)::l);obtain⟨H,h⟩|⟨H,h⟩:=io h
   ·have⟨t26,L,h⟩:=bo h;have⟨t27,M,h⟩:=bo h;have⟨t28,h28,h⟩:=bo h;have⟨h29,h⟩:=gd h;have⟨t30,h30,h⟩:=bo h;have⟨t31,h31,h⟩:=bo h;have⟨t32,h32,h⟩:=bo h;have q:=Qa (QX Q0 h31) (Qa (Qu h32) (Qa (QX Q0 h31) (allE Qi h30 (allE Qi K (Qa h29 (Qa (QK h28) (Qa (QC M) (allE Qr L (Qa (nef H) q)))))))));let o l:=o (b0::.ix (-9)::b1::.el (Zy t26)::.ix (-9)::b1::.obj (some 0) (.d (.lst false 1 t27)) (Qb a5 a6 a7 k m a b c e f g i) ZV::.ret (I t28)::b1::.el (Q3 t4)::.el (Q3 t30)::.el (Q7 t31)::.ret (I t32)::.el (Q7 t31)::l);obtain⟨P,h⟩|⟨P,h⟩:=io h
    ·have⟨t34,h34,h⟩:=bo h;have⟨t35,h35,h⟩:=bo h;have⟨t36,h36,h⟩:=bo h;have⟨t37,h37,h⟩:=bo h;have⟨t38,h38,h⟩:=bo h;have q:=Qa (leF (Qx h38)) (Qa (Qu h37) (Qa (W8 h36) (Qa (QX Q0 h31) (Qa (Qu h35) (Qa (Xt h34) (Qa (jDj P) q))))));let o l:=o (b1::.ret (I t34)::.ret (I t35)::.el (Q7 t31)::.ret (I t36)::.ret (I t37)::.ret (I t38)::l);obtain⟨N,h⟩|⟨N,h⟩:=io h
     ·have⟨h40,h⟩:=gd h;have⟨t41,h41,h⟩:=bo h;have⟨t42,h42,h⟩:=bo h;obtain rfl:=oi h;exact rfO 0 (o [b0,.obj (some 0) (.d (.agg [I t41.1,I t41.2])) (Qb a5 a6 a7 k m a b c e f g i) ZV,.ret (I t42)]) (Qa (Qu h42) (Qa (WA h41) (Qa h40 (Qa (nef N) q))))
     obtain rfl:=oi h;exact rfO 0 (o [b1]) (Qa (net N) q)
    have⟨t34,h34,h⟩:=bo h;have⟨t35,h35,h⟩:=bo h;have⟨t36,h36,h⟩:=bo h;have⟨t37,h37,h⟩:=bo h;have⟨t38,h38,h⟩:=bo h;have q:=Qa (leF (Qx h38)) (Qa (Qu h37) (Qa (W8 h36) (Qa (QX Q0 h31) (Qa (Qu h35) (Qa (Qu h34) (Qa (QX Q0 h31) (Qa (jEj P) q)))))));let o l:=o (b0::.el (Q7 t31)::.ret (I t34)::.ret (I t35)::.el (Q7 t31)::.ret (I t36)::.ret (I t37)::.ret (I t38)::l);obtain⟨N,h⟩|⟨N,h⟩:=io h
    ·have⟨h40,h⟩:=gd h;have⟨t41,h41,h⟩:=bo h;have⟨t42,h42,h⟩:=bo h;obtain rfl:=oi h;exact rfO 0 (o [b0,.obj (some 0) (.d (.agg [I t41.1,I t41.2])) (Qb a5 a6 a7 k m a b c e f g i) ZV,.ret (I t42)]) (Qa (Qu h42) (Qa (WA h41) (Qa h40 (Qa (nef N) q))))
    obtain rfl:=oi h;exact rfO 0 (o [b1]) (Qa (net N) q)
   obtain rfl:=oi h;exact rfO 0 (o [b1]) (Qa (net H) q)
  obtain⟨v,h⟩|⟨v,h⟩:=io h
  ·have⟨t23,t,h⟩:=bo h;have⟨t24,E,h⟩:=bo h;have⟨t25,H,h⟩:=bo h;have q:=Qa (leF (Qx H)) (Qa (QI E) (Qa (Qv t) (allE Qi K (Qa (mk1 ⟨#[98,105,108,108]⟩ Qsj v) q))));let o l:=o (.el Qsj::.el (Q3 t4)::.obj (some 0) (.d (I t23)) (Qb a5 a6 a7 k m a b c e f g i) ZV::.obj (some 0) (.d (I t24)) (Qb a5 a6 a7 k m a b c e f g i) ZV::.ret (I t25)::l);obtain⟨L,h⟩|⟨L,h⟩:=io h
   ·have⟨t27,M,h⟩:=bo h;have⟨t28,h28,h⟩:=bo h;have⟨t29,h29,h⟩:=bo h;have⟨h30,h⟩:=gd h;have⟨t31,h31,h⟩:=bo h;have⟨t32,h32,h⟩:=bo h;have⟨t33,P,h⟩:=bo h;have⟨t34,h34,h⟩:=bo h;obtain rfl:=oi h;exact rfO 0 (o [b0,.ix (-9),b1,.el (Zy t27),b1,.obj (some 0) (.d (.lst false 1 t28)) (Qb a5 a6 a7 k m a b c e f g i) ZV,.ret (I t29),b1,.el (Q7 t31),.ret (I t32),.el (Q3 t4),.el (Q7 t31),.ret (I t33),.ret (I t34)]) (Qa (leF (Qx h34)) (Qa (Qu P) (Qa (QX Q0 h31) (allE Qi K (Qa (Qu h32) (Qa (QX Q0 h31) (Qa h30 (Qa (QK h29) (Qa (QC h28) (allE Qr M (Qa (nef L) q)))))))))))
   obtain rfl:=oi h;exact rfO 0 (o [b1]) (Qa (net L) q)
  let o l:=o (.el Qsd::.el (Q3 t4)::l);obtain⟨t,h⟩|⟨t,h⟩:=io h
  ·have⟨t24,E,h⟩:=bo h;have⟨t25,H,h⟩:=bo h;have⟨t26,L,h⟩:=bo h;have q:=Qa (leF (Qx L)) (Qa (QI H) (Qa (Qv E) (allE Qi K (Qa (mk1 ⟨#[117,110,100,111]⟩ Qsd t) q))));let o l:=o (.obj (some 0) (.d (I t24)) (Qb a5 a6 a7 k m a b c e f g i) ZV::.obj (some 0) (.d (I t25)) (Qb a5 a6 a7 k m a b c e f g i) ZV::.ret (I t26)::l);obtain⟨M,h⟩|⟨M,h⟩:=io h
   ·obtain rfl:=oi h;exact rfO 0 (o [b0,.ix (-9),b1]) (Qa (nef M) q)
   obtain rfl:=oi h;exact rfO 0 (o [b1]) (Qa (net M) q)
  cases h
 obtain rfl:=oi h;exact rfO 0 [b1] (Qa (net V) q)
def ZF (n:Nat)(c a1:Int)(a2 a3:Bool)(a4 a5 a6:Int)(a7 b d:jVj)(sa:(Int×Int)):Option (Int×Int⊕Int) := if sa.1<((b).length:Int) then if 0<=sa.1/\sa.1<((b).length:Int) then((nth (b) (Int.toNat sa.1)).bind QM).bind fun a=>if a.2.2.2.2.2=true then if Qh (1000 - a.2.2.2.1) then if Qh (a.2.2.1*(1000 - a.2.2.2.1)) then if Qh ((a.2.2.1*(1000 - a.2.2.2.1))*a1) then if Qh (sa.2+((a.2.2.1*(1000 - a.2.2.2.1))*a1)) then if Qh (sa.1+1) then some (.inl ((sa.1+1),(sa.2+((a.2.2.1*(1000 - a.2.2.2.1))*a1)))) else none else none else none else none else none else if Qh (sa.1+1) then some (.inl ((sa.1+1),sa.2)) else none else none else some (.inr sa.2)
noncomputable def Jf (b a1:Int)(a2 a3:Bool)(a4 a5 a6:Int)(a7 a c:jVj):Lp (Int×Int) (Int):=⟨fun sa=>[(0,.own 21 0),(8,.own 9 0),(9,.d (I ((a).length:Int))),(10,.d (I sa.1))],fun sa=>[(0,.box (.agg [.d (I b),.d (I a1),.d (B a2),.d (B a3),.d (I a4),.d (I a5),.d (I a6),.own 8 0,.own 9 0,.own 10 0])),(8,.row 0 1 a7),(9,.row 0 6 a),(10,.row 0 7 c),(11,.box (.ptr 0 0 0 0 0)),(13,.box (.d (I sa.2))),(17,.box (.ptr 0 0 0 0 0)),(21,.loop true [(6,.fn (.func 87) [] [.ptr 17 0 0 0 0]),(5,.ptr 0 0 0 0 0),(3,.ptr 13 0 0 0 0),(2,.d (I 0)),(1,.ptr 11 0 0 0 0),(0,.ptr 0 0 0 0 0)] [7] (ZY cx.P 30 0).1 (ZY cx.P 30 0).2 22)],fun _=>(.exit 0),fun _=>[],fun e=>[(0,.box (.agg [.d (I b),.d (I a1),.d (B a2),.d (B a3),.d (I a4),.d (I a5),.d (I a6),.own 8 0,.own 9 0,.own 10 0])),(8,.row 0 1 a7),(9,.row 0 6 a),(10,.row 0 7 c),(11,.box (.ptr 0 0 0 0 0)),(13,.box (.d (I e))),(17,.box (.ptr 0 0 0 0 0)),(21,.loop true [(6,.fn (.func 87) [] [.ptr 17 0 0 0 0]),(5,.ptr 0 0 0 0 0),(3,.ptr 13 0 0 0 0),(2,.d (I 0)),(1,.ptr 11 0 0 0 0),(0,.ptr 0 0 0 0 0)] [7] (ZY cx.P 30 0).1 (ZY cx.P 30 0).2 22)]⟩
theorem Jb {n c a1 a2 a3 a4 a5 a6 a7 d e}(sa)(r)(h:ZF n c a1 a2 a3 a4 a5 a6 a7 d e sa=some r):Rl (ZJ cx.P 87 0) 23 22 false (Jf c a1 a2 a3 a4 a5 a6 a7 d e) sa r:=by
 unfold ZF at h;obtain⟨a,h⟩|⟨a,h⟩:=io h
 ·have⟨ha2,h⟩:=gd h;have⟨ta3,ha3,h⟩:=bo h;have q:=Qa (QX Qq ha3) (Qa ha2 (Qa (jDj a) QL));let o(l:jOj):=b1::b1::.el (QB ta3)::l;obtain⟨b,h⟩|⟨b,h⟩:=io h
  ·have⟨ha5,h⟩:=gd h;have⟨ha6,h⟩:=gd h;have⟨ha7,h⟩:=gd h;have⟨ha8,h⟩:=gd h;have⟨ha9,h⟩:=gd h;cases h;exact rn 28 (o [b1,.no]) [] [0,8,9,10] [0,8,9,10,11,13,17,21] (Qa ha9 (Qa ha8 (Qa ha7 (Qa ha6 (Qa ha5 (Qa b q))))))
  have⟨ha5,h⟩:=gd h;cases h;exact rn 28 (o [b0,.no]) [] [0,8,9,10] [0,8,9,10,11,13,17,21] (Qa ha5 (Qa (QA b) q))
 cases h;exact rx 28 [b0] [] [] [0,8,9,10,11,13,17,21] (Qa (jEj a) QL)
def WD (n:Nat)(a a1:Int)(a2 a3:Bool)(a4 a5 a6:Int)(a7 b c:jVj):Option (Int) := (Q2 (ZF n a a1 a2 a3 a4 a5 a6 a7 b c) n (0,0)).bind fun d=>some d
theorem Gk {n a a1 a2 a3 a4 a5 a6 a7 b c r}(h:WD n a a1 a2 a3 a4 a5 a6 a7 b c=some r):ComputesO cx 30 [.ptr 0 0 0 0 0] (some (QJ a a1 a2 a3 a4 a5 a6 a7 b c)) (.d (I r)) (QJ a a1 a2 a3 a4 a5 a6 a7 b c) qC:=by unfold WD at h;have⟨t1,h1,h⟩:=bo h;obtain rfl:=oi h;exact rfO 0 [b1,.lp [] [0,8,9,10] [0,8,9,10,11,13,17,21] (.exit 0) [] [(0,.box (.agg [.d (I a),.d (I a1),.d (B a2),.d (B a3),.d (I a4),.d (I a5),.d (I a6),.own 8 0,.own 9 0,.own 10 0])),(8,.row 0 1 a7),(9,.row 0 6 b),(10,.row 0 7 c),(11,.box (.ptr 0 0 0 0 0)),(13,.box (.d (I t1))),(17,.box (.ptr 0 0 0 0 0)),(21,.loop true [(6,.fn (.func 87) [] [.ptr 17 0 0 0 0]),(5,.ptr 0 0 0 0 0),(3,.ptr 13 0 0 0 0),(2,.d (I 0)),(1,.ptr 11 0 0 0 0),(0,.ptr 0 0 0 0 0)] [7] (ZY cx.P 30 0).1 (ZY cx.P 30 0).2 22)] 70] (Qa (QH Jb h1) QL)
def Wh (n:Nat)(a a1 a2:Int)(a3 a4:Bool)(a5 a6 a7:Int)(d e c:jVj):Option (Int×Int) := (WD n a1 a2 a3 a4 a5 a6 a7 d e c).bind fun b=>if Qh (a - a1) then if Qh (b*(a - a1)) then if Qh (a5+(b*(a - a1))) then if Qh (a6+(b*(a - a1))) then some ((a5+(b*(a - a1))),(a6+(b*(a - a1)))) else none else none else none else none
theorem Jm {n e a1 a2 a3 a4 a5 a6 a7 b c a r}(h:Wh n e a1 a2 a3 a4 a5 a6 a7 b c a=some r):ComputesO cx 22 [.ptr 0 0 0 0 0,.d (I e)] (some (QJ a1 a2 a3 a4 a5 a6 a7 b c a)) (.d (.agg [I r.1,I r.2])) (QJ a1 a2 a3 a4 a5 a6 a7 b c a) qC:=by unfold Wh at h;have⟨t1,h1,h⟩:=bo h;have⟨h2,h⟩:=gd h;have⟨h3,h⟩:=gd h;have⟨h4,h⟩:=gd h;have⟨h5,h⟩:=gd h;cases h;exact rfO 0 [.obj (some 0) (.d (I t1)) (QJ a1 a2 a3 a4 a5 a6 a7 b c a) qC] (Qa h5 (Qa h4 (Qa h3 (Qa h2 (Qa (Gk h1) QL)))))
def ZA (n:Nat)(a1 a2:Int)(a3 a4:Bool)(a5 a6 a7:Int)(e b d:jVj)(sa:(Int×jVj)):Option (Int×jVj⊕jVj) := if sa.1<((b).length:Int) then if 0<=sa.1/\sa.1<((b).length:Int) then((nth (b) (Int.toNat sa.1)).bind QM).bind fun a=>(ZN n a.1 a.2.1 a.2.2.1 a.2.2.2.1 a.2.2.2.2.1 a.2.2.2.2.2).bind fun c=>if Wa 16 ((sa.2).length+1) then if Qh (sa.1+1) then some (.inl ((sa.1+1),(sa.2++([.v (.string c)]:jVj)))) else none else none else none else some (.inr sa.2)
noncomputable def Kv (a1 a2:Int)(a3 a4:Bool)(a5 a6 a7:Int)(c b a:jVj):Lp (Int×jVj) (jVj):=⟨fun sa=>[(1,.d (.fn (.func 94) [] [])),(5,.own 28 0),(8,.own 9 0),(9,.d (I ((b).length:Int))),(10,.d (I sa.1))],fun sa=>[(0,.box (.agg [.d (I a1),.d (I a2),.d (B a3),.d (B a4),.d (I a5),.d (I a6),.d (I a7),.own 8 0,.own 9 0,.own 10 0])),(8,.row 0 1 c),(9,.row 0 6 b),(10,.row 0 7 a),(28,.row 0 1 sa.2)],fun _=>(.exit 0),fun _=>[(5,.own 28 0)],fun e=>[(0,.box (.agg [.d (I a1),.d (I a2),.d (B a3),.d (B a4),.d (I a5),.d (I a6),.d (I a7),.own 8 0,.own 9 0,.own 10 0])),(8,.row 0 1 c),(9,.row 0 6 b),(10,.row 0 7 a),(28,.row 0 1 e)]⟩
theorem Kt {n a1 a2 a3 a4 a5 a6 a7 c d b}(sa)(r)(h:ZA n a1 a2 a3 a4 a5 a6 a7 c d b sa=some r):Rl (ZJ cx.P 93 0) 22 23 false (Kv a1 a2 a3 a4 a5 a6 a7 c d b) sa r:=by
 unfold ZA at h;obtain⟨a,h⟩|⟨a,h⟩:=io h
 ·have⟨ha2,h⟩:=gd h;have⟨ta3,ha3,h⟩:=bo h;have⟨ta4,ha4,h⟩:=bo h;have⟨ha5,h⟩:=gd h;have⟨ha6,h⟩:=gd h;cases h;exact rn 29 [b1,b1,.el (QB ta3),.ret (Qr5 ta4),b1] [] [1,5,8,9,10] [0,8,9,10,28] (Qa ha6 (Qa (ro 9 ha5) (Qa (Yw ha4) (Qa (QX Qq ha3) (Qa ha2 (Qa (jDj a) QL))))))
 cases h;exact rx 29 [b0] [] [5] [0,8,9,10,28] (Qa (jEj a) QL)
def Zz (n:Nat)(a1 a2:Int)(a3 a4:Bool)(a5 a6 a7:Int)(d e b:jVj)(sa:(Int×jVj)):Option (Int×jVj⊕jVj) := if sa.1<((b).length:Int) then if 0<=sa.1/\sa.1<((b).length:Int) then((nth (b) (Int.toNat sa.1)).bind Z6).bind fun a=>(ZM n a.1 a.2.1 a.2.2.1 a.2.2.2.1 a.2.2.2.2.1 a.2.2.2.2.2.1 a.2.2.2.2.2.2).bind fun c=>if Wa 16 ((sa.2).length+1) then if Qh (sa.1+1) then some (.inl ((sa.1+1),(sa.2++([.v (.string c)]:jVj)))) else none else none else none else some (.inr sa.2)
noncomputable def Ku (a1 a2:Int)(a3 a4:Bool)(a5 a6 a7:Int)(b c a:jVj):Lp (Int×jVj) (jVj):=⟨fun sa=>[(1,.d (.fn (.func 96) [] [])),(5,.own 28 0),(8,.own 10 0),(9,.d (I ((a).length:Int))),(10,.d (I sa.1))],fun sa=>[(0,.box (.agg [.d (I a1),.d (I a2),.d (B a3),.d (B a4),.d (I a5),.d (I a6),.d (I a7),.own 8 0,.own 9 0,.own 10 0])),(8,.row 0 1 b),(9,.row 0 6 c),(10,.row 0 7 a),(28,.row 0 1 sa.2)],fun _=>(.exit 0),fun _=>[(5,.own 28 0)],fun e=>[(0,.box (.agg [.d (I a1),.d (I a2),.d (B a3),.d (B a4),.d (I a5),.d (I a6),.d (I a7),.own 8 0,.own 9 0,.own 10 0])),(8,.row 0 1 b),(9,.row 0 6 c),(10,.row 0 7 a),(28,.row 0 1 e)]⟩
theorem Ks {n a1 a2 a3 a4 a5 a6 a7 c d b}(sa)(r)(h:Zz n a1 a2 a3 a4 a5 a6 a7 c d b sa=some r):Rl (ZJ cx.P 95 0) 22 23 false (Ku a1 a2 a3 a4 a5 a6 a7 c d b) sa r:=by
 unfold Zz at h;obtain⟨a,h⟩|⟨a,h⟩:=io h
 ·have⟨ha2,h⟩:=gd h;have⟨ta3,ha3,h⟩:=bo h;have⟨ta4,ha4,h⟩:=bo h;have⟨ha5,h⟩:=gd h;have⟨ha6,h⟩:=gd h;cases h;exact rn 29 [b1,b1,.el (Q7 ta3),.ret (Qr5 ta4),b1] [] [1,5,8,9,10] [0,8,9,10,28] (Qa ha6 (Qa (ro 9 ha5) (Qa (Yv ha4) (Qa (QX Q0 ha3) (Qa ha2 (Qa (jDj a) QL))))))
 cases h;exact rx 29 [b0] [] [5] [0,8,9,10,28] (Qa (jEj a) QL)
def QQ (n:Nat)(c a1 a2:Int)(a3 a4:Bool)(a5 a6 a7:Int)(d e a:jVj):Option (jVj) := if c=115 then none else if c=109 then(Q2 (ZA n a1 a2 a3 a4 a5 a6 a7 d e a) n (0,[])).bind fun b=>some b else(Q2 (Zz n a1 a2 a3 a4 a5 a6 a7 d e a) n (0,[])).bind fun b=>some b
theorem Zn {n f a1 a2 a3 a4 a5 a6 a7 b c a r}(h:QQ n f a1 a2 a3 a4 a5 a6 a7 b c a=some r):ComputesO cx 86 [.ptr 0 0 0 0 0,.d (.v (.int .u8 f))] (some (QJ a1 a2 a3 a4 a5 a6 a7 b c a)) (.d (.lst false 1 r)) (QJ a1 a2 a3 a4 a5 a6 a7 b c a) qC:=by
 unfold QQ at h;obtain⟨g,h⟩|⟨g,h⟩:=io h
 ·cases h
 have q:=Qa (eqf g) QL;obtain⟨e,h⟩|⟨e,h⟩:=io h
 ·have⟨t3,h3,h⟩:=bo h;obtain rfl:=oi h;exact rfO 0 [b0,b1,b1,.lp [5,1] [1,5,8,9,10] [0,8,9,10,28] (.exit 0) [(5,.own 28 0)] [(0,.box (.agg [.d (I a1),.d (I a2),.d (B a3),.d (B a4),.d (I a5),.d (I a6),.d (I a7),.own 8 0,.own 9 0,.own 10 0])),(8,.row 0 1 b),(9,.row 0 6 c),(10,.row 0 7 a),(28,.row 0 1 t3)] 54] (Qa (QH Kt h3) (Qa (eqt e) q))
 have⟨t3,h3,h⟩:=bo h;obtain rfl:=oi h;exact rfO 0 [b0,b0,b1,.lp [5,1] [1,5,8,9,10] [0,8,9,10,28] (.exit 0) [(5,.own 28 0)] [(0,.box (.agg [.d (I a1),.d (I a2),.d (B a3),.d (B a4),.d (I a5),.d (I a6),.d (I a7),.own 8 0,.own 9 0,.own 10 0])),(8,.row 0 1 b),(9,.row 0 6 c),(10,.row 0 7 a),(28,.row 0 1 t3)] 54] (Qa (QH Ks h3) (Qa (eqf e) q))
def WC (n:Nat)(d a1:jSj)(a2 a3:Int)(a4 a5:Bool)(a6:Int)(a7:jSj)(b e:jVj)(a:jSj):Option (Bool) := (el Ww b 0).bind fun c=>some (a1.toList==c.toList)
theorem U4 {n b a1 a2 a3 a4 a5 a6 a7 c d a r}(h:WC n b a1 a2 a3 a4 a5 a6 a7 c d a=some r):Computes cx 62 [.agg [Qr5 b,Qr5 a1,I a2,I a3,B a4,B a5],.ref (.agg [I a6,Qr5 a7,.lst false 1 c,.lst false 1 d,Qr5 a]) 0] (B r):=by unfold WC at h;have⟨t1,h1,h⟩:=bo h;cases h;exact rf [.el (Zy t1)] (allE Qr h1 QL)
def Z1 (n:Nat)(d:Int)(a1:jSj)(a2 a3:jVj)(a4:jSj)(a5 a6:Int)(a7 i:Bool)(j e f:Int)(g b h:jVj)(sa:(Int×jVj)):Option (Int×jVj⊕jVj) := if sa.1<((b).length:Int) then if 0<=sa.1/\sa.1<((sa.2).length:Int) then((nth (sa.2) (Int.toNat sa.1)).bind QM).bind fun a=>(WC n a.1 a.2.1 a.2.2.1 a.2.2.2.1 a.2.2.2.2.1 a.2.2.2.2.2 d a1 a2 a3 a4).bind fun c=>if c=true then if Qh (sa.1+1) then some (.inl ((sa.1+1),(List.set sa.2 (Int.toNat sa.1) (.agg [.v (.string a.1),.v (.string a.2.1),I a.2.2.1,I a.2.2.2.1,B a.2.2.2.2.1,B false]:D)))) else none else if Qh (sa.1+1) then some (.inl ((sa.1+1),sa.2)) else none else none else some (.inr sa.2)
noncomputable def J6 (j:Int)(a1:jSj)(a2 a3:jVj)(a4:jSj)(a5 a6:Int)(a7 h:Bool)(i a b:Int)(c g f:jVj):Lp (Int×jVj) (jVj):=⟨fun sa=>[(0,.ptr 0 0 0 0 0),(1,.d (.fn (.func 62) [] [.ref (.agg [I j,Qr5 a1,.lst false 1 a2,.lst false 1 a3,Qr5 a4]) 0])),(9,.own 9 0),(10,.d (I ((g).length:Int))),(11,.d (I sa.1))],fun sa=>[(0,.box (.agg [.d (I a5),.d (I a6),.d (B a7),.d (B h),.d (I i),.d (I a),.d (I b),.own 8 0,.own 9 0,.own 10 0])),(8,.row 0 1 c),(9,.row 0 6 sa.2),(10,.row 0 7 f)],fun _=>(.exit 0),fun _=>[],fun e=>[(0,.box (.agg [.d (I a5),.d (I a6),.d (B a7),.d (B h),.d (I i),.d (I a),.d (I b),.own 8 0,.own 9 0,.own 10 0])),(8,.row 0 1 c),(9,.row 0 6 e),(10,.row 0 7 f)]⟩
theorem J4 {n i a1 a2 a3 a4 a5 a6 a7 j k c d e f g}(sa)(r)(h:Z1 n i a1 a2 a3 a4 a5 a6 a7 j k c d e f g sa=some r):Rl (ZJ cx.P 61 0) 27 11 false (J6 i a1 a2 a3 a4 a5 a6 a7 j k c d e f g) sa r:=by
 unfold Z1 at h;obtain⟨a,h⟩|⟨a,h⟩:=io h
 ·have⟨ha2,h⟩:=gd h;have⟨ta3,ha3,h⟩:=bo h;have⟨ta4,ha4,h⟩:=bo h;have q:=Qa (U4 ha4) (Qa (QX Qq ha3) (Qa ha2 (Qa (jDj a) QL)));let o(l:jOj):=b1::b1::.el (QB ta3)::.ret (B ta4)::l;obtain⟨b,h⟩|⟨b,h⟩:=io h
  ·have⟨ha6,h⟩:=gd h;cases h;exact rn 17 (o [b1,b1,.el (QB ta3)]) [] [0,1,9,10,11] [0,8,9,10] (Qa ha6 (Qa (QX Qq ha3) (Qa ha2 (Qa b q))))
  have⟨ha6,h⟩:=gd h;cases h;exact rn 17 (o [b0]) [] [0,1,9,10,11] [0,8,9,10] (Qa ha6 (Qa (QA b) q))
 cases h;exact rx 17 [b0] [] [] [0,8,9,10] (Qa (jEj a) QL)
def WR (n:Nat)(f:Int)(a1:jSj)(a2 a3:jVj)(a4:jSj)(a5 a6:Int)(a7 g:Bool)(h b c:Int)(d a e:jVj):Option (jVj) := (Q2 (Z1 n f a1 a2 a3 a4 a5 a6 a7 g h b c d a e) n (0,a)).bind fun i=>some i
theorem G3 {n j a1 a2 a3 a4 a5 a6 a7 g i a b c f e r}(h:WR n j a1 a2 a3 a4 a5 a6 a7 g i a b c f e=some r):ComputesO cx 61 [.ptr 0 0 0 0 0,.d (.fn (.func 62) [] [.ref (.agg [I j,Qr5 a1,.lst false 1 a2,.lst false 1 a3,Qr5 a4]) 0])] (some (QJ a5 a6 a7 g i a b c f e)) (.d (.tup [])) (QJ a5 a6 a7 g i a b c r e) [false,false,false,false,false,false,false,true,true,true]:=by unfold WR at h;have⟨t1,h1,h⟩:=bo h;obtain rfl:=oi h;exact rfO 0 [.lp [] [0,1,9,10,11] [0,8,9,10] (.exit 0) [] [(0,.box (.agg [.d (I a5),.d (I a6),.d (B a7),.d (B g),.d (I i),.d (I a),.d (I b),.own 8 0,.own 9 0,.own 10 0])),(8,.row 0 1 c),(9,.row 0 6 t1),(10,.row 0 7 e)] 48] (Qa (QH J4 h1) QL)
def WB (n:Nat)(a a1:jSj)(a2 a3:Int)(a4 a5:Bool):Option (Bool) := some true
theorem U3 {n a a1 a2 a3 a4 a5 r}(h:WB n a a1 a2 a3 a4 a5=some r):Computes cx 72 [.agg [Qr5 a,Qr5 a1,I a2,I a3,B a4,B a5]] (B r):=by unfold WB at h;obtain rfl:=oi h;exact rf [] QL
def ZI (n:Nat)(d a1:Int)(a2 a3:Bool)(a4 a5 a6:Int)(a7 c e:jVj)(sa:(Int×jVj)):Option (Int×jVj⊕jVj) := if sa.1<((c).length:Int) then if 0<=sa.1/\sa.1<((sa.2).length:Int) then((nth (sa.2) (Int.toNat sa.1)).bind QM).bind fun a=>(WB n a.1 a.2.1 a.2.2.1 a.2.2.2.1 a.2.2.2.2.1 a.2.2.2.2.2).bind fun b=>if b=true then if Qh (sa.1+1) then some (.inl ((sa.1+1),(List.set sa.2 (Int.toNat sa.1) (.agg [.v (.string a.1),.v (.string a.2.1),I a.2.2.1,I a.2.2.2.1,B a.2.2.2.2.1,B false]:D)))) else none else if Qh (sa.1+1) then some (.inl ((sa.1+1),sa.2)) else none else none else some (.inr sa.2)
noncomputable def Ji (a a1:Int)(a2 a3:Bool)(a4 a5 a6:Int)(a7 c b:jVj):Lp (Int×jVj) (jVj):=⟨fun sa=>[(0,.ptr 0 0 0 0 0),(1,.d (.fn (.func 72) [] [])),(9,.own 9 0),(10,.d (I ((c).length:Int))),(11,.d (I sa.1))],fun sa=>[(0,.box (.agg [.d (I a),.d (I a1),.d (B a2),.d (B a3),.d (I a4),.d (I a5),.d (I a6),.own 8 0,.own 9 0,.own 10 0])),(8,.row 0 1 a7),(9,.row 0 6 sa.2),(10,.row 0 7 b)],fun _=>(.exit 0),fun _=>[],fun e=>[(0,.box (.agg [.d (I a),.d (I a1),.d (B a2),.d (B a3),.d (I a4),.d (I a5),.d (I a6),.own 8 0,.own 9 0,.own 10 0])),(8,.row 0 1 a7),(9,.row 0 6 e),(10,.row 0 7 b)]⟩
theorem Je {n c a1 a2 a3 a4 a5 a6 a7 d e}(sa)(r)(h:ZI n c a1 a2 a3 a4 a5 a6 a7 d e sa=some r):Rl (ZJ cx.P 61 0) 27 11 false (Ji c a1 a2 a3 a4 a5 a6 a7 d e) sa r:=by
 unfold ZI at h;obtain⟨a,h⟩|⟨a,h⟩:=io h
 ·have⟨ha2,h⟩:=gd h;have⟨ta3,ha3,h⟩:=bo h;have⟨ta4,ha4,h⟩:=bo h;have q:=Qa (U3 ha4) (Qa (QX Qq ha3) (Qa ha2 (Qa (jDj a) QL)));let o(l:jOj):=b1::b1::.el (QB ta3)::.ret (B ta4)::l;obtain⟨b,h⟩|⟨b,h⟩:=io h
  ·have⟨ha6,h⟩:=gd h;cases h;exact rn 17 (o [b1,b1,.el (QB ta3)]) [] [0,1,9,10,11] [0,8,9,10] (Qa ha6 (Qa (QX Qq ha3) (Qa ha2 (Qa b q))))
  have⟨ha6,h⟩:=gd h;cases h;exact rn 17 (o [b0]) [] [0,1,9,10,11] [0,8,9,10] (Qa ha6 (Qa (QA b) q))
 cases h;exact rx 17 [b0] [] [] [0,8,9,10] (Qa (jEj a) QL)
def WG (n:Nat)(b a1:Int)(a2 a3:Bool)(a4 a5 a6:Int)(a7 a c:jVj):Option (jVj) := (Q2 (ZI n b a1 a2 a3 a4 a5 a6 a7 a c) n (0,a)).bind fun d=>some d
theorem Gn {n a a1 a2 a3 a4 a5 a6 a7 c b r}(h:WG n a a1 a2 a3 a4 a5 a6 a7 c b=some r):ComputesO cx 61 [.ptr 0 0 0 0 0,.d (.fn (.func 72) [] [])] (some (QJ a a1 a2 a3 a4 a5 a6 a7 c b)) (.d (.tup [])) (QJ a a1 a2 a3 a4 a5 a6 a7 r b) [false,false,false,false,false,false,false,true,true,true]:=by unfold WG at h;have⟨t1,h1,h⟩:=bo h;obtain rfl:=oi h;exact rfO 0 [.lp [] [0,1,9,10,11] [0,8,9,10] (.exit 0) [] [(0,.box (.agg [.d (I a),.d (I a1),.d (B a2),.d (B a3),.d (I a4),.d (I a5),.d (I a6),.own 8 0,.own 9 0,.own 10 0])),(8,.row 0 1 a7),(9,.row 0 6 t1),(10,.row 0 7 b)] 48] (Qa (QH Je h1) QL)
def Wv (n:Nat)(b:jSj)(a1 a2 a3 a4 a5:Int)(a6:Bool):Option (Int) := if Qh (a4*a5) then if Qh (2*a4) then(Zg n b a1 a2 a3 a4 a5 a6).bind fun a=>if Qh ((2*a4)*a) then if Qh ((a4*a5) - ((2*a4)*a)) then some ((a4*a5) - ((2*a4)*a)) else none else none else none else none
theorem YN {n a a1 a2 a3 a4 a5 a6 r}(h:Wv n a a1 a2 a3 a4 a5 a6=some r):Computes cx 83 [.agg [Qr5 a,I a1,I a2,I a3,I a4,I a5,B a6]] (I r):=by unfold Wv at h;have⟨h1,h⟩:=gd h;have⟨h2,h⟩:=gd h;have⟨t3,h3,h⟩:=bo h;have⟨h4,h⟩:=gd h;have⟨h5,h⟩:=gd h;cases h;exact rf [.ret (I t3)] (Qa h5 (Qa h4 (Qa (W8 h3) (Qa h2 (Qa h1 QL)))))
def Qz (n:Nat)(H:Int)(a1:jSj)(a2 a3:jVj)(a4:jSj)(a5 a6:Int)(a7 j:Bool)(J E c:Int)(d a b:jVj):Option (jRj) := (el Vt a3 0).bind fun h=>(Wh n h a5 a6 a7 j J E c d a b).bind fun e=>if a1.data.toList=[115,101,99,116,111,114] then(el Ww a2 0).bind fun K=>if Wa 16 ((d).length+1) then some (h,a6,a7,j,e.1,e.2,c,(d++([.v (.string K)]:jVj)),a,b) else none else if a1.data.toList=[109,105,114,114,111,114] then(el Ww a2 0).bind fun L=>(el Ww a2 1).bind fun G=>(el Vt a3 1).bind fun C=>if Wa 56 ((a).length+1) then some (h,a6,a7,j,e.1,e.2,c,d,(a++([.agg [.v (.string L),.v (.string G),I C,I 0,B false,B false]]:jVj)),b) else none else if a1.data.toList=[115,111,105,108] then(el Ww a2 0).bind fun G=>(QQ n 109 h a6 a7 j e.1 e.2 c d a b).bind fun C=>(QE n C G).bind fun u=>if 0<=u/\u<((a).length:Int) then(el Vt a3 1).bind fun l=>((nth (a) (Int.toNat u)).bind QM).bind fun f=>some (h,a6,a7,j,e.1,e.2,c,d,(List.set a (Int.toNat u) (.agg [.v (.string f.1),.v (.string f.2.1),I f.2.2.1,I l,B f.2.2.2.2.1,B f.2.2.2.2.2]:D)),b) else none else if a1.data.toList=[99,108,101,97,110] then(el Ww a2 0).bind fun C=>(QQ n 109 h a6 a7 j e.1 e.2 c d a b).bind fun u=>(QE n u C).bind fun x=>if 0<=x/\x<((a).length:Int) then((nth (a) (Int.toNat x)).bind QM).bind fun f=>some (h,a6,a7,j,e.1,e.2,c,d,(List.set a (Int.toNat x) (.agg [.v (.string f.1),.v (.string f.2.1),I f.2.2.1,I 0,B f.2.2.2.2.1,B f.2.2.2.2.2]:D)),b) else none else if a1.data.toList=[100,101,102,101,99,116] then(el Ww a2 0).bind fun u=>(QQ n 109 h a6 a7 j e.1 e.2 c d a b).bind fun x=>(QE n x u).bind fun l=>if 0<=l/\l<((a).length:Int) then((nth (a) (Int.toNat l)).bind QM).bind fun i=>some (h,a6,a7,j,e.1,e.2,c,d,(List.set a (Int.toNat l) (.agg [.v (.string i.1),.v (.string i.2.1),I i.2.2.1,I i.2.2.2.1,B true,B i.2.2.2.2.2]:D)),b) else none else if a1.data.toList=[114,101,112,97,105,114] then(el Ww a2 0).bind fun x=>(QQ n 109 h a6 a7 j e.1 e.2 c d a b).bind fun l=>(QE n l x).bind fun f=>if 0<=f/\f<((a).length:Int) then((nth (a) (Int.toNat f)).bind QM).bind fun k=>some (h,a6,a7,j,e.1,e.2,c,d,(List.set a (Int.toNat f) (.agg [.v (.string k.1),.v (.string k.2.1),I k.2.2.1,I k.2.2.2.1,B false,B k.2.2.2.2.2]:D)),b) else none else if a1.data.toList=[97,105,109] then(el Ww a2 0).bind fun l=>(QQ n 109 h a6 a7 j e.1 e.2 c d a b).bind fun f=>(QE n f l).bind fun i=>if 0<=i/\i<((a).length:Int) then((nth (a) (Int.toNat i)).bind QM).bind fun r=>some (h,a6,a7,j,e.1,e.2,c,d,(List.set a (Int.toNat i) (.agg [.v (.string r.1),.v (.string r.2.1),I r.2.2.1,I r.2.2.2.1,B r.2.2.2.2.1,B true]:D)),b) else none else if a1.data.toList=[112,97,114,107] then(el Ww a2 0).bind fun f=>(QQ n 109 h a6 a7 j e.1 e.2 c d a b).bind fun i=>(QE n i f).bind fun k=>if 0<=k/\k<((a).length:Int) then((nth (a) (Int.toNat k)).bind QM).bind fun s=>some (h,a6,a7,j,e.1,e.2,c,d,(List.set a (Int.toNat k) (.agg [.v (.string s.1),.v (.string s.2.1),I s.2.2.1,I s.2.2.2.1,B s.2.2.2.2.1,B false]:D)),b) else none else if a1.data.toList=[100,105,109] then(WR n H a1 a2 a3 a4 h a6 a7 j e.1 e.2 c d a b).bind fun i=>some (h,a6,a7,j,e.1,e.2,c,d,i,b) else if a1.data.toList=[115,117,110] then(el Vt a3 1).bind fun k=>some (h,k,a7,j,e.1,e.2,c,d,a,b) else if a1.data.toList=[102,105,108,108] then some (h,a6,true,j,e.1,e.2,c,d,a,b) else if a1.data.toList=[100,114,97,105,110] then some (h,a6,false,j,e.1,e.2,c,d,a,b) else if a1.data.toList=[116,114,105,112] then(WG n h a6 a7 true e.1 e.2 c d a b).bind fun F=>some (h,a6,a7,true,e.1,e.2,c,d,F,b) else if a1.data.toList=[114,101,115,101,116] then some (h,a6,a7,false,e.1,e.2,c,d,a,b) else if a1.data.toList=[111,102,102,101,114] then(WL n H a1 a2 a3 a4).bind fun z=>(el Ww a2 0).bind fun y=>(el Vt a3 3).bind fun t=>(el Vt a3 4).bind fun m=>if Wa 64 ((b).length+1) then some (h,a6,a7,j,e.1,e.2,c,d,a,(b++([.agg [.v (.string y),I z.1,I z.2.1,I t,I m,I 0,B false]]:jVj))) else none else if a1.data.toList=[100,101,108,105,118,101,114] then(el Ww a2 0).bind fun y=>(QQ n 111 h a6 a7 j e.1 e.2 c d a b).bind fun t=>(QE n t y).bind fun m=>if 0<=m/\m<((b).length:Int) then((nth (b) (Int.toNat m)).bind Z6).bind fun o=>(el Vt a3 1).bind fun g=>if Qh (o.2.2.2.2.2.1+g) then if Qh (1000000*g) then if Qh (e.2 - (1000000*g)) then some (h,a6,a7,j,e.1,(e.2 - (1000000*g)),c,d,a,(List.set b (Int.toNat m) (.agg [.v (.string o.1),I o.2.1,I o.2.2.1,I o.2.2.2.1,I o.2.2.2.2.1,I (o.2.2.2.2.2.1+g),B o.2.2.2.2.2.2]:D))) else none else none else none else none else if a1.data.toList=[98,105,108,108] then(el Ww a2 0).bind fun t=>(QQ n 111 h a6 a7 j e.1 e.2 c d a b).bind fun m=>(QE n m t).bind fun q=>if 0<=q/\q<((b).length:Int) then((nth (b) (Int.toNat q)).bind Z6).bind fun g=>((nth ((List.set b (Int.toNat q) (.agg [.v (.string g.1),I g.2.1,I g.2.2.1,I g.2.2.2.1,I g.2.2.2.2.1,I g.2.2.2.2.2.1,B true]:D)):jVj) (Int.toNat q)).bind Z6).bind fun p=>(Wv n p.1 p.2.1 p.2.2.1 p.2.2.2.1 p.2.2.2.2.1 p.2.2.2.2.2.1 p.2.2.2.2.2.2).bind fun A=>if Qh (c+A) then some (h,a6,a7,j,e.1,e.2,(c+A),d,a,(List.set b (Int.toNat q) (.agg [.v (.string g.1),I g.2.1,I g.2.2.1,I g.2.2.2.1,I g.2.2.2.2.1,I g.2.2.2.2.2.1,B true]:D))) else none else none else if a1.data.toList=[117,110,100,111] then some (h,a6,a7,j,e.1,e.2,c,d,a,b) else none
theorem Uh {n J a1 a2 a3 a4 a5 a6 a7 s H A b c i e r}(h:Qz n J a1 a2 a3 a4 a5 a6 a7 s H A b c i e=some r):ComputesO cx 31 [.ptr 0 0 0 0 0,.d (.agg [I J,Qr5 a1,.lst false 1 a2,.lst false 1 a3,Qr5 a4])] (some (QJ a5 a6 a7 s H A b c i e)) (.d (.tup [])) (QJ' r) []:=by
 unfold Qz at h;have⟨t1,h1,h⟩:=bo h;have⟨t2,h2,h⟩:=bo h;have q:=allE Qi h1 (Qa (Jm h2) (allE Qi h1 QL));let o(l:jOj):=.el (Q3 t1)::.obj (some 0) (.d (.agg [I t2.1,I t2.2])) (QJ a5 a6 a7 s H A b c i e) qC::.el (Q3 t1)::b1::(no 28 l);obtain⟨K,h⟩|⟨K,h⟩:=io h
 ·have⟨t4,G,h⟩:=bo h;have⟨C,h⟩:=gd h;cases h;exact rfO 0 (o [.el Qse,.ix (-9),b1,.el (Zy t4),b1]) (Qa (ro 9 C) (allE Qr G (Qa (mk1 ⟨#[115,101,99,116,111,114]⟩ Qse K) q)))
 obtain⟨G,h⟩|⟨G,h⟩:=io h
 ·have⟨t5,C,h⟩:=bo h;have⟨t6,E,h⟩:=bo h;have⟨t7,z,h⟩:=bo h;have⟨t,h⟩:=gd h;cases h;exact rfO 0 (o [.el Qsg,.ix (-9),b1,.el (Zy t5),.el (Zy t6),.el (Q3 t7),b1]) (Qa (ro 47 t) (allE Qi z (allE Qr E (allE Qr C (Qa (mk1 ⟨#[109,105,114,114,111,114]⟩ Qsg G) q)))))
 obtain⟨C,h⟩|⟨C,h⟩:=io h
 ·have⟨t6,E,h⟩:=bo h;have⟨t7,z,h⟩:=bo h;have⟨t8,t,h⟩:=bo h;have⟨u,h⟩:=gd h;have⟨t10,f,h⟩:=bo h;have⟨t11,a,h⟩:=bo h;cases h;exact rfO 0 (o [.el Qsk,.ix (-9),b1,.el (Zy t6),.ix (-9),b1,.obj (some 0) (.d (.lst false 1 t7)) (QJ t1 a6 a7 s t2.1 t2.2 b c i e) qC,.ret (I t8),b1,.ix (-9),b1,.el (Q3 t10),.el (QB t11)]) (Qa (QX Qq a) (allE Qi f (Qa u (Qa (QK t) (Qa (Zn z) (allE Qr E (Qa (mk1 ⟨#[115,111,105,108]⟩ Qsk C) q)))))))
 obtain⟨E,h⟩|⟨E,h⟩:=io h
 ·have⟨t7,z,h⟩:=bo h;have⟨t8,t,h⟩:=bo h;have⟨t9,u,h⟩:=bo h;have⟨f,h⟩:=gd h;have⟨t11,a,h⟩:=bo h;cases h;exact rfO 0 (o [.el Qsp,.ix (-9),b1,.el (Zy t7),.ix (-9),b1,.obj (some 0) (.d (.lst false 1 t8)) (QJ t1 a6 a7 s t2.1 t2.2 b c i e) qC,.ret (I t9),b1,.ix (-9),b1,.el (QB t11)]) (Qa (QX Qq a) (Qa f (Qa (QK u) (Qa (Zn t) (allE Qr z (Qa (mk1 ⟨#[99,108,101,97,110]⟩ Qsp E) q))))))
 obtain⟨z,h⟩|⟨z,h⟩:=io h
 ·have⟨t8,t,h⟩:=bo h;have⟨t9,u,h⟩:=bo h;have⟨t10,f,h⟩:=bo h;have⟨a,h⟩:=gd h;have⟨t12,g,h⟩:=bo h;cases h;exact rfO 0 (o [.el Qso,.ix (-9),b1,.el (Zy t8),.ix (-9),b1,.obj (some 0) (.d (.lst false 1 t9)) (QJ t1 a6 a7 s t2.1 t2.2 b c i e) qC,.ret (I t10),b1,.ix (-9),b1,.el (QB t12)]) (Qa (QX Qq g) (Qa a (Qa (QK f) (Qa (Zn u) (allE Qr t (Qa (mk1 ⟨#[100,101,102,101,99,116]⟩ Qso z) q))))))
 obtain⟨t,h⟩|⟨t,h⟩:=io h
 ·have⟨t9,u,h⟩:=bo h;have⟨t10,f,h⟩:=bo h;have⟨t11,a,h⟩:=bo h;have⟨g,h⟩:=gd h;have⟨t13,j,h⟩:=bo h;cases h;exact rfO 0 (o [.el Qsn,.ix (-9),b1,.el (Zy t9),.ix (-9),b1,.obj (some 0) (.d (.lst false 1 t10)) (QJ t1 a6 a7 s t2.1 t2.2 b c i e) qC,.ret (I t11),b1,.ix (-9),b1,.el (QB t13)]) (Qa (QX Qq j) (Qa g (Qa (QK a) (Qa (Zn f) (allE Qr u (Qa (mk1 ⟨#[114,101,112,97,105,114]⟩ Qsn t) q))))))
 obtain⟨u,h⟩|⟨u,h⟩:=io h
 ·have⟨t10,f,h⟩:=bo h;have⟨t11,a,h⟩:=bo h;have⟨t12,g,h⟩:=bo h;have⟨j,h⟩:=gd h;have⟨t14,m,h⟩:=bo h;cases h;exact rfO 0 (o [.el Qsm,.ix (-9),b1,.el (Zy t10),.ix (-9),b1,.obj (some 0) (.d (.lst false 1 t11)) (QJ t1 a6 a7 s t2.1 t2.2 b c i e) qC,.ret (I t12),b1,.ix (-9),b1,.el (QB t14)]) (Qa (QX Qq m) (Qa j (Qa (QK g) (Qa (Zn a) (allE Qr f (Qa (mk1 ⟨#[97,105,109]⟩ Qsm u) q))))))
 obtain⟨f,h⟩|⟨f,h⟩:=io h
 ·have⟨t11,a,h⟩:=bo h;have⟨t12,g,h⟩:=bo h;have⟨t13,j,h⟩:=bo h;have⟨m,h⟩:=gd h;have⟨t15,v,h⟩:=bo h;cases h;exact rfO 0 (o [.el Qsl,.ix (-9),b1,.el (Zy t11),.ix (-9),b1,.obj (some 0) (.d (.lst false 1 t12)) (QJ t1 a6 a7 s t2.1 t2.2 b c i e) qC,.ret (I t13),b1,.ix (-9),b1,.el (QB t15)]) (Qa (QX Qq v) (Qa m (Qa (QK j) (Qa (Zn g) (allE Qr a (Qa (mk1 ⟨#[112,97,114,107]⟩ Qsl f) q))))))
 obtain⟨a,h⟩|⟨a,h⟩:=io h
 ·have⟨t12,g,h⟩:=bo h;cases h;exact rfO 0 (o [.el Qsh,.ix (-9),b1,.obj (some 0) (.d (.tup [])) (QJ t1 a6 a7 s t2.1 t2.2 b c t12 e) [false,false,false,false,false,false,false,true,true,true]]) (Qa (G3 g) (Qa (mk1 ⟨#[100,105,109]⟩ Qsh a) q))
 obtain⟨g,h⟩|⟨g,h⟩:=io h
 ·have⟨t13,j,h⟩:=bo h;cases h;exact rfO 0 (o [.el Qr8,.ix (-9),b1,.el (Q3 t13)]) (allE Qi j (Qa (mk1 ⟨#[115,117,110]⟩ Qr8 g) q))
 obtain⟨j,h⟩|⟨j,h⟩:=io h
 ·cases h;exact rfO 0 (o [.el Qsc,.ix (-9),b1]) (Qa (mk1 ⟨#[102,105,108,108]⟩ Qsc j) q)
 obtain⟨m,h⟩|⟨m,h⟩:=io h
 ·cases h;exact rfO 0 (o [.el Qsb,.ix (-9),b1]) (Qa (mk1 ⟨#[100,114,97,105,110]⟩ Qsb m) q)
 obtain⟨v,h⟩|⟨v,h⟩:=io h
 ·have⟨t16,x,h⟩:=bo h;cases h;exact rfO 0 (o [.el Qsa,.ix (-9),b1,.obj (some 0) (.d (.tup [])) (QJ t1 a6 a7 true t2.1 t2.2 b c t16 e) [false,false,false,false,false,false,false,true,true,true]]) (Qa (Gn x) (Qa (mk1 ⟨#[116,114,105,112]⟩ Qsa v) q))
 obtain⟨x,h⟩|⟨x,h⟩:=io h
 ·cases h;exact rfO 0 (o [.el Qr9,.ix (-9),b1]) (Qa (mk1 ⟨#[114,101,115,101,116]⟩ Qr9 x) q)
 obtain⟨F,h⟩|⟨F,h⟩:=io h
 ·have⟨t18,y,h⟩:=bo h;have⟨t19,p,h⟩:=bo h;have⟨t20,k,h⟩:=bo h;have⟨t21,h21,h⟩:=bo h;have⟨h22,h⟩:=gd h;cases h;exact rfO 0 (o [.el Qsf,.ix (-9),b1,.ret (.tup [.agg [I t18.1,I t18.2.1],I t18.2.2]),.el (Zy t19),.el (Q3 t20),.el (Q3 t21),b1]) (Qa (ro 102 h22) (allE Qi h21 (allE Qi k (allE Qr p (Qa (GT y) (Qa (mk1 ⟨#[111,102,102,101,114]⟩ Qsf F) q))))))
 obtain⟨y,h⟩|⟨y,h⟩:=io h
 ·have⟨t19,p,h⟩:=bo h;have⟨t20,k,h⟩:=bo h;have⟨t21,h21,h⟩:=bo h;have⟨h22,h⟩:=gd h;have⟨t23,h23,h⟩:=bo h;have⟨t24,h24,h⟩:=bo h;have⟨h25,h⟩:=gd h;have⟨h26,h⟩:=gd h;have⟨h27,h⟩:=gd h;cases h;exact rfO 0 (o [.el Qsi,.ix (-9),b1,.el (Zy t19),.ix (-9),b1,.obj (some 0) (.d (.lst false 1 t20)) (QJ t1 a6 a7 s t2.1 t2.2 b c i e) qC,.ret (I t21),b1,.el (Q7 t23),.el (Q3 t24),.el (Q7 t23),.el (Q3 t24)]) (Qa h27 (Qa h26 (allE Qi h24 (Qa (QX Q0 h23) (Qa h25 (allE Qi h24 (Qa (QX Q0 h23) (Qa h22 (Qa (QK h21) (Qa (Zn k) (allE Qr p (Qa (mk1 ⟨#[100,101,108,105,118,101,114]⟩ Qsi y) q))))))))))))
 obtain⟨p,h⟩|⟨p,h⟩:=io h
 ·have⟨t20,k,h⟩:=bo h;have⟨t21,h21,h⟩:=bo h;have⟨t22,h22,h⟩:=bo h;have⟨h23,h⟩:=gd h;have⟨t24,h24,h⟩:=bo h;have⟨t25,h25,h⟩:=bo h;have⟨t26,h26,h⟩:=bo h;have⟨h27,h⟩:=gd h;cases h;exact rfO 0 (o [.el Qsj,.ix (-9),b1,.el (Zy t20),b1,.obj (some 0) (.d (.lst false 1 t21)) (QJ t1 a6 a7 s t2.1 t2.2 b c i e) qC,.ret (I t22),b1,.el (Q7 t24),.el (Q7 t25),.ret (I t26)]) (Qa h27 (Qa (YN h26) (Qa (QX Q0 h25) (Qa (QX Q0 h24) (Qa h23 (Qa (QK h22) (Qa (Zn h21) (allE Qr k (Qa (mk1 ⟨#[98,105,108,108]⟩ Qsj p) q)))))))))
 obtain⟨k,h⟩|⟨k,h⟩:=io h
 ·cases h;exact rfO 0 (o [.el Qsd,.ix (-9),b1]) (Qa (mk1 ⟨#[117,110,100,111]⟩ Qsd k) q)
 cases h
def ZH (n:Nat)(d:Int)(a1:jSj)(a2 a3:jVj)(a4:jSj)(a5 a6:jVj)(a7 k:Int)(l e:Bool)(f g h:Int)(i b j:jVj)(sa:(Int×jVj)):Option (Int×jVj⊕jVj) := if sa.1<((b).length:Int) then if 0<=sa.1/\sa.1<((sa.2).length:Int) then((nth (sa.2) (Int.toNat sa.1)).bind QM).bind fun a=>(WC n a.1 a.2.1 a.2.2.1 a.2.2.2.1 a.2.2.2.2.1 a.2.2.2.2.2 d a1 a2 a3 a4).bind fun c=>if c=true then if Qh (sa.1+1) then some (.inl ((sa.1+1),(List.set sa.2 (Int.toNat sa.1) (.agg [.v (.string a.1),.v (.string a.2.1),I a.2.2.1,I a.2.2.2.1,B a.2.2.2.2.1,B false]:D)))) else none else if Qh (sa.1+1) then some (.inl ((sa.1+1),sa.2)) else none else none else some (.inr sa.2)
noncomputable def Jh (l:Int)(a1:jSj)(a2 a3:jVj)(a4:jSj)(a5 a6:jVj)(a7 j:Int)(k a:Bool)(b c f:Int)(g i h:jVj):Lp (Int×jVj) (jVj):=⟨fun sa=>[(0,.ptr 0 0 0 0 2),(1,.d (.fn (.func 62) [] [.ref (.agg [I l,Qr5 a1,.lst false 1 a2,.lst false 1 a3,Qr5 a4]) 0])),(9,.own 11 0),(10,.d (I ((i).length:Int))),(11,.d (I sa.1))],fun sa=>[(0,.box (.agg [.own 1 0,.own 2 0,.d (I a7),.d (I j),.d (B k),.d (B a),.d (I b),.d (I c),.d (I f),.own 10 0,.own 11 0,.own 12 0])),(1,.row 0 5 a5),(2,.row 0 5 a6),(10,.row 0 1 g),(11,.row 0 6 sa.2),(12,.row 0 7 h)],fun _=>(.exit 0),fun _=>[],fun e=>[(0,.box (.agg [.own 1 0,.own 2 0,.d (I a7),.d (I j),.d (B k),.d (B a),.d (I b),.d (I c),.d (I f),.own 10 0,.own 11 0,.own 12 0])),(1,.row 0 5 a5),(2,.row 0 5 a6),(10,.row 0 1 g),(11,.row 0 6 e),(12,.row 0 7 h)]⟩
theorem Jd {n k a1 a2 a3 a4 a5 a6 a7 m p c d e f g i j}(sa)(r)(h:ZH n k a1 a2 a3 a4 a5 a6 a7 m p c d e f g i j sa=some r):Rl (ZJ cx.P 61 0) 27 13 false (Jh k a1 a2 a3 a4 a5 a6 a7 m p c d e f g i j) sa r:=by
 unfold ZH at h;obtain⟨a,h⟩|⟨a,h⟩:=io h
 ·have⟨ha2,h⟩:=gd h;have⟨ta3,ha3,h⟩:=bo h;have⟨ta4,ha4,h⟩:=bo h;have q:=Qa (U4 ha4) (Qa (QX Qq ha3) (Qa ha2 (Qa (jDj a) QL)));let o(l:jOj):=b1::b1::.el (QB ta3)::.ret (B ta4)::l;obtain⟨b,h⟩|⟨b,h⟩:=io h
  ·have⟨ha6,h⟩:=gd h;cases h;exact rn 19 (o [b1,b1,.el (QB ta3)]) [] [0,1,9,10,11] [0,1,2,10,11,12] (Qa ha6 (Qa (QX Qq ha3) (Qa ha2 (Qa b q))))
  have⟨ha6,h⟩:=gd h;cases h;exact rn 19 (o [b0]) [] [0,1,9,10,11] [0,1,2,10,11,12] (Qa ha6 (Qa (QA b) q))
 cases h;exact rx 19 [b0] [] [] [0,1,2,10,11,12] (Qa (jEj a) QL)
def WF (n:Nat)(h:Int)(a1:jSj)(a2 a3:jVj)(a4:jSj)(a5 a6:jVj)(a7 i:Int)(j b:Bool)(c d e:Int)(f a g:jVj):Option (jVj) := (Q2 (ZH n h a1 a2 a3 a4 a5 a6 a7 i j b c d e f a g) n (0,a)).bind fun k=>some k
theorem Gm {n l a1 a2 a3 a4 a5 a6 a7 j k a b c e f i g r}(h:WF n l a1 a2 a3 a4 a5 a6 a7 j k a b c e f i g=some r):ComputesO cx 61 [.ptr 0 0 0 0 2,.d (.fn (.func 62) [] [.ref (.agg [I l,Qr5 a1,.lst false 1 a2,.lst false 1 a3,Qr5 a4]) 0])] (some (Qb a5 a6 a7 j k a b c e f i g)) (.d (.tup [])) (Qb a5 a6 a7 j k a b c e f r g) [true,true,false,false,false,false,false,false,false,true,true,true]:=by unfold WF at h;have⟨t1,h1,h⟩:=bo h;obtain rfl:=oi h;exact rfO 0 [.lp [] [0,1,9,10,11] [0,1,2,10,11,12] (.exit 0) [] [(0,.box (.agg [.own 1 0,.own 2 0,.d (I a7),.d (I j),.d (B k),.d (B a),.d (I b),.d (I c),.d (I e),.own 10 0,.own 11 0,.own 12 0])),(1,.row 0 5 a5),(2,.row 0 5 a6),(10,.row 0 1 f),(11,.row 0 6 t1),(12,.row 0 7 g)] 50] (Qa (QH Jd h1) QL)
def ZG (n:Nat)(e a1:jVj)(a2 a3:Int)(a4 a5:Bool)(a6 a7 f:Int)(g b d:jVj)(sa:(Int×jVj)):Option (Int×jVj⊕jVj) := if sa.1<((b).length:Int) then if 0<=sa.1/\sa.1<((sa.2).length:Int) then((nth (sa.2) (Int.toNat sa.1)).bind QM).bind fun a=>(WB n a.1 a.2.1 a.2.2.1 a.2.2.2.1 a.2.2.2.2.1 a.2.2.2.2.2).bind fun c=>if c=true then if Qh (sa.1+1) then some (.inl ((sa.1+1),(List.set sa.2 (Int.toNat sa.1) (.agg [.v (.string a.1),.v (.string a.2.1),I a.2.2.1,I a.2.2.2.1,B a.2.2.2.2.1,B false]:D)))) else none else if Qh (sa.1+1) then some (.inl ((sa.1+1),sa.2)) else none else none else some (.inr sa.2)
noncomputable def Jg (c a1:jVj)(a2 a3:Int)(a4 a5:Bool)(a6 a7 f:Int)(g b a:jVj):Lp (Int×jVj) (jVj):=⟨fun sa=>[(0,.ptr 0 0 0 0 2),(1,.d (.fn (.func 72) [] [])),(9,.own 11 0),(10,.d (I ((b).length:Int))),(11,.d (I sa.1))],fun sa=>[(0,.box (.agg [.own 1 0,.own 2 0,.d (I a2),.d (I a3),.d (B a4),.d (B a5),.d (I a6),.d (I a7),.d (I f),.own 10 0,.own 11 0,.own 12 0])),(1,.row 0 5 c),(2,.row 0 5 a1),(10,.row 0 1 g),(11,.row 0 6 sa.2),(12,.row 0 7 a)],fun _=>(.exit 0),fun _=>[],fun e=>[(0,.box (.agg [.own 1 0,.own 2 0,.d (I a2),.d (I a3),.d (B a4),.d (B a5),.d (I a6),.d (I a7),.d (I f),.own 10 0,.own 11 0,.own 12 0])),(1,.row 0 5 c),(2,.row 0 5 a1),(10,.row 0 1 g),(11,.row 0 6 e),(12,.row 0 7 a)]⟩
theorem Jc {n e a1 a2 a3 a4 a5 a6 a7 f g c d}(sa)(r)(h:ZG n e a1 a2 a3 a4 a5 a6 a7 f g c d sa=some r):Rl (ZJ cx.P 61 0) 27 13 false (Jg e a1 a2 a3 a4 a5 a6 a7 f g c d) sa r:=by
 unfold ZG at h;obtain⟨a,h⟩|⟨a,h⟩:=io h
 ·have⟨ha2,h⟩:=gd h;have⟨ta3,ha3,h⟩:=bo h;have⟨ta4,ha4,h⟩:=bo h;have q:=Qa (U3 ha4) (Qa (QX Qq ha3) (Qa ha2 (Qa (jDj a) QL)));let o(l:jOj):=b1::b1::.el (QB ta3)::.ret (B ta4)::l;obtain⟨b,h⟩|⟨b,h⟩:=io h
  ·have⟨ha6,h⟩:=gd h;cases h;exact rn 19 (o [b1,b1,.el (QB ta3)]) [] [0,1,9,10,11] [0,1,2,10,11,12] (Qa ha6 (Qa (QX Qq ha3) (Qa ha2 (Qa b q))))
  have⟨ha6,h⟩:=gd h;cases h;exact rn 19 (o [b0]) [] [0,1,9,10,11] [0,1,2,10,11,12] (Qa ha6 (Qa (QA b) q))
 cases h;exact rx 19 [b0] [] [] [0,1,2,10,11,12] (Qa (jEj a) QL)
def WE (n:Nat)(c a1:jVj)(a2 a3:Int)(a4 a5:Bool)(a6 a7 d:Int)(e a b:jVj):Option (jVj) := (Q2 (ZG n c a1 a2 a3 a4 a5 a6 a7 d e a b) n (0,a)).bind fun f=>some f
theorem Gl {n c a1 a2 a3 a4 a5 a6 a7 e f b a r}(h:WE n c a1 a2 a3 a4 a5 a6 a7 e f b a=some r):ComputesO cx 61 [.ptr 0 0 0 0 2,.d (.fn (.func 72) [] [])] (some (Qb c a1 a2 a3 a4 a5 a6 a7 e f b a)) (.d (.tup [])) (Qb c a1 a2 a3 a4 a5 a6 a7 e f r a) [true,true,false,false,false,false,false,false,false,true,true,true]:=by unfold WE at h;have⟨t1,h1,h⟩:=bo h;obtain rfl:=oi h;exact rfO 0 [.lp [] [0,1,9,10,11] [0,1,2,10,11,12] (.exit 0) [] [(0,.box (.agg [.own 1 0,.own 2 0,.d (I a2),.d (I a3),.d (B a4),.d (B a5),.d (I a6),.d (I a7),.d (I e),.own 10 0,.own 11 0,.own 12 0])),(1,.row 0 5 c),(2,.row 0 5 a1),(10,.row 0 1 f),(11,.row 0 6 t1),(12,.row 0 7 a)] 50] (Qa (QH Jc h1) QL)
def Qy (n:Nat)(L:Int)(a1:jSj)(a2 a3:jVj)(a4:jSj)(a5 a6:jVj)(a7 k:Int)(l f:Bool)(G H c:Int)(d a b:jVj):Option (jRj) := (el Vt a3 0).bind fun i=>(Q8 n i a5 a6 a7 k l f G H c d a b).bind fun e=>if a1.data.toList=[115,101,99,116,111,114] then(el Ww a2 0).bind fun M=>if Wa 16 ((d).length+1) then some (i,k,l,f,e.1,e.2,c,(d++([.v (.string M)]:jVj)),a,b) else none else if a1.data.toList=[109,105,114,114,111,114] then(el Ww a2 0).bind fun N=>(el Ww a2 1).bind fun K=>(el Vt a3 1).bind fun F=>if Wa 56 ((a).length+1) then some (i,k,l,f,e.1,e.2,c,d,(a++([.agg [.v (.string N),.v (.string K),I F,I 0,B false,B false]]:jVj)),b) else none else if a1.data.toList=[115,111,105,108] then(el Ww a2 0).bind fun K=>(Qw n 109 a5 a6 i k l f e.1 e.2 c d a b).bind fun F=>(QE n F K).bind fun y=>if 0<=y/\y<((a).length:Int) then(el Vt a3 1).bind fun o=>((nth (a) (Int.toNat y)).bind QM).bind fun g=>some (i,k,l,f,e.1,e.2,c,d,(List.set a (Int.toNat y) (.agg [.v (.string g.1),.v (.string g.2.1),I g.2.2.1,I o,B g.2.2.2.2.1,B g.2.2.2.2.2]:D)),b) else none else if a1.data.toList=[99,108,101,97,110] then(el Ww a2 0).bind fun F=>(Qw n 109 a5 a6 i k l f e.1 e.2 c d a b).bind fun y=>(QE n y F).bind fun z=>if 0<=z/\z<((a).length:Int) then((nth (a) (Int.toNat z)).bind QM).bind fun g=>some (i,k,l,f,e.1,e.2,c,d,(List.set a (Int.toNat z) (.agg [.v (.string g.1),.v (.string g.2.1),I g.2.2.1,I 0,B g.2.2.2.2.1,B g.2.2.2.2.2]:D)),b) else none else if a1.data.toList=[100,101,102,101,99,116] then(el Ww a2 0).bind fun y=>(Qw n 109 a5 a6 i k l f e.1 e.2 c d a b).bind fun z=>(QE n z y).bind fun o=>if 0<=o/\o<((a).length:Int) then((nth (a) (Int.toNat o)).bind QM).bind fun j=>some (i,k,l,f,e.1,e.2,c,d,(List.set a (Int.toNat o) (.agg [.v (.string j.1),.v (.string j.2.1),I j.2.2.1,I j.2.2.2.1,B true,B j.2.2.2.2.2]:D)),b) else none else if a1.data.toList=[114,101,112,97,105,114] then(el Ww a2 0).bind fun z=>(Qw n 109 a5 a6 i k l f e.1 e.2 c d a b).bind fun o=>(QE n o z).bind fun g=>if 0<=g/\g<((a).length:Int) then((nth (a) (Int.toNat g)).bind QM).bind fun m=>some (i,k,l,f,e.1,e.2,c,d,(List.set a (Int.toNat g) (.agg [.v (.string m.1),.v (.string m.2.1),I m.2.2.1,I m.2.2.2.1,B false,B m.2.2.2.2.2]:D)),b) else none else if a1.data.toList=[97,105,109] then(el Ww a2 0).bind fun o=>(Qw n 109 a5 a6 i k l f e.1 e.2 c d a b).bind fun g=>(QE n g o).bind fun j=>if 0<=j/\j<((a).length:Int) then((nth (a) (Int.toNat j)).bind QM).bind fun t=>some (i,k,l,f,e.1,e.2,c,d,(List.set a (Int.toNat j) (.agg [.v (.string t.1),.v (.string t.2.1),I t.2.2.1,I t.2.2.2.1,B t.2.2.2.2.1,B true]:D)),b) else none else if a1.data.toList=[112,97,114,107] then(el Ww a2 0).bind fun g=>(Qw n 109 a5 a6 i k l f e.1 e.2 c d a b).bind fun j=>(QE n j g).bind fun m=>if 0<=m/\m<((a).length:Int) then((nth (a) (Int.toNat m)).bind QM).bind fun u=>some (i,k,l,f,e.1,e.2,c,d,(List.set a (Int.toNat m) (.agg [.v (.string u.1),.v (.string u.2.1),I u.2.2.1,I u.2.2.2.1,B u.2.2.2.2.1,B false]:D)),b) else none else if a1.data.toList=[100,105,109] then(WF n L a1 a2 a3 a4 a5 a6 i k l f e.1 e.2 c d a b).bind fun j=>some (i,k,l,f,e.1,e.2,c,d,j,b) else if a1.data.toList=[115,117,110] then(el Vt a3 1).bind fun m=>some (i,m,l,f,e.1,e.2,c,d,a,b) else if a1.data.toList=[102,105,108,108] then some (i,k,true,f,e.1,e.2,c,d,a,b) else if a1.data.toList=[100,114,97,105,110] then some (i,k,false,f,e.1,e.2,c,d,a,b) else if a1.data.toList=[116,114,105,112] then(WE n a5 a6 i k l true e.1 e.2 c d a b).bind fun J=>some (i,k,l,true,e.1,e.2,c,d,J,b) else if a1.data.toList=[114,101,115,101,116] then some (i,k,l,false,e.1,e.2,c,d,a,b) else if a1.data.toList=[111,102,102,101,114] then(WL n L a1 a2 a3 a4).bind fun C=>(el Ww a2 0).bind fun A=>(el Vt a3 3).bind fun x=>(el Vt a3 4).bind fun p=>if Wa 64 ((b).length+1) then some (i,k,l,f,e.1,e.2,c,d,a,(b++([.agg [.v (.string A),I C.1,I C.2.1,I x,I p,I 0,B false]]:jVj))) else none else if a1.data.toList=[100,101,108,105,118,101,114] then(el Ww a2 0).bind fun A=>(Qw n 111 a5 a6 i k l f e.1 e.2 c d a b).bind fun x=>(QE n x A).bind fun p=>if 0<=p/\p<((b).length:Int) then((nth (b) (Int.toNat p)).bind Z6).bind fun q=>(el Vt a3 1).bind fun h=>if Qh (q.2.2.2.2.2.1+h) then if Qh (1000000*h) then if Qh (e.2 - (1000000*h)) then some (i,k,l,f,e.1,(e.2 - (1000000*h)),c,d,a,(List.set b (Int.toNat p) (.agg [.v (.string q.1),I q.2.1,I q.2.2.1,I q.2.2.2.1,I q.2.2.2.2.1,I (q.2.2.2.2.2.1+h),B q.2.2.2.2.2.2]:D))) else none else none else none else none else if a1.data.toList=[98,105,108,108] then(el Ww a2 0).bind fun x=>(Qw n 111 a5 a6 i k l f e.1 e.2 c d a b).bind fun p=>(QE n p x).bind fun s=>if 0<=s/\s<((b).length:Int) then((nth (b) (Int.toNat s)).bind Z6).bind fun h=>((nth ((List.set b (Int.toNat s) (.agg [.v (.string h.1),I h.2.1,I h.2.2.1,I h.2.2.2.1,I h.2.2.2.2.1,I h.2.2.2.2.2.1,B true]:D)):jVj) (Int.toNat s)).bind Z6).bind fun r=>(Wv n r.1 r.2.1 r.2.2.1 r.2.2.2.1 r.2.2.2.2.1 r.2.2.2.2.2.1 r.2.2.2.2.2.2).bind fun E=>if Qh (c+E) then some (i,k,l,f,e.1,e.2,(c+E),d,a,(List.set b (Int.toNat s) (.agg [.v (.string h.1),I h.2.1,I h.2.2.1,I h.2.2.2.1,I h.2.2.2.2.1,I h.2.2.2.2.2.1,B true]:D))) else none else none else if a1.data.toList=[117,110,100,111] then some (i,k,l,f,e.1,e.2,c,d,a,b) else none
theorem J1 {n L a1 a2 a3 a4 a5 a6 a7 p s f E F b c j e r}(h:Qy n L a1 a2 a3 a4 a5 a6 a7 p s f E F b c j e=some r):ComputesO cx 31 [.ptr 0 0 0 0 2,.d (.agg [I L,Qr5 a1,.lst false 1 a2,.lst false 1 a3,Qr5 a4])] (some (Qb a5 a6 a7 p s f E F b c j e)) (.d (.tup [])) (Qb a5 a6 r.1 r.2.1 r.2.2.1 r.2.2.2.1 r.2.2.2.2.1 r.2.2.2.2.2.1 r.2.2.2.2.2.2.1 r.2.2.2.2.2.2.2.1 r.2.2.2.2.2.2.2.2.1 r.2.2.2.2.2.2.2.2.2) [true,true]:=by
 unfold Qy at h;have⟨t1,h1,h⟩:=bo h;have⟨t2,h2,h⟩:=bo h;have q:=allE Qi h1 (Qa (WA h2) (allE Qi h1 QL));let o(l:jOj):=.el (Q3 t1)::.obj (some 0) (.d (.agg [I t2.1,I t2.2])) (Qb a5 a6 a7 p s f E F b c j e) ZV::.el (Q3 t1)::b1::(no 28 l);obtain⟨M,h⟩|⟨M,h⟩:=io h
 ·have⟨t4,K,h⟩:=bo h;have⟨G,h⟩:=gd h;cases h;exact rfO 0 (o [.el Qse,.ix (-9),b1,.el (Zy t4),b1]) (Qa (ro 9 G) (allE Qr K (Qa (mk1 ⟨#[115,101,99,116,111,114]⟩ Qse M) q)))
 obtain⟨K,h⟩|⟨K,h⟩:=io h
 ·have⟨t5,G,h⟩:=bo h;have⟨t6,H,h⟩:=bo h;have⟨t7,C,h⟩:=bo h;have⟨v,h⟩:=gd h;cases h;exact rfO 0 (o [.el Qsg,.ix (-9),b1,.el (Zy t5),.el (Zy t6),.el (Q3 t7),b1]) (Qa (ro 47 v) (allE Qi C (allE Qr H (allE Qr G (Qa (mk1 ⟨#[109,105,114,114,111,114]⟩ Qsg K) q)))))
 obtain⟨G,h⟩|⟨G,h⟩:=io h
 ·have⟨t6,H,h⟩:=bo h;have⟨t7,C,h⟩:=bo h;have⟨t8,v,h⟩:=bo h;have⟨x,h⟩:=gd h;have⟨t10,g,h⟩:=bo h;have⟨t11,a,h⟩:=bo h;cases h;exact rfO 0 (o [.el Qsk,.ix (-9),b1,.el (Zy t6),.ix (-9),b1,.obj (some 0) (.d (.lst false 1 t7)) (Qb a5 a6 t1 p s f t2.1 t2.2 b c j e) ZV,.ret (I t8),b1,.ix (-9),b1,.el (Q3 t10),.el (QB t11)]) (Qa (QX Qq a) (allE Qi g (Qa x (Qa (QK v) (Qa (QC C) (allE Qr H (Qa (mk1 ⟨#[115,111,105,108]⟩ Qsk G) q)))))))
 obtain⟨H,h⟩|⟨H,h⟩:=io h
 ·have⟨t7,C,h⟩:=bo h;have⟨t8,v,h⟩:=bo h;have⟨t9,x,h⟩:=bo h;have⟨g,h⟩:=gd h;have⟨t11,a,h⟩:=bo h;cases h;exact rfO 0 (o [.el Qsp,.ix (-9),b1,.el (Zy t7),.ix (-9),b1,.obj (some 0) (.d (.lst false 1 t8)) (Qb a5 a6 t1 p s f t2.1 t2.2 b c j e) ZV,.ret (I t9),b1,.ix (-9),b1,.el (QB t11)]) (Qa (QX Qq a) (Qa g (Qa (QK x) (Qa (QC v) (allE Qr C (Qa (mk1 ⟨#[99,108,101,97,110]⟩ Qsp H) q))))))
 obtain⟨C,h⟩|⟨C,h⟩:=io h
 ·have⟨t8,v,h⟩:=bo h;have⟨t9,x,h⟩:=bo h;have⟨t10,g,h⟩:=bo h;have⟨a,h⟩:=gd h;have⟨t12,i,h⟩:=bo h;cases h;exact rfO 0 (o [.el Qso,.ix (-9),b1,.el (Zy t8),.ix (-9),b1,.obj (some 0) (.d (.lst false 1 t9)) (Qb a5 a6 t1 p s f t2.1 t2.2 b c j e) ZV,.ret (I t10),b1,.ix (-9),b1,.el (QB t12)]) (Qa (QX Qq i) (Qa a (Qa (QK g) (Qa (QC x) (allE Qr v (Qa (mk1 ⟨#[100,101,102,101,99,116]⟩ Qso C) q))))))
 obtain⟨v,h⟩|⟨v,h⟩:=io h
 ·have⟨t9,x,h⟩:=bo h;have⟨t10,g,h⟩:=bo h;have⟨t11,a,h⟩:=bo h;have⟨i,h⟩:=gd h;have⟨t13,k,h⟩:=bo h;cases h;exact rfO 0 (o [.el Qsn,.ix (-9),b1,.el (Zy t9),.ix (-9),b1,.obj (some 0) (.d (.lst false 1 t10)) (Qb a5 a6 t1 p s f t2.1 t2.2 b c j e) ZV,.ret (I t11),b1,.ix (-9),b1,.el (QB t13)]) (Qa (QX Qq k) (Qa i (Qa (QK a) (Qa (QC g) (allE Qr x (Qa (mk1 ⟨#[114,101,112,97,105,114]⟩ Qsn v) q))))))
 obtain⟨x,h⟩|⟨x,h⟩:=io h
 ·have⟨t10,g,h⟩:=bo h;have⟨t11,a,h⟩:=bo h;have⟨t12,i,h⟩:=bo h;have⟨k,h⟩:=gd h;have⟨t14,t,h⟩:=bo h;cases h;exact rfO 0 (o [.el Qsm,.ix (-9),b1,.el (Zy t10),.ix (-9),b1,.obj (some 0) (.d (.lst false 1 t11)) (Qb a5 a6 t1 p s f t2.1 t2.2 b c j e) ZV,.ret (I t12),b1,.ix (-9),b1,.el (QB t14)]) (Qa (QX Qq t) (Qa k (Qa (QK i) (Qa (QC a) (allE Qr g (Qa (mk1 ⟨#[97,105,109]⟩ Qsm x) q))))))
 obtain⟨g,h⟩|⟨g,h⟩:=io h
 ·have⟨t11,a,h⟩:=bo h;have⟨t12,i,h⟩:=bo h;have⟨t13,k,h⟩:=bo h;have⟨t,h⟩:=gd h;have⟨t15,y,h⟩:=bo h;cases h;exact rfO 0 (o [.el Qsl,.ix (-9),b1,.el (Zy t11),.ix (-9),b1,.obj (some 0) (.d (.lst false 1 t12)) (Qb a5 a6 t1 p s f t2.1 t2.2 b c j e) ZV,.ret (I t13),b1,.ix (-9),b1,.el (QB t15)]) (Qa (QX Qq y) (Qa t (Qa (QK k) (Qa (QC i) (allE Qr a (Qa (mk1 ⟨#[112,97,114,107]⟩ Qsl g) q))))))
 obtain⟨a,h⟩|⟨a,h⟩:=io h
 ·have⟨t12,i,h⟩:=bo h;cases h;exact rfO 0 (o [.el Qsh,.ix (-9),b1,.obj (some 0) (.d (.tup [])) (Qb a5 a6 t1 p s f t2.1 t2.2 b c t12 e) [true,true,false,false,false,false,false,false,false,true,true,true]]) (Qa (Gm i) (Qa (mk1 ⟨#[100,105,109]⟩ Qsh a) q))
 obtain⟨i,h⟩|⟨i,h⟩:=io h
 ·have⟨t13,k,h⟩:=bo h;cases h;exact rfO 0 (o [.el Qr8,.ix (-9),b1,.el (Q3 t13)]) (allE Qi k (Qa (mk1 ⟨#[115,117,110]⟩ Qr8 i) q))
 obtain⟨k,h⟩|⟨k,h⟩:=io h
 ·cases h;exact rfO 0 (o [.el Qsc,.ix (-9),b1]) (Qa (mk1 ⟨#[102,105,108,108]⟩ Qsc k) q)
 obtain⟨t,h⟩|⟨t,h⟩:=io h
 ·cases h;exact rfO 0 (o [.el Qsb,.ix (-9),b1]) (Qa (mk1 ⟨#[100,114,97,105,110]⟩ Qsb t) q)
 obtain⟨y,h⟩|⟨y,h⟩:=io h
 ·have⟨t16,z,h⟩:=bo h;cases h;exact rfO 0 (o [.el Qsa,.ix (-9),b1,.obj (some 0) (.d (.tup [])) (Qb a5 a6 t1 p s true t2.1 t2.2 b c t16 e) [true,true,false,false,false,false,false,false,false,true,true,true]]) (Qa (Gl z) (Qa (mk1 ⟨#[116,114,105,112]⟩ Qsa y) q))
 obtain⟨z,h⟩|⟨z,h⟩:=io h
 ·cases h;exact rfO 0 (o [.el Qr9,.ix (-9),b1]) (Qa (mk1 ⟨#[114,101,115,101,116]⟩ Qr9 z) q)
 obtain⟨J,h⟩|⟨J,h⟩:=io h
 ·have⟨t18,A,h⟩:=bo h;have⟨t19,u,h⟩:=bo h;have⟨t20,m,h⟩:=bo h;have⟨t21,h21,h⟩:=bo h;have⟨h22,h⟩:=gd h;cases h;exact rfO 0 (o [.el Qsf,.ix (-9),b1,.ret (.tup [.agg [I t18.1,I t18.2.1],I t18.2.2]),.el (Zy t19),.el (Q3 t20),.el (Q3 t21),b1]) (Qa (ro 102 h22) (allE Qi h21 (allE Qi m (allE Qr u (Qa (GT A) (Qa (mk1 ⟨#[111,102,102,101,114]⟩ Qsf J) q))))))
 obtain⟨A,h⟩|⟨A,h⟩:=io h
 ·have⟨t19,u,h⟩:=bo h;have⟨t20,m,h⟩:=bo h;have⟨t21,h21,h⟩:=bo h;have⟨h22,h⟩:=gd h;have⟨t23,h23,h⟩:=bo h;have⟨t24,h24,h⟩:=bo h;have⟨h25,h⟩:=gd h;have⟨h26,h⟩:=gd h;have⟨h27,h⟩:=gd h;cases h;exact rfO 0 (o [.el Qsi,.ix (-9),b1,.el (Zy t19),.ix (-9),b1,.obj (some 0) (.d (.lst false 1 t20)) (Qb a5 a6 t1 p s f t2.1 t2.2 b c j e) ZV,.ret (I t21),b1,.el (Q7 t23),.el (Q3 t24),.el (Q7 t23),.el (Q3 t24)]) (Qa h27 (Qa h26 (allE Qi h24 (Qa (QX Q0 h23) (Qa h25 (allE Qi h24 (Qa (QX Q0 h23) (Qa h22 (Qa (QK h21) (Qa (QC m) (allE Qr u (Qa (mk1 ⟨#[100,101,108,105,118,101,114]⟩ Qsi A) q))))))))))))
 obtain⟨u,h⟩|⟨u,h⟩:=io h
 ·have⟨t20,m,h⟩:=bo h;have⟨t21,h21,h⟩:=bo h;have⟨t22,h22,h⟩:=bo h;have⟨h23,h⟩:=gd h;have⟨t24,h24,h⟩:=bo h;have⟨t25,h25,h⟩:=bo h;have⟨t26,h26,h⟩:=bo h;have⟨h27,h⟩:=gd h;cases h;exact rfO 0 (o [.el Qsj,.ix (-9),b1,.el (Zy t20),b1,.obj (some 0) (.d (.lst false 1 t21)) (Qb a5 a6 t1 p s f t2.1 t2.2 b c j e) ZV,.ret (I t22),b1,.el (Q7 t24),.el (Q7 t25),.ret (I t26)]) (Qa h27 (Qa (YN h26) (Qa (QX Q0 h25) (Qa (QX Q0 h24) (Qa h23 (Qa (QK h22) (Qa (QC h21) (allE Qr m (Qa (mk1 ⟨#[98,105,108,108]⟩ Qsj u) q)))))))))
 obtain⟨m,h⟩|⟨m,h⟩:=io h
 ·cases h;exact rfO 0 (o [.el Qsd,.ix (-9),b1]) (Qa (mk1 ⟨#[117,110,100,111]⟩ Qsd m) q)
 cases h
def Zm (n:Nat)(j:Int)(a1:jSj)(a2 a3:jVj)(a4:jSj)(a5 a6:jVj)(a7 k:Int)(l c:Bool)(d e f:Int)(g h i:jVj)(sa:(Unit)⊕Int×jRj):Option ((Unit⊕Int×jRj)⊕Unit⊕jRj):=match sa with|(.inl sa)=>(if 0<(((a6.take (Int.toNat (((a6).length:Int) - 1))):jVj).length:Int) then if(0:Int)<=0/\0<(((a6.take (Int.toNat (((a6).length:Int) - 1))):jVj).length:Int) then((nth ((a6.take (Int.toNat (((a6).length:Int) - 1))):jVj) 0).bind Ze).bind fun b=>(Qz n b.1 b.2.1 b.2.2.1 b.2.2.2.1 b.2.2.2.2 0 0 false false 0 0 0 ([]) ([]) ([])).bind fun a=>some (.inl (.inr (1,a.1,a.2.1,a.2.2.1,a.2.2.2.1,a.2.2.2.2.1,a.2.2.2.2.2.1,a.2.2.2.2.2.2.1,a.2.2.2.2.2.2.2.1,a.2.2.2.2.2.2.2.2.1,a.2.2.2.2.2.2.2.2.2))) else none else some (.inr (.inl ())))|.inr sa=>(if sa.1<(((a6.take (Int.toNat (((a6).length:Int) - 1))):jVj).length:Int) then if 0<=sa.1/\sa.1<(((a6.take (Int.toNat (((a6).length:Int) - 1))):jVj).length:Int) then((nth ((a6.take (Int.toNat (((a6).length:Int) - 1))):jVj) (Int.toNat sa.1)).bind Ze).bind fun b=>(Qz n b.1 b.2.1 b.2.2.1 b.2.2.2.1 b.2.2.2.2 sa.2.1 sa.2.2.1 sa.2.2.2.1 sa.2.2.2.2.1 sa.2.2.2.2.2.1 sa.2.2.2.2.2.2.1 sa.2.2.2.2.2.2.2.1 sa.2.2.2.2.2.2.2.2.1 sa.2.2.2.2.2.2.2.2.2.1 sa.2.2.2.2.2.2.2.2.2.2).bind fun a=>if Qh (sa.1+1) then some (.inl (.inr ((sa.1+1),a.1,a.2.1,a.2.2.1,a.2.2.2.1,a.2.2.2.2.1,a.2.2.2.2.2.1,a.2.2.2.2.2.2.1,a.2.2.2.2.2.2.2.1,a.2.2.2.2.2.2.2.2.1,a.2.2.2.2.2.2.2.2.2))) else none else none else some (.inr (.inr (sa.2.1,sa.2.2.1,sa.2.2.2.1,sa.2.2.2.2.1,sa.2.2.2.2.2.1,sa.2.2.2.2.2.2.1,sa.2.2.2.2.2.2.2.1,sa.2.2.2.2.2.2.2.2.1,sa.2.2.2.2.2.2.2.2.2.1,sa.2.2.2.2.2.2.2.2.2.2))))
abbrev Qr6:D:=jZj
noncomputable def GZ (a:Int)(a1:jSj)(a2 a3:jVj)(a4:jSj)(a5 a6:jVj)(a7 k:Int)(l b:Bool)(c f g:Int)(h i j:jVj):Lp (Unit⊕Int×jRj) (Unit⊕jRj):=⟨fun
 | (.inl sa)=>[(2,.ptr 83 0 0 0 0),(3,.ptr 84 0 0 0 0),(6,.own 2 1),(7,.d (I (((a6.take (Int.toNat (((a6).length:Int) - 1))):jVj).length:Int))),(8,.d (I 0))]
 | (.inr sa)=>[(2,.ptr 83 0 0 0 0),(3,.ptr 84 0 0 0 0),(6,.own 2 1),(7,.d (I (((a6.take (Int.toNat (((a6).length:Int) - 1))):jVj).length:Int))),(8,.d (I sa.1))],fun
 | (.inl sa)=>[(0,.box (.agg [.own 1 1,.own 2 1,.d (I a7),.d (I k),.d (B l),.d (B b),.d (I c),.d (I f),.d (I g),.own 10 0,.own 11 0,.own 12 0])),(1,.row 1 5 (a5++([.agg [I a,Qr5 a1,.lst false 1 (a2.take ((List.replicate (Int.toNat ((a2).length:Int)) (Qr5 ⟨#[]⟩:D)):jVj).length++(List.replicate (Int.toNat ((a2).length:Int)) (Qr5 ⟨#[]⟩:D)).drop (a2).length),.lst false 1 (a3.take ((List.replicate (Int.toNat ((a3).length:Int)) (I 0:D)):jVj).length++(List.replicate (Int.toNat ((a3).length:Int)) (I 0:D)).drop (a3).length),Qr5 a4]]:jVj))),(2,.row 1 5 (a6.take (Int.toNat (((a6).length:Int) - 1)))),(10,.row 0 1 h),(11,.row 0 6 i),(12,.row 0 7 j),(13,.box (.agg [.d (I a),.d (Qr5 a1),.own 22 0,.own 26 0,.d (Qr5 a4)])),(17,.box (.agg [.d (I a),.d (Qr5 a1),.own 22 0,.own 26 0,.d (Qr5 a4)])),(18,.box (.agg [.d (I a),.d (Qr5 a1),.own 22 0,.own 26 0,.d (Qr5 a4)])),(22,.frozen 0 1 (a2.take ((List.replicate (Int.toNat ((a2).length:Int)) (Qr5 ⟨#[]⟩:D)):jVj).length++(List.replicate (Int.toNat ((a2).length:Int)) (Qr5 ⟨#[]⟩:D)).drop (a2).length)),(26,.frozen 0 1 (a3.take ((List.replicate (Int.toNat ((a3).length:Int)) (I 0:D)):jVj).length++(List.replicate (Int.toNat ((a3).length:Int)) (I 0:D)).drop (a3).length)),(83,.box (.d Qr6)),(84,.box (.d Qr6))]
 | (.inr sa)=>[(0,.box (.agg [.own 1 1,.own 2 1,.d (I a7),.d (I k),.d (B l),.d (B b),.d (I c),.d (I f),.d (I g),.own 10 0,.own 11 0,.own 12 0])),(1,.row 1 5 (a5++([.agg [I a,Qr5 a1,.lst false 1 (a2.take ((List.replicate (Int.toNat ((a2).length:Int)) (Qr5 ⟨#[]⟩:D)):jVj).length++(List.replicate (Int.toNat ((a2).length:Int)) (Qr5 ⟨#[]⟩:D)).drop (a2).length),.lst false 1 (a3.take ((List.replicate (Int.toNat ((a3).length:Int)) (I 0:D)):jVj).length++(List.replicate (Int.toNat ((a3).length:Int)) (I 0:D)).drop (a3).length),Qr5 a4]]:jVj))),(2,.row 1 5 (a6.take (Int.toNat (((a6).length:Int) - 1)))),(10,.row 0 1 h),(11,.row 0 6 i),(12,.row 0 7 j),(13,.box (.agg [.d (I a),.d (Qr5 a1),.own 22 0,.own 26 0,.d (Qr5 a4)])),(17,.box (.agg [.d (I a),.d (Qr5 a1),.own 22 0,.own 26 0,.d (Qr5 a4)])),(18,.box (.agg [.d (I a),.d (Qr5 a1),.own 22 0,.own 26 0,.d (Qr5 a4)])),(22,.frozen 0 1 (a2.take ((List.replicate (Int.toNat ((a2).length:Int)) (Qr5 ⟨#[]⟩:D)):jVj).length++(List.replicate (Int.toNat ((a2).length:Int)) (Qr5 ⟨#[]⟩:D)).drop (a2).length)),(26,.frozen 0 1 (a3.take ((List.replicate (Int.toNat ((a3).length:Int)) (I 0:D)):jVj).length++(List.replicate (Int.toNat ((a3).length:Int)) (I 0:D)).drop (a3).length)),(83,.box (.d Qr6)),(84,.box (.agg [.d (I sa.2.1),.d (I sa.2.2.1),.d (B sa.2.2.2.1),.d (B sa.2.2.2.2.1),.d (I sa.2.2.2.2.2.1),.d (I sa.2.2.2.2.2.2.1),.d (I sa.2.2.2.2.2.2.2.1),.own 102 0,.own 103 0,.own 104 0])),(102,.row 0 1 sa.2.2.2.2.2.2.2.2.1),(103,.row 0 6 sa.2.2.2.2.2.2.2.2.2.1),(104,.row 0 7 sa.2.2.2.2.2.2.2.2.2.2)],fun _=>(.exit 0),fun _=>[(2,.ptr 83 0 0 0 0),(3,.ptr 84 0 0 0 0)],fun
 | (.inl e)=>[(0,.box (.agg [.own 1 1,.own 2 1,.d (I a7),.d (I k),.d (B l),.d (B b),.d (I c),.d (I f),.d (I g),.own 10 0,.own 11 0,.own 12 0])),(1,.row 1 5 (a5++([.agg [I a,Qr5 a1,.lst false 1 (a2.take ((List.replicate (Int.toNat ((a2).length:Int)) (Qr5 ⟨#[]⟩:D)):jVj).length++(List.replicate (Int.toNat ((a2).length:Int)) (Qr5 ⟨#[]⟩:D)).drop (a2).length),.lst false 1 (a3.take ((List.replicate (Int.toNat ((a3).length:Int)) (I 0:D)):jVj).length++(List.replicate (Int.toNat ((a3).length:Int)) (I 0:D)).drop (a3).length),Qr5 a4]]:jVj))),(2,.row 1 5 (a6.take (Int.toNat (((a6).length:Int) - 1)))),(10,.row 0 1 h),(11,.row 0 6 i),(12,.row 0 7 j),(13,.box (.agg [.d (I a),.d (Qr5 a1),.own 22 0,.own 26 0,.d (Qr5 a4)])),(17,.box (.agg [.d (I a),.d (Qr5 a1),.own 22 0,.own 26 0,.d (Qr5 a4)])),(18,.box (.agg [.d (I a),.d (Qr5 a1),.own 22 0,.own 26 0,.d (Qr5 a4)])),(22,.frozen 0 1 (a2.take ((List.replicate (Int.toNat ((a2).length:Int)) (Qr5 ⟨#[]⟩:D)):jVj).length++(List.replicate (Int.toNat ((a2).length:Int)) (Qr5 ⟨#[]⟩:D)).drop (a2).length)),(26,.frozen 0 1 (a3.take ((List.replicate (Int.toNat ((a3).length:Int)) (I 0:D)):jVj).length++(List.replicate (Int.toNat ((a3).length:Int)) (I 0:D)).drop (a3).length)),(83,.box (.d Qr6)),(84,.box (.d Qr6))]
 | (.inr e)=>[(0,.box (.agg [.own 1 1,.own 2 1,.d (I a7),.d (I k),.d (B l),.d (B b),.d (I c),.d (I f),.d (I g),.own 10 0,.own 11 0,.own 12 0])),(1,.row 1 5 (a5++([.agg [I a,Qr5 a1,.lst false 1 (a2.take ((List.replicate (Int.toNat ((a2).length:Int)) (Qr5 ⟨#[]⟩:D)):jVj).length++(List.replicate (Int.toNat ((a2).length:Int)) (Qr5 ⟨#[]⟩:D)).drop (a2).length),.lst false 1 (a3.take ((List.replicate (Int.toNat ((a3).length:Int)) (I 0:D)):jVj).length++(List.replicate (Int.toNat ((a3).length:Int)) (I 0:D)).drop (a3).length),Qr5 a4]]:jVj))),(2,.row 1 5 (a6.take (Int.toNat (((a6).length:Int) - 1)))),(10,.row 0 1 h),(11,.row 0 6 i),(12,.row 0 7 j),(13,.box (.agg [.d (I a),.d (Qr5 a1),.own 22 0,.own 26 0,.d (Qr5 a4)])),(17,.box (.agg [.d (I a),.d (Qr5 a1),.own 22 0,.own 26 0,.d (Qr5 a4)])),(18,.box (.agg [.d (I a),.d (Qr5 a1),.own 22 0,.own 26 0,.d (Qr5 a4)])),(22,.frozen 0 1 (a2.take ((List.replicate (Int.toNat ((a2).length:Int)) (Qr5 ⟨#[]⟩:D)):jVj).length++(List.replicate (Int.toNat ((a2).length:Int)) (Qr5 ⟨#[]⟩:D)).drop (a2).length)),(26,.frozen 0 1 (a3.take ((List.replicate (Int.toNat ((a3).length:Int)) (I 0:D)):jVj).length++(List.replicate (Int.toNat ((a3).length:Int)) (I 0:D)).drop (a3).length)),(83,.box (.d Qr6)),(84,.box (.agg [.d (I e.1),.d (I e.2.1),.d (B e.2.2.1),.d (B e.2.2.2.1),.d (I e.2.2.2.2.1),.d (I e.2.2.2.2.2.1),.d (I e.2.2.2.2.2.2.1),.own 102 0,.own 103 0,.own 104 0])),(102,.row 0 1 e.2.2.2.2.2.2.2.1),(103,.row 0 6 e.2.2.2.2.2.2.2.2.1),(104,.row 0 7 e.2.2.2.2.2.2.2.2.2)]⟩
theorem Ul {n k a1 a2 a3 a4 a5 a6 a7 l m b c e f g i j}(sa)(r)(h:Zm n k a1 a2 a3 a4 a5 a6 a7 l m b c e f g i j sa=some r):Rl (ZJ cx.P 23 0) 16 83 false (GZ k a1 a2 a3 a4 a5 a6 a7 l m b c e f g i j) sa r:=by
 unfold Zm at h;obtain sa|sa:=sa
 ·obtain⟨a,h⟩|⟨a,h⟩:=io h
  ·have⟨ha2,h⟩:=gd h;have⟨ta3,ha3,h⟩:=bo h;have⟨ta4,ha4,h⟩:=bo h;cases h;exact rn 88 [b1,b1,.el (QP ta3),.obj (some 84) (.d (.tup [])) (QJ' ta4) []] [] [2,3,6,7,8] [0,1,2,10,11,12,13,17,18,22,26,83,84,102,103,104] (Qa ((by unfold Qh;omega):Qh 1) (Qa (Uh ha4) (Qa (QX Ql ha3) (Qa ha2 (Qa (jDj a) QL)))))
  cases h;exact rx 88 [b0] [] [2,3] [0,1,2,10,11,12,13,17,18,22,26,83,84] (Qa (jEj a) QL)
 ·obtain⟨a,h⟩|⟨a,h⟩:=io h
  ·have⟨ha2,h⟩:=gd h;have⟨ta3,ha3,h⟩:=bo h;have⟨ta4,ha4,h⟩:=bo h;have⟨ha5,h⟩:=gd h;cases h;exact rn 105 [b1,b1,.el (QP ta3),.obj (some 84) (.d (.tup [])) (QJ' ta4) []] [] [2,3,6,7,8] [0,1,2,10,11,12,13,17,18,22,26,83,84,102,103,104] (Qa ha5 (Qa (Uh ha4) (Qa (QX Ql ha3) (Qa ha2 (Qa (jDj a) QL)))))
  cases h;exact rx 105 [b0] [] [2,3] [0,1,2,10,11,12,13,17,18,22,26,83,84,102,103,104] (Qa (jEj a) QL)
def WO (n:Nat)(c:Int)(a1:jSj)(a2 a3:jVj)(a4:jSj)(a5 a6:jVj)(a7 k:Int)(l d:Bool)(e f g:Int)(h i j:jVj):Option (jVj×jVj×jRj) := if 0<=((a2).length:Int)/\((a2).length:Int)<=((a2).length:Int)/\16*((a2).length:Int)<=281474976710656/\((a2).length:Int)<=9223372036854775807 then if 0<=((a3).length:Int)/\((a3).length:Int)<=((a3).length:Int)/\8*((a3).length:Int)<=281474976710656/\((a3).length:Int)<=9223372036854775807 then if Wa 88 ((a5).length+1) then if(a1.toList==(⟨#[117,110,100,111]⟩:jSj).toList)=true then if Qh (((a6).length:Int) - 1) then if 0<=(((a6).length:Int) - 1)/\(((a6).length:Int) - 1)<=((a6).length:Int) then(Q2 (Zm n c a1 a2 a3 a4 a5 a6 a7 k l d e f g h i j) n (.inl ())).bind fun a=>match a with|.inl a=>(some ((a5++([.agg [I c,.v (.string a1),.lst false 1 (a2.take ((List.replicate (Int.toNat ((a2).length:Int)) (.v (.string ⟨#[]⟩):D)):jVj).length++(List.replicate (Int.toNat ((a2).length:Int)) (.v (.string ⟨#[]⟩):D)).drop (a2).length),.lst false 1 (a3.take ((List.replicate (Int.toNat ((a3).length:Int)) (I 0:D)):jVj).length++(List.replicate (Int.toNat ((a3).length:Int)) (I 0:D)).drop (a3).length),.v (.string a4)]]:jVj)),(a6.take (Int.toNat (((a6).length:Int) - 1))),0,0,false,false,0,0,0,[],[],[]))|.inr a=>(some ((a5++([.agg [I c,.v (.string a1),.lst false 1 (a2.take ((List.replicate (Int.toNat ((a2).length:Int)) (.v (.string ⟨#[]⟩):D)):jVj).length++(List.replicate (Int.toNat ((a2).length:Int)) (.v (.string ⟨#[]⟩):D)).drop (a2).length),.lst false 1 (a3.take ((List.replicate (Int.toNat ((a3).length:Int)) (I 0:D)):jVj).length++(List.replicate (Int.toNat ((a3).length:Int)) (I 0:D)).drop (a3).length),.v (.string a4)]]:jVj)),(a6.take (Int.toNat (((a6).length:Int) - 1))),a.1,a.2.1,a.2.2.1,a.2.2.2.1,a.2.2.2.2.1,a.2.2.2.2.2.1,a.2.2.2.2.2.2.1,a.2.2.2.2.2.2.2.1,a.2.2.2.2.2.2.2.2.1,a.2.2.2.2.2.2.2.2.2)) else none else none else if Wa 88 ((a6).length+1) then(Qy n c a1 (a2.take ((List.replicate (Int.toNat ((a2).length:Int)) (.v (.string ⟨#[]⟩):D)):jVj).length++(List.replicate (Int.toNat ((a2).length:Int)) (.v (.string ⟨#[]⟩):D)).drop (a2).length) (a3.take ((List.replicate (Int.toNat ((a3).length:Int)) (I 0:D)):jVj).length++(List.replicate (Int.toNat ((a3).length:Int)) (I 0:D)).drop (a3).length) a4 (a5++([.agg [I c,.v (.string a1),.lst false 1 (a2.take ((List.replicate (Int.toNat ((a2).length:Int)) (.v (.string ⟨#[]⟩):D)):jVj).length++(List.replicate (Int.toNat ((a2).length:Int)) (.v (.string ⟨#[]⟩):D)).drop (a2).length),.lst false 1 (a3.take ((List.replicate (Int.toNat ((a3).length:Int)) (I 0:D)):jVj).length++(List.replicate (Int.toNat ((a3).length:Int)) (I 0:D)).drop (a3).length),.v (.string a4)]]:jVj)) (a6++([.agg [I c,.v (.string a1),.lst false 1 (a2.take ((List.replicate (Int.toNat ((a2).length:Int)) (.v (.string ⟨#[]⟩):D)):jVj).length++(List.replicate (Int.toNat ((a2).length:Int)) (.v (.string ⟨#[]⟩):D)).drop (a2).length),.lst false 1 (a3.take ((List.replicate (Int.toNat ((a3).length:Int)) (I 0:D)):jVj).length++(List.replicate (Int.toNat ((a3).length:Int)) (I 0:D)).drop (a3).length),.v (.string a4)]]:jVj)) a7 k l d e f g h i j).bind fun b=>some ((a5++([.agg [I c,.v (.string a1),.lst false 1 (a2.take ((List.replicate (Int.toNat ((a2).length:Int)) (.v (.string ⟨#[]⟩):D)):jVj).length++(List.replicate (Int.toNat ((a2).length:Int)) (.v (.string ⟨#[]⟩):D)).drop (a2).length),.lst false 1 (a3.take ((List.replicate (Int.toNat ((a3).length:Int)) (I 0:D)):jVj).length++(List.replicate (Int.toNat ((a3).length:Int)) (I 0:D)).drop (a3).length),.v (.string a4)]]:jVj)),(a6++([.agg [I c,.v (.string a1),.lst false 1 (a2.take ((List.replicate (Int.toNat ((a2).length:Int)) (.v (.string ⟨#[]⟩):D)):jVj).length++(List.replicate (Int.toNat ((a2).length:Int)) (.v (.string ⟨#[]⟩):D)).drop (a2).length),.lst false 1 (a3.take ((List.replicate (Int.toNat ((a3).length:Int)) (I 0:D)):jVj).length++(List.replicate (Int.toNat ((a3).length:Int)) (I 0:D)).drop (a3).length),.v (.string a4)]]:jVj)),b.1,b.2.1,b.2.2.1,b.2.2.2.1,b.2.2.2.2.1,b.2.2.2.2.2.1,b.2.2.2.2.2.2.1,b.2.2.2.2.2.2.2.1,b.2.2.2.2.2.2.2.2.1,b.2.2.2.2.2.2.2.2.2) else none else none else none else none
theorem Kf {n b a1 a2 a3 a4 a5 a6 a7 m p c e f g i j k r}(h:WO n b a1 a2 a3 a4 a5 a6 a7 m p c e f g i j k=some r):ComputesO cx 29 [.ptr 0 0 0 0 0,.d (.agg [I b,Qr5 a1,.lst false 1 a2,.lst false 1 a3,Qr5 a4])] (some (Qb a5 a6 a7 m p c e f g i j k)) (.d (.tup [])) (Qb' r) []:=by
 unfold WO at h;have⟨h1,h⟩:=gd h;have⟨h2,h⟩:=gd h;have⟨h3,h⟩:=gd h;have q:=Qa (ro 52 h3) (Qa h2 (Qa h1 QL));let o(l:jOj):=b1::b1::b1::b1::l;obtain⟨s,h⟩|⟨s,h⟩:=io h
 ·have⟨h5,h⟩:=gd h;have⟨h6,h⟩:=gd h;have q:=Qa h6 (Qa h5 (Qa s q));let o l:=o (b1::.ix 0::b1::b1::l);have⟨a,h7,h⟩:=bo h;obtain a|a:=a
  ·cases h;exact rfO 0 (o [.lp [] [2,3,6,7,8] [0,1,2,10,11,12,13,17,18,22,26,83,84] (.exit 0) [(2,.ptr 83 0 0 0 0),(3,.ptr 84 0 0 0 0)] [(0,.box (.agg [.own 1 1,.own 2 1,.d (I a7),.d (I m),.d (B p),.d (B c),.d (I e),.d (I f),.d (I g),.own 10 0,.own 11 0,.own 12 0])),(1,.row 1 5 (a5++([.agg [I b,Qr5 a1,.lst false 1 (a2.take ((List.replicate (Int.toNat ((a2).length:Int)) (Qr5 ⟨#[]⟩:D)):jVj).length++(List.replicate (Int.toNat ((a2).length:Int)) (Qr5 ⟨#[]⟩:D)).drop (a2).length),.lst false 1 (a3.take ((List.replicate (Int.toNat ((a3).length:Int)) (I 0:D)):jVj).length++(List.replicate (Int.toNat ((a3).length:Int)) (I 0:D)).drop (a3).length),Qr5 a4]]:jVj))),(2,.row 1 5 (a6.take (Int.toNat (((a6).length:Int) - 1)))),(10,.row 0 1 i),(11,.row 0 6 j),(12,.row 0 7 k),(13,.box (.agg [.d (I b),.d (Qr5 a1),.own 22 0,.own 26 0,.d (Qr5 a4)])),(17,.box (.agg [.d (I b),.d (Qr5 a1),.own 22 0,.own 26 0,.d (Qr5 a4)])),(18,.box (.agg [.d (I b),.d (Qr5 a1),.own 22 0,.own 26 0,.d (Qr5 a4)])),(22,.frozen 0 1 (a2.take ((List.replicate (Int.toNat ((a2).length:Int)) (Qr5 ⟨#[]⟩:D)):jVj).length++(List.replicate (Int.toNat ((a2).length:Int)) (Qr5 ⟨#[]⟩:D)).drop (a2).length)),(26,.frozen 0 1 (a3.take ((List.replicate (Int.toNat ((a3).length:Int)) (I 0:D)):jVj).length++(List.replicate (Int.toNat ((a3).length:Int)) (I 0:D)).drop (a3).length)),(83,.box (.d Qr6)),(84,.box (.d Qr6))] 135]) (Qa (QH Ul h7) q)
  cases h;exact rfO 0 (o [.lp [] [2,3,6,7,8] [0,1,2,10,11,12,13,17,18,22,26,83,84] (.exit 0) [(2,.ptr 83 0 0 0 0),(3,.ptr 84 0 0 0 0)] [(0,.box (.agg [.own 1 1,.own 2 1,.d (I a7),.d (I m),.d (B p),.d (B c),.d (I e),.d (I f),.d (I g),.own 10 0,.own 11 0,.own 12 0])),(1,.row 1 5 (a5++([.agg [I b,Qr5 a1,.lst false 1 (a2.take ((List.replicate (Int.toNat ((a2).length:Int)) (Qr5 ⟨#[]⟩:D)):jVj).length++(List.replicate (Int.toNat ((a2).length:Int)) (Qr5 ⟨#[]⟩:D)).drop (a2).length),.lst false 1 (a3.take ((List.replicate (Int.toNat ((a3).length:Int)) (I 0:D)):jVj).length++(List.replicate (Int.toNat ((a3).length:Int)) (I 0:D)).drop (a3).length),Qr5 a4]]:jVj))),(2,.row 1 5 (a6.take (Int.toNat (((a6).length:Int) - 1)))),(10,.row 0 1 i),(11,.row 0 6 j),(12,.row 0 7 k),(13,.box (.agg [.d (I b),.d (Qr5 a1),.own 22 0,.own 26 0,.d (Qr5 a4)])),(17,.box (.agg [.d (I b),.d (Qr5 a1),.own 22 0,.own 26 0,.d (Qr5 a4)])),(18,.box (.agg [.d (I b),.d (Qr5 a1),.own 22 0,.own 26 0,.d (Qr5 a4)])),(22,.frozen 0 1 (a2.take ((List.replicate (Int.toNat ((a2).length:Int)) (Qr5 ⟨#[]⟩:D)):jVj).length++(List.replicate (Int.toNat ((a2).length:Int)) (Qr5 ⟨#[]⟩:D)).drop (a2).length)),(26,.frozen 0 1 (a3.take ((List.replicate (Int.toNat ((a3).length:Int)) (I 0:D)):jVj).length++(List.replicate (Int.toNat ((a3).length:Int)) (I 0:D)).drop (a3).length)),(83,.box (.d Qr6)),(84,.box (.agg [.d (I a.1),.d (I a.2.1),.d (B a.2.2.1),.d (B a.2.2.2.1),.d (I a.2.2.2.2.1),.d (I a.2.2.2.2.2.1),.d (I a.2.2.2.2.2.2.1),.own 102 0,.own 103 0,.own 104 0])),(102,.row 0 1 a.2.2.2.2.2.2.2.1),(103,.row 0 6 a.2.2.2.2.2.2.2.2.1),(104,.row 0 7 a.2.2.2.2.2.2.2.2.2)] 135]) (Qa (QH Ul h7) q)
 have⟨h5,h⟩:=gd h;have⟨t6,h6,h⟩:=bo h;cases h;exact rfO 0 (o [b0,b1,.ix (-9),.obj (some 0) (.d (.tup [])) (Qb (a5++([.agg [I b,Qr5 a1,.lst false 1 (a2.take ((List.replicate (Int.toNat ((a2).length:Int)) (Qr5 ⟨#[]⟩:D)):jVj).length++(List.replicate (Int.toNat ((a2).length:Int)) (Qr5 ⟨#[]⟩:D)).drop (a2).length),.lst false 1 (a3.take ((List.replicate (Int.toNat ((a3).length:Int)) (I 0:D)):jVj).length++(List.replicate (Int.toNat ((a3).length:Int)) (I 0:D)).drop (a3).length),Qr5 a4]]:jVj)) (a6++([.agg [I b,Qr5 a1,.lst false 1 (a2.take ((List.replicate (Int.toNat ((a2).length:Int)) (Qr5 ⟨#[]⟩:D)):jVj).length++(List.replicate (Int.toNat ((a2).length:Int)) (Qr5 ⟨#[]⟩:D)).drop (a2).length),.lst false 1 (a3.take ((List.replicate (Int.toNat ((a3).length:Int)) (I 0:D)):jVj).length++(List.replicate (Int.toNat ((a3).length:Int)) (I 0:D)).drop (a3).length),Qr5 a4]]:jVj)) t6.1 t6.2.1 t6.2.2.1 t6.2.2.2.1 t6.2.2.2.2.1 t6.2.2.2.2.2.1 t6.2.2.2.2.2.2.1 t6.2.2.2.2.2.2.2.1 t6.2.2.2.2.2.2.2.2.1 t6.2.2.2.2.2.2.2.2.2) [true,true]]) (Qa (J1 h6) (Qa (ro 52 h5) (Qa (QA s) q)))
def QR (n:Nat)(e:jVj)(sa:(Unit)⊕Int×Int×Int×Bool×Bool×Int×Int×Int×jVj×jVj×jVj×jVj×jVj):Option ((Unit⊕Int×Int×Int×Bool×Bool×Int×Int×Int×jVj×jVj×jVj×jVj×jVj)⊕Int×Int×Int×Int×Bool×Bool×Int×Int×Int×jVj×jVj×jVj×jVj×jVj⊕Int⊕Unit⊕Int×Int×Bool×Bool×Int×Int×Int×jVj×jVj×jVj×jVj×jVj):=match sa with|(.inl sa)=>(if 0<((e).length:Int) then(el Ze e 0).bind fun a=>(WX n a.1 a.2.1 a.2.2.1 a.2.2.2.1 a.2.2.2.2).bind fun c=>if c=0 then(Qs n a.1 a.2.1 a.2.2.1 a.2.2.2.1 a.2.2.2.2 ([]) ([]) 0 0 false false 0 0 0 ([]) ([]) ([])).bind fun d=>if d=0 then(WO n a.1 a.2.1 a.2.2.1 a.2.2.2.1 a.2.2.2.2 ([]) ([]) 0 0 false false 0 0 0 ([]) ([]) ([])).bind fun b=>some (.inl (.inr (1,b.2.2.1,b.2.2.2.1,b.2.2.2.2.1,b.2.2.2.2.2.1,b.2.2.2.2.2.2.1,b.2.2.2.2.2.2.2.1,b.2.2.2.2.2.2.2.2.1,b.1,b.2.1,b.2.2.2.2.2.2.2.2.2.1,b.2.2.2.2.2.2.2.2.2.2.1,b.2.2.2.2.2.2.2.2.2.2.2))) else some (.inr (.inl (1,d,0,0,false,false,0,0,0,[],[],[],[],[]))) else some (.inr (.inr (.inl c))) else some (.inr (.inr (.inr (.inl ())))))|.inr sa=>(if sa.1<((e).length:Int) then(el Ze e sa.1).bind fun a=>(WX n a.1 a.2.1 a.2.2.1 a.2.2.2.1 a.2.2.2.2).bind fun c=>if c=0 then(Qs n a.1 a.2.1 a.2.2.1 a.2.2.2.1 a.2.2.2.2 sa.2.2.2.2.2.2.2.2.1 sa.2.2.2.2.2.2.2.2.2.1 sa.2.1 sa.2.2.1 sa.2.2.2.1 sa.2.2.2.2.1 sa.2.2.2.2.2.1 sa.2.2.2.2.2.2.1 sa.2.2.2.2.2.2.2.1 sa.2.2.2.2.2.2.2.2.2.2.1 sa.2.2.2.2.2.2.2.2.2.2.2.1 sa.2.2.2.2.2.2.2.2.2.2.2.2).bind fun d=>if d=0 then(WO n a.1 a.2.1 a.2.2.1 a.2.2.2.1 a.2.2.2.2 sa.2.2.2.2.2.2.2.2.1 sa.2.2.2.2.2.2.2.2.2.1 sa.2.1 sa.2.2.1 sa.2.2.2.1 sa.2.2.2.2.1 sa.2.2.2.2.2.1 sa.2.2.2.2.2.2.1 sa.2.2.2.2.2.2.2.1 sa.2.2.2.2.2.2.2.2.2.2.1 sa.2.2.2.2.2.2.2.2.2.2.2.1 sa.2.2.2.2.2.2.2.2.2.2.2.2).bind fun b=>if Qh (sa.1+1) then some (.inl (.inr ((sa.1+1),b.2.2.1,b.2.2.2.1,b.2.2.2.2.1,b.2.2.2.2.2.1,b.2.2.2.2.2.2.1,b.2.2.2.2.2.2.2.1,b.2.2.2.2.2.2.2.2.1,b.1,b.2.1,b.2.2.2.2.2.2.2.2.2.1,b.2.2.2.2.2.2.2.2.2.2.1,b.2.2.2.2.2.2.2.2.2.2.2))) else none else if Qh (sa.1+1) then some (.inr (.inl ((sa.1+1),d,sa.2.1,sa.2.2.1,sa.2.2.2.1,sa.2.2.2.2.1,sa.2.2.2.2.2.1,sa.2.2.2.2.2.2.1,sa.2.2.2.2.2.2.2.1,sa.2.2.2.2.2.2.2.2.1,sa.2.2.2.2.2.2.2.2.2.1,sa.2.2.2.2.2.2.2.2.2.2.1,sa.2.2.2.2.2.2.2.2.2.2.2.1,sa.2.2.2.2.2.2.2.2.2.2.2.2))) else none else if Qh (sa.1+1) then some (.inr (.inl ((sa.1+1),c,sa.2.1,sa.2.2.1,sa.2.2.2.1,sa.2.2.2.2.1,sa.2.2.2.2.2.1,sa.2.2.2.2.2.2.1,sa.2.2.2.2.2.2.2.1,sa.2.2.2.2.2.2.2.2.1,sa.2.2.2.2.2.2.2.2.2.1,sa.2.2.2.2.2.2.2.2.2.2.1,sa.2.2.2.2.2.2.2.2.2.2.2.1,sa.2.2.2.2.2.2.2.2.2.2.2.2))) else none else some (.inr (.inr (.inr (.inr (sa.2.1,sa.2.2.1,sa.2.2.2.1,sa.2.2.2.2.1,sa.2.2.2.2.2.1,sa.2.2.2.2.2.2.1,sa.2.2.2.2.2.2.2.1,sa.2.2.2.2.2.2.2.2.1,sa.2.2.2.2.2.2.2.2.2.1,sa.2.2.2.2.2.2.2.2.2.2.1,sa.2.2.2.2.2.2.2.2.2.2.2.1,sa.2.2.2.2.2.2.2.2.2.2.2.2))))))
abbrev Qsq:D:=.agg [.lst true 0 [],.lst true 0 [],I 0,I 0,B false,B false,I 0,I 0,I 0,.lst true 0 [],.lst true 0 [],.lst true 0 []]
noncomputable def X4 (a:jVj):Lp (Unit⊕Int×Int×Int×Bool×Bool×Int×Int×Int×jVj×jVj×jVj×jVj×jVj) (Int×Int×Int×Int×Bool×Bool×Int×Int×Int×jVj×jVj×jVj×jVj×jVj⊕Int⊕Unit⊕Int×Int×Bool×Bool×Int×Int×Int×jVj×jVj×jVj×jVj×jVj):=⟨fun
 | (.inl sa)=>[(5,.ptr 4 0 0 0 0),(15,.d (.lst false 5 a)),(16,.d (I ((a).length:Int))),(17,.d (I 0))]
 | (.inr sa)=>[(5,.ptr 4 0 0 0 0),(15,.d (.lst false 5 a)),(16,.d (I ((a).length:Int))),(17,.d (I sa.1))],fun
 | (.inl sa)=>[(4,.box (.d Qsq))]
 | (.inr sa)=>[(4,.box (.agg [.own 28 0,.own 29 0,.d (I sa.2.1),.d (I sa.2.2.1),.d (B sa.2.2.2.1),.d (B sa.2.2.2.2.1),.d (I sa.2.2.2.2.2.1),.d (I sa.2.2.2.2.2.2.1),.d (I sa.2.2.2.2.2.2.2.1),.own 37 0,.own 38 0,.own 39 0])),(28,.row 0 5 sa.2.2.2.2.2.2.2.2.1),(29,.row 0 5 sa.2.2.2.2.2.2.2.2.2.1),(37,.row 0 1 sa.2.2.2.2.2.2.2.2.2.2.1),(38,.row 0 6 sa.2.2.2.2.2.2.2.2.2.2.2.1),(39,.row 0 7 sa.2.2.2.2.2.2.2.2.2.2.2.2)],fun
 | (.inl e)=>.ret
 | (.inr (.inl e))=>.ret
 | (.inr (.inr (.inl e)))=>(.exit 0)
 | (.inr (.inr (.inr e)))=>(.exit 0),fun
 | (.inl e)=>[(2,.ptr 4 0 0 0 0),(3,.d (I e.1)),(4,.d (I e.2.1))]
 | (.inr (.inl e))=>[(2,.ptr 4 0 0 0 0),(3,.d (I 1)),(4,.d (I e))]
 | (.inr (.inr (.inl e)))=>[(5,.ptr 4 0 0 0 0)]
 | (.inr (.inr (.inr e)))=>[(5,.ptr 4 0 0 0 0)],fun
 | (.inl e)=>[(4,.box (.agg [.own 28 0,.own 29 0,.d (I e.2.2.1),.d (I e.2.2.2.1),.d (B e.2.2.2.2.1),.d (B e.2.2.2.2.2.1),.d (I e.2.2.2.2.2.2.1),.d (I e.2.2.2.2.2.2.2.1),.d (I e.2.2.2.2.2.2.2.2.1),.own 37 0,.own 38 0,.own 39 0])),(28,.row 0 5 e.2.2.2.2.2.2.2.2.2.1),(29,.row 0 5 e.2.2.2.2.2.2.2.2.2.2.1),(37,.row 0 1 e.2.2.2.2.2.2.2.2.2.2.2.1),(38,.row 0 6 e.2.2.2.2.2.2.2.2.2.2.2.2.1),(39,.row 0 7 e.2.2.2.2.2.2.2.2.2.2.2.2.2)]
 | (.inr (.inl e))=>[(4,.box (.d Qsq))]
 | (.inr (.inr (.inl e)))=>[(4,.box (.d Qsq))]
 | (.inr (.inr (.inr e)))=>[(4,.box (.agg [.own 28 0,.own 29 0,.d (I e.1),.d (I e.2.1),.d (B e.2.2.1),.d (B e.2.2.2.1),.d (I e.2.2.2.2.1),.d (I e.2.2.2.2.2.1),.d (I e.2.2.2.2.2.2.1),.own 37 0,.own 38 0,.own 39 0])),(28,.row 0 5 e.2.2.2.2.2.2.2.1),(29,.row 0 5 e.2.2.2.2.2.2.2.2.1),(37,.row 0 1 e.2.2.2.2.2.2.2.2.2.1),(38,.row 0 6 e.2.2.2.2.2.2.2.2.2.2.1),(39,.row 0 7 e.2.2.2.2.2.2.2.2.2.2.2)]⟩
theorem VJ {n e}(sa)(r)(h:QR n e sa=some r):Rl (ZJ cx.P 17 0) 40 0 false (X4 e) sa r:=by
 unfold QR at h;obtain sa|sa:=sa
 ·obtain⟨b,h⟩|⟨b,h⟩:=io h
  ·have⟨ta2,ha2,h⟩:=bo h;have⟨ta3,ha3,h⟩:=bo h;have q:=Qa (Ja ha3) (allE Ql ha2 (Qa (jDj b) QL));let o(l:jOj):=b1::.el (QP ta2)::.ret (I ta3)::l;obtain⟨a,h⟩|⟨a,h⟩:=io h
   ·have⟨ta5,ha5,h⟩:=bo h;have q:=Qa (YZ ha5) (Qa (eqt a) q);let o l:=o (b1::.obj (some 4) (.d (I ta5)) (Qb ([]) ([]) 0 0 false false 0 0 0 ([]) ([]) ([])) ZV::l);obtain⟨c,h⟩|⟨c,h⟩:=io h
    ·have⟨ta7,ha7,h⟩:=bo h;cases h;exact rn 12 (o [b0,.obj (some 4) (.d (.tup [])) (Qb' ta7) []]) [] [5,15,16,17] [4,28,29,37,38,39] (Qa ((by unfold Qh;omega):Qh 1) (Qa (Kf ha7) (Qa (nef c) q)))
    cases h;exact rx 12 (o [b1]) [] [2,3,4] [4,28,29,37,38,39] (Qa ((by unfold Qh;omega):Qh 1) (Qa (net c) q))
   cases h;exact rx 12 (o [b0,b1]) [] [2,3,4] [4] (Qa ((by unfold Qh;omega):Qh 1) (Qa (net a) (Qa (eqf a) q)))
  cases h;exact rx 12 [b0] [] [5] [4] (Qa (jEj b) QL)
 ·obtain⟨b,h⟩|⟨b,h⟩:=io h
  ·have⟨ta2,ha2,h⟩:=bo h;have⟨ta3,ha3,h⟩:=bo h;have q:=Qa (Ja ha3) (allE Ql ha2 (Qa (jDj b) QL));let o(l:jOj):=b1::.el (QP ta2)::.ret (I ta3)::l;obtain⟨a,h⟩|⟨a,h⟩:=io h
   ·have⟨ta5,ha5,h⟩:=bo h;have q:=Qa (YZ ha5) (Qa (eqt a) q);let o l:=o (b1::.obj (some 4) (.d (I ta5)) (Qb sa.2.2.2.2.2.2.2.2.1 sa.2.2.2.2.2.2.2.2.2.1 sa.2.1 sa.2.2.1 sa.2.2.2.1 sa.2.2.2.2.1 sa.2.2.2.2.2.1 sa.2.2.2.2.2.2.1 sa.2.2.2.2.2.2.2.1 sa.2.2.2.2.2.2.2.2.2.2.1 sa.2.2.2.2.2.2.2.2.2.2.2.1 sa.2.2.2.2.2.2.2.2.2.2.2.2) ZV::l);obtain⟨c,h⟩|⟨c,h⟩:=io h
    ·have⟨ta7,ha7,h⟩:=bo h;have⟨ha8,h⟩:=gd h;cases h;exact rn 40 (o [b0,.obj (some 4) (.d (.tup [])) (Qb' ta7) []]) [] [5,15,16,17] [4,28,29,37,38,39] (Qa ha8 (Qa (Kf ha7) (Qa (nef c) q)))
    have⟨ha7,h⟩:=gd h;cases h;exact rx 40 (o [b1]) [] [2,3,4] [4,28,29,37,38,39] (Qa ha7 (Qa (net c) q))
   have⟨ha5,h⟩:=gd h;cases h;exact rx 40 (o [b0,b1]) [] [2,3,4] [4,28,29,37,38,39] (Qa ha5 (Qa (net a) (Qa (eqf a) q)))
  cases h;exact rx 40 [b0] [] [5] [4,28,29,37,38,39] (Qa (jEj b) QL)
def Q6 (n:Nat)(b:jVj):Option (Int×Int×jVj×jVj×jRj) := if((b).length:Int)>1000 then some (0,5,[],[],0,0,false,false,0,0,0,[],[],[]) else(Q2 (QR n b) n (.inl ())).bind fun a=>match a with|.inl a=>(some (a.1,a.2.1,a.2.2.2.2.2.2.2.2.2.1,a.2.2.2.2.2.2.2.2.2.2.1,a.2.2.1,a.2.2.2.1,a.2.2.2.2.1,a.2.2.2.2.2.1,a.2.2.2.2.2.2.1,a.2.2.2.2.2.2.2.1,a.2.2.2.2.2.2.2.2.1,a.2.2.2.2.2.2.2.2.2.2.2.1,a.2.2.2.2.2.2.2.2.2.2.2.2.1,a.2.2.2.2.2.2.2.2.2.2.2.2.2))|(.inr (.inl a))=>(some (1,a,[],[],0,0,false,false,0,0,0,[],[],[]))|(.inr (.inr (.inl a)))=>(some (0,0,[],[],0,0,false,false,0,0,0,[],[],[]))|(.inr (.inr (.inr a)))=>(some (0,0,a.2.2.2.2.2.2.2.1,a.2.2.2.2.2.2.2.2.1,a.1,a.2.1,a.2.2.1,a.2.2.2.1,a.2.2.2.2.1,a.2.2.2.2.2.1,a.2.2.2.2.2.2.1,a.2.2.2.2.2.2.2.2.2.1,a.2.2.2.2.2.2.2.2.2.2.1,a.2.2.2.2.2.2.2.2.2.2.2))
theorem We {n c r}(h:Q6 n c=some r):ComputesO cx 17 [.d (.lst false 5 c)] none (.tup [.ptr 0 0 0 0 0,.d (I r.1),.d (I r.2.1)]) (Qb' r.2.2) []:=by
 unfold Q6 at h;obtain⟨b,h⟩|⟨b,h⟩:=io h
 ·cases h;exact rfO 4 [b1] (Qa (jDj b) QL)
 have q:=Qa (jEj b) QL;have⟨a,h2,h⟩:=bo h;obtain a|a|a|a:=a
 ·cases h;exact rfO 4 [b0,.lp [] [5,15,16,17] [4] .ret [(2,.ptr 4 0 0 0 0),(3,.d (I a.1)),(4,.d (I a.2.1))] [(4,.box (.agg [.own 28 0,.own 29 0,.d (I a.2.2.1),.d (I a.2.2.2.1),.d (B a.2.2.2.2.1),.d (B a.2.2.2.2.2.1),.d (I a.2.2.2.2.2.2.1),.d (I a.2.2.2.2.2.2.2.1),.d (I a.2.2.2.2.2.2.2.2.1),.own 37 0,.own 38 0,.own 39 0])),(28,.row 0 5 a.2.2.2.2.2.2.2.2.2.1),(29,.row 0 5 a.2.2.2.2.2.2.2.2.2.2.1),(37,.row 0 1 a.2.2.2.2.2.2.2.2.2.2.2.1),(38,.row 0 6 a.2.2.2.2.2.2.2.2.2.2.2.2.1),(39,.row 0 7 a.2.2.2.2.2.2.2.2.2.2.2.2.2)] 86] (Qa (QH VJ h2) q)
 ·cases h;exact rfO 4 [b0,.lp [] [5,15,16,17] [4] .ret [(2,.ptr 4 0 0 0 0),(3,.d (I 1)),(4,.d (I a))] [(4,.box (.d Qsq))] 86] (Qa (QH VJ h2) q)
 ·cases h;exact rfO 4 [b0,.lp [] [5,15,16,17] [4] (.exit 0) [(5,.ptr 4 0 0 0 0)] [(4,.box (.d Qsq))] 86] (Qa (QH VJ h2) q)
 cases h;exact rfO 4 [b0,.lp [] [5,15,16,17] [4] (.exit 0) [(5,.ptr 4 0 0 0 0)] [(4,.box (.agg [.own 28 0,.own 29 0,.d (I a.1),.d (I a.2.1),.d (B a.2.2.1),.d (B a.2.2.2.1),.d (I a.2.2.2.2.1),.d (I a.2.2.2.2.2.1),.d (I a.2.2.2.2.2.2.1),.own 37 0,.own 38 0,.own 39 0])),(28,.row 0 5 a.2.2.2.2.2.2.2.1),(29,.row 0 5 a.2.2.2.2.2.2.2.2.1),(37,.row 0 1 a.2.2.2.2.2.2.2.2.2.1),(38,.row 0 6 a.2.2.2.2.2.2.2.2.2.2.1),(39,.row 0 7 a.2.2.2.2.2.2.2.2.2.2.2)] 86] (Qa (QH VJ h2) q)
def Yh (n:Nat)(e:jVj)(a1:Int):Option (Int×Int×Int) := (Q6 n e).bind fun a=>(ZE n a1 0 999999999).bind fun f=>(Qm n (decide (a1<a.2.2.2.2.1)) 22).bind fun g=>(Qo n ([I a.2.1,I f,I g])).bind fun b=>if b=0 then(Qp n a1 a.2.2.1 a.2.2.2.1 a.2.2.2.2.1 a.2.2.2.2.2.1 a.2.2.2.2.2.2.1 a.2.2.2.2.2.2.2.1 a.2.2.2.2.2.2.2.2.1 a.2.2.2.2.2.2.2.2.2.1 a.2.2.2.2.2.2.2.2.2.2.1 a.2.2.2.2.2.2.2.2.2.2.2.1 a.2.2.2.2.2.2.2.2.2.2.2.2.1 a.2.2.2.2.2.2.2.2.2.2.2.2.2).bind fun c=>if c=0 then(Q8 n a1 a.2.2.1 a.2.2.2.1 a.2.2.2.2.1 a.2.2.2.2.2.1 a.2.2.2.2.2.2.1 a.2.2.2.2.2.2.2.1 a.2.2.2.2.2.2.2.2.1 a.2.2.2.2.2.2.2.2.2.1 a.2.2.2.2.2.2.2.2.2.2.1 a.2.2.2.2.2.2.2.2.2.2.2.1 a.2.2.2.2.2.2.2.2.2.2.2.2.1 a.2.2.2.2.2.2.2.2.2.2.2.2.2).bind fun d=>some (d.1,d.2,0) else some (0,0,c) else some (0,0,b)
theorem Xw {n c a1 r}(h:Yh n c a1=some r):Computes cx 8 [.lst false 5 c,I a1] (.tup [.agg [I r.1,I r.2.1],I r.2.2]):=by
 unfold Yh at h;have⟨t1,h1,h⟩:=bo h;have⟨t2,h2,h⟩:=bo h;have⟨t3,h3,h⟩:=bo h;have⟨t4,h4,h⟩:=bo h;have q:=Qa (leF (Qx h4)) (Qa (Qu h3) (Qa (WK h2) (Qa (We h1) QL)));let o(l:jOj):=.obj none (.tup [.ptr 0 0 0 0 0,.d (I t1.1),.d (I t1.2.1)]) (Qb' t1.2.2) []::.ret (I t2)::.ret (I t3)::.ret (I t4)::l;obtain⟨a,h⟩|⟨a,h⟩:=io h
 ·have⟨t6,h6,h⟩:=bo h;have q:=Qa (Qv h6) (Qa (nef a) q);let o l:=o (b0::.obj (some 11) (.d (I t6)) (Qb' t1.2.2) ZV::l);obtain⟨b,h⟩|⟨b,h⟩:=io h
  ·have⟨t8,h8,h⟩:=bo h;cases h;exact rf (o [b0,.obj (some 11) (.d (.agg [I t8.1,I t8.2])) (Qb' t1.2.2) ZV]) (Qa (WA h8) (Qa (nef b) q))
  cases h;exact rf (o [b1]) (Qa (net b) q)
 cases h;exact rf (o [b1]) (Qa (net a) q)
def XE (n:Nat)(b:jVj):Option (Int×Int×Bool×Bool×Int×Int×Int×jVj×jVj×jVj×Int×Int) := (Q6 n b).bind fun a=>if a.2.1=0 then some (a.2.2.2.2.1,a.2.2.2.2.2.1,a.2.2.2.2.2.2.1,a.2.2.2.2.2.2.2.1,a.2.2.2.2.2.2.2.2.1,a.2.2.2.2.2.2.2.2.2.1,a.2.2.2.2.2.2.2.2.2.2.1,a.2.2.2.2.2.2.2.2.2.2.2.1,a.2.2.2.2.2.2.2.2.2.2.2.2.1,a.2.2.2.2.2.2.2.2.2.2.2.2.2,0,0) else some (0,0,false,false,0,0,0,[],[],[],a.1,a.2.1)
theorem jl {n b r}(h:XE n b=some r):Computes cx 9 [.lst false 5 b] (.tup [.agg [I r.1,I r.2.1,B r.2.2.1,B r.2.2.2.1,I r.2.2.2.2.1,I r.2.2.2.2.2.1,I r.2.2.2.2.2.2.1,.lst false 1 r.2.2.2.2.2.2.2.1,.lst false 6 r.2.2.2.2.2.2.2.2.1,.lst false 7 r.2.2.2.2.2.2.2.2.2.1],I r.2.2.2.2.2.2.2.2.2.2.1,I r.2.2.2.2.2.2.2.2.2.2.2]):=by
 unfold XE at h;have⟨t1,h1,h⟩:=bo h;have q:=Qa (We h1) QL;let o(l:jOj):=.obj none (.tup [.ptr 0 0 0 0 0,.d (I t1.1),.d (I t1.2.1)]) (Qb' t1.2.2) []::l;obtain⟨a,h⟩|⟨a,h⟩:=io h
 ·cases h;exact rf (o [b0]) (Qa (nef a) q)
 cases h;exact(rf (r:=.tup [jZj,I t1.1,I t1.2.1]) (o [b1]) (Qa (net a) q)).le (LEs.refl _) (.tups (.cons (.aggs (.cons (.refl _) (.cons (.refl _) (.cons (.refl _) (.cons (.refl _) (.cons (.refl _) (.cons (.refl _) (.cons (.refl _) (.cons (.nilF) (.cons (.nilF) (.cons (.nilF) (.nil)))))))))))) (.cons (.refl _) (.cons (.refl _) (.nil)))))
def Qfe (n:Nat)(b:jVj)(a1:Int)(a2:jSj)(a3 a4:jVj)(a5:jSj):Option (Int) := (Q6 n b).bind fun a=>(WX n a1 a2 a3 a4 a5).bind fun d=>(Qm n (decide (((b).length:Int)>=1000)) 5).bind fun e=>(Qo n ([I a.2.1,I d,I e])).bind fun c=>if c=0 then(Qs n a1 a2 a3 a4 a5 a.2.2.1 a.2.2.2.1 a.2.2.2.2.1 a.2.2.2.2.2.1 a.2.2.2.2.2.2.1 a.2.2.2.2.2.2.2.1 a.2.2.2.2.2.2.2.2.1 a.2.2.2.2.2.2.2.2.2.1 a.2.2.2.2.2.2.2.2.2.2.1 a.2.2.2.2.2.2.2.2.2.2.2.1 a.2.2.2.2.2.2.2.2.2.2.2.2.1 a.2.2.2.2.2.2.2.2.2.2.2.2.2).bind fun f=>some f else some c
theorem Qfx {n b a1 a2 a3 a4 a5 r}(h:Qfe n b a1 a2 a3 a4 a5=some r):Computes cx 11 [.lst false 5 b,.agg [I a1,Qr5 a2,.lst false 1 a3,.lst false 1 a4,Qr5 a5]] (I r):=by
 unfold Qfe at h;have⟨t1,h1,h⟩:=bo h;have⟨t2,h2,h⟩:=bo h;have⟨t3,h3,h⟩:=bo h;have⟨t4,h4,h⟩:=bo h;have q:=Qa (leF (Qx h4)) (Qa (Qu h3) (Qa (Ja h2) (Qa (We h1) QL)));let o(l:jOj):=.obj none (.tup [.ptr 0 0 0 0 0,.d (I t1.1),.d (I t1.2.1)]) (Qb' t1.2.2) []::.ret (I t2)::.ret (I t3)::.ret (I t4)::l;obtain⟨a,h⟩|⟨a,h⟩:=io h
 ·have⟨t6,h6,h⟩:=bo h;obtain rfl:=oi h;exact rf (o [b0,.obj (some 11) (.d (I t6)) (Qb' t1.2.2) ZV]) (Qa (YZ h6) (Qa (nef a) q))
 obtain rfl:=oi h;exact rf (o [b1]) (Qa (net a) q)
def Qe9 (n:Nat)(a1:Int)(b:Int×Int×jVj×jVj×jRj)(sa:(Int×jVj)):Option (Int×jVj⊕jVj) := if sa.1<((b.2.2.2.1).length:Int) then if 0<=sa.1/\sa.1<((b.2.2.2.1).length:Int) then((nth (b.2.2.2.1) (Int.toNat sa.1)).bind Ze).bind fun a=>(el Vt a.2.2.2.1 0).bind fun c=>if c<=a1 then if Wa 88 ((sa.2).length+1) then if Qh (sa.1+1) then some (.inl ((sa.1+1),(sa.2++([.agg [I a.1,.v (.string a.2.1),.lst false 1 a.2.2.1,.lst false 1 a.2.2.2.1,.v (.string a.2.2.2.2)]]:jVj)))) else none else none else if Qh (sa.1+1) then some (.inl ((sa.1+1),sa.2)) else none else none else some (.inr sa.2)
noncomputable def Qgi (a1:Int)(a:Int×Int×jVj×jVj×jRj):Lp (Int×jVj) (jVj):=⟨fun sa=>[(1,.fn (.func 25) [] [.ptr 0 0 0 0 0]),(5,.own 47 0),(8,.own 14 0),(9,.d (I ((a.2.2.2.1).length:Int))),(10,.d (I sa.1))],fun sa=>[(0,.box (.d (I a1))),(1,.box (.d Qr6)),(12,.box (.agg [.own 13 0,.own 14 0,.d (I a.2.2.2.2.1),.d (I a.2.2.2.2.2.1),.d (B a.2.2.2.2.2.2.1),.d (B a.2.2.2.2.2.2.2.1),.d (I a.2.2.2.2.2.2.2.2.1),.d (I a.2.2.2.2.2.2.2.2.2.1),.d (I a.2.2.2.2.2.2.2.2.2.2.1),.own 22 0,.own 23 0,.own 24 0])),(13,.row 0 5 a.2.2.1),(14,.row 0 5 a.2.2.2.1),(22,.row 0 1 a.2.2.2.2.2.2.2.2.2.2.2.1),(23,.row 0 6 a.2.2.2.2.2.2.2.2.2.2.2.2.1),(24,.row 0 7 a.2.2.2.2.2.2.2.2.2.2.2.2.2),(47,.row 0 5 sa.2)],fun _=>(.exit 0),fun _=>[(5,.own 47 0)],fun e=>[(0,.box (.d (I a1))),(1,.box (.d Qr6)),(12,.box (.agg [.own 13 0,.own 14 0,.d (I a.2.2.2.2.1),.d (I a.2.2.2.2.2.1),.d (B a.2.2.2.2.2.2.1),.d (B a.2.2.2.2.2.2.2.1),.d (I a.2.2.2.2.2.2.2.2.1),.d (I a.2.2.2.2.2.2.2.2.2.1),.d (I a.2.2.2.2.2.2.2.2.2.2.1),.own 22 0,.own 23 0,.own 24 0])),(13,.row 0 5 a.2.2.1),(14,.row 0 5 a.2.2.2.1),(22,.row 0 1 a.2.2.2.2.2.2.2.2.2.2.2.1),(23,.row 0 6 a.2.2.2.2.2.2.2.2.2.2.2.2.1),(24,.row 0 7 a.2.2.2.2.2.2.2.2.2.2.2.2.2),(47,.row 0 5 e)]⟩
theorem Qgc {n a1 c}(sa)(r)(h:Qe9 n a1 c sa=some r):Rl (ZJ cx.P 24 0) 23 42 false (Qgi a1 c) sa r:=by
 unfold Qe9 at h;obtain⟨a,h⟩|⟨a,h⟩:=io h
 ·have⟨ha2,h⟩:=gd h;have⟨ta3,ha3,h⟩:=bo h;have⟨ta4,ha4,h⟩:=bo h;have q:=allE Qi ha4 (Qa (QX Ql ha3) (Qa ha2 (Qa (jDj a) QL)));let o(l:jOj):=b1::b1::.el (QP ta3)::b1::.el (Q3 ta4)::l;obtain⟨b,h⟩|⟨b,h⟩:=io h
  ·have⟨ha6,h⟩:=gd h;have⟨ha7,h⟩:=gd h;cases h;exact rn 48 (o [b1,b1]) [] [1,5,8,9,10] [0,1,12,13,14,22,23,24,47] (Qa ha7 (Qa (ro 52 ha6) (Qa (jDj b) q)))
  have⟨ha6,h⟩:=gd h;cases h;exact rn 48 (o [b0]) [] [1,5,8,9,10] [0,1,12,13,14,22,23,24,47] (Qa ha6 (Qa (jEj b) q))
 cases h;exact rx 48 [b0] [] [5] [0,1,12,13,14,22,23,24,47] (Qa (jEj a) QL)
def Qe8 (n:Nat)(a1:Int)(d:Int×Int×jVj×jVj×jRj)(c:jVj)(sa:(Unit)⊕Int×jRj):Option ((Unit⊕Int×jRj)⊕Unit⊕jRj):=match sa with|(.inl sa)=>(if 0<((c).length:Int) then if(0:Int)<=0/\0<((c).length:Int) then((nth (c) 0).bind Ze).bind fun b=>(Qz n b.1 b.2.1 b.2.2.1 b.2.2.2.1 b.2.2.2.2 0 0 false false 0 0 0 ([]) ([]) ([])).bind fun a=>some (.inl (.inr (1,a.1,a.2.1,a.2.2.1,a.2.2.2.1,a.2.2.2.2.1,a.2.2.2.2.2.1,a.2.2.2.2.2.2.1,a.2.2.2.2.2.2.2.1,a.2.2.2.2.2.2.2.2.1,a.2.2.2.2.2.2.2.2.2))) else none else some (.inr (.inl ())))|.inr sa=>(if sa.1<((c).length:Int) then if 0<=sa.1/\sa.1<((c).length:Int) then((nth (c) (Int.toNat sa.1)).bind Ze).bind fun b=>(Qz n b.1 b.2.1 b.2.2.1 b.2.2.2.1 b.2.2.2.2 sa.2.1 sa.2.2.1 sa.2.2.2.1 sa.2.2.2.2.1 sa.2.2.2.2.2.1 sa.2.2.2.2.2.2.1 sa.2.2.2.2.2.2.2.1 sa.2.2.2.2.2.2.2.2.1 sa.2.2.2.2.2.2.2.2.2.1 sa.2.2.2.2.2.2.2.2.2.2).bind fun a=>if Qh (sa.1+1) then some (.inl (.inr ((sa.1+1),a.1,a.2.1,a.2.2.1,a.2.2.2.1,a.2.2.2.2.1,a.2.2.2.2.2.1,a.2.2.2.2.2.2.1,a.2.2.2.2.2.2.2.1,a.2.2.2.2.2.2.2.2.1,a.2.2.2.2.2.2.2.2.2))) else none else none else some (.inr (.inr (sa.2.1,sa.2.2.1,sa.2.2.2.1,sa.2.2.2.2.1,sa.2.2.2.2.2.1,sa.2.2.2.2.2.2.1,sa.2.2.2.2.2.2.2.1,sa.2.2.2.2.2.2.2.2.1,sa.2.2.2.2.2.2.2.2.2.1,sa.2.2.2.2.2.2.2.2.2.2))))
noncomputable def Qgh (a1:Int)(a:Int×Int×jVj×jVj×jRj)(b:jVj):Lp (Unit⊕Int×jRj) (Unit⊕jRj):=⟨fun
 | (.inl sa)=>[(2,.ptr 85 0 0 0 0),(3,.ptr 86 0 0 0 0),(6,.own 47 0),(7,.d (I ((b).length:Int))),(8,.d (I 0))]
 | (.inr sa)=>[(2,.ptr 85 0 0 0 0),(3,.ptr 86 0 0 0 0),(6,.own 47 0),(7,.d (I ((b).length:Int))),(8,.d (I sa.1))],fun
 | (.inl sa)=>[(0,.box (.d (I a1))),(1,.box (.d Qr6)),(12,.box (.agg [.own 13 0,.own 14 0,.d (I a.2.2.2.2.1),.d (I a.2.2.2.2.2.1),.d (B a.2.2.2.2.2.2.1),.d (B a.2.2.2.2.2.2.2.1),.d (I a.2.2.2.2.2.2.2.2.1),.d (I a.2.2.2.2.2.2.2.2.2.1),.d (I a.2.2.2.2.2.2.2.2.2.2.1),.own 22 0,.own 23 0,.own 24 0])),(13,.row 0 5 a.2.2.1),(14,.row 0 5 a.2.2.2.1),(22,.row 0 1 a.2.2.2.2.2.2.2.2.2.2.2.1),(23,.row 0 6 a.2.2.2.2.2.2.2.2.2.2.2.2.1),(24,.row 0 7 a.2.2.2.2.2.2.2.2.2.2.2.2.2),(47,.row 0 5 b),(85,.box (.d Qr6)),(86,.box (.d Qr6))]
 | (.inr sa)=>[(0,.box (.d (I a1))),(1,.box (.d Qr6)),(12,.box (.agg [.own 13 0,.own 14 0,.d (I a.2.2.2.2.1),.d (I a.2.2.2.2.2.1),.d (B a.2.2.2.2.2.2.1),.d (B a.2.2.2.2.2.2.2.1),.d (I a.2.2.2.2.2.2.2.2.1),.d (I a.2.2.2.2.2.2.2.2.2.1),.d (I a.2.2.2.2.2.2.2.2.2.2.1),.own 22 0,.own 23 0,.own 24 0])),(13,.row 0 5 a.2.2.1),(14,.row 0 5 a.2.2.2.1),(22,.row 0 1 a.2.2.2.2.2.2.2.2.2.2.2.1),(23,.row 0 6 a.2.2.2.2.2.2.2.2.2.2.2.2.1),(24,.row 0 7 a.2.2.2.2.2.2.2.2.2.2.2.2.2),(47,.row 0 5 b),(85,.box (.d Qr6)),(86,.box (.agg [.d (I sa.2.1),.d (I sa.2.2.1),.d (B sa.2.2.2.1),.d (B sa.2.2.2.2.1),.d (I sa.2.2.2.2.2.1),.d (I sa.2.2.2.2.2.2.1),.d (I sa.2.2.2.2.2.2.2.1),.own 104 0,.own 105 0,.own 106 0])),(104,.row 0 1 sa.2.2.2.2.2.2.2.2.1),(105,.row 0 6 sa.2.2.2.2.2.2.2.2.2.1),(106,.row 0 7 sa.2.2.2.2.2.2.2.2.2.2)],fun _=>(.exit 0),fun _=>[(2,.ptr 85 0 0 0 0),(3,.ptr 86 0 0 0 0)],fun
 | (.inl e)=>[(0,.box (.d (I a1))),(1,.box (.d Qr6)),(12,.box (.agg [.own 13 0,.own 14 0,.d (I a.2.2.2.2.1),.d (I a.2.2.2.2.2.1),.d (B a.2.2.2.2.2.2.1),.d (B a.2.2.2.2.2.2.2.1),.d (I a.2.2.2.2.2.2.2.2.1),.d (I a.2.2.2.2.2.2.2.2.2.1),.d (I a.2.2.2.2.2.2.2.2.2.2.1),.own 22 0,.own 23 0,.own 24 0])),(13,.row 0 5 a.2.2.1),(14,.row 0 5 a.2.2.2.1),(22,.row 0 1 a.2.2.2.2.2.2.2.2.2.2.2.1),(23,.row 0 6 a.2.2.2.2.2.2.2.2.2.2.2.2.1),(24,.row 0 7 a.2.2.2.2.2.2.2.2.2.2.2.2.2),(47,.row 0 5 b),(85,.box (.d Qr6)),(86,.box (.d Qr6))]
 | (.inr e)=>[(0,.box (.d (I a1))),(1,.box (.d Qr6)),(12,.box (.agg [.own 13 0,.own 14 0,.d (I a.2.2.2.2.1),.d (I a.2.2.2.2.2.1),.d (B a.2.2.2.2.2.2.1),.d (B a.2.2.2.2.2.2.2.1),.d (I a.2.2.2.2.2.2.2.2.1),.d (I a.2.2.2.2.2.2.2.2.2.1),.d (I a.2.2.2.2.2.2.2.2.2.2.1),.own 22 0,.own 23 0,.own 24 0])),(13,.row 0 5 a.2.2.1),(14,.row 0 5 a.2.2.2.1),(22,.row 0 1 a.2.2.2.2.2.2.2.2.2.2.2.1),(23,.row 0 6 a.2.2.2.2.2.2.2.2.2.2.2.2.1),(24,.row 0 7 a.2.2.2.2.2.2.2.2.2.2.2.2.2),(47,.row 0 5 b),(85,.box (.d Qr6)),(86,.box (.agg [.d (I e.1),.d (I e.2.1),.d (B e.2.2.1),.d (B e.2.2.2.1),.d (I e.2.2.2.2.1),.d (I e.2.2.2.2.2.1),.d (I e.2.2.2.2.2.2.1),.own 104 0,.own 105 0,.own 106 0])),(104,.row 0 1 e.2.2.2.2.2.2.2.1),(105,.row 0 6 e.2.2.2.2.2.2.2.2.1),(106,.row 0 7 e.2.2.2.2.2.2.2.2.2)]⟩
theorem QfC {n a1 b c}(sa)(r)(h:Qe8 n a1 b c sa=some r):Rl (ZJ cx.P 23 0) 16 85 false (Qgh a1 b c) sa r:=by
 unfold Qe8 at h;obtain sa|sa:=sa
 ·obtain⟨a,h⟩|⟨a,h⟩:=io h
  ·have⟨ha2,h⟩:=gd h;have⟨ta3,ha3,h⟩:=bo h;have⟨ta4,ha4,h⟩:=bo h;cases h;exact rn 90 [b1,b1,.el (QP ta3),.obj (some 86) (.d (.tup [])) (QJ' ta4) []] [] [2,3,6,7,8] [0,1,12,13,14,22,23,24,47,85,86,104,105,106] (Qa ((by unfold Qh;omega):Qh 1) (Qa (Uh ha4) (Qa (QX Ql ha3) (Qa ha2 (Qa (jDj a) QL)))))
  cases h;exact rx 90 [b0] [] [2,3] [0,1,12,13,14,22,23,24,47,85,86] (Qa (jEj a) QL)
 ·obtain⟨a,h⟩|⟨a,h⟩:=io h
  ·have⟨ha2,h⟩:=gd h;have⟨ta3,ha3,h⟩:=bo h;have⟨ta4,ha4,h⟩:=bo h;have⟨ha5,h⟩:=gd h;cases h;exact rn 107 [b1,b1,.el (QP ta3),.obj (some 86) (.d (.tup [])) (QJ' ta4) []] [] [2,3,6,7,8] [0,1,12,13,14,22,23,24,47,85,86,104,105,106] (Qa ha5 (Qa (Uh ha4) (Qa (QX Ql ha3) (Qa ha2 (Qa (jDj a) QL)))))
  cases h;exact rx 107 [b0] [] [2,3] [0,1,12,13,14,22,23,24,47,85,86,104,105,106] (Qa (jEj a) QL)
def Qfm (n:Nat)(d:jVj)(a1:Int):Option (Int×Int×Bool×Bool×Int×Int×Int×jVj×jVj×jVj×Int) := (Q6 n d).bind fun b=>(ZE n a1 0 999999999).bind fun e=>(Qo n ([I b.2.1,I e])).bind fun c=>if c=0 then(Q2 (Qe9 n a1 b) n (0,[])).bind fun f=>(Q2 (Qe8 n a1 b f) n (.inl ())).bind fun a=>match a with|.inl a=>(some (0,0,false,false,0,0,0,[],[],[],0))|.inr a=>(some (a.1,a.2.1,a.2.2.1,a.2.2.2.1,a.2.2.2.2.1,a.2.2.2.2.2.1,a.2.2.2.2.2.2.1,a.2.2.2.2.2.2.2.1,a.2.2.2.2.2.2.2.2.1,a.2.2.2.2.2.2.2.2.2,0)) else some (0,0,false,false,0,0,0,[],[],[],c)
theorem QgA {n c a1 r}(h:Qfm n c a1=some r):Computes cx 10 [.lst false 5 c,I a1] (.tup [.agg [I r.1,I r.2.1,B r.2.2.1,B r.2.2.2.1,I r.2.2.2.2.1,I r.2.2.2.2.2.1,I r.2.2.2.2.2.2.1,.lst false 1 r.2.2.2.2.2.2.2.1,.lst false 6 r.2.2.2.2.2.2.2.2.1,.lst false 7 r.2.2.2.2.2.2.2.2.2.1],I r.2.2.2.2.2.2.2.2.2.2]):=by
 unfold Qfm at h;have⟨t1,h1,h⟩:=bo h;have⟨t2,h2,h⟩:=bo h;have⟨t3,h3,h⟩:=bo h;have q:=Qa (leF (Qx h3)) (Qa (WK h2) (Qa (We h1) QL));let o(l:jOj):=.obj none (.tup [.ptr 0 0 0 0 0,.d (I t1.1),.d (I t1.2.1)]) (Qb' t1.2.2) []::.ret (I t2)::.ret (I t3)::l;obtain⟨b,h⟩|⟨b,h⟩:=io h
 ·have⟨t5,h5,h⟩:=bo h;have q:=Qa (QH Qgc h5) (Qa (nef b) q);let o l:=o (b0::b1::.lp [5,5] [1,5,8,9,10] [0,1,12,13,14,22,23,24,47] (.exit 0) [(5,.own 47 0)] [(0,.box (.d (I a1))),(1,.box (.d Qr6)),(12,.box (.agg [.own 13 0,.own 14 0,.d (I t1.2.2.2.2.1),.d (I t1.2.2.2.2.2.1),.d (B t1.2.2.2.2.2.2.1),.d (B t1.2.2.2.2.2.2.2.1),.d (I t1.2.2.2.2.2.2.2.2.1),.d (I t1.2.2.2.2.2.2.2.2.2.1),.d (I t1.2.2.2.2.2.2.2.2.2.2.1),.own 22 0,.own 23 0,.own 24 0])),(13,.row 0 5 t1.2.2.1),(14,.row 0 5 t1.2.2.2.1),(22,.row 0 1 t1.2.2.2.2.2.2.2.2.2.2.2.1),(23,.row 0 6 t1.2.2.2.2.2.2.2.2.2.2.2.2.1),(24,.row 0 7 t1.2.2.2.2.2.2.2.2.2.2.2.2.2),(47,.row 0 5 t5)] 83::b1::l);have⟨a,h6,h⟩:=bo h;obtain a|a:=a
  ·cases h;exact(rf (r:=.tup [jZj,I 0]) (o [.lp [] [2,3,6,7,8] [0,1,12,13,14,22,23,24,47,85,86] (.exit 0) [(2,.ptr 85 0 0 0 0),(3,.ptr 86 0 0 0 0)] [(0,.box (.d (I a1))),(1,.box (.d Qr6)),(12,.box (.agg [.own 13 0,.own 14 0,.d (I t1.2.2.2.2.1),.d (I t1.2.2.2.2.2.1),.d (B t1.2.2.2.2.2.2.1),.d (B t1.2.2.2.2.2.2.2.1),.d (I t1.2.2.2.2.2.2.2.2.1),.d (I t1.2.2.2.2.2.2.2.2.2.1),.d (I t1.2.2.2.2.2.2.2.2.2.2.1),.own 22 0,.own 23 0,.own 24 0])),(13,.row 0 5 t1.2.2.1),(14,.row 0 5 t1.2.2.2.1),(22,.row 0 1 t1.2.2.2.2.2.2.2.2.2.2.2.1),(23,.row 0 6 t1.2.2.2.2.2.2.2.2.2.2.2.2.1),(24,.row 0 7 t1.2.2.2.2.2.2.2.2.2.2.2.2.2),(47,.row 0 5 t5),(85,.box (.d Qr6)),(86,.box (.d Qr6))] 137]) (Qa (QH QfC h6) q)).le (LEs.refl _) (.tups (.cons (.aggs (.cons (.refl _) (.cons (.refl _) (.cons (.refl _) (.cons (.refl _) (.cons (.refl _) (.cons (.refl _) (.cons (.refl _) (.cons (.nilF) (.cons (.nilF) (.cons (.nilF) (.nil)))))))))))) (.cons (.refl _) (.nil))))
  cases h;exact rf (o [.lp [] [2,3,6,7,8] [0,1,12,13,14,22,23,24,47,85,86] (.exit 0) [(2,.ptr 85 0 0 0 0),(3,.ptr 86 0 0 0 0)] [(0,.box (.d (I a1))),(1,.box (.d Qr6)),(12,.box (.agg [.own 13 0,.own 14 0,.d (I t1.2.2.2.2.1),.d (I t1.2.2.2.2.2.1),.d (B t1.2.2.2.2.2.2.1),.d (B t1.2.2.2.2.2.2.2.1),.d (I t1.2.2.2.2.2.2.2.2.1),.d (I t1.2.2.2.2.2.2.2.2.2.1),.d (I t1.2.2.2.2.2.2.2.2.2.2.1),.own 22 0,.own 23 0,.own 24 0])),(13,.row 0 5 t1.2.2.1),(14,.row 0 5 t1.2.2.2.1),(22,.row 0 1 t1.2.2.2.2.2.2.2.2.2.2.2.1),(23,.row 0 6 t1.2.2.2.2.2.2.2.2.2.2.2.2.1),(24,.row 0 7 t1.2.2.2.2.2.2.2.2.2.2.2.2.2),(47,.row 0 5 t5),(85,.box (.d Qr6)),(86,.box (.agg [.d (I a.1),.d (I a.2.1),.d (B a.2.2.1),.d (B a.2.2.2.1),.d (I a.2.2.2.2.1),.d (I a.2.2.2.2.2.1),.d (I a.2.2.2.2.2.2.1),.own 104 0,.own 105 0,.own 106 0])),(104,.row 0 1 a.2.2.2.2.2.2.2.1),(105,.row 0 6 a.2.2.2.2.2.2.2.2.1),(106,.row 0 7 a.2.2.2.2.2.2.2.2.2)] 137]) (Qa (QH QfC h6) q)
 cases h;exact(rf (r:=.tup [jZj,I t3]) (o [b1]) (Qa (net b) q)).le (LEs.refl _) (.tups (.cons (.aggs (.cons (.refl _) (.cons (.refl _) (.cons (.refl _) (.cons (.refl _) (.cons (.refl _) (.cons (.refl _) (.cons (.refl _) (.cons (.nilF) (.cons (.nilF) (.cons (.nilF) (.nil)))))))))))) (.cons (.refl _) (.nil))))
theorem Qut {n:Nat}  {r:Int}(h:Kx n =some r):Computes cx 39 [B true,I 3] (I r):=by unfold Kx at h;obtain rfl:=oi h;exact rf [.no] QL
theorem Quc {n b a1 r}(h:Qm n b a1=some r):Computes cx 39 [B b,I a1] (I r):=by
 unfold Qm at h;obtain⟨a,h⟩|⟨a,h⟩:=io h
 ·obtain rfl:=oi h;exact rf [b1] (Qa a QL)
 obtain rfl:=oi h;exact rf [b0] (Qa (QA a) QL)
theorem Qub {n b a1 a2 r}(h:ZE n b a1 a2=some r):Computes cx 28 [I b,I a1,I a2] (I r):=by
 unfold ZE at h;obtain⟨a,h⟩|⟨a,h⟩:=io h
 ·have⟨t2,h2,h⟩:=bo h;obtain rfl:=oi h;exact rf [b1,.ret (I t2)] (Qa (Qut h2) (Qa (jDj a) QL))
 have⟨t2,h2,h⟩:=bo h;obtain rfl:=oi h;exact rf [b0,.ret (I t2)] (Qa (Quc h2) (Qa (jEj a) QL))
def QsN (n:Nat)(a:Int):Option (Int) := (ZE n a 0 10000).bind fun b=>some b
theorem Qtn {n a r}(h:QsN n a=some r):Computes cx 14 [I a] (I r):=by unfold QsN at h;have⟨t1,h1,h⟩:=bo h;obtain rfl:=oi h;exact rf [.ret (I t1)] (Qa (Qub h1) QL)
def QsH (n:Nat)(c:jVj)(sa:(Int×jVj)):Option (Int×jVj⊕jVj) := if sa.1<((c).length:Int) then(el Vt c sa.1).bind fun a=>(QsN n a).bind fun b=>if Wa 8 ((sa.2).length+1) then if Qh (sa.1+1) then some (.inl ((sa.1+1),(sa.2++([I b]:jVj)))) else none else none else some (.inr sa.2)
noncomputable def QtW (a:jVj):Lp (Int×jVj) (jVj):=⟨fun sa=>[(1,.d (.fn (.func 14) [] [])),(5,.own 5 0),(8,.d (.lst false 1 a)),(9,.d (I ((a).length:Int))),(10,.d (I sa.1))],fun sa=>[(5,.row 0 1 sa.2)],fun _=>(.exit 0),fun _=>[(5,.own 5 0)],fun e=>[(5,.row 0 1 e)]⟩
theorem QtV {n b}(sa)(r)(h:QsH n b sa=some r):Rl (ZJ cx.P 13 0) 22 0 false (QtW b) sa r:=by
 unfold QsH at h;obtain⟨a,h⟩|⟨a,h⟩:=io h
 ·have⟨ta2,ha2,h⟩:=bo h;have⟨ta3,ha3,h⟩:=bo h;have⟨ha4,h⟩:=gd h;have⟨ha5,h⟩:=gd h;cases h;exact rn 6 [b1,.el (Q3 ta2),.ret (I ta3),b1] [] [1,5,8,9,10] [5] (Qa ha5 (Qa (ro 32 ha4) (Qa (Qtn ha3) (allE Qi ha2 (Qa (jDj a) QL)))))
 cases h;exact rx 6 [b0] [] [5] [5] (Qa (jEj a) QL)
def Qs4 (n:Nat)(a:jVj):Option (jVj) := (Q2 (QsH n a) n (0,[])).bind fun b=>some b
theorem Qt8 {n a r}(h:Qs4 n a=some r):Computes cx 13 [.lst false 1 a,.fn (.func 14) [] []] (.lst false 1 r):=by unfold Qs4 at h;have⟨t1,h1,h⟩:=bo h;obtain rfl:=oi h;exact rf [.lp [5,1] [1,5,8,9,10] [5] (.exit 0) [(5,.own 5 0)] [(5,.row 0 1 t1)] 30] (Qa (QH QtV h1) QL)
theorem QtH {n c}(sa)(r)(h:Vi n c sa=some r):Rl (ZJ cx.P 12 0) 15 0 false (zp c) sa r:=by
 unfold Vi at h;obtain⟨a,h⟩|⟨a,h⟩:=io h
 ·have⟨ta2,ha2,h⟩:=bo h;have q:=allE Qi ha2 (Qa (jDj a) QL);obtain⟨b,h⟩|⟨b,h⟩:=io h
  ·have⟨ha4,h⟩:=gd h;cases h;exact rn 4 [b1,.el (Q3 ta2),b0] [] [5,6,7] [] (Qa ha4 (Qa (nef b) q))
  cases h;exact rx 4 [b1,.el (Q3 ta2),b1] [] [2] [] (Qa (net b) q)
 cases h;exact rx 4 [b0] [] [] [] (Qa (jEj a) QL)
theorem QtY {n b r}(h:Qo n b=some r):Computes cx 12 [.lst false 1 b] (I r):=by
 unfold Qo at h;have⟨a,h1,h⟩:=bo h;obtain a|a:=a
 ·obtain rfl:=oi h;exact rf [.lp [] [5,6,7] [] .ret [(2,.d (I a))] [] 23] (Qa (QH QtH h1) QL)
 obtain rfl:=oi h;exact rf [.lp [] [5,6,7] [] (.exit 0) [] [] 23] (Qa (QH QtH h1) QL)
def QpH (x:jVj):D:=.lst false 1 x
def QpJ (d:D):Option (jVj):=Em 1 d
theorem Qps {d:D}{x:jVj}(h:QpJ d=some x):d=QpH x:=J7 h
def QsD (n:Nat)(d:jVj)(a1 sa:Int)(a:jVj)(c:Int):Option (Int⊕Unit⊕Unit) := if c<((a).length:Int) then(el Vt a c).bind fun b=>if b<0 then some (.inr (.inl ())) else if b>=a1 then some (.inr (.inl ())) else if Qh (c+1) then some (.inl (c+1)) else none else some (.inr (.inr ()))
noncomputable def QtK (b:jVj)(a1 sa:Int)(a:jVj):Lp (Int) (Unit⊕Unit):=⟨fun c=>[(1,.d (I a1)),(5,.d (I 0)),(13,.d (.lst false 1 b)),(14,.d (I ((b).length:Int))),(15,.d (I sa)),(22,.d (.lst false 1 a)),(23,.d (I ((a).length:Int))),(24,.d (I c))],fun _=>[],fun
 | (.inl e)=>(.exit 0)
 | (.inr e)=>(.exit 2),fun
 | (.inl e)=>[(5,.d (I 10))]
 | (.inr e)=>[(1,.d (I a1)),(5,.d (I 0)),(13,.d (.lst false 1 b)),(14,.d (I ((b).length:Int))),(15,.d (I sa))],fun _=>[]⟩
theorem Qs9 {n e a1 sa d}(f)(r)(h:QsD n e a1 sa d f=some r):Rl (ZJ cx.P 15 1) 38 0 false (QtK e a1 sa d) f r:=by
 unfold QsD at h;obtain⟨a,h⟩|⟨a,h⟩:=io h
 ·have⟨tb2,hb2,h⟩:=bo h;have q:=allE Qi hb2 (Qa (jDj a) QL);let o(l:jOj):=b1::.el (Q3 tb2)::l;obtain⟨b,h⟩|⟨b,h⟩:=io h
  ·cases h;exact rx 18 (o [b1,.no]) [] [5] [] (Qa (jDj b) q)
  have q:=Qa (jEj b) q;obtain⟨c,h⟩|⟨c,h⟩:=io h
  ·cases h;exact rx 18 (o [b0,b1]) [] [5] [] (Qa (jDj c) q)
  have⟨hb5,h⟩:=gd h;cases h;exact rn 18 (o [b0,b0]) [] [1,5,13,14,15,22,23,24] [] (Qa hb5 (Qa (jEj c) q))
 cases h;exact rx 18 [b0] [] [1,5,13,14,15] [] (Qa (jEj a) QL)
def QsA (n:Nat)(c:jVj)(a1:Int)(sa:Int):Option (Int⊕Int) := if sa<((c).length:Int) then(el QpJ c sa).bind fun b=>if((b).length:Int)>256 then some (.inr 5) else(Q2 (QsD n c a1 sa b) n 0).bind fun a=>match a with|.inl a=>(some (.inr 10))|.inr a=>(if Qh (sa+1) then some (.inl (sa+1)) else none) else some (.inr 0)
noncomputable def QtJ (a:jVj)(a1:Int):Lp (Int) (Int):=⟨fun sa=>[(1,.d (I a1)),(5,.d (I 0)),(13,.d (.lst false 1 a)),(14,.d (I ((a).length:Int))),(15,.d (I sa))],fun _=>[],fun _=>(.exit 0),fun e=>[(5,.d (I e))],fun _=>[]⟩
theorem QtI {n e a1}(sa)(r)(h:QsA n e a1 sa=some r):Rl (ZJ cx.P 15 0) 38 0 false (QtJ e a1) sa r:=by
 unfold QsA at h;obtain⟨a,h⟩|⟨a,h⟩:=io h
 ·have⟨ta2,ha2,h⟩:=bo h;have q:=allE Qps ha2 (Qa (jDj a) QL);let o(l:jOj):=b1::.el (QpH ta2)::l;obtain⟨b,h⟩|⟨b,h⟩:=io h
  ·cases h;exact rx 8 (o [b1]) [] [5] [] (Qa (jDj b) q)
  have q:=Qa (jEj b) q;have⟨c,ha4,h⟩:=bo h;obtain c|c:=c
  ·cases h;exact rx 8 (o [b0,.lp [] [1,5,13,14,15,22,23,24] [] (.exit 0) [(5,.d (I 10))] [] 42]) [] [5] [] (Qa (QH Qs9 ha4) q)
  have⟨ha5,h⟩:=gd h;cases h;exact rn 8 (o [b0,.lp [] [1,5,13,14,15,22,23,24] [] (.exit 2) [(1,.d (I a1)),(5,.d (I 0)),(13,.d (.lst false 1 e)),(14,.d (I ((e).length:Int))),(15,.d (I sa))] [] 42]) [] [1,5,13,14,15] [] (Qa ha5 (Qa (QH Qs9 ha4) q))
 cases h;exact rx 8 [b0] [] [5] [] (Qa (jEj a) QL)
def QsO (n:Nat)(a:jVj)(a1:Int):Option (Int) := if((a).length:Int)>365 then some 5 else(Q2 (QsA n a a1) n 0).bind fun b=>some b
theorem QtU {n b a1 r}(h:QsO n b a1=some r):Computes cx 15 [.lst false 1 b,I a1] (I r):=by
 unfold QsO at h;obtain⟨a,h⟩|⟨a,h⟩:=io h
 ·obtain rfl:=oi h;exact rf [b1] (Qa (jDj a) QL)
 have⟨t2,h2,h⟩:=bo h;obtain rfl:=oi h;exact rf [b0,.lp [] [1,5,13,14,15] [] (.exit 0) [(5,.d (I t2))] [] 55] (Qa (QH QtI h2) (Qa (jEj a) QL))
def Qvs (x:Bool):D:=B x
def un_b (d:D):Option (Bool):=Gw d
theorem Qu5 {d:D}{x:Bool}(h:un_b d=some x):d=Qvs x:=KG h
def QsK (n:Nat)(a1:Int)(a2:jVj)(sa:Int×Int×jVj)(b:jVj)(a:(Int×jVj)):Option (Int×jVj⊕jVj) := if a.1<((b).length:Int) then(el Vt b a.1).bind fun c=>if mok (.int .i64 c) (a.2:jVj)=true then if Qh (a.1+1) then some (.inl ((a.1+1),(jD (.int .i64 c) (B true) (a.2:jVj)))) else none else none else some (.inr a.2)
noncomputable def Qt7 (a1:Int)(a2:jVj)(sa:Int×Int×jVj)(a:jVj):Lp (Int×jVj) (jVj):=⟨fun b=>[(1,.d (I a1)),(10,.own 28 0),(11,.d (I sa.1)),(14,.own 38 0),(38,.d (.lst false 1 a2)),(39,.d (I ((a2).length:Int))),(40,.d (I sa.2.1)),(45,.d (.lst false 1 a)),(46,.d (I ((a).length:Int))),(47,.d (I b.1))],fun b=>[(28,.row 0 1 sa.2.2),(38,.mp b.2)],fun _=>(.exit 2),fun _=>[(1,.d (I a1)),(10,.own 28 0),(11,.d (I sa.1)),(14,.own 38 0),(38,.d (.lst false 1 a2)),(39,.d (I ((a2).length:Int))),(40,.d (I sa.2.1))],fun e=>[(28,.row 0 1 sa.2.2),(38,.mp e)]⟩
theorem Qt4 {n a1 a2 sa b}(c)(r)(h:QsK n a1 a2 sa b c=some r):Rl (ZJ cx.P 7 1) 78 0 false (Qt7 a1 a2 sa b) c r:=by
 unfold QsK at h;obtain⟨a,h⟩|⟨a,h⟩:=io h
 ·have⟨tb2,hb2,h⟩:=bo h;have⟨hb3,h⟩:=gd h;have⟨hb4,h⟩:=gd h;cases h;exact rn 43 [b1,.el (Q3 tb2),b1] [] [1,10,11,14,38,39,40,45,46,47] [28,38] (Qa hb4 (Qa hb3 (allE Qi hb2 (Qa (jDj a) QL))))
 cases h;exact rx 43 [b0] [] [1,10,11,14,38,39,40] [28,38] (Qa (jEj a) QL)
def QsJ (n:Nat)(a1:Int)(a2:jVj)(sa:Int×Int×jVj)(c:jVj)(a:(Int×Int×jVj)):Option (Int×Int×jVj⊕Int×jVj) := if a.2.1<((sa.2.2).length:Int) then if 0<=a.2.1/\a.2.1<((a.2.2).length:Int) then((nth (a.2.2) (Int.toNat a.2.1)).bind Vt).bind fun b=>if mok (.int .i64 a.2.1) (c:jVj)=true then if(VY (.int .i64 a.2.1) (c:jVj)).isSome=true then((VY (.int .i64 a.2.1) (c:jVj)).bind un_b).bind fun d=>if d=true then if Qh (a.1+0) then if Qh (0+a1) then if(Int.toNat a.2.1)<(a.2.2).length then if Qh (a.2.1+1) then some (.inl ((a.1+0),(a.2.1+1),(List.set a.2.2 (Int.toNat a.2.1) (I (minI 10000 (0+a1)):D)))) else none else none else none else none else if Qh (a.1+b) then if Qh (b+a1) then if(Int.toNat a.2.1)<(a.2.2).length then if Qh (a.2.1+1) then some (.inl ((a.1+b),(a.2.1+1),(List.set a.2.2 (Int.toNat a.2.1) (I (minI 10000 (b+a1)):D)))) else none else none else none else none else if Qh (a.1+b) then if Qh (b+a1) then if(Int.toNat a.2.1)<(a.2.2).length then if Qh (a.2.1+1) then some (.inl ((a.1+b),(a.2.1+1),(List.set a.2.2 (Int.toNat a.2.1) (I (minI 10000 (b+a1)):D)))) else none else none else none else none else none else none else some (.inr (a.1,a.2.2))
noncomputable def Qt6 (a1:Int)(a2:jVj)(sa:Int×Int×jVj)(b:jVj):Lp (Int×Int×jVj) (Int×jVj):=⟨fun a=>[(1,.d (I a1)),(10,.own 28 0),(11,.d (I a.1)),(14,.own 38 0),(38,.d (.lst false 1 a2)),(39,.d (I ((a2).length:Int))),(40,.d (I sa.2.1)),(54,.own 28 0),(55,.d (I ((sa.2.2).length:Int))),(56,.d (I a.2.1))],fun a=>[(28,.row 0 1 a.2.2),(38,.mp b)],fun _=>(.exit 4),fun e=>[(1,.d (I a1)),(10,.own 28 0),(11,.d (I e.1)),(38,.d (.lst false 1 a2)),(39,.d (I ((a2).length:Int))),(40,.d (I sa.2.1))],fun e=>[(28,.row 0 1 e.2)]⟩
theorem Qt3 {n a1 a2 sa b}(e)(r)(h:QsJ n a1 a2 sa b e=some r):Rl (ZJ cx.P 7 2) 78 0 false (Qt6 a1 a2 sa b) e r:=by
 unfold QsJ at h;obtain⟨c,h⟩|⟨c,h⟩:=io h
 ·have⟨hb2,h⟩:=gd h;have⟨tb3,hb3,h⟩:=bo h;have⟨hb4,h⟩:=gd h;have q:=Qa (QX Qi hb3) (Qa hb2 (Qa (jDj c) QL));let o(l:jOj):=b1::b1::.el (Q3 tb3)::l;obtain⟨d,h⟩|⟨d,h⟩:=io h
  ·have⟨tb6,hb6,h⟩:=bo h;have q:=Qa ((Quz hb4 (Qdv Qu5 hb6)):Zi false (.int .i64 e.2.1) (B false) (b:jVj)=some (B tb6)) q;obtain⟨a,h⟩|⟨a,h⟩:=io h
   ·have⟨hb8,h⟩:=gd h;have⟨hb9,h⟩:=gd h;have⟨hb10,h⟩:=gd h;have⟨hb11,h⟩:=gd h;cases h;exact rn 66 (o [.el (B tb6),b1,b1,b1]) [] [1,10,11,14,38,39,40,54,55,56] [28,38] (Qa hb11 (Qa hb10 (Qa hb2 (Qa hb9 (Qa hb8 (Qa a q))))))
   have⟨hb8,h⟩:=gd h;have⟨hb9,h⟩:=gd h;have⟨hb10,h⟩:=gd h;have⟨hb11,h⟩:=gd h;cases h;exact rn 66 (o [.el (B tb6),b0,b1,b1]) [] [1,10,11,14,38,39,40,54,55,56] [28,38] (Qa hb11 (Qa hb10 (Qa hb2 (Qa hb9 (Qa hb8 (Qa (QA a) q))))))
  have⟨hb6,h⟩:=gd h;have⟨a,h⟩:=gd h;have⟨hb8,h⟩:=gd h;have⟨hb9,h⟩:=gd h;cases h;exact rn 66 (o [.el (B false),.no,b1,b1]) [] [1,10,11,14,38,39,40,54,55,56] [28,38] (Qa hb9 (Qa hb8 (Qa hb2 (Qa a (Qa hb6 (Qa ((Qun hb4 (mno d)):Zi false (.int .i64 e.2.1) (B false) (b:jVj)=some (B false)) q))))))
 cases h;exact rx 66 [b0] [] [1,10,11,38,39,40] [28] (Qa (jEj c) QL)
def QsI (n:Nat)(a1:Int)(a2:jVj)(sa:(Int×Int×jVj)):Option (Int×Int×jVj⊕Int×jVj) := if sa.2.1<((a2).length:Int) then(el QpJ a2 sa.2.1).bind fun b=>(Q2 (QsK n a1 a2 sa b) n (0,[])).bind fun c=>(Q2 (QsJ n a1 a2 sa c) n (sa.1,0,sa.2.2)).bind fun a=>if Qh (sa.2.1+1) then some (.inl (a.1,(sa.2.1+1),a.2)) else none else some (.inr (sa.1,sa.2.2))
noncomputable def Qt5 (a1:Int)(a2:jVj):Lp (Int×Int×jVj) (Int×jVj):=⟨fun sa=>[(1,.d (I a1)),(10,.own 28 0),(11,.d (I sa.1)),(38,.d (.lst false 1 a2)),(39,.d (I ((a2).length:Int))),(40,.d (I sa.2.1))],fun sa=>[(28,.row 0 1 sa.2.2)],fun _=>(.exit 0),fun e=>[(10,.own 28 0),(11,.d (I e.1))],fun e=>[(28,.row 0 1 e.2)]⟩
theorem Qt2 {n a1 a2}(sa)(r)(h:QsI n a1 a2 sa=some r):Rl (ZJ cx.P 7 0) 78 0 false (Qt5 a1 a2) sa r:=by
 unfold QsI at h;obtain⟨a,h⟩|⟨a,h⟩:=io h
 ·have⟨ta2,ha2,h⟩:=bo h;have⟨ta3,ha3,h⟩:=bo h;have⟨ta4,ha4,h⟩:=bo h;have⟨ha5,h⟩:=gd h;cases h;exact rn 34 [b1,.el (QpH ta2),.lp [] [1,10,11,14,38,39,40,45,46,47] [28,38] (.exit 2) [(1,.d (I a1)),(10,.own 28 0),(11,.d (I sa.1)),(14,.own 38 0),(38,.d (.lst false 1 a2)),(39,.d (I ((a2).length:Int))),(40,.d (I sa.2.1))] [(28,.row 0 1 sa.2.2),(38,.mp ta3)] 63,.lp [] [1,10,11,14,38,39,40,54,55,56] [28,38] (.exit 4) [(1,.d (I a1)),(10,.own 28 0),(11,.d (I ta4.1)),(38,.d (.lst false 1 a2)),(39,.d (I ((a2).length:Int))),(40,.d (I sa.2.1))] [(28,.row 0 1 ta4.2)] 101] [] [1,10,11,38,39,40] [28] (Qa ha5 (Qa (QH Qt3 ha4) (Qa (QH Qt4 ha3) (allE Qps ha2 (Qa (jDj a) QL)))))
 cases h;exact rx 34 [b0] [] [10,11] [28] (Qa (jEj a) QL)
def QsF (n:Nat)(a:jVj)(a1:Int)(a2:jVj):Option (jVj×Int×Int) := if((a).length:Int)>256 then some ([],0,5) else(Qs4 n a).bind fun d=>(Qo n d).bind fun e=>(QsN n a1).bind fun f=>(QsO n a2 ((a).length:Int)).bind fun g=>(Qo n ([I e,I f,I g])).bind fun c=>if c=0 then if UF a=true then none else if Wa 8 (0+(a).length) then(Q2 (QsI n a1 a2) n (0,0,a)).bind fun b=>some (b.2,b.1,0) else none else some ([],0,c)
theorem Qs5 {n a a1 a2 r}(h:QsF n a a1 a2=some r):Computes cx 7 [.lst false 1 a,I a1,.lst false 1 a2] (.tup [.lst false 1 r.1,I r.2.1,I r.2.2]):=by
 unfold QsF at h;obtain⟨b,h⟩|⟨b,h⟩:=io h
 ·cases h;exact(rf (r:=.tup [.lst true 0 [],I 0,I 5]) [b1] (Qa (jDj b) QL)).le (LEs.refl _) (.tups (.cons (.nilF) (.cons (.refl _) (.cons (.refl _) (.nil)))))
 have⟨t2,h2,h⟩:=bo h;have⟨t3,h3,h⟩:=bo h;have⟨t4,h4,h⟩:=bo h;have⟨t5,h5,h⟩:=bo h;have⟨t6,h6,h⟩:=bo h;have q:=Qa (leF (QtY h6)) (Qa (QtU h5) (Qa (Qtn h4) (Qa (QtY h3) (Qa (Qt8 h2) (Qa (jEj b) QL)))));let o(l:jOj):=b0::.ret (.lst false 1 t2)::.ret (I t3)::.ret (I t4)::.ret (I t5)::.ret (I t6)::l;obtain⟨c,h⟩|⟨c,h⟩:=io h
 ·obtain⟨f,h⟩|⟨f,h⟩:=io h
  ·cases h
  have⟨h9,h⟩:=gd h;have⟨t10,h10,h⟩:=bo h;cases h;exact rf (o [b0,b1,.no,.ix (-8),b1,.lp [] [1,10,11,38,39,40] [28] (.exit 0) [(10,.own 28 0),(11,.d (I t10.1))] [(28,.row 0 1 t10.2)] 114]) (Qa (QH Qt2 h10) (Qa (ro 3 h9) (Qa ((by intro e;rw[e] at f;exact f rfl):a≠[]) (Qa (nef c) q))))
 cases h;exact(rf (r:=.tup [.lst true 0 [],I 0,I t6]) (o [b1]) (Qa (net c) q)).le (LEs.refl _) (.tups (.cons (.nilF) (.cons (.refl _) (.cons (.refl _) (.nil)))))
def QsL (n:Nat)  : Option (Bool) :=
 (Qfe n ([]) 1 (⟨#[115,101,99,116,111,114]⟩) ([.v (.string ⟨#[110]⟩)]) ([I 0]) (⟨#[]⟩)).bind fun d =>
 if d=0 then
  (Qfe n ([.agg [I 1,.v (.string ⟨#[115,101,99,116,111,114]⟩),.lst false 1 [.v (.string ⟨#[110]⟩)],.lst false 1 [I 0],.v (.string ⟨#[]⟩)]]) 2 (⟨#[109,105,114,114,111,114]⟩) ([.v (.string ⟨#[97]⟩),.v (.string ⟨#[110]⟩)]) ([I 0,I 1]) (⟨#[]⟩)).bind fun e =>
  if e=0 then
   (Qfe n ([.agg [I 1,.v (.string ⟨#[115,101,99,116,111,114]⟩),.lst false 1 [.v (.string ⟨#[110]⟩)],.lst false 1 [I 0],.v (.string ⟨#[]⟩)],.agg [I 2,.v (.string ⟨#[109,105,114,114,111,114]⟩),.lst false 1 [.v (.string ⟨#[97]⟩),.v (.string ⟨#[110]⟩)],.lst false 1 [I 0,I 1],.v (.string ⟨#[]⟩)]]) 3 (⟨#[102,105,108,108]⟩) ([]) ([I 0]) (⟨#[]⟩)).bind fun f =>
   if f=0 then
    (Qfe n ([.agg [I 1,.v (.string ⟨#[115,101,99,116,111,114]⟩),.lst false 1 [.v (.string ⟨#[110]⟩)],.lst false 1 [I 0],.v (.string ⟨#[]⟩)],.agg [I 2,.v (.string ⟨#[109,105,114,114,111,114]⟩),.lst false 1 [.v (.string ⟨#[97]⟩),.v (.string ⟨#[110]⟩)],.lst false 1 [I 0,I 1],.v (.string ⟨#[]⟩)],.agg [I 3,.v (.string ⟨#[102,105,108,108]⟩),.lst false 1 [],.lst false 1 [I 0],.v (.string ⟨#[]⟩)]]) 4 (⟨#[115,117,110]⟩) ([]) ([I 0,I 1]) (⟨#[]⟩)).bind fun g =>
    if g=0 then
     (Qfe n ([.agg [I 1,.v (.string ⟨#[115,101,99,116,111,114]⟩),.lst false 1 [.v (.string ⟨#[110]⟩)],.lst false 1 [I 0],.v (.string ⟨#[]⟩)],.agg [I 2,.v (.string ⟨#[109,105,114,114,111,114]⟩),.lst false 1 [.v (.string ⟨#[97]⟩),.v (.string ⟨#[110]⟩)],.lst false 1 [I 0,I 1],.v (.string ⟨#[]⟩)],.agg [I 3,.v (.string ⟨#[102,105,108,108]⟩),.lst false 1 [],.lst false 1 [I 0],.v (.string ⟨#[]⟩)],.agg [I 4,.v (.string ⟨#[115,117,110]⟩),.lst false 1 [],.lst false 1 [I 0,I 1],.v (.string ⟨#[]⟩)]]) 5 (⟨#[97,105,109]⟩) ([.v (.string ⟨#[97]⟩)]) ([I 0]) (⟨#[]⟩)).bind fun h =>
     if h=0 then
      (Qfe n ([.agg [I 1,.v (.string ⟨#[115,101,99,116,111,114]⟩),.lst false 1 [.v (.string ⟨#[110]⟩)],.lst false 1 [I 0],.v (.string ⟨#[]⟩)],.agg [I 2,.v (.string ⟨#[109,105,114,114,111,114]⟩),.lst false 1 [.v (.string ⟨#[97]⟩),.v (.string ⟨#[110]⟩)],.lst false 1 [I 0,I 1],.v (.string ⟨#[]⟩)],.agg [I 3,.v (.string ⟨#[102,105,108,108]⟩),.lst false 1 [],.lst false 1 [I 0],.v (.string ⟨#[]⟩)],.agg [I 4,.v (.string ⟨#[115,117,110]⟩),.lst false 1 [],.lst false 1 [I 0,I 1],.v (.string ⟨#[]⟩)],.agg [I 5,.v (.string ⟨#[97,105,109]⟩),.lst false 1 [.v (.string ⟨#[97]⟩)],.lst false 1 [I 0],.v (.string ⟨#[]⟩)]]) 6 (⟨#[115,111,105,108]⟩) ([.v (.string ⟨#[97]⟩)]) ([I 1,I 300]) (⟨#[]⟩)).bind fun c =>
      if c=0 then
       (Yh n ([.agg [I 1,.v (.string ⟨#[115,101,99,116,111,114]⟩),.lst false 1 [.v (.string ⟨#[110]⟩)],.lst false 1 [I 0],.v (.string ⟨#[]⟩)],.agg [I 2,.v (.string ⟨#[109,105,114,114,111,114]⟩),.lst false 1 [.v (.string ⟨#[97]⟩),.v (.string ⟨#[110]⟩)],.lst false 1 [I 0,I 1],.v (.string ⟨#[]⟩)],.agg [I 3,.v (.string ⟨#[102,105,108,108]⟩),.lst false 1 [],.lst false 1 [I 0],.v (.string ⟨#[]⟩)],.agg [I 4,.v (.string ⟨#[115,117,110]⟩),.lst false 1 [],.lst false 1 [I 0,I 1],.v (.string ⟨#[]⟩)],.agg [I 5,.v (.string ⟨#[97,105,109]⟩),.lst false 1 [.v (.string ⟨#[97]⟩)],.lst false 1 [I 0],.v (.string ⟨#[]⟩)],.agg [I 6,.v (.string ⟨#[115,111,105,108]⟩),.lst false 1 [.v (.string ⟨#[97]⟩)],.lst false 1 [I 1,I 300],.v (.string ⟨#[]⟩)]]) 2).bind fun a =>
       (QsF n ([I 0]) 300 ([.lst false 1 [],.lst false 1 []])).bind fun b =>
       if a.2.2=0 then
        if b.2.2=0 then
         if((a.1==1700)&&((a.2.1==1700)&&true))=true then
          some (b.2.1==300)
         else
         some false
        else
        some false
       else
       some false
      else
      some false
     else
     some false
    else
    some false
   else
   some false
  else
  some false
 else
 some false
theorem Qtb {n:Nat}  {r:Bool}(h:QsL n =some r):Computes cx 4 [] (B r):=by
 unfold QsL at h;have⟨t1,h1,h⟩:=bo h;have q:=Qa (((Qfx h1).le (.cons (.full _ _ _) (.cons (.refl _) (.nil))) (.refl _)):Computes cx 11 [.lst true 5 [],.agg [I 1,Qr5 ⟨#[115,101,99,116,111,114]⟩,.lst false 1 [Qr5 ⟨#[110]⟩],.lst false 1 [I 0],Qr5 ⟨#[]⟩]] (I t1)) (Qa ((by unfold Qh;omega):Qh 1) QL);let o(l:jOj):=.ix (-12)::.ix (-12)::.ix (-12)::.ix (-12)::.ix (-12)::.ix (-12)::.ix (-12)::.ix (-12)::.ix (-12)::.ix (-12)::.ix (-12)::.ix (-12)::.ix (-12)::.ix (-12)::.ix (-12)::.ix (-12)::.ix (-12)::.no::.no::.no::b1::.ix (-12)::.no::.no::.ret (I t1)::l;obtain⟨f,h⟩|⟨f,h⟩:=io h
 ·have⟨t3,h3,h⟩:=bo h;have q:=Qa (Qfx h3) (Qa ((by unfold Qh;omega):Qh 2) (Qa ((by unfold Qh;omega):Qh 1) (Qa (nef f) q)));let o l:=o (b0::(no 6 (b1::.ix (-12)::.ix (-10)::.no::.ret (I t3)::l)));obtain⟨g,h⟩|⟨g,h⟩:=io h
  ·have⟨t5,h5,h⟩:=bo h;have q:=Qa (Qfx h5) (Qa ((by unfold Qh;omega):Qh 3) (Qa ((by unfold Qh;omega):Qh 2) (Qa (nef g) q)));let o l:=o (b0::(no 5 (b1::.ix (-12)::.ix (-10)::.no::.ret (I t5)::l)));obtain⟨i,h⟩|⟨i,h⟩:=io h
   ·have⟨t7,h7,h⟩:=bo h;have q:=Qa (Qfx h7) (Qa ((by unfold Qh;omega):Qh 4) (Qa ((by unfold Qh;omega):Qh 3) (Qa (nef i) q)));let o l:=o (b0::(no 5 (b1::.ix (-12)::.ix (-10)::.no::.ret (I t7)::l)));obtain⟨j,h⟩|⟨j,h⟩:=io h
    ·have⟨t9,h9,h⟩:=bo h;have q:=Qa (Qfx h9) (Qa ((by unfold Qh;omega):Qh 5) (Qa ((by unfold Qh;omega):Qh 4) (Qa (nef j) q)));let o l:=o (b0::(no 5 (b1::.ix (-12)::.ix (-10)::.no::.ret (I t9)::l)));obtain⟨a,h⟩|⟨a,h⟩:=io h
     ·have⟨t11,h11,h⟩:=bo h;have q:=Qa (Qfx h11) (Qa ((by unfold Qh;omega):Qh 6) (Qa ((by unfold Qh;omega):Qh 5) (Qa (nef a) q)));let o l:=o (b0::(no 5 (b1::.ix (-12)::.ix (-10)::.no::.ret (I t11)::l)));obtain⟨b,h⟩|⟨b,h⟩:=io h
      ·have⟨t13,h13,h⟩:=bo h;have⟨t14,h14,h⟩:=bo h;have q:=Qa (((Qs5 h14).le (.cons (.full _ _ _) (.cons (.refl _) (.cons (.full _ _ _) (.nil)))) (.refl _)):Computes cx 7 [.lst true 1 [I 0],I 300,.lst true 1 [.lst false 1 [],.lst false 1 []]] (.tup [.lst false 1 t14.1,I t14.2.1,I t14.2.2])) (Qa (Xw h13) (Qa ((by unfold Qh;omega):Qh 6) (Qa (nef b) q)));let o l:=o (b0::.no::.no::.no::.no::.ix 0::.ret (.tup [.agg [I t13.1,I t13.2.1],I t13.2.2])::.ix (-12)::.ix (-12)::.ix (-12)::.ix (-12)::.ret (.tup [.lst false 1 t14.1,I t14.2.1,I t14.2.2])::l);obtain⟨c,h⟩|⟨c,h⟩:=io h
       ·have q:=Qa (eqt c) q;obtain⟨d,h⟩|⟨d,h⟩:=io h
        ·have q:=Qa (eqt d) q;let o l:=o (b1::b1::.ix (-12)::l);obtain⟨e,h⟩|⟨e,h⟩:=io h
         ·cases h;exact rf (o [b1]) (Qa e q)
         obtain rfl:=oi h;exact rf (o [b0]) (Qa (QA e) q)
        obtain rfl:=oi h;exact rf (o [b1,b0,.no]) (Qa (eqf d) q)
       obtain rfl:=oi h;exact rf (o [b0,.no,.no]) (Qa (eqf c) q)
      obtain rfl:=oi h;exact rf (o [b1,.no]) (Qa (net b) q)
     obtain rfl:=oi h;exact rf (o [b1,.no]) (Qa (net a) q)
    obtain rfl:=oi h;exact rf (o [b1,.no]) (Qa (net j) q)
   obtain rfl:=oi h;exact rf (o [b1,.no]) (Qa (net i) q)
  obtain rfl:=oi h;exact rf (o [b1,.no]) (Qa (net g) q)
 obtain rfl:=oi h;exact rf (o [b1,.no]) (Qa (net f) q)
def QsM (x:Int):D:=.v (.int .u8 x)
def Quv (d:D):Option (Int):=Ya .u8 d
theorem QuL {d:D}{x:Int}(h:Quv d=some x):d=QsM x:=WS h
def QsG (n:Nat)(a:Int)(sa:(jSj×Int)):Option (jSj×Int⊕jSj) := if sa.2=0 then some (.inr sa.1) else if(Int.tmod sa.2 10)<0 then if Qh (0 - (Int.tmod sa.2 10)) then if Qh (48+(0 - (Int.tmod sa.2 10))) then if(Utf8.encode (IntKind.wrap .i32 (48+(0 - (Int.tmod sa.2 10))))).size+sa.1.size<=9223372036854775807 then if Qh (Int.tdiv sa.2 10) then some (.inl (((Utf8.encode (IntKind.wrap .i32 (48+(0 - (Int.tmod sa.2 10)))))++sa.1),(Int.tdiv sa.2 10))) else none else none else none else none else if Qh (48+(Int.tmod sa.2 10)) then if(Utf8.encode (IntKind.wrap .i32 (48+(Int.tmod sa.2 10)))).size+sa.1.size<=9223372036854775807 then if Qh (Int.tdiv sa.2 10) then some (.inl (((Utf8.encode (IntKind.wrap .i32 (48+(Int.tmod sa.2 10))))++sa.1),(Int.tdiv sa.2 10))) else none else none else none
noncomputable def Qt0 (a:Int):Lp (jSj×Int) (jSj):=⟨fun sa=>[(0,.d (I a)),(3,.d (Qr5 sa.1)),(4,.d (I sa.2))],fun _=>[],fun _=>(.exit 0),fun e=>[(0,.d (I a)),(3,.d (Qr5 e))],fun _=>[]⟩
theorem QtZ {n c}(sa)(r)(h:QsG n c sa=some r):Rl (ZJ cx.P 6 0) 30 0 false (Qt0 c) sa r:=by
 unfold QsG at h;obtain⟨a,h⟩|⟨a,h⟩:=io h
 ·cases h;exact rx 6 [b0] [] [0,3] [] (Qa (nef a) QL)
 have q:=Qa ((by decide):(10:Int)≠0) (Qa (net a) QL);obtain⟨b,h⟩|⟨b,h⟩:=io h
 ·have⟨ha3,h⟩:=gd h;have⟨ha4,h⟩:=gd h;have⟨ha5,h⟩:=gd h;have⟨ha6,h⟩:=gd h;cases h;exact rn 6 [b1,b1] [] [0,3,4] [] (Qa ((by decide):(10:Int)≠0) (Qa ha6 (Qa ha5 (Qa ha4 (Qa ha3 (Qa (jDj b) q))))))
 have⟨ha3,h⟩:=gd h;have⟨ha4,h⟩:=gd h;have⟨ha5,h⟩:=gd h;cases h;exact rn 6 [b1,b0] [] [0,3,4] [] (Qa ((by decide):(10:Int)≠0) (Qa ha5 (Qa ha4 (Qa ha3 (Qa (jEj b) q)))))
def KF (n:Nat)(a:Int):Option (jSj) := if a=0 then some ⟨#[48]⟩ else(Q2 (QsG n a) n (⟨#[]⟩,a)).bind fun b=>if a<0 then if(⟨#[45]⟩:jSj).size+b.size<=9223372036854775807 then some ((⟨#[45]⟩:jSj)++b) else none else some b
theorem QsC {n a r}(h:KF n a=some r):Computes cx 6 [I a] (Qr5 r):=by
 unfold KF at h;obtain⟨b,h⟩|⟨b,h⟩:=io h
 ·cases h;exact rf [b1] (Qa (eqt b) QL)
 have⟨t2,h2,h⟩:=bo h;have q:=Qa (QH QtZ h2) (Qa (eqf b) QL);let o(l:jOj):=b0::.lp [] [0,3,4] [] (.exit 0) [(0,.d (I a)),(3,.d (Qr5 t2))] [] 37::l;obtain⟨c,h⟩|⟨c,h⟩:=io h
 ·have⟨h4,h⟩:=gd h;cases h;exact rf (o [b1]) (Qa h4 (Qa (jDj c) q))
 obtain rfl:=oi h;exact rf (o [b0]) (Qa (jEj c) q)
def Qsz (n:Nat)(f:jVj)(a1 a2 a3 a4 a5 a6 a7:Int)(sa:(Int×jVj×jVj)):Option (Int×jVj×jVj⊕jVj×jVj) := if sa.1<((f).length:Int) then(el Quv f sa.1).bind fun b=>(KF n sa.1).bind fun a=>if(⟨#[109]⟩:jSj).size+a.size<=9223372036854775807 then if Qh (((sa.2.1).length:Int)+1) then if Wa 88 (0+(sa.2.1).length) then(Qfe n sa.2.1 (((sa.2.1).length:Int)+1) (⟨#[109,105,114,114,111,114]⟩) ([.v (.string ((⟨#[109]⟩:jSj)++a)),.v (.string ⟨#[110]⟩)]) ([I 0,I 1]) (⟨#[]⟩)).bind fun e=>if e=0 then if Wa 88 ((sa.2.1).length+1) then if Qh ((((sa.2.1++([.agg [I (((sa.2.1).length:Int)+1),.v (.string ⟨#[109,105,114,114,111,114]⟩),.lst false 1 [.v (.string ((⟨#[109]⟩:jSj)++a)),.v (.string ⟨#[110]⟩)],.lst false 1 [I 0,I 1],.v (.string ⟨#[]⟩)]]:jVj)):jVj).length:Int)+1) then if Wa 88 (0+((sa.2.1++([.agg [I (((sa.2.1).length:Int)+1),.v (.string ⟨#[109,105,114,114,111,114]⟩),.lst false 1 [.v (.string ((⟨#[109]⟩:jSj)++a)),.v (.string ⟨#[110]⟩)],.lst false 1 [I 0,I 1],.v (.string ⟨#[]⟩)]]:jVj)):jVj).length) then(Qfe n (sa.2.1++([.agg [I (((sa.2.1).length:Int)+1),.v (.string ⟨#[109,105,114,114,111,114]⟩),.lst false 1 [.v (.string ((⟨#[109]⟩:jSj)++a)),.v (.string ⟨#[110]⟩)],.lst false 1 [I 0,I 1],.v (.string ⟨#[]⟩)]]:jVj)) ((((sa.2.1++([.agg [I (((sa.2.1).length:Int)+1),.v (.string ⟨#[109,105,114,114,111,114]⟩),.lst false 1 [.v (.string ((⟨#[109]⟩:jSj)++a)),.v (.string ⟨#[110]⟩)],.lst false 1 [I 0,I 1],.v (.string ⟨#[]⟩)]]:jVj)):jVj).length:Int)+1) (⟨#[115,111,105,108]⟩) ([.v (.string ((⟨#[109]⟩:jSj)++a))]) ([I 0,I (IntKind.wrap .i64 b)]) (⟨#[]⟩)).bind fun c=>if c=0 then if Wa 88 (((sa.2.1++([.agg [I (((sa.2.1).length:Int)+1),.v (.string ⟨#[109,105,114,114,111,114]⟩),.lst false 1 [.v (.string ((⟨#[109]⟩:jSj)++a)),.v (.string ⟨#[110]⟩)],.lst false 1 [I 0,I 1],.v (.string ⟨#[]⟩)]]:jVj)):jVj).length+1) then if Qh (((((sa.2.1++([.agg [I (((sa.2.1).length:Int)+1),.v (.string ⟨#[109,105,114,114,111,114]⟩),.lst false 1 [.v (.string ((⟨#[109]⟩:jSj)++a)),.v (.string ⟨#[110]⟩)],.lst false 1 [I 0,I 1],.v (.string ⟨#[]⟩)]]:jVj))++([.agg [I ((((sa.2.1++([.agg [I (((sa.2.1).length:Int)+1),.v (.string ⟨#[109,105,114,114,111,114]⟩),.lst false 1 [.v (.string ((⟨#[109]⟩:jSj)++a)),.v (.string ⟨#[110]⟩)],.lst false 1 [I 0,I 1],.v (.string ⟨#[]⟩)]]:jVj)):jVj).length:Int)+1),.v (.string ⟨#[115,111,105,108]⟩),.lst false 1 [.v (.string ((⟨#[109]⟩:jSj)++a))],.lst false 1 [I 0,I (IntKind.wrap .i64 b)],.v (.string ⟨#[]⟩)]]:jVj)):jVj).length:Int)+1) then if Wa 88 (0+(((sa.2.1++([.agg [I (((sa.2.1).length:Int)+1),.v (.string ⟨#[109,105,114,114,111,114]⟩),.lst false 1 [.v (.string ((⟨#[109]⟩:jSj)++a)),.v (.string ⟨#[110]⟩)],.lst false 1 [I 0,I 1],.v (.string ⟨#[]⟩)]]:jVj))++([.agg [I ((((sa.2.1++([.agg [I (((sa.2.1).length:Int)+1),.v (.string ⟨#[109,105,114,114,111,114]⟩),.lst false 1 [.v (.string ((⟨#[109]⟩:jSj)++a)),.v (.string ⟨#[110]⟩)],.lst false 1 [I 0,I 1],.v (.string ⟨#[]⟩)]]:jVj)):jVj).length:Int)+1),.v (.string ⟨#[115,111,105,108]⟩),.lst false 1 [.v (.string ((⟨#[109]⟩:jSj)++a))],.lst false 1 [I 0,I (IntKind.wrap .i64 b)],.v (.string ⟨#[]⟩)]]:jVj)):jVj).length) then(Qfe n ((sa.2.1++([.agg [I (((sa.2.1).length:Int)+1),.v (.string ⟨#[109,105,114,114,111,114]⟩),.lst false 1 [.v (.string ((⟨#[109]⟩:jSj)++a)),.v (.string ⟨#[110]⟩)],.lst false 1 [I 0,I 1],.v (.string ⟨#[]⟩)]]:jVj))++([.agg [I ((((sa.2.1++([.agg [I (((sa.2.1).length:Int)+1),.v (.string ⟨#[109,105,114,114,111,114]⟩),.lst false 1 [.v (.string ((⟨#[109]⟩:jSj)++a)),.v (.string ⟨#[110]⟩)],.lst false 1 [I 0,I 1],.v (.string ⟨#[]⟩)]]:jVj)):jVj).length:Int)+1),.v (.string ⟨#[115,111,105,108]⟩),.lst false 1 [.v (.string ((⟨#[109]⟩:jSj)++a))],.lst false 1 [I 0,I (IntKind.wrap .i64 b)],.v (.string ⟨#[]⟩)]]:jVj)) (((((sa.2.1++([.agg [I (((sa.2.1).length:Int)+1),.v (.string ⟨#[109,105,114,114,111,114]⟩),.lst false 1 [.v (.string ((⟨#[109]⟩:jSj)++a)),.v (.string ⟨#[110]⟩)],.lst false 1 [I 0,I 1],.v (.string ⟨#[]⟩)]]:jVj))++([.agg [I ((((sa.2.1++([.agg [I (((sa.2.1).length:Int)+1),.v (.string ⟨#[109,105,114,114,111,114]⟩),.lst false 1 [.v (.string ((⟨#[109]⟩:jSj)++a)),.v (.string ⟨#[110]⟩)],.lst false 1 [I 0,I 1],.v (.string ⟨#[]⟩)]]:jVj)):jVj).length:Int)+1),.v (.string ⟨#[115,111,105,108]⟩),.lst false 1 [.v (.string ((⟨#[109]⟩:jSj)++a))],.lst false 1 [I 0,I (IntKind.wrap .i64 b)],.v (.string ⟨#[]⟩)]]:jVj)):jVj).length:Int)+1) (⟨#[97,105,109]⟩) ([.v (.string ((⟨#[109]⟩:jSj)++a))]) ([I 0]) (⟨#[]⟩)).bind fun d=>if d=0 then if Wa 88 ((((sa.2.1++([.agg [I (((sa.2.1).length:Int)+1),.v (.string ⟨#[109,105,114,114,111,114]⟩),.lst false 1 [.v (.string ((⟨#[109]⟩:jSj)++a)),.v (.string ⟨#[110]⟩)],.lst false 1 [I 0,I 1],.v (.string ⟨#[]⟩)]]:jVj))++([.agg [I ((((sa.2.1++([.agg [I (((sa.2.1).length:Int)+1),.v (.string ⟨#[109,105,114,114,111,114]⟩),.lst false 1 [.v (.string ((⟨#[109]⟩:jSj)++a)),.v (.string ⟨#[110]⟩)],.lst false 1 [I 0,I 1],.v (.string ⟨#[]⟩)]]:jVj)):jVj).length:Int)+1),.v (.string ⟨#[115,111,105,108]⟩),.lst false 1 [.v (.string ((⟨#[109]⟩:jSj)++a))],.lst false 1 [I 0,I (IntKind.wrap .i64 b)],.v (.string ⟨#[]⟩)]]:jVj)):jVj).length+1) then if Wa 8 ((sa.2.2).length+1) then if Qh (sa.1+1) then some (.inl ((sa.1+1),(((sa.2.1++([.agg [I (((sa.2.1).length:Int)+1),.v (.string ⟨#[109,105,114,114,111,114]⟩),.lst false 1 [.v (.string ((⟨#[109]⟩:jSj)++a)),.v (.string ⟨#[110]⟩)],.lst false 1 [I 0,I 1],.v (.string ⟨#[]⟩)]]:jVj))++([.agg [I ((((sa.2.1++([.agg [I (((sa.2.1).length:Int)+1),.v (.string ⟨#[109,105,114,114,111,114]⟩),.lst false 1 [.v (.string ((⟨#[109]⟩:jSj)++a)),.v (.string ⟨#[110]⟩)],.lst false 1 [I 0,I 1],.v (.string ⟨#[]⟩)]]:jVj)):jVj).length:Int)+1),.v (.string ⟨#[115,111,105,108]⟩),.lst false 1 [.v (.string ((⟨#[109]⟩:jSj)++a))],.lst false 1 [I 0,I (IntKind.wrap .i64 b)],.v (.string ⟨#[]⟩)]]:jVj))++([.agg [I (((((sa.2.1++([.agg [I (((sa.2.1).length:Int)+1),.v (.string ⟨#[109,105,114,114,111,114]⟩),.lst false 1 [.v (.string ((⟨#[109]⟩:jSj)++a)),.v (.string ⟨#[110]⟩)],.lst false 1 [I 0,I 1],.v (.string ⟨#[]⟩)]]:jVj))++([.agg [I ((((sa.2.1++([.agg [I (((sa.2.1).length:Int)+1),.v (.string ⟨#[109,105,114,114,111,114]⟩),.lst false 1 [.v (.string ((⟨#[109]⟩:jSj)++a)),.v (.string ⟨#[110]⟩)],.lst false 1 [I 0,I 1],.v (.string ⟨#[]⟩)]]:jVj)):jVj).length:Int)+1),.v (.string ⟨#[115,111,105,108]⟩),.lst false 1 [.v (.string ((⟨#[109]⟩:jSj)++a))],.lst false 1 [I 0,I (IntKind.wrap .i64 b)],.v (.string ⟨#[]⟩)]]:jVj)):jVj).length:Int)+1),.v (.string ⟨#[97,105,109]⟩),.lst false 1 [.v (.string ((⟨#[109]⟩:jSj)++a))],.lst false 1 [I 0],.v (.string ⟨#[]⟩)]]:jVj)),(sa.2.2++([I (IntKind.wrap .i64 b)]:jVj)))) else none else none else none else none else none else none else none else none else none else none else none else none else none else none else none else some (.inr (sa.2.1,sa.2.2))
noncomputable def QtG (a:jVj)(a1 a2 a3 a4 a5 a6 a7:Int):Lp (Int×jVj×jVj) (jVj×jVj):=⟨fun sa=>[(0,.d (.lst false 1 a)),(5,.ptr 1 0 0 0 0),(7,.d (I (Int.tmod (IntKind.wrap .i64 a1) 101))),(8,.d (I (1+(Int.tmod (IntKind.wrap .i64 a2) 20)))),(9,.ptr 22 0 0 0 0),(10,.own 132 0),(69,.d (.lst false 1 a)),(70,.d (I ((a).length:Int))),(71,.d (I sa.1))],fun sa=>[(1,.box (.d (.agg [.v (.int .u8 a3),.v (.int .u8 a4),.v (.int .u8 a5),.v (.int .u8 a6),.v (.int .u8 a7)]))),(22,.box (.own 64 0)),(64,.row 0 5 sa.2.1),(132,.row 0 1 sa.2.2)],fun _=>(.exit 0),fun _=>[(0,.d (.lst false 1 a)),(5,.ptr 1 0 0 0 0),(7,.d (I (Int.tmod (IntKind.wrap .i64 a1) 101))),(8,.d (I (1+(Int.tmod (IntKind.wrap .i64 a2) 20)))),(9,.ptr 22 0 0 0 0),(10,.own 132 0)],fun e=>[(1,.box (.d (.agg [.v (.int .u8 a3),.v (.int .u8 a4),.v (.int .u8 a5),.v (.int .u8 a6),.v (.int .u8 a7)]))),(22,.box (.own 64 0)),(64,.row 0 5 e.1),(132,.row 0 1 e.2)]⟩
theorem Qtx {n e a1 a2 a3 a4 a5 a6 a7}(sa)(r)(h:Qsz n e a1 a2 a3 a4 a5 a6 a7 sa=some r):Rl (ZJ cx.P 3 0) 295 0 false (QtG e a1 a2 a3 a4 a5 a6 a7) sa r:=by
 unfold Qsz at h;obtain⟨c,h⟩|⟨c,h⟩:=io h
 ·have⟨ta2,ha2,h⟩:=bo h;have⟨ta3,ha3,h⟩:=bo h;have⟨ha4,h⟩:=gd h;have⟨ha5,h⟩:=gd h;have⟨ha6,h⟩:=gd h;have⟨ta7,ha7,h⟩:=bo h;obtain⟨d,h⟩|⟨d,h⟩:=io h
  ·have⟨ha9,h⟩:=gd h;have⟨ha10,h⟩:=gd h;have⟨ha11,h⟩:=gd h;have⟨ta12,ha12,h⟩:=bo h;obtain⟨a,h⟩|⟨a,h⟩:=io h
   ·have⟨ha14,h⟩:=gd h;have⟨ha15,h⟩:=gd h;have⟨ha16,h⟩:=gd h;have⟨ta17,ha17,h⟩:=bo h;obtain⟨b,h⟩|⟨b,h⟩:=io h
    ·have⟨ha19,h⟩:=gd h;have⟨ha20,h⟩:=gd h;have⟨ha21,h⟩:=gd h;cases h;exact rn 133 [b1,.el (QsM ta2),.ret (Qr5 ta3),b1,.ix (-12),.ix (-10),b1,.ret (I ta7),b0,b1,.no,b1,.ix (-12),.ix (-10),b1,.ret (I ta12),b0,b1,.no,b1,.ix (-12),.ix (-10),b1,.ret (I ta17),b0,b1,.no,b1] [] [0,5,7,8,9,10,69,70,71] [1,22,64,132] (Qa ha21 (Qa (ro 3 ha20) (Qa (ro 52 ha19) (Qa (nef b) (Qa (Qfx ha17) (Qa (ro 52 ha16) (Qa ha15 (Qa (ro 52 ha14) (Qa (nef a) (Qa (Qfx ha12) (Qa (ro 52 ha11) (Qa ha10 (Qa (ro 52 ha9) (Qa (nef d) (Qa (Qfx ha7) (Qa (ro 52 ha6) (Qa ha5 (Qa ha4 (Qa (QsC ha3) (allE QuL ha2 (Qa (jDj c) QL)))))))))))))))))))))
    cases h
   cases h
  cases h
 cases h;exact rx 133 [b0] [] [0,5,7,8,9,10] [1,22,64,132] (Qa (jEj c) QL)
def Qs1 (n:Nat)(c:jVj)(a1 a2 a3 a4 a5 a6 a7:Int)(d:jVj×jVj)(sa:(Int×jVj×jVj)):Option (Int×jVj×jVj⊕jVj×jVj) := if sa.1<((c).length:Int) then if 0<=sa.1 then if(IntKind.wrap .u8 (((BitVec.ofInt 8 (Int.fdiv a3 (2 ^ (min (Int.toNat sa.1) 8))) &&& BitVec.ofInt 8 1).toNat:Nat):Int))=1 then if Wa 8 ((sa.2.2).length+1) then(KF n sa.1).bind fun a=>if(⟨#[109]⟩:jSj).size+a.size<=9223372036854775807 then if Qh (((sa.2.1).length:Int)+1) then if Wa 88 (0+(sa.2.1).length) then(Qfe n sa.2.1 (((sa.2.1).length:Int)+1) (⟨#[99,108,101,97,110]⟩) ([.v (.string ((⟨#[109]⟩:jSj)++a))]) ([I 0]) (⟨#[]⟩)).bind fun b=>if b=0 then if Wa 88 ((sa.2.1).length+1) then if Qh (sa.1+1) then some (.inl ((sa.1+1),(sa.2.1++([.agg [I (((sa.2.1).length:Int)+1),.v (.string ⟨#[99,108,101,97,110]⟩),.lst false 1 [.v (.string ((⟨#[109]⟩:jSj)++a))],.lst false 1 [I 0],.v (.string ⟨#[]⟩)]]:jVj)),(sa.2.2++([I sa.1]:jVj)))) else none else none else none else none else none else none else none else if Qh (sa.1+1) then some (.inl ((sa.1+1),sa.2.1,sa.2.2)) else none else none else some (.inr (sa.2.1,sa.2.2))
noncomputable def QtF (b:jVj)(a1 a2 a3 a4 a5 a6 a7:Int)(a:jVj×jVj):Lp (Int×jVj×jVj) (jVj×jVj):=⟨fun sa=>[(0,.d (.lst false 1 b)),(7,.d (I (Int.tmod (IntKind.wrap .i64 a1) 101))),(8,.d (I (1+(Int.tmod (IntKind.wrap .i64 a2) 20)))),(9,.ptr 22 0 0 0 0),(10,.own 132 0),(14,.d (I 0)),(15,.ptr 274 0 0 0 0),(16,.d (I 0)),(17,.d (.v (.int .u8 a3))),(18,.own 286 0),(106,.d (.agg [.v (.int .u8 a3),.v (.int .u8 a4),.v (.int .u8 a5),.v (.int .u8 a6),.v (.int .u8 a7)])),(107,.d (I 0)),(112,.d (I ((b).length:Int))),(113,.d (I sa.1))],fun sa=>[(22,.box (.own 64 0)),(64,.row 0 5 sa.2.1),(132,.row 0 1 a.2),(274,.box (.d (.agg [I 0,I 0,I 0,I 0,I 0,I 0]))),(286,.row 0 1 sa.2.2)],fun _=>(.exit 4),fun _=>[(0,.d (.lst false 1 b)),(7,.d (I (Int.tmod (IntKind.wrap .i64 a1) 101))),(8,.d (I (1+(Int.tmod (IntKind.wrap .i64 a2) 20)))),(9,.ptr 22 0 0 0 0),(10,.own 132 0),(14,.d (I 0)),(15,.ptr 274 0 0 0 0),(16,.d (I 0)),(18,.own 286 0),(106,.d (.agg [.v (.int .u8 a3),.v (.int .u8 a4),.v (.int .u8 a5),.v (.int .u8 a6),.v (.int .u8 a7)])),(107,.d (I 0))],fun e=>[(22,.box (.own 64 0)),(64,.row 0 5 e.1),(132,.row 0 1 a.2),(274,.box (.d (.agg [I 0,I 0,I 0,I 0,I 0,I 0]))),(286,.row 0 1 e.2)]⟩
theorem Qtw {n e a1 a2 a3 a4 a5 a6 a7 d}(sa)(r)(h:Qs1 n e a1 a2 a3 a4 a5 a6 a7 d sa=some r):Rl (ZJ cx.P 3 2) 295 0 false (QtF e a1 a2 a3 a4 a5 a6 a7 d) sa r:=by
 unfold Qs1 at h;obtain⟨b,h⟩|⟨b,h⟩:=io h
 ·have⟨ha2,h⟩:=gd h;have q:=Qa ha2 (Qa (jDj b) QL);obtain⟨c,h⟩|⟨c,h⟩:=io h
  ·have⟨ha4,h⟩:=gd h;have⟨ta5,ha5,h⟩:=bo h;have⟨ha6,h⟩:=gd h;have⟨ha7,h⟩:=gd h;have⟨ha8,h⟩:=gd h;have⟨ta9,ha9,h⟩:=bo h;obtain⟨a,h⟩|⟨a,h⟩:=io h
   ·have⟨ha11,h⟩:=gd h;have⟨ha12,h⟩:=gd h;cases h;exact rn 287 [b1,b1,b1,.ret (Qr5 ta5),b1,.ix (-12),.ix (-10),b1,.ret (I ta9),b0,b1,.no] [] [0,7,8,9,10,14,15,16,17,18,106,107,112,113] [22,64,132,274,286] (Qa ha12 (Qa (ro 52 ha11) (Qa (nef a) (Qa (Qfx ha9) (Qa (ro 52 ha8) (Qa ha7 (Qa ha6 (Qa (QsC ha5) (Qa (ro 3 ha4) (Qa (eqt c) q))))))))))
   cases h
  have⟨ha4,h⟩:=gd h;cases h;exact rn 287 [b1,b0] [] [0,7,8,9,10,14,15,16,17,18,106,107,112,113] [22,64,132,274,286] (Qa ha4 (Qa (eqf c) q))
 cases h;exact rx 287 [b0] [] [0,7,8,9,10,14,15,16,18,106,107] [22,64,132,274,286] (Qa (jEj b) QL)
def Qs0 (n:Nat)(f:jVj)(a1 a2 a3 a4 a5 a6 a7:Int)(c:jVj×Int×Int)(e:Int×Int×Int)(sa:(Int×jVj)):Option (Int×jVj⊕jVj) := if sa.1<((c.1).length:Int) then(el Vt c.1 sa.1).bind fun a=>if a<0 then none else if a>1000 then none else(KF n sa.1).bind fun b=>if(⟨#[109]⟩:jSj).size+b.size<=9223372036854775807 then if Qh (((sa.2).length:Int)+1) then if Wa 88 (0+(sa.2).length) then(Qfe n sa.2 (((sa.2).length:Int)+1) (⟨#[115,111,105,108]⟩) ([.v (.string ((⟨#[109]⟩:jSj)++b))]) ([I 1,I a]) (⟨#[]⟩)).bind fun d=>if d=0 then if Wa 88 ((sa.2).length+1) then if Qh (sa.1+1) then some (.inl ((sa.1+1),(sa.2++([.agg [I (((sa.2).length:Int)+1),.v (.string ⟨#[115,111,105,108]⟩),.lst false 1 [.v (.string ((⟨#[109]⟩:jSj)++b))],.lst false 1 [I 1,I a],.v (.string ⟨#[]⟩)]]:jVj)))) else none else none else none else none else none else none else some (.inr sa.2)
noncomputable def QtE (c:jVj)(a1 a2 a3 a4 a5 a6 a7:Int)(a:jVj×Int×Int)(b:Int×Int×Int):Lp (Int×jVj) (jVj):=⟨fun sa=>[(0,.d (.lst false 1 c)),(7,.d (I (Int.tmod (IntKind.wrap .i64 a1) 101))),(8,.d (I (1+(Int.tmod (IntKind.wrap .i64 a2) 20)))),(9,.ptr 22 0 0 0 0),(10,.d (.lst false 1 a.1)),(14,.d (I (0+a.2.1))),(15,.ptr 274 0 0 0 0),(16,.d (I 0)),(106,.d (.agg [.v (.int .u8 a3),.v (.int .u8 a4),.v (.int .u8 a5),.v (.int .u8 a6),.v (.int .u8 a7)])),(107,.d (I 0)),(197,.d (.lst false 1 a.1)),(198,.d (I ((a.1).length:Int))),(199,.d (I sa.1))],fun sa=>[(22,.box (.own 64 0)),(64,.row 0 5 sa.2),(274,.box (.d (.agg [I 0,I b.1,I 0,I 0,I 0,I 0])))],fun _=>(.exit 6),fun _=>[(0,.d (.lst false 1 c)),(7,.d (I (Int.tmod (IntKind.wrap .i64 a1) 101))),(8,.d (I (1+(Int.tmod (IntKind.wrap .i64 a2) 20)))),(9,.ptr 22 0 0 0 0),(10,.d (.lst false 1 a.1)),(14,.d (I (0+a.2.1))),(15,.ptr 274 0 0 0 0),(106,.d (.agg [.v (.int .u8 a3),.v (.int .u8 a4),.v (.int .u8 a5),.v (.int .u8 a6),.v (.int .u8 a7)])),(107,.d (I 0))],fun e=>[(22,.box (.own 64 0)),(64,.row 0 5 e),(274,.box (.d (.agg [I 0,I b.1,I 0,I 0,I 0,I 0])))]⟩
theorem Qtv {n g a1 a2 a3 a4 a5 a6 a7 e f}(sa)(r)(h:Qs0 n g a1 a2 a3 a4 a5 a6 a7 e f sa=some r):Rl (ZJ cx.P 3 3) 295 0 false (QtE g a1 a2 a3 a4 a5 a6 a7 e f) sa r:=by
 unfold Qs0 at h;obtain⟨b,h⟩|⟨b,h⟩:=io h
 ·have⟨ta2,ha2,h⟩:=bo h;obtain⟨c,h⟩|⟨c,h⟩:=io h
  ·cases h
  obtain⟨d,h⟩|⟨d,h⟩:=io h
  ·cases h
  have⟨ta5,ha5,h⟩:=bo h;have⟨ha6,h⟩:=gd h;have⟨ha7,h⟩:=gd h;have⟨ha8,h⟩:=gd h;have⟨ta9,ha9,h⟩:=bo h;obtain⟨a,h⟩|⟨a,h⟩:=io h
  ·have⟨ha11,h⟩:=gd h;have⟨ha12,h⟩:=gd h;cases h;exact rn 426 [b1,.el (Q3 ta2),b0,b0,.ret (Qr5 ta5),b1,.ix (-12),.ix (-10),b1,.ret (I ta9),b0,b1,.no] [] [0,7,8,9,10,14,15,16,106,107,197,198,199] [22,64,274] (Qa ha12 (Qa (ro 52 ha11) (Qa (nef a) (Qa (Qfx ha9) (Qa (ro 52 ha8) (Qa ha7 (Qa ha6 (Qa (QsC ha5) (Qa ((by unfold Qh;omega):Qh 1) (Qa (jEj d) (Qa (jEj c) (allE Qi ha2 (Qa (jDj b) QL)))))))))))))
  cases h
 cases h;exact rx 426 [b0] [] [0,7,8,9,10,14,15,106,107] [22,64,274] (Qa (jEj b) QL)
def QsZ (n:Nat)(c:jVj)(a1 a2 a3 a4 a5 a6 a7:Int)(d:jVj×Int×Int)(e:Int×Int×Int)(sa:(Int×jVj×jVj)):Option (Int×jVj×jVj⊕jVj×jVj) := if sa.1<((c).length:Int) then if 0<=sa.1 then if(IntKind.wrap .u8 (((BitVec.ofInt 8 (Int.fdiv a4 (2 ^ (min (Int.toNat sa.1) 8))) &&& BitVec.ofInt 8 1).toNat:Nat):Int))=1 then if Wa 8 ((sa.2.2).length+1) then(KF n sa.1).bind fun a=>if(⟨#[109]⟩:jSj).size+a.size<=9223372036854775807 then if Qh (((sa.2.1).length:Int)+1) then if Wa 88 (0+(sa.2.1).length) then(Qfe n sa.2.1 (((sa.2.1).length:Int)+1) (⟨#[99,108,101,97,110]⟩) ([.v (.string ((⟨#[109]⟩:jSj)++a))]) ([I 1]) (⟨#[]⟩)).bind fun b=>if b=0 then if Wa 88 ((sa.2.1).length+1) then if Qh (sa.1+1) then some (.inl ((sa.1+1),(sa.2.1++([.agg [I (((sa.2.1).length:Int)+1),.v (.string ⟨#[99,108,101,97,110]⟩),.lst false 1 [.v (.string ((⟨#[109]⟩:jSj)++a))],.lst false 1 [I 1],.v (.string ⟨#[]⟩)]]:jVj)),(sa.2.2++([I sa.1]:jVj)))) else none else none else none else none else none else none else none else if Qh (sa.1+1) then some (.inl ((sa.1+1),sa.2.1,sa.2.2)) else none else none else some (.inr (sa.2.1,sa.2.2))
noncomputable def QtD (c:jVj)(a1 a2 a3 a4 a5 a6 a7:Int)(a:jVj×Int×Int)(b:Int×Int×Int):Lp (Int×jVj×jVj) (jVj×jVj):=⟨fun sa=>[(0,.d (.lst false 1 c)),(7,.d (I (Int.tmod (IntKind.wrap .i64 a1) 101))),(8,.d (I (1+(Int.tmod (IntKind.wrap .i64 a2) 20)))),(9,.ptr 22 0 0 0 0),(10,.d (.lst false 1 a.1)),(14,.d (I (0+a.2.1))),(15,.ptr 274 0 0 0 0),(16,.d (I 1)),(17,.d (.v (.int .u8 a4))),(18,.own 504 0),(106,.d (.agg [.v (.int .u8 a3),.v (.int .u8 a4),.v (.int .u8 a5),.v (.int .u8 a6),.v (.int .u8 a7)])),(107,.d (I 1)),(112,.d (I ((c).length:Int))),(113,.d (I sa.1))],fun sa=>[(22,.box (.own 64 0)),(64,.row 0 5 sa.2.1),(274,.box (.d (.agg [I 0,I b.1,I 0,I 0,I 0,I 0]))),(504,.row 0 1 sa.2.2)],fun _=>(.exit 4),fun _=>[(0,.d (.lst false 1 c)),(7,.d (I (Int.tmod (IntKind.wrap .i64 a1) 101))),(8,.d (I (1+(Int.tmod (IntKind.wrap .i64 a2) 20)))),(9,.ptr 22 0 0 0 0),(10,.d (.lst false 1 a.1)),(14,.d (I (0+a.2.1))),(15,.ptr 274 0 0 0 0),(16,.d (I 1)),(18,.own 504 0),(106,.d (.agg [.v (.int .u8 a3),.v (.int .u8 a4),.v (.int .u8 a5),.v (.int .u8 a6),.v (.int .u8 a7)])),(107,.d (I 1))],fun e=>[(22,.box (.own 64 0)),(64,.row 0 5 e.1),(274,.box (.d (.agg [I 0,I b.1,I 0,I 0,I 0,I 0]))),(504,.row 0 1 e.2)]⟩
theorem Qtu {n f a1 a2 a3 a4 a5 a6 a7 d e}(sa)(r)(h:QsZ n f a1 a2 a3 a4 a5 a6 a7 d e sa=some r):Rl (ZJ cx.P 3 2) 295 0 false (QtD f a1 a2 a3 a4 a5 a6 a7 d e) sa r:=by
 unfold QsZ at h;obtain⟨b,h⟩|⟨b,h⟩:=io h
 ·have⟨ha2,h⟩:=gd h;have q:=Qa ha2 (Qa (jDj b) QL);obtain⟨c,h⟩|⟨c,h⟩:=io h
  ·have⟨ha4,h⟩:=gd h;have⟨ta5,ha5,h⟩:=bo h;have⟨ha6,h⟩:=gd h;have⟨ha7,h⟩:=gd h;have⟨ha8,h⟩:=gd h;have⟨ta9,ha9,h⟩:=bo h;obtain⟨a,h⟩|⟨a,h⟩:=io h
   ·have⟨ha11,h⟩:=gd h;have⟨ha12,h⟩:=gd h;cases h;exact rn 505 [b1,b1,b1,.ret (Qr5 ta5),b1,.ix (-12),.ix (-10),b1,.ret (I ta9),b0,b1,.no] [] [0,7,8,9,10,14,15,16,17,18,106,107,112,113] [22,64,274,504] (Qa ha12 (Qa (ro 52 ha11) (Qa (nef a) (Qa (Qfx ha9) (Qa (ro 52 ha8) (Qa ha7 (Qa ha6 (Qa (QsC ha5) (Qa (ro 3 ha4) (Qa (eqt c) q))))))))))
   cases h
  have⟨ha4,h⟩:=gd h;cases h;exact rn 505 [b1,b0] [] [0,7,8,9,10,14,15,16,17,18,106,107,112,113] [22,64,274,504] (Qa ha4 (Qa (eqf c) q))
 cases h;exact rx 505 [b0] [] [0,7,8,9,10,14,15,16,18,106,107] [22,64,274,504] (Qa (jEj b) QL)
def QsY (n:Nat)(h:jVj)(a1 a2 a3 a4 a5 a6 a7:Int)(e:jVj×Int×Int)(f:Int×Int×Int)(c:jVj×Int×Int)(g:Int×Int×Int)(sa:(Int×jVj)):Option (Int×jVj⊕jVj) := if sa.1<((c.1).length:Int) then(el Vt c.1 sa.1).bind fun a=>if a<0 then none else if a>1000 then none else(KF n sa.1).bind fun b=>if(⟨#[109]⟩:jSj).size+b.size<=9223372036854775807 then if Qh (((sa.2).length:Int)+1) then if Wa 88 (0+(sa.2).length) then(Qfe n sa.2 (((sa.2).length:Int)+1) (⟨#[115,111,105,108]⟩) ([.v (.string ((⟨#[109]⟩:jSj)++b))]) ([I 2,I a]) (⟨#[]⟩)).bind fun d=>if d=0 then if Wa 88 ((sa.2).length+1) then if Qh (sa.1+1) then some (.inl ((sa.1+1),(sa.2++([.agg [I (((sa.2).length:Int)+1),.v (.string ⟨#[115,111,105,108]⟩),.lst false 1 [.v (.string ((⟨#[109]⟩:jSj)++b))],.lst false 1 [I 2,I a],.v (.string ⟨#[]⟩)]]:jVj)))) else none else none else none else none else none else none else some (.inr sa.2)
noncomputable def QtC (g:jVj)(a1 a2 a3 a4 a5 a6 a7:Int)(b:jVj×Int×Int)(c:Int×Int×Int)(a:jVj×Int×Int)(f:Int×Int×Int):Lp (Int×jVj) (jVj):=⟨fun sa=>[(0,.d (.lst false 1 g)),(7,.d (I (Int.tmod (IntKind.wrap .i64 a1) 101))),(8,.d (I (1+(Int.tmod (IntKind.wrap .i64 a2) 20)))),(9,.ptr 22 0 0 0 0),(10,.d (.lst false 1 a.1)),(14,.d (I ((0+b.2.1)+a.2.1))),(15,.ptr 274 0 0 0 0),(16,.d (I 1)),(106,.d (.agg [.v (.int .u8 a3),.v (.int .u8 a4),.v (.int .u8 a5),.v (.int .u8 a6),.v (.int .u8 a7)])),(107,.d (I 1)),(197,.d (.lst false 1 a.1)),(198,.d (I ((a.1).length:Int))),(199,.d (I sa.1))],fun sa=>[(22,.box (.own 64 0)),(64,.row 0 5 sa.2),(274,.box (.d (.agg [I 0,I c.1,I f.1,I 0,I 0,I 0])))],fun _=>(.exit 6),fun _=>[(0,.d (.lst false 1 g)),(7,.d (I (Int.tmod (IntKind.wrap .i64 a1) 101))),(8,.d (I (1+(Int.tmod (IntKind.wrap .i64 a2) 20)))),(9,.ptr 22 0 0 0 0),(10,.d (.lst false 1 a.1)),(14,.d (I ((0+b.2.1)+a.2.1))),(15,.ptr 274 0 0 0 0),(106,.d (.agg [.v (.int .u8 a3),.v (.int .u8 a4),.v (.int .u8 a5),.v (.int .u8 a6),.v (.int .u8 a7)])),(107,.d (I 1))],fun e=>[(22,.box (.own 64 0)),(64,.row 0 5 e),(274,.box (.d (.agg [I 0,I c.1,I f.1,I 0,I 0,I 0])))]⟩
theorem Qtt {n j a1 a2 a3 a4 a5 a6 a7 e f g i}(sa)(r)(h:QsY n j a1 a2 a3 a4 a5 a6 a7 e f g i sa=some r):Rl (ZJ cx.P 3 3) 295 0 false (QtC j a1 a2 a3 a4 a5 a6 a7 e f g i) sa r:=by
 unfold QsY at h;obtain⟨b,h⟩|⟨b,h⟩:=io h
 ·have⟨ta2,ha2,h⟩:=bo h;obtain⟨c,h⟩|⟨c,h⟩:=io h
  ·cases h
  obtain⟨d,h⟩|⟨d,h⟩:=io h
  ·cases h
  have⟨ta5,ha5,h⟩:=bo h;have⟨ha6,h⟩:=gd h;have⟨ha7,h⟩:=gd h;have⟨ha8,h⟩:=gd h;have⟨ta9,ha9,h⟩:=bo h;obtain⟨a,h⟩|⟨a,h⟩:=io h
  ·have⟨ha11,h⟩:=gd h;have⟨ha12,h⟩:=gd h;cases h;exact rn 644 [b1,.el (Q3 ta2),b0,b0,.ret (Qr5 ta5),b1,.ix (-12),.ix (-10),b1,.ret (I ta9),b0,b1,.no] [] [0,7,8,9,10,14,15,16,106,107,197,198,199] [22,64,274] (Qa ha12 (Qa (ro 52 ha11) (Qa (nef a) (Qa (Qfx ha9) (Qa (ro 52 ha8) (Qa ha7 (Qa ha6 (Qa (QsC ha5) (Qa ((by unfold Qh;omega):Qh 2) (Qa (jEj d) (Qa (jEj c) (allE Qi ha2 (Qa (jDj b) QL)))))))))))))
  cases h
 cases h;exact rx 644 [b0] [] [0,7,8,9,10,14,15,106,107] [22,64,274] (Qa (jEj b) QL)
def QsX (n:Nat)(c:jVj)(a1 a2 a3 a4 a5 a6 a7:Int)(d:jVj×Int×Int)(e:Int×Int×Int)(f:jVj×Int×Int)(g:Int×Int×Int)(sa:(Int×jVj×jVj)):Option (Int×jVj×jVj⊕jVj×jVj) := if sa.1<((c).length:Int) then if 0<=sa.1 then if(IntKind.wrap .u8 (((BitVec.ofInt 8 (Int.fdiv a5 (2 ^ (min (Int.toNat sa.1) 8))) &&& BitVec.ofInt 8 1).toNat:Nat):Int))=1 then if Wa 8 ((sa.2.2).length+1) then(KF n sa.1).bind fun a=>if(⟨#[109]⟩:jSj).size+a.size<=9223372036854775807 then if Qh (((sa.2.1).length:Int)+1) then if Wa 88 (0+(sa.2.1).length) then(Qfe n sa.2.1 (((sa.2.1).length:Int)+1) (⟨#[99,108,101,97,110]⟩) ([.v (.string ((⟨#[109]⟩:jSj)++a))]) ([I 2]) (⟨#[]⟩)).bind fun b=>if b=0 then if Wa 88 ((sa.2.1).length+1) then if Qh (sa.1+1) then some (.inl ((sa.1+1),(sa.2.1++([.agg [I (((sa.2.1).length:Int)+1),.v (.string ⟨#[99,108,101,97,110]⟩),.lst false 1 [.v (.string ((⟨#[109]⟩:jSj)++a))],.lst false 1 [I 2],.v (.string ⟨#[]⟩)]]:jVj)),(sa.2.2++([I sa.1]:jVj)))) else none else none else none else none else none else none else none else if Qh (sa.1+1) then some (.inl ((sa.1+1),sa.2.1,sa.2.2)) else none else none else some (.inr (sa.2.1,sa.2.2))
noncomputable def QtB (g:jVj)(a1 a2 a3 a4 a5 a6 a7:Int)(b:jVj×Int×Int)(c:Int×Int×Int)(a:jVj×Int×Int)(f:Int×Int×Int):Lp (Int×jVj×jVj) (jVj×jVj):=⟨fun sa=>[(0,.d (.lst false 1 g)),(7,.d (I (Int.tmod (IntKind.wrap .i64 a1) 101))),(8,.d (I (1+(Int.tmod (IntKind.wrap .i64 a2) 20)))),(9,.ptr 22 0 0 0 0),(10,.d (.lst false 1 a.1)),(14,.d (I ((0+b.2.1)+a.2.1))),(15,.ptr 274 0 0 0 0),(16,.d (I 2)),(17,.d (.v (.int .u8 a5))),(18,.own 722 0),(106,.d (.agg [.v (.int .u8 a3),.v (.int .u8 a4),.v (.int .u8 a5),.v (.int .u8 a6),.v (.int .u8 a7)])),(107,.d (I 2)),(112,.d (I ((g).length:Int))),(113,.d (I sa.1))],fun sa=>[(22,.box (.own 64 0)),(64,.row 0 5 sa.2.1),(274,.box (.d (.agg [I 0,I c.1,I f.1,I 0,I 0,I 0]))),(722,.row 0 1 sa.2.2)],fun _=>(.exit 4),fun _=>[(0,.d (.lst false 1 g)),(7,.d (I (Int.tmod (IntKind.wrap .i64 a1) 101))),(8,.d (I (1+(Int.tmod (IntKind.wrap .i64 a2) 20)))),(9,.ptr 22 0 0 0 0),(10,.d (.lst false 1 a.1)),(14,.d (I ((0+b.2.1)+a.2.1))),(15,.ptr 274 0 0 0 0),(16,.d (I 2)),(18,.own 722 0),(106,.d (.agg [.v (.int .u8 a3),.v (.int .u8 a4),.v (.int .u8 a5),.v (.int .u8 a6),.v (.int .u8 a7)])),(107,.d (I 2))],fun e=>[(22,.box (.own 64 0)),(64,.row 0 5 e.1),(274,.box (.d (.agg [I 0,I c.1,I f.1,I 0,I 0,I 0]))),(722,.row 0 1 e.2)]⟩
theorem Qts {n i a1 a2 a3 a4 a5 a6 a7 d e f g}(sa)(r)(h:QsX n i a1 a2 a3 a4 a5 a6 a7 d e f g sa=some r):Rl (ZJ cx.P 3 2) 295 0 false (QtB i a1 a2 a3 a4 a5 a6 a7 d e f g) sa r:=by
 unfold QsX at h;obtain⟨b,h⟩|⟨b,h⟩:=io h
 ·have⟨ha2,h⟩:=gd h;have q:=Qa ha2 (Qa (jDj b) QL);obtain⟨c,h⟩|⟨c,h⟩:=io h
  ·have⟨ha4,h⟩:=gd h;have⟨ta5,ha5,h⟩:=bo h;have⟨ha6,h⟩:=gd h;have⟨ha7,h⟩:=gd h;have⟨ha8,h⟩:=gd h;have⟨ta9,ha9,h⟩:=bo h;obtain⟨a,h⟩|⟨a,h⟩:=io h
   ·have⟨ha11,h⟩:=gd h;have⟨ha12,h⟩:=gd h;cases h;exact rn 723 [b1,b1,b1,.ret (Qr5 ta5),b1,.ix (-12),.ix (-10),b1,.ret (I ta9),b0,b1,.no] [] [0,7,8,9,10,14,15,16,17,18,106,107,112,113] [22,64,274,722] (Qa ha12 (Qa (ro 52 ha11) (Qa (nef a) (Qa (Qfx ha9) (Qa (ro 52 ha8) (Qa ha7 (Qa ha6 (Qa (QsC ha5) (Qa (ro 3 ha4) (Qa (eqt c) q))))))))))
   cases h
  have⟨ha4,h⟩:=gd h;cases h;exact rn 723 [b1,b0] [] [0,7,8,9,10,14,15,16,17,18,106,107,112,113] [22,64,274,722] (Qa ha4 (Qa (eqf c) q))
 cases h;exact rx 723 [b0] [] [0,7,8,9,10,14,15,16,18,106,107] [22,64,274,722] (Qa (jEj b) QL)
def QsW (n:Nat)(j:jVj)(a1 a2 a3 a4 a5 a6 a7:Int)(e:jVj×Int×Int)(f:Int×Int×Int)(g:jVj×Int×Int)(h:Int×Int×Int)(c:jVj×Int×Int)(i:Int×Int×Int)(sa:(Int×jVj)):Option (Int×jVj⊕jVj) := if sa.1<((c.1).length:Int) then(el Vt c.1 sa.1).bind fun a=>if a<0 then none else if a>1000 then none else(KF n sa.1).bind fun b=>if(⟨#[109]⟩:jSj).size+b.size<=9223372036854775807 then if Qh (((sa.2).length:Int)+1) then if Wa 88 (0+(sa.2).length) then(Qfe n sa.2 (((sa.2).length:Int)+1) (⟨#[115,111,105,108]⟩) ([.v (.string ((⟨#[109]⟩:jSj)++b))]) ([I 3,I a]) (⟨#[]⟩)).bind fun d=>if d=0 then if Wa 88 ((sa.2).length+1) then if Qh (sa.1+1) then some (.inl ((sa.1+1),(sa.2++([.agg [I (((sa.2).length:Int)+1),.v (.string ⟨#[115,111,105,108]⟩),.lst false 1 [.v (.string ((⟨#[109]⟩:jSj)++b))],.lst false 1 [I 3,I a],.v (.string ⟨#[]⟩)]]:jVj)))) else none else none else none else none else none else none else some (.inr sa.2)
noncomputable def QtA (i:jVj)(a1 a2 a3 a4 a5 a6 a7:Int)(b:jVj×Int×Int)(c:Int×Int×Int)(f:jVj×Int×Int)(g:Int×Int×Int)(a:jVj×Int×Int)(h:Int×Int×Int):Lp (Int×jVj) (jVj):=⟨fun sa=>[(0,.d (.lst false 1 i)),(7,.d (I (Int.tmod (IntKind.wrap .i64 a1) 101))),(8,.d (I (1+(Int.tmod (IntKind.wrap .i64 a2) 20)))),(9,.ptr 22 0 0 0 0),(10,.d (.lst false 1 a.1)),(14,.d (I (((0+b.2.1)+f.2.1)+a.2.1))),(15,.ptr 274 0 0 0 0),(16,.d (I 2)),(106,.d (.agg [.v (.int .u8 a3),.v (.int .u8 a4),.v (.int .u8 a5),.v (.int .u8 a6),.v (.int .u8 a7)])),(107,.d (I 2)),(197,.d (.lst false 1 a.1)),(198,.d (I ((a.1).length:Int))),(199,.d (I sa.1))],fun sa=>[(22,.box (.own 64 0)),(64,.row 0 5 sa.2),(274,.box (.d (.agg [I 0,I c.1,I g.1,I h.1,I 0,I 0])))],fun _=>(.exit 6),fun _=>[(0,.d (.lst false 1 i)),(7,.d (I (Int.tmod (IntKind.wrap .i64 a1) 101))),(8,.d (I (1+(Int.tmod (IntKind.wrap .i64 a2) 20)))),(9,.ptr 22 0 0 0 0),(10,.d (.lst false 1 a.1)),(14,.d (I (((0+b.2.1)+f.2.1)+a.2.1))),(15,.ptr 274 0 0 0 0),(106,.d (.agg [.v (.int .u8 a3),.v (.int .u8 a4),.v (.int .u8 a5),.v (.int .u8 a6),.v (.int .u8 a7)])),(107,.d (I 2))],fun e=>[(22,.box (.own 64 0)),(64,.row 0 5 e),(274,.box (.d (.agg [I 0,I c.1,I g.1,I h.1,I 0,I 0])))]⟩
theorem Qtr {n l a1 a2 a3 a4 a5 a6 a7 e f g i j k}(sa)(r)(h:QsW n l a1 a2 a3 a4 a5 a6 a7 e f g i j k sa=some r):Rl (ZJ cx.P 3 3) 295 0 false (QtA l a1 a2 a3 a4 a5 a6 a7 e f g i j k) sa r:=by
 unfold QsW at h;obtain⟨b,h⟩|⟨b,h⟩:=io h
 ·have⟨ta2,ha2,h⟩:=bo h;obtain⟨c,h⟩|⟨c,h⟩:=io h
  ·cases h
  obtain⟨d,h⟩|⟨d,h⟩:=io h
  ·cases h
  have⟨ta5,ha5,h⟩:=bo h;have⟨ha6,h⟩:=gd h;have⟨ha7,h⟩:=gd h;have⟨ha8,h⟩:=gd h;have⟨ta9,ha9,h⟩:=bo h;obtain⟨a,h⟩|⟨a,h⟩:=io h
  ·have⟨ha11,h⟩:=gd h;have⟨ha12,h⟩:=gd h;cases h;exact rn 862 [b1,.el (Q3 ta2),b0,b0,.ret (Qr5 ta5),b1,.ix (-12),.ix (-10),b1,.ret (I ta9),b0,b1,.no] [] [0,7,8,9,10,14,15,16,106,107,197,198,199] [22,64,274] (Qa ha12 (Qa (ro 52 ha11) (Qa (nef a) (Qa (Qfx ha9) (Qa (ro 52 ha8) (Qa ha7 (Qa ha6 (Qa (QsC ha5) (Qa ((by unfold Qh;omega):Qh 3) (Qa (jEj d) (Qa (jEj c) (allE Qi ha2 (Qa (jDj b) QL)))))))))))))
  cases h
 cases h;exact rx 862 [b0] [] [0,7,8,9,10,14,15,106,107] [22,64,274] (Qa (jEj b) QL)
def QsV (n:Nat)(c:jVj)(a1 a2 a3 a4 a5 a6 a7:Int)(d:jVj×Int×Int)(e:Int×Int×Int)(f:jVj×Int×Int)(g:Int×Int×Int)(h:jVj×Int×Int)(i:Int×Int×Int)(sa:(Int×jVj×jVj)):Option (Int×jVj×jVj⊕jVj×jVj) := if sa.1<((c).length:Int) then if 0<=sa.1 then if(IntKind.wrap .u8 (((BitVec.ofInt 8 (Int.fdiv a6 (2 ^ (min (Int.toNat sa.1) 8))) &&& BitVec.ofInt 8 1).toNat:Nat):Int))=1 then if Wa 8 ((sa.2.2).length+1) then(KF n sa.1).bind fun a=>if(⟨#[109]⟩:jSj).size+a.size<=9223372036854775807 then if Qh (((sa.2.1).length:Int)+1) then if Wa 88 (0+(sa.2.1).length) then(Qfe n sa.2.1 (((sa.2.1).length:Int)+1) (⟨#[99,108,101,97,110]⟩) ([.v (.string ((⟨#[109]⟩:jSj)++a))]) ([I 3]) (⟨#[]⟩)).bind fun b=>if b=0 then if Wa 88 ((sa.2.1).length+1) then if Qh (sa.1+1) then some (.inl ((sa.1+1),(sa.2.1++([.agg [I (((sa.2.1).length:Int)+1),.v (.string ⟨#[99,108,101,97,110]⟩),.lst false 1 [.v (.string ((⟨#[109]⟩:jSj)++a))],.lst false 1 [I 3],.v (.string ⟨#[]⟩)]]:jVj)),(sa.2.2++([I sa.1]:jVj)))) else none else none else none else none else none else none else none else if Qh (sa.1+1) then some (.inl ((sa.1+1),sa.2.1,sa.2.2)) else none else none else some (.inr (sa.2.1,sa.2.2))
noncomputable def Qtz (i:jVj)(a1 a2 a3 a4 a5 a6 a7:Int)(b:jVj×Int×Int)(c:Int×Int×Int)(f:jVj×Int×Int)(g:Int×Int×Int)(a:jVj×Int×Int)(h:Int×Int×Int):Lp (Int×jVj×jVj) (jVj×jVj):=⟨fun sa=>[(0,.d (.lst false 1 i)),(7,.d (I (Int.tmod (IntKind.wrap .i64 a1) 101))),(8,.d (I (1+(Int.tmod (IntKind.wrap .i64 a2) 20)))),(9,.ptr 22 0 0 0 0),(10,.d (.lst false 1 a.1)),(14,.d (I (((0+b.2.1)+f.2.1)+a.2.1))),(15,.ptr 274 0 0 0 0),(16,.d (I 3)),(17,.d (.v (.int .u8 a6))),(18,.own 940 0),(106,.d (.agg [.v (.int .u8 a3),.v (.int .u8 a4),.v (.int .u8 a5),.v (.int .u8 a6),.v (.int .u8 a7)])),(107,.d (I 3)),(112,.d (I ((i).length:Int))),(113,.d (I sa.1))],fun sa=>[(22,.box (.own 64 0)),(64,.row 0 5 sa.2.1),(274,.box (.d (.agg [I 0,I c.1,I g.1,I h.1,I 0,I 0]))),(940,.row 0 1 sa.2.2)],fun _=>(.exit 4),fun _=>[(0,.d (.lst false 1 i)),(7,.d (I (Int.tmod (IntKind.wrap .i64 a1) 101))),(8,.d (I (1+(Int.tmod (IntKind.wrap .i64 a2) 20)))),(9,.ptr 22 0 0 0 0),(10,.d (.lst false 1 a.1)),(14,.d (I (((0+b.2.1)+f.2.1)+a.2.1))),(15,.ptr 274 0 0 0 0),(16,.d (I 3)),(18,.own 940 0),(106,.d (.agg [.v (.int .u8 a3),.v (.int .u8 a4),.v (.int .u8 a5),.v (.int .u8 a6),.v (.int .u8 a7)])),(107,.d (I 3))],fun e=>[(22,.box (.own 64 0)),(64,.row 0 5 e.1),(274,.box (.d (.agg [I 0,I c.1,I g.1,I h.1,I 0,I 0]))),(940,.row 0 1 e.2)]⟩
theorem Qtq {n k a1 a2 a3 a4 a5 a6 a7 d e f g i j}(sa)(r)(h:QsV n k a1 a2 a3 a4 a5 a6 a7 d e f g i j sa=some r):Rl (ZJ cx.P 3 2) 295 0 false (Qtz k a1 a2 a3 a4 a5 a6 a7 d e f g i j) sa r:=by
 unfold QsV at h;obtain⟨b,h⟩|⟨b,h⟩:=io h
 ·have⟨ha2,h⟩:=gd h;have q:=Qa ha2 (Qa (jDj b) QL);obtain⟨c,h⟩|⟨c,h⟩:=io h
  ·have⟨ha4,h⟩:=gd h;have⟨ta5,ha5,h⟩:=bo h;have⟨ha6,h⟩:=gd h;have⟨ha7,h⟩:=gd h;have⟨ha8,h⟩:=gd h;have⟨ta9,ha9,h⟩:=bo h;obtain⟨a,h⟩|⟨a,h⟩:=io h
   ·have⟨ha11,h⟩:=gd h;have⟨ha12,h⟩:=gd h;cases h;exact rn 941 [b1,b1,b1,.ret (Qr5 ta5),b1,.ix (-12),.ix (-10),b1,.ret (I ta9),b0,b1,.no] [] [0,7,8,9,10,14,15,16,17,18,106,107,112,113] [22,64,274,940] (Qa ha12 (Qa (ro 52 ha11) (Qa (nef a) (Qa (Qfx ha9) (Qa (ro 52 ha8) (Qa ha7 (Qa ha6 (Qa (QsC ha5) (Qa (ro 3 ha4) (Qa (eqt c) q))))))))))
   cases h
  have⟨ha4,h⟩:=gd h;cases h;exact rn 941 [b1,b0] [] [0,7,8,9,10,14,15,16,17,18,106,107,112,113] [22,64,274,940] (Qa ha4 (Qa (eqf c) q))
 cases h;exact rx 941 [b0] [] [0,7,8,9,10,14,15,16,18,106,107] [22,64,274,940] (Qa (jEj b) QL)
def QsU (n:Nat)(l:jVj)(a1 a2 a3 a4 a5 a6 a7:Int)(e:jVj×Int×Int)(f:Int×Int×Int)(g:jVj×Int×Int)(h:Int×Int×Int)(i:jVj×Int×Int)(j:Int×Int×Int)(c:jVj×Int×Int)(k:Int×Int×Int)(sa:(Int×jVj)):Option (Int×jVj⊕jVj) := if sa.1<((c.1).length:Int) then(el Vt c.1 sa.1).bind fun a=>if a<0 then none else if a>1000 then none else(KF n sa.1).bind fun b=>if(⟨#[109]⟩:jSj).size+b.size<=9223372036854775807 then if Qh (((sa.2).length:Int)+1) then if Wa 88 (0+(sa.2).length) then(Qfe n sa.2 (((sa.2).length:Int)+1) (⟨#[115,111,105,108]⟩) ([.v (.string ((⟨#[109]⟩:jSj)++b))]) ([I 4,I a]) (⟨#[]⟩)).bind fun d=>if d=0 then if Wa 88 ((sa.2).length+1) then if Qh (sa.1+1) then some (.inl ((sa.1+1),(sa.2++([.agg [I (((sa.2).length:Int)+1),.v (.string ⟨#[115,111,105,108]⟩),.lst false 1 [.v (.string ((⟨#[109]⟩:jSj)++b))],.lst false 1 [I 4,I a],.v (.string ⟨#[]⟩)]]:jVj)))) else none else none else none else none else none else none else some (.inr sa.2)
noncomputable def Qty (k:jVj)(a1 a2 a3 a4 a5 a6 a7:Int)(b:jVj×Int×Int)(c:Int×Int×Int)(f:jVj×Int×Int)(g:Int×Int×Int)(h:jVj×Int×Int)(i:Int×Int×Int)(a:jVj×Int×Int)(j:Int×Int×Int):Lp (Int×jVj) (jVj):=⟨fun sa=>[(0,.d (.lst false 1 k)),(7,.d (I (Int.tmod (IntKind.wrap .i64 a1) 101))),(8,.d (I (1+(Int.tmod (IntKind.wrap .i64 a2) 20)))),(9,.ptr 22 0 0 0 0),(10,.d (.lst false 1 a.1)),(14,.d (I ((((0+b.2.1)+f.2.1)+h.2.1)+a.2.1))),(15,.ptr 274 0 0 0 0),(16,.d (I 3)),(106,.d (.agg [.v (.int .u8 a3),.v (.int .u8 a4),.v (.int .u8 a5),.v (.int .u8 a6),.v (.int .u8 a7)])),(107,.d (I 3)),(197,.d (.lst false 1 a.1)),(198,.d (I ((a.1).length:Int))),(199,.d (I sa.1))],fun sa=>[(22,.box (.own 64 0)),(64,.row 0 5 sa.2),(274,.box (.d (.agg [I 0,I c.1,I g.1,I i.1,I j.1,I 0])))],fun _=>(.exit 6),fun _=>[(0,.d (.lst false 1 k)),(7,.d (I (Int.tmod (IntKind.wrap .i64 a1) 101))),(8,.d (I (1+(Int.tmod (IntKind.wrap .i64 a2) 20)))),(9,.ptr 22 0 0 0 0),(10,.d (.lst false 1 a.1)),(14,.d (I ((((0+b.2.1)+f.2.1)+h.2.1)+a.2.1))),(15,.ptr 274 0 0 0 0),(106,.d (.agg [.v (.int .u8 a3),.v (.int .u8 a4),.v (.int .u8 a5),.v (.int .u8 a6),.v (.int .u8 a7)])),(107,.d (I 3))],fun e=>[(22,.box (.own 64 0)),(64,.row 0 5 e),(274,.box (.d (.agg [I 0,I c.1,I g.1,I i.1,I j.1,I 0])))]⟩
theorem Qtp {n o a1 a2 a3 a4 a5 a6 a7 e f g i j k l m}(sa)(r)(h:QsU n o a1 a2 a3 a4 a5 a6 a7 e f g i j k l m sa=some r):Rl (ZJ cx.P 3 3) 295 0 false (Qty o a1 a2 a3 a4 a5 a6 a7 e f g i j k l m) sa r:=by
 unfold QsU at h;obtain⟨b,h⟩|⟨b,h⟩:=io h
 ·have⟨ta2,ha2,h⟩:=bo h;obtain⟨c,h⟩|⟨c,h⟩:=io h
  ·cases h
  obtain⟨d,h⟩|⟨d,h⟩:=io h
  ·cases h
  have⟨ta5,ha5,h⟩:=bo h;have⟨ha6,h⟩:=gd h;have⟨ha7,h⟩:=gd h;have⟨ha8,h⟩:=gd h;have⟨ta9,ha9,h⟩:=bo h;obtain⟨a,h⟩|⟨a,h⟩:=io h
  ·have⟨ha11,h⟩:=gd h;have⟨ha12,h⟩:=gd h;cases h;exact rn 1080 [b1,.el (Q3 ta2),b0,b0,.ret (Qr5 ta5),b1,.ix (-12),.ix (-10),b1,.ret (I ta9),b0,b1,.no] [] [0,7,8,9,10,14,15,16,106,107,197,198,199] [22,64,274] (Qa ha12 (Qa (ro 52 ha11) (Qa (nef a) (Qa (Qfx ha9) (Qa (ro 52 ha8) (Qa ha7 (Qa ha6 (Qa (QsC ha5) (Qa ((by unfold Qh;omega):Qh 4) (Qa (jEj d) (Qa (jEj c) (allE Qi ha2 (Qa (jDj b) QL)))))))))))))
  cases h
 cases h;exact rx 1080 [b0] [] [0,7,8,9,10,14,15,106,107] [22,64,274] (Qa (jEj b) QL)
def QsS (n:Nat)(c:jVj)(a1 a2 a3 a4 a5 a6 a7:Int)(d:jVj×Int×Int)(e:Int×Int×Int)(f:jVj×Int×Int)(g:Int×Int×Int)(h:jVj×Int×Int)(i:Int×Int×Int)(j:jVj×Int×Int)(k:Int×Int×Int)(sa:(Int×jVj×jVj)):Option (Int×jVj×jVj⊕jVj×jVj) := if sa.1<((c).length:Int) then if 0<=sa.1 then if(IntKind.wrap .u8 (((BitVec.ofInt 8 (Int.fdiv a7 (2 ^ (min (Int.toNat sa.1) 8))) &&& BitVec.ofInt 8 1).toNat:Nat):Int))=1 then if Wa 8 ((sa.2.2).length+1) then(KF n sa.1).bind fun a=>if(⟨#[109]⟩:jSj).size+a.size<=9223372036854775807 then if Qh (((sa.2.1).length:Int)+1) then if Wa 88 (0+(sa.2.1).length) then(Qfe n sa.2.1 (((sa.2.1).length:Int)+1) (⟨#[99,108,101,97,110]⟩) ([.v (.string ((⟨#[109]⟩:jSj)++a))]) ([I 4]) (⟨#[]⟩)).bind fun b=>if b=0 then if Wa 88 ((sa.2.1).length+1) then if Qh (sa.1+1) then some (.inl ((sa.1+1),(sa.2.1++([.agg [I (((sa.2.1).length:Int)+1),.v (.string ⟨#[99,108,101,97,110]⟩),.lst false 1 [.v (.string ((⟨#[109]⟩:jSj)++a))],.lst false 1 [I 4],.v (.string ⟨#[]⟩)]]:jVj)),(sa.2.2++([I sa.1]:jVj)))) else none else none else none else none else none else none else none else if Qh (sa.1+1) then some (.inl ((sa.1+1),sa.2.1,sa.2.2)) else none else none else some (.inr (sa.2.1,sa.2.2))
noncomputable def Qti (k:jVj)(a1 a2 a3 a4 a5 a6 a7:Int)(b:jVj×Int×Int)(c:Int×Int×Int)(f:jVj×Int×Int)(g:Int×Int×Int)(h:jVj×Int×Int)(i:Int×Int×Int)(a:jVj×Int×Int)(j:Int×Int×Int):Lp (Int×jVj×jVj) (jVj×jVj):=⟨fun sa=>[(0,.d (.lst false 1 k)),(7,.d (I (Int.tmod (IntKind.wrap .i64 a1) 101))),(8,.d (I (1+(Int.tmod (IntKind.wrap .i64 a2) 20)))),(9,.ptr 22 0 0 0 0),(10,.d (.lst false 1 a.1)),(14,.d (I ((((0+b.2.1)+f.2.1)+h.2.1)+a.2.1))),(15,.ptr 274 0 0 0 0),(16,.d (I 4)),(17,.d (.v (.int .u8 a7))),(18,.own 1158 0),(106,.d (.agg [.v (.int .u8 a3),.v (.int .u8 a4),.v (.int .u8 a5),.v (.int .u8 a6),.v (.int .u8 a7)])),(107,.d (I 4)),(112,.d (I ((k).length:Int))),(113,.d (I sa.1))],fun sa=>[(22,.box (.own 64 0)),(64,.row 0 5 sa.2.1),(274,.box (.d (.agg [I 0,I c.1,I g.1,I i.1,I j.1,I 0]))),(1158,.row 0 1 sa.2.2)],fun _=>(.exit 4),fun _=>[(0,.d (.lst false 1 k)),(7,.d (I (Int.tmod (IntKind.wrap .i64 a1) 101))),(8,.d (I (1+(Int.tmod (IntKind.wrap .i64 a2) 20)))),(9,.ptr 22 0 0 0 0),(10,.d (.lst false 1 a.1)),(14,.d (I ((((0+b.2.1)+f.2.1)+h.2.1)+a.2.1))),(15,.ptr 274 0 0 0 0),(16,.d (I 4)),(18,.own 1158 0),(106,.d (.agg [.v (.int .u8 a3),.v (.int .u8 a4),.v (.int .u8 a5),.v (.int .u8 a6),.v (.int .u8 a7)])),(107,.d (I 4))],fun e=>[(22,.box (.own 64 0)),(64,.row 0 5 e.1),(274,.box (.d (.agg [I 0,I c.1,I g.1,I i.1,I j.1,I 0]))),(1158,.row 0 1 e.2)]⟩
theorem Qtf {n m a1 a2 a3 a4 a5 a6 a7 d e f g i j k l}(sa)(r)(h:QsS n m a1 a2 a3 a4 a5 a6 a7 d e f g i j k l sa=some r):Rl (ZJ cx.P 3 2) 295 0 false (Qti m a1 a2 a3 a4 a5 a6 a7 d e f g i j k l) sa r:=by
 unfold QsS at h;obtain⟨b,h⟩|⟨b,h⟩:=io h
 ·have⟨ha2,h⟩:=gd h;have q:=Qa ha2 (Qa (jDj b) QL);obtain⟨c,h⟩|⟨c,h⟩:=io h
  ·have⟨ha4,h⟩:=gd h;have⟨ta5,ha5,h⟩:=bo h;have⟨ha6,h⟩:=gd h;have⟨ha7,h⟩:=gd h;have⟨ha8,h⟩:=gd h;have⟨ta9,ha9,h⟩:=bo h;obtain⟨a,h⟩|⟨a,h⟩:=io h
   ·have⟨ha11,h⟩:=gd h;have⟨ha12,h⟩:=gd h;cases h;exact rn 1159 [b1,b1,b1,.ret (Qr5 ta5),b1,.ix (-12),.ix (-10),b1,.ret (I ta9),b0,b1,.no] [] [0,7,8,9,10,14,15,16,17,18,106,107,112,113] [22,64,274,1158] (Qa ha12 (Qa (ro 52 ha11) (Qa (nef a) (Qa (Qfx ha9) (Qa (ro 52 ha8) (Qa ha7 (Qa ha6 (Qa (QsC ha5) (Qa (ro 3 ha4) (Qa (eqt c) q))))))))))
   cases h
  have⟨ha4,h⟩:=gd h;cases h;exact rn 1159 [b1,b0] [] [0,7,8,9,10,14,15,16,17,18,106,107,112,113] [22,64,274,1158] (Qa ha4 (Qa (eqf c) q))
 cases h;exact rx 1159 [b0] [] [0,7,8,9,10,14,15,16,18,106,107] [22,64,274,1158] (Qa (jEj b) QL)
end Go.Proofs.Ytjbgbmjgfgdnhaa
