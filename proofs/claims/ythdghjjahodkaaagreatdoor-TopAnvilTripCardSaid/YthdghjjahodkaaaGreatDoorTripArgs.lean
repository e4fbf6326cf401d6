/- Own texts. -/
import Derived.Test.YthdghjjahodkaaaGreatDoorAJrn
import Derived.KernelRfl
set_option linter.unusedSimpArgs false
set_option linter.unusedVariables false
set_option linter.unnecessarySimpa false
set_option maxRecDepth 20000
namespace Go.Proofs.YthdghjjahodkaaaGreatDoor
open Go.SX
def G5 (t l:Int)(on d:Bool)(b a c:Int)(os:List Off):Reg:=⟨t,l,true,d,b,a,c,[mkS [110]],[(mkS [97],mkS [110],100,0,false,on)],os⟩
def gnD (on:Bool)(l d:Int):Int:=if on=true then 100000*l*d else 0
theorem uM (t l:Int)(on d:Bool)(b a c:Int)(os:List Off)(t' : Int):WP (G5 t l on d b a c os) t'=gnD on l (t' - t):=by
 cases on
 ·show(0+0)*(t' - t)=0;simp
 ·show(100*(1000 - 0)*l+0)*(t' - t)=100000*l*(t' - t);rw[Int.add_zero];rfl
theorem Ui (l d:Int):gnD false l d=0:=rfl
theorem Qji (l:Int):gnD true l 10=1000000*l:=by show 100000*l*10=_;omega
theorem Xu (on:Bool)(l:Int):gnD on l 0=0:=by cases on<;>simp[gnD]
theorem QkE (t l:Int)(on d:Bool)(b a c:Int)(os:List Off)(t' : Int):bkd (G5 t l on d b a c os) t'=G5 t' l on d (b+gnD on l (t' - t)) (a+gnD on l (t' - t)) c os:=by unfold bkd;rw[uM];rfl
def BkD (on:Bool)(l d b a:Int):Prop:=b+gnD on l d<=1000000000000000/\a+gnD on l d<=1000000000000000
theorem QjL {t l:Int}{on d:Bool}{b a c:Int}{os:List Off}{k:Ki}{ns:List jSj}{t' : Int}{vs:List Int}(h:t<=t')(f:BkD on l (t' - t) b a)(g:known k (G5 t l on d b a c os) ns=0):acc k (G5 t l on d b a c os) ns (t'::vs)=spec k (G5 t l on d b a c os) ns (t'::vs):=by
 have e:Gq (G5 t l on d b a c os) t'=0:=by unfold Gq;rw[uM];exact jTj f
 unfold acc;show(if t'<t then 22 else QK [Gq (G5 t l on d b a c os) t',_,_])=_;rw[jFj (by omega),e,g,uS _ rfl,uS _ rfl,QgP]
theorem vl_2 {a b:Int}(c:0<=a/\a<=9999)(d:0<=b/\b<=9999):∀v,v∈[a,b]->0<=v/\v<=9999:=fun v e=>by
 obtain h|h:=List.mem_cons.1 e
 ·rw[h];exact c
 ·rw[List.mem_singleton.1 h];exact d
theorem vl_1 {a:Int}(b:0<=a/\a<=9999):∀v,v∈[a]->0<=v/\v<=9999:=fun v c=>by rw[List.mem_singleton.1 c];exact b
theorem nm_1 {w:Wrd}(h:Yw (mkS w)=true/\w.length<=4):∀x,x∈[w]->Yw (mkS x)=true/\x.length<=4:=fun x a=>by rw[List.mem_singleton.1 a];exact h
def zx (n:Nat)(s:jSj)(c:List Ev)(r:Reg)(b:Int)(a : List Ev)(d : Reg):Prop :=
 ∃m:jSj,Qj n s (c.map Q5) (c.map Q5) r.tick r.level r.filled r.tripped r.light r.heat r.money (r.sectors.map Sd) (r.mirrors.map Q1) (r.offers.map Zs)=some (m,b,VJ (a.map Q5) (a.map Q5) d)
def JD (c:List Ev)(r:Reg)(z:Nat)(t l:Int)(on e:Bool)(b a d:Int)(os:List Off):Prop:=Jrn c r/\c.length=z/\r=G5 t l on e b a d os
theorem QbW {n:Nat}(M:3000<=n){c:List Ev}{r:Reg}{z:Nat}{t l:Int}{on o:Bool}{d a m:Int}{os:List Off}(h:JD c r z t l on o d a m os)(Q:z<=90){k:Ki}(G:k≠.undo){ns:List Wrd}{t' : Int}{vs:List Int}(H:OkV k ns (t'::vs))(P:t<=t')(K:BkD on l (t' - t) d a)
  (q:known k (G5 t l on o d a m os) (ns.map mkS)=0) (u:spec k (G5 t l on o d a m os) (ns.map mkS) (t'::vs)=0) {x v:Int} {g j:Bool} {e b f:Int} {i:List Off}
  (N:act k (G5 t' l on o (d+gnD on l (t' - t)) (a+gnD on l (t' - t)) m os) (ns.map mkS) (t'::vs)=G5 x v g j e b f i) {s:jSj} (O:s=mkS (Vs k ns (t'::vs))) :
  ∃y J,JD y J (z+1) x v g j e b f i/\zx n s c r 0 y J:=by
 obtain⟨F,L,rfl⟩:=h;have E:acc k (G5 t l on o d a m os) (ns.map mkS) (t'::vs)=0:=(QjL P K q).trans u;have p:app k (G5 t l on o d a m os) (ns.map mkS) (t'::vs)=G5 x v g j e b f i:=by unfold app;show act k (bkd _ t') _ _=_;rw[QkE];exact N
 have A:=wL F (by omega) G H E;have C:=Qj8 M F (by omega) G H E O;rw[p] at A C;exact⟨_,_,⟨A,by rw[jaj,L];rfl,rfl⟩,C⟩
theorem Qjy {n:Nat}(q:3000<=n){c:List Ev}{r:Reg}{z:Nat}{t l:Int}{on i:Bool}{b a g:Int}{os:List Off}(h:JD c r z t l on i b a g os)(A:z<=90){k:Ki}(p:k≠.undo){ns:List Wrd}{t' : Int}{vs:List Int}(x:OkV k ns (t'::vs))(v:t<=t')(m:BkD on l (t' - t) b a)
  (e:known k (G5 t l on i b a g os) (ns.map mkS)=0) {d:Int} (j:d≠0) (f:spec k (G5 t l on i b a g os) (ns.map mkS) (t'::vs)=d) {s:jSj} (u:s=mkS (Vs k ns (t'::vs))):zx n s c r d c r:=by
 obtain⟨o,y,rfl⟩:=h;exact Qj7 q o (by omega) p x ((QjL v m e).trans f) j u
theorem Qhr {n:Nat}(k:3000<=n){c:List Ev}{r:Reg}{z:Nat}{t l:Int}{on e:Bool}{b a d:Int}{os:List Off}(h:JD c r z t l on e b a d os)(q:z<=90){t' v:Int}(o:t<=t')(u:0<=t'/\t'<=9999)(g:0<=v/\v<=1000)(j:BkD on l (t' - t) b a){s:jSj}(m:s=mkS (Vs .sun [] [t',v])) :
  ∃f i,JD f i (z+1) t' v on e (b+gnD on l (t' - t)) (a+gnD on l (t' - t)) d os/\zx n s c r 0 f i :=
 QbW k h q (by decide) ⟨rfl,rfl,fun w p=>(by cases p),vl_2 (by omega) (by omega)⟩ o j rfl (show spec .sun (G5 t l on e b a d os) [] [t',v]=0 from Qcm g.1 g.2) rfl m
theorem Qfq {n:Nat}(i:3000<=n){c:List Ev}{r:Reg}{z:Nat}{t l:Int}{on:Bool}{b a e:Int}{os:List Off}(h:JD c r z t l on false b a e os)(o:z<=90){t' : Int}(k:t<=t')(p:0<=t'/\t'<=9999)(g:BkD on l (t' - t) b a){s:jSj}(j:s=mkS (Vs .trip [] [t'])) :
  ∃d f,JD d f (z+1) t' l false true (b+gnD on l (t' - t)) (a+gnD on l (t' - t)) e os/\zx n s c r 0 d f :=
 QbW i h o (by decide) ⟨rfl,rfl,fun w m=>(by cases m),vl_1 (by omega)⟩ k g rfl rfl rfl j
theorem Qc4 {n:Nat}(x:3000<=n){c:List Ev}{r:Reg}{z:Nat}{t l:Int}{on o:Bool}{g d k:Int}{os:List Off}(h:JD c r z t l on o g d k os)(F:z<=90){w:Wrd}(E:Yw (mkS w)=true/\w.length<=4)(b:mkS w∉nmO os)(y:os.length<=20){t' f u e p:Int}(C:t<=t')(G:0<=t')(H:t'<=f)(J:f<u/\u<=9999)(a:1<=e/\e<=1000)(hp:0<=p/\p<=1000)(q:BkD on l (t' - t) g d){s:jSj}(A:s=mkS (Vs .offer [w] [t',f,u,e,p])) :
  ∃i m,JD i m (z+1) t' l on o (g+gnD on l (t' - t)) (d+gnD on l (t' - t)) k (os++[(mkS w,f,u,e,p,0,false)])/\zx n s c r 0 i m:=by
 refine QbW x h F (by decide) ⟨rfl,rfl,nm_1 E,fun v j=>?_⟩ C q ?_ ?_ rfl A
 ·simp only[List.mem_cons,List.not_mem_nil,or_false] at j;obtain rfl|rfl|rfl|rfl|rfl:=j<;>omega
 ·show QD (ZG (nmO os) (mkS w)) 9=0;rw[Qjg b];rfl
 ·show QK [(if f<t' then 14 else QD (decide (f>=u)) 14),inR e 1 1000,inR p 0 1000,QD ((os.length:Int)==32) 5]=0;rw[jFj (by omega),jEj (by omega),Qcm a.1 a.2,Qcm hp.1 hp.2,show((os.length:Int)==32)=false by rw[beq_eq_false_iff_ne];omega];rfl
theorem ud {n:Nat}(F:3000<=n){c:List Ev}{r:Reg}{z:Nat}{t l:Int}{on k:Bool}{i a j:Int}{os:List Off}{f u e p d:Int}{w:Wrd}(h:JD c r z t l on k i a j (os++[(mkS w,f,u,e,p,d,false)]))(K:z<=90)(J:Yw (mkS w)=true/\w.length<=4)(b:mkS w∉nmO os){t' v:Int}(H:t<=t')(N:0<=t'/\t'<=9999)(O:f<=t'/\t'<u)(Q:1<=v/\v<=e - d/\v<=1000)(C:BkD on l (t' - t) i a)(P:1000000*v<=a+gnD on l (t' - t)){s:jSj}(G:s=mkS (Vs .deliver [w] [t',v])) :
  ∃m A,JD m A (z+1) t' l on k (i+gnD on l (t' - t)) (a+gnD on l (t' - t) - 1000000*v) j (os++[(mkS w,f,u,e,p,d+v,false)])/\zx n s c r 0 m A:=by
 obtain⟨L,M,y⟩:=Qdx (os:=os) (o:=(mkS w,f,u,e,p,d,false)) b;refine QbW F h K (by decide) ⟨rfl,rfl,nm_1 J,vl_2 (by omega) (by omega)⟩ H C ?_ ?_ ?_ G
 ·show QD (!ZG (nmO (os++[(mkS w,f,u,e,p,d,false)])) (mkS w)) 10=0;rw[L];rfl
 ·have E:=uM t l on k i a j (os++[(mkS w,f,u,e,p,d,false)]) t';have q:QK [QD (oAt (os++[(mkS w,f,u,e,p,d,false)]) (mkS w)).2.2.2.2.2.2 23,if t'<(oAt (os++[(mkS w,f,u,e,p,d,false)]) (mkS w)).2.1 then 14 else QD (decide (t'>=(oAt (os++[(mkS w,f,u,e,p,d,false)]) (mkS w)).2.2.1)) 14,QD (v==0) 3,QD (decide (v>WC (oAt (os++[(mkS w,f,u,e,p,d,false)]) (mkS w)))) 20]=0:=by rw[y];show QK [0,if t'<f then 14 else QD (decide (t'>=u)) 14,QD (v==0) 3,QD (decide (v>e - d)) 20]=0;rw[jFj (by omega),jEj (by omega),jEj (by omega),show(v==0)=false by rw[beq_eq_false_iff_ne];omega];rfl
  refine Eq.trans (jTj q) ?_;show QD (decide (v*1000000>a+WP _ t')) 16=0;rw[E,jEj (by omega)];rfl
 ·have g:∀x:Off,(os++[(mkS w,f,u,e,p,d,false)]).set os.length x=os++[x]:=fun x=>by rw[List.set_append_right _ _ (jLj _),Nat.sub_self];rfl
  show G5 t' l on k _ _ j (List.set (os++[(mkS w,f,u,e,p,d,false)]) (iO (os++[(mkS w,f,u,e,p,d,false)]) (mkS w)) (delO (oAt (os++[(mkS w,f,u,e,p,d,false)]) (mkS w)) v))=_;rw[y,M,g];rfl
abbrev Bst:=List Int×Int×Int×Int
abbrev Qr:=Int×Int
def Vf (x:Qr):D:=Ux x
def encB (b:Bst):D:=.agg [.lst false 1 (b.1.map I),I b.2.1,I b.2.2.1,I b.2.2.2]
theorem unQ (x:Qr):UX (Vf x)=some x:=rfl
def betB (a b:Bst):Bool:=decide (a.2.1>b.2.1) || (decide (a.2.1=b.2.1)&&decide (a.2.2.1>b.2.2.1))
def Vv (S:Int)(a:Int->Bst)(x:Qr)(lv u:Int):Bst :=
 (u::(a (Zv (lv+x.2 - u) S)).1,x.1*u+(a (Zv (lv+x.2 - u) S)).2.1,(a (Zv (lv+x.2 - u) S)).2.2.1,(lv+x.2 - u - Zv (lv+x.2 - u) S)+(a (Zv (lv+x.2 - u) S)).2.2.2)
def goB (f:Int->Bst):Nat->Int->Bst->Bst
 | 0,_,o=>o
 | j+1,i,o=>goB f j (i+1) (if betB (f i) o=true then f i else o)
def bst (S m:Int):List Qr->Int->Bst
 | [],lv=>([],0,lv,0)
 | x::r,lv=>goB (Vv S (bst S m r) x lv) (Zv m (lv+x.2)).toNat 1 (Vv S (bst S m r) x lv 0)
theorem wP {P:Bst->Prop}{f:Int->Bst}:∀(j:Nat) (i:Int) (o:Bst),P o->(∀u,i<=u->u<i+(j:Int)->P (f u))->P (goB f j i o)
 | 0,i,o,h,_=>h
 | j+1,i,o,h,hf=>by
  unfold goB;refine wP j (i+1) _ ?_ fun u a b=>hf u (by omega) (by omega);split
  ·exact hf i (by omega) (by omega)
  ·exact h
theorem Qid {f:Int->Bst}:∀(j:Nat) (i:Int) (o:Bst),o.2.1<=(goB f j i o).2.1/\∀u,i<=u->u<i+(j:Int)->(f u).2.1<=(goB f j i o).2.1
 | 0,i,o=>⟨Int.le_refl _,fun u c b=>by omega⟩
 | j+1,i,o=>by
  unfold goB;obtain⟨c,b⟩:=Qid (f:=f) j (i+1) (if betB (f i) o=true then f i else o);have e:o.2.1<=(if betB (f i) o=true then f i else o).2.1/\(f i).2.1<=(if betB (f i) o=true then f i else o).2.1:=by
   by_cases a:betB (f i) o=true
   ·rw[jTj a];unfold betB at a;simp only[Bool.or_eq_true,jAj,decide_eq_true_eq] at a;omega
   ·rw[jFj a];unfold betB at a;simp only[Bool.or_eq_true,jAj,decide_eq_true_eq,not_or] at a;omega
  refine⟨by omega,fun u g h=>?_⟩;by_cases d:u=i
  ·subst d;omega
  ·exact b u (by omega) (by omega)
def OkQ (qs:List Qr):Prop:=∀x,x∈qs->(-100000<=x.1/\x.1<=100000)/\(0<=x.2/\x.2<=30)
theorem uu {x:Qr}{r:List Qr}(h:OkQ (x::r)):((-100000<=x.1/\x.1<=100000)/\(0<=x.2/\x.2<=30))/\OkQ r:=⟨h x jMj,fun y a=>h y (jmj _ a)⟩
theorem UB (a b:Int):(Zv a b<=a/\Zv a b<=b)/\(Zv a b=a\/Zv a b=b):=by rw[GS];omega
structure SzB (k:Nat) (b:Bst):Prop where
 len:b.1.length=k
 inc : -(3000000*(k:Int))<=b.2.1/\b.2.1<=3000000*(k:Int)
 left:0<=b.2.2.1/\b.2.2.1<=60
 spill:0<=b.2.2.2/\b.2.2.2<=90*(k:Int)
theorem QfL {p u:Int}(hp : -100000<=p/\p<=100000)(a:0<=u/\u<=30) : -3000000<=p*u/\p*u<=3000000:=by
 have b : -(100000*u)<=p*u:=by have:=Int.mul_le_mul_of_nonneg_right hp.1 a.1;rw[Int.neg_mul] at this;exact this
 have c:p*u<=100000*u:=Int.mul_le_mul_of_nonneg_right hp.2 a.1;omega
theorem Qcx {S m:Int}(i:0<=S/\S<=60)(l:0<=m/\m<=30){x:Qr}(d:(-100000<=x.1/\x.1<=100000)/\(0<=x.2/\x.2<=30)){k:Nat}{a:Int->Bst}(c:∀lv,0<=lv->lv<=S->SzB k (a lv)){lv u:Int}(j:0<=lv/\lv<=S)(n:0<=u/\u<=Zv m (lv+x.2)):SzB (k+1) (Vv S a x lv u):=by
 obtain⟨⟨o,p⟩,_⟩:=UB m (lv+x.2);obtain⟨⟨q,e⟩,r⟩:=UB (lv+x.2 - u) S;have h:=c (Zv (lv+x.2 - u) S) (by omega) e;have hp:=QfL d.1 (u:=u) (by omega);have f:=h.inc;have b:=h.left;have g:=h.spill;refine⟨by show(_::_).length=_;rw[List.length_cons,h.len],?_,?_,?_⟩
 ·show -(3000000*((k+1:Nat):Int))<=x.1*u+_/\x.1*u+_<=3000000*((k+1:Nat):Int);omega
 ·show 0<=(a _).2.2.1/\(a _).2.2.1<=60;exact b
 ·show 0<=(lv+x.2 - u - Zv (lv+x.2 - u) S)+(a _).2.2.2/\(lv+x.2 - u - Zv (lv+x.2 - u) S)+(a _).2.2.2<=90*((k+1:Nat):Int);omega
theorem Qag {m lv:Int}{x:Qr}(b:0<=m)(a:0<=lv)(c:0<=x.2):0<=Zv m (lv+x.2):=by obtain⟨_,h⟩:=UB m (lv+x.2);omega
theorem wo {S m:Int}(d:0<=S/\S<=60)(c:0<=m/\m<=30):∀(qs:List Qr),OkQ qs->∀lv,0<=lv->lv<=S->SzB qs.length (bst S m qs lv)
 | [],_,lv,h1,h2=>⟨rfl,by show _<=(0:Int)/\(0:Int)<=_;simp,by show 0<=lv/\lv<=60;omega,by show 0<=(0:Int)/\(0:Int)<=_;simp⟩
 | x::r,hq,lv,h1,h2=>by obtain⟨f,g⟩:=uu hq;have hc:=Qag (x:=x) c.1 h1 f.2.1;have e:∀u,0<=u->u<=Zv m (lv+x.2)->SzB (r.length+1) (Vv S (bst S m r) x lv u):=fun u a b=>Qcx d c f (wo d c r g) ⟨h1,h2⟩ ⟨a,b⟩;show SzB (r.length+1) (goB _ _ _ _);exact wP _ _ _ (e 0 (by omega) hc) fun u a b=>e u (by omega) (by omega)
abbrev Kn:=(Int×Int)×Bst
def keyP (k:Int×Int):Value:=.agg #[.int .i64 k.1,.int .i64 k.2]
def qh (e:Kn):D:=.tup [.v (keyP e.1),encB e.2]
def Qbi (k:Int×Int):List Kn->Option Bst
 | []=>none
 | e::l=>if k=e.1 then some e.2 else Qbi k l
def putK (k:Int×Int)(b:Bst):List Kn->List Kn
 | []=>[(k,b)]
 | e::l=>if k=e.1 then(k,b)::l else e::putK k b l
theorem Qht (k j:Int×Int):Y1 (keyP k) (keyP j)=some (decide (k=j)):=by
 show some ((k.1==j.1)&&((k.2==j.2)&&true))=_;congr 1
 rw[Bool.eq_iff_iff];simp[Prod.ext_iff]
theorem entP (e:Kn):Go.SX.keyOf (qh e)=some (keyP e.1,encB e.2):=rfl
theorem mokP (k:Int×Int):∀l:List Kn,mok (keyP k) (l.map qh)=true
 | []=>rfl
 | e::l=>by rw[jCj];unfold mok;rw[entP];dsimp only;rw[Qht,mokP k l];rfl
theorem QhR (k:Int×Int):∀l:List Kn,W5 (keyP k) (l.map qh)=(Qbi k l).map encB
 | []=>rfl
 | e::l=>by
  rw[jCj];unfold W5 Qbi;rw[entP];dsimp only;rw[Qht];by_cases h:k=e.1
  ·rw[jTj h,jDj h];rfl
  ·rw[jFj h,jEj h];exact QhR k l
theorem QjC (k:Int×Int)(b:Bst):∀l:List Kn,E7 (keyP k) (encB b) (l.map qh)=(putK k b l).map qh
 | []=>rfl
 | e::l=>by
  rw[jCj];unfold E7 putK;rw[entP];dsimp only;rw[Qht];by_cases h:k=e.1
  ·rw[jTj h,jDj h];rfl
  ·rw[jFj h,jEj h];show qh e::E7 (keyP k) (encB b) (l.map qh)=_;rw[QjC k b l];rfl
def OkK (S m:Int)(qs:List Qr)(l:List Kn):Prop:=∀e,e∈l->e.2=bst S m (qs.drop e.1.1.toNat) e.1.2
theorem Qbh {k:Int×Int}:∀{l:List Kn} {b:Bst},Qbi k l=some b->(k,b)∈l
 | [],b,h=>by cases h
 | e::l,b,h=>by
  unfold Qbi at h;split at h
  ·rename_i a;cases h;rw[a];exact jMj
  ·exact jmj _ (Qbh h)
theorem Qdn {k:Int×Int}{b:Bst}:∀{l:List Kn} {e:Kn},e∈putK k b l->e=(k,b)\/e∈l
 | [],e,h=>Or.inl (List.mem_singleton.1 h)
 | x::l,e,h=>by
  unfold putK at h;split at h
  ·obtain h|h:=List.mem_cons.1 h
   ·exact Or.inl h
   ·exact Or.inr (jmj _ h)
  ·obtain h|h:=List.mem_cons.1 h
   ·exact Or.inr (by rw[h];exact jMj)
   ·obtain h|h:=Qdn h
    ·exact Or.inl h
    ·exact Or.inr (jmj _ h)
theorem Qi3 {S m:Int}{qs:List Qr}{l:List Kn}(h:OkK S m qs l){k:Int×Int}{b:Bst}(c:b=bst S m (qs.drop k.1.toNat) k.2):OkK S m qs (putK k b l):=fun e d=>by
 obtain a|a:=Qdn d
 ·rw[a];exact c
 ·exact h e a
theorem VU {x:Int}(h : -1000000000<=x/\x<=1000000000):Qg x:=by unfold Qg;omega
theorem Qbr {n:Nat}{S lv m:Int}{x:Qr}{u:Int}(b:0<=S/\S<=60)(d:m<=30)(a:(-100000<=x.1/\x.1<=100000)/\(0<=x.2/\x.2<=30))(c:0<=lv/\lv<=S)(e:0<=u/\u<=Zv m (lv+x.2)) :
  Vl n S lv m 0 0 0 x.1 x.2 u=some (S,Zv (lv+x.2 - u) S,m,x.1*u,Zv (lv+x.2 - u) S,lv+x.2 - u - Zv (lv+x.2 - u) S):=by
 obtain⟨⟨f,g⟩,_⟩:=UB m (lv+x.2);obtain⟨⟨h,i⟩,j⟩:=UB (lv+x.2 - u) S;have hp:=QfL a.1 (u:=u) (by omega);unfold Vl;rw[jTj (VU (by omega)),jTj (VU (by omega)),jTj (VU (by omega)),jTj (VU (by omega)),jTj (VU (by omega)),jTj (VU (by omega)),Int.zero_add,Int.zero_add]
theorem Qg2 (n:Nat)(a b:Bst):V0 n a.2.1 a.2.2.1 a.2.2.2 b.2.1 b.2.2.1 b.2.2.2=some (betB a b):=by
 unfold V0 betB;by_cases c:a.2.1>b.2.1
 ·rw[jTj c,jDj c];rfl
 ·rw[jFj c,jEj c];by_cases d:a.2.1=b.2.1
  ·rw[jTj d,jDj d];rfl
  ·rw[jFj d,jEj d];rfl
def Qgb (S m:Int)(qs:List Qr)(q:Nat)(R:Vd)(l0:Int):Prop:=∀(lv:Int) (l:List Kn),0<=lv->lv<=S->OkK S m qs l->∃a,OkK S m qs a/\R S l0 m (qs.map Vf) (q:Int) lv (l.map qh)=some ((bst S m (qs.drop q) lv).1.map I,(bst S m (qs.drop q) lv).2.1,(bst S m (qs.drop q) lv).2.2.1,(bst S m (qs.drop q) lv).2.2.2,a.map qh)
abbrev exB (x:jVj×jVj×Int×Int×Int):Unit⊕(jVj×jVj×Int×Int×Int):=Sum.inr x
abbrev stB (i:Int)(l:List Kn)(o:Bst):(Unit)⊕(Int×jVj×jVj×Int×Int×Int):=Sum.inr (i,l.map qh,o.1.map I,o.2.1,o.2.2.1,o.2.2.2)
theorem QjI (u:Int)(b:Bst){p:Prop}[Decidable p](hp:p↔Vk (b.1.map I)=true){X:Type}(f:jVj->X):(if p then f [I u] else f (I u::b.1.map I))=f ((u::b.1).map I):=by
 by_cases h:p
 ·rw[jTj h];have:=hp.1 h;cases hb:b.1 with
  | nil=>rfl
  | cons y z=>rw[hb] at this;cases this
 ·rw[jFj h];rfl
theorem QkH {l:jVj}(h:l≠[]):Vk l=false:=by
 cases l with
 | nil=>exact absurd rfl h
 | cons x l=>rfl
theorem Qfw {k:Nat}(h:k<=1000):Wi 8 k:=by unfold Wi;omega
theorem QgG {n:Nat}{S m l0:Int}{qs:List Qr}{q:Nat}{R:Vd}(d:0<=S/\S<=60)(g:0<=m/\m<=30)(u:OkQ qs)(W:qs.length<=100)(Q:Qgb S m qs (q+1) R l0){x:Qr}(z:qs[q]?=some x){lv:Int}(s:0<=lv/\lv<=S)(es:jVj) :
  ∀(j:Nat) (i:Int) (l:List Kn) (o:Bst) (k:Nat),1<=i->i+(j:Int)=Zv m (lv+x.2)+1->OkK S m qs l->SzB (qs.drop q).length o->j<k ->
   ∃A,OkK S m qs A/\QU (W1 n S l0 m (qs.map Vf) q lv es R x (Zv m (lv+x.2))) k (stB i l o)=some (exB (A.map qh,(goB (Vv S (bst S m (qs.drop (q+1))) x lv) j i o).1.map I,(goB (Vv S (bst S m (qs.drop (q+1))) x lv) j i o).2)):=by
 have c:=u x (jgj z);have U:=(jGj z).1;have a:(qs.drop q).length=(qs.drop (q+1)).length+1:=by rw[List.length_drop,List.length_drop];omega
 obtain⟨⟨Z,m2⟩,_⟩:=UB m (lv+x.2);have b:OkQ (qs.drop (q+1)):=fun y X=>u y (List.mem_of_mem_drop X);intro j;induction j with
 | zero =>
  intro i l o k N O h r P;obtain⟨k,rfl⟩:∃t,k=t+1:=⟨k - 1,by omega⟩
  refine⟨l,h,ZP ?_⟩;unfold W1;dsimp only;rw[jFj (by omega)];rfl
 | succ j ih =>
  intro i l o k N O h r P;obtain⟨k,rfl⟩:∃t,k=t+1:=⟨k - 1,by omega⟩
  have v:0<=i/\i<=Zv m (lv+x.2):=by omega
  obtain⟨⟨m3,F⟩,m5⟩:=UB (lv+x.2 - i) S;obtain⟨C,k1,Y⟩:=Q (Zv (lv+x.2 - i) S) l (by omega) F h;have hc:SzB (qs.drop q).length (Vv S (bst S m (qs.drop (q+1))) x lv i):=by rw[a];exact Qcx d g c (wo d g _ b) s v
  have V:SzB (qs.drop q).length (if betB (Vv S (bst S m (qs.drop (q+1))) x lv i) o=true then Vv S (bst S m (qs.drop (q+1))) x lv i else o):=by split<;>assumption
  obtain⟨E,K,M⟩:=ih (i+1) C _ k (by omega) (by omega) k1 V (by omega);refine⟨E,K,?_⟩;show QU _ (k+1) _=some (exB (E.map qh,(goB _ j (i+1) _).1.map I,(goB _ j (i+1) _).2));rw[<-M];refine W8 ?_;have p:=wo d g (qs.drop (q+1)) b (Zv (lv+x.2 - i) S) (by omega) F;have z1:=hc.inc;have z3:=hc.spill;have z0:(qs.drop q).length<=100:=by rw[List.length_drop];omega
  have one:o.1.map I≠[]:=fun e=>by have:=congrArg List.length e;rw[jlj,r.len,a] at this;simp at this
  unfold W1;dsimp only[stB];rw[jTj (by omega),Qbr d g.2 c s v,jBj,jTj (VU (by omega))];dsimp only;rw[show((q:Int)+1)=((q+1:Nat):Int) from rfl,Y,jBj];dsimp only;have G:x.1*i+(bst S m (qs.drop (q+1)) (Zv (lv+x.2 - i) S)).2.1=(Vv S (bst S m (qs.drop (q+1))) x lv i).2.1:=rfl;have H:lv+x.2 - i - Zv (lv+x.2 - i) S+(bst S m (qs.drop (q+1)) (Zv (lv+x.2 - i) S)).2.2.2=(Vv S (bst S m (qs.drop (q+1))) x lv i).2.2.2:=rfl;have J:(bst S m (qs.drop (q+1)) (Zv (lv+x.2 - i) S)).2.2.1=(Vv S (bst S m (qs.drop (q+1))) x lv i).2.2.1:=rfl;rw[G,H,J,jTj (VU (by omega)),jTj (VU (by omega)),jTj (by rw[QkH one];decide),Qg2,jBj];by_cases f:betB (Vv S (bst S m (qs.drop (q+1))) x lv i) o=true
  ·rw[jTj f,jTj f,jTj (Qfw (by rw[jlj,p.len,List.length_drop];omega))];have T:Qg (i+1):=VU (by omega);simp only[jTj T];exact QjI i (bst S m (qs.drop (q+1)) (Zv (lv+x.2 - i) S)) Iff.rfl fun L=>some (Sum.inl (Sum.inr (i+1,C.map qh,L,(Vv S (bst S m (qs.drop (q+1))) x lv i).2.1,(Vv S (bst S m (qs.drop (q+1))) x lv i).2.2.1,(Vv S (bst S m (qs.drop (q+1))) x lv i).2.2.2)))
  ·rw[jFj f,jFj f,jTj (VU (by omega))]
theorem Qkf {n:Nat}(hn:200<=n){S m l0:Int}{qs:List Qr}{q:Nat}{R:Vd}(i:0<=S/\S<=60)(g:0<=m/\m<=30)(C:OkQ qs)(E:qs.length<=100)(a7:q<=qs.length)(J:q<qs.length->Qgb S m qs (q+1) R l0):Qgb S m qs q (fun N O P Q T U V=>Uz n N O P Q T U V R) l0:=by
 intro lv l c f t;dsimp only;unfold Uz;by_cases H:q=qs.length
 ·refine⟨l,t,?_⟩;rw[jTj (by rw[jlj,H]),H,List.drop_length];rfl
 ·have d:q<qs.length:=by omega
  have u:qs[q]?=some qs[q]:=jej d;have v:qs.drop q=qs[q]::qs.drop (q+1):=List.drop_eq_getElem_cons d;have e:=C _ (jgj u);have s:(Value.agg #[.int .i64 (q:Int),.int .i64 lv])=keyP ((q:Int),lv):=rfl;rw[jFj (by rw[jlj];omega)];simp only[s];rw[jTj (mokP _ l),QhR];cases hf:Qbi ((q:Int),lv) l with
  | some b =>
   refine⟨l,t,?_⟩;have j:=t _ (Qbh hf);dsimp only at j;rw[jtj] at j;rw[jTj (show(Option.map encB (some b)).isSome=true from rfl)];show some (b.1.map I,b.2.1,b.2.2.1,b.2.2.2,l.map qh)=_;rw[j]
  | none =>
   rw[jFj (fun h=>by cases h),UG unQ u,jBj];generalize qs[q]=x at u v e;have p:=Qag (x:=x) g.1 c e.2.1;obtain⟨⟨m1,m2⟩,_⟩:=UB m (lv+x.2);have o:Yu n S lv m 0 0 0 x.1 x.2=some (Zv m (lv+x.2)):=by unfold Yu;rw[jTj (VU (by omega))]
   rw[o,jBj,jTj (VU (by omega))];have r:OkQ (qs.drop (q+1)):=fun y hy=>C y (List.mem_of_mem_drop hy);obtain⟨⟨m3,M⟩,m5⟩:=UB (lv+x.2 - 0) S;obtain⟨G,k1,k2⟩:=J d (Zv (lv+x.2 - 0) S) l (by omega) M t;have z:(qs.drop q).length=(qs.drop (q+1)).length+1:=by rw[v,List.length_cons]
   have hc:SzB (qs.drop q).length (Vv S (bst S m (qs.drop (q+1))) x lv 0):=by rw[z];exact Qcx i g e (wo i g _ r) ⟨c,f⟩ ⟨Int.le_refl 0,p⟩
   obtain⟨K,Z,g2⟩:=QgG (n:=n) (l0:=l0) (R:=R) i g C E (J d) u ⟨c,f⟩ (l.map qh) (Zv m (lv+x.2)).toNat 1 G (Vv S (bst S m (qs.drop (q+1))) x lv 0) (n - 1) (by omega) (by omega) k1 hc (by omega);have F:=wo i g (qs.drop (q+1)) r (Zv (lv+x.2 - 0) S) (by omega) M;have z0:(qs.drop q).length<=100:=by rw[List.length_drop];omega
   have z1:=hc.inc;have z3:=hc.spill;have s1:W1 n S l0 m (qs.map Vf) q lv (l.map qh) R x (Zv m (lv+x.2)) (.inl ())=some (.inl (stB 1 G (Vv S (bst S m (qs.drop (q+1))) x lv 0))):=by unfold W1;dsimp only;rw[jTj (by omega),Qbr i g.2 e ⟨c,f⟩ ⟨Int.le_refl 0,p⟩,jBj,jTj (VU (by omega))];dsimp only;rw[show((q:Int)+1)=((q+1:Nat):Int) from rfl,k2,jBj];dsimp only;have W:x.1*0+(bst S m (qs.drop (q+1)) (Zv (lv+x.2 - 0) S)).2.1=(Vv S (bst S m (qs.drop (q+1))) x lv 0).2.1:=rfl;have X:lv+x.2 - 0 - Zv (lv+x.2 - 0) S+(bst S m (qs.drop (q+1)) (Zv (lv+x.2 - 0) S)).2.2.2=(Vv S (bst S m (qs.drop (q+1))) x lv 0).2.2.2:=rfl;have Y:(bst S m (qs.drop (q+1)) (Zv (lv+x.2 - 0) S)).2.2.1=(Vv S (bst S m (qs.drop (q+1))) x lv 0).2.2.1:=rfl;rw[W,X,Y,jTj (VU (by omega)),jTj (VU (by omega)),jTj (Qfw (by rw[jlj,F.len,List.length_drop];omega))];exact QjI 0 (bst S m (qs.drop (q+1)) (Zv (lv+x.2 - 0) S)) Iff.rfl fun L=>some (Sum.inl (Sum.inr (1,G.map qh,L,(Vv S (bst S m (qs.drop (q+1))) x lv 0).2.1,(Vv S (bst S m (qs.drop (q+1))) x lv 0).2.2.1,(Vv S (bst S m (qs.drop (q+1))) x lv 0).2.2.2)))
   have A:n=(n - 1)+1:=by omega
   have a:=W8 (k:=n - 1) s1;rw[<-A,g2] at a;have j:bst S m (qs.drop q) lv=goB (Vv S (bst S m (qs.drop (q+1))) x lv) (Zv m (lv+x.2)).toNat 1 (Vv S (bst S m (qs.drop (q+1))) x lv 0):=by rw[v];rfl
   refine⟨putK ((q:Int),lv) (bst S m (qs.drop q) lv) K,Qi3 Z (by dsimp only;rw[jtj]),?_⟩;rw[a,jBj,<-j];dsimp only;rw[jTj (mokP _ K)];have:(D.agg [.lst false 1 ((bst S m (qs.drop q) lv).1.map I),I (bst S m (qs.drop q) lv).2.1,I (bst S m (qs.drop q) lv).2.2.1,I (bst S m (qs.drop q) lv).2.2.2])=encB (bst S m (qs.drop q) lv):=rfl;rw[this,QjC]
theorem Qih {n:Nat}(d:200<=n){S m l0:Int}{qs:List Qr}(b:0<=S/\S<=60)(c:0<=m/\m<=30)(e:OkQ qs)(a:qs.length<=100):∀(k q:Nat),q<=qs.length->qs.length - q<k->Qgb S m qs q (K0 n k) l0
 | 0,q,_,h=>by omega
 | k+1,q,h1,h2=>Qkf d b c e a h1 fun f=>Qih d b c e a k (q+1) (by omega) (by omega)
theorem Qjk {n:Nat}(g:200<=n){S m l0:Int}{qs:List Qr}(c:0<=S/\S<=60)(b:0<=l0/\l0<=S)(f:0<=m/\m<=30)(i:OkQ qs)(a:qs.length<=100) :
  ∃L:jVj,qI n S l0 m (qs.map Vf) 0 l0 []=some ((bst S m qs l0).1.map I,(bst S m qs l0).2.1,(bst S m qs l0).2.2.1,(bst S m qs l0).2.2.2,L):=by
 obtain⟨j,_,h⟩:=Qih (l0:=l0) g c f i a n 0 (Nat.zero_le _) (by omega) l0 [] b.1 b.2 (fun e d=>by cases d);exact⟨_,h⟩
theorem QdS (n:Nat)(b:Bool)(e:Int):Qm n b e=some (QD b e):=by unfold Qm QD;cases b<;>rfl
theorem UF (n:Nat)(x b a:Int):Zq n x b a=some (inR x b a):=by
 unfold Zq inR;rw[QdS,QdS,jBj,jBj];by_cases h:x<b
 ·simp[h,QD]
 ·by_cases c:x>a
  ·simp[h,c,QD]
  ·simp[h,c,QD]
theorem za {n:Nat}(ms:List Int)(d:ms.length<1000000)(b:ms.length<n):Qi n (ms.map I)=some (QK ms):=by
 unfold Qi;have:=Vr (step:=Q6 n (ms.map I)) fG (fun _=>.inr ()) (fun i _=>(i:Int)) ms (fun _ _=>True)
  (fun i s x a _=>by
   unfold fG Q6;have c:=(jGj a).1;by_cases h:x=0
   ·rw[jTj h];refine⟨?_,trivial⟩;rw[jTj (ZF a),Ei a,jBj,jTj h,jTj (by unfold Qg;omega)];rfl
   ·rw[jFj h];dsimp only;rw[jTj (ZF a),Ei a,jBj,jFj h])
  (fun s _=>by unfold Q6;rw[jFj (by simp)]) (s:=()) trivial b
 rw[show(0:Int)=((0:Nat):Int) from rfl,this,X1];by_cases h:QK ms=0
 ·rw[jTj h,h];rfl
 ·rw[jFj h];rfl
theorem QfW {n:Nat}(e:100<=n)(a b c d:Int)(h:a=0/\b=0/\c=0/\d=0):Qi n [I a,I b,I c,I d]=some 0:=by obtain⟨rfl,rfl,rfl,rfl⟩:=h;exact za (n:=n) [0,0,0,0] (by decide) (by show 4<n;omega)
theorem Qjh {n:Nat}(b:100<=n){x:Qr}(a:(-100000<=x.1/\x.1<=100000)/\(0<=x.2/\x.2<=30)):W2 n x.1 x.2=some 0:=by unfold W2;rw[UF,UF,jBj,jBj,WS.2 a.1,WS.2 a.2];have:=za (n:=n) [0,0] (by decide) (by show 2<n;omega);rw[show([I 0,I 0]:jVj)=[0,0].map I from rfl,this];rfl
theorem fnz0:∀k:Nat,QK (List.replicate k 0)=0
 | 0=>rfl
 | k+1=>by rw[List.replicate_succ];unfold QK;rw[jTj rfl];exact fnz0 k
theorem QjH {a:Type}:∀l:List a,(l.flatMap fun _=>[I 0])=(List.replicate l.length (0:Int)).map I
 | []=>rfl
 | x::l=>by rw[List.flatMap_cons,QjH l];rfl
theorem Qdd {b k:Nat}(a:b<=100)(h:k<=1000):Wi b k:=by unfold Wi;have c:k*b<=1000*100:=Nat.mul_le_mul h a;have d:b*k<=100*1000:=Nat.mul_le_mul a h;omega
theorem Qjj {n:Nat}(b:100<=n){qs:List Qr}(c:OkQ qs)(e:qs.length<=8):YQ n (qs.map Vf)=some ((List.replicate qs.length (0:Int)).map I):=by
 unfold YQ;have:=Y4 (step:=Vm n (qs.map Vf)) (E:=jVj) (fun out=>out) qs (fun _=>[I 0]) (fun _=>jLj _)
  (fun i out x a f=>by have d:=(jGj a).1;unfold Vm;dsimp only;rw[jTj (ZF a),UG unQ a,jBj,Qjh b (c x (jgj a)),jBj,jTj (Qdd (by decide) (by omega)),jTj (by unfold Qg;omega)];rfl)
  (fun out _=>by unfold Vm;dsimp only;rw[jFj (by simp)]) (k:=n) (by omega)
 rw[this,jBj,QjH]
theorem Qbq {n:Nat}(b:100<=n){qs:List Qr}(c:OkQ qs)(a:qs.length<=8):W3 n (qs.map Vf)=some 0:=by unfold W3;rw[jFj (by rw[jlj];omega),Qjj b c a,jBj,za _ (by rw[List.length_replicate];omega) (by rw[List.length_replicate];omega),fnz0];rfl
theorem QeU {n:Nat}(b:100<=n){S m lv:Int}(c:0<=S/\S<=60)(d:0<=lv/\lv<=S)(e:0<=m/\m<=30){qs:List Qr}(f:OkQ qs)(a:qs.length<=8):V1 n S lv m (qs.map Vf)=some 0:=by unfold V1;rw[UF,UF,UF,jBj,jBj,jBj,Qbq b f a,jBj,QfW b _ _ _ _ ⟨WS.2 c,WS.2 d,WS.2 e,rfl⟩];rfl
theorem yj {n:Nat}(j:200<=n){S m lv:Int}(b:0<=S/\S<=60)(a:0<=lv/\lv<=S)(d:0<=m/\m<=30){qs:List Qr}(f:OkQ qs)(c:qs.length<=8)(e:qs≠[]) :
  VH n S lv m (qs.map Vf)=some ((bst S m qs lv).1.map I,(bst S m qs lv).2.1,(bst S m qs lv).2.2.1,(bst S m qs lv).2.2.2,0):=by
 have g:=wo b d qs f lv a.1 a.2;obtain⟨L,i⟩:=Qjk j b a d f (by omega);have hp:=List.length_pos_iff.2 e;unfold VH;rw[QeU (by omega) b a d f c,jBj,jTj rfl,i,jBj];dsimp only;have:Ys n ((bst S m qs lv).1.map I)=some ((bst S m qs lv).1.map I):=by
  unfold Ys;rw[jFj (by
   cases h:(bst S m qs lv).1 with
   | nil=>have:=g.len;rw[h] at this;simp at this;omega
   | cons _ _=>simp[Vk]),jTj (Qfw (by rw[jlj,g.len];omega))]
 rw[this];rfl
theorem Qbo {n:Nat}(e:100<=n){x:Qr}{u:Int}(b:0<=u/\u<=30):VG n [Vf x] [I u]=some 0:=by
 have a:Yf n [I u]=some [I 0]:=by
  unfold Yf;obtain⟨k,rfl⟩:∃k,n=k+2:=⟨n - 2,by omega⟩
  have c:Ww (k+2) [I u] (0,[])=some (.inl (1,[I 0])):=by unfold Ww Yg;dsimp only;rw[jTj (by simp),show el V5 [I u] 0=some u from rfl,jBj,UF,jBj,jBj,WS.2 b,jTj (Qfw (by decide)),jTj (VU (by decide))];rfl
  have d:Ww (k+2) [I u] (1,[I 0])=some (.inr [I 0]):=by unfold Ww;dsimp only;rw[jFj (by simp)]
  rw[W8 c,ZP d];rfl
 unfold VG;rw[jTj (by rfl),a,jBj];have:=za (n:=n) [0] (by decide) (by show 1<n;omega);rw[show([I 0]:jVj)=[0].map I from rfl,this];rfl
theorem Qeq {n:Nat}(a:100<=n){x:Qr}(g:(-100000<=x.1/\x.1<=100000)/\(0<=x.2/\x.2<=30)){e d f:Int}(i:0<=e/\e<=30)(c:0<=d/\d<=30)(j:0<=f/\f<=100000) :
  WO n [Vf x] [I e] [I d] f=some (if e - d>0 then(x.1*d - f*(e - d),[.agg [I 0,I (e - d)]],0) else(x.1*d,[],0)):=by
 have m:OkQ [x]:=fun y o=>by rw[List.mem_singleton.1 o];exact g
 have q:=QfL g.1 c;unfold WO;rw[show[Vf x]=[x].map Vf from rfl,Qbq a m (by simp),jBj,show[x].map Vf=[Vf x] from rfl,Qbo a i,jBj,Qbo a c,jBj,UF,jBj,QfW a _ _ _ _ ⟨rfl,rfl,rfl,WS.2 j⟩,jBj,jTj rfl];obtain⟨k,rfl⟩:∃k,n=k+2:=⟨n - 2,by omega⟩
 have l:Wg (k+2) [Vf x] [I e] [I d] f (0,0,[])=some (.inl (if e - d>0 then(x.1*d - f*(e - d),1,[.agg [I 0,I (e - d)]]) else(x.1*d,1,[]))):=by
  unfold Wg;dsimp only;rw[jTj (by simp),show el UX [Vf x] 0=some x from rfl,jBj,show el V5 [I d] 0=some d from rfl,jBj,jTj (VU (by omega)),Int.zero_add,jTj (VU (by omega)),show el V5 [I e] 0=some e from rfl,jBj,jTj (VU (by omega))];by_cases h:e - d>0
  ·have r:=QfL (p:=f) (u:=e - d) (by omega) (by omega);rw[jTj h,jTj h,jTj (VU (by omega)),jTj (VU (by omega)),jTj (Qdd (by decide) (by simp)),jTj (VU (by decide))];rfl
  ·rw[jFj h,jFj h,jTj (VU (by decide))];rfl
 rw[W8 l];by_cases h:e - d>0
 ·rw[jTj h,jTj h];have b:Wg (k+2) [Vf x] [I e] [I d] f (x.1*d - f*(e - d),1,[.agg [I 0,I (e - d)]])=some (.inr (x.1*d - f*(e - d),[.agg [I 0,I (e - d)]])):=by unfold Wg;dsimp only;rw[jFj (by simp)]
  rw[ZP b];rfl
 ·rw[jFj h,jFj h];have b:Wg (k+2) [Vf x] [I e] [I d] f (x.1*d,1,[])=some (.inr (x.1*d,[])):=by unfold Wg;dsimp only;rw[jFj (by simp)]
  rw[ZP b];rfl
def KL:List Qr->Int
 | []=>0
 | x::r=>x.2+KL r
def Feas (m:Int):List Qr->Int->List Int->Int->Prop
 | [],lv,a,lf=>a=[]/\lf=lv
 | x::r,lv,a,lf=>∃u t,a=u::t/\0<=u/\u<=m/\u<=lv+x.2/\Feas m r (lv+x.2 - u) t lf
theorem yO:∀{qs:List Qr},OkQ qs->0<=KL qs
 | [],_=>Int.le_refl _
 | x::r,h=>by obtain⟨b,a⟩:=uu h;have:=yO a;unfold KL;omega
theorem Qeg {S m:Int}(d:0<=m):∀{qs:List Qr},OkQ qs->∀{lv:Int},0<=lv->lv+KL qs<=S->Feas m qs lv (bst S m qs lv).1 (bst S m qs lv).2.2.1/\(bst S m qs lv).2.2.2=0
 | [],_,lv,_,_=>⟨⟨rfl,rfl⟩,rfl⟩
 | x::r,hq,lv,h1,h2=>by
  obtain⟨i,f⟩:=uu hq;have j:=yO f;unfold KL at h2;have hc:=Qag (x:=x) d h1 i.2.1;obtain⟨⟨k,l⟩,_⟩:=UB m (lv+x.2);have c:∀u,0<=u->u<=Zv m (lv+x.2)->Feas m (x::r) lv (Vv S (bst S m r) x lv u).1 (Vv S (bst S m r) x lv u).2.2.1/\(Vv S (bst S m r) x lv u).2.2.2=0:=fun u a b=>by
   have e:Zv (lv+x.2 - u) S=lv+x.2 - u:=by rw[GS];omega
   obtain⟨g,h⟩:=Qeg (S:=S) d f (lv:=lv+x.2 - u) (by omega) (by omega);unfold Vv;rw[e];dsimp only;exact⟨⟨u,_,rfl,a,by omega,by omega,g⟩,by rw[h];omega⟩
  exact wP (P:=fun b=>Feas m (x::r) lv b.1 b.2.2.1/\b.2.2.2=0) _ _ _ (c 0 (by omega) hc) fun u a b=>c u (by omega) (by omega)
theorem Qef {S m:Int}(j:0<=m):∀{qs ps:List Qr},qs.length=ps.length->(∀(i:Nat) (x y:Qr),qs[i]?=some x->ps[i]?=some y->x.1=y.1/\0<=x.2/\x.2<=y.2)->0<=S->∀{lv lw:Int},0<=lv->lv<=lw->(bst S m qs lv).2.1<=(bst S m ps lw).2.1
 | [],[],_,_,_,lv,lw,_,_=>Int.le_refl _
 | [],_::_,h,_,_,_,_,_,_=>by simp at h
 | _::_,[],h,_,_,_,_,_,_=>by simp at h
 | x::r,y::s,h,hxy,hS,lv,lw,h1,h2=>by
  obtain⟨n,o,A⟩:=hxy 0 x y rfl rfl;have e:r.length=s.length:=by simpa using h
  have k:∀(i:Nat) (x y:Qr),r[i]?=some x->s[i]?=some y->x.1=y.1/\0<=x.2/\x.2<=y.2:=fun i a b C E=>hxy (i+1) a b (by rwa [List.getElem?_cons_succ]) (by rwa [List.getElem?_cons_succ]);have g:=Qag (x:=x) j h1 o;have t:=Qag (m:=m) (lv:=lw) (x:=y) j (by omega) (by omega);have v:Zv m (lv+x.2)<=Zv m (lw+y.2):=by rw[GS,GS];omega
  obtain⟨p,q⟩:=Qid (f:=Vv S (bst S m s) y lw) (Zv m (lw+y.2)).toNat 1 (Vv S (bst S m s) y lw 0);have d:∀u,0<=u->u<=Zv m (lw+y.2)->(Vv S (bst S m s) y lw u).2.1<=(bst S m (y::s) lw).2.1:=fun u a b=>by
   by_cases z:u=0
   ·rw[z];exact p
   ·exact q u (by omega) (by omega)
  have l:∀u,0<=u->u<=Zv m (lv+x.2)->(Vv S (bst S m r) x lv u).2.1<=(bst S m (y::s) lw).2.1:=fun u a b=>by
   refine Int.le_trans ?_ (d u a (by omega));have c:0<=Zv (lv+x.2 - u) S/\Zv (lv+x.2 - u) S<=Zv (lw+y.2 - u) S:=by obtain⟨⟨_,G⟩,_⟩:=UB m (lv+x.2);rw[GS,GS];omega
   have F:=Qef (S:=S) j e k hS c.1 c.2;show x.1*u+(bst S m r _).2.1<=y.1*u+(bst S m s _).2.1;rw[n];omega
  exact wP (P:=fun b=>b.2.1<=(bst S m (y::s) lw).2.1) _ _ _ (l 0 (by omega) g) fun u a b=>l u (by omega) (by omega)
def onm (j:Nat):Wrd:=111::Lib.itoa (j:Int)
theorem uG {j:Nat}(h:j<10):Lib.itoa (j:Int)=[UInt8.ofNat (48+j)]:=by rw[Ed (by omega),jtj,Lib.decDigits,dif_pos h]
theorem QhG {j:Nat}(h:j<10):Yw (mkS (onm j))=true/\(onm j).length<=4:=by
 unfold onm;rw[uG h];match j,h with
 | 0,_=>decide
 | 1,_=>decide
 | 2,_=>decide
 | 3,_=>decide
 | 4,_=>decide
 | 5,_=>decide
 | 6,_=>decide
 | 7,_=>decide
 | 8,_=>decide
 | 9,_=>decide
theorem Qi0 {i j:Nat}(d:i<10)(e:j<10)(h:mkS (onm i)=mkS (onm j)):i=j:=by have a:=QhQ.1 h;unfold onm at a;have c:Lib.itoa (i:Int)=Lib.itoa (j:Int):=List.tail_eq_of_cons_eq a;have b:=uv (n:=(i:Int)) (by omega) (by omega);rw[c,uv (by omega) (by omega)] at b;simp at b;omega
def NmD (i:Nat)(os:List Off):Prop:=∀s,s∈nmO os->∃j,j<i/\s=mkS (onm j)
theorem Qi5 {i:Nat}(b:i<10){os:List Off}(h:NmD i os):mkS (onm i)∉nmO os:=fun c=>by obtain⟨j,d,a⟩:=h _ c;have:=Qi0 b (by omega) a;omega
theorem Qdz {i:Nat}{os:List Off}(h:NmD i os):NmD (i+1) os:=fun s b=>by obtain⟨j,c,a⟩:=h s b;exact⟨j,by omega,a⟩
theorem QhM {i:Nat}{os:List Off}(h:NmD i os){o:Off}(b:o.1=mkS (onm i)):NmD (i+1) (os++[o]):=fun s a=>by
 rw[Qdy] at a;obtain a|a:=List.mem_append.1 a
 ·exact Qdz h s a
 ·exact⟨i,by omega,(List.mem_singleton.1 a).trans b⟩
structure TrI (at' i:Nat) (lv:Int) (c:List Ev) (r:Reg):Prop where
 ex:∃z t l li he os,JD c r z t l (decide (i<=at')) (decide (at'<i)) li he 0 os/\z<=4+4*i/\(0<=t/\t<=10*(i:Int))/\(0<=l/\l<=30)/\he+gnD (decide (i<=at')) l (10*(i:Int) - t)=1000000*lv/\(0<=li/\li+gnD (decide (i<=at')) l (10*(i:Int) - t)<=30000000*(i:Int))/\os.length<=i/\NmD i os
structure TrM (at' i:Nat) (l lv:Int) (c:List Ev) (r:Reg):Prop where
 ex:∃z li os,JD c r z (10*(i:Int)) l (decide (i<at')) (decide (at'<=i)) li (1000000*lv) 0 os/\z<=6+4*i/\(0<=li/\li<=30000000*(i:Int))/\os.length<=i/\NmD i os
theorem QjG {on:Bool}{l d:Int}(b:0<=l/\l<=30)(a:0<=d/\d<=10):0<=gnD on l d/\gnD on l d<=30000000:=by
 cases on
 ·rw[Ui];omega
 ·show 0<=100000*l*d/\100000*l*d<=30000000;have h:=jI (g:=l) (c:=d) (p:=30) (q:=10) b a;rw[Int.mul_assoc];omega
theorem QiL {n:Nat}(x:3000<=n){at' i:Nat}(H:i<6)(y:i≠at'){lv:Int}(u:0<=lv/\lv<=60){c:List Ev}{r:Reg}(h:TrI at' i lv c r){v:Int}(J:0<=v/\v<=30){s:jSj}(A:s=mkS (Vs .sun [] [10*(i:Int),v])) :
  ∃a b,TrM at' i v lv a b/\zx n s c r 0 a b:=by
 obtain⟨z,t,l,C,G,os,j,E,k,F,m,o,p,q⟩:=h.ex;obtain⟨a,b,d,g⟩:=Qhr x j (by omega) (t':=10*(i:Int)) (v:=v) k.2 (by omega) (by omega) ⟨by omega,by omega⟩ A;have e:decide (i<=at')=decide (i<at'):=by rw[decide_eq_decide];omega
 have f:decide (at'<i)=decide (at'<=i):=by rw[decide_eq_decide];omega
 rw[m,f] at d;refine⟨a,b,⟨z+1,C+gnD (decide (i<=at')) l (10*(i:Int) - t),os,?_,by omega,?_,p,q⟩,g⟩
 ·rw[<-e];exact d
 ·refine⟨?_,o.2⟩;have:0<=gnD (decide (i<=at')) l (10*(i:Int) - t):=by
   cases decide (i<=at')
   ·exact Int.le_refl _
   ·exact Int.mul_nonneg (by omega) (by omega)
  omega
theorem Qhj {n:Nat}(k:3000<=n){i:Nat}(L:i<6){lv:Int}(C:0<=lv/\lv<=60){c:List Ev}{r:Reg}(h:TrI i i lv c r){v:Int}(M:0<=v/\v<=30){s m:jSj}(E:s=mkS (Vs .sun [] [10*(i:Int),v]))(f:m=mkS (Vs .trip [] [10*(i:Int)])) :
  ∃a d b e,zx n s c r 0 a d/\TrM i i v lv b e/\zx n m a d 0 b e:=by
 obtain⟨z,t,l,G,K,os,p,H,q,J,u,x,y,A⟩:=h.ex;obtain⟨a,d,j,o⟩:=Qhr k p (by omega) (t':=10*(i:Int)) (v:=v) q.2 (by omega) (by omega) ⟨by omega,by omega⟩ E;have g:decide (i<i)=false:=jEj (by omega);rw[u,g] at j;obtain⟨b,e,k1,F⟩:=Qfq k j (by omega) (t':=10*(i:Int)) (Int.le_refl _) (by omega) (by rw[Int.sub_self];unfold BkD;rw[Xu];omega) f;rw[Int.sub_self,Xu,Int.add_zero,Int.add_zero] at k1;refine⟨a,d,b,e,o,⟨z+1+1,G+gnD (decide (i<=i)) l (10*(i:Int) - t),os,?_,by omega,?_,y,A⟩,F⟩
 ·rw[jDj (jLj i)] at k1;rw[g,jDj (jLj i)];exact k1
 ·refine⟨?_,x.2⟩;have:0<=gnD (decide (i<=i)) l (10*(i:Int) - t):=by
   cases decide (i<=i)
   ·exact Int.le_refl _
   ·exact Int.mul_nonneg (by omega) (by omega)
  omega
def dkH (at' i:Nat)(v:Int):Int:=if i<at' then v else 0
theorem Qie (at' i:Nat)(v:Int):gnD (decide (i<at')) v 10=1000000*dkH at' i v:=by
 unfold dkH;by_cases h:i<at'
 ·rw[jDj h,jTj h,Qji]
 ·rw[jEj h,jFj h,Ui];rfl
theorem Qf1 {at' i:Nat}{v:Int}(h:0<=v/\v<=30):0<=dkH at' i v/\dkH at' i v<=30:=by unfold dkH;split<;>omega
theorem Qc0 {at' i:Nat}{v lv:Int}(e:0<=v/\v<=30){c:List Ev}{r:Reg}(h:TrM at' i v lv c r):TrI at' (i+1) (lv+dkH at' i v) c r:=by
 obtain⟨z,k,os,g,l,m,n,j⟩:=h.ex;have a:decide (i+1<=at')=decide (i<at'):=rfl;have f:decide (at'<i+1)=decide (at'<=i):=by rw[decide_eq_decide];omega
 have o:=QjG (on:=decide (i<at')) e (d:=10) (by omega);have p:=Qie at' i v;have b:10*((i+1:Nat):Int) - 10*(i:Int)=10:=by omega
 refine⟨z,10*(i:Int),v,k,1000000*lv,os,?_,by omega,by omega,e,?_,?_,by omega,Qdz j⟩
 ·rw[a,f];exact g
 ·rw[a,b];omega
 ·rw[a,b];omega
theorem QcZ {n:Nat}(y:3000<=n){at' i:Nat}(V:i<6){v lv:Int}(o:0<=v/\v<=30)(L:0<=lv/\lv<=60){c:List Ev}{r:Reg}(h:TrM at' i v lv c r){d p:Int}(U:1<=d/\d<=30)(H:d<=lv+dkH at' i v)(hp:0<=p/\p<=1000){s A:jSj}
  (M:s=mkS (Vs .offer [onm i] [10*(i:Int),10*(i:Int)+10,10*(i:Int)+20,d,p])) (m:A=mkS (Vs .deliver [onm i] [10*(i:Int)+10,d])) :
  ∃b j g k,zx n s c r 0 b j/\TrI at' (i+1) (lv+dkH at' i v - d) g k/\zx n A b j 0 g k:=by
 obtain⟨z,O,os,G,P,Q,S,x⟩:=h.ex;have C:decide (i+1<=at')=decide (i<at'):=rfl;have E:decide (at'<i+1)=decide (at'<=i):=by rw[decide_eq_decide];omega
 have T:=QjG (on:=decide (i<at')) o (d:=10) (by omega);have K:=Qie at' i v;have J:=Qf1 (at':=at') (i:=i) o;have a:=Qi5 (by omega) x;have l:10*(i:Int)+10 - 10*(i:Int)=10:=by omega
 have q:10*((i+1:Nat):Int) - (10*(i:Int)+10)=0:=by omega
 obtain⟨b,j,t,F⟩:=Qc4 y G (by omega) (QhG (by omega)) a (by omega) (t':=10*(i:Int)) (f:=10*(i:Int)+10) (u:=10*(i:Int)+20) (e:=d) (p:=p) (Int.le_refl _) (by omega) (by omega) (by omega) (by omega) hp (by rw[Int.sub_self];unfold BkD;rw[Xu];omega) M;rw[Int.sub_self,Xu,Int.add_zero,Int.add_zero] at t;obtain⟨g,k,k1,N⟩:=ud y t (by omega) (QhG (by omega)) a (t':=10*(i:Int)+10) (v:=d) (by omega) (by omega) (by omega) (by omega) (by rw[l];unfold BkD;omega) (by rw[l];omega) m;rw[l,K] at k1;refine⟨b,j,g,k,F,⟨z+1+1,10*(i:Int)+10,v,O+1000000*dkH at' i v,1000000*lv+1000000*dkH at' i v - 1000000*d,os++[(mkS (onm i),10*(i:Int)+10,10*(i:Int)+20,d,p,0+d,false)],?_,by omega,by omega,o,?_,?_,by rw[jaj];simp;omega,QhM x rfl⟩,N⟩
 ·rw[C,E];exact k1
 ·rw[q,Xu];omega
 ·rw[q,Xu];omega
def OkP (qs:List Qr):Prop:=∀x,x∈qs->(0<=x.1/\x.1<=1000)/\(0<=x.2/\x.2<=30)
theorem Qbb {qs:List Qr}(h:OkP qs):OkQ qs:=fun x a=>⟨by have:=(h x a).1;omega,(h x a).2⟩
theorem qP (n:Nat)(x b a:Int):Zq n x b a=some (inR x b a):=by
 unfold Zq Qm inR;by_cases h:x<b
 ·simp[h]
 ·by_cases c:x>a
  ·simp[h,c]
  ·simp[h,c]
def qeG (x:Qr):Int:=QK [inR x.1 (-100000) 100000,inR x.2 0 30]
theorem QhB {x:Qr}(h:qeG x=0):(-100000<=x.1/\x.1<=100000)/\(0<=x.2/\x.2<=30):=⟨WS.1 (Zl h _ (by simp)),WS.1 (Zl h _ (by simp))⟩
theorem kP {n:Nat}(t:100<=n){qs:List Qr}(q:qs.length<=8):∀(a:List Qr) (i k:Nat),qs.drop i=a->i<=qs.length->a.length<k ->
  ∃e,QU (ZB n (qs.map Vf)) k (i:Int)=some e/\(e=.inr ()->OkQ a)/\∀v,e=.inl v->v≠0
 | _,_,0,_,_,h=>absurd h (by omega)
 | [],i,k+1,hd,hi,_=>by have r:=List.drop_eq_nil_iff.1 hd;refine⟨.inr (),ZP ?_,fun _ x b=>(by cases b),fun v g=>(by cases g)⟩;unfold ZB;rw[jFj (by rw[jlj];omega)]
 | x::a,i,k+1,hd,hi,hk=>by
  have b:qs[i]?=some x:=by have:=congrArg List.head? hd;rwa [List.head?_drop] at this
  have d : qs.drop (i+1)=a:=by rw[<-List.drop_drop,hd];rfl
  have s:=(jGj b).1;have l:Qi n [I (inR x.1 (-100000) 100000),I (inR x.2 0 30)]=some (qeG x):=Qdi (n:=n) [inR x.1 (-100000) 100000,inR x.2 0 30] (by simp) (by show 2<n;omega);by_cases c:qeG x=0
  ·obtain⟨e,m,o,p⟩:=kP t q a (i+1) k d (by omega) (by simpa using hk);refine⟨e,(W8 ?_).trans m,fun f=>?_,p⟩
   ·unfold ZB;rw[jTj (ZF b),UG unQ b,jBj,qP,jBj,qP,jBj,l,jBj,jTj c,jTj (VU (by omega))];rfl
   ·intro y j;obtain rfl|j:=List.mem_cons.1 j
    ·exact QhB c
    ·exact o f y j
  ·refine⟨.inl (qeG x),ZP ?_,fun f=>(by cases f),fun v g=>(by cases g;exact c)⟩;unfold ZB;rw[jTj (ZF b),UG unQ b,jBj,qP,jBj,qP,jBj,l,jBj,jFj c]
theorem Qgt {n:Nat}(f:100<=n){qs:List Qr}(d:qs.length<=8):∃e,Vh n (qs.map Vf)=some e/\(e=0->OkQ qs):=by
 obtain⟨e,a,b,c⟩:=kP f d qs 0 n rfl (Nat.zero_le _) (by omega);unfold Vh;rw[jFj (by rw[jlj];omega),show(0:Int)=((0:Nat):Int) from rfl,a,jBj];cases e with
 | inl v=>exact⟨v,rfl,fun h=>absurd h (c v rfl)⟩
 | inr u=>exact⟨0,rfl,fun _=>b rfl⟩
theorem yp {n:Nat}(r:100<=n){qs:List Qr}(o:qs.length<=6)(l:OkQ qs):∀(a pre:List Qr) (k:Nat) (h:Int),qs=pre++a->(0<=h/\h<=30*(pre.length:Int))->a.length<k ->
  ∃e,QU (Zm n (qs.map Vf)) k (h,(pre.length:Int),pre.map Vf)=some e/\(e=.inl ()\/e=.inr (h+KL a,qs.map Vf)/\OkP a)
 | _,_,0,_,_,_,hk=>absurd hk (by omega)
 | [],pre,k+1,h,hd,hh,_=>by
  rw[List.append_nil] at hd;refine⟨.inr (h,pre.map Vf),ZP ?_,.inr ⟨?_,fun x b=>(by cases b)⟩⟩
  ·unfold Zm;dsimp only;rw[jFj (by rw[jlj,hd];omega)]
  ·rw[hd];unfold KL;rw[Int.add_zero]
 | x::a,pre,k+1,h,hd,hh,hk=>by
  have b:qs[pre.length]?=some x:=by rw[hd,List.getElem?_append_right (jLj _),Nat.sub_self];rfl
  have f:=l x (jgj b);have q:=(jGj b).1;have p:(pre.map Vf).length=pre.length:=jlj _;by_cases d:x.1<0
  ·refine⟨.inl (),ZP ?_,.inl rfl⟩;unfold Zm;dsimp only;rw[jTj (ZF b),UG unQ b,jBj,jTj d]
  by_cases j:x.1>1000
  ·refine⟨.inl (),ZP ?_,.inl rfl⟩;unfold Zm;dsimp only;rw[jTj (ZF b),UG unQ b,jBj,jFj d,jTj j]
  obtain⟨e,i,c⟩:=yp r o l a (pre++[x]) k (h+x.2) (by rw[hd];simp) (by rw[jaj,List.length_singleton];omega) (by simpa using hk);rw[jaj,List.length_singleton] at i;refine⟨e,(W8 ?_).trans i,?_⟩
  ·unfold Zm;dsimp only;rw[jTj (ZF b),UG unQ b,jBj,jFj d,jFj j,jTj (VU (by omega)),jTj (Qdd (by decide) (by omega)),jTj (VU (by omega)),List.map_append];rfl
  ·obtain c|⟨c,m⟩:=c
   ·exact .inl c
   ·refine .inr ⟨?_,fun y g=>?_⟩
    ·rw[c];show Sum.inr (h+x.2+KL a,qs.map Vf)=Sum.inr (h+(x.2+KL a),qs.map Vf);rw[Int.add_assoc]
    ·obtain rfl|g:=List.mem_cons.1 g
     ·exact⟨by omega,f.2⟩
     ·exact m y g
structure OkA (qs:List Qr):Prop where
 ok:OkP qs
 len:1<=qs.length/\qs.length<=6
 sum:KL qs<=60
theorem Qdl {n:Nat}(d:100<=n)(qs:List Qr):∃t,VL n (qs.map Vf)=some t/\(t.2=true->t.1=qs.map Vf/\OkA qs):=by
 unfold VL;by_cases k:qs.length<1
 ·exact⟨([],false),by rw[jTj (by rw[jlj];omega)],fun h=>(by cases h)⟩
 by_cases l:qs.length>6
 ·exact⟨([],false),by rw[jFj (by rw[jlj];omega),jTj (by rw[jlj];omega)],fun h=>(by cases h)⟩
 obtain⟨e,g,i⟩:=Qgt d (qs:=qs) (by omega);rw[jFj (by rw[jlj];omega),jFj (by rw[jlj];omega),g,jBj];by_cases b:e=0
 ·obtain⟨f,k1,a⟩:=yp d (qs:=qs) (by omega) (i b) qs [] n 0 rfl (by simp) (by omega);rw[jTj b];have c : QU (Zm n (qs.map Vf)) n (0,0,[])=some f:=k1;rw[c,jBj];obtain a|⟨a,j⟩:=a
  ·rw[a];exact⟨([],false),rfl,fun h=>(by cases h)⟩
  ·rw[a];refine⟨(qs.map Vf,decide (0+KL qs<=60)),rfl,fun h=>⟨rfl,j,by omega,?_⟩⟩;have:=of_decide_eq_true h;omega
 ·exact⟨([],false),by rw[jFj b],fun h=>(by cases h)⟩
def noH (x:Qr):Qr:=(x.1,0)
def Je (at' : Nat)(qs:List Qr):List Qr:=qs.take at'++(qs.drop at').map noH
theorem Qae (at' : Nat)(qs:List Qr)(i:Nat):(Je at' qs)[i]?=(qs[i]?).map fun x=>(x.1,dkH at' i x.2):=by
 unfold Je dkH;by_cases h:i<at'
 ·by_cases b:i<qs.length
  ·rw[List.getElem?_append_left (by rw[List.length_take];omega),List.getElem?_take,jTj h];cases qs[i]? with
   | none=>rfl
   | some x=>show some x=some (x.1,if i<at' then x.2 else 0);rw[jTj h]
  ·rw[List.getElem?_eq_none (by simp;omega),List.getElem?_eq_none (by omega)];rfl
 ·by_cases a:at'<=qs.length
  ·rw[List.getElem?_append_right (by rw[List.length_take];omega),List.length_take,Nat.min_eq_left a,List.getElem?_map,List.getElem?_drop,show at'+(i - at')=i by omega];cases qs[i]? with
   | none=>rfl
   | some x=>show some (x.1,0)=some (x.1,if i<at' then x.2 else 0);rw[jFj h]
  ·rw[List.getElem?_eq_none (by simp;omega),List.getElem?_eq_none (by omega)];rfl
theorem QbD (at' : Nat)(qs:List Qr):(Je at' qs).length=qs.length:=by unfold Je;rw[jaj,jlj,List.length_take,List.length_drop];omega
theorem Qe6 {at' : Nat}{qs:List Qr}{i:Nat}{x:Qr}(c:qs[i]?=some x):(Je at' qs).drop i=(x.1,dkH at' i x.2)::(Je at' qs).drop (i+1):=by have h:=Qae at' qs i;rw[c] at h;obtain⟨a,b⟩:=jGj h;rw[List.drop_eq_getElem_cons a,b]
theorem Qd8 {at' : Nat}{qs:List Qr}(h:OkP qs):OkP (Je at' qs):=fun y b=>by
 obtain⟨i,a⟩:=List.mem_iff_getElem?.1 b;rw[Qae] at a;cases hx:qs[i]? with
 | none=>rw[hx] at a;cases a
 | some x =>
  rw[hx] at a;cases a;have:=h x (jgj hx);exact⟨this.1,Qf1 this.2⟩
theorem uK:∀(a b:List Qr),KL (a++b)=KL a+KL b
 | [],b=>by show KL b=0+KL b;omega
 | x::a,b=>by show x.2+KL (a++b)=x.2+KL a+KL b;rw[uK a b];omega
theorem QfV:∀a:List Qr,KL (a.map noH)=0
 | []=>rfl
 | x::a=>by show 0+KL (a.map noH)=0;rw[QfV a];rfl
theorem QgX {at' : Nat}{qs:List Qr}(h:OkP qs):KL (Je at' qs)<=KL qs:=by have c:=yO (qs:=qs.drop at') fun x b=>Qbb h x (List.mem_of_mem_drop b);have a:=uK (qs.take at') (qs.drop at');rw[List.take_append_drop] at a;unfold Je;rw[uK,QfV];omega
theorem QQ (l:List UInt8):(⟨l.toArray⟩:jSj).size=l.length:=Qp l
theorem EV {s:jSj}{l:Wrd}(h:s.data.toList=l):s=mkS l:=by rw[<-h,UA]
theorem Jm {a:Int}(h:0<=a/\a<=999999999):(Lib.itoa a).length<=9:=qa (by omega) (by omega)
abbrev QkG:=Int×Int×Int×Bool×Bool×Int×Int×Int×jVj×jVj×jVj×jVj×jVj
def stT (i:Nat)(c:List Ev)(r:Reg):QkG:=((i:Int),r.tick,r.level,r.filled,r.tripped,r.light,r.heat,r.money,c.map Q5,c.map Q5,r.sectors.map Sd,r.mirrors.map Q1,r.offers.map Zs)
theorem Qjz (a b:Int):(((⟨#[115,117,110,32]⟩:jSj)++mkS (Lib.itoa a))++(⟨#[32]⟩:jSj))++mkS (Lib.itoa b)=mkS (Vs .sun [] [a,b]) :=
 EV (by simp[ByteArray.data_append,mkS,Vs,kw,Lib.join_cons,Lib.joinTail])
theorem Qhu (a:Int):(⟨#[116,114,105,112,32]⟩:jSj)++mkS (Lib.itoa a)=mkS (Vs .trip [] [a]) :=
 EV (by simp[ByteArray.data_append,mkS,Vs,kw,Lib.join_cons,Lib.joinTail])
theorem Qfs (i:Nat)(a b c d e:Int):(((((((((((⟨#[111,102,102,101,114,32]⟩:jSj)++((⟨#[111]⟩:jSj)++mkS (Lib.itoa (i:Int))))++(⟨#[32]⟩:jSj))++mkS (Lib.itoa a))++(⟨#[32]⟩:jSj))++mkS (Lib.itoa b))++(⟨#[32]⟩:jSj))++mkS (Lib.itoa c))++(⟨#[32]⟩:jSj))++mkS (Lib.itoa d))++(⟨#[32]⟩:jSj))++mkS (Lib.itoa e)=mkS (Vs .offer [onm i] [a,b,c,d,e]) :=
 EV (by simp[ByteArray.data_append,mkS,Vs,kw,onm,Lib.join_cons,Lib.joinTail])
theorem Qa5 (i:Nat)(a b:Int):(((((⟨#[100,101,108,105,118,101,114,32]⟩:jSj)++((⟨#[111]⟩:jSj)++mkS (Lib.itoa (i:Int))))++(⟨#[32]⟩:jSj))++mkS (Lib.itoa a))++(⟨#[32]⟩:jSj))++mkS (Lib.itoa b)=mkS (Vs .deliver [onm i] [a,b]) :=
 EV (by simp[ByteArray.data_append,mkS,Vs,kw,onm,Lib.join_cons,Lib.joinTail])
theorem Qgk {n:Nat}(u:3000<=n){qs:List Qr}(W:OkP qs)(V:qs.length<=6){J:Int}{at' : Nat}(g:Int.tmod (IntKind.wrap .i64 J) (((qs.map Vf).length:Int)+1)=(at' : Int)){t11:jVj×Int×Int×Int×Int}{ds:List Int}(E:t11.1=ds.map I){i:Nat}{x:Qr}(m:qs[i]?=some x){d:Int}(T:ds[i]?=some d)(U:0<=d/\d<=30){lv:Int}(k:0<=lv/\lv<=60)(s:d<=lv+dkH at' i x.2){c:List Ev}{r:Reg}(h:TrI at' i lv c r) :
  ∃K N,TrI at' (i+1) (lv+dkH at' i x.2 - d) K N/\Ze n (qs.map Vf) J t11 (stT i c r)=some (.inl (stT (i+1) K N)):=by
 have hi:=(jGj m).1;obtain⟨P,o⟩:=W x (jgj m);have b:∀a:Int,0<=a/\a<=999999999->QT n a=some (mkS (Lib.itoa a)):=fun a ha=>Qhn u (by omega) (by omega);have f:el V5 t11.1 (i:Int)=some d:=by rw[E];exact Ei T
 have l0:=Jm (a:=10*(i:Int)) (by omega);have l1:=Jm (a:=x.2) (by omega);have l2:=Jm (a:=(i:Int)) (by omega);have l3:=Jm (a:=10*(i:Int)+10) (by omega);have l4:=Jm (a:=10*(i:Int)+20) (by omega);have l5:=Jm (a:=d) (by omega);have l6:=Jm (a:=x.1) (by omega);have j:(i:Int)<((qs.map Vf).length:Int):=ZF m;have z:Qg ((i:Int)+1):=VU (by omega);by_cases q:i=at'
 ·subst q;obtain⟨L,O,Q,r2,⟨X,y⟩,t,m2,M⟩:=Qhj u (by omega) k h o (Qjz (10*(i:Int)) x.2) (Qhu (10*(i:Int)));by_cases e:d>0
  ·obtain⟨S,r3,A,H,⟨Y,F⟩,l,Z,G⟩:=QcZ u (by omega) o k t (d:=d) (p:=x.1) (by omega) s P (Qfs i (10*(i:Int)) (10*(i:Int)+10) (10*(i:Int)+20) d x.1) (Qa5 i (10*(i:Int)+10) d);refine⟨A,H,l,?_⟩;unfold stT Ze;dsimp only;rw[jTj j,UG unQ m,jBj,jTj (VU (by omega)),b (10*(i:Int)) (by omega),jBj,jTj (by simp only[ByteArray.size_append,QQ,Qp,List.length_cons,List.length_nil];omega),jTj (by simp only[ByteArray.size_append,QQ,Qp,List.length_cons,List.length_nil];omega),b x.2 (by omega),jBj,jTj (by simp only[ByteArray.size_append,QQ,Qp,List.length_cons,List.length_nil];omega),g,jTj rfl,jTj (by simp only[ByteArray.size_append,QQ,Qp,List.length_cons,List.length_nil];omega),f,jBj,jTj e,b (i:Int) (by omega),jBj,jTj (by simp only[ByteArray.size_append,QQ,Qp,List.length_cons,List.length_nil];omega),jTj (by simp only[ByteArray.size_append,QQ,Qp,List.length_cons,List.length_nil];omega),jTj (by simp only[ByteArray.size_append,QQ,Qp,List.length_cons,List.length_nil];omega),jTj (by simp only[ByteArray.size_append,QQ,Qp,List.length_cons,List.length_nil];omega),jTj (by simp only[ByteArray.size_append,QQ,Qp,List.length_cons,List.length_nil];omega),jTj (VU (by omega)),b (10*(i:Int)+10) (by omega),jBj,jTj (by simp only[ByteArray.size_append,QQ,Qp,List.length_cons,List.length_nil];omega),jTj (by simp only[ByteArray.size_append,QQ,Qp,List.length_cons,List.length_nil];omega),jTj (VU (by omega)),b (10*(i:Int)+20) (by omega),jBj,jTj (by simp only[ByteArray.size_append,QQ,Qp,List.length_cons,List.length_nil];omega),jTj (by simp only[ByteArray.size_append,QQ,Qp,List.length_cons,List.length_nil];omega),b d (by omega),jBj,jTj (by simp only[ByteArray.size_append,QQ,Qp,List.length_cons,List.length_nil];omega),jTj (by simp only[ByteArray.size_append,QQ,Qp,List.length_cons,List.length_nil];omega),b x.1 (by omega),jBj,jTj (by simp only[ByteArray.size_append,QQ,Qp,List.length_cons,List.length_nil];omega),jTj (by simp only[ByteArray.size_append,QQ,Qp,List.length_cons,List.length_nil];omega),jTj (by simp only[ByteArray.size_append,QQ,Qp,List.length_cons,List.length_nil];omega),jTj (by simp only[ByteArray.size_append,QQ,Qp,List.length_cons,List.length_nil];omega),jTj (by simp only[ByteArray.size_append,QQ,Qp,List.length_cons,List.length_nil];omega),jTj (by simp only[ByteArray.size_append,QQ,Qp,List.length_cons,List.length_nil];omega),y,jBj];dsimp only[VJ,Wd];rw[jTj rfl,M,jBj];dsimp only[VJ,Wd];rw[jTj rfl,F,jBj];dsimp only[VJ,Wd];rw[jTj rfl,G,jBj];dsimp only[VJ,Wd];rw[jTj rfl,jTj z];rfl
  ·have l:=Qc0 o t;have C:d=0:=by omega
   subst C;refine⟨Q,r2,by rw[Int.sub_zero];exact l,?_⟩;unfold stT Ze;dsimp only;rw[jTj j,UG unQ m,jBj,jTj (VU (by omega)),b (10*(i:Int)) (by omega),jBj,jTj (by simp only[ByteArray.size_append,QQ,Qp,List.length_cons,List.length_nil];omega),jTj (by simp only[ByteArray.size_append,QQ,Qp,List.length_cons,List.length_nil];omega),b x.2 (by omega),jBj,jTj (by simp only[ByteArray.size_append,QQ,Qp,List.length_cons,List.length_nil];omega),g,jTj rfl,jTj (by simp only[ByteArray.size_append,QQ,Qp,List.length_cons,List.length_nil];omega),f,jBj,jFj e,y,jBj];dsimp only[VJ,Wd];rw[jTj rfl,M,jBj];dsimp only[VJ,Wd];rw[jTj rfl,jTj z];rfl
 ·have v:¬((i:Int)=(at' : Int)):=by omega
  obtain⟨L,O,t,X,y⟩:=QiL u (by omega) q k h o (Qjz (10*(i:Int)) x.2);by_cases e:d>0
  ·obtain⟨S,r3,A,H,⟨Y,F⟩,l,Z,G⟩:=QcZ u (by omega) o k t (d:=d) (p:=x.1) (by omega) s P (Qfs i (10*(i:Int)) (10*(i:Int)+10) (10*(i:Int)+20) d x.1) (Qa5 i (10*(i:Int)+10) d);refine⟨A,H,l,?_⟩;unfold stT Ze;dsimp only;rw[jTj j,UG unQ m,jBj,jTj (VU (by omega)),b (10*(i:Int)) (by omega),jBj,jTj (by simp only[ByteArray.size_append,QQ,Qp,List.length_cons,List.length_nil];omega),jTj (by simp only[ByteArray.size_append,QQ,Qp,List.length_cons,List.length_nil];omega),b x.2 (by omega),jBj,jTj (by simp only[ByteArray.size_append,QQ,Qp,List.length_cons,List.length_nil];omega),g,jFj v,f,jBj,jTj e,b (i:Int) (by omega),jBj,jTj (by simp only[ByteArray.size_append,QQ,Qp,List.length_cons,List.length_nil];omega),jTj (by simp only[ByteArray.size_append,QQ,Qp,List.length_cons,List.length_nil];omega),jTj (by simp only[ByteArray.size_append,QQ,Qp,List.length_cons,List.length_nil];omega),jTj (by simp only[ByteArray.size_append,QQ,Qp,List.length_cons,List.length_nil];omega),jTj (by simp only[ByteArray.size_append,QQ,Qp,List.length_cons,List.length_nil];omega),jTj (VU (by omega)),b (10*(i:Int)+10) (by omega),jBj,jTj (by simp only[ByteArray.size_append,QQ,Qp,List.length_cons,List.length_nil];omega),jTj (by simp only[ByteArray.size_append,QQ,Qp,List.length_cons,List.length_nil];omega),jTj (VU (by omega)),b (10*(i:Int)+20) (by omega),jBj,jTj (by simp only[ByteArray.size_append,QQ,Qp,List.length_cons,List.length_nil];omega),jTj (by simp only[ByteArray.size_append,QQ,Qp,List.length_cons,List.length_nil];omega),b d (by omega),jBj,jTj (by simp only[ByteArray.size_append,QQ,Qp,List.length_cons,List.length_nil];omega),jTj (by simp only[ByteArray.size_append,QQ,Qp,List.length_cons,List.length_nil];omega),b x.1 (by omega),jBj,jTj (by simp only[ByteArray.size_append,QQ,Qp,List.length_cons,List.length_nil];omega),jTj (by simp only[ByteArray.size_append,QQ,Qp,List.length_cons,List.length_nil];omega),jTj (by simp only[ByteArray.size_append,QQ,Qp,List.length_cons,List.length_nil];omega),jTj (by simp only[ByteArray.size_append,QQ,Qp,List.length_cons,List.length_nil];omega),jTj (by simp only[ByteArray.size_append,QQ,Qp,List.length_cons,List.length_nil];omega),jTj (by simp only[ByteArray.size_append,QQ,Qp,List.length_cons,List.length_nil];omega),y,jBj];dsimp only[VJ,Wd];rw[jTj rfl,F,jBj];dsimp only[VJ,Wd];rw[jTj rfl,G,jBj];dsimp only[VJ,Wd];rw[jTj rfl,jTj z];rfl
  ·have l:=Qc0 o t;have C:d=0:=by omega
   subst C;refine⟨L,O,by rw[Int.sub_zero];exact l,?_⟩;unfold stT Ze;dsimp only;rw[jTj j,UG unQ m,jBj,jTj (VU (by omega)),b (10*(i:Int)) (by omega),jBj,jTj (by simp only[ByteArray.size_append,QQ,Qp,List.length_cons,List.length_nil];omega),jTj (by simp only[ByteArray.size_append,QQ,Qp,List.length_cons,List.length_nil];omega),b x.2 (by omega),jBj,jTj (by simp only[ByteArray.size_append,QQ,Qp,List.length_cons,List.length_nil];omega),g,jFj v,f,jBj,jFj e,y,jBj];dsimp only[VJ,Wd];rw[jTj rfl,jTj z];rfl
theorem Qd6:Zz 5000=some true:=by kernel_rfl
theorem QbC {n:Nat}(c:jVj)(d f:Int)(g:jVj×Bool):∀(a P:List Qr) (k:Nat),P.length+a.length<=1000->a.length<k ->
  QU (Wa n c d f g) k ((P.length:Int),(P++a).map Vf)=some ((P++a.map noH).map Vf)
 | _,_,0,_,h=>absurd h (by omega)
 | [],P,k+1,_,_=>by refine ZP ?_;unfold Wa;dsimp only;rw[jFj (by rw[jlj,List.append_nil];omega)];rfl
 | x::a,P,k+1,hl,hk=>by
  have j:(P++x::a)[P.length]?=some x:=by rw[List.getElem?_append_right (jLj _),Nat.sub_self];rfl
  have i:List.set ((P++x::a).map Vf) P.length (.agg [I x.1,I 0]:D)=((P++[noH x])++a).map Vf:=by show List.set ((P++x::a).map Vf) P.length (Vf (noH x))=_;rw[<-List.map_set,List.set_append_right _ _ (jLj _),Nat.sub_self,List.append_assoc];rfl
  have b:=QbC (n:=n) c d f g a (P++[noH x]) k (by simp only[jaj,List.length_cons,List.length_nil] at hl ⊢;omega) (by simpa using hk);rw[jaj,List.length_singleton] at b;have e:(P++[noH x])++a.map noH=P++(x::a).map noH:=by rw[List.append_assoc];rfl
  rw[e] at b;refine(W8 ?_).trans b;unfold Wa;dsimp only;rw[jTj (show(P.length:Int)<(((P++x::a).map Vf).length:Int) by rw[jlj,jaj,List.length_cons];omega),jTj (show 0<=(P.length:Int)/\(P.length:Int)<(((P++x::a).map Vf).length:Int) by rw[jlj,jaj,List.length_cons];omega),Zc unQ j,jBj,jTj (VU (by omega)),jtj,i];rfl
def exT (c:List Ev)(r:Reg):Int×Int×Bool×Bool×Int×Int×Int×jVj×jVj×jVj×jVj×jVj:=(r.tick,r.level,r.filled,r.tripped,r.light,r.heat,r.money,c.map Q5,c.map Q5,r.sectors.map Sd,r.mirrors.map Q1,r.offers.map Zs)
theorem QaY {n:Nat}(C:3000<=n){qs:List Qr}(j:OkP qs)(f:qs.length<=6){A:Int}{at' : Nat}(e:Int.tmod (IntKind.wrap .i64 A) (((qs.map Vf).length:Int)+1)=(at' : Int)){t11:jVj×Int×Int×Int×Int}{ds:List Int}(d:t11.1=ds.map I){m:Int}(N:0<=m/\m<=30){left:Int} :
  ∀(a:List Qr) (i:Nat) (lv:Int) (c:List Ev) (r:Reg) (k:Nat),qs.drop i=a->i<=qs.length->Feas m ((Je at' qs).drop i) lv (ds.drop i) left->0<=lv->lv+KL ((Je at' qs).drop i)<=60->TrI at' i lv c r->a.length<k ->
   ∃g o,TrI at' qs.length left g o/\(0<=left/\left<=60)/\QU (Ze n (qs.map Vf) A t11) k (stT i c r)=some (exT g o)
 | _,_,_,_,_,0,_,_,_,_,_,_,h=>absurd h (by omega)
 | [],i,lv,c,r,k+1,hd,hi,b,h0,hs,hT,_=>by
  have L:=List.drop_eq_nil_iff.1 hd;have v:i=qs.length:=by omega
  subst v;rw[List.drop_eq_nil_of_le (by rw[QbD];exact jLj _)] at b hs;unfold KL at hs;obtain⟨_,rfl⟩:=b;refine⟨c,r,hT,⟨h0,by omega⟩,ZP ?_⟩;unfold stT Ze;dsimp only;rw[jFj (show ¬(qs.length:Int)<((qs.map Vf).length:Int) by rw[jlj];omega)];rfl
 | x::a,i,lv,c,r,k+1,hd,hi,b,h0,hs,hT,hk=>by
  have l:qs[i]?=some x:=by have:=congrArg List.head? hd;rwa [List.head?_drop] at this
  have p : qs.drop (i+1)=a:=by rw[<-List.drop_drop,hd];rfl
  have M:=(jGj l).1;rw[Qe6 l] at b hs;obtain⟨u,t,E,U,V,F,b⟩:=b;have s:ds[i]?=some u:=by have:=congrArg List.head? E;rwa [List.head?_drop] at this
  have q:ds.drop (i+1)=t:=by rw[<-List.drop_drop,E];rfl
  have z:=j x (jgj l);have K:=Qf1 (at':=at') (i:=i) z.2;have O:=yO (qs:=(Je at' qs).drop (i+1)) fun y P=>Qbb (Qd8 j) y (List.mem_of_mem_drop P);unfold KL at hs;dsimp only at hs F b;obtain⟨g,o,H,J⟩:=Qgk C j f e d l s ⟨U,by omega⟩ ⟨h0,by omega⟩ F hT;rw[<-q] at b;obtain⟨G,T,k1,Q,S⟩:=QaY C j f e d N a (i+1) (lv+dkH at' i x.2 - u) g o k p (by omega) b (by omega) (by omega) H (by simpa using hk);exact⟨G,T,k1,Q,(W8 J).trans S⟩
def evO:List Ev:=[evK 0 .sector [[110]] [0],evK 1 .mirror [[97],[110]] [0,100],evK 2 .fill [] [0],evK 3 .aim [[97]] [0]]
def K4 (k:Nat):Reg:=QN (evO.take k)
def DidO (s:jSj)(k:Nat):Prop:=∃m:jSj,Qj 5000 s ((evO.take k).map Q5) ((evO.take k).map Q5) (K4 k).tick (K4 k).level (K4 k).filled (K4 k).tripped (K4 k).light (K4 k).heat (K4 k).money ((K4 k).sectors.map Sd) ((K4 k).mirrors.map Q1) ((K4 k).offers.map Zs)=some (m,0,VJ ((evO.take (k+1)).map Q5) ((evO.take (k+1)).map Q5) (K4 (k+1)))
theorem Qj2:∃m:jSj,Qj 5000 ⟨#[115,101,99,116,111,114,32,110,32,48]⟩ [] [] 0 0 false false 0 0 0 [] [] []=some (m,0,VJ ((evO.take 1).map Q5) ((evO.take 1).map Q5) (K4 1)):=⟨mkS [100,111,110,101,32,49],by kernel_rfl⟩
theorem Qj1:DidO ⟨#[109,105,114,114,111,114,32,97,32,110,32,48,32,49,48,48]⟩ 1:=⟨mkS [100,111,110,101,32,50],by kernel_rfl⟩
theorem Qj0:DidO ⟨#[102,105,108,108,32,48]⟩ 2:=⟨mkS [100,111,110,101,32,51],by kernel_rfl⟩
theorem QjZ:DidO ⟨#[97,105,109,32,97,32,48]⟩ 3:=⟨mkS [100,111,110,101,32,52],by kernel_rfl⟩
theorem Qku:K4 4=G5 0 0 true false 0 0 0 []:=by kernel_rfl
theorem Qh4:JD evO (K4 4) 4 0 0 true false 0 0 0 []:=by
 have b:(0:Int)<=0/\(0:Int)<=9999:=by decide
 have d:=wL Qjd (by decide) (k:=.sector) (by decide) (ns:=[[110]]) (vs:=[0]) ⟨rfl,rfl,nm_1 (by decide),vl_1 b⟩ (by kernel_rfl);have e:=wL d (by decide) (k:=.mirror) (by decide) (ns:=[[97],[110]]) (vs:=[0,100]) ⟨rfl,rfl,fun w a=>by
  obtain rfl|a:=List.mem_cons.1 a
  ·decide
  ·rw[List.mem_singleton.1 a];decide,vl_2 b (by decide)⟩ (by kernel_rfl)
 have f:=wL e (by decide) (k:=.fill) (by decide) (ns:=[]) (vs:=[0]) ⟨rfl,rfl,fun w a=>(by cases a),vl_1 b⟩ (by kernel_rfl);have c:=wL f (by decide) (k:=.aim) (by decide) (ns:=[[97]]) (vs:=[0]) ⟨rfl,rfl,nm_1 (by decide),vl_1 b⟩ (by kernel_rfl);have g:=c.reg;rw[<-g] at c;exact⟨c,rfl,Qku⟩
theorem Qhk (at' : Nat):TrI at' 0 0 evO (K4 4):=by
 refine⟨4,0,0,0,0,[],?_,by omega,by decide,by decide,?_,⟨by decide,?_⟩,jLj _,fun s a=>by cases a⟩
 ·have:=Qh4;rwa [jDj (Nat.zero_le at'),jEj (Nat.not_lt_zero at')]
 ·rw[jDj (Nat.zero_le at')];rfl
 ·rw[jDj (Nat.zero_le at')];decide
structure TrE (L:Nat) (left:Int) (c:List Ev) (r:Reg):Prop where
 ex:∃z t l li os,JD c r z t l false true li (1000000*left) 0 os/\z<=5+4*L/\(0<=t/\t<=10*(L:Int))/\(0<=li/\li<=30000000*(L:Int))/\os.length<=L/\NmD L os
theorem Qgl {at' L:Nat}(a:at'<L){left:Int}{c:List Ev}{r:Reg}(h:TrI at' L left c r):TrE L left c r:=by obtain⟨z,t,l,j,n,os,b,k,f,m,d,e,g,i⟩:=h.ex;rw[jEj (by omega),Ui,Int.add_zero] at d e;rw[jEj (show ¬L<=at' by omega),jDj a,d] at b;exact⟨z,t,l,j,os,b,by omega,f,e,g,i⟩
theorem Qgm {n:Nat}(q:3000<=n){at' L:Nat}(y:L<=6)(i:at'=L){left:Int}{c:List Ev}{r:Reg}(h:TrI at' L left c r)(p:0<=left/\left<=60){s:jSj}(u:s=mkS (Vs .trip [] [10*(L:Int)])):∃a b,zx n s c r 0 a b/\TrE L left a b:=by subst i;obtain⟨z,t,l,A,i,os,d,v,k,x,f,g,m,o⟩:=h.ex;rw[jDj (jLj at')] at d f g;rw[jEj (Nat.lt_irrefl at')] at d;obtain⟨a,b,e,j⟩:=Qfq q d (by omega) (t':=10*(at' : Int)) k.2 (by omega) ⟨by omega,by omega⟩ u;rw[f] at e;have:0<=gnD true l (10*(at' : Int) - t):=Int.mul_nonneg (by omega) (by omega);exact⟨a,b,j,⟨_,_,_,_,_,e,by omega,by omega,⟨by omega,g.2⟩,m,o⟩⟩
def restW:Wrd:=[114,101,115,116]
theorem Qhz {L:Nat}{os:List Off}(h:NmD L os):mkS restW∉nmO os:=fun b=>by obtain⟨j,c,a⟩:=h _ b;have:=QhQ.1 a;unfold restW onm at this;exact absurd (List.cons.inj this).1 (by decide)
theorem Qh7:Lib.itoa 100=[49,48,48]:=by rw[Ed (by decide),show(100:Int).toNat=100 from rfl,Lib.decDigits,dif_neg (by decide),Lib.decDigits,dif_neg (by decide),Lib.decDigits,dif_pos (by decide)];rfl
theorem Qj9:Lib.itoa 5=[53]:=uG (j:=5) (by decide)
theorem Qka:Lib.itoa 1=[49]:=uG (j:=1) (by decide)
theorem QjU (a b c:Int):((((((⟨#[111,102,102,101,114,32,114,101,115,116,32]⟩:jSj)++mkS (Lib.itoa a))++(⟨#[32]⟩:jSj))++mkS (Lib.itoa b))++(⟨#[32]⟩:jSj))++mkS (Lib.itoa c))++(⟨#[32,49,48,48,32,53]⟩:jSj)=mkS (Vs .offer [restW] [a,b,c,100,5]) :=
 EV (by simp[ByteArray.data_append,mkS,Vs,kw,restW,Lib.join_cons,Lib.joinTail,Qh7,Qj9])
theorem QiO (a b:Int):(((⟨#[100,101,108,105,118,101,114,32,114,101,115,116,32]⟩:jSj)++mkS (Lib.itoa a))++(⟨#[32]⟩:jSj))++mkS (Lib.itoa b)=mkS (Vs .deliver [restW] [a,b]) :=
 EV (by simp[ByteArray.data_append,mkS,Vs,kw,restW,Lib.join_cons,Lib.joinTail])
theorem Qhv (a:Int):((⟨#[100,101,108,105,118,101,114,32,114,101,115,116,32]⟩:jSj)++mkS (Lib.itoa a))++(⟨#[32,49]⟩:jSj)=mkS (Vs .deliver [restW] [a,1]) :=
 EV (by simp[ByteArray.data_append,mkS,Vs,kw,restW,Lib.join_cons,Lib.joinTail,Qka])
theorem Qkt (a:Int):(⟨#[97,105,109,32,97,32]⟩:jSj)++mkS (Lib.itoa a)=mkS (Vs .aim [[97]] [a]) :=
 EV (by simp[ByteArray.data_append,mkS,Vs,kw,Lib.join_cons,Lib.joinTail])
def TlF (n:Nat)(e left:Int)(c:List Ev)(r:Reg):Prop :=
 zx n (((⟨#[100,101,108,105,118,101,114,32,114,101,115,116,32]⟩:jSj)++mkS (Lib.itoa (e+1005)))++(⟨#[32,49]⟩:jSj)) c r 16 c r/\zx n ((⟨#[97,105,109,32,97,32]⟩:jSj)++mkS (Lib.itoa (e+1005))) c r 29 c r /\
 QW n (c.map Q5) (c.map Q5) r.tick r.level r.filled r.tripped r.light r.heat r.money (r.sectors.map Sd) (r.mirrors.map Q1) (r.offers.map Zs)=some (c.map Q5)/\Wf n (c.map Q5) ⟨#[114,101,115,116]⟩=some (100 - left,0)/\Vp n (c.map Q5) ⟨#[114,101,115,116]⟩=some (5*left - 10*(100 - left),0)
theorem uc {n:Nat}(f:3000<=n){c:List Ev}{r:Reg}{z:Nat}(E:z<=40){t l d e left:Int}{os:List Off}(h:JD c r z t l false true d 0 0 (os++[(mkS restW,e+1000,e+1010,100,5,left,false)]))(y:os.length<=10)(a:mkS restW∉nmO os)(A:0<=e/\e<=60)(C:t<=e+1000)(v:0<=left/\left<=60)(x:0<=d/\d<=1000000000):TlF n e left c r:=by
 obtain⟨j,F,m⟩:=Qdx (os:=os) (o:=(mkS restW,e+1000,e+1010,100,5,left,false)) a;have p:BkD false l (e+1005 - t) d 0:=⟨by rw[Ui];omega,by rw[Ui];omega⟩
 have i:Yw (mkS restW)=true/\restW.length<=4:=by decide
 have s:r.offers=os++[(mkS restW,e+1000,e+1010,100,5,left,false)]:=by rw[h.2.2];rfl
 have g:c.length<=90:=by rw[h.2.1];omega
 have b:=QfU f h.1;refine⟨?_,?_,uF f h.1 g _ _ _ _ _ _ _ _ _ _ _,?_,?_⟩
 ·refine Qjy f h (by omega) (k:=.deliver) (by decide) (ns:=[restW]) (t':=e+1005) (vs:=[1]) ⟨rfl,rfl,nm_1 i,vl_2 (by omega) (by decide)⟩ (by omega) p ?_ (by decide) ?_ (Qhv (e+1005))
  ·show QD (!ZG (nmO (os++[(mkS restW,e+1000,e+1010,100,5,left,false)])) (mkS restW)) 10=0;rw[j];rfl
  ·have u:=uM t l false true d 0 0 (os++[(mkS restW,e+1000,e+1010,100,5,left,false)]) (e+1005);have q:QK [QD (oAt (os++[(mkS restW,e+1000,e+1010,100,5,left,false)]) (mkS restW)).2.2.2.2.2.2 23,if e+1005<(oAt (os++[(mkS restW,e+1000,e+1010,100,5,left,false)]) (mkS restW)).2.1 then 14 else QD (decide (e+1005>=(oAt (os++[(mkS restW,e+1000,e+1010,100,5,left,false)]) (mkS restW)).2.2.1)) 14,QD ((1:Int)==0) 3,QD (decide (1>WC (oAt (os++[(mkS restW,e+1000,e+1010,100,5,left,false)]) (mkS restW)))) 20]=0:=by rw[m];show QK [0,if e+1005<e+1000 then 14 else QD (decide (e+1005>=e+1010)) 14,0,QD (decide (1>100 - left)) 20]=0;rw[jFj (by omega),jEj (by omega),jEj (by omega)];rfl
   refine Eq.trans (jTj q) ?_;show QD (decide ((1:Int)*1000000>0+WP _ (e+1005))) 16=16;rw[u];rfl
 ·refine Qjy f h (by omega) (k:=.aim) (by decide) (ns:=[[97]]) (t':=e+1005) (vs:=[]) ⟨rfl,rfl,nm_1 (by decide),vl_1 (by omega)⟩ (by omega) p ?_ (by decide) ?_ (Qkt (e+1005))
  ·show QD (!ZG [mkS [97]] (mkS [97])) 10=0;rfl
  ·show QK [0,29,0,0]=29;rfl
 ·rw[QdL (by omega) c (by omega) b,h.1.rep];dsimp only;rw[h.1.reg,s,show(⟨#[114,101,115,116]⟩:jSj)=mkS restW from rfl,j,m,jTj (show QD (!true) 10=0 from rfl)];rfl
 ·rw[QeN (by omega) c (by omega) b,h.1.rep];dsimp only;rw[h.1.reg,s,show(⟨#[114,101,115,116]⟩:jSj)=mkS restW from rfl,j,m,jTj (show QD (!true) 10=0 from rfl)];rfl
theorem uj {n:Nat}(g:3000<=n){L:Nat}(Q:L<=6){left:Int}{c:List Ev}{r:Reg}(h:TrE L left c r)(k:0<=left/\left<=60) :
  ∃i o,QW n (c.map Q5) (c.map Q5) r.tick r.level r.filled r.tripped r.light r.heat r.money (r.sectors.map Sd) (r.mirrors.map Q1) (r.offers.map Zs)=some (c.map Q5)/\(∃x,VZ n (c.map Q5) (10*(L:Int)+1000)=some (x,1000000*left,0)) /\
   zx n (((((((⟨#[111,102,102,101,114,32,114,101,115,116,32]⟩:jSj)++mkS (Lib.itoa (10*(L:Int))))++(⟨#[32]⟩:jSj))++mkS (Lib.itoa (10*(L:Int)+1000)))++(⟨#[32]⟩:jSj))++mkS (Lib.itoa (10*(L:Int)+1010)))++(⟨#[32,49,48,48,32,53]⟩:jSj)) c r 0 i o /\
   (left>0->∃q s,zx n ((((⟨#[100,101,108,105,118,101,114,32,114,101,115,116,32]⟩:jSj)++mkS (Lib.itoa (10*(L:Int)+1000)))++(⟨#[32]⟩:jSj))++mkS (Lib.itoa left)) i o 0 q s/\TlF n (10*(L:Int)) left q s) /\
   (¬left>0->TlF n (10*(L:Int)) left i o):=by
 obtain⟨z,t,l,E,os,d,N,J,O,P,K⟩:=h.ex;have a:=Qhz K;have m:Yw (mkS restW)=true/\restW.length<=4:=by decide
 have C:c.length<=90:=by rw[d.2.1];omega
 have j:WP r (10*(L:Int)+1000)=0:=by rw[d.2.2,uM,Ui]
 have b:r.tick=t/\r.light=E/\r.heat=1000000*left:=by rw[d.2.2];exact⟨rfl,rfl,rfl⟩
 obtain⟨i,o,y,G⟩:=Qc4 g d (by omega) m a (by omega) (t':=10*(L:Int)) (f:=10*(L:Int)+1000) (u:=10*(L:Int)+1010) (e:=100) (p:=5) J.2 (by omega) (by omega) (by omega) (by decide) (by decide) ⟨by rw[Ui];omega,by rw[Ui];omega⟩ (QjU (10*(L:Int)) (10*(L:Int)+1000) (10*(L:Int)+1010));rw[Ui,Int.add_zero,Int.add_zero] at y;refine⟨i,o,uF g d.1 C _ _ _ _ _ _ _ _ _ _ _,⟨E,?_⟩,G,fun H=>?_,fun H=>?_⟩
 ·rw[Qck (by omega) c (by omega) (QfU g d.1),d.1.rep];dsimp only;have A:Gq r (10*(L:Int)+1000)=0:=by unfold Gq;rw[j,b.2.1,b.2.2,jTj (by omega)]
  rw[d.1.reg,A,j,b.1,b.2.1,b.2.2,Qcm (by omega) (by omega),jEj (by omega),Int.add_zero,Int.add_zero];rfl
 ·obtain⟨q,s,k1,M⟩:=ud g y (by omega) m a (t':=10*(L:Int)+1000) (v:=left) (by omega) (by omega) (by omega) (by omega) ⟨by rw[Ui];omega,by rw[Ui];omega⟩ (by rw[Ui];omega) (QiO (10*(L:Int)+1000) left);rw[Ui,Int.add_zero,Int.add_zero,Int.sub_self,Int.zero_add] at k1;exact⟨q,s,M,uc g (by omega) k1 (by omega) a (by omega) (by omega) k (by omega)⟩
 ·have F:left=0:=by omega
  subst F;exact uc g (by omega) y (by omega) a (by omega) (by omega) k (by omega)
theorem ww {b left:Int}{t:Int×jVj×Int}(d:b=1000000*left)(h:0<=left/\left<=60)(c:t.2.2=0/\(left<=30->t.1=5*left - 10*(100 - left)+700)) :
  (if(0:Int)=0 then if Qg (left*1000000) then if b=left*1000000 then if(16:Int)=16 then if(29:Int)=29 then if(0:Int)=0 then if(0:Int)=0 then if t.2.2=0 then
   if Qg (100 - left) then if 100 - left=100 - left then if Qg (5*left) then if Qg (10*(100 - left)) then if Qg (5*left - 10*(100 - left)) then if 5*left - 10*(100 - left)=5*left - 10*(100 - left) then
    if left>30 then(Zz 5000).bind fun t=>some t else if Qg (5*left - 10*(100 - left)+700) then if t.1=5*left - 10*(100 - left)+700 then(Zz 5000).bind fun t=>some t else none else none
   else none else none else none else none else none else none
  else none else none else none else none else none else none else none else none)=some true:=by
 have J:∀{x:Int},-1000000000<=x/\x<=1000000000->Qg x:=VU;rw[jTj rfl,jTj (J (by omega)),jTj (by omega),jTj rfl,jTj rfl,jTj rfl,jTj rfl,jTj c.1,jTj (J (by omega)),jTj rfl,jTj (J (by omega)),jTj (J (by omega)),jTj (J (by omega)),jTj rfl,Qd6];by_cases a:left>30
 ·rw[jTj a];rfl
 ·rw[jFj a,jTj (J (by omega)),jTj (c.2 (by omega))];rfl
theorem QbT {left:Int}(h:0<=left/\left<=60):∃t:Int×jVj×Int,WO 5000 [.agg [I 5,I 0]] [I 30] [I (Zv left 30)] 10=some t/\t.2.2=0/\(left<=30->t.1=5*left - 10*(100 - left)+700):=by
 obtain⟨⟨c,g⟩,i⟩:=UB left 30;have q:=Qeq (n:=5000) (by decide) (x:=(5,0)) (by decide) (e:=30) (d:=Zv left 30) (f:=10) (by decide) (by omega) (by decide);refine⟨_,q,?_,fun b=>?_⟩
 ·split<;>rfl
 ·by_cases a:30 - Zv left 30>0
  ·rw[jTj a];show 5*Zv left 30 - 10*(30 - Zv left 30)=_;omega
  ·rw[jFj a];show 5*Zv left 30=_;omega
theorem jM (qs:List Qr)(r f:Int)(h1:0<=r/\r<=255)(h2:0<=f/\f<=255):YH 5000 (qs.map Vf) r f=some true:=by
 have T:3000<=5000:=by decide
 obtain⟨t1,ht,a6⟩:=Qdl (n:=5000) (by decide) qs;unfold YH;rw[ht,jBj];by_cases hb:t1.2=true;case neg=>rw[jFj hb,Qd6];rfl
 obtain⟨e1,hA⟩:=a6 hb;obtain⟨q,b⟩:=hA.len;have V:=hA.ok;have b2:=hA.sum;have w1:IntKind.wrap .i64 r=r:=Qem (i64 (by omega) (by omega));have w2:IntKind.wrap .i64 f=f:=Qem (i64 (by omega) (by omega));have hL:((qs.map Vf).length:Int)=(qs.length:Int):=by rw[jlj]
 obtain⟨at',N,O⟩:∃at' : Nat,Int.tmod f ((qs.length:Int)+1)=(at' : Int)/\at'<=qs.length:=by rw[Int.tmod_eq_emod_of_nonneg h2.1];have p1:=Int.emod_nonneg f (show(qs.length:Int)+1≠0 by omega);have p2:=Int.emod_lt_of_pos f (show 0<(qs.length:Int)+1 by omega);exact⟨(f % ((qs.length:Int)+1)).toNat,by omega,by omega⟩
 have M:Int.tmod (IntKind.wrap .i64 f) (((qs.map Vf).length:Int)+1)=(at' : Int):=by rw[w2,hL];exact N
 obtain⟨m,hm,g⟩:∃m:Int,Int.tmod (IntKind.wrap .i64 r) 31=m/\0<=m/\m<=30:=by rw[w1,Int.tmod_eq_emod_of_nonneg h1.1];exact⟨r % 31,rfl,by omega,by omega⟩
 have U:qs≠[]:=fun e=>by rw[e] at q;simp at q
 have u:=QbD at' qs;have z:Je at' qs≠[]:=fun e=>by rw[e] at u;simp at u;omega
 have p:=Qd8 (at':=at') V;have o:=QbC (n:=5000) (qs.map Vf) r f t1 (qs.drop at') (qs.take at') 5000 (by rw[List.length_take,List.length_drop];omega) (by rw[List.length_drop];omega);rw[List.take_append_drop,List.length_take,Nat.min_eq_left O] at o;have t : QU (Wa 5000 (qs.map Vf) r f t1) 5000 ((at' : Int),qs.map Vf)=some ((Je at' qs).map Vf):=o;have A:∀{l:List Qr},l≠[]->Vk (l.map Vf)=false:=fun {l} h=>by
  cases hh:Vk (l.map Vf) with
  | false=>rfl
  | true=>exact absurd ((QhN _ _).1 hh) h
 have C:=yj (n:=5000) (by decide) (S:=60) (m:=m) (lv:=0) (by decide) (by decide) g (Qbb V) (by omega) U;have E:=yj (n:=5000) (by decide) (S:=60) (m:=m) (lv:=0) (by decide) (by decide) g (Qbb p) (by omega) z;have a4:=QgX (at':=at') V;obtain⟨F,_⟩:=Qeg (S:=60) g.1 (Qbb p) (lv:=0) (Int.le_refl 0) (by omega);have c:=Qef (S:=60) g.1 (qs:=Je at' qs) (ps:=qs) u (fun i x y hx hy=>by rw[Qae,hy] at hx;cases hx;have:=V y (jgj hy);refine⟨rfl,(Qf1 this.2).1,?_⟩;show dkH at' i y.2<=y.2;unfold dkH;split<;>omega) (by decide) (lv:=0) (lw:=0) (Int.le_refl 0) (Int.le_refl 0)
 have W:=wo (S:=60) (m:=m) (by decide) g _ (Qbb p) 0 (by decide) (by decide);obtain⟨ds,j,left,sp,hB⟩:∃ds j left sp,bst 60 m (Je at' qs) 0=(ds,j,left,sp):=⟨_,_,_,_,rfl⟩
 obtain⟨a9,a8,a7,b3,a0⟩:∃ds j left sp,bst 60 m qs 0=(ds,j,left,sp):=⟨_,_,_,_,rfl⟩
 rw[hB] at E F c W;rw[a0] at C c;have P:ds.length=qs.length:=by rw[<-u];exact W.len
 dsimp only at C E F c;obtain⟨c',r',hT,v,a5⟩:=QaY (n:=5000) T V b M (t11:=(ds.map I,j,left,sp,0)) (ds:=ds) rfl g (left:=left) qs 0 0 evO (K4 4) 5000 rfl (Nat.zero_le _) F (Int.le_refl 0) (by show 0+KL (Je at' qs)<=60;omega) (Qhk at') (by omega);obtain⟨tS,d,X⟩:=QbT v;have k:∀a:Int,0<=a/\a<=999999999->QT 5000 a=some (mkS (Lib.itoa a)):=fun a ha=>Qhn T (by omega) (by omega);have l0:=Jm (a:=10*(qs.length:Int)) (by omega);have l1:=Jm (a:=10*(qs.length:Int)+1000) (by omega);have l2:=Jm (a:=10*(qs.length:Int)+1010) (by omega);have l3:=Jm (a:=10*(qs.length:Int)+1005) (by omega);have l4:=Jm (a:=left) (by omega);obtain⟨m1,q1⟩:=Qj2;obtain⟨m2,q2⟩:=Qj1;obtain⟨m3,q3⟩:=Qj0;obtain⟨m4,q4⟩:=QjZ;have Q : QU (Ze 5000 (qs.map Vf) f (ds.map I,j,left,sp,0)) 5000 (0,(K4 4).tick,(K4 4).level,(K4 4).filled,(K4 4).tripped,(K4 4).light,(K4 4).heat,(K4 4).money,(evO.take 4).map Q5,(evO.take 4).map Q5,(K4 4).sectors.map Sd,(K4 4).mirrors.map Q1,(K4 4).offers.map Zs)=some (exT c' r'):=a5;rw[jTj hb,M,hL,e1,jTj (VU (by omega)),jTj (by omega),jTj (Qdd (by decide) (by rw[jlj];omega)),t,jBj,jTj (A U),hm,C,jBj,jTj (Qdd (by decide) (by rw[jlj];omega)),jTj (A z),E,jBj,q1,jBj];dsimp only[VJ,Wd];rw[jTj rfl,q2,jBj];dsimp only[VJ,Wd];rw[jTj rfl,q3,jBj];dsimp only[VJ,Wd];rw[jTj rfl,q4,jBj];dsimp only[VJ,Wd];rw[jTj rfl,jTj rfl,jTj rfl,jTj (show((ds.map I).length:Int)=(qs.length:Int) by rw[jlj,P]),jFj (by omega),Q,jBj];dsimp only[exT];rw[jTj (VU (by omega))];by_cases a3:at'=qs.length
 ·rw[jTj (show(at' : Int)=(qs.length:Int) by omega)];obtain⟨c',r',⟨n0,q0⟩,hE⟩:=Qgm T b a3 hT v (Qhu (10*(qs.length:Int)));obtain⟨c1,r1,kB,⟨xb,L⟩,⟨n1,qo⟩,Y,Z⟩:=uj T b hE v;rw[k (10*(qs.length:Int)) (by omega),jBj,jTj (by simp only[ByteArray.size_append,QQ,Qp,List.length_cons,List.length_nil];omega),q0,jBj];dsimp only[VJ,Wd];rw[jTj rfl,kB,jBj,jTj (VU (by omega)),L,jBj,jTj (by simp only[ByteArray.size_append,QQ,Qp,List.length_cons,List.length_nil];omega),jTj (by simp only[ByteArray.size_append,QQ,Qp,List.length_cons,List.length_nil];omega),k (10*(qs.length:Int)+1000) (by omega),jBj,jTj (by simp only[ByteArray.size_append,QQ,Qp,List.length_cons,List.length_nil];omega),jTj (by simp only[ByteArray.size_append,QQ,Qp,List.length_cons,List.length_nil];omega),jTj (VU (by omega)),k (10*(qs.length:Int)+1010) (by omega),jBj,jTj (by simp only[ByteArray.size_append,QQ,Qp,List.length_cons,List.length_nil];omega),jTj (by simp only[ByteArray.size_append,QQ,Qp,List.length_cons,List.length_nil];omega),qo,jBj];dsimp only[VJ,Wd];rw[jTj rfl];by_cases s:left>0
  ·obtain⟨c2,r2,⟨n2,qd⟩,⟨z1,k1⟩,⟨z2,G⟩,K,H,J⟩:=Y s;rw[jTj s,jTj (by simp only[ByteArray.size_append,QQ,Qp,List.length_cons,List.length_nil];omega),jTj (by simp only[ByteArray.size_append,QQ,Qp,List.length_cons,List.length_nil];omega),k left (by omega),jBj,jTj (by simp only[ByteArray.size_append,QQ,Qp,List.length_cons,List.length_nil];omega),qd,jBj];dsimp only[VJ,Wd];rw[jTj rfl];rw[jTj (VU (by omega)),k (10*(qs.length:Int)+1005) (by omega),jBj,jTj (by simp only[ByteArray.size_append,QQ,Qp,List.length_cons,List.length_nil];omega),jTj (by simp only[ByteArray.size_append,QQ,Qp,List.length_cons,List.length_nil];omega),k1,jBj];dsimp only[VJ,Wd];rw[jTj (by simp only[ByteArray.size_append,QQ,Qp,List.length_cons,List.length_nil];omega),G,jBj];dsimp only[VJ,Wd];rw[K,jBj,H,jBj,J,jBj,d,jBj];exact ww rfl v X
  ·obtain⟨⟨z1,k1⟩,⟨z2,G⟩,K,H,J⟩:=Z s;rw[jFj s];rw[jTj (VU (by omega)),k (10*(qs.length:Int)+1005) (by omega),jBj,jTj (by simp only[ByteArray.size_append,QQ,Qp,List.length_cons,List.length_nil];omega),jTj (by simp only[ByteArray.size_append,QQ,Qp,List.length_cons,List.length_nil];omega),k1,jBj];dsimp only[VJ,Wd];rw[jTj (by simp only[ByteArray.size_append,QQ,Qp,List.length_cons,List.length_nil];omega),G,jBj];dsimp only[VJ,Wd];rw[K,jBj,H,jBj,J,jBj,d,jBj];exact ww rfl v X
 ·rw[jFj (show ¬(at' : Int)=(qs.length:Int) by omega)];have hE:=Qgl (by omega) hT;obtain⟨c1,r1,kB,⟨xb,L⟩,⟨n1,qo⟩,Y,Z⟩:=uj T b hE v;rw[kB,jBj,jTj (VU (by omega)),L,jBj,k (10*(qs.length:Int)) (by omega),jBj,jTj (by simp only[ByteArray.size_append,QQ,Qp,List.length_cons,List.length_nil];omega),jTj (by simp only[ByteArray.size_append,QQ,Qp,List.length_cons,List.length_nil];omega),k (10*(qs.length:Int)+1000) (by omega),jBj,jTj (by simp only[ByteArray.size_append,QQ,Qp,List.length_cons,List.length_nil];omega),jTj (by simp only[ByteArray.size_append,QQ,Qp,List.length_cons,List.length_nil];omega),jTj (VU (by omega)),k (10*(qs.length:Int)+1010) (by omega),jBj,jTj (by simp only[ByteArray.size_append,QQ,Qp,List.length_cons,List.length_nil];omega),jTj (by simp only[ByteArray.size_append,QQ,Qp,List.length_cons,List.length_nil];omega),qo,jBj];dsimp only[VJ,Wd];rw[jTj rfl];by_cases s:left>0
  ·obtain⟨c2,r2,⟨n2,qd⟩,⟨z1,k1⟩,⟨z2,G⟩,K,H,J⟩:=Y s;rw[jTj s,jTj (by simp only[ByteArray.size_append,QQ,Qp,List.length_cons,List.length_nil];omega),jTj (by simp only[ByteArray.size_append,QQ,Qp,List.length_cons,List.length_nil];omega),k left (by omega),jBj,jTj (by simp only[ByteArray.size_append,QQ,Qp,List.length_cons,List.length_nil];omega),qd,jBj];dsimp only[VJ,Wd];rw[jTj rfl];rw[jTj (VU (by omega)),k (10*(qs.length:Int)+1005) (by omega),jBj,jTj (by simp only[ByteArray.size_append,QQ,Qp,List.length_cons,List.length_nil];omega),jTj (by simp only[ByteArray.size_append,QQ,Qp,List.length_cons,List.length_nil];omega),k1,jBj];dsimp only[VJ,Wd];rw[jTj (by simp only[ByteArray.size_append,QQ,Qp,List.length_cons,List.length_nil];omega),G,jBj];dsimp only[VJ,Wd];rw[K,jBj,H,jBj,J,jBj,d,jBj];exact ww rfl v X
  ·obtain⟨⟨z1,k1⟩,⟨z2,G⟩,K,H,J⟩:=Z s;rw[jFj s];rw[jTj (VU (by omega)),k (10*(qs.length:Int)+1005) (by omega),jBj,jTj (by simp only[ByteArray.size_append,QQ,Qp,List.length_cons,List.length_nil];omega),jTj (by simp only[ByteArray.size_append,QQ,Qp,List.length_cons,List.length_nil];omega),k1,jBj];dsimp only[VJ,Wd];rw[jTj (by simp only[ByteArray.size_append,QQ,Qp,List.length_cons,List.length_nil];omega),G,jBj];dsimp only[VJ,Wd];rw[K,jBj,H,jBj,J,jBj,d,jBj];exact ww rfl v X
theorem wO (f:jVj)(o:okAs [(false,[.lst true [.int .i64,.int .i64]]),(false,[.int .u8]),(false,[.int .u8])] f):Computes cx 3 f (.v (.bool true)):=by
 obtain⟨J,r,rfl,u,b⟩:=QeA o;obtain⟨a,rfl,l0,k⟩:=Qkz (QhJ u);obtain⟨g,rfl,b0⟩:=QhU (enc:=fun x:Int×Int=>(.agg [.v (.int .i64 x.1),.v (.int .i64 x.2)]:D)) (p:=fun x:Int×Int=>(Qg x.1)/\(Qg x.2)) (es:=a) (fun e n=>by obtain⟨cs,rfl,q⟩:=k e n;obtain⟨K,O,rfl,y,E⟩:=QhH q;obtain⟨G,rfl,b0⟩:=ok_i y;obtain⟨L,P,rfl,z,F⟩:=QhH E;obtain⟨H,rfl,b1⟩:=ok_i z;rw[Qkx F];exact⟨(G,H),rfl,⟨QjF b0,QjF b1⟩⟩)
 rw[jlj] at l0;obtain⟨M,s,rfl,A,c⟩:=QeA b;obtain⟨h,rfl,l⟩:=ok_i (QhJ A);have b1:=u8_b l;obtain⟨N,t,rfl,C,d⟩:=QeA c;obtain⟨i,rfl,m⟩:=ok_i (QhJ C);have j:=u8_b m;cases Qj3 d;exact wj (jM g h i b1 j)
end Go.Proofs.YthdghjjahodkaaaGreatDoor
