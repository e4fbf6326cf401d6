/- Own texts. -/
import Derived.Test.YtmhkcfjajpjigaaGreatDoorSxTwenty
import Derived.RangeFuncIn
import Derived.KernelRfl
set_option linter.unusedSimpArgs false
set_option linter.unusedVariables false
set_option linter.unusedSectionVars false
namespace Go.SX
variable [DrawMode]
variable {cx:Cx}
theorem QaG {b n:Nat}{H:List (Nat×Blk)}{k:Blk}(h:K6 b H=true)(e:look H n=some k)(a:n≠b):wH k=true:=by
 simp only[K6,List.all_eq_true,Bool.or_eq_true] at h;have d:∀(l:List (Nat×Blk)),look l n=some k->(n,k)∈l:=by
  intro l;induction l with
  | nil=>intro h;simp[look] at h
  | cons p l ih =>
   obtain⟨c,x⟩:=p;intro h;by_cases hc:c=n
   ·subst hc;rw[Qf] at h;cases h;exact jMj
   ·rw[Qc _ _ hc] at h;exact jmj _ (ih h)
 obtain h|h:=h _ (d H e)
 ·exact absurd (Z1 h) a
 ·exact h
theorem HSim.turnLoop {F:Nat->Prop}{hp:List (Nat×Blk)}{ρ:Nat->Value}{w:World}(m:HSim cx F hp ρ w){b:Nat}{k0 K:Blk}(C:look hp b=some k0)(z:k0.live=true)(O:k0.ver=0)(N:K6 b hp=true){l:Nat}{V:Loop}(v:w.heap[l]?=some (.loop V))(o' : Obj)
  (W:K.ver=0) (M:(∀(x:AV) (y:Value),VR w (MM F hp ρ) hp ρ x y->VR (w.putObj l o') (MM F ((b,K)::hp) ρ) ((b,K)::hp) ρ x y)->BlkR (w.putObj l o') (MM F ((b,K)::hp) ρ) ((b,K)::hp) ρ b K) :
  HSim cx F ((b,K)::hp) ρ (w.putObj l o')/\Grows hp ((b,K)::hp) ρ ρ/\(∀r,Mut ((b,K)::hp) ρ r->Mut hp ρ r)/\(∀(x:AV) (y:Value),VR w (MM F hp ρ) hp ρ x y->VR (w.putObj l o') (MM F ((b,K)::hp) ρ) ((b,K)::hp) ρ x y):=by
 have f:∀n k,look ((b,K)::hp) n=some k->k.live=true->∃i,look hp n=some i/\i.live=true:=by
  intro n k c A;by_cases a:n=b
  ·subst a;exact⟨k0,C,z⟩
  ·rw[Qc _ _ (Ne.symm a)] at c;exact⟨k,c,A⟩
 have d:∀r,Mut ((b,K)::hp) ρ r->Mut hp ρ r:=by rintro r ⟨n,k,c,A,j⟩;obtain⟨i,p,s⟩:=f n k c A;exact⟨n,i,p,s,j⟩
 have e:∀r,MM F ((b,K)::hp) ρ r->MM F hp ρ r:=fun r h=>h.imp id (d r);have t:Grows hp ((b,K)::hp) ρ ρ:=⟨fun n k c=>by
  by_cases a:n=b
  ·subst a;rw[C] at c;cases c;exact⟨K,Qf _ _ _,by omega,fun _=>rfl⟩
  ·exact⟨k,by rw[Qc _ _ (Ne.symm a)];exact c,jLj _,fun _=>rfl⟩⟩
 have o:∀(x:AV) (y:Value),VR w (MM F hp ρ) hp ρ x y->VR (w.putObj l o') (MM F ((b,K)::hp) ρ) ((b,K)::hp) ρ x y:=fun x y h =>
  (h.put v trivial o').ext (jLj _) (fun _ _ _=>rfl) (fun r _ h=>e r h) t
 refine⟨⟨fun n k c=>?_,fun n E k i r p s P Q T U=>?_,fun r j=>m.forb r (d r j),fun r j=>by rw[World.putObj_size];exact m.bnd r j,fun g x u=>?_⟩,t,d,o⟩
 ·by_cases a:n=b
  ·subst a;rw[Qf] at c;cases c;exact M o
  ·rw[Qc _ _ (Ne.symm a)] at c;exact((m.blk n k c).put v trivial o' (.inr (QaG N c a))).ext (jLj _) (fun _ _ _=>rfl) (fun r _ h=>e r h) t rfl (fun _ _ _=>rfl)
 ·obtain⟨q,G,H⟩:=f n k p P;obtain⟨S,J,L⟩:=f E i s Q;exact m.inj n E q S r G J H L T U
 ·exact((m.glob g x u).put v trivial o').ext (jLj _) (fun _ _ _=>rfl) (fun r _ h=>e r h)
theorem Qam {w:World}{M:Nat->Prop}{hp:List (Nat×Blk)}{ρ:Nat->Value}{g:Nat}:∀(b:List Nat) (a:List AV) (vs:List Value) (tm:List (Nat×AV)) (T:Array Value),b.length=a.length->a.length=vs.length ->
  (∀t,t∈b->t<g)->T.size=g->(∀t x,look tm t=some x->VR w M hp ρ x (T.getD t undef))->(∀(i:Nat) (c:AV) (y:Value),a[i]?=some c->vs[i]?=some y->VR w M hp ρ c y) ->
  ((b.zip vs).foldl (fun(tmps:Array Value) (p:Nat×Value)=>tmps.setIfInBounds p.1 p.2) T).size=g/\∀t x,look (Qan b a tm) t=some x->VR w M hp ρ x (((b.zip vs).foldl (fun(tmps:Array Value) (p:Nat×Value)=>tmps.setIfInBounds p.1 p.2) T).getD t undef)
 | [],a,vs,tm,T,_,_,_,hT,ht,_=>by simp only[List.zip_nil_left,List.foldl_nil,Qan];exact⟨hT,ht⟩
 | t::b,[],vs,tm,T,h1,_,_,_,_,_=>by simp at h1
 | t::b,x::a,[],tm,T,_,h2,_,_,_,_=>by simp at h2
 | t::b,x::a,v::vs,tm,T,h1,h2,hlt,hT,ht,hv=>by
  simp only[List.zip_cons_cons,List.foldl_cons,Qan];refine Qam b a vs _ _ (by simpa using h1) (by simpa using h2) (fun u e=>hlt u (jmj _ e)) (by simpa using hT) (fun u y e=>?_) (fun i c y hc h=>hv (i+1) c y (by simpa using hc) (by simpa using h));by_cases d:t=u
  ·subst d;rw[Qf] at e;cases e;have f:t<T.size:=by rw[hT];exact hlt t jMj
   rw[Array.getD_eq_getD_getElem?,Array.getElem?_setIfInBounds,jTj rfl,jTj f];exact hv 0 _ _ rfl rfl
  ·rw[Qc _ _ d] at e;rw[Array.getD_eq_getD_getElem?,Array.getElem?_setIfInBounds,jFj d,<-Array.getD_eq_getD_getElem?];exact ht u y e
theorem Gc {w:World}{l:Nat}{o:Obj}(h:w.heap[l]?=some o):l<w.heap.size:=by
 obtain a|a:=Nat.lt_or_ge l w.heap.size
 ·exact a
 ·rw[Array.getElem?_eq_none a] at h;cases h
theorem Qgc {ex:Code->St->Option (Ex×St)}(hE:ExOK cx ex)(hS:yu ex):jm cx (jr ex):=by
 intro H nx sym orc b ver Q rc h d7 rr m F ρ w vs hs hl hv;unfold jr at h;split at h;case h_2=>cases h
 rename_i tm ps as bd nt hb hc;simp only[jAj] at hc;have c0:=Z1 hc.1;have b6:=hc.2;split at h;case h_2=>cases h
 rename_i S;simp only[jAj,List.all_eq_true] at S;have b7:=Z1 S.1;split at h;case h_2=>cases h
 rename_i s1 b8;split at h;case h_2=>cases h
 rename_i Z Y T U X V d6;split at h;case h_3=>cases h
 ·rename_i o a9;split at h;case h_2=>cases h
  rename_i e3 d9 d0 d5 d8 C c7;simp only[jIj] at h;subst h;obtain⟨o2,e2⟩:=hE _ _ _ _ a9 d7;obtain⟨_,e1⟩:=hE _ _ _ _ b8 o2;obtain⟨v1,n1,_⟩:=hS _ _ _ _ b8;obtain⟨v2,n2,_⟩:=hS _ _ _ _ a9;obtain⟨l,f,q1,q3,q4,q5,q6,q7,q8,q9,c9⟩:=hs.blk b _ hb;have y:b<nx:=VO b6 hb;have M:f.params.size=vs.length:=by rw[<-Array.length_toList,q6,b7,hl]
  refine⟨⟨_,hb,c0⟩,l,f,q1,q3,M,roundIn_of_wpIn (F:=fen rr) trivial ?_⟩;have E:(f.params.zip vs.toArray).foldl (fun(tmps:Array Value) (x:Nat×Value)=>match x with|(t,a)=>tmps.setIfInBounds t a) f.tmps=(ps.zip vs).foldl (fun(tmps:Array Value) (p:Nat×Value)=>tmps.setIfInBounds p.1 p.2) f.tmps:=by rw[<-Array.foldl_toList,Array.toList_zip,q6]
  rw[E];obtain⟨b1,b2⟩:=Qam ps Q vs tm f.tmps b7 hl (fun t ht=>by have:=S.2 t ht;simpa using this) q9 c9 hv;have J:Sim cx F { nt,sym,tm:=Qan ps Q tm,hp:=H,nx,orc,ob:=[],vis:=nx,sfx:=true,rnd:=true } ρ { tmps:=(ps.zip vs).foldl (fun(tmps:Array Value) (p:Nat×Value)=>tmps.setIfInBounds p.1 p.2) f.tmps,defers:=[] } w:=⟨hs,b2,b1⟩
  have a7:=e1 (some l) F ρ _ w (fun h=>by cases h) J;rw[<-q7] at a7;refine wpIn_mono (a7 m) ?_;rintro e' u j ⟨rfl,g,g1,g2,g3,_,i⟩;have c4:Mut H ρ l:=⟨b,_,hb,rfl,by rw[q1];rfl⟩
  have A:g b=ρ b:=by obtain⟨k',s,_,h3⟩:=i.grow b _ y hb;rw[V] at s;cases s;exact h3 rfl
  obtain⟨l1,N,p1,p3,p4,p5,p6,p7,p8,p9,c8⟩:=g1.blk b _ V;have G:l1=l:=by rw[A,q1] at p1;simpa using p1.symm
  subst G;refine⟨_,run_beginRound p3 p4,?_⟩;obtain⟨t1,t2,t3,t4⟩:=g1.turnLoop (K:=.loop false Z Y T U X) V rfl rfl d6 p3 (.loop { N with state:=.busy }) rfl (fun a6 =>
   ⟨l1,{ N with state:=.busy },p1,World.putObj_heap_same (Gc p3),rfl,p5,p6,p7,p8,p9,fun t x hx=>a6 _ _ (c8 t x hx)⟩)
  have L:Sim cx F { s1 with hp:=(b,.loop false Z Y T U X)::s1.hp } g u (j.putObj l1 (.loop { N with state:=.busy })) :=
   ⟨t1,fun t x hx=>t4 _ _ (g2 t x hx),by rw[g3];exact(wF n1).symm⟩
  have a8:=e2 (some l1) F g u _ (fun h=>by have:=Qca n1;rw[this] at h;cases h) L;rw[<-q8] at a8;refine wpIn_mono (a8 m) ?_;rintro e' d4 c ⟨rfl,b5,f1,f2,f3,_,q⟩;have z:s1.vis=nx:=v1;have b4:b5 b=g b:=by obtain⟨k',s,_,h3⟩:=q.grow b _ (by show b<s1.vis;rw[z];exact y) (Qf _ _ _);rw[C] at s;cases s;exact h3 rfl
  obtain⟨l2,O,r1,r3,r4,r5,r6,r7,r8,r9,e0⟩:=f1.blk b _ C;have G:l2=l1:=by rw[b4,A,q1] at r1;simpa using r1.symm
  subst G;refine⟨_,_,run_endRound none r3,.bool true,rfl,b5,?_⟩;simp only[Option.isNone_none,if_true];obtain⟨u1,u2,u3,u4⟩:=f1.turnLoop (K:=.loop true e3 d9 d0 d5 d8) C rfl rfl c7 r3 (.loop { O with state:=.ready,pending:=none }) rfl (fun a6 =>
   ⟨l2,{ O with state:=.ready,pending:=none },r1,World.putObj_heap_same (Gc r3),rfl,rfl,r6,r7,r8,r9,fun t x hx=>a6 _ _ (e0 t x hx)⟩)
  refine⟨u1,⟨⟨fun hq=>?_,?_,?_,?_,?_,fun r W hm=>?_⟩,fun r W hm=>?_,⟨fun n k hn=>?_⟩⟩,.d _ _ (.v _)⟩
  ·show w.drawn<=c.drawn;exact Nat.le_trans (i.ext.drawn hq) (q.ext.drawn hq)
  ·show c.os=_;exact q.ext.os.trans i.ext.os
  ·show c.tape=_;exact q.ext.tape.trans i.ext.tape
  ·show c.output=_;exact q.ext.output.trans i.ext.output
  ·rw[World.putObj_size];have:=q.ext.size;rw[World.putObj_size] at this;exact Nat.le_trans i.ext.size this
  ·have a5:r≠l2:=fun e=>hm (by rw[e];exact c4);have s:r<j.heap.size:=Nat.lt_of_lt_of_le W i.ext.size;have c5:¬Mut s1.hp g r:=fun h=>hm (i.mt r W h);have c6:¬Mut ((b,Blk.loop false Z Y T U X)::s1.hp) g r:=fun h=>c5 (t3 r h);rw[World.putObj_heap_other a5,q.ext.same r (by rw[World.putObj_size];exact s) c6,World.putObj_heap_other a5];exact i.ext.same r W hm
  ·have s:r<j.heap.size:=Nat.lt_of_lt_of_le W i.ext.size;exact i.mt r W (t3 r (q.mt r (by rw[World.putObj_size];exact s) (u3 r hm)))
  ·have a4:n<nx:=VO b6 hn;obtain⟨k1,a1,a2,a3⟩:=i.grow n k a4 hn;obtain⟨k2,b1,b2,b3⟩:=t2.dom n k1 a1;obtain⟨k3,c1,c2,c3⟩:=q.grow n k2 (by show n<s1.vis;rw[z];exact a4) b1;obtain⟨k4,d1,d2,d3⟩:=u2.dom n k3 c1;exact⟨k4,d1,by omega,fun he=>by rw[d3 (by omega),c3 (by omega),b3 (by omega),a3 (by omega)]⟩
 ·rename_i e o e4 a9;split at h;case h_2=>cases h
  rename_i e3 d9 d0 d5 d8 C c7;simp only[jIj] at h;subst h;obtain⟨o2,e2⟩:=hE _ _ _ _ a9 d7;obtain⟨_,e1⟩:=hE _ _ _ _ b8 o2;obtain⟨v1,n1,_⟩:=hS _ _ _ _ b8;obtain⟨v2,n2,_⟩:=hS _ _ _ _ a9;obtain⟨l,f,q1,q3,q4,q5,q6,q7,q8,q9,c9⟩:=hs.blk b _ hb;have y:b<nx:=VO b6 hb;have M:f.params.size=vs.length:=by rw[<-Array.length_toList,q6,b7,hl]
  refine⟨⟨_,hb,c0⟩,l,f,q1,q3,M,roundIn_of_wpIn (F:=fen rr) trivial ?_⟩;have E:(f.params.zip vs.toArray).foldl (fun(tmps:Array Value) (x:Nat×Value)=>match x with|(t,a)=>tmps.setIfInBounds t a) f.tmps=(ps.zip vs).foldl (fun(tmps:Array Value) (p:Nat×Value)=>tmps.setIfInBounds p.1 p.2) f.tmps:=by rw[<-Array.foldl_toList,Array.toList_zip,q6]
  rw[E];obtain⟨b1,b2⟩:=Qam ps Q vs tm f.tmps b7 hl (fun t ht=>by have:=S.2 t ht;simpa using this) q9 c9 hv;have J:Sim cx F { nt,sym,tm:=Qan ps Q tm,hp:=H,nx,orc,ob:=[],vis:=nx,sfx:=true,rnd:=true } ρ { tmps:=(ps.zip vs).foldl (fun(tmps:Array Value) (p:Nat×Value)=>tmps.setIfInBounds p.1 p.2) f.tmps,defers:=[] } w:=⟨hs,b2,b1⟩
  have a7:=e1 (some l) F ρ _ w (fun h=>by cases h) J;rw[<-q7] at a7;refine wpIn_mono (a7 m) ?_;rintro e' u j ⟨rfl,g,g1,g2,g3,_,i⟩;have c4:Mut H ρ l:=⟨b,_,hb,rfl,by rw[q1];rfl⟩
  have A:g b=ρ b:=by obtain⟨k',s,_,h3⟩:=i.grow b _ y hb;rw[V] at s;cases s;exact h3 rfl
  obtain⟨l1,N,p1,p3,p4,p5,p6,p7,p8,p9,c8⟩:=g1.blk b _ V;have G:l1=l:=by rw[A,q1] at p1;simpa using p1.symm
  subst G;refine⟨_,run_beginRound p3 p4,?_⟩;obtain⟨t1,t2,t3,t4⟩:=g1.turnLoop (K:=.loop false Z Y T U X) V rfl rfl d6 p3 (.loop { N with state:=.busy }) rfl (fun a6 =>
   ⟨l1,{ N with state:=.busy },p1,World.putObj_heap_same (Gc p3),rfl,p5,p6,p7,p8,p9,fun t x hx=>a6 _ _ (c8 t x hx)⟩)
  have L:Sim cx F { s1 with hp:=(b,.loop false Z Y T U X)::s1.hp } g u (j.putObj l1 (.loop { N with state:=.busy })) :=
   ⟨t1,fun t x hx=>t4 _ _ (g2 t x hx),by rw[g3];exact(wF n1).symm⟩
  have a8:=e2 (some l1) F g u _ (fun h=>by have:=Qca n1;rw[this] at h;cases h) L;rw[<-q8] at a8;refine wpIn_mono (a8 m) ?_;rintro e' d4 c ⟨rfl,b5,f1,f2,f3,_,q⟩;have z:s1.vis=nx:=v1;have b4:b5 b=g b:=by obtain⟨k',s,_,h3⟩:=q.grow b _ (by show b<s1.vis;rw[z];exact y) (Qf _ _ _);rw[C] at s;cases s;exact h3 rfl
  obtain⟨l2,O,r1,r3,r4,r5,r6,r7,r8,r9,e0⟩:=f1.blk b _ C;have G:l2=l1:=by rw[b4,A,q1] at r1;simpa using r1.symm
  subst G;have b9:=run_endRound (P:=cx.P) (some (wh e)) r3;suffices a0:∃ρ',HSim cx F (RC.heap { val:=.d (.v (.bool false)),up:=[],full:=some ((b,.left e)::o.hp),nx:=o.nx,ob:=o.ob,orc:=o.orc,sfx:=!sym&&o.sfx } H) ρ' (c.putObj l2 (.loop { O with state:=.done,pending:=some (wh e) })) /\
    Steps1 H ρ w (RC.heap { val:=.d (.v (.bool false)),up:=[],full:=some ((b,.left e)::o.hp),nx:=o.nx,ob:=o.ob,orc:=o.orc,sfx:=!sym&&o.sfx } H) ρ' (c.putObj l2 (.loop { O with state:=.done,pending:=some (wh e) })) /\
    VR (c.putObj l2 (.loop { O with state:=.done,pending:=some (wh e) })) (MM F (RC.heap { val:=.d (.v (.bool false)),up:=[],full:=some ((b,.left e)::o.hp),nx:=o.nx,ob:=o.ob,orc:=o.orc,sfx:=!sym&&o.sfx } H) ρ') (RC.heap { val:=.d (.v (.bool false)),up:=[],full:=some ((b,.left e)::o.hp),nx:=o.nx,ob:=o.ob,orc:=o.orc,sfx:=!sym&&o.sfx } H) ρ' (.d (.v (.bool false))) (.bool false) by
   cases e with
   | normal=>exact(e4 rfl).elim
   | ret=>exact⟨_,_,b9,.bool false,rfl,a0⟩
   | exit id=>exact⟨_,_,b9,.bool false,rfl,a0⟩
  refine⟨b5,?_⟩;obtain⟨u1,u2,u3,u4⟩:=f1.turnLoop (K:=.left e) C rfl rfl c7 r3 (.loop { O with state:=.done,pending:=some (wh e) }) rfl (fun _ =>
   ⟨l2,_,r1,World.putObj_heap_same (Gc r3),rfl,rfl⟩)
  refine⟨u1,⟨⟨fun hq=>?_,?_,?_,?_,?_,fun r W hm=>?_⟩,fun r W hm=>?_,⟨fun n k hn=>?_⟩⟩,.d _ _ (.v _)⟩
  ·show w.drawn<=c.drawn;exact Nat.le_trans (i.ext.drawn hq) (q.ext.drawn hq)
  ·show c.os=_;exact q.ext.os.trans i.ext.os
  ·show c.tape=_;exact q.ext.tape.trans i.ext.tape
  ·show c.output=_;exact q.ext.output.trans i.ext.output
  ·rw[World.putObj_size];have:=q.ext.size;rw[World.putObj_size] at this;exact Nat.le_trans i.ext.size this
  ·have a5:r≠l2:=fun e=>hm (by rw[e];exact c4);have s:r<j.heap.size:=Nat.lt_of_lt_of_le W i.ext.size;have c5:¬Mut s1.hp g r:=fun h=>hm (i.mt r W h);have c6:¬Mut ((b,Blk.loop false Z Y T U X)::s1.hp) g r:=fun h=>c5 (t3 r h);rw[World.putObj_heap_other a5,q.ext.same r (by rw[World.putObj_size];exact s) c6,World.putObj_heap_other a5];exact i.ext.same r W hm
  ·have s:r<j.heap.size:=Nat.lt_of_lt_of_le W i.ext.size;exact i.mt r W (t3 r (q.mt r (by rw[World.putObj_size];exact s) (u3 r hm)))
  ·have a4:n<nx:=VO b6 hn;obtain⟨k1,a1,a2,a3⟩:=i.grow n k a4 hn;obtain⟨k2,b1,b2,b3⟩:=t2.dom n k1 a1;obtain⟨k3,c1,c2,c3⟩:=q.grow n k2 (by show n<s1.vis;rw[z];exact a4) b1;obtain⟨k4,d1,d2,d3⟩:=u2.dom n k3 c1;exact⟨k4,d1,by omega,fun he=>by rw[d3 (by omega),c3 (by omega),b3 (by omega),a3 (by omega)]⟩
def QeZ:Blk->Option Ex
 | .loop true _ _ _ _ _=>some .normal
 | .left e=>some e
 | _=>none
theorem QeY {w:World}{M:Nat->Prop}{hp:List (Nat×Blk)}{ρ:Nat->Value}{b:Nat}{k:Blk}{e:Ex}(h:QeZ k=some e)(i:BlkR w M hp ρ b k) :
  k.live=true/\k.ver=0/\∃l a,ρ b=.func (.yield l) #[] #[]/\w.heap[l]?=some (.loop a)/\a.state≠.busy/\(a.pending=none/\e=.normal\/a.pending=some (wh e)):=by
 unfold QeZ at h;split at h
 ·cases h;obtain⟨l,a,c,d,f,g,_⟩:=i;exact⟨rfl,rfl,l,a,c,d,by rw[f];simp,.inl ⟨g,rfl⟩⟩
 ·cases h;obtain⟨l,a,c,d,f,g⟩:=i;exact⟨rfl,rfl,l,a,c,d,by rw[f];simp,.inr g⟩
 ·cases h
theorem wA (hN:NoAsk cx){ex:Code->St->Option (Ex×St)}(hE:ExOK cx ex)(hS:yu ex){s Z:St}{f:Operand}{ps:Array Tmp}{as bd:Code}{g:FuncId}{a0 b0:List AV}{x:AV}
  (b6:GX (evA cx s.tm f)=some (g,a0,b0)) (b5:YG s.hp s.nx=true) (e6:(s.hp.all fun p=>wH p.2)=true)
  (hx:KM ex cx g (a0++[.own s.nx 0]++b0) { nt:=0,sym:=s.sym,tm:=[],hp:=(s.nx,.loop true (JB s.tm s.nt) ps.toList as bd s.nt)::s.hp,nx:=s.nx+1,orc:=s.orc,ob:=s.ob,vis:=s.nx+1,sfx:=true }=some (x,Z))
  {k2:Blk} {e:Ex} (a4:look Z.hp s.nx=some k2) (d6:QeZ k2=some e) (d9:K6 s.nx Z.hp=true) (e0:∀p,p∈Z.ob->p) :
  (∀p,p∈s.ob->p)/\∀(F:Nat->Prop) (ρ:Nat->Value) (a:Act) (w:World),Sim cx F s ρ a w ->
   wpR none cx.P (.rangeFunc f ps as bd) (fun e' a' w'=>e'=Jk e/\After cx F s.vis s.nt s.hp ρ w a.defers s.tm ((s.nx,.dead)::Z.hp) a' w') a w:=by
 obtain⟨e1,e2⟩:=U9 hE hS hx e0;refine⟨e1,fun F ρ a w N m=>wpIn_rangeFunc (F:=fen none) fun fn _=>?_⟩;obtain⟨xs,ys,hv,l1,l3,k1,k3⟩:=KY b6 (jX N.hs N.ts f);have b8:∃fd,cx.P.funcs[g]?=some fd/\fd.body.isSome=true:=by
  unfold KM at hx;split at hx
  ·cases hx
  rename_i fd a8;split at hx
  ·cases hx
  rename_i body a5;exact⟨fd,a8,by rw[a5];rfl⟩
 obtain⟨fd,a8,d5⟩:=b8;have a9:look s.hp s.nx=none:=by
  cases h:look s.hp s.nx with
  | none=>rfl
  | some k=>have:=VO b5 h;omega
 -- the record is laid
 obtain⟨rc,H⟩:∃rc:Loop,rc={ state:=.ready,pending:=none,fn,tmps:=a.tmps,params:=ps,assign:=as,body:=bd,defers:=w.heap.size }:=⟨_,rfl⟩
 obtain⟨b,C⟩:∃b,b=(w.alloc (.deferred (some []))).alloc (.loop rc):=⟨_,rfl⟩
 have e3:b.heap.size=w.heap.size+2:=by rw[C];simp
 have d7:b.heap[w.heap.size+1]?=some (.loop rc):=by rw[C];have:=World.alloc_heap_new (w.alloc (.deferred (some []))) (.loop rc);rwa [World.size_alloc] at this
 have a7:b.heap[w.heap.size]?=some (.deferred (some [])):=by rw[C];show((w.heap.push _).push _)[w.heap.size]?=_;rw[Array.getElem?_push,jFj (by simp),Array.getElem?_push,jTj rfl]
 have d:Ext w (fun _=>False) b:=by rw[C];exact(Ext.alloc w _ _).trans (Ext.alloc _ (fun _=>False) _) (fun _ _ h=>h)
 obtain⟨o,z⟩:∃o,o=VI ρ s.nx (.func (.yield (w.heap.size+1)) #[] #[]):=⟨_,rfl⟩
 obtain⟨K,hK⟩:∃K,K=Blk.loop true (JB s.tm s.nt) ps.toList as bd s.nt:=⟨_,rfl⟩
 have e4:K.live=true:=by rw[hK];rfl
 have L:QX (o s.nx)=some (w.heap.size+1):=by rw[z,Qx];rfl
 have S:∀r,Mut ((s.nx,K)::s.hp) o r->r=w.heap.size+1\/Mut s.hp ρ r:=by
  rintro r ⟨n,k,E,G,l⟩;by_cases j:n=s.nx
  ·subst j;rw[L] at l;cases l;exact .inl rfl
  ·right;rw[Qc _ _ (Ne.symm j)] at E;rw[z,QL _ _ j] at l;exact⟨n,k,E,G,l⟩
 have Y:∀r,r<w.heap.size->Mut ((s.nx,K)::s.hp) o r->Mut s.hp ρ r:=fun r l G=>(S r G).resolve_left (by omega);have u:Steps1 s.hp ρ w ((s.nx,K)::s.hp) o b:=by
  refine⟨d.mono fun _ h=>h.elim,fun r l G=>Y r l G,⟨fun n k E=>?_⟩⟩;have j:n≠s.nx:=fun e=>by rw[e,a9] at E;cases E
  exact⟨k,by rw[Qc _ _ (Ne.symm j)];exact E,jLj _,fun _=>by rw[z];exact QL _ _ j⟩
 have b4:HSim cx F ((s.nx,K)::s.hp) o b:=by
  refine N.hs.step u (fun n k E=>?_) (fun n n' k k' r h1 h2 m1 m2 r1 r2=>?_) (fun r l hF=>(S r l).elim (fun e=>by have:=N.hs.bnd r hF;omega) (fun h=>N.hs.forb r h hF))
  ·by_cases j:n=s.nx
   ·subst j;rw[Qf] at E;cases E;right;rw[hK];refine⟨w.heap.size+1,rc,by rw[z];exact Qx _ _ _,d7,by rw[H];rfl,by rw[H],by rw[H],by rw[H],by rw[H],by rw[H];exact N.nt,fun t y U=>?_⟩;rw[H,<-hK];exact u.vr (N.ts t y (Em _ _ _ U))
   ·rw[Qc _ _ (Ne.symm j)] at E;exact .inl ⟨E,by rw[z];exact QL _ _ j,fun G r l=>d.same r ((N.hs.blk n k E).root_lt G l) (fun h=>h)⟩
  ·have c8:∀n k r,look ((s.nx,K)::s.hp) n=some k->k.live=true->QX (o n)=some r->(n=s.nx/\r=w.heap.size+1)\/(n≠s.nx/\look s.hp n=some k/\QX (ρ n)=some r/\r<w.heap.size):=by
    intro n k r E G l;by_cases j:n=s.nx
    ·subst j;rw[L] at l;cases l;exact .inl ⟨rfl,rfl⟩
    ·rw[Qc _ _ (Ne.symm j)] at E;rw[z,QL _ _ j] at l;exact .inr ⟨j,E,l,N.hs.mut_lt ⟨n,k,E,G,l⟩⟩
   obtain⟨c1,c2⟩|⟨c1,c2,c3,c4⟩:=c8 n k r h1 m1 r1<;>obtain⟨d1,d2⟩|⟨d1,d2,d3,d4⟩:=c8 n' k' r h2 m2 r2
   ·rw[c1,d1]
   ·omega
   ·omega
   ·exact N.hs.inj n n' k k' r c2 d2 m1 m2 c3 d3
 -- the call
 obtain⟨q4,q5⟩:=wx (p:=a0) (m:=[AV.own s.nx 0]) (q:=b0) (xs:=xs) (ms:=[Value.func (.yield (w.heap.size+1)) #[] #[]]) (ys:=ys) (w:=b) (M:=MM F ((s.nx,K)::s.hp) o) (hp:=(s.nx,K)::s.hp) (ρ:=o) l1 rfl l3
  (fun i c y hc U=>u.vr (k1 i c y hc U)) (fun i c y hc U=>by
   cases i with
   | zero =>
    simp only[jzj,jIj] at hc U;subst hc;subst U;exact .own s.nx 0 K _ (Qf _ _ _) (Nat.zero_le _) rfl fun _=>by rw[z];exact(Qx _ _ _).symm
   | succ i=>simp at hc) (fun i c y hc U=>u.vr (k3 i c y hc U))
 rw[hK] at b4 q5;have a6:=e2 F o b (xs++[Value.func (.yield (w.heap.size+1)) #[] #[]]++ys) b4 q4 q5;refine⟨w.heap.size+1,[{ target:=.collected w.heap.size,args:=#[] }],b,{ target:=.fn (.func g) ys.toArray,args:=xs.toArray++#[.func (.yield (w.heap.size+1)) #[] #[]] },b,g,
  (xs++[Value.func (.yield (w.heap.size+1)) #[] #[]]++ys).toArray,b,?_,?_,fun _ _=>trivial,?_,fun h=>(by cases h),Qah none (a6.mono ?_)⟩
 ·rw[C,H];exact run_enterLoop_outer _ _ _ _ _
 ·simp only[resolve,hv,Deferred.ofValue];simp[Act.eval,Sem.run_pure]
 ·simp only[invoke];have:=En hN a8 d5 (xs++[Value.func (.yield (w.heap.size+1)) #[] #[]]++ys).toArray b;simpa using this
 ·rintro e' w3 ⟨v,rfl,V,g1,O,_⟩;obtain⟨b9,X,l2,J,r1,c0,r4,r5⟩:=QeY d6 (g1.blk _ _ a4);have c7:V s.nx=o s.nx:=by obtain⟨k',h1,_,h3⟩:=O.grow s.nx _ (by show s.nx<s.nx+1;omega) (Qf _ _ _);rw[a4] at h1;cases h1;exact h3 X.symm
  have d8:l2=w.heap.size+1:=by rw[c7,z,Qx] at r1;simpa using r1.symm
  subst d8;have d0:¬Mut ((s.nx,Blk.loop true (JB s.tm s.nt) ps.toList as bd s.nt)::s.hp) o w.heap.size:=by intro G;obtain⟨c,e,hc⟩:=b4.mut_cells G;rw[a7] at e;cases e;exact hc _ rfl
  have c9:w3.heap[w.heap.size]?=some (.deferred (some [])):=(O.ext.same _ (Gc a7) d0).trans a7;obtain⟨t1,t2,t3,t4⟩:=g1.turnLoop (K:=.dead) a4 b9 X d9 c0 (.loop { J with state:=.exhausted }) rfl (fun _=>trivial);have b7:(Instr.endLoop (w.heap.size+1)).run cx.P w3=.ok J.pending (w3.putObj (w.heap.size+1) (.loop { J with state:=.exhausted })):=run_endLoop c0 r4;suffices A:After cx F s.vis s.nt s.hp ρ w a.defers s.tm ((s.nx,.dead)::Z.hp) { a with defers:=[{ target:=.collected w.heap.size,args:=#[] }]++a.defers } (w3.putObj (w.heap.size+1) (.loop { J with state:=.exhausted })) by
   refine⟨J.pending,_,b7,?_⟩;generalize (w3.putObj (w.heap.size+1) (.loop { J with state:=.exhausted }))=W at A ⊢;obtain⟨hp,he⟩|hp:=r5
   ·rw[hp];exact⟨by rw[he];rfl,A⟩
   ·rw[hp];cases e with
    | normal=>exact wpIn_skip ⟨rfl,A⟩
    | ret=>exact wpIn_ret ⟨rfl,A⟩
    | exit id=>exact wpIn_exit ⟨rfl,A⟩
  rw[<-hK] at O;have Q:Grows s.hp ((s.nx,.dead)::Z.hp) ρ V:=by refine⟨fun n k E=>?_⟩;have e5:n<s.nx:=VO b5 E;obtain⟨k1,a1,a2,a3⟩:=u.grow.dom n k E;obtain⟨k2,b1,b2,b3⟩:=O.grow n k1 (by show n<s.nx+1;omega) a1;obtain⟨k3,c1,c2,c3⟩:=t2.dom n k2 b1;exact⟨k3,c1,by omega,fun he=>by rw[c3 (by omega),b3 (by omega),a3 (by omega)]⟩
  have c5:∀r,r<w.heap.size->Mut ((s.nx,.dead)::Z.hp) V r->Mut s.hp ρ r:=fun r l G =>
   u.mt r l (O.mt r (Nat.lt_of_lt_of_le l u.ext.size) (t3 r G))
  have T:∀r,r<w.heap.size->¬Mut s.hp ρ r->(w3.putObj (w.heap.size+1) (.loop { J with state:=.exhausted })).heap[r]?=w.heap[r]?:=by intro r l G;rw[World.putObj_heap_other (by omega),O.ext.same r (Nat.lt_of_lt_of_le l u.ext.size) (fun h=>G (Y r l h))];exact d.same r l (fun h=>h)
  have c6:w.heap.size<=(w3.putObj (w.heap.size+1) (.loop { J with state:=.exhausted })).heap.size:=by rw[World.putObj_size];exact Nat.le_trans d.size O.ext.size
  refine⟨V,t1,fun t y U=>?_,N.nt,⟨[w.heap.size],rfl,by simp,fun D hD=>?_⟩,⟨⟨fun hq=>Nat.le_trans (d.drawn hq) (O.ext.drawn hq),O.ext.os.trans d.os,O.ext.tape.trans d.tape,O.ext.output.trans d.output,c6,T⟩,c5,fun n k _ E=>Q.dom n k E⟩⟩
  ·exact(N.ts t y U).ext c6 (fun r l G=>T r l fun h=>G (.inr h)) (fun r l h=>h.imp id (c5 r l)) Q
  ·simp only[List.mem_singleton] at hD;subst hD;exact⟨jLj _,by rw[World.putObj_heap_other (by omega)];exact c9⟩
variable {cx:Cx}
theorem jW {ops:Array Oper}{i:Nat}{o:Oper}{s s' : St}{x:AV}{b : List (Nat×Blk)}{d:Nat}{orc:List Orc}{ob:List Prop}{e:Bool}(h:Ee ops i o s x b d orc ob e=some s')(c:∀p,p∈s'.ob->p):∀p,p∈s.ob->p:=by
 unfold Ee at h;split at h
 ·split at h;case h_2=>cases h
  obtain⟨_,a,_⟩:=Uw h;intro p hp;refine c p ?_;rw[a];simp[hp]
 ·obtain⟨_,a,_⟩:=Uw h;intro p hp;refine c p ?_;rw[a];simp[hp]
theorem Qa3 {call:Jt}{d:Uu}{ops:Array Oper}{base:Nat}:∀(l:List Nat) (s s' : St),UZ cx call d ops base l s=some s'->(∀p,p∈s'.ob->p)->∀p,p∈s.ob->p
 | [],s,s',h,ho=>by simp only[UZ,jIj] at h;subst h;exact ho
 | j::l,s,s',h,ho=>by
  simp only[UZ] at h;split at h;case h_2=>cases h
  rename_i e a;have b:=Qa3 l _ _ h ho;unfold qN at a;split at a
  ·cases a
  split at a
  ·cases a
  ·obtain⟨_,c,_⟩:=Uw a;rw[c] at b;exact b
  ·split at a
   ·split at a
    ·split at a
     ·cases a
     exact(jW a b)
    split at a
    ·cases a
    split at a
    ·cases a
    exact(jW a b)
   ·split at a
    ·cases a
    exact(jW a b)
theorem Qbg {f:Type}(b:Nat)(k:f):∀(l:List (Nat×f)) (n:Nat),look ((b,k)::l.filter (fun p=>!(Nat.beq p.1 b))) n=look ((b,k)::l) n:=by
 have e:∀(l:List (Nat×f)) (n:Nat),n≠b->look (l.filter (fun p=>!(Nat.beq p.1 b))) n=look l n:=by
  intro l n c;induction l with
  | nil=>rfl
  | cons p l ih =>
   obtain⟨m,x⟩:=p;by_cases g:m=b
   ·subst g;rw[List.filter_cons_of_neg (by simp),ih,Qc _ _ (Ne.symm c)]
   ·have d:(!(Nat.beq m b))=true:=by
     cases d:Nat.beq m b with
     | true=>exact absurd (jqj d) g
     | false=>rfl
    rw[List.filter_cons_of_pos (by simpa only using d)];by_cases a:m=n
    ·subst a;rw[Qf,Qf]
    ·rw[Qc _ _ a,Qc _ _ a,ih]
 intro l n;by_cases c:n=b
 ·subst c;rw[Qf,Qf]
 ·rw[Qc _ _ (Ne.symm c),Qc _ _ (Ne.symm c),e l n c]
theorem After.sim {F:Nat->Prop}{vis c:Nat}{hp:List (Nat×Blk)}{ρ:Nat->Value}{w:World}{s1:St}{b : Act}{w' : World}{a:List Deferred}(h:After cx F vis c hp ρ w a s1.tm s1.hp b w')(j:s1.nt=c) :
  ∃ρ',Sim cx F s1 ρ' b w'/\StepsV vis hp ρ w s1.hp ρ' w'/\DfTo w a w' b.defers:=by
 obtain⟨ρ',d,e,f,g,i⟩:=h;exact⟨ρ',⟨d,e,by rw[j];exact f⟩,i,g⟩
theorem After.trans {F:Nat->Prop}{vis l:Nat}{hp a:List (Nat×Blk)}{ρ b:Nat->Value}{w g:World}{f : List (Nat×AV)}{e : List (Nat×Blk)}{i : Act}{w' : World}{c d:List Deferred}(k:StepsV vis hp ρ w a b g)(q:HSim cx F a b g)(r:DfTo w c g d)
  (h:After cx F vis l a b g d f e i w'):After cx F vis l hp ρ w c f e i w':=by
 obtain⟨ρ',m,n,o,p,j⟩:=h;exact⟨ρ',m,n,o,DfTo.trans k.ext.size q j r p,k.trans j⟩
theorem After.refl {F:Nat->Prop}{s:St}{ρ:Nat->Value}{a:Act}{w:World}(h:Sim cx F s ρ a w):After cx F s.vis s.nt s.hp ρ w a.defers s.tm s.hp a w :=
 ⟨ρ,h.hs,h.ts,h.nt,DfTo.refl _ _ _,StepsV.refl _ _ _ _⟩
theorem jE (ops:Array Oper)(s:St):(X4 ops s).tm=s.tm/\(X4 ops s).nt=s.nt/\(X4 ops s).nx=s.nx/\(X4 ops s).vis=s.vis/\(X4 ops s).rnd=s.rnd/\(X4 ops s).ob=s.ob/\(X4 ops s).sym=s.sym:=by
 unfold X4;split
 ·split
  ·exact⟨rfl,rfl,rfl,rfl,rfl,rfl,rfl⟩
  ·exact⟨rfl,rfl,rfl,rfl,rfl,rfl,rfl⟩
 ·exact⟨rfl,rfl,rfl,rfl,rfl,rfl,rfl⟩
theorem Qdp (ops:Array Oper){F:Nat->Prop}{s:St}{ρ:Nat->Value}{a:Act}{w:World}(h:Sim cx F s ρ a w):Sim cx F (X4 ops s) ρ a w/\Steps1 s.hp ρ w (X4 ops s).hp ρ w:=by
 unfold X4;split
 ·split
  ·rename_i j _ i _ _ _ _ _ _;obtain⟨c,b⟩:=h.hs.freeze i;obtain⟨f,g⟩:=Qa9 j _ c;have e:=b.trans g;exact⟨⟨f,fun t x d=>e.vr (h.ts t x d),h.nt⟩,e⟩
  ·exact⟨h,Steps1.refl _ _ _⟩
 ·obtain⟨c,b⟩:=h.hs.freeze ((Qix ops s.tm).filter (Qtq s.hp));exact⟨⟨c,fun t x d=>b.vr (h.ts t x d),h.nt⟩,b⟩
theorem Qgz {s s0:St}{c b a:List Nat}(h:Qbe s c b a=some s0):s0.rnd=s.rnd:=by
 unfold Qbe at h;split at h;split at h
 ·simp only[jIj] at h;subst h;rfl
 ·cases h
theorem QaE {Q:Exit->Act->World->Prop}{e:Ex}{a:Act}{w:World}(h:Q (Jk e) a w):Exit.noGoto Q (Jk e) a w:=by cases e<;>exact h
def Qkn (rr:Option Nat)(cx:Cx)(c:Code)(Q:Exit->Act->World->Prop)(a:Act)(w:World):Prop :=
 wpR rr cx.P c Q a w/\∀b,c=.loop b->wpL rr cx.P b Q a w
theorem GN {F:Nat->Prop}{s:St}{ρ:Nat->Value}{a:Act}{w:World}(h:Sim cx F s ρ a w)(r:List Orc)(ob:List Prop):Sim cx F { s with orc:=r,ob } ρ a w :=
 ⟨h.hs,h.ts,h.nt⟩
theorem Qfg (hN:NoAsk cx)(hm:cx.P.follows .mixedOrders=true):∀(n:Nat) (c:Code) (s:St) (e:Ex) (s' : St),We n cx c s=some (e,s')->(∀p,p∈s'.ob->p)->(∀p,p∈s.ob->p) /\
  ∀(rr:Option Nat) (F:Nat->Prop) (ρ:Nat->Value) (a:Act) (w:World),(s.rnd=false->rr=none)->Sim cx F s ρ a w ->
   Qkn rr cx c (fun H G w'=>H=Jk e/\After cx F s.vis s.nt s.hp ρ w a.defers s'.tm s'.hp G w') a w:=by
 intro n;induction n with
 | zero=>intro c s e s' h;simp[We] at h
 | succ n ih =>
  intro c s e s' h z;have hE:ExOK cx (We n cx):=fun c s e s' h z=>by obtain⟨h1,h2⟩:=ih c s e s' h z;exact⟨h1,fun rr F ρ a w u o=>(h2 rr F ρ a w u o).1⟩
  have U:=XG cx n;have M:=QiE hN hE U;have a8:=Qgc hE U;cases c with
  | skip =>
   simp only[We,jIj,jPj] at h;obtain⟨rfl,rfl⟩:=h;exact⟨z,fun rr F ρ a w u o=>⟨Qhe ⟨rfl,After.refl o⟩,fun _ v=>by cases v⟩⟩
  | label l =>
   simp only[We,jIj,jPj] at h;obtain⟨rfl,rfl⟩:=h;exact⟨z,fun rr F ρ a w u o=>⟨Qge ⟨rfl,After.refl o⟩,fun _ v=>by cases v⟩⟩
  | exit id =>
   simp only[We,jIj,jPj] at h;obtain⟨rfl,rfl⟩:=h;exact⟨z,fun rr F ρ a w u o=>⟨Qhf ⟨rfl,After.refl o⟩,fun _ v=>by cases v⟩⟩
  | ret =>
   simp only[We,jIj,jPj] at h;obtain⟨rfl,rfl⟩:=h;exact⟨z,fun rr F ρ a w u o=>⟨QiH ⟨rfl,After.refl o⟩,fun _ v=>by cases v⟩⟩
  | region id ops draw =>
   simp only[We,St.force_eq] at h;split at h
   ·split at h;case h_2=>cases h
    rename_i s1 J;simp only[jIj,jPj] at h;obtain⟨rfl,rfl⟩:=h;have b7:=Qa3 _ _ _ J z;obtain⟨v1,V,_⟩:=zN (kG U cx) (yU U) _ _ _ J;refine⟨b7,fun rr F ρ a w u o=>⟨fun m=>wpIn_region ?_,fun _ v=>by cases v⟩⟩;have a6:ops.size=ops.toList.length:=by simp
    rw[a6];refine Qb0 M a8 _ _ _ ρ a w J z ⟨o.hs,o.ts,o.nt⟩ fun ρ' G w' K T g3=>⟨rfl,ρ',K.hs,K.ts,?_,by rw[g3];exact DfTo.refl _ _ _,T.toV⟩
    rw[K.nt];exact wF V
   ·split at h;case h_2=>cases h
    rename_i recs ob orc O;split at h;case h_2=>cases h
    rename_i b8;simp only[jIj,jPj] at h;obtain⟨rfl,rfl⟩:=h;have b5:∀(rr:Option Nat) (F:Nat->Prop) (ρ:Nat->Value) (a:Act) (w:World) (o:Sim cx F s ρ a w),_:=fun rr F ρ a w o =>
     Qe4 (rr:=rr) (Q:=fun H G w'=>H=Jk .normal/\After cx F s.vis s.nt s.hp ρ w a.defers (YL recs++s.tm) (WR recs++(X4 ops s).hp) G w') (id:=id) hm M (kG U cx) a8 (by rw[(jE ops s).2.2.2.2.2.1];exact O) b8 z (Qdp ops o).1
      (fun ρ' G w' K T g3 g4 g5=>⟨rfl,ρ',K,by rw[<-(jE ops s).1];exact T,by rw[<-(jE ops s).2.1];exact g3,by rw[g4];exact DfTo.refl _ _ _,((Qdp ops o).2.trans g5).toV⟩)
    refine⟨?_,fun rr F ρ a w u o=>⟨(b5 rr F ρ a w o).1,fun _ v=>by cases v⟩⟩;rw[List.range_eq_range'] at O;exact(wW _ 0 [] recs s.ob ob (X4 ops s).orc orc O z ⟨List.Pairwise.nil,fun r u=>by simp at u,fun j hj=>by omega,fun r u=>by simp at u⟩).2
  | seq x y =>
   simp only[We] at h;split at h
   ·rename_i s1 J;obtain⟨b1,b2⟩:=ih _ _ _ _ h z;obtain⟨A,E⟩:=ih _ _ _ _ J b1;obtain⟨v1,V,_⟩:=U _ _ _ _ J;refine⟨A,fun rr F ρ a w u o=>⟨Qfn (VW (E rr F ρ a w u o).1 ?_),fun _ v=>by cases v⟩⟩;rintro H G w' ⟨rfl,q⟩;obtain⟨ρ',K,T,gd⟩:=q.sim (wF V);refine VW (b2 rr F ρ' G w' (fun h=>u ((Qca V).symm.trans h)) K).1 ?_;rintro H a5 b3 ⟨rfl,h2⟩;rw[v1,wF V] at h2;exact⟨rfl,After.trans T K.hs gd h2⟩
   ·rename_i N;obtain⟨A,E⟩:=ih _ _ _ _ h z;refine⟨A,fun rr F ρ a w u o=>⟨Qfn (VW (E rr F ρ a w u o).1 ?_),fun _ v=>by cases v⟩⟩;rintro H G w' ⟨rfl,q⟩;cases e with
    | normal=>exact absurd h (N s')
    | exit id=>exact⟨rfl,q⟩
    | ret=>exact⟨rfl,q⟩
  | cond x t H =>
   simp only[We] at h;split at h;case h_2=>cases h
   rename_i b hb;have hev:∀(F:Nat->Prop) (ρ:Nat->Value) (a:Act) (w:World),Sim cx F s ρ a w->a.eval x=.bool b:=fun F ρ a w o=>by
    have:=jX o.hs o.ts x;rw[hb] at this;cases this with
    | d _ _ hd=>generalize a.eval x=y at hd;cases hd;rfl
   split at h
   ·obtain⟨A,E⟩:=ih _ _ _ _ h z;have Z:b=true:=A _ jMj;refine⟨fun p hp=>A p (jmj _ hp),fun rr F ρ a w u o=>⟨QcP (hev F ρ a w o) ?_,fun _ v=>by cases v⟩⟩;rw[jTj Z];exact(E rr F ρ a w u (GN o _ _)).1
   ·obtain⟨A,E⟩:=ih _ _ _ _ h z;have Z:b=false:=A _ jMj;refine⟨fun p hp=>A p (jmj _ hp),fun rr F ρ a w u o=>⟨QcP (hev F ρ a w o) ?_,fun _ v=>by cases v⟩⟩;rw[jFj (by rw[Z];simp)];exact(E rr F ρ a w u (GN o _ _)).1
   ·split at h
    ·obtain⟨A,E⟩:=ih _ _ _ _ h z;refine⟨A,fun rr F ρ a w u o=>⟨QaC (hev F ρ a w o) ?_,fun _ v=>by cases v⟩⟩;exact(E rr F ρ a w u (GN o _ s.ob)).1
    ·obtain⟨A,E⟩:=ih _ _ _ _ h z;refine⟨A,fun rr F ρ a w u o=>⟨yV (hev F ρ a w o) ?_,fun _ v=>by cases v⟩⟩;exact(E rr F ρ a w u (GN o _ s.ob)).1
   ·cases h
  | block id body =>
   simp only[We] at h;split at h
   ·rename_i i s1 J;have a9:(∀p,p∈s1.ob->p)->(∀p,p∈s.ob->p)/\∀(rr:Option Nat) (F:Nat->Prop) (ρ:Nat->Value) (a:Act) (w:World),(s.rnd=false->rr=none)->Sim cx F s ρ a w->wpR rr cx.P body (fun H G w'=>H=Jk (.exit i)/\After cx F s.vis s.nt s.hp ρ w a.defers s1.tm s1.hp G w') a w:=fun z=>by obtain⟨A,E⟩:=ih _ _ _ _ J z;exact⟨A,fun rr F ρ a w u o=>(E rr F ρ a w u o).1⟩
    split at h
    ·rename_i L;have hi:i=id:=jqj L;simp only[jIj,jPj] at h;obtain⟨rfl,rfl⟩:=h;obtain⟨A,E⟩:=a9 z;refine⟨A,fun rr F ρ a w u o=>⟨js (VW (E rr F ρ a w u o) ?_),fun _ v=>by cases v⟩⟩;rintro H G w' ⟨rfl,q⟩;simp only[Jk,Exit.inBlock,hi,if_true];exact⟨trivial,q⟩
    ·rename_i L;have hi:i≠id:=Nat.ne_of_beq_eq_false L;simp only[jIj,jPj] at h;obtain⟨rfl,rfl⟩:=h;obtain⟨A,E⟩:=a9 z;refine⟨A,fun rr F ρ a w u o=>⟨js (VW (E rr F ρ a w u o) ?_),fun _ v=>by cases v⟩⟩;rintro H G w' ⟨rfl,q⟩;simp only[Jk,Exit.inBlock,jFj hi];exact⟨trivial,q⟩
   ·rename_i N;obtain⟨A,E⟩:=ih _ _ _ _ h z;refine⟨A,fun rr F ρ a w u o=>⟨js (VW (E rr F ρ a w u o).1 ?_),fun _ v=>by cases v⟩⟩;rintro H G w' ⟨rfl,q⟩;cases e with
    | normal=>exact⟨rfl,q⟩
    | exit i=>exact absurd h (N i s')
    | ret=>exact⟨rfl,q⟩
  | scope body =>
   simp only[We] at h;obtain⟨A,E⟩:=ih _ _ _ _ h z;refine⟨A,fun rr F ρ a w u o=>⟨zG (VW (E rr F ρ a w u o).1 ?_),fun _ v=>by cases v⟩⟩;rintro H G w' ⟨rfl,q⟩;exact QaE ⟨rfl,q⟩
  | loop body =>
   suffices hk:(∀p,p∈s.ob->p)/\∀(rr:Option Nat) (F:Nat->Prop) (ρ:Nat->Value) (a:Act) (w:World),(s.rnd=false->rr=none)->Sim cx F s ρ a w ->
     wpL rr cx.P body (fun H G w'=>H=Jk e/\After cx F s.vis s.nt s.hp ρ w a.defers s'.tm s'.hp G w') a w by
    exact⟨hk.1,fun rr F ρ a w u o=>⟨Qgd (hk.2 rr F ρ a w u o),fun b v=>by cases v;exact hk.2 rr F ρ a w u o⟩⟩
   simp only[We] at h;split at h
   ·split at h;case h_2=>cases h
    rename_i s0 a7;simp only[jIj,jPj] at h;obtain⟨rfl,rfl⟩:=h;have b6:=z _ jMj;refine⟨fun p hp=>z p (jmj _ hp),fun rr F ρ a w u o=>?_⟩;obtain⟨b4,K,T,g3,g4⟩:=kW a7 o;have hl:=b6 rr F b4 a w (fun h=>u ((Qgz a7).symm.trans h)) ⟨K.hs,K.ts,K.nt⟩;intro b k cs a4;obtain⟨H,G,w',⟨q1,q2⟩,q3⟩:=hl b k cs a4;have q2:After cx F s0.vis s0.nt s0.hp b4 w a.defers _ _ G w':=q2;rw[g3,g4] at q2;exact⟨H,G,w',⟨q1,After.trans T K.hs (DfTo.refl _ _ _) q2⟩,q3⟩
   ·split at h
    ·rename_i s1 J;obtain⟨b1,b2⟩:=ih _ _ _ _ h z;obtain⟨A,E⟩:=ih _ _ _ _ J b1;obtain⟨v1,V,_⟩:=U _ _ _ _ J;refine⟨A,fun rr F ρ a w u o=>qJ (VW (E rr F ρ a w u ⟨o.hs,fun t x S=>o.ts t x (Ej _ _ _ _ S).2,o.nt⟩).1 ?_)⟩;rintro H G w' ⟨rfl,q⟩;obtain⟨ρ',K,T,gd⟩:=q.sim (wF V);intro b k cs a4;obtain⟨H,a5,b3,⟨q1,q2⟩,q3⟩:=(b2 rr F ρ' G w' (fun h=>u ((Qca V).symm.trans h)) K).2 body rfl b k cs a4;rw[v1,wF V] at q2;exact⟨H,a5,b3,⟨q1,After.trans T K.hs gd q2⟩,q3⟩
    ·rename_i N;obtain⟨A,E⟩:=ih _ _ _ _ h z;refine⟨A,fun rr F ρ a w u o=>qJ (VW (E rr F ρ a w u ⟨o.hs,fun t x S=>o.ts t x (Ej _ _ _ _ S).2,o.nt⟩).1 ?_)⟩;rintro H G w' ⟨rfl,q⟩;cases e with
     | normal=>exact absurd h (N s')
     | exit id=>exact⟨rfl,q⟩
     | ret=>exact⟨rfl,q⟩
   ·cases h
  | rangeFunc f ps as bd =>
   simp only[We] at h;split at h;case h_2=>cases h
   rename_i g a0 b0 X W C;split at h;case h_2=>cases h
   rename_i s2 S;split at h;case h_3=>cases h
   ·rename_i Y a3;simp only[jIj,jPj] at h;obtain⟨rfl,rfl⟩:=h;simp only[jAj] at C;obtain⟨c1,c2⟩:=wA hN hE U W C.1 C.2 S Y rfl a3 z;refine⟨c1,fun rr F ρ a w u o=>⟨?_,fun _ v=>by cases v⟩⟩;rw[u X];refine VW (c2 F ρ a w o) ?_;rintro H G w' ⟨rfl,ρ',k1,k2,k3,k4,k5⟩;obtain⟨l1,l2⟩:=W6 (Qbg s.nx Blk.dead s2.hp) k1;exact⟨rfl,ρ',l1,fun t x S=>l2.vr (k2 t x S),k3,k4,k5.trans l2.toV⟩
   ·rename_i e Y a3;simp only[jIj,jPj] at h;obtain⟨rfl,rfl⟩:=h;simp only[jAj] at C;obtain⟨c1,c2⟩:=wA hN hE U W C.1 C.2 S Y rfl a3 z;refine⟨c1,fun rr F ρ a w u o=>⟨?_,fun _ v=>by cases v⟩⟩;rw[u X];refine VW (c2 F ρ a w o) ?_;rintro H G w' ⟨rfl,ρ',k1,k2,k3,k4,k5⟩;obtain⟨l1,l2⟩:=W6 (Qbg s.nx Blk.dead s2.hp) k1;exact⟨rfl,ρ',l1,fun t x S=>l2.vr (k2 t x S),k3,k4,k5.trans l2.toV⟩
  | _=>simp only[We] at h;cases h
theorem jk (f:NoAsk cx)(g:cx.P.follows .mixedOrders=true)(n:Nat):ExOK cx (We n cx):=fun c s e s' h i=>by obtain⟨b,d⟩:=Qfg f g n c s e s' h i;exact⟨b,fun rr F ρ a w j k=>(d rr F ρ a w j k).1⟩
variable {cx:Cx}
def All:List Prop->Prop
 | []=>True
 | p::l=>p/\All l
theorem All.mem {l:List Prop}(h:All l):∀p,p∈l->p:=by
 induction l with
 | nil=>intro p hp;cases hp
 | cons q l ih =>
  intro p hp;cases hp with
  | head=>exact h.1
  | tail _ hp=>exact ih h.2 p hp
def Qfu (sym:Bool)(n:Nat)(cx:Cx)(f:FuncId)(a:jVj)(orc:List Orc):Option (D×List Prop) :=
 match KM (We n cx) cx f (a.map .d) { nt:=0,sym,tm:=[],hp:=[],nx:=0,orc,ob:=[],vis:=0,sfx:=true } with
 | some (x,s)=>match x.toDH s.hp with
  | some (r,_)=>some (r,s.ob)
  | none=>none
 | none=>none
theorem Qcv (E:NoAsk cx)(K:cx.P.follows .mixedOrders=true){m:Bool}{n:Nat}{f:FuncId}{j:jVj}{orc:List Orc}{r:D}{ob:List Prop}(h:Qfu m n cx f j orc=some (r,ob))(L:All ob):Computes cx f j r:=by
 unfold Qfu at h;split at h;case h_2=>cases h
 rename_i x s O;split at h;case h_2=>cases h
 rename_i y o Q;simp only[jIj,jPj] at h;obtain⟨rfl,rfl⟩:=h;obtain⟨_,u⟩:=U9 (jk E K n) (XG cx n) O L.mem;intro w F vs A C J N;have l:∀r,MM F [] (fun _=>undef) r->F r:=by
  rintro r (h|⟨b,k,a,_⟩)
  ·exact h
  ·simp[look] at a
 have M:HSim cx F [] (fun _=>undef) w:=⟨fun b k a=>by simp[look] at a,fun b b' k T r a=>by simp[look] at a,fun r ⟨b,k,a,_⟩=>by simp[look] at a,A,
  fun g x H=>(C g x H).ext (jLj _) (fun _ _ _=>rfl) fun r _ h=>l r h⟩
 refine(u F (fun _=>undef) w vs M (by simpa using J) fun i c z hc S=>?_).mono ?_
 ·simp only[List.getElem?_map,Option.map_eq_some_iff] at hc;obtain⟨d,G,rfl⟩:=hc;exact .d _ _ ((N i d z G S).ext (jLj _) (fun _ _ _=>rfl) fun r _ h=>l r h)
 ·rintro e w' ⟨v,rfl,ρ',p,q,t⟩;refine⟨v,rfl,?_,q.ext.mono fun r ⟨b,k,a,_⟩=>by simp[look] at a⟩;have:=Z8 p o x v y o Q (fun _ h=>h) t;exact this.ext (jLj _) (fun _ _ _=>rfl) fun r _ h=>.inl h
def Xk (n:Nat)(cx:Cx)(c:Code)(nt vis:Nat)(rnd:Bool)(nx:Nat)(tm:List (Nat×AV))(hp:List (Nat×Blk))(orc:List Orc)(d b a:List Nat):Option (Ex×List (Nat×AV)×List (Nat×Blk)×List Prop) :=
 match We n cx c { nt,sym:=true,tm,hp,nx,orc,ob:=[],vis,sfx:=true,rnd } with
 | some (e,s)=>match Qbe s d b a with
  | some s'=>some (e,s'.tm,s'.hp,s.ob)
  | none=>none
 | none=>none
inductive Round (n:Nat) (cx:Cx) (c:Code) (nt vis:Nat) (rnd:Bool) (nx:Nat) (tm:List (Nat×AV)) (hp:List (Nat×Blk)) (orc:List Orc) (pr kt kb:List Nat) (e:Ex) (tm' : List (Nat×AV)) (hp' : List (Nat×Blk)):Prop
 | mk (ob:List Prop) (h:Xk n cx c nt vis rnd nx tm hp orc pr kt kb=some (e,tm',hp',ob)) (ho:All ob):Round n cx c nt vis rnd nx tm hp orc pr kt kb e tm' hp'
theorem kQ (C:NoAsk cx)(E:cx.P.follows .mixedOrders=true){n:Nat}{c:Code}{m vis K:Nat}{rnd:Bool}{tm j : List (Nat×AV)}{hp i : List (Nat×Blk)}{orc:List Orc}{L J H:List Nat}{e:Ex}
  (h:Round n cx c m vis rnd K tm hp orc L J H e j i) {F:Nat->Prop} {s:St} {ρ:Nat->Value} {a:Act} {w:World} {rr:Option Nat} (k:rnd=false->rr=none) (l:Sim cx F s ρ a w) (x:s.tm=tm) (y:s.hp=hp) (z:s.nt=m) (A:s.vis=vis) :
  wpR rr cx.P c (fun r q w'=>r=Jk e/\After cx F vis m hp ρ w a.defers j i q w') a w:=by
 subst x y z A;obtain⟨ob,d,G⟩:=h;unfold Xk at d;split at d;case h_2=>cases d
 rename_i T s1 t;split at d;case h_2=>cases d
 rename_i V b;simp only[jIj,jPj] at d;obtain⟨rfl,rfl,rfl,rfl⟩:=d;obtain⟨_,g⟩:=jk C E n _ _ _ _ t G.mem;obtain⟨S,v,_⟩:=XG cx n _ _ _ _ t;refine VW (g rr F ρ a w k ⟨l.hs,l.ts,l.nt⟩) ?_;rintro r q w' ⟨rfl,f⟩;obtain⟨ρ',M,N,O⟩:=f.sim (wF v);obtain⟨p,o,u,U,Q⟩:=kW b M;refine⟨rfl,p,o.hs,o.ts,?_,O,?_⟩
 ·rw[o.nt,Q,wF v]
 ·rw[S] at u;exact N.trans u
theorem Qhy {n:Nat}{c:Code}{g vis i:Nat}{rnd:Bool}{tm b : List (Nat×AV)}{hp a : List (Nat×Blk)}{orc:List Orc}{j f d:List Nat}{e:Ex}{ob:List Prop}
  (h:Xk n cx c g vis rnd i tm hp orc j f d=some (e,b,a,ob)) (k:All ob):Round n cx c g vis rnd i tm hp orc j f d e b a:=by
 exact .mk ob h k
theorem QA:All []:=trivial
theorem Qb {p:Prop}{l:List Prop}(h:p)(t:All l):All (p::l):=⟨h,t⟩
theorem Qdc {n:Nat}{c:Code}{g vis i:Nat}{rnd:Bool}{tm b : List (Nat×AV)}{hp a : List (Nat×Blk)}{orc:List Orc}{j f d:List Nat}{e:Ex}{ob:List Prop}
  (k:All ob) (h:Xk n cx c g vis rnd i tm hp orc j f d=some (e,b,a,ob)):Round n cx c g vis rnd i tm hp orc j f d e b a:=Qhy h k
def KU:Code->List Code
 | .seq a b=>KU a++KU b
 | .cond _ t e=>KU t++KU e
 | .block _ b=>KU b
 | .scope b=>KU b
 | .loop b=>b::KU b
 | .rangeFunc _ _ a b=>KU a++KU b
 | _=>[]
def Zt (P:Program)(f i:Nat):Code:=match P.funcs[f]? with
 | some a=>match a.body with
  | some b=>match nth (KU b) i with
   | some c=>c
   | none=>.skip
  | none=>.skip
 | none=>.skip
def U3:Code->List (Code×Code)
 | .seq a b=>U3 a++U3 b
 | .cond _ t e=>U3 t++U3 e
 | .block _ b=>U3 b
 | .scope b=>U3 b
 | .loop b=>U3 b
 | .rangeFunc _ _ a b=>(a,b)::U3 b
 | _=>[]
def Z3 (P:Program)(f i:Nat):Code×Code:=match P.funcs[f]? with
 | some a=>match a.body with
  | some b=>match nth (U3 b) i with
   | some c=>c
   | none=>(.skip,.skip)
  | none=>(.skip,.skip)
 | none=>(.skip,.skip)
theorem QhL (P:Program)(G:Nat->Option D)(h:(P.funcs.toList.all fun a=>!(a.body.isSome&&(a.name=="runtime.NumGoroutine")))=true):NoAsk { P,G }:=by
 refine⟨fun f a c b=>?_,fun f g i r d=>by cases d⟩;rw[List.all_eq_true] at h;have e:a∈P.funcs.toList:=by have:=Array.mem_of_getElem? c;simpa using this
 have:=h a e;rw[b] at this;simpa using this
abbrev I (n:Int):D:=.v (.int .i64 n)
abbrev B (b:Bool):D:=.v (.bool b)
variable {cx:Cx}
inductive LE:D->D->Prop
 | refl (x:D):LE x x
 | lst (f f' : Bool) (sz sz' : Nat) (es:jVj) (hf:f'=true->f=true) (hs:es=[]\/sz=sz'):LE (.lst f sz es) (.lst f' sz' es)
 | tup (xs ys:jVj) (hl:xs.length=ys.length) (h:∀(i:Nat) (x y:D),xs[i]?=some x->ys[i]?=some y->LE x y):LE (.tup xs) (.tup ys)
 | agg (xs ys:jVj) (hl:xs.length=ys.length) (h:∀(i:Nat) (x y:D),xs[i]?=some x->ys[i]?=some y->LE x y):LE (.agg xs) (.agg ys)
theorem DR.le {w:World}{M:Nat->Prop}{x n : D}(u:LE x n):∀{y:Value},DR w M x y->DR w M n y:=by
 induction u with
 | refl x=>exact fun h=>h
 | lst f f' sz sz' es hf hs =>
  intro y h;cases h with
  | lst _ _ _ a cap blk off ys o p q r s t =>
   refine .lst f' sz' es a cap blk off ys (fun h=>o (hf h)) p q (fun i e d=>?_) (fun i e j c d hc=>?_) (fun i e j c d hc=>?_)
   ·obtain rfl|rfl:=hs
    ·simp at d
    ·exact r i e d
   ·obtain rfl|rfl:=hs
    ·simp at d
    ·exact s i e j c d hc
   ·obtain rfl|rfl:=hs
    ·simp at d
    ·exact t i e j c d hc
 | tup xs ys hl h ih =>
  intro y l;cases l with
  | tup _ vs g m =>
   refine .tup ys vs (hl ▸ g) fun i c v hc k=>?_;have b:i<xs.length:=by rw[hl];exact(jGj hc).1
   exact ih i xs[i] c (by simp[b]) hc (m i xs[i] v (by simp[b]) k)
 | agg xs ys hl h ih =>
  intro y l;cases l with
  | agg _ vs g m =>
   refine .agg ys vs (hl ▸ g) fun i c v hc k=>?_;have b:i<xs.length:=by rw[hl];exact(jGj hc).1
   exact ih i xs[i] c (by simp[b]) hc (m i xs[i] v (by simp[b]) k)
inductive LEs:jVj->jVj->Prop
 | nil:LEs [] []
 | cons {x y:D} {xs ys:jVj} (h:LE x y) (t:LEs xs ys):LEs (x::xs) (y::ys)
theorem LEs.length {xs ys:jVj}(h:LEs xs ys):xs.length=ys.length:=by induction h with
 | nil=>rfl
 | cons _ _ ih=>simp[ih]
theorem LEs.get {xs ys:jVj}(h:LEs xs ys):∀(i:Nat) (x y:D),xs[i]?=some x->ys[i]?=some y->LE x y:=by
 induction h with
 | nil=>intro i x y a;simp at a
 | cons h _ ih =>
  intro i x y a b;cases i with
  | zero=>simp at a b;subst a;subst b;exact h
  | succ i=>exact ih i x y (by simpa using a) (by simpa using b)
theorem LE.tups {xs ys:jVj}(h:LEs xs ys):LE (.tup xs) (.tup ys):=.tup xs ys h.length h.get
theorem LE.aggs {xs ys:jVj}(h:LEs xs ys):LE (.agg xs) (.agg ys):=.agg xs ys h.length h.get
theorem LE.full (f:Bool)(sz:Nat)(es:jVj):LE (.lst f sz es) (.lst false sz es):=.lst _ _ _ _ _ nofun (.inr rfl)
theorem LE.nilF {f:Bool}{sz a : Nat}:LE (.lst f sz []) (.lst false a []):=.lst _ _ _ _ _ nofun (.inl rfl)
theorem LE.none (f:Bool)(sz a : Nat):LE (.lst f sz []) (.lst f a []):=.lst _ _ _ _ _ id (.inl rfl)
theorem LEs.refl:∀xs:jVj,LEs xs xs
 | []=>.nil
 | _::xs=>.cons (.refl _) (LEs.refl xs)
theorem Computes.le {f:FuncId}{b a : jVj}{r j : D}(h:Computes cx f b r)(g:LEs a b)(q:LE r j):Computes cx f a j:=by
 intro w F vs n o p s;refine(h w F vs n o (by rw[<-g.length];exact p) fun i c y hc t=>?_).mono ?_
 ·have d:i<a.length:=by rw[g.length];exact(jGj hc).1
  exact DR.le (g.get i a[i] c (by simp[d]) hc) (s i a[i] y (by simp[d]) t)
 ·rintro e w' ⟨y,k,l,m⟩;exact⟨y,k,DR.le q l,m⟩
variable {cx:Cx}
instance (n:Int):Decidable (Qg n):=by unfold Qg;infer_instance
theorem Qcn {a:Type}{p:Prop}[Decidable p]{x:Option a}{r:a}(h:(if p then x else none)=some r):p/\x=some r:=by
 by_cases hp:p
 ·rw[jTj hp] at h;exact⟨hp,h⟩
 ·rw[jFj hp] at h;cases h
theorem U7 {a:Type}{p:Prop}[Decidable p]{x y:Option a}{r:a}(h:(if p then x else y)=some r)(hp:p):x=some r:=by rwa [jTj hp] at h
theorem U8 {a:Type}{p:Prop}[Decidable p]{x y:Option a}{r:a}(h:(if p then x else y)=some r)(hp:¬p):y=some r:=by rwa [jFj hp] at h
theorem Wh {a b:Type}{x:Option a}{f:a->Option b}{r:b}(h:x.bind f=some r):∃t,x=some t/\f t=some r:=Option.bind_eq_some_iff.1 h
theorem eqt {a b:Int}(h:a=b):(a==b)=true:=by simpa using h
theorem eqf {a b:Int}(h:¬a=b):(a==b)=false:=by simpa using h
theorem net {a b:Int}(h:¬a=b):(a != b)=true:=by simpa using h
theorem nef {a b:Int}(h:a=b):(a != b)=false:=by simpa using h
theorem Zy {b:Bool}(h:¬b=true):b=false:=by simpa using h
theorem wG {b:Bool}(h:b=false):(!b)=true:=by simp[h]
theorem zV {b:Bool}(h:b=true):(!b)=false:=by simp[h]
def Zv (a b:Int):Int:=if b<a then b else a
theorem GS (a b:Int):Zv a b=min a b:=by unfold Zv;omega
def Wi (b n:Nat):Prop:=n*b<=140737488355328
instance (b n:Nat):Decidable (Wi b n):=by unfold Wi;infer_instance
theorem Qfv {e b n:Nat}(c:cx.bytes e=some b)(a:0<b)(h:Wi b n):room cx e n:=by unfold room;rw[c];exact⟨h,a⟩
def YZ (k:IntKind):D->Option Int
 | .v (.int k' n)=>if k'=k then some n else none
 | _=>none
theorem Vj {k:IntKind}{d:D}{x:Int}(h:YZ k d=some x):d=.v (.int k x):=by
 unfold YZ at h;split at h
 ·split at h
  ·rename_i a;cases h;rw[a]
  ·cases h
 ·cases h
def wv:D->Option Bool
 | .v (.bool b)=>some b
 | _=>none
theorem zH {d:D}{x:Bool}(h:wv d=some x):d=.v (.bool x):=by
 unfold wv at h;split at h
 ·cases h;rfl
 ·cases h
def JY:D->Option jSj
 | .v (.string s)=>some s
 | _=>none
theorem UM {d:D}{x:jSj}(h:JY d=some x):d=.v (.string x):=by
 unfold JY at h;split at h
 ·cases h;rfl
 ·cases h
abbrev FnD:=Fn×jVj×jVj
def QbQ:D->Option FnD
 | .fn f a c=>some (f,a,c)
 | _=>none
theorem QaX {d:D}{x:FnD}(h:QbQ d=some x):d=.fn x.1 x.2.1 x.2.2:=by
 unfold QbQ at h;split at h
 ·cases h;rfl
 ·cases h
def jt (sz:Nat):D->Option (jVj)
 | .lst false s es=>if s=sz then some es else none
 | _=>none
theorem qK {sz:Nat}{d:D}{x:jVj}(h:jt sz d=some x):d=.lst false sz x:=by
 unfold jt at h;split at h
 ·split at h
  ·rename_i a;cases h;rw[a]
  ·cases h
 ·cases h
def el {a:Type}(un:D->Option a)(es:jVj)(i:Int):Option a:=if 0<=i then(nth es i.toNat).bind un else none
theorem Q0 {a:Type}{un:D->Option a}{enc:a->D}(b:∀{d:D} {x:a},un d=some x->d=enc x){es:jVj}{i:Nat}{x:a}(h:(nth es i).bind un=some x):nth es i=some (enc x):=by obtain⟨d,c,e⟩:=Wh h;rw[c,b e]
theorem Qf0 {a:Type}{un:D->Option a}{enc:a->D}(b:∀{d:D} {x:a},un d=some x->d=enc x){es:jVj}{i:Int}{x:a}(h:el un es i=some x):0<=i/\nth es i.toNat=some (enc x):=by
 unfold el at h;split at h
 ·rename_i hi;exact⟨hi,Q0 b h⟩
 ·cases h
def QU {S E:Type}(step:S->Option (S⊕E)):Nat->S->Option E
 | 0,_=>none
 | n+1,s=>match step s with
  | none=>none
  | some (.inl s')=>QU step n s'
  | some (.inr e)=>some e
def Rd {S E:Type}(cx:Cx)(c:Code)(g vis:Nat)(rnd:Bool)(T:S->List (Nat×AV))(H:S->List (Nat×Blk))(X:E->Ex)(i:E->List (Nat×AV))(h:E->List (Nat×Blk))(s:S):S⊕E->Prop
 | .inl s'=>∃n d orc f b a,Round n cx c g vis rnd d (T s) (H s) orc f b a .normal (T s') (H s')
 | .inr e=>(∃n d orc f b a,Round n cx c g vis rnd d (T s) (H s) orc f b a (X e) (i e) (h e))/\X e≠.normal
theorem QgF (j:NoAsk cx)(l:cx.P.follows .mixedOrders=true){c:Code}{n i vis q:Nat}{rnd:Bool}{tm f : List (Nat×AV)}{hp d : List (Nat×Blk)}{orc:List Orc}{r p o:List Nat}{e:Ex}
  (k:Round n cx c i vis rnd q tm hp orc r p o e f d) (g:e≠.normal):QaA cx c i vis rnd tm hp e f d:=by
 intro rr F ρ a w h m;refine qJ (VW (kQ j l k h m rfl rfl rfl rfl) ?_);rintro t s w' ⟨rfl,b⟩;cases e with
 | normal=>exact absurd rfl g
 | exit id=>exact⟨rfl,b⟩
 | ret=>exact⟨rfl,b⟩
theorem QgE (z:NoAsk cx)(C:cx.P.follows .mixedOrders=true){c:Code}{n nt vis nx:Nat}{rnd:Bool}{tm f l : List (Nat×AV)}{hp d i : List (Nat×Blk)}{orc:List Orc}{J H G:List Nat}{e:Ex}
  (A:Round n cx c nt vis rnd nx tm hp orc J H G .normal f d) (h:QaA cx c nt vis rnd f d e l i):QaA cx c nt vis rnd tm hp e l i:=by
 intro rr F ρ a w j E;refine qJ (VW (kQ z C A j E rfl rfl rfl rfl) ?_);rintro s r w' ⟨rfl,g⟩;obtain⟨ρ',t,u,v,x,y⟩:=g;have k:Sim cx F { nt,sym:=true,tm:=f,hp:=d,nx:=0,orc:=[],ob:=[],vis,sfx:=true,rnd } ρ' r w':=⟨t,u,v⟩
 have:=h rr F ρ' r w' j k;intro b q cs o;obtain⟨s,m,p,⟨K,L⟩,M⟩:=this b q cs o;refine⟨s,m,p,⟨K,?_⟩,M⟩;exact After.trans y t x L
theorem QdK (a:NoAsk cx)(d:cx.P.follows .mixedOrders=true){S E:Type}{c:Code}{k vis:Nat}{rnd:Bool}{T:S->List (Nat×AV)}{H:S->List (Nat×Blk)}{X:E->Ex}{j:E->List (Nat×AV)}{i:E->List (Nat×Blk)}
  {step:S->Option (S⊕E)} (g:∀s r,step s=some r->Rd cx c k vis rnd T H X j i s r):∀(n:Nat) (s:S) (e:E),QU step n s=some e->QaA cx c k vis rnd (T s) (H s) (X e) (j e) (i e)
 | 0,s,e,h=>by cases h
 | n+1,s,e,h=>by
  unfold QU at h;split at h
  ·cases h
  ·rename_i s' o;obtain⟨m,u,orc,v,t,q,b⟩:=g _ _ o;have p:=QdK a d g n s' e h;exact QgE a d b p
  ·rename_i w l;cases h;obtain⟨⟨m,u,orc,v,t,q,b⟩,f⟩:=g _ _ l;exact QgF a d b f
theorem Qch {a:Type}{un:D->Option a}{enc:a->D}(b:∀{d:D} {x:a},un d=some x->d=enc x){k:Value}{es:jVj}{x:a}(h:(W5 k es).bind un=some x):W5 k es=some (enc x):=by obtain⟨d,c,e⟩:=Wh h;rw[c,b e]
theorem mno {k:Value}{es:jVj}(h:¬(W5 k es).isSome=true):W5 k es=none:=by
 cases hm:W5 k es with
 | none=>rfl
 | some x=>rw[hm] at h;exact absurd rfl h
theorem qU {k:Value}{z x:D}{es:jVj}(a:mok k es=true)(h:W5 k es=some x):YX true k z es=some (.tup [x,B true]):=by unfold YX;rw[a,h]
theorem Qsb {k:Value}{z x:D}{es:jVj}(a:mok k es=true)(h:W5 k es=some x):YX false k z es=some x:=by unfold YX;rw[a,h]
theorem Gb {k:Value}{z:D}{es:jVj}(a:mok k es=true)(h:W5 k es=none):YX true k z es=some (.tup [z,B false]):=by unfold YX;rw[a,h]
theorem QrW {k:Value}{z:D}{es:jVj}(a:mok k es=true)(h:W5 k es=none):YX false k z es=some z:=by unfold YX;rw[a,h]
theorem QdG {ok:Bool}{z r:D}{es:jVj}{k c:jSj}{l:List UInt8}(h:k.data.toList=l)(hc:c.data.toList=l)(a:YX ok (.string c) z es=some r):YX ok (.string k) z es=some r:=by
 have:k=c:=by cases k;cases c;simp only[ByteArray.mk.injEq];exact Array.toList_inj.1 (h.trans hc.symm)
 rw[this];exact a
def AllK (cx:Cx):List (Nat×jVj×D)->Prop
 | []=>True
 | p::l=>Computes cx p.1 p.2.1 p.2.2/\AllK cx l
theorem AllK.mem {cx:Cx}:∀{l:List (Nat×jVj×D)},AllK cx l->∀p,p∈l->Computes cx p.1 p.2.1 p.2.2
 | [],_,p,h=>by cases h
 | q::l,hh,p,h=>by
  cases h with
  | head=>exact hh.1
  | tail _ h=>exact AllK.mem hh.2 p h
def UY (s:jSj)(i:Int):Option Int:=match (if 0<=i then s[i.toNat]? else none) with
 | some b=>some (b.toNat:Int)
 | none=>none
theorem QgK {P:Program}{t:TypeId}(c:P.underlying t=some .string){s:jSj}{i x:Int}(h:UY s i=some x):Zu P (Instr.index t (.string s) (.int .i64 i))=some (.int .u8 x):=by
 unfold UY at h;have e:Zu P (Instr.index t (.string s) (.int .i64 i))=Zu P ((match P.underlying t with
  | some d=>pure d
  | none=>stuck "no such type") >>= fun d=>match d,(Value.string s) with
  | .array len elem,.agg cs=>(if 0<=i/\i<len then do part elem cs (i.toNat*(<-sizeOf elem)) else boundsPanic .i64 i len .index)
  | .string,.string s=>(match (if 0<=i then s[i.toNat]? else none) with
   | some b=>pure (.int .u8 b.toNat)
   | none=>boundsPanic .i64 i s.size .index)
  | _,_=>stuck "Index: array or string expected"):=rfl
 rw[e,c];split at h
 ·rename_i b a;cases h;simp only[pure_bind,a];rfl
 ·cases h
def XY (s:jSj)(lo hi:Option Int):Option jSj :=
 if 0<=lo.getD 0/\lo.getD 0<=hi.getD s.size/\hi.getD s.size<=(s.size:Int) then some (s.extract (lo.getD 0).toNat (hi.getD s.size).toNat) else none
theorem Qgn {P:Program}{t:TypeId}(j:P.underlying t=some .string){s x:jSj}{lo hi:Option Int}(h:XY s lo hi=some x) :
  Zu P (Instr.sliceAt t (.string s) (lo.map (.int .i64)) (hi.map (.int .i64)) none)=some (.string x):=by
 unfold XY at h
 split at h
 case isFalse=>cases h
 rename_i f
 simp only[jIj] at h
 have bnd:∀(i:Int) (y:Nat) (c:BoundsCode),0<=i->i<=y->Instr.sliceBound (.int .i64 i) y c=pure i.toNat:=by
  intro i y c g p
  simp[Instr.sliceBound,asIntOf,g,p]
 have e:Zu P (Instr.sliceAt t (.string s) (lo.map (.int .i64)) (hi.map (.int .i64)) none)=Zu P ((match P.underlying t with
  | some d=>pure d
  | none=>stuck "no such type") >>= fun d=>match d with
  | .array n elem=>do
   let a <-Instr.sureAddr (.string s)
   let (l,h,m) <-Instr.sliceBounds false n n (lo.map (.int .i64)) (hi.map (.int .i64)) none
   let size <-sizeOf elem
   pure (.slice (some (if m=l then a else a.add (l*size))) (h - l) (m - l))
  | _=>Instr.slice t (.string s) (lo.map (.int .i64)) (hi.map (.int .i64)) none):=rfl
 rw[e,j]
 simp only[pure_bind]
 have k:Zu P (Instr.slice t (.string s) (lo.map (.int .i64)) (hi.map (.int .i64)) none)=Zu P ((match P.underlying t with
  | some d=>pure d
  | none=>stuck "no such type") >>= fun d=>match d,(Value.string s) with
  | .string,.string s=>do
   if(none:Option Value).isSome then stuck "Slice: full slice of a string"
   let (l,h,_) <-Instr.sliceBounds false s.size s.size (lo.map (.int .i64)) (hi.map (.int .i64)) none
   pure (.string (s.extract l h))
  | .slice elem,.slice a len cap=>do
   let (l,h,m) <-Instr.sliceBounds true len cap (lo.map (.int .i64)) (hi.map (.int .i64)) none
   let size <-sizeOf elem
   pure (.slice (if m=l then a else a.map (·.add (l*size))) (h - l) (m - l))
  | .pointer arr,x=>do
   let a <-asAddr x
   let .array n elem <-underlying arr|stuck "Slice: array type expected"
   let (l,h,m) <-Instr.sliceBounds false n n (lo.map (.int .i64)) (hi.map (.int .i64)) none
   let size <-sizeOf elem
   pure (.slice (some (if m=l then a else a.add (l*size))) (h - l) (m - l))
  | _,_=>stuck "Slice: string, slice or pointer to array expected"):=rfl
 rw[k,j]
 simp only[pure_bind]
 cases lo with
 | none =>
  cases hi with
  | none =>
   simp only[Option.getD_none,jtj,Int.toNat_zero] at h f
   subst h
   simp[Instr.sliceBounds]
   rfl
  | some b =>
   simp only[Option.getD_none,Option.getD_some,Int.toNat_zero] at h f
   subst h
   simp[Instr.sliceBounds,bnd b s.size _ f.2.1 f.2.2]
   rfl
 | some a =>
  cases hi with
  | none =>
   simp only[Option.getD_none,Option.getD_some,jtj] at h f
   subst h
   simp[Instr.sliceBounds,bnd a s.size _ f.1 f.2.1]
   rfl
  | some b =>
   simp only[Option.getD_some] at h f
   subst h
   have o:0<=b:=by omega
   have g:a<=(b.toNat:Int):=by omega
   simp[Instr.sliceBounds,bnd b s.size _ o f.2.2,bnd a b.toNat _ f.1 g]
   rfl
variable {cx:Cx}
def objB (b:Nat):Option (List OC)->Nat
 | some _=>0
 | none=>b
def QfE:Option (List OC)->Nat
 | some cs=>cs.length+1
 | none=>0
def outO (a H:List (Nat×Blk))(b m:Nat)(ss:List OC)(ks:List Bool)(x:AV):Option (AV×List OC):=match x.argO H (some b),look H b with
 | some (r,c),some (.box y)=>match y.cells,Gi y with
  | some cells,true=>match YT H m cells ss with
   | some (cs,ns,d)=>match E3 b (c++d) ns&&G9 a 1 ks ns with
    | true=>some (r,cs)
    | false=>none
   | none=>none
  | _,_=>none
 | _,_=>none
def Qb2 (sym:Bool)(n:Nat)(cx:Cx)(f:FuncId)(a:List AV)(i:Option (List OC))(b:Nat)(ss:List OC)(ks:List Bool)(orc:List Orc):Option (AV×List OC×List Prop) :=
 match KM (We n cx) cx f a { nt:=0,sym,tm:=[],hp:=Yo i,nx:=QfE i,orc,ob:=[],vis:=QfE i,sfx:=true } with
 | some (x,s)=>match outO (Yo i) s.hp (objB b i) s.nx ss ks x with
  | some (r,cs)=>some (r,cs,s.ob)
  | none=>none
 | none=>none
abbrev Qhw (n:Nat)(cx:Cx)(f:FuncId)(a:List AV)(i:Option (List OC))(b:Nat)(ss:List OC)(ks:List Bool)(orc:List Orc):Option (AV×List OC×List Prop):=Qb2 true n cx f a i b ss ks orc
theorem HSim.subF {F e : Nat->Prop}{hp:List (Nat×Blk)}{ρ:Nat->Value}{w:World}(h:HSim cx e hp ρ w)(a:∀r,F r->e r):HSim cx F hp ρ w :=
 ⟨fun b k f=>(h.blk b k f).ext (jLj _) (fun _ _ _=>rfl) (fun r _ c=>c.imp (a r) id) (Grows.refl _ _) rfl (fun _ _ _=>rfl),h.inj,fun r d i=>h.forb r d (a r i),fun r d=>h.bnd r (a r d),
  fun g x j=>(h.glob g x j).ext (jLj _) (fun _ _ _=>rfl) fun r _ c=>c.imp (a r) id⟩
theorem QaM (hN:NoAsk cx)(O:cx.P.follows .mixedOrders=true){U:Bool}{n:Nat}{f:FuncId}{g:List AV}{i:Option (List OC)}{b:Nat}{ss:List OC}{ks:List Bool}{orc:List Orc}{r:AV}{cs:List OC}{ob:List Prop}
  (h:Qb2 U n cx f g i b ss ks orc=some (r,cs,ob)) (ho:All ob):ComputesO cx f g i r cs ks:=by
 unfold Qb2 at h;split at h;case h_2=>cases h
 rename_i x s hx;split at h;case h_2=>cases h
 rename_i r1 Y a;simp only[jIj,jPj] at h;obtain⟨rfl,rfl,rfl⟩:=h;unfold outO at a;split at a;case h_2=>cases a
 rename_i T o y A H;split at a;case h_2=>cases a
 rename_i cells hc M;split at a;case h_2=>cases a
 rename_i c ns p C;split at a;case h_2=>cases a
 rename_i d;simp only[jAj] at d;obtain⟨d,N⟩:=d;simp only[jIj,jPj] at a;obtain⟨rfl,rfl⟩:=a;obtain⟨_,L⟩:=U9 (jk hN O n) (XG cx n) hx ho.mem;intro w F ρ vs hs hl hv;refine(L F ρ w vs hs hl hv).mono ?_;rintro e w' ⟨v,rfl,ρ',S,E,q3⟩;obtain⟨g1,g2⟩:=S.freeze (o++p);obtain⟨ρc,V,W,o3,_,o5⟩:=QeC S (fz:=o++p) H hc M C (fun q k=>List.mem_append.2 (.inr k)) d;have hM:∀r,MM F (Zx c) ρc r->MM F (Qd s.hp (o++p)++s.hp) ρ' r:=fun r A=>A.imp id (W r);refine⟨v,ρc,rfl,o3.subF fun r A=>.inl A,?_,E.ext,fun q k O=>?_,fun hi=>?_⟩
 ·exact Qar S (fz:=o++p) (bo:=some (objB b i)) hM (fun b0 h=>by cases h;exact⟨⟨y,H⟩,⟨_,ZX c⟩,V⟩) x v T o A (fun q k=>List.mem_append.2 (.inl k)) q3
 ·exact E.mt q k (g2.mt q (Nat.lt_of_lt_of_le k E.ext.size) (W q O))
 ·cases i with
  | none=>cases hi
  | some cs0 =>
   refine⟨?_,fun j szj esj hj Q=>?_⟩
   ·rw[V];obtain⟨k',m,_,J⟩:=E.grow 0 _ (by simp[QfE]) (ZX cs0);simp only[objB] at H;rw[H] at m;cases m;exact J rfl
   ·have sp:=Y0 cells ss s.nx c ns p C;obtain⟨G,k0,K⟩:=(Ec 1 ks ns N j hj).resolve_left (fun e=>by obtain⟨n',v',l,_⟩:=sp.row j szj esj Q;rw[e] at l;cases l)
    rw[o5 j (1+j) 0 G];have t:j<c.length:=by have:=(jGj G).1;rw[sp.nm.len,sp.lenS,<-sp.len] at this;exact this
    cases hc2:c[j] with
    | dat z =>
     have:=(sp.dat j z (by rw[jej t,hc2])).1;rw[G] at this;cases this
    | row sz es =>
     obtain⟨n',v',l,X⟩:=sp.row j sz es (by rw[jej t,hc2]);rw[G] at l;cases l;obtain⟨u,r1,T,r3⟩|⟨z,_,_,_,_,r⟩:=X
     ·obtain rfl:u=0:=by omega
      simp only[Yo] at K;obtain⟨h0,_⟩|⟨i',a0,Z,h0,h1,L⟩:=GR K
      ·omega
      ·subst L;obtain⟨k',m,_,J⟩:=E.grow (1+j) _ (by have:=(jGj h1).1;simp only[QfE];omega) K
       rw[T] at m;cases m;rw[Nat.add_comm j 1];exact J rfl
     ·cases r
inductive OLEs:List OC->List OC->Prop
 | nil:OLEs [] []
 | same (c:OC) {l m:List OC} (t:OLEs l m):OLEs (c::l) (c::m)
 | dat {x y:D} (h:LE x y) {l m:List OC} (t:OLEs l m):OLEs (.dat x::l) (.dat y::m)
theorem OLEs.refl:∀l:List OC,OLEs l l
 | []=>.nil
 | c::l=>.same c (OLEs.refl l)
theorem OLEs.len {l m:List OC}(h:OLEs l m):l.length=m.length:=by
 induction h with
 | nil=>rfl
 | same _ _ ih=>simp[ih]
 | dat _ _ ih=>simp[ih]
theorem OLEs.get {l m:List OC}(h:OLEs l m):∀(i:Nat) (c:OC),m[i]?=some c->l[i]?=some c\/∃x y,l[i]?=some (.dat x)/\c=.dat y/\LE x y:=by
 induction h with
 | nil=>intro i c h;simp at h
 | same c0 _ ih =>
  intro i c h;cases i with
  | zero=>exact .inl (by simpa using h)
  | succ i=>simpa using ih i c (by simpa using h)
 | dat hxy _ ih =>
  intro i c h;cases i with
  | zero =>
   simp only[jzj,jIj] at h;subst h;exact .inr ⟨_,_,rfl,rfl,hxy⟩
  | succ i=>simpa using ih i c (by simpa using h)
theorem OLEs.rows {l m:List OC}(h:OLEs l m):∀i:Nat,J9 i l=J9 i m:=by
 induction h with
 | nil=>intro i;rfl
 | same c _ ih=>intro i;cases c<;>simp[J9,ih]
 | dat _ _ ih=>intro i;simp[J9,ih]
theorem OLEs.look {l m:List OC}(h:OLEs l m){n:Nat}(a:n≠0):look (Zx l) n=look (Zx m) n:=by rw[Zx,Zx,Qc _ _ (Ne.symm a),Qc _ _ (Ne.symm a),h.rows 1]
theorem LE.one {x y:D}(h:LE x y)(a:(AV.d x).isOne=true):(AV.d y).isOne=true:=by
 cases h with
 | refl=>exact a
 | lst=>rfl
 | tup=>simp[AV.isOne] at a
 | agg=>simp[AV.isOne] at a
theorem OLEs.mut {l m:List OC}(h:OLEs l m){ρ:Nat->Value}{r:Nat}:Mut (Zx m) ρ r↔Mut (Zx l) ρ r:=by
 constructor
 ·rintro⟨b,k,d,e,a⟩;by_cases c:b=0
  ·subst c;exact⟨0,_,ZX l,rfl,a⟩
  ·exact⟨b,k,by rw[h.look c];exact d,e,a⟩
 ·rintro⟨b,k,d,e,a⟩;by_cases c:b=0
  ·subst c;exact⟨0,_,ZX m,rfl,a⟩
  ·exact⟨b,k,by rw[<-h.look c];exact d,e,a⟩
theorem Qgy {F:Nat->Prop}{cs:List OC}{ρ:Nat->Value}{w:World}(h:HSim cx F (Zx cs) ρ w) :
  ∃r e,∃ys:List Value,ρ 0=.pointer (some ⟨r,0,none⟩)/\w.heap[r]?=some (.cells ys.toArray e (0,0))/\ys.length=cs.length /\
   (∀(i:Nat) (c:AV),(G8 1 cs)[i]?=some c->c.isOne=true) /\
   ∀(i:Nat) (c:AV) (y:Value),(G8 1 cs)[i]?=some c->ys[i]?=some y->VR w (MM F (Zx cs) ρ) (Zx cs) ρ c y:=by
 obtain⟨r,e,v,K,G,H,g,m⟩:=h.blk 0 _ (ZX cs);obtain⟨L,J,M⟩:=Yp g m;unfold AV.norm at g m;cases a:(AV.agg (G8 1 cs)).toD with
 | some y =>
  simp only[a] at g m;simp only[AV.toD] at a;split at a;case h_2=>cases a
  rename_i k q;simp only[jIj] at a;subst a;have C:∀(l:List AV) (k:jVj),Ju l=some k->(∀(i:Nat) (c:AV),l[i]?=some c->(∃x,c=.d x)\/∃b u,c=.own b u)->l=k.map .d:=by
   intro l;induction l with
   | nil=>intro k h _;simp only[Ju,jIj] at h;subst h;rfl
   | cons x l ih =>
    intro k h E;simp only[Ju] at h;split at h;case h_2=>cases h
    rename_i y ys a A;simp only[jIj] at h;subst h;obtain⟨z,rfl⟩|⟨b,u,rfl⟩:=E 0 x rfl
    ·simp only[AV.toD,jIj] at a;subst a;rw[jCj,<-ih ys A fun i c hc=>E (i+1) c (by simpa using hc)]
    ·simp[AV.toD] at a
  have f:=C _ _ q fun i c hc=>by
   rw[VK] at hc;split at hc
   ·cases hc
   ·cases hc;exact .inl ⟨_,rfl⟩
   ·cases hc;exact .inr ⟨_,_,rfl⟩
  have o:=KX g;cases m with
  | d _ _ p =>
   cases p with
   | agg _ ys t s =>
    refine⟨r,e,ys,G,H,by rw[<-t,<-K8 cs 1,f,jlj],fun i c hc=>?_,fun i c y hc a=>?_⟩
    ·refine Yi J (j:=i) ?_;rw[o];show(k.map AV.d)[i]?=some c;rw[<-f];exact hc
    ·rw[f,List.getElem?_map,Option.map_eq_some_iff] at hc;obtain⟨d,p,rfl⟩:=hc;exact .d _ _ (s i d y p a)
 | none =>
  simp only[a] at g m;simp only[AV.cells] at g;split at g;case h_2=>cases g
  rename_i n;simp only[jIj] at g;subst g;cases m with
  | agg _ ys t s=>exact⟨r,e,ys,G,H,by rw[<-t,K8],fun i c hc=>Yi n hc,s⟩
theorem HSim.objLE {F:Nat->Prop}{l m:List OC}{ρ:Nat->Value}{w:World}(h:HSim cx F (Zx l) ρ w)(n:OLEs l m):HSim cx F (Zx m) ρ w:=by
 have j:∀r,MM F (Zx m) ρ r->MM F (Zx l) ρ r:=fun r K=>K.imp id n.mut.1;refine⟨fun b k C=>?_,fun b b' k L r p s X Y r1 r2=>?_,fun r K=>h.forb r (n.mut.1 K),h.bnd,fun g x V=>(h.glob g x V).ext (jLj _) (fun _ _ _=>rfl) fun r _ q=>j r q⟩
 ·obtain⟨rfl,rfl⟩|⟨i,sz,es,rfl,hc,rfl⟩:=GR C
  ·obtain⟨r,e,ys,Z,p2,p3,N,M⟩:=Qgy h;have u:Vw (G8 1 m)=true:=by
    have:∀(l:List AV),(∀(i:Nat) (c:AV),l[i]?=some c->c.isOne=true)->Vw l=true:=by
     intro l;induction l with
     | nil=>intro _;rfl
     | cons x l ih=>intro h;simp only[Vw,jAj];exact⟨h 0 x rfl,ih fun i c hc=>h (i+1) c (by simpa using hc)⟩
    refine this _ fun i c hc=>?_;rw[VK] at hc;split at hc
    ·cases hc
    ·rename_i y v;cases hc;obtain a|⟨x,O,a,p,s⟩:=n.get i _ v
     ·exact N i _ (by rw[VK,a])
     ·cases p;exact s.one (N i (.d x) (by rw[VK,a]))
    ·cases hc;rfl
   obtain⟨G,t⟩:=Option.isSome_iff_exists.1 (zW u);refine⟨r,e,.agg ys.toArray,G,Z,p2,t,Ug (.agg _ ys (by rw[K8,p3,n.len]) fun i c y hc v=>?_)⟩;rw[VK] at hc;split at hc
   ·cases hc
   ·rename_i z E;cases hc;obtain a|⟨x,O,a,p,s⟩:=n.get i _ E
    ·have:=M i (.d z) y (by rw[VK,a]) v;cases this with
     | d _ _ H=>exact .d _ _ (H.ext (jLj _) (fun _ _ _=>rfl) fun r _ q=>j r q)
    ·cases p;have:=M i (.d x) y (by rw[VK,a]) v;cases this with
     | d _ _ H=>exact .d _ _ (DR.le s (H.ext (jLj _) (fun _ _ _=>rfl) fun r _ q=>j r q))
   ·rename_i sz es E;cases hc;obtain a|⟨x,O,a,p,s⟩:=n.get i _ E
    ·have:=M i (.own (1+i) 0) y (by rw[VK,a]) v;cases this with
     | own _ _ k _ o hv J W =>
      rw[Nat.add_comm,Kz a] at o;cases o;exact .own _ 0 _ _ (by rw[Nat.add_comm];exact Kz E) (jLj _) J fun _=>W rfl
    ·cases p
  ·have a:=C;rw[<-n.look (by omega)] at a;have:=h.blk (i+1) _ a;exact this.ext (jLj _) (fun _ _ _=>rfl) (fun r _ q=>j r q) (hp:=Zx l) ⟨fun b k o=>by
    by_cases f:b=0
    ·subst f;rw[ZX] at o;cases o;exact⟨_,ZX m,jLj _,fun _=>rfl⟩
    ·exact⟨k,by rw[<-n.look f];exact o,jLj _,fun _=>rfl⟩⟩ rfl (fun _ _ _=>rfl)
 ·have A:∀{b:Nat} {k:Blk},look (Zx m) b=some k->k.live=true->∃L,look (Zx l) b=some L/\L.live=true:=by
   intro b k C o;by_cases f:b=0
   ·subst f;exact⟨_,ZX l,rfl⟩
   ·exact⟨k,by rw[n.look f];exact C,o⟩
  obtain⟨P,Q,S⟩:=A p X;obtain⟨b1,T,U⟩:=A s Y;exact h.inj b b' P b1 r Q T S U r1 r2
inductive ALE:AV->AV->Prop
 | refl (x:AV):ALE x x
 | d {x y:D} (h:LE x y):ALE (.d x) (.d y)
inductive ALEs:List AV->List AV->Prop
 | nil:ALEs [] []
 | cons {x y:AV} {xs ys:List AV} (h:ALE x y) (t:ALEs xs ys):ALEs (x::xs) (y::ys)
theorem ALEs.refl:∀xs:List AV,ALEs xs xs
 | []=>.nil
 | _::xs=>.cons (.refl _) (ALEs.refl xs)
theorem ALEs.length {xs ys:List AV}(h:ALEs xs ys):xs.length=ys.length:=by induction h with
 | nil=>rfl
 | cons _ _ ih=>simp[ih]
theorem ALEs.get {xs ys:List AV}(h:ALEs xs ys):∀(i:Nat) (x y:AV),xs[i]?=some x->ys[i]?=some y->ALE x y:=by
 induction h with
 | nil=>intro i x y a;simp at a
 | cons h _ ih =>
  intro i x y a b;cases i with
  | zero=>simp at a b;subst a;subst b;exact h
  | succ i=>exact ih i x y (by simpa using a) (by simpa using b)
inductive OOLE:Option (List OC)->Option (List OC)->Prop
 | none:OOLE none none
 | some {l m:List OC} (h:OLEs l m):OOLE (some l) (some m)
theorem OOLE.refl:∀i:Option (List OC),OOLE i i
 | .none=>.none
 | .some l=>.some (OLEs.refl l)
theorem QcS {w:World}{M M' : Nat->Prop}{l m:List OC}{ρ:Nat->Value}(f:OLEs l m)(d:∀r,M' r->M r){x:AV}{v:Value}(h:VR w M (Zx l) ρ x v):VR w M' (Zx m) ρ x v :=
 h.ext (jLj _) (fun _ _ _=>rfl) (fun r _ e=>d r e) ⟨fun b k c=>by
  by_cases a:b=0
  ·subst a;rw[ZX] at c;cases c;exact⟨_,ZX m,jLj _,fun _=>rfl⟩
  ·exact⟨k,by rw[<-f.look a];exact c,jLj _,fun _=>rfl⟩⟩
theorem ALE.vr {w:World}{M:Nat->Prop}{hp:List (Nat×Blk)}{ρ:Nat->Value}{x y:AV}(h:ALE x y){v:Value}(a:VR w M hp ρ x v):VR w M hp ρ y v:=by
 cases h with
 | refl=>exact a
 | d h=>cases a with
  | d _ _ b=>exact .d _ _ (DR.le h b)
theorem ComputesO.le {f:FuncId}{b a : List AV}{i g : Option (List OC)}{r E : AV}{cs l : List OC}{ks:List Bool}(h:ComputesO cx f b i r cs ks)(o:ALEs a b)(hi:OOLE g i)(p:ALE r E)(hc:OLEs cs l):ComputesO cx f a g E l ks:=by
 intro w F ρ vs u H K;have s:HSim cx F (Yo i) ρ w/\(∀r,Mut (Yo i) ρ r↔Mut (Yo g) ρ r)/\(∀(x:AV) (v:Value),VR w (MM F (Yo g) ρ) (Yo g) ρ x v->VR w (MM F (Yo i) ρ) (Yo i) ρ x v)/\(g.isSome=true->i.isSome=true):=by
  cases hi with
  | none=>exact⟨u,fun _=>Iff.rfl,fun _ _ h=>h,fun h=>h⟩
  | some ho=>exact⟨u.objLE ho,fun r=>ho.mut,fun x v L=>QcS ho (fun r d=>d.imp id ho.mut.1) L,fun _=>rfl⟩
 obtain⟨N,z,O,A⟩:=s;refine(h w F ρ vs N (by rw[<-o.length];exact H) fun k c y t M=>?_).mono ?_
 ·have n:k<a.length:=by rw[o.length];exact(jGj t).1
  exact(o.get k a[k] c (by simp[n]) t).vr (O _ _ (K k a[k] y (by simp[n]) M))
 ·rintro e w' ⟨y,ρ',rfl,P,Q,S,T,C⟩;exact⟨y,ρ',rfl,P.objLE hc,p.vr (QcS hc (fun r d=>d.imp id hc.mut.1) Q),S.mono fun r d=>(z r).1 d,fun q J d=>(z q).1 (T q J (hc.mut.1 d)),fun m=>⟨(C (A m)).1,fun j sz es G p=>by
   obtain h|⟨x,y,_,h,_⟩:=hc.get j _ p
   ·exact(C (A m)).2 j sz es G h
   ·cases h⟩⟩
end Go.SX
