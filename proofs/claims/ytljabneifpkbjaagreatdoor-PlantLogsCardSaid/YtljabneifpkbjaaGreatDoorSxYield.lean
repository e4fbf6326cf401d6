/- Ranges over functions: a round, and the whole statement. -/
import Derived.Test.YtljabneifpkbjaaGreatDoorSxTwenty
import Derived.RangeFuncIn
set_option linter.unusedVariables false
namespace Go.SX
variable {cx:Cx}
theorem jB {b n:Nat} {H:List (Nat×Blk)} {k:Blk} (h:UT b H=true) (hn:look H n=some k) (hne:n≠b):E1 k=true:=by
 simp only [UT,List.all_eq_true,Bool.or_eq_true] at h
 have hm:∀ (l:List (Nat×Blk)),look l n=some k→(n,k)∈l:=by
  intro l
  induction l with
  | nil=>intro h;simp [look] at h
  | cons p l ih =>
   obtain ⟨c,x⟩:=p
   intro h
   by_cases hc:c=n
   ·subst hc;rw [Qd] at h;cases h;exact jMj
   ·rw [Qc _ _ hc] at h;exact List.mem_cons_of_mem _ (ih h)
 rcases h _ (hm H hn) with h | h
 ·exact absurd (ZZ h) hne
 ·exact h
theorem HSim.turnLoop {F:Nat→Prop} {hp:List (Nat×Blk)} {ρ:Nat→Value} {w:World} (hs:HSim cx F hp ρ w) {b:Nat} {k0 K:Blk} (hb:look hp b=some k0) (hk0:k0.live=true) (hv0:k0.ver=0) (ho:UT b hp=true) {l:Nat} {rc:Loop} (hh:w.heap[l]?=some (.loop rc)) (o' : Obj)
  (hv:K.ver=0) (hK:(∀ (x:AV) (y:Value),VR w (MM F hp ρ) hp ρ x y→VR (w.putObj l o') (MM F ((b,K)::hp) ρ) ((b,K)::hp) ρ x y)→BlkR (w.putObj l o') (MM F ((b,K)::hp) ρ) ((b,K)::hp) ρ b K) :
  HSim cx F ((b,K)::hp) ρ (w.putObj l o')∧Grows hp ((b,K)::hp) ρ ρ∧(∀ r,Mut ((b,K)::hp) ρ r→Mut hp ρ r)∧(∀ (x:AV) (y:Value),VR w (MM F hp ρ) hp ρ x y→VR (w.putObj l o') (MM F ((b,K)::hp) ρ) ((b,K)::hp) ρ x y):=by
 have key:∀ n k,look ((b,K)::hp) n=some k→k.live=true→∃ k',look hp n=some k'∧k'.live=true:=by
  intro n k hn hm
  by_cases hnb:n=b
  ·subst hnb;exact ⟨k0,hb,hk0⟩
  ·rw [Qc _ _ (Ne.symm hnb)] at hn;exact ⟨k,hn,hm⟩
 have hmut:∀ r,Mut ((b,K)::hp) ρ r→Mut hp ρ r:=by
  rintro r ⟨n,k,hn,hm,hr⟩
  obtain ⟨k',h1,h2⟩:=key n k hn hm
  exact ⟨n,k',h1,h2,hr⟩
 have hMM:∀ r,MM F ((b,K)::hp) ρ r→MM F hp ρ r:=fun r h=>h.imp id (hmut r)
 have hg:Grows hp ((b,K)::hp) ρ ρ:=⟨fun n k hn=>by
  by_cases hnb:n=b
  ·subst hnb
   rw [hb] at hn;cases hn
   exact ⟨K,Qd _ _ _,by omega,fun _=>rfl⟩
  ·exact ⟨k,by rw [Qc _ _ (Ne.symm hnb)];exact hn,jLj _,fun _=>rfl⟩⟩
 have hvr:∀ (x:AV) (y:Value),VR w (MM F hp ρ) hp ρ x y→VR (w.putObj l o') (MM F ((b,K)::hp) ρ) ((b,K)::hp) ρ x y:=fun x y h =>
  (h.put hh trivial o').ext (jLj _) (fun _ _ _=>rfl) (fun r _ h=>hMM r h) hg
 refine ⟨⟨fun n k hn=>?_,fun n n' k k' r h1 h2 m1 m2 r1 r2=>?_,fun r hr=>hs.forb r (hmut r hr),fun r hr=>by rw [World.putObj_size];exact hs.bnd r hr,fun g x hg'=>?_⟩,hg,hmut,hvr⟩
 ·by_cases hnb:n=b
  ·subst hnb;rw [Qd] at hn;cases hn;exact hK hvr
  ·rw [Qc _ _ (Ne.symm hnb)] at hn
   exact ((hs.blk n k hn).put hh trivial o' (.inr (jB ho hn hnb))).ext (jLj _) (fun _ _ _=>rfl) (fun r _ h=>hMM r h) hg rfl (fun _ _ _=>rfl)
 ·obtain ⟨q,a1,a2⟩:=key n k h1 m1
  obtain ⟨q',a3,a4⟩:=key n' k' h2 m2
  exact hs.inj n n' q q' r a1 a3 a2 a4 r1 r2
 ·exact ((hs.glob g x hg').put hh trivial o').ext (jLj _) (fun _ _ _=>rfl) (fun r _ h=>hMM r h)
theorem jn {w:World} {M:Nat→Prop} {hp:List (Nat×Blk)} {ρ:Nat→Value} {nt:Nat}:∀ (ps:List Nat) (args:List AV) (vs:List Value) (tm:List (Nat×AV)) (T:Array Value),ps.length=args.length→args.length=vs.length →
  (∀ t,t∈ps→t < nt)→T.size=nt→(∀ t x,look tm t=some x→VR w M hp ρ x (T.getD t undef))→(∀ (i:Nat) (c:AV) (y:Value),args[i]?=some c→vs[i]?=some y→VR w M hp ρ c y) →
  ((ps.zip vs).foldl (fun (tmps:Array Value) (p:Nat×Value)=>tmps.setIfInBounds p.1 p.2) T).size=nt∧∀ t x,look (jo ps args tm) t=some x→VR w M hp ρ x (((ps.zip vs).foldl (fun (tmps:Array Value) (p:Nat×Value)=>tmps.setIfInBounds p.1 p.2) T).getD t undef)
 | [],args,vs,tm,T,_,_,_,hT,ht,_=>by
  simp only [List.zip_nil_left,List.foldl_nil,jo]
  exact ⟨hT,ht⟩
 | t::ps,[],vs,tm,T,h1,_,_,_,_,_=>by simp at h1
 | t::ps,x::args,[],tm,T,_,h2,_,_,_,_=>by simp at h2
 | t::ps,x::args,v::vs,tm,T,h1,h2,hlt,hT,ht,hv=>by
  simp only [List.zip_cons_cons,List.foldl_cons,jo]
  refine jn ps args vs _ _ (by simpa using h1) (by simpa using h2) (fun u hu=>hlt u (List.mem_cons_of_mem _ hu)) (by simpa using hT) (fun u y hu=>?_) (fun i c y hc hy=>hv (i+1) c y (by simpa using hc) (by simpa using hy))
  by_cases htu:t=u
  ·subst htu
   rw [Qd] at hu;cases hu
   have htl:t < T.size:=by rw [hT];exact hlt t jMj
   rw [Array.getD_eq_getD_getElem?,Array.getElem?_setIfInBounds,jTj rfl,jTj htl]
   exact hv 0 _ _ rfl rfl
  ·rw [Qc _ _ htu] at hu
   rw [Array.getD_eq_getD_getElem?,Array.getElem?_setIfInBounds,jFj htu,← Array.getD_eq_getD_getElem?]
   exact ht u y hu
theorem KS {w:World} {l:Nat} {o:Obj} (h:w.heap[l]?=some o):l < w.heap.size:=by
 rcases Nat.lt_or_ge l w.heap.size with h' | h'
 ·exact h'
 ·rw [Array.getElem?_eq_none h'] at h;cases h
theorem Qbt {ex:Code→St→Option (Ex×St)} (hE:ExOK cx ex) (hS:zQ ex):qw cx (qA ex):=by
 intro H nx sym orc b ver args rc h hob rr m F ρ w vs hs hl hv
 unfold qA at h
 split at h
 case h_2=>cases h
 rename_i tm ps as bd nt hb hc
 simp only [jAj] at hc
 have hver:=ZZ hc.1
 have hbn:=hc.2
 split at h
 case h_2=>cases h
 rename_i hlen
 simp only [jAj,List.all_eq_true] at hlen
 have hpl:=ZZ hlen.1
 split at h
 case h_2=>cases h
 rename_i s1 hx1
 split at h
 case h_2=>cases h
 rename_i tm1 ps1 as1 bd1 nt1 hb1 ho1
 split at h
 case h_3=>cases h
 ·rename_i s2 hx2
  split at h
  case h_2=>cases h
  rename_i tm2 ps2 as2 bd2 nt2 hb2 ho2
  simp only [jIj] at h;subst h
  obtain ⟨o2,e2⟩:=hE _ _ _ _ hx2 hob
  obtain ⟨_,e1⟩:=hE _ _ _ _ hx1 o2
  obtain ⟨v1,n1,_⟩:=hS _ _ _ _ hx1
  obtain ⟨v2,n2,_⟩:=hS _ _ _ _ hx2
  obtain ⟨l,rc0,q1,q3,q4,q5,q6,q7,q8,q9,q10⟩:=hs.blk b _ hb
  have hbnx:b < nx:=VD hbn hb
  have hsize:rc0.params.size=vs.length:=by rw [← Array.length_toList,q6,hpl,hl]
  refine ⟨⟨_,hb,hver⟩,l,rc0,q1,q3,hsize,roundIn_of_wpIn (F:=fen rr) trivial ?_⟩
  have hfold:(rc0.params.zip vs.toArray).foldl (fun (tmps:Array Value) (x:Nat×Value)=>match x with | (t,a)=>tmps.setIfInBounds t a) rc0.tmps=(ps.zip vs).foldl (fun (tmps:Array Value) (p:Nat×Value)=>tmps.setIfInBounds p.1 p.2) rc0.tmps:=by
   rw [← Array.foldl_toList,Array.toList_zip,q6]
  rw [hfold]
  obtain ⟨b1,b2⟩:=jn ps args vs tm rc0.tmps hpl hl (fun t ht=>by have:=hlen.2 t ht;simpa using this) q9 q10 hv
  have hsim1:Sim cx F { nt,sym,tm:=jo ps args tm,hp:=H,nx,orc,ob:=[],vis:=nx,sfx:=true,rnd:=true } ρ { tmps:=(ps.zip vs).foldl (fun (tmps:Array Value) (p:Nat×Value)=>tmps.setIfInBounds p.1 p.2) rc0.tmps,defers:=[] } w:=⟨hs,b2,b1⟩
  have hw1:=e1 (some l) F ρ _ w (fun h=>by cases h) hsim1
  rw [← q7] at hw1
  refine wpIn_mono (hw1 m) ?_
  rintro e' a₁ w₁ ⟨rfl,ρ1,g1,g2,g3,_,g5⟩
  have hlm:Mut H ρ l:=⟨b,_,hb,rfl,by rw [q1];rfl⟩
  have hρ1:ρ1 b=ρ b:=by
   obtain ⟨k',h1,_,h3⟩:=g5.grow b _ hbnx hb
   rw [hb1] at h1;cases h1
   exact h3 rfl
  obtain ⟨l1,rc1,p1,p3,p4,p5,p6,p7,p8,p9,p10⟩:=g1.blk b _ hb1
  have hll:l1=l:=by rw [hρ1,q1] at p1;simpa using p1.symm
  subst hll
  refine ⟨_,run_beginRound p3 p4,?_⟩
  obtain ⟨t1,t2,t3,t4⟩:=g1.turnLoop (K:=.loop false tm1 ps1 as1 bd1 nt1) hb1 rfl rfl ho1 p3 (.loop { rc1 with state:=.busy }) rfl (fun hvr =>
   ⟨l1,{ rc1 with state:=.busy },p1,World.putObj_heap_same (KS p3),rfl,p5,p6,p7,p8,p9,fun t x hx=>hvr _ _ (p10 t x hx)⟩)
  have hsim2:Sim cx F { s1 with hp:=(b,.loop false tm1 ps1 as1 bd1 nt1)::s1.hp } ρ1 a₁ (w₁.putObj l1 (.loop { rc1 with state:=.busy })) :=
   ⟨t1,fun t x hx=>t4 _ _ (g2 t x hx),by rw [g3];exact (E0 n1).symm⟩
  have hw2:=e2 (some l1) F ρ1 a₁ _ (fun h=>by have:=yx n1;rw [this] at h;cases h) hsim2
  rw [← q8] at hw2
  refine wpIn_mono (hw2 m) ?_
  rintro e' a₂ w₃ ⟨rfl,ρ2,f1,f2,f3,_,f5⟩
  have hvis:s1.vis=nx:=v1
  have hρ2:ρ2 b=ρ1 b:=by
   obtain ⟨k',h1,_,h3⟩:=f5.grow b _ (by show b < s1.vis;rw [hvis];exact hbnx) (Qd _ _ _)
   rw [hb2] at h1;cases h1
   exact h3 rfl
  obtain ⟨l2,rc2,r1,r3,r4,r5,r6,r7,r8,r9,r10⟩:=f1.blk b _ hb2
  have hll:l2=l1:=by rw [hρ2,hρ1,q1] at r1;simpa using r1.symm
  subst hll
  refine ⟨_,_,run_endRound none r3,.bool true,rfl,ρ2,?_⟩
  simp only [Option.isNone_none,if_true]
  obtain ⟨u1,u2,u3,u4⟩:=f1.turnLoop (K:=.loop true tm2 ps2 as2 bd2 nt2) hb2 rfl rfl ho2 r3 (.loop { rc2 with state:=.ready,pending:=none }) rfl (fun hvr =>
   ⟨l2,{ rc2 with state:=.ready,pending:=none },r1,World.putObj_heap_same (KS r3),rfl,rfl,r6,r7,r8,r9,fun t x hx=>hvr _ _ (r10 t x hx)⟩)
  refine ⟨u1,⟨⟨?_,?_,?_,?_,fun r hr hm=>?_⟩,fun r hr hm=>?_,⟨fun n k hn=>?_⟩⟩,.d _ _ (.v _)⟩
  ·show w₃.os=_;exact f5.ext.os.trans g5.ext.os
  ·show w₃.tape=_;exact f5.ext.tape.trans g5.ext.tape
  ·show w₃.output=_;exact f5.ext.output.trans g5.ext.output
  ·rw [World.putObj_size];have:=f5.ext.size;rw [World.putObj_size] at this;exact Nat.le_trans g5.ext.size this
  ·have hrl:r≠l2:=fun e=>hm (by rw [e];exact hlm)
   have h1:r < w₁.heap.size:=Nat.lt_of_lt_of_le hr g5.ext.size
   have hm1:¬ Mut s1.hp ρ1 r:=fun h=>hm (g5.mt r hr h)
   have hm2:¬ Mut ((b,Blk.loop false tm1 ps1 as1 bd1 nt1)::s1.hp) ρ1 r:=fun h=>hm1 (t3 r h)
   rw [World.putObj_heap_other hrl,f5.ext.same r (by rw [World.putObj_size];exact h1) hm2,World.putObj_heap_other hrl]
   exact g5.ext.same r hr hm
  ·have h1:r < w₁.heap.size:=Nat.lt_of_lt_of_le hr g5.ext.size
   exact g5.mt r hr (t3 r (f5.mt r (by rw [World.putObj_size];exact h1) (u3 r hm)))
  ·have hnx:n < nx:=VD hbn hn
   obtain ⟨k1,a1,a2,a3⟩:=g5.grow n k hnx hn
   obtain ⟨k2,b1,b2,b3⟩:=t2.dom n k1 a1
   obtain ⟨k3,c1,c2,c3⟩:=f5.grow n k2 (by show n < s1.vis;rw [hvis];exact hnx) b1
   obtain ⟨k4,d1,d2,d3⟩:=u2.dom n k3 c1
   exact ⟨k4,d1,by omega,fun he=>by rw [d3 (by omega),c3 (by omega),b3 (by omega),a3 (by omega)]⟩
 ·rename_i e s2 hne hx2
  split at h
  case h_2=>cases h
  rename_i tm2 ps2 as2 bd2 nt2 hb2 ho2
  simp only [jIj] at h;subst h
  obtain ⟨o2,e2⟩:=hE _ _ _ _ hx2 hob
  obtain ⟨_,e1⟩:=hE _ _ _ _ hx1 o2
  obtain ⟨v1,n1,_⟩:=hS _ _ _ _ hx1
  obtain ⟨v2,n2,_⟩:=hS _ _ _ _ hx2
  obtain ⟨l,rc0,q1,q3,q4,q5,q6,q7,q8,q9,q10⟩:=hs.blk b _ hb
  have hbnx:b < nx:=VD hbn hb
  have hsize:rc0.params.size=vs.length:=by rw [← Array.length_toList,q6,hpl,hl]
  refine ⟨⟨_,hb,hver⟩,l,rc0,q1,q3,hsize,roundIn_of_wpIn (F:=fen rr) trivial ?_⟩
  have hfold:(rc0.params.zip vs.toArray).foldl (fun (tmps:Array Value) (x:Nat×Value)=>match x with | (t,a)=>tmps.setIfInBounds t a) rc0.tmps=(ps.zip vs).foldl (fun (tmps:Array Value) (p:Nat×Value)=>tmps.setIfInBounds p.1 p.2) rc0.tmps:=by
   rw [← Array.foldl_toList,Array.toList_zip,q6]
  rw [hfold]
  obtain ⟨b1,b2⟩:=jn ps args vs tm rc0.tmps hpl hl (fun t ht=>by have:=hlen.2 t ht;simpa using this) q9 q10 hv
  have hsim1:Sim cx F { nt,sym,tm:=jo ps args tm,hp:=H,nx,orc,ob:=[],vis:=nx,sfx:=true,rnd:=true } ρ { tmps:=(ps.zip vs).foldl (fun (tmps:Array Value) (p:Nat×Value)=>tmps.setIfInBounds p.1 p.2) rc0.tmps,defers:=[] } w:=⟨hs,b2,b1⟩
  have hw1:=e1 (some l) F ρ _ w (fun h=>by cases h) hsim1
  rw [← q7] at hw1
  refine wpIn_mono (hw1 m) ?_
  rintro e' a₁ w₁ ⟨rfl,ρ1,g1,g2,g3,_,g5⟩
  have hlm:Mut H ρ l:=⟨b,_,hb,rfl,by rw [q1];rfl⟩
  have hρ1:ρ1 b=ρ b:=by
   obtain ⟨k',h1,_,h3⟩:=g5.grow b _ hbnx hb
   rw [hb1] at h1;cases h1
   exact h3 rfl
  obtain ⟨l1,rc1,p1,p3,p4,p5,p6,p7,p8,p9,p10⟩:=g1.blk b _ hb1
  have hll:l1=l:=by rw [hρ1,q1] at p1;simpa using p1.symm
  subst hll
  refine ⟨_,run_beginRound p3 p4,?_⟩
  obtain ⟨t1,t2,t3,t4⟩:=g1.turnLoop (K:=.loop false tm1 ps1 as1 bd1 nt1) hb1 rfl rfl ho1 p3 (.loop { rc1 with state:=.busy }) rfl (fun hvr =>
   ⟨l1,{ rc1 with state:=.busy },p1,World.putObj_heap_same (KS p3),rfl,p5,p6,p7,p8,p9,fun t x hx=>hvr _ _ (p10 t x hx)⟩)
  have hsim2:Sim cx F { s1 with hp:=(b,.loop false tm1 ps1 as1 bd1 nt1)::s1.hp } ρ1 a₁ (w₁.putObj l1 (.loop { rc1 with state:=.busy })) :=
   ⟨t1,fun t x hx=>t4 _ _ (g2 t x hx),by rw [g3];exact (E0 n1).symm⟩
  have hw2:=e2 (some l1) F ρ1 a₁ _ (fun h=>by have:=yx n1;rw [this] at h;cases h) hsim2
  rw [← q8] at hw2
  refine wpIn_mono (hw2 m) ?_
  rintro e' a₂ w₃ ⟨rfl,ρ2,f1,f2,f3,_,f5⟩
  have hvis:s1.vis=nx:=v1
  have hρ2:ρ2 b=ρ1 b:=by
   obtain ⟨k',h1,_,h3⟩:=f5.grow b _ (by show b < s1.vis;rw [hvis];exact hbnx) (Qd _ _ _)
   rw [hb2] at h1;cases h1
   exact h3 rfl
  obtain ⟨l2,rc2,r1,r3,r4,r5,r6,r7,r8,r9,r10⟩:=f1.blk b _ hb2
  have hll:l2=l1:=by rw [hρ2,hρ1,q1] at r1;simpa using r1.symm
  subst hll
  have hend:=run_endRound (P:=cx.P) (some (EL e)) r3
  suffices hmain:∃ ρ',HSim cx F (RC.heap { val:=.d (.v (.bool false)),up:=[],full:=some ((b,.left e)::s2.hp),nx:=s2.nx,ob:=s2.ob,orc:=s2.orc,sfx:=!sym && s2.sfx } H) ρ' (w₃.putObj l2 (.loop { rc2 with state:=.done,pending:=some (EL e) })) ∧
    Steps1 H ρ w (RC.heap { val:=.d (.v (.bool false)),up:=[],full:=some ((b,.left e)::s2.hp),nx:=s2.nx,ob:=s2.ob,orc:=s2.orc,sfx:=!sym && s2.sfx } H) ρ' (w₃.putObj l2 (.loop { rc2 with state:=.done,pending:=some (EL e) })) ∧
    VR (w₃.putObj l2 (.loop { rc2 with state:=.done,pending:=some (EL e) })) (MM F (RC.heap { val:=.d (.v (.bool false)),up:=[],full:=some ((b,.left e)::s2.hp),nx:=s2.nx,ob:=s2.ob,orc:=s2.orc,sfx:=!sym && s2.sfx } H) ρ') (RC.heap { val:=.d (.v (.bool false)),up:=[],full:=some ((b,.left e)::s2.hp),nx:=s2.nx,ob:=s2.ob,orc:=s2.orc,sfx:=!sym && s2.sfx } H) ρ' (.d (.v (.bool false))) (.bool false) by
   cases e with
   | normal=>exact (hne rfl).elim
   | ret=>exact ⟨_,_,hend,.bool false,rfl,hmain⟩
   | exit id=>exact ⟨_,_,hend,.bool false,rfl,hmain⟩
  refine ⟨ρ2,?_⟩
  obtain ⟨u1,u2,u3,u4⟩:=f1.turnLoop (K:=.left e) hb2 rfl rfl ho2 r3 (.loop { rc2 with state:=.done,pending:=some (EL e) }) rfl (fun _ =>
   ⟨l2,_,r1,World.putObj_heap_same (KS r3),rfl,rfl⟩)
  refine ⟨u1,⟨⟨?_,?_,?_,?_,fun r hr hm=>?_⟩,fun r hr hm=>?_,⟨fun n k hn=>?_⟩⟩,.d _ _ (.v _)⟩
  ·show w₃.os=_;exact f5.ext.os.trans g5.ext.os
  ·show w₃.tape=_;exact f5.ext.tape.trans g5.ext.tape
  ·show w₃.output=_;exact f5.ext.output.trans g5.ext.output
  ·rw [World.putObj_size];have:=f5.ext.size;rw [World.putObj_size] at this;exact Nat.le_trans g5.ext.size this
  ·have hrl:r≠l2:=fun e=>hm (by rw [e];exact hlm)
   have h1:r < w₁.heap.size:=Nat.lt_of_lt_of_le hr g5.ext.size
   have hm1:¬ Mut s1.hp ρ1 r:=fun h=>hm (g5.mt r hr h)
   have hm2:¬ Mut ((b,Blk.loop false tm1 ps1 as1 bd1 nt1)::s1.hp) ρ1 r:=fun h=>hm1 (t3 r h)
   rw [World.putObj_heap_other hrl,f5.ext.same r (by rw [World.putObj_size];exact h1) hm2,World.putObj_heap_other hrl]
   exact g5.ext.same r hr hm
  ·have h1:r < w₁.heap.size:=Nat.lt_of_lt_of_le hr g5.ext.size
   exact g5.mt r hr (t3 r (f5.mt r (by rw [World.putObj_size];exact h1) (u3 r hm)))
  ·have hnx:n < nx:=VD hbn hn
   obtain ⟨k1,a1,a2,a3⟩:=g5.grow n k hnx hn
   obtain ⟨k2,b1,b2,b3⟩:=t2.dom n k1 a1
   obtain ⟨k3,c1,c2,c3⟩:=f5.grow n k2 (by show n < s1.vis;rw [hvis];exact hnx) b1
   obtain ⟨k4,d1,d2,d3⟩:=u2.dom n k3 c1
   exact ⟨k4,d1,by omega,fun he=>by rw [d3 (by omega),c3 (by omega),b3 (by omega),a3 (by omega)]⟩
def QaM:Blk→Option Ex
 | .loop true _ _ _ _ _=>some .normal
 | .left e=>some e
 | _=>none
theorem QaL {w:World} {M:Nat→Prop} {hp:List (Nat×Blk)} {ρ:Nat→Value} {b:Nat} {k:Blk} {e:Ex} (h:QaM k=some e) (hb:BlkR w M hp ρ b k) :
  k.live=true∧k.ver=0∧∃ l rc,ρ b=.func (.yield l) #[] #[]∧w.heap[l]?=some (.loop rc)∧rc.state≠.busy∧(rc.pending=none∧e=.normal ∨ rc.pending=some (EL e)):=by
 unfold QaM at h
 split at h
 ·cases h
  obtain ⟨l,rc,h1,h2,h3,h4,_⟩:=hb
  exact ⟨rfl,rfl,l,rc,h1,h2,by rw [h3];simp,.inl ⟨h4,rfl⟩⟩
 ·cases h
  obtain ⟨l,rc,h1,h2,h3,h4⟩:=hb
  exact ⟨rfl,rfl,l,rc,h1,h2,by rw [h3];simp,.inr h4⟩
 ·cases h
theorem EX (hN:NoAsk cx) {ex:Code→St→Option (Ex×St)} (hE:ExOK cx ex) (hS:zQ ex) {s s2:St} {f:Operand} {ps:Array Tmp} {as bd:Code} {g:FuncId} {a0 b0:List AV} {x:AV}
  (hcal:JH (evA cx s.tm f)=some (g,a0,b0)) (hbn:VU s.hp s.nx=true) (hno:(s.hp.all fun p=>E1 p.2)=true)
  (hx:U8 ex cx g (a0++[.own s.nx 0]++b0) { nt:=0,sym:=s.sym,tm:=[],hp:=(s.nx,.loop true (Kr s.tm s.nt) ps.toList as bd s.nt)::s.hp,nx:=s.nx+1,orc:=s.orc,ob:=s.ob,vis:=s.nx+1,sfx:=true }=some (x,s2))
  {k2:Blk} {e:Ex} (hb2:look s2.hp s.nx=some k2) (hk2:QaM k2=some e) (ho2:UT s.nx s2.hp=true) (hob:∀ p,p∈s2.ob→p) :
  (∀ p,p∈s.ob→p)∧∀ (F:Nat→Prop) (ρ:Nat→Value) (a:Act) (w:World),Sim cx F s ρ a w →
   wpR none cx.P (.rangeFunc f ps as bd) (fun e' a' w'=>e'=U7 e∧After cx F s.vis s.nt s.hp ρ w a.defers s.tm ((s.nx,.dead)::s2.hp) a' w') a w:=by
 obtain ⟨e1,e2⟩:=Kp hE hS hx hob
 refine ⟨e1,fun F ρ a w hs m=>wpIn_rangeFunc (F:=fen none) fun fn _=>?_⟩
 obtain ⟨xs,ys,hv,l1,l3,k1,k3⟩:=UO hcal (qT hs.hs hs.ts f)
 have hfun:∃ fd,cx.P.funcs[g]?=some fd∧fd.body.isSome=true:=by
  unfold U8 at hx
  split at hx
  ·cases hx
  rename_i fd hfd
  split at hx
  ·cases hx
  rename_i body hbody
  exact ⟨fd,hfd,by rw [hbody];rfl⟩
 obtain ⟨fd,hfd,hfb⟩:=hfun
 have hfree:look s.hp s.nx=none:=by
  cases h:look s.hp s.nx with
  | none=>rfl
  | some k=>have:=VD hbn h;omega
 -- the record is laid
 obtain ⟨rc,hrc⟩:∃ rc:Loop,rc={ state:=.ready,pending:=none,fn,tmps:=a.tmps,params:=ps,assign:=as,body:=bd,defers:=w.heap.size }:=⟨_,rfl⟩
 obtain ⟨w₁,hw₁⟩:∃ w₁,w₁=(w.alloc (.deferred (some []))).alloc (.loop rc):=⟨_,rfl⟩
 have hsz1:w₁.heap.size=w.heap.size+2:=by rw [hw₁];simp
 have hl1:w₁.heap[w.heap.size+1]?=some (.loop rc):=by
  rw [hw₁];have:=World.alloc_heap_new (w.alloc (.deferred (some []))) (.loop rc);rwa [World.size_alloc] at this
 have hd1:w₁.heap[w.heap.size]?=some (.deferred (some [])):=by
  rw [hw₁]
  show ((w.heap.push _).push _)[w.heap.size]?=_
  rw [Array.getElem?_push,jFj (by simp),Array.getElem?_push,jTj rfl]
 have hext1:Ext w (fun _=>False) w₁:=by rw [hw₁];exact (Ext.alloc w _ _).trans (Ext.alloc _ (fun _=>False) _) (fun _ _ h=>h)
 obtain ⟨ρ1,hρ1⟩:∃ ρ1,ρ1=Vl ρ s.nx (.func (.yield (w.heap.size+1)) #[] #[]):=⟨_,rfl⟩
 obtain ⟨K,hK⟩:∃ K,K=Blk.loop true (Kr s.tm s.nt) ps.toList as bd s.nt:=⟨_,rfl⟩
 have hKl:K.live=true:=by rw [hK];rfl
 have hKroot:Q9 (ρ1 s.nx)=some (w.heap.size+1):=by rw [hρ1,QG];rfl
 have hmut1:∀ r,Mut ((s.nx,K)::s.hp) ρ1 r→r=w.heap.size+1 ∨ Mut s.hp ρ r:=by
  rintro r ⟨n,k,hn,hm,hr⟩
  by_cases hnb:n=s.nx
  ·subst hnb;rw [hKroot] at hr;cases hr;exact .inl rfl
  ·right;rw [Qc _ _ (Ne.symm hnb)] at hn;rw [hρ1,QU _ _ hnb] at hr;exact ⟨n,k,hn,hm,hr⟩
 have hmut:∀ r,r < w.heap.size→Mut ((s.nx,K)::s.hp) ρ1 r→Mut s.hp ρ r:=fun r hr hm=>(hmut1 r hm).resolve_left (by omega)
 have hst1:Steps1 s.hp ρ w ((s.nx,K)::s.hp) ρ1 w₁:=by
  refine ⟨hext1.mono fun _ h=>h.elim,fun r hr hm=>hmut r hr hm,⟨fun n k hn=>?_⟩⟩
  have hnb:n≠s.nx:=fun e=>by rw [e,hfree] at hn;cases hn
  exact ⟨k,by rw [Qc _ _ (Ne.symm hnb)];exact hn,jLj _,fun _=>by rw [hρ1];exact QU _ _ hnb⟩
 have hs1:HSim cx F ((s.nx,K)::s.hp) ρ1 w₁:=by
  refine hs.hs.step hst1 (fun n k hn=>?_) (fun n n' k k' r h1 h2 m1 m2 r1 r2=>?_) (fun r hr hF=>(hmut1 r hr).elim (fun e=>by have:=hs.hs.bnd r hF;omega) (fun h=>hs.hs.forb r h hF))
  ·by_cases hnb:n=s.nx
   ·subst hnb
    rw [Qd] at hn;cases hn
    right
    rw [hK]
    refine ⟨w.heap.size+1,rc,by rw [hρ1];exact QG _ _ _,hl1,by rw [hrc];rfl,by rw [hrc],by rw [hrc],by rw [hrc],by rw [hrc],by rw [hrc];exact hs.nt,fun t y hy=>?_⟩
    rw [hrc,← hK];exact hst1.vr (hs.ts t y (GR _ _ _ hy))
   ·rw [Qc _ _ (Ne.symm hnb)] at hn
    exact .inl ⟨hn,by rw [hρ1];exact QU _ _ hnb,fun hm r hr=>hext1.same r ((hs.hs.blk n k hn).root_lt hm hr) (fun h=>h)⟩
  ·have key:∀ n k r,look ((s.nx,K)::s.hp) n=some k→k.live=true→Q9 (ρ1 n)=some r→(n=s.nx∧r=w.heap.size+1) ∨ (n≠s.nx∧look s.hp n=some k∧Q9 (ρ n)=some r∧r < w.heap.size):=by
    intro n k r hn hm hr
    by_cases hnb:n=s.nx
    ·subst hnb;rw [hKroot] at hr;cases hr;exact .inl ⟨rfl,rfl⟩
    ·rw [Qc _ _ (Ne.symm hnb)] at hn
     rw [hρ1,QU _ _ hnb] at hr
     exact .inr ⟨hnb,hn,hr,hs.hs.mut_lt ⟨n,k,hn,hm,hr⟩⟩
   rcases key n k r h1 m1 r1 with ⟨c1,c2⟩ | ⟨c1,c2,c3,c4⟩ <;> rcases key n' k' r h2 m2 r2 with ⟨d1,d2⟩ | ⟨d1,d2,d3,d4⟩
   ·rw [c1,d1]
   ·omega
   ·omega
   ·exact hs.hs.inj n n' k k' r c2 d2 m1 m2 c3 d3
 -- the call
 obtain ⟨q4,q5⟩:=ET (p:=a0) (m:=[AV.own s.nx 0]) (q:=b0) (xs:=xs) (ms:=[Value.func (.yield (w.heap.size+1)) #[] #[]]) (ys:=ys) (w:=w₁) (M:=MM F ((s.nx,K)::s.hp) ρ1) (hp:=(s.nx,K)::s.hp) (ρ:=ρ1) l1 rfl l3
  (fun i c y hc hy=>hst1.vr (k1 i c y hc hy)) (fun i c y hc hy=>by
   cases i with
   | zero =>
    simp only [List.getElem?_cons_zero,jIj] at hc hy;subst hc;subst hy
    exact .own s.nx 0 K _ (Qd _ _ _) (Nat.zero_le _) rfl fun _=>by rw [hρ1];exact (QG _ _ _).symm
   | succ i=>simp at hc) (fun i c y hc hy=>hst1.vr (k3 i c y hc hy))
 rw [hK] at hs1 q5
 have hcall:=e2 F ρ1 w₁ (xs++[Value.func (.yield (w.heap.size+1)) #[] #[]]++ys) hs1 q4 q5
 refine ⟨w.heap.size+1,[{ target:=.collected w.heap.size,args:=#[] }],w₁,{ target:=.fn (.func g) ys.toArray,args:=xs.toArray++#[.func (.yield (w.heap.size+1)) #[] #[]] },w₁,g,
  (xs++[Value.func (.yield (w.heap.size+1)) #[] #[]]++ys).toArray,w₁,?_,?_,fun _ _=>trivial,?_,fun h=>(by cases h),jb none (hcall.mono ?_)⟩
 ·rw [hw₁,hrc];exact run_enterLoop_outer _ _ _ _ _
 ·simp only [resolve,hv,Deferred.ofValue]
  simp [Act.eval,Sem.run_pure]
 ·simp only [invoke]
  have:=GS hN hfd hfb (xs++[Value.func (.yield (w.heap.size+1)) #[] #[]]++ys).toArray w₁
  simpa using this
 ·rintro e' w3 ⟨v,rfl,ρ2,g1,g2,_⟩
  obtain ⟨hk2l,hk2v,l2,rc2,r1,hl3,r4,r5⟩:=QaL hk2 (g1.blk _ _ hb2)
  have hρ2:ρ2 s.nx=ρ1 s.nx:=by
   obtain ⟨k',h1,_,h3⟩:=g2.grow s.nx _ (by show s.nx < s.nx+1;omega) (Qd _ _ _)
   rw [hb2] at h1;cases h1
   exact h3 hk2v.symm
  have hll:l2=w.heap.size+1:=by rw [hρ2,hρ1,QG] at r1;simpa using r1.symm
  subst hll
  have hdm:¬ Mut ((s.nx,Blk.loop true (Kr s.tm s.nt) ps.toList as bd s.nt)::s.hp) ρ1 w.heap.size:=by
   intro hm
   obtain ⟨c,e,hc⟩:=hs1.mut_cells hm
   rw [hd1] at e;cases e;exact hc _ rfl
  have hd3:w3.heap[w.heap.size]?=some (.deferred (some [])):=(g2.ext.same _ (KS hd1) hdm).trans hd1
  obtain ⟨t1,t2,t3,t4⟩:=g1.turnLoop (K:=.dead) hb2 hk2l hk2v ho2 hl3 (.loop { rc2 with state:=.exhausted }) rfl (fun _=>trivial)
  have hend:(Instr.endLoop (w.heap.size+1)).run cx.P w3=.ok rc2.pending (w3.putObj (w.heap.size+1) (.loop { rc2 with state:=.exhausted })):=run_endLoop hl3 r4
  suffices hmain:After cx F s.vis s.nt s.hp ρ w a.defers s.tm ((s.nx,.dead)::s2.hp) { a with defers:=[{ target:=.collected w.heap.size,args:=#[] }]++a.defers } (w3.putObj (w.heap.size+1) (.loop { rc2 with state:=.exhausted })) by
   refine ⟨rc2.pending,_,hend,?_⟩
   generalize (w3.putObj (w.heap.size+1) (.loop { rc2 with state:=.exhausted }))=W at hmain ⊢
   rcases r5 with ⟨hp,he⟩ | hp
   ·rw [hp];exact ⟨by rw [he];rfl,hmain⟩
   ·rw [hp]
    cases e with
    | normal=>exact wpIn_skip ⟨rfl,hmain⟩
    | ret=>exact wpIn_ret ⟨rfl,hmain⟩
    | exit id=>exact wpIn_exit ⟨rfl,hmain⟩
  rw [← hK] at g2
  have hgrow:Grows s.hp ((s.nx,.dead)::s2.hp) ρ ρ2:=by
   refine ⟨fun n k hn=>?_⟩
   have hlt:n < s.nx:=VD hbn hn
   obtain ⟨k1,a1,a2,a3⟩:=hst1.grow.dom n k hn
   obtain ⟨k2,b1,b2,b3⟩:=g2.grow n k1 (by show n < s.nx+1;omega) a1
   obtain ⟨k3,c1,c2,c3⟩:=t2.dom n k2 b1
   exact ⟨k3,c1,by omega,fun he=>by rw [c3 (by omega),b3 (by omega),a3 (by omega)]⟩
  have hmt:∀ r,r < w.heap.size→Mut ((s.nx,.dead)::s2.hp) ρ2 r→Mut s.hp ρ r:=fun r hr hm =>
   hst1.mt r hr (g2.mt r (Nat.lt_of_lt_of_le hr hst1.ext.size) (t3 r hm))
  have hsame:∀ r,r < w.heap.size→¬ Mut s.hp ρ r→(w3.putObj (w.heap.size+1) (.loop { rc2 with state:=.exhausted })).heap[r]?=w.heap[r]?:=by
   intro r hr hm
   rw [World.putObj_heap_other (by omega),g2.ext.same r (Nat.lt_of_lt_of_le hr hst1.ext.size) (fun h=>hm (hmut r hr h))]
   exact hext1.same r hr (fun h=>h)
  have hsz:w.heap.size≤(w3.putObj (w.heap.size+1) (.loop { rc2 with state:=.exhausted })).heap.size:=by
   rw [World.putObj_size];exact Nat.le_trans hext1.size g2.ext.size
  refine ⟨ρ2,t1,fun t y hy=>?_,hs.nt,⟨[w.heap.size],rfl,by simp,fun D hD=>?_⟩,⟨⟨g2.ext.os.trans hext1.os,g2.ext.tape.trans hext1.tape,g2.ext.output.trans hext1.output,hsz,hsame⟩,hmt,fun n k _ hn=>hgrow.dom n k hn⟩⟩
  ·exact (hs.ts t y hy).ext hsz (fun r hr hm=>hsame r hr fun h=>hm (.inr h)) (fun r hr h=>h.imp id (hmt r hr)) hgrow
  ·simp only [List.mem_singleton] at hD
   subst hD
   exact ⟨jLj _,by rw [World.putObj_heap_other (by omega)];exact hd3⟩
end Go.SX
