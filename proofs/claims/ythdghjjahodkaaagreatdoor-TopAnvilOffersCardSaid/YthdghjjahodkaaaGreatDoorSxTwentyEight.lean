/- Own texts. -/
import Derived.Test.YthdghjjahodkaaaGreatDoorSxNineteen
import Derived.RangeFuncIn
import Derived.KernelRfl
set_option linter.unusedSimpArgs false
set_option linter.unusedSectionVars false
set_option linter.unusedVariables false
namespace Go.SX
variable [DrawMode]
theorem Qhm {H:List (Nat×Blk)}{x:AV}{y:D}{e:List Nat}(h:x.toDH H=some (y,e))(c:x.isOne=true):(AV.d y).isOne=true:=by
 cases x with
 | d z=>simp only[AV.toDH,jIj,jPj] at h;obtain⟨rfl,rfl⟩:=h;exact c
 | agg _=>simp[AV.isOne] at c
 | tup _=>simp[AV.isOne] at c
 | junk=>simp[AV.isOne] at c
 | dptr _ _=>simp only[AV.toDH,jIj,jPj] at h;obtain⟨rfl,rfl⟩:=h;rfl
 | ptr _ _ _ _ _ =>
  simp only[AV.toDH] at h;split at h;case h_2=>cases h
  split at h;case h_2=>cases h
  split at h
  ·cases h;rfl
  ·cases h;rfl
  ·cases h
 | sub _ _ _ _ _=>simp[AV.toDH] at h
 | fn f a b =>
  simp only[AV.toDH] at h;split at h
  ·cases h;rfl
  ·cases h
 | own b v =>
  simp only[AV.toDH] at h;split at h
  ·split at h
   ·cases h;rfl
   ·cases h
  ·split at h
   ·cases h;rfl
   ·cases h
  ·split at h
   ·cases h;rfl
   ·cases h
  ·split at h
   ·cases h;rfl
   ·cases h
  ·cases h
structure Split (H:List (Nat×Blk)) (m:Nat) (cells:List AV) (ss cs:List OC) (ns:List (Option (Nat×Nat))) (gs:List Nat):Prop where
 nm:Names ns ss
 len:cs.length=cells.length
 lenS:ss.length=cells.length
 dat:∀(i:Nat) (y:D),cs[i]?=some (.dat y)->ns[i]?=some none/\∃x fs,cells[i]?=some x/\x.toDH H=some (y,fs)/\∀b,b∈fs->b∈gs
 row:∀(i sz:Nat) (es:jVj),cs[i]?=some (.row sz es)->∃n v,ns[i]?=some (some (n,v)) /\
  ((∃u,cells[i]?=some (.own n u)/\look H n=some (.row u sz es)/\v=u+1)\/(∃z,cells[i]?=some (.d (.lst true z []))/\es=[]/\n=m+i/\look H n=none/\v=0))
theorem Qdb {H:List (Nat×Blk)}{m sz:Nat}{x:AV}{c:OC}{p:Nat×Nat}(h:Qhx H m sz x=some (c,p)) :
  ∃es,c=.row sz es/\((∃u,x=.own p.1 u/\look H p.1=some (.row u sz es)/\p.2=u+1)\/(∃z,x=.d (.lst true z [])/\es=[]/\p=(m,0)/\look H m=none)):=by
 unfold Qhx at h;split at h
 ·split at h
  ·split at h
   ·rename_i i g es b _ a;simp only[jIj,jPj] at h;obtain⟨rfl,rfl⟩:=h;simp only[jAj] at a;have e:=jqj a.1;have f:=jqj a.2;subst e;subst f;exact⟨_,rfl,.inl ⟨_,rfl,b,rfl⟩⟩
   ·cases h
  ·cases h
 ·split at h
  ·rename_i b;simp only[jIj,jPj] at h;obtain⟨rfl,rfl⟩:=h;exact⟨_,rfl,.inr ⟨_,rfl,rfl,rfl,b⟩⟩
  ·cases h
 ·cases h
theorem Y0 {H:List (Nat×Blk)}:∀(cells:List AV) (t:List OC) (m:Nat) (cs:List OC) (ns:List (Option (Nat×Nat))) (l:List Nat),YT H m cells t=some (cs,ns,l)->Split H m cells t cs ns l
 | [],[],m,cs,ns,l,h=>by simp only[YT,jIj,jPj] at h;obtain⟨rfl,rfl,rfl⟩:=h;exact⟨⟨fun i sz es hc=>by simp at hc,fun i x hc=>by simp at hc,rfl⟩,rfl,rfl,fun i y hc=>by simp at hc,fun i sz es hc=>by simp at hc⟩
 | [],s::t,m,cs,ns,l,h=>by simp[YT] at h
 | x::xs,[],m,cs,ns,l,h=>by simp[YT] at h
 | x::xs,.dat d::t,m,cs,ns,l,h=>by
  simp only[YT] at h;split at h;case h_2=>cases h
  rename_i y N j o gs1 C E;simp only[jIj,jPj] at h;obtain⟨rfl,rfl,rfl⟩:=h;have a:=Y0 xs t (m+1) j o gs1 E;refine⟨⟨fun i sz es hc=>?_,fun i z hc=>?_,by simp[a.nm.len]⟩,by simp[a.len],by simp[a.lenS],fun i z hc=>?_,fun i sz es hc=>?_⟩
  ·cases i with
   | zero=>simp at hc
   | succ i=>simpa using a.nm.row i sz es (by simpa using hc)
  ·cases i with
   | zero=>rfl
   | succ i=>simpa using a.nm.dat i z (by simpa using hc)
  ·cases i with
   | zero =>
    simp only[jzj,jIj,OC.dat.injEq] at hc;subst hc;exact⟨rfl,x,N,rfl,C,fun b F=>List.mem_append.2 (.inl F)⟩
   | succ i =>
    obtain⟨q,L,k,r,G,J⟩:=a.dat i z (by simpa using hc);exact⟨by simpa using q,L,k,by simpa using r,G,fun b F=>List.mem_append.2 (.inr (J b F))⟩
  ·cases i with
   | zero=>simp at hc
   | succ i =>
    obtain⟨n,v,q,r⟩:=a.row i sz es (by simpa using hc);refine⟨n,v,by simpa using q,?_⟩;obtain⟨u,e,f,g⟩|⟨z,e,f,g,A,K⟩:=r
    ·exact .inl ⟨u,by simpa using e,f,g⟩
    ·exact .inr ⟨z,by simpa using e,f,by omega,A,K⟩
 | x::xs,.row s0 e0::t,m,cs,ns,l,h=>by
  simp only[YT] at h;split at h;case h_2=>cases h
  rename_i c p j o gs1 C E;simp only[jIj,jPj] at h;obtain⟨rfl,rfl,rfl⟩:=h;have a:=Y0 xs t (m+1) j o gs1 E;obtain⟨M,rfl,O⟩:=Qdb C;refine⟨⟨fun i sz es hc=>?_,fun i z hc=>?_,by simp[a.nm.len]⟩,by simp[a.len],by simp[a.lenS],fun i z hc=>?_,fun i sz es hc=>?_⟩
  ·cases i with
   | zero=>exact⟨p,rfl⟩
   | succ i=>simpa using a.nm.row i sz es (by simpa using hc)
  ·cases i with
   | zero=>simp at hc
   | succ i=>simpa using a.nm.dat i z (by simpa using hc)
  ·cases i with
   | zero=>simp at hc
   | succ i =>
    obtain⟨q,L,k,r,G,J⟩:=a.dat i z (by simpa using hc);exact⟨by simpa using q,L,k,by simpa using r,G,J⟩
  ·cases i with
   | zero =>
    simp only[jzj,jIj,OC.row.injEq] at hc;obtain⟨rfl,rfl⟩:=hc;refine⟨p.1,p.2,rfl,?_⟩;obtain⟨u,e,f,g⟩|⟨z,e,f,g,A⟩:=O
    ·exact .inl ⟨u,by rw[e];rfl,f,g⟩
    ·subst g;exact .inr ⟨z,by rw[e];rfl,f,rfl,A,rfl⟩
   | succ i =>
    obtain⟨n,v,q,r⟩:=a.row i sz es (by simpa using hc);refine⟨n,v,by simpa using q,?_⟩;obtain⟨u,e,f,g⟩|⟨z,e,f,g,A,K⟩:=r
    ·exact .inl ⟨u,by simpa using e,f,g⟩
    ·exact .inr ⟨z,by simpa using e,f,by omega,A,K⟩
theorem QeC {cx:Cx}{F:Nat->Prop}{H:List (Nat×Blk)}{ρ:Nat->Value}{w:World}(hs:HSim cx F H ρ w){fz:List Nat}{b m:Nat}{x:AV}{cells:List AV}{ss cs:List OC}{ns:List (Option (Nat×Nat))}{gs:List Nat}
  (hb:look H b=some (.box x)) (hx:x.cells=some cells) (a0:Gi x=true) (b6:YT H m cells ss=some (cs,ns,gs)) (b3:∀q,q∈gs->q∈fz) (C:E3 b fz ns=true) :
  ∃ρc:Nat->Value,ρc 0=ρ b/\(∀r,Mut (Zx cs) ρc r->Mut (Qd H fz++H) ρ r) /\
   HSim cx (fun r=>F r\/(Mut (Qd H fz++H) ρ r/\¬Mut (Zx cs) ρc r)) (Zx cs) ρc w /\
   (∀n k r,look (Qd H fz++H) n=some k->k.live=true->QX (ρ n)=some r->Mut (Zx cs) ρc r->n=b\/∃(i v:Nat),ns[i]?=some (some (n,v))) /\
   (∀(i n v:Nat),ns[i]?=some (some (n,v+1))->ρc (i+1)=ρ n):=by
 obtain⟨L,_⟩:=hs.freeze fz;have sp:=Y0 cells ss m cs ns gs b6;obtain⟨r0,e0,v,c4,p1,p2,p3,p4⟩:=hs.blk b _ hb;rw[hx] at p3;cases p3;obtain⟨c1,c2,Y⟩:=Yp hx p4;obtain⟨ys,rfl⟩:∃ys:List Value,v=.agg ys.toArray:=by
  cases p4 with
  | agg _ ys _ _=>exact⟨ys,rfl⟩
  | d z _ hd =>
   cases hd with
   | agg _ ys _ _=>exact⟨ys,rfl⟩
   | _=>simp[Gi] at a0
  | _=>simp[Gi] at a0
 have b8:(Value.agg ys.toArray).cells=ys.toArray:=rfl;rw[b8] at c1 Y p2;have a8:look (Qd H fz++H) b=some (.box x):=by rw[QY _ _ _ (Xn C)];exact hb
 have b9:ys.length=cs.length:=by rw[sp.len,<-c1];simp
 refine⟨fun n=>if n=0 then ρ b else ys.getD (n - 1) undef,by simp,?_⟩;-- the row of a cell
 have f:∀{i:Nat} {y:Value},ys[i]?=some y->(fun n=>if n=0 then ρ b else ys.getD (n - 1) undef) (i+1)=y:=by intro i y h;simp only[Nat.add_one_ne_zero,if_false,Nat.add_sub_cancel,List.getD_eq_getElem?_getD,h,Option.getD_some]
 have E:∀{i sz:Nat} {es:jVj},cs[i]?=some (.row sz es)->∃(y:Value) (n o : Nat),ys[i]?=some y/\ns[i]?=some (some (n,o))/\one y=true /\
   ((∃u,look H n=some (.row u sz es)/\look (Qd H fz++H) n=some (.row u sz es)/\y=ρ n)\/(es=[]/\∃a,y=.slice a 0 0)):=by
  intro i sz es hc;obtain⟨n,o,q1,q2⟩:=sp.row i sz es hc;obtain⟨u,U,G,r3⟩|⟨z,U,G,r3,r4,r5⟩:=q2
  ·obtain⟨y,p,S⟩:=Y i _ U;have e : ys[i]?=some y:=by simpa using p
   cases S with
   | own _ _ k _ hk b7 W hh =>
    rw[G] at hk;cases hk;refine⟨y,n,o,e,q1,W,.inl ⟨u,G,?_,hh rfl⟩⟩;rw[QY _ _ _ (V7 C i n o q1).2.1];exact G
  ·obtain⟨y,p,S⟩:=Y i _ U;have e : ys[i]?=some y:=by simpa using p
   cases S with
   | d _ _ hd =>
    cases hd with
    | lst _ _ _ a cap _ _ _ N c0 =>
     have a6:=N rfl;simp only[List.length_nil] at a6;subst a6;exact⟨_,n,o,e,q1,rfl,.inr ⟨G,a,rfl⟩⟩
 have s:∀{n:Nat} {k:Blk} {r:Nat},look (Zx cs) n=some k->k.live=true->QX ((fun n=>if n=0 then ρ b else ys.getD (n - 1) undef) n)=some r ->
   ∃A,(A=b/\n=0\/∃i o,ns[i]?=some (some (A,o))/\n=i+1)/\∃T,look (Qd H fz++H) A=some T/\T.live=true/\QX (ρ A)=some r:=by
  intro n k r hn hk t;obtain⟨rfl,rfl⟩|⟨i,sz,es,rfl,hc,rfl⟩:=GR hn
  ·exact⟨b,.inl ⟨rfl,rfl⟩,_,a8,rfl,by simpa using t⟩
  ·obtain⟨y,A,o,p,Q,W,O⟩:=E hc;rw[f p] at t;obtain⟨u,_,k2,k3⟩|⟨_,a,rfl⟩:=O
   ·exact⟨A,.inr ⟨i,o,Q,rfl⟩,_,k2,rfl,by rw[<-k3];exact t⟩
   ·rw[WG] at t;cases t
 have P:∀r,Mut (Zx cs) (fun n=>if n=0 then ρ b else ys.getD (n - 1) undef) r->Mut (Qd H fz++H) ρ r:=by rintro r ⟨n,k,J,h2,h3⟩;obtain⟨A,_,T,h4,h5,h6⟩:=s J h2 h3;exact⟨A,T,h4,h5,h6⟩
 have M:∀r,MM (fun r=>F r\/(Mut (Qd H fz++H) ρ r/\¬Mut (Zx cs) (fun n=>if n=0 then ρ b else ys.getD (n - 1) undef) r)) (Zx cs) (fun n=>if n=0 then ρ b else ys.getD (n - 1) undef) r->MM F (Qd H fz++H) ρ r:=by
  rintro r ((h|⟨h,_⟩)|h)
  ·exact .inl h
  ·exact .inr h
  ·exact .inr (P r h)
 refine⟨P,⟨fun n k hn=>?_,fun n A k T r J h2 m1 m2 U G=>?_,fun r t N=>?_,fun r t=>?_,fun g z hg=>(L.glob g z hg).ext (jLj _) (fun _ _ _=>rfl) fun r _ h=>M r h⟩,?_,?_⟩
 ·obtain⟨rfl,rfl⟩|⟨i,sz,es,rfl,hc,rfl⟩:=GR hn
  ·have b2:Vw (G8 1 cs)=true:=by
    have:∀(l:List AV),(∀(i:Nat) (c:AV),l[i]?=some c->c.isOne=true)->Vw l=true:=by
     intro l;induction l with
     | nil=>intro _;rfl
     | cons x l ih=>intro h;simp only[Vw,jAj];exact⟨h 0 x rfl,ih fun i c hc=>h (i+1) c (by simpa using hc)⟩
    refine this _ fun i c hc=>?_;rw[VK] at hc;split at hc
    ·cases hc
    ·rename_i y p;cases hc;obtain⟨_,x',Z,q2,q3,_⟩:=sp.dat i y p;exact Qhm q3 (Yi c2 q2)
    ·cases hc;rfl
   obtain⟨b4,a7⟩:=Option.isSome_iff_exists.1 (zW b2);refine⟨r0,e0,.agg ys.toArray,b4,by simpa using p1,p2,a7,Ug (.agg _ ys (by rw[K8,b9]) fun i c y hc p=>?_)⟩;rw[VK] at hc;split at hc
   ·cases hc
   ·rename_i z hz;cases hc;obtain⟨_,x',Z,q2,q3,q4⟩:=sp.dat i z hz;obtain⟨y',e,S⟩:=Y i x' q2;have:y'=y:=by
     have h0:ys[i]?=some y':=by simpa using e
     rw[p] at h0;exact(Option.some.inj h0).symm
    subst this;exact .d _ _ ((Z8 hs fz x' y' z Z q3 (fun q hq=>b3 q (q4 q hq)) S).ext (jLj _) (fun _ _ _=>rfl) fun r _ h=>M r h)
   ·rename_i sz es hz;cases hc;obtain⟨y',A,o,e,Q,W,_⟩:=E hz;have:y'=y:=by rw[p] at e;exact(Option.some.inj e).symm
    subst this;exact .own _ 0 _ _ (by rw[Nat.add_comm];exact Kz hz) (jLj _) W fun _=>by rw[Nat.add_comm];exact(f p).symm
  ·obtain⟨y,A,o,p,Q,W,O⟩:=E hc;have h0:RowV w (MM F (Qd H fz++H) ρ) y sz es:=by
    obtain⟨u,_,k2,k3⟩|⟨rfl,a,rfl⟩:=O
    ·have:=L.blk A _ k2;rw[k3];exact this
    ·exact .inl ⟨rfl,a,rfl⟩
   have J:=h0.sub (M':=MM (fun r=>F r\/(Mut (Qd H fz++H) ρ r/\¬Mut (Zx cs) (fun n=>if n=0 then ρ b else ys.getD (n - 1) undef) r)) (Zx cs) (fun n=>if n=0 then ρ b else ys.getD (n - 1) undef)) fun r _ h=>M r h;rw[<-f p] at J;exact J
 ·obtain⟨a,V,ka,X,a3,a4⟩:=s J m1 U;obtain⟨c,d1,kc,d2,d3,d4⟩:=s h2 m2 G;have b5:=L.inj a c ka kc r X d2 a3 d3 a4 d4;subst b5;obtain⟨rfl,rfl⟩|⟨i,o,K,rfl⟩:=V<;>obtain⟨hd,rfl⟩|⟨j,u',hj,rfl⟩:=d1
  ·rfl
  ·exact absurd rfl (V7 C j a u' hj).1
  ·exact absurd hd (V7 C i a o K).1
  ·rw[(V7 C i a o K).2.2 j u' hj]
 ·obtain N|⟨_,N⟩:=N
  ·exact L.forb r (P r t) N
  ·exact N t
 ·obtain t|⟨t,_⟩:=t
  ·exact L.bnd r t
  ·exact L.mut_lt t
 ·rintro n k r J h2 h3 ⟨A,T,h4,h5,h6⟩;obtain⟨a,V,ka,X,a3,a4⟩:=s h4 h5 h6;have:=L.inj n a k ka r J X h2 a3 h3 a4;subst this;obtain⟨rfl,_⟩|⟨i,o,K,_⟩:=V
  ·exact .inl rfl
  ·exact .inr ⟨i,o,K⟩
 ·intro i n v K;have a9:i<cs.length:=by have:=(jGj K).1;rw[sp.nm.len,sp.lenS,<-sp.len] at this;exact this
  cases hc:cs[i] with
  | dat z =>
   have:=(sp.dat i z (by rw[jej a9,hc])).1;rw[K] at this;cases this
  | row sz es =>
   obtain⟨A,o,V,X⟩:=sp.row i sz es (by rw[jej a9,hc]);rw[K] at V;cases V;obtain⟨u,U,G,r3⟩|⟨z,_,_,_,_,r⟩:=X
   ·obtain⟨y,p,S⟩:=Y i _ U;have e : ys[i]?=some y:=by simpa using p
    rw[f e];cases S with
    | own _ _ T _ a5 b7 W hh =>
     rw[G] at a5;cases a5;exact hh rfl
   ·cases r
mutual
theorem Qar {cx:Cx}{F:Nat->Prop}{H:List (Nat×Blk)}{ρ:Nat->Value}{w:World}(hs:HSim cx F H ρ w){fz:List Nat}{bo:Option Nat}{M:Nat->Prop}{hc:List (Nat×Blk)}{ρc:Nat->Value}(hM:∀r,M r->MM F (Qd H fz++H) ρ r)
  (hb:∀b0,bo=some b0->(∃x,look H b0=some (.box x))/\(∃x,look hc 0=some (.box x))/\ρc 0=ρ b0) :
  ∀(x:AV) (v:Value) (y:AV) (fs:List Nat),x.argO H bo=some (y,fs)->(∀b,b∈fs->b∈fz)->VR w (MM F H ρ) H ρ x v->VR w M hc ρc y v
 | .ptr b' ver sz i off,v,y,fs,h,hf,hr=>by
  simp only[AV.argO] at h;split at h;case h_2 =>
   split at h;case h_2=>cases h
   rename_i z f1 h1;simp only[jIj,jPj] at h;obtain⟨rfl,rfl⟩:=h;exact .d _ _ ((Z8 hs fz _ v z f1 h1 hf hr).ext (jLj _) (fun _ _ _=>rfl) fun r _ h=>hM r h)
  rename_i he;simp only[jIj,jPj] at h;obtain⟨rfl,rfl⟩:=h;simp only[jAj] at he;obtain⟨⟨⟨e1,e2⟩,e3⟩,e4⟩:=he;obtain⟨b0,rfl⟩:∃b0,bo=some b0:=by
   cases bo with
   | none=>simp[isB0] at e1
   | some b0=>exact⟨b0,rfl⟩
  simp only[isB0] at e1;have e1:=jqj e1;have e2:=jqj e2;have e3:=jqj e3;have e4:=jqj e4;subst e1;subst e2;subst e3;subst e4;obtain⟨⟨x,hx⟩,⟨x0,hx0⟩,hρ⟩:=hb b0 rfl;cases hr with
  | ptr _ _ _ _ _ k _ hk hv ho hh =>
   rw[hx] at hk;cases hk;obtain⟨r,hr,hy⟩:=hh rfl;exact .ptr 0 0 0 0 off _ _ hx0 (jLj _) ho fun _=>⟨r,by rw[hρ];exact hr,hy⟩
 | .fn f a c,v,y,fs,h,hf,hr=>by
  simp only[AV.argO] at h;split at h;case h_2=>cases h
  rename_i x1 f1 y1 f2 h1 h2;simp only[jIj,jPj] at h;obtain⟨rfl,rfl⟩:=h;cases hr with
  | fn _ _ _ xs ys hl hm hh kk =>
   obtain⟨q1,q2⟩:=Yy hs hM hb a xs x1 f1 h1 (fun b hb=>hf b (List.mem_append.2 (.inl hb))) hl hh;obtain⟨q3,q4⟩:=Yy hs hM hb c ys y1 f2 h2 (fun b hb=>hf b (List.mem_append.2 (.inr hb))) hm kk;exact Ug (.fn _ _ _ _ _ q1 q3 q2 q4)
 | .agg cs,v,y,fs,h,hf,hr=>by
  simp only[AV.argO] at h;split at h;case h_2=>cases h
  rename_i l f1 h1;simp only[jIj,jPj] at h;obtain⟨rfl,rfl⟩:=h;cases hr with
  | agg _ ys hl hh =>
   obtain⟨q1,q2⟩:=Yy hs hM hb cs ys l f1 h1 hf hl hh;exact Ug (.agg _ _ q1 q2)
 | .tup cs,v,y,fs,h,hf,hr=>by
  simp only[AV.argO] at h;split at h;case h_2=>cases h
  rename_i l f1 h1;simp only[jIj,jPj] at h;obtain⟨rfl,rfl⟩:=h;cases hr with
  | tup _ ys hl hh =>
   obtain⟨q1,q2⟩:=Yy hs hM hb cs ys l f1 h1 hf hl hh;exact Ug (.tup _ _ q1 q2)
 | .d x,v,y,fs,h,hf,hr=>by
  simp only[AV.argO,jIj,jPj] at h;obtain⟨rfl,rfl⟩:=h;cases hr with
  | d _ _ hd=>exact .d _ _ (((hs.freeze fz).2.dr hd).ext (jLj _) (fun _ _ _=>rfl) fun r _ h=>hM r h)
 | .own n u,v,y,fs,h,hf,hr=>by
  simp only[AV.argO] at h;split at h;case h_2=>cases h
  rename_i z f1 h1;simp only[jIj,jPj] at h;obtain⟨rfl,rfl⟩:=h;exact .d _ _ ((Z8 hs fz _ v z f1 h1 hf hr).ext (jLj _) (fun _ _ _=>rfl) fun r _ h=>hM r h)
 | .dptr x o,v,y,fs,h,hf,hr=>by
  simp only[AV.argO,jIj,jPj] at h;obtain⟨rfl,rfl⟩:=h;cases hr with
  | dptr _ _ blk o' hd=>exact .d _ _ ((((hs.freeze fz).2.dat hd).ref _).ext (jLj _) (fun _ _ _=>rfl) fun r _ h=>hM r h)
 | .sub _ _ _ _ _,v,y,fs,h,hf,hr=>by simp[AV.argO] at h
 | .junk,v,y,fs,h,hf,hr=>by simp[AV.argO] at h
theorem Yy {cx:Cx}{F:Nat->Prop}{H:List (Nat×Blk)}{ρ:Nat->Value}{w:World}(hs:HSim cx F H ρ w){fz:List Nat}{bo:Option Nat}{M:Nat->Prop}{hc:List (Nat×Blk)}{ρc:Nat->Value}(hM:∀r,M r->MM F (Qd H fz++H) ρ r)
  (hb:∀b0,bo=some b0->(∃x,look H b0=some (.box x))/\(∃x,look hc 0=some (.box x))/\ρc 0=ρ b0) :
  ∀(cs:List AV) (ys:List Value) (l:List AV) (fs:List Nat),jj H bo cs=some (l,fs)->(∀b,b∈fs->b∈fz)->cs.length=ys.length ->
  (∀(i:Nat) (c:AV) (y:Value),cs[i]?=some c->ys[i]?=some y->VR w (MM F H ρ) H ρ c y) ->
  l.length=ys.length/\∀(i:Nat) (c:AV) (y:Value),l[i]?=some c->ys[i]?=some y->VR w M hc ρc c y
 | [],ys,l,fs,h,_,hl,_=>by simp only[jj,jIj,jPj] at h;obtain⟨rfl,rfl⟩:=h;cases ys<;>simp_all
 | x::cs,ys,l,fs,h,hf,hl,hh=>by
  simp only[jj] at h;split at h;case h_2=>cases h
  rename_i y1 f1 l1 f2 h1 h2;simp only[jIj,jPj] at h;obtain⟨rfl,rfl⟩:=h;cases ys with
  | nil=>simp at hl
  | cons y ys =>
   obtain⟨g1,g2⟩:=Yy hs hM hb cs ys l1 f2 h2 (fun b hb=>hf b (List.mem_append.2 (.inr hb))) (by simpa using hl) (fun i c z hc hz=>hh (i+1) c z (by simpa using hc) (by simpa using hz));refine⟨by simpa using g1,fun i c z hc hz=>?_⟩;cases i with
   | zero =>
    simp only[jzj,jIj] at hc hz;subst hc;subst hz;exact Qar hs hM hb x y y1 f1 h1 (fun b hb=>hf b (List.mem_append.2 (.inl hb))) (hh 0 x y rfl rfl)
   | succ i=>exact g2 i c z (by simpa using hc) (by simpa using hz)
end
mutual
theorem X2 {w:World}{M M' : Nat->Prop}{hc H:List (Nat×Blk)}{ρc ρ:Nat->Value}{b:Nat}(hM:∀r,M' r->M r)(hb:∃x,look H b=some (.box x))(hρ:ρ b=ρc 0)(h0:∃x,look hc 0=some (.box x)) :
  ∀(x:AV) (v:Value) (y:AV),x.resO b=some y->VR w M hc ρc x v->VR w M' H ρ y v
 | .d x,v,y,h,hr=>by
  simp only[AV.resO,jIj] at h;subst h;cases hr with
  | d _ _ hd=>exact .d _ _ (hd.ext (jLj _) (fun _ _ _=>rfl) fun r _ h=>hM r h)
 | .agg cs,v,y,h,hr=>by
  simp only[AV.resO] at h;split at h;case h_2=>cases h
  rename_i l h1;simp only[jIj] at h;subst h;cases hr with
  | agg _ ys hl hh =>
   obtain⟨q1,q2⟩:=EY hM hb hρ h0 cs ys l h1 hl hh;exact .agg _ _ q1 q2
 | .tup cs,v,y,h,hr=>by
  simp only[AV.resO] at h;split at h;case h_2=>cases h
  rename_i l h1;simp only[jIj] at h;subst h;cases hr with
  | tup _ ys hl hh =>
   obtain⟨q1,q2⟩:=EY hM hb hρ h0 cs ys l h1 hl hh;exact .tup _ _ q1 q2
 | .ptr b' ver sz i off,v,y,h,hr=>by
  simp only[AV.resO] at h;split at h;case h_2=>cases h
  rename_i he;simp only[jIj] at h;subst h;simp only[jAj] at he;obtain⟨⟨⟨e1,e2⟩,e3⟩,e4⟩:=he;have e1:=jqj e1;have e2:=jqj e2;have e3:=jqj e3;have e4:=jqj e4;subst e1;subst e2;subst e3;subst e4;obtain⟨x,hx⟩:=hb;obtain⟨x0,hx0⟩:=h0;cases hr with
  | ptr _ _ _ _ _ k _ hk hv ho hh =>
   rw[hx0] at hk;cases hk;obtain⟨r,hr,hy⟩:=hh rfl;exact .ptr b 0 0 0 off _ _ hx (jLj _) ho fun _=>⟨r,by rw[hρ];exact hr,hy⟩
 | .fn _ _ _,v,y,h,hr=>by simp[AV.resO] at h
 | .own _ _,v,y,h,hr=>by simp[AV.resO] at h
 | .dptr _ _,v,y,h,hr=>by simp[AV.resO] at h
 | .sub _ _ _ _ _,v,y,h,hr=>by simp[AV.resO] at h
 | .junk,v,y,h,hr=>by simp[AV.resO] at h
theorem EY {w:World}{M M' : Nat->Prop}{hc H:List (Nat×Blk)}{ρc ρ:Nat->Value}{b:Nat}(hM:∀r,M' r->M r)(hb:∃x,look H b=some (.box x))(hρ:ρ b=ρc 0)(h0:∃x,look hc 0=some (.box x)) :
  ∀(cs:List AV) (ys:List Value) (l:List AV),Qa8 b cs=some l->cs.length=ys.length ->
  (∀(i:Nat) (c:AV) (y:Value),cs[i]?=some c->ys[i]?=some y->VR w M hc ρc c y) ->
  l.length=ys.length/\∀(i:Nat) (c:AV) (y:Value),l[i]?=some c->ys[i]?=some y->VR w M' H ρ c y
 | [],ys,l,h,hl,_=>by simp only[Qa8,jIj] at h;subst h;cases ys<;>simp_all
 | x::cs,ys,l,h,hl,hh=>by
  simp only[Qa8] at h;split at h;case h_2=>cases h
  rename_i y1 l1 h1 h2;simp only[jIj] at h;subst h;cases ys with
  | nil=>simp at hl
  | cons y ys =>
   obtain⟨g1,g2⟩:=EY hM hb hρ h0 cs ys l1 h2 (by simpa using hl) (fun i c z hc hz=>hh (i+1) c z (by simpa using hc) (by simpa using hz));refine⟨by simpa using g1,fun i c z hc hz=>?_⟩;cases i with
   | zero =>
    simp only[jzj,jIj] at hc hz;subst hc;subst hz;exact X2 hM hb hρ h0 x y y1 h1 (hh 0 x y rfl rfl)
   | succ i=>exact g2 i c z (by simpa using hc) (by simpa using hz)
end
theorem jH:∀(cs:List OC) (m i n v:Nat),(YW m cs)[i]?=some (some (n,v))->n=m+i/\v=0
 | [],m,i,n,v,h=>by simp[YW] at h
 | .dat x::l,m,0,n,v,h=>by simp[YW] at h
 | .dat x::l,m,i+1,n,v,h=>by obtain⟨b,a⟩:=jH l (m+1) i n v (by simpa[YW] using h);exact⟨by omega,a⟩
 | .row s e::l,m,0,n,v,h=>by simp only[YW,jzj,jIj,jPj] at h;exact⟨by omega,h.2.symm⟩
 | .row s e::l,m,i+1,n,v,h=>by obtain⟨b,a⟩:=jH l (m+1) i n v (by simpa[YW] using h);exact⟨by omega,a⟩
theorem E6:∀(cs:List OC) (m:Nat),Names (YW m cs) cs
 | [],m=>⟨fun i sz es h=>by simp at h,fun i x h=>by simp at h,rfl⟩
 | .dat y::l,m=>by
  have a:=E6 l (m+1);refine⟨fun i sz es h=>?_,fun i x h=>?_,by simp[YW,a.len]⟩
  ·cases i with
   | zero=>simp at h
   | succ i=>simpa[YW] using a.row i sz es (by simpa using h)
  ·cases i with
   | zero=>simp[YW]
   | succ i=>simpa[YW] using a.dat i x (by simpa using h)
 | .row s e::l,m=>by
  have a:=E6 l (m+1);refine⟨fun i sz es h=>?_,fun i x h=>?_,by simp[YW,a.len]⟩
  ·cases i with
   | zero=>exact⟨(m,0),by simp[YW]⟩
   | succ i=>simpa[YW] using a.row i sz es (by simpa using h)
  ·cases i with
   | zero=>simp at h
   | succ i=>simpa[YW] using a.dat i x (by simpa using h)
theorem Names.keep {ns:List (Option (Nat×Nat))}{cs:List OC}(h:Names ns cs)(ks:List Bool):Names (WD ks ns) cs :=
 ⟨fun i sz es hc=>by obtain⟨⟨n,v⟩,hp⟩:=h.row i sz es hc;obtain⟨u,a⟩:=GU ks ns i n v hp;exact⟨_,a⟩,fun i x hc=>kZ ks ns i (h.dat i x hc),by rw[uD];exact h.len⟩
theorem Qi4 {x:AV}{cells:List AV}(h:QeP x=true)(a:x.cells=some cells)(c:Gi x=true):AV.norm (.agg cells)=x:=by
 cases x with
 | agg l =>
  simp only[AV.cells] at a;split at a;case h_2=>cases a
  cases a;simp only[QeP] at h;unfold AV.norm;simp only[AV.toD];split at h
  ·rename_i e;rw[e]
  ·cases h
 | d y =>
  cases y with
  | agg ds =>
   have b:=KX a;subst b;have:∀ds:jVj,Ju (ds.map .d)=some ds:=by
    intro ds;induction ds with
    | nil=>rfl
    | cons d ds ih=>simp only[jCj,Ju,AV.toD,ih]
   simp only[SX.D.cells,AV.norm,AV.toD,this]
  | _=>cases h
 | _=>cases h
theorem zQ {H:List (Nat×Blk)}:∀(cells:List AV) (j:List OC) (m:Nat) (cs:List OC) (ns:List (Option (Nat×Nat))) (g:List Nat) (ks:List Bool),YT H m cells j=some (cs,ns,g)->Ge ks cells j=true ->
  ZH (WD ks ns) cs=cells/\∀(i n v:Nat),(WD ks ns)[i]?=some (some (n,v))->∃sz es,cs[i]?=some (.row sz es)/\look H n=some (.row v sz es)
 | [],[],m,cs,ns,g,ks,h,hp=>by simp only[YT,jIj,jPj] at h;obtain⟨rfl,rfl,rfl⟩:=h;rw[Gf];exact⟨rfl,fun i n v c=>by simp at c⟩
 | [],_::_,m,cs,ns,g,ks,h,hp=>by simp[YT] at h
 | _::_,[],m,cs,ns,g,ks,h,hp=>by simp[YT] at h
 | x::xs,.dat y0::j,m,cs,ns,g,ks,h,hp=>by
  match ks,x,hp with
  | true::ks,.d y,hp =>
   simp only[Ge] at hp;simp only[YT,AV.toDH] at h;split at h;case h_2=>cases h
   rename_i G s e f gs1 k o;simp only[jIj,jPj] at k;obtain⟨rfl,rfl⟩:=k;simp only[jIj,jPj] at h;obtain⟨rfl,rfl,rfl⟩:=h;obtain⟨p,A⟩:=zQ xs j (m+1) e f gs1 ks o hp;refine⟨by simp only[WD,ZH,p],fun i n v c=>?_⟩;cases i with
   | zero=>simp[WD] at c
   | succ i=>simpa using A i n v (by simpa[WD] using c)
 | x::xs,.row sz0 e0::j,m,cs,ns,g,ks,h,hp=>by
  match ks,x,hp with
  | true::ks,.own n0 u0,hp =>
   simp only[Ge] at hp;simp only[YT] at h;split at h;case h_2=>cases h
   rename_i F p e f gs1 k o;simp only[jIj,jPj] at h;obtain⟨rfl,rfl,rfl⟩:=h;obtain⟨C,E⟩:=zQ xs j (m+1) e f gs1 ks o hp;obtain⟨es,rfl,t⟩:=Qdb k;obtain⟨u,l,q,r⟩|⟨z,l,_⟩:=t
   ·obtain⟨a,b⟩:=p;simp only at r q l;subst r;cases l;refine⟨by simp only[WD,ZH,C],fun i n v c=>?_⟩;cases i with
    | zero =>
     simp only[WD,jzj,jIj,jPj] at c;obtain⟨rfl,rfl⟩:=c;exact⟨sz0,es,rfl,q⟩
    | succ i=>simpa using E i n v (by simpa[WD] using c)
   ·cases l
theorem Qet {H:List (Nat×Blk)}(cells:List AV)(a:List OC)(m:Nat)(cs:List OC)(ns:List (Option (Nat×Nat)))(b:List Nat)(ks:List Bool)(h:YT H m cells a=some (cs,ns,b))(_:Ge ks cells a=true):Names ns cs:=by
 have sp:=Y0 cells a m cs ns b h;refine⟨fun i sz es hc=>?_,fun i y hc=>(sp.dat i y hc).1,?_⟩
 ·obtain⟨n,v,c,_⟩:=sp.row i sz es hc;exact⟨_,c⟩
 ·rw[sp.nm.len,sp.lenS,sp.len]
theorem Qjr {cx:Cx}{H:List (Nat×Blk)}{nx:Nat}{f:FuncId}{g:List AV}{b ver sz:Nat}{es:jVj}{r:AV}{Q : List OC}{o' : List Orc}{t:RC}(h:arow cx H nx f g b ver sz es r Q o'=some t)(hb:look H b=some (.row ver sz es))(K:∀p,p∈t.ob->p)
  {F:Nat->Prop} {ρ:Nat->Value} {w:World} {vs:List Value} (hs:HSim cx F H ρ w) (V:g.length=vs.length)
  (hv:∀(i:Nat) (c:AV) (y:Value),g[i]?=some c->vs[i]?=some y->VR w (MM F H ρ) H ρ c y) :
  Calls cx.P f vs.toArray w fun e w'=>∃v,e=.returned v/\∃ρ',HSim cx F (t.heap H) ρ' w'/\Steps1 H ρ w (t.heap H) ρ' w'/\VR w' (MM F (t.heap H) ρ') (t.heap H) ρ' t.val v:=by
 unfold arow at h;split at h;case h_2=>cases h
 rename_i j ver' O z L';split at h;case h_2=>cases h
 rename_i ds l hc E;split at h
 ·cases h
 rename_i J;simp only[jAj] at hc;obtain⟨⟨S,T⟩,U⟩:=hc;have S:=jqj S;have T:=jqj T;have U:=jqj U;subst S;subst T;subst U;simp only[jIj] at h;subst h;have s:QiF cx f z es ds L':=K _ jMj;have X:es≠[]:=K _ (jmj _ jMj);match vs,V with
 | u::us,V =>
  have hu:=hv 0 _ u rfl rfl;have a0:u=ρ j:=by
   cases hu with
   | own _ _ k _ hk _ _ hh=>rw[hb] at hk;cases hk;exact hh rfl
  obtain⟨A,g2⟩:=hs.freeze l;obtain⟨d1,d2⟩:=Yv hs l O us ds l E (fun _ h=>h) (by simpa using V) (fun i c y hc hy=>hv (i+1) c y (by simpa using hc) (by simpa using hy));have Y:¬j∈l:=by
   intro hm;have:l.contains j=true:=by simpa using hm
   rw[this] at J;cases J
  have o:look (Qd H l++H) j=some (.row ver' z es):=by rw[QY _ _ _ Y];exact hb
  obtain⟨rfl,_⟩|⟨q,c,e,cap,N,⟨q2,a⟩,q3,q4,q5,q6⟩:=A.blk j _ o
  ·exact absurd rfl X
  have W:Mut (Qd H l++H) ρ q:=⟨j,_,o,rfl,by rw[N];exact Q8 a⟩
  rw[a0,N];refine(s w (MM F (Qd H l++H) ρ) q cap c e us (fun r L=>?_) A.glob (.inr W) d1 d2 q4 ⟨q5,q6⟩ q2 q3).mono ?_
  ·obtain L|L:=L
   ·exact A.bnd r L
   ·exact A.mut_lt L
  ·rintro e' w' ⟨rfl,m,c',Z,n,C,G⟩;obtain⟨k1,k2⟩:=A.write (b:=j) (k:=.row ver' z L') (v:=ρ j) o rfl (r:=q) (by rw[N];exact Q8 a) (by rw[N];exact Q8 a) (.inr ⟨rfl,rfl⟩) G
    (fun M=>.inr ⟨q,c',e,cap,by rw[Qx,N,m],⟨by rw[m];exact q2,a⟩,by rw[Z];exact q3,C,(n.mono (fun x y E=>M.dr E)).1,(n.mono (fun x y E=>M.dr E)).2⟩)
   exact⟨.tuple #[],rfl,_,k1,g2.trans k2,.d _ _ (.tup [] [] rfl fun i c y h=>by simp at h)⟩
theorem Yx {cx:Cx}{F:Nat->Prop}{H:List (Nat×Blk)}{ρ:Nat->Value}{w:World}(j:HSim cx F H ρ w){fz:List Nat}{b:Nat}{M:Nat->Prop}{hc:List (Nat×Blk)}{ρc:Nat->Value}(f:∀r,M r->MM F (Qd H fz++H) ρ r)
  {x:AV} {v:Value} {y:AV} {a:List Nat} (h:zD H b x=some (y,a)) (g:∀b,b∈a->b∈fz) (i:VR w (MM F H ρ) H ρ x v):VR w M hc ρc y v:=by
 unfold zD at h;split at h;case h_2=>cases h
 rename_i z c e;split at h
 ·cases h
 simp only[jIj,jPj] at h;obtain⟨rfl,rfl⟩:=h;exact .d _ _ ((Z8 j fz _ v z c e g i).ext (jLj _) (fun _ _ _=>rfl) fun r _ h=>f r h)
mutual
theorem Qfd {cx:Cx}{F:Nat->Prop}{H:List (Nat×Blk)}{ρ:Nat->Value}{w:World}(hs:HSim cx F H ρ w){fz:List Nat}{b:Nat}{es:jVj}(hb:look H b=some (.mp es)){M:Nat->Prop}{ρc:Nat->Value}(hM:∀r,M r->MM F (Qd H fz++H) ρ r)(hρ:ρc 0=ρ b) :
  ∀(x:AV) (v:Value) (y:AV) (fs:List Nat),x.argM H b=some (y,fs)->(∀b,b∈fs->b∈fz)->VR w (MM F H ρ) H ρ x v->VR w M [(0,.mp es)] ρc y v
 | .own n u,v,y,fs,h,hf,hr=>by
  simp only[AV.argM] at h;split at h
  ·rename_i he;simp only[jIj,jPj] at h;obtain⟨rfl,rfl⟩:=h;simp only[jAj] at he;obtain⟨e1,e2⟩:=he;have e1:=jqj e1;have e2:=jqj e2;subst e1;subst e2;cases hr with
   | own _ _ k _ hk hv ho hh =>
    rw[hb] at hk;cases hk;exact .own 0 0 (.mp es) _ rfl (jLj _) ho fun _=>by rw[hρ];exact hh rfl
  ·exact Yx hs hM h hf hr
 | .agg cs,v,y,fs,h,hf,hr=>by
  simp only[AV.argM] at h;split at h
  ·rename_i r0 h0;simp only[jIj] at h;subst h;exact Yx hs hM h0 hf hr
  ·split at h;case h_2=>cases h
   rename_i l f1 h1;simp only[jIj,jPj] at h;obtain⟨rfl,rfl⟩:=h;cases hr with
   | agg _ ys hl hh =>
    obtain⟨q1,q2⟩:=qz hs hb hM hρ cs ys l f1 h1 hf hl hh;exact .agg _ _ q1 q2
 | .d x,v,y,fs,h,hf,hr=>by simp only[AV.argM] at h;exact Yx hs hM h hf hr
 | .tup cs,v,y,fs,h,hf,hr=>by simp only[AV.argM] at h;exact Yx hs hM h hf hr
 | .dptr x o,v,y,fs,h,hf,hr=>by simp only[AV.argM] at h;exact Yx hs hM h hf hr
 | .ptr _ _ _ _ _,v,y,fs,h,hf,hr=>by simp only[AV.argM] at h;exact Yx hs hM h hf hr
 | .sub _ _ _ _ _,v,y,fs,h,hf,hr=>by simp only[AV.argM] at h;exact Yx hs hM h hf hr
 | .fn _ _ _,v,y,fs,h,hf,hr=>by simp only[AV.argM] at h;exact Yx hs hM h hf hr
 | .junk,v,y,fs,h,hf,hr=>by simp only[AV.argM] at h;cases h
theorem qz {cx:Cx}{F:Nat->Prop}{H:List (Nat×Blk)}{ρ:Nat->Value}{w:World}(hs:HSim cx F H ρ w){fz:List Nat}{b:Nat}{es:jVj}(hb:look H b=some (.mp es)){M:Nat->Prop}{ρc:Nat->Value}(hM:∀r,M r->MM F (Qd H fz++H) ρ r)(hρ:ρc 0=ρ b) :
  ∀(cs:List AV) (ys:List Value) (l:List AV) (fs:List Nat),QbJ H b cs=some (l,fs)->(∀b,b∈fs->b∈fz)->cs.length=ys.length ->
  (∀(i:Nat) (c:AV) (y:Value),cs[i]?=some c->ys[i]?=some y->VR w (MM F H ρ) H ρ c y) ->
  l.length=ys.length/\∀(i:Nat) (c:AV) (y:Value),l[i]?=some c->ys[i]?=some y->VR w M [(0,.mp es)] ρc c y
 | [],ys,l,fs,h,_,hl,_=>by simp only[QbJ,jIj,jPj] at h;obtain⟨rfl,rfl⟩:=h;cases ys<;>simp_all
 | x::cs,ys,l,fs,h,hf,hl,hh=>by
  simp only[QbJ] at h;split at h;case h_2=>cases h
  rename_i y1 f1 l1 f2 h1 h2;simp only[jIj,jPj] at h;obtain⟨rfl,rfl⟩:=h;cases ys with
  | nil=>simp at hl
  | cons y ys =>
   obtain⟨g1,g2⟩:=qz hs hb hM hρ cs ys l1 f2 h2 (fun b hb=>hf b (List.mem_append.2 (.inr hb))) (by simpa using hl) (fun i c z hc hz=>hh (i+1) c z (by simpa using hc) (by simpa using hz));refine⟨by simpa using g1,fun i c z hc hz=>?_⟩;cases i with
   | zero =>
    simp only[jzj,jIj] at hc hz;subst hc;subst hz;exact Qfd hs hb hM hρ x y y1 f1 h1 (fun b hb=>hf b (List.mem_append.2 (.inl hb))) (hh 0 x y rfl rfl)
   | succ i=>exact g2 i c z (by simpa using hc) (by simpa using hz)
end
theorem X9 {es:jVj}{m q:Nat}:Mut [(0,.mp es)] (fun _=>.map (some m)) q↔q=m:=by
 constructor
 ·rintro⟨n,k,b,_,a⟩;simp only[QX,jIj] at a;exact a.symm
 ·rintro rfl;exact⟨0,.mp es,rfl,rfl,rfl⟩
theorem Xo {k:Blk}{n:Nat}{b : Blk}(h:look [(0,k)] n=some b):n=0/\b=k:=by
 by_cases a:n=0
 ·subst a;rw[Qf] at h;cases h;exact⟨rfl,rfl⟩
 ·rw[Qc _ _ (Ne.symm a)] at h;cases h
theorem Qjs {cx:Cx}{H:List (Nat×Blk)}{nx:Nat}{f:FuncId}{j:List AV}{b:Nat}{es:jVj}{r:AV}{U : List OC}{o' : List Orc}{G:RC}(h:amap cx H nx f j b es r U o'=some G)(hb:look H b=some (.mp es))(Z:∀p,p∈G.ob->p)
  {F:Nat->Prop} {ρ:Nat->Value} {w:World} {vs:List Value} (hs:HSim cx F H ρ w) (hl:j.length=vs.length)
  (hv:∀(i:Nat) (c:AV) (y:Value),j[i]?=some c->vs[i]?=some y->VR w (MM F H ρ) H ρ c y) :
  Calls cx.P f vs.toArray w fun e w'=>∃v,e=.returned v/\∃ρ',HSim cx F (G.heap H) ρ' w'/\Steps1 H ρ w (G.heap H) ρ' w'/\VR w' (MM F (G.heap H) ρ') (G.heap H) ρ' G.val v:=by
 unfold amap at h;split at h;case h_2=>cases h
 rename_i xs o es' y z;split at h
 ·cases h
 rename_i Q;simp only[jIj] at h;subst h;have N:jo cx f xs es y es':=Z _ jMj;obtain⟨J,g2⟩:=hs.freeze o;have Y:¬b∈o:=by
  intro hm;have:o.contains b=true:=by simpa using hm
  rw[this] at Q;cases Q
 have A:look (Qd H o++H) b=some (.mp es):=by rw[QY _ _ _ Y];exact hb
 obtain⟨m,V,c0,M,q2,q3⟩:=J.blk b _ A;have O:Mut (Qd H o++H) ρ m:=⟨b,_,A,rfl,by rw[M];rfl⟩
 obtain⟨u,l⟩:∃u : Nat->Prop,u=fun q=>F q\/(Mut (Qd H o++H) ρ q/\q≠m):=⟨_,rfl⟩
 have E:∀(e:jVj) (q:Nat),MM u [(0,.mp e)] (fun _=>.map (some m)) q->MM F (Qd H o++H) ρ q:=by
  rintro e q (a|a)
  ·rw[l] at a;obtain a|a:=a
   ·exact .inl a
   ·exact .inr a.1
  ·rw[X9] at a;subst a;exact .inr O
 have s:∀(e:jVj) (q:Nat),MM F (Qd H o++H) ρ q->MM u [(0,.mp e)] (fun _=>.map (some m)) q:=by
  rintro e q (a|a)
  ·exact .inl (by rw[l];exact .inl a)
  ·by_cases S:q=m
   ·exact .inr (X9.2 S)
   ·exact .inl (by rw[l];exact .inr ⟨a,S⟩)
 have hS:HSim cx u [(0,.mp es)] (fun _=>.map (some m)) w:=by
  refine⟨fun n k L=>?_,fun n n' k k' q L X _ _ _ _=>?_,fun q a K=>?_,fun q a=>?_,fun g x hg=>?_⟩
  ·obtain⟨rfl,rfl⟩:=Xo L;exact⟨m,V,c0,rfl,q2,q3.ext (jLj _) (fun _ _ _=>rfl) fun q _ a=>E es q a⟩
  ·rw[(Xo L).1,(Xo X).1]
  ·rw[X9] at a;subst a;rw[l] at K;obtain K|K:=K
   ·exact J.forb _ O K
   ·exact K.2 rfl
  ·rw[l] at a;obtain a|a:=a
   ·exact J.bnd q a
   ·exact J.mut_lt a.1
  ·exact(J.glob g x hg).ext (jLj _) (fun _ _ _=>rfl) fun q _ a=>E es q a
 obtain⟨d1,d2⟩:=qz (ρc:=fun _=>.map (some m)) hs hb (fun q a=>E es q a) M.symm j vs xs o z (fun _ h=>h) hl hv;refine(N w u m vs hS d1 d2).mono ?_;rintro e w' ⟨y',rfl,k1,k2,k3⟩;obtain⟨m',W,c1,p1,p2,p3⟩:=k1.blk 0 _ rfl;simp only[Value.map.injEq,jIj] at p1;subst p1;have t:∀q,MM F ((b,Blk.mp es')::(Qd H o++H)) (VI ρ b (ρ b)) q->MM u [(0,.mp es')] (fun _=>.map (some m)) q:=by
  rintro q (a|⟨n,k,L,hk,T⟩)
  ·exact s es' q (.inl a)
  ·by_cases C:n=b
   ·subst C;rw[Qx,M] at T;simp only[QX,jIj] at T;exact .inr (X9.2 T.symm)
   ·rw[Qc _ _ (Ne.symm C)] at L;rw[QL _ _ C] at T;exact s es' q (.inr ⟨n,k,L,hk,T⟩)
 obtain⟨j1,j2⟩:=J.write (b:=b) (k:=.mp es') (v:=ρ b) A rfl (r:=m) (by rw[M];rfl) (by rw[M];rfl) (.inr ⟨rfl,rfl⟩) k3
  (fun a0=>⟨m,W,c1,by rw[Qx];exact M,p2,p3.ext (jLj _) (fun _ _ _=>rfl) fun q _ a=>t q a⟩)
 exact⟨y',rfl,_,j1,g2.trans j2,.d _ _ (k2.ext (jLj _) (fun _ _ _=>rfl) fun q _ a=>t q a)⟩
theorem Qhd {cx:Cx}{H:List (Nat×Blk)}{nx:Nat}{f:FuncId}{t:List AV}{bo:Option Nat}{r:AV}{a : List OC}{ks:List Bool}{o' : List Orc}{rc:RC}(h:kH cx H nx f t bo r a ks o'=some rc)(a0:∀p,p∈rc.ob->p)
  {F:Nat->Prop} {ρ:Nat->Value} {w:World} {vs:List Value} (hs:HSim cx F H ρ w) (hl:t.length=vs.length)
  (hv:∀(i:Nat) (c:AV) (y:Value),t[i]?=some c->vs[i]?=some y->VR w (MM F H ρ) H ρ c y) :
  Calls cx.P f vs.toArray w fun e w'=>∃v,e=.returned v/\∃ρ',HSim cx F (rc.heap H) ρ' w'/\Steps1 H ρ w (rc.heap H) ρ' w'/\VR w' (MM F (rc.heap H) ρ') (rc.heap H) ρ' rc.val v:=by
 unfold kH at h;split at h;case h_2=>cases h
 rename_i as l S b7;split at h
 ·-- an object that is there
  rename_i b;split at h;case h_3 =>
   unfold QiB at h;split at h;case h_2=>cases h
   rename_i C;exact Qjs h C a0 hs hl hv
  case h_2=>rename_i C;exact Qjr h C a0 hs hl hv
  rename_i x C;split at h;case h_2=>cases h
  rename_i cells hx a8;split at h;case h_2=>cases h
  rename_i cs ns j a3;split at h;case h_2=>cases h
  rename_i Q A K;split at h
  ·-- the object stays as it was
   rename_i a7;simp only[jAj] at a7;simp only[jIj] at h;subst h;obtain⟨Z,g2⟩:=hs.freeze (l++j);obtain⟨ρc,o1,o2,o3,o4,o5⟩:=QeC hs (fz:=l++j) C hx a8 a3 (fun q d=>List.mem_append.2 (.inr d)) A;have sp:=Y0 cells a nx cs ns j a3;obtain⟨c8,c2⟩:=zQ cells a nx cs ns j ks a3 a7.1;have X:look (Qd H (l++j)++H) b=some (.box x):=by rw[QY _ _ _ (Xn A)];exact C
   have hM:∀r,MM (fun r=>F r\/(Mut (Qd H (l++j)++H) ρ r/\¬Mut (Zx cs) ρc r)) (Zx cs) ρc r->MM F (Qd H (l++j)++H) ρ r:=by
    rintro r ((h|⟨h,_⟩)|h)
    ·exact .inl h
    ·exact .inr h
    ·exact .inr (o2 r h)
   obtain⟨d1,d2⟩:=Yy hs (fz:=l++j) (bo:=some b) (M:=MM (fun r=>F r\/(Mut (Qd H (l++j)++H) ρ r/\¬Mut (Zx cs) ρc r)) (Zx cs) ρc) (hc:=Zx cs) (ρc:=ρc) hM
    (fun b0 h=>by cases h;exact⟨⟨x,C⟩,⟨_,ZX cs⟩,o1⟩) t vs as l S (fun q d=>List.mem_append.2 (.inl d)) hl hv
   have m:ComputesO cx f as (some cs) r cs ks:=a0 _ (by exact jMj);refine(m w _ ρc vs o3 d1 d2).mono ?_;rintro e w' ⟨y,ρ',rfl,q1,q2,q3,q4,q5⟩;have c7:Names ns cs:=Qet cells a nx cs ns j ks a3 a7.1;obtain⟨k1,k2,k3,k4,k5⟩:=glue Z (hin:=Zx cs) (ρc:=ρc) o2 (cs:=cs) (ns:=WD ks ns) (bn:=b) (fz:=l++j) (c7.keep ks) (by rw[JL];exact A)
    (fun n k r h1 h2 h3 h4=>(o4 n k r h1 h2 h3 h4).imp id fun⟨i,v,U⟩=>⟨i,GU ks ns i n v U⟩)
    (fun i n Q k V s=>by
     obtain⟨sz,es,hc,a4⟩:=c2 i n Q V;have a5:¬n∈l++j:=(V7 (by rw[JL];exact A) i n Q V).2.1;rw[QY _ _ _ a5,a4] at s;cases s;refine⟨jLj _,fun _=>?_⟩;obtain h|⟨s,h⟩:=Gg ks ns i n Q V
     ·exfalso;obtain⟨n',v',a1,a2⟩:=sp.row i sz es hc;rw[h] at a1;cases a1;obtain⟨u,_,b2,b3⟩|⟨z,_,_,_,b4,_⟩:=a2
      ·rw[a4] at b2;cases b2;omega
      ·rw[a4] at b4;cases b4
     ·rw[(q5 rfl).2 i sz es s hc];exact o5 i n Q h)
    (fun k s=>by rw[X] at s;cases s;exact⟨rfl,by rw[(q5 rfl).1];exact o1⟩) q1 q3 q4
   have b5:AV.norm (.agg (ZH (WD ks ns) cs))=x:=by rw[c8];exact Qi4 a7.2 hx a8
   have c6:∀n,look (Qd H (l++j)++H) n=look (Uo (WD ks ns) b cs (Qd H (l++j)++H)) n:=by
    intro n;by_cases J:n=b
    ·subst J;rw[k4,X,b5]
    ·rw[Uo,Qc _ _ (Ne.symm J),WH (Vn (WD ks ns) cs)];cases hlo:look (Vn (WD ks ns) cs) n with
     | none=>rfl
     | some k =>
      obtain⟨i,v,sz,es,a1,a2,rfl⟩:=Ue hlo;obtain⟨c3,es',hc,a4⟩:=c2 i n v a1;rw[a2] at hc;cases hc;have a5:¬n∈l++j:=(V7 (by rw[JL];exact A) i n v a1).2.1;rw[QY _ _ _ a5];exact a4
   obtain⟨u1,u2⟩:=W6 c6 k1;refine⟨y,rfl,_,u1,(g2.trans k2).trans u2,?_⟩;exact u2.vr (X2 k3 ⟨_,k4⟩ k5 ⟨_,ZX cs⟩ r y Q K q2)
  simp only[jIj] at h;subst h;obtain⟨Z,g2⟩:=hs.freeze (l++j);obtain⟨ρc,o1,o2,o3,o4,o5⟩:=QeC hs (fz:=l++j) C hx a8 a3 (fun q d=>List.mem_append.2 (.inr d)) A;have sp:=Y0 cells a nx cs ns j a3;have X:look (Qd H (l++j)++H) b=some (.box x):=by rw[QY _ _ _ (Xn A)];exact C
  have hM:∀r,MM (fun r=>F r\/(Mut (Qd H (l++j)++H) ρ r/\¬Mut (Zx cs) ρc r)) (Zx cs) ρc r->MM F (Qd H (l++j)++H) ρ r:=by
   rintro r ((h|⟨h,_⟩)|h)
   ·exact .inl h
   ·exact .inr h
   ·exact .inr (o2 r h)
  obtain⟨d1,d2⟩:=Yy hs (fz:=l++j) (bo:=some b) (M:=MM (fun r=>F r\/(Mut (Qd H (l++j)++H) ρ r/\¬Mut (Zx cs) ρc r)) (Zx cs) ρc) (hc:=Zx cs) (ρc:=ρc) hM
   (fun b0 h=>by cases h;exact⟨⟨x,C⟩,⟨_,ZX cs⟩,o1⟩) t vs as l S (fun q d=>List.mem_append.2 (.inl d)) hl hv
  have m:ComputesO cx f as (some cs) r a ks:=a0 _ (by exact jMj);refine(m w _ ρc vs o3 d1 d2).mono ?_;rintro e w' ⟨y,ρ',rfl,q1,q2,q3,q4,q5⟩;have a6:∀(i n v:Nat),ns[i]?=some (some (n,v))->∃(sz:Nat) (es:jVj),cs[i]?=some (.row sz es):=by
   intro i n v U;have b8:i<cs.length:=by have:=(jGj U).1;rw[sp.nm.len,sp.lenS,<-sp.len] at this;exact this
   cases hc:cs[i] with
   | dat z =>
    have:=(sp.dat i z (by rw[jej b8,hc])).1;rw[U] at this;cases this
   | row sz es=>exact⟨sz,es,by rw[jej b8,hc]⟩
  obtain⟨k1,k2,k3,k4,k5⟩:=glue Z (hin:=Zx cs) (ρc:=ρc) o2 (cs:=a) (ns:=WD ks ns) (bn:=b) (fz:=l++j) (sp.nm.keep ks) (by rw[JL];exact A)
   (fun n k r h1 h2 h3 h4=>(o4 n k r h1 h2 h3 h4).imp id fun⟨i,v,U⟩=>⟨i,GU ks ns i n v U⟩)
   (fun i n Q k V s=>by
    have c0:∃v,ns[i]?=some (some (n,v)):=by
     obtain h|⟨_,h⟩:=Gg ks ns i n Q V
     ·exact⟨_,h⟩
     ·exact⟨_,h⟩
    obtain⟨v,U⟩:=c0;obtain⟨sz,es,hc⟩:=a6 i n v U;obtain⟨n',v',a1,a2⟩:=sp.row i sz es hc;rw[U] at a1;cases a1;have a5:=(V7 A i n v U).2.1;rw[QY _ _ _ a5] at s;obtain⟨u,_,b2,b3⟩|⟨z,_,_,_,b4,_⟩:=a2
    ·rw[b2] at s;cases s;simp only[Blk.ver];obtain h|⟨s,h⟩:=Gg ks ns i n Q V
     ·rw[U] at h;cases h;exact⟨by omega,fun h=>by omega⟩
     ·rw[U] at h;cases h;refine⟨by omega,fun _=>?_⟩;obtain⟨c3,es',b6⟩:=(sp.nm.keep ks).rowOf V;rw[(q5 rfl).2 i c3 es' s b6];exact o5 i n Q U
    ·rw[b4] at s;cases s)
   (fun k s=>by rw[X] at s;cases s;exact⟨rfl,by rw[(q5 rfl).1];exact o1⟩) q1 q3 q4
  have T:RC.heap { val:=Q,up:=(b,.box (AV.norm (.agg (ZH (WD ks ns) a))))::(Vn (WD ks ns) a++Qd H (l++j)),full:=none,nx:=nx+a.length,ob:=[ComputesO cx f as (some cs) r a ks],orc:=o',sfx:=true } H=Uo (WD ks ns) b a (Qd H (l++j)++H):=by simp only[RC.heap,Uo,List.cons_append,List.append_assoc]
  rw[T];refine⟨y,rfl,_,k1,g2.trans k2,?_⟩;exact X2 k3 ⟨_,k4⟩ k5 ⟨_,ZX a⟩ r y Q K q2
 ·-- an object that the callee makes
  split at h
  ·rename_i sz L c9;split at h;case h_2=>cases h
   rename_i ds j Q c5 K;simp only[jIj] at h;subst h;obtain⟨Z,g2⟩:=hs.freeze j;obtain⟨d1,d2⟩:=Yv hs j t vs ds j c5 (fun _ h=>h) hl hv;have m:QbO cx f ds sz L r:=a0 _ (by exact jMj);refine(m w (MM F (Qd H j++H) ρ) vs (fun q d=>d.elim (Z.bnd q) Z.mut_lt) Z.glob d1 d2).mono ?_;rintro e w' ⟨y,ρ',rfl,q1,q3,q4,q5⟩;have hE:∀q,QX (ρ' 0)=some q->Mut [(0,.row 0 sz L)] ρ' q:=fun q d=>⟨0,_,rfl,rfl,d⟩
   have d0:∀q,Mut [(0,.row 0 sz L)] ρ' q->QX (ρ' 0)=some q:=by
    rintro q ⟨n,k,J,_,Y⟩;by_cases W:n=0
    ·subst W;exact Y
    ·rw[Qc _ _ (Ne.symm W)] at J;cases J
   have b9:∀q,¬Mut ([]:List (Nat×Blk)) (fun _=>undef) q:=by rintro q ⟨n,k,J,_⟩;cases J
   have c4 : HSim cx (fun q=>(F q\/(Mut (Qd H j++H) ρ q/\¬Mut [] (fun _=>undef) q))\/QX (ρ' 0)=some q) [] (fun _=>undef) w':=by
    refine⟨fun b k C=>(by cases C),fun b b' k k' r C=>(by cases C),fun q d=>absurd d (b9 q),fun q d=>?_,fun g x hg=>?_⟩
    ·obtain(d|⟨d,_⟩)|d:=d
     ·exact q1.bnd q (.inl d)
     ·exact q1.bnd q (.inr d)
     ·exact q1.mut_lt (hE q d)
    ·refine(q1.glob g x hg).ext (jLj _) (fun _ _ _=>rfl) ?_;rintro q _ (((d|⟨d,_⟩)|d)|d)
     ·exact .inl (.inl d)
     ·exact .inl (.inr d)
     ·exact .inr (hE q d)
     ·exact absurd d (b9 q)
   obtain⟨u1,u2⟩:=HSim.gluE (F:=F) (H:=[]) (ρ:=fun _=>undef) (E:=fun q=>QX (ρ' 0)=some q) Z (fun b k C=>(by cases C)) c4 (q4.mono fun q d=>d.elim) (fun q d=>q5 q (hE q d));have o:look (Qd H j++H) nx=none:=by
    have W:look H nx=none:=by
     cases hc:look H nx with
     | none=>rfl
     | some k=>have:=VO b7 hc;omega
    obtain h|⟨_,_,_,h,_⟩|⟨_,_,_,h,_⟩|⟨_,h,_⟩:=Wo H j nx
    ·rw[h];exact W
    ·rw[W] at h;cases h
    ·rw[W] at h;cases h
    ·rw[W] at h;cases h
   have hin:∀q,MM (fun r=>F r\/QX (ρ' 0)=some r) (Qd H j++H) ρ q->MM (MM F (Qd H j++H) ρ) [(0,.row 0 sz L)] ρ' q:=by
    rintro q ((d|d)|d)
    ·exact .inl (.inl d)
    ·exact .inr (hE q d)
    ·exact .inl (.inr d)
   have c1:FreshV w' (MM (fun r=>F r\/QX (ρ' 0)=some r) (Qd H j++H) ρ) (ρ' 0) (.row 0 sz L):=by have W:FreshV w' (MM (MM F (Qd H j++H) ρ) [(0,.row 0 sz L)] ρ') (ρ' 0) (.row 0 sz L):=jT rfl (q1.blk 0 _ rfl);exact W.sub fun q _ d=>hin q d
   have r3:=u1.name (nm:=nx) o (fun q h=>h) (fun q d hf=>by have h1:=hs.bnd q hf;have h2:=q5 q (hE q d);omega) c1
   have r4:Steps1 (Qd H j++H) ρ w ((nx,.row 0 sz L)::(Qd H j++H)) (VI ρ nx (ρ' 0)) w':=by
    refine⟨u2.ext,fun q Y hm=>?_,⟨fun n k J=>?_⟩⟩
    ·obtain⟨n,k',J,a9,O⟩:=hm;by_cases G:n=nx
     ·subst G;rw[Qx] at O;have:=q5 q (hE q O);omega
     ·rw[Qc _ _ (Ne.symm G)] at J;rw[QL _ _ G] at O;exact⟨n,k',J,a9,O⟩
    ·have G:n≠nx:=fun e=>by rw[e,o] at J;cases J
     exact⟨k,by rw[Qc _ _ (Ne.symm G)];exact J,jLj _,fun _=>QL _ _ G⟩
   refine⟨y,rfl,VI ρ nx (ρ' 0),r3,g2.trans r4,?_⟩;refine Qfy (hp1:=[(0,.row 0 sz L)]) (ρ1:=ρ') (k1:=.row 0 sz L) rfl rfl (Qf _ _ _) (Qx _ _ _) ?_ K q3;rintro q _ (d|⟨n,k',J,a9,O⟩)
   ·exact .inl (.inl d)
   ·have J:look ((nx,.row 0 sz L)::(Qd H j++H)) n=some k':=J;by_cases G:n=nx
    ·subst G;rw[Qx] at O;exact .inr (hE q O)
    ·rw[Qc _ _ (Ne.symm G)] at J;rw[QL _ _ G] at O;exact .inl (.inr ⟨n,k',J,a9,O⟩)
  split at h;case h_2=>cases h
  rename_i Q A K;simp only[jIj] at h;subst h;obtain⟨Z,g2⟩:=hs.freeze l;have N:∀r,¬Mut (Yo none) (fun _=>undef) r:=by rintro r ⟨b,k,C,_⟩;simp[Yo,look] at C
  have hM:∀r,MM (fun r=>F r\/(Mut (Qd H l++H) ρ r/\¬Mut (Yo none) (fun _=>undef) r)) (Yo none) (fun _=>undef) r->MM F (Qd H l++H) ρ r:=by
   rintro r ((h|⟨h,_⟩)|h)
   ·exact .inl h
   ·exact .inr h
   ·exact absurd h (N r)
  have o3:HSim cx (fun r=>F r\/(Mut (Qd H l++H) ρ r/\¬Mut (Yo none) (fun _=>undef) r)) (Yo none) (fun _=>undef) w :=
   ⟨fun b k C=>by simp[Yo,look] at C,fun b b' k k' r C=>by simp[Yo,look] at C,fun r Y=>absurd Y (N r),fun r Y=>by
    obtain Y|⟨Y,_⟩:=Y
    ·exact Z.bnd r Y
    ·exact Z.mut_lt Y,fun g z hg=>(Z.glob g z hg).ext (jLj _) (fun _ _ _=>rfl) fun r _ h=>hM r h⟩
  obtain⟨d1,d2⟩:=Yy hs (fz:=l) (bo:=none) (M:=MM (fun r=>F r\/(Mut (Qd H l++H) ρ r/\¬Mut (Yo none) (fun _=>undef) r)) (Yo none) (fun _=>undef)) (hc:=Yo none) (ρc:=fun _=>undef) hM
   (fun b0 h=>by cases h) t vs as l S (fun q d=>d) hl hv
  have m:ComputesO cx f as none r a ks:=a0 _ (by exact jMj);refine(m w _ (fun _=>undef) vs o3 d1 d2).mono ?_;rintro e w' ⟨y,ρ',rfl,q1,q2,q3,q4,_⟩;have o:∀n,nx<=n->look (Qd H l++H) n=none:=by
   intro n J;have W:look H n=none:=by
    cases hc:look H n with
    | none=>rfl
    | some k=>have:=VO b7 hc;omega
   obtain h|⟨_,_,_,h,_⟩|⟨_,_,_,h,_⟩|⟨_,h,_⟩:=Wo H l n
   ·rw[h];exact W
   ·rw[W] at h;cases h
   ·rw[W] at h;cases h
   ·rw[W] at h;cases h
  obtain⟨k1,k2,k3,k4,k5⟩:=glue Z (hin:=Yo none) (ρc:=fun _=>undef) (fun r Y=>absurd Y (N r)) (cs:=a) (ns:=YW (nx+1) a) (bn:=nx) (fz:=l) (E6 a (nx+1)) A (fun n k r _ _ _ Y=>absurd Y (N r))
   (fun i n v k U s=>by obtain⟨rfl,_⟩:=jH a (nx+1) i n v U;rw[o _ (by omega)] at s;cases s)
   (fun k s=>by rw[o _ (jLj _)] at s;cases s) q1 q3 q4
  have T:RC.heap { val:=Q,up:=(nx,.box (AV.norm (.agg (ZH (YW (nx+1) a) a))))::(Vn (YW (nx+1) a) a++Qd H l),full:=none,nx:=nx+1+a.length,ob:=[ComputesO cx f as none r a ks],orc:=o',sfx:=true } H=Uo (YW (nx+1) a) nx a (Qd H l++H):=by simp only[RC.heap,Uo,List.cons_append,List.append_assoc]
  rw[T];refine⟨y,rfl,_,k1,g2.trans k2,?_⟩;exact X2 k3 ⟨_,k4⟩ k5 ⟨_,ZX a⟩ r y Q K q2
section
variable {cx:Cx}
theorem Qc7 {H:List (Nat×Blk)}{x y:AV}{s:St}(h:QbZ H x s=some y)(e:s.sfx=true->∃new,s.hp=new++H) :
  ∃z f,x.toDH s.hp=some (z,f)/\y=.d z/\(∀b,look H b≠none->¬b∈f)/\∀b k,look H b=some k->look s.hp b=some k:=by
 unfold QbZ at h;split at h;case h_2=>cases h
 rename_i z f hc j;split at h;case h_2=>cases h
 rename_i a;simp only[jIj] at h;subst h;simp only[jAj] at hc;obtain⟨new,c⟩:=e hc.1;refine⟨z,f,j,rfl,fun b g m=>?_,fun b k g=>?_⟩
 ·simp only[List.all_eq_true] at a;have:=a b m;rw[V9.2 g] at this;cases this
 ·have i:=hc.2;rw[c] at i ⊢;have l:(new++H).length - H.length=new.length:=by simp
  rw[l] at i;rw[WH,Gk new H i b (by rw[g];simp)];exact g
theorem QdV {w w' : World}{M M' : Nat->Prop}{x:D}{y:Value}(hp:Qij x=true)(h:DR w M x y):DR w' M' x y:=by cases x<;>first|(cases h;exact .v _)|cases hp
theorem Qik {w w' : World}{M M' : Nat->Prop}{x:D}{y:Value}(hp:QfY x=true)(h:DR w M x y):DR w' M' x y:=by
 cases x with
 | v=>cases h;exact .v _
 | agg l =>
  cases h with
  | agg _ ys a h=>exact .agg l ys a fun i c y hc b=>QdV (List.all_eq_true.1 hp c (jgj hc)) (h i c y hc b)
 | _=>cases hp
theorem Qgw {w w' : World}{M M' : Nat->Prop}{x:D}{y:Value}(hp:Qev x=true)(h:DR w M x y):DR w' M' x y:=by
 cases x with
 | v=>cases h;exact .v _
 | agg l =>
  cases h with
  | agg _ ys a h=>exact .agg l ys a fun i c y hc b=>QdV (List.all_eq_true.1 hp c (jgj hc)) (h i c y hc b)
 | tup l =>
  cases h with
  | tup _ ys a h=>exact .tup l ys a fun i c y hc b=>Qik (List.all_eq_true.1 hp c (jgj hc)) (h i c y hc b)
 | _=>cases hp
theorem QiE (hN:NoAsk cx){ex:Code->St->Option (Ex×St)}(Y:ExOK cx ex)(hS:yu ex):QaB cx (QbM ex cx):=by
 intro keepable H nx c6 orc f a0 rc h U F ρ w vs E Z hv;obtain⟨fn,T,hc⟩:=yr h;obtain⟨c,us,v,Q,X,M,N,h5,_⟩|⟨c,r,ds,u,Q,X,M,N,h5⟩|⟨c,a7,o',x,s',Q,X,M⟩|⟨c,bo,r0,b9,ks,o',N⟩:=hc;case inr.inr.inr=>exact .inr ⟨En hN T c _ _,Qhd N U E Z hv⟩
 ·left;have:=Er _ _ us Q Z hv;subst this;exact⟨v,VP X w,h5,N,by rw[M];exact G7 _ _ _ _ v⟩
 ·right;refine⟨En hN T c _ _,?_⟩;have A:Computes cx f ds r:=by
   obtain hq|⟨g,hg,hq⟩:=h5
   ·exact U _ (by rw[hq];exact jMj)
   ·exact hN.known f g ds r hg hq
  obtain⟨J,g2⟩:=E.freeze u;obtain⟨G,P⟩:=Yv E u a0 vs ds u Q (fun _ h=>h) Z hv;obtain M|⟨M,b8⟩:=M;case inr =>
   have a:rc.heap H=H:=by rw[RC.heap,N,M];rfl
   refine(A w (MM F (Qd H u++H) ρ) vs (fun r i=>?_) J.glob G P).mono ?_
   ·obtain i|i:=i
    ·exact J.bnd r i
    ·exact J.mut_lt i
   ·rintro e w' ⟨y,rfl,K,s⟩;have o:Steps1 H ρ w H ρ w':=⟨s.mono fun _ h=>h.elim,fun _ _ h=>h,Grows.refl _ _⟩
    have V:=E.step o (fun b k c=>.inl ⟨c,rfl,fun t r i=>s.same r ((E.blk b k c).root_lt t i) (fun h=>h)⟩) E.inj E.forb;refine⟨y,rfl,ρ,by rw[a];exact V,by rw[a];exact o,?_⟩;rw[a,X];exact .d _ _ (Qgw b8 K)
  have a:rc.heap H=Qd H u++H:=by rw[RC.heap,N,M]
  refine(A w (MM F (Qd H u++H) ρ) vs (fun r i=>?_) J.glob G P).mono ?_
  ·obtain i|i:=i
   ·exact J.bnd r i
   ·exact J.mut_lt i
  ·rintro e w' ⟨y,rfl,K,s⟩;have o:Steps1 (Qd H u++H) ρ w (Qd H u++H) ρ w':=⟨s.mono fun _ h=>h.elim,fun _ _ h=>h,Grows.refl _ _⟩
   have V:=J.step o (fun b k c=>.inl ⟨c,rfl,fun t r i=>s.same r ((J.blk b k c).root_lt t i) (fun h=>h)⟩) J.inj J.forb;refine⟨y,rfl,ρ,by rw[a];exact V,by rw[a];exact g2.trans o,by rw[a,X];exact .d _ _ K⟩
 ·right;refine⟨En hN T c _ _,?_⟩;obtain⟨e1,e2⟩:=U9 Y hS Q (by rw[<-X];exact U);refine(e2 F ρ w vs E Z hv).mono ?_;rintro e w' ⟨v,rfl,ρ',K,s,q3⟩;refine⟨v,rfl,?_⟩;have m:Grows H s'.hp ρ ρ':=⟨fun b k c=>s.grow b k (VO a7 c) c⟩
  have o:Steps1 H ρ w s'.hp ρ' w':=⟨s.ext,s.mt,m⟩
  obtain⟨a1,a2,a3,_⟩|⟨y,a1,a2,a3,a4⟩|a1:=M
  ·have a:rc.heap H=s'.hp:=by rw[RC.heap,a3]
   exact⟨ρ',by rw[a];exact K,by rw[a];exact o,by rw[a,a1];exact q3⟩
  ·have a:rc.heap H=H:=by rw[RC.heap,a4,a3];rfl
   obtain⟨z,u,b1,b2,b3,b4⟩:=Qc7 a1 (Eh hS Q);have p:∀b k,look H b=some k->look s'.hp b=some k/\ρ' b=ρ b:=by intro b k c;obtain⟨O,W,_,c3⟩:=m.dom b k c;have:=b4 b k c;rw[W] at this;cases this;exact⟨W,c3 rfl⟩
   obtain⟨r1,r2⟩:=E.restrict K p s.ext;refine⟨ρ,by rw[a];exact r1,by rw[a];exact r2,?_⟩;rw[a,a2,b2];have a8:=Z8 K u x v z u b1 (fun _ h=>h) q3;refine .d _ _ (a8.ext (jLj _) (fun _ _ _=>rfl) fun r _ t=>t.imp id ?_);rintro⟨b,k,c,t,i⟩;obtain⟨W,c2⟩:=p b k c;exact⟨b,k,by rw[QY _ _ _ (b3 b (by rw[c];simp))];exact W,t,by rw[c2];exact i⟩
  ·obtain⟨b,k0,rfl,W,c2,c3,c4,c5,S,rfl⟩:=wd a1;obtain⟨new,a5⟩:=Eh hS Q W;have p:∀b k,look H b=some k->look s'.hp b=some k/\ρ' b=ρ b:=by
    intro L k c;have N:look s'.hp L=some k:=by
     rw[a5] at c2 ⊢;have Z:(new++H).length - H.length=new.length:=by simp
     rw[Z] at c2;rw[WH,Gk new H c2 L (by rw[c];simp)];exact c
    obtain⟨O,G,_,d3⟩:=m.dom L k c;rw[G] at N;cases N;exact⟨G,d3 rfl⟩
   have Y:∀r,QX (ρ' b)=some r->Mut s'.hp ρ' r/\w.heap.size<=r:=by
    intro r i;have t:Mut s'.hp ρ' r:=⟨b,_,c4,GV S,i⟩
    refine⟨t,?_⟩;obtain b6|a9:=Nat.lt_or_ge r w.heap.size
    ·exfalso;obtain⟨L,O,j,C,l⟩:=s.mt r b6 t;obtain⟨G,P⟩:=p L O j;have:=K.inj L b O _ r G c4 C (GV S) (by rw[P];exact l) i;rw[this,c5] at j;cases j
    ·exact a9
   have r1:=E.restrictE K p s.ext Y;have a6:FreshV w' (MM (fun r=>F r\/QX (ρ' b)=some r) H ρ) (ρ' b) k0:=by
    have h0:FreshV w' (MM F s'.hp ρ') (ρ' b) k0:=jT S (K.blk b _ c4);refine h0.sub ?_;rintro r _ ((h|h)|⟨L,O,j,C,l⟩)
    ·exact .inl h
    ·exact .inr (Y r h).1
    ·obtain⟨G,P⟩:=p L O j;exact .inr ⟨L,O,G,C,by rw[P];exact l⟩
   have r3:=r1.name (nm:=b) c5 (fun r h=>h) (fun r i hf=>by have G:=E.bnd r hf;have P:=(Y r i).2;omega) a6
   have a:RC.heap { val:=.own b k0.ver,up:=[(b,k0)],full:=none,nx,ob:=s'.ob,orc:=s'.orc,sfx:=true } H=(b,k0)::H:=rfl;rw[a];refine⟨_,r3,⟨s.ext,fun r i t=>?_,⟨fun n k hn=>?_⟩⟩,?_⟩
   ·obtain⟨n,O,hn,C,l⟩:=t;by_cases q:n=b
    ·subst q;rw[Qx] at l;have:=(Y r l).2;omega
    ·rw[Qc _ _ (Ne.symm q)] at hn;rw[QL _ _ q] at l;exact⟨n,O,hn,C,l⟩
   ·have q:n≠b:=fun e=>by rw[e,c5] at hn;cases hn
    exact⟨k,by rw[Qc _ _ (Ne.symm q)];exact hn,jLj _,fun _=>QL _ _ q⟩
   ·cases q3 with
    | own _ _ kk _ j c0 b7 b5 =>
     rw[c4] at j;cases j;exact .own _ k0.ver _ _ (Qf _ _ _) (jLj _) b7 fun _=>by rw[Qx];exact b5 rfl
theorem Qdo {z sz:Nat}{es:jVj}{w:World}{M:Nat->Prop}{v:Value}(h:DR w M (.lst true sz es) v) :
  (Xm z sz es).ver=0/\(∀(M' : Nat->Prop) (hp:List (Nat×Blk)) (ρ:Nat->Value) (b:Nat),ρ b=v->DR w M' (.lst true sz es) v->BlkR w M' hp ρ b (Xm z sz es))/\((Xm z sz es).live=true->QX v=none):=by
 unfold Xm;split
 ·exact⟨rfl,fun M' hp ρ b c d=>by show DR w M' _ (ρ b);rw[c];exact d,fun h=>by cases h⟩
 ·split
  ·cases h with
   | lst _ _ _ a cap _ _ _ e =>
    have hc:=e rfl;simp only[List.length_nil] at hc;subst hc;exact⟨rfl,fun M' hp ρ b c _=>.inl ⟨rfl,a,c⟩,fun _=>WG _ _⟩
  ·exact⟨rfl,fun M' hp ρ b c d=>by show DR w M' _ (ρ b);rw[c];exact d,fun h=>by cases h⟩
theorem G6 {F:Nat->Prop}{a:Act}{w:World}:∀(pr:List Nat) (tm:List (Nat×AV)) (hp:List (Nat×Blk)) (j:Nat) (ρ:Nat->Value) (m : List (Nat×AV)) (g : List (Nat×Blk)) (o : Nat),X3 tm hp j pr=(m,g,o) ->
  HSim cx F hp ρ w->TSim F tm hp ρ a w->∃ρ',HSim cx F g ρ' w/\TSim F m g ρ' a w/\Steps1 hp ρ w g ρ' w
 | [],tm,hp,j,ρ,m,g,o,h,hs,ht=>by simp only[X3,jPj] at h;obtain⟨rfl,rfl,rfl⟩:=h;exact⟨ρ,hs,ht,Steps1.refl _ _ _⟩
 | [_],tm,hp,j,ρ,m,g,o,h,hs,ht=>by simp only[X3,jPj] at h;obtain⟨rfl,rfl,rfl⟩:=h;exact⟨ρ,hs,ht,Steps1.refl _ _ _⟩
 | t::z::l,tm,hp,j,ρ,m,g,o,h,hs,ht=>by
  simp only[X3] at h;split at h
  ·rename_i sz es hl hn;have E:=ht t _ hl;have s:∃p n c,a.tmps.getD t undef=.slice p n c:=by
    generalize a.tmps.getD t undef=v at E;cases E with
    | d _ _ E=>cases E;exact⟨_,_,_,rfl⟩
   obtain⟨p,n,c,hv⟩:=s;have G:DR w (MM F hp ρ) (.lst true sz es) (a.tmps.getD t undef):=by cases E;assumption
   obtain⟨V,O,L⟩:=Qdo (z:=z) G;generalize Xm z sz es=K at V O L h;have A:∀r,Mut ((j,K)::hp) (VI ρ j (a.tmps.getD t undef)) r->Mut hp ρ r:=by
    rintro r ⟨b,k,i,C,q⟩;by_cases f:b=j
    ·subst f;rw[Qf] at i;cases i;rw[Qx,L C] at q;cases q
    ·rw[Qc _ _ (Ne.symm f)] at i;rw[QL _ _ f] at q;exact⟨b,k,i,C,q⟩
   have x:Steps1 hp ρ w ((j,K)::hp) (VI ρ j (a.tmps.getD t undef)) w:=by
    refine⟨Ext.refl _ _,fun r _ C=>A r C,⟨fun b k i=>?_⟩⟩;have f:b≠j:=by intro e;subst e;rw[hn] at i;cases i
    exact⟨k,by rw[Qc _ _ (Ne.symm f)];exact i,jLj _,fun _=>QL _ _ f⟩
   have M:=hs.step x (fun b k i=>by
    by_cases f:b=j
    ·subst f;rw[Qf] at i;cases i;right;exact O _ _ _ _ (Qx _ _ _) (x.dr G)
    ·rw[Qc _ _ (Ne.symm f)] at i;exact .inl ⟨i,QL _ _ f,fun _ _ _=>rfl⟩)
    (fun b P k S r h1 h2 T U r1 r2=>by
     have H:∀b k,look ((j,K)::hp) b=some k->k.live=true->QX (VI ρ j (a.tmps.getD t undef) b)=some r->look hp b=some k/\QX (ρ b)=some r:=by
      intro b k i C q;by_cases f:b=j
      ·subst f;rw[Qf] at i;cases i;rw[Qx,L C] at q;cases q
      ·rw[Qc _ _ (Ne.symm f)] at i;rw[QL _ _ f] at q;exact⟨i,q⟩
     obtain⟨W,X⟩:=H b k h1 T r1;obtain⟨b1,Y⟩:=H P S h2 U r2;exact hs.inj b P k S r W b1 T U X Y) (fun r q=>hs.forb r (A r q))
   have N:TSim F ((t,.own j 0)::tm) ((j,K)::hp) (VI ρ j (a.tmps.getD t undef)) a w:=by
    intro u y J;by_cases Q:t=u
    ·subst Q;rw[Qf] at J;cases J;exact .own j 0 _ _ (Qf _ _ _) (Nat.zero_le _) (by rw[hv];rfl) fun _=>(Qx _ _ _).symm
    ·rw[Qc _ _ Q] at J;exact x.vr (ht u y J)
   obtain⟨ρ',Z,g2,g3⟩:=G6 l _ _ _ _ m g o h M N;exact⟨ρ',Z,g2,x.trans g3⟩
  ·exact G6 l _ _ _ _ m g o h hs ht
theorem Gh {hp:List (Nat×Blk)}{vis:Nat}{n:List Nat}:∀(l:List Nat) (d:List (Nat×Blk)),uE hp vis n l=some d ->
  (∀b f,look d b=some f->b∈l/\∃k,look hp b=some k/\k.clean hp vis n b=some f)/\(∀b,b∈l->∃k f,look hp b=some k/\k.clean hp vis n b=some f/\look d b=some f)
 | [],d,h=>by simp only[uE,jIj] at h;subst h;exact⟨fun b f e=>by simp[look] at e,fun b e=>by simp at e⟩
 | c::l,d,h=>by
  simp only[uE] at h;split at h;case h_2=>cases h
  rename_i k r o s;split at h;case h_2=>cases h
  rename_i f g;simp only[jIj] at h;subst h;obtain⟨t,u⟩:=Gh l r s;refine⟨fun b q e=>?_,fun b e=>?_⟩
  ·by_cases a:c=b
   ·subst a;rw[Qf] at e;cases e;exact⟨jMj,k,o,g⟩
   ·rw[Qc _ _ a] at e;obtain⟨i,j⟩:=t b q e;exact⟨jmj _ i,j⟩
  ·by_cases a:c=b
   ·subst a;exact⟨k,f,o,g,Qf _ _ _⟩
   ·have m:b∈l:=by simpa[Ne.symm a] using e
    obtain⟨q,v,i,j,p⟩:=u b m;exact⟨q,v,i,j,by rw[Qc _ _ a];exact p⟩
theorem KN {hp:List (Nat×Blk)}{vis b:Nat}{e:List Nat}{k d : Blk}(h:k.clean hp vis e b=some d):d.live=k.live/\(b<vis->d.ver=k.ver)/\(¬b<vis->d.ver=0):=by
 have a:∀v:Nat,(b<vis->(match Nat.blt b vis with|true=>v|false=>0)=v)/\(¬b<vis->(match Nat.blt b vis with|true=>v|false=>0)=0):=by
  intro v;constructor
  ·intro c;have:Nat.blt b vis=true:=by simpa using c
   rw[this]
  ·intro c;have:Nat.blt b vis=false:=ky (by omega);rw[this]
 cases k with
 | box x =>
  simp only[Blk.clean] at h;split at h<;>simp only[jIj,reduceCtorEq] at h;subst h;exact⟨rfl,fun _=>rfl,fun _=>rfl⟩
 | row v sz es=>simp only[Blk.clean,jIj] at h;subst h;exact⟨rfl,(a v).1,(a v).2⟩
 | frozen v sz es=>simp only[Blk.clean,jIj] at h;subst h;exact⟨rfl,(a v).1,(a v).2⟩
 | virt v sz es=>simp only[Blk.clean,jIj] at h;subst h;exact⟨rfl,(a v).1,(a v).2⟩
 | loop _ _ _ _ _ _=>simp only[Blk.clean,jIj] at h;subst h;exact⟨rfl,fun _=>rfl,fun _=>rfl⟩
 | mp _=>simp only[Blk.clean,jIj] at h;subst h;exact⟨rfl,fun _=>rfl,fun _=>rfl⟩
 | it _ _=>simp only[Blk.clean,jIj] at h;subst h;exact⟨rfl,fun _=>rfl,fun _=>rfl⟩
 | fbox _=>simp only[Blk.clean,jIj] at h;subst h;exact⟨rfl,fun _=>rfl,fun _=>rfl⟩
 | left _=>simp only[Blk.clean,jIj] at h;subst h;exact⟨rfl,fun _=>rfl,fun _=>rfl⟩
 | dead=>simp only[Blk.clean,jIj] at h;subst h;exact⟨rfl,fun _=>rfl,fun _=>rfl⟩
mutual
theorem wX {w:World}{M M0:Nat->Prop}{hp hp0:List (Nat×Blk)}{ρ:Nat->Value}{vis:Nat}{kb:List Nat}(hk:uE hp vis kb kb=some hp0)(hM:∀r,r<w.heap.size->M0 r->M r) :
  ∀(x:AV) (y:Value),VR w M hp ρ x y->VR w M0 hp0 ρ (x.clean hp vis kb) y
 | .d x,y,h=>by
  cases h with
  | d _ _ h=>exact .d _ _ (h.ext (jLj _) (fun _ _ _=>rfl) hM)
 | .agg cs,y,h=>by
  cases h with
  | agg _ ys hl hh =>
   obtain⟨h1,h2⟩:=Xx hk hM cs ys hl hh;simp only[AV.clean];exact .agg _ ys h1 h2
 | .tup cs,y,h=>by
  cases h with
  | tup _ ys hl hh =>
   obtain⟨h1,h2⟩:=Xx hk hM cs ys hl hh;simp only[AV.clean];exact .tup _ ys h1 h2
 | .dptr x o,y,h=>by
  cases h with
  | dptr _ _ blk o' hd=>simp only[AV.clean];exact .dptr _ _ _ _ (hd.ext (jLj _) (fun _ _ _=>rfl) hM)
 | .ptr b ver sz i off,y,h=>by
  cases h with
  | ptr _ _ _ _ _ k _ hb hv ho hh =>
   simp only[AV.clean];split
   ·rename_i hc;simp only[jAj] at hc;have hmem:b∈kb:=by simpa using hc.1
    have hver:=GW hc.2 hb;obtain⟨q,q',h1,h2,h3⟩:=(Gh kb hp0 hk).2 b hmem;rw[hb] at h1;cases h1;obtain⟨_,v1,v2⟩:=KN h2;split
    ·rename_i hlt;have hlt' : b<vis:=by simpa using hlt
     exact .ptr b ver sz i off q' y h3 (by rw[v1 hlt'];exact hv) ho fun _=>hh hver
    ·rename_i hlt;have hlt' : ¬b<vis:=by intro hh;rw[show Nat.blt b vis=true from by simpa using hh] at hlt;cases hlt
     exact .ptr b 0 sz i off q' y h3 (Nat.zero_le _) ho fun _=>hh hver
   ·exact .junk y
 | .own b ver,y,h=>by
  cases h with
  | own _ _ k _ hb hv ho hh =>
   simp only[AV.clean];split
   ·rename_i hc;simp only[jAj] at hc;have hmem:b∈kb:=by simpa using hc.1
    have hver:=GW hc.2 hb;obtain⟨q,q',h1,h2,h3⟩:=(Gh kb hp0 hk).2 b hmem;rw[hb] at h1;cases h1;obtain⟨_,v1,v2⟩:=KN h2;split
    ·rename_i hlt;have hlt' : b<vis:=by simpa using hlt
     exact .own b ver q' y h3 (by rw[v1 hlt'];exact hv) ho fun _=>hh hver
    ·rename_i hlt;have hlt' : ¬b<vis:=by intro hh;rw[show Nat.blt b vis=true from by simpa using hh] at hlt;cases hlt
     exact .own b 0 q' y h3 (Nat.zero_le _) ho fun _=>hh hver
   ·exact .junk y
 | .sub b ver sz lo n,y,h=>by
  cases h with
  | sub _ _ _ _ _ k _ hb hv ho hh =>
   simp only[AV.clean];split
   ·rename_i hc;simp only[jAj] at hc;have hmem:b∈kb:=by simpa using hc.1
    have hver:=GW hc.2 hb;obtain⟨q,q',h1,h2,h3⟩:=(Gh kb hp0 hk).2 b hmem;rw[hb] at h1;cases h1;obtain⟨_,v1,v2⟩:=KN h2;split
    ·rename_i hlt;have hlt' : b<vis:=by simpa using hlt
     exact .sub b ver sz lo n q' y h3 (by rw[v1 hlt'];exact hv) ho fun _=>hh hver
    ·rename_i hlt;have hlt' : ¬b<vis:=by intro hh;rw[show Nat.blt b vis=true from by simpa using hh] at hlt;cases hlt
     exact .sub b 0 sz lo n q' y h3 (Nat.zero_le _) ho fun _=>hh hver
   ·exact .junk y
 | .fn f p q,y,h=>by
  cases h with
  | fn _ _ _ xs ys hl hm hh hq =>
   obtain⟨h1,h2⟩:=Xx hk hM p xs hl hh;obtain⟨h3,h4⟩:=Xx hk hM q ys hm hq;simp only[AV.clean];exact .fn f _ _ xs ys h1 h3 h2 h4
 | .junk,y,_=>.junk y
theorem Xx {w:World}{M M0:Nat->Prop}{hp hp0:List (Nat×Blk)}{ρ:Nat->Value}{vis:Nat}{kb:List Nat}(hk:uE hp vis kb kb=some hp0)(hM:∀r,r<w.heap.size->M0 r->M r) :
  ∀(cs:List AV) (ys:List Value),cs.length=ys.length->(∀(i:Nat) (c:AV) (y:Value),cs[i]?=some c->ys[i]?=some y->VR w M hp ρ c y) ->
   (Gl hp vis kb cs).length=ys.length/\∀(i:Nat) (c:AV) (y:Value),(Gl hp vis kb cs)[i]?=some c->ys[i]?=some y->VR w M0 hp0 ρ c y
 | [],ys,hl,_=>⟨by simpa[Gl] using hl,by simp[Gl]⟩
 | x::cs,ys,hl,hh=>by
  cases ys with
  | nil=>simp at hl
  | cons y ys =>
   obtain⟨h1,h2⟩:=Xx hk hM cs ys (by simpa using hl) (fun i c z hc hz=>hh (i+1) c z (by simpa using hc) (by simpa using hz));refine⟨by simp[Gl,h1],fun i c z hc hz=>?_⟩;simp only[Gl] at hc;cases i with
   | zero =>
    simp only[jzj,jIj] at hc hz;subst hc;subst hz;exact wX hk hM x y (hh 0 x y rfl rfl)
   | succ i=>exact h2 i c z (by simpa using hc) (by simpa using hz)
end
theorem wY {hp:List (Nat×Blk)}{vis:Nat}{b:List Nat}:∀(l:List (Nat×AV)) (t:Nat) (x:AV),look (wZ hp vis b l) t=some x->∃y,look l t=some y/\x=y.clean hp vis b
 | [],t,x,h=>by simp[wZ,look] at h
 | (c,y)::l,t,x,h=>by
  simp only[wZ] at h;by_cases a:c=t
  ·subst a;rw[Qf] at h ⊢;cases h;exact⟨y,rfl,rfl⟩
  ·rw[Qc _ _ a] at h ⊢;exact wY l t x h
theorem wa {hp:List (Nat×Blk)}{vis:Nat}{b:List Nat}{tm:List (Nat×AV)}:∀(l:List Nat) (t:Nat) (x:AV),look (Qbk hp vis b tm l) t=some x->∃y,look tm t=some y/\x=y.clean hp vis b
 | [],t,x,h=>by simp[Qbk,look] at h
 | c::l,t,x,h=>by
  simp only[Qbk] at h;split at h
  ·rename_i y d;by_cases a:c=t
   ·subst a;rw[Qf] at h;cases h;exact⟨y,d,rfl⟩
   ·rw[Qc _ _ a] at h;exact wa l t x h
  ·exact wa l t x h
theorem kW {F:Nat->Prop}{s Q:St}{pr kt kb:List Nat}{ρ:Nat->Value}{a:Act}{w:World}(h:Qbe s pr kt kb=some Q)(W:Sim cx F s ρ a w) :
  ∃ρ1,Sim cx F Q ρ1 a w/\StepsV s.vis s.hp ρ w Q.hp ρ1 w/\Q.vis=s.vis/\Q.nt=s.nt:=by
 unfold Qbe at h;split at h;rename_i tm hp nx U;split at h;case h_2=>cases h
 rename_i z S E;simp only[jIj] at h;subst h;obtain⟨ρ1,L,g2,g3⟩:=G6 pr s.tm s.hp s.nx ρ tm hp nx U W.hs W.ts;obtain⟨k1,k2⟩:=Gh kb z S;have n:∀r,Mut z ρ1 r->Mut hp ρ1 r:=by rintro r ⟨b,P,K,O,V⟩;obtain⟨_,k,C,f⟩:=k1 b P K;exact⟨b,k,C,by rw[<-(KN f).1];exact O,V⟩
 have o:∀r,r<w.heap.size->MM F z ρ1 r->MM F hp ρ1 r:=fun r _ O=>O.imp id (n r);have X:HSim cx F z ρ1 w:=by
  refine⟨fun b P K=>?_,fun b b' q Z r C f m1 m2 r1 r2=>?_,fun r V=>L.forb r (n r V),L.bnd,fun g x hg=>(L.glob g x hg).ext (jLj _) (fun _ _ _=>rfl) o⟩
  ·obtain⟨_,k,C,f⟩:=k1 b P K;have u:=L.blk b k C;cases k with
   | box x =>
    simp only[Blk.clean] at f;split at f<;>simp only[jIj,reduceCtorEq] at f;rename_i cs T;subst f;obtain⟨r,e,v,a4,m,A,G,J⟩:=u;exact⟨r,e,v,cs,m,A,T,wX S o x v J⟩
   | loop rdy tm ps as bd nt =>
    simp only[Blk.clean,jIj] at f;subst f;obtain⟨l,rc,m,G,J,q5,q6,q7,q8,q9,a3⟩:=u;refine⟨l,rc,m,G,J,q5,q6,q7,q8,q9,fun t x H=>?_⟩;obtain⟨y,Y,rfl⟩:=wY tm t x H;exact wX S o y _ (a3 t y Y)
   | dead =>
    simp only[Blk.clean,jIj] at f;subst f;trivial
   | mp es =>
    simp only[Blk.clean,jIj] at f;subst f;obtain⟨r,es',c,m,A,G⟩:=u;exact⟨r,es',c,m,A,G.ext (jLj _) (fun _ _ _=>rfl) o⟩
   | it s p =>
    simp only[Blk.clean,jIj] at f;subst f;obtain⟨r,m,A⟩:=u;exact⟨r,m,A.ext rfl (fun _ _ _=>rfl) o⟩
   | left e =>
    simp only[Blk.clean,jIj] at f;subst f;obtain⟨l,rc,m,G,J⟩:=u;exact⟨l,rc,m,G,J⟩
   | fbox x =>
    simp only[Blk.clean,jIj] at f;subst f;obtain⟨r,m,A⟩:=u;exact⟨r,m,A.ext (jLj _) (fun _ _ _=>rfl) o⟩
   | row v sz es =>
    simp only[Blk.clean,jIj] at f;subst f;obtain⟨q0,a0,m⟩|⟨r,c,e,cap,m,A,G,J,q5,q6⟩:=u
    ·exact .inl ⟨q0,a0,m⟩
    refine .inr ⟨r,c,e,cap,m,A,G,J,q5,fun i d j x hd H=>?_⟩;obtain⟨y,y1,y2,y3⟩:=q6 i d j x hd H;exact⟨y,y1,y2,y3.ext (jLj _) (fun _ _ _=>rfl) o⟩
   | frozen v sz es =>
    simp only[Blk.clean,jIj] at f;subst f;exact DR.ext (jLj _) (fun _ _ _=>rfl) o u
   | virt v sz es =>
    simp only[Blk.clean,jIj] at f;subst f;exact DR.ext (jLj _) (fun _ _ _=>rfl) o u
  ·obtain⟨_,k,a1,a2⟩:=k1 b q C;obtain⟨_,P,b1,b2⟩:=k1 b' Z f;exact L.inj b b' k P r a1 b1 (by rw[<-(KN a2).1];exact m1) (by rw[<-(KN b2).1];exact m2) r1 r2
 refine⟨ρ1,⟨X,fun t x H=>?_,W.nt⟩,?_,rfl,rfl⟩
 ·obtain⟨y,Y,rfl⟩:=wa kt t x H;exact wX S o y _ (g2 t y Y)
 ·refine StepsV.trans g3.toV ⟨Ext.refl _ _,fun r _ O=>n r O,fun b k N K=>?_⟩;simp only[List.all_eq_true] at E;obtain⟨x,H⟩:=Gd (l:=hp) (b:=b) (by rw[K];simp);have:=E _ H;have M:Nat.blt b s.vis=true:=by simpa using N
  simp only[M,Bool.not_true,Bool.false_or] at this;obtain⟨q,Z,C,f,h3⟩:=k2 b (by simpa using this);rw[K] at C;cases C;exact⟨Z,h3,by rw[(KN f).2.1 N];exact jLj _,fun _=>rfl⟩
theorem Ej:∀(tm:List (Nat×AV)) (seen t:Nat) (x:AV),look (QbB tm seen) t=some x->seen.testBit t=false/\look tm t=some x
 | [],seen,t,x,h=>by simp[QbB,look] at h
 | (k,y)::l,seen,t,x,h=>by
  simp only[QbB] at h;split at h
  ·rename_i b;obtain⟨a,c⟩:=Ej l seen t x h;refine⟨a,?_⟩;rw[Qc _ _ (fun e=>by subst e;rw[a] at b;cases b)];exact c
  ·rename_i b;by_cases d:k=t
   ·subst d;rw[Qf] at h ⊢;exact⟨b,h⟩
   ·rw[Qc _ _ d] at h ⊢;obtain⟨a,c⟩:=Ej l _ t x h;rw[Nat.testBit_or,Bool.or_eq_false_iff] at a;exact⟨a.1,c⟩
theorem Em {tm:List (Nat×AV)}:∀(n t:Nat) (x:AV),look (JB tm n) t=some x->look tm t=some x
 | 0,t,x,h=>by simp[JB,look] at h
 | n+1,t,x,h=>by
  simp only[JB] at h;split at h
  ·rename_i y b;by_cases a:n=t
   ·subst a;rw[Qf] at h;cases h;exact b
   ·rw[Qc _ _ a] at h;exact Em n t x h
  ·exact Em n t x h
end
variable {cx:Cx}
theorem QaG {b n:Nat}{H:List (Nat×Blk)}{k:Blk}(h:K6 b H=true)(e:look H n=some k)(a:n≠b):wH k=true:=by
 simp only[K6,List.all_eq_true,Bool.or_eq_true] at h;have d:∀(l:List (Nat×Blk)),look l n=some k->(n,k)∈l:=by
  intro l;induction l with
  | nil=>intro h;simp[look] at h
  | cons p l ih =>
   obtain⟨c,x⟩:=p;intro h;by_cases hc:c=n
   ·subst hc;rw[Qf] at h;cases h;exact jMj
   ·rw[Qc _ _ hc] at h;exact jmj _ (ih h)
 obtain h|h:=h _ (d H e)
 ·exact absurd (Z1 h) a
 ·exact h
theorem HSim.turnLoop {F:Nat->Prop}{hp:List (Nat×Blk)}{ρ:Nat->Value}{w:World}(m:HSim cx F hp ρ w){b:Nat}{k0 K:Blk}(C:look hp b=some k0)(z:k0.live=true)(O:k0.ver=0)(N:K6 b hp=true){l:Nat}{V:Loop}(v:w.heap[l]?=some (.loop V))(o' : Obj)
  (W:K.ver=0) (M:(∀(x:AV) (y:Value),VR w (MM F hp ρ) hp ρ x y->VR (w.putObj l o') (MM F ((b,K)::hp) ρ) ((b,K)::hp) ρ x y)->BlkR (w.putObj l o') (MM F ((b,K)::hp) ρ) ((b,K)::hp) ρ b K) :
  HSim cx F ((b,K)::hp) ρ (w.putObj l o')/\Grows hp ((b,K)::hp) ρ ρ/\(∀r,Mut ((b,K)::hp) ρ r->Mut hp ρ r)/\(∀(x:AV) (y:Value),VR w (MM F hp ρ) hp ρ x y->VR (w.putObj l o') (MM F ((b,K)::hp) ρ) ((b,K)::hp) ρ x y):=by
 have f:∀n k,look ((b,K)::hp) n=some k->k.live=true->∃i,look hp n=some i/\i.live=true:=by
  intro n k c A;by_cases a:n=b
  ·subst a;exact⟨k0,C,z⟩
  ·rw[Qc _ _ (Ne.symm a)] at c;exact⟨k,c,A⟩
 have d:∀r,Mut ((b,K)::hp) ρ r->Mut hp ρ r:=by rintro r ⟨n,k,c,A,j⟩;obtain⟨i,p,s⟩:=f n k c A;exact⟨n,i,p,s,j⟩
 have e:∀r,MM F ((b,K)::hp) ρ r->MM F hp ρ r:=fun r h=>h.imp id (d r);have t:Grows hp ((b,K)::hp) ρ ρ:=⟨fun n k c=>by
  by_cases a:n=b
  ·subst a;rw[C] at c;cases c;exact⟨K,Qf _ _ _,by omega,fun _=>rfl⟩
  ·exact⟨k,by rw[Qc _ _ (Ne.symm a)];exact c,jLj _,fun _=>rfl⟩⟩
 have o:∀(x:AV) (y:Value),VR w (MM F hp ρ) hp ρ x y->VR (w.putObj l o') (MM F ((b,K)::hp) ρ) ((b,K)::hp) ρ x y:=fun x y h =>
  (h.put v trivial o').ext (jLj _) (fun _ _ _=>rfl) (fun r _ h=>e r h) t
 refine⟨⟨fun n k c=>?_,fun n E k i r p s P Q T U=>?_,fun r j=>m.forb r (d r j),fun r j=>by rw[World.putObj_size];exact m.bnd r j,fun g x u=>?_⟩,t,d,o⟩
 ·by_cases a:n=b
  ·subst a;rw[Qf] at c;cases c;exact M o
  ·rw[Qc _ _ (Ne.symm a)] at c;exact((m.blk n k c).put v trivial o' (.inr (QaG N c a))).ext (jLj _) (fun _ _ _=>rfl) (fun r _ h=>e r h) t rfl (fun _ _ _=>rfl)
 ·obtain⟨q,G,H⟩:=f n k p P;obtain⟨S,J,L⟩:=f E i s Q;exact m.inj n E q S r G J H L T U
 ·exact((m.glob g x u).put v trivial o').ext (jLj _) (fun _ _ _=>rfl) (fun r _ h=>e r h)
theorem Qam {w:World}{M:Nat->Prop}{hp:List (Nat×Blk)}{ρ:Nat->Value}{g:Nat}:∀(b:List Nat) (a:List AV) (vs:List Value) (tm:List (Nat×AV)) (T:Array Value),b.length=a.length->a.length=vs.length ->
  (∀t,t∈b->t<g)->T.size=g->(∀t x,look tm t=some x->VR w M hp ρ x (T.getD t undef))->(∀(i:Nat) (c:AV) (y:Value),a[i]?=some c->vs[i]?=some y->VR w M hp ρ c y) ->
  ((b.zip vs).foldl (fun(tmps:Array Value) (p:Nat×Value)=>tmps.setIfInBounds p.1 p.2) T).size=g/\∀t x,look (Qan b a tm) t=some x->VR w M hp ρ x (((b.zip vs).foldl (fun(tmps:Array Value) (p:Nat×Value)=>tmps.setIfInBounds p.1 p.2) T).getD t undef)
 | [],a,vs,tm,T,_,_,_,hT,ht,_=>by simp only[List.zip_nil_left,List.foldl_nil,Qan];exact⟨hT,ht⟩
 | t::b,[],vs,tm,T,h1,_,_,_,_,_=>by simp at h1
 | t::b,x::a,[],tm,T,_,h2,_,_,_,_=>by simp at h2
 | t::b,x::a,v::vs,tm,T,h1,h2,hlt,hT,ht,hv=>by
  simp only[List.zip_cons_cons,List.foldl_cons,Qan];refine Qam b a vs _ _ (by simpa using h1) (by simpa using h2) (fun u e=>hlt u (jmj _ e)) (by simpa using hT) (fun u y e=>?_) (fun i c y hc h=>hv (i+1) c y (by simpa using hc) (by simpa using h));by_cases d:t=u
  ·subst d;rw[Qf] at e;cases e;have f:t<T.size:=by rw[hT];exact hlt t jMj
   rw[Array.getD_eq_getD_getElem?,Array.getElem?_setIfInBounds,jTj rfl,jTj f];exact hv 0 _ _ rfl rfl
  ·rw[Qc _ _ d] at e;rw[Array.getD_eq_getD_getElem?,Array.getElem?_setIfInBounds,jFj d,<-Array.getD_eq_getD_getElem?];exact ht u y e
theorem Gc {w:World}{l:Nat}{o:Obj}(h:w.heap[l]?=some o):l<w.heap.size:=by
 obtain a|a:=Nat.lt_or_ge l w.heap.size
 ·exact a
 ·rw[Array.getElem?_eq_none a] at h;cases h
theorem Qgc {ex:Code->St->Option (Ex×St)}(hE:ExOK cx ex)(hS:yu ex):jm cx (jr ex):=by
 intro H nx sym orc b ver O rc h d7 rr m F ρ w vs hs hl hv;unfold jr at h;split at h;case h_2=>cases h
 rename_i tm ps as bd nt hb hc;simp only[jAj] at hc;have c0:=Z1 hc.1;have b6:=hc.2;split at h;case h_2=>cases h
 rename_i Q;simp only[jAj,List.all_eq_true] at Q;have b7:=Z1 Q.1;split at h;case h_2=>cases h
 rename_i S b8;split at h;case h_2=>cases h
 rename_i Z Y T U X V d6;split at h;case h_3=>cases h
 ·rename_i j a9;split at h;case h_2=>cases h
  rename_i e3 d9 d0 d5 d8 A c7;simp only[jIj] at h;subst h;obtain⟨o2,e2⟩:=hE _ _ _ _ a9 d7;obtain⟨_,e1⟩:=hE _ _ _ _ b8 o2;obtain⟨v1,n1,_⟩:=hS _ _ _ _ b8;obtain⟨v2,n2,_⟩:=hS _ _ _ _ a9;obtain⟨l,f,q1,q3,q4,q5,q6,q7,q8,q9,c9⟩:=hs.blk b _ hb;have u:b<nx:=VO b6 hb;have L:f.params.size=vs.length:=by rw[<-Array.length_toList,q6,b7,hl]
  refine⟨⟨_,hb,c0⟩,l,f,q1,q3,L,roundIn_of_wpIn (F:=fen rr) trivial ?_⟩;have C:(f.params.zip vs.toArray).foldl (fun(tmps:Array Value) (x:Nat×Value)=>match x with|(t,a)=>tmps.setIfInBounds t a) f.tmps=(ps.zip vs).foldl (fun(tmps:Array Value) (p:Nat×Value)=>tmps.setIfInBounds p.1 p.2) f.tmps:=by rw[<-Array.foldl_toList,Array.toList_zip,q6]
  rw[C];obtain⟨b1,b2⟩:=Qam ps O vs tm f.tmps b7 hl (fun t ht=>by have:=Q.2 t ht;simpa using this) q9 c9 hv;have G:Sim cx F { nt,sym,tm:=Qan ps O tm,hp:=H,nx,orc,ob:=[],vis:=nx,sfx:=true,rnd:=true } ρ { tmps:=(ps.zip vs).foldl (fun(tmps:Array Value) (p:Nat×Value)=>tmps.setIfInBounds p.1 p.2) f.tmps,defers:=[] } w:=⟨hs,b2,b1⟩
  have a7:=e1 (some l) F ρ _ w (fun h=>by cases h) G;rw[<-q7] at a7;refine wpIn_mono (a7 m) ?_;rintro e' s i ⟨rfl,ρ1,g1,g2,g3,_,g⟩;have c4:Mut H ρ l:=⟨b,_,hb,rfl,by rw[q1];rfl⟩
  have z:ρ1 b=ρ b:=by obtain⟨k',q,_,h3⟩:=g.grow b _ u hb;rw[V] at q;cases q;exact h3 rfl
  obtain⟨l1,M,p1,p3,p4,p5,p6,p7,p8,p9,c8⟩:=g1.blk b _ V;have E:l1=l:=by rw[z,q1] at p1;simpa using p1.symm
  subst E;refine⟨_,run_beginRound p3 p4,?_⟩;obtain⟨t1,t2,t3,t4⟩:=g1.turnLoop (K:=.loop false Z Y T U X) V rfl rfl d6 p3 (.loop { M with state:=.busy }) rfl (fun a6 =>
   ⟨l1,{ M with state:=.busy },p1,World.putObj_heap_same (Gc p3),rfl,p5,p6,p7,p8,p9,fun t x hx=>a6 _ _ (c8 t x hx)⟩)
  have J:Sim cx F { S with hp:=(b,.loop false Z Y T U X)::S.hp } ρ1 s (i.putObj l1 (.loop { M with state:=.busy })) :=
   ⟨t1,fun t x hx=>t4 _ _ (g2 t x hx),by rw[g3];exact(wF n1).symm⟩
  have a8:=e2 (some l1) F ρ1 s _ (fun h=>by have:=Qca n1;rw[this] at h;cases h) J;rw[<-q8] at a8;refine wpIn_mono (a8 m) ?_;rintro e' d4 c ⟨rfl,b5,f1,f2,f3,_,o⟩;have y:S.vis=nx:=v1;have b4:b5 b=ρ1 b:=by obtain⟨k',q,_,h3⟩:=o.grow b _ (by show b<S.vis;rw[y];exact u) (Qf _ _ _);rw[A] at q;cases q;exact h3 rfl
  obtain⟨l2,N,r1,r3,r4,r5,r6,r7,r8,r9,e0⟩:=f1.blk b _ A;have E:l2=l1:=by rw[b4,z,q1] at r1;simpa using r1.symm
  subst E;refine⟨_,_,run_endRound none r3,.bool true,rfl,b5,?_⟩;simp only[Option.isNone_none,if_true];obtain⟨u1,u2,u3,u4⟩:=f1.turnLoop (K:=.loop true e3 d9 d0 d5 d8) A rfl rfl c7 r3 (.loop { N with state:=.ready,pending:=none }) rfl (fun a6 =>
   ⟨l2,{ N with state:=.ready,pending:=none },r1,World.putObj_heap_same (Gc r3),rfl,rfl,r6,r7,r8,r9,fun t x hx=>a6 _ _ (e0 t x hx)⟩)
  refine⟨u1,⟨⟨fun hq=>?_,?_,?_,?_,?_,fun r W hm=>?_⟩,fun r W hm=>?_,⟨fun n k hn=>?_⟩⟩,.d _ _ (.v _)⟩
  ·show w.drawn<=c.drawn;exact Nat.le_trans (g.ext.drawn hq) (o.ext.drawn hq)
  ·show c.os=_;exact o.ext.os.trans g.ext.os
  ·show c.tape=_;exact o.ext.tape.trans g.ext.tape
  ·show c.output=_;exact o.ext.output.trans g.ext.output
  ·rw[World.putObj_size];have:=o.ext.size;rw[World.putObj_size] at this;exact Nat.le_trans g.ext.size this
  ·have a5:r≠l2:=fun e=>hm (by rw[e];exact c4);have q:r<i.heap.size:=Nat.lt_of_lt_of_le W g.ext.size;have c5:¬Mut S.hp ρ1 r:=fun h=>hm (g.mt r W h);have c6:¬Mut ((b,Blk.loop false Z Y T U X)::S.hp) ρ1 r:=fun h=>c5 (t3 r h);rw[World.putObj_heap_other a5,o.ext.same r (by rw[World.putObj_size];exact q) c6,World.putObj_heap_other a5];exact g.ext.same r W hm
  ·have q:r<i.heap.size:=Nat.lt_of_lt_of_le W g.ext.size;exact g.mt r W (t3 r (o.mt r (by rw[World.putObj_size];exact q) (u3 r hm)))
  ·have a4:n<nx:=VO b6 hn;obtain⟨k1,a1,a2,a3⟩:=g.grow n k a4 hn;obtain⟨k2,b1,b2,b3⟩:=t2.dom n k1 a1;obtain⟨k3,c1,c2,c3⟩:=o.grow n k2 (by show n<S.vis;rw[y];exact a4) b1;obtain⟨k4,d1,d2,d3⟩:=u2.dom n k3 c1;exact⟨k4,d1,by omega,fun he=>by rw[d3 (by omega),c3 (by omega),b3 (by omega),a3 (by omega)]⟩
 ·rename_i e j e4 a9;split at h;case h_2=>cases h
  rename_i e3 d9 d0 d5 d8 A c7;simp only[jIj] at h;subst h;obtain⟨o2,e2⟩:=hE _ _ _ _ a9 d7;obtain⟨_,e1⟩:=hE _ _ _ _ b8 o2;obtain⟨v1,n1,_⟩:=hS _ _ _ _ b8;obtain⟨v2,n2,_⟩:=hS _ _ _ _ a9;obtain⟨l,f,q1,q3,q4,q5,q6,q7,q8,q9,c9⟩:=hs.blk b _ hb;have u:b<nx:=VO b6 hb;have L:f.params.size=vs.length:=by rw[<-Array.length_toList,q6,b7,hl]
  refine⟨⟨_,hb,c0⟩,l,f,q1,q3,L,roundIn_of_wpIn (F:=fen rr) trivial ?_⟩;have C:(f.params.zip vs.toArray).foldl (fun(tmps:Array Value) (x:Nat×Value)=>match x with|(t,a)=>tmps.setIfInBounds t a) f.tmps=(ps.zip vs).foldl (fun(tmps:Array Value) (p:Nat×Value)=>tmps.setIfInBounds p.1 p.2) f.tmps:=by rw[<-Array.foldl_toList,Array.toList_zip,q6]
  rw[C];obtain⟨b1,b2⟩:=Qam ps O vs tm f.tmps b7 hl (fun t ht=>by have:=Q.2 t ht;simpa using this) q9 c9 hv;have G:Sim cx F { nt,sym,tm:=Qan ps O tm,hp:=H,nx,orc,ob:=[],vis:=nx,sfx:=true,rnd:=true } ρ { tmps:=(ps.zip vs).foldl (fun(tmps:Array Value) (p:Nat×Value)=>tmps.setIfInBounds p.1 p.2) f.tmps,defers:=[] } w:=⟨hs,b2,b1⟩
  have a7:=e1 (some l) F ρ _ w (fun h=>by cases h) G;rw[<-q7] at a7;refine wpIn_mono (a7 m) ?_;rintro e' s i ⟨rfl,ρ1,g1,g2,g3,_,g⟩;have c4:Mut H ρ l:=⟨b,_,hb,rfl,by rw[q1];rfl⟩
  have z:ρ1 b=ρ b:=by obtain⟨k',q,_,h3⟩:=g.grow b _ u hb;rw[V] at q;cases q;exact h3 rfl
  obtain⟨l1,M,p1,p3,p4,p5,p6,p7,p8,p9,c8⟩:=g1.blk b _ V;have E:l1=l:=by rw[z,q1] at p1;simpa using p1.symm
  subst E;refine⟨_,run_beginRound p3 p4,?_⟩;obtain⟨t1,t2,t3,t4⟩:=g1.turnLoop (K:=.loop false Z Y T U X) V rfl rfl d6 p3 (.loop { M with state:=.busy }) rfl (fun a6 =>
   ⟨l1,{ M with state:=.busy },p1,World.putObj_heap_same (Gc p3),rfl,p5,p6,p7,p8,p9,fun t x hx=>a6 _ _ (c8 t x hx)⟩)
  have J:Sim cx F { S with hp:=(b,.loop false Z Y T U X)::S.hp } ρ1 s (i.putObj l1 (.loop { M with state:=.busy })) :=
   ⟨t1,fun t x hx=>t4 _ _ (g2 t x hx),by rw[g3];exact(wF n1).symm⟩
  have a8:=e2 (some l1) F ρ1 s _ (fun h=>by have:=Qca n1;rw[this] at h;cases h) J;rw[<-q8] at a8;refine wpIn_mono (a8 m) ?_;rintro e' d4 c ⟨rfl,b5,f1,f2,f3,_,o⟩;have y:S.vis=nx:=v1;have b4:b5 b=ρ1 b:=by obtain⟨k',q,_,h3⟩:=o.grow b _ (by show b<S.vis;rw[y];exact u) (Qf _ _ _);rw[A] at q;cases q;exact h3 rfl
  obtain⟨l2,N,r1,r3,r4,r5,r6,r7,r8,r9,e0⟩:=f1.blk b _ A;have E:l2=l1:=by rw[b4,z,q1] at r1;simpa using r1.symm
  subst E;have b9:=run_endRound (P:=cx.P) (some (wh e)) r3;suffices a0:∃ρ',HSim cx F (RC.heap { val:=.d (.v (.bool false)),up:=[],full:=some ((b,.left e)::j.hp),nx:=j.nx,ob:=j.ob,orc:=j.orc,sfx:=!sym&&j.sfx } H) ρ' (c.putObj l2 (.loop { N with state:=.done,pending:=some (wh e) })) /\
    Steps1 H ρ w (RC.heap { val:=.d (.v (.bool false)),up:=[],full:=some ((b,.left e)::j.hp),nx:=j.nx,ob:=j.ob,orc:=j.orc,sfx:=!sym&&j.sfx } H) ρ' (c.putObj l2 (.loop { N with state:=.done,pending:=some (wh e) })) /\
    VR (c.putObj l2 (.loop { N with state:=.done,pending:=some (wh e) })) (MM F (RC.heap { val:=.d (.v (.bool false)),up:=[],full:=some ((b,.left e)::j.hp),nx:=j.nx,ob:=j.ob,orc:=j.orc,sfx:=!sym&&j.sfx } H) ρ') (RC.heap { val:=.d (.v (.bool false)),up:=[],full:=some ((b,.left e)::j.hp),nx:=j.nx,ob:=j.ob,orc:=j.orc,sfx:=!sym&&j.sfx } H) ρ' (.d (.v (.bool false))) (.bool false) by
   cases e with
   | normal=>exact(e4 rfl).elim
   | ret=>exact⟨_,_,b9,.bool false,rfl,a0⟩
   | exit id=>exact⟨_,_,b9,.bool false,rfl,a0⟩
  refine⟨b5,?_⟩;obtain⟨u1,u2,u3,u4⟩:=f1.turnLoop (K:=.left e) A rfl rfl c7 r3 (.loop { N with state:=.done,pending:=some (wh e) }) rfl (fun _ =>
   ⟨l2,_,r1,World.putObj_heap_same (Gc r3),rfl,rfl⟩)
  refine⟨u1,⟨⟨fun hq=>?_,?_,?_,?_,?_,fun r W hm=>?_⟩,fun r W hm=>?_,⟨fun n k hn=>?_⟩⟩,.d _ _ (.v _)⟩
  ·show w.drawn<=c.drawn;exact Nat.le_trans (g.ext.drawn hq) (o.ext.drawn hq)
  ·show c.os=_;exact o.ext.os.trans g.ext.os
  ·show c.tape=_;exact o.ext.tape.trans g.ext.tape
  ·show c.output=_;exact o.ext.output.trans g.ext.output
  ·rw[World.putObj_size];have:=o.ext.size;rw[World.putObj_size] at this;exact Nat.le_trans g.ext.size this
  ·have a5:r≠l2:=fun e=>hm (by rw[e];exact c4);have q:r<i.heap.size:=Nat.lt_of_lt_of_le W g.ext.size;have c5:¬Mut S.hp ρ1 r:=fun h=>hm (g.mt r W h);have c6:¬Mut ((b,Blk.loop false Z Y T U X)::S.hp) ρ1 r:=fun h=>c5 (t3 r h);rw[World.putObj_heap_other a5,o.ext.same r (by rw[World.putObj_size];exact q) c6,World.putObj_heap_other a5];exact g.ext.same r W hm
  ·have q:r<i.heap.size:=Nat.lt_of_lt_of_le W g.ext.size;exact g.mt r W (t3 r (o.mt r (by rw[World.putObj_size];exact q) (u3 r hm)))
  ·have a4:n<nx:=VO b6 hn;obtain⟨k1,a1,a2,a3⟩:=g.grow n k a4 hn;obtain⟨k2,b1,b2,b3⟩:=t2.dom n k1 a1;obtain⟨k3,c1,c2,c3⟩:=o.grow n k2 (by show n<S.vis;rw[y];exact a4) b1;obtain⟨k4,d1,d2,d3⟩:=u2.dom n k3 c1;exact⟨k4,d1,by omega,fun he=>by rw[d3 (by omega),c3 (by omega),b3 (by omega),a3 (by omega)]⟩
def QeZ:Blk->Option Ex
 | .loop true _ _ _ _ _=>some .normal
 | .left e=>some e
 | _=>none
theorem QeY {w:World}{M:Nat->Prop}{hp:List (Nat×Blk)}{ρ:Nat->Value}{b:Nat}{k:Blk}{e:Ex}(h:QeZ k=some e)(i:BlkR w M hp ρ b k) :
  k.live=true/\k.ver=0/\∃l a,ρ b=.func (.yield l) #[] #[]/\w.heap[l]?=some (.loop a)/\a.state≠.busy/\(a.pending=none/\e=.normal\/a.pending=some (wh e)):=by
 unfold QeZ at h;split at h
 ·cases h;obtain⟨l,a,c,d,f,g,_⟩:=i;exact⟨rfl,rfl,l,a,c,d,by rw[f];simp,.inl ⟨g,rfl⟩⟩
 ·cases h;obtain⟨l,a,c,d,f,g⟩:=i;exact⟨rfl,rfl,l,a,c,d,by rw[f];simp,.inr g⟩
 ·cases h
theorem wA (hN:NoAsk cx){ex:Code->St->Option (Ex×St)}(hE:ExOK cx ex)(hS:yu ex){s Y:St}{f:Operand}{ps:Array Tmp}{as bd:Code}{g:FuncId}{a0 b0:List AV}{x:AV}
  (b5:GX (evA cx s.tm f)=some (g,a0,b0)) (b4:YG s.hp s.nx=true) (e5:(s.hp.all fun p=>wH p.2)=true)
  (hx:KM ex cx g (a0++[.own s.nx 0]++b0) { nt:=0,sym:=s.sym,tm:=[],hp:=(s.nx,.loop true (JB s.tm s.nt) ps.toList as bd s.nt)::s.hp,nx:=s.nx+1,orc:=s.orc,ob:=s.ob,vis:=s.nx+1,sfx:=true }=some (x,Y))
  {k2:Blk} {e:Ex} (Z:look Y.hp s.nx=some k2) (d5:QeZ k2=some e) (d8:K6 s.nx Y.hp=true) (d9:∀p,p∈Y.ob->p) :
  (∀p,p∈s.ob->p)/\∀(F:Nat->Prop) (ρ:Nat->Value) (a:Act) (w:World),Sim cx F s ρ a w ->
   wpR none cx.P (.rangeFunc f ps as bd) (fun e' a' w'=>e'=Jk e/\After cx F s.vis s.nt s.hp ρ w a.defers s.tm ((s.nx,.dead)::Y.hp) a' w') a w:=by
 obtain⟨e1,e2⟩:=U9 hE hS hx d9;refine⟨e1,fun F ρ a w L m=>wpIn_rangeFunc (F:=fen none) fun fn _=>?_⟩;obtain⟨xs,ys,hv,l1,l3,k1,k3⟩:=KY b5 (jX L.hs L.ts f);have b7:∃fd,cx.P.funcs[g]?=some fd/\fd.body.isSome=true:=by
  unfold KM at hx;split at hx
  ·cases hx
  rename_i fd a7;split at hx
  ·cases hx
  rename_i body a4;exact⟨fd,a7,by rw[a4];rfl⟩
 obtain⟨fd,a7,d0⟩:=b7;have a8:look s.hp s.nx=none:=by
  cases h:look s.hp s.nx with
  | none=>rfl
  | some k=>have:=VO b4 h;omega
 -- the record is laid
 obtain⟨rc,G⟩:∃rc:Loop,rc={ state:=.ready,pending:=none,fn,tmps:=a.tmps,params:=ps,assign:=as,body:=bd,defers:=w.heap.size }:=⟨_,rfl⟩
 obtain⟨b,A⟩:∃b,b=(w.alloc (.deferred (some []))).alloc (.loop rc):=⟨_,rfl⟩
 have e0:b.heap.size=w.heap.size+2:=by rw[A];simp
 have d6:b.heap[w.heap.size+1]?=some (.loop rc):=by rw[A];have:=World.alloc_heap_new (w.alloc (.deferred (some []))) (.loop rc);rwa [World.size_alloc] at this
 have a6:b.heap[w.heap.size]?=some (.deferred (some [])):=by rw[A];show((w.heap.push _).push _)[w.heap.size]?=_;rw[Array.getElem?_push,jFj (by simp),Array.getElem?_push,jTj rfl]
 have d:Ext w (fun _=>False) b:=by rw[A];exact(Ext.alloc w _ _).trans (Ext.alloc _ (fun _=>False) _) (fun _ _ h=>h)
 obtain⟨ρ1,u⟩:∃ρ1,ρ1=VI ρ s.nx (.func (.yield (w.heap.size+1)) #[] #[]):=⟨_,rfl⟩
 obtain⟨K,hK⟩:∃K,K=Blk.loop true (JB s.tm s.nt) ps.toList as bd s.nt:=⟨_,rfl⟩
 have e3:K.live=true:=by rw[hK];rfl
 have J:QX (ρ1 s.nx)=some (w.heap.size+1):=by rw[u,Qx];rfl
 have Q:∀r,Mut ((s.nx,K)::s.hp) ρ1 r->r=w.heap.size+1\/Mut s.hp ρ r:=by
  rintro r ⟨n,k,C,E,l⟩;by_cases j:n=s.nx
  ·subst j;rw[J] at l;cases l;exact .inl rfl
  ·right;rw[Qc _ _ (Ne.symm j)] at C;rw[u,QL _ _ j] at l;exact⟨n,k,C,E,l⟩
 have X:∀r,r<w.heap.size->Mut ((s.nx,K)::s.hp) ρ1 r->Mut s.hp ρ r:=fun r l E=>(Q r E).resolve_left (by omega);have o:Steps1 s.hp ρ w ((s.nx,K)::s.hp) ρ1 b:=by
  refine⟨d.mono fun _ h=>h.elim,fun r l E=>X r l E,⟨fun n k C=>?_⟩⟩;have j:n≠s.nx:=fun e=>by rw[e,a8] at C;cases C
  exact⟨k,by rw[Qc _ _ (Ne.symm j)];exact C,jLj _,fun _=>by rw[u];exact QL _ _ j⟩
 have a9:HSim cx F ((s.nx,K)::s.hp) ρ1 b:=by
  refine L.hs.step o (fun n k C=>?_) (fun n n' k k' r h1 h2 m1 m2 r1 r2=>?_) (fun r l hF=>(Q r l).elim (fun e=>by have:=L.hs.bnd r hF;omega) (fun h=>L.hs.forb r h hF))
  ·by_cases j:n=s.nx
   ·subst j;rw[Qf] at C;cases C;right;rw[hK];refine⟨w.heap.size+1,rc,by rw[u];exact Qx _ _ _,d6,by rw[G];rfl,by rw[G],by rw[G],by rw[G],by rw[G],by rw[G];exact L.nt,fun t y T=>?_⟩;rw[G,<-hK];exact o.vr (L.ts t y (Em _ _ _ T))
   ·rw[Qc _ _ (Ne.symm j)] at C;exact .inl ⟨C,by rw[u];exact QL _ _ j,fun E r l=>d.same r ((L.hs.blk n k C).root_lt E l) (fun h=>h)⟩
  ·have c7:∀n k r,look ((s.nx,K)::s.hp) n=some k->k.live=true->QX (ρ1 n)=some r->(n=s.nx/\r=w.heap.size+1)\/(n≠s.nx/\look s.hp n=some k/\QX (ρ n)=some r/\r<w.heap.size):=by
    intro n k r C E l;by_cases j:n=s.nx
    ·subst j;rw[J] at l;cases l;exact .inl ⟨rfl,rfl⟩
    ·rw[Qc _ _ (Ne.symm j)] at C;rw[u,QL _ _ j] at l;exact .inr ⟨j,C,l,L.hs.mut_lt ⟨n,k,C,E,l⟩⟩
   obtain⟨c1,c2⟩|⟨c1,c2,c3,c4⟩:=c7 n k r h1 m1 r1<;>obtain⟨d1,d2⟩|⟨d1,d2,d3,d4⟩:=c7 n' k' r h2 m2 r2
   ·rw[c1,d1]
   ·omega
   ·omega
   ·exact L.hs.inj n n' k k' r c2 d2 m1 m2 c3 d3
 -- the call
 obtain⟨q4,q5⟩:=wx (p:=a0) (m:=[AV.own s.nx 0]) (q:=b0) (xs:=xs) (ms:=[Value.func (.yield (w.heap.size+1)) #[] #[]]) (ys:=ys) (w:=b) (M:=MM F ((s.nx,K)::s.hp) ρ1) (hp:=(s.nx,K)::s.hp) (ρ:=ρ1) l1 rfl l3
  (fun i c y hc T=>o.vr (k1 i c y hc T)) (fun i c y hc T=>by
   cases i with
   | zero =>
    simp only[jzj,jIj] at hc T;subst hc;subst T;exact .own s.nx 0 K _ (Qf _ _ _) (Nat.zero_le _) rfl fun _=>by rw[u];exact(Qx _ _ _).symm
   | succ i=>simp at hc) (fun i c y hc T=>o.vr (k3 i c y hc T))
 rw[hK] at a9 q5;have a5:=e2 F ρ1 b (xs++[Value.func (.yield (w.heap.size+1)) #[] #[]]++ys) a9 q4 q5;refine⟨w.heap.size+1,[{ target:=.collected w.heap.size,args:=#[] }],b,{ target:=.fn (.func g) ys.toArray,args:=xs.toArray++#[.func (.yield (w.heap.size+1)) #[] #[]] },b,g,
  (xs++[Value.func (.yield (w.heap.size+1)) #[] #[]]++ys).toArray,b,?_,?_,fun _ _=>trivial,?_,fun h=>(by cases h),Qah none (a5.mono ?_)⟩
 ·rw[A,G];exact run_enterLoop_outer _ _ _ _ _
 ·simp only[resolve,hv,Deferred.ofValue];simp[Act.eval,Sem.run_pure]
 ·simp only[invoke];have:=En hN a7 d0 (xs++[Value.func (.yield (w.heap.size+1)) #[] #[]]++ys).toArray b;simpa using this
 ·rintro e' w3 ⟨v,rfl,U,g1,N,_⟩;obtain⟨b8,V,l2,H,r1,b9,r4,r5⟩:=QeY d5 (g1.blk _ _ Z);have c6:U s.nx=ρ1 s.nx:=by obtain⟨k',h1,_,h3⟩:=N.grow s.nx _ (by show s.nx<s.nx+1;omega) (Qf _ _ _);rw[Z] at h1;cases h1;exact h3 V.symm
  have d7:l2=w.heap.size+1:=by rw[c6,u,Qx] at r1;simpa using r1.symm
  subst d7;have c9:¬Mut ((s.nx,Blk.loop true (JB s.tm s.nt) ps.toList as bd s.nt)::s.hp) ρ1 w.heap.size:=by intro E;obtain⟨c,e,hc⟩:=a9.mut_cells E;rw[a6] at e;cases e;exact hc _ rfl
  have c8:w3.heap[w.heap.size]?=some (.deferred (some [])):=(N.ext.same _ (Gc a6) c9).trans a6;obtain⟨t1,t2,t3,t4⟩:=g1.turnLoop (K:=.dead) Z b8 V d8 b9 (.loop { H with state:=.exhausted }) rfl (fun _=>trivial);have b6:(Instr.endLoop (w.heap.size+1)).run cx.P w3=.ok H.pending (w3.putObj (w.heap.size+1) (.loop { H with state:=.exhausted })):=run_endLoop b9 r4;suffices z:After cx F s.vis s.nt s.hp ρ w a.defers s.tm ((s.nx,.dead)::Y.hp) { a with defers:=[{ target:=.collected w.heap.size,args:=#[] }]++a.defers } (w3.putObj (w.heap.size+1) (.loop { H with state:=.exhausted })) by
   refine⟨H.pending,_,b6,?_⟩;generalize (w3.putObj (w.heap.size+1) (.loop { H with state:=.exhausted }))=W at z ⊢;obtain⟨hp,he⟩|hp:=r5
   ·rw[hp];exact⟨by rw[he];rfl,z⟩
   ·rw[hp];cases e with
    | normal=>exact wpIn_skip ⟨rfl,z⟩
    | ret=>exact wpIn_ret ⟨rfl,z⟩
    | exit id=>exact wpIn_exit ⟨rfl,z⟩
  rw[<-hK] at N;have O:Grows s.hp ((s.nx,.dead)::Y.hp) ρ U:=by refine⟨fun n k C=>?_⟩;have e4:n<s.nx:=VO b4 C;obtain⟨k1,a1,a2,a3⟩:=o.grow.dom n k C;obtain⟨k2,b1,b2,b3⟩:=N.grow n k1 (by show n<s.nx+1;omega) a1;obtain⟨k3,c1,c2,c3⟩:=t2.dom n k2 b1;exact⟨k3,c1,by omega,fun he=>by rw[c3 (by omega),b3 (by omega),a3 (by omega)]⟩
  have c0:∀r,r<w.heap.size->Mut ((s.nx,.dead)::Y.hp) U r->Mut s.hp ρ r:=fun r l E =>
   o.mt r l (N.mt r (Nat.lt_of_lt_of_le l o.ext.size) (t3 r E))
  have S:∀r,r<w.heap.size->¬Mut s.hp ρ r->(w3.putObj (w.heap.size+1) (.loop { H with state:=.exhausted })).heap[r]?=w.heap[r]?:=by intro r l E;rw[World.putObj_heap_other (by omega),N.ext.same r (Nat.lt_of_lt_of_le l o.ext.size) (fun h=>E (X r l h))];exact d.same r l (fun h=>h)
  have c5:w.heap.size<=(w3.putObj (w.heap.size+1) (.loop { H with state:=.exhausted })).heap.size:=by rw[World.putObj_size];exact Nat.le_trans d.size N.ext.size
  refine⟨U,t1,fun t y T=>?_,L.nt,⟨[w.heap.size],rfl,by simp,fun D hD=>?_⟩,⟨⟨fun hq=>Nat.le_trans (d.drawn hq) (N.ext.drawn hq),N.ext.os.trans d.os,N.ext.tape.trans d.tape,N.ext.output.trans d.output,c5,S⟩,c0,fun n k _ C=>O.dom n k C⟩⟩
  ·exact(L.ts t y T).ext c5 (fun r l E=>S r l fun h=>E (.inr h)) (fun r l h=>h.imp id (c0 r l)) O
  ·simp only[List.mem_singleton] at hD;subst hD;exact⟨jLj _,by rw[World.putObj_heap_other (by omega)];exact c8⟩
variable {cx:Cx}
theorem jW {ops:Array Oper}{i:Nat}{o:Oper}{s s' : St}{x:AV}{b : List (Nat×Blk)}{d:Nat}{orc:List Orc}{ob:List Prop}{e:Bool}(h:Ee ops i o s x b d orc ob e=some s')(c:∀p,p∈s'.ob->p):∀p,p∈s.ob->p:=by
 unfold Ee at h;split at h
 ·split at h;case h_2=>cases h
  obtain⟨_,a,_⟩:=Uw h;intro p hp;refine c p ?_;rw[a];simp[hp]
 ·obtain⟨_,a,_⟩:=Uw h;intro p hp;refine c p ?_;rw[a];simp[hp]
theorem Qa3 {call:Jt}{d:Uu}{ops:Array Oper}{base:Nat}:∀(l:List Nat) (s s' : St),UZ cx call d ops base l s=some s'->(∀p,p∈s'.ob->p)->∀p,p∈s.ob->p
 | [],s,s',h,ho=>by simp only[UZ,jIj] at h;subst h;exact ho
 | j::l,s,s',h,ho=>by
  simp only[UZ] at h;split at h;case h_2=>cases h
  rename_i e a;have b:=Qa3 l _ _ h ho;unfold qN at a;split at a
  ·cases a
  split at a
  ·cases a
  ·obtain⟨_,c,_⟩:=Uw a;rw[c] at b;exact b
  ·split at a
   ·split at a
    ·split at a
     ·cases a
     exact(jW a b)
    split at a
    ·cases a
    split at a
    ·cases a
    exact(jW a b)
   ·split at a
    ·cases a
    exact(jW a b)
theorem Qbg {f:Type}(b:Nat)(k:f):∀(l:List (Nat×f)) (n:Nat),look ((b,k)::l.filter (fun p=>!(Nat.beq p.1 b))) n=look ((b,k)::l) n:=by
 have e:∀(l:List (Nat×f)) (n:Nat),n≠b->look (l.filter (fun p=>!(Nat.beq p.1 b))) n=look l n:=by
  intro l n c;induction l with
  | nil=>rfl
  | cons p l ih =>
   obtain⟨m,x⟩:=p;by_cases g:m=b
   ·subst g;rw[List.filter_cons_of_neg (by simp),ih,Qc _ _ (Ne.symm c)]
   ·have d:(!(Nat.beq m b))=true:=by
     cases d:Nat.beq m b with
     | true=>exact absurd (jqj d) g
     | false=>rfl
    rw[List.filter_cons_of_pos (by simpa only using d)];by_cases a:m=n
    ·subst a;rw[Qf,Qf]
    ·rw[Qc _ _ a,Qc _ _ a,ih]
 intro l n;by_cases c:n=b
 ·subst c;rw[Qf,Qf]
 ·rw[Qc _ _ (Ne.symm c),Qc _ _ (Ne.symm c),e l n c]
theorem After.sim {F:Nat->Prop}{vis d:Nat}{hp:List (Nat×Blk)}{ρ:Nat->Value}{w:World}{b:St}{c : Act}{w' : World}{a:List Deferred}(h:After cx F vis d hp ρ w a b.tm b.hp c w')(k:b.nt=d) :
  ∃ρ',Sim cx F b ρ' c w'/\StepsV vis hp ρ w b.hp ρ' w'/\DfTo w a w' c.defers:=by
 obtain⟨ρ',e,f,g,i,j⟩:=h;exact⟨ρ',⟨e,f,by rw[k];exact g⟩,j,i⟩
theorem After.trans {F:Nat->Prop}{vis i:Nat}{hp hp1:List (Nat×Blk)}{ρ ρ1:Nat->Value}{w e:World}{d : List (Nat×AV)}{c : List (Nat×Blk)}{f : Act}{w' : World}{a b:List Deferred}(k:StepsV vis hp ρ w hp1 ρ1 e)(o:HSim cx F hp1 ρ1 e)(p:DfTo w a e b)
  (h:After cx F vis i hp1 ρ1 e b d c f w'):After cx F vis i hp ρ w a d c f w':=by
 obtain⟨ρ',j,l,m,n,g⟩:=h;exact⟨ρ',j,l,m,DfTo.trans k.ext.size o g p n,k.trans g⟩
theorem After.refl {F:Nat->Prop}{s:St}{ρ:Nat->Value}{a:Act}{w:World}(h:Sim cx F s ρ a w):After cx F s.vis s.nt s.hp ρ w a.defers s.tm s.hp a w :=
 ⟨ρ,h.hs,h.ts,h.nt,DfTo.refl _ _ _,StepsV.refl _ _ _ _⟩
theorem jE (ops:Array Oper)(s:St):(X4 ops s).tm=s.tm/\(X4 ops s).nt=s.nt/\(X4 ops s).nx=s.nx/\(X4 ops s).vis=s.vis/\(X4 ops s).rnd=s.rnd/\(X4 ops s).ob=s.ob/\(X4 ops s).sym=s.sym:=by
 unfold X4;split
 ·split
  ·exact⟨rfl,rfl,rfl,rfl,rfl,rfl,rfl⟩
  ·exact⟨rfl,rfl,rfl,rfl,rfl,rfl,rfl⟩
 ·exact⟨rfl,rfl,rfl,rfl,rfl,rfl,rfl⟩
theorem Qdp (ops:Array Oper){F:Nat->Prop}{s:St}{ρ:Nat->Value}{a:Act}{w:World}(h:Sim cx F s ρ a w):Sim cx F (X4 ops s) ρ a w/\Steps1 s.hp ρ w (X4 ops s).hp ρ w:=by
 unfold X4;split
 ·split
  ·rename_i j _ i _ _ _ _ _ _;obtain⟨c,b⟩:=h.hs.freeze i;obtain⟨f,g⟩:=Qa9 j _ c;have e:=b.trans g;exact⟨⟨f,fun t x d=>e.vr (h.ts t x d),h.nt⟩,e⟩
  ·exact⟨h,Steps1.refl _ _ _⟩
 ·obtain⟨c,b⟩:=h.hs.freeze (Qix ops s.tm);exact⟨⟨c,fun t x d=>b.vr (h.ts t x d),h.nt⟩,b⟩
theorem Qgz {s a:St}{d c b:List Nat}(h:Qbe s d c b=some a):a.rnd=s.rnd:=by
 unfold Qbe at h;split at h;split at h
 ·simp only[jIj] at h;subst h;rfl
 ·cases h
theorem QaE {Q:Exit->Act->World->Prop}{e:Ex}{a:Act}{w:World}(h:Q (Jk e) a w):Exit.noGoto Q (Jk e) a w:=by cases e<;>exact h
def Qkn (rr:Option Nat)(cx:Cx)(c:Code)(Q:Exit->Act->World->Prop)(a:Act)(w:World):Prop :=
 wpR rr cx.P c Q a w/\∀b,c=.loop b->wpL rr cx.P b Q a w
theorem GN {F:Nat->Prop}{s:St}{ρ:Nat->Value}{a:Act}{w:World}(h:Sim cx F s ρ a w)(r:List Orc)(ob:List Prop):Sim cx F { s with orc:=r,ob } ρ a w :=
 ⟨h.hs,h.ts,h.nt⟩
theorem Qfg (hN:NoAsk cx)(hm:cx.P.follows .mixedOrders=true):∀(n:Nat) (c:Code) (s:St) (e:Ex) (s' : St),We n cx c s=some (e,s')->(∀p,p∈s'.ob->p)->(∀p,p∈s.ob->p) /\
  ∀(rr:Option Nat) (F:Nat->Prop) (ρ:Nat->Value) (a:Act) (w:World),(s.rnd=false->rr=none)->Sim cx F s ρ a w ->
   Qkn rr cx c (fun H G w'=>H=Jk e/\After cx F s.vis s.nt s.hp ρ w a.defers s'.tm s'.hp G w') a w:=by
 intro n;induction n with
 | zero=>intro c s e s' h;simp[We] at h
 | succ n ih =>
  intro c s e s' h z;have hE:ExOK cx (We n cx):=fun c s e s' h z=>by obtain⟨h1,h2⟩:=ih c s e s' h z;exact⟨h1,fun rr F ρ a w u o=>(h2 rr F ρ a w u o).1⟩
  have U:=XG cx n;have M:=QiE hN hE U;have a8:=Qgc hE U;cases c with
  | skip =>
   simp only[We,jIj,jPj] at h;obtain⟨rfl,rfl⟩:=h;exact⟨z,fun rr F ρ a w u o=>⟨Qhe ⟨rfl,After.refl o⟩,fun _ v=>by cases v⟩⟩
  | label l =>
   simp only[We,jIj,jPj] at h;obtain⟨rfl,rfl⟩:=h;exact⟨z,fun rr F ρ a w u o=>⟨Qge ⟨rfl,After.refl o⟩,fun _ v=>by cases v⟩⟩
  | exit id =>
   simp only[We,jIj,jPj] at h;obtain⟨rfl,rfl⟩:=h;exact⟨z,fun rr F ρ a w u o=>⟨Qhf ⟨rfl,After.refl o⟩,fun _ v=>by cases v⟩⟩
  | ret =>
   simp only[We,jIj,jPj] at h;obtain⟨rfl,rfl⟩:=h;exact⟨z,fun rr F ρ a w u o=>⟨QiH ⟨rfl,After.refl o⟩,fun _ v=>by cases v⟩⟩
  | region id ops draw =>
   simp only[We,St.force_eq] at h;split at h
   ·split at h;case h_2=>cases h
    rename_i s1 J;simp only[jIj,jPj] at h;obtain⟨rfl,rfl⟩:=h;have b6:=Qa3 _ _ _ J z;obtain⟨v1,V,_⟩:=zN (kG U cx) (yU U) _ _ _ J;refine⟨b6,fun rr F ρ a w u o=>⟨fun m=>wpIn_region ?_,fun _ v=>by cases v⟩⟩;have a6:ops.size=ops.toList.length:=by simp
    rw[a6];refine Qb0 M a8 _ _ _ ρ a w J z ⟨o.hs,o.ts,o.nt⟩ fun ρ' G w' K T g3=>⟨rfl,ρ',K.hs,K.ts,?_,by rw[g3];exact DfTo.refl _ _ _,T.toV⟩
    rw[K.nt];exact wF V
   ·split at h;case h_2=>cases h
    rename_i recs ob orc O;split at h;case h_2=>cases h
    rename_i b7;simp only[jIj,jPj] at h;obtain⟨rfl,rfl⟩:=h;have b4:∀(rr:Option Nat) (F:Nat->Prop) (ρ:Nat->Value) (a:Act) (w:World) (o:Sim cx F s ρ a w),_:=fun rr F ρ a w o =>
     Qe4 (rr:=rr) (Q:=fun H G w'=>H=Jk .normal/\After cx F s.vis s.nt s.hp ρ w a.defers (YL recs++s.tm) (WR recs++(X4 ops s).hp) G w') (id:=id) hm M (kG U cx) a8 (by rw[(jE ops s).2.2.2.2.2.1];exact O) b7 z (Qdp ops o).1
      (fun ρ' G w' K T g3 g4 g5=>⟨rfl,ρ',K,by rw[<-(jE ops s).1];exact T,by rw[<-(jE ops s).2.1];exact g3,by rw[g4];exact DfTo.refl _ _ _,((Qdp ops o).2.trans g5).toV⟩)
    refine⟨?_,fun rr F ρ a w u o=>⟨(b4 rr F ρ a w o).1,fun _ v=>by cases v⟩⟩;rw[List.range_eq_range'] at O;exact(wW _ 0 [] recs s.ob ob (X4 ops s).orc orc O z ⟨List.Pairwise.nil,fun r u=>by simp at u,fun j hj=>by omega,fun r u=>by simp at u⟩).2
  | seq x y =>
   simp only[We] at h;split at h
   ·rename_i s1 J;obtain⟨b1,b2⟩:=ih _ _ _ _ h z;obtain⟨A,E⟩:=ih _ _ _ _ J b1;obtain⟨v1,V,_⟩:=U _ _ _ _ J;refine⟨A,fun rr F ρ a w u o=>⟨Qfn (VW (E rr F ρ a w u o).1 ?_),fun _ v=>by cases v⟩⟩;rintro H G w' ⟨rfl,q⟩;obtain⟨ρ',K,T,gd⟩:=q.sim (wF V);refine VW (b2 rr F ρ' G w' (fun h=>u ((Qca V).symm.trans h)) K).1 ?_;rintro H a5 b3 ⟨rfl,h2⟩;rw[v1,wF V] at h2;exact⟨rfl,After.trans T K.hs gd h2⟩
   ·rename_i N;obtain⟨A,E⟩:=ih _ _ _ _ h z;refine⟨A,fun rr F ρ a w u o=>⟨Qfn (VW (E rr F ρ a w u o).1 ?_),fun _ v=>by cases v⟩⟩;rintro H G w' ⟨rfl,q⟩;cases e with
    | normal=>exact absurd h (N s')
    | exit id=>exact⟨rfl,q⟩
    | ret=>exact⟨rfl,q⟩
  | cond x t H =>
   simp only[We] at h;split at h;case h_2=>cases h
   rename_i b hb;have hev:∀(F:Nat->Prop) (ρ:Nat->Value) (a:Act) (w:World),Sim cx F s ρ a w->a.eval x=.bool b:=fun F ρ a w o=>by
    have:=jX o.hs o.ts x;rw[hb] at this;cases this with
    | d _ _ hd=>generalize a.eval x=y at hd;cases hd;rfl
   split at h
   ·obtain⟨A,E⟩:=ih _ _ _ _ h z;have Z:b=true:=A _ jMj;refine⟨fun p hp=>A p (jmj _ hp),fun rr F ρ a w u o=>⟨QcP (hev F ρ a w o) ?_,fun _ v=>by cases v⟩⟩;rw[jTj Z];exact(E rr F ρ a w u (GN o _ _)).1
   ·obtain⟨A,E⟩:=ih _ _ _ _ h z;have Z:b=false:=A _ jMj;refine⟨fun p hp=>A p (jmj _ hp),fun rr F ρ a w u o=>⟨QcP (hev F ρ a w o) ?_,fun _ v=>by cases v⟩⟩;rw[jFj (by rw[Z];simp)];exact(E rr F ρ a w u (GN o _ _)).1
   ·split at h
    ·obtain⟨A,E⟩:=ih _ _ _ _ h z;refine⟨A,fun rr F ρ a w u o=>⟨QaC (hev F ρ a w o) ?_,fun _ v=>by cases v⟩⟩;exact(E rr F ρ a w u (GN o _ s.ob)).1
    ·obtain⟨A,E⟩:=ih _ _ _ _ h z;refine⟨A,fun rr F ρ a w u o=>⟨yV (hev F ρ a w o) ?_,fun _ v=>by cases v⟩⟩;exact(E rr F ρ a w u (GN o _ s.ob)).1
   ·cases h
  | block id body =>
   simp only[We] at h;split at h
   ·rename_i i s1 J;have a9:(∀p,p∈s1.ob->p)->(∀p,p∈s.ob->p)/\∀(rr:Option Nat) (F:Nat->Prop) (ρ:Nat->Value) (a:Act) (w:World),(s.rnd=false->rr=none)->Sim cx F s ρ a w->wpR rr cx.P body (fun H G w'=>H=Jk (.exit i)/\After cx F s.vis s.nt s.hp ρ w a.defers s1.tm s1.hp G w') a w:=fun z=>by obtain⟨A,E⟩:=ih _ _ _ _ J z;exact⟨A,fun rr F ρ a w u o=>(E rr F ρ a w u o).1⟩
    split at h
    ·rename_i L;have hi:i=id:=jqj L;simp only[jIj,jPj] at h;obtain⟨rfl,rfl⟩:=h;obtain⟨A,E⟩:=a9 z;refine⟨A,fun rr F ρ a w u o=>⟨js (VW (E rr F ρ a w u o) ?_),fun _ v=>by cases v⟩⟩;rintro H G w' ⟨rfl,q⟩;simp only[Jk,Exit.inBlock,hi,if_true];exact⟨trivial,q⟩
    ·rename_i L;have hi:i≠id:=Nat.ne_of_beq_eq_false L;simp only[jIj,jPj] at h;obtain⟨rfl,rfl⟩:=h;obtain⟨A,E⟩:=a9 z;refine⟨A,fun rr F ρ a w u o=>⟨js (VW (E rr F ρ a w u o) ?_),fun _ v=>by cases v⟩⟩;rintro H G w' ⟨rfl,q⟩;simp only[Jk,Exit.inBlock,jFj hi];exact⟨trivial,q⟩
   ·rename_i N;obtain⟨A,E⟩:=ih _ _ _ _ h z;refine⟨A,fun rr F ρ a w u o=>⟨js (VW (E rr F ρ a w u o).1 ?_),fun _ v=>by cases v⟩⟩;rintro H G w' ⟨rfl,q⟩;cases e with
    | normal=>exact⟨rfl,q⟩
    | exit i=>exact absurd h (N i s')
    | ret=>exact⟨rfl,q⟩
  | scope body =>
   simp only[We] at h;obtain⟨A,E⟩:=ih _ _ _ _ h z;refine⟨A,fun rr F ρ a w u o=>⟨zG (VW (E rr F ρ a w u o).1 ?_),fun _ v=>by cases v⟩⟩;rintro H G w' ⟨rfl,q⟩;exact QaE ⟨rfl,q⟩
  | loop body =>
   suffices hk:(∀p,p∈s.ob->p)/\∀(rr:Option Nat) (F:Nat->Prop) (ρ:Nat->Value) (a:Act) (w:World),(s.rnd=false->rr=none)->Sim cx F s ρ a w ->
     wpL rr cx.P body (fun H G w'=>H=Jk e/\After cx F s.vis s.nt s.hp ρ w a.defers s'.tm s'.hp G w') a w by
    exact⟨hk.1,fun rr F ρ a w u o=>⟨Qgd (hk.2 rr F ρ a w u o),fun b v=>by cases v;exact hk.2 rr F ρ a w u o⟩⟩
   simp only[We] at h;split at h
   ·split at h;case h_2=>cases h
    rename_i s0 a7;simp only[jIj,jPj] at h;obtain⟨rfl,rfl⟩:=h;have b5:=z _ jMj;refine⟨fun p hp=>z p (jmj _ hp),fun rr F ρ a w u o=>?_⟩;obtain⟨ρ1,K,T,g3,g4⟩:=kW a7 o;have hl:=b5 rr F ρ1 a w (fun h=>u ((Qgz a7).symm.trans h)) ⟨K.hs,K.ts,K.nt⟩;intro b k cs a4;obtain⟨H,G,w',⟨q1,q2⟩,q3⟩:=hl b k cs a4;have q2:After cx F s0.vis s0.nt s0.hp ρ1 w a.defers _ _ G w':=q2;rw[g3,g4] at q2;exact⟨H,G,w',⟨q1,After.trans T K.hs (DfTo.refl _ _ _) q2⟩,q3⟩
   ·split at h
    ·rename_i s1 J;obtain⟨b1,b2⟩:=ih _ _ _ _ h z;obtain⟨A,E⟩:=ih _ _ _ _ J b1;obtain⟨v1,V,_⟩:=U _ _ _ _ J;refine⟨A,fun rr F ρ a w u o=>qJ (VW (E rr F ρ a w u ⟨o.hs,fun t x S=>o.ts t x (Ej _ _ _ _ S).2,o.nt⟩).1 ?_)⟩;rintro H G w' ⟨rfl,q⟩;obtain⟨ρ',K,T,gd⟩:=q.sim (wF V);intro b k cs a4;obtain⟨H,a5,b3,⟨q1,q2⟩,q3⟩:=(b2 rr F ρ' G w' (fun h=>u ((Qca V).symm.trans h)) K).2 body rfl b k cs a4;rw[v1,wF V] at q2;exact⟨H,a5,b3,⟨q1,After.trans T K.hs gd q2⟩,q3⟩
    ·rename_i N;obtain⟨A,E⟩:=ih _ _ _ _ h z;refine⟨A,fun rr F ρ a w u o=>qJ (VW (E rr F ρ a w u ⟨o.hs,fun t x S=>o.ts t x (Ej _ _ _ _ S).2,o.nt⟩).1 ?_)⟩;rintro H G w' ⟨rfl,q⟩;cases e with
     | normal=>exact absurd h (N s')
     | exit id=>exact⟨rfl,q⟩
     | ret=>exact⟨rfl,q⟩
   ·cases h
  | rangeFunc f ps as bd =>
   simp only[We] at h;split at h;case h_2=>cases h
   rename_i g a0 b0 X W C;split at h;case h_2=>cases h
   rename_i s2 S;split at h;case h_3=>cases h
   ·rename_i Y a3;simp only[jIj,jPj] at h;obtain⟨rfl,rfl⟩:=h;simp only[jAj] at C;obtain⟨c1,c2⟩:=wA hN hE U W C.1 C.2 S Y rfl a3 z;refine⟨c1,fun rr F ρ a w u o=>⟨?_,fun _ v=>by cases v⟩⟩;rw[u X];refine VW (c2 F ρ a w o) ?_;rintro H G w' ⟨rfl,ρ',k1,k2,k3,k4,k5⟩;obtain⟨l1,l2⟩:=W6 (Qbg s.nx Blk.dead s2.hp) k1;exact⟨rfl,ρ',l1,fun t x S=>l2.vr (k2 t x S),k3,k4,k5.trans l2.toV⟩
   ·rename_i e Y a3;simp only[jIj,jPj] at h;obtain⟨rfl,rfl⟩:=h;simp only[jAj] at C;obtain⟨c1,c2⟩:=wA hN hE U W C.1 C.2 S Y rfl a3 z;refine⟨c1,fun rr F ρ a w u o=>⟨?_,fun _ v=>by cases v⟩⟩;rw[u X];refine VW (c2 F ρ a w o) ?_;rintro H G w' ⟨rfl,ρ',k1,k2,k3,k4,k5⟩;obtain⟨l1,l2⟩:=W6 (Qbg s.nx Blk.dead s2.hp) k1;exact⟨rfl,ρ',l1,fun t x S=>l2.vr (k2 t x S),k3,k4,k5.trans l2.toV⟩
  | _=>simp only[We] at h;cases h
theorem jk (f:NoAsk cx)(g:cx.P.follows .mixedOrders=true)(n:Nat):ExOK cx (We n cx):=fun c s e s' h i=>by obtain⟨b,d⟩:=Qfg f g n c s e s' h i;exact⟨b,fun rr F ρ a w j k=>(d rr F ρ a w j k).1⟩
variable {cx:Cx}
def All:List Prop->Prop
 | []=>True
 | p::l=>p/\All l
theorem All.mem {l:List Prop}(h:All l):∀p,p∈l->p:=by
 induction l with
 | nil=>intro p hp;cases hp
 | cons q l ih =>
  intro p hp;cases hp with
  | head=>exact h.1
  | tail _ hp=>exact ih h.2 p hp
def Qfu (sym:Bool)(n:Nat)(cx:Cx)(f:FuncId)(a:jVj)(orc:List Orc):Option (D×List Prop) :=
 match KM (We n cx) cx f (a.map .d) { nt:=0,sym,tm:=[],hp:=[],nx:=0,orc,ob:=[],vis:=0,sfx:=true } with
 | some (x,s)=>match x.toDH s.hp with
  | some (r,_)=>some (r,s.ob)
  | none=>none
 | none=>none
theorem Qcv (E:NoAsk cx)(K:cx.P.follows .mixedOrders=true){m:Bool}{n:Nat}{f:FuncId}{j:jVj}{orc:List Orc}{r:D}{ob:List Prop}(h:Qfu m n cx f j orc=some (r,ob))(L:All ob):Computes cx f j r:=by
 unfold Qfu at h;split at h;case h_2=>cases h
 rename_i x s O;split at h;case h_2=>cases h
 rename_i y o Q;simp only[jIj,jPj] at h;obtain⟨rfl,rfl⟩:=h;obtain⟨_,u⟩:=U9 (jk E K n) (XG cx n) O L.mem;intro w F vs A C J N;have l:∀r,MM F [] (fun _=>undef) r->F r:=by
  rintro r (h|⟨b,k,a,_⟩)
  ·exact h
  ·simp[look] at a
 have M:HSim cx F [] (fun _=>undef) w:=⟨fun b k a=>by simp[look] at a,fun b T k U r a=>by simp[look] at a,fun r ⟨b,k,a,_⟩=>by simp[look] at a,A,
  fun g x H=>(C g x H).ext (jLj _) (fun _ _ _=>rfl) fun r _ h=>l r h⟩
 refine(u F (fun _=>undef) w vs M (by simpa using J) fun i c z hc S=>?_).mono ?_
 ·simp only[List.getElem?_map,Option.map_eq_some_iff] at hc;obtain⟨d,G,rfl⟩:=hc;exact .d _ _ ((N i d z G S).ext (jLj _) (fun _ _ _=>rfl) fun r _ h=>l r h)
 ·rintro e w' ⟨v,rfl,ρ',p,q,t⟩;refine⟨v,rfl,?_,q.ext.mono fun r ⟨b,k,a,_⟩=>by simp[look] at a⟩;have:=Z8 p o x v y o Q (fun _ h=>h) t;exact this.ext (jLj _) (fun _ _ _=>rfl) fun r _ h=>.inl h
def Xk (n:Nat)(cx:Cx)(c:Code)(nt vis:Nat)(rnd:Bool)(nx:Nat)(tm:List (Nat×AV))(hp:List (Nat×Blk))(orc:List Orc)(d b a:List Nat):Option (Ex×List (Nat×AV)×List (Nat×Blk)×List Prop) :=
 match We n cx c { nt,sym:=true,tm,hp,nx,orc,ob:=[],vis,sfx:=true,rnd } with
 | some (e,s)=>match Qbe s d b a with
  | some s'=>some (e,s'.tm,s'.hp,s.ob)
  | none=>none
 | none=>none
inductive Round (n:Nat) (cx:Cx) (c:Code) (nt vis:Nat) (rnd:Bool) (nx:Nat) (tm:List (Nat×AV)) (hp:List (Nat×Blk)) (orc:List Orc) (pr kt kb:List Nat) (e:Ex) (tm' : List (Nat×AV)) (hp' : List (Nat×Blk)):Prop
 | mk (ob:List Prop) (h:Xk n cx c nt vis rnd nx tm hp orc pr kt kb=some (e,tm',hp',ob)) (ho:All ob):Round n cx c nt vis rnd nx tm hp orc pr kt kb e tm' hp'
theorem kQ (A:NoAsk cx)(C:cx.P.follows .mixedOrders=true){n:Nat}{c:Code}{m vis J:Nat}{rnd:Bool}{tm j : List (Nat×AV)}{hp i : List (Nat×Blk)}{orc:List Orc}{K H G:List Nat}{e:Ex}
  (h:Round n cx c m vis rnd J tm hp orc K H G e j i) {F:Nat->Prop} {s:St} {ρ:Nat->Value} {a:Act} {w:World} {rr:Option Nat} (k:rnd=false->rr=none) (l:Sim cx F s ρ a w) (v:s.tm=tm) (x:s.hp=hp) (y:s.nt=m) (z:s.vis=vis) :
  wpR rr cx.P c (fun q p w'=>q=Jk e/\After cx F vis m hp ρ w a.defers j i p w') a w:=by
 subst v x y z;obtain⟨ob,d,E⟩:=h;unfold Xk at d;split at d;case h_2=>cases d
 rename_i S U r;split at d;case h_2=>cases d
 rename_i V b;simp only[jIj,jPj] at d;obtain⟨rfl,rfl,rfl,rfl⟩:=d;obtain⟨_,g⟩:=jk A C n _ _ _ _ r E.mem;obtain⟨Q,u,_⟩:=XG cx n _ _ _ _ r;refine VW (g rr F ρ a w k ⟨l.hs,l.ts,l.nt⟩) ?_;rintro q p w' ⟨rfl,f⟩;obtain⟨ρ',L,M,N⟩:=f.sim (wF u);obtain⟨ρ1,o,t,T,O⟩:=kW b L;refine⟨rfl,ρ1,o.hs,o.ts,?_,N,?_⟩
 ·rw[o.nt,O,wF u]
 ·rw[Q] at t;exact M.trans t
theorem Qhy {n:Nat}{c:Code}{g vis i:Nat}{rnd:Bool}{tm b : List (Nat×AV)}{hp a : List (Nat×Blk)}{orc:List Orc}{j f d:List Nat}{e:Ex}{ob:List Prop}
  (h:Xk n cx c g vis rnd i tm hp orc j f d=some (e,b,a,ob)) (k:All ob):Round n cx c g vis rnd i tm hp orc j f d e b a:=by
 exact .mk ob h k
theorem QA:All []:=trivial
theorem Qb {p:Prop}{l:List Prop}(h:p)(t:All l):All (p::l):=⟨h,t⟩
theorem Qdc {n:Nat}{c:Code}{g vis i:Nat}{rnd:Bool}{tm b : List (Nat×AV)}{hp a : List (Nat×Blk)}{orc:List Orc}{j f d:List Nat}{e:Ex}{ob:List Prop}
  (k:All ob) (h:Xk n cx c g vis rnd i tm hp orc j f d=some (e,b,a,ob)):Round n cx c g vis rnd i tm hp orc j f d e b a:=Qhy h k
def KU:Code->List Code
 | .seq a b=>KU a++KU b
 | .cond _ t e=>KU t++KU e
 | .block _ b=>KU b
 | .scope b=>KU b
 | .loop b=>b::KU b
 | .rangeFunc _ _ a b=>KU a++KU b
 | _=>[]
def Zt (P:Program)(f i:Nat):Code:=match P.funcs[f]? with
 | some a=>match a.body with
  | some b=>match nth (KU b) i with
   | some c=>c
   | none=>.skip
  | none=>.skip
 | none=>.skip
def U3:Code->List (Code×Code)
 | .seq a b=>U3 a++U3 b
 | .cond _ t e=>U3 t++U3 e
 | .block _ b=>U3 b
 | .scope b=>U3 b
 | .loop b=>U3 b
 | .rangeFunc _ _ a b=>(a,b)::U3 b
 | _=>[]
def Z3 (P:Program)(f i:Nat):Code×Code:=match P.funcs[f]? with
 | some a=>match a.body with
  | some b=>match nth (U3 b) i with
   | some c=>c
   | none=>(.skip,.skip)
  | none=>(.skip,.skip)
 | none=>(.skip,.skip)
theorem QhL (P:Program)(G:Nat->Option D)(h:(P.funcs.toList.all fun a=>!(a.body.isSome&&(a.name=="runtime.NumGoroutine")))=true):NoAsk { P,G }:=by
 refine⟨fun f a c b=>?_,fun f g ds r d=>by cases d⟩;rw[List.all_eq_true] at h;have e:a∈P.funcs.toList:=by have:=Array.mem_of_getElem? c;simpa using this
 have:=h a e;rw[b] at this;simpa using this
abbrev I (n:Int):D:=.v (.int .i64 n)
abbrev B (b:Bool):D:=.v (.bool b)
def Qer (n:Nat)(cx:Cx)(f:FuncId)(xs:List AV)(es:jVj)(orc:List Orc):Option (D×jVj×List Prop) :=
 match KM (We n cx) cx f xs { nt:=0,sym:=true,tm:=[],hp:=[(0,.mp es)],nx:=1,orc,ob:=[],vis:=1,sfx:=true } with
 | some (x,s)=>match x.toDH s.hp,look s.hp 0 with
  | some (y,a),some (.mp es')=>match a.contains 0 with
   | true=>none
   | false=>some (y,es',s.ob)
  | _,_=>none
 | none=>none
theorem QgD (N:NoAsk cx)(z:cx.P.follows .mixedOrders=true){n:Nat}{f:FuncId}{xs:List AV}{es es' : jVj}{orc:List Orc}{r:D}{ob:List Prop}(h:Qer n cx f xs es orc=some (r,es',ob))(T:All ob):jo cx f xs es r es':=by
 unfold Qer at h;split at h;case h_2=>cases h
 rename_i x s V;split at h;case h_2=>cases h
 rename_i y c j W l;split at h
 ·cases h
 rename_i o;simp only[jIj,jPj] at h;obtain⟨rfl,rfl,rfl⟩:=h;have E:¬0∈c:=by
  intro z;have:c.contains 0=true:=by simpa using z
  rw[this] at o;cases o
 obtain⟨_,M⟩:=U9 (jk N z n) (XG cx n) V T.mem;intro w F m vs O S U;refine(M F (fun _=>.map (some m)) w vs O S U).mono ?_;rintro e w' ⟨v,rfl,ρ',H,J,L⟩;obtain⟨X,d,_,i⟩:=J.grow 0 (.mp es) (by show 0<1;omega) rfl;rw[l] at d;simp only[jIj] at d;subst d;have u:ρ' 0=.map (some m):=i rfl;obtain⟨p,f2⟩:=H.freeze c;have b:look (Qd s.hp c++s.hp) 0=some (.mp j):=by rw[QY _ _ _ E];exact l
 have hin:∀q,MM F [(0,.mp j)] (fun _=>.map (some m)) q->MM F (Qd s.hp c++s.hp) ρ' q:=by
  rintro q (a|a)
  ·exact .inl a
  ·rw[X9] at a;subst a;exact .inr ⟨0,_,b,rfl,by rw[u];rfl⟩
 obtain⟨m1,t,K,G,Y,Z⟩:=p.blk 0 _ b;rw[u] at G;simp only[Value.map.injEq,jIj] at G;subst G;refine⟨v,rfl,⟨fun n k A=>?_,fun n n' k X q A C _ _ _ _=>?_,fun q a=>?_,p.bnd,fun g x Q=>(p.glob g x Q).ext (jLj _) (fun _ _ _=>rfl) fun q _ a=>hin q a⟩,?_,?_⟩
 ·obtain⟨rfl,rfl⟩:=Xo A;exact⟨m,t,K,rfl,Y,Z.ext (jLj _) (fun _ _ _=>rfl) fun q _ a=>hin q a⟩
 ·rw[(Xo A).1,(Xo C).1]
 ·rw[X9] at a;subst a;exact p.forb _ ⟨0,_,b,rfl,by rw[u];rfl⟩
 ·exact(Z8 H c x v y c W (fun _ h=>h) L).ext (jLj _) (fun _ _ _=>rfl) fun q _ a=>hin q a
 ·exact J.ext.mono fun q a=>X9.1 a
variable {cx:Cx}
inductive LE:D->D->Prop
 | refl (x:D):LE x x
 | lst (f f' : Bool) (sz sz' : Nat) (es:jVj) (hf:f'=true->f=true) (hs:es=[]\/sz=sz'):LE (.lst f sz es) (.lst f' sz' es)
 | tup (xs ys:jVj) (hl:xs.length=ys.length) (h:∀(i:Nat) (x y:D),xs[i]?=some x->ys[i]?=some y->LE x y):LE (.tup xs) (.tup ys)
 | agg (xs ys:jVj) (hl:xs.length=ys.length) (h:∀(i:Nat) (x y:D),xs[i]?=some x->ys[i]?=some y->LE x y):LE (.agg xs) (.agg ys)
theorem DR.le {w:World}{M:Nat->Prop}{x n : D}(u:LE x n):∀{y:Value},DR w M x y->DR w M n y:=by
 induction u with
 | refl x=>exact fun h=>h
 | lst f f' sz sz' es hf hs =>
  intro y h;cases h with
  | lst _ _ _ a cap blk off ys o p q r s t =>
   refine .lst f' sz' es a cap blk off ys (fun h=>o (hf h)) p q (fun i e d=>?_) (fun i e j c d hc=>?_) (fun i e j c d hc=>?_)
   ·obtain rfl|rfl:=hs
    ·simp at d
    ·exact r i e d
   ·obtain rfl|rfl:=hs
    ·simp at d
    ·exact s i e j c d hc
   ·obtain rfl|rfl:=hs
    ·simp at d
    ·exact t i e j c d hc
 | tup xs ys hl h ih =>
  intro y l;cases l with
  | tup _ vs g m =>
   refine .tup ys vs (hl ▸ g) fun i c v hc k=>?_;have b:i<xs.length:=by rw[hl];exact(jGj hc).1
   exact ih i xs[i] c (by simp[b]) hc (m i xs[i] v (by simp[b]) k)
 | agg xs ys hl h ih =>
  intro y l;cases l with
  | agg _ vs g m =>
   refine .agg ys vs (hl ▸ g) fun i c v hc k=>?_;have b:i<xs.length:=by rw[hl];exact(jGj hc).1
   exact ih i xs[i] c (by simp[b]) hc (m i xs[i] v (by simp[b]) k)
inductive LEs:jVj->jVj->Prop
 | nil:LEs [] []
 | cons {x y:D} {xs ys:jVj} (h:LE x y) (t:LEs xs ys):LEs (x::xs) (y::ys)
theorem LEs.length {xs ys:jVj}(h:LEs xs ys):xs.length=ys.length:=by induction h with
 | nil=>rfl
 | cons _ _ ih=>simp[ih]
theorem LEs.get {xs ys:jVj}(h:LEs xs ys):∀(i:Nat) (x y:D),xs[i]?=some x->ys[i]?=some y->LE x y:=by
 induction h with
 | nil=>intro i x y a;simp at a
 | cons h _ ih =>
  intro i x y a b;cases i with
  | zero=>simp at a b;subst a;subst b;exact h
  | succ i=>exact ih i x y (by simpa using a) (by simpa using b)
theorem LE.tups {xs ys:jVj}(h:LEs xs ys):LE (.tup xs) (.tup ys):=.tup xs ys h.length h.get
theorem LE.aggs {xs ys:jVj}(h:LEs xs ys):LE (.agg xs) (.agg ys):=.agg xs ys h.length h.get
theorem LE.full (f:Bool)(sz:Nat)(es:jVj):LE (.lst f sz es) (.lst false sz es):=.lst _ _ _ _ _ nofun (.inr rfl)
theorem LE.nilF {f:Bool}{sz a : Nat}:LE (.lst f sz []) (.lst false a []):=.lst _ _ _ _ _ nofun (.inl rfl)
theorem LE.none (f:Bool)(sz a : Nat):LE (.lst f sz []) (.lst f a []):=.lst _ _ _ _ _ id (.inl rfl)
theorem LEs.refl:∀xs:jVj,LEs xs xs
 | []=>.nil
 | _::xs=>.cons (.refl _) (LEs.refl xs)
theorem Computes.le {f:FuncId}{b a : jVj}{r j : D}(h:Computes cx f b r)(g:LEs a b)(q:LE r j):Computes cx f a j:=by
 intro w F vs n o p s;refine(h w F vs n o (by rw[<-g.length];exact p) fun i c y hc t=>?_).mono ?_
 ·have d:i<a.length:=by rw[g.length];exact(jGj hc).1
  exact DR.le (g.get i a[i] c (by simp[d]) hc) (s i a[i] y (by simp[d]) t)
 ·rintro e w' ⟨y,k,l,m⟩;exact⟨y,k,DR.le q l,m⟩
variable {cx:Cx}
instance (n:Int):Decidable (Qg n):=by unfold Qg;infer_instance
theorem Qcn {a:Type}{p:Prop}[Decidable p]{x:Option a}{r:a}(h:(if p then x else none)=some r):p/\x=some r:=by
 by_cases hp:p
 ·rw[jTj hp] at h;exact⟨hp,h⟩
 ·rw[jFj hp] at h;cases h
theorem U7 {a:Type}{p:Prop}[Decidable p]{x y:Option a}{r:a}(h:(if p then x else y)=some r)(hp:p):x=some r:=by rwa [jTj hp] at h
theorem U8 {a:Type}{p:Prop}[Decidable p]{x y:Option a}{r:a}(h:(if p then x else y)=some r)(hp:¬p):y=some r:=by rwa [jFj hp] at h
theorem Wh {a b:Type}{x:Option a}{f:a->Option b}{r:b}(h:x.bind f=some r):∃t,x=some t/\f t=some r:=Option.bind_eq_some_iff.1 h
theorem eqt {a b:Int}(h:a=b):(a==b)=true:=by simpa using h
theorem eqf {a b:Int}(h:¬a=b):(a==b)=false:=by simpa using h
theorem net {a b:Int}(h:¬a=b):(a != b)=true:=by simpa using h
theorem nef {a b:Int}(h:a=b):(a != b)=false:=by simpa using h
theorem Zy {b:Bool}(h:¬b=true):b=false:=by simpa using h
theorem wG {b:Bool}(h:b=false):(!b)=true:=by simp[h]
theorem zV {b:Bool}(h:b=true):(!b)=false:=by simp[h]
def Zv (a b:Int):Int:=if b<a then b else a
theorem GS (a b:Int):Zv a b=min a b:=by unfold Zv;omega
def Wi (b n:Nat):Prop:=n*b<=140737488355328
instance (b n:Nat):Decidable (Wi b n):=by unfold Wi;infer_instance
theorem Qfv {e b n:Nat}(c:cx.bytes e=some b)(a:0<b)(h:Wi b n):room cx e n:=by unfold room;rw[c];exact⟨h,a⟩
def YZ (k:IntKind):D->Option Int
 | .v (.int k' n)=>if k'=k then some n else none
 | _=>none
theorem Vj {k:IntKind}{d:D}{x:Int}(h:YZ k d=some x):d=.v (.int k x):=by
 unfold YZ at h;split at h
 ·split at h
  ·rename_i a;cases h;rw[a]
  ·cases h
 ·cases h
def wv:D->Option Bool
 | .v (.bool b)=>some b
 | _=>none
theorem zH {d:D}{x:Bool}(h:wv d=some x):d=.v (.bool x):=by
 unfold wv at h;split at h
 ·cases h;rfl
 ·cases h
def JY:D->Option jSj
 | .v (.string s)=>some s
 | _=>none
theorem UM {d:D}{x:jSj}(h:JY d=some x):d=.v (.string x):=by
 unfold JY at h;split at h
 ·cases h;rfl
 ·cases h
abbrev FnD:=Fn×jVj×jVj
def QbQ:D->Option FnD
 | .fn f a c=>some (f,a,c)
 | _=>none
theorem QaX {d:D}{x:FnD}(h:QbQ d=some x):d=.fn x.1 x.2.1 x.2.2:=by
 unfold QbQ at h;split at h
 ·cases h;rfl
 ·cases h
def jt (sz:Nat):D->Option (jVj)
 | .lst false s es=>if s=sz then some es else none
 | _=>none
theorem qK {sz:Nat}{d:D}{x:jVj}(h:jt sz d=some x):d=.lst false sz x:=by
 unfold jt at h;split at h
 ·split at h
  ·rename_i a;cases h;rw[a]
  ·cases h
 ·cases h
def el {a:Type}(un:D->Option a)(es:jVj)(i:Int):Option a:=if 0<=i then(nth es i.toNat).bind un else none
theorem Q0 {a:Type}{un:D->Option a}{enc:a->D}(b:∀{d:D} {x:a},un d=some x->d=enc x){es:jVj}{i:Nat}{x:a}(h:(nth es i).bind un=some x):nth es i=some (enc x):=by obtain⟨d,c,e⟩:=Wh h;rw[c,b e]
theorem Qf0 {a:Type}{un:D->Option a}{enc:a->D}(b:∀{d:D} {x:a},un d=some x->d=enc x){es:jVj}{i:Int}{x:a}(h:el un es i=some x):0<=i/\nth es i.toNat=some (enc x):=by
 unfold el at h;split at h
 ·rename_i c;exact⟨c,Q0 b h⟩
 ·cases h
def QU {S E:Type}(step:S->Option (S⊕E)):Nat->S->Option E
 | 0,_=>none
 | n+1,s=>match step s with
  | none=>none
  | some (.inl s')=>QU step n s'
  | some (.inr e)=>some e
def Rd {S E:Type}(cx:Cx)(c:Code)(g vis:Nat)(rnd:Bool)(T:S->List (Nat×AV))(H:S->List (Nat×Blk))(X:E->Ex)(i:E->List (Nat×AV))(h:E->List (Nat×Blk))(s:S):S⊕E->Prop
 | .inl s'=>∃n d orc f b a,Round n cx c g vis rnd d (T s) (H s) orc f b a .normal (T s') (H s')
 | .inr e=>(∃n d orc f b a,Round n cx c g vis rnd d (T s) (H s) orc f b a (X e) (i e) (h e))/\X e≠.normal
theorem QgF (j:NoAsk cx)(l:cx.P.follows .mixedOrders=true){c:Code}{n i vis q:Nat}{rnd:Bool}{tm f : List (Nat×AV)}{hp d : List (Nat×Blk)}{orc:List Orc}{r p o:List Nat}{e:Ex}
  (k:Round n cx c i vis rnd q tm hp orc r p o e f d) (g:e≠.normal):QaA cx c i vis rnd tm hp e f d:=by
 intro rr F ρ a w h m;refine qJ (VW (kQ j l k h m rfl rfl rfl rfl) ?_);rintro t s w' ⟨rfl,b⟩;cases e with
 | normal=>exact absurd rfl g
 | exit id=>exact⟨rfl,b⟩
 | ret=>exact⟨rfl,b⟩
theorem QgE (y:NoAsk cx)(A:cx.P.follows .mixedOrders=true){c:Code}{n nt vis nx:Nat}{rnd:Bool}{tm d k : List (Nat×AV)}{hp hp1 g : List (Nat×Blk)}{orc:List Orc}{H G E:List Nat}{e:Ex}
  (z:Round n cx c nt vis rnd nx tm hp orc H G E .normal d hp1) (h:QaA cx c nt vis rnd d hp1 e k g):QaA cx c nt vis rnd tm hp e k g:=by
 intro rr F ρ a w i C;refine qJ (VW (kQ y A z i C rfl rfl rfl rfl) ?_);rintro r p w' ⟨rfl,f⟩;obtain⟨ρ',s,t,u,v,x⟩:=f;have j:Sim cx F { nt,sym:=true,tm:=d,hp:=hp1,nx:=0,orc:=[],ob:=[],vis,sfx:=true,rnd } ρ' p w':=⟨s,t,u⟩
 have:=h rr F ρ' p w' i j;intro b q cs m;obtain⟨r,l,o,⟨J,K⟩,L⟩:=this b q cs m;refine⟨r,l,o,⟨J,?_⟩,L⟩;exact After.trans x s v K
theorem QdK (a:NoAsk cx)(d:cx.P.follows .mixedOrders=true){S E:Type}{c:Code}{k vis:Nat}{rnd:Bool}{T:S->List (Nat×AV)}{H:S->List (Nat×Blk)}{X:E->Ex}{j:E->List (Nat×AV)}{i:E->List (Nat×Blk)}
  {step:S->Option (S⊕E)} (g:∀s r,step s=some r->Rd cx c k vis rnd T H X j i s r):∀(n:Nat) (s:S) (e:E),QU step n s=some e->QaA cx c k vis rnd (T s) (H s) (X e) (j e) (i e)
 | 0,s,e,h=>by cases h
 | n+1,s,e,h=>by
  unfold QU at h;split at h
  ·cases h
  ·rename_i s' o;obtain⟨m,u,orc,v,t,q,b⟩:=g _ _ o;have p:=QdK a d g n s' e h;exact QgE a d b p
  ·rename_i x l;cases h;obtain⟨⟨m,u,orc,v,t,q,b⟩,f⟩:=g _ _ l;exact QgF a d b f
theorem Qch {a:Type}{un:D->Option a}{enc:a->D}(b:∀{d:D} {x:a},un d=some x->d=enc x){k:Value}{es:jVj}{x:a}(h:(W5 k es).bind un=some x):W5 k es=some (enc x):=by obtain⟨d,c,e⟩:=Wh h;rw[c,b e]
theorem mno {k:Value}{es:jVj}(h:¬(W5 k es).isSome=true):W5 k es=none:=by
 cases hm:W5 k es with
 | none=>rfl
 | some x=>rw[hm] at h;exact absurd rfl h
theorem qU {k:Value}{z x:D}{es:jVj}(a:mok k es=true)(h:W5 k es=some x):YX true k z es=some (.tup [x,B true]):=by unfold YX;rw[a,h]
theorem Gb {k:Value}{z:D}{es:jVj}(a:mok k es=true)(h:W5 k es=none):YX true k z es=some (.tup [z,B false]):=by unfold YX;rw[a,h]
theorem QdG {ok:Bool}{z r:D}{es:jVj}{k c:jSj}{l:List UInt8}(h:k.data.toList=l)(hc:c.data.toList=l)(a:YX ok (.string c) z es=some r):YX ok (.string k) z es=some r:=by
 have:k=c:=by cases k;cases c;simp only[ByteArray.mk.injEq];exact Array.toList_inj.1 (h.trans hc.symm)
 rw[this];exact a
def AllK (cx:Cx):List (Nat×jVj×D)->Prop
 | []=>True
 | p::l=>Computes cx p.1 p.2.1 p.2.2/\AllK cx l
theorem AllK.mem {cx:Cx}:∀{l:List (Nat×jVj×D)},AllK cx l->∀p,p∈l->Computes cx p.1 p.2.1 p.2.2
 | [],_,p,h=>by cases h
 | q::l,hh,p,h=>by
  cases h with
  | head=>exact hh.1
  | tail _ h=>exact AllK.mem hh.2 p h
def UY (s:jSj)(i:Int):Option Int:=match (if 0<=i then s[i.toNat]? else none) with
 | some b=>some (b.toNat:Int)
 | none=>none
theorem QgK {P:Program}{t:TypeId}(c:P.underlying t=some .string){s:jSj}{i x:Int}(h:UY s i=some x):Zu P (Instr.index t (.string s) (.int .i64 i))=some (.int .u8 x):=by
 unfold UY at h;have e:Zu P (Instr.index t (.string s) (.int .i64 i))=Zu P ((match P.underlying t with
  | some d=>pure d
  | none=>stuck "no such type") >>= fun d=>match d,(Value.string s) with
  | .array len elem,.agg cs=>(if 0<=i/\i<len then do part elem cs (i.toNat*(<-sizeOf elem)) else boundsPanic .i64 i len .index)
  | .string,.string s=>(match (if 0<=i then s[i.toNat]? else none) with
   | some b=>pure (.int .u8 b.toNat)
   | none=>boundsPanic .i64 i s.size .index)
  | _,_=>stuck "Index: array or string expected"):=rfl
 rw[e,c];split at h
 ·rename_i b a;cases h;simp only[pure_bind,a];rfl
 ·cases h
def XY (s:jSj)(b a:Option Int):Option jSj :=
 if 0<=b.getD 0/\b.getD 0<=a.getD s.size/\a.getD s.size<=(s.size:Int) then some (s.extract (b.getD 0).toNat (a.getD s.size).toNat) else none
theorem Qgn {P:Program}{t:TypeId}(o:P.underlying t=some .string){s x:jSj}{j f:Option Int}(h:XY s j f=some x) :
  Zu P (Instr.sliceAt t (.string s) (j.map (.int .i64)) (f.map (.int .i64)) none)=some (.string x):=by
 unfold XY at h
 split at h
 case isFalse=>cases h
 rename_i g
 simp only[jIj] at h
 have bnd:∀(i:Int) (y:Nat) (c:BoundsCode),0<=i->i<=y->Instr.sliceBound (.int .i64 i) y c=pure i.toNat:=by
  intro i y c k r
  simp[Instr.sliceBound,asIntOf,k,r]
 have e:Zu P (Instr.sliceAt t (.string s) (j.map (.int .i64)) (f.map (.int .i64)) none)=Zu P ((match P.underlying t with
  | some d=>pure d
  | none=>stuck "no such type") >>= fun d=>match d with
  | .array n elem=>do
   let a <-Instr.sureAddr (.string s)
   let (l,h,m) <-Instr.sliceBounds false n n (j.map (.int .i64)) (f.map (.int .i64)) none
   let size <-sizeOf elem
   pure (.slice (some (if m=l then a else a.add (l*size))) (h - l) (m - l))
  | _=>Instr.slice t (.string s) (j.map (.int .i64)) (f.map (.int .i64)) none):=rfl
 rw[e,o]
 simp only[pure_bind]
 have p:Zu P (Instr.slice t (.string s) (j.map (.int .i64)) (f.map (.int .i64)) none)=Zu P ((match P.underlying t with
  | some d=>pure d
  | none=>stuck "no such type") >>= fun d=>match d,(Value.string s) with
  | .string,.string s=>do
   if(none:Option Value).isSome then stuck "Slice: full slice of a string"
   let (l,h,_) <-Instr.sliceBounds false s.size s.size (j.map (.int .i64)) (f.map (.int .i64)) none
   pure (.string (s.extract l h))
  | .slice elem,.slice a len cap=>do
   let (l,h,m) <-Instr.sliceBounds true len cap (j.map (.int .i64)) (f.map (.int .i64)) none
   let size <-sizeOf elem
   pure (.slice (if m=l then a else a.map (·.add (l*size))) (h - l) (m - l))
  | .pointer arr,x=>do
   let a <-asAddr x
   let .array n elem <-underlying arr|stuck "Slice: array type expected"
   let (l,h,m) <-Instr.sliceBounds false n n (j.map (.int .i64)) (f.map (.int .i64)) none
   let size <-sizeOf elem
   pure (.slice (some (if m=l then a else a.add (l*size))) (h - l) (m - l))
  | _,_=>stuck "Slice: string, slice or pointer to array expected"):=rfl
 rw[p,o]
 simp only[pure_bind]
 cases j with
 | none =>
  cases f with
  | none =>
   simp only[Option.getD_none,jtj,Int.toNat_zero] at h g
   subst h
   simp[Instr.sliceBounds]
   rfl
  | some b =>
   simp only[Option.getD_none,Option.getD_some,Int.toNat_zero] at h g
   subst h
   simp[Instr.sliceBounds,bnd b s.size _ g.2.1 g.2.2]
   rfl
 | some a =>
  cases f with
  | none =>
   simp only[Option.getD_none,Option.getD_some,jtj] at h g
   subst h
   simp[Instr.sliceBounds,bnd a s.size _ g.1 g.2.1]
   rfl
  | some b =>
   simp only[Option.getD_some] at h g
   subst h
   have q:0<=b:=by omega
   have k:a<=(b.toNat:Int):=by omega
   simp[Instr.sliceBounds,bnd b s.size _ q g.2.2,bnd a b.toNat _ g.1 k]
   rfl
variable {cx:Cx}
def objB (b:Nat):Option (List OC)->Nat
 | some _=>0
 | none=>b
def QfE:Option (List OC)->Nat
 | some cs=>cs.length+1
 | none=>0
def outO (a H:List (Nat×Blk))(b m:Nat)(e:List OC)(ks:List Bool)(x:AV):Option (AV×List OC):=match x.argO H (some b),look H b with
 | some (r,c),some (.box y)=>match y.cells,Gi y with
  | some cells,true=>match YT H m cells e with
   | some (cs,ns,d)=>match E3 b (c++d) ns&&G9 a 1 ks ns with
    | true=>some (r,cs)
    | false=>none
   | none=>none
  | _,_=>none
 | _,_=>none
def Qb2 (sym:Bool)(n:Nat)(cx:Cx)(f:FuncId)(a:List AV)(i:Option (List OC))(b:Nat)(c:List OC)(ks:List Bool)(orc:List Orc):Option (AV×List OC×List Prop) :=
 match KM (We n cx) cx f a { nt:=0,sym,tm:=[],hp:=Yo i,nx:=QfE i,orc,ob:=[],vis:=QfE i,sfx:=true } with
 | some (x,s)=>match outO (Yo i) s.hp (objB b i) s.nx c ks x with
  | some (r,cs)=>some (r,cs,s.ob)
  | none=>none
 | none=>none
abbrev Qhw (n:Nat)(cx:Cx)(f:FuncId)(a:List AV)(i:Option (List OC))(b:Nat)(c:List OC)(ks:List Bool)(orc:List Orc):Option (AV×List OC×List Prop):=Qb2 true n cx f a i b c ks orc
theorem HSim.subF {F e : Nat->Prop}{hp:List (Nat×Blk)}{ρ:Nat->Value}{w:World}(h:HSim cx e hp ρ w)(a:∀r,F r->e r):HSim cx F hp ρ w :=
 ⟨fun b k f=>(h.blk b k f).ext (jLj _) (fun _ _ _=>rfl) (fun r _ c=>c.imp (a r) id) (Grows.refl _ _) rfl (fun _ _ _=>rfl),h.inj,fun r d i=>h.forb r d (a r i),fun r d=>h.bnd r (a r d),
  fun g x j=>(h.glob g x j).ext (jLj _) (fun _ _ _=>rfl) fun r _ c=>c.imp (a r) id⟩
theorem QaM (hN:NoAsk cx)(O:cx.P.follows .mixedOrders=true){U:Bool}{n:Nat}{f:FuncId}{g:List AV}{i:Option (List OC)}{b:Nat}{X:List OC}{ks:List Bool}{orc:List Orc}{r:AV}{cs:List OC}{ob:List Prop}
  (h:Qb2 U n cx f g i b X ks orc=some (r,cs,ob)) (ho:All ob):ComputesO cx f g i r cs ks:=by
 unfold Qb2 at h;split at h;case h_2=>cases h
 rename_i x s hx;split at h;case h_2=>cases h
 rename_i r1 Z a;simp only[jIj,jPj] at h;obtain⟨rfl,rfl,rfl⟩:=h;unfold outO at a;split at a;case h_2=>cases a
 rename_i T o y A H;split at a;case h_2=>cases a
 rename_i cells hc M;split at a;case h_2=>cases a
 rename_i c ns p C;split at a;case h_2=>cases a
 rename_i d;simp only[jAj] at d;obtain⟨d,N⟩:=d;simp only[jIj,jPj] at a;obtain⟨rfl,rfl⟩:=a;obtain⟨_,L⟩:=U9 (jk hN O n) (XG cx n) hx ho.mem;intro w F ρ vs hs hl hv;refine(L F ρ w vs hs hl hv).mono ?_;rintro e w' ⟨v,rfl,ρ',S,E,q3⟩;obtain⟨g1,g2⟩:=S.freeze (o++p);obtain⟨ρc,V,W,o3,_,o5⟩:=QeC S (fz:=o++p) H hc M C (fun q k=>List.mem_append.2 (.inr k)) d;have hM:∀r,MM F (Zx c) ρc r->MM F (Qd s.hp (o++p)++s.hp) ρ' r:=fun r A=>A.imp id (W r);refine⟨v,ρc,rfl,o3.subF fun r A=>.inl A,?_,E.ext,fun q k O=>?_,fun hi=>?_⟩
 ·exact Qar S (fz:=o++p) (bo:=some (objB b i)) hM (fun b0 h=>by cases h;exact⟨⟨y,H⟩,⟨_,ZX c⟩,V⟩) x v T o A (fun q k=>List.mem_append.2 (.inl k)) q3
 ·exact E.mt q k (g2.mt q (Nat.lt_of_lt_of_le k E.ext.size) (W q O))
 ·cases i with
  | none=>cases hi
  | some cs0 =>
   refine⟨?_,fun j szj esj hj Q=>?_⟩
   ·rw[V];obtain⟨k',m,_,J⟩:=E.grow 0 _ (by simp[QfE]) (ZX cs0);simp only[objB] at H;rw[H] at m;cases m;exact J rfl
   ·have sp:=Y0 cells X s.nx c ns p C;obtain⟨G,k0,K⟩:=(Ec 1 ks ns N j hj).resolve_left (fun e=>by obtain⟨n',v',l,_⟩:=sp.row j szj esj Q;rw[e] at l;cases l)
    rw[o5 j (1+j) 0 G];have t:j<c.length:=by have:=(jGj G).1;rw[sp.nm.len,sp.lenS,<-sp.len] at this;exact this
    cases hc2:c[j] with
    | dat z =>
     have:=(sp.dat j z (by rw[jej t,hc2])).1;rw[G] at this;cases this
    | row sz es =>
     obtain⟨n',v',l,Y⟩:=sp.row j sz es (by rw[jej t,hc2]);rw[G] at l;cases l;obtain⟨u,r1,T,r3⟩|⟨z,_,_,_,_,r⟩:=Y
     ·obtain rfl:u=0:=by omega
      simp only[Yo] at K;obtain⟨h0,_⟩|⟨i',a0,es',h0,h1,L⟩:=GR K
      ·omega
      ·subst L;obtain⟨k',m,_,J⟩:=E.grow (1+j) _ (by have:=(jGj h1).1;simp only[QfE];omega) K
       rw[T] at m;cases m;rw[Nat.add_comm j 1];exact J rfl
     ·cases r
inductive OLEs:List OC->List OC->Prop
 | nil:OLEs [] []
 | same (c:OC) {l m:List OC} (t:OLEs l m):OLEs (c::l) (c::m)
 | dat {x y:D} (h:LE x y) {l m:List OC} (t:OLEs l m):OLEs (.dat x::l) (.dat y::m)
theorem OLEs.refl:∀l:List OC,OLEs l l
 | []=>.nil
 | c::l=>.same c (OLEs.refl l)
theorem OLEs.len {l m:List OC}(h:OLEs l m):l.length=m.length:=by
 induction h with
 | nil=>rfl
 | same _ _ ih=>simp[ih]
 | dat _ _ ih=>simp[ih]
theorem OLEs.get {l m:List OC}(h:OLEs l m):∀(i:Nat) (c:OC),m[i]?=some c->l[i]?=some c\/∃x y,l[i]?=some (.dat x)/\c=.dat y/\LE x y:=by
 induction h with
 | nil=>intro i c h;simp at h
 | same c0 _ ih =>
  intro i c h;cases i with
  | zero=>exact .inl (by simpa using h)
  | succ i=>simpa using ih i c (by simpa using h)
 | dat hxy _ ih =>
  intro i c h;cases i with
  | zero =>
   simp only[jzj,jIj] at h;subst h;exact .inr ⟨_,_,rfl,rfl,hxy⟩
  | succ i=>simpa using ih i c (by simpa using h)
theorem OLEs.rows {l m:List OC}(h:OLEs l m):∀i:Nat,J9 i l=J9 i m:=by
 induction h with
 | nil=>intro i;rfl
 | same c _ ih=>intro i;cases c<;>simp[J9,ih]
 | dat _ _ ih=>intro i;simp[J9,ih]
theorem OLEs.look {l m:List OC}(h:OLEs l m){n:Nat}(a:n≠0):look (Zx l) n=look (Zx m) n:=by rw[Zx,Zx,Qc _ _ (Ne.symm a),Qc _ _ (Ne.symm a),h.rows 1]
theorem LE.one {x y:D}(h:LE x y)(a:(AV.d x).isOne=true):(AV.d y).isOne=true:=by
 cases h with
 | refl=>exact a
 | lst=>rfl
 | tup=>simp[AV.isOne] at a
 | agg=>simp[AV.isOne] at a
theorem OLEs.mut {l m:List OC}(h:OLEs l m){ρ:Nat->Value}{r:Nat}:Mut (Zx m) ρ r↔Mut (Zx l) ρ r:=by
 constructor
 ·rintro⟨b,k,d,e,a⟩;by_cases c:b=0
  ·subst c;exact⟨0,_,ZX l,rfl,a⟩
  ·exact⟨b,k,by rw[h.look c];exact d,e,a⟩
 ·rintro⟨b,k,d,e,a⟩;by_cases c:b=0
  ·subst c;exact⟨0,_,ZX m,rfl,a⟩
  ·exact⟨b,k,by rw[<-h.look c];exact d,e,a⟩
theorem Qgy {F:Nat->Prop}{cs:List OC}{ρ:Nat->Value}{w:World}(h:HSim cx F (Zx cs) ρ w) :
  ∃r e,∃ys:List Value,ρ 0=.pointer (some ⟨r,0,none⟩)/\w.heap[r]?=some (.cells ys.toArray e (0,0))/\ys.length=cs.length /\
   (∀(i:Nat) (c:AV),(G8 1 cs)[i]?=some c->c.isOne=true) /\
   ∀(i:Nat) (c:AV) (y:Value),(G8 1 cs)[i]?=some c->ys[i]?=some y->VR w (MM F (Zx cs) ρ) (Zx cs) ρ c y:=by
 obtain⟨r,e,v,J,E,G,g,k⟩:=h.blk 0 _ (ZX cs);obtain⟨K,H,L⟩:=Yp g k;unfold AV.norm at g k;cases a:(AV.agg (G8 1 cs)).toD with
 | some y =>
  simp only[a] at g k;simp only[AV.toD] at a;split at a;case h_2=>cases a
  rename_i ds p;simp only[jIj] at a;subst a;have A:∀(l:List AV) (ds:jVj),Ju l=some ds->(∀(i:Nat) (c:AV),l[i]?=some c->(∃x,c=.d x)\/∃b u,c=.own b u)->l=ds.map .d:=by
   intro l;induction l with
   | nil=>intro ds h _;simp only[Ju,jIj] at h;subst h;rfl
   | cons x l ih =>
    intro ds h C;simp only[Ju] at h;split at h;case h_2=>cases h
    rename_i y ys a t;simp only[jIj] at h;subst h;obtain⟨z,rfl⟩|⟨b,u,rfl⟩:=C 0 x rfl
    ·simp only[AV.toD,jIj] at a;subst a;rw[jCj,<-ih ys t fun i c hc=>C (i+1) c (by simpa using hc)]
    ·simp[AV.toD] at a
  have f:=A _ _ p fun i c hc=>by
   rw[VK] at hc;split at hc
   ·cases hc
   ·cases hc;exact .inl ⟨_,rfl⟩
   ·cases hc;exact .inr ⟨_,_,rfl⟩
  have n:=KX g;cases k with
  | d _ _ o =>
   cases o with
   | agg _ ys s q =>
    refine⟨r,e,ys,E,G,by rw[<-s,<-K8 cs 1,f,jlj],fun i c hc=>?_,fun i c y hc a=>?_⟩
    ·refine Yi H (j:=i) ?_;rw[n];show(ds.map AV.d)[i]?=some c;rw[<-f];exact hc
    ·rw[f,List.getElem?_map,Option.map_eq_some_iff] at hc;obtain⟨d,o,rfl⟩:=hc;exact .d _ _ (q i d y o a)
 | none =>
  simp only[a] at g k;simp only[AV.cells] at g;split at g;case h_2=>cases g
  rename_i m;simp only[jIj] at g;subst g;cases k with
  | agg _ ys s q=>exact⟨r,e,ys,E,G,by rw[<-s,K8],fun i c hc=>Yi m hc,q⟩
theorem HSim.objLE {F:Nat->Prop}{l m:List OC}{ρ:Nat->Value}{w:World}(h:HSim cx F (Zx l) ρ w)(n:OLEs l m):HSim cx F (Zx m) ρ w:=by
 have j:∀r,MM F (Zx m) ρ r->MM F (Zx l) ρ r:=fun r K=>K.imp id n.mut.1;refine⟨fun b k C=>?_,fun b T k L r p s Y Z r1 r2=>?_,fun r K=>h.forb r (n.mut.1 K),h.bnd,fun g x W=>(h.glob g x W).ext (jLj _) (fun _ _ _=>rfl) fun r _ q=>j r q⟩
 ·obtain⟨rfl,rfl⟩|⟨i,sz,es,rfl,hc,rfl⟩:=GR C
  ·obtain⟨r,e,ys,p1,p2,p3,N,M⟩:=Qgy h;have u:Vw (G8 1 m)=true:=by
    have:∀(l:List AV),(∀(i:Nat) (c:AV),l[i]?=some c->c.isOne=true)->Vw l=true:=by
     intro l;induction l with
     | nil=>intro _;rfl
     | cons x l ih=>intro h;simp only[Vw,jAj];exact⟨h 0 x rfl,ih fun i c hc=>h (i+1) c (by simpa using hc)⟩
    refine this _ fun i c hc=>?_;rw[VK] at hc;split at hc
    ·cases hc
    ·rename_i y v;cases hc;obtain a|⟨x,O,a,p,s⟩:=n.get i _ v
     ·exact N i _ (by rw[VK,a])
     ·cases p;exact s.one (N i (.d x) (by rw[VK,a]))
    ·cases hc;rfl
   obtain⟨G,t⟩:=Option.isSome_iff_exists.1 (zW u);refine⟨r,e,.agg ys.toArray,G,p1,p2,t,Ug (.agg _ ys (by rw[K8,p3,n.len]) fun i c y hc v=>?_)⟩;rw[VK] at hc;split at hc
   ·cases hc
   ·rename_i z E;cases hc;obtain a|⟨x,O,a,p,s⟩:=n.get i _ E
    ·have:=M i (.d z) y (by rw[VK,a]) v;cases this with
     | d _ _ H=>exact .d _ _ (H.ext (jLj _) (fun _ _ _=>rfl) fun r _ q=>j r q)
    ·cases p;have:=M i (.d x) y (by rw[VK,a]) v;cases this with
     | d _ _ H=>exact .d _ _ (DR.le s (H.ext (jLj _) (fun _ _ _=>rfl) fun r _ q=>j r q))
   ·rename_i sz es E;cases hc;obtain a|⟨x,O,a,p,s⟩:=n.get i _ E
    ·have:=M i (.own (1+i) 0) y (by rw[VK,a]) v;cases this with
     | own _ _ k _ o hv J X =>
      rw[Nat.add_comm,Kz a] at o;cases o;exact .own _ 0 _ _ (by rw[Nat.add_comm];exact Kz E) (jLj _) J fun _=>X rfl
    ·cases p
  ·have a:=C;rw[<-n.look (by omega)] at a;have:=h.blk (i+1) _ a;exact this.ext (jLj _) (fun _ _ _=>rfl) (fun r _ q=>j r q) (hp:=Zx l) ⟨fun b k o=>by
    by_cases f:b=0
    ·subst f;rw[ZX] at o;cases o;exact⟨_,ZX m,jLj _,fun _=>rfl⟩
    ·exact⟨k,by rw[<-n.look f];exact o,jLj _,fun _=>rfl⟩⟩ rfl (fun _ _ _=>rfl)
 ·have A:∀{b:Nat} {k:Blk},look (Zx m) b=some k->k.live=true->∃L,look (Zx l) b=some L/\L.live=true:=by
   intro b k C o;by_cases f:b=0
   ·subst f;exact⟨_,ZX l,rfl⟩
   ·exact⟨k,by rw[n.look f];exact C,o⟩
  obtain⟨P,Q,S⟩:=A p Y;obtain⟨b1,U,V⟩:=A s Z;exact h.inj b T P b1 r Q U S V r1 r2
inductive ALE:AV->AV->Prop
 | refl (x:AV):ALE x x
 | d {x y:D} (h:LE x y):ALE (.d x) (.d y)
inductive ALEs:List AV->List AV->Prop
 | nil:ALEs [] []
 | cons {x y:AV} {xs ys:List AV} (h:ALE x y) (t:ALEs xs ys):ALEs (x::xs) (y::ys)
theorem ALEs.refl:∀xs:List AV,ALEs xs xs
 | []=>.nil
 | _::xs=>.cons (.refl _) (ALEs.refl xs)
theorem ALEs.length {xs ys:List AV}(h:ALEs xs ys):xs.length=ys.length:=by induction h with
 | nil=>rfl
 | cons _ _ ih=>simp[ih]
theorem ALEs.get {xs ys:List AV}(h:ALEs xs ys):∀(i:Nat) (x y:AV),xs[i]?=some x->ys[i]?=some y->ALE x y:=by
 induction h with
 | nil=>intro i x y a;simp at a
 | cons h _ ih =>
  intro i x y a b;cases i with
  | zero=>simp at a b;subst a;subst b;exact h
  | succ i=>exact ih i x y (by simpa using a) (by simpa using b)
inductive OOLE:Option (List OC)->Option (List OC)->Prop
 | none:OOLE none none
 | some {l m:List OC} (h:OLEs l m):OOLE (some l) (some m)
theorem OOLE.refl:∀i:Option (List OC),OOLE i i
 | .none=>.none
 | .some l=>.some (OLEs.refl l)
theorem QcS {w:World}{M M' : Nat->Prop}{l m:List OC}{ρ:Nat->Value}(f:OLEs l m)(d:∀r,M' r->M r){x:AV}{v:Value}(h:VR w M (Zx l) ρ x v):VR w M' (Zx m) ρ x v :=
 h.ext (jLj _) (fun _ _ _=>rfl) (fun r _ e=>d r e) ⟨fun b k c=>by
  by_cases a:b=0
  ·subst a;rw[ZX] at c;cases c;exact⟨_,ZX m,jLj _,fun _=>rfl⟩
  ·exact⟨k,by rw[<-f.look a];exact c,jLj _,fun _=>rfl⟩⟩
theorem ALE.vr {w:World}{M:Nat->Prop}{hp:List (Nat×Blk)}{ρ:Nat->Value}{x y:AV}(h:ALE x y){v:Value}(a:VR w M hp ρ x v):VR w M hp ρ y v:=by
 cases h with
 | refl=>exact a
 | d h=>cases a with
  | d _ _ b=>exact .d _ _ (DR.le h b)
theorem ComputesO.le {f:FuncId}{b a : List AV}{i g : Option (List OC)}{r E : AV}{cs l : List OC}{ks:List Bool}(h:ComputesO cx f b i r cs ks)(o:ALEs a b)(G:OOLE g i)(p:ALE r E)(hc:OLEs cs l):ComputesO cx f a g E l ks:=by
 intro w F ρ vs u J L;have s:HSim cx F (Yo i) ρ w/\(∀r,Mut (Yo i) ρ r↔Mut (Yo g) ρ r)/\(∀(x:AV) (v:Value),VR w (MM F (Yo g) ρ) (Yo g) ρ x v->VR w (MM F (Yo i) ρ) (Yo i) ρ x v)/\(g.isSome=true->i.isSome=true):=by
  cases G with
  | none=>exact⟨u,fun _=>Iff.rfl,fun _ _ h=>h,fun h=>h⟩
  | some ho=>exact⟨u.objLE ho,fun r=>ho.mut,fun x v M=>QcS ho (fun r d=>d.imp id ho.mut.1) M,fun _=>rfl⟩
 obtain⟨k1,z,O,A⟩:=s;refine(h w F ρ vs k1 (by rw[<-o.length];exact J) fun k c y t N=>?_).mono ?_
 ·have n:k<a.length:=by rw[o.length];exact(jGj t).1
  exact(o.get k a[k] c (by simp[n]) t).vr (O _ _ (L k a[k] y (by simp[n]) N))
 ·rintro e w' ⟨y,ρ',rfl,P,Q,S,T,C⟩;exact⟨y,ρ',rfl,P.objLE hc,p.vr (QcS hc (fun r d=>d.imp id hc.mut.1) Q),S.mono fun r d=>(z r).1 d,fun q K d=>(z q).1 (T q K (hc.mut.1 d)),fun m=>⟨(C (A m)).1,fun j sz es H p=>by
   obtain h|⟨x,y,_,h,_⟩:=hc.get j _ p
   ·exact(C (A m)).2 j sz es H h
   ·cases h⟩⟩
end Go.SX
