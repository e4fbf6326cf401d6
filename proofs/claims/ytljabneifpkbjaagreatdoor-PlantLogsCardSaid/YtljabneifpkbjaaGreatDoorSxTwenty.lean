/- The evaluator's answers hold. -/
import Derived.Test.YtljabneifpkbjaaGreatDoorSxObjects
namespace Go.SX
section
variable {cx:Cx}
theorem uq {H:List (Nat×Blk)} {x y:AV} {s:St} (h:yj H x s=some y) (hsfx:s.sfx=true→∃ new,s.hp=new++H) :
  ∃ z fs,x.toDH s.hp=some (z,fs)∧y=.d z∧(∀ b,look H b≠none→¬ b∈fs)∧∀ b k,look H b=some k→look s.hp b=some k:=by
 unfold yj at h
 split at h
 case h_2=>cases h
 rename_i z fs hc hd
 split at h
 case h_2=>cases h
 rename_i hall
 simp only [jIj] at h;subst h
 simp only [jAj] at hc
 obtain ⟨new,hnew⟩:=hsfx hc.1
 refine ⟨z,fs,hd,rfl,fun b hb hm=>?_,fun b k hb=>?_⟩
 ·simp only [List.all_eq_true] at hall
  have:=hall b hm
  rw [VA.2 hb] at this
  cases this
 ·have hf:=hc.2
  rw [hnew] at hf ⊢
  have hl:(new++H).length - H.length=new.length:=by simp
  rw [hl] at hf
  rw [Wl,K5 new H hf b (by rw [hb];simp)]
  exact hb
theorem QcU (hN:NoAsk cx) {ex:Code→St→Option (Ex×St)} (hE:ExOK cx ex) (hS:zQ ex):jv cx (kX ex cx):=by
 intro keepable H nx sym orc f args rc h hob F ρ w vs hs hl hv
 obtain ⟨fn,hfn,hc⟩:=zP h
 rcases hc with ⟨hb,us,v,h1,h2,h3,h4,h5,_⟩ | ⟨hb,r,ds,fs,h1,h2,h3,h4,h5⟩ | ⟨hb,hbn,o',x,s',h1,h2,h3⟩ | ⟨hb,bo,r0,cs',ks,o',h4⟩
 case inr.inr.inr=>exact .inr ⟨GS hN hfn hb _ _,Qb4 h4 hob hs hl hv⟩
 ·left
  have:=GW _ _ us h1 hl hv
  subst this
  exact ⟨v,Vd h2 w,h5,h4,by rw [h3];exact JW _ _ _ _ v⟩
 ·right
  refine ⟨GS hN hfn hb _ _,?_⟩
  have hcomp:Computes cx f ds r:=by
   rcases h5 with hq | ⟨g,hg,hq⟩
   ·exact hob _ (by rw [hq];exact jMj)
   ·exact hN.known f g ds r hg hq
  obtain ⟨g1,g2⟩:=hs.freeze fs
  obtain ⟨d1,d2⟩:=YV hs fs args vs ds fs h1 (fun _ h=>h) hl hv
  rcases h3 with h3 | ⟨h3,v0,rfl⟩
  case inr =>
   have hheap:rc.heap H=H:=by rw [RC.heap,h4,h3];rfl
   refine (hcomp w (MM F (Qe H fs++H) ρ) vs (fun r hr=>?_) g1.glob d1 d2).mono ?_
   ·rcases hr with hr | hr
    ·exact g1.bnd r hr
    ·exact g1.mut_lt hr
   ·rintro e w' ⟨y,rfl,q1,q2⟩
    have hst:Steps1 H ρ w H ρ w':=⟨q2.mono fun _ h=>h.elim,fun _ _ h=>h,Grows.refl _ _⟩
    have hs':=hs.step hst (fun b k hb=>.inl ⟨hb,rfl,fun hm r hr=>q2.same r ((hs.blk b k hb).root_lt hm hr) (fun h=>h)⟩) hs.inj hs.forb
    refine ⟨y,rfl,ρ,by rw [hheap];exact hs',by rw [hheap];exact hst,?_⟩
    rw [hheap,h2]
    cases q1
    exact .d _ _ (.v _)
  have hheap:rc.heap H=Qe H fs++H:=by rw [RC.heap,h4,h3]
  refine (hcomp w (MM F (Qe H fs++H) ρ) vs (fun r hr=>?_) g1.glob d1 d2).mono ?_
  ·rcases hr with hr | hr
   ·exact g1.bnd r hr
   ·exact g1.mut_lt hr
  ·rintro e w' ⟨y,rfl,q1,q2⟩
   have hst:Steps1 (Qe H fs++H) ρ w (Qe H fs++H) ρ w':=⟨q2.mono fun _ h=>h.elim,fun _ _ h=>h,Grows.refl _ _⟩
   have hs':=g1.step hst (fun b k hb=>.inl ⟨hb,rfl,fun hm r hr=>q2.same r ((g1.blk b k hb).root_lt hm hr) (fun h=>h)⟩) g1.inj g1.forb
   refine ⟨y,rfl,ρ,by rw [hheap];exact hs',by rw [hheap];exact g2.trans hst,by rw [hheap,h2];exact .d _ _ q1⟩
 ·right
  refine ⟨GS hN hfn hb _ _,?_⟩
  obtain ⟨e1,e2⟩:=Kp hE hS h1 (by rw [← h2];exact hob)
  refine (e2 F ρ w vs hs hl hv).mono ?_
  rintro e w' ⟨v,rfl,ρ',q1,q2,q3⟩
  refine ⟨v,rfl,?_⟩
  have hgrow:Grows H s'.hp ρ ρ':=⟨fun b k hb=>q2.grow b k (VD hbn hb) hb⟩
  have hst:Steps1 H ρ w s'.hp ρ' w':=⟨q2.ext,q2.mt,hgrow⟩
  rcases h3 with ⟨a1,a2,a3,_⟩ | ⟨y,a1,a2,a3,a4⟩ | a1
  ·have hheap:rc.heap H=s'.hp:=by rw [RC.heap,a3]
   exact ⟨ρ',by rw [hheap];exact q1,by rw [hheap];exact hst,by rw [hheap,a1];exact q3⟩
  ·have hheap:rc.heap H=H:=by rw [RC.heap,a4,a3];rfl
   obtain ⟨z,fs,b1,b2,b3,b4⟩:=uq a1 (GO hS h1)
   have hag:∀ b k,look H b=some k→look s'.hp b=some k∧ρ' b=ρ b:=by
    intro b k hb
    obtain ⟨k',c1,_,c3⟩:=hgrow.dom b k hb
    have:=b4 b k hb
    rw [c1] at this;cases this
    exact ⟨c1,c3 rfl⟩
   obtain ⟨r1,r2⟩:=hs.restrict q1 hag q2.ext
   refine ⟨ρ,by rw [hheap];exact r1,by rw [hheap];exact r2,?_⟩
   rw [hheap,a2,b2]
   have hdr:=Wu q1 fs x v z fs b1 (fun _ h=>h) q3
   refine .d _ _ (hdr.ext (jLj _) (fun _ _ _=>rfl) fun r _ hm=>hm.imp id ?_)
   rintro ⟨b,k,hb,hm,hr⟩
   obtain ⟨c1,c2⟩:=hag b k hb
   exact ⟨b,k,by rw [Zp _ _ _ (b3 b (by rw [hb];simp))];exact c1,hm,by rw [c2];exact hr⟩
  ·obtain ⟨b,k0,rfl,c1,c2,c3,c4,c5,hfk,rfl⟩:=EH a1
   obtain ⟨new,hnew⟩:=GO hS h1 c1
   have hag:∀ b k,look H b=some k→look s'.hp b=some k∧ρ' b=ρ b:=by
    intro b' k hb
    have h4:look s'.hp b'=some k:=by
     rw [hnew] at c2 ⊢
     have hl:(new++H).length - H.length=new.length:=by simp
     rw [hl] at c2
     rw [Wl,K5 new H c2 b' (by rw [hb];simp)]
     exact hb
    obtain ⟨k',d1,_,d3⟩:=hgrow.dom b' k hb
    rw [d1] at h4;cases h4
    exact ⟨d1,d3 rfl⟩
   have hE:∀ r,Q9 (ρ' b)=some r→Mut s'.hp ρ' r∧w.heap.size≤r:=by
    intro r hr
    have hm:Mut s'.hp ρ' r:=⟨b,_,c4,JE hfk,hr⟩
    refine ⟨hm,?_⟩
    rcases Nat.lt_or_ge r w.heap.size with hlt | hge
    ·exfalso
     obtain ⟨b',k',hb',hm',hr'⟩:=q2.mt r hlt hm
     obtain ⟨d1,d2⟩:=hag b' k' hb'
     have:=q1.inj b' b k' _ r d1 c4 hm' (JE hfk) (by rw [d2];exact hr') hr
     rw [this,c5] at hb';cases hb'
    ·exact hge
   have r1:=hs.restrictE q1 hag q2.ext hE
   have hrow:FreshV w' (MM (fun r=>F r ∨ Q9 (ρ' b)=some r) H ρ) (ρ' b) k0:=by
    have h0:FreshV w' (MM F s'.hp ρ') (ρ' b) k0:=kF hfk (q1.blk b _ c4)
    refine h0.sub ?_
    rintro r _ ((h | h) | ⟨b',k',hb',hm',hr'⟩)
    ·exact .inl h
    ·exact .inr (hE r h).1
    ·obtain ⟨d1,d2⟩:=hag b' k' hb'
     exact .inr ⟨b',k',d1,hm',by rw [d2];exact hr'⟩
   have r3:=r1.name (nm:=b) c5 (fun r h=>h) (fun r hr hf=>by
    have d1:=hs.bnd r hf
    have d2:=(hE r hr).2
    omega) hrow
   have hheap:RC.heap { val:=.own b k0.ver,up:=[(b,k0)],full:=none,nx,ob:=s'.ob,orc:=s'.orc,sfx:=true } H=(b,k0)::H:=rfl
   rw [hheap]
   refine ⟨_,r3,⟨q2.ext,fun r hr hm=>?_,⟨fun n k hn=>?_⟩⟩,?_⟩
   ·obtain ⟨n,k',hn,hm',hr'⟩:=hm
    by_cases hnb:n=b
    ·subst hnb
     rw [QG] at hr'
     have:=(hE r hr').2
     omega
    ·rw [Qc _ _ (Ne.symm hnb)] at hn;rw [QU _ _ hnb] at hr';exact ⟨n,k',hn,hm',hr'⟩
   ·have hnb:n≠b:=fun e=>by rw [e,c5] at hn;cases hn
    exact ⟨k,by rw [Qc _ _ (Ne.symm hnb)];exact hn,jLj _,fun _=>QU _ _ hnb⟩
   ·cases q3 with
    | own _ _ kk _ hb' hv' ho' hh' =>
     rw [c4] at hb';cases hb'
     exact .own _ k0.ver _ _ (Qd _ _ _) (jLj _) ho' fun _=>by rw [QG];exact hh' rfl
theorem uB {z sz:Nat} {es:jVj} {w:World} {M:Nat→Prop} {v:Value} (h:DR w M (.lst true sz es) v) :
  (Gb z sz es).ver=0∧(∀ (M' : Nat→Prop) (hp:List (Nat×Blk)) (ρ:Nat→Value) (b:Nat),ρ b=v→DR w M' (.lst true sz es) v→BlkR w M' hp ρ b (Gb z sz es))∧((Gb z sz es).live=true→Q9 v=none):=by
 unfold Gb
 split
 ·exact ⟨rfl,fun M' hp ρ b hb hd=>by show DR w M' _ (ρ b);rw [hb];exact hd,fun h=>by cases h⟩
 ·split
  ·cases h with
   | lst _ _ _ a cap _ _ _ hf =>
    have hc:=hf rfl
    simp only [List.length_nil] at hc
    subst hc
    exact ⟨rfl,fun M' hp ρ b hb _=>.inl ⟨rfl,a,hb⟩,fun _=>Wk _ _⟩
  ·exact ⟨rfl,fun M' hp ρ b hb hd=>by show DR w M' _ (ρ b);rw [hb];exact hd,fun h=>by cases h⟩
theorem JT {F:Nat→Prop} {a:Act} {w:World}:∀ (pr:List Nat) (tm:List (Nat×AV)) (hp:List (Nat×Blk)) (nx:Nat) (ρ:Nat→Value) (tm' : List (Nat×AV)) (hp' : List (Nat×Blk)) (nx' : Nat),GB tm hp nx pr=(tm',hp',nx') →
  HSim cx F hp ρ w→TSim F tm hp ρ a w→∃ ρ',HSim cx F hp' ρ' w∧TSim F tm' hp' ρ' a w∧Steps1 hp ρ w hp' ρ' w
 | [],tm,hp,nx,ρ,tm',hp',nx',h,hs,ht=>by
  simp only [GB,jPj] at h
  obtain ⟨rfl,rfl,rfl⟩:=h
  exact ⟨ρ,hs,ht,Steps1.refl _ _ _⟩
 | [_],tm,hp,nx,ρ,tm',hp',nx',h,hs,ht=>by
  simp only [GB,jPj] at h
  obtain ⟨rfl,rfl,rfl⟩:=h
  exact ⟨ρ,hs,ht,Steps1.refl _ _ _⟩
 | t::z::l,tm,hp,nx,ρ,tm',hp',nx',h,hs,ht=>by
  simp only [GB] at h
  split at h
  ·rename_i sz es hl hn
   have hx:=ht t _ hl
   have hslice:∃ p n c,a.tmps.getD t undef=.slice p n c:=by
    generalize a.tmps.getD t undef=v at hx
    cases hx with
    | d _ _ hx=>cases hx;exact ⟨_,_,_,rfl⟩
   obtain ⟨p,n,c,hv⟩:=hslice
   have hxd:DR w (MM F hp ρ) (.lst true sz es) (a.tmps.getD t undef):=by
    cases hx;assumption
   obtain ⟨K1,K2,K3⟩:=uB (z:=z) hxd
   generalize Gb z sz es=K at K1 K2 K3 h
   have hmut:∀ r,Mut ((nx,K)::hp) (Vl ρ nx (a.tmps.getD t undef)) r→Mut hp ρ r:=by
    rintro r ⟨b,k,hb,hm,hr⟩
    by_cases hbn:b=nx
    ·subst hbn;rw [Qd] at hb;cases hb;rw [QG,K3 hm] at hr;cases hr
    ·rw [Qc _ _ (Ne.symm hbn)] at hb;rw [QU _ _ hbn] at hr;exact ⟨b,k,hb,hm,hr⟩
   have hst:Steps1 hp ρ w ((nx,K)::hp) (Vl ρ nx (a.tmps.getD t undef)) w:=by
    refine ⟨Ext.refl _ _,fun r _ hm=>hmut r hm,⟨fun b k hb=>?_⟩⟩
    have hbn:b≠nx:=by intro e;subst e;rw [hn] at hb;cases hb
    exact ⟨k,by rw [Qc _ _ (Ne.symm hbn)];exact hb,jLj _,fun _=>QU _ _ hbn⟩
   have hs2:=hs.step hst (fun b k hb=>by
    by_cases hbn:b=nx
    ·subst hbn;rw [Qd] at hb;cases hb
     right
     exact K2 _ _ _ _ (QG _ _ _) (hst.dr hxd)
    ·rw [Qc _ _ (Ne.symm hbn)] at hb
     exact .inl ⟨hb,QU _ _ hbn,fun _ _ _=>rfl⟩)
    (fun b b' k k' r h1 h2 m1 m2 r1 r2=>by
     have key:∀ b k,look ((nx,K)::hp) b=some k→k.live=true→Q9 (Vl ρ nx (a.tmps.getD t undef) b)=some r→look hp b=some k∧Q9 (ρ b)=some r:=by
      intro b k hb hm hr
      by_cases hbn:b=nx
      ·subst hbn;rw [Qd] at hb;cases hb;rw [QG,K3 hm] at hr;cases hr
      ·rw [Qc _ _ (Ne.symm hbn)] at hb;rw [QU _ _ hbn] at hr;exact ⟨hb,hr⟩
     obtain ⟨a1,a2⟩:=key b k h1 m1 r1
     obtain ⟨b1,b2⟩:=key b' k' h2 m2 r2
     exact hs.inj b b' k k' r a1 b1 m1 m2 a2 b2) (fun r hr=>hs.forb r (hmut r hr))
   have ht2:TSim F ((t,.own nx 0)::tm) ((nx,K)::hp) (Vl ρ nx (a.tmps.getD t undef)) a w:=by
    intro u y hy
    by_cases hu:t=u
    ·subst hu
     rw [Qd] at hy;cases hy
     exact .own nx 0 _ _ (Qd _ _ _) (Nat.zero_le _) (by rw [hv];rfl) fun _=>(QG _ _ _).symm
    ·rw [Qc _ _ hu] at hy
     exact hst.vr (ht u y hy)
   obtain ⟨ρ',g1,g2,g3⟩:=JT l _ _ _ _ tm' hp' nx' h hs2 ht2
   exact ⟨ρ',g1,g2,hst.trans g3⟩
  ·exact JT l _ _ _ _ tm' hp' nx' h hs ht
theorem KX {hp:List (Nat×Blk)} {vis:Nat} {kb:List Nat}:∀ (l:List Nat) (hp0:List (Nat×Blk)),wQ hp vis kb l=some hp0 →
  (∀ b k',look hp0 b=some k'→b∈l∧∃ k,look hp b=some k∧k.clean hp vis kb b=some k')∧(∀ b,b∈l→∃ k k',look hp b=some k∧k.clean hp vis kb b=some k'∧look hp0 b=some k')
 | [],hp0,h=>by
  simp only [wQ,jIj] at h;subst h
  exact ⟨fun b k' hb=>by simp [look] at hb,fun b hb=>by simp at hb⟩
 | c::l,hp0,h=>by
  simp only [wQ] at h
  split at h
  case h_2=>cases h
  rename_i k r hk hr
  split at h
  case h_2=>cases h
  rename_i k' hk'
  simp only [jIj] at h;subst h
  obtain ⟨i1,i2⟩:=KX l r hr
  refine ⟨fun b q hb=>?_,fun b hb=>?_⟩
  ·by_cases hcb:c=b
   ·subst hcb
    rw [Qd] at hb;cases hb
    exact ⟨jMj,k,hk,hk'⟩
   ·rw [Qc _ _ hcb] at hb
    obtain ⟨h1,h2⟩:=i1 b q hb
    exact ⟨List.mem_cons_of_mem _ h1,h2⟩
  ·by_cases hcb:c=b
   ·subst hcb;exact ⟨k,k',hk,hk',Qd _ _ _⟩
   ·have hbl:b∈l:=by simpa [Ne.symm hcb] using hb
    obtain ⟨q,q',h1,h2,h3⟩:=i2 b hbl
    exact ⟨q,q',h1,h2,by rw [Qc _ _ hcb];exact h3⟩
theorem UG {hp:List (Nat×Blk)} {vis b:Nat} {kb:List Nat} {k k' : Blk} (h:k.clean hp vis kb b=some k'):k'.live=k.live∧(b < vis→k'.ver=k.ver)∧(¬ b < vis→k'.ver=0):=by
 have hb:∀ v:Nat,(b < vis→(match Nat.blt b vis with | true=>v | false=>0)=v)∧(¬ b < vis→(match Nat.blt b vis with | true=>v | false=>0)=0):=by
  intro v
  constructor
  ·intro hlt;have:Nat.blt b vis=true:=by simpa using hlt
   rw [this]
  ·intro hlt;have:Nat.blt b vis=false:=qX (by omega)
   rw [this]
 cases k with
 | box x =>
  simp only [Blk.clean] at h
  split at h <;> simp only [jIj,reduceCtorEq] at h
  subst h;exact ⟨rfl,fun _=>rfl,fun _=>rfl⟩
 | row v sz es=>simp only [Blk.clean,jIj] at h;subst h;exact ⟨rfl,(hb v).1,(hb v).2⟩
 | frozen v sz es=>simp only [Blk.clean,jIj] at h;subst h;exact ⟨rfl,(hb v).1,(hb v).2⟩
 | virt v sz es=>simp only [Blk.clean,jIj] at h;subst h;exact ⟨rfl,(hb v).1,(hb v).2⟩
 | loop _ _ _ _ _ _=>simp only [Blk.clean,jIj] at h;subst h;exact ⟨rfl,fun _=>rfl,fun _=>rfl⟩
 | mp _=>simp only [Blk.clean,jIj] at h;subst h;exact ⟨rfl,fun _=>rfl,fun _=>rfl⟩
 | it _ _=>simp only [Blk.clean,jIj] at h;subst h;exact ⟨rfl,fun _=>rfl,fun _=>rfl⟩
 | fbox _=>simp only [Blk.clean,jIj] at h;subst h;exact ⟨rfl,fun _=>rfl,fun _=>rfl⟩
 | left _=>simp only [Blk.clean,jIj] at h;subst h;exact ⟨rfl,fun _=>rfl,fun _=>rfl⟩
 | dead=>simp only [Blk.clean,jIj] at h;subst h;exact ⟨rfl,fun _=>rfl,fun _=>rfl⟩
mutual
theorem qi {w:World} {M M0:Nat→Prop} {hp hp0:List (Nat×Blk)} {ρ:Nat→Value} {vis:Nat} {kb:List Nat} (hk:wQ hp vis kb kb=some hp0) (hM:∀ r,r < w.heap.size→M0 r→M r) :
  ∀ (x:AV) (y:Value),VR w M hp ρ x y→VR w M0 hp0 ρ (x.clean hp vis kb) y
 | .d x,y,h=>by
  cases h with
  | d _ _ h=>exact .d _ _ (h.ext (jLj _) (fun _ _ _=>rfl) hM)
 | .agg cs,y,h=>by
  cases h with
  | agg _ ys hl hh =>
   obtain ⟨h1,h2⟩:=Gj hk hM cs ys hl hh
   simp only [AV.clean];exact .agg _ ys h1 h2
 | .tup cs,y,h=>by
  cases h with
  | tup _ ys hl hh =>
   obtain ⟨h1,h2⟩:=Gj hk hM cs ys hl hh
   simp only [AV.clean];exact .tup _ ys h1 h2
 | .dptr x o,y,h=>by
  cases h with
  | dptr _ _ blk o' hd=>simp only [AV.clean];exact .dptr _ _ _ _ (hd.ext (jLj _) (fun _ _ _=>rfl) hM)
 | .ptr b ver sz i off,y,h=>by
  cases h with
  | ptr _ _ _ _ _ k _ hb hv ho hh =>
   simp only [AV.clean]
   split
   ·rename_i hc
    simp only [jAj] at hc
    have hmem:b∈kb:=by simpa using hc.1
    have hver:=JG hc.2 hb
    obtain ⟨q,q',h1,h2,h3⟩:=(KX kb hp0 hk).2 b hmem
    rw [hb] at h1;cases h1
    obtain ⟨_,v1,v2⟩:=UG h2
    split
    ·rename_i hlt
     have hlt' : b < vis:=by simpa using hlt
     exact .ptr b ver sz i off q' y h3 (by rw [v1 hlt'];exact hv) ho fun _=>hh hver
    ·rename_i hlt
     have hlt' : ¬ b < vis:=by intro hh;rw [show Nat.blt b vis=true from by simpa using hh] at hlt;cases hlt
     exact .ptr b 0 sz i off q' y h3 (Nat.zero_le _) ho fun _=>hh hver
   ·exact .junk y
 | .own b ver,y,h=>by
  cases h with
  | own _ _ k _ hb hv ho hh =>
   simp only [AV.clean]
   split
   ·rename_i hc
    simp only [jAj] at hc
    have hmem:b∈kb:=by simpa using hc.1
    have hver:=JG hc.2 hb
    obtain ⟨q,q',h1,h2,h3⟩:=(KX kb hp0 hk).2 b hmem
    rw [hb] at h1;cases h1
    obtain ⟨_,v1,v2⟩:=UG h2
    split
    ·rename_i hlt
     have hlt' : b < vis:=by simpa using hlt
     exact .own b ver q' y h3 (by rw [v1 hlt'];exact hv) ho fun _=>hh hver
    ·rename_i hlt
     have hlt' : ¬ b < vis:=by intro hh;rw [show Nat.blt b vis=true from by simpa using hh] at hlt;cases hlt
     exact .own b 0 q' y h3 (Nat.zero_le _) ho fun _=>hh hver
   ·exact .junk y
 | .sub b ver sz lo n,y,h=>by
  cases h with
  | sub _ _ _ _ _ k _ hb hv ho hh =>
   simp only [AV.clean]
   split
   ·rename_i hc
    simp only [jAj] at hc
    have hmem:b∈kb:=by simpa using hc.1
    have hver:=JG hc.2 hb
    obtain ⟨q,q',h1,h2,h3⟩:=(KX kb hp0 hk).2 b hmem
    rw [hb] at h1;cases h1
    obtain ⟨_,v1,v2⟩:=UG h2
    split
    ·rename_i hlt
     have hlt' : b < vis:=by simpa using hlt
     exact .sub b ver sz lo n q' y h3 (by rw [v1 hlt'];exact hv) ho fun _=>hh hver
    ·rename_i hlt
     have hlt' : ¬ b < vis:=by intro hh;rw [show Nat.blt b vis=true from by simpa using hh] at hlt;cases hlt
     exact .sub b 0 sz lo n q' y h3 (Nat.zero_le _) ho fun _=>hh hver
   ·exact .junk y
 | .fn f p q,y,h=>by
  cases h with
  | fn _ _ _ xs ys hl hm hh hq =>
   obtain ⟨h1,h2⟩:=Gj hk hM p xs hl hh
   obtain ⟨h3,h4⟩:=Gj hk hM q ys hm hq
   simp only [AV.clean];exact .fn f _ _ xs ys h1 h3 h2 h4
 | .junk,y,_=>.junk y
theorem Gj {w:World} {M M0:Nat→Prop} {hp hp0:List (Nat×Blk)} {ρ:Nat→Value} {vis:Nat} {kb:List Nat} (hk:wQ hp vis kb kb=some hp0) (hM:∀ r,r < w.heap.size→M0 r→M r) :
  ∀ (cs:List AV) (ys:List Value),cs.length=ys.length→(∀ (i:Nat) (c:AV) (y:Value),cs[i]?=some c→ys[i]?=some y→VR w M hp ρ c y) →
   (K6 hp vis kb cs).length=ys.length∧∀ (i:Nat) (c:AV) (y:Value),(K6 hp vis kb cs)[i]?=some c→ys[i]?=some y→VR w M0 hp0 ρ c y
 | [],ys,hl,_=>⟨by simpa [K6] using hl,by simp [K6]⟩
 | x::cs,ys,hl,hh=>by
  cases ys with
  | nil=>simp at hl
  | cons y ys =>
   obtain ⟨h1,h2⟩:=Gj hk hM cs ys (by simpa using hl) (fun i c z hc hz=>hh (i+1) c z (by simpa using hc) (by simpa using hz))
   refine ⟨by simp [K6,h1],fun i c z hc hz=>?_⟩
   simp only [K6] at hc
   cases i with
   | zero =>
    simp only [List.getElem?_cons_zero,jIj] at hc hz;subst hc;subst hz
    exact qi hk hM x y (hh 0 x y rfl rfl)
   | succ i=>exact h2 i c z (by simpa using hc) (by simpa using hz)
end
theorem qj {hp:List (Nat×Blk)} {vis:Nat} {kb:List Nat}:∀ (l:List (Nat×AV)) (t:Nat) (x:AV),look (qk hp vis kb l) t=some x→∃ y,look l t=some y∧x=y.clean hp vis kb
 | [],t,x,h=>by simp [qk,look] at h
 | (c,y)::l,t,x,h=>by
  simp only [qk] at h
  by_cases hct:c=t
  ·subst hct
   rw [Qd] at h ⊢;cases h;exact ⟨y,rfl,rfl⟩
  ·rw [Qc _ _ hct] at h ⊢;exact qj l t x h
theorem EE {hp:List (Nat×Blk)} {vis:Nat} {kb:List Nat} {tm:List (Nat×AV)}:∀ (l:List Nat) (t:Nat) (x:AV),look (kD hp vis kb tm l) t=some x→∃ y,look tm t=some y∧x=y.clean hp vis kb
 | [],t,x,h=>by simp [kD,look] at h
 | c::l,t,x,h=>by
  simp only [kD] at h
  split at h
  ·rename_i y hy
   by_cases hct:c=t
   ·subst hct;rw [Qd] at h;cases h;exact ⟨y,hy,rfl⟩
   ·rw [Qc _ _ hct] at h;exact EE l t x h
  ·exact EE l t x h
theorem zC {F:Nat→Prop} {s s0:St} {pr kt kb:List Nat} {ρ:Nat→Value} {a:Act} {w:World} (h:kz s pr kt kb=some s0) (hs:Sim cx F s ρ a w) :
  ∃ ρ1,Sim cx F s0 ρ1 a w∧StepsV s.vis s.hp ρ w s0.hp ρ1 w∧s0.vis=s.vis∧s0.nt=s.nt:=by
 unfold kz at h
 split at h
 rename_i tm hp nx hpr
 split at h
 case h_2=>cases h
 rename_i hp0 hk hall
 simp only [jIj] at h;subst h
 obtain ⟨ρ1,g1,g2,g3⟩:=JT pr s.tm s.hp s.nx ρ tm hp nx hpr hs.hs hs.ts
 obtain ⟨k1,k2⟩:=KX kb hp0 hk
 have hmut:∀ r,Mut hp0 ρ1 r→Mut hp ρ1 r:=by
  rintro r ⟨b,k',hb,hm,hr⟩
  obtain ⟨_,k,h1,h2⟩:=k1 b k' hb
  exact ⟨b,k,h1,by rw [← (UG h2).1];exact hm,hr⟩
 have hM:∀ r,r < w.heap.size→MM F hp0 ρ1 r→MM F hp ρ1 r:=fun r _ hm=>hm.imp id (hmut r)
 have hs0:HSim cx F hp0 ρ1 w:=by
  refine ⟨fun b k' hb=>?_,fun b b' q q' r h1 h2 m1 m2 r1 r2=>?_,fun r hr=>g1.forb r (hmut r hr),g1.bnd,fun g x hg=>(g1.glob g x hg).ext (jLj _) (fun _ _ _=>rfl) hM⟩
  ·obtain ⟨_,k,h1,h2⟩:=k1 b k' hb
   have hB:=g1.blk b k h1
   cases k with
   | box x =>
    simp only [Blk.clean] at h2
    split at h2 <;> simp only [jIj,reduceCtorEq] at h2
    rename_i cs hcs
    subst h2
    obtain ⟨r,e,v,cs0,q1,q2,q3,q4⟩:=hB
    exact ⟨r,e,v,cs,q1,q2,hcs,qi hk hM x v q4⟩
   | loop rdy tm ps as bd nt =>
    simp only [Blk.clean,jIj] at h2;subst h2
    obtain ⟨l,rc,q1,q3,q4,q5,q6,q7,q8,q9,q10⟩:=hB
    refine ⟨l,rc,q1,q3,q4,q5,q6,q7,q8,q9,fun t x hx=>?_⟩
    obtain ⟨y,hy,rfl⟩:=qj tm t x hx
    exact qi hk hM y _ (q10 t y hy)
   | dead =>
    simp only [Blk.clean,jIj] at h2;subst h2;trivial
   | mp es =>
    simp only [Blk.clean,jIj] at h2;subst h2
    obtain ⟨r,es',c,q1,q2,q3⟩:=hB
    exact ⟨r,es',c,q1,q2,q3.ext (jLj _) (fun _ _ _=>rfl) hM⟩
   | it s p =>
    simp only [Blk.clean,jIj] at h2;subst h2
    obtain ⟨r,q1,q2⟩:=hB
    exact ⟨r,q1,q2⟩
   | left e =>
    simp only [Blk.clean,jIj] at h2;subst h2
    obtain ⟨l,rc,q1,q3,q4⟩:=hB
    exact ⟨l,rc,q1,q3,q4⟩
   | fbox x =>
    simp only [Blk.clean,jIj] at h2;subst h2
    obtain ⟨r,q1,q2⟩:=hB
    exact ⟨r,q1,q2.ext (jLj _) (fun _ _ _=>rfl) hM⟩
   | row v sz es =>
    simp only [Blk.clean,jIj] at h2;subst h2
    rcases hB with ⟨q0,a0,q1⟩ | ⟨r,c,e,cap,q1,q2,q3,q4,q5,q6⟩
    ·exact .inl ⟨q0,a0,q1⟩
    refine .inr ⟨r,c,e,cap,q1,q2,q3,q4,q5,fun i d j x hd hx=>?_⟩
    obtain ⟨y,y1,y2,y3⟩:=q6 i d j x hd hx
    exact ⟨y,y1,y2,y3.ext (jLj _) (fun _ _ _=>rfl) hM⟩
   | frozen v sz es =>
    simp only [Blk.clean,jIj] at h2;subst h2
    exact DR.ext (jLj _) (fun _ _ _=>rfl) hM hB
   | virt v sz es =>
    simp only [Blk.clean,jIj] at h2;subst h2
    exact DR.ext (jLj _) (fun _ _ _=>rfl) hM hB
  ·obtain ⟨_,k,a1,a2⟩:=k1 b q h1
   obtain ⟨_,k',b1,b2⟩:=k1 b' q' h2
   exact g1.inj b b' k k' r a1 b1 (by rw [← (UG a2).1];exact m1) (by rw [← (UG b2).1];exact m2) r1 r2
 refine ⟨ρ1,⟨hs0,fun t x hx=>?_,hs.nt⟩,?_,rfl,rfl⟩
 ·obtain ⟨y,hy,rfl⟩:=EE kt t x hx
  exact qi hk hM y _ (g2 t y hy)
 ·refine StepsV.trans g3.toV ⟨Ext.refl _ _,fun r _ hm=>hmut r hm,fun b k hlt hb=>?_⟩
  simp only [List.all_eq_true] at hall
  obtain ⟨x,hx⟩:=KT (l:=hp) (b:=b) (by rw [hb];simp)
  have:=hall _ hx
  have hblt:Nat.blt b s.vis=true:=by simpa using hlt
  simp only [hblt,Bool.not_true,Bool.false_or] at this
  obtain ⟨q,q',h1,h2,h3⟩:=k2 b (by simpa using this)
  rw [hb] at h1;cases h1
  exact ⟨q',h3,by rw [(UG h2).2.1 hlt];exact jLj _,fun _=>rfl⟩
theorem GP:∀ (tm:List (Nat×AV)) (seen t:Nat) (x:AV),look (kO tm seen) t=some x→seen.testBit t=false∧look tm t=some x
 | [],seen,t,x,h=>by simp [kO,look] at h
 | (k,y)::l,seen,t,x,h=>by
  simp only [kO] at h
  split at h
  ·rename_i hs
   obtain ⟨h1,h2⟩:=GP l seen t x h
   refine ⟨h1,?_⟩
   rw [Qc _ _ (fun e=>by subst e;rw [h1] at hs;cases hs)]
   exact h2
  ·rename_i hs
   by_cases ht:k=t
   ·subst ht
    rw [Qd] at h ⊢
    exact ⟨hs,h⟩
   ·rw [Qc _ _ ht] at h ⊢
    obtain ⟨h1,h2⟩:=GP l _ t x h
    rw [Nat.testBit_or,Bool.or_eq_false_iff] at h1
    exact ⟨h1.1,h2⟩
theorem GR {tm:List (Nat×AV)}:∀ (n t:Nat) (x:AV),look (Kr tm n) t=some x→look tm t=some x
 | 0,t,x,h=>by simp [Kr,look] at h
 | n+1,t,x,h=>by
  simp only [Kr] at h
  split at h
  ·rename_i y hy
   by_cases ht:n=t
   ·subst ht;rw [Qd] at h;cases h;exact hy
   ·rw [Qc _ _ ht] at h;exact GR n t x h
  ·exact GR n t x h
end
end Go.SX
