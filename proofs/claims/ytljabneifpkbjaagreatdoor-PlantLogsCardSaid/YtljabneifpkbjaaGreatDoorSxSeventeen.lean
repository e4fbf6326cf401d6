/- A drawn region, in whatever order: the proof. -/
import Derived.Test.YtljabneifpkbjaaGreatDoorSxSixteen
namespace Go.SX
section
variable {cx:Cx} {F:Nat→Prop} {ρ0:Nat→Value} {w0:World} {ops:Array Oper} {masks:List Nat} {base:Nat} {s:St} {recs:List Rec} {call:Kj} {yc:Yz}
theorem qX {a b:Nat} (h:b≤a):Nat.blt a b=false:=by
 cases hh:Nat.blt a b with
 | false=>rfl
 | true=>rw [Nat.blt_eq] at hh;omega
def ins (S:Nat→Bool) (j:Nat):Nat→Bool:=fun i=>S i || Nat.beq i j
theorem Y2 {r:Rec} {b:Nat} (hb:look r.up b≠none) (hne:b≠base+r.i):Ky base r=true:=by
 obtain ⟨k,hk⟩:=KT hb
 refine List.any_eq_true.2 ⟨_,hk,?_⟩
 simp only [Bool.not_eq_true']
 cases h:Nat.beq b (base+r.i) with
 | false=>rfl
 | true=>exact absurd (ZZ h) hne
theorem Qcs {r q:Rec} {b:Nat} (h:look q.up b≠none):E2 r q=true:=by
 unfold E2
 split
 ·rename_i hu;rw [hu] at h;simp [look] at h
 ·rfl
theorem uK {r q:Rec} {b:Nat} (ha:q.adr=false) (hb:look r.up b≠none) (h:∀ fs,q.fp=some fs→fs.contains b=true):E2 r q=true:=by
 unfold E2
 split
 ·rename_i fs hf _
  obtain ⟨x,hx⟩:=KT hb
  exact List.any_eq_true.2 ⟨_,hx,by rw [ha,h fs hf];rfl⟩
 ·rfl
theorem QbH {r q:Rec} {b:Nat} {k:Blk} (hm:(b,k)∈r.up) (h:E2 r q=false) (hf:∀ fs,q.fp=some fs→fs.contains b=true):boxB k=true:=by
 unfold E2 at h
 split at h
 ·rename_i fs hfs _
  have:=List.any_eq_false.1 h _ hm
  simp only [hf fs hfs,Bool.true_and,Bool.not_eq_true,Bool.not_eq_false',jAj] at this
  simpa using this.2
 ·cases h
theorem kB {α:Type}:∀ {l:List (Nat×α)} {b:Nat} {k:α},look l b=some k→(b,k)∈l
 | [],b,k,h=>by cases h
 | (c,x)::l,b,k,h=>by
  by_cases hc:c=b
  ·subst hc;rw [Qd] at h;cases h;exact jMj
  ·rw [Qc _ _ hc] at h;exact List.mem_cons_of_mem _ (kB h)
theorem Qcw (p:Rec→Bool) (b:Nat):∀ (recs:List Rec),recs.Pairwise (fun x y=>y.i < x.i)→(∀ r,r∈recs→p r=true→look r.up b=none) ∨
  ∃ R' k',R'∈recs∧p R'=true∧look R'.up b=some k'∧∀ r,r∈recs→p r=true→look r.up b≠none→r.i≤R'.i
 | [],_=>.inl fun _ h=>by cases h
 | r::l,hs=>by
  rw [List.pairwise_cons] at hs
  by_cases hp:p r=true∧look r.up b≠none
  ·right
   cases hk:look r.up b with
   | none=>exact absurd hk hp.2
   | some k' =>
    refine ⟨r,k',jMj,hp.1,hk,fun q hq _ _=>?_⟩
    rcases List.mem_cons.1 hq with rfl | hq
    ·exact jLj _
    ·exact Nat.le_of_lt (hs.1 q hq)
  ·rcases Qcw p b l hs.2 with h | ⟨R',k',h1,h2,h3,h4⟩
   ·left
    intro q hq hpq
    rcases List.mem_cons.1 hq with rfl | hq
    ·cases hk:look q.up b with
     | none=>rfl
     | some k'=>exact absurd ⟨hpq,by rw [hk];simp⟩ hp
    ·exact h q hq hpq
   ·right
    refine ⟨R',k',List.mem_cons_of_mem _ h1,h2,h3,fun q hq hpq hn=>?_⟩
    rcases List.mem_cons.1 hq with rfl | hq
    ·exact absurd ⟨hpq,hn⟩ hp
    ·exact h4 q hq hpq hn
theorem UW (fs:List Nat):∀ (hp:List (Nat×Blk)) (b:Nat) (k:Blk),look (hp.filter fun p=>fs.contains p.1) b=some k→fs.contains b=true∧look hp b=some k
 | [],b,k,h=>by simp [look] at h
 | (c,x)::hp,b,k,h=>by
  rw [List.filter_cons] at h
  by_cases hcb:c=b
  ·subst hcb
   split at h
   ·rename_i hc
    exact ⟨hc,by rw [Qd] at h ⊢;exact h⟩
   ·rename_i hc
    exact absurd (UW fs hp c k h).1 hc
  ·split at h
   ·rw [Qc _ _ hcb] at h ⊢;exact UW fs hp b k h
   ·rw [Qc _ _ hcb];exact UW fs hp b k h
theorem QaW (hd:DOk ops masks base s recs) {r q:Rec} (hr:r∈recs) (hq:q∈recs) {b:Nat} (hbr:look r.up b≠none) (hbq:look q.up b≠none) (hne:r.i≠q.i)
  (hri:r.i < ops.toList.length) (hqi:q.i < ops.toList.length) :
  ZS masks r.i q.i=true ∨ ZS masks q.i r.i=true:=by
 have key:∀ r q:Rec,r∈recs→q∈recs→look r.up b≠none→look q.up b≠none→r.i≠q.i→r.i < ops.toList.length→b=base+r.i→ZS masks r.i q.i=true:=by
  intro r q hr hq hbr hbq hne hri he
  rcases hd.names q hq b hbq with ⟨h1,_⟩ | ⟨h1,h2 | ⟨i,hi,h2,h3⟩ | h2⟩
  ·omega
  ·exact absurd (he ▸ hd.free r.i hri) h2
  ·have:i=r.i:=by omega
   rw [← this];exact h3
  ·omega
 by_cases h1:b=base+r.i
 ·exact .inl (key r q hr hq hbr hbq hne hri h1)
 ·by_cases h2:b=base+q.i
  ·exact .inr (key q r hq hr hbq hbr (Ne.symm hne) hqi h2)
  ·have w1:=Y2 hbr h1
   have w2:=Y2 hbq h2
   have:=hd.blks r q hr hq
   simp only [JL,Bool.or_eq_true,jAj,Bool.not_eq_true',w1,hd.touch q hq w2,Qcs (r:=r) hbq] at this
   rcases this with ((h | h) | h) | h
   ·exact .inl h
   ·exact .inr h
   ·exact absurd (ZZ h) hne
   ·simp at h
theorem kN {ds0:List Deferred} (hrec:Recs cx call yc ops masks base s recs ops.toList.length) (hd:DOk ops masks base s recs) {S:Nat→Bool} {a:Act} {w' : World} {R:Rec} (hR:R∈recs) (hS:S R.i=false)
  (hclo:∀ j,S j=true→∀ i,ZS masks i j=true→S i=true) (hpre:∀ i,ZS masks i R.i=true→S i=true) {ρ' : Nat→Value} {v:Value}
  (hold:∀ t x,look s.tm t=some x→(∀ r,r∈recs→S r.i=true→r.dst≠some t)→VR w0 (MM F s.hp ρ0) s.hp ρ0 x (a.tmps.getD t undef))
  (hmov:∀ r,r∈recs→S r.i=true→∀ p t0 t x,nth ops.toList r.i=some p→p.op=.move (.tmp t0)→p.guard=none→p.dst=some t→(∀ q,q∈recs→q.i < r.i→q.dst≠some t0)→(∀ q,q∈recs→S q.i=true→q.dst=some t→q.i=r.i)→look s.tm t0=some x→VR w0 (MM F s.hp ρ0) s.hp ρ0 x (a.tmps.getD t undef))
  (hmv:∀ p t0,nth ops.toList R.i=some p→p.op=.move (.tmp t0)→p.guard=none→v=a.tmps.getD t0 undef)
  (hs:HSim cx F (R.up++hpS s recs S) ρ' w') (ht:TSim F (tmS s recs S) (R.up++hpS s recs S) ρ' a w') (hsz:a.tmps.size=s.nt) (hdf:a.defers=ds0) (hst:Steps1 s.hp ρ0 w0 (R.up++hpS s recs S) ρ' w')
  (hv:VR w' (MM F (R.up++hpS s recs S) ρ') (R.up++hpS s recs S) ρ' R.val v):DInv cx ops ds0 F ρ0 w0 masks s recs (ins S R.i) (a.put R.dst v) w':=by
 have hmlt:=Ue hd
 have hRi:=hrec.lt R hR
 have hlook:∀ b,look (hpS s recs (ins S R.i)) b=look (R.up++hpS s recs S) b:=by
  intro b
  rw [Wl]
  cases hu:look R.up b with
  | some k =>
   simp only
   refine GI hu (by simp [ins]) recs hrec.sorted hR fun r hr hp hb=>?_
   by_cases he:r.i=R.i
   ·omega
   ·have hSr:S r.i=true:=by
     simp only [ins,Bool.or_eq_true] at hp
     rcases hp with h | h
     ·exact h
     ·exact absurd (ZZ h) he
    rcases QaW hd hr hR hb (by rw [hu];simp) he (hrec.lt r hr) hRi with h | h
    ·have:=hmlt R.i hRi r.i (by rw [← Q5];exact h);omega
    ·have:=hclo r.i hSr R.i h
     rw [hS] at this;cases this
  | none =>
   simp only
   refine UD recs fun r hr hb=>?_
   have hne:r≠R:=by intro e;subst e;exact hb hu
   have hi:r.i≠R.i:=fun e=>hne (hrec.uniq hr hR e)
   have:Nat.beq r.i R.i=false:=by
    cases h:Nat.beq r.i R.i with
    | false=>rfl
    | true=>exact absurd (ZZ h) hi
   simp [ins,this]
 have htl:∀ t,look (tmS s recs (ins S R.i)) t=if R.dst=some t then some R.val else look (tmS s recs S) t:=by
  intro t
  by_cases hdt:R.dst=some t
  ·rw [jTj hdt]
   refine zD hdt (by simp [ins]) recs hrec.sorted hR fun r hr hp hrt=>?_
   by_cases he:r.i=R.i
   ·omega
   ·have hSr:S r.i=true:=by
     simp only [ins,Bool.or_eq_true] at hp
     rcases hp with h | h
     ·exact h
     ·exact absurd (ZZ h) he
    have hap:=hd.tmps r.i R.i (hrec.lt r hr) hRi
    obtain ⟨_,_,_,h1,_⟩:=hrec.told r hr
    obtain ⟨_,x,hx,hxd⟩:=VQ h1
    obtain ⟨_,_,_,h2,_⟩:=hrec.told R hR
    obtain ⟨_,y,hy,hyd⟩:=VQ h2
    simp only [KB,Bool.or_eq_true] at hap
    rcases hap with ((h | h) | h) | h
    ·have:=hmlt R.i hRi r.i (by rw [← Q5];exact h);omega
    ·have:=hclo r.i hSr R.i h
     rw [hS] at this;cases this
    ·exact absurd (ZZ h) he
    ·rw [hx,hy] at h
     simp only [← hxd,← hyd,hrt,hdt,Nat.beq_refl,Bool.not_true,Bool.and_false] at h
     cases h
  ·rw [jFj hdt]
   refine ED recs fun r hr hrt=>?_
   have hne:r≠R:=by intro e;subst e;exact hdt hrt
   have hi:r.i≠R.i:=fun e=>hne (hrec.uniq hr hR e)
   have:Nat.beq r.i R.i=false:=by
    cases h:Nat.beq r.i R.i with
    | false=>rfl
    | true=>exact absurd (ZZ h) hi
   simp [ins,this]
 obtain ⟨g1,g2⟩:=W0 hlook hs
 have hkeep:∀ t,R.dst≠some t→(a.put R.dst v).tmps.getD t undef=a.tmps.getD t undef:=by
  intro t hdt
  cases hdd:R.dst with
  | none=>rfl
  | some u =>
   simp only [Act.put]
   rw [Array.getD_eq_getD_getElem?,Array.getElem?_setIfInBounds,jFj (by intro e;subst e;exact hdt hdd),← Array.getD_eq_getD_getElem?]
 refine ⟨fun j hj i hi=>?_,fun t x hx hno=>?_,fun r hr hSr p t0 t x hp hpo hpg hpd hq0 hq1 hx=>?_,ρ',g1,?_,by rw [uA];exact hsz,by rw [YX];exact hdf,hst.trans g2⟩
 ·simp only [ins,Bool.or_eq_true] at hj ⊢
  rcases hj with h | h
  ·exact .inl (hclo j h i hi)
  ·have:=ZZ h;subst this
   exact .inl (hpre i hi)
 ·rw [hkeep t (hno R hR (by simp [ins]))]
  exact hold t x hx fun r hr hSr=>hno r hr (by simp [ins,hSr])
 ·by_cases he:r.i=R.i
  ·have hrR:=hrec.uniq hr hR he
   subst hrR
   obtain ⟨_,_,_,h1,_⟩:=hrec.told r hr
   obtain ⟨_,y,hy,hyd⟩:=VQ h1
   rw [hp] at hy;cases hy
   have hdt:r.dst=some t:=by rw [hyd];exact hpd
   have hlt:=hd.dst r hr t hdt
   have hput:(a.put r.dst v).tmps.getD t undef=v:=by
    rw [hdt]
    simp only [Act.put]
    rw [Array.getD_eq_getD_getElem?,Array.getElem?_setIfInBounds,jTj rfl,jTj (by rw [hsz];exact hlt)];rfl
   rw [hput,hmv p t0 hp hpo hpg]
   refine hold t0 x hx fun q hq hSq hqd=>?_
   by_cases hlt2:q.i < r.i
   ·exact hq0 q hq hlt2 hqd
   ·have hne:q.i≠r.i:=fun e=>by rw [e,hS] at hSq;cases hSq
    have hap:=hd.tmps q.i r.i (hrec.lt q hq) hRi
    obtain ⟨_,_,_,h2,_⟩:=hrec.told q hq
    obtain ⟨_,z,hz,hzd⟩:=VQ h2
    simp only [KB,Bool.or_eq_true] at hap
    rcases hap with ((h | h) | h) | h
    ·have:=hmlt r.i hRi q.i (by rw [← Q5];exact h);omega
    ·have:=hclo q.i hSq r.i h
     rw [hS] at this;cases this
    ·exact absurd (ZZ h) hne
    ·rw [hz,hp] at h
     simp only [← hzd,hqd,jAj,Bool.not_eq_true'] at h
     have hmem:(KK p ops).contains t0=true:=by
      rw [List.contains_iff_mem]
      unfold KK
      refine List.mem_append_left _ (List.mem_filterMap.2 ⟨.tmp t0,?_,rfl⟩)
      rw [hpo]
      simp [Op.operands]
     rw [hmem] at h
     cases h.1
  ·have hSr' : S r.i=true:=by
    simp only [ins,Bool.or_eq_true] at hSr
    rcases hSr with h | h
    ·exact h
    ·exact absurd (ZZ h) he
   have hdt:R.dst≠some t:=fun h=>he (hq1 R hR (by simp [ins]) h).symm
   rw [hkeep t hdt]
   exact hmov r hr hSr' p t0 t x hp hpo hpg hpd hq0 (fun q hq hSq=>hq1 q hq (by simp [ins,hSq])) hx
 ·intro t x hx
  rw [htl] at hx
  by_cases hdt:R.dst=some t
  ·rw [jTj hdt] at hx
   simp only [jIj] at hx;subst hx
   have hlt:=hd.dst R hR t hdt
   rw [hdt]
   simp only [Act.put]
   rw [Array.getD_eq_getD_getElem?,Array.getElem?_setIfInBounds,jTj rfl,jTj (by rw [hsz];exact hlt)]
   exact g2.vr hv
  ·rw [jFj hdt] at hx
   have:(a.put R.dst v).tmps.getD t undef=a.tmps.getD t undef:=by
    cases hdd:R.dst with
    | none=>rfl
    | some u =>
     simp only [Act.put]
     rw [Array.getD_eq_getD_getElem?,Array.getElem?_setIfInBounds,jFj (by intro e;subst e;exact hdt hdd),← Array.getD_eq_getD_getElem?]
   rw [this]
   exact g2.vr (ht t x hx)
theorem jx {tm tm' : List (Nat×AV)} {o:Oper} (h:∀ t,t∈KK o ops→look tm t=look tm' t):Ju ops tm o=Ju ops tm' o:=by
 unfold Ju
 split
 ·rfl
 ·rename_i j want hg
  split
  ·rfl
  ·rename_i g hj
   split
   ·rfl
   ·rename_i d hdd
    rw [h d (by simp [KK,hg,hj,hdd])]
theorem XQ {tm tm' : List (Nat×AV)} {o:Oper} (h:∀ t,t∈KK o ops→look tm t=look tm' t):∀ x,x∈o.op.operands.toList→evA cx tm x=evA cx tm' x:=by
 intro x hx
 cases x with
 | tmp t =>
  simp only [evA]
  rw [h t (by simp only [KK,List.mem_append,List.mem_filterMap];exact .inl ⟨_,hx,rfl⟩)]
 | _=>rfl
theorem QbK (hrec:Recs cx call yc ops masks base s recs ops.toList.length) (hd:DOk ops masks base s recs) {S:Nat→Bool} {R:Rec} (hR:R∈recs) (hS:S R.i=false)
  (hclo:∀ j,S j=true→∀ i,ZS masks i j=true→S i=true) (hpre:∀ i,ZS masks i R.i=true→S i=true) {o:Oper} (ho:nth ops.toList R.i=some o) :
  ∀ t,t∈KK o ops→look (VX (recs.filter fun q=>Nat.blt q.i R.i)++s.tm) t=look (tmS s recs S) t:=by
 intro t ht
 refine ED recs fun r hr hrt=>?_
 by_cases he:r.i=R.i
 ·rw [he,hS]
  exact qX (by omega)
 ·have hap:=hd.tmps r.i R.i (hrec.lt r hr) (hrec.lt R hR)
  obtain ⟨_,_,_,h1,_⟩:=hrec.told r hr
  obtain ⟨_,x,hx,hxd⟩:=VQ h1
  simp only [KB,Bool.or_eq_true] at hap
  rcases hap with ((h | h) | h) | h
  ·have:=Ue hd R.i (hrec.lt R hR) r.i (by rw [← Q5];exact h)
   rw [hpre r.i h]
   simpa [Nat.blt_eq] using this
  ·have hlt:=Ue hd r.i (hrec.lt r hr) R.i (by rw [← Q5];exact h)
   have hSr:S r.i=false:=by
    cases hh:S r.i with
    | false=>rfl
    | true=>have:=hclo r.i hh R.i h;rw [hS] at this;cases this
   rw [hSr]
   exact qX (by omega)
  ·exact absurd (ZZ h) he
  ·rw [hx,ho] at h
   simp only [← hxd,hrt] at h
   simp only [jAj,Bool.not_eq_true'] at h
   have:(KK o ops).contains t=true:=by simpa using ht
   rw [this] at h
   exact absurd h.1 (by simp)
theorem En {R:Rec} {o:Oper} (ho:nth ops.toList R.i=some o):Yj ops R.i=wd o:=by simp [Yj,ho]
theorem Qau (hrec:Recs cx call yc ops masks base s recs ops.toList.length) (hd:DOk ops masks base s recs) {S:Nat→Bool} {R:Rec} (hR:R∈recs) (hS:S R.i=false)
  (hclo:∀ j,S j=true→∀ i,ZS masks i j=true→S i=true) (hpre:∀ i,ZS masks i R.i=true→S i=true) {o:Oper} (ho:nth ops.toList R.i=some o) {mask:Nat} (hm:nth masks R.i=some mask) (hadr:R.adr=false) :
  Ye (Xi masks s (recs.filter fun q=>Nat.blt q.i R.i) o mask R.fp) (hpS s recs S):=by
 intro b k hb
 unfold Xi at hb
 split at hb
 case h_2=>simp [look] at hb
 rename_i htch
 have hfb:(∀ fs,R.fp=some fs→fs.contains b=true)∧look (Wx (Kc mask (recs.filter fun q=>Nat.blt q.i R.i))++s.hp) b=some k:=by
  split at hb
  ·rename_i hf;exact ⟨fun fs h=>(by rw [hf] at h;cases h),hb⟩
  ·rename_i fs hf
   obtain ⟨g1,g2⟩:=UW fs _ b k hb
   exact ⟨fun fs' h=>(by rw [hf] at h;cases h;exact g1),g2⟩
 obtain ⟨hfb,hb⟩:=hfb
 rw [Y8,List.filter_filter] at hb
 have hma:W1 masks R.i=mask:=by simp [W1,hm]
 rw [← hb]
 refine (UD recs fun r hr hrb=>?_).symm
 -- the writers of b are the same
 have hri:=hrec.lt r hr
 have hRi:=hrec.lt R hR
 have htR:Yj ops R.i=true:=by rw [En ho];exact htch
 by_cases hin:ZS masks r.i R.i=true
 ·have hlt:=Ue hd R.i hRi r.i (by rw [← Q5];exact hin)
  rw [hpre r.i hin]
  rw [Q5,hma] at hin
  rw [hin]
  simpa [Nat.blt_eq] using hlt
 ·have hSr:S r.i=false:=by
   cases hh:S r.i with
   | false=>rfl
   | true =>
    exfalso
    have hRr:¬ ZS masks R.i r.i=true:=fun h=>by have:=hclo r.i hh R.i h;rw [hS] at this;cases this
    have hne:r.i≠R.i:=fun e=>by rw [e,hS] at hh;cases hh
    rcases hd.names r hr b hrb with ⟨h1,h2⟩ | ⟨h1,_⟩
    ·-- r's own new block: whoever sees it comes behind r
     rcases VZ recs hb with ⟨q,hq,hqp,hqb⟩ | hb'
     ·simp only [jAj] at hqp
      have hqR:ZS masks q.i R.i=true:=by rw [Q5,hma];exact hqp.1
      by_cases hqr:q.i=r.i
      ·rw [hqr] at hqR;exact hin hqR
      ·rcases hd.names q hq b hqb with ⟨g1,_⟩ | ⟨g1,g2 | ⟨i,hi,g2,g3⟩ | g2⟩
       ·omega
       ·exact g2 h2
       ·have:i=r.i:=by omega
        subst this
        have hq2:=Ue hd R.i hRi q.i (by rw [← Q5];exact hqR)
        have:=hd.trans R.i hRi q.i hq2 (by rw [← Q5];exact hqR) r.i (by rw [← Q5];exact g3)
        rw [← Q5] at this
        exact hin this
       ·omega
     ·rw [h2] at hb';cases hb'
    ·have w1:=Y2 hrb h1
     have:=hd.blks r R hr hR
     simp only [JL,Bool.or_eq_true,jAj,Bool.not_eq_true',w1,htR,uK hadr hrb hfb] at this
     rcases this with ((h | h) | h) | h
     ·exact hin h
     ·exact hRr h
     ·exact hne (ZZ h)
     ·simp at h
  rw [hSr]
  have:mask.testBit r.i=false:=by
   cases h:mask.testBit r.i with
   | false=>rfl
   | true=>exact absurd (by rw [Q5,hma];exact h) hin
  simp [this]
theorem Qav (hrec:Recs cx call yc ops masks base s recs ops.toList.length) (hd:DOk ops masks base s recs) {S:Nat→Bool} {R:Rec} (hR:R∈recs) (hS:S R.i=false)
  (hclo:∀ j,S j=true→∀ i,ZS masks i j=true→S i=true) (hpre:∀ i,ZS masks i R.i=true→S i=true) {o:Oper} (ho:nth ops.toList R.i=some o) {mask:Nat} (hm:nth masks R.i=some mask) {b:Nat} {k:Blk}
  (hb:look (Xi masks s (recs.filter fun q=>Nat.blt q.i R.i) o mask R.fp) b=some k) (hk:boxB k=true):∃ k',look (hpS s recs S) b=some k'∧boxB k'=true:=by
 unfold Xi at hb
 split at hb
 case h_2=>simp [look] at hb
 rename_i htch
 have hfb:(∀ fs,R.fp=some fs→fs.contains b=true)∧look (Wx (Kc mask (recs.filter fun q=>Nat.blt q.i R.i))++s.hp) b=some k:=by
  split at hb
  ·rename_i hf;exact ⟨fun fs h=>(by rw [hf] at h;cases h),hb⟩
  ·rename_i fs hf
   obtain ⟨g1,g2⟩:=UW fs _ b k hb
   exact ⟨fun fs' h=>(by rw [hf] at h;cases h;exact g1),g2⟩
 obtain ⟨hfb,hb⟩:=hfb
 rw [Y8,List.filter_filter] at hb
 have hma:W1 masks R.i=mask:=by simp [W1,hm]
 have hRi:=hrec.lt R hR
 have htR:Yj ops R.i=true:=by rw [En ho];exact htch
 have toS:∀ q:Rec,(mask.testBit q.i && Nat.blt q.i R.i)=true→S q.i=true:=fun q hq=>by
  simp only [jAj] at hq
  exact hpre q.i (by rw [Q5,hma];exact hq.1)
 rcases Qcw (fun r=>S r.i) b recs hrec.sorted with hnone | ⟨Q,k',hQ,hSQ,hQb,hlast⟩
 ·have e1:look (Wx (recs.filter fun r=>S r.i)++s.hp) b=look (Wx (recs.filter fun _=>false)++s.hp) b:=UD recs fun r hr hrb=>by
   cases h:S r.i with
   | false=>rfl
   | true=>exact absurd (hnone r hr h) hrb
  have e2:look (Wx (recs.filter fun q=>mask.testBit q.i && Nat.blt q.i R.i)++s.hp) b=look (Wx (recs.filter fun _=>false)++s.hp) b:=UD recs fun r hr hrb=>by
   cases h:(mask.testBit r.i && Nat.blt r.i R.i) with
   | false=>rfl
   | true=>exact absurd (hnone r hr (toS r h)) hrb
  refine ⟨k,?_,hk⟩
  show look (Wx (recs.filter fun r=>S r.i)++s.hp) b=some k
  rw [e1,← e2];exact hb
 ·have hl:look (hpS s recs S) b=some k':=GI (p:=fun r=>S r.i) hQb hSQ recs hrec.sorted hQ hlast
  refine ⟨k',hl,?_⟩
  by_cases hin:ZS masks Q.i R.i=true
  ·have hlt:=Ue hd R.i hRi Q.i (by rw [← Q5];exact hin)
   have hpm:(mask.testBit Q.i && Nat.blt Q.i R.i)=true:=by
    rw [Q5,hma] at hin
    rw [hin]
    simpa [Nat.blt_eq] using hlt
   have:=GI (p:=fun q=>mask.testBit q.i && Nat.blt q.i R.i) (hp:=s.hp) hQb hpm recs hrec.sorted hQ (fun r hr hp hn=>hlast r hr (toS r hp) hn)
   rw [this] at hb
   cases hb
   exact hk
  ·have hRr:¬ ZS masks R.i Q.i=true:=fun h=>by have:=hclo Q.i hSQ R.i h;rw [hS] at this;cases this
   have hne:Q.i≠R.i:=fun e=>by rw [e,hS] at hSQ;cases hSQ
   have hrb:look Q.up b≠none:=by rw [hQb];simp
   rcases hd.names Q hQ b hrb with ⟨h1,h2⟩ | ⟨h1,_⟩
   ·exfalso
    rcases VZ recs hb with ⟨q,hq,hqp,hqb⟩ | hb'
    ·simp only [jAj] at hqp
     have hqR:ZS masks q.i R.i=true:=by rw [Q5,hma];exact hqp.1
     by_cases hqr:q.i=Q.i
     ·rw [hqr] at hqR;exact hin hqR
     ·rcases hd.names q hq b hqb with ⟨g1,_⟩ | ⟨g1,g2 | ⟨i,hi,g2,g3⟩ | g2⟩
      ·omega
      ·exact g2 h2
      ·have:i=Q.i:=by omega
       subst this
       have hq2:=Ue hd R.i hRi q.i (by rw [← Q5];exact hqR)
       have:=hd.trans R.i hRi q.i hq2 (by rw [← Q5];exact hqR) Q.i (by rw [← Q5];exact g3)
       rw [← Q5] at this
       exact hin this
      ·have:=hrec.lt Q hQ;omega
    ·rw [h2] at hb';cases hb'
   ·have w1:=Y2 hrb h1
    have:=hd.blks Q R hQ hR
    simp only [JL,Bool.or_eq_true,jAj,Bool.not_eq_true',w1,htR] at this
    rcases this with ((h | h) | h) | h
    ·exact absurd h hin
    ·exact absurd h hRr
    ·exact absurd (ZZ h) hne
    ·have hm2:E2 Q R=false:=by simpa using h.1
     exact QbH (kB hQb) hm2 hfb
theorem uI (hrec:Recs cx call yc ops masks base s recs ops.toList.length) (hd:DOk ops masks base s recs) {S:Nat→Bool} {R:Rec} (hR:R∈recs) (hS:S R.i=false)
  (hclo:∀ j,S j=true→∀ i,ZS masks i j=true→S i=true):look (hpS s recs S) (base+R.i)=none:=by
 cases h:look (hpS s recs S) (base+R.i) with
 | none=>rfl
 | some k =>
  exfalso
  rcases VZ recs h with ⟨r,hr,hp,hb⟩ | hb
  ·have hne:r.i≠R.i:=fun e=>by rw [e,hS] at hp;cases hp
   rcases hd.names r hr _ hb with ⟨h1,_⟩ | ⟨h1,h2 | ⟨i,hi,h2,h3⟩ | h2⟩
   ·omega
   ·exact h2 (hd.free R.i (hrec.lt R hR))
   ·have:i=R.i:=by omega
    subst this
    have:=hclo r.i hp _ h3
    rw [hS] at this;cases this
   ·have:=hrec.lt R hR;omega
  ·rw [hd.free R.i (hrec.lt R hR)] at hb;cases hb
mutual
theorem VR.shrink {w:World} {M M2:Nat→Prop} {Hh hp' : List (Nat×Blk)} {ρ ρ' : Nat→Value} (hag:∀ b k,look Hh b=some k→look hp' b=some k∧ρ' b=ρ b) (hM:∀ r,r < w.heap.size→M2 r→M r) :
  ∀ (x:AV) (y:Value),x.inH Hh=true→VR w M hp' ρ' x y→VR w M2 Hh ρ x y
 | .d x,y,_,h=>by
  cases h with
  | d _ _ h=>exact .d _ _ (h.ext (jLj _) (fun _ _ _=>rfl) hM)
 | .agg cs,y,hi,h=>by
  cases h with
  | agg _ ys hl hh=>exact .agg cs ys hl (VR.shrinks hag hM cs ys (by simpa [AV.inH] using hi) hh)
 | .tup cs,y,hi,h=>by
  cases h with
  | tup _ ys hl hh=>exact .tup cs ys hl (VR.shrinks hag hM cs ys (by simpa [AV.inH] using hi) hh)
 | .dptr x o,y,_,h=>by
  cases h with
  | dptr _ _ blk o' hd=>exact .dptr _ _ _ _ (hd.ext (jLj _) (fun _ _ _=>rfl) hM)
 | .ptr b ver sz i off,y,hi,h=>by
  cases h with
  | ptr _ _ _ _ _ k _ hb hv ho hh =>
   have hn:=VA.1 (by simpa [AV.inH] using hi:WZ Hh b=true)
   cases hl:look Hh b with
   | none=>exact absurd hl hn
   | some k' =>
    obtain ⟨h1,h2⟩:=hag b k' hl
    rw [h1] at hb;cases hb
    exact .ptr b ver sz i off k y hl hv ho fun he=>by
     obtain ⟨r,hr,hy⟩:=hh he
     exact ⟨r,by rw [← h2];exact hr,hy⟩
 | .own b ver,y,hi,h=>by
  cases h with
  | own _ _ k _ hb hv ho hh =>
   have hn:=VA.1 (by simpa [AV.inH] using hi:WZ Hh b=true)
   cases hl:look Hh b with
   | none=>exact absurd hl hn
   | some k' =>
    obtain ⟨h1,h2⟩:=hag b k' hl
    rw [h1] at hb;cases hb
    exact .own b ver k y hl hv ho fun he=>by rw [← h2];exact hh he
 | .sub b ver sz lo n,y,hi,h=>by
  cases h with
  | sub _ _ _ _ _ k _ hb hv ho hh =>
   have hn:=VA.1 (by simpa [AV.inH] using hi:WZ Hh b=true)
   cases hl:look Hh b with
   | none=>exact absurd hl hn
   | some k' =>
    obtain ⟨h1,h2⟩:=hag b k' hl
    rw [h1] at hb;cases hb
    exact .sub b ver sz lo n k y hl hv ho fun he=>by
     obtain ⟨r,c,hr,hy⟩:=hh he
     exact ⟨r,c,by rw [← h2];exact hr,hy⟩
 | .fn f p q,y,hi,h=>by
  cases h with
  | fn _ _ _ xs ys hl hm hh hk =>
   simp only [AV.inH,jAj] at hi
   exact .fn f p q xs ys hl hm (VR.shrinks hag hM p xs hi.1 hh) (VR.shrinks hag hM q ys hi.2 hk)
 | .junk,y,_,_=>.junk y
theorem VR.shrinks {w:World} {M M2:Nat→Prop} {Hh hp' : List (Nat×Blk)} {ρ ρ' : Nat→Value} (hag:∀ b k,look Hh b=some k→look hp' b=some k∧ρ' b=ρ b) (hM:∀ r,r < w.heap.size→M2 r→M r) :
  ∀ (cs:List AV) (ys:List Value),uR Hh cs=true→(∀ (i:Nat) (c:AV) (y:Value),cs[i]?=some c→ys[i]?=some y→VR w M hp' ρ' c y) →
   ∀ (i:Nat) (c:AV) (y:Value),cs[i]?=some c→ys[i]?=some y→VR w M2 Hh ρ c y
 | [],ys,_,_=>by intro i c y hc;simp at hc
 | x::cs,ys,hi,hh=>by
  intro i c y hc hy
  simp only [uR,jAj] at hi
  cases i with
  | zero =>
   simp only [List.getElem?_cons_zero,jIj] at hc;subst hc
   exact VR.shrink hag hM x y hi.1 (hh 0 x y rfl hy)
  | succ i =>
   cases ys with
   | nil=>simp at hy
   | cons z ys=>exact VR.shrinks hag hM cs ys hi.2 (fun i c y hc hy=>hh (i+1) c y (by simpa using hc) (by simpa using hy)) i c y (by simpa using hc) (by simpa using hy)
end
theorem HSim.glue {H G:List (Nat×Blk)} {ρ ρ1:Nat→Value} {w1 w2:World} (hG:HSim cx F G ρ1 w1) (hag:∀ b k,look H b=some k→look G b=some k∧ρ1 b=ρ b)
  (hH' : HSim cx (fun r=>F r ∨ (Mut G ρ1 r∧¬ Mut H ρ r)) H ρ w2) (hx:Ext w1 (Mut H ρ) w2):HSim cx F G ρ1 w2∧Steps1 G ρ1 w1 G ρ1 w2:=by
 have hmut:∀ r,Mut H ρ r→Mut G ρ1 r:=by
  rintro r ⟨b,k,hb,hm,hr⟩
  obtain ⟨h1,h2⟩:=hag b k hb
  exact ⟨b,k,h1,hm,by rw [h2];exact hr⟩
 have hMM:∀ r,MM F G ρ1 r→MM (fun r=>F r ∨ (Mut G ρ1 r∧¬ Mut H ρ r)) H ρ r:=by
  rintro r (h | h)
  ·exact .inl (.inl h)
  ·by_cases hh:Mut H ρ r
   ·exact .inr hh
   ·exact .inl (.inr ⟨h,hh⟩)
 have hgr:Grows H G ρ ρ1:=⟨fun b k hb=>⟨k,(hag b k hb).1,jLj _,fun _=>(hag b k hb).2⟩⟩
 have hst:Steps1 G ρ1 w1 G ρ1 w2:=⟨hx.mono hmut,fun _ _ h=>h,Grows.refl _ _⟩
 refine ⟨hG.step hst (fun b k hb=>?_) hG.inj hG.forb,hst⟩
 cases hl:look H b with
 | some k' =>
  obtain ⟨h1,h2⟩:=hag b k' hl
  rw [h1] at hb;cases hb
  right
  exact (hH'.blk b k hl).ext (jLj _) (fun _ _ _=>rfl) (fun r _ h=>hMM r h) hgr h2 (fun _ _ _=>rfl)
 | none =>
  left
  refine ⟨hb,rfl,fun hm r hr=>?_⟩
  have hlt:=(hG.blk b k hb).root_lt hm hr
  refine hx.same r hlt ?_
  rintro ⟨b',k',hb',hm',hr'⟩
  obtain ⟨h1,h2⟩:=hag b' k' hb'
  have:=hG.inj b b' k k' r hb h1 hm hm' hr (by rw [h2];exact hr')
  subst this
  rw [hl] at hb';cases hb'
theorem HSim.gluE {H G:List (Nat×Blk)} {ρ ρ1:Nat→Value} {w1 w2:World} {E:Nat→Prop} (hG:HSim cx F G ρ1 w1) (hag:∀ b k,look H b=some k→look G b=some k∧ρ1 b=ρ b)
  (hH' : HSim cx (fun r=>(F r ∨ (Mut G ρ1 r∧¬ Mut H ρ r)) ∨ E r) H ρ w2) (hx:Ext w1 (Mut H ρ) w2) (hE:∀ r,E r→w1.heap.size≤r) :
  HSim cx (fun r=>F r ∨ E r) G ρ1 w2∧Steps1 G ρ1 w1 G ρ1 w2:=by
 have hmut:∀ r,Mut H ρ r→Mut G ρ1 r:=by
  rintro r ⟨b,k,hb,hm,hr⟩
  obtain ⟨h1,h2⟩:=hag b k hb
  exact ⟨b,k,h1,hm,by rw [h2];exact hr⟩
 have hMM:∀ r,MM (fun r=>F r ∨ E r) G ρ1 r→MM (fun r=>(F r ∨ (Mut G ρ1 r∧¬ Mut H ρ r)) ∨ E r) H ρ r:=by
  rintro r ((h | h) | h)
  ·exact .inl (.inl (.inl h))
  ·exact .inl (.inr h)
  ·by_cases hh:Mut H ρ r
   ·exact .inr hh
   ·exact .inl (.inl (.inr ⟨h,hh⟩))
 have hMG:∀ r,r < w1.heap.size→MM (fun r=>F r ∨ E r) G ρ1 r→MM F G ρ1 r:=by
  rintro r hr ((h | h) | h)
  ·exact .inl h
  ·have:=hE r h;omega
  ·exact .inr h
 have hgr:Grows H G ρ ρ1:=⟨fun b k hb=>⟨k,(hag b k hb).1,jLj _,fun _=>(hag b k hb).2⟩⟩
 have hst:Steps1 G ρ1 w1 G ρ1 w2:=⟨hx.mono hmut,fun _ _ h=>h,Grows.refl _ _⟩
 have hc:∀ r,r < w1.heap.size→¬ MM F G ρ1 r→w2.heap[r]?=w1.heap[r]?:=fun r hr hn=>hx.same r hr fun hm=>hn (.inr (hmut r hm))
 refine ⟨⟨fun b k hb=>?_,hG.inj,fun r hr hf=>?_,fun r hr=>?_,fun g x hg=>(hG.glob g x hg).ext hx.size hc hMG⟩,hst⟩
 ·cases hl:look H b with
  | some k' =>
   obtain ⟨h1,h2⟩:=hag b k' hl
   rw [h1] at hb;cases hb
   exact (hH'.blk b k hl).ext (jLj _) (fun _ _ _=>rfl) (fun r _ h=>hMM r h) hgr h2 (fun _ _ _=>rfl)
  | none =>
   refine (hG.blk b k hb).ext hx.size hc hMG (Grows.refl _ _) rfl fun hm r hr=>?_
   have hlt:=(hG.blk b k hb).root_lt hm hr
   refine hx.same r hlt ?_
   rintro ⟨b',k',hb',hm',hr'⟩
   obtain ⟨h1,h2⟩:=hag b' k' hb'
   have:=hG.inj b b' k k' r hb h1 hm hm' hr (by rw [h2];exact hr')
   subst this
   rw [hl] at hb';cases hb'
 ·rcases hf with hf | hf
  ·exact hG.forb r hr hf
  ·have:=hG.mut_lt hr
   have:=hE r hf
   omega
 ·rcases hr with hr | hr
  ·exact Nat.lt_of_lt_of_le (hG.bnd r hr) hx.size
  ·exact hH'.bnd r (.inr hr)
end
end Go.SX
