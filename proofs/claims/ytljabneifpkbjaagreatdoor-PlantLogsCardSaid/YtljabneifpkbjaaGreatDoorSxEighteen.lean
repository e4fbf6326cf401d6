/- A drawn region, in whatever order: the end of the proof. -/
import Derived.Test.YtljabneifpkbjaaGreatDoorSxSeventeen
set_option linter.unusedSimpArgs false
namespace Go.SX
section
variable {cx:Cx} {F:Nat→Prop} {ρ0:Nat→Value} {w0:World} {ops:Array Oper} {masks:List Nat} {base:Nat} {s:St} {recs:List Rec} {call:Kj} {yc:Yz}
theorem HSim.back {H G:List (Nat×Blk)} {ρ0 ρ1:Nat→Value} {w0 w1:World} (h:HSim cx F H ρ0 w0) (hG:HSim cx F G ρ1 w1) (hst:Steps1 H ρ0 w0 G ρ1 w1) (hsub:Ye H G) :
  HSim cx (fun r=>F r ∨ (Mut G ρ1 r∧¬ Mut H ρ0 r)) H ρ0 w1∧(∀ b k,look H b=some k→look G b=some k∧ρ1 b=ρ0 b):=by
 have hag:∀ b k,look H b=some k→look G b=some k∧ρ1 b=ρ0 b:=by
  intro b k hb
  obtain ⟨k',h1,h2,h3⟩:=hst.grow.dom b k hb
  have h4:=hsub b k hb
  rw [h1] at h4;cases h4
  exact ⟨h1,h3 rfl⟩
 have hmut:∀ r,Mut H ρ0 r→Mut G ρ1 r:=by
  rintro r ⟨b,k,hb,hm,hr⟩
  obtain ⟨h1,h2⟩:=hag b k hb
  exact ⟨b,k,h1,hm,by rw [h2];exact hr⟩
 have hMM:∀ r,r < w1.heap.size→MM (fun r=>F r ∨ (Mut G ρ1 r∧¬ Mut H ρ0 r)) H ρ0 r→MM F G ρ1 r:=by
  rintro r _ ((h | h) | h)
  ·exact .inl h
  ·exact .inr h.1
  ·exact .inr (hmut r h)
 refine ⟨⟨fun b k hb=>?_,h.inj,fun r hr hf=>?_,fun r hr=>?_,fun g x hg=>?_⟩,hag⟩
 ·obtain ⟨h1,h2⟩:=hag b k hb
  have hB:=h.blk b k hb
  have hB':=hG.blk b k h1
  cases k with
  | box x =>
   obtain ⟨r,e,v,cs,q1,q2,q3,q4⟩:=hB'
   obtain ⟨_,_,v0,_,_,_,_,p4⟩:=hB
   exact ⟨r,e,v,cs,by rw [← h2];exact q1,q2,q3,VR.restrict hag hMM p4 v q4⟩
  | loop rdy tm ps as bd nt =>
   obtain ⟨l,rc,q1,q3,q4,q5,q6,q7,q8,q9,q10⟩:=hB'
   obtain ⟨_,_,_,_,_,_,_,_,_,_,p10⟩:=hB
   exact ⟨l,rc,by rw [← h2];exact q1,q3,q4,q5,q6,q7,q8,q9,fun t x hx=>VR.restrict hag hMM (p10 t x hx) _ (q10 t x hx)⟩
  | mp es =>
   obtain ⟨r,es',c,q1,q2,q3⟩:=hB'
   exact ⟨r,es',c,by rw [← h2];exact q1,q2,q3.ext (jLj _) (fun _ _ _=>rfl) hMM⟩
  | it s p =>
   obtain ⟨r,q1,q2⟩:=hB'
   exact ⟨r,by rw [← h2];exact q1,q2⟩
  | left e =>
   obtain ⟨l,rc,q1,q3,q4⟩:=hB'
   exact ⟨l,rc,by rw [← h2];exact q1,q3,q4⟩
  | fbox x =>
   obtain ⟨r,q1,q2⟩:=hB'
   exact ⟨r,by rw [← h2];exact q1,q2.ext (jLj _) (fun _ _ _=>rfl) hMM⟩
  | dead=>trivial
  | row ver sz es =>
   rcases hB' with ⟨q0,a0,q1⟩ | ⟨r,c,e,cap,q1,q2,q3,q4,q5,q6⟩
   ·exact .inl ⟨q0,a0,by rw [← h2];exact q1⟩
   refine .inr ⟨r,c,e,cap,by rw [← h2];exact q1,q2,q3,q4,q5,fun i d j a hd ha=>?_⟩
   obtain ⟨y,y1,y2,y3⟩:=q6 i d j a hd ha
   exact ⟨y,y1,y2,y3.ext (jLj _) (fun _ _ _=>rfl) hMM⟩
  | frozen ver sz es =>
   simp only [BlkR] at hB' ⊢
   rw [← h2];exact hB'.ext (jLj _) (fun _ _ _=>rfl) hMM
  | virt ver sz es =>
   simp only [BlkR] at hB' ⊢
   rw [← h2];exact hB'.ext (jLj _) (fun _ _ _=>rfl) hMM
 ·rcases hf with hf | hf
  ·exact hG.forb r (hmut r hr) hf
  ·exact hf.2 hr
 ·rcases hr with hr | hr
  ·exact hG.bnd r hr
  ·exact hG.mut_lt hr.1
 ·exact (hG.glob g x hg).ext (jLj _) (fun _ _ _=>rfl) hMM
theorem zz {p q:Rec→Bool}:∀ {l:List Rec},(∀ r,r∈l→r.up=[] ∨ p r=q r)→Wx (l.filter p)=Wx (l.filter q)
 | [],_=>rfl
 | r::l,h=>by
  have ih:=zz (l:=l) fun r hr=>h r (List.mem_cons_of_mem _ hr)
  simp only [List.filter_cons]
  rcases h r jMj with h1 | h1
  ·split <;> split <;> simp only [Wx,h1,List.nil_append,ih]
  ·rw [h1];split <;> simp only [Wx,ih]
theorem uT (hrec:Recs cx call yc ops masks base s recs ops.toList.length) (hd:DOk ops masks base s recs) {S:Nat→Bool} {R:Rec} (hR:R∈recs) (hS:S R.i=false)
  (hclo:∀ j,S j=true→∀ i,ZS masks i j=true→S i=true) (hpre:∀ i,ZS masks i R.i=true→S i=true) {mask:Nat} (hmask:nth masks R.i=some mask) (hpiv:R.piv=true) :
  Wx (Kc mask (recs.filter fun q=>Nat.blt q.i R.i))++s.hp=hpS s recs S:=by
 unfold hpS
 congr 1
 rw [Y8,List.filter_filter]
 refine zz fun q hq=>?_
 have hma:W1 masks R.i=mask:=by simp [W1,hmask]
 have hRi:=hrec.lt R hR
 by_cases hqR:q.i=R.i
 ·right
  rw [hqR,hS]
  have:Nat.blt R.i R.i=false:=by rw [← Bool.not_eq_true];intro h;rw [Nat.blt_eq] at h;omega
  rw [this,Bool.and_false]
 ·rcases hd.pivs R hR hpiv q hq with h | h | h | h
  ·exact absurd h hqR
  ·right
   rw [hpre q.i h]
   have hlt:=Ue hd R.i hRi q.i (by rw [← Q5];exact h)
   rw [Q5,hma] at h
   rw [h]
   simpa [Nat.blt_eq] using hlt
  ·right
   have hSq:S q.i=false:=by
    cases hh:S q.i with
    | false=>rfl
    | true=>have:=hclo q.i hh R.i h;rw [hS] at this;cases this
   have hlt:=Ue hd q.i (hrec.lt q hq) R.i (by rw [← Q5];exact h)
   have:Nat.blt q.i R.i=false:=by rw [← Bool.not_eq_true];intro h;rw [Nat.blt_eq] at h;omega
   rw [hSq,this,Bool.and_false]
  ·exact .inl h
theorem QaO {H u:List (Nat×Blk)} {rc:RC} (h:QcJ H rc=some u) (hs:rc.sfx=true→∀ h,rc.full=some h→∃ new,h=new++H):u++H=rc.heap H ∨ rc.full=some u:=by
 unfold QcJ at h
 unfold RC.heap
 cases hf:rc.full with
 | none =>
  rw [hf] at h
  simp only [jIj] at h
  left
  rw [← h]
 | some g =>
  cases hx:rc.sfx with
  | false=>rw [hf,hx] at h;cases h;exact .inr rfl
  | true =>
   left
   rw [hf,hx] at h
   simp only [jIj] at h
   obtain ⟨new,hn⟩:=hs hx g hf
   rw [← h,hn]
   simp
theorem Qao {rr:Option Nat} {m:Nat} {ds0:List Deferred} (hcall:jv cx call) (hcs:XX call) (hyc:qw cx yc) (hrec:Recs cx call yc ops masks base s recs ops.toList.length) (hd:DOk ops masks base s recs) (h0:HSim cx F s.hp ρ0 w0) {S:Nat→Bool} {a:Act} {w:World}
    (hinv:DInv cx ops ds0 F ρ0 w0 masks s recs S a w) {R:Rec} (hR:R∈recs) (hS:S R.i=false) (hpre:∀ i,ZS masks i R.i=true→S i=true) {Q:Exit→Act→World→Prop} {K:Act→World→Prop}
    (hK:∀ a' w',DInv cx ops ds0 F ρ0 w0 masks s recs (ins S R.i) a' w'→K a' w'):wpOpIn (fen rr) m cx.P ops Q R.i K a w:=by
  obtain ⟨hclo,hold,hmov,ρ,hs,ht,hsz,hdf,hst⟩:=hinv
  obtain ⟨orc,ob,o',htold,hob⟩:=hrec.told R hR
  have hidx:=VQ htold
  obtain ⟨_,o,ho,hdst⟩:=hidx
  have hop:ops[R.i]?=some o:=by rw [← KR];exact ho
  have hlk:=QbK hrec hd hR hS hclo hpre ho
  unfold wpOpIn
  rw [hop]
  simp only
  unfold Xc at htold
  rw [ho] at htold
  split at htold
  case h_2=>cases htold
  rename_i o2 mask ho2 hmask
  cases ho2
  simp only at htold
  rw [jx hlk] at htold
  split at htold
  · cases htold
  · -- passed Uz
    rename_i hwn
    rw [UK ht hwn]
    simp only [Bool.false_eq_true,if_false]
    simp only [jIj,jPj] at htold
    obtain ⟨hRe,_,_⟩:=htold
    refine ⟨fun _ _=>trivial,hK _ _ ?_⟩
    have h1:R.up=[]:=by rw [← hRe]
    have h2:R.val=.d (.v undef):=by rw [← hRe]
    have:=kN (v:=undef) hrec hd hR hS hclo hpre hold hmov (fun p t0 hp _ hpg=>by
      rw [ho] at hp;cases hp
      simp [Ju,hpg] at hwn) (by rw [h1];exact hs) (by rw [h1];exact ht) hsz hdf (by rw [h1];exact hst) (by rw [h2];exact .d _ _ (.v _))
    rw [hdst] at this;exact this
  · rename_i hwn
    rw [UK ht hwn]
    simp only [if_true]
    have hev:=qT hs ht
    have hfin:∀ {R' : Rec} {up:List (Nat×Blk)} {x:AV} {ρ' : Nat→Value} {v:Value} {w' : World},R=R'→R'.up=up→HSim cx F (up++hpS s recs S) ρ' w'→Steps1 (hpS s recs S) ρ w (up++hpS s recs S) ρ' w' →
        VR w' (MM F (up++hpS s recs S) ρ') (up++hpS s recs S) ρ' R'.val v→(∀ t0,o.op=.move (.tmp t0)→v=a.eval (.tmp t0))→K (a.put o.dst v) w':=by
      intro R' up x ρ' v w' e1 e2 g1 g2 g3 g4
      subst e1;subst e2
      refine hK _ _ ?_
      have:=kN (v:=v) hrec hd hR hS hclo hpre hold hmov (fun p t0 hp hpo _=>by
        rw [ho] at hp;cases hp
        exact g4 t0 hpo) g1 (fun t x hx=>g2.vr (ht t x hx)) hsz hdf (hst.trans g2) g3
      rw [hdst] at this;exact this
    split at htold
    · -- a call
      rename_i fv args hcp
      have hevc:∀ x,x∈o.op.operands.toList→evA cx (VX (recs.filter fun q=>Nat.blt q.i R.i)++s.tm) x=evA cx (tmS s recs S) x:=XQ hlk
      obtain ⟨ats,hopc⟩:=JI hcp
      have hfv:evA cx (VX (recs.filter fun q=>Nat.blt q.i R.i)++s.tm) fv=evA cx (tmS s recs S) fv:=hevc fv (by simp [hopc,Op.operands,Call.operands])
      have hargs:args.map (evA cx (VX (recs.filter fun q=>Nat.blt q.i R.i)++s.tm))=args.map (evA cx (tmS s recs S)) :=
        List.map_congr_left fun x hx=>hevc x (by simp [hopc,Op.operands,Call.operands];exact .inr hx)
      rw [hfv,hargs] at htold
      split at htold
      · -- yield
        rename_i yb ver hyo
        split at htold
        · cases htold
        rename_i rc hrc
        have hR' : ∃ h,rc.full=some h∧R.up=h∧R.piv=true∧(∀ p,p∈rc.ob→p)∧∀ {M:Nat→Prop} {hp' : List (Nat×Blk)} {ρ' : Nat→Value} {w' : World} {v:Value},VR w' M hp' ρ' rc.val v→VR w' M hp' ρ' R.val v:=by
          split at htold
          · rename_i h hfull _
            split at htold
            case h_2=>cases htold
            rename_i y ob2 o2 hlit
            simp only [jIj,jPj] at htold
            obtain ⟨hRe,hobe,_⟩:=htold
            refine ⟨h,hfull,by rw [← hRe],by rw [← hRe],fun p hp=>hob p (by rw [← hobe];simp [hp]),fun hv=>?_⟩
            rw [← hRe]
            exact GJ hlit (fun p hp=>hob p (by rw [← hobe];simp [hp])) hv
          · rename_i h hfull _
            simp only [jIj,jPj] at htold
            obtain ⟨hRe,hobe,_⟩:=htold
            exact ⟨h,hfull,by rw [← hRe],by rw [← hRe],fun p hp=>hob p (by rw [← hobe];exact hp),fun hv=>by rw [← hRe];exact hv⟩
          · cases htold
        obtain ⟨H2,hfull,hup,hpiv,hrob,hval⟩:=hR'
        -- what has been run is just what must come before it
        have hheap:=uT hrec hd hR hS hclo hpre hmask hpiv
        rw [hheap] at hrc
        obtain ⟨l2,k2⟩:=JC hev args
        obtain ⟨⟨k,hk,hver⟩,ly,rc0,hρ,hl,hsz',hround⟩:=hyc _ _ _ _ _ _ _ rc hrc hrob rr (m - 1) F ρ w _ hs l2 k2
        have hfvv:=hev fv
        rw [wn hyo] at hfvv
        have hv:a.eval fv=.func (.yield ly) #[] #[]:=by
          generalize a.eval fv=y at hfvv
          cases hfvv with
          | own _ _ k' _ hb hv ho h =>
            rw [hk] at hb;cases hb
            rw [h hver,hρ]
        rw [Oper.wpIn,Oper.semAt_eq _ _ _ (Vf hcp),jT hcp hv,run_yield hl (by simpa using hsz'.symm)]
        refine ⟨fun _ _=>trivial,?_⟩
        rw [Oper.uponIn_round]
        refine ⟨fun h=>(by cases h),hround.mono ?_⟩
        rintro e w' ⟨v,rfl,ρ',g1,g2,g3⟩
        have hrch:rc.heap (hpS s recs S)=H2:=by rw [RC.heap,hfull]
        rw [hrch] at g1 g2 g3
        have hlook:∀ b,look (H2++hpS s recs S) b=look H2 b:=by
          intro b
          rw [Wl]
          cases h:look H2 b with
          | some k=>rfl
          | none =>
            simp only
            cases h2:look (hpS s recs S) b with
            | none=>rfl
            | some k =>
              obtain ⟨k',h3,_⟩:=g2.grow.dom b k h2
              rw [h] at h3;cases h3
        obtain ⟨u1,u2⟩:=W0 hlook g1
        exact hfin (R':=R) (up:=H2) (x:=R.val) rfl hup u1 (g2.trans u2) (hval (u2.vr g3)) (fun t0 h=>by rw [hopc] at h;cases h)
      split at htold
      · -- a call with effects
        split at htold
        case h_2=>cases htold
        rename_i f p q hca _
        split at htold
        case h_2=>cases htold
        rename_i rc hrc
        split at htold
        case h_2=>cases htold
        rename_i u hu
        simp only [jIj,jPj] at htold
        obtain ⟨hRe,hobe,_⟩:=htold
        have hpiv:R.piv=true:=by rw [← hRe]
        have hup:R.up=u:=by rw [← hRe]
        have hval:R.val=rc.val:=by rw [← hRe]
        have hheap:=uT hrec hd hR hS hclo hpre hmask hpiv
        rw [hheap] at hrc hu
        obtain ⟨xs,ys,hv,l1,l3,k1,k3⟩:=UO hca (hev fv)
        obtain ⟨l2,k2⟩:=JC hev args
        obtain ⟨l4,k4⟩:=ET l1 l2 l3 k1 k2 k3
        have:=hcall _ _ _ _ _ _ _ rc hrc (fun p hp=>hob p (by rw [← hobe];exact hp)) F ρ w _ hs l4 k4
        have hheq:=QaO hu (hcs _ _ _ _ _ _ _ rc hrc)
        rw [Oper.wpIn,Oper.semAt_eq _ _ _ (Vf hcp),qo hcp hv]
        refine ⟨fun _ _=>trivial,?_⟩
        rcases this with ⟨v,r1,hf,hu',r4⟩ | ⟨r1,r2⟩
        · rw [r1]
          simp only [Oper.uponIn]
          have hu0:rc.heap (hpS s recs S)=hpS s recs S:=by rw [RC.heap,hf,hu'];rfl
          have hheq:=hheq.resolve_right (by rw [hf];simp)
          rw [hu0] at hheq
          have hu1:u=[]:=by
            have:=congrArg List.length hheq
            simp only [List.length_append] at this
            exact List.length_eq_zero_iff.1 (by omega)
          refine hfin (R':=R) (up:=u) (x:=R.val) (ρ':=ρ) rfl hup ?_ ?_ ?_ (fun t0 h=>by rw [hopc] at h;cases h)
          · rw [hheq];exact hs
          · rw [hheq];exact Steps1.refl _ _ _
          · rw [hheq,hval];exact r4
        · rw [r1]
          simp only [Oper.uponIn]
          refine ⟨fun h=>(by cases h),jb rr (r2.mono ?_)⟩
          rintro e w' ⟨v,rfl,ρ',g1,g2,g3⟩
          rcases hheq with hheq | hfull
          case inr =>
            have hrch:rc.heap (hpS s recs S)=u:=by rw [RC.heap,hfull]
            rw [hrch] at g1 g2 g3
            have hlook:∀ b,look (u++hpS s recs S) b=look u b:=by
              intro b
              rw [Wl]
              cases h:look u b with
              | some k=>rfl
              | none =>
                simp only
                cases h2:look (hpS s recs S) b with
                | none=>rfl
                | some k =>
                  obtain ⟨k',h3,_⟩:=g2.grow.dom b k h2
                  rw [h] at h3;cases h3
            obtain ⟨u1,u2⟩:=W0 hlook g1
            exact hfin (R':=R) (up:=u) (x:=R.val) rfl hup u1 (g2.trans u2) (by rw [hval];exact u2.vr g3) (fun t0 h=>by rw [hopc] at h;cases h)
          rw [← hheq] at g1 g2 g3
          exact hfin (R':=R) (up:=u) (x:=R.val) rfl hup g1 g2 (by rw [hval];exact g3) (fun t0 h=>by rw [hopc] at h;cases h)
      split at htold
      · cases htold
      rename_i f p q hca
      split at htold
      case h_2=>cases htold
      rename_i rc hin hrc
      obtain ⟨xs,ys,hv,l1,l3,k1,k3⟩:=UO hca (hev fv)
      obtain ⟨l2,k2⟩:=JC hev args
      obtain ⟨l4,k4⟩:=ET l1 l2 l3 k1 k2 k3
      have hRp:R.piv=false:=by
        split at htold
        · split at htold
          case h_2=>cases htold
          simp only [jIj,jPj] at htold
          rw [← htold.1]
        · simp only [jIj,jPj] at htold
          rw [← htold.1]
        · obtain ⟨_,_,_,hR,_⟩:=U0 htold
          rw [hR]
        · cases htold
      have hfn:R.fp=none:=by
        split at htold
        · split at htold
          case h_2=>cases htold
          simp only [jIj,jPj] at htold
          rw [← htold.1]
        · simp only [jIj,jPj] at htold
          rw [← htold.1]
        · obtain ⟨_,_,_,hR,_⟩:=U0 htold
          rw [hR]
        · cases htold
      have hra:R.adr=false:=by
        split at htold
        · split at htold
          case h_2=>cases htold
          simp only [jIj,jPj] at htold
          rw [← htold.1]
        · simp only [jIj,jPj] at htold
          rw [← htold.1]
        · obtain ⟨_,_,_,hR,_⟩:=U0 htold
          rw [hR]
        · cases htold
      -- what was there at the region's head is unwritten so far,or nothing is seen of it
      have hHc:∃ H,Xs s (recs.filter fun q=>Nat.blt q.i R.i) mask=H∧HSim cx (fun r=>F r ∨ (Mut (hpS s recs S) ρ r∧¬ Mut H ρ0 r)) H ρ0 w∧(∀ b k,look H b=some k→look (hpS s recs S) b=some k∧ρ b=ρ0 b):=by
       cases hany:((Kc mask (recs.filter fun q=>Nat.blt q.i R.i)).any fun r=>r.up.any fun p=>WZ s.hp p.1) with
       | true =>
        have he:Xs s (recs.filter fun q=>Nat.blt q.i R.i) mask=[]:=by unfold Xs;rw [hany]
        refine ⟨[],he,⟨fun b k hb=>(by cases hb),fun b b' k k' r hb=>(by cases hb),fun r hr=>?_,fun r hr=>?_,fun g x hg=>?_⟩,fun b k hb=>(by cases hb)⟩
        · obtain ⟨b,k,hb,_⟩:=hr;cases hb
        · rcases hr with hr | hr
          · exact hs.bnd r hr
          · exact hs.mut_lt hr.1
        · refine (hs.glob g x hg).ext (jLj _) (fun _ _ _=>rfl) ?_
          rintro r _ ((h | h) | ⟨b,k,hb,_⟩)
          · exact .inl h
          · exact .inr h.1
          · cases hb
       | false =>
        have he:Xs s (recs.filter fun q=>Nat.blt q.i R.i) mask=s.hp:=by unfold Xs;rw [hany]
        have hcalls:∀ r,r∈recs→(∃ b,look r.up b≠none∧look s.hp b≠none)→ZS masks r.i R.i=false:=by
          rintro r hr ⟨b,hb1,hb2⟩
          cases hm:ZS masks r.i R.i with
          | false=>rfl
          | true =>
            exfalso
            have hlt:=Ue hd R.i (hrec.lt R hR) r.i (by rw [← Q5];exact hm)
            have hma:W1 masks R.i=mask:=by simp [W1,hmask]
            rw [Q5,hma] at hm
            obtain ⟨k,hk⟩:=KT hb1
            have h1:(r.up.any fun p=>WZ s.hp p.1)=true:=List.any_eq_true.2 ⟨_,hk,VA.2 hb2⟩
            have h2:((Kc mask (recs.filter fun q=>Nat.blt q.i R.i)).any fun r=>r.up.any fun p=>WZ s.hp p.1)=true:=by
              refine List.any_eq_true.2 ⟨r,?_,h1⟩
              rw [Y8]
              exact List.mem_filter.2 ⟨List.mem_filter.2 ⟨hr,by simpa [Nat.blt_eq] using hlt⟩,hm⟩
            rw [hany] at h2;cases h2
        refine ⟨s.hp,he,h0.back hs hst ?_⟩
        intro b k hb
        have:look (Wx (recs.filter fun r=>S r.i)++s.hp) b=look (Wx (recs.filter fun _=>false)++s.hp) b:=by
          refine UD recs fun r hr hrb=>?_
          cases hh:S r.i with
          | false=>rfl
          | true =>
            exfalso
            have hne:r.i≠R.i:=fun e=>by rw [e,hS] at hh;cases hh
            have hbo:b≠base+r.i:=fun e=>by rw [e,hd.free r.i (hrec.lt r hr)] at hb;cases hb
            have w1:=Y2 hrb hbo
            have hnc:=hcalls r hr ⟨b,hrb,by rw [hb];simp⟩
            have htR:Yj ops R.i=true:=by rw [En ho];simp [wd,hopc]
            have:=hd.blks r R hr hR
            simp only [JL,Bool.or_eq_true,jAj,Bool.not_eq_true',w1,htR,uK (q:=R) hra hrb (fun fs hf=>by rw [hfn] at hf;cases hf)] at this
            rcases this with ((h | h) | h) | h
            · rw [hnc] at h;cases h
            · have:=hclo r.i hh R.i h;rw [hS] at this;cases this
            · exact hne (ZZ h)
            · simp at h
        have h2:(recs.filter fun _=>false)=[]:=by simp
        show look (Wx (recs.filter fun r=>S r.i)++s.hp) b=some k
        rw [this,h2];exact hb
      obtain ⟨H,hHe,hb1,hag⟩:=hHc
      rw [hHe] at hin hrc
      have hMM:∀ r,r < w.heap.size→MM (fun r=>F r ∨ (Mut (hpS s recs S) ρ r∧¬ Mut H ρ0 r)) H ρ0 r→MM F (hpS s recs S) ρ r:=by
        rintro r _ ((h | h) | ⟨b,k,hb,hm,hr⟩)
        · exact .inl h
        · exact .inr h.1
        · obtain ⟨h1,h2⟩:=hag b k hb
          exact .inr ⟨b,k,h1,hm,by rw [h2];exact hr⟩
      have k5:=VR.shrinks hag hMM _ _ hin k4
      have hres:∀ (hrob:∀ p,p∈rc.ob→p),rc.full=none→rc.up=[]→(∀ {y:AV} {v:Value} {w' : World} {ρ' : Nat→Value},HSim cx F (hpS s recs S) ρ w'→Steps1 (hpS s recs S) ρ w (hpS s recs S) ρ w' →
          VR w' (MM F (hpS s recs S) ρ) (hpS s recs S) ρ rc.val v→K (a.put o.dst v) w')→o.wpIn (fen rr) m cx.P a w K Q:=by
        intro hrob hfull hup hk
        have:=hcall _ _ _ _ _ _ _ rc hrc hrob _ ρ0 w _ hb1 l4 k5
        have hheap:rc.heap H=H:=by rw [RC.heap,hfull,hup];rfl
        have hgr:Grows H (hpS s recs S) ρ0 ρ:=⟨fun b k hb=>⟨k,(hag b k hb).1,jLj _,fun _=>(hag b k hb).2⟩⟩
        have hMM2:∀ r,MM F (hpS s recs S) ρ r→MM (fun r=>F r ∨ (Mut (hpS s recs S) ρ r∧¬ Mut H ρ0 r)) H ρ0 r:=by
          rintro r (h | h)
          · exact .inl (.inl h)
          · by_cases hh:Mut H ρ0 r
            · exact .inr hh
            · exact .inl (.inr ⟨h,hh⟩)
        rw [Oper.wpIn,Oper.semAt_eq _ _ _ (Vf hcp),qo hcp hv]
        refine ⟨fun _ _=>trivial,?_⟩
        rcases this with ⟨v,r1,_,_,r4⟩ | ⟨r1,r2⟩
        · rw [r1]
          simp only [Oper.uponIn]
          exact hk (y:=rc.val) (ρ':=ρ) hs (Steps1.refl _ _ _) (r4.ext (jLj _) (fun _ _ _=>rfl) (fun r _ h=>hMM2 r h) hgr)
        · rw [r1]
          simp only [Oper.uponIn]
          refine ⟨fun h=>(by cases h),jb rr (r2.mono ?_)⟩
          rintro e w' ⟨v,rfl,ρ',g1,g2,g3⟩
          rw [hheap] at g1 g2 g3
          -- the names of the head stand for what they stood
          have hρ:∀ b k,look H b=some k→ρ' b=ρ0 b:=fun b k hb=>by
            obtain ⟨k',h1,_,h3⟩:=g2.grow.dom b k hb
            rw [hb] at h1;cases h1
            exact h3 rfl
          have hgr0:Grows H H ρ' ρ0:=⟨fun b k hb=>⟨k,hb,jLj _,fun _=>(hρ b k hb).symm⟩⟩
          have hmm:∀ r,Mut H ρ0 r↔Mut H ρ' r:=fun r=>by
            constructor
            · rintro ⟨b,k,hb,hm,hr⟩;exact ⟨b,k,hb,hm,by rw [hρ b k hb];exact hr⟩
            · rintro ⟨b,k,hb,hm,hr⟩;exact ⟨b,k,hb,hm,by rw [← hρ b k hb];exact hr⟩
          have hst0:Steps1 H ρ' w' H ρ0 w':=⟨Ext.refl _ _,fun r _ hm=>(hmm r).1 hm,hgr0⟩
          have g1':=g1.step hst0 (fun b k hb=>.inl ⟨hb,(hρ b k hb).symm,fun _ _ _=>rfl⟩)
            (fun b b' k k' r h1 h2 m1 m2 r1 r2=>g1.inj b b' k k' r h1 h2 m1 m2 (by rw [hρ b k h1];exact r1) (by rw [hρ b' k' h2];exact r2)) (fun r hr=>g1.forb r ((hmm r).1 hr))
          obtain ⟨q1,q2⟩:=hs.glue hag g1' g2.ext
          have g3':=hst0.vr g3
          exact hk (y:=rc.val) (ρ':=ρ) q1 q2 (g3'.ext (jLj _) (fun _ _ _=>rfl) (fun r _ h=>hMM2 r h) hgr)
      split at htold
      · rename_i hfull hup _
        split at htold
        case h_2=>cases htold
        rename_i y ob2 o2 hlit
        simp only [jIj,jPj] at htold
        obtain ⟨hRe,hobe,_⟩:=htold
        refine hres (fun p hp=>hob p (by rw [← hobe];simp [hp])) hfull hup fun {_ v w' ρ'} q1 q2 q3=>?_
        exact hfin (up:=[]) (x:=y) hRe.symm rfl q1 q2 (GJ hlit (fun p hp=>hob p (by rw [← hobe];simp [hp])) q3) (fun t0 h=>by rw [hopc] at h;cases h)
      · rename_i hfull hup _
        simp only [jIj,jPj] at htold
        obtain ⟨hRe,hobe,_⟩:=htold
        refine hres (fun p hp=>hob p (by rw [← hobe];exact hp)) hfull hup fun {_ v w' ρ'} q1 q2 q3=>?_
        exact hfin (up:=[]) (x:=rc.val) hRe.symm rfl q1 q2 q3 (fun t0 h=>by rw [hopc] at h;cases h)
      · -- a row that the call has made
        rename_i p0 hfull hup _
        obtain ⟨b,k0,hp0,hRe,hval,hobe,hbH,hfk⟩:=U0 htold
        rw [hHe] at hbH
        have:=hcall _ _ _ _ _ _ _ rc hrc (fun p hp=>hob p (by rw [hobe];exact hp)) _ ρ0 w _ hb1 l4 k5
        have hheap:rc.heap H=(b,k0)::H:=by rw [RC.heap,hfull,hup,hp0];rfl
        have hnn:look (hpS s recs S) (base+R.i)=none:=uI hrec hd hR hS hclo
        rw [Oper.wpIn,Oper.semAt_eq _ _ _ (Vf hcp),qo hcp hv]
        refine ⟨fun _ _=>trivial,?_⟩
        rcases this with ⟨v,r1,_,hu,_⟩ | ⟨r1,r2⟩
        · rw [hup] at hu;cases hu
        · rw [r1]
          simp only [Oper.uponIn]
          refine ⟨fun h=>(by cases h),jb rr (r2.mono ?_)⟩
          rintro e w' ⟨v,rfl,ρ',g1,g2,g3⟩
          rw [hheap] at g1 g2 g3
          rw [hval] at g3
          have hne:∀ b' k,look H b'=some k→b'≠b:=fun b' k hb' e=>by rw [e,hbH] at hb';cases hb'
          have hagH:∀ b' k,look H b'=some k→look ((b,k0)::H) b'=some k∧ρ' b'=ρ0 b':=fun b' k hb'=>by
            have h1:look ((b,k0)::H) b'=some k:=by rw [Qc _ _ (Ne.symm (hne b' k hb'))];exact hb'
            obtain ⟨k',h2,_,h3⟩:=g2.grow.dom b' k hb'
            rw [h1] at h2;cases h2
            exact ⟨h1,h3 rfl⟩
          have hE:∀ r,Q9 (ρ' b)=some r→Mut ((b,k0)::H) ρ' r∧w.heap.size≤r:=by
            intro r hr
            have hm:Mut ((b,k0)::H) ρ' r:=⟨b,_,Qd _ _ _,JE hfk,hr⟩
            refine ⟨hm,?_⟩
            rcases Nat.lt_or_ge r w.heap.size with hlt | hge
            · exfalso
              obtain ⟨b',k',hb',hm',hr'⟩:=g2.mt r hlt hm
              obtain ⟨h1,h2⟩:=hagH b' k' hb'
              have:=g1.inj b' b k' _ r h1 (Qd _ _ _) hm' (JE hfk) (by rw [h2];exact hr') hr
              exact hne b' k' hb' this
            · exact hge
          have g1':=hb1.restrictE g1 hagH g2.ext hE
          obtain ⟨q1,q2⟩:=hs.gluE hag g1' g2.ext (fun r hr=>(hE r hr).2)
          have hrow:FreshV w' (MM (fun r=>F r ∨ Q9 (ρ' b)=some r) (hpS s recs S) ρ) (ρ' b) (stamp k0):=by
            have h0:FreshV w' (MM (fun r=>F r ∨ (Mut (hpS s recs S) ρ r∧¬ Mut H ρ0 r)) ((b,k0)::H) ρ') (ρ' b) k0:=kF hfk (g1.blk b _ (Qd _ _ _))
            refine h0.stamp.sub ?_
            rintro r _ ((h | h) | h)
            · exact .inl (.inl h)
            · exact .inr (hE r h).1
            · by_cases hh:Mut H ρ0 r
              · obtain ⟨b',k',hb',hm',hr'⟩:=hh
                obtain ⟨h1,h2⟩:=hagH b' k' hb'
                exact .inr ⟨b',k',h1,hm',by rw [h2];exact hr'⟩
              · exact .inl (.inr ⟨h,hh⟩)
          have q3:=q1.name (nm:=base+R.i) hnn (fun r h=>h) (fun r hr hf=>by
            have h1:=hs.bnd r hf
            have h2:=(hE r hr).2
            omega) hrow
          have q4:Steps1 (hpS s recs S) ρ w ((base+R.i,stamp k0)::hpS s recs S) (Vl ρ (base+R.i) (ρ' b)) w':=by
            refine ⟨q2.ext,fun r hr hm=>?_,⟨fun n k hn=>?_⟩⟩
            · obtain ⟨n,k',hn,hm',hr'⟩:=hm
              by_cases hnb:n=base+R.i
              · subst hnb
                rw [QG] at hr'
                have:=(hE r hr').2
                omega
              · rw [Qc _ _ (Ne.symm hnb)] at hn;rw [QU _ _ hnb] at hr';exact ⟨n,k',hn,hm',hr'⟩
            · have hnb:n≠base+R.i:=fun e=>by rw [e,hnn] at hn;cases hn
              exact ⟨k,by rw [Qc _ _ (Ne.symm hnb)];exact hn,jLj _,fun _=>QU _ _ hnb⟩
          refine hfin (R':=R) (up:=[(base+R.i,stamp k0)]) (x:=R.val) rfl (by rw [hRe]) q3 q4 ?_ (fun t0 h=>by rw [hopc] at h;cases h)
          have hRv:R.val=.own (base+R.i) 0:=by rw [hRe]
          rw [hRv]
          cases g3 with
          | own _ _ kk _ hb' hv' ho' hh' =>
            rw [Qd] at hb';cases hb'
            exact .own _ 0 _ _ (Qd _ _ _) (Nat.zero_le _) ho' fun _=>by rw [QG];exact hh' rfl
      · cases htold
    · -- another operation
      rename_i hcp
      have hlenfin:∀ {t ty:Nat} {rest:List TypeId} {args:Array Operand} {ats:Array TypeId} {el:TypeId} {b ver:Nat} {es:jVj},o.op=.call { callee:=.builtin .len,args,argTypes:=ats }→args.toList=[.tmp t]→ats.toList=ty::rest→cx.P.underlying ty=some (.slice el) →
          Ug s.hp (.own b ver)=some es→VR w0 (MM F s.hp ρ0) s.hp ρ0 (.own b ver) (a.tmps.getD t undef)→({ i:=R.i,dst:=o.dst,val:=.d (.v (.int .i64 es.length)),up:=[],fp:=some [] }:Rec)=R→o.wpIn (fen rr) m cx.P a w K Q:=by
        intro t ty rest args ats el b ver es hopl hal hatl hu hes hvr hRe
        obtain ⟨ax,cx',hv⟩:=qe h0 hes hvr
        have hat:ats=(ty::rest).toArray:=by rw [← hatl]
        have hargs:args=#[.tmp t]:=by rw [← Array.toArray_toList (xs:=args),hal]
        have h1:=Qn hu w
        have hrun:(execOp a.eval o).run cx.P w=.ok (.value (.int .i64 es.length)) w:=by
          have hav:a.eval (.tmp t)=.slice ax es.length cx':=hv
          subst hargs;subst hat
          simp only [execOp,hopl,resolve]
          simp only [List.map_toArray,jCj,List.map_nil,hav]
          show (do pure (Next.value (← Builtin.len_ (ty::rest).toArray o.type #[.slice ax es.length cx']))).run cx.P w=_
          simp [Builtin.len_,h1,goInt]
        unfold Oper.wpIn
        rw [Oper.semAt_eq _ _ _ (fun c hc=>by rw [hopl] at hc;cases hc)]
        refine ⟨fun _ _=>trivial,?_⟩
        rw [hrun]
        exact hfin (up:=[]) (x:=R.val) hRe.symm (by rw [← hRe]) hs (Steps1.refl _ _ _) (.d _ _ (.v _)) (fun t0 h=>by rw [hopl] at h;cases h)
      -- who writes to the operand of this operation comes before it
      have hwr:∀ {t:Nat},(.tmp t)∈o.op.operands.toList→∀ r,r∈recs→S r.i=true→r.dst=some t→r.i < R.i:=by
        intro t hmem0 r hr hSr hdt
        by_cases hlt:r.i < R.i
        · exact hlt
        · exfalso
          have hne:r.i≠R.i:=fun e=>by rw [e,hS] at hSr;cases hSr
          have hap:=hd.tmps r.i R.i (hrec.lt r hr) (hrec.lt R hR)
          obtain ⟨_,_,_,h1,_⟩:=hrec.told r hr
          obtain ⟨_,x,hx,hxd⟩:=VQ h1
          simp only [KB,Bool.or_eq_true] at hap
          rcases hap with ((h | h) | h) | h
          · have:=Ue hd R.i (hrec.lt R hR) r.i (by rw [← Q5];exact h);omega
          · have:=hclo r.i hSr R.i h
            rw [hS] at this;cases this
          · exact absurd (ZZ h) hne
          · rw [hx,ho] at h
            simp only [← hxd,hdt,jAj,Bool.not_eq_true'] at h
            have hmem:(KK o ops).contains t=true:=by
              rw [List.contains_iff_mem]
              unfold KK
              exact List.mem_append_left _ (List.mem_filterMap.2 ⟨.tmp t,hmem0,rfl⟩)
            rw [hmem] at h
            cases h.1
      split at htold
      · -- the length of what was there
        rename_i k hlen
        simp only [jIj,jPj] at htold
        obtain ⟨hRe,_,_⟩:=htold
        unfold Qbm at hlen
        split at hlen
        case h_2=>cases hlen
        rename_i args ats hopl
        split at hlen
        case h_2=>cases hlen
        rename_i t ty rest hal hatl
        split at hlen
        case h_2=>cases hlen
        rename_i el b ver hu htm hall
        split at hlen
        case h_2=>cases hlen
        rename_i es hes
        simp only [jIj] at hlen
        subst hlen
        have hno:∀ r,r∈recs→S r.i=true→r.dst≠some t:=by
          intro r hr hSr hdt
          have hlt:=hwr (by rw [hopl];simp [Op.operands,Call.operands,hal]) r hr hSr hdt
          simp only [List.all_eq_true] at hall
          have:=hall r (List.mem_filter.2 ⟨hr,by simpa [Nat.blt_eq] using hlt⟩)
          rw [hdt] at this
          simp at this
        exact hlenfin hopl hal hatl hu hes (hold t _ htm hno) hRe
      split at htold
      · -- ... through a copy
        rename_i k hlen
        simp only [jIj,jPj] at htold
        obtain ⟨hRe,_,_⟩:=htold
        unfold Qcu at hlen
        split at hlen
        case h_2=>cases hlen
        rename_i args ats hopl
        split at hlen
        case h_2=>cases hlen
        rename_i t ty rest hal hatl
        split at hlen
        case h_2=>cases hlen
        rename_i el r hu hmr
        split at hlen
        case h_2=>cases hlen
        rename_i p hp
        split at hlen
        case h_2=>cases hlen
        rename_i t0 hpo hpg
        split at hlen
        case h_2=>cases hlen
        rename_i b ver htm hall
        split at hlen
        case h_2=>cases hlen
        rename_i es hes
        simp only [jIj] at hlen
        subst hlen
        simp only [jAj,List.all_eq_true,Bool.or_eq_true,Bool.not_eq_true'] at hall
        obtain ⟨⟨hm1,hm2⟩,hm3⟩:=hall
        obtain ⟨hrm,hrd⟩:=wG hmr
        have hrr:=(List.mem_filter.1 hrm).1
        have hrlt:r.i < R.i:=by simpa [Nat.blt_eq] using (List.mem_filter.1 hrm).2
        have hpd:p.dst=some t:=by
          obtain ⟨_,_,_,h1,_⟩:=hrec.told r hrr
          obtain ⟨_,y,hy,hyd⟩:=VQ h1
          rw [hp] at hy;cases hy
          rw [← hyd,hrd]
        have hvr:=hmov r hrr (hpre r.i hm1) p t0 t _ hp hpo hpg hpd
          (fun q hq hlt hqd=>by
            rcases hm3 q (List.mem_filter.2 ⟨hq,by rw [Nat.blt_eq];omega⟩) with h | h
            · rw [show Nat.blt q.i r.i=true by rw [Nat.blt_eq];exact hlt] at h;cases h
            · rw [qU.2 hqd] at h;cases h)
          (fun q hq hSq hqd=>by
            have hlt:=hwr (by rw [hopl];simp [Op.operands,Call.operands,hal]) q hq hSq hqd
            rcases hm2 q (List.mem_filter.2 ⟨hq,by rw [Nat.blt_eq];omega⟩) with h | h
            · rw [qU.2 hqd] at h;cases h
            · exact ZZ h) htm
        exact hlenfin hopl hal hatl hu hes hvr hRe
      split at htold
      · cases htold
      rename_i r hr
      rw [Qb2 (XQ hlk)] at hr
      have hfp:wV (evA cx (VX (recs.filter fun q=>Nat.blt q.i R.i)++s.tm)) o=R.fp:=by
        split at htold
        · split at htold
          case h_2=>cases htold
          simp only [jIj,jPj] at htold
          rw [← htold.1]
        · simp only [jIj,jPj] at htold
          rw [← htold.1]
      have had:adrB (Xi masks s (recs.filter fun q=>Nat.blt q.i R.i) o mask (wV (evA cx (VX (recs.filter fun q=>Nat.blt q.i R.i)++s.tm)) o)) (Xx (evA cx (VX (recs.filter fun q=>Nat.blt q.i R.i)++s.tm)) o)=R.adr:=by
        split at htold
        · split at htold
          case h_2=>cases htold
          simp only [jIj,jPj] at htold
          rw [← htold.1]
        · simp only [jIj,jPj] at htold
          rw [← htold.1]
      rw [hfp] at hr had
      have hr2:aop cx s.sym orc (hpS s recs S) (base+R.i) (evA cx (tmS s recs S)) o=some r:=by
        cases ha:R.adr with
        | false=>exact QcO (Qau hrec hd hR hS hclo hpre ho hmask ha) (uI hrec hd hR hS hclo) hr
        | true =>
          rw [ha] at had
          have hae:Xx (evA cx (VX (recs.filter fun q=>Nat.blt q.i R.i)++s.tm)) o=Xx (evA cx (tmS s recs S)) o:=by
            unfold Xx
            split
            · rename_i hopx
              rw [XQ hlk _ (by rw [hopx];simp [Op.operands])]
            · rename_i hopx
              rw [XQ hlk _ (by rw [hopx];simp [Op.operands])]
            · rfl
          rw [hae] at had
          unfold adrB at had
          split at had
          case h_2=>cases had
          rename_i b hab
          split at had
          case h_2=>cases had
          rename_i k hkb
          obtain ⟨k',g1,g2⟩:=Qav hrec hd hR hS hclo hpre ho hmask hkb had
          refine QcP hab (fun v hv=>?_) hr
          unfold GQ at hv ⊢
          rw [hkb] at hv
          rw [g1]
          have hz:∀ {k:Blk},boxB k=true→k.ver=0:=fun {k} h=>by cases k <;> first | rfl | cases h
          simp only [hz had] at hv
          simp only [hz g2]
          exact hv
      have key:(∀ p,p∈r.ob→p)→(∀ {ρ' : Nat→Value} {v:Value} {w' : World},HSim cx F (r.up++hpS s recs S) ρ' w'→Steps1 (hpS s recs S) ρ w (r.up++hpS s recs S) ρ' w' →
          VR w' (MM F (r.up++hpS s recs S) ρ') (r.up++hpS s recs S) ρ' r.val v→(∀ t0,o.op=.move (.tmp t0)→v=a.eval (.tmp t0))→K (a.put o.dst v) w')→o.wpIn (fen rr) m cx.P a w K Q:=by
        intro hrob hk
        obtain ⟨v,w',hrun,ρ',g1,g2,g3⟩:=kU hs (fun _=>rfl) hev hr2 hrob
        have:=hk g1 g2 g3 (fun t0 h=>by
          have he:(execOp a.eval o).run cx.P w=.ok (.value (a.eval (.tmp t0))) w:=by simp only [execOp,h];rfl
          rcases hrun with hrun | ⟨hrun,_⟩
          · rw [he] at hrun;cases hrun;rfl
          · rw [he] at hrun;cases hrun)
        unfold Oper.wpIn
        rw [Oper.semAt_eq _ _ _ (zN hr2)]
        refine ⟨fun _ _=>trivial,?_⟩
        rcases hrun with hrun | ⟨hrun,rfl⟩
        · rw [hrun];exact this
        · rw [hrun];exact this
      split at htold
      · split at htold
        case h_2=>cases htold
        rename_i y ob2 o2 hlit
        simp only [jIj,jPj] at htold
        obtain ⟨hRe,hobe,_⟩:=htold
        refine key (fun p hp=>hob p (by rw [← hobe];simp [hp])) fun {ρ' v w'} g1 g2 g3 g4=>?_
        exact hfin (x:=y) hRe.symm rfl g1 g2 (GJ hlit (fun p hp=>hob p (by rw [← hobe];simp [hp])) g3) g4
      · simp only [jIj,jPj] at htold
        obtain ⟨hRe,hobe,_⟩:=htold
        refine key (fun p hp=>hob p (by rw [← hobe];exact hp)) fun {ρ' v w'} g1 g2 g3 g4=>?_
        exact hfin (x:=r.val) hRe.symm rfl g1 g2 g3 g4
def lst (listed:Array Bool):Nat→Bool:=fun i=>listed.getD i false
theorem Qbk {listed:Array Bool} {j:Nat} (hj:j < listed.size):lst (listed.setIfInBounds j true)=ins (lst listed) j:=by
 funext i
 simp only [lst,ins,Array.getD_eq_getD_getElem?,Array.getElem?_setIfInBounds]
 by_cases h:j=i
 ·subst h
  rw [jTj rfl,jTj hj]
  have:Nat.beq j j=true:=Nat.beq_refl j
  simp [this]
 ·rw [jFj h]
  have:Nat.beq i j=false:=by
   cases hb:Nat.beq i j with
   | false=>rfl
   | true=>exact absurd (ZZ hb).symm h
  simp [this]
def unl (n:Nat) (listed:Array Bool):List Nat:=(List.range n).filter fun i=>!(lst listed i)
theorem QcW {n:Nat} {listed:Array Bool} {j k:Nat} (hj:j < n) (hjs:j < listed.size) (hl:lst listed j=false) (hk:(unl n listed).length=k+1):(unl n (listed.setIfInBounds j true)).length=k:=by
 have hmem:j∈unl n listed:=by simp [unl,hj,hl]
 have hnd:(unl n listed).Nodup:=List.Pairwise.filter _ List.nodup_range
 have he:unl n (listed.setIfInBounds j true)=(unl n listed).erase j:=by
  rw [List.Nodup.erase_eq_filter hnd]
  simp only [unl,List.filter_filter]
  refine List.filter_congr fun i _=>?_
  rw [Qbk hjs]
  simp only [ins]
  by_cases h:i=j
  ·subst h
   have:Nat.beq i i=true:=Nat.beq_refl i
   simp [this]
  ·have:Nat.beq i j=false:=by
    cases hb:Nat.beq i j with
    | false=>rfl
    | true=>exact absurd (ZZ hb) h
   simp [this,h]
 rw [he,List.length_erase_of_mem hmem,hk]
 rfl
theorem Qb3 {rr:Option Nat} {m:Nat} {ds0:List Deferred} (hcall:jv cx call) (hcs:XX call) (hyc:qw cx yc) (hrec:Recs cx call yc ops masks base s recs ops.toList.length) (hd:DOk ops masks base s recs) (h0:HSim cx F s.hp ρ0 w0) {Q:Exit→Act→World→Prop}
  (hq:∀ ρ' a' w',HSim cx F (Wx recs++s.hp) ρ' w'→TSim F (VX recs++s.tm) (Wx recs++s.hp) ρ' a' w'→a'.tmps.size=s.nt→a'.defers=ds0→Steps1 s.hp ρ0 w0 (Wx recs++s.hp) ρ' w'→Q .normal a' w') :
  ∀ (fuel:Nat) (listed:Array Bool) (a:Act) (w:World),listed.size=ops.size→(unl ops.size listed).length=fuel→DInv cx ops ds0 F ρ0 w0 masks s recs (lst listed) a w→wpAnyIn (fen rr) m cx.P .any ops Q fuel listed a w:=by
 have hn:ops.toList.length=ops.size:=by simp
 have hdone:∀ (listed:Array Bool) (a:Act) (w:World),(∀ i,i < ops.size→lst listed i=true)→DInv cx ops ds0 F ρ0 w0 masks s recs (lst listed) a w→Q .normal a w:=by
  intro listed a w hall hinv
  obtain ⟨_,_,_,ρ,h1,h2,h3,h4,h5⟩:=hinv
  have hf:(recs.filter fun r=>lst listed r.i)=recs:=List.filter_eq_self.2 fun r hr=>hall r.i (by have:=hrec.lt r hr;omega)
  simp only [hpS,tmS,hf] at h1 h2 h5
  exact hq ρ a w h1 h2 h3 h4 h5
 have hready:∀ (listed:Array Bool),listed.size=ops.size→∀ i,i∈Region.ready .any ops listed↔i < ops.size∧lst listed i=false∧∃ o,ops[i]?=some o∧∀ e,e∈o.after.toList→Region.binds .any e=true→lst listed e.on=true:=by
  intro listed hsz i
  simp only [Region.ready,List.mem_filter,List.mem_range,jAj,Bool.not_eq_true']
  constructor
  ·rintro ⟨h1,h2,h3⟩
   refine ⟨h1,?_,?_⟩
   ·simp only [lst]
    rw [Array.getD_eq_getD_getElem?] at h2 ⊢
    have:i < listed.size:=by omega
    simp [this] at h2 ⊢;exact h2
   ·cases ho:ops[i]? with
    | none=>rw [ho] at h3;simp at h3
    | some o =>
     rw [ho] at h3
     simp only [Option.map_some,Option.getD_some,Array.all_eq_true'] at h3
     refine ⟨o,rfl,fun e he hb=>?_⟩
     have:=h3 e (by simpa using he)
     rw [hb] at this
     simpa [lst] using this
  ·rintro ⟨h1,h2,o,ho,h3⟩
   refine ⟨h1,?_,?_⟩
   ·simp only [lst] at h2
    rw [Array.getD_eq_getD_getElem?] at h2 ⊢
    have:i < listed.size:=by omega
    simp [this] at h2 ⊢;exact h2
   ·rw [ho]
    simp only [Option.map_some,Option.getD_some,Array.all_eq_true']
    intro e he
    by_cases hb:Region.binds .any e=true
    ·have:=h3 e (by simpa using he) hb
     simp only [lst] at this
     rw [hb];simpa using this
    ·simp only [Bool.not_eq_true] at hb
     rw [hb];rfl
 intro fuel
 induction fuel with
 | zero =>
  intro listed a w hsz hcnt hinv
  have hall:∀ i,i < ops.size→lst listed i=true:=by
   intro i hi
   have:unl ops.size listed=[]:=List.length_eq_zero_iff.1 hcnt
   cases h:lst listed i with
   | true=>rfl
   | false =>
    have hm:i∈unl ops.size listed:=by simp [unl,hi,h]
    rw [this] at hm;simp at hm
  refine ⟨?_,hdone listed a w hall hinv⟩
  cases hr:Region.ready .any ops listed with
  | nil=>rfl
  | cons i l =>
   have hm:i∈Region.ready .any ops listed:=by rw [hr];exact jMj
   obtain ⟨h1,h2,_⟩:=(hready listed hsz i).1 hm
   rw [hall i h1] at h2;cases h2
 | succ fuel ih =>
  intro listed a w hsz hcnt hinv
  refine ⟨fun hnil=>hdone listed a w (fun i=>?_) hinv,fun j hj=>?_⟩
  ·induction i using Nat.strongRecOn with
   | _ i ihi =>
    intro hi
    cases h:lst listed i with
    | true=>rfl
    | false =>
     exfalso
     have:i∈Region.ready .any ops listed:=by
      rw [hready listed hsz i]
      refine ⟨hi,h,ops[i],by simp [hi],fun e he hb=>?_⟩
      have hlt:=(hd.spec i ops[i] (by rw [KR];simp [hi])).2 e he hb
      exact ihi e.on hlt (by omega)
     rw [hnil] at this;simp at this
  ·obtain ⟨h1,h2,o,ho,h3⟩:=(hready listed hsz j).1 hj
   obtain ⟨R,hR,rfl⟩:=hrec.all j (by omega)
   have hpre:=QaC hd hinv.clo (by rw [KR];exact ho) h3
   refine Qao hcall hcs hyc hrec hd h0 hinv hR h2 hpre fun a' w' hinv'=>?_
   refine ih _ a' w' (by simp [hsz]) (QcW h1 (by omega) h2 hcnt) ?_
   rw [Qbk (by omega)];exact hinv'
theorem QaP {rr:Option Nat} (hm:cx.P.follows .mixedOrders=true) (hcall:jv cx call) (hcs:XX call) (hyc:qw cx yc) {ob:List Prop} {orc:List Orc} (hrun:Kq cx call yc ops masks base s (List.range ops.toList.length) [] s.ob s.orc=some (recs,ob,orc))
  (hok:yN ops masks base s recs=true) (ho:∀ p,p∈ob→p) {a:Act} {ρ:Nat→Value} {w:World} (hs:Sim cx F s ρ a w) {Q:Exit→Act→World→Prop} {id:Nat}
  (hq:∀ ρ' a' w',HSim cx F (Wx recs++s.hp) ρ' w'→TSim F (VX recs++s.tm) (Wx recs++s.hp) ρ' a' w'→a'.tmps.size=s.nt→a'.defers=a.defers→Steps1 s.hp ρ w (Wx recs++s.hp) ρ' w'→Q .normal a' w') :
  wpR rr cx.P (Code.region id ops true) Q a w∧∀ p,p∈s.ob→p:=by
 have hd:=uY hok
 rw [List.range_eq_range'] at hrun
 obtain ⟨hrec,hob⟩:=qg _ 0 [] recs s.ob ob s.orc orc hrun ho ⟨List.Pairwise.nil,fun r hr=>by simp at hr,fun j hj=>by omega,fun r hr=>by simp at hr⟩
 rw [Nat.zero_add] at hrec
 refine ⟨fun m=>wpIn_region_any hm ?_,hob⟩
 show wpAnyIn (fen rr) m cx.P .any ops Q ops.size (Array.replicate ops.size false) a w.drew
 obtain ⟨d1,d2⟩:=hs.hs.drew
 have hl:lst (Array.replicate ops.size false)=fun _=>false:=by
  funext i
  simp only [lst,Array.getD_eq_getD_getElem?,Array.getElem?_replicate]
  split <;> rfl
 refine Qb3 hcall hcs hyc hrec hd hs.hs hq ops.size _ a w.drew (by simp) ?_ ?_
 ·simp only [unl,hl,Bool.not_false]
  rw [List.filter_eq_self.2 (fun _ _=>rfl)];simp
 ·rw [hl]
  have hff:(recs.filter fun _=>false)=[]:=List.filter_eq_nil_iff.2 (fun _ _ h=>by cases h)
  refine ⟨(fun j hj=>by cases hj),fun t x hx _=>hs.ts t x hx,(fun r _ hr=>by cases hr),ρ,?_,?_,hs.nt,rfl,?_⟩
  ·simp only [hpS,hff];exact d1
  ·simp only [hpS,tmS,hff];exact fun t x hx=>d2.vr (hs.ts t x hx)
  ·simp only [hpS,hff];exact d2
end
end Go.SX
