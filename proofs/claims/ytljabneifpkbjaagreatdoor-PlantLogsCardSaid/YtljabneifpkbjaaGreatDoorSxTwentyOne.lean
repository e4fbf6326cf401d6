/- The evaluator is sound. -/
import Derived.Test.YtljabneifpkbjaaGreatDoorSxYield
namespace Go.SX
variable {cx:Cx}
theorem qS {ops:Array Oper} {i:Nat} {o:Oper} {s s' : St} {x:AV} {hp' : List (Nat×Blk)} {nx:Nat} {orc:List Orc} {ob:List Prop} {sf:Bool} (h:GL ops i o s x hp' nx orc ob sf=some s') (ho:∀ p,p∈s'.ob→p):∀ p,p∈s.ob→p:=by
 unfold GL at h
 split at h
 ·split at h
  case h_2=>cases h
  obtain ⟨_,e2,_⟩:=YA h
  intro p hp;refine ho p ?_;rw [e2];simp [hp]
 ·obtain ⟨_,e2,_⟩:=YA h
  intro p hp;refine ho p ?_;rw [e2];simp [hp]
theorem ke {call:Kj} {yc:Yz} {ops:Array Oper} {base:Nat}:∀ (l:List Nat) (s s' : St),Y3 cx call yc ops base l s=some s'→(∀ p,p∈s'.ob→p)→∀ p,p∈s.ob→p
 | [],s,s',h,ho=>by simp only [Y3,jIj] at h;subst h;exact ho
 | j::l,s,s',h,ho=>by
  simp only [Y3] at h
  split at h
  case h_2=>cases h
  rename_i s2 h2
  have ho2:=ke l _ _ h ho
  unfold XJ at h2
  split at h2
  ·cases h2
  split at h2
  ·cases h2
  ·obtain ⟨_,e2,_⟩:=YA h2;rw [e2] at ho2;exact ho2
  ·split at h2
   ·split at h2
    ·split at h2
     ·cases h2
     exact (qS h2 ho2)
    split at h2
    ·cases h2
    split at h2
    ·cases h2
    exact (qS h2 ho2)
   ·split at h2
    ·cases h2
    exact (qS h2 ho2)
theorem kC {α:Type} (b:Nat) (k:α):∀ (l:List (Nat×α)) (n:Nat),look ((b,k)::l.filter (fun p=>!(Nat.beq p.1 b))) n=look ((b,k)::l) n:=by
 have key:∀ (l:List (Nat×α)) (n:Nat),n≠b→look (l.filter (fun p=>!(Nat.beq p.1 b))) n=look l n:=by
  intro l n hn
  induction l with
  | nil=>rfl
  | cons p l ih =>
   obtain ⟨m,x⟩:=p
   by_cases hm:m=b
   ·subst hm
    rw [List.filter_cons_of_neg (by simp),ih,Qc _ _ (Ne.symm hn)]
   ·have hq:(!(Nat.beq m b))=true:=by
     cases hq:Nat.beq m b with
     | true=>exact absurd (Nat.eq_of_beq_eq_true hq) hm
     | false=>rfl
    rw [List.filter_cons_of_pos (by simpa only using hq)]
    by_cases hmn:m=n
    ·subst hmn;rw [Qd,Qd]
    ·rw [Qc _ _ hmn,Qc _ _ hmn,ih]
 intro l n
 by_cases hn:n=b
 ·subst hn;rw [Qd,Qd]
 ·rw [Qc _ _ (Ne.symm hn),Qc _ _ (Ne.symm hn),key l n hn]
theorem After.sim {F:Nat→Prop} {vis nt:Nat} {hp:List (Nat×Blk)} {ρ:Nat→Value} {w:World} {s1:St} {a' : Act} {w' : World} {ds0:List Deferred} (h:After cx F vis nt hp ρ w ds0 s1.tm s1.hp a' w') (hn:s1.nt=nt) :
  ∃ ρ',Sim cx F s1 ρ' a' w'∧StepsV vis hp ρ w s1.hp ρ' w'∧DfTo w ds0 w' a'.defers:=by
 obtain ⟨ρ',h1,h2,h3,h4,h5⟩:=h
 exact ⟨ρ',⟨h1,h2,by rw [hn];exact h3⟩,h5,h4⟩
theorem After.trans {F:Nat→Prop} {vis nt:Nat} {hp hp1:List (Nat×Blk)} {ρ ρ1:Nat→Value} {w w1:World} {tm' : List (Nat×AV)} {hp' : List (Nat×Blk)} {a' : Act} {w' : World} {ds0 ds1:List Deferred} (k:StepsV vis hp ρ w hp1 ρ1 w1) (hs:HSim cx F hp1 ρ1 w1) (kd:DfTo w ds0 w1 ds1)
  (h:After cx F vis nt hp1 ρ1 w1 ds1 tm' hp' a' w'):After cx F vis nt hp ρ w ds0 tm' hp' a' w':=by
 obtain ⟨ρ',h1,h2,h3,h4,h5⟩:=h
 exact ⟨ρ',h1,h2,h3,DfTo.trans k.ext.size hs h5 kd h4,k.trans h5⟩
theorem After.refl {F:Nat→Prop} {s:St} {ρ:Nat→Value} {a:Act} {w:World} (h:Sim cx F s ρ a w):After cx F s.vis s.nt s.hp ρ w a.defers s.tm s.hp a w :=
 ⟨ρ,h.hs,h.ts,h.nt,DfTo.refl _ _ _,StepsV.refl _ _ _ _⟩
theorem qF (ops:Array Oper) (s:St):(GC ops s).tm=s.tm∧(GC ops s).nt=s.nt∧(GC ops s).nx=s.nx∧(GC ops s).vis=s.vis∧(GC ops s).rnd=s.rnd∧(GC ops s).ob=s.ob∧(GC ops s).sym=s.sym:=by
 unfold GC
 split
 ·split
  ·exact ⟨rfl,rfl,rfl,rfl,rfl,rfl,rfl⟩
  ·exact ⟨rfl,rfl,rfl,rfl,rfl,rfl,rfl⟩
 ·exact ⟨rfl,rfl,rfl,rfl,rfl,rfl,rfl⟩
theorem uC (ops:Array Oper) {F:Nat→Prop} {s:St} {ρ:Nat→Value} {a:Act} {w:World} (h:Sim cx F s ρ a w):Sim cx F (GC ops s) ρ a w∧Steps1 s.hp ρ w (GC ops s).hp ρ w:=by
 unfold GC
 split
 ·split
  ·rename_i pr _ kb _ _ _ _ _ _
   obtain ⟨g1,g2⟩:=h.hs.freeze kb
   obtain ⟨g3,g4⟩:=ko pr _ g1
   have g5:=g2.trans g4
   exact ⟨⟨g3,fun t x hx=>g5.vr (h.ts t x hx),h.nt⟩,g5⟩
  ·exact ⟨h,Steps1.refl _ _ _⟩
 ·obtain ⟨g1,g2⟩:=h.hs.freeze (QcM ops s.tm)
  exact ⟨⟨g1,fun t x hx=>g2.vr (h.ts t x hx),h.nt⟩,g2⟩
theorem QbE {s s0:St} {pr kt kb:List Nat} (h:kz s pr kt kb=some s0):s0.rnd=s.rnd:=by
 unfold kz at h
 split at h
 split at h
 ·simp only [jIj] at h;subst h;rfl
 ·cases h
theorem jz {Q:Exit→Act→World→Prop} {e:Ex} {a:Act} {w:World} (h:Q (U7 e) a w):Exit.noGoto Q (U7 e) a w:=by
 cases e <;> exact h
def QdH (rr:Option Nat) (cx:Cx) (c:Code) (Q:Exit→Act→World→Prop) (a:Act) (w:World):Prop :=
 wpR rr cx.P c Q a w∧∀ body,c=.loop body→wpL rr cx.P body Q a w
theorem Jv {F:Nat→Prop} {s:St} {ρ:Nat→Value} {a:Act} {w:World} (h:Sim cx F s ρ a w) (r:List Orc) (ob:List Prop):Sim cx F { s with orc:=r,ob } ρ a w :=
 ⟨h.hs,h.ts,h.nt⟩
theorem Qa1 (hN:NoAsk cx) (hm:cx.P.follows .mixedOrders=true):∀ (n:Nat) (c:Code) (s:St) (e:Ex) (s' : St),Z8 n cx c s=some (e,s')→(∀ p,p∈s'.ob→p)→(∀ p,p∈s.ob→p) ∧
  ∀ (rr:Option Nat) (F:Nat→Prop) (ρ:Nat→Value) (a:Act) (w:World),(s.rnd=false→rr=none)→Sim cx F s ρ a w →
   QdH rr cx c (fun e' a' w'=>e'=U7 e∧After cx F s.vis s.nt s.hp ρ w a.defers s'.tm s'.hp a' w') a w:=by
 intro n
 induction n with
 | zero=>intro c s e s' h;simp [Z8] at h
 | succ n ih =>
  intro c s e s' h ho
  have hE:ExOK cx (Z8 n cx):=fun c s e s' h ho=>by
   obtain ⟨h1,h2⟩:=ih c s e s' h ho
   exact ⟨h1,fun rr F ρ a w hr hs=>(h2 rr F ρ a w hr hs).1⟩
  have hS:=XV cx n
  have hcall:=QcU hN hE hS
  have hyc:=Qbt hE hS
  cases c with
  | skip =>
   simp only [Z8,jIj,jPj] at h;obtain ⟨rfl,rfl⟩:=h
   exact ⟨ho,fun rr F ρ a w hr hs=>⟨Qb5 ⟨rfl,After.refl hs⟩,fun _ hh=>by cases hh⟩⟩
  | label l =>
   simp only [Z8,jIj,jPj] at h;obtain ⟨rfl,rfl⟩:=h
   exact ⟨ho,fun rr F ρ a w hr hs=>⟨Qbv ⟨rfl,After.refl hs⟩,fun _ hh=>by cases hh⟩⟩
  | exit id =>
   simp only [Z8,jIj,jPj] at h;obtain ⟨rfl,rfl⟩:=h
   exact ⟨ho,fun rr F ρ a w hr hs=>⟨Qb6 ⟨rfl,After.refl hs⟩,fun _ hh=>by cases hh⟩⟩
  | ret =>
   simp only [Z8,jIj,jPj] at h;obtain ⟨rfl,rfl⟩:=h
   exact ⟨ho,fun rr F ρ a w hr hs=>⟨QcV ⟨rfl,After.refl hs⟩,fun _ hh=>by cases hh⟩⟩
  | region id ops draw =>
   simp only [Z8,St.force_eq] at h
   split at h
   ·split at h
    case h_2=>cases h
    rename_i s1 hs1
    simp only [jIj,jPj] at h;obtain ⟨rfl,rfl⟩:=h
    have hob:=ke _ _ _ hs1 ho
    obtain ⟨v1,v2,_⟩:=Er (zb hS cx) (wo hS) _ _ _ hs1
    refine ⟨hob,fun rr F ρ a w hr hs=>⟨fun m=>wpIn_region ?_,fun _ hh=>by cases hh⟩⟩
    have hlen:ops.size=ops.toList.length:=by simp
    rw [hlen]
    refine yk hcall hyc _ _ _ ρ a w hs1 ho ⟨hs.hs,hs.ts,hs.nt⟩ fun ρ' a' w' g1 g2 g3=>⟨rfl,ρ',g1.hs,g1.ts,?_,by rw [g3];exact DfTo.refl _ _ _,g2.toV⟩
    rw [g1.nt];exact E0 v2
   ·split at h
    case h_2=>cases h
    rename_i recs ob orc hrun
    split at h
    case h_2=>cases h
    rename_i hok
    simp only [jIj,jPj] at h;obtain ⟨rfl,rfl⟩:=h
    have hgo:∀ (rr:Option Nat) (F:Nat→Prop) (ρ:Nat→Value) (a:Act) (w:World) (hs:Sim cx F s ρ a w),_:=fun rr F ρ a w hs =>
     QaP (rr:=rr) (Q:=fun e' a' w'=>e'=U7 .normal∧After cx F s.vis s.nt s.hp ρ w a.defers (VX recs++s.tm) (Wx recs++(GC ops s).hp) a' w') (id:=id) hm hcall (zb hS cx) hyc (by rw [(qF ops s).2.2.2.2.2.1];exact hrun) hok ho (uC ops hs).1
      (fun ρ' a' w' g1 g2 g3 g4 g5=>⟨rfl,ρ',g1,by rw [← (qF ops s).1];exact g2,by rw [← (qF ops s).2.1];exact g3,by rw [g4];exact DfTo.refl _ _ _,((uC ops hs).2.trans g5).toV⟩)
    refine ⟨?_,fun rr F ρ a w hr hs=>⟨(hgo rr F ρ a w hs).1,fun _ hh=>by cases hh⟩⟩
    rw [List.range_eq_range'] at hrun
    exact (qg _ 0 [] recs s.ob ob (GC ops s).orc orc hrun ho ⟨List.Pairwise.nil,fun r hr=>by simp at hr,fun j hj=>by omega,fun r hr=>by simp at hr⟩).2
  | seq x y =>
   simp only [Z8] at h
   split at h
   ·rename_i s1 hs1
    obtain ⟨b1,b2⟩:=ih _ _ _ _ h ho
    obtain ⟨a1,a2⟩:=ih _ _ _ _ hs1 b1
    obtain ⟨v1,v2,_⟩:=hS _ _ _ _ hs1
    refine ⟨a1,fun rr F ρ a w hr hs=>⟨Qa6 (Vk (a2 rr F ρ a w hr hs).1 ?_),fun _ hh=>by cases hh⟩⟩
    rintro e' a' w' ⟨rfl,haft⟩
    obtain ⟨ρ',g1,g2,gd⟩:=haft.sim (E0 v2)
    refine Vk (b2 rr F ρ' a' w' (fun h=>hr ((yx v2).symm.trans h)) g1).1 ?_
    rintro e' a'' w'' ⟨rfl,h2⟩
    rw [v1,E0 v2] at h2
    exact ⟨rfl,After.trans g2 g1.hs gd h2⟩
   ·rename_i hne
    obtain ⟨a1,a2⟩:=ih _ _ _ _ h ho
    refine ⟨a1,fun rr F ρ a w hr hs=>⟨Qa6 (Vk (a2 rr F ρ a w hr hs).1 ?_),fun _ hh=>by cases hh⟩⟩
    rintro e' a' w' ⟨rfl,haft⟩
    cases e with
    | normal=>exact absurd h (hne s')
    | exit id=>exact ⟨rfl,haft⟩
    | ret=>exact ⟨rfl,haft⟩
  | cond x t e' =>
   simp only [Z8] at h
   split at h
   case h_2=>cases h
   rename_i b hb
   have hev:∀ (F:Nat→Prop) (ρ:Nat→Value) (a:Act) (w:World),Sim cx F s ρ a w→a.eval x=.bool b:=fun F ρ a w hs=>by
    have:=qT hs.hs hs.ts x
    rw [hb] at this
    cases this with
    | d _ _ hd=>generalize a.eval x=y at hd;cases hd;rfl
   split at h
   ·obtain ⟨a1,a2⟩:=ih _ _ _ _ h ho
    have hbt:b=true:=a1 _ jMj
    refine ⟨fun p hp=>a1 p (List.mem_cons_of_mem _ hp),fun rr F ρ a w hr hs=>⟨uh (hev F ρ a w hs) ?_,fun _ hh=>by cases hh⟩⟩
    rw [jTj hbt]
    exact (a2 rr F ρ a w hr (Jv hs _ _)).1
   ·obtain ⟨a1,a2⟩:=ih _ _ _ _ h ho
    have hbt:b=false:=a1 _ jMj
    refine ⟨fun p hp=>a1 p (List.mem_cons_of_mem _ hp),fun rr F ρ a w hr hs=>⟨uh (hev F ρ a w hs) ?_,fun _ hh=>by cases hh⟩⟩
    rw [jFj (by rw [hbt];simp)]
    exact (a2 rr F ρ a w hr (Jv hs _ _)).1
   ·split at h
    ·obtain ⟨a1,a2⟩:=ih _ _ _ _ h ho
     refine ⟨a1,fun rr F ρ a w hr hs=>⟨jw (hev F ρ a w hs) ?_,fun _ hh=>by cases hh⟩⟩
     exact (a2 rr F ρ a w hr (Jv hs _ s.ob)).1
    ·obtain ⟨a1,a2⟩:=ih _ _ _ _ h ho
     refine ⟨a1,fun rr F ρ a w hr hs=>⟨wp (hev F ρ a w hs) ?_,fun _ hh=>by cases hh⟩⟩
     exact (a2 rr F ρ a w hr (Jv hs _ s.ob)).1
   ·cases h
  | block id body =>
   simp only [Z8] at h
   split at h
   ·rename_i i s1 hs1
    have key:(∀ p,p∈s1.ob→p)→(∀ p,p∈s.ob→p)∧∀ (rr:Option Nat) (F:Nat→Prop) (ρ:Nat→Value) (a:Act) (w:World),(s.rnd=false→rr=none)→Sim cx F s ρ a w→wpR rr cx.P body (fun e' a' w'=>e'=U7 (.exit i)∧After cx F s.vis s.nt s.hp ρ w a.defers s1.tm s1.hp a' w') a w:=fun ho=>by
     obtain ⟨a1,a2⟩:=ih _ _ _ _ hs1 ho
     exact ⟨a1,fun rr F ρ a w hr hs=>(a2 rr F ρ a w hr hs).1⟩
    split at h
    ·rename_i hbeq
     have hi:i=id:=Nat.eq_of_beq_eq_true hbeq
     simp only [jIj,jPj] at h;obtain ⟨rfl,rfl⟩:=h
     obtain ⟨a1,a2⟩:=key ho
     refine ⟨a1,fun rr F ρ a w hr hs=>⟨qB (Vk (a2 rr F ρ a w hr hs) ?_),fun _ hh=>by cases hh⟩⟩
     rintro e' a' w' ⟨rfl,haft⟩
     simp only [U7,Exit.inBlock,hi,if_true]
     exact ⟨trivial,haft⟩
    ·rename_i hbeq
     have hi:i≠id:=Nat.ne_of_beq_eq_false hbeq
     simp only [jIj,jPj] at h;obtain ⟨rfl,rfl⟩:=h
     obtain ⟨a1,a2⟩:=key ho
     refine ⟨a1,fun rr F ρ a w hr hs=>⟨qB (Vk (a2 rr F ρ a w hr hs) ?_),fun _ hh=>by cases hh⟩⟩
     rintro e' a' w' ⟨rfl,haft⟩
     simp only [U7,Exit.inBlock,jFj hi]
     exact ⟨trivial,haft⟩
   ·rename_i hne
    obtain ⟨a1,a2⟩:=ih _ _ _ _ h ho
    refine ⟨a1,fun rr F ρ a w hr hs=>⟨qB (Vk (a2 rr F ρ a w hr hs).1 ?_),fun _ hh=>by cases hh⟩⟩
    rintro e' a' w' ⟨rfl,haft⟩
    cases e with
    | normal=>exact ⟨rfl,haft⟩
    | exit i=>exact absurd h (hne i s')
    | ret=>exact ⟨rfl,haft⟩
  | scope body =>
   simp only [Z8] at h
   obtain ⟨a1,a2⟩:=ih _ _ _ _ h ho
   refine ⟨a1,fun rr F ρ a w hr hs=>⟨Ek (Vk (a2 rr F ρ a w hr hs).1 ?_),fun _ hh=>by cases hh⟩⟩
   rintro e' a' w' ⟨rfl,haft⟩
   exact jz ⟨rfl,haft⟩
  | loop body =>
   suffices hk:(∀ p,p∈s.ob→p)∧∀ (rr:Option Nat) (F:Nat→Prop) (ρ:Nat→Value) (a:Act) (w:World),(s.rnd=false→rr=none)→Sim cx F s ρ a w →
     wpL rr cx.P body (fun e' a' w'=>e'=U7 e∧After cx F s.vis s.nt s.hp ρ w a.defers s'.tm s'.hp a' w') a w by
    exact ⟨hk.1,fun rr F ρ a w hr hs=>⟨Qbu (hk.2 rr F ρ a w hr hs),fun b hh=>by cases hh;exact hk.2 rr F ρ a w hr hs⟩⟩
   simp only [Z8] at h
   split at h
   ·split at h
    case h_2=>cases h
    rename_i s0 hs0
    simp only [jIj,jPj] at h;obtain ⟨rfl,rfl⟩:=h
    have hlt:=ho _ jMj
    refine ⟨fun p hp=>ho p (List.mem_cons_of_mem _ hp),fun rr F ρ a w hr hs=>?_⟩
    obtain ⟨ρ1,g1,g2,g3,g4⟩:=zC hs0 hs
    have hl:=hlt rr F ρ1 a w (fun h=>hr ((QbE hs0).symm.trans h)) ⟨g1.hs,g1.ts,g1.nt⟩
    intro b k cs hro
    obtain ⟨e',a',w',⟨q1,q2⟩,q3⟩:=hl b k cs hro
    have q2:After cx F s0.vis s0.nt s0.hp ρ1 w a.defers _ _ a' w':=q2
    rw [g3,g4] at q2
    exact ⟨e',a',w',⟨q1,After.trans g2 g1.hs (DfTo.refl _ _ _) q2⟩,q3⟩
   ·split at h
    ·rename_i s1 hs1
     obtain ⟨b1,b2⟩:=ih _ _ _ _ h ho
     obtain ⟨a1,a2⟩:=ih _ _ _ _ hs1 b1
     obtain ⟨v1,v2,_⟩:=hS _ _ _ _ hs1
     refine ⟨a1,fun rr F ρ a w hr hs=>XG (Vk (a2 rr F ρ a w hr ⟨hs.hs,fun t x hx=>hs.ts t x (GP _ _ _ _ hx).2,hs.nt⟩).1 ?_)⟩
     rintro e' a' w' ⟨rfl,haft⟩
     obtain ⟨ρ',g1,g2,gd⟩:=haft.sim (E0 v2)
     intro b k cs hro
     obtain ⟨e',a'',w'',⟨q1,q2⟩,q3⟩:=(b2 rr F ρ' a' w' (fun h=>hr ((yx v2).symm.trans h)) g1).2 body rfl b k cs hro
     rw [v1,E0 v2] at q2
     exact ⟨e',a'',w'',⟨q1,After.trans g2 g1.hs gd q2⟩,q3⟩
    ·rename_i hne
     obtain ⟨a1,a2⟩:=ih _ _ _ _ h ho
     refine ⟨a1,fun rr F ρ a w hr hs=>XG (Vk (a2 rr F ρ a w hr ⟨hs.hs,fun t x hx=>hs.ts t x (GP _ _ _ _ hx).2,hs.nt⟩).1 ?_)⟩
     rintro e' a' w' ⟨rfl,haft⟩
     cases e with
     | normal=>exact absurd h (hne s')
     | exit id=>exact ⟨rfl,haft⟩
     | ret=>exact ⟨rfl,haft⟩
   ·cases h
  | rangeFunc f ps as bd =>
   simp only [Z8] at h
   split at h
   case h_2=>cases h
   rename_i g a0 b0 hrnd hcal hcond
   split at h
   case h_2=>cases h
   rename_i s2 hx
   split at h
   case h_3=>cases h
   ·rename_i hb2 ho2
    simp only [jIj,jPj] at h;obtain ⟨rfl,rfl⟩:=h
    simp only [jAj] at hcond
    obtain ⟨c1,c2⟩:=EX hN hE hS hcal hcond.1 hcond.2 hx hb2 rfl ho2 ho
    refine ⟨c1,fun rr F ρ a w hr hs=>⟨?_,fun _ hh=>by cases hh⟩⟩
    rw [hr hrnd]
    refine Vk (c2 F ρ a w hs) ?_
    rintro e' a' w' ⟨rfl,ρ',k1,k2,k3,k4,k5⟩
    obtain ⟨l1,l2⟩:=W0 (kC s.nx Blk.dead s2.hp) k1
    exact ⟨rfl,ρ',l1,fun t x hx=>l2.vr (k2 t x hx),k3,k4,k5.trans l2.toV⟩
   ·rename_i e hb2 ho2
    simp only [jIj,jPj] at h;obtain ⟨rfl,rfl⟩:=h
    simp only [jAj] at hcond
    obtain ⟨c1,c2⟩:=EX hN hE hS hcal hcond.1 hcond.2 hx hb2 rfl ho2 ho
    refine ⟨c1,fun rr F ρ a w hr hs=>⟨?_,fun _ hh=>by cases hh⟩⟩
    rw [hr hrnd]
    refine Vk (c2 F ρ a w hs) ?_
    rintro e' a' w' ⟨rfl,ρ',k1,k2,k3,k4,k5⟩
    obtain ⟨l1,l2⟩:=W0 (kC s.nx Blk.dead s2.hp) k1
    exact ⟨rfl,ρ',l1,fun t x hx=>l2.vr (k2 t x hx),k3,k4,k5.trans l2.toV⟩
  | _=>simp only [Z8] at h;cases h
theorem js (hN:NoAsk cx) (hm:cx.P.follows .mixedOrders=true) (n:Nat):ExOK cx (Z8 n cx):=fun c s e s' h ho=>by
 obtain ⟨h1,h2⟩:=Qa1 hN hm n c s e s' h ho
 exact ⟨h1,fun rr F ρ a w hr hs=>(h2 rr F ρ a w hr hs).1⟩
end Go.SX
