/- Calls; the whole evaluator. -/
import Derived.Test.YtljabneifpkbjaaGreatDoorSxEighteen
set_option linter.unusedVariables false
namespace Go.SX
theorem EJ {ops:Array Oper} {i:Nat} {o:Oper} {s s' : St} {x:AV} {hp' : List (Nat×Blk)} {nx:Nat} {orc:List Orc} {ob:List Prop} {sf:Bool} (h:GL ops i o s x hp' nx orc ob sf=some s') :
  s'.hp=hp'∧s'.vis=s.vis∧s'.nr=s.nr∧(s'.sfx=true→s.sfx=true∧sf=true):=by
 unfold GL at h
 split at h
 ·split at h
  case h_2=>cases h
  obtain ⟨e1,e2,e3,e4,e5⟩:=YA h
  exact ⟨e1,e3,e4,fun hh=>by rw [e5] at hh;simpa using hh⟩
 ·obtain ⟨e1,e2,e3,e4,e5⟩:=YA h
  exact ⟨e1,e3,e4,fun hh=>by rw [e5] at hh;simpa using hh⟩
def ju (yc:Yz):Prop :=
 ∀ (H:List (Nat×Blk)) (nx:Nat) (sym:Bool) (orc:List Orc) (b ver:Nat) (args:List AV) (rc:RC),yc H nx sym orc b ver args=some rc→rc.sfx=true→∀ h,rc.full=some h→∃ new,h=new++H
def zQ (ex:Code→St→Option (Ex×St)):Prop :=
 ∀ (c:Code) (s:St) (e:Ex) (s' : St),ex c s=some (e,s')→s'.vis=s.vis∧s'.nr=s.nr∧(s'.sfx=true→s.sfx=true∧∃ new,s'.hp=new++s.hp)
theorem Qdf {α:Type} (x y:α) (n2 n1 H:List α):∃ new,x::(n2++y::(n1++H))=new++H:=⟨x::(n2++y::n1),by simp⟩
theorem wo {ex:Code→St→Option (Ex×St)} (he:zQ ex):ju (qA ex):=by
 intro H nx sym orc b ver args rc h
 unfold qA at h
 split at h
 case h_2=>cases h
 split at h
 case h_2=>cases h
 split at h
 case h_2=>cases h
 rename_i s1 h1
 split at h
 case h_2=>cases h
 split at h
 case h_3=>cases h
 ·rename_i s2 h2
  split at h
  case h_2=>cases h
  simp only [jIj] at h;subst h
  intro hs h' hf
  simp only [jIj] at hf;subst hf
  simp only [jAj] at hs
  obtain ⟨_,_,g1⟩:=he _ _ _ _ h1
  obtain ⟨_,_,g2⟩:=he _ _ _ _ h2
  obtain ⟨k1,n2,k2⟩:=g2 hs.2
  obtain ⟨_,n1,k3⟩:=g1 k1
  simp only at k2 k3
  rw [k2,k3]
  exact Qdf _ _ _ _ _
 ·rename_i e s2 hne h2
  split at h
  case h_2=>cases h
  simp only [jIj] at h;subst h
  intro hs h' hf
  simp only [jIj] at hf;subst hf
  simp only [jAj] at hs
  obtain ⟨_,_,g1⟩:=he _ _ _ _ h1
  obtain ⟨_,_,g2⟩:=he _ _ _ _ h2
  obtain ⟨k1,n2,k2⟩:=g2 hs.2
  obtain ⟨_,n1,k3⟩:=g1 k1
  simp only at k2 k3
  rw [k2,k3]
  exact Qdf _ _ _ _ _
theorem uo {cx:Cx} {call:Kj} (hc:XX call) {yc:Yz} (hy:ju yc) {ops:Array Oper} {base i:Nat} {s s' : St} (h:XJ cx call yc ops base i s=some s') :
  s'.vis=s.vis∧s'.nr=s.nr∧(s'.sfx=true→s.sfx=true∧∃ new,s'.hp=new++s.hp):=by
 unfold XJ at h
 split at h
 ·cases h
 split at h
 ·cases h
 ·obtain ⟨e1,e2,e3,e4,e5⟩:=YA h
  exact ⟨e3,e4,fun hh=>⟨by rw [← e5];exact hh,[],by rw [e1];rfl⟩⟩
 ·split at h
  ·split at h
   ·split at h
    ·cases h
    rename_i rc hrc
    obtain ⟨e1,e2,e3,e4⟩:=EJ h
    refine ⟨e2,e3,fun hh=>?_⟩
    obtain ⟨h1,h2⟩:=e4 hh
    refine ⟨h1,?_⟩
    rw [e1]
    unfold RC.heap
    split
    ·rename_i hf hfe
     exact hy _ _ _ _ _ _ _ rc hrc h2 _ hfe
    ·exact ⟨rc.up,rfl⟩
   split at h
   ·cases h
   split at h
   ·cases h
   rename_i rc hrc
   obtain ⟨e1,e2,e3,e4⟩:=EJ h
   refine ⟨e2,e3,fun hh=>?_⟩
   obtain ⟨h1,h2⟩:=e4 hh
   refine ⟨h1,?_⟩
   rw [e1]
   unfold RC.heap
   split
   ·rename_i hf hfe
    exact hc _ _ _ _ _ _ _ rc hrc h2 _ hfe
   ·exact ⟨rc.up,rfl⟩
  ·split at h
   ·cases h
   obtain ⟨e1,e2,e3,e4⟩:=EJ h
   refine ⟨e2,e3,fun hh=>⟨(e4 hh).1,_,e1⟩⟩
theorem Er {cx:Cx} {call:Kj} (hc:XX call) {yc:Yz} (hy:ju yc) {ops:Array Oper} {base:Nat}:∀ (l:List Nat) (s s' : St),Y3 cx call yc ops base l s=some s' →
  s'.vis=s.vis∧s'.nr=s.nr∧(s'.sfx=true→s.sfx=true∧∃ new,s'.hp=new++s.hp)
 | [],s,s',h=>by
  simp only [Y3,jIj] at h;subst h
  exact ⟨rfl,rfl,fun hh=>⟨hh,[],rfl⟩⟩
 | i::l,s,s',h=>by
  simp only [Y3] at h
  split at h
  case h_2=>cases h
  rename_i s1 h1
  obtain ⟨a1,a2,a3⟩:=uo hc hy h1
  obtain ⟨b1,b2,b3⟩:=Er hc hy l s1 s' h
  refine ⟨b1.trans a1,b2.trans a2,fun hh=>?_⟩
  obtain ⟨c1,n1,c2⟩:=b3 hh
  obtain ⟨d1,n2,d2⟩:=a3 c1
  exact ⟨d1,n1++n2,by rw [c2,d2,List.append_assoc]⟩
theorem GO {ex:Code→St→Option (Ex×St)} (he:zQ ex) {cx:Cx} {f:FuncId} {args:List AV} {s s' : St} {x:AV} (h:U8 ex cx f args s=some (x,s')):s'.sfx=true→∃ new,s'.hp=new++s.hp:=by
 unfold U8 at h
 split at h
 ·cases h
 split at h
 ·cases h
 split at h
 ·cases h
 ·rename_i s1 _ hx
  obtain ⟨_,_,h3⟩:=he _ _ _ _ hx
  split at h
  ·simp only [jIj,jPj] at h;obtain ⟨rfl,rfl⟩:=h;exact fun hh=>(h3 hh).2
  ·simp only [jIj,jPj] at h;obtain ⟨rfl,rfl⟩:=h;exact fun hh=>(h3 hh).2
  ·cases h
 ·cases h
 ·cases h
theorem qL {H:List (Nat×Blk)} {nx:Nat} {x:AV} {s' : St} {rc:RC} (h:wO H nx x s'=some rc) :
  VU H nx=true∧rc={ val:=x,up:=[],full:=some s'.hp,nx:=s'.nx,ob:=s'.ob,orc:=s'.orc,sfx:=s'.sfx }:=by
 unfold wO at h
 split at h
 ·rename_i hb;simp only [jIj] at h;exact ⟨hb,h.symm⟩
 ·cases h
theorem EH {H:List (Nat×Blk)} {nx:Nat} {x:AV} {s' : St} {rc:RC} (h:XP H nx x s'=some rc) :
  ∃ b k,x=.own b k.ver∧s'.sfx=true∧KE H (s'.hp.length - H.length) s'.hp=true∧VU H nx=true∧look s'.hp b=some k∧look H b=none∧qQ k=true ∧
   rc={ val:=.own b k.ver,up:=[(b,k)],full:=none,nx,ob:=s'.ob,orc:=s'.orc,sfx:=true }:=by
 unfold XP at h
 split at h
 case h_2=>cases h
 rename_i b ver hc
 split at h
 case h_2=>cases h
 rename_i k hb hn
 split at h
 case h_2=>cases h
 rename_i hv
 simp only [jAj] at hv
 have hv2:=ZZ hv.2
 subst hv2
 simp only [jAj] at hc
 simp only [jIj] at h
 refine ⟨b,k,rfl,hc.1.1,hc.1.2,hc.2,hb,?_,hv.1,h.symm⟩
 cases hl:look H b with
 | none=>rfl
 | some k =>
  have:=VA.2 (show look H b≠none by rw [hl];simp)
  rw [hn] at this;cases this
theorem wT {H:List (Nat×Blk)} {nx:Nat} {x:AV} {s' : St} {rc:RC} (h:XP H nx x s'=some rc):VU H nx=true∧rc.ob=s'.ob:=by
 obtain ⟨_,_,_,_,_,h1,_,_,_,rfl⟩:=EH h
 exact ⟨h1,rfl⟩
theorem zP {ex:Code→St→Option (Ex×St)} {cx:Cx} {keepable:Bool} {H:List (Nat×Blk)} {nx:Nat} {sym:Bool} {orc:List Orc} {f:FuncId} {args:List AV} {rc:RC} (h:kX ex cx keepable H nx sym orc f args=some rc) :
    ∃ fn,cx.P.funcs[f]?=some fn ∧
      ((fn.body=none∧∃ vs v,allV args=some vs∧QV cx.P (callFunc f vs.toArray)=some (.value v)∧rc.val=.d (ofV v)∧rc.up=[]∧rc.full=none∧rc.sfx=true) ∨
       (fn.body.isSome=true∧∃ r ds fs,Kb H args=some (ds,fs)∧rc.val=.d r∧(rc.up=Qe H fs ∨ (rc.up=[]∧∃ v,r=.v v))∧rc.full=none∧(rc.ob=[Computes cx f ds r] ∨ ∃ g,cx.K f=some g∧g ds=some r)) ∨
       (fn.body.isSome=true∧VU H nx=true∧∃ o' x s',U8 ex cx f args { nt:=0,sym,tm:=[],hp:=H,nx,orc:=o',ob:=[],vis:=nx,sfx:=true }=some (x,s')∧rc.ob=s'.ob ∧
          ((rc.val=x∧rc.up=[]∧rc.full=some s'.hp∧rc.sfx=s'.sfx) ∨ (∃ y,yj H x s'=some y∧rc.val=y∧rc.up=[]∧rc.full=none) ∨ (XP H nx x s'=some rc))) ∨
       (fn.body.isSome=true∧∃ bo r cs' ks o',ze cx H nx f args bo r cs' ks o'=some rc)):=by
  unfold kX at h
  split at h
  · cases h
  rename_i fn hfn
  refine ⟨fn,hfn,?_⟩
  split at h
  · rename_i hb
    split at h
    case h_2=>cases h
    rename_i vs hvs
    split at h
    case h_2=>cases h
    rename_i v hv
    simp only [jIj] at h;subst h
    exact .inl ⟨hb,vs,v,hvs,hv,rfl,rfl,rfl,rfl⟩
  · rename_i bd hb
    have hbs:fn.body.isSome=true:=by rw [hb];rfl
    right
    split at h
    · split at h
      case h_2=>cases h
      rename_i ds fs hd
      simp only [jIj] at h;subst h
      exact .inl ⟨hbs,_,ds,fs,hd,rfl,.inl rfl,rfl,.inl rfl⟩
    · exact .inr (.inr ⟨hbs,_,_,_,_,_,h⟩)
    · split at h
      case h_3=>cases h
      rename_i x s' he
      obtain ⟨k1,k2⟩:=qL h
      subst k2
      exact .inr (.inl ⟨hbs,k1,_,x,s',he,rfl,.inl ⟨rfl,rfl,rfl,rfl⟩⟩)
      rename_i x s' he
      obtain ⟨k1,k2⟩:=wT h
      exact .inr (.inl ⟨hbs,k1,_,x,s',he,k2,.inr (.inr h)⟩)
    · split at h
      case h_2=>cases h
      rename_i ds fs hd
      simp only [jIj] at h;subst h
      exact .inl ⟨hbs,_,ds,fs,hd,rfl,.inr ⟨rfl,_,rfl⟩,rfl,.inl rfl⟩
    · split at h
      · rename_i rc' hk
        simp only [jIj] at h;subst h
        unfold Qcy at hk
        split at hk
        case h_2=>cases hk
        rename_i g0 hg hpop
        split at hk
        case h_2=>cases hk
        rename_i ds fs hd
        split at hk
        case h_2=>cases hk
        rename_i r0 hr0
        simp only [jIj] at hk;subst hk
        exact .inl ⟨hbs,_,ds,fs,hd,rfl,.inl rfl,rfl,.inr ⟨_,hg,hr0⟩⟩
      split at h
      case h_2=>cases h
      rename_i x s' hbn he
      right;left
      split at h
      · rename_i y _ hst
        simp only [jIj] at h;subst h
        exact ⟨hbs,hbn,_,x,s',he,rfl,.inr (.inl ⟨y,hst,rfl,rfl,rfl⟩)⟩
      · split at h
        · obtain ⟨k1,k2⟩:=qL h
          subst k2
          exact ⟨hbs,k1,_,x,s',he,rfl,.inl ⟨rfl,rfl,rfl,rfl⟩⟩
        · cases h
      · split at h
        · obtain ⟨k1,k2⟩:=qL h
          subst k2
          exact ⟨hbs,k1,_,x,s',he,rfl,.inl ⟨rfl,rfl,rfl,rfl⟩⟩
        · simp only [jIj] at h;subst h
          exact ⟨hbs,hbn,_,x,s',he,rfl,.inr (.inl ⟨_,by assumption,rfl,rfl,rfl⟩)⟩
        · split at h
          · cases h
          · obtain ⟨k1,k2⟩:=wT h
            exact ⟨hbs,k1,_,x,s',he,k2,.inr (.inr h)⟩
    · cases h
theorem Qam {cx:Cx} {H:List (Nat×Blk)} {nx:Nat} {f:FuncId} {args:List AV} {bo:Option Nat} {r:AV} {cs' : List OC} {ks:List Bool} {o' : List Orc} {rc:RC} (h:ze cx H nx f args bo r cs' ks o'=some rc):rc.full=none:=by
 unfold ze at h
 split at h
 case h_2=>cases h
 split at h
 ·split at h
  case h_2=>cases h
  split at h
  case h_2=>cases h
  split at h
  case h_2=>cases h
  split at h
  case h_2=>cases h
  split at h <;> (simp only [jIj] at h;subst h;rfl)
 ·split at h
  case h_2=>cases h
  simp only [jIj] at h;subst h;rfl
theorem zb {ex:Code→St→Option (Ex×St)} (he:zQ ex) (cx:Cx):XX (kX ex cx):=by
 intro keepable H nx sym orc f args rc h hs h' hf
 obtain ⟨fn,_,hc⟩:=zP h
 rcases hc with ⟨_,_,_,_,_,_,_,h1,_⟩ | ⟨_,_,_,_,_,_,_,h1,_⟩ | ⟨_,_,o',x,s',h1,_,h2⟩ | ⟨_,_,_,_,_,_,h4⟩
 case inr.inr.inr=>rw [Qam h4] at hf;cases hf
 ·rw [h1] at hf;cases hf
 ·rw [h1] at hf;cases hf
 ·rcases h2 with ⟨_,_,h3,h4⟩ | ⟨_,_,_,_,h3⟩ | h3
  ·rw [h3] at hf;cases hf
   exact GO he h1 (by rw [← h4];exact hs)
  ·rw [h3] at hf;cases hf
  ·obtain ⟨_,_,_,_,_,_,_,_,_,rfl⟩:=EH h3
   cases hf
theorem Qc0 (ops:Array Oper) (s:St):∃ new,(GC ops s).hp=new++s.hp:=by
 unfold GC
 split
 ·split
  ·rename_i pr _ kb _ _ _ _ _ _
   obtain ⟨new,hn⟩:=kp pr (Qe s.hp kb++s.hp)
   exact ⟨new++Qe s.hp kb,by rw [List.append_assoc];exact hn⟩
  ·exact ⟨[],rfl⟩
 ·exact ⟨_,rfl⟩
theorem XV (cx:Cx):∀ n,zQ (Z8 n cx):=by
 intro n
 induction n with
 | zero=>intro c s e s' h;simp [Z8] at h
 | succ n ih =>
  intro c s e s' h
  have hc:=zb ih cx
  cases c with
  | skip=>simp only [Z8,jIj,jPj] at h;obtain ⟨rfl,rfl⟩:=h;exact ⟨rfl,rfl,fun hh=>⟨hh,[],rfl⟩⟩
  | label l=>simp only [Z8,jIj,jPj] at h;obtain ⟨rfl,rfl⟩:=h;exact ⟨rfl,rfl,fun hh=>⟨hh,[],rfl⟩⟩
  | region id ops draw =>
   simp only [Z8,St.force_eq] at h
   split at h
   ·split at h
    case h_2=>cases h
    rename_i s1 hs1
    simp only [jIj,jPj] at h;obtain ⟨rfl,rfl⟩:=h
    (have hih:=Er hc (wo ih) _ _ _ hs1;exact hih)
   ·split at h
    case h_2=>cases h
    split at h
    case h_2=>cases h
    simp only [jIj,jPj] at h;obtain ⟨rfl,rfl⟩:=h
    refine ⟨rfl,rfl,fun hh=>⟨hh,?_⟩⟩
    obtain ⟨new,hn⟩:=Qc0 ops s
    rw [hn]
    exact ⟨_++new,by rw [List.append_assoc]⟩
  | seq a b =>
   simp only [Z8] at h
   split at h
   ·rename_i s1 hs1
    obtain ⟨a1,a2,a3⟩:=ih _ _ _ _ hs1
    obtain ⟨b1,b2,b3⟩:=ih _ _ _ _ h
    refine ⟨b1.trans a1,b2.trans a2,fun hh=>?_⟩
    obtain ⟨c1,n1,c2⟩:=b3 hh
    obtain ⟨d1,n2,d2⟩:=a3 c1
    exact ⟨d1,n1++n2,by rw [c2,d2,List.append_assoc]⟩
   ·(have hih:=ih _ _ _ _ h;exact hih)
  | cond x t e' =>
   simp only [Z8] at h
   split at h
   case h_2=>cases h
   split at h
   ·(have hih:=ih _ _ _ _ h;exact hih)
   ·(have hih:=ih _ _ _ _ h;exact hih)
   ·split at h
    ·(have hih:=ih _ _ _ _ h;exact hih)
    ·(have hih:=ih _ _ _ _ h;exact hih)
   ·cases h
  | block id body =>
   simp only [Z8] at h
   split at h
   ·rename_i i s1 hs1
    have:=ih _ _ _ _ hs1
    split at h
    ·simp only [jIj,jPj] at h;obtain ⟨rfl,rfl⟩:=h;exact this
    ·simp only [jIj,jPj] at h;obtain ⟨rfl,rfl⟩:=h;exact this
   ·(have hih:=ih _ _ _ _ h;exact hih)
  | scope body=>simp only [Z8] at h;(have hih:=ih _ _ _ _ h;exact hih)
  | loop body =>
   simp only [Z8] at h
   split at h
   ·split at h
    case h_2=>cases h
    simp only [jIj,jPj] at h;obtain ⟨rfl,rfl⟩:=h
    exact ⟨rfl,rfl,fun hh=>by cases hh⟩
   ·split at h
    ·rename_i s1 hs1
     obtain ⟨a1,a2,a3⟩:=ih _ _ _ _ hs1
     obtain ⟨b1,b2,b3⟩:=ih _ _ _ _ h
     refine ⟨b1.trans a1,b2.trans a2,fun hh=>?_⟩
     obtain ⟨c1,n1,c2⟩:=b3 hh
     obtain ⟨d1,n2,d2⟩:=a3 c1
     exact ⟨d1,n1++n2,by rw [c2,d2,List.append_assoc]⟩
    ·(have hih:=ih _ _ _ _ h;exact hih)
   ·cases h
  | rangeFunc f ps as bd =>
   simp only [Z8] at h
   split at h
   case h_2=>cases h
   rename_i g a0 b0 hrnd hcal hcond
   split at h
   case h_2=>cases h
   rename_i s2 hx
   split at h
   case h_3=>cases h
   all_goals simp only [jIj,jPj] at h;obtain ⟨rfl,rfl⟩:=h
   all_goals refine ⟨rfl,rfl,fun hh=>?_⟩
   all_goals simp only [jAj] at hh hcond
   all_goals (
    obtain ⟨new,hn⟩:=GO ih hx hh.2.2
    refine ⟨hh.2.1,(s.nx,.dead)::new.filter (fun p=>!(Nat.beq p.1 s.nx)),?_⟩
    simp only at hn
    have hk:s.hp.filter (fun p=>!(Nat.beq p.1 s.nx))=s.hp:=by
     refine List.filter_eq_self.2 fun p hp=>?_
     have:=List.all_eq_true.1 hcond.1 p hp
     simp only [Nat.blt_eq] at this
     cases hq:Nat.beq p.1 s.nx with
     | true=>have:=Nat.eq_of_beq_eq_true hq;omega
     | false=>rfl
    have hd:(!(Nat.beq s.nx s.nx))=false:=by simp
    simp only [hn,List.filter_append,List.cons_append]
    rw [List.filter_cons_of_neg (by simp),hk])
  | exit id=>simp only [Z8,jIj,jPj] at h;obtain ⟨rfl,rfl⟩:=h;exact ⟨rfl,rfl,fun hh=>⟨hh,[],rfl⟩⟩
  | ret=>simp only [Z8,jIj,jPj] at h;obtain ⟨rfl,rfl⟩:=h;exact ⟨rfl,rfl,fun hh=>⟨hh,[],rfl⟩⟩
  | _=>simp only [Z8] at h;cases h
def ExOK (cx:Cx) (ex:Code→St→Option (Ex×St)):Prop :=
 ∀ (c:Code) (s:St) (e:Ex) (s' : St),ex c s=some (e,s')→(∀ p,p∈s'.ob→p)→(∀ p,p∈s.ob→p) ∧
  ∀ (rr:Option Nat) (F:Nat→Prop) (ρ:Nat→Value) (a:Act) (w:World),(s.rnd=false→rr=none)→Sim cx F s ρ a w →
   wpR rr cx.P c (fun e' a' w'=>e'=U7 e∧After cx F s.vis s.nt s.hp ρ w a.defers s'.tm s'.hp a' w') a w
theorem qc:∀ (args:List AV) (n t:Nat),look (GN n args) (n+t)=args[t]?
 | [],n,t=>by simp [GN,look]
 | x::l,n,t=>by
  simp only [GN]
  cases t with
  | zero=>show look ((n,x)::GN (n+1) l) n=_;rw [Qd];rfl
  | succ t =>
   rw [Qc _ _ (by omega),show n+(t+1)=n+1+t from by omega,qc l (n+1) t];rfl
def resF (tmps:Array Value):ResultVar→Sem Value
 | .tmp t=>pure (tmps.getD t undef)
 | .cell b t=>do loadVar t (← asAddr (tmps.getD b undef))
theorem Qap (fn:Func) (tmps:Array Value):results fn tmps=(do let vs ← fn.results.mapM (resF tmps);pure (if h:vs.size=1 then vs[0] else .tuple vs)):=by
 unfold results
 exact congrArg (fun f:ResultVar→Sem Value=>(do let vs ← fn.results.mapM f;pure (if h:vs.size=1 then vs[0] else .tuple vs):Sem Value)) (by funext x;cases x <;> rfl)
def Qdg:List AV→AV
 | [x]=>x
 | l=>AV.norm (.tup l)
theorem KM {cx:Cx} {F:Nat→Prop} {hp:List (Nat×Blk)} {ρ:Nat→Value} {w:World} {a:Act} {tm:List (Nat×AV)} (h:HSim cx F hp ρ w) (ht:TSim F tm hp ρ a w):∀ (rs:List ResultVar) (xs:List AV),Y7 cx tm hp rs=some xs →
  ∃ vs:List Value,(rs.mapM (resF a.tmps)).run cx.P w=.ok vs w∧xs.length=vs.length ∧
   ∀ (i:Nat) (c:AV) (y:Value),xs[i]?=some c→vs[i]?=some y→VR w (MM F hp ρ) hp ρ c y
 | [],xs,hx=>by
  simp only [Y7,jIj] at hx;subst hx
  exact ⟨[],by simp,rfl,by simp⟩
 | .tmp t::l,xs,hx=>by
  simp only [Y7] at hx
  split at hx
  case h_2=>cases hx
  rename_i x r hl hr
  simp only [jIj] at hx;subst hx
  obtain ⟨vs,h1,h2,h3⟩:=KM h ht l r hr
  refine ⟨a.tmps.getD t undef::vs,by simp only [List.mapM_cons,resF,Sem.run_bind,Sem.run_pure,Result.andThen_ok,h1],by simp [h2],fun i c y hc hy=>?_⟩
  cases i with
  | zero=>simp only [List.getElem?_cons_zero,jIj] at hc hy;subst hc;subst hy;exact ht t x hl
  | succ i=>exact h3 i c y (by simpa using hc) (by simpa using hy)
 | .cell b t::l,xs,hx=>by
  simp only [Y7] at hx
  split at hx
  case h_2=>cases hx
  rename_i bb ver sz off s g r hl hs hg hr
  split at hx
  case h_2=>cases hx
  rename_i x hb
  split at hx
  case h_2=>cases hx
  rename_i y hy
  simp only [jIj] at hx;subst hx
  obtain ⟨vs,h1,h2,h3⟩:=KM h ht l r hr
  have hp':=ht b _ hl
  have hbl:UP false [] hp bb ver sz 0=some (x,[],[]):=by simp [UP,hb]
  have key:∀ pv,VR w (MM F hp ρ) hp ρ (.ptr bb ver sz 0 off) pv→∃ v,(do loadVar t (← asAddr pv):Sem Value).run cx.P w=.ok v w∧VR w (MM F hp ρ) hp ρ y v:=by
   intro pv hp'
   obtain ⟨v,v1,v2⟩:=wK h hp' hs hg hbl (by simp) hy
   have hpa:∃ ad,pv=.pointer (some ad):=by
    cases hp' with
    | ptr _ _ _ _ _ k _ hb' hv ho hh =>
     rw [hb] at hb';cases hb'
     obtain ⟨r0,_,rfl⟩:=hh (by simp only [Blk.ver] at hv ⊢;omega)
     exact ⟨_,rfl⟩
   obtain ⟨ad,rfl⟩:=hpa
   exact ⟨v,v1,v2⟩
  obtain ⟨v,v1,v2⟩:=key _ hp'
  refine ⟨v::vs,?_,by simp [h2],fun i c z hc hz=>?_⟩
  ·simp only [List.mapM_cons,resF,Sem.run_bind] at v1 ⊢
   rw [v1]
   simp only [Result.andThen_ok,h1,Sem.run_pure]
  ·cases i with
   | zero=>simp only [List.getElem?_cons_zero,jIj] at hc hz;subst hc;subst hz;exact v2
   | succ i=>exact h3 i c z (by simpa using hc) (by simpa using hz)
theorem uw {cx:Cx} {F:Nat→Prop} {hp:List (Nat×Blk)} {ρ:Nat→Value} {w:World} {a:Act} {tm:List (Nat×AV)} (h:HSim cx F hp ρ w) (ht:TSim F tm hp ρ a w) {fn:Func} {xs:List AV} (hx:Y7 cx tm hp fn.results.toList=some xs) :
  ∃ v,(results fn a.tmps).run cx.P w=.ok v w∧VR w (MM F hp ρ) hp ρ (Qdg xs) v:=by
 obtain ⟨vs,h1,h2,h3⟩:=KM h ht _ xs hx
 have hrun:(results fn a.tmps).run cx.P w=.ok (if h:vs.toArray.size=1 then vs.toArray[0] else .tuple vs.toArray) w:=by
  rw [Qap,Array.mapM_eq_mapM_toList]
  simp only [Sem.run_bind,Sem.run_map,h1,Result.andThen_ok,Sem.run_pure]
 clear hx h1
 match xs,vs,h2,h3,hrun with
 | [x],[v],_,h3,hrun=>exact ⟨v,by rw [hrun];rfl,h3 0 x v rfl rfl⟩
 | [],[],_,_,hrun =>
  refine ⟨.tuple #[],by rw [hrun];rfl,?_⟩
  have:=VR.tup (w:=w) (M:=MM F hp ρ) (hp:=hp) (ρ:=ρ) [] [] rfl (by simp)
  exact Yn this
 | x::y::l,v::u::m,hl,h3,hrun =>
  refine ⟨.tuple (v::u::m).toArray,by rw [hrun];simp,?_⟩
  have:=VR.tup (w:=w) (M:=MM F hp ρ) (hp:=hp) (ρ:=ρ) _ _ hl h3
  exact Yn this
theorem Zp (hp:List (Nat×Blk)) (b:Nat):∀ l:List Nat,¬ b∈l→look (Qe hp l++hp) b=look hp b
 | [],_=>rfl
 | q::l,hq=>by
  simp only [List.mem_cons,not_or] at hq
  simp only [Qe]
  split
  ·rw [List.cons_append,Qc _ _ (fun e=>hq.1 e.symm)];exact Zp hp b l hq.2
  ·split
   ·rw [List.cons_append,Qc _ _ (fun e=>hq.1 e.symm)];exact Zp hp b l hq.2
   ·exact Zp hp b l hq.2
  ·exact Zp hp b l hq.2
theorem K5 {H:List (Nat×Blk)}:∀ (new rest:List (Nat×Blk)),KE H new.length (new++rest)=true→∀ b,look H b≠none→look new b=none
 | [],_,_,_,_=>rfl
 | (k,x)::l,rest,h,b,hb=>by
  simp only [List.cons_append,List.length_cons,KE,jAj,Bool.not_eq_true'] at h
  have hne:k≠b:=by
   intro e;subst e
   have:=VA.2 hb
   rw [h.1] at this;cases this
  rw [Qc _ _ hne]
  exact K5 l rest h.2 b hb
theorem VD {H:List (Nat×Blk)} {nx:Nat} (h:VU H nx=true) {b:Nat} {k:Blk} (hb:look H b=some k):b < nx:=by
 obtain ⟨x,hx⟩:=KT (l:=H) (b:=b) (by rw [hb];simp)
 simp only [VU,List.all_eq_true] at h
 have:=h _ hx
 simpa using this
structure NoAsk (cx:Cx):Prop where
 ask:∀ (f:FuncId) (fn:Func),cx.P.funcs[f]?=some fn→fn.body.isSome=true→(fn.name == "runtime.NumGoroutine")=false
 known:∀ (f:FuncId) (g:jVj→Option D) (ds:jVj) (r:D),cx.K f=some g→g ds=some r→Computes cx f ds r
theorem GS {cx:Cx} (hN:NoAsk cx) {f:FuncId} {fn:Func} (hf:cx.P.funcs[f]?=some fn) (hb:fn.body.isSome=true) (args:Array Value) (w:World):(callFunc f args).run cx.P w=.ok (.enter f args) w:=by
 have h1:=hN.ask f fn hf hb
 have h2:fn.body.isNone=false:=by cases hh:fn.body with
  | none=>rw [hh] at hb;cases hb
  | some _=>rfl
 simp only [callFunc,Sem.run_bind,run_program,Result.andThen_ok,hf]
 simp [h1,h2]
def Xz:Obj→Prop
 | .loop _=>True
 | .deferred _=>True
 | _=>False
theorem ja {w:World} {dk:Nat} {o:Obj} (h:w.heap[dk]?=some o) (ho:Xz o) (o' : Obj) {p:Addr} {v:Value} (hp:w.cell? p=some v):(w.putObj dk o').cell? p=some v:=by
 have hne:p.block≠dk:=by
  intro e
  unfold World.cell? at hp
  rw [e,h] at hp
  cases o <;> simp_all [Xz]
 unfold World.cell? at hp ⊢
 rw [World.putObj_heap_other hne];exact hp
theorem DR.put {w:World} {dk:Nat} {o:Obj} (h:w.heap[dk]?=some o) (ho:Xz o) (o' : Obj) {M:Nat→Prop} {x:SX.D} {y:Value} (hx:DR w M x y):DR (w.putObj dk o') M x y:=by
 induction hx with
 | v x=>exact .v x
 | agg cs ys hl h ih=>exact .agg cs ys hl ih
 | tup cs ys hl h ih=>exact .tup cs ys hl ih
 | lst full sz es a cap blk off ys hf hcp ha hsz hw hd ih =>
  refine .lst full sz es a cap blk off ys hf hcp (fun hne=>?_) hsz (fun i e j c he hj=>?_) ih
  ·obtain ⟨h1,h2,h3⟩:=ha hne
   exact ⟨h1,h2,by rw [World.putObj_size];exact h3⟩
  ·obtain ⟨h1,h2⟩:=hw i e j c he hj
   exact ⟨ja h ho o' h1,h2⟩
 | fn f a b xs ys hl hm' h k ih ik=>exact .fn f a b xs ys hl hm' ih ik
 | ref x off blk o2 ys h1 h2 hw hd ih=>exact .ref x off blk o2 ys h1 (by rw [World.putObj_size];exact h2) (fun j c hj=>ja h ho o' (hw j c hj)) ih
theorem DAt.put {w:World} {dk:Nat} {o:Obj} (h:w.heap[dk]?=some o) (ho:Xz o) (o' : Obj) {M:Nat→Prop} {blk off:Nat} {x:SX.D} (hx:DAt w M blk off x):DAt (w.putObj dk o') M blk off x:=by
 obtain ⟨h1,h2,h3⟩:=hx
 refine ⟨h1,by rw [World.putObj_size];exact h2,fun j c hj=>?_⟩
 obtain ⟨y,hy,hd⟩:=h3 j c hj
 exact ⟨y,ja h ho o' hy,hd.put h ho o'⟩
theorem GAt.put {w:World} {dk:Nat} {o:Obj} (h:w.heap[dk]?=some o) (ho:Xz o) (o' : Obj) {M:Nat→Prop} {g:Nat} {x:SX.D} (hx:GAt w M g x):GAt (w.putObj dk o') M g x:=by
 obtain ⟨h1,cs,t,fz,h2,h3⟩:=hx
 have hne:g≠dk:=by
  intro e;subst e;rw [h] at h2;cases h2;exact ho
 exact ⟨h1.put h ho o',cs,t,fz,by rw [World.putObj_heap_other hne];exact h2,h3⟩
theorem VR.put {w:World} {dk:Nat} {o:Obj} (h:w.heap[dk]?=some o) (ho:Xz o) (o' : Obj) {M:Nat→Prop} {hp:List (Nat×Blk)} {ρ:Nat→Value} {x:AV} {y:Value} (hx:VR w M hp ρ x y):VR (w.putObj dk o') M hp ρ x y:=by
 induction hx with
 | d x y h'=>exact .d x y (h'.put h ho o')
 | agg cs ys hl h ih=>exact .agg cs ys hl ih
 | tup cs ys hl h ih=>exact .tup cs ys hl ih
 | dptr x off blk o2 h'=>exact .dptr x off blk o2 (h'.put h ho o')
 | ptr b ver sz i off k y hb hv ho h=>exact .ptr b ver sz i off k y hb hv ho h
 | own b ver k y hb hv ho h=>exact .own b ver k y hb hv ho h
 | sub b ver sz lo n k y hb hv ho h=>exact .sub b ver sz lo n k y hb hv ho h
 | fn f a b xs ys hl hm' h k ih ik=>exact .fn f a b xs ys hl hm' ih ik
 | junk y=>exact .junk y
theorem BlkR.put {w:World} {dk:Nat} {o:Obj} (h:w.heap[dk]?=some o) (ho:Xz o) (o' : Obj) {M:Nat→Prop} {hp:List (Nat×Blk)} {ρ:Nat→Value} {b:Nat} {k:Blk} (hk:(∃ ds,o=.deferred ds) ∨ E1 k=true) (hx:BlkR w M hp ρ b k):BlkR (w.putObj dk o') M hp ρ b k:=by
 have hne:∀ {r:Nat} {c:Array Value} {e:TypeId},w.heap[r]?=some (.cells c e (0,0))→r≠dk:=by
  intro r c e hr hh;subst hh;rw [h] at hr;cases hr;exact ho.elim
 cases k with
 | box x =>
  obtain ⟨r,e,v,cs,h1,h2,h3,h4⟩:=hx
  exact ⟨r,e,v,cs,h1,(World.putObj_heap_other (hne h2)).trans h2,h3,h4.put h ho o'⟩
 | row ver sz es =>
  rcases hx with ⟨h1,a,h2⟩ | ⟨r,c,e,cap,h1,h2,h3,h4,h5,h6⟩
  ·exact .inl ⟨h1,a,h2⟩
  refine .inr ⟨r,c,e,cap,h1,h2,h3,(World.putObj_heap_other (hne h4)).trans h4,h5,fun i d j a hd hj=>?_⟩
  obtain ⟨y,y1,y2,y3⟩:=h6 i d j a hd hj
  exact ⟨y,y1,y2,y3.put h ho o'⟩
 | frozen ver sz es=>exact DR.put h ho o' hx
 | virt ver sz es=>exact DR.put h ho o' hx
 | loop rdy tm ps as bd nt =>
  rcases hk with ⟨ds,rfl⟩ | hk
  ·obtain ⟨l,rc,h1,h3,h4,h5,h6,h7,h8,h9,h10⟩:=hx
   have hl:l≠dk:=by intro e;subst e;rw [h] at h3;cases h3
   exact ⟨l,rc,h1,(World.putObj_heap_other hl).trans h3,h4,h5,h6,h7,h8,h9,fun t x hx=>(h10 t x hx).put h ho o'⟩
  ·cases hk
 | mp es =>
  obtain ⟨r,es',c,h1,h2,h3⟩:=hx
  have hr:r≠dk:=by intro e;subst e;rw [h] at h2;cases h2;exact ho.elim
  refine ⟨r,es',c,h1,(World.putObj_heap_other hr).trans h2,?_⟩
  have key:∀ {es:List SX.D} {l:List MapEntry},MR w M es l→MR (w.putObj dk o') M es l:=by
   intro es
   induction es with
   | nil=>intro l hm;cases l with
    | nil=>trivial
    | cons e l=>exact hm.elim
   | cons d es ih=>intro l hm;cases l with
    | nil=>exact hm.elim
    | cons e l =>
     obtain ⟨⟨x,hx,hv⟩,h4⟩:=hm
     exact ⟨⟨x,hx,hv.put h ho o'⟩,ih h4⟩
  exact key h3
 | it s p =>
  obtain ⟨r,h1,h2⟩:=hx
  have hr:r≠dk:=by intro e;subst e;rw [h] at h2;cases h2;exact ho.elim
  exact ⟨r,h1,(World.putObj_heap_other hr).trans h2⟩
 | left e =>
  rcases hk with ⟨ds,rfl⟩ | hk
  ·obtain ⟨l,rc,h1,h3,h4⟩:=hx
   have hl:l≠dk:=by intro e;subst e;rw [h] at h3;cases h3
   exact ⟨l,rc,h1,(World.putObj_heap_other hl).trans h3,h4⟩
  ·cases hk
 | fbox x =>
  obtain ⟨r,h1,h2⟩:=hx
  exact ⟨r,h1,h2.put h ho o'⟩
 | dead=>trivial
theorem HSim.put {cx:Cx} {F:Nat→Prop} {hp:List (Nat×Blk)} {ρ:Nat→Value} {w:World} {dk:Nat} {o:Obj} (h:w.heap[dk]?=some o) (ho:Xz o) (hd:∃ ds,o=.deferred ds) (o' : Obj) (hs:HSim cx F hp ρ w):HSim cx F hp ρ (w.putObj dk o') :=
 ⟨fun b k hb=>(hs.blk b k hb).put h ho o' (.inl hd),hs.inj,hs.forb,fun r hr=>by rw [World.putObj_size];exact hs.bnd r hr,fun g x hg=>(hs.glob g x hg).put h ho o'⟩
theorem HSim.mut_cells {cx:Cx} {F:Nat→Prop} {hp:List (Nat×Blk)} {ρ:Nat→Value} {w:World} (hs:HSim cx F hp ρ w) {r:Nat} (hr:Mut hp ρ r):∃ o,w.heap[r]?=some o∧∀ ds,o≠.deferred ds:=by
 obtain ⟨b,k,hb,hk,hr⟩:=hr
 have:=hs.blk b k hb
 cases k with
 | box x =>
  obtain ⟨r',e,v,cs,h1,h2,_⟩:=this
  rw [h1] at hr;cases hr;exact ⟨_,h2,nofun⟩
 | row ver sz es =>
  rcases this with ⟨_,a,h2⟩ | ⟨r',c,e,cap,h1,h2,_,h3,_⟩
  ·rw [h2,Wk] at hr;cases hr
  ·rw [h1,Zl h2.2] at hr;cases hr;exact ⟨_,h3,nofun⟩
 | mp es =>
  obtain ⟨r',es',c,h1,h2,_⟩:=this
  rw [h1] at hr;cases hr;exact ⟨_,h2,nofun⟩
 | it s p =>
  obtain ⟨r',h1,h2⟩:=this
  rw [h1] at hr;cases hr;exact ⟨_,h2,nofun⟩
 | frozen _ _ _=>cases hk
 | virt _ _ _=>cases hk
 | loop _ _ _ _ _ _ =>
  obtain ⟨l,rc,h1,h2,_⟩:=this
  rw [h1] at hr;cases hr;exact ⟨_,h2,nofun⟩
 | fbox _=>cases hk
 | left _ =>
  obtain ⟨l,rc,h1,h2,_⟩:=this
  rw [h1] at hr;cases hr;exact ⟨_,h2,nofun⟩
 | dead=>cases hk
theorem DfTo.trans {cx:Cx} {F:Nat→Prop} {vis:Nat} {w w1 w2:World} {hp1 hp2:List (Nat×Blk)} {ρ1 ρ2:Nat→Value} {ds0 ds1 ds2:List Deferred} (hw:w.heap.size≤w1.heap.size) (hs:HSim cx F hp1 ρ1 w1) (hst:StepsV vis hp1 ρ1 w1 hp2 ρ2 w2)
  (h1:DfTo w ds0 w1 ds1) (h2:DfTo w1 ds1 w2 ds2):DfTo w ds0 w2 ds2:=by
 obtain ⟨n1,rfl,nd1,k1⟩:=h1
 obtain ⟨n2,rfl,nd2,k2⟩:=h2
 refine ⟨n2++n1,by simp,?_,fun dk hD=>?_⟩
 ·refine List.nodup_append.2 ⟨nd2,nd1,fun a ha b hb hab=>?_⟩
  subst hab
  have:=(k2 a ha).1
  have h3:=(k1 a hb).2
  rw [Array.getElem?_eq_none (by omega)] at h3;cases h3
 ·rcases List.mem_append.1 hD with hD | hD
  ·obtain ⟨a1,a2⟩:=k2 dk hD;exact ⟨by omega,a2⟩
  ·obtain ⟨a1,a2⟩:=k1 dk hD
   have hlt:dk < w1.heap.size:=by
    rcases Nat.lt_or_ge dk w1.heap.size with h | h
    ·exact h
    ·rw [Array.getElem?_eq_none h] at a2;cases a2
   refine ⟨a1,?_⟩
   rw [hst.ext.same dk hlt (fun hm=>?_)]
   ·exact a2
   ·obtain ⟨c,e,hc⟩:=hs.mut_cells hm
    rw [a2] at e;cases e;exact hc _ rfl
theorem E4 {cx:Cx} {F:Nat→Prop} {tm:List (Nat×AV)} {hp:List (Nat×Blk)} {ρ:Nat→Value} {a:Act} {w0:World} {n:Nat} {fn:Func} {R:Ending→World→Prop}:∀ (Ds:List Nat) (w:World),HSim cx F hp ρ w→TSim F tm hp ρ a w→Ds.Nodup →
  (∀ dk,dk∈Ds→w0.heap.size≤dk∧w.heap[dk]?=some (.deferred (some [])))→w0.heap.size≤w.heap.size →
  (∀ w',HSim cx F hp ρ w'→TSim F tm hp ρ a w'→w'.os=w.os∧w'.tape=w.tape∧w'.output=w.output→w'.heap.size=w.heap.size→(∀ r,r < w0.heap.size→w'.heap[r]?=w.heap[r]?)→LeavesInM (fen none) n cx.P fn a.tmps R [] .returning w') →
  LeavesInM (fen none) n cx.P fn a.tmps R (Ds.map fun dk=>{ target:=.collected dk,args:=#[] }) .returning w
 | [],w,hs,ht,_,_,_,hk=>hk w hs ht ⟨rfl,rfl,rfl⟩ rfl fun _ _=>rfl
 | dk::Ds,w,hs,ht,hnd,hD,hw,hk=>by
  obtain ⟨h1,h2⟩:=hD dk jMj
  rw [List.nodup_cons] at hnd
  refine ⟨by simp,.inl ⟨dk,_,rfl,run_takeDeferred h2,?_⟩⟩
  refine E4 (w0:=w0) Ds _ (hs.put h2 trivial ⟨_,rfl⟩ _) (fun t x hx=>(ht t x hx).put h2 trivial _) hnd.2 (fun E hE=>?_) (by rw [World.putObj_size];exact hw) fun w' g1 g2 g3 g4 g5=>?_
  ·obtain ⟨k1,k2⟩:=hD E (List.mem_cons_of_mem _ hE)
   exact ⟨k1,by rw [World.putObj_heap_other (fun e=>by subst e;exact hnd.1 hE)];exact k2⟩
  ·refine hk w' g1 g2 g3 (by rw [g4,World.putObj_size]) fun r hr=>?_
   rw [g5 r hr,World.putObj_heap_other (by omega)]
theorem Kp {cx:Cx} {ex:Code→St→Option (Ex×St)} (hE:ExOK cx ex) (hS:zQ ex) {f:FuncId} {args:List AV} {s s1:St} {x:AV} (h:U8 ex cx f args s=some (x,s1)) (ho:∀ p,p∈s1.ob→p) :
  (∀ p,p∈s.ob→p)∧∀ (F:Nat→Prop) (ρ:Nat→Value) (w:World) (vs:List Value),HSim cx F s.hp ρ w→args.length=vs.length →
   (∀ (i:Nat) (c:AV) (y:Value),args[i]?=some c→vs[i]?=some y→VR w (MM F s.hp ρ) s.hp ρ c y) →
   Calls cx.P f vs.toArray w fun e w'=>∃ v,e=.returned v∧∃ ρ',HSim cx F s1.hp ρ' w'∧StepsV s.vis s.hp ρ w s1.hp ρ' w'∧VR w' (MM F s1.hp ρ') s1.hp ρ' x v:=by
 unfold U8 at h
 split at h
 ·cases h
 rename_i fn hfn
 split at h
 ·cases h
 rename_i body hbody
 split at h
 ·cases h
 ·rename_i e s2 hne hle hex
  have hle' : args.length≤fn.ntmps:=Nat.le_of_ble_eq_true hle
  have hs1:∃ xs,Y7 cx s2.tm s2.hp fn.results.toList=some xs∧x=Qdg xs∧s1.hp=s2.hp∧s1.ob=s2.ob:=by
   split at h
   ·rename_i y hy
    simp only [jIj,jPj] at h;obtain ⟨rfl,rfl⟩:=h
    exact ⟨[y],hy,rfl,rfl,rfl⟩
   ·rename_i l hne' hy
    simp only [jIj,jPj] at h;obtain ⟨rfl,rfl⟩:=h
    refine ⟨l,hy,?_,rfl,rfl⟩
    match l,hne' with
    | [],_=>rfl
    | [z],hh=>exact absurd rfl (hh z)
    | _::_::_,_=>rfl
   ·cases h
  obtain ⟨xs,hxs,hx,hhp,hob⟩:=hs1
  obtain ⟨e1,e2⟩:=hE _ _ _ _ hex (by rw [← hob];exact ho)
  refine ⟨e1,fun F ρ w vs hsim hl hv=>?_⟩
  refine (callsIn_wide (n:=0)).1 (callsIn_of_wp_marks (F:=fen none) hfn hbody trivial ?_)
  have hsim0:Sim cx F { s with nt:=fn.ntmps,tm:=GN 0 args } ρ { tmps:=vs.toArray++Array.replicate (fn.ntmps - vs.toArray.size) undef,defers:=[] } w:=by
   refine ⟨hsim,fun t y hy=>?_,?_⟩
   ·have:=qc args 0 t
    rw [Nat.zero_add] at this
    rw [this] at hy
    have hlt:t < vs.length:=by rw [← hl];exact (jGj hy).1
    have hvt:vs[t]?=some vs[t]:=by simp [hlt]
    have hg:(vs.toArray++Array.replicate (fn.ntmps - vs.toArray.size) undef).getD t undef=vs[t]:=by
     rw [Array.getD_eq_getD_getElem?,Array.getElem?_append_left (by simpa using hlt)];simp [hlt]
    show VR w _ _ _ y ((vs.toArray++Array.replicate (fn.ntmps - vs.toArray.size) undef).getD t undef)
    rw [hg]
    exact hv t y _ hy hvt
   ·simp;omega
  refine Vk (e2 none F ρ _ w (fun _=>rfl) hsim0) ?_ 0
  rintro e' a' w' ⟨rfl,ρ',g1,g2,g3,g4,g5⟩
  obtain ⟨new,g4,nd,hnew⟩:=g4
  simp only [List.append_nil] at g4
  have hpost:LeavesInM (fen none) 0 cx.P fn a'.tmps (fun e w'=>∃ v,e=.returned v∧∃ ρ',HSim cx F s1.hp ρ' w'∧StepsV s.vis s.hp ρ w s1.hp ρ' w'∧VR w' (MM F s1.hp ρ') s1.hp ρ' x v) a'.defers .returning w':=by
   rw [g4]
   refine E4 (w0:=w) new w' g1 g2 nd hnew g5.ext.size fun w'' q1 q2 q3 q4 q5=>?_
   obtain ⟨v,r1,r2⟩:=uw q1 q2 hxs
   refine ⟨v,r1,v,rfl,ρ',by rw [hhp];exact q1,?_,by rw [hhp,hx];exact r2⟩
   rw [hhp]
   refine ⟨⟨q3.1.trans g5.ext.os,q3.2.1.trans g5.ext.tape,q3.2.2.trans g5.ext.output,by rw [q4];exact g5.ext.size,fun r hr hm=>(q5 r hr).trans (g5.ext.same r hr hm)⟩,g5.mt,g5.grow⟩
  cases e with
  | normal=>exact hpost
  | ret=>exact hpost
  | exit id=>exact absurd rfl (hne id)
 ·cases h
 ·cases h
end Go.SX
