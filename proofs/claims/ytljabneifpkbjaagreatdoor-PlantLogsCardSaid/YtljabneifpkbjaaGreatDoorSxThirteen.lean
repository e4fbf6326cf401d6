/- Regions in the order of the text, calls: what they say. -/
import Derived.Test.YtljabneifpkbjaaGreatDoorSxTwelve
namespace Go.SX
section
variable {cx:Cx} {F:Nat→Prop} {hp:List (Nat×Blk)} {ρ:Nat→Value} {w:World} {a:Act} {sym:Bool} {orc:List Orc}
theorem QbT {M:Nat→Prop} {x:AV} {v:Value} (h:VR w M hp ρ x v):VR w M hp ρ (QcK x) v:=by
 cases x with
 | d y =>
  cases y with
  | ref y o =>
   cases h with
   | d _ _ hd =>
    obtain ⟨blk,o',rfl,h2⟩:=hd.ref_dat
    exact .dptr y o blk o' h2
  | _=>exact h
 | _=>exact h
theorem qT (h:HSim cx F hp ρ w) {tm:List (Nat×AV)} (ht:TSim F tm hp ρ a w) (x:Operand):VR w (MM F hp ρ) hp ρ (evA cx tm x) (a.eval x):=by
 cases x with
 | tmp t =>
  simp only [evA]
  split
  ·rename_i y hy;exact QbT (ht t y hy)
  ·exact .junk _
 | const v=>exact JW _ _ _ _ v
 | global g =>
  simp only [evA]
  split
  ·rename_i y hy
   exact .dptr y 0 g 0 (h.glob g y hy).1
  ·exact .junk _
 | func f=>exact .d _ _ (.fn _ [] [] [] [] rfl rfl (by simp) (by simp))
theorem KR {α:Type} (xs:Array α) (i:Nat):nth xs.toList i=xs[i]?:=by rw [ZR];simp
theorem UK {tm:List (Nat×AV)} (ht:TSim F tm hp ρ a w) {ops:Array Oper} {o:Oper} {b:Bool} (h:Ju ops tm o=some b):Region.wanted o (yielded ops a.tmps)=b:=by
 unfold Ju at h
 unfold Region.wanted
 split at h
 ·rename_i hg;rw [hg];simpa using h
 ·rename_i j want hg
  rw [hg]
  simp only
  rw [KR] at h
  split at h
  ·rename_i hj
   simp only [jIj] at h;subst h
   simp [yielded,hj]
  ·rename_i g hj
   split at h
   ·rename_i hd
    simp only [jIj] at h;subst h
    simp [yielded,hj,hd]
   ·rename_i d hd
    have key:∀ v,a.tmps.getD d undef=v→yielded ops a.tmps j=(match v with | .bool b=>some b | _=>none):=by
     intro v hv
     simp only [yielded,hj,jBj,hd]
     rw [Array.getD_eq_getD_getElem?] at hv
     cases hx:a.tmps[d]? with
     | none=>rw [hx] at hv;simp at hv;subst hv;rfl
     | some u=>rw [hx] at hv;simp at hv;subst hv;cases u <;> rfl
    split at h
    ·rename_i c hl
     simp only [jIj] at h;subst h
     have:=jy (ht d _ hl)
     rw [key _ this]
     simp only
     cases c <;> cases want <;> rfl
    ·rename_i c hl
     simp only [jIj] at h;subst h
     have:=jy (ht d _ hl)
     rw [key _ this]
     rfl
    ·rename_i c hl
     simp only [jIj] at h;subst h
     have hd:=ht d _ hl
     generalize hv:a.tmps.getD d undef=v at hd
     cases hd with
     | d _ _ hd =>
      cases hd with
      | tup=>rw [key _ hv];rfl
    ·cases h
theorem TSim.put {F:Nat→Prop} {tm:List (Nat×AV)} (ht:TSim F tm hp ρ a w) {t:Nat} {x:AV} {v:Value} (hx:VR w (MM F hp ρ) hp ρ x v) (hlt:t < a.tmps.size):TSim F ((t,x)::tm) hp ρ (a.put (some t) v) w:=by
 intro u y hy
 by_cases h:t=u
 ·subst h
  rw [Qd] at hy;cases hy
  simp only [Act.put]
  rw [Array.getD_eq_getD_getElem?,Array.getElem?_setIfInBounds,jTj rfl,jTj hlt]
  exact hx
 ·rw [Qc _ _ h] at hy
  simp only [Act.put]
  rw [Array.getD_eq_getD_getElem?,Array.getElem?_setIfInBounds,jFj h,← Array.getD_eq_getD_getElem?]
  exact ht u y hy
theorem uA (a:Act) (d:Option Tmp) (v:Value):(a.put d v).tmps.size=a.tmps.size:=by cases d <;> simp [Act.put]
theorem YX (a:Act) (d:Option Tmp) (v:Value):(a.put d v).defers=a.defers:=by cases d <;> rfl
theorem qE {s s' : St} {d:Option Tmp} {x:AV} {v:Value} (h:s.put d x=some s') (hs:Sim cx F s ρ a w) (hx:VR w (MM F s.hp ρ) s.hp ρ x v):Sim cx F s' ρ (a.put d v) w:=by
 unfold St.put at h
 split at h
 ·simp only [jIj] at h;subst h;exact hs
 ·rename_i t
  split at h <;> simp only [jIj,reduceCtorEq] at h
  rename_i hlt
  subst h
  have hlt' : t < s.nt:=by simpa using hlt
  exact ⟨hs.hs,hs.ts.put hx (by rw [hs.nt];exact hlt'),by rw [uA];exact hs.nt⟩
def _root_.Go.SX.St.nr (s:St):Nat×Bool:=(s.nt,s.rnd)
theorem E0 {a b:St} (h:a.nr=b.nr):a.nt=b.nt:=(Prod.mk.inj h).1
theorem yx {a b:St} (h:a.nr=b.nr):a.rnd=b.rnd:=(Prod.mk.inj h).2
theorem YA {s s' : St} {d:Option Tmp} {x:AV} (h:s.put d x=some s'):s'.hp=s.hp∧s'.ob=s.ob∧s'.vis=s.vis∧s'.nr=s.nr∧s'.sfx=s.sfx:=by
 unfold St.put at h
 split at h
 ·simp only [jIj] at h;subst h;exact ⟨rfl,rfl,rfl,rfl,rfl⟩
 ·split at h <;> simp only [jIj,reduceCtorEq] at h
  subst h;exact ⟨rfl,rfl,rfl,rfl,rfl⟩
theorem GJ {x y:AV} {ob:List Prop} {o' : List Orc} (h:litB sym orc x=some (y,ob,o')) (ho:∀ p,p∈ob→p) {M:Nat→Prop} {v:Value} (hx:VR w M hp ρ x v):VR w M hp ρ y v:=by
 unfold litB at h
 split at h
 ·rename_i b
  split at h
  ·simp only [jIj,jPj] at h;obtain ⟨rfl,rfl,rfl⟩:=h
   have:=ho _ jMj
   subst this;exact hx
  ·split at h <;> (simp only [jIj,jPj] at h;obtain ⟨rfl,rfl,rfl⟩:=h;exact hx)
  ·cases h
 ·simp only [jIj,jPj] at h;obtain ⟨rfl,rfl,rfl⟩:=h;exact hx
def jv (cx:Cx) (call:Kj):Prop :=
 ∀ (keepable:Bool) (H:List (Nat×Blk)) (nx:Nat) (sym:Bool) (orc:List Orc) (f:FuncId) (args:List AV) (rc:RC),call keepable H nx sym orc f args=some rc→(∀ p,p∈rc.ob→p) →
  ∀ (F:Nat→Prop) (ρ:Nat→Value) (w:World) (vs:List Value),HSim cx F H ρ w→args.length=vs.length →
  (∀ (i:Nat) (c:AV) (y:Value),args[i]?=some c→vs[i]?=some y→VR w (MM F H ρ) H ρ c y) →
  (∃ v,(callFunc f vs.toArray).run cx.P w=.ok (.value v) w∧rc.full=none∧rc.up=[]∧VR w (MM F H ρ) H ρ rc.val v) ∨
  ((callFunc f vs.toArray).run cx.P w=.ok (.enter f vs.toArray) w∧Calls cx.P f vs.toArray w fun e w'=>∃ v,e=.returned v∧∃ ρ',HSim cx F (rc.heap H) ρ' w'∧Steps1 H ρ w (rc.heap H) ρ' w'∧VR w' (MM F (rc.heap H) ρ') (rc.heap H) ρ' rc.val v)
def XX (call:Kj):Prop :=
 ∀ (keepable:Bool) (H:List (Nat×Blk)) (nx:Nat) (sym:Bool) (orc:List Orc) (f:FuncId) (args:List AV) (rc:RC),call keepable H nx sym orc f args=some rc→rc.sfx=true→∀ h,rc.full=some h→∃ new,h=new++H
theorem JI {o:Oper} {fv:Operand} {args:List Operand} (h:U2 o=some (fv,args)):∃ ats,o.op=.call { callee:=.value fv,args:=args.toArray,argTypes:=ats }:=by
 unfold U2 at h
 split at h
 ·rename_i f as ats hop
  simp only [jIj,jPj] at h;obtain ⟨rfl,rfl⟩:=h
  exact ⟨ats,by rw [hop]⟩
 ·cases h
theorem UO {M:Nat→Prop} {x:AV} {v:Value} {f:FuncId} {p q:List AV} (h:JH x=some (f,p,q)) (hx:VR w M hp ρ x v) :
  ∃ xs ys:List Value,v=.func (.func f) xs.toArray ys.toArray∧p.length=xs.length∧q.length=ys.length ∧
   (∀ (i:Nat) (c:AV) (y:Value),p[i]?=some c→xs[i]?=some y→VR w M hp ρ c y)∧(∀ (i:Nat) (c:AV) (y:Value),q[i]?=some c→ys[i]?=some y→VR w M hp ρ c y):=by
 have up:∀ (l:jVj) (ys:List Value),(∀ (i:Nat) (c:D) (y:Value),l[i]?=some c→ys[i]?=some y→DR w M c y)→∀ (i:Nat) (c:AV) (y:Value),(l.map AV.d)[i]?=some c→ys[i]?=some y→VR w M hp ρ c y:=by
  intro l ys hh i c y hc hy
  simp only [List.getElem?_map] at hc
  cases hl:l[i]? with
  | none=>rw [hl] at hc;cases hc
  | some d=>rw [hl] at hc;simp only [Option.map_some,jIj] at hc;subst hc;exact .d _ _ (hh i d y hl hy)
 unfold JH at h
 split at h
 ·simp only [jIj,jPj] at h;obtain ⟨rfl,rfl,rfl⟩:=h
  cases hx with
  | fn _ _ _ xs ys hl hm hh hk=>exact ⟨xs,ys,rfl,hl,hm,hh,hk⟩
 ·simp only [jIj,jPj] at h;obtain ⟨rfl,rfl,rfl⟩:=h
  cases hx with
  | d _ _ hx =>
  cases hx with
  | fn _ _ _ xs ys hl hm hh hk=>exact ⟨xs,ys,rfl,by simpa using hl,by simpa using hm,up _ _ hh,up _ _ hk⟩
 ·cases h
theorem Vf {o:Oper} {p:Operand×List Operand} (h:U2 o=some p):∀ c,o.op≠.defer c:=by
 obtain ⟨fv,args⟩:=p
 obtain ⟨ats,hop⟩:=JI h
 intro c hc;rw [hop] at hc;cases hc
theorem zN {cx:Cx} {sym:Bool} {orc:List Orc} {hp:List (Nat×Blk)} {name:Nat} {ev:Operand→AV} {o:Oper} {r:R} (h:aop cx sym orc hp name ev o=some r):∀ c,o.op≠.defer c:=by
 intro c hc
 unfold aop at h
 rw [hc] at h
 cases h
theorem jb {P:Program} {f:FuncId} {args:Array Value} {w:World} {R:Ending→World→Prop} {m:Nat} (r:Option Nat) (h:Calls P f args w R):CallsIn (fen r) m P f args w R:=by
 cases r with
 | none=>exact callsIn_wide.2 h
 | some l=>exact CallsIn.inRound l (callsIn_wide.2 h)
theorem qo {o:Oper} {fv:Operand} {args:List Operand} (hcp:U2 o=some (fv,args)) {f:FuncId} {xs ys:List Value} (hv:a.eval fv=.func (.func f) xs.toArray ys.toArray) (P:Program) (w:World) :
  (execOp a.eval o).run P w=(callFunc f (xs++args.map a.eval++ys).toArray).run P w:=by
 obtain ⟨ats,hop⟩:=JI hcp
 simp only [execOp,hop,resolve,hv,Deferred.ofValue,pure_bind,invoke]
 congr 2
 simp
theorem ET {M:Nat→Prop} {p m q:List AV} {xs ms ys:List Value} (h1:p.length=xs.length) (h2:m.length=ms.length) (h3:q.length=ys.length)
  (k1:∀ (i:Nat) (c:AV) (y:Value),p[i]?=some c→xs[i]?=some y→VR w M hp ρ c y) (k2:∀ (i:Nat) (c:AV) (y:Value),m[i]?=some c→ms[i]?=some y→VR w M hp ρ c y)
  (k3:∀ (i:Nat) (c:AV) (y:Value),q[i]?=some c→ys[i]?=some y→VR w M hp ρ c y) :
  (p++m++q).length=(xs++ms++ys).length∧∀ (i:Nat) (c:AV) (y:Value),(p++m++q)[i]?=some c→(xs++ms++ys)[i]?=some y→VR w M hp ρ c y:=by
 have app:∀ (p m:List AV) (xs ms:List Value),p.length=xs.length→(∀ (i:Nat) (c:AV) (y:Value),p[i]?=some c→xs[i]?=some y→VR w M hp ρ c y) →
   (∀ (i:Nat) (c:AV) (y:Value),m[i]?=some c→ms[i]?=some y→VR w M hp ρ c y)→∀ (i:Nat) (c:AV) (y:Value),(p++m)[i]?=some c→(xs++ms)[i]?=some y→VR w M hp ρ c y:=by
  intro p m xs ms hl hp' hm i c y hc hy
  by_cases h:i < p.length
  ·rw [List.getElem?_append_left h] at hc;rw [List.getElem?_append_left (by omega)] at hy;exact hp' i c y hc hy
  ·rw [List.getElem?_append_right (by omega)] at hc;rw [List.getElem?_append_right (by omega)] at hy;rw [hl] at hc;exact hm _ c y hc hy
 exact ⟨by simp;omega,app _ _ _ _ (by simp;omega) (app _ _ _ _ h1 k1 k2) k3⟩
theorem Yo {ops:Array Oper} {i:Nat} {o:Oper} {s s' : St} {x:AV} {hp' : List (Nat×Blk)} {nx:Nat} {orc:List Orc} {ob:List Prop} {sf:Bool} (h:GL ops i o s x hp' nx orc ob sf=some s') (ho:∀ p,p∈s'.ob→p) :
  (∀ p,p∈ob→p)∧(∀ p,p∈s.ob→p)∧s'.hp=hp'∧s'.vis=s.vis∧s'.nr=s.nr∧(s'.sfx=true→s.sfx=true∧sf=true) ∧
  ∀ (v:Value),HSim cx F hp' ρ w→TSim F s.tm hp' ρ a w→a.tmps.size=s.nt→VR w (MM F hp' ρ) hp' ρ x v→Sim cx F s' ρ (a.put o.dst v) w:=by
 unfold GL at h
 split at h
 ·split at h
  case h_2=>cases h
  rename_i y ob2 o2 hl
  obtain ⟨e1,e2,e3,e4,e5⟩:=YA h
  simp only at e1 e2 e3 e4 e5
  rw [e2] at ho
  refine ⟨fun p hp=>ho p (by simp [hp]),fun p hp=>ho p (by simp [hp]),e1,e3,e4,fun hh=>by rw [e5] at hh;simpa using hh,fun v h1 h2 h3 h5=>?_⟩
  exact qE h ⟨h1,h2,h3⟩ (GJ hl (fun p hp=>ho p (by simp [hp])) h5)
 ·obtain ⟨e1,e2,e3,e4,e5⟩:=YA h
  simp only at e1 e2 e3 e4 e5
  rw [e2] at ho
  refine ⟨fun p hp=>ho p (by simp [hp]),fun p hp=>ho p (by simp [hp]),e1,e3,e4,fun hh=>by rw [e5] at hh;simpa using hh,fun v h1 h2 h3 h5=>?_⟩
  exact qE h ⟨h1,h2,h3⟩ h5
def qw (cx:Cx) (yc:Yz):Prop :=
 ∀ (H:List (Nat×Blk)) (nx:Nat) (sym:Bool) (orc:List Orc) (b ver:Nat) (args:List AV) (rc:RC),yc H nx sym orc b ver args=some rc→(∀ p,p∈rc.ob→p) →
  ∀ (rr:Option Nat) (m:Nat) (F:Nat→Prop) (ρ:Nat→Value) (w:World) (vs:List Value),HSim cx F H ρ w→args.length=vs.length →
  (∀ (i:Nat) (c:AV) (y:Value),args[i]?=some c→vs[i]?=some y→VR w (MM F H ρ) H ρ c y) →
  (∃ k,look H b=some k∧ver=k.ver)∧∃ (l:Nat) (rc0:Loop),ρ b=.func (.yield l) #[] #[]∧w.heap[l]?=some (.loop rc0)∧rc0.params.size=vs.length ∧
   RoundIn (fen rr) m cx.P l rc0.fn ((rc0.params.zip vs.toArray).foldl (fun tmps (t,a)=>tmps.setIfInBounds t a) rc0.tmps) rc0.assign rc0.body w fun e w' =>
    ∃ v,e=.returned v∧∃ ρ',HSim cx F (rc.heap H) ρ' w'∧Steps1 H ρ w (rc.heap H) ρ' w'∧VR w' (MM F (rc.heap H) ρ') (rc.heap H) ρ' rc.val v
theorem wn {x:AV} {b ver:Nat} (h:wb x=some (b,ver)):x=.own b ver:=by
 unfold wb at h
 split at h
 ·simp only [jIj,jPj] at h;obtain ⟨rfl,rfl⟩:=h;rfl
 ·cases h
theorem jT {o:Oper} {fv:Operand} {args:List Operand} (hcp:U2 o=some (fv,args)) {l:Nat} (hv:a.eval fv=.func (.yield l) #[] #[]) (P:Program) (w:World) :
  (execOp a.eval o).run P w=(Instr.yield l (args.map a.eval).toArray).run P w:=by
 obtain ⟨ats,hop⟩:=JI hcp
 simp only [execOp,hop,resolve,hv,Deferred.ofValue,pure_bind,invoke]
 congr 2
 simp
theorem yk {rr:Option Nat} {m:Nat} {call:Kj} (hcall:jv cx call) {yc:Yz} (hyc:qw cx yc) {ops:Array Oper} {base:Nat} {Q:Exit→Act→World→Prop} (l:List Nat):∀ (s s' : St) (ρ:Nat→Value) (a:Act) (w:World),Y3 cx call yc ops base l s=some s'→(∀ p,p∈s'.ob→p) →
  Sim cx F s ρ a w→(∀ ρ' a' w',Sim cx F s' ρ' a' w'→Steps1 s.hp ρ w s'.hp ρ' w'→a'.defers=a.defers→Q .normal a' w')→wpOpsIn (fen rr) m cx.P ops Q l a w:=by
 induction l with
 | nil =>
  intro s s' ρ a w h ho hs hq
  simp only [Y3,jIj] at h;subst h
  exact hq ρ a w hs (Steps1.refl _ _ _) rfl
 | cons i l ih =>
  intro s s' ρ a w h ho hs hq
  simp only [Y3] at h
  split at h
  case h_2=>cases h
  rename_i s1 h1
  have hob:∀ {s s' : St},Y3 cx call yc ops base l s=some s'→(∀ p,p∈s'.ob→p)→∀ p,p∈s.ob→p:=by
   intro s s'
   clear ih h h1
   induction l generalizing s with
   | nil=>intro h ho;simp only [Y3,jIj] at h;subst h;exact ho
   | cons j l ihl =>
    intro h ho
    simp only [Y3] at h
    split at h
    case h_2=>cases h
    rename_i s2 h2
    have ho2:=ihl h ho
    unfold XJ at h2
    split at h2
    ·cases h2
    split at h2
    ·cases h2
    ·obtain ⟨_,e2,_⟩:=YA h2;rw [e2] at ho2;exact ho2
    ·split at h2
     ·split at h2
      ·split at h2
       ·cases h2
       exact (Yo (cx:=cx) (F:=F) (ρ:=ρ) (w:=w) (a:=a) h2 ho2).2.1
      split at h2
      ·cases h2
      split at h2
      ·cases h2
      exact (Yo (cx:=cx) (F:=F) (ρ:=ρ) (w:=w) (a:=a) h2 ho2).2.1
     ·split at h2
      ·cases h2
      exact (Yo (cx:=cx) (F:=F) (ρ:=ρ) (w:=w) (a:=a) h2 ho2).2.1
  have ho1:=hob h ho
  unfold XJ at h1
  rw [KR] at h1
  simp only [wpOpsIn]
  split at h1
  ·cases h1
  rename_i o hop
  rw [hop]
  simp only
  split at h1
  ·cases h1
  ·-- passed Uz
   rename_i hwn
   rw [UK hs.ts hwn]
   simp only [Bool.false_eq_true,if_false]
   obtain ⟨e1,_⟩:=YA h1
   refine ⟨fun _ _=>trivial,ih s1 s' ρ _ w h ho (qE h1 hs (.d _ _ (.v _))) fun ρ' a' w' hs' hst hdf=>hq ρ' a' w' hs' ?_ (hdf.trans (YX _ _ _))⟩
   rw [e1] at hst;exact hst
  ·rename_i hwn
   rw [UK hs.ts hwn]
   simp only [if_true]
   split at h1
   ·-- a call
    rename_i fv args hcp
    split at h1
    ·-- yield
     rename_i b ver hyo
     split at h1
     ·cases h1
     rename_i rc hrc
     have hev:=qT hs.hs hs.ts
     obtain ⟨l2,k2⟩:=JC hev args
     have hfs:=fun ρ' (a' : Act) w'=>Yo (cx:=cx) (F:=F) (ρ:=ρ') (w:=w') (a:=a') h1 ho1
     obtain ⟨⟨k,hk,hver⟩,ly,rc0,hρ,hl,hsz,hround⟩:=hyc _ _ _ _ _ _ _ rc hrc (hfs ρ a w).1 rr (m - 1) F ρ w _ hs.hs l2 k2
     have hfv:=hev fv
     rw [wn hyo] at hfv
     have hv:a.eval fv=.func (.yield ly) #[] #[]:=by
      generalize a.eval fv=y at hfv
      cases hfv with
      | own _ _ k' _ hb hv ho h =>
       rw [hk] at hb;cases hb
       rw [h hver,hρ]
     rw [Oper.wpIn,Oper.semAt_eq _ _ _ (Vf hcp),jT hcp hv,run_yield hl (by simpa using hsz.symm)]
     refine ⟨fun _ _=>trivial,?_⟩
     rw [Oper.uponIn_round]
     refine ⟨fun h=>(by cases h),hround.mono ?_⟩
     rintro e w' ⟨v,rfl,ρ',g1,g2,g3⟩
     obtain ⟨_,_,f3,_,_,_,f6⟩:=hfs ρ' a w'
     refine ih s1 s' ρ' _ w' h ho (f6 v g1 (fun t x hx=>g2.vr (hs.ts t x hx)) hs.nt g3) fun ρ'' a' w'' hs' hst hdf=>hq ρ'' a' w'' hs' ?_ (hdf.trans (YX _ _ _))
     rw [f3] at hst;exact g2.trans hst
    split at h1
    ·cases h1
    rename_i f p q hca
    split at h1
    ·cases h1
    rename_i rc hrc
    have hev:=qT hs.hs hs.ts
    obtain ⟨xs,ys,hv,l1,l3,k1,k3⟩:=UO hca (hev fv)
    obtain ⟨l2,k2⟩:=JC hev args
    obtain ⟨l4,k4⟩:=ET l1 l2 l3 k1 k2 k3
    have hfs:=fun ρ' (a' : Act) w'=>Yo (cx:=cx) (F:=F) (ρ:=ρ') (w:=w') (a:=a') h1 ho1
    have hres:=hcall _ _ _ _ _ _ _ rc hrc (hfs ρ a w).1 F ρ w _ hs.hs l4 k4
    rw [Oper.wpIn,Oper.semAt_eq _ _ _ (Vf hcp),qo hcp hv]
    refine ⟨fun _ _=>trivial,?_⟩
    rcases hres with ⟨v,r1,r2,r3,r4⟩ | ⟨r1,r2⟩
    ·rw [r1]
     simp only [Oper.uponIn]
     have hh:rc.heap s.hp=s.hp:=by rw [RC.heap,r2,r3];rfl
     obtain ⟨_,_,f3,_,_,_,f6⟩:=hfs ρ a w
     rw [hh] at f6 f3
     refine ih s1 s' ρ _ w h ho (f6 v hs.hs hs.ts hs.nt r4) fun ρ' a' w' hs' hst hdf=>hq ρ' a' w' hs' ?_ (hdf.trans (YX _ _ _))
     rw [f3] at hst;exact hst
    ·rw [r1]
     simp only [Oper.uponIn]
     refine ⟨fun h=>(by cases h),jb rr (r2.mono ?_)⟩
     rintro e w' ⟨v,rfl,ρ',g1,g2,g3⟩
     obtain ⟨_,_,f3,_,_,_,f6⟩:=hfs ρ' a w'
     refine ih s1 s' ρ' _ w' h ho (f6 v g1 (fun t x hx=>g2.vr (hs.ts t x hx)) hs.nt g3) fun ρ'' a' w'' hs' hst hdf=>hq ρ'' a' w'' hs' ?_ (hdf.trans (YX _ _ _))
     rw [f3] at hst;exact g2.trans hst
   ·-- another operation
    split at h1
    ·cases h1
    rename_i r hr
    have hfs:=fun ρ' (a' : Act) w'=>Yo (cx:=cx) (F:=F) (ρ:=ρ') (w:=w') (a:=a') h1 ho1
    obtain ⟨v,w',hrun,ρ',g1,g2,g3⟩:=kU hs.hs (fun _=>rfl) (qT hs.hs hs.ts) hr (hfs ρ a w).1
    obtain ⟨_,_,f3,_,_,_,f6⟩:=hfs ρ' a w'
    have hsim:=f6 v g1 (fun t x hx=>g2.vr (hs.ts t x hx)) hs.nt g3
    have hnext:wpOpsIn (fen rr) m cx.P ops Q l (a.put o.dst v) w':=by
     refine ih s1 s' ρ' _ w' h ho hsim fun ρ'' a' w'' hs' hst hdf=>hq ρ'' a' w'' hs' ?_ (hdf.trans (YX _ _ _))
     rw [f3] at hst;exact g2.trans hst
    unfold Oper.wpIn
    rw [Oper.semAt_eq _ _ _ (zN hr)]
    refine ⟨fun _ _=>trivial,?_⟩
    rcases hrun with hrun | ⟨hrun,rfl⟩
    ·rw [hrun];exact hnext
    ·rw [hrun];exact hnext
end
end Go.SX
