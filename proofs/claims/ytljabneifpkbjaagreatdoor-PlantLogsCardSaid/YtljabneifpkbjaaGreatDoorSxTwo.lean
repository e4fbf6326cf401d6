/- What abstract values, blocks and states stand for in the model's memory. -/
import Derived.Test.YtljabneifpkbjaaGreatDoorSxOne
namespace Go.SX
def Blk.live:Blk→Bool
 | .box _=>true
 | .row _ _ _=>true
 | .frozen _ _ _=>false
 | .virt _ _ _=>false
 | .loop _ _ _ _ _ _=>true
 | .mp _=>true
 | .it _ _=>true
 | .fbox _=>false
 | .left _=>true
 | .dead=>false
def Q9:Value→Option Nat
 | .pointer (some a)=>some a.block
 | .slice (some a) _ (_+1)=>some a.block
 | .map (some r)=>some r
 | .func (.yield l) _ _=>some l
 | _=>none
theorem Zl {a:Addr} {n c:Nat} (hc:0 < c):Q9 (.slice (some a) n c)=some a.block:=by
 cases c with
 | zero=>omega
 | succ c=>rfl
theorem Wk (a:Option Addr) (n:Nat):Q9 (.slice a n 0)=none:=by cases a <;> rfl
inductive DR (w:World) (M:Nat→Prop):D→Value→Prop
 | v (x:Value):DR w M (.v x) x
 | agg (cs:jVj) (ys:List Value) (hl:cs.length=ys.length)
   (h:∀ (i:Nat) (c:D) (y:Value),cs[i]?=some c→ys[i]?=some y→DR w M c y):DR w M (.agg cs) (.agg ys.toArray)
 | tup (cs:jVj) (ys:List Value) (hl:cs.length=ys.length)
   (h:∀ (i:Nat) (c:D) (y:Value),cs[i]?=some c→ys[i]?=some y→DR w M c y):DR w M (.tup cs) (.tuple ys.toArray)
 | lst (full:Bool) (sz:Nat) (es:jVj) (a:Option Addr) (cap blk off:Nat) (ys:Nat→Value)
   (hf:full=true→cap=es.length) (hc:es.length≤cap)
   (ha:es≠[]→a=some ⟨blk,off,none⟩∧¬ M blk∧blk < w.heap.size)
   (hs:∀ (i:Nat) (e:D),es[i]?=some e→e.cells.length=sz)
   (hw:∀ (i:Nat) (e:D) (j:Nat) (c:D),es[i]?=some e→e.cells[j]?=some c→w.cell? ⟨blk,off+(i * sz+j),none⟩=some (ys (i * sz+j))∧one (ys (i * sz+j))=true)
   (h:∀ (i:Nat) (e:D) (j:Nat) (c:D),es[i]?=some e→e.cells[j]?=some c→DR w M c (ys (i * sz+j))) :
   DR w M (.lst full sz es) (.slice a es.length cap)
 | fn (f:Fn) (a b:jVj) (xs ys:List Value) (hl:a.length=xs.length) (hm:b.length=ys.length)
   (h:∀ (i:Nat) (c:D) (y:Value),a[i]?=some c→xs[i]?=some y→DR w M c y)
   (k:∀ (i:Nat) (c:D) (y:Value),b[i]?=some c→ys[i]?=some y→DR w M c y):DR w M (.fn f a b) (.func f xs.toArray ys.toArray)
 | ref (x:D) (off blk o:Nat) (ys:Nat→Value) (hm:¬ M blk) (hb:blk < w.heap.size)
   (hw:∀ (j:Nat) (c:D),x.cells[j]?=some c→w.cell? ⟨blk,o+j,none⟩=some (ys j))
   (h:∀ (j:Nat) (c:D),x.cells[j]?=some c→DR w M c (ys j)):DR w M (.ref x off) (.pointer (some ⟨blk,o+off,none⟩))
def DAt (w:World) (M:Nat→Prop) (blk o:Nat) (x:D):Prop :=
 ¬ M blk∧blk < w.heap.size∧∀ (j:Nat) (c:D),x.cells[j]?=some c→∃ y,w.cell? ⟨blk,o+j,none⟩=some y∧DR w M c y
theorem DR.ref_dat {w:World} {M:Nat→Prop} {x:D} {off:Nat} {v:Value} (h:DR w M (.ref x off) v):∃ blk o,v=.pointer (some ⟨blk,o+off,none⟩)∧DAt w M blk o x:=by
 cases h with
 | ref _ _ blk o ys hm hb hw h=>exact ⟨blk,o,rfl,hm,hb,fun j c hj=>⟨ys j,hw j c hj,h j c hj⟩⟩
theorem DAt.ref {w:World} {M:Nat→Prop} {blk o:Nat} {x:D} (h:DAt w M blk o x) (off:Nat):DR w M (.ref x off) (.pointer (some ⟨blk,o+off,none⟩)):=by
 obtain ⟨h1,h2,h3⟩:=h
 have key:∀ j:Nat,∃ y:Value,∀ c,x.cells[j]?=some c→w.cell? ⟨blk,o+j,none⟩=some y∧DR w M c y:=by
  intro j
  cases hc:x.cells[j]? with
  | none=>exact ⟨undef,fun c h=>by cases h⟩
  | some c =>
   obtain ⟨y,hy⟩:=h3 j c hc
   exact ⟨y,fun c' h=>by cases h;exact hy⟩
 exact .ref x off blk o (fun j=>Classical.choose (key j)) h1 h2 (fun j c hj=>(Classical.choose_spec (key j) c hj).1) (fun j c hj=>(Classical.choose_spec (key j) c hj).2)
def GAt (w:World) (M:Nat→Prop) (g:Nat) (x:D):Prop :=
 DAt w M g 0 x∧∃ cs t fz,w.heap[g]?=some (.cells cs t fz)∧cs.size=x.cells.length
inductive VR (w:World) (M:Nat→Prop) (hp:List (Nat×Blk)) (ρ:Nat→Value):AV→Value→Prop
 | d (x:D) (y:Value) (h:DR w M x y):VR w M hp ρ (.d x) y
 | agg (cs:List AV) (ys:List Value) (hl:cs.length=ys.length)
   (h:∀ (i:Nat) (c:AV) (y:Value),cs[i]?=some c→ys[i]?=some y→VR w M hp ρ c y):VR w M hp ρ (.agg cs) (.agg ys.toArray)
 | tup (cs:List AV) (ys:List Value) (hl:cs.length=ys.length)
   (h:∀ (i:Nat) (c:AV) (y:Value),cs[i]?=some c→ys[i]?=some y→VR w M hp ρ c y):VR w M hp ρ (.tup cs) (.tuple ys.toArray)
 | dptr (x:D) (off blk o:Nat) (h:DAt w M blk o x):VR w M hp ρ (.dptr x off) (.pointer (some ⟨blk,o+off,none⟩))
 | ptr (b ver sz i off:Nat) (k:Blk) (y:Value) (hb:look hp b=some k) (hv:ver≤k.ver) (ho:one y=true)
   (h:ver=k.ver→∃ r,Q9 (ρ b)=some r∧y=.pointer (some ⟨r,i * sz+off,none⟩)):VR w M hp ρ (.ptr b ver sz i off) y
 | own (b ver:Nat) (k:Blk) (y:Value) (hb:look hp b=some k) (hv:ver≤k.ver) (ho:one y=true) (h:ver=k.ver→y=ρ b):VR w M hp ρ (.own b ver) y
 | sub (b ver sz lo n:Nat) (k:Blk) (y:Value) (hb:look hp b=some k) (hv:ver≤k.ver) (ho:one y=true)
   (h:ver=k.ver→∃ r c,Q9 (ρ b)=some r∧y=.slice (some ⟨r,lo * sz,none⟩) n c):VR w M hp ρ (.sub b ver sz lo n) y
 | fn (f:Fn) (a b:List AV) (xs ys:List Value) (hl:a.length=xs.length) (hm:b.length=ys.length)
   (h:∀ (i:Nat) (c:AV) (y:Value),a[i]?=some c→xs[i]?=some y→VR w M hp ρ c y)
   (k:∀ (i:Nat) (c:AV) (y:Value),b[i]?=some c→ys[i]?=some y→VR w M hp ρ c y):VR w M hp ρ (.fn f a b) (.func f xs.toArray ys.toArray)
 | junk (y:Value):VR w M hp ρ .junk y
def Mut (hp:List (Nat×Blk)) (ρ:Nat→Value) (r:Nat):Prop:=∃ b k,look hp b=some k∧k.live=true∧Q9 (ρ b)=some r
def MR (w:World) (M:Nat→Prop):jVj→List MapEntry→Prop
 | [],[]=>True
 | d::ds,e::l=>(∃ x,d=.tup [.v e.key,x]∧DR w M x e.val)∧MR w M ds l
 | _,_=>False
def EL:Ex→Code
 | .normal=>.skip
 | .exit id=>.exit id
 | .ret=>.ret
def BlkR (w:World) (M:Nat→Prop) (hp:List (Nat×Blk)) (ρ:Nat→Value) (b:Nat):Blk→Prop
 | .box x=>∃ r e v cs,ρ b=.pointer (some ⟨r,0,none⟩)∧w.heap[r]?=some (.cells v.cells e (0,0))∧x.cells=some cs∧VR w M hp ρ x v
 | .row _ sz es=>(es=[]∧∃ a,ρ b=.slice a 0 0) ∨ ∃ r c e cap,ρ b=.slice (some ⟨r,0,none⟩) es.length cap∧(es.length≤cap∧0 < cap)∧cap * sz≤c.size∧w.heap[r]?=some (.cells c e (0,0)) ∧
   (∀ (i:Nat) (d:D),es[i]?=some d→d.cells.length=sz) ∧
   ∀ (i:Nat) (d:D) (j:Nat) (a:D),es[i]?=some d→d.cells[j]?=some a→∃ y,c[i * sz+j]?=some y∧one y=true∧DR w M a y
 | .frozen _ sz es=>DR w M (.lst false sz es) (ρ b)
 | .virt _ sz es=>DR w M (.lst true sz es) (ρ b)
 | .loop rdy tm ps as bd nt=>∃ l rc,ρ b=.func (.yield l) #[] #[]∧w.heap[l]?=some (.loop rc)∧rc.state=(if rdy then .ready else .busy)∧rc.pending=none∧rc.params.toList=ps∧rc.assign=as∧rc.body=bd ∧
   rc.tmps.size=nt∧∀ (t:Nat) (x:AV),look tm t=some x→VR w M hp ρ x (rc.tmps.getD t undef)
 | .mp es=>∃ r es' c,ρ b=.map (some r)∧w.heap[r]?=some (.map es' c)∧MR w M es es'.toList
 | .it s p=>∃ r,ρ b=.pointer (some ⟨r,0,none⟩)∧w.heap[r]?=some (.stringIter s p)
 | .fbox x=>∃ r,ρ b=.pointer (some ⟨r,0,none⟩)∧DAt w M r 0 x
 | .left e=>∃ l rc,ρ b=.func (.yield l) #[] #[]∧w.heap[l]?=some (.loop rc)∧rc.state=.done∧rc.pending=some (EL e)
 | .dead=>True
def MM (F:Nat→Prop) (hp:List (Nat×Blk)) (ρ:Nat→Value) (r:Nat):Prop:=F r ∨ Mut hp ρ r
structure HSim (cx:Cx) (F:Nat→Prop) (hp:List (Nat×Blk)) (ρ:Nat→Value) (w:World):Prop where
 blk:∀ b k,look hp b=some k→BlkR w (MM F hp ρ) hp ρ b k
 inj:∀ b b' k k' r,look hp b=some k→look hp b'=some k'→k.live=true→k'.live=true→Q9 (ρ b)=some r→Q9 (ρ b')=some r→b=b'
 forb:∀ r,Mut hp ρ r→¬ F r
 bnd:∀ r,F r→r < w.heap.size
 glob:∀ g x,cx.G g=some x→GAt w (MM F hp ρ) g x
def TSim (F:Nat→Prop) (tm:List (Nat×AV)) (hp:List (Nat×Blk)) (ρ:Nat→Value) (a:Act) (w:World):Prop :=
 ∀ t x,look tm t=some x→VR w (MM F hp ρ) hp ρ x (a.tmps.getD t undef)
structure Sim (cx:Cx) (F:Nat→Prop) (s:St) (ρ:Nat→Value) (a:Act) (w:World):Prop where
 hs:HSim cx F s.hp ρ w
 ts:TSim F s.tm s.hp ρ a w
 nt:a.tmps.size=s.nt
structure Ext (w:World) (M:Nat→Prop) (w' : World):Prop where
 os:w'.os=w.os
 tape:w'.tape=w.tape
 output:w'.output=w.output
 size:w.heap.size≤w'.heap.size
 same:∀ r,r < w.heap.size→¬ M r→w'.heap[r]?=w.heap[r]?
def Computes (cx:Cx) (f:FuncId) (args:jVj) (r:D):Prop :=
 ∀ (w:World) (F:Nat→Prop) (vs:List Value),(∀ r,F r→r < w.heap.size)→(∀ g x,cx.G g=some x→GAt w F g x) →
  args.length=vs.length→(∀ (i:Nat) (c:D) (y:Value),args[i]?=some c→vs[i]?=some y→DR w F c y) →
  Calls cx.P f vs.toArray w fun e w'=>∃ y,e=.returned y∧DR w' F r y∧Ext w (fun _=>False) w'
def JX:Nat→List OC→List AV
 | _,[]=>[]
 | i,.dat x::l=>.d x::JX (i+1) l
 | i,.row _ _::l=>.own i 0::JX (i+1) l
def KQ:Nat→List OC→List (Nat×Blk)
 | _,[]=>[]
 | i,.dat _::l=>KQ (i+1) l
 | i,.row sz es::l=>(i,.row 0 sz es)::KQ (i+1) l
def Zt (cs:List OC):List (Nat×Blk):=(0,.box (AV.norm (.agg (JX 1 cs))))::KQ 1 cs
def VL:Option (List OC)→List (Nat×Blk)
 | none=>[]
 | some cs=>Zt cs
def ComputesO (cx:Cx) (f:FuncId) (args:List AV) (i:Option (List OC)) (r:AV) (cs:List OC) (ks:List Bool):Prop :=
 ∀ (w:World) (F:Nat→Prop) (ρ:Nat→Value) (vs:List Value),HSim cx F (VL i) ρ w→args.length=vs.length →
  (∀ (k:Nat) (c:AV) (y:Value),args[k]?=some c→vs[k]?=some y→VR w (MM F (VL i) ρ) (VL i) ρ c y) →
  Calls cx.P f vs.toArray w fun e w'=>∃ y ρ',e=.returned y∧HSim cx F (Zt cs) ρ' w'∧VR w' (MM F (Zt cs) ρ') (Zt cs) ρ' r y ∧
   Ext w (Mut (VL i) ρ) w'∧(∀ q,q < w.heap.size→Mut (Zt cs) ρ' q→Mut (VL i) ρ q)∧(i.isSome=true→ρ' 0=ρ 0∧∀ (j sz:Nat) (es:jVj),ks[j]?=some true→cs[j]?=some (.row sz es)→ρ' (j+1)=ρ (j+1))
theorem Ext.refl (w:World) (M:Nat→Prop):Ext w M w:=⟨rfl,rfl,rfl,jLj _,fun _ _ _=>rfl⟩
theorem Ext.trans {a b c:World} {M N:Nat→Prop} (h:Ext a M b) (k:Ext b N c) (hN:∀ r,r < a.heap.size→N r→M r):Ext a M c :=
 ⟨k.os.trans h.os,k.tape.trans h.tape,k.output.trans h.output,Nat.le_trans h.size k.size,fun r hr hm =>
  (k.same r (Nat.lt_of_lt_of_le hr h.size) fun hn=>hm (hN r hr hn)).trans (h.same r hr hm)⟩
theorem Ext.mono {a b:World} {M N:Nat→Prop} (h:Ext a M b) (hN:∀ r,M r→N r):Ext a N b :=
 ⟨h.os,h.tape,h.output,h.size,fun r hr hn=>h.same r hr fun hm=>hn (hN r hm)⟩
theorem Ext.cell {w w' : World} {M:Nat→Prop} (h:Ext w M w') {p:Addr} (hp:p.block < w.heap.size) (hm:¬ M p.block):w'.cell? p=w.cell? p:=by
 have:=h.same p.block hp hm
 unfold World.cell?
 rw [this]
theorem DR.ext {w w' : World} {M M' : Nat→Prop} (hs:w.heap.size≤w'.heap.size) (hc:∀ r,r < w.heap.size→¬ M r→w'.heap[r]?=w.heap[r]?)
  (hm:∀ r,r < w.heap.size→M' r→M r) {x:D} {y:Value} (h:DR w M x y):DR w' M' x y:=by
 induction h with
 | v x=>exact .v x
 | agg cs ys hl h ih=>exact .agg cs ys hl ih
 | tup cs ys hl h ih=>exact .tup cs ys hl ih
 | lst full sz es a cap blk off ys hf hcp ha hsz hw h ih =>
  refine .lst full sz es a cap blk off ys hf hcp ?_ hsz ?_ ih
  ·intro hne
   obtain ⟨h1,h2,h3⟩:=ha hne
   exact ⟨h1,fun hm'=>h2 (hm _ h3 hm'),Nat.lt_of_lt_of_le h3 hs⟩
  ·intro i e j c he hcj
   have hne:es≠[]:=by rintro rfl;simp at he
   obtain ⟨h1,h2,h3⟩:=ha hne
   obtain ⟨this,ho⟩:=hw i e j c he hcj
   refine ⟨?_,ho⟩
   unfold World.cell? at this ⊢
   simp only at this ⊢
   rw [hc _ h3 h2];exact this
 | fn f a b xs ys hl hm' h k ih ik=>exact .fn f a b xs ys hl hm' ih ik
 | ref x off blk o ys h1 h2 hw h ih =>
  refine .ref x off blk o ys (fun hh=>h1 (hm _ h2 hh)) (Nat.lt_of_lt_of_le h2 hs) (fun j c hj=>?_) ih
  have:=hw j c hj
  unfold World.cell? at this ⊢
  simp only at this ⊢
  rw [hc _ h2 h1];exact this
theorem MR.ext {w w' : World} {M M' : Nat→Prop} (hs:w.heap.size≤w'.heap.size) (hc:∀ r,r < w.heap.size→¬ M r→w'.heap[r]?=w.heap[r]?)
  (hm:∀ r,r < w.heap.size→M' r→M r):∀ {es:jVj} {l:List MapEntry},MR w M es l→MR w' M' es l
 | [],[],_=>trivial
 | _::_,_::_,h=>by
  obtain ⟨⟨x,hx,hv⟩,h2⟩:=h
  exact ⟨⟨x,hx,hv.ext hs hc hm⟩,MR.ext hs hc hm h2⟩
 | [],_::_,h=>h.elim
 | _::_,[],h=>h.elim
theorem DAt.ext {w w' : World} {M M' : Nat→Prop} (hs:w.heap.size≤w'.heap.size) (hc:∀ r,r < w.heap.size→¬ M r→w'.heap[r]?=w.heap[r]?)
  (hm:∀ r,r < w.heap.size→M' r→M r) {blk o:Nat} {x:D} (h:DAt w M blk o x):DAt w' M' blk o x:=by
 obtain ⟨h1,h2,h3⟩:=h
 refine ⟨fun h=>h1 (hm _ h2 h),Nat.lt_of_lt_of_le h2 hs,fun j c hj=>?_⟩
 obtain ⟨y,hy,hd⟩:=h3 j c hj
 refine ⟨y,?_,hd.ext hs hc hm⟩
 unfold World.cell? at hy ⊢
 simp only at hy ⊢
 rw [hc _ h2 h1];exact hy
theorem GAt.ext {w w' : World} {M M' : Nat→Prop} (hs:w.heap.size≤w'.heap.size) (hc:∀ r,r < w.heap.size→¬ M r→w'.heap[r]?=w.heap[r]?)
  (hm:∀ r,r < w.heap.size→M' r→M r) {g:Nat} {x:D} (h:GAt w M g x):GAt w' M' g x:=by
 obtain ⟨h1,cs,t,fz,h2,h3⟩:=h
 exact ⟨h1.ext hs hc hm,cs,t,fz,(hc _ h1.2.1 h1.1).trans h2,h3⟩
structure Grows (hp hp' : List (Nat×Blk)) (ρ ρ' : Nat→Value):Prop where
 dom:∀ b k,look hp b=some k→∃ k',look hp' b=some k'∧k.ver≤k'.ver∧(k.ver=k'.ver→ρ' b=ρ b)
theorem VR.ext {w w' : World} {M M' : Nat→Prop} {hp hp' : List (Nat×Blk)} {ρ ρ' : Nat→Value} (hs:w.heap.size≤w'.heap.size)
  (hc:∀ r,r < w.heap.size→¬ M r→w'.heap[r]?=w.heap[r]?) (hm:∀ r,r < w.heap.size→M' r→M r) (hg:Grows hp hp' ρ ρ')
  {x:AV} {y:Value} (h:VR w M hp ρ x y):VR w' M' hp' ρ' x y:=by
 induction h with
 | d x y h=>exact .d x y (h.ext hs hc hm)
 | agg cs ys hl h ih=>exact .agg cs ys hl ih
 | tup cs ys hl h ih=>exact .tup cs ys hl ih
 | dptr x off blk o h=>exact .dptr x off blk o (h.ext hs hc hm)
 | ptr b ver sz i off k y hb hv ho h =>
  obtain ⟨k',hk',hle,heq⟩:=hg.dom b k hb
  refine .ptr b ver sz i off k' y hk' (Nat.le_trans hv hle) ho fun he=>?_
  have hkk:k.ver=k'.ver:=by omega
  obtain ⟨r,hr,hy⟩:=h (by omega)
  exact ⟨r,by rw [heq hkk];exact hr,hy⟩
 | own b ver k y hb hv ho h =>
  obtain ⟨k',hk',hle,heq⟩:=hg.dom b k hb
  refine .own b ver k' y hk' (Nat.le_trans hv hle) ho fun he=>?_
  have hkk:k.ver=k'.ver:=by omega
  rw [heq hkk];exact h (by omega)
 | sub b ver sz lo n k y hb hv ho h =>
  obtain ⟨k',hk',hle,heq⟩:=hg.dom b k hb
  refine .sub b ver sz lo n k' y hk' (Nat.le_trans hv hle) ho fun he=>?_
  have hkk:k.ver=k'.ver:=by omega
  obtain ⟨r,c,hr,hy⟩:=h (by omega)
  exact ⟨r,c,by rw [heq hkk];exact hr,hy⟩
 | fn f a b xs ys hl hm' h k ih ik=>exact .fn f a b xs ys hl hm' ih ik
 | junk y=>exact .junk y
theorem Grows.refl (hp:List (Nat×Blk)) (ρ:Nat→Value):Grows hp hp ρ ρ:=⟨fun _ k h=>⟨k,h,jLj _,fun _=>rfl⟩⟩
theorem Grows.trans {h1 h2 h3:List (Nat×Blk)} {r1 r2 r3:Nat→Value} (a:Grows h1 h2 r1 r2) (b:Grows h2 h3 r2 r3):Grows h1 h3 r1 r3 :=
 ⟨fun n k hk=>by
  obtain ⟨k2,hk2,l2,e2⟩:=a.dom n k hk
  obtain ⟨k3,hk3,l3,e3⟩:=b.dom n k2 hk2
  exact ⟨k3,hk3,Nat.le_trans l2 l3,fun he=>by rw [e3 (by omega),e2 (by omega)]⟩⟩
end Go.SX
