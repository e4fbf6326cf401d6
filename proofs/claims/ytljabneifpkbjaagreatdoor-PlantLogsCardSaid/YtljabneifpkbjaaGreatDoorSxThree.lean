/- How the relation between states and memory goes on: new blocks, writes, freezing, sub-heaps. -/
import Derived.Test.YtljabneifpkbjaaGreatDoorSxTwo
set_option linter.unusedVariables false
namespace Go.SX
theorem Qd {α:Type} (b:Nat) (x:α) (l:List (Nat×α)):look ((b,x)::l) b=some x:=by
 have:Nat.beq b b=true:=Nat.beq_refl b
 simp only [look,this]
theorem Qc {α:Type} {b t:Nat} (x:α) (l:List (Nat×α)) (h:b≠t):look ((b,x)::l) t=look l t:=by
 have:Nat.beq b t=false:=by
  cases hb:Nat.beq b t with
  | false=>rfl
  | true=>exact absurd (Nat.eq_of_beq_eq_true hb) h
 simp only [look,this]
theorem Wl {α:Type} (l m:List (Nat×α)) (t:Nat):look (l++m) t=match look l t with | some x=>some x | none=>look m t:=by
 induction l with
 | nil=>rfl
 | cons p l ih =>
  obtain ⟨k,x⟩:=p
  by_cases h:k=t
  ·subst h;simp [Qd]
  ·rw [List.cons_append,Qc _ _ h,Qc _ _ h,ih]
structure Steps1 (hp:List (Nat×Blk)) (ρ:Nat→Value) (w:World) (hp' : List (Nat×Blk)) (ρ' : Nat→Value) (w' : World):Prop where
 ext:Ext w (Mut hp ρ) w'
 mt:∀ r,r < w.heap.size→Mut hp' ρ' r→Mut hp ρ r
 grow:Grows hp hp' ρ ρ'
theorem Steps1.refl (hp:List (Nat×Blk)) (ρ:Nat→Value) (w:World):Steps1 hp ρ w hp ρ w:=⟨Ext.refl _ _,fun _ _ h=>h,Grows.refl _ _⟩
theorem Steps1.trans {h1 h2 h3:List (Nat×Blk)} {r1 r2 r3:Nat→Value} {w1 w2 w3:World} (a:Steps1 h1 r1 w1 h2 r2 w2) (b:Steps1 h2 r2 w2 h3 r3 w3):Steps1 h1 r1 w1 h3 r3 w3 :=
 ⟨a.ext.trans b.ext fun r hr hm=>a.mt r hr hm,fun r hr hm=>a.mt r hr (b.mt r (Nat.lt_of_lt_of_le hr a.ext.size) hm),a.grow.trans b.grow⟩
theorem Steps1.vr {F:Nat→Prop} {hp hp' : List (Nat×Blk)} {ρ ρ' : Nat→Value} {w w' : World} (h:Steps1 hp ρ w hp' ρ' w') {x:AV} {y:Value}
  (hx:VR w (MM F hp ρ) hp ρ x y):VR w' (MM F hp' ρ') hp' ρ' x y :=
 hx.ext h.ext.size (fun r hr hm=>h.ext.same r hr fun k=>hm (.inr k)) (fun r hr hm=>hm.imp id (h.mt r hr)) h.grow
theorem Steps1.dr {F:Nat→Prop} {hp hp' : List (Nat×Blk)} {ρ ρ' : Nat→Value} {w w' : World} (h:Steps1 hp ρ w hp' ρ' w') {x:D} {y:Value}
  (hx:DR w (MM F hp ρ) x y):DR w' (MM F hp' ρ') x y :=
 hx.ext h.ext.size (fun r hr hm=>h.ext.same r hr fun k=>hm (.inr k)) (fun r hr hm=>hm.imp id (h.mt r hr))
theorem Steps1.dat {F:Nat→Prop} {hp hp' : List (Nat×Blk)} {ρ ρ' : Nat→Value} {w w' : World} (h:Steps1 hp ρ w hp' ρ' w') {b o:Nat} {x:D}
  (hx:DAt w (MM F hp ρ) b o x):DAt w' (MM F hp' ρ') b o x :=
 hx.ext h.ext.size (fun r hr hm=>h.ext.same r hr fun k=>hm (.inr k)) (fun r hr hm=>hm.imp id (h.mt r hr))
theorem Steps1.gat {F:Nat→Prop} {hp hp' : List (Nat×Blk)} {ρ ρ' : Nat→Value} {w w' : World} (h:Steps1 hp ρ w hp' ρ' w') {g:Nat} {x:D}
  (hx:GAt w (MM F hp ρ) g x):GAt w' (MM F hp' ρ') g x :=
 hx.ext h.ext.size (fun r hr hm=>h.ext.same r hr fun k=>hm (.inr k)) (fun r hr hm=>hm.imp id (h.mt r hr))
theorem BlkR.ext {w w' : World} {M M' : Nat→Prop} {hp hp' : List (Nat×Blk)} {ρ ρ' : Nat→Value} (hs:w.heap.size≤w'.heap.size)
  (hc:∀ r,r < w.heap.size→¬ M r→w'.heap[r]?=w.heap[r]?) (hm:∀ r,r < w.heap.size→M' r→M r) (hg:Grows hp hp' ρ ρ')
  {b:Nat} {k:Blk} (hρ:ρ' b=ρ b) (hk:k.live=true→∀ r,Q9 (ρ b)=some r→w'.heap[r]?=w.heap[r]?) (h:BlkR w M hp ρ b k):BlkR w' M' hp' ρ' b k:=by
 cases k with
 | box x =>
  obtain ⟨r,e,v,cs,h1,h2,h3,h4⟩:=h
  exact ⟨r,e,v,cs,hρ.trans h1,(hk rfl r (by rw [h1];rfl)).trans h2,h3,h4.ext hs hc hm hg⟩
 | row ver sz es =>
  rcases h with ⟨h1,a,h2⟩ | ⟨r,c,e,cap,h1,h2,h3,h4,h5,h6⟩
  ·exact .inl ⟨h1,a,hρ.trans h2⟩
  refine .inr ⟨r,c,e,cap,hρ.trans h1,h2,h3,(hk rfl r (by rw [h1];exact Zl h2.2)).trans h4,h5,fun i d j a hd hj=>?_⟩
  obtain ⟨y,hy,ho,hv⟩:=h6 i d j a hd hj
  exact ⟨y,hy,ho,hv.ext hs hc hm⟩
 | frozen ver sz es=>show DR w' M' _ (ρ' b);rw [hρ];exact DR.ext hs hc hm h
 | virt ver sz es=>show DR w' M' _ (ρ' b);rw [hρ];exact DR.ext hs hc hm h
 | loop rdy tm ps as bd nt =>
  obtain ⟨l,rc,h1,h3,h4,h5,h6,h7,h8,h9,h10⟩:=h
  exact ⟨l,rc,hρ.trans h1,(hk rfl l (by rw [h1];rfl)).trans h3,h4,h5,h6,h7,h8,h9,fun t x hx=>(h10 t x hx).ext hs hc hm hg⟩
 | mp es =>
  obtain ⟨r,es',c,h1,h2,h3⟩:=h
  exact ⟨r,es',c,hρ.trans h1,(hk rfl r (by rw [h1];rfl)).trans h2,h3.ext hs hc hm⟩
 | it s p =>
  obtain ⟨r,h1,h2⟩:=h
  exact ⟨r,hρ.trans h1,(hk rfl r (by rw [h1];rfl)).trans h2⟩
 | fbox x =>
  obtain ⟨r,h1,h2⟩:=h
  exact ⟨r,hρ.trans h1,h2.ext hs hc hm⟩
 | left e =>
  obtain ⟨l,rc,h1,h3,h4⟩:=h
  exact ⟨l,rc,hρ.trans h1,(hk rfl l (by rw [h1];rfl)).trans h3,h4⟩
 | dead=>trivial
theorem HSim.step {cx:Cx} {F:Nat→Prop} {hp hp' : List (Nat×Blk)} {ρ ρ' : Nat→Value} {w w' : World} (h:HSim cx F hp ρ w) (st:Steps1 hp ρ w hp' ρ' w')
  (hb:∀ b k,look hp' b=some k→(look hp b=some k∧ρ' b=ρ b∧(k.live=true→∀ r,Q9 (ρ b)=some r→w'.heap[r]?=w.heap[r]?)) ∨ BlkR w' (MM F hp' ρ') hp' ρ' b k)
  (inj:∀ b b' k k' r,look hp' b=some k→look hp' b'=some k'→k.live=true→k'.live=true→Q9 (ρ' b)=some r→Q9 (ρ' b')=some r→b=b')
  (forb:∀ r,Mut hp' ρ' r→¬ F r):HSim cx F hp' ρ' w' where
 blk b k hk:=by
  rcases hb b k hk with ⟨h1,h2,h3⟩ | h1
  ·exact (h.blk b k h1).ext st.ext.size (fun r hr hm=>st.ext.same r hr fun k=>hm (.inr k)) (fun r hr hm=>hm.imp id (st.mt r hr)) st.grow h2 h3
  ·exact h1
 inj:=inj
 forb:=forb
 bnd r hr:=Nat.lt_of_lt_of_le (h.bnd r hr) st.ext.size
 glob g x hx:=st.gat (h.glob g x hx)
def Vl (ρ:Nat→Value) (b:Nat) (v:Value):Nat→Value:=fun n=>if n=b then v else ρ n
theorem QG (ρ:Nat→Value) (b:Nat) (v:Value):Vl ρ b v b=v:=by simp [Vl]
theorem QU (ρ:Nat→Value) {b n:Nat} (v:Value) (h:n≠b):Vl ρ b v n=ρ n:=by simp [Vl,h]
theorem BlkR.root_lt {w:World} {M:Nat→Prop} {hp:List (Nat×Blk)} {ρ:Nat→Value} {b:Nat} {k:Blk} (h:BlkR w M hp ρ b k) (hk:k.live=true) {r:Nat}
  (hr:Q9 (ρ b)=some r):r < w.heap.size:=by
 cases k with
 | box x =>
  obtain ⟨r',e,v,cs,h1,h2,_⟩:=h
  rw [h1] at hr;simp only [Q9,jIj] at hr;subst hr
  rcases Nat.lt_or_ge r' w.heap.size with h | h
  ·exact h
  ·rw [Array.getElem?_eq_none h] at h2;cases h2
 | row ver sz es =>
  rcases h with ⟨_,a,h2⟩ | ⟨r',c,e,cap,h1,hcap,_,h2,_⟩
  ·rw [h2,Wk] at hr;cases hr
  rw [h1,Zl hcap.2] at hr;simp only [jIj] at hr;subst hr
  rcases Nat.lt_or_ge r' w.heap.size with h | h
  ·exact h
  ·rw [Array.getElem?_eq_none h] at h2;cases h2
 | frozen ver sz es=>cases hk
 | virt ver sz es=>cases hk
 | loop rdy tm ps as bd nt =>
  obtain ⟨l,rc,h1,h2,_⟩:=h
  rw [h1] at hr;simp only [Q9,jIj] at hr;subst hr
  rcases Nat.lt_or_ge l w.heap.size with h | h
  ·exact h
  ·rw [Array.getElem?_eq_none h] at h2;cases h2
 | fbox _=>cases hk
 | left e =>
  obtain ⟨l,rc,h1,h2,_⟩:=h
  rw [h1] at hr;simp only [Q9,jIj] at hr;subst hr
  rcases Nat.lt_or_ge l w.heap.size with h | h
  ·exact h
  ·rw [Array.getElem?_eq_none h] at h2;cases h2
 | mp es =>
  obtain ⟨r',es',c,h1,h2,_⟩:=h
  rw [h1] at hr;simp only [Q9,jIj] at hr;subst hr
  rcases Nat.lt_or_ge r' w.heap.size with h | h
  ·exact h
  ·rw [Array.getElem?_eq_none h] at h2;cases h2
 | it s p =>
  obtain ⟨r',h1,h2⟩:=h
  rw [h1] at hr;simp only [Q9,jIj] at hr;subst hr
  rcases Nat.lt_or_ge r' w.heap.size with h | h
  ·exact h
  ·rw [Array.getElem?_eq_none h] at h2;cases h2
 | dead=>cases hk
theorem HSim.mut_lt {cx:Cx} {F:Nat→Prop} {hp:List (Nat×Blk)} {ρ:Nat→Value} {w:World} (h:HSim cx F hp ρ w) {r:Nat} (hr:Mut hp ρ r):r < w.heap.size:=by
 obtain ⟨b,k,hk,hm,hr⟩:=hr
 exact (h.blk b k hk).root_lt hm hr
theorem Ext.alloc (w:World) (M:Nat→Prop) (o:Obj):Ext w M (w.alloc o) :=
 ⟨rfl,rfl,rfl,by simp,fun r hr _=>by show (w.heap.push o)[r]?=_;rw [Array.getElem?_push,jFj (by omega)]⟩
theorem Ext.drew (w:World) (M:Nat→Prop):Ext w M w.drew:=⟨rfl,rfl,rfl,jLj _,fun _ _ _=>rfl⟩
theorem WJ (w:World) (o:Obj):(w.alloc o).heap[w.heap.size]?=some o:=by
 show (w.heap.push o)[w.heap.size]?=_
 simp
theorem HSim.freshO {cx:Cx} {F:Nat→Prop} {hp:List (Nat×Blk)} {ρ:Nat→Value} {w:World} (h:HSim cx F hp ρ w) {b:Nat} {k:Blk} {v:Value} (o:Obj)
  (hv:∀ r,Q9 v=some r→r=w.heap.size) (hold:∀ k0,look hp b=some k0→k0.ver < k.ver)
  (hk:∀ (hst:Steps1 hp ρ w ((b,k)::hp) (Vl ρ b v) (w.alloc o)),BlkR (w.alloc o) (MM F ((b,k)::hp) (Vl ρ b v)) ((b,k)::hp) (Vl ρ b v) b k) :
  HSim cx F ((b,k)::hp) (Vl ρ b v) (w.alloc o)∧Steps1 hp ρ w ((b,k)::hp) (Vl ρ b v) (w.alloc o):=by
 have hmut:∀ r,Mut ((b,k)::hp) (Vl ρ b v) r→r=w.heap.size ∨ Mut hp ρ r:=by
  rintro r ⟨n,k',hn,hm,hr⟩
  by_cases hnb:n=b
  ·subst hnb;rw [QG] at hr;exact .inl (hv _ hr)
  ·rw [Qc _ _ (Ne.symm hnb)] at hn;rw [QU _ _ hnb] at hr;exact .inr ⟨n,k',hn,hm,hr⟩
 have hst:Steps1 hp ρ w ((b,k)::hp) (Vl ρ b v) (w.alloc o):=by
  refine ⟨Ext.alloc _ _ _,fun r hr hm=>?_,⟨fun n k0 hn=>?_⟩⟩
  ·rcases hmut r hm with h | h
   ·omega
   ·exact h
  ·by_cases hnb:n=b
   ·subst hnb;exact ⟨k,Qd _ _ _,Nat.le_of_lt (hold k0 hn),fun he=>by have:=hold k0 hn;omega⟩
   ·exact ⟨k0,by rw [Qc _ _ (Ne.symm hnb)];exact hn,jLj _,fun _=>QU _ _ hnb⟩
 refine ⟨h.step hst (fun n k' hn=>?_) (fun n n' k1 k2 r h1 h2 m1 m2 r1 r2=>?_) (fun r hr hf=>?_),hst⟩
 ·by_cases hnb:n=b
  ·subst hnb;rw [Qd] at hn;cases hn;exact .inr (hk hst)
  ·rw [Qc _ _ (Ne.symm hnb)] at hn
   refine .inl ⟨hn,QU _ _ hnb,fun hm r hr=>?_⟩
   have:=(h.blk n k' hn).root_lt hm hr
   show (w.heap.push _)[r]?=_
   rw [Array.getElem?_push,jFj (by omega)]
 ·by_cases hn:n=b <;> by_cases hn' : n'=b
  ·rw [hn,hn']
  ·subst hn
   rw [QG] at r1
   have hv1:=hv _ r1
   rw [Qc _ _ (Ne.symm hn')] at h2;rw [QU _ _ hn'] at r2
   have:=(h.blk n' k2 h2).root_lt m2 r2
   omega
  ·subst hn'
   rw [QG] at r2
   have hv2:=hv _ r2
   rw [Qc _ _ (Ne.symm hn)] at h1;rw [QU _ _ hn] at r1
   have:=(h.blk n k1 h1).root_lt m1 r1
   omega
  ·rw [Qc _ _ (Ne.symm hn)] at h1;rw [QU _ _ hn] at r1
   rw [Qc _ _ (Ne.symm hn')] at h2;rw [QU _ _ hn'] at r2
   exact h.inj n n' k1 k2 r h1 h2 m1 m2 r1 r2
 ·rcases hmut r hr with h1 | h1
  ·have:=h.bnd r hf;omega
  ·exact h.forb r h1 hf
theorem HSim.fresh {cx:Cx} {F:Nat→Prop} {hp:List (Nat×Blk)} {ρ:Nat→Value} {w:World} (h:HSim cx F hp ρ w) {b:Nat} {k:Blk} {v:Value} (c:Array Value) (e:TypeId)
  (hv:∀ r,Q9 v=some r→r=w.heap.size) (hold:∀ k0,look hp b=some k0→k0.ver < k.ver)
  (hk:∀ (hst:Steps1 hp ρ w ((b,k)::hp) (Vl ρ b v) (w.alloc (.cells c e))),BlkR (w.alloc (.cells c e)) (MM F ((b,k)::hp) (Vl ρ b v)) ((b,k)::hp) (Vl ρ b v) b k) :
  HSim cx F ((b,k)::hp) (Vl ρ b v) (w.alloc (.cells c e))∧Steps1 hp ρ w ((b,k)::hp) (Vl ρ b v) (w.alloc (.cells c e)):=h.freshO (.cells c e) hv hold hk
theorem HSim.write {cx:Cx} {F:Nat→Prop} {hp:List (Nat×Blk)} {ρ:Nat→Value} {w w' : World} (h:HSim cx F hp ρ w) {b:Nat} {k0 k:Blk} {v:Value} {r:Nat}
  (hb:look hp b=some k0) (hm0:k0.live=true) (hr:Q9 (ρ b)=some r) (hv:Q9 v=some r) (hver:k0.ver < k.ver ∨ (k0.ver=k.ver∧v=ρ b))
  (hx:Ext w (fun n=>n=r) w')
  (hk:∀ (hst:Steps1 hp ρ w ((b,k)::hp) (Vl ρ b v) w'),BlkR w' (MM F ((b,k)::hp) (Vl ρ b v)) ((b,k)::hp) (Vl ρ b v) b k) :
  HSim cx F ((b,k)::hp) (Vl ρ b v) w'∧Steps1 hp ρ w ((b,k)::hp) (Vl ρ b v) w':=by
 have hmr:Mut hp ρ r:=⟨b,k0,hb,hm0,hr⟩
 have hmut:∀ q,Mut ((b,k)::hp) (Vl ρ b v) q→Mut hp ρ q:=by
  rintro q ⟨n,k',hn,hm,hq⟩
  by_cases hnb:n=b
  ·subst hnb;rw [QG,hv] at hq;cases hq;exact hmr
  ·rw [Qc _ _ (Ne.symm hnb)] at hn;rw [QU _ _ hnb] at hq;exact ⟨n,k',hn,hm,hq⟩
 have hst:Steps1 hp ρ w ((b,k)::hp) (Vl ρ b v) w':=by
  refine ⟨hx.mono fun q hq=>by rw [hq];exact hmr,fun q _ hm=>hmut q hm,⟨fun n k1 hn=>?_⟩⟩
  by_cases hnb:n=b
  ·subst hnb
   rw [hb] at hn;cases hn
   refine ⟨k,Qd _ _ _,by omega,fun he=>?_⟩
   rcases hver with hlt | ⟨_,hve⟩
   ·omega
   ·rw [QG];exact hve
  ·exact ⟨k1,by rw [Qc _ _ (Ne.symm hnb)];exact hn,jLj _,fun _=>QU _ _ hnb⟩
 refine ⟨h.step hst (fun n k' hn=>?_) (fun n n' k1 k2 q h1 h2 m1 m2 r1 r2=>?_) (fun q hq=>h.forb q (hmut q hq)),hst⟩
 ·by_cases hnb:n=b
  ·subst hnb;rw [Qd] at hn;cases hn;exact .inr (hk hst)
  ·rw [Qc _ _ (Ne.symm hnb)] at hn
   refine .inl ⟨hn,QU _ _ hnb,fun hm q hq=>?_⟩
   exact hx.same q ((h.blk n k' hn).root_lt hm hq) fun he=>hnb (h.inj n b k' k0 r hn hb hm hm0 (by rw [← he];exact hq) hr)
 ·have key:∀ n k1 q,look ((b,k)::hp) n=some k1→k1.live=true→Q9 (Vl ρ b v n)=some q→∃ k1',look hp n=some k1'∧k1'.live=true∧Q9 (ρ n)=some q:=by
   intro n k1 q hn hm hq
   by_cases hnb:n=b
   ·subst hnb;rw [QG,hv] at hq;cases hq;exact ⟨k0,hb,hm0,hr⟩
   ·rw [Qc _ _ (Ne.symm hnb)] at hn;rw [QU _ _ hnb] at hq;exact ⟨k1,hn,hm,hq⟩
  obtain ⟨k1',a1,a2,a3⟩:=key n k1 q h1 m1 r1
  obtain ⟨k2',b1,b2,b3⟩:=key n' k2 q h2 m2 r2
  exact h.inj n n' k1' k2' q a1 b1 a2 b2 a3 b3
theorem HSim.freeze1 {cx:Cx} {F:Nat→Prop} {hp:List (Nat×Blk)} {ρ:Nat→Value} {w:World} (h:HSim cx F hp ρ w) {b ver sz:Nat} {es:jVj}
  (hb:look hp b=some (.row ver sz es)) :
  HSim cx F ((b,.frozen ver sz es)::hp) ρ w∧Steps1 hp ρ w ((b,.frozen ver sz es)::hp) ρ w∧DR w (MM F ((b,.frozen ver sz es)::hp) ρ) (.lst false sz es) (ρ b):=by
 have hmut:∀ q,Mut ((b,.frozen ver sz es)::hp) ρ q→∃ n k,n≠b∧look hp n=some k∧k.live=true∧Q9 (ρ n)=some q:=by
  rintro q ⟨n,k',hn,hm,hq⟩
  by_cases hnb:n=b
  ·subst hnb;rw [Qd] at hn;cases hn;cases hm
  ·rw [Qc _ _ (Ne.symm hnb)] at hn;exact ⟨n,k',hnb,hn,hm,hq⟩
 have hst:Steps1 hp ρ w ((b,.frozen ver sz es)::hp) ρ w:=by
  refine ⟨Ext.refl _ _,fun q _ hm=>?_,⟨fun n k1 hn=>?_⟩⟩
  ·obtain ⟨n,k,_,h1,h2,h3⟩:=hmut q hm;exact ⟨n,k,h1,h2,h3⟩
  ·by_cases hnb:n=b
   ·subst hnb;rw [hb] at hn;cases hn;exact ⟨_,Qd _ _ _,jLj _,fun _=>rfl⟩
   ·exact ⟨k1,by rw [Qc _ _ (Ne.symm hnb)];exact hn,jLj _,fun _=>rfl⟩
 have hdr:DR w (MM F ((b,.frozen ver sz es)::hp) ρ) (.lst false sz es) (ρ b):=by
  rcases h.blk b _ hb with ⟨h1,a,h2⟩ | ⟨r,c,e,cap,h1,⟨h2,hcap⟩,h3,h4,h5,h6⟩
  ·rw [h1,h2]
   exact .lst false sz [] a 0 0 0 (fun _=>undef) (fun h=>by cases h) (jLj _) (fun h=>absurd rfl h) (fun i e h=>by simp at h) (fun i e j c h=>by simp at h) (fun i e j c h=>by simp at h)
  have hroot:Q9 (ρ b)=some r:=by rw [h1];exact Zl hcap
  have hlt:r < w.heap.size:=(h.blk b _ hb).root_lt rfl hroot
  rw [h1]
  refine .lst false sz es _ cap r 0 (fun n=>c.getD n undef) (fun h=>by cases h) h2 (fun _=>⟨rfl,?_,hlt⟩) h5 ?_ ?_
  ·rintro (hF | hM)
   ·exact h.forb r ⟨b,_,hb,rfl,hroot⟩ hF
   ·obtain ⟨n,k,hnb,g1,g2,g3⟩:=hmut r hM
    exact hnb (h.inj n b k _ r g1 hb g2 rfl g3 hroot)
  ·intro i d j a hd ha
   obtain ⟨y,hy,ho,_⟩:=h6 i d j a hd ha
   have he:c.getD (i * sz+j) undef=y:=by simp [Array.getD_eq_getD_getElem?,hy]
   simp only [he]
   refine ⟨?_,ho⟩
   simp only [World.cell?,h4,Nat.zero_add,Option.isSome_none]
   simp [hy]
  ·intro i d j a hd ha
   obtain ⟨y,hy,_,hv⟩:=h6 i d j a hd ha
   have:c.getD (i * sz+j) undef=y:=by simp [Array.getD_eq_getD_getElem?,hy]
   show DR w _ a (c.getD (i * sz+j) undef)
   rw [this]
   exact hst.dr hv
 refine ⟨h.step hst (fun n k' hn=>?_) (fun n n' k1 k2 q h1 h2 m1 m2 r1 r2=>?_) (fun q hq=>?_),hst,hdr⟩
 ·by_cases hnb:n=b
  ·subst hnb;rw [Qd] at hn;cases hn;exact .inr hdr
  ·rw [Qc _ _ (Ne.symm hnb)] at hn;exact .inl ⟨hn,rfl,fun _ _ _=>rfl⟩
 ·have key:∀ n k1,look ((b,Blk.frozen ver sz es)::hp) n=some k1→k1.live=true→look hp n=some k1:=by
   intro n k1 hn hm
   by_cases hnb:n=b
   ·subst hnb;rw [Qd] at hn;cases hn;cases hm
   ·rw [Qc _ _ (Ne.symm hnb)] at hn;exact hn
  exact h.inj n n' k1 k2 q (key n k1 h1 m1) (key n' k2 h2 m2) m1 m2 r1 r2
 ·obtain ⟨n,k,_,h1,h2,h3⟩:=hmut q hq;exact h.forb q ⟨n,k,h1,h2,h3⟩
theorem HSim.renew {cx:Cx} {F:Nat→Prop} {hp:List (Nat×Blk)} {ρ:Nat→Value} {w:World} (h:HSim cx F hp ρ w) {b ver sz:Nat} {a:Option Addr}
  (hb:look hp b=some (.row ver sz [])) (hv:ρ b=.slice a 0 0) :
  HSim cx F ((b,.row (ver+1) sz [])::hp) (Vl ρ b (.slice a 0 0)) w∧Steps1 hp ρ w ((b,.row (ver+1) sz [])::hp) (Vl ρ b (.slice a 0 0)) w:=by
 have hr:∀ n,Vl ρ b (.slice a 0 0) n=ρ n:=by
  intro n
  by_cases hn:n=b
  ·subst hn;rw [QG,hv]
  ·rw [QU _ _ hn]
 have hmut:∀ q,Mut ((b,.row (ver+1) sz [])::hp) (Vl ρ b (.slice a 0 0)) q→Mut hp ρ q:=by
  rintro q ⟨n,k',hn,hm,hq⟩
  rw [hr] at hq
  by_cases hnb:n=b
  ·subst hnb;rw [hv,Wk] at hq;cases hq
  ·rw [Qc _ _ (Ne.symm hnb)] at hn;exact ⟨n,k',hn,hm,hq⟩
 have hst:Steps1 hp ρ w ((b,.row (ver+1) sz [])::hp) (Vl ρ b (.slice a 0 0)) w:=by
  refine ⟨Ext.refl _ _,fun q _ hm=>hmut q hm,⟨fun n k1 hn=>?_⟩⟩
  by_cases hnb:n=b
  ·subst hnb;rw [hb] at hn;cases hn;exact ⟨_,Qd _ _ _,Nat.le_succ _,fun _=>hr _⟩
  ·exact ⟨k1,by rw [Qc _ _ (Ne.symm hnb)];exact hn,jLj _,fun _=>hr _⟩
 refine ⟨h.step hst (fun n k' hn=>?_) (fun n n' k1 k2 q h1 h2 m1 m2 r1 r2=>?_) (fun q hq=>h.forb q (hmut q hq)),hst⟩
 ·by_cases hnb:n=b
  ·subst hnb;rw [Qd] at hn;cases hn;exact .inr (.inl ⟨rfl,a,QG _ _ _⟩)
  ·rw [Qc _ _ (Ne.symm hnb)] at hn;exact .inl ⟨hn,hr _,fun _ _ _=>rfl⟩
 ·rw [hr] at r1 r2
  by_cases hn:n=b
  ·subst hn;rw [hv,Wk] at r1;cases r1
  ·by_cases hn' : n'=b
   ·subst hn';rw [hv,Wk] at r2;cases r2
   ·rw [Qc _ _ (Ne.symm hn)] at h1;rw [Qc _ _ (Ne.symm hn')] at h2
    exact h.inj n n' k1 k2 q h1 h2 m1 m2 r1 r2
theorem W0 {cx:Cx} {F:Nat→Prop} {hp hp' : List (Nat×Blk)} {ρ:Nat→Value} {w:World} (hl:∀ b,look hp' b=look hp b) (h:HSim cx F hp ρ w) :
  HSim cx F hp' ρ w∧Steps1 hp ρ w hp' ρ w:=by
 have hst:Steps1 hp ρ w hp' ρ w :=
  ⟨Ext.refl _ _,fun r _ ⟨b,k,h1,h2,h3⟩=>⟨b,k,(hl b) ▸ h1,h2,h3⟩,⟨fun b k hk=>⟨k,(hl b).trans hk,jLj _,fun _=>rfl⟩⟩⟩
 exact ⟨h.step hst (fun b k hk=>.inl ⟨(hl b) ▸ hk,rfl,fun _ _ _=>rfl⟩) (fun b b' k k' r h1 h2=>h.inj b b' k k' r ((hl b) ▸ h1) ((hl b') ▸ h2))
  (fun r ⟨b,k,h1,h2,h3⟩=>h.forb r ⟨b,k,(hl b) ▸ h1,h2,h3⟩),hst⟩
end Go.SX
