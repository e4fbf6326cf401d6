/- Objects: calls that are told of a variable of the run's own, and of the rows that it holds. -/
import Derived.Test.YtljabneifpkbjaaGreatDoorSxTwelve
namespace Go.SX
theorem Va:∀ (cs:List OC) (i j:Nat),(JX i cs)[j]?=match cs[j]? with
  | none=>none
  | some (.dat x)=>some (.d x)
  | some (.row _ _)=>some (.own (i+j) 0)
 | [],i,j=>by simp [JX]
 | .dat x::l,i,0=>by simp [JX]
 | .row s e::l,i,0=>by simp [JX]
 | .dat x::l,i,j+1=>by
  simp only [JX,List.getElem?_cons_succ]
  rw [Va l (i+1) j,show i+1+j=i+(j+1) by omega]
 | .row s e::l,i,j+1=>by
  simp only [JX,List.getElem?_cons_succ]
  rw [Va l (i+1) j,show i+1+j=i+(j+1) by omega]
theorem UU:∀ (cs:List OC) (i:Nat),(JX i cs).length=cs.length
 | [],_=>rfl
 | .dat x::l,i=>by simp [JX,UU l]
 | .row s e::l,i=>by simp [JX,UU l]
theorem Jz:∀ (cs:List OC) (i n:Nat) (k:Blk),look (KQ i cs) n=some k↔∃ j sz es,n=i+j∧cs[j]?=some (.row sz es)∧k=.row 0 sz es
 | [],i,n,k=>by simp [KQ,look]
 | .dat x::l,i,n,k=>by
  simp only [KQ]
  rw [Jz l (i+1) n k]
  constructor
  ·rintro ⟨j,sz,es,h1,h2,h3⟩;exact ⟨j+1,sz,es,by omega,by simpa using h2,h3⟩
  ·rintro ⟨j,sz,es,h1,h2,h3⟩
   cases j with
   | zero=>simp at h2
   | succ j=>exact ⟨j,sz,es,by omega,by simpa using h2,h3⟩
 | .row s e::l,i,n,k=>by
  simp only [KQ]
  by_cases hn:i=n
  ·subst hn
   rw [Qd]
   constructor
   ·intro h;cases h;exact ⟨0,s,e,by omega,by simp,rfl⟩
   ·rintro ⟨j,sz,es,h1,h2,h3⟩
    have:j=0:=by omega
    subst this
    simp only [List.getElem?_cons_zero,jIj,OC.row.injEq] at h2
    rw [h3,h2.1,h2.2]
  ·rw [Qc _ _ hn,Jz l (i+1) n k]
   constructor
   ·rintro ⟨j,sz,es,h1,h2,h3⟩;exact ⟨j+1,sz,es,by omega,by simpa using h2,h3⟩
   ·rintro ⟨j,sz,es,h1,h2,h3⟩
    cases j with
    | zero=>omega
    | succ j=>exact ⟨j,sz,es,by omega,by simpa using h2,h3⟩
theorem ZQ (cs:List OC):look (Zt cs) 0=some (.box (AV.norm (.agg (JX 1 cs)))):=Qd _ _ _
theorem UB {cs:List OC} {j sz:Nat} {es:jVj} (h:cs[j]?=some (.row sz es)):look (Zt cs) (j+1)=some (.row 0 sz es):=by
 rw [Zt,Qc _ _ (by omega)]
 exact (Jz cs 1 (j+1) _).2 ⟨j,sz,es,by omega,h,rfl⟩
theorem JA {cs:List OC} {n:Nat} {k:Blk} (h:look (Zt cs) n=some k):(n=0∧k=.box (AV.norm (.agg (JX 1 cs)))) ∨ ∃ j sz es,n=j+1∧cs[j]?=some (.row sz es)∧k=.row 0 sz es:=by
 by_cases hn:n=0
 ·subst hn;rw [ZQ] at h;cases h;exact .inl ⟨rfl,rfl⟩
 ·right
  rw [Zt,Qc _ _ (by omega)] at h
  obtain ⟨j,sz,es,h1,h2,h3⟩:=(Jz cs 1 n k).1 h
  exact ⟨j,sz,es,by omega,h2,h3⟩
theorem EA {l:List AV} (h:W5 l=true):(AV.norm (.agg l)).cells.isSome=true:=by
 unfold AV.norm
 split
 ·rename_i y hy
  simp only [AV.toD] at hy
  split at hy
  case h_2=>cases hy
  rename_i ds hds
  simp only [jIj] at hy;subst hy
  have key:∀ (l:List AV) (ds:jVj),W5 l=true→Kk l=some ds→W5 (ds.map .d)=true:=by
   intro l
   induction l with
   | nil=>intro ds _ h;simp only [Kk,jIj] at h;subst h;rfl
   | cons x l ih =>
    intro ds ho h
    simp only [Kk] at h
    split at h
    case h_2=>cases h
    rename_i y ys hy hys
    simp only [jIj] at h;subst h
    simp only [W5,jAj] at ho
    simp only [jCj,W5,jAj]
    refine ⟨?_,ih ys ho.2 hys⟩
    have hx:=ho.1
    cases x with
    | d z=>simp only [AV.toD,jIj] at hy;subst hy;exact hx
    | fn f a b =>
     simp only [AV.toD] at hy
     split at hy
     ·simp only [jIj] at hy;subst hy;rfl
     ·cases hy
    | agg _=>simp [AV.isOne] at hx
    | tup _=>simp [AV.isOne] at hx
    | junk=>simp [AV.isOne] at hx
    | _=>simp [AV.toD] at hy
  simp only [AV.cells,key l ds h hds];rfl
 ·simp only [AV.cells,h];rfl
structure Names (ns:List (Option (Nat×Nat))) (cs:List OC):Prop where
 row:∀ (i sz:Nat) (es:jVj),cs[i]?=some (.row sz es)→∃ p,ns[i]?=some (some p)
 dat:∀ (i:Nat) (x:D),cs[i]?=some (.dat x)→ns[i]?=some none
 len:ns.length=cs.length
theorem Names.tail {p:Option (Nat×Nat)} {ns:List (Option (Nat×Nat))} {c:OC} {cs:List OC} (h:Names (p::ns) (c::cs)):Names ns cs :=
 ⟨fun i sz es hc=>by simpa using h.row (i+1) sz es (by simpa using hc),fun i x hc=>by simpa using h.dat (i+1) x (by simpa using hc),by simpa using h.len⟩
theorem Names.rowOf {ns:List (Option (Nat×Nat))} {cs:List OC} (h:Names ns cs) {i:Nat} {p:Nat×Nat} (hi:ns[i]?=some (some p)):∃ sz es,cs[i]?=some (.row sz es):=by
 have hlt:i < cs.length:=by rw [← h.len];exact (jGj hi).1
 cases hc:cs[i] with
 | dat x=>have:=h.dat i x (by rw [List.getElem?_eq_getElem hlt,hc]);rw [hi] at this;cases this
 | row sz es=>exact ⟨sz,es,by rw [List.getElem?_eq_getElem hlt,hc]⟩
theorem GF:∀ {ns:List (Option (Nat×Nat))} {cs:List OC},Names ns cs→∀ (i:Nat) (x:D),cs[i]?=some (.dat x)→(ZC ns cs)[i]?=some (.d x)
 | _,[],_,i,x,h=>by simp at h
 | [],c::cs,hn,i,x,h=>by have:=hn.len;simp at this
 | p::ns,c::cs,hn,0,x,h=>by
  simp only [List.getElem?_cons_zero,jIj] at h;subst h
  have:=hn.dat 0 x rfl
  simp only [List.getElem?_cons_zero,jIj] at this;subst this
  simp [ZC]
 | p::ns,c::cs,hn,i+1,x,h=>by
  have ih:=GF hn.tail i x (by simpa using h)
  cases c with
  | dat y =>
   have:=hn.dat 0 y rfl
   simp only [List.getElem?_cons_zero,jIj] at this;subst this
   simpa [ZC] using ih
  | row s e =>
   obtain ⟨⟨a,b⟩,hq⟩:=hn.row 0 s e rfl
   simp only [List.getElem?_cons_zero,jIj] at hq;subst hq
   simpa [ZC] using ih
theorem GD:∀ {ns:List (Option (Nat×Nat))} {cs:List OC},Names ns cs→∀ (i n v:Nat),ns[i]?=some (some (n,v))→(ZC ns cs)[i]?=some (.own n v)
 | _,[],hn,i,n,v,h=>by
  have h0:=hn.len
  simp only [List.length_nil,List.length_eq_zero_iff] at h0
  subst h0;simp at h
 | [],c::cs,hn,i,n,v,h=>by simp at h
 | p::ns,c::cs,hn,0,n,v,h=>by
  simp only [List.getElem?_cons_zero,jIj] at h;subst h
  obtain ⟨sz,es,hc⟩:=hn.rowOf (i:=0) rfl
  simp only [List.getElem?_cons_zero,jIj] at hc;subst hc
  simp [ZC]
 | p::ns,c::cs,hn,i+1,n,v,h=>by
  have ih:=GD hn.tail i n v (by simpa using h)
  cases c with
  | dat y =>
   have:=hn.dat 0 y rfl
   simp only [List.getElem?_cons_zero,jIj] at this;subst this
   simpa [ZC] using ih
  | row s e =>
   obtain ⟨⟨a,b⟩,hq⟩:=hn.row 0 s e rfl
   simp only [List.getElem?_cons_zero,jIj] at hq;subst hq
   simpa [ZC] using ih
theorem GE:∀ {ns:List (Option (Nat×Nat))} {cs:List OC},Names ns cs→(ZC ns cs).length=cs.length
 | [],[],hn=>rfl
 | p::ns,[],hn=>by have:=hn.len;simp at this
 | [],c::cs,hn=>by have:=hn.len;simp at this
 | p::ns,c::cs,hn=>by
  have ih:=GE hn.tail
  cases c with
  | dat y =>
   have:=hn.dat 0 y rfl
   simp only [List.getElem?_cons_zero,jIj] at this;subst this
   simp [ZC,ih]
  | row s e =>
   obtain ⟨⟨a,b⟩,hq⟩:=hn.row 0 s e rfl
   simp only [List.getElem?_cons_zero,jIj] at hq;subst hq
   simp [ZC,ih]
theorem Ko {n:Nat}:∀ {ns:List (Option (Nat×Nat))},UM n ns=true→∀ (i v:Nat),ns[i]?≠some (some (n,v))
 | [],_,i,v=>by simp
 | none::l,h,0,v=>by simp
 | none::l,h,i+1,v=>by simpa using Ko (ns:=l) h i v
 | some (m,u)::l,h,0,v=>by
  simp only [UM,jAj] at h
  intro he
  simp only [List.getElem?_cons_zero,jIj,jPj] at he
  rw [he.1] at h
  simp at h
 | some (m,u)::l,h,i+1,v=>by
  simp only [UM,jAj] at h
  simpa using Ko (ns:=l) h.2 i v
theorem KV (ks:List Bool):Wi ks []=[]:=by cases ks with
 | nil=>rfl
 | cons k _=>cases k <;> rfl
theorem UE (k:Bool) (ks:List Bool) (p:Option (Nat×Nat)) (ns:List (Option (Nat×Nat))) :
  (Wi (k::ks) (p::ns)=p::Wi ks ns) ∨ (k=true∧∃ a b,p=some (a,b+1)∧Wi (k::ks) (p::ns)=some (a,b)::Wi ks ns):=by
 cases k with
 | false=>exact .inl (by cases p <;> rfl)
 | true =>
  cases p with
  | none=>exact .inl rfl
  | some p =>
   obtain ⟨a,b⟩:=p
   cases b with
   | zero=>exact .inl rfl
   | succ b=>exact .inr ⟨rfl,a,b,rfl,rfl⟩
theorem KW:∀ (ks:List Bool) (ns:List (Option (Nat×Nat))) (i n v:Nat),(Wi ks ns)[i]?=some (some (n,v))→ns[i]?=some (some (n,v)) ∨ (ks[i]?=some true∧ns[i]?=some (some (n,v+1)))
 | [],ns,i,n,v,h=>by
  cases ns <;> exact .inl h
 | _::_,[],i,n,v,h=>by rw [KV] at h;simp at h
 | k::ks,p::ns,i,n,v,h=>by
  rcases UE k ks p ns with key | ⟨rfl,a,b,rfl,key⟩
  ·rw [key] at h
   cases i with
   | zero=>exact .inl h
   | succ i=>simpa using KW ks ns i n v (by simpa using h)
  ·rw [key] at h
   cases i with
   | zero =>
    simp only [List.getElem?_cons_zero,jIj,jPj] at h
    obtain ⟨rfl,rfl⟩:=h
    exact .inr ⟨rfl,rfl⟩
   | succ i=>simpa using KW ks ns i n v (by simpa using h)
theorem wP:∀ (ks:List Bool) (ns:List (Option (Nat×Nat))),(Wi ks ns).length=ns.length
 | [],ns=>by cases ns <;> rfl
 | _::_,[]=>by rw [KV]
 | k::ks,p::ns=>by
  rcases UE k ks p ns with key | ⟨_,a,b,rfl,key⟩ <;> rw [key] <;> simp [wP ks ns]
theorem zE:∀ (ks:List Bool) (ns:List (Option (Nat×Nat))) (i:Nat),ns[i]?=some none→(Wi ks ns)[i]?=some none
 | [],ns,i,h=>by cases ns <;> exact h
 | _::_,[],i,h=>by simp at h
 | k::ks,p::ns,i,h=>by
  rcases UE k ks p ns with key | ⟨_,a,b,rfl,key⟩ <;> rw [key] <;> cases i with
  | zero=>first | exact h | simp at h
  | succ i=>simpa using zE ks ns i (by simpa using h)
theorem JD:∀ (ks:List Bool) (ns:List (Option (Nat×Nat))) (i n v:Nat),ns[i]?=some (some (n,v))→∃ u,(Wi ks ns)[i]?=some (some (n,u))
 | [],ns,i,n,v,h=>⟨v,by cases ns <;> exact h⟩
 | _::_,[],i,n,v,h=>by simp at h
 | k::ks,p::ns,i,n,v,h=>by
  rcases UE k ks p ns with key | ⟨_,a,b,rfl,key⟩ <;> rw [key] <;> cases i with
  | zero =>
   simp only [List.getElem?_cons_zero,jIj,jPj] at h ⊢
   first | exact ⟨v,h⟩ | exact ⟨b,h.1,rfl⟩ | skip
  | succ i=>simpa using JD ks ns i n v (by simpa using h)
theorem Kn (n:Nat):∀ (ks:List Bool) (ns:List (Option (Nat×Nat))),UM n (Wi ks ns)=UM n ns
 | [],ns=>by cases ns <;> rfl
 | _::_,[]=>by rw [KV]
 | k::ks,p::ns=>by
  rcases UE k ks p ns with key | ⟨_,a,b,rfl,key⟩ <;> rw [key]
  ·cases p <;> simp only [UM,Kn n ks ns]
  ·simp only [UM,Kn n ks ns]
theorem KD (bn:Nat) (fz:List Nat):∀ (ks:List Bool) (ns:List (Option (Nat×Nat))),Xj bn fz (Wi ks ns)=Xj bn fz ns
 | [],ns=>by cases ns <;> rfl
 | _::_,[]=>by rw [KV]
 | k::ks,p::ns=>by
  rcases UE k ks p ns with key | ⟨_,a,b,rfl,key⟩ <;> rw [key]
  ·cases p <;> simp only [Xj,KD bn fz ks ns,Kn]
  ·simp only [Xj,KD bn fz ks ns,Kn]
theorem GK {H:List (Nat×Blk)}:∀ (j:Nat) (ks:List Bool) (ns:List (Option (Nat×Nat))),JZ H j ks ns=true→∀ t:Nat,ks[t]?=some true→ns[t]?=some none ∨ (ns[t]?=some (some (j+t,1))∧∃ k,look H (j+t)=some k)
 | j,true::ks,some (n,v)::ns,h,t,ht=>by
  simp only [JZ,jAj] at h
  obtain ⟨⟨⟨h1,h2⟩,h3⟩,h4⟩:=h
  have h1:=Nat.eq_of_beq_eq_true h1
  have h2:=Nat.eq_of_beq_eq_true h2
  subst h1;subst h2
  cases t with
  | zero=>exact .inr ⟨rfl,Option.isSome_iff_exists.1 h3⟩
  | succ t =>
   have:=GK (n+1) ks ns h4 t (by simpa using ht)
   rw [show n+1+t=n+(t+1) by omega] at this
   simpa using this
 | j,true::ks,none::ns,h,t,ht=>by
  cases t with
  | zero=>exact .inl rfl
  | succ t =>
   have:=GK (j+1) ks ns (by simpa only [JZ] using h) t (by simpa using ht)
   rw [show j+1+t=j+(t+1) by omega] at this
   simpa using this
 | j,true::ks,[],h,t,ht=>by simp [JZ] at h
 | j,false::ks,p::ns,h,t,ht=>by
  cases t with
  | zero=>simp at ht
  | succ t =>
   have:=GK (j+1) ks ns (by simpa only [JZ] using h) t (by simpa using ht)
   rw [show j+1+t=j+(t+1) by omega] at this
   simpa using this
 | j,false::ks,[],h,t,ht=>by simp [JZ] at h
 | j,[],ns,h,t,ht=>by simp at ht
theorem Gc {bn:Nat} {fz:List Nat}:∀ {ns:List (Option (Nat×Nat))},Xj bn fz ns=true→¬ bn∈fz
 | [],h=>by simpa [Xj] using h
 | none::l,h=>Gc (ns:=l) h
 | some _::l,h=>by
  simp only [Xj,jAj] at h
  exact Gc (ns:=l) h.2
theorem Vv {bn:Nat} {fz:List Nat}:∀ {ns:List (Option (Nat×Nat))},Xj bn fz ns=true→∀ (i n v:Nat),ns[i]?=some (some (n,v)) →
  n≠bn∧¬ n∈fz∧∀ (j u:Nat),ns[j]?=some (some (n,u))→j=i
 | [],_,i,n,v,hi=>by simp at hi
 | none::l,h,0,n,v,hi=>by simp at hi
 | none::l,h,i+1,n,v,hi=>by
  obtain ⟨h1,h2,h3⟩:=Vv (ns:=l) h i n v (by simpa using hi)
  refine ⟨h1,h2,fun j u hj=>?_⟩
  cases j with
  | zero=>simp at hj
  | succ j=>rw [h3 j u (by simpa using hj)]
 | some (m,u)::l,h,0,n,v,hi=>by
  simp only [List.getElem?_cons_zero,jIj,jPj] at hi
  obtain ⟨rfl,rfl⟩:=hi
  simp only [Xj,jAj] at h
  obtain ⟨⟨⟨h1,h2⟩,h3⟩,h4⟩:=h
  refine ⟨fun e=>by subst e;simp at h2,fun hm=>by simp at h3;exact h3 hm,fun j u hj=>?_⟩
  cases j with
  | zero=>rfl
  | succ j=>exact absurd (by simpa using hj) (Ko h1 j u)
 | some (m,u)::l,h,i+1,n,v,hi=>by
  simp only [Xj,jAj] at h
  obtain ⟨⟨⟨h1,h2⟩,h3⟩,h4⟩:=h
  obtain ⟨k1,k2,k3⟩:=Vv (ns:=l) h4 i n v (by simpa using hi)
  refine ⟨k1,k2,fun j u hj=>?_⟩
  cases j with
  | zero =>
   simp only [List.getElem?_cons_zero,jIj,jPj] at hj
   rw [← hj.1] at hi
   exact absurd (by simpa using hi) (Ko h1 i v)
  | succ j=>rw [k3 j u (by simpa using hj)]
def zS (n:Nat):List (Option (Nat×Nat))→Nat→Option Nat
 | [],_=>none
 | none::l,k=>zS n l (k+1)
 | some p::l,k=>if p.1=n then some k else zS n l (k+1)
theorem Gf {n:Nat}:∀ {ns:List (Option (Nat×Nat))} {k j:Nat},zS n ns k=some j→∃ (i v:Nat),j=k+i∧ns[i]?=some (some (n,v))
 | [],k,j,h=>by simp [zS] at h
 | none::l,k,j,h=>by
  obtain ⟨i,v,h1,h2⟩:=Gf (ns:=l) (k:=k+1) h
  exact ⟨i+1,v,by omega,by simpa using h2⟩
 | some p::l,k,j,h=>by
  simp only [zS] at h
  split at h
  ·rename_i hp
   simp only [jIj] at h
   obtain ⟨a,b⟩:=p
   simp only at hp;subst hp
   exact ⟨0,b,by omega,rfl⟩
  ·obtain ⟨i,v,h1,h2⟩:=Gf (ns:=l) (k:=k+1) h
   exact ⟨i+1,v,by omega,by simpa using h2⟩
theorem qP {n:Nat}:∀ {ns:List (Option (Nat×Nat))} {k:Nat},zS n ns k=none→∀ (i v:Nat),ns[i]?≠some (some (n,v))
 | [],k,h,i,v=>by simp
 | none::l,k,h,0,v=>by simp
 | none::l,k,h,i+1,v=>by simpa using qP (ns:=l) (k:=k+1) h i v
 | some p::l,k,h,i,v=>by
  simp only [zS] at h
  split at h
  ·cases h
  ·rename_i hp
   cases i with
   | zero =>
    intro he
    simp only [List.getElem?_cons_zero,jIj] at he
    exact hp (by rw [he])
   | succ i=>simpa using qP (ns:=l) (k:=k+1) h i v
theorem Yl {n:Nat} {k:Blk}:∀ {ns:List (Option (Nat×Nat))} {cs:List OC},look (WY ns cs) n=some k→∃ (i v sz:Nat) (es:jVj),ns[i]?=some (some (n,v))∧cs[i]?=some (.row sz es)∧k=.row v sz es
 | [],cs,h=>by simp [WY,look] at h
 | p::ns,[],h=>by cases p <;> simp [WY,look] at h
 | none::ns,c::cs,h=>by
  obtain ⟨i,v,sz,es,h1,h2,h3⟩:=Yl (ns:=ns) (cs:=cs) (by cases c <;> simpa [WY] using h)
  exact ⟨i+1,v,sz,es,by simpa using h1,by simpa using h2,h3⟩
 | some (m,u)::ns,.dat x::cs,h=>by
  obtain ⟨i,v,sz,es,h1,h2,h3⟩:=Yl (ns:=ns) (cs:=cs) (by simpa [WY] using h)
  exact ⟨i+1,v,sz,es,by simpa using h1,by simpa using h2,h3⟩
 | some (m,u)::ns,.row s e::cs,h=>by
  simp only [WY] at h
  by_cases hm:m=n
  ·subst hm
   rw [Qd] at h;cases h
   exact ⟨0,u,s,e,rfl,rfl,rfl⟩
  ·rw [Qc _ _ hm] at h
   obtain ⟨i,v,sz,es,h1,h2,h3⟩:=Yl (ns:=ns) (cs:=cs) h
   exact ⟨i+1,v,sz,es,by simpa using h1,by simpa using h2,h3⟩
theorem Km {n:Nat}:∀ {ns:List (Option (Nat×Nat))} {cs:List OC},look (WY ns cs) n=none→∀ (i v sz:Nat) (es:jVj),ns[i]?=some (some (n,v))→cs[i]?≠some (.row sz es)
 | [],cs,h,i,v,sz,es,hi=>by simp at hi
 | p::ns,[],h,i,v,sz,es,hi=>by simp
 | none::ns,c::cs,h,0,v,sz,es,hi=>by simp at hi
 | none::ns,c::cs,h,i+1,v,sz,es,hi=>by
  simpa using Km (ns:=ns) (cs:=cs) (by cases c <;> simpa [WY] using h) i v sz es (by simpa using hi)
 | some (m,u)::ns,.dat x::cs,h,0,v,sz,es,hi=>by simp
 | some (m,u)::ns,.dat x::cs,h,i+1,v,sz,es,hi=>by
  simpa using Km (ns:=ns) (cs:=cs) (by simpa [WY] using h) i v sz es (by simpa using hi)
 | some (m,u)::ns,.row s e::cs,h,i,v,sz,es,hi=>by
  simp only [WY] at h
  by_cases hm:m=n
  ·subst hm;rw [Qd] at h;cases h
  ·rw [Qc _ _ hm] at h
   cases i with
   | zero =>
    simp only [List.getElem?_cons_zero,jIj,jPj] at hi
    exact absurd hi.1 hm
   | succ i=>simpa using Km (ns:=ns) (cs:=cs) h i v sz es (by simpa using hi)
def Ke (ns:List (Option (Nat×Nat))) (bn:Nat) (ρ ρ' : Nat→Value) (n:Nat):Value:=match zS n ns 1 with
 | some j=>ρ' j
 | none=>if n=bn then ρ' 0 else ρ n
def Yu (ns:List (Option (Nat×Nat))) (bn:Nat) (cs:List OC) (H:List (Nat×Blk)):List (Nat×Blk):=(bn,.box (AV.norm (.agg (ZC ns cs))))::(WY ns cs++H)
theorem glue {cx:Cx} {F:Nat→Prop} {H:List (Nat×Blk)} {ρ:Nat→Value} {w:World} (g1:HSim cx F H ρ w) {hin:List (Nat×Blk)} {ρc:Nat→Value} (hmi:∀ r,Mut hin ρc r→Mut H ρ r)
  {cs:List OC} {ns:List (Option (Nat×Nat))} {bn:Nat} {fz:List Nat} (hal:Names ns cs) (hok:Xj bn fz ns=true)
  (hold:∀ n k r,look H n=some k→k.live=true→Q9 (ρ n)=some r→Mut hin ρc r→n=bn ∨ ∃ (i v:Nat),ns[i]?=some (some (n,v)))
  {w' : World} {ρ' : Nat→Value} (hver:∀ (i n v:Nat) (k:Blk),ns[i]?=some (some (n,v))→look H n=some k→k.ver≤v∧(k.ver=v→ρ' (i+1)=ρ n)) (hbn:∀ k,look H bn=some k→k.ver=0∧ρ' 0=ρ bn)
  (q1:HSim cx (fun r=>F r ∨ (Mut H ρ r∧¬ Mut hin ρc r)) (Zt cs) ρ' w') (q2:Ext w (Mut hin ρc) w') (q3:∀ q,q < w.heap.size→Mut (Zt cs) ρ' q→Mut hin ρc q) :
  HSim cx F (Yu ns bn cs H) (Ke ns bn ρ ρ') w'∧Steps1 H ρ w (Yu ns bn cs H) (Ke ns bn ρ ρ') w' ∧
   (∀ r,MM F (Yu ns bn cs H) (Ke ns bn ρ ρ') r→MM (fun r=>F r ∨ (Mut H ρ r∧¬ Mut hin ρc r)) (Zt cs) ρ' r) ∧
   look (Yu ns bn cs H) bn=some (.box (AV.norm (.agg (ZC ns cs))))∧Ke ns bn ρ ρ' bn=ρ' 0:=by
 have hob:∀ {i n v:Nat},ns[i]?=some (some (n,v))→n≠bn:=fun h=>(Vv hok _ _ _ h).1
 have hbi:zS bn ns 1=none:=by
  cases hi:zS bn ns 1 with
  | none=>rfl
  | some j =>
   obtain ⟨i,v,_,h2⟩:=Gf hi
   exact absurd rfl (hob h2)
 have hrb:Ke ns bn ρ ρ' bn=ρ' 0:=by simp only [Ke,hbi,if_true]
 have hrn:∀ {i n v:Nat},ns[i]?=some (some (n,v))→Ke ns bn ρ ρ' n=ρ' (i+1):=by
  intro i n v h
  unfold Ke
  cases hi:zS n ns 1 with
  | none=>exact absurd h (qP hi i v)
  | some j =>
   obtain ⟨i',v',h1,h2⟩:=Gf hi
   have:=(Vv hok _ _ _ h).2.2 i' v' h2
   subst this
   simp only [h1,Nat.add_comm]
 have hro:∀ {n},n≠bn→(∀ (i v:Nat),ns[i]?≠some (some (n,v)))→Ke ns bn ρ ρ' n=ρ n:=by
  intro n h1 h2
  unfold Ke
  cases hi:zS n ns 1 with
  | none=>simp only [jFj h1]
  | some j =>
   obtain ⟨i',v',_,h⟩:=Gf hi
   exact absurd h (h2 i' v')
 have hlb:look (Yu ns bn cs H) bn=some (.box (AV.norm (.agg (ZC ns cs)))):=Qd _ _ _
 have hln:∀ {i n v sz:Nat} {es:jVj},ns[i]?=some (some (n,v))→cs[i]?=some (.row sz es)→look (Yu ns bn cs H) n=some (.row v sz es):=by
  intro i n v sz es h1 h2
  rw [Yu,Qc _ _ (Ne.symm (hob h1)),Wl]
  cases hl:look (WY ns cs) n with
  | none=>exact absurd h2 (Km hl i v sz es h1)
  | some k =>
   obtain ⟨i',v',sz',es',k1,k2,rfl⟩:=Yl hl
   have:=(Vv hok _ _ _ h1).2.2 i' v' k1
   subst this
   rw [h1] at k1;cases k1
   rw [h2] at k2;cases k2
   rfl
 have hlo:∀ {n},n≠bn→(∀ (i v:Nat),ns[i]?≠some (some (n,v)))→look (Yu ns bn cs H) n=look H n:=by
  intro n h1 h2
  rw [Yu,Qc _ _ (Ne.symm h1),Wl]
  cases hl:look (WY ns cs) n with
  | none=>rfl
  | some k =>
   obtain ⟨i',v',sz',es',k1,k2,rfl⟩:=Yl hl
   exact absurd k1 (h2 i' v')
 -- the three Uf of names
 have hkind:∀ {n k},look (Yu ns bn cs H) n=some k→(n=bn∧k=.box (AV.norm (.agg (ZC ns cs)))) ∨ (∃ (i v sz:Nat) (es:jVj),ns[i]?=some (some (n,v))∧cs[i]?=some (.row sz es)∧k=.row v sz es) ∨
   (n≠bn∧(∀ (i v:Nat),ns[i]?≠some (some (n,v)))∧look H n=some k):=by
  intro n k h
  by_cases h1:n=bn
  ·subst h1;rw [hlb] at h;cases h;exact .inl ⟨rfl,rfl⟩
  ·by_cases h2:∃ (i v:Nat),ns[i]?=some (some (n,v))
   ·obtain ⟨i,v,hi⟩:=h2
    obtain ⟨sz,es,hc⟩:=hal.rowOf hi
    rw [hln hi hc] at h;cases h
    exact .inr (.inl ⟨i,v,sz,es,hi,hc,rfl⟩)
   ·have h3:∀ (i v:Nat),ns[i]?≠some (some (n,v)):=fun i v hh=>h2 ⟨i,v,hh⟩
    rw [hlo h1 h3] at h
    exact .inr (.inr ⟨h1,h3,h⟩)
 -- roots
 have hroot:∀ {n k r},look (Yu ns bn cs H) n=some k→k.live=true→Q9 (Ke ns bn ρ ρ' n)=some r →
   (∃ m,(∃ k',look (Zt cs) m=some k'∧k'.live=true)∧Q9 (ρ' m)=some r∧Mut (Zt cs) ρ' r∧((n=bn∧m=0) ∨ ∃ (i v:Nat),ns[i]?=some (some (n,v))∧m=i+1)) ∨
   (n≠bn∧(∀ (i v:Nat),ns[i]?≠some (some (n,v)))∧look H n=some k∧Q9 (ρ n)=some r∧Mut H ρ r∧¬ Mut hin ρc r):=by
  intro n k r h hl hr
  rcases hkind h with ⟨rfl,rfl⟩ | ⟨i,v,sz,es,h1,h2,rfl⟩ | ⟨h1,h2,h3⟩
  ·rw [hrb] at hr
   exact .inl ⟨0,⟨_,ZQ cs,rfl⟩,hr,⟨0,_,ZQ cs,rfl,hr⟩,.inl ⟨rfl,rfl⟩⟩
  ·rw [hrn h1] at hr
   exact .inl ⟨i+1,⟨_,UB h2,rfl⟩,hr,⟨i+1,_,UB h2,rfl,hr⟩,.inr ⟨i,v,h1,rfl⟩⟩
  ·rw [hro h1 h2] at hr
   refine .inr ⟨h1,h2,h3,hr,⟨n,k,h3,hl,hr⟩,fun hm=>?_⟩
   rcases hold n k r h3 hl hr hm with h4 | ⟨i,v,h4⟩
   ·exact h1 h4
   ·exact h2 i v h4
 have hMM:∀ r,MM F (Yu ns bn cs H) (Ke ns bn ρ ρ') r→MM (fun r=>F r ∨ (Mut H ρ r∧¬ Mut hin ρc r)) (Zt cs) ρ' r:=by
  rintro r (hf | ⟨n,k,h1,h2,h3⟩)
  ·exact .inl (.inl hf)
  ·rcases hroot h1 h2 h3 with ⟨m,_,_,hm,_⟩ | ⟨_,_,_,_,h4,h5⟩
   ·exact .inr hm
   ·exact .inl (.inr ⟨h4,h5⟩)
 have hst:Steps1 H ρ w (Yu ns bn cs H) (Ke ns bn ρ ρ') w':=by
  refine ⟨q2.mono hmi,fun r hr hm=>?_,⟨fun n k hn=>?_⟩⟩
  ·obtain ⟨n,k,h1,h2,h3⟩:=hm
   rcases hroot h1 h2 h3 with ⟨m,_,_,hm,_⟩ | ⟨_,_,_,_,h4,_⟩
   ·exact hmi r (q3 r hr hm)
   ·exact h4
  ·by_cases h1:n=bn
   ·subst h1
    obtain ⟨hv,hp⟩:=hbn k hn
    exact ⟨_,hlb,by rw [hv];exact Nat.zero_le _,fun _=>by rw [hrb];exact hp⟩
   ·by_cases h2:∃ (i v:Nat),ns[i]?=some (some (n,v))
    ·obtain ⟨i,v,hi⟩:=h2
     obtain ⟨sz,es,hc⟩:=hal.rowOf hi
     have:=hver i n v k hi hn
     exact ⟨_,hln hi hc,this.1,fun he=>by rw [hrn hi];exact this.2 he⟩
    ·have h3:∀ (i v:Nat),ns[i]?≠some (some (n,v)):=fun i v hh=>h2 ⟨i,v,hh⟩
     exact ⟨k,by rw [hlo h1 h3];exact hn,jLj _,fun _=>hro h1 h3⟩
 refine ⟨g1.step hst (fun n k hk=>?_) (fun n n' k k' r h1 h2 m1 m2 r1 r2=>?_) (fun r hr hf=>?_),hst,hMM,hlb,hrb⟩
 ·rcases hkind hk with ⟨rfl,rfl⟩ | ⟨i,v,sz,es,h1,h2,rfl⟩ | ⟨h1,h2,h3⟩
  ·right
   obtain ⟨r,e,v,cs0,p1,p2,p3,p4⟩:=q1.blk 0 _ (ZQ cs)
   obtain ⟨c1,c2,c3⟩:=VM p3 p4
   -- the cells,by the names that they have here
   have hv:∃ ys:List Value,v=.agg ys.toArray∧ys.length=cs.length∧∀ (i:Nat) (c:AV) (y:Value),(JX 1 cs)[i]?=some c→ys[i]?=some y→VR w' (MM (fun r=>F r ∨ (Mut H ρ r∧¬ Mut hin ρc r)) (Zt cs) ρ') (Zt cs) ρ' c y:=by
    unfold AV.norm at p4
    split at p4
    ·rename_i y hy
     simp only [AV.toD] at hy
     split at hy
     case h_2=>cases hy
     rename_i ds hds
     simp only [jIj] at hy;subst hy
     cases p4 with
     | d _ _ hd =>
      cases hd with
      | agg _ ys hl hh =>
       have key:∀ (l:List AV) (ds:jVj),Kk l=some ds→(∀ (i:Nat) (c:AV),l[i]?=some c→(∃ x,c=.d x) ∨ ∃ b u,c=.own b u)→l=ds.map .d:=by
        intro l
        induction l with
        | nil=>intro ds h _;simp only [Kk,jIj] at h;subst h;rfl
        | cons x l ih =>
         intro ds h hk
         simp only [Kk] at h
         split at h
         case h_2=>cases h
         rename_i y ys hy hys
         simp only [jIj] at h;subst h
         rcases hk 0 x rfl with ⟨z,rfl⟩ | ⟨b,u,rfl⟩
         ·simp only [AV.toD,jIj] at hy;subst hy
          rw [jCj,← ih ys hys fun i c hc=>hk (i+1) c (by simpa using hc)]
         ·simp [AV.toD] at hy
       have hds2:=key _ _ hds fun i c hc=>by
        rw [Va] at hc
        split at hc
        ·cases hc
        ·cases hc;exact .inl ⟨_,rfl⟩
        ·cases hc;exact .inr ⟨_,_,rfl⟩
       refine ⟨ys,rfl,by rw [← hl,← UU cs 1,hds2,List.length_map],fun i c y hc hy=>?_⟩
       rw [hds2,List.getElem?_map,Option.map_eq_some_iff] at hc
       obtain ⟨d,hd,rfl⟩:=hc
       exact .d _ _ (hh i d y hd hy)
    ·cases p4 with
     | agg _ ys hl hh=>exact ⟨ys,rfl,by rw [← hl,UU],hh⟩
   obtain ⟨ys,rfl,hlen,hys⟩:=hv
   have hvr:VR w' (MM F (Yu ns n cs H) (Ke ns n ρ ρ')) (Yu ns n cs H) (Ke ns n ρ ρ') (.agg (ZC ns cs)) (.agg ys.toArray):=by
    refine .agg _ ys (by rw [GE hal,hlen]) fun i c y hc hy=>?_
    have hlt:i < cs.length:=by rw [← hlen];exact (jGj hy).1
    cases hci:cs[i] with
    | dat x =>
     have hci' : cs[i]?=some (.dat x):=by rw [List.getElem?_eq_getElem hlt,hci]
     rw [GF hal i x hci'] at hc;cases hc
     have:=hys i (.d x) y (by rw [Va,hci']) hy
     cases this with
     | d _ _ hd=>exact .d _ _ (hd.ext (jLj _) (fun _ _ _=>rfl) fun r _ hm=>hMM r hm)
    | row sz es =>
     have hci' : cs[i]?=some (.row sz es):=by rw [List.getElem?_eq_getElem hlt,hci]
     obtain ⟨⟨m,u⟩,hp⟩:=hal.row i sz es hci'
     rw [GD hal i m u hp] at hc;cases hc
     have:=hys i (.own (1+i) 0) y (by rw [Va,hci']) hy
     cases this with
     | own _ _ k0 _ hb0 hv0 ho0 hh0 =>
      rw [Nat.add_comm,UB hci'] at hb0;cases hb0
      exact .own m u _ _ (hln hp hci') (jLj _) ho0 fun _=>by rw [hrn hp,← Nat.add_comm 1 i];exact hh0 rfl
   have hone:W5 (ZC ns cs)=true:=by
    have:∀ (l:List AV),(∀ (i:Nat) (c:AV),l[i]?=some c→c.isOne=true)→W5 l=true:=by
     intro l
     induction l with
     | nil=>intro _;rfl
     | cons x l ih=>intro h;simp only [W5,jAj];exact ⟨h 0 x rfl,ih fun i c hc=>h (i+1) c (by simpa using hc)⟩
    refine this _ fun i c hc=>?_
    have hlt:i < cs.length:=by rw [← GE hal];exact (jGj hc).1
    cases hci:cs[i] with
    | dat x =>
     have hci' : cs[i]?=some (.dat x):=by rw [List.getElem?_eq_getElem hlt,hci]
     rw [GF hal i x hci'] at hc;cases hc
     -- it is one cell of the object
     have hcx:(JX 1 cs)[i]?=some (.d x):=by rw [Va,hci']
     have h0:W5 cs0=true:=c2
     unfold AV.norm at p3
     split at p3
     ·rename_i y hy
      simp only [AV.toD] at hy
      split at hy
      case h_2=>cases hy
      rename_i ds hds
      simp only [jIj] at hy;subst hy
      have hcs:=UN p3
      have hdx:ds[i]?=some x:=by
       have key:∀ (l:List AV) (ds:jVj) (i:Nat),Kk l=some ds→l[i]?=some (.d x)→ds[i]?=some x:=by
        intro l
        induction l with
        | nil=>intro ds i _ h;simp at h
        | cons z l ih =>
         intro ds i h hi
         simp only [Kk] at h
         split at h
         case h_2=>cases h
         rename_i y ys hy hys
         simp only [jIj] at h;subst h
         cases i with
         | zero=>simp only [List.getElem?_cons_zero,jIj] at hi ⊢;subst hi;simp only [AV.toD,jIj] at hy;exact hy.symm
         | succ i=>simpa using ih ys i hys (by simpa using hi)
       exact key _ _ i hds hcx
      refine VF h0 (j:=i) ?_
      rw [hcs]
      simp only [SX.D.cells,List.getElem?_map,hdx,Option.map_some]
     ·simp only [AV.cells] at p3
      split at p3
      ·cases p3;exact VF h0 hcx
      ·cases p3
    | row sz es =>
     have hci' : cs[i]?=some (.row sz es):=by rw [List.getElem?_eq_getElem hlt,hci]
     obtain ⟨⟨m,u⟩,hp⟩:=hal.row i sz es hci'
     rw [GD hal i m u hp] at hc;cases hc
     rfl
   obtain ⟨cs1,hcs1⟩:=Option.isSome_iff_exists.1 (EA hone)
   exact ⟨r,e,.agg ys.toArray,cs1,by rw [hrb];exact p1,p2,hcs1,Yn hvr⟩
  ·right
   have h0:RowV w' _ (ρ' (i+1)) sz es:=q1.blk (i+1) _ (UB h2)
   have h3:RowV w' (MM F (Yu ns bn cs H) (Ke ns bn ρ ρ')) (ρ' (i+1)) sz es:=h0.sub fun r _ hm=>hMM r hm
   rw [← hrn h1] at h3
   exact h3
  ·refine .inl ⟨h3,hro h1 h2,fun hl r hr=>?_⟩
   refine q2.same r ((g1.blk n k h3).root_lt hl hr) fun hm=>?_
   rcases hold n k r h3 hl hr hm with h4 | ⟨i,v,h4⟩
   ·exact h1 h4
   ·exact h2 i v h4
 ·rcases hroot h1 m1 r1 with ⟨a,⟨ka,a1,a2⟩,a3,a4,a5⟩ | ⟨a1,a2,a3,a4,a5,a6⟩ <;> rcases hroot h2 m2 r2 with ⟨b,⟨kb,b1,b2⟩,b3,b4,b5⟩ | ⟨b1,b2,b3,b4,b5,b6⟩
  ·have hab:=q1.inj a b ka kb r a1 b1 a2 b2 a3 b3
   subst hab
   rcases a5 with ⟨rfl,rfl⟩ | ⟨i,v,hi,rfl⟩ <;> rcases b5 with ⟨rfl,hb0⟩ | ⟨j,u,hj,hb0⟩
   ·rfl
   ·omega
   ·omega
   ·have:i=j:=by omega
    subst this
    rw [hi] at hj;cases hj;rfl
  ·exact absurd (q3 r (g1.mut_lt b5) a4) b6
  ·exact absurd (q3 r (g1.mut_lt a5) b4) a6
  ·exact g1.inj n n' k k' r a3 b3 m1 m2 a4 b4
 ·rcases hr with ⟨n,k,h1,h2,h3⟩
  rcases hroot h1 h2 h3 with ⟨m,_,_,hm,_⟩ | ⟨_,_,_,_,h4,_⟩
  ·exact q1.forb r hm (.inl hf)
  ·exact g1.forb r h4 hf
end Go.SX
