/- Contracts of calls that are told of an object, out of runs of the evaluator; made weaker. -/
import Derived.Test.YtljabneifpkbjaaGreatDoorSxTwentyThree
import Derived.Test.YtljabneifpkbjaaGreatDoorSxTwentySeven
namespace Go.SX
variable {cx:Cx}
def objB (b:Nat):Option (List OC)→Nat
 | some _=>0
 | none=>b
def Qbg:Option (List OC)→Nat
 | some cs=>cs.length+1
 | none=>0
def outO (H0 H:List (Nat×Blk)) (b m:Nat) (ss:List OC) (ks:List Bool) (x:AV):Option (AV×List OC):=match x.argO H (some b),look H b with
 | some (r,fs),some (.box y)=>match y.cells,K0 y with
  | some cells,true=>match V6 H m cells ss with
   | some (cs,ns,gs)=>match Xj b (fs++gs) ns && JZ H0 1 ks ns with
    | true=>some (r,cs)
    | false=>none
   | none=>none
  | _,_=>none
 | _,_=>none
def we (sym:Bool) (n:Nat) (cx:Cx) (f:FuncId) (args:List AV) (i:Option (List OC)) (b:Nat) (ss:List OC) (ks:List Bool) (orc:List Orc):Option (AV×List OC×List Prop) :=
 match U8 (Z8 n cx) cx f args { nt:=0,sym,tm:=[],hp:=VL i,nx:=Qbg i,orc,ob:=[],vis:=Qbg i,sfx:=true } with
 | some (x,s)=>match outO (VL i) s.hp (objB b i) s.nx ss ks x with
  | some (r,cs)=>some (r,cs,s.ob)
  | none=>none
 | none=>none
abbrev Qcd (n:Nat) (cx:Cx) (f:FuncId) (args:List AV) (i:Option (List OC)) (b:Nat) (ss:List OC) (ks:List Bool) (orc:List Orc):Option (AV×List OC×List Prop):=we true n cx f args i b ss ks orc
theorem HSim.subF {F F' : Nat→Prop} {hp:List (Nat×Blk)} {ρ:Nat→Value} {w:World} (h:HSim cx F' hp ρ w) (hF:∀ r,F r→F' r):HSim cx F hp ρ w :=
 ⟨fun b k hb=>(h.blk b k hb).ext (jLj _) (fun _ _ _=>rfl) (fun r _ hm=>hm.imp (hF r) id) (Grows.refl _ _) rfl (fun _ _ _=>rfl),h.inj,fun r hr hf=>h.forb r hr (hF r hf),fun r hr=>h.bnd r (hF r hr),
  fun g x hg=>(h.glob g x hg).ext (jLj _) (fun _ _ _=>rfl) fun r _ hm=>hm.imp (hF r) id⟩
theorem Eb (hN:NoAsk cx) (hm:cx.P.follows .mixedOrders=true) {sym:Bool} {n:Nat} {f:FuncId} {args:List AV} {i:Option (List OC)} {b:Nat} {ss:List OC} {ks:List Bool} {orc:List Orc} {r:AV} {cs:List OC} {ob:List Prop}
  (h:we sym n cx f args i b ss ks orc=some (r,cs,ob)) (ho:All ob):ComputesO cx f args i r cs ks:=by
 unfold we at h
 split at h
 case h_2=>cases h
 rename_i x s hx
 split at h
 case h_2=>cases h
 rename_i r1 cs1 hout
 simp only [jIj,jPj] at h
 obtain ⟨rfl,rfl,rfl⟩:=h
 unfold outO at hout
 split at hout
 case h_2=>cases hout
 rename_i r2 fs y hr hb
 split at hout
 case h_2=>cases hout
 rename_i cells hc hag
 split at hout
 case h_2=>cases hout
 rename_i cs2 ns gs hsp
 split at hout
 case h_2=>cases hout
 rename_i hok
 simp only [jAj] at hok
 obtain ⟨hok,hkp⟩:=hok
 simp only [jIj,jPj] at hout
 obtain ⟨rfl,rfl⟩:=hout
 obtain ⟨_,h2⟩:=Kp (js hN hm n) (XV cx n) hx ho.mem
 intro w F ρ vs hs hl hv
 refine (h2 F ρ w vs hs hl hv).mono ?_
 rintro e w' ⟨v,rfl,ρ',q1,q2,q3⟩
 obtain ⟨g1,g2⟩:=q1.freeze (fs++gs)
 obtain ⟨ρc,o1,o2,o3,_,o5⟩:=Qay q1 (fz:=fs++gs) hb hc hag hsp (fun q hq=>List.mem_append.2 (.inr hq)) hok
 have hM:∀ r,MM F (Zt cs2) ρc r→MM F (Qe s.hp (fs++gs)++s.hp) ρ' r:=fun r hr=>hr.imp id (o2 r)
 refine ⟨v,ρc,rfl,o3.subF fun r hr=>.inl hr,?_,q2.ext,fun q hq hm=>?_,fun hi=>?_⟩
 ·exact jq q1 (fz:=fs++gs) (bo:=some (objB b i)) hM (fun b0 h=>by cases h;exact ⟨⟨y,hb⟩,⟨_,ZQ cs2⟩,o1⟩) x v r2 fs hr (fun q hq=>List.mem_append.2 (.inl hq)) q3
 ·exact q2.mt q hq (g2.mt q (Nat.lt_of_lt_of_le hq q2.ext.size) (o2 q hm))
 ·cases i with
  | none=>cases hi
  | some cs0 =>
   refine ⟨?_,fun j szj esj hj hrj=>?_⟩
   ·rw [o1]
    obtain ⟨k',c1,_,c3⟩:=q2.grow 0 _ (by simp [Qbg]) (ZQ cs0)
    simp only [objB] at hb
    rw [hb] at c1;cases c1
    exact c3 rfl
   ·have sp:=Yb cells ss s.nx cs2 ns gs hsp
    obtain ⟨e1,k0,e2⟩:=(GK 1 ks ns hkp j hj).resolve_left (fun e=>by
     obtain ⟨n',v',a1,_⟩:=sp.row j szj esj hrj
     rw [e] at a1;cases a1)
    rw [o5 j (1+j) 0 e1]
    have hlt:j < cs2.length:=by
     have:=(jGj e1).1
     rw [sp.nm.len,sp.lenS,← sp.len] at this;exact this
    cases hc2:cs2[j] with
    | dat z =>
     have:=(sp.dat j z (by rw [List.getElem?_eq_getElem hlt,hc2])).1
     rw [e1] at this;cases this
    | row sz es =>
     obtain ⟨n',v',a1,a2⟩:=sp.row j sz es (by rw [List.getElem?_eq_getElem hlt,hc2])
     rw [e1] at a1;cases a1
     rcases a2 with ⟨u,r1,r2,r3⟩ | ⟨z,_,_,_,_,r⟩
     ·obtain rfl:u=0:=by omega
      simp only [VL] at e2
      rcases JA e2 with ⟨h0,_⟩ | ⟨i',sz',es',h0,h1,h2⟩
      ·omega
      ·subst h2
       obtain ⟨k',c1,_,c3⟩:=q2.grow (1+j) _ (by
        have:=(jGj h1).1
        simp only [Qbg];omega) e2
       rw [r2] at c1;cases c1
       rw [Nat.add_comm j 1];exact c3 rfl
     ·cases r
inductive OLEs:List OC→List OC→Prop
 | nil:OLEs [] []
 | same (c:OC) {l m:List OC} (t:OLEs l m):OLEs (c::l) (c::m)
 | dat {x y:D} (h:LE x y) {l m:List OC} (t:OLEs l m):OLEs (.dat x::l) (.dat y::m)
theorem OLEs.refl:∀ l:List OC,OLEs l l
 | []=>.nil
 | c::l=>.same c (OLEs.refl l)
theorem OLEs.len {l m:List OC} (h:OLEs l m):l.length=m.length:=by
 induction h with
 | nil=>rfl
 | same _ _ ih=>simp [ih]
 | dat _ _ ih=>simp [ih]
theorem OLEs.get {l m:List OC} (h:OLEs l m):∀ (i:Nat) (c:OC),m[i]?=some c→l[i]?=some c ∨ ∃ x y,l[i]?=some (.dat x)∧c=.dat y∧LE x y:=by
 induction h with
 | nil=>intro i c h;simp at h
 | same c0 _ ih =>
  intro i c h
  cases i with
  | zero=>exact .inl (by simpa using h)
  | succ i=>simpa using ih i c (by simpa using h)
 | dat hxy _ ih =>
  intro i c h
  cases i with
  | zero =>
   simp only [List.getElem?_cons_zero,jIj] at h;subst h
   exact .inr ⟨_,_,rfl,rfl,hxy⟩
  | succ i=>simpa using ih i c (by simpa using h)
theorem OLEs.rows {l m:List OC} (h:OLEs l m):∀ i:Nat,KQ i l=KQ i m:=by
 induction h with
 | nil=>intro i;rfl
 | same c _ ih=>intro i;cases c <;> simp [KQ,ih]
 | dat _ _ ih=>intro i;simp [KQ,ih]
theorem OLEs.look {l m:List OC} (h:OLEs l m) {n:Nat} (hn:n≠0):look (Zt l) n=look (Zt m) n:=by
 rw [Zt,Zt,Qc _ _ (Ne.symm hn),Qc _ _ (Ne.symm hn),h.rows 1]
theorem LE.one {x y:D} (h:LE x y) (ho:(AV.d x).isOne=true):(AV.d y).isOne=true:=by
 cases h with
 | refl=>exact ho
 | lst=>rfl
 | tup=>simp [AV.isOne] at ho
 | agg=>simp [AV.isOne] at ho
theorem OLEs.mut {l m:List OC} (h:OLEs l m) {ρ:Nat→Value} {r:Nat}:Mut (Zt m) ρ r↔Mut (Zt l) ρ r:=by
 constructor
 ·rintro ⟨b,k,h1,h2,h3⟩
  by_cases hb:b=0
  ·subst hb;exact ⟨0,_,ZQ l,rfl,h3⟩
  ·exact ⟨b,k,by rw [h.look hb];exact h1,h2,h3⟩
 ·rintro ⟨b,k,h1,h2,h3⟩
  by_cases hb:b=0
  ·subst hb;exact ⟨0,_,ZQ m,rfl,h3⟩
  ·exact ⟨b,k,by rw [← h.look hb];exact h1,h2,h3⟩
theorem QbD {F:Nat→Prop} {cs:List OC} {ρ:Nat→Value} {w:World} (h:HSim cx F (Zt cs) ρ w) :
  ∃ r e,∃ ys:List Value,ρ 0=.pointer (some ⟨r,0,none⟩)∧w.heap[r]?=some (.cells ys.toArray e (0,0))∧ys.length=cs.length ∧
   (∀ (i:Nat) (c:AV),(JX 1 cs)[i]?=some c→c.isOne=true) ∧
   ∀ (i:Nat) (c:AV) (y:Value),(JX 1 cs)[i]?=some c→ys[i]?=some y→VR w (MM F (Zt cs) ρ) (Zt cs) ρ c y:=by
 obtain ⟨r,e,v,cs0,p1,p2,p3,p4⟩:=h.blk 0 _ (ZQ cs)
 obtain ⟨c1,c2,c3⟩:=VM p3 p4
 unfold AV.norm at p3 p4
 cases hy:(AV.agg (JX 1 cs)).toD with
 | some y =>
  simp only [hy] at p3 p4
  simp only [AV.toD] at hy
  split at hy
  case h_2=>cases hy
  rename_i ds hds
  simp only [jIj] at hy;subst hy
  have key:∀ (l:List AV) (ds:jVj),Kk l=some ds→(∀ (i:Nat) (c:AV),l[i]?=some c→(∃ x,c=.d x) ∨ ∃ b u,c=.own b u)→l=ds.map .d:=by
   intro l
   induction l with
   | nil=>intro ds h _;simp only [Kk,jIj] at h;subst h;rfl
   | cons x l ih =>
    intro ds h hk
    simp only [Kk] at h
    split at h
    case h_2=>cases h
    rename_i y ys hy hys
    simp only [jIj] at h;subst h
    rcases hk 0 x rfl with ⟨z,rfl⟩ | ⟨b,u,rfl⟩
    ·simp only [AV.toD,jIj] at hy;subst hy
     rw [jCj,← ih ys hys fun i c hc=>hk (i+1) c (by simpa using hc)]
    ·simp [AV.toD] at hy
  have hds2:=key _ _ hds fun i c hc=>by
   rw [Va] at hc
   split at hc
   ·cases hc
   ·cases hc;exact .inl ⟨_,rfl⟩
   ·cases hc;exact .inr ⟨_,_,rfl⟩
  have hcs:=UN p3
  cases p4 with
  | d _ _ hd =>
   cases hd with
   | agg _ ys hl hh =>
    refine ⟨r,e,ys,p1,p2,by rw [← hl,← UU cs 1,hds2,List.length_map],fun i c hc=>?_,fun i c y hc hy=>?_⟩
    ·refine VF c2 (j:=i) ?_
     rw [hcs];show (ds.map AV.d)[i]?=some c;rw [← hds2];exact hc
    ·rw [hds2,List.getElem?_map,Option.map_eq_some_iff] at hc
     obtain ⟨d,hd,rfl⟩:=hc
     exact .d _ _ (hh i d y hd hy)
 | none =>
  simp only [hy] at p3 p4
  simp only [AV.cells] at p3
  split at p3
  case h_2=>cases p3
  rename_i hone
  simp only [jIj] at p3;subst p3
  cases p4 with
  | agg _ ys hl hh=>exact ⟨r,e,ys,p1,p2,by rw [← hl,UU],fun i c hc=>VF hone hc,hh⟩
theorem HSim.objLE {F:Nat→Prop} {l m:List OC} {ρ:Nat→Value} {w:World} (h:HSim cx F (Zt l) ρ w) (ho:OLEs l m):HSim cx F (Zt m) ρ w:=by
 have hMM:∀ r,MM F (Zt m) ρ r→MM F (Zt l) ρ r:=fun r hr=>hr.imp id ho.mut.1
 refine ⟨fun b k hb=>?_,fun b b' k k' r h1 h2 m1 m2 r1 r2=>?_,fun r hr=>h.forb r (ho.mut.1 hr),h.bnd,fun g x hg=>(h.glob g x hg).ext (jLj _) (fun _ _ _=>rfl) fun r _ hm=>hMM r hm⟩
 ·rcases JA hb with ⟨rfl,rfl⟩ | ⟨i,sz,es,rfl,hc,rfl⟩
  ·obtain ⟨r,e,ys,p1,p2,p3,p4,p5⟩:=QbD h
   have hone:W5 (JX 1 m)=true:=by
    have:∀ (l:List AV),(∀ (i:Nat) (c:AV),l[i]?=some c→c.isOne=true)→W5 l=true:=by
     intro l
     induction l with
     | nil=>intro _;rfl
     | cons x l ih=>intro h;simp only [W5,jAj];exact ⟨h 0 x rfl,ih fun i c hc=>h (i+1) c (by simpa using hc)⟩
    refine this _ fun i c hc=>?_
    rw [Va] at hc
    split at hc
    ·cases hc
    ·rename_i y hy
     cases hc
     rcases ho.get i _ hy with h0 | ⟨x,y',h0,h1,h2⟩
     ·exact p4 i _ (by rw [Va,h0])
     ·cases h1
      exact h2.one (p4 i (.d x) (by rw [Va,h0]))
    ·cases hc;rfl
   obtain ⟨cs1,hcs1⟩:=Option.isSome_iff_exists.1 (EA hone)
   refine ⟨r,e,.agg ys.toArray,cs1,p1,p2,hcs1,Yn (.agg _ ys (by rw [UU,p3,ho.len]) fun i c y hc hy=>?_)⟩
   rw [Va] at hc
   split at hc
   ·cases hc
   ·rename_i z hz
    cases hc
    rcases ho.get i _ hz with h0 | ⟨x,y',h0,h1,h2⟩
    ·have:=p5 i (.d z) y (by rw [Va,h0]) hy
     cases this with
     | d _ _ hd=>exact .d _ _ (hd.ext (jLj _) (fun _ _ _=>rfl) fun r _ hm=>hMM r hm)
    ·cases h1
     have:=p5 i (.d x) y (by rw [Va,h0]) hy
     cases this with
     | d _ _ hd=>exact .d _ _ (DR.le h2 (hd.ext (jLj _) (fun _ _ _=>rfl) fun r _ hm=>hMM r hm))
   ·rename_i sz es hz
    cases hc
    rcases ho.get i _ hz with h0 | ⟨x,y',h0,h1,h2⟩
    ·have:=p5 i (.own (1+i) 0) y (by rw [Va,h0]) hy
     cases this with
     | own _ _ k _ hk hv ho' hh =>
      rw [Nat.add_comm,UB h0] at hk;cases hk
      exact .own _ 0 _ _ (by rw [Nat.add_comm];exact UB hz) (jLj _) ho' fun _=>hh rfl
    ·cases h1
  ·have h0:=hb
   rw [← ho.look (by omega)] at h0
   have:=h.blk (i+1) _ h0
   exact this.ext (jLj _) (fun _ _ _=>rfl) (fun r _ hm=>hMM r hm) (hp:=Zt l) ⟨fun b k hk=>by
    by_cases hb0:b=0
    ·subst hb0;rw [ZQ] at hk;cases hk;exact ⟨_,ZQ m,jLj _,fun _=>rfl⟩
    ·exact ⟨k,by rw [← ho.look hb0];exact hk,jLj _,fun _=>rfl⟩⟩ rfl (fun _ _ _=>rfl)
 ·have key:∀ {b:Nat} {k:Blk},look (Zt m) b=some k→k.live=true→∃ k',look (Zt l) b=some k'∧k'.live=true:=by
   intro b k hb hk
   by_cases hb0:b=0
   ·subst hb0;exact ⟨_,ZQ l,rfl⟩
   ·exact ⟨k,by rw [ho.look hb0];exact hb,hk⟩
  obtain ⟨a1,a2,a3⟩:=key h1 m1
  obtain ⟨b1,b2,b3⟩:=key h2 m2
  exact h.inj b b' a1 b1 r a2 b2 a3 b3 r1 r2
inductive ALE:AV→AV→Prop
 | refl (x:AV):ALE x x
 | d {x y:D} (h:LE x y):ALE (.d x) (.d y)
inductive ALEs:List AV→List AV→Prop
 | nil:ALEs [] []
 | cons {x y:AV} {xs ys:List AV} (h:ALE x y) (t:ALEs xs ys):ALEs (x::xs) (y::ys)
theorem ALEs.refl:∀ xs:List AV,ALEs xs xs
 | []=>.nil
 | _::xs=>.cons (.refl _) (ALEs.refl xs)
theorem ALEs.length {xs ys:List AV} (h:ALEs xs ys):xs.length=ys.length:=by induction h with
 | nil=>rfl
 | cons _ _ ih=>simp [ih]
theorem ALEs.get {xs ys:List AV} (h:ALEs xs ys):∀ (i:Nat) (x y:AV),xs[i]?=some x→ys[i]?=some y→ALE x y:=by
 induction h with
 | nil=>intro i x y hx;simp at hx
 | cons h _ ih =>
  intro i x y hx hy
  cases i with
  | zero=>simp at hx hy;subst hx;subst hy;exact h
  | succ i=>exact ih i x y (by simpa using hx) (by simpa using hy)
inductive OOLE:Option (List OC)→Option (List OC)→Prop
 | none:OOLE none none
 | some {l m:List OC} (h:OLEs l m):OOLE (some l) (some m)
theorem OOLE.refl:∀ i:Option (List OC),OOLE i i
 | .none=>.none
 | .some l=>.some (OLEs.refl l)
theorem ui {w:World} {M M' : Nat→Prop} {l m:List OC} {ρ:Nat→Value} (ho:OLEs l m) (hM:∀ r,M' r→M r) {x:AV} {v:Value} (h:VR w M (Zt l) ρ x v):VR w M' (Zt m) ρ x v :=
 h.ext (jLj _) (fun _ _ _=>rfl) (fun r _ hm=>hM r hm) ⟨fun b k hk=>by
  by_cases hb0:b=0
  ·subst hb0;rw [ZQ] at hk;cases hk;exact ⟨_,ZQ m,jLj _,fun _=>rfl⟩
  ·exact ⟨k,by rw [← ho.look hb0];exact hk,jLj _,fun _=>rfl⟩⟩
theorem ALE.vr {w:World} {M:Nat→Prop} {hp:List (Nat×Blk)} {ρ:Nat→Value} {x y:AV} (h:ALE x y) {v:Value} (hv:VR w M hp ρ x v):VR w M hp ρ y v:=by
 cases h with
 | refl=>exact hv
 | d h=>cases hv with
  | d _ _ hd=>exact .d _ _ (DR.le h hd)
theorem ComputesO.le {f:FuncId} {args args' : List AV} {i i' : Option (List OC)} {r r' : AV} {cs cs' : List OC} {ks:List Bool} (h:ComputesO cx f args i r cs ks) (ha:ALEs args' args) (hi:OOLE i' i) (hr:ALE r r') (hc:OLEs cs cs'):ComputesO cx f args' i' r' cs' ks:=by
 intro w F ρ vs hs hl hv
 have key:HSim cx F (VL i) ρ w∧(∀ r,Mut (VL i) ρ r↔Mut (VL i') ρ r)∧(∀ (x:AV) (v:Value),VR w (MM F (VL i') ρ) (VL i') ρ x v→VR w (MM F (VL i) ρ) (VL i) ρ x v)∧(i'.isSome=true→i.isSome=true):=by
  cases hi with
  | none=>exact ⟨hs,fun _=>Iff.rfl,fun _ _ h=>h,fun h=>h⟩
  | some ho=>exact ⟨hs.objLE ho,fun r=>ho.mut,fun x v hx=>ui ho (fun r hm=>hm.imp id ho.mut.1) hx,fun _=>rfl⟩
 obtain ⟨k1,k2,k3,k4⟩:=key
 refine (h w F ρ vs k1 (by rw [← ha.length];exact hl) fun k c y hk hy=>?_).mono ?_
 ·have hlt:k < args'.length:=by rw [ha.length];exact (jGj hk).1
  exact (ha.get k args'[k] c (by simp [hlt]) hk).vr (k3 _ _ (hv k args'[k] y (by simp [hlt]) hy))
 ·rintro e w' ⟨y,ρ',rfl,q1,q2,q3,q4,q5⟩
  exact ⟨y,ρ',rfl,q1.objLE hc,hr.vr (ui hc (fun r hm=>hm.imp id hc.mut.1) q2),q3.mono fun r hm=>(k2 r).1 hm,fun q hq hm=>(k2 q).1 (q4 q hq (hc.mut.1 hm)),fun hi'=>⟨(q5 (k4 hi')).1,fun j sz es hj hr=>by
   rcases hc.get j _ hr with h | ⟨x,y,_,h,_⟩
   ·exact (q5 (k4 hi')).2 j sz es hj h
   ·cases h⟩⟩
end Go.SX
