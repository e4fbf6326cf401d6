/- Own texts. -/
import Derived.Test.YtiefmhacicemhaaGreatDoorSxTwentyFive
import Derived.Test.YtiefmhacicemhaaGreatDoorCmpT1
import Derived.WalkKit
import Derived.WalkSpells
import Derived.WalkLawsBesides
import Derived.Shelf.SlGeneric
import Derived.Shelf.SlLaysF0
import Derived.Shelf.SlSortCmp.WholeK
import Derived.Laws.Externs
import Derived.Shelf.Strings.OnBuilder
import Derived.Shelf.LaysM
set_option linter.unusedVariables false
set_option linter.unusedSimpArgs false
set_option linter.unnecessarySimpa false
namespace Go.Proofs.YtiefmhacicemhaaGreatDoor
open Go.SX
abbrev Pt:=Int×Int
def Qx:List Int→Int
 | []=>0
 | x::l=>if x=0 then Qx l else x
theorem Kj {α β:Type} {f:α→β} {l:List α} {i:Nat} {x:α} (h:l[i]?=some x):(i:Int) < ((l.map f).length:Int):=by
 have:=(List.getElem?_eq_some_iff.1 h).1
 simp;omega
def fG (_:Unit) (x:Int):Unit⊕(Int⊕Unit):=if x=0 then .inl () else .inr (.inl x)
theorem KK:∀ (l:List Int),KL fG (fun _=>.inr ()) l ()=if Qx l=0 then .inr () else .inl (Qx l)
 | []=>rfl
 | x::l=>by
  unfold KL fG
  by_cases h:x=0
  ·rw [if_pos h];simp only [Qx,if_pos h];exact KK l
  ·rw [if_neg h];simp only [Qx,if_neg h]
end Go.Proofs.YtiefmhacicemhaaGreatDoor
set_option maxRecDepth 20000
namespace Go.Geo
abbrev P2:=Int×Int
def lft (p q r:P2):Int:=(q.1 - p.1) * (r.2 - p.2) - (q.2 - p.2) * (r.1 - p.1)
def lx (p q:P2):Prop:=p.1 < q.1 ∨ (p.1=q.1∧p.2 < q.2)
def neg (p:P2):P2:=(-p.1,-p.2)
theorem Ey {k z:Int} (hk:0 < k) (h:0≤k * z):0≤z:=by
 rcases Int.lt_or_le z 0 with hz | hz
 ·have:=Int.mul_neg_of_pos_of_neg hk hz;omega
 ·exact hz
theorem QbR {k z:Int} (hk:0 < k) (h:0 < k * z):0 < z:=by
 rcases Int.lt_or_le 0 z with hz | hz
 ·exact hz
 ·have:=Int.mul_nonneg (Int.le_of_lt hk) (show 0≤-z by omega)
  rw [Int.mul_neg] at this;omega
theorem Yo {k z:Int} (hk:k≠0) (h:k * z=0):z=0:=by
 rcases Int.mul_eq_zero.1 h with h | h
 ·exact absurd h hk
 ·exact h
theorem QcY {k z:Int} (hk:k < 0) (h:0≤k * z):z≤0:=by
 have:=Ey (k:=-k) (z:=-z) (by omega) (by rw [Int.neg_mul_neg];exact h)
 omega
theorem jx {ux uy ex ey wx wy:Int} (hu:0 < ux ∨ ux=0∧0≤uy) (he:0 < ex ∨ ex=0∧0 < ey) (hw:0 < wx ∨ wx=0∧0≤wy)
  (h1:0≤ux * ey - uy * ex) (h2:0≤ex * wy - ey * wx):0≤ux * wy - uy * wx:=by
 rcases he with he | ⟨rfl,he⟩
 ·refine Ey he ?_
  have e:ex * (ux * wy - uy * wx)=ux * (ex * wy - ey * wx)+wx * (ux * ey - uy * ex):=by grind
  rw [e]
  have:=Int.mul_nonneg (show 0≤ux by omega) h2
  have:=Int.mul_nonneg (show 0≤wx by omega) h1
  omega
 ·have hwx:wx=0:=by
   have h3:0≤ey * -wx:=by rw [Int.mul_neg];omega
   have:=Ey he h3
   omega
  subst hwx
  have:=Int.mul_nonneg (show 0≤ux by omega) (show 0≤wy by omega)
  simpa using this
theorem Qc4 {ux uy vx vy wx wy:Int} (hu:0 < ux ∨ ux=0∧0 < uy) (hv:0 < vx ∨ vx=0∧0 < vy) (hw:0 < wx ∨ wx=0∧0 < wy)
  (h1:0 < ux * vy - uy * vx) (h2:0 < vx * wy - vy * wx):0 < ux * wy - uy * wx:=by
 rcases hv with hv | ⟨rfl,hv⟩
 ·refine QbR hv ?_
  have e:vx * (ux * wy - uy * wx)=ux * (vx * wy - vy * wx)+wx * (ux * vy - uy * vx):=by grind
  rw [e]
  have h3:=Int.mul_nonneg (show 0≤wx by omega) (Int.le_of_lt h1)
  rcases hu with hu | ⟨rfl,hu⟩
  ·have:=Int.mul_pos hu h2
   omega
  ·have:=Int.mul_pos hu hv
   simp at h1;omega
 ·rcases hw with hw | ⟨rfl,hw⟩
  ·have:=Int.mul_pos hv hw
   simp at h2;omega
  ·simp at h2
theorem lx_tri (p q:P2):p=q ∨ lx p q ∨ lx q p:=by
 obtain ⟨a,b⟩:=p
 obtain ⟨c,d⟩:=q
 simp only [lx,Prod.mk.injEq];omega
theorem lx_trans {p q r:P2} (h:lx p q) (h' : lx q r):lx p r:=by unfold lx at *;omega
theorem lx_irr {p q:P2} (h:lx p q) (h' : lx q p):False:=by unfold lx at *;omega
theorem Ez {p:P2} (h:lx p p):False:=lx_irr h h
theorem Qb3 (p q r:P2):lft p q r=- lft p r q:=by unfold lft;grind
theorem Ki (p q:P2):lft p q q=0:=by unfold lft;grind
theorem wT (p q:P2):lft p q p=0:=by unfold lft;grind
theorem qB (p q r:P2):lft (neg p) (neg q) (neg r)=lft p q r:=by unfold lft neg;grind
theorem jT (p q:P2):lx (neg p) (neg q)↔lx q p:=by unfold lx neg;omega
theorem VO (p:P2):neg (neg p)=p:=by unfold neg;simp
def pop (x:P2):List P2→List P2
 | b::a::r=>if lft a b x≤0 then pop x (a::r) else b::a::r
 | s=>s
def Vk (s:List P2) (x:P2):List P2:=x::pop x s
def Zg (l:List P2):List P2:=l.foldl Vk []
def Cv (P:P2→Prop):List P2→Prop
 | b::a::r=>lx a b∧(∀ y,P y→0≤lft a b y)∧(∀ z r',r=z::r'→0 < lft z a b)∧Cv P (a::r)
 | _=>True
theorem QbS {P:P2→Prop} {x c0:P2} (hx:∀ y,P y→lx y x) (hmin:∀ y,P y→y=c0 ∨ lx c0 y) :
  ∀ (s:List P2) (b:P2),Cv P (b::s)→(∀ m,m∈b::s→P m)→(b::s).getLast?=some c0→(∀ y,P y→(y=b ∨ lx b y)→0≤lft b x y) →
   ∃ t r,pop x (b::s)=t::r∧Cv P (t::r)∧(∀ m,m∈t::r→P m)∧(t::r).getLast?=some c0∧(∀ y,P y→0≤lft t x y)∧(∀ z r',r=z::r'→0 < lft z t x)
 | [],b,hc,hm,hl,hq=>by
  refine ⟨b,[],rfl,hc,hm,hl,fun y hy=>hq y hy ?_,fun z r' h=>by cases h⟩
  have:b=c0:=by simpa using hl
  rw [this];exact hmin y hy
 | a::r,b,hc,hm,hl,hq=>by
  obtain ⟨c1,c2,c3,c4⟩:=hc
  have hb:=hm b (by simp)
  have ha:=hm a (by simp)
  by_cases h:lft a b x≤0
  ·have e:pop x (b::a::r)=pop x (a::r):=by simp [pop,h]
   rw [e]
   refine QbS hx hmin r a c4 (fun m hm'=>hm m (List.mem_cons_of_mem _ hm')) (by rw [List.getLast?_cons_cons] at hl;exact hl) ?_
   intro y hy hya
   have h1:=c2 y hy
   have hax:=hx a ha
   unfold lft lx at *
   have:=jx (ux:=x.1 - a.1) (uy:=x.2 - a.2) (ex:=b.1 - a.1) (ey:=b.2 - a.2) (wx:=y.1 - a.1) (wy:=y.2 - a.2) (by omega) (by omega)
    (by rcases hya with rfl | hya <;> omega) (by rw [Int.mul_comm (x.1 - a.1),Int.mul_comm (x.2 - a.2)];omega) h1
   exact this
  ·have e:pop x (b::a::r)=b::a::r:=by simp [pop,h]
   refine ⟨b,a::r,e,⟨c1,c2,c3,c4⟩,hm,hl,fun y hy=>?_,fun z r' hz=>by cases hz;omega⟩
   rcases lx_tri y b with hyb | hyb | hyb
   ·exact hq y hy (.inl hyb)
   ·have h1:=c2 y hy
    have hbx:=hx b hb
    have e1:lft a b y=(b.1 - y.1) * (b.2 - a.2) - (b.2 - y.2) * (b.1 - a.1):=by unfold lft;grind
    have e2:lft a b x=(b.1 - a.1) * (x.2 - b.2) - (b.2 - a.2) * (x.1 - b.1):=by unfold lft;grind
    have e3:lft b x y=(b.1 - y.1) * (x.2 - b.2) - (b.2 - y.2) * (x.1 - b.1):=by unfold lft;grind
    rw [e1] at h1
    rw [e2] at h
    rw [e3]
    unfold lx at *
    exact jx (by omega) (by omega) (by omega) h1 (by omega)
   ·exact hq y hy (.inr hyb)
theorem Qcl {P:P2→Prop} {x:P2} (hx:∀ y,P y→lx y x):∀ (r:List P2) (t z:P2),Cv P (t::z::r)→(∀ m,m∈t::z::r→P m)→0 < lft z t x→Cv (fun y=>P y ∨ y=x) (t::z::r)
 | [],t,z,hc,hm,h=>by
  obtain ⟨c1,c2,c3,c4⟩:=hc
  refine ⟨c1,fun y hy=>?_,c3,trivial⟩
  rcases hy with hy | rfl
  ·exact c2 y hy
  ·omega
 | v::r,t,z,hc,hm,h=>by
  obtain ⟨c1,c2,c3,c4⟩:=hc
  have h3:=c3 v r rfl
  refine ⟨c1,fun y hy=>?_,c3,Qcl hx r z v c4 (fun m hm'=>hm m (List.mem_cons_of_mem _ hm')) ?_⟩
  ·rcases hy with hy | rfl
   ·exact c2 y hy
   ·omega
  ·have hz:=hx z (hm z (by simp))
   have hv:=c4.1
   have e1:lft v z t=(z.1 - v.1) * (t.2 - z.2) - (z.2 - v.2) * (t.1 - z.1):=by unfold lft;grind
   have e2:lft z t x=(t.1 - z.1) * (x.2 - z.2) - (t.2 - z.2) * (x.1 - z.1):=by unfold lft;grind
   have e3:lft v z x=(z.1 - v.1) * (x.2 - z.2) - (z.2 - v.2) * (x.1 - z.1):=by unfold lft;grind
   rw [e1] at h3
   rw [e2] at h
   rw [e3]
   unfold lx at *
   exact Qc4 (by omega) (by omega) (by omega) h3 h
structure Inv (P:P2→Prop) (c0 top:P2) (s:List P2):Prop where
 cv:Cv P s
 hd:∃ r,s=top::r
 lst:s.getLast?=some c0
 mem:∀ m,m∈s→P m
 max:∀ y,P y→y=top ∨ lx y top
 min:∀ y,P y→y=c0 ∨ lx c0 y
theorem Inv.step {P:P2→Prop} {c0 top x:P2} {s:List P2} (h:Inv P c0 top s) (hx:lx top x):Inv (fun y=>P y ∨ y=x) c0 x (Vk s x):=by
 obtain ⟨cv,⟨r,rfl⟩,lst,mem,max,min⟩:=h
 have hall:∀ y,P y→lx y x:=fun y hy=>by
  rcases max y hy with rfl | h
  ·exact hx
  ·exact lx_trans h hx
 obtain ⟨t,r',e,t1,t2,t3,t4,t5⟩:=QbS hall min r top cv mem lst (fun y hy hyt=>by
  rcases hyt with rfl | hyt
  ·rw [wT];omega
  ·rcases max y hy with rfl | h
   ·rw [wT];omega
   ·exact (lx_irr h hyt).elim)
 unfold Vk
 rw [e]
 have htop:=mem top (by simp)
 refine ⟨⟨hall t (t2 t (by simp)),fun y hy=>?_,t5,?_⟩,⟨_,rfl⟩,by rw [List.getLast?_cons_cons];exact t3,fun m hm=>?_,fun y hy=>?_,fun y hy=>?_⟩
 ·rcases hy with hy | rfl
  ·exact t4 y hy
  ·rw [Ki];omega
 ·cases r' with
  | nil=>trivial
  | cons z r2=>exact Qcl hall r2 t z t1 t2 (t5 z r2 rfl)
 ·rcases List.mem_cons.1 hm with rfl | hm
  ·exact .inr rfl
  ·exact .inl (t2 m hm)
 ·rcases hy with hy | rfl
  ·exact .inr (hall y hy)
  ·exact .inl rfl
 ·rcases hy with hy | rfl
  ·exact min y hy
  ·refine .inr ?_
   rcases min top htop with h | h
   ·rw [← h];exact hx
   ·exact lx_trans h hx
theorem Inv.run {c0:P2}:∀ (l:List P2) {P:P2→Prop} {top:P2} {s:List P2},Inv P c0 top s→(top::l).Pairwise lx →
  ∃ top',Inv (fun y=>P y ∨ y∈l) c0 top' (l.foldl Vk s)
 | [],P,top,s,h,_=>⟨top,by simpa using h⟩
 | x::l,P,top,s,h,hp=>by
  rw [List.pairwise_cons] at hp
  obtain ⟨t,ht⟩:=Inv.run l (h.step (hp.1 x (by simp))) hp.2
  refine ⟨t,?_⟩
  have e:(fun y=>(P y ∨ y=x) ∨ y∈l)=(fun y=>P y ∨ y∈x::l):=by
   funext y;simp only [List.mem_cons,eq_iff_iff]
   constructor
   ·rintro ((h | h) | h)
    ·exact .inl h
    ·exact .inr (.inl h)
    ·exact .inr (.inr h)
   ·rintro (h | h | h)
    ·exact .inl (.inl h)
    ·exact .inl (.inr h)
    ·exact .inr h
  rw [e] at ht
  exact ht
theorem jp (a:P2) (l:List P2) (hp:(a::l).Pairwise lx):∃ top,Inv (fun y=>y∈a::l) a top (Zg (a::l)):=by
 have h0:Inv (fun y=>y=a) a a [a]:=⟨trivial,⟨_,rfl⟩,rfl,fun m hm=>by simpa using hm,fun y hy=>.inl hy,fun y hy=>.inl hy⟩
 obtain ⟨t,ht⟩:=Inv.run l h0 hp
 refine ⟨t,?_⟩
 have e:(fun y=>y=a ∨ y∈l)=(fun y=>y∈a::l):=by funext y;simp
 rw [e] at ht
 exact ht
structure Ch (S:P2→Prop) (f:Nat→P2) (m:Nat):Prop where
 mem:∀ i,i≤m→S (f i)
 weak:∀ i,i < m→∀ y,S y→0≤lft (f i) (f (i+1)) y
 turn:∀ i,i+1 < m→0 < lft (f i) (f (i+1)) (f (i+2))
 up:∀ i,i < m→lx (f i) (f (i+1))
 mx:∀ y,S y→y=f m ∨ lx y (f m)
 mn:∀ y,S y→y=f 0 ∨ lx (f 0) y
def rg (s:List P2) (i:Nat):P2:=s.reverse.getD i (0,0)
theorem kS {b:P2} {s:List P2} {i:Nat} (h:i < s.length):rg (b::s) i=rg s i:=by
 unfold rg
 rw [List.reverse_cons,List.getD_eq_getElem?_getD,List.getElem?_append_left (by simpa using h),← List.getD_eq_getElem?_getD]
theorem wF {b:P2} {s:List P2}:rg (b::s) s.length=b:=by
 unfold rg
 rw [List.reverse_cons,List.getD_eq_getElem?_getD,List.getElem?_append_right (by simp)];simp
theorem Qc7 {s:List P2} {i:Nat} (h:i < s.length):rg s i∈s:=by
 unfold rg
 have hl:i < s.reverse.length:=by simpa using h
 rw [List.getD_eq_getElem?_getD,List.getElem?_eq_getElem hl]
 simp
theorem Cv.idx {P:P2→Prop}:∀ (s:List P2),Cv P s→∀ i,i+1 < s.length→lx (rg s i) (rg s (i+1))∧(∀ y,P y→0≤lft (rg s i) (rg s (i+1)) y)∧(i+2 < s.length→0 < lft (rg s i) (rg s (i+1)) (rg s (i+2)))
 | [],_,i,h=>by simp at h
 | [a],_,i,h=>by simp at h
 | b::a::r,hc,i,h=>by
  obtain ⟨c1,c2,c3,c4⟩:=hc
  have hl:(a::r).length=r.length+1:=rfl
  by_cases hi:i+1 < (a::r).length
  ·obtain ⟨i1,i2,i3⟩:=Cv.idx (a::r) c4 i hi
   rw [kS (b:=b) hi,kS (b:=b) (s:=a::r) (i:=i) (by omega)]
   refine ⟨i1,i2,fun h2=>?_⟩
   by_cases h3:i+2 < (a::r).length
   ·rw [kS (b:=b) h3];exact i3 h3
   ·have e:i+2=(a::r).length:=by simp only [List.length_cons] at h2 h3 ⊢;omega
    rw [e,wF]
    cases r with
    | nil=>simp at e
    | cons z r' =>
     have e1:i+1=(z::r').length:=by simp only [List.length_cons] at e ⊢;omega
     have e0:i=r'.length:=by simp only [List.length_cons] at e;omega
     have h1:rg (a::z::r') (i+1)=a:=by rw [e1];exact wF
     have h0:rg (a::z::r') i=z:=by
      rw [kS (by simp only [List.length_cons];omega),e0];exact wF
     rw [h1,h0]
     exact c3 z r' rfl
  ·have e:i+1=(a::r).length:=by simp only [List.length_cons] at h hi ⊢;omega
   have e0:i=r.length:=by simp only [List.length_cons] at e;omega
   have h0:rg (b::a::r) i=a:=by
    rw [kS (by simp only [List.length_cons];omega),e0];exact wF
   rw [e,wF,h0]
   refine ⟨c1,c2,fun h2=>?_⟩
   simp only [List.length_cons] at h2 e;omega
theorem Inv.ch {P:P2→Prop} {c0 top:P2} {s:List P2} (h:Inv P c0 top s):Ch P (rg s) (s.length - 1):=by
 obtain ⟨cv,⟨r,hr⟩,lst,mem,max,min⟩:=h
 have hl:s.length=r.length+1:=by rw [hr];rfl
 have hi:=Cv.idx s cv
 have ht:rg s (s.length - 1)=top:=by
  have:s.length - 1=r.length:=by omega
  rw [this,hr];exact wF
 have h0:rg s 0=c0:=by
  unfold rg
  rw [List.getD_eq_getElem?_getD,← List.head?_eq_getElem?,List.head?_reverse,lst];rfl
 exact ⟨fun i hi=>mem _ (Qc7 (by omega)),fun i h=>(hi i (by omega)).2.1,fun i h=>(hi i (by omega)).2.2 (by omega),fun i h=>(hi i (by omega)).1,by rw [ht];exact max,by rw [h0];exact min⟩
def crs (u v:P2):Int:=u.1 * v.2 - u.2 * v.1
def sub (p q:P2):P2:=(p.1 - q.1,p.2 - q.2)
theorem jW (p q r:P2):lft p q r=crs (sub q p) (sub r p):=rfl
theorem yp (p q r:P2):lft p q r=crs (sub q p) (sub r q):=by unfold lft crs sub;grind
theorem opp {d w v:P2} (hd:0 < d.1 ∨ d.1=0∧0 < d.2) (hw:w.1 < 0 ∨ w.1=0∧w.2 < 0) (h:crs d w=0) (hv:0≤crs w v):crs d v≤0:=by
 unfold crs at *
 rcases hd with hd | ⟨hd1,hd2⟩
 ·have hw1:w.1 < 0:=by
   rcases hw with hw | ⟨hw1,hw2⟩
   ·exact hw
   ·have:=Int.mul_neg_of_pos_of_neg hd hw2
    rw [hw1] at h
    simp at h;omega
  have e:d.1 * (w.1 * v.2 - w.2 * v.1)=w.1 * (d.1 * v.2 - d.2 * v.1):=by grind
  have:=Int.mul_nonneg (Int.le_of_lt hd) hv
  rw [e] at this
  exact QcY hw1 this
 ·have hw1:w.1=0:=by
   rw [hd1] at h
   have h' : d.2 * w.1=0:=by omega
   exact Yo (by omega) h'
  have hw2:w.2 < 0:=by omega
  rw [hw1] at hv
  have h2:0≤w.2 * -v.1:=by rw [Int.mul_neg];omega
  have h3:=QcY hw2 h2
  have h4:=Int.mul_nonneg (Int.le_of_lt hd2) (show 0≤v.1 by omega)
  rw [hd1];omega
theorem par {d u v:P2} (hd:d≠(0,0)) (hu:crs d u=0) (hv:crs d v=0):crs u v=0:=by
 unfold crs at *
 have e1:d.1 * (u.1 * v.2 - u.2 * v.1)=u.1 * (d.1 * v.2 - d.2 * v.1) - v.1 * (d.1 * u.2 - d.2 * u.1):=by grind
 have e2:d.2 * (u.1 * v.2 - u.2 * v.1)=u.2 * (d.1 * v.2 - d.2 * v.1) - v.2 * (d.1 * u.2 - d.2 * u.1):=by grind
 rw [hu,hv] at e1 e2
 simp only [Int.mul_zero,Int.sub_self] at e1 e2
 by_cases h1:d.1=0
 ·have h2:d.2≠0:=fun h2=>hd (Prod.ext h1 h2)
  exact Yo h2 e2
 ·exact Yo h1 e1
structure Two (S:P2→Prop) (lo:Nat→P2) (m:Nat) (up:Nat→P2) (k:Nat):Prop where
 low:Ch S lo m
 upp:Ch (fun y=>S (neg y)) (fun j=>neg (up j)) k
theorem Two.upS {S lo m up k} (h:Two S lo m up k) {j:Nat} (hj:j≤k):S (up j):=by have:=h.upp.mem j hj;rwa [VO] at this
theorem Two.upW {S lo m up k} (h:Two S lo m up k) {j:Nat} (hj:j < k) {y:P2} (hy:S y):0≤lft (up j) (up (j+1)) y:=by
 have:=h.upp.weak j hj (neg y) (by rwa [VO])
 rwa [qB] at this
theorem Two.upT {S lo m up k} (h:Two S lo m up k) {j:Nat} (hj:j+1 < k):0 < lft (up j) (up (j+1)) (up (j+2)):=by
 have:=h.upp.turn j hj
 rwa [qB] at this
theorem Two.upL {S lo m up k} (h:Two S lo m up k) {j:Nat} (hj:j < k):lx (up (j+1)) (up j):=(jT _ _).1 (h.upp.up j hj)
theorem Two.z {S lo m up k} (h:Two S lo m up k):lo m=up 0:=by
 rcases h.low.mx (up 0) (h.upS (Nat.zero_le _)) with e | e
 ·exact e.symm
 ·rcases h.upp.mn (neg (lo m)) (by rw [VO];exact h.low.mem m (Nat.le_refl _)) with e2 | e2
  ·have:=congrArg neg e2;rwa [VO,VO] at this
  ·exact (lx_irr e ((jT _ _).1 e2)).elim
theorem Two.a {S lo m up k} (h:Two S lo m up k):lo 0=up k:=by
 rcases h.low.mn (up k) (h.upS (Nat.le_refl _)) with e | e
 ·exact e.symm
 ·rcases h.upp.mx (neg (lo 0)) (by rw [VO];exact h.low.mem 0 (Nat.zero_le _)) with e2 | e2
  ·have:=congrArg neg e2;rwa [VO,VO] at this
  ·exact (lx_irr e ((jT _ _).1 e2)).elim
theorem Two.swap {S lo m up k} (h:Two S lo m up k):Two (fun y=>S (neg y)) (fun j=>neg (up j)) k (fun i=>neg (lo i)) m :=
 ⟨h.upp,by simp only [VO];exact h.low⟩
theorem Ch.mono {S f m} (h:Ch S f m) {i j:Nat} (hij:i < j) (hj:j≤m):lx (f i) (f j):=by
 induction j with
 | zero=>omega
 | succ j ih =>
  rcases Nat.lt_or_ge i j with h1 | h1
  ·exact lx_trans (ih h1 (by omega)) (h.up j (by omega))
  ·have:i=j:=by omega
   subst this;exact h.up i (by omega)
theorem QbD {p q:P2} (h:lx p q):sub q p≠(0,0):=by
 intro e
 unfold sub at e
 simp only [Prod.mk.injEq] at e
 unfold lx at h;omega
theorem za {d p q r s:P2} (hd:d≠(0,0)) (h1:crs d (sub p s)=0) (h2:crs d (sub q s)=0) (h3:crs d (sub r s)=0):lft p q r=0:=by
 have g1:crs d (sub q p)=0:=by unfold crs sub at *;grind
 have g2:crs d (sub r p)=0:=by unfold crs sub at *;grind
 rw [jW]
 exact par hd g1 g2
theorem Two.jz {S lo m up k} (h:Two S lo m up k) (hm:0 < m) (hk:0 < k) (hn:3≤m+k):0 < lft (lo (m - 1)) (lo m) (up 1):=by
 have hl:=h.low.up (m - 1) (by omega)
 have hu:=h.upL (j:=0) hk
 have em:m - 1+1=m:=by omega
 rw [em] at hl
 have hw:=fun y hy=>h.low.weak (m - 1) (by omega) y hy
 rw [em] at hw
 have hz:=h.z
 rcases Int.lt_or_le 0 (lft (lo (m - 1)) (lo m) (up 1)) with hp | hp
 ·exact hp
 exfalso
 have h0:lft (lo (m - 1)) (lo m) (up 1)=0:=by have:=hw _ (h.upS (j:=1) (by omega));omega
 have hd:=QbD hl
 have hall:∀ y,S y→crs (sub (lo m) (lo (m - 1))) (sub y (lo m))=0:=by
  intro y hy
  have h1:=hw y hy
  have h2:=h.upW hk hy
  rw [← hz] at h2
  rw [yp] at h1
  rw [jW] at h2
  rw [yp] at h0
  rw [← hz] at hu
  simp only [Nat.zero_add] at hu h2
  have g1:0 < (sub (lo m) (lo (m - 1))).1 ∨ (sub (lo m) (lo (m - 1))).1=0∧0 < (sub (lo m) (lo (m - 1))).2:=by unfold sub lx at *;simp only;omega
  have g2:(sub (up 1) (lo m)).1 < 0 ∨ (sub (up 1) (lo m)).1=0∧(sub (up 1) (lo m)).2 < 0:=by unfold sub lx at *;simp only;omega
  have:=opp g1 g2 h0 h2
  omega
 rcases Nat.lt_or_ge 1 m with hm1 | hm1
 ·have ht:=h.low.turn (m - 2) (by omega)
  have e1:m - 2+1=m - 1:=by omega
  have e2:m - 2+2=m:=by omega
  rw [e1,e2] at ht
  have:=za hd (hall _ (h.low.mem (m - 2) (by omega))) (hall _ (h.low.mem (m - 1) (by omega))) (hall _ (h.low.mem m (by omega)))
  omega
 ·have ht:=h.upT (j:=0) (by omega)
  have:=za hd (hall _ (h.upS (j:=0) (by omega))) (hall _ (h.upS (j:=1) (by omega))) (hall _ (h.upS (j:=2) (by omega)))
  simp only [Nat.zero_add] at ht
  omega
theorem Two.ja {S lo m up k} (h:Two S lo m up k) (hm:0 < m) (hk:0 < k) (hn:3≤m+k):0 < lft (up (k - 1)) (up k) (lo 1):=by
 have:=h.swap.jz hk hm (by omega)
 rwa [qB] at this
def ring (lo:Nat→P2) (m:Nat) (up:Nat→P2) (i:Nat):P2:=if i≤m then lo i else up (i - m)
theorem WI {lo m up i} (h:i≤m):ring lo m up i=lo i:=if_pos h
theorem Two.ring_up {S lo m up k} (h:Two S lo m up k) {i:Nat} (hi:m≤i):ring lo m up i=up (i - m):=by
 unfold ring
 split
 ·have:i=m:=by omega
  subst this;rw [Nat.sub_self];exact h.z
 ·rfl
structure Ring (S:P2→Prop) (f:Nat→P2) (n:Nat):Prop where
 mem:∀ i,i≤n→S (f i)
 back:f n=f 0
 weak:∀ i,i < n→∀ y,S y→0≤lft (f i) (f (i+1)) y
 turn:∀ i,i+1 < n→0 < lft (f i) (f (i+1)) (f (i+2))
 close:0 < lft (f (n - 1)) (f n) (f 1)
 inj:∀ i j,i < n→j < n→f i=f j→i=j
 mn:∀ y,S y→y=f 0 ∨ lx (f 0) y
theorem Two.disj {S lo m up k} (h:Two S lo m up k) {i j:Nat} (hi:i < m) (hj:j < k):lo i≠up j:=by
 intro e
 rcases Nat.eq_zero_or_pos j with rfl | hj0
 ·rw [← h.z] at e
  have:=h.low.mono hi (Nat.le_refl m)
  rw [e] at this;exact Ez this
 ·have hv:=h.low.up i hi
  have hw:=h.low.weak i hi
  have ht:=h.upT (j:=j - 1) (by omega)
  have e1:j - 1+1=j:=by omega
  have e2:j - 1+2=j+1:=by omega
  rw [e1,e2] at ht
  have l1:=h.upL (j:=j - 1) (by omega)
  rw [e1] at l1
  have l2:=h.upL (j:=j) hj
  have w1:=hw (up (j - 1)) (h.upS (by omega))
  have w2:=hw (up (j+1)) (h.upS (by omega))
  rw [e] at hv w1 w2
  have hnext:=lo (i+1)
  generalize up (j - 1)=o at *
  generalize up (j+1)=q at *
  generalize up j=p at *
  generalize lo (i+1)=v at *
  -- q < p < o,v > p;the turn o,p,q;o and q on the left of p,v
  have t1:lft p v q=(p.1 - q.1) * (v.2 - p.2) - (p.2 - q.2) * (v.1 - p.1):=by unfold lft;grind
  have t2:lft p v o=(v.1 - p.1) * (o.2 - p.2) - (v.2 - p.2) * (o.1 - p.1):=by unfold lft;grind
  have t3:lft o p q=- ((p.1 - q.1) * (o.2 - p.2) - (p.2 - q.2) * (o.1 - p.1)):=by unfold lft;grind
  rw [t1] at w2
  rw [t2] at w1
  rw [t3] at ht
  unfold lx at *
  have:=jx (ux:=p.1 - q.1) (uy:=p.2 - q.2) (ex:=v.1 - p.1) (ey:=v.2 - p.2) (wx:=o.1 - p.1) (wy:=o.2 - p.2) (by omega) (by omega) (by omega) w2 w1
  omega
theorem Two.ring {S lo m up k} (h:Two S lo m up k) (hm:0 < m) (hk:0 < k) (hn:3≤m+k):Ring S (ring lo m up) (m+k):=by
 refine ⟨fun i hi=>?_,?_,fun i hi y hy=>?_,fun i hi=>?_,?_,fun i j hi hj e=>?_,?_⟩
 ·unfold Geo.ring
  split
  ·exact h.low.mem _ (by omega)
  ·exact h.upS (by omega)
 ·rw [h.ring_up (by omega),WI (Nat.zero_le _),h.a]
  congr 1;omega
 ·rcases Nat.lt_or_ge i m with h1 | h1
  ·rw [WI (by omega),WI (by omega)];exact h.low.weak i h1 y hy
  ·rw [h.ring_up h1,h.ring_up (by omega),show i+1 - m=i - m+1 by omega]
   exact h.upW (by omega) hy
 ·rcases Nat.lt_or_ge (i+1) m with h1 | h1
  ·rw [WI (by omega),WI (by omega),WI (by omega)];exact h.low.turn i h1
  ·rcases Nat.lt_or_ge i m with h2 | h2
   ·have e:m=i+1:=by omega
    have:=h.jz hm hk hn
    rw [WI (by omega),WI (by omega),h.ring_up (by omega)]
    rw [e] at this ⊢
    rw [show i+2 - (i+1)=1 by omega]
    exact this
   ·rw [h.ring_up h2,h.ring_up (by omega),h.ring_up (by omega),show i+1 - m=i - m+1 by omega,show i+2 - m=i - m+2 by omega]
    exact h.upT (by omega)
 ·have:=h.ja hm hk hn
  rw [h.ring_up (by omega),h.ring_up (by omega),WI (by omega),show m+k - 1 - m=k - 1 by omega,show m+k - m=k by omega]
  exact this
 ·rcases Nat.lt_or_ge i m with h1 | h1 <;> rcases Nat.lt_or_ge j m with h2 | h2
  ·rw [WI (by omega),WI (by omega)] at e
   rcases Nat.lt_trichotomy i j with h3 | h3 | h3
   ·have:=h.low.mono h3 (by omega);rw [e] at this;exact (Ez this).elim
   ·exact h3
   ·have:=h.low.mono h3 (by omega);rw [e] at this;exact (Ez this).elim
  ·rw [WI (by omega),h.ring_up h2] at e
   exact (h.disj h1 (by omega) e).elim
  ·rw [h.ring_up h1,WI (by omega)] at e
   exact (h.disj h2 (by omega) e.symm).elim
  ·rw [h.ring_up h1,h.ring_up h2] at e
   have e':=congrArg neg e
   rcases Nat.lt_trichotomy (i - m) (j - m) with h3 | h3 | h3
   ·have:=h.upp.mono h3 (by omega);rw [e'] at this;exact (Ez this).elim
   ·omega
   ·have:=h.upp.mono h3 (by omega);rw [e'] at this;exact (Ez this).elim
 ·rw [WI (Nat.zero_le _)];exact h.low.mn
theorem sq_nn (a:Int):0≤a * a:=by
 rcases Int.lt_or_le a 0 with h | h
 ·have:=Int.mul_pos_of_neg_of_neg h h;omega
 ·exact Int.mul_nonneg h h
theorem QaN {o p q w u y v:P2} (hw:0≤lft p q y) (t1:0 < lft o p q) (w1:0≤lft o p y) (t2:0 < lft p q w) (w2:0≤lft q w y)
  (t3:0 < lft u y v) (u1:0≤lft u y p) (u2:0≤lft u y q) (v1:0≤lft y v p) (v2:0≤lft y v q) (np:y≠p) (nq:y≠q):0 < lft p q y:=by
 rcases Int.lt_or_le 0 (lft p q y) with hp | hp
 ·exact hp
 exfalso
 have h0:lft p q y=0:=by omega
 clear hw hp
 obtain ⟨p1,p2⟩:=p
 obtain ⟨q1,q2⟩:=q
 obtain ⟨y1,y2⟩:=y
 have key:∀ e1 e2:Int,((q1 - p1) * (q1 - p1)+(q2 - p2) * (q2 - p2)) * (e1 * (y2 - p2) - e2 * (y1 - p1))=((q1 - p1) * (y1 - p1)+(q2 - p2) * (y2 - p2)) * (e1 * (q2 - p2) - e2 * (q1 - p1)):=by
  intro e1 e2
  unfold lft at h0
  simp only at h0
  have:((q1 - p1) * (q1 - p1)+(q2 - p2) * (q2 - p2)) * (e1 * (y2 - p2) - e2 * (y1 - p1))=((q1 - p1) * (y1 - p1)+(q2 - p2) * (y2 - p2)) * (e1 * (q2 - p2) - e2 * (q1 - p1))+((q1 - p1) * (y2 - p2) - (q2 - p2) * (y1 - p1)) * (e1 * (q1 - p1)+e2 * (q2 - p2)):=by grind
  rw [this,h0];simp
 have hN:0 < (q1 - p1) * (q1 - p1)+(q2 - p2) * (q2 - p2):=by
  have a1:=sq_nn (q1 - p1)
  have a2:=sq_nn (q2 - p2)
  rcases Int.lt_or_le 0 ((q1 - p1) * (q1 - p1)+(q2 - p2) * (q2 - p2)) with h | h
  ·exact h
  ·have b1:(q1 - p1) * (q1 - p1)=0:=by omega
   have b2:(q2 - p2) * (q2 - p2)=0:=by omega
   have c1:q1 - p1=0:=by rcases Int.mul_eq_zero.1 b1 with h | h <;> exact h
   have c2:q2 - p2=0:=by rcases Int.mul_eq_zero.1 b2 with h | h <;> exact h
   have e:lft o (p1,p2) (q1,q2)=0:=by
    have d1:q1=p1:=by omega
    have d2:q2=p2:=by omega
    subst d1;subst d2;exact Ki _ _
   omega
 generalize hNe:(q1 - p1) * (q1 - p1)+(q2 - p2) * (q2 - p2)=N at key hN
 generalize hTe:(q1 - p1) * (y1 - p1)+(q2 - p2) * (y2 - p2)=T at key
 -- beyond p,at p,between,at q,beyond q
 have kx:=key 0 1
 have ky:=key 1 0
 have zero:∀ a:Int,N * a=0→a=0:=fun a h=>Yo (by omega) h
 rcases Int.lt_trichotomy T 0 with hT | hT | hT
 ·have e1:lft o (p1,p2) (y1,y2)=(p1 - o.1) * (y2 - p2) - (p2 - o.2) * (y1 - p1):=by unfold lft;grind
  have e2:lft o (p1,p2) (q1,q2)=(p1 - o.1) * (q2 - p2) - (p2 - o.2) * (q1 - p1):=by unfold lft;grind
  have k:=key (p1 - o.1) (p2 - o.2)
  rw [← e1,← e2] at k
  have:=Int.mul_nonneg (Int.le_of_lt hN) w1
  have:=Int.mul_neg_of_neg_of_pos hT t1
  omega
 ·subst hT
  rw [Int.zero_mul (0 * (q2 - p2) - 1 * (q1 - p1))] at kx
  rw [Int.zero_mul (1 * (q2 - p2) - 0 * (q1 - p1))] at ky
  have g1:=zero _ kx
  have g2:=zero _ ky
  exact np (Prod.ext (by simp only;omega) (by simp only;omega))
 ·rcases Int.lt_trichotomy T N with hT2 | hT2 | hT2
  ·-- between
   have k1:=key (y1 - u.1) (y2 - u.2)
   have k2:=key (v.1 - y1) (v.2 - y2)
   have e1:lft u (y1,y2) (p1,p2)=- ((y1 - u.1) * (y2 - p2) - (y2 - u.2) * (y1 - p1)):=by unfold lft;grind
   have e2:lft u (y1,y2) (q1,q2)=((y1 - u.1) * (q2 - p2) - (y2 - u.2) * (q1 - p1)) - ((y1 - u.1) * (y2 - p2) - (y2 - u.2) * (y1 - p1)):=by unfold lft;grind
   have e3:lft (y1,y2) v (p1,p2)=- ((v.1 - y1) * (y2 - p2) - (v.2 - y2) * (y1 - p1)):=by unfold lft;grind
   have e4:lft (y1,y2) v (q1,q2)=((v.1 - y1) * (q2 - p2) - (v.2 - y2) * (q1 - p1)) - ((v.1 - y1) * (y2 - p2) - (v.2 - y2) * (y1 - p1)):=by unfold lft;grind
   have e5:lft u (y1,y2) v=(y1 - u.1) * (v.2 - y2) - (y2 - u.2) * (v.1 - y1):=by unfold lft;grind
   have z:∀ A B:Int,N * A=T * B→0≤-A→0≤B - A→B=0:=by
    intro A B h a b
    have h1:=Int.mul_nonneg (Int.le_of_lt hN) a
    have h2:=Int.mul_nonneg (Int.le_of_lt hN) b
    rw [Int.mul_neg,h] at h1
    rw [Int.mul_sub,h] at h2
    have h3:0≤(N - T) * B:=by rw [Int.sub_mul];omega
    have h4:0≤T * -B:=by rw [Int.mul_neg];omega
    have:=Ey (show 0 < N - T by omega) h3
    have:=Ey hT h4
    omega
   rw [e1] at u1;rw [e2] at u2;rw [e3] at v1;rw [e4] at v2
   have z1:=z _ _ k1 u1 u2
   have z2:=z _ _ k2 v1 v2
   have:=par (d:=(q1 - p1,q2 - p2)) (u:=(y1 - u.1,y2 - u.2)) (v:=(v.1 - y1,v.2 - y2)) (by
    intro h
    simp only [Prod.mk.injEq] at h
    rw [h.1,h.2] at hNe
    simp at hNe;omega) (by unfold crs;simp only;rw [← Int.neg_eq_zero];rw [← z1];grind) (by unfold crs;simp only;rw [← Int.neg_eq_zero];rw [← z2];grind)
   unfold crs at this
   simp only at this
   omega
  ·subst hT2
   have g1:T * ((q1 - p1) - (y1 - p1))=0:=by grind
   have g2:T * ((q2 - p2) - (y2 - p2))=0:=by grind
   have g1:=Yo (by omega) g1
   have g2:=Yo (by omega) g2
   exact nq (Prod.ext (by simp only;omega) (by simp only;omega))
  ·have k:=key (w.1 - q1) (w.2 - q2)
   have e1:lft (q1,q2) w (y1,y2)=((w.1 - q1) * (y2 - p2) - (w.2 - q2) * (y1 - p1)) - ((w.1 - q1) * (q2 - p2) - (w.2 - q2) * (q1 - p1)):=by unfold lft;grind
   have e2:lft (p1,p2) (q1,q2) w=- ((w.1 - q1) * (q2 - p2) - (w.2 - q2) * (q1 - p1)):=by unfold lft;grind
   rw [e1] at w2;rw [e2] at t2
   have h1:=Int.mul_nonneg (Int.le_of_lt hN) w2
   rw [Int.mul_sub,k] at h1
   generalize (w.1 - q1) * (q2 - p2) - (w.2 - q2) * (q1 - p1)=B at *
   have h2:0≤(T - N) * B:=by rw [Int.sub_mul];omega
   have:=Ey (show 0 < T - N by omega) h2
   omega
def Poly (f:Nat→P2) (n:Nat):Prop:=3≤n∧f n=f 0∧∀ i j,i < n→j < n→j≠i→f j≠f (i+1)→0 < lft (f i) (f (i+1)) (f j)
theorem Ring.prev {S f n} (h:Ring S f n) (hn:3≤n) {i:Nat} (hi:i < n):∃ j,j < n∧f (j+1)=f i∧0 < lft (f j) (f i) (f (i+1)):=by
 rcases Nat.eq_zero_or_pos i with rfl | h0
 ·refine ⟨n - 1,by omega,?_,?_⟩
  ·rw [show n - 1+1=n by omega];exact h.back
  ·have:=h.close;rw [h.back] at this;exact this
 ·refine ⟨i - 1,by omega,by rw [show i - 1+1=i by omega],?_⟩
  have:=h.turn (i - 1) (by omega)
  rw [show i - 1+1=i by omega,show i - 1+2=i+1 by omega] at this
  exact this
theorem Ring.next {S f n} (h:Ring S f n) (hn:3≤n) {i:Nat} (hi:i < n):∃ j,j < n∧f j=f (i+1)∧0 < lft (f i) (f (i+1)) (f (j+1)):=by
 rcases Nat.lt_or_ge (i+1) n with h1 | h1
 ·exact ⟨i+1,h1,rfl,h.turn i h1⟩
 ·have:i+1=n:=by omega
  refine ⟨0,by omega,by rw [this,h.back],?_⟩
  have hc:=h.close
  rw [show n - 1=i by omega] at hc
  rw [this];exact hc
theorem Ring.poly {S f n} (h:Ring S f n) (hn:3≤n):Poly f n:=by
 refine ⟨hn,h.back,fun i j hi hj hij hq=>?_⟩
 obtain ⟨a,ha,ea,ta⟩:=h.prev hn hi
 obtain ⟨b,hb,eb,tb⟩:=h.next hn hi
 obtain ⟨c,hc,ec,tc⟩:=h.prev hn hj
 have wa:=h.weak a ha (f j) (h.mem j (by omega))
 have wb:=h.weak b hb (f j) (h.mem j (by omega))
 rw [ea] at wa
 rw [eb] at wb
 have c1:=h.weak c hc (f i) (h.mem i (by omega))
 have c2:=h.weak c hc (f (i+1)) (h.mem (i+1) (by omega))
 rw [ec] at c1 c2
 exact QaN (h.weak i hi _ (h.mem j (by omega))) ta wa tb wb tc c1 c2 (h.weak j hj _ (h.mem i (by omega))) (h.weak j hj _ (h.mem (i+1) (by omega)))
  (fun e=>hij (h.inj j i hj hi e)) hq
instance (p q:P2):Decidable (lx p q):=by unfold lx;infer_instance
def KV:List P2→P2→List P2→List P2
 | [],x,r=>x::r
 | p::ps,x,r=>if lx x p then KV ps x (p::r) else (p::ps).reverse++x::r
theorem zm:∀ (ps:List P2) (x:P2) (r s:List P2),KV ps x (r++s)=KV ps x r++s
 | [],x,r,s=>rfl
 | p::ps,x,r,s=>by
  unfold KV
  split
  ·rw [← List.cons_append,zm ps]
  ·simp
theorem yu:∀ (ps:List P2) (x:P2) (r:List P2) (y:P2),y∈KV ps x r↔y∈ps ∨ y=x ∨ y∈r
 | [],x,r,y=>by unfold KV;simp
 | p::ps,x,r,y=>by
  unfold KV
  split
  ·rw [yu ps];simp only [List.mem_cons]
   constructor
   ·rintro (h | h | h | h) <;> simp_all
   ·rintro ((h | h) | h | h) <;> simp_all
  ·simp only [List.mem_append,List.mem_reverse,List.mem_cons]
theorem G9:∀ (ps:List P2) (x:P2) (r:List P2),(KV ps x r).length=ps.length+1+r.length
 | [],x,r=>by simp [KV];omega
 | p::ps,x,r=>by
  unfold KV
  split
  ·rw [G9 ps];simp;omega
  ·simp;omega
def le (p q:P2):Prop:=¬ lx q p
theorem le_trans {p q r:P2} (h:le p q) (h' : le q r):le p r:=by unfold le lx at *;omega
theorem yr:∀ (ps:List P2) (x:P2) (r:List P2),(ps.reverse++r).Pairwise le→(∀ y,y∈r→le x y)→(KV ps x r).Pairwise le
 | [],x,r,h,hr=>by
  unfold KV
  rw [List.pairwise_cons]
  exact ⟨hr,by simpa using h⟩
 | p::ps,x,r,h,hr=>by
  unfold KV
  split
  ·rename_i hlt
   refine yr ps x (p::r) (by simpa [List.append_assoc] using h) (fun y hy=>?_)
   rcases List.mem_cons.1 hy with rfl | hy
   ·exact fun h'=>lx_irr hlt h'
   ·exact hr y hy
  ·rename_i hlt
   have hpx:le p x:=hlt
   rw [List.pairwise_append] at h ⊢
   refine ⟨h.1,?_,fun a ha b hb=>?_⟩
   ·rw [List.pairwise_cons];exact ⟨hr,h.2.1⟩
   ·rcases List.mem_cons.1 hb with rfl | hb
    ·have ha' : a∈p::ps:=by simpa [or_comm] using ha
     rcases List.mem_cons.1 ha' with rfl | ha'
     ·exact hpx
     ·have h1:=h.1
      rw [List.reverse_cons,List.pairwise_append] at h1
      exact le_trans (h1.2.2 a (by simpa using ha') p (by simp)) hpx
    ·exact h.2.2 a ha b hb
def Uu (s:List P2) (x:P2):List P2:=KV s.reverse x []
def srt (l:List P2):List P2:=l.foldl Uu []
theorem kN:∀ (l s:List P2),s.Pairwise le→(l.foldl Uu s).Pairwise le∧(∀ x,x∈l.foldl Uu s↔x∈s ∨ x∈l)∧(l.foldl Uu s).length=s.length+l.length
 | [],s,hs=>⟨hs,fun x=>by simp,by simp⟩
 | x::l,s,hs=>by
  have h1:(Uu s x).Pairwise le:=yr s.reverse x [] (by simpa using hs) (fun y hy=>by cases hy)
  have hmem:∀ y,y∈Uu s x↔y∈s ∨ y=x:=fun y=>by unfold Uu;rw [yu];simp
  obtain ⟨k1,k2,k3⟩:=kN l (Uu s x) h1
  refine ⟨k1,fun y=>?_,?_⟩
  ·show y∈l.foldl Uu (Uu s x)↔_
   rw [k2,hmem];simp only [List.mem_cons]
   constructor
   ·rintro ((h | h) | h) <;> simp_all
   ·rintro (h | h | h) <;> simp_all
  ·show (l.foldl Uu (Uu s x)).length=_
   rw [k3];unfold Uu;rw [G9];simp;omega
theorem srt_ok (l:List P2):(srt l).Pairwise le∧(∀ x,x∈srt l↔x∈l)∧(srt l).length=l.length:=by
 obtain ⟨h1,h2,h3⟩:=kN l [] List.Pairwise.nil
 exact ⟨h1,fun x=>by rw [show srt l=l.foldl Uu [] from rfl,h2];simp,by rw [show srt l=l.foldl Uu [] from rfl,h3];simp⟩
def dd (p:P2):List P2→List P2
 | []=>[]
 | x::l=>if x=p then dd p l else x::dd x l
def Jk:List P2→List P2
 | []=>[]
 | a::l=>a::dd a l
theorem uL:∀ (l:List P2) (p x:P2),x∈p::dd p l↔x∈p::l
 | [],p,x=>by simp [dd]
 | y::l,p,x=>by
  unfold dd
  split
  ·rename_i h;subst h
   rw [uL l];simp
  ·have:=uL l y x
   simp only [List.mem_cons] at this ⊢
   rw [this]
theorem uK:∀ (l:List P2) (p:P2),(p::l).Pairwise le→(p::dd p l).Pairwise lx
 | [],p,_=>by simp [dd]
 | y::l,p,h=>by
  rw [List.pairwise_cons,List.pairwise_cons] at h
  obtain ⟨h1,h2,h3⟩:=h
  unfold dd
  split
  ·rename_i e;subst e
   exact uK l y (List.pairwise_cons.2 ⟨h2,h3⟩)
  ·rename_i hne
   have hpy:lx p y:=by
    rcases lx_tri p y with e | e | e
    ·exact absurd e.symm hne
    ·exact e
    ·exact absurd e (h1 y (by simp))
   have ih:=uK l y (List.pairwise_cons.2 ⟨h2,h3⟩)
   rw [List.pairwise_cons]
   refine ⟨fun z hz=>?_,ih⟩
   rw [List.pairwise_cons] at ih
   rcases List.mem_cons.1 hz with rfl | hz
   ·exact hpy
   ·exact lx_trans hpy (ih.1 z hz)
theorem uM:∀ (l:List P2) (p:P2),(dd p l).length≤l.length
 | [],p=>by simp [dd]
 | y::l,p=>by
  unfold dd
  split
  ·have:=uM l p;simp;omega
  ·have:=uM l y;simp;omega
theorem cmpt_ok (l:List P2):(Jk (srt l)).Pairwise lx∧(∀ x,x∈Jk (srt l)↔x∈l)∧(Jk (srt l)).length≤l.length∧(l≠[]→Jk (srt l)≠[]):=by
 obtain ⟨h1,h2,h3⟩:=srt_ok l
 have he:srt l=[]→l=[]:=by
  intro e
  rw [e] at h3
  exact List.length_eq_zero_iff.1 h3.symm
 cases hs:srt l with
 | nil =>
  have:=he hs
  subst this
  simp [Jk]
 | cons a t =>
  rw [hs] at h1 h2 h3
  refine ⟨uK t a h1,fun x=>by rw [← h2];exact uL t a x,?_,fun _=>by simp [Jk]⟩
  have:=uM t a
  simp only [Jk,List.length_cons] at h3 ⊢;omega
theorem wQ:∀ (h s:List P2),h.Nodup→(∀ x,x∈h→x∈s)→h.length≤s.length
 | [],s,_,_=>by simp
 | x::h,s,hn,hm=>by
  rw [List.nodup_cons] at hn
  have hx:=hm x (by simp)
  have:=wQ h (s.erase x) hn.2 (fun y hy=>(List.mem_erase_of_ne (fun e=>hn.1 (by rw [← e];exact hy))).2 (hm y (List.mem_cons_of_mem _ hy)))
  rw [List.length_erase_of_mem hx] at this
  have h0:0 < s.length:=List.length_pos_of_mem hx
  simp only [List.length_cons];omega
theorem Qak (x:P2):∀ s:List P2,pop (neg x) (s.map neg)=(pop x s).map neg
 | []=>rfl
 | [a]=>rfl
 | b::a::r=>by
  have h:=Qak x (a::r)
  simp only [List.map_cons] at h ⊢
  unfold pop
  rw [qB]
  split
  ·exact h
  ·rfl
theorem Qbh (l:List P2):Zg (l.map neg)=(Zg l).map neg:=by
 have key:∀ (l s:List P2),(l.map neg).foldl Vk (s.map neg)=(l.foldl Vk s).map neg:=by
  intro l
  induction l with
  | nil=>intro s;rfl
  | cons x l ih =>
   intro s
   simp only [List.map_cons,List.foldl_cons]
   rw [← ih]
   congr 1
   unfold Vk
   rw [Qak];rfl
 exact key l []
theorem Qc6 (s:List P2) (i:Nat):rg (s.map neg) i=neg (rg s i):=by
 unfold rg
 rw [← List.map_reverse,List.getD_eq_getElem?_getD,List.getD_eq_getElem?_getD,List.getElem?_map]
 cases s.reverse[i]? <;> rfl
def VG (s:List P2):List P2:=(Zg s).reverse
def YA (s:List P2):List P2:=(Zg s.reverse).reverse
def ZF (s:List P2):List P2:=(VG s).take ((VG s).length - 1)++(YA s).take ((YA s).length - 1)
theorem two_of {s:List P2} (hs:s.Pairwise lx) (hne:s≠[]) :
  Two (fun y=>y∈s) (rg (Zg s)) ((Zg s).length - 1) (rg (Zg s.reverse)) ((Zg s.reverse).length - 1)∧Zg s≠[]∧Zg s.reverse≠[]:=by
 have hl:∃ a l,s=a::l:=by cases s with | nil=>exact absurd rfl hne | cons a l=>exact ⟨a,l,rfl⟩
 have hr:∃ a l,s.reverse.map neg=a::l:=by
  cases h:s.reverse.map neg with
  | nil=>rw [List.map_eq_nil_iff,List.reverse_eq_nil_iff] at h;exact absurd h hne
  | cons a l=>exact ⟨a,l,rfl⟩
 have hs2:(s.reverse.map neg).Pairwise lx:=by
  rw [List.pairwise_map,List.pairwise_reverse]
  exact hs.imp fun h=>(jT _ _).2 h
 obtain ⟨a,l,e⟩:=hl
 obtain ⟨a2,l2,e2⟩:=hr
 obtain ⟨t,ht⟩:=jp a l (by rw [← e];exact hs)
 obtain ⟨t2,ht2⟩:=jp a2 l2 (by rw [← e2];exact hs2)
 rw [← e] at ht
 rw [← e2,Qbh] at ht2
 have c2:=ht2.ch
 have e3:(rg ((Zg s.reverse).map neg))=fun j=>neg (rg (Zg s.reverse) j):=funext fun j=>Qc6 _ j
 have e4:(fun y=>y∈s.reverse.map neg)=(fun y=>neg y∈s):=by
  funext y
  simp only [List.mem_map,List.mem_reverse,eq_iff_iff]
  constructor
  ·rintro ⟨z,hz,rfl⟩;rwa [VO]
  ·intro h;exact ⟨_,h,VO y⟩
 rw [e3,e4,List.length_map] at c2
 refine ⟨⟨ht.ch,c2⟩,?_,?_⟩
 ·obtain ⟨r,hr⟩:=ht.hd;rw [hr];simp
 ·obtain ⟨r,hr⟩:=ht2.hd
  intro e;rw [e] at hr;simp at hr
def at0 (l:List P2) (i:Nat):P2:=l.getD i (0,0)
theorem Qbn {a b:List P2} {i:Nat} (h:i < a.length):at0 (a++b) i=at0 a i:=by
 unfold at0;rw [List.getD_eq_getElem?_getD,List.getD_eq_getElem?_getD,List.getElem?_append_left h]
theorem Qbm {a b:List P2} {i:Nat} (h:a.length≤i):at0 (a++b) i=at0 b (i - a.length):=by
 unfold at0;rw [List.getD_eq_getElem?_getD,List.getD_eq_getElem?_getD,List.getElem?_append_right h]
theorem yN {a:List P2} {i n:Nat} (h:i < n):at0 (a.take n) i=at0 a i:=by
 unfold at0;rw [List.getD_eq_getElem?_getD,List.getD_eq_getElem?_getD,List.getElem?_take,if_pos h]
theorem mem_at0 {a:List P2} {x:P2} (h:x∈a):∃ i,i < a.length∧at0 a i=x:=by
 obtain ⟨i,hi,e⟩:=List.getElem_of_mem h
 exact ⟨i,hi,by unfold at0;rw [List.getD_eq_getElem?_getD,List.getElem?_eq_getElem hi];exact e⟩
def rng (h:List P2) (i:Nat):P2:=if i=h.length then at0 h 0 else at0 h i
theorem hull_ring {s:List P2} (hs:s.Pairwise lx) (hne:s≠[]) (h3:3≤(ZF s).length):Ring (fun y=>y∈s) (rng (ZF s)) (ZF s).length:=by
 obtain ⟨ht,c1,c2⟩:=two_of hs hne
 have l1:0 < (Zg s).length:=List.length_pos_iff.2 c1
 have l2:0 < (Zg s.reverse).length:=List.length_pos_iff.2 c2
 have hlen:(ZF s).length=((Zg s).length - 1)+((Zg s.reverse).length - 1):=by
  unfold ZF VG YA
  simp only [List.length_append,List.length_take,List.length_reverse];omega
 have hlo:(VG s).length=(Zg s).length:=List.length_reverse
 have hup:(YA s).length=(Zg s.reverse).length:=List.length_reverse
 generalize hm:(Zg s).length - 1=m at *
 generalize hk:(Zg s.reverse).length - 1=k at *
 -- both halves have an edge
 have hz:=ht.z
 have ha:=ht.a
 have hmk:0 < m∧0 < k:=by
  rcases Nat.eq_zero_or_pos m with h0 | h0
  ·rcases Nat.eq_zero_or_pos k with h1 | h1
   ·omega
   ·rw [h0] at hz
    have:=ht.upp.mono h1 (Nat.le_refl k)
    rw [show rg (Zg s.reverse) 0=rg (Zg s.reverse) k by rw [← hz,ha]] at this
    exact (Ez this).elim
  ·refine ⟨h0,?_⟩
   rcases Nat.eq_zero_or_pos k with h1 | h1
   ·rw [h1] at ha
    have:=ht.low.mono h0 (Nat.le_refl m)
    rw [hz,ha] at this
    exact (Ez this).elim
   ·exact h1
 have hr:=ht.ring hmk.1 hmk.2 (by omega)
 have heq:∀ i,i≤m+k→rng (ZF s) i=ring (rg (Zg s)) m (rg (Zg s.reverse)) i:=by
  have hi:∀ i,i < m+k→at0 (ZF s) i=ring (rg (Zg s)) m (rg (Zg s.reverse)) i:=by
   intro i hi
   have hll:((VG s).take ((VG s).length - 1)).length=m:=by rw [List.length_take];omega
   unfold ZF
   rcases Nat.lt_or_ge i m with h | h
   ·rw [Qbn (by rw [hll];exact h),yN (by omega),WI (by omega)];rfl
   ·rw [Qbm (by rw [hll];exact h),hll,yN (by omega),ht.ring_up h];rfl
  intro i hle
  unfold rng
  rw [hlen]
  split
  ·rename_i e
   subst e
   rw [hi 0 (by omega),hr.back]
  ·exact hi i (by omega)
 rw [hlen]
 have e0:=heq 0 (by omega)
 exact ⟨fun i hi=>by rw [heq i hi];exact hr.mem i hi,by rw [heq _ (Nat.le_refl _),e0];exact hr.back,fun i hi=>by rw [heq i (by omega),heq (i+1) (by omega)];exact hr.weak i hi,
  fun i hi=>by rw [heq i (by omega),heq (i+1) (by omega),heq (i+2) (by omega)];exact hr.turn i hi,by rw [heq _ (by omega),heq _ (Nat.le_refl _),heq 1 (by omega)];exact hr.close,
  fun i j hi hj e=>hr.inj i j hi hj (by rw [heq i (by omega),heq j (by omega)] at e;exact e),by rw [e0];exact hr.mn⟩
theorem hull_line {s:List P2} (hs:s.Pairwise lx) (hne:s≠[]) (h3:(ZF s).length < 3):∀ p q r,p∈s→q∈s→r∈s→lft p q r=0:=by
 obtain ⟨ht,c1,c2⟩:=two_of hs hne
 have l1:0 < (Zg s).length:=List.length_pos_iff.2 c1
 have l2:0 < (Zg s.reverse).length:=List.length_pos_iff.2 c2
 have hlen:(ZF s).length=((Zg s).length - 1)+((Zg s.reverse).length - 1):=by
  unfold ZF VG YA
  simp only [List.length_append,List.length_take,List.length_reverse];omega
 generalize (Zg s).length - 1=m at *
 generalize (Zg s.reverse).length - 1=k at *
 have hz:=ht.z
 have ha:=ht.a
 rcases Nat.eq_zero_or_pos m with h0 | h0
 ·-- one point
  have hall:∀ y,y∈s→y=rg (Zg s) 0:=by
   intro y hy
   rcases ht.low.mx y hy with e | e
   ·rw [h0] at e;exact e
   ·rcases ht.low.mn y hy with e2 | e2
    ·exact e2
    ·rw [h0] at e;exact (lx_irr e e2).elim
  intro p q r hp hq hr
  rw [hall p hp,hall q hq,hall r hr,Ki]
 ·have hk:0 < k:=by
   rcases Nat.eq_zero_or_pos k with h1 | h1
   ·rw [h1] at ha
    have:=ht.low.mono h0 (Nat.le_refl m)
    rw [hz,ha] at this
    exact (Ez this).elim
   ·exact h1
  have hm1:m=1:=by omega
  have hk1:k=1:=by omega
  subst hm1;subst hk1
  have hd:=QbD (ht.low.up 0 (by omega))
  have hline:∀ y,y∈s→crs (sub (rg (Zg s) 1) (rg (Zg s) 0)) (sub y (rg (Zg s) 0))=0:=by
   intro y hy
   have w1:=ht.low.weak 0 (by omega) y hy
   have w2:=ht.upW (j:=0) (by omega) hy
   simp only [Nat.zero_add] at w1 w2
   rw [← hz,← ha] at w2
   rw [← jW]
   have:lft (rg (Zg s) 1) (rg (Zg s) 0) y=- lft (rg (Zg s) 0) (rg (Zg s) 1) y:=by unfold lft;grind
   omega
  intro p q r hp hq hr
  exact za hd (hline p hp) (hline q hq) (hline r hr)
theorem hull_len {s:List P2} (hs:s.Pairwise lx) (hne:s≠[]) (h3:3≤(ZF s).length):(ZF s).length≤s.length:=by
 have hr:=hull_ring hs hne h3
 refine wQ _ _ ?_ fun x hx=>?_
 ·rw [List.nodup_iff_pairwise_ne,List.pairwise_iff_getElem]
  intro i j hi hj hij e
  have h1:rng (ZF s) i=rng (ZF s) j:=by
   unfold rng at0
   rw [if_neg (by omega),if_neg (by omega),List.getD_eq_getElem?_getD,List.getD_eq_getElem?_getD,List.getElem?_eq_getElem hi,List.getElem?_eq_getElem hj,e]
  have:=hr.inj i j (by omega) hj h1
  omega
 ·obtain ⟨i,hi,e⟩:=mem_at0 hx
  have:=hr.mem i (by omega)
  unfold rng at this
  rw [if_neg (by omega),e] at this
  exact this
end Go.Geo
set_option maxRecDepth 10000
namespace Go.Proofs.YtiefmhacicemhaaGreatDoor
open Go.Shelf
def Tryz.sortP_ren:Go.Shelf.Ren:=⟨fun | 6=>41 | 15=>88 | 14=>87 | 28=>123 | 29=>124 | 20=>115 | 21=>116 | 22=>117 | 23=>118 | 24=>119 | 25=>120 | 26=>121 | 27=>122 | 46=>133 | 47=>134 | 48=>135 | 49=>136 | 50=>137 | 57=>149 | n=>n,fun | 22=>22 | 24=>46 | 25=>95 | 3=>3 | 39=>151 | 0=>0 | 53=>196 | 55=>198 | 4=>4 | 46=>189 | 45=>188 | 50=>193 | 5=>5 | 9=>9 | 66=>201 | 70=>185 | 76=>215 | 77=>216 | n=>n,fun | n=>n⟩
theorem Tryz.sortP:Go.Proofs.SlLaysF0.n6 Tryz.prog Tryz.sortP_ren:={
 mixed:=by kernel_rfl
 f6:=⟨Tryz.f41.name,by decide,Tryz.func41.trans (congrArg some (by kernel_rfl))⟩
 f14:=⟨Tryz.f87.name,by decide,Tryz.func87.trans (congrArg some (by kernel_rfl))⟩
 f15:=Tryz.func88.trans (congrArg some (by kernel_rfl))
 f20:=⟨Tryz.f115.name,by decide,Tryz.func115.trans (congrArg some (by kernel_rfl))⟩
 f21:=⟨Tryz.f116.name,by decide,Tryz.func116.trans (congrArg some (by kernel_rfl))⟩
 f22:=⟨Tryz.f117.name,by decide,Tryz.func117.trans (congrArg some (by kernel_rfl))⟩
 f23:=⟨Tryz.f118.name,by decide,Tryz.func118.trans (congrArg some (by kernel_rfl))⟩
 f24:=⟨Tryz.f119.name,by decide,Tryz.func119.trans (congrArg some (by kernel_rfl))⟩
 f25:=⟨Tryz.f120.name,by decide,Tryz.func120.trans (congrArg some (by kernel_rfl))⟩
 f26:=⟨Tryz.f121.name,by decide,Tryz.func121.trans (congrArg some (by kernel_rfl))⟩
 f27:=⟨Tryz.f122.name,by decide,Tryz.func122.trans (congrArg some (by kernel_rfl))⟩
 f28:=Tryz.func123.trans (congrArg some (by kernel_rfl))
 f29:=Tryz.func124.trans (congrArg some (by kernel_rfl))
 f46:=⟨Tryz.f133.name,by decide,Tryz.func133.trans (congrArg some (by kernel_rfl))⟩
 f47:=Tryz.func134.trans (congrArg some (by kernel_rfl))
 f48:=Tryz.func135.trans (congrArg some (by kernel_rfl))
 f49:=⟨Tryz.f136.name,by decide,Tryz.func136.trans (congrArg some (by kernel_rfl))⟩
 f50:=⟨Tryz.f137.name,by decide,Tryz.func137.trans (congrArg some (by kernel_rfl))⟩
 f57:=⟨Tryz.f149.name,by decide,Tryz.func149.trans (congrArg some (by kernel_rfl))⟩
 t0:=Tryz.underlying0
 a0:=Tryz.isAgg0
 z0:=Tryz.sizeOf0
 v0:=Tryz.zeroValue0
 t3:=Tryz.underlying3
 a3:=Tryz.isAgg3
 z3:=Tryz.sizeOf3
 v3:=Tryz.zeroValue3
 t4:=Tryz.underlying4
 a4:=Tryz.isAgg4
 z4:=Tryz.sizeOf4
 v4:=Tryz.zeroValue4
 t5:=Tryz.underlying5
 a5:=Tryz.isAgg5
 z5:=Tryz.sizeOf5
 v5:=Tryz.zeroValue5
 t9:=Tryz.underlying9
 a9:=Tryz.isAgg9
 z9:=Tryz.sizeOf9
 v9:=Tryz.zeroValue9
 t22:=Tryz.underlying22
 a22:=Tryz.isAgg22
 z22:=Tryz.sizeOf22
 v22:=Tryz.zeroValue22
 t25:=Tryz.underlying95
 a25:=Tryz.isAgg95
 z25:=Tryz.sizeOf95
 v25:=Tryz.zeroValue95
 t39:=Tryz.underlying151
 a39:=Tryz.isAgg151
 z39:=Tryz.sizeOf151
 v39:=Tryz.zeroValue151
 t45:=Tryz.underlying188
 a45:=Tryz.isAgg188
 z45:=Tryz.sizeOf188
 v45:=Tryz.zeroValue188
 t46:=Tryz.underlying189
 a46:=Tryz.isAgg189
 z46:=Tryz.sizeOf189
 v46:=Tryz.zeroValue189
 t50:=Tryz.underlying193
 a50:=Tryz.isAgg193
 z50:=Tryz.sizeOf193
 v50:=Tryz.zeroValue193
 t53:=Tryz.underlying196
 a53:=Tryz.isAgg196
 z53:=Tryz.sizeOf196
 v53:=Tryz.zeroValue196
 t55:=Tryz.underlying198
 a55:=Tryz.isAgg198
 z55:=Tryz.sizeOf198
 v55:=Tryz.zeroValue198
 t66:=Tryz.underlying201
 a66:=Tryz.isAgg201
 z66:=Tryz.sizeOf201
 v66:=Tryz.zeroValue201
 t70:=Tryz.underlying185
 a70:=Tryz.isAgg185
 z70:=Tryz.sizeOf185
 v70:=Tryz.zeroValue185
 t76:=Tryz.underlying215
 a76:=Tryz.isAgg215
 z76:=Tryz.sizeOf215
 v76:=Tryz.zeroValue215
 t77:=Tryz.underlying216
 a77:=Tryz.isAgg216
 z77:=Tryz.sizeOf216
 v77:=Tryz.zeroValue216 }
set_option maxRecDepth 20000
open Go.SX
open Go.Geo (lx)
theorem elT {ms:List Int} {i:Nat} {x:Int} (h:ms[i]?=some x):el T.un_i (ms.map I) (i:Int)=some x:=K5 (un:=T.un_i) (enc:=I) (fun _=>rfl) h
def uO (a b:Int):Int:=if a < b then -1 else if a > b then 1 else 0
theorem EJ (n:Nat) (a b:Int):T.F_cmp_Compare_g n a b=some (uO a b):=by
 unfold T.F_cmp_Compare_g T.F_cmp_isNaN_g uO
 rw [Option.bind_some,Option.bind_some,if_neg (by simp),if_neg (by simp)]
 split
 ·rfl
 ·split <;> rfl
theorem Qdp {n:Nat} (ms:List Int) (hm:ms.length < 9223372036854775807) (hn:ms.length < n):T.F_cmp_Or_g n (ms.map I)=some (Qx ms):=by
 unfold T.F_cmp_Or_g
 have:=Zp (step:=T.F_cmp_Or_g_L1 n (ms.map I)) fG (fun _=>.inr ()) (fun i _=>(i:Int)) ms (fun _ _=>True)
  (fun i s x hx _=>by
   unfold fG T.F_cmp_Or_g_L1
   have hi:=(List.getElem?_eq_some_iff.1 hx).1
   by_cases h:x=0
   ·rw [if_pos h]
    refine ⟨?_,trivial⟩
    rw [if_pos (Kj hx),elT hx,Option.bind_some,if_pos h,if_pos (by unfold Qa;omega)];rfl
   ·rw [if_neg h]
    dsimp only
    rw [if_pos (Kj hx),elT hx,Option.bind_some,if_neg h])
  (fun s _=>by unfold T.F_cmp_Or_g_L1;rw [if_neg (by simp)]) (s:=()) trivial hn
 rw [show (0:Int)=((0:Nat):Int) from rfl,this,KK]
 by_cases h:Qx ms=0
 ·rw [if_pos h,h];rfl
 ·rw [if_neg h];rfl
def wk (x p:Pt):Int:=Qx [uO x.1 p.1,uO x.2 p.2]
theorem QcO (x p:Pt):wk x p < 0↔lx x p:=by
 unfold wk uO lx
 simp only [Qx]
 constructor
 ·intro h
  repeat' split at h
  all_goals omega
 ·intro h
  repeat' split
  all_goals omega
theorem QcP {n:Nat} (hn:10≤n) (x p:Pt):T.F_field_compare n x.1 x.2 p.1 p.2=some (wk x p):=by
 unfold T.F_field_compare
 rw [EJ,Option.bind_some,EJ,Option.bind_some]
 have:=Qdp (n:=n) [uO x.1 p.1,uO x.2 p.2] (by simp) (by simp;omega)
 simp only [List.map_cons,List.map_nil] at this
 rw [this];rfl
def ptOf:D→Option (Int×Int)
 | .agg [.v (.int .i64 a),.v (.int .i64 b)]=>some (a,b)
 | _=>none
def wI:List D→Option (List (Int×Int))
 | []=>some []
 | d::l=>match ptOf d,wI l with
  | some p,some ps=>some (p::ps)
  | _,_=>none
def ptD (p:Int×Int):D:=.agg [I p.1,I p.2]
def ZJ (n:Nat) (l:List D):Option (List D):=if l.length≤1000 then (wI l).bind fun ps=>some ((Go.Geo.srt ps).map ptD) else none
open Go.Sort Go.RowKit
open Go.Geo (lx srt KV Uu)
theorem wV:∀ (ps:List Pt) (x:Pt) (r:List Pt),(KV ps x r).Perm (x::(ps.reverse++r))
 | [],x,r=>List.Perm.refl _
 | p::ps,x,r=>by
  unfold KV
  split
  ·have:=wV ps x (p::r)
   simpa [List.append_assoc] using this
  ·simpa [List.append_assoc] using List.perm_middle (a:=x) (l₁:=ps.reverse++[p]) (l₂:=r)
theorem QbF (l:List Pt):(srt l).Perm l:=by
 have:∀ (l s:List Pt),(l.foldl Uu s).Perm (s++l):=by
  intro l
  induction l with
  | nil=>intro s;simp
  | cons x l ih =>
   intro s
   rw [List.foldl_cons]
   refine (ih (Uu s x)).trans ?_
   have h:=wV s.reverse x []
   have h2:(Uu s x).Perm (s++[x]):=by
    unfold Uu
    refine h.trans ?_
    simpa using (List.perm_append_comm (l₁:=[x]) (l₂:=s))
   have:=h2.append_right l
   simpa [List.append_assoc] using this
 exact (by simpa using this l []:(l.foldl Uu []).Perm l)
theorem G3 (x y:Pt):ltOf wk x y=decide (lx x y):=by
 unfold ltOf
 exact decide_eq_decide.2 (QcO x y)
theorem swoP:SWO (ltOf wk) where
 irrefl x:=by rw [G3];exact decide_eq_false fun h=>Go.Geo.lx_irr h h
 trans x y z h1 h2:=by rw [G3] at *;exact decide_eq_true (Go.Geo.lx_trans (of_decide_eq_true h1) (of_decide_eq_true h2))
 ntrans x y z h1 h2:=by
  rw [G3] at *
  have h1:=of_decide_eq_false h1
  have h2:=of_decide_eq_false h2
  exact decide_eq_false (Go.Geo.le_trans (p:=z) (q:=y) (r:=x) h2 h1)
theorem QaO {l:List Pt} {d:Array Pt} (hp:PermIn 0 l.toArray.size l.toArray d) (hs:SortedIn (ltOf wk) 0 l.toArray.size d):d.toList=srt l:=by
 have hu:=fun d' p s=>sorted_unique_holds (lt:=ltOf wk) swoP (fun x y h1 h2=>by
  rw [G3] at h1 h2
  rcases Go.Geo.lx_tri x y with h | h | h
  ·exact h
  ·exact absurd h (of_decide_eq_false h1)
  ·exact absurd h (of_decide_eq_false h2)) l.toArray d' p s
 obtain ⟨s1,s2,s3⟩:=Go.Geo.srt_ok l
 rw [hu d hp hs]
 refine (hu (srt l).toArray ⟨by simpa using s3,fun i hi=>?_,?_⟩ fun i j hi hij hj=>?_).symm
 ·have hn:¬ i < l.length:=by simp at hi;omega
  rw [getElem!_neg _ i (by simp;omega),getElem!_neg _ i (by simpa using hn)]
 ·have e1:(srt l).toArray.extract 0 l.toArray.size=(srt l).toArray:=by
   rw [show l.toArray.size=(srt l).toArray.size by simp [s3]];exact Array.extract_size
  have e2:l.toArray.extract 0 l.toArray.size=l.toArray:=Array.extract_size
  rw [e1,e2]
  exact QbF l
 ·rw [G3]
  have hj' : j < (srt l).length:=by rw [s3];simpa using hj
  have:=List.pairwise_iff_getElem.1 s1 i j (by omega) hj' hij
  rw [getElem!_pos _ j (by simpa using hj'),getElem!_pos _ i (by simp;omega)]
  exact decide_eq_false (show ¬ lx (srt l)[j] (srt l)[i] from this)
def K4 (x:Pt):List Value:=[.int .i64 x.1,.int .i64 x.2]
theorem dr_i {w:World} {F:Nat→Prop} {x:Int} {y:Value} (h:DR w F (I x) y):y=.int .i64 x:=by cases h;rfl
theorem Qc1 (w:World) (F:Nat→Prop) (p:Pt):DR w F (ptD p) (.agg (K4 p).toArray):=by
 refine .agg [I p.1,I p.2] (K4 p) rfl fun i c y hi hy=>?_
 match i,hi,hy with
 | 0,hi,hy=>cases hi;cases hy;exact .v _
 | 1,hi,hy=>cases hi;cases hy;exact .v _
theorem wj (x y:Pt) (W:World):Calls cx.P 42 #[.agg (K4 x).toArray,.agg (K4 y).toArray] W fun e w'=>e=.returned (.int .i64 (wk x y))∧∃ q os',w'=grow (W.drewN q) os':=by
 have hc:=T.c_field_compare (QcP (n:=100) (by omega) x y) W (fun _=>False) [.agg (K4 x).toArray,.agg (K4 y).toArray] (fun _ h=>h.elim) (fun g x h=>by cases h) rfl fun i c v hi hv=>by
  match i,hi,hv with
  | 0,hi,hv=>cases hi;cases hv;exact Qc1 _ _ x
  | 1,hi,hv=>cases hi;cases hv;exact Qc1 _ _ y
 refine Calls.mono hc ?_
 rintro e w' ⟨v,rfl,hd,hx⟩
 refine ⟨by rw [dr_i hd],w'.drawn - W.drawn,w'.heap.extract W.heap.size w'.heap.size,?_⟩
 have h1:=(@Ext.drawn T.drawT _ _ _ hx) rfl
 have h2:=(@Ext.os T.drawT _ _ _ hx)
 have h3:=(@Ext.tape T.drawT _ _ _ hx)
 have h4:=(@Ext.output T.drawT _ _ _ hx)
 have h5:w'.heap=W.heap++w'.heap.extract W.heap.size w'.heap.size:=by
  apply Array.ext_getElem?
  intro k
  have hsz:=(@Ext.size T.drawT _ _ _ hx)
  rw [Array.getElem?_append]
  by_cases hk:k < W.heap.size
  ·rw [if_pos hk]
   exact @Ext.same T.drawT _ _ _ hx k hk (fun h=>h)
  ·rw [if_neg hk,Array.getElem?_extract]
   by_cases h6:k < w'.heap.size
   ·rw [if_pos (by omega),show W.heap.size+(k - W.heap.size)=k by omega]
   ·rw [if_neg (by omega),Array.getElem?_eq_none (by omega)]
 show w'={ heap:=W.heap++w'.heap.extract W.heap.size w'.heap.size,tape:=W.tape,drawn:=W.drawn+(w'.drawn - W.drawn),os:=W.os,output:=W.output }
 rw [← h5,← h2,← h3,← h4,show W.drawn+(w'.drawn - W.drawn)=w'.drawn by omega]
theorem QcE {d:D} {p:Pt} (h:ptOf d=some p):d=ptD p:=by
 unfold ptOf at h
 split at h
 ·cases h;rfl
 ·cases h
theorem kX:∀ {l:List D} {ps:List Pt},wI l=some ps→l=ps.map ptD
 | [],ps,h=>by cases h;rfl
 | d::l,ps,h=>by
  unfold wI at h
  split at h
  ·rename_i p qs h1 h2
   cases h
   rw [QcE h1,kX h2];rfl
  ·cases h
theorem Qo {n:Nat} {l r:List D} (h:ZJ n l=some r):ZR cx 41 2 l [.fn (.func 42) [] []] r:=by
 unfold ZJ at h
 by_cases hl:l.length≤1000
 ·rw [if_pos hl] at h
  obtain ⟨ps,hps,h⟩:=Qi h
  obtain rfl:=oi h
  obtain rfl:=kX hps
  intro w F rr cap c e vs hF hG hFr hlen hv hb hrow hcap hsz
  match vs,hlen with
  | [y],_ =>
   have hy:y=.func (.func 42) #[] #[]:=by
    have:=hv 0 _ y rfl rfl
    cases this with
    | fn _ _ _ xs ys h1 h2 _ _ =>
     have a1:=List.length_eq_zero_iff.1 h1.symm
     have a2:=List.length_eq_zero_iff.1 h2.symm
     subst a1;subst a2;rfl
   subst hy
   rw [List.length_map] at hl hcap ⊢
   have hrr:=hF rr hFr
   have hcs:ps.length * 2≤c.size:=by
    have:=Nat.mul_le_mul_right 2 hcap
    omega
   have hcell:∀ t,t < ps.length * 2→c[t]?=some ((K4 ps.toArray[t / 2]!)[t % 2]!):=by
    intro t ht
    have hi:t / 2 < ps.length:=by omega
    have he:(ps.map ptD)[t / 2]?=some (ptD ps[t / 2]):=by rw [List.getElem?_map,List.getElem?_eq_getElem hi];rfl
    have hg:(ps.toArray[t / 2]!)=ps[t / 2]:=by rw [getElem!_pos _ _ (by simpa using hi)];simp
    rw [hg]
    rcases Nat.mod_two_eq_zero_or_one t with h0 | h0
    ·obtain ⟨v,q1,_,q3⟩:=hrow.2 (t / 2) _ 0 _ he rfl
     rw [show t / 2 * 2+0=t by omega] at q1
     rw [h0,q1,dr_i q3];rfl
    ·obtain ⟨v,q1,_,q3⟩:=hrow.2 (t / 2) _ 1 _ he rfl
     rw [show t / 2 * 2+1=t by omega] at q1
     rw [h0,q1,dr_i q3];rfl
   have hH:HoldsK K4 2 w rr 0 ps.toArray:=by
    intro j hj
    rw [size_flatK] at hj
    have hj' : j < ps.length * 2:=by simpa using hj
    refine ⟨?_,?_⟩
    ·rw [get_flatK _ _ _ _ hj]
     unfold World.cell?
     rw [hb]
     simpa using hcell j hj'
    ·unfold World.frozen?
     rw [hb]
     simp
   have eg:∀ args w,(callFunc 42 args).run cx.P w=.ok (.enter 42 args) w:=enters_of Tryz.func42 (by kernel_rfl) rfl
   have hcon:=AnyQ.slices_SortFunc Tryz.sortP 2 Tryz.isAgg46 Tryz.sizeOf46 K4 (fun _=>rfl) (fun x v hv=>by simp [K4] at hv;rcases hv with rfl | rfl <;> rfl) wk swoP 42 #[] rr 0 cap ps.toArray w eg
    (fun _ _ _ _ x y=>wj x y _) hH hrr (by simp;omega)
   refine Calls.mono (show Calls cx.P 41 (Value.slice (some ⟨rr,0,none⟩) ps.length cap::[Value.func (.func 42) #[] #[]]).toArray w (fun e w'=>e=.returned (.tuple #[])∧∃ d' m os,PermIn 0 ps.toArray.size ps.toArray d'∧SortedIn (ltOf wk) 0 ps.toArray.size d'∧w'=sortWorldK K4 2 w rr 0 m d' os) from hcon) ?_
   rintro e' w' ⟨rfl,d',m,os,hp,hs,rfl⟩
   have hd:=QaO hp hs
   obtain ⟨s1,s2,s3⟩:=Go.Geo.srt_ok ps
   have hds:d'.size=ps.length:=by rw [← s3,← hd];simp
   have hfs:(flatK K4 2 d').size=ps.length * 2:=by rw [size_flatK,hds]
   have hheap:∀ q,q < w.heap.size→(sortWorldK K4 2 w rr 0 m d' os).heap[q]?=(w.heap.modify rr (onCells (putCells id 0 (flatK K4 2 d'))))[q]?:=by
    intro q hq
    show ((w.heap.modify rr _)++os)[q]?=_
    rw [Array.getElem?_append,if_pos (by simpa using hq)]
   refine ⟨rfl,by simp [s3],putCells id 0 (flatK K4 2 d') c,by unfold putCells;simp,⟨fun i d hi=>?_,fun i d j a hi hj=>?_⟩,?_,⟨(fun hh=>by cases hh),rfl,rfl,rfl,?_,fun q hq hne=>?_⟩⟩
   ·rw [List.getElem?_map,Option.map_eq_some_iff] at hi
    obtain ⟨p,_,rfl⟩:=hi;rfl
   ·rw [List.getElem?_map,Option.map_eq_some_iff] at hi
    obtain ⟨p,hi,rfl⟩:=hi
    have hil:=(List.getElem?_eq_some_iff.1 hi).1
    rw [s3] at hil
    have hg:(d'[i]!)=p:=by
     rw [getElem!_pos _ _ (by omega)]
     have:d'.toList[i]?=some p:=by rw [hd];exact hi
     rw [List.getElem?_eq_some_iff] at this
     obtain ⟨_,h2⟩:=this
     simpa using h2
    have hput:∀ t,t < ps.length * 2→(putCells id 0 (flatK K4 2 d') c)[t]?=some ((K4 d'[t / 2]!)[t % 2]!):=by
     intro t ht
     unfold putCells
     rw [Array.getElem?_mapIdx,hcell t ht,Option.map_some,if_pos ⟨Nat.zero_le _,by omega⟩,Nat.sub_zero,get_flatK _ _ _ _ (by omega)];rfl
    have key:∀ k,k < 2→(putCells id 0 (flatK K4 2 d') c)[i * 2+k]?=some ((K4 p)[k]!):=by
     intro k hk
     rw [hput (i * 2+k) (by omega),show (i * 2+k) / 2=i by omega,show (i * 2+k) % 2=k by omega,hg]
    match j,hj with
    | 0,hj=>cases hj;exact ⟨_,key 0 (by omega),rfl,.v _⟩
    | 1,hj=>cases hj;exact ⟨_,key 1 (by omega),rfl,.v _⟩
   ·rw [hheap rr hrr,Array.getElem?_modify,if_pos rfl,hb];rfl
   ·show w.heap.size≤((w.heap.modify rr _)++os).size
    simp
   ·rw [hheap q hq,Array.getElem?_modify,if_neg (fun h=>hne h.symm)]
 ·rw [if_neg hl] at h;cases h
set_option maxRecDepth 10000
def Tryz.lays156_ren:Go.Shelf.Ren:=⟨fun | 156=>83 | 165=>110 | 166=>111 | 169=>112 | 240=>127 | 241=>128 | 276=>146 | 277=>147 | n=>n,fun | 31=>142 | 9=>9 | 3=>3 | 4=>4 | 0=>0 | 20=>20 | 72=>173 | 76=>177 | 70=>170 | 37=>171 | 75=>176 | 127=>200 | 164=>211 | 5=>5 | 80=>145 | n=>n,fun | n=>n⟩
theorem Tryz.lays156:Go.Proofs.Lays.n156 Tryz.prog Tryz.lays156_ren:={
 mixed:=by kernel_rfl
 f156:=Tryz.func83.trans (congrArg some (by kernel_rfl))
 f165:=Tryz.func110.trans (congrArg some (by kernel_rfl))
 f166:=Tryz.func111.trans (congrArg some (by kernel_rfl))
 f169:=Tryz.func112.trans (congrArg some (by kernel_rfl))
 f240:=Tryz.func127.trans (congrArg some (by kernel_rfl))
 f241:=Tryz.func128.trans (congrArg some (by kernel_rfl))
 f276:=Tryz.func146.trans (congrArg some (by kernel_rfl))
 f277:=Tryz.func147.trans (congrArg some (by kernel_rfl))
 t0:=Tryz.underlying0
 a0:=Tryz.isAgg0
 z0:=Tryz.sizeOf0
 v0:=Tryz.zeroValue0
 t3:=Tryz.underlying3
 a3:=Tryz.isAgg3
 z3:=Tryz.sizeOf3
 v3:=Tryz.zeroValue3
 t4:=Tryz.underlying4
 a4:=Tryz.isAgg4
 z4:=Tryz.sizeOf4
 v4:=Tryz.zeroValue4
 t9:=Tryz.underlying9
 a9:=Tryz.isAgg9
 z9:=Tryz.sizeOf9
 v9:=Tryz.zeroValue9
 t20:=Tryz.underlying20
 a20:=Tryz.isAgg20
 z20:=Tryz.sizeOf20
 v20:=Tryz.zeroValue20
 t31:=Tryz.underlying142
 a31:=Tryz.isAgg142
 z31:=Tryz.sizeOf142
 v31:=Tryz.zeroValue142
 t37:=Tryz.underlying171
 a37:=Tryz.isAgg171
 z37:=Tryz.sizeOf171
 v37:=Tryz.zeroValue171
 t70:=Tryz.underlying170
 a70:=Tryz.isAgg170
 z70:=Tryz.sizeOf170
 v70:=Tryz.zeroValue170
 t72:=Tryz.underlying173
 a72:=Tryz.isAgg173
 z72:=Tryz.sizeOf173
 v72:=Tryz.zeroValue173
 t75:=Tryz.underlying176
 a75:=Tryz.isAgg176
 z75:=Tryz.sizeOf176
 v75:=Tryz.zeroValue176
 t76:=Tryz.underlying177
 a76:=Tryz.isAgg177
 z76:=Tryz.sizeOf177
 v76:=Tryz.zeroValue177
 t127:=Tryz.underlying200
 a127:=Tryz.isAgg200
 z127:=Tryz.sizeOf200
 v127:=Tryz.zeroValue200
 t164:=Tryz.underlying211
 a164:=Tryz.isAgg211
 z164:=Tryz.sizeOf211
 v164:=Tryz.zeroValue211 }
theorem Tryz.Builder_Extra_156:Builder.Extra Tryz.prog Tryz.lays156_ren:={
 sizeBuilder:=by kernel_rfl
 liesBuilder:=by kernel_rfl
 t5:=Tryz.underlying5
 a5:=Tryz.isAgg5
 z5:=Tryz.sizeOf5
 v5:=Tryz.zeroValue5
 infoByte:=by kernel_rfl
 cellsByte:=by kernel_rfl
 sizeByte:=by kernel_rfl
 neB5:=by decide }
open Go.RowKit in
def jC:List D→Option (List ByteArray)
 | []=>some []
 | d::l=>match Xx d,jC l with
  | some x,some xs=>some (x::xs)
  | _,_=>none
theorem wu:∀ {l:List D} {xs:List ByteArray},jC l=some xs→l=xs.map fun x=>.v (.string x)
 | [],xs,h=>by cases h;rfl
 | d::l,xs,h=>by
  unfold jC at h
  split at h
  ·rename_i x ys h1 h2
   cases h
   rw [J6 h1,wu h2];rfl
  ·cases h
def Qds (xs:List ByteArray) (sep:ByteArray):ByteArray:=⟨(Lib.join (xs.map (·.data.toList)) sep.data.toList).toArray⟩
def UE (n:Nat) (l:List D) (sep:ByteArray):Option ByteArray :=
 (jC l).bind fun xs=>if xs.length≤140737488355328∧(Lib.join (xs.map (·.data.toList)) sep.data.toList).length≤140737488355328 then some (Qds xs sep) else none
theorem zG {n:Nat} {full:Bool} {sz:Nat} {l:List D} {sep r:ByteArray} (h:UE n l sep=some r):Computes cx 83 [.lst full sz l,.v (.string sep)] (.v (.string r)):=by
 unfold UE at h
 obtain ⟨xs,hx,h⟩:=Qi h
 split at h
 case isFalse=>cases h
 rename_i hi
 cases h
 have hl:=wu hx
 intro w F vs hF hG hvl hd
 match vs,hvl with
 | [a,b],_ =>
  rw [dr_v (hd 1 _ _ rfl rfl)]
  have ha:=hd 0 _ _ rfl rfl
  cases ha with
  | lst _ _ _ a0 cap blk off ys hf hc haa hs hw hdr =>
   cases l with
   | nil =>
    cases xs with
    | cons x xs=>simp at hl
    | nil =>
     refine (Any.strings_Join_none Tryz.lays156 Tryz.Builder_Extra_156 a0 cap sep w).mono ?_
     rintro e w' ⟨he,rfl⟩
     exact ⟨_,he,.v _,Ext.refl _ _⟩
   | cons d0 l0 =>
    obtain ⟨h1,h2,h3⟩:=haa (by simp)
    subst h1
    have hlen:(d0::l0).length=xs.length:=by rw [hl];simp
    rw [hlen]
    refine (Any.strings_Join Tryz.lays156 Tryz.Builder_Extra_156 blk off cap xs sep w ?_ h3 hi.1 (by omega) hi.2).mono ?_
    ·intro j x hj
     have hj' : (d0::l0)[j]?=some (.v (.string x)):=by rw [hl];simp [hj]
     have hz:sz=1:=by have:=hs j _ hj';simpa [D.cells] using this.symm
     subst hz
     have q1:=(hw j _ 0 _ hj' rfl).1
     have q2:=dr_v (hdr j _ 0 _ hj' rfl)
     rw [q2] at q1
     simpa using q1
    ·rintro e w' ⟨he,hb⟩
     exact ⟨_,he,.v _,Qbb hb⟩
set_option maxHeartbeats 4000000
abbrev b0:Orc:=.br false
abbrev b1:Orc:=.br true
def no:Nat→List Orc→List Orc
 | 0,l=>l
 | n+1,l=>.no::no n l
theorem rf {f:FuncId} {args:List D} {r:D} {ob:List Prop} (orc:List Orc) (ho:All ob) (h:QR true 100 cx f args orc=some (r,ob):=by kernel_rfl):Computes cx f args r:=run h ho
structure Lp (S E:Type) where
 T:S→List (Nat×AV)
 H:S→List (Nat×Blk)
 X:E→Ex
 Y:E→List (Nat×AV)
 Z:E→List (Nat×Blk)
abbrev Rl {S E:Type} (c:Code) (nt vis:Nat) (rnd:Bool) (L:Lp S E) (s:S) (r:S⊕E):Prop:=Rd cx c nt vis rnd L.T L.H L.X L.Y L.Z s r
theorem rn {S E:Type} {c:Code} {nt vis:Nat} {rnd:Bool} {L:Lp S E} {s s' : S} (nx:Nat) (orc:List Orc) (pr kt kb:List Nat) {ob:List Prop} (ho:All ob) (h:YC 100 cx c nt vis rnd nx (L.T s) (L.H s) orc pr kt kb=some (.normal,L.T s',L.H s',ob):=by kernel_rfl):Rl c nt vis rnd L s (.inl s'):=⟨100,nx,orc,pr,kt,kb,GV ho h⟩
theorem rx {S E:Type} {c:Code} {nt vis:Nat} {rnd:Bool} {L:Lp S E} {s:S} {e:E} (nx:Nat) (orc:List Orc) (pr kt kb:List Nat) {ob:List Prop} (ho:All ob) (h:YC 100 cx c nt vis rnd nx (L.T s) (L.H s) orc pr kt kb=some (L.X e,L.Y e,L.Z e,ob):=by kernel_rfl) (hx:L.X e≠.normal:=by nofun):Rl c nt vis rnd L s (.inr e):=⟨⟨100,nx,orc,pr,kt,kb,GV ho h⟩,hx⟩
theorem ro (e:TypeId) {b n:Nat} (h:Q1 b n) (hb:cx.bytes e=some b:=by kernel_rfl) (h0:0 < b:=by decide):room cx e n:=UM hb h0 h
theorem W2 {α:Type} {un:D→Option α} {enc:α→D} {es:List D} {i:Int} {x:α} {l:List Prop} (hun:∀ {d x},un d=some x→d=enc x) (h:el un es i=some x) (t:All l):All ((0≤i)::(nth es i.toNat=some (enc x))::l):=Qc (Qau hun h).1 (Qc (Qau hun h).2 t)
theorem io {α:Type} {p:Prop} [Decidable p] {x y:Option α} {r:α} (h:(if p then x else y)=some r):(p∧x=some r) ∨ (¬ p∧y=some r):=by
 by_cases hp:p
 · exact .inl ⟨hp,it h hp⟩
 · exact .inr ⟨hp,jf h hp⟩
def Yz (n:Nat) (a0 a1 a2 a3:Int):Option (Int×Int×Int) :=
 if Qa (a0 * a1) then
 if Qa (a0 * a2) then
 if Qa (a0 * a3) then
 some ((a0 * a1),(a0 * a2),(a0 * a3))
 else none
 else none
 else none
theorem QQ {n:Nat} {a0 a1 a2 a3:Int} {r:Int×Int×Int} (h:Yz n a0 a1 a2 a3=some r):Computes cx 79 [I a0,.agg [I a1,I a2,I a3]] (.agg [I r.1,I r.2.1,I r.2.2]):=by
 unfold Yz at h
 obtain ⟨h1,h⟩:=gd h;obtain ⟨h2,h⟩:=gd h;obtain ⟨h3,h⟩:=gd h
 cases h
 exact rf [] (Qc h3 (Qc h2 (Qc h1 Qz)))
def Y5 (n:Nat) (a0 a1 a2 a3 a4 a5:Int):Option (Int×Int×Int) :=
 if Qa (a0+a3) then
 if Qa (a1+a4) then
 if Qa (a2+a5) then
 some ((a0+a3),(a1+a4),(a2+a5))
 else none
 else none
 else none
theorem QZ {n:Nat} {a0 a1 a2 a3 a4 a5:Int} {r:Int×Int×Int} (h:Y5 n a0 a1 a2 a3 a4 a5=some r):Computes cx 78 [.agg [I a0,I a1,I a2],.agg [I a3,I a4,I a5]] (.agg [I r.1,I r.2.1,I r.2.2]):=by
 unfold Y5 at h
 obtain ⟨h1,h⟩:=gd h;obtain ⟨h2,h⟩:=gd h;obtain ⟨h3,h⟩:=gd h
 cases h
 exact rf [] (Qc h3 (Qc h2 (Qc h1 Qz)))
def Wf (n:Nat) (a0 a1 a2 a3 a4 a5:Int):Option (Int×Int×Int) :=
 if Qa (a1 * a5) then
 if Qa (a2 * a4) then
 if Qa ((a1 * a5) - (a2 * a4)) then
 if Qa (a2 * a3) then
 if Qa (a0 * a5) then
 if Qa ((a2 * a3) - (a0 * a5)) then
 if Qa (a0 * a4) then
 if Qa (a1 * a3) then
 if Qa ((a0 * a4) - (a1 * a3)) then
 some (((a1 * a5) - (a2 * a4)),((a2 * a3) - (a0 * a5)),((a0 * a4) - (a1 * a3)))
 else none
 else none
 else none
 else none
 else none
 else none
 else none
 else none
 else none
theorem ZD {n:Nat} {a0 a1 a2 a3 a4 a5:Int} {r:Int×Int×Int} (h:Wf n a0 a1 a2 a3 a4 a5=some r):Computes cx 96 [.agg [I a0,I a1,I a2],.agg [I a3,I a4,I a5]] (.agg [I r.1,I r.2.1,I r.2.2]):=by
 unfold Wf at h
 obtain ⟨h1,h⟩:=gd h;obtain ⟨h2,h⟩:=gd h;obtain ⟨h3,h⟩:=gd h;obtain ⟨h4,h⟩:=gd h;obtain ⟨h5,h⟩:=gd h;obtain ⟨h6,h⟩:=gd h;obtain ⟨h7,h⟩:=gd h;obtain ⟨h8,h⟩:=gd h;obtain ⟨h9,h⟩:=gd h
 cases h
 exact rf [] (Qc h9 (Qc h8 (Qc h7 (Qc h6 (Qc h5 (Qc h4 (Qc h3 (Qc h2 (Qc h1 Qz)))))))))
def Wq (n:Nat) (a0:ByteArray) (a1 a2 a3 a4 a5 a6 a7 a8 a9:Int):Option (Int×Int×Int) :=
 (Wf n a4 a5 a6 a7 a8 a9).bind fun t1 =>
 some (t1.1,t1.2.1,t1.2.2)
theorem Qk {n:Nat} {a0:ByteArray} {a1 a2 a3 a4 a5 a6 a7 a8 a9:Int} {r:Int×Int×Int} (h:Wq n a0 a1 a2 a3 a4 a5 a6 a7 a8 a9=some r):Computes cx 61 [.agg [.v (.string a0),I a1,I a2,I a3,I a4,I a5,I a6,I a7,I a8,I a9]] (.agg [I r.1,I r.2.1,I r.2.2]):=by
 unfold Wq at h
 obtain ⟨t1,h1,h⟩:=bo h
 cases h
 exact rf [.ret (.agg [I t1.1,I t1.2.1,I t1.2.2])] (Qc (ZD h1) Qz)
def Zy (n:Nat) (a0 a1 a2 a3 a4 a5:Int):Option (Int) :=
 if Qa (a0 * a3) then
 if Qa (a1 * a4) then
 if Qa ((a0 * a3)+(a1 * a4)) then
 if Qa (a2 * a5) then
 if Qa (((a0 * a3)+(a1 * a4))+(a2 * a5)) then
 some (((a0 * a3)+(a1 * a4))+(a2 * a5))
 else none
 else none
 else none
 else none
 else none
theorem Qq {n:Nat} {a0 a1 a2 a3 a4 a5:Int} {r:Int} (h:Zy n a0 a1 a2 a3 a4 a5=some r):Computes cx 64 [.agg [I a0,I a1,I a2],.agg [I a3,I a4,I a5]] (I r):=by
 unfold Zy at h
 obtain ⟨h1,h⟩:=gd h;obtain ⟨h2,h⟩:=gd h;obtain ⟨h3,h⟩:=gd h;obtain ⟨h4,h⟩:=gd h;obtain ⟨h5,h⟩:=gd h
 cases h
 exact rf [] (Qc h5 (Qc h4 (Qc h3 (Qc h2 (Qc h1 Qz)))))
theorem Jf (a0:ByteArray) (a1:Int) (a2:Int) (a3:Int) (a4:Int) (a5:Int) (a6:Int) (a7:Int) (a8:Int) (a9:Int) (a10:Int) (a11:Int) (a12:Int) (a13:Int) (a14:Int) (a15:Int) (a16:Int) (a17:Bool) (t1:Int×Int×Int) (t2:Int×Int×Int) (t3:Int×Int×Int) (t4:Int) (t5:Int):QR true 100 cx 86 [.agg [.v (.string a0),I a1,I a2,I a3,I a4,I a5,I a6,I a7,I a8,I a9],I a10,.agg [I a11,I a12,I a13,I a14,I a15,I a16,B a17]] [.ret (.agg [I t1.1,I t1.2.1,I t1.2.2]),.ret (.agg [I t2.1,I t2.2.1,I t2.2.2]),.ret (.agg [I t3.1,I t3.2.1,I t3.2.2]),.ret (I t4),.ret (.agg [I t3.1,I t3.2.1,I t3.2.2]),.ret (I t5),.br true,.br true,.no,.no]=some (B false,[((IntKind.wrap .i64 (0 - t4)) == 0)=true,(decide (t4 < 0))=true,Computes cx 64 [.agg [I t3.1,I t3.2.1,I t3.2.2],.agg [I t2.1,I t2.2.1,I t2.2.2]] (I t5),Computes cx 61 [.agg [.v (.string a0),I a1,I a2,I a3,I a4,I a5,I a6,I a7,I a8,I a9]] (.agg [I t3.1,I t3.2.1,I t3.2.2]),Computes cx 64 [.agg [I t3.1,I t3.2.1,I t3.2.2],.agg [I a14,I a15,I a16]] (I t4),Computes cx 61 [.agg [.v (.string a0),I a1,I a2,I a3,I a4,I a5,I a6,I a7,I a8,I a9]] (.agg [I t3.1,I t3.2.1,I t3.2.2]),Computes cx 78 [.agg [I a11,I a12,I a13],.agg [I t1.1,I t1.2.1,I t1.2.2]] (.agg [I t2.1,I t2.2.1,I t2.2.2]),Computes cx 79 [I (IntKind.wrap .i64 (0 - a10)),.agg [I a1,I a2,I a3]] (.agg [I t1.1,I t1.2.1,I t1.2.2])]):=by kernel_rfl
theorem Je (a0:ByteArray) (a1:Int) (a2:Int) (a3:Int) (a4:Int) (a5:Int) (a6:Int) (a7:Int) (a8:Int) (a9:Int) (a10:Int) (a11:Int) (a12:Int) (a13:Int) (a14:Int) (a15:Int) (a16:Int) (a17:Bool) (t1:Int×Int×Int) (t2:Int×Int×Int) (t3:Int×Int×Int) (t4:Int) (t5:Int):QR true 100 cx 86 [.agg [.v (.string a0),I a1,I a2,I a3,I a4,I a5,I a6,I a7,I a8,I a9],I a10,.agg [I a11,I a12,I a13,I a14,I a15,I a16,B a17]] [.ret (.agg [I t1.1,I t1.2.1,I t1.2.2]),.ret (.agg [I t2.1,I t2.2.1,I t2.2.2]),.ret (.agg [I t3.1,I t3.2.1,I t3.2.2]),.ret (I t4),.ret (.agg [I t3.1,I t3.2.1,I t3.2.2]),.ret (I t5),.br true,.br false,.br true,.no]=some (B false,[(decide ((IntKind.wrap .i64 (0 - (IntKind.wrap .i64 (0 - t5))))≤0))=true,((IntKind.wrap .i64 (0 - t4)) == 0)=false,(decide (t4 < 0))=true,Computes cx 64 [.agg [I t3.1,I t3.2.1,I t3.2.2],.agg [I t2.1,I t2.2.1,I t2.2.2]] (I t5),Computes cx 61 [.agg [.v (.string a0),I a1,I a2,I a3,I a4,I a5,I a6,I a7,I a8,I a9]] (.agg [I t3.1,I t3.2.1,I t3.2.2]),Computes cx 64 [.agg [I t3.1,I t3.2.1,I t3.2.2],.agg [I a14,I a15,I a16]] (I t4),Computes cx 61 [.agg [.v (.string a0),I a1,I a2,I a3,I a4,I a5,I a6,I a7,I a8,I a9]] (.agg [I t3.1,I t3.2.1,I t3.2.2]),Computes cx 78 [.agg [I a11,I a12,I a13],.agg [I t1.1,I t1.2.1,I t1.2.2]] (.agg [I t2.1,I t2.2.1,I t2.2.2]),Computes cx 79 [I (IntKind.wrap .i64 (0 - a10)),.agg [I a1,I a2,I a3]] (.agg [I t1.1,I t1.2.1,I t1.2.2])]):=by kernel_rfl
theorem Jd (a0:ByteArray) (a1:Int) (a2:Int) (a3:Int) (a4:Int) (a5:Int) (a6:Int) (a7:Int) (a8:Int) (a9:Int) (a10:Int) (a11:Int) (a12:Int) (a13:Int) (a14:Int) (a15:Int) (a16:Int) (a17:Bool) (t1:Int×Int×Int) (t2:Int×Int×Int) (t3:Int×Int×Int) (t4:Int) (t5:Int):QR true 100 cx 86 [.agg [.v (.string a0),I a1,I a2,I a3,I a4,I a5,I a6,I a7,I a8,I a9],I a10,.agg [I a11,I a12,I a13,I a14,I a15,I a16,B a17]] [.ret (.agg [I t1.1,I t1.2.1,I t1.2.2]),.ret (.agg [I t2.1,I t2.2.1,I t2.2.2]),.ret (.agg [I t3.1,I t3.2.1,I t3.2.2]),.ret (I t4),.ret (.agg [I t3.1,I t3.2.1,I t3.2.2]),.ret (I t5),.br true,.br false,.br false,.br true,.br true]=some (B false,[(decide ((IntKind.wrap .i64 (0 - (IntKind.wrap .i64 (0 - t5)))) ≥ (IntKind.wrap .i64 (0 - t4))))=true,a17=true,(decide ((IntKind.wrap .i64 (0 - (IntKind.wrap .i64 (0 - t5))))≤0))=false,((IntKind.wrap .i64 (0 - t4)) == 0)=false,(decide (t4 < 0))=true,Computes cx 64 [.agg [I t3.1,I t3.2.1,I t3.2.2],.agg [I t2.1,I t2.2.1,I t2.2.2]] (I t5),Computes cx 61 [.agg [.v (.string a0),I a1,I a2,I a3,I a4,I a5,I a6,I a7,I a8,I a9]] (.agg [I t3.1,I t3.2.1,I t3.2.2]),Computes cx 64 [.agg [I t3.1,I t3.2.1,I t3.2.2],.agg [I a14,I a15,I a16]] (I t4),Computes cx 61 [.agg [.v (.string a0),I a1,I a2,I a3,I a4,I a5,I a6,I a7,I a8,I a9]] (.agg [I t3.1,I t3.2.1,I t3.2.2]),Computes cx 78 [.agg [I a11,I a12,I a13],.agg [I t1.1,I t1.2.1,I t1.2.2]] (.agg [I t2.1,I t2.2.1,I t2.2.2]),Computes cx 79 [I (IntKind.wrap .i64 (0 - a10)),.agg [I a1,I a2,I a3]] (.agg [I t1.1,I t1.2.1,I t1.2.2])]):=by kernel_rfl
theorem Jc (a0:ByteArray) (a1:Int) (a2:Int) (a3:Int) (a4:Int) (a5:Int) (a6:Int) (a7:Int) (a8:Int) (a9:Int) (a10:Int) (a11:Int) (a12:Int) (a13:Int) (a14:Int) (a15:Int) (a16:Int) (a17:Bool) (t1:Int×Int×Int) (t2:Int×Int×Int) (t3:Int×Int×Int) (t4:Int) (t5:Int) (t11:Int×Int×Int) (t12:Int) (t13:Int):QR true 100 cx 86 [.agg [.v (.string a0),I a1,I a2,I a3,I a4,I a5,I a6,I a7,I a8,I a9],I a10,.agg [I a11,I a12,I a13,I a14,I a15,I a16,B a17]] [.ret (.agg [I t1.1,I t1.2.1,I t1.2.2]),.ret (.agg [I t2.1,I t2.2.1,I t2.2.2]),.ret (.agg [I t3.1,I t3.2.1,I t3.2.2]),.ret (I t4),.ret (.agg [I t3.1,I t3.2.1,I t3.2.2]),.ret (I t5),.br true,.br false,.br false,.br true,.br false,.ret (.agg [I t11.1,I t11.2.1,I t11.2.2]),.ret (I t12),.ret (I t13),.br true]=some (B (decide ((YZ t13 (IntKind.wrap .i64 (0 - t13)))≤(a10 * (IntKind.wrap .i64 (0 - t4))))),[Qa (a10 * (IntKind.wrap .i64 (0 - t4))),(decide ((YZ t12 (IntKind.wrap .i64 (0 - t12)))≤(a10 * (IntKind.wrap .i64 (0 - t4)))))=true,Qa (a10 * (IntKind.wrap .i64 (0 - t4))),Computes cx 64 [.agg [I t11.1,I t11.2.1,I t11.2.2],.agg [I a4,I a5,I a6]] (I t13),Computes cx 64 [.agg [I t11.1,I t11.2.1,I t11.2.2],.agg [I a7,I a8,I a9]] (I t12),Computes cx 96 [.agg [I a14,I a15,I a16],.agg [I t2.1,I t2.2.1,I t2.2.2]] (.agg [I t11.1,I t11.2.1,I t11.2.2]),(decide ((IntKind.wrap .i64 (0 - (IntKind.wrap .i64 (0 - t5)))) ≥ (IntKind.wrap .i64 (0 - t4))))=false,a17=true,(decide ((IntKind.wrap .i64 (0 - (IntKind.wrap .i64 (0 - t5))))≤0))=false,((IntKind.wrap .i64 (0 - t4)) == 0)=false,(decide (t4 < 0))=true,Computes cx 64 [.agg [I t3.1,I t3.2.1,I t3.2.2],.agg [I t2.1,I t2.2.1,I t2.2.2]] (I t5),Computes cx 61 [.agg [.v (.string a0),I a1,I a2,I a3,I a4,I a5,I a6,I a7,I a8,I a9]] (.agg [I t3.1,I t3.2.1,I t3.2.2]),Computes cx 64 [.agg [I t3.1,I t3.2.1,I t3.2.2],.agg [I a14,I a15,I a16]] (I t4),Computes cx 61 [.agg [.v (.string a0),I a1,I a2,I a3,I a4,I a5,I a6,I a7,I a8,I a9]] (.agg [I t3.1,I t3.2.1,I t3.2.2]),Computes cx 78 [.agg [I a11,I a12,I a13],.agg [I t1.1,I t1.2.1,I t1.2.2]] (.agg [I t2.1,I t2.2.1,I t2.2.2]),Computes cx 79 [I (IntKind.wrap .i64 (0 - a10)),.agg [I a1,I a2,I a3]] (.agg [I t1.1,I t1.2.1,I t1.2.2])]):=by kernel_rfl
theorem Jb (a0:ByteArray) (a1:Int) (a2:Int) (a3:Int) (a4:Int) (a5:Int) (a6:Int) (a7:Int) (a8:Int) (a9:Int) (a10:Int) (a11:Int) (a12:Int) (a13:Int) (a14:Int) (a15:Int) (a16:Int) (a17:Bool) (t1:Int×Int×Int) (t2:Int×Int×Int) (t3:Int×Int×Int) (t4:Int) (t5:Int) (t11:Int×Int×Int) (t12:Int) (t13:Int):QR true 100 cx 86 [.agg [.v (.string a0),I a1,I a2,I a3,I a4,I a5,I a6,I a7,I a8,I a9],I a10,.agg [I a11,I a12,I a13,I a14,I a15,I a16,B a17]] [.ret (.agg [I t1.1,I t1.2.1,I t1.2.2]),.ret (.agg [I t2.1,I t2.2.1,I t2.2.2]),.ret (.agg [I t3.1,I t3.2.1,I t3.2.2]),.ret (I t4),.ret (.agg [I t3.1,I t3.2.1,I t3.2.2]),.ret (I t5),.br true,.br false,.br false,.br true,.br false,.ret (.agg [I t11.1,I t11.2.1,I t11.2.2]),.ret (I t12),.ret (I t13),.br false]=some (B false,[(decide ((YZ t12 (IntKind.wrap .i64 (0 - t12)))≤(a10 * (IntKind.wrap .i64 (0 - t4)))))=false,Qa (a10 * (IntKind.wrap .i64 (0 - t4))),Computes cx 64 [.agg [I t11.1,I t11.2.1,I t11.2.2],.agg [I a4,I a5,I a6]] (I t13),Computes cx 64 [.agg [I t11.1,I t11.2.1,I t11.2.2],.agg [I a7,I a8,I a9]] (I t12),Computes cx 96 [.agg [I a14,I a15,I a16],.agg [I t2.1,I t2.2.1,I t2.2.2]] (.agg [I t11.1,I t11.2.1,I t11.2.2]),(decide ((IntKind.wrap .i64 (0 - (IntKind.wrap .i64 (0 - t5)))) ≥ (IntKind.wrap .i64 (0 - t4))))=false,a17=true,(decide ((IntKind.wrap .i64 (0 - (IntKind.wrap .i64 (0 - t5))))≤0))=false,((IntKind.wrap .i64 (0 - t4)) == 0)=false,(decide (t4 < 0))=true,Computes cx 64 [.agg [I t3.1,I t3.2.1,I t3.2.2],.agg [I t2.1,I t2.2.1,I t2.2.2]] (I t5),Computes cx 61 [.agg [.v (.string a0),I a1,I a2,I a3,I a4,I a5,I a6,I a7,I a8,I a9]] (.agg [I t3.1,I t3.2.1,I t3.2.2]),Computes cx 64 [.agg [I t3.1,I t3.2.1,I t3.2.2],.agg [I a14,I a15,I a16]] (I t4),Computes cx 61 [.agg [.v (.string a0),I a1,I a2,I a3,I a4,I a5,I a6,I a7,I a8,I a9]] (.agg [I t3.1,I t3.2.1,I t3.2.2]),Computes cx 78 [.agg [I a11,I a12,I a13],.agg [I t1.1,I t1.2.1,I t1.2.2]] (.agg [I t2.1,I t2.2.1,I t2.2.2]),Computes cx 79 [I (IntKind.wrap .i64 (0 - a10)),.agg [I a1,I a2,I a3]] (.agg [I t1.1,I t1.2.1,I t1.2.2])]):=by kernel_rfl
theorem Ja (a0:ByteArray) (a1:Int) (a2:Int) (a3:Int) (a4:Int) (a5:Int) (a6:Int) (a7:Int) (a8:Int) (a9:Int) (a10:Int) (a11:Int) (a12:Int) (a13:Int) (a14:Int) (a15:Int) (a16:Int) (a17:Bool) (t1:Int×Int×Int) (t2:Int×Int×Int) (t3:Int×Int×Int) (t4:Int) (t5:Int) (t10:Int×Int×Int) (t11:Int) (t12:Int):QR true 100 cx 86 [.agg [.v (.string a0),I a1,I a2,I a3,I a4,I a5,I a6,I a7,I a8,I a9],I a10,.agg [I a11,I a12,I a13,I a14,I a15,I a16,B a17]] [.ret (.agg [I t1.1,I t1.2.1,I t1.2.2]),.ret (.agg [I t2.1,I t2.2.1,I t2.2.2]),.ret (.agg [I t3.1,I t3.2.1,I t3.2.2]),.ret (I t4),.ret (.agg [I t3.1,I t3.2.1,I t3.2.2]),.ret (I t5),.br true,.br false,.br false,.br false,.no,.ret (.agg [I t10.1,I t10.2.1,I t10.2.2]),.ret (I t11),.ret (I t12),.br true]=some (B (decide ((YZ t12 (IntKind.wrap .i64 (0 - t12)))≤(a10 * (IntKind.wrap .i64 (0 - t4))))),[Qa (a10 * (IntKind.wrap .i64 (0 - t4))),(decide ((YZ t11 (IntKind.wrap .i64 (0 - t11)))≤(a10 * (IntKind.wrap .i64 (0 - t4)))))=true,Qa (a10 * (IntKind.wrap .i64 (0 - t4))),Computes cx 64 [.agg [I t10.1,I t10.2.1,I t10.2.2],.agg [I a4,I a5,I a6]] (I t12),Computes cx 64 [.agg [I t10.1,I t10.2.1,I t10.2.2],.agg [I a7,I a8,I a9]] (I t11),Computes cx 96 [.agg [I a14,I a15,I a16],.agg [I t2.1,I t2.2.1,I t2.2.2]] (.agg [I t10.1,I t10.2.1,I t10.2.2]),a17=false,(decide ((IntKind.wrap .i64 (0 - (IntKind.wrap .i64 (0 - t5))))≤0))=false,((IntKind.wrap .i64 (0 - t4)) == 0)=false,(decide (t4 < 0))=true,Computes cx 64 [.agg [I t3.1,I t3.2.1,I t3.2.2],.agg [I t2.1,I t2.2.1,I t2.2.2]] (I t5),Computes cx 61 [.agg [.v (.string a0),I a1,I a2,I a3,I a4,I a5,I a6,I a7,I a8,I a9]] (.agg [I t3.1,I t3.2.1,I t3.2.2]),Computes cx 64 [.agg [I t3.1,I t3.2.1,I t3.2.2],.agg [I a14,I a15,I a16]] (I t4),Computes cx 61 [.agg [.v (.string a0),I a1,I a2,I a3,I a4,I a5,I a6,I a7,I a8,I a9]] (.agg [I t3.1,I t3.2.1,I t3.2.2]),Computes cx 78 [.agg [I a11,I a12,I a13],.agg [I t1.1,I t1.2.1,I t1.2.2]] (.agg [I t2.1,I t2.2.1,I t2.2.2]),Computes cx 79 [I (IntKind.wrap .i64 (0 - a10)),.agg [I a1,I a2,I a3]] (.agg [I t1.1,I t1.2.1,I t1.2.2])]):=by kernel_rfl
theorem K9 (a0:ByteArray) (a1:Int) (a2:Int) (a3:Int) (a4:Int) (a5:Int) (a6:Int) (a7:Int) (a8:Int) (a9:Int) (a10:Int) (a11:Int) (a12:Int) (a13:Int) (a14:Int) (a15:Int) (a16:Int) (a17:Bool) (t1:Int×Int×Int) (t2:Int×Int×Int) (t3:Int×Int×Int) (t4:Int) (t5:Int) (t10:Int×Int×Int) (t11:Int) (t12:Int):QR true 100 cx 86 [.agg [.v (.string a0),I a1,I a2,I a3,I a4,I a5,I a6,I a7,I a8,I a9],I a10,.agg [I a11,I a12,I a13,I a14,I a15,I a16,B a17]] [.ret (.agg [I t1.1,I t1.2.1,I t1.2.2]),.ret (.agg [I t2.1,I t2.2.1,I t2.2.2]),.ret (.agg [I t3.1,I t3.2.1,I t3.2.2]),.ret (I t4),.ret (.agg [I t3.1,I t3.2.1,I t3.2.2]),.ret (I t5),.br true,.br false,.br false,.br false,.no,.ret (.agg [I t10.1,I t10.2.1,I t10.2.2]),.ret (I t11),.ret (I t12),.br false]=some (B false,[(decide ((YZ t11 (IntKind.wrap .i64 (0 - t11)))≤(a10 * (IntKind.wrap .i64 (0 - t4)))))=false,Qa (a10 * (IntKind.wrap .i64 (0 - t4))),Computes cx 64 [.agg [I t10.1,I t10.2.1,I t10.2.2],.agg [I a4,I a5,I a6]] (I t12),Computes cx 64 [.agg [I t10.1,I t10.2.1,I t10.2.2],.agg [I a7,I a8,I a9]] (I t11),Computes cx 96 [.agg [I a14,I a15,I a16],.agg [I t2.1,I t2.2.1,I t2.2.2]] (.agg [I t10.1,I t10.2.1,I t10.2.2]),a17=false,(decide ((IntKind.wrap .i64 (0 - (IntKind.wrap .i64 (0 - t5))))≤0))=false,((IntKind.wrap .i64 (0 - t4)) == 0)=false,(decide (t4 < 0))=true,Computes cx 64 [.agg [I t3.1,I t3.2.1,I t3.2.2],.agg [I t2.1,I t2.2.1,I t2.2.2]] (I t5),Computes cx 61 [.agg [.v (.string a0),I a1,I a2,I a3,I a4,I a5,I a6,I a7,I a8,I a9]] (.agg [I t3.1,I t3.2.1,I t3.2.2]),Computes cx 64 [.agg [I t3.1,I t3.2.1,I t3.2.2],.agg [I a14,I a15,I a16]] (I t4),Computes cx 61 [.agg [.v (.string a0),I a1,I a2,I a3,I a4,I a5,I a6,I a7,I a8,I a9]] (.agg [I t3.1,I t3.2.1,I t3.2.2]),Computes cx 78 [.agg [I a11,I a12,I a13],.agg [I t1.1,I t1.2.1,I t1.2.2]] (.agg [I t2.1,I t2.2.1,I t2.2.2]),Computes cx 79 [I (IntKind.wrap .i64 (0 - a10)),.agg [I a1,I a2,I a3]] (.agg [I t1.1,I t1.2.1,I t1.2.2])]):=by kernel_rfl
theorem K8 (a0:ByteArray) (a1:Int) (a2:Int) (a3:Int) (a4:Int) (a5:Int) (a6:Int) (a7:Int) (a8:Int) (a9:Int) (a10:Int) (a11:Int) (a12:Int) (a13:Int) (a14:Int) (a15:Int) (a16:Int) (a17:Bool) (t1:Int×Int×Int) (t2:Int×Int×Int) (t3:Int×Int×Int) (t4:Int) (t5:Int):QR true 100 cx 86 [.agg [.v (.string a0),I a1,I a2,I a3,I a4,I a5,I a6,I a7,I a8,I a9],I a10,.agg [I a11,I a12,I a13,I a14,I a15,I a16,B a17]] [.ret (.agg [I t1.1,I t1.2.1,I t1.2.2]),.ret (.agg [I t2.1,I t2.2.1,I t2.2.2]),.ret (.agg [I t3.1,I t3.2.1,I t3.2.2]),.ret (I t4),.ret (.agg [I t3.1,I t3.2.1,I t3.2.2]),.ret (I t5),.br false,.br true,.no,.no]=some (B false,[(t4 == 0)=true,(decide (t4 < 0))=false,Computes cx 64 [.agg [I t3.1,I t3.2.1,I t3.2.2],.agg [I t2.1,I t2.2.1,I t2.2.2]] (I t5),Computes cx 61 [.agg [.v (.string a0),I a1,I a2,I a3,I a4,I a5,I a6,I a7,I a8,I a9]] (.agg [I t3.1,I t3.2.1,I t3.2.2]),Computes cx 64 [.agg [I t3.1,I t3.2.1,I t3.2.2],.agg [I a14,I a15,I a16]] (I t4),Computes cx 61 [.agg [.v (.string a0),I a1,I a2,I a3,I a4,I a5,I a6,I a7,I a8,I a9]] (.agg [I t3.1,I t3.2.1,I t3.2.2]),Computes cx 78 [.agg [I a11,I a12,I a13],.agg [I t1.1,I t1.2.1,I t1.2.2]] (.agg [I t2.1,I t2.2.1,I t2.2.2]),Computes cx 79 [I (IntKind.wrap .i64 (0 - a10)),.agg [I a1,I a2,I a3]] (.agg [I t1.1,I t1.2.1,I t1.2.2])]):=by kernel_rfl
theorem K7 (a0:ByteArray) (a1:Int) (a2:Int) (a3:Int) (a4:Int) (a5:Int) (a6:Int) (a7:Int) (a8:Int) (a9:Int) (a10:Int) (a11:Int) (a12:Int) (a13:Int) (a14:Int) (a15:Int) (a16:Int) (a17:Bool) (t1:Int×Int×Int) (t2:Int×Int×Int) (t3:Int×Int×Int) (t4:Int) (t5:Int):QR true 100 cx 86 [.agg [.v (.string a0),I a1,I a2,I a3,I a4,I a5,I a6,I a7,I a8,I a9],I a10,.agg [I a11,I a12,I a13,I a14,I a15,I a16,B a17]] [.ret (.agg [I t1.1,I t1.2.1,I t1.2.2]),.ret (.agg [I t2.1,I t2.2.1,I t2.2.2]),.ret (.agg [I t3.1,I t3.2.1,I t3.2.2]),.ret (I t4),.ret (.agg [I t3.1,I t3.2.1,I t3.2.2]),.ret (I t5),.br false,.br false,.br true,.no]=some (B false,[(decide ((IntKind.wrap .i64 (0 - t5))≤0))=true,(t4 == 0)=false,(decide (t4 < 0))=false,Computes cx 64 [.agg [I t3.1,I t3.2.1,I t3.2.2],.agg [I t2.1,I t2.2.1,I t2.2.2]] (I t5),Computes cx 61 [.agg [.v (.string a0),I a1,I a2,I a3,I a4,I a5,I a6,I a7,I a8,I a9]] (.agg [I t3.1,I t3.2.1,I t3.2.2]),Computes cx 64 [.agg [I t3.1,I t3.2.1,I t3.2.2],.agg [I a14,I a15,I a16]] (I t4),Computes cx 61 [.agg [.v (.string a0),I a1,I a2,I a3,I a4,I a5,I a6,I a7,I a8,I a9]] (.agg [I t3.1,I t3.2.1,I t3.2.2]),Computes cx 78 [.agg [I a11,I a12,I a13],.agg [I t1.1,I t1.2.1,I t1.2.2]] (.agg [I t2.1,I t2.2.1,I t2.2.2]),Computes cx 79 [I (IntKind.wrap .i64 (0 - a10)),.agg [I a1,I a2,I a3]] (.agg [I t1.1,I t1.2.1,I t1.2.2])]):=by kernel_rfl
theorem K6 (a0:ByteArray) (a1:Int) (a2:Int) (a3:Int) (a4:Int) (a5:Int) (a6:Int) (a7:Int) (a8:Int) (a9:Int) (a10:Int) (a11:Int) (a12:Int) (a13:Int) (a14:Int) (a15:Int) (a16:Int) (a17:Bool) (t1:Int×Int×Int) (t2:Int×Int×Int) (t3:Int×Int×Int) (t4:Int) (t5:Int):QR true 100 cx 86 [.agg [.v (.string a0),I a1,I a2,I a3,I a4,I a5,I a6,I a7,I a8,I a9],I a10,.agg [I a11,I a12,I a13,I a14,I a15,I a16,B a17]] [.ret (.agg [I t1.1,I t1.2.1,I t1.2.2]),.ret (.agg [I t2.1,I t2.2.1,I t2.2.2]),.ret (.agg [I t3.1,I t3.2.1,I t3.2.2]),.ret (I t4),.ret (.agg [I t3.1,I t3.2.1,I t3.2.2]),.ret (I t5),.br false,.br false,.br false,.br true,.br true]=some (B false,[(decide ((IntKind.wrap .i64 (0 - t5)) ≥ t4))=true,a17=true,(decide ((IntKind.wrap .i64 (0 - t5))≤0))=false,(t4 == 0)=false,(decide (t4 < 0))=false,Computes cx 64 [.agg [I t3.1,I t3.2.1,I t3.2.2],.agg [I t2.1,I t2.2.1,I t2.2.2]] (I t5),Computes cx 61 [.agg [.v (.string a0),I a1,I a2,I a3,I a4,I a5,I a6,I a7,I a8,I a9]] (.agg [I t3.1,I t3.2.1,I t3.2.2]),Computes cx 64 [.agg [I t3.1,I t3.2.1,I t3.2.2],.agg [I a14,I a15,I a16]] (I t4),Computes cx 61 [.agg [.v (.string a0),I a1,I a2,I a3,I a4,I a5,I a6,I a7,I a8,I a9]] (.agg [I t3.1,I t3.2.1,I t3.2.2]),Computes cx 78 [.agg [I a11,I a12,I a13],.agg [I t1.1,I t1.2.1,I t1.2.2]] (.agg [I t2.1,I t2.2.1,I t2.2.2]),Computes cx 79 [I (IntKind.wrap .i64 (0 - a10)),.agg [I a1,I a2,I a3]] (.agg [I t1.1,I t1.2.1,I t1.2.2])]):=by kernel_rfl
theorem Kp (a0:ByteArray) (a1:Int) (a2:Int) (a3:Int) (a4:Int) (a5:Int) (a6:Int) (a7:Int) (a8:Int) (a9:Int) (a10:Int) (a11:Int) (a12:Int) (a13:Int) (a14:Int) (a15:Int) (a16:Int) (a17:Bool) (t1:Int×Int×Int) (t2:Int×Int×Int) (t3:Int×Int×Int) (t4:Int) (t5:Int) (t11:Int×Int×Int) (t12:Int) (t13:Int):QR true 100 cx 86 [.agg [.v (.string a0),I a1,I a2,I a3,I a4,I a5,I a6,I a7,I a8,I a9],I a10,.agg [I a11,I a12,I a13,I a14,I a15,I a16,B a17]] [.ret (.agg [I t1.1,I t1.2.1,I t1.2.2]),.ret (.agg [I t2.1,I t2.2.1,I t2.2.2]),.ret (.agg [I t3.1,I t3.2.1,I t3.2.2]),.ret (I t4),.ret (.agg [I t3.1,I t3.2.1,I t3.2.2]),.ret (I t5),.br false,.br false,.br false,.br true,.br false,.ret (.agg [I t11.1,I t11.2.1,I t11.2.2]),.ret (I t12),.ret (I t13),.br true]=some (B (decide ((YZ t13 (IntKind.wrap .i64 (0 - t13)))≤(a10 * t4))),[Qa (a10 * t4),(decide ((YZ t12 (IntKind.wrap .i64 (0 - t12)))≤(a10 * t4)))=true,Qa (a10 * t4),Computes cx 64 [.agg [I t11.1,I t11.2.1,I t11.2.2],.agg [I a4,I a5,I a6]] (I t13),Computes cx 64 [.agg [I t11.1,I t11.2.1,I t11.2.2],.agg [I a7,I a8,I a9]] (I t12),Computes cx 96 [.agg [I a14,I a15,I a16],.agg [I t2.1,I t2.2.1,I t2.2.2]] (.agg [I t11.1,I t11.2.1,I t11.2.2]),(decide ((IntKind.wrap .i64 (0 - t5)) ≥ t4))=false,a17=true,(decide ((IntKind.wrap .i64 (0 - t5))≤0))=false,(t4 == 0)=false,(decide (t4 < 0))=false,Computes cx 64 [.agg [I t3.1,I t3.2.1,I t3.2.2],.agg [I t2.1,I t2.2.1,I t2.2.2]] (I t5),Computes cx 61 [.agg [.v (.string a0),I a1,I a2,I a3,I a4,I a5,I a6,I a7,I a8,I a9]] (.agg [I t3.1,I t3.2.1,I t3.2.2]),Computes cx 64 [.agg [I t3.1,I t3.2.1,I t3.2.2],.agg [I a14,I a15,I a16]] (I t4),Computes cx 61 [.agg [.v (.string a0),I a1,I a2,I a3,I a4,I a5,I a6,I a7,I a8,I a9]] (.agg [I t3.1,I t3.2.1,I t3.2.2]),Computes cx 78 [.agg [I a11,I a12,I a13],.agg [I t1.1,I t1.2.1,I t1.2.2]] (.agg [I t2.1,I t2.2.1,I t2.2.2]),Computes cx 79 [I (IntKind.wrap .i64 (0 - a10)),.agg [I a1,I a2,I a3]] (.agg [I t1.1,I t1.2.1,I t1.2.2])]):=by kernel_rfl
theorem Ko (a0:ByteArray) (a1:Int) (a2:Int) (a3:Int) (a4:Int) (a5:Int) (a6:Int) (a7:Int) (a8:Int) (a9:Int) (a10:Int) (a11:Int) (a12:Int) (a13:Int) (a14:Int) (a15:Int) (a16:Int) (a17:Bool) (t1:Int×Int×Int) (t2:Int×Int×Int) (t3:Int×Int×Int) (t4:Int) (t5:Int) (t11:Int×Int×Int) (t12:Int) (t13:Int):QR true 100 cx 86 [.agg [.v (.string a0),I a1,I a2,I a3,I a4,I a5,I a6,I a7,I a8,I a9],I a10,.agg [I a11,I a12,I a13,I a14,I a15,I a16,B a17]] [.ret (.agg [I t1.1,I t1.2.1,I t1.2.2]),.ret (.agg [I t2.1,I t2.2.1,I t2.2.2]),.ret (.agg [I t3.1,I t3.2.1,I t3.2.2]),.ret (I t4),.ret (.agg [I t3.1,I t3.2.1,I t3.2.2]),.ret (I t5),.br false,.br false,.br false,.br true,.br false,.ret (.agg [I t11.1,I t11.2.1,I t11.2.2]),.ret (I t12),.ret (I t13),.br false]=some (B false,[(decide ((YZ t12 (IntKind.wrap .i64 (0 - t12)))≤(a10 * t4)))=false,Qa (a10 * t4),Computes cx 64 [.agg [I t11.1,I t11.2.1,I t11.2.2],.agg [I a4,I a5,I a6]] (I t13),Computes cx 64 [.agg [I t11.1,I t11.2.1,I t11.2.2],.agg [I a7,I a8,I a9]] (I t12),Computes cx 96 [.agg [I a14,I a15,I a16],.agg [I t2.1,I t2.2.1,I t2.2.2]] (.agg [I t11.1,I t11.2.1,I t11.2.2]),(decide ((IntKind.wrap .i64 (0 - t5)) ≥ t4))=false,a17=true,(decide ((IntKind.wrap .i64 (0 - t5))≤0))=false,(t4 == 0)=false,(decide (t4 < 0))=false,Computes cx 64 [.agg [I t3.1,I t3.2.1,I t3.2.2],.agg [I t2.1,I t2.2.1,I t2.2.2]] (I t5),Computes cx 61 [.agg [.v (.string a0),I a1,I a2,I a3,I a4,I a5,I a6,I a7,I a8,I a9]] (.agg [I t3.1,I t3.2.1,I t3.2.2]),Computes cx 64 [.agg [I t3.1,I t3.2.1,I t3.2.2],.agg [I a14,I a15,I a16]] (I t4),Computes cx 61 [.agg [.v (.string a0),I a1,I a2,I a3,I a4,I a5,I a6,I a7,I a8,I a9]] (.agg [I t3.1,I t3.2.1,I t3.2.2]),Computes cx 78 [.agg [I a11,I a12,I a13],.agg [I t1.1,I t1.2.1,I t1.2.2]] (.agg [I t2.1,I t2.2.1,I t2.2.2]),Computes cx 79 [I (IntKind.wrap .i64 (0 - a10)),.agg [I a1,I a2,I a3]] (.agg [I t1.1,I t1.2.1,I t1.2.2])]):=by kernel_rfl
theorem Kn (a0:ByteArray) (a1:Int) (a2:Int) (a3:Int) (a4:Int) (a5:Int) (a6:Int) (a7:Int) (a8:Int) (a9:Int) (a10:Int) (a11:Int) (a12:Int) (a13:Int) (a14:Int) (a15:Int) (a16:Int) (a17:Bool) (t1:Int×Int×Int) (t2:Int×Int×Int) (t3:Int×Int×Int) (t4:Int) (t5:Int) (t10:Int×Int×Int) (t11:Int) (t12:Int):QR true 100 cx 86 [.agg [.v (.string a0),I a1,I a2,I a3,I a4,I a5,I a6,I a7,I a8,I a9],I a10,.agg [I a11,I a12,I a13,I a14,I a15,I a16,B a17]] [.ret (.agg [I t1.1,I t1.2.1,I t1.2.2]),.ret (.agg [I t2.1,I t2.2.1,I t2.2.2]),.ret (.agg [I t3.1,I t3.2.1,I t3.2.2]),.ret (I t4),.ret (.agg [I t3.1,I t3.2.1,I t3.2.2]),.ret (I t5),.br false,.br false,.br false,.br false,.no,.ret (.agg [I t10.1,I t10.2.1,I t10.2.2]),.ret (I t11),.ret (I t12),.br true]=some (B (decide ((YZ t12 (IntKind.wrap .i64 (0 - t12)))≤(a10 * t4))),[Qa (a10 * t4),(decide ((YZ t11 (IntKind.wrap .i64 (0 - t11)))≤(a10 * t4)))=true,Qa (a10 * t4),Computes cx 64 [.agg [I t10.1,I t10.2.1,I t10.2.2],.agg [I a4,I a5,I a6]] (I t12),Computes cx 64 [.agg [I t10.1,I t10.2.1,I t10.2.2],.agg [I a7,I a8,I a9]] (I t11),Computes cx 96 [.agg [I a14,I a15,I a16],.agg [I t2.1,I t2.2.1,I t2.2.2]] (.agg [I t10.1,I t10.2.1,I t10.2.2]),a17=false,(decide ((IntKind.wrap .i64 (0 - t5))≤0))=false,(t4 == 0)=false,(decide (t4 < 0))=false,Computes cx 64 [.agg [I t3.1,I t3.2.1,I t3.2.2],.agg [I t2.1,I t2.2.1,I t2.2.2]] (I t5),Computes cx 61 [.agg [.v (.string a0),I a1,I a2,I a3,I a4,I a5,I a6,I a7,I a8,I a9]] (.agg [I t3.1,I t3.2.1,I t3.2.2]),Computes cx 64 [.agg [I t3.1,I t3.2.1,I t3.2.2],.agg [I a14,I a15,I a16]] (I t4),Computes cx 61 [.agg [.v (.string a0),I a1,I a2,I a3,I a4,I a5,I a6,I a7,I a8,I a9]] (.agg [I t3.1,I t3.2.1,I t3.2.2]),Computes cx 78 [.agg [I a11,I a12,I a13],.agg [I t1.1,I t1.2.1,I t1.2.2]] (.agg [I t2.1,I t2.2.1,I t2.2.2]),Computes cx 79 [I (IntKind.wrap .i64 (0 - a10)),.agg [I a1,I a2,I a3]] (.agg [I t1.1,I t1.2.1,I t1.2.2])]):=by kernel_rfl
theorem Km (a0:ByteArray) (a1:Int) (a2:Int) (a3:Int) (a4:Int) (a5:Int) (a6:Int) (a7:Int) (a8:Int) (a9:Int) (a10:Int) (a11:Int) (a12:Int) (a13:Int) (a14:Int) (a15:Int) (a16:Int) (a17:Bool) (t1:Int×Int×Int) (t2:Int×Int×Int) (t3:Int×Int×Int) (t4:Int) (t5:Int) (t10:Int×Int×Int) (t11:Int) (t12:Int):QR true 100 cx 86 [.agg [.v (.string a0),I a1,I a2,I a3,I a4,I a5,I a6,I a7,I a8,I a9],I a10,.agg [I a11,I a12,I a13,I a14,I a15,I a16,B a17]] [.ret (.agg [I t1.1,I t1.2.1,I t1.2.2]),.ret (.agg [I t2.1,I t2.2.1,I t2.2.2]),.ret (.agg [I t3.1,I t3.2.1,I t3.2.2]),.ret (I t4),.ret (.agg [I t3.1,I t3.2.1,I t3.2.2]),.ret (I t5),.br false,.br false,.br false,.br false,.no,.ret (.agg [I t10.1,I t10.2.1,I t10.2.2]),.ret (I t11),.ret (I t12),.br false]=some (B false,[(decide ((YZ t11 (IntKind.wrap .i64 (0 - t11)))≤(a10 * t4)))=false,Qa (a10 * t4),Computes cx 64 [.agg [I t10.1,I t10.2.1,I t10.2.2],.agg [I a4,I a5,I a6]] (I t12),Computes cx 64 [.agg [I t10.1,I t10.2.1,I t10.2.2],.agg [I a7,I a8,I a9]] (I t11),Computes cx 96 [.agg [I a14,I a15,I a16],.agg [I t2.1,I t2.2.1,I t2.2.2]] (.agg [I t10.1,I t10.2.1,I t10.2.2]),a17=false,(decide ((IntKind.wrap .i64 (0 - t5))≤0))=false,(t4 == 0)=false,(decide (t4 < 0))=false,Computes cx 64 [.agg [I t3.1,I t3.2.1,I t3.2.2],.agg [I t2.1,I t2.2.1,I t2.2.2]] (I t5),Computes cx 61 [.agg [.v (.string a0),I a1,I a2,I a3,I a4,I a5,I a6,I a7,I a8,I a9]] (.agg [I t3.1,I t3.2.1,I t3.2.2]),Computes cx 64 [.agg [I t3.1,I t3.2.1,I t3.2.2],.agg [I a14,I a15,I a16]] (I t4),Computes cx 61 [.agg [.v (.string a0),I a1,I a2,I a3,I a4,I a5,I a6,I a7,I a8,I a9]] (.agg [I t3.1,I t3.2.1,I t3.2.2]),Computes cx 78 [.agg [I a11,I a12,I a13],.agg [I t1.1,I t1.2.1,I t1.2.2]] (.agg [I t2.1,I t2.2.1,I t2.2.2]),Computes cx 79 [I (IntKind.wrap .i64 (0 - a10)),.agg [I a1,I a2,I a3]] (.agg [I t1.1,I t1.2.1,I t1.2.2])]):=by kernel_rfl
def W6 (n:Nat) (a0:ByteArray) (a1 a2 a3 a4 a5 a6 a7 a8 a9 a10 a11 a12 a13 a14 a15 a16:Int) (a17:Bool):Option (Bool) :=
 (Yz n (IntKind.wrap .i64 (0 - a10)) a1 a2 a3).bind fun t1 =>
 (Y5 n a11 a12 a13 t1.1 t1.2.1 t1.2.2).bind fun t2 =>
 (Wq n a0 a1 a2 a3 a4 a5 a6 a7 a8 a9).bind fun t3 =>
 (Zy n t3.1 t3.2.1 t3.2.2 a14 a15 a16).bind fun t4 =>
 (Zy n t3.1 t3.2.1 t3.2.2 t2.1 t2.2.1 t2.2.2).bind fun t5 =>
 if t4 < 0 then
  if (IntKind.wrap .i64 (0 - t4))=0 then
   some false
  else
  if (IntKind.wrap .i64 (0 - (IntKind.wrap .i64 (0 - t5))))≤0 then
   some false
  else
  if a17=true then
   if (IntKind.wrap .i64 (0 - (IntKind.wrap .i64 (0 - t5)))) ≥ (IntKind.wrap .i64 (0 - t4)) then
    some false
   else
   (Wf n a14 a15 a16 t2.1 t2.2.1 t2.2.2).bind fun t11 =>
   (Zy n t11.1 t11.2.1 t11.2.2 a7 a8 a9).bind fun t12 =>
   (Zy n t11.1 t11.2.1 t11.2.2 a4 a5 a6).bind fun t13 =>
   if Qa (a10 * (IntKind.wrap .i64 (0 - t4))) then
   if (YZ t12 (IntKind.wrap .i64 (0 - t12)))≤(a10 * (IntKind.wrap .i64 (0 - t4))) then
    some (decide ((YZ t13 (IntKind.wrap .i64 (0 - t13)))≤(a10 * (IntKind.wrap .i64 (0 - t4)))))
   else
   some false
   else none
  else
  (Wf n a14 a15 a16 t2.1 t2.2.1 t2.2.2).bind fun t10 =>
  (Zy n t10.1 t10.2.1 t10.2.2 a7 a8 a9).bind fun t11 =>
  (Zy n t10.1 t10.2.1 t10.2.2 a4 a5 a6).bind fun t12 =>
  if Qa (a10 * (IntKind.wrap .i64 (0 - t4))) then
  if (YZ t11 (IntKind.wrap .i64 (0 - t11)))≤(a10 * (IntKind.wrap .i64 (0 - t4))) then
   some (decide ((YZ t12 (IntKind.wrap .i64 (0 - t12)))≤(a10 * (IntKind.wrap .i64 (0 - t4)))))
  else
  some false
  else none
 else
 if t4=0 then
  some false
 else
 if (IntKind.wrap .i64 (0 - t5))≤0 then
  some false
 else
 if a17=true then
  if (IntKind.wrap .i64 (0 - t5)) ≥ t4 then
   some false
  else
  (Wf n a14 a15 a16 t2.1 t2.2.1 t2.2.2).bind fun t11 =>
  (Zy n t11.1 t11.2.1 t11.2.2 a7 a8 a9).bind fun t12 =>
  (Zy n t11.1 t11.2.1 t11.2.2 a4 a5 a6).bind fun t13 =>
  if Qa (a10 * t4) then
  if (YZ t12 (IntKind.wrap .i64 (0 - t12)))≤(a10 * t4) then
   some (decide ((YZ t13 (IntKind.wrap .i64 (0 - t13)))≤(a10 * t4)))
  else
  some false
  else none
 else
 (Wf n a14 a15 a16 t2.1 t2.2.1 t2.2.2).bind fun t10 =>
 (Zy n t10.1 t10.2.1 t10.2.2 a7 a8 a9).bind fun t11 =>
 (Zy n t10.1 t10.2.1 t10.2.2 a4 a5 a6).bind fun t12 =>
 if Qa (a10 * t4) then
 if (YZ t11 (IntKind.wrap .i64 (0 - t11)))≤(a10 * t4) then
  some (decide ((YZ t12 (IntKind.wrap .i64 (0 - t12)))≤(a10 * t4)))
 else
 some false
 else none
theorem JY {n:Nat} {a0:ByteArray} {a1 a2 a3 a4 a5 a6 a7 a8 a9 a10 a11 a12 a13 a14 a15 a16:Int} {a17:Bool} {r:Bool} (h:W6 n a0 a1 a2 a3 a4 a5 a6 a7 a8 a9 a10 a11 a12 a13 a14 a15 a16 a17=some r):Computes cx 86 [.agg [.v (.string a0),I a1,I a2,I a3,I a4,I a5,I a6,I a7,I a8,I a9],I a10,.agg [I a11,I a12,I a13,I a14,I a15,I a16,B a17]] (B r):=by
 unfold W6 at h
 obtain ⟨t1,h1,h⟩:=Qi h;obtain ⟨t2,h2,h⟩:=Qi h;obtain ⟨t3,h3,h⟩:=Qi h;obtain ⟨t4,h4,h⟩:=Qi h;obtain ⟨t5,h5,h⟩:=Qi h
 by_cases h6:t4 < 0
 ·replace h:=QN h h6
  by_cases h7:(IntKind.wrap .i64 (0 - t4))=0
  ·replace h:=QN h h7
   replace h:=Option.some.inj h
   subst h
   exact run (Jf a0 a1 a2 a3 a4 a5 a6 a7 a8 a9 a10 a11 a12 a13 a14 a15 a16 a17 t1 t2 t3 t4 t5) ⟨(eqt h7),(decide_eq_true h6),(Qq h5),(Qk h3),(Qq h4),(Qk h3),(QZ h2),(QQ h1),trivial⟩
  ·replace h:=QO h h7
   by_cases h8:(IntKind.wrap .i64 (0 - (IntKind.wrap .i64 (0 - t5))))≤0
   ·replace h:=QN h h8
    replace h:=Option.some.inj h
    subst h
    exact run (Je a0 a1 a2 a3 a4 a5 a6 a7 a8 a9 a10 a11 a12 a13 a14 a15 a16 a17 t1 t2 t3 t4 t5) ⟨(decide_eq_true h8),(eqf h7),(decide_eq_true h6),(Qq h5),(Qk h3),(Qq h4),(Qk h3),(QZ h2),(QQ h1),trivial⟩
   ·replace h:=QO h h8
    by_cases h9:a17=true
    ·replace h:=QN h h9
     by_cases h10:(IntKind.wrap .i64 (0 - (IntKind.wrap .i64 (0 - t5)))) ≥ (IntKind.wrap .i64 (0 - t4))
     ·replace h:=QN h h10
      replace h:=Option.some.inj h
      subst h
      exact run (Jd a0 a1 a2 a3 a4 a5 a6 a7 a8 a9 a10 a11 a12 a13 a14 a15 a16 a17 t1 t2 t3 t4 t5) ⟨(decide_eq_true h10),h9,(decide_eq_false h8),(eqf h7),(decide_eq_true h6),(Qq h5),(Qk h3),(Qq h4),(Qk h3),(QZ h2),(QQ h1),trivial⟩
     ·replace h:=QO h h10
      obtain ⟨t11,h11,h⟩:=Qi h;obtain ⟨t12,h12,h⟩:=Qi h;obtain ⟨t13,h13,h⟩:=Qi h;obtain ⟨h14,h⟩:=QK h
      by_cases h15:(YZ t12 (IntKind.wrap .i64 (0 - t12)))≤(a10 * (IntKind.wrap .i64 (0 - t4)))
      ·replace h:=QN h h15
       replace h:=Option.some.inj h
       subst h
       exact run (Jc a0 a1 a2 a3 a4 a5 a6 a7 a8 a9 a10 a11 a12 a13 a14 a15 a16 a17 t1 t2 t3 t4 t5 t11 t12 t13) ⟨h14,(decide_eq_true h15),h14,(Qq h13),(Qq h12),(ZD h11),(decide_eq_false h10),h9,(decide_eq_false h8),(eqf h7),(decide_eq_true h6),(Qq h5),(Qk h3),(Qq h4),(Qk h3),(QZ h2),(QQ h1),trivial⟩
      ·replace h:=QO h h15
       replace h:=Option.some.inj h
       subst h
       exact run (Jb a0 a1 a2 a3 a4 a5 a6 a7 a8 a9 a10 a11 a12 a13 a14 a15 a16 a17 t1 t2 t3 t4 t5 t11 t12 t13) ⟨(decide_eq_false h15),h14,(Qq h13),(Qq h12),(ZD h11),(decide_eq_false h10),h9,(decide_eq_false h8),(eqf h7),(decide_eq_true h6),(Qq h5),(Qk h3),(Qq h4),(Qk h3),(QZ h2),(QQ h1),trivial⟩
    ·replace h:=QO h h9
     obtain ⟨t10,h10,h⟩:=Qi h;obtain ⟨t11,h11,h⟩:=Qi h;obtain ⟨t12,h12,h⟩:=Qi h;obtain ⟨h13,h⟩:=QK h
     by_cases h14:(YZ t11 (IntKind.wrap .i64 (0 - t11)))≤(a10 * (IntKind.wrap .i64 (0 - t4)))
     ·replace h:=QN h h14
      replace h:=Option.some.inj h
      subst h
      exact run (Ja a0 a1 a2 a3 a4 a5 a6 a7 a8 a9 a10 a11 a12 a13 a14 a15 a16 a17 t1 t2 t3 t4 t5 t10 t11 t12) ⟨h13,(decide_eq_true h14),h13,(Qq h12),(Qq h11),(ZD h10),(QD h9),(decide_eq_false h8),(eqf h7),(decide_eq_true h6),(Qq h5),(Qk h3),(Qq h4),(Qk h3),(QZ h2),(QQ h1),trivial⟩
     ·replace h:=QO h h14
      replace h:=Option.some.inj h
      subst h
      exact run (K9 a0 a1 a2 a3 a4 a5 a6 a7 a8 a9 a10 a11 a12 a13 a14 a15 a16 a17 t1 t2 t3 t4 t5 t10 t11 t12) ⟨(decide_eq_false h14),h13,(Qq h12),(Qq h11),(ZD h10),(QD h9),(decide_eq_false h8),(eqf h7),(decide_eq_true h6),(Qq h5),(Qk h3),(Qq h4),(Qk h3),(QZ h2),(QQ h1),trivial⟩
 ·replace h:=QO h h6
  by_cases h7:t4=0
  ·replace h:=QN h h7
   replace h:=Option.some.inj h
   subst h
   exact run (K8 a0 a1 a2 a3 a4 a5 a6 a7 a8 a9 a10 a11 a12 a13 a14 a15 a16 a17 t1 t2 t3 t4 t5) ⟨(eqt h7),(decide_eq_false h6),(Qq h5),(Qk h3),(Qq h4),(Qk h3),(QZ h2),(QQ h1),trivial⟩
  ·replace h:=QO h h7
   by_cases h8:(IntKind.wrap .i64 (0 - t5))≤0
   ·replace h:=QN h h8
    replace h:=Option.some.inj h
    subst h
    exact run (K7 a0 a1 a2 a3 a4 a5 a6 a7 a8 a9 a10 a11 a12 a13 a14 a15 a16 a17 t1 t2 t3 t4 t5) ⟨(decide_eq_true h8),(eqf h7),(decide_eq_false h6),(Qq h5),(Qk h3),(Qq h4),(Qk h3),(QZ h2),(QQ h1),trivial⟩
   ·replace h:=QO h h8
    by_cases h9:a17=true
    ·replace h:=QN h h9
     by_cases h10:(IntKind.wrap .i64 (0 - t5)) ≥ t4
     ·replace h:=QN h h10
      replace h:=Option.some.inj h
      subst h
      exact run (K6 a0 a1 a2 a3 a4 a5 a6 a7 a8 a9 a10 a11 a12 a13 a14 a15 a16 a17 t1 t2 t3 t4 t5) ⟨(decide_eq_true h10),h9,(decide_eq_false h8),(eqf h7),(decide_eq_false h6),(Qq h5),(Qk h3),(Qq h4),(Qk h3),(QZ h2),(QQ h1),trivial⟩
     ·replace h:=QO h h10
      obtain ⟨t11,h11,h⟩:=Qi h;obtain ⟨t12,h12,h⟩:=Qi h;obtain ⟨t13,h13,h⟩:=Qi h;obtain ⟨h14,h⟩:=QK h
      by_cases h15:(YZ t12 (IntKind.wrap .i64 (0 - t12)))≤(a10 * t4)
      ·replace h:=QN h h15
       replace h:=Option.some.inj h
       subst h
       exact run (Kp a0 a1 a2 a3 a4 a5 a6 a7 a8 a9 a10 a11 a12 a13 a14 a15 a16 a17 t1 t2 t3 t4 t5 t11 t12 t13) ⟨h14,(decide_eq_true h15),h14,(Qq h13),(Qq h12),(ZD h11),(decide_eq_false h10),h9,(decide_eq_false h8),(eqf h7),(decide_eq_false h6),(Qq h5),(Qk h3),(Qq h4),(Qk h3),(QZ h2),(QQ h1),trivial⟩
      ·replace h:=QO h h15
       replace h:=Option.some.inj h
       subst h
       exact run (Ko a0 a1 a2 a3 a4 a5 a6 a7 a8 a9 a10 a11 a12 a13 a14 a15 a16 a17 t1 t2 t3 t4 t5 t11 t12 t13) ⟨(decide_eq_false h15),h14,(Qq h13),(Qq h12),(ZD h11),(decide_eq_false h10),h9,(decide_eq_false h8),(eqf h7),(decide_eq_false h6),(Qq h5),(Qk h3),(Qq h4),(Qk h3),(QZ h2),(QQ h1),trivial⟩
    ·replace h:=QO h h9
     obtain ⟨t10,h10,h⟩:=Qi h;obtain ⟨t11,h11,h⟩:=Qi h;obtain ⟨t12,h12,h⟩:=Qi h;obtain ⟨h13,h⟩:=QK h
     by_cases h14:(YZ t11 (IntKind.wrap .i64 (0 - t11)))≤(a10 * t4)
     ·replace h:=QN h h14
      replace h:=Option.some.inj h
      subst h
      exact run (Kn a0 a1 a2 a3 a4 a5 a6 a7 a8 a9 a10 a11 a12 a13 a14 a15 a16 a17 t1 t2 t3 t4 t5 t10 t11 t12) ⟨h13,(decide_eq_true h14),h13,(Qq h12),(Qq h11),(ZD h10),(QD h9),(decide_eq_false h8),(eqf h7),(decide_eq_false h6),(Qq h5),(Qk h3),(Qq h4),(Qk h3),(QZ h2),(QQ h1),trivial⟩
     ·replace h:=QO h h14
      replace h:=Option.some.inj h
      subst h
      exact run (Km a0 a1 a2 a3 a4 a5 a6 a7 a8 a9 a10 a11 a12 a13 a14 a15 a16 a17 t1 t2 t3 t4 t5 t10 t11 t12) ⟨(decide_eq_false h14),h13,(Qq h12),(Qq h11),(ZD h10),(QD h9),(decide_eq_false h8),(eqf h7),(decide_eq_false h6),(Qq h5),(Qk h3),(Qq h4),(Qk h3),(QZ h2),(QQ h1),trivial⟩
def VX (n:Nat) (a0:ByteArray) (sa:(Nat)):Option (((Nat))⊕((Unit)⊕(Unit))) :=
 if sa < a0.size then
  if ((Utf8.decode a0 sa).1:Int) ≥ 97 then
   if ((Utf8.decode a0 sa).1:Int)≤122 then
    some (.inl (sa+(Utf8.decode a0 sa).2))
   else
   if ((Utf8.decode a0 sa).1:Int) ≥ 65 then
    if ((Utf8.decode a0 sa).1:Int)≤90 then
     some (.inl (sa+(Utf8.decode a0 sa).2))
    else
    if ((sa:Nat):Int)=0 then
     some (.inr (.inl ()))
    else
    if ((Utf8.decode a0 sa).1:Int)=95 then
     some (.inl (sa+(Utf8.decode a0 sa).2))
    else
    if ((Utf8.decode a0 sa).1:Int) < 48 then
     some (.inr (.inl ()))
    else
    if ((Utf8.decode a0 sa).1:Int) > 57 then
     some (.inr (.inl ()))
    else
    some (.inl (sa+(Utf8.decode a0 sa).2))
   else
   if ((sa:Nat):Int)=0 then
    some (.inr (.inl ()))
   else
   if ((Utf8.decode a0 sa).1:Int)=95 then
    some (.inl (sa+(Utf8.decode a0 sa).2))
   else
   if ((Utf8.decode a0 sa).1:Int) < 48 then
    some (.inr (.inl ()))
   else
   if ((Utf8.decode a0 sa).1:Int) > 57 then
    some (.inr (.inl ()))
   else
   some (.inl (sa+(Utf8.decode a0 sa).2))
  else
  if ((Utf8.decode a0 sa).1:Int) ≥ 65 then
   if ((Utf8.decode a0 sa).1:Int)≤90 then
    some (.inl (sa+(Utf8.decode a0 sa).2))
   else
   if ((sa:Nat):Int)=0 then
    some (.inr (.inl ()))
   else
   if ((Utf8.decode a0 sa).1:Int)=95 then
    some (.inl (sa+(Utf8.decode a0 sa).2))
   else
   if ((Utf8.decode a0 sa).1:Int) < 48 then
    some (.inr (.inl ()))
   else
   if ((Utf8.decode a0 sa).1:Int) > 57 then
    some (.inr (.inl ()))
   else
   some (.inl (sa+(Utf8.decode a0 sa).2))
  else
  if ((sa:Nat):Int)=0 then
   some (.inr (.inl ()))
  else
  if ((Utf8.decode a0 sa).1:Int)=95 then
   some (.inl (sa+(Utf8.decode a0 sa).2))
  else
  if ((Utf8.decode a0 sa).1:Int) < 48 then
   some (.inr (.inl ()))
  else
  if ((Utf8.decode a0 sa).1:Int) > 57 then
   some (.inr (.inl ()))
  else
  some (.inl (sa+(Utf8.decode a0 sa).2))
 else
 some (.inr (.inr ()))
noncomputable def Xt (a0:ByteArray):Lp ((Nat)) ((Unit)⊕(Unit)):=⟨fun _=>[(0,.d (.v (.string a0))),(7,.own 2 0)],fun sa=>[(2,.it a0 sa)],fun
 | (.inl e)=>.ret
 | (.inr e)=>(.exit 0),fun
 | (.inl e)=>[(2,.d (B false))]
 | (.inr e)=>[(0,.d (.v (.string a0)))],fun _=>[]⟩
theorem U4 {n:Nat} {a0:ByteArray} (sa:(Nat)) (r) (h:VX n a0 sa=some r):Rl (Ql cx.P 95 0) 51 0 false (Xt a0) sa r:=by
 unfold VX at h
 rcases io h with ⟨ha1,h⟩ | ⟨ha1,h⟩
 ·have q:=Qc ha1 Qz
  let o (l:List Orc):=b1::.no::l
  rcases io h with ⟨ha2,h⟩ | ⟨ha2,h⟩
  ·have q:=Qc (decide_eq_true ha2) q
   let o l:=o (b1::l)
   rcases io h with ⟨ha3,h⟩ | ⟨ha3,h⟩
   ·cases h
    exact rn 3 (o [b1,.no,.no]) [] [0,7] [2] (Qc (decide_eq_true ha3) q)
   have q:=Qc (decide_eq_false ha3) q
   let o l:=o (b0::l)
   rcases io h with ⟨ha4,h⟩ | ⟨ha4,h⟩
   ·have q:=Qc (decide_eq_true ha4) q
    let o l:=o (b1::l)
    rcases io h with ⟨ha5,h⟩ | ⟨ha5,h⟩
    ·cases h
     exact rn 3 (o [b0,.no]) [] [0,7] [2] (Qc (U8 (decide_eq_true ha5)) q)
    have q:=Qc (jO (decide_eq_false ha5)) q
    let o l:=o (b1::l)
    rcases io h with ⟨ha6,h⟩ | ⟨ha6,h⟩
    ·cases h
     exact rx 3 (o [b1,.no]) [] [2] [] (Qc (eqt ha6) q)
    have q:=Qc (eqf ha6) q
    rcases io h with ⟨ha7,h⟩ | ⟨ha7,h⟩
    ·cases h
     exact rn 3 (o [b0,b0,.no]) [] [0,7] [2] (Qc (nef ha7) q)
    have q:=Qc (net ha7) q
    let o l:=o (b0::b1::l)
    rcases io h with ⟨ha8,h⟩ | ⟨ha8,h⟩
    ·cases h
     exact rx 3 (o [b1,.no]) [] [2] [] (Qc (decide_eq_true ha8) q)
    have q:=Qc (decide_eq_false ha8) q
    rcases io h with ⟨ha9,h⟩ | ⟨ha9,h⟩
    ·cases h
     exact rx 3 (o [b0,b1]) [] [2] [] (Qc (decide_eq_true ha9) q)
    cases h
    exact rn 3 (o [b0,b0]) [] [0,7] [2] (Qc (decide_eq_false ha9) q)
   have q:=Qc (decide_eq_false ha4) q
   let o l:=o (b0::.no::l)
   rcases io h with ⟨ha5,h⟩ | ⟨ha5,h⟩
   ·cases h
    exact rx 3 (o [b1,.no]) [] [2] [] (Qc (eqt ha5) q)
   have q:=Qc (eqf ha5) q
   rcases io h with ⟨ha6,h⟩ | ⟨ha6,h⟩
   ·cases h
    exact rn 3 (o [b0,b0,.no]) [] [0,7] [2] (Qc (nef ha6) q)
   have q:=Qc (net ha6) q
   let o l:=o (b0::b1::l)
   rcases io h with ⟨ha7,h⟩ | ⟨ha7,h⟩
   ·cases h
    exact rx 3 (o [b1,.no]) [] [2] [] (Qc (decide_eq_true ha7) q)
   have q:=Qc (decide_eq_false ha7) q
   rcases io h with ⟨ha8,h⟩ | ⟨ha8,h⟩
   ·cases h
    exact rx 3 (o [b0,b1]) [] [2] [] (Qc (decide_eq_true ha8) q)
   cases h
   exact rn 3 (o [b0,b0]) [] [0,7] [2] (Qc (decide_eq_false ha8) q)
  have q:=Qc (decide_eq_false ha2) q
  let o l:=o (b0::.no::l)
  rcases io h with ⟨ha3,h⟩ | ⟨ha3,h⟩
  ·have q:=Qc (decide_eq_true ha3) q
   let o l:=o (b1::l)
   rcases io h with ⟨ha4,h⟩ | ⟨ha4,h⟩
   ·cases h
    exact rn 3 (o [b0,.no]) [] [0,7] [2] (Qc (U8 (decide_eq_true ha4)) q)
   have q:=Qc (jO (decide_eq_false ha4)) q
   let o l:=o (b1::l)
   rcases io h with ⟨ha5,h⟩ | ⟨ha5,h⟩
   ·cases h
    exact rx 3 (o [b1,.no]) [] [2] [] (Qc (eqt ha5) q)
   have q:=Qc (eqf ha5) q
   rcases io h with ⟨ha6,h⟩ | ⟨ha6,h⟩
   ·cases h
    exact rn 3 (o [b0,b0,.no]) [] [0,7] [2] (Qc (nef ha6) q)
   have q:=Qc (net ha6) q
   let o l:=o (b0::b1::l)
   rcases io h with ⟨ha7,h⟩ | ⟨ha7,h⟩
   ·cases h
    exact rx 3 (o [b1,.no]) [] [2] [] (Qc (decide_eq_true ha7) q)
   have q:=Qc (decide_eq_false ha7) q
   rcases io h with ⟨ha8,h⟩ | ⟨ha8,h⟩
   ·cases h
    exact rx 3 (o [b0,b1]) [] [2] [] (Qc (decide_eq_true ha8) q)
   cases h
   exact rn 3 (o [b0,b0]) [] [0,7] [2] (Qc (decide_eq_false ha8) q)
  have q:=Qc (decide_eq_false ha3) q
  let o l:=o (b0::.no::l)
  rcases io h with ⟨ha4,h⟩ | ⟨ha4,h⟩
  ·cases h
   exact rx 3 (o [b1,.no]) [] [2] [] (Qc (eqt ha4) q)
  have q:=Qc (eqf ha4) q
  rcases io h with ⟨ha5,h⟩ | ⟨ha5,h⟩
  ·cases h
   exact rn 3 (o [b0,b0,.no]) [] [0,7] [2] (Qc (nef ha5) q)
  have q:=Qc (net ha5) q
  let o l:=o (b0::b1::l)
  rcases io h with ⟨ha6,h⟩ | ⟨ha6,h⟩
  ·cases h
   exact rx 3 (o [b1,.no]) [] [2] [] (Qc (decide_eq_true ha6) q)
  have q:=Qc (decide_eq_false ha6) q
  rcases io h with ⟨ha7,h⟩ | ⟨ha7,h⟩
  ·cases h
   exact rx 3 (o [b0,b1]) [] [2] [] (Qc (decide_eq_true ha7) q)
  cases h
  exact rn 3 (o [b0,b0]) [] [0,7] [2] (Qc (decide_eq_false ha7) q)
 cases h
 exact rx 3 [b0,.no] [] [0] [] (Qc ha1 Qz)
def VY (n:Nat) (a0:ByteArray):Option (Bool) :=
 (QE (VX n a0) n 0).bind fun t1=>match t1 with
  | (.inl t1)=>(
   some false)
  | (.inr t1)=>(
   if (!(a0.toList == (⟨#[]⟩:ByteArray).toList))=true then
    some (decide ((a0.size:Int)≤24))
   else
   some false)
theorem JW {n:Nat} {a0:ByteArray} {r:Bool} (h:VY n a0=some r):Computes cx 95 [.v (.string a0)] (B r):=by
 unfold VY at h
 obtain ⟨t1,h1,h⟩:=bo h
 rcases t1 with t1 | t1
 ·obtain rfl:=oi h
  exact rf [.lp [] [0,7] [2] .ret [(2,.d (B false))] [] 54] (Qc (Qh U4 h1) Qz)
 have q:=Qc (Qh U4 h1) Qz
 let o (l:List Orc):=.lp [] [0,7] [2] (.exit 0) [(0,.d (.v (.string a0)))] [] 54::l
 rcases io h with ⟨h2,h⟩ | ⟨h2,h⟩
 ·cases h
  exact rf (o [b1]) (Qc h2 q)
 obtain rfl:=oi h
 exact rf (o [b0]) (Qc (QD h2) q)
def Qs (n:Nat) (a0:Bool) (a1:Int):Option (Int) :=
 if a0=true then
  some a1
 else
 some 0
theorem Qf {n:Nat} {a0:Bool} {a1:Int} {r:Int} (h:Qs n a0 a1=some r):Computes cx 37 [B a0,I a1] (I r):=by
 unfold Qs at h
 rcases io h with ⟨h1,h⟩ | ⟨h1,h⟩
 ·obtain rfl:=oi h
  exact rf [b1] (Qc h1 Qz)
 obtain rfl:=oi h
 exact rf [b0] (Qc (QD h1) Qz)
def V0 (n:Nat)  : Option (Int) :=
 some 3
theorem zL {n:Nat}  {r:Int} (h:V0 n =some r):Computes cx 37 [B true,I 3] (I r):=by
 unfold V0 at h
 obtain rfl:=oi h
 exact rf [.no] Qz
def ZI (n:Nat) (a0 a1 a2:Int):Option (Int) :=
 if a0 < a1 then
  (V0 n).bind fun t2 =>
  some t2
 else
 (Qs n (decide (a0 > a2)) 3).bind fun t2 =>
 some t2
theorem W0 {n:Nat} {a0 a1 a2:Int} {r:Int} (h:ZI n a0 a1 a2=some r):Computes cx 77 [I a0,I a1,I a2] (I r):=by
 unfold ZI at h
 rcases io h with ⟨h1,h⟩ | ⟨h1,h⟩
 ·obtain ⟨t2,h2,h⟩:=bo h;obtain rfl:=oi h
  exact rf [b1,.ret (I t2)] (Qc (zL h2) (Qc (decide_eq_true h1) Qz))
 obtain ⟨t2,h2,h⟩:=bo h;obtain rfl:=oi h
 exact rf [b0,.ret (I t2)] (Qc (Qf h2) (Qc (decide_eq_false h1) Qz))
def Gl (x:Int):D:=I x
def un_i (d:D):Option (Int):=QB .i64 d
theorem GQ {d:D} {x:Int} (h:un_i d=some x):d=Gl x:=Qm h
def Wi (n:Nat) (a0:List D) (sa:(Int)):Option (((Int))⊕((Int)⊕(Unit))) :=
 if sa < ((a0).length:Int) then
  (el un_i a0 sa).bind fun ta2 =>
  if ta2=0 then
   if Qa (sa+1) then
   some (.inl (sa+1))
   else none
  else
  some (.inr (.inl ta2))
 else
 some (.inr (.inr ()))
noncomputable def X6 (a0:List D):Lp ((Int)) ((Int)⊕(Unit)):=⟨fun sa=>[(5,.d (.lst false 1 a0)),(6,.d (I ((a0).length:Int))),(7,.d (I sa))],fun _=>[],fun
 | (.inl e)=>.ret
 | (.inr e)=>(.exit 0),fun
 | (.inl e)=>[(2,.d (I e))]
 | (.inr e)=>[],fun _=>[]⟩
theorem KA {n:Nat} {a0:List D} (sa:(Int)) (r) (h:Wi n a0 sa=some r):Rl (Ql cx.P 36 0) 15 0 false (X6 a0) sa r:=by
 unfold Wi at h
 rcases io h with ⟨ha1,h⟩ | ⟨ha1,h⟩
 ·obtain ⟨ta2,ha2,h⟩:=bo h
  have q:=W2 GQ ha2 (Qc (decide_eq_true ha1) Qz)
  rcases io h with ⟨ha3,h⟩ | ⟨ha3,h⟩
  ·obtain ⟨ha4,h⟩:=gd h
   cases h
   exact rn 4 [b1,.el (Gl ta2),b0] [] [5,6,7] [] (Qc ha4 (Qc (nef ha3) q))
  cases h
  exact rx 4 [b1,.el (Gl ta2),b1] [] [2] [] (Qc (net ha3) q)
 cases h
 exact rx 4 [b0] [] [] [] (Qc (decide_eq_false ha1) Qz)
def Qv (n:Nat) (a0:List D):Option (Int) :=
 (QE (Wi n a0) n 0).bind fun t1=>match t1 with
  | (.inl t1)=>(
   some t1)
  | (.inr t1)=>(
   some 0)
theorem Qg {n:Nat} {a0:List D} {r:Int} (h:Qv n a0=some r):Computes cx 36 [.lst false 1 a0] (I r):=by
 unfold Qv at h
 obtain ⟨t1,h1,h⟩:=bo h
 rcases t1 with t1 | t1
 ·obtain rfl:=oi h
  exact rf [.lp [] [5,6,7] [] .ret [(2,.d (I t1))] [] 23] (Qc (Qh KA h1) Qz)
 obtain rfl:=oi h
 exact rf [.lp [] [5,6,7] [] (.exit 0) [] [] 23] (Qc (Qh KA h1) Qz)
def ZW (n:Nat) (a0 a1 a2 a3:Int):Option (Int) :=
 (ZI n a0 (IntKind.wrap .i64 (0 - a3)) a3).bind fun t1 =>
 (ZI n a1 (IntKind.wrap .i64 (0 - a3)) a3).bind fun t2 =>
 (ZI n a2 (IntKind.wrap .i64 (0 - a3)) a3).bind fun t3 =>
 (Qv n ([I t1,I t2,I t3])).bind fun t4 =>
 some t4
theorem WJ {n:Nat} {a0 a1 a2 a3:Int} {r:Int} (h:ZW n a0 a1 a2 a3=some r):Computes cx 75 [.agg [I a0,I a1,I a2],I a3] (I r):=by
 unfold ZW at h
 obtain ⟨t1,h1,h⟩:=bo h;obtain ⟨t2,h2,h⟩:=bo h;obtain ⟨t3,h3,h⟩:=bo h;obtain ⟨t4,h4,h⟩:=bo h;obtain rfl:=oi h
 exact rf [.ret (I t1),.ret (I t2),.ret (I t3),.ret (I t4)] (Qc (((Qg h4).le (.cons (.full _ _ _) (.nil)) (.refl _)):Computes cx 36 [.lst true 1 [I t1,I t2,I t3]] (I t4)) (Qc (W0 h3) (Qc (W0 h2) (Qc (W0 h1) Qz))))
def W7 (n:Nat) (a0:ByteArray) (a1 a2 a3 a4 a5 a6 a7 a8 a9:Int):Option (Int) :=
 (VY n a0).bind fun t1 =>
 (Qs n (!t1) 8).bind fun t2 =>
 (ZW n a1 a2 a3 4096).bind fun t3 =>
 (ZW n a4 a5 a6 64).bind fun t4 =>
 (ZW n a7 a8 a9 64).bind fun t5 =>
 (Qv n ([I t2,I t3,I t4,I t5])).bind fun t6 =>
 if t6=0 then
  (Wq n a0 a1 a2 a3 a4 a5 a6 a7 a8 a9).bind fun t8 =>
  (Qs n ((t8.1 == 0) && ((t8.2.1 == 0) && ((t8.2.2 == 0) && true))) 17).bind fun t9 =>
  some t9
 else
 some t6
theorem JZ {n:Nat} {a0:ByteArray} {a1 a2 a3 a4 a5 a6 a7 a8 a9:Int} {r:Int} (h:W7 n a0 a1 a2 a3 a4 a5 a6 a7 a8 a9=some r):Computes cx 60 [.agg [.v (.string a0),I a1,I a2,I a3,I a4,I a5,I a6,I a7,I a8,I a9]] (I r):=by
 unfold W7 at h
 obtain ⟨t1,h1,h⟩:=bo h;obtain ⟨t2,h2,h⟩:=bo h;obtain ⟨t3,h3,h⟩:=bo h;obtain ⟨t4,h4,h⟩:=bo h;obtain ⟨t5,h5,h⟩:=bo h;obtain ⟨t6,h6,h⟩:=bo h
 have q:=Qc (((Qg h6).le (.cons (.full _ _ _) (.nil)) (.refl _)):Computes cx 36 [.lst true 1 [I t2,I t3,I t4,I t5]] (I t6)) (Qc (WJ h5) (Qc (WJ h4) (Qc (WJ h3) (Qc (Qf h2) (Qc (JW h1) Qz)))))
 let o (l:List Orc):=.ret (B t1)::.ret (I t2)::.ret (I t3)::.ret (I t4)::.ret (I t5)::.ret (I t6)::l
 rcases io h with ⟨h7,h⟩ | ⟨h7,h⟩
 ·obtain ⟨t8,h8,h⟩:=bo h;obtain ⟨t9,h9,h⟩:=bo h;obtain rfl:=oi h
  exact rf (o [b0,.ret (.agg [I t8.1,I t8.2.1,I t8.2.2]),.ret (I t9)]) (Qc (Qf h9) (Qc (Qk h8) (Qc (nef h7) q)))
 obtain rfl:=oi h
 exact rf (o [b1]) (Qc (net h7) q)
def Q5 (n:Nat) (a0 a1 a2 a3 a4 a5:Int):Option (Int) :=
 if Qa (a2 - a0) then
 if Qa (a5 - a1) then
 if Qa ((a2 - a0) * (a5 - a1)) then
 if Qa (a3 - a1) then
 if Qa (a4 - a0) then
 if Qa ((a3 - a1) * (a4 - a0)) then
 if Qa (((a2 - a0) * (a5 - a1)) - ((a3 - a1) * (a4 - a0))) then
 some (((a2 - a0) * (a5 - a1)) - ((a3 - a1) * (a4 - a0)))
 else none
 else none
 else none
 else none
 else none
 else none
 else none
theorem Z2 {n:Nat} {a0 a1 a2 a3 a4 a5:Int} {r:Int} (h:Q5 n a0 a1 a2 a3 a4 a5=some r):Computes cx 51 [.agg [I a0,I a1],.agg [I a2,I a3],.agg [I a4,I a5]] (I r):=by
 unfold Q5 at h
 obtain ⟨h1,h⟩:=gd h;obtain ⟨h2,h⟩:=gd h;obtain ⟨h3,h⟩:=gd h;obtain ⟨h4,h⟩:=gd h;obtain ⟨h5,h⟩:=gd h;obtain ⟨h6,h⟩:=gd h;obtain ⟨h7,h⟩:=gd h
 cases h
 exact rf [] (Qc h7 (Qc h6 (Qc h5 (Qc h4 (Qc h3 (Qc h2 (Qc h1 Qz)))))))
def F_cmp_isNaN_g (n:Nat) (a0:Int):Option (Bool) :=
 some (a0 != a0)
theorem Vo {n:Nat} {a0:Int} {r:Bool} (h:F_cmp_isNaN_g n a0=some r):Computes cx 94 [I a0] (B r):=by
 unfold F_cmp_isNaN_g at h
 cases h
 exact rf [] Qz
def F_cmp_Compare_g (n:Nat) (a0 a1:Int):Option (Int) :=
 (F_cmp_isNaN_g n a0).bind fun t1 =>
 (F_cmp_isNaN_g n a1).bind fun t2 =>
 if t1=true then
  if t2=true then
   some 0
  else
  some (-1)
 else
 if t2=true then
  some 1
 else
 if a0 < a1 then
  some (-1)
 else
 if a0 > a1 then
  some 1
 else
 some 0
theorem Vs {n:Nat} {a0 a1:Int} {r:Int} (h:F_cmp_Compare_g n a0 a1=some r):Computes cx 59 [I a0,I a1] (I r):=by
 unfold F_cmp_Compare_g at h
 obtain ⟨t1,h1,h⟩:=bo h;obtain ⟨t2,h2,h⟩:=bo h
 have q:=Qc (Vo h2) (Qc (Vo h1) Qz)
 let o (l:List Orc):=.ret (B t1)::.ret (B t2)::l
 rcases io h with ⟨h3,h⟩ | ⟨h3,h⟩
 ·have q:=Qc h3 q
  rcases io h with ⟨h4,h⟩ | ⟨h4,h⟩
  ·obtain rfl:=oi h
   exact rf (o [b1,b1]) (Qc h4 q)
  cases h
  exact rf (o [b1,b0]) (Qc (QD h4) q)
 have q:=Qc (QD h3) q
 rcases io h with ⟨h4,h⟩ | ⟨h4,h⟩
 ·obtain rfl:=oi h
  exact rf (o [b0,b1]) (Qc h4 q)
 have q:=Qc (QD h4) q
 let o l:=o (b0::b0::l)
 rcases io h with ⟨h5,h⟩ | ⟨h5,h⟩
 ·cases h
  exact rf (o [b1]) (Qc (decide_eq_true h5) q)
 have q:=Qc (decide_eq_false h5) q
 rcases io h with ⟨h6,h⟩ | ⟨h6,h⟩
 ·obtain rfl:=oi h
  exact rf (o [b0,b1]) (Qc (decide_eq_true h6) q)
 obtain rfl:=oi h
 exact rf (o [b0,b0]) (Qc (decide_eq_false h6) q)
def V1 (n:Nat) (a0 a1:Int) (sa:(Int×Int)):Option (((Int×Int))⊕((Int))) :=
 if sa.2=0 then
  some (.inr sa.1)
 else
 if sa.2≠0 then
 some (.inl (sa.2,(Int.tmod sa.1 sa.2)))
 else none
noncomputable def Xu (a0 a1:Int):Lp ((Int×Int)) ((Int)):=⟨fun sa=>[(0,.d (I a0)),(1,.d (I a1)),(4,.ptr 0 0 0 0 0),(5,.d (I sa.1)),(6,.d (I sa.2))],fun _=>[(0,.box (.d (.agg [I 0,I 0])))],fun _=>(.exit 0),fun e=>[(0,.d (I a0)),(1,.d (I a1)),(4,.ptr 0 0 0 0 0),(5,.d (I e))],fun _=>[(0,.box (.d (.agg [I 0,I 0])))]⟩
theorem Xq {n:Nat} {a0 a1:Int} (sa:(Int×Int)) (r) (h:V1 n a0 a1 sa=some r):Rl (Ql cx.P 65 0) 22 0 false (Xu a0 a1) sa r:=by
 unfold V1 at h
 rcases io h with ⟨ha1,h⟩ | ⟨ha1,h⟩
 ·cases h
  exact rx 5 [b0] [] [0,1,4,5] [0] (Qc (nef ha1) Qz)
 obtain ⟨ha2,h⟩:=gd h
 cases h
 exact rn 5 [b1] [] [0,1,4,5,6] [0] (Qc ha2 (Qc (net ha1) Qz))
def UG (n:Nat) (a0 a1:Int):Option (Int×Int) :=
 (QE (V1 n a0 a1) n (a0,a1)).bind fun t1 =>
 if t1≠0 then
 if Qa (Int.tdiv a0 t1) then
 if Qa (Int.tdiv a1 t1) then
 some ((Int.tdiv a0 t1),(Int.tdiv a1 t1))
 else none
 else none
 else none
theorem zM {n:Nat} {a0 a1:Int} {r:Int×Int} (h:UG n a0 a1=some r):Computes cx 65 [I a0,I a1] (.agg [I r.1,I r.2]):=by
 unfold UG at h
 obtain ⟨t1,h1,h⟩:=bo h;obtain ⟨h2,h⟩:=gd h;obtain ⟨h3,h⟩:=gd h;obtain ⟨h4,h⟩:=gd h
 cases h
 exact rf [.lp [] [0,1,4,5,6] [0] (.exit 0) [(0,.d (I a0)),(1,.d (I a1)),(4,.ptr 0 0 0 0 0),(5,.d (I t1))] [(0,.box (.d (.agg [I 0,I 0])))] 24] (Qc h2 (Qc h4 (Qc h2 (Qc h3 (Qc (Qh Xq h1) Qz)))))
def Qw (x:Int×Int):D:=.agg [I x.1,I x.2]
def QC:D→Option (Int×Int)
 | .agg [c0,c1]=>(QB .i64 c0).bind fun y0=>(QB .i64 c1).bind fun y1=>some (y0,y1)
 | _=>none
theorem Qn {d:D} {x:Int×Int} (h:QC d=some x):d=Qw x:=by
 unfold QC at h
 split at h
 case h_2=>cases h
 obtain ⟨y0,h0,h⟩:=Qi h
 obtain ⟨y1,h1,h⟩:=Qi h
 cases h
 have e0:=Qm h0
 have e1:=Qm h1
 rw [e0,e1];rfl
def Wp (n:Nat) (a0 a1:Int):Option (Int) :=
 (ZI n a0 (-16777216) 16777216).bind fun t1 =>
 (ZI n a1 (-16777216) 16777216).bind fun t2 =>
 (Qv n ([I t1,I t2])).bind fun t3 =>
 some t3
theorem GP {n:Nat} {a0 a1:Int} {r:Int} (h:Wp n a0 a1=some r):Computes cx 39 [.agg [I a0,I a1]] (I r):=by
 unfold Wp at h
 obtain ⟨t1,h1,h⟩:=bo h;obtain ⟨t2,h2,h⟩:=bo h;obtain ⟨t3,h3,h⟩:=bo h;obtain rfl:=oi h
 exact rf [.ret (I t1),.ret (I t2),.ret (I t3)] (Qc (((Qg h3).le (.cons (.full _ _ _) (.nil)) (.refl _)):Computes cx 36 [.lst true 1 [I t1,I t2]] (I t3)) (Qc (W0 h2) (Qc (W0 h1) Qz)))
def ZL (n:Nat) (a0:List D) (sa:(Int×List D)):Option (((Int×List D))⊕((List D))) :=
 if sa.1 < ((a0).length:Int) then
  (el QC a0 sa.1).bind fun ta2 =>
  (Wp n ta2.1 ta2.2).bind fun ta3 =>
  if Q1 8 ((sa.2).length+1) then
  if Qa (sa.1+1) then
  some (.inl ((sa.1+1),(sa.2++([I ta3]:List D))))
  else none
  else none
 else
 some (.inr sa.2)
noncomputable def Gh (a0:List D):Lp ((Int×List D)) ((List D)):=⟨fun sa=>[(1,.d (.fn (.func 39) [] [])),(5,.own 5 0),(8,.d (.lst false 2 a0)),(9,.d (I ((a0).length:Int))),(10,.d (I sa.1))],fun sa=>[(5,.row 0 1 sa.2)],fun _=>(.exit 0),fun _=>[(5,.own 5 0)],fun e=>[(5,.row 0 1 e)]⟩
theorem Gg {n:Nat} {a0:List D} (sa:(Int×List D)) (r) (h:ZL n a0 sa=some r):Rl (Ql cx.P 38 0) 22 0 false (Gh a0) sa r:=by
 unfold ZL at h
 rcases io h with ⟨ha1,h⟩ | ⟨ha1,h⟩
 ·obtain ⟨ta2,ha2,h⟩:=bo h;obtain ⟨ta3,ha3,h⟩:=bo h;obtain ⟨ha4,h⟩:=gd h;obtain ⟨ha5,h⟩:=gd h
  cases h
  exact rn 6 [b1,.el (Qw ta2),.ret (I ta3),b1] [] [1,5,8,9,10] [5] (Qc ha5 (Qc (ro 25 ha4) (Qc (GP ha3) (W2 Qn ha2 (Qc (decide_eq_true ha1) Qz)))))
 cases h
 exact rx 6 [b0] [] [5] [5] (Qc (decide_eq_false ha1) Qz)
def ZV (n:Nat) (a0:List D):Option (List D) :=
 (QE (ZL n a0) n (0,[])).bind fun t1 =>
 some t1
theorem Qt {n:Nat} {a0:List D} {r:List D} (h:ZV n a0=some r):Computes cx 38 [.lst false 2 a0,.fn (.func 39) [] []] (.lst false 1 r):=by
 unfold ZV at h
 obtain ⟨t1,h1,h⟩:=bo h;obtain rfl:=oi h
 exact rf [.lp [5,1] [1,5,8,9,10] [5] (.exit 0) [(5,.own 5 0)] [(5,.row 0 1 t1)] 31] (Qc (Qh Gg h1) Qz)
def Wo (n:Nat)  : Option (Int) :=
 some 17
theorem WD {n:Nat}  {r:Int} (h:Wo n =some r):Computes cx 37 [B true,I 17] (I r):=by
 unfold Wo at h
 obtain rfl:=oi h
 exact rf [.no] Qz
def Wn (n:Nat)  : Option (Int) :=
 some 0
theorem WC {n:Nat}  {r:Int} (h:Wn n =some r):Computes cx 37 [B false,I 5] (I r):=by
 unfold Wn at h
 obtain rfl:=oi h
 exact rf [.no] Qz
def ZP (n:Nat) (t11:List D) (sa:Int×List D) (ta3:Int×Int) (sb:(Int×List D)):Option (((Int×List D))⊕((List D))) :=
 if sb.1 > 1 then
  if Qa (sb.1 - 2) then
  if 0≤(sb.1 - 2)∧(sb.1 - 2) < ((sb.2).length:Int) then
  ((nth (sb.2) (Int.toNat (sb.1 - 2))).bind QC).bind fun tb4 =>
  if Qa (sb.1 - 1) then
  if 0≤(sb.1 - 1)∧(sb.1 - 1) < ((sb.2).length:Int) then
  ((nth (sb.2) (Int.toNat (sb.1 - 1))).bind QC).bind fun tb7 =>
  (Q5 n tb4.1 tb4.2 tb7.1 tb7.2 ta3.1 ta3.2).bind fun tb8 =>
  if tb8≤0 then
   if 0≤(sb.1 - 1)∧(sb.1 - 1)≤((sb.2).length:Int) then
   some (.inl ((((sb.2.take (Int.toNat (sb.1 - 1))):List D).length:Int),(sb.2.take (Int.toNat (sb.1 - 1)))))
   else none
  else
  some (.inr sb.2)
  else none
  else none
  else none
  else none
 else
 some (.inr sb.2)
noncomputable def qu (t11:List D) (sa:Int×List D) (ta3:Int×Int):Lp ((Int×List D)) ((List D)):=⟨fun sb=>[(3,.own 50 0),(5,.ptr 54 0 0 0 0),(6,.d (I sb.1)),(7,.own 29 0),(8,.d (I ((t11).length:Int))),(9,.d (I sa.1))],fun sb=>[(29,.row 0 2 t11),(50,.row 0 2 sb.2),(54,.box (.d (.agg [I ta3.1,I ta3.2])))],fun _=>(.exit 2),fun _=>[(3,.own 50 0),(5,.ptr 54 0 0 0 0),(7,.own 29 0),(8,.d (I ((t11).length:Int))),(9,.d (I sa.1))],fun e=>[(29,.row 0 2 t11),(50,.row 0 2 e),(54,.box (.d (.agg [I ta3.1,I ta3.2])))]⟩
theorem qk {n:Nat} {t11:List D} {sa:Int×List D} {ta3:Int×Int} (sb:(Int×List D)) (r) (h:ZP n t11 sa ta3 sb=some r):Rl (Ql cx.P 44 1) 44 45 false (qu t11 sa ta3) sb r:=by
 unfold ZP at h
 rcases io h with ⟨hb1,h⟩ | ⟨hb1,h⟩
 ·obtain ⟨hb2,h⟩:=gd h;obtain ⟨hb3,h⟩:=gd h;obtain ⟨tb4,hb4,h⟩:=bo h;obtain ⟨hb5,h⟩:=gd h;obtain ⟨hb6,h⟩:=gd h;obtain ⟨tb7,hb7,h⟩:=bo h;obtain ⟨tb8,hb8,h⟩:=bo h
  have q:=Qc (Z2 hb8) (Qc (ZB Qn hb7) (Qc hb6 (Qc hb5 (Qc (ZB Qn hb4) (Qc hb3 (Qc hb2 (Qc (decide_eq_true hb1) Qz)))))))
  let o (l:List Orc):=b1::b1::.el (Qw tb4)::b1::.el (Qw tb7)::.ret (I tb8)::l
  rcases io h with ⟨hb9,h⟩ | ⟨hb9,h⟩
  ·obtain ⟨hb10,h⟩:=gd h
   cases h
   exact rn 59 (o [b1,.ix 0,b1]) [] [3,5,6,7,8,9] [29,50,54] (Qc hb10 (Qc hb5 (Qc (decide_eq_true hb9) q)))
  cases h
  exact rx 59 (o [b0]) [] [3,5,7,8,9] [29,50,54] (Qc (decide_eq_false hb9) q)
 cases h
 exact rx 59 [b0,.no] [] [3,5,7,8,9] [29,50,54] (Qc (decide_eq_false hb1) Qz)
def Zc (n:Nat) (t11:List D) (sa:(Int×List D)):Option (((Int×List D))⊕((List D))) :=
 if sa.1 < ((t11).length:Int) then
  if 0≤sa.1∧sa.1 < ((t11).length:Int) then
  ((nth (t11) (Int.toNat sa.1)).bind QC).bind fun ta3 =>
  (QE (ZP n t11 sa ta3) n (((sa.2).length:Int),sa.2)).bind fun ta4 =>
  if Q1 16 ((ta4).length+1) then
  if Qa (sa.1+1) then
  some (.inl ((sa.1+1),(ta4++([.agg [I ta3.1,I ta3.2]]:List D))))
  else none
  else none
  else none
 else
 some (.inr sa.2)
noncomputable def qt (t11:List D):Lp ((Int×List D)) ((List D)):=⟨fun sa=>[(3,.own 50 0),(7,.own 29 0),(8,.d (I ((t11).length:Int))),(9,.d (I sa.1))],fun sa=>[(29,.row 0 2 t11),(50,.row 0 2 sa.2)],fun _=>(.exit 0),fun _=>[(3,.own 50 0)],fun e=>[(29,.row 0 2 t11),(50,.row 0 2 e)]⟩
theorem ZO {n:Nat} {t11:List D} (sa:(Int×List D)) (r) (h:Zc n t11 sa=some r):Rl (Ql cx.P 44 0) 44 45 false (qt t11) sa r:=by
 unfold Zc at h
 rcases io h with ⟨ha1,h⟩ | ⟨ha1,h⟩
 ·obtain ⟨ha2,h⟩:=gd h;obtain ⟨ta3,ha3,h⟩:=bo h;obtain ⟨ta4,ha4,h⟩:=bo h;obtain ⟨ha5,h⟩:=gd h;obtain ⟨ha6,h⟩:=gd h
  cases h
  exact rn 51 [b1,b1,.el (Qw ta3),.lp [] [3,5,6,7,8,9] [29,50,54] (.exit 2) [(3,.own 50 0),(5,.ptr 54 0 0 0 0),(7,.own 29 0),(8,.d (I ((t11).length:Int))),(9,.d (I sa.1))] [(29,.row 0 2 t11),(50,.row 0 2 ta4),(54,.box (.d (.agg [I ta3.1,I ta3.2])))] 95,b1] [] [3,7,8,9] [29,50] (Qc ha6 (Qc (ro 46 ha5) (Qc (Qh qk ha4) (Qc (ZB Qn ha3) (Qc ha2 (Qc (decide_eq_true ha1) Qz))))))
 cases h
 exact rx 51 [b0] [] [3] [29,50] (Qc (decide_eq_false ha1) Qz)
def Zb (n:Nat) (t13:List D) (sa:(Int×Int×List D)):Option (((Int×Int×List D))⊕((List D))) :=
 if sa.1 < sa.2.1 then
  if 0≤sa.2.1∧sa.2.1 < ((sa.2.2).length:Int) then
  ((nth (sa.2.2) (Int.toNat sa.2.1)).bind QC).bind fun ta3 =>
  if 0≤sa.1∧sa.1 < ((sa.2.2).length:Int) then
  ((nth (sa.2.2) (Int.toNat sa.1)).bind QC).bind fun ta5 =>
  if (Int.toNat sa.1) < (sa.2.2).length then
  if 0≤sa.2.1∧sa.2.1 < (((List.set sa.2.2 (Int.toNat sa.1) (.agg [I ta3.1,I ta3.2]:D)):List D).length:Int) then
  if (Int.toNat sa.2.1) < ((List.set sa.2.2 (Int.toNat sa.1) (.agg [I ta3.1,I ta3.2]:D)):List D).length then
  if Qa (sa.1+1) then
  if Qa (sa.2.1 - 1) then
  some (.inl ((sa.1+1),(sa.2.1 - 1),(List.set (List.set sa.2.2 (Int.toNat sa.1) (.agg [I ta3.1,I ta3.2]:D)) (Int.toNat sa.2.1) (.agg [I ta5.1,I ta5.2]:D))))
  else none
  else none
  else none
  else none
  else none
  else none
  else none
 else
 some (.inr sa.2.2)
noncomputable def qr (t13:List D):Lp ((Int×Int×List D)) ((List D)):=⟨fun sa=>[(0,.own 29 0),(2,.d (I sa.1)),(3,.d (I sa.2.1))],fun sa=>[(29,.row 0 2 sa.2.2),(50,.row 0 2 t13)],fun _=>(.exit 0),fun _=>[],fun e=>[(29,.row 0 2 e),(50,.row 0 2 t13)]⟩
theorem ZN {n:Nat} {t13:List D} (sa:(Int×Int×List D)) (r) (h:Zb n t13 sa=some r):Rl (Ql cx.P 45 0) 28 117 false (qr t13) sa r:=by
 unfold Zb at h
 rcases io h with ⟨ha1,h⟩ | ⟨ha1,h⟩
 ·obtain ⟨ha2,h⟩:=gd h;obtain ⟨ta3,ha3,h⟩:=bo h;obtain ⟨ha4,h⟩:=gd h;obtain ⟨ta5,ha5,h⟩:=bo h;obtain ⟨ha6,h⟩:=gd h;obtain ⟨ha7,h⟩:=gd h;obtain ⟨ha8,h⟩:=gd h;obtain ⟨ha9,h⟩:=gd h;obtain ⟨ha10,h⟩:=gd h
  cases h
  exact rn 122 [b1,b1,.el (Qw ta3),b1,.el (Qw ta5),b1,b1,b1,b1] [] [0,2,3] [29,50] (Qc ha10 (Qc ha9 (Qc ha8 (Qc ha7 (Qc ha6 (Qc ha4 (Qc (ZB Qn ha5) (Qc ha4 (Qc (ZB Qn ha3) (Qc ha2 (Qc (decide_eq_true ha1) Qz)))))))))))
 cases h
 exact rx 122 [b0] [] [] [29,50] (Qc (decide_eq_false ha1) Qz)
def YP (n:Nat) (t13 t15:List D) (sa:Int×List D) (ta3:Int×Int) (sb:(Int×List D)):Option (((Int×List D))⊕((List D))) :=
 if sb.1 > 1 then
  if Qa (sb.1 - 2) then
  if 0≤(sb.1 - 2)∧(sb.1 - 2) < ((sb.2).length:Int) then
  ((nth (sb.2) (Int.toNat (sb.1 - 2))).bind QC).bind fun tb4 =>
  if Qa (sb.1 - 1) then
  if 0≤(sb.1 - 1)∧(sb.1 - 1) < ((sb.2).length:Int) then
  ((nth (sb.2) (Int.toNat (sb.1 - 1))).bind QC).bind fun tb7 =>
  (Q5 n tb4.1 tb4.2 tb7.1 tb7.2 ta3.1 ta3.2).bind fun tb8 =>
  if tb8≤0 then
   if 0≤(sb.1 - 1)∧(sb.1 - 1)≤((sb.2).length:Int) then
   some (.inl ((((sb.2.take (Int.toNat (sb.1 - 1))):List D).length:Int),(sb.2.take (Int.toNat (sb.1 - 1)))))
   else none
  else
  some (.inr sb.2)
  else none
  else none
  else none
  else none
 else
 some (.inr sb.2)
noncomputable def qq (t13 t15:List D) (sa:Int×List D) (ta3:Int×Int):Lp ((Int×List D)) ((List D)):=⟨fun sb=>[(3,.own 166 0),(5,.ptr 170 0 0 0 0),(6,.d (I sb.1)),(7,.own 29 0),(8,.d (I ((t15).length:Int))),(9,.d (I sa.1))],fun sb=>[(29,.row 0 2 t15),(50,.row 0 2 t13),(166,.row 0 2 sb.2),(170,.box (.d (.agg [I ta3.1,I ta3.2])))],fun _=>(.exit 2),fun _=>[(3,.own 166 0),(5,.ptr 170 0 0 0 0),(7,.own 29 0),(8,.d (I ((t15).length:Int))),(9,.d (I sa.1))],fun e=>[(29,.row 0 2 t15),(50,.row 0 2 t13),(166,.row 0 2 e),(170,.box (.d (.agg [I ta3.1,I ta3.2])))]⟩
theorem qj {n:Nat} {t13 t15:List D} {sa:Int×List D} {ta3:Int×Int} (sb:(Int×List D)) (r) (h:YP n t13 t15 sa ta3 sb=some r):Rl (Ql cx.P 44 1) 44 161 false (qq t13 t15 sa ta3) sb r:=by
 unfold YP at h
 rcases io h with ⟨hb1,h⟩ | ⟨hb1,h⟩
 ·obtain ⟨hb2,h⟩:=gd h;obtain ⟨hb3,h⟩:=gd h;obtain ⟨tb4,hb4,h⟩:=bo h;obtain ⟨hb5,h⟩:=gd h;obtain ⟨hb6,h⟩:=gd h;obtain ⟨tb7,hb7,h⟩:=bo h;obtain ⟨tb8,hb8,h⟩:=bo h
  have q:=Qc (Z2 hb8) (Qc (ZB Qn hb7) (Qc hb6 (Qc hb5 (Qc (ZB Qn hb4) (Qc hb3 (Qc hb2 (Qc (decide_eq_true hb1) Qz)))))))
  let o (l:List Orc):=b1::b1::.el (Qw tb4)::b1::.el (Qw tb7)::.ret (I tb8)::l
  rcases io h with ⟨hb9,h⟩ | ⟨hb9,h⟩
  ·obtain ⟨hb10,h⟩:=gd h
   cases h
   exact rn 175 (o [b1,.ix 0,b1]) [] [3,5,6,7,8,9] [29,50,166,170] (Qc hb10 (Qc hb5 (Qc (decide_eq_true hb9) q)))
  cases h
  exact rx 175 (o [b0]) [] [3,5,7,8,9] [29,50,166,170] (Qc (decide_eq_false hb9) q)
 cases h
 exact rx 175 [b0,.no] [] [3,5,7,8,9] [29,50,166,170] (Qc (decide_eq_false hb1) Qz)
def Ws (n:Nat) (t13 t15:List D) (sa:(Int×List D)):Option (((Int×List D))⊕((List D))) :=
 if sa.1 < ((t15).length:Int) then
  if 0≤sa.1∧sa.1 < ((t15).length:Int) then
  ((nth (t15) (Int.toNat sa.1)).bind QC).bind fun ta3 =>
  (QE (YP n t13 t15 sa ta3) n (((sa.2).length:Int),sa.2)).bind fun ta4 =>
  if Q1 16 ((ta4).length+1) then
  if Qa (sa.1+1) then
  some (.inl ((sa.1+1),(ta4++([.agg [I ta3.1,I ta3.2]]:List D))))
  else none
  else none
  else none
 else
 some (.inr sa.2)
noncomputable def qp (t13 t15:List D):Lp ((Int×List D)) ((List D)):=⟨fun sa=>[(3,.own 166 0),(7,.own 29 0),(8,.d (I ((t15).length:Int))),(9,.d (I sa.1))],fun sa=>[(29,.row 0 2 t15),(50,.row 0 2 t13),(166,.row 0 2 sa.2)],fun _=>(.exit 0),fun _=>[(3,.own 166 0)],fun e=>[(29,.row 0 2 t15),(50,.row 0 2 t13),(166,.row 0 2 e)]⟩
theorem ZM {n:Nat} {t13 t15:List D} (sa:(Int×List D)) (r) (h:Ws n t13 t15 sa=some r):Rl (Ql cx.P 44 0) 44 161 false (qp t13 t15) sa r:=by
 unfold Ws at h
 rcases io h with ⟨ha1,h⟩ | ⟨ha1,h⟩
 ·obtain ⟨ha2,h⟩:=gd h;obtain ⟨ta3,ha3,h⟩:=bo h;obtain ⟨ta4,ha4,h⟩:=bo h;obtain ⟨ha5,h⟩:=gd h;obtain ⟨ha6,h⟩:=gd h
  cases h
  exact rn 167 [b1,b1,.el (Qw ta3),.lp [] [3,5,6,7,8,9] [29,50,166,170] (.exit 2) [(3,.own 166 0),(5,.ptr 170 0 0 0 0),(7,.own 29 0),(8,.d (I ((t15).length:Int))),(9,.d (I sa.1))] [(29,.row 0 2 t15),(50,.row 0 2 t13),(166,.row 0 2 ta4),(170,.box (.d (.agg [I ta3.1,I ta3.2])))] 211,b1] [] [3,7,8,9] [29,50,166] (Qc ha6 (Qc (ro 46 ha5) (Qc (Qh qj ha4) (Qc (ZB Qn ha3) (Qc ha2 (Qc (decide_eq_true ha1) Qz))))))
 cases h
 exact rx 167 [b0] [] [3] [29,50,166] (Qc (decide_eq_false ha1) Qz)
def Zm (n:Nat) (t11:List D) (sa:Int) (sb:(Int×Int×List D)):Option (((Int×Int×List D))⊕((Int×List D))) :=
 if sb.2.1 < (((List.replicate ((t11).length - (Int.toNat sa)) (.tup []):List D)).length:Int) then
  if 0≤sb.2.1∧sb.2.1 < ((((t11).length - (Int.toNat sa)):Nat):Int) then
  ((nth (sb.2.2) ((Int.toNat sa)+Int.toNat sb.2.1)).bind QC).bind fun tb3 =>
  if Qa (sb.2.1 - 1) then
  if 0≤(sb.2.1 - 1)∧(sb.2.1 - 1) < ((((t11).length - (Int.toNat sa)):Nat):Int) then
  ((nth (sb.2.2) ((Int.toNat sa)+Int.toNat (sb.2.1 - 1))).bind QC).bind fun tb6 =>
  if ((tb3.1 == tb6.1) && ((tb3.2 == tb6.2) && true))=true then
   if Qa (sb.2.1+1) then
   some (.inl (sb.1,(sb.2.1+1),sb.2.2))
   else none
  else
  if 0≤sb.1∧sb.1 < ((sb.2.2).length:Int) then
  if (Int.toNat sb.1) < (sb.2.2).length then
  if Qa (sb.1+1) then
  if Qa (sb.2.1+1) then
  some (.inl ((sb.1+1),(sb.2.1+1),(List.set sb.2.2 (Int.toNat sb.1) (.agg [I tb3.1,I tb3.2]:D))))
  else none
  else none
  else none
  else none
  else none
  else none
  else none
 else
 some (.inr (sb.1,sb.2.2))
noncomputable def qo (t11:List D) (sa:Int):Lp ((Int×Int×List D)) ((Int×List D)):=⟨fun sb=>[(0,.own 29 0),(3,.d (I sb.1)),(4,.sub 29 0 2 (Int.toNat sa) ((t11).length - (Int.toNat sa))),(5,.d (I sb.2.1))],fun sb=>[(29,.row 0 2 sb.2.2)],fun _=>(.exit 2),fun e=>[(0,.own 29 0),(3,.d (I e.1))],fun e=>[(29,.row 0 2 e.2)]⟩
theorem qi {n:Nat} {t11:List D} {sa:Int} (sb:(Int×Int×List D)) (r) (h:Zm n t11 sa sb=some r):Rl (Ql cx.P 43 1) 61 36 false (qo t11 sa) sb r:=by
 unfold Zm at h
 rcases io h with ⟨hb1,h⟩ | ⟨hb1,h⟩
 ·obtain ⟨hb2,h⟩:=gd h;obtain ⟨tb3,hb3,h⟩:=bo h;obtain ⟨hb4,h⟩:=gd h;obtain ⟨hb5,h⟩:=gd h;obtain ⟨tb6,hb6,h⟩:=bo h
  have q:=Qc (ZB Qn hb6) (Qc hb5 (Qc hb4 (Qc (ZB Qn hb3) (Qc hb2 (Qc (decide_eq_true hb1) Qz)))))
  let o (l:List Orc):=b1::b1::.el (Qw tb3)::b1::.el (Qw tb6)::l
  rcases io h with ⟨hb7,h⟩ | ⟨hb7,h⟩
  ·obtain ⟨hb8,h⟩:=gd h
   cases h
   exact rn 60 (o [b0]) [] [0,3,4,5] [29] (Qc hb8 (Qc (U8 hb7) q))
  obtain ⟨hb8,h⟩:=gd h;obtain ⟨hb9,h⟩:=gd h;obtain ⟨hb10,h⟩:=gd h;obtain ⟨hb11,h⟩:=gd h
  cases h
  exact rn 60 (o [b1,b1,.el (Qw tb3),b1,b1]) [] [0,3,4,5] [29] (Qc hb11 (Qc hb10 (Qc hb9 (Qc hb8 (Qc (ZB Qn hb3) (Qc hb2 (Qc (jO (QD hb7)) q)))))))
 cases h
 exact rx 60 [b0] [] [0,3] [29] (Qc (decide_eq_false hb1) Qz)
def Q4 (n:Nat) (t11:List D) (sa:(Int)):Option (((Int))⊕((List D)⊕(Unit))) :=
 if sa < ((t11).length:Int) then
  if 0≤sa∧sa < ((t11).length:Int) then
  ((nth (t11) (Int.toNat sa)).bind QC).bind fun ta3 =>
  if Qa (sa - 1) then
  if 0≤(sa - 1)∧(sa - 1) < ((t11).length:Int) then
  ((nth (t11) (Int.toNat (sa - 1))).bind QC).bind fun ta6 =>
  if ((ta3.1 == ta6.1) && ((ta3.2 == ta6.2) && true))=true then
   (QE (Zm n t11 sa) n (sa,1,t11)).bind fun ta8 =>
   if 0≤ta8.1∧ta8.1 < ((ta8.2).length:Int) then
   if 0 < ((ta8.2).length - (Int.toNat ta8.1))∧(Int.toNat ta8.1)+((ta8.2).length - (Int.toNat ta8.1))≤(ta8.2).length then
   if 0≤ta8.1∧ta8.1≤(((ta8.2.take (Int.toNat ta8.1)++(List.replicate ((ta8.2).length - (Int.toNat ta8.1)) (.agg [I 0,I 0]:D)++ta8.2.drop ((Int.toNat ta8.1)+((ta8.2).length - (Int.toNat ta8.1))))):List D).length:Int) then
   some (.inr (.inl (((ta8.2.take (Int.toNat ta8.1)++(List.replicate ((ta8.2).length - (Int.toNat ta8.1)) (.agg [I 0,I 0]:D)++ta8.2.drop ((Int.toNat ta8.1)+((ta8.2).length - (Int.toNat ta8.1))))):List D).take (Int.toNat ta8.1))))
   else none
   else none
   else none
  else
  if Qa (sa+1) then
  some (.inl (sa+1))
  else none
  else none
  else none
  else none
 else
 some (.inr (.inr ()))
noncomputable def Eh (t11:List D):Lp ((Int)) ((List D)⊕(Unit)):=⟨fun sa=>[(0,.own 29 0),(3,.d (I sa))],fun _=>[(29,.row 0 2 t11)],fun
 | (.inl e)=>.ret
 | (.inr e)=>(.exit 0),fun
 | (.inl e)=>[(2,.own 29 1)]
 | (.inr e)=>[(0,.own 29 0)],fun
 | (.inl e)=>[(29,.row 1 2 e)]
 | (.inr e)=>[(29,.row 0 2 t11)]⟩
theorem QG {n:Nat} {t11:List D} (sa:(Int)) (r) (h:Q4 n t11 sa=some r):Rl (Ql cx.P 43 0) 61 36 false (Eh t11) sa r:=by
 unfold Q4 at h
 rcases io h with ⟨ha1,h⟩ | ⟨ha1,h⟩
 ·obtain ⟨ha2,h⟩:=gd h;obtain ⟨ta3,ha3,h⟩:=bo h;obtain ⟨ha4,h⟩:=gd h;obtain ⟨ha5,h⟩:=gd h;obtain ⟨ta6,ha6,h⟩:=bo h
  have q:=Qc (ZB Qn ha6) (Qc ha5 (Qc ha4 (Qc (ZB Qn ha3) (Qc ha2 (Qc (decide_eq_true ha1) Qz)))))
  let o (l:List Orc):=b1::b1::.el (Qw ta3)::b1::.el (Qw ta6)::l
  rcases io h with ⟨ha7,h⟩ | ⟨ha7,h⟩
  ·obtain ⟨ta8,ha8,h⟩:=bo h;obtain ⟨ha9,h⟩:=gd h;obtain ⟨ha10,h⟩:=gd h;obtain ⟨ha11,h⟩:=gd h
   cases h
   exact rx 41 (o [b1,.ix 0,b1,.lp [] [0,3,4,5] [29] (.exit 2) [(0,.own 29 0),(3,.d (I ta8.1))] [(29,.row 0 2 ta8.2)] 99,.ix 0,b1,b1,.ix 0,b1]) [] [2] [29] (Qc ha11 (Qc ha10 (Qc ha9 (Qc (Qh qi ha8) (Qc ha2 (Qc ha7 q))))))
  obtain ⟨ha8,h⟩:=gd h
  cases h
  exact rn 41 (o [b0]) [] [0,3] [29] (Qc ha8 (Qc (QD ha7) q))
 cases h
 exact rx 41 [b0] [] [0] [29] (Qc (decide_eq_false ha1) Qz)
def Ym (n:Nat) (t13:List D) (sa:Int×List D) (ta3:Int×Int) (sb:(Int×List D)):Option (((Int×List D))⊕((List D))) :=
 if sb.1 > 1 then
  if Qa (sb.1 - 2) then
  if 0≤(sb.1 - 2)∧(sb.1 - 2) < ((sb.2).length:Int) then
  ((nth (sb.2) (Int.toNat (sb.1 - 2))).bind QC).bind fun tb4 =>
  if Qa (sb.1 - 1) then
  if 0≤(sb.1 - 1)∧(sb.1 - 1) < ((sb.2).length:Int) then
  ((nth (sb.2) (Int.toNat (sb.1 - 1))).bind QC).bind fun tb7 =>
  (Q5 n tb4.1 tb4.2 tb7.1 tb7.2 ta3.1 ta3.2).bind fun tb8 =>
  if tb8≤0 then
   if 0≤(sb.1 - 1)∧(sb.1 - 1)≤((sb.2).length:Int) then
   some (.inl ((((sb.2.take (Int.toNat (sb.1 - 1))):List D).length:Int),(sb.2.take (Int.toNat (sb.1 - 1)))))
   else none
  else
  some (.inr sb.2)
  else none
  else none
  else none
  else none
 else
 some (.inr sb.2)
noncomputable def Eg (t13:List D) (sa:Int×List D) (ta3:Int×Int):Lp ((Int×List D)) ((List D)):=⟨fun sb=>[(3,.own 126 0),(5,.ptr 130 0 0 0 0),(6,.d (I sb.1)),(7,.own 29 1),(8,.d (I ((t13).length:Int))),(9,.d (I sa.1))],fun sb=>[(29,.row 1 2 t13),(126,.row 0 2 sb.2),(130,.box (.d (.agg [I ta3.1,I ta3.2])))],fun _=>(.exit 2),fun _=>[(3,.own 126 0),(5,.ptr 130 0 0 0 0),(7,.own 29 1),(8,.d (I ((t13).length:Int))),(9,.d (I sa.1))],fun e=>[(29,.row 1 2 t13),(126,.row 0 2 e),(130,.box (.d (.agg [I ta3.1,I ta3.2])))]⟩
theorem X1 {n:Nat} {t13:List D} {sa:Int×List D} {ta3:Int×Int} (sb:(Int×List D)) (r) (h:Ym n t13 sa ta3 sb=some r):Rl (Ql cx.P 44 1) 44 121 false (Eg t13 sa ta3) sb r:=by
 unfold Ym at h
 rcases io h with ⟨hb1,h⟩ | ⟨hb1,h⟩
 ·obtain ⟨hb2,h⟩:=gd h;obtain ⟨hb3,h⟩:=gd h;obtain ⟨tb4,hb4,h⟩:=bo h;obtain ⟨hb5,h⟩:=gd h;obtain ⟨hb6,h⟩:=gd h;obtain ⟨tb7,hb7,h⟩:=bo h;obtain ⟨tb8,hb8,h⟩:=bo h
  have q:=Qc (Z2 hb8) (Qc (ZB Qn hb7) (Qc hb6 (Qc hb5 (Qc (ZB Qn hb4) (Qc hb3 (Qc hb2 (Qc (decide_eq_true hb1) Qz)))))))
  let o (l:List Orc):=b1::b1::.el (Qw tb4)::b1::.el (Qw tb7)::.ret (I tb8)::l
  rcases io h with ⟨hb9,h⟩ | ⟨hb9,h⟩
  ·obtain ⟨hb10,h⟩:=gd h
   cases h
   exact rn 135 (o [b1,.ix 0,b1]) [] [3,5,6,7,8,9] [29,126,130] (Qc hb10 (Qc hb5 (Qc (decide_eq_true hb9) q)))
  cases h
  exact rx 135 (o [b0]) [] [3,5,7,8,9] [29,126,130] (Qc (decide_eq_false hb9) q)
 cases h
 exact rx 135 [b0,.no] [] [3,5,7,8,9] [29,126,130] (Qc (decide_eq_false hb1) Qz)
def Yl (n:Nat) (t13:List D) (sa:(Int×List D)):Option (((Int×List D))⊕((List D))) :=
 if sa.1 < ((t13).length:Int) then
  if 0≤sa.1∧sa.1 < ((t13).length:Int) then
  ((nth (t13) (Int.toNat sa.1)).bind QC).bind fun ta3 =>
  (QE (Ym n t13 sa ta3) n (((sa.2).length:Int),sa.2)).bind fun ta4 =>
  if Q1 16 ((ta4).length+1) then
  if Qa (sa.1+1) then
  some (.inl ((sa.1+1),(ta4++([.agg [I ta3.1,I ta3.2]]:List D))))
  else none
  else none
  else none
 else
 some (.inr sa.2)
noncomputable def Ef (t13:List D):Lp ((Int×List D)) ((List D)):=⟨fun sa=>[(3,.own 126 0),(7,.own 29 1),(8,.d (I ((t13).length:Int))),(9,.d (I sa.1))],fun sa=>[(29,.row 1 2 t13),(126,.row 0 2 sa.2)],fun _=>(.exit 0),fun _=>[(3,.own 126 0)],fun e=>[(29,.row 1 2 t13),(126,.row 0 2 e)]⟩
theorem Zv {n:Nat} {t13:List D} (sa:(Int×List D)) (r) (h:Yl n t13 sa=some r):Rl (Ql cx.P 44 0) 44 121 false (Ef t13) sa r:=by
 unfold Yl at h
 rcases io h with ⟨ha1,h⟩ | ⟨ha1,h⟩
 ·obtain ⟨ha2,h⟩:=gd h;obtain ⟨ta3,ha3,h⟩:=bo h;obtain ⟨ta4,ha4,h⟩:=bo h;obtain ⟨ha5,h⟩:=gd h;obtain ⟨ha6,h⟩:=gd h
  cases h
  exact rn 127 [b1,b1,.el (Qw ta3),.lp [] [3,5,6,7,8,9] [29,126,130] (.exit 2) [(3,.own 126 0),(5,.ptr 130 0 0 0 0),(7,.own 29 1),(8,.d (I ((t13).length:Int))),(9,.d (I sa.1))] [(29,.row 1 2 t13),(126,.row 0 2 ta4),(130,.box (.d (.agg [I ta3.1,I ta3.2])))] 171,b1] [] [3,7,8,9] [29,126] (Qc ha6 (Qc (ro 46 ha5) (Qc (Qh X1 ha4) (Qc (ZB Qn ha3) (Qc ha2 (Qc (decide_eq_true ha1) Qz))))))
 cases h
 exact rx 127 [b0] [] [3] [29,126] (Qc (decide_eq_false ha1) Qz)
def Yk (n:Nat) (t14:List D) (sa:(Int×Int×List D)):Option (((Int×Int×List D))⊕((List D))) :=
 if sa.1 < sa.2.1 then
  if 0≤sa.2.1∧sa.2.1 < ((sa.2.2).length:Int) then
  ((nth (sa.2.2) (Int.toNat sa.2.1)).bind QC).bind fun ta3 =>
  if 0≤sa.1∧sa.1 < ((sa.2.2).length:Int) then
  ((nth (sa.2.2) (Int.toNat sa.1)).bind QC).bind fun ta5 =>
  if (Int.toNat sa.1) < (sa.2.2).length then
  if 0≤sa.2.1∧sa.2.1 < (((List.set sa.2.2 (Int.toNat sa.1) (.agg [I ta3.1,I ta3.2]:D)):List D).length:Int) then
  if (Int.toNat sa.2.1) < ((List.set sa.2.2 (Int.toNat sa.1) (.agg [I ta3.1,I ta3.2]:D)):List D).length then
  if Qa (sa.1+1) then
  if Qa (sa.2.1 - 1) then
  some (.inl ((sa.1+1),(sa.2.1 - 1),(List.set (List.set sa.2.2 (Int.toNat sa.1) (.agg [I ta3.1,I ta3.2]:D)) (Int.toNat sa.2.1) (.agg [I ta5.1,I ta5.2]:D))))
  else none
  else none
  else none
  else none
  else none
  else none
  else none
 else
 some (.inr sa.2.2)
noncomputable def Ee (t14:List D):Lp ((Int×Int×List D)) ((List D)):=⟨fun sa=>[(0,.own 29 1),(2,.d (I sa.1)),(3,.d (I sa.2.1))],fun sa=>[(29,.row 1 2 sa.2.2),(126,.row 0 2 t14)],fun _=>(.exit 0),fun _=>[],fun e=>[(29,.row 1 2 e),(126,.row 0 2 t14)]⟩
theorem Zu {n:Nat} {t14:List D} (sa:(Int×Int×List D)) (r) (h:Yk n t14 sa=some r):Rl (Ql cx.P 45 0) 28 193 false (Ee t14) sa r:=by
 unfold Yk at h
 rcases io h with ⟨ha1,h⟩ | ⟨ha1,h⟩
 ·obtain ⟨ha2,h⟩:=gd h;obtain ⟨ta3,ha3,h⟩:=bo h;obtain ⟨ha4,h⟩:=gd h;obtain ⟨ta5,ha5,h⟩:=bo h;obtain ⟨ha6,h⟩:=gd h;obtain ⟨ha7,h⟩:=gd h;obtain ⟨ha8,h⟩:=gd h;obtain ⟨ha9,h⟩:=gd h;obtain ⟨ha10,h⟩:=gd h
  cases h
  exact rn 198 [b1,b1,.el (Qw ta3),b1,.el (Qw ta5),b1,b1,b1,b1] [] [0,2,3] [29,126] (Qc ha10 (Qc ha9 (Qc ha8 (Qc ha7 (Qc ha6 (Qc ha4 (Qc (ZB Qn ha5) (Qc ha4 (Qc (ZB Qn ha3) (Qc ha2 (Qc (decide_eq_true ha1) Qz)))))))))))
 cases h
 exact rx 198 [b0] [] [] [29,126] (Qc (decide_eq_false ha1) Qz)
def Yj (n:Nat) (t14 t16:List D) (sa:Int×List D) (ta3:Int×Int) (sb:(Int×List D)):Option (((Int×List D))⊕((List D))) :=
 if sb.1 > 1 then
  if Qa (sb.1 - 2) then
  if 0≤(sb.1 - 2)∧(sb.1 - 2) < ((sb.2).length:Int) then
  ((nth (sb.2) (Int.toNat (sb.1 - 2))).bind QC).bind fun tb4 =>
  if Qa (sb.1 - 1) then
  if 0≤(sb.1 - 1)∧(sb.1 - 1) < ((sb.2).length:Int) then
  ((nth (sb.2) (Int.toNat (sb.1 - 1))).bind QC).bind fun tb7 =>
  (Q5 n tb4.1 tb4.2 tb7.1 tb7.2 ta3.1 ta3.2).bind fun tb8 =>
  if tb8≤0 then
   if 0≤(sb.1 - 1)∧(sb.1 - 1)≤((sb.2).length:Int) then
   some (.inl ((((sb.2.take (Int.toNat (sb.1 - 1))):List D).length:Int),(sb.2.take (Int.toNat (sb.1 - 1)))))
   else none
  else
  some (.inr sb.2)
  else none
  else none
  else none
  else none
 else
 some (.inr sb.2)
noncomputable def Ed (t14 t16:List D) (sa:Int×List D) (ta3:Int×Int):Lp ((Int×List D)) ((List D)):=⟨fun sb=>[(3,.own 242 0),(5,.ptr 246 0 0 0 0),(6,.d (I sb.1)),(7,.own 29 1),(8,.d (I ((t16).length:Int))),(9,.d (I sa.1))],fun sb=>[(29,.row 1 2 t16),(126,.row 0 2 t14),(242,.row 0 2 sb.2),(246,.box (.d (.agg [I ta3.1,I ta3.2])))],fun _=>(.exit 2),fun _=>[(3,.own 242 0),(5,.ptr 246 0 0 0 0),(7,.own 29 1),(8,.d (I ((t16).length:Int))),(9,.d (I sa.1))],fun e=>[(29,.row 1 2 t16),(126,.row 0 2 t14),(242,.row 0 2 e),(246,.box (.d (.agg [I ta3.1,I ta3.2])))]⟩
theorem X0 {n:Nat} {t14 t16:List D} {sa:Int×List D} {ta3:Int×Int} (sb:(Int×List D)) (r) (h:Yj n t14 t16 sa ta3 sb=some r):Rl (Ql cx.P 44 1) 44 237 false (Ed t14 t16 sa ta3) sb r:=by
 unfold Yj at h
 rcases io h with ⟨hb1,h⟩ | ⟨hb1,h⟩
 ·obtain ⟨hb2,h⟩:=gd h;obtain ⟨hb3,h⟩:=gd h;obtain ⟨tb4,hb4,h⟩:=bo h;obtain ⟨hb5,h⟩:=gd h;obtain ⟨hb6,h⟩:=gd h;obtain ⟨tb7,hb7,h⟩:=bo h;obtain ⟨tb8,hb8,h⟩:=bo h
  have q:=Qc (Z2 hb8) (Qc (ZB Qn hb7) (Qc hb6 (Qc hb5 (Qc (ZB Qn hb4) (Qc hb3 (Qc hb2 (Qc (decide_eq_true hb1) Qz)))))))
  let o (l:List Orc):=b1::b1::.el (Qw tb4)::b1::.el (Qw tb7)::.ret (I tb8)::l
  rcases io h with ⟨hb9,h⟩ | ⟨hb9,h⟩
  ·obtain ⟨hb10,h⟩:=gd h
   cases h
   exact rn 251 (o [b1,.ix 0,b1]) [] [3,5,6,7,8,9] [29,126,242,246] (Qc hb10 (Qc hb5 (Qc (decide_eq_true hb9) q)))
  cases h
  exact rx 251 (o [b0]) [] [3,5,7,8,9] [29,126,242,246] (Qc (decide_eq_false hb9) q)
 cases h
 exact rx 251 [b0,.no] [] [3,5,7,8,9] [29,126,242,246] (Qc (decide_eq_false hb1) Qz)
def Yi (n:Nat) (t14 t16:List D) (sa:(Int×List D)):Option (((Int×List D))⊕((List D))) :=
 if sa.1 < ((t16).length:Int) then
  if 0≤sa.1∧sa.1 < ((t16).length:Int) then
  ((nth (t16) (Int.toNat sa.1)).bind QC).bind fun ta3 =>
  (QE (Yj n t14 t16 sa ta3) n (((sa.2).length:Int),sa.2)).bind fun ta4 =>
  if Q1 16 ((ta4).length+1) then
  if Qa (sa.1+1) then
  some (.inl ((sa.1+1),(ta4++([.agg [I ta3.1,I ta3.2]]:List D))))
  else none
  else none
  else none
 else
 some (.inr sa.2)
noncomputable def Ec (t14 t16:List D):Lp ((Int×List D)) ((List D)):=⟨fun sa=>[(3,.own 242 0),(7,.own 29 1),(8,.d (I ((t16).length:Int))),(9,.d (I sa.1))],fun sa=>[(29,.row 1 2 t16),(126,.row 0 2 t14),(242,.row 0 2 sa.2)],fun _=>(.exit 0),fun _=>[(3,.own 242 0)],fun e=>[(29,.row 1 2 t16),(126,.row 0 2 t14),(242,.row 0 2 e)]⟩
theorem Zt {n:Nat} {t14 t16:List D} (sa:(Int×List D)) (r) (h:Yi n t14 t16 sa=some r):Rl (Ql cx.P 44 0) 44 237 false (Ec t14 t16) sa r:=by
 unfold Yi at h
 rcases io h with ⟨ha1,h⟩ | ⟨ha1,h⟩
 ·obtain ⟨ha2,h⟩:=gd h;obtain ⟨ta3,ha3,h⟩:=bo h;obtain ⟨ta4,ha4,h⟩:=bo h;obtain ⟨ha5,h⟩:=gd h;obtain ⟨ha6,h⟩:=gd h
  cases h
  exact rn 243 [b1,b1,.el (Qw ta3),.lp [] [3,5,6,7,8,9] [29,126,242,246] (.exit 2) [(3,.own 242 0),(5,.ptr 246 0 0 0 0),(7,.own 29 1),(8,.d (I ((t16).length:Int))),(9,.d (I sa.1))] [(29,.row 1 2 t16),(126,.row 0 2 t14),(242,.row 0 2 ta4),(246,.box (.d (.agg [I ta3.1,I ta3.2])))] 287,b1] [] [3,7,8,9] [29,126,242] (Qc ha6 (Qc (ro 46 ha5) (Qc (Qh X0 ha4) (Qc (ZB Qn ha3) (Qc ha2 (Qc (decide_eq_true ha1) Qz))))))
 cases h
 exact rx 243 [b0] [] [3] [29,126,242] (Qc (decide_eq_false ha1) Qz)
def Yh (n:Nat) (t11:List D) (sa:Int×List D) (ta3:Int×Int) (sb:(Int×List D)):Option (((Int×List D))⊕((List D))) :=
 if sb.1 > 1 then
  if Qa (sb.1 - 2) then
  if 0≤(sb.1 - 2)∧(sb.1 - 2) < ((sb.2).length:Int) then
  ((nth (sb.2) (Int.toNat (sb.1 - 2))).bind QC).bind fun tb4 =>
  if Qa (sb.1 - 1) then
  if 0≤(sb.1 - 1)∧(sb.1 - 1) < ((sb.2).length:Int) then
  ((nth (sb.2) (Int.toNat (sb.1 - 1))).bind QC).bind fun tb7 =>
  (Q5 n tb4.1 tb4.2 tb7.1 tb7.2 ta3.1 ta3.2).bind fun tb8 =>
  if tb8≤0 then
   if 0≤(sb.1 - 1)∧(sb.1 - 1)≤((sb.2).length:Int) then
   some (.inl ((((sb.2.take (Int.toNat (sb.1 - 1))):List D).length:Int),(sb.2.take (Int.toNat (sb.1 - 1)))))
   else none
  else
  some (.inr sb.2)
  else none
  else none
  else none
  else none
 else
 some (.inr sb.2)
noncomputable def Eb (t11:List D) (sa:Int×List D) (ta3:Int×Int):Lp ((Int×List D)) ((List D)):=⟨fun sb=>[(3,.own 128 0),(5,.ptr 132 0 0 0 0),(6,.d (I sb.1)),(7,.own 29 0),(8,.d (I ((t11).length:Int))),(9,.d (I sa.1))],fun sb=>[(29,.row 0 2 t11),(128,.row 0 2 sb.2),(132,.box (.d (.agg [I ta3.1,I ta3.2])))],fun _=>(.exit 2),fun _=>[(3,.own 128 0),(5,.ptr 132 0 0 0 0),(7,.own 29 0),(8,.d (I ((t11).length:Int))),(9,.d (I sa.1))],fun e=>[(29,.row 0 2 t11),(128,.row 0 2 e),(132,.box (.d (.agg [I ta3.1,I ta3.2])))]⟩
theorem XZ {n:Nat} {t11:List D} {sa:Int×List D} {ta3:Int×Int} (sb:(Int×List D)) (r) (h:Yh n t11 sa ta3 sb=some r):Rl (Ql cx.P 44 1) 44 123 false (Eb t11 sa ta3) sb r:=by
 unfold Yh at h
 rcases io h with ⟨hb1,h⟩ | ⟨hb1,h⟩
 ·obtain ⟨hb2,h⟩:=gd h;obtain ⟨hb3,h⟩:=gd h;obtain ⟨tb4,hb4,h⟩:=bo h;obtain ⟨hb5,h⟩:=gd h;obtain ⟨hb6,h⟩:=gd h;obtain ⟨tb7,hb7,h⟩:=bo h;obtain ⟨tb8,hb8,h⟩:=bo h
  have q:=Qc (Z2 hb8) (Qc (ZB Qn hb7) (Qc hb6 (Qc hb5 (Qc (ZB Qn hb4) (Qc hb3 (Qc hb2 (Qc (decide_eq_true hb1) Qz)))))))
  let o (l:List Orc):=b1::b1::.el (Qw tb4)::b1::.el (Qw tb7)::.ret (I tb8)::l
  rcases io h with ⟨hb9,h⟩ | ⟨hb9,h⟩
  ·obtain ⟨hb10,h⟩:=gd h
   cases h
   exact rn 137 (o [b1,.ix 0,b1]) [] [3,5,6,7,8,9] [29,128,132] (Qc hb10 (Qc hb5 (Qc (decide_eq_true hb9) q)))
  cases h
  exact rx 137 (o [b0]) [] [3,5,7,8,9] [29,128,132] (Qc (decide_eq_false hb9) q)
 cases h
 exact rx 137 [b0,.no] [] [3,5,7,8,9] [29,128,132] (Qc (decide_eq_false hb1) Qz)
def Yg (n:Nat) (t11:List D) (sa:(Int×List D)):Option (((Int×List D))⊕((List D))) :=
 if sa.1 < ((t11).length:Int) then
  if 0≤sa.1∧sa.1 < ((t11).length:Int) then
  ((nth (t11) (Int.toNat sa.1)).bind QC).bind fun ta3 =>
  (QE (Yh n t11 sa ta3) n (((sa.2).length:Int),sa.2)).bind fun ta4 =>
  if Q1 16 ((ta4).length+1) then
  if Qa (sa.1+1) then
  some (.inl ((sa.1+1),(ta4++([.agg [I ta3.1,I ta3.2]]:List D))))
  else none
  else none
  else none
 else
 some (.inr sa.2)
noncomputable def Ea (t11:List D):Lp ((Int×List D)) ((List D)):=⟨fun sa=>[(3,.own 128 0),(7,.own 29 0),(8,.d (I ((t11).length:Int))),(9,.d (I sa.1))],fun sa=>[(29,.row 0 2 t11),(128,.row 0 2 sa.2)],fun _=>(.exit 0),fun _=>[(3,.own 128 0)],fun e=>[(29,.row 0 2 t11),(128,.row 0 2 e)]⟩
theorem Zs {n:Nat} {t11:List D} (sa:(Int×List D)) (r) (h:Yg n t11 sa=some r):Rl (Ql cx.P 44 0) 44 123 false (Ea t11) sa r:=by
 unfold Yg at h
 rcases io h with ⟨ha1,h⟩ | ⟨ha1,h⟩
 ·obtain ⟨ha2,h⟩:=gd h;obtain ⟨ta3,ha3,h⟩:=bo h;obtain ⟨ta4,ha4,h⟩:=bo h;obtain ⟨ha5,h⟩:=gd h;obtain ⟨ha6,h⟩:=gd h
  cases h
  exact rn 129 [b1,b1,.el (Qw ta3),.lp [] [3,5,6,7,8,9] [29,128,132] (.exit 2) [(3,.own 128 0),(5,.ptr 132 0 0 0 0),(7,.own 29 0),(8,.d (I ((t11).length:Int))),(9,.d (I sa.1))] [(29,.row 0 2 t11),(128,.row 0 2 ta4),(132,.box (.d (.agg [I ta3.1,I ta3.2])))] 173,b1] [] [3,7,8,9] [29,128] (Qc ha6 (Qc (ro 46 ha5) (Qc (Qh XZ ha4) (Qc (ZB Qn ha3) (Qc ha2 (Qc (decide_eq_true ha1) Qz))))))
 cases h
 exact rx 129 [b0] [] [3] [29,128] (Qc (decide_eq_false ha1) Qz)
def Yf (n:Nat) (t14:List D) (sa:(Int×Int×List D)):Option (((Int×Int×List D))⊕((List D))) :=
 if sa.1 < sa.2.1 then
  if 0≤sa.2.1∧sa.2.1 < ((sa.2.2).length:Int) then
  ((nth (sa.2.2) (Int.toNat sa.2.1)).bind QC).bind fun ta3 =>
  if 0≤sa.1∧sa.1 < ((sa.2.2).length:Int) then
  ((nth (sa.2.2) (Int.toNat sa.1)).bind QC).bind fun ta5 =>
  if (Int.toNat sa.1) < (sa.2.2).length then
  if 0≤sa.2.1∧sa.2.1 < (((List.set sa.2.2 (Int.toNat sa.1) (.agg [I ta3.1,I ta3.2]:D)):List D).length:Int) then
  if (Int.toNat sa.2.1) < ((List.set sa.2.2 (Int.toNat sa.1) (.agg [I ta3.1,I ta3.2]:D)):List D).length then
  if Qa (sa.1+1) then
  if Qa (sa.2.1 - 1) then
  some (.inl ((sa.1+1),(sa.2.1 - 1),(List.set (List.set sa.2.2 (Int.toNat sa.1) (.agg [I ta3.1,I ta3.2]:D)) (Int.toNat sa.2.1) (.agg [I ta5.1,I ta5.2]:D))))
  else none
  else none
  else none
  else none
  else none
  else none
  else none
 else
 some (.inr sa.2.2)
noncomputable def X9 (t14:List D):Lp ((Int×Int×List D)) ((List D)):=⟨fun sa=>[(0,.own 29 0),(2,.d (I sa.1)),(3,.d (I sa.2.1))],fun sa=>[(29,.row 0 2 sa.2.2),(128,.row 0 2 t14)],fun _=>(.exit 0),fun _=>[],fun e=>[(29,.row 0 2 e),(128,.row 0 2 t14)]⟩
theorem Zr {n:Nat} {t14:List D} (sa:(Int×Int×List D)) (r) (h:Yf n t14 sa=some r):Rl (Ql cx.P 45 0) 28 195 false (X9 t14) sa r:=by
 unfold Yf at h
 rcases io h with ⟨ha1,h⟩ | ⟨ha1,h⟩
 ·obtain ⟨ha2,h⟩:=gd h;obtain ⟨ta3,ha3,h⟩:=bo h;obtain ⟨ha4,h⟩:=gd h;obtain ⟨ta5,ha5,h⟩:=bo h;obtain ⟨ha6,h⟩:=gd h;obtain ⟨ha7,h⟩:=gd h;obtain ⟨ha8,h⟩:=gd h;obtain ⟨ha9,h⟩:=gd h;obtain ⟨ha10,h⟩:=gd h
  cases h
  exact rn 200 [b1,b1,.el (Qw ta3),b1,.el (Qw ta5),b1,b1,b1,b1] [] [0,2,3] [29,128] (Qc ha10 (Qc ha9 (Qc ha8 (Qc ha7 (Qc ha6 (Qc ha4 (Qc (ZB Qn ha5) (Qc ha4 (Qc (ZB Qn ha3) (Qc ha2 (Qc (decide_eq_true ha1) Qz)))))))))))
 cases h
 exact rx 200 [b0] [] [] [29,128] (Qc (decide_eq_false ha1) Qz)
def Ye (n:Nat) (t14 t16:List D) (sa:Int×List D) (ta3:Int×Int) (sb:(Int×List D)):Option (((Int×List D))⊕((List D))) :=
 if sb.1 > 1 then
  if Qa (sb.1 - 2) then
  if 0≤(sb.1 - 2)∧(sb.1 - 2) < ((sb.2).length:Int) then
  ((nth (sb.2) (Int.toNat (sb.1 - 2))).bind QC).bind fun tb4 =>
  if Qa (sb.1 - 1) then
  if 0≤(sb.1 - 1)∧(sb.1 - 1) < ((sb.2).length:Int) then
  ((nth (sb.2) (Int.toNat (sb.1 - 1))).bind QC).bind fun tb7 =>
  (Q5 n tb4.1 tb4.2 tb7.1 tb7.2 ta3.1 ta3.2).bind fun tb8 =>
  if tb8≤0 then
   if 0≤(sb.1 - 1)∧(sb.1 - 1)≤((sb.2).length:Int) then
   some (.inl ((((sb.2.take (Int.toNat (sb.1 - 1))):List D).length:Int),(sb.2.take (Int.toNat (sb.1 - 1)))))
   else none
  else
  some (.inr sb.2)
  else none
  else none
  else none
  else none
 else
 some (.inr sb.2)
noncomputable def X8 (t14 t16:List D) (sa:Int×List D) (ta3:Int×Int):Lp ((Int×List D)) ((List D)):=⟨fun sb=>[(3,.own 244 0),(5,.ptr 248 0 0 0 0),(6,.d (I sb.1)),(7,.own 29 0),(8,.d (I ((t16).length:Int))),(9,.d (I sa.1))],fun sb=>[(29,.row 0 2 t16),(128,.row 0 2 t14),(244,.row 0 2 sb.2),(248,.box (.d (.agg [I ta3.1,I ta3.2])))],fun _=>(.exit 2),fun _=>[(3,.own 244 0),(5,.ptr 248 0 0 0 0),(7,.own 29 0),(8,.d (I ((t16).length:Int))),(9,.d (I sa.1))],fun e=>[(29,.row 0 2 t16),(128,.row 0 2 t14),(244,.row 0 2 e),(248,.box (.d (.agg [I ta3.1,I ta3.2])))]⟩
theorem XY {n:Nat} {t14 t16:List D} {sa:Int×List D} {ta3:Int×Int} (sb:(Int×List D)) (r) (h:Ye n t14 t16 sa ta3 sb=some r):Rl (Ql cx.P 44 1) 44 239 false (X8 t14 t16 sa ta3) sb r:=by
 unfold Ye at h
 rcases io h with ⟨hb1,h⟩ | ⟨hb1,h⟩
 ·obtain ⟨hb2,h⟩:=gd h;obtain ⟨hb3,h⟩:=gd h;obtain ⟨tb4,hb4,h⟩:=bo h;obtain ⟨hb5,h⟩:=gd h;obtain ⟨hb6,h⟩:=gd h;obtain ⟨tb7,hb7,h⟩:=bo h;obtain ⟨tb8,hb8,h⟩:=bo h
  have q:=Qc (Z2 hb8) (Qc (ZB Qn hb7) (Qc hb6 (Qc hb5 (Qc (ZB Qn hb4) (Qc hb3 (Qc hb2 (Qc (decide_eq_true hb1) Qz)))))))
  let o (l:List Orc):=b1::b1::.el (Qw tb4)::b1::.el (Qw tb7)::.ret (I tb8)::l
  rcases io h with ⟨hb9,h⟩ | ⟨hb9,h⟩
  ·obtain ⟨hb10,h⟩:=gd h
   cases h
   exact rn 253 (o [b1,.ix 0,b1]) [] [3,5,6,7,8,9] [29,128,244,248] (Qc hb10 (Qc hb5 (Qc (decide_eq_true hb9) q)))
  cases h
  exact rx 253 (o [b0]) [] [3,5,7,8,9] [29,128,244,248] (Qc (decide_eq_false hb9) q)
 cases h
 exact rx 253 [b0,.no] [] [3,5,7,8,9] [29,128,244,248] (Qc (decide_eq_false hb1) Qz)
def Yd (n:Nat) (t14 t16:List D) (sa:(Int×List D)):Option (((Int×List D))⊕((List D))) :=
 if sa.1 < ((t16).length:Int) then
  if 0≤sa.1∧sa.1 < ((t16).length:Int) then
  ((nth (t16) (Int.toNat sa.1)).bind QC).bind fun ta3 =>
  (QE (Ye n t14 t16 sa ta3) n (((sa.2).length:Int),sa.2)).bind fun ta4 =>
  if Q1 16 ((ta4).length+1) then
  if Qa (sa.1+1) then
  some (.inl ((sa.1+1),(ta4++([.agg [I ta3.1,I ta3.2]]:List D))))
  else none
  else none
  else none
 else
 some (.inr sa.2)
noncomputable def X7 (t14 t16:List D):Lp ((Int×List D)) ((List D)):=⟨fun sa=>[(3,.own 244 0),(7,.own 29 0),(8,.d (I ((t16).length:Int))),(9,.d (I sa.1))],fun sa=>[(29,.row 0 2 t16),(128,.row 0 2 t14),(244,.row 0 2 sa.2)],fun _=>(.exit 0),fun _=>[(3,.own 244 0)],fun e=>[(29,.row 0 2 t16),(128,.row 0 2 t14),(244,.row 0 2 e)]⟩
theorem Zq {n:Nat} {t14 t16:List D} (sa:(Int×List D)) (r) (h:Yd n t14 t16 sa=some r):Rl (Ql cx.P 44 0) 44 239 false (X7 t14 t16) sa r:=by
 unfold Yd at h
 rcases io h with ⟨ha1,h⟩ | ⟨ha1,h⟩
 ·obtain ⟨ha2,h⟩:=gd h;obtain ⟨ta3,ha3,h⟩:=bo h;obtain ⟨ta4,ha4,h⟩:=bo h;obtain ⟨ha5,h⟩:=gd h;obtain ⟨ha6,h⟩:=gd h
  cases h
  exact rn 245 [b1,b1,.el (Qw ta3),.lp [] [3,5,6,7,8,9] [29,128,244,248] (.exit 2) [(3,.own 244 0),(5,.ptr 248 0 0 0 0),(7,.own 29 0),(8,.d (I ((t16).length:Int))),(9,.d (I sa.1))] [(29,.row 0 2 t16),(128,.row 0 2 t14),(244,.row 0 2 ta4),(248,.box (.d (.agg [I ta3.1,I ta3.2])))] 289,b1] [] [3,7,8,9] [29,128,244] (Qc ha6 (Qc (ro 46 ha5) (Qc (Qh XY ha4) (Qc (ZB Qn ha3) (Qc ha2 (Qc (decide_eq_true ha1) Qz))))))
 cases h
 exact rx 245 [b0] [] [3] [29,128,244] (Qc (decide_eq_false ha1) Qz)
theorem zC (a0:List D) (t1:Int) (t2:Int) (t3:Int) (t5:List D) (t6:Int) (t11:List D) (t13:List D) (t15:List D) (t16:List D) (t31:Int) (t32:Int) (t33:Int):QR true 100 cx 6 [.lst false 2 a0] [.ret (I t1),.ret (I t2),.ret (I t3),.br false,.ret (.lst false 1 t5),.ret (I t6),.br false,.br true,.no,.br true,.br false,.obj (some 29) (.d (.tup [])) [.row 2 t11] [],.br true,.br true,.br true,.lp [3,2] [3,7,8,9] [29,50] (.exit 0) [(3,.own 50 0)] [(29,.row 0 2 t11),(50,.row 0 2 t13)] 113,.br true,.lp [] [0,2,3] [29,50] (.exit 0) [] [(29,.row 0 2 t15),(50,.row 0 2 t13)] 158,.br true,.lp [3,2] [3,7,8,9] [29,50,166] (.exit 0) [(3,.own 166 0)] [(29,.row 0 2 t15),(50,.row 0 2 t13),(166,.row 0 2 t16)] 229,.lp [] [] [50,166] .ret [] [] 0,.br true,.br true,.no,.no,.no,.no,.br false,.no,.no,.no,.br false,.no,.no,.br true,.br false,.br true,.no,.br true,.ix 0,.br true,.no,.no,.no,.br true,.no,.no,.no,.br true,.no,.no,.ret (I t31),.ret (I t32),.ret (I t33),.br false]=some (.tup [.lst false 2 (((t13.take (Int.toNat (((t13).length:Int) - 1))).drop (Int.toNat 0))++(((t16.take (Int.toNat (((t16).length:Int) - 1))).drop (Int.toNat 0)):List D)),I 0],[(t33 != 0)=false,Computes cx 36 [.lst true 1 [I t31,I t32]] (I t33),Computes cx 37 [B (decide ((((((t13.take (Int.toNat (((t13).length:Int) - 1))).drop (Int.toNat 0))++(((t16.take (Int.toNat (((t16).length:Int) - 1))).drop (Int.toNat 0)):List D)):List D).length:Int) > 16)),I 5] (I t32),Computes cx 37 [B (decide ((((((t13.take (Int.toNat (((t13).length:Int) - 1))).drop (Int.toNat 0))++(((t16.take (Int.toNat (((t16).length:Int) - 1))).drop (Int.toNat 0)):List D)):List D).length:Int) < 3)),I 17] (I t31),Qa 2,room cx 46 ((((t13.take (Int.toNat (((t13).length:Int) - 1))).drop (Int.toNat 0)):List D).length+(((t16.take (Int.toNat (((t16).length:Int) - 1))).drop (Int.toNat 0)):List D).length),Qa 1,room cx 46 (0+(((t13.take (Int.toNat (((t13).length:Int) - 1))).drop (Int.toNat 0)):List D).length),(0:Int)≤0∧0≤(((List.replicate (Int.toNat (((0+((((t13.take (Int.toNat (((t13).length:Int) - 1))).drop (Int.toNat 0)):List D).length:Int))+((((t16.take (Int.toNat (((t16).length:Int) - 1))).drop (Int.toNat 0)):List D).length:Int)) - 0)) (.agg [I 0,I 0]:D)):List D).length:Int),0 < (((0+((((t13.take (Int.toNat (((t13).length:Int) - 1))).drop (Int.toNat 0)):List D).length:Int))+((((t16.take (Int.toNat (((t16).length:Int) - 1))).drop (Int.toNat 0)):List D).length:Int)) - 0)∧room cx 46 (Int.toNat (((0+((((t13.take (Int.toNat (((t13).length:Int) - 1))).drop (Int.toNat 0)):List D).length:Int))+((((t16.take (Int.toNat (((t16).length:Int) - 1))).drop (Int.toNat 0)):List D).length:Int)) - 0)),(decide ((((0+((((t13.take (Int.toNat (((t13).length:Int) - 1))).drop (Int.toNat 0)):List D).length:Int))+((((t16.take (Int.toNat (((t16).length:Int) - 1))).drop (Int.toNat 0)):List D).length:Int)) - 0) > 0))=true,Qa (((0+((((t13.take (Int.toNat (((t13).length:Int) - 1))).drop (Int.toNat 0)):List D).length:Int))+((((t16.take (Int.toNat (((t16).length:Int) - 1))).drop (Int.toNat 0)):List D).length:Int)) - 0),Qa 0,(decide (((0+((((t13.take (Int.toNat (((t13).length:Int) - 1))).drop (Int.toNat 0)):List D).length:Int))+((((t16.take (Int.toNat (((t16).length:Int) - 1))).drop (Int.toNat 0)):List D).length:Int)) < 0))=false,Qa 2,(decide (((0+((((t13.take (Int.toNat (((t13).length:Int) - 1))).drop (Int.toNat 0)):List D).length:Int))+((((t16.take (Int.toNat (((t16).length:Int) - 1))).drop (Int.toNat 0)):List D).length:Int)) < 0))=false,Qa ((0+((((t13.take (Int.toNat (((t13).length:Int) - 1))).drop (Int.toNat 0)):List D).length:Int))+((((t16.take (Int.toNat (((t16).length:Int) - 1))).drop (Int.toNat 0)):List D).length:Int)),Qa 1,(decide ((0+((((t13.take (Int.toNat (((t13).length:Int) - 1))).drop (Int.toNat 0)):List D).length:Int)) < 0))=false,Qa (0+((((t13.take (Int.toNat (((t13).length:Int) - 1))).drop (Int.toNat 0)):List D).length:Int)),(0:Int)≤0∧0≤(((t16).length:Int) - 1)∧(((t16).length:Int) - 1)≤((t16).length:Int)∧(t16=[] ∨ 2=2),Qa (((t16).length:Int) - 1),(0:Int)≤0∧0≤(((t13).length:Int) - 1)∧(((t13).length:Int) - 1)≤((t13).length:Int)∧(t13=[] ∨ 2=2),Qa (((t13).length:Int) - 1),QA cx (Ql cx.P 44 0) 44 161 false [(3,.own 166 0),(7,.own 29 0),(8,.d (I ((t15).length:Int))),(9,.d (I 0))] [(29,.row 0 2 t15),(50,.row 0 2 t13),(166,.row 0 2 [])] (.exit 0) [(3,.own 166 0)] [(29,.row 0 2 t15),(50,.row 0 2 t13),(166,.row 0 2 t16)],QA cx (Ql cx.P 45 0) 28 117 false [(0,.own 29 0),(2,.d (I 0)),(3,.d (I (((t11).length:Int) - 1)))] [(29,.row 0 2 t11),(50,.row 0 2 t13)] (.exit 0) [] [(29,.row 0 2 t15),(50,.row 0 2 t13)],Qa (((t11).length:Int) - 1),QA cx (Ql cx.P 44 0) 44 45 false [(3,.own 50 0),(7,.own 29 0),(8,.d (I ((t11).length:Int))),(9,.d (I 0))] [(29,.row 0 2 t11),(50,.row 0 2 [])] (.exit 0) [(3,.own 50 0)] [(29,.row 0 2 t11),(50,.row 0 2 t13)],(decide (((t11).length:Int) < 2))=true,ZR cx 41 2 a0 [.fn (.func 42) [] []] t11,a0≠[],Qu a0=false,room cx 46 (0+(a0).length),a0≠[],(t6 != 0)=false,Computes cx 36 [.lst false 1 t5] (I t6),Computes cx 38 [.lst false 2 a0,.fn (.func 39) [] []] (.lst false 1 t5),(t3 != 0)=false,Computes cx 36 [.lst true 1 [I t1,I t2]] (I t3),Computes cx 37 [B (decide (((a0).length:Int) > 64)),I 5] (I t2),Computes cx 37 [B (((a0).length:Int) == 0),I 12] (I t1)]):=by kernel_rfl
theorem zB (a0:List D) (t1:Int) (t2:Int) (t3:Int) (t5:List D) (t6:Int) (t11:List D) (t13:List D) (t15:List D) (t16:List D) (t31:Int) (t32:Int) (t33:Int):QR true 100 cx 6 [.lst false 2 a0] [.ret (I t1),.ret (I t2),.ret (I t3),.br false,.ret (.lst false 1 t5),.ret (I t6),.br false,.br true,.no,.br true,.br false,.obj (some 29) (.d (.tup [])) [.row 2 t11] [],.br true,.br true,.br true,.lp [3,2] [3,7,8,9] [29,50] (.exit 0) [(3,.own 50 0)] [(29,.row 0 2 t11),(50,.row 0 2 t13)] 113,.br true,.lp [] [0,2,3] [29,50] (.exit 0) [] [(29,.row 0 2 t15),(50,.row 0 2 t13)] 158,.br true,.lp [3,2] [3,7,8,9] [29,50,166] (.exit 0) [(3,.own 166 0)] [(29,.row 0 2 t15),(50,.row 0 2 t13),(166,.row 0 2 t16)] 229,.lp [] [] [50,166] .ret [] [] 0,.br true,.br true,.no,.no,.no,.no,.br false,.no,.no,.no,.br false,.no,.no,.br true,.br false,.br true,.no,.br true,.ix 0,.br true,.no,.no,.no,.br true,.no,.no,.no,.br true,.no,.no,.ret (I t31),.ret (I t32),.ret (I t33),.br true]=some (.tup [.lst true 0 [],I t33],[(t33 != 0)=true,Computes cx 36 [.lst true 1 [I t31,I t32]] (I t33),Computes cx 37 [B (decide ((((((t13.take (Int.toNat (((t13).length:Int) - 1))).drop (Int.toNat 0))++(((t16.take (Int.toNat (((t16).length:Int) - 1))).drop (Int.toNat 0)):List D)):List D).length:Int) > 16)),I 5] (I t32),Computes cx 37 [B (decide ((((((t13.take (Int.toNat (((t13).length:Int) - 1))).drop (Int.toNat 0))++(((t16.take (Int.toNat (((t16).length:Int) - 1))).drop (Int.toNat 0)):List D)):List D).length:Int) < 3)),I 17] (I t31),Qa 2,room cx 46 ((((t13.take (Int.toNat (((t13).length:Int) - 1))).drop (Int.toNat 0)):List D).length+(((t16.take (Int.toNat (((t16).length:Int) - 1))).drop (Int.toNat 0)):List D).length),Qa 1,room cx 46 (0+(((t13.take (Int.toNat (((t13).length:Int) - 1))).drop (Int.toNat 0)):List D).length),(0:Int)≤0∧0≤(((List.replicate (Int.toNat (((0+((((t13.take (Int.toNat (((t13).length:Int) - 1))).drop (Int.toNat 0)):List D).length:Int))+((((t16.take (Int.toNat (((t16).length:Int) - 1))).drop (Int.toNat 0)):List D).length:Int)) - 0)) (.agg [I 0,I 0]:D)):List D).length:Int),0 < (((0+((((t13.take (Int.toNat (((t13).length:Int) - 1))).drop (Int.toNat 0)):List D).length:Int))+((((t16.take (Int.toNat (((t16).length:Int) - 1))).drop (Int.toNat 0)):List D).length:Int)) - 0)∧room cx 46 (Int.toNat (((0+((((t13.take (Int.toNat (((t13).length:Int) - 1))).drop (Int.toNat 0)):List D).length:Int))+((((t16.take (Int.toNat (((t16).length:Int) - 1))).drop (Int.toNat 0)):List D).length:Int)) - 0)),(decide ((((0+((((t13.take (Int.toNat (((t13).length:Int) - 1))).drop (Int.toNat 0)):List D).length:Int))+((((t16.take (Int.toNat (((t16).length:Int) - 1))).drop (Int.toNat 0)):List D).length:Int)) - 0) > 0))=true,Qa (((0+((((t13.take (Int.toNat (((t13).length:Int) - 1))).drop (Int.toNat 0)):List D).length:Int))+((((t16.take (Int.toNat (((t16).length:Int) - 1))).drop (Int.toNat 0)):List D).length:Int)) - 0),Qa 0,(decide (((0+((((t13.take (Int.toNat (((t13).length:Int) - 1))).drop (Int.toNat 0)):List D).length:Int))+((((t16.take (Int.toNat (((t16).length:Int) - 1))).drop (Int.toNat 0)):List D).length:Int)) < 0))=false,Qa 2,(decide (((0+((((t13.take (Int.toNat (((t13).length:Int) - 1))).drop (Int.toNat 0)):List D).length:Int))+((((t16.take (Int.toNat (((t16).length:Int) - 1))).drop (Int.toNat 0)):List D).length:Int)) < 0))=false,Qa ((0+((((t13.take (Int.toNat (((t13).length:Int) - 1))).drop (Int.toNat 0)):List D).length:Int))+((((t16.take (Int.toNat (((t16).length:Int) - 1))).drop (Int.toNat 0)):List D).length:Int)),Qa 1,(decide ((0+((((t13.take (Int.toNat (((t13).length:Int) - 1))).drop (Int.toNat 0)):List D).length:Int)) < 0))=false,Qa (0+((((t13.take (Int.toNat (((t13).length:Int) - 1))).drop (Int.toNat 0)):List D).length:Int)),(0:Int)≤0∧0≤(((t16).length:Int) - 1)∧(((t16).length:Int) - 1)≤((t16).length:Int)∧(t16=[] ∨ 2=2),Qa (((t16).length:Int) - 1),(0:Int)≤0∧0≤(((t13).length:Int) - 1)∧(((t13).length:Int) - 1)≤((t13).length:Int)∧(t13=[] ∨ 2=2),Qa (((t13).length:Int) - 1),QA cx (Ql cx.P 44 0) 44 161 false [(3,.own 166 0),(7,.own 29 0),(8,.d (I ((t15).length:Int))),(9,.d (I 0))] [(29,.row 0 2 t15),(50,.row 0 2 t13),(166,.row 0 2 [])] (.exit 0) [(3,.own 166 0)] [(29,.row 0 2 t15),(50,.row 0 2 t13),(166,.row 0 2 t16)],QA cx (Ql cx.P 45 0) 28 117 false [(0,.own 29 0),(2,.d (I 0)),(3,.d (I (((t11).length:Int) - 1)))] [(29,.row 0 2 t11),(50,.row 0 2 t13)] (.exit 0) [] [(29,.row 0 2 t15),(50,.row 0 2 t13)],Qa (((t11).length:Int) - 1),QA cx (Ql cx.P 44 0) 44 45 false [(3,.own 50 0),(7,.own 29 0),(8,.d (I ((t11).length:Int))),(9,.d (I 0))] [(29,.row 0 2 t11),(50,.row 0 2 [])] (.exit 0) [(3,.own 50 0)] [(29,.row 0 2 t11),(50,.row 0 2 t13)],(decide (((t11).length:Int) < 2))=true,ZR cx 41 2 a0 [.fn (.func 42) [] []] t11,a0≠[],Qu a0=false,room cx 46 (0+(a0).length),a0≠[],(t6 != 0)=false,Computes cx 36 [.lst false 1 t5] (I t6),Computes cx 38 [.lst false 2 a0,.fn (.func 39) [] []] (.lst false 1 t5),(t3 != 0)=false,Computes cx 36 [.lst true 1 [I t1,I t2]] (I t3),Computes cx 37 [B (decide (((a0).length:Int) > 64)),I 5] (I t2),Computes cx 37 [B (((a0).length:Int) == 0),I 12] (I t1)]):=by kernel_rfl
theorem zA (a0:List D) (t1:Int) (t2:Int) (t3:Int) (t5:List D) (t6:Int) (t11:List D) (t13:List D) (t15:List D) (t16:List D) (t31:Int) (t32:Int) (t33:Int):QR true 100 cx 6 [.lst false 2 a0] [.ret (I t1),.ret (I t2),.ret (I t3),.br false,.ret (.lst false 1 t5),.ret (I t6),.br false,.br true,.no,.br true,.br false,.obj (some 29) (.d (.tup [])) [.row 2 t11] [],.br true,.br true,.br true,.lp [3,2] [3,7,8,9] [29,50] (.exit 0) [(3,.own 50 0)] [(29,.row 0 2 t11),(50,.row 0 2 t13)] 113,.br true,.lp [] [0,2,3] [29,50] (.exit 0) [] [(29,.row 0 2 t15),(50,.row 0 2 t13)] 158,.br true,.lp [3,2] [3,7,8,9] [29,50,166] (.exit 0) [(3,.own 166 0)] [(29,.row 0 2 t15),(50,.row 0 2 t13),(166,.row 0 2 t16)] 229,.lp [] [] [50,166] .ret [] [] 0,.br true,.br true,.no,.no,.no,.no,.br false,.no,.no,.no,.br false,.no,.no,.br true,.br false,.br false,.no,.no,.no,.br true,.br true,.no,.no,.no,.br true,.br true,.no,.no,.ret (I t31),.ret (I t32),.ret (I t33),.br false]=some (.tup [.lst true 2 [],I 0],[(t33 != 0)=false,Computes cx 36 [.lst true 1 [I t31,I t32]] (I t33),Computes cx 37 [B false,I 5] (I t32),Computes cx 37 [B true,I 17] (I t31),Qa 2,Qu ((t16.take (Int.toNat (((t16).length:Int) - 1))).drop (Int.toNat 0))=true,room cx 46 (0+(((t16.take (Int.toNat (((t16).length:Int) - 1))).drop (Int.toNat 0)):List D).length),Qa 1,Qu ((t13.take (Int.toNat (((t13).length:Int) - 1))).drop (Int.toNat 0))=true,room cx 46 (0+(((t13.take (Int.toNat (((t13).length:Int) - 1))).drop (Int.toNat 0)):List D).length),(decide ((((0+((((t13.take (Int.toNat (((t13).length:Int) - 1))).drop (Int.toNat 0)):List D).length:Int))+((((t16.take (Int.toNat (((t16).length:Int) - 1))).drop (Int.toNat 0)):List D).length:Int)) - 0) > 0))=false,Qa (((0+((((t13.take (Int.toNat (((t13).length:Int) - 1))).drop (Int.toNat 0)):List D).length:Int))+((((t16.take (Int.toNat (((t16).length:Int) - 1))).drop (Int.toNat 0)):List D).length:Int)) - 0),Qa 0,(decide (((0+((((t13.take (Int.toNat (((t13).length:Int) - 1))).drop (Int.toNat 0)):List D).length:Int))+((((t16.take (Int.toNat (((t16).length:Int) - 1))).drop (Int.toNat 0)):List D).length:Int)) < 0))=false,Qa 2,(decide (((0+((((t13.take (Int.toNat (((t13).length:Int) - 1))).drop (Int.toNat 0)):List D).length:Int))+((((t16.take (Int.toNat (((t16).length:Int) - 1))).drop (Int.toNat 0)):List D).length:Int)) < 0))=false,Qa ((0+((((t13.take (Int.toNat (((t13).length:Int) - 1))).drop (Int.toNat 0)):List D).length:Int))+((((t16.take (Int.toNat (((t16).length:Int) - 1))).drop (Int.toNat 0)):List D).length:Int)),Qa 1,(decide ((0+((((t13.take (Int.toNat (((t13).length:Int) - 1))).drop (Int.toNat 0)):List D).length:Int)) < 0))=false,Qa (0+((((t13.take (Int.toNat (((t13).length:Int) - 1))).drop (Int.toNat 0)):List D).length:Int)),(0:Int)≤0∧0≤(((t16).length:Int) - 1)∧(((t16).length:Int) - 1)≤((t16).length:Int)∧(t16=[] ∨ 2=2),Qa (((t16).length:Int) - 1),(0:Int)≤0∧0≤(((t13).length:Int) - 1)∧(((t13).length:Int) - 1)≤((t13).length:Int)∧(t13=[] ∨ 2=2),Qa (((t13).length:Int) - 1),QA cx (Ql cx.P 44 0) 44 161 false [(3,.own 166 0),(7,.own 29 0),(8,.d (I ((t15).length:Int))),(9,.d (I 0))] [(29,.row 0 2 t15),(50,.row 0 2 t13),(166,.row 0 2 [])] (.exit 0) [(3,.own 166 0)] [(29,.row 0 2 t15),(50,.row 0 2 t13),(166,.row 0 2 t16)],QA cx (Ql cx.P 45 0) 28 117 false [(0,.own 29 0),(2,.d (I 0)),(3,.d (I (((t11).length:Int) - 1)))] [(29,.row 0 2 t11),(50,.row 0 2 t13)] (.exit 0) [] [(29,.row 0 2 t15),(50,.row 0 2 t13)],Qa (((t11).length:Int) - 1),QA cx (Ql cx.P 44 0) 44 45 false [(3,.own 50 0),(7,.own 29 0),(8,.d (I ((t11).length:Int))),(9,.d (I 0))] [(29,.row 0 2 t11),(50,.row 0 2 [])] (.exit 0) [(3,.own 50 0)] [(29,.row 0 2 t11),(50,.row 0 2 t13)],(decide (((t11).length:Int) < 2))=true,ZR cx 41 2 a0 [.fn (.func 42) [] []] t11,a0≠[],Qu a0=false,room cx 46 (0+(a0).length),a0≠[],(t6 != 0)=false,Computes cx 36 [.lst false 1 t5] (I t6),Computes cx 38 [.lst false 2 a0,.fn (.func 39) [] []] (.lst false 1 t5),(t3 != 0)=false,Computes cx 36 [.lst true 1 [I t1,I t2]] (I t3),Computes cx 37 [B (decide (((a0).length:Int) > 64)),I 5] (I t2),Computes cx 37 [B (((a0).length:Int) == 0),I 12] (I t1)]):=by kernel_rfl
theorem zz (a0:List D) (t1:Int) (t2:Int) (t3:Int) (t5:List D) (t6:Int) (t11:List D) (t13:List D) (t15:List D) (t16:List D) (t31:Int) (t32:Int) (t33:Int):QR true 100 cx 6 [.lst false 2 a0] [.ret (I t1),.ret (I t2),.ret (I t3),.br false,.ret (.lst false 1 t5),.ret (I t6),.br false,.br true,.no,.br true,.br false,.obj (some 29) (.d (.tup [])) [.row 2 t11] [],.br true,.br true,.br true,.lp [3,2] [3,7,8,9] [29,50] (.exit 0) [(3,.own 50 0)] [(29,.row 0 2 t11),(50,.row 0 2 t13)] 113,.br true,.lp [] [0,2,3] [29,50] (.exit 0) [] [(29,.row 0 2 t15),(50,.row 0 2 t13)] 158,.br true,.lp [3,2] [3,7,8,9] [29,50,166] (.exit 0) [(3,.own 166 0)] [(29,.row 0 2 t15),(50,.row 0 2 t13),(166,.row 0 2 t16)] 229,.lp [] [] [50,166] .ret [] [] 0,.br true,.br true,.no,.no,.no,.no,.br false,.no,.no,.no,.br false,.no,.no,.br true,.br false,.br false,.no,.no,.no,.br true,.br true,.no,.no,.no,.br true,.br true,.no,.no,.ret (I t31),.ret (I t32),.ret (I t33),.br true]=some (.tup [.lst true 0 [],I t33],[(t33 != 0)=true,Computes cx 36 [.lst true 1 [I t31,I t32]] (I t33),Computes cx 37 [B false,I 5] (I t32),Computes cx 37 [B true,I 17] (I t31),Qa 2,Qu ((t16.take (Int.toNat (((t16).length:Int) - 1))).drop (Int.toNat 0))=true,room cx 46 (0+(((t16.take (Int.toNat (((t16).length:Int) - 1))).drop (Int.toNat 0)):List D).length),Qa 1,Qu ((t13.take (Int.toNat (((t13).length:Int) - 1))).drop (Int.toNat 0))=true,room cx 46 (0+(((t13.take (Int.toNat (((t13).length:Int) - 1))).drop (Int.toNat 0)):List D).length),(decide ((((0+((((t13.take (Int.toNat (((t13).length:Int) - 1))).drop (Int.toNat 0)):List D).length:Int))+((((t16.take (Int.toNat (((t16).length:Int) - 1))).drop (Int.toNat 0)):List D).length:Int)) - 0) > 0))=false,Qa (((0+((((t13.take (Int.toNat (((t13).length:Int) - 1))).drop (Int.toNat 0)):List D).length:Int))+((((t16.take (Int.toNat (((t16).length:Int) - 1))).drop (Int.toNat 0)):List D).length:Int)) - 0),Qa 0,(decide (((0+((((t13.take (Int.toNat (((t13).length:Int) - 1))).drop (Int.toNat 0)):List D).length:Int))+((((t16.take (Int.toNat (((t16).length:Int) - 1))).drop (Int.toNat 0)):List D).length:Int)) < 0))=false,Qa 2,(decide (((0+((((t13.take (Int.toNat (((t13).length:Int) - 1))).drop (Int.toNat 0)):List D).length:Int))+((((t16.take (Int.toNat (((t16).length:Int) - 1))).drop (Int.toNat 0)):List D).length:Int)) < 0))=false,Qa ((0+((((t13.take (Int.toNat (((t13).length:Int) - 1))).drop (Int.toNat 0)):List D).length:Int))+((((t16.take (Int.toNat (((t16).length:Int) - 1))).drop (Int.toNat 0)):List D).length:Int)),Qa 1,(decide ((0+((((t13.take (Int.toNat (((t13).length:Int) - 1))).drop (Int.toNat 0)):List D).length:Int)) < 0))=false,Qa (0+((((t13.take (Int.toNat (((t13).length:Int) - 1))).drop (Int.toNat 0)):List D).length:Int)),(0:Int)≤0∧0≤(((t16).length:Int) - 1)∧(((t16).length:Int) - 1)≤((t16).length:Int)∧(t16=[] ∨ 2=2),Qa (((t16).length:Int) - 1),(0:Int)≤0∧0≤(((t13).length:Int) - 1)∧(((t13).length:Int) - 1)≤((t13).length:Int)∧(t13=[] ∨ 2=2),Qa (((t13).length:Int) - 1),QA cx (Ql cx.P 44 0) 44 161 false [(3,.own 166 0),(7,.own 29 0),(8,.d (I ((t15).length:Int))),(9,.d (I 0))] [(29,.row 0 2 t15),(50,.row 0 2 t13),(166,.row 0 2 [])] (.exit 0) [(3,.own 166 0)] [(29,.row 0 2 t15),(50,.row 0 2 t13),(166,.row 0 2 t16)],QA cx (Ql cx.P 45 0) 28 117 false [(0,.own 29 0),(2,.d (I 0)),(3,.d (I (((t11).length:Int) - 1)))] [(29,.row 0 2 t11),(50,.row 0 2 t13)] (.exit 0) [] [(29,.row 0 2 t15),(50,.row 0 2 t13)],Qa (((t11).length:Int) - 1),QA cx (Ql cx.P 44 0) 44 45 false [(3,.own 50 0),(7,.own 29 0),(8,.d (I ((t11).length:Int))),(9,.d (I 0))] [(29,.row 0 2 t11),(50,.row 0 2 [])] (.exit 0) [(3,.own 50 0)] [(29,.row 0 2 t11),(50,.row 0 2 t13)],(decide (((t11).length:Int) < 2))=true,ZR cx 41 2 a0 [.fn (.func 42) [] []] t11,a0≠[],Qu a0=false,room cx 46 (0+(a0).length),a0≠[],(t6 != 0)=false,Computes cx 36 [.lst false 1 t5] (I t6),Computes cx 38 [.lst false 2 a0,.fn (.func 39) [] []] (.lst false 1 t5),(t3 != 0)=false,Computes cx 36 [.lst true 1 [I t1,I t2]] (I t3),Computes cx 37 [B (decide (((a0).length:Int) > 64)),I 5] (I t2),Computes cx 37 [B (((a0).length:Int) == 0),I 12] (I t1)]):=by kernel_rfl
theorem zy (a0:List D) (t1:Int) (t2:Int) (t3:Int) (t5:List D) (t6:Int) (t11:List D) (t13:List D) (t15:List D) (t16:List D) (t31:Int) (t32:Int) (t33:Int):QR true 100 cx 6 [.lst false 2 a0] [.ret (I t1),.ret (I t2),.ret (I t3),.br false,.ret (.lst false 1 t5),.ret (I t6),.br false,.br true,.no,.br true,.br false,.obj (some 29) (.d (.tup [])) [.row 2 t11] [],.br true,.br true,.br true,.lp [3,2] [3,7,8,9] [29,50] (.exit 0) [(3,.own 50 0)] [(29,.row 0 2 t11),(50,.row 0 2 t13)] 113,.br true,.lp [] [0,2,3] [29,50] (.exit 0) [] [(29,.row 0 2 t15),(50,.row 0 2 t13)] 158,.br true,.lp [3,2] [3,7,8,9] [29,50,166] (.exit 0) [(3,.own 166 0)] [(29,.row 0 2 t15),(50,.row 0 2 t13),(166,.row 0 2 t16)] 229,.lp [] [] [50,166] .ret [] [] 0,.br true,.br true,.no,.no,.no,.no,.br false,.no,.no,.no,.br false,.no,.no,.br true,.br false,.br false,.no,.no,.no,.br true,.br true,.no,.no,.no,.br true,.br false,.no,.no,.ret (I t31),.ret (I t32),.ret (I t33),.br false]=some (.tup [.lst false 2 ((t16.take (Int.toNat (((t16).length:Int) - 1))).drop (Int.toNat 0)),I 0],[(t33 != 0)=false,Computes cx 36 [.lst true 1 [I t31,I t32]] (I t33),Computes cx 37 [B (decide (((((t16.take (Int.toNat (((t16).length:Int) - 1))).drop (Int.toNat 0)):List D).length:Int) > 16)),I 5] (I t32),Computes cx 37 [B (decide (((((t16.take (Int.toNat (((t16).length:Int) - 1))).drop (Int.toNat 0)):List D).length:Int) < 3)),I 17] (I t31),Qa 2,Qu ((t16.take (Int.toNat (((t16).length:Int) - 1))).drop (Int.toNat 0))=false,room cx 46 (0+(((t16.take (Int.toNat (((t16).length:Int) - 1))).drop (Int.toNat 0)):List D).length),Qa 1,Qu ((t13.take (Int.toNat (((t13).length:Int) - 1))).drop (Int.toNat 0))=true,room cx 46 (0+(((t13.take (Int.toNat (((t13).length:Int) - 1))).drop (Int.toNat 0)):List D).length),(decide ((((0+((((t13.take (Int.toNat (((t13).length:Int) - 1))).drop (Int.toNat 0)):List D).length:Int))+((((t16.take (Int.toNat (((t16).length:Int) - 1))).drop (Int.toNat 0)):List D).length:Int)) - 0) > 0))=false,Qa (((0+((((t13.take (Int.toNat (((t13).length:Int) - 1))).drop (Int.toNat 0)):List D).length:Int))+((((t16.take (Int.toNat (((t16).length:Int) - 1))).drop (Int.toNat 0)):List D).length:Int)) - 0),Qa 0,(decide (((0+((((t13.take (Int.toNat (((t13).length:Int) - 1))).drop (Int.toNat 0)):List D).length:Int))+((((t16.take (Int.toNat (((t16).length:Int) - 1))).drop (Int.toNat 0)):List D).length:Int)) < 0))=false,Qa 2,(decide (((0+((((t13.take (Int.toNat (((t13).length:Int) - 1))).drop (Int.toNat 0)):List D).length:Int))+((((t16.take (Int.toNat (((t16).length:Int) - 1))).drop (Int.toNat 0)):List D).length:Int)) < 0))=false,Qa ((0+((((t13.take (Int.toNat (((t13).length:Int) - 1))).drop (Int.toNat 0)):List D).length:Int))+((((t16.take (Int.toNat (((t16).length:Int) - 1))).drop (Int.toNat 0)):List D).length:Int)),Qa 1,(decide ((0+((((t13.take (Int.toNat (((t13).length:Int) - 1))).drop (Int.toNat 0)):List D).length:Int)) < 0))=false,Qa (0+((((t13.take (Int.toNat (((t13).length:Int) - 1))).drop (Int.toNat 0)):List D).length:Int)),(0:Int)≤0∧0≤(((t16).length:Int) - 1)∧(((t16).length:Int) - 1)≤((t16).length:Int)∧(t16=[] ∨ 2=2),Qa (((t16).length:Int) - 1),(0:Int)≤0∧0≤(((t13).length:Int) - 1)∧(((t13).length:Int) - 1)≤((t13).length:Int)∧(t13=[] ∨ 2=2),Qa (((t13).length:Int) - 1),QA cx (Ql cx.P 44 0) 44 161 false [(3,.own 166 0),(7,.own 29 0),(8,.d (I ((t15).length:Int))),(9,.d (I 0))] [(29,.row 0 2 t15),(50,.row 0 2 t13),(166,.row 0 2 [])] (.exit 0) [(3,.own 166 0)] [(29,.row 0 2 t15),(50,.row 0 2 t13),(166,.row 0 2 t16)],QA cx (Ql cx.P 45 0) 28 117 false [(0,.own 29 0),(2,.d (I 0)),(3,.d (I (((t11).length:Int) - 1)))] [(29,.row 0 2 t11),(50,.row 0 2 t13)] (.exit 0) [] [(29,.row 0 2 t15),(50,.row 0 2 t13)],Qa (((t11).length:Int) - 1),QA cx (Ql cx.P 44 0) 44 45 false [(3,.own 50 0),(7,.own 29 0),(8,.d (I ((t11).length:Int))),(9,.d (I 0))] [(29,.row 0 2 t11),(50,.row 0 2 [])] (.exit 0) [(3,.own 50 0)] [(29,.row 0 2 t11),(50,.row 0 2 t13)],(decide (((t11).length:Int) < 2))=true,ZR cx 41 2 a0 [.fn (.func 42) [] []] t11,a0≠[],Qu a0=false,room cx 46 (0+(a0).length),a0≠[],(t6 != 0)=false,Computes cx 36 [.lst false 1 t5] (I t6),Computes cx 38 [.lst false 2 a0,.fn (.func 39) [] []] (.lst false 1 t5),(t3 != 0)=false,Computes cx 36 [.lst true 1 [I t1,I t2]] (I t3),Computes cx 37 [B (decide (((a0).length:Int) > 64)),I 5] (I t2),Computes cx 37 [B (((a0).length:Int) == 0),I 12] (I t1)]):=by kernel_rfl
theorem zx (a0:List D) (t1:Int) (t2:Int) (t3:Int) (t5:List D) (t6:Int) (t11:List D) (t13:List D) (t15:List D) (t16:List D) (t31:Int) (t32:Int) (t33:Int):QR true 100 cx 6 [.lst false 2 a0] [.ret (I t1),.ret (I t2),.ret (I t3),.br false,.ret (.lst false 1 t5),.ret (I t6),.br false,.br true,.no,.br true,.br false,.obj (some 29) (.d (.tup [])) [.row 2 t11] [],.br true,.br true,.br true,.lp [3,2] [3,7,8,9] [29,50] (.exit 0) [(3,.own 50 0)] [(29,.row 0 2 t11),(50,.row 0 2 t13)] 113,.br true,.lp [] [0,2,3] [29,50] (.exit 0) [] [(29,.row 0 2 t15),(50,.row 0 2 t13)] 158,.br true,.lp [3,2] [3,7,8,9] [29,50,166] (.exit 0) [(3,.own 166 0)] [(29,.row 0 2 t15),(50,.row 0 2 t13),(166,.row 0 2 t16)] 229,.lp [] [] [50,166] .ret [] [] 0,.br true,.br true,.no,.no,.no,.no,.br false,.no,.no,.no,.br false,.no,.no,.br true,.br false,.br false,.no,.no,.no,.br true,.br true,.no,.no,.no,.br true,.br false,.no,.no,.ret (I t31),.ret (I t32),.ret (I t33),.br true]=some (.tup [.lst true 0 [],I t33],[(t33 != 0)=true,Computes cx 36 [.lst true 1 [I t31,I t32]] (I t33),Computes cx 37 [B (decide (((((t16.take (Int.toNat (((t16).length:Int) - 1))).drop (Int.toNat 0)):List D).length:Int) > 16)),I 5] (I t32),Computes cx 37 [B (decide (((((t16.take (Int.toNat (((t16).length:Int) - 1))).drop (Int.toNat 0)):List D).length:Int) < 3)),I 17] (I t31),Qa 2,Qu ((t16.take (Int.toNat (((t16).length:Int) - 1))).drop (Int.toNat 0))=false,room cx 46 (0+(((t16.take (Int.toNat (((t16).length:Int) - 1))).drop (Int.toNat 0)):List D).length),Qa 1,Qu ((t13.take (Int.toNat (((t13).length:Int) - 1))).drop (Int.toNat 0))=true,room cx 46 (0+(((t13.take (Int.toNat (((t13).length:Int) - 1))).drop (Int.toNat 0)):List D).length),(decide ((((0+((((t13.take (Int.toNat (((t13).length:Int) - 1))).drop (Int.toNat 0)):List D).length:Int))+((((t16.take (Int.toNat (((t16).length:Int) - 1))).drop (Int.toNat 0)):List D).length:Int)) - 0) > 0))=false,Qa (((0+((((t13.take (Int.toNat (((t13).length:Int) - 1))).drop (Int.toNat 0)):List D).length:Int))+((((t16.take (Int.toNat (((t16).length:Int) - 1))).drop (Int.toNat 0)):List D).length:Int)) - 0),Qa 0,(decide (((0+((((t13.take (Int.toNat (((t13).length:Int) - 1))).drop (Int.toNat 0)):List D).length:Int))+((((t16.take (Int.toNat (((t16).length:Int) - 1))).drop (Int.toNat 0)):List D).length:Int)) < 0))=false,Qa 2,(decide (((0+((((t13.take (Int.toNat (((t13).length:Int) - 1))).drop (Int.toNat 0)):List D).length:Int))+((((t16.take (Int.toNat (((t16).length:Int) - 1))).drop (Int.toNat 0)):List D).length:Int)) < 0))=false,Qa ((0+((((t13.take (Int.toNat (((t13).length:Int) - 1))).drop (Int.toNat 0)):List D).length:Int))+((((t16.take (Int.toNat (((t16).length:Int) - 1))).drop (Int.toNat 0)):List D).length:Int)),Qa 1,(decide ((0+((((t13.take (Int.toNat (((t13).length:Int) - 1))).drop (Int.toNat 0)):List D).length:Int)) < 0))=false,Qa (0+((((t13.take (Int.toNat (((t13).length:Int) - 1))).drop (Int.toNat 0)):List D).length:Int)),(0:Int)≤0∧0≤(((t16).length:Int) - 1)∧(((t16).length:Int) - 1)≤((t16).length:Int)∧(t16=[] ∨ 2=2),Qa (((t16).length:Int) - 1),(0:Int)≤0∧0≤(((t13).length:Int) - 1)∧(((t13).length:Int) - 1)≤((t13).length:Int)∧(t13=[] ∨ 2=2),Qa (((t13).length:Int) - 1),QA cx (Ql cx.P 44 0) 44 161 false [(3,.own 166 0),(7,.own 29 0),(8,.d (I ((t15).length:Int))),(9,.d (I 0))] [(29,.row 0 2 t15),(50,.row 0 2 t13),(166,.row 0 2 [])] (.exit 0) [(3,.own 166 0)] [(29,.row 0 2 t15),(50,.row 0 2 t13),(166,.row 0 2 t16)],QA cx (Ql cx.P 45 0) 28 117 false [(0,.own 29 0),(2,.d (I 0)),(3,.d (I (((t11).length:Int) - 1)))] [(29,.row 0 2 t11),(50,.row 0 2 t13)] (.exit 0) [] [(29,.row 0 2 t15),(50,.row 0 2 t13)],Qa (((t11).length:Int) - 1),QA cx (Ql cx.P 44 0) 44 45 false [(3,.own 50 0),(7,.own 29 0),(8,.d (I ((t11).length:Int))),(9,.d (I 0))] [(29,.row 0 2 t11),(50,.row 0 2 [])] (.exit 0) [(3,.own 50 0)] [(29,.row 0 2 t11),(50,.row 0 2 t13)],(decide (((t11).length:Int) < 2))=true,ZR cx 41 2 a0 [.fn (.func 42) [] []] t11,a0≠[],Qu a0=false,room cx 46 (0+(a0).length),a0≠[],(t6 != 0)=false,Computes cx 36 [.lst false 1 t5] (I t6),Computes cx 38 [.lst false 2 a0,.fn (.func 39) [] []] (.lst false 1 t5),(t3 != 0)=false,Computes cx 36 [.lst true 1 [I t1,I t2]] (I t3),Computes cx 37 [B (decide (((a0).length:Int) > 64)),I 5] (I t2),Computes cx 37 [B (((a0).length:Int) == 0),I 12] (I t1)]):=by kernel_rfl
theorem zw (a0:List D) (t1:Int) (t2:Int) (t3:Int) (t5:List D) (t6:Int) (t11:List D) (t13:List D) (t15:List D) (t16:List D) (t30:Int) (t31:Int) (t32:Int):QR true 100 cx 6 [.lst false 2 a0] [.ret (I t1),.ret (I t2),.ret (I t3),.br false,.ret (.lst false 1 t5),.ret (I t6),.br false,.br true,.no,.br true,.br false,.obj (some 29) (.d (.tup [])) [.row 2 t11] [],.br true,.br true,.br true,.lp [3,2] [3,7,8,9] [29,50] (.exit 0) [(3,.own 50 0)] [(29,.row 0 2 t11),(50,.row 0 2 t13)] 113,.br true,.lp [] [0,2,3] [29,50] (.exit 0) [] [(29,.row 0 2 t15),(50,.row 0 2 t13)] 158,.br true,.lp [3,2] [3,7,8,9] [29,50,166] (.exit 0) [(3,.own 166 0)] [(29,.row 0 2 t15),(50,.row 0 2 t13),(166,.row 0 2 t16)] 229,.lp [] [] [50,166] .ret [] [] 0,.br true,.br true,.no,.no,.no,.no,.br false,.no,.no,.no,.br false,.no,.no,.br true,.br false,.br false,.no,.no,.no,.br true,.br false,.no,.no,.no,.br true,.no,.no,.ret (I t30),.ret (I t31),.ret (I t32),.br false]=some (.tup [.lst false 2 (((t13.take (Int.toNat (((t13).length:Int) - 1))).drop (Int.toNat 0))++(((t16.take (Int.toNat (((t16).length:Int) - 1))).drop (Int.toNat 0)):List D)),I 0],[(t32 != 0)=false,Computes cx 36 [.lst true 1 [I t30,I t31]] (I t32),Computes cx 37 [B (decide ((((((t13.take (Int.toNat (((t13).length:Int) - 1))).drop (Int.toNat 0))++(((t16.take (Int.toNat (((t16).length:Int) - 1))).drop (Int.toNat 0)):List D)):List D).length:Int) > 16)),I 5] (I t31),Computes cx 37 [B (decide ((((((t13.take (Int.toNat (((t13).length:Int) - 1))).drop (Int.toNat 0))++(((t16.take (Int.toNat (((t16).length:Int) - 1))).drop (Int.toNat 0)):List D)):List D).length:Int) < 3)),I 17] (I t30),Qa 2,room cx 46 ((((t13.take (Int.toNat (((t13).length:Int) - 1))).drop (Int.toNat 0)):List D).length+(((t16.take (Int.toNat (((t16).length:Int) - 1))).drop (Int.toNat 0)):List D).length),Qa 1,Qu ((t13.take (Int.toNat (((t13).length:Int) - 1))).drop (Int.toNat 0))=false,room cx 46 (0+(((t13.take (Int.toNat (((t13).length:Int) - 1))).drop (Int.toNat 0)):List D).length),(decide ((((0+((((t13.take (Int.toNat (((t13).length:Int) - 1))).drop (Int.toNat 0)):List D).length:Int))+((((t16.take (Int.toNat (((t16).length:Int) - 1))).drop (Int.toNat 0)):List D).length:Int)) - 0) > 0))=false,Qa (((0+((((t13.take (Int.toNat (((t13).length:Int) - 1))).drop (Int.toNat 0)):List D).length:Int))+((((t16.take (Int.toNat (((t16).length:Int) - 1))).drop (Int.toNat 0)):List D).length:Int)) - 0),Qa 0,(decide (((0+((((t13.take (Int.toNat (((t13).length:Int) - 1))).drop (Int.toNat 0)):List D).length:Int))+((((t16.take (Int.toNat (((t16).length:Int) - 1))).drop (Int.toNat 0)):List D).length:Int)) < 0))=false,Qa 2,(decide (((0+((((t13.take (Int.toNat (((t13).length:Int) - 1))).drop (Int.toNat 0)):List D).length:Int))+((((t16.take (Int.toNat (((t16).length:Int) - 1))).drop (Int.toNat 0)):List D).length:Int)) < 0))=false,Qa ((0+((((t13.take (Int.toNat (((t13).length:Int) - 1))).drop (Int.toNat 0)):List D).length:Int))+((((t16.take (Int.toNat (((t16).length:Int) - 1))).drop (Int.toNat 0)):List D).length:Int)),Qa 1,(decide ((0+((((t13.take (Int.toNat (((t13).length:Int) - 1))).drop (Int.toNat 0)):List D).length:Int)) < 0))=false,Qa (0+((((t13.take (Int.toNat (((t13).length:Int) - 1))).drop (Int.toNat 0)):List D).length:Int)),(0:Int)≤0∧0≤(((t16).length:Int) - 1)∧(((t16).length:Int) - 1)≤((t16).length:Int)∧(t16=[] ∨ 2=2),Qa (((t16).length:Int) - 1),(0:Int)≤0∧0≤(((t13).length:Int) - 1)∧(((t13).length:Int) - 1)≤((t13).length:Int)∧(t13=[] ∨ 2=2),Qa (((t13).length:Int) - 1),QA cx (Ql cx.P 44 0) 44 161 false [(3,.own 166 0),(7,.own 29 0),(8,.d (I ((t15).length:Int))),(9,.d (I 0))] [(29,.row 0 2 t15),(50,.row 0 2 t13),(166,.row 0 2 [])] (.exit 0) [(3,.own 166 0)] [(29,.row 0 2 t15),(50,.row 0 2 t13),(166,.row 0 2 t16)],QA cx (Ql cx.P 45 0) 28 117 false [(0,.own 29 0),(2,.d (I 0)),(3,.d (I (((t11).length:Int) - 1)))] [(29,.row 0 2 t11),(50,.row 0 2 t13)] (.exit 0) [] [(29,.row 0 2 t15),(50,.row 0 2 t13)],Qa (((t11).length:Int) - 1),QA cx (Ql cx.P 44 0) 44 45 false [(3,.own 50 0),(7,.own 29 0),(8,.d (I ((t11).length:Int))),(9,.d (I 0))] [(29,.row 0 2 t11),(50,.row 0 2 [])] (.exit 0) [(3,.own 50 0)] [(29,.row 0 2 t11),(50,.row 0 2 t13)],(decide (((t11).length:Int) < 2))=true,ZR cx 41 2 a0 [.fn (.func 42) [] []] t11,a0≠[],Qu a0=false,room cx 46 (0+(a0).length),a0≠[],(t6 != 0)=false,Computes cx 36 [.lst false 1 t5] (I t6),Computes cx 38 [.lst false 2 a0,.fn (.func 39) [] []] (.lst false 1 t5),(t3 != 0)=false,Computes cx 36 [.lst true 1 [I t1,I t2]] (I t3),Computes cx 37 [B (decide (((a0).length:Int) > 64)),I 5] (I t2),Computes cx 37 [B (((a0).length:Int) == 0),I 12] (I t1)]):=by kernel_rfl
theorem qb (a0:List D) (t1:Int) (t2:Int) (t3:Int) (t5:List D) (t6:Int) (t11:List D) (t13:List D) (t15:List D) (t16:List D) (t30:Int) (t31:Int) (t32:Int):QR true 100 cx 6 [.lst false 2 a0] [.ret (I t1),.ret (I t2),.ret (I t3),.br false,.ret (.lst false 1 t5),.ret (I t6),.br false,.br true,.no,.br true,.br false,.obj (some 29) (.d (.tup [])) [.row 2 t11] [],.br true,.br true,.br true,.lp [3,2] [3,7,8,9] [29,50] (.exit 0) [(3,.own 50 0)] [(29,.row 0 2 t11),(50,.row 0 2 t13)] 113,.br true,.lp [] [0,2,3] [29,50] (.exit 0) [] [(29,.row 0 2 t15),(50,.row 0 2 t13)] 158,.br true,.lp [3,2] [3,7,8,9] [29,50,166] (.exit 0) [(3,.own 166 0)] [(29,.row 0 2 t15),(50,.row 0 2 t13),(166,.row 0 2 t16)] 229,.lp [] [] [50,166] .ret [] [] 0,.br true,.br true,.no,.no,.no,.no,.br false,.no,.no,.no,.br false,.no,.no,.br true,.br false,.br false,.no,.no,.no,.br true,.br false,.no,.no,.no,.br true,.no,.no,.ret (I t30),.ret (I t31),.ret (I t32),.br true]=some (.tup [.lst true 0 [],I t32],[(t32 != 0)=true,Computes cx 36 [.lst true 1 [I t30,I t31]] (I t32),Computes cx 37 [B (decide ((((((t13.take (Int.toNat (((t13).length:Int) - 1))).drop (Int.toNat 0))++(((t16.take (Int.toNat (((t16).length:Int) - 1))).drop (Int.toNat 0)):List D)):List D).length:Int) > 16)),I 5] (I t31),Computes cx 37 [B (decide ((((((t13.take (Int.toNat (((t13).length:Int) - 1))).drop (Int.toNat 0))++(((t16.take (Int.toNat (((t16).length:Int) - 1))).drop (Int.toNat 0)):List D)):List D).length:Int) < 3)),I 17] (I t30),Qa 2,room cx 46 ((((t13.take (Int.toNat (((t13).length:Int) - 1))).drop (Int.toNat 0)):List D).length+(((t16.take (Int.toNat (((t16).length:Int) - 1))).drop (Int.toNat 0)):List D).length),Qa 1,Qu ((t13.take (Int.toNat (((t13).length:Int) - 1))).drop (Int.toNat 0))=false,room cx 46 (0+(((t13.take (Int.toNat (((t13).length:Int) - 1))).drop (Int.toNat 0)):List D).length),(decide ((((0+((((t13.take (Int.toNat (((t13).length:Int) - 1))).drop (Int.toNat 0)):List D).length:Int))+((((t16.take (Int.toNat (((t16).length:Int) - 1))).drop (Int.toNat 0)):List D).length:Int)) - 0) > 0))=false,Qa (((0+((((t13.take (Int.toNat (((t13).length:Int) - 1))).drop (Int.toNat 0)):List D).length:Int))+((((t16.take (Int.toNat (((t16).length:Int) - 1))).drop (Int.toNat 0)):List D).length:Int)) - 0),Qa 0,(decide (((0+((((t13.take (Int.toNat (((t13).length:Int) - 1))).drop (Int.toNat 0)):List D).length:Int))+((((t16.take (Int.toNat (((t16).length:Int) - 1))).drop (Int.toNat 0)):List D).length:Int)) < 0))=false,Qa 2,(decide (((0+((((t13.take (Int.toNat (((t13).length:Int) - 1))).drop (Int.toNat 0)):List D).length:Int))+((((t16.take (Int.toNat (((t16).length:Int) - 1))).drop (Int.toNat 0)):List D).length:Int)) < 0))=false,Qa ((0+((((t13.take (Int.toNat (((t13).length:Int) - 1))).drop (Int.toNat 0)):List D).length:Int))+((((t16.take (Int.toNat (((t16).length:Int) - 1))).drop (Int.toNat 0)):List D).length:Int)),Qa 1,(decide ((0+((((t13.take (Int.toNat (((t13).length:Int) - 1))).drop (Int.toNat 0)):List D).length:Int)) < 0))=false,Qa (0+((((t13.take (Int.toNat (((t13).length:Int) - 1))).drop (Int.toNat 0)):List D).length:Int)),(0:Int)≤0∧0≤(((t16).length:Int) - 1)∧(((t16).length:Int) - 1)≤((t16).length:Int)∧(t16=[] ∨ 2=2),Qa (((t16).length:Int) - 1),(0:Int)≤0∧0≤(((t13).length:Int) - 1)∧(((t13).length:Int) - 1)≤((t13).length:Int)∧(t13=[] ∨ 2=2),Qa (((t13).length:Int) - 1),QA cx (Ql cx.P 44 0) 44 161 false [(3,.own 166 0),(7,.own 29 0),(8,.d (I ((t15).length:Int))),(9,.d (I 0))] [(29,.row 0 2 t15),(50,.row 0 2 t13),(166,.row 0 2 [])] (.exit 0) [(3,.own 166 0)] [(29,.row 0 2 t15),(50,.row 0 2 t13),(166,.row 0 2 t16)],QA cx (Ql cx.P 45 0) 28 117 false [(0,.own 29 0),(2,.d (I 0)),(3,.d (I (((t11).length:Int) - 1)))] [(29,.row 0 2 t11),(50,.row 0 2 t13)] (.exit 0) [] [(29,.row 0 2 t15),(50,.row 0 2 t13)],Qa (((t11).length:Int) - 1),QA cx (Ql cx.P 44 0) 44 45 false [(3,.own 50 0),(7,.own 29 0),(8,.d (I ((t11).length:Int))),(9,.d (I 0))] [(29,.row 0 2 t11),(50,.row 0 2 [])] (.exit 0) [(3,.own 50 0)] [(29,.row 0 2 t11),(50,.row 0 2 t13)],(decide (((t11).length:Int) < 2))=true,ZR cx 41 2 a0 [.fn (.func 42) [] []] t11,a0≠[],Qu a0=false,room cx 46 (0+(a0).length),a0≠[],(t6 != 0)=false,Computes cx 36 [.lst false 1 t5] (I t6),Computes cx 38 [.lst false 2 a0,.fn (.func 39) [] []] (.lst false 1 t5),(t3 != 0)=false,Computes cx 36 [.lst true 1 [I t1,I t2]] (I t3),Computes cx 37 [B (decide (((a0).length:Int) > 64)),I 5] (I t2),Computes cx 37 [B (((a0).length:Int) == 0),I 12] (I t1)]):=by kernel_rfl
theorem qa (a0:List D) (t1:Int) (t2:Int) (t3:Int) (t5:List D) (t6:Int) (t11:List D) (t13:List D) (t14:List D) (t16:List D) (t17:List D) (t32:Int) (t33:Int) (t34:Int):QR true 100 cx 6 [.lst false 2 a0] [.ret (I t1),.ret (I t2),.ret (I t3),.br false,.ret (.lst false 1 t5),.ret (I t6),.br false,.br true,.no,.br true,.br false,.obj (some 29) (.d (.tup [])) [.row 2 t11] [],.br true,.br false,.lp [] [0,3] [29] .ret [(2,.own 29 1)] [(29,.row 1 2 t13)] 118,.br true,.lp [3,2] [3,7,8,9] [29,126] (.exit 0) [(3,.own 126 0)] [(29,.row 1 2 t13),(126,.row 0 2 t14)] 189,.br true,.lp [] [0,2,3] [29,126] (.exit 0) [] [(29,.row 1 2 t16),(126,.row 0 2 t14)] 234,.br true,.lp [3,2] [3,7,8,9] [29,126,242] (.exit 0) [(3,.own 242 0)] [(29,.row 1 2 t16),(126,.row 0 2 t14),(242,.row 0 2 t17)] 305,.lp [] [] [126,242] .ret [] [] 0,.br true,.br true,.no,.no,.no,.no,.br false,.no,.no,.no,.br false,.no,.no,.br true,.br false,.br true,.no,.br true,.ix 0,.br true,.no,.no,.no,.br true,.no,.no,.no,.br true,.no,.no,.ret (I t32),.ret (I t33),.ret (I t34),.br false]=some (.tup [.lst false 2 (((t14.take (Int.toNat (((t14).length:Int) - 1))).drop (Int.toNat 0))++(((t17.take (Int.toNat (((t17).length:Int) - 1))).drop (Int.toNat 0)):List D)),I 0],[(t34 != 0)=false,Computes cx 36 [.lst true 1 [I t32,I t33]] (I t34),Computes cx 37 [B (decide ((((((t14.take (Int.toNat (((t14).length:Int) - 1))).drop (Int.toNat 0))++(((t17.take (Int.toNat (((t17).length:Int) - 1))).drop (Int.toNat 0)):List D)):List D).length:Int) > 16)),I 5] (I t33),Computes cx 37 [B (decide ((((((t14.take (Int.toNat (((t14).length:Int) - 1))).drop (Int.toNat 0))++(((t17.take (Int.toNat (((t17).length:Int) - 1))).drop (Int.toNat 0)):List D)):List D).length:Int) < 3)),I 17] (I t32),Qa 2,room cx 46 ((((t14.take (Int.toNat (((t14).length:Int) - 1))).drop (Int.toNat 0)):List D).length+(((t17.take (Int.toNat (((t17).length:Int) - 1))).drop (Int.toNat 0)):List D).length),Qa 1,room cx 46 (0+(((t14.take (Int.toNat (((t14).length:Int) - 1))).drop (Int.toNat 0)):List D).length),(0:Int)≤0∧0≤(((List.replicate (Int.toNat (((0+((((t14.take (Int.toNat (((t14).length:Int) - 1))).drop (Int.toNat 0)):List D).length:Int))+((((t17.take (Int.toNat (((t17).length:Int) - 1))).drop (Int.toNat 0)):List D).length:Int)) - 0)) (.agg [I 0,I 0]:D)):List D).length:Int),0 < (((0+((((t14.take (Int.toNat (((t14).length:Int) - 1))).drop (Int.toNat 0)):List D).length:Int))+((((t17.take (Int.toNat (((t17).length:Int) - 1))).drop (Int.toNat 0)):List D).length:Int)) - 0)∧room cx 46 (Int.toNat (((0+((((t14.take (Int.toNat (((t14).length:Int) - 1))).drop (Int.toNat 0)):List D).length:Int))+((((t17.take (Int.toNat (((t17).length:Int) - 1))).drop (Int.toNat 0)):List D).length:Int)) - 0)),(decide ((((0+((((t14.take (Int.toNat (((t14).length:Int) - 1))).drop (Int.toNat 0)):List D).length:Int))+((((t17.take (Int.toNat (((t17).length:Int) - 1))).drop (Int.toNat 0)):List D).length:Int)) - 0) > 0))=true,Qa (((0+((((t14.take (Int.toNat (((t14).length:Int) - 1))).drop (Int.toNat 0)):List D).length:Int))+((((t17.take (Int.toNat (((t17).length:Int) - 1))).drop (Int.toNat 0)):List D).length:Int)) - 0),Qa 0,(decide (((0+((((t14.take (Int.toNat (((t14).length:Int) - 1))).drop (Int.toNat 0)):List D).length:Int))+((((t17.take (Int.toNat (((t17).length:Int) - 1))).drop (Int.toNat 0)):List D).length:Int)) < 0))=false,Qa 2,(decide (((0+((((t14.take (Int.toNat (((t14).length:Int) - 1))).drop (Int.toNat 0)):List D).length:Int))+((((t17.take (Int.toNat (((t17).length:Int) - 1))).drop (Int.toNat 0)):List D).length:Int)) < 0))=false,Qa ((0+((((t14.take (Int.toNat (((t14).length:Int) - 1))).drop (Int.toNat 0)):List D).length:Int))+((((t17.take (Int.toNat (((t17).length:Int) - 1))).drop (Int.toNat 0)):List D).length:Int)),Qa 1,(decide ((0+((((t14.take (Int.toNat (((t14).length:Int) - 1))).drop (Int.toNat 0)):List D).length:Int)) < 0))=false,Qa (0+((((t14.take (Int.toNat (((t14).length:Int) - 1))).drop (Int.toNat 0)):List D).length:Int)),(0:Int)≤0∧0≤(((t17).length:Int) - 1)∧(((t17).length:Int) - 1)≤((t17).length:Int)∧(t17=[] ∨ 2=2),Qa (((t17).length:Int) - 1),(0:Int)≤0∧0≤(((t14).length:Int) - 1)∧(((t14).length:Int) - 1)≤((t14).length:Int)∧(t14=[] ∨ 2=2),Qa (((t14).length:Int) - 1),QA cx (Ql cx.P 44 0) 44 237 false [(3,.own 242 0),(7,.own 29 1),(8,.d (I ((t16).length:Int))),(9,.d (I 0))] [(29,.row 1 2 t16),(126,.row 0 2 t14),(242,.row 0 2 [])] (.exit 0) [(3,.own 242 0)] [(29,.row 1 2 t16),(126,.row 0 2 t14),(242,.row 0 2 t17)],QA cx (Ql cx.P 45 0) 28 193 false [(0,.own 29 1),(2,.d (I 0)),(3,.d (I (((t13).length:Int) - 1)))] [(29,.row 1 2 t13),(126,.row 0 2 t14)] (.exit 0) [] [(29,.row 1 2 t16),(126,.row 0 2 t14)],Qa (((t13).length:Int) - 1),QA cx (Ql cx.P 44 0) 44 121 false [(3,.own 126 0),(7,.own 29 1),(8,.d (I ((t13).length:Int))),(9,.d (I 0))] [(29,.row 1 2 t13),(126,.row 0 2 [])] (.exit 0) [(3,.own 126 0)] [(29,.row 1 2 t13),(126,.row 0 2 t14)],QA cx (Ql cx.P 43 0) 61 36 false [(0,.own 29 0),(3,.d (I 1))] [(29,.row 0 2 t11)] .ret [(2,.own 29 1)] [(29,.row 1 2 t13)],(decide (((t11).length:Int) < 2))=false,ZR cx 41 2 a0 [.fn (.func 42) [] []] t11,a0≠[],Qu a0=false,room cx 46 (0+(a0).length),a0≠[],(t6 != 0)=false,Computes cx 36 [.lst false 1 t5] (I t6),Computes cx 38 [.lst false 2 a0,.fn (.func 39) [] []] (.lst false 1 t5),(t3 != 0)=false,Computes cx 36 [.lst true 1 [I t1,I t2]] (I t3),Computes cx 37 [B (decide (((a0).length:Int) > 64)),I 5] (I t2),Computes cx 37 [B (((a0).length:Int) == 0),I 12] (I t1)]):=by kernel_rfl
theorem E9 (a0:List D) (t1:Int) (t2:Int) (t3:Int) (t5:List D) (t6:Int) (t11:List D) (t13:List D) (t14:List D) (t16:List D) (t17:List D) (t32:Int) (t33:Int) (t34:Int):QR true 100 cx 6 [.lst false 2 a0] [.ret (I t1),.ret (I t2),.ret (I t3),.br false,.ret (.lst false 1 t5),.ret (I t6),.br false,.br true,.no,.br true,.br false,.obj (some 29) (.d (.tup [])) [.row 2 t11] [],.br true,.br false,.lp [] [0,3] [29] .ret [(2,.own 29 1)] [(29,.row 1 2 t13)] 118,.br true,.lp [3,2] [3,7,8,9] [29,126] (.exit 0) [(3,.own 126 0)] [(29,.row 1 2 t13),(126,.row 0 2 t14)] 189,.br true,.lp [] [0,2,3] [29,126] (.exit 0) [] [(29,.row 1 2 t16),(126,.row 0 2 t14)] 234,.br true,.lp [3,2] [3,7,8,9] [29,126,242] (.exit 0) [(3,.own 242 0)] [(29,.row 1 2 t16),(126,.row 0 2 t14),(242,.row 0 2 t17)] 305,.lp [] [] [126,242] .ret [] [] 0,.br true,.br true,.no,.no,.no,.no,.br false,.no,.no,.no,.br false,.no,.no,.br true,.br false,.br true,.no,.br true,.ix 0,.br true,.no,.no,.no,.br true,.no,.no,.no,.br true,.no,.no,.ret (I t32),.ret (I t33),.ret (I t34),.br true]=some (.tup [.lst true 0 [],I t34],[(t34 != 0)=true,Computes cx 36 [.lst true 1 [I t32,I t33]] (I t34),Computes cx 37 [B (decide ((((((t14.take (Int.toNat (((t14).length:Int) - 1))).drop (Int.toNat 0))++(((t17.take (Int.toNat (((t17).length:Int) - 1))).drop (Int.toNat 0)):List D)):List D).length:Int) > 16)),I 5] (I t33),Computes cx 37 [B (decide ((((((t14.take (Int.toNat (((t14).length:Int) - 1))).drop (Int.toNat 0))++(((t17.take (Int.toNat (((t17).length:Int) - 1))).drop (Int.toNat 0)):List D)):List D).length:Int) < 3)),I 17] (I t32),Qa 2,room cx 46 ((((t14.take (Int.toNat (((t14).length:Int) - 1))).drop (Int.toNat 0)):List D).length+(((t17.take (Int.toNat (((t17).length:Int) - 1))).drop (Int.toNat 0)):List D).length),Qa 1,room cx 46 (0+(((t14.take (Int.toNat (((t14).length:Int) - 1))).drop (Int.toNat 0)):List D).length),(0:Int)≤0∧0≤(((List.replicate (Int.toNat (((0+((((t14.take (Int.toNat (((t14).length:Int) - 1))).drop (Int.toNat 0)):List D).length:Int))+((((t17.take (Int.toNat (((t17).length:Int) - 1))).drop (Int.toNat 0)):List D).length:Int)) - 0)) (.agg [I 0,I 0]:D)):List D).length:Int),0 < (((0+((((t14.take (Int.toNat (((t14).length:Int) - 1))).drop (Int.toNat 0)):List D).length:Int))+((((t17.take (Int.toNat (((t17).length:Int) - 1))).drop (Int.toNat 0)):List D).length:Int)) - 0)∧room cx 46 (Int.toNat (((0+((((t14.take (Int.toNat (((t14).length:Int) - 1))).drop (Int.toNat 0)):List D).length:Int))+((((t17.take (Int.toNat (((t17).length:Int) - 1))).drop (Int.toNat 0)):List D).length:Int)) - 0)),(decide ((((0+((((t14.take (Int.toNat (((t14).length:Int) - 1))).drop (Int.toNat 0)):List D).length:Int))+((((t17.take (Int.toNat (((t17).length:Int) - 1))).drop (Int.toNat 0)):List D).length:Int)) - 0) > 0))=true,Qa (((0+((((t14.take (Int.toNat (((t14).length:Int) - 1))).drop (Int.toNat 0)):List D).length:Int))+((((t17.take (Int.toNat (((t17).length:Int) - 1))).drop (Int.toNat 0)):List D).length:Int)) - 0),Qa 0,(decide (((0+((((t14.take (Int.toNat (((t14).length:Int) - 1))).drop (Int.toNat 0)):List D).length:Int))+((((t17.take (Int.toNat (((t17).length:Int) - 1))).drop (Int.toNat 0)):List D).length:Int)) < 0))=false,Qa 2,(decide (((0+((((t14.take (Int.toNat (((t14).length:Int) - 1))).drop (Int.toNat 0)):List D).length:Int))+((((t17.take (Int.toNat (((t17).length:Int) - 1))).drop (Int.toNat 0)):List D).length:Int)) < 0))=false,Qa ((0+((((t14.take (Int.toNat (((t14).length:Int) - 1))).drop (Int.toNat 0)):List D).length:Int))+((((t17.take (Int.toNat (((t17).length:Int) - 1))).drop (Int.toNat 0)):List D).length:Int)),Qa 1,(decide ((0+((((t14.take (Int.toNat (((t14).length:Int) - 1))).drop (Int.toNat 0)):List D).length:Int)) < 0))=false,Qa (0+((((t14.take (Int.toNat (((t14).length:Int) - 1))).drop (Int.toNat 0)):List D).length:Int)),(0:Int)≤0∧0≤(((t17).length:Int) - 1)∧(((t17).length:Int) - 1)≤((t17).length:Int)∧(t17=[] ∨ 2=2),Qa (((t17).length:Int) - 1),(0:Int)≤0∧0≤(((t14).length:Int) - 1)∧(((t14).length:Int) - 1)≤((t14).length:Int)∧(t14=[] ∨ 2=2),Qa (((t14).length:Int) - 1),QA cx (Ql cx.P 44 0) 44 237 false [(3,.own 242 0),(7,.own 29 1),(8,.d (I ((t16).length:Int))),(9,.d (I 0))] [(29,.row 1 2 t16),(126,.row 0 2 t14),(242,.row 0 2 [])] (.exit 0) [(3,.own 242 0)] [(29,.row 1 2 t16),(126,.row 0 2 t14),(242,.row 0 2 t17)],QA cx (Ql cx.P 45 0) 28 193 false [(0,.own 29 1),(2,.d (I 0)),(3,.d (I (((t13).length:Int) - 1)))] [(29,.row 1 2 t13),(126,.row 0 2 t14)] (.exit 0) [] [(29,.row 1 2 t16),(126,.row 0 2 t14)],Qa (((t13).length:Int) - 1),QA cx (Ql cx.P 44 0) 44 121 false [(3,.own 126 0),(7,.own 29 1),(8,.d (I ((t13).length:Int))),(9,.d (I 0))] [(29,.row 1 2 t13),(126,.row 0 2 [])] (.exit 0) [(3,.own 126 0)] [(29,.row 1 2 t13),(126,.row 0 2 t14)],QA cx (Ql cx.P 43 0) 61 36 false [(0,.own 29 0),(3,.d (I 1))] [(29,.row 0 2 t11)] .ret [(2,.own 29 1)] [(29,.row 1 2 t13)],(decide (((t11).length:Int) < 2))=false,ZR cx 41 2 a0 [.fn (.func 42) [] []] t11,a0≠[],Qu a0=false,room cx 46 (0+(a0).length),a0≠[],(t6 != 0)=false,Computes cx 36 [.lst false 1 t5] (I t6),Computes cx 38 [.lst false 2 a0,.fn (.func 39) [] []] (.lst false 1 t5),(t3 != 0)=false,Computes cx 36 [.lst true 1 [I t1,I t2]] (I t3),Computes cx 37 [B (decide (((a0).length:Int) > 64)),I 5] (I t2),Computes cx 37 [B (((a0).length:Int) == 0),I 12] (I t1)]):=by kernel_rfl
theorem E8 (a0:List D) (t1:Int) (t2:Int) (t3:Int) (t5:List D) (t6:Int) (t11:List D) (t13:List D) (t14:List D) (t16:List D) (t17:List D) (t32:Int) (t33:Int) (t34:Int):QR true 100 cx 6 [.lst false 2 a0] [.ret (I t1),.ret (I t2),.ret (I t3),.br false,.ret (.lst false 1 t5),.ret (I t6),.br false,.br true,.no,.br true,.br false,.obj (some 29) (.d (.tup [])) [.row 2 t11] [],.br true,.br false,.lp [] [0,3] [29] .ret [(2,.own 29 1)] [(29,.row 1 2 t13)] 118,.br true,.lp [3,2] [3,7,8,9] [29,126] (.exit 0) [(3,.own 126 0)] [(29,.row 1 2 t13),(126,.row 0 2 t14)] 189,.br true,.lp [] [0,2,3] [29,126] (.exit 0) [] [(29,.row 1 2 t16),(126,.row 0 2 t14)] 234,.br true,.lp [3,2] [3,7,8,9] [29,126,242] (.exit 0) [(3,.own 242 0)] [(29,.row 1 2 t16),(126,.row 0 2 t14),(242,.row 0 2 t17)] 305,.lp [] [] [126,242] .ret [] [] 0,.br true,.br true,.no,.no,.no,.no,.br false,.no,.no,.no,.br false,.no,.no,.br true,.br false,.br false,.no,.no,.no,.br true,.br true,.no,.no,.no,.br true,.br true,.no,.no,.ret (I t32),.ret (I t33),.ret (I t34),.br false]=some (.tup [.lst true 2 [],I 0],[(t34 != 0)=false,Computes cx 36 [.lst true 1 [I t32,I t33]] (I t34),Computes cx 37 [B false,I 5] (I t33),Computes cx 37 [B true,I 17] (I t32),Qa 2,Qu ((t17.take (Int.toNat (((t17).length:Int) - 1))).drop (Int.toNat 0))=true,room cx 46 (0+(((t17.take (Int.toNat (((t17).length:Int) - 1))).drop (Int.toNat 0)):List D).length),Qa 1,Qu ((t14.take (Int.toNat (((t14).length:Int) - 1))).drop (Int.toNat 0))=true,room cx 46 (0+(((t14.take (Int.toNat (((t14).length:Int) - 1))).drop (Int.toNat 0)):List D).length),(decide ((((0+((((t14.take (Int.toNat (((t14).length:Int) - 1))).drop (Int.toNat 0)):List D).length:Int))+((((t17.take (Int.toNat (((t17).length:Int) - 1))).drop (Int.toNat 0)):List D).length:Int)) - 0) > 0))=false,Qa (((0+((((t14.take (Int.toNat (((t14).length:Int) - 1))).drop (Int.toNat 0)):List D).length:Int))+((((t17.take (Int.toNat (((t17).length:Int) - 1))).drop (Int.toNat 0)):List D).length:Int)) - 0),Qa 0,(decide (((0+((((t14.take (Int.toNat (((t14).length:Int) - 1))).drop (Int.toNat 0)):List D).length:Int))+((((t17.take (Int.toNat (((t17).length:Int) - 1))).drop (Int.toNat 0)):List D).length:Int)) < 0))=false,Qa 2,(decide (((0+((((t14.take (Int.toNat (((t14).length:Int) - 1))).drop (Int.toNat 0)):List D).length:Int))+((((t17.take (Int.toNat (((t17).length:Int) - 1))).drop (Int.toNat 0)):List D).length:Int)) < 0))=false,Qa ((0+((((t14.take (Int.toNat (((t14).length:Int) - 1))).drop (Int.toNat 0)):List D).length:Int))+((((t17.take (Int.toNat (((t17).length:Int) - 1))).drop (Int.toNat 0)):List D).length:Int)),Qa 1,(decide ((0+((((t14.take (Int.toNat (((t14).length:Int) - 1))).drop (Int.toNat 0)):List D).length:Int)) < 0))=false,Qa (0+((((t14.take (Int.toNat (((t14).length:Int) - 1))).drop (Int.toNat 0)):List D).length:Int)),(0:Int)≤0∧0≤(((t17).length:Int) - 1)∧(((t17).length:Int) - 1)≤((t17).length:Int)∧(t17=[] ∨ 2=2),Qa (((t17).length:Int) - 1),(0:Int)≤0∧0≤(((t14).length:Int) - 1)∧(((t14).length:Int) - 1)≤((t14).length:Int)∧(t14=[] ∨ 2=2),Qa (((t14).length:Int) - 1),QA cx (Ql cx.P 44 0) 44 237 false [(3,.own 242 0),(7,.own 29 1),(8,.d (I ((t16).length:Int))),(9,.d (I 0))] [(29,.row 1 2 t16),(126,.row 0 2 t14),(242,.row 0 2 [])] (.exit 0) [(3,.own 242 0)] [(29,.row 1 2 t16),(126,.row 0 2 t14),(242,.row 0 2 t17)],QA cx (Ql cx.P 45 0) 28 193 false [(0,.own 29 1),(2,.d (I 0)),(3,.d (I (((t13).length:Int) - 1)))] [(29,.row 1 2 t13),(126,.row 0 2 t14)] (.exit 0) [] [(29,.row 1 2 t16),(126,.row 0 2 t14)],Qa (((t13).length:Int) - 1),QA cx (Ql cx.P 44 0) 44 121 false [(3,.own 126 0),(7,.own 29 1),(8,.d (I ((t13).length:Int))),(9,.d (I 0))] [(29,.row 1 2 t13),(126,.row 0 2 [])] (.exit 0) [(3,.own 126 0)] [(29,.row 1 2 t13),(126,.row 0 2 t14)],QA cx (Ql cx.P 43 0) 61 36 false [(0,.own 29 0),(3,.d (I 1))] [(29,.row 0 2 t11)] .ret [(2,.own 29 1)] [(29,.row 1 2 t13)],(decide (((t11).length:Int) < 2))=false,ZR cx 41 2 a0 [.fn (.func 42) [] []] t11,a0≠[],Qu a0=false,room cx 46 (0+(a0).length),a0≠[],(t6 != 0)=false,Computes cx 36 [.lst false 1 t5] (I t6),Computes cx 38 [.lst false 2 a0,.fn (.func 39) [] []] (.lst false 1 t5),(t3 != 0)=false,Computes cx 36 [.lst true 1 [I t1,I t2]] (I t3),Computes cx 37 [B (decide (((a0).length:Int) > 64)),I 5] (I t2),Computes cx 37 [B (((a0).length:Int) == 0),I 12] (I t1)]):=by kernel_rfl
theorem E7 (a0:List D) (t1:Int) (t2:Int) (t3:Int) (t5:List D) (t6:Int) (t11:List D) (t13:List D) (t14:List D) (t16:List D) (t17:List D) (t32:Int) (t33:Int) (t34:Int):QR true 100 cx 6 [.lst false 2 a0] [.ret (I t1),.ret (I t2),.ret (I t3),.br false,.ret (.lst false 1 t5),.ret (I t6),.br false,.br true,.no,.br true,.br false,.obj (some 29) (.d (.tup [])) [.row 2 t11] [],.br true,.br false,.lp [] [0,3] [29] .ret [(2,.own 29 1)] [(29,.row 1 2 t13)] 118,.br true,.lp [3,2] [3,7,8,9] [29,126] (.exit 0) [(3,.own 126 0)] [(29,.row 1 2 t13),(126,.row 0 2 t14)] 189,.br true,.lp [] [0,2,3] [29,126] (.exit 0) [] [(29,.row 1 2 t16),(126,.row 0 2 t14)] 234,.br true,.lp [3,2] [3,7,8,9] [29,126,242] (.exit 0) [(3,.own 242 0)] [(29,.row 1 2 t16),(126,.row 0 2 t14),(242,.row 0 2 t17)] 305,.lp [] [] [126,242] .ret [] [] 0,.br true,.br true,.no,.no,.no,.no,.br false,.no,.no,.no,.br false,.no,.no,.br true,.br false,.br false,.no,.no,.no,.br true,.br true,.no,.no,.no,.br true,.br true,.no,.no,.ret (I t32),.ret (I t33),.ret (I t34),.br true]=some (.tup [.lst true 0 [],I t34],[(t34 != 0)=true,Computes cx 36 [.lst true 1 [I t32,I t33]] (I t34),Computes cx 37 [B false,I 5] (I t33),Computes cx 37 [B true,I 17] (I t32),Qa 2,Qu ((t17.take (Int.toNat (((t17).length:Int) - 1))).drop (Int.toNat 0))=true,room cx 46 (0+(((t17.take (Int.toNat (((t17).length:Int) - 1))).drop (Int.toNat 0)):List D).length),Qa 1,Qu ((t14.take (Int.toNat (((t14).length:Int) - 1))).drop (Int.toNat 0))=true,room cx 46 (0+(((t14.take (Int.toNat (((t14).length:Int) - 1))).drop (Int.toNat 0)):List D).length),(decide ((((0+((((t14.take (Int.toNat (((t14).length:Int) - 1))).drop (Int.toNat 0)):List D).length:Int))+((((t17.take (Int.toNat (((t17).length:Int) - 1))).drop (Int.toNat 0)):List D).length:Int)) - 0) > 0))=false,Qa (((0+((((t14.take (Int.toNat (((t14).length:Int) - 1))).drop (Int.toNat 0)):List D).length:Int))+((((t17.take (Int.toNat (((t17).length:Int) - 1))).drop (Int.toNat 0)):List D).length:Int)) - 0),Qa 0,(decide (((0+((((t14.take (Int.toNat (((t14).length:Int) - 1))).drop (Int.toNat 0)):List D).length:Int))+((((t17.take (Int.toNat (((t17).length:Int) - 1))).drop (Int.toNat 0)):List D).length:Int)) < 0))=false,Qa 2,(decide (((0+((((t14.take (Int.toNat (((t14).length:Int) - 1))).drop (Int.toNat 0)):List D).length:Int))+((((t17.take (Int.toNat (((t17).length:Int) - 1))).drop (Int.toNat 0)):List D).length:Int)) < 0))=false,Qa ((0+((((t14.take (Int.toNat (((t14).length:Int) - 1))).drop (Int.toNat 0)):List D).length:Int))+((((t17.take (Int.toNat (((t17).length:Int) - 1))).drop (Int.toNat 0)):List D).length:Int)),Qa 1,(decide ((0+((((t14.take (Int.toNat (((t14).length:Int) - 1))).drop (Int.toNat 0)):List D).length:Int)) < 0))=false,Qa (0+((((t14.take (Int.toNat (((t14).length:Int) - 1))).drop (Int.toNat 0)):List D).length:Int)),(0:Int)≤0∧0≤(((t17).length:Int) - 1)∧(((t17).length:Int) - 1)≤((t17).length:Int)∧(t17=[] ∨ 2=2),Qa (((t17).length:Int) - 1),(0:Int)≤0∧0≤(((t14).length:Int) - 1)∧(((t14).length:Int) - 1)≤((t14).length:Int)∧(t14=[] ∨ 2=2),Qa (((t14).length:Int) - 1),QA cx (Ql cx.P 44 0) 44 237 false [(3,.own 242 0),(7,.own 29 1),(8,.d (I ((t16).length:Int))),(9,.d (I 0))] [(29,.row 1 2 t16),(126,.row 0 2 t14),(242,.row 0 2 [])] (.exit 0) [(3,.own 242 0)] [(29,.row 1 2 t16),(126,.row 0 2 t14),(242,.row 0 2 t17)],QA cx (Ql cx.P 45 0) 28 193 false [(0,.own 29 1),(2,.d (I 0)),(3,.d (I (((t13).length:Int) - 1)))] [(29,.row 1 2 t13),(126,.row 0 2 t14)] (.exit 0) [] [(29,.row 1 2 t16),(126,.row 0 2 t14)],Qa (((t13).length:Int) - 1),QA cx (Ql cx.P 44 0) 44 121 false [(3,.own 126 0),(7,.own 29 1),(8,.d (I ((t13).length:Int))),(9,.d (I 0))] [(29,.row 1 2 t13),(126,.row 0 2 [])] (.exit 0) [(3,.own 126 0)] [(29,.row 1 2 t13),(126,.row 0 2 t14)],QA cx (Ql cx.P 43 0) 61 36 false [(0,.own 29 0),(3,.d (I 1))] [(29,.row 0 2 t11)] .ret [(2,.own 29 1)] [(29,.row 1 2 t13)],(decide (((t11).length:Int) < 2))=false,ZR cx 41 2 a0 [.fn (.func 42) [] []] t11,a0≠[],Qu a0=false,room cx 46 (0+(a0).length),a0≠[],(t6 != 0)=false,Computes cx 36 [.lst false 1 t5] (I t6),Computes cx 38 [.lst false 2 a0,.fn (.func 39) [] []] (.lst false 1 t5),(t3 != 0)=false,Computes cx 36 [.lst true 1 [I t1,I t2]] (I t3),Computes cx 37 [B (decide (((a0).length:Int) > 64)),I 5] (I t2),Computes cx 37 [B (((a0).length:Int) == 0),I 12] (I t1)]):=by kernel_rfl
theorem E6 (a0:List D) (t1:Int) (t2:Int) (t3:Int) (t5:List D) (t6:Int) (t11:List D) (t13:List D) (t14:List D) (t16:List D) (t17:List D) (t32:Int) (t33:Int) (t34:Int):QR true 100 cx 6 [.lst false 2 a0] [.ret (I t1),.ret (I t2),.ret (I t3),.br false,.ret (.lst false 1 t5),.ret (I t6),.br false,.br true,.no,.br true,.br false,.obj (some 29) (.d (.tup [])) [.row 2 t11] [],.br true,.br false,.lp [] [0,3] [29] .ret [(2,.own 29 1)] [(29,.row 1 2 t13)] 118,.br true,.lp [3,2] [3,7,8,9] [29,126] (.exit 0) [(3,.own 126 0)] [(29,.row 1 2 t13),(126,.row 0 2 t14)] 189,.br true,.lp [] [0,2,3] [29,126] (.exit 0) [] [(29,.row 1 2 t16),(126,.row 0 2 t14)] 234,.br true,.lp [3,2] [3,7,8,9] [29,126,242] (.exit 0) [(3,.own 242 0)] [(29,.row 1 2 t16),(126,.row 0 2 t14),(242,.row 0 2 t17)] 305,.lp [] [] [126,242] .ret [] [] 0,.br true,.br true,.no,.no,.no,.no,.br false,.no,.no,.no,.br false,.no,.no,.br true,.br false,.br false,.no,.no,.no,.br true,.br true,.no,.no,.no,.br true,.br false,.no,.no,.ret (I t32),.ret (I t33),.ret (I t34),.br false]=some (.tup [.lst false 2 ((t17.take (Int.toNat (((t17).length:Int) - 1))).drop (Int.toNat 0)),I 0],[(t34 != 0)=false,Computes cx 36 [.lst true 1 [I t32,I t33]] (I t34),Computes cx 37 [B (decide (((((t17.take (Int.toNat (((t17).length:Int) - 1))).drop (Int.toNat 0)):List D).length:Int) > 16)),I 5] (I t33),Computes cx 37 [B (decide (((((t17.take (Int.toNat (((t17).length:Int) - 1))).drop (Int.toNat 0)):List D).length:Int) < 3)),I 17] (I t32),Qa 2,Qu ((t17.take (Int.toNat (((t17).length:Int) - 1))).drop (Int.toNat 0))=false,room cx 46 (0+(((t17.take (Int.toNat (((t17).length:Int) - 1))).drop (Int.toNat 0)):List D).length),Qa 1,Qu ((t14.take (Int.toNat (((t14).length:Int) - 1))).drop (Int.toNat 0))=true,room cx 46 (0+(((t14.take (Int.toNat (((t14).length:Int) - 1))).drop (Int.toNat 0)):List D).length),(decide ((((0+((((t14.take (Int.toNat (((t14).length:Int) - 1))).drop (Int.toNat 0)):List D).length:Int))+((((t17.take (Int.toNat (((t17).length:Int) - 1))).drop (Int.toNat 0)):List D).length:Int)) - 0) > 0))=false,Qa (((0+((((t14.take (Int.toNat (((t14).length:Int) - 1))).drop (Int.toNat 0)):List D).length:Int))+((((t17.take (Int.toNat (((t17).length:Int) - 1))).drop (Int.toNat 0)):List D).length:Int)) - 0),Qa 0,(decide (((0+((((t14.take (Int.toNat (((t14).length:Int) - 1))).drop (Int.toNat 0)):List D).length:Int))+((((t17.take (Int.toNat (((t17).length:Int) - 1))).drop (Int.toNat 0)):List D).length:Int)) < 0))=false,Qa 2,(decide (((0+((((t14.take (Int.toNat (((t14).length:Int) - 1))).drop (Int.toNat 0)):List D).length:Int))+((((t17.take (Int.toNat (((t17).length:Int) - 1))).drop (Int.toNat 0)):List D).length:Int)) < 0))=false,Qa ((0+((((t14.take (Int.toNat (((t14).length:Int) - 1))).drop (Int.toNat 0)):List D).length:Int))+((((t17.take (Int.toNat (((t17).length:Int) - 1))).drop (Int.toNat 0)):List D).length:Int)),Qa 1,(decide ((0+((((t14.take (Int.toNat (((t14).length:Int) - 1))).drop (Int.toNat 0)):List D).length:Int)) < 0))=false,Qa (0+((((t14.take (Int.toNat (((t14).length:Int) - 1))).drop (Int.toNat 0)):List D).length:Int)),(0:Int)≤0∧0≤(((t17).length:Int) - 1)∧(((t17).length:Int) - 1)≤((t17).length:Int)∧(t17=[] ∨ 2=2),Qa (((t17).length:Int) - 1),(0:Int)≤0∧0≤(((t14).length:Int) - 1)∧(((t14).length:Int) - 1)≤((t14).length:Int)∧(t14=[] ∨ 2=2),Qa (((t14).length:Int) - 1),QA cx (Ql cx.P 44 0) 44 237 false [(3,.own 242 0),(7,.own 29 1),(8,.d (I ((t16).length:Int))),(9,.d (I 0))] [(29,.row 1 2 t16),(126,.row 0 2 t14),(242,.row 0 2 [])] (.exit 0) [(3,.own 242 0)] [(29,.row 1 2 t16),(126,.row 0 2 t14),(242,.row 0 2 t17)],QA cx (Ql cx.P 45 0) 28 193 false [(0,.own 29 1),(2,.d (I 0)),(3,.d (I (((t13).length:Int) - 1)))] [(29,.row 1 2 t13),(126,.row 0 2 t14)] (.exit 0) [] [(29,.row 1 2 t16),(126,.row 0 2 t14)],Qa (((t13).length:Int) - 1),QA cx (Ql cx.P 44 0) 44 121 false [(3,.own 126 0),(7,.own 29 1),(8,.d (I ((t13).length:Int))),(9,.d (I 0))] [(29,.row 1 2 t13),(126,.row 0 2 [])] (.exit 0) [(3,.own 126 0)] [(29,.row 1 2 t13),(126,.row 0 2 t14)],QA cx (Ql cx.P 43 0) 61 36 false [(0,.own 29 0),(3,.d (I 1))] [(29,.row 0 2 t11)] .ret [(2,.own 29 1)] [(29,.row 1 2 t13)],(decide (((t11).length:Int) < 2))=false,ZR cx 41 2 a0 [.fn (.func 42) [] []] t11,a0≠[],Qu a0=false,room cx 46 (0+(a0).length),a0≠[],(t6 != 0)=false,Computes cx 36 [.lst false 1 t5] (I t6),Computes cx 38 [.lst false 2 a0,.fn (.func 39) [] []] (.lst false 1 t5),(t3 != 0)=false,Computes cx 36 [.lst true 1 [I t1,I t2]] (I t3),Computes cx 37 [B (decide (((a0).length:Int) > 64)),I 5] (I t2),Computes cx 37 [B (((a0).length:Int) == 0),I 12] (I t1)]):=by kernel_rfl
theorem E5 (a0:List D) (t1:Int) (t2:Int) (t3:Int) (t5:List D) (t6:Int) (t11:List D) (t13:List D) (t14:List D) (t16:List D) (t17:List D) (t32:Int) (t33:Int) (t34:Int):QR true 100 cx 6 [.lst false 2 a0] [.ret (I t1),.ret (I t2),.ret (I t3),.br false,.ret (.lst false 1 t5),.ret (I t6),.br false,.br true,.no,.br true,.br false,.obj (some 29) (.d (.tup [])) [.row 2 t11] [],.br true,.br false,.lp [] [0,3] [29] .ret [(2,.own 29 1)] [(29,.row 1 2 t13)] 118,.br true,.lp [3,2] [3,7,8,9] [29,126] (.exit 0) [(3,.own 126 0)] [(29,.row 1 2 t13),(126,.row 0 2 t14)] 189,.br true,.lp [] [0,2,3] [29,126] (.exit 0) [] [(29,.row 1 2 t16),(126,.row 0 2 t14)] 234,.br true,.lp [3,2] [3,7,8,9] [29,126,242] (.exit 0) [(3,.own 242 0)] [(29,.row 1 2 t16),(126,.row 0 2 t14),(242,.row 0 2 t17)] 305,.lp [] [] [126,242] .ret [] [] 0,.br true,.br true,.no,.no,.no,.no,.br false,.no,.no,.no,.br false,.no,.no,.br true,.br false,.br false,.no,.no,.no,.br true,.br true,.no,.no,.no,.br true,.br false,.no,.no,.ret (I t32),.ret (I t33),.ret (I t34),.br true]=some (.tup [.lst true 0 [],I t34],[(t34 != 0)=true,Computes cx 36 [.lst true 1 [I t32,I t33]] (I t34),Computes cx 37 [B (decide (((((t17.take (Int.toNat (((t17).length:Int) - 1))).drop (Int.toNat 0)):List D).length:Int) > 16)),I 5] (I t33),Computes cx 37 [B (decide (((((t17.take (Int.toNat (((t17).length:Int) - 1))).drop (Int.toNat 0)):List D).length:Int) < 3)),I 17] (I t32),Qa 2,Qu ((t17.take (Int.toNat (((t17).length:Int) - 1))).drop (Int.toNat 0))=false,room cx 46 (0+(((t17.take (Int.toNat (((t17).length:Int) - 1))).drop (Int.toNat 0)):List D).length),Qa 1,Qu ((t14.take (Int.toNat (((t14).length:Int) - 1))).drop (Int.toNat 0))=true,room cx 46 (0+(((t14.take (Int.toNat (((t14).length:Int) - 1))).drop (Int.toNat 0)):List D).length),(decide ((((0+((((t14.take (Int.toNat (((t14).length:Int) - 1))).drop (Int.toNat 0)):List D).length:Int))+((((t17.take (Int.toNat (((t17).length:Int) - 1))).drop (Int.toNat 0)):List D).length:Int)) - 0) > 0))=false,Qa (((0+((((t14.take (Int.toNat (((t14).length:Int) - 1))).drop (Int.toNat 0)):List D).length:Int))+((((t17.take (Int.toNat (((t17).length:Int) - 1))).drop (Int.toNat 0)):List D).length:Int)) - 0),Qa 0,(decide (((0+((((t14.take (Int.toNat (((t14).length:Int) - 1))).drop (Int.toNat 0)):List D).length:Int))+((((t17.take (Int.toNat (((t17).length:Int) - 1))).drop (Int.toNat 0)):List D).length:Int)) < 0))=false,Qa 2,(decide (((0+((((t14.take (Int.toNat (((t14).length:Int) - 1))).drop (Int.toNat 0)):List D).length:Int))+((((t17.take (Int.toNat (((t17).length:Int) - 1))).drop (Int.toNat 0)):List D).length:Int)) < 0))=false,Qa ((0+((((t14.take (Int.toNat (((t14).length:Int) - 1))).drop (Int.toNat 0)):List D).length:Int))+((((t17.take (Int.toNat (((t17).length:Int) - 1))).drop (Int.toNat 0)):List D).length:Int)),Qa 1,(decide ((0+((((t14.take (Int.toNat (((t14).length:Int) - 1))).drop (Int.toNat 0)):List D).length:Int)) < 0))=false,Qa (0+((((t14.take (Int.toNat (((t14).length:Int) - 1))).drop (Int.toNat 0)):List D).length:Int)),(0:Int)≤0∧0≤(((t17).length:Int) - 1)∧(((t17).length:Int) - 1)≤((t17).length:Int)∧(t17=[] ∨ 2=2),Qa (((t17).length:Int) - 1),(0:Int)≤0∧0≤(((t14).length:Int) - 1)∧(((t14).length:Int) - 1)≤((t14).length:Int)∧(t14=[] ∨ 2=2),Qa (((t14).length:Int) - 1),QA cx (Ql cx.P 44 0) 44 237 false [(3,.own 242 0),(7,.own 29 1),(8,.d (I ((t16).length:Int))),(9,.d (I 0))] [(29,.row 1 2 t16),(126,.row 0 2 t14),(242,.row 0 2 [])] (.exit 0) [(3,.own 242 0)] [(29,.row 1 2 t16),(126,.row 0 2 t14),(242,.row 0 2 t17)],QA cx (Ql cx.P 45 0) 28 193 false [(0,.own 29 1),(2,.d (I 0)),(3,.d (I (((t13).length:Int) - 1)))] [(29,.row 1 2 t13),(126,.row 0 2 t14)] (.exit 0) [] [(29,.row 1 2 t16),(126,.row 0 2 t14)],Qa (((t13).length:Int) - 1),QA cx (Ql cx.P 44 0) 44 121 false [(3,.own 126 0),(7,.own 29 1),(8,.d (I ((t13).length:Int))),(9,.d (I 0))] [(29,.row 1 2 t13),(126,.row 0 2 [])] (.exit 0) [(3,.own 126 0)] [(29,.row 1 2 t13),(126,.row 0 2 t14)],QA cx (Ql cx.P 43 0) 61 36 false [(0,.own 29 0),(3,.d (I 1))] [(29,.row 0 2 t11)] .ret [(2,.own 29 1)] [(29,.row 1 2 t13)],(decide (((t11).length:Int) < 2))=false,ZR cx 41 2 a0 [.fn (.func 42) [] []] t11,a0≠[],Qu a0=false,room cx 46 (0+(a0).length),a0≠[],(t6 != 0)=false,Computes cx 36 [.lst false 1 t5] (I t6),Computes cx 38 [.lst false 2 a0,.fn (.func 39) [] []] (.lst false 1 t5),(t3 != 0)=false,Computes cx 36 [.lst true 1 [I t1,I t2]] (I t3),Computes cx 37 [B (decide (((a0).length:Int) > 64)),I 5] (I t2),Computes cx 37 [B (((a0).length:Int) == 0),I 12] (I t1)]):=by kernel_rfl
theorem E4 (a0:List D) (t1:Int) (t2:Int) (t3:Int) (t5:List D) (t6:Int) (t11:List D) (t13:List D) (t14:List D) (t16:List D) (t17:List D) (t31:Int) (t32:Int) (t33:Int):QR true 100 cx 6 [.lst false 2 a0] [.ret (I t1),.ret (I t2),.ret (I t3),.br false,.ret (.lst false 1 t5),.ret (I t6),.br false,.br true,.no,.br true,.br false,.obj (some 29) (.d (.tup [])) [.row 2 t11] [],.br true,.br false,.lp [] [0,3] [29] .ret [(2,.own 29 1)] [(29,.row 1 2 t13)] 118,.br true,.lp [3,2] [3,7,8,9] [29,126] (.exit 0) [(3,.own 126 0)] [(29,.row 1 2 t13),(126,.row 0 2 t14)] 189,.br true,.lp [] [0,2,3] [29,126] (.exit 0) [] [(29,.row 1 2 t16),(126,.row 0 2 t14)] 234,.br true,.lp [3,2] [3,7,8,9] [29,126,242] (.exit 0) [(3,.own 242 0)] [(29,.row 1 2 t16),(126,.row 0 2 t14),(242,.row 0 2 t17)] 305,.lp [] [] [126,242] .ret [] [] 0,.br true,.br true,.no,.no,.no,.no,.br false,.no,.no,.no,.br false,.no,.no,.br true,.br false,.br false,.no,.no,.no,.br true,.br false,.no,.no,.no,.br true,.no,.no,.ret (I t31),.ret (I t32),.ret (I t33),.br false]=some (.tup [.lst false 2 (((t14.take (Int.toNat (((t14).length:Int) - 1))).drop (Int.toNat 0))++(((t17.take (Int.toNat (((t17).length:Int) - 1))).drop (Int.toNat 0)):List D)),I 0],[(t33 != 0)=false,Computes cx 36 [.lst true 1 [I t31,I t32]] (I t33),Computes cx 37 [B (decide ((((((t14.take (Int.toNat (((t14).length:Int) - 1))).drop (Int.toNat 0))++(((t17.take (Int.toNat (((t17).length:Int) - 1))).drop (Int.toNat 0)):List D)):List D).length:Int) > 16)),I 5] (I t32),Computes cx 37 [B (decide ((((((t14.take (Int.toNat (((t14).length:Int) - 1))).drop (Int.toNat 0))++(((t17.take (Int.toNat (((t17).length:Int) - 1))).drop (Int.toNat 0)):List D)):List D).length:Int) < 3)),I 17] (I t31),Qa 2,room cx 46 ((((t14.take (Int.toNat (((t14).length:Int) - 1))).drop (Int.toNat 0)):List D).length+(((t17.take (Int.toNat (((t17).length:Int) - 1))).drop (Int.toNat 0)):List D).length),Qa 1,Qu ((t14.take (Int.toNat (((t14).length:Int) - 1))).drop (Int.toNat 0))=false,room cx 46 (0+(((t14.take (Int.toNat (((t14).length:Int) - 1))).drop (Int.toNat 0)):List D).length),(decide ((((0+((((t14.take (Int.toNat (((t14).length:Int) - 1))).drop (Int.toNat 0)):List D).length:Int))+((((t17.take (Int.toNat (((t17).length:Int) - 1))).drop (Int.toNat 0)):List D).length:Int)) - 0) > 0))=false,Qa (((0+((((t14.take (Int.toNat (((t14).length:Int) - 1))).drop (Int.toNat 0)):List D).length:Int))+((((t17.take (Int.toNat (((t17).length:Int) - 1))).drop (Int.toNat 0)):List D).length:Int)) - 0),Qa 0,(decide (((0+((((t14.take (Int.toNat (((t14).length:Int) - 1))).drop (Int.toNat 0)):List D).length:Int))+((((t17.take (Int.toNat (((t17).length:Int) - 1))).drop (Int.toNat 0)):List D).length:Int)) < 0))=false,Qa 2,(decide (((0+((((t14.take (Int.toNat (((t14).length:Int) - 1))).drop (Int.toNat 0)):List D).length:Int))+((((t17.take (Int.toNat (((t17).length:Int) - 1))).drop (Int.toNat 0)):List D).length:Int)) < 0))=false,Qa ((0+((((t14.take (Int.toNat (((t14).length:Int) - 1))).drop (Int.toNat 0)):List D).length:Int))+((((t17.take (Int.toNat (((t17).length:Int) - 1))).drop (Int.toNat 0)):List D).length:Int)),Qa 1,(decide ((0+((((t14.take (Int.toNat (((t14).length:Int) - 1))).drop (Int.toNat 0)):List D).length:Int)) < 0))=false,Qa (0+((((t14.take (Int.toNat (((t14).length:Int) - 1))).drop (Int.toNat 0)):List D).length:Int)),(0:Int)≤0∧0≤(((t17).length:Int) - 1)∧(((t17).length:Int) - 1)≤((t17).length:Int)∧(t17=[] ∨ 2=2),Qa (((t17).length:Int) - 1),(0:Int)≤0∧0≤(((t14).length:Int) - 1)∧(((t14).length:Int) - 1)≤((t14).length:Int)∧(t14=[] ∨ 2=2),Qa (((t14).length:Int) - 1),QA cx (Ql cx.P 44 0) 44 237 false [(3,.own 242 0),(7,.own 29 1),(8,.d (I ((t16).length:Int))),(9,.d (I 0))] [(29,.row 1 2 t16),(126,.row 0 2 t14),(242,.row 0 2 [])] (.exit 0) [(3,.own 242 0)] [(29,.row 1 2 t16),(126,.row 0 2 t14),(242,.row 0 2 t17)],QA cx (Ql cx.P 45 0) 28 193 false [(0,.own 29 1),(2,.d (I 0)),(3,.d (I (((t13).length:Int) - 1)))] [(29,.row 1 2 t13),(126,.row 0 2 t14)] (.exit 0) [] [(29,.row 1 2 t16),(126,.row 0 2 t14)],Qa (((t13).length:Int) - 1),QA cx (Ql cx.P 44 0) 44 121 false [(3,.own 126 0),(7,.own 29 1),(8,.d (I ((t13).length:Int))),(9,.d (I 0))] [(29,.row 1 2 t13),(126,.row 0 2 [])] (.exit 0) [(3,.own 126 0)] [(29,.row 1 2 t13),(126,.row 0 2 t14)],QA cx (Ql cx.P 43 0) 61 36 false [(0,.own 29 0),(3,.d (I 1))] [(29,.row 0 2 t11)] .ret [(2,.own 29 1)] [(29,.row 1 2 t13)],(decide (((t11).length:Int) < 2))=false,ZR cx 41 2 a0 [.fn (.func 42) [] []] t11,a0≠[],Qu a0=false,room cx 46 (0+(a0).length),a0≠[],(t6 != 0)=false,Computes cx 36 [.lst false 1 t5] (I t6),Computes cx 38 [.lst false 2 a0,.fn (.func 39) [] []] (.lst false 1 t5),(t3 != 0)=false,Computes cx 36 [.lst true 1 [I t1,I t2]] (I t3),Computes cx 37 [B (decide (((a0).length:Int) > 64)),I 5] (I t2),Computes cx 37 [B (((a0).length:Int) == 0),I 12] (I t1)]):=by kernel_rfl
theorem E3 (a0:List D) (t1:Int) (t2:Int) (t3:Int) (t5:List D) (t6:Int) (t11:List D) (t13:List D) (t14:List D) (t16:List D) (t17:List D) (t31:Int) (t32:Int) (t33:Int):QR true 100 cx 6 [.lst false 2 a0] [.ret (I t1),.ret (I t2),.ret (I t3),.br false,.ret (.lst false 1 t5),.ret (I t6),.br false,.br true,.no,.br true,.br false,.obj (some 29) (.d (.tup [])) [.row 2 t11] [],.br true,.br false,.lp [] [0,3] [29] .ret [(2,.own 29 1)] [(29,.row 1 2 t13)] 118,.br true,.lp [3,2] [3,7,8,9] [29,126] (.exit 0) [(3,.own 126 0)] [(29,.row 1 2 t13),(126,.row 0 2 t14)] 189,.br true,.lp [] [0,2,3] [29,126] (.exit 0) [] [(29,.row 1 2 t16),(126,.row 0 2 t14)] 234,.br true,.lp [3,2] [3,7,8,9] [29,126,242] (.exit 0) [(3,.own 242 0)] [(29,.row 1 2 t16),(126,.row 0 2 t14),(242,.row 0 2 t17)] 305,.lp [] [] [126,242] .ret [] [] 0,.br true,.br true,.no,.no,.no,.no,.br false,.no,.no,.no,.br false,.no,.no,.br true,.br false,.br false,.no,.no,.no,.br true,.br false,.no,.no,.no,.br true,.no,.no,.ret (I t31),.ret (I t32),.ret (I t33),.br true]=some (.tup [.lst true 0 [],I t33],[(t33 != 0)=true,Computes cx 36 [.lst true 1 [I t31,I t32]] (I t33),Computes cx 37 [B (decide ((((((t14.take (Int.toNat (((t14).length:Int) - 1))).drop (Int.toNat 0))++(((t17.take (Int.toNat (((t17).length:Int) - 1))).drop (Int.toNat 0)):List D)):List D).length:Int) > 16)),I 5] (I t32),Computes cx 37 [B (decide ((((((t14.take (Int.toNat (((t14).length:Int) - 1))).drop (Int.toNat 0))++(((t17.take (Int.toNat (((t17).length:Int) - 1))).drop (Int.toNat 0)):List D)):List D).length:Int) < 3)),I 17] (I t31),Qa 2,room cx 46 ((((t14.take (Int.toNat (((t14).length:Int) - 1))).drop (Int.toNat 0)):List D).length+(((t17.take (Int.toNat (((t17).length:Int) - 1))).drop (Int.toNat 0)):List D).length),Qa 1,Qu ((t14.take (Int.toNat (((t14).length:Int) - 1))).drop (Int.toNat 0))=false,room cx 46 (0+(((t14.take (Int.toNat (((t14).length:Int) - 1))).drop (Int.toNat 0)):List D).length),(decide ((((0+((((t14.take (Int.toNat (((t14).length:Int) - 1))).drop (Int.toNat 0)):List D).length:Int))+((((t17.take (Int.toNat (((t17).length:Int) - 1))).drop (Int.toNat 0)):List D).length:Int)) - 0) > 0))=false,Qa (((0+((((t14.take (Int.toNat (((t14).length:Int) - 1))).drop (Int.toNat 0)):List D).length:Int))+((((t17.take (Int.toNat (((t17).length:Int) - 1))).drop (Int.toNat 0)):List D).length:Int)) - 0),Qa 0,(decide (((0+((((t14.take (Int.toNat (((t14).length:Int) - 1))).drop (Int.toNat 0)):List D).length:Int))+((((t17.take (Int.toNat (((t17).length:Int) - 1))).drop (Int.toNat 0)):List D).length:Int)) < 0))=false,Qa 2,(decide (((0+((((t14.take (Int.toNat (((t14).length:Int) - 1))).drop (Int.toNat 0)):List D).length:Int))+((((t17.take (Int.toNat (((t17).length:Int) - 1))).drop (Int.toNat 0)):List D).length:Int)) < 0))=false,Qa ((0+((((t14.take (Int.toNat (((t14).length:Int) - 1))).drop (Int.toNat 0)):List D).length:Int))+((((t17.take (Int.toNat (((t17).length:Int) - 1))).drop (Int.toNat 0)):List D).length:Int)),Qa 1,(decide ((0+((((t14.take (Int.toNat (((t14).length:Int) - 1))).drop (Int.toNat 0)):List D).length:Int)) < 0))=false,Qa (0+((((t14.take (Int.toNat (((t14).length:Int) - 1))).drop (Int.toNat 0)):List D).length:Int)),(0:Int)≤0∧0≤(((t17).length:Int) - 1)∧(((t17).length:Int) - 1)≤((t17).length:Int)∧(t17=[] ∨ 2=2),Qa (((t17).length:Int) - 1),(0:Int)≤0∧0≤(((t14).length:Int) - 1)∧(((t14).length:Int) - 1)≤((t14).length:Int)∧(t14=[] ∨ 2=2),Qa (((t14).length:Int) - 1),QA cx (Ql cx.P 44 0) 44 237 false [(3,.own 242 0),(7,.own 29 1),(8,.d (I ((t16).length:Int))),(9,.d (I 0))] [(29,.row 1 2 t16),(126,.row 0 2 t14),(242,.row 0 2 [])] (.exit 0) [(3,.own 242 0)] [(29,.row 1 2 t16),(126,.row 0 2 t14),(242,.row 0 2 t17)],QA cx (Ql cx.P 45 0) 28 193 false [(0,.own 29 1),(2,.d (I 0)),(3,.d (I (((t13).length:Int) - 1)))] [(29,.row 1 2 t13),(126,.row 0 2 t14)] (.exit 0) [] [(29,.row 1 2 t16),(126,.row 0 2 t14)],Qa (((t13).length:Int) - 1),QA cx (Ql cx.P 44 0) 44 121 false [(3,.own 126 0),(7,.own 29 1),(8,.d (I ((t13).length:Int))),(9,.d (I 0))] [(29,.row 1 2 t13),(126,.row 0 2 [])] (.exit 0) [(3,.own 126 0)] [(29,.row 1 2 t13),(126,.row 0 2 t14)],QA cx (Ql cx.P 43 0) 61 36 false [(0,.own 29 0),(3,.d (I 1))] [(29,.row 0 2 t11)] .ret [(2,.own 29 1)] [(29,.row 1 2 t13)],(decide (((t11).length:Int) < 2))=false,ZR cx 41 2 a0 [.fn (.func 42) [] []] t11,a0≠[],Qu a0=false,room cx 46 (0+(a0).length),a0≠[],(t6 != 0)=false,Computes cx 36 [.lst false 1 t5] (I t6),Computes cx 38 [.lst false 2 a0,.fn (.func 39) [] []] (.lst false 1 t5),(t3 != 0)=false,Computes cx 36 [.lst true 1 [I t1,I t2]] (I t3),Computes cx 37 [B (decide (((a0).length:Int) > 64)),I 5] (I t2),Computes cx 37 [B (((a0).length:Int) == 0),I 12] (I t1)]):=by kernel_rfl
theorem E2 (a0:List D) (t1:Int) (t2:Int) (t3:Int) (t5:List D) (t6:Int) (t11:List D) (t14:List D) (t16:List D) (t17:List D) (t32:Int) (t33:Int) (t34:Int):QR true 100 cx 6 [.lst false 2 a0] [.ret (I t1),.ret (I t2),.ret (I t3),.br false,.ret (.lst false 1 t5),.ret (I t6),.br false,.br true,.no,.br true,.br false,.obj (some 29) (.d (.tup [])) [.row 2 t11] [],.br true,.br false,.lp [] [0,3] [29] (.exit 0) [(0,.own 29 0)] [(29,.row 0 2 t11)] 118,.br true,.lp [3,2] [3,7,8,9] [29,128] (.exit 0) [(3,.own 128 0)] [(29,.row 0 2 t11),(128,.row 0 2 t14)] 191,.br true,.lp [] [0,2,3] [29,128] (.exit 0) [] [(29,.row 0 2 t16),(128,.row 0 2 t14)] 236,.br true,.lp [3,2] [3,7,8,9] [29,128,244] (.exit 0) [(3,.own 244 0)] [(29,.row 0 2 t16),(128,.row 0 2 t14),(244,.row 0 2 t17)] 307,.lp [] [] [128,244] .ret [] [] 0,.br true,.br true,.no,.no,.no,.no,.br false,.no,.no,.no,.br false,.no,.no,.br true,.br false,.br true,.no,.br true,.ix 0,.br true,.no,.no,.no,.br true,.no,.no,.no,.br true,.no,.no,.ret (I t32),.ret (I t33),.ret (I t34),.br false]=some (.tup [.lst false 2 (((t14.take (Int.toNat (((t14).length:Int) - 1))).drop (Int.toNat 0))++(((t17.take (Int.toNat (((t17).length:Int) - 1))).drop (Int.toNat 0)):List D)),I 0],[(t34 != 0)=false,Computes cx 36 [.lst true 1 [I t32,I t33]] (I t34),Computes cx 37 [B (decide ((((((t14.take (Int.toNat (((t14).length:Int) - 1))).drop (Int.toNat 0))++(((t17.take (Int.toNat (((t17).length:Int) - 1))).drop (Int.toNat 0)):List D)):List D).length:Int) > 16)),I 5] (I t33),Computes cx 37 [B (decide ((((((t14.take (Int.toNat (((t14).length:Int) - 1))).drop (Int.toNat 0))++(((t17.take (Int.toNat (((t17).length:Int) - 1))).drop (Int.toNat 0)):List D)):List D).length:Int) < 3)),I 17] (I t32),Qa 2,room cx 46 ((((t14.take (Int.toNat (((t14).length:Int) - 1))).drop (Int.toNat 0)):List D).length+(((t17.take (Int.toNat (((t17).length:Int) - 1))).drop (Int.toNat 0)):List D).length),Qa 1,room cx 46 (0+(((t14.take (Int.toNat (((t14).length:Int) - 1))).drop (Int.toNat 0)):List D).length),(0:Int)≤0∧0≤(((List.replicate (Int.toNat (((0+((((t14.take (Int.toNat (((t14).length:Int) - 1))).drop (Int.toNat 0)):List D).length:Int))+((((t17.take (Int.toNat (((t17).length:Int) - 1))).drop (Int.toNat 0)):List D).length:Int)) - 0)) (.agg [I 0,I 0]:D)):List D).length:Int),0 < (((0+((((t14.take (Int.toNat (((t14).length:Int) - 1))).drop (Int.toNat 0)):List D).length:Int))+((((t17.take (Int.toNat (((t17).length:Int) - 1))).drop (Int.toNat 0)):List D).length:Int)) - 0)∧room cx 46 (Int.toNat (((0+((((t14.take (Int.toNat (((t14).length:Int) - 1))).drop (Int.toNat 0)):List D).length:Int))+((((t17.take (Int.toNat (((t17).length:Int) - 1))).drop (Int.toNat 0)):List D).length:Int)) - 0)),(decide ((((0+((((t14.take (Int.toNat (((t14).length:Int) - 1))).drop (Int.toNat 0)):List D).length:Int))+((((t17.take (Int.toNat (((t17).length:Int) - 1))).drop (Int.toNat 0)):List D).length:Int)) - 0) > 0))=true,Qa (((0+((((t14.take (Int.toNat (((t14).length:Int) - 1))).drop (Int.toNat 0)):List D).length:Int))+((((t17.take (Int.toNat (((t17).length:Int) - 1))).drop (Int.toNat 0)):List D).length:Int)) - 0),Qa 0,(decide (((0+((((t14.take (Int.toNat (((t14).length:Int) - 1))).drop (Int.toNat 0)):List D).length:Int))+((((t17.take (Int.toNat (((t17).length:Int) - 1))).drop (Int.toNat 0)):List D).length:Int)) < 0))=false,Qa 2,(decide (((0+((((t14.take (Int.toNat (((t14).length:Int) - 1))).drop (Int.toNat 0)):List D).length:Int))+((((t17.take (Int.toNat (((t17).length:Int) - 1))).drop (Int.toNat 0)):List D).length:Int)) < 0))=false,Qa ((0+((((t14.take (Int.toNat (((t14).length:Int) - 1))).drop (Int.toNat 0)):List D).length:Int))+((((t17.take (Int.toNat (((t17).length:Int) - 1))).drop (Int.toNat 0)):List D).length:Int)),Qa 1,(decide ((0+((((t14.take (Int.toNat (((t14).length:Int) - 1))).drop (Int.toNat 0)):List D).length:Int)) < 0))=false,Qa (0+((((t14.take (Int.toNat (((t14).length:Int) - 1))).drop (Int.toNat 0)):List D).length:Int)),(0:Int)≤0∧0≤(((t17).length:Int) - 1)∧(((t17).length:Int) - 1)≤((t17).length:Int)∧(t17=[] ∨ 2=2),Qa (((t17).length:Int) - 1),(0:Int)≤0∧0≤(((t14).length:Int) - 1)∧(((t14).length:Int) - 1)≤((t14).length:Int)∧(t14=[] ∨ 2=2),Qa (((t14).length:Int) - 1),QA cx (Ql cx.P 44 0) 44 239 false [(3,.own 244 0),(7,.own 29 0),(8,.d (I ((t16).length:Int))),(9,.d (I 0))] [(29,.row 0 2 t16),(128,.row 0 2 t14),(244,.row 0 2 [])] (.exit 0) [(3,.own 244 0)] [(29,.row 0 2 t16),(128,.row 0 2 t14),(244,.row 0 2 t17)],QA cx (Ql cx.P 45 0) 28 195 false [(0,.own 29 0),(2,.d (I 0)),(3,.d (I (((t11).length:Int) - 1)))] [(29,.row 0 2 t11),(128,.row 0 2 t14)] (.exit 0) [] [(29,.row 0 2 t16),(128,.row 0 2 t14)],Qa (((t11).length:Int) - 1),QA cx (Ql cx.P 44 0) 44 123 false [(3,.own 128 0),(7,.own 29 0),(8,.d (I ((t11).length:Int))),(9,.d (I 0))] [(29,.row 0 2 t11),(128,.row 0 2 [])] (.exit 0) [(3,.own 128 0)] [(29,.row 0 2 t11),(128,.row 0 2 t14)],QA cx (Ql cx.P 43 0) 61 36 false [(0,.own 29 0),(3,.d (I 1))] [(29,.row 0 2 t11)] (.exit 0) [(0,.own 29 0)] [(29,.row 0 2 t11)],(decide (((t11).length:Int) < 2))=false,ZR cx 41 2 a0 [.fn (.func 42) [] []] t11,a0≠[],Qu a0=false,room cx 46 (0+(a0).length),a0≠[],(t6 != 0)=false,Computes cx 36 [.lst false 1 t5] (I t6),Computes cx 38 [.lst false 2 a0,.fn (.func 39) [] []] (.lst false 1 t5),(t3 != 0)=false,Computes cx 36 [.lst true 1 [I t1,I t2]] (I t3),Computes cx 37 [B (decide (((a0).length:Int) > 64)),I 5] (I t2),Computes cx 37 [B (((a0).length:Int) == 0),I 12] (I t1)]):=by kernel_rfl
theorem E1 (a0:List D) (t1:Int) (t2:Int) (t3:Int) (t5:List D) (t6:Int) (t11:List D) (t14:List D) (t16:List D) (t17:List D) (t32:Int) (t33:Int) (t34:Int):QR true 100 cx 6 [.lst false 2 a0] [.ret (I t1),.ret (I t2),.ret (I t3),.br false,.ret (.lst false 1 t5),.ret (I t6),.br false,.br true,.no,.br true,.br false,.obj (some 29) (.d (.tup [])) [.row 2 t11] [],.br true,.br false,.lp [] [0,3] [29] (.exit 0) [(0,.own 29 0)] [(29,.row 0 2 t11)] 118,.br true,.lp [3,2] [3,7,8,9] [29,128] (.exit 0) [(3,.own 128 0)] [(29,.row 0 2 t11),(128,.row 0 2 t14)] 191,.br true,.lp [] [0,2,3] [29,128] (.exit 0) [] [(29,.row 0 2 t16),(128,.row 0 2 t14)] 236,.br true,.lp [3,2] [3,7,8,9] [29,128,244] (.exit 0) [(3,.own 244 0)] [(29,.row 0 2 t16),(128,.row 0 2 t14),(244,.row 0 2 t17)] 307,.lp [] [] [128,244] .ret [] [] 0,.br true,.br true,.no,.no,.no,.no,.br false,.no,.no,.no,.br false,.no,.no,.br true,.br false,.br true,.no,.br true,.ix 0,.br true,.no,.no,.no,.br true,.no,.no,.no,.br true,.no,.no,.ret (I t32),.ret (I t33),.ret (I t34),.br true]=some (.tup [.lst true 0 [],I t34],[(t34 != 0)=true,Computes cx 36 [.lst true 1 [I t32,I t33]] (I t34),Computes cx 37 [B (decide ((((((t14.take (Int.toNat (((t14).length:Int) - 1))).drop (Int.toNat 0))++(((t17.take (Int.toNat (((t17).length:Int) - 1))).drop (Int.toNat 0)):List D)):List D).length:Int) > 16)),I 5] (I t33),Computes cx 37 [B (decide ((((((t14.take (Int.toNat (((t14).length:Int) - 1))).drop (Int.toNat 0))++(((t17.take (Int.toNat (((t17).length:Int) - 1))).drop (Int.toNat 0)):List D)):List D).length:Int) < 3)),I 17] (I t32),Qa 2,room cx 46 ((((t14.take (Int.toNat (((t14).length:Int) - 1))).drop (Int.toNat 0)):List D).length+(((t17.take (Int.toNat (((t17).length:Int) - 1))).drop (Int.toNat 0)):List D).length),Qa 1,room cx 46 (0+(((t14.take (Int.toNat (((t14).length:Int) - 1))).drop (Int.toNat 0)):List D).length),(0:Int)≤0∧0≤(((List.replicate (Int.toNat (((0+((((t14.take (Int.toNat (((t14).length:Int) - 1))).drop (Int.toNat 0)):List D).length:Int))+((((t17.take (Int.toNat (((t17).length:Int) - 1))).drop (Int.toNat 0)):List D).length:Int)) - 0)) (.agg [I 0,I 0]:D)):List D).length:Int),0 < (((0+((((t14.take (Int.toNat (((t14).length:Int) - 1))).drop (Int.toNat 0)):List D).length:Int))+((((t17.take (Int.toNat (((t17).length:Int) - 1))).drop (Int.toNat 0)):List D).length:Int)) - 0)∧room cx 46 (Int.toNat (((0+((((t14.take (Int.toNat (((t14).length:Int) - 1))).drop (Int.toNat 0)):List D).length:Int))+((((t17.take (Int.toNat (((t17).length:Int) - 1))).drop (Int.toNat 0)):List D).length:Int)) - 0)),(decide ((((0+((((t14.take (Int.toNat (((t14).length:Int) - 1))).drop (Int.toNat 0)):List D).length:Int))+((((t17.take (Int.toNat (((t17).length:Int) - 1))).drop (Int.toNat 0)):List D).length:Int)) - 0) > 0))=true,Qa (((0+((((t14.take (Int.toNat (((t14).length:Int) - 1))).drop (Int.toNat 0)):List D).length:Int))+((((t17.take (Int.toNat (((t17).length:Int) - 1))).drop (Int.toNat 0)):List D).length:Int)) - 0),Qa 0,(decide (((0+((((t14.take (Int.toNat (((t14).length:Int) - 1))).drop (Int.toNat 0)):List D).length:Int))+((((t17.take (Int.toNat (((t17).length:Int) - 1))).drop (Int.toNat 0)):List D).length:Int)) < 0))=false,Qa 2,(decide (((0+((((t14.take (Int.toNat (((t14).length:Int) - 1))).drop (Int.toNat 0)):List D).length:Int))+((((t17.take (Int.toNat (((t17).length:Int) - 1))).drop (Int.toNat 0)):List D).length:Int)) < 0))=false,Qa ((0+((((t14.take (Int.toNat (((t14).length:Int) - 1))).drop (Int.toNat 0)):List D).length:Int))+((((t17.take (Int.toNat (((t17).length:Int) - 1))).drop (Int.toNat 0)):List D).length:Int)),Qa 1,(decide ((0+((((t14.take (Int.toNat (((t14).length:Int) - 1))).drop (Int.toNat 0)):List D).length:Int)) < 0))=false,Qa (0+((((t14.take (Int.toNat (((t14).length:Int) - 1))).drop (Int.toNat 0)):List D).length:Int)),(0:Int)≤0∧0≤(((t17).length:Int) - 1)∧(((t17).length:Int) - 1)≤((t17).length:Int)∧(t17=[] ∨ 2=2),Qa (((t17).length:Int) - 1),(0:Int)≤0∧0≤(((t14).length:Int) - 1)∧(((t14).length:Int) - 1)≤((t14).length:Int)∧(t14=[] ∨ 2=2),Qa (((t14).length:Int) - 1),QA cx (Ql cx.P 44 0) 44 239 false [(3,.own 244 0),(7,.own 29 0),(8,.d (I ((t16).length:Int))),(9,.d (I 0))] [(29,.row 0 2 t16),(128,.row 0 2 t14),(244,.row 0 2 [])] (.exit 0) [(3,.own 244 0)] [(29,.row 0 2 t16),(128,.row 0 2 t14),(244,.row 0 2 t17)],QA cx (Ql cx.P 45 0) 28 195 false [(0,.own 29 0),(2,.d (I 0)),(3,.d (I (((t11).length:Int) - 1)))] [(29,.row 0 2 t11),(128,.row 0 2 t14)] (.exit 0) [] [(29,.row 0 2 t16),(128,.row 0 2 t14)],Qa (((t11).length:Int) - 1),QA cx (Ql cx.P 44 0) 44 123 false [(3,.own 128 0),(7,.own 29 0),(8,.d (I ((t11).length:Int))),(9,.d (I 0))] [(29,.row 0 2 t11),(128,.row 0 2 [])] (.exit 0) [(3,.own 128 0)] [(29,.row 0 2 t11),(128,.row 0 2 t14)],QA cx (Ql cx.P 43 0) 61 36 false [(0,.own 29 0),(3,.d (I 1))] [(29,.row 0 2 t11)] (.exit 0) [(0,.own 29 0)] [(29,.row 0 2 t11)],(decide (((t11).length:Int) < 2))=false,ZR cx 41 2 a0 [.fn (.func 42) [] []] t11,a0≠[],Qu a0=false,room cx 46 (0+(a0).length),a0≠[],(t6 != 0)=false,Computes cx 36 [.lst false 1 t5] (I t6),Computes cx 38 [.lst false 2 a0,.fn (.func 39) [] []] (.lst false 1 t5),(t3 != 0)=false,Computes cx 36 [.lst true 1 [I t1,I t2]] (I t3),Computes cx 37 [B (decide (((a0).length:Int) > 64)),I 5] (I t2),Computes cx 37 [B (((a0).length:Int) == 0),I 12] (I t1)]):=by kernel_rfl
theorem E0 (a0:List D) (t1:Int) (t2:Int) (t3:Int) (t5:List D) (t6:Int) (t11:List D) (t14:List D) (t16:List D) (t17:List D) (t32:Int) (t33:Int) (t34:Int):QR true 100 cx 6 [.lst false 2 a0] [.ret (I t1),.ret (I t2),.ret (I t3),.br false,.ret (.lst false 1 t5),.ret (I t6),.br false,.br true,.no,.br true,.br false,.obj (some 29) (.d (.tup [])) [.row 2 t11] [],.br true,.br false,.lp [] [0,3] [29] (.exit 0) [(0,.own 29 0)] [(29,.row 0 2 t11)] 118,.br true,.lp [3,2] [3,7,8,9] [29,128] (.exit 0) [(3,.own 128 0)] [(29,.row 0 2 t11),(128,.row 0 2 t14)] 191,.br true,.lp [] [0,2,3] [29,128] (.exit 0) [] [(29,.row 0 2 t16),(128,.row 0 2 t14)] 236,.br true,.lp [3,2] [3,7,8,9] [29,128,244] (.exit 0) [(3,.own 244 0)] [(29,.row 0 2 t16),(128,.row 0 2 t14),(244,.row 0 2 t17)] 307,.lp [] [] [128,244] .ret [] [] 0,.br true,.br true,.no,.no,.no,.no,.br false,.no,.no,.no,.br false,.no,.no,.br true,.br false,.br false,.no,.no,.no,.br true,.br true,.no,.no,.no,.br true,.br true,.no,.no,.ret (I t32),.ret (I t33),.ret (I t34),.br false]=some (.tup [.lst true 2 [],I 0],[(t34 != 0)=false,Computes cx 36 [.lst true 1 [I t32,I t33]] (I t34),Computes cx 37 [B false,I 5] (I t33),Computes cx 37 [B true,I 17] (I t32),Qa 2,Qu ((t17.take (Int.toNat (((t17).length:Int) - 1))).drop (Int.toNat 0))=true,room cx 46 (0+(((t17.take (Int.toNat (((t17).length:Int) - 1))).drop (Int.toNat 0)):List D).length),Qa 1,Qu ((t14.take (Int.toNat (((t14).length:Int) - 1))).drop (Int.toNat 0))=true,room cx 46 (0+(((t14.take (Int.toNat (((t14).length:Int) - 1))).drop (Int.toNat 0)):List D).length),(decide ((((0+((((t14.take (Int.toNat (((t14).length:Int) - 1))).drop (Int.toNat 0)):List D).length:Int))+((((t17.take (Int.toNat (((t17).length:Int) - 1))).drop (Int.toNat 0)):List D).length:Int)) - 0) > 0))=false,Qa (((0+((((t14.take (Int.toNat (((t14).length:Int) - 1))).drop (Int.toNat 0)):List D).length:Int))+((((t17.take (Int.toNat (((t17).length:Int) - 1))).drop (Int.toNat 0)):List D).length:Int)) - 0),Qa 0,(decide (((0+((((t14.take (Int.toNat (((t14).length:Int) - 1))).drop (Int.toNat 0)):List D).length:Int))+((((t17.take (Int.toNat (((t17).length:Int) - 1))).drop (Int.toNat 0)):List D).length:Int)) < 0))=false,Qa 2,(decide (((0+((((t14.take (Int.toNat (((t14).length:Int) - 1))).drop (Int.toNat 0)):List D).length:Int))+((((t17.take (Int.toNat (((t17).length:Int) - 1))).drop (Int.toNat 0)):List D).length:Int)) < 0))=false,Qa ((0+((((t14.take (Int.toNat (((t14).length:Int) - 1))).drop (Int.toNat 0)):List D).length:Int))+((((t17.take (Int.toNat (((t17).length:Int) - 1))).drop (Int.toNat 0)):List D).length:Int)),Qa 1,(decide ((0+((((t14.take (Int.toNat (((t14).length:Int) - 1))).drop (Int.toNat 0)):List D).length:Int)) < 0))=false,Qa (0+((((t14.take (Int.toNat (((t14).length:Int) - 1))).drop (Int.toNat 0)):List D).length:Int)),(0:Int)≤0∧0≤(((t17).length:Int) - 1)∧(((t17).length:Int) - 1)≤((t17).length:Int)∧(t17=[] ∨ 2=2),Qa (((t17).length:Int) - 1),(0:Int)≤0∧0≤(((t14).length:Int) - 1)∧(((t14).length:Int) - 1)≤((t14).length:Int)∧(t14=[] ∨ 2=2),Qa (((t14).length:Int) - 1),QA cx (Ql cx.P 44 0) 44 239 false [(3,.own 244 0),(7,.own 29 0),(8,.d (I ((t16).length:Int))),(9,.d (I 0))] [(29,.row 0 2 t16),(128,.row 0 2 t14),(244,.row 0 2 [])] (.exit 0) [(3,.own 244 0)] [(29,.row 0 2 t16),(128,.row 0 2 t14),(244,.row 0 2 t17)],QA cx (Ql cx.P 45 0) 28 195 false [(0,.own 29 0),(2,.d (I 0)),(3,.d (I (((t11).length:Int) - 1)))] [(29,.row 0 2 t11),(128,.row 0 2 t14)] (.exit 0) [] [(29,.row 0 2 t16),(128,.row 0 2 t14)],Qa (((t11).length:Int) - 1),QA cx (Ql cx.P 44 0) 44 123 false [(3,.own 128 0),(7,.own 29 0),(8,.d (I ((t11).length:Int))),(9,.d (I 0))] [(29,.row 0 2 t11),(128,.row 0 2 [])] (.exit 0) [(3,.own 128 0)] [(29,.row 0 2 t11),(128,.row 0 2 t14)],QA cx (Ql cx.P 43 0) 61 36 false [(0,.own 29 0),(3,.d (I 1))] [(29,.row 0 2 t11)] (.exit 0) [(0,.own 29 0)] [(29,.row 0 2 t11)],(decide (((t11).length:Int) < 2))=false,ZR cx 41 2 a0 [.fn (.func 42) [] []] t11,a0≠[],Qu a0=false,room cx 46 (0+(a0).length),a0≠[],(t6 != 0)=false,Computes cx 36 [.lst false 1 t5] (I t6),Computes cx 38 [.lst false 2 a0,.fn (.func 39) [] []] (.lst false 1 t5),(t3 != 0)=false,Computes cx 36 [.lst true 1 [I t1,I t2]] (I t3),Computes cx 37 [B (decide (((a0).length:Int) > 64)),I 5] (I t2),Computes cx 37 [B (((a0).length:Int) == 0),I 12] (I t1)]):=by kernel_rfl
theorem EZ (a0:List D) (t1:Int) (t2:Int) (t3:Int) (t5:List D) (t6:Int) (t11:List D) (t14:List D) (t16:List D) (t17:List D) (t32:Int) (t33:Int) (t34:Int):QR true 100 cx 6 [.lst false 2 a0] [.ret (I t1),.ret (I t2),.ret (I t3),.br false,.ret (.lst false 1 t5),.ret (I t6),.br false,.br true,.no,.br true,.br false,.obj (some 29) (.d (.tup [])) [.row 2 t11] [],.br true,.br false,.lp [] [0,3] [29] (.exit 0) [(0,.own 29 0)] [(29,.row 0 2 t11)] 118,.br true,.lp [3,2] [3,7,8,9] [29,128] (.exit 0) [(3,.own 128 0)] [(29,.row 0 2 t11),(128,.row 0 2 t14)] 191,.br true,.lp [] [0,2,3] [29,128] (.exit 0) [] [(29,.row 0 2 t16),(128,.row 0 2 t14)] 236,.br true,.lp [3,2] [3,7,8,9] [29,128,244] (.exit 0) [(3,.own 244 0)] [(29,.row 0 2 t16),(128,.row 0 2 t14),(244,.row 0 2 t17)] 307,.lp [] [] [128,244] .ret [] [] 0,.br true,.br true,.no,.no,.no,.no,.br false,.no,.no,.no,.br false,.no,.no,.br true,.br false,.br false,.no,.no,.no,.br true,.br true,.no,.no,.no,.br true,.br true,.no,.no,.ret (I t32),.ret (I t33),.ret (I t34),.br true]=some (.tup [.lst true 0 [],I t34],[(t34 != 0)=true,Computes cx 36 [.lst true 1 [I t32,I t33]] (I t34),Computes cx 37 [B false,I 5] (I t33),Computes cx 37 [B true,I 17] (I t32),Qa 2,Qu ((t17.take (Int.toNat (((t17).length:Int) - 1))).drop (Int.toNat 0))=true,room cx 46 (0+(((t17.take (Int.toNat (((t17).length:Int) - 1))).drop (Int.toNat 0)):List D).length),Qa 1,Qu ((t14.take (Int.toNat (((t14).length:Int) - 1))).drop (Int.toNat 0))=true,room cx 46 (0+(((t14.take (Int.toNat (((t14).length:Int) - 1))).drop (Int.toNat 0)):List D).length),(decide ((((0+((((t14.take (Int.toNat (((t14).length:Int) - 1))).drop (Int.toNat 0)):List D).length:Int))+((((t17.take (Int.toNat (((t17).length:Int) - 1))).drop (Int.toNat 0)):List D).length:Int)) - 0) > 0))=false,Qa (((0+((((t14.take (Int.toNat (((t14).length:Int) - 1))).drop (Int.toNat 0)):List D).length:Int))+((((t17.take (Int.toNat (((t17).length:Int) - 1))).drop (Int.toNat 0)):List D).length:Int)) - 0),Qa 0,(decide (((0+((((t14.take (Int.toNat (((t14).length:Int) - 1))).drop (Int.toNat 0)):List D).length:Int))+((((t17.take (Int.toNat (((t17).length:Int) - 1))).drop (Int.toNat 0)):List D).length:Int)) < 0))=false,Qa 2,(decide (((0+((((t14.take (Int.toNat (((t14).length:Int) - 1))).drop (Int.toNat 0)):List D).length:Int))+((((t17.take (Int.toNat (((t17).length:Int) - 1))).drop (Int.toNat 0)):List D).length:Int)) < 0))=false,Qa ((0+((((t14.take (Int.toNat (((t14).length:Int) - 1))).drop (Int.toNat 0)):List D).length:Int))+((((t17.take (Int.toNat (((t17).length:Int) - 1))).drop (Int.toNat 0)):List D).length:Int)),Qa 1,(decide ((0+((((t14.take (Int.toNat (((t14).length:Int) - 1))).drop (Int.toNat 0)):List D).length:Int)) < 0))=false,Qa (0+((((t14.take (Int.toNat (((t14).length:Int) - 1))).drop (Int.toNat 0)):List D).length:Int)),(0:Int)≤0∧0≤(((t17).length:Int) - 1)∧(((t17).length:Int) - 1)≤((t17).length:Int)∧(t17=[] ∨ 2=2),Qa (((t17).length:Int) - 1),(0:Int)≤0∧0≤(((t14).length:Int) - 1)∧(((t14).length:Int) - 1)≤((t14).length:Int)∧(t14=[] ∨ 2=2),Qa (((t14).length:Int) - 1),QA cx (Ql cx.P 44 0) 44 239 false [(3,.own 244 0),(7,.own 29 0),(8,.d (I ((t16).length:Int))),(9,.d (I 0))] [(29,.row 0 2 t16),(128,.row 0 2 t14),(244,.row 0 2 [])] (.exit 0) [(3,.own 244 0)] [(29,.row 0 2 t16),(128,.row 0 2 t14),(244,.row 0 2 t17)],QA cx (Ql cx.P 45 0) 28 195 false [(0,.own 29 0),(2,.d (I 0)),(3,.d (I (((t11).length:Int) - 1)))] [(29,.row 0 2 t11),(128,.row 0 2 t14)] (.exit 0) [] [(29,.row 0 2 t16),(128,.row 0 2 t14)],Qa (((t11).length:Int) - 1),QA cx (Ql cx.P 44 0) 44 123 false [(3,.own 128 0),(7,.own 29 0),(8,.d (I ((t11).length:Int))),(9,.d (I 0))] [(29,.row 0 2 t11),(128,.row 0 2 [])] (.exit 0) [(3,.own 128 0)] [(29,.row 0 2 t11),(128,.row 0 2 t14)],QA cx (Ql cx.P 43 0) 61 36 false [(0,.own 29 0),(3,.d (I 1))] [(29,.row 0 2 t11)] (.exit 0) [(0,.own 29 0)] [(29,.row 0 2 t11)],(decide (((t11).length:Int) < 2))=false,ZR cx 41 2 a0 [.fn (.func 42) [] []] t11,a0≠[],Qu a0=false,room cx 46 (0+(a0).length),a0≠[],(t6 != 0)=false,Computes cx 36 [.lst false 1 t5] (I t6),Computes cx 38 [.lst false 2 a0,.fn (.func 39) [] []] (.lst false 1 t5),(t3 != 0)=false,Computes cx 36 [.lst true 1 [I t1,I t2]] (I t3),Computes cx 37 [B (decide (((a0).length:Int) > 64)),I 5] (I t2),Computes cx 37 [B (((a0).length:Int) == 0),I 12] (I t1)]):=by kernel_rfl
theorem EY (a0:List D) (t1:Int) (t2:Int) (t3:Int) (t5:List D) (t6:Int) (t11:List D) (t14:List D) (t16:List D) (t17:List D) (t32:Int) (t33:Int) (t34:Int):QR true 100 cx 6 [.lst false 2 a0] [.ret (I t1),.ret (I t2),.ret (I t3),.br false,.ret (.lst false 1 t5),.ret (I t6),.br false,.br true,.no,.br true,.br false,.obj (some 29) (.d (.tup [])) [.row 2 t11] [],.br true,.br false,.lp [] [0,3] [29] (.exit 0) [(0,.own 29 0)] [(29,.row 0 2 t11)] 118,.br true,.lp [3,2] [3,7,8,9] [29,128] (.exit 0) [(3,.own 128 0)] [(29,.row 0 2 t11),(128,.row 0 2 t14)] 191,.br true,.lp [] [0,2,3] [29,128] (.exit 0) [] [(29,.row 0 2 t16),(128,.row 0 2 t14)] 236,.br true,.lp [3,2] [3,7,8,9] [29,128,244] (.exit 0) [(3,.own 244 0)] [(29,.row 0 2 t16),(128,.row 0 2 t14),(244,.row 0 2 t17)] 307,.lp [] [] [128,244] .ret [] [] 0,.br true,.br true,.no,.no,.no,.no,.br false,.no,.no,.no,.br false,.no,.no,.br true,.br false,.br false,.no,.no,.no,.br true,.br true,.no,.no,.no,.br true,.br false,.no,.no,.ret (I t32),.ret (I t33),.ret (I t34),.br false]=some (.tup [.lst false 2 ((t17.take (Int.toNat (((t17).length:Int) - 1))).drop (Int.toNat 0)),I 0],[(t34 != 0)=false,Computes cx 36 [.lst true 1 [I t32,I t33]] (I t34),Computes cx 37 [B (decide (((((t17.take (Int.toNat (((t17).length:Int) - 1))).drop (Int.toNat 0)):List D).length:Int) > 16)),I 5] (I t33),Computes cx 37 [B (decide (((((t17.take (Int.toNat (((t17).length:Int) - 1))).drop (Int.toNat 0)):List D).length:Int) < 3)),I 17] (I t32),Qa 2,Qu ((t17.take (Int.toNat (((t17).length:Int) - 1))).drop (Int.toNat 0))=false,room cx 46 (0+(((t17.take (Int.toNat (((t17).length:Int) - 1))).drop (Int.toNat 0)):List D).length),Qa 1,Qu ((t14.take (Int.toNat (((t14).length:Int) - 1))).drop (Int.toNat 0))=true,room cx 46 (0+(((t14.take (Int.toNat (((t14).length:Int) - 1))).drop (Int.toNat 0)):List D).length),(decide ((((0+((((t14.take (Int.toNat (((t14).length:Int) - 1))).drop (Int.toNat 0)):List D).length:Int))+((((t17.take (Int.toNat (((t17).length:Int) - 1))).drop (Int.toNat 0)):List D).length:Int)) - 0) > 0))=false,Qa (((0+((((t14.take (Int.toNat (((t14).length:Int) - 1))).drop (Int.toNat 0)):List D).length:Int))+((((t17.take (Int.toNat (((t17).length:Int) - 1))).drop (Int.toNat 0)):List D).length:Int)) - 0),Qa 0,(decide (((0+((((t14.take (Int.toNat (((t14).length:Int) - 1))).drop (Int.toNat 0)):List D).length:Int))+((((t17.take (Int.toNat (((t17).length:Int) - 1))).drop (Int.toNat 0)):List D).length:Int)) < 0))=false,Qa 2,(decide (((0+((((t14.take (Int.toNat (((t14).length:Int) - 1))).drop (Int.toNat 0)):List D).length:Int))+((((t17.take (Int.toNat (((t17).length:Int) - 1))).drop (Int.toNat 0)):List D).length:Int)) < 0))=false,Qa ((0+((((t14.take (Int.toNat (((t14).length:Int) - 1))).drop (Int.toNat 0)):List D).length:Int))+((((t17.take (Int.toNat (((t17).length:Int) - 1))).drop (Int.toNat 0)):List D).length:Int)),Qa 1,(decide ((0+((((t14.take (Int.toNat (((t14).length:Int) - 1))).drop (Int.toNat 0)):List D).length:Int)) < 0))=false,Qa (0+((((t14.take (Int.toNat (((t14).length:Int) - 1))).drop (Int.toNat 0)):List D).length:Int)),(0:Int)≤0∧0≤(((t17).length:Int) - 1)∧(((t17).length:Int) - 1)≤((t17).length:Int)∧(t17=[] ∨ 2=2),Qa (((t17).length:Int) - 1),(0:Int)≤0∧0≤(((t14).length:Int) - 1)∧(((t14).length:Int) - 1)≤((t14).length:Int)∧(t14=[] ∨ 2=2),Qa (((t14).length:Int) - 1),QA cx (Ql cx.P 44 0) 44 239 false [(3,.own 244 0),(7,.own 29 0),(8,.d (I ((t16).length:Int))),(9,.d (I 0))] [(29,.row 0 2 t16),(128,.row 0 2 t14),(244,.row 0 2 [])] (.exit 0) [(3,.own 244 0)] [(29,.row 0 2 t16),(128,.row 0 2 t14),(244,.row 0 2 t17)],QA cx (Ql cx.P 45 0) 28 195 false [(0,.own 29 0),(2,.d (I 0)),(3,.d (I (((t11).length:Int) - 1)))] [(29,.row 0 2 t11),(128,.row 0 2 t14)] (.exit 0) [] [(29,.row 0 2 t16),(128,.row 0 2 t14)],Qa (((t11).length:Int) - 1),QA cx (Ql cx.P 44 0) 44 123 false [(3,.own 128 0),(7,.own 29 0),(8,.d (I ((t11).length:Int))),(9,.d (I 0))] [(29,.row 0 2 t11),(128,.row 0 2 [])] (.exit 0) [(3,.own 128 0)] [(29,.row 0 2 t11),(128,.row 0 2 t14)],QA cx (Ql cx.P 43 0) 61 36 false [(0,.own 29 0),(3,.d (I 1))] [(29,.row 0 2 t11)] (.exit 0) [(0,.own 29 0)] [(29,.row 0 2 t11)],(decide (((t11).length:Int) < 2))=false,ZR cx 41 2 a0 [.fn (.func 42) [] []] t11,a0≠[],Qu a0=false,room cx 46 (0+(a0).length),a0≠[],(t6 != 0)=false,Computes cx 36 [.lst false 1 t5] (I t6),Computes cx 38 [.lst false 2 a0,.fn (.func 39) [] []] (.lst false 1 t5),(t3 != 0)=false,Computes cx 36 [.lst true 1 [I t1,I t2]] (I t3),Computes cx 37 [B (decide (((a0).length:Int) > 64)),I 5] (I t2),Computes cx 37 [B (((a0).length:Int) == 0),I 12] (I t1)]):=by kernel_rfl
theorem EX (a0:List D) (t1:Int) (t2:Int) (t3:Int) (t5:List D) (t6:Int) (t11:List D) (t14:List D) (t16:List D) (t17:List D) (t32:Int) (t33:Int) (t34:Int):QR true 100 cx 6 [.lst false 2 a0] [.ret (I t1),.ret (I t2),.ret (I t3),.br false,.ret (.lst false 1 t5),.ret (I t6),.br false,.br true,.no,.br true,.br false,.obj (some 29) (.d (.tup [])) [.row 2 t11] [],.br true,.br false,.lp [] [0,3] [29] (.exit 0) [(0,.own 29 0)] [(29,.row 0 2 t11)] 118,.br true,.lp [3,2] [3,7,8,9] [29,128] (.exit 0) [(3,.own 128 0)] [(29,.row 0 2 t11),(128,.row 0 2 t14)] 191,.br true,.lp [] [0,2,3] [29,128] (.exit 0) [] [(29,.row 0 2 t16),(128,.row 0 2 t14)] 236,.br true,.lp [3,2] [3,7,8,9] [29,128,244] (.exit 0) [(3,.own 244 0)] [(29,.row 0 2 t16),(128,.row 0 2 t14),(244,.row 0 2 t17)] 307,.lp [] [] [128,244] .ret [] [] 0,.br true,.br true,.no,.no,.no,.no,.br false,.no,.no,.no,.br false,.no,.no,.br true,.br false,.br false,.no,.no,.no,.br true,.br true,.no,.no,.no,.br true,.br false,.no,.no,.ret (I t32),.ret (I t33),.ret (I t34),.br true]=some (.tup [.lst true 0 [],I t34],[(t34 != 0)=true,Computes cx 36 [.lst true 1 [I t32,I t33]] (I t34),Computes cx 37 [B (decide (((((t17.take (Int.toNat (((t17).length:Int) - 1))).drop (Int.toNat 0)):List D).length:Int) > 16)),I 5] (I t33),Computes cx 37 [B (decide (((((t17.take (Int.toNat (((t17).length:Int) - 1))).drop (Int.toNat 0)):List D).length:Int) < 3)),I 17] (I t32),Qa 2,Qu ((t17.take (Int.toNat (((t17).length:Int) - 1))).drop (Int.toNat 0))=false,room cx 46 (0+(((t17.take (Int.toNat (((t17).length:Int) - 1))).drop (Int.toNat 0)):List D).length),Qa 1,Qu ((t14.take (Int.toNat (((t14).length:Int) - 1))).drop (Int.toNat 0))=true,room cx 46 (0+(((t14.take (Int.toNat (((t14).length:Int) - 1))).drop (Int.toNat 0)):List D).length),(decide ((((0+((((t14.take (Int.toNat (((t14).length:Int) - 1))).drop (Int.toNat 0)):List D).length:Int))+((((t17.take (Int.toNat (((t17).length:Int) - 1))).drop (Int.toNat 0)):List D).length:Int)) - 0) > 0))=false,Qa (((0+((((t14.take (Int.toNat (((t14).length:Int) - 1))).drop (Int.toNat 0)):List D).length:Int))+((((t17.take (Int.toNat (((t17).length:Int) - 1))).drop (Int.toNat 0)):List D).length:Int)) - 0),Qa 0,(decide (((0+((((t14.take (Int.toNat (((t14).length:Int) - 1))).drop (Int.toNat 0)):List D).length:Int))+((((t17.take (Int.toNat (((t17).length:Int) - 1))).drop (Int.toNat 0)):List D).length:Int)) < 0))=false,Qa 2,(decide (((0+((((t14.take (Int.toNat (((t14).length:Int) - 1))).drop (Int.toNat 0)):List D).length:Int))+((((t17.take (Int.toNat (((t17).length:Int) - 1))).drop (Int.toNat 0)):List D).length:Int)) < 0))=false,Qa ((0+((((t14.take (Int.toNat (((t14).length:Int) - 1))).drop (Int.toNat 0)):List D).length:Int))+((((t17.take (Int.toNat (((t17).length:Int) - 1))).drop (Int.toNat 0)):List D).length:Int)),Qa 1,(decide ((0+((((t14.take (Int.toNat (((t14).length:Int) - 1))).drop (Int.toNat 0)):List D).length:Int)) < 0))=false,Qa (0+((((t14.take (Int.toNat (((t14).length:Int) - 1))).drop (Int.toNat 0)):List D).length:Int)),(0:Int)≤0∧0≤(((t17).length:Int) - 1)∧(((t17).length:Int) - 1)≤((t17).length:Int)∧(t17=[] ∨ 2=2),Qa (((t17).length:Int) - 1),(0:Int)≤0∧0≤(((t14).length:Int) - 1)∧(((t14).length:Int) - 1)≤((t14).length:Int)∧(t14=[] ∨ 2=2),Qa (((t14).length:Int) - 1),QA cx (Ql cx.P 44 0) 44 239 false [(3,.own 244 0),(7,.own 29 0),(8,.d (I ((t16).length:Int))),(9,.d (I 0))] [(29,.row 0 2 t16),(128,.row 0 2 t14),(244,.row 0 2 [])] (.exit 0) [(3,.own 244 0)] [(29,.row 0 2 t16),(128,.row 0 2 t14),(244,.row 0 2 t17)],QA cx (Ql cx.P 45 0) 28 195 false [(0,.own 29 0),(2,.d (I 0)),(3,.d (I (((t11).length:Int) - 1)))] [(29,.row 0 2 t11),(128,.row 0 2 t14)] (.exit 0) [] [(29,.row 0 2 t16),(128,.row 0 2 t14)],Qa (((t11).length:Int) - 1),QA cx (Ql cx.P 44 0) 44 123 false [(3,.own 128 0),(7,.own 29 0),(8,.d (I ((t11).length:Int))),(9,.d (I 0))] [(29,.row 0 2 t11),(128,.row 0 2 [])] (.exit 0) [(3,.own 128 0)] [(29,.row 0 2 t11),(128,.row 0 2 t14)],QA cx (Ql cx.P 43 0) 61 36 false [(0,.own 29 0),(3,.d (I 1))] [(29,.row 0 2 t11)] (.exit 0) [(0,.own 29 0)] [(29,.row 0 2 t11)],(decide (((t11).length:Int) < 2))=false,ZR cx 41 2 a0 [.fn (.func 42) [] []] t11,a0≠[],Qu a0=false,room cx 46 (0+(a0).length),a0≠[],(t6 != 0)=false,Computes cx 36 [.lst false 1 t5] (I t6),Computes cx 38 [.lst false 2 a0,.fn (.func 39) [] []] (.lst false 1 t5),(t3 != 0)=false,Computes cx 36 [.lst true 1 [I t1,I t2]] (I t3),Computes cx 37 [B (decide (((a0).length:Int) > 64)),I 5] (I t2),Computes cx 37 [B (((a0).length:Int) == 0),I 12] (I t1)]):=by kernel_rfl
theorem EW (a0:List D) (t1:Int) (t2:Int) (t3:Int) (t5:List D) (t6:Int) (t11:List D) (t14:List D) (t16:List D) (t17:List D) (t31:Int) (t32:Int) (t33:Int):QR true 100 cx 6 [.lst false 2 a0] [.ret (I t1),.ret (I t2),.ret (I t3),.br false,.ret (.lst false 1 t5),.ret (I t6),.br false,.br true,.no,.br true,.br false,.obj (some 29) (.d (.tup [])) [.row 2 t11] [],.br true,.br false,.lp [] [0,3] [29] (.exit 0) [(0,.own 29 0)] [(29,.row 0 2 t11)] 118,.br true,.lp [3,2] [3,7,8,9] [29,128] (.exit 0) [(3,.own 128 0)] [(29,.row 0 2 t11),(128,.row 0 2 t14)] 191,.br true,.lp [] [0,2,3] [29,128] (.exit 0) [] [(29,.row 0 2 t16),(128,.row 0 2 t14)] 236,.br true,.lp [3,2] [3,7,8,9] [29,128,244] (.exit 0) [(3,.own 244 0)] [(29,.row 0 2 t16),(128,.row 0 2 t14),(244,.row 0 2 t17)] 307,.lp [] [] [128,244] .ret [] [] 0,.br true,.br true,.no,.no,.no,.no,.br false,.no,.no,.no,.br false,.no,.no,.br true,.br false,.br false,.no,.no,.no,.br true,.br false,.no,.no,.no,.br true,.no,.no,.ret (I t31),.ret (I t32),.ret (I t33),.br false]=some (.tup [.lst false 2 (((t14.take (Int.toNat (((t14).length:Int) - 1))).drop (Int.toNat 0))++(((t17.take (Int.toNat (((t17).length:Int) - 1))).drop (Int.toNat 0)):List D)),I 0],[(t33 != 0)=false,Computes cx 36 [.lst true 1 [I t31,I t32]] (I t33),Computes cx 37 [B (decide ((((((t14.take (Int.toNat (((t14).length:Int) - 1))).drop (Int.toNat 0))++(((t17.take (Int.toNat (((t17).length:Int) - 1))).drop (Int.toNat 0)):List D)):List D).length:Int) > 16)),I 5] (I t32),Computes cx 37 [B (decide ((((((t14.take (Int.toNat (((t14).length:Int) - 1))).drop (Int.toNat 0))++(((t17.take (Int.toNat (((t17).length:Int) - 1))).drop (Int.toNat 0)):List D)):List D).length:Int) < 3)),I 17] (I t31),Qa 2,room cx 46 ((((t14.take (Int.toNat (((t14).length:Int) - 1))).drop (Int.toNat 0)):List D).length+(((t17.take (Int.toNat (((t17).length:Int) - 1))).drop (Int.toNat 0)):List D).length),Qa 1,Qu ((t14.take (Int.toNat (((t14).length:Int) - 1))).drop (Int.toNat 0))=false,room cx 46 (0+(((t14.take (Int.toNat (((t14).length:Int) - 1))).drop (Int.toNat 0)):List D).length),(decide ((((0+((((t14.take (Int.toNat (((t14).length:Int) - 1))).drop (Int.toNat 0)):List D).length:Int))+((((t17.take (Int.toNat (((t17).length:Int) - 1))).drop (Int.toNat 0)):List D).length:Int)) - 0) > 0))=false,Qa (((0+((((t14.take (Int.toNat (((t14).length:Int) - 1))).drop (Int.toNat 0)):List D).length:Int))+((((t17.take (Int.toNat (((t17).length:Int) - 1))).drop (Int.toNat 0)):List D).length:Int)) - 0),Qa 0,(decide (((0+((((t14.take (Int.toNat (((t14).length:Int) - 1))).drop (Int.toNat 0)):List D).length:Int))+((((t17.take (Int.toNat (((t17).length:Int) - 1))).drop (Int.toNat 0)):List D).length:Int)) < 0))=false,Qa 2,(decide (((0+((((t14.take (Int.toNat (((t14).length:Int) - 1))).drop (Int.toNat 0)):List D).length:Int))+((((t17.take (Int.toNat (((t17).length:Int) - 1))).drop (Int.toNat 0)):List D).length:Int)) < 0))=false,Qa ((0+((((t14.take (Int.toNat (((t14).length:Int) - 1))).drop (Int.toNat 0)):List D).length:Int))+((((t17.take (Int.toNat (((t17).length:Int) - 1))).drop (Int.toNat 0)):List D).length:Int)),Qa 1,(decide ((0+((((t14.take (Int.toNat (((t14).length:Int) - 1))).drop (Int.toNat 0)):List D).length:Int)) < 0))=false,Qa (0+((((t14.take (Int.toNat (((t14).length:Int) - 1))).drop (Int.toNat 0)):List D).length:Int)),(0:Int)≤0∧0≤(((t17).length:Int) - 1)∧(((t17).length:Int) - 1)≤((t17).length:Int)∧(t17=[] ∨ 2=2),Qa (((t17).length:Int) - 1),(0:Int)≤0∧0≤(((t14).length:Int) - 1)∧(((t14).length:Int) - 1)≤((t14).length:Int)∧(t14=[] ∨ 2=2),Qa (((t14).length:Int) - 1),QA cx (Ql cx.P 44 0) 44 239 false [(3,.own 244 0),(7,.own 29 0),(8,.d (I ((t16).length:Int))),(9,.d (I 0))] [(29,.row 0 2 t16),(128,.row 0 2 t14),(244,.row 0 2 [])] (.exit 0) [(3,.own 244 0)] [(29,.row 0 2 t16),(128,.row 0 2 t14),(244,.row 0 2 t17)],QA cx (Ql cx.P 45 0) 28 195 false [(0,.own 29 0),(2,.d (I 0)),(3,.d (I (((t11).length:Int) - 1)))] [(29,.row 0 2 t11),(128,.row 0 2 t14)] (.exit 0) [] [(29,.row 0 2 t16),(128,.row 0 2 t14)],Qa (((t11).length:Int) - 1),QA cx (Ql cx.P 44 0) 44 123 false [(3,.own 128 0),(7,.own 29 0),(8,.d (I ((t11).length:Int))),(9,.d (I 0))] [(29,.row 0 2 t11),(128,.row 0 2 [])] (.exit 0) [(3,.own 128 0)] [(29,.row 0 2 t11),(128,.row 0 2 t14)],QA cx (Ql cx.P 43 0) 61 36 false [(0,.own 29 0),(3,.d (I 1))] [(29,.row 0 2 t11)] (.exit 0) [(0,.own 29 0)] [(29,.row 0 2 t11)],(decide (((t11).length:Int) < 2))=false,ZR cx 41 2 a0 [.fn (.func 42) [] []] t11,a0≠[],Qu a0=false,room cx 46 (0+(a0).length),a0≠[],(t6 != 0)=false,Computes cx 36 [.lst false 1 t5] (I t6),Computes cx 38 [.lst false 2 a0,.fn (.func 39) [] []] (.lst false 1 t5),(t3 != 0)=false,Computes cx 36 [.lst true 1 [I t1,I t2]] (I t3),Computes cx 37 [B (decide (((a0).length:Int) > 64)),I 5] (I t2),Computes cx 37 [B (((a0).length:Int) == 0),I 12] (I t1)]):=by kernel_rfl
end Go.Proofs.YtiefmhacicemhaaGreatDoor
