/- What was at a tick: the program's answer and the reference's; what is accepted behind a list. An own text. -/
import Derived.Test.YtljabneifpkbjaaGreatDoorEvents1
import Derived.Test.YtljabneifpkbjaaGreatDoorPAsk
set_option linter.unusedVariables false
set_option linter.unusedSimpArgs false
set_option linter.unnecessarySimpa false
set_option maxRecDepth 20000
namespace Go.Proofs.YtljabneifpkbjaaGreatDoor
open Go.SX
def tkE (e:Ev):Int:=e.2.2.2.1.getD 0 0
def Srt:Int→List Ev→Prop
 | _,[]=>True
 | a,e::l=>a≤tkE e∧Srt (tkE e) l
def upTo (t:Int) (l:List Ev):List Ev:=l.takeWhile fun e=>decide (tkE e≤t)
theorem Qgo {t:Int}:∀ {l:List Ev} {a:Int},Srt a l→t < a→l.filter (fun e=>decide (tkE e≤t))=[]
 | [],a,_,_=>rfl
 | e::l,a,h,ht=>by
  obtain ⟨h1,h2⟩:=h
  rw [List.filter_cons_of_neg (by simp;omega)]
  exact Qgo h2 (by omega)
theorem QgG {t:Int}:∀ {l:List Ev} {a:Int},Srt a l→l.filter (fun e=>decide (tkE e≤t))=upTo t l
 | [],a,_=>rfl
 | e::l,a,h=>by
  obtain ⟨h1,h2⟩:=h
  unfold upTo
  by_cases ht:tkE e≤t
  ·rw [List.filter_cons_of_pos (by simpa using ht),List.takeWhile_cons_of_pos (by simpa using ht),QgG h2];rfl
  ·rw [List.filter_cons_of_neg (by simpa using ht),List.takeWhile_cons_of_neg (by simpa using ht)]
   exact Qgo h2 (by omega)
theorem QgU {t:Int}:∀ {l:List Ev} {a:Int},Srt a l→∀ (i:Nat) (e:Ev),l[i]?=some e→(tkE e≤t↔i < (upTo t l).length)
 | [],a,_,i,e,h=>by simp at h
 | x::l,a,hs,i,e,h=>by
  obtain ⟨h1,h2⟩:=hs
  unfold upTo
  by_cases ht:tkE x≤t
  ·rw [List.takeWhile_cons_of_pos (by simpa using ht),List.length_cons]
   cases i with
   | zero =>
    simp only [List.getElem?_cons_zero,jIj] at h
    subst h
    constructor
    ·intro _;omega
    ·intro _;exact ht
   | succ i =>
    have:=QgU (t:=t) h2 i e (by simpa using h)
    unfold upTo at this
    rw [this]
    omega
  ·rw [List.takeWhile_cons_of_neg (by simpa using ht),List.length_nil]
   constructor
   ·intro he
    cases i with
    | zero =>
     simp only [List.getElem?_cons_zero,jIj] at h
     subst h
     exact absurd he ht
    | succ i =>
     have hl:=Qgo h2 (show t < tkE x by omega)
     have hm:e∈l:=List.mem_of_getElem? (by simpa using h)
     have:=(List.mem_filter (p:=fun e=>decide (tkE e≤t))).2 ⟨hm,jDj he⟩
     rw [hl] at this
     cases this
   ·intro h0;omega
theorem QgT:∀ (l:List Ev) (T:Nat→Int),(∀ i e,l[i]?=some e→T i≤tkE e∧T (i+1)=tkE e)→Srt (T 0) l
 | [],_,_=>trivial
 | e::l,T,h=>by
  obtain ⟨h1,h2⟩:=h 0 e rfl
  refine ⟨h1,?_⟩
  rw [← h2]
  exact QgT l (fun i=>T (i+1)) fun i x hx=>h (i+1) x (by simpa using hx)
theorem Qgt (k:Ki) (r:Reg) (ns:List jSj) (vs:List Int):(act k r ns vs).tick=r.tick:=by
 cases k <;> (unfold act;try rfl)
theorem QgH {c:List Ev} (h:OkL c):Srt 0 c :=
 QgT c (fun i=>(QD (c.take i)).tick) fun i e hx=>by
  obtain ⟨hi,hx2⟩:=jGj hx
  obtain ⟨k,h1,h2,h3⟩:=h i e hx
  have h4:=(QS h3).1
  refine ⟨by show (QD (c.take i)).tick≤e.2.2.2.1.getD 0 0;omega,?_⟩
  show (QD (c.take (i+1))).tick=e.2.2.2.1.getD 0 0
  rw [List.take_succ_eq_append_getElem hi,hx2,GA,XR h2]
  unfold app
  rw [Qgt];rfl
theorem Qf3 (t:Int) (c:List Ev):upTo t c=c.take (upTo t c).length:=List.prefix_iff_eq_take.1 (List.takeWhile_prefix _)
theorem Qgm (t:Int) (c:List Ev):(upTo t c).length≤c.length:=(List.takeWhile_prefix _).length_le
theorem eli0 {l:List Int} (h:0 < l.length):el Vt (l.map I) 0=some (l.getD 0 0):=by
 cases l with
 | nil=>simp at h
 | cons a l=>rfl
theorem Qgy {k:Ki} (h:k≠.undo):0 < kv k:=by cases k <;> first | decide | exact absurd rfl h
theorem kD {n:Nat} {c:List Ev} (hok:OkL c) (hc:c.length≤40) (hn:100≤n) (t:Int) (t1:Int×Int×jVj×jVj×X1) (ht:t1.2.2.2.1=c.map Zr) :
  Q2 (Qe9 n t t1) n (0,[])=some ((upTo t c).map Zr):=by
 have q:=UV (step:=Qe9 n t t1) (E:=jVj) (fun out=>out) c (fun x=>if decide (tkE x≤t)=true then [Zr x] else []) (fun x=>by split <;> simp)
  (fun i out x hx ho=>by
   have hi:=(jGj hx).1
   obtain ⟨k,hk,hg,_⟩:=hok i x hx
   unfold Qe9
   dsimp only
   rw [ht,jTj (ZD hx),jTj ⟨Int.natCast_nonneg i,ZD hx⟩,QeQ hx,jBj]
   dsimp only
   rw [eli0 (by rw [hg.vals];exact Qgy hk),jBj]
   by_cases h:tkE x≤t
   ·rw [jTj (show x.2.2.2.1.getD 0 0≤t from h),jTj (jDj h),jTj (V7 (by decide) (by omega)),jTj (by unfold Qh;omega)];rfl
   ·rw [jFj (show ¬ x.2.2.2.1.getD 0 0≤t from h),jFj (show ¬ decide (tkE x≤t)=true by simpa using h),jTj (by unfold Qh;omega),List.append_nil];rfl)
  (fun out _=>by unfold Qe9;dsimp only;rw [ht,jFj (by simp)]) (k:=n) (by omega)
 rw [q,QeR,QgG (QgH hok)]
theorem Qha {n:Nat} {d:List Ev} (hok:OkL d) (hd:d.length≤30) (hn:100≤n) (t:Int) (t1:Int×Int×jVj×jVj×X1) :
  Q2 (Qe8 n t t1 (d.map Zr)) n (.inl ())=some (if d=[] then .inl () else .inr (Vb (QD d))):=by
 have q:=ZK (step:=Qe8 n t t1 (d.map Zr)) (E:=Unit⊕X1) (fun (_:Unit) (_:Ev)=>.inl ()) (fun _=>if d=[] then .inl () else .inr (Vb (QD d))) (fun i _=>if i=0 then .inl () else .inr ((i:Int),Vb (QD (d.take i)))) d (fun _ _=>True)
  (fun i _ e hx _=>by
   obtain ⟨hi,hx2⟩:=jGj hx
   obtain ⟨k,hk,hg,ha⟩:=hok i e hx
   have hinv:=yw hok hd i (by omega)
   have hap:=QcN hn hinv (by omega) hk hg ha
   have hst:QD (d.take (i+1))=app k (QD (d.take i)) e.2.2.1 e.2.2.2.1:=by
    rw [List.take_succ_eq_append_getElem hi,hx2,GA,XR hg]
   refine ⟨?_,trivial⟩
   rw [jFj (Nat.succ_ne_zero i),hst]
   by_cases h0:i=0
   ·subst h0
    rw [jTj rfl]
    unfold Qe8
    dsimp only
    rw [jTj (show (0:Int) < ((d.map Zr).length:Int) from ZD hx),jTj ⟨Int.le_refl 0,show (0:Int) < ((d.map Zr).length:Int) from ZD hx⟩,show (nth (d.map Zr) 0).bind Ze=_ from QeQ (i:=0) hx,jBj]
    exact congrArg (fun x:Option X1=>x.bind fun ta4=>some (Sum.inl (Sum.inr ((1:Int),ta4)))) hap
   ·rw [jFj h0]
    unfold Qe8
    dsimp only
    rw [jTj (ZD hx),jTj ⟨Int.natCast_nonneg i,ZD hx⟩,QeQ hx,jBj]
    refine Eq.trans (congrArg (fun x:Option X1=>x.bind fun ta4=>if Qh ((i:Int)+1) then some (Sum.inl (Sum.inr ((i:Int)+1,ta4))) else none) hap) ?_
    rw [jBj,jTj (by unfold Qh;omega)];rfl)
  (fun _ _=>by
   by_cases hm:d=[]
   ·subst hm;rfl
   ·have hl:¬ d.length=0:=fun h=>hm (List.eq_nil_of_length_eq_zero h)
    rw [jFj hm,jFj hl,List.take_length]
    unfold Qe8
    dsimp only
    rw [jFj (by simp)]) (s:=()) (k:=n) trivial (by omega)
 have e:∀ l:List Ev,Y6 (E:=Unit⊕X1) (fun (_:Unit) (_:Ev)=>.inl ()) (fun _=>if d=[] then .inl () else .inr (Vb (QD d))) l ()=if d=[] then .inl () else .inr (Vb (QD d)):=by
  intro l
  induction l with
  | nil=>rfl
  | cons x l ih=>exact ih
 rw [e] at q
 exact q
def QgK (t:Int):(Int×Int)⊕List Ev→Int×Int×Bool×Bool×Int×Int×Int×jVj×jVj×jVj×Int
 | .inr c=>if inR t 0 999999999=0 then Vc (QD (upTo t c)) 0 else Vc Reg.zero (inR t 0 999999999)
 | .inl p=>Vc Reg.zero p.2
theorem Qg2 {n:Nat} (hn:100≤n) (l:List Ev) (hl:l.length≤30) (hs:∀ e,e∈l→Yf e) (t:Int):Qfm n (l.map Zr) t=some (QgK t (rep 0 [] l)):=by
 have h:=Xg hn l hl hs
 unfold Qfm
 cases hr:rep 0 [] l with
 | inl p =>
  obtain ⟨i,err⟩:=p
  rw [hr] at h
  obtain ⟨h1,w,h2⟩:=h
  rw [h2,jBj,V2,jBj]
  dsimp only
  rw [VE (by omega),jBj,QT _ h1,jFj h1];rfl
 | inr c =>
  rw [hr] at h
  obtain ⟨h1,h2,h3⟩:=h
  rw [h1,jBj,V2,jBj]
  dsimp only [QgK]
  rw [VE (by omega),jBj,QN _ rfl,Wz]
  by_cases hf:inR t 0 999999999=0
  ·have hlen:=Qgm t c
   rw [jTj hf,jTj hf]
   refine Eq.trans (congrArg (fun x=>Option.bind x _) (kD h2 (by omega) hn t _ rfl)) ?_
   rw [jBj]
   have hok:OkL (upTo t c):=by rw [Qf3];exact uH h2 _
   refine Eq.trans (congrArg (fun x=>Option.bind x _) (Qha hok (by omega) hn t _)) ?_
   rw [jBj]
   by_cases hd:upTo t c=[]
   ·rw [jTj hd,hd];rfl
   ·rw [jFj hd];rfl
  ·rw [jFj hf,jFj hf];rfl
theorem elA1 {c:List Ev} {i:Nat} (h:i < c.length):el Vy (Ur c) ((i:Int)+1)=some (Vb (QD (c.take (i+1)))):=by
 unfold el
 rw [jTj (by omega),show Int.toNat ((i:Int)+1)=i+1 by omega,Ub,wl h]
 rfl
theorem Qg4 {c:List Ev} {i:Nat} (h:i < c.length):ZT (nth (Ur c) (Int.toNat ((i:Int)+1)))=false:=by
 rw [show Int.toNat ((i:Int)+1)=i+1 by omega,Ub,wl h]
 exact Qde _
theorem refT {n:Nat} {c:List Ev} (hok:OkL c) (hc:c.length≤30) (hn:100≤n) (t:Int) :
  Q2 (QeY n t (c.map Zr,Ur c,0,0)) n (.inl 0)=some (if (upTo t c).length=0 then .inl () else .inr (Vb (QD (upTo t c)))):=by
 have q:=ZK (step:=QeY n t (c.map Zr,Ur c,0,0)) (E:=Unit⊕X1) (fun (_:Unit) (_:Ev)=>.inl ()) (fun _=>if (upTo t c).length=0 then .inl () else .inr (Vb (QD (upTo t c))))
  (fun i _=>if min i (upTo t c).length=0 then .inl (i:Int) else .inr ((i:Int),Vb (QD (c.take (min i (upTo t c).length))))) c (fun _ _=>True)
  (fun i _ e hx _=>by
   obtain ⟨hi,hx2⟩:=jGj hx
   obtain ⟨k,hk,hg,ha⟩:=hok i e hx
   have hat:=QgU (t:=t) (QgH hok) i e hx
   have hv:el Vt (e.2.2.2.1.map I) 0=some (tkE e):=eli0 (by rw [hg.vals];exact Qgy hk)
   refine ⟨?_,trivial⟩
   by_cases ht:tkE e≤t
   ·have hj:=hat.1 ht
    rw [show min (i+1) (upTo t c).length=i+1 by omega,jFj (Nat.succ_ne_zero i),show min i (upTo t c).length=i by omega]
    by_cases h0:i=0
    ·subst h0
     rw [jTj rfl]
     unfold QeY
     dsimp only
     rw [jTj (ZD hx),qf hx,jBj]
     dsimp only
     rw [hv,jBj,jTj ht,jTj (by unfold Qh;omega),jFj (by rw [Qg4 hi];decide),elA1 hi,jBj];rfl
    ·rw [jFj h0]
     unfold QeY
     dsimp only
     rw [jTj (ZD hx),qf hx,jBj]
     dsimp only
     rw [hv,jBj,jTj ht,jTj (by unfold Qh;omega),jFj (by rw [Qg4 hi];decide),elA1 hi,jBj];rfl
   ·have hj:¬ i < (upTo t c).length:=fun h=>ht (hat.2 h)
    rw [show min (i+1) (upTo t c).length=(upTo t c).length by omega,show min i (upTo t c).length=(upTo t c).length by omega]
    by_cases h0:(upTo t c).length=0
    ·rw [jTj h0,jTj h0]
     unfold QeY
     dsimp only
     rw [jTj (ZD hx),qf hx,jBj]
     dsimp only
     rw [hv,jBj,jFj ht,jTj (by unfold Qh;omega)];rfl
    ·rw [jFj h0,jFj h0]
     unfold QeY
     dsimp only
     rw [jTj (ZD hx),qf hx,jBj]
     dsimp only
     rw [hv,jBj,jFj ht,jTj (by unfold Qh;omega)];rfl)
  (fun _ _=>by
   rw [show min c.length (upTo t c).length=(upTo t c).length by have:=Qgm t c;omega,← Qf3]
   by_cases h0:(upTo t c).length=0
   ·rw [jTj h0,jTj h0]
    unfold QeY
    dsimp only
    rw [jFj (by simp)]
   ·rw [jFj h0,jFj h0]
    unfold QeY
    dsimp only
    rw [jFj (by simp)]) (s:=()) (k:=n) trivial (by omega)
 have e:∀ l:List Ev,Y6 (E:=Unit⊕X1) (fun (_:Unit) (_:Ev)=>.inl ()) (fun _=>if (upTo t c).length=0 then .inl () else .inr (Vb (QD (upTo t c)))) l ()=if (upTo t c).length=0 then .inl () else .inr (Vb (QD (upTo t c))):=by
  intro l
  induction l with
  | nil=>rfl
  | cons x l ih=>exact ih
 rw [e] at q
 rw [show min 0 (upTo t c).length=0 by omega,jTj rfl] at q
 exact q
theorem QgF {n:Nat} (hn:100≤n) (l:List Ev) (hl:l.length≤30) (hs:∀ e,e∈l→Yf e) (t:Int):Qfl n (l.map Zr) t=some (QgK t (rep 0 [] l)):=by
 unfold Qfl
 rw [QaS hn l hl hs,jBj]
 cases hr:rep 0 [] l with
 | inl p =>
  have hne:¬ p.2=0:=yn _ _ _ _ hr
  refine Eq.trans (jFj hne) rfl
 | inr c =>
  obtain ⟨hok,hcl⟩:=Qaq l [] 0 c Jx (jLj 0) hr
  refine Eq.trans (jTj rfl) ?_
  show _=some (if inR t 0 999999999=0 then Vc (QD (upTo t c)) 0 else Vc Reg.zero (inR t 0 999999999))
  rw [YL,jBj]
  by_cases hf:inR t 0 999999999=0
  ·rw [jFj (by simp [hf]),jTj hf,jTj (show ZT (nth (cntD (.inr c)).2.1 (Int.toNat 0))=true from rfl),jTj (Int.le_refl 0)]
   refine Eq.trans (congrArg (fun x=>Option.bind x _) (refT hok (by omega) hn t)) ?_
   rw [jBj]
   by_cases h0:(upTo t c).length=0
   ·rw [jTj h0,List.eq_nil_of_length_eq_zero h0];rfl
   ·rw [jFj h0];rfl
  ·have h3:inR t 0 999999999=3:=(qO t 0 999999999).resolve_left hf
   rw [jTj (jDj hf),jFj hf,h3];rfl
end Go.Proofs.YtljabneifpkbjaaGreatDoor
