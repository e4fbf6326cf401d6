/- Own texts, merged: PSam, PRgs, PAsk. -/
import Derived.Test.YtljabneifpkbjaaGreatDoorPCou
set_option maxRecDepth 20000
namespace Go.Proofs.YtljabneifpkbjaaGreatDoor
open Go.SX
theorem KL {n:Nat} (l:List jSj) (hl:l.length≤5000) (hn:l.length < n):Z5 n (l.map Sd) (l.map Sd)=some true:=by
 unfold Z5
 rw [jTj rfl]
 have q:=ZK (step:=Wd n (l.map Sd) (l.map Sd)) (E:=Unit⊕Unit) (fun (_:Unit) (_:jSj)=>.inl ()) (fun _=>.inr ()) (fun i _=>(i:Int)) l (fun _ _=>True)
  (fun i _ s hx _=>by
   have hi:=(jGj hx).1
   refine ⟨?_,trivial⟩
   unfold Wd
   rw [jTj (ZD hx),jH hx,jBj,jBj,jFj (by rw [XZ];simp),jTj (by unfold Qh;omega)];rfl)
  (fun s _=>by unfold Wd;rw [jFj (by simp)]) (s:=()) (k:=n) trivial hn
 have e:∀ (l:List jSj),Y6 (E:=Unit⊕Unit) (fun (_:Unit) (_:jSj)=>.inl ()) (fun _=>.inr ()) l ()=.inr ():=by
  intro l
  induction l with
  | nil=>rfl
  | cons x l ih=>exact ih
 rw [e] at q
 rw [show Q2 (Wd n (l.map Sd) (l.map Sd)) n 0=_ from q]
 rfl
theorem Qeu {n:Nat} (l:List Int) (hl:l.length≤5000) (hn:l.length < n):Qd7 n (l.map I) (l.map I)=some true:=by
 unfold Qd7
 rw [jTj rfl]
 have q:=ZK (step:=Qd2 n (l.map I) (l.map I)) (E:=Unit⊕Unit) (fun (_:Unit) (_:Int)=>.inl ()) (fun _=>.inr ()) (fun i _=>(i:Int)) l (fun _ _=>True)
  (fun i _ s hx _=>by
   have hi:=(jGj hx).1
   refine ⟨?_,trivial⟩
   unfold Qd2
   rw [jTj (ZD hx),EM hx,jBj,jBj,jTj rfl,jTj (by unfold Qh;omega)];rfl)
  (fun s _=>by unfold Qd2;rw [jFj (by simp)]) (s:=()) (k:=n) trivial hn
 have e:∀ (l:List Int),Y6 (E:=Unit⊕Unit) (fun (_:Unit) (_:Int)=>.inl ()) (fun _=>.inr ()) l ()=.inr ():=by
  intro l
  induction l with
  | nil=>rfl
  | cons x l ih=>exact ih
 rw [e] at q
 rw [show Q2 (Qd2 n (l.map I) (l.map I)) n 0=_ from q]
 rfl
theorem Qec {n:Nat} (l:List Ev) (hs:∀ e,e∈l→e.2.2.1.length≤60∧e.2.2.2.1.length≤60) (hl:l.length≤5000) (hn:l.length < n) (hn2:100≤n):Qd1 n (l.map Zr) (l.map Zr)=some true:=by
 unfold Qd1
 rw [jTj rfl]
 have q:=ZK (step:=Qd0 n (l.map Zr) (l.map Zr)) (E:=Unit⊕Unit) (fun (_:Unit) (_:Ev)=>.inl ()) (fun _=>.inr ()) (fun i _=>(i:Int)) l (fun _ _=>True)
  (fun i _ e hx _=>by
   have hi:=(jGj hx).1
   obtain ⟨b1,b2⟩:=hs e (List.mem_of_getElem? hx)
   refine ⟨?_,trivial⟩
   unfold Qd0
   rw [jTj (ZD hx),qf hx,jBj,jBj]
   dsimp only
   rw [jTj rfl,jFj (by rw [XZ];simp),KL _ (by omega) (by omega),jBj,jTj rfl,Qeu _ (by omega) (by omega),jBj,jTj rfl,jFj (by rw [XZ];simp),jTj (by unfold Qh;omega)];rfl)
  (fun s _=>by unfold Qd0;rw [jFj (by simp)]) (s:=()) (k:=n) trivial hn
 have e:∀ (l:List Ev),Y6 (E:=Unit⊕Unit) (fun (_:Unit) (_:Ev)=>.inl ()) (fun _=>.inr ()) l ()=.inr ():=by
  intro l
  induction l with
  | nil=>rfl
  | cons x l ih=>exact ih
 rw [e] at q
 rw [show Q2 (Qd0 n (l.map Zr) (l.map Zr)) n 0=_ from q]
 rfl
end Go.Proofs.YtljabneifpkbjaaGreatDoor
set_option maxRecDepth 20000
namespace Go.Proofs.YtljabneifpkbjaaGreatDoor
open Go.SX
theorem Qgs (a:jSj):(a == a)=true:=by
 obtain ⟨l⟩:=a
 show (l == l)=true
 simp
end Go.Proofs.YtljabneifpkbjaaGreatDoor
set_option maxRecDepth 20000
namespace Go.Proofs.YtljabneifpkbjaaGreatDoor
open Go.SX
theorem QaU {n:Nat} (t1:Int×Int×jVj×jVj×X1) (ms:List Mir) (ht:t1.2.2.2.2.2.2.2.2.2.2.2.2.1=ms.map QY) (hl:ms.length≤4000) (hn:ms.length < n) :
  Q2 (Wg n t1) n (.inl 0)=some (if ms.filter isA=[] then .inl () else .inr ((ms.filter isA).map QY)):=by
 have q:=ZK (step:=Wg n t1) (E:=Unit⊕jVj) (fun (s:List Mir) (m:Mir)=>.inl (if isA m=true then s++[m] else s)) (fun s=>if s=[] then .inl () else .inr (s.map QY))
  (fun i s=>if s=[] then .inl (i:Int) else .inr ((i:Int),s.map QY)) ms (fun i s=>s.length≤i)
  (fun i s m hx hs=>by
   have hi:=(jGj hx).1
   refine ⟨?_,by
    show (if isA m=true then s++[m] else s).length≤i+1
    split
    ·rw [List.length_append,List.length_singleton];omega
    ·omega⟩
   by_cases h0:s=[]
   ·subst h0
    rw [jTj rfl]
    unfold Wg
    dsimp only
    rw [ht,jTj (ZD hx),jTj ⟨Int.natCast_nonneg i,ZD hx⟩,Q4 unM hx,jBj]
    unfold isA
    by_cases ha:m.2.2.2.2.2=true
    ·rw [jTj ha,jTj ha,jTj (by unfold Qh;omega),jFj (by simp)];rfl
    ·rw [jFj ha,jFj ha,jTj (by unfold Qh;omega),jTj rfl];rfl
   ·rw [jFj h0]
    unfold Wg
    dsimp only
    rw [ht,jTj (ZD hx),jTj ⟨Int.natCast_nonneg i,ZD hx⟩,Q4 unM hx,jBj]
    unfold isA
    by_cases ha:m.2.2.2.2.2=true
    ·rw [jTj ha,jTj ha,jTj (V7 (by decide) (by rw [List.length_map];omega)),jTj (by unfold Qh;omega),jFj (by simp),List.map_append];rfl
    ·rw [jFj ha,jFj ha,jTj (by unfold Qh;omega),jFj h0];rfl)
  (fun s _=>by
   by_cases h0:s=[]
   ·subst h0
    rw [jTj rfl,jTj rfl]
    unfold Wg
    dsimp only
    rw [ht,jFj (by simp)]
   ·rw [jFj h0,jFj h0]
    unfold Wg
    dsimp only
    rw [ht,jFj (by simp)]) (s:=[]) (k:=n) (jLj _) hn
 have e:∀ (l:List Mir) (s:List Mir),Y6 (E:=Unit⊕jVj) (fun (s:List Mir) (m:Mir)=>.inl (if isA m=true then s++[m] else s)) (fun s=>if s=[] then .inl () else .inr (s.map QY)) l s=(if s++l.filter isA=[] then .inl () else .inr ((s++l.filter isA).map QY)):=by
  intro l
  induction l with
  | nil=>intro s;simp [Y6]
  | cons x l ih =>
   intro s
   show Y6 (E:=Unit⊕jVj) (fun (s:List Mir) (m:Mir)=>.inl (if isA m=true then s++[m] else s)) (fun s=>if s=[] then .inl () else .inr (s.map QY)) l (if isA x=true then s++[x] else s)=_
   rw [ih]
   by_cases h:isA x=true
   ·rw [jTj h,List.filter_cons_of_pos h,List.append_assoc];rfl
   ·rw [jFj h,List.filter_cons_of_neg h]
 rw [e] at q
 exact q
theorem uO {n:Nat} (hn:100≤n) (l:List Ev) (hl:l.length≤30) (hs:∀ e,e∈l→Yf e):YH n (l.map Zr)=some (match rep 0 [] l with
  | .inr c=>((YQ (QD c).mirrors).map Sd,0)
  | .inl p=>([],p.2)):=by
 have h:=Xg hn l hl hs
 unfold YH
 cases hr:rep 0 [] l with
 | inl p =>
  obtain ⟨i,err⟩:=p
  rw [hr] at h
  obtain ⟨h1,w,h2⟩:=h
  rw [h2,jBj]
  dsimp only
  rw [jFj h1]
 | inr c =>
  rw [hr] at h
  obtain ⟨h1,h2,h3⟩:=h
  have hinv:=GG h2 (by omega)
  have hlm:=hinv.lenM
  rw [h1,jBj,jTj rfl,QaU _ (QD c).mirrors rfl (by omega) (by omega),jBj]
  by_cases h0:(QD c).mirrors.filter isA=[]
  ·rw [jTj h0]
   show some (([]:jVj),(0:Int))=some ((YQ (QD c).mirrors).map Sd,0)
   unfold YQ
   rw [h0];rfl
  ·rw [jFj h0]
   dsimp only
   have hfl:((QD c).mirrors.filter isA).length≤(QD c).mirrors.length:=List.length_filter_le _ _
   have q:=UV (step:=Vj n (0,0,l.map Zr,c.map Zr,Vb (QD c)) (((QD c).mirrors.filter isA).map QY)) (E:=jVj) (fun out=>out) ((QD c).mirrors.filter isA) (fun x=>[Sd x.1]) (fun _=>jLj _)
    (fun i out x hx ho=>by
     have hi:=(jGj hx).1
     unfold Vj UQ
     dsimp only
     rw [jTj (ZD hx),jTj ⟨Int.natCast_nonneg i,ZD hx⟩,Q4 unM hx,jBj,jBj,jTj (V7 (by decide) (by omega)),jTj (by unfold Qh;omega)];rfl)
    (fun out _=>by unfold Vj;dsimp only;rw [jFj (by simp)]) (k:=n) (by omega)
   rw [q,jBj,wW]
   unfold YQ
   rw [List.map_map];rfl
theorem yH {n:Nat} (hn:100≤n) (l:List Ev) (hl:l.length≤30) (hs:∀ e,e∈l→Yf e) (t:Int):Yh n (l.map Zr) t=some (match rep 0 [] l with
  | .inr c=>if Qt [0,inR t 0 999999999,QF (decide (t < (QD c).tick)) 22]=0 then (if Zk (QD c) t=0 then ((QD c).light+ZL (QD c) t,(QD c).heat+ZL (QD c) t,0) else (0,0,4)) else (0,0,Qt [0,inR t 0 999999999,QF (decide (t < (QD c).tick)) 22])
  | .inl p=>(0,0,p.2)):=by
 have h:=Xg hn l hl hs
 unfold Yh
 cases hr:rep 0 [] l with
 | inl p =>
  obtain ⟨i,err⟩:=p
  rw [hr] at h
  obtain ⟨h1,w,h2⟩:=h
  rw [h2,jBj,V2,jBj]
  dsimp only
  rw [Zd,jBj,wX (by omega),jBj,QT _ h1,jFj h1]
 | inr c =>
  rw [hr] at h
  obtain ⟨h1,h2,h3⟩:=h
  have hinv:=GG h2 (by omega)
  rw [h1,jBj,V2,jBj]
  refine Eq.trans (congrArg (fun x=>Option.bind x _) (Zd n (decide (t < (QD c).tick)) 22)) ?_
  rw [jBj]
  dsimp only [Vb]
  rw [wX (by omega),jBj]
  by_cases hf:Qt [0,inR t 0 999999999,QF (decide (t < (QD c).tick)) 22]=0
  ·rw [jTj hf,jTj hf]
   have ht:okT (QD c) t:=by
    have a1:=YC.1 (Zv hf (inR t 0 999999999) (by simp))
    have a2:=of_decide_eq_false (YT (e:=22) (by decide) (Zv hf (QF (decide (t < (QD c).tick)) 22) (by simp)))
    exact ⟨by omega,a1.2⟩
   rw [Za hinv (by omega) hn ht,jBj,Z7 hinv (by omega) hn ht]
   by_cases hb:Zk (QD c) t=0
   ·rw [jTj hb,jTj hb];rfl
   ·rw [jFj hb,jFj hb]
    have h4:Zk (QD c) t=4:=by
     unfold Zk at hb ⊢
     split
     ·rename_i h;rw [jTj h] at hb;exact absurd rfl hb
     ·rfl
    rw [h4]
  ·rw [jFj hf,jFj hf]
def cg (a:jSj) (s:Int×Int) (m:Mir):Int×Int:=if m.2.1=a then (s.1+1,if isA m=true then s.2+1 else s.2) else s
def cntM (a:jSj) (ms:List Mir):Int×Int:=Y6 (E:=Int×Int) (fun s m=>.inl (cg a s m)) (fun s=>s) ms (0,0)
theorem QeN {a:jSj} {s:Int×Int} {m:Mir} {i:Nat} (h:(0≤s.1∧s.1≤(i:Int))∧0≤s.2∧s.2≤(i:Int)):(0≤(cg a s m).1∧(cg a s m).1≤((i+1:Nat):Int))∧0≤(cg a s m).2∧(cg a s m).2≤((i+1:Nat):Int):=by
 unfold cg
 split
 ·split
  ·simp only [Int.natCast_add,Int.natCast_one];omega
  ·simp only [Int.natCast_add,Int.natCast_one];omega
 ·simp only [Int.natCast_add,Int.natCast_one];omega
theorem QeM {n:Nat} (a:jSj) {a1 a2:jVj} {a3 a4:Int} {a5 a6:Bool} {a7 a8 a9:Int} {a10 a12:jVj} (ms:List Mir) (hl:ms.length≤4000) (hn:ms.length < n):VV n a a1 a2 a3 a4 a5 a6 a7 a8 a9 a10 (ms.map QY) a12=some (cntM a ms):=by
 unfold VV
 have q:=ZK (step:=Vu n a a1 a2 a3 a4 a5 a6 a7 a8 a9 a10 (ms.map QY) a12) (E:=Int×Int) (fun (s:Int×Int) (m:Mir)=>.inl (cg a s m)) (fun s=>s) (fun i s=>(((i:Int),s.1,s.2):Int×Int×Int)) ms (fun i s=>(0≤s.1∧s.1≤(i:Int))∧0≤s.2∧s.2≤(i:Int))
  (fun i s m hx hs=>by
   have hi:=(jGj hx).1
   refine ⟨?_,QeN hs⟩
   obtain ⟨⟨b1,b2⟩,b3,b4⟩:=hs
   unfold Vu
   dsimp only
   rw [jTj (ZD hx),jTj ⟨Int.natCast_nonneg i,ZD hx⟩,Q4 unM hx,jBj]
   by_cases hm:m.2.1=a
   ·rw [jFj (by rw [XZ,jDj hm];decide),jTj (by unfold Qh;omega)]
    by_cases ha:m.2.2.2.2.2=true
    ·rw [jTj ha,jTj (by unfold Qh;omega),jTj (by unfold Qh;omega),show cg a s m=(s.1+1,s.2+1) from by unfold cg isA;rw [jTj hm,jTj ha]];rfl
    ·rw [jFj ha,jTj (by unfold Qh;omega),show cg a s m=(s.1+1,s.2) from by unfold cg isA;rw [jTj hm,jFj ha]];rfl
   ·rw [jTj (by rw [XZ,jEj hm];rfl),jTj (by unfold Qh;omega),show cg a s m=s from by unfold cg;rw [jFj hm]];rfl)
  (fun s _=>by unfold Vu;dsimp only;rw [jFj (by simp)]) (s:=(0,0)) (by simp) (k:=n) hn
 exact (congrArg (fun x:Option (Int×Int)=>x.bind fun t1=>some (t1.1,t1.2)) q)
theorem Qey {n:Nat} (hn:100≤n) (l:List Ev) (hl:l.length≤30) (hs:∀ e,e∈l→Yf e) (a:jSj):XD n (l.map Zr) a=some (match rep 0 [] l with
  | .inr c=>if QF (!Zu (QD c).sectors a) 10=0 then ((cntM a (QD c).mirrors).1,(cntM a (QD c).mirrors).2,0) else (0,0,QF (!Zu (QD c).sectors a) 10)
  | .inl p=>(0,0,p.2)):=by
 have h:=Xg hn l hl hs
 unfold XD
 cases hr:rep 0 [] l with
 | inl p =>
  obtain ⟨i,err⟩:=p
  rw [hr] at h
  obtain ⟨h1,w,h2⟩:=h
  rw [h2,jBj]
  dsimp only
  rw [jFj h1]
 | inr c =>
  rw [hr] at h
  obtain ⟨h1,h2,h3⟩:=h
  have hinv:=GG h2 (by omega)
  have hls:=hinv.secs
  have hlm:=hinv.lenM
  rw [h1,jBj]
  dsimp only [Vb]
  rw [jTj rfl,W4 _ _ (by omega) (by omega),jBj,Zd,jBj]
  by_cases hf:QF (!Zu (QD c).sectors a) 10=0
  ·rw [jTj hf,jTj hf,QeM a _ (by omega) (by omega),jBj]
  ·rw [jFj hf,jFj hf]
def abtK (m s:jSj) (ns:List jSj):Ki→Bool
 | .sun=>true
 | .fill=>true
 | .drain=>true
 | .trip=>true
 | .reset=>true
 | .sector=>decide (ns.getD 0 ⟨#[]⟩=s)
 | .dim=>decide (ns.getD 0 ⟨#[]⟩=s)
 | .offer=>false
 | .deliver=>false
 | .bill=>false
 | _=>decide (ns.getD 0 ⟨#[]⟩=m)
def abt (m s:jSj) (e:Ev):Bool:=match yJ e.2.1.data.toList with
 | some k=>abtK m s e.2.2.1 k
 | none=>false
theorem el0 {l:List jSj} (h:0 < l.length):el Ww (l.map Sd) 0=some (l.getD 0 ⟨#[]⟩):=by
 cases l with
 | nil=>simp at h
 | cons a l=>rfl
theorem QeS {e:Ev} {k:Ki} (hg:Good e k) (m s:jSj):abt m s e=abtK m s e.2.2.1 k:=by
 unfold abt
 rw [hg.kind,E7]
theorem QeI (n:Nat) {e:Ev} {k:Ki} (hk:k≠.undo) (hg:Good e k) (m s:jSj):U9 n e.1 e.2.1 (e.2.2.1.map Sd) (e.2.2.2.1.map I) e.2.2.2.2 m s=some (abt m s e):=by
 rw [QeS hg]
 have h0:=hg.kind
 have hn:=hg.names
 unfold U9
 cases k
 case undo=>exact absurd rfl hk
 all_goals dsimp only [kw] at h0
 all_goals (repeat (first | rw [jTj (keq h0 rfl)] | rw [jFj (kne h0 (by decide))]))
 all_goals first | rfl | (rw [el0 (by rw [hn];decide),jBj,XZ];rfl)
def numF:Nat→List Ev→List Ev
 | _,[]=>[]
 | i,e::l=>((i:Int)+1,e.2)::numF (i+1) l
theorem QeE:∀ (l:List Ev) (i:Nat),(numF i l).length=l.length
 | [],_=>rfl
 | e::l,i=>by unfold numF;rw [List.length_cons,List.length_cons,QeE l]
theorem QeA:∀ (l s:List Ev),Y6 (E:=jVj) (fun (s:List Ev) (e:Ev)=>.inl (s++[((s.length:Int)+1,e.2)])) (fun s=>s.map Zr) l s=(s++numF s.length l).map Zr
 | [],s=>by unfold Y6 numF;rw [List.append_nil]
 | e::l,s=>by
  show Y6 (E:=jVj) (fun (s:List Ev) (e:Ev)=>.inl (s++[((s.length:Int)+1,e.2)])) (fun s=>s.map Zr) l (s++[((s.length:Int)+1,e.2)])=_
  rw [QeA l,List.length_append,List.length_singleton,List.append_assoc];rfl
theorem QeR (p:Ev→Bool):∀ (l:List Ev),(l.flatMap fun x=>if p x=true then [Zr x] else [])=(l.filter p).map Zr
 | []=>rfl
 | x::l=>by
  rw [List.flatMap_cons,QeR p l]
  by_cases h:p x=true
  ·rw [jTj h,List.filter_cons_of_pos h];rfl
  ·rw [jFj h,List.filter_cons_of_neg h];rfl
theorem QeQ {l:List Ev} {i:Nat} {e:Ev} (h:l[i]?=some e):(nth (l.map Zr) (Int.toNat (i:Int))).bind Ze=some (e.1,e.2.1,e.2.2.1.map Sd,e.2.2.2.1.map I,e.2.2.2.2):=by
 rw [Int.toNat_natCast,Ub,List.getElem?_map,h]
 rfl
theorem QeP {n:Nat} {c:List Ev} (hok:OkL c) (hc:c.length≤40) (hn:100≤n) (a:jSj) (t1:Int×Int×jVj×jVj×X1) (ht:t1.2.2.2.1=c.map Zr) (m:jSj×jSj×Int×Int×Bool×Bool) :
  Q2 (UJ n a t1 m) n (0,[])=some ((c.filter (abt a m.2.1)).map Zr):=by
 have q:=UV (step:=UJ n a t1 m) (E:=jVj) (fun out=>out) c (fun x=>if abt a m.2.1 x=true then [Zr x] else []) (fun x=>by split <;> simp)
  (fun i out x hx ho=>by
   have hi:=(jGj hx).1
   obtain ⟨k,hk,hg,_⟩:=hok i x hx
   unfold UJ
   dsimp only
   rw [ht,jTj (ZD hx),jTj ⟨Int.natCast_nonneg i,ZD hx⟩,QeQ hx,jBj]
   dsimp only
   rw [QeI n hk hg,jBj]
   by_cases h:abt a m.2.1 x=true
   ·rw [jTj h,jTj h,jTj (V7 (by decide) (by omega)),jTj (by unfold Qh;omega)];rfl
   ·rw [jFj h,jFj h,jTj (by unfold Qh;omega),List.append_nil];rfl)
  (fun out _=>by unfold UJ;dsimp only;rw [ht,jFj (by simp)]) (k:=n) (by omega)
 rw [q,QeR]
theorem QeT {n:Nat} (l:List Ev) (hs:∀ e,e∈l→e.2.2.1.length≤60∧e.2.2.2.1.length≤60) (hl:l.length≤40) (hn:100≤n):Q2 (UI n (l.map Zr)) n (0,[])=some ((numF 0 l).map Zr):=by
 have q:=ZK (step:=UI n (l.map Zr)) (E:=jVj) (fun (s:List Ev) (e:Ev)=>.inl (s++[((s.length:Int)+1,e.2)])) (fun s=>s.map Zr) (fun i s=>((i:Int),s.map Zr)) l (fun i s=>s.length=i)
  (fun i s e hx hi=>by
   have hlt:=(jGj hx).1
   obtain ⟨b1,b2⟩:=hs e (List.mem_of_getElem? hx)
   refine ⟨?_,by show (s++[((s.length:Int)+1,e.2)]).length=i+1;rw [List.length_append,hi];rfl⟩
   unfold UI
   dsimp only
   rw [jTj (ZD hx),jTj ⟨Int.natCast_nonneg i,ZD hx⟩,QeQ hx,jBj]
   dsimp only
   rw [jTj (by rw [List.length_map];omega),jTj (by rw [List.length_map];omega),jTj (by rw [List.length_map];unfold Qh;omega),jTj (V7 (by decide) (by rw [List.length_map];omega)),jTj (by unfold Qh;omega),uF,uF,List.length_map,List.map_append];rfl)
  (fun s _=>by unfold UI;dsimp only;rw [jFj (by simp)]) (s:=[]) rfl (k:=n) (by omega)
 rw [QeA] at q
 exact q
theorem QeV (k:Ki):kn k≤60:=by cases k <;> decide
theorem QeU (k:Ki):kv k≤60:=by cases k <;> decide
theorem QeJ {c:List Ev} (hok:OkL c):∀ e,e∈c→e.2.2.1.length≤60∧e.2.2.2.1.length≤60:=fun e he=>by
 obtain ⟨i,hi⟩:=List.getElem?_of_mem he
 obtain ⟨k,_,hg,_⟩:=hok i e hi
 rw [hg.names,hg.vals]
 exact ⟨QeV k,QeU k⟩
theorem QeL {ms:List Mir} {a:jSj} (h:Zu (nmM ms) a=true):(mAt ms a).1=a:=by
 obtain ⟨p1,p2,p3⟩:=WP h
 obtain ⟨i,hi⟩:=Option.isSome_iff_exists.1 (show (pos (nmM ms) a).isSome=true from h)
 have e:iM ms a=i:=by unfold iM;rw [hi];rfl
 obtain ⟨h1,h2⟩:=wB hi
 rw [← e] at h2
 unfold nmM at h2
 rw [List.getElem?_map,p3] at h2
 exact Option.some.inj h2
def stoN (c:List Ev) (a:jSj):List Ev:=numF 0 (c.filter (abt a (mAt (QD c).mirrors a).2.1))
theorem QeF {n:Nat} (hn:100≤n) (l:List Ev) (hl:l.length≤30) (hs:∀ e,e∈l→Yf e) (a:jSj):Ei n (l.map Zr) a=some (match rep 0 [] l with
  | .inr c=>if QF (!Zu (nmM (QD c).mirrors) a) 10=0 then ((stoN c a).map Zr,0) else ([],QF (!Zu (nmM (QD c).mirrors) a) 10)
  | .inl p=>([],p.2)):=by
 have h:=Xg hn l hl hs
 unfold Ei
 cases hr:rep 0 [] l with
 | inl p =>
  obtain ⟨i,err⟩:=p
  rw [hr] at h
  obtain ⟨h1,w,h2⟩:=h
  rw [h2,jBj]
  dsimp only
  rw [jFj h1]
 | inr c =>
  rw [hr] at h
  obtain ⟨h1,h2,h3⟩:=h
  have hinv:=GG h2 (by omega)
  have hlm:=hinv.lenM
  rw [h1,jBj,jTj rfl]
  show _=some (if QF (!Zu (nmM (QD c).mirrors) a) 10=0 then ((stoN c a).map Zr,(0:Int)) else (([]:jVj),QF (!Zu (nmM (QD c).mirrors) a) 10))
  refine Eq.trans (congrArg (fun x=>Option.bind x _) (UC (QD c).mirrors (by omega) (by omega))) ?_
  rw [jBj,W4 _ _ (by rw [Zo];omega) (by rw [Zo];omega),jBj,Zd,jBj]
  by_cases hf:QF (!Zu (nmM (QD c).mirrors) a) 10=0
  ·have hh:=ZW hf
   obtain ⟨p1,p2,p3⟩:=WP hh
   rw [jTj hf,jTj hf,Wb _ _ (by rw [Zo];omega) (by rw [Zo];omega),jBj]
   refine Eq.trans (jTj (Jl p1 p2)) ?_
   rw [p1]
   refine Eq.trans (congrArg (fun x=>Option.bind x _) (Q4 unM p3)) ?_
   rw [jBj,QeP h2 (by omega) hn a _ rfl,jBj,QeT _ (fun e he=>QeJ h2 e (List.mem_filter.1 he).1) (by have:=List.length_filter_le (abt a (mAt (QD c).mirrors a).2.1) c;omega) hn,jBj];rfl
  ·rw [jFj hf,jFj hf]
theorem Qfu {n:Nat} (hn:100≤n) (l:List Ev) (hl:l.length≤30) (hs:∀ e,e∈l→Yf e):XE n (l.map Zr)=some (repD (rep 0 [] l)):=by
 have h:=Xg hn l hl hs
 unfold XE
 cases hr:rep 0 [] l with
 | inl p =>
  obtain ⟨i,err⟩:=p
  rw [hr] at h
  obtain ⟨h1,w,h2⟩:=h
  rw [h2,jBj]
  dsimp only
  rw [jFj h1];rfl
 | inr c =>
  rw [hr] at h
  obtain ⟨h1,h2,h3⟩:=h
  rw [h1,jBj,jTj rfl];rfl
def accD (i:Nat) (e:Ev):(Int×Int)⊕List Ev→Int
 | .inr c=>YM i c e
 | .inl p=>p.2
theorem Qf8 {n:Nat} (hn:100≤n) (l:List Ev) (hl:l.length≤30) (hs:∀ e,e∈l→Yf e) (e:Ev) (he:Yf e):Qfe n (l.map Zr) e.1 e.2.1 (e.2.2.1.map Sd) (e.2.2.2.1.map I) e.2.2.2.2=some (accD l.length e (rep 0 [] l)):=by
 have h:=Xg hn l hl hs
 unfold Qfe
 cases hr:rep 0 [] l with
 | inl p =>
  obtain ⟨i,err⟩:=p
  rw [hr] at h
  obtain ⟨h1,w,h2⟩:=h
  rw [h2,jBj,V3 hn e he,jBj,Zd,jBj]
  dsimp only
  rw [wX (by omega),jBj,QT _ h1,jFj h1];rfl
 | inr c =>
  rw [hr] at h
  obtain ⟨h1,h2,h3⟩:=h
  rw [h1,jBj,V3 hn e he,jBj,Zd,jBj]
  dsimp only [accD]
  rw [wX (by omega),jBj,QN _ rfl,show QF (decide (((l.map Zr).length:Int) ≥ 1000)) 5=0 from by rw [List.length_map,jEj (by omega)];rfl]
  by_cases hz:chk e=0
  ·rw [QN _ hz,Wz,jTj rfl]
   have q:=Qal hn h2 (by omega) (evs:=l.map Zr) (by rw [List.length_map];omega) hz
   rw [List.length_map] at q
   exact congrArg (fun x:Option Int=>x.bind fun t6=>some t6) q
  ·rw [QT _ hz,jFj hz]
   unfold YM
   rw [jFj hz]
theorem Qgk (e:Ev):∀ (l cnt:List Ev) (i:Nat),rep i cnt (l++[e])=(match rep i cnt l with
  | .inr c=>if YM (i+l.length) c e=0 then .inr (VO c e) else .inl (((i+l.length:Nat):Int)+1,YM (i+l.length) c e)
  | .inl p=>.inl p)
 | [],cnt,i=>by
  show rep i cnt [e]=_
  show (if YM i cnt e=0 then rep (i+1) (VO cnt e) [] else .inl ((i:Int)+1,YM i cnt e))=(if YM i cnt e=0 then .inr (VO cnt e) else .inl (((i:Nat):Int)+1,YM i cnt e))
  by_cases h:YM i cnt e=0
  ·rw [jTj h,jTj h];rfl
  ·rw [jFj h,jFj h]
 | x::l,cnt,i=>by
  rw [List.cons_append]
  unfold rep
  by_cases h:YM i cnt x=0
  ·rw [jTj h,jTj h,Qgk e l,show i+1+l.length=i+(x::l).length by rw [List.length_cons];omega]
  ·rw [jFj h,jFj h]
end Go.Proofs.YtljabneifpkbjaaGreatDoor
