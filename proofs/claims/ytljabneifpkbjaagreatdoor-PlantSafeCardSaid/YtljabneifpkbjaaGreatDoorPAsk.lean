/- Own texts, merged: PSam, PRgs, PAsk. -/
import Derived.Test.YtljabneifpkbjaaGreatDoorPCou
set_option linter.unusedVariables false
set_option linter.unusedSimpArgs false
set_option linter.unnecessarySimpa false
set_option maxRecDepth 20000
namespace Go.Proofs.YtljabneifpkbjaaGreatDoor
open Go.SX
theorem KL {n:Nat} (l:List jSj) (hl:l.length≤5000) (hn:l.length < n):Z5 n (l.map Sd) (l.map Sd)=some true:=by
 unfold Z5
 rw [jTj rfl]
 have q:=ZK (step:=Wd n (l.map Sd) (l.map Sd)) (E:=Unit⊕Unit) (fun (_:Unit) (_:jSj)=>.inl ()) (fun _=>.inr ()) (fun i _=>(i:Int)) l (fun _ _=>True)
  (fun i _ s hx _=>by
   have hi:=(jGj hx).1
   refine ⟨?_,trivial⟩
   unfold Wd
   rw [jTj (ZD hx),jH hx,jBj,jBj,jFj (by rw [XZ];simp),jTj (by unfold Qh;omega)];rfl)
  (fun s _=>by unfold Wd;rw [jFj (by simp)]) (s:=()) (k:=n) trivial hn
 have e:∀ (l:List jSj),Y6 (E:=Unit⊕Unit) (fun (_:Unit) (_:jSj)=>.inl ()) (fun _=>.inr ()) l ()=.inr ():=by
  intro l
  induction l with
  | nil=>rfl
  | cons x l ih=>exact ih
 rw [e] at q
 rw [show Q2 (Wd n (l.map Sd) (l.map Sd)) n 0=_ from q]
 rfl
end Go.Proofs.YtljabneifpkbjaaGreatDoor
set_option maxRecDepth 20000
namespace Go.Proofs.YtljabneifpkbjaaGreatDoor
open Go.SX
theorem QfZ {α:Type} (enc:α→D) {ms:List α} {i:Nat} {x:α} (h:ms[i]?=some x):(ms.take (i+1)).map enc=(ms.take i).map enc++[enc x]:=by
 obtain ⟨hi,hx⟩:=jGj h
 rw [List.take_succ_eq_append_getElem hi,List.map_append,hx];rfl
theorem Qf7 {α:Type} (enc:α→D) {step:Unit⊕(Int×jVj)→Option ((Unit⊕(Int×jVj))⊕(Unit⊕jVj))} (ms:List α)
  (h0:∀ x,ms[0]?=some x→step (.inl ())=some (.inl (.inr (1,[enc x])))) (hz:ms=[]→step (.inl ())=some (.inr (.inl ())))
  (hs:∀ (i:Nat) x,ms[i]?=some x→0 < i→step (.inr ((i:Int),(ms.take i).map enc))=some (.inl (.inr (((i+1:Nat):Int),(ms.take (i+1)).map enc))))
  (he:step (.inr ((ms.length:Int),ms.map enc))=some (.inr (.inr (ms.map enc)))) {k:Nat} (hk:ms.length < k):Q2 step k (.inl ())=some (if ms=[] then .inl () else .inr (ms.map enc)):=by
 have q:=ZK (step:=step) (E:=Unit⊕jVj) (fun (_:Unit) (_:α)=>.inl ()) (fun _=>if ms=[] then .inl () else .inr (ms.map enc)) (fun i _=>if i=0 then .inl () else .inr ((i:Int),(ms.take i).map enc)) ms (fun _ _=>True)
  (fun i _ x hx _=>by
   refine ⟨?_,trivial⟩
   rw [jFj (Nat.succ_ne_zero i)]
   by_cases hi:i=0
   ·subst hi
    rw [jTj rfl,h0 x hx,QfZ enc hx,List.take_zero];rfl
   ·rw [jFj hi];exact hs i x hx (by omega))
  (fun _ _=>by
   by_cases hm:ms=[]
   ·rw [jTj hm,hm];exact hz hm
   ·rw [jFj hm,jFj (fun h=>hm (List.eq_nil_of_length_eq_zero h)),List.take_length];exact he) (s:=()) (k:=k) trivial hk
 have e:∀ l:List α,Y6 (E:=Unit⊕jVj) (fun (_:Unit) (_:α)=>.inl ()) (fun _=>if ms=[] then .inl () else .inr (ms.map enc)) l ()=if ms=[] then .inl () else .inr (ms.map enc):=by
  intro l
  induction l with
  | nil=>rfl
  | cons x l ih=>exact ih
 rw [e] at q
 exact q
theorem reg1 {n:Nat} (hn:100≤n) {a0 a1:Int} {a2 a3:Bool} {a4 a5 a6:Int} {a7 a9:jVj} (ms:List Mir) (hl:ms.length≤40):Q2 (Qe6 n a0 a1 a2 a3 a4 a5 a6 a7 (ms.map QY) a9) n (.inl ())=some (if ms=[] then .inl () else .inr (ms.map QY)) :=
 Qf7 QY ms
  (fun x hx=>by
   unfold Qe6
   dsimp only
   rw [jTj (show (0:Int) < ((ms.map QY).length:Int) from ZD hx),show el QM (ms.map QY) 0=some x from Xr (i:=0) unM hx,jBj];rfl)
  (fun h=>by subst h;rfl)
  (fun i x hx h0=>by
   have hi:=(jGj hx).1
   unfold Qe6
   dsimp only
   rw [jTj (ZD hx),Xr unM hx,jBj,jTj (V7 (by decide) (by rw [List.length_map,List.length_take];omega)),jTj (by unfold Qh;omega),QfZ QY hx];rfl)
  (by unfold Qe6;dsimp only;rw [jFj (by simp)]) (by omega)
theorem reg2 {n:Nat} (hn:100≤n) {a0 a1:Int} {a2 a3:Bool} {a4 a5 a6:Int} {a7:jVj} (ms:List Off) (hl:ms.length≤40):Q2 (Qe5 n a0 a1 a2 a3 a4 a5 a6 a7 (ms.map Zj)) n (.inl ())=some (if ms=[] then .inl () else .inr (ms.map Zj)) :=
 Qf7 Zj ms
  (fun x hx=>by
   unfold Qe5
   dsimp only
   rw [jTj (show (0:Int) < ((ms.map Zj).length:Int) from ZD hx),show el Z6 (ms.map Zj) 0=some x from Xr (i:=0) unO hx,jBj];rfl)
  (fun h=>by subst h;rfl)
  (fun i x hx h0=>by
   have hi:=(jGj hx).1
   unfold Qe5
   dsimp only
   rw [jTj (ZD hx),Xr unO hx,jBj,jTj (V7 (by decide) (by rw [List.length_map,List.length_take];omega)),jTj (by unfold Qh;omega),QfZ Zj hx];rfl)
  (by unfold Qe5;dsimp only;rw [jFj (by simp)]) (by omega)
theorem reg3 {n:Nat} (hn:100≤n) {a0 a1:Int} {a2 a3:Bool} {a4 a5 a6:Int} {a7 t1:jVj} (ms:List Off) (hl:ms.length≤40):Q2 (Qe4 n a0 a1 a2 a3 a4 a5 a6 a7 (ms.map Zj) t1) n (.inl ())=some (if ms=[] then .inl () else .inr (ms.map Zj)) :=
 Qf7 Zj ms
  (fun x hx=>by
   unfold Qe4
   dsimp only
   rw [jTj (show (0:Int) < ((ms.map Zj).length:Int) from ZD hx),show el Z6 (ms.map Zj) 0=some x from Xr (i:=0) unO hx,jBj];rfl)
  (fun h=>by subst h;rfl)
  (fun i x hx h0=>by
   have hi:=(jGj hx).1
   unfold Qe4
   dsimp only
   rw [jTj (ZD hx),Xr unO hx,jBj,jTj (V7 (by decide) (by rw [List.length_map,List.length_take];omega)),jTj (by unfold Qh;omega),QfZ Zj hx];rfl)
  (by unfold Qe4;dsimp only;rw [jFj (by simp)]) (by omega)
theorem QfE {n:Nat} (hn:100≤n) {r:Reg} (hm:r.mirrors.length≤40) (ho:r.offers.length≤40):Qe3 n r.tick r.level r.filled r.tripped r.light r.heat r.money (r.sectors.map Sd) (r.mirrors.map QY) (r.offers.map Zj)=some (Vb r):=by
 unfold Qe3
 rw [reg1 hn _ hm,jBj]
 unfold Vb
 by_cases h1:r.mirrors=[]
 ·rw [jTj h1]
  dsimp only
  rw [reg2 hn _ ho,jBj,h1]
  by_cases h2:r.offers=[]
  ·rw [jTj h2,h2];rfl
  ·rw [jFj h2];rfl
 ·rw [jFj h1]
  dsimp only
  rw [reg3 hn _ ho,jBj]
  by_cases h2:r.offers=[]
  ·rw [jTj h2,h2];rfl
  ·rw [jFj h2]
theorem Qgs (a:jSj):(a == a)=true:=by
 obtain ⟨l⟩:=a
 show (l == l)=true
 simp
theorem Qgw {α:Type} {step:Int→Option (Int⊕(Unit⊕Unit))} (ms:List α) (hs:∀ (i:Nat) x,ms[i]?=some x→step (i:Int)=some (.inl ((i+1:Nat):Int))) (he:step (ms.length:Int)=some (.inr (.inr ()))) {k:Nat} (hk:ms.length < k):Q2 step k 0=some (.inr ()):=by
 have q:=ZK (step:=step) (E:=Unit⊕Unit) (fun (_:Unit) (_:α)=>.inl ()) (fun _=>.inr ()) (fun i _=>(i:Int)) ms (fun _ _=>True) (fun i _ x hx _=>⟨hs i x hx,trivial⟩) (fun _ _=>he) (s:=()) (k:=k) trivial hk
 have e:∀ (l:List α),Y6 (E:=Unit⊕Unit) (fun (_:Unit) (_:α)=>.inl ()) (fun _=>.inr ()) l ()=.inr ():=by
  intro l
  induction l with
  | nil=>rfl
  | cons x l ih=>exact ih
 rw [e] at q
 exact q
theorem Qgj {n:Nat} (hn:100≤n) {r:Reg} (hs:r.sectors.length≤40) (hm:r.mirrors.length≤40) (ho:r.offers.length≤40):Qff n r.tick r.level r.filled r.tripped r.light r.heat r.money (r.sectors.map Sd) (r.mirrors.map QY) (r.offers.map Zj) r.tick r.level r.filled r.tripped r.light r.heat r.money (r.sectors.map Sd) (r.mirrors.map QY) (r.offers.map Zj)=some true:=by
 unfold Qff
 rw [jTj rfl,jTj rfl,jFj (by simp),jFj (by simp),jTj rfl,jTj rfl,jTj rfl,KL _ (by omega) (by omega),jBj,jTj rfl,jTj rfl,jTj rfl]
 rw [Qgw (step:=Qfc n r.tick r.level r.filled r.tripped r.light r.heat r.money (r.sectors.map Sd) (r.mirrors.map QY) (r.offers.map Zj) r.tick r.level r.filled r.tripped r.light r.heat r.money (r.sectors.map Sd) (r.mirrors.map QY) (r.offers.map Zj)) r.mirrors
  (fun i x hx=>by
   have hi:=(jGj hx).1
   unfold Qfc
   rw [jTj (ZD hx),Xr unM hx,jBj,jBj,jTj (by simp [Qgs]),jTj (by unfold Qh;omega)];rfl)
  (by unfold Qfc;rw [jFj (by simp)]) (by omega),jBj]
 dsimp only
 rw [Qgw (step:=Qfb n r.tick r.level r.filled r.tripped r.light r.heat r.money (r.sectors.map Sd) (r.mirrors.map QY) (r.offers.map Zj) r.tick r.level r.filled r.tripped r.light r.heat r.money (r.sectors.map Sd) (r.mirrors.map QY) (r.offers.map Zj)) r.offers
  (fun i x hx=>by
   have hi:=(jGj hx).1
   unfold Qfb
   rw [jTj (ZD hx),Xr unO hx,jBj,jBj,jTj (by simp [Qgs]),jTj (by unfold Qh;omega)];rfl)
  (by unfold Qfb;rw [jFj (by simp)]) (by omega),jBj]
end Go.Proofs.YtljabneifpkbjaaGreatDoor
set_option maxRecDepth 20000
namespace Go.Proofs.YtljabneifpkbjaaGreatDoor
open Go.SX
theorem QaF {n:Nat} (hn:100≤n) (l:List Ev) (hl:l.length≤30) (hs:∀ e,e∈l→Yf e):Uq n (l.map Zr)=some (match rep 0 [] l with
  | .inr c=>(wz (QD c),0)
  | .inl p=>(0,p.2)):=by
 have h:=Xg hn l hl hs
 unfold Uq
 cases hr:rep 0 [] l with
 | inl p =>
  obtain ⟨i,err⟩:=p
  rw [hr] at h
  obtain ⟨h1,w,h2⟩:=h
  rw [h2,jBj]
  dsimp only
  rw [jFj h1]
 | inr c =>
  rw [hr] at h
  obtain ⟨h1,h2,h3⟩:=h
  have hinv:=GG h2 (by omega)
  rw [h1,jBj]
  dsimp only [Vb]
  rw [jTj rfl,Qbc _ _ _ _ _ _ _ _ _ _ _ hinv.level _ hinv.mirs (by have:=hinv.lenM;omega) hn,jBj]
  rfl
theorem yH {n:Nat} (hn:100≤n) (l:List Ev) (hl:l.length≤30) (hs:∀ e,e∈l→Yf e) (t:Int):Yh n (l.map Zr) t=some (match rep 0 [] l with
  | .inr c=>if Qt [0,inR t 0 999999999,QF (decide (t < (QD c).tick)) 22]=0 then (if Zk (QD c) t=0 then ((QD c).light+ZL (QD c) t,(QD c).heat+ZL (QD c) t,0) else (0,0,4)) else (0,0,Qt [0,inR t 0 999999999,QF (decide (t < (QD c).tick)) 22])
  | .inl p=>(0,0,p.2)):=by
 have h:=Xg hn l hl hs
 unfold Yh
 cases hr:rep 0 [] l with
 | inl p =>
  obtain ⟨i,err⟩:=p
  rw [hr] at h
  obtain ⟨h1,w,h2⟩:=h
  rw [h2,jBj,V2,jBj]
  dsimp only
  rw [Zd,jBj,wX (by omega),jBj,QT _ h1,jFj h1]
 | inr c =>
  rw [hr] at h
  obtain ⟨h1,h2,h3⟩:=h
  have hinv:=GG h2 (by omega)
  rw [h1,jBj,V2,jBj]
  refine Eq.trans (congrArg (fun x=>Option.bind x _) (Zd n (decide (t < (QD c).tick)) 22)) ?_
  rw [jBj]
  dsimp only [Vb]
  rw [wX (by omega),jBj]
  by_cases hf:Qt [0,inR t 0 999999999,QF (decide (t < (QD c).tick)) 22]=0
  ·rw [jTj hf,jTj hf]
   have ht:okT (QD c) t:=by
    have a1:=YC.1 (Zv hf (inR t 0 999999999) (by simp))
    have a2:=of_decide_eq_false (YT (e:=22) (by decide) (Zv hf (QF (decide (t < (QD c).tick)) 22) (by simp)))
    exact ⟨by omega,a1.2⟩
   rw [Za hinv (by omega) hn ht,jBj,Z7 hinv (by omega) hn ht]
   by_cases hb:Zk (QD c) t=0
   ·rw [jTj hb,jTj hb];rfl
   ·rw [jFj hb,jFj hb]
    have h4:Zk (QD c) t=4:=by
     unfold Zk at hb ⊢
     split
     ·rename_i h;rw [jTj h] at hb;exact absurd rfl hb
     ·rfl
    rw [h4]
  ·rw [jFj hf,jFj hf]
theorem Qem {r:Reg} {c:Nat} (hr:Inv c r) {a:jSj} (h:Zu (nmO r.offers) a=true):okO (oAt r.offers a):=hr.offs _ (List.mem_of_getElem? (JV h).2.2)
theorem QeG {n:Nat} (hn:100≤n) (l:List Ev) (hl:l.length≤30) (hs:∀ e,e∈l→Yf e) (a:jSj):JQ n (l.map Zr) a=some (match rep 0 [] l with
  | .inr c=>if QF (!Zu (nmO (QD c).offers) a) 10=0 then (Ws (oAt (QD c).offers a),0) else (0,QF (!Zu (nmO (QD c).offers) a) 10)
  | .inl p=>(0,p.2)):=by
 have h:=Xg hn l hl hs
 unfold JQ
 cases hr:rep 0 [] l with
 | inl p =>
  obtain ⟨i,err⟩:=p
  rw [hr] at h
  obtain ⟨h1,w,h2⟩:=h
  rw [h2,jBj]
  dsimp only
  rw [jFj h1]
 | inr c =>
  rw [hr] at h
  obtain ⟨h1,h2,h3⟩:=h
  have hinv:=GG h2 (by omega)
  have hlo:=hinv.lenO
  rw [h1,jBj]
  dsimp only [Vb]
  rw [jTj rfl,EC _ (by omega) (by omega),jBj,W4 _ _ (by rw [Vq];omega) (by rw [Vq];omega),jBj,Zd,jBj]
  by_cases hf:QF (!Zu (nmO (QD c).offers) a) 10=0
  ·have hh:=ZW hf
   obtain ⟨p1,p2,p3⟩:=JV hh
   rw [jTj hf,jTj hf,Wb _ _ (by rw [Vq];omega) (by rw [Vq];omega),jBj]
   refine Eq.trans (jTj (uS p1 p2)) ?_
   rw [p1,Q4 unO p3,jBj,Qag n (Qem hinv hh),jBj]
  ·rw [jFj hf,jFj hf]
theorem QeH {n:Nat} (hn:100≤n) (l:List Ev) (hl:l.length≤30) (hs:∀ e,e∈l→Yf e) (a:jSj):qz n (l.map Zr) a=some (match rep 0 [] l with
  | .inr c=>if QF (!Zu (nmO (QD c).offers) a) 10=0 then (U5 (oAt (QD c).offers a),0) else (0,QF (!Zu (nmO (QD c).offers) a) 10)
  | .inl p=>(0,p.2)):=by
 have h:=Xg hn l hl hs
 unfold qz
 cases hr:rep 0 [] l with
 | inl p =>
  obtain ⟨i,err⟩:=p
  rw [hr] at h
  obtain ⟨h1,w,h2⟩:=h
  rw [h2,jBj]
  dsimp only
  rw [jFj h1]
 | inr c =>
  rw [hr] at h
  obtain ⟨h1,h2,h3⟩:=h
  have hinv:=GG h2 (by omega)
  have hlo:=hinv.lenO
  rw [h1,jBj]
  dsimp only [Vb]
  rw [jTj rfl,EC _ (by omega) (by omega),jBj,W4 _ _ (by rw [Vq];omega) (by rw [Vq];omega),jBj,Zd,jBj]
  by_cases hf:QF (!Zu (nmO (QD c).offers) a) 10=0
  ·have hh:=ZW hf
   obtain ⟨p1,p2,p3⟩:=JV hh
   rw [jTj hf,jTj hf,Wb _ _ (by rw [Vq];omega) (by rw [Vq];omega),jBj]
   refine Eq.trans (jTj (uS p1 p2)) ?_
   rw [p1,Q4 unO p3,jBj,Qbp n (Qem hinv hh),jBj]
  ·rw [jFj hf,jFj hf]
theorem QeR (p:Ev→Bool):∀ (l:List Ev),(l.flatMap fun x=>if p x=true then [Zr x] else [])=(l.filter p).map Zr
 | []=>rfl
 | x::l=>by
  rw [List.flatMap_cons,QeR p l]
  by_cases h:p x=true
  ·rw [jTj h,List.filter_cons_of_pos h];rfl
  ·rw [jFj h,List.filter_cons_of_neg h];rfl
theorem QeQ {l:List Ev} {i:Nat} {e:Ev} (h:l[i]?=some e):(nth (l.map Zr) (Int.toNat (i:Int))).bind Ze=some (e.1,e.2.1,e.2.2.1.map Sd,e.2.2.2.1.map I,e.2.2.2.2):=by
 rw [Int.toNat_natCast,Ub,List.getElem?_map,h]
 rfl
theorem Qfu {n:Nat} (hn:100≤n) (l:List Ev) (hl:l.length≤30) (hs:∀ e,e∈l→Yf e):XE n (l.map Zr)=some (repD (rep 0 [] l)):=by
 have h:=Xg hn l hl hs
 unfold XE
 cases hr:rep 0 [] l with
 | inl p =>
  obtain ⟨i,err⟩:=p
  rw [hr] at h
  obtain ⟨h1,w,h2⟩:=h
  rw [h2,jBj]
  dsimp only
  rw [jFj h1];rfl
 | inr c =>
  rw [hr] at h
  obtain ⟨h1,h2,h3⟩:=h
  rw [h1,jBj,jTj rfl];rfl
def accD (i:Nat) (e:Ev):(Int×Int)⊕List Ev→Int
 | .inr c=>YM i c e
 | .inl p=>p.2
theorem Qf8 {n:Nat} (hn:100≤n) (l:List Ev) (hl:l.length≤30) (hs:∀ e,e∈l→Yf e) (e:Ev) (he:Yf e):Qfe n (l.map Zr) e.1 e.2.1 (e.2.2.1.map Sd) (e.2.2.2.1.map I) e.2.2.2.2=some (accD l.length e (rep 0 [] l)):=by
 have h:=Xg hn l hl hs
 unfold Qfe
 cases hr:rep 0 [] l with
 | inl p =>
  obtain ⟨i,err⟩:=p
  rw [hr] at h
  obtain ⟨h1,w,h2⟩:=h
  rw [h2,jBj,V3 hn e he,jBj,Zd,jBj]
  dsimp only
  rw [wX (by omega),jBj,QT _ h1,jFj h1];rfl
 | inr c =>
  rw [hr] at h
  obtain ⟨h1,h2,h3⟩:=h
  rw [h1,jBj,V3 hn e he,jBj,Zd,jBj]
  dsimp only [accD]
  rw [wX (by omega),jBj,QN _ rfl,show QF (decide (((l.map Zr).length:Int) ≥ 1000)) 5=0 from by rw [List.length_map,jEj (by omega)];rfl]
  by_cases hz:chk e=0
  ·rw [QN _ hz,Wz,jTj rfl]
   have q:=Qal hn h2 (by omega) (evs:=l.map Zr) (by rw [List.length_map];omega) hz
   rw [List.length_map] at q
   exact congrArg (fun x:Option Int=>x.bind fun t6=>some t6) q
  ·rw [QT _ hz,jFj hz]
   unfold YM
   rw [jFj hz]
theorem Qgk (e:Ev):∀ (l cnt:List Ev) (i:Nat),rep i cnt (l++[e])=(match rep i cnt l with
  | .inr c=>if YM (i+l.length) c e=0 then .inr (VO c e) else .inl (((i+l.length:Nat):Int)+1,YM (i+l.length) c e)
  | .inl p=>.inl p)
 | [],cnt,i=>by
  show rep i cnt [e]=_
  show (if YM i cnt e=0 then rep (i+1) (VO cnt e) [] else .inl ((i:Int)+1,YM i cnt e))=(if YM i cnt e=0 then .inr (VO cnt e) else .inl (((i:Nat):Int)+1,YM i cnt e))
  by_cases h:YM i cnt e=0
  ·rw [jTj h,jTj h];rfl
  ·rw [jFj h,jFj h]
 | x::l,cnt,i=>by
  rw [List.cons_append]
  unfold rep
  by_cases h:YM i cnt x=0
  ·rw [jTj h,jTj h,Qgk e l,show i+1+l.length=i+(x::l).length by rw [List.length_cons];omega]
  ·rw [jFj h,jFj h]
theorem QfF {n:Nat} (hn:100≤n) (l:List Ev) (hl:l.length≤29) (hs:∀ e,e∈l→Yf e) (e:Ev) (he:Yf e):Qfd n (l.map Zr) e.1 e.2.1 (e.2.2.1.map Sd) (e.2.2.2.1.map I) e.2.2.2.2=some (accD l.length e (rep 0 [] l)):=by
 unfold Qfd
 rw [yp hn l (by omega) hs,jBj]
 cases hr:rep 0 [] l with
 | inl p =>
  have hne:¬ p.2=0:=yn _ _ _ _ hr
  exact jFj hne
 | inr c =>
  refine Eq.trans (jTj rfl) ?_
  show _=some (YM l.length c e)
  rw [Ga hn e he,jBj]
  by_cases hz:chk e=0
  ·have hq:=yp hn (l++[e]) (by rw [List.length_append,List.length_singleton];omega) (fun x hx=>by
    rcases List.mem_append.1 hx with h | h
    ·exact hs x h
    ·rw [List.mem_singleton.1 h];exact he)
   rw [jTj hz,jFj (by rw [List.length_map];omega),jTj (V7 (by decide) (by rw [List.length_map];omega)),jTj (V7 (by decide) (by rw [List.length_map];omega))]
   rw [List.map_append] at hq
   refine Eq.trans (congrArg (fun x=>Option.bind x _) hq) ?_
   rw [jBj,Qgk,hr]
   dsimp only
   rw [Nat.zero_add]
   by_cases h:YM l.length c e=0
   ·rw [jTj h,h];rfl
   ·rw [jFj h];rfl
  ·rw [jFj hz]
   unfold YM
   rw [jFj hz]
end Go.Proofs.YtljabneifpkbjaaGreatDoor
