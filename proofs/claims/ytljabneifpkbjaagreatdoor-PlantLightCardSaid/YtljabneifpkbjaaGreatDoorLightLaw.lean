/- The plain law of PlantLight: the rate, the mirrors that are aimed, and what is booked are those of the reference. An own text. -/
import Derived.Test.YtljabneifpkbjaaGreatDoorLight1
import Derived.Test.YtljabneifpkbjaaGreatDoorPCou
set_option linter.unusedVariables false
set_option linter.unusedSimpArgs false
set_option linter.unnecessarySimpa false
set_option maxRecDepth 20000
namespace Go.Proofs.YtljabneifpkbjaaGreatDoor
open Go.SX
theorem KL {n:Nat} (l:List ByteArray) (hl:l.length≤5000) (hn:l.length < n):Z5 n (l.map Sd) (l.map Sd)=some true:=by
 unfold Z5
 rw [if_pos rfl]
 have q:=ZK (step:=Wd n (l.map Sd) (l.map Sd)) (E:=Unit⊕Unit) (fun (_:Unit) (_:ByteArray)=>.inl ()) (fun _=>.inr ()) (fun i _=>(i:Int)) l (fun _ _=>True)
  (fun i _ s hx _=>by
   have hi:=(List.getElem?_eq_some_iff.1 hx).1
   refine ⟨?_,trivial⟩
   unfold Wd
   rw [if_pos (ZD hx),jH hx,Option.bind_some,Option.bind_some,if_neg (by rw [XZ];simp),if_pos (by unfold Qh;omega)];rfl)
  (fun s _=>by unfold Wd;rw [if_neg (by simp)]) (s:=()) (k:=n) trivial hn
 have e:∀ (l:List ByteArray),Y6 (E:=Unit⊕Unit) (fun (_:Unit) (_:ByteArray)=>.inl ()) (fun _=>.inr ()) l ()=.inr ():=by
  intro l
  induction l with
  | nil=>rfl
  | cons x l ih=>exact ih
 rw [e] at q
 rw [show Q2 (Wd n (l.map Sd) (l.map Sd)) n 0=_ from q]
 rfl
theorem QaF {n:Nat} (hn:100≤n) (l:List Ev) (hl:l.length≤30) (hs:∀ e,e∈l→Yf e):Uq n (l.map Zr)=some (match rep 0 [] l with
  | .inr c=>(wz (QD c),0)
  | .inl p=>(0,p.2)):=by
 have h:=Xg hn l hl hs
 unfold Uq
 cases hr:rep 0 [] l with
 | inl p =>
  obtain ⟨i,err⟩:=p
  rw [hr] at h
  obtain ⟨h1,w,h2⟩:=h
  rw [h2,Option.bind_some]
  dsimp only
  rw [if_neg h1]
 | inr c =>
  rw [hr] at h
  obtain ⟨h1,h2,h3⟩:=h
  have hinv:=GG h2 (by omega)
  rw [h1,Option.bind_some]
  dsimp only [Vb]
  rw [if_pos rfl,Qbc _ _ _ _ _ _ _ _ _ _ _ hinv.level _ hinv.mirs (by have:=hinv.lenM;omega) hn,Option.bind_some]
  rfl
theorem QaU {n:Nat} (t1:Int×Int×List D×List D×X1) (ms:List Mir) (ht:t1.2.2.2.2.2.2.2.2.2.2.2.2.1=ms.map QY) (hl:ms.length≤4000) (hn:ms.length < n) :
  Q2 (Wg n t1) n (.inl 0)=some (if ms.filter isA=[] then .inl () else .inr ((ms.filter isA).map QY)):=by
 have q:=ZK (step:=Wg n t1) (E:=Unit⊕List D) (fun (s:List Mir) (m:Mir)=>.inl (if isA m=true then s++[m] else s)) (fun s=>if s=[] then .inl () else .inr (s.map QY))
  (fun i s=>if s=[] then .inl (i:Int) else .inr ((i:Int),s.map QY)) ms (fun i s=>s.length≤i)
  (fun i s m hx hs=>by
   have hi:=(List.getElem?_eq_some_iff.1 hx).1
   refine ⟨?_,by
    show (if isA m=true then s++[m] else s).length≤i+1
    split
    ·rw [List.length_append,List.length_singleton];omega
    ·omega⟩
   by_cases h0:s=[]
   ·subst h0
    rw [if_pos rfl]
    unfold Wg
    dsimp only
    rw [ht,if_pos (ZD hx),if_pos ⟨Int.natCast_nonneg i,ZD hx⟩,Q4 unM hx,Option.bind_some]
    unfold isA
    by_cases ha:m.2.2.2.2.2=true
    ·rw [if_pos ha,if_pos ha,if_pos (by unfold Qh;omega),if_neg (by simp)];rfl
    ·rw [if_neg ha,if_neg ha,if_pos (by unfold Qh;omega),if_pos rfl];rfl
   ·rw [if_neg h0]
    unfold Wg
    dsimp only
    rw [ht,if_pos (ZD hx),if_pos ⟨Int.natCast_nonneg i,ZD hx⟩,Q4 unM hx,Option.bind_some]
    unfold isA
    by_cases ha:m.2.2.2.2.2=true
    ·rw [if_pos ha,if_pos ha,if_pos (V7 (by decide) (by rw [List.length_map];omega)),if_pos (by unfold Qh;omega),if_neg (by simp),List.map_append];rfl
    ·rw [if_neg ha,if_neg ha,if_pos (by unfold Qh;omega),if_neg h0];rfl)
  (fun s _=>by
   by_cases h0:s=[]
   ·subst h0
    rw [if_pos rfl,if_pos rfl]
    unfold Wg
    dsimp only
    rw [ht,if_neg (by simp)]
   ·rw [if_neg h0,if_neg h0]
    unfold Wg
    dsimp only
    rw [ht,if_neg (by simp)]) (s:=[]) (k:=n) (Nat.le_refl _) hn
 have e:∀ (l:List Mir) (s:List Mir),Y6 (E:=Unit⊕List D) (fun (s:List Mir) (m:Mir)=>.inl (if isA m=true then s++[m] else s)) (fun s=>if s=[] then .inl () else .inr (s.map QY)) l s=(if s++l.filter isA=[] then .inl () else .inr ((s++l.filter isA).map QY)):=by
  intro l
  induction l with
  | nil=>intro s;simp [Y6]
  | cons x l ih =>
   intro s
   show Y6 (E:=Unit⊕List D) (fun (s:List Mir) (m:Mir)=>.inl (if isA m=true then s++[m] else s)) (fun s=>if s=[] then .inl () else .inr (s.map QY)) l (if isA x=true then s++[x] else s)=_
   rw [ih]
   by_cases h:isA x=true
   ·rw [if_pos h,List.filter_cons_of_pos h,List.append_assoc];rfl
   ·rw [if_neg h,List.filter_cons_of_neg h]
 rw [e] at q
 exact q
theorem uO {n:Nat} (hn:100≤n) (l:List Ev) (hl:l.length≤30) (hs:∀ e,e∈l→Yf e):YH n (l.map Zr)=some (match rep 0 [] l with
  | .inr c=>((YQ (QD c).mirrors).map Sd,0)
  | .inl p=>([],p.2)):=by
 have h:=Xg hn l hl hs
 unfold YH
 cases hr:rep 0 [] l with
 | inl p =>
  obtain ⟨i,err⟩:=p
  rw [hr] at h
  obtain ⟨h1,w,h2⟩:=h
  rw [h2,Option.bind_some]
  dsimp only
  rw [if_neg h1]
 | inr c =>
  rw [hr] at h
  obtain ⟨h1,h2,h3⟩:=h
  have hinv:=GG h2 (by omega)
  have hlm:=hinv.lenM
  rw [h1,Option.bind_some,if_pos rfl,QaU _ (QD c).mirrors rfl (by omega) (by omega),Option.bind_some]
  by_cases h0:(QD c).mirrors.filter isA=[]
  ·rw [if_pos h0]
   show some (([]:List D),(0:Int))=some ((YQ (QD c).mirrors).map Sd,0)
   unfold YQ
   rw [h0];rfl
  ·rw [if_neg h0]
   dsimp only
   have hfl:((QD c).mirrors.filter isA).length≤(QD c).mirrors.length:=List.length_filter_le _ _
   have q:=UV (step:=Vj n (0,0,l.map Zr,c.map Zr,Vb (QD c)) (((QD c).mirrors.filter isA).map QY)) (E:=List D) (fun out=>out) ((QD c).mirrors.filter isA) (fun x=>[Sd x.1]) (fun _=>Nat.le_refl _)
    (fun i out x hx ho=>by
     have hi:=(List.getElem?_eq_some_iff.1 hx).1
     unfold Vj UQ
     dsimp only
     rw [if_pos (ZD hx),if_pos ⟨Int.natCast_nonneg i,ZD hx⟩,Q4 unM hx,Option.bind_some,Option.bind_some,if_pos (V7 (by decide) (by omega)),if_pos (by unfold Qh;omega)];rfl)
    (fun out _=>by unfold Vj;dsimp only;rw [if_neg (by simp)]) (k:=n) (by omega)
   rw [q,Option.bind_some,wW]
   unfold YQ
   rw [List.map_map];rfl
theorem yH {n:Nat} (hn:100≤n) (l:List Ev) (hl:l.length≤30) (hs:∀ e,e∈l→Yf e) (t:Int):Yh n (l.map Zr) t=some (match rep 0 [] l with
  | .inr c=>if Qt [0,inR t 0 999999999,QF (decide (t < (QD c).tick)) 22]=0 then (if Zk (QD c) t=0 then ((QD c).light+ZL (QD c) t,(QD c).heat+ZL (QD c) t,0) else (0,0,4)) else (0,0,Qt [0,inR t 0 999999999,QF (decide (t < (QD c).tick)) 22])
  | .inl p=>(0,0,p.2)):=by
 have h:=Xg hn l hl hs
 unfold Yh
 cases hr:rep 0 [] l with
 | inl p =>
  obtain ⟨i,err⟩:=p
  rw [hr] at h
  obtain ⟨h1,w,h2⟩:=h
  rw [h2,Option.bind_some,V2,Option.bind_some]
  dsimp only
  rw [Zd,Option.bind_some,wX (by omega),Option.bind_some,QT _ h1,if_neg h1]
 | inr c =>
  rw [hr] at h
  obtain ⟨h1,h2,h3⟩:=h
  have hinv:=GG h2 (by omega)
  rw [h1,Option.bind_some,V2,Option.bind_some]
  refine Eq.trans (congrArg (fun x=>Option.bind x _) (Zd n (decide (t < (QD c).tick)) 22)) ?_
  rw [Option.bind_some]
  dsimp only [Vb]
  rw [wX (by omega),Option.bind_some]
  by_cases hf:Qt [0,inR t 0 999999999,QF (decide (t < (QD c).tick)) 22]=0
  ·rw [if_pos hf,if_pos hf]
   have ht:okT (QD c) t:=by
    have a1:=YC.1 (Zv hf (inR t 0 999999999) (by simp))
    have a2:=of_decide_eq_false (YT (e:=22) (by decide) (Zv hf (QF (decide (t < (QD c).tick)) 22) (by simp)))
    exact ⟨by omega,a1.2⟩
   rw [Za hinv (by omega) hn ht,Option.bind_some,Z7 hinv (by omega) hn ht]
   by_cases hb:Zk (QD c) t=0
   ·rw [if_pos hb,if_pos hb];rfl
   ·rw [if_neg hb,if_neg hb]
    have h4:Zk (QD c) t=4:=by
     unfold Zk at hb ⊢
     split
     ·rename_i h;rw [if_pos h] at hb;exact absurd rfl hb
     ·rfl
    rw [h4]
  ·rw [if_neg hf,if_neg hf]
theorem wM (l:List Ev) (t:Int):VW 1000 (l.map Zr) t=some true:=by
 unfold VW
 have hsh:=wu (n:=1000) (by decide) l 24 (by decide)
 rw [show WM 1000 (l.map Zr) 24=_ from hsh,Option.bind_some]
 by_cases h:l.length≤24∧∀ e,e∈l→Yf e
 ·obtain ⟨hl,hs⟩:=h
  have g1:=QaF (n:=1000) (by decide) l (by omega) hs
  have g2:=uO (n:=1000) (by decide) l (by omega) hs
  have g3:=yH (n:=1000) (by decide) l (by omega) hs t
  have g4:=yp (n:=1000) (by decide) l (by omega) hs
  have hlf:∀ a b c:Int,V5 1000 [I a,I b,I c]=some (Qt [a,b,c]):=fun a b c=>Qcv [a,b,c] (by simp) (by simp)
  have ho:QF (decide (inR t 0 999999999≠0)) 3=inR t 0 999999999:=by
   rcases qO t 0 999999999 with h | h <;> rw [h] <;> rfl
  rw [if_pos (decide_eq_true ⟨hl,hs⟩)]
  cases hr:rep 0 [] l with
  | inl p =>
   have hne:¬ p.2=0:=yn _ _ _ _ hr
   rw [hr] at g1 g2 g3 g4
   have g4:Vo 1000 (l.map Zr)=some (0,0,false,false,0,0,0,[],[],[],p.1,p.2):=g4
   rw [g1,Option.bind_some,g2,Option.bind_some,g3,Option.bind_some,g4,Option.bind_some,YL,Option.bind_some,wi,Option.bind_some]
   refine Eq.trans (congrArg (fun x=>Option.bind x _) (wi 1000 (decide (t < 0)) 22)) ?_
   rw [Option.bind_some,hlf,Option.bind_some,QT _ hne]
   dsimp only
   rw [if_neg hne,if_neg hne,if_pos rfl,if_pos rfl,show Z5 1000 ([]:List D) ([]:List D)=some true from KL [] (by decide) (by decide),Option.bind_some]
   simp [WI]
  | inr c =>
   obtain ⟨hok,hcl⟩:=Qaq l [] 0 c Jx (Nat.le_refl 0) hr
   have hinv:=GG hok (by omega)
   have hlm:=hinv.lenM
   rw [hr] at g1 g2 g3 g4
   have g4:Vo 1000 (l.map Zr)=some ((QD c).tick,(QD c).level,(QD c).filled,(QD c).tripped,(QD c).light,(QD c).heat,(QD c).money,(QD c).sectors.map Sd,(QD c).mirrors.map QY,(QD c).offers.map Zj,0,0):=g4
   have hrt:=ww (n:=1000) (a0:=(QD c).tick) (a2:=(QD c).filled) (a3:=(QD c).tripped) (a4:=(QD c).light) (a5:=(QD c).heat) (a6:=(QD c).money) (a7:=(QD c).sectors.map Sd) (a9:=(QD c).offers.map Zj) (lv:=(QD c).level) hinv.level (QD c).mirrors hinv.mirs (by omega) (by decide)
   have hlenA:(YQ (QD c).mirrors).length≤30:=by
    unfold YQ
    rw [List.length_map]
    have:=List.length_filter_le isA (QD c).mirrors
    omega
   rw [g1,Option.bind_some,g2,Option.bind_some,g3,Option.bind_some,g4,Option.bind_some,YL,Option.bind_some,wi,Option.bind_some]
   refine Eq.trans (congrArg (fun x=>Option.bind x _) (wi 1000 (decide (t < (QD c).tick)) 22)) ?_
   rw [Option.bind_some,hlf,Option.bind_some,ho]
   dsimp only
   rw [if_pos rfl,hrt,Option.bind_some,zy _ (by omega) (by omega),Option.bind_some]
   by_cases hf:Qt [0,inR t 0 999999999,QF (decide (t < (QD c).tick)) 22]=0
   ·have ht:okT (QD c) t:=by
     have a1:=YC.1 (Zv hf (inR t 0 999999999) (by simp))
     have a2:=of_decide_eq_false (YT (e:=22) (by decide) (Zv hf (QF (decide (t < (QD c).tick)) 22) (by simp)))
     exact ⟨by omega,a1.2⟩
    simp only [if_pos hf]
    rw [Zs hinv (by omega) (by decide) ht,Option.bind_some,if_pos (show wz (QD c)=UR (QD c).level (QD c).mirrors from rfl)]
    simp only [if_true,KL _ (show (YQ (QD c).mirrors).length≤5000 by omega) (show (YQ (QD c).mirrors).length < 1000 by omega),Option.bind_some]
    by_cases hb:Zk (QD c) t=0
    ·simp only [if_pos hb]
     simp [WI]
    ·simp only [if_neg hb]
     simp [WI]
   ·simp only [if_neg hf]
    rw [if_pos (show wz (QD c)=UR (QD c).level (QD c).mirrors from rfl)]
    simp only [if_true,KL _ (show (YQ (QD c).mirrors).length≤5000 by omega) (show (YQ (QD c).mirrors).length < 1000 by omega),Option.bind_some]
    simp [WI]
 ·rw [if_neg (by simpa using h)]
  rfl
end Go.Proofs.YtljabneifpkbjaaGreatDoor
