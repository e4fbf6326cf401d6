/- Own texts, merged: PSam, PRgs, PAsk. -/
import Derived.Test.YtljabneifpkbjaaGreatDoorPCou
set_option maxRecDepth 20000
namespace Go.Proofs.YtljabneifpkbjaaGreatDoor
open Go.SX
theorem KL {n:Nat} (l:List jSj) (hl:l.length≤5000) (hn:l.length < n):Z5 n (l.map Sd) (l.map Sd)=some true:=by
 unfold Z5
 rw [jTj rfl]
 have q:=ZK (step:=Wd n (l.map Sd) (l.map Sd)) (E:=Unit⊕Unit) (fun (_:Unit) (_:jSj)=>.inl ()) (fun _=>.inr ()) (fun i _=>(i:Int)) l (fun _ _=>True)
  (fun i _ s hx _=>by
   have hi:=(jGj hx).1
   refine ⟨?_,trivial⟩
   unfold Wd
   rw [jTj (ZD hx),jH hx,jBj,jBj,jFj (by rw [XZ];simp),jTj (by unfold Qh;omega)];rfl)
  (fun s _=>by unfold Wd;rw [jFj (by simp)]) (s:=()) (k:=n) trivial hn
 have e:∀ (l:List jSj),Y6 (E:=Unit⊕Unit) (fun (_:Unit) (_:jSj)=>.inl ()) (fun _=>.inr ()) l ()=.inr ():=by
  intro l
  induction l with
  | nil=>rfl
  | cons x l ih=>exact ih
 rw [e] at q
 rw [show Q2 (Wd n (l.map Sd) (l.map Sd)) n 0=_ from q]
 rfl
theorem Qeu {n:Nat} (l:List Int) (hl:l.length≤5000) (hn:l.length < n):Qd7 n (l.map I) (l.map I)=some true:=by
 unfold Qd7
 rw [jTj rfl]
 have q:=ZK (step:=Qd2 n (l.map I) (l.map I)) (E:=Unit⊕Unit) (fun (_:Unit) (_:Int)=>.inl ()) (fun _=>.inr ()) (fun i _=>(i:Int)) l (fun _ _=>True)
  (fun i _ s hx _=>by
   have hi:=(jGj hx).1
   refine ⟨?_,trivial⟩
   unfold Qd2
   rw [jTj (ZD hx),EM hx,jBj,jBj,jTj rfl,jTj (by unfold Qh;omega)];rfl)
  (fun s _=>by unfold Qd2;rw [jFj (by simp)]) (s:=()) (k:=n) trivial hn
 have e:∀ (l:List Int),Y6 (E:=Unit⊕Unit) (fun (_:Unit) (_:Int)=>.inl ()) (fun _=>.inr ()) l ()=.inr ():=by
  intro l
  induction l with
  | nil=>rfl
  | cons x l ih=>exact ih
 rw [e] at q
 rw [show Q2 (Qd2 n (l.map I) (l.map I)) n 0=_ from q]
 rfl
theorem Qec {n:Nat} (l:List Ev) (hs:∀ e,e∈l→e.2.2.1.length≤60∧e.2.2.2.1.length≤60) (hl:l.length≤5000) (hn:l.length < n) (hn2:100≤n):Qd1 n (l.map Zr) (l.map Zr)=some true:=by
 unfold Qd1
 rw [jTj rfl]
 have q:=ZK (step:=Qd0 n (l.map Zr) (l.map Zr)) (E:=Unit⊕Unit) (fun (_:Unit) (_:Ev)=>.inl ()) (fun _=>.inr ()) (fun i _=>(i:Int)) l (fun _ _=>True)
  (fun i _ e hx _=>by
   have hi:=(jGj hx).1
   obtain ⟨b1,b2⟩:=hs e (List.mem_of_getElem? hx)
   refine ⟨?_,trivial⟩
   unfold Qd0
   rw [jTj (ZD hx),qf hx,jBj,jBj]
   dsimp only
   rw [jTj rfl,jFj (by rw [XZ];simp),KL _ (by omega) (by omega),jBj,jTj rfl,Qeu _ (by omega) (by omega),jBj,jTj rfl,jFj (by rw [XZ];simp),jTj (by unfold Qh;omega)];rfl)
  (fun s _=>by unfold Qd0;rw [jFj (by simp)]) (s:=()) (k:=n) trivial hn
 have e:∀ (l:List Ev),Y6 (E:=Unit⊕Unit) (fun (_:Unit) (_:Ev)=>.inl ()) (fun _=>.inr ()) l ()=.inr ():=by
  intro l
  induction l with
  | nil=>rfl
  | cons x l ih=>exact ih
 rw [e] at q
 rw [show Q2 (Qd0 n (l.map Zr) (l.map Zr)) n 0=_ from q]
 rfl
end Go.Proofs.YtljabneifpkbjaaGreatDoor
set_option maxRecDepth 20000
namespace Go.Proofs.YtljabneifpkbjaaGreatDoor
open Go.SX
end Go.Proofs.YtljabneifpkbjaaGreatDoor
set_option maxRecDepth 20000
namespace Go.Proofs.YtljabneifpkbjaaGreatDoor
open Go.SX
end Go.Proofs.YtljabneifpkbjaaGreatDoor
