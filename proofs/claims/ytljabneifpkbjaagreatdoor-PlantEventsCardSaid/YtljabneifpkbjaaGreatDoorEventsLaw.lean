/- The plain law of PlantEvents: checks, replays, what is accepted, and what was at a tick are those of the reference. An own text. -/
import Derived.Test.YtljabneifpkbjaaGreatDoorPAso
set_option linter.unusedVariables false
set_option linter.unusedSimpArgs false
set_option linter.unnecessarySimpa false
set_option maxRecDepth 20000
namespace Go.Proofs.YtljabneifpkbjaaGreatDoor
open Go.SX
def Qgu (r:Reg):Prop:=r.sectors.length≤40∧r.mirrors.length≤40∧r.offers.length≤40
theorem Qf4 {c:Nat} {r:Reg} (h:Inv c r) (hc:c≤40):Qgu r:=⟨by have:=h.secs;omega,by have:=h.lenM;omega,by have:=h.lenO;omega⟩
theorem QfX:Qgu Reg.zero:=Qf4 Qcz (by decide)
theorem QgY {l:List Ev} (hl:l.length≤30):∃ r a b,repD (rep 0 [] l)=outF r a b∧Qgu r:=by
 cases hr:rep 0 [] l with
 | inl p=>exact ⟨Reg.zero,p.1,p.2,rfl,QfX⟩
 | inr c =>
  obtain ⟨hok,hcl⟩:=Qaq l [] 0 c Jx (jLj 0) hr
  exact ⟨QD c,0,0,rfl,Qf4 (GG hok (by omega)) (by omega)⟩
theorem QgO {l:List Ev} (hl:l.length≤30) (t:Int):∃ r b,QgK t (rep 0 [] l)=Vc r b∧Qgu r:=by
 cases hr:rep 0 [] l with
 | inl p=>exact ⟨Reg.zero,p.2,rfl,QfX⟩
 | inr c =>
  obtain ⟨hok,hcl⟩:=Qaq l [] 0 c Jx (jLj 0) hr
  show ∃ r b,(if inR t 0 999999999=0 then Vc (QD (upTo t c)) 0 else Vc Reg.zero (inR t 0 999999999))=Vc r b∧Qgu r
  by_cases hf:inR t 0 999999999=0
  ·rw [jTj hf]
   have hlen:=Qgm t c
   have hok2:OkL (upTo t c):=by rw [Qf3];exact uH hok _
   exact ⟨_,0,rfl,Qf4 (GG hok2 (by omega)) (by omega)⟩
  ·rw [jFj hf];exact ⟨Reg.zero,_,rfl,QfX⟩
theorem Qga (l:List Ev) (e:Ev) (t:Int):Qfg 1000 (l.map Zr) e.1 e.2.1 (e.2.2.1.map Sd) (e.2.2.2.1.map I) e.2.2.2.2 t=some true:=by
 unfold Qfg
 have hsh:=wu (n:=1000) (by decide) l 24 (by decide)
 have hsh1:=wu (n:=1000) (by decide) [e] 1 (by decide)
 rw [show WM 1000 (l.map Zr) 24=_ from hsh,jBj]
 by_cases h:l.length≤24∧∀ e,e∈l→Yf e
 ·obtain ⟨hl,hs⟩:=h
  rw [jTj (jDj ⟨hl,hs⟩)]
  refine Eq.trans (congrArg (fun x=>Option.bind x _) hsh1) ?_
  rw [jBj]
  by_cases h1:([e]:List Ev).length≤1∧∀ x,x∈[e]→Yf x
  ·have he:Yf e:=h1.2 e (by simp)
   rw [jTj (jDj h1),Qfu (by decide) l (by omega) hs,jBj,Qg2 (by decide) l (by omega) hs,jBj,yp (by decide) l (by omega) hs,jBj,QgF (by decide) l (by omega) hs,jBj,V3 (by decide) e he,jBj,Ga (by decide) e he,jBj,jTj rfl,jTj rfl,jTj rfl]
   obtain ⟨r,a,b,hr,q1,q2,q3⟩:=QgY (l:=l) (by omega)
   obtain ⟨w,d,hw,v1,v2,v3⟩:=QgO (l:=l) (by omega) t
   rw [hr,hw]
   dsimp only [outF,Vc]
   rw [QfE (by decide) q2 q3,jBj]
   dsimp only [Vb]
   rw [Qgj (by decide) q1 q2 q3,jBj,jTj rfl,Qf8 (by decide) l (by omega) hs e he,jBj,QfF (by decide) l (by omega) hs e he,jBj,jTj rfl]
   simp only [if_true]
   rw [QfE (by decide) v2 v3,jBj]
   dsimp only [Vb]
   rw [Qgj (by decide) v1 v2 v3,jBj,jTj rfl];rfl
  ·rw [jFj (by simpa using h1)];rfl
 ·rw [jFj (by simpa using h)];rfl
end Go.Proofs.YtljabneifpkbjaaGreatDoor
