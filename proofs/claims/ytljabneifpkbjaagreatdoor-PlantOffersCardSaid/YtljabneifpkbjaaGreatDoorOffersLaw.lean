/- The plain law of PlantOffers: sectors, shortfalls and bills are those of the reference. An own text. -/
import Derived.Test.YtljabneifpkbjaaGreatDoorOffers1
import Derived.Test.YtljabneifpkbjaaGreatDoorPAsk
set_option linter.unusedVariables false
set_option linter.unusedSimpArgs false
set_option linter.unnecessarySimpa false
set_option maxRecDepth 20000
namespace Go.Proofs.YtljabneifpkbjaaGreatDoor
open Go.SX
theorem Qex {n:Nat} (a:ByteArray) {a0 a1:Int} {a2 a3:Bool} {a4 a5 a6:Int} {a7 a9:List D} (ms:List Mir) (hl:ms.length≤4000) (hn:ms.length < n):Qd8 n a0 a1 a2 a3 a4 a5 a6 a7 (ms.map QY) a9 a=some (cntM a ms):=by
 unfold Qd8
 have q:=ZK (step:=Qd4 n a0 a1 a2 a3 a4 a5 a6 a7 (ms.map QY) a9 a) (E:=Int×Int) (fun (s:Int×Int) (m:Mir)=>.inl (cg a s m)) (fun s=>s) (fun i s=>(((i:Int),s.1,s.2):Int×Int×Int)) ms (fun i s=>(0≤s.1∧s.1≤(i:Int))∧0≤s.2∧s.2≤(i:Int))
  (fun i s m hx hs=>by
   have hi:=(List.getElem?_eq_some_iff.1 hx).1
   refine ⟨?_,QeN hs⟩
   obtain ⟨⟨b1,b2⟩,b3,b4⟩:=hs
   unfold Qd4
   dsimp only
   rw [if_pos (ZD hx),Xr unM hx,Option.bind_some]
   by_cases hm:m.2.1=a
   ·rw [if_pos (by rw [XZ,decide_eq_true hm]),if_pos (by unfold Qh;omega)]
    by_cases ha:m.2.2.2.2.2=true
    ·rw [if_pos ha,if_pos (by unfold Qh;omega),if_pos (by unfold Qh;omega),show cg a s m=(s.1+1,s.2+1) from by unfold cg isA;rw [if_pos hm,if_pos ha]];rfl
    ·rw [if_neg ha,if_pos (by unfold Qh;omega),show cg a s m=(s.1+1,s.2) from by unfold cg isA;rw [if_pos hm,if_neg ha]];rfl
   ·rw [if_neg (by rw [XZ,decide_eq_false hm];decide),if_pos (by unfold Qh;omega),show cg a s m=s from by unfold cg;rw [if_neg hm]];rfl)
  (fun s _=>by unfold Qd4;dsimp only;rw [if_neg (by simp)]) (s:=(0,0)) (by simp) (k:=n) hn
 exact (congrArg (fun x:Option (Int×Int)=>x.bind fun t1=>some (t1.1,t1.2)) q)
theorem Qes (l:List Ev) (s o:ByteArray):Qd6 1000 (l.map Zr) s o=some true:=by
 unfold Qd6
 have hsh:=wu (n:=1000) (by decide) l 24 (by decide)
 rw [show WM 1000 (l.map Zr) 24=_ from hsh,Option.bind_some]
 by_cases h:l.length≤24∧∀ e,e∈l→Yf e
 ·obtain ⟨hl,hs⟩:=h
  rw [if_pos (decide_eq_true ⟨hl,hs⟩)]
  by_cases hz1:(s.size:Int) > 40
  ·rw [if_pos hz1];rfl
  rw [if_neg hz1]
  by_cases hz2:(o.size:Int) > 40
  ·rw [if_pos hz2];rfl
  rw [if_neg hz2]
  have g1:=Qey (n:=1000) (by decide) l (by omega) hs s
  have g2:=QeG (n:=1000) (by decide) l (by omega) hs o
  have g3:=QeH (n:=1000) (by decide) l (by omega) hs o
  have g4:=yp (n:=1000) (by decide) l (by omega) hs
  have hlf:∀ a b:Int,V5 1000 [I a,I b]=some (Qt [a,b]):=fun a b=>Qcv [a,b] (by simp) (by simp)
  cases hr:rep 0 [] l with
  | inl p =>
   have hne:¬ p.2=0:=yn _ _ _ _ hr
   rw [hr] at g1 g2 g3 g4
   have g4:Vo 1000 (l.map Zr)=some (0,0,false,false,0,0,0,[],[],[],p.1,p.2):=g4
   have a1:WW 1000 0 0 false false 0 0 0 [] [] [] 111 o=some (YJ (nmO []) o):=at_o [] o (by decide) (by decide)
   have a2:WW 1000 0 0 false false 0 0 0 [] [] [] 115 s=some (YJ [] s):=at_s [] s (by decide) (by decide)
   rw [g1,Option.bind_some,g2,Option.bind_some,g3,Option.bind_some,g4,Option.bind_some]
   dsimp only
   rw [a1,Option.bind_some,a2,Option.bind_some,wi,Option.bind_some,hlf,Option.bind_some,wi,Option.bind_some,hlf,Option.bind_some,QT _ hne,QT _ hne,if_neg hne,if_neg hne]
   simp [WI]
  | inr c =>
   obtain ⟨hok,hcl⟩:=Qaq l [] 0 c Jx (Nat.le_refl 0) hr
   have hinv:=GG hok (by omega)
   have hlm:=hinv.lenM
   have hlo:=hinv.lenO
   have hls:=hinv.secs
   rw [hr] at g1 g2 g3 g4
   have g4:Vo 1000 (l.map Zr)=some ((QD c).tick,(QD c).level,(QD c).filled,(QD c).tripped,(QD c).light,(QD c).heat,(QD c).money,(QD c).sectors.map Sd,(QD c).mirrors.map QY,(QD c).offers.map Zj,0,0):=g4
   rw [g1,Option.bind_some,g2,Option.bind_some,g3,Option.bind_some,g4,Option.bind_some]
   dsimp only
   rw [at_o _ _ (by omega) (by omega),Option.bind_some,at_s _ _ (by omega) (by omega),Option.bind_some,wi,Option.bind_some,hlf,Option.bind_some,wi,Option.bind_some,hlf,Option.bind_some,Qez,Qez,QN _ rfl,QN _ rfl,Wz,Wz]
   by_cases h1:QF (!Zu (QD c).sectors s) 10=0
   ·simp only [if_pos h1]
    rw [Qex s _ (by omega) (by omega),Option.bind_some]
    by_cases h2:QF (!Zu (nmO (QD c).offers) o) 10=0
    ·simp only [if_pos h2]
     have hh:=ZW h2
     obtain ⟨p1,p2,p3⟩:=JV hh
     rw [p1,Xr unO p3,Option.bind_some,zx 1000 (Qem hinv hh),Option.bind_some,Qar 1000 (Qem hinv hh),Option.bind_some]
     simp [WI,h1,h2]
    ·simp only [if_neg h2]
     simp [WI,h1]
   ·simp only [if_neg h1]
    by_cases h2:QF (!Zu (nmO (QD c).offers) o) 10=0
    ·simp only [if_pos h2]
     have hh:=ZW h2
     obtain ⟨p1,p2,p3⟩:=JV hh
     rw [p1,Xr unO p3,Option.bind_some,zx 1000 (Qem hinv hh),Option.bind_some,Qar 1000 (Qem hinv hh),Option.bind_some]
     simp [WI,h2]
    ·simp only [if_neg h2]
     simp [WI]
 ·rw [if_neg (by simpa using h)]
  rfl
end Go.Proofs.YtljabneifpkbjaaGreatDoor
