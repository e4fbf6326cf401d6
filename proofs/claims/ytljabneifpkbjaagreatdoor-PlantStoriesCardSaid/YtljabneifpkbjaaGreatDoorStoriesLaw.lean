/- The plain law of PlantStories: a mirror's story is that of the reference. An own text. -/
import Derived.Test.YtljabneifpkbjaaGreatDoorStories1
import Derived.Test.YtljabneifpkbjaaGreatDoorPAsk
set_option linter.unusedVariables false
set_option linter.unusedSimpArgs false
set_option linter.unnecessarySimpa false
set_option maxRecDepth 20000
namespace Go.Proofs.YtljabneifpkbjaaGreatDoor
open Go.SX
theorem QeO (n:Nat) {e:Ev} {k:Ki} (hk:k≠.undo) (hg:Good e k) (m:Mir):Qd9 n e.1 e.2.1 (e.2.2.1.map Sd) (e.2.2.2.1.map I) e.2.2.2.2 m.1 m.2.1 m.2.2.1 m.2.2.2.1 m.2.2.2.2.1 m.2.2.2.2.2=some (abt m.1 m.2.1 e):=by
 rw [QeS hg]
 have h0:=hg.kind
 have hn:=hg.names
 unfold Qd9
 cases k
 case undo=>exact absurd rfl hk
 all_goals dsimp only [kw] at h0
 all_goals (repeat (first | rw [if_pos (keq h0 rfl)] | rw [if_neg (kne h0 (by decide))]))
 all_goals first | rfl | (rw [el0 (by rw [hn];decide),Option.bind_some,XZ];rfl)
theorem QeK {n:Nat} {c:List Ev} (hok:OkL c) (hc:c.length≤40) (hn:100≤n) (t1:List D×List D×Int×Int) (ht:t1.1=c.map Zr) (m:Mir) :
  Q2 (Qd3 n t1 m) n (0,[])=some ((numF 0 (c.filter (abt m.1 m.2.1))).map Zr):=by
 have q:=ZK (step:=Qd3 n t1 m) (E:=List D) (fun (s:List Ev) (e:Ev)=>.inl (if abt m.1 m.2.1 e=true then s++[((s.length:Int)+1,e.2)] else s)) (fun s=>s.map Zr) (fun i s=>((i:Int),s.map Zr)) c (fun i s=>s.length≤i)
  (fun i s e hx hi=>by
   have hlt:=(List.getElem?_eq_some_iff.1 hx).1
   obtain ⟨k,hk,hg,_⟩:=hok i e hx
   refine ⟨?_,by
    show (if abt m.1 m.2.1 e=true then s++[((s.length:Int)+1,e.2)] else s).length≤i+1
    split
    ·rw [List.length_append,List.length_singleton];omega
    ·omega⟩
   unfold Qd3
   dsimp only
   rw [ht,if_pos (ZD hx),qf hx,Option.bind_some]
   dsimp only
   rw [QeO n hk hg,Option.bind_some]
   by_cases h:abt m.1 m.2.1 e=true
   ·rw [if_pos h,if_pos h,if_pos (by rw [List.length_map];unfold Qh;omega),if_pos (V7 (by decide) (by rw [List.length_map];omega)),if_pos (by unfold Qh;omega),List.length_map,List.map_append];rfl
   ·rw [if_neg h,if_neg h,if_pos (by unfold Qh;omega)];rfl)
  (fun s _=>by unfold Qd3;dsimp only;rw [ht,if_neg (by simp)]) (s:=[]) (Nat.le_refl 0) (k:=n) (by omega)
 rw [QeB] at q
 exact q
theorem QeC {n:Nat} (hn:100≤n) (l:List Ev) (hl:l.length≤30) (hs:∀ e,e∈l→Yf e) (c:List Ev) (hr:rep 0 [] l=.inr c) (a:ByteArray) (hf:QF (!Zu (nmM (QD c).mirrors) a) 10=0):Qea n (l.map Zr) a=some ((stoN c a).map Zr):=by
 obtain ⟨hok,hcl⟩:=Qaq l [] 0 c Jx (Nat.le_refl 0) hr
 have hinv:=GG hok (by omega)
 have hlm:=hinv.lenM
 have hh:=ZW hf
 obtain ⟨p1,p2,p3⟩:=WP hh
 have hne:c≠[]:=by
  rintro rfl
  rw [show (QD []).mirrors=[] from rfl] at p2
  simp at p2
 unfold Qea
 rw [QaS hn l hl hs,hr]
 dsimp only [cntD]
 rw [Option.bind_some,if_pos (by rw [Yd];unfold Qh;omega)]
 have hx:(((Ur c).length:Int) - 1)=(c.length:Int):=by rw [Yd];omega
 rw [hx,if_neg (by rw [wE];simpa using hne),elA hne,Option.bind_some]
 dsimp only [Vb]
 rw [yT _ _ (by omega) (by omega),Option.bind_some,p1,Xr unM p3,Option.bind_some,QeK hok (by omega) hn _ rfl,Option.bind_some,QeL hh];rfl
theorem Qen (l:List Ev) (a:ByteArray):Qd5 1000 (l.map Zr) a=some true:=by
 unfold Qd5
 have hsh:=wu (n:=1000) (by decide) l 24 (by decide)
 rw [show WM 1000 (l.map Zr) 24=_ from hsh,Option.bind_some]
 by_cases h:l.length≤24∧∀ e,e∈l→Yf e
 ·obtain ⟨hl,hs⟩:=h
  rw [if_pos (decide_eq_true ⟨hl,hs⟩)]
  by_cases hz1:(a.size:Int) > 40
  ·rw [if_pos hz1];rfl
  rw [if_neg hz1]
  have g1:=QeF (n:=1000) (by decide) l (by omega) hs a
  have g4:=yp (n:=1000) (by decide) l (by omega) hs
  have hlf:∀ a b:Int,V5 1000 [I a,I b]=some (Qt [a,b]):=fun a b=>Qcv [a,b] (by simp) (by simp)
  cases hr:rep 0 [] l with
  | inl p =>
   have hne:¬ p.2=0:=yn _ _ _ _ hr
   rw [hr] at g1 g4
   have g4:Vo 1000 (l.map Zr)=some (0,0,false,false,0,0,0,[],[],[],p.1,p.2):=g4
   have a1:WW 1000 0 0 false false 0 0 0 [] [] [] 109 a=some (YJ (nmM []) a):=yT [] a (by decide) (by decide)
   rw [g1,Option.bind_some,g4,Option.bind_some]
   dsimp only
   rw [a1,Option.bind_some,wi,Option.bind_some,hlf,Option.bind_some,QT _ hne,if_neg hne,show Qd1 1000 ([]:List D) ([]:List D)=some true from Qec [] (fun e he=>by cases he) (by decide) (by decide) (by decide),Option.bind_some]
   simp [WI]
  | inr c =>
   obtain ⟨hok,hcl⟩:=Qaq l [] 0 c Jx (Nat.le_refl 0) hr
   have hinv:=GG hok (by omega)
   have hlm:=hinv.lenM
   rw [hr] at g1 g4
   have g4:Vo 1000 (l.map Zr)=some ((QD c).tick,(QD c).level,(QD c).filled,(QD c).tripped,(QD c).light,(QD c).heat,(QD c).money,(QD c).sectors.map Sd,(QD c).mirrors.map QY,(QD c).offers.map Zj,0,0):=g4
   rw [g1,Option.bind_some,g4,Option.bind_some]
   dsimp only
   rw [yT _ _ (by omega) (by omega),Option.bind_some,wi,Option.bind_some,hlf,Option.bind_some,Qez,QN _ rfl,Wz]
   by_cases h1:QF (!Zu (nmM (QD c).mirrors) a) 10=0
   ·have hlen:(stoN c a).length≤40:=by
     unfold stoN
     rw [QeE]
     have:=List.length_filter_le (abt a (mAt (QD c).mirrors a).2.1) c
     omega
    simp only [if_pos h1]
    rw [QeC (by decide) l (by omega) hs c hr a h1,Option.bind_some,Qec _ (fun x hx=>by
     obtain ⟨e,h2,h3⟩:=QeD _ _ _ hx
     rw [h3]
     exact QeJ hok e (List.mem_filter.1 h2).1) (by omega) (by omega) (by decide),Option.bind_some]
    simp [WI,h1]
   ·simp only [if_neg h1]
    rw [show Qd1 1000 ([]:List D) ([]:List D)=some true from Qec [] (fun e he=>by cases he) (by decide) (by decide) (by decide),Option.bind_some]
    simp [WI]
 ·rw [if_neg (by simpa using h)]
  rfl
end Go.Proofs.YtljabneifpkbjaaGreatDoor
