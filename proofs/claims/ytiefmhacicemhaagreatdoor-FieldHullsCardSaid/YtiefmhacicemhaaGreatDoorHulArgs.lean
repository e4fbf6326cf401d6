/- Own texts. -/
import Derived.Test.YtiefmhacicemhaaGreatDoorWake
set_option linter.unusedVariables false
set_option linter.unusedSimpArgs false
set_option linter.unnecessarySimpa false
set_option maxRecDepth 10000
set_option maxHeartbeats 4000000
namespace Go.Proofs.YtiefmhacicemhaaGreatDoor
open Go.SX
def ZK (n:Nat) (a0:List D):Option (Bool) :=
 if ((a0).length:Int)≤12 then
  some true
 else
 if ((a0).length:Int)=17 then
  some true
 else
 some (((a0).length:Int) == 65)
theorem QM {n:Nat} {a0:List D} {r:Bool} (h:ZK n a0=some r):Computes cx 5 [.lst false 2 a0] (B r):=by
 unfold ZK at h
 rcases io h with ⟨h1,h⟩ | ⟨h1,h⟩
 ·obtain rfl:=oi h
  exact rf [b1,.no] (Qc (decide_eq_true h1) Qz)
 have q:=Qc (decide_eq_false h1) Qz
 rcases io h with ⟨h2,h⟩ | ⟨h2,h⟩
 ·obtain rfl:=oi h
  exact rf [b0,b1] (Qc (eqt h2) q)
 cases h
 exact rf [b0,b0] (Qc (eqf h2) q)
def WE (n:Nat) (a0:List D):Option (List D) :=
 if Q1 16 (0+(a0).length) then
 if Qu a0=true then
  some []
 else
 some a0
 else none
theorem Q2 {n:Nat} {a0:List D} {r:List D} (h:WE n a0=some r):Computes cx 7 [.lst false 2 a0] (.lst false 2 r):=by
 unfold WE at h
 obtain ⟨h1,h⟩:=gd h
 have q:=Qc (ro 46 h1) Qz
 rcases io h with ⟨h2,h⟩ | ⟨h2,h⟩
 ·cases h
  exact (rf (r:=.lst true 2 []) [b1,b1] (Qc h2 q)).le (LEs.refl _) (.full _ _ _)
 obtain rfl:=oi h
 exact rf [b1,b0] (Qc (QD h2) q)
def Ze (n:Nat) (a0:List D) (sa:(Int)):Option (((Int))⊕((Int)⊕(Unit))) :=
 if sa < ((a0).length:Int) then
  (el QC a0 sa).bind fun ta2 =>
  (ZT n ta2.1 ta2.2).bind fun ta3 =>
  if ta3=0 then
   if Qa (sa+1) then
   some (.inl (sa+1))
   else none
  else
  some (.inr (.inl ta3))
 else
 some (.inr (.inr ()))
noncomputable def Jp (a0:List D):Lp ((Int)) ((Int)⊕(Unit)):=⟨fun sa=>[(0,.d (.lst false 2 a0)),(4,.d (I sa))],fun _=>[],fun
 | (.inl e)=>.ret
 | (.inr e)=>(.exit 0),fun
 | (.inl e)=>[(2,.d (I e))]
 | (.inr e)=>[],fun _=>[]⟩
theorem VU {n:Nat} {a0:List D} (sa:(Int)) (r) (h:Ze n a0 sa=some r):Rl (Ql cx.P 9 0) 33 0 false (Jp a0) sa r:=by
 unfold Ze at h
 rcases io h with ⟨ha1,h⟩ | ⟨ha1,h⟩
 ·obtain ⟨ta2,ha2,h⟩:=bo h;obtain ⟨ta3,ha3,h⟩:=bo h
  have q:=Qc (Uz ha3) (W2 Qn ha2 (Qc (decide_eq_true ha1) Qz))
  let o (l:List Orc):=b1::.el (Qw ta2)::.ret (I ta3)::l
  rcases io h with ⟨ha4,h⟩ | ⟨ha4,h⟩
  ·obtain ⟨ha5,h⟩:=gd h
   cases h
   exact rn 15 (o [b0]) [] [0,4] [] (Qc ha5 (Qc (nef ha4) q))
  cases h
  exact rx 15 (o [b1]) [] [2] [] (Qc (net ha4) q)
 cases h
 exact rx 15 [b0] [] [] [] (Qc (decide_eq_false ha1) Qz)
def Wa (n:Nat) (a0:List D):Option (Int) :=
 (Zf n (((a0).length:Int) == 0) 12).bind fun t1 =>
 (Zf n (decide (((a0).length:Int) > 64)) 5).bind fun t2 =>
 (ZE n ([I t1,I t2])).bind fun t3 =>
 if t3=0 then
  (QE (Ze n a0) n 0).bind fun t5=>match t5 with
   | (.inl t5)=>(
    some t5)
   | (.inr t5)=>(
    some 0)
 else
 some t3
theorem Wz {n:Nat} {a0:List D} {r:Int} (h:Wa n a0=some r):Computes cx 9 [.lst false 2 a0] (I r):=by
 unfold Wa at h
 obtain ⟨t1,h1,h⟩:=bo h;obtain ⟨t2,h2,h⟩:=bo h;obtain ⟨t3,h3,h⟩:=bo h
 have q:=Qc (((Wd h3).le (.cons (.full _ _ _) (.nil)) (.refl _)):Computes cx 10 [.lst true 1 [I t1,I t2]] (I t3)) (Qc (Wv h2) (Qc (Wv h1) Qz))
 let o (l:List Orc):=.ret (I t1)::.ret (I t2)::.ret (I t3)::l
 rcases io h with ⟨h4,h⟩ | ⟨h4,h⟩
 ·have q:=Qc (nef h4) q
  obtain ⟨t5,h5,h⟩:=bo h
  rcases t5 with t5 | t5
  ·obtain rfl:=oi h
   exact rf (o [b0,.lp [] [0,4] [] .ret [(2,.d (I t5))] [] 41]) (Qc (Qh VU h5) q)
  obtain rfl:=oi h
  exact rf (o [b0,.lp [] [0,4] [] (.exit 0) [] [] 41]) (Qc (Qh VU h5) q)
 obtain rfl:=oi h
 exact rf (o [b1]) (Qc (net h4) q)
def W5 (n:Nat) (a0 a1 a2 a3:Int):Option (Bool) :=
 if a0 < a2 then
  some true
 else
 if a0=a2 then
  some (decide (a1 < a3))
 else
 some false
theorem zI {n:Nat} {a0 a1 a2 a3:Int} {r:Bool} (h:W5 n a0 a1 a2 a3=some r):Computes cx 55 [.agg [I a0,I a1],.agg [I a2,I a3]] (B r):=by
 unfold W5 at h
 rcases io h with ⟨h1,h⟩ | ⟨h1,h⟩
 ·obtain rfl:=oi h
  exact rf [b1] (Qc (decide_eq_true h1) Qz)
 have q:=Qc (decide_eq_false h1) Qz
 rcases io h with ⟨h2,h⟩ | ⟨h2,h⟩
 ·cases h
  exact rf [b0,b1] (Qc (eqt h2) q)
 obtain rfl:=oi h
 exact rf [b0,b0] (Qc (eqf h2) q)
def VF (n:Nat) (a0 a1 a2 a3:Int):Option (Int) :=
 if Qa (a0 - a2) then
 if Qa ((a0 - a2) * (a0 - a2)) then
 if Qa (a1 - a3) then
 if Qa ((a1 - a3) * (a1 - a3)) then
 if Qa (((a0 - a2) * (a0 - a2))+((a1 - a3) * (a1 - a3))) then
 some (((a0 - a2) * (a0 - a2))+((a1 - a3) * (a1 - a3)))
 else none
 else none
 else none
 else none
 else none
theorem EL {n:Nat} {a0 a1 a2 a3:Int} {r:Int} (h:VF n a0 a1 a2 a3=some r):Computes cx 57 [.agg [I a0,I a1],.agg [I a2,I a3]] (I r):=by
 unfold VF at h
 obtain ⟨h1,h⟩:=gd h;obtain ⟨h2,h⟩:=gd h;obtain ⟨h3,h⟩:=gd h;obtain ⟨h4,h⟩:=gd h;obtain ⟨h5,h⟩:=gd h
 cases h
 exact rf [] (Qc h5 (Qc h4 (Qc h3 (Qc h3 (Qc h2 (Qc h1 (Qc h1 Qz)))))))
def Z7 (n:Nat) (a0:List D) (sa:(Int×Int×Int)):Option (((Int×Int×Int))⊕((Int×Int))) :=
 if sa.1 < ((a0).length:Int) then
  (el QC a0 sa.1).bind fun ta2 =>
  (W5 n ta2.1 ta2.2 sa.2.1 sa.2.2).bind fun ta3 =>
  if ta3=true then
   if Qa (sa.1+1) then
   some (.inl ((sa.1+1),ta2.1,ta2.2))
   else none
  else
  if Qa (sa.1+1) then
  some (.inl ((sa.1+1),sa.2.1,sa.2.2))
  else none
 else
 some (.inr (sa.2.1,sa.2.2))
noncomputable def qn (a0:List D):Lp ((Int×Int×Int)) ((Int×Int)):=⟨fun sa=>[(0,.d (.lst false 2 a0)),(4,.ptr 5 0 0 0 0),(5,.d (I sa.1))],fun sa=>[(5,.box (.d (.agg [I sa.2.1,I sa.2.2])))],fun _=>(.exit 0),fun _=>[(0,.d (.lst false 2 a0)),(4,.ptr 5 0 0 0 0)],fun e=>[(5,.box (.d (.agg [I e.1,I e.2])))]⟩
theorem qh {n:Nat} {a0:List D} (sa:(Int×Int×Int)) (r) (h:Z7 n a0 sa=some r):Rl (Ql cx.P 12 0) 108 0 false (qn a0) sa r:=by
 unfold Z7 at h
 rcases io h with ⟨ha1,h⟩ | ⟨ha1,h⟩
 ·obtain ⟨ta2,ha2,h⟩:=bo h;obtain ⟨ta3,ha3,h⟩:=bo h
  have q:=Qc (zI ha3) (W2 Qn ha2 (Qc (decide_eq_true ha1) Qz))
  let o (l:List Orc):=b1::.el (Qw ta2)::.ret (B ta3)::l
  rcases io h with ⟨ha4,h⟩ | ⟨ha4,h⟩
  ·obtain ⟨ha5,h⟩:=gd h
   cases h
   exact rn 8 (o [b1,.el (Qw ta2)]) [] [0,4,5] [5] (Qc ha5 (W2 Qn ha2 (Qc ha4 q)))
  obtain ⟨ha5,h⟩:=gd h
  cases h
  exact rn 8 (o [b0]) [] [0,4,5] [5] (Qc ha5 (Qc (QD ha4) q))
 cases h
 exact rx 8 [b0] [] [0,4] [5] (Qc (decide_eq_false ha1) Qz)
def Z6 (n:Nat) (a0:List D) (t2:Int×Int) (sa:Int×Int×Int×List D) (sb:(Int×Int×Int)):Option (((Int×Int×Int))⊕((Int×Int))) :=
 if sb.1 < ((a0).length:Int) then
  (el QC a0 sb.1).bind fun tb2 =>
  if ((tb2.1 == sa.2.1) && ((tb2.2 == sa.2.2.1) && true))=true then
   if Qa (sb.1+1) then
   some (.inl ((sb.1+1),sb.2.1,sb.2.2))
   else none
  else
  (Wb n sa.2.1 sa.2.2.1 sb.2.1 sb.2.2 tb2.1 tb2.2).bind fun tb4 =>
  if ((sb.2.1 == sa.2.1) && ((sb.2.2 == sa.2.2.1) && true))=true then
   if Qa (sb.1+1) then
   some (.inl ((sb.1+1),tb2.1,tb2.2))
   else none
  else
  if tb4 < 0 then
   if Qa (sb.1+1) then
   some (.inl ((sb.1+1),tb2.1,tb2.2))
   else none
  else
  if tb4=0 then
   (VF n sa.2.1 sa.2.2.1 tb2.1 tb2.2).bind fun tb8 =>
   (VF n sa.2.1 sa.2.2.1 sb.2.1 sb.2.2).bind fun tb9 =>
   if tb8 > tb9 then
    if Qa (sb.1+1) then
    some (.inl ((sb.1+1),tb2.1,tb2.2))
    else none
   else
   if Qa (sb.1+1) then
   some (.inl ((sb.1+1),sb.2.1,sb.2.2))
   else none
  else
  if Qa (sb.1+1) then
  some (.inl ((sb.1+1),sb.2.1,sb.2.2))
  else none
 else
 some (.inr (sb.2.1,sb.2.2))
noncomputable def qm (a0:List D) (t2:Int×Int) (sa:Int×Int×Int×List D):Lp ((Int×Int×Int)) ((Int×Int)):=⟨fun sb=>[(0,.d (.lst false 2 a0)),(4,.ptr 5 0 0 0 0),(6,.own 42 0),(7,.ptr 39 0 0 0 0),(8,.d (I sa.1)),(9,.ptr 53 0 0 0 0),(10,.d (I sb.1))],fun sb=>[(5,.box (.d (.agg [I t2.1,I t2.2]))),(39,.box (.d (.agg [I sa.2.1,I sa.2.2.1]))),(42,.row 0 2 (sa.2.2.2++([.agg [I sa.2.1,I sa.2.2.1]]:List D))),(53,.box (.d (.agg [I sb.2.1,I sb.2.2])))],fun _=>(.exit 4),fun _=>[(0,.d (.lst false 2 a0)),(4,.ptr 5 0 0 0 0),(6,.own 42 0),(7,.ptr 39 0 0 0 0),(8,.d (I sa.1)),(9,.ptr 53 0 0 0 0)],fun e=>[(5,.box (.d (.agg [I t2.1,I t2.2]))),(39,.box (.d (.agg [I sa.2.1,I sa.2.2.1]))),(42,.row 0 2 (sa.2.2.2++([.agg [I sa.2.1,I sa.2.2.1]]:List D))),(53,.box (.d (.agg [I e.1,I e.2])))]⟩
theorem qg {n:Nat} {a0:List D} {t2:Int×Int} {sa:Int×Int×Int×List D} (sb:(Int×Int×Int)) (r) (h:Z6 n a0 t2 sa sb=some r):Rl (Ql cx.P 12 2) 108 0 false (qm a0 t2 sa) sb r:=by
 unfold Z6 at h
 rcases io h with ⟨hb1,h⟩ | ⟨hb1,h⟩
 ·obtain ⟨tb2,hb2,h⟩:=bo h
  have q:=W2 Qn hb2 (Qc (decide_eq_true hb1) Qz)
  let o (l:List Orc):=b1::.el (Qw tb2)::l
  rcases io h with ⟨hb3,h⟩ | ⟨hb3,h⟩
  ·obtain ⟨hb4,h⟩:=gd h
   cases h
   exact rn 56 (o [b1]) [] [0,4,6,7,8,9,10] [5,39,42,53] (Qc hb4 (Qc hb3 q))
  obtain ⟨tb4,hb4,h⟩:=bo h
  have q:=Qc (Jm hb4) (W2 Qn hb2 (Qc (QD hb3) q))
  let o l:=o (b0::.el (Qw tb2)::.ret (I tb4)::l)
  rcases io h with ⟨hb5,h⟩ | ⟨hb5,h⟩
  ·obtain ⟨hb6,h⟩:=gd h
   cases h
   exact rn 56 (o [b1,.no,.no,.el (Qw tb2)]) [] [0,4,6,7,8,9,10] [5,39,42,53] (Qc hb6 (W2 Qn hb2 (Qc hb5 q)))
  have q:=Qc (QD hb5) q
  rcases io h with ⟨hb6,h⟩ | ⟨hb6,h⟩
  ·obtain ⟨hb7,h⟩:=gd h
   cases h
   exact rn 56 (o [b0,b1,.no,.el (Qw tb2)]) [] [0,4,6,7,8,9,10] [5,39,42,53] (Qc hb7 (W2 Qn hb2 (Qc (decide_eq_true hb6) q)))
  have q:=Qc (decide_eq_false hb6) q
  let o l:=o (b0::b0::l)
  rcases io h with ⟨hb7,h⟩ | ⟨hb7,h⟩
  ·obtain ⟨tb8,hb8,h⟩:=bo h;obtain ⟨tb9,hb9,h⟩:=bo h
   have q:=Qc (EL hb9) (Qc (EL hb8) (W2 Qn hb2 (Qc (eqt hb7) q)))
   let o l:=o (b1::.el (Qw tb2)::.ret (I tb8)::.ret (I tb9)::l)
   rcases io h with ⟨hb10,h⟩ | ⟨hb10,h⟩
   ·obtain ⟨hb11,h⟩:=gd h
    cases h
    exact rn 56 (o [b1,.el (Qw tb2)]) [] [0,4,6,7,8,9,10] [5,39,42,53] (Qc hb11 (W2 Qn hb2 (Qc (decide_eq_true hb10) q)))
   obtain ⟨hb11,h⟩:=gd h
   cases h
   exact rn 56 (o [b0]) [] [0,4,6,7,8,9,10] [5,39,42,53] (Qc hb11 (Qc (decide_eq_false hb10) q))
  obtain ⟨hb8,h⟩:=gd h
  cases h
  exact rn 56 (o [b0,.no]) [] [0,4,6,7,8,9,10] [5,39,42,53] (Qc hb8 (Qc (eqf hb7) q))
 cases h
 exact rx 56 [b0] [] [0,4,6,7,8,9] [5,39,42,53] (Qc (decide_eq_false hb1) Qz)
def Zl (n:Nat) (a0:List D) (t2:Int×Int) (sa:(Int×Int×Int×List D)):Option (((Int×Int×Int×List D))⊕((List D))) :=
 if sa.1 < ((a0).length:Int) then
  if Q1 16 ((sa.2.2.2).length+1) then
  (QE (Z6 n a0 t2 sa) n (0,sa.2.1,sa.2.2.1)).bind fun ta3 =>
  if ((ta3.1 == t2.1) && ((ta3.2 == t2.2) && true))=true then
   some (.inr (sa.2.2.2++([.agg [I sa.2.1,I sa.2.2.1]]:List D)))
  else
  if Qa (sa.1+1) then
  some (.inl ((sa.1+1),ta3.1,ta3.2,(sa.2.2.2++([.agg [I sa.2.1,I sa.2.2.1]]:List D))))
  else none
  else none
 else
 some (.inr sa.2.2.2)
noncomputable def ql (a0:List D) (t2:Int×Int):Lp ((Int×Int×Int×List D)) ((List D)):=⟨fun sa=>[(0,.d (.lst false 2 a0)),(4,.ptr 5 0 0 0 0),(6,.own 42 0),(7,.ptr 39 0 0 0 0),(8,.d (I sa.1))],fun sa=>[(5,.box (.d (.agg [I t2.1,I t2.2]))),(39,.box (.d (.agg [I sa.2.1,I sa.2.2.1]))),(42,.row 0 2 sa.2.2.2)],fun _=>(.exit 2),fun _=>[(6,.own 42 0)],fun e=>[(42,.row 0 2 e)]⟩
theorem qf {n:Nat} {a0:List D} {t2:Int×Int} (sa:(Int×Int×Int×List D)) (r) (h:Zl n a0 t2 sa=some r):Rl (Ql cx.P 12 1) 108 0 false (ql a0 t2) sa r:=by
 unfold Zl at h
 rcases io h with ⟨ha1,h⟩ | ⟨ha1,h⟩
 ·obtain ⟨ha2,h⟩:=gd h;obtain ⟨ta3,ha3,h⟩:=bo h
  have q:=Qc (Qh qg ha3) (Qc (ro 46 ha2) (Qc (decide_eq_true ha1) Qz))
  let o (l:List Orc):=b1::b1::.lp [] [0,4,6,7,8,9,10] [5,39,42,53] (.exit 4) [(0,.d (.lst false 2 a0)),(4,.ptr 5 0 0 0 0),(6,.own 42 0),(7,.ptr 39 0 0 0 0),(8,.d (I sa.1)),(9,.ptr 53 0 0 0 0)] [(5,.box (.d (.agg [I t2.1,I t2.2]))),(39,.box (.d (.agg [I sa.2.1,I sa.2.2.1]))),(42,.row 0 2 (sa.2.2.2++([.agg [I sa.2.1,I sa.2.2.1]]:List D))),(53,.box (.d (.agg [I ta3.1,I ta3.2])))] 116::l
  rcases io h with ⟨ha4,h⟩ | ⟨ha4,h⟩
  ·cases h
   exact rx 43 (o [b1]) [] [6] [42] (Qc ha4 q)
  obtain ⟨ha5,h⟩:=gd h
  cases h
  exact rn 43 (o [b0]) [] [0,4,6,7,8] [5,39,42] (Qc ha5 (Qc (QD ha4) q))
 cases h
 exact rx 43 [b0] [] [6] [42] (Qc (decide_eq_false ha1) Qz)
def Vg (n:Nat) (a0:List D):Option (List D×Int) :=
 (el QC a0 0).bind fun t1 =>
 (QE (Z7 n a0) n (1,t1.1,t1.2)).bind fun t2 =>
 (QE (Zl n a0 t2) n (0,t2.1,t2.2,[])).bind fun t3 =>
 (Zf n (decide (((t3).length:Int) < 3)) 17).bind fun t4 =>
 (Zf n (decide (((t3).length:Int) > 16)) 5).bind fun t5 =>
 (ZE n ([I t4,I t5])).bind fun t6 =>
 if t6=0 then
  some (t3,0)
 else
 some ([],t6)
theorem Xn {n:Nat} {a0:List D} {r:List D×Int} (h:Vg n a0=some r):Computes cx 12 [.lst false 2 a0] (.tup [.lst false 2 r.1,I r.2]):=by
 unfold Vg at h
 obtain ⟨t1,h1,h⟩:=bo h;obtain ⟨t2,h2,h⟩:=bo h;obtain ⟨t3,h3,h⟩:=bo h;obtain ⟨t4,h4,h⟩:=bo h;obtain ⟨t5,h5,h⟩:=bo h;obtain ⟨t6,h6,h⟩:=bo h
 have q:=Qc (((Wd h6).le (.cons (.full _ _ _) (.nil)) (.refl _)):Computes cx 10 [.lst true 1 [I t4,I t5]] (I t6)) (Qc (Wv h5) (Qc (Wv h4) (Qc (Qh qf h3) (Qc (Qh qh h2) (W2 Qn h1 Qz)))))
 let o (l:List Orc):=.el (Qw t1)::.lp [] [0,4,5] [5] (.exit 0) [(0,.d (.lst false 2 a0)),(4,.ptr 5 0 0 0 0)] [(5,.box (.d (.agg [I t2.1,I t2.2])))] 37::.lp [6,2] [0,4,6,7,8] [5,39,42] (.exit 2) [(6,.own 42 0)] [(42,.row 0 2 t3)] 135::.ret (I t4)::.ret (I t5)::.ret (I t6)::l
 rcases io h with ⟨h7,h⟩ | ⟨h7,h⟩
 ·cases h
  exact rf (o [b0]) (Qc (nef h7) q)
 cases h
 exact (rf (r:=.tup [.lst true 0 [],I t6]) (o [b1]) (Qc (net h7) q)).le (LEs.refl _) (.tups (.cons (.nilF) (.cons (.refl _) (.nil))))
def ZS (n:Nat) (a0 a1:List D) (a2:Int) (sa:(Int)):Option (((Int))⊕((Unit)⊕(Unit))) :=
 if sa < ((a1).length:Int) then
  (el QC a0 a2).bind fun ta2 =>
  (Vf n a0 a2).bind fun ta3 =>
  (el QC a1 sa).bind fun ta4 =>
  (Wb n ta2.1 ta2.2 ta3.1 ta3.2 ta4.1 ta4.2).bind fun ta5 =>
  if ta5 > 0 then
   some (.inr (.inl ()))
  else
  if Qa (sa+1) then
  some (.inl (sa+1))
  else none
 else
 some (.inr (.inr ()))
noncomputable def X2 (a0 a1:List D) (a2:Int):Lp ((Int)) ((Unit)⊕(Unit)):=⟨fun sa=>[(0,.d (.lst false 2 a0)),(1,.d (.lst false 2 a1)),(2,.d (I a2)),(7,.d (I sa))],fun _=>[],fun
 | (.inl e)=>.ret
 | (.inr e)=>(.exit 0),fun
 | (.inl e)=>[(6,.d (B false))]
 | (.inr e)=>[],fun _=>[]⟩
theorem Kw {n:Nat} {a0 a1:List D} {a2:Int} (sa:(Int)) (r) (h:ZS n a0 a1 a2 sa=some r):Rl (Ql cx.P 58 0) 27 0 false (X2 a0 a1 a2) sa r:=by
 unfold ZS at h
 rcases io h with ⟨ha1,h⟩ | ⟨ha1,h⟩
 ·obtain ⟨ta2,ha2,h⟩:=bo h;obtain ⟨ta3,ha3,h⟩:=bo h;obtain ⟨ta4,ha4,h⟩:=bo h;obtain ⟨ta5,ha5,h⟩:=bo h
  have q:=Qc (Jm ha5) (W2 Qn ha4 (Qc (Xm ha3) (W2 Qn ha2 (Qc (decide_eq_true ha1) Qz))))
  let o (l:List Orc):=b1::.el (Qw ta2)::.ret (.agg [I ta3.1,I ta3.2])::.el (Qw ta4)::.ret (I ta5)::l
  rcases io h with ⟨ha6,h⟩ | ⟨ha6,h⟩
  ·cases h
   exact rx 2 (o [b1]) [] [6] [] (Qc (decide_eq_true ha6) q)
  obtain ⟨ha7,h⟩:=gd h
  cases h
  exact rn 2 (o [b0]) [] [0,1,2,7] [] (Qc ha7 (Qc (decide_eq_false ha6) q))
 cases h
 exact rx 2 [b0] [] [] [] (Qc (decide_eq_false ha1) Qz)
def WR (n:Nat) (a0 a1:List D) (a2:Int):Option (Bool) :=
 (QE (ZS n a0 a1 a2) n 0).bind fun t1=>match t1 with
  | (.inl t1)=>(
   some false)
  | (.inr t1)=>(
   some true)
theorem Gm {n:Nat} {a0 a1:List D} {a2:Int} {r:Bool} (h:WR n a0 a1 a2=some r):Computes cx 58 [.lst false 2 a0,.lst false 2 a1,I a2] (B r):=by
 unfold WR at h
 obtain ⟨t1,h1,h⟩:=bo h
 rcases t1 with t1 | t1
 ·obtain rfl:=oi h
  exact rf [.lp [] [0,1,2,7] [] .ret [(6,.d (B false))] [] 33] (Qc (Qh Kw h1) Qz)
 obtain rfl:=oi h
 exact rf [.lp [] [0,1,2,7] [] (.exit 0) [] [] 33] (Qc (Qh Kw h1) Qz)
def Zx (n:Nat) (a0 a1:List D) (sa:(Int)):Option (((Int))⊕((Int)⊕(Unit))) :=
 if sa < ((a0).length:Int) then
  (WR n a0 a1 sa).bind fun ta2 =>
  if ta2=true then
   some (.inr (.inl sa))
  else
  if Qa (sa+1) then
  some (.inl (sa+1))
  else none
 else
 some (.inr (.inr ()))
noncomputable def X4 (a0 a1:List D):Lp ((Int)) ((Int)⊕(Unit)):=⟨fun sa=>[(0,.d (.lst false 2 a0)),(1,.d (.lst false 2 a1)),(4,.ptr 0 0 0 0 0),(6,.d (I sa))],fun _=>[(0,.box (.d (.agg [I 0,I 0])))],fun
 | (.inl e)=>.ret
 | (.inr e)=>(.exit 0),fun
 | (.inl e)=>[(4,.ptr 0 0 0 0 0),(5,.d (I 0))]
 | (.inr e)=>[(0,.d (.lst false 2 a0)),(1,.d (.lst false 2 a1)),(4,.ptr 0 0 0 0 0)],fun
 | (.inl e)=>[(0,.box (.d (.agg [I 0,I e])))]
 | (.inr e)=>[(0,.box (.d (.agg [I 0,I 0])))]⟩
theorem Ky {n:Nat} {a0 a1:List D} (sa:(Int)) (r) (h:Zx n a0 a1 sa=some r):Rl (Ql cx.P 13 0) 33 0 false (X4 a0 a1) sa r:=by
 unfold Zx at h
 rcases io h with ⟨ha1,h⟩ | ⟨ha1,h⟩
 ·obtain ⟨ta2,ha2,h⟩:=bo h
  have q:=Qc (Gm ha2) (Qc (decide_eq_true ha1) Qz)
  rcases io h with ⟨ha3,h⟩ | ⟨ha3,h⟩
  ·cases h
   exact rx 3 [b1,.ret (B ta2),b1] [] [4,5] [0] (Qc ha3 q)
  obtain ⟨ha4,h⟩:=gd h
  cases h
  exact rn 3 [b1,.ret (B ta2),b0] [] [0,1,4,6] [0] (Qc ha4 (Qc (QD ha3) q))
 cases h
 exact rx 3 [b0] [] [0,1,4] [0] (Qc (decide_eq_false ha1) Qz)
def Vh (n:Nat) (a0 a1:List D) (sa:(Int)):Option (((Int))⊕((Int)⊕(Unit))) :=
 if sa < ((a1).length:Int) then
  (WR n a1 a0 sa).bind fun ta2 =>
  if ta2=true then
   some (.inr (.inl sa))
  else
  if Qa (sa+1) then
  some (.inl (sa+1))
  else none
 else
 some (.inr (.inr ()))
noncomputable def X3 (a0 a1:List D):Lp ((Int)) ((Int)⊕(Unit)):=⟨fun sa=>[(0,.d (.lst false 2 a0)),(1,.d (.lst false 2 a1)),(4,.ptr 0 0 0 0 0),(7,.d (I sa))],fun _=>[(0,.box (.d (.agg [I 0,I 0])))],fun
 | (.inl e)=>.ret
 | (.inr e)=>(.exit 2),fun
 | (.inl e)=>[(4,.ptr 0 0 0 0 0),(5,.d (I 0))]
 | (.inr e)=>[(4,.ptr 0 0 0 0 0)],fun
 | (.inl e)=>[(0,.box (.d (.agg [I 1,I e])))]
 | (.inr e)=>[(0,.box (.d (.agg [I 0,I 0])))]⟩
theorem Kx {n:Nat} {a0 a1:List D} (sa:(Int)) (r) (h:Vh n a0 a1 sa=some r):Rl (Ql cx.P 13 1) 33 0 false (X3 a0 a1) sa r:=by
 unfold Vh at h
 rcases io h with ⟨ha1,h⟩ | ⟨ha1,h⟩
 ·obtain ⟨ta2,ha2,h⟩:=bo h
  have q:=Qc (Gm ha2) (Qc (decide_eq_true ha1) Qz)
  rcases io h with ⟨ha3,h⟩ | ⟨ha3,h⟩
  ·cases h
   exact rx 27 [b1,.ret (B ta2),b1] [] [4,5] [0] (Qc ha3 q)
  obtain ⟨ha4,h⟩:=gd h
  cases h
  exact rn 27 [b1,.ret (B ta2),b0] [] [0,1,4,7] [0] (Qc ha4 (Qc (QD ha3) q))
 cases h
 exact rx 27 [b0] [] [4] [0] (Qc (decide_eq_false ha1) Qz)
def WS (n:Nat) (a0 a1:List D):Option (Int×Int×Int) :=
 (QE (Zx n a0 a1) n 0).bind fun t1=>match t1 with
  | (.inl t1)=>(
   some (0,t1,0))
  | (.inr t1)=>(
   (QE (Vh n a0 a1) n 0).bind fun t2=>match t2 with
    | (.inl t2)=>(
     some (1,t2,0))
    | (.inr t2)=>(
     some (0,0,15)))
theorem Gn {n:Nat} {a0 a1:List D} {r:Int×Int×Int} (h:WS n a0 a1=some r):Computes cx 13 [.lst false 2 a0,.lst false 2 a1] (.tup [.agg [I r.1,I r.2.1],I r.2.2]):=by
 unfold WS at h
 obtain ⟨t1,h1,h⟩:=bo h
 rcases t1 with t1 | t1
 ·cases h
  exact rf [.lp [] [0,1,4,6] [0] .ret [(4,.ptr 0 0 0 0 0),(5,.d (I 0))] [(0,.box (.d (.agg [I 0,I t1])))] 26] (Qc (Qh Ky h1) Qz)
 have q:=Qc (Qh Ky h1) Qz
 let o (l:List Orc):=.lp [] [0,1,4,6] [0] (.exit 0) [(0,.d (.lst false 2 a0)),(1,.d (.lst false 2 a1)),(4,.ptr 0 0 0 0 0)] [(0,.box (.d (.agg [I 0,I 0])))] 26::l
 obtain ⟨t2,h2,h⟩:=bo h
 rcases t2 with t2 | t2
 ·cases h
  exact rf (o [.lp [] [0,1,4,7] [0] .ret [(4,.ptr 0 0 0 0 0),(5,.d (I 0))] [(0,.box (.d (.agg [I 1,I t2])))] 50]) (Qc (Qh Kx h2) q)
 cases h
 exact rf (o [.lp [] [0,1,4,7] [0] (.exit 2) [(4,.ptr 0 0 0 0 0)] [(0,.box (.d (.agg [I 0,I 0])))] 50]) (Qc (Qh Kx h2) q)
def Zk (n:Nat) (a0 a1:List D) (sa:(Int)):Option (((Int))⊕((Unit)⊕(Unit))) :=
 if sa < ((a0).length:Int) then
  (el QC a0 sa).bind fun ta2 =>
  (el QC a1 sa).bind fun ta3 =>
  if ((ta2.1 == ta3.1) && ((ta2.2 == ta3.2) && true))=true then
   if Qa (sa+1) then
   some (.inl (sa+1))
   else none
  else
  some (.inr (.inl ()))
 else
 some (.inr (.inr ()))
noncomputable def Jy (a0 a1:List D):Lp ((Int)) ((Unit)⊕(Unit)):=⟨fun sa=>[(0,.d (.lst false 2 a0)),(1,.d (.lst false 2 a1)),(5,.d (I sa))],fun _=>[],fun
 | (.inl e)=>.ret
 | (.inr e)=>(.exit 0),fun
 | (.inl e)=>[(4,.d (B false))]
 | (.inr e)=>[],fun _=>[]⟩
theorem V3 {n:Nat} {a0 a1:List D} (sa:(Int)) (r) (h:Zk n a0 a1 sa=some r):Rl (Ql cx.P 24 0) 26 0 false (Jy a0 a1) sa r:=by
 unfold Zk at h
 rcases io h with ⟨ha1,h⟩ | ⟨ha1,h⟩
 ·obtain ⟨ta2,ha2,h⟩:=bo h;obtain ⟨ta3,ha3,h⟩:=bo h
  have q:=W2 Qn ha3 (W2 Qn ha2 (Qc (decide_eq_true ha1) Qz))
  let o (l:List Orc):=b1::.el (Qw ta2)::.el (Qw ta3)::l
  rcases io h with ⟨ha4,h⟩ | ⟨ha4,h⟩
  ·obtain ⟨ha5,h⟩:=gd h
   cases h
   exact rn 7 (o [b0]) [] [0,1,5] [] (Qc ha5 (Qc (U8 ha4) q))
  cases h
  exact rx 7 (o [b1]) [] [4] [] (Qc (jO (QD ha4)) q)
 cases h
 exact rx 7 [b0] [] [] [] (Qc (decide_eq_false ha1) Qz)
def Wm (n:Nat) (a0 a1:List D):Option (Bool) :=
 if ((a0).length:Int)=((a1).length:Int) then
  (QE (Zk n a0 a1) n 0).bind fun t2=>match t2 with
   | (.inl t2)=>(
    some false)
   | (.inr t2)=>(
    some true)
 else
 some false
theorem GN {n:Nat} {a0 a1:List D} {r:Bool} (h:Wm n a0 a1=some r):Computes cx 24 [.lst false 2 a0,.lst false 2 a1] (B r):=by
 unfold Wm at h
 rcases io h with ⟨h1,h⟩ | ⟨h1,h⟩
 ·have q:=Qc (nef h1) Qz
  obtain ⟨t2,h2,h⟩:=bo h
  rcases t2 with t2 | t2
  ·obtain rfl:=oi h
   exact rf [b0,.lp [] [0,1,5] [] .ret [(4,.d (B false))] [] 34] (Qc (Qh V3 h2) q)
  obtain rfl:=oi h
  exact rf [b0,.lp [] [0,1,5] [] (.exit 0) [] [] 34] (Qc (Qh V3 h2) q)
 obtain rfl:=oi h
 exact rf [b1] (Qc (net h1) Qz)
def Q3 (n:Nat) (a0:List D) (a1 a2:Int) (a3:List D):Option (Bool) :=
 if a1=a2 then
  if a2=0 then
   (Wm n a0 a3).bind fun t3 =>
   some t3
  else
  if ((a0).length:Int)=0 then
   some true
  else
  some false
 else
 some false
theorem Vr {n:Nat} {a0:List D} {a1 a2:Int} {a3:List D} {r:Bool} (h:Q3 n a0 a1 a2 a3=some r):Computes cx 14 [.lst false 2 a0,I a1,I a2,.lst false 2 a3] (B r):=by
 unfold Q3 at h
 rcases io h with ⟨h1,h⟩ | ⟨h1,h⟩
 ·have q:=Qc (eqt h1) Qz
  rcases io h with ⟨h2,h⟩ | ⟨h2,h⟩
  ·obtain ⟨t3,h3,h⟩:=bo h;obtain rfl:=oi h
   exact rf [b1,b0,.no,b1,.ret (B t3)] (Qc (GN h3) (Qc (eqt h2) (Qc (nef h2) q)))
  have q:=Qc (net h2) q
  rcases io h with ⟨h3,h⟩ | ⟨h3,h⟩
  ·obtain rfl:=oi h
   exact rf [b1,b1,b1] (Qc (eqt h3) q)
  obtain rfl:=oi h
  exact rf [b1,b1,b0,b0] (Qc (eqf h2) (Qc (eqf h3) q))
 obtain rfl:=oi h
 exact rf [b0] (Qc (eqf h1) Qz)
theorem JU (a0:List D) (a1:List D) (t1:Bool) (t3:Bool) (t5:Bool) (t7:List D) (t8:List D×Int) (t9:List D) (t10:Int×Int×Int) (t11:Int) (t12:Int) (t13:Int) (t14:Int) (t16:List D×Int) (t18:Int×Int×Int) (t19:Bool):QR true 100 cx 3 [.lst false 2 a0,.lst false 2 a1] [.ret (B t1),.br false,.ret (B t3),.br false,.ret (B t5),.br false,.ret (.lst false 2 t7),.ret (.tup [.lst false 2 t8.1,I t8.2]),.ret (.lst false 2 t7),.ret (.lst false 2 t9),.ret (.tup [.agg [I t10.1,I t10.2.1],I t10.2.2]),.ret (I t11),.ret (I t12),.ret (I t13),.ret (I t14),.br true,.ret (.tup [.lst false 2 t16.1,I t16.2]),.br true,.ret (.tup [.agg [I t18.1,I t18.2.1],I t18.2.2]),.ret (B t19),.br true,.br true]=some (B (t10.2.2 == t18.2.2),[((t10.1 == t18.1) && ((t10.2.1 == t18.2.1) && true))=true,t19=true,Computes cx 14 [.lst false 2 t8.1,I t8.2,I t16.2,.lst false 2 t16.1] (B t19),Computes cx 13 [.lst false 2 a0,.lst false 2 a1] (.tup [.agg [I t18.1,I t18.2.1],I t18.2.2]),(t14 == 0)=true,Computes cx 12 [.lst false 2 a0] (.tup [.lst false 2 t16.1,I t16.2]),(t11 == 0)=true,Computes cx 10 [.lst true 1 [I t12,I t13]] (I t14),Computes cx 11 [.lst false 2 a1] (I t13),Computes cx 11 [.lst false 2 a0] (I t12),Computes cx 9 [.lst false 2 a0] (I t11),Computes cx 8 [.lst false 2 t7,.lst false 2 t9] (.tup [.agg [I t10.1,I t10.2.1],I t10.2.2]),Computes cx 7 [.lst false 2 a1] (.lst false 2 t9),Computes cx 7 [.lst false 2 a0] (.lst false 2 t7),Computes cx 6 [.lst false 2 t7] (.tup [.lst false 2 t8.1,I t8.2]),Computes cx 7 [.lst false 2 a0] (.lst false 2 t7),(!t5)=false,Computes cx 5 [.lst false 2 a1] (B t5),(!t3)=false,Computes cx 5 [.lst false 2 a0] (B t3),(!t1)=false,Computes cx 4 [] (B t1)]):=by kernel_rfl
theorem JT (a0:List D) (a1:List D) (t1:Bool) (t3:Bool) (t5:Bool) (t7:List D) (t8:List D×Int) (t9:List D) (t10:Int×Int×Int) (t11:Int) (t12:Int) (t13:Int) (t14:Int) (t16:List D×Int) (t18:Bool):QR true 100 cx 3 [.lst false 2 a0,.lst false 2 a1] [.ret (B t1),.br false,.ret (B t3),.br false,.ret (B t5),.br false,.ret (.lst false 2 t7),.ret (.tup [.lst false 2 t8.1,I t8.2]),.ret (.lst false 2 t7),.ret (.lst false 2 t9),.ret (.tup [.agg [I t10.1,I t10.2.1],I t10.2.2]),.ret (I t11),.ret (I t12),.ret (I t13),.ret (I t14),.br true,.ret (.tup [.lst false 2 t16.1,I t16.2]),.br false,.ret (B t18),.br true,.br true]=some (B (t10.2.2 == t14),[((t10.1 == 0) && ((t10.2.1 == 0) && true))=true,t18=true,Computes cx 14 [.lst false 2 t8.1,I t8.2,I t16.2,.lst false 2 t16.1] (B t18),(t14 == 0)=false,Computes cx 12 [.lst false 2 a0] (.tup [.lst false 2 t16.1,I t16.2]),(t11 == 0)=true,Computes cx 10 [.lst true 1 [I t12,I t13]] (I t14),Computes cx 11 [.lst false 2 a1] (I t13),Computes cx 11 [.lst false 2 a0] (I t12),Computes cx 9 [.lst false 2 a0] (I t11),Computes cx 8 [.lst false 2 t7,.lst false 2 t9] (.tup [.agg [I t10.1,I t10.2.1],I t10.2.2]),Computes cx 7 [.lst false 2 a1] (.lst false 2 t9),Computes cx 7 [.lst false 2 a0] (.lst false 2 t7),Computes cx 6 [.lst false 2 t7] (.tup [.lst false 2 t8.1,I t8.2]),Computes cx 7 [.lst false 2 a0] (.lst false 2 t7),(!t5)=false,Computes cx 5 [.lst false 2 a1] (B t5),(!t3)=false,Computes cx 5 [.lst false 2 a0] (B t3),(!t1)=false,Computes cx 4 [] (B t1)]):=by kernel_rfl
theorem JS (a0:List D) (a1:List D) (t1:Bool) (t3:Bool) (t5:Bool) (t7:List D) (t8:List D×Int) (t9:List D) (t10:Int×Int×Int) (t11:Int) (t12:Int) (t13:Int) (t14:Int) (t17:Int×Int×Int) (t18:Bool):QR true 100 cx 3 [.lst false 2 a0,.lst false 2 a1] [.ret (B t1),.br false,.ret (B t3),.br false,.ret (B t5),.br false,.ret (.lst false 2 t7),.ret (.tup [.lst false 2 t8.1,I t8.2]),.ret (.lst false 2 t7),.ret (.lst false 2 t9),.ret (.tup [.agg [I t10.1,I t10.2.1],I t10.2.2]),.ret (I t11),.ret (I t12),.ret (I t13),.ret (I t14),.br false,.br true,.ret (.tup [.agg [I t17.1,I t17.2.1],I t17.2.2]),.ret (B t18),.br true,.br true]=some (B (t10.2.2 == t17.2.2),[((t10.1 == t17.1) && ((t10.2.1 == t17.2.1) && true))=true,t18=true,Computes cx 14 [.lst false 2 t8.1,I t8.2,I t11,.lst true 0 []] (B t18),Computes cx 13 [.lst false 2 a0,.lst false 2 a1] (.tup [.agg [I t17.1,I t17.2.1],I t17.2.2]),(t14 == 0)=true,(t11 == 0)=false,Computes cx 10 [.lst true 1 [I t12,I t13]] (I t14),Computes cx 11 [.lst false 2 a1] (I t13),Computes cx 11 [.lst false 2 a0] (I t12),Computes cx 9 [.lst false 2 a0] (I t11),Computes cx 8 [.lst false 2 t7,.lst false 2 t9] (.tup [.agg [I t10.1,I t10.2.1],I t10.2.2]),Computes cx 7 [.lst false 2 a1] (.lst false 2 t9),Computes cx 7 [.lst false 2 a0] (.lst false 2 t7),Computes cx 6 [.lst false 2 t7] (.tup [.lst false 2 t8.1,I t8.2]),Computes cx 7 [.lst false 2 a0] (.lst false 2 t7),(!t5)=false,Computes cx 5 [.lst false 2 a1] (B t5),(!t3)=false,Computes cx 5 [.lst false 2 a0] (B t3),(!t1)=false,Computes cx 4 [] (B t1)]):=by kernel_rfl
theorem JR (a0:List D) (a1:List D) (t1:Bool) (t3:Bool) (t5:Bool) (t7:List D) (t8:List D×Int) (t9:List D) (t10:Int×Int×Int) (t11:Int) (t12:Int) (t13:Int) (t14:Int) (t17:Bool):QR true 100 cx 3 [.lst false 2 a0,.lst false 2 a1] [.ret (B t1),.br false,.ret (B t3),.br false,.ret (B t5),.br false,.ret (.lst false 2 t7),.ret (.tup [.lst false 2 t8.1,I t8.2]),.ret (.lst false 2 t7),.ret (.lst false 2 t9),.ret (.tup [.agg [I t10.1,I t10.2.1],I t10.2.2]),.ret (I t11),.ret (I t12),.ret (I t13),.ret (I t14),.br false,.br false,.ret (B t17),.br true,.br true]=some (B (t10.2.2 == t14),[((t10.1 == 0) && ((t10.2.1 == 0) && true))=true,t17=true,Computes cx 14 [.lst false 2 t8.1,I t8.2,I t11,.lst true 0 []] (B t17),(t14 == 0)=false,(t11 == 0)=false,Computes cx 10 [.lst true 1 [I t12,I t13]] (I t14),Computes cx 11 [.lst false 2 a1] (I t13),Computes cx 11 [.lst false 2 a0] (I t12),Computes cx 9 [.lst false 2 a0] (I t11),Computes cx 8 [.lst false 2 t7,.lst false 2 t9] (.tup [.agg [I t10.1,I t10.2.1],I t10.2.2]),Computes cx 7 [.lst false 2 a1] (.lst false 2 t9),Computes cx 7 [.lst false 2 a0] (.lst false 2 t7),Computes cx 6 [.lst false 2 t7] (.tup [.lst false 2 t8.1,I t8.2]),Computes cx 7 [.lst false 2 a0] (.lst false 2 t7),(!t5)=false,Computes cx 5 [.lst false 2 a1] (B t5),(!t3)=false,Computes cx 5 [.lst false 2 a0] (B t3),(!t1)=false,Computes cx 4 [] (B t1)]):=by kernel_rfl
theorem Jx (a0:List D) (a1:List D) (t1:Bool) (t3:Bool) (t5:Bool):QR true 100 cx 3 [.lst false 2 a0,.lst false 2 a1] [.ret (B t1),.br false,.ret (B t3),.br false,.ret (B t5),.br true,.ret (B t1)]=some (B t1,[Computes cx 4 [] (B t1),(!t5)=true,Computes cx 5 [.lst false 2 a1] (B t5),(!t3)=false,Computes cx 5 [.lst false 2 a0] (B t3),(!t1)=false,Computes cx 4 [] (B t1)]):=by kernel_rfl
theorem Jw (a0:List D) (a1:List D) (t1:Bool) (t3:Bool):QR true 100 cx 3 [.lst false 2 a0,.lst false 2 a1] [.ret (B t1),.br false,.ret (B t3),.br true,.no,.ret (B t1)]=some (B t1,[Computes cx 4 [] (B t1),(!t3)=true,Computes cx 5 [.lst false 2 a0] (B t3),(!t1)=false,Computes cx 4 [] (B t1)]):=by kernel_rfl
theorem Jv (a0:List D) (a1:List D) (t1:Bool):QR true 100 cx 3 [.lst false 2 a0,.lst false 2 a1] [.ret (B t1),.br true,.no,.no,.ret (B t1)]=some (B t1,[Computes cx 4 [] (B t1),(!t1)=true,Computes cx 4 [] (B t1)]):=by kernel_rfl
def WL (n:Nat) (a0 a1:List D):Option (Bool) :=
 (Ke n).bind fun t1 =>
 if t1=true then
  (ZK n a0).bind fun t3 =>
  if t3=true then
   (ZK n a1).bind fun t5 =>
   if t5=true then
    (WE n a0).bind fun t7 =>
    (WN n t7).bind fun t8 =>
    (WE n a1).bind fun t9 =>
    (Wy n t7 t9).bind fun t10 =>
    (Wa n a0).bind fun t11 =>
    (Zw n a0).bind fun t12 =>
    (Zw n a1).bind fun t13 =>
    (ZE n ([I t12,I t13])).bind fun t14 =>
    if t11=0 then
     (Vg n a0).bind fun t16 =>
     if t14=0 then
      (WS n a0 a1).bind fun t18 =>
      (Q3 n t8.1 t8.2 t16.2 t16.1).bind fun t19 =>
      if t19=true then
       if ((t10.1 == t18.1) && ((t10.2.1 == t18.2.1) && true))=true then
        some (t10.2.2 == t18.2.2)
       else
       none
      else
      none
     else
     (Q3 n t8.1 t8.2 t16.2 t16.1).bind fun t18 =>
     if t18=true then
      if ((t10.1 == 0) && ((t10.2.1 == 0) && true))=true then
       some (t10.2.2 == t14)
      else
      none
     else
     none
    else
    if t14=0 then
     (WS n a0 a1).bind fun t17 =>
     (Q3 n t8.1 t8.2 t11 ([])).bind fun t18 =>
     if t18=true then
      if ((t10.1 == t17.1) && ((t10.2.1 == t17.2.1) && true))=true then
       some (t10.2.2 == t17.2.2)
      else
      none
     else
     none
    else
    (Q3 n t8.1 t8.2 t11 ([])).bind fun t17 =>
    if t17=true then
     if ((t10.1 == 0) && ((t10.2.1 == 0) && true))=true then
      some (t10.2.2 == t14)
     else
     none
    else
    none
   else
   some t1
  else
  some t1
 else
 some t1
theorem GO {n:Nat} {a0 a1:List D} {r:Bool} (h:WL n a0 a1=some r):Computes cx 3 [.lst false 2 a0,.lst false 2 a1] (B r):=by
 unfold WL at h
 obtain ⟨t1,h1,h⟩:=Qi h
 by_cases h2:t1=true
 ·replace h:=QN h h2
  obtain ⟨t3,h3,h⟩:=Qi h
  by_cases h4:t3=true
  ·replace h:=QN h h4
   obtain ⟨t5,h5,h⟩:=Qi h
   by_cases h6:t5=true
   ·replace h:=QN h h6
    obtain ⟨t7,h7,h⟩:=Qi h;obtain ⟨t8,h8,h⟩:=Qi h;obtain ⟨t9,h9,h⟩:=Qi h;obtain ⟨t10,h10,h⟩:=Qi h;obtain ⟨t11,h11,h⟩:=Qi h;obtain ⟨t12,h12,h⟩:=Qi h;obtain ⟨t13,h13,h⟩:=Qi h;obtain ⟨t14,h14,h⟩:=Qi h
    by_cases h15:t11=0
    ·replace h:=QN h h15
     obtain ⟨t16,h16,h⟩:=Qi h
     by_cases h17:t14=0
     ·replace h:=QN h h17
      obtain ⟨t18,h18,h⟩:=Qi h;obtain ⟨t19,h19,h⟩:=Qi h
      by_cases h20:t19=true
      ·replace h:=QN h h20
       by_cases h21:((t10.1 == t18.1) && ((t10.2.1 == t18.2.1) && true))=true
       ·replace h:=QN h h21
        replace h:=Option.some.inj h
        subst h
        exact run (JU a0 a1 t1 t3 t5 t7 t8 t9 t10 t11 t12 t13 t14 t16 t18 t19) ⟨h21,h20,(Vr h19),(Gn h18),(eqt h17),(Xn h16),(eqt h15),((Wd h14).le (.cons (.full _ _ _) (.nil)) (.refl _)),(QV h13),(QV h12),(Wz h11),(Yw h10),(Q2 h9),(Q2 h7),(Y4 h8),(Q2 h7),(U8 h6),(QM h5),(U8 h4),(QM h3),(U8 h2),(ZC h1),trivial⟩
       ·replace h:=QO h h21
        cases h
      ·replace h:=QO h h20
       cases h
     ·replace h:=QO h h17
      obtain ⟨t18,h18,h⟩:=Qi h
      by_cases h19:t18=true
      ·replace h:=QN h h19
       by_cases h20:((t10.1 == 0) && ((t10.2.1 == 0) && true))=true
       ·replace h:=QN h h20
        replace h:=Option.some.inj h
        subst h
        exact run (JT a0 a1 t1 t3 t5 t7 t8 t9 t10 t11 t12 t13 t14 t16 t18) ⟨h20,h19,(Vr h18),(eqf h17),(Xn h16),(eqt h15),((Wd h14).le (.cons (.full _ _ _) (.nil)) (.refl _)),(QV h13),(QV h12),(Wz h11),(Yw h10),(Q2 h9),(Q2 h7),(Y4 h8),(Q2 h7),(U8 h6),(QM h5),(U8 h4),(QM h3),(U8 h2),(ZC h1),trivial⟩
       ·replace h:=QO h h20
        cases h
      ·replace h:=QO h h19
       cases h
    ·replace h:=QO h h15
     by_cases h16:t14=0
     ·replace h:=QN h h16
      obtain ⟨t17,h17,h⟩:=Qi h;obtain ⟨t18,h18,h⟩:=Qi h
      by_cases h19:t18=true
      ·replace h:=QN h h19
       by_cases h20:((t10.1 == t17.1) && ((t10.2.1 == t17.2.1) && true))=true
       ·replace h:=QN h h20
        replace h:=Option.some.inj h
        subst h
        exact run (JS a0 a1 t1 t3 t5 t7 t8 t9 t10 t11 t12 t13 t14 t17 t18) ⟨h20,h19,((Vr h18).le (.cons (.refl _) (.cons (.refl _) (.cons (.refl _) (.cons (.nilF) (.nil))))) (.refl _)),(Gn h17),(eqt h16),(eqf h15),((Wd h14).le (.cons (.full _ _ _) (.nil)) (.refl _)),(QV h13),(QV h12),(Wz h11),(Yw h10),(Q2 h9),(Q2 h7),(Y4 h8),(Q2 h7),(U8 h6),(QM h5),(U8 h4),(QM h3),(U8 h2),(ZC h1),trivial⟩
       ·replace h:=QO h h20
        cases h
      ·replace h:=QO h h19
       cases h
     ·replace h:=QO h h16
      obtain ⟨t17,h17,h⟩:=Qi h
      by_cases h18:t17=true
      ·replace h:=QN h h18
       by_cases h19:((t10.1 == 0) && ((t10.2.1 == 0) && true))=true
       ·replace h:=QN h h19
        replace h:=Option.some.inj h
        subst h
        exact run (JR a0 a1 t1 t3 t5 t7 t8 t9 t10 t11 t12 t13 t14 t17) ⟨h19,h18,((Vr h17).le (.cons (.refl _) (.cons (.refl _) (.cons (.refl _) (.cons (.nilF) (.nil))))) (.refl _)),(eqf h16),(eqf h15),((Wd h14).le (.cons (.full _ _ _) (.nil)) (.refl _)),(QV h13),(QV h12),(Wz h11),(Yw h10),(Q2 h9),(Q2 h7),(Y4 h8),(Q2 h7),(U8 h6),(QM h5),(U8 h4),(QM h3),(U8 h2),(ZC h1),trivial⟩
       ·replace h:=QO h h19
        cases h
      ·replace h:=QO h h18
       cases h
   ·replace h:=QO h h6
    replace h:=Option.some.inj h
    subst h
    exact run (Jx a0 a1 t1 t3 t5) ⟨(ZC h1),(jO (QD h6)),(QM h5),(U8 h4),(QM h3),(U8 h2),(ZC h1),trivial⟩
  ·replace h:=QO h h4
   replace h:=Option.some.inj h
   subst h
   exact run (Jw a0 a1 t1 t3) ⟨(ZC h1),(jO (QD h4)),(QM h3),(U8 h2),(ZC h1),trivial⟩
 ·replace h:=QO h h2
  replace h:=Option.some.inj h
  subst h
  exact run (Jv a0 a1 t1) ⟨(ZC h1),(jO (QD h2)),(ZC h1),trivial⟩
set_option maxRecDepth 20000
theorem kj {ms:List Int} {i:Nat} {x:Int} (h:ms[i]?=some x):el un_i (ms.map I) (i:Int)=some x:=K5 (un:=un_i) (enc:=I) (fun _=>rfl) h
theorem Xa {n:Nat} (ms:List Int) (hm:ms.length < 9223372036854775807) (hn:ms.length < n):Qv n (ms.map I)=some (Qx ms):=by
 unfold Qv
 have:=Zp (step:=Wi n (ms.map I)) fG (fun _=>.inr ()) (fun i _=>(i:Int)) ms (fun _ _=>True)
  (fun i s x hx _=>by
   unfold fG Wi
   have hi:=(List.getElem?_eq_some_iff.1 hx).1
   by_cases h:x=0
   ·rw [if_pos h]
    refine ⟨?_,trivial⟩
    rw [if_pos (Kj hx),kj hx,Option.bind_some,if_pos h,if_pos (by unfold Qa;omega)];rfl
   ·rw [if_neg h]
    dsimp only
    rw [if_pos (Kj hx),kj hx,Option.bind_some,if_neg h])
  (fun s _=>by unfold Wi;rw [if_neg (by simp)]) (s:=()) trivial hn
 rw [show (0:Int)=((0:Nat):Int) from rfl,this,KK]
 by_cases h:Qx ms=0
 ·rw [if_pos h,h];rfl
 ·rw [if_neg h];rfl
theorem kU {n:Nat} (ms:List Int) (hm:ms.length < 9223372036854775807) (hn:ms.length < n):ZE n (ms.map I)=some (Qx ms):=by
 unfold ZE
 have:=Zp (step:=Wh n (ms.map I)) fG (fun _=>.inr ()) (fun i _=>(i:Int)) ms (fun _ _=>True)
  (fun i s x hx _=>by
   unfold fG Wh
   have hi:=(List.getElem?_eq_some_iff.1 hx).1
   by_cases h:x=0
   ·rw [if_pos h]
    refine ⟨?_,trivial⟩
    rw [if_pos (Kj hx),kj hx,Option.bind_some,if_pos h,if_pos (by unfold Qa;omega)];rfl
   ·rw [if_neg h]
    dsimp only
    rw [if_pos (Kj hx),kj hx,Option.bind_some,if_neg h])
  (fun s _=>by unfold Wh;rw [if_neg (by simp)]) (s:=()) trivial hn
 rw [show (0:Int)=((0:Nat):Int) from rfl,this,KK]
 by_cases h:Qx ms=0
 ·rw [if_pos h,h];rfl
 ·rw [if_neg h];rfl
theorem JQ {n:Nat} (hn:10≤n) (a b:Int):Qv n [I a,I b]=some (Qx [a,b]):=Xa [a,b] (by simp) (by simp;omega)
theorem Ua {n:Nat} (hn:10≤n) (a b:Int):ZE n [I a,I b]=some (Qx [a,b]):=kU [a,b] (by simp) (by simp;omega)
def inR (x lo hi:Int):Int:=if x < lo then 3 else if x > hi then 3 else 0
theorem QaJ (n:Nat) (x lo hi:Int):ZI n x lo hi=some (inR x lo hi):=by
 unfold ZI Qs V0 inR
 by_cases h:x < lo
 ·simp [h]
 ·by_cases h2:x > hi
  ·simp [h,h2]
  ·simp [h,h2]
theorem QbO (n:Nat) (x lo hi:Int):ZU n x lo hi=some (inR x lo hi):=by
 unfold ZU Zf VW inR
 by_cases h:x < lo
 ·simp [h]
 ·by_cases h2:x > hi
  ·simp [h,h2]
  ·simp [h,h2]
theorem yv {x lo hi:Int} (h:inR x lo hi=0):lo≤x∧x≤hi:=by
 unfold inR at h
 repeat' split at h
 all_goals omega
def Q0 (b:Bool) (e:Int):Int:=if b then e else 0
theorem UI (n:Nat) (b:Bool) (e:Int):Qs n b e=some (Q0 b e):=by
 unfold Qs Q0;cases b <;> rfl
theorem V5 (n:Nat) (b:Bool) (e:Int):Zf n b e=some (Q0 b e):=by
 unfold Zf Q0;cases b <;> rfl
theorem Z1:∀ {l:List Int},Qx l=0→∀ x,x∈l→x=0
 | [],_,x,hx=>by cases hx
 | y::l,h,x,hx=>by
  unfold Qx at h
  split at h
  ·rename_i hy
   cases hx with
   | head=>exact hy
   | tail _ hx=>exact Z1 h x hx
  ·rename_i hy;exact absurd h hy
def Qr (p:Pt):D:=.agg [I p.1,I p.2]
theorem unP (p:Pt):QC (Qr p)=some p:=rfl
def ptE (p:Pt):Int:=Qx [inR p.1 (-16777216) 16777216,inR p.2 (-16777216) 16777216]
theorem QbT {n:Nat} (hn:10≤n) (p:Pt):Wp n p.1 p.2=some (ptE p):=by
 unfold Wp
 simp only [QaJ,Option.bind_some,JQ hn];rfl
theorem UN {n:Nat} (hn:10≤n) (p:Pt):ZT n p.1 p.2=some (ptE p):=by
 unfold ZT
 simp only [QbO,Option.bind_some,Ua hn];rfl
def Q6 (p:Pt):Prop:=(-16777216≤p.1∧p.1≤16777216)∧(-16777216≤p.2∧p.2≤16777216)
theorem QbP {p:Pt} (h:ptE p=0):Q6 p :=
 ⟨yv (Z1 h _ (by simp)),yv (Z1 h _ (by simp))⟩
theorem Qb0 {g c p q:Int} (hp:0≤p) (hg : -p≤g∧g≤p) (hq:0≤q) (hc : -q≤c∧c≤q) : -(p * q)≤g * c∧g * c≤p * q:=by
 have h:=Int.natAbs_mul g c
 have h1:g.natAbs * c.natAbs≤p.natAbs * q.natAbs:=Nat.mul_le_mul (by omega) (by omega)
 have h2:=Int.natAbs_mul p q
 have h3:0≤p * q:=Int.mul_nonneg hp hq
 omega
def qM (p q r:Pt):Int:=(q.1 - p.1) * (r.2 - p.2) - (q.2 - p.2) * (r.1 - p.1)
theorem QbH {p q r:Pt} (hp:Q6 p) (hq:Q6 q) (hr:Q6 r):Qa (q.1 - p.1)∧Qa (r.2 - p.2)∧Qa ((q.1 - p.1) * (r.2 - p.2))∧Qa (q.2 - p.2)∧Qa (r.1 - p.1)∧Qa ((q.2 - p.2) * (r.1 - p.1))∧Qa (qM p q r):=by
 unfold Q6 at hp hq hr
 have h1:=Qb0 (g:=q.1 - p.1) (c:=r.2 - p.2) (p:=33554432) (q:=33554432) (by omega) (by omega) (by omega) (by omega)
 have h2:=Qb0 (g:=q.2 - p.2) (c:=r.1 - p.1) (p:=33554432) (q:=33554432) (by omega) (by omega) (by omega) (by omega)
 unfold Qa qM
 generalize (q.1 - p.1) * (r.2 - p.2)=x at *
 generalize (q.2 - p.2) * (r.1 - p.1)=y at *
 refine ⟨?_,?_,?_,?_,?_,?_,?_⟩ <;> omega
theorem jX (n:Nat) {p q r:Pt} (hp:Q6 p) (hq:Q6 q) (hr:Q6 r):Q5 n p.1 p.2 q.1 q.2 r.1 r.2=some (qM p q r):=by
 obtain ⟨h1,h2,h3,h4,h5,h6,h7⟩:=QbH hp hq hr
 unfold Q5
 unfold qM at h7 ⊢
 rw [if_pos h1,if_pos h2,if_pos h3,if_pos h4,if_pos h5,if_pos h6,if_pos h7]
theorem Gw (n:Nat) {p q r:Pt} (hp:Q6 p) (hq:Q6 q) (hr:Q6 r):Wb n p.1 p.2 q.1 q.2 r.1 r.2=some (qM p q r):=by
 obtain ⟨h1,h2,h3,h4,h5,h6,h7⟩:=QbH hp hq hr
 unfold Wb
 unfold qM at h7 ⊢
 rw [if_pos h1,if_pos h2,if_pos h3,if_pos h4,if_pos h5,if_pos h6,if_pos h7]
theorem wM (n:Nat) {l:List D} (h:l.length≤100):WE n l=some l:=by
 unfold WE
 rw [if_pos (by unfold Q1;omega)]
 cases l with
 | nil=>rfl
 | cons a l=>rfl
theorem XE {n:Nat} (hn:100≤n) (ps:List Pt) (hl:ps.length≤65):ZV n (ps.map Qr)=some ((ps.map ptE).map I):=by
 unfold ZV
 have key:∀ (l:List Pt) (s:List D),KL (fun (s:List D) (p:Pt)=>(.inl (s++[I (ptE p)]):List D⊕List D)) id l s=s++(l.map ptE).map I:=by
  intro l
  induction l with
  | nil=>intro s;simp [KL]
  | cons p l ih=>intro s;simp [KL,ih]
 have:=Zp (step:=ZL n (ps.map Qr)) (fun (s:List D) (p:Pt)=>(.inl (s++[I (ptE p)]):List D⊕List D)) id (fun i s=>((i:Int),s)) ps (fun i s=>s.length=i)
  (fun i s x hx hi=>by
   have hlt:=(List.getElem?_eq_some_iff.1 hx).1
   dsimp only
   refine ⟨?_,by simp [hi]⟩
   unfold ZL
   dsimp only
   rw [if_pos (Kj hx),K5 unP hx,Option.bind_some,QbT (by omega),Option.bind_some,if_pos (by unfold Q1;omega),if_pos (by unfold Qa;omega)]
   rfl)
  (fun s _=>by unfold ZL;dsimp only;rw [if_neg (by simp)];rfl) (s:=[]) (k:=n) (by rfl) (by omega)
 rw [show ((0:Int),([]:List D))=(((0:Nat):Int),[]) from rfl,this,key]
 rfl
def nx (m i:Nat):Nat:=(i+1) % m
theorem Eu {m i:Nat} (h:0 < m):nx m i < m:=Nat.mod_lt _ h
theorem UK (m i:Nat):Int.tmod ((i:Int)+1) (m:Int)=((nx m i:Nat):Int):=by
 unfold nx
 rw [show (i:Int)+1=((i+1:Nat):Int) from rfl,Int.ofNat_tmod]
def at0 (ps:List Pt) (i:Nat):Pt:=ps.getD i (0,0)
theorem Yy {ps:List Pt} {i:Nat} (h:i < ps.length):ps[i]?=some (at0 ps i):=by
 unfold at0
 rw [List.getD_eq_getElem?_getD,List.getElem?_eq_getElem h];rfl
theorem V2 {ps:List Pt} {i:Nat} (h:i < ps.length):el QC (ps.map Qr) (i:Int)=some (at0 ps i):=K5 unP (Yy h)
theorem JK {ps:List Pt} {i:Nat} (h:i < ps.length):((ps.map Qr).length:Int)≠0:=by rw [List.length_map];omega
theorem qE (n:Nat) {ps:List Pt} {i:Nat} (h:i < ps.length) (hl:ps.length≤65):WM n (ps.map Qr) (i:Int)=some ((at0 ps i).1,(at0 ps i).2,(at0 ps (nx ps.length i)).1,(at0 ps (nx ps.length i)).2):=by
 unfold WM
 have hm:=Eu (m:=ps.length) (i:=i) (by omega)
 rw [V2 h,Option.bind_some,if_pos (by unfold Qa;omega),if_pos (JK h),List.length_map,UK,V2 hm,Option.bind_some]
theorem qA (n:Nat) {ps:List Pt} {i:Nat} (h:i < ps.length) (hl:ps.length≤65):Vf n (ps.map Qr) (i:Int)=some (at0 ps (nx ps.length i)):=by
 unfold Vf
 have hm:=Eu (m:=ps.length) (i:=i) (by omega)
 rw [if_pos (by unfold Qa;omega),if_pos (JK h),List.length_map,UK,V2 hm,Option.bind_some]
theorem Kt {ps:List Pt} (hs:∀ p,p∈ps→Q6 p) {i:Nat} (h:i < ps.length):Q6 (at0 ps i):=hs _ (List.mem_of_getElem? (Yy h))
def yY (ps:List Pt) (i k:Nat):Int:=qM (at0 ps i) (at0 ps (nx ps.length i)) (at0 ps k)
def gRow (ps:List Pt) (i:Nat) (_:Unit) (k:Nat):Unit⊕(Unit⊕Unit) :=
 if k=i then .inl () else if k=nx ps.length i then .inl () else if yY ps i k≤0 then .inr (.inl ()) else .inl ()
def rowE (ps:List Pt) (i:Nat):Unit⊕Unit:=KL (gRow ps i) (fun _=>.inr ()) (List.range ps.length) ()
def gAll (ps:List Pt) (_:Unit) (i:Nat):Unit⊕(Unit⊕Unit):=match rowE ps i with
 | .inl _=>.inr (.inl ())
 | .inr _=>.inl ()
def Qdt (ps:List Pt):Unit⊕Unit:=KL (gAll ps) (fun _=>.inr ()) (List.range ps.length) ()
theorem GW {m i k:Nat} (h:(List.range m)[i]?=some k):k=i∧i < m:=by
 have:=List.getElem?_eq_some_iff.1 h
 obtain ⟨h1,h2⟩:=this
 simp at h1 h2
 exact ⟨h2.symm,h1⟩
theorem Qc5 {n:Nat} (hn:100≤n) {ps:List Pt} (hs:∀ p,p∈ps→Q6 p) (hl:ps.length≤65) {i:Nat} (h:i < ps.length) :
  QE (QU n (ps.map Qr) (i:Int) ((at0 ps i).1,(at0 ps i).2,(at0 ps (nx ps.length i)).1,(at0 ps (nx ps.length i)).2)) n 0=some (rowE ps i):=by
 have hm:=Eu (m:=ps.length) (i:=i) (by omega)
 refine Zp (step:=QU n (ps.map Qr) (i:Int) _) (gRow ps i) (fun _=>.inr ()) (fun k _=>(k:Int)) (List.range ps.length) (fun _ _=>True)
  (fun k s x hx _=>?_) (fun s _=>?_) (s:=()) trivial (by simp;omega)
 ·obtain ⟨rfl,hk⟩:=GW hx
  have hlt:((x:Nat):Int) < (((ps.map Qr).length:Nat):Int):=by simp;omega
  unfold gRow QU
  by_cases h1:x=i
  ·rw [if_pos h1]
   refine ⟨?_,trivial⟩
   rw [if_pos hlt,V2 hk,Option.bind_some,if_pos (by omega),if_pos (by unfold Qa;omega)];rfl
  rw [if_neg h1]
  by_cases h2:x=nx ps.length i
  ·rw [if_pos h2]
   refine ⟨?_,trivial⟩
   rw [if_pos hlt,V2 hk,Option.bind_some,if_neg (by omega),if_pos (by unfold Qa;omega),if_pos (JK h),List.length_map,UK,if_pos (by omega),if_pos (by unfold Qa;omega)];rfl
  rw [if_neg h2]
  have hq:=jX n (Kt hs h) (Kt hs hm) (Kt hs hk)
  by_cases h3:yY ps i x≤0
  ·rw [if_pos h3]
   dsimp only
   rw [if_pos hlt,V2 hk,Option.bind_some,if_neg (by omega),if_pos (by unfold Qa;omega),if_pos (JK h),List.length_map,UK,if_neg (by omega),hq,Option.bind_some]
   exact if_pos h3
  ·rw [if_neg h3]
   refine ⟨?_,trivial⟩
   dsimp only
   rw [if_pos hlt,V2 hk,Option.bind_some,if_neg (by omega),if_pos (by unfold Qa;omega),if_pos (JK h),List.length_map,UK,if_neg (by omega),hq,Option.bind_some]
   rw [if_neg (show ¬ qM _ _ _≤0 from h3),if_pos (by unfold Qa;omega)];rfl
 ·unfold QU
  rw [if_neg (by simp)]
theorem QaS {n:Nat} (hn:100≤n) {ps:List Pt} (hs:∀ p,p∈ps→Q6 p) (hl:ps.length≤65) {i:Nat} (h:i < ps.length) :
  QE (ZH n (ps.map Qr) (i:Int)) n 0=some (rowE ps i):=by
 have hm:=Eu (m:=ps.length) (i:=i) (by omega)
 refine Zp (step:=ZH n (ps.map Qr) (i:Int)) (gRow ps i) (fun _=>.inr ()) (fun k _=>(k:Int)) (List.range ps.length) (fun _ _=>True)
  (fun k s x hx _=>?_) (fun s _=>?_) (s:=()) trivial (by simp;omega)
 ·obtain ⟨rfl,hk⟩:=GW hx
  have hlt:((x:Nat):Int) < (((ps.map Qr).length:Nat):Int):=by simp;omega
  unfold gRow ZH
  by_cases h1:x=i
  ·rw [if_pos h1]
   refine ⟨?_,trivial⟩
   rw [if_pos hlt,if_pos (by omega),if_pos (by unfold Qa;omega)];rfl
  rw [if_neg h1]
  by_cases h2:x=nx ps.length i
  ·rw [if_pos h2]
   refine ⟨?_,trivial⟩
   rw [if_pos hlt,if_neg (by omega),if_pos (by unfold Qa;omega),if_pos (JK h),List.length_map,UK,if_pos (by omega),if_pos (by unfold Qa;omega)];rfl
  rw [if_neg h2]
  have hq:=Gw n (Kt hs h) (Kt hs hm) (Kt hs hk)
  by_cases h3:yY ps i x≤0
  ·rw [if_pos h3]
   rw [if_pos hlt,if_neg (by omega),if_pos (by unfold Qa;omega),if_pos (JK h),List.length_map,UK,if_neg (by omega),V2 h,Option.bind_some,qA n h hl,Option.bind_some,V2 hk,Option.bind_some,hq,Option.bind_some]
   exact if_pos h3
  ·rw [if_neg h3]
   refine ⟨?_,trivial⟩
   rw [if_pos hlt,if_neg (by omega),if_pos (by unfold Qa;omega),if_pos (JK h),List.length_map,UK,if_neg (by omega),V2 h,Option.bind_some,qA n h hl,Option.bind_some,V2 hk,Option.bind_some,hq,Option.bind_some]
   rw [if_neg (show ¬ qM _ _ _≤0 from h3),if_pos (by unfold Qa;omega)];rfl
 ·unfold ZH
  rw [if_neg (by simp)]
theorem Qdi {n:Nat} (hn:100≤n) {ps:List Pt} (hs:∀ p,p∈ps→Q6 p) (hl:ps.length≤65):QE (QT n (ps.map Qr)) n 0=some (Qdt ps):=by
 refine Zp (step:=QT n (ps.map Qr)) (gAll ps) (fun _=>.inr ()) (fun k _=>(k:Int)) (List.range ps.length) (fun _ _=>True)
  (fun k s x hx _=>?_) (fun s _=>?_) (s:=()) trivial (by simp;omega)
 ·obtain ⟨rfl,hk⟩:=GW hx
  have hlt:((x:Nat):Int) < (((ps.map Qr).length:Nat):Int):=by simp;omega
  have hr:=Qc5 hn hs hl hk
  unfold gAll QT
  cases hq:rowE ps x with
  | inl u =>
   rw [hq] at hr
   dsimp only
   rw [if_pos hlt,qE n hk hl,Option.bind_some,hr,Option.bind_some]
  | inr u =>
   rw [hq] at hr
   refine ⟨?_,trivial⟩
   rw [if_pos hlt,qE n hk hl,Option.bind_some,hr,Option.bind_some]
   dsimp only
   rw [if_pos (by unfold Qa;omega)];rfl
 ·unfold QT
  rw [if_neg (by simp)]
theorem QaU {n:Nat} (hn:100≤n) {ps:List Pt} (hs:∀ p,p∈ps→Q6 p) (hl:ps.length≤65):QE (ZG n (ps.map Qr)) n 0=some (Qdt ps):=by
 refine Zp (step:=ZG n (ps.map Qr)) (gAll ps) (fun _=>.inr ()) (fun k _=>(k:Int)) (List.range ps.length) (fun _ _=>True)
  (fun k s x hx _=>?_) (fun s _=>?_) (s:=()) trivial (by simp;omega)
 ·obtain ⟨rfl,hk⟩:=GW hx
  have hlt:((x:Nat):Int) < (((ps.map Qr).length:Nat):Int):=by simp;omega
  have hr:=QaS hn hs hl hk
  unfold gAll ZG
  cases hq:rowE ps x with
  | inl u =>
   rw [hq] at hr
   dsimp only
   rw [if_pos hlt,hr,Option.bind_some]
  | inr u =>
   rw [hq] at hr
   refine ⟨?_,trivial⟩
   rw [if_pos hlt,hr,Option.bind_some]
   dsimp only
   rw [if_pos (by unfold Qa;omega)];rfl
 ·unfold ZG
  rw [if_neg (by simp)]
def YR (ps:List Pt):Int :=
 if Qx [Q0 (decide ((ps.length:Int) < 3)) 16,Q0 (decide ((ps.length:Int) > 16)) 5]=0 then
  if Qx (ps.map ptE)=0 then match Qdt ps with
   | .inl _=>2
   | .inr _=>0
  else Qx (ps.map ptE)
 else Qx [Q0 (decide ((ps.length:Int) < 3)) 16,Q0 (decide ((ps.length:Int) > 16)) 5]
theorem GS {ps:List Pt} (h:Qx (ps.map ptE)=0):∀ p,p∈ps→Q6 p:=fun p hp=>QbP (Z1 h _ (List.mem_map.2 ⟨p,hp,rfl⟩))
theorem Xk {n:Nat} (hn:100≤n) (ps:List Pt) (hl:ps.length≤65):Zz n (ps.map Qr)=some (YR ps):=by
 unfold Zz YR
 rw [List.length_map,UI,Option.bind_some,UI,Option.bind_some,JQ (by omega),Option.bind_some]
 by_cases h1:Qx [Q0 (decide ((ps.length:Int) < 3)) 16,Q0 (decide ((ps.length:Int) > 16)) 5]=0
 ·rw [if_pos h1,if_pos h1,XE hn ps hl,Option.bind_some,Xa _ (by simp;omega) (by simp;omega),Option.bind_some]
  by_cases h2:Qx (ps.map ptE)=0
  ·rw [if_pos h2,if_pos h2,Qdi hn (GS h2) hl,Option.bind_some]
   cases Qdt ps <;> rfl
  ·rw [if_neg h2,if_neg h2]
 ·rw [if_neg h1,if_neg h1]
theorem Eo {n:Nat} (hn:100≤n) (ps:List Pt) (hl:ps.length≤65):Zw n (ps.map Qr)=some (YR ps):=by
 unfold Zw YR
 rw [List.length_map,V5,Option.bind_some,V5,Option.bind_some,Ua (by omega),Option.bind_some]
 by_cases h1:Qx [Q0 (decide ((ps.length:Int) < 3)) 16,Q0 (decide ((ps.length:Int) > 16)) 5]=0
 ·rw [if_pos h1,if_pos h1]
  have key:∀ (l:List Pt),KL (fun (_:Unit) (p:Pt)=>(if ptE p=0 then .inl () else .inr (.inl (ptE p)):Unit⊕(Int⊕Unit))) (fun _=>.inr ()) l ()=if Qx (l.map ptE)=0 then .inr () else .inl (Qx (l.map ptE)):=by
   intro l
   induction l with
   | nil=>rfl
   | cons p l ih =>
    unfold KL
    by_cases h:ptE p=0
    ·rw [if_pos h];simp only [List.map_cons,Qx,if_pos h];exact ih
    ·rw [if_neg h];simp only [List.map_cons,Qx,if_neg h]
  have:=Zp (step:=Q7 n (ps.map Qr)) (fun (_:Unit) (p:Pt)=>(if ptE p=0 then .inl () else .inr (.inl (ptE p)):Unit⊕(Int⊕Unit))) (fun _=>.inr ()) (fun i _=>(i:Int)) ps (fun _ _=>True)
   (fun i s x hx _=>by
    have hi:=(List.getElem?_eq_some_iff.1 hx).1
    unfold Q7
    by_cases h:ptE x=0
    ·rw [if_pos h]
     refine ⟨?_,trivial⟩
     rw [if_pos (Kj hx),K5 unP hx,Option.bind_some,UN (by omega),Option.bind_some,if_pos h,if_pos (by unfold Qa;omega)];rfl
    ·rw [if_neg h]
     dsimp only
     rw [if_pos (Kj hx),K5 unP hx,Option.bind_some,UN (by omega),Option.bind_some,if_neg h])
   (fun s _=>by unfold Q7;rw [if_neg (by simp)]) (s:=()) (k:=n) trivial (by omega)
  rw [show (0:Int)=((0:Nat):Int) from rfl,this,key]
  by_cases h2:Qx (ps.map ptE)=0
  ·rw [if_pos h2,if_pos (show Qx (ps.map ptE)=((0:Nat):Int) from h2)]
   dsimp only [Option.bind_some]
   unfold VV
   rw [QaU hn (GS h2) hl,Option.bind_some]
   cases Qdt ps <;> rfl
  ·rw [if_neg h2,if_neg (show ¬ Qx (ps.map ptE)=((0:Nat):Int) from h2)];rfl
 ·rw [if_neg h1,if_neg h1]
theorem qS {ps:List Pt} (h:YR ps=0):3≤ps.length∧ps.length≤16∧∀ p,p∈ps→Q6 p:=by
 unfold YR at h
 by_cases h1:Qx [Q0 (decide ((ps.length:Int) < 3)) 16,Q0 (decide ((ps.length:Int) > 16)) 5]=0
 ·rw [if_pos h1] at h
  have a1:=Z1 h1 (Q0 (decide ((ps.length:Int) < 3)) 16) (by simp)
  have a2:=Z1 h1 (Q0 (decide ((ps.length:Int) > 16)) 5) (by simp)
  by_cases h2:Qx (ps.map ptE)=0
  ·refine ⟨?_,?_,GS h2⟩
   ·unfold Q0 at a1;split at a1
    ·omega
    ·rename_i hc;simp at hc;omega
   ·unfold Q0 at a2;split at a2
    ·omega
    ·rename_i hc;simp at hc;omega
  ·rw [if_neg h2] at h;exact absurd h h2
 ·rw [if_neg h1] at h;exact absurd h h1
end Go.Proofs.YtiefmhacicemhaaGreatDoor
namespace Go.Geo
theorem Ring.out {S f n} (hr:Ring S f n) (hn:3≤n) {p:P2} (hp:∀ y,S y→lx p y):∃ j,j < n∧lft (f j) (f (j+1)) p < 0:=by
 have hc:=hr.close
 rw [hr.back] at hc
 have h1:=hr.mn (f 1) (hr.mem 1 (by omega))
 have h2:=hr.mn (f (n - 1)) (hr.mem (n - 1) (by omega))
 have n1:lx (f 0) (f 1):=by
  rcases h1 with e | e
  ·have:=hr.inj 1 0 (by omega) (by omega) e;omega
  ·exact e
 have n2:lx (f 0) (f (n - 1)):=by
  rcases h2 with e | e
  ·have:=hr.inj (n - 1) 0 (by omega) (by omega) e;omega
  ·exact e
 have h0:=hp (f 0) (hr.mem 0 (by omega))
 rcases Int.lt_or_le (lft (f 0) (f 1) p) 0 with h | h
 ·exact ⟨0,by omega,h⟩
 ·rcases Int.lt_or_le (lft (f (n - 1)) (f 0) p) 0 with h' | h'
  ·refine ⟨n - 1,by omega,?_⟩
   rw [show n - 1+1=n by omega,hr.back];exact h'
  ·exfalso
   generalize f 0=o at *
   generalize f 1=v at *
   generalize f (n - 1)=u at *
   have e1:lft u o p=(u.1 - o.1) * (o.2 - p.2) - (u.2 - o.2) * (o.1 - p.1):=by unfold lft;grind
   have e2:lft o v p=(o.1 - p.1) * (v.2 - o.2) - (o.2 - p.2) * (v.1 - o.1):=by unfold lft;grind
   have e3:lft u o v=- ((u.1 - o.1) * (v.2 - o.2) - (u.2 - o.2) * (v.1 - o.1)):=by unfold lft;grind
   rw [e2] at h
   rw [e1] at h'
   rw [e3] at hc
   unfold lx at *
   have:=jx (ux:=u.1 - o.1) (uy:=u.2 - o.2) (ex:=o.1 - p.1) (ey:=o.2 - p.2) (wx:=v.1 - o.1) (wy:=v.2 - o.2) (by omega) (by omega) (by omega) h' h
   omega
def mv (k:Int) (p:P2):P2:=(p.1+k,p.2)
theorem mem_rng {g:List P2} {x:P2} (hx:x∈g):∃ i,i < g.length∧rng g i=x:=by
 obtain ⟨i,hi,e⟩:=mem_at0 hx
 exact ⟨i,hi,by unfold rng;rw [if_neg (by omega)];exact e⟩
def GL (p q:P2):Int:=(p.1 - q.1) * (p.1 - q.1)+(p.2 - q.2) * (p.2 - q.2)
def jb (here best x:P2):P2:=if x=here then best else if best=here then x else if lft here best x < 0 then x else if lft here best x=0 then (if GL here x > GL here best then x else best) else best
def JB (here:P2) (l:List P2):P2:=l.foldl (jb here) here
def Tgt (here t:P2) (l:List P2):Prop:=t≠here∧∀ p,p∈l→p≠here→p≠t→0 < lft here t p ∨ (lft here t p=0∧GL here p < GL here t)
theorem QcL {here t:P2} {l:List P2} (h:Tgt here t l) {x:P2} (hx:x∈l):jb here t x=t:=by
 unfold jb
 by_cases h1:x=here
 ·rw [if_pos h1]
 ·rw [if_neg h1,if_neg h.1]
  by_cases h2:x=t
  ·subst h2;rw [Ki,if_neg (by omega),if_pos rfl,if_neg (by omega)]
  ·rcases h.2 x hx h1 h2 with h3 | ⟨h3,h4⟩
   ·rw [if_neg (by omega),if_neg (by omega)]
   ·rw [if_neg (by omega),if_pos h3,if_neg (by omega)]
theorem Qdd {here t:P2} {l:List P2} (h:Tgt here t l) {b:P2} (hb:b=here ∨ b∈l):jb here b t=t:=by
 unfold jb
 rw [if_neg h.1]
 by_cases h1:b=here
 ·rw [if_pos h1]
 ·rw [if_neg h1]
  have hbl:b∈l:=hb.resolve_left h1
  by_cases h2:b=t
  ·subst h2;rw [Ki,if_neg (by omega),if_pos rfl,if_neg (by omega)]
  ·have hs:lft here b t=- lft here t b:=Qb3 here b t
   rcases h.2 b hbl h1 h2 with h3 | ⟨h3,h4⟩
   ·rw [if_pos (by omega)]
   ·rw [if_neg (by omega),if_pos (by omega),if_pos (by omega)]
theorem jb_mem {here b x:P2} {l:List P2} (hb:b=here ∨ b∈l) (hx:x∈l):jb here b x=here ∨ jb here b x∈l:=by
 unfold jb
 split
 ·exact hb
 split
 ·exact .inr hx
 split
 ·exact .inr hx
 split
 ·split
  ·exact .inr hx
  ·exact hb
 ·exact hb
theorem wz {here t:P2} {l:List P2} (h:Tgt here t l):∀ (m:List P2) (b:P2),(∀ x,x∈m→x∈l)→(b=here ∨ b∈l)→(b=t ∨ t∈m)→m.foldl (jb here) b=t
 | [],b,_,_,ht=>by
  rcases ht with h | h
  ·exact h
  ·simp at h
 | x::m,b,hm,hb,ht=>by
  have hx:=hm x List.mem_cons_self
  rw [List.foldl_cons]
  refine wz h m _ (fun y hy=>hm y (List.mem_cons_of_mem _ hy)) (jb_mem hb hx) ?_
  rcases ht with rfl | ht
  ·exact .inl (QcL h hx)
  ·rcases List.mem_cons.1 ht with rfl | ht
   ·exact .inl (Qdd h hb)
   ·exact .inr ht
theorem qN {here t:P2} {l:List P2} (h:Tgt here t l) (ht:t∈l):JB here l=t:=wz h l here (fun x h=>h) (.inl rfl) (.inr ht)
theorem QaQ {here:P2} {l:List P2} (h:∀ x,x∈l→x=here):JB here l=here:=by
 unfold JB
 have:∀ m:List P2,(∀ x,x∈m→x=here)→m.foldl (jb here) here=here:=by
  intro m
  induction m with
  | nil=>intro _;rfl
  | cons x m ih =>
   intro hm
   rw [List.foldl_cons]
   have:jb here here x=here:=by unfold jb;rw [if_pos (hm x List.mem_cons_self)]
   rw [this]
   exact ih fun y hy=>hm y (List.mem_cons_of_mem _ hy)
 exact this l h
theorem yX {a b:Int} (h:a≠0 ∨ b≠0):0 < a * a+b * b:=by
 have h1:=sq_nn a
 have h2:=sq_nn b
 rcases h with h | h
 ·have:a * a≠0:=fun e=>h (by rcases Int.mul_eq_zero.1 e with h | h <;> exact h)
  omega
 ·have:b * b≠0:=fun e=>h (by rcases Int.mul_eq_zero.1 e with h | h <;> exact h)
  omega
theorem Qcj {S:P2→Prop} {f:Nat→P2} {n:Nat} (h:Ring S f n) (hn:3≤n) {i:Nat} (hi:i < n) {l:List P2} (hl:∀ p,p∈l→S p):Tgt (f i) (f (i+1)) l:=by
 obtain ⟨j,hj,hj1,hj2⟩:=h.prev hn hi
 obtain ⟨j',hj',hj3,hj4⟩:=h.next hn hi
 have hne:f (i+1)≠f i:=by
  intro e
  rw [e,Ki] at hj2
  omega
 refine ⟨hne,fun p hp h1 h2=>?_⟩
 have hw:=h.weak i hi p (hl p hp)
 by_cases h0:lft (f i) (f (i+1)) p=0
 ·right
  refine ⟨h0,?_⟩
  have hk:=h.weak j hj p (hl p hp)
  rw [hj1] at hk
  have hg:=h.weak j' hj' p (hl p hp)
  rw [hj3] at hg
  generalize f i=a at *
  generalize f (i+1)=t at *
  generalize f j=b at *
  generalize f (j'+1)=c at *
  -- vectors
  obtain ⟨a1,a2⟩:=a
  obtain ⟨t1,t2⟩:=t
  obtain ⟨b1,b2⟩:=b
  obtain ⟨c1,c2⟩:=c
  obtain ⟨p1,p2⟩:=p
  simp only [lft] at h0 hk hg hj2 hj4
  have hd:t1 - a1≠0 ∨ t2 - a2≠0:=by
   rcases Decidable.em (t1 - a1=0) with e1 | e1
   ·rcases Decidable.em (t2 - a2=0) with e2 | e2
    ·exact absurd (show ((t1,t2):P2)=(a1,a2) by rw [show t1=a1 by omega,show t2=a2 by omega]) hne
    ·exact .inr e2
   ·exact .inl e1
  unfold GL
  show (a1 - p1) * (a1 - p1)+(a2 - p2) * (a2 - p2) < (a1 - t1) * (a1 - t1)+(a2 - t2) * (a2 - t2)
  -- K (p - a)=k (t - a)
  obtain ⟨K,hK⟩:∃ K,K=(a1 - b1) * (t2 - b2) - (a2 - b2) * (t1 - b1):=⟨_,rfl⟩
  obtain ⟨k,hkk⟩:∃ k,k=(a1 - b1) * (p2 - b2) - (a2 - b2) * (p1 - b1):=⟨_,rfl⟩
  rw [← hK] at hj2
  rw [← hkk] at hk
  have e1:K * (p1 - a1)=k * (t1 - a1):=by rw [hK,hkk];grind
  have e2:K * (p2 - a2)=k * (t2 - a2):=by rw [hK,hkk];grind
  obtain ⟨G,hG⟩:∃ G,G=(t1 - a1) * (c2 - a2) - (t2 - a2) * (c1 - a1):=⟨_,rfl⟩
  rw [← hG] at hj4
  have e3:K * ((c1 - t1) * (p2 - t2) - (c2 - t2) * (p1 - t1))=(K - k) * G:=by rw [hG];grind
  have hle:k≤K:=by
   have h5:0≤K * ((c1 - t1) * (p2 - t2) - (c2 - t2) * (p1 - t1)):=Int.mul_nonneg (by omega) hg
   rw [e3,Int.mul_comm] at h5
   have:=Ey hj4 h5
   omega
  have hk0:k≠0:=by
   intro e
   rw [e,Int.zero_mul] at e1 e2
   have f1:=Yo (by omega:K≠0) e1
   have f2:=Yo (by omega:K≠0) e2
   exact h1 (show ((p1,p2):P2)=(a1,a2) by rw [show p1=a1 by omega,show p2=a2 by omega])
  have hkK:k≠K:=by
   intro e
   rw [e] at e1 e2
   have f1:=Yo (k:=K) (z:=(p1 - a1) - (t1 - a1)) (by omega) (by rw [Int.mul_sub];omega)
   have f2:=Yo (k:=K) (z:=(p2 - a2) - (t2 - a2)) (by omega) (by rw [Int.mul_sub];omega)
   exact h2 (show ((p1,p2):P2)=(t1,t2) by rw [show p1=t1 by omega,show p2=t2 by omega])
  have hD:=yX hd
  have e4:(K * K) * ((p1 - a1) * (p1 - a1)+(p2 - a2) * (p2 - a2))=(k * k) * ((t1 - a1) * (t1 - a1)+(t2 - a2) * (t2 - a2)):=by
   have g1:(K * (p1 - a1)) * (K * (p1 - a1))=(k * (t1 - a1)) * (k * (t1 - a1)):=by rw [e1]
   have g2:(K * (p2 - a2)) * (K * (p2 - a2))=(k * (t2 - a2)) * (k * (t2 - a2)):=by rw [e2]
   grind
  have hKK:k * k < K * K:=Int.mul_self_lt_mul_self (by omega) (by omega)
  have e5:0 < (K * K) * (((t1 - a1) * (t1 - a1)+(t2 - a2) * (t2 - a2)) - ((p1 - a1) * (p1 - a1)+(p2 - a2) * (p2 - a2))):=by
   rw [Int.mul_sub,e4,← Int.sub_mul]
   exact Int.mul_pos (by omega) hD
  have hKp:0 < K * K:=Int.mul_pos (by omega) (by omega)
  have e6:=QbR hKp e5
  have g3:(a1 - p1) * (a1 - p1)+(a2 - p2) * (a2 - p2)=(p1 - a1) * (p1 - a1)+(p2 - a2) * (p2 - a2):=by grind
  have g4:(a1 - t1) * (a1 - t1)+(a2 - t2) * (a2 - t2)=(t1 - a1) * (t1 - a1)+(t2 - a2) * (t2 - a2):=by grind
  rw [g3,g4]
  omega
 ·exact .inl (by omega)
theorem yn {a p z:P2} (h1:lx a p) (h2:lx p z) (h0:lft a z p=0):GL a p < GL a z∧GL z p < GL z a:=by
 obtain ⟨a1,a2⟩:=a
 obtain ⟨p1,p2⟩:=p
 obtain ⟨z1,z2⟩:=z
 simp only [lft,lx] at h0 h1 h2
 unfold GL
 show (a1 - p1) * (a1 - p1)+(a2 - p2) * (a2 - p2) < (a1 - z1) * (a1 - z1)+(a2 - z2) * (a2 - z2)∧(z1 - p1) * (z1 - p1)+(z2 - p2) * (z2 - p2) < (z1 - a1) * (z1 - a1)+(z2 - a2) * (z2 - a2)
 obtain ⟨x,hx⟩:∃ x,x=p1 - a1:=⟨_,rfl⟩
 obtain ⟨y,hy⟩:∃ y,y=p2 - a2:=⟨_,rfl⟩
 obtain ⟨u,hu⟩:∃ u,u=z1 - p1:=⟨_,rfl⟩
 obtain ⟨v,hv⟩:∃ v,v=z2 - p2:=⟨_,rfl⟩
 have hpar:x * v=y * u:=by
  have e1:z1 - a1=u+x:=by omega
  have e2:z2 - a2=v+y:=by omega
  rw [e1,e2,← hx,← hy] at h0
  have:(u+x) * y - (v+y) * x=u * y - v * x:=by grind
  rw [this] at h0
  have c1:=Int.mul_comm u y
  have c2:=Int.mul_comm v x
  omega
 have hxy:0 < x ∨ x=0∧0 < y:=by omega
 have huv:0 < u ∨ u=0∧0 < v:=by omega
 have hdot:0≤x * u+y * v:=by
  rcases hxy with hx0 | ⟨hx0,hy0⟩
  ·rcases huv with hu0 | ⟨hu0,hv0⟩
   ·have f1:0 < x * u:=Int.mul_pos hx0 hu0
    -- x u (y v)=(x v)(y u)=(y u)^2
    have f2:(x * u) * (y * v)=(y * u) * (y * u):=by
     have:(x * u) * (y * v)=(x * v) * (y * u):=by grind
     rw [this,hpar]
    have f3:0≤(x * u) * (y * v):=by rw [f2];exact sq_nn _
    have:=Ey f1 f3
    omega
   ·rw [hu0,Int.mul_zero] at hpar
    have:0 < x * v:=Int.mul_pos hx0 hv0
    omega
  ·rcases huv with hu0 | ⟨hu0,hv0⟩
   ·rw [hx0,Int.zero_mul] at hpar
    have:0 < y * u:=Int.mul_pos hy0 hu0
    omega
   ·have:0 < y * v:=Int.mul_pos hy0 hv0
    rw [hx0,Int.zero_mul];omega
 have hq1:=yX (a:=u) (b:=v) (by omega)
 have hq2:=yX (a:=x) (b:=y) (by omega)
 have g1:(a1 - p1) * (a1 - p1)+(a2 - p2) * (a2 - p2)=x * x+y * y:=by rw [hx,hy];grind
 have g2:(a1 - z1) * (a1 - z1)+(a2 - z2) * (a2 - z2)=(x * x+y * y)+(u * u+v * v)+2 * (x * u+y * v):=by rw [hx,hy,hu,hv];grind
 have g3:(z1 - p1) * (z1 - p1)+(z2 - p2) * (z2 - p2)=u * u+v * v:=by rw [hu,hv]
 have g4:(z1 - a1) * (z1 - a1)+(z2 - a2) * (z2 - a2)=(x * x+y * y)+(u * u+v * v)+2 * (x * u+y * v):=by rw [hx,hy,hu,hv];grind
 rw [g1,g2,g3,g4]
 omega
def UH (l:List P2) (start:P2):Nat→P2→List P2→List P2
 | 0,_,out=>out
 | k+1,here,out=>if JB here l=start then out++[here] else UH l start k (JB here l) (out++[here])
theorem walk_ring {S:P2→Prop} {f:Nat→P2} {n:Nat} (h:Ring S f n) (hn:3≤n) {l:List P2} (hl:∀ p,p∈l↔S p) :
  ∀ (m i k:Nat) (out:List P2),i+m=n→0 < m→m≤k→UH l (f 0) k (f i) out=out++(List.range m).map fun j=>f (i+j)
 | 0,i,k,out,_,h0,_=>by omega
 | m+1,i,k,out,him,_,hk=>by
  obtain ⟨k,rfl⟩:∃ q,k=q+1:=⟨k - 1,by omega⟩
  have hs:JB (f i) l=f (i+1):=qN (Qcj h hn (by omega) fun p hp=>(hl p).1 hp) ((hl _).2 (h.mem (i+1) (by omega)))
  unfold UH
  rw [hs]
  by_cases hm:m=0
  ·subst hm
   rw [if_pos (by rw [show i+1=n by omega];exact h.back)]
   rfl
  ·rw [if_neg (fun e=>by have:=h.inj (i+1) 0 (by omega) (by omega) e;omega),walk_ring h hn hl m (i+1) k _ (by omega) (by omega) (by omega),List.append_assoc]
   congr 1
   rw [List.range_succ_eq_map,List.map_cons,List.map_map]
   show [f i]++_=f (i+0)::_
   rw [Nat.add_zero]
   show f i::_=f i::_
   congr 1
   apply List.map_congr_left
   intro j _
   show f (i+1+j)=f (i+(j+1))
   congr 1;omega
theorem walk_line {l:List P2} {a:P2} (ha:∀ p,p∈l→p=a ∨ lx a p) (hal:a∈l) (hc:∀ p q r,p∈l→q∈l→r∈l→lft p q r=0) {k:Nat} (hk:2≤k):(UH l a k a []).length < 3:=by
 obtain ⟨k,rfl⟩:∃ q,k=q+2:=⟨k - 2,by omega⟩
 by_cases h1:∀ x,x∈l→x=a
 ·unfold UH
  rw [if_pos (QaQ h1)]
  simp
 ·-- the last point
  obtain ⟨z,hz,hmx⟩:∃ z,z∈l∧∀ p,p∈l→p=z ∨ lx p z:=by
   have:∀ m:List P2,m≠[]→∃ z,z∈m∧∀ p,p∈m→p=z ∨ lx p z:=by
    intro m
    induction m with
    | nil=>intro h;exact absurd rfl h
    | cons x m ih =>
     intro _
     by_cases hm:m=[]
     ·subst hm
      exact ⟨x,by simp,fun p hp=>.inl (by simpa using hp)⟩
     ·obtain ⟨z,hz,hzm⟩:=ih hm
      rcases lx_tri x z with rfl | h | h
      ·exact ⟨x,List.mem_cons_self,fun p hp=>by
        rcases List.mem_cons.1 hp with rfl | hp
        ·exact .inl rfl
        ·exact hzm p hp⟩
      ·exact ⟨z,List.mem_cons_of_mem _ hz,fun p hp=>by
        rcases List.mem_cons.1 hp with rfl | hp
        ·exact .inr h
        ·exact hzm p hp⟩
      ·exact ⟨x,List.mem_cons_self,fun p hp=>by
        rcases List.mem_cons.1 hp with rfl | hp
        ·exact .inl rfl
        ·rcases hzm p hp with rfl | h2
         ·exact .inr h
         ·exact .inr (lx_trans h2 h)⟩
   exact this l (by intro e;rw [e] at hal;simp at hal)
  have hza:z≠a:=by
   intro e
   refine h1 fun x hx=>?_
   rcases hmx x hx with h | h
   ·rw [h,e]
   ·rcases ha x hx with h2 | h2
    ·exact h2
    ·rw [e] at h;exact (lx_irr h h2).elim
  have t1:Tgt a z l:=⟨hza,fun p hp n1 n2=>.inr ⟨hc a z p hal hz hp,(yn ((ha p hp).resolve_left n1) ((hmx p hp).resolve_left n2) (hc a z p hal hz hp)).1⟩⟩
  have t2:Tgt z a l:=⟨fun e=>hza e.symm,fun p hp n1 n2=>.inr ⟨hc z a p hz hal hp,(yn ((ha p hp).resolve_left n2) ((hmx p hp).resolve_left n1) (hc a z p hal hz hp)).2⟩⟩
  unfold UH
  rw [qN t1 hz,if_neg hza]
  unfold UH
  rw [qN t2 hal,if_pos rfl]
  simp
end Go.Geo
namespace Go.Proofs.YtiefmhacicemhaaGreatDoor
open Go.SX
open Go.Geo (lft lx pop Zg Vk KV Uu srt dd Jk VG YA ZF zm G9 srt_ok cmpt_ok)
theorem VN {l:List Pt} {i:Nat} {x:Pt} (h:l[i]?=some x):nth (l.map Qr) i=some (Qr x):=by
 rw [qT,List.getElem?_map,h];rfl
theorem jE {α:Type} (a:List α) (x y:α) (r:List α):List.set (a++x::r) a.length y=a++y::r:=by
 rw [List.set_append_right _ _ (Nat.le_refl _)];simp
theorem wH:∀ ps:List Pt,wI (ps.map Qr)=some ps
 | []=>rfl
 | p::ps=>by
  rw [List.map_cons]
  show (match ptOf (Qr p),wI (ps.map Qr) with
   | some p,some ps=>some (p::ps)
   | _,_=>none)=_
  rw [wH ps];rfl
theorem Qcz (n:Nat) (ps:List Pt) (h:ps.length≤20):ZJ n (ps.map Qr)=some ((srt ps).map Qr):=by
 unfold ZJ
 rw [if_pos (by simp;omega),wH];rfl
theorem eqP (a b:Pt):((a.1 == b.1) && ((a.2 == b.2) && true))=true↔a=b:=by
 obtain ⟨a1,a2⟩:=a
 obtain ⟨b1,b2⟩:=b
 simp
theorem qJ {n:Nat} (T:List D) (m:Nat) (hm:T.length≤64) :
  ∀ (r:List Pt) (q:Pt) (C J:List Pt) (k:Nat),(C++J++q::r).length=T.length→m≤C.length+J.length→r.length < k →
   ∃ J',J'≠[]∧(C++dd q r++J').length=T.length∧QE (Zm n T (m:Int)) k ((C.length:Int),((C.length+J.length+1 - m:Nat):Int),(C++J++q::r).map Qr)=some (((C++dd q r).length:Int),(C++dd q r++J').map Qr)
 | [],q,C,J,k,hl,hmC,hk=>by
  obtain ⟨k,rfl⟩:∃ j,k=j+1:=⟨k - 1,by omega⟩
  refine ⟨J++[q],by simp,by simp only [dd,List.append_nil];simp at hl ⊢;omega,Vq ?_⟩
  have hl' : C.length+J.length+1=T.length:=by simp at hl;omega
  unfold Zm
  dsimp only
  rw [if_neg (by rw [List.length_replicate];simp only [Int.toNat_natCast];omega)]
  simp [dd]
 | y::r,q,C,J,k,hl,hmC,hk=>by
  obtain ⟨k,rfl⟩:∃ j,k=j+1:=⟨k - 1,by omega⟩
  have hl' : C.length+J.length+2+r.length=T.length:=by simp at hl;omega
  have hM:((C++J++q::y::r).map Qr).length=T.length:=by rw [List.length_map];exact hl
  have n1:nth ((C++J++q::y::r).map Qr) (m+(C.length+J.length+1 - m))=some (Qr y):=VN (by
   rw [show m+(C.length+J.length+1 - m)=(C++J).length+1 by simp;omega,List.getElem?_append_right (by omega)];simp)
  have n2:nth ((C++J++q::y::r).map Qr) (m+(C.length+J.length+1 - m - 1))=some (Qr q):=VN (by
   rw [show m+(C.length+J.length+1 - m - 1)=(C++J).length by simp;omega,List.getElem?_append_right (by omega)];simp)
  have e2:(((C.length+J.length+1 - m:Nat):Int) - 1)=((C.length+J.length+1 - m - 1:Nat):Int):=by omega
  have e3:(((C.length+J.length+1 - m:Nat):Int)+1)=((C.length+J.length+2 - m:Nat):Int):=by omega
  by_cases he:y=q
  ·have ih:=qJ (n:=n) T m hm r q C (J++[q]) k (by simp at hl ⊢;omega) (by simp;omega) (by simp at hk;omega)
   obtain ⟨J',j1,j2,j3⟩:=ih
   have ed:dd q (y::r)=dd q r:=by simp [dd,he]
   rw [ed]
   refine ⟨J',j1,j2,?_⟩
   have hstep:Zm n T (m:Int) ((C.length:Int),((C.length+J.length+1 - m:Nat):Int),(C++J++q::y::r).map Qr)=some (.inl ((C.length:Int),((C.length+J.length+2 - m:Nat):Int),(C++J++q::y::r).map Qr)):=by
    generalize (C++J++q::y::r).map Qr=M at *
    unfold Zm
    dsimp only
    simp only [Int.toNat_natCast]
    rw [if_pos (by rw [List.length_replicate];omega),if_pos (by omega),n1,Option.bind_some,unP,Option.bind_some,if_pos (by unfold Qa;omega),e2,if_pos (by omega),Int.toNat_natCast,n2,Option.bind_some,unP,Option.bind_some,
     if_pos ((eqP y q).2 he),if_pos (by unfold Qa;omega),e3]
   rw [UR hstep]
   have e4:C++J++q::y::r=C++(J++[q])++q::r:=by rw [he];simp
   have e5:C.length+J.length+2 - m=C.length+(J++[q]).length+1 - m:=by simp;omega
   rw [e4,e5];exact j3
  ·-- what is taken up goes to the place behind the last one
   obtain ⟨z,J2,hJ⟩:∃ z J2,J++[q]=z::J2:=by
    cases J with
    | nil=>exact ⟨q,[],rfl⟩
    | cons z J=>exact ⟨z,J++[q],rfl⟩
   have hJl:J.length+1=J2.length+1:=by have:=congrArg List.length hJ;simpa using this
   have ih:=qJ (n:=n) T m hm r y (C++[y]) J2 k (by simp at hl ⊢;omega) (by simp;omega) (by simp at hk;omega)
   obtain ⟨J',j1,j2,j3⟩:=ih
   have ed:dd q (y::r)=y::dd y r:=by simp [dd,he]
   rw [ed]
   have e7:C++y::dd y r=C++[y]++dd y r:=by simp
   rw [e7]
   refine ⟨J',j1,j2,?_⟩
   have hset:List.set ((C++J++q::y::r).map Qr) C.length (Qr y)=(C++[y]++J2++y::r).map Qr:=by
    rw [← List.map_set]
    congr 1
    rw [show C++J++q::y::r=C++(J++[q])++y::r by simp,hJ,show C++z::J2++y::r=C++z::(J2++y::r) by simp,jE]
    simp
   have hstep:Zm n T (m:Int) ((C.length:Int),((C.length+J.length+1 - m:Nat):Int),(C++J++q::y::r).map Qr)=some (.inl (((C.length+1:Nat):Int),((C.length+J.length+2 - m:Nat):Int),(C++[y]++J2++y::r).map Qr)):=by
    rw [← hset]
    generalize (C++J++q::y::r).map Qr=M at *
    unfold Zm
    dsimp only
    simp only [Int.toNat_natCast]
    rw [if_pos (by rw [List.length_replicate];omega),if_pos (by omega),n1,Option.bind_some,unP,Option.bind_some,if_pos (by unfold Qa;omega),e2,if_pos (by omega),Int.toNat_natCast,n2,Option.bind_some,unP,Option.bind_some,
     if_neg (fun h=>he ((eqP y q).1 h)),if_pos (by omega),if_pos (by omega),if_pos (by unfold Qa;omega),if_pos (by unfold Qa;omega),e3]
    rfl
   rw [UR hstep]
   have e5:C.length+J.length+2 - m=(C++[y]).length+J2.length+1 - m:=by simp;omega
   have e6:((C.length+1:Nat):Int)=((C++[y]).length:Int):=by simp
   rw [e5,e6];exact j3
theorem kQ {n:Nat} (hn:100≤n):∀ (r:List Pt) (p:Pt) (pre:List Pt) (k:Nat),(pre++p::r).length≤64→r.length < k →
  (QE (Q4 n ((pre++p::r).map Qr)) k ((pre.length+1:Nat):Int)=some (.inl ((pre++p::dd p r).map Qr))) ∨
  (QE (Q4 n ((pre++p::r).map Qr)) k ((pre.length+1:Nat):Int)=some (.inr ())∧dd p r=r)
 | [],p,pre,k,hl,hk=>by
  obtain ⟨k,rfl⟩:∃ j,k=j+1:=⟨k - 1,by omega⟩
  refine .inr ⟨Vq ?_,rfl⟩
  unfold Q4
  rw [if_neg (by simp)]
 | x::r,p,pre,k,hl,hk=>by
  obtain ⟨k,rfl⟩:∃ j,k=j+1:=⟨k - 1,by omega⟩
  have hl' : pre.length+2+r.length≤64:=by simp at hl;omega
  have hM:((pre++p::x::r).map Qr).length=pre.length+2+r.length:=by simp;omega
  have n1:nth ((pre++p::x::r).map Qr) (pre.length+1)=some (Qr x):=VN (by rw [List.getElem?_append_right (by omega)];simp)
  have n2:nth ((pre++p::x::r).map Qr) pre.length=some (Qr p):=VN (by rw [List.getElem?_append_right (by omega)];simp)
  have e2:(((pre.length+1:Nat):Int) - 1)=(pre.length:Int):=by omega
  by_cases he:x=p
  ·refine .inl (Vq ?_)
   -- the first equal one: those behind it go to the left
   have hth:=qJ (n:=n) ((pre++p::x::r).map Qr) (pre.length+1) (by omega) r x (pre++[p]) [] n (by simp) (by simp) (by omega)
   obtain ⟨J',j1,j2,j3⟩:=hth
   have ed:dd p (x::r)=dd x r:=by simp [dd,he]
   rw [ed]
   have e4:pre++[p]++[]++x::r=pre++p::x::r:=by simp
   have e5:(((pre++[p]).length+([]:List Pt).length+1 - (pre.length+1):Nat):Int)=1:=by simp
   rw [e4,e5] at j3
   have e6:((pre++[p]).length:Int)=((pre.length+1:Nat):Int):=by simp
   rw [e6] at j3
   have e7:pre++[p]++dd x r=pre++p::dd x r:=by simp
   rw [e7] at j2 j3
   generalize hM0:(pre++p::x::r).map Qr=M at *
   generalize hN:pre++p::dd x r=N at *
   have hJ:0 < J'.length:=List.length_pos_iff.2 j1
   have hNl:((N++J').map Qr).length=N.length+J'.length:=by simp
   unfold Q4
   rw [if_pos (by omega),if_pos (by omega),Int.toNat_natCast,n1,Option.bind_some,unP,Option.bind_some,if_pos (by unfold Qa;omega),e2,if_pos (by omega),Int.toNat_natCast,n2,Option.bind_some,unP,Option.bind_some,
    if_pos ((eqP x p).2 he),j3,Option.bind_some]
   dsimp only
   rw [Int.toNat_natCast,if_pos (by omega),if_pos (by omega)]
   have hA:((N++J').map Qr).take N.length=N.map Qr:=by rw [← List.map_take];simp
   have hT:(((N++J').map Qr).take N.length++(List.replicate (((N++J').map Qr).length - N.length) (D.agg [I 0,I 0])++((N++J').map Qr).drop (N.length+(((N++J').map Qr).length - N.length)))).take N.length=N.map Qr:=by
    rw [hA,List.take_append_of_le_length (by simp),List.take_of_length_le (by simp)]
   rw [if_pos ?_,hT]
   rw [hA]
   refine ⟨by omega,?_⟩
   simp only [List.length_append,List.length_map];omega
  ·have hstep:Q4 n ((pre++p::x::r).map Qr) ((pre.length+1:Nat):Int)=some (.inl (((pre++[p]).length+1:Nat):Int)):=by
    generalize (pre++p::x::r).map Qr=M at *
    unfold Q4
    rw [if_pos (by omega),if_pos (by omega),Int.toNat_natCast,n1,Option.bind_some,unP,Option.bind_some,if_pos (by unfold Qa;omega),e2,if_pos (by omega),Int.toNat_natCast,n2,Option.bind_some,unP,Option.bind_some,
     if_neg (fun h=>he ((eqP x p).1 h)),if_pos (by unfold Qa;omega),show (((pre++[p]).length+1:Nat):Int)=((pre.length+1:Nat):Int)+1 by simp]
   rw [UR hstep]
   have e4:pre++p::x::r=pre++[p]++x::r:=by simp
   have ed:dd p (x::r)=x::dd x r:=by simp [dd,he]
   have ih:=kQ hn r x (pre++[p]) k (by simp at hl ⊢;omega) (by simp at hk;omega)
   rw [e4,ed]
   rcases ih with h | ⟨h,h2⟩
   ·refine .inl ?_
    rw [h,show pre++p::x::dd x r=pre++[p]++x::dd x r by simp]
   ·exact .inr ⟨h,by rw [h2]⟩
theorem QcG {n:Nat} (X:List D) (sa:Int×List D) {x:Pt} (hx:Q6 x) (b a:Pt) (r:List Pt) (hb:Q6 b) (ha:Q6 a) (hl:r.length≤64) :
  ZP n X sa x (((b::a::r).length:Int),(b::a::r).reverse.map Qr)=if lft a b x≤0 then some (.inl (((a::r).length:Int),(a::r).reverse.map Qr)) else some (.inr ((b::a::r).reverse.map Qr)):=by
 have n1:nth ((b::a::r).reverse.map Qr) r.length=some (Qr a):=VN (by
  rw [show (b::a::r).reverse=r.reverse++[a,b] by simp,List.getElem?_append_right (by simp)];simp)
 have n2:nth ((b::a::r).reverse.map Qr) (r.length+1)=some (Qr b):=VN (by
  rw [show (b::a::r).reverse=r.reverse++[a,b] by simp,List.getElem?_append_right (by simp)];simp)
 have e1:((b::a::r).length:Int) - 2=(r.length:Int):=by simp only [List.length_cons];omega
 have e2:((b::a::r).length:Int) - 1=((r.length+1:Nat):Int):=by simp only [List.length_cons];omega
 have ht:((b::a::r).reverse.map Qr).take (r.length+1)=(a::r).reverse.map Qr:=by
  rw [← List.map_take]
  congr 1
  rw [show (b::a::r).reverse=(a::r).reverse++[b] by simp,List.take_append_of_le_length (by simp)]
  exact List.take_of_length_le (by simp)
 have hM:((b::a::r).reverse.map Qr).length=r.length+2:=by simp
 have e3:(((a::r).reverse.map Qr).length:Int)=((a::r).length:Int):=by simp
 generalize (b::a::r).reverse.map Qr=M at *
 unfold ZP
 dsimp only
 rw [if_pos (by simp only [List.length_cons];omega),if_pos (by unfold Qa;simp only [List.length_cons];omega),e1,if_pos (by omega),Int.toNat_natCast,n1,Option.bind_some,unP,Option.bind_some,if_pos (by unfold Qa;simp only [List.length_cons];omega),e2,if_pos (by omega),Int.toNat_natCast,n2,Option.bind_some,unP,Option.bind_some,
  jX n ha hb hx,Option.bind_some]
 show (if lft a b x≤0 then _ else _)=_
 by_cases h:lft a b x≤0
 ·rw [if_pos h,if_pos h,if_pos (by omega),ht,e3]
 ·rw [if_neg h,if_neg h]
theorem Qal {n:Nat} (X:List D) (sa:Int×List D) (x:Pt) (s:List Pt) (hs:s.length≤1):ZP n X sa x ((s.length:Int),s.reverse.map Qr)=some (.inr (s.reverse.map Qr)):=by
 unfold ZP
 dsimp only
 rw [if_neg (by omega)]
theorem Qaj {n:Nat} (X:List D) (sa:Int×List D) {x:Pt} (hx:Q6 x):∀ (s:List Pt) (k:Nat),(∀ p,p∈s→Q6 p)→s.length≤64→s.length < k →
  QE (ZP n X sa x) k ((s.length:Int),s.reverse.map Qr)=some ((pop x s).reverse.map Qr)
 | [],k,_,_,hk=>by
  obtain ⟨k,rfl⟩:∃ j,k=j+1:=⟨k - 1,by omega⟩
  exact Vq (Qal X sa x [] (by simp))
 | [a],k,_,_,hk=>by
  obtain ⟨k,rfl⟩:∃ j,k=j+1:=⟨k - 1,by omega⟩
  exact Vq (Qal X sa x [a] (by simp))
 | b::a::r,k,hs,hl,hk=>by
  obtain ⟨k,rfl⟩:∃ j,k=j+1:=⟨k - 1,by omega⟩
  have h1:=QcG (n:=n) X sa hx b a r (hs b (by simp)) (hs a (by simp)) (by simp at hl;omega)
  by_cases h:lft a b x≤0
  ·rw [if_pos h] at h1
   rw [UR h1,show pop x (b::a::r)=pop x (a::r) by simp [pop,h]]
   exact Qaj X sa hx (a::r) k (fun p hp=>hs p (List.mem_cons_of_mem _ hp)) (by simp at hl ⊢;omega) (by simp at hk ⊢;omega)
  ·rw [if_neg h] at h1
   rw [Vq h1,show pop x (b::a::r)=b::a::r by simp [pop,h]]
theorem Qai (x:Pt):∀ (s:List Pt) (p:Pt),p∈pop x s→p∈s
 | [],p,h=>by simp [pop] at h
 | [a],p,h=>by simpa [pop] using h
 | b::a::r,p,h=>by
  unfold pop at h
  split at h
  ·exact List.mem_cons_of_mem _ (Qai x (a::r) p h)
  ·exact h
theorem qz (x:Pt):∀ (s:List Pt),(pop x s).length≤s.length
 | []=>by simp [pop]
 | [a]=>by simp [pop]
 | b::a::r=>by
  unfold pop
  split
  ·have:=qz x (a::r);simp at this ⊢;omega
  ·simp
theorem wD {α S E:Type} (f:S→α→S) (ex:S→E):∀ (l:List α) (s:S),KL (fun s x=>(.inl (f s x):S⊕E)) ex l s=ex (l.foldl f s)
 | [],s=>rfl
 | x::l,s=>by simp only [KL,List.foldl_cons];exact wD f ex l (f s x)
theorem yy {n:Nat} (hn:100≤n) (l:List Pt) (hs:∀ p,p∈l→Q6 p) (hl:l.length≤20):QE (Zc n (l.map Qr)) n (0,[])=some ((Zg l).reverse.map Qr):=by
 have:=Zp (step:=Zc n (l.map Qr)) (fun (s:List Pt) (x:Pt)=>(.inl (Vk s x):List Pt⊕List D)) (fun s=>s.reverse.map Qr) (fun i s=>((i:Int),s.reverse.map Qr)) l
  (fun i s=>s.length≤i∧∀ p,p∈s→Q6 p)
  (fun i s x hx hi=>by
   have hlt:=(List.getElem?_eq_some_iff.1 hx).1
   have hxs:=hs x (List.mem_of_getElem? hx)
   dsimp only
   refine ⟨?_,?_,fun p hp=>?_⟩
   ·have hr:=Qaj (n:=n) (l.map Qr) ((i:Int),s.reverse.map Qr) hxs s n hi.2 (by omega) (by omega)
    have hpl:=qz x s
    unfold Zc
    dsimp only
    rw [if_pos (by simp;omega),if_pos (by simp;omega),Int.toNat_natCast,VN hx,Option.bind_some,unP,Option.bind_some,
     show (((s.reverse.map Qr).length:Nat):Int)=(s.length:Int) by simp,hr,Option.bind_some,if_pos (by unfold Q1;simp;omega),if_pos (by unfold Qa;omega)]
    unfold Vk
    simp [Qr]
   ·unfold Vk
    have:=qz x s
    simp;omega
   ·unfold Vk at hp
    rcases List.mem_cons.1 hp with rfl | hp
    ·exact hxs
    ·exact hi.2 p (Qai x s p hp))
  (fun s _=>by unfold Zc;dsimp only;rw [if_neg (by simp)]) (s:=[]) (k:=n) ⟨by simp,fun p hp=>by cases hp⟩ (by omega)
 rw [show ((0:Int),([]:List D))=(((0:Nat):Int),([]:List Pt).reverse.map Qr) from rfl,this,wD];rfl
theorem QcD {n:Nat} (X:List D):∀ (m:Nat) (A M B:List Pt) (k:Nat),M.length=m→(A++M++B).length≤64→m < k →
  QE (Zb n X) k ((A.length:Int),(A.length:Int)+(M.length:Int) - 1,(A++M++B).map Qr)=some ((A++M.reverse++B).map Qr):=by
 intro m
 induction m using Nat.strongRecOn with
 | _ m ih =>
  intro A M B k hm hl hk
  obtain ⟨k,rfl⟩:∃ j,k=j+1:=⟨k - 1,by omega⟩
  rcases Nat.lt_or_ge 1 M.length with h1 | h1
  ·obtain ⟨x,M1,rfl⟩:∃ x M1,M=x::M1:=by cases M with | nil=>simp at h1 | cons x M1=>exact ⟨x,M1,rfl⟩
   have hne:M1≠[]:=by intro e;rw [e] at h1;simp at h1
   obtain ⟨M2,y,rfl⟩:∃ M2 y,M1=M2++[y]:=⟨M1.dropLast,M1.getLast hne,(List.dropLast_concat_getLast hne).symm⟩
   have hl2:A.length+M2.length+2+B.length≤64:=by simp at hl;omega
   have e0:A++x::(M2++[y])++B=A++x::(M2++y::B):=by simp
   have hML:(x::(M2++[y])).length=M2.length+2:=by simp
   have e1:(A.length:Int)+((x::(M2++[y])).length:Int) - 1=((A.length+1+M2.length:Nat):Int):=by rw [hML];omega
   have n1:nth ((A++x::(M2++y::B)).map Qr) A.length=some (Qr x):=VN (by rw [List.getElem?_append_right (by omega)];simp)
   have n2:nth ((A++x::(M2++y::B)).map Qr) (A.length+1+M2.length)=some (Qr y):=VN (by
    rw [show A++x::(M2++y::B)=(A++x::M2)++y::B by simp,List.getElem?_append_right (by simp;omega)]
    have:A.length+1+M2.length - (A++x::M2).length=0:=by simp;omega
    rw [this];rfl)
   have hlen:((A++x::(M2++y::B)).map Qr).length=A.length+M2.length+2+B.length:=by simp;omega
   have hset:List.set (List.set ((A++x::(M2++y::B)).map Qr) A.length (Qr y)) (A.length+1+M2.length) (Qr x)=(A++[y]++M2++(x::B)).map Qr:=by
    rw [← List.map_set,← List.map_set]
    congr 1
    rw [jE,show A++y::(M2++y::B)=(A++y::M2)++y::B by simp,show A.length+1+M2.length=(A++y::M2).length by simp;omega,jE]
    simp
   have hstep:Zb n X ((A.length:Int),((A.length+1+M2.length:Nat):Int),(A++x::(M2++y::B)).map Qr)=some (.inl (((A++[y]).length:Int),((A++[y]).length:Int)+(M2.length:Int) - 1,(A++[y]++M2++(x::B)).map Qr)):=by
    rw [← hset]
    generalize (A++x::(M2++y::B)).map Qr=L at *
    unfold Zb
    dsimp only
    simp only [Int.toNat_natCast]
    rw [if_pos (by omega),if_pos (by omega),n2,Option.bind_some,unP,Option.bind_some,if_pos (by omega),n1,Option.bind_some,unP,Option.bind_some,if_pos (by omega),if_pos (by rw [List.length_set];omega),if_pos (by rw [List.length_set];omega),
     if_pos (by unfold Qa;omega),if_pos (by unfold Qa;omega)]
    have h1:((A.length:Int)+1)=((A++[y]).length:Int):=by simp
    have h2:(((A.length+1+M2.length:Nat):Int) - 1)=((A++[y]).length:Int)+(M2.length:Int) - 1:=by simp
    rw [h1,h2];rfl
   rw [e0,e1,UR hstep,ih M2.length (by rw [← hm,hML];omega) (A++[y]) M2 (x::B) k rfl (by simp;omega) (by rw [hML] at hm;omega)]
   simp
  ·have hr:M.reverse=M:=by
    cases M with
    | nil=>rfl
    | cons x M=>cases M with
     | nil=>rfl
     | cons y M=>simp at h1
   rw [hr]
   refine Vq ?_
   unfold Zb
   dsimp only
   rw [if_neg (by omega)]
theorem ua {n:Nat} (hn:100≤n) (X:List D) (l:List Pt) (hl:l.length≤20):QE (Zb n X) n (0,((l.map Qr).length:Int) - 1,l.map Qr)=some (l.reverse.map Qr):=by
 have:=QcD (n:=n) X l.length [] l [] n rfl (by simp;omega) (by omega)
 simp only [List.nil_append,List.append_nil,List.length_nil] at this
 rw [List.length_map]
 have e:((0:Nat):Int)+(l.length:Int) - 1=(l.length:Int) - 1:=by omega
 rw [e] at this
 exact this
def Ju (h:List Pt):List D×Int:=if h.length < 3 then ([],17) else if h.length > 16 then ([],5) else (h.map Qr,0)
def kK (n:Nat) (X:List D):Option (List D×Int) :=
        (QE (Zc n X) n (0,[])).bind fun t13 =>
        if Qa (((X).length:Int) - 1) then
        (QE (Zb n t13) n (0,(((X).length:Int) - 1),X)).bind fun t15 =>
        (QE (Ws n t13 t15) n (0,[])).bind fun t16 =>
        if Qa (((t13).length:Int) - 1) then
        if (0:Int)≤0∧0≤(((t13).length:Int) - 1)∧(((t13).length:Int) - 1)≤((t13).length:Int)∧(t13=[] ∨ 2=2) then
        if Qa (((t16).length:Int) - 1) then
        if (0:Int)≤0∧0≤(((t16).length:Int) - 1)∧(((t16).length:Int) - 1)≤((t16).length:Int)∧(t16=[] ∨ 2=2) then
        if Qa (0+((((t13.take (Int.toNat (((t13).length:Int) - 1))).drop (Int.toNat 0)):List D).length:Int)) then
        if (0+((((t13.take (Int.toNat (((t13).length:Int) - 1))).drop (Int.toNat 0)):List D).length:Int)) < 0 then
          none
        else
        if Qa ((0+((((t13.take (Int.toNat (((t13).length:Int) - 1))).drop (Int.toNat 0)):List D).length:Int))+((((t16.take (Int.toNat (((t16).length:Int) - 1))).drop (Int.toNat 0)):List D).length:Int)) then
        if ((0+((((t13.take (Int.toNat (((t13).length:Int) - 1))).drop (Int.toNat 0)):List D).length:Int))+((((t16.take (Int.toNat (((t16).length:Int) - 1))).drop (Int.toNat 0)):List D).length:Int)) < 0 then
          none
        else
        if Qa (((0+((((t13.take (Int.toNat (((t13).length:Int) - 1))).drop (Int.toNat 0)):List D).length:Int))+((((t16.take (Int.toNat (((t16).length:Int) - 1))).drop (Int.toNat 0)):List D).length:Int)) - 0) then
        if (((0+((((t13.take (Int.toNat (((t13).length:Int) - 1))).drop (Int.toNat 0)):List D).length:Int))+((((t16.take (Int.toNat (((t16).length:Int) - 1))).drop (Int.toNat 0)):List D).length:Int)) - 0) > 0 then
          if 0 < (((0+((((t13.take (Int.toNat (((t13).length:Int) - 1))).drop (Int.toNat 0)):List D).length:Int))+((((t16.take (Int.toNat (((t16).length:Int) - 1))).drop (Int.toNat 0)):List D).length:Int)) - 0)∧Q1 16 (Int.toNat (((0+((((t13.take (Int.toNat (((t13).length:Int) - 1))).drop (Int.toNat 0)):List D).length:Int))+((((t16.take (Int.toNat (((t16).length:Int) - 1))).drop (Int.toNat 0)):List D).length:Int)) - 0)) then
          if (0:Int)≤0∧0≤(((List.replicate (Int.toNat (((0+((((t13.take (Int.toNat (((t13).length:Int) - 1))).drop (Int.toNat 0)):List D).length:Int))+((((t16.take (Int.toNat (((t16).length:Int) - 1))).drop (Int.toNat 0)):List D).length:Int)) - 0)) (.agg [I 0,I 0]:D)):List D).length:Int) then
          if Q1 16 (0+(((t13.take (Int.toNat (((t13).length:Int) - 1))).drop (Int.toNat 0)):List D).length) then
          if Q1 16 ((((t13.take (Int.toNat (((t13).length:Int) - 1))).drop (Int.toNat 0)):List D).length+(((t16.take (Int.toNat (((t16).length:Int) - 1))).drop (Int.toNat 0)):List D).length) then
          (Qs n (decide ((((((t13.take (Int.toNat (((t13).length:Int) - 1))).drop (Int.toNat 0))++(((t16.take (Int.toNat (((t16).length:Int) - 1))).drop (Int.toNat 0)):List D)):List D).length:Int) < 3)) 17).bind fun t31 =>
          (Qs n (decide ((((((t13.take (Int.toNat (((t13).length:Int) - 1))).drop (Int.toNat 0))++(((t16.take (Int.toNat (((t16).length:Int) - 1))).drop (Int.toNat 0)):List D)):List D).length:Int) > 16)) 5).bind fun t32 =>
          (Qv n ([I t31,I t32])).bind fun t33 =>
          if t33=0 then
            some ((((t13.take (Int.toNat (((t13).length:Int) - 1))).drop (Int.toNat 0))++(((t16.take (Int.toNat (((t16).length:Int) - 1))).drop (Int.toNat 0)):List D)),0)
          else
          some ([],t33)
          else none
          else none
          else none
          else none
        else
        if Q1 16 (0+(((t13.take (Int.toNat (((t13).length:Int) - 1))).drop (Int.toNat 0)):List D).length) then
        if Qu ((t13.take (Int.toNat (((t13).length:Int) - 1))).drop (Int.toNat 0))=true then
          if Q1 16 (0+(((t16.take (Int.toNat (((t16).length:Int) - 1))).drop (Int.toNat 0)):List D).length) then
          if Qu ((t16.take (Int.toNat (((t16).length:Int) - 1))).drop (Int.toNat 0))=true then
            (Wo n).bind fun t31 =>
            (Wn n).bind fun t32 =>
            (Qv n ([I t31,I t32])).bind fun t33 =>
            if t33=0 then
              some ([],0)
            else
            some ([],t33)
          else
          (Qs n (decide (((((t16.take (Int.toNat (((t16).length:Int) - 1))).drop (Int.toNat 0)):List D).length:Int) < 3)) 17).bind fun t31 =>
          (Qs n (decide (((((t16.take (Int.toNat (((t16).length:Int) - 1))).drop (Int.toNat 0)):List D).length:Int) > 16)) 5).bind fun t32 =>
          (Qv n ([I t31,I t32])).bind fun t33 =>
          if t33=0 then
            some (((t16.take (Int.toNat (((t16).length:Int) - 1))).drop (Int.toNat 0)),0)
          else
          some ([],t33)
          else none
        else
        if Q1 16 ((((t13.take (Int.toNat (((t13).length:Int) - 1))).drop (Int.toNat 0)):List D).length+(((t16.take (Int.toNat (((t16).length:Int) - 1))).drop (Int.toNat 0)):List D).length) then
        (Qs n (decide ((((((t13.take (Int.toNat (((t13).length:Int) - 1))).drop (Int.toNat 0))++(((t16.take (Int.toNat (((t16).length:Int) - 1))).drop (Int.toNat 0)):List D)):List D).length:Int) < 3)) 17).bind fun t30 =>
        (Qs n (decide ((((((t13.take (Int.toNat (((t13).length:Int) - 1))).drop (Int.toNat 0))++(((t16.take (Int.toNat (((t16).length:Int) - 1))).drop (Int.toNat 0)):List D)):List D).length:Int) > 16)) 5).bind fun t31 =>
        (Qv n ([I t30,I t31])).bind fun t32 =>
        if t32=0 then
          some ((((t13.take (Int.toNat (((t13).length:Int) - 1))).drop (Int.toNat 0))++(((t16.take (Int.toNat (((t16).length:Int) - 1))).drop (Int.toNat 0)):List D)),0)
        else
        some ([],t32)
        else none
        else none
        else none
        else none
        else none
        else none
        else none
        else none
        else none
        else none
theorem zn (n:Nat) (a0:List D):WN n a0=(
 (Qs n (((a0).length:Int) == 0) 12).bind fun t1 =>
 (Qs n (decide (((a0).length:Int) > 64)) 5).bind fun t2 =>
 (Qv n ([I t1,I t2])).bind fun t3 =>
 if t3=0 then
  (ZV n a0).bind fun t5 =>
  (Qv n t5).bind fun t6 =>
  if t6=0 then
   if Qu a0=true then
    none
   else
   if Q1 16 (0+(a0).length) then
   if Qu a0=false then
   (ZJ n a0).bind fun t11 =>
   if ((t11).length:Int) < 2 then kK n t11 else
   (QE (Q4 n t11) n 1).bind fun t13=>match t13 with
    | (.inl t13)=>kK n t13
    | (.inr _)=>kK n t11
   else none
   else none
  else some ([],t6)
 else some ([],t3)):=by
 unfold WN
 rfl
theorem yz (l:List Pt) (h:l≠[]):((l.map Qr).take (Int.toNat (((l.map Qr).length:Int) - 1))).drop (Int.toNat 0)=(l.take (l.length - 1)).map Qr:=by
 have h0:=List.length_pos_iff.2 h
 rw [show Int.toNat (((l.map Qr).length:Int) - 1)=l.length - 1 by rw [List.length_map];omega]
 simp
theorem Qdb (n:Nat) (L X:List D):Ws n L X=Zc n X:=rfl
theorem QcJ (s:List Pt):(VG s).length≤s.length∧(YA s).length≤s.length:=by
 have key:∀ (l s:List Pt),(l.foldl Vk s).length≤s.length+l.length:=by
  intro l
  induction l with
  | nil=>intro s;simp
  | cons x l ih =>
   intro s
   have h1:=ih (Vk s x)
   have h2:=qz x s
   simp only [List.foldl_cons,List.length_cons]
   unfold Vk at h1 ⊢
   simp only [List.length_cons] at h1
   omega
 have h1:=key s []
 have h2:=key s.reverse []
 unfold VG YA Zg
 simp only [List.length_nil,List.length_reverse] at *
 omega
theorem Qcy {n:Nat} (hn:100≤n) {s:List Pt} (hso:s.Pairwise lx) (hne:s≠[]) (hs:∀ p,p∈s→Q6 p) (hl:s.length≤20) :
  kK n (s.map Qr)=some (Ju (ZF s)):=by
 obtain ⟨_,c1,c2⟩:=Go.Geo.two_of hso hne
 have hlo:VG s≠[]:=by unfold VG;simpa using c1
 have hup:YA s≠[]:=by unfold YA;simpa using c2
 have hle:=QcJ s
 have h16:(ZF s).length≤20:=by
  rcases Nat.lt_or_ge (ZF s).length 3 with h | h
  ·omega
  ·have:=Go.Geo.hull_len hso hne h;omega
 have hA:=yz (VG s) hlo
 have hB:=yz (YA s) hup
 have hAB:ZF s=(VG s).take ((VG s).length - 1)++(YA s).take ((YA s).length - 1):=rfl
 have l1:=List.length_pos_iff.2 hlo
 have l2:=List.length_pos_iff.2 hup
 have hrun1:QE (Zc n (s.map Qr)) n (0,[])=some ((VG s).map Qr):=yy hn s hs hl
 have hrun2:QE (Zb n ((VG s).map Qr)) n (0,((s.map Qr).length:Int) - 1,s.map Qr)=some (s.reverse.map Qr):=ua hn _ s hl
 have hrun3:QE (Ws n ((VG s).map Qr) (s.reverse.map Qr)) n (0,[])=some ((YA s).map Qr):=by
  rw [Qdb];exact yy hn s.reverse (fun p hp=>hs p (by simpa using hp)) (by simpa using hl)
 unfold kK
 rw [hrun1,Option.bind_some,if_pos (by unfold Qa;simp;omega),hrun2,Option.bind_some,hrun3,Option.bind_some]
 have i1:Qa ((((VG s).map Qr).length:Int) - 1):=by unfold Qa;simp;omega
 have i2:Qa ((((YA s).map Qr).length:Int) - 1):=by unfold Qa;simp;omega
 have i3:(0:Int)≤0∧0≤(((((VG s).map Qr)).length:Int) - 1)∧(((((VG s).map Qr)).length:Int) - 1)≤((((VG s).map Qr)).length:Int)∧(((VG s).map Qr)=[] ∨ 2=2):=by
  refine ⟨by omega,?_,by omega,.inr rfl⟩;simp;omega
 have i4:(0:Int)≤0∧0≤(((((YA s).map Qr)).length:Int) - 1)∧(((((YA s).map Qr)).length:Int) - 1)≤((((YA s).map Qr)).length:Int)∧(((YA s).map Qr)=[] ∨ 2=2):=by
  refine ⟨by omega,?_,by omega,.inr rfl⟩;simp;omega
 rw [if_pos i1,if_pos i3,if_pos i2,if_pos i4,hA,hB]
 have hla:((VG s).take ((VG s).length - 1)).length=(VG s).length - 1:=by rw [List.length_take];omega
 have hlb:((YA s).take ((YA s).length - 1)).length=(YA s).length - 1:=by rw [List.length_take];omega
 have hll:(ZF s).length=((VG s).length - 1)+((YA s).length - 1):=by rw [hAB,List.length_append,hla,hlb]
 rw [hAB]
 rw [hAB] at h16
 generalize (VG s).take ((VG s).length - 1)=A at *
 generalize (YA s).take ((YA s).length - 1)=B at *
 have lA:((A.map Qr:List D).length:Int)=A.length:=by simp
 have lB:((B.map Qr:List D).length:Int)=B.length:=by simp
 have lAn:(A.map Qr:List D).length=A.length:=by simp
 have lBn:(B.map Qr:List D).length=B.length:=by simp
 have l16:A.length+B.length≤20:=by simpa using h16
 have hj:(A.map Qr++B.map Qr:List D)=(A++B).map Qr:=by simp
 have hjl:(((A++B).map Qr:List D).length:Int)=((A.length+B.length:Nat):Int):=by simp
 have hg:((A++B).length:Nat)=A.length+B.length:=by simp
 have hfin:(if Qx [Q0 (decide (((A.length+B.length:Nat):Int) < 3)) 17,Q0 (decide (((A.length+B.length:Nat):Int) > 16)) 5]=0 then some ((A++B).map Qr,0) else some ([],Qx [Q0 (decide (((A.length+B.length:Nat):Int) < 3)) 17,Q0 (decide (((A.length+B.length:Nat):Int) > 16)) 5]))=some (Ju (A++B)):=by
  unfold Ju
  rw [hg]
  by_cases h3:A.length+B.length < 3
  ·have d1:decide (((A.length+B.length:Nat):Int) < 3)=true:=decide_eq_true (by omega)
   have d2:decide (((A.length+B.length:Nat):Int) > 16)=false:=decide_eq_false (by omega)
   rw [d1,d2,show Qx [Q0 true 17,Q0 false 5]=17 from rfl,if_neg (by omega),if_pos h3]
  ·have d1:decide (((A.length+B.length:Nat):Int) < 3)=false:=decide_eq_false (by omega)
   by_cases h4:A.length+B.length > 16
   ·have d2:decide (((A.length+B.length:Nat):Int) > 16)=true:=decide_eq_true (by omega)
    rw [d1,d2,show Qx [Q0 false 17,Q0 true 5]=5 from rfl,if_neg (by omega),if_neg h3,if_pos h4]
   ·have d2:decide (((A.length+B.length:Nat):Int) > 16)=false:=decide_eq_false (by omega)
    rw [d1,d2,show Qx [Q0 false 17,Q0 false 5]=0 from rfl,if_pos rfl,if_neg h3,if_neg h4]
 rw [lA,lB,lAn,lBn,if_pos (by unfold Qa;omega),if_neg (by omega),if_pos (by unfold Qa;omega),if_neg (by omega),if_pos (by unfold Qa;omega)]
 by_cases hpos:((0:Int)+(A.length:Int)+(B.length:Int)) - 0 > 0
 ·rw [if_pos hpos,if_pos ⟨by omega,by unfold Q1;omega⟩,if_pos ⟨by omega,by omega⟩,if_pos (by unfold Q1;omega),if_pos (by unfold Q1;omega),hj,hjl,UI,Option.bind_some,UI,Option.bind_some,JQ (by omega),Option.bind_some]
  exact hfin
 ·have hA0:A=[]:=List.length_eq_zero_iff.1 (by omega)
  have hB0:B=[]:=List.length_eq_zero_iff.1 (by omega)
  subst hA0;subst hB0
  have hnil:Qu (List.map Qr [])=true:=rfl
  rw [if_neg hpos,if_pos (by unfold Q1;simp),if_pos hnil,if_pos (by unfold Q1;simp),if_pos hnil]
  unfold Wo Wn
  rw [Option.bind_some,Option.bind_some,JQ (by omega),Option.bind_some]
  rfl
def Z9 (l:List Pt):List Pt:=ZF (Jk (srt l))
theorem QaV {p:Pt} (h:Q6 p):ptE p=0:=by
 unfold Q6 at h
 have e:∀ x:Int,-16777216≤x∧x≤16777216→inR x (-16777216) 16777216=0:=fun x hx=>by
  unfold inR
  rw [if_neg (by omega),if_neg (by omega)]
 unfold ptE
 rw [e _ h.1,e _ h.2];rfl
theorem EE:∀ {l:List Int},(∀ x,x∈l→x=0)→Qx l=0
 | [],_=>rfl
 | x::l,h=>by
  unfold Qx
  rw [if_pos (h x (by simp))]
  exact EE fun y hy=>h y (List.mem_cons_of_mem _ hy)
theorem QcM {n:Nat} (hn:100≤n) {l:List Pt} (hne:l≠[]) (hl:l.length≤20) (hs:∀ p,p∈l→Q6 p) :
  WN n (l.map Qr)=some (Ju (Z9 l)):=by
 obtain ⟨s1,s2,s3⟩:=srt_ok l
 obtain ⟨k1,k2,k3,k4⟩:=cmpt_ok l
 have h0:=List.length_pos_iff.2 hne
 have hlen:((l.map Qr).length:Int)=l.length:=by simp
 have hE:Qx (l.map ptE)=0:=EE fun x hx=>by
  obtain ⟨p,hp,rfl⟩:=List.mem_map.1 hx
  exact QaV (hs p hp)
 have hnil:Qu (l.map Qr)=false:=by cases l with
  | nil=>exact absurd rfl hne
  | cons a r=>rfl
 have hT:=Qcy hn k1 (k4 hne) (fun p hp=>hs p ((k2 p).1 hp)) (by omega)
 rw [zn,hlen,UI,Option.bind_some,UI,Option.bind_some,JQ (by omega),Option.bind_some]
 have hw1:Q0 ((l.length:Int) == 0) 12=0:=by
  unfold Q0
  rw [if_neg]
  simp;omega
 have hw2:Q0 (decide ((l.length:Int) > 64)) 5=0:=by
  unfold Q0
  rw [if_neg]
  simp;omega
 rw [hw1,hw2,if_pos (show Qx [0,0]=0 from rfl),XE hn l (by omega),Option.bind_some,Xa _ (by simp;omega) (by simp;omega),Option.bind_some,if_pos hE,if_neg ?_,if_pos (by unfold Q1;simp;omega),if_pos hnil,Qcz n l hl,Option.bind_some]
 ·have hsl:(srt l).length=l.length:=s3
  by_cases h2:(((srt l).map Qr).length:Int) < 2
  ·rw [if_pos h2]
   have hc:Jk (srt l)=srt l:=by
    rw [List.length_map] at h2
    cases hq:srt l with
    | nil=>rfl
    | cons a r =>
     rw [hq] at h2
     have:r=[]:=List.length_eq_zero_iff.1 (by simp at h2;omega)
     subst this;rfl
   rw [hc] at hT
   unfold Z9
   rw [hc];exact hT
  ·rw [if_neg h2]
   unfold Z9
   cases hq:srt l with
   | nil=>rw [hq] at h2;simp at h2
   | cons a r =>
    have hlr:(a::r).length≤20:=by rw [← hq,hsl];exact hl
    rw [hq] at hT
    have hc:Jk (a::r)=a::dd a r:=rfl
    rw [hc] at hT ⊢
    have hsm:=kQ hn r a [] n (by simp at hlr ⊢;omega) (by simp at hlr;omega)
    simp only [List.nil_append,List.length_nil,Nat.zero_add] at hsm
    rcases hsm with h | ⟨h,he⟩
    ·rw [show (1:Int)=((1:Nat):Int) from rfl,h,Option.bind_some];exact hT
    ·rw [show (1:Int)=((1:Nat):Int) from rfl,h,Option.bind_some]
     rw [he] at hT ⊢
     exact hT
 ·cases l with
  | nil=>exact absurd rfl hne
  | cons a r=>simp [Qu]
open Go.Geo (lft lx srt Jk ZF rng Ring Poly mv)
theorem yZ {g:List Pt} {i:Nat} (h:i < g.length):rng g i=at0 g i:=by
 unfold rng
 rw [if_neg (by omega)];rfl
theorem QbM {g:List Pt} {i:Nat} (h:i < g.length):rng g (i+1)=at0 g (nx g.length i):=by
 unfold rng nx
 by_cases e:i+1=g.length
 ·rw [if_pos e,e,Nat.mod_self];rfl
 ·rw [if_neg e,Nat.mod_eq_of_lt (by omega)];rfl
def PolyI (g:List Pt):Prop:=3≤g.length∧∀ i k,i < g.length→k < g.length→k≠i→k≠nx g.length i→0 < lft (at0 g i) (at0 g (nx g.length i)) (at0 g k)
theorem PolyI.of {S} {g:List Pt} (hr:Ring S (rng g) g.length) (h3:3≤g.length):PolyI g:=by
 refine ⟨h3,fun i k hi hk h1 h2=>?_⟩
 have hnx:=Eu (m:=g.length) (i:=i) (by omega)
 have:=(hr.poly h3).2.2 i k hi hk h1 (fun e=>h2 (by
  rw [QbM hi,← yZ hnx] at e
  exact hr.inj k _ hk hnx e))
 rwa [yZ hi,QbM hi,yZ hk] at this
theorem Qcq {g:List Pt} {k:Int} {i:Nat} (h:i < g.length):at0 (g.map (mv k)) i=mv k (at0 g i):=by
 unfold at0
 rw [List.getD_eq_getElem?_getD,List.getD_eq_getElem?_getD,List.getElem?_map,List.getElem?_eq_getElem h];rfl
theorem Qda (k:Int) (p q r:Pt):lft (mv k p) (mv k q) (mv k r)=lft p q r:=by unfold lft mv;grind
theorem PolyI.mv {g:List Pt} (h:PolyI g) (k:Int):PolyI (g.map (mv k)):=by
 obtain ⟨h3,h⟩:=h
 refine ⟨by simpa using h3,fun i j hi hj h1 h2=>?_⟩
 rw [List.length_map] at *
 have hnx:=Eu (m:=g.length) (i:=i) (by omega)
 rw [Qcq hi,Qcq hnx,Qcq hj,Qda]
 exact h i j hi hj h1 h2
theorem uC {l:List Pt} (hne:l≠[]) (hl:l.length≤20) (h3:¬ (Z9 l).length < 3) :
  Ring (fun y=>y∈Jk (srt l)) (rng (Z9 l)) (Z9 l).length∧(∀ x,x∈Z9 l→x∈l)∧(Z9 l).length≤l.length∧PolyI (Z9 l):=by
 obtain ⟨k1,k2,k3,k4⟩:=Go.Geo.cmpt_ok l
 have hr:=Go.Geo.hull_ring k1 (k4 hne) (Nat.le_of_not_lt h3)
 have hlen:=Go.Geo.hull_len k1 (k4 hne) (Nat.le_of_not_lt h3)
 refine ⟨hr,fun x hx=>?_,by unfold Z9;omega,PolyI.of hr (Nat.le_of_not_lt h3)⟩
 obtain ⟨i,hi,e⟩:=Go.Geo.mem_rng hx
 have:=hr.mem i (by unfold Z9 at hi;omega)
 rw [← k2]
 unfold Z9 at e
 rw [e] at this
 exact this
def Sep (a b:List Pt) (i:Nat):Prop:=∀ y,y∈b→lft (at0 a i) (at0 a (nx a.length i)) y≤0
theorem QcB {n:Nat} {a0 a1:List D} {b:List Pt} (hb:a1=b.map Qr) (hbs:∀ p,p∈b→Q6 p) (hbl:b.length≤65) {p q:Pt} (hp:Q6 p) (hq:Q6 q) (hn:100≤n) :
  ∃ e,QE (ZX n a0 a1 (p.1,p.2,q.1,q.2)) n 0=some e∧((∃ k:Nat,e=.inl (k:Int)∧∃ y,y∈b∧0 < lft p q y) ∨ (e=.inr ()∧∀ y,y∈b→lft p q y≤0)):=by
 subst hb
 refine V9 (fun t=>∃ k:Nat,t=(k:Int)∧k≤b.length∧∀ i,i < k→lft p q (at0 b i)≤0) (fun t=>b.length - t.toNat) _ ?_ n 0 ⟨0,rfl,by omega,fun i h=>by omega⟩ (by simp;omega)
 rintro t ⟨k,rfl,hk,hall⟩
 rcases Nat.lt_or_ge k b.length with h | h
 ·have hx:=hbs _ (List.mem_of_getElem? (Yy h))
  have hq2:=jX n hp hq hx
  by_cases h2:lft p q (at0 b k)≤0
  ·refine .inl ⟨((k+1:Nat):Int),?_,⟨k+1,rfl,h,fun i hi=>?_⟩,by simp;omega⟩
   ·unfold ZX
    rw [if_pos (by simp;omega),V2 h,Option.bind_some,hq2,Option.bind_some,if_neg (show ¬ qM _ _ _ > 0 by show ¬ lft _ _ _ > 0;omega),if_pos (by unfold Qa;omega)];rfl
   ·rcases Nat.lt_or_ge i k with h3 | h3
    ·exact hall i h3
    ·have:i=k:=by omega
     rw [this];exact h2
  ·refine .inr ⟨.inl (k:Int),?_,.inl ⟨k,rfl,at0 b k,List.mem_of_getElem? (Yy h),by omega⟩⟩
   unfold ZX
   rw [if_pos (by simp;omega),V2 h,Option.bind_some,hq2,Option.bind_some,if_pos (show qM _ _ _ > 0 by show lft _ _ _ > 0;omega)]
 ·refine .inr ⟨.inr (),?_,.inr ⟨rfl,fun y hy=>?_⟩⟩
  ·unfold ZX
   rw [if_neg (by simp;omega)]
  ·obtain ⟨i,hi,e⟩:=Go.Geo.mem_at0 hy
   rw [← e];exact hall i (by omega)
theorem Qdr (n:Nat) (a0 a1:List D):Vi n a0 a1=ZA n a1 a0:=rfl
open Go.Geo (lft lx srt Jk ZF srt_ok cmpt_ok jb JB UH GL)
theorem Qbl (n:Nat) (p q:Pt):W5 n p.1 p.2 q.1 q.2=some (decide (lx p q)):=by
 unfold W5
 by_cases h:p.1 < q.1
 ·have hl:lx p q:=.inl h
  rw [if_pos h,decide_eq_true hl]
 ·rw [if_neg h]
  by_cases h2:p.1=q.1
  ·rw [if_pos h2]
   by_cases h3:p.2 < q.2
   ·have hl:lx p q:=.inr ⟨h2,h3⟩
    rw [decide_eq_true h3,decide_eq_true hl]
   ·have hl:¬ lx p q:=by unfold lx;omega
    rw [decide_eq_false h3,decide_eq_false hl]
  ·have hl:¬ lx p q:=by unfold lx;omega
   rw [if_neg h2,decide_eq_false hl]
theorem QbG {a:Int} (h : -33554432≤a∧a≤33554432):0≤a * a∧a * a≤1125899906842624:=by
 have h1:=Int.natAbs_mul a a
 have h2:a.natAbs * a.natAbs≤33554432 * 33554432:=Nat.mul_le_mul (by omega) (by omega)
 have h3:=Go.Geo.sq_nn a
 omega
theorem Qcf (n:Nat) {p q:Pt} (hp:Q6 p) (hq:Q6 q):VF n p.1 p.2 q.1 q.2=some (GL p q):=by
 unfold Q6 at hp hq
 have h1:=QbG (a:=p.1 - q.1) (by omega)
 have h2:=QbG (a:=p.2 - q.2) (by omega)
 unfold VF GL
 rw [if_pos (by unfold Qa;omega),if_pos (by unfold Qa;omega),if_pos (by unfold Qa;omega),if_pos (by unfold Qa;omega),if_pos (by unfold Qa;omega)]
def mnS (s x:Pt):Pt:=if lx x s then x else s
theorem QcZ:∀ (l:List Pt) (s:Pt),(l.foldl mnS s=s ∨ l.foldl mnS s∈l)∧(∀ p,p=s ∨ p∈l→p=l.foldl mnS s ∨ lx (l.foldl mnS s) p)
 | [],s=>⟨.inl rfl,fun p hp=>.inl (hp.resolve_right (by simp))⟩
 | x::l,s=>by
  rw [List.foldl_cons]
  obtain ⟨h1,h2⟩:=QcZ l (mnS s x)
  have h3:mnS s x=s ∨ mnS s x=x:=by unfold mnS;split <;> simp
  refine ⟨?_,fun p hp=>?_⟩
  ·rcases h1 with h1 | h1
   ·rcases h3 with h3 | h3
    ·exact .inl (h1.trans h3)
    ·exact .inr (by rw [h1,h3];exact List.mem_cons_self)
   ·exact .inr (List.mem_cons_of_mem _ h1)
  ·have hs:p=s ∨ p=x→p=mnS s x ∨ lx (mnS s x) p:=by
    intro h
    unfold mnS
    by_cases hx:lx x s
    ·rw [if_pos hx]
     rcases h with rfl | rfl
     ·exact .inr hx
     ·exact .inl rfl
    ·rw [if_neg hx]
     rcases h with rfl | rfl
     ·exact .inl rfl
     ·rcases Go.Geo.lx_tri p s with h | h | h
      ·exact .inl h
      ·exact absurd h hx
      ·exact .inr h
   have key:p=mnS s x ∨ p∈l→p=l.foldl mnS (mnS s x) ∨ lx (l.foldl mnS (mnS s x)) p:=h2 p
   rcases hp with hp | hp
   ·rcases hs (.inl hp) with h | h
    ·exact key (.inl h)
    ·rcases h2 _ (.inl rfl) with e | e
     ·rw [← e];exact .inr h
     ·exact .inr (Go.Geo.lx_trans e h)
   ·rcases List.mem_cons.1 hp with hp | hp
    ·rcases hs (.inr hp) with h | h
     ·exact key (.inl h)
     ·rcases h2 _ (.inl rfl) with e | e
      ·rw [← e];exact .inr h
      ·exact .inr (Go.Geo.lx_trans e h)
    ·exact key (.inr hp)
theorem el_P {l:List Pt} {i:Nat} {p:Pt} (h:l[i]?=some p):el QC (l.map Qr) (i:Int)=some (p.1,p.2):=K5 (un:=QC) (enc:=Qr) (fun _=>rfl) h
theorem QbE {n:Nat} (hn:100≤n) (x:Pt) (r:List Pt) (hl:(x::r).length≤64):QE (Z7 n ((x::r).map Qr)) n (1,x.1,x.2)=some ((r.foldl mnS x).1,(r.foldl mnS x).2):=by
 have q:=Zp (step:=Z7 n ((x::r).map Qr)) (E:=Int×Int) (fun (s y:Pt)=>.inl (mnS s y)) (fun s=>(s.1,s.2)) (fun i s=>((i:Int)+1,s.1,s.2)) r (fun _ _=>True)
  (fun i s y hy _=>by
   have hi:=(List.getElem?_eq_some_iff.1 hy).1
   have hy' : (x::r)[i+1]?=some y:=by simpa using hy
   rw [List.length_cons] at hl
   refine ⟨?_,trivial⟩
   unfold Z7
   dsimp only
   have hlt:=Kj (f:=Qr) hy'
   rw [show (((i+1:Nat):Nat):Int)=(i:Int)+1 from rfl] at hlt
   have hel:=el_P hy'
   rw [show (((i+1:Nat):Nat):Int)=(i:Int)+1 from rfl] at hel
   rw [if_pos hlt,hel,Option.bind_some,Qbl,Option.bind_some]
   unfold mnS
   by_cases h:lx y s
   ·rw [decide_eq_true h,if_pos rfl,if_pos (by unfold Qa;omega),if_pos h];rfl
   ·rw [decide_eq_false h,if_neg (by simp),if_pos (by unfold Qa;omega),if_neg h];rfl)
  (fun s _=>by unfold Z7;dsimp only;rw [if_neg (by simp)]) (s:=x) (k:=n) trivial (by rw [List.length_cons] at hl;omega)
 rw [show (1:Int)=((0:Nat):Int)+1 from rfl,q]
 have e:∀ (m:List Pt) (s:Pt),KL (E:=Int×Int) (fun (s y:Pt)=>.inl (mnS s y)) (fun s=>(s.1,s.2)) m s=((m.foldl mnS s).1,(m.foldl mnS s).2):=by
  intro m;induction m with
  | nil=>intro s;rfl
  | cons y m ih=>intro s;exact ih _
 rw [e]
theorem eqPt (a b:Pt):((a.1 == b.1) && ((a.2 == b.2) && true))=true↔a=b:=by
 obtain ⟨a1,a2⟩:=a
 obtain ⟨b1,b2⟩:=b
 simp
theorem QcA {n:Nat} (hn:100≤n) (l:List Pt) (hl:l.length≤64) (hs:∀ p,p∈l→Q6 p) {here:Pt} (hh:Q6 here) (t2:Int×Int) (i:Int) (out:List D) :
  QE (Z6 n (l.map Qr) t2 (i,here.1,here.2,out)) n (0,here.1,here.2)=some ((JB here l).1,(JB here l).2):=by
 have q:=Zp (step:=Z6 n (l.map Qr) t2 (i,here.1,here.2,out)) (E:=Int×Int) (fun (s y:Pt)=>.inl (jb here s y)) (fun s=>(s.1,s.2)) (fun i s=>((i:Int),s.1,s.2)) l (fun _ s=>Q6 s)
  (fun i b y hy hb=>by
   have hi:=(List.getElem?_eq_some_iff.1 hy).1
   have hys:=hs y (List.mem_of_getElem? hy)
   have hin:Qa ((i:Int)+1):=by unfold Qa;omega
   have hside:Wb n here.1 here.2 b.1 b.2 y.1 y.2=some (lft here b y):=Gw n hh hb hys
   refine ⟨?_,by unfold jb;(repeat' split) <;> assumption⟩
   unfold Z6 jb
   dsimp only
   rw [if_pos (Kj hy),el_P hy,Option.bind_some]
   dsimp only
   by_cases h1:y=here
   ·rw [if_pos ((eqPt y here).2 h1),if_pos hin,if_pos h1];rfl
   ·rw [if_neg (fun h=>h1 ((eqPt y here).1 h)),if_neg h1,hside,Option.bind_some]
    by_cases h2:b=here
    ·rw [if_pos ((eqPt b here).2 h2),if_pos hin,if_pos h2];rfl
    ·rw [if_neg (fun h=>h2 ((eqPt b here).1 h)),if_neg h2]
     by_cases h3:lft here b y < 0
     ·rw [if_pos h3,if_pos hin,if_pos h3];rfl
     ·rw [if_neg h3,if_neg h3]
      by_cases h4:lft here b y=0
      ·rw [if_pos h4,if_pos h4,Qcf n hh hys,Option.bind_some,Qcf n hh hb,Option.bind_some]
       by_cases h5:GL here y > GL here b
       ·rw [if_pos h5,if_pos hin,if_pos h5];rfl
       ·rw [if_neg h5,if_pos hin,if_neg h5];rfl
      ·rw [if_neg h4,if_pos hin,if_neg h4];rfl)
  (fun s _=>by unfold Z6;dsimp only;rw [if_neg (by simp)]) (s:=here) (k:=n) hh (by omega)
 have e:∀ (m:List Pt) (s:Pt),KL (E:=Int×Int) (fun (s y:Pt)=>.inl (jb here s y)) (fun s=>(s.1,s.2)) m s=((m.foldl (jb here) s).1,(m.foldl (jb here) s).2):=by
  intro m;induction m with
  | nil=>intro s;rfl
  | cons y m ih=>intro s;exact ih _
 rw [e] at q
 exact q
theorem QbI {here:Pt} {l:List Pt} (h:here∈l):JB here l∈l:=by
 unfold JB
 have:∀ (m:List Pt) (b:Pt),(∀ x,x∈m→x∈l)→b∈l→m.foldl (jb here) b∈l:=by
  intro m
  induction m with
  | nil=>intro b _ hb;exact hb
  | cons x m ih =>
   intro b hm hb
   rw [List.foldl_cons]
   refine ih _ (fun y hy=>hm y (List.mem_cons_of_mem _ hy)) ?_
   rcases Go.Geo.jb_mem (here:=here) (.inr hb) (hm x List.mem_cons_self) with e | e
   ·rw [e];exact h
   ·exact e
 exact this l here (fun x h=>h) h
theorem Qad {n:Nat} (hn:100≤n) (l:List Pt) (hl:l.length≤64) (hs:∀ p,p∈l→Q6 p) (start:Pt) :
  ∀ (m i:Nat) (here:Pt) (out:List Pt) (k:Nat),i+m=l.length→m < k→here∈l→out.length=i →
   QE (Zl n (l.map Qr) (start.1,start.2)) k ((i:Int),here.1,here.2,out.map Qr)=some ((UH l start m here out).map Qr)
 | 0,i,here,out,k,him,hk,hh,ho=>by
  obtain ⟨j,rfl⟩:∃ j,k=j+1:=⟨k - 1,by omega⟩
  refine Vq ?_
  unfold Zl UH
  dsimp only
  rw [if_neg (by rw [List.length_map];omega)]
 | m+1,i,here,out,k,him,hk,hh,ho=>by
  obtain ⟨j,rfl⟩:∃ j,k=j+1:=⟨k - 1,by omega⟩
  have hsc:=QcA hn l hl hs (hs here hh) (start.1,start.2) (i:Int) (out.map Qr)
  have hE:out.map Qr++([.agg [I here.1,I here.2]]:List D)=(out++[here]).map Qr:=by rw [List.map_append];rfl
  by_cases h:JB here l=start
  ·have hst:Zl n (l.map Qr) (start.1,start.2) ((i:Int),here.1,here.2,out.map Qr)=some (.inr ((out++[here]).map Qr)):=by
    unfold Zl
    dsimp only
    rw [if_pos (by rw [List.length_map];omega),if_pos (by unfold Q1;rw [List.length_map];omega),hE]
    refine Eq.trans (congrArg (fun x=>Option.bind x _) hsc) ?_
    rw [Option.bind_some]
    dsimp only
    rw [if_pos ((eqPt (JB here l) start).2 h)]
   rw [Vq hst]
   unfold UH
   rw [if_pos h]
  ·have hst:Zl n (l.map Qr) (start.1,start.2) ((i:Int),here.1,here.2,out.map Qr)=some (.inl (((i+1:Nat):Int),(JB here l).1,(JB here l).2,(out++[here]).map Qr)):=by
    unfold Zl
    dsimp only
    rw [if_pos (by rw [List.length_map];omega),if_pos (by unfold Q1;rw [List.length_map];omega),hE]
    refine Eq.trans (congrArg (fun x=>Option.bind x _) hsc) ?_
    rw [Option.bind_some]
    dsimp only
    rw [if_neg (fun e=>h ((eqPt (JB here l) start).1 e)),if_pos (by unfold Qa;omega)];rfl
   rw [UR hst,Qad hn l hl hs start m (i+1) (JB here l) (out++[here]) j (by omega) (by omega) (QbI hh) (by simp [ho])]
   conv=>rhs;unfold UH
   rw [if_neg h]
theorem QcC (h:List Pt):(List.range h.length).map (fun j=>Go.Geo.rng h (0+j))=h:=by
 apply List.ext_getElem?
 intro i
 rw [List.getElem?_map]
 by_cases hi:i < h.length
 ·rw [List.getElem?_eq_getElem hi,List.getElem?_range hi]
  show some (Go.Geo.rng h (0+i))=_
  unfold Go.Geo.rng Go.Geo.at0
  rw [Nat.zero_add,if_neg (by omega),List.getD_eq_getElem?_getD,List.getElem?_eq_getElem hi];rfl
 ·rw [List.getElem?_eq_none (show (List.range h.length).length≤i by simp;omega),List.getElem?_eq_none (show h.length≤i by omega)];rfl
theorem QaK {l:List Pt} (hne:l≠[]) {a:Pt} (ha:a∈l) (hmn:∀ p,p∈l→p=a ∨ lx a p) :
  (3≤(Z9 l).length→UH l a l.length a []=Z9 l)∧((Z9 l).length < 3→2≤l.length→(UH l a l.length a []).length < 3):=by
 obtain ⟨k1,k2,k3,k4⟩:=cmpt_ok l
 refine ⟨fun h3=>?_,fun h3 h2=>?_⟩
 ·have hr:=Go.Geo.hull_ring k1 (k4 hne) h3
  have hlen:=Go.Geo.hull_len k1 (k4 hne) h3
  have hpe:(Z9 l).length=(ZF (Jk (srt l))).length:=rfl
  have h0:Go.Geo.rng (Z9 l) 0=a:=by
   have m0:Go.Geo.rng (Z9 l) 0∈l:=(k2 _).1 (hr.mem 0 (Nat.zero_le _))
   rcases hmn _ m0 with h | h
   ·exact h
   ·rcases hr.mn a ((k2 a).2 ha) with e | e
    ·exact e.symm
    ·exact (Go.Geo.lx_irr h e).elim
  have w:=Go.Geo.walk_ring hr h3 (l:=l) (fun p=>(k2 p).symm) (ZF (Jk (srt l))).length 0 l.length [] (by omega) (by omega) (by omega)
  have h0' : Go.Geo.rng (ZF (Jk (srt l))) 0=a:=h0
  rw [h0',List.nil_append] at w
  rw [w]
  exact QcC (Z9 l)
 ·have hline:=Go.Geo.hull_line k1 (k4 hne) h3
  exact Go.Geo.walk_line hmn ha (fun p q r hp hq hr=>hline p q r ((k2 p).2 hp) ((k2 q).2 hq) ((k2 r).2 hr)) h2
theorem ud {n:Nat} (hn:100≤n) {l:List Pt} (hne:l≠[]) (hl:l.length≤20) (hs:∀ p,p∈l→Q6 p):Vg n (l.map Qr)=some (Ju (Z9 l)):=by
 match l,hne with
 | x::r,hne =>
  have h0:el QC ((x::r).map Qr) 0=some (x.1,x.2):=el_P (i:=0) rfl
  unfold Vg
  rw [h0,Option.bind_some]
  refine Eq.trans (congrArg (fun x=>Option.bind x _) (QbE hn x r (by omega))) ?_
  rw [Option.bind_some]
  obtain ⟨m1,m2⟩:=QcZ r x
  obtain ⟨a,ha⟩:∃ a,a=r.foldl mnS x:=⟨_,rfl⟩
  rw [← ha] at m1 m2 ⊢
  have hal:a∈x::r:=by
   rcases m1 with e | e
   ·rw [e];exact List.mem_cons_self
   ·exact List.mem_cons_of_mem _ e
  have hmn:∀ p,p∈x::r→p=a ∨ lx a p:=fun p hp=>m2 p (List.mem_cons.1 hp)
  have w:=Qad hn (x::r) (by omega) hs a (x::r).length 0 a [] n (by omega) (by omega) hal rfl
  refine Eq.trans (congrArg (fun x=>Option.bind x _) w) ?_
  rw [Option.bind_some]
  obtain ⟨k1,k2,k3,k4⟩:=cmpt_ok (x::r)
  obtain ⟨g1,g2⟩:=QaK hne hal hmn
  have hwl:((((UH (x::r) a (x::r).length a []).map Qr:List D)).length:Int)=((UH (x::r) a (x::r).length a []).length:Int):=by simp
  rw [hwl,V5,Option.bind_some,V5,Option.bind_some,Ua (by omega),Option.bind_some]
  by_cases h3:(Z9 (x::r)).length < 3
  ·have hw3:(UH (x::r) a (x::r).length a []).length < 3:=by
    by_cases h2:2≤(x::r).length
    ·exact g2 h3 h2
    ·have:r=[]:=List.length_eq_zero_iff.1 (by rw [List.length_cons] at h2;omega)
     subst this
     show (UH [x] a 1 a []).length < 3
     unfold UH
     split
     ·simp
     ·unfold UH;simp
   rw [decide_eq_true (show ((UH (x::r) a (x::r).length a []).length:Int) < 3 by omega),decide_eq_false (show ¬ ((UH (x::r) a (x::r).length a []).length:Int) > 16 by omega),show Qx [Q0 true 17,Q0 false 5]=17 from rfl,if_neg (by omega)]
   unfold Ju
   rw [if_pos h3]
  ·rw [g1 (by omega)]
   unfold Ju
   rw [if_neg h3,decide_eq_false (show ¬ ((Z9 (x::r)).length:Int) < 3 by omega)]
   by_cases h4:(Z9 (x::r)).length > 16
   ·rw [decide_eq_true (show ((Z9 (x::r)).length:Int) > 16 by omega),show Qx [Q0 false 17,Q0 true 5]=5 from rfl,if_neg (by omega),if_pos h4]
   ·rw [decide_eq_false (show ¬ ((Z9 (x::r)).length:Int) > 16 by omega),show Qx [Q0 false 17,Q0 false 5]=0 from rfl,if_pos rfl,if_neg h4]
def qR (ps:List Pt):Int :=
 if Qx [Q0 ((ps.length:Int) == 0) 12,Q0 (decide ((ps.length:Int) > 64)) 5]=0 then Qx (ps.map ptE)
 else Qx [Q0 ((ps.length:Int) == 0) 12,Q0 (decide ((ps.length:Int) > 64)) 5]
theorem QaT {n:Nat} (hn:100≤n) (ps:List Pt) (hl:ps.length≤65):Wa n (ps.map Qr)=some (qR ps):=by
 unfold Wa qR
 rw [List.length_map,V5,Option.bind_some,V5,Option.bind_some,Ua (by omega),Option.bind_some]
 by_cases h1:Qx [Q0 ((ps.length:Int) == 0) 12,Q0 (decide ((ps.length:Int) > 64)) 5]=0
 ·rw [if_pos h1,if_pos h1]
  have key:∀ (l:List Pt),KL (fun (_:Unit) (p:Pt)=>(if ptE p=0 then .inl () else .inr (.inl (ptE p)):Unit⊕(Int⊕Unit))) (fun _=>.inr ()) l ()=if Qx (l.map ptE)=0 then .inr () else .inl (Qx (l.map ptE)):=by
   intro l
   induction l with
   | nil=>rfl
   | cons p l ih =>
    unfold KL
    by_cases h:ptE p=0
    ·rw [if_pos h];simp only [List.map_cons,Qx,if_pos h];exact ih
    ·rw [if_neg h];simp only [List.map_cons,Qx,if_neg h]
  have:=Zp (step:=Ze n (ps.map Qr)) (fun (_:Unit) (p:Pt)=>(if ptE p=0 then .inl () else .inr (.inl (ptE p)):Unit⊕(Int⊕Unit))) (fun _=>.inr ()) (fun i _=>(i:Int)) ps (fun _ _=>True)
   (fun i s x hx _=>by
    have hi:=(List.getElem?_eq_some_iff.1 hx).1
    unfold Ze
    by_cases h:ptE x=0
    ·rw [if_pos h]
     refine ⟨?_,trivial⟩
     rw [if_pos (Kj hx),K5 unP hx,Option.bind_some,UN (by omega),Option.bind_some,if_pos h,if_pos (by unfold Qa;omega)];rfl
    ·rw [if_neg h]
     dsimp only
     rw [if_pos (Kj hx),K5 unP hx,Option.bind_some,UN (by omega),Option.bind_some,if_neg h])
   (fun s _=>by unfold Ze;rw [if_neg (by simp)]) (s:=()) (k:=n) trivial (by omega)
  rw [show (0:Int)=((0:Nat):Int) from rfl,this,key]
  by_cases h2:Qx (ps.map ptE)=0
  ·rw [if_pos h2,h2];rfl
  ·rw [if_neg h2];rfl
 ·rw [if_neg h1,if_neg h1]
theorem wJ {ps:List Pt} (h:qR ps=0):ps≠[]∧ps.length≤64∧∀ p,p∈ps→Q6 p:=by
 unfold qR at h
 by_cases h1:Qx [Q0 ((ps.length:Int) == 0) 12,Q0 (decide ((ps.length:Int) > 64)) 5]=0
 ·rw [if_pos h1] at h
  have a1:=Z1 h1 (Q0 ((ps.length:Int) == 0) 12) (by simp)
  have a2:=Z1 h1 (Q0 (decide ((ps.length:Int) > 64)) 5) (by simp)
  refine ⟨?_,?_,GS h⟩
  ·intro e
   subst e
   exact absurd a1 (by decide)
  ·unfold Q0 at a2
   split at a2
   ·omega
   ·rename_i hc;simp at hc;omega
 ·rw [if_neg h1] at h;exact absurd h h1
theorem uD {n:Nat} (hn:100≤n) {l:List Pt} (hl:l.length≤20 ∨ l.length=65):WN n (l.map Qr)=some (if qR l=0 then Ju (Z9 l) else ([],qR l)):=by
 by_cases h:qR l=0
 ·obtain ⟨hne,h64,hs⟩:=wJ h
  rw [if_pos h,QcM hn hne (by omega) hs]
 ·rw [if_neg h]
  unfold qR at h ⊢
  rw [zn,List.length_map,UI,Option.bind_some,UI,Option.bind_some,JQ (by omega),Option.bind_some]
  by_cases h1:Qx [Q0 ((l.length:Int) == 0) 12,Q0 (decide ((l.length:Int) > 64)) 5]=0
  ·rw [if_pos h1] at h ⊢
   rw [if_pos h1,XE hn l (by omega),Option.bind_some,Xa _ (by simp;omega) (by simp;omega),Option.bind_some,if_neg h]
  ·rw [if_neg h1,if_neg h1]
def FSep (a b:List Pt) (e:Int⊕Unit):Prop:=(∃ k:Nat,e=.inl (k:Int)∧k < a.length∧Sep a b k∧∀ i,i < k→¬ Sep a b i) ∨ (e=.inr ()∧∀ k,k < a.length→¬ Sep a b k)
theorem FSep.uniq {a b:List Pt} {e f:Int⊕Unit} (he:FSep a b e) (hf:FSep a b f):e=f:=by
 rcases he with ⟨k,rfl,hk,hs,hm⟩ | ⟨rfl,hm⟩
 ·rcases hf with ⟨j,rfl,hj,ht,hl⟩ | ⟨rfl,hl⟩
  ·rcases Nat.lt_trichotomy k j with h | h | h
   ·exact absurd hs (hl k h)
   ·rw [h]
   ·exact absurd ht (hm j h)
  ·exact absurd hs (hl k hk)
 ·rcases hf with ⟨j,rfl,hj,ht,hl⟩ | ⟨rfl,hl⟩
  ·exact absurd ht (hm j hj)
  ·rfl
theorem Qaf {n:Nat} {a b:List Pt} (has:∀ p,p∈a→Q6 p) (hal:a.length≤65) (hbs:∀ p,p∈b→Q6 p) (hbl:b.length≤65) (hn:100≤n) :
  ∃ e,QE (ZA n (a.map Qr) (b.map Qr)) n 0=some e∧FSep a b e:=by
 refine V9 (fun t=>∃ k:Nat,t=(k:Int)∧k≤a.length∧∀ i,i < k→¬ Sep a b i) (fun t=>a.length - t.toNat) _ ?_ n 0 ⟨0,rfl,by omega,fun i h=>by omega⟩ (by simp;omega)
 rintro t ⟨k,rfl,hk,hall⟩
 rcases Nat.lt_or_ge k a.length with h | h
 ·have hnx:=Eu (m:=a.length) (i:=k) (by omega)
  obtain ⟨e,he,hc⟩:=QcB (n:=n) (a0:=a.map Qr) (b:=b) rfl hbs hbl (has _ (List.mem_of_getElem? (Yy h))) (has _ (List.mem_of_getElem? (Yy hnx))) hn
  rcases hc with ⟨j,rfl,y,hy,hyp⟩ | ⟨rfl,hc⟩
  ·refine .inl ⟨((k+1:Nat):Int),?_,⟨k+1,rfl,h,fun i hi=>?_⟩,by simp;omega⟩
   ·unfold ZA
    rw [if_pos (by simp;omega),qE n h hal,Option.bind_some,he,Option.bind_some]
    dsimp only
    rw [if_pos (by omega),if_pos (by unfold Qa;omega)];rfl
   ·rcases Nat.lt_or_ge i k with h3 | h3
    ·exact hall i h3
    ·have:i=k:=by omega
     rw [this]
     intro hs
     have:=hs y hy
     omega
  ·refine .inr ⟨.inl (k:Int),?_,.inl ⟨k,rfl,h,hc,hall⟩⟩
   unfold ZA
   rw [if_pos (by simp;omega),qE n h hal,Option.bind_some,he,Option.bind_some]
 ·refine .inr ⟨.inr (),?_,.inr ⟨rfl,fun i hi=>hall i (by omega)⟩⟩
  unfold ZA
  rw [if_neg (by simp;omega)]
theorem uc {n:Nat} {a b:List Pt} (has:∀ p,p∈a→Q6 p) (hal:a.length≤65) (hbs:∀ p,p∈b→Q6 p) (hbl:b.length≤65) (hn:100≤n) {i:Nat} (hi:i < a.length) :
  ∃ r,WR n (a.map Qr) (b.map Qr) (i:Int)=some r∧(r=true↔Sep a b i):=by
 have hnx:=Eu (m:=a.length) (i:=i) (by omega)
 have hp:=has _ (List.mem_of_getElem? (Yy hi))
 have hq:=has _ (List.mem_of_getElem? (Yy hnx))
 have:∃ e,QE (ZS n (a.map Qr) (b.map Qr) (i:Int)) n 0=some e∧((e=.inl ()∧¬ Sep a b i) ∨ (e=.inr ()∧Sep a b i)):=by
  refine V9 (fun t=>∃ k:Nat,t=(k:Int)∧k≤b.length∧∀ j,j < k→lft (at0 a i) (at0 a (nx a.length i)) (at0 b j)≤0) (fun t=>b.length - t.toNat) _ ?_ n 0 ⟨0,rfl,by omega,fun i h=>by omega⟩ (by simp;omega)
  rintro t ⟨k,rfl,hk,hall⟩
  rcases Nat.lt_or_ge k b.length with h | h
  ·have hx:=hbs _ (List.mem_of_getElem? (Yy h))
   have hs2:Wb n (at0 a i).1 (at0 a i).2 (at0 a (nx a.length i)).1 (at0 a (nx a.length i)).2 (at0 b k).1 (at0 b k).2=some (lft (at0 a i) (at0 a (nx a.length i)) (at0 b k)):=Gw n hp hq hx
   by_cases h2:lft (at0 a i) (at0 a (nx a.length i)) (at0 b k)≤0
   ·refine .inl ⟨((k+1:Nat):Int),?_,⟨k+1,rfl,h,fun j hj=>?_⟩,by simp;omega⟩
    ·unfold ZS
     rw [if_pos (by simp;omega),V2 hi,Option.bind_some,qA n hi hal,Option.bind_some,V2 h,Option.bind_some,hs2,Option.bind_some,if_neg (by omega),if_pos (by unfold Qa;omega)];rfl
    ·rcases Nat.lt_or_ge j k with h3 | h3
     ·exact hall j h3
     ·have:j=k:=by omega
      rw [this];exact h2
   ·refine .inr ⟨.inl (),?_,.inl ⟨rfl,fun hs=>?_⟩⟩
    ·unfold ZS
     rw [if_pos (by simp;omega),V2 hi,Option.bind_some,qA n hi hal,Option.bind_some,V2 h,Option.bind_some,hs2,Option.bind_some,if_pos (by omega)]
    ·have:=hs _ (List.mem_of_getElem? (Yy h))
     omega
  ·refine .inr ⟨.inr (),?_,.inr ⟨rfl,fun y hy=>?_⟩⟩
   ·unfold ZS
    rw [if_neg (by simp;omega)]
   ·obtain ⟨j,hj,e⟩:=Go.Geo.mem_at0 hy
    rw [← e];exact hall j (by omega)
 obtain ⟨e,he,hc⟩:=this
 unfold WR
 rw [he,Option.bind_some]
 rcases hc with ⟨rfl,hc⟩ | ⟨rfl,hc⟩
 ·exact ⟨false,rfl,by simp [hc]⟩
 ·exact ⟨true,rfl,by simp [hc]⟩
theorem qO {n:Nat} {a b:List Pt} (has:∀ p,p∈a→Q6 p) (hal:a.length≤65) (hbs:∀ p,p∈b→Q6 p) (hbl:b.length≤65) (hn:100≤n) :
  ∃ e,QE (Zx n (a.map Qr) (b.map Qr)) n 0=some e∧FSep a b e:=by
 refine V9 (fun t=>∃ k:Nat,t=(k:Int)∧k≤a.length∧∀ i,i < k→¬ Sep a b i) (fun t=>a.length - t.toNat) _ ?_ n 0 ⟨0,rfl,by omega,fun i h=>by omega⟩ (by simp;omega)
 rintro t ⟨k,rfl,hk,hall⟩
 rcases Nat.lt_or_ge k a.length with h | h
 ·obtain ⟨r,hr,hrs⟩:=uc (n:=n) has hal hbs hbl hn h
  by_cases h2:Sep a b k
  ·refine .inr ⟨.inl (k:Int),?_,.inl ⟨k,rfl,h,h2,hall⟩⟩
   unfold Zx
   rw [if_pos (by simp;omega),hr,Option.bind_some,if_pos (hrs.2 h2)]
  ·refine .inl ⟨((k+1:Nat):Int),?_,⟨k+1,rfl,h,fun i hi=>?_⟩,by simp;omega⟩
   ·unfold Zx
    rw [if_pos (by simp;omega),hr,Option.bind_some,if_neg (fun e=>h2 (hrs.1 e)),if_pos (by unfold Qa;omega)];rfl
   ·rcases Nat.lt_or_ge i k with h3 | h3
    ·exact hall i h3
    ·have:i=k:=by omega
     rw [this];exact h2
 ·refine .inr ⟨.inr (),?_,.inr ⟨rfl,fun i hi=>hall i (by omega)⟩⟩
  unfold Zx
  rw [if_neg (by simp;omega)]
theorem QbN (n:Nat) (a b:List D):Vh n a b=Zx n b a:=rfl
theorem Qbr {n:Nat} (hn:100≤n) {a b:List Pt} (ha:YR a=0) (hb:YR b=0):∃ r:Int×Int×Int,Wy n (a.map Qr) (b.map Qr)=some r∧WS n (a.map Qr) (b.map Qr)=some r:=by
 obtain ⟨a3,a16,asm⟩:=qS ha
 obtain ⟨b3,b16,bs⟩:=qS hb
 obtain ⟨e1,h1,c1⟩:=Qaf (n:=n) asm (by omega) bs (by omega) hn
 obtain ⟨e2,h2,c2⟩:=Qaf (n:=n) bs (by omega) asm (by omega) hn
 obtain ⟨f1,g1,d1⟩:=qO (n:=n) asm (by omega) bs (by omega) hn
 obtain ⟨f2,g2,d2⟩:=qO (n:=n) bs (by omega) asm (by omega) hn
 obtain rfl:=c1.uniq d1
 obtain rfl:=c2.uniq d2
 unfold Wy WS
 rw [Xk hn a (by omega),Option.bind_some,Xk hn b (by omega),Option.bind_some,JQ (by omega),Option.bind_some,ha,hb,if_pos (show Qx [0,0]=0 from rfl),h1,Option.bind_some,Qdr,h2,g1,Option.bind_some,QbN,g2]
 cases e1 with
 | inl i=>exact ⟨_,rfl,rfl⟩
 | inr u =>
  cases e2 with
  | inl i=>exact ⟨_,rfl,rfl⟩
  | inr u=>exact ⟨_,rfl,rfl⟩
theorem Qbs {n:Nat} (hn:100≤n) {a b:List Pt} (hal:a.length≤65) (hbl:b.length≤65) (h:Qx [YR a,YR b]≠0):Wy n (a.map Qr) (b.map Qr)=some (0,0,Qx [YR a,YR b]):=by
 unfold Wy
 rw [Xk hn a hal,Option.bind_some,Xk hn b hbl,Option.bind_some,JQ (by omega),Option.bind_some,if_neg h]
theorem Qdo {n:Nat} (g:List Pt) (hl:g.length≤64) (hn:100≤n):Wm n (g.map Qr) (g.map Qr)=some true:=by
 have:∃ e,QE (Zk n (g.map Qr) (g.map Qr)) n 0=some e∧e=.inr ():=by
  refine V9 (fun t=>∃ k:Nat,t=(k:Int)∧k≤g.length) (fun t=>g.length - t.toNat) _ ?_ n 0 ⟨0,rfl,by omega⟩ (by simp;omega)
  rintro t ⟨k,rfl,hk⟩
  rcases Nat.lt_or_ge k g.length with h | h
  ·refine .inl ⟨((k+1:Nat):Int),?_,⟨k+1,rfl,h⟩,by simp;omega⟩
   unfold Zk
   rw [if_pos (by simp;omega),V2 h,Option.bind_some,Option.bind_some,if_pos (by simp),if_pos (by unfold Qa;omega)];rfl
  ·refine .inr ⟨.inr (),?_,rfl⟩
   unfold Zk
   rw [if_neg (by simp;omega)]
 obtain ⟨e,he,rfl⟩:=this
 unfold Wm
 rw [if_pos rfl,he];rfl
theorem uo {n:Nat} (hn:100≤n) (g:List Pt) (hl:g.length≤20):Q3 n (Ju g).1 (Ju g).2 (Ju g).2 (Ju g).1=some true:=by
 unfold Q3 Ju
 rw [if_pos rfl]
 split
 ·rw [if_neg (by decide),if_pos (by decide)]
 ·split
  ·rw [if_neg (by decide),if_pos (by decide)]
  ·dsimp only
   rw [if_pos rfl,Qdo g (by omega) hn];rfl
theorem Et (n:Nat) {e:Int} (h:e≠0) (l:List D):Q3 n [] e e l=some true:=by
 unfold Q3
 rw [if_pos rfl,if_neg h,if_pos (by decide)]
theorem kO (n:Nat) (l:List Pt):∃ b,ZK n (l.map Qr)=some b∧(b=true→l.length≤20 ∨ l.length=65):=by
 unfold ZK
 rw [List.length_map]
 by_cases h1:(l.length:Int)≤12
 ·exact ⟨true,by rw [if_pos h1],fun _=>.inl (by omega)⟩
 rw [if_neg h1]
 by_cases h2:(l.length:Int)=17
 ·exact ⟨true,by rw [if_pos h2],fun _=>.inl (by omega)⟩
 rw [if_neg h2]
 refine ⟨_,rfl,fun h=>.inr ?_⟩
 have:=beq_iff_eq.1 h
 omega
theorem Qa5 {l:List Pt} (hne:l≠[]) (hl:l.length≤20):(Z9 l).length≤20:=by
 by_cases h3:(Z9 l).length < 3
 ·omega
 ·have:=(uC hne hl h3).2.2.1
  omega
theorem zb (a b:List Pt):WL 1000 (a.map Qr) (b.map Qr)=some true:=by
 unfold WL
 obtain ⟨s1,hs1,hl1⟩:=kO 1000 a
 obtain ⟨s2,hs2,hl2⟩:=kO 1000 b
 rw [show Ke 1000=some true from rfl,Option.bind_some,if_pos rfl,hs1,Option.bind_some]
 by_cases c1:s1=true
 ·rw [if_pos c1,hs2,Option.bind_some]
  by_cases c2:s2=true
  ·have la:=hl1 c1
   have lb:=hl2 c2
   have la5:a.length≤65:=by omega
   have lb5:b.length≤65:=by omega
   rw [if_pos c2,wM 1000 (by rw [List.length_map];omega),Option.bind_some,uD (by omega) la,Option.bind_some,wM 1000 (by rw [List.length_map];omega),Option.bind_some,
    QaT (by omega) a la5,Eo (by omega) a la5,Eo (by omega) b lb5]
   have hout:qR a=0→(Vg 1000 (a.map Qr)=some (Ju (Z9 a))∧Q3 1000 (Ju (Z9 a)).1 (Ju (Z9 a)).2 (Ju (Z9 a)).2 (Ju (Z9 a)).1=some true):=fun h=>by
    obtain ⟨hne,h64,hs⟩:=wJ h
    exact ⟨ud (by omega) hne (by omega) hs,uo (by omega) _ (Qa5 hne (by omega))⟩
   by_cases hp:Qx [YR a,YR b]=0
   ·have pa:YR a=0:=Z1 hp _ (by simp)
    have pb:YR b=0:=Z1 hp _ (by simp)
    obtain ⟨r,hr,hrr⟩:=Qbr (n:=1000) (by omega) pa pb
    rw [hr,hrr]
    simp only [Option.bind_some]
    rw [Ua (by omega),Option.bind_some]
    by_cases hz:qR a=0
    ·obtain ⟨q1,q2⟩:=hout hz
     rw [if_pos hz,if_pos hz,q1,Option.bind_some,if_pos hp,q2,Option.bind_some,if_pos rfl,if_pos (by simp),beq_self_eq_true]
    ·rw [if_neg hz,if_neg hz,if_pos hp]
     dsimp only
     rw [Et 1000 hz,Option.bind_some,if_pos rfl,if_pos (by simp),beq_self_eq_true]
   ·rw [Qbs (by omega) la5 lb5 hp]
    simp only [Option.bind_some]
    rw [Ua (by omega),Option.bind_some]
    by_cases hz:qR a=0
    ·obtain ⟨q1,q2⟩:=hout hz
     rw [if_pos hz,if_pos hz,q1,Option.bind_some,if_neg hp,q2,Option.bind_some,if_pos rfl,if_pos (by simp)]
     exact congrArg some (beq_self_eq_true _)
    ·rw [if_neg hz,if_neg hz,if_neg hp]
     dsimp only
     rw [Et 1000 hz,Option.bind_some,if_pos rfl,if_pos (by simp)]
     exact congrArg some (beq_self_eq_true _)
  ·rw [if_neg c2]
 ·rw [if_neg c1]
theorem ES (Ds:List D) (hh:uq [(false,[.lst true [.int .i64,.int .i64]]),(false,[.lst true [.int .i64,.int .i64]])] Ds):Computes cx 3 Ds (.v (.bool true)):=by
 obtain ⟨d1,l1_,rfl,p1,hh1⟩:=QbW hh
 obtain ⟨es0,rfl,l0,h0⟩:=QcW (QcX p1)
 obtain ⟨a0,rfl,b0⟩:=uA (enc:=fun x:Int×Int=>(.agg [.v (.int .i64 x.1),.v (.int .i64 x.2)]:D)) (p:=fun x:Int×Int=>(Qa x.1)∧(Qa x.2)) (es:=es0) (fun e he=>by
  obtain ⟨cs,rfl,q⟩:=h0 e he
  obtain ⟨d2,r2,rfl,p2,q2⟩:=yg q
  obtain ⟨x0,rfl,b0⟩:=ok_i p2
  obtain ⟨d3,r3,rfl,p3,q3⟩:=yg q2
  obtain ⟨x1,rfl,b1⟩:=ok_i p3
  rw [QcV q3]
  exact ⟨(x0,x1),rfl,⟨Qas b0,Qas b1⟩⟩)
 rw [List.length_map] at l0
 obtain ⟨d4,l4_,rfl,p4,hh4⟩:=QbW hh1
 obtain ⟨es1,rfl,l1,h1⟩:=QcW (QcX p4)
 obtain ⟨a1,rfl,b1⟩:=uA (enc:=fun x:Int×Int=>(.agg [.v (.int .i64 x.1),.v (.int .i64 x.2)]:D)) (p:=fun x:Int×Int=>(Qa x.1)∧(Qa x.2)) (es:=es1) (fun e he=>by
  obtain ⟨cs,rfl,q⟩:=h1 e he
  obtain ⟨d5,r5,rfl,p5,q5⟩:=yg q
  obtain ⟨x0,rfl,b0⟩:=ok_i p5
  obtain ⟨d6,r6,rfl,p6,q6⟩:=yg q5
  obtain ⟨x1,rfl,b1⟩:=ok_i p6
  rw [QcV q6]
  exact ⟨(x0,x1),rfl,⟨Qas b0,Qas b1⟩⟩)
 rw [List.length_map] at l1
 cases Qc9 hh4
 exact GO (zb a0 a1)
end Go.Proofs.YtiefmhacicemhaaGreatDoor
