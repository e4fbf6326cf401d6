/- Printed by gsx.py: functions of the program as Lean functions, and that the code computes them. -/
import Derived.Test.YtljabneifpkbjaaGreatDoorGen3
set_option linter.unusedVariables false
set_option maxRecDepth 10000
set_option maxHeartbeats 4000000
namespace Go.Proofs.YtljabneifpkbjaaGreatDoor
open Go.SX
def Kw (n:Nat) (a0:Bool) (a1:Int):Option (Int) :=
 if a0=true then
  some a1
 else
 some 0
theorem yP {n:Nat} {a0:Bool} {a1:Int} {r:Int} (h:Kw n a0 a1=some r):Computes cx 74 [B a0,I a1] (I r):=by
 unfold Kw at h
 rcases io h with ⟨h1,h⟩ | ⟨h1,h⟩
 ·obtain rfl:=oi h
  exact rf [b1] (Qa h1 QL)
 obtain rfl:=oi h
 exact rf [b0] (Qa (QA h1) QL)
def Yt (n:Nat) (a0:Bool) (a1:Int):Option (Int) :=
 (Kw n a0 a1).bind fun t1 =>
 some t1
theorem qu {n:Nat} {a0:Bool} {a1:Int} {r:Int} (h:Yt n a0 a1=some r):Computes cx 20 [B a0,I a1] (I r):=by
 unfold Yt at h
 obtain ⟨t1,h1,h⟩:=bo h;obtain rfl:=oi h
 exact rf [.ret (I t1)] (Qa (yP h1) QL)
def Vh (n:Nat) (a0:jVj) (sa:(Int)):Option (((Int))⊕((Int)⊕(Unit))) :=
 if sa < ((a0).length:Int) then
  (el Vt a0 sa).bind fun ta2 =>
  if ta2=0 then
   if Qh (sa+1) then
   some (.inl (sa+1))
   else none
  else
  some (.inr (.inl ta2))
 else
 some (.inr (.inr ()))
noncomputable def zo (a0:jVj):Lp ((Int)) ((Int)⊕(Unit)):=⟨fun sa=>[(0,.d (.lst false 1 a0)),(3,.d (I sa))],fun _=>[],fun
 | (.inl e)=>.ret
 | (.inr e)=>(.exit 0),fun
 | (.inl e)=>[(2,.d (I e))]
 | (.inr e)=>[],fun _=>[]⟩
theorem Gs {n:Nat} {a0:jVj} (sa:(Int)) (r) (h:Vh n a0 sa=some r):Rl (ZJ cx.P 73 0) 19 0 false (zo a0) sa r:=by
 unfold Vh at h
 rcases io h with ⟨ha1,h⟩ | ⟨ha1,h⟩
 ·obtain ⟨ta2,ha2,h⟩:=bo h
  have q:=allE Qi ha2 (Qa (jDj ha1) QL)
  rcases io h with ⟨ha3,h⟩ | ⟨ha3,h⟩
  ·obtain ⟨ha4,h⟩:=gd h
   cases h
   exact rn 2 [b1,.el (Q3 ta2),b0] [] [0,3] [] (Qa ha4 (Qa (nef ha3) q))
  cases h
  exact rx 2 [b1,.el (Q3 ta2),b1,.el (Q3 ta2)] [] [2] [] (allE Qi ha2 (Qa (net ha3) q))
 cases h
 exact rx 2 [b0] [] [] [] (Qa (jEj ha1) QL)
def YG (n:Nat) (a0:jVj):Option (Int) :=
 (Q2 (Vh n a0) n 0).bind fun t1=>match t1 with
  | (.inl t1)=>(
   some t1)
  | (.inr t1)=>(
   some 0)
theorem jI {n:Nat} {a0:jVj} {r:Int} (h:YG n a0=some r):Computes cx 73 [.lst false 1 a0] (I r):=by
 unfold YG at h
 obtain ⟨t1,h1,h⟩:=bo h
 rcases t1 with t1 | t1
 ·obtain rfl:=oi h
  exact rf [.lp [] [0,3] [] .ret [(2,.d (I t1))] [] 27] (Qa (QH Gs h1) QL)
 obtain rfl:=oi h
 exact rf [.lp [] [0,3] [] (.exit 0) [] [] 27] (Qa (QH Gs h1) QL)
def V5 (n:Nat) (a0:jVj):Option (Int) :=
 (YG n a0).bind fun t1 =>
 some t1
theorem jL {n:Nat} {a0:jVj} {r:Int} (h:V5 n a0=some r):Computes cx 19 [.lst false 1 a0] (I r):=by
 unfold V5 at h
 obtain ⟨t1,h1,h⟩:=bo h;obtain rfl:=oi h
 exact rf [.ret (I t1)] (Qa (jI h1) QL)
def Wd (n:Nat) (a0 a1:jVj) (sa:(Int)):Option (((Int))⊕((Unit)⊕(Unit))) :=
 if sa < ((a0).length:Int) then
  (el Ww a0 sa).bind fun ta2 =>
  (el Ww a1 sa).bind fun ta3 =>
  if (!(ta2.toList == ta3.toList))=true then
   some (.inr (.inl ()))
  else
  if Qh (sa+1) then
  some (.inl (sa+1))
  else none
 else
 some (.inr (.inr ()))
noncomputable def XA (a0 a1:jVj):Lp ((Int)) ((Unit)⊕(Unit)):=⟨fun sa=>[(0,.d (.lst false 1 a0)),(1,.d (.lst false 1 a1)),(5,.d (I sa))],fun _=>[],fun
 | (.inl e)=>.ret
 | (.inr e)=>(.exit 0),fun
 | (.inl e)=>[(4,.d (B false))]
 | (.inr e)=>[],fun _=>[]⟩
theorem U6 {n:Nat} {a0 a1:jVj} (sa:(Int)) (r) (h:Wd n a0 a1 sa=some r):Rl (ZJ cx.P 25 0) 26 0 false (XA a0 a1) sa r:=by
 unfold Wd at h
 rcases io h with ⟨ha1,h⟩ | ⟨ha1,h⟩
 ·obtain ⟨ta2,ha2,h⟩:=bo h;obtain ⟨ta3,ha3,h⟩:=bo h
  have q:=allE Qr ha3 (allE Qr ha2 (Qa (jDj ha1) QL))
  let o (l:List Orc):=b1::.el (Zy ta2)::.el (Zy ta3)::l
  rcases io h with ⟨ha4,h⟩ | ⟨ha4,h⟩
  ·cases h
   exact rx 7 (o [b1]) [] [4] [] (Qa ha4 q)
  obtain ⟨ha5,h⟩:=gd h
  cases h
  exact rn 7 (o [b0]) [] [0,1,5] [] (Qa ha5 (Qa (QA ha4) q))
 cases h
 exact rx 7 [b0] [] [] [] (Qa (jEj ha1) QL)
def Z5 (n:Nat) (a0 a1:jVj):Option (Bool) :=
 if ((a0).length:Int)=((a1).length:Int) then
  (Q2 (Wd n a0 a1) n 0).bind fun t2=>match t2 with
   | (.inl t2)=>(
    some false)
   | (.inr t2)=>(
    some true)
 else
 some false
theorem V9 {n:Nat} {a0 a1:jVj} {r:Bool} (h:Z5 n a0 a1=some r):Computes cx 25 [.lst false 1 a0,.lst false 1 a1] (B r):=by
 unfold Z5 at h
 rcases io h with ⟨h1,h⟩ | ⟨h1,h⟩
 ·have q:=Qa (nef h1) QL
  obtain ⟨t2,h2,h⟩:=bo h
  rcases t2 with t2 | t2
  ·obtain rfl:=oi h
   exact rf [b0,.lp [] [0,1,5] [] .ret [(4,.d (B false))] [] 34] (Qa (QH U6 h2) q)
  obtain rfl:=oi h
  exact rf [b0,.lp [] [0,1,5] [] (.exit 0) [] [] 34] (Qa (QH U6 h2) q)
 obtain rfl:=oi h
 exact rf [b1] (Qa (net h1) QL)
def Vu (n:Nat) (a0:jSj) (a1 a2:jVj) (a3 a4:Int) (a5 a6:Bool) (a7 a8 a9:Int) (a10 a11 a12:jVj) (sa:(Int×Int×Int)):Option (((Int×Int×Int))⊕((Int×Int))) :=
 if sa.1 < ((a11).length:Int) then
  if 0≤sa.1∧sa.1 < ((a11).length:Int) then
  ((nth (a11) (Int.toNat sa.1)).bind QM).bind fun ta3 =>
  if (!(ta3.2.1.toList == a0.toList))=true then
   if Qh (sa.1+1) then
   some (.inl ((sa.1+1),sa.2.1,sa.2.2))
   else none
  else
  if Qh (sa.2.1+1) then
  if ta3.2.2.2.2.2=true then
   if Qh (sa.2.2+1) then
   if Qh (sa.1+1) then
   some (.inl ((sa.1+1),(sa.2.1+1),(sa.2.2+1)))
   else none
   else none
  else
  if Qh (sa.1+1) then
  some (.inl ((sa.1+1),(sa.2.1+1),sa.2.2))
  else none
  else none
  else none
 else
 some (.inr (sa.2.1,sa.2.2))
noncomputable def Jt (a0:jSj) (a1 a2:jVj) (a3 a4:Int) (a5 a6:Bool) (a7 a8 a9:Int) (a10 a11 a12:jVj):Lp ((Int×Int×Int)) ((Int×Int)):=⟨fun sa=>[(1,.d (.v (.string a0))),(4,.ptr 13 0 0 0 0),(5,.ptr 14 0 0 0 0),(11,.own 11 0),(12,.d (I ((a11).length:Int))),(13,.d (I sa.1))],fun sa=>[(0,.box (.agg [.own 1 0,.own 2 0,.d (I a3),.d (I a4),.d (B a5),.d (B a6),.d (I a7),.d (I a8),.d (I a9),.own 10 0,.own 11 0,.own 12 0])),(1,.row 0 5 a1),(2,.row 0 5 a2),(10,.row 0 1 a10),(11,.row 0 6 a11),(12,.row 0 7 a12),(13,.box (.d (.agg [I 0,I 0]))),(14,.box (.d (.agg [I sa.2.1,I sa.2.2])))],fun _=>(.exit 0),fun _=>[(4,.ptr 13 0 0 0 0),(5,.ptr 14 0 0 0 0)],fun e=>[(0,.box (.agg [.own 1 0,.own 2 0,.d (I a3),.d (I a4),.d (B a5),.d (B a6),.d (I a7),.d (I a8),.d (I a9),.own 10 0,.own 11 0,.own 12 0])),(1,.row 0 5 a1),(2,.row 0 5 a2),(10,.row 0 1 a10),(11,.row 0 6 a11),(12,.row 0 7 a12),(13,.box (.d (.agg [I 0,I 0]))),(14,.box (.d (.agg [I e.1,I e.2])))]⟩
theorem Jp {n:Nat} {a0:jSj} {a1 a2:jVj} {a3 a4:Int} {a5 a6:Bool} {a7 a8 a9:Int} {a10 a11 a12:jVj} (sa:(Int×Int×Int)) (r) (h:Vu n a0 a1 a2 a3 a4 a5 a6 a7 a8 a9 a10 a11 a12 sa=some r):Rl (ZJ cx.P 76 0) 33 13 false (Jt a0 a1 a2 a3 a4 a5 a6 a7 a8 a9 a10 a11 a12) sa r:=by
 unfold Vu at h
 rcases io h with ⟨ha1,h⟩ | ⟨ha1,h⟩
 ·obtain ⟨ha2,h⟩:=gd h;obtain ⟨ta3,ha3,h⟩:=bo h
  have q:=Qa (QX Qq ha3) (Qa ha2 (Qa (jDj ha1) QL))
  let o (l:List Orc):=b1::b1::.el (QB ta3)::l
  rcases io h with ⟨ha4,h⟩ | ⟨ha4,h⟩
  ·obtain ⟨ha5,h⟩:=gd h
   cases h
   exact rn 21 (o [b1]) [] [1,4,5,11,12,13] [0,1,2,10,11,12,13,14] (Qa ha5 (Qa ha4 q))
  obtain ⟨ha5,h⟩:=gd h
  have q:=Qa ha5 (Qa (QA ha4) q)
  rcases io h with ⟨ha6,h⟩ | ⟨ha6,h⟩
  ·obtain ⟨ha7,h⟩:=gd h;obtain ⟨ha8,h⟩:=gd h
   cases h
   exact rn 21 (o [b0,b1]) [] [1,4,5,11,12,13] [0,1,2,10,11,12,13,14] (Qa ha8 (Qa ha7 (Qa ha6 q)))
  obtain ⟨ha7,h⟩:=gd h
  cases h
  exact rn 21 (o [b0,b0]) [] [1,4,5,11,12,13] [0,1,2,10,11,12,13,14] (Qa ha7 (Qa (QA ha6) q))
 cases h
 exact rx 21 [b0] [] [4,5] [0,1,2,10,11,12,13,14] (Qa (jEj ha1) QL)
def VV (n:Nat) (a0:jSj) (a1 a2:jVj) (a3 a4:Int) (a5 a6:Bool) (a7 a8 a9:Int) (a10 a11 a12:jVj):Option (Int×Int) :=
 (Q2 (Vu n a0 a1 a2 a3 a4 a5 a6 a7 a8 a9 a10 a11 a12) n (0,0,0)).bind fun t1 =>
 some (t1.1,t1.2)
theorem GU {n:Nat} {a0:jSj} {a1 a2:jVj} {a3 a4:Int} {a5 a6:Bool} {a7 a8 a9:Int} {a10 a11 a12:jVj} {r:Int×Int} (h:VV n a0 a1 a2 a3 a4 a5 a6 a7 a8 a9 a10 a11 a12=some r):ComputesO cx 76 [.ptr 0 0 0 0 2,.d (.v (.string a0))] (some (Qb a1 a2 a3 a4 a5 a6 a7 a8 a9 a10 a11 a12)) (.d (.agg [I r.1,I r.2])) (Qb a1 a2 a3 a4 a5 a6 a7 a8 a9 a10 a11 a12) ZV:=by
 unfold VV at h
 obtain ⟨t1,h1,h⟩:=bo h
 cases h
 exact rfO 0 [.lp [] [1,4,5,11,12,13] [0,1,2,10,11,12,13,14] (.exit 0) [(4,.ptr 13 0 0 0 0),(5,.ptr 14 0 0 0 0)] [(0,.box (.agg [.own 1 0,.own 2 0,.d (I a3),.d (I a4),.d (B a5),.d (B a6),.d (I a7),.d (I a8),.d (I a9),.own 10 0,.own 11 0,.own 12 0])),(1,.row 0 5 a1),(2,.row 0 5 a2),(10,.row 0 1 a10),(11,.row 0 6 a11),(12,.row 0 7 a12),(13,.box (.d (.agg [I 0,I 0]))),(14,.box (.d (.agg [I t1.1,I t1.2])))] 55] (Qa (QH Jp h1) QL)
def XD (n:Nat) (a0:jVj) (a1:jSj):Option (Int×Int×Int) :=
 (Q6 n a0).bind fun t1 =>
 if t1.2.1=0 then
  (Zb n t1.2.2.2.2.2.2.2.2.2.2.2.1 a1).bind fun t3 =>
  (Qm n (!t3) 10).bind fun t4 =>
  if t4=0 then
   (VV n a1 t1.2.2.1 t1.2.2.2.1 t1.2.2.2.2.1 t1.2.2.2.2.2.1 t1.2.2.2.2.2.2.1 t1.2.2.2.2.2.2.2.1 t1.2.2.2.2.2.2.2.2.1 t1.2.2.2.2.2.2.2.2.2.1 t1.2.2.2.2.2.2.2.2.2.2.1 t1.2.2.2.2.2.2.2.2.2.2.2.1 t1.2.2.2.2.2.2.2.2.2.2.2.2.1 t1.2.2.2.2.2.2.2.2.2.2.2.2.2).bind fun t6 =>
   some (t6.1,t6.2,0)
  else
  some (0,0,t4)
 else
 some (0,0,t1.2.1)
theorem jk {n:Nat} {a0:jVj} {a1:jSj} {r:Int×Int×Int} (h:XD n a0 a1=some r):Computes cx 26 [.lst false 5 a0,.v (.string a1)] (.tup [.agg [I r.1,I r.2.1],I r.2.2]):=by
 unfold XD at h
 obtain ⟨t1,h1,h⟩:=bo h
 have q:=Qa (We h1) QL
 let o (l:List Orc):=b1::.obj none (.tup [.ptr 0 0 0 0 0,.d (I t1.1),.d (I t1.2.1)]) (Qb t1.2.2.1 t1.2.2.2.1 t1.2.2.2.2.1 t1.2.2.2.2.2.1 t1.2.2.2.2.2.2.1 t1.2.2.2.2.2.2.2.1 t1.2.2.2.2.2.2.2.2.1 t1.2.2.2.2.2.2.2.2.2.1 t1.2.2.2.2.2.2.2.2.2.2.1 t1.2.2.2.2.2.2.2.2.2.2.2.1 t1.2.2.2.2.2.2.2.2.2.2.2.2.1 t1.2.2.2.2.2.2.2.2.2.2.2.2.2) []::l
 rcases io h with ⟨h2,h⟩ | ⟨h2,h⟩
 ·obtain ⟨t3,h3,h⟩:=bo h;obtain ⟨t4,h4,h⟩:=bo h
  have q:=Qa (Qu h4) (Qa (Z2 h3) (Qa (nef h2) q))
  let o l:=o (b0::.ix (-9)::b1::.no::.ix 0::.ret (B t3)::.ret (I t4)::l)
  rcases io h with ⟨h5,h⟩ | ⟨h5,h⟩
  ·obtain ⟨t6,h6,h⟩:=bo h
   cases h
   exact rf (o [b0,.obj (some 21) (.d (.agg [I t6.1,I t6.2])) (Qb t1.2.2.1 t1.2.2.2.1 t1.2.2.2.2.1 t1.2.2.2.2.2.1 t1.2.2.2.2.2.2.1 t1.2.2.2.2.2.2.2.1 t1.2.2.2.2.2.2.2.2.1 t1.2.2.2.2.2.2.2.2.2.1 t1.2.2.2.2.2.2.2.2.2.2.1 t1.2.2.2.2.2.2.2.2.2.2.2.1 t1.2.2.2.2.2.2.2.2.2.2.2.2.1 t1.2.2.2.2.2.2.2.2.2.2.2.2.2) ZV]) (Qa (GU h6) (Qa (nef h5) q))
  cases h
  exact rf (o [b1]) (Qa (net h5) q)
 cases h
 exact rf (o [b1,b1]) (Qa (net h2) (Qa (net h2) q))
def JQ (n:Nat) (a0:jVj) (a1:jSj):Option (Int×Int) :=
 (Q6 n a0).bind fun t1 =>
 if t1.2.1=0 then
  (Qw n 111 t1.2.2.1 t1.2.2.2.1 t1.2.2.2.2.1 t1.2.2.2.2.2.1 t1.2.2.2.2.2.2.1 t1.2.2.2.2.2.2.2.1 t1.2.2.2.2.2.2.2.2.1 t1.2.2.2.2.2.2.2.2.2.1 t1.2.2.2.2.2.2.2.2.2.2.1 t1.2.2.2.2.2.2.2.2.2.2.2.1 t1.2.2.2.2.2.2.2.2.2.2.2.2.1 t1.2.2.2.2.2.2.2.2.2.2.2.2.2).bind fun t3 =>
  (Zb n t3 a1).bind fun t4 =>
  (Qm n (!t4) 10).bind fun t5 =>
  if t5=0 then
   (QE n t3 a1).bind fun t7 =>
   if 0≤t7∧t7 < ((t1.2.2.2.2.2.2.2.2.2.2.2.2.2).length:Int) then
   ((nth (t1.2.2.2.2.2.2.2.2.2.2.2.2.2) (Int.toNat t7)).bind Z6).bind fun t9 =>
   (Zg n t9.1 t9.2.1 t9.2.2.1 t9.2.2.2.1 t9.2.2.2.2.1 t9.2.2.2.2.2.1 t9.2.2.2.2.2.2).bind fun t10 =>
   some (t10,0)
   else none
  else
  some (0,t5)
 else
 some (0,t1.2.1)
theorem qs {n:Nat} {a0:jVj} {a1:jSj} {r:Int×Int} (h:JQ n a0 a1=some r):Computes cx 27 [.lst false 5 a0,.v (.string a1)] (.tup [I r.1,I r.2]):=by
 unfold JQ at h
 obtain ⟨t1,h1,h⟩:=bo h
 have q:=Qa (We h1) QL
 let o (l:List Orc):=b1::.obj none (.tup [.ptr 0 0 0 0 0,.d (I t1.1),.d (I t1.2.1)]) (Qb t1.2.2.1 t1.2.2.2.1 t1.2.2.2.2.1 t1.2.2.2.2.2.1 t1.2.2.2.2.2.2.1 t1.2.2.2.2.2.2.2.1 t1.2.2.2.2.2.2.2.2.1 t1.2.2.2.2.2.2.2.2.2.1 t1.2.2.2.2.2.2.2.2.2.2.1 t1.2.2.2.2.2.2.2.2.2.2.2.1 t1.2.2.2.2.2.2.2.2.2.2.2.2.1 t1.2.2.2.2.2.2.2.2.2.2.2.2.2) []::l
 rcases io h with ⟨h2,h⟩ | ⟨h2,h⟩
 ·obtain ⟨t3,h3,h⟩:=bo h;obtain ⟨t4,h4,h⟩:=bo h;obtain ⟨t5,h5,h⟩:=bo h
  have q:=Qa (Qu h5) (Qa (Z2 h4) (Qa (QC h3) (Qa (nef h2) q)))
  let o l:=o (b0::.obj (some 21) (.d (.lst false 1 t3)) (Qb t1.2.2.1 t1.2.2.2.1 t1.2.2.2.2.1 t1.2.2.2.2.2.1 t1.2.2.2.2.2.2.1 t1.2.2.2.2.2.2.2.1 t1.2.2.2.2.2.2.2.2.1 t1.2.2.2.2.2.2.2.2.2.1 t1.2.2.2.2.2.2.2.2.2.2.1 t1.2.2.2.2.2.2.2.2.2.2.2.1 t1.2.2.2.2.2.2.2.2.2.2.2.2.1 t1.2.2.2.2.2.2.2.2.2.2.2.2.2) ZV::.ret (B t4)::.ret (I t5)::l)
  rcases io h with ⟨h6,h⟩ | ⟨h6,h⟩
  ·obtain ⟨t7,h7,h⟩:=bo h;obtain ⟨h8,h⟩:=gd h;obtain ⟨t9,h9,h⟩:=bo h;obtain ⟨t10,h10,h⟩:=bo h
   cases h
   exact rf (o [b0,b1,.obj (some 21) (.d (.lst false 1 t3)) (Qb t1.2.2.1 t1.2.2.2.1 t1.2.2.2.2.1 t1.2.2.2.2.2.1 t1.2.2.2.2.2.2.1 t1.2.2.2.2.2.2.2.1 t1.2.2.2.2.2.2.2.2.1 t1.2.2.2.2.2.2.2.2.2.1 t1.2.2.2.2.2.2.2.2.2.2.1 t1.2.2.2.2.2.2.2.2.2.2.2.1 t1.2.2.2.2.2.2.2.2.2.2.2.2.1 t1.2.2.2.2.2.2.2.2.2.2.2.2.2) ZV,.ret (I t7),b1,.el (Q7 t9),.ret (I t10)]) (Qa (W8 h10) (Qa (QX Q0 h9) (Qa h8 (Qa (QK h7) (Qa (QC h3) (Qa (nef h6) q))))))
  cases h
  exact rf (o [b1]) (Qa (net h6) q)
 cases h
 exact rf (o [b1,b1]) (Qa (net h2) (Qa (net h2) q))
def qz (n:Nat) (a0:jVj) (a1:jSj):Option (Int×Int) :=
 (Q6 n a0).bind fun t1 =>
 if t1.2.1=0 then
  (Qw n 111 t1.2.2.1 t1.2.2.2.1 t1.2.2.2.2.1 t1.2.2.2.2.2.1 t1.2.2.2.2.2.2.1 t1.2.2.2.2.2.2.2.1 t1.2.2.2.2.2.2.2.2.1 t1.2.2.2.2.2.2.2.2.2.1 t1.2.2.2.2.2.2.2.2.2.2.1 t1.2.2.2.2.2.2.2.2.2.2.2.1 t1.2.2.2.2.2.2.2.2.2.2.2.2.1 t1.2.2.2.2.2.2.2.2.2.2.2.2.2).bind fun t3 =>
  (Zb n t3 a1).bind fun t4 =>
  (Qm n (!t4) 10).bind fun t5 =>
  if t5=0 then
   (QE n t3 a1).bind fun t7 =>
   if 0≤t7∧t7 < ((t1.2.2.2.2.2.2.2.2.2.2.2.2.2).length:Int) then
   ((nth (t1.2.2.2.2.2.2.2.2.2.2.2.2.2) (Int.toNat t7)).bind Z6).bind fun t9 =>
   (Wv n t9.1 t9.2.1 t9.2.2.1 t9.2.2.2.1 t9.2.2.2.2.1 t9.2.2.2.2.2.1 t9.2.2.2.2.2.2).bind fun t10 =>
   some (t10,0)
   else none
  else
  some (0,t5)
 else
 some (0,t1.2.1)
theorem yR {n:Nat} {a0:jVj} {a1:jSj} {r:Int×Int} (h:qz n a0 a1=some r):Computes cx 28 [.lst false 5 a0,.v (.string a1)] (.tup [I r.1,I r.2]):=by
 unfold qz at h
 obtain ⟨t1,h1,h⟩:=bo h
 have q:=Qa (We h1) QL
 let o (l:List Orc):=b1::.obj none (.tup [.ptr 0 0 0 0 0,.d (I t1.1),.d (I t1.2.1)]) (Qb t1.2.2.1 t1.2.2.2.1 t1.2.2.2.2.1 t1.2.2.2.2.2.1 t1.2.2.2.2.2.2.1 t1.2.2.2.2.2.2.2.1 t1.2.2.2.2.2.2.2.2.1 t1.2.2.2.2.2.2.2.2.2.1 t1.2.2.2.2.2.2.2.2.2.2.1 t1.2.2.2.2.2.2.2.2.2.2.2.1 t1.2.2.2.2.2.2.2.2.2.2.2.2.1 t1.2.2.2.2.2.2.2.2.2.2.2.2.2) []::l
 rcases io h with ⟨h2,h⟩ | ⟨h2,h⟩
 ·obtain ⟨t3,h3,h⟩:=bo h;obtain ⟨t4,h4,h⟩:=bo h;obtain ⟨t5,h5,h⟩:=bo h
  have q:=Qa (Qu h5) (Qa (Z2 h4) (Qa (QC h3) (Qa (nef h2) q)))
  let o l:=o (b0::.obj (some 21) (.d (.lst false 1 t3)) (Qb t1.2.2.1 t1.2.2.2.1 t1.2.2.2.2.1 t1.2.2.2.2.2.1 t1.2.2.2.2.2.2.1 t1.2.2.2.2.2.2.2.1 t1.2.2.2.2.2.2.2.2.1 t1.2.2.2.2.2.2.2.2.2.1 t1.2.2.2.2.2.2.2.2.2.2.1 t1.2.2.2.2.2.2.2.2.2.2.2.1 t1.2.2.2.2.2.2.2.2.2.2.2.2.1 t1.2.2.2.2.2.2.2.2.2.2.2.2.2) ZV::.ret (B t4)::.ret (I t5)::l)
  rcases io h with ⟨h6,h⟩ | ⟨h6,h⟩
  ·obtain ⟨t7,h7,h⟩:=bo h;obtain ⟨h8,h⟩:=gd h;obtain ⟨t9,h9,h⟩:=bo h;obtain ⟨t10,h10,h⟩:=bo h
   cases h
   exact rf (o [b0,b1,.obj (some 21) (.d (.lst false 1 t3)) (Qb t1.2.2.1 t1.2.2.2.1 t1.2.2.2.2.1 t1.2.2.2.2.2.1 t1.2.2.2.2.2.2.1 t1.2.2.2.2.2.2.2.1 t1.2.2.2.2.2.2.2.2.1 t1.2.2.2.2.2.2.2.2.2.1 t1.2.2.2.2.2.2.2.2.2.2.1 t1.2.2.2.2.2.2.2.2.2.2.2.1 t1.2.2.2.2.2.2.2.2.2.2.2.2.1 t1.2.2.2.2.2.2.2.2.2.2.2.2.2) ZV,.ret (I t7),b1,.el (Q7 t9),.ret (I t10)]) (Qa (YN h10) (Qa (QX Q0 h9) (Qa h8 (Qa (QK h7) (Qa (QC h3) (Qa (nef h6) q))))))
  cases h
  exact rf (o [b1]) (Qa (net h6) q)
 cases h
 exact rf (o [b1,b1]) (Qa (net h2) (Qa (net h2) q))
def U9 (n:Nat) (a0:Int) (a1:jSj) (a2 a3:jVj) (a4 a5 a6:jSj):Option (Bool) :=
 if (a1.toList == (⟨#[115,117,110]⟩:jSj).toList)=true then
  some true
 else
 if (a1.toList == (⟨#[102,105,108,108]⟩:jSj).toList)=true then
  some true
 else
 if (a1.toList == (⟨#[100,114,97,105,110]⟩:jSj).toList)=true then
  some true
 else
 if (a1.toList == (⟨#[116,114,105,112]⟩:jSj).toList)=true then
  some true
 else
 if (a1.toList == (⟨#[114,101,115,101,116]⟩:jSj).toList)=true then
  some true
 else
 if (a1.toList == (⟨#[115,101,99,116,111,114]⟩:jSj).toList)=true then
  (el Ww a2 0).bind fun t7 =>
  some (t7.toList == a6.toList)
 else
 if (a1.toList == (⟨#[100,105,109]⟩:jSj).toList)=true then
  (el Ww a2 0).bind fun t8 =>
  some (t8.toList == a6.toList)
 else
 if (a1.toList == (⟨#[111,102,102,101,114]⟩:jSj).toList)=true then
  some false
 else
 if (a1.toList == (⟨#[100,101,108,105,118,101,114]⟩:jSj).toList)=true then
  some false
 else
 if (a1.toList == (⟨#[98,105,108,108]⟩:jSj).toList)=true then
  some false
 else
 (el Ww a2 0).bind fun t11 =>
 some (t11.toList == a5.toList)
theorem zW {n:Nat} {a0:Int} {a1:jSj} {a2 a3:jVj} {a4 a5 a6:jSj} {r:Bool} (h:U9 n a0 a1 a2 a3 a4 a5 a6=some r):Computes cx 83 [.agg [I a0,.v (.string a1),.lst false 1 a2,.lst false 1 a3,.v (.string a4)],.v (.string a5),.v (.string a6)] (B r):=by
 unfold U9 at h
 rcases io h with ⟨h1,h⟩ | ⟨h1,h⟩
 ·obtain rfl:=oi h
  exact rf [b1,b1] (Qa h1 (Qa h1 QL))
 have q:=Qa (QA h1) QL
 rcases io h with ⟨h2,h⟩ | ⟨h2,h⟩
 ·obtain rfl:=oi h
  exact rf [b0,b1,b1] (Qa h2 (Qa h2 q))
 have q:=Qa (QA h2) q
 let o (l:List Orc):=b0::b0::l
 rcases io h with ⟨h3,h⟩ | ⟨h3,h⟩
 ·obtain rfl:=oi h
  exact rf (o [b1,b1]) (Qa h3 (Qa h3 q))
 have q:=Qa (QA h3) q
 let o l:=o (b0::l)
 rcases io h with ⟨h4,h⟩ | ⟨h4,h⟩
 ·obtain rfl:=oi h
  exact rf (o [b1,b1]) (Qa h4 (Qa h4 q))
 have q:=Qa (QA h4) q
 let o l:=o (b0::l)
 rcases io h with ⟨h5,h⟩ | ⟨h5,h⟩
 ·obtain rfl:=oi h
  exact rf (o [b1]) (Qa h5 q)
 have q:=Qa (QA h5) q
 let o l:=o (b0::l)
 rcases io h with ⟨h6,h⟩ | ⟨h6,h⟩
 ·obtain ⟨t7,h7,h⟩:=bo h
  cases h
  exact rf (o [b1,b1,.el (Zy t7)]) (allE Qr h7 (Qa h6 (Qa h6 q)))
 have q:=Qa (QA h6) q
 let o l:=o (b0::l)
 rcases io h with ⟨h7,h⟩ | ⟨h7,h⟩
 ·obtain ⟨t8,h8,h⟩:=bo h
  cases h
  exact rf (o [b1,.el (Zy t8)]) (allE Qr h8 (Qa h7 q))
 have q:=Qa (QA h7) q
 rcases io h with ⟨h8,h⟩ | ⟨h8,h⟩
 ·obtain rfl:=oi h
  exact rf (o [b0,b1,b1]) (Qa h8 (Qa h8 q))
 have q:=Qa (QA h8) q
 let o l:=o (b0::b0::l)
 rcases io h with ⟨h9,h⟩ | ⟨h9,h⟩
 ·obtain rfl:=oi h
  exact rf (o [b1,b1]) (Qa h9 (Qa h9 q))
 have q:=Qa (QA h9) q
 rcases io h with ⟨h10,h⟩ | ⟨h10,h⟩
 ·obtain rfl:=oi h
  exact rf (o [b0,b1]) (Qa h10 q)
 obtain ⟨t11,h11,h⟩:=bo h
 cases h
 exact rf (o [b0,b0,.el (Zy t11)]) (allE Qr h11 (Qa (QA h10) q))
end Go.Proofs.YtljabneifpkbjaaGreatDoor
