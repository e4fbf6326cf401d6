/- Printed by gsx.py: functions of the program as Lean functions, and that the code computes them. -/
import Derived.Test.YtljabneifpkbjaaGreatDoorWake
set_option linter.unusedVariables false
set_option linter.unusedSimpArgs false
set_option linter.unnecessarySimpa false
set_option maxRecDepth 10000
set_option maxHeartbeats 4000000
namespace Go.Proofs.YtljabneifpkbjaaGreatDoor
open Go.SX
def Qe9 (n:Nat) (a1:Int) (t1:Int×Int×jVj×jVj×jRj) (sa:(Int×jVj)):Option (((Int×jVj))⊕((jVj))) :=
 if sa.1 < ((t1.2.2.2.1).length:Int) then
  if 0≤sa.1∧sa.1 < ((t1.2.2.2.1).length:Int) then
  ((nth (t1.2.2.2.1) (Int.toNat sa.1)).bind Ze).bind fun ta3 =>
  (el Vt ta3.2.2.2.1 0).bind fun ta4 =>
  if ta4≤a1 then
   if Wa 88 ((sa.2).length+1) then
   if Qh (sa.1+1) then
   some (.inl ((sa.1+1),(sa.2++([.agg [I ta3.1,.v (.string ta3.2.1),.lst false 1 ta3.2.2.1,.lst false 1 ta3.2.2.2.1,.v (.string ta3.2.2.2.2)]]:jVj))))
   else none
   else none
  else
  if Qh (sa.1+1) then
  some (.inl ((sa.1+1),sa.2))
  else none
  else none
 else
 some (.inr sa.2)
noncomputable def Qgi (a1:Int) (t1:Int×Int×jVj×jVj×jRj):Lp ((Int×jVj)) ((jVj)):=⟨fun sa=>[(1,.fn (.func 110) [] [.ptr 0 0 0 0 0]),(5,.own 47 0),(8,.own 14 0),(9,.d (I ((t1.2.2.2.1).length:Int))),(10,.d (I sa.1))],fun sa=>[(0,.box (.d (I a1))),(1,.box (.d (.agg [I 0,I 0,B false,B false,I 0,I 0,I 0,.lst true 0 [],.lst true 0 [],.lst true 0 []]))),(12,.box (.agg [.own 13 0,.own 14 0,.d (I t1.2.2.2.2.1),.d (I t1.2.2.2.2.2.1),.d (B t1.2.2.2.2.2.2.1),.d (B t1.2.2.2.2.2.2.2.1),.d (I t1.2.2.2.2.2.2.2.2.1),.d (I t1.2.2.2.2.2.2.2.2.2.1),.d (I t1.2.2.2.2.2.2.2.2.2.2.1),.own 22 0,.own 23 0,.own 24 0])),(13,.row 0 5 t1.2.2.1),(14,.row 0 5 t1.2.2.2.1),(22,.row 0 1 t1.2.2.2.2.2.2.2.2.2.2.2.1),(23,.row 0 6 t1.2.2.2.2.2.2.2.2.2.2.2.2.1),(24,.row 0 7 t1.2.2.2.2.2.2.2.2.2.2.2.2.2),(47,.row 0 5 sa.2)],fun _=>(.exit 0),fun _=>[(5,.own 47 0)],fun e=>[(0,.box (.d (I a1))),(1,.box (.d (.agg [I 0,I 0,B false,B false,I 0,I 0,I 0,.lst true 0 [],.lst true 0 [],.lst true 0 []]))),(12,.box (.agg [.own 13 0,.own 14 0,.d (I t1.2.2.2.2.1),.d (I t1.2.2.2.2.2.1),.d (B t1.2.2.2.2.2.2.1),.d (B t1.2.2.2.2.2.2.2.1),.d (I t1.2.2.2.2.2.2.2.2.1),.d (I t1.2.2.2.2.2.2.2.2.2.1),.d (I t1.2.2.2.2.2.2.2.2.2.2.1),.own 22 0,.own 23 0,.own 24 0])),(13,.row 0 5 t1.2.2.1),(14,.row 0 5 t1.2.2.2.1),(22,.row 0 1 t1.2.2.2.2.2.2.2.2.2.2.2.1),(23,.row 0 6 t1.2.2.2.2.2.2.2.2.2.2.2.2.1),(24,.row 0 7 t1.2.2.2.2.2.2.2.2.2.2.2.2.2),(47,.row 0 5 e)]⟩
theorem Qgc {n:Nat} {a1:Int} {t1:Int×Int×jVj×jVj×jRj} (sa:(Int×jVj)) (r) (h:Qe9 n a1 t1 sa=some r):Rl (ZJ cx.P 81 0) 23 42 false (Qgi a1 t1) sa r:=by
 unfold Qe9 at h
 rcases io h with ⟨ha1,h⟩ | ⟨ha1,h⟩
 ·obtain ⟨ha2,h⟩:=gd h;obtain ⟨ta3,ha3,h⟩:=bo h;obtain ⟨ta4,ha4,h⟩:=bo h
  have q:=allE Qi ha4 (Qa (QX Ql ha3) (Qa ha2 (Qa (jDj ha1) QL)))
  let o (l:List Orc):=b1::b1::.el (QP ta3)::b1::.el (Q3 ta4)::l
  rcases io h with ⟨ha5,h⟩ | ⟨ha5,h⟩
  ·obtain ⟨ha6,h⟩:=gd h;obtain ⟨ha7,h⟩:=gd h
   cases h
   exact rn 48 (o [b1,b1]) [] [1,5,8,9,10] [0,1,12,13,14,22,23,24,47] (Qa ha7 (Qa (ro 65 ha6) (Qa (jDj ha5) q)))
  obtain ⟨ha6,h⟩:=gd h
  cases h
  exact rn 48 (o [b0]) [] [1,5,8,9,10] [0,1,12,13,14,22,23,24,47] (Qa ha6 (Qa (jEj ha5) q))
 cases h
 exact rx 48 [b0] [] [5] [0,1,12,13,14,22,23,24,47] (Qa (jEj ha1) QL)
def Qe8 (n:Nat) (a1:Int) (t1:Int×Int×jVj×jVj×jRj) (t5:jVj) (sa:(Unit)⊕(Int×jRj)):Option (((Unit)⊕(Int×jRj))⊕((Unit)⊕(jRj))):=match sa with
 | (.inl sa)=>(
  if 0 < ((t5).length:Int) then
   if (0:Int)≤0∧0 < ((t5).length:Int) then
   ((nth (t5) 0).bind Ze).bind fun ta3 =>
   (Qz n ta3.1 ta3.2.1 ta3.2.2.1 ta3.2.2.2.1 ta3.2.2.2.2 0 0 false false 0 0 0 ([]) ([]) ([])).bind fun ta4 =>
   some (.inl (.inr (1,ta4.1,ta4.2.1,ta4.2.2.1,ta4.2.2.2.1,ta4.2.2.2.2.1,ta4.2.2.2.2.2.1,ta4.2.2.2.2.2.2.1,ta4.2.2.2.2.2.2.2.1,ta4.2.2.2.2.2.2.2.2.1,ta4.2.2.2.2.2.2.2.2.2)))
   else none
  else
  some (.inr (.inl ())))
 | (.inr sa)=>(
  if sa.1 < ((t5).length:Int) then
   if 0≤sa.1∧sa.1 < ((t5).length:Int) then
   ((nth (t5) (Int.toNat sa.1)).bind Ze).bind fun ta3 =>
   (Qz n ta3.1 ta3.2.1 ta3.2.2.1 ta3.2.2.2.1 ta3.2.2.2.2 sa.2.1 sa.2.2.1 sa.2.2.2.1 sa.2.2.2.2.1 sa.2.2.2.2.2.1 sa.2.2.2.2.2.2.1 sa.2.2.2.2.2.2.2.1 sa.2.2.2.2.2.2.2.2.1 sa.2.2.2.2.2.2.2.2.2.1 sa.2.2.2.2.2.2.2.2.2.2).bind fun ta4 =>
   if Qh (sa.1+1) then
   some (.inl (.inr ((sa.1+1),ta4.1,ta4.2.1,ta4.2.2.1,ta4.2.2.2.1,ta4.2.2.2.2.1,ta4.2.2.2.2.2.1,ta4.2.2.2.2.2.2.1,ta4.2.2.2.2.2.2.2.1,ta4.2.2.2.2.2.2.2.2.1,ta4.2.2.2.2.2.2.2.2.2)))
   else none
   else none
  else
  some (.inr (.inr (sa.2.1,sa.2.2.1,sa.2.2.2.1,sa.2.2.2.2.1,sa.2.2.2.2.2.1,sa.2.2.2.2.2.2.1,sa.2.2.2.2.2.2.2.1,sa.2.2.2.2.2.2.2.2.1,sa.2.2.2.2.2.2.2.2.2.1,sa.2.2.2.2.2.2.2.2.2.2))))
noncomputable def Qgh (a1:Int) (t1:Int×Int×jVj×jVj×jRj) (t5:jVj):Lp ((Unit)⊕(Int×jRj)) ((Unit)⊕(jRj)):=⟨fun
 | (.inl sa)=>[(2,.ptr 85 0 0 0 0),(3,.ptr 86 0 0 0 0),(6,.own 47 0),(7,.d (I ((t5).length:Int))),(8,.d (I 0))]
 | (.inr sa)=>[(2,.ptr 85 0 0 0 0),(3,.ptr 86 0 0 0 0),(6,.own 47 0),(7,.d (I ((t5).length:Int))),(8,.d (I sa.1))],fun
 | (.inl sa)=>[(0,.box (.d (I a1))),(1,.box (.d (.agg [I 0,I 0,B false,B false,I 0,I 0,I 0,.lst true 0 [],.lst true 0 [],.lst true 0 []]))),(12,.box (.agg [.own 13 0,.own 14 0,.d (I t1.2.2.2.2.1),.d (I t1.2.2.2.2.2.1),.d (B t1.2.2.2.2.2.2.1),.d (B t1.2.2.2.2.2.2.2.1),.d (I t1.2.2.2.2.2.2.2.2.1),.d (I t1.2.2.2.2.2.2.2.2.2.1),.d (I t1.2.2.2.2.2.2.2.2.2.2.1),.own 22 0,.own 23 0,.own 24 0])),(13,.row 0 5 t1.2.2.1),(14,.row 0 5 t1.2.2.2.1),(22,.row 0 1 t1.2.2.2.2.2.2.2.2.2.2.2.1),(23,.row 0 6 t1.2.2.2.2.2.2.2.2.2.2.2.2.1),(24,.row 0 7 t1.2.2.2.2.2.2.2.2.2.2.2.2.2),(47,.row 0 5 t5),(85,.box (.d (.agg [I 0,I 0,B false,B false,I 0,I 0,I 0,.lst true 0 [],.lst true 0 [],.lst true 0 []]))),(86,.box (.d (.agg [I 0,I 0,B false,B false,I 0,I 0,I 0,.lst true 0 [],.lst true 0 [],.lst true 0 []])))]
 | (.inr sa)=>[(0,.box (.d (I a1))),(1,.box (.d (.agg [I 0,I 0,B false,B false,I 0,I 0,I 0,.lst true 0 [],.lst true 0 [],.lst true 0 []]))),(12,.box (.agg [.own 13 0,.own 14 0,.d (I t1.2.2.2.2.1),.d (I t1.2.2.2.2.2.1),.d (B t1.2.2.2.2.2.2.1),.d (B t1.2.2.2.2.2.2.2.1),.d (I t1.2.2.2.2.2.2.2.2.1),.d (I t1.2.2.2.2.2.2.2.2.2.1),.d (I t1.2.2.2.2.2.2.2.2.2.2.1),.own 22 0,.own 23 0,.own 24 0])),(13,.row 0 5 t1.2.2.1),(14,.row 0 5 t1.2.2.2.1),(22,.row 0 1 t1.2.2.2.2.2.2.2.2.2.2.2.1),(23,.row 0 6 t1.2.2.2.2.2.2.2.2.2.2.2.2.1),(24,.row 0 7 t1.2.2.2.2.2.2.2.2.2.2.2.2.2),(47,.row 0 5 t5),(85,.box (.d (.agg [I 0,I 0,B false,B false,I 0,I 0,I 0,.lst true 0 [],.lst true 0 [],.lst true 0 []]))),(86,.box (.agg [.d (I sa.2.1),.d (I sa.2.2.1),.d (B sa.2.2.2.1),.d (B sa.2.2.2.2.1),.d (I sa.2.2.2.2.2.1),.d (I sa.2.2.2.2.2.2.1),.d (I sa.2.2.2.2.2.2.2.1),.own 104 0,.own 105 0,.own 106 0])),(104,.row 0 1 sa.2.2.2.2.2.2.2.2.1),(105,.row 0 6 sa.2.2.2.2.2.2.2.2.2.1),(106,.row 0 7 sa.2.2.2.2.2.2.2.2.2.2)],fun _=>(.exit 0),fun _=>[(2,.ptr 85 0 0 0 0),(3,.ptr 86 0 0 0 0)],fun
 | (.inl e)=>[(0,.box (.d (I a1))),(1,.box (.d (.agg [I 0,I 0,B false,B false,I 0,I 0,I 0,.lst true 0 [],.lst true 0 [],.lst true 0 []]))),(12,.box (.agg [.own 13 0,.own 14 0,.d (I t1.2.2.2.2.1),.d (I t1.2.2.2.2.2.1),.d (B t1.2.2.2.2.2.2.1),.d (B t1.2.2.2.2.2.2.2.1),.d (I t1.2.2.2.2.2.2.2.2.1),.d (I t1.2.2.2.2.2.2.2.2.2.1),.d (I t1.2.2.2.2.2.2.2.2.2.2.1),.own 22 0,.own 23 0,.own 24 0])),(13,.row 0 5 t1.2.2.1),(14,.row 0 5 t1.2.2.2.1),(22,.row 0 1 t1.2.2.2.2.2.2.2.2.2.2.2.1),(23,.row 0 6 t1.2.2.2.2.2.2.2.2.2.2.2.2.1),(24,.row 0 7 t1.2.2.2.2.2.2.2.2.2.2.2.2.2),(47,.row 0 5 t5),(85,.box (.d (.agg [I 0,I 0,B false,B false,I 0,I 0,I 0,.lst true 0 [],.lst true 0 [],.lst true 0 []]))),(86,.box (.d (.agg [I 0,I 0,B false,B false,I 0,I 0,I 0,.lst true 0 [],.lst true 0 [],.lst true 0 []])))]
 | (.inr e)=>[(0,.box (.d (I a1))),(1,.box (.d (.agg [I 0,I 0,B false,B false,I 0,I 0,I 0,.lst true 0 [],.lst true 0 [],.lst true 0 []]))),(12,.box (.agg [.own 13 0,.own 14 0,.d (I t1.2.2.2.2.1),.d (I t1.2.2.2.2.2.1),.d (B t1.2.2.2.2.2.2.1),.d (B t1.2.2.2.2.2.2.2.1),.d (I t1.2.2.2.2.2.2.2.2.1),.d (I t1.2.2.2.2.2.2.2.2.2.1),.d (I t1.2.2.2.2.2.2.2.2.2.2.1),.own 22 0,.own 23 0,.own 24 0])),(13,.row 0 5 t1.2.2.1),(14,.row 0 5 t1.2.2.2.1),(22,.row 0 1 t1.2.2.2.2.2.2.2.2.2.2.2.1),(23,.row 0 6 t1.2.2.2.2.2.2.2.2.2.2.2.2.1),(24,.row 0 7 t1.2.2.2.2.2.2.2.2.2.2.2.2.2),(47,.row 0 5 t5),(85,.box (.d (.agg [I 0,I 0,B false,B false,I 0,I 0,I 0,.lst true 0 [],.lst true 0 [],.lst true 0 []]))),(86,.box (.agg [.d (I e.1),.d (I e.2.1),.d (B e.2.2.1),.d (B e.2.2.2.1),.d (I e.2.2.2.2.1),.d (I e.2.2.2.2.2.1),.d (I e.2.2.2.2.2.2.1),.own 104 0,.own 105 0,.own 106 0])),(104,.row 0 1 e.2.2.2.2.2.2.2.1),(105,.row 0 6 e.2.2.2.2.2.2.2.2.1),(106,.row 0 7 e.2.2.2.2.2.2.2.2.2)]⟩
theorem QfC {n:Nat} {a1:Int} {t1:Int×Int×jVj×jVj×jRj} {t5:jVj} (sa:(Unit)⊕(Int×jRj)) (r) (h:Qe8 n a1 t1 t5 sa=some r):Rl (ZJ cx.P 109 0) 16 85 false (Qgh a1 t1 t5) sa r:=by
 unfold Qe8 at h
 rcases sa with sa | sa
 ·rcases io h with ⟨ha1,h⟩ | ⟨ha1,h⟩
  ·obtain ⟨ha2,h⟩:=gd h;obtain ⟨ta3,ha3,h⟩:=bo h;obtain ⟨ta4,ha4,h⟩:=bo h
   cases h
   exact rn 90 [b1,b1,.el (QP ta3),.obj (some 86) (.d (.tup [])) (QJ ta4.1 ta4.2.1 ta4.2.2.1 ta4.2.2.2.1 ta4.2.2.2.2.1 ta4.2.2.2.2.2.1 ta4.2.2.2.2.2.2.1 ta4.2.2.2.2.2.2.2.1 ta4.2.2.2.2.2.2.2.2.1 ta4.2.2.2.2.2.2.2.2.2) []] [] [2,3,6,7,8] [0,1,12,13,14,22,23,24,47,85,86,104,105,106] (Qa ((by unfold Qh;omega):Qh 1) (Qa (Uh ha4) (Qa (QX Ql ha3) (Qa ha2 (Qa (jDj ha1) QL)))))
  cases h
  exact rx 90 [b0] [] [2,3] [0,1,12,13,14,22,23,24,47,85,86] (Qa (jEj ha1) QL)
 ·rcases io h with ⟨ha1,h⟩ | ⟨ha1,h⟩
  ·obtain ⟨ha2,h⟩:=gd h;obtain ⟨ta3,ha3,h⟩:=bo h;obtain ⟨ta4,ha4,h⟩:=bo h;obtain ⟨ha5,h⟩:=gd h
   cases h
   exact rn 107 [b1,b1,.el (QP ta3),.obj (some 86) (.d (.tup [])) (QJ ta4.1 ta4.2.1 ta4.2.2.1 ta4.2.2.2.1 ta4.2.2.2.2.1 ta4.2.2.2.2.2.1 ta4.2.2.2.2.2.2.1 ta4.2.2.2.2.2.2.2.1 ta4.2.2.2.2.2.2.2.2.1 ta4.2.2.2.2.2.2.2.2.2) []] [] [2,3,6,7,8] [0,1,12,13,14,22,23,24,47,85,86,104,105,106] (Qa ha5 (Qa (Uh ha4) (Qa (QX Ql ha3) (Qa ha2 (Qa (jDj ha1) QL)))))
  cases h
  exact rx 107 [b0] [] [2,3] [0,1,12,13,14,22,23,24,47,85,86,104,105,106] (Qa (jEj ha1) QL)
def Qfm (n:Nat) (a0:jVj) (a1:Int):Option (Int×Int×Bool×Bool×Int×Int×Int×jVj×jVj×jVj×Int) :=
 (Q6 n a0).bind fun t1 =>
 (ZE n a1 0 999999999).bind fun t2 =>
 (Qo n ([I t1.2.1,I t2])).bind fun t3 =>
 if t3=0 then
  (Q2 (Qe9 n a1 t1) n (0,[])).bind fun t5 =>
  (Q2 (Qe8 n a1 t1 t5) n (.inl ())).bind fun t6=>match t6 with
   | (.inl t6)=>(
    some (0,0,false,false,0,0,0,[],[],[],0))
   | (.inr t6)=>(
    some (t6.1,t6.2.1,t6.2.2.1,t6.2.2.2.1,t6.2.2.2.2.1,t6.2.2.2.2.2.1,t6.2.2.2.2.2.2.1,t6.2.2.2.2.2.2.2.1,t6.2.2.2.2.2.2.2.2.1,t6.2.2.2.2.2.2.2.2.2,0))
 else
 some (0,0,false,false,0,0,0,[],[],[],t3)
theorem QgA {n:Nat} {a0:jVj} {a1:Int} {r:Int×Int×Bool×Bool×Int×Int×Int×jVj×jVj×jVj×Int} (h:Qfm n a0 a1=some r):Computes cx 53 [.lst false 5 a0,I a1] (.tup [.agg [I r.1,I r.2.1,B r.2.2.1,B r.2.2.2.1,I r.2.2.2.2.1,I r.2.2.2.2.2.1,I r.2.2.2.2.2.2.1,.lst false 1 r.2.2.2.2.2.2.2.1,.lst false 6 r.2.2.2.2.2.2.2.2.1,.lst false 7 r.2.2.2.2.2.2.2.2.2.1],I r.2.2.2.2.2.2.2.2.2.2]):=by
 unfold Qfm at h
 obtain ⟨t1,h1,h⟩:=bo h;obtain ⟨t2,h2,h⟩:=bo h;obtain ⟨t3,h3,h⟩:=bo h
 have q:=Qa (((Qx h3).le (.cons (.full _ _ _) (.nil)) (.refl _)):Computes cx 67 [.lst true 1 [I t1.2.1,I t2]] (I t3)) (Qa (WK h2) (Qa (We h1) QL))
 let o (l:List Orc):=.obj none (.tup [.ptr 0 0 0 0 0,.d (I t1.1),.d (I t1.2.1)]) (Qb t1.2.2.1 t1.2.2.2.1 t1.2.2.2.2.1 t1.2.2.2.2.2.1 t1.2.2.2.2.2.2.1 t1.2.2.2.2.2.2.2.1 t1.2.2.2.2.2.2.2.2.1 t1.2.2.2.2.2.2.2.2.2.1 t1.2.2.2.2.2.2.2.2.2.2.1 t1.2.2.2.2.2.2.2.2.2.2.2.1 t1.2.2.2.2.2.2.2.2.2.2.2.2.1 t1.2.2.2.2.2.2.2.2.2.2.2.2.2) []::.ret (I t2)::.ret (I t3)::l
 rcases io h with ⟨h4,h⟩ | ⟨h4,h⟩
 ·obtain ⟨t5,h5,h⟩:=bo h
  have q:=Qa (QH Qgc h5) (Qa (nef h4) q)
  let o l:=o (b0::b1::.lp [5,5] [1,5,8,9,10] [0,1,12,13,14,22,23,24,47] (.exit 0) [(5,.own 47 0)] [(0,.box (.d (I a1))),(1,.box (.d (.agg [I 0,I 0,B false,B false,I 0,I 0,I 0,.lst true 0 [],.lst true 0 [],.lst true 0 []]))),(12,.box (.agg [.own 13 0,.own 14 0,.d (I t1.2.2.2.2.1),.d (I t1.2.2.2.2.2.1),.d (B t1.2.2.2.2.2.2.1),.d (B t1.2.2.2.2.2.2.2.1),.d (I t1.2.2.2.2.2.2.2.2.1),.d (I t1.2.2.2.2.2.2.2.2.2.1),.d (I t1.2.2.2.2.2.2.2.2.2.2.1),.own 22 0,.own 23 0,.own 24 0])),(13,.row 0 5 t1.2.2.1),(14,.row 0 5 t1.2.2.2.1),(22,.row 0 1 t1.2.2.2.2.2.2.2.2.2.2.2.1),(23,.row 0 6 t1.2.2.2.2.2.2.2.2.2.2.2.2.1),(24,.row 0 7 t1.2.2.2.2.2.2.2.2.2.2.2.2.2),(47,.row 0 5 t5)] 83::b1::l)
  obtain ⟨t6,h6,h⟩:=bo h
  rcases t6 with t6 | t6
  ·cases h
   exact (rf (r:=.tup [.agg [I 0,I 0,B false,B false,I 0,I 0,I 0,.lst true 0 [],.lst true 0 [],.lst true 0 []],I 0]) (o [.lp [] [2,3,6,7,8] [0,1,12,13,14,22,23,24,47,85,86] (.exit 0) [(2,.ptr 85 0 0 0 0),(3,.ptr 86 0 0 0 0)] [(0,.box (.d (I a1))),(1,.box (.d (.agg [I 0,I 0,B false,B false,I 0,I 0,I 0,.lst true 0 [],.lst true 0 [],.lst true 0 []]))),(12,.box (.agg [.own 13 0,.own 14 0,.d (I t1.2.2.2.2.1),.d (I t1.2.2.2.2.2.1),.d (B t1.2.2.2.2.2.2.1),.d (B t1.2.2.2.2.2.2.2.1),.d (I t1.2.2.2.2.2.2.2.2.1),.d (I t1.2.2.2.2.2.2.2.2.2.1),.d (I t1.2.2.2.2.2.2.2.2.2.2.1),.own 22 0,.own 23 0,.own 24 0])),(13,.row 0 5 t1.2.2.1),(14,.row 0 5 t1.2.2.2.1),(22,.row 0 1 t1.2.2.2.2.2.2.2.2.2.2.2.1),(23,.row 0 6 t1.2.2.2.2.2.2.2.2.2.2.2.2.1),(24,.row 0 7 t1.2.2.2.2.2.2.2.2.2.2.2.2.2),(47,.row 0 5 t5),(85,.box (.d (.agg [I 0,I 0,B false,B false,I 0,I 0,I 0,.lst true 0 [],.lst true 0 [],.lst true 0 []]))),(86,.box (.d (.agg [I 0,I 0,B false,B false,I 0,I 0,I 0,.lst true 0 [],.lst true 0 [],.lst true 0 []])))] 137]) (Qa (QH QfC h6) q)).le (LEs.refl _) (.tups (.cons (.aggs (.cons (.refl _) (.cons (.refl _) (.cons (.refl _) (.cons (.refl _) (.cons (.refl _) (.cons (.refl _) (.cons (.refl _) (.cons (.nilF) (.cons (.nilF) (.cons (.nilF) (.nil)))))))))))) (.cons (.refl _) (.nil))))
  cases h
  exact rf (o [.lp [] [2,3,6,7,8] [0,1,12,13,14,22,23,24,47,85,86] (.exit 0) [(2,.ptr 85 0 0 0 0),(3,.ptr 86 0 0 0 0)] [(0,.box (.d (I a1))),(1,.box (.d (.agg [I 0,I 0,B false,B false,I 0,I 0,I 0,.lst true 0 [],.lst true 0 [],.lst true 0 []]))),(12,.box (.agg [.own 13 0,.own 14 0,.d (I t1.2.2.2.2.1),.d (I t1.2.2.2.2.2.1),.d (B t1.2.2.2.2.2.2.1),.d (B t1.2.2.2.2.2.2.2.1),.d (I t1.2.2.2.2.2.2.2.2.1),.d (I t1.2.2.2.2.2.2.2.2.2.1),.d (I t1.2.2.2.2.2.2.2.2.2.2.1),.own 22 0,.own 23 0,.own 24 0])),(13,.row 0 5 t1.2.2.1),(14,.row 0 5 t1.2.2.2.1),(22,.row 0 1 t1.2.2.2.2.2.2.2.2.2.2.2.1),(23,.row 0 6 t1.2.2.2.2.2.2.2.2.2.2.2.2.1),(24,.row 0 7 t1.2.2.2.2.2.2.2.2.2.2.2.2.2),(47,.row 0 5 t5),(85,.box (.d (.agg [I 0,I 0,B false,B false,I 0,I 0,I 0,.lst true 0 [],.lst true 0 [],.lst true 0 []]))),(86,.box (.agg [.d (I t6.1),.d (I t6.2.1),.d (B t6.2.2.1),.d (B t6.2.2.2.1),.d (I t6.2.2.2.2.1),.d (I t6.2.2.2.2.2.1),.d (I t6.2.2.2.2.2.2.1),.own 104 0,.own 105 0,.own 106 0])),(104,.row 0 1 t6.2.2.2.2.2.2.2.1),(105,.row 0 6 t6.2.2.2.2.2.2.2.2.1),(106,.row 0 7 t6.2.2.2.2.2.2.2.2.2)] 137]) (Qa (QH QfC h6) q)
 cases h
 exact (rf (r:=.tup [.agg [I 0,I 0,B false,B false,I 0,I 0,I 0,.lst true 0 [],.lst true 0 [],.lst true 0 []],I t3]) (o [b1]) (Qa (net h4) q)).le (LEs.refl _) (.tups (.cons (.aggs (.cons (.refl _) (.cons (.refl _) (.cons (.refl _) (.cons (.refl _) (.cons (.refl _) (.cons (.refl _) (.cons (.refl _) (.cons (.nilF) (.cons (.nilF) (.cons (.nilF) (.nil)))))))))))) (.cons (.refl _) (.nil))))
def QeY (n:Nat) (a1:Int) (t1:jVj×jVj×Int×Int) (sa:(Int)⊕(Int×jRj)):Option (((Int)⊕(Int×jRj))⊕((Unit)⊕(jRj))):=match sa with
 | (.inl sa)=>(
  if sa < ((t1.1).length:Int) then
   (el Ze t1.1 sa).bind fun ta2 =>
   (el Vt ta2.2.2.2.1 0).bind fun ta3 =>
   if ta3≤a1 then
    if Qh (sa+1) then
    if ZT (nth (t1.2.1) (Int.toNat (sa+1)))=true then
     if (0:Int)≤(sa+1) then
     some (.inl (.inl (sa+1)))
     else none
    else
    (el Vy t1.2.1 (sa+1)).bind fun ta7 =>
    some (.inl (.inr ((sa+1),ta7.1,ta7.2.1,ta7.2.2.1,ta7.2.2.2.1,ta7.2.2.2.2.1,ta7.2.2.2.2.2.1,ta7.2.2.2.2.2.2.1,ta7.2.2.2.2.2.2.2.1,ta7.2.2.2.2.2.2.2.2.1,ta7.2.2.2.2.2.2.2.2.2)))
    else none
   else
   if Qh (sa+1) then
   some (.inl (.inl (sa+1)))
   else none
  else
  some (.inr (.inl ())))
 | (.inr sa)=>(
  if sa.1 < ((t1.1).length:Int) then
   (el Ze t1.1 sa.1).bind fun ta2 =>
   (el Vt ta2.2.2.2.1 0).bind fun ta3 =>
   if ta3≤a1 then
    if Qh (sa.1+1) then
    if ZT (nth (t1.2.1) (Int.toNat (sa.1+1)))=true then
     if (0:Int)≤(sa.1+1) then
     some (.inl (.inl (sa.1+1)))
     else none
    else
    (el Vy t1.2.1 (sa.1+1)).bind fun ta7 =>
    some (.inl (.inr ((sa.1+1),ta7.1,ta7.2.1,ta7.2.2.1,ta7.2.2.2.1,ta7.2.2.2.2.1,ta7.2.2.2.2.2.1,ta7.2.2.2.2.2.2.1,ta7.2.2.2.2.2.2.2.1,ta7.2.2.2.2.2.2.2.2.1,ta7.2.2.2.2.2.2.2.2.2)))
    else none
   else
   if Qh (sa.1+1) then
   some (.inl (.inr ((sa.1+1),sa.2.1,sa.2.2.1,sa.2.2.2.1,sa.2.2.2.2.1,sa.2.2.2.2.2.1,sa.2.2.2.2.2.2.1,sa.2.2.2.2.2.2.2.1,sa.2.2.2.2.2.2.2.2.1,sa.2.2.2.2.2.2.2.2.2.1,sa.2.2.2.2.2.2.2.2.2.2)))
   else none
  else
  some (.inr (.inr (sa.2.1,sa.2.2.1,sa.2.2.2.1,sa.2.2.2.2.1,sa.2.2.2.2.2.1,sa.2.2.2.2.2.2.1,sa.2.2.2.2.2.2.2.1,sa.2.2.2.2.2.2.2.2.1,sa.2.2.2.2.2.2.2.2.2.1,sa.2.2.2.2.2.2.2.2.2.2))))
noncomputable def Qgg (a1:Int) (t1:jVj×jVj×Int×Int):Lp ((Int)⊕(Int×jRj)) ((Unit)⊕(jRj)):=⟨fun
 | (.inl sa)=>[(1,.d (I a1)),(4,.ptr 0 0 0 0 0),(6,.d (.lst false 5 t1.1)),(7,.d (.lst false 10 t1.2.1)),(10,.ptr 20 0 0 0 0),(11,.d (I sa))]
 | (.inr sa)=>[(1,.d (I a1)),(4,.ptr 0 0 0 0 0),(6,.d (.lst false 5 t1.1)),(7,.d (.lst false 10 t1.2.1)),(10,.ptr 20 0 0 0 0),(11,.d (I sa.1))],fun
 | (.inl sa)=>[(0,.box (.d (.agg [I 0,I 0,B false,B false,I 0,I 0,I 0,.lst true 0 [],.lst true 0 [],.lst true 0 []]))),(20,.box (.d (.agg [I 0,I 0,B false,B false,I 0,I 0,I 0,.lst true 0 [],.lst true 0 [],.lst true 0 []])))]
 | (.inr sa)=>[(0,.box (.d (.agg [I 0,I 0,B false,B false,I 0,I 0,I 0,.lst true 0 [],.lst true 0 [],.lst true 0 []]))),(20,.box (.d (.agg [I sa.2.1,I sa.2.2.1,B sa.2.2.2.1,B sa.2.2.2.2.1,I sa.2.2.2.2.2.1,I sa.2.2.2.2.2.2.1,I sa.2.2.2.2.2.2.2.1,.lst false 1 sa.2.2.2.2.2.2.2.2.1,.lst false 6 sa.2.2.2.2.2.2.2.2.2.1,.lst false 7 sa.2.2.2.2.2.2.2.2.2.2])))],fun _=>(.exit 0),fun _=>[(4,.ptr 0 0 0 0 0),(10,.ptr 20 0 0 0 0)],fun
 | (.inl e)=>[(0,.box (.d (.agg [I 0,I 0,B false,B false,I 0,I 0,I 0,.lst true 0 [],.lst true 0 [],.lst true 0 []]))),(20,.box (.d (.agg [I 0,I 0,B false,B false,I 0,I 0,I 0,.lst true 0 [],.lst true 0 [],.lst true 0 []])))]
 | (.inr e)=>[(0,.box (.d (.agg [I 0,I 0,B false,B false,I 0,I 0,I 0,.lst true 0 [],.lst true 0 [],.lst true 0 []]))),(20,.box (.d (.agg [I e.1,I e.2.1,B e.2.2.1,B e.2.2.2.1,I e.2.2.2.2.1,I e.2.2.2.2.2.1,I e.2.2.2.2.2.2.1,.lst false 1 e.2.2.2.2.2.2.2.1,.lst false 6 e.2.2.2.2.2.2.2.2.1,.lst false 7 e.2.2.2.2.2.2.2.2.2])))]⟩
theorem QfB {n:Nat} {a1:Int} {t1:jVj×jVj×Int×Int} (sa:(Int)⊕(Int×jRj)) (r) (h:QeY n a1 t1 sa=some r):Rl (ZJ cx.P 54 0) 50 0 false (Qgg a1 t1) sa r:=by
 unfold QeY at h
 rcases sa with sa | sa
 ·rcases io h with ⟨ha1,h⟩ | ⟨ha1,h⟩
  ·obtain ⟨ta2,ha2,h⟩:=bo h;obtain ⟨ta3,ha3,h⟩:=bo h
   have q:=allE Qi ha3 (allE Ql ha2 (Qa (jDj ha1) QL))
   let o (l:List Orc):=b1::.el (QP ta2)::.el (Q3 ta3)::l
   rcases io h with ⟨ha4,h⟩ | ⟨ha4,h⟩
   ·obtain ⟨ha5,h⟩:=gd h
    have q:=Qa ha5 (Qa (jDj ha4) q)
    rcases io h with ⟨ha6,h⟩ | ⟨ha6,h⟩
    ·obtain ⟨ha7,h⟩:=gd h
     cases h
     exact rn 23 (o [b1,.el (.agg [I 0,I 0,B false,B false,I 0,I 0,I 0,.lst true 0 [],.lst true 0 [],.lst true 0 []])]) [] [1,4,6,7,10,11] [0,20] (Qa ha5 (Qa ha7 (Qa ((Uu ha6):nth (t1.2.1) (Int.toNat (sa+1))=some (.agg [I 0,I 0,B false,B false,I 0,I 0,I 0,.lst true 0 [],.lst true 0 [],.lst true 0 []])) q)))
    obtain ⟨ta7,ha7,h⟩:=bo h
    cases h
    exact rn 23 (o [b1,.el (Vn ta7)]) [] [1,4,6,7,10,11] [0,20] (Qa ha5 (allE Vx ha7 q))
   obtain ⟨ha5,h⟩:=gd h
   cases h
   exact rn 23 (o [b0]) [] [1,4,6,7,10,11] [0,20] (Qa ha5 (Qa (jEj ha4) q))
  cases h
  exact rx 23 [b0] [] [4,10] [0,20] (Qa (jEj ha1) QL)
 ·rcases io h with ⟨ha1,h⟩ | ⟨ha1,h⟩
  ·obtain ⟨ta2,ha2,h⟩:=bo h;obtain ⟨ta3,ha3,h⟩:=bo h
   have q:=allE Qi ha3 (allE Ql ha2 (Qa (jDj ha1) QL))
   let o (l:List Orc):=b1::.el (QP ta2)::.el (Q3 ta3)::l
   rcases io h with ⟨ha4,h⟩ | ⟨ha4,h⟩
   ·obtain ⟨ha5,h⟩:=gd h
    have q:=Qa ha5 (Qa (jDj ha4) q)
    rcases io h with ⟨ha6,h⟩ | ⟨ha6,h⟩
    ·obtain ⟨ha7,h⟩:=gd h
     cases h
     exact rn 23 (o [b1,.el (.agg [I 0,I 0,B false,B false,I 0,I 0,I 0,.lst true 0 [],.lst true 0 [],.lst true 0 []])]) [] [1,4,6,7,10,11] [0,20] (Qa ha5 (Qa ha7 (Qa ((Uu ha6):nth (t1.2.1) (Int.toNat (sa.1+1))=some (.agg [I 0,I 0,B false,B false,I 0,I 0,I 0,.lst true 0 [],.lst true 0 [],.lst true 0 []])) q)))
    obtain ⟨ta7,ha7,h⟩:=bo h
    cases h
    exact rn 23 (o [b1,.el (Vn ta7)]) [] [1,4,6,7,10,11] [0,20] (Qa ha5 (allE Vx ha7 q))
   obtain ⟨ha5,h⟩:=gd h
   cases h
   exact rn 23 (o [b0]) [] [1,4,6,7,10,11] [0,20] (Qa ha5 (Qa (jEj ha4) q))
  cases h
  exact rx 23 [b0] [] [4,10] [0,20] (Qa (jEj ha1) QL)
def Qfo (n:Nat) (a1:Int) (t1:jVj×jVj×Int×Int) (sa:(Int×jRj)⊕(Int)):Option (((Int×jRj)⊕(Int))⊕((jRj)⊕(Unit))):=match sa with
 | (.inl sa)=>(
  if sa.1 < ((t1.1).length:Int) then
   (el Ze t1.1 sa.1).bind fun ta2 =>
   (el Vt ta2.2.2.2.1 0).bind fun ta3 =>
   if ta3≤a1 then
    if Qh (sa.1+1) then
    if ZT (nth (t1.2.1) (Int.toNat (sa.1+1)))=true then
     if (0:Int)≤(sa.1+1) then
     some (.inl (.inr (sa.1+1)))
     else none
    else
    (el Vy t1.2.1 (sa.1+1)).bind fun ta7 =>
    some (.inl (.inl ((sa.1+1),ta7.1,ta7.2.1,ta7.2.2.1,ta7.2.2.2.1,ta7.2.2.2.2.1,ta7.2.2.2.2.2.1,ta7.2.2.2.2.2.2.1,ta7.2.2.2.2.2.2.2.1,ta7.2.2.2.2.2.2.2.2.1,ta7.2.2.2.2.2.2.2.2.2)))
    else none
   else
   if Qh (sa.1+1) then
   some (.inl (.inl ((sa.1+1),sa.2.1,sa.2.2.1,sa.2.2.2.1,sa.2.2.2.2.1,sa.2.2.2.2.2.1,sa.2.2.2.2.2.2.1,sa.2.2.2.2.2.2.2.1,sa.2.2.2.2.2.2.2.2.1,sa.2.2.2.2.2.2.2.2.2.1,sa.2.2.2.2.2.2.2.2.2.2)))
   else none
  else
  some (.inr (.inl (sa.2.1,sa.2.2.1,sa.2.2.2.1,sa.2.2.2.2.1,sa.2.2.2.2.2.1,sa.2.2.2.2.2.2.1,sa.2.2.2.2.2.2.2.1,sa.2.2.2.2.2.2.2.2.1,sa.2.2.2.2.2.2.2.2.2.1,sa.2.2.2.2.2.2.2.2.2.2))))
 | (.inr sa)=>(
  if sa < ((t1.1).length:Int) then
   (el Ze t1.1 sa).bind fun ta2 =>
   (el Vt ta2.2.2.2.1 0).bind fun ta3 =>
   if ta3≤a1 then
    if Qh (sa+1) then
    if ZT (nth (t1.2.1) (Int.toNat (sa+1)))=true then
     if (0:Int)≤(sa+1) then
     some (.inl (.inr (sa+1)))
     else none
    else
    (el Vy t1.2.1 (sa+1)).bind fun ta7 =>
    some (.inl (.inl ((sa+1),ta7.1,ta7.2.1,ta7.2.2.1,ta7.2.2.2.1,ta7.2.2.2.2.1,ta7.2.2.2.2.2.1,ta7.2.2.2.2.2.2.1,ta7.2.2.2.2.2.2.2.1,ta7.2.2.2.2.2.2.2.2.1,ta7.2.2.2.2.2.2.2.2.2)))
    else none
   else
   if Qh (sa+1) then
   some (.inl (.inr (sa+1)))
   else none
  else
  some (.inr (.inr ())))
noncomputable def Qgf (a1:Int) (t1:jVj×jVj×Int×Int):Lp ((Int×jRj)⊕(Int)) ((jRj)⊕(Unit)):=⟨fun
 | (.inl sa)=>[(1,.d (I a1)),(4,.ptr 0 0 0 0 0),(6,.d (.lst false 5 t1.1)),(7,.d (.lst false 10 t1.2.1)),(10,.ptr 20 0 0 0 0),(11,.d (I sa.1))]
 | (.inr sa)=>[(1,.d (I a1)),(4,.ptr 0 0 0 0 0),(6,.d (.lst false 5 t1.1)),(7,.d (.lst false 10 t1.2.1)),(10,.ptr 20 0 0 0 0),(11,.d (I sa))],fun
 | (.inl sa)=>[(0,.box (.d (.agg [I 0,I 0,B false,B false,I 0,I 0,I 0,.lst true 0 [],.lst true 0 [],.lst true 0 []]))),(20,.box (.d (.agg [I sa.2.1,I sa.2.2.1,B sa.2.2.2.1,B sa.2.2.2.2.1,I sa.2.2.2.2.2.1,I sa.2.2.2.2.2.2.1,I sa.2.2.2.2.2.2.2.1,.lst false 1 sa.2.2.2.2.2.2.2.2.1,.lst false 6 sa.2.2.2.2.2.2.2.2.2.1,.lst false 7 sa.2.2.2.2.2.2.2.2.2.2])))]
 | (.inr sa)=>[(0,.box (.d (.agg [I 0,I 0,B false,B false,I 0,I 0,I 0,.lst true 0 [],.lst true 0 [],.lst true 0 []]))),(20,.box (.d (.agg [I 0,I 0,B false,B false,I 0,I 0,I 0,.lst true 0 [],.lst true 0 [],.lst true 0 []])))],fun _=>(.exit 0),fun _=>[(4,.ptr 0 0 0 0 0),(10,.ptr 20 0 0 0 0)],fun
 | (.inl e)=>[(0,.box (.d (.agg [I 0,I 0,B false,B false,I 0,I 0,I 0,.lst true 0 [],.lst true 0 [],.lst true 0 []]))),(20,.box (.d (.agg [I e.1,I e.2.1,B e.2.2.1,B e.2.2.2.1,I e.2.2.2.2.1,I e.2.2.2.2.2.1,I e.2.2.2.2.2.2.1,.lst false 1 e.2.2.2.2.2.2.2.1,.lst false 6 e.2.2.2.2.2.2.2.2.1,.lst false 7 e.2.2.2.2.2.2.2.2.2])))]
 | (.inr e)=>[(0,.box (.d (.agg [I 0,I 0,B false,B false,I 0,I 0,I 0,.lst true 0 [],.lst true 0 [],.lst true 0 []]))),(20,.box (.d (.agg [I 0,I 0,B false,B false,I 0,I 0,I 0,.lst true 0 [],.lst true 0 [],.lst true 0 []])))]⟩
theorem QfA {n:Nat} {a1:Int} {t1:jVj×jVj×Int×Int} (sa:(Int×jRj)⊕(Int)) (r) (h:Qfo n a1 t1 sa=some r):Rl (ZJ cx.P 54 0) 50 0 false (Qgf a1 t1) sa r:=by
 unfold Qfo at h
 rcases sa with sa | sa
 ·rcases io h with ⟨ha1,h⟩ | ⟨ha1,h⟩
  ·obtain ⟨ta2,ha2,h⟩:=bo h;obtain ⟨ta3,ha3,h⟩:=bo h
   have q:=allE Qi ha3 (allE Ql ha2 (Qa (jDj ha1) QL))
   let o (l:List Orc):=b1::.el (QP ta2)::.el (Q3 ta3)::l
   rcases io h with ⟨ha4,h⟩ | ⟨ha4,h⟩
   ·obtain ⟨ha5,h⟩:=gd h
    have q:=Qa ha5 (Qa (jDj ha4) q)
    rcases io h with ⟨ha6,h⟩ | ⟨ha6,h⟩
    ·obtain ⟨ha7,h⟩:=gd h
     cases h
     exact rn 23 (o [b1,.el (.agg [I 0,I 0,B false,B false,I 0,I 0,I 0,.lst true 0 [],.lst true 0 [],.lst true 0 []])]) [] [1,4,6,7,10,11] [0,20] (Qa ha5 (Qa ha7 (Qa ((Uu ha6):nth (t1.2.1) (Int.toNat (sa.1+1))=some (.agg [I 0,I 0,B false,B false,I 0,I 0,I 0,.lst true 0 [],.lst true 0 [],.lst true 0 []])) q)))
    obtain ⟨ta7,ha7,h⟩:=bo h
    cases h
    exact rn 23 (o [b1,.el (Vn ta7)]) [] [1,4,6,7,10,11] [0,20] (Qa ha5 (allE Vx ha7 q))
   obtain ⟨ha5,h⟩:=gd h
   cases h
   exact rn 23 (o [b0]) [] [1,4,6,7,10,11] [0,20] (Qa ha5 (Qa (jEj ha4) q))
  cases h
  exact rx 23 [b0] [] [4,10] [0,20] (Qa (jEj ha1) QL)
 ·rcases io h with ⟨ha1,h⟩ | ⟨ha1,h⟩
  ·obtain ⟨ta2,ha2,h⟩:=bo h;obtain ⟨ta3,ha3,h⟩:=bo h
   have q:=allE Qi ha3 (allE Ql ha2 (Qa (jDj ha1) QL))
   let o (l:List Orc):=b1::.el (QP ta2)::.el (Q3 ta3)::l
   rcases io h with ⟨ha4,h⟩ | ⟨ha4,h⟩
   ·obtain ⟨ha5,h⟩:=gd h
    have q:=Qa ha5 (Qa (jDj ha4) q)
    rcases io h with ⟨ha6,h⟩ | ⟨ha6,h⟩
    ·obtain ⟨ha7,h⟩:=gd h
     cases h
     exact rn 23 (o [b1,.el (.agg [I 0,I 0,B false,B false,I 0,I 0,I 0,.lst true 0 [],.lst true 0 [],.lst true 0 []])]) [] [1,4,6,7,10,11] [0,20] (Qa ha5 (Qa ha7 (Qa ((Uu ha6):nth (t1.2.1) (Int.toNat (sa+1))=some (.agg [I 0,I 0,B false,B false,I 0,I 0,I 0,.lst true 0 [],.lst true 0 [],.lst true 0 []])) q)))
    obtain ⟨ta7,ha7,h⟩:=bo h
    cases h
    exact rn 23 (o [b1,.el (Vn ta7)]) [] [1,4,6,7,10,11] [0,20] (Qa ha5 (allE Vx ha7 q))
   obtain ⟨ha5,h⟩:=gd h
   cases h
   exact rn 23 (o [b0]) [] [1,4,6,7,10,11] [0,20] (Qa ha5 (Qa (jEj ha4) q))
  cases h
  exact rx 23 [b0] [] [4,10] [0,20] (Qa (jEj ha1) QL)
def Qfl (n:Nat) (a0:jVj) (a1:Int):Option (Int×Int×Bool×Bool×Int×Int×Int×jVj×jVj×jVj×Int) :=
 (V1 n a0).bind fun t1 =>
 if t1.2.2.2=0 then
  (Wt n a1 0 999999999).bind fun t3 =>
  if t3=true then
   some (0,0,false,false,0,0,0,[],[],[],3)
  else
  if ZT (nth (t1.2.1) (Int.toNat 0))=true then
   if (0:Int)≤0 then
   (Q2 (QeY n a1 t1) n (.inl 0)).bind fun t7=>match t7 with
    | (.inl t7)=>(
     some (0,0,false,false,0,0,0,[],[],[],0))
    | (.inr t7)=>(
     some (t7.1,t7.2.1,t7.2.2.1,t7.2.2.2.1,t7.2.2.2.2.1,t7.2.2.2.2.2.1,t7.2.2.2.2.2.2.1,t7.2.2.2.2.2.2.2.1,t7.2.2.2.2.2.2.2.2.1,t7.2.2.2.2.2.2.2.2.2,0))
   else none
  else
  (el Vy t1.2.1 0).bind fun t6 =>
  (Q2 (Qfo n a1 t1) n (.inl (0,t6.1,t6.2.1,t6.2.2.1,t6.2.2.2.1,t6.2.2.2.2.1,t6.2.2.2.2.2.1,t6.2.2.2.2.2.2.1,t6.2.2.2.2.2.2.2.1,t6.2.2.2.2.2.2.2.2.1,t6.2.2.2.2.2.2.2.2.2))).bind fun t7=>match t7 with
   | (.inl t7)=>(
    some (t7.1,t7.2.1,t7.2.2.1,t7.2.2.2.1,t7.2.2.2.2.1,t7.2.2.2.2.2.1,t7.2.2.2.2.2.2.1,t7.2.2.2.2.2.2.2.1,t7.2.2.2.2.2.2.2.2.1,t7.2.2.2.2.2.2.2.2.2,0))
   | (.inr t7)=>(
    some (0,0,false,false,0,0,0,[],[],[],0))
 else
 some (0,0,false,false,0,0,0,[],[],[],t1.2.2.2)
theorem Qgz {n:Nat} {a0:jVj} {a1:Int} {r:Int×Int×Bool×Bool×Int×Int×Int×jVj×jVj×jVj×Int} (h:Qfl n a0 a1=some r):Computes cx 54 [.lst false 5 a0,I a1] (.tup [.agg [I r.1,I r.2.1,B r.2.2.1,B r.2.2.2.1,I r.2.2.2.2.1,I r.2.2.2.2.2.1,I r.2.2.2.2.2.2.1,.lst false 1 r.2.2.2.2.2.2.2.1,.lst false 6 r.2.2.2.2.2.2.2.2.1,.lst false 7 r.2.2.2.2.2.2.2.2.2.1],I r.2.2.2.2.2.2.2.2.2.2]):=by
 unfold Qfl at h
 obtain ⟨t1,h1,h⟩:=bo h
 have q:=Qa (zV h1) QL
 let o (l:List Orc):=.ret (.tup [.lst false 5 t1.1,.lst false 10 t1.2.1,I t1.2.2.1,I t1.2.2.2])::l
 rcases io h with ⟨h2,h⟩ | ⟨h2,h⟩
 ·obtain ⟨t3,h3,h⟩:=bo h
  have q:=Qa (V0 h3) (Qa (nef h2) q)
  let o l:=o (b0::.ret (B t3)::l)
  rcases io h with ⟨h4,h⟩ | ⟨h4,h⟩
  ·cases h
   exact (rf (r:=.tup [.agg [I 0,I 0,B false,B false,I 0,I 0,I 0,.lst true 0 [],.lst true 0 [],.lst true 0 []],I 3]) (o [b1]) (Qa h4 q)).le (LEs.refl _) (.tups (.cons (.aggs (.cons (.refl _) (.cons (.refl _) (.cons (.refl _) (.cons (.refl _) (.cons (.refl _) (.cons (.refl _) (.cons (.refl _) (.cons (.nilF) (.cons (.nilF) (.cons (.nilF) (.nil)))))))))))) (.cons (.refl _) (.nil))))
  have q:=Qa (QA h4) q
  rcases io h with ⟨h5,h⟩ | ⟨h5,h⟩
  ·obtain ⟨h6,h⟩:=gd h
   have q:=Qa h6 (Qa ((Uu h5):nth (t1.2.1) (Int.toNat 0)=some (.agg [I 0,I 0,B false,B false,I 0,I 0,I 0,.lst true 0 [],.lst true 0 [],.lst true 0 []])) q)
   let o l:=o (b0::.el (.agg [I 0,I 0,B false,B false,I 0,I 0,I 0,.lst true 0 [],.lst true 0 [],.lst true 0 []])::l)
   obtain ⟨t7,h7,h⟩:=bo h
   rcases t7 with t7 | t7
   ·cases h
    exact (rf (r:=.tup [.agg [I 0,I 0,B false,B false,I 0,I 0,I 0,.lst true 0 [],.lst true 0 [],.lst true 0 []],I 0]) (o [.lp [] [1,4,6,7,10,11] [0,20] (.exit 0) [(4,.ptr 0 0 0 0 0),(10,.ptr 20 0 0 0 0)] [(0,.box (.d (.agg [I 0,I 0,B false,B false,I 0,I 0,I 0,.lst true 0 [],.lst true 0 [],.lst true 0 []]))),(20,.box (.d (.agg [I 0,I 0,B false,B false,I 0,I 0,I 0,.lst true 0 [],.lst true 0 [],.lst true 0 []])))] 56]) (Qa (QH QfB h7) q)).le (LEs.refl _) (.tups (.cons (.aggs (.cons (.refl _) (.cons (.refl _) (.cons (.refl _) (.cons (.refl _) (.cons (.refl _) (.cons (.refl _) (.cons (.refl _) (.cons (.nilF) (.cons (.nilF) (.cons (.nilF) (.nil)))))))))))) (.cons (.refl _) (.nil))))
   cases h
   exact rf (o [.lp [] [1,4,6,7,10,11] [0,20] (.exit 0) [(4,.ptr 0 0 0 0 0),(10,.ptr 20 0 0 0 0)] [(0,.box (.d (.agg [I 0,I 0,B false,B false,I 0,I 0,I 0,.lst true 0 [],.lst true 0 [],.lst true 0 []]))),(20,.box (.d (.agg [I t7.1,I t7.2.1,B t7.2.2.1,B t7.2.2.2.1,I t7.2.2.2.2.1,I t7.2.2.2.2.2.1,I t7.2.2.2.2.2.2.1,.lst false 1 t7.2.2.2.2.2.2.2.1,.lst false 6 t7.2.2.2.2.2.2.2.2.1,.lst false 7 t7.2.2.2.2.2.2.2.2.2])))] 56]) (Qa (QH QfB h7) q)
  obtain ⟨t6,h6,h⟩:=bo h
  have q:=allE Vx h6 q
  let o l:=o (b0::.el (Vn t6)::l)
  obtain ⟨t7,h7,h⟩:=bo h
  rcases t7 with t7 | t7
  ·cases h
   exact rf (o [.lp [] [1,4,6,7,10,11] [0,20] (.exit 0) [(4,.ptr 0 0 0 0 0),(10,.ptr 20 0 0 0 0)] [(0,.box (.d (.agg [I 0,I 0,B false,B false,I 0,I 0,I 0,.lst true 0 [],.lst true 0 [],.lst true 0 []]))),(20,.box (.d (.agg [I t7.1,I t7.2.1,B t7.2.2.1,B t7.2.2.2.1,I t7.2.2.2.2.1,I t7.2.2.2.2.2.1,I t7.2.2.2.2.2.2.1,.lst false 1 t7.2.2.2.2.2.2.2.1,.lst false 6 t7.2.2.2.2.2.2.2.2.1,.lst false 7 t7.2.2.2.2.2.2.2.2.2])))] 56]) (Qa (QH QfA h7) q)
  cases h
  exact (rf (r:=.tup [.agg [I 0,I 0,B false,B false,I 0,I 0,I 0,.lst true 0 [],.lst true 0 [],.lst true 0 []],I 0]) (o [.lp [] [1,4,6,7,10,11] [0,20] (.exit 0) [(4,.ptr 0 0 0 0 0),(10,.ptr 20 0 0 0 0)] [(0,.box (.d (.agg [I 0,I 0,B false,B false,I 0,I 0,I 0,.lst true 0 [],.lst true 0 [],.lst true 0 []]))),(20,.box (.d (.agg [I 0,I 0,B false,B false,I 0,I 0,I 0,.lst true 0 [],.lst true 0 [],.lst true 0 []])))] 56]) (Qa (QH QfA h7) q)).le (LEs.refl _) (.tups (.cons (.aggs (.cons (.refl _) (.cons (.refl _) (.cons (.refl _) (.cons (.refl _) (.cons (.refl _) (.cons (.refl _) (.cons (.refl _) (.cons (.nilF) (.cons (.nilF) (.cons (.nilF) (.nil)))))))))))) (.cons (.refl _) (.nil))))
 cases h
 exact (rf (r:=.tup [.agg [I 0,I 0,B false,B false,I 0,I 0,I 0,.lst true 0 [],.lst true 0 [],.lst true 0 []],I t1.2.2.2]) (o [b1]) (Qa (net h2) q)).le (LEs.refl _) (.tups (.cons (.aggs (.cons (.refl _) (.cons (.refl _) (.cons (.refl _) (.cons (.refl _) (.cons (.refl _) (.cons (.refl _) (.cons (.refl _) (.cons (.nilF) (.cons (.nilF) (.cons (.nilF) (.nil)))))))))))) (.cons (.refl _) (.nil))))
def Qfg (n:Nat) (a0:jVj) (a1:Int) (a2:jSj) (a3 a4:jVj) (a5:jSj) (a6:Int):Option (Bool) :=
 (WM n a0 24).bind fun t1 =>
 if t1=true then
  (WM n ([.agg [I a1,.v (.string a2),.lst false 1 a3,.lst false 1 a4,.v (.string a5)]]) 1).bind fun t3 =>
  if t3=true then
   (XE n a0).bind fun t5 =>
   (Qfm n a0 a6).bind fun t6 =>
   (Vo n a0).bind fun t7 =>
   (Qfl n a0 a6).bind fun t8 =>
   (WX n a1 a2 a3 a4 a5).bind fun t9 =>
   (WV n a1 a2 a3 a4 a5).bind fun t10 =>
   if t9=t10 then
    if t5.2.2.2.2.2.2.2.2.2.2.2=t7.2.2.2.2.2.2.2.2.2.2.2 then
     if t5.2.2.2.2.2.2.2.2.2.2.1=t7.2.2.2.2.2.2.2.2.2.2.1 then
      (Qe3 n t5.1 t5.2.1 t5.2.2.1 t5.2.2.2.1 t5.2.2.2.2.1 t5.2.2.2.2.2.1 t5.2.2.2.2.2.2.1 t5.2.2.2.2.2.2.2.1 t5.2.2.2.2.2.2.2.2.1 t5.2.2.2.2.2.2.2.2.2.1).bind fun t14 =>
      (Qff n t14.1 t14.2.1 t14.2.2.1 t14.2.2.2.1 t14.2.2.2.2.1 t14.2.2.2.2.2.1 t14.2.2.2.2.2.2.1 t14.2.2.2.2.2.2.2.1 t14.2.2.2.2.2.2.2.2.1 t14.2.2.2.2.2.2.2.2.2 t7.1 t7.2.1 t7.2.2.1 t7.2.2.2.1 t7.2.2.2.2.1 t7.2.2.2.2.2.1 t7.2.2.2.2.2.2.1 t7.2.2.2.2.2.2.2.1 t7.2.2.2.2.2.2.2.2.1 t7.2.2.2.2.2.2.2.2.2.1).bind fun t15 =>
      if t15=true then
       (Qfe n a0 a1 a2 a3 a4 a5).bind fun t17 =>
       (Qfd n a0 a1 a2 a3 a4 a5).bind fun t18 =>
       if t17=t18 then
        if t6.2.2.2.2.2.2.2.2.2.2=t8.2.2.2.2.2.2.2.2.2.2 then
         (Qe3 n t6.1 t6.2.1 t6.2.2.1 t6.2.2.2.1 t6.2.2.2.2.1 t6.2.2.2.2.2.1 t6.2.2.2.2.2.2.1 t6.2.2.2.2.2.2.2.1 t6.2.2.2.2.2.2.2.2.1 t6.2.2.2.2.2.2.2.2.2.1).bind fun t21 =>
         (Qff n t21.1 t21.2.1 t21.2.2.1 t21.2.2.2.1 t21.2.2.2.2.1 t21.2.2.2.2.2.1 t21.2.2.2.2.2.2.1 t21.2.2.2.2.2.2.2.1 t21.2.2.2.2.2.2.2.2.1 t21.2.2.2.2.2.2.2.2.2 t8.1 t8.2.1 t8.2.2.1 t8.2.2.2.1 t8.2.2.2.2.1 t8.2.2.2.2.2.1 t8.2.2.2.2.2.2.1 t8.2.2.2.2.2.2.2.1 t8.2.2.2.2.2.2.2.2.1 t8.2.2.2.2.2.2.2.2.2.1).bind fun t22 =>
         if t22=true then
          (WI n).bind fun t24 =>
          some t24
         else
         none
        else
        none
       else
       none
      else
      none
     else
     none
    else
    none
   else
   none
  else
  (WI n).bind fun t5 =>
  some t5
 else
 (WI n).bind fun t3 =>
 some t3
theorem QfR {n:Nat} {a0:jVj} {a1:Int} {a2:jSj} {a3 a4:jVj} {a5:jSj} {a6:Int} {r:Bool} (h:Qfg n a0 a1 a2 a3 a4 a5 a6=some r):Computes cx 11 [.lst false 5 a0,.agg [I a1,.v (.string a2),.lst false 1 a3,.lst false 1 a4,.v (.string a5)],I a6] (B r):=by
 unfold Qfg at h
 obtain ⟨t1,h1,h⟩:=bo h
 have q:=Qa (XY h1) QL
 rcases io h with ⟨h2,h⟩ | ⟨h2,h⟩
 ·obtain ⟨t3,h3,h⟩:=bo h
  have q:=Qa (((XY h3).le (.cons (.full _ _ _) (.cons (.refl _) (.nil))) (.refl _)):Computes cx 13 [.lst true 5 [.agg [I a1,.v (.string a2),.lst false 1 a3,.lst false 1 a4,.v (.string a5)]],I 1] (B t3)) (Qa (Ud h2) q)
  let o (l:List Orc):=.ret (B t1)::b0::.ret (B t3)::l
  rcases io h with ⟨h4,h⟩ | ⟨h4,h⟩
  ·obtain ⟨t5,h5,h⟩:=bo h;obtain ⟨t6,h6,h⟩:=bo h;obtain ⟨t7,h7,h⟩:=bo h;obtain ⟨t8,h8,h⟩:=bo h;obtain ⟨t9,h9,h⟩:=bo h;obtain ⟨t10,h10,h⟩:=bo h
   rcases io h with ⟨h11,h⟩ | ⟨h11,h⟩
   ·rcases io h with ⟨h12,h⟩ | ⟨h12,h⟩
    ·rcases io h with ⟨h13,h⟩ | ⟨h13,h⟩
     ·obtain ⟨t14,h14,h⟩:=bo h;obtain ⟨t15,h15,h⟩:=bo h
      rcases io h with ⟨h16,h⟩ | ⟨h16,h⟩
      ·obtain ⟨t17,h17,h⟩:=bo h;obtain ⟨t18,h18,h⟩:=bo h
       rcases io h with ⟨h19,h⟩ | ⟨h19,h⟩
       ·rcases io h with ⟨h20,h⟩ | ⟨h20,h⟩
        ·obtain ⟨t21,h21,h⟩:=bo h;obtain ⟨t22,h22,h⟩:=bo h
         rcases io h with ⟨h23,h⟩ | ⟨h23,h⟩
         ·obtain ⟨t24,h24,h⟩:=bo h;obtain rfl:=oi h
          exact rf (o [b0,.ret (.tup [.agg [I t5.1,I t5.2.1,B t5.2.2.1,B t5.2.2.2.1,I t5.2.2.2.2.1,I t5.2.2.2.2.2.1,I t5.2.2.2.2.2.2.1,.lst false 1 t5.2.2.2.2.2.2.2.1,.lst false 6 t5.2.2.2.2.2.2.2.2.1,.lst false 7 t5.2.2.2.2.2.2.2.2.2.1],I t5.2.2.2.2.2.2.2.2.2.2.1,I t5.2.2.2.2.2.2.2.2.2.2.2]),.ret (.tup [.agg [I t6.1,I t6.2.1,B t6.2.2.1,B t6.2.2.2.1,I t6.2.2.2.2.1,I t6.2.2.2.2.2.1,I t6.2.2.2.2.2.2.1,.lst false 1 t6.2.2.2.2.2.2.2.1,.lst false 6 t6.2.2.2.2.2.2.2.2.1,.lst false 7 t6.2.2.2.2.2.2.2.2.2.1],I t6.2.2.2.2.2.2.2.2.2.2]),.ret (.tup [.agg [I t7.1,I t7.2.1,B t7.2.2.1,B t7.2.2.2.1,I t7.2.2.2.2.1,I t7.2.2.2.2.2.1,I t7.2.2.2.2.2.2.1,.lst false 1 t7.2.2.2.2.2.2.2.1,.lst false 6 t7.2.2.2.2.2.2.2.2.1,.lst false 7 t7.2.2.2.2.2.2.2.2.2.1],I t7.2.2.2.2.2.2.2.2.2.2.1,I t7.2.2.2.2.2.2.2.2.2.2.2]),.ret (.tup [.agg [I t8.1,I t8.2.1,B t8.2.2.1,B t8.2.2.2.1,I t8.2.2.2.2.1,I t8.2.2.2.2.2.1,I t8.2.2.2.2.2.2.1,.lst false 1 t8.2.2.2.2.2.2.2.1,.lst false 6 t8.2.2.2.2.2.2.2.2.1,.lst false 7 t8.2.2.2.2.2.2.2.2.2.1],I t8.2.2.2.2.2.2.2.2.2.2]),.ret (I t9),.ret (I t10),b1,b1,b1,.ret (.agg [I t14.1,I t14.2.1,B t14.2.2.1,B t14.2.2.2.1,I t14.2.2.2.2.1,I t14.2.2.2.2.2.1,I t14.2.2.2.2.2.2.1,.lst false 1 t14.2.2.2.2.2.2.2.1,.lst false 6 t14.2.2.2.2.2.2.2.2.1,.lst false 7 t14.2.2.2.2.2.2.2.2.2]),.ret (B t15),b1,.ret (I t17),.ret (I t18),b1,b1,.ret (.agg [I t21.1,I t21.2.1,B t21.2.2.1,B t21.2.2.2.1,I t21.2.2.2.2.1,I t21.2.2.2.2.2.1,I t21.2.2.2.2.2.2.1,.lst false 1 t21.2.2.2.2.2.2.2.1,.lst false 6 t21.2.2.2.2.2.2.2.2.1,.lst false 7 t21.2.2.2.2.2.2.2.2.2]),.ret (B t22),b1,.ret (B t24)]) (Qa (YE h24) (Qa h23 (Qa (Qfs h22) (Qa (Qfk h21) (Qa (eqt h20) (Qa (eqt h19) (Qa (Qfw h18) (Qa (Qfx h17) (Qa h16 (Qa (Qfs h15) (Qa (Qfk h14) (Qa (eqt h13) (Qa (eqt h12) (Qa (eqt h11) (Qa (K7 h10) (Qa (Ja h9) (Qa (Qgz h8) (Qa (je h7) (Qa (QgA h6) (Qa (jl h5) (Qa (Ud h4) q)))))))))))))))))))))
         cases h
        cases h
       cases h
      cases h
     cases h
    cases h
   cases h
  obtain ⟨t5,h5,h⟩:=bo h;obtain rfl:=oi h
  exact rf (o [b1,.ret (B t5)]) (Qa (YE h5) (Qa (Uc (QA h4)) q))
 obtain ⟨t3,h3,h⟩:=bo h;obtain rfl:=oi h
 exact rf [.ret (B t1),b1,.no,.ret (B t3)] (Qa (YE h3) (Qa (Uc (QA h2)) q))
end Go.Proofs.YtljabneifpkbjaaGreatDoor
