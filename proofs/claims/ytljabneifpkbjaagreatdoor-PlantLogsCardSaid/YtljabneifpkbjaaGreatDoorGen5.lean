/- Printed by gsx.py: functions of the program as Lean functions, and that the code computes them. -/
import Derived.Test.YtljabneifpkbjaaGreatDoorGen4
set_option linter.unusedVariables false
set_option linter.unusedSimpArgs false
set_option linter.unnecessarySimpa false
set_option maxRecDepth 10000
set_option maxHeartbeats 4000000
namespace Go.Proofs.YtljabneifpkbjaaGreatDoor
open Go.SX
def UJ (n:Nat) (a1:jSj) (t1:Int×Int×jVj×jVj×jRj) (t9:jSj×jSj×Int×Int×Bool×Bool) (sa:(Int×jVj)):Option (((Int×jVj))⊕((jVj))) :=
 if sa.1 < ((t1.2.2.2.1).length:Int) then
  if 0≤sa.1∧sa.1 < ((t1.2.2.2.1).length:Int) then
  ((nth (t1.2.2.2.1) (Int.toNat sa.1)).bind Ze).bind fun ta3 =>
  (U9 n ta3.1 ta3.2.1 ta3.2.2.1 ta3.2.2.2.1 ta3.2.2.2.2 a1 t9.2.1).bind fun ta4 =>
  if ta4=true then
   if Wa 88 ((sa.2).length+1) then
   if Qh (sa.1+1) then
   some (.inl ((sa.1+1),(sa.2++([.agg [I ta3.1,.v (.string ta3.2.1),.lst false 1 ta3.2.2.1,.lst false 1 ta3.2.2.2.1,.v (.string ta3.2.2.2.2)]]:jVj))))
   else none
   else none
  else
  if Qh (sa.1+1) then
  some (.inl ((sa.1+1),sa.2))
  else none
  else none
 else
 some (.inr sa.2)
noncomputable def zr (a1:jSj) (t1:Int×Int×jVj×jVj×jRj) (t9:jSj×jSj×Int×Int×Bool×Bool):Lp ((Int×jVj)) ((jVj)):=⟨fun sa=>[(1,.fn (.func 82) [] [.ptr 0 0 0 0 0,.ptr 59 0 0 0 0]),(5,.own 108 0),(8,.own 83 0),(9,.d (I ((t1.2.2.2.1).length:Int))),(10,.d (I sa.1))],fun sa=>[(0,.box (.d (.v (.string a1)))),(22,.box (.agg [.own 23 0,.own 24 0,.d (I t1.2.2.2.2.1),.d (I t1.2.2.2.2.2.1),.d (B t1.2.2.2.2.2.2.1),.d (B t1.2.2.2.2.2.2.2.1),.d (I t1.2.2.2.2.2.2.2.2.1),.d (I t1.2.2.2.2.2.2.2.2.2.1),.d (I t1.2.2.2.2.2.2.2.2.2.2.1),.own 32 0,.own 33 0,.own 34 0])),(23,.row 0 5 t1.2.2.1),(24,.row 0 5 t1.2.2.2.1),(32,.row 0 1 t1.2.2.2.2.2.2.2.2.2.2.2.1),(33,.row 0 6 t1.2.2.2.2.2.2.2.2.2.2.2.2.1),(34,.row 0 7 t1.2.2.2.2.2.2.2.2.2.2.2.2.2),(59,.box (.d (.v (.string t9.2.1)))),(81,.box (.agg [.own 82 0,.own 83 0,.d (I t1.2.2.2.2.1),.d (I t1.2.2.2.2.2.1),.d (B t1.2.2.2.2.2.2.1),.d (B t1.2.2.2.2.2.2.2.1),.d (I t1.2.2.2.2.2.2.2.2.1),.d (I t1.2.2.2.2.2.2.2.2.2.1),.d (I t1.2.2.2.2.2.2.2.2.2.2.1),.own 91 0,.own 92 0,.own 93 0])),(82,.row 0 5 t1.2.2.1),(83,.row 0 5 t1.2.2.2.1),(91,.row 0 1 t1.2.2.2.2.2.2.2.2.2.2.2.1),(92,.row 0 6 t1.2.2.2.2.2.2.2.2.2.2.2.2.1),(93,.row 0 7 t1.2.2.2.2.2.2.2.2.2.2.2.2.2),(108,.row 0 5 sa.2)],fun _=>(.exit 0),fun _=>[(5,.own 108 0)],fun e=>[(0,.box (.d (.v (.string a1)))),(22,.box (.agg [.own 23 0,.own 24 0,.d (I t1.2.2.2.2.1),.d (I t1.2.2.2.2.2.1),.d (B t1.2.2.2.2.2.2.1),.d (B t1.2.2.2.2.2.2.2.1),.d (I t1.2.2.2.2.2.2.2.2.1),.d (I t1.2.2.2.2.2.2.2.2.2.1),.d (I t1.2.2.2.2.2.2.2.2.2.2.1),.own 32 0,.own 33 0,.own 34 0])),(23,.row 0 5 t1.2.2.1),(24,.row 0 5 t1.2.2.2.1),(32,.row 0 1 t1.2.2.2.2.2.2.2.2.2.2.2.1),(33,.row 0 6 t1.2.2.2.2.2.2.2.2.2.2.2.2.1),(34,.row 0 7 t1.2.2.2.2.2.2.2.2.2.2.2.2.2),(59,.box (.d (.v (.string t9.2.1)))),(81,.box (.agg [.own 82 0,.own 83 0,.d (I t1.2.2.2.2.1),.d (I t1.2.2.2.2.2.1),.d (B t1.2.2.2.2.2.2.1),.d (B t1.2.2.2.2.2.2.2.1),.d (I t1.2.2.2.2.2.2.2.2.1),.d (I t1.2.2.2.2.2.2.2.2.2.1),.d (I t1.2.2.2.2.2.2.2.2.2.2.1),.own 91 0,.own 92 0,.own 93 0])),(82,.row 0 5 t1.2.2.1),(83,.row 0 5 t1.2.2.2.1),(91,.row 0 1 t1.2.2.2.2.2.2.2.2.2.2.2.1),(92,.row 0 6 t1.2.2.2.2.2.2.2.2.2.2.2.2.1),(93,.row 0 7 t1.2.2.2.2.2.2.2.2.2.2.2.2.2),(108,.row 0 5 e)]⟩
theorem zj {n:Nat} {a1:jSj} {t1:Int×Int×jVj×jVj×jRj} {t9:jSj×jSj×Int×Int×Bool×Bool} (sa:(Int×jVj)) (r) (h:UJ n a1 t1 t9 sa=some r):Rl (ZJ cx.P 81 0) 23 103 false (zr a1 t1 t9) sa r:=by
 unfold UJ at h
 rcases io h with ⟨ha1,h⟩ | ⟨ha1,h⟩
 ·obtain ⟨ha2,h⟩:=gd h;obtain ⟨ta3,ha3,h⟩:=bo h;obtain ⟨ta4,ha4,h⟩:=bo h
  have q:=Qa (zW ha4) (Qa (QX Ql ha3) (Qa ha2 (Qa (jDj ha1) QL)))
  let o (l:List Orc):=b1::b1::.el (QP ta3)::b1::.ret (B ta4)::l
  rcases io h with ⟨ha5,h⟩ | ⟨ha5,h⟩
  ·obtain ⟨ha6,h⟩:=gd h;obtain ⟨ha7,h⟩:=gd h
   cases h
   exact rn 109 (o [b1,b1]) [] [1,5,8,9,10] [0,22,23,24,32,33,34,59,81,82,83,91,92,93,108] (Qa ha7 (Qa (ro 65 ha6) (Qa ha5 q)))
  obtain ⟨ha6,h⟩:=gd h
  cases h
  exact rn 109 (o [b0]) [] [1,5,8,9,10] [0,22,23,24,32,33,34,59,81,82,83,91,92,93,108] (Qa ha6 (Qa (QA ha5) q))
 cases h
 exact rx 109 [b0] [] [5] [0,22,23,24,32,33,34,59,81,82,83,91,92,93,108] (Qa (jEj ha1) QL)
def UI (n:Nat) (t10:jVj) (sa:(Int×jVj)):Option (((Int×jVj))⊕((jVj))) :=
 if sa.1 < ((t10).length:Int) then
  if 0≤sa.1∧sa.1 < ((t10).length:Int) then
  ((nth (t10) (Int.toNat sa.1)).bind Ze).bind fun ta3 =>
  if 0≤((ta3.2.2.1).length:Int)∧((ta3.2.2.1).length:Int)≤((ta3.2.2.1).length:Int)∧16 * ((ta3.2.2.1).length:Int)≤281474976710656∧((ta3.2.2.1).length:Int)≤9223372036854775807 then
  if 0≤((ta3.2.2.2.1).length:Int)∧((ta3.2.2.2.1).length:Int)≤((ta3.2.2.2.1).length:Int)∧8 * ((ta3.2.2.2.1).length:Int)≤281474976710656∧((ta3.2.2.2.1).length:Int)≤9223372036854775807 then
  if Qh (((sa.2).length:Int)+1) then
  if Wa 88 ((sa.2).length+1) then
  if Qh (sa.1+1) then
  some (.inl ((sa.1+1),(sa.2++([.agg [I (((sa.2).length:Int)+1),.v (.string ta3.2.1),.lst false 1 (ta3.2.2.1.take ((List.replicate (Int.toNat ((ta3.2.2.1).length:Int)) (.v (.string ⟨#[]⟩):D)):jVj).length++(List.replicate (Int.toNat ((ta3.2.2.1).length:Int)) (.v (.string ⟨#[]⟩):D)).drop (ta3.2.2.1).length),.lst false 1 (ta3.2.2.2.1.take ((List.replicate (Int.toNat ((ta3.2.2.2.1).length:Int)) (I 0:D)):jVj).length++(List.replicate (Int.toNat ((ta3.2.2.2.1).length:Int)) (I 0:D)).drop (ta3.2.2.2.1).length),.v (.string ta3.2.2.2.2)]]:jVj))))
  else none
  else none
  else none
  else none
  else none
  else none
 else
 some (.inr sa.2)
noncomputable def zq (t10:jVj):Lp ((Int×jVj)) ((jVj)):=⟨fun sa=>[(12,.own 144 0),(42,.own 108 0),(43,.d (I ((t10).length:Int))),(44,.d (I sa.1))],fun sa=>[(108,.row 0 5 t10),(144,.row 0 5 sa.2)],fun _=>(.exit 0),fun _=>[(12,.own 144 0)],fun e=>[(144,.row 0 5 e)]⟩
theorem zi {n:Nat} {t10:jVj} (sa:(Int×jVj)) (r) (h:UI n t10 sa=some r):Rl (ZJ cx.P 33 0) 60 0 false (zq t10) sa r:=by
 unfold UI at h
 rcases io h with ⟨ha1,h⟩ | ⟨ha1,h⟩
 ·obtain ⟨ha2,h⟩:=gd h;obtain ⟨ta3,ha3,h⟩:=bo h;obtain ⟨ha4,h⟩:=gd h;obtain ⟨ha5,h⟩:=gd h;obtain ⟨ha6,h⟩:=gd h;obtain ⟨ha7,h⟩:=gd h;obtain ⟨ha8,h⟩:=gd h
  cases h
  exact rn 145 [b1,b1,.el (QP ta3),b1,b1,b1,b1] [] [12,42,43,44] [108,144] (Qa ha8 (Qa (ro 65 ha7) (Qa ha6 (Qa ha5 (Qa ha4 (Qa (QX Ql ha3) (Qa ha2 (Qa (jDj ha1) QL))))))))
 cases h
 exact rx 145 [b0] [] [12] [144] (Qa (jEj ha1) QL)
def Ei (n:Nat) (a0:jVj) (a1:jSj):Option (jVj×Int) :=
 (Q6 n a0).bind fun t1 =>
 if t1.2.1=0 then
  (Qw n 109 t1.2.2.1 t1.2.2.2.1 t1.2.2.2.2.1 t1.2.2.2.2.2.1 t1.2.2.2.2.2.2.1 t1.2.2.2.2.2.2.2.1 t1.2.2.2.2.2.2.2.2.1 t1.2.2.2.2.2.2.2.2.2.1 t1.2.2.2.2.2.2.2.2.2.2.1 t1.2.2.2.2.2.2.2.2.2.2.2.1 t1.2.2.2.2.2.2.2.2.2.2.2.2.1 t1.2.2.2.2.2.2.2.2.2.2.2.2.2).bind fun t3 =>
  (Zb n t3 a1).bind fun t4 =>
  (Qm n (!t4) 10).bind fun t5 =>
  if t5=0 then
   (QE n t3 a1).bind fun t7 =>
   if 0≤t7∧t7 < ((t1.2.2.2.2.2.2.2.2.2.2.2.2.1).length:Int) then
   ((nth (t1.2.2.2.2.2.2.2.2.2.2.2.2.1) (Int.toNat t7)).bind QM).bind fun t9 =>
   (Q2 (UJ n a1 t1 t9) n (0,[])).bind fun t10 =>
   (Q2 (UI n t10) n (0,[])).bind fun t11 =>
   some (t11,0)
   else none
  else
  some ([],t5)
 else
 some ([],t1.2.1)
theorem jK {n:Nat} {a0:jVj} {a1:jSj} {r:jVj×Int} (h:Ei n a0 a1=some r):Computes cx 33 [.lst false 5 a0,.v (.string a1)] (.tup [.lst false 5 r.1,I r.2]):=by
 unfold Ei at h
 obtain ⟨t1,h1,h⟩:=bo h
 have q:=Qa (We h1) QL
 let o (l:List Orc):=b1::.obj none (.tup [.ptr 0 0 0 0 0,.d (I t1.1),.d (I t1.2.1)]) (Qb t1.2.2.1 t1.2.2.2.1 t1.2.2.2.2.1 t1.2.2.2.2.2.1 t1.2.2.2.2.2.2.1 t1.2.2.2.2.2.2.2.1 t1.2.2.2.2.2.2.2.2.1 t1.2.2.2.2.2.2.2.2.2.1 t1.2.2.2.2.2.2.2.2.2.2.1 t1.2.2.2.2.2.2.2.2.2.2.2.1 t1.2.2.2.2.2.2.2.2.2.2.2.2.1 t1.2.2.2.2.2.2.2.2.2.2.2.2.2) []::l
 rcases io h with ⟨h2,h⟩ | ⟨h2,h⟩
 ·obtain ⟨t3,h3,h⟩:=bo h;obtain ⟨t4,h4,h⟩:=bo h;obtain ⟨t5,h5,h⟩:=bo h
  have q:=Qa (Qu h5) (Qa (Z2 h4) (Qa (QC h3) (Qa (nef h2) q)))
  let o l:=o (b0::.obj (some 22) (.d (.lst false 1 t3)) (Qb t1.2.2.1 t1.2.2.2.1 t1.2.2.2.2.1 t1.2.2.2.2.2.1 t1.2.2.2.2.2.2.1 t1.2.2.2.2.2.2.2.1 t1.2.2.2.2.2.2.2.2.1 t1.2.2.2.2.2.2.2.2.2.1 t1.2.2.2.2.2.2.2.2.2.2.1 t1.2.2.2.2.2.2.2.2.2.2.2.1 t1.2.2.2.2.2.2.2.2.2.2.2.2.1 t1.2.2.2.2.2.2.2.2.2.2.2.2.2) ZV::.ret (B t4)::.ret (I t5)::l)
  rcases io h with ⟨h6,h⟩ | ⟨h6,h⟩
  ·obtain ⟨t7,h7,h⟩:=bo h;obtain ⟨h8,h⟩:=gd h;obtain ⟨t9,h9,h⟩:=bo h;obtain ⟨t10,h10,h⟩:=bo h;obtain ⟨t11,h11,h⟩:=bo h
   cases h
   exact rf (o [b0,b1,.obj (some 22) (.d (.lst false 1 t3)) (Qb t1.2.2.1 t1.2.2.2.1 t1.2.2.2.2.1 t1.2.2.2.2.2.1 t1.2.2.2.2.2.2.1 t1.2.2.2.2.2.2.2.1 t1.2.2.2.2.2.2.2.2.1 t1.2.2.2.2.2.2.2.2.2.1 t1.2.2.2.2.2.2.2.2.2.2.1 t1.2.2.2.2.2.2.2.2.2.2.2.1 t1.2.2.2.2.2.2.2.2.2.2.2.2.1 t1.2.2.2.2.2.2.2.2.2.2.2.2.2) ZV,.ret (I t7),b1,.el (QB t9),.obj none (.tup [.ptr 0 0 0 0 0,.d (I t1.1),.d (I t1.2.1)]) (Qb t1.2.2.1 t1.2.2.2.1 t1.2.2.2.2.1 t1.2.2.2.2.2.1 t1.2.2.2.2.2.2.1 t1.2.2.2.2.2.2.2.1 t1.2.2.2.2.2.2.2.2.1 t1.2.2.2.2.2.2.2.2.2.1 t1.2.2.2.2.2.2.2.2.2.2.1 t1.2.2.2.2.2.2.2.2.2.2.2.1 t1.2.2.2.2.2.2.2.2.2.2.2.2.1 t1.2.2.2.2.2.2.2.2.2.2.2.2.2) [],b1,.lp [5,5] [1,5,8,9,10] [0,22,23,24,32,33,34,59,81,82,83,91,92,93,108] (.exit 0) [(5,.own 108 0)] [(0,.box (.d (.v (.string a1)))),(22,.box (.agg [.own 23 0,.own 24 0,.d (I t1.2.2.2.2.1),.d (I t1.2.2.2.2.2.1),.d (B t1.2.2.2.2.2.2.1),.d (B t1.2.2.2.2.2.2.2.1),.d (I t1.2.2.2.2.2.2.2.2.1),.d (I t1.2.2.2.2.2.2.2.2.2.1),.d (I t1.2.2.2.2.2.2.2.2.2.2.1),.own 32 0,.own 33 0,.own 34 0])),(23,.row 0 5 t1.2.2.1),(24,.row 0 5 t1.2.2.2.1),(32,.row 0 1 t1.2.2.2.2.2.2.2.2.2.2.2.1),(33,.row 0 6 t1.2.2.2.2.2.2.2.2.2.2.2.2.1),(34,.row 0 7 t1.2.2.2.2.2.2.2.2.2.2.2.2.2),(59,.box (.d (.v (.string t9.2.1)))),(81,.box (.agg [.own 82 0,.own 83 0,.d (I t1.2.2.2.2.1),.d (I t1.2.2.2.2.2.1),.d (B t1.2.2.2.2.2.2.1),.d (B t1.2.2.2.2.2.2.2.1),.d (I t1.2.2.2.2.2.2.2.2.1),.d (I t1.2.2.2.2.2.2.2.2.2.1),.d (I t1.2.2.2.2.2.2.2.2.2.2.1),.own 91 0,.own 92 0,.own 93 0])),(82,.row 0 5 t1.2.2.1),(83,.row 0 5 t1.2.2.2.1),(91,.row 0 1 t1.2.2.2.2.2.2.2.2.2.2.2.1),(92,.row 0 6 t1.2.2.2.2.2.2.2.2.2.2.2.2.1),(93,.row 0 7 t1.2.2.2.2.2.2.2.2.2.2.2.2.2),(108,.row 0 5 t10)] 142,.lp [12,5] [12,42,43,44] [108,144] (.exit 0) [(12,.own 144 0)] [(144,.row 0 5 t11)] 205]) (Qa (QH zi h11) (Qa (QH zj h10) (Qa (We h1) (Qa (QX Qq h9) (Qa h8 (Qa (QK h7) (Qa (QC h3) (Qa (nef h6) q))))))))
  cases h
  exact (rf (r:=.tup [.lst true 0 [],I t5]) (o [b1]) (Qa (net h6) q)).le (LEs.refl _) (.tups (.cons (.nilF) (.cons (.refl _) (.nil))))
 cases h
 exact (rf (r:=.tup [.lst true 0 [],I t1.2.1]) (o [b1,b1]) (Qa (net h2) (Qa (net h2) q))).le (LEs.refl _) (.tups (.cons (.nilF) (.cons (.refl _) (.nil))))
def Qd2 (n:Nat) (a0 a1:jVj) (sa:(Int)):Option (((Int))⊕((Unit)⊕(Unit))) :=
 if sa < ((a0).length:Int) then
  (el Vt a0 sa).bind fun ta2 =>
  (el Vt a1 sa).bind fun ta3 =>
  if ta2=ta3 then
   if Qh (sa+1) then
   some (.inl (sa+1))
   else none
  else
  some (.inr (.inl ()))
 else
 some (.inr (.inr ()))
noncomputable def Qei (a0 a1:jVj):Lp ((Int)) ((Unit)⊕(Unit)):=⟨fun sa=>[(0,.d (.lst false 1 a0)),(1,.d (.lst false 1 a1)),(5,.d (I sa))],fun _=>[],fun
 | (.inl e)=>.ret
 | (.inr e)=>(.exit 0),fun
 | (.inl e)=>[(4,.d (B false))]
 | (.inr e)=>[],fun _=>[]⟩
theorem Qed {n:Nat} {a0 a1:jVj} (sa:(Int)) (r) (h:Qd2 n a0 a1 sa=some r):Rl (ZJ cx.P 86 0) 26 0 false (Qei a0 a1) sa r:=by
 unfold Qd2 at h
 rcases io h with ⟨ha1,h⟩ | ⟨ha1,h⟩
 ·obtain ⟨ta2,ha2,h⟩:=bo h;obtain ⟨ta3,ha3,h⟩:=bo h
  have q:=allE Qi ha3 (allE Qi ha2 (Qa (jDj ha1) QL))
  let o (l:List Orc):=b1::.el (Q3 ta2)::.el (Q3 ta3)::l
  rcases io h with ⟨ha4,h⟩ | ⟨ha4,h⟩
  ·obtain ⟨ha5,h⟩:=gd h
   cases h
   exact rn 7 (o [b0]) [] [0,1,5] [] (Qa ha5 (Qa (nef ha4) q))
  cases h
  exact rx 7 (o [b1]) [] [4] [] (Qa (net ha4) q)
 cases h
 exact rx 7 [b0] [] [] [] (Qa (jEj ha1) QL)
def Qd7 (n:Nat) (a0 a1:jVj):Option (Bool) :=
 if ((a0).length:Int)=((a1).length:Int) then
  (Q2 (Qd2 n a0 a1) n 0).bind fun t2=>match t2 with
   | (.inl t2)=>(
    some false)
   | (.inr t2)=>(
    some true)
 else
 some false
theorem Qep {n:Nat} {a0 a1:jVj} {r:Bool} (h:Qd7 n a0 a1=some r):Computes cx 86 [.lst false 1 a0,.lst false 1 a1] (B r):=by
 unfold Qd7 at h
 rcases io h with ⟨h1,h⟩ | ⟨h1,h⟩
 ·have q:=Qa (nef h1) QL
  obtain ⟨t2,h2,h⟩:=bo h
  rcases t2 with t2 | t2
  ·obtain rfl:=oi h
   exact rf [b0,.lp [] [0,1,5] [] .ret [(4,.d (B false))] [] 34] (Qa (QH Qed h2) q)
  obtain rfl:=oi h
  exact rf [b0,.lp [] [0,1,5] [] (.exit 0) [] [] 34] (Qa (QH Qed h2) q)
 obtain rfl:=oi h
 exact rf [b1] (Qa (net h1) QL)
def Qd0 (n:Nat) (a0 a1:jVj) (sa:(Int)):Option (((Int))⊕((Unit)⊕(Unit))) :=
 if sa < ((a0).length:Int) then
  (el Ze a0 sa).bind fun ta2 =>
  (el Ze a1 sa).bind fun ta3 =>
  if ta2.1=ta3.1 then
   if (!(ta2.2.1.toList == ta3.2.1.toList))=true then
    some (.inr (.inl ()))
   else
   (Z5 n ta2.2.2.1 ta3.2.2.1).bind fun ta6 =>
   if ta6=true then
    (Qd7 n ta2.2.2.2.1 ta3.2.2.2.1).bind fun ta8 =>
    if ta8=true then
     if (!(ta2.2.2.2.2.toList == ta3.2.2.2.2.toList))=true then
      some (.inr (.inl ()))
     else
     if Qh (sa+1) then
     some (.inl (sa+1))
     else none
    else
    some (.inr (.inl ()))
   else
   some (.inr (.inl ()))
  else
  some (.inr (.inl ()))
 else
 some (.inr (.inr ()))
noncomputable def Qef (a0 a1:jVj):Lp ((Int)) ((Unit)⊕(Unit)):=⟨fun sa=>[(0,.d (.lst false 5 a0)),(1,.d (.lst false 5 a1)),(5,.d (I sa))],fun _=>[],fun
 | (.inl e)=>.ret
 | (.inr e)=>(.exit 0),fun
 | (.inl e)=>[(4,.d (B false))]
 | (.inr e)=>[],fun _=>[]⟩
theorem Qeb {n:Nat} {a0 a1:jVj} (sa:(Int)) (r) (h:Qd0 n a0 a1 sa=some r):Rl (ZJ cx.P 35 0) 82 0 false (Qef a0 a1) sa r:=by
 unfold Qd0 at h
 rcases io h with ⟨ha1,h⟩ | ⟨ha1,h⟩
 ·obtain ⟨ta2,ha2,h⟩:=bo h;obtain ⟨ta3,ha3,h⟩:=bo h
  have q:=allE Ql ha3 (allE Ql ha2 (Qa (jDj ha1) QL))
  let o (l:List Orc):=b1::.el (QP ta2)::.el (QP ta3)::l
  rcases io h with ⟨ha4,h⟩ | ⟨ha4,h⟩
  ·have q:=allE Ql ha3 (allE Ql ha2 (Qa (nef ha4) q))
   let o l:=o (b0::.el (QP ta2)::.el (QP ta3)::l)
   rcases io h with ⟨ha5,h⟩ | ⟨ha5,h⟩
   ·cases h
    exact rx 7 (o [b1,.no,.no,.no]) [] [4] [] (Qa ha5 q)
   obtain ⟨ta6,ha6,h⟩:=bo h
   have q:=Qa (V9 ha6) (allE Ql ha3 (allE Ql ha2 (Qa (QA ha5) q)))
   let o l:=o (b0::.el (QP ta2)::.el (QP ta3)::.ret (B ta6)::l)
   rcases io h with ⟨ha7,h⟩ | ⟨ha7,h⟩
   ·obtain ⟨ta8,ha8,h⟩:=bo h
    have q:=Qa (Qep ha8) (allE Ql ha3 (allE Ql ha2 (Qa (Ud ha7) q)))
    let o l:=o (b0::.el (QP ta2)::.el (QP ta3)::.ret (B ta8)::l)
    rcases io h with ⟨ha9,h⟩ | ⟨ha9,h⟩
    ·have q:=allE Ql ha3 (allE Ql ha2 (Qa (Ud ha9) q))
     let o l:=o (b0::.el (QP ta2)::.el (QP ta3)::l)
     rcases io h with ⟨ha10,h⟩ | ⟨ha10,h⟩
     ·cases h
      exact rx 7 (o [b1]) [] [4] [] (Qa ha10 q)
     obtain ⟨ha11,h⟩:=gd h
     cases h
     exact rn 7 (o [b0]) [] [0,1,5] [] (Qa ha11 (Qa (QA ha10) q))
    cases h
    exact rx 7 (o [b1,.no]) [] [4] [] (Qa (Uc (QA ha9)) q)
   cases h
   exact rx 7 (o [b1,.no,.no]) [] [4] [] (Qa (Uc (QA ha7)) q)
  cases h
  exact rx 7 (o [b1,.no,.no,.no,.no]) [] [4] [] (Qa (net ha4) q)
 cases h
 exact rx 7 [b0] [] [] [] (Qa (jEj ha1) QL)
def Qd1 (n:Nat) (a0 a1:jVj):Option (Bool) :=
 if ((a0).length:Int)=((a1).length:Int) then
  (Q2 (Qd0 n a0 a1) n 0).bind fun t2=>match t2 with
   | (.inl t2)=>(
    some false)
   | (.inr t2)=>(
    some true)
 else
 some false
theorem Qee {n:Nat} {a0 a1:jVj} {r:Bool} (h:Qd1 n a0 a1=some r):Computes cx 35 [.lst false 5 a0,.lst false 5 a1] (B r):=by
 unfold Qd1 at h
 rcases io h with ⟨h1,h⟩ | ⟨h1,h⟩
 ·have q:=Qa (nef h1) QL
  obtain ⟨t2,h2,h⟩:=bo h
  rcases t2 with t2 | t2
  ·obtain rfl:=oi h
   exact rf [b0,.lp [] [0,1,5] [] .ret [(4,.d (B false))] [] 90] (Qa (QH Qeb h2) q)
  obtain rfl:=oi h
  exact rf [b0,.lp [] [0,1,5] [] (.exit 0) [] [] 90] (Qa (QH Qeb h2) q)
 obtain rfl:=oi h
 exact rf [b1] (Qa (net h1) QL)
def XE (n:Nat) (a0:jVj):Option (Int×Int×Bool×Bool×Int×Int×Int×jVj×jVj×jVj×Int×Int) :=
 (Q6 n a0).bind fun t1 =>
 if t1.2.1=0 then
  some (t1.2.2.2.2.1,t1.2.2.2.2.2.1,t1.2.2.2.2.2.2.1,t1.2.2.2.2.2.2.2.1,t1.2.2.2.2.2.2.2.2.1,t1.2.2.2.2.2.2.2.2.2.1,t1.2.2.2.2.2.2.2.2.2.2.1,t1.2.2.2.2.2.2.2.2.2.2.2.1,t1.2.2.2.2.2.2.2.2.2.2.2.2.1,t1.2.2.2.2.2.2.2.2.2.2.2.2.2,0,0)
 else
 some (0,0,false,false,0,0,0,[],[],[],t1.1,t1.2.1)
theorem jl {n:Nat} {a0:jVj} {r:Int×Int×Bool×Bool×Int×Int×Int×jVj×jVj×jVj×Int×Int} (h:XE n a0=some r):Computes cx 37 [.lst false 5 a0] (.tup [.agg [I r.1,I r.2.1,B r.2.2.1,B r.2.2.2.1,I r.2.2.2.2.1,I r.2.2.2.2.2.1,I r.2.2.2.2.2.2.1,.lst false 1 r.2.2.2.2.2.2.2.1,.lst false 6 r.2.2.2.2.2.2.2.2.1,.lst false 7 r.2.2.2.2.2.2.2.2.2.1],I r.2.2.2.2.2.2.2.2.2.2.1,I r.2.2.2.2.2.2.2.2.2.2.2]):=by
 unfold XE at h
 obtain ⟨t1,h1,h⟩:=bo h
 have q:=Qa (We h1) QL
 let o (l:List Orc):=.obj none (.tup [.ptr 0 0 0 0 0,.d (I t1.1),.d (I t1.2.1)]) (Qb t1.2.2.1 t1.2.2.2.1 t1.2.2.2.2.1 t1.2.2.2.2.2.1 t1.2.2.2.2.2.2.1 t1.2.2.2.2.2.2.2.1 t1.2.2.2.2.2.2.2.2.1 t1.2.2.2.2.2.2.2.2.2.1 t1.2.2.2.2.2.2.2.2.2.2.1 t1.2.2.2.2.2.2.2.2.2.2.2.1 t1.2.2.2.2.2.2.2.2.2.2.2.2.1 t1.2.2.2.2.2.2.2.2.2.2.2.2.2) []::l
 rcases io h with ⟨h2,h⟩ | ⟨h2,h⟩
 ·cases h
  exact rf (o [b0]) (Qa (nef h2) q)
 cases h
 exact (rf (r:=.tup [.agg [I 0,I 0,B false,B false,I 0,I 0,I 0,.lst true 0 [],.lst true 0 [],.lst true 0 []],I t1.1,I t1.2.1]) (o [b1]) (Qa (net h2) q)).le (LEs.refl _) (.tups (.cons (.aggs (.cons (.refl _) (.cons (.refl _) (.cons (.refl _) (.cons (.refl _) (.cons (.refl _) (.cons (.refl _) (.cons (.refl _) (.cons (.nilF) (.cons (.nilF) (.cons (.nilF) (.nil)))))))))))) (.cons (.refl _) (.cons (.refl _) (.nil)))))
end Go.Proofs.YtljabneifpkbjaaGreatDoor
