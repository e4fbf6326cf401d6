/- Printed by gsx.py: functions of the program as Lean functions, and that the code computes them. -/
import Derived.Test.YtljabneifpkbjaaGreatDoorGen4
set_option linter.unusedVariables false
set_option linter.unusedSimpArgs false
set_option linter.unnecessarySimpa false
set_option maxRecDepth 10000
set_option maxHeartbeats 4000000
namespace Go.Proofs.YtljabneifpkbjaaGreatDoor
open Go.SX
def UJ (n:Nat) (a1:jSj) (t1:Int×Int×jVj×jVj×jRj) (t9:jSj×jSj×Int×Int×Bool×Bool) (sa:(Int×jVj)):Option (((Int×jVj))⊕((jVj))) :=
 if sa.1 < ((t1.2.2.2.1).length:Int) then
  if 0≤sa.1∧sa.1 < ((t1.2.2.2.1).length:Int) then
  ((nth (t1.2.2.2.1) (Int.toNat sa.1)).bind Ze).bind fun ta3 =>
  (U9 n ta3.1 ta3.2.1 ta3.2.2.1 ta3.2.2.2.1 ta3.2.2.2.2 a1 t9.2.1).bind fun ta4 =>
  if ta4=true then
   if Wa 88 ((sa.2).length+1) then
   if Qh (sa.1+1) then
   some (.inl ((sa.1+1),(sa.2++([.agg [I ta3.1,.v (.string ta3.2.1),.lst false 1 ta3.2.2.1,.lst false 1 ta3.2.2.2.1,.v (.string ta3.2.2.2.2)]]:jVj))))
   else none
   else none
  else
  if Qh (sa.1+1) then
  some (.inl ((sa.1+1),sa.2))
  else none
  else none
 else
 some (.inr sa.2)
noncomputable def zr (a1:jSj) (t1:Int×Int×jVj×jVj×jRj) (t9:jSj×jSj×Int×Int×Bool×Bool):Lp ((Int×jVj)) ((jVj)):=⟨fun sa=>[(1,.fn (.func 82) [] [.ptr 0 0 0 0 0,.ptr 59 0 0 0 0]),(5,.own 108 0),(8,.own 83 0),(9,.d (I ((t1.2.2.2.1).length:Int))),(10,.d (I sa.1))],fun sa=>[(0,.box (.d (.v (.string a1)))),(22,.box (.agg [.own 23 0,.own 24 0,.d (I t1.2.2.2.2.1),.d (I t1.2.2.2.2.2.1),.d (B t1.2.2.2.2.2.2.1),.d (B t1.2.2.2.2.2.2.2.1),.d (I t1.2.2.2.2.2.2.2.2.1),.d (I t1.2.2.2.2.2.2.2.2.2.1),.d (I t1.2.2.2.2.2.2.2.2.2.2.1),.own 32 0,.own 33 0,.own 34 0])),(23,.row 0 5 t1.2.2.1),(24,.row 0 5 t1.2.2.2.1),(32,.row 0 1 t1.2.2.2.2.2.2.2.2.2.2.2.1),(33,.row 0 6 t1.2.2.2.2.2.2.2.2.2.2.2.2.1),(34,.row 0 7 t1.2.2.2.2.2.2.2.2.2.2.2.2.2),(59,.box (.d (.v (.string t9.2.1)))),(81,.box (.agg [.own 82 0,.own 83 0,.d (I t1.2.2.2.2.1),.d (I t1.2.2.2.2.2.1),.d (B t1.2.2.2.2.2.2.1),.d (B t1.2.2.2.2.2.2.2.1),.d (I t1.2.2.2.2.2.2.2.2.1),.d (I t1.2.2.2.2.2.2.2.2.2.1),.d (I t1.2.2.2.2.2.2.2.2.2.2.1),.own 91 0,.own 92 0,.own 93 0])),(82,.row 0 5 t1.2.2.1),(83,.row 0 5 t1.2.2.2.1),(91,.row 0 1 t1.2.2.2.2.2.2.2.2.2.2.2.1),(92,.row 0 6 t1.2.2.2.2.2.2.2.2.2.2.2.2.1),(93,.row 0 7 t1.2.2.2.2.2.2.2.2.2.2.2.2.2),(108,.row 0 5 sa.2)],fun _=>(.exit 0),fun _=>[(5,.own 108 0)],fun e=>[(0,.box (.d (.v (.string a1)))),(22,.box (.agg [.own 23 0,.own 24 0,.d (I t1.2.2.2.2.1),.d (I t1.2.2.2.2.2.1),.d (B t1.2.2.2.2.2.2.1),.d (B t1.2.2.2.2.2.2.2.1),.d (I t1.2.2.2.2.2.2.2.2.1),.d (I t1.2.2.2.2.2.2.2.2.2.1),.d (I t1.2.2.2.2.2.2.2.2.2.2.1),.own 32 0,.own 33 0,.own 34 0])),(23,.row 0 5 t1.2.2.1),(24,.row 0 5 t1.2.2.2.1),(32,.row 0 1 t1.2.2.2.2.2.2.2.2.2.2.2.1),(33,.row 0 6 t1.2.2.2.2.2.2.2.2.2.2.2.2.1),(34,.row 0 7 t1.2.2.2.2.2.2.2.2.2.2.2.2.2),(59,.box (.d (.v (.string t9.2.1)))),(81,.box (.agg [.own 82 0,.own 83 0,.d (I t1.2.2.2.2.1),.d (I t1.2.2.2.2.2.1),.d (B t1.2.2.2.2.2.2.1),.d (B t1.2.2.2.2.2.2.2.1),.d (I t1.2.2.2.2.2.2.2.2.1),.d (I t1.2.2.2.2.2.2.2.2.2.1),.d (I t1.2.2.2.2.2.2.2.2.2.2.1),.own 91 0,.own 92 0,.own 93 0])),(82,.row 0 5 t1.2.2.1),(83,.row 0 5 t1.2.2.2.1),(91,.row 0 1 t1.2.2.2.2.2.2.2.2.2.2.2.1),(92,.row 0 6 t1.2.2.2.2.2.2.2.2.2.2.2.2.1),(93,.row 0 7 t1.2.2.2.2.2.2.2.2.2.2.2.2.2),(108,.row 0 5 e)]⟩
theorem zj {n:Nat} {a1:jSj} {t1:Int×Int×jVj×jVj×jRj} {t9:jSj×jSj×Int×Int×Bool×Bool} (sa:(Int×jVj)) (r) (h:UJ n a1 t1 t9 sa=some r):Rl (ZJ cx.P 81 0) 23 103 false (zr a1 t1 t9) sa r:=by
 unfold UJ at h
 rcases io h with ⟨ha1,h⟩ | ⟨ha1,h⟩
 ·obtain ⟨ha2,h⟩:=gd h;obtain ⟨ta3,ha3,h⟩:=bo h;obtain ⟨ta4,ha4,h⟩:=bo h
  have q:=Qa (zW ha4) (Qa (QX Ql ha3) (Qa ha2 (Qa (jDj ha1) QL)))
  let o (l:List Orc):=b1::b1::.el (QP ta3)::b1::.ret (B ta4)::l
  rcases io h with ⟨ha5,h⟩ | ⟨ha5,h⟩
  ·obtain ⟨ha6,h⟩:=gd h;obtain ⟨ha7,h⟩:=gd h
   cases h
   exact rn 109 (o [b1,b1]) [] [1,5,8,9,10] [0,22,23,24,32,33,34,59,81,82,83,91,92,93,108] (Qa ha7 (Qa (ro 65 ha6) (Qa ha5 q)))
  obtain ⟨ha6,h⟩:=gd h
  cases h
  exact rn 109 (o [b0]) [] [1,5,8,9,10] [0,22,23,24,32,33,34,59,81,82,83,91,92,93,108] (Qa ha6 (Qa (QA ha5) q))
 cases h
 exact rx 109 [b0] [] [5] [0,22,23,24,32,33,34,59,81,82,83,91,92,93,108] (Qa (jEj ha1) QL)
def UI (n:Nat) (t10:jVj) (sa:(Int×jVj)):Option (((Int×jVj))⊕((jVj))) :=
 if sa.1 < ((t10).length:Int) then
  if 0≤sa.1∧sa.1 < ((t10).length:Int) then
  ((nth (t10) (Int.toNat sa.1)).bind Ze).bind fun ta3 =>
  if 0≤((ta3.2.2.1).length:Int)∧((ta3.2.2.1).length:Int)≤((ta3.2.2.1).length:Int)∧16 * ((ta3.2.2.1).length:Int)≤281474976710656∧((ta3.2.2.1).length:Int)≤9223372036854775807 then
  if 0≤((ta3.2.2.2.1).length:Int)∧((ta3.2.2.2.1).length:Int)≤((ta3.2.2.2.1).length:Int)∧8 * ((ta3.2.2.2.1).length:Int)≤281474976710656∧((ta3.2.2.2.1).length:Int)≤9223372036854775807 then
  if Qh (((sa.2).length:Int)+1) then
  if Wa 88 ((sa.2).length+1) then
  if Qh (sa.1+1) then
  some (.inl ((sa.1+1),(sa.2++([.agg [I (((sa.2).length:Int)+1),.v (.string ta3.2.1),.lst false 1 (ta3.2.2.1.take ((List.replicate (Int.toNat ((ta3.2.2.1).length:Int)) (.v (.string ⟨#[]⟩):D)):jVj).length++(List.replicate (Int.toNat ((ta3.2.2.1).length:Int)) (.v (.string ⟨#[]⟩):D)).drop (ta3.2.2.1).length),.lst false 1 (ta3.2.2.2.1.take ((List.replicate (Int.toNat ((ta3.2.2.2.1).length:Int)) (I 0:D)):jVj).length++(List.replicate (Int.toNat ((ta3.2.2.2.1).length:Int)) (I 0:D)).drop (ta3.2.2.2.1).length),.v (.string ta3.2.2.2.2)]]:jVj))))
  else none
  else none
  else none
  else none
  else none
  else none
 else
 some (.inr sa.2)
noncomputable def zq (t10:jVj):Lp ((Int×jVj)) ((jVj)):=⟨fun sa=>[(12,.own 144 0),(42,.own 108 0),(43,.d (I ((t10).length:Int))),(44,.d (I sa.1))],fun sa=>[(108,.row 0 5 t10),(144,.row 0 5 sa.2)],fun _=>(.exit 0),fun _=>[(12,.own 144 0)],fun e=>[(144,.row 0 5 e)]⟩
theorem zi {n:Nat} {t10:jVj} (sa:(Int×jVj)) (r) (h:UI n t10 sa=some r):Rl (ZJ cx.P 33 0) 60 0 false (zq t10) sa r:=by
 unfold UI at h
 rcases io h with ⟨ha1,h⟩ | ⟨ha1,h⟩
 ·obtain ⟨ha2,h⟩:=gd h;obtain ⟨ta3,ha3,h⟩:=bo h;obtain ⟨ha4,h⟩:=gd h;obtain ⟨ha5,h⟩:=gd h;obtain ⟨ha6,h⟩:=gd h;obtain ⟨ha7,h⟩:=gd h;obtain ⟨ha8,h⟩:=gd h
  cases h
  exact rn 145 [b1,b1,.el (QP ta3),b1,b1,b1,b1] [] [12,42,43,44] [108,144] (Qa ha8 (Qa (ro 65 ha7) (Qa ha6 (Qa ha5 (Qa ha4 (Qa (QX Ql ha3) (Qa ha2 (Qa (jDj ha1) QL))))))))
 cases h
 exact rx 145 [b0] [] [12] [144] (Qa (jEj ha1) QL)
def Ei (n:Nat) (a0:jVj) (a1:jSj):Option (jVj×Int) :=
 (Q6 n a0).bind fun t1 =>
 if t1.2.1=0 then
  (Qw n 109 t1.2.2.1 t1.2.2.2.1 t1.2.2.2.2.1 t1.2.2.2.2.2.1 t1.2.2.2.2.2.2.1 t1.2.2.2.2.2.2.2.1 t1.2.2.2.2.2.2.2.2.1 t1.2.2.2.2.2.2.2.2.2.1 t1.2.2.2.2.2.2.2.2.2.2.1 t1.2.2.2.2.2.2.2.2.2.2.2.1 t1.2.2.2.2.2.2.2.2.2.2.2.2.1 t1.2.2.2.2.2.2.2.2.2.2.2.2.2).bind fun t3 =>
  (Zb n t3 a1).bind fun t4 =>
  (Qm n (!t4) 10).bind fun t5 =>
  if t5=0 then
   (QE n t3 a1).bind fun t7 =>
   if 0≤t7∧t7 < ((t1.2.2.2.2.2.2.2.2.2.2.2.2.1).length:Int) then
   ((nth (t1.2.2.2.2.2.2.2.2.2.2.2.2.1) (Int.toNat t7)).bind QM).bind fun t9 =>
   (Q2 (UJ n a1 t1 t9) n (0,[])).bind fun t10 =>
   (Q2 (UI n t10) n (0,[])).bind fun t11 =>
   some (t11,0)
   else none
  else
  some ([],t5)
 else
 some ([],t1.2.1)
theorem jK {n:Nat} {a0:jVj} {a1:jSj} {r:jVj×Int} (h:Ei n a0 a1=some r):Computes cx 33 [.lst false 5 a0,.v (.string a1)] (.tup [.lst false 5 r.1,I r.2]):=by
 unfold Ei at h
 obtain ⟨t1,h1,h⟩:=bo h
 have q:=Qa (We h1) QL
 let o (l:List Orc):=b1::.obj none (.tup [.ptr 0 0 0 0 0,.d (I t1.1),.d (I t1.2.1)]) (Qb t1.2.2.1 t1.2.2.2.1 t1.2.2.2.2.1 t1.2.2.2.2.2.1 t1.2.2.2.2.2.2.1 t1.2.2.2.2.2.2.2.1 t1.2.2.2.2.2.2.2.2.1 t1.2.2.2.2.2.2.2.2.2.1 t1.2.2.2.2.2.2.2.2.2.2.1 t1.2.2.2.2.2.2.2.2.2.2.2.1 t1.2.2.2.2.2.2.2.2.2.2.2.2.1 t1.2.2.2.2.2.2.2.2.2.2.2.2.2) []::l
 rcases io h with ⟨h2,h⟩ | ⟨h2,h⟩
 ·obtain ⟨t3,h3,h⟩:=bo h;obtain ⟨t4,h4,h⟩:=bo h;obtain ⟨t5,h5,h⟩:=bo h
  have q:=Qa (Qu h5) (Qa (Z2 h4) (Qa (QC h3) (Qa (nef h2) q)))
  let o l:=o (b0::.obj (some 22) (.d (.lst false 1 t3)) (Qb t1.2.2.1 t1.2.2.2.1 t1.2.2.2.2.1 t1.2.2.2.2.2.1 t1.2.2.2.2.2.2.1 t1.2.2.2.2.2.2.2.1 t1.2.2.2.2.2.2.2.2.1 t1.2.2.2.2.2.2.2.2.2.1 t1.2.2.2.2.2.2.2.2.2.2.1 t1.2.2.2.2.2.2.2.2.2.2.2.1 t1.2.2.2.2.2.2.2.2.2.2.2.2.1 t1.2.2.2.2.2.2.2.2.2.2.2.2.2) ZV::.ret (B t4)::.ret (I t5)::l)
  rcases io h with ⟨h6,h⟩ | ⟨h6,h⟩
  ·obtain ⟨t7,h7,h⟩:=bo h;obtain ⟨h8,h⟩:=gd h;obtain ⟨t9,h9,h⟩:=bo h;obtain ⟨t10,h10,h⟩:=bo h;obtain ⟨t11,h11,h⟩:=bo h
   cases h
   exact rf (o [b0,b1,.obj (some 22) (.d (.lst false 1 t3)) (Qb t1.2.2.1 t1.2.2.2.1 t1.2.2.2.2.1 t1.2.2.2.2.2.1 t1.2.2.2.2.2.2.1 t1.2.2.2.2.2.2.2.1 t1.2.2.2.2.2.2.2.2.1 t1.2.2.2.2.2.2.2.2.2.1 t1.2.2.2.2.2.2.2.2.2.2.1 t1.2.2.2.2.2.2.2.2.2.2.2.1 t1.2.2.2.2.2.2.2.2.2.2.2.2.1 t1.2.2.2.2.2.2.2.2.2.2.2.2.2) ZV,.ret (I t7),b1,.el (QB t9),.obj none (.tup [.ptr 0 0 0 0 0,.d (I t1.1),.d (I t1.2.1)]) (Qb t1.2.2.1 t1.2.2.2.1 t1.2.2.2.2.1 t1.2.2.2.2.2.1 t1.2.2.2.2.2.2.1 t1.2.2.2.2.2.2.2.1 t1.2.2.2.2.2.2.2.2.1 t1.2.2.2.2.2.2.2.2.2.1 t1.2.2.2.2.2.2.2.2.2.2.1 t1.2.2.2.2.2.2.2.2.2.2.2.1 t1.2.2.2.2.2.2.2.2.2.2.2.2.1 t1.2.2.2.2.2.2.2.2.2.2.2.2.2) [],b1,.lp [5,5] [1,5,8,9,10] [0,22,23,24,32,33,34,59,81,82,83,91,92,93,108] (.exit 0) [(5,.own 108 0)] [(0,.box (.d (.v (.string a1)))),(22,.box (.agg [.own 23 0,.own 24 0,.d (I t1.2.2.2.2.1),.d (I t1.2.2.2.2.2.1),.d (B t1.2.2.2.2.2.2.1),.d (B t1.2.2.2.2.2.2.2.1),.d (I t1.2.2.2.2.2.2.2.2.1),.d (I t1.2.2.2.2.2.2.2.2.2.1),.d (I t1.2.2.2.2.2.2.2.2.2.2.1),.own 32 0,.own 33 0,.own 34 0])),(23,.row 0 5 t1.2.2.1),(24,.row 0 5 t1.2.2.2.1),(32,.row 0 1 t1.2.2.2.2.2.2.2.2.2.2.2.1),(33,.row 0 6 t1.2.2.2.2.2.2.2.2.2.2.2.2.1),(34,.row 0 7 t1.2.2.2.2.2.2.2.2.2.2.2.2.2),(59,.box (.d (.v (.string t9.2.1)))),(81,.box (.agg [.own 82 0,.own 83 0,.d (I t1.2.2.2.2.1),.d (I t1.2.2.2.2.2.1),.d (B t1.2.2.2.2.2.2.1),.d (B t1.2.2.2.2.2.2.2.1),.d (I t1.2.2.2.2.2.2.2.2.1),.d (I t1.2.2.2.2.2.2.2.2.2.1),.d (I t1.2.2.2.2.2.2.2.2.2.2.1),.own 91 0,.own 92 0,.own 93 0])),(82,.row 0 5 t1.2.2.1),(83,.row 0 5 t1.2.2.2.1),(91,.row 0 1 t1.2.2.2.2.2.2.2.2.2.2.2.1),(92,.row 0 6 t1.2.2.2.2.2.2.2.2.2.2.2.2.1),(93,.row 0 7 t1.2.2.2.2.2.2.2.2.2.2.2.2.2),(108,.row 0 5 t10)] 142,.lp [12,5] [12,42,43,44] [108,144] (.exit 0) [(12,.own 144 0)] [(144,.row 0 5 t11)] 205]) (Qa (QH zi h11) (Qa (QH zj h10) (Qa (We h1) (Qa (QX Qq h9) (Qa h8 (Qa (QK h7) (Qa (QC h3) (Qa (nef h6) q))))))))
  cases h
  exact (rf (r:=.tup [.lst true 0 [],I t5]) (o [b1]) (Qa (net h6) q)).le (LEs.refl _) (.tups (.cons (.nilF) (.cons (.refl _) (.nil))))
 cases h
 exact (rf (r:=.tup [.lst true 0 [],I t1.2.1]) (o [b1,b1]) (Qa (net h2) (Qa (net h2) q))).le (LEs.refl _) (.tups (.cons (.nilF) (.cons (.refl _) (.nil))))
def Qe7 (n:Nat) (a0:jVj) (a1:Int):Option (Bool) :=
 (WM n a0 a1).bind fun t1 =>
 if t1=true then
  (Vo n a0).bind fun t3 =>
  some (t3.2.2.2.2.2.2.2.2.2.2.2 == 0)
 else
 some false
theorem Qfv {n:Nat} {a0:jVj} {a1:Int} {r:Bool} (h:Qe7 n a0 a1=some r):Computes cx 36 [.lst false 5 a0,I a1] (B r):=by
 unfold Qe7 at h
 obtain ⟨t1,h1,h⟩:=bo h
 have q:=Qa (XY h1) QL
 rcases io h with ⟨h2,h⟩ | ⟨h2,h⟩
 ·obtain ⟨t3,h3,h⟩:=bo h
  cases h
  exact rf [.ret (B t1),b0,.ret (.tup [.agg [I t3.1,I t3.2.1,B t3.2.2.1,B t3.2.2.2.1,I t3.2.2.2.2.1,I t3.2.2.2.2.2.1,I t3.2.2.2.2.2.2.1,.lst false 1 t3.2.2.2.2.2.2.2.1,.lst false 6 t3.2.2.2.2.2.2.2.2.1,.lst false 7 t3.2.2.2.2.2.2.2.2.2.1],I t3.2.2.2.2.2.2.2.2.2.2.1,I t3.2.2.2.2.2.2.2.2.2.2.2])] (Qa (je h3) (Qa (Ud h2) q))
 obtain rfl:=oi h
 exact rf [.ret (B t1),b1] (Qa (Uc (QA h2)) q)
def XE (n:Nat) (a0:jVj):Option (Int×Int×Bool×Bool×Int×Int×Int×jVj×jVj×jVj×Int×Int) :=
 (Q6 n a0).bind fun t1 =>
 if t1.2.1=0 then
  some (t1.2.2.2.2.1,t1.2.2.2.2.2.1,t1.2.2.2.2.2.2.1,t1.2.2.2.2.2.2.2.1,t1.2.2.2.2.2.2.2.2.1,t1.2.2.2.2.2.2.2.2.2.1,t1.2.2.2.2.2.2.2.2.2.2.1,t1.2.2.2.2.2.2.2.2.2.2.2.1,t1.2.2.2.2.2.2.2.2.2.2.2.2.1,t1.2.2.2.2.2.2.2.2.2.2.2.2.2,0,0)
 else
 some (0,0,false,false,0,0,0,[],[],[],t1.1,t1.2.1)
theorem jl {n:Nat} {a0:jVj} {r:Int×Int×Bool×Bool×Int×Int×Int×jVj×jVj×jVj×Int×Int} (h:XE n a0=some r):Computes cx 37 [.lst false 5 a0] (.tup [.agg [I r.1,I r.2.1,B r.2.2.1,B r.2.2.2.1,I r.2.2.2.2.1,I r.2.2.2.2.2.1,I r.2.2.2.2.2.2.1,.lst false 1 r.2.2.2.2.2.2.2.1,.lst false 6 r.2.2.2.2.2.2.2.2.1,.lst false 7 r.2.2.2.2.2.2.2.2.2.1],I r.2.2.2.2.2.2.2.2.2.2.1,I r.2.2.2.2.2.2.2.2.2.2.2]):=by
 unfold XE at h
 obtain ⟨t1,h1,h⟩:=bo h
 have q:=Qa (We h1) QL
 let o (l:List Orc):=.obj none (.tup [.ptr 0 0 0 0 0,.d (I t1.1),.d (I t1.2.1)]) (Qb t1.2.2.1 t1.2.2.2.1 t1.2.2.2.2.1 t1.2.2.2.2.2.1 t1.2.2.2.2.2.2.1 t1.2.2.2.2.2.2.2.1 t1.2.2.2.2.2.2.2.2.1 t1.2.2.2.2.2.2.2.2.2.1 t1.2.2.2.2.2.2.2.2.2.2.1 t1.2.2.2.2.2.2.2.2.2.2.2.1 t1.2.2.2.2.2.2.2.2.2.2.2.2.1 t1.2.2.2.2.2.2.2.2.2.2.2.2.2) []::l
 rcases io h with ⟨h2,h⟩ | ⟨h2,h⟩
 ·cases h
  exact rf (o [b0]) (Qa (nef h2) q)
 cases h
 exact (rf (r:=.tup [.agg [I 0,I 0,B false,B false,I 0,I 0,I 0,.lst true 0 [],.lst true 0 [],.lst true 0 []],I t1.1,I t1.2.1]) (o [b1]) (Qa (net h2) q)).le (LEs.refl _) (.tups (.cons (.aggs (.cons (.refl _) (.cons (.refl _) (.cons (.refl _) (.cons (.refl _) (.cons (.refl _) (.cons (.refl _) (.cons (.refl _) (.cons (.nilF) (.cons (.nilF) (.cons (.nilF) (.nil)))))))))))) (.cons (.refl _) (.cons (.refl _) (.nil)))))
def Qfe (n:Nat) (a0:jVj) (a1:Int) (a2:jSj) (a3 a4:jVj) (a5:jSj):Option (Int) :=
 (Q6 n a0).bind fun t1 =>
 (WX n a1 a2 a3 a4 a5).bind fun t2 =>
 (Qm n (decide (((a0).length:Int) ≥ 1000)) 5).bind fun t3 =>
 (Qo n ([I t1.2.1,I t2,I t3])).bind fun t4 =>
 if t4=0 then
  (Qs n a1 a2 a3 a4 a5 t1.2.2.1 t1.2.2.2.1 t1.2.2.2.2.1 t1.2.2.2.2.2.1 t1.2.2.2.2.2.2.1 t1.2.2.2.2.2.2.2.1 t1.2.2.2.2.2.2.2.2.1 t1.2.2.2.2.2.2.2.2.2.1 t1.2.2.2.2.2.2.2.2.2.2.1 t1.2.2.2.2.2.2.2.2.2.2.2.1 t1.2.2.2.2.2.2.2.2.2.2.2.2.1 t1.2.2.2.2.2.2.2.2.2.2.2.2.2).bind fun t6 =>
  some t6
 else
 some t4
theorem Qfx {n:Nat} {a0:jVj} {a1:Int} {a2:jSj} {a3 a4:jVj} {a5:jSj} {r:Int} (h:Qfe n a0 a1 a2 a3 a4 a5=some r):Computes cx 38 [.lst false 5 a0,.agg [I a1,.v (.string a2),.lst false 1 a3,.lst false 1 a4,.v (.string a5)]] (I r):=by
 unfold Qfe at h
 obtain ⟨t1,h1,h⟩:=bo h;obtain ⟨t2,h2,h⟩:=bo h;obtain ⟨t3,h3,h⟩:=bo h;obtain ⟨t4,h4,h⟩:=bo h
 have q:=Qa (((Qx h4).le (.cons (.full _ _ _) (.nil)) (.refl _)):Computes cx 67 [.lst true 1 [I t1.2.1,I t2,I t3]] (I t4)) (Qa (Qu h3) (Qa (Ja h2) (Qa (We h1) QL)))
 let o (l:List Orc):=.obj none (.tup [.ptr 0 0 0 0 0,.d (I t1.1),.d (I t1.2.1)]) (Qb t1.2.2.1 t1.2.2.2.1 t1.2.2.2.2.1 t1.2.2.2.2.2.1 t1.2.2.2.2.2.2.1 t1.2.2.2.2.2.2.2.1 t1.2.2.2.2.2.2.2.2.1 t1.2.2.2.2.2.2.2.2.2.1 t1.2.2.2.2.2.2.2.2.2.2.1 t1.2.2.2.2.2.2.2.2.2.2.2.1 t1.2.2.2.2.2.2.2.2.2.2.2.2.1 t1.2.2.2.2.2.2.2.2.2.2.2.2.2) []::.ret (I t2)::.ret (I t3)::.ret (I t4)::l
 rcases io h with ⟨h5,h⟩ | ⟨h5,h⟩
 ·obtain ⟨t6,h6,h⟩:=bo h;obtain rfl:=oi h
  exact rf (o [b0,.obj (some 11) (.d (I t6)) (Qb t1.2.2.1 t1.2.2.2.1 t1.2.2.2.2.1 t1.2.2.2.2.2.1 t1.2.2.2.2.2.2.1 t1.2.2.2.2.2.2.2.1 t1.2.2.2.2.2.2.2.2.1 t1.2.2.2.2.2.2.2.2.2.1 t1.2.2.2.2.2.2.2.2.2.2.1 t1.2.2.2.2.2.2.2.2.2.2.2.1 t1.2.2.2.2.2.2.2.2.2.2.2.2.1 t1.2.2.2.2.2.2.2.2.2.2.2.2.2) ZV]) (Qa (YZ h6) (Qa (nef h5) q))
 obtain rfl:=oi h
 exact rf (o [b1]) (Qa (net h5) q)
def Qe6 (n:Nat) (a0 a1:Int) (a2 a3:Bool) (a4 a5 a6:Int) (a7 a8 a9:jVj) (sa:(Unit)⊕(Int×jVj)):Option (((Unit)⊕(Int×jVj))⊕((Unit)⊕(jVj))):=match sa with
 | (.inl sa)=>(
  if 0 < ((a8).length:Int) then
   (el QM a8 0).bind fun ta2 =>
   some (.inl (.inr (1,[.agg [.v (.string ta2.1),.v (.string ta2.2.1),I ta2.2.2.1,I ta2.2.2.2.1,B ta2.2.2.2.2.1,B ta2.2.2.2.2.2]])))
  else
  some (.inr (.inl ())))
 | (.inr sa)=>(
  if sa.1 < ((a8).length:Int) then
   (el QM a8 sa.1).bind fun ta2 =>
   if Wa 56 ((sa.2).length+1) then
   if Qh (sa.1+1) then
   some (.inl (.inr ((sa.1+1),(sa.2++([.agg [.v (.string ta2.1),.v (.string ta2.2.1),I ta2.2.2.1,I ta2.2.2.2.1,B ta2.2.2.2.2.1,B ta2.2.2.2.2.2]]:jVj)))))
   else none
   else none
  else
  some (.inr (.inr sa.2)))
noncomputable def QfU (a0 a1:Int) (a2 a3:Bool) (a4 a5 a6:Int) (a7 a8 a9:jVj):Lp ((Unit)⊕(Int×jVj)) ((Unit)⊕(jVj)):=⟨fun
 | (.inl sa)=>[(1,.ptr 0 0 0 0 0),(2,.ptr 1 0 0 0 0),(3,.ptr 19 0 0 0 0),(26,.d (.lst false 6 a8)),(27,.d (I ((a8).length:Int))),(28,.d (I 0))]
 | (.inr sa)=>[(1,.ptr 0 0 0 0 0),(2,.ptr 1 0 0 0 0),(3,.ptr 19 0 0 0 0),(26,.d (.lst false 6 a8)),(27,.d (I ((a8).length:Int))),(28,.d (I sa.1))],fun
 | (.inl sa)=>[(0,.box (.d (.agg [I a0,I a1,B a2,B a3,I a4,I a5,I a6,.lst false 1 a7,.lst false 6 a8,.lst false 7 a9]))),(1,.box (.d (.agg [I 0,I 0,B false,B false,I 0,I 0,I 0,.lst true 0 [],.lst true 0 [],.lst true 0 []]))),(19,.box (.d (.agg [I a0,I a1,B a2,B a3,I a4,I a5,I a6,.lst false 1 a7,.lst true 0 [],.lst true 0 []])))]
 | (.inr sa)=>[(0,.box (.d (.agg [I a0,I a1,B a2,B a3,I a4,I a5,I a6,.lst false 1 a7,.lst false 6 a8,.lst false 7 a9]))),(1,.box (.d (.agg [I 0,I 0,B false,B false,I 0,I 0,I 0,.lst true 0 [],.lst true 0 [],.lst true 0 []]))),(19,.box (.agg [.d (I a0),.d (I a1),.d (B a2),.d (B a3),.d (I a4),.d (I a5),.d (I a6),.d (.lst false 1 a7),.own 34 0,.d (.lst true 0 [])])),(34,.row 0 6 sa.2)],fun _=>(.exit 0),fun _=>[(1,.ptr 0 0 0 0 0),(2,.ptr 1 0 0 0 0),(3,.ptr 19 0 0 0 0)],fun
 | (.inl e)=>[(0,.box (.d (.agg [I a0,I a1,B a2,B a3,I a4,I a5,I a6,.lst false 1 a7,.lst false 6 a8,.lst false 7 a9]))),(1,.box (.d (.agg [I 0,I 0,B false,B false,I 0,I 0,I 0,.lst true 0 [],.lst true 0 [],.lst true 0 []]))),(19,.box (.d (.agg [I a0,I a1,B a2,B a3,I a4,I a5,I a6,.lst false 1 a7,.lst true 0 [],.lst true 0 []])))]
 | (.inr e)=>[(0,.box (.d (.agg [I a0,I a1,B a2,B a3,I a4,I a5,I a6,.lst false 1 a7,.lst false 6 a8,.lst false 7 a9]))),(1,.box (.d (.agg [I 0,I 0,B false,B false,I 0,I 0,I 0,.lst true 0 [],.lst true 0 [],.lst true 0 []]))),(19,.box (.agg [.d (I a0),.d (I a1),.d (B a2),.d (B a3),.d (I a4),.d (I a5),.d (I a6),.d (.lst false 1 a7),.own 34 0,.d (.lst true 0 [])])),(34,.row 0 6 e)]⟩
theorem Qfr {n:Nat} {a0 a1:Int} {a2 a3:Bool} {a4 a5 a6:Int} {a7 a8 a9:jVj} (sa:(Unit)⊕(Int×jVj)) (r) (h:Qe6 n a0 a1 a2 a3 a4 a5 a6 a7 a8 a9 sa=some r):Rl (ZJ cx.P 40 0) 54 0 false (QfU a0 a1 a2 a3 a4 a5 a6 a7 a8 a9) sa r:=by
 unfold Qe6 at h
 rcases sa with sa | sa
 ·rcases io h with ⟨ha1,h⟩ | ⟨ha1,h⟩
  ·obtain ⟨ta2,ha2,h⟩:=bo h
   cases h
   exact rn 25 [b1,.el (QB ta2),.no,.no] [] [1,2,3,26,27,28] [0,1,19,34] (Qa ((by unfold Qh;omega):Qh 1) (allE Qq ha2 (Qa (jDj ha1) QL)))
  cases h
  exact rx 25 [b0] [] [1,2,3] [0,1,19] (Qa (jEj ha1) QL)
 ·rcases io h with ⟨ha1,h⟩ | ⟨ha1,h⟩
  ·obtain ⟨ta2,ha2,h⟩:=bo h;obtain ⟨ha3,h⟩:=gd h;obtain ⟨ha4,h⟩:=gd h
   cases h
   exact rn 35 [b1,.el (QB ta2),b1] [] [1,2,3,26,27,28] [0,1,19,34] (Qa ha4 (Qa (ro 76 ha3) (allE Qq ha2 (Qa (jDj ha1) QL))))
  cases h
  exact rx 35 [b0] [] [1,2,3] [0,1,19,34] (Qa (jEj ha1) QL)
def Qe5 (n:Nat) (a0 a1:Int) (a2 a3:Bool) (a4 a5 a6:Int) (a7 a9:jVj) (sa:(Unit)⊕(Int×jVj)):Option (((Unit)⊕(Int×jVj))⊕((Unit)⊕(jVj))):=match sa with
 | (.inl sa)=>(
  if 0 < ((a9).length:Int) then
   (el Z6 a9 0).bind fun ta2 =>
   some (.inl (.inr (1,[.agg [.v (.string ta2.1),I ta2.2.1,I ta2.2.2.1,I ta2.2.2.2.1,I ta2.2.2.2.2.1,I ta2.2.2.2.2.2.1,B ta2.2.2.2.2.2.2]])))
  else
  some (.inr (.inl ())))
 | (.inr sa)=>(
  if sa.1 < ((a9).length:Int) then
   (el Z6 a9 sa.1).bind fun ta2 =>
   if Wa 64 ((sa.2).length+1) then
   if Qh (sa.1+1) then
   some (.inl (.inr ((sa.1+1),(sa.2++([.agg [.v (.string ta2.1),I ta2.2.1,I ta2.2.2.1,I ta2.2.2.2.1,I ta2.2.2.2.2.1,I ta2.2.2.2.2.2.1,B ta2.2.2.2.2.2.2]]:jVj)))))
   else none
   else none
  else
  some (.inr (.inr sa.2)))
noncomputable def QfT (a0 a1:Int) (a2 a3:Bool) (a4 a5 a6:Int) (a7 a9:jVj):Lp ((Unit)⊕(Int×jVj)) ((Unit)⊕(jVj)):=⟨fun
 | (.inl sa)=>[(2,.ptr 1 0 0 0 0),(3,.ptr 19 0 0 0 0),(40,.d (.lst false 7 a9)),(41,.d (I ((a9).length:Int))),(42,.d (I 0))]
 | (.inr sa)=>[(2,.ptr 1 0 0 0 0),(3,.ptr 19 0 0 0 0),(40,.d (.lst false 7 a9)),(41,.d (I ((a9).length:Int))),(42,.d (I sa.1))],fun
 | (.inl sa)=>[(1,.box (.d (.agg [I 0,I 0,B false,B false,I 0,I 0,I 0,.lst true 0 [],.lst true 0 [],.lst true 0 []]))),(19,.box (.d (.agg [I a0,I a1,B a2,B a3,I a4,I a5,I a6,.lst false 1 a7,.lst true 0 [],.lst true 0 []])))]
 | (.inr sa)=>[(1,.box (.d (.agg [I 0,I 0,B false,B false,I 0,I 0,I 0,.lst true 0 [],.lst true 0 [],.lst true 0 []]))),(19,.box (.agg [.d (I a0),.d (I a1),.d (B a2),.d (B a3),.d (I a4),.d (I a5),.d (I a6),.d (.lst false 1 a7),.d (.lst true 0 []),.own 73 0])),(73,.row 0 7 sa.2)],fun _=>(.exit 2),fun _=>[(2,.ptr 1 0 0 0 0),(3,.ptr 19 0 0 0 0)],fun
 | (.inl e)=>[(1,.box (.d (.agg [I 0,I 0,B false,B false,I 0,I 0,I 0,.lst true 0 [],.lst true 0 [],.lst true 0 []]))),(19,.box (.d (.agg [I a0,I a1,B a2,B a3,I a4,I a5,I a6,.lst false 1 a7,.lst true 0 [],.lst true 0 []])))]
 | (.inr e)=>[(1,.box (.d (.agg [I 0,I 0,B false,B false,I 0,I 0,I 0,.lst true 0 [],.lst true 0 [],.lst true 0 []]))),(19,.box (.agg [.d (I a0),.d (I a1),.d (B a2),.d (B a3),.d (I a4),.d (I a5),.d (I a6),.d (.lst false 1 a7),.d (.lst true 0 []),.own 73 0])),(73,.row 0 7 e)]⟩
theorem Qfq {n:Nat} {a0 a1:Int} {a2 a3:Bool} {a4 a5 a6:Int} {a7 a9:jVj} (sa:(Unit)⊕(Int×jVj)) (r) (h:Qe5 n a0 a1 a2 a3 a4 a5 a6 a7 a9 sa=some r):Rl (ZJ cx.P 40 1) 54 0 false (QfT a0 a1 a2 a3 a4 a5 a6 a7 a9) sa r:=by
 unfold Qe5 at h
 rcases sa with sa | sa
 ·rcases io h with ⟨ha1,h⟩ | ⟨ha1,h⟩
  ·obtain ⟨ta2,ha2,h⟩:=bo h
   cases h
   exact rn 64 [b1,.el (Q7 ta2),.no,.no] [] [2,3,40,41,42] [1,19,73] (Qa ((by unfold Qh;omega):Qh 1) (allE Q0 ha2 (Qa (jDj ha1) QL)))
  cases h
  exact rx 64 [b0] [] [2,3] [1,19] (Qa (jEj ha1) QL)
 ·rcases io h with ⟨ha1,h⟩ | ⟨ha1,h⟩
  ·obtain ⟨ta2,ha2,h⟩:=bo h;obtain ⟨ha3,h⟩:=gd h;obtain ⟨ha4,h⟩:=gd h
   cases h
   exact rn 74 [b1,.el (Q7 ta2),b1] [] [2,3,40,41,42] [1,19,73] (Qa ha4 (Qa (ro 56 ha3) (allE Q0 ha2 (Qa (jDj ha1) QL))))
  cases h
  exact rx 74 [b0] [] [2,3] [1,19,73] (Qa (jEj ha1) QL)
def Qe4 (n:Nat) (a0 a1:Int) (a2 a3:Bool) (a4 a5 a6:Int) (a7 a9 t1:jVj) (sa:(Unit)⊕(Int×jVj)):Option (((Unit)⊕(Int×jVj))⊕((Unit)⊕(jVj))):=match sa with
 | (.inl sa)=>(
  if 0 < ((a9).length:Int) then
   (el Z6 a9 0).bind fun ta2 =>
   some (.inl (.inr (1,[.agg [.v (.string ta2.1),I ta2.2.1,I ta2.2.2.1,I ta2.2.2.2.1,I ta2.2.2.2.2.1,I ta2.2.2.2.2.2.1,B ta2.2.2.2.2.2.2]])))
  else
  some (.inr (.inl ())))
 | (.inr sa)=>(
  if sa.1 < ((a9).length:Int) then
   (el Z6 a9 sa.1).bind fun ta2 =>
   if Wa 64 ((sa.2).length+1) then
   if Qh (sa.1+1) then
   some (.inl (.inr ((sa.1+1),(sa.2++([.agg [.v (.string ta2.1),I ta2.2.1,I ta2.2.2.1,I ta2.2.2.2.1,I ta2.2.2.2.2.1,I ta2.2.2.2.2.2.1,B ta2.2.2.2.2.2.2]]:jVj)))))
   else none
   else none
  else
  some (.inr (.inr sa.2)))
noncomputable def QfS (a0 a1:Int) (a2 a3:Bool) (a4 a5 a6:Int) (a7 a9 t1:jVj):Lp ((Unit)⊕(Int×jVj)) ((Unit)⊕(jVj)):=⟨fun
 | (.inl sa)=>[(2,.ptr 1 0 0 0 0),(3,.ptr 19 0 0 0 0),(40,.d (.lst false 7 a9)),(41,.d (I ((a9).length:Int))),(42,.d (I 0))]
 | (.inr sa)=>[(2,.ptr 1 0 0 0 0),(3,.ptr 19 0 0 0 0),(40,.d (.lst false 7 a9)),(41,.d (I ((a9).length:Int))),(42,.d (I sa.1))],fun
 | (.inl sa)=>[(1,.box (.d (.agg [I 0,I 0,B false,B false,I 0,I 0,I 0,.lst true 0 [],.lst true 0 [],.lst true 0 []]))),(19,.box (.agg [.d (I a0),.d (I a1),.d (B a2),.d (B a3),.d (I a4),.d (I a5),.d (I a6),.d (.lst false 1 a7),.own 34 0,.d (.lst true 0 [])])),(34,.row 0 6 t1)]
 | (.inr sa)=>[(1,.box (.d (.agg [I 0,I 0,B false,B false,I 0,I 0,I 0,.lst true 0 [],.lst true 0 [],.lst true 0 []]))),(19,.box (.agg [.d (I a0),.d (I a1),.d (B a2),.d (B a3),.d (I a4),.d (I a5),.d (I a6),.d (.lst false 1 a7),.own 34 0,.own 73 0])),(34,.row 0 6 t1),(73,.row 0 7 sa.2)],fun _=>(.exit 2),fun _=>[(2,.ptr 1 0 0 0 0),(3,.ptr 19 0 0 0 0)],fun
 | (.inl e)=>[(1,.box (.d (.agg [I 0,I 0,B false,B false,I 0,I 0,I 0,.lst true 0 [],.lst true 0 [],.lst true 0 []]))),(19,.box (.agg [.d (I a0),.d (I a1),.d (B a2),.d (B a3),.d (I a4),.d (I a5),.d (I a6),.d (.lst false 1 a7),.own 34 0,.d (.lst true 0 [])])),(34,.row 0 6 t1)]
 | (.inr e)=>[(1,.box (.d (.agg [I 0,I 0,B false,B false,I 0,I 0,I 0,.lst true 0 [],.lst true 0 [],.lst true 0 []]))),(19,.box (.agg [.d (I a0),.d (I a1),.d (B a2),.d (B a3),.d (I a4),.d (I a5),.d (I a6),.d (.lst false 1 a7),.own 34 0,.own 73 0])),(34,.row 0 6 t1),(73,.row 0 7 e)]⟩
theorem Qfp {n:Nat} {a0 a1:Int} {a2 a3:Bool} {a4 a5 a6:Int} {a7 a9 t1:jVj} (sa:(Unit)⊕(Int×jVj)) (r) (h:Qe4 n a0 a1 a2 a3 a4 a5 a6 a7 a9 t1 sa=some r):Rl (ZJ cx.P 40 1) 54 0 false (QfS a0 a1 a2 a3 a4 a5 a6 a7 a9 t1) sa r:=by
 unfold Qe4 at h
 rcases sa with sa | sa
 ·rcases io h with ⟨ha1,h⟩ | ⟨ha1,h⟩
  ·obtain ⟨ta2,ha2,h⟩:=bo h
   cases h
   exact rn 64 [b1,.el (Q7 ta2),.no,.no] [] [2,3,40,41,42] [1,19,34,73] (Qa ((by unfold Qh;omega):Qh 1) (allE Q0 ha2 (Qa (jDj ha1) QL)))
  cases h
  exact rx 64 [b0] [] [2,3] [1,19,34] (Qa (jEj ha1) QL)
 ·rcases io h with ⟨ha1,h⟩ | ⟨ha1,h⟩
  ·obtain ⟨ta2,ha2,h⟩:=bo h;obtain ⟨ha3,h⟩:=gd h;obtain ⟨ha4,h⟩:=gd h
   cases h
   exact rn 74 [b1,.el (Q7 ta2),b1] [] [2,3,40,41,42] [1,19,34,73] (Qa ha4 (Qa (ro 56 ha3) (allE Q0 ha2 (Qa (jDj ha1) QL))))
  cases h
  exact rx 74 [b0] [] [2,3] [1,19,34,73] (Qa (jEj ha1) QL)
def Qe3 (n:Nat) (a0 a1:Int) (a2 a3:Bool) (a4 a5 a6:Int) (a7 a8 a9:jVj):Option (jRj) :=
 (Q2 (Qe6 n a0 a1 a2 a3 a4 a5 a6 a7 a8 a9) n (.inl ())).bind fun t1=>match t1 with
  | (.inl t1)=>(
   (Q2 (Qe5 n a0 a1 a2 a3 a4 a5 a6 a7 a9) n (.inl ())).bind fun t2=>match t2 with
    | (.inl t2)=>(
     some (a0,a1,a2,a3,a4,a5,a6,a7,[],[]))
    | (.inr t2)=>(
     some (a0,a1,a2,a3,a4,a5,a6,a7,[],t2)))
  | (.inr t1)=>(
   (Q2 (Qe4 n a0 a1 a2 a3 a4 a5 a6 a7 a9 t1) n (.inl ())).bind fun t2=>match t2 with
    | (.inl t2)=>(
     some (a0,a1,a2,a3,a4,a5,a6,a7,t1,[]))
    | (.inr t2)=>(
     some (a0,a1,a2,a3,a4,a5,a6,a7,t1,t2)))
theorem Qfk {n:Nat} {a0 a1:Int} {a2 a3:Bool} {a4 a5 a6:Int} {a7 a8 a9:jVj} {r:jRj} (h:Qe3 n a0 a1 a2 a3 a4 a5 a6 a7 a8 a9=some r):Computes cx 40 [.agg [I a0,I a1,B a2,B a3,I a4,I a5,I a6,.lst false 1 a7,.lst false 6 a8,.lst false 7 a9]] (.agg [I r.1,I r.2.1,B r.2.2.1,B r.2.2.2.1,I r.2.2.2.2.1,I r.2.2.2.2.2.1,I r.2.2.2.2.2.2.1,.lst false 1 r.2.2.2.2.2.2.2.1,.lst false 6 r.2.2.2.2.2.2.2.2.1,.lst false 7 r.2.2.2.2.2.2.2.2.2]):=by
 unfold Qe3 at h
 obtain ⟨t1,h1,h⟩:=bo h
 rcases t1 with t1 | t1
 ·have q:=Qa (QH Qfr h1) QL
  let o (l:List Orc):=.lp [] [1,2,3,26,27,28] [0,1,19] (.exit 0) [(1,.ptr 0 0 0 0 0),(2,.ptr 1 0 0 0 0),(3,.ptr 19 0 0 0 0)] [(0,.box (.d (.agg [I a0,I a1,B a2,B a3,I a4,I a5,I a6,.lst false 1 a7,.lst false 6 a8,.lst false 7 a9]))),(1,.box (.d (.agg [I 0,I 0,B false,B false,I 0,I 0,I 0,.lst true 0 [],.lst true 0 [],.lst true 0 []]))),(19,.box (.d (.agg [I a0,I a1,B a2,B a3,I a4,I a5,I a6,.lst false 1 a7,.lst true 0 [],.lst true 0 []])))] 60::l
  obtain ⟨t2,h2,h⟩:=bo h
  rcases t2 with t2 | t2
  ·cases h
   exact (rf (r:=.agg [I a0,I a1,B a2,B a3,I a4,I a5,I a6,.lst false 1 a7,.lst true 0 [],.lst true 0 []]) (o [.lp [] [2,3,40,41,42] [1,19] (.exit 2) [(2,.ptr 1 0 0 0 0),(3,.ptr 19 0 0 0 0)] [(1,.box (.d (.agg [I 0,I 0,B false,B false,I 0,I 0,I 0,.lst true 0 [],.lst true 0 [],.lst true 0 []]))),(19,.box (.d (.agg [I a0,I a1,B a2,B a3,I a4,I a5,I a6,.lst false 1 a7,.lst true 0 [],.lst true 0 []])))] 99]) (Qa (QH Qfq h2) q)).le (LEs.refl _) (.aggs (.cons (.refl _) (.cons (.refl _) (.cons (.refl _) (.cons (.refl _) (.cons (.refl _) (.cons (.refl _) (.cons (.refl _) (.cons (.refl _) (.cons (.nilF) (.cons (.nilF) (.nil))))))))))))
  cases h
  exact (rf (r:=.agg [I a0,I a1,B a2,B a3,I a4,I a5,I a6,.lst false 1 a7,.lst true 0 [],.lst false 7 t2]) (o [.lp [] [2,3,40,41,42] [1,19] (.exit 2) [(2,.ptr 1 0 0 0 0),(3,.ptr 19 0 0 0 0)] [(1,.box (.d (.agg [I 0,I 0,B false,B false,I 0,I 0,I 0,.lst true 0 [],.lst true 0 [],.lst true 0 []]))),(19,.box (.agg [.d (I a0),.d (I a1),.d (B a2),.d (B a3),.d (I a4),.d (I a5),.d (I a6),.d (.lst false 1 a7),.d (.lst true 0 []),.own 73 0])),(73,.row 0 7 t2)] 99]) (Qa (QH Qfq h2) q)).le (LEs.refl _) (.aggs (.cons (.refl _) (.cons (.refl _) (.cons (.refl _) (.cons (.refl _) (.cons (.refl _) (.cons (.refl _) (.cons (.refl _) (.cons (.refl _) (.cons (.nilF) (.cons (.refl _) (.nil))))))))))))
 have q:=Qa (QH Qfr h1) QL
 let o (l:List Orc):=.lp [] [1,2,3,26,27,28] [0,1,19] (.exit 0) [(1,.ptr 0 0 0 0 0),(2,.ptr 1 0 0 0 0),(3,.ptr 19 0 0 0 0)] [(0,.box (.d (.agg [I a0,I a1,B a2,B a3,I a4,I a5,I a6,.lst false 1 a7,.lst false 6 a8,.lst false 7 a9]))),(1,.box (.d (.agg [I 0,I 0,B false,B false,I 0,I 0,I 0,.lst true 0 [],.lst true 0 [],.lst true 0 []]))),(19,.box (.agg [.d (I a0),.d (I a1),.d (B a2),.d (B a3),.d (I a4),.d (I a5),.d (I a6),.d (.lst false 1 a7),.own 34 0,.d (.lst true 0 [])])),(34,.row 0 6 t1)] 60::l
 obtain ⟨t2,h2,h⟩:=bo h
 rcases t2 with t2 | t2
 ·cases h
  exact (rf (r:=.agg [I a0,I a1,B a2,B a3,I a4,I a5,I a6,.lst false 1 a7,.lst false 6 t1,.lst true 0 []]) (o [.lp [] [2,3,40,41,42] [1,19,34] (.exit 2) [(2,.ptr 1 0 0 0 0),(3,.ptr 19 0 0 0 0)] [(1,.box (.d (.agg [I 0,I 0,B false,B false,I 0,I 0,I 0,.lst true 0 [],.lst true 0 [],.lst true 0 []]))),(19,.box (.agg [.d (I a0),.d (I a1),.d (B a2),.d (B a3),.d (I a4),.d (I a5),.d (I a6),.d (.lst false 1 a7),.own 34 0,.d (.lst true 0 [])])),(34,.row 0 6 t1)] 99]) (Qa (QH Qfp h2) q)).le (LEs.refl _) (.aggs (.cons (.refl _) (.cons (.refl _) (.cons (.refl _) (.cons (.refl _) (.cons (.refl _) (.cons (.refl _) (.cons (.refl _) (.cons (.refl _) (.cons (.refl _) (.cons (.nilF) (.nil))))))))))))
 cases h
 exact rf (o [.lp [] [2,3,40,41,42] [1,19,34] (.exit 2) [(2,.ptr 1 0 0 0 0),(3,.ptr 19 0 0 0 0)] [(1,.box (.d (.agg [I 0,I 0,B false,B false,I 0,I 0,I 0,.lst true 0 [],.lst true 0 [],.lst true 0 []]))),(19,.box (.agg [.d (I a0),.d (I a1),.d (B a2),.d (B a3),.d (I a4),.d (I a5),.d (I a6),.d (.lst false 1 a7),.own 34 0,.own 73 0])),(34,.row 0 6 t1),(73,.row 0 7 t2)] 99]) (Qa (QH Qfp h2) q)
def Qfc (n:Nat) (a0 a1:Int) (a2 a3:Bool) (a4 a5 a6:Int) (a7 a8 a9:jVj) (a10 a11:Int) (a12 a13:Bool) (a14 a15 a16:Int) (a17 a18 a19:jVj) (sa:(Int)):Option (((Int))⊕((Unit)⊕(Unit))) :=
 if sa < ((a8).length:Int) then
  (el QM a8 sa).bind fun ta2 =>
  (el QM a18 sa).bind fun ta3 =>
  if ((ta2.1 == ta3.1) && ((ta2.2.1 == ta3.2.1) && ((ta2.2.2.1 == ta3.2.2.1) && ((ta2.2.2.2.1 == ta3.2.2.2.1) && ((ta2.2.2.2.2.1 == ta3.2.2.2.2.1) && ((ta2.2.2.2.2.2 == ta3.2.2.2.2.2) && true))))))=true then
   if Qh (sa+1) then
   some (.inl (sa+1))
   else none
  else
  some (.inr (.inl ()))
 else
 some (.inr (.inr ()))
noncomputable def Qge (a0 a1:Int) (a2 a3:Bool) (a4 a5 a6:Int) (a7 a8 a9:jVj) (a10 a11:Int) (a12 a13:Bool) (a14 a15 a16:Int) (a17 a18 a19:jVj):Lp ((Int)) ((Unit)⊕(Unit)):=⟨fun sa=>[(2,.ptr 0 0 0 0 0),(3,.ptr 1 0 0 0 0),(5,.d (I sa))],fun _=>[(0,.box (.d (.agg [I a0,I a1,B a2,B a3,I a4,I a5,I a6,.lst false 1 a7,.lst false 6 a8,.lst false 7 a9]))),(1,.box (.d (.agg [I a10,I a11,B a12,B a13,I a14,I a15,I a16,.lst false 1 a17,.lst false 6 a18,.lst false 7 a19])))],fun
 | (.inl e)=>.ret
 | (.inr e)=>(.exit 0),fun
 | (.inl e)=>[(4,.d (B false))]
 | (.inr e)=>[(2,.ptr 0 0 0 0 0),(3,.ptr 1 0 0 0 0)],fun
 | (.inl e)=>[]
 | (.inr e)=>[(0,.box (.d (.agg [I a0,I a1,B a2,B a3,I a4,I a5,I a6,.lst false 1 a7,.lst false 6 a8,.lst false 7 a9]))),(1,.box (.d (.agg [I a10,I a11,B a12,B a13,I a14,I a15,I a16,.lst false 1 a17,.lst false 6 a18,.lst false 7 a19])))]⟩
theorem Qfz {n:Nat} {a0 a1:Int} {a2 a3:Bool} {a4 a5 a6:Int} {a7 a8 a9:jVj} {a10 a11:Int} {a12 a13:Bool} {a14 a15 a16:Int} {a17 a18 a19:jVj} (sa:(Int)) (r) (h:Qfc n a0 a1 a2 a3 a4 a5 a6 a7 a8 a9 a10 a11 a12 a13 a14 a15 a16 a17 a18 a19 sa=some r):Rl (ZJ cx.P 39 0) 116 0 false (Qge a0 a1 a2 a3 a4 a5 a6 a7 a8 a9 a10 a11 a12 a13 a14 a15 a16 a17 a18 a19) sa r:=by
 unfold Qfc at h
 rcases io h with ⟨ha1,h⟩ | ⟨ha1,h⟩
 ·obtain ⟨ta2,ha2,h⟩:=bo h;obtain ⟨ta3,ha3,h⟩:=bo h
  have q:=allE Qq ha3 (allE Qq ha2 (Qa (jDj ha1) QL))
  let o (l:List Orc):=b1::.el (QB ta2)::.el (QB ta3)::l
  rcases io h with ⟨ha4,h⟩ | ⟨ha4,h⟩
  ·obtain ⟨ha5,h⟩:=gd h
   cases h
   exact rn 77 (o [b0]) [] [2,3,5] [0,1] (Qa ha5 (Qa (Ud ha4) q))
  cases h
  exact rx 77 (o [b1]) [] [4] [] (Qa (Uc (QA ha4)) q)
 cases h
 exact rx 77 [b0] [] [2,3] [0,1] (Qa (jEj ha1) QL)
def Qfb (n:Nat) (a0 a1:Int) (a2 a3:Bool) (a4 a5 a6:Int) (a7 a8 a9:jVj) (a10 a11:Int) (a12 a13:Bool) (a14 a15 a16:Int) (a17 a18 a19:jVj) (sa:(Int)):Option (((Int))⊕((Unit)⊕(Unit))) :=
 if sa < ((a9).length:Int) then
  (el Z6 a9 sa).bind fun ta2 =>
  (el Z6 a19 sa).bind fun ta3 =>
  if ((ta2.1 == ta3.1) && (((ta2.2.1 == ta3.2.1) && ((ta2.2.2.1 == ta3.2.2.1) && true)) && ((ta2.2.2.2.1 == ta3.2.2.2.1) && ((ta2.2.2.2.2.1 == ta3.2.2.2.2.1) && ((ta2.2.2.2.2.2.1 == ta3.2.2.2.2.2.1) && ((ta2.2.2.2.2.2.2 == ta3.2.2.2.2.2.2) && true))))))=true then
   if Qh (sa+1) then
   some (.inl (sa+1))
   else none
  else
  some (.inr (.inl ()))
 else
 some (.inr (.inr ()))
noncomputable def Qgd (a0 a1:Int) (a2 a3:Bool) (a4 a5 a6:Int) (a7 a8 a9:jVj) (a10 a11:Int) (a12 a13:Bool) (a14 a15 a16:Int) (a17 a18 a19:jVj):Lp ((Int)) ((Unit)⊕(Unit)):=⟨fun sa=>[(2,.ptr 0 0 0 0 0),(3,.ptr 1 0 0 0 0),(6,.d (I sa))],fun _=>[(0,.box (.d (.agg [I a0,I a1,B a2,B a3,I a4,I a5,I a6,.lst false 1 a7,.lst false 6 a8,.lst false 7 a9]))),(1,.box (.d (.agg [I a10,I a11,B a12,B a13,I a14,I a15,I a16,.lst false 1 a17,.lst false 6 a18,.lst false 7 a19])))],fun
 | (.inl e)=>.ret
 | (.inr e)=>(.exit 2),fun
 | (.inl e)=>[(4,.d (B false))]
 | (.inr e)=>[],fun _=>[]⟩
theorem Qfy {n:Nat} {a0 a1:Int} {a2 a3:Bool} {a4 a5 a6:Int} {a7 a8 a9:jVj} {a10 a11:Int} {a12 a13:Bool} {a14 a15 a16:Int} {a17 a18 a19:jVj} (sa:(Int)) (r) (h:Qfb n a0 a1 a2 a3 a4 a5 a6 a7 a8 a9 a10 a11 a12 a13 a14 a15 a16 a17 a18 a19 sa=some r):Rl (ZJ cx.P 39 1) 116 0 false (Qgd a0 a1 a2 a3 a4 a5 a6 a7 a8 a9 a10 a11 a12 a13 a14 a15 a16 a17 a18 a19) sa r:=by
 unfold Qfb at h
 rcases io h with ⟨ha1,h⟩ | ⟨ha1,h⟩
 ·obtain ⟨ta2,ha2,h⟩:=bo h;obtain ⟨ta3,ha3,h⟩:=bo h
  have q:=allE Q0 ha3 (allE Q0 ha2 (Qa (jDj ha1) QL))
  let o (l:List Orc):=b1::.el (Q7 ta2)::.el (Q7 ta3)::l
  rcases io h with ⟨ha4,h⟩ | ⟨ha4,h⟩
  ·obtain ⟨ha5,h⟩:=gd h
   cases h
   exact rn 108 (o [b0]) [] [2,3,6] [0,1] (Qa ha5 (Qa (Ud ha4) q))
  cases h
  exact rx 108 (o [b1]) [] [4] [] (Qa (Uc (QA ha4)) q)
 cases h
 exact rx 108 [b0] [] [] [] (Qa (jEj ha1) QL)
def Qff (n:Nat) (a0 a1:Int) (a2 a3:Bool) (a4 a5 a6:Int) (a7 a8 a9:jVj) (a10 a11:Int) (a12 a13:Bool) (a14 a15 a16:Int) (a17 a18 a19:jVj):Option (Bool) :=
 if a0=a10 then
  if a1=a11 then
   if (!(a2 == a12))=true then
    some false
   else
   if (!(a3 == a13))=true then
    some false
   else
   if a4=a14 then
    if a5=a15 then
     if a6=a16 then
      (Z5 n a7 a17).bind fun t8 =>
      if t8=true then
       if ((a8).length:Int)=((a18).length:Int) then
        if ((a9).length:Int)=((a19).length:Int) then
         (Q2 (Qfc n a0 a1 a2 a3 a4 a5 a6 a7 a8 a9 a10 a11 a12 a13 a14 a15 a16 a17 a18 a19) n 0).bind fun t12=>match t12 with
          | (.inl t12)=>(
           some false)
          | (.inr t12)=>(
           (Q2 (Qfb n a0 a1 a2 a3 a4 a5 a6 a7 a8 a9 a10 a11 a12 a13 a14 a15 a16 a17 a18 a19) n 0).bind fun t13=>match t13 with
            | (.inl t13)=>(
             some false)
            | (.inr t13)=>(
             some true))
        else
        some false
       else
       some false
      else
      some false
     else
     some false
    else
    some false
   else
   some false
  else
  some false
 else
 some false
theorem Qfs {n:Nat} {a0 a1:Int} {a2 a3:Bool} {a4 a5 a6:Int} {a7 a8 a9:jVj} {a10 a11:Int} {a12 a13:Bool} {a14 a15 a16:Int} {a17 a18 a19:jVj} {r:Bool} (h:Qff n a0 a1 a2 a3 a4 a5 a6 a7 a8 a9 a10 a11 a12 a13 a14 a15 a16 a17 a18 a19=some r):Computes cx 39 [.agg [I a0,I a1,B a2,B a3,I a4,I a5,I a6,.lst false 1 a7,.lst false 6 a8,.lst false 7 a9],.agg [I a10,I a11,B a12,B a13,I a14,I a15,I a16,.lst false 1 a17,.lst false 6 a18,.lst false 7 a19]] (B r):=by
 unfold Qff at h
 rcases io h with ⟨h1,h⟩ | ⟨h1,h⟩
 ·have q:=Qa (nef h1) QL
  rcases io h with ⟨h2,h⟩ | ⟨h2,h⟩
  ·have q:=Qa (nef h2) q
   let o (l:List Orc):=b0::b0::l
   rcases io h with ⟨h3,h⟩ | ⟨h3,h⟩
   ·obtain rfl:=oi h
    exact rf (o (b1::(no 7 []))) (Qa h3 q)
   have q:=Qa (QA h3) q
   let o l:=o (b0::l)
   rcases io h with ⟨h4,h⟩ | ⟨h4,h⟩
   ·obtain rfl:=oi h
    exact rf (o (b1::(no 6 []))) (Qa h4 q)
   have q:=Qa (QA h4) q
   let o l:=o (b0::l)
   rcases io h with ⟨h5,h⟩ | ⟨h5,h⟩
   ·have q:=Qa (nef h5) q
    let o l:=o (b0::l)
    rcases io h with ⟨h6,h⟩ | ⟨h6,h⟩
    ·have q:=Qa (nef h6) q
     let o l:=o (b0::l)
     rcases io h with ⟨h7,h⟩ | ⟨h7,h⟩
     ·obtain ⟨t8,h8,h⟩:=bo h
      have q:=Qa (V9 h8) (Qa (nef h7) q)
      let o l:=o (b0::.ret (B t8)::l)
      rcases io h with ⟨h9,h⟩ | ⟨h9,h⟩
      ·have q:=Qa (Ud h9) q
       let o l:=o (b0::l)
       rcases io h with ⟨h10,h⟩ | ⟨h10,h⟩
       ·have q:=Qa (nef h10) q
        rcases io h with ⟨h11,h⟩ | ⟨h11,h⟩
        ·have q:=Qa (nef h11) q
         let o l:=o (b0::b0::l)
         obtain ⟨t12,h12,h⟩:=bo h
         rcases t12 with t12 | t12
         ·obtain rfl:=oi h
          exact rf (o [.lp [] [2,3,5] [0,1] .ret [(4,.d (B false))] [] 107]) (Qa (QH Qfz h12) q)
         have q:=Qa (QH Qfz h12) q
         let o l:=o (.lp [] [2,3,5] [0,1] (.exit 0) [(2,.ptr 0 0 0 0 0),(3,.ptr 1 0 0 0 0)] [(0,.box (.d (.agg [I a0,I a1,B a2,B a3,I a4,I a5,I a6,.lst false 1 a7,.lst false 6 a8,.lst false 7 a9]))),(1,.box (.d (.agg [I a10,I a11,B a12,B a13,I a14,I a15,I a16,.lst false 1 a17,.lst false 6 a18,.lst false 7 a19])))] 107::l)
         obtain ⟨t13,h13,h⟩:=bo h
         rcases t13 with t13 | t13
         ·obtain rfl:=oi h
          exact rf (o [.lp [] [2,3,6] [0,1] .ret [(4,.d (B false))] [] 138]) (Qa (QH Qfy h13) q)
         obtain rfl:=oi h
         exact rf (o [.lp [] [2,3,6] [0,1] (.exit 2) [] [] 138]) (Qa (QH Qfy h13) q)
        obtain rfl:=oi h
        exact rf (o [b0,b1]) (Qa (net h11) q)
       obtain rfl:=oi h
       exact rf (o [b1,.no]) (Qa (net h10) q)
      obtain rfl:=oi h
      exact rf (o [b1,.no,.no]) (Qa (Uc (QA h9)) q)
     obtain rfl:=oi h
     exact rf (o [b1,.no,.no,.no]) (Qa (net h7) q)
    obtain rfl:=oi h
    exact rf (o [b1,.no,.no,.no,.no]) (Qa (net h6) q)
   obtain rfl:=oi h
   exact rf (o (b1::(no 5 []))) (Qa (net h5) q)
  obtain rfl:=oi h
  exact rf (b0::b1::(no 8 [])) (Qa (net h2) q)
 obtain rfl:=oi h
 exact rf (b1::(no 9 [])) (Qa (net h1) QL)
def Qfd (n:Nat) (a0:jVj) (a1:Int) (a2:jSj) (a3 a4:jVj) (a5:jSj):Option (Int) :=
 (Vo n a0).bind fun t1 =>
 if t1.2.2.2.2.2.2.2.2.2.2.2=0 then
  (WV n a1 a2 a3 a4 a5).bind fun t3 =>
  if t3=0 then
   if ((a0).length:Int) ≥ 1000 then
    some 5
   else
   if Wa 88 (0+(a0).length) then
   if Wa 88 ((a0).length+1) then
   (Vo n (a0++([.agg [I a1,.v (.string a2),.lst false 1 a3,.lst false 1 a4,.v (.string a5)]]:jVj))).bind fun t8 =>
   some t8.2.2.2.2.2.2.2.2.2.2.2
   else none
   else none
  else
  some t3
 else
 some t1.2.2.2.2.2.2.2.2.2.2.2
theorem Qfw {n:Nat} {a0:jVj} {a1:Int} {a2:jSj} {a3 a4:jVj} {a5:jSj} {r:Int} (h:Qfd n a0 a1 a2 a3 a4 a5=some r):Computes cx 41 [.lst false 5 a0,.agg [I a1,.v (.string a2),.lst false 1 a3,.lst false 1 a4,.v (.string a5)]] (I r):=by
 unfold Qfd at h
 obtain ⟨t1,h1,h⟩:=bo h
 have q:=Qa (je h1) QL
 let o (l:List Orc):=.ret (.tup [.agg [I t1.1,I t1.2.1,B t1.2.2.1,B t1.2.2.2.1,I t1.2.2.2.2.1,I t1.2.2.2.2.2.1,I t1.2.2.2.2.2.2.1,.lst false 1 t1.2.2.2.2.2.2.2.1,.lst false 6 t1.2.2.2.2.2.2.2.2.1,.lst false 7 t1.2.2.2.2.2.2.2.2.2.1],I t1.2.2.2.2.2.2.2.2.2.2.1,I t1.2.2.2.2.2.2.2.2.2.2.2])::l
 rcases io h with ⟨h2,h⟩ | ⟨h2,h⟩
 ·obtain ⟨t3,h3,h⟩:=bo h
  have q:=Qa (K7 h3) (Qa (eqt h2) q)
  let o l:=o (b1::.ret (I t3)::l)
  rcases io h with ⟨h4,h⟩ | ⟨h4,h⟩
  ·have q:=Qa (nef h4) q
   rcases io h with ⟨h5,h⟩ | ⟨h5,h⟩
   ·obtain rfl:=oi h
    exact rf (o [b0,b1]) (Qa (jDj h5) q)
   obtain ⟨h6,h⟩:=gd h;obtain ⟨h7,h⟩:=gd h;obtain ⟨t8,h8,h⟩:=bo h;obtain rfl:=oi h
   exact rf (o [b0,b0,.ix (-8),b1,b1,.ix (-7),.ret (.tup [.agg [I t8.1,I t8.2.1,B t8.2.2.1,B t8.2.2.2.1,I t8.2.2.2.2.1,I t8.2.2.2.2.2.1,I t8.2.2.2.2.2.2.1,.lst false 1 t8.2.2.2.2.2.2.2.1,.lst false 6 t8.2.2.2.2.2.2.2.2.1,.lst false 7 t8.2.2.2.2.2.2.2.2.2.1],I t8.2.2.2.2.2.2.2.2.2.2.1,I t8.2.2.2.2.2.2.2.2.2.2.2])]) (Qa (je h8) (Qa (ro 65 h7) (Qa (ro 65 h6) (Qa (jEj h5) q))))
  obtain rfl:=oi h
  exact rf (o [b1]) (Qa (net h4) q)
 obtain rfl:=oi h
 exact rf (o [b0,b1]) (Qa (net h2) (Qa (eqf h2) q))
end Go.Proofs.YtljabneifpkbjaaGreatDoor
