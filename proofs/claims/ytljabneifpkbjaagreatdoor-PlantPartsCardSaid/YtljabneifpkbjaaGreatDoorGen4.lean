/- Printed by gsx.py: functions of the program as Lean functions, and that the code computes them. -/
import Derived.Test.YtljabneifpkbjaaGreatDoorGen3
set_option linter.unusedVariables false
set_option maxRecDepth 10000
set_option maxHeartbeats 4000000
namespace Go.Proofs.YtljabneifpkbjaaGreatDoor
open Go.SX
def Vw (n:Nat) (a0 a1:Int) (a2 a3:Bool) (a4 a5 a6:Int) (a7 a8 a9:jVj) (sa:(Int×Int)):Option (((Int×Int))⊕((Int))) :=
 if sa.2 < ((a8).length:Int) then
  (el QM a8 sa.2).bind fun ta2 =>
  if ta2.2.2.2.2.2=true then
   if Qh (1000 - ta2.2.2.2.1) then
   if Qh (ta2.2.2.1 * (1000 - ta2.2.2.2.1)) then
   if Qh ((ta2.2.2.1 * (1000 - ta2.2.2.2.1)) * a1) then
   if Qh (sa.1+((ta2.2.2.1 * (1000 - ta2.2.2.2.1)) * a1)) then
   if Qh (sa.2+1) then
   some (.inl ((sa.1+((ta2.2.2.1 * (1000 - ta2.2.2.2.1)) * a1)),(sa.2+1)))
   else none
   else none
   else none
   else none
   else none
  else
  if Qh (sa.2+1) then
  some (.inl (sa.1,(sa.2+1)))
  else none
 else
 some (.inr sa.1)
noncomputable def wa (a0 a1:Int) (a2 a3:Bool) (a4 a5 a6:Int) (a7 a8 a9:jVj):Lp ((Int×Int)) ((Int)):=⟨fun sa=>[(1,.ptr 0 0 0 0 0),(3,.d (I sa.1)),(4,.d (I sa.2))],fun _=>[(0,.box (.d (.agg [I a0,I a1,B a2,B a3,I a4,I a5,I a6,.lst false 1 a7,.lst false 6 a8,.lst false 7 a9])))],fun _=>(.exit 0),fun e=>[(3,.d (I e))],fun _=>[]⟩
theorem zZ {n:Nat} {a0 a1:Int} {a2 a3:Bool} {a4 a5 a6:Int} {a7 a8 a9:jVj} (sa:(Int×Int)) (r) (h:Vw n a0 a1 a2 a3 a4 a5 a6 a7 a8 a9 sa=some r):Rl (ZJ cx.P 22 0) 32 0 false (wa a0 a1 a2 a3 a4 a5 a6 a7 a8 a9) sa r:=by
 unfold Vw at h
 rcases io h with ⟨ha1,h⟩ | ⟨ha1,h⟩
 ·obtain ⟨ta2,ha2,h⟩:=bo h
  have q:=allE Qq ha2 (Qa (jDj ha1) QL)
  let o (l:List Orc):=b1::.el (QB ta2)::l
  rcases io h with ⟨ha3,h⟩ | ⟨ha3,h⟩
  ·obtain ⟨ha4,h⟩:=gd h;obtain ⟨ha5,h⟩:=gd h;obtain ⟨ha6,h⟩:=gd h;obtain ⟨ha7,h⟩:=gd h;obtain ⟨ha8,h⟩:=gd h
   cases h
   exact rn 4 (o [b1]) [] [1,3,4] [0] (Qa ha8 (Qa ha7 (Qa ha6 (Qa ha5 (Qa ha4 (Qa ha3 q))))))
  obtain ⟨ha4,h⟩:=gd h
  cases h
  exact rn 4 (o [b0]) [] [1,3,4] [0] (Qa ha4 (Qa (QA ha3) q))
 cases h
 exact rx 4 [b0] [] [3] [] (Qa (jEj ha1) QL)
def Yr (n:Nat) (a0 a1:Int) (a2 a3:Bool) (a4 a5 a6:Int) (a7 a8 a9:jVj):Option (Int) :=
 (Q2 (Vw n a0 a1 a2 a3 a4 a5 a6 a7 a8 a9) n (0,0)).bind fun t1 =>
 some t1
theorem qp {n:Nat} {a0 a1:Int} {a2 a3:Bool} {a4 a5 a6:Int} {a7 a8 a9:jVj} {r:Int} (h:Yr n a0 a1 a2 a3 a4 a5 a6 a7 a8 a9=some r):Computes cx 22 [.agg [I a0,I a1,B a2,B a3,I a4,I a5,I a6,.lst false 1 a7,.lst false 6 a8,.lst false 7 a9]] (I r):=by
 unfold Yr at h
 obtain ⟨t1,h1,h⟩:=bo h;obtain rfl:=oi h
 exact rf [.lp [] [1,3,4] [0] (.exit 0) [(3,.d (I t1))] [] 44] (Qa (QH zZ h1) QL)
def Vp (n:Nat) (a0 a1:Int) (a2 a3:Bool) (a4 a5 a6:Int) (a7 a8 a9:jVj) (a10:Int):Option (Int×Int×Int) :=
 (Yr n a0 a1 a2 a3 a4 a5 a6 a7 a8 a9).bind fun t1 =>
 if Qh (a10 - a0) then
 if Qh (t1 * (a10 - a0)) then
 if Qh (1000000000000000 - a4) then
 if (t1 * (a10 - a0)) > (1000000000000000 - a4) then
  some (0,0,4)
 else
 if Qh (1000000000000000 - a5) then
 if (t1 * (a10 - a0)) > (1000000000000000 - a5) then
  some (0,0,4)
 else
 if Qh (a4+(t1 * (a10 - a0))) then
 if Qh (a5+(t1 * (a10 - a0))) then
 some ((a4+(t1 * (a10 - a0))),(a5+(t1 * (a10 - a0))),0)
 else none
 else none
 else none
 else none
 else none
 else none
theorem K8 {n:Nat} {a0 a1:Int} {a2 a3:Bool} {a4 a5 a6:Int} {a7 a8 a9:jVj} {a10:Int} {r:Int×Int×Int} (h:Vp n a0 a1 a2 a3 a4 a5 a6 a7 a8 a9 a10=some r):Computes cx 24 [.agg [I a0,I a1,B a2,B a3,I a4,I a5,I a6,.lst false 1 a7,.lst false 6 a8,.lst false 7 a9],I a10] (.tup [.agg [I r.1,I r.2.1],I r.2.2]):=by
 unfold Vp at h
 obtain ⟨t1,h1,h⟩:=bo h;obtain ⟨h2,h⟩:=gd h;obtain ⟨h3,h⟩:=gd h;obtain ⟨h4,h⟩:=gd h
 have q:=Qa h4 (Qa h3 (Qa h2 (Qa (qp h1) QL)))
 rcases io h with ⟨h5,h⟩ | ⟨h5,h⟩
 ·cases h
  exact rf [.ret (I t1),b1,.no] (Qa (jDj h5) q)
 obtain ⟨h6,h⟩:=gd h
 have q:=Qa h6 (Qa (jEj h5) q)
 rcases io h with ⟨h7,h⟩ | ⟨h7,h⟩
 ·cases h
  exact rf [.ret (I t1),b0,b1] (Qa (jDj h7) q)
 obtain ⟨h8,h⟩:=gd h;obtain ⟨h9,h⟩:=gd h
 cases h
 exact rf [.ret (I t1),b0,b0] (Qa h9 (Qa h8 (Qa (jEj h7) q)))
def VI (n:Nat) (a0 a1:Int) (a2 a3:Bool) (a4 a5 a6:Int) (a7 a8 a9:jVj) (a11:jSj) (sa:(Int)):Option (((Int))⊕((Int)⊕(Unit))) :=
 if sa < ((a7).length:Int) then
  (el Ww a7 sa).bind fun ta2 =>
  if (ta2.toList == a11.toList)=true then
   some (.inr (.inl sa))
  else
  if Qh (sa+1) then
  some (.inl (sa+1))
  else none
 else
 some (.inr (.inr ()))
noncomputable def jS (a0 a1:Int) (a2 a3:Bool) (a4 a5 a6:Int) (a7 a8 a9:jVj) (a11:jSj):Lp ((Int)) ((Int)⊕(Unit)):=⟨fun sa=>[(2,.d (.v (.string a11))),(3,.ptr 0 0 0 0 0),(7,.d (I sa))],fun _=>[(0,.box (.d (.agg [I a0,I a1,B a2,B a3,I a4,I a5,I a6,.lst false 1 a7,.lst false 6 a8,.lst false 7 a9])))],fun
 | (.inl e)=>.ret
 | (.inr e)=>(.exit 1),fun
 | (.inl e)=>[(6,.d (I e))]
 | (.inr e)=>[],fun _=>[]⟩
theorem Eh {n:Nat} {a0 a1:Int} {a2 a3:Bool} {a4 a5 a6:Int} {a7 a8 a9:jVj} {a11:jSj} (sa:(Int)) (r) (h:VI n a0 a1 a2 a3 a4 a5 a6 a7 a8 a9 a11 sa=some r):Rl (ZJ cx.P 29 0) 64 0 false (jS a0 a1 a2 a3 a4 a5 a6 a7 a8 a9 a11) sa r:=by
 unfold VI at h
 rcases io h with ⟨ha1,h⟩ | ⟨ha1,h⟩
 ·obtain ⟨ta2,ha2,h⟩:=bo h
  have q:=allE Qr ha2 (Qa (jDj ha1) QL)
  rcases io h with ⟨ha3,h⟩ | ⟨ha3,h⟩
  ·cases h
   exact rx 6 [b1,.el (Zy ta2),b1] [] [6] [] (Qa ha3 q)
  obtain ⟨ha4,h⟩:=gd h
  cases h
  exact rn 6 [b1,.el (Zy ta2),b0] [] [2,3,7] [0] (Qa ha4 (Qa (QA ha3) q))
 cases h
 exact rx 6 [b0] [] [] [] (Qa (jEj ha1) QL)
def VH (n:Nat) (a0 a1:Int) (a2 a3:Bool) (a4 a5 a6:Int) (a7 a8 a9:jVj) (a11:jSj) (sa:(Int)):Option (((Int))⊕((Int)⊕(Unit))) :=
 if sa < ((a8).length:Int) then
  (el QM a8 sa).bind fun ta2 =>
  if (ta2.1.toList == a11.toList)=true then
   some (.inr (.inl sa))
  else
  if Qh (sa+1) then
  some (.inl (sa+1))
  else none
 else
 some (.inr (.inr ()))
noncomputable def jR (a0 a1:Int) (a2 a3:Bool) (a4 a5 a6:Int) (a7 a8 a9:jVj) (a11:jSj):Lp ((Int)) ((Int)⊕(Unit)):=⟨fun sa=>[(2,.d (.v (.string a11))),(3,.ptr 0 0 0 0 0),(8,.d (I sa))],fun _=>[(0,.box (.d (.agg [I a0,I a1,B a2,B a3,I a4,I a5,I a6,.lst false 1 a7,.lst false 6 a8,.lst false 7 a9])))],fun
 | (.inl e)=>.ret
 | (.inr e)=>(.exit 3),fun
 | (.inl e)=>[(6,.d (I e))]
 | (.inr e)=>[],fun _=>[]⟩
theorem Eg {n:Nat} {a0 a1:Int} {a2 a3:Bool} {a4 a5 a6:Int} {a7 a8 a9:jVj} {a11:jSj} (sa:(Int)) (r) (h:VH n a0 a1 a2 a3 a4 a5 a6 a7 a8 a9 a11 sa=some r):Rl (ZJ cx.P 29 1) 64 0 false (jR a0 a1 a2 a3 a4 a5 a6 a7 a8 a9 a11) sa r:=by
 unfold VH at h
 rcases io h with ⟨ha1,h⟩ | ⟨ha1,h⟩
 ·obtain ⟨ta2,ha2,h⟩:=bo h
  have q:=allE Qq ha2 (Qa (jDj ha1) QL)
  let o (l:List Orc):=b1::.el (QB ta2)::l
  rcases io h with ⟨ha3,h⟩ | ⟨ha3,h⟩
  ·cases h
   exact rx 8 (o [b1]) [] [6] [] (Qa ha3 q)
  obtain ⟨ha4,h⟩:=gd h
  cases h
  exact rn 8 (o [b0]) [] [2,3,8] [0] (Qa ha4 (Qa (QA ha3) q))
 cases h
 exact rx 8 [b0] [] [] [] (Qa (jEj ha1) QL)
def VG (n:Nat) (a0 a1:Int) (a2 a3:Bool) (a4 a5 a6:Int) (a7 a8 a9:jVj) (a11:jSj) (sa:(Int)):Option (((Int))⊕((Int)⊕(Unit))) :=
 if sa < ((a9).length:Int) then
  (el Z6 a9 sa).bind fun ta2 =>
  if (ta2.1.toList == a11.toList)=true then
   some (.inr (.inl sa))
  else
  if Qh (sa+1) then
  some (.inl (sa+1))
  else none
 else
 some (.inr (.inr ()))
noncomputable def jQ (a0 a1:Int) (a2 a3:Bool) (a4 a5 a6:Int) (a7 a8 a9:jVj) (a11:jSj):Lp ((Int)) ((Int)⊕(Unit)):=⟨fun sa=>[(2,.d (.v (.string a11))),(3,.ptr 0 0 0 0 0),(9,.d (I sa))],fun _=>[(0,.box (.d (.agg [I a0,I a1,B a2,B a3,I a4,I a5,I a6,.lst false 1 a7,.lst false 6 a8,.lst false 7 a9])))],fun
 | (.inl e)=>.ret
 | (.inr e)=>(.exit 5),fun
 | (.inl e)=>[(6,.d (I e))]
 | (.inr e)=>[],fun _=>[]⟩
theorem Ef {n:Nat} {a0 a1:Int} {a2 a3:Bool} {a4 a5 a6:Int} {a7 a8 a9:jVj} {a11:jSj} (sa:(Int)) (r) (h:VG n a0 a1 a2 a3 a4 a5 a6 a7 a8 a9 a11 sa=some r):Rl (ZJ cx.P 29 2) 64 0 false (jQ a0 a1 a2 a3 a4 a5 a6 a7 a8 a9 a11) sa r:=by
 unfold VG at h
 rcases io h with ⟨ha1,h⟩ | ⟨ha1,h⟩
 ·obtain ⟨ta2,ha2,h⟩:=bo h
  have q:=allE Q0 ha2 (Qa (jDj ha1) QL)
  rcases io h with ⟨ha3,h⟩ | ⟨ha3,h⟩
  ·cases h
   exact rx 10 [b1,.el (Q7 ta2),b1] [] [6] [] (Qa ha3 q)
  obtain ⟨ha4,h⟩:=gd h
  cases h
  exact rn 10 [b1,.el (Q7 ta2),b0] [] [2,3,9] [0] (Qa ha4 (Qa (QA ha3) q))
 cases h
 exact rx 10 [b0] [] [] [] (Qa (jEj ha1) QL)
def WW (n:Nat) (a0 a1:Int) (a2 a3:Bool) (a4 a5 a6:Int) (a7 a8 a9:jVj) (a10:Int) (a11:jSj):Option (Int) :=
 if a10=115 then
  (Q2 (VI n a0 a1 a2 a3 a4 a5 a6 a7 a8 a9 a11) n 0).bind fun t2=>match t2 with
   | (.inl t2)=>(
    some t2)
   | (.inr t2)=>(
    some (-1))
 else
 if a10=109 then
  (Q2 (VH n a0 a1 a2 a3 a4 a5 a6 a7 a8 a9 a11) n 0).bind fun t3=>match t3 with
   | (.inl t3)=>(
    some t3)
   | (.inr t3)=>(
    some (-1))
 else
 if a10=111 then
  (Q2 (VG n a0 a1 a2 a3 a4 a5 a6 a7 a8 a9 a11) n 0).bind fun t4=>match t4 with
   | (.inl t4)=>(
    some t4)
   | (.inr t4)=>(
    some (-1))
 else
 some (-1)
theorem K9 {n:Nat} {a0 a1:Int} {a2 a3:Bool} {a4 a5 a6:Int} {a7 a8 a9:jVj} {a10:Int} {a11:jSj} {r:Int} (h:WW n a0 a1 a2 a3 a4 a5 a6 a7 a8 a9 a10 a11=some r):Computes cx 29 [.agg [I a0,I a1,B a2,B a3,I a4,I a5,I a6,.lst false 1 a7,.lst false 6 a8,.lst false 7 a9],.v (.int .u8 a10),.v (.string a11)] (I r):=by
 unfold WW at h
 rcases io h with ⟨h1,h⟩ | ⟨h1,h⟩
 ·have q:=Qa (eqt h1) QL
  obtain ⟨t2,h2,h⟩:=bo h
  rcases t2 with t2 | t2
  ·obtain rfl:=oi h
   exact rf [b1,.lp [] [2,3,7] [0] .ret [(6,.d (I t2))] [] 32] (Qa (QH Eh h2) q)
  cases h
  exact rf [b1,.lp [] [2,3,7] [0] (.exit 1) [] [] 32] (Qa (QH Eh h2) q)
 have q:=Qa (eqf h1) QL
 rcases io h with ⟨h2,h⟩ | ⟨h2,h⟩
 ·have q:=Qa (eqt h2) q
  obtain ⟨t3,h3,h⟩:=bo h
  rcases t3 with t3 | t3
  ·obtain rfl:=oi h
   exact rf [b0,b1,.lp [] [2,3,8] [0] .ret [(6,.d (I t3))] [] 35] (Qa (QH Eg h3) q)
  cases h
  exact rf [b0,b1,.lp [] [2,3,8] [0] (.exit 3) [] [] 35] (Qa (QH Eg h3) q)
 have q:=Qa (eqf h2) q
 rcases io h with ⟨h3,h⟩ | ⟨h3,h⟩
 ·have q:=Qa (eqt h3) q
  obtain ⟨t4,h4,h⟩:=bo h
  rcases t4 with t4 | t4
  ·obtain rfl:=oi h
   exact rf [b0,b0,b1,.lp [] [2,3,9] [0] .ret [(6,.d (I t4))] [] 37] (Qa (QH Ef h4) q)
  cases h
  exact rf [b0,b0,b1,.lp [] [2,3,9] [0] (.exit 5) [] [] 37] (Qa (QH Ef h4) q)
 cases h
 exact rf [b0,b0,b0] (Qa (eqf h3) q)
def Qj (n:Nat) (a0 a1:Int) (a2 a3:Bool) (a4 a5 a6:Int) (a7 a8 a9:jVj) (a10:Int) (a11:jSj) (a12 a13:jVj) (a14:jSj) (t1:jSj×Int×Bool) (sa:(Int)):Option (((Int))⊕((Unit)⊕(Unit))) :=
 if sa < (t1.1.size:Int) then
  (WQ t1.1 sa).bind fun ta2 =>
  if ta2 ≥ 97 then
   (el Ww a12 sa).bind fun ta4 =>
   (WW n a0 a1 a2 a3 a4 a5 a6 a7 a8 a9 ta2 ta4).bind fun ta5 =>
   if ta5 < 0 then
    some (.inr (.inl ()))
   else
   if Qh (sa+1) then
   some (.inl (sa+1))
   else none
  else
  if Qh (sa+1) then
  some (.inl (sa+1))
  else none
 else
 some (.inr (.inr ()))
noncomputable def G7 (a0 a1:Int) (a2 a3:Bool) (a4 a5 a6:Int) (a7 a8 a9:jVj) (a10:Int) (a11:jSj) (a12 a13:jVj) (a14:jSj) (t1:jSj×Int×Bool):Lp ((Int)) ((Unit)⊕(Unit)):=⟨fun sa=>[(2,.ptr 0 0 0 0 0),(3,.ptr 1 0 0 0 0),(5,.d (.v (.string t1.1))),(6,.d (I sa))],fun _=>[(0,.box (.d (.agg [I a0,I a1,B a2,B a3,I a4,I a5,I a6,.lst false 1 a7,.lst false 6 a8,.lst false 7 a9]))),(1,.box (.d (.agg [I a10,.v (.string a11),.lst false 1 a12,.lst false 1 a13,.v (.string a14)])))],fun
 | (.inl e)=>.ret
 | (.inr e)=>(.exit 0),fun
 | (.inl e)=>[(4,.d (I 10))]
 | (.inr e)=>[(2,.ptr 0 0 0 0 0),(3,.ptr 1 0 0 0 0),(5,.d (.v (.string t1.1)))],fun
 | (.inl e)=>[]
 | (.inr e)=>[(0,.box (.d (.agg [I a0,I a1,B a2,B a3,I a4,I a5,I a6,.lst false 1 a7,.lst false 6 a8,.lst false 7 a9]))),(1,.box (.d (.agg [I a10,.v (.string a11),.lst false 1 a12,.lst false 1 a13,.v (.string a14)])))]⟩
theorem Uv {n:Nat} {a0 a1:Int} {a2 a3:Bool} {a4 a5 a6:Int} {a7 a8 a9:jVj} {a10:Int} {a11:jSj} {a12 a13:jVj} {a14:jSj} {t1:jSj×Int×Bool} (sa:(Int)) (r) (h:Qj n a0 a1 a2 a3 a4 a5 a6 a7 a8 a9 a10 a11 a12 a13 a14 t1 sa=some r):Rl (ZJ cx.P 198 0) 55 0 false (G7 a0 a1 a2 a3 a4 a5 a6 a7 a8 a9 a10 a11 a12 a13 a14 t1) sa r:=by
 unfold Qj at h
 rcases io h with ⟨ha1,h⟩ | ⟨ha1,h⟩
 ·obtain ⟨ta2,ha2,h⟩:=bo h
  have q:=Qa (Zq ha2:QV cx.P (Instr.index 9 (.string t1.1) (.int .i64 sa))=some (.int .u8 ta2)) (Qa (jDj ha1) QL)
  let o (l:List Orc):=b1::.el (.v (.int .u8 ta2))::l
  rcases io h with ⟨ha3,h⟩ | ⟨ha3,h⟩
  ·obtain ⟨ta4,ha4,h⟩:=bo h;obtain ⟨ta5,ha5,h⟩:=bo h
   have q:=Qa (K9 ha5) (allE Qr ha4 (Qa (Zq ha2:QV cx.P (Instr.index 9 (.string t1.1) (.int .i64 sa))=some (.int .u8 ta2)) (Qa (jDj ha3) q)))
   let o l:=o (b1::.el (.v (.int .u8 ta2))::.el (Zy ta4)::.ret (I ta5)::l)
   rcases io h with ⟨ha6,h⟩ | ⟨ha6,h⟩
   ·cases h
    exact rx 9 (o [b1]) [] [4] [] (Qa (jDj ha6) q)
   obtain ⟨ha7,h⟩:=gd h
   cases h
   exact rn 9 (o [b0]) [] [2,3,5,6] [0,1] (Qa ha7 (Qa (jEj ha6) q))
  obtain ⟨ha4,h⟩:=gd h
  cases h
  exact rn 9 (o [b0,.no]) [] [2,3,5,6] [0,1] (Qa ha4 (Qa (jEj ha3) q))
 cases h
 exact rx 9 [b0] [] [2,3,5] [0,1] (Qa (jEj ha1) QL)
def QW (n:Nat) (a0 a1:Int) (a2 a3:Bool) (a4 a5 a6:Int) (a7 a8 a9:jVj) (a10:Int) (a11:jSj) (a12 a13:jVj) (a14:jSj):Option (Int) :=
 (Q1 n a11).bind fun t1 =>
 (Q2 (Qj n a0 a1 a2 a3 a4 a5 a6 a7 a8 a9 a10 a11 a12 a13 a14 t1) n 0).bind fun t2=>match t2 with
  | (.inl t2)=>(
   some 10)
  | (.inr t2)=>(
   if (t1.1.size:Int) > 0 then
    (WQ t1.1 0).bind fun t4 =>
    if t4 < 97 then
     (el Ww a12 0).bind fun t6 =>
     (WW n a0 a1 a2 a3 a4 a5 a6 a7 a8 a9 (IntKind.wrap .u8 ((IntKind.wrap .u8 (t4+97)) - 65)) t6).bind fun t7 =>
     if t7 ≥ 0 then
      some 9
     else
     some 0
    else
    some 0
   else
   some 0)
theorem EP {n:Nat} {a0 a1:Int} {a2 a3:Bool} {a4 a5 a6:Int} {a7 a8 a9:jVj} {a10:Int} {a11:jSj} {a12 a13:jVj} {a14:jSj} {r:Int} (h:QW n a0 a1 a2 a3 a4 a5 a6 a7 a8 a9 a10 a11 a12 a13 a14=some r):Computes cx 198 [.agg [I a0,I a1,B a2,B a3,I a4,I a5,I a6,.lst false 1 a7,.lst false 6 a8,.lst false 7 a9],.agg [I a10,.v (.string a11),.lst false 1 a12,.lst false 1 a13,.v (.string a14)]] (I r):=by
 unfold QW at h
 obtain ⟨t1,h1,h⟩:=bo h
 have q:=Qa (qq h1) QL
 let o (l:List Orc):=.ret (.agg [.v (.string t1.1),I t1.2.1,B t1.2.2])::l
 obtain ⟨t2,h2,h⟩:=bo h
 rcases t2 with t2 | t2
 ·obtain rfl:=oi h
  exact rf (o [.lp [] [2,3,5,6] [0,1] .ret [(4,.d (I 10))] [] 44]) (Qa (QH Uv h2) q)
 have q:=Qa (QH Uv h2) q
 let o l:=o (.lp [] [2,3,5,6] [0,1] (.exit 0) [(2,.ptr 0 0 0 0 0),(3,.ptr 1 0 0 0 0),(5,.d (.v (.string t1.1)))] [(0,.box (.d (.agg [I a0,I a1,B a2,B a3,I a4,I a5,I a6,.lst false 1 a7,.lst false 6 a8,.lst false 7 a9]))),(1,.box (.d (.agg [I a10,.v (.string a11),.lst false 1 a12,.lst false 1 a13,.v (.string a14)])))] 44::l)
 rcases io h with ⟨h3,h⟩ | ⟨h3,h⟩
 ·obtain ⟨t4,h4,h⟩:=bo h
  have q:=Qa (Zq h4:QV cx.P (Instr.index 9 (.string t1.1) (.int .i64 0))=some (.int .u8 t4)) (Qa (jDj h3) q)
  let o l:=o (b1::.el (.v (.int .u8 t4))::l)
  rcases io h with ⟨h5,h⟩ | ⟨h5,h⟩
  ·obtain ⟨t6,h6,h⟩:=bo h;obtain ⟨t7,h7,h⟩:=bo h
   have q:=Qa (K9 h7) (allE Qr h6 (Qa (Zq h4:QV cx.P (Instr.index 9 (.string t1.1) (.int .i64 0))=some (.int .u8 t4)) (Qa (jDj h5) q)))
   let o l:=o (b1::.el (.v (.int .u8 t4))::.el (Zy t6)::.ret (I t7)::l)
   rcases io h with ⟨h8,h⟩ | ⟨h8,h⟩
   ·obtain rfl:=oi h
    exact rf (o [b1]) (Qa (jDj h8) q)
   obtain rfl:=oi h
   exact rf (o [b0]) (Qa (jEj h8) q)
  obtain rfl:=oi h
  exact rf (o [b0,.no]) (Qa (jEj h5) q)
 obtain rfl:=oi h
 exact rf (o [b0,.no,.no]) (Qa (jEj h3) q)
def Vg (n:Nat) (a0 a1:Int) (a2 a3:Bool) (a4 a5 a6:Int) (a7 a8 a9:jVj) (sa:(Int×jVj)):Option (((Int×jVj))⊕((jVj))) :=
 if sa.1 < ((a8).length:Int) then
  (el QM a8 sa.1).bind fun ta2 =>
  if ta2.2.2.2.2.2=true then
   if Wa 16 ((sa.2).length+1) then
   if Qh (sa.1+1) then
   some (.inl ((sa.1+1),(sa.2++([.v (.string ta2.1)]:jVj))))
   else none
   else none
  else
  if Qh (sa.1+1) then
  some (.inl ((sa.1+1),sa.2))
  else none
 else
 some (.inr sa.2)
noncomputable def zn (a0 a1:Int) (a2 a3:Bool) (a4 a5 a6:Int) (a7 a8 a9:jVj):Lp ((Int×jVj)) ((jVj)):=⟨fun sa=>[(1,.ptr 0 0 0 0 0),(3,.own 4 0),(4,.d (I sa.1))],fun sa=>[(0,.box (.d (.agg [I a0,I a1,B a2,B a3,I a4,I a5,I a6,.lst false 1 a7,.lst false 6 a8,.lst false 7 a9]))),(4,.row 0 1 sa.2)],fun _=>(.exit 0),fun _=>[(3,.own 4 0)],fun e=>[(4,.row 0 1 e)]⟩
theorem zh {n:Nat} {a0 a1:Int} {a2 a3:Bool} {a4 a5 a6:Int} {a7 a8 a9:jVj} (sa:(Int×jVj)) (r) (h:Vg n a0 a1 a2 a3 a4 a5 a6 a7 a8 a9 sa=some r):Rl (ZJ cx.P 23 0) 28 0 false (zn a0 a1 a2 a3 a4 a5 a6 a7 a8 a9) sa r:=by
 unfold Vg at h
 rcases io h with ⟨ha1,h⟩ | ⟨ha1,h⟩
 ·obtain ⟨ta2,ha2,h⟩:=bo h
  have q:=allE Qq ha2 (Qa (jDj ha1) QL)
  let o (l:List Orc):=b1::.el (QB ta2)::l
  rcases io h with ⟨ha3,h⟩ | ⟨ha3,h⟩
  ·obtain ⟨ha4,h⟩:=gd h;obtain ⟨ha5,h⟩:=gd h
   cases h
   exact rn 5 (o [b1,.el (QB ta2),b1]) [] [1,3,4] [0,4] (Qa ha5 (Qa (ro 9 ha4) (allE Qq ha2 (Qa ha3 q))))
  obtain ⟨ha4,h⟩:=gd h
  cases h
  exact rn 5 (o [b0]) [] [1,3,4] [0,4] (Qa ha4 (Qa (QA ha3) q))
 cases h
 exact rx 5 [b0] [] [3] [4] (Qa (jEj ha1) QL)
def V4 (n:Nat) (a0 a1:Int) (a2 a3:Bool) (a4 a5 a6:Int) (a7 a8 a9:jVj):Option (jVj) :=
 (Q2 (Vg n a0 a1 a2 a3 a4 a5 a6 a7 a8 a9) n (0,[])).bind fun t1 =>
 some t1
theorem Ec {n:Nat} {a0 a1:Int} {a2 a3:Bool} {a4 a5 a6:Int} {a7 a8 a9:jVj} {r:jVj} (h:V4 n a0 a1 a2 a3 a4 a5 a6 a7 a8 a9=some r):Computes cx 23 [.agg [I a0,I a1,B a2,B a3,I a4,I a5,I a6,.lst false 1 a7,.lst false 6 a8,.lst false 7 a9]] (.lst false 1 r):=by
 unfold V4 at h
 obtain ⟨t1,h1,h⟩:=bo h;obtain rfl:=oi h
 exact rf [.lp [3,1] [1,3,4] [0,4] (.exit 0) [(3,.own 4 0)] [(4,.row 0 1 t1)] 40] (Qa (QH zh h1) QL)
def W9 (n:Nat) (a0:jSj) (a1 a2 a3 a4 a5:Int) (a6:Bool):Option (Int) :=
 if Qh (a3 - a5) then
 some (a3 - a5)
 else none
theorem JJ {n:Nat} {a0:jSj} {a1 a2 a3 a4 a5:Int} {a6:Bool} {r:Int} (h:W9 n a0 a1 a2 a3 a4 a5 a6=some r):Computes cx 31 [.agg [.v (.string a0),I a1,I a2,I a3,I a4,I a5,B a6]] (I r):=by
 unfold W9 at h
 obtain ⟨h1,h⟩:=gd h
 cases h
 exact rf [] (Qa h1 QL)
def Ys (n:Nat) (a0:jSj) (a1 a2 a3 a4 a5:Int) (a6:Bool):Option (Int) :=
 if Qh (a4 * a5) then
 if Qh (2 * a4) then
 (W9 n a0 a1 a2 a3 a4 a5 a6).bind fun t3 =>
 if Qh ((2 * a4) * t3) then
 if Qh ((a4 * a5) - ((2 * a4) * t3)) then
 some ((a4 * a5) - ((2 * a4) * t3))
 else none
 else none
 else none
 else none
theorem qr {n:Nat} {a0:jSj} {a1 a2 a3 a4 a5:Int} {a6:Bool} {r:Int} (h:Ys n a0 a1 a2 a3 a4 a5 a6=some r):Computes cx 32 [.agg [.v (.string a0),I a1,I a2,I a3,I a4,I a5,B a6]] (I r):=by
 unfold Ys at h
 obtain ⟨h1,h⟩:=gd h;obtain ⟨h2,h⟩:=gd h;obtain ⟨t3,h3,h⟩:=bo h;obtain ⟨h4,h⟩:=gd h;obtain ⟨h5,h⟩:=gd h
 cases h
 exact rf [.ret (I t3)] (Qa h5 (Qa h4 (Qa (JJ h3) (Qa h2 (Qa h1 QL)))))
def WU (n:Nat) (a0 a1:Int) (a2 a3:Bool) (a4 a5 a6:Int) (a7 a8 a9:jVj) (a10:Int) (a11:jSj) (a12 a13:jVj) (a14:jSj) (t1:Int) (t3:Int×Int×Int) (sa:(Int×jVj)):Option (((Int×jVj))⊕((jVj))) :=
 if sa.1 < ((sa.2).length:Int) then
  if 0≤sa.1∧sa.1 < ((sa.2).length:Int) then
  ((nth (sa.2) (Int.toNat sa.1)).bind QM).bind fun ta3 =>
  if Qh (sa.1+1) then
  some (.inl ((sa.1+1),(List.set sa.2 (Int.toNat sa.1) (.agg [.v (.string ta3.1),.v (.string ta3.2.1),I ta3.2.2.1,I ta3.2.2.2.1,B ta3.2.2.2.2.1,B false]:D))))
  else none
  else none
 else
 some (.inr sa.2)
noncomputable def zm (a0 a1:Int) (a2 a3:Bool) (a4 a5 a6:Int) (a7 a8 a9:jVj) (a10:Int) (a11:jSj) (a12 a13:jVj) (a14:jSj) (t1:Int) (t3:Int×Int×Int):Lp ((Int×jVj)) ((jVj)):=⟨fun sa=>[(1,.d (.v (.string ⟨#[]⟩))),(2,.d (B true)),(3,.ptr 109 0 0 0 0),(6,.ptr 110 0 0 0 0),(7,.d (I sa.1))],fun sa=>[(0,.box (.d (.agg [I a0,I a1,B a2,B a3,I a4,I a5,I a6,.lst false 1 a7,.lst false 6 a8,.lst false 7 a9]))),(1,.box (.d (.agg [I a10,.v (.string a11),.lst false 1 a12,.lst false 1 a13,.v (.string a14)]))),(2,.box (.d (.agg [I 0,I 0,B false,B false,I 0,I 0,I 0,.lst true 0 [],.lst true 0 [],.lst true 0 []]))),(20,.box (.d (.agg [I t3.1,I t3.2.1]))),(33,.box (.agg [.d (I t1),.d (I a1),.d (B a2),.d (B a3),.d (I t3.1),.d (I t3.2.1),.d (I a6),.own 40 0,.own 46 0,.own 52 0])),(35,.box (.agg [.d (I a0),.d (I a1),.d (B a2),.d (B a3),.d (I a4),.d (I a5),.d (I a6),.own 40 0,.own 46 0,.own 52 0])),(36,.box (.agg [.d (I a0),.d (I a1),.d (B a2),.d (B a3),.d (I a4),.d (I a5),.d (I a6),.own 40 0,.own 46 0,.own 52 0])),(40,.row 0 1 a7),(46,.row 0 6 sa.2),(52,.row 0 7 a9),(88,.box (.agg [.d (I t1),.d (I a1),.d (B a2),.d (B true),.d (I t3.1),.d (I t3.2.1),.d (I a6),.own 40 0,.own 46 0,.own 52 0])),(89,.box (.d (.agg [I a10,.v (.string a11),.lst false 1 a12,.lst false 1 a13,.v (.string a14)]))),(90,.box (.d (.agg [I 0,I 0,B false,B false,I 0,I 0,I 0,.lst true 0 [],.lst true 0 [],.lst true 0 []]))),(109,.box (.agg [.d (I t1),.d (I a1),.d (B a2),.d (B true),.d (I t3.1),.d (I t3.2.1),.d (I a6),.own 40 0,.own 46 0,.own 52 0])),(110,.box (.d (.agg [I 0,I 0,B false,B false,I 0,I 0,I 0,.lst true 0 [],.lst true 0 [],.lst true 0 []])))],fun _=>(.exit 0),fun _=>[(3,.ptr 109 0 0 0 0),(6,.ptr 110 0 0 0 0)],fun e=>[(0,.box (.d (.agg [I a0,I a1,B a2,B a3,I a4,I a5,I a6,.lst false 1 a7,.lst false 6 a8,.lst false 7 a9]))),(1,.box (.d (.agg [I a10,.v (.string a11),.lst false 1 a12,.lst false 1 a13,.v (.string a14)]))),(2,.box (.d (.agg [I 0,I 0,B false,B false,I 0,I 0,I 0,.lst true 0 [],.lst true 0 [],.lst true 0 []]))),(20,.box (.d (.agg [I t3.1,I t3.2.1]))),(33,.box (.agg [.d (I t1),.d (I a1),.d (B a2),.d (B a3),.d (I t3.1),.d (I t3.2.1),.d (I a6),.own 40 0,.own 46 0,.own 52 0])),(35,.box (.agg [.d (I a0),.d (I a1),.d (B a2),.d (B a3),.d (I a4),.d (I a5),.d (I a6),.own 40 0,.own 46 0,.own 52 0])),(36,.box (.agg [.d (I a0),.d (I a1),.d (B a2),.d (B a3),.d (I a4),.d (I a5),.d (I a6),.own 40 0,.own 46 0,.own 52 0])),(40,.row 0 1 a7),(46,.row 0 6 e),(52,.row 0 7 a9),(88,.box (.agg [.d (I t1),.d (I a1),.d (B a2),.d (B true),.d (I t3.1),.d (I t3.2.1),.d (I a6),.own 40 0,.own 46 0,.own 52 0])),(89,.box (.d (.agg [I a10,.v (.string a11),.lst false 1 a12,.lst false 1 a13,.v (.string a14)]))),(90,.box (.d (.agg [I 0,I 0,B false,B false,I 0,I 0,I 0,.lst true 0 [],.lst true 0 [],.lst true 0 []]))),(109,.box (.agg [.d (I t1),.d (I a1),.d (B a2),.d (B true),.d (I t3.1),.d (I t3.2.1),.d (I a6),.own 40 0,.own 46 0,.own 52 0])),(110,.box (.d (.agg [I 0,I 0,B false,B false,I 0,I 0,I 0,.lst true 0 [],.lst true 0 [],.lst true 0 []])))]⟩
theorem zg {n:Nat} {a0 a1:Int} {a2 a3:Bool} {a4 a5 a6:Int} {a7 a8 a9:jVj} {a10:Int} {a11:jSj} {a12 a13:jVj} {a14:jSj} {t1:Int} {t3:Int×Int×Int} (sa:(Int×jVj)) (r) (h:WU n a0 a1 a2 a3 a4 a5 a6 a7 a8 a9 a10 a11 a12 a13 a14 t1 t3 sa=some r):Rl (ZJ cx.P 223 0) 32 109 false (zm a0 a1 a2 a3 a4 a5 a6 a7 a8 a9 a10 a11 a12 a13 a14 t1 t3) sa r:=by
 unfold WU at h
 rcases io h with ⟨ha1,h⟩ | ⟨ha1,h⟩
 ·obtain ⟨ha2,h⟩:=gd h;obtain ⟨ta3,ha3,h⟩:=bo h;obtain ⟨ha4,h⟩:=gd h
  cases h
  exact rn 112 [b1,.no,.no,b1,.el (QB ta3)] [] [1,2,3,6,7] [0,1,2,20,33,35,36,40,46,52,88,89,90,109,110] (Qa ha4 (Qa (QX Qq ha3) (Qa ha2 (Qa (jDj ha1) QL))))
 cases h
 exact rx 112 [b0] [] [3,6] [0,1,2,20,33,35,36,40,46,52,88,89,90,109,110] (Qa (jEj ha1) QL)
def WT (n:Nat) (a0 a1:Int) (a2 a3:Bool) (a4 a5 a6:Int) (a7 a8 a9:jVj) (a10:Int) (a11:jSj) (a12 a13:jVj) (a14:jSj) (t1:Int) (t3:Int×Int×Int) (t21:jSj) (sa:(Int×jVj)):Option (((Int×jVj))⊕((jVj))) :=
 if sa.1 < ((sa.2).length:Int) then
  if 0≤sa.1∧sa.1 < ((sa.2).length:Int) then
  ((nth (sa.2) (Int.toNat sa.1)).bind QM).bind fun ta3 =>
  if (ta3.2.1.toList == t21.toList)=true then
   if Qh (sa.1+1) then
   some (.inl ((sa.1+1),(List.set sa.2 (Int.toNat sa.1) (.agg [.v (.string ta3.1),.v (.string ta3.2.1),I ta3.2.2.1,I ta3.2.2.2.1,B ta3.2.2.2.2.1,B false]:D))))
   else none
  else
  if Qh (sa.1+1) then
  some (.inl ((sa.1+1),sa.2))
  else none
  else none
 else
 some (.inr sa.2)
noncomputable def zl (a0 a1:Int) (a2 a3:Bool) (a4 a5 a6:Int) (a7 a8 a9:jVj) (a10:Int) (a11:jSj) (a12 a13:jVj) (a14:jSj) (t1:Int) (t3:Int×Int×Int) (t21:jSj):Lp ((Int×jVj)) ((jVj)):=⟨fun sa=>[(1,.d (.v (.string t21))),(2,.d (B false)),(3,.ptr 119 0 0 0 0),(6,.ptr 120 0 0 0 0),(7,.d (I sa.1))],fun sa=>[(0,.box (.d (.agg [I a0,I a1,B a2,B a3,I a4,I a5,I a6,.lst false 1 a7,.lst false 6 a8,.lst false 7 a9]))),(1,.box (.d (.agg [I a10,.v (.string a11),.lst false 1 a12,.lst false 1 a13,.v (.string a14)]))),(2,.box (.d (.agg [I 0,I 0,B false,B false,I 0,I 0,I 0,.lst true 0 [],.lst true 0 [],.lst true 0 []]))),(20,.box (.d (.agg [I t3.1,I t3.2.1]))),(33,.box (.agg [.d (I t1),.d (I a1),.d (B a2),.d (B a3),.d (I t3.1),.d (I t3.2.1),.d (I a6),.own 40 0,.own 46 0,.own 52 0])),(35,.box (.agg [.d (I a0),.d (I a1),.d (B a2),.d (B a3),.d (I a4),.d (I a5),.d (I a6),.own 40 0,.own 46 0,.own 52 0])),(36,.box (.agg [.d (I a0),.d (I a1),.d (B a2),.d (B a3),.d (I a4),.d (I a5),.d (I a6),.own 40 0,.own 46 0,.own 52 0])),(40,.row 0 1 a7),(46,.row 0 6 sa.2),(52,.row 0 7 a9),(96,.box (.agg [.d (I t1),.d (I a1),.d (B a2),.d (B a3),.d (I t3.1),.d (I t3.2.1),.d (I a6),.own 40 0,.own 46 0,.own 52 0])),(97,.box (.d (.agg [I a10,.v (.string a11),.lst false 1 a12,.lst false 1 a13,.v (.string a14)]))),(98,.box (.d (.agg [I 0,I 0,B false,B false,I 0,I 0,I 0,.lst true 0 [],.lst true 0 [],.lst true 0 []]))),(119,.box (.agg [.d (I t1),.d (I a1),.d (B a2),.d (B a3),.d (I t3.1),.d (I t3.2.1),.d (I a6),.own 40 0,.own 46 0,.own 52 0])),(120,.box (.d (.agg [I 0,I 0,B false,B false,I 0,I 0,I 0,.lst true 0 [],.lst true 0 [],.lst true 0 []])))],fun _=>(.exit 0),fun _=>[(3,.ptr 119 0 0 0 0),(6,.ptr 120 0 0 0 0)],fun e=>[(0,.box (.d (.agg [I a0,I a1,B a2,B a3,I a4,I a5,I a6,.lst false 1 a7,.lst false 6 a8,.lst false 7 a9]))),(1,.box (.d (.agg [I a10,.v (.string a11),.lst false 1 a12,.lst false 1 a13,.v (.string a14)]))),(2,.box (.d (.agg [I 0,I 0,B false,B false,I 0,I 0,I 0,.lst true 0 [],.lst true 0 [],.lst true 0 []]))),(20,.box (.d (.agg [I t3.1,I t3.2.1]))),(33,.box (.agg [.d (I t1),.d (I a1),.d (B a2),.d (B a3),.d (I t3.1),.d (I t3.2.1),.d (I a6),.own 40 0,.own 46 0,.own 52 0])),(35,.box (.agg [.d (I a0),.d (I a1),.d (B a2),.d (B a3),.d (I a4),.d (I a5),.d (I a6),.own 40 0,.own 46 0,.own 52 0])),(36,.box (.agg [.d (I a0),.d (I a1),.d (B a2),.d (B a3),.d (I a4),.d (I a5),.d (I a6),.own 40 0,.own 46 0,.own 52 0])),(40,.row 0 1 a7),(46,.row 0 6 e),(52,.row 0 7 a9),(96,.box (.agg [.d (I t1),.d (I a1),.d (B a2),.d (B a3),.d (I t3.1),.d (I t3.2.1),.d (I a6),.own 40 0,.own 46 0,.own 52 0])),(97,.box (.d (.agg [I a10,.v (.string a11),.lst false 1 a12,.lst false 1 a13,.v (.string a14)]))),(98,.box (.d (.agg [I 0,I 0,B false,B false,I 0,I 0,I 0,.lst true 0 [],.lst true 0 [],.lst true 0 []]))),(119,.box (.agg [.d (I t1),.d (I a1),.d (B a2),.d (B a3),.d (I t3.1),.d (I t3.2.1),.d (I a6),.own 40 0,.own 46 0,.own 52 0])),(120,.box (.d (.agg [I 0,I 0,B false,B false,I 0,I 0,I 0,.lst true 0 [],.lst true 0 [],.lst true 0 []])))]⟩
theorem zf {n:Nat} {a0 a1:Int} {a2 a3:Bool} {a4 a5 a6:Int} {a7 a8 a9:jVj} {a10:Int} {a11:jSj} {a12 a13:jVj} {a14:jSj} {t1:Int} {t3:Int×Int×Int} {t21:jSj} (sa:(Int×jVj)) (r) (h:WT n a0 a1 a2 a3 a4 a5 a6 a7 a8 a9 a10 a11 a12 a13 a14 t1 t3 t21 sa=some r):Rl (ZJ cx.P 223 0) 32 119 false (zl a0 a1 a2 a3 a4 a5 a6 a7 a8 a9 a10 a11 a12 a13 a14 t1 t3 t21) sa r:=by
 unfold WT at h
 rcases io h with ⟨ha1,h⟩ | ⟨ha1,h⟩
 ·obtain ⟨ha2,h⟩:=gd h;obtain ⟨ta3,ha3,h⟩:=bo h
  have q:=Qa (QX Qq ha3) (Qa ha2 (Qa (jDj ha1) QL))
  let o (l:List Orc):=b1::.no::b1::.el (QB ta3)::l
  rcases io h with ⟨ha4,h⟩ | ⟨ha4,h⟩
  ·obtain ⟨ha5,h⟩:=gd h
   cases h
   exact rn 122 (o [b1,b1,.el (QB ta3)]) [] [1,2,3,6,7] [0,1,2,20,33,35,36,40,46,52,96,97,98,119,120] (Qa ha5 (Qa (QX Qq ha3) (Qa ha2 (Qa ha4 q))))
  obtain ⟨ha5,h⟩:=gd h
  cases h
  exact rn 122 (o [b0]) [] [1,2,3,6,7] [0,1,2,20,33,35,36,40,46,52,96,97,98,119,120] (Qa ha5 (Qa (QA ha4) q))
 cases h
 exact rx 122 [b0] [] [3,6] [0,1,2,20,33,35,36,40,46,52,96,97,98,119,120] (Qa (jEj ha1) QL)
def QZ (n:Nat) (a0 a1:Int) (a2 a3:Bool) (a4 a5 a6:Int) (a7 a8 a9:jVj) (a10:Int) (a11:jSj) (a12 a13:jVj) (a14:jSj):Option (Int×Int×Bool×Bool×Int×Int×Int×jVj×jVj×jVj×Int) :=
 (el Vt a13 0).bind fun t1 =>
 if t1 < a0 then
  some (a0,a1,a2,a3,a4,a5,a6,a7,a8,a9,22)
 else
 (Vp n a0 a1 a2 a3 a4 a5 a6 a7 a8 a9 t1).bind fun t3 =>
 if t3.2.2=0 then
  (QW n a0 a1 a2 a3 a4 a5 a6 a7 a8 a9 a10 a11 a12 a13 a14).bind fun t5 =>
  if t5=0 then
   if Wa 16 (0+(a7).length) then
   if Wa 56 (0+(a8).length) then
   if Wa 64 (0+(a9).length) then
   if (a11.toList == (⟨#[115,117,110]⟩:jSj).toList)=true then
    (el Vt a13 1).bind fun t11 =>
    if t11 > 1000 then
     some (t1,a1,a2,a3,t3.1,t3.2.1,a6,a7,a8,a9,3)
    else
    some (t1,t11,a2,a3,t3.1,t3.2.1,a6,a7,a8,a9,0)
   else
   if (a11.toList == (⟨#[102,105,108,108]⟩:jSj).toList)=true then
    if a2=true then
     some (t1,a1,a2,a3,t3.1,t3.2.1,a6,a7,a8,a9,9)
    else
    some (t1,a1,true,a3,t3.1,t3.2.1,a6,a7,a8,a9,0)
   else
   if (a11.toList == (⟨#[100,114,97,105,110]⟩:jSj).toList)=true then
    if a2=true then
     (V4 n t1 a1 a2 a3 t3.1 t3.2.1 a6 a7 a8 a9).bind fun t14 =>
     if ((t14).length:Int) > 0 then
      some (t1,a1,a2,a3,t3.1,t3.2.1,a6,a7,a8,a9,31)
     else
     some (t1,a1,false,a3,t3.1,t3.2.1,a6,a7,a8,a9,0)
    else
    some (t1,a1,a2,a3,t3.1,t3.2.1,a6,a7,a8,a9,22)
   else
   if (a11.toList == (⟨#[116,114,105,112]⟩:jSj).toList)=true then
    if a3=true then
     some (t1,a1,a2,a3,t3.1,t3.2.1,a6,a7,a8,a9,9)
    else
    (Q2 (WU n a0 a1 a2 a3 a4 a5 a6 a7 a8 a9 a10 a11 a12 a13 a14 t1 t3) n (0,a8)).bind fun t15 =>
    some (t1,a1,a2,true,t3.1,t3.2.1,a6,a7,t15,a9,0)
   else
   if (a11.toList == (⟨#[114,101,115,101,116]⟩:jSj).toList)=true then
    if a3=true then
     some (t1,a1,a2,false,t3.1,t3.2.1,a6,a7,a8,a9,0)
    else
    some (t1,a1,a2,a3,t3.1,t3.2.1,a6,a7,a8,a9,22)
   else
   if (a11.toList == (⟨#[111,102,102,101,114]⟩:jSj).toList)=true then
    (el Vt a13 1).bind fun t16 =>
    if t16 < t1 then
     some (t1,a1,a2,a3,t3.1,t3.2.1,a6,a7,a8,a9,14)
    else
    (el Vt a13 2).bind fun t18 =>
    if t16 ≥ t18 then
     some (t1,a1,a2,a3,t3.1,t3.2.1,a6,a7,a8,a9,14)
    else
    (el Vt a13 3).bind fun t20 =>
    (Wt n t20 1 1000).bind fun t21 =>
    if t21=true then
     some (t1,a1,a2,a3,t3.1,t3.2.1,a6,a7,a8,a9,3)
    else
    (el Vt a13 4).bind fun t23 =>
    if t23 > 1000 then
     some (t1,a1,a2,a3,t3.1,t3.2.1,a6,a7,a8,a9,3)
    else
    if ((a9).length:Int) ≥ 32 then
     some (t1,a1,a2,a3,t3.1,t3.2.1,a6,a7,a8,a9,5)
    else
    (el Ww a12 0).bind fun t26 =>
    if Wa 64 ((a9).length+1) then
    some (t1,a1,a2,a3,t3.1,t3.2.1,a6,a7,a8,(a9++([.agg [.v (.string t26),I t16,I t18,I t20,I t23,I 0,B false]]:jVj)),0)
    else none
   else
   if (a11.toList == (⟨#[100,101,108,105,118,101,114]⟩:jSj).toList)=true then
    (el Ww a12 0).bind fun t17 =>
    (WW n t1 a1 a2 a3 t3.1 t3.2.1 a6 a7 a8 a9 111 t17).bind fun t18 =>
    if 0≤t18∧t18 < ((a9).length:Int) then
    ((nth (a9) (Int.toNat t18)).bind Z6).bind fun t20 =>
    if t20.2.2.2.2.2.2=true then
     some (t1,a1,a2,a3,t3.1,t3.2.1,a6,a7,a8,a9,23)
    else
    if (a11.toList == (⟨#[98,105,108,108]⟩:jSj).toList)=true then
     if t1 < t20.2.2.1 then
      some (t1,a1,a2,a3,t3.1,t3.2.1,a6,a7,a8,a9,32)
     else
     (Ys n t20.1 t20.2.1 t20.2.2.1 t20.2.2.2.1 t20.2.2.2.2.1 t20.2.2.2.2.2.1 t20.2.2.2.2.2.2).bind fun t24 =>
     if Qh (a6+t24) then
     some (t1,a1,a2,a3,t3.1,t3.2.1,(a6+t24),a7,a8,(List.set a9 (Int.toNat t18) (.agg [.v (.string t20.1),I t20.2.1,I t20.2.2.1,I t20.2.2.2.1,I t20.2.2.2.2.1,I t20.2.2.2.2.2.1,B true]:D)),0)
     else none
    else
    if t1 < t20.2.1 then
     some (t1,a1,a2,a3,t3.1,t3.2.1,a6,a7,a8,a9,14)
    else
    if t1 ≥ t20.2.2.1 then
     some (t1,a1,a2,a3,t3.1,t3.2.1,a6,a7,a8,a9,14)
    else
    (el Vt a13 1).bind fun t25 =>
    if t25=0 then
     some (t1,a1,a2,a3,t3.1,t3.2.1,a6,a7,a8,a9,3)
    else
    (W9 n t20.1 t20.2.1 t20.2.2.1 t20.2.2.2.1 t20.2.2.2.2.1 t20.2.2.2.2.2.1 t20.2.2.2.2.2.2).bind fun t27 =>
    if t25 > t27 then
     some (t1,a1,a2,a3,t3.1,t3.2.1,a6,a7,a8,a9,20)
    else
    if Qh (t25 * 1000000) then
    if (t25 * 1000000) > t3.2.1 then
     some (t1,a1,a2,a3,t3.1,t3.2.1,a6,a7,a8,a9,16)
    else
    if Qh (t3.2.1 - (t25 * 1000000)) then
    if Qh (t20.2.2.2.2.2.1+t25) then
    some (t1,a1,a2,a3,t3.1,(t3.2.1 - (t25 * 1000000)),a6,a7,a8,(List.set a9 (Int.toNat t18) (.agg [.v (.string t20.1),I t20.2.1,I t20.2.2.1,I t20.2.2.2.1,I t20.2.2.2.2.1,I (t20.2.2.2.2.2.1+t25),B t20.2.2.2.2.2.2]:D)),0)
    else none
    else none
    else none
    else none
   else
   if (a11.toList == (⟨#[98,105,108,108]⟩:jSj).toList)=true then
    (el Ww a12 0).bind fun t18 =>
    (WW n t1 a1 a2 a3 t3.1 t3.2.1 a6 a7 a8 a9 111 t18).bind fun t19 =>
    if 0≤t19∧t19 < ((a9).length:Int) then
    ((nth (a9) (Int.toNat t19)).bind Z6).bind fun t21 =>
    if t21.2.2.2.2.2.2=true then
     some (t1,a1,a2,a3,t3.1,t3.2.1,a6,a7,a8,a9,23)
    else
    if t1 < t21.2.2.1 then
     some (t1,a1,a2,a3,t3.1,t3.2.1,a6,a7,a8,a9,32)
    else
    (Ys n t21.1 t21.2.1 t21.2.2.1 t21.2.2.2.1 t21.2.2.2.2.1 t21.2.2.2.2.2.1 t21.2.2.2.2.2.2).bind fun t24 =>
    if Qh (a6+t24) then
    some (t1,a1,a2,a3,t3.1,t3.2.1,(a6+t24),a7,a8,(List.set a9 (Int.toNat t19) (.agg [.v (.string t21.1),I t21.2.1,I t21.2.2.1,I t21.2.2.2.1,I t21.2.2.2.2.1,I t21.2.2.2.2.2.1,B true]:D)),0)
    else none
    else none
   else
   if (a11.toList == (⟨#[115,101,99,116,111,114]⟩:jSj).toList)=true then
    if ((a7).length:Int) ≥ 8 then
     some (t1,a1,a2,a3,t3.1,t3.2.1,a6,a7,a8,a9,5)
    else
    (el Ww a12 0).bind fun t20 =>
    if Wa 16 ((a7).length+1) then
    some (t1,a1,a2,a3,t3.1,t3.2.1,a6,(a7++([.v (.string t20)]:jVj)),a8,a9,0)
    else none
   else
   if (a11.toList == (⟨#[109,105,114,114,111,114]⟩:jSj).toList)=true then
    (el Vt a13 1).bind fun t20 =>
    (Wt n t20 1 100).bind fun t21 =>
    if t21=true then
     some (t1,a1,a2,a3,t3.1,t3.2.1,a6,a7,a8,a9,3)
    else
    if ((a8).length:Int) ≥ 32 then
     some (t1,a1,a2,a3,t3.1,t3.2.1,a6,a7,a8,a9,5)
    else
    (el Ww a12 0).bind fun t24 =>
    (el Ww a12 1).bind fun t25 =>
    if Wa 56 ((a8).length+1) then
    some (t1,a1,a2,a3,t3.1,t3.2.1,a6,a7,(a8++([.agg [.v (.string t24),.v (.string t25),I t20,I 0,B false,B false]]:jVj)),a9,0)
    else none
   else
   if (a11.toList == (⟨#[100,105,109]⟩:jSj).toList)=true then
    (el Ww a12 0).bind fun t21 =>
    (Q2 (WT n a0 a1 a2 a3 a4 a5 a6 a7 a8 a9 a10 a11 a12 a13 a14 t1 t3 t21) n (0,a8)).bind fun t22 =>
    some (t1,a1,a2,a3,t3.1,t3.2.1,a6,a7,t22,a9,0)
   else
   (el Ww a12 0).bind fun t21 =>
   (WW n t1 a1 a2 a3 t3.1 t3.2.1 a6 a7 a8 a9 109 t21).bind fun t22 =>
   if 0≤t22∧t22 < ((a8).length:Int) then
   ((nth (a8) (Int.toNat t22)).bind QM).bind fun t24 =>
   if (a11.toList == (⟨#[115,111,105,108]⟩:jSj).toList)=true then
    (el Vt a13 1).bind fun t26 =>
    if t26 > 1000 then
     some (t1,a1,a2,a3,t3.1,t3.2.1,a6,a7,a8,a9,3)
    else
    if (Int.toNat t22) < (a8).length then
    some (t1,a1,a2,a3,t3.1,t3.2.1,a6,a7,(List.set a8 (Int.toNat t22) (.agg [.v (.string t24.1),.v (.string t24.2.1),I t24.2.2.1,I t26,B t24.2.2.2.2.1,B t24.2.2.2.2.2]:D)),a9,0)
    else none
   else
   if (a11.toList == (⟨#[99,108,101,97,110]⟩:jSj).toList)=true then
    if (Int.toNat t22) < (a8).length then
    some (t1,a1,a2,a3,t3.1,t3.2.1,a6,a7,(List.set a8 (Int.toNat t22) (.agg [.v (.string t24.1),.v (.string t24.2.1),I t24.2.2.1,I 0,B t24.2.2.2.2.1,B t24.2.2.2.2.2]:D)),a9,0)
    else none
   else
   if (a11.toList == (⟨#[100,101,102,101,99,116]⟩:jSj).toList)=true then
    if t24.2.2.2.2.1=true then
     some (t1,a1,a2,a3,t3.1,t3.2.1,a6,a7,a8,a9,9)
    else
    if t24.2.2.2.2.2=true then
     some (t1,a1,a2,a3,t3.1,t3.2.1,a6,a7,a8,a9,31)
    else
    if (Int.toNat t22) < (a8).length then
    some (t1,a1,a2,a3,t3.1,t3.2.1,a6,a7,(List.set a8 (Int.toNat t22) (.agg [.v (.string t24.1),.v (.string t24.2.1),I t24.2.2.1,I t24.2.2.2.1,B true,B t24.2.2.2.2.2]:D)),a9,0)
    else none
   else
   if (a11.toList == (⟨#[114,101,112,97,105,114]⟩:jSj).toList)=true then
    if t24.2.2.2.2.1=true then
     if (Int.toNat t22) < (a8).length then
     some (t1,a1,a2,a3,t3.1,t3.2.1,a6,a7,(List.set a8 (Int.toNat t22) (.agg [.v (.string t24.1),.v (.string t24.2.1),I t24.2.2.1,I t24.2.2.2.1,B false,B t24.2.2.2.2.2]:D)),a9,0)
     else none
    else
    some (t1,a1,a2,a3,t3.1,t3.2.1,a6,a7,a8,a9,22)
   else
   if (a11.toList == (⟨#[97,105,109]⟩:jSj).toList)=true then
    if a2=true then
     if a3=true then
      some (t1,a1,a2,a3,t3.1,t3.2.1,a6,a7,a8,a9,29)
     else
     if t24.2.2.2.2.1=true then
      some (t1,a1,a2,a3,t3.1,t3.2.1,a6,a7,a8,a9,21)
     else
     if t24.2.2.2.2.2=true then
      some (t1,a1,a2,a3,t3.1,t3.2.1,a6,a7,a8,a9,9)
     else
     if (Int.toNat t22) < (a8).length then
     some (t1,a1,a2,a3,t3.1,t3.2.1,a6,a7,(List.set a8 (Int.toNat t22) (.agg [.v (.string t24.1),.v (.string t24.2.1),I t24.2.2.1,I t24.2.2.2.1,B t24.2.2.2.2.1,B true]:D)),a9,0)
     else none
    else
    some (t1,a1,a2,a3,t3.1,t3.2.1,a6,a7,a8,a9,30)
   else
   if t24.2.2.2.2.2=true then
    if (Int.toNat t22) < (a8).length then
    some (t1,a1,a2,a3,t3.1,t3.2.1,a6,a7,(List.set a8 (Int.toNat t22) (.agg [.v (.string t24.1),.v (.string t24.2.1),I t24.2.2.1,I t24.2.2.2.1,B t24.2.2.2.2.1,B false]:D)),a9,0)
    else none
   else
   some (t1,a1,a2,a3,t3.1,t3.2.1,a6,a7,a8,a9,22)
   else none
   else none
   else none
   else none
  else
  some (a0,a1,a2,a3,a4,a5,a6,a7,a8,a9,t5)
 else
 some (a0,a1,a2,a3,a4,a5,a6,a7,a8,a9,t3.2.2)
theorem J0 {n:Nat} {a0 a1:Int} {a2 a3:Bool} {a4 a5 a6:Int} {a7 a8 a9:jVj} {a10:Int} {a11:jSj} {a12 a13:jVj} {a14:jSj} {r:Int×Int×Bool×Bool×Int×Int×Int×jVj×jVj×jVj×Int} (h:QZ n a0 a1 a2 a3 a4 a5 a6 a7 a8 a9 a10 a11 a12 a13 a14=some r):Computes cx 119 [.agg [I a0,I a1,B a2,B a3,I a4,I a5,I a6,.lst false 1 a7,.lst false 6 a8,.lst false 7 a9],.agg [I a10,.v (.string a11),.lst false 1 a12,.lst false 1 a13,.v (.string a14)]] (.tup [.agg [I r.1,I r.2.1,B r.2.2.1,B r.2.2.2.1,I r.2.2.2.2.1,I r.2.2.2.2.2.1,I r.2.2.2.2.2.2.1,.lst false 1 r.2.2.2.2.2.2.2.1,.lst false 6 r.2.2.2.2.2.2.2.2.1,.lst false 7 r.2.2.2.2.2.2.2.2.2.1],I r.2.2.2.2.2.2.2.2.2.2]):=by
 unfold QZ at h
 obtain ⟨t1,h1,h⟩:=bo h
 have q:=allE Qi h1 QL
 let o (l:List Orc):=.el (Q3 t1)::l
 rcases io h with ⟨h2,h⟩ | ⟨h2,h⟩
 ·cases h
  exact rf (o [b1]) (Qa (jDj h2) q)
 obtain ⟨t3,h3,h⟩:=bo h
 have q:=Qa (K8 h3) (allE Qi h1 (Qa (jEj h2) q))
 let o l:=o (b0::.el (Q3 t1)::.ret (.tup [.agg [I t3.1,I t3.2.1],I t3.2.2])::l)
 rcases io h with ⟨h4,h⟩ | ⟨h4,h⟩
 ·obtain ⟨t5,h5,h⟩:=bo h
  have q:=Qa (EP h5) (Qa (eqt h4) q)
  let o l:=o (b1::.ret (I t5)::l)
  rcases io h with ⟨h6,h⟩ | ⟨h6,h⟩
  ·obtain ⟨h7,h⟩:=gd h;obtain ⟨h8,h⟩:=gd h;obtain ⟨h9,h⟩:=gd h
   have q:=allE Qi h1 (Qa (ro 56 h9) (Qa (ro 76 h8) (Qa (ro 9 h7) (Qa (nef h6) q))))
   let o l:=o (b0::b1::.ix (-8)::b1::.ix (-8)::b1::.ix (-8)::b1::.el (Q3 t1)::l)
   rcases io h with ⟨h10,h⟩ | ⟨h10,h⟩
   ·obtain ⟨t11,h11,h⟩:=bo h
    have q:=allE Qi h11 (Qa h10 (Qa h10 (Qa h10 q)))
    let o l:=o (b1::b1::b1::b1::.el (Q3 t11)::l)
    rcases io h with ⟨h12,h⟩ | ⟨h12,h⟩
    ·cases h
     exact rf (o [b1]) (Qa (jDj h12) q)
    cases h
    exact rf (o [b0,.el (Q3 t11)]) (allE Qi h11 (Qa (jEj h12) q))
   have q:=Qa (QA h10) q
   let o l:=o (b0::l)
   rcases io h with ⟨h11,h⟩ | ⟨h11,h⟩
   ·have q:=Qa h11 (Qa (QA h10) (Qa h11 (Qa h11 q)))
    let o l:=o (b1::b1::b1::b0::b1::l)
    rcases io h with ⟨h12,h⟩ | ⟨h12,h⟩
    ·cases h
     exact rf (o [b1]) (Qa h12 q)
    cases h
    exact rf (o [b0]) (Qa (QA h12) q)
   have q:=Qa (QA h11) q
   let o l:=o (b0::l)
   rcases io h with ⟨h12,h⟩ | ⟨h12,h⟩
   ·have q:=Qa h12 (Qa (QA h11) (Qa (QA h10) (Qa h12 (Qa h12 q))))
    let o l:=o (b1::b1::b1::b0::b0::b1::l)
    rcases io h with ⟨h13,h⟩ | ⟨h13,h⟩
    ·obtain ⟨t14,h14,h⟩:=bo h
     have q:=Qa (Ec h14) (Qa (Ud h13) q)
     let o l:=o (b0::.ret (.lst false 1 t14)::l)
     rcases io h with ⟨h15,h⟩ | ⟨h15,h⟩
     ·cases h
      exact rf (o [b1]) (Qa (jDj h15) q)
     cases h
     exact rf (o [b0]) (Qa (jEj h15) q)
    cases h
    exact rf (o [b1]) (Qa (Uc (QA h13)) q)
   have q:=Qa (QA h12) q
   let o l:=o (b0::l)
   rcases io h with ⟨h13,h⟩ | ⟨h13,h⟩
   ·have q:=Qa h13 (Qa (QA h12) (Qa (QA h11) (Qa (QA h10) (Qa h13 (Qa h13 q)))))
    let o l:=o (b1::b1::b1::b0::b0::b0::b1::l)
    rcases io h with ⟨h14,h⟩ | ⟨h14,h⟩
    ·cases h
     exact rf (o [b1]) (Qa h14 q)
    obtain ⟨t15,h15,h⟩:=bo h
    cases h
    exact rf (o [b0,b1,.lp [] [1,2,3,6,7] [0,1,2,20,33,35,36,40,46,52,88,89,90,109,110] (.exit 0) [(3,.ptr 109 0 0 0 0),(6,.ptr 110 0 0 0 0)] [(0,.box (.d (.agg [I a0,I a1,B a2,B a3,I a4,I a5,I a6,.lst false 1 a7,.lst false 6 a8,.lst false 7 a9]))),(1,.box (.d (.agg [I a10,.v (.string a11),.lst false 1 a12,.lst false 1 a13,.v (.string a14)]))),(2,.box (.d (.agg [I 0,I 0,B false,B false,I 0,I 0,I 0,.lst true 0 [],.lst true 0 [],.lst true 0 []]))),(20,.box (.d (.agg [I t3.1,I t3.2.1]))),(33,.box (.agg [.d (I t1),.d (I a1),.d (B a2),.d (B a3),.d (I t3.1),.d (I t3.2.1),.d (I a6),.own 40 0,.own 46 0,.own 52 0])),(35,.box (.agg [.d (I a0),.d (I a1),.d (B a2),.d (B a3),.d (I a4),.d (I a5),.d (I a6),.own 40 0,.own 46 0,.own 52 0])),(36,.box (.agg [.d (I a0),.d (I a1),.d (B a2),.d (B a3),.d (I a4),.d (I a5),.d (I a6),.own 40 0,.own 46 0,.own 52 0])),(40,.row 0 1 a7),(46,.row 0 6 t15),(52,.row 0 7 a9),(88,.box (.agg [.d (I t1),.d (I a1),.d (B a2),.d (B true),.d (I t3.1),.d (I t3.2.1),.d (I a6),.own 40 0,.own 46 0,.own 52 0])),(89,.box (.d (.agg [I a10,.v (.string a11),.lst false 1 a12,.lst false 1 a13,.v (.string a14)]))),(90,.box (.d (.agg [I 0,I 0,B false,B false,I 0,I 0,I 0,.lst true 0 [],.lst true 0 [],.lst true 0 []]))),(109,.box (.agg [.d (I t1),.d (I a1),.d (B a2),.d (B true),.d (I t3.1),.d (I t3.2.1),.d (I a6),.own 40 0,.own 46 0,.own 52 0])),(110,.box (.d (.agg [I 0,I 0,B false,B false,I 0,I 0,I 0,.lst true 0 [],.lst true 0 [],.lst true 0 []])))] 148]) (Qa (QH zg h15) (Qa (QA h14) q))
   have q:=Qa (QA h13) q
   let o l:=o (b0::l)
   rcases io h with ⟨h14,h⟩ | ⟨h14,h⟩
   ·have q:=Qa (QA h13) (Qa (QA h12) (Qa (QA h11) (Qa (QA h10) (Qa h14 q))))
    let o l:=o (b1::b1::b0::b0::b0::b0::l)
    rcases io h with ⟨h15,h⟩ | ⟨h15,h⟩
    ·cases h
     exact rf (o [b0]) (Qa (Ud h15) q)
    cases h
    exact rf (o [b1]) (Qa (Uc (QA h15)) q)
   have q:=Qa (QA h14) q
   let o l:=o (b0::l)
   rcases io h with ⟨h15,h⟩ | ⟨h15,h⟩
   ·obtain ⟨t16,h16,h⟩:=bo h
    have q:=allE Qi h1 (allE Qi h16 (Qa h15 (Qa h15 (Qa h15 q))))
    let o l:=o (b1::b1::b1::b1::.el (Q3 t16)::.el (Q3 t1)::l)
    rcases io h with ⟨h17,h⟩ | ⟨h17,h⟩
    ·cases h
     exact rf (o [b1,.no]) (Qa (jDj h17) q)
    obtain ⟨t18,h18,h⟩:=bo h
    have q:=allE Qi h18 (allE Qi h16 (Qa (jEj h17) q))
    let o l:=o (b0::.el (Q3 t16)::.el (Q3 t18)::l)
    rcases io h with ⟨h19,h⟩ | ⟨h19,h⟩
    ·cases h
     exact rf (o [b1]) (Qa (jDj h19) q)
    obtain ⟨t20,h20,h⟩:=bo h;obtain ⟨t21,h21,h⟩:=bo h
    have q:=Qa (V0 h21) (allE Qi h20 (Qa (jEj h19) q))
    let o l:=o (b0::.el (Q3 t20)::.ret (B t21)::l)
    rcases io h with ⟨h22,h⟩ | ⟨h22,h⟩
    ·cases h
     exact rf (o [b1,.no]) (Qa h22 q)
    obtain ⟨t23,h23,h⟩:=bo h
    have q:=allE Qi h23 (Qa (QA h22) q)
    let o l:=o (b0::.el (Q3 t23)::l)
    rcases io h with ⟨h24,h⟩ | ⟨h24,h⟩
    ·cases h
     exact rf (o [b1]) (Qa (jDj h24) q)
    have q:=Qa (jEj h24) q
    rcases io h with ⟨h25,h⟩ | ⟨h25,h⟩
    ·cases h
     exact rf (o [b0,b1]) (Qa (jDj h25) q)
    obtain ⟨t26,h26,h⟩:=bo h;obtain ⟨h27,h⟩:=gd h
    cases h
    exact rf (o [b0,b0,.el (Zy t26),.el (Q3 t16),.el (Q3 t18),.el (Q3 t20),.el (Q3 t23),b1]) (Qa (ro 56 h27) (allE Qi h23 (allE Qi h20 (allE Qi h18 (allE Qi h16 (allE Qr h26 (Qa (jEj h25) q)))))))
   have q:=Qa (QA h15) q
   let o l:=o (b0::l)
   rcases io h with ⟨h16,h⟩ | ⟨h16,h⟩
   ·obtain ⟨t17,h17,h⟩:=bo h;obtain ⟨t18,h18,h⟩:=bo h;obtain ⟨h19,h⟩:=gd h;obtain ⟨t20,h20,h⟩:=bo h
    have q:=Qa (QX Q0 h20) (Qa h19 (Qa (K9 h18) (allE Qr h17 (Qa (QA h15) (Qa h16 (Qa h16 q))))))
    let o l:=o (b1::b1::b1::b0::.el (Zy t17)::.ix 0::.ret (I t18)::b1::.el (Q7 t20)::l)
    rcases io h with ⟨h21,h⟩ | ⟨h21,h⟩
    ·cases h
     exact rf (o [b1]) (Qa h21 q)
    have q:=Qa (QA h21) q
    let o l:=o (b0::l)
    rcases io h with ⟨h22,h⟩ | ⟨h22,h⟩
    ·have q:=allE Qi h1 (Qa h22 q)
     let o l:=o (b1::.el (Q3 t1)::l)
     rcases io h with ⟨h23,h⟩ | ⟨h23,h⟩
     ·cases h
      exact rf (o [b1]) (Qa (jDj h23) q)
     obtain ⟨t24,h24,h⟩:=bo h;obtain ⟨h25,h⟩:=gd h
     cases h
     exact rf (o [b0,b1,.el (Q7 t20),.ret (I t24)]) (Qa h25 (Qa (qr h24) (Qa (QX Q0 h20) (Qa h19 (Qa (jEj h23) q)))))
    have q:=allE Qi h1 (Qa (QA h22) q)
    let o l:=o (b0::.el (Q3 t1)::l)
    rcases io h with ⟨h23,h⟩ | ⟨h23,h⟩
    ·cases h
     exact rf (o [b1,.no]) (Qa (jDj h23) q)
    have q:=allE Qi h1 (Qa (jEj h23) q)
    let o l:=o (b0::.el (Q3 t1)::l)
    rcases io h with ⟨h24,h⟩ | ⟨h24,h⟩
    ·cases h
     exact rf (o [b1]) (Qa (jDj h24) q)
    obtain ⟨t25,h25,h⟩:=bo h
    have q:=allE Qi h25 (Qa (jEj h24) q)
    let o l:=o (b0::.el (Q3 t25)::l)
    rcases io h with ⟨h26,h⟩ | ⟨h26,h⟩
    ·cases h
     exact rf (o [b1]) (Qa (eqt h26) q)
    obtain ⟨t27,h27,h⟩:=bo h
    have q:=Qa (JJ h27) (allE Qi h25 (Qa (eqf h26) q))
    let o l:=o (b0::.el (Q3 t25)::.ret (I t27)::l)
    rcases io h with ⟨h28,h⟩ | ⟨h28,h⟩
    ·cases h
     exact rf (o [b1]) (Qa (jDj h28) q)
    obtain ⟨h29,h⟩:=gd h
    have q:=Qa h29 (allE Qi h25 (Qa (jEj h28) q))
    let o l:=o (b0::.el (Q3 t25)::l)
    rcases io h with ⟨h30,h⟩ | ⟨h30,h⟩
    ·cases h
     exact rf (o [b1]) (Qa (jDj h30) q)
    obtain ⟨h31,h⟩:=gd h;obtain ⟨h32,h⟩:=gd h
    cases h
    exact rf (o [b0,.el (Q3 t25),.el (Q3 t25),b1,.el (Q7 t20)]) (Qa (QX Q0 h20) (Qa h19 (Qa h32 (allE Qi h25 (Qa h31 (Qa h29 (allE Qi h25 (Qa (jEj h30) q))))))))
   have q:=Qa (QA h16) q
   let o l:=o (b0::l)
   rcases io h with ⟨h17,h⟩ | ⟨h17,h⟩
   ·obtain ⟨t18,h18,h⟩:=bo h;obtain ⟨t19,h19,h⟩:=bo h;obtain ⟨h20,h⟩:=gd h;obtain ⟨t21,h21,h⟩:=bo h
    have q:=Qa (QX Q0 h21) (Qa h20 (Qa (K9 h19) (allE Qr h18 (Qa (QA h15) (Qa h17 q)))))
    let o l:=o (b1::b1::b0::.el (Zy t18)::.ix 0::.ret (I t19)::b1::.el (Q7 t21)::l)
    rcases io h with ⟨h22,h⟩ | ⟨h22,h⟩
    ·cases h
     exact rf (o [b1]) (Qa h22 q)
    have q:=allE Qi h1 (Qa h17 (Qa (QA h22) q))
    let o l:=o (b0::b1::.el (Q3 t1)::l)
    rcases io h with ⟨h23,h⟩ | ⟨h23,h⟩
    ·cases h
     exact rf (o [b1]) (Qa (jDj h23) q)
    obtain ⟨t24,h24,h⟩:=bo h;obtain ⟨h25,h⟩:=gd h
    cases h
    exact rf (o [b0,b1,.el (Q7 t21),.ret (I t24)]) (Qa h25 (Qa (qr h24) (Qa (QX Q0 h21) (Qa h20 (Qa (jEj h23) q)))))
   have q:=Qa (QA h17) q
   let o l:=o (b0::b1::l)
   rcases io h with ⟨h18,h⟩ | ⟨h18,h⟩
   ·have q:=Qa h18 q
    rcases io h with ⟨h19,h⟩ | ⟨h19,h⟩
    ·cases h
     exact rf (o [b1,b1]) (Qa (jDj h19) q)
    obtain ⟨t20,h20,h⟩:=bo h;obtain ⟨h21,h⟩:=gd h
    cases h
    exact rf (o [b1,b0,.el (Zy t20),b1]) (Qa (ro 9 h21) (allE Qr h20 (Qa (jEj h19) q)))
   have q:=Qa (QA h18) q
   let o l:=o (b0::l)
   rcases io h with ⟨h19,h⟩ | ⟨h19,h⟩
   ·obtain ⟨t20,h20,h⟩:=bo h;obtain ⟨t21,h21,h⟩:=bo h
    have q:=Qa (V0 h21) (allE Qi h20 (Qa h19 q))
    let o l:=o (b1::.el (Q3 t20)::.ret (B t21)::l)
    rcases io h with ⟨h22,h⟩ | ⟨h22,h⟩
    ·cases h
     exact rf (o [b1]) (Qa h22 q)
    have q:=Qa (QA h22) q
    rcases io h with ⟨h23,h⟩ | ⟨h23,h⟩
    ·cases h
     exact rf (o [b0,b1]) (Qa (jDj h23) q)
    obtain ⟨t24,h24,h⟩:=bo h;obtain ⟨t25,h25,h⟩:=bo h;obtain ⟨h26,h⟩:=gd h
    cases h
    exact rf (o [b0,b0,.el (Zy t24),.el (Zy t25),.el (Q3 t20),b1]) (Qa (ro 76 h26) (allE Qi h20 (allE Qr h25 (allE Qr h24 (Qa (jEj h23) q)))))
   have q:=Qa (QA h19) q
   let o l:=o (b0::l)
   rcases io h with ⟨h20,h⟩ | ⟨h20,h⟩
   ·obtain ⟨t21,h21,h⟩:=bo h;obtain ⟨t22,h22,h⟩:=bo h
    cases h
    exact rf (o [b1,.el (Zy t21),.ix (-9),b1,.lp [] [1,2,3,6,7] [0,1,2,20,33,35,36,40,46,52,96,97,98,119,120] (.exit 0) [(3,.ptr 119 0 0 0 0),(6,.ptr 120 0 0 0 0)] [(0,.box (.d (.agg [I a0,I a1,B a2,B a3,I a4,I a5,I a6,.lst false 1 a7,.lst false 6 a8,.lst false 7 a9]))),(1,.box (.d (.agg [I a10,.v (.string a11),.lst false 1 a12,.lst false 1 a13,.v (.string a14)]))),(2,.box (.d (.agg [I 0,I 0,B false,B false,I 0,I 0,I 0,.lst true 0 [],.lst true 0 [],.lst true 0 []]))),(20,.box (.d (.agg [I t3.1,I t3.2.1]))),(33,.box (.agg [.d (I t1),.d (I a1),.d (B a2),.d (B a3),.d (I t3.1),.d (I t3.2.1),.d (I a6),.own 40 0,.own 46 0,.own 52 0])),(35,.box (.agg [.d (I a0),.d (I a1),.d (B a2),.d (B a3),.d (I a4),.d (I a5),.d (I a6),.own 40 0,.own 46 0,.own 52 0])),(36,.box (.agg [.d (I a0),.d (I a1),.d (B a2),.d (B a3),.d (I a4),.d (I a5),.d (I a6),.own 40 0,.own 46 0,.own 52 0])),(40,.row 0 1 a7),(46,.row 0 6 t22),(52,.row 0 7 a9),(96,.box (.agg [.d (I t1),.d (I a1),.d (B a2),.d (B a3),.d (I t3.1),.d (I t3.2.1),.d (I a6),.own 40 0,.own 46 0,.own 52 0])),(97,.box (.d (.agg [I a10,.v (.string a11),.lst false 1 a12,.lst false 1 a13,.v (.string a14)]))),(98,.box (.d (.agg [I 0,I 0,B false,B false,I 0,I 0,I 0,.lst true 0 [],.lst true 0 [],.lst true 0 []]))),(119,.box (.agg [.d (I t1),.d (I a1),.d (B a2),.d (B a3),.d (I t3.1),.d (I t3.2.1),.d (I a6),.own 40 0,.own 46 0,.own 52 0])),(120,.box (.d (.agg [I 0,I 0,B false,B false,I 0,I 0,I 0,.lst true 0 [],.lst true 0 [],.lst true 0 []])))] 158]) (Qa (QH zf h22) (allE Qr h21 (Qa h20 q)))
   obtain ⟨t21,h21,h⟩:=bo h;obtain ⟨t22,h22,h⟩:=bo h;obtain ⟨h23,h⟩:=gd h;obtain ⟨t24,h24,h⟩:=bo h
   have q:=Qa (QX Qq h24) (Qa h23 (Qa (K9 h22) (allE Qr h21 (Qa (QA h20) q))))
   let o l:=o (b0::.el (Zy t21)::.ix 0::.ret (I t22)::b1::.el (QB t24)::l)
   rcases io h with ⟨h25,h⟩ | ⟨h25,h⟩
   ·obtain ⟨t26,h26,h⟩:=bo h
    have q:=allE Qi h26 (Qa h25 q)
    let o l:=o (b1::.el (Q3 t26)::l)
    rcases io h with ⟨h27,h⟩ | ⟨h27,h⟩
    ·cases h
     exact rf (o [b1]) (Qa (jDj h27) q)
    obtain ⟨h28,h⟩:=gd h
    cases h
    exact rf (o [b0,.el (Q3 t26),b1,b1]) (Qa h28 (Qa h23 (allE Qi h26 (Qa (jEj h27) q))))
   have q:=Qa (QA h25) q
   let o l:=o (b0::l)
   rcases io h with ⟨h26,h⟩ | ⟨h26,h⟩
   ·obtain ⟨h27,h⟩:=gd h
    cases h
    exact rf (o [b1,b1,b1]) (Qa h27 (Qa h23 (Qa h26 q)))
   have q:=Qa (QA h26) q
   let o l:=o (b0::l)
   rcases io h with ⟨h27,h⟩ | ⟨h27,h⟩
   ·have q:=Qa h27 q
    rcases io h with ⟨h28,h⟩ | ⟨h28,h⟩
    ·cases h
     exact rf (o [b1,b1]) (Qa h28 q)
    have q:=Qa (QA h28) q
    rcases io h with ⟨h29,h⟩ | ⟨h29,h⟩
    ·cases h
     exact rf (o [b1,b0,b1]) (Qa h29 q)
    obtain ⟨h30,h⟩:=gd h
    cases h
    exact rf (o [b1,b0,b0,b1,b1]) (Qa h30 (Qa h23 (Qa (QA h29) q)))
   have q:=Qa (QA h27) q
   let o l:=o (b0::l)
   rcases io h with ⟨h28,h⟩ | ⟨h28,h⟩
   ·have q:=Qa h28 q
    rcases io h with ⟨h29,h⟩ | ⟨h29,h⟩
    ·obtain ⟨h30,h⟩:=gd h
     cases h
     exact rf (o [b1,b0,b1,b1]) (Qa h30 (Qa h23 (Qa (Ud h29) q)))
    cases h
    exact rf (o [b1,b1]) (Qa (Uc (QA h29)) q)
   have q:=Qa (QA h28) q
   let o l:=o (b0::l)
   rcases io h with ⟨h29,h⟩ | ⟨h29,h⟩
   ·have q:=Qa h29 q
    let o l:=o (b1::l)
    rcases io h with ⟨h30,h⟩ | ⟨h30,h⟩
    ·have q:=Qa (Ud h30) q
     rcases io h with ⟨h31,h⟩ | ⟨h31,h⟩
     ·cases h
      exact rf (o [b0,b1]) (Qa h31 q)
     have q:=Qa (QA h31) q
     let o l:=o (b0::b0::l)
     rcases io h with ⟨h32,h⟩ | ⟨h32,h⟩
     ·cases h
      exact rf (o [b1]) (Qa h32 q)
     have q:=Qa (QA h32) q
     rcases io h with ⟨h33,h⟩ | ⟨h33,h⟩
     ·cases h
      exact rf (o [b0,b1]) (Qa h33 q)
     obtain ⟨h34,h⟩:=gd h
     cases h
     exact rf (o [b0,b0,b1,b1]) (Qa h34 (Qa h23 (Qa (QA h33) q)))
    cases h
    exact rf (o [b1]) (Qa (Uc (QA h30)) q)
   have q:=Qa (QA h29) q
   rcases io h with ⟨h30,h⟩ | ⟨h30,h⟩
   ·obtain ⟨h31,h⟩:=gd h
    cases h
    exact rf (o [b0,b0,b1,b1]) (Qa h31 (Qa h23 (Qa (Ud h30) q)))
   cases h
   exact rf (o [b0,b1]) (Qa (Uc (QA h30)) q)
  cases h
  exact rf (o [b1]) (Qa (net h6) q)
 cases h
 exact rf (o [b0,b1]) (Qa (net h4) (Qa (eqf h4) q))
def Vn (x:jRj):D:=.agg [I x.1,I x.2.1,B x.2.2.1,B x.2.2.2.1,I x.2.2.2.2.1,I x.2.2.2.2.2.1,I x.2.2.2.2.2.2.1,.lst false 1 x.2.2.2.2.2.2.2.1,.lst false 6 x.2.2.2.2.2.2.2.2.1,.lst false 7 x.2.2.2.2.2.2.2.2.2]
def Vy:D→Option (jRj)
 | .agg [c0,c1,c2,c3,c4,c5,c6,c7,c8,c9]=>(Ya .i64 c0).bind fun y0=>(Ya .i64 c1).bind fun y1=>(Gw c2).bind fun y2=>(Gw c3).bind fun y3=>(Ya .i64 c4).bind fun y4=>(Ya .i64 c5).bind fun y5=>(Ya .i64 c6).bind fun y6=>(Em 1 c7).bind fun y7=>(Em 6 c8).bind fun y8=>(Em 7 c9).bind fun y9=>some (y0,y1,y2,y3,y4,y5,y6,y7,y8,y9)
 | _=>none
theorem Vx {d:D} {x:jRj} (h:Vy d=some x):d=Vn x:=by
 unfold Vy at h
 split at h
 case h_2=>cases h
 obtain ⟨y0,h0,h⟩:=ZX h
 obtain ⟨y1,h1,h⟩:=ZX h
 obtain ⟨y2,h2,h⟩:=ZX h
 obtain ⟨y3,h3,h⟩:=ZX h
 obtain ⟨y4,h4,h⟩:=ZX h
 obtain ⟨y5,h5,h⟩:=ZX h
 obtain ⟨y6,h6,h⟩:=ZX h
 obtain ⟨y7,h7,h⟩:=ZX h
 obtain ⟨y8,h8,h⟩:=ZX h
 obtain ⟨y9,h9,h⟩:=ZX h
 cases h
 have e0:=WS h0
 have e1:=WS h1
 have e2:=KG h2
 have e3:=KG h3
 have e4:=WS h4
 have e5:=WS h5
 have e6:=WS h6
 have e7:=J7 h7
 have e8:=J7 h8
 have e9:=J7 h9
 rw [e0,e1,e2,e3,e4,e5,e6,e7,e8,e9];rfl
def ZT:Option D→Bool
 | some (.agg [.v (.int .i64 0),.v (.int .i64 0),.v (.bool false),.v (.bool false),.v (.int .i64 0),.v (.int .i64 0),.v (.int .i64 0),.lst true 0 [],.lst true 0 [],.lst true 0 []])=>true
 | _=>false
theorem Uu {o:Option D} (h:ZT o=true):o=some (.agg [I 0,I 0,B false,B false,I 0,I 0,I 0,.lst true 0 [],.lst true 0 [],.lst true 0 []]):=by
 unfold ZT at h
 split at h
 ·rfl
 ·cases h
def Zh (n:Nat) (a0:jVj) (sa:(Unit)⊕(jVj×jVj×Int)):Option (((Unit)⊕(jVj×jVj×Int))⊕((Int×Int)⊕(Unit)⊕(jVj×jVj))):=match sa with
 | (.inl sa)=>(
  if 0 < ((a0).length:Int) then
   (el Ze a0 0).bind fun ta2 =>
   (WV n ta2.1 ta2.2.1 ta2.2.2.1 ta2.2.2.2.1 ta2.2.2.2.2).bind fun ta3 =>
   if ta3=0 then
    if ta2.1=1 then
     if (ta2.2.1.toList == (⟨#[117,110,100,111]⟩:jSj).toList)=true then
      some (.inr (.inl (1,12)))
     else
     (QZ n 0 0 false false 0 0 0 ([]) ([]) ([]) ta2.1 ta2.2.1 ta2.2.2.1 ta2.2.2.2.1 ta2.2.2.2.2).bind fun ta7 =>
     if ta7.2.2.2.2.2.2.2.2.2.2=0 then
      some (.inl (.inr ([.agg [I ta2.1,.v (.string ta2.2.1),.lst false 1 ta2.2.2.1,.lst false 1 ta2.2.2.2.1,.v (.string ta2.2.2.2.2)]],[.agg [I 0,I 0,B false,B false,I 0,I 0,I 0,.lst true 0 [],.lst true 0 [],.lst true 0 []],.agg [I ta7.1,I ta7.2.1,B ta7.2.2.1,B ta7.2.2.2.1,I ta7.2.2.2.2.1,I ta7.2.2.2.2.2.1,I ta7.2.2.2.2.2.2.1,.lst false 1 ta7.2.2.2.2.2.2.2.1,.lst false 6 ta7.2.2.2.2.2.2.2.2.1,.lst false 7 ta7.2.2.2.2.2.2.2.2.2.1]],1)))
     else
     some (.inr (.inl (1,ta7.2.2.2.2.2.2.2.2.2.2)))
    else
    some (.inr (.inl (1,11)))
   else
   some (.inr (.inl (1,ta3)))
  else
  some (.inr (.inr (.inl ()))))
 | (.inr sa)=>(
  if sa.2.2 < ((a0).length:Int) then
   (el Ze a0 sa.2.2).bind fun ta2 =>
   (WV n ta2.1 ta2.2.1 ta2.2.2.1 ta2.2.2.2.1 ta2.2.2.2.2).bind fun ta3 =>
   if ta3=0 then
    if Qh (sa.2.2+1) then
    if ta2.1=(sa.2.2+1) then
     if (ta2.2.1.toList == (⟨#[117,110,100,111]⟩:jSj).toList)=true then
      if ((sa.1).length:Int)=0 then
       some (.inr (.inl ((sa.2.2+1),12)))
      else
      if Qh (((sa.1).length:Int) - 1) then
      (el Ze sa.1 (((sa.1).length:Int) - 1)).bind fun ta10 =>
      if (ta10.2.1.toList == (⟨#[100,101,108,105,118,101,114]⟩:jSj).toList)=true then
       some (.inr (.inl ((sa.2.2+1),21)))
      else
      if (ta10.2.1.toList == (⟨#[98,105,108,108]⟩:jSj).toList)=true then
       some (.inr (.inl ((sa.2.2+1),21)))
      else
      if (0:Int)≤0∧0≤(((sa.1).length:Int) - 1)∧(((sa.1).length:Int) - 1)≤((sa.1).length:Int)∧(sa.1=[] ∨ 5=5) then
      if (0:Int)≤0∧0≤((sa.1).length:Int)∧((sa.1).length:Int)≤((sa.2.1).length:Int)∧(sa.2.1=[] ∨ 10=10) then
      some (.inl (.inr (((sa.1.take (Int.toNat (((sa.1).length:Int) - 1))).drop (Int.toNat 0)),((sa.2.1.take (Int.toNat ((sa.1).length:Int))).drop (Int.toNat 0)),(sa.2.2+1))))
      else none
      else none
      else none
     else
     if ZT (nth (sa.2.1) (Int.toNat ((sa.1).length:Int)))=true then
      if (0:Int)≤((sa.1).length:Int) then
      (QZ n 0 0 false false 0 0 0 ([]) ([]) ([]) ta2.1 ta2.2.1 ta2.2.2.1 ta2.2.2.2.1 ta2.2.2.2.2).bind fun ta10 =>
      if ta10.2.2.2.2.2.2.2.2.2.2=0 then
       if Wa 88 (0+(sa.1).length) then
       if Wa 88 ((sa.1).length+1) then
       if Wa 120 (0+(sa.2.1).length) then
       if Wa 120 ((sa.2.1).length+1) then
       some (.inl (.inr ((sa.1++([.agg [I ta2.1,.v (.string ta2.2.1),.lst false 1 ta2.2.2.1,.lst false 1 ta2.2.2.2.1,.v (.string ta2.2.2.2.2)]]:jVj)),(sa.2.1++([.agg [I ta10.1,I ta10.2.1,B ta10.2.2.1,B ta10.2.2.2.1,I ta10.2.2.2.2.1,I ta10.2.2.2.2.2.1,I ta10.2.2.2.2.2.2.1,.lst false 1 ta10.2.2.2.2.2.2.2.1,.lst false 6 ta10.2.2.2.2.2.2.2.2.1,.lst false 7 ta10.2.2.2.2.2.2.2.2.2.1]]:jVj)),(sa.2.2+1))))
       else none
       else none
       else none
       else none
      else
      some (.inr (.inl ((sa.2.2+1),ta10.2.2.2.2.2.2.2.2.2.2)))
      else none
     else
     (el Vy sa.2.1 ((sa.1).length:Int)).bind fun ta9 =>
     (QZ n ta9.1 ta9.2.1 ta9.2.2.1 ta9.2.2.2.1 ta9.2.2.2.2.1 ta9.2.2.2.2.2.1 ta9.2.2.2.2.2.2.1 ta9.2.2.2.2.2.2.2.1 ta9.2.2.2.2.2.2.2.2.1 ta9.2.2.2.2.2.2.2.2.2 ta2.1 ta2.2.1 ta2.2.2.1 ta2.2.2.2.1 ta2.2.2.2.2).bind fun ta10 =>
     if ta10.2.2.2.2.2.2.2.2.2.2=0 then
      if Wa 88 (0+(sa.1).length) then
      if Wa 88 ((sa.1).length+1) then
      if Wa 120 (0+(sa.2.1).length) then
      if Wa 120 ((sa.2.1).length+1) then
      some (.inl (.inr ((sa.1++([.agg [I ta2.1,.v (.string ta2.2.1),.lst false 1 ta2.2.2.1,.lst false 1 ta2.2.2.2.1,.v (.string ta2.2.2.2.2)]]:jVj)),(sa.2.1++([.agg [I ta10.1,I ta10.2.1,B ta10.2.2.1,B ta10.2.2.2.1,I ta10.2.2.2.2.1,I ta10.2.2.2.2.2.1,I ta10.2.2.2.2.2.2.1,.lst false 1 ta10.2.2.2.2.2.2.2.1,.lst false 6 ta10.2.2.2.2.2.2.2.2.1,.lst false 7 ta10.2.2.2.2.2.2.2.2.2.1]]:jVj)),(sa.2.2+1))))
      else none
      else none
      else none
      else none
     else
     some (.inr (.inl ((sa.2.2+1),ta10.2.2.2.2.2.2.2.2.2.2)))
    else
    some (.inr (.inl ((sa.2.2+1),11)))
    else none
   else
   if Qh (sa.2.2+1) then
   some (.inr (.inl ((sa.2.2+1),ta3)))
   else none
  else
  some (.inr (.inr (.inr (sa.1,sa.2.1)))))
noncomputable def ES (a0:jVj):Lp ((Unit)⊕(jVj×jVj×Int)) ((Int×Int)⊕(Unit)⊕(jVj×jVj)):=⟨fun
 | (.inl sa)=>[(0,.d (.lst false 5 a0)),(6,.d (.lst true 0 [])),(7,.d (.lst true 10 [.agg [I 0,I 0,B false,B false,I 0,I 0,I 0,.lst true 0 [],.lst true 0 [],.lst true 0 []]])),(8,.d (I 0))]
 | (.inr sa)=>[(0,.d (.lst false 5 a0)),(6,.d (.lst false 5 sa.1)),(7,.d (.lst false 10 sa.2.1)),(8,.d (I sa.2.2))],fun _=>[],fun
 | (.inl e)=>.ret
 | (.inr (.inl e))=>(.exit 0)
 | (.inr (.inr e))=>(.exit 0),fun
 | (.inl e)=>[(2,.d (.lst true 0 [])),(3,.d (.lst true 0 [])),(4,.d (I e.1)),(5,.d (I e.2))]
 | (.inr (.inl e))=>[(6,.d (.lst true 0 [])),(7,.d (.lst true 10 [.agg [I 0,I 0,B false,B false,I 0,I 0,I 0,.lst true 0 [],.lst true 0 [],.lst true 0 []]]))]
 | (.inr (.inr e))=>[(6,.d (.lst false 5 e.1)),(7,.d (.lst false 10 e.2))],fun _=>[]⟩
theorem YS {n:Nat} {a0:jVj} (sa:(Unit)⊕(jVj×jVj×Int)) (r) (h:Zh n a0 sa=some r):Rl (ZJ cx.P 72 0) 113 0 false (ES a0) sa r:=by
 unfold Zh at h
 rcases sa with sa | sa
 ·rcases io h with ⟨ha1,h⟩ | ⟨ha1,h⟩
  ·obtain ⟨ta2,ha2,h⟩:=bo h;obtain ⟨ta3,ha3,h⟩:=bo h
   have q:=Qa (K7 ha3) (allE Ql ha2 (Qa (jDj ha1) QL))
   let o (l:List Orc):=b1::.el (QP ta2)::.ret (I ta3)::l
   rcases io h with ⟨ha4,h⟩ | ⟨ha4,h⟩
   ·have q:=Qa ((by unfold Qh;omega):Qh 1) (allE Ql ha2 (Qa (eqt ha4) q))
    let o l:=o (b1::.el (QP ta2)::l)
    rcases io h with ⟨ha5,h⟩ | ⟨ha5,h⟩
    ·have q:=allE Ql ha2 (Qa (eqt ha4) (Qa (nef ha5) q))
     let o l:=o (b0::b1::.el (QP ta2)::l)
     rcases io h with ⟨ha6,h⟩ | ⟨ha6,h⟩
     ·cases h
      exact rx 12 (o [b1,.no,.no,.no]) [] [2,3,4,5] [] (Qa ((by unfold Qh;omega):Qh 1) (Qa ha6 q))
     obtain ⟨ta7,ha7,h⟩:=bo h
     have q:=Qa (((J0 ha7).le (.cons (.aggs (.cons (.refl _) (.cons (.refl _) (.cons (.refl _) (.cons (.refl _) (.cons (.refl _) (.cons (.refl _) (.cons (.refl _) (.cons (.nilF) (.cons (.nilF) (.cons (.nilF) (.nil)))))))))))) (.cons (.refl _) (.nil))) (.refl _)):Computes cx 119 [.agg [I 0,I 0,B false,B false,I 0,I 0,I 0,.lst true 0 [],.lst true 0 [],.lst true 0 []],.agg [I ta2.1,.v (.string ta2.2.1),.lst false 1 ta2.2.2.1,.lst false 1 ta2.2.2.2.1,.v (.string ta2.2.2.2.2)]] (.tup [.agg [I ta7.1,I ta7.2.1,B ta7.2.2.1,B ta7.2.2.2.1,I ta7.2.2.2.2.1,I ta7.2.2.2.2.2.1,I ta7.2.2.2.2.2.2.1,.lst false 1 ta7.2.2.2.2.2.2.2.1,.lst false 6 ta7.2.2.2.2.2.2.2.2.1,.lst false 7 ta7.2.2.2.2.2.2.2.2.2.1],I ta7.2.2.2.2.2.2.2.2.2.2])) (allE Ql ha2 (Qa (eqt ha4) (Qa (QA ha6) q)))
     let o l:=o (b0::b1::.no::.el (QP ta2)::.ret (.tup [.agg [I ta7.1,I ta7.2.1,B ta7.2.2.1,B ta7.2.2.2.1,I ta7.2.2.2.2.1,I ta7.2.2.2.2.2.1,I ta7.2.2.2.2.2.2.1,.lst false 1 ta7.2.2.2.2.2.2.2.1,.lst false 6 ta7.2.2.2.2.2.2.2.2.1,.lst false 7 ta7.2.2.2.2.2.2.2.2.2.1],I ta7.2.2.2.2.2.2.2.2.2.2])::l)
     rcases io h with ⟨ha8,h⟩ | ⟨ha8,h⟩
     ·cases h
      exact rn 12 (o [b0,.no,.no,.el (QP ta2),.no,.no,.ix 0,.ix (-8),.no,.no,.ix (-7)]) [] [0,6,7,8] [] (Qa ((by unfold Qh;omega):Qh 1) (allE Ql ha2 (Qa (nef ha8) q)))
     cases h
     exact rx 12 (o [b1]) [] [2,3,4,5] [] (Qa ((by unfold Qh;omega):Qh 1) (Qa (net ha8) q))
    cases h
    exact rx 12 (o [b1,.no,.no,.no,.no]) [] [2,3,4,5] [] (Qa ((by unfold Qh;omega):Qh 1) (Qa (net ha5) q))
   cases h
   exact rx 12 (o [b0,.no,b0,.no,b0,b1]) [] [2,3,4,5] [] (Qa ((by unfold Qh;omega):Qh 1) (Qa (net ha4) (Qa (eqf ha4) (Qa (eqf ha4) (Qa (eqf ha4) q)))))
  cases h
  exact rx 12 [b0] [] [6,7] [] (Qa (jEj ha1) QL)
 ·rcases io h with ⟨ha1,h⟩ | ⟨ha1,h⟩
  ·obtain ⟨ta2,ha2,h⟩:=bo h;obtain ⟨ta3,ha3,h⟩:=bo h
   have q:=Qa (K7 ha3) (allE Ql ha2 (Qa (jDj ha1) QL))
   let o (l:List Orc):=b1::.el (QP ta2)::.ret (I ta3)::l
   rcases io h with ⟨ha4,h⟩ | ⟨ha4,h⟩
   ·obtain ⟨ha5,h⟩:=gd h
    have q:=Qa ha5 (allE Ql ha2 (Qa (eqt ha4) q))
    let o l:=o (b1::.el (QP ta2)::l)
    rcases io h with ⟨ha6,h⟩ | ⟨ha6,h⟩
    ·have q:=allE Ql ha2 (Qa (eqt ha4) (Qa (nef ha6) q))
     let o l:=o (b0::b1::.el (QP ta2)::l)
     rcases io h with ⟨ha7,h⟩ | ⟨ha7,h⟩
     ·have q:=Qa ha7 q
      rcases io h with ⟨ha8,h⟩ | ⟨ha8,h⟩
      ·cases h
       exact rx 12 (o [b1,b1,.no,.no]) [] [2,3,4,5] [] (Qa ha5 (Qa (eqt ha8) q))
      obtain ⟨ha9,h⟩:=gd h;obtain ⟨ta10,ha10,h⟩:=bo h
      have q:=allE Ql ha10 (Qa ha9 (Qa (eqf ha8) q))
      let o l:=o (b1::b0::.el (QP ta10)::l)
      rcases io h with ⟨ha11,h⟩ | ⟨ha11,h⟩
      ·cases h
       exact rx 12 (o [b1,.no,.no,.no]) [] [2,3,4,5] [] (Qa ha5 (Qa ha11 q))
      have q:=allE Ql ha10 (Qa ha9 (Qa (QA ha11) q))
      let o l:=o (b0::.el (QP ta10)::l)
      rcases io h with ⟨ha12,h⟩ | ⟨ha12,h⟩
      ·cases h
       exact rx 12 (o [b1,.no,.no]) [] [2,3,4,5] [] (Qa ha5 (Qa ha12 q))
      obtain ⟨ha13,h⟩:=gd h;obtain ⟨ha14,h⟩:=gd h
      cases h
      exact rn 12 (o [b0,b1,b1]) [] [0,6,7,8] [] (Qa ha5 (Qa ha14 (Qa ha13 (Qa ha9 (Qa (QA ha12) q)))))
     have q:=Qa (eqt ha4) (Qa (QA ha7) q)
     let o l:=o (b0::b1::l)
     rcases io h with ⟨ha8,h⟩ | ⟨ha8,h⟩
     ·obtain ⟨ha9,h⟩:=gd h;obtain ⟨ta10,ha10,h⟩:=bo h
      have q:=Qa (((J0 ha10).le (.cons (.aggs (.cons (.refl _) (.cons (.refl _) (.cons (.refl _) (.cons (.refl _) (.cons (.refl _) (.cons (.refl _) (.cons (.refl _) (.cons (.nilF) (.cons (.nilF) (.cons (.nilF) (.nil)))))))))))) (.cons (.refl _) (.nil))) (.refl _)):Computes cx 119 [.agg [I 0,I 0,B false,B false,I 0,I 0,I 0,.lst true 0 [],.lst true 0 [],.lst true 0 []],.agg [I ta2.1,.v (.string ta2.2.1),.lst false 1 ta2.2.2.1,.lst false 1 ta2.2.2.2.1,.v (.string ta2.2.2.2.2)]] (.tup [.agg [I ta10.1,I ta10.2.1,B ta10.2.2.1,B ta10.2.2.2.1,I ta10.2.2.2.2.1,I ta10.2.2.2.2.2.1,I ta10.2.2.2.2.2.2.1,.lst false 1 ta10.2.2.2.2.2.2.2.1,.lst false 6 ta10.2.2.2.2.2.2.2.2.1,.lst false 7 ta10.2.2.2.2.2.2.2.2.2.1],I ta10.2.2.2.2.2.2.2.2.2.2])) (allE Ql ha2 (Qa ha9 (Qa ((Uu ha8):nth (sa.2.1) (Int.toNat ((sa.1).length:Int))=some (.agg [I 0,I 0,B false,B false,I 0,I 0,I 0,.lst true 0 [],.lst true 0 [],.lst true 0 []])) q)))
      let o l:=o (.el (.agg [I 0,I 0,B false,B false,I 0,I 0,I 0,.lst true 0 [],.lst true 0 [],.lst true 0 []])::.el (QP ta2)::.ret (.tup [.agg [I ta10.1,I ta10.2.1,B ta10.2.2.1,B ta10.2.2.2.1,I ta10.2.2.2.2.1,I ta10.2.2.2.2.2.1,I ta10.2.2.2.2.2.2.1,.lst false 1 ta10.2.2.2.2.2.2.2.1,.lst false 6 ta10.2.2.2.2.2.2.2.2.1,.lst false 7 ta10.2.2.2.2.2.2.2.2.2.1],I ta10.2.2.2.2.2.2.2.2.2.2])::l)
      rcases io h with ⟨ha11,h⟩ | ⟨ha11,h⟩
      ·obtain ⟨ha12,h⟩:=gd h;obtain ⟨ha13,h⟩:=gd h;obtain ⟨ha14,h⟩:=gd h;obtain ⟨ha15,h⟩:=gd h
       cases h
       exact rn 12 (o [b0,.ix (-8),b1,.el (QP ta2),b1,.ix (-7),.ix (-8),b1,b1,.ix (-7)]) [] [0,6,7,8] [] (Qa ha5 (Qa (ro 37 ha15) (Qa (ro 37 ha14) (Qa (ro 65 ha13) (allE Ql ha2 (Qa (ro 65 ha12) (Qa (nef ha11) q)))))))
      cases h
      exact rx 12 (o [b1]) [] [2,3,4,5] [] (Qa ha5 (Qa (net ha11) q))
     obtain ⟨ta9,ha9,h⟩:=bo h;obtain ⟨ta10,ha10,h⟩:=bo h
     have q:=Qa (J0 ha10) (allE Ql ha2 (allE Vx ha9 q))
     let o l:=o (.el (Vn ta9)::.el (QP ta2)::.ret (.tup [.agg [I ta10.1,I ta10.2.1,B ta10.2.2.1,B ta10.2.2.2.1,I ta10.2.2.2.2.1,I ta10.2.2.2.2.2.1,I ta10.2.2.2.2.2.2.1,.lst false 1 ta10.2.2.2.2.2.2.2.1,.lst false 6 ta10.2.2.2.2.2.2.2.2.1,.lst false 7 ta10.2.2.2.2.2.2.2.2.2.1],I ta10.2.2.2.2.2.2.2.2.2.2])::l)
     rcases io h with ⟨ha11,h⟩ | ⟨ha11,h⟩
     ·obtain ⟨ha12,h⟩:=gd h;obtain ⟨ha13,h⟩:=gd h;obtain ⟨ha14,h⟩:=gd h;obtain ⟨ha15,h⟩:=gd h
      cases h
      exact rn 12 (o [b0,.ix (-8),b1,.el (QP ta2),b1,.ix (-7),.ix (-8),b1,b1,.ix (-7)]) [] [0,6,7,8] [] (Qa ha5 (Qa (ro 37 ha15) (Qa (ro 37 ha14) (Qa (ro 65 ha13) (allE Ql ha2 (Qa (ro 65 ha12) (Qa (nef ha11) q)))))))
     cases h
     exact rx 12 (o [b1]) [] [2,3,4,5] [] (Qa ha5 (Qa (net ha11) q))
    cases h
    exact rx 12 (o [b1,.no,.no,.no,.no]) [] [2,3,4,5] [] (Qa ha5 (Qa (net ha6) q))
   obtain ⟨ha5,h⟩:=gd h
   cases h
   exact rx 12 (o [b0,.no,b0,.no,b0,b1]) [] [2,3,4,5] [] (Qa ha5 (Qa (net ha4) (Qa (eqf ha4) (Qa (eqf ha4) (Qa (eqf ha4) q)))))
  cases h
  exact rx 12 [b0] [] [6,7] [] (Qa (jEj ha1) QL)
def V1 (n:Nat) (a0:jVj):Option (jVj×jVj×Int×Int) :=
 if ((a0).length:Int) > 1000 then
  some ([],[],0,5)
 else
 (Q2 (Zh n a0) n (.inl ())).bind fun t2=>match t2 with
  | (.inl t2)=>(
   some ([],[],t2.1,t2.2))
  | (.inr (.inl t2))=>(
   some ([],[.agg [I 0,I 0,B false,B false,I 0,I 0,I 0,.lst true 0 [],.lst true 0 [],.lst true 0 []]],0,0))
  | (.inr (.inr t2))=>(
   some (t2.1,t2.2,0,0))
theorem zV {n:Nat} {a0:jVj} {r:jVj×jVj×Int×Int} (h:V1 n a0=some r):Computes cx 72 [.lst false 5 a0] (.tup [.lst false 5 r.1,.lst false 10 r.2.1,I r.2.2.1,I r.2.2.2]):=by
 unfold V1 at h
 rcases io h with ⟨h1,h⟩ | ⟨h1,h⟩
 ·cases h
  exact (rf (r:=.tup [.lst true 0 [],.lst true 0 [],I 0,I 5]) [b1] (Qa (jDj h1) QL)).le (LEs.refl _) (.tups (.cons (.nilF) (.cons (.nilF) (.cons (.refl _) (.cons (.refl _) (.nil))))))
 have q:=Qa (jEj h1) QL
 obtain ⟨t2,h2,h⟩:=bo h
 rcases t2 with t2 | t2 | t2
 ·cases h
  exact (rf (r:=.tup [.lst true 0 [],.lst true 0 [],I t2.1,I t2.2]) [b0,.lp [] [0,6,7,8] [] .ret [(2,.d (.lst true 0 [])),(3,.d (.lst true 0 [])),(4,.d (I t2.1)),(5,.d (I t2.2))] [] 97] (Qa (QH YS h2) q)).le (LEs.refl _) (.tups (.cons (.nilF) (.cons (.nilF) (.cons (.refl _) (.cons (.refl _) (.nil))))))
 ·cases h
  exact (rf (r:=.tup [.lst true 0 [],.lst true 10 [.agg [I 0,I 0,B false,B false,I 0,I 0,I 0,.lst true 0 [],.lst true 0 [],.lst true 0 []]],I 0,I 0]) [b0,.lp [] [0,6,7,8] [] (.exit 0) [(6,.d (.lst true 0 [])),(7,.d (.lst true 10 [.agg [I 0,I 0,B false,B false,I 0,I 0,I 0,.lst true 0 [],.lst true 0 [],.lst true 0 []]]))] [] 97] (Qa (QH YS h2) q)).le (LEs.refl _) (.tups (.cons (.nilF) (.cons (.full _ _ _) (.cons (.refl _) (.cons (.refl _) (.nil))))))
 cases h
 exact rf [b0,.lp [] [0,6,7,8] [] (.exit 0) [(6,.d (.lst false 5 t2.1)),(7,.d (.lst false 10 t2.2))] [] 97] (Qa (QH YS h2) q)
def Vo (n:Nat) (a0:jVj):Option (Int×Int×Bool×Bool×Int×Int×Int×jVj×jVj×jVj×Int×Int) :=
 (V1 n a0).bind fun t1 =>
 if t1.2.2.2=0 then
  if Qh (((t1.2.1).length:Int) - 1) then
  if ZT (nth (t1.2.1) (Int.toNat (((t1.2.1).length:Int) - 1)))=true then
   if (0:Int)≤(((t1.2.1).length:Int) - 1) then
   some (0,0,false,false,0,0,0,[],[],[],0,0)
   else none
  else
  (el Vy t1.2.1 (((t1.2.1).length:Int) - 1)).bind fun t5 =>
  some (t5.1,t5.2.1,t5.2.2.1,t5.2.2.2.1,t5.2.2.2.2.1,t5.2.2.2.2.2.1,t5.2.2.2.2.2.2.1,t5.2.2.2.2.2.2.2.1,t5.2.2.2.2.2.2.2.2.1,t5.2.2.2.2.2.2.2.2.2,0,0)
  else none
 else
 some (0,0,false,false,0,0,0,[],[],[],t1.2.2.1,t1.2.2.2)
theorem je {n:Nat} {a0:jVj} {r:Int×Int×Bool×Bool×Int×Int×Int×jVj×jVj×jVj×Int×Int} (h:Vo n a0=some r):Computes cx 18 [.lst false 5 a0] (.tup [.agg [I r.1,I r.2.1,B r.2.2.1,B r.2.2.2.1,I r.2.2.2.2.1,I r.2.2.2.2.2.1,I r.2.2.2.2.2.2.1,.lst false 1 r.2.2.2.2.2.2.2.1,.lst false 6 r.2.2.2.2.2.2.2.2.1,.lst false 7 r.2.2.2.2.2.2.2.2.2.1],I r.2.2.2.2.2.2.2.2.2.2.1,I r.2.2.2.2.2.2.2.2.2.2.2]):=by
 unfold Vo at h
 obtain ⟨t1,h1,h⟩:=bo h
 have q:=Qa (zV h1) QL
 let o (l:List Orc):=.ret (.tup [.lst false 5 t1.1,.lst false 10 t1.2.1,I t1.2.2.1,I t1.2.2.2])::l
 rcases io h with ⟨h2,h⟩ | ⟨h2,h⟩
 ·obtain ⟨h3,h⟩:=gd h
  have q:=Qa h3 (Qa (nef h2) q)
  rcases io h with ⟨h4,h⟩ | ⟨h4,h⟩
  ·obtain ⟨h5,h⟩:=gd h
   cases h
   exact (rf (r:=.tup [.agg [I 0,I 0,B false,B false,I 0,I 0,I 0,.lst true 0 [],.lst true 0 [],.lst true 0 []],I 0,I 0]) (o [b0,.el (.agg [I 0,I 0,B false,B false,I 0,I 0,I 0,.lst true 0 [],.lst true 0 [],.lst true 0 []])]) (Qa h5 (Qa ((Uu h4):nth (t1.2.1) (Int.toNat (((t1.2.1).length:Int) - 1))=some (.agg [I 0,I 0,B false,B false,I 0,I 0,I 0,.lst true 0 [],.lst true 0 [],.lst true 0 []])) q))).le (LEs.refl _) (.tups (.cons (.aggs (.cons (.refl _) (.cons (.refl _) (.cons (.refl _) (.cons (.refl _) (.cons (.refl _) (.cons (.refl _) (.cons (.refl _) (.cons (.nilF) (.cons (.nilF) (.cons (.nilF) (.nil)))))))))))) (.cons (.refl _) (.cons (.refl _) (.nil)))))
  obtain ⟨t5,h5,h⟩:=bo h
  cases h
  exact rf (o [b0,.el (Vn t5)]) (allE Vx h5 q)
 cases h
 exact (rf (r:=.tup [.agg [I 0,I 0,B false,B false,I 0,I 0,I 0,.lst true 0 [],.lst true 0 [],.lst true 0 []],I t1.2.2.1,I t1.2.2.2]) (o [b1]) (Qa (net h2) q)).le (LEs.refl _) (.tups (.cons (.aggs (.cons (.refl _) (.cons (.refl _) (.cons (.refl _) (.cons (.refl _) (.cons (.refl _) (.cons (.refl _) (.cons (.refl _) (.cons (.nilF) (.cons (.nilF) (.cons (.nilF) (.nil)))))))))))) (.cons (.refl _) (.cons (.refl _) (.nil)))))
def Wd (n:Nat) (a0 a1:jVj) (sa:(Int)):Option (((Int))⊕((Unit)⊕(Unit))) :=
 if sa < ((a0).length:Int) then
  (el Ww a0 sa).bind fun ta2 =>
  (el Ww a1 sa).bind fun ta3 =>
  if (!(ta2.toList == ta3.toList))=true then
   some (.inr (.inl ()))
  else
  if Qh (sa+1) then
  some (.inl (sa+1))
  else none
 else
 some (.inr (.inr ()))
noncomputable def XA (a0 a1:jVj):Lp ((Int)) ((Unit)⊕(Unit)):=⟨fun sa=>[(0,.d (.lst false 1 a0)),(1,.d (.lst false 1 a1)),(5,.d (I sa))],fun _=>[],fun
 | (.inl e)=>.ret
 | (.inr e)=>(.exit 0),fun
 | (.inl e)=>[(4,.d (B false))]
 | (.inr e)=>[],fun _=>[]⟩
theorem U6 {n:Nat} {a0 a1:jVj} (sa:(Int)) (r) (h:Wd n a0 a1 sa=some r):Rl (ZJ cx.P 25 0) 26 0 false (XA a0 a1) sa r:=by
 unfold Wd at h
 rcases io h with ⟨ha1,h⟩ | ⟨ha1,h⟩
 ·obtain ⟨ta2,ha2,h⟩:=bo h;obtain ⟨ta3,ha3,h⟩:=bo h
  have q:=allE Qr ha3 (allE Qr ha2 (Qa (jDj ha1) QL))
  let o (l:List Orc):=b1::.el (Zy ta2)::.el (Zy ta3)::l
  rcases io h with ⟨ha4,h⟩ | ⟨ha4,h⟩
  ·cases h
   exact rx 7 (o [b1]) [] [4] [] (Qa ha4 q)
  obtain ⟨ha5,h⟩:=gd h
  cases h
  exact rn 7 (o [b0]) [] [0,1,5] [] (Qa ha5 (Qa (QA ha4) q))
 cases h
 exact rx 7 [b0] [] [] [] (Qa (jEj ha1) QL)
def Z5 (n:Nat) (a0 a1:jVj):Option (Bool) :=
 if ((a0).length:Int)=((a1).length:Int) then
  (Q2 (Wd n a0 a1) n 0).bind fun t2=>match t2 with
   | (.inl t2)=>(
    some false)
   | (.inr t2)=>(
    some true)
 else
 some false
theorem V9 {n:Nat} {a0 a1:jVj} {r:Bool} (h:Z5 n a0 a1=some r):Computes cx 25 [.lst false 1 a0,.lst false 1 a1] (B r):=by
 unfold Z5 at h
 rcases io h with ⟨h1,h⟩ | ⟨h1,h⟩
 ·have q:=Qa (nef h1) QL
  obtain ⟨t2,h2,h⟩:=bo h
  rcases t2 with t2 | t2
  ·obtain rfl:=oi h
   exact rf [b0,.lp [] [0,1,5] [] .ret [(4,.d (B false))] [] 34] (Qa (QH U6 h2) q)
  obtain rfl:=oi h
  exact rf [b0,.lp [] [0,1,5] [] (.exit 0) [] [] 34] (Qa (QH U6 h2) q)
 obtain rfl:=oi h
 exact rf [b1] (Qa (net h1) QL)
def Vu (n:Nat) (a0:jSj) (a1 a2:jVj) (a3 a4:Int) (a5 a6:Bool) (a7 a8 a9:Int) (a10 a11 a12:jVj) (sa:(Int×Int×Int)):Option (((Int×Int×Int))⊕((Int×Int))) :=
 if sa.1 < ((a11).length:Int) then
  if 0≤sa.1∧sa.1 < ((a11).length:Int) then
  ((nth (a11) (Int.toNat sa.1)).bind QM).bind fun ta3 =>
  if (!(ta3.2.1.toList == a0.toList))=true then
   if Qh (sa.1+1) then
   some (.inl ((sa.1+1),sa.2.1,sa.2.2))
   else none
  else
  if Qh (sa.2.1+1) then
  if ta3.2.2.2.2.2=true then
   if Qh (sa.2.2+1) then
   if Qh (sa.1+1) then
   some (.inl ((sa.1+1),(sa.2.1+1),(sa.2.2+1)))
   else none
   else none
  else
  if Qh (sa.1+1) then
  some (.inl ((sa.1+1),(sa.2.1+1),sa.2.2))
  else none
  else none
  else none
 else
 some (.inr (sa.2.1,sa.2.2))
noncomputable def Jt (a0:jSj) (a1 a2:jVj) (a3 a4:Int) (a5 a6:Bool) (a7 a8 a9:Int) (a10 a11 a12:jVj):Lp ((Int×Int×Int)) ((Int×Int)):=⟨fun sa=>[(1,.d (.v (.string a0))),(4,.ptr 13 0 0 0 0),(5,.ptr 14 0 0 0 0),(11,.own 11 0),(12,.d (I ((a11).length:Int))),(13,.d (I sa.1))],fun sa=>[(0,.box (.agg [.own 1 0,.own 2 0,.d (I a3),.d (I a4),.d (B a5),.d (B a6),.d (I a7),.d (I a8),.d (I a9),.own 10 0,.own 11 0,.own 12 0])),(1,.row 0 5 a1),(2,.row 0 5 a2),(10,.row 0 1 a10),(11,.row 0 6 a11),(12,.row 0 7 a12),(13,.box (.d (.agg [I 0,I 0]))),(14,.box (.d (.agg [I sa.2.1,I sa.2.2])))],fun _=>(.exit 0),fun _=>[(4,.ptr 13 0 0 0 0),(5,.ptr 14 0 0 0 0)],fun e=>[(0,.box (.agg [.own 1 0,.own 2 0,.d (I a3),.d (I a4),.d (B a5),.d (B a6),.d (I a7),.d (I a8),.d (I a9),.own 10 0,.own 11 0,.own 12 0])),(1,.row 0 5 a1),(2,.row 0 5 a2),(10,.row 0 1 a10),(11,.row 0 6 a11),(12,.row 0 7 a12),(13,.box (.d (.agg [I 0,I 0]))),(14,.box (.d (.agg [I e.1,I e.2])))]⟩
theorem Jp {n:Nat} {a0:jSj} {a1 a2:jVj} {a3 a4:Int} {a5 a6:Bool} {a7 a8 a9:Int} {a10 a11 a12:jVj} (sa:(Int×Int×Int)) (r) (h:Vu n a0 a1 a2 a3 a4 a5 a6 a7 a8 a9 a10 a11 a12 sa=some r):Rl (ZJ cx.P 76 0) 33 13 false (Jt a0 a1 a2 a3 a4 a5 a6 a7 a8 a9 a10 a11 a12) sa r:=by
 unfold Vu at h
 rcases io h with ⟨ha1,h⟩ | ⟨ha1,h⟩
 ·obtain ⟨ha2,h⟩:=gd h;obtain ⟨ta3,ha3,h⟩:=bo h
  have q:=Qa (QX Qq ha3) (Qa ha2 (Qa (jDj ha1) QL))
  let o (l:List Orc):=b1::b1::.el (QB ta3)::l
  rcases io h with ⟨ha4,h⟩ | ⟨ha4,h⟩
  ·obtain ⟨ha5,h⟩:=gd h
   cases h
   exact rn 21 (o [b1]) [] [1,4,5,11,12,13] [0,1,2,10,11,12,13,14] (Qa ha5 (Qa ha4 q))
  obtain ⟨ha5,h⟩:=gd h
  have q:=Qa ha5 (Qa (QA ha4) q)
  rcases io h with ⟨ha6,h⟩ | ⟨ha6,h⟩
  ·obtain ⟨ha7,h⟩:=gd h;obtain ⟨ha8,h⟩:=gd h
   cases h
   exact rn 21 (o [b0,b1]) [] [1,4,5,11,12,13] [0,1,2,10,11,12,13,14] (Qa ha8 (Qa ha7 (Qa ha6 q)))
  obtain ⟨ha7,h⟩:=gd h
  cases h
  exact rn 21 (o [b0,b0]) [] [1,4,5,11,12,13] [0,1,2,10,11,12,13,14] (Qa ha7 (Qa (QA ha6) q))
 cases h
 exact rx 21 [b0] [] [4,5] [0,1,2,10,11,12,13,14] (Qa (jEj ha1) QL)
def VV (n:Nat) (a0:jSj) (a1 a2:jVj) (a3 a4:Int) (a5 a6:Bool) (a7 a8 a9:Int) (a10 a11 a12:jVj):Option (Int×Int) :=
 (Q2 (Vu n a0 a1 a2 a3 a4 a5 a6 a7 a8 a9 a10 a11 a12) n (0,0,0)).bind fun t1 =>
 some (t1.1,t1.2)
theorem GU {n:Nat} {a0:jSj} {a1 a2:jVj} {a3 a4:Int} {a5 a6:Bool} {a7 a8 a9:Int} {a10 a11 a12:jVj} {r:Int×Int} (h:VV n a0 a1 a2 a3 a4 a5 a6 a7 a8 a9 a10 a11 a12=some r):ComputesO cx 76 [.ptr 0 0 0 0 2,.d (.v (.string a0))] (some (Qb a1 a2 a3 a4 a5 a6 a7 a8 a9 a10 a11 a12)) (.d (.agg [I r.1,I r.2])) (Qb a1 a2 a3 a4 a5 a6 a7 a8 a9 a10 a11 a12) ZV:=by
 unfold VV at h
 obtain ⟨t1,h1,h⟩:=bo h
 cases h
 exact rfO 0 [.lp [] [1,4,5,11,12,13] [0,1,2,10,11,12,13,14] (.exit 0) [(4,.ptr 13 0 0 0 0),(5,.ptr 14 0 0 0 0)] [(0,.box (.agg [.own 1 0,.own 2 0,.d (I a3),.d (I a4),.d (B a5),.d (B a6),.d (I a7),.d (I a8),.d (I a9),.own 10 0,.own 11 0,.own 12 0])),(1,.row 0 5 a1),(2,.row 0 5 a2),(10,.row 0 1 a10),(11,.row 0 6 a11),(12,.row 0 7 a12),(13,.box (.d (.agg [I 0,I 0]))),(14,.box (.d (.agg [I t1.1,I t1.2])))] 55] (Qa (QH Jp h1) QL)
def XD (n:Nat) (a0:jVj) (a1:jSj):Option (Int×Int×Int) :=
 (Q6 n a0).bind fun t1 =>
 if t1.2.1=0 then
  (Zb n t1.2.2.2.2.2.2.2.2.2.2.2.1 a1).bind fun t3 =>
  (Qm n (!t3) 10).bind fun t4 =>
  if t4=0 then
   (VV n a1 t1.2.2.1 t1.2.2.2.1 t1.2.2.2.2.1 t1.2.2.2.2.2.1 t1.2.2.2.2.2.2.1 t1.2.2.2.2.2.2.2.1 t1.2.2.2.2.2.2.2.2.1 t1.2.2.2.2.2.2.2.2.2.1 t1.2.2.2.2.2.2.2.2.2.2.1 t1.2.2.2.2.2.2.2.2.2.2.2.1 t1.2.2.2.2.2.2.2.2.2.2.2.2.1 t1.2.2.2.2.2.2.2.2.2.2.2.2.2).bind fun t6 =>
   some (t6.1,t6.2,0)
  else
  some (0,0,t4)
 else
 some (0,0,t1.2.1)
theorem jk {n:Nat} {a0:jVj} {a1:jSj} {r:Int×Int×Int} (h:XD n a0 a1=some r):Computes cx 26 [.lst false 5 a0,.v (.string a1)] (.tup [.agg [I r.1,I r.2.1],I r.2.2]):=by
 unfold XD at h
 obtain ⟨t1,h1,h⟩:=bo h
 have q:=Qa (We h1) QL
 let o (l:List Orc):=b1::.obj none (.tup [.ptr 0 0 0 0 0,.d (I t1.1),.d (I t1.2.1)]) (Qb t1.2.2.1 t1.2.2.2.1 t1.2.2.2.2.1 t1.2.2.2.2.2.1 t1.2.2.2.2.2.2.1 t1.2.2.2.2.2.2.2.1 t1.2.2.2.2.2.2.2.2.1 t1.2.2.2.2.2.2.2.2.2.1 t1.2.2.2.2.2.2.2.2.2.2.1 t1.2.2.2.2.2.2.2.2.2.2.2.1 t1.2.2.2.2.2.2.2.2.2.2.2.2.1 t1.2.2.2.2.2.2.2.2.2.2.2.2.2) []::l
 rcases io h with ⟨h2,h⟩ | ⟨h2,h⟩
 ·obtain ⟨t3,h3,h⟩:=bo h;obtain ⟨t4,h4,h⟩:=bo h
  have q:=Qa (Qu h4) (Qa (Z2 h3) (Qa (nef h2) q))
  let o l:=o (b0::.ix (-9)::b1::.no::.ix 0::.ret (B t3)::.ret (I t4)::l)
  rcases io h with ⟨h5,h⟩ | ⟨h5,h⟩
  ·obtain ⟨t6,h6,h⟩:=bo h
   cases h
   exact rf (o [b0,.obj (some 21) (.d (.agg [I t6.1,I t6.2])) (Qb t1.2.2.1 t1.2.2.2.1 t1.2.2.2.2.1 t1.2.2.2.2.2.1 t1.2.2.2.2.2.2.1 t1.2.2.2.2.2.2.2.1 t1.2.2.2.2.2.2.2.2.1 t1.2.2.2.2.2.2.2.2.2.1 t1.2.2.2.2.2.2.2.2.2.2.1 t1.2.2.2.2.2.2.2.2.2.2.2.1 t1.2.2.2.2.2.2.2.2.2.2.2.2.1 t1.2.2.2.2.2.2.2.2.2.2.2.2.2) ZV]) (Qa (GU h6) (Qa (nef h5) q))
  cases h
  exact rf (o [b1]) (Qa (net h5) q)
 cases h
 exact rf (o [b1,b1]) (Qa (net h2) (Qa (net h2) q))
def JQ (n:Nat) (a0:jVj) (a1:jSj):Option (Int×Int) :=
 (Q6 n a0).bind fun t1 =>
 if t1.2.1=0 then
  (Qw n 111 t1.2.2.1 t1.2.2.2.1 t1.2.2.2.2.1 t1.2.2.2.2.2.1 t1.2.2.2.2.2.2.1 t1.2.2.2.2.2.2.2.1 t1.2.2.2.2.2.2.2.2.1 t1.2.2.2.2.2.2.2.2.2.1 t1.2.2.2.2.2.2.2.2.2.2.1 t1.2.2.2.2.2.2.2.2.2.2.2.1 t1.2.2.2.2.2.2.2.2.2.2.2.2.1 t1.2.2.2.2.2.2.2.2.2.2.2.2.2).bind fun t3 =>
  (Zb n t3 a1).bind fun t4 =>
  (Qm n (!t4) 10).bind fun t5 =>
  if t5=0 then
   (QE n t3 a1).bind fun t7 =>
   if 0≤t7∧t7 < ((t1.2.2.2.2.2.2.2.2.2.2.2.2.2).length:Int) then
   ((nth (t1.2.2.2.2.2.2.2.2.2.2.2.2.2) (Int.toNat t7)).bind Z6).bind fun t9 =>
   (Zg n t9.1 t9.2.1 t9.2.2.1 t9.2.2.2.1 t9.2.2.2.2.1 t9.2.2.2.2.2.1 t9.2.2.2.2.2.2).bind fun t10 =>
   some (t10,0)
   else none
  else
  some (0,t5)
 else
 some (0,t1.2.1)
theorem qs {n:Nat} {a0:jVj} {a1:jSj} {r:Int×Int} (h:JQ n a0 a1=some r):Computes cx 27 [.lst false 5 a0,.v (.string a1)] (.tup [I r.1,I r.2]):=by
 unfold JQ at h
 obtain ⟨t1,h1,h⟩:=bo h
 have q:=Qa (We h1) QL
 let o (l:List Orc):=b1::.obj none (.tup [.ptr 0 0 0 0 0,.d (I t1.1),.d (I t1.2.1)]) (Qb t1.2.2.1 t1.2.2.2.1 t1.2.2.2.2.1 t1.2.2.2.2.2.1 t1.2.2.2.2.2.2.1 t1.2.2.2.2.2.2.2.1 t1.2.2.2.2.2.2.2.2.1 t1.2.2.2.2.2.2.2.2.2.1 t1.2.2.2.2.2.2.2.2.2.2.1 t1.2.2.2.2.2.2.2.2.2.2.2.1 t1.2.2.2.2.2.2.2.2.2.2.2.2.1 t1.2.2.2.2.2.2.2.2.2.2.2.2.2) []::l
 rcases io h with ⟨h2,h⟩ | ⟨h2,h⟩
 ·obtain ⟨t3,h3,h⟩:=bo h;obtain ⟨t4,h4,h⟩:=bo h;obtain ⟨t5,h5,h⟩:=bo h
  have q:=Qa (Qu h5) (Qa (Z2 h4) (Qa (QC h3) (Qa (nef h2) q)))
  let o l:=o (b0::.obj (some 21) (.d (.lst false 1 t3)) (Qb t1.2.2.1 t1.2.2.2.1 t1.2.2.2.2.1 t1.2.2.2.2.2.1 t1.2.2.2.2.2.2.1 t1.2.2.2.2.2.2.2.1 t1.2.2.2.2.2.2.2.2.1 t1.2.2.2.2.2.2.2.2.2.1 t1.2.2.2.2.2.2.2.2.2.2.1 t1.2.2.2.2.2.2.2.2.2.2.2.1 t1.2.2.2.2.2.2.2.2.2.2.2.2.1 t1.2.2.2.2.2.2.2.2.2.2.2.2.2) ZV::.ret (B t4)::.ret (I t5)::l)
  rcases io h with ⟨h6,h⟩ | ⟨h6,h⟩
  ·obtain ⟨t7,h7,h⟩:=bo h;obtain ⟨h8,h⟩:=gd h;obtain ⟨t9,h9,h⟩:=bo h;obtain ⟨t10,h10,h⟩:=bo h
   cases h
   exact rf (o [b0,b1,.obj (some 21) (.d (.lst false 1 t3)) (Qb t1.2.2.1 t1.2.2.2.1 t1.2.2.2.2.1 t1.2.2.2.2.2.1 t1.2.2.2.2.2.2.1 t1.2.2.2.2.2.2.2.1 t1.2.2.2.2.2.2.2.2.1 t1.2.2.2.2.2.2.2.2.2.1 t1.2.2.2.2.2.2.2.2.2.2.1 t1.2.2.2.2.2.2.2.2.2.2.2.1 t1.2.2.2.2.2.2.2.2.2.2.2.2.1 t1.2.2.2.2.2.2.2.2.2.2.2.2.2) ZV,.ret (I t7),b1,.el (Q7 t9),.ret (I t10)]) (Qa (W8 h10) (Qa (QX Q0 h9) (Qa h8 (Qa (QK h7) (Qa (QC h3) (Qa (nef h6) q))))))
  cases h
  exact rf (o [b1]) (Qa (net h6) q)
 cases h
 exact rf (o [b1,b1]) (Qa (net h2) (Qa (net h2) q))
def qz (n:Nat) (a0:jVj) (a1:jSj):Option (Int×Int) :=
 (Q6 n a0).bind fun t1 =>
 if t1.2.1=0 then
  (Qw n 111 t1.2.2.1 t1.2.2.2.1 t1.2.2.2.2.1 t1.2.2.2.2.2.1 t1.2.2.2.2.2.2.1 t1.2.2.2.2.2.2.2.1 t1.2.2.2.2.2.2.2.2.1 t1.2.2.2.2.2.2.2.2.2.1 t1.2.2.2.2.2.2.2.2.2.2.1 t1.2.2.2.2.2.2.2.2.2.2.2.1 t1.2.2.2.2.2.2.2.2.2.2.2.2.1 t1.2.2.2.2.2.2.2.2.2.2.2.2.2).bind fun t3 =>
  (Zb n t3 a1).bind fun t4 =>
  (Qm n (!t4) 10).bind fun t5 =>
  if t5=0 then
   (QE n t3 a1).bind fun t7 =>
   if 0≤t7∧t7 < ((t1.2.2.2.2.2.2.2.2.2.2.2.2.2).length:Int) then
   ((nth (t1.2.2.2.2.2.2.2.2.2.2.2.2.2) (Int.toNat t7)).bind Z6).bind fun t9 =>
   (Wv n t9.1 t9.2.1 t9.2.2.1 t9.2.2.2.1 t9.2.2.2.2.1 t9.2.2.2.2.2.1 t9.2.2.2.2.2.2).bind fun t10 =>
   some (t10,0)
   else none
  else
  some (0,t5)
 else
 some (0,t1.2.1)
theorem yR {n:Nat} {a0:jVj} {a1:jSj} {r:Int×Int} (h:qz n a0 a1=some r):Computes cx 28 [.lst false 5 a0,.v (.string a1)] (.tup [I r.1,I r.2]):=by
 unfold qz at h
 obtain ⟨t1,h1,h⟩:=bo h
 have q:=Qa (We h1) QL
 let o (l:List Orc):=b1::.obj none (.tup [.ptr 0 0 0 0 0,.d (I t1.1),.d (I t1.2.1)]) (Qb t1.2.2.1 t1.2.2.2.1 t1.2.2.2.2.1 t1.2.2.2.2.2.1 t1.2.2.2.2.2.2.1 t1.2.2.2.2.2.2.2.1 t1.2.2.2.2.2.2.2.2.1 t1.2.2.2.2.2.2.2.2.2.1 t1.2.2.2.2.2.2.2.2.2.2.1 t1.2.2.2.2.2.2.2.2.2.2.2.1 t1.2.2.2.2.2.2.2.2.2.2.2.2.1 t1.2.2.2.2.2.2.2.2.2.2.2.2.2) []::l
 rcases io h with ⟨h2,h⟩ | ⟨h2,h⟩
 ·obtain ⟨t3,h3,h⟩:=bo h;obtain ⟨t4,h4,h⟩:=bo h;obtain ⟨t5,h5,h⟩:=bo h
  have q:=Qa (Qu h5) (Qa (Z2 h4) (Qa (QC h3) (Qa (nef h2) q)))
  let o l:=o (b0::.obj (some 21) (.d (.lst false 1 t3)) (Qb t1.2.2.1 t1.2.2.2.1 t1.2.2.2.2.1 t1.2.2.2.2.2.1 t1.2.2.2.2.2.2.1 t1.2.2.2.2.2.2.2.1 t1.2.2.2.2.2.2.2.2.1 t1.2.2.2.2.2.2.2.2.2.1 t1.2.2.2.2.2.2.2.2.2.2.1 t1.2.2.2.2.2.2.2.2.2.2.2.1 t1.2.2.2.2.2.2.2.2.2.2.2.2.1 t1.2.2.2.2.2.2.2.2.2.2.2.2.2) ZV::.ret (B t4)::.ret (I t5)::l)
  rcases io h with ⟨h6,h⟩ | ⟨h6,h⟩
  ·obtain ⟨t7,h7,h⟩:=bo h;obtain ⟨h8,h⟩:=gd h;obtain ⟨t9,h9,h⟩:=bo h;obtain ⟨t10,h10,h⟩:=bo h
   cases h
   exact rf (o [b0,b1,.obj (some 21) (.d (.lst false 1 t3)) (Qb t1.2.2.1 t1.2.2.2.1 t1.2.2.2.2.1 t1.2.2.2.2.2.1 t1.2.2.2.2.2.2.1 t1.2.2.2.2.2.2.2.1 t1.2.2.2.2.2.2.2.2.1 t1.2.2.2.2.2.2.2.2.2.1 t1.2.2.2.2.2.2.2.2.2.2.1 t1.2.2.2.2.2.2.2.2.2.2.2.1 t1.2.2.2.2.2.2.2.2.2.2.2.2.1 t1.2.2.2.2.2.2.2.2.2.2.2.2.2) ZV,.ret (I t7),b1,.el (Q7 t9),.ret (I t10)]) (Qa (YN h10) (Qa (QX Q0 h9) (Qa h8 (Qa (QK h7) (Qa (QC h3) (Qa (nef h6) q))))))
  cases h
  exact rf (o [b1]) (Qa (net h6) q)
 cases h
 exact rf (o [b1,b1]) (Qa (net h2) (Qa (net h2) q))
def U9 (n:Nat) (a0:Int) (a1:jSj) (a2 a3:jVj) (a4 a5 a6:jSj):Option (Bool) :=
 if (a1.toList == (⟨#[115,117,110]⟩:jSj).toList)=true then
  some true
 else
 if (a1.toList == (⟨#[102,105,108,108]⟩:jSj).toList)=true then
  some true
 else
 if (a1.toList == (⟨#[100,114,97,105,110]⟩:jSj).toList)=true then
  some true
 else
 if (a1.toList == (⟨#[116,114,105,112]⟩:jSj).toList)=true then
  some true
 else
 if (a1.toList == (⟨#[114,101,115,101,116]⟩:jSj).toList)=true then
  some true
 else
 if (a1.toList == (⟨#[115,101,99,116,111,114]⟩:jSj).toList)=true then
  (el Ww a2 0).bind fun t7 =>
  some (t7.toList == a6.toList)
 else
 if (a1.toList == (⟨#[100,105,109]⟩:jSj).toList)=true then
  (el Ww a2 0).bind fun t8 =>
  some (t8.toList == a6.toList)
 else
 if (a1.toList == (⟨#[111,102,102,101,114]⟩:jSj).toList)=true then
  some false
 else
 if (a1.toList == (⟨#[100,101,108,105,118,101,114]⟩:jSj).toList)=true then
  some false
 else
 if (a1.toList == (⟨#[98,105,108,108]⟩:jSj).toList)=true then
  some false
 else
 (el Ww a2 0).bind fun t11 =>
 some (t11.toList == a5.toList)
theorem zW {n:Nat} {a0:Int} {a1:jSj} {a2 a3:jVj} {a4 a5 a6:jSj} {r:Bool} (h:U9 n a0 a1 a2 a3 a4 a5 a6=some r):Computes cx 83 [.agg [I a0,.v (.string a1),.lst false 1 a2,.lst false 1 a3,.v (.string a4)],.v (.string a5),.v (.string a6)] (B r):=by
 unfold U9 at h
 rcases io h with ⟨h1,h⟩ | ⟨h1,h⟩
 ·obtain rfl:=oi h
  exact rf [b1,b1] (Qa h1 (Qa h1 QL))
 have q:=Qa (QA h1) QL
 rcases io h with ⟨h2,h⟩ | ⟨h2,h⟩
 ·obtain rfl:=oi h
  exact rf [b0,b1,b1] (Qa h2 (Qa h2 q))
 have q:=Qa (QA h2) q
 let o (l:List Orc):=b0::b0::l
 rcases io h with ⟨h3,h⟩ | ⟨h3,h⟩
 ·obtain rfl:=oi h
  exact rf (o [b1,b1]) (Qa h3 (Qa h3 q))
 have q:=Qa (QA h3) q
 let o l:=o (b0::l)
 rcases io h with ⟨h4,h⟩ | ⟨h4,h⟩
 ·obtain rfl:=oi h
  exact rf (o [b1,b1]) (Qa h4 (Qa h4 q))
 have q:=Qa (QA h4) q
 let o l:=o (b0::l)
 rcases io h with ⟨h5,h⟩ | ⟨h5,h⟩
 ·obtain rfl:=oi h
  exact rf (o [b1]) (Qa h5 q)
 have q:=Qa (QA h5) q
 let o l:=o (b0::l)
 rcases io h with ⟨h6,h⟩ | ⟨h6,h⟩
 ·obtain ⟨t7,h7,h⟩:=bo h
  cases h
  exact rf (o [b1,b1,.el (Zy t7)]) (allE Qr h7 (Qa h6 (Qa h6 q)))
 have q:=Qa (QA h6) q
 let o l:=o (b0::l)
 rcases io h with ⟨h7,h⟩ | ⟨h7,h⟩
 ·obtain ⟨t8,h8,h⟩:=bo h
  cases h
  exact rf (o [b1,.el (Zy t8)]) (allE Qr h8 (Qa h7 q))
 have q:=Qa (QA h7) q
 rcases io h with ⟨h8,h⟩ | ⟨h8,h⟩
 ·obtain rfl:=oi h
  exact rf (o [b0,b1,b1]) (Qa h8 (Qa h8 q))
 have q:=Qa (QA h8) q
 let o l:=o (b0::b0::l)
 rcases io h with ⟨h9,h⟩ | ⟨h9,h⟩
 ·obtain rfl:=oi h
  exact rf (o [b1,b1]) (Qa h9 (Qa h9 q))
 have q:=Qa (QA h9) q
 rcases io h with ⟨h10,h⟩ | ⟨h10,h⟩
 ·obtain rfl:=oi h
  exact rf (o [b0,b1]) (Qa h10 q)
 obtain ⟨t11,h11,h⟩:=bo h
 cases h
 exact rf (o [b0,b0,.el (Zy t11)]) (allE Qr h11 (Qa (QA h10) q))
end Go.Proofs.YtljabneifpkbjaaGreatDoor
