/- Printed by gsx.py: functions of the program as Lean functions, and that the code computes them. -/
import Derived.Test.YtljabneifpkbjaaGreatDoorWake
set_option linter.unusedVariables false
set_option linter.unusedSimpArgs false
set_option linter.unnecessarySimpa false
set_option maxRecDepth 10000
set_option maxHeartbeats 4000000
namespace Go.Proofs.YtljabneifpkbjaaGreatDoor
open Go.SX
def QeX (n:Nat) (a0:jVj) (sa:(Int)):Option (((Int))⊕((Bool)⊕(Unit))) :=
 if sa < ((a0).length:Int) then
  (el Ze a0 sa).bind fun ta2 =>
  if (ta2.2.1.toList == (⟨#[117,110,100,111]⟩:jSj).toList)=true then
   (WI n).bind fun ta4 =>
   some (.inr (.inl ta4))
  else
  if Qh (sa+1) then
  some (.inl (sa+1))
  else none
 else
 some (.inr (.inr ()))
noncomputable def QfQ (a0:jVj):Lp ((Int)) ((Bool)⊕(Unit)):=⟨fun sa=>[(0,.d (.lst false 5 a0)),(24,.d (.lst false 5 a0)),(25,.d (I ((a0).length:Int))),(26,.d (I sa))],fun _=>[],fun
 | (.inl e)=>.ret
 | (.inr e)=>(.exit 0),fun
 | (.inl e)=>[(2,.d (B e))]
 | (.inr e)=>[(0,.d (.lst false 5 a0))],fun _=>[]⟩
theorem Qfn {n:Nat} {a0:jVj} (sa:(Int)) (r) (h:QeX n a0 sa=some r):Rl (ZJ cx.P 6 0) 205 0 false (QfQ a0) sa r:=by
 unfold QeX at h
 rcases io h with ⟨ha1,h⟩ | ⟨ha1,h⟩
 ·obtain ⟨ta2,ha2,h⟩:=bo h
  have q:=allE Ql ha2 (Qa (jDj ha1) QL)
  let o (l:List Orc):=b1::.el (QP ta2)::l
  rcases io h with ⟨ha3,h⟩ | ⟨ha3,h⟩
  ·obtain ⟨ta4,ha4,h⟩:=bo h
   cases h
   exact rx 7 (o [b1,.ret (B ta4)]) [] [2] [] (Qa (YE ha4) (Qa ha3 q))
  obtain ⟨ha4,h⟩:=gd h
  cases h
  exact rn 7 (o [b0]) [] [0,24,25,26] [] (Qa ha4 (Qa (QA ha3) q))
 cases h
 exact rx 7 [b0] [] [0] [] (Qa (jEj ha1) QL)
def Qe2 (n:Nat) (a0:jVj) (ta3:Int×Int×Bool×Bool×Int×Int×Int×jVj×jVj×jVj×Int×Int) (ta4:Int×Int) (sb:(Int×Int)):Option (((Int×Int))⊕((Int))) :=
 if sb.2 < ((ta3.2.2.2.2.2.2.2.2.1).length:Int) then
  (el QM ta3.2.2.2.2.2.2.2.2.1 sb.2).bind fun tb2 =>
  if tb2.2.2.2.2.2=true then
   if ta3.2.2.1=true then
    if ta3.2.2.2.1=true then
     none
    else
    if tb2.2.2.2.2.1=true then
     none
    else
    if Qh (1000 - tb2.2.2.2.1) then
    if Qh (tb2.2.2.1 * (1000 - tb2.2.2.2.1)) then
    if Qh ((tb2.2.2.1 * (1000 - tb2.2.2.2.1)) * ta3.2.1) then
    if Qh (sb.1+((tb2.2.2.1 * (1000 - tb2.2.2.2.1)) * ta3.2.1)) then
    if Qh (sb.2+1) then
    some (.inl ((sb.1+((tb2.2.2.1 * (1000 - tb2.2.2.2.1)) * ta3.2.1)),(sb.2+1)))
    else none
    else none
    else none
    else none
    else none
   else
   none
  else
  if Qh (sb.2+1) then
  some (.inl (sb.1,(sb.2+1)))
  else none
 else
 some (.inr sb.1)
noncomputable def QfP (a0:jVj) (ta3:Int×Int×Bool×Bool×Int×Int×Int×jVj×jVj×jVj×Int×Int) (ta4:Int×Int):Lp ((Int×Int)) ((Int)):=⟨fun sb=>[(0,.d (.lst false 5 a0)),(5,.ptr 28 0 0 0 0),(8,.ptr 45 0 0 0 0),(11,.d (I ta4.1)),(13,.d (I sb.1)),(36,.d (I ((a0).length:Int))),(37,.d (I 0)),(103,.d (.lst false 6 ta3.2.2.2.2.2.2.2.2.1)),(104,.d (I ((ta3.2.2.2.2.2.2.2.2.1).length:Int))),(105,.d (I sb.2))],fun _=>[(28,.box (.d (.agg [I 0,I 0,B false,B false,I 0,I 0,I 0,.lst true 0 [],.lst true 0 [],.lst true 0 []]))),(45,.box (.d (.agg [I ta3.1,I ta3.2.1,B ta3.2.2.1,B ta3.2.2.2.1,I ta3.2.2.2.2.1,I ta3.2.2.2.2.2.1,I ta3.2.2.2.2.2.2.1,.lst false 1 ta3.2.2.2.2.2.2.2.1,.lst false 6 ta3.2.2.2.2.2.2.2.2.1,.lst false 7 ta3.2.2.2.2.2.2.2.2.2.1])))],fun _=>(.exit 4),fun e=>[(0,.d (.lst false 5 a0)),(5,.ptr 28 0 0 0 0),(8,.ptr 45 0 0 0 0),(11,.d (I ta4.1)),(13,.d (I e)),(36,.d (I ((a0).length:Int))),(37,.d (I 0))],fun _=>[(28,.box (.d (.agg [I 0,I 0,B false,B false,I 0,I 0,I 0,.lst true 0 [],.lst true 0 [],.lst true 0 []]))),(45,.box (.d (.agg [I ta3.1,I ta3.2.1,B ta3.2.2.1,B ta3.2.2.2.1,I ta3.2.2.2.2.1,I ta3.2.2.2.2.2.1,I ta3.2.2.2.2.2.2.1,.lst false 1 ta3.2.2.2.2.2.2.2.1,.lst false 6 ta3.2.2.2.2.2.2.2.2.1,.lst false 7 ta3.2.2.2.2.2.2.2.2.2.1])))]⟩
theorem QfK {n:Nat} {a0:jVj} {ta3:Int×Int×Bool×Bool×Int×Int×Int×jVj×jVj×jVj×Int×Int} {ta4:Int×Int} (sb:(Int×Int)) (r) (h:Qe2 n a0 ta3 ta4 sb=some r):Rl (ZJ cx.P 6 2) 205 0 false (QfP a0 ta3 ta4) sb r:=by
 unfold Qe2 at h
 rcases io h with ⟨hb1,h⟩ | ⟨hb1,h⟩
 ·obtain ⟨tb2,hb2,h⟩:=bo h
  have q:=allE Qq hb2 (Qa (jDj hb1) QL)
  let o (l:List Orc):=b1::.el (QB tb2)::l
  rcases io h with ⟨hb3,h⟩ | ⟨hb3,h⟩
  ·rcases io h with ⟨hb4,h⟩ | ⟨hb4,h⟩
   ·rcases io h with ⟨hb5,h⟩ | ⟨hb5,h⟩
    ·cases h
    rcases io h with ⟨hb6,h⟩ | ⟨hb6,h⟩
    ·cases h
    obtain ⟨hb7,h⟩:=gd h;obtain ⟨hb8,h⟩:=gd h;obtain ⟨hb9,h⟩:=gd h;obtain ⟨hb10,h⟩:=gd h;obtain ⟨hb11,h⟩:=gd h
    cases h
    exact rn 109 (o [b1,b0,b0,b0,b1]) [] [0,5,8,11,13,36,37,103,104,105] [28,45] (Qa hb11 (Qa hb10 (Qa hb9 (Qa hb8 (Qa hb7 (Qa hb3 (Qa (QA hb6) (Qa (QA hb5) (Qa (Ud hb4) (Qa hb3 q))))))))))
   cases h
  obtain ⟨hb4,h⟩:=gd h
  cases h
  exact rn 109 (o [b0,.no,b0]) [] [0,5,8,11,13,36,37,103,104,105] [28,45] (Qa hb4 (Qa (QA hb3) (Qa (QA hb3) q)))
 cases h
 exact rx 109 [b0] [] [0,5,8,11,13,36,37] [28,45] (Qa (jEj hb1) QL)
def Qe1 (n:Nat) (a0:jVj) (ta3:Int×Int×Bool×Bool×Int×Int×Int×jVj×jVj×jVj×Int×Int) (ta4:Int×Int) (ta16:Int) (sb:(Int×Int×Int)):Option (((Int×Int×Int))⊕((Int×Int))) :=
 if sb.2.2 < ((ta3.2.2.2.2.2.2.2.2.2.1).length:Int) then
  (el Z6 ta3.2.2.2.2.2.2.2.2.2.1 sb.2.2).bind fun tb2 =>
  if tb2.2.2.2.2.2.1 < 0 then
   none
  else
  if tb2.2.2.2.2.2.1 > tb2.2.2.2.1 then
   none
  else
  if Qh (1000000 * tb2.2.2.2.2.2.1) then
  if Qh (sb.1+(1000000 * tb2.2.2.2.2.2.1)) then
  if tb2.2.2.2.2.2.2=true then
   if Qh (3 * tb2.2.2.2.2.1) then
   if Qh ((3 * tb2.2.2.2.2.1) * tb2.2.2.2.2.2.1) then
   if Qh (2 * tb2.2.2.2.2.1) then
   if Qh ((2 * tb2.2.2.2.2.1) * tb2.2.2.2.1) then
   if Qh (((3 * tb2.2.2.2.2.1) * tb2.2.2.2.2.2.1) - ((2 * tb2.2.2.2.2.1) * tb2.2.2.2.1)) then
   if Qh (sb.2.1+(((3 * tb2.2.2.2.2.1) * tb2.2.2.2.2.2.1) - ((2 * tb2.2.2.2.2.1) * tb2.2.2.2.1))) then
   if Qh (sb.2.2+1) then
   some (.inl ((sb.1+(1000000 * tb2.2.2.2.2.2.1)),(sb.2.1+(((3 * tb2.2.2.2.2.1) * tb2.2.2.2.2.2.1) - ((2 * tb2.2.2.2.2.1) * tb2.2.2.2.1))),(sb.2.2+1)))
   else none
   else none
   else none
   else none
   else none
   else none
   else none
  else
  if Qh (sb.2.2+1) then
  some (.inl ((sb.1+(1000000 * tb2.2.2.2.2.2.1)),sb.2.1,(sb.2.2+1)))
  else none
  else none
  else none
 else
 some (.inr (sb.1,sb.2.1))
noncomputable def QfO (a0:jVj) (ta3:Int×Int×Bool×Bool×Int×Int×Int×jVj×jVj×jVj×Int×Int) (ta4:Int×Int) (ta16:Int):Lp ((Int×Int×Int)) ((Int×Int)):=⟨fun sb=>[(0,.d (.lst false 5 a0)),(5,.ptr 28 0 0 0 0),(8,.ptr 45 0 0 0 0),(11,.d (I ta4.1)),(13,.d (I ta16)),(16,.d (I sb.1)),(17,.d (I sb.2.1)),(36,.d (I ((a0).length:Int))),(37,.d (I 0)),(139,.d (.lst false 7 ta3.2.2.2.2.2.2.2.2.2.1)),(140,.d (I ((ta3.2.2.2.2.2.2.2.2.2.1).length:Int))),(141,.d (I sb.2.2))],fun _=>[(28,.box (.d (.agg [I 0,I 0,B false,B false,I 0,I 0,I 0,.lst true 0 [],.lst true 0 [],.lst true 0 []]))),(45,.box (.d (.agg [I ta3.1,I ta3.2.1,B ta3.2.2.1,B ta3.2.2.2.1,I ta3.2.2.2.2.1,I ta3.2.2.2.2.2.1,I ta3.2.2.2.2.2.2.1,.lst false 1 ta3.2.2.2.2.2.2.2.1,.lst false 6 ta3.2.2.2.2.2.2.2.2.1,.lst false 7 ta3.2.2.2.2.2.2.2.2.2.1])))],fun _=>(.exit 6),fun e=>[(0,.d (.lst false 5 a0)),(5,.ptr 28 0 0 0 0),(8,.ptr 45 0 0 0 0),(11,.d (I ta4.1)),(13,.d (I ta16)),(16,.d (I e.1)),(17,.d (I e.2)),(36,.d (I ((a0).length:Int))),(37,.d (I 0))],fun _=>[(28,.box (.d (.agg [I 0,I 0,B false,B false,I 0,I 0,I 0,.lst true 0 [],.lst true 0 [],.lst true 0 []]))),(45,.box (.d (.agg [I ta3.1,I ta3.2.1,B ta3.2.2.1,B ta3.2.2.2.1,I ta3.2.2.2.2.1,I ta3.2.2.2.2.2.1,I ta3.2.2.2.2.2.2.1,.lst false 1 ta3.2.2.2.2.2.2.2.1,.lst false 6 ta3.2.2.2.2.2.2.2.2.1,.lst false 7 ta3.2.2.2.2.2.2.2.2.2.1])))]⟩
theorem QfJ {n:Nat} {a0:jVj} {ta3:Int×Int×Bool×Bool×Int×Int×Int×jVj×jVj×jVj×Int×Int} {ta4:Int×Int} {ta16:Int} (sb:(Int×Int×Int)) (r) (h:Qe1 n a0 ta3 ta4 ta16 sb=some r):Rl (ZJ cx.P 6 3) 205 0 false (QfO a0 ta3 ta4 ta16) sb r:=by
 unfold Qe1 at h
 rcases io h with ⟨hb1,h⟩ | ⟨hb1,h⟩
 ·obtain ⟨tb2,hb2,h⟩:=bo h
  have q:=allE Q0 hb2 (Qa (jDj hb1) QL)
  let o (l:List Orc):=b1::.el (Q7 tb2)::b0::b0::l
  rcases io h with ⟨hb3,h⟩ | ⟨hb3,h⟩
  ·cases h
  have q:=Qa (jEj hb3) q
  rcases io h with ⟨hb4,h⟩ | ⟨hb4,h⟩
  ·cases h
  obtain ⟨hb5,h⟩:=gd h;obtain ⟨hb6,h⟩:=gd h
  have q:=Qa hb6 (Qa hb5 (Qa (jEj hb4) q))
  rcases io h with ⟨hb7,h⟩ | ⟨hb7,h⟩
  ·obtain ⟨hb8,h⟩:=gd h;obtain ⟨hb9,h⟩:=gd h;obtain ⟨hb10,h⟩:=gd h;obtain ⟨hb11,h⟩:=gd h;obtain ⟨hb12,h⟩:=gd h;obtain ⟨hb13,h⟩:=gd h;obtain ⟨hb14,h⟩:=gd h
   cases h
   exact rn 162 (o [b1]) [] [0,5,8,11,13,16,17,36,37,139,140,141] [28,45] (Qa hb14 (Qa hb13 (Qa hb12 (Qa hb11 (Qa hb10 (Qa hb9 (Qa hb8 (Qa hb7 q))))))))
  obtain ⟨hb8,h⟩:=gd h
  cases h
  exact rn 162 (o [b0]) [] [0,5,8,11,13,16,17,36,37,139,140,141] [28,45] (Qa hb8 (Qa (QA hb7) q))
 cases h
 exact rx 162 [b0] [] [0,5,8,11,13,16,17,36,37] [28,45] (Qa (jEj hb1) QL)
def Qe0 (n:Nat) (a0:jVj) (sa:Int×Int×jRj) (ta4:Int×Int×Bool×Bool×Int×Int×Int×jVj×jVj×jVj×Int×Int) (ta5:Int×Int) (sb:(Int×Int)):Option (((Int×Int))⊕((Int))) :=
 if sb.2 < ((ta4.2.2.2.2.2.2.2.2.1).length:Int) then
  (el QM ta4.2.2.2.2.2.2.2.2.1 sb.2).bind fun tb2 =>
  if tb2.2.2.2.2.2=true then
   if ta4.2.2.1=true then
    if ta4.2.2.2.1=true then
     none
    else
    if tb2.2.2.2.2.1=true then
     none
    else
    if Qh (1000 - tb2.2.2.2.1) then
    if Qh (tb2.2.2.1 * (1000 - tb2.2.2.2.1)) then
    if Qh ((tb2.2.2.1 * (1000 - tb2.2.2.2.1)) * ta4.2.1) then
    if Qh (sb.1+((tb2.2.2.1 * (1000 - tb2.2.2.2.1)) * ta4.2.1)) then
    if Qh (sb.2+1) then
    some (.inl ((sb.1+((tb2.2.2.1 * (1000 - tb2.2.2.2.1)) * ta4.2.1)),(sb.2+1)))
    else none
    else none
    else none
    else none
    else none
   else
   none
  else
  if Qh (sb.2+1) then
  some (.inl (sb.1,(sb.2+1)))
  else none
 else
 some (.inr sb.1)
noncomputable def QfN (a0:jVj) (sa:Int×Int×jRj) (ta4:Int×Int×Bool×Bool×Int×Int×Int×jVj×jVj×jVj×Int×Int) (ta5:Int×Int):Lp ((Int×Int)) ((Int)):=⟨fun sb=>[(0,.d (.lst false 5 a0)),(5,.ptr 28 0 0 0 0),(8,.ptr 45 0 0 0 0),(11,.d (I ta5.1)),(13,.d (I sb.1)),(36,.d (I ((a0).length:Int))),(37,.d (I sa.2.1)),(103,.d (.lst false 6 ta4.2.2.2.2.2.2.2.2.1)),(104,.d (I ((ta4.2.2.2.2.2.2.2.2.1).length:Int))),(105,.d (I sb.2))],fun _=>[(28,.box (.d (.agg [I sa.2.2.1,I sa.2.2.2.1,B sa.2.2.2.2.1,B sa.2.2.2.2.2.1,I sa.2.2.2.2.2.2.1,I sa.2.2.2.2.2.2.2.1,I sa.2.2.2.2.2.2.2.2.1,.lst false 1 sa.2.2.2.2.2.2.2.2.2.1,.lst false 6 sa.2.2.2.2.2.2.2.2.2.2.1,.lst false 7 sa.2.2.2.2.2.2.2.2.2.2.2]))),(45,.box (.d (.agg [I ta4.1,I ta4.2.1,B ta4.2.2.1,B ta4.2.2.2.1,I ta4.2.2.2.2.1,I ta4.2.2.2.2.2.1,I ta4.2.2.2.2.2.2.1,.lst false 1 ta4.2.2.2.2.2.2.2.1,.lst false 6 ta4.2.2.2.2.2.2.2.2.1,.lst false 7 ta4.2.2.2.2.2.2.2.2.2.1])))],fun _=>(.exit 4),fun e=>[(0,.d (.lst false 5 a0)),(5,.ptr 28 0 0 0 0),(8,.ptr 45 0 0 0 0),(11,.d (I ta5.1)),(13,.d (I e)),(36,.d (I ((a0).length:Int))),(37,.d (I sa.2.1))],fun _=>[(28,.box (.d (.agg [I sa.2.2.1,I sa.2.2.2.1,B sa.2.2.2.2.1,B sa.2.2.2.2.2.1,I sa.2.2.2.2.2.2.1,I sa.2.2.2.2.2.2.2.1,I sa.2.2.2.2.2.2.2.2.1,.lst false 1 sa.2.2.2.2.2.2.2.2.2.1,.lst false 6 sa.2.2.2.2.2.2.2.2.2.2.1,.lst false 7 sa.2.2.2.2.2.2.2.2.2.2.2]))),(45,.box (.d (.agg [I ta4.1,I ta4.2.1,B ta4.2.2.1,B ta4.2.2.2.1,I ta4.2.2.2.2.1,I ta4.2.2.2.2.2.1,I ta4.2.2.2.2.2.2.1,.lst false 1 ta4.2.2.2.2.2.2.2.1,.lst false 6 ta4.2.2.2.2.2.2.2.2.1,.lst false 7 ta4.2.2.2.2.2.2.2.2.2.1])))]⟩
theorem QfI {n:Nat} {a0:jVj} {sa:Int×Int×jRj} {ta4:Int×Int×Bool×Bool×Int×Int×Int×jVj×jVj×jVj×Int×Int} {ta5:Int×Int} (sb:(Int×Int)) (r) (h:Qe0 n a0 sa ta4 ta5 sb=some r):Rl (ZJ cx.P 6 2) 205 0 false (QfN a0 sa ta4 ta5) sb r:=by
 unfold Qe0 at h
 rcases io h with ⟨hb1,h⟩ | ⟨hb1,h⟩
 ·obtain ⟨tb2,hb2,h⟩:=bo h
  have q:=allE Qq hb2 (Qa (jDj hb1) QL)
  let o (l:List Orc):=b1::.el (QB tb2)::l
  rcases io h with ⟨hb3,h⟩ | ⟨hb3,h⟩
  ·rcases io h with ⟨hb4,h⟩ | ⟨hb4,h⟩
   ·rcases io h with ⟨hb5,h⟩ | ⟨hb5,h⟩
    ·cases h
    rcases io h with ⟨hb6,h⟩ | ⟨hb6,h⟩
    ·cases h
    obtain ⟨hb7,h⟩:=gd h;obtain ⟨hb8,h⟩:=gd h;obtain ⟨hb9,h⟩:=gd h;obtain ⟨hb10,h⟩:=gd h;obtain ⟨hb11,h⟩:=gd h
    cases h
    exact rn 109 (o [b1,b0,b0,b0,b1]) [] [0,5,8,11,13,36,37,103,104,105] [28,45] (Qa hb11 (Qa hb10 (Qa hb9 (Qa hb8 (Qa hb7 (Qa hb3 (Qa (QA hb6) (Qa (QA hb5) (Qa (Ud hb4) (Qa hb3 q))))))))))
   cases h
  obtain ⟨hb4,h⟩:=gd h
  cases h
  exact rn 109 (o [b0,.no,b0]) [] [0,5,8,11,13,36,37,103,104,105] [28,45] (Qa hb4 (Qa (QA hb3) (Qa (QA hb3) q)))
 cases h
 exact rx 109 [b0] [] [0,5,8,11,13,36,37] [28,45] (Qa (jEj hb1) QL)
def QeZ (n:Nat) (a0:jVj) (sa:Int×Int×jRj) (ta4:Int×Int×Bool×Bool×Int×Int×Int×jVj×jVj×jVj×Int×Int) (ta5:Int×Int) (ta17:Int) (sb:(Int×Int×Int)):Option (((Int×Int×Int))⊕((Int×Int))) :=
 if sb.2.2 < ((ta4.2.2.2.2.2.2.2.2.2.1).length:Int) then
  (el Z6 ta4.2.2.2.2.2.2.2.2.2.1 sb.2.2).bind fun tb2 =>
  if tb2.2.2.2.2.2.1 < 0 then
   none
  else
  if tb2.2.2.2.2.2.1 > tb2.2.2.2.1 then
   none
  else
  if Qh (1000000 * tb2.2.2.2.2.2.1) then
  if Qh (sb.1+(1000000 * tb2.2.2.2.2.2.1)) then
  if tb2.2.2.2.2.2.2=true then
   if Qh (3 * tb2.2.2.2.2.1) then
   if Qh ((3 * tb2.2.2.2.2.1) * tb2.2.2.2.2.2.1) then
   if Qh (2 * tb2.2.2.2.2.1) then
   if Qh ((2 * tb2.2.2.2.2.1) * tb2.2.2.2.1) then
   if Qh (((3 * tb2.2.2.2.2.1) * tb2.2.2.2.2.2.1) - ((2 * tb2.2.2.2.2.1) * tb2.2.2.2.1)) then
   if Qh (sb.2.1+(((3 * tb2.2.2.2.2.1) * tb2.2.2.2.2.2.1) - ((2 * tb2.2.2.2.2.1) * tb2.2.2.2.1))) then
   if Qh (sb.2.2+1) then
   some (.inl ((sb.1+(1000000 * tb2.2.2.2.2.2.1)),(sb.2.1+(((3 * tb2.2.2.2.2.1) * tb2.2.2.2.2.2.1) - ((2 * tb2.2.2.2.2.1) * tb2.2.2.2.1))),(sb.2.2+1)))
   else none
   else none
   else none
   else none
   else none
   else none
   else none
  else
  if Qh (sb.2.2+1) then
  some (.inl ((sb.1+(1000000 * tb2.2.2.2.2.2.1)),sb.2.1,(sb.2.2+1)))
  else none
  else none
  else none
 else
 some (.inr (sb.1,sb.2.1))
noncomputable def QfM (a0:jVj) (sa:Int×Int×jRj) (ta4:Int×Int×Bool×Bool×Int×Int×Int×jVj×jVj×jVj×Int×Int) (ta5:Int×Int) (ta17:Int):Lp ((Int×Int×Int)) ((Int×Int)):=⟨fun sb=>[(0,.d (.lst false 5 a0)),(5,.ptr 28 0 0 0 0),(8,.ptr 45 0 0 0 0),(11,.d (I ta5.1)),(13,.d (I ta17)),(16,.d (I sb.1)),(17,.d (I sb.2.1)),(36,.d (I ((a0).length:Int))),(37,.d (I sa.2.1)),(139,.d (.lst false 7 ta4.2.2.2.2.2.2.2.2.2.1)),(140,.d (I ((ta4.2.2.2.2.2.2.2.2.2.1).length:Int))),(141,.d (I sb.2.2))],fun _=>[(28,.box (.d (.agg [I sa.2.2.1,I sa.2.2.2.1,B sa.2.2.2.2.1,B sa.2.2.2.2.2.1,I sa.2.2.2.2.2.2.1,I sa.2.2.2.2.2.2.2.1,I sa.2.2.2.2.2.2.2.2.1,.lst false 1 sa.2.2.2.2.2.2.2.2.2.1,.lst false 6 sa.2.2.2.2.2.2.2.2.2.2.1,.lst false 7 sa.2.2.2.2.2.2.2.2.2.2.2]))),(45,.box (.d (.agg [I ta4.1,I ta4.2.1,B ta4.2.2.1,B ta4.2.2.2.1,I ta4.2.2.2.2.1,I ta4.2.2.2.2.2.1,I ta4.2.2.2.2.2.2.1,.lst false 1 ta4.2.2.2.2.2.2.2.1,.lst false 6 ta4.2.2.2.2.2.2.2.2.1,.lst false 7 ta4.2.2.2.2.2.2.2.2.2.1])))],fun _=>(.exit 6),fun e=>[(0,.d (.lst false 5 a0)),(5,.ptr 28 0 0 0 0),(8,.ptr 45 0 0 0 0),(11,.d (I ta5.1)),(13,.d (I ta17)),(16,.d (I e.1)),(17,.d (I e.2)),(36,.d (I ((a0).length:Int))),(37,.d (I sa.2.1))],fun _=>[(28,.box (.d (.agg [I sa.2.2.1,I sa.2.2.2.1,B sa.2.2.2.2.1,B sa.2.2.2.2.2.1,I sa.2.2.2.2.2.2.1,I sa.2.2.2.2.2.2.2.1,I sa.2.2.2.2.2.2.2.2.1,.lst false 1 sa.2.2.2.2.2.2.2.2.2.1,.lst false 6 sa.2.2.2.2.2.2.2.2.2.2.1,.lst false 7 sa.2.2.2.2.2.2.2.2.2.2.2]))),(45,.box (.d (.agg [I ta4.1,I ta4.2.1,B ta4.2.2.1,B ta4.2.2.2.1,I ta4.2.2.2.2.1,I ta4.2.2.2.2.2.1,I ta4.2.2.2.2.2.2.1,.lst false 1 ta4.2.2.2.2.2.2.2.1,.lst false 6 ta4.2.2.2.2.2.2.2.2.1,.lst false 7 ta4.2.2.2.2.2.2.2.2.2.1])))]⟩
theorem QfH {n:Nat} {a0:jVj} {sa:Int×Int×jRj} {ta4:Int×Int×Bool×Bool×Int×Int×Int×jVj×jVj×jVj×Int×Int} {ta5:Int×Int} {ta17:Int} (sb:(Int×Int×Int)) (r) (h:QeZ n a0 sa ta4 ta5 ta17 sb=some r):Rl (ZJ cx.P 6 3) 205 0 false (QfM a0 sa ta4 ta5 ta17) sb r:=by
 unfold QeZ at h
 rcases io h with ⟨hb1,h⟩ | ⟨hb1,h⟩
 ·obtain ⟨tb2,hb2,h⟩:=bo h
  have q:=allE Q0 hb2 (Qa (jDj hb1) QL)
  let o (l:List Orc):=b1::.el (Q7 tb2)::b0::b0::l
  rcases io h with ⟨hb3,h⟩ | ⟨hb3,h⟩
  ·cases h
  have q:=Qa (jEj hb3) q
  rcases io h with ⟨hb4,h⟩ | ⟨hb4,h⟩
  ·cases h
  obtain ⟨hb5,h⟩:=gd h;obtain ⟨hb6,h⟩:=gd h
  have q:=Qa hb6 (Qa hb5 (Qa (jEj hb4) q))
  rcases io h with ⟨hb7,h⟩ | ⟨hb7,h⟩
  ·obtain ⟨hb8,h⟩:=gd h;obtain ⟨hb9,h⟩:=gd h;obtain ⟨hb10,h⟩:=gd h;obtain ⟨hb11,h⟩:=gd h;obtain ⟨hb12,h⟩:=gd h;obtain ⟨hb13,h⟩:=gd h;obtain ⟨hb14,h⟩:=gd h
   cases h
   exact rn 162 (o [b1]) [] [0,5,8,11,13,16,17,36,37,139,140,141] [28,45] (Qa hb14 (Qa hb13 (Qa hb12 (Qa hb11 (Qa hb10 (Qa hb9 (Qa hb8 (Qa hb7 q))))))))
  obtain ⟨hb8,h⟩:=gd h
  cases h
  exact rn 162 (o [b0]) [] [0,5,8,11,13,16,17,36,37,139,140,141] [28,45] (Qa hb8 (Qa (QA hb7) q))
 cases h
 exact rx 162 [b0] [] [0,5,8,11,13,16,17,36,37] [28,45] (Qa (jEj hb1) QL)
def QeW (n:Nat) (a0:jVj) (sa:(Unit)⊕(Int×Int×jRj)):Option (((Unit)⊕(Int×Int×jRj))⊕((Unit))):=match sa with
 | (.inl sa)=>(
  if 0 < ((a0).length:Int) then
   if (0:Int)≤0∧(0:Int)≤1∧1≤((a0).length:Int)∧(a0=[] ∨ 5=5) then
   (XE n ((a0.take (Int.toNat 1)).drop (Int.toNat 0))).bind fun ta3 =>
   (Uq n ((a0.take (Int.toNat 1)).drop (Int.toNat 0))).bind fun ta4 =>
   if ta3.2.2.2.2.2.2.2.2.2.2.2=0 then
    if ta4.2=0 then
     if ((ta3.2.2.2.2.2.2.2.2.1).length:Int) > 20 then
      none
     else
     if ((ta3.2.2.2.2.2.2.2.2.2.1).length:Int) > 20 then
      none
     else
     (el Ze a0 0).bind fun ta9 =>
     (el Vt ta9.2.2.2.1 0).bind fun ta10 =>
     if ta3.1=ta10 then
      if Qh (ta3.1 - 0) then
      if Qh (0 * (ta3.1 - 0)) then
      if Qh (0+(0 * (ta3.1 - 0))) then
      if ta3.2.2.2.2.1=(0+(0 * (ta3.1 - 0))) then
       (Q2 (Qe2 n a0 ta3 ta4) n (0,0)).bind fun ta16 =>
       (Q2 (Qe1 n a0 ta3 ta4 ta16) n (0,0,0)).bind fun ta17 =>
       if ta16=ta4.1 then
        if Qh (ta3.2.2.2.2.2.1+ta17.1) then
        if ta3.2.2.2.2.1=(ta3.2.2.2.2.2.1+ta17.1) then
         if ta3.2.2.2.2.2.1 < 0 then
          none
         else
         if ta3.2.2.2.2.2.2.1=ta17.2 then
          some (.inl (.inr (ta4.1,1,ta3.1,ta3.2.1,ta3.2.2.1,ta3.2.2.2.1,ta3.2.2.2.2.1,ta3.2.2.2.2.2.1,ta3.2.2.2.2.2.2.1,ta3.2.2.2.2.2.2.2.1,ta3.2.2.2.2.2.2.2.2.1,ta3.2.2.2.2.2.2.2.2.2.1)))
         else
         none
        else
        none
        else none
       else
       none
      else
      none
      else none
      else none
      else none
     else
     none
    else
    none
   else
   none
   else none
  else
  some (.inr ()))
 | (.inr sa)=>(
  if sa.2.1 < ((a0).length:Int) then
   if Qh (sa.2.1+1) then
   if (0:Int)≤0∧0≤(sa.2.1+1)∧(sa.2.1+1)≤((a0).length:Int)∧(a0=[] ∨ 5=5) then
   (XE n ((a0.take (Int.toNat (sa.2.1+1))).drop (Int.toNat 0))).bind fun ta4 =>
   (Uq n ((a0.take (Int.toNat (sa.2.1+1))).drop (Int.toNat 0))).bind fun ta5 =>
   if ta4.2.2.2.2.2.2.2.2.2.2.2=0 then
    if ta5.2=0 then
     if ((ta4.2.2.2.2.2.2.2.2.1).length:Int) > 20 then
      none
     else
     if ((ta4.2.2.2.2.2.2.2.2.2.1).length:Int) > 20 then
      none
     else
     (el Ze a0 sa.2.1).bind fun ta10 =>
     (el Vt ta10.2.2.2.1 0).bind fun ta11 =>
     if ta4.1=ta11 then
      if Qh (ta4.1 - sa.2.2.1) then
      if Qh (sa.1 * (ta4.1 - sa.2.2.1)) then
      if Qh (sa.2.2.2.2.2.2.1+(sa.1 * (ta4.1 - sa.2.2.1))) then
      if ta4.2.2.2.2.1=(sa.2.2.2.2.2.2.1+(sa.1 * (ta4.1 - sa.2.2.1))) then
       (Q2 (Qe0 n a0 sa ta4 ta5) n (0,0)).bind fun ta17 =>
       (Q2 (QeZ n a0 sa ta4 ta5 ta17) n (0,0,0)).bind fun ta18 =>
       if ta17=ta5.1 then
        if Qh (ta4.2.2.2.2.2.1+ta18.1) then
        if ta4.2.2.2.2.1=(ta4.2.2.2.2.2.1+ta18.1) then
         if ta4.2.2.2.2.2.1 < 0 then
          none
         else
         if ta4.2.2.2.2.2.2.1=ta18.2 then
          some (.inl (.inr (ta5.1,(sa.2.1+1),ta4.1,ta4.2.1,ta4.2.2.1,ta4.2.2.2.1,ta4.2.2.2.2.1,ta4.2.2.2.2.2.1,ta4.2.2.2.2.2.2.1,ta4.2.2.2.2.2.2.2.1,ta4.2.2.2.2.2.2.2.2.1,ta4.2.2.2.2.2.2.2.2.2.1)))
         else
         none
        else
        none
        else none
       else
       none
      else
      none
      else none
      else none
      else none
     else
     none
    else
    none
   else
   none
   else none
   else none
  else
  some (.inr ()))
noncomputable def QfL (a0:jVj):Lp ((Unit)⊕(Int×Int×jRj)) ((Unit)):=⟨fun
 | (.inl sa)=>[(0,.d (.lst false 5 a0)),(5,.ptr 28 0 0 0 0),(6,.d (I 0)),(36,.d (I ((a0).length:Int))),(37,.d (I 0))]
 | (.inr sa)=>[(0,.d (.lst false 5 a0)),(5,.ptr 28 0 0 0 0),(6,.d (I sa.1)),(36,.d (I ((a0).length:Int))),(37,.d (I sa.2.1))],fun
 | (.inl sa)=>[(28,.box (.d (.agg [I 0,I 0,B false,B false,I 0,I 0,I 0,.lst true 0 [],.lst true 0 [],.lst true 0 []])))]
 | (.inr sa)=>[(28,.box (.d (.agg [I sa.2.2.1,I sa.2.2.2.1,B sa.2.2.2.2.1,B sa.2.2.2.2.2.1,I sa.2.2.2.2.2.2.1,I sa.2.2.2.2.2.2.2.1,I sa.2.2.2.2.2.2.2.2.1,.lst false 1 sa.2.2.2.2.2.2.2.2.2.1,.lst false 6 sa.2.2.2.2.2.2.2.2.2.2.1,.lst false 7 sa.2.2.2.2.2.2.2.2.2.2.2])))],fun _=>(.exit 2),fun _=>[],fun _=>[]⟩
theorem QfG {n:Nat} {a0:jVj} (sa:(Unit)⊕(Int×Int×jRj)) (r) (h:QeW n a0 sa=some r):Rl (ZJ cx.P 6 1) 205 0 false (QfL a0) sa r:=by
 unfold QeW at h
 rcases sa with sa | sa
 ·rcases io h with ⟨ha1,h⟩ | ⟨ha1,h⟩
  ·obtain ⟨ha2,h⟩:=gd h;obtain ⟨ta3,ha3,h⟩:=bo h;obtain ⟨ta4,ha4,h⟩:=bo h
   rcases io h with ⟨ha5,h⟩ | ⟨ha5,h⟩
   ·rcases io h with ⟨ha6,h⟩ | ⟨ha6,h⟩
    ·rcases io h with ⟨ha7,h⟩ | ⟨ha7,h⟩
     ·cases h
     rcases io h with ⟨ha8,h⟩ | ⟨ha8,h⟩
     ·cases h
     obtain ⟨ta9,ha9,h⟩:=bo h;obtain ⟨ta10,ha10,h⟩:=bo h
     rcases io h with ⟨ha11,h⟩ | ⟨ha11,h⟩
     ·obtain ⟨ha12,h⟩:=gd h;obtain ⟨ha13,h⟩:=gd h;obtain ⟨ha14,h⟩:=gd h
      rcases io h with ⟨ha15,h⟩ | ⟨ha15,h⟩
      ·obtain ⟨ta16,ha16,h⟩:=bo h;obtain ⟨ta17,ha17,h⟩:=bo h
       rcases io h with ⟨ha18,h⟩ | ⟨ha18,h⟩
       ·obtain ⟨ha19,h⟩:=gd h
        rcases io h with ⟨ha20,h⟩ | ⟨ha20,h⟩
        ·rcases io h with ⟨ha21,h⟩ | ⟨ha21,h⟩
         ·cases h
         rcases io h with ⟨ha22,h⟩ | ⟨ha22,h⟩
         ·cases h
          exact rn 33 [b1,b1,.ret (.tup [.agg [I ta3.1,I ta3.2.1,B ta3.2.2.1,B ta3.2.2.2.1,I ta3.2.2.2.2.1,I ta3.2.2.2.2.2.1,I ta3.2.2.2.2.2.2.1,.lst false 1 ta3.2.2.2.2.2.2.2.1,.lst false 6 ta3.2.2.2.2.2.2.2.2.1,.lst false 7 ta3.2.2.2.2.2.2.2.2.2.1],I ta3.2.2.2.2.2.2.2.2.2.2.1,I ta3.2.2.2.2.2.2.2.2.2.2.2]),b1,.ret (.tup [I ta4.1,I ta4.2]),b0,b0,b0,b0,.el (QP ta9),.el (Q3 ta10),b0,b0,.lp [] [0,5,8,11,13,36,37,103,104,105] [28,45] (.exit 4) [(0,.d (.lst false 5 a0)),(5,.ptr 28 0 0 0 0),(8,.ptr 45 0 0 0 0),(11,.d (I ta4.1)),(13,.d (I ta16)),(36,.d (I ((a0).length:Int))),(37,.d (I 0))] [(28,.box (.d (.agg [I 0,I 0,B false,B false,I 0,I 0,I 0,.lst true 0 [],.lst true 0 [],.lst true 0 []]))),(45,.box (.d (.agg [I ta3.1,I ta3.2.1,B ta3.2.2.1,B ta3.2.2.2.1,I ta3.2.2.2.2.1,I ta3.2.2.2.2.2.1,I ta3.2.2.2.2.2.2.1,.lst false 1 ta3.2.2.2.2.2.2.2.1,.lst false 6 ta3.2.2.2.2.2.2.2.2.1,.lst false 7 ta3.2.2.2.2.2.2.2.2.2.1])))] 156,.lp [] [0,5,8,11,13,16,17,36,37,139,140,141] [28,45] (.exit 6) [(0,.d (.lst false 5 a0)),(5,.ptr 28 0 0 0 0),(8,.ptr 45 0 0 0 0),(11,.d (I ta4.1)),(13,.d (I ta16)),(16,.d (I ta17.1)),(17,.d (I ta17.2)),(36,.d (I ((a0).length:Int))),(37,.d (I 0))] [(28,.box (.d (.agg [I 0,I 0,B false,B false,I 0,I 0,I 0,.lst true 0 [],.lst true 0 [],.lst true 0 []]))),(45,.box (.d (.agg [I ta3.1,I ta3.2.1,B ta3.2.2.1,B ta3.2.2.2.1,I ta3.2.2.2.2.1,I ta3.2.2.2.2.2.1,I ta3.2.2.2.2.2.2.1,.lst false 1 ta3.2.2.2.2.2.2.2.1,.lst false 6 ta3.2.2.2.2.2.2.2.2.1,.lst false 7 ta3.2.2.2.2.2.2.2.2.2.1])))] 214,b0,b0,b0,b0] [] [0,5,6,36,37] [28] (Qa ((by unfold Qh;omega):Qh 1) (Qa (nef ha22) (Qa (jEj ha21) (Qa (nef ha20) (Qa ha19 (Qa (nef ha18) (Qa (QH QfJ ha17) (Qa (QH QfK ha16) (Qa (nef ha15) (Qa ha14 (Qa ha13 (Qa ha12 (Qa (nef ha11) (allE Qi ha10 (allE Ql ha9 (Qa (jEj ha8) (Qa (jEj ha7) (Qa (nef ha6) (Qa (nef ha5) (Qa (qt ha4) (Qa ha2 (Qa ((by unfold Qh;omega):Qh 1) (Qa (jl ha3) (Qa ha2 (Qa ((by unfold Qh;omega):Qh 1) (Qa (jDj ha1) QL))))))))))))))))))))))))))
         cases h
        cases h
       cases h
      cases h
     cases h
    cases h
   cases h
  cases h
  exact rx 33 [b0] [] [] [] (Qa (jEj ha1) QL)
 ·rcases io h with ⟨ha1,h⟩ | ⟨ha1,h⟩
  ·obtain ⟨ha2,h⟩:=gd h;obtain ⟨ha3,h⟩:=gd h;obtain ⟨ta4,ha4,h⟩:=bo h;obtain ⟨ta5,ha5,h⟩:=bo h
   rcases io h with ⟨ha6,h⟩ | ⟨ha6,h⟩
   ·rcases io h with ⟨ha7,h⟩ | ⟨ha7,h⟩
    ·rcases io h with ⟨ha8,h⟩ | ⟨ha8,h⟩
     ·cases h
     rcases io h with ⟨ha9,h⟩ | ⟨ha9,h⟩
     ·cases h
     obtain ⟨ta10,ha10,h⟩:=bo h;obtain ⟨ta11,ha11,h⟩:=bo h
     rcases io h with ⟨ha12,h⟩ | ⟨ha12,h⟩
     ·obtain ⟨ha13,h⟩:=gd h;obtain ⟨ha14,h⟩:=gd h;obtain ⟨ha15,h⟩:=gd h
      rcases io h with ⟨ha16,h⟩ | ⟨ha16,h⟩
      ·obtain ⟨ta17,ha17,h⟩:=bo h;obtain ⟨ta18,ha18,h⟩:=bo h
       rcases io h with ⟨ha19,h⟩ | ⟨ha19,h⟩
       ·obtain ⟨ha20,h⟩:=gd h
        rcases io h with ⟨ha21,h⟩ | ⟨ha21,h⟩
        ·rcases io h with ⟨ha22,h⟩ | ⟨ha22,h⟩
         ·cases h
         rcases io h with ⟨ha23,h⟩ | ⟨ha23,h⟩
         ·cases h
          exact rn 33 [b1,b1,.ret (.tup [.agg [I ta4.1,I ta4.2.1,B ta4.2.2.1,B ta4.2.2.2.1,I ta4.2.2.2.2.1,I ta4.2.2.2.2.2.1,I ta4.2.2.2.2.2.2.1,.lst false 1 ta4.2.2.2.2.2.2.2.1,.lst false 6 ta4.2.2.2.2.2.2.2.2.1,.lst false 7 ta4.2.2.2.2.2.2.2.2.2.1],I ta4.2.2.2.2.2.2.2.2.2.2.1,I ta4.2.2.2.2.2.2.2.2.2.2.2]),b1,.ret (.tup [I ta5.1,I ta5.2]),b0,b0,b0,b0,.el (QP ta10),.el (Q3 ta11),b0,b0,.lp [] [0,5,8,11,13,36,37,103,104,105] [28,45] (.exit 4) [(0,.d (.lst false 5 a0)),(5,.ptr 28 0 0 0 0),(8,.ptr 45 0 0 0 0),(11,.d (I ta5.1)),(13,.d (I ta17)),(36,.d (I ((a0).length:Int))),(37,.d (I sa.2.1))] [(28,.box (.d (.agg [I sa.2.2.1,I sa.2.2.2.1,B sa.2.2.2.2.1,B sa.2.2.2.2.2.1,I sa.2.2.2.2.2.2.1,I sa.2.2.2.2.2.2.2.1,I sa.2.2.2.2.2.2.2.2.1,.lst false 1 sa.2.2.2.2.2.2.2.2.2.1,.lst false 6 sa.2.2.2.2.2.2.2.2.2.2.1,.lst false 7 sa.2.2.2.2.2.2.2.2.2.2.2]))),(45,.box (.d (.agg [I ta4.1,I ta4.2.1,B ta4.2.2.1,B ta4.2.2.2.1,I ta4.2.2.2.2.1,I ta4.2.2.2.2.2.1,I ta4.2.2.2.2.2.2.1,.lst false 1 ta4.2.2.2.2.2.2.2.1,.lst false 6 ta4.2.2.2.2.2.2.2.2.1,.lst false 7 ta4.2.2.2.2.2.2.2.2.2.1])))] 156,.lp [] [0,5,8,11,13,16,17,36,37,139,140,141] [28,45] (.exit 6) [(0,.d (.lst false 5 a0)),(5,.ptr 28 0 0 0 0),(8,.ptr 45 0 0 0 0),(11,.d (I ta5.1)),(13,.d (I ta17)),(16,.d (I ta18.1)),(17,.d (I ta18.2)),(36,.d (I ((a0).length:Int))),(37,.d (I sa.2.1))] [(28,.box (.d (.agg [I sa.2.2.1,I sa.2.2.2.1,B sa.2.2.2.2.1,B sa.2.2.2.2.2.1,I sa.2.2.2.2.2.2.1,I sa.2.2.2.2.2.2.2.1,I sa.2.2.2.2.2.2.2.2.1,.lst false 1 sa.2.2.2.2.2.2.2.2.2.1,.lst false 6 sa.2.2.2.2.2.2.2.2.2.2.1,.lst false 7 sa.2.2.2.2.2.2.2.2.2.2.2]))),(45,.box (.d (.agg [I ta4.1,I ta4.2.1,B ta4.2.2.1,B ta4.2.2.2.1,I ta4.2.2.2.2.1,I ta4.2.2.2.2.2.1,I ta4.2.2.2.2.2.2.1,.lst false 1 ta4.2.2.2.2.2.2.2.1,.lst false 6 ta4.2.2.2.2.2.2.2.2.1,.lst false 7 ta4.2.2.2.2.2.2.2.2.2.1])))] 214,b0,b0,b0,b0] [] [0,5,6,36,37] [28] (Qa ha2 (Qa (nef ha23) (Qa (jEj ha22) (Qa (nef ha21) (Qa ha20 (Qa (nef ha19) (Qa (QH QfH ha18) (Qa (QH QfI ha17) (Qa (nef ha16) (Qa ha15 (Qa ha14 (Qa ha13 (Qa (nef ha12) (allE Qi ha11 (allE Ql ha10 (Qa (jEj ha9) (Qa (jEj ha8) (Qa (nef ha7) (Qa (nef ha6) (Qa (qt ha5) (Qa ha3 (Qa ha2 (Qa (jl ha4) (Qa ha3 (Qa ha2 (Qa (jDj ha1) QL))))))))))))))))))))))))))
         cases h
        cases h
       cases h
      cases h
     cases h
    cases h
   cases h
  cases h
  exact rx 33 [b0] [] [] [] (Qa (jEj ha1) QL)
def Qfj (n:Nat) (a0:jVj):Option (Bool) :=
 (Qe7 n a0 20).bind fun t1 =>
 if t1=true then
  (Q2 (QeX n a0) n 0).bind fun t3=>match t3 with
   | (.inl t3)=>(
    some t3)
   | (.inr t3)=>(
    (Q2 (QeW n a0) n (.inl ())).bind fun t4 =>
    (WI n).bind fun t5 =>
    some t5)
 else
 (WI n).bind fun t3 =>
 some t3
theorem Qf2 {n:Nat} {a0:jVj} {r:Bool} (h:Qfj n a0=some r):Computes cx 6 [.lst false 5 a0] (B r):=by
 unfold Qfj at h
 obtain ⟨t1,h1,h⟩:=bo h
 have q:=Qa (Qfv h1) QL
 rcases io h with ⟨h2,h⟩ | ⟨h2,h⟩
 ·have q:=Qa (Ud h2) q
  obtain ⟨t3,h3,h⟩:=bo h
  rcases t3 with t3 | t3
  ·obtain rfl:=oi h
   exact rf [.ret (B t1),b0,.lp [] [0,24,25,26] [] .ret [(2,.d (B t3))] [] 28] (Qa (QH Qfn h3) q)
  obtain ⟨t4,h4,h⟩:=bo h;obtain ⟨t5,h5,h⟩:=bo h;obtain rfl:=oi h
  exact rf [.ret (B t1),b0,.lp [] [0,24,25,26] [] (.exit 0) [(0,.d (.lst false 5 a0))] [] 28,.lp [] [0,5,6,36,37] [28] (.exit 2) [] [] 254,.ret (B t5)] (Qa (YE h5) (Qa (QH QfG h4) (Qa (QH Qfn h3) q)))
 obtain ⟨t3,h3,h⟩:=bo h;obtain rfl:=oi h
 exact rf [.ret (B t1),b1,.ret (B t3)] (Qa (YE h3) (Qa (Uc (QA h2)) q))
end Go.Proofs.YtljabneifpkbjaaGreatDoor
