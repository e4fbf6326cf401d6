/- Printed by gsx.py: functions of the program as Lean functions, and that the code computes them. -/
import Derived.Test.YtljabneifpkbjaaGreatDoorWake
set_option linter.unusedVariables false
set_option linter.unusedSimpArgs false
set_option linter.unnecessarySimpa false
set_option maxRecDepth 10000
set_option maxHeartbeats 4000000
namespace Go.Proofs.YtljabneifpkbjaaGreatDoor
open Go.SX
def Qhd (n:Nat) (a0:jVj) (t3:Int×Int×Bool×Bool×Int×Int×Int×jVj×jVj×jVj×Int×Int) (t4:Int×Int×Int) (sa:Int×Int) (ta2:jSj×jSj×Int×Int×Bool×Bool) (ta3:jVj×Int) (sb:(Int)):Option (((Int))⊕((Unit))) :=
 if sb < ((ta3.1).length:Int) then
  (el Ze ta3.1 sb).bind fun tb2 =>
  if Qh (sb+1) then
  if tb2.1=(sb+1) then
   if (tb2.2.1.toList == (⟨#[117,110,100,111]⟩:jSj).toList)=true then
    none
   else
   if (0:Int)≤0∧0≤sb∧sb≤((ta3.1).length:Int)∧(ta3.1=[] ∨ 5=5) then
   (Qfe n ((ta3.1.take (Int.toNat sb)).drop (Int.toNat 0)) tb2.1 tb2.2.1 tb2.2.2.1 tb2.2.2.2.1 tb2.2.2.2.2).bind fun tb7 =>
   if tb7=0 then
    some (.inl (sb+1))
   else
   none
   else none
  else
  none
  else none
 else
 some (.inr ())
noncomputable def Qht (a0:jVj) (t3:Int×Int×Bool×Bool×Int×Int×Int×jVj×jVj×jVj×Int×Int) (t4:Int×Int×Int) (sa:Int×Int) (ta2:jSj×jSj×Int×Int×Bool×Bool) (ta3:jVj×Int):Lp ((Int)) ((Unit)):=⟨fun sb=>[(0,.d (.lst false 5 a0)),(3,.ptr 10 0 0 0 0),(6,.d (I t3.1)),(7,.ptr 23 0 0 0 0),(9,.d (I sa.1)),(11,.ptr 36 0 0 0 0),(12,.d (.lst false 5 ta3.1)),(51,.d (.lst false 6 t3.2.2.2.2.2.2.2.2.1)),(52,.d (I ((t3.2.2.2.2.2.2.2.2.1).length:Int))),(53,.d (I sa.2)),(73,.d (.lst false 5 ta3.1)),(74,.d (I ((ta3.1).length:Int))),(75,.d (I sb))],fun _=>[(10,.box (.d (.agg [I t3.1,I t3.2.1,B t3.2.2.1,B t3.2.2.2.1,I t3.2.2.2.2.1,I t3.2.2.2.2.2.1,I t3.2.2.2.2.2.2.1,.lst false 1 t3.2.2.2.2.2.2.2.1,.lst false 6 t3.2.2.2.2.2.2.2.2.1,.lst false 7 t3.2.2.2.2.2.2.2.2.2.1]))),(23,.box (.d (.agg [I t4.1,I t4.2.1]))),(36,.box (.d (.agg [.v (.string ta2.1),.v (.string ta2.2.1),I ta2.2.2.1,I ta2.2.2.2.1,B ta2.2.2.2.2.1,B ta2.2.2.2.2.2])))],fun _=>(.exit 2),fun _=>[(0,.d (.lst false 5 a0)),(3,.ptr 10 0 0 0 0),(6,.d (I t3.1)),(7,.ptr 23 0 0 0 0),(9,.d (I sa.1)),(11,.ptr 36 0 0 0 0),(12,.d (.lst false 5 ta3.1)),(51,.d (.lst false 6 t3.2.2.2.2.2.2.2.2.1)),(52,.d (I ((t3.2.2.2.2.2.2.2.2.1).length:Int))),(53,.d (I sa.2))],fun _=>[(10,.box (.d (.agg [I t3.1,I t3.2.1,B t3.2.2.1,B t3.2.2.2.1,I t3.2.2.2.2.1,I t3.2.2.2.2.2.1,I t3.2.2.2.2.2.2.1,.lst false 1 t3.2.2.2.2.2.2.2.1,.lst false 6 t3.2.2.2.2.2.2.2.2.1,.lst false 7 t3.2.2.2.2.2.2.2.2.2.1]))),(23,.box (.d (.agg [I t4.1,I t4.2.1]))),(36,.box (.d (.agg [.v (.string ta2.1),.v (.string ta2.2.1),I ta2.2.2.1,I ta2.2.2.2.1,B ta2.2.2.2.2.1,B ta2.2.2.2.2.2])))]⟩
theorem Qhq {n:Nat} {a0:jVj} {t3:Int×Int×Bool×Bool×Int×Int×Int×jVj×jVj×jVj×Int×Int} {t4:Int×Int×Int} {sa:Int×Int} {ta2:jSj×jSj×Int×Int×Bool×Bool} {ta3:jVj×Int} (sb:(Int)) (r) (h:Qhd n a0 t3 t4 sa ta2 ta3 sb=some r):Rl (ZJ cx.P 7 1) 227 0 false (Qht a0 t3 t4 sa ta2 ta3) sb r:=by
 unfold Qhd at h
 rcases io h with ⟨hb1,h⟩ | ⟨hb1,h⟩
 ·obtain ⟨tb2,hb2,h⟩:=bo h;obtain ⟨hb3,h⟩:=gd h
  rcases io h with ⟨hb4,h⟩ | ⟨hb4,h⟩
  ·rcases io h with ⟨hb5,h⟩ | ⟨hb5,h⟩
   ·cases h
   obtain ⟨hb6,h⟩:=gd h;obtain ⟨tb7,hb7,h⟩:=bo h
   rcases io h with ⟨hb8,h⟩ | ⟨hb8,h⟩
   ·cases h
    exact rn 59 [b1,.el (QP tb2),b0,b0,b1,.ret (I tb7),b0] [] [0,3,6,7,9,11,12,51,52,53,73,74,75] [10,23,36] (Qa hb3 (Qa (nef hb8) (Qa (Qfx hb7) (Qa hb6 (Qa (QA hb5) (Qa (nef hb4) (Qa hb3 (allE Ql hb2 (Qa (jDj hb1) QL)))))))))
   cases h
  cases h
 cases h
 exact rx 59 [b0] [] [0,3,6,7,9,11,12,51,52,53] [10,23,36] (Qa (jEj hb1) QL)
def Qhc (n:Nat) (a0:jVj) (t3:Int×Int×Bool×Bool×Int×Int×Int×jVj×jVj×jVj×Int×Int) (t4:Int×Int×Int) (sa:(Int×Int)):Option (((Int×Int))⊕((Int))) :=
 if sa.2 < ((t3.2.2.2.2.2.2.2.2.1).length:Int) then
  (el QM t3.2.2.2.2.2.2.2.2.1 sa.2).bind fun ta2 =>
  (Ei n a0 ta2.1).bind fun ta3 =>
  if ta3.2=0 then
   if ((ta3.1).length:Int) > ((a0).length:Int) then
    none
   else
   (Q2 (Qhd n a0 t3 t4 sa ta2 ta3) n 0).bind fun ta6 =>
   (XE n ta3.1).bind fun ta7 =>
   (Ei n ta3.1 ta2.1).bind fun ta8 =>
   (Yh n ta3.1 t3.1).bind fun ta9 =>
   if ta7.2.2.2.2.2.2.2.2.2.2.2=0 then
    if ta8.2=0 then
     if ta9.2.2=0 then
      (Qd1 n ta8.1 ta3.1).bind fun ta13 =>
      if ta13=true then
       if ((ta7.2.2.2.2.2.2.2.2.1).length:Int)=1 then
        (el QM ta7.2.2.2.2.2.2.2.2.1 0).bind fun ta16 =>
        if ((ta16.1 == ta2.1) && ((ta16.2.1 == ta2.2.1) && ((ta16.2.2.1 == ta2.2.2.1) && ((ta16.2.2.2.1 == ta2.2.2.2.1) && ((ta16.2.2.2.2.1 == ta2.2.2.2.2.1) && ((ta16.2.2.2.2.2 == ta2.2.2.2.2.2) && true))))))=true then
         if ta7.2.1=t3.2.1 then
          if (!(ta7.2.2.1 == t3.2.2.1))=true then
           none
          else
          if (!(ta7.2.2.2.1 == t3.2.2.2.1))=true then
           none
          else
          if Qh (sa.1+ta9.1) then
          if Qh (sa.2+1) then
          some (.inl ((sa.1+ta9.1),(sa.2+1)))
          else none
          else none
         else
         none
        else
        none
       else
       none
      else
      none
     else
     none
    else
    none
   else
   none
  else
  none
 else
 some (.inr sa.1)
noncomputable def Qhs (a0:jVj) (t3:Int×Int×Bool×Bool×Int×Int×Int×jVj×jVj×jVj×Int×Int) (t4:Int×Int×Int):Lp ((Int×Int)) ((Int)):=⟨fun sa=>[(0,.d (.lst false 5 a0)),(3,.ptr 10 0 0 0 0),(6,.d (I t3.1)),(7,.ptr 23 0 0 0 0),(9,.d (I sa.1)),(51,.d (.lst false 6 t3.2.2.2.2.2.2.2.2.1)),(52,.d (I ((t3.2.2.2.2.2.2.2.2.1).length:Int))),(53,.d (I sa.2))],fun _=>[(10,.box (.d (.agg [I t3.1,I t3.2.1,B t3.2.2.1,B t3.2.2.2.1,I t3.2.2.2.2.1,I t3.2.2.2.2.2.1,I t3.2.2.2.2.2.2.1,.lst false 1 t3.2.2.2.2.2.2.2.1,.lst false 6 t3.2.2.2.2.2.2.2.2.1,.lst false 7 t3.2.2.2.2.2.2.2.2.2.1]))),(23,.box (.d (.agg [I t4.1,I t4.2.1])))],fun _=>(.exit 0),fun e=>[(0,.d (.lst false 5 a0)),(3,.ptr 10 0 0 0 0),(7,.ptr 23 0 0 0 0),(9,.d (I e))],fun _=>[(10,.box (.d (.agg [I t3.1,I t3.2.1,B t3.2.2.1,B t3.2.2.2.1,I t3.2.2.2.2.1,I t3.2.2.2.2.2.1,I t3.2.2.2.2.2.2.1,.lst false 1 t3.2.2.2.2.2.2.2.1,.lst false 6 t3.2.2.2.2.2.2.2.2.1,.lst false 7 t3.2.2.2.2.2.2.2.2.2.1]))),(23,.box (.d (.agg [I t4.1,I t4.2.1])))]⟩
theorem Qhp {n:Nat} {a0:jVj} {t3:Int×Int×Bool×Bool×Int×Int×Int×jVj×jVj×jVj×Int×Int} {t4:Int×Int×Int} (sa:(Int×Int)) (r) (h:Qhc n a0 t3 t4 sa=some r):Rl (ZJ cx.P 7 0) 227 0 false (Qhs a0 t3 t4) sa r:=by
 unfold Qhc at h
 rcases io h with ⟨ha1,h⟩ | ⟨ha1,h⟩
 ·obtain ⟨ta2,ha2,h⟩:=bo h;obtain ⟨ta3,ha3,h⟩:=bo h
  rcases io h with ⟨ha4,h⟩ | ⟨ha4,h⟩
  ·rcases io h with ⟨ha5,h⟩ | ⟨ha5,h⟩
   ·cases h
   obtain ⟨ta6,ha6,h⟩:=bo h;obtain ⟨ta7,ha7,h⟩:=bo h;obtain ⟨ta8,ha8,h⟩:=bo h;obtain ⟨ta9,ha9,h⟩:=bo h
   rcases io h with ⟨ha10,h⟩ | ⟨ha10,h⟩
   ·rcases io h with ⟨ha11,h⟩ | ⟨ha11,h⟩
    ·rcases io h with ⟨ha12,h⟩ | ⟨ha12,h⟩
     ·obtain ⟨ta13,ha13,h⟩:=bo h
      rcases io h with ⟨ha14,h⟩ | ⟨ha14,h⟩
      ·rcases io h with ⟨ha15,h⟩ | ⟨ha15,h⟩
       ·obtain ⟨ta16,ha16,h⟩:=bo h
        rcases io h with ⟨ha17,h⟩ | ⟨ha17,h⟩
        ·rcases io h with ⟨ha18,h⟩ | ⟨ha18,h⟩
         ·rcases io h with ⟨ha19,h⟩ | ⟨ha19,h⟩
          ·cases h
          rcases io h with ⟨ha20,h⟩ | ⟨ha20,h⟩
          ·cases h
          obtain ⟨ha21,h⟩:=gd h;obtain ⟨ha22,h⟩:=gd h
          cases h
          exact rn 33 [b1,.el (QB ta2),.ret (.tup [.lst false 5 ta3.1,I ta3.2]),b0,b0,.lp [] [0,3,6,7,9,11,12,51,52,53,73,74,75] [10,23,36] (.exit 2) [(0,.d (.lst false 5 a0)),(3,.ptr 10 0 0 0 0),(6,.d (I t3.1)),(7,.ptr 23 0 0 0 0),(9,.d (I sa.1)),(11,.ptr 36 0 0 0 0),(12,.d (.lst false 5 ta3.1)),(51,.d (.lst false 6 t3.2.2.2.2.2.2.2.2.1)),(52,.d (I ((t3.2.2.2.2.2.2.2.2.1).length:Int))),(53,.d (I sa.2))] [(10,.box (.d (.agg [I t3.1,I t3.2.1,B t3.2.2.1,B t3.2.2.2.1,I t3.2.2.2.2.1,I t3.2.2.2.2.2.1,I t3.2.2.2.2.2.2.1,.lst false 1 t3.2.2.2.2.2.2.2.1,.lst false 6 t3.2.2.2.2.2.2.2.2.1,.lst false 7 t3.2.2.2.2.2.2.2.2.2.1]))),(23,.box (.d (.agg [I t4.1,I t4.2.1]))),(36,.box (.d (.agg [.v (.string ta2.1),.v (.string ta2.2.1),I ta2.2.2.1,I ta2.2.2.2.1,B ta2.2.2.2.2.1,B ta2.2.2.2.2.2])))] 97,.ret (.tup [.agg [I ta7.1,I ta7.2.1,B ta7.2.2.1,B ta7.2.2.2.1,I ta7.2.2.2.2.1,I ta7.2.2.2.2.2.1,I ta7.2.2.2.2.2.2.1,.lst false 1 ta7.2.2.2.2.2.2.2.1,.lst false 6 ta7.2.2.2.2.2.2.2.2.1,.lst false 7 ta7.2.2.2.2.2.2.2.2.2.1],I ta7.2.2.2.2.2.2.2.2.2.2.1,I ta7.2.2.2.2.2.2.2.2.2.2.2]),.ret (.tup [.lst false 5 ta8.1,I ta8.2]),.ret (.tup [.agg [I ta9.1,I ta9.2.1],I ta9.2.2]),b0,b0,b0,.ret (B ta13),b0,b0,.el (QB ta16),b0,b0,b0,b0] [] [0,3,6,7,9,51,52,53] [10,23] (Qa ha22 (Qa ha21 (Qa (QA ha20) (Qa (QA ha19) (Qa (nef ha18) (Qa (Ud ha17) (allE Qq ha16 (Qa (nef ha15) (Qa (Ud ha14) (Qa (Qee ha13) (Qa (nef ha12) (Qa (nef ha11) (Qa (nef ha10) (Qa (Xw ha9) (Qa (jK ha8) (Qa (jl ha7) (Qa (QH Qhq ha6) (Qa (jEj ha5) (Qa (nef ha4) (Qa (jK ha3) (allE Qq ha2 (Qa (jDj ha1) QL))))))))))))))))))))))
         cases h
        cases h
       cases h
      cases h
     cases h
    cases h
   cases h
  cases h
 cases h
 exact rx 33 [b0] [] [0,3,7,9] [10,23] (Qa (jEj ha1) QL)
def Qhb (n:Nat) (a0:jVj) (t3:Int×Int×Bool×Bool×Int×Int×Int×jVj×jVj×jVj×Int×Int) (t4:Int×Int×Int) (t6:Int) (sa:(Int×Int×Int)):Option (((Int×Int×Int))⊕((Int×Int))) :=
 if sa.1 < ((t3.2.2.2.2.2.2.2.1).length:Int) then
  (el Ww t3.2.2.2.2.2.2.2.1 sa.1).bind fun ta2 =>
  (XD n a0 ta2).bind fun ta3 =>
  if ta3.2.2=0 then
   if Qh (sa.2.1+ta3.1) then
   if Qh (sa.2.2+ta3.2.1) then
   if Qh (sa.1+1) then
   some (.inl ((sa.1+1),(sa.2.1+ta3.1),(sa.2.2+ta3.2.1)))
   else none
   else none
   else none
  else
  none
 else
 some (.inr (sa.2.1,sa.2.2))
noncomputable def Qhr (a0:jVj) (t3:Int×Int×Bool×Bool×Int×Int×Int×jVj×jVj×jVj×Int×Int) (t4:Int×Int×Int) (t6:Int):Lp ((Int×Int×Int)) ((Int×Int)):=⟨fun sa=>[(0,.d (.lst false 5 a0)),(3,.ptr 10 0 0 0 0),(7,.ptr 23 0 0 0 0),(9,.d (I t6)),(23,.ptr 194 0 0 0 0),(175,.d (.lst false 1 t3.2.2.2.2.2.2.2.1)),(176,.d (I ((t3.2.2.2.2.2.2.2.1).length:Int))),(177,.d (I sa.1))],fun sa=>[(10,.box (.d (.agg [I t3.1,I t3.2.1,B t3.2.2.1,B t3.2.2.2.1,I t3.2.2.2.2.1,I t3.2.2.2.2.2.1,I t3.2.2.2.2.2.2.1,.lst false 1 t3.2.2.2.2.2.2.2.1,.lst false 6 t3.2.2.2.2.2.2.2.2.1,.lst false 7 t3.2.2.2.2.2.2.2.2.2.1]))),(23,.box (.d (.agg [I t4.1,I t4.2.1]))),(194,.box (.d (.agg [I sa.2.1,I sa.2.2])))],fun _=>(.exit 4),fun _=>[(0,.d (.lst false 5 a0)),(3,.ptr 10 0 0 0 0),(7,.ptr 23 0 0 0 0),(9,.d (I t6)),(23,.ptr 194 0 0 0 0)],fun e=>[(10,.box (.d (.agg [I t3.1,I t3.2.1,B t3.2.2.1,B t3.2.2.2.1,I t3.2.2.2.2.1,I t3.2.2.2.2.2.1,I t3.2.2.2.2.2.2.1,.lst false 1 t3.2.2.2.2.2.2.2.1,.lst false 6 t3.2.2.2.2.2.2.2.2.1,.lst false 7 t3.2.2.2.2.2.2.2.2.2.1]))),(23,.box (.d (.agg [I t4.1,I t4.2.1]))),(194,.box (.d (.agg [I e.1,I e.2])))]⟩
theorem Qho {n:Nat} {a0:jVj} {t3:Int×Int×Bool×Bool×Int×Int×Int×jVj×jVj×jVj×Int×Int} {t4:Int×Int×Int} {t6:Int} (sa:(Int×Int×Int)) (r) (h:Qhb n a0 t3 t4 t6 sa=some r):Rl (ZJ cx.P 7 2) 227 0 false (Qhr a0 t3 t4 t6) sa r:=by
 unfold Qhb at h
 rcases io h with ⟨ha1,h⟩ | ⟨ha1,h⟩
 ·obtain ⟨ta2,ha2,h⟩:=bo h;obtain ⟨ta3,ha3,h⟩:=bo h
  rcases io h with ⟨ha4,h⟩ | ⟨ha4,h⟩
  ·obtain ⟨ha5,h⟩:=gd h;obtain ⟨ha6,h⟩:=gd h;obtain ⟨ha7,h⟩:=gd h
   cases h
   exact rn 199 [b1,.el (Zy ta2),.ret (.tup [.agg [I ta3.1,I ta3.2.1],I ta3.2.2]),b0] [] [0,3,7,9,23,175,176,177] [10,23,194] (Qa ha7 (Qa ha6 (Qa ha5 (Qa (nef ha4) (Qa (jk ha3) (allE Qr ha2 (Qa (jDj ha1) QL)))))))
  cases h
 cases h
 exact rx 199 [b0] [] [0,3,7,9,23] [10,23,194] (Qa (jEj ha1) QL)
def Qhg (n:Nat) (a0:jVj):Option (Bool) :=
 (Qe7 n a0 18).bind fun t1 =>
 if t1=true then
  (Vo n a0).bind fun t3 =>
  (Yh n a0 t3.1).bind fun t4 =>
  if t4.2.2=0 then
   (Q2 (Qhc n a0 t3 t4) n (0,0)).bind fun t6 =>
   (Q2 (Qhb n a0 t3 t4 t6) n (0,0,0)).bind fun t7 =>
   (YH n a0).bind fun t8 =>
   if t8.2=0 then
    if t6=t4.1 then
     if ((t7.1 == ((t3.2.2.2.2.2.2.2.2.1).length:Int)) && ((t7.2 == ((t8.1).length:Int)) && true))=true then
      (WI n).bind fun t12 =>
      some t12
     else
     none
    else
    none
   else
   none
  else
  none
 else
 (WI n).bind fun t3 =>
 some t3
theorem Qhx {n:Nat} {a0:jVj} {r:Bool} (h:Qhg n a0=some r):Computes cx 7 [.lst false 5 a0] (B r):=by
 unfold Qhg at h
 obtain ⟨t1,h1,h⟩:=bo h
 have q:=Qa (Qfv h1) QL
 rcases io h with ⟨h2,h⟩ | ⟨h2,h⟩
 ·obtain ⟨t3,h3,h⟩:=bo h;obtain ⟨t4,h4,h⟩:=bo h
  rcases io h with ⟨h5,h⟩ | ⟨h5,h⟩
  ·obtain ⟨t6,h6,h⟩:=bo h;obtain ⟨t7,h7,h⟩:=bo h;obtain ⟨t8,h8,h⟩:=bo h
   rcases io h with ⟨h9,h⟩ | ⟨h9,h⟩
   ·rcases io h with ⟨h10,h⟩ | ⟨h10,h⟩
    ·rcases io h with ⟨h11,h⟩ | ⟨h11,h⟩
     ·obtain ⟨t12,h12,h⟩:=bo h;obtain rfl:=oi h
      exact rf [.ret (B t1),b0,.ret (.tup [.agg [I t3.1,I t3.2.1,B t3.2.2.1,B t3.2.2.2.1,I t3.2.2.2.2.1,I t3.2.2.2.2.2.1,I t3.2.2.2.2.2.2.1,.lst false 1 t3.2.2.2.2.2.2.2.1,.lst false 6 t3.2.2.2.2.2.2.2.2.1,.lst false 7 t3.2.2.2.2.2.2.2.2.2.1],I t3.2.2.2.2.2.2.2.2.2.2.1,I t3.2.2.2.2.2.2.2.2.2.2.2]),.ret (.tup [.agg [I t4.1,I t4.2.1],I t4.2.2]),b0,.lp [] [0,3,6,7,9,51,52,53] [10,23] (.exit 0) [(0,.d (.lst false 5 a0)),(3,.ptr 10 0 0 0 0),(7,.ptr 23 0 0 0 0),(9,.d (I t6))] [(10,.box (.d (.agg [I t3.1,I t3.2.1,B t3.2.2.1,B t3.2.2.2.1,I t3.2.2.2.2.1,I t3.2.2.2.2.2.1,I t3.2.2.2.2.2.2.1,.lst false 1 t3.2.2.2.2.2.2.2.1,.lst false 6 t3.2.2.2.2.2.2.2.2.1,.lst false 7 t3.2.2.2.2.2.2.2.2.2.1]))),(23,.box (.d (.agg [I t4.1,I t4.2.1])))] 194,.lp [] [0,3,7,9,23,175,176,177] [10,23,194] (.exit 4) [(0,.d (.lst false 5 a0)),(3,.ptr 10 0 0 0 0),(7,.ptr 23 0 0 0 0),(9,.d (I t6)),(23,.ptr 194 0 0 0 0)] [(10,.box (.d (.agg [I t3.1,I t3.2.1,B t3.2.2.1,B t3.2.2.2.1,I t3.2.2.2.2.1,I t3.2.2.2.2.2.1,I t3.2.2.2.2.2.2.1,.lst false 1 t3.2.2.2.2.2.2.2.1,.lst false 6 t3.2.2.2.2.2.2.2.2.1,.lst false 7 t3.2.2.2.2.2.2.2.2.2.1]))),(23,.box (.d (.agg [I t4.1,I t4.2.1]))),(194,.box (.d (.agg [I t7.1,I t7.2])))] 239,.ret (.tup [.lst false 1 t8.1,I t8.2]),b1,b1,b1,.ret (B t12)] (Qa (YE h12) (Qa h11 (Qa (eqt h10) (Qa (eqt h9) (Qa (Ed h8) (Qa (QH Qho h7) (Qa (QH Qhp h6) (Qa (nef h5) (Qa (Xw h4) (Qa (je h3) (Qa (Ud h2) q)))))))))))
     cases h
    cases h
   cases h
  cases h
 obtain ⟨t3,h3,h⟩:=bo h;obtain rfl:=oi h
 exact rf [.ret (B t1),b1,.ret (B t3)] (Qa (YE h3) (Qa (Uc (QA h2)) q))
end Go.Proofs.YtljabneifpkbjaaGreatDoor
