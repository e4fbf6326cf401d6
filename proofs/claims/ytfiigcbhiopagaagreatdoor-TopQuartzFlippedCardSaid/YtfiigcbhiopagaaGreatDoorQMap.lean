/- Own texts. -/
import Derived.Test.YtfiigcbhiopagaaGreatDoorFlip1
import GoSem.Conv.FloatToFloat
import GoSem.Conv.FloatToInt
import GoSem.Op.FloatArith
set_option linter.unusedVariables false
set_option linter.unusedSimpArgs false
set_option linter.unnecessarySimpa false
set_option maxRecDepth 10000
set_option maxHeartbeats 4000000
namespace Go.Proofs.YtfiigcbhiopagaaGreatDoor
open Go.SX
def Wj (n:Nat) (t3:List D) (sa sb:Int×List D×List D) (sc:(Int×List D×List D)):Option (((Int×List D×List D))⊕((List D×List D))) :=
 if sc.1 < 4 then
  if sc.1=0 then
   if 0≤sb.1∧sb.1 < ((sc.2.2).length:Int) then
   ((nth (sc.2.2) (Int.toNat sb.1)).bind ZP).bind fun tc4 =>
   (QE n tc4.1 tc4.2 (-1) 0).bind fun tc5 =>
   if mok (.agg #[.int .i64 tc5.1,.int .i64 tc5.2]) (sc.2.1:List D)=true then
   if (QD (.agg #[.int .i64 tc5.1,.int .i64 tc5.2]) (sc.2.1:List D)).isSome=true then
    ((QD (.agg #[.int .i64 tc5.1,.int .i64 tc5.2]) (sc.2.1:List D)).bind Kx).bind fun tc8 =>
    if tc8=true then
     if ZZ 16 ((sc.2.2).length+1) then
     if Qb (sc.1+1) then
     some (.inl ((sc.1+1),(Qw (.agg #[.int .i64 tc5.1,.int .i64 tc5.2]) (B false) (sc.2.1:List D)),(sc.2.2++([.agg [I tc5.1,I tc5.2]]:List D))))
     else none
     else none
    else
    if Qb (sc.1+1) then
    some (.inl ((sc.1+1),sc.2.1,sc.2.2))
    else none
   else
   if Qb (sc.1+1) then
   some (.inl ((sc.1+1),sc.2.1,sc.2.2))
   else none
   else none
   else none
  else
  if sc.1=1 then
   if 0≤sb.1∧sb.1 < ((sc.2.2).length:Int) then
   ((nth (sc.2.2) (Int.toNat sb.1)).bind ZP).bind fun tc5 =>
   (QE n tc5.1 tc5.2 1 0).bind fun tc6 =>
   if mok (.agg #[.int .i64 tc6.1,.int .i64 tc6.2]) (sc.2.1:List D)=true then
   if (QD (.agg #[.int .i64 tc6.1,.int .i64 tc6.2]) (sc.2.1:List D)).isSome=true then
    ((QD (.agg #[.int .i64 tc6.1,.int .i64 tc6.2]) (sc.2.1:List D)).bind Kx).bind fun tc9 =>
    if tc9=true then
     if ZZ 16 ((sc.2.2).length+1) then
     if Qb (sc.1+1) then
     some (.inl ((sc.1+1),(Qw (.agg #[.int .i64 tc6.1,.int .i64 tc6.2]) (B false) (sc.2.1:List D)),(sc.2.2++([.agg [I tc6.1,I tc6.2]]:List D))))
     else none
     else none
    else
    if Qb (sc.1+1) then
    some (.inl ((sc.1+1),sc.2.1,sc.2.2))
    else none
   else
   if Qb (sc.1+1) then
   some (.inl ((sc.1+1),sc.2.1,sc.2.2))
   else none
   else none
   else none
  else
  if sc.1=2 then
   if 0≤sb.1∧sb.1 < ((sc.2.2).length:Int) then
   ((nth (sc.2.2) (Int.toNat sb.1)).bind ZP).bind fun tc6 =>
   (QE n tc6.1 tc6.2 0 (-1)).bind fun tc7 =>
   if mok (.agg #[.int .i64 tc7.1,.int .i64 tc7.2]) (sc.2.1:List D)=true then
   if (QD (.agg #[.int .i64 tc7.1,.int .i64 tc7.2]) (sc.2.1:List D)).isSome=true then
    ((QD (.agg #[.int .i64 tc7.1,.int .i64 tc7.2]) (sc.2.1:List D)).bind Kx).bind fun tc10 =>
    if tc10=true then
     if ZZ 16 ((sc.2.2).length+1) then
     if Qb (sc.1+1) then
     some (.inl ((sc.1+1),(Qw (.agg #[.int .i64 tc7.1,.int .i64 tc7.2]) (B false) (sc.2.1:List D)),(sc.2.2++([.agg [I tc7.1,I tc7.2]]:List D))))
     else none
     else none
    else
    if Qb (sc.1+1) then
    some (.inl ((sc.1+1),sc.2.1,sc.2.2))
    else none
   else
   if Qb (sc.1+1) then
   some (.inl ((sc.1+1),sc.2.1,sc.2.2))
   else none
   else none
   else none
  else
  if sc.1=3 then
  if 0≤sb.1∧sb.1 < ((sc.2.2).length:Int) then
  ((nth (sc.2.2) (Int.toNat sb.1)).bind ZP).bind fun tc7 =>
  (QE n tc7.1 tc7.2 0 1).bind fun tc8 =>
  if mok (.agg #[.int .i64 tc8.1,.int .i64 tc8.2]) (sc.2.1:List D)=true then
  if (QD (.agg #[.int .i64 tc8.1,.int .i64 tc8.2]) (sc.2.1:List D)).isSome=true then
   ((QD (.agg #[.int .i64 tc8.1,.int .i64 tc8.2]) (sc.2.1:List D)).bind Kx).bind fun tc11 =>
   if tc11=true then
    if ZZ 16 ((sc.2.2).length+1) then
    if Qb (sc.1+1) then
    some (.inl ((sc.1+1),(Qw (.agg #[.int .i64 tc8.1,.int .i64 tc8.2]) (B false) (sc.2.1:List D)),(sc.2.2++([.agg [I tc8.1,I tc8.2]]:List D))))
    else none
    else none
   else
   if Qb (sc.1+1) then
   some (.inl ((sc.1+1),sc.2.1,sc.2.2))
   else none
  else
  if Qb (sc.1+1) then
  some (.inl ((sc.1+1),sc.2.1,sc.2.2))
  else none
  else none
  else none
  else none
 else
 some (.inr (sc.2.1,sc.2.2))
noncomputable def za (t3:List D) (sa sb:Int×List D×List D) (sc:(Int×List D×List D)):List (Nat×AV):=[(8,.own 13 0),(11,.own 43 0),(14,.own 60 0),(15,.d (I sb.1)),(39,.d (.lst false 2 t3)),(40,.d (I ((t3).length:Int))),(41,.d (I sa.1)),(59,.d (.agg [I (-1),I 0,I 1,I 0,I 0,I (-1),I 0,I 1])),(60,.d (I sc.1))]
noncomputable def zo (t3:List D) (sa sb:Int×List D×List D) (sc:(Int×List D×List D)):List (Nat×Blk):=[(13,.mp sc.2.1),(43,.row 0 1 sa.2.2),(60,.row 0 2 sc.2.2)]
noncomputable def qL (t3:List D) (sa sb:Int×List D×List D) (e:(List D×List D)):Ex:=(.exit 6)
noncomputable def EI (t3:List D) (sa sb:Int×List D×List D) (e:(List D×List D)):List (Nat×AV):=[(8,.own 13 0),(11,.own 43 0),(14,.own 60 0),(15,.d (I sb.1)),(39,.d (.lst false 2 t3)),(40,.d (I ((t3).length:Int))),(41,.d (I sa.1))]
noncomputable def EP (t3:List D) (sa sb:Int×List D×List D) (e:(List D×List D)):List (Nat×Blk):=[(13,.mp e.1),(43,.row 0 1 sa.2.2),(60,.row 0 2 e.2)]
theorem zi {n:Nat} {t3:List D} {sa sb:Int×List D×List D} (sc:(Int×List D×List D)) (r) (h:Wj n t3 sa sb sc=some r):Rd cx (Qs cx.P 11 3) 93 0 false (za t3 sa sb) (zo t3 sa sb) (qL t3 sa sb) (EI t3 sa sb) (EP t3 sa sb) sc r:=by
 unfold Wj at h
 by_cases hc1:sc.1 < 4
 ·replace h:=Qj h hc1
  by_cases hc2:sc.1=0
  ·replace h:=Qj h hc2
   obtain ⟨hc3,h⟩:=Qf h
   obtain ⟨tc4,hc4,h⟩:=Qe h
   obtain ⟨tc5,hc5,h⟩:=Qe h
   obtain ⟨hc6,h⟩:=Qf h
   by_cases hc7:(QD (.agg #[.int .i64 tc5.1,.int .i64 tc5.2]) (sc.2.1:List D)).isSome=true
   ·replace h:=Qj h hc7
    obtain ⟨tc8,hc8,h⟩:=Qe h
    by_cases hc9:tc8=true
    ·replace h:=Qj h hc9
     obtain ⟨hc10,h⟩:=Qf h
     obtain ⟨hc11,h⟩:=Qf h
     replace h:=Option.some.inj h
     subst h
     exact ⟨100,67,[.br true,.ix 0,.br true,.el (.agg [I tc4.1,I tc4.2]),.ret (.agg [I tc5.1,I tc5.2]),.el (B tc8),.br true,.br true,.br true],[],[8,11,14,15,39,40,41,59,60],[13,43,60],Qg (ob:=[Qb (sc.1+1),room cx 30 ((sc.2.2).length+1),mok (.agg #[.int .i64 tc5.1,.int .i64 tc5.2]) (sc.2.1:List D)=true,tc8=true,QU false (.agg #[.int .i64 tc5.1,.int .i64 tc5.2]) (B false) (sc.2.1:List D)=some (B tc8),Computes cx 32 [.agg [I tc4.1,I tc4.2],.agg [I (-1),I 0]] (.agg [I tc5.1,I tc5.2]),nth (sc.2.2) (Int.toNat sb.1)=some (.agg [I tc4.1,I tc4.2]),0≤sb.1∧sb.1 < ((sc.2.2).length:Int),sc.1=0,(decide (sc.1 < 4))=true]) (by kernel_rfl) ⟨hc11,(QT (b:=16) (by kernel_rfl) (by decide) hc10),hc6,hc9,(Qy hc6 (ZD Zl hc8)),(Qq hc5),ZQ Qi hc4,hc3,hc2,(decide_eq_true hc1),trivial⟩⟩
    ·replace h:=Qk h hc9
     obtain ⟨hc10,h⟩:=Qf h
     replace h:=Option.some.inj h
     subst h
     exact ⟨100,67,[.br true,.ix 0,.br true,.el (.agg [I tc4.1,I tc4.2]),.ret (.agg [I tc5.1,I tc5.2]),.el (B tc8),.br false],[],[8,11,14,15,39,40,41,59,60],[13,43,60],Qg (ob:=[Qb (sc.1+1),tc8=false,QU false (.agg #[.int .i64 tc5.1,.int .i64 tc5.2]) (B false) (sc.2.1:List D)=some (B tc8),Computes cx 32 [.agg [I tc4.1,I tc4.2],.agg [I (-1),I 0]] (.agg [I tc5.1,I tc5.2]),nth (sc.2.2) (Int.toNat sb.1)=some (.agg [I tc4.1,I tc4.2]),0≤sb.1∧sb.1 < ((sc.2.2).length:Int),sc.1=0,(decide (sc.1 < 4))=true]) (by kernel_rfl) ⟨hc10,(QJ hc9),(Qy hc6 (ZD Zl hc8)),(Qq hc5),ZQ Qi hc4,hc3,hc2,(decide_eq_true hc1),trivial⟩⟩
   ·replace h:=Qk h hc7
    obtain ⟨hc8,h⟩:=Qf h
    replace h:=Option.some.inj h
    subst h
    exact ⟨100,67,[.br true,.ix 0,.br true,.el (.agg [I tc4.1,I tc4.2]),.ret (.agg [I tc5.1,I tc5.2]),.el (B false),.no],[],[8,11,14,15,39,40,41,59,60],[13,43,60],Qg (ob:=[Qb (sc.1+1),QU false (.agg #[.int .i64 tc5.1,.int .i64 tc5.2]) (B false) (sc.2.1:List D)=some (B false),Computes cx 32 [.agg [I tc4.1,I tc4.2],.agg [I (-1),I 0]] (.agg [I tc5.1,I tc5.2]),nth (sc.2.2) (Int.toNat sb.1)=some (.agg [I tc4.1,I tc4.2]),0≤sb.1∧sb.1 < ((sc.2.2).length:Int),sc.1=0,(decide (sc.1 < 4))=true]) (by kernel_rfl) ⟨hc8,(Q0 hc6 (mno hc7)),(Qq hc5),ZQ Qi hc4,hc3,hc2,(decide_eq_true hc1),trivial⟩⟩
  ·replace h:=Qk h hc2
   by_cases hc3:sc.1=1
   ·replace h:=Qj h hc3
    obtain ⟨hc4,h⟩:=Qf h
    obtain ⟨tc5,hc5,h⟩:=Qe h
    obtain ⟨tc6,hc6,h⟩:=Qe h
    obtain ⟨hc7,h⟩:=Qf h
    by_cases hc8:(QD (.agg #[.int .i64 tc6.1,.int .i64 tc6.2]) (sc.2.1:List D)).isSome=true
    ·replace h:=Qj h hc8
     obtain ⟨tc9,hc9,h⟩:=Qe h
     by_cases hc10:tc9=true
     ·replace h:=Qj h hc10
      obtain ⟨hc11,h⟩:=Qf h
      obtain ⟨hc12,h⟩:=Qf h
      replace h:=Option.some.inj h
      subst h
      exact ⟨100,67,[.br true,.ix 1,.br true,.el (.agg [I tc5.1,I tc5.2]),.ret (.agg [I tc6.1,I tc6.2]),.el (B tc9),.br true,.br true,.br true],[],[8,11,14,15,39,40,41,59,60],[13,43,60],Qg (ob:=[Qb (sc.1+1),room cx 30 ((sc.2.2).length+1),mok (.agg #[.int .i64 tc6.1,.int .i64 tc6.2]) (sc.2.1:List D)=true,tc9=true,QU false (.agg #[.int .i64 tc6.1,.int .i64 tc6.2]) (B false) (sc.2.1:List D)=some (B tc9),Computes cx 32 [.agg [I tc5.1,I tc5.2],.agg [I 1,I 0]] (.agg [I tc6.1,I tc6.2]),nth (sc.2.2) (Int.toNat sb.1)=some (.agg [I tc5.1,I tc5.2]),0≤sb.1∧sb.1 < ((sc.2.2).length:Int),sc.1=1,(decide (sc.1 < 4))=true]) (by kernel_rfl) ⟨hc12,(QT (b:=16) (by kernel_rfl) (by decide) hc11),hc7,hc10,(Qy hc7 (ZD Zl hc9)),(Qq hc6),ZQ Qi hc5,hc4,hc3,(decide_eq_true hc1),trivial⟩⟩
     ·replace h:=Qk h hc10
      obtain ⟨hc11,h⟩:=Qf h
      replace h:=Option.some.inj h
      subst h
      exact ⟨100,67,[.br true,.ix 1,.br true,.el (.agg [I tc5.1,I tc5.2]),.ret (.agg [I tc6.1,I tc6.2]),.el (B tc9),.br false],[],[8,11,14,15,39,40,41,59,60],[13,43,60],Qg (ob:=[Qb (sc.1+1),tc9=false,QU false (.agg #[.int .i64 tc6.1,.int .i64 tc6.2]) (B false) (sc.2.1:List D)=some (B tc9),Computes cx 32 [.agg [I tc5.1,I tc5.2],.agg [I 1,I 0]] (.agg [I tc6.1,I tc6.2]),nth (sc.2.2) (Int.toNat sb.1)=some (.agg [I tc5.1,I tc5.2]),0≤sb.1∧sb.1 < ((sc.2.2).length:Int),sc.1=1,(decide (sc.1 < 4))=true]) (by kernel_rfl) ⟨hc11,(QJ hc10),(Qy hc7 (ZD Zl hc9)),(Qq hc6),ZQ Qi hc5,hc4,hc3,(decide_eq_true hc1),trivial⟩⟩
    ·replace h:=Qk h hc8
     obtain ⟨hc9,h⟩:=Qf h
     replace h:=Option.some.inj h
     subst h
     exact ⟨100,67,[.br true,.ix 1,.br true,.el (.agg [I tc5.1,I tc5.2]),.ret (.agg [I tc6.1,I tc6.2]),.el (B false),.no],[],[8,11,14,15,39,40,41,59,60],[13,43,60],Qg (ob:=[Qb (sc.1+1),QU false (.agg #[.int .i64 tc6.1,.int .i64 tc6.2]) (B false) (sc.2.1:List D)=some (B false),Computes cx 32 [.agg [I tc5.1,I tc5.2],.agg [I 1,I 0]] (.agg [I tc6.1,I tc6.2]),nth (sc.2.2) (Int.toNat sb.1)=some (.agg [I tc5.1,I tc5.2]),0≤sb.1∧sb.1 < ((sc.2.2).length:Int),sc.1=1,(decide (sc.1 < 4))=true]) (by kernel_rfl) ⟨hc9,(Q0 hc7 (mno hc8)),(Qq hc6),ZQ Qi hc5,hc4,hc3,(decide_eq_true hc1),trivial⟩⟩
   ·replace h:=Qk h hc3
    by_cases hc4:sc.1=2
    ·replace h:=Qj h hc4
     obtain ⟨hc5,h⟩:=Qf h
     obtain ⟨tc6,hc6,h⟩:=Qe h
     obtain ⟨tc7,hc7,h⟩:=Qe h
     obtain ⟨hc8,h⟩:=Qf h
     by_cases hc9:(QD (.agg #[.int .i64 tc7.1,.int .i64 tc7.2]) (sc.2.1:List D)).isSome=true
     ·replace h:=Qj h hc9
      obtain ⟨tc10,hc10,h⟩:=Qe h
      by_cases hc11:tc10=true
      ·replace h:=Qj h hc11
       obtain ⟨hc12,h⟩:=Qf h
       obtain ⟨hc13,h⟩:=Qf h
       replace h:=Option.some.inj h
       subst h
       exact ⟨100,67,[.br true,.ix 2,.br true,.el (.agg [I tc6.1,I tc6.2]),.ret (.agg [I tc7.1,I tc7.2]),.el (B tc10),.br true,.br true,.br true],[],[8,11,14,15,39,40,41,59,60],[13,43,60],Qg (ob:=[Qb (sc.1+1),room cx 30 ((sc.2.2).length+1),mok (.agg #[.int .i64 tc7.1,.int .i64 tc7.2]) (sc.2.1:List D)=true,tc10=true,QU false (.agg #[.int .i64 tc7.1,.int .i64 tc7.2]) (B false) (sc.2.1:List D)=some (B tc10),Computes cx 32 [.agg [I tc6.1,I tc6.2],.agg [I 0,I (-1)]] (.agg [I tc7.1,I tc7.2]),nth (sc.2.2) (Int.toNat sb.1)=some (.agg [I tc6.1,I tc6.2]),0≤sb.1∧sb.1 < ((sc.2.2).length:Int),sc.1=2,(decide (sc.1 < 4))=true]) (by kernel_rfl) ⟨hc13,(QT (b:=16) (by kernel_rfl) (by decide) hc12),hc8,hc11,(Qy hc8 (ZD Zl hc10)),(Qq hc7),ZQ Qi hc6,hc5,hc4,(decide_eq_true hc1),trivial⟩⟩
      ·replace h:=Qk h hc11
       obtain ⟨hc12,h⟩:=Qf h
       replace h:=Option.some.inj h
       subst h
       exact ⟨100,67,[.br true,.ix 2,.br true,.el (.agg [I tc6.1,I tc6.2]),.ret (.agg [I tc7.1,I tc7.2]),.el (B tc10),.br false],[],[8,11,14,15,39,40,41,59,60],[13,43,60],Qg (ob:=[Qb (sc.1+1),tc10=false,QU false (.agg #[.int .i64 tc7.1,.int .i64 tc7.2]) (B false) (sc.2.1:List D)=some (B tc10),Computes cx 32 [.agg [I tc6.1,I tc6.2],.agg [I 0,I (-1)]] (.agg [I tc7.1,I tc7.2]),nth (sc.2.2) (Int.toNat sb.1)=some (.agg [I tc6.1,I tc6.2]),0≤sb.1∧sb.1 < ((sc.2.2).length:Int),sc.1=2,(decide (sc.1 < 4))=true]) (by kernel_rfl) ⟨hc12,(QJ hc11),(Qy hc8 (ZD Zl hc10)),(Qq hc7),ZQ Qi hc6,hc5,hc4,(decide_eq_true hc1),trivial⟩⟩
     ·replace h:=Qk h hc9
      obtain ⟨hc10,h⟩:=Qf h
      replace h:=Option.some.inj h
      subst h
      exact ⟨100,67,[.br true,.ix 2,.br true,.el (.agg [I tc6.1,I tc6.2]),.ret (.agg [I tc7.1,I tc7.2]),.el (B false),.no],[],[8,11,14,15,39,40,41,59,60],[13,43,60],Qg (ob:=[Qb (sc.1+1),QU false (.agg #[.int .i64 tc7.1,.int .i64 tc7.2]) (B false) (sc.2.1:List D)=some (B false),Computes cx 32 [.agg [I tc6.1,I tc6.2],.agg [I 0,I (-1)]] (.agg [I tc7.1,I tc7.2]),nth (sc.2.2) (Int.toNat sb.1)=some (.agg [I tc6.1,I tc6.2]),0≤sb.1∧sb.1 < ((sc.2.2).length:Int),sc.1=2,(decide (sc.1 < 4))=true]) (by kernel_rfl) ⟨hc10,(Q0 hc8 (mno hc9)),(Qq hc7),ZQ Qi hc6,hc5,hc4,(decide_eq_true hc1),trivial⟩⟩
    ·replace h:=Qk h hc4
     obtain ⟨hc5,h⟩:=Qf h
     obtain ⟨hc6,h⟩:=Qf h
     obtain ⟨tc7,hc7,h⟩:=Qe h
     obtain ⟨tc8,hc8,h⟩:=Qe h
     obtain ⟨hc9,h⟩:=Qf h
     by_cases hc10:(QD (.agg #[.int .i64 tc8.1,.int .i64 tc8.2]) (sc.2.1:List D)).isSome=true
     ·replace h:=Qj h hc10
      obtain ⟨tc11,hc11,h⟩:=Qe h
      by_cases hc12:tc11=true
      ·replace h:=Qj h hc12
       obtain ⟨hc13,h⟩:=Qf h
       obtain ⟨hc14,h⟩:=Qf h
       replace h:=Option.some.inj h
       subst h
       exact ⟨100,67,[.br true,.ix 3,.br true,.el (.agg [I tc7.1,I tc7.2]),.ret (.agg [I tc8.1,I tc8.2]),.el (B tc11),.br true,.br true,.br true],[],[8,11,14,15,39,40,41,59,60],[13,43,60],Qg (ob:=[Qb (sc.1+1),room cx 30 ((sc.2.2).length+1),mok (.agg #[.int .i64 tc8.1,.int .i64 tc8.2]) (sc.2.1:List D)=true,tc11=true,QU false (.agg #[.int .i64 tc8.1,.int .i64 tc8.2]) (B false) (sc.2.1:List D)=some (B tc11),Computes cx 32 [.agg [I tc7.1,I tc7.2],.agg [I 0,I 1]] (.agg [I tc8.1,I tc8.2]),nth (sc.2.2) (Int.toNat sb.1)=some (.agg [I tc7.1,I tc7.2]),0≤sb.1∧sb.1 < ((sc.2.2).length:Int),sc.1=3,(decide (sc.1 < 4))=true]) (by kernel_rfl) ⟨hc14,(QT (b:=16) (by kernel_rfl) (by decide) hc13),hc9,hc12,(Qy hc9 (ZD Zl hc11)),(Qq hc8),ZQ Qi hc7,hc6,hc5,(decide_eq_true hc1),trivial⟩⟩
      ·replace h:=Qk h hc12
       obtain ⟨hc13,h⟩:=Qf h
       replace h:=Option.some.inj h
       subst h
       exact ⟨100,67,[.br true,.ix 3,.br true,.el (.agg [I tc7.1,I tc7.2]),.ret (.agg [I tc8.1,I tc8.2]),.el (B tc11),.br false],[],[8,11,14,15,39,40,41,59,60],[13,43,60],Qg (ob:=[Qb (sc.1+1),tc11=false,QU false (.agg #[.int .i64 tc8.1,.int .i64 tc8.2]) (B false) (sc.2.1:List D)=some (B tc11),Computes cx 32 [.agg [I tc7.1,I tc7.2],.agg [I 0,I 1]] (.agg [I tc8.1,I tc8.2]),nth (sc.2.2) (Int.toNat sb.1)=some (.agg [I tc7.1,I tc7.2]),0≤sb.1∧sb.1 < ((sc.2.2).length:Int),sc.1=3,(decide (sc.1 < 4))=true]) (by kernel_rfl) ⟨hc13,(QJ hc12),(Qy hc9 (ZD Zl hc11)),(Qq hc8),ZQ Qi hc7,hc6,hc5,(decide_eq_true hc1),trivial⟩⟩
     ·replace h:=Qk h hc10
      obtain ⟨hc11,h⟩:=Qf h
      replace h:=Option.some.inj h
      subst h
      exact ⟨100,67,[.br true,.ix 3,.br true,.el (.agg [I tc7.1,I tc7.2]),.ret (.agg [I tc8.1,I tc8.2]),.el (B false),.no],[],[8,11,14,15,39,40,41,59,60],[13,43,60],Qg (ob:=[Qb (sc.1+1),QU false (.agg #[.int .i64 tc8.1,.int .i64 tc8.2]) (B false) (sc.2.1:List D)=some (B false),Computes cx 32 [.agg [I tc7.1,I tc7.2],.agg [I 0,I 1]] (.agg [I tc8.1,I tc8.2]),nth (sc.2.2) (Int.toNat sb.1)=some (.agg [I tc7.1,I tc7.2]),0≤sb.1∧sb.1 < ((sc.2.2).length:Int),sc.1=3,(decide (sc.1 < 4))=true]) (by kernel_rfl) ⟨hc11,(Q0 hc9 (mno hc10)),(Qq hc8),ZQ Qi hc7,hc6,hc5,(decide_eq_true hc1),trivial⟩⟩
 ·replace h:=Qk h hc1
  replace h:=Option.some.inj h
  subst h
  exact ⟨⟨100,67,[.br false],[],[8,11,14,15,39,40,41],[13,43,60],Qg (ob:=[(decide (sc.1 < 4))=false]) (by kernel_rfl) ⟨(decide_eq_false hc1),trivial⟩⟩,nofun⟩
def Za (n:Nat) (t3:List D) (sa:Int×List D×List D) (ta2:Int×Int) (sb:(Int)⊕(Int×List D×List D)):Option (((Int)⊕(Int×List D×List D))⊕((Unit)⊕(List D×List D))):=match sb with
 | (.inl sb)=>(
  if sb < 1 then
   (Qz (QZ n t3 sa ta2 sb) n (.inl 0)).bind fun tb2=>match tb2 with
    | (.inl tb2)=>(
     if Qb (sb+1) then
     some (.inl (.inl (sb+1)))
     else none)
    | (.inr tb2)=>(
     if Qb (sb+1) then
     some (.inl (.inr ((sb+1),tb2.1,tb2.2)))
     else none)
  else
  some (.inr (.inl ())))
 | (.inr sb)=>(
  if sb.1 < ((sb.2.2).length:Int) then
   (Qz (Wj n t3 sa sb) n (0,sb.2.1,sb.2.2)).bind fun tb2 =>
   if Qb (sb.1+1) then
   some (.inl (.inr ((sb.1+1),tb2.1,tb2.2)))
   else none
  else
  some (.inr (.inr (sb.2.1,sb.2.2))))
noncomputable def qZ (t3:List D) (sa:Int×List D×List D) (ta2:Int×Int) (sb:(Int)⊕(Int×List D×List D)):List (Nat×AV):=match sb with
 | (.inl sb)=>[(8,.own 13 0),(11,.own 43 0),(14,.own 60 0),(15,.d (I sb)),(39,.d (.lst false 2 t3)),(40,.d (I ((t3).length:Int))),(41,.d (I sa.1))]
 | (.inr sb)=>[(8,.own 13 0),(11,.own 43 0),(14,.own 60 0),(15,.d (I sb.1)),(39,.d (.lst false 2 t3)),(40,.d (I ((t3).length:Int))),(41,.d (I sa.1))]
noncomputable def zn (t3:List D) (sa:Int×List D×List D) (ta2:Int×Int) (sb:(Int)⊕(Int×List D×List D)):List (Nat×Blk):=match sb with
 | (.inl sb)=>[(13,.mp (Qw (.agg #[.int .i64 ta2.1,.int .i64 ta2.2]) (B false) (sa.2.1:List D))),(43,.row 0 1 sa.2.2),(60,.virt 0 2 [.agg [I ta2.1,I ta2.2]])]
 | (.inr sb)=>[(13,.mp sb.2.1),(43,.row 0 1 sa.2.2),(60,.row 0 2 sb.2.2)]
noncomputable def qK (t3:List D) (sa:Int×List D×List D) (ta2:Int×Int) (e:(Unit)⊕(List D×List D)):Ex:=match e with
 | (.inl e)=>(.exit 4)
 | (.inr e)=>(.exit 4)
noncomputable def EH (t3:List D) (sa:Int×List D×List D) (ta2:Int×Int) (e:(Unit)⊕(List D×List D)):List (Nat×AV):=match e with
 | (.inl e)=>[(8,.own 13 0),(11,.own 43 0),(14,.own 60 0),(39,.d (.lst false 2 t3)),(40,.d (I ((t3).length:Int))),(41,.d (I sa.1))]
 | (.inr e)=>[(8,.own 13 0),(11,.own 43 0),(14,.own 60 0),(39,.d (.lst false 2 t3)),(40,.d (I ((t3).length:Int))),(41,.d (I sa.1))]
noncomputable def EO (t3:List D) (sa:Int×List D×List D) (ta2:Int×Int) (e:(Unit)⊕(List D×List D)):List (Nat×Blk):=match e with
 | (.inl e)=>[(13,.mp (Qw (.agg #[.int .i64 ta2.1,.int .i64 ta2.2]) (B false) (sa.2.1:List D))),(43,.row 0 1 sa.2.2),(60,.virt 0 2 [.agg [I ta2.1,I ta2.2]])]
 | (.inr e)=>[(13,.mp e.1),(43,.row 0 1 sa.2.2),(60,.row 0 2 e.2)]
theorem KY {n:Nat} {t3:List D} {sa:Int×List D×List D} {ta2:Int×Int} (sb:(Int)⊕(Int×List D×List D)) (r) (h:Za n t3 sa ta2 sb=some r):Rd cx (Qs cx.P 11 2) 93 0 false (qZ t3 sa ta2) (zn t3 sa ta2) (qK t3 sa ta2) (EH t3 sa ta2) (EO t3 sa ta2) sb r:=by
 unfold Za at h
 rcases sb with sb | sb
 ·by_cases hb1:sb < 1
  ·replace h:=Qj h hb1
   obtain ⟨tb2,hb2,h⟩:=Qe h
   rcases tb2 with tb2 | tb2
   ·obtain ⟨hb3,h⟩:=Qf h
    replace h:=Option.some.inj h
    subst h
    exact ⟨100,61,[.br true,.lp [] [8,11,14,15,39,40,41,59,60] [13,43,60] (.exit 6) [(8,.own 13 0),(11,.own 43 0),(14,.own 60 0),(15,.d (I sb)),(39,.d (.lst false 2 t3)),(40,.d (I ((t3).length:Int))),(41,.d (I sa.1))] [(13,.mp (Qw (.agg #[.int .i64 ta2.1,.int .i64 ta2.2]) (B false) (sa.2.1:List D))),(43,.row 0 1 sa.2.2),(60,.virt 0 2 [.agg [I ta2.1,I ta2.2]])] 103],[],[8,11,14,15,39,40,41],[13,43,60],Qg (ob:=[Qb (sb+1),QM cx (Qs cx.P 11 3) 93 0 false [(8,.own 13 0),(11,.own 43 0),(14,.own 60 0),(15,.d (I sb)),(39,.d (.lst false 2 t3)),(40,.d (I ((t3).length:Int))),(41,.d (I sa.1)),(59,.d (.agg [I (-1),I 0,I 1,I 0,I 0,I (-1),I 0,I 1])),(60,.d (I 0))] [(13,.mp (Qw (.agg #[.int .i64 ta2.1,.int .i64 ta2.2]) (B false) (sa.2.1:List D))),(43,.row 0 1 sa.2.2),(60,.virt 0 2 [.agg [I ta2.1,I ta2.2]])] (.exit 6) [(8,.own 13 0),(11,.own 43 0),(14,.own 60 0),(15,.d (I sb)),(39,.d (.lst false 2 t3)),(40,.d (I ((t3).length:Int))),(41,.d (I sa.1))] [(13,.mp (Qw (.agg #[.int .i64 ta2.1,.int .i64 ta2.2]) (B false) (sa.2.1:List D))),(43,.row 0 1 sa.2.2),(60,.virt 0 2 [.agg [I ta2.1,I ta2.2]])],(decide (sb < 1))=true]) (by kernel_rfl) ⟨hb3,(Qu KZ hb2),(decide_eq_true hb1),trivial⟩⟩
   ·obtain ⟨hb3,h⟩:=Qf h
    replace h:=Option.some.inj h
    subst h
    exact ⟨100,61,[.br true,.lp [] [8,11,14,15,39,40,41,59,60] [13,43,60] (.exit 6) [(8,.own 13 0),(11,.own 43 0),(14,.own 60 0),(15,.d (I sb)),(39,.d (.lst false 2 t3)),(40,.d (I ((t3).length:Int))),(41,.d (I sa.1))] [(13,.mp tb2.1),(43,.row 0 1 sa.2.2),(60,.row 0 2 tb2.2)] 103],[],[8,11,14,15,39,40,41],[13,43,60],Qg (ob:=[Qb (sb+1),QM cx (Qs cx.P 11 3) 93 0 false [(8,.own 13 0),(11,.own 43 0),(14,.own 60 0),(15,.d (I sb)),(39,.d (.lst false 2 t3)),(40,.d (I ((t3).length:Int))),(41,.d (I sa.1)),(59,.d (.agg [I (-1),I 0,I 1,I 0,I 0,I (-1),I 0,I 1])),(60,.d (I 0))] [(13,.mp (Qw (.agg #[.int .i64 ta2.1,.int .i64 ta2.2]) (B false) (sa.2.1:List D))),(43,.row 0 1 sa.2.2),(60,.virt 0 2 [.agg [I ta2.1,I ta2.2]])] (.exit 6) [(8,.own 13 0),(11,.own 43 0),(14,.own 60 0),(15,.d (I sb)),(39,.d (.lst false 2 t3)),(40,.d (I ((t3).length:Int))),(41,.d (I sa.1))] [(13,.mp tb2.1),(43,.row 0 1 sa.2.2),(60,.row 0 2 tb2.2)],(decide (sb < 1))=true]) (by kernel_rfl) ⟨hb3,(Qu KZ hb2),(decide_eq_true hb1),trivial⟩⟩
  ·replace h:=Qk h hb1
   replace h:=Option.some.inj h
   subst h
   exact ⟨⟨100,61,[.br false],[],[8,11,14,39,40,41],[13,43,60],Qg (ob:=[(decide (sb < 1))=false]) (by kernel_rfl) ⟨(decide_eq_false hb1),trivial⟩⟩,nofun⟩
 ·by_cases hb1:sb.1 < ((sb.2.2).length:Int)
  ·replace h:=Qj h hb1
   obtain ⟨tb2,hb2,h⟩:=Qe h
   obtain ⟨hb3,h⟩:=Qf h
   replace h:=Option.some.inj h
   subst h
   exact ⟨100,61,[.br true,.lp [] [8,11,14,15,39,40,41,59,60] [13,43,60] (.exit 6) [(8,.own 13 0),(11,.own 43 0),(14,.own 60 0),(15,.d (I sb.1)),(39,.d (.lst false 2 t3)),(40,.d (I ((t3).length:Int))),(41,.d (I sa.1))] [(13,.mp tb2.1),(43,.row 0 1 sa.2.2),(60,.row 0 2 tb2.2)] 103],[],[8,11,14,15,39,40,41],[13,43,60],Qg (ob:=[Qb (sb.1+1),QM cx (Qs cx.P 11 3) 93 0 false [(8,.own 13 0),(11,.own 43 0),(14,.own 60 0),(15,.d (I sb.1)),(39,.d (.lst false 2 t3)),(40,.d (I ((t3).length:Int))),(41,.d (I sa.1)),(59,.d (.agg [I (-1),I 0,I 1,I 0,I 0,I (-1),I 0,I 1])),(60,.d (I 0))] [(13,.mp sb.2.1),(43,.row 0 1 sa.2.2),(60,.row 0 2 sb.2.2)] (.exit 6) [(8,.own 13 0),(11,.own 43 0),(14,.own 60 0),(15,.d (I sb.1)),(39,.d (.lst false 2 t3)),(40,.d (I ((t3).length:Int))),(41,.d (I sa.1))] [(13,.mp tb2.1),(43,.row 0 1 sa.2.2),(60,.row 0 2 tb2.2)],(decide (sb.1 < ((sb.2.2).length:Int)))=true]) (by kernel_rfl) ⟨hb3,(Qu zi hb2),(decide_eq_true hb1),trivial⟩⟩
  ·replace h:=Qk h hb1
   replace h:=Option.some.inj h
   subst h
   exact ⟨⟨100,61,[.br false],[],[8,11,14,39,40,41],[13,43,60],Qg (ob:=[(decide (sb.1 < ((sb.2.2).length:Int)))=false]) (by kernel_rfl) ⟨(decide_eq_false hb1),trivial⟩⟩,nofun⟩
def ZH (n:Nat) (t3:List D) (sa:(Int×List D×List D)):Option (((Int×List D×List D))⊕((List D))) :=
 if sa.1 < ((t3).length:Int) then
  (el ZP t3 sa.1).bind fun ta2 =>
  if mok (.agg #[.int .i64 ta2.1,.int .i64 ta2.2]) (sa.2.1:List D)=true then
  if (QD (.agg #[.int .i64 ta2.1,.int .i64 ta2.2]) (sa.2.1:List D)).isSome=true then
   ((QD (.agg #[.int .i64 ta2.1,.int .i64 ta2.2]) (sa.2.1:List D)).bind Kx).bind fun ta5 =>
   if ta5=true then
    (Qz (Za n t3 sa ta2) n (.inl 0)).bind fun ta7=>match ta7 with
     | (.inl ta7)=>(
      if WQ [.agg [I ta2.1,I ta2.2]]=false then
      (Zt n [.agg [I ta2.1,I ta2.2]]).bind fun ta9 =>
      if ZZ 24 ((sa.2.2).length+1) then
      if Qb (sa.1+1) then
      some (.inl ((sa.1+1),(Qw (.agg #[.int .i64 ta2.1,.int .i64 ta2.2]) (B false) (sa.2.1:List D)),(sa.2.2++([.lst false 2 ta9]:List D))))
      else none
      else none
      else none)
     | (.inr ta7)=>(
      if 0≤((ta7.2).length:Int)∧((ta7.2).length:Int)≤((ta7.2).length:Int)∧16 * ((ta7.2).length:Int)≤281474976710656∧((ta7.2).length:Int)≤9223372036854775807 then
      if WQ (ta7.2.take ((List.replicate (Int.toNat ((ta7.2).length:Int)) (.agg [I 0,I 0]:D)):List D).length++(List.replicate (Int.toNat ((ta7.2).length:Int)) (.agg [I 0,I 0]:D)).drop (ta7.2).length)=false then
      (Zt n (ta7.2.take ((List.replicate (Int.toNat ((ta7.2).length:Int)) (.agg [I 0,I 0]:D)):List D).length++(List.replicate (Int.toNat ((ta7.2).length:Int)) (.agg [I 0,I 0]:D)).drop (ta7.2).length)).bind fun ta10 =>
      if ZZ 24 ((sa.2.2).length+1) then
      if Qb (sa.1+1) then
      some (.inl ((sa.1+1),ta7.1,(sa.2.2++([.lst false 2 ta10]:List D))))
      else none
      else none
      else none
      else none)
   else
   if Qb (sa.1+1) then
   some (.inl ((sa.1+1),sa.2.1,sa.2.2))
   else none
  else
  if Qb (sa.1+1) then
  some (.inl ((sa.1+1),sa.2.1,sa.2.2))
  else none
  else none
 else
 some (.inr sa.2.2)
noncomputable def ET (t3:List D) (sa:(Int×List D×List D)):List (Nat×AV):=[(8,.own 13 0),(11,.own 43 0),(39,.d (.lst false 2 t3)),(40,.d (I ((t3).length:Int))),(41,.d (I sa.1))]
noncomputable def EY (t3:List D) (sa:(Int×List D×List D)):List (Nat×Blk):=[(13,.mp sa.2.1),(43,.row 0 1 sa.2.2)]
noncomputable def ED (t3:List D) (e:(List D)):Ex:=(.exit 2)
noncomputable def XV (t3:List D) (e:(List D)):List (Nat×AV):=[(11,.own 43 0)]
noncomputable def XX (t3:List D) (e:(List D)):List (Nat×Blk):=[(43,.row 0 1 e)]
theorem EW {n:Nat} {t3:List D} (sa:(Int×List D×List D)) (r) (h:ZH n t3 sa=some r):Rd cx (Qs cx.P 11 1) 93 0 false (ET t3) (EY t3) (ED t3) (XV t3) (XX t3) sa r:=by
 unfold ZH at h
 by_cases ha1:sa.1 < ((t3).length:Int)
 ·replace h:=Qj h ha1
  obtain ⟨ta2,ha2,h⟩:=Qe h
  obtain ⟨ha3,h⟩:=Qf h
  by_cases ha4:(QD (.agg #[.int .i64 ta2.1,.int .i64 ta2.2]) (sa.2.1:List D)).isSome=true
  ·replace h:=Qj h ha4
   obtain ⟨ta5,ha5,h⟩:=Qe h
   by_cases ha6:ta5=true
   ·replace h:=Qj h ha6
    obtain ⟨ta7,ha7,h⟩:=Qe h
    rcases ta7 with ta7 | ta7
    ·obtain ⟨ha8,h⟩:=Qf h
     obtain ⟨ta9,ha9,h⟩:=Qe h
     obtain ⟨ha10,h⟩:=Qf h
     obtain ⟨ha11,h⟩:=Qf h
     replace h:=Option.some.inj h
     subst h
     exact ⟨100,44,[.br true,.el (.agg [I ta2.1,I ta2.2]),.el (B ta5),.br false,.br true,.lp [14,0] [8,11,14,15,39,40,41] [13,43,60] (.exit 4) [(8,.own 13 0),(11,.own 43 0),(14,.own 60 0),(39,.d (.lst false 2 t3)),(40,.d (I ((t3).length:Int))),(41,.d (I sa.1))] [(13,.mp (Qw (.agg #[.int .i64 ta2.1,.int .i64 ta2.2]) (B false) (sa.2.1:List D))),(43,.row 0 1 sa.2.2),(60,.virt 0 2 [.agg [I ta2.1,I ta2.2]])] 117,.no,.obj (some 119) (.d (.tup [])) [.row 2 ta9] [],.br true],[],[8,11,39,40,41],[13,43],Qg (ob:=[Qb (sa.1+1),room cx 50 ((sa.2.2).length+1),EU cx 33 2 [.agg [I ta2.1,I ta2.2]] [.fn (.func 34) [] []] ta9,([.agg [I ta2.1,I ta2.2]]:List D)≠[],QM cx (Qs cx.P 11 2) 93 0 false [(8,.own 13 0),(11,.own 43 0),(14,.own 60 0),(15,.d (I 0)),(39,.d (.lst false 2 t3)),(40,.d (I ((t3).length:Int))),(41,.d (I sa.1))] [(13,.mp (Qw (.agg #[.int .i64 ta2.1,.int .i64 ta2.2]) (B false) (sa.2.1:List D))),(43,.row 0 1 sa.2.2),(60,.virt 0 2 [.agg [I ta2.1,I ta2.2]])] (.exit 4) [(8,.own 13 0),(11,.own 43 0),(14,.own 60 0),(39,.d (.lst false 2 t3)),(40,.d (I ((t3).length:Int))),(41,.d (I sa.1))] [(13,.mp (Qw (.agg #[.int .i64 ta2.1,.int .i64 ta2.2]) (B false) (sa.2.1:List D))),(43,.row 0 1 sa.2.2),(60,.virt 0 2 [.agg [I ta2.1,I ta2.2]])],mok (.agg #[.int .i64 ta2.1,.int .i64 ta2.2]) (sa.2.1:List D)=true,(!ta5)=false,QU false (.agg #[.int .i64 ta2.1,.int .i64 ta2.2]) (B false) (sa.2.1:List D)=some (B ta5),(0:Int)≤sa.1,nth (t3) (Int.toNat sa.1)=some (.agg [I ta2.1,I ta2.2]),(decide (sa.1 < ((t3).length:Int)))=true]) (by kernel_rfl) ⟨ha11,(QT (b:=24) (by kernel_rfl) (by decide) ha10),(Uj ha9),(nnil ha8),(Qu KY ha7),ha3,(yl ha6),(Qy ha3 (ZD Zl ha5)),(Qp Qi ha2).1,(Qp Qi ha2).2,(decide_eq_true ha1),trivial⟩⟩
    ·obtain ⟨ha8,h⟩:=Qf h
     obtain ⟨ha9,h⟩:=Qf h
     obtain ⟨ta10,ha10,h⟩:=Qe h
     obtain ⟨ha11,h⟩:=Qf h
     obtain ⟨ha12,h⟩:=Qf h
     replace h:=Option.some.inj h
     subst h
     exact ⟨100,44,[.br true,.el (.agg [I ta2.1,I ta2.2]),.el (B ta5),.br false,.br true,.lp [14,0] [8,11,14,15,39,40,41] [13,43,60] (.exit 4) [(8,.own 13 0),(11,.own 43 0),(14,.own 60 0),(39,.d (.lst false 2 t3)),(40,.d (I ((t3).length:Int))),(41,.d (I sa.1))] [(13,.mp ta7.1),(43,.row 0 1 sa.2.2),(60,.row 0 2 ta7.2)] 117,.br true,.obj (some 119) (.d (.tup [])) [.row 2 ta10] [],.br true],[],[8,11,39,40,41],[13,43],Qg (ob:=[Qb (sa.1+1),room cx 50 ((sa.2.2).length+1),EU cx 33 2 (ta7.2.take ((List.replicate (Int.toNat ((ta7.2).length:Int)) (.agg [I 0,I 0]:D)):List D).length++(List.replicate (Int.toNat ((ta7.2).length:Int)) (.agg [I 0,I 0]:D)).drop (ta7.2).length) [.fn (.func 34) [] []] ta10,((ta7.2.take ((List.replicate (Int.toNat ((ta7.2).length:Int)) (.agg [I 0,I 0]:D)):List D).length++(List.replicate (Int.toNat ((ta7.2).length:Int)) (.agg [I 0,I 0]:D)).drop (ta7.2).length))≠[],0≤((ta7.2).length:Int)∧((ta7.2).length:Int)≤((ta7.2).length:Int)∧16 * ((ta7.2).length:Int)≤281474976710656∧((ta7.2).length:Int)≤9223372036854775807,QM cx (Qs cx.P 11 2) 93 0 false [(8,.own 13 0),(11,.own 43 0),(14,.own 60 0),(15,.d (I 0)),(39,.d (.lst false 2 t3)),(40,.d (I ((t3).length:Int))),(41,.d (I sa.1))] [(13,.mp (Qw (.agg #[.int .i64 ta2.1,.int .i64 ta2.2]) (B false) (sa.2.1:List D))),(43,.row 0 1 sa.2.2),(60,.virt 0 2 [.agg [I ta2.1,I ta2.2]])] (.exit 4) [(8,.own 13 0),(11,.own 43 0),(14,.own 60 0),(39,.d (.lst false 2 t3)),(40,.d (I ((t3).length:Int))),(41,.d (I sa.1))] [(13,.mp ta7.1),(43,.row 0 1 sa.2.2),(60,.row 0 2 ta7.2)],mok (.agg #[.int .i64 ta2.1,.int .i64 ta2.2]) (sa.2.1:List D)=true,(!ta5)=false,QU false (.agg #[.int .i64 ta2.1,.int .i64 ta2.2]) (B false) (sa.2.1:List D)=some (B ta5),(0:Int)≤sa.1,nth (t3) (Int.toNat sa.1)=some (.agg [I ta2.1,I ta2.2]),(decide (sa.1 < ((t3).length:Int)))=true]) (by kernel_rfl) ⟨ha12,(QT (b:=24) (by kernel_rfl) (by decide) ha11),(Uj ha10),(nnil ha9),ha8,(Qu KY ha7),ha3,(yl ha6),(Qy ha3 (ZD Zl ha5)),(Qp Qi ha2).1,(Qp Qi ha2).2,(decide_eq_true ha1),trivial⟩⟩
   ·replace h:=Qk h ha6
    obtain ⟨ha7,h⟩:=Qf h
    replace h:=Option.some.inj h
    subst h
    exact ⟨100,44,[.br true,.el (.agg [I ta2.1,I ta2.2]),.el (B ta5),.br true],[],[8,11,39,40,41],[13,43],Qg (ob:=[Qb (sa.1+1),(!ta5)=true,QU false (.agg #[.int .i64 ta2.1,.int .i64 ta2.2]) (B false) (sa.2.1:List D)=some (B ta5),(0:Int)≤sa.1,nth (t3) (Int.toNat sa.1)=some (.agg [I ta2.1,I ta2.2]),(decide (sa.1 < ((t3).length:Int)))=true]) (by kernel_rfl) ⟨ha7,(nott (QJ ha6)),(Qy ha3 (ZD Zl ha5)),(Qp Qi ha2).1,(Qp Qi ha2).2,(decide_eq_true ha1),trivial⟩⟩
  ·replace h:=Qk h ha4
   obtain ⟨ha5,h⟩:=Qf h
   replace h:=Option.some.inj h
   subst h
   exact ⟨100,44,[.br true,.el (.agg [I ta2.1,I ta2.2]),.el (B false),.no],[],[8,11,39,40,41],[13,43],Qg (ob:=[Qb (sa.1+1),QU false (.agg #[.int .i64 ta2.1,.int .i64 ta2.2]) (B false) (sa.2.1:List D)=some (B false),(0:Int)≤sa.1,nth (t3) (Int.toNat sa.1)=some (.agg [I ta2.1,I ta2.2]),(decide (sa.1 < ((t3).length:Int)))=true]) (by kernel_rfl) ⟨ha5,(Q0 ha3 (mno ha4)),(Qp Qi ha2).1,(Qp Qi ha2).2,(decide_eq_true ha1),trivial⟩⟩
 ·replace h:=Qk h ha1
  replace h:=Option.some.inj h
  subst h
  exact ⟨⟨100,44,[.br false],[],[11],[43],Qg (ob:=[(decide (sa.1 < ((t3).length:Int)))=false]) (by kernel_rfl) ⟨(decide_eq_false ha1),trivial⟩⟩,nofun⟩
def WG (n:Nat) (a0 a1:Int) (a2:List D) (a3:Nat):Option (List D×Int) :=
 (Wi n a0 a1 a2 a3).bind fun t1 =>
 if t1=0 then
  (VQ n a0 a1 a2 a3).bind fun t3 =>
  (Qz (ZV n t3) n (0,[])).bind fun t4 =>
  (Qz (ZH n t3) n (0,t4,[])).bind fun t5 =>
  some (t5,0)
 else
 some ([],t1)
theorem W1 {n:Nat} {a0 a1:Int} {a2:List D} {a3:Nat} {r:List D×Int} (h:WG n a0 a1 a2 a3=some r):Computes cx 11 [.agg [I a0,I a1,.lst false 1 a2],.v (.float .f32 a3)] (.tup [.lst false 1 r.1,I r.2]):=by
 unfold WG at h
 obtain ⟨t1,h1,h⟩:=Qe h
 by_cases h2:t1=0
 ·replace h:=Qj h h2
  obtain ⟨t3,h3,h⟩:=Qe h
  obtain ⟨t4,h4,h⟩:=Qe h
  obtain ⟨t5,h5,h⟩:=Qe h
  replace h:=Option.some.inj h
  subst h
  exact run (n:=100) (f:=11) (args:=[.agg [I a0,I a1,.lst false 1 a2],.v (.float .f32 a3)]) (orc:=[.ret (I t1),.br false,.ret (.lst false 2 t3),.lp [] [7,8,30,31,32] [13] (.exit 0) [(7,.d (.lst false 2 t3)),(8,.own 13 0)] [(13,.mp t4)] 39,.lp [11,1] [8,11,39,40,41] [13,43] (.exit 2) [(11,.own 43 0)] [(43,.row 0 1 t5)] 144]) (r:=.tup [.lst false 1 t5,I 0]) (ob:=[QM cx (Qs cx.P 11 1) 93 0 false [(8,.own 13 0),(11,.own 43 0),(39,.d (.lst false 2 t3)),(40,.d (I ((t3).length:Int))),(41,.d (I 0))] [(13,.mp t4),(43,.row 0 1 [])] (.exit 2) [(11,.own 43 0)] [(43,.row 0 1 t5)],QM cx (Qs cx.P 11 0) 93 0 false [(7,.d (.lst false 2 t3)),(8,.own 13 0),(30,.d (.lst false 2 t3)),(31,.d (I ((t3).length:Int))),(32,.d (I 0))] [(13,.mp [])] (.exit 0) [(7,.d (.lst false 2 t3)),(8,.own 13 0)] [(13,.mp t4)],Computes cx 31 [.agg [I a0,I a1,.lst false 1 a2],.v (.float .f32 a3)] (.lst false 2 t3),(t1 != 0)=false,Computes cx 30 [.agg [I a0,I a1,.lst false 1 a2],.v (.float .f32 a3)] (I t1)]) (by kernel_rfl) ⟨(Qu EW h5),(Qu zj h4),(qB h3),(nef h2),(Vt h1),trivial⟩
 ·replace h:=Qk h h2
  replace h:=Option.some.inj h
  subst h
  exact (run (n:=100) (f:=11) (args:=[.agg [I a0,I a1,.lst false 1 a2],.v (.float .f32 a3)]) (orc:=[.ret (I t1),.br true]) (r:=.tup [.lst true 0 [],I t1]) (ob:=[(t1 != 0)=true,Computes cx 30 [.agg [I a0,I a1,.lst false 1 a2],.v (.float .f32 a3)] (I t1)]) (by kernel_rfl) ⟨(net h2),(Vt h1),trivial⟩).le (LEs.refl _) (.tups (.cons (.nilF) (.cons (.refl _) (.nil))))
def Vn (n:Nat) (a0 a1:Int) (a2:List D) (a3:Nat):Option (Int×Int×Int) :=
 (Wi n a0 a1 a2 a3).bind fun t1 =>
 if t1=0 then
  (VQ n a0 a1 a2 a3).bind fun t3 =>
  (ZB n ((t3).length:Int) ((a2).length:Int)).bind fun t4 =>
  some (t4.1,t4.2,0)
 else
 some (0,0,t1)
theorem Y1 {n:Nat} {a0 a1:Int} {a2:List D} {a3:Nat} {r:Int×Int×Int} (h:Vn n a0 a1 a2 a3=some r):Computes cx 13 [.agg [I a0,I a1,.lst false 1 a2],.v (.float .f32 a3)] (.tup [.agg [I r.1,I r.2.1],I r.2.2]):=by
 unfold Vn at h
 obtain ⟨t1,h1,h⟩:=Qe h
 by_cases h2:t1=0
 ·replace h:=Qj h h2
  obtain ⟨t3,h3,h⟩:=Qe h
  obtain ⟨t4,h4,h⟩:=Qe h
  replace h:=Option.some.inj h
  subst h
  exact run (n:=100) (f:=13) (args:=[.agg [I a0,I a1,.lst false 1 a2],.v (.float .f32 a3)]) (orc:=[.ret (I t1),.br false,.ret (.lst false 2 t3),.ret (.agg [I t4.1,I t4.2])]) (r:=.tup [.agg [I t4.1,I t4.2],I 0]) (ob:=[Computes cx 35 [I ((t3).length:Int),I ((a2).length:Int)] (.agg [I t4.1,I t4.2]),Computes cx 31 [.agg [I a0,I a1,.lst false 1 a2],.v (.float .f32 a3)] (.lst false 2 t3),(t1 != 0)=false,Computes cx 30 [.agg [I a0,I a1,.lst false 1 a2],.v (.float .f32 a3)] (I t1)]) (by kernel_rfl) ⟨(G9 h4),(qB h3),(nef h2),(Vt h1),trivial⟩
 ·replace h:=Qk h h2
  replace h:=Option.some.inj h
  subst h
  exact run (n:=100) (f:=13) (args:=[.agg [I a0,I a1,.lst false 1 a2],.v (.float .f32 a3)]) (orc:=[.ret (I t1),.br true]) (r:=.tup [.agg [I 0,I 0],I t1]) (ob:=[(t1 != 0)=true,Computes cx 30 [.agg [I a0,I a1,.lst false 1 a2],.v (.float .f32 a3)] (I t1)]) (by kernel_rfl) ⟨(net h2),(Vt h1),trivial⟩
def Z1 (n:Nat) (t3:Int×Int×List D) (sa:(Int×Int)):Option (((Int×Int))⊕((Int))) :=
 if sa.2 < ((t3.2.2).length:Int) then
  if 0≤sa.2∧sa.2 < ((t3.2.2).length:Int) then
  ((nth (t3.2.2) (Int.toNat sa.2)).bind un_i).bind fun ta3 =>
  if Qb (sa.1+ta3) then
  if Qb (sa.2+1) then
  some (.inl ((sa.1+ta3),(sa.2+1)))
  else none
  else none
  else none
 else
 some (.inr sa.1)
noncomputable def wq (t3:Int×Int×List D) (sa:(Int×Int)):List (Nat×AV):=[(5,.d (I sa.1)),(15,.own 14 0),(16,.d (I ((t3.2.2).length:Int))),(17,.d (I sa.2))]
noncomputable def ww (t3:Int×Int×List D) (sa:(Int×Int)):List (Nat×Blk):=[(14,.row 0 1 t3.2.2)]
noncomputable def wk (t3:Int×Int×List D) (e:(Int)):Ex:=(.exit 0)
noncomputable def qQ (t3:Int×Int×List D) (e:(Int)):List (Nat×AV):=[(5,.d (I e))]
noncomputable def qU (t3:Int×Int×List D) (e:(Int)):List (Nat×Blk):=[]
theorem wt {n:Nat} {t3:Int×Int×List D} (sa:(Int×Int)) (r) (h:Z1 n t3 sa=some r):Rd cx (Qs cx.P 14 0) 26 0 false (wq t3) (ww t3) (wk t3) (qQ t3) (qU t3) sa r:=by
 unfold Z1 at h
 by_cases ha1:sa.2 < ((t3.2.2).length:Int)
 ·replace h:=Qj h ha1
  obtain ⟨ha2,h⟩:=Qf h
  obtain ⟨ta3,ha3,h⟩:=Qe h
  obtain ⟨ha4,h⟩:=Qf h
  obtain ⟨ha5,h⟩:=Qf h
  replace h:=Option.some.inj h
  subst h
  exact ⟨100,15,[.br true,.br true,.el (I ta3)],[],[5,15,16,17],[14],Qg (ob:=[Qb (sa.2+1),Qb (sa.1+ta3),nth (t3.2.2) (Int.toNat sa.2)=some (I ta3),0≤sa.2∧sa.2 < ((t3.2.2).length:Int),(decide (sa.2 < ((t3.2.2).length:Int)))=true]) (by kernel_rfl) ⟨ha5,ha4,ZQ QQ ha3,ha2,(decide_eq_true ha1),trivial⟩⟩
 ·replace h:=Qk h ha1
  replace h:=Option.some.inj h
  subst h
  exact ⟨⟨100,15,[.br false],[],[5],[],Qg (ob:=[(decide (sa.2 < ((t3.2.2).length:Int)))=false]) (by kernel_rfl) ⟨(decide_eq_false ha1),trivial⟩⟩,nofun⟩
def Vm (n:Nat) (a0 a1:Int) (a2:List D):Option (Int×Int) :=
 (Zq n a0 a1 a2).bind fun t1 =>
 if t1=0 then
  (Zh n a0 a1 a2).bind fun t3 =>
  (Qz (Z1 n t3) n (0,0)).bind fun t4 =>
  some (t4,0)
 else
 some (0,t1)
theorem Y0 {n:Nat} {a0 a1:Int} {a2:List D} {r:Int×Int} (h:Vm n a0 a1 a2=some r):Computes cx 14 [.agg [I a0,I a1,.lst false 1 a2]] (.tup [I r.1,I r.2]):=by
 unfold Vm at h
 obtain ⟨t1,h1,h⟩:=Qe h
 by_cases h2:t1=0
 ·replace h:=Qj h h2
  obtain ⟨t3,h3,h⟩:=Qe h
  obtain ⟨t4,h4,h⟩:=Qe h
  replace h:=Option.some.inj h
  subst h
  exact run (n:=100) (f:=14) (args:=[.agg [I a0,I a1,.lst false 1 a2]]) (orc:=[.ret (I t1),.br false,.obj none (.agg [.d (I t3.1),.d (I t3.2.1),.own 0 0]) [.row 1 t3.2.2] [true],.lp [] [5,15,16,17] [14] (.exit 0) [(5,.d (I t4))] [] 36]) (r:=.tup [I t4,I 0]) (ob:=[QM cx (Qs cx.P 14 0) 26 0 false [(5,.d (I 0)),(15,.own 14 0),(16,.d (I ((t3.2.2).length:Int))),(17,.d (I 0))] [(14,.row 0 1 t3.2.2)] (.exit 0) [(5,.d (I t4))] [],Z4 cx 24 [.agg [I a0,I a1,.lst false 1 a2]] 1 t3.2.2 (.agg [.d (I t3.1),.d (I t3.2.1),.own 0 0]),(t1 != 0)=false,Computes cx 23 [.agg [I a0,I a1,.lst false 1 a2]] (I t1)]) (by kernel_rfl) ⟨(Qu wt h4),(WV h3),(nef h2),(QL h1),trivial⟩
 ·replace h:=Qk h h2
  replace h:=Option.some.inj h
  subst h
  exact run (n:=100) (f:=14) (args:=[.agg [I a0,I a1,.lst false 1 a2]]) (orc:=[.ret (I t1),.br true]) (r:=.tup [I 0,I t1]) (ob:=[(t1 != 0)=true,Computes cx 23 [.agg [I a0,I a1,.lst false 1 a2]] (I t1)]) (by kernel_rfl) ⟨(net h2),(QL h1),trivial⟩
def Qfd (x:List D):D:=.lst false 2 x
def ju (d:D):Option (List D):=QbY 2 d
theorem Q9 {d:D} {x:List D} (h:ju d=some x):d=Qfd x:=Qdo h
def WB (n:Nat) (a0:List D) (a1 a2:Int) (sa:(Int)):Option (((Int))⊕((Unit)⊕(Unit))) :=
 if sa < ((a0).length:Int) then
  (el ZP a0 sa).bind fun ta2 =>
  if ((ta2.1 == a1) && ((ta2.2 == a2) && true))=true then
   some (.inr (.inl ()))
  else
  if Qb (sa+1) then
  some (.inl (sa+1))
  else none
 else
 some (.inr (.inr ()))
noncomputable def kX (a0:List D) (a1 a2:Int) (sa:(Int)):List (Nat×AV):=[(0,.d (.lst false 2 a0)),(3,.ptr 0 0 0 0 0),(5,.d (I sa))]
noncomputable def ya (a0:List D) (a1 a2:Int) (sa:(Int)):List (Nat×Blk):=[(0,.box (.d (.agg [I a1,I a2])))]
noncomputable def kS (a0:List D) (a1 a2:Int) (e:(Unit)⊕(Unit)):Ex:=match e with
 | (.inl e)=>.ret
 | (.inr e)=>(.exit 0)
noncomputable def wX (a0:List D) (a1 a2:Int) (e:(Unit)⊕(Unit)):List (Nat×AV):=match e with
 | (.inl e)=>[(4,.d (B true))]
 | (.inr e)=>[]
noncomputable def wZ (a0:List D) (a1 a2:Int) (e:(Unit)⊕(Unit)):List (Nat×Blk):=match e with
 | (.inl e)=>[]
 | (.inr e)=>[]
theorem Xk {n:Nat} {a0:List D} {a1 a2:Int} (sa:(Int)) (r) (h:WB n a0 a1 a2 sa=some r):Rd cx (Qs cx.P 15 0) 18 0 false (kX a0 a1 a2) (ya a0 a1 a2) (kS a0 a1 a2) (wX a0 a1 a2) (wZ a0 a1 a2) sa r:=by
 unfold WB at h
 by_cases ha1:sa < ((a0).length:Int)
 ·replace h:=Qj h ha1
  obtain ⟨ta2,ha2,h⟩:=Qe h
  by_cases ha3:((ta2.1 == a1) && ((ta2.2 == a2) && true))=true
  ·replace h:=Qj h ha3
   replace h:=Option.some.inj h
   subst h
   exact ⟨⟨100,3,[.br true,.el (.agg [I ta2.1,I ta2.2]),.br true],[],[4],[],Qg (ob:=[((ta2.1 == a1) && ((ta2.2 == a2) && true))=true,(0:Int)≤sa,nth (a0) (Int.toNat sa)=some (.agg [I ta2.1,I ta2.2]),(decide (sa < ((a0).length:Int)))=true]) (by kernel_rfl) ⟨ha3,(Qp Qi ha2).1,(Qp Qi ha2).2,(decide_eq_true ha1),trivial⟩⟩,nofun⟩
  ·replace h:=Qk h ha3
   obtain ⟨ha4,h⟩:=Qf h
   replace h:=Option.some.inj h
   subst h
   exact ⟨100,3,[.br true,.el (.agg [I ta2.1,I ta2.2]),.br false],[],[0,3,5],[0],Qg (ob:=[Qb (sa+1),((ta2.1 == a1) && ((ta2.2 == a2) && true))=false,(0:Int)≤sa,nth (a0) (Int.toNat sa)=some (.agg [I ta2.1,I ta2.2]),(decide (sa < ((a0).length:Int)))=true]) (by kernel_rfl) ⟨ha4,(QJ ha3),(Qp Qi ha2).1,(Qp Qi ha2).2,(decide_eq_true ha1),trivial⟩⟩
 ·replace h:=Qk h ha1
  replace h:=Option.some.inj h
  subst h
  exact ⟨⟨100,3,[.br false],[],[],[],Qg (ob:=[(decide (sa < ((a0).length:Int)))=false]) (by kernel_rfl) ⟨(decide_eq_false ha1),trivial⟩⟩,nofun⟩
def Yj (n:Nat) (a0:List D) (a1 a2:Int):Option (Bool) :=
 (Qz (WB n a0 a1 a2) n 0).bind fun t1=>match t1 with
  | (.inl t1)=>(
   some true)
  | (.inr t1)=>(
   some false)
theorem wO {n:Nat} {a0:List D} {a1 a2:Int} {r:Bool} (h:Yj n a0 a1 a2=some r):Computes cx 15 [.lst false 2 a0,.agg [I a1,I a2]] (B r):=by
 unfold Yj at h
 obtain ⟨t1,h1,h⟩:=Qe h
 rcases t1 with t1 | t1
 ·replace h:=Option.some.inj h
  subst h
  exact run (n:=100) (f:=15) (args:=[.lst false 2 a0,.agg [I a1,I a2]]) (orc:=[.lp [] [0,3,5] [0] .ret [(4,.d (B true))] [] 27]) (r:=B true) (ob:=[QM cx (Qs cx.P 15 0) 18 0 false [(0,.d (.lst false 2 a0)),(3,.ptr 0 0 0 0 0),(5,.d (I 0))] [(0,.box (.d (.agg [I a1,I a2])))] .ret [(4,.d (B true))] []]) (by kernel_rfl) ⟨(Qu Xk h1),trivial⟩
 ·replace h:=Option.some.inj h
  subst h
  exact run (n:=100) (f:=15) (args:=[.lst false 2 a0,.agg [I a1,I a2]]) (orc:=[.lp [] [0,3,5] [0] (.exit 0) [] [] 27]) (r:=B false) (ob:=[QM cx (Qs cx.P 15 0) 18 0 false [(0,.d (.lst false 2 a0)),(3,.ptr 0 0 0 0 0),(5,.d (I 0))] [(0,.box (.d (.agg [I a1,I a2])))] (.exit 0) [] []]) (by kernel_rfl) ⟨(Qu Xk h1),trivial⟩
def WE (n:Nat) (a0 a1:Int):Option (Int) :=
 (Wf n a0 (-100000) 100000).bind fun t1 =>
 (Wf n a1 (-100000) 100000).bind fun t2 =>
 (Zk n ([I t1,I t2])).bind fun t3 =>
 some t3
theorem Ke {n:Nat} {a0 a1:Int} {r:Int} (h:WE n a0 a1=some r):Computes cx 38 [.agg [I a0,I a1]] (I r):=by
 unfold WE at h
 obtain ⟨t1,h1,h⟩:=Qe h
 obtain ⟨t2,h2,h⟩:=Qe h
 obtain ⟨t3,h3,h⟩:=Qe h
 replace h:=Option.some.inj h
 subst h
 exact run (n:=100) (f:=38) (args:=[.agg [I a0,I a1]]) (orc:=[.ret (I t1),.ret (I t2),.ret (I t3)]) (r:=I t3) (ob:=[Computes cx 36 [.lst true 1 [I t1,I t2]] (I t3),Computes cx 66 [I a1,I (-100000),I 100000] (I t2),Computes cx 66 [I a0,I (-100000),I 100000] (I t1)]) (by kernel_rfl) ⟨((Z7 h3).le (.cons (.full _ _ _) (.nil)) (.refl _)),(Yv h2),(Yv h1),trivial⟩
def Z2 (n:Nat) (a0 a1:Int) (a2:List D) (a3 a4:Int) (a5:List D) (a6 a7:Int):Option (Int×Int×Int) :=
 (ZX n a0 a1 a2 a3 a4 a5).bind fun t1 =>
 (WE n a6 a7).bind fun t2 =>
 (Zk n ([I t1,I t2])).bind fun t3 =>
 if t3=0 then
  (Yk n a0 a1 a2 a3 a4 a5 a6 a7).bind fun t5 =>
  (Ws n (t5.2.2.2 == 0) 7).bind fun t6 =>
  some (t5.2.2.1,t5.2.2.2,t6)
 else
 some (0,0,t3)
theorem Vc {n:Nat} {a0 a1:Int} {a2:List D} {a3 a4:Int} {a5:List D} {a6 a7:Int} {r:Int×Int×Int} (h:Z2 n a0 a1 a2 a3 a4 a5 a6 a7=some r):Computes cx 16 [.agg [I a0,I a1,.lst false 1 a2],.agg [I a3,I a4,.lst false 1 a5],.agg [I a6,I a7]] (.tup [I r.1,I r.2.1,I r.2.2]):=by
 unfold Z2 at h
 obtain ⟨t1,h1,h⟩:=Qe h
 obtain ⟨t2,h2,h⟩:=Qe h
 obtain ⟨t3,h3,h⟩:=Qe h
 by_cases h4:t3=0
 ·replace h:=Qj h h4
  obtain ⟨t5,h5,h⟩:=Qe h
  obtain ⟨t6,h6,h⟩:=Qe h
  replace h:=Option.some.inj h
  subst h
  exact run (n:=100) (f:=16) (args:=[.agg [I a0,I a1,.lst false 1 a2],.agg [I a3,I a4,.lst false 1 a5],.agg [I a6,I a7]]) (orc:=[.ret (I t1),.ret (I t2),.ret (I t3),.br false,.ret (.agg [I t5.1,I t5.2.1,I t5.2.2.1,I t5.2.2.2]),.ret (I t6)]) (r:=.tup [I t5.2.2.1,I t5.2.2.2,I t6]) (ob:=[Computes cx 40 [B (t5.2.2.2 == 0),I 7] (I t6),Computes cx 39 [.agg [I a0,I a1,.lst false 1 a2],.agg [I a3,I a4,.lst false 1 a5],.agg [I a6,I a7]] (.agg [I t5.1,I t5.2.1,I t5.2.2.1,I t5.2.2.2]),(t3 != 0)=false,Computes cx 36 [.lst true 1 [I t1,I t2]] (I t3),Computes cx 38 [.agg [I a6,I a7]] (I t2),Computes cx 37 [.agg [I a0,I a1,.lst false 1 a2],.agg [I a3,I a4,.lst false 1 a5]] (I t1)]) (by kernel_rfl) ⟨(Yw h6),(G8 h5),(nef h4),((Z7 h3).le (.cons (.full _ _ _) (.nil)) (.refl _)),(Ke h2),(VX h1),trivial⟩
 ·replace h:=Qk h h4
  replace h:=Option.some.inj h
  subst h
  exact run (n:=100) (f:=16) (args:=[.agg [I a0,I a1,.lst false 1 a2],.agg [I a3,I a4,.lst false 1 a5],.agg [I a6,I a7]]) (orc:=[.ret (I t1),.ret (I t2),.ret (I t3),.br true]) (r:=.tup [I 0,I 0,I t3]) (ob:=[(t3 != 0)=true,Computes cx 36 [.lst true 1 [I t1,I t2]] (I t3),Computes cx 38 [.agg [I a6,I a7]] (I t2),Computes cx 37 [.agg [I a0,I a1,.lst false 1 a2],.agg [I a3,I a4,.lst false 1 a5]] (I t1)]) (by kernel_rfl) ⟨(net h4),((Z7 h3).le (.cons (.full _ _ _) (.nil)) (.refl _)),(Ke h2),(VX h1),trivial⟩
def Zo (n:Nat) (a0 a1:List D) (sa:(Int)):Option (((Int))⊕((Unit)⊕(Unit))) :=
 if sa < ((a0).length:Int) then
  (el Vq a0 sa).bind fun ta2 =>
  (el Vq a1 sa).bind fun ta3 =>
  if ((FloatKind.format .f32).order ta2 ta3 != some .eq)=true then
   some (.inr (.inl ()))
  else
  if Qb (sa+1) then
  some (.inl (sa+1))
  else none
 else
 some (.inr (.inr ()))
noncomputable def Gk (a0 a1:List D) (sa:(Int)):List (Nat×AV):=[(0,.d (.lst false 1 a0)),(1,.d (.lst false 1 a1)),(5,.d (I sa))]
noncomputable def Gl (a0 a1:List D) (sa:(Int)):List (Nat×Blk):=[]
noncomputable def Gd (a0 a1:List D) (e:(Unit)⊕(Unit)):Ex:=match e with
 | (.inl e)=>.ret
 | (.inr e)=>(.exit 0)
noncomputable def JC (a0 a1:List D) (e:(Unit)⊕(Unit)):List (Nat×AV):=match e with
 | (.inl e)=>[(4,.d (B false))]
 | (.inr e)=>[]
noncomputable def JD (a0 a1:List D) (e:(Unit)⊕(Unit)):List (Nat×Blk):=match e with
 | (.inl e)=>[]
 | (.inr e)=>[]
theorem Yy {n:Nat} {a0 a1:List D} (sa:(Int)) (r) (h:Zo n a0 a1 sa=some r):Rd cx (Qs cx.P 43 0) 26 0 false (Gk a0 a1) (Gl a0 a1) (Gd a0 a1) (JC a0 a1) (JD a0 a1) sa r:=by
 unfold Zo at h
 by_cases ha1:sa < ((a0).length:Int)
 ·replace h:=Qj h ha1
  obtain ⟨ta2,ha2,h⟩:=Qe h
  obtain ⟨ta3,ha3,h⟩:=Qe h
  by_cases ha4:((FloatKind.format .f32).order ta2 ta3 != some .eq)=true
  ·replace h:=Qj h ha4
   replace h:=Option.some.inj h
   subst h
   exact ⟨⟨100,7,[.br true,.el (.v (.float .f32 ta2)),.el (.v (.float .f32 ta3)),.br true],[],[4],[],Qg (ob:=[((FloatKind.format .f32).order ta2 ta3 != some .eq)=true,(0:Int)≤sa,nth (a1) (Int.toNat sa)=some (.v (.float .f32 ta3)),(0:Int)≤sa,nth (a0) (Int.toNat sa)=some (.v (.float .f32 ta2)),(decide (sa < ((a0).length:Int)))=true]) (by kernel_rfl) ⟨ha4,(Qp Qr ha3).1,(Qp Qr ha3).2,(Qp Qr ha2).1,(Qp Qr ha2).2,(decide_eq_true ha1),trivial⟩⟩,nofun⟩
  ·replace h:=Qk h ha4
   obtain ⟨ha5,h⟩:=Qf h
   replace h:=Option.some.inj h
   subst h
   exact ⟨100,7,[.br true,.el (.v (.float .f32 ta2)),.el (.v (.float .f32 ta3)),.br false],[],[0,1,5],[],Qg (ob:=[Qb (sa+1),((FloatKind.format .f32).order ta2 ta3 != some .eq)=false,(0:Int)≤sa,nth (a1) (Int.toNat sa)=some (.v (.float .f32 ta3)),(0:Int)≤sa,nth (a0) (Int.toNat sa)=some (.v (.float .f32 ta2)),(decide (sa < ((a0).length:Int)))=true]) (by kernel_rfl) ⟨ha5,(QJ ha4),(Qp Qr ha3).1,(Qp Qr ha3).2,(Qp Qr ha2).1,(Qp Qr ha2).2,(decide_eq_true ha1),trivial⟩⟩
 ·replace h:=Qk h ha1
  replace h:=Option.some.inj h
  subst h
  exact ⟨⟨100,7,[.br false],[],[],[],Qg (ob:=[(decide (sa < ((a0).length:Int)))=false]) (by kernel_rfl) ⟨(decide_eq_false ha1),trivial⟩⟩,nofun⟩
def WW (n:Nat) (a0 a1:List D):Option (Bool) :=
 if ((a0).length:Int)=((a1).length:Int) then
  (Qz (Zo n a0 a1) n 0).bind fun t2=>match t2 with
   | (.inl t2)=>(
    some false)
   | (.inr t2)=>(
    some true)
 else
 some false
theorem XQ {n:Nat} {a0 a1:List D} {r:Bool} (h:WW n a0 a1=some r):Computes cx 43 [.lst false 1 a0,.lst false 1 a1] (B r):=by
 unfold WW at h
 by_cases h1:((a0).length:Int)=((a1).length:Int)
 ·replace h:=Qj h h1
  obtain ⟨t2,h2,h⟩:=Qe h
  rcases t2 with t2 | t2
  ·replace h:=Option.some.inj h
   subst h
   exact run (n:=100) (f:=43) (args:=[.lst false 1 a0,.lst false 1 a1]) (orc:=[.br false,.lp [] [0,1,5] [] .ret [(4,.d (B false))] [] 34]) (r:=B false) (ob:=[QM cx (Qs cx.P 43 0) 26 0 false [(0,.d (.lst false 1 a0)),(1,.d (.lst false 1 a1)),(5,.d (I 0))] [] .ret [(4,.d (B false))] [],(((a0).length:Int) != ((a1).length:Int))=false]) (by kernel_rfl) ⟨(Qu Yy h2),(nef h1),trivial⟩
  ·replace h:=Option.some.inj h
   subst h
   exact run (n:=100) (f:=43) (args:=[.lst false 1 a0,.lst false 1 a1]) (orc:=[.br false,.lp [] [0,1,5] [] (.exit 0) [] [] 34]) (r:=B true) (ob:=[QM cx (Qs cx.P 43 0) 26 0 false [(0,.d (.lst false 1 a0)),(1,.d (.lst false 1 a1)),(5,.d (I 0))] [] (.exit 0) [] [],(((a0).length:Int) != ((a1).length:Int))=false]) (by kernel_rfl) ⟨(Qu Yy h2),(nef h1),trivial⟩
 ·replace h:=Qk h h1
  replace h:=Option.some.inj h
  subst h
  exact run (n:=100) (f:=43) (args:=[.lst false 1 a0,.lst false 1 a1]) (orc:=[.br true]) (r:=B false) (ob:=[(((a0).length:Int) != ((a1).length:Int))=true]) (by kernel_rfl) ⟨(net h1),trivial⟩
def WK (n:Nat) (a0 a1:Int) (a2:List D) (a3 a4:Int) (a5:List D):Option (Bool) :=
 (Z0 n a0 a1 a2 a3 a4 a5).bind fun t1 =>
 if t1=true then
  (WW n a2 a5).bind fun t3 =>
  some t3
 else
 some false
theorem Gq {n:Nat} {a0 a1:Int} {a2:List D} {a3 a4:Int} {a5:List D} {r:Bool} (h:WK n a0 a1 a2 a3 a4 a5=some r):Computes cx 18 [.agg [I a0,I a1,.lst false 1 a2],.agg [I a3,I a4,.lst false 1 a5]] (B r):=by
 unfold WK at h
 obtain ⟨t1,h1,h⟩:=Qe h
 by_cases h2:t1=true
 ·replace h:=Qj h h2
  obtain ⟨t3,h3,h⟩:=Qe h
  replace h:=Option.some.inj h
  subst h
  exact run (n:=100) (f:=18) (args:=[.agg [I a0,I a1,.lst false 1 a2],.agg [I a3,I a4,.lst false 1 a5]]) (orc:=[.ret (B t1),.br true,.ret (B t3)]) (r:=B t3) (ob:=[Computes cx 43 [.lst false 1 a2,.lst false 1 a5] (B t3),t1=true,Computes cx 21 [.agg [I a0,I a1,.lst false 1 a2],.agg [I a3,I a4,.lst false 1 a5]] (B t1)]) (by kernel_rfl) ⟨(XQ h3),h2,(YO h1),trivial⟩
 ·replace h:=Qk h h2
  replace h:=Option.some.inj h
  subst h
  exact run (n:=100) (f:=18) (args:=[.agg [I a0,I a1,.lst false 1 a2],.agg [I a3,I a4,.lst false 1 a5]]) (orc:=[.ret (B t1),.br false]) (r:=B false) (ob:=[t1=false,Computes cx 21 [.agg [I a0,I a1,.lst false 1 a2],.agg [I a3,I a4,.lst false 1 a5]] (B t1)]) (by kernel_rfl) ⟨(QJ h2),(YO h1),trivial⟩
def QK (n:Nat) (a0 a1:Int) (a2:List D) (a3 a4:Int) (a5:List D) (a7 a8:Int) (t12 t14 t15:Int×Int×List D×Int) (t23 t25 t27:List D×Int) (sa:Int×List D) (ta2:List D) (ta5:Int) (sb:Bool×Int) (tb2:List D) (sc:(Bool×Int)):Option (((Bool×Int))⊕((Bool))) :=
 if sc.2 < ((ta2).length:Int) then
  (el ZP ta2 sc.2).bind fun tc2 =>
  if sc.1=true then
   if Qb (a0 - 1) then
   if Qb ((a0 - 1) - tc2.1) then
   (Yj n tb2 ((a0 - 1) - tc2.1) tc2.2).bind fun tc6 =>
   if Qb (sc.2+1) then
   some (.inl (tc6,(sc.2+1)))
   else none
   else none
   else none
  else
  if Qb (sc.2+1) then
  some (.inl (false,(sc.2+1)))
  else none
 else
 some (.inr sc.1)
noncomputable def KE (a0 a1:Int) (a2:List D) (a3 a4:Int) (a5:List D) (a7 a8:Int) (t12 t14 t15:Int×Int×List D×Int) (t23 t25 t27:List D×Int) (sa:Int×List D) (ta2:List D) (ta5:Int) (sb:Bool×Int) (tb2:List D) (sc:(Bool×Int)):List (Nat×AV):=[(3,.ptr 0 0 0 0 0),(4,.ptr 1 0 0 0 0),(8,.ptr 45 0 0 0 0),(9,.d (.fn (.func 6) [] [])),(10,.ptr 55 0 0 0 0),(12,.ptr 65 0 0 0 0),(14,.ptr 75 0 0 0 0),(18,.d (.lst false 1 t25.1)),(20,.d (.lst false 1 t27.1)),(30,.own 275 0),(31,.d (I sa.1)),(32,.d (.lst false 2 ta2)),(33,.d (B sb.1)),(35,.d (.lst false 2 tb2)),(36,.d (B sc.1)),(240,.d (.lst false 1 t23.1)),(241,.d (I ((t23.1).length:Int))),(242,.d (I sa.1)),(252,.d (.lst false 1 t25.1)),(253,.d (I ((t25.1).length:Int))),(254,.d (I sb.2)),(263,.d (.lst false 2 ta2)),(264,.d (I ((ta2).length:Int))),(265,.d (I sc.2))]
noncomputable def KG (a0 a1:Int) (a2:List D) (a3 a4:Int) (a5:List D) (a7 a8:Int) (t12 t14 t15:Int×Int×List D×Int) (t23 t25 t27:List D×Int) (sa:Int×List D) (ta2:List D) (ta5:Int) (sb:Bool×Int) (tb2:List D) (sc:(Bool×Int)):List (Nat×Blk):=[(0,.box (.d (.agg [I a0,I a1,.lst false 1 a2]))),(1,.box (.d (.agg [I a3,I a4,.lst false 1 a5]))),(45,.box (.d (.agg [I ((Int.tmod (IntKind.wrap .i64 a7) 5) - 2),I ((Int.tmod (IntKind.wrap .i64 a8) 5) - 2)]))),(55,.box (.d (.agg [I t12.1,I t12.2.1,.lst false 1 t12.2.2.1]))),(65,.box (.d (.agg [I t14.1,I t14.2.1,.lst false 1 t14.2.2.1]))),(75,.box (.d (.agg [I t15.1,I t15.2.1,.lst false 1 t15.2.2.1]))),(275,.mp (Qw (.int .i64 ((ta2).length:Int)) (I (ta5+1)) (sa.2:List D)))]
noncomputable def KC (a0 a1:Int) (a2:List D) (a3 a4:Int) (a5:List D) (a7 a8:Int) (t12 t14 t15:Int×Int×List D×Int) (t23 t25 t27:List D×Int) (sa:Int×List D) (ta2:List D) (ta5:Int) (sb:Bool×Int) (tb2:List D) (e:(Bool)):Ex:=(.exit 4)
noncomputable def Kl (a0 a1:Int) (a2:List D) (a3 a4:Int) (a5:List D) (a7 a8:Int) (t12 t14 t15:Int×Int×List D×Int) (t23 t25 t27:List D×Int) (sa:Int×List D) (ta2:List D) (ta5:Int) (sb:Bool×Int) (tb2:List D) (e:(Bool)):List (Nat×AV):=[(3,.ptr 0 0 0 0 0),(4,.ptr 1 0 0 0 0),(8,.ptr 45 0 0 0 0),(9,.d (.fn (.func 6) [] [])),(10,.ptr 55 0 0 0 0),(12,.ptr 65 0 0 0 0),(14,.ptr 75 0 0 0 0),(18,.d (.lst false 1 t25.1)),(20,.d (.lst false 1 t27.1)),(30,.own 275 0),(31,.d (I sa.1)),(32,.d (.lst false 2 ta2)),(33,.d (B sb.1)),(36,.d (B e)),(240,.d (.lst false 1 t23.1)),(241,.d (I ((t23.1).length:Int))),(242,.d (I sa.1)),(252,.d (.lst false 1 t25.1)),(253,.d (I ((t25.1).length:Int))),(254,.d (I sb.2))]
noncomputable def Kn (a0 a1:Int) (a2:List D) (a3 a4:Int) (a5:List D) (a7 a8:Int) (t12 t14 t15:Int×Int×List D×Int) (t23 t25 t27:List D×Int) (sa:Int×List D) (ta2:List D) (ta5:Int) (sb:Bool×Int) (tb2:List D) (e:(Bool)):List (Nat×Blk):=[(0,.box (.d (.agg [I a0,I a1,.lst false 1 a2]))),(1,.box (.d (.agg [I a3,I a4,.lst false 1 a5]))),(45,.box (.d (.agg [I ((Int.tmod (IntKind.wrap .i64 a7) 5) - 2),I ((Int.tmod (IntKind.wrap .i64 a8) 5) - 2)]))),(55,.box (.d (.agg [I t12.1,I t12.2.1,.lst false 1 t12.2.2.1]))),(65,.box (.d (.agg [I t14.1,I t14.2.1,.lst false 1 t14.2.2.1]))),(75,.box (.d (.agg [I t15.1,I t15.2.1,.lst false 1 t15.2.2.1]))),(275,.mp (Qw (.int .i64 ((ta2).length:Int)) (I (ta5+1)) (sa.2:List D)))]
theorem VV {n:Nat} {a0 a1:Int} {a2:List D} {a3 a4:Int} {a5:List D} {a7 a8:Int} {t12 t14 t15:Int×Int×List D×Int} {t23 t25 t27:List D×Int} {sa:Int×List D} {ta2:List D} {ta5:Int} {sb:Bool×Int} {tb2:List D} (sc:(Bool×Int)) (r) (h:QK n a0 a1 a2 a3 a4 a5 a7 a8 t12 t14 t15 t23 t25 t27 sa ta2 ta5 sb tb2 sc=some r):Rd cx (Qs cx.P 3 2) 406 0 false (KE a0 a1 a2 a3 a4 a5 a7 a8 t12 t14 t15 t23 t25 t27 sa ta2 ta5 sb tb2) (KG a0 a1 a2 a3 a4 a5 a7 a8 t12 t14 t15 t23 t25 t27 sa ta2 ta5 sb tb2) (KC a0 a1 a2 a3 a4 a5 a7 a8 t12 t14 t15 t23 t25 t27 sa ta2 ta5 sb tb2) (Kl a0 a1 a2 a3 a4 a5 a7 a8 t12 t14 t15 t23 t25 t27 sa ta2 ta5 sb tb2) (Kn a0 a1 a2 a3 a4 a5 a7 a8 t12 t14 t15 t23 t25 t27 sa ta2 ta5 sb tb2) sc r:=by
 unfold QK at h
 by_cases hc1:sc.2 < ((ta2).length:Int)
 ·replace h:=Qj h hc1
  obtain ⟨tc2,hc2,h⟩:=Qe h
  by_cases hc3:sc.1=true
  ·replace h:=Qj h hc3
   obtain ⟨hc4,h⟩:=Qf h
   obtain ⟨hc5,h⟩:=Qf h
   obtain ⟨tc6,hc6,h⟩:=Qe h
   obtain ⟨hc7,h⟩:=Qf h
   replace h:=Option.some.inj h
   subst h
   exact ⟨100,309,[.br true,.el (.agg [I tc2.1,I tc2.2]),.br true,.ret (B tc6)],[],[3,4,8,9,10,12,14,18,20,30,31,32,33,35,36,240,241,242,252,253,254,263,264,265],[0,1,45,55,65,75,275],Qg (ob:=[Qb (sc.2+1),Computes cx 15 [.lst false 2 tb2,.agg [I ((a0 - 1) - tc2.1),I tc2.2]] (B tc6),Qb ((a0 - 1) - tc2.1),Qb (a0 - 1),sc.1=true,(0:Int)≤sc.2,nth (ta2) (Int.toNat sc.2)=some (.agg [I tc2.1,I tc2.2]),(decide (sc.2 < ((ta2).length:Int)))=true]) (by kernel_rfl) ⟨hc7,(wO hc6),hc5,hc4,hc3,(Qp Qi hc2).1,(Qp Qi hc2).2,(decide_eq_true hc1),trivial⟩⟩
  ·replace h:=Qk h hc3
   obtain ⟨hc4,h⟩:=Qf h
   replace h:=Option.some.inj h
   subst h
   exact ⟨100,309,[.br true,.el (.agg [I tc2.1,I tc2.2]),.br false],[],[3,4,8,9,10,12,14,18,20,30,31,32,33,35,36,240,241,242,252,253,254,263,264,265],[0,1,45,55,65,75,275],Qg (ob:=[Qb (sc.2+1),sc.1=false,(0:Int)≤sc.2,nth (ta2) (Int.toNat sc.2)=some (.agg [I tc2.1,I tc2.2]),(decide (sc.2 < ((ta2).length:Int)))=true]) (by kernel_rfl) ⟨hc4,(QJ hc3),(Qp Qi hc2).1,(Qp Qi hc2).2,(decide_eq_true hc1),trivial⟩⟩
 ·replace h:=Qk h hc1
  replace h:=Option.some.inj h
  subst h
  exact ⟨⟨100,309,[.br false],[],[3,4,8,9,10,12,14,18,20,30,31,32,33,36,240,241,242,252,253,254],[0,1,45,55,65,75,275],Qg (ob:=[(decide (sc.2 < ((ta2).length:Int)))=false]) (by kernel_rfl) ⟨(decide_eq_false hc1),trivial⟩⟩,nofun⟩
def QP (n:Nat) (a0 a1:Int) (a2:List D) (a3 a4:Int) (a5:List D) (a7 a8:Int) (t12 t14 t15:Int×Int×List D×Int) (t23 t25 t27:List D×Int) (sa:Int×List D) (ta2:List D) (ta5:Int) (sb:(Bool×Int)):Option (((Bool×Int))⊕((Bool))) :=
 if sb.2 < ((t25.1).length:Int) then
  (el ju t25.1 sb.2).bind fun tb2 =>
  (Qz (QK n a0 a1 a2 a3 a4 a5 a7 a8 t12 t14 t15 t23 t25 t27 sa ta2 ta5 sb tb2) n ((((tb2).length:Int) == ((ta2).length:Int)),0)).bind fun tb3 =>
  if sb.1=true then
   if Qb (sb.2+1) then
   some (.inl (true,(sb.2+1)))
   else none
  else
  if Qb (sb.2+1) then
  some (.inl (tb3,(sb.2+1)))
  else none
 else
 some (.inr sb.1)
noncomputable def KD (a0 a1:Int) (a2:List D) (a3 a4:Int) (a5:List D) (a7 a8:Int) (t12 t14 t15:Int×Int×List D×Int) (t23 t25 t27:List D×Int) (sa:Int×List D) (ta2:List D) (ta5:Int) (sb:(Bool×Int)):List (Nat×AV):=[(3,.ptr 0 0 0 0 0),(4,.ptr 1 0 0 0 0),(8,.ptr 45 0 0 0 0),(9,.d (.fn (.func 6) [] [])),(10,.ptr 55 0 0 0 0),(12,.ptr 65 0 0 0 0),(14,.ptr 75 0 0 0 0),(18,.d (.lst false 1 t25.1)),(20,.d (.lst false 1 t27.1)),(30,.own 275 0),(31,.d (I sa.1)),(32,.d (.lst false 2 ta2)),(33,.d (B sb.1)),(240,.d (.lst false 1 t23.1)),(241,.d (I ((t23.1).length:Int))),(242,.d (I sa.1)),(252,.d (.lst false 1 t25.1)),(253,.d (I ((t25.1).length:Int))),(254,.d (I sb.2))]
noncomputable def KF (a0 a1:Int) (a2:List D) (a3 a4:Int) (a5:List D) (a7 a8:Int) (t12 t14 t15:Int×Int×List D×Int) (t23 t25 t27:List D×Int) (sa:Int×List D) (ta2:List D) (ta5:Int) (sb:(Bool×Int)):List (Nat×Blk):=[(0,.box (.d (.agg [I a0,I a1,.lst false 1 a2]))),(1,.box (.d (.agg [I a3,I a4,.lst false 1 a5]))),(45,.box (.d (.agg [I ((Int.tmod (IntKind.wrap .i64 a7) 5) - 2),I ((Int.tmod (IntKind.wrap .i64 a8) 5) - 2)]))),(55,.box (.d (.agg [I t12.1,I t12.2.1,.lst false 1 t12.2.2.1]))),(65,.box (.d (.agg [I t14.1,I t14.2.1,.lst false 1 t14.2.2.1]))),(75,.box (.d (.agg [I t15.1,I t15.2.1,.lst false 1 t15.2.2.1]))),(275,.mp (Qw (.int .i64 ((ta2).length:Int)) (I (ta5+1)) (sa.2:List D)))]
noncomputable def KB (a0 a1:Int) (a2:List D) (a3 a4:Int) (a5:List D) (a7 a8:Int) (t12 t14 t15:Int×Int×List D×Int) (t23 t25 t27:List D×Int) (sa:Int×List D) (ta2:List D) (ta5:Int) (e:(Bool)):Ex:=(.exit 2)
noncomputable def Kk (a0 a1:Int) (a2:List D) (a3 a4:Int) (a5:List D) (a7 a8:Int) (t12 t14 t15:Int×Int×List D×Int) (t23 t25 t27:List D×Int) (sa:Int×List D) (ta2:List D) (ta5:Int) (e:(Bool)):List (Nat×AV):=[(3,.ptr 0 0 0 0 0),(4,.ptr 1 0 0 0 0),(8,.ptr 45 0 0 0 0),(9,.d (.fn (.func 6) [] [])),(10,.ptr 55 0 0 0 0),(12,.ptr 65 0 0 0 0),(14,.ptr 75 0 0 0 0),(18,.d (.lst false 1 t25.1)),(20,.d (.lst false 1 t27.1)),(30,.own 275 0),(31,.d (I sa.1)),(33,.d (B e)),(240,.d (.lst false 1 t23.1)),(241,.d (I ((t23.1).length:Int))),(242,.d (I sa.1))]
noncomputable def Km (a0 a1:Int) (a2:List D) (a3 a4:Int) (a5:List D) (a7 a8:Int) (t12 t14 t15:Int×Int×List D×Int) (t23 t25 t27:List D×Int) (sa:Int×List D) (ta2:List D) (ta5:Int) (e:(Bool)):List (Nat×Blk):=[(0,.box (.d (.agg [I a0,I a1,.lst false 1 a2]))),(1,.box (.d (.agg [I a3,I a4,.lst false 1 a5]))),(45,.box (.d (.agg [I ((Int.tmod (IntKind.wrap .i64 a7) 5) - 2),I ((Int.tmod (IntKind.wrap .i64 a8) 5) - 2)]))),(55,.box (.d (.agg [I t12.1,I t12.2.1,.lst false 1 t12.2.2.1]))),(65,.box (.d (.agg [I t14.1,I t14.2.1,.lst false 1 t14.2.2.1]))),(75,.box (.d (.agg [I t15.1,I t15.2.1,.lst false 1 t15.2.2.1]))),(275,.mp (Qw (.int .i64 ((ta2).length:Int)) (I (ta5+1)) (sa.2:List D)))]
theorem VU {n:Nat} {a0 a1:Int} {a2:List D} {a3 a4:Int} {a5:List D} {a7 a8:Int} {t12 t14 t15:Int×Int×List D×Int} {t23 t25 t27:List D×Int} {sa:Int×List D} {ta2:List D} {ta5:Int} (sb:(Bool×Int)) (r) (h:QP n a0 a1 a2 a3 a4 a5 a7 a8 t12 t14 t15 t23 t25 t27 sa ta2 ta5 sb=some r):Rd cx (Qs cx.P 3 1) 406 0 false (KD a0 a1 a2 a3 a4 a5 a7 a8 t12 t14 t15 t23 t25 t27 sa ta2 ta5) (KF a0 a1 a2 a3 a4 a5 a7 a8 t12 t14 t15 t23 t25 t27 sa ta2 ta5) (KB a0 a1 a2 a3 a4 a5 a7 a8 t12 t14 t15 t23 t25 t27 sa ta2 ta5) (Kk a0 a1 a2 a3 a4 a5 a7 a8 t12 t14 t15 t23 t25 t27 sa ta2 ta5) (Km a0 a1 a2 a3 a4 a5 a7 a8 t12 t14 t15 t23 t25 t27 sa ta2 ta5) sb r:=by
 unfold QP at h
 by_cases hb1:sb.2 < ((t25.1).length:Int)
 ·replace h:=Qj h hb1
  obtain ⟨tb2,hb2,h⟩:=Qe h
  obtain ⟨tb3,hb3,h⟩:=Qe h
  by_cases hb4:sb.1=true
  ·replace h:=Qj h hb4
   obtain ⟨hb5,h⟩:=Qf h
   replace h:=Option.some.inj h
   subst h
   exact ⟨100,296,[.br true,.el (.lst false 2 tb2),.lp [] [3,4,8,9,10,12,14,18,20,30,31,32,33,35,36,240,241,242,252,253,254,263,264,265] [0,1,45,55,65,75,275] (.exit 4) [(3,.ptr 0 0 0 0 0),(4,.ptr 1 0 0 0 0),(8,.ptr 45 0 0 0 0),(9,.d (.fn (.func 6) [] [])),(10,.ptr 55 0 0 0 0),(12,.ptr 65 0 0 0 0),(14,.ptr 75 0 0 0 0),(18,.d (.lst false 1 t25.1)),(20,.d (.lst false 1 t27.1)),(30,.own 275 0),(31,.d (I sa.1)),(32,.d (.lst false 2 ta2)),(33,.d (B sb.1)),(36,.d (B tb3)),(240,.d (.lst false 1 t23.1)),(241,.d (I ((t23.1).length:Int))),(242,.d (I sa.1)),(252,.d (.lst false 1 t25.1)),(253,.d (I ((t25.1).length:Int))),(254,.d (I sb.2))] [(0,.box (.d (.agg [I a0,I a1,.lst false 1 a2]))),(1,.box (.d (.agg [I a3,I a4,.lst false 1 a5]))),(45,.box (.d (.agg [I ((Int.tmod (IntKind.wrap .i64 a7) 5) - 2),I ((Int.tmod (IntKind.wrap .i64 a8) 5) - 2)]))),(55,.box (.d (.agg [I t12.1,I t12.2.1,.lst false 1 t12.2.2.1]))),(65,.box (.d (.agg [I t14.1,I t14.2.1,.lst false 1 t14.2.2.1]))),(75,.box (.d (.agg [I t15.1,I t15.2.1,.lst false 1 t15.2.2.1]))),(275,.mp (Qw (.int .i64 ((ta2).length:Int)) (I (ta5+1)) (sa.2:List D)))] 342,.br true],[],[3,4,8,9,10,12,14,18,20,30,31,32,33,240,241,242,252,253,254],[0,1,45,55,65,75,275],Qg (ob:=[Qb (sb.2+1),sb.1=true,QM cx (Qs cx.P 3 2) 406 0 false [(3,.ptr 0 0 0 0 0),(4,.ptr 1 0 0 0 0),(8,.ptr 45 0 0 0 0),(9,.d (.fn (.func 6) [] [])),(10,.ptr 55 0 0 0 0),(12,.ptr 65 0 0 0 0),(14,.ptr 75 0 0 0 0),(18,.d (.lst false 1 t25.1)),(20,.d (.lst false 1 t27.1)),(30,.own 275 0),(31,.d (I sa.1)),(32,.d (.lst false 2 ta2)),(33,.d (B sb.1)),(35,.d (.lst false 2 tb2)),(36,.d (B (((tb2).length:Int) == ((ta2).length:Int)))),(240,.d (.lst false 1 t23.1)),(241,.d (I ((t23.1).length:Int))),(242,.d (I sa.1)),(252,.d (.lst false 1 t25.1)),(253,.d (I ((t25.1).length:Int))),(254,.d (I sb.2)),(263,.d (.lst false 2 ta2)),(264,.d (I ((ta2).length:Int))),(265,.d (I 0))] [(0,.box (.d (.agg [I a0,I a1,.lst false 1 a2]))),(1,.box (.d (.agg [I a3,I a4,.lst false 1 a5]))),(45,.box (.d (.agg [I ((Int.tmod (IntKind.wrap .i64 a7) 5) - 2),I ((Int.tmod (IntKind.wrap .i64 a8) 5) - 2)]))),(55,.box (.d (.agg [I t12.1,I t12.2.1,.lst false 1 t12.2.2.1]))),(65,.box (.d (.agg [I t14.1,I t14.2.1,.lst false 1 t14.2.2.1]))),(75,.box (.d (.agg [I t15.1,I t15.2.1,.lst false 1 t15.2.2.1]))),(275,.mp (Qw (.int .i64 ((ta2).length:Int)) (I (ta5+1)) (sa.2:List D)))] (.exit 4) [(3,.ptr 0 0 0 0 0),(4,.ptr 1 0 0 0 0),(8,.ptr 45 0 0 0 0),(9,.d (.fn (.func 6) [] [])),(10,.ptr 55 0 0 0 0),(12,.ptr 65 0 0 0 0),(14,.ptr 75 0 0 0 0),(18,.d (.lst false 1 t25.1)),(20,.d (.lst false 1 t27.1)),(30,.own 275 0),(31,.d (I sa.1)),(32,.d (.lst false 2 ta2)),(33,.d (B sb.1)),(36,.d (B tb3)),(240,.d (.lst false 1 t23.1)),(241,.d (I ((t23.1).length:Int))),(242,.d (I sa.1)),(252,.d (.lst false 1 t25.1)),(253,.d (I ((t25.1).length:Int))),(254,.d (I sb.2))] [(0,.box (.d (.agg [I a0,I a1,.lst false 1 a2]))),(1,.box (.d (.agg [I a3,I a4,.lst false 1 a5]))),(45,.box (.d (.agg [I ((Int.tmod (IntKind.wrap .i64 a7) 5) - 2),I ((Int.tmod (IntKind.wrap .i64 a8) 5) - 2)]))),(55,.box (.d (.agg [I t12.1,I t12.2.1,.lst false 1 t12.2.2.1]))),(65,.box (.d (.agg [I t14.1,I t14.2.1,.lst false 1 t14.2.2.1]))),(75,.box (.d (.agg [I t15.1,I t15.2.1,.lst false 1 t15.2.2.1]))),(275,.mp (Qw (.int .i64 ((ta2).length:Int)) (I (ta5+1)) (sa.2:List D)))],(0:Int)≤sb.2,nth (t25.1) (Int.toNat sb.2)=some (.lst false 2 tb2),(decide (sb.2 < ((t25.1).length:Int)))=true]) (by kernel_rfl) ⟨hb5,hb4,(Qu VV hb3),(Qp Q9 hb2).1,(Qp Q9 hb2).2,(decide_eq_true hb1),trivial⟩⟩
  ·replace h:=Qk h hb4
   obtain ⟨hb5,h⟩:=Qf h
   replace h:=Option.some.inj h
   subst h
   exact ⟨100,296,[.br true,.el (.lst false 2 tb2),.lp [] [3,4,8,9,10,12,14,18,20,30,31,32,33,35,36,240,241,242,252,253,254,263,264,265] [0,1,45,55,65,75,275] (.exit 4) [(3,.ptr 0 0 0 0 0),(4,.ptr 1 0 0 0 0),(8,.ptr 45 0 0 0 0),(9,.d (.fn (.func 6) [] [])),(10,.ptr 55 0 0 0 0),(12,.ptr 65 0 0 0 0),(14,.ptr 75 0 0 0 0),(18,.d (.lst false 1 t25.1)),(20,.d (.lst false 1 t27.1)),(30,.own 275 0),(31,.d (I sa.1)),(32,.d (.lst false 2 ta2)),(33,.d (B sb.1)),(36,.d (B tb3)),(240,.d (.lst false 1 t23.1)),(241,.d (I ((t23.1).length:Int))),(242,.d (I sa.1)),(252,.d (.lst false 1 t25.1)),(253,.d (I ((t25.1).length:Int))),(254,.d (I sb.2))] [(0,.box (.d (.agg [I a0,I a1,.lst false 1 a2]))),(1,.box (.d (.agg [I a3,I a4,.lst false 1 a5]))),(45,.box (.d (.agg [I ((Int.tmod (IntKind.wrap .i64 a7) 5) - 2),I ((Int.tmod (IntKind.wrap .i64 a8) 5) - 2)]))),(55,.box (.d (.agg [I t12.1,I t12.2.1,.lst false 1 t12.2.2.1]))),(65,.box (.d (.agg [I t14.1,I t14.2.1,.lst false 1 t14.2.2.1]))),(75,.box (.d (.agg [I t15.1,I t15.2.1,.lst false 1 t15.2.2.1]))),(275,.mp (Qw (.int .i64 ((ta2).length:Int)) (I (ta5+1)) (sa.2:List D)))] 342,.br false],[],[3,4,8,9,10,12,14,18,20,30,31,32,33,240,241,242,252,253,254],[0,1,45,55,65,75,275],Qg (ob:=[Qb (sb.2+1),sb.1=false,QM cx (Qs cx.P 3 2) 406 0 false [(3,.ptr 0 0 0 0 0),(4,.ptr 1 0 0 0 0),(8,.ptr 45 0 0 0 0),(9,.d (.fn (.func 6) [] [])),(10,.ptr 55 0 0 0 0),(12,.ptr 65 0 0 0 0),(14,.ptr 75 0 0 0 0),(18,.d (.lst false 1 t25.1)),(20,.d (.lst false 1 t27.1)),(30,.own 275 0),(31,.d (I sa.1)),(32,.d (.lst false 2 ta2)),(33,.d (B sb.1)),(35,.d (.lst false 2 tb2)),(36,.d (B (((tb2).length:Int) == ((ta2).length:Int)))),(240,.d (.lst false 1 t23.1)),(241,.d (I ((t23.1).length:Int))),(242,.d (I sa.1)),(252,.d (.lst false 1 t25.1)),(253,.d (I ((t25.1).length:Int))),(254,.d (I sb.2)),(263,.d (.lst false 2 ta2)),(264,.d (I ((ta2).length:Int))),(265,.d (I 0))] [(0,.box (.d (.agg [I a0,I a1,.lst false 1 a2]))),(1,.box (.d (.agg [I a3,I a4,.lst false 1 a5]))),(45,.box (.d (.agg [I ((Int.tmod (IntKind.wrap .i64 a7) 5) - 2),I ((Int.tmod (IntKind.wrap .i64 a8) 5) - 2)]))),(55,.box (.d (.agg [I t12.1,I t12.2.1,.lst false 1 t12.2.2.1]))),(65,.box (.d (.agg [I t14.1,I t14.2.1,.lst false 1 t14.2.2.1]))),(75,.box (.d (.agg [I t15.1,I t15.2.1,.lst false 1 t15.2.2.1]))),(275,.mp (Qw (.int .i64 ((ta2).length:Int)) (I (ta5+1)) (sa.2:List D)))] (.exit 4) [(3,.ptr 0 0 0 0 0),(4,.ptr 1 0 0 0 0),(8,.ptr 45 0 0 0 0),(9,.d (.fn (.func 6) [] [])),(10,.ptr 55 0 0 0 0),(12,.ptr 65 0 0 0 0),(14,.ptr 75 0 0 0 0),(18,.d (.lst false 1 t25.1)),(20,.d (.lst false 1 t27.1)),(30,.own 275 0),(31,.d (I sa.1)),(32,.d (.lst false 2 ta2)),(33,.d (B sb.1)),(36,.d (B tb3)),(240,.d (.lst false 1 t23.1)),(241,.d (I ((t23.1).length:Int))),(242,.d (I sa.1)),(252,.d (.lst false 1 t25.1)),(253,.d (I ((t25.1).length:Int))),(254,.d (I sb.2))] [(0,.box (.d (.agg [I a0,I a1,.lst false 1 a2]))),(1,.box (.d (.agg [I a3,I a4,.lst false 1 a5]))),(45,.box (.d (.agg [I ((Int.tmod (IntKind.wrap .i64 a7) 5) - 2),I ((Int.tmod (IntKind.wrap .i64 a8) 5) - 2)]))),(55,.box (.d (.agg [I t12.1,I t12.2.1,.lst false 1 t12.2.2.1]))),(65,.box (.d (.agg [I t14.1,I t14.2.1,.lst false 1 t14.2.2.1]))),(75,.box (.d (.agg [I t15.1,I t15.2.1,.lst false 1 t15.2.2.1]))),(275,.mp (Qw (.int .i64 ((ta2).length:Int)) (I (ta5+1)) (sa.2:List D)))],(0:Int)≤sb.2,nth (t25.1) (Int.toNat sb.2)=some (.lst false 2 tb2),(decide (sb.2 < ((t25.1).length:Int)))=true]) (by kernel_rfl) ⟨hb5,(QJ hb4),(Qu VV hb3),(Qp Q9 hb2).1,(Qp Q9 hb2).2,(decide_eq_true hb1),trivial⟩⟩
 ·replace h:=Qk h hb1
  replace h:=Option.some.inj h
  subst h
  exact ⟨⟨100,296,[.br false],[],[3,4,8,9,10,12,14,18,20,30,31,33,240,241,242],[0,1,45,55,65,75,275],Qg (ob:=[(decide (sb.2 < ((t25.1).length:Int)))=false]) (by kernel_rfl) ⟨(decide_eq_false hb1),trivial⟩⟩,nofun⟩
def QI (n:Nat) (a0 a1:Int) (a2:List D) (a3 a4:Int) (a5:List D) (a7 a8:Int) (t12 t14 t15:Int×Int×List D×Int) (t23 t25 t27:List D×Int) (sa:Int×List D) (ta2:List D) (sb:Bool×Int) (tb2:List D) (sc:(Bool×Int)):Option (((Bool×Int))⊕((Bool))) :=
 if sc.2 < ((ta2).length:Int) then
  (el ZP ta2 sc.2).bind fun tc2 =>
  if sc.1=true then
   if Qb (a0 - 1) then
   if Qb ((a0 - 1) - tc2.1) then
   (Yj n tb2 ((a0 - 1) - tc2.1) tc2.2).bind fun tc6 =>
   if Qb (sc.2+1) then
   some (.inl (tc6,(sc.2+1)))
   else none
   else none
   else none
  else
  if Qb (sc.2+1) then
  some (.inl (false,(sc.2+1)))
  else none
 else
 some (.inr sc.1)
noncomputable def Kr (a0 a1:Int) (a2:List D) (a3 a4:Int) (a5:List D) (a7 a8:Int) (t12 t14 t15:Int×Int×List D×Int) (t23 t25 t27:List D×Int) (sa:Int×List D) (ta2:List D) (sb:Bool×Int) (tb2:List D) (sc:(Bool×Int)):List (Nat×AV):=[(3,.ptr 0 0 0 0 0),(4,.ptr 1 0 0 0 0),(8,.ptr 45 0 0 0 0),(9,.d (.fn (.func 6) [] [])),(10,.ptr 55 0 0 0 0),(12,.ptr 65 0 0 0 0),(14,.ptr 75 0 0 0 0),(18,.d (.lst false 1 t25.1)),(20,.d (.lst false 1 t27.1)),(30,.own 275 0),(31,.d (I sa.1)),(32,.d (.lst false 2 ta2)),(33,.d (B sb.1)),(35,.d (.lst false 2 tb2)),(36,.d (B sc.1)),(240,.d (.lst false 1 t23.1)),(241,.d (I ((t23.1).length:Int))),(242,.d (I sa.1)),(252,.d (.lst false 1 t25.1)),(253,.d (I ((t25.1).length:Int))),(254,.d (I sb.2)),(263,.d (.lst false 2 ta2)),(264,.d (I ((ta2).length:Int))),(265,.d (I sc.2))]
noncomputable def Kv (a0 a1:Int) (a2:List D) (a3 a4:Int) (a5:List D) (a7 a8:Int) (t12 t14 t15:Int×Int×List D×Int) (t23 t25 t27:List D×Int) (sa:Int×List D) (ta2:List D) (sb:Bool×Int) (tb2:List D) (sc:(Bool×Int)):List (Nat×Blk):=[(0,.box (.d (.agg [I a0,I a1,.lst false 1 a2]))),(1,.box (.d (.agg [I a3,I a4,.lst false 1 a5]))),(45,.box (.d (.agg [I ((Int.tmod (IntKind.wrap .i64 a7) 5) - 2),I ((Int.tmod (IntKind.wrap .i64 a8) 5) - 2)]))),(55,.box (.d (.agg [I t12.1,I t12.2.1,.lst false 1 t12.2.2.1]))),(65,.box (.d (.agg [I t14.1,I t14.2.1,.lst false 1 t14.2.2.1]))),(75,.box (.d (.agg [I t15.1,I t15.2.1,.lst false 1 t15.2.2.1]))),(275,.mp (Qw (.int .i64 ((ta2).length:Int)) (I 1) (sa.2:List D)))]
noncomputable def Kj (a0 a1:Int) (a2:List D) (a3 a4:Int) (a5:List D) (a7 a8:Int) (t12 t14 t15:Int×Int×List D×Int) (t23 t25 t27:List D×Int) (sa:Int×List D) (ta2:List D) (sb:Bool×Int) (tb2:List D) (e:(Bool)):Ex:=(.exit 4)
noncomputable def UC (a0 a1:Int) (a2:List D) (a3 a4:Int) (a5:List D) (a7 a8:Int) (t12 t14 t15:Int×Int×List D×Int) (t23 t25 t27:List D×Int) (sa:Int×List D) (ta2:List D) (sb:Bool×Int) (tb2:List D) (e:(Bool)):List (Nat×AV):=[(3,.ptr 0 0 0 0 0),(4,.ptr 1 0 0 0 0),(8,.ptr 45 0 0 0 0),(9,.d (.fn (.func 6) [] [])),(10,.ptr 55 0 0 0 0),(12,.ptr 65 0 0 0 0),(14,.ptr 75 0 0 0 0),(18,.d (.lst false 1 t25.1)),(20,.d (.lst false 1 t27.1)),(30,.own 275 0),(31,.d (I sa.1)),(32,.d (.lst false 2 ta2)),(33,.d (B sb.1)),(36,.d (B e)),(240,.d (.lst false 1 t23.1)),(241,.d (I ((t23.1).length:Int))),(242,.d (I sa.1)),(252,.d (.lst false 1 t25.1)),(253,.d (I ((t25.1).length:Int))),(254,.d (I sb.2))]
noncomputable def UG (a0 a1:Int) (a2:List D) (a3 a4:Int) (a5:List D) (a7 a8:Int) (t12 t14 t15:Int×Int×List D×Int) (t23 t25 t27:List D×Int) (sa:Int×List D) (ta2:List D) (sb:Bool×Int) (tb2:List D) (e:(Bool)):List (Nat×Blk):=[(0,.box (.d (.agg [I a0,I a1,.lst false 1 a2]))),(1,.box (.d (.agg [I a3,I a4,.lst false 1 a5]))),(45,.box (.d (.agg [I ((Int.tmod (IntKind.wrap .i64 a7) 5) - 2),I ((Int.tmod (IntKind.wrap .i64 a8) 5) - 2)]))),(55,.box (.d (.agg [I t12.1,I t12.2.1,.lst false 1 t12.2.2.1]))),(65,.box (.d (.agg [I t14.1,I t14.2.1,.lst false 1 t14.2.2.1]))),(75,.box (.d (.agg [I t15.1,I t15.2.1,.lst false 1 t15.2.2.1]))),(275,.mp (Qw (.int .i64 ((ta2).length:Int)) (I 1) (sa.2:List D)))]
theorem VD {n:Nat} {a0 a1:Int} {a2:List D} {a3 a4:Int} {a5:List D} {a7 a8:Int} {t12 t14 t15:Int×Int×List D×Int} {t23 t25 t27:List D×Int} {sa:Int×List D} {ta2:List D} {sb:Bool×Int} {tb2:List D} (sc:(Bool×Int)) (r) (h:QI n a0 a1 a2 a3 a4 a5 a7 a8 t12 t14 t15 t23 t25 t27 sa ta2 sb tb2 sc=some r):Rd cx (Qs cx.P 3 2) 406 0 false (Kr a0 a1 a2 a3 a4 a5 a7 a8 t12 t14 t15 t23 t25 t27 sa ta2 sb tb2) (Kv a0 a1 a2 a3 a4 a5 a7 a8 t12 t14 t15 t23 t25 t27 sa ta2 sb tb2) (Kj a0 a1 a2 a3 a4 a5 a7 a8 t12 t14 t15 t23 t25 t27 sa ta2 sb tb2) (UC a0 a1 a2 a3 a4 a5 a7 a8 t12 t14 t15 t23 t25 t27 sa ta2 sb tb2) (UG a0 a1 a2 a3 a4 a5 a7 a8 t12 t14 t15 t23 t25 t27 sa ta2 sb tb2) sc r:=by
 unfold QI at h
 by_cases hc1:sc.2 < ((ta2).length:Int)
 ·replace h:=Qj h hc1
  obtain ⟨tc2,hc2,h⟩:=Qe h
  by_cases hc3:sc.1=true
  ·replace h:=Qj h hc3
   obtain ⟨hc4,h⟩:=Qf h
   obtain ⟨hc5,h⟩:=Qf h
   obtain ⟨tc6,hc6,h⟩:=Qe h
   obtain ⟨hc7,h⟩:=Qf h
   replace h:=Option.some.inj h
   subst h
   exact ⟨100,309,[.br true,.el (.agg [I tc2.1,I tc2.2]),.br true,.ret (B tc6)],[],[3,4,8,9,10,12,14,18,20,30,31,32,33,35,36,240,241,242,252,253,254,263,264,265],[0,1,45,55,65,75,275],Qg (ob:=[Qb (sc.2+1),Computes cx 15 [.lst false 2 tb2,.agg [I ((a0 - 1) - tc2.1),I tc2.2]] (B tc6),Qb ((a0 - 1) - tc2.1),Qb (a0 - 1),sc.1=true,(0:Int)≤sc.2,nth (ta2) (Int.toNat sc.2)=some (.agg [I tc2.1,I tc2.2]),(decide (sc.2 < ((ta2).length:Int)))=true]) (by kernel_rfl) ⟨hc7,(wO hc6),hc5,hc4,hc3,(Qp Qi hc2).1,(Qp Qi hc2).2,(decide_eq_true hc1),trivial⟩⟩
  ·replace h:=Qk h hc3
   obtain ⟨hc4,h⟩:=Qf h
   replace h:=Option.some.inj h
   subst h
   exact ⟨100,309,[.br true,.el (.agg [I tc2.1,I tc2.2]),.br false],[],[3,4,8,9,10,12,14,18,20,30,31,32,33,35,36,240,241,242,252,253,254,263,264,265],[0,1,45,55,65,75,275],Qg (ob:=[Qb (sc.2+1),sc.1=false,(0:Int)≤sc.2,nth (ta2) (Int.toNat sc.2)=some (.agg [I tc2.1,I tc2.2]),(decide (sc.2 < ((ta2).length:Int)))=true]) (by kernel_rfl) ⟨hc4,(QJ hc3),(Qp Qi hc2).1,(Qp Qi hc2).2,(decide_eq_true hc1),trivial⟩⟩
 ·replace h:=Qk h hc1
  replace h:=Option.some.inj h
  subst h
  exact ⟨⟨100,309,[.br false],[],[3,4,8,9,10,12,14,18,20,30,31,32,33,36,240,241,242,252,253,254],[0,1,45,55,65,75,275],Qg (ob:=[(decide (sc.2 < ((ta2).length:Int)))=false]) (by kernel_rfl) ⟨(decide_eq_false hc1),trivial⟩⟩,nofun⟩
def QO (n:Nat) (a0 a1:Int) (a2:List D) (a3 a4:Int) (a5:List D) (a7 a8:Int) (t12 t14 t15:Int×Int×List D×Int) (t23 t25 t27:List D×Int) (sa:Int×List D) (ta2:List D) (sb:(Bool×Int)):Option (((Bool×Int))⊕((Bool))) :=
 if sb.2 < ((t25.1).length:Int) then
  (el ju t25.1 sb.2).bind fun tb2 =>
  (Qz (QI n a0 a1 a2 a3 a4 a5 a7 a8 t12 t14 t15 t23 t25 t27 sa ta2 sb tb2) n ((((tb2).length:Int) == ((ta2).length:Int)),0)).bind fun tb3 =>
  if sb.1=true then
   if Qb (sb.2+1) then
   some (.inl (true,(sb.2+1)))
   else none
  else
  if Qb (sb.2+1) then
  some (.inl (tb3,(sb.2+1)))
  else none
 else
 some (.inr sb.1)
noncomputable def Kq (a0 a1:Int) (a2:List D) (a3 a4:Int) (a5:List D) (a7 a8:Int) (t12 t14 t15:Int×Int×List D×Int) (t23 t25 t27:List D×Int) (sa:Int×List D) (ta2:List D) (sb:(Bool×Int)):List (Nat×AV):=[(3,.ptr 0 0 0 0 0),(4,.ptr 1 0 0 0 0),(8,.ptr 45 0 0 0 0),(9,.d (.fn (.func 6) [] [])),(10,.ptr 55 0 0 0 0),(12,.ptr 65 0 0 0 0),(14,.ptr 75 0 0 0 0),(18,.d (.lst false 1 t25.1)),(20,.d (.lst false 1 t27.1)),(30,.own 275 0),(31,.d (I sa.1)),(32,.d (.lst false 2 ta2)),(33,.d (B sb.1)),(240,.d (.lst false 1 t23.1)),(241,.d (I ((t23.1).length:Int))),(242,.d (I sa.1)),(252,.d (.lst false 1 t25.1)),(253,.d (I ((t25.1).length:Int))),(254,.d (I sb.2))]
noncomputable def Ku (a0 a1:Int) (a2:List D) (a3 a4:Int) (a5:List D) (a7 a8:Int) (t12 t14 t15:Int×Int×List D×Int) (t23 t25 t27:List D×Int) (sa:Int×List D) (ta2:List D) (sb:(Bool×Int)):List (Nat×Blk):=[(0,.box (.d (.agg [I a0,I a1,.lst false 1 a2]))),(1,.box (.d (.agg [I a3,I a4,.lst false 1 a5]))),(45,.box (.d (.agg [I ((Int.tmod (IntKind.wrap .i64 a7) 5) - 2),I ((Int.tmod (IntKind.wrap .i64 a8) 5) - 2)]))),(55,.box (.d (.agg [I t12.1,I t12.2.1,.lst false 1 t12.2.2.1]))),(65,.box (.d (.agg [I t14.1,I t14.2.1,.lst false 1 t14.2.2.1]))),(75,.box (.d (.agg [I t15.1,I t15.2.1,.lst false 1 t15.2.2.1]))),(275,.mp (Qw (.int .i64 ((ta2).length:Int)) (I 1) (sa.2:List D)))]
noncomputable def Ki (a0 a1:Int) (a2:List D) (a3 a4:Int) (a5:List D) (a7 a8:Int) (t12 t14 t15:Int×Int×List D×Int) (t23 t25 t27:List D×Int) (sa:Int×List D) (ta2:List D) (e:(Bool)):Ex:=(.exit 2)
noncomputable def UB (a0 a1:Int) (a2:List D) (a3 a4:Int) (a5:List D) (a7 a8:Int) (t12 t14 t15:Int×Int×List D×Int) (t23 t25 t27:List D×Int) (sa:Int×List D) (ta2:List D) (e:(Bool)):List (Nat×AV):=[(3,.ptr 0 0 0 0 0),(4,.ptr 1 0 0 0 0),(8,.ptr 45 0 0 0 0),(9,.d (.fn (.func 6) [] [])),(10,.ptr 55 0 0 0 0),(12,.ptr 65 0 0 0 0),(14,.ptr 75 0 0 0 0),(18,.d (.lst false 1 t25.1)),(20,.d (.lst false 1 t27.1)),(30,.own 275 0),(31,.d (I sa.1)),(33,.d (B e)),(240,.d (.lst false 1 t23.1)),(241,.d (I ((t23.1).length:Int))),(242,.d (I sa.1))]
noncomputable def UF (a0 a1:Int) (a2:List D) (a3 a4:Int) (a5:List D) (a7 a8:Int) (t12 t14 t15:Int×Int×List D×Int) (t23 t25 t27:List D×Int) (sa:Int×List D) (ta2:List D) (e:(Bool)):List (Nat×Blk):=[(0,.box (.d (.agg [I a0,I a1,.lst false 1 a2]))),(1,.box (.d (.agg [I a3,I a4,.lst false 1 a5]))),(45,.box (.d (.agg [I ((Int.tmod (IntKind.wrap .i64 a7) 5) - 2),I ((Int.tmod (IntKind.wrap .i64 a8) 5) - 2)]))),(55,.box (.d (.agg [I t12.1,I t12.2.1,.lst false 1 t12.2.2.1]))),(65,.box (.d (.agg [I t14.1,I t14.2.1,.lst false 1 t14.2.2.1]))),(75,.box (.d (.agg [I t15.1,I t15.2.1,.lst false 1 t15.2.2.1]))),(275,.mp (Qw (.int .i64 ((ta2).length:Int)) (I 1) (sa.2:List D)))]
theorem VC {n:Nat} {a0 a1:Int} {a2:List D} {a3 a4:Int} {a5:List D} {a7 a8:Int} {t12 t14 t15:Int×Int×List D×Int} {t23 t25 t27:List D×Int} {sa:Int×List D} {ta2:List D} (sb:(Bool×Int)) (r) (h:QO n a0 a1 a2 a3 a4 a5 a7 a8 t12 t14 t15 t23 t25 t27 sa ta2 sb=some r):Rd cx (Qs cx.P 3 1) 406 0 false (Kq a0 a1 a2 a3 a4 a5 a7 a8 t12 t14 t15 t23 t25 t27 sa ta2) (Ku a0 a1 a2 a3 a4 a5 a7 a8 t12 t14 t15 t23 t25 t27 sa ta2) (Ki a0 a1 a2 a3 a4 a5 a7 a8 t12 t14 t15 t23 t25 t27 sa ta2) (UB a0 a1 a2 a3 a4 a5 a7 a8 t12 t14 t15 t23 t25 t27 sa ta2) (UF a0 a1 a2 a3 a4 a5 a7 a8 t12 t14 t15 t23 t25 t27 sa ta2) sb r:=by
 unfold QO at h
 by_cases hb1:sb.2 < ((t25.1).length:Int)
 ·replace h:=Qj h hb1
  obtain ⟨tb2,hb2,h⟩:=Qe h
  obtain ⟨tb3,hb3,h⟩:=Qe h
  by_cases hb4:sb.1=true
  ·replace h:=Qj h hb4
   obtain ⟨hb5,h⟩:=Qf h
   replace h:=Option.some.inj h
   subst h
   exact ⟨100,296,[.br true,.el (.lst false 2 tb2),.lp [] [3,4,8,9,10,12,14,18,20,30,31,32,33,35,36,240,241,242,252,253,254,263,264,265] [0,1,45,55,65,75,275] (.exit 4) [(3,.ptr 0 0 0 0 0),(4,.ptr 1 0 0 0 0),(8,.ptr 45 0 0 0 0),(9,.d (.fn (.func 6) [] [])),(10,.ptr 55 0 0 0 0),(12,.ptr 65 0 0 0 0),(14,.ptr 75 0 0 0 0),(18,.d (.lst false 1 t25.1)),(20,.d (.lst false 1 t27.1)),(30,.own 275 0),(31,.d (I sa.1)),(32,.d (.lst false 2 ta2)),(33,.d (B sb.1)),(36,.d (B tb3)),(240,.d (.lst false 1 t23.1)),(241,.d (I ((t23.1).length:Int))),(242,.d (I sa.1)),(252,.d (.lst false 1 t25.1)),(253,.d (I ((t25.1).length:Int))),(254,.d (I sb.2))] [(0,.box (.d (.agg [I a0,I a1,.lst false 1 a2]))),(1,.box (.d (.agg [I a3,I a4,.lst false 1 a5]))),(45,.box (.d (.agg [I ((Int.tmod (IntKind.wrap .i64 a7) 5) - 2),I ((Int.tmod (IntKind.wrap .i64 a8) 5) - 2)]))),(55,.box (.d (.agg [I t12.1,I t12.2.1,.lst false 1 t12.2.2.1]))),(65,.box (.d (.agg [I t14.1,I t14.2.1,.lst false 1 t14.2.2.1]))),(75,.box (.d (.agg [I t15.1,I t15.2.1,.lst false 1 t15.2.2.1]))),(275,.mp (Qw (.int .i64 ((ta2).length:Int)) (I 1) (sa.2:List D)))] 342,.br true],[],[3,4,8,9,10,12,14,18,20,30,31,32,33,240,241,242,252,253,254],[0,1,45,55,65,75,275],Qg (ob:=[Qb (sb.2+1),sb.1=true,QM cx (Qs cx.P 3 2) 406 0 false [(3,.ptr 0 0 0 0 0),(4,.ptr 1 0 0 0 0),(8,.ptr 45 0 0 0 0),(9,.d (.fn (.func 6) [] [])),(10,.ptr 55 0 0 0 0),(12,.ptr 65 0 0 0 0),(14,.ptr 75 0 0 0 0),(18,.d (.lst false 1 t25.1)),(20,.d (.lst false 1 t27.1)),(30,.own 275 0),(31,.d (I sa.1)),(32,.d (.lst false 2 ta2)),(33,.d (B sb.1)),(35,.d (.lst false 2 tb2)),(36,.d (B (((tb2).length:Int) == ((ta2).length:Int)))),(240,.d (.lst false 1 t23.1)),(241,.d (I ((t23.1).length:Int))),(242,.d (I sa.1)),(252,.d (.lst false 1 t25.1)),(253,.d (I ((t25.1).length:Int))),(254,.d (I sb.2)),(263,.d (.lst false 2 ta2)),(264,.d (I ((ta2).length:Int))),(265,.d (I 0))] [(0,.box (.d (.agg [I a0,I a1,.lst false 1 a2]))),(1,.box (.d (.agg [I a3,I a4,.lst false 1 a5]))),(45,.box (.d (.agg [I ((Int.tmod (IntKind.wrap .i64 a7) 5) - 2),I ((Int.tmod (IntKind.wrap .i64 a8) 5) - 2)]))),(55,.box (.d (.agg [I t12.1,I t12.2.1,.lst false 1 t12.2.2.1]))),(65,.box (.d (.agg [I t14.1,I t14.2.1,.lst false 1 t14.2.2.1]))),(75,.box (.d (.agg [I t15.1,I t15.2.1,.lst false 1 t15.2.2.1]))),(275,.mp (Qw (.int .i64 ((ta2).length:Int)) (I 1) (sa.2:List D)))] (.exit 4) [(3,.ptr 0 0 0 0 0),(4,.ptr 1 0 0 0 0),(8,.ptr 45 0 0 0 0),(9,.d (.fn (.func 6) [] [])),(10,.ptr 55 0 0 0 0),(12,.ptr 65 0 0 0 0),(14,.ptr 75 0 0 0 0),(18,.d (.lst false 1 t25.1)),(20,.d (.lst false 1 t27.1)),(30,.own 275 0),(31,.d (I sa.1)),(32,.d (.lst false 2 ta2)),(33,.d (B sb.1)),(36,.d (B tb3)),(240,.d (.lst false 1 t23.1)),(241,.d (I ((t23.1).length:Int))),(242,.d (I sa.1)),(252,.d (.lst false 1 t25.1)),(253,.d (I ((t25.1).length:Int))),(254,.d (I sb.2))] [(0,.box (.d (.agg [I a0,I a1,.lst false 1 a2]))),(1,.box (.d (.agg [I a3,I a4,.lst false 1 a5]))),(45,.box (.d (.agg [I ((Int.tmod (IntKind.wrap .i64 a7) 5) - 2),I ((Int.tmod (IntKind.wrap .i64 a8) 5) - 2)]))),(55,.box (.d (.agg [I t12.1,I t12.2.1,.lst false 1 t12.2.2.1]))),(65,.box (.d (.agg [I t14.1,I t14.2.1,.lst false 1 t14.2.2.1]))),(75,.box (.d (.agg [I t15.1,I t15.2.1,.lst false 1 t15.2.2.1]))),(275,.mp (Qw (.int .i64 ((ta2).length:Int)) (I 1) (sa.2:List D)))],(0:Int)≤sb.2,nth (t25.1) (Int.toNat sb.2)=some (.lst false 2 tb2),(decide (sb.2 < ((t25.1).length:Int)))=true]) (by kernel_rfl) ⟨hb5,hb4,(Qu VD hb3),(Qp Q9 hb2).1,(Qp Q9 hb2).2,(decide_eq_true hb1),trivial⟩⟩
  ·replace h:=Qk h hb4
   obtain ⟨hb5,h⟩:=Qf h
   replace h:=Option.some.inj h
   subst h
   exact ⟨100,296,[.br true,.el (.lst false 2 tb2),.lp [] [3,4,8,9,10,12,14,18,20,30,31,32,33,35,36,240,241,242,252,253,254,263,264,265] [0,1,45,55,65,75,275] (.exit 4) [(3,.ptr 0 0 0 0 0),(4,.ptr 1 0 0 0 0),(8,.ptr 45 0 0 0 0),(9,.d (.fn (.func 6) [] [])),(10,.ptr 55 0 0 0 0),(12,.ptr 65 0 0 0 0),(14,.ptr 75 0 0 0 0),(18,.d (.lst false 1 t25.1)),(20,.d (.lst false 1 t27.1)),(30,.own 275 0),(31,.d (I sa.1)),(32,.d (.lst false 2 ta2)),(33,.d (B sb.1)),(36,.d (B tb3)),(240,.d (.lst false 1 t23.1)),(241,.d (I ((t23.1).length:Int))),(242,.d (I sa.1)),(252,.d (.lst false 1 t25.1)),(253,.d (I ((t25.1).length:Int))),(254,.d (I sb.2))] [(0,.box (.d (.agg [I a0,I a1,.lst false 1 a2]))),(1,.box (.d (.agg [I a3,I a4,.lst false 1 a5]))),(45,.box (.d (.agg [I ((Int.tmod (IntKind.wrap .i64 a7) 5) - 2),I ((Int.tmod (IntKind.wrap .i64 a8) 5) - 2)]))),(55,.box (.d (.agg [I t12.1,I t12.2.1,.lst false 1 t12.2.2.1]))),(65,.box (.d (.agg [I t14.1,I t14.2.1,.lst false 1 t14.2.2.1]))),(75,.box (.d (.agg [I t15.1,I t15.2.1,.lst false 1 t15.2.2.1]))),(275,.mp (Qw (.int .i64 ((ta2).length:Int)) (I 1) (sa.2:List D)))] 342,.br false],[],[3,4,8,9,10,12,14,18,20,30,31,32,33,240,241,242,252,253,254],[0,1,45,55,65,75,275],Qg (ob:=[Qb (sb.2+1),sb.1=false,QM cx (Qs cx.P 3 2) 406 0 false [(3,.ptr 0 0 0 0 0),(4,.ptr 1 0 0 0 0),(8,.ptr 45 0 0 0 0),(9,.d (.fn (.func 6) [] [])),(10,.ptr 55 0 0 0 0),(12,.ptr 65 0 0 0 0),(14,.ptr 75 0 0 0 0),(18,.d (.lst false 1 t25.1)),(20,.d (.lst false 1 t27.1)),(30,.own 275 0),(31,.d (I sa.1)),(32,.d (.lst false 2 ta2)),(33,.d (B sb.1)),(35,.d (.lst false 2 tb2)),(36,.d (B (((tb2).length:Int) == ((ta2).length:Int)))),(240,.d (.lst false 1 t23.1)),(241,.d (I ((t23.1).length:Int))),(242,.d (I sa.1)),(252,.d (.lst false 1 t25.1)),(253,.d (I ((t25.1).length:Int))),(254,.d (I sb.2)),(263,.d (.lst false 2 ta2)),(264,.d (I ((ta2).length:Int))),(265,.d (I 0))] [(0,.box (.d (.agg [I a0,I a1,.lst false 1 a2]))),(1,.box (.d (.agg [I a3,I a4,.lst false 1 a5]))),(45,.box (.d (.agg [I ((Int.tmod (IntKind.wrap .i64 a7) 5) - 2),I ((Int.tmod (IntKind.wrap .i64 a8) 5) - 2)]))),(55,.box (.d (.agg [I t12.1,I t12.2.1,.lst false 1 t12.2.2.1]))),(65,.box (.d (.agg [I t14.1,I t14.2.1,.lst false 1 t14.2.2.1]))),(75,.box (.d (.agg [I t15.1,I t15.2.1,.lst false 1 t15.2.2.1]))),(275,.mp (Qw (.int .i64 ((ta2).length:Int)) (I 1) (sa.2:List D)))] (.exit 4) [(3,.ptr 0 0 0 0 0),(4,.ptr 1 0 0 0 0),(8,.ptr 45 0 0 0 0),(9,.d (.fn (.func 6) [] [])),(10,.ptr 55 0 0 0 0),(12,.ptr 65 0 0 0 0),(14,.ptr 75 0 0 0 0),(18,.d (.lst false 1 t25.1)),(20,.d (.lst false 1 t27.1)),(30,.own 275 0),(31,.d (I sa.1)),(32,.d (.lst false 2 ta2)),(33,.d (B sb.1)),(36,.d (B tb3)),(240,.d (.lst false 1 t23.1)),(241,.d (I ((t23.1).length:Int))),(242,.d (I sa.1)),(252,.d (.lst false 1 t25.1)),(253,.d (I ((t25.1).length:Int))),(254,.d (I sb.2))] [(0,.box (.d (.agg [I a0,I a1,.lst false 1 a2]))),(1,.box (.d (.agg [I a3,I a4,.lst false 1 a5]))),(45,.box (.d (.agg [I ((Int.tmod (IntKind.wrap .i64 a7) 5) - 2),I ((Int.tmod (IntKind.wrap .i64 a8) 5) - 2)]))),(55,.box (.d (.agg [I t12.1,I t12.2.1,.lst false 1 t12.2.2.1]))),(65,.box (.d (.agg [I t14.1,I t14.2.1,.lst false 1 t14.2.2.1]))),(75,.box (.d (.agg [I t15.1,I t15.2.1,.lst false 1 t15.2.2.1]))),(275,.mp (Qw (.int .i64 ((ta2).length:Int)) (I 1) (sa.2:List D)))],(0:Int)≤sb.2,nth (t25.1) (Int.toNat sb.2)=some (.lst false 2 tb2),(decide (sb.2 < ((t25.1).length:Int)))=true]) (by kernel_rfl) ⟨hb5,(QJ hb4),(Qu VD hb3),(Qp Q9 hb2).1,(Qp Q9 hb2).2,(decide_eq_true hb1),trivial⟩⟩
 ·replace h:=Qk h hb1
  replace h:=Option.some.inj h
  subst h
  exact ⟨⟨100,296,[.br false],[],[3,4,8,9,10,12,14,18,20,30,31,33,240,241,242],[0,1,45,55,65,75,275],Qg (ob:=[(decide (sb.2 < ((t25.1).length:Int)))=false]) (by kernel_rfl) ⟨(decide_eq_false hb1),trivial⟩⟩,nofun⟩
def QH (n:Nat) (a0 a1:Int) (a2:List D) (a3 a4:Int) (a5:List D) (a7 a8:Int) (t12 t14 t15:Int×Int×List D×Int) (t23 t25 t27:List D×Int) (sa:(Int×List D)):Option (((Int×List D))⊕((List D))) :=
 if sa.1 < ((t23.1).length:Int) then
  (el ju t23.1 sa.1).bind fun ta2 =>
  if mok (.int .i64 ((ta2).length:Int)) (sa.2:List D)=true then
  if (QD (.int .i64 ((ta2).length:Int)) (sa.2:List D)).isSome=true then
   ((QD (.int .i64 ((ta2).length:Int)) (sa.2:List D)).bind un_i).bind fun ta5 =>
   if Qb (ta5+1) then
   (Qz (QP n a0 a1 a2 a3 a4 a5 a7 a8 t12 t14 t15 t23 t25 t27 sa ta2 ta5) n (false,0)).bind fun ta7 =>
   if ta7=true then
    (el ju t27.1 sa.1).bind fun ta9 =>
    if mok (.int .i64 ((ta9).length:Int)) ((Qw (.int .i64 ((ta2).length:Int)) (I (ta5+1)) (sa.2:List D)):List D)=true then
    if (QD (.int .i64 ((ta9).length:Int)) ((Qw (.int .i64 ((ta2).length:Int)) (I (ta5+1)) (sa.2:List D)):List D)).isSome=true then
     ((QD (.int .i64 ((ta9).length:Int)) ((Qw (.int .i64 ((ta2).length:Int)) (I (ta5+1)) (sa.2:List D)):List D)).bind un_i).bind fun ta12 =>
     if Qb (ta12 - 1) then
     if Qb (sa.1+1) then
     some (.inl ((sa.1+1),(Qw (.int .i64 ((ta9).length:Int)) (I (ta12 - 1)) ((Qw (.int .i64 ((ta2).length:Int)) (I (ta5+1)) (sa.2:List D)):List D))))
     else none
     else none
    else
    if Qb (sa.1+1) then
    some (.inl ((sa.1+1),(Qw (.int .i64 ((ta9).length:Int)) (I (-1)) ((Qw (.int .i64 ((ta2).length:Int)) (I (ta5+1)) (sa.2:List D)):List D))))
    else none
    else none
   else
   none
   else none
  else
  (Qz (QO n a0 a1 a2 a3 a4 a5 a7 a8 t12 t14 t15 t23 t25 t27 sa ta2) n (false,0)).bind fun ta5 =>
  if ta5=true then
   (el ju t27.1 sa.1).bind fun ta7 =>
   if mok (.int .i64 ((ta7).length:Int)) ((Qw (.int .i64 ((ta2).length:Int)) (I 1) (sa.2:List D)):List D)=true then
   if (QD (.int .i64 ((ta7).length:Int)) ((Qw (.int .i64 ((ta2).length:Int)) (I 1) (sa.2:List D)):List D)).isSome=true then
    ((QD (.int .i64 ((ta7).length:Int)) ((Qw (.int .i64 ((ta2).length:Int)) (I 1) (sa.2:List D)):List D)).bind un_i).bind fun ta10 =>
    if Qb (ta10 - 1) then
    if Qb (sa.1+1) then
    some (.inl ((sa.1+1),(Qw (.int .i64 ((ta7).length:Int)) (I (ta10 - 1)) ((Qw (.int .i64 ((ta2).length:Int)) (I 1) (sa.2:List D)):List D))))
    else none
    else none
   else
   if Qb (sa.1+1) then
   some (.inl ((sa.1+1),(Qw (.int .i64 ((ta7).length:Int)) (I (-1)) ((Qw (.int .i64 ((ta2).length:Int)) (I 1) (sa.2:List D)):List D))))
   else none
   else none
  else
  none
  else none
 else
 some (.inr sa.2)
noncomputable def Kp (a0 a1:Int) (a2:List D) (a3 a4:Int) (a5:List D) (a7 a8:Int) (t12 t14 t15:Int×Int×List D×Int) (t23 t25 t27:List D×Int) (sa:(Int×List D)):List (Nat×AV):=[(3,.ptr 0 0 0 0 0),(4,.ptr 1 0 0 0 0),(8,.ptr 45 0 0 0 0),(9,.d (.fn (.func 6) [] [])),(10,.ptr 55 0 0 0 0),(12,.ptr 65 0 0 0 0),(14,.ptr 75 0 0 0 0),(18,.d (.lst false 1 t25.1)),(20,.d (.lst false 1 t27.1)),(30,.own 275 0),(240,.d (.lst false 1 t23.1)),(241,.d (I ((t23.1).length:Int))),(242,.d (I sa.1))]
noncomputable def Kt (a0 a1:Int) (a2:List D) (a3 a4:Int) (a5:List D) (a7 a8:Int) (t12 t14 t15:Int×Int×List D×Int) (t23 t25 t27:List D×Int) (sa:(Int×List D)):List (Nat×Blk):=[(0,.box (.d (.agg [I a0,I a1,.lst false 1 a2]))),(1,.box (.d (.agg [I a3,I a4,.lst false 1 a5]))),(45,.box (.d (.agg [I ((Int.tmod (IntKind.wrap .i64 a7) 5) - 2),I ((Int.tmod (IntKind.wrap .i64 a8) 5) - 2)]))),(55,.box (.d (.agg [I t12.1,I t12.2.1,.lst false 1 t12.2.2.1]))),(65,.box (.d (.agg [I t14.1,I t14.2.1,.lst false 1 t14.2.2.1]))),(75,.box (.d (.agg [I t15.1,I t15.2.1,.lst false 1 t15.2.2.1]))),(275,.mp sa.2)]
noncomputable def Kh (a0 a1:Int) (a2:List D) (a3 a4:Int) (a5:List D) (a7 a8:Int) (t12 t14 t15:Int×Int×List D×Int) (t23 t25 t27:List D×Int) (e:(List D)):Ex:=(.exit 0)
noncomputable def UA (a0 a1:Int) (a2:List D) (a3 a4:Int) (a5:List D) (a7 a8:Int) (t12 t14 t15:Int×Int×List D×Int) (t23 t25 t27:List D×Int) (e:(List D)):List (Nat×AV):=[(3,.ptr 0 0 0 0 0),(4,.ptr 1 0 0 0 0),(8,.ptr 45 0 0 0 0),(9,.d (.fn (.func 6) [] [])),(10,.ptr 55 0 0 0 0),(12,.ptr 65 0 0 0 0),(14,.ptr 75 0 0 0 0),(30,.own 275 0)]
noncomputable def UE (a0 a1:Int) (a2:List D) (a3 a4:Int) (a5:List D) (a7 a8:Int) (t12 t14 t15:Int×Int×List D×Int) (t23 t25 t27:List D×Int) (e:(List D)):List (Nat×Blk):=[(0,.box (.d (.agg [I a0,I a1,.lst false 1 a2]))),(1,.box (.d (.agg [I a3,I a4,.lst false 1 a5]))),(45,.box (.d (.agg [I ((Int.tmod (IntKind.wrap .i64 a7) 5) - 2),I ((Int.tmod (IntKind.wrap .i64 a8) 5) - 2)]))),(55,.box (.d (.agg [I t12.1,I t12.2.1,.lst false 1 t12.2.2.1]))),(65,.box (.d (.agg [I t14.1,I t14.2.1,.lst false 1 t14.2.2.1]))),(75,.box (.d (.agg [I t15.1,I t15.2.1,.lst false 1 t15.2.2.1]))),(275,.mp e)]
theorem VB {n:Nat} {a0 a1:Int} {a2:List D} {a3 a4:Int} {a5:List D} {a7 a8:Int} {t12 t14 t15:Int×Int×List D×Int} {t23 t25 t27:List D×Int} (sa:(Int×List D)) (r) (h:QH n a0 a1 a2 a3 a4 a5 a7 a8 t12 t14 t15 t23 t25 t27 sa=some r):Rd cx (Qs cx.P 3 0) 406 0 false (Kp a0 a1 a2 a3 a4 a5 a7 a8 t12 t14 t15 t23 t25 t27) (Kt a0 a1 a2 a3 a4 a5 a7 a8 t12 t14 t15 t23 t25 t27) (Kh a0 a1 a2 a3 a4 a5 a7 a8 t12 t14 t15 t23 t25 t27) (UA a0 a1 a2 a3 a4 a5 a7 a8 t12 t14 t15 t23 t25 t27) (UE a0 a1 a2 a3 a4 a5 a7 a8 t12 t14 t15 t23 t25 t27) sa r:=by
 unfold QH at h
 by_cases ha1:sa.1 < ((t23.1).length:Int)
 ·replace h:=Qj h ha1
  obtain ⟨ta2,ha2,h⟩:=Qe h
  obtain ⟨ha3,h⟩:=Qf h
  by_cases ha4:(QD (.int .i64 ((ta2).length:Int)) (sa.2:List D)).isSome=true
  ·replace h:=Qj h ha4
   obtain ⟨ta5,ha5,h⟩:=Qe h
   obtain ⟨ha6,h⟩:=Qf h
   obtain ⟨ta7,ha7,h⟩:=Qe h
   by_cases ha8:ta7=true
   ·replace h:=Qj h ha8
    obtain ⟨ta9,ha9,h⟩:=Qe h
    obtain ⟨ha10,h⟩:=Qf h
    by_cases ha11:(QD (.int .i64 ((ta9).length:Int)) ((Qw (.int .i64 ((ta2).length:Int)) (I (ta5+1)) (sa.2:List D)):List D)).isSome=true
    ·replace h:=Qj h ha11
     obtain ⟨ta12,ha12,h⟩:=Qe h
     obtain ⟨ha13,h⟩:=Qf h
     obtain ⟨ha14,h⟩:=Qf h
     replace h:=Option.some.inj h
     subst h
     exact ⟨100,280,[.br true,.el (.lst false 2 ta2),.el (I ta5),.br true,.lp [] [3,4,8,9,10,12,14,18,20,30,31,32,33,240,241,242,252,253,254] [0,1,45,55,65,75,275] (.exit 2) [(3,.ptr 0 0 0 0 0),(4,.ptr 1 0 0 0 0),(8,.ptr 45 0 0 0 0),(9,.d (.fn (.func 6) [] [])),(10,.ptr 55 0 0 0 0),(12,.ptr 65 0 0 0 0),(14,.ptr 75 0 0 0 0),(18,.d (.lst false 1 t25.1)),(20,.d (.lst false 1 t27.1)),(30,.own 275 0),(31,.d (I sa.1)),(33,.d (B ta7)),(240,.d (.lst false 1 t23.1)),(241,.d (I ((t23.1).length:Int))),(242,.d (I sa.1))] [(0,.box (.d (.agg [I a0,I a1,.lst false 1 a2]))),(1,.box (.d (.agg [I a3,I a4,.lst false 1 a5]))),(45,.box (.d (.agg [I ((Int.tmod (IntKind.wrap .i64 a7) 5) - 2),I ((Int.tmod (IntKind.wrap .i64 a8) 5) - 2)]))),(55,.box (.d (.agg [I t12.1,I t12.2.1,.lst false 1 t12.2.2.1]))),(65,.box (.d (.agg [I t14.1,I t14.2.1,.lst false 1 t14.2.2.1]))),(75,.box (.d (.agg [I t15.1,I t15.2.1,.lst false 1 t15.2.2.1]))),(275,.mp (Qw (.int .i64 ((ta2).length:Int)) (I (ta5+1)) (sa.2:List D)))] 360,.br false,.el (.lst false 2 ta9),.el (I ta12),.br true],[],[3,4,8,9,10,12,14,18,20,30,240,241,242],[0,1,45,55,65,75,275],Qg (ob:=[Qb (sa.1+1),mok (.int .i64 ((ta9).length:Int)) ((Qw (.int .i64 ((ta2).length:Int)) (I (ta5+1)) (sa.2:List D)):List D)=true,Qb (ta12 - 1),QU false (.int .i64 ((ta9).length:Int)) (I 0) ((Qw (.int .i64 ((ta2).length:Int)) (I (ta5+1)) (sa.2:List D)):List D)=some (I ta12),(0:Int)≤sa.1,nth (t27.1) (Int.toNat sa.1)=some (.lst false 2 ta9),(!ta7)=false,QM cx (Qs cx.P 3 1) 406 0 false [(3,.ptr 0 0 0 0 0),(4,.ptr 1 0 0 0 0),(8,.ptr 45 0 0 0 0),(9,.d (.fn (.func 6) [] [])),(10,.ptr 55 0 0 0 0),(12,.ptr 65 0 0 0 0),(14,.ptr 75 0 0 0 0),(18,.d (.lst false 1 t25.1)),(20,.d (.lst false 1 t27.1)),(30,.own 275 0),(31,.d (I sa.1)),(32,.d (.lst false 2 ta2)),(33,.d (B false)),(240,.d (.lst false 1 t23.1)),(241,.d (I ((t23.1).length:Int))),(242,.d (I sa.1)),(252,.d (.lst false 1 t25.1)),(253,.d (I ((t25.1).length:Int))),(254,.d (I 0))] [(0,.box (.d (.agg [I a0,I a1,.lst false 1 a2]))),(1,.box (.d (.agg [I a3,I a4,.lst false 1 a5]))),(45,.box (.d (.agg [I ((Int.tmod (IntKind.wrap .i64 a7) 5) - 2),I ((Int.tmod (IntKind.wrap .i64 a8) 5) - 2)]))),(55,.box (.d (.agg [I t12.1,I t12.2.1,.lst false 1 t12.2.2.1]))),(65,.box (.d (.agg [I t14.1,I t14.2.1,.lst false 1 t14.2.2.1]))),(75,.box (.d (.agg [I t15.1,I t15.2.1,.lst false 1 t15.2.2.1]))),(275,.mp (Qw (.int .i64 ((ta2).length:Int)) (I (ta5+1)) (sa.2:List D)))] (.exit 2) [(3,.ptr 0 0 0 0 0),(4,.ptr 1 0 0 0 0),(8,.ptr 45 0 0 0 0),(9,.d (.fn (.func 6) [] [])),(10,.ptr 55 0 0 0 0),(12,.ptr 65 0 0 0 0),(14,.ptr 75 0 0 0 0),(18,.d (.lst false 1 t25.1)),(20,.d (.lst false 1 t27.1)),(30,.own 275 0),(31,.d (I sa.1)),(33,.d (B ta7)),(240,.d (.lst false 1 t23.1)),(241,.d (I ((t23.1).length:Int))),(242,.d (I sa.1))] [(0,.box (.d (.agg [I a0,I a1,.lst false 1 a2]))),(1,.box (.d (.agg [I a3,I a4,.lst false 1 a5]))),(45,.box (.d (.agg [I ((Int.tmod (IntKind.wrap .i64 a7) 5) - 2),I ((Int.tmod (IntKind.wrap .i64 a8) 5) - 2)]))),(55,.box (.d (.agg [I t12.1,I t12.2.1,.lst false 1 t12.2.2.1]))),(65,.box (.d (.agg [I t14.1,I t14.2.1,.lst false 1 t14.2.2.1]))),(75,.box (.d (.agg [I t15.1,I t15.2.1,.lst false 1 t15.2.2.1]))),(275,.mp (Qw (.int .i64 ((ta2).length:Int)) (I (ta5+1)) (sa.2:List D)))],mok (.int .i64 ((ta2).length:Int)) (sa.2:List D)=true,Qb (ta5+1),QU false (.int .i64 ((ta2).length:Int)) (I 0) (sa.2:List D)=some (I ta5),(0:Int)≤sa.1,nth (t23.1) (Int.toNat sa.1)=some (.lst false 2 ta2),(decide (sa.1 < ((t23.1).length:Int)))=true]) (by kernel_rfl) ⟨ha14,ha10,ha13,(Qy ha10 (ZD QQ ha12)),(Qp Q9 ha9).1,(Qp Q9 ha9).2,(yl ha8),(Qu VU ha7),ha3,ha6,(Qy ha3 (ZD QQ ha5)),(Qp Q9 ha2).1,(Qp Q9 ha2).2,(decide_eq_true ha1),trivial⟩⟩
    ·replace h:=Qk h ha11
     obtain ⟨ha12,h⟩:=Qf h
     replace h:=Option.some.inj h
     subst h
     exact ⟨100,280,[.br true,.el (.lst false 2 ta2),.el (I ta5),.br true,.lp [] [3,4,8,9,10,12,14,18,20,30,31,32,33,240,241,242,252,253,254] [0,1,45,55,65,75,275] (.exit 2) [(3,.ptr 0 0 0 0 0),(4,.ptr 1 0 0 0 0),(8,.ptr 45 0 0 0 0),(9,.d (.fn (.func 6) [] [])),(10,.ptr 55 0 0 0 0),(12,.ptr 65 0 0 0 0),(14,.ptr 75 0 0 0 0),(18,.d (.lst false 1 t25.1)),(20,.d (.lst false 1 t27.1)),(30,.own 275 0),(31,.d (I sa.1)),(33,.d (B ta7)),(240,.d (.lst false 1 t23.1)),(241,.d (I ((t23.1).length:Int))),(242,.d (I sa.1))] [(0,.box (.d (.agg [I a0,I a1,.lst false 1 a2]))),(1,.box (.d (.agg [I a3,I a4,.lst false 1 a5]))),(45,.box (.d (.agg [I ((Int.tmod (IntKind.wrap .i64 a7) 5) - 2),I ((Int.tmod (IntKind.wrap .i64 a8) 5) - 2)]))),(55,.box (.d (.agg [I t12.1,I t12.2.1,.lst false 1 t12.2.2.1]))),(65,.box (.d (.agg [I t14.1,I t14.2.1,.lst false 1 t14.2.2.1]))),(75,.box (.d (.agg [I t15.1,I t15.2.1,.lst false 1 t15.2.2.1]))),(275,.mp (Qw (.int .i64 ((ta2).length:Int)) (I (ta5+1)) (sa.2:List D)))] 360,.br false,.el (.lst false 2 ta9),.el (I 0),.br true],[],[3,4,8,9,10,12,14,18,20,30,240,241,242],[0,1,45,55,65,75,275],Qg (ob:=[Qb (sa.1+1),mok (.int .i64 ((ta9).length:Int)) ((Qw (.int .i64 ((ta2).length:Int)) (I (ta5+1)) (sa.2:List D)):List D)=true,Qb (-1),QU false (.int .i64 ((ta9).length:Int)) (I 0) ((Qw (.int .i64 ((ta2).length:Int)) (I (ta5+1)) (sa.2:List D)):List D)=some (I 0),(0:Int)≤sa.1,nth (t27.1) (Int.toNat sa.1)=some (.lst false 2 ta9),(!ta7)=false,QM cx (Qs cx.P 3 1) 406 0 false [(3,.ptr 0 0 0 0 0),(4,.ptr 1 0 0 0 0),(8,.ptr 45 0 0 0 0),(9,.d (.fn (.func 6) [] [])),(10,.ptr 55 0 0 0 0),(12,.ptr 65 0 0 0 0),(14,.ptr 75 0 0 0 0),(18,.d (.lst false 1 t25.1)),(20,.d (.lst false 1 t27.1)),(30,.own 275 0),(31,.d (I sa.1)),(32,.d (.lst false 2 ta2)),(33,.d (B false)),(240,.d (.lst false 1 t23.1)),(241,.d (I ((t23.1).length:Int))),(242,.d (I sa.1)),(252,.d (.lst false 1 t25.1)),(253,.d (I ((t25.1).length:Int))),(254,.d (I 0))] [(0,.box (.d (.agg [I a0,I a1,.lst false 1 a2]))),(1,.box (.d (.agg [I a3,I a4,.lst false 1 a5]))),(45,.box (.d (.agg [I ((Int.tmod (IntKind.wrap .i64 a7) 5) - 2),I ((Int.tmod (IntKind.wrap .i64 a8) 5) - 2)]))),(55,.box (.d (.agg [I t12.1,I t12.2.1,.lst false 1 t12.2.2.1]))),(65,.box (.d (.agg [I t14.1,I t14.2.1,.lst false 1 t14.2.2.1]))),(75,.box (.d (.agg [I t15.1,I t15.2.1,.lst false 1 t15.2.2.1]))),(275,.mp (Qw (.int .i64 ((ta2).length:Int)) (I (ta5+1)) (sa.2:List D)))] (.exit 2) [(3,.ptr 0 0 0 0 0),(4,.ptr 1 0 0 0 0),(8,.ptr 45 0 0 0 0),(9,.d (.fn (.func 6) [] [])),(10,.ptr 55 0 0 0 0),(12,.ptr 65 0 0 0 0),(14,.ptr 75 0 0 0 0),(18,.d (.lst false 1 t25.1)),(20,.d (.lst false 1 t27.1)),(30,.own 275 0),(31,.d (I sa.1)),(33,.d (B ta7)),(240,.d (.lst false 1 t23.1)),(241,.d (I ((t23.1).length:Int))),(242,.d (I sa.1))] [(0,.box (.d (.agg [I a0,I a1,.lst false 1 a2]))),(1,.box (.d (.agg [I a3,I a4,.lst false 1 a5]))),(45,.box (.d (.agg [I ((Int.tmod (IntKind.wrap .i64 a7) 5) - 2),I ((Int.tmod (IntKind.wrap .i64 a8) 5) - 2)]))),(55,.box (.d (.agg [I t12.1,I t12.2.1,.lst false 1 t12.2.2.1]))),(65,.box (.d (.agg [I t14.1,I t14.2.1,.lst false 1 t14.2.2.1]))),(75,.box (.d (.agg [I t15.1,I t15.2.1,.lst false 1 t15.2.2.1]))),(275,.mp (Qw (.int .i64 ((ta2).length:Int)) (I (ta5+1)) (sa.2:List D)))],mok (.int .i64 ((ta2).length:Int)) (sa.2:List D)=true,Qb (ta5+1),QU false (.int .i64 ((ta2).length:Int)) (I 0) (sa.2:List D)=some (I ta5),(0:Int)≤sa.1,nth (t23.1) (Int.toNat sa.1)=some (.lst false 2 ta2),(decide (sa.1 < ((t23.1).length:Int)))=true]) (by kernel_rfl) ⟨ha12,ha10,(by unfold Qb;omega),(Q0 ha10 (mno ha11)),(Qp Q9 ha9).1,(Qp Q9 ha9).2,(yl ha8),(Qu VU ha7),ha3,ha6,(Qy ha3 (ZD QQ ha5)),(Qp Q9 ha2).1,(Qp Q9 ha2).2,(decide_eq_true ha1),trivial⟩⟩
   ·replace h:=Qk h ha8
    cases h
  ·replace h:=Qk h ha4
   obtain ⟨ta5,ha5,h⟩:=Qe h
   by_cases ha6:ta5=true
   ·replace h:=Qj h ha6
    obtain ⟨ta7,ha7,h⟩:=Qe h
    obtain ⟨ha8,h⟩:=Qf h
    by_cases ha9:(QD (.int .i64 ((ta7).length:Int)) ((Qw (.int .i64 ((ta2).length:Int)) (I 1) (sa.2:List D)):List D)).isSome=true
    ·replace h:=Qj h ha9
     obtain ⟨ta10,ha10,h⟩:=Qe h
     obtain ⟨ha11,h⟩:=Qf h
     obtain ⟨ha12,h⟩:=Qf h
     replace h:=Option.some.inj h
     subst h
     exact ⟨100,280,[.br true,.el (.lst false 2 ta2),.el (I 0),.br true,.lp [] [3,4,8,9,10,12,14,18,20,30,31,32,33,240,241,242,252,253,254] [0,1,45,55,65,75,275] (.exit 2) [(3,.ptr 0 0 0 0 0),(4,.ptr 1 0 0 0 0),(8,.ptr 45 0 0 0 0),(9,.d (.fn (.func 6) [] [])),(10,.ptr 55 0 0 0 0),(12,.ptr 65 0 0 0 0),(14,.ptr 75 0 0 0 0),(18,.d (.lst false 1 t25.1)),(20,.d (.lst false 1 t27.1)),(30,.own 275 0),(31,.d (I sa.1)),(33,.d (B ta5)),(240,.d (.lst false 1 t23.1)),(241,.d (I ((t23.1).length:Int))),(242,.d (I sa.1))] [(0,.box (.d (.agg [I a0,I a1,.lst false 1 a2]))),(1,.box (.d (.agg [I a3,I a4,.lst false 1 a5]))),(45,.box (.d (.agg [I ((Int.tmod (IntKind.wrap .i64 a7) 5) - 2),I ((Int.tmod (IntKind.wrap .i64 a8) 5) - 2)]))),(55,.box (.d (.agg [I t12.1,I t12.2.1,.lst false 1 t12.2.2.1]))),(65,.box (.d (.agg [I t14.1,I t14.2.1,.lst false 1 t14.2.2.1]))),(75,.box (.d (.agg [I t15.1,I t15.2.1,.lst false 1 t15.2.2.1]))),(275,.mp (Qw (.int .i64 ((ta2).length:Int)) (I 1) (sa.2:List D)))] 360,.br false,.el (.lst false 2 ta7),.el (I ta10),.br true],[],[3,4,8,9,10,12,14,18,20,30,240,241,242],[0,1,45,55,65,75,275],Qg (ob:=[Qb (sa.1+1),mok (.int .i64 ((ta7).length:Int)) ((Qw (.int .i64 ((ta2).length:Int)) (I 1) (sa.2:List D)):List D)=true,Qb (ta10 - 1),QU false (.int .i64 ((ta7).length:Int)) (I 0) ((Qw (.int .i64 ((ta2).length:Int)) (I 1) (sa.2:List D)):List D)=some (I ta10),(0:Int)≤sa.1,nth (t27.1) (Int.toNat sa.1)=some (.lst false 2 ta7),(!ta5)=false,QM cx (Qs cx.P 3 1) 406 0 false [(3,.ptr 0 0 0 0 0),(4,.ptr 1 0 0 0 0),(8,.ptr 45 0 0 0 0),(9,.d (.fn (.func 6) [] [])),(10,.ptr 55 0 0 0 0),(12,.ptr 65 0 0 0 0),(14,.ptr 75 0 0 0 0),(18,.d (.lst false 1 t25.1)),(20,.d (.lst false 1 t27.1)),(30,.own 275 0),(31,.d (I sa.1)),(32,.d (.lst false 2 ta2)),(33,.d (B false)),(240,.d (.lst false 1 t23.1)),(241,.d (I ((t23.1).length:Int))),(242,.d (I sa.1)),(252,.d (.lst false 1 t25.1)),(253,.d (I ((t25.1).length:Int))),(254,.d (I 0))] [(0,.box (.d (.agg [I a0,I a1,.lst false 1 a2]))),(1,.box (.d (.agg [I a3,I a4,.lst false 1 a5]))),(45,.box (.d (.agg [I ((Int.tmod (IntKind.wrap .i64 a7) 5) - 2),I ((Int.tmod (IntKind.wrap .i64 a8) 5) - 2)]))),(55,.box (.d (.agg [I t12.1,I t12.2.1,.lst false 1 t12.2.2.1]))),(65,.box (.d (.agg [I t14.1,I t14.2.1,.lst false 1 t14.2.2.1]))),(75,.box (.d (.agg [I t15.1,I t15.2.1,.lst false 1 t15.2.2.1]))),(275,.mp (Qw (.int .i64 ((ta2).length:Int)) (I 1) (sa.2:List D)))] (.exit 2) [(3,.ptr 0 0 0 0 0),(4,.ptr 1 0 0 0 0),(8,.ptr 45 0 0 0 0),(9,.d (.fn (.func 6) [] [])),(10,.ptr 55 0 0 0 0),(12,.ptr 65 0 0 0 0),(14,.ptr 75 0 0 0 0),(18,.d (.lst false 1 t25.1)),(20,.d (.lst false 1 t27.1)),(30,.own 275 0),(31,.d (I sa.1)),(33,.d (B ta5)),(240,.d (.lst false 1 t23.1)),(241,.d (I ((t23.1).length:Int))),(242,.d (I sa.1))] [(0,.box (.d (.agg [I a0,I a1,.lst false 1 a2]))),(1,.box (.d (.agg [I a3,I a4,.lst false 1 a5]))),(45,.box (.d (.agg [I ((Int.tmod (IntKind.wrap .i64 a7) 5) - 2),I ((Int.tmod (IntKind.wrap .i64 a8) 5) - 2)]))),(55,.box (.d (.agg [I t12.1,I t12.2.1,.lst false 1 t12.2.2.1]))),(65,.box (.d (.agg [I t14.1,I t14.2.1,.lst false 1 t14.2.2.1]))),(75,.box (.d (.agg [I t15.1,I t15.2.1,.lst false 1 t15.2.2.1]))),(275,.mp (Qw (.int .i64 ((ta2).length:Int)) (I 1) (sa.2:List D)))],mok (.int .i64 ((ta2).length:Int)) (sa.2:List D)=true,Qb 1,QU false (.int .i64 ((ta2).length:Int)) (I 0) (sa.2:List D)=some (I 0),(0:Int)≤sa.1,nth (t23.1) (Int.toNat sa.1)=some (.lst false 2 ta2),(decide (sa.1 < ((t23.1).length:Int)))=true]) (by kernel_rfl) ⟨ha12,ha8,ha11,(Qy ha8 (ZD QQ ha10)),(Qp Q9 ha7).1,(Qp Q9 ha7).2,(yl ha6),(Qu VC ha5),ha3,(by unfold Qb;omega),(Q0 ha3 (mno ha4)),(Qp Q9 ha2).1,(Qp Q9 ha2).2,(decide_eq_true ha1),trivial⟩⟩
    ·replace h:=Qk h ha9
     obtain ⟨ha10,h⟩:=Qf h
     replace h:=Option.some.inj h
     subst h
     exact ⟨100,280,[.br true,.el (.lst false 2 ta2),.el (I 0),.br true,.lp [] [3,4,8,9,10,12,14,18,20,30,31,32,33,240,241,242,252,253,254] [0,1,45,55,65,75,275] (.exit 2) [(3,.ptr 0 0 0 0 0),(4,.ptr 1 0 0 0 0),(8,.ptr 45 0 0 0 0),(9,.d (.fn (.func 6) [] [])),(10,.ptr 55 0 0 0 0),(12,.ptr 65 0 0 0 0),(14,.ptr 75 0 0 0 0),(18,.d (.lst false 1 t25.1)),(20,.d (.lst false 1 t27.1)),(30,.own 275 0),(31,.d (I sa.1)),(33,.d (B ta5)),(240,.d (.lst false 1 t23.1)),(241,.d (I ((t23.1).length:Int))),(242,.d (I sa.1))] [(0,.box (.d (.agg [I a0,I a1,.lst false 1 a2]))),(1,.box (.d (.agg [I a3,I a4,.lst false 1 a5]))),(45,.box (.d (.agg [I ((Int.tmod (IntKind.wrap .i64 a7) 5) - 2),I ((Int.tmod (IntKind.wrap .i64 a8) 5) - 2)]))),(55,.box (.d (.agg [I t12.1,I t12.2.1,.lst false 1 t12.2.2.1]))),(65,.box (.d (.agg [I t14.1,I t14.2.1,.lst false 1 t14.2.2.1]))),(75,.box (.d (.agg [I t15.1,I t15.2.1,.lst false 1 t15.2.2.1]))),(275,.mp (Qw (.int .i64 ((ta2).length:Int)) (I 1) (sa.2:List D)))] 360,.br false,.el (.lst false 2 ta7),.el (I 0),.br true],[],[3,4,8,9,10,12,14,18,20,30,240,241,242],[0,1,45,55,65,75,275],Qg (ob:=[Qb (sa.1+1),mok (.int .i64 ((ta7).length:Int)) ((Qw (.int .i64 ((ta2).length:Int)) (I 1) (sa.2:List D)):List D)=true,Qb (-1),QU false (.int .i64 ((ta7).length:Int)) (I 0) ((Qw (.int .i64 ((ta2).length:Int)) (I 1) (sa.2:List D)):List D)=some (I 0),(0:Int)≤sa.1,nth (t27.1) (Int.toNat sa.1)=some (.lst false 2 ta7),(!ta5)=false,QM cx (Qs cx.P 3 1) 406 0 false [(3,.ptr 0 0 0 0 0),(4,.ptr 1 0 0 0 0),(8,.ptr 45 0 0 0 0),(9,.d (.fn (.func 6) [] [])),(10,.ptr 55 0 0 0 0),(12,.ptr 65 0 0 0 0),(14,.ptr 75 0 0 0 0),(18,.d (.lst false 1 t25.1)),(20,.d (.lst false 1 t27.1)),(30,.own 275 0),(31,.d (I sa.1)),(32,.d (.lst false 2 ta2)),(33,.d (B false)),(240,.d (.lst false 1 t23.1)),(241,.d (I ((t23.1).length:Int))),(242,.d (I sa.1)),(252,.d (.lst false 1 t25.1)),(253,.d (I ((t25.1).length:Int))),(254,.d (I 0))] [(0,.box (.d (.agg [I a0,I a1,.lst false 1 a2]))),(1,.box (.d (.agg [I a3,I a4,.lst false 1 a5]))),(45,.box (.d (.agg [I ((Int.tmod (IntKind.wrap .i64 a7) 5) - 2),I ((Int.tmod (IntKind.wrap .i64 a8) 5) - 2)]))),(55,.box (.d (.agg [I t12.1,I t12.2.1,.lst false 1 t12.2.2.1]))),(65,.box (.d (.agg [I t14.1,I t14.2.1,.lst false 1 t14.2.2.1]))),(75,.box (.d (.agg [I t15.1,I t15.2.1,.lst false 1 t15.2.2.1]))),(275,.mp (Qw (.int .i64 ((ta2).length:Int)) (I 1) (sa.2:List D)))] (.exit 2) [(3,.ptr 0 0 0 0 0),(4,.ptr 1 0 0 0 0),(8,.ptr 45 0 0 0 0),(9,.d (.fn (.func 6) [] [])),(10,.ptr 55 0 0 0 0),(12,.ptr 65 0 0 0 0),(14,.ptr 75 0 0 0 0),(18,.d (.lst false 1 t25.1)),(20,.d (.lst false 1 t27.1)),(30,.own 275 0),(31,.d (I sa.1)),(33,.d (B ta5)),(240,.d (.lst false 1 t23.1)),(241,.d (I ((t23.1).length:Int))),(242,.d (I sa.1))] [(0,.box (.d (.agg [I a0,I a1,.lst false 1 a2]))),(1,.box (.d (.agg [I a3,I a4,.lst false 1 a5]))),(45,.box (.d (.agg [I ((Int.tmod (IntKind.wrap .i64 a7) 5) - 2),I ((Int.tmod (IntKind.wrap .i64 a8) 5) - 2)]))),(55,.box (.d (.agg [I t12.1,I t12.2.1,.lst false 1 t12.2.2.1]))),(65,.box (.d (.agg [I t14.1,I t14.2.1,.lst false 1 t14.2.2.1]))),(75,.box (.d (.agg [I t15.1,I t15.2.1,.lst false 1 t15.2.2.1]))),(275,.mp (Qw (.int .i64 ((ta2).length:Int)) (I 1) (sa.2:List D)))],mok (.int .i64 ((ta2).length:Int)) (sa.2:List D)=true,Qb 1,QU false (.int .i64 ((ta2).length:Int)) (I 0) (sa.2:List D)=some (I 0),(0:Int)≤sa.1,nth (t23.1) (Int.toNat sa.1)=some (.lst false 2 ta2),(decide (sa.1 < ((t23.1).length:Int)))=true]) (by kernel_rfl) ⟨ha10,ha8,(by unfold Qb;omega),(Q0 ha8 (mno ha9)),(Qp Q9 ha7).1,(Qp Q9 ha7).2,(yl ha6),(Qu VC ha5),ha3,(by unfold Qb;omega),(Q0 ha3 (mno ha4)),(Qp Q9 ha2).1,(Qp Q9 ha2).2,(decide_eq_true ha1),trivial⟩⟩
   ·replace h:=Qk h ha6
    cases h
 ·replace h:=Qk h ha1
  replace h:=Option.some.inj h
  subst h
  exact ⟨⟨100,280,[.br false],[],[3,4,8,9,10,12,14,30],[0,1,45,55,65,75,275],Qg (ob:=[(decide (sa.1 < ((t23.1).length:Int)))=false]) (by kernel_rfl) ⟨(decide_eq_false ha1),trivial⟩⟩,nofun⟩
def QN (n:Nat) (a0 a1:Int) (a2:List D) (a3 a4:Int) (a5:List D) (a7 a8:Int) (t12 t14 t15:Int×Int×List D×Int) (t43:List D) (sa:(Nat)):Option (((Nat))⊕((Unit))) :=
 if 0 < sa then
  if (sa - 1) < t43.length then
  some (.inl (sa - 1))
  else none
 else
 some (.inr ())
noncomputable def Ko (a0 a1:Int) (a2:List D) (a3 a4:Int) (a5:List D) (a7 a8:Int) (t12 t14 t15:Int×Int×List D×Int) (t43:List D) (sa:(Nat)):List (Nat×AV):=[(3,.ptr 0 0 0 0 0),(4,.ptr 1 0 0 0 0),(8,.ptr 45 0 0 0 0),(9,.d (.fn (.func 6) [] [])),(10,.ptr 55 0 0 0 0),(12,.ptr 65 0 0 0 0),(14,.ptr 75 0 0 0 0),(301,.own 385 0)]
noncomputable def Ks (a0 a1:Int) (a2:List D) (a3 a4:Int) (a5:List D) (a7 a8:Int) (t12 t14 t15:Int×Int×List D×Int) (t43:List D) (sa:(Nat)):List (Nat×Blk):=[(0,.box (.d (.agg [I a0,I a1,.lst false 1 a2]))),(1,.box (.d (.agg [I a3,I a4,.lst false 1 a5]))),(45,.box (.d (.agg [I ((Int.tmod (IntKind.wrap .i64 a7) 5) - 2),I ((Int.tmod (IntKind.wrap .i64 a8) 5) - 2)]))),(55,.box (.d (.agg [I t12.1,I t12.2.1,.lst false 1 t12.2.2.1]))),(65,.box (.d (.agg [I t14.1,I t14.2.1,.lst false 1 t14.2.2.1]))),(75,.box (.d (.agg [I t15.1,I t15.2.1,.lst false 1 t15.2.2.1]))),(385,.it (.mp (.int .i64 0) t43.length) sa)]
noncomputable def Kg (a0 a1:Int) (a2:List D) (a3 a4:Int) (a5:List D) (a7 a8:Int) (t12 t14 t15:Int×Int×List D×Int) (t43:List D) (e:(Unit)):Ex:=(.exit 6)
noncomputable def Uz (a0 a1:Int) (a2:List D) (a3 a4:Int) (a5:List D) (a7 a8:Int) (t12 t14 t15:Int×Int×List D×Int) (t43:List D) (e:(Unit)):List (Nat×AV):=[(3,.ptr 0 0 0 0 0),(4,.ptr 1 0 0 0 0),(8,.ptr 45 0 0 0 0),(9,.d (.fn (.func 6) [] [])),(10,.ptr 55 0 0 0 0),(12,.ptr 65 0 0 0 0),(14,.ptr 75 0 0 0 0)]
noncomputable def UD (a0 a1:Int) (a2:List D) (a3 a4:Int) (a5:List D) (a7 a8:Int) (t12 t14 t15:Int×Int×List D×Int) (t43:List D) (e:(Unit)):List (Nat×Blk):=[(0,.box (.d (.agg [I a0,I a1,.lst false 1 a2]))),(1,.box (.d (.agg [I a3,I a4,.lst false 1 a5]))),(45,.box (.d (.agg [I ((Int.tmod (IntKind.wrap .i64 a7) 5) - 2),I ((Int.tmod (IntKind.wrap .i64 a8) 5) - 2)]))),(55,.box (.d (.agg [I t12.1,I t12.2.1,.lst false 1 t12.2.2.1]))),(65,.box (.d (.agg [I t14.1,I t14.2.1,.lst false 1 t14.2.2.1]))),(75,.box (.d (.agg [I t15.1,I t15.2.1,.lst false 1 t15.2.2.1])))]
theorem VA {n:Nat} {a0 a1:Int} {a2:List D} {a3 a4:Int} {a5:List D} {a7 a8:Int} {t12 t14 t15:Int×Int×List D×Int} {t43:List D} (sa:(Nat)) (r) (h:QN n a0 a1 a2 a3 a4 a5 a7 a8 t12 t14 t15 t43 sa=some r):Rd cx (Qs cx.P 3 3) 406 0 false (Ko a0 a1 a2 a3 a4 a5 a7 a8 t12 t14 t15 t43) (Ks a0 a1 a2 a3 a4 a5 a7 a8 t12 t14 t15 t43) (Kg a0 a1 a2 a3 a4 a5 a7 a8 t12 t14 t15 t43) (Uz a0 a1 a2 a3 a4 a5 a7 a8 t12 t14 t15 t43) (UD a0 a1 a2 a3 a4 a5 a7 a8 t12 t14 t15 t43) sa r:=by
 unfold QN at h
 by_cases ha1:0 < sa
 ·replace h:=Qj h ha1
  obtain ⟨ha2,h⟩:=Qf h
  replace h:=Option.some.inj h
  subst h
  exact ⟨100,386,[.br true,.no,.no],[],[3,4,8,9,10,12,14,301],[0,1,45,55,65,75,385],Qg (ob:=[(sa - 1) < t43.length,0 < sa]) (by kernel_rfl) ⟨ha2,ha1,trivial⟩⟩
 ·replace h:=Qk h ha1
  replace h:=Option.some.inj h
  subst h
  exact ⟨⟨100,386,[.br false,.no],[],[3,4,8,9,10,12,14],[0,1,45,55,65,75],Qg (ob:=[¬ 0 < sa]) (by kernel_rfl) ⟨ha1,trivial⟩⟩,nofun⟩
theorem Je (a0:Int) (a1:Int) (a2:List D) (a3:Int) (a4:Int) (a5:List D) (a6:Int) (a7:Int) (a8:Int) (t2:Bool):Jl true 100 cx 3 [.agg [I a0,I a1,.lst false 1 a2],.agg [I a3,I a4,.lst false 1 a5],.agg [.v (.int .u8 a6),.v (.int .u8 a7),.v (.int .u8 a8)]] [.br true,.no,.no,.no,.no,.ret (B t2)]=some (B t2,[Computes cx 5 [] (B t2),(decide (a0 > 8))=true]):=by kernel_rfl
theorem Jd (a0:Int) (a1:Int) (a2:List D) (a3:Int) (a4:Int) (a5:List D) (a6:Int) (a7:Int) (a8:Int) (t3:Bool):Jl true 100 cx 3 [.agg [I a0,I a1,.lst false 1 a2],.agg [I a3,I a4,.lst false 1 a5],.agg [.v (.int .u8 a6),.v (.int .u8 a7),.v (.int .u8 a8)]] [.br false,.br true,.no,.no,.no,.ret (B t3)]=some (B t3,[Computes cx 5 [] (B t3),(decide (a1 > 8))=true,(decide (a0 > 8))=false]):=by kernel_rfl
theorem Jc (a0:Int) (a1:Int) (a2:List D) (a3:Int) (a4:Int) (a5:List D) (a6:Int) (a7:Int) (a8:Int) (t4:Bool):Jl true 100 cx 3 [.agg [I a0,I a1,.lst false 1 a2],.agg [I a3,I a4,.lst false 1 a5],.agg [.v (.int .u8 a6),.v (.int .u8 a7),.v (.int .u8 a8)]] [.br false,.br false,.br true,.no,.no,.ret (B t4)]=some (B t4,[Computes cx 5 [] (B t4),(decide (a3 > 8))=true,(decide (a1 > 8))=false,(decide (a0 > 8))=false]):=by kernel_rfl
theorem Jb (a0:Int) (a1:Int) (a2:List D) (a3:Int) (a4:Int) (a5:List D) (a6:Int) (a7:Int) (a8:Int) (t5:Bool):Jl true 100 cx 3 [.agg [I a0,I a1,.lst false 1 a2],.agg [I a3,I a4,.lst false 1 a5],.agg [.v (.int .u8 a6),.v (.int .u8 a7),.v (.int .u8 a8)]] [.br false,.br false,.br false,.br true,.no,.ret (B t5)]=some (B t5,[Computes cx 5 [] (B t5),(decide (a4 > 8))=true,(decide (a3 > 8))=false,(decide (a1 > 8))=false,(decide (a0 > 8))=false]):=by kernel_rfl
theorem Ja (a0:Int) (a1:Int) (a2:List D) (a3:Int) (a4:Int) (a5:List D) (a6:Int) (a7:Int) (a8:Int) (t5:Int) (t11:Int×Int×List D) (t12:Int×Int×List D×Int) (t13:Int×Int×List D) (t14:Int×Int×List D×Int) (t15:Int×Int×List D×Int) (t19:Int) (t21:Int) (t23:List D×Int) (t25:List D×Int) (t27:List D×Int) (t28:Int×Int×Int) (t29:Int×Int×Int) (t30:Int×Int) (t31:Int×Int) (t43:List D) (t46:Int×Int×Int) (t48:Int×Int×Int) (t53:Int×Int×Int×Int×Int) (t54:Int×Int×Int×Int×Int) (t58:Int×Int×List D×Int) (t60:Int×Int×List D×Int) (t62:Int×Int×List D×Int) (t64:Bool) (t66:Bool):Jl true 100 cx 3 [.agg [I a0,I a1,.lst false 1 a2],.agg [I a3,I a4,.lst false 1 a5],.agg [.v (.int .u8 a6),.v (.int .u8 a7),.v (.int .u8 a8)]] [.br false,.br false,.br false,.br false,.ret (I t5),.br false,.ret (.agg [I t11.1,I t11.2.1,.lst false 1 t11.2.2]),.ret (.tup [.agg [I t12.1,I t12.2.1,.lst false 1 t12.2.2.1],I t12.2.2.2]),.ret (.agg [I t13.1,I t13.2.1,.lst false 1 t13.2.2]),.ret (.tup [.agg [I t14.1,I t14.2.1,.lst false 1 t14.2.2.1],I t14.2.2.2]),.ret (.agg [I t11.1,I t11.2.1,.lst false 1 t11.2.2]),.ret (.tup [.agg [I t15.1,I t15.2.1,.lst false 1 t15.2.2.1],I t15.2.2.2]),.br false,.br false,.br false,.ret (I t19),.br false,.ret (I t21),.br false,.ret (.agg [I t11.1,I t11.2.1,.lst false 1 t11.2.2]),.ret (.tup [.lst false 1 t23.1,I t23.2]),.br true,.br true,.ix (-8),.br true,.ret (.tup [.lst false 1 t25.1,I t25.2]),.br true,.br true,.ix (-8),.br true,.ret (.tup [.lst false 1 t27.1,I t27.2]),.ret (.agg [I t11.1,I t11.2.1,.lst false 1 t11.2.2]),.ret (.tup [.agg [I t28.1,I t28.2.1],I t28.2.2]),.br true,.br true,.ix (-8),.br true,.ret (.tup [.agg [I t29.1,I t29.2.1],I t29.2.2]),.ret (.agg [I t11.1,I t11.2.1,.lst false 1 t11.2.2]),.ret (.tup [I t30.1,I t30.2]),.br true,.br true,.ix (-8),.br true,.ret (.tup [I t31.1,I t31.2]),.br false,.br false,.br false,.br false,.br false,.br false,.br false,.br false,.br false,.br false,.br false,.lp [] [3,4,8,9,10,12,14,18,20,30,240,241,242] [0,1,45,55,65,75,275] (.exit 0) [(3,.ptr 0 0 0 0 0),(4,.ptr 1 0 0 0 0),(8,.ptr 45 0 0 0 0),(9,.d (.fn (.func 6) [] [])),(10,.ptr 55 0 0 0 0),(12,.ptr 65 0 0 0 0),(14,.ptr 75 0 0 0 0),(30,.own 275 0)] [(0,.box (.d (.agg [I a0,I a1,.lst false 1 a2]))),(1,.box (.d (.agg [I a3,I a4,.lst false 1 a5]))),(45,.box (.d (.agg [I ((Int.tmod (IntKind.wrap .i64 a7) 5) - 2),I ((Int.tmod (IntKind.wrap .i64 a8) 5) - 2)]))),(55,.box (.d (.agg [I t12.1,I t12.2.1,.lst false 1 t12.2.2.1]))),(65,.box (.d (.agg [I t14.1,I t14.2.1,.lst false 1 t14.2.2.1]))),(75,.box (.d (.agg [I t15.1,I t15.2.1,.lst false 1 t15.2.2.1]))),(275,.mp t43)] 384,.el (.v (.int .i64 0)),.lp [] [3,4,8,9,10,12,14,301] [0,1,45,55,65,75,385] (.exit 6) [(3,.ptr 0 0 0 0 0),(4,.ptr 1 0 0 0 0),(8,.ptr 45 0 0 0 0),(9,.d (.fn (.func 6) [] [])),(10,.ptr 55 0 0 0 0),(12,.ptr 65 0 0 0 0),(14,.ptr 75 0 0 0 0)] [(0,.box (.d (.agg [I a0,I a1,.lst false 1 a2]))),(1,.box (.d (.agg [I a3,I a4,.lst false 1 a5]))),(45,.box (.d (.agg [I ((Int.tmod (IntKind.wrap .i64 a7) 5) - 2),I ((Int.tmod (IntKind.wrap .i64 a8) 5) - 2)]))),(55,.box (.d (.agg [I t12.1,I t12.2.1,.lst false 1 t12.2.2.1]))),(65,.box (.d (.agg [I t14.1,I t14.2.1,.lst false 1 t14.2.2.1]))),(75,.box (.d (.agg [I t15.1,I t15.2.1,.lst false 1 t15.2.2.1])))] 404,.ret (.agg [I t11.1,I t11.2.1,.lst false 1 t11.2.2]),.ret (.agg [I t13.1,I t13.2.1,.lst false 1 t13.2.2]),.ret (.tup [I t46.1,I t46.2.1,I t46.2.2]),.no,.br true,.ix (-8),.br true,.no,.br true,.ix (-8),.br true,.ret (.tup [I t48.1,I t48.2.1,I t48.2.2]),.br false,.br false,.br false,.br false,.no,.ret (.agg [I t11.1,I t11.2.1,.lst false 1 t11.2.2]),.ret (.agg [I t13.1,I t13.2.1,.lst false 1 t13.2.2]),.ret (.tup [.agg [I t53.1,I t53.2.1],.agg [I t53.2.2.1,I t53.2.2.2.1],I t53.2.2.2.2]),.no,.br true,.ix (-8),.br true,.no,.br true,.ix (-8),.br true,.ret (.tup [.agg [I t54.1,I t54.2.1],.agg [I t54.2.2.1,I t54.2.2.2.1],I t54.2.2.2.2]),.br false,.br false,.br false,.br true,.br true,.ix (-8),.br true,.no,.no,.ret (.tup [.agg [I t58.1,I t58.2.1,.lst false 1 t58.2.2.1],I t58.2.2.2]),.br false,.no,.no,.ret (.tup [.agg [I t60.1,I t60.2.1,.lst false 1 t60.2.2.1],I t60.2.2.2]),.br false,.no,.no,.ret (.tup [.agg [I t62.1,I t62.2.1,.lst false 1 t62.2.2.1],I t62.2.2.2]),.br false,.no,.no,.ret (B t64),.br true,.ret (B t66)]=some (B t66,[Computes cx 5 [] (B t66),t64=true,Computes cx 18 [.agg [I t62.1,I t62.2.1,.lst false 1 t62.2.2.1],.agg [I a0,I a1,.lst false 1 a2]] (B t64),Qb 3,(t62.2.2.2 != 0)=false,Computes cx 9 [.agg [I t60.1,I t60.2.1,.lst false 1 t60.2.2.1]] (.tup [.agg [I t62.1,I t62.2.1,.lst false 1 t62.2.2.1],I t62.2.2.2]),Qb 2,(t60.2.2.2 != 0)=false,Computes cx 9 [.agg [I t58.1,I t58.2.1,.lst false 1 t58.2.2.1]] (.tup [.agg [I t60.1,I t60.2.1,.lst false 1 t60.2.2.1],I t60.2.2.2]),Qb 1,(t58.2.2.2 != 0)=false,Computes cx 9 [.agg [I t15.1,I t15.2.1,.lst false 1 t15.2.2.1]] (.tup [.agg [I t58.1,I t58.2.1,.lst false 1 t58.2.2.1],I t58.2.2.2]),room cx 28 (0+(t15.2.2.1).length),(!((t53.2.2.1 == t54.2.2.1) && ((t53.2.2.2.1 == t54.2.2.2.1) && true)))=false,(t54.2.2.2.2 != 0)=false,(t53.2.2.2.2 != 0)=false,Computes cx 17 [.agg [I t12.1,I t12.2.1,.lst false 1 t12.2.2.1],.agg [I t14.1,I t14.2.1,.lst false 1 t14.2.2.1],I 2,I 1] (.tup [.agg [I t54.1,I t54.2.1],.agg [I t54.2.2.1,I t54.2.2.2.1],I t54.2.2.2.2]),room cx 28 (0+(t14.2.2.1).length),room cx 28 (0+(t12.2.2.1).length),Computes cx 17 [.agg [I t11.1,I t11.2.1,.lst false 1 t11.2.2],.agg [I t13.1,I t13.2.1,.lst false 1 t13.2.2],I 2,I 1] (.tup [.agg [I t53.1,I t53.2.1],.agg [I t53.2.2.1,I t53.2.2.2.1],I t53.2.2.2.2]),Computes cx 6 [.agg [I a3,I a4,.lst false 1 a5]] (.agg [I t13.1,I t13.2.1,.lst false 1 t13.2.2]),Computes cx 6 [.agg [I a0,I a1,.lst false 1 a2]] (.agg [I t11.1,I t11.2.1,.lst false 1 t11.2.2]),(t46.2.2 != 0)=false,(t46.2.1 != t48.2.1)=false,(t46.1 != t48.1)=false,(t46.2.2 != t48.2.2)=false,Computes cx 16 [.agg [I t12.1,I t12.2.1,.lst false 1 t12.2.2.1],.agg [I t14.1,I t14.2.1,.lst false 1 t14.2.2.1],.agg [I (IntKind.wrap .i64 (0 - ((Int.tmod (IntKind.wrap .i64 a7) 5) - 2))),I ((Int.tmod (IntKind.wrap .i64 a8) 5) - 2)]] (.tup [I t48.1,I t48.2.1,I t48.2.2]),room cx 28 (0+(t14.2.2.1).length),room cx 28 (0+(t12.2.2.1).length),Computes cx 16 [.agg [I t11.1,I t11.2.1,.lst false 1 t11.2.2],.agg [I t13.1,I t13.2.1,.lst false 1 t13.2.2],.agg [I ((Int.tmod (IntKind.wrap .i64 a7) 5) - 2),I ((Int.tmod (IntKind.wrap .i64 a8) 5) - 2)]] (.tup [I t46.1,I t46.2.1,I t46.2.2]),Computes cx 6 [.agg [I a3,I a4,.lst false 1 a5]] (.agg [I t13.1,I t13.2.1,.lst false 1 t13.2.2]),Computes cx 6 [.agg [I a0,I a1,.lst false 1 a2]] (.agg [I t11.1,I t11.2.1,.lst false 1 t11.2.2]),QM cx (Qs cx.P 3 3) 406 0 false [(3,.ptr 0 0 0 0 0),(4,.ptr 1 0 0 0 0),(8,.ptr 45 0 0 0 0),(9,.d (.fn (.func 6) [] [])),(10,.ptr 55 0 0 0 0),(12,.ptr 65 0 0 0 0),(14,.ptr 75 0 0 0 0),(301,.own 385 0)] [(0,.box (.d (.agg [I a0,I a1,.lst false 1 a2]))),(1,.box (.d (.agg [I a3,I a4,.lst false 1 a5]))),(45,.box (.d (.agg [I ((Int.tmod (IntKind.wrap .i64 a7) 5) - 2),I ((Int.tmod (IntKind.wrap .i64 a8) 5) - 2)]))),(55,.box (.d (.agg [I t12.1,I t12.2.1,.lst false 1 t12.2.2.1]))),(65,.box (.d (.agg [I t14.1,I t14.2.1,.lst false 1 t14.2.2.1]))),(75,.box (.d (.agg [I t15.1,I t15.2.1,.lst false 1 t15.2.2.1]))),(385,.it (.mp (.int .i64 0) t43.length) t43.length)] (.exit 6) [(3,.ptr 0 0 0 0 0),(4,.ptr 1 0 0 0 0),(8,.ptr 45 0 0 0 0),(9,.d (.fn (.func 6) [] [])),(10,.ptr 55 0 0 0 0),(12,.ptr 65 0 0 0 0),(14,.ptr 75 0 0 0 0)] [(0,.box (.d (.agg [I a0,I a1,.lst false 1 a2]))),(1,.box (.d (.agg [I a3,I a4,.lst false 1 a5]))),(45,.box (.d (.agg [I ((Int.tmod (IntKind.wrap .i64 a7) 5) - 2),I ((Int.tmod (IntKind.wrap .i64 a8) 5) - 2)]))),(55,.box (.d (.agg [I t12.1,I t12.2.1,.lst false 1 t12.2.2.1]))),(65,.box (.d (.agg [I t14.1,I t14.2.1,.lst false 1 t14.2.2.1]))),(75,.box (.d (.agg [I t15.1,I t15.2.1,.lst false 1 t15.2.2.1])))],wc .i64 0 t43=true,QM cx (Qs cx.P 3 0) 406 0 false [(3,.ptr 0 0 0 0 0),(4,.ptr 1 0 0 0 0),(8,.ptr 45 0 0 0 0),(9,.d (.fn (.func 6) [] [])),(10,.ptr 55 0 0 0 0),(12,.ptr 65 0 0 0 0),(14,.ptr 75 0 0 0 0),(18,.d (.lst false 1 t25.1)),(20,.d (.lst false 1 t27.1)),(30,.own 275 0),(240,.d (.lst false 1 t23.1)),(241,.d (I ((t23.1).length:Int))),(242,.d (I 0))] [(0,.box (.d (.agg [I a0,I a1,.lst false 1 a2]))),(1,.box (.d (.agg [I a3,I a4,.lst false 1 a5]))),(45,.box (.d (.agg [I ((Int.tmod (IntKind.wrap .i64 a7) 5) - 2),I ((Int.tmod (IntKind.wrap .i64 a8) 5) - 2)]))),(55,.box (.d (.agg [I t12.1,I t12.2.1,.lst false 1 t12.2.2.1]))),(65,.box (.d (.agg [I t14.1,I t14.2.1,.lst false 1 t14.2.2.1]))),(75,.box (.d (.agg [I t15.1,I t15.2.1,.lst false 1 t15.2.2.1]))),(275,.mp [])] (.exit 0) [(3,.ptr 0 0 0 0 0),(4,.ptr 1 0 0 0 0),(8,.ptr 45 0 0 0 0),(9,.d (.fn (.func 6) [] [])),(10,.ptr 55 0 0 0 0),(12,.ptr 65 0 0 0 0),(14,.ptr 75 0 0 0 0),(30,.own 275 0)] [(0,.box (.d (.agg [I a0,I a1,.lst false 1 a2]))),(1,.box (.d (.agg [I a3,I a4,.lst false 1 a5]))),(45,.box (.d (.agg [I ((Int.tmod (IntKind.wrap .i64 a7) 5) - 2),I ((Int.tmod (IntKind.wrap .i64 a8) 5) - 2)]))),(55,.box (.d (.agg [I t12.1,I t12.2.1,.lst false 1 t12.2.2.1]))),(65,.box (.d (.agg [I t14.1,I t14.2.1,.lst false 1 t14.2.2.1]))),(75,.box (.d (.agg [I t15.1,I t15.2.1,.lst false 1 t15.2.2.1]))),(275,.mp t43)],(t30.1 != t31.1)=false,(!((t28.1 == t29.1) && ((t28.2.1 == t29.2.1) && true)))=false,(((t27.1).length:Int) != ((t23.1).length:Int))=false,(((t25.1).length:Int) != ((t23.1).length:Int))=false,(t31.2 != 0)=false,(t30.2 != 0)=false,(t29.2.2 != 0)=false,(t28.2.2 != 0)=false,(t27.2 != 0)=false,(t25.2 != 0)=false,(t23.2 != 0)=false,Computes cx 14 [.agg [I t12.1,I t12.2.1,.lst false 1 t12.2.2.1]] (.tup [I t31.1,I t31.2]),room cx 28 (0+(t12.2.2.1).length),Computes cx 14 [.agg [I t11.1,I t11.2.1,.lst false 1 t11.2.2]] (.tup [I t30.1,I t30.2]),Computes cx 6 [.agg [I a0,I a1,.lst false 1 a2]] (.agg [I t11.1,I t11.2.1,.lst false 1 t11.2.2]),Computes cx 13 [.agg [I t12.1,I t12.2.1,.lst false 1 t12.2.2.1],.v (.float .f32 ((fop .quo .f32 ((fop .add .f32 1065353216 (FloatKind.nearest .f32 a6)).getD 0) 1098907648).getD 0))] (.tup [.agg [I t29.1,I t29.2.1],I t29.2.2]),room cx 28 (0+(t12.2.2.1).length),Computes cx 13 [.agg [I t11.1,I t11.2.1,.lst false 1 t11.2.2],.v (.float .f32 ((fop .quo .f32 ((fop .add .f32 1065353216 (FloatKind.nearest .f32 a6)).getD 0) 1098907648).getD 0))] (.tup [.agg [I t28.1,I t28.2.1],I t28.2.2]),Computes cx 6 [.agg [I a0,I a1,.lst false 1 a2]] (.agg [I t11.1,I t11.2.1,.lst false 1 t11.2.2]),Computes cx 11 [.agg [I t15.1,I t15.2.1,.lst false 1 t15.2.2.1],.v (.float .f32 ((fop .quo .f32 ((fop .add .f32 1065353216 (FloatKind.nearest .f32 a6)).getD 0) 1098907648).getD 0))] (.tup [.lst false 1 t27.1,I t27.2]),room cx 28 (0+(t15.2.2.1).length),Computes cx 11 [.agg [I t12.1,I t12.2.1,.lst false 1 t12.2.2.1],.v (.float .f32 ((fop .quo .f32 ((fop .add .f32 1065353216 (FloatKind.nearest .f32 a6)).getD 0) 1098907648).getD 0))] (.tup [.lst false 1 t25.1,I t25.2]),room cx 28 (0+(t12.2.2.1).length),Computes cx 11 [.agg [I t11.1,I t11.2.1,.lst false 1 t11.2.2],.v (.float .f32 ((fop .quo .f32 ((fop .add .f32 1065353216 (FloatKind.nearest .f32 a6)).getD 0) 1098907648).getD 0))] (.tup [.lst false 1 t23.1,I t23.2]),Computes cx 6 [.agg [I a0,I a1,.lst false 1 a2]] (.agg [I t11.1,I t11.2.1,.lst false 1 t11.2.2]),(t21 != 0)=false,Computes cx 10 [.agg [I t15.1,I t15.2.1,.lst false 1 t15.2.2.1]] (I t21),(t19 != 0)=false,Computes cx 4 [.agg [I t12.1,I t12.2.1,.lst false 1 t12.2.2.1],.agg [I t14.1,I t14.2.1,.lst false 1 t14.2.2.1]] (I t19),(t15.2.2.2 != 0)=false,(t14.2.2.2 != 0)=false,(t12.2.2.2 != 0)=false,Computes cx 9 [.agg [I t11.1,I t11.2.1,.lst false 1 t11.2.2]] (.tup [.agg [I t15.1,I t15.2.1,.lst false 1 t15.2.2.1],I t15.2.2.2]),Computes cx 6 [.agg [I a0,I a1,.lst false 1 a2]] (.agg [I t11.1,I t11.2.1,.lst false 1 t11.2.2]),Computes cx 8 [.agg [I t13.1,I t13.2.1,.lst false 1 t13.2.2]] (.tup [.agg [I t14.1,I t14.2.1,.lst false 1 t14.2.2.1],I t14.2.2.2]),Computes cx 6 [.agg [I a3,I a4,.lst false 1 a5]] (.agg [I t13.1,I t13.2.1,.lst false 1 t13.2.2]),Computes cx 8 [.agg [I t11.1,I t11.2.1,.lst false 1 t11.2.2]] (.tup [.agg [I t12.1,I t12.2.1,.lst false 1 t12.2.2.1],I t12.2.2.2]),Computes cx 6 [.agg [I a0,I a1,.lst false 1 a2]] (.agg [I t11.1,I t11.2.1,.lst false 1 t11.2.2]),Qb ((Int.tmod (IntKind.wrap .i64 a8) 5) - 2),(5:Int)≠0,Qb ((Int.tmod (IntKind.wrap .i64 a7) 5) - 2),(5:Int)≠0,(fop .quo .f32 ((fop .add .f32 1065353216 (FloatKind.nearest .f32 a6)).getD 0) 1098907648).isSome=true,(fop .add .f32 1065353216 (FloatKind.nearest .f32 a6)).isSome=true,(t5 != 0)=false,Computes cx 4 [.agg [I a0,I a1,.lst false 1 a2],.agg [I a3,I a4,.lst false 1 a5]] (I t5),(decide (a4 > 8))=false,(decide (a3 > 8))=false,(decide (a1 > 8))=false,(decide (a0 > 8))=false]):=by kernel_rfl
theorem KA (a0:Int) (a1:Int) (a2:List D) (a3:Int) (a4:Int) (a5:List D) (a6:Int) (a7:Int) (a8:Int) (t5:Int) (t11:Int×Int×List D) (t12:Int×Int×List D×Int) (t13:Int×Int×List D) (t14:Int×Int×List D×Int) (t15:Int×Int×List D×Int) (t19:Int) (t21:Int) (t23:List D×Int) (t25:List D×Int) (t27:List D×Int) (t28:Int×Int×Int) (t29:Int×Int×Int) (t30:Int×Int) (t31:Int×Int) (t43:List D) (t46:Int×Int×Int) (t48:Int×Int×Int) (t54:Int×Int×Int×Int×Int) (t55:Int×Int×Int×Int×Int) (t59:Int×Int×List D×Int) (t61:Int×Int×List D×Int) (t63:Int×Int×List D×Int) (t65:Bool) (t67:Bool):Jl true 100 cx 3 [.agg [I a0,I a1,.lst false 1 a2],.agg [I a3,I a4,.lst false 1 a5],.agg [.v (.int .u8 a6),.v (.int .u8 a7),.v (.int .u8 a8)]] [.br false,.br false,.br false,.br false,.ret (I t5),.br false,.ret (.agg [I t11.1,I t11.2.1,.lst false 1 t11.2.2]),.ret (.tup [.agg [I t12.1,I t12.2.1,.lst false 1 t12.2.2.1],I t12.2.2.2]),.ret (.agg [I t13.1,I t13.2.1,.lst false 1 t13.2.2]),.ret (.tup [.agg [I t14.1,I t14.2.1,.lst false 1 t14.2.2.1],I t14.2.2.2]),.ret (.agg [I t11.1,I t11.2.1,.lst false 1 t11.2.2]),.ret (.tup [.agg [I t15.1,I t15.2.1,.lst false 1 t15.2.2.1],I t15.2.2.2]),.br false,.br false,.br false,.ret (I t19),.br false,.ret (I t21),.br false,.ret (.agg [I t11.1,I t11.2.1,.lst false 1 t11.2.2]),.ret (.tup [.lst false 1 t23.1,I t23.2]),.br true,.br true,.ix (-8),.br true,.ret (.tup [.lst false 1 t25.1,I t25.2]),.br true,.br true,.ix (-8),.br true,.ret (.tup [.lst false 1 t27.1,I t27.2]),.ret (.agg [I t11.1,I t11.2.1,.lst false 1 t11.2.2]),.ret (.tup [.agg [I t28.1,I t28.2.1],I t28.2.2]),.br true,.br true,.ix (-8),.br true,.ret (.tup [.agg [I t29.1,I t29.2.1],I t29.2.2]),.ret (.agg [I t11.1,I t11.2.1,.lst false 1 t11.2.2]),.ret (.tup [I t30.1,I t30.2]),.br true,.br true,.ix (-8),.br true,.ret (.tup [I t31.1,I t31.2]),.br false,.br false,.br false,.br false,.br false,.br false,.br false,.br false,.br false,.br false,.br false,.lp [] [3,4,8,9,10,12,14,18,20,30,240,241,242] [0,1,45,55,65,75,275] (.exit 0) [(3,.ptr 0 0 0 0 0),(4,.ptr 1 0 0 0 0),(8,.ptr 45 0 0 0 0),(9,.d (.fn (.func 6) [] [])),(10,.ptr 55 0 0 0 0),(12,.ptr 65 0 0 0 0),(14,.ptr 75 0 0 0 0),(30,.own 275 0)] [(0,.box (.d (.agg [I a0,I a1,.lst false 1 a2]))),(1,.box (.d (.agg [I a3,I a4,.lst false 1 a5]))),(45,.box (.d (.agg [I ((Int.tmod (IntKind.wrap .i64 a7) 5) - 2),I ((Int.tmod (IntKind.wrap .i64 a8) 5) - 2)]))),(55,.box (.d (.agg [I t12.1,I t12.2.1,.lst false 1 t12.2.2.1]))),(65,.box (.d (.agg [I t14.1,I t14.2.1,.lst false 1 t14.2.2.1]))),(75,.box (.d (.agg [I t15.1,I t15.2.1,.lst false 1 t15.2.2.1]))),(275,.mp t43)] 384,.el (.v (.int .i64 0)),.lp [] [3,4,8,9,10,12,14,301] [0,1,45,55,65,75,385] (.exit 6) [(3,.ptr 0 0 0 0 0),(4,.ptr 1 0 0 0 0),(8,.ptr 45 0 0 0 0),(9,.d (.fn (.func 6) [] [])),(10,.ptr 55 0 0 0 0),(12,.ptr 65 0 0 0 0),(14,.ptr 75 0 0 0 0)] [(0,.box (.d (.agg [I a0,I a1,.lst false 1 a2]))),(1,.box (.d (.agg [I a3,I a4,.lst false 1 a5]))),(45,.box (.d (.agg [I ((Int.tmod (IntKind.wrap .i64 a7) 5) - 2),I ((Int.tmod (IntKind.wrap .i64 a8) 5) - 2)]))),(55,.box (.d (.agg [I t12.1,I t12.2.1,.lst false 1 t12.2.2.1]))),(65,.box (.d (.agg [I t14.1,I t14.2.1,.lst false 1 t14.2.2.1]))),(75,.box (.d (.agg [I t15.1,I t15.2.1,.lst false 1 t15.2.2.1])))] 404,.ret (.agg [I t11.1,I t11.2.1,.lst false 1 t11.2.2]),.ret (.agg [I t13.1,I t13.2.1,.lst false 1 t13.2.2]),.ret (.tup [I t46.1,I t46.2.1,I t46.2.2]),.no,.br true,.ix (-8),.br true,.no,.br true,.ix (-8),.br true,.ret (.tup [I t48.1,I t48.2.1,I t48.2.2]),.br false,.br false,.br false,.br true,.br false,.ret (.agg [I t11.1,I t11.2.1,.lst false 1 t11.2.2]),.ret (.agg [I t13.1,I t13.2.1,.lst false 1 t13.2.2]),.ret (.tup [.agg [I t54.1,I t54.2.1],.agg [I t54.2.2.1,I t54.2.2.2.1],I t54.2.2.2.2]),.no,.br true,.ix (-8),.br true,.no,.br true,.ix (-8),.br true,.ret (.tup [.agg [I t55.1,I t55.2.1],.agg [I t55.2.2.1,I t55.2.2.2.1],I t55.2.2.2.2]),.br false,.br false,.br false,.br true,.br true,.ix (-8),.br true,.no,.no,.ret (.tup [.agg [I t59.1,I t59.2.1,.lst false 1 t59.2.2.1],I t59.2.2.2]),.br false,.no,.no,.ret (.tup [.agg [I t61.1,I t61.2.1,.lst false 1 t61.2.2.1],I t61.2.2.2]),.br false,.no,.no,.ret (.tup [.agg [I t63.1,I t63.2.1,.lst false 1 t63.2.2.1],I t63.2.2.2]),.br false,.no,.no,.ret (B t65),.br true,.ret (B t67)]=some (B t67,[Computes cx 5 [] (B t67),t65=true,Computes cx 18 [.agg [I t63.1,I t63.2.1,.lst false 1 t63.2.2.1],.agg [I a0,I a1,.lst false 1 a2]] (B t65),Qb 3,(t63.2.2.2 != 0)=false,Computes cx 9 [.agg [I t61.1,I t61.2.1,.lst false 1 t61.2.2.1]] (.tup [.agg [I t63.1,I t63.2.1,.lst false 1 t63.2.2.1],I t63.2.2.2]),Qb 2,(t61.2.2.2 != 0)=false,Computes cx 9 [.agg [I t59.1,I t59.2.1,.lst false 1 t59.2.2.1]] (.tup [.agg [I t61.1,I t61.2.1,.lst false 1 t61.2.2.1],I t61.2.2.2]),Qb 1,(t59.2.2.2 != 0)=false,Computes cx 9 [.agg [I t15.1,I t15.2.1,.lst false 1 t15.2.2.1]] (.tup [.agg [I t59.1,I t59.2.1,.lst false 1 t59.2.2.1],I t59.2.2.2]),room cx 28 (0+(t15.2.2.1).length),(!((t54.2.2.1 == t55.2.2.1) && ((t54.2.2.2.1 == t55.2.2.2.1) && true)))=false,(t55.2.2.2.2 != 0)=false,(t54.2.2.2.2 != 0)=false,Computes cx 17 [.agg [I t12.1,I t12.2.1,.lst false 1 t12.2.2.1],.agg [I t14.1,I t14.2.1,.lst false 1 t14.2.2.1],I 2,I 1] (.tup [.agg [I t55.1,I t55.2.1],.agg [I t55.2.2.1,I t55.2.2.2.1],I t55.2.2.2.2]),room cx 28 (0+(t14.2.2.1).length),room cx 28 (0+(t12.2.2.1).length),Computes cx 17 [.agg [I t11.1,I t11.2.1,.lst false 1 t11.2.2],.agg [I t13.1,I t13.2.1,.lst false 1 t13.2.2],I 2,I 1] (.tup [.agg [I t54.1,I t54.2.1],.agg [I t54.2.2.1,I t54.2.2.2.1],I t54.2.2.2.2]),Computes cx 6 [.agg [I a3,I a4,.lst false 1 a5]] (.agg [I t13.1,I t13.2.1,.lst false 1 t13.2.2]),Computes cx 6 [.agg [I a0,I a1,.lst false 1 a2]] (.agg [I t11.1,I t11.2.1,.lst false 1 t11.2.2]),(t46.2.2 != 7)=false,(t46.2.2 != 0)=true,(t46.2.1 != t48.2.1)=false,(t46.1 != t48.1)=false,(t46.2.2 != t48.2.2)=false,Computes cx 16 [.agg [I t12.1,I t12.2.1,.lst false 1 t12.2.2.1],.agg [I t14.1,I t14.2.1,.lst false 1 t14.2.2.1],.agg [I (IntKind.wrap .i64 (0 - ((Int.tmod (IntKind.wrap .i64 a7) 5) - 2))),I ((Int.tmod (IntKind.wrap .i64 a8) 5) - 2)]] (.tup [I t48.1,I t48.2.1,I t48.2.2]),room cx 28 (0+(t14.2.2.1).length),room cx 28 (0+(t12.2.2.1).length),Computes cx 16 [.agg [I t11.1,I t11.2.1,.lst false 1 t11.2.2],.agg [I t13.1,I t13.2.1,.lst false 1 t13.2.2],.agg [I ((Int.tmod (IntKind.wrap .i64 a7) 5) - 2),I ((Int.tmod (IntKind.wrap .i64 a8) 5) - 2)]] (.tup [I t46.1,I t46.2.1,I t46.2.2]),Computes cx 6 [.agg [I a3,I a4,.lst false 1 a5]] (.agg [I t13.1,I t13.2.1,.lst false 1 t13.2.2]),Computes cx 6 [.agg [I a0,I a1,.lst false 1 a2]] (.agg [I t11.1,I t11.2.1,.lst false 1 t11.2.2]),QM cx (Qs cx.P 3 3) 406 0 false [(3,.ptr 0 0 0 0 0),(4,.ptr 1 0 0 0 0),(8,.ptr 45 0 0 0 0),(9,.d (.fn (.func 6) [] [])),(10,.ptr 55 0 0 0 0),(12,.ptr 65 0 0 0 0),(14,.ptr 75 0 0 0 0),(301,.own 385 0)] [(0,.box (.d (.agg [I a0,I a1,.lst false 1 a2]))),(1,.box (.d (.agg [I a3,I a4,.lst false 1 a5]))),(45,.box (.d (.agg [I ((Int.tmod (IntKind.wrap .i64 a7) 5) - 2),I ((Int.tmod (IntKind.wrap .i64 a8) 5) - 2)]))),(55,.box (.d (.agg [I t12.1,I t12.2.1,.lst false 1 t12.2.2.1]))),(65,.box (.d (.agg [I t14.1,I t14.2.1,.lst false 1 t14.2.2.1]))),(75,.box (.d (.agg [I t15.1,I t15.2.1,.lst false 1 t15.2.2.1]))),(385,.it (.mp (.int .i64 0) t43.length) t43.length)] (.exit 6) [(3,.ptr 0 0 0 0 0),(4,.ptr 1 0 0 0 0),(8,.ptr 45 0 0 0 0),(9,.d (.fn (.func 6) [] [])),(10,.ptr 55 0 0 0 0),(12,.ptr 65 0 0 0 0),(14,.ptr 75 0 0 0 0)] [(0,.box (.d (.agg [I a0,I a1,.lst false 1 a2]))),(1,.box (.d (.agg [I a3,I a4,.lst false 1 a5]))),(45,.box (.d (.agg [I ((Int.tmod (IntKind.wrap .i64 a7) 5) - 2),I ((Int.tmod (IntKind.wrap .i64 a8) 5) - 2)]))),(55,.box (.d (.agg [I t12.1,I t12.2.1,.lst false 1 t12.2.2.1]))),(65,.box (.d (.agg [I t14.1,I t14.2.1,.lst false 1 t14.2.2.1]))),(75,.box (.d (.agg [I t15.1,I t15.2.1,.lst false 1 t15.2.2.1])))],wc .i64 0 t43=true,QM cx (Qs cx.P 3 0) 406 0 false [(3,.ptr 0 0 0 0 0),(4,.ptr 1 0 0 0 0),(8,.ptr 45 0 0 0 0),(9,.d (.fn (.func 6) [] [])),(10,.ptr 55 0 0 0 0),(12,.ptr 65 0 0 0 0),(14,.ptr 75 0 0 0 0),(18,.d (.lst false 1 t25.1)),(20,.d (.lst false 1 t27.1)),(30,.own 275 0),(240,.d (.lst false 1 t23.1)),(241,.d (I ((t23.1).length:Int))),(242,.d (I 0))] [(0,.box (.d (.agg [I a0,I a1,.lst false 1 a2]))),(1,.box (.d (.agg [I a3,I a4,.lst false 1 a5]))),(45,.box (.d (.agg [I ((Int.tmod (IntKind.wrap .i64 a7) 5) - 2),I ((Int.tmod (IntKind.wrap .i64 a8) 5) - 2)]))),(55,.box (.d (.agg [I t12.1,I t12.2.1,.lst false 1 t12.2.2.1]))),(65,.box (.d (.agg [I t14.1,I t14.2.1,.lst false 1 t14.2.2.1]))),(75,.box (.d (.agg [I t15.1,I t15.2.1,.lst false 1 t15.2.2.1]))),(275,.mp [])] (.exit 0) [(3,.ptr 0 0 0 0 0),(4,.ptr 1 0 0 0 0),(8,.ptr 45 0 0 0 0),(9,.d (.fn (.func 6) [] [])),(10,.ptr 55 0 0 0 0),(12,.ptr 65 0 0 0 0),(14,.ptr 75 0 0 0 0),(30,.own 275 0)] [(0,.box (.d (.agg [I a0,I a1,.lst false 1 a2]))),(1,.box (.d (.agg [I a3,I a4,.lst false 1 a5]))),(45,.box (.d (.agg [I ((Int.tmod (IntKind.wrap .i64 a7) 5) - 2),I ((Int.tmod (IntKind.wrap .i64 a8) 5) - 2)]))),(55,.box (.d (.agg [I t12.1,I t12.2.1,.lst false 1 t12.2.2.1]))),(65,.box (.d (.agg [I t14.1,I t14.2.1,.lst false 1 t14.2.2.1]))),(75,.box (.d (.agg [I t15.1,I t15.2.1,.lst false 1 t15.2.2.1]))),(275,.mp t43)],(t30.1 != t31.1)=false,(!((t28.1 == t29.1) && ((t28.2.1 == t29.2.1) && true)))=false,(((t27.1).length:Int) != ((t23.1).length:Int))=false,(((t25.1).length:Int) != ((t23.1).length:Int))=false,(t31.2 != 0)=false,(t30.2 != 0)=false,(t29.2.2 != 0)=false,(t28.2.2 != 0)=false,(t27.2 != 0)=false,(t25.2 != 0)=false,(t23.2 != 0)=false,Computes cx 14 [.agg [I t12.1,I t12.2.1,.lst false 1 t12.2.2.1]] (.tup [I t31.1,I t31.2]),room cx 28 (0+(t12.2.2.1).length),Computes cx 14 [.agg [I t11.1,I t11.2.1,.lst false 1 t11.2.2]] (.tup [I t30.1,I t30.2]),Computes cx 6 [.agg [I a0,I a1,.lst false 1 a2]] (.agg [I t11.1,I t11.2.1,.lst false 1 t11.2.2]),Computes cx 13 [.agg [I t12.1,I t12.2.1,.lst false 1 t12.2.2.1],.v (.float .f32 ((fop .quo .f32 ((fop .add .f32 1065353216 (FloatKind.nearest .f32 a6)).getD 0) 1098907648).getD 0))] (.tup [.agg [I t29.1,I t29.2.1],I t29.2.2]),room cx 28 (0+(t12.2.2.1).length),Computes cx 13 [.agg [I t11.1,I t11.2.1,.lst false 1 t11.2.2],.v (.float .f32 ((fop .quo .f32 ((fop .add .f32 1065353216 (FloatKind.nearest .f32 a6)).getD 0) 1098907648).getD 0))] (.tup [.agg [I t28.1,I t28.2.1],I t28.2.2]),Computes cx 6 [.agg [I a0,I a1,.lst false 1 a2]] (.agg [I t11.1,I t11.2.1,.lst false 1 t11.2.2]),Computes cx 11 [.agg [I t15.1,I t15.2.1,.lst false 1 t15.2.2.1],.v (.float .f32 ((fop .quo .f32 ((fop .add .f32 1065353216 (FloatKind.nearest .f32 a6)).getD 0) 1098907648).getD 0))] (.tup [.lst false 1 t27.1,I t27.2]),room cx 28 (0+(t15.2.2.1).length),Computes cx 11 [.agg [I t12.1,I t12.2.1,.lst false 1 t12.2.2.1],.v (.float .f32 ((fop .quo .f32 ((fop .add .f32 1065353216 (FloatKind.nearest .f32 a6)).getD 0) 1098907648).getD 0))] (.tup [.lst false 1 t25.1,I t25.2]),room cx 28 (0+(t12.2.2.1).length),Computes cx 11 [.agg [I t11.1,I t11.2.1,.lst false 1 t11.2.2],.v (.float .f32 ((fop .quo .f32 ((fop .add .f32 1065353216 (FloatKind.nearest .f32 a6)).getD 0) 1098907648).getD 0))] (.tup [.lst false 1 t23.1,I t23.2]),Computes cx 6 [.agg [I a0,I a1,.lst false 1 a2]] (.agg [I t11.1,I t11.2.1,.lst false 1 t11.2.2]),(t21 != 0)=false,Computes cx 10 [.agg [I t15.1,I t15.2.1,.lst false 1 t15.2.2.1]] (I t21),(t19 != 0)=false,Computes cx 4 [.agg [I t12.1,I t12.2.1,.lst false 1 t12.2.2.1],.agg [I t14.1,I t14.2.1,.lst false 1 t14.2.2.1]] (I t19),(t15.2.2.2 != 0)=false,(t14.2.2.2 != 0)=false,(t12.2.2.2 != 0)=false,Computes cx 9 [.agg [I t11.1,I t11.2.1,.lst false 1 t11.2.2]] (.tup [.agg [I t15.1,I t15.2.1,.lst false 1 t15.2.2.1],I t15.2.2.2]),Computes cx 6 [.agg [I a0,I a1,.lst false 1 a2]] (.agg [I t11.1,I t11.2.1,.lst false 1 t11.2.2]),Computes cx 8 [.agg [I t13.1,I t13.2.1,.lst false 1 t13.2.2]] (.tup [.agg [I t14.1,I t14.2.1,.lst false 1 t14.2.2.1],I t14.2.2.2]),Computes cx 6 [.agg [I a3,I a4,.lst false 1 a5]] (.agg [I t13.1,I t13.2.1,.lst false 1 t13.2.2]),Computes cx 8 [.agg [I t11.1,I t11.2.1,.lst false 1 t11.2.2]] (.tup [.agg [I t12.1,I t12.2.1,.lst false 1 t12.2.2.1],I t12.2.2.2]),Computes cx 6 [.agg [I a0,I a1,.lst false 1 a2]] (.agg [I t11.1,I t11.2.1,.lst false 1 t11.2.2]),Qb ((Int.tmod (IntKind.wrap .i64 a8) 5) - 2),(5:Int)≠0,Qb ((Int.tmod (IntKind.wrap .i64 a7) 5) - 2),(5:Int)≠0,(fop .quo .f32 ((fop .add .f32 1065353216 (FloatKind.nearest .f32 a6)).getD 0) 1098907648).isSome=true,(fop .add .f32 1065353216 (FloatKind.nearest .f32 a6)).isSome=true,(t5 != 0)=false,Computes cx 4 [.agg [I a0,I a1,.lst false 1 a2],.agg [I a3,I a4,.lst false 1 a5]] (I t5),(decide (a4 > 8))=false,(decide (a3 > 8))=false,(decide (a1 > 8))=false,(decide (a0 > 8))=false]):=by kernel_rfl
theorem Kz (a0:Int) (a1:Int) (a2:List D) (a3:Int) (a4:Int) (a5:List D) (a6:Int) (a7:Int) (a8:Int) (t5:Int) (t7:Bool):Jl true 100 cx 3 [.agg [I a0,I a1,.lst false 1 a2],.agg [I a3,I a4,.lst false 1 a5],.agg [.v (.int .u8 a6),.v (.int .u8 a7),.v (.int .u8 a8)]] [.br false,.br false,.br false,.br false,.ret (I t5),.br true,.ret (B t7)]=some (B t7,[Computes cx 5 [] (B t7),(t5 != 0)=true,Computes cx 4 [.agg [I a0,I a1,.lst false 1 a2],.agg [I a3,I a4,.lst false 1 a5]] (I t5),(decide (a4 > 8))=false,(decide (a3 > 8))=false,(decide (a1 > 8))=false,(decide (a0 > 8))=false]):=by kernel_rfl
def Wr (n:Nat) (a0 a1:Int) (a2:List D) (a3 a4:Int) (a5:List D) (a6 a7 a8:Int):Option (Bool) :=
 if a0 > 8 then
  (Wv n).bind fun t2 =>
  some t2
 else
 if a1 > 8 then
  (Wv n).bind fun t3 =>
  some t3
 else
 if a3 > 8 then
  (Wv n).bind fun t4 =>
  some t4
 else
 if a4 > 8 then
  (Wv n).bind fun t5 =>
  some t5
 else
 (ZL n a0 a1 a2 a3 a4 a5).bind fun t5 =>
 if t5=0 then
  if (fop .add .f32 1065353216 (FloatKind.nearest .f32 a6)).isSome=true then
  if (fop .quo .f32 ((fop .add .f32 1065353216 (FloatKind.nearest .f32 a6)).getD 0) 1098907648).isSome=true then
  if Qb ((Int.tmod (IntKind.wrap .i64 a7) 5) - 2) then
  if Qb ((Int.tmod (IntKind.wrap .i64 a8) 5) - 2) then
  (Q2 n a0 a1 a2).bind fun t11 =>
  (WL n t11.1 t11.2.1 t11.2.2).bind fun t12 =>
  (Q2 n a3 a4 a5).bind fun t13 =>
  (WL n t13.1 t13.2.1 t13.2.2).bind fun t14 =>
  (Zg n t11.1 t11.2.1 t11.2.2).bind fun t15 =>
  if t12.2.2.2=0 then
   if t14.2.2.2=0 then
    if t15.2.2.2=0 then
     (ZL n t12.1 t12.2.1 t12.2.2.1 t14.1 t14.2.1 t14.2.2.1).bind fun t19 =>
     if t19=0 then
      (Q5 n t15.1 t15.2.1 t15.2.2.1).bind fun t21 =>
      if t21=0 then
       (WG n t11.1 t11.2.1 t11.2.2 ((fop .quo .f32 ((fop .add .f32 1065353216 (FloatKind.nearest .f32 a6)).getD 0) 1098907648).getD 0)).bind fun t23 =>
       if ZZ 4 (0+(t12.2.2.1).length) then
       (WG n t12.1 t12.2.1 t12.2.2.1 ((fop .quo .f32 ((fop .add .f32 1065353216 (FloatKind.nearest .f32 a6)).getD 0) 1098907648).getD 0)).bind fun t25 =>
       if ZZ 4 (0+(t15.2.2.1).length) then
       (WG n t15.1 t15.2.1 t15.2.2.1 ((fop .quo .f32 ((fop .add .f32 1065353216 (FloatKind.nearest .f32 a6)).getD 0) 1098907648).getD 0)).bind fun t27 =>
       (Vn n t11.1 t11.2.1 t11.2.2 ((fop .quo .f32 ((fop .add .f32 1065353216 (FloatKind.nearest .f32 a6)).getD 0) 1098907648).getD 0)).bind fun t28 =>
       (Vn n t12.1 t12.2.1 t12.2.2.1 ((fop .quo .f32 ((fop .add .f32 1065353216 (FloatKind.nearest .f32 a6)).getD 0) 1098907648).getD 0)).bind fun t29 =>
       (Vm n t11.1 t11.2.1 t11.2.2).bind fun t30 =>
       (Vm n t12.1 t12.2.1 t12.2.2.1).bind fun t31 =>
       if t23.2=0 then
        if t25.2=0 then
         if t27.2=0 then
          if t28.2.2=0 then
           if t29.2.2=0 then
            if t30.2=0 then
             if t31.2=0 then
              if ((t25.1).length:Int)=((t23.1).length:Int) then
               if ((t27.1).length:Int)=((t23.1).length:Int) then
                if ((t28.1 == t29.1) && ((t28.2.1 == t29.2.1) && true))=true then
                 if t30.1=t31.1 then
                  (Qz (QH n a0 a1 a2 a3 a4 a5 a7 a8 t12 t14 t15 t23 t25 t27) n (0,[])).bind fun t43 =>
                  if wc .i64 0 t43=true then
                  (Qz (QN n a0 a1 a2 a3 a4 a5 a7 a8 t12 t14 t15 t43) n t43.length).bind fun t45 =>
                  (Z2 n t11.1 t11.2.1 t11.2.2 t13.1 t13.2.1 t13.2.2 ((Int.tmod (IntKind.wrap .i64 a7) 5) - 2) ((Int.tmod (IntKind.wrap .i64 a8) 5) - 2)).bind fun t46 =>
                  if ZZ 4 (0+(t14.2.2.1).length) then
                  (Z2 n t12.1 t12.2.1 t12.2.2.1 t14.1 t14.2.1 t14.2.2.1 (IntKind.wrap .i64 (0 - ((Int.tmod (IntKind.wrap .i64 a7) 5) - 2))) ((Int.tmod (IntKind.wrap .i64 a8) 5) - 2)).bind fun t48 =>
                  if t46.2.2=t48.2.2 then
                   if t46.1=t48.1 then
                    if t46.2.1=t48.2.1 then
                     if t46.2.2=0 then
                      (QY n t11.1 t11.2.1 t11.2.2 t13.1 t13.2.1 t13.2.2 2 1).bind fun t53 =>
                      (QY n t12.1 t12.2.1 t12.2.2.1 t14.1 t14.2.1 t14.2.2.1 2 1).bind fun t54 =>
                      if t53.2.2.2.2=0 then
                       if t54.2.2.2.2=0 then
                        if ((t53.2.2.1 == t54.2.2.1) && ((t53.2.2.2.1 == t54.2.2.2.1) && true))=true then
                         (Zg n t15.1 t15.2.1 t15.2.2.1).bind fun t58 =>
                         if t58.2.2.2=0 then
                          (Zg n t58.1 t58.2.1 t58.2.2.1).bind fun t60 =>
                          if t60.2.2.2=0 then
                           (Zg n t60.1 t60.2.1 t60.2.2.1).bind fun t62 =>
                           if t62.2.2.2=0 then
                            (WK n t62.1 t62.2.1 t62.2.2.1 a0 a1 a2).bind fun t64 =>
                            if t64=true then
                             (Wv n).bind fun t66 =>
                             some t66
                            else
                            none
                           else
                           none
                          else
                          none
                         else
                         none
                        else
                        none
                       else
                       none
                      else
                      none
                     else
                     if t46.2.2=7 then
                      (QY n t11.1 t11.2.1 t11.2.2 t13.1 t13.2.1 t13.2.2 2 1).bind fun t54 =>
                      (QY n t12.1 t12.2.1 t12.2.2.1 t14.1 t14.2.1 t14.2.2.1 2 1).bind fun t55 =>
                      if t54.2.2.2.2=0 then
                       if t55.2.2.2.2=0 then
                        if ((t54.2.2.1 == t55.2.2.1) && ((t54.2.2.2.1 == t55.2.2.2.1) && true))=true then
                         (Zg n t15.1 t15.2.1 t15.2.2.1).bind fun t59 =>
                         if t59.2.2.2=0 then
                          (Zg n t59.1 t59.2.1 t59.2.2.1).bind fun t61 =>
                          if t61.2.2.2=0 then
                           (Zg n t61.1 t61.2.1 t61.2.2.1).bind fun t63 =>
                           if t63.2.2.2=0 then
                            (WK n t63.1 t63.2.1 t63.2.2.1 a0 a1 a2).bind fun t65 =>
                            if t65=true then
                             (Wv n).bind fun t67 =>
                             some t67
                            else
                            none
                           else
                           none
                          else
                          none
                         else
                         none
                        else
                        none
                       else
                       none
                      else
                      none
                     else
                     none
                    else
                    none
                   else
                   none
                  else
                  none
                  else none
                  else none
                 else
                 none
                else
                none
               else
               none
              else
              none
             else
             none
            else
            none
           else
           none
          else
          none
         else
         none
        else
        none
       else
       none
       else none
       else none
      else
      none
     else
     none
    else
    none
   else
   none
  else
  none
  else none
  else none
  else none
  else none
 else
 (Wv n).bind fun t7 =>
 some t7
theorem Ga {n:Nat} {a0 a1:Int} {a2:List D} {a3 a4:Int} {a5:List D} {a6 a7 a8:Int} {r:Bool} (h:Wr n a0 a1 a2 a3 a4 a5 a6 a7 a8=some r):Computes cx 3 [.agg [I a0,I a1,.lst false 1 a2],.agg [I a3,I a4,.lst false 1 a5],.agg [.v (.int .u8 a6),.v (.int .u8 a7),.v (.int .u8 a8)]] (B r):=by
 unfold Wr at h
 by_cases h1:a0 > 8
 ·replace h:=Qj h h1
  obtain ⟨t2,h2,h⟩:=Qe h
  replace h:=Option.some.inj h
  subst h
  exact run (n:=100) (f:=3) (args:=[.agg [I a0,I a1,.lst false 1 a2],.agg [I a3,I a4,.lst false 1 a5],.agg [.v (.int .u8 a6),.v (.int .u8 a7),.v (.int .u8 a8)]]) (orc:=[.br true,.no,.no,.no,.no,.ret (B t2)]) (r:=B t2) (ob:=[Computes cx 5 [] (B t2),(decide (a0 > 8))=true]) (Je a0 a1 a2 a3 a4 a5 a6 a7 a8 t2) ⟨(WR h2),(decide_eq_true h1),trivial⟩
 ·replace h:=Qk h h1
  by_cases h2:a1 > 8
  ·replace h:=Qj h h2
   obtain ⟨t3,h3,h⟩:=Qe h
   replace h:=Option.some.inj h
   subst h
   exact run (n:=100) (f:=3) (args:=[.agg [I a0,I a1,.lst false 1 a2],.agg [I a3,I a4,.lst false 1 a5],.agg [.v (.int .u8 a6),.v (.int .u8 a7),.v (.int .u8 a8)]]) (orc:=[.br false,.br true,.no,.no,.no,.ret (B t3)]) (r:=B t3) (ob:=[Computes cx 5 [] (B t3),(decide (a1 > 8))=true,(decide (a0 > 8))=false]) (Jd a0 a1 a2 a3 a4 a5 a6 a7 a8 t3) ⟨(WR h3),(decide_eq_true h2),(decide_eq_false h1),trivial⟩
  ·replace h:=Qk h h2
   by_cases h3:a3 > 8
   ·replace h:=Qj h h3
    obtain ⟨t4,h4,h⟩:=Qe h
    replace h:=Option.some.inj h
    subst h
    exact run (n:=100) (f:=3) (args:=[.agg [I a0,I a1,.lst false 1 a2],.agg [I a3,I a4,.lst false 1 a5],.agg [.v (.int .u8 a6),.v (.int .u8 a7),.v (.int .u8 a8)]]) (orc:=[.br false,.br false,.br true,.no,.no,.ret (B t4)]) (r:=B t4) (ob:=[Computes cx 5 [] (B t4),(decide (a3 > 8))=true,(decide (a1 > 8))=false,(decide (a0 > 8))=false]) (Jc a0 a1 a2 a3 a4 a5 a6 a7 a8 t4) ⟨(WR h4),(decide_eq_true h3),(decide_eq_false h2),(decide_eq_false h1),trivial⟩
   ·replace h:=Qk h h3
    by_cases h4:a4 > 8
    ·replace h:=Qj h h4
     obtain ⟨t5,h5,h⟩:=Qe h
     replace h:=Option.some.inj h
     subst h
     exact run (n:=100) (f:=3) (args:=[.agg [I a0,I a1,.lst false 1 a2],.agg [I a3,I a4,.lst false 1 a5],.agg [.v (.int .u8 a6),.v (.int .u8 a7),.v (.int .u8 a8)]]) (orc:=[.br false,.br false,.br false,.br true,.no,.ret (B t5)]) (r:=B t5) (ob:=[Computes cx 5 [] (B t5),(decide (a4 > 8))=true,(decide (a3 > 8))=false,(decide (a1 > 8))=false,(decide (a0 > 8))=false]) (Jb a0 a1 a2 a3 a4 a5 a6 a7 a8 t5) ⟨(WR h5),(decide_eq_true h4),(decide_eq_false h3),(decide_eq_false h2),(decide_eq_false h1),trivial⟩
    ·replace h:=Qk h h4
     obtain ⟨t5,h5,h⟩:=Qe h
     by_cases h6:t5=0
     ·replace h:=Qj h h6
      obtain ⟨h7,h⟩:=Qf h
      obtain ⟨h8,h⟩:=Qf h
      obtain ⟨h9,h⟩:=Qf h
      obtain ⟨h10,h⟩:=Qf h
      obtain ⟨t11,h11,h⟩:=Qe h
      obtain ⟨t12,h12,h⟩:=Qe h
      obtain ⟨t13,h13,h⟩:=Qe h
      obtain ⟨t14,h14,h⟩:=Qe h
      obtain ⟨t15,h15,h⟩:=Qe h
      by_cases h16:t12.2.2.2=0
      ·replace h:=Qj h h16
       by_cases h17:t14.2.2.2=0
       ·replace h:=Qj h h17
        by_cases h18:t15.2.2.2=0
        ·replace h:=Qj h h18
         obtain ⟨t19,h19,h⟩:=Qe h
         by_cases h20:t19=0
         ·replace h:=Qj h h20
          obtain ⟨t21,h21,h⟩:=Qe h
          by_cases h22:t21=0
          ·replace h:=Qj h h22
           obtain ⟨t23,h23,h⟩:=Qe h
           obtain ⟨h24,h⟩:=Qf h
           obtain ⟨t25,h25,h⟩:=Qe h
           obtain ⟨h26,h⟩:=Qf h
           obtain ⟨t27,h27,h⟩:=Qe h
           obtain ⟨t28,h28,h⟩:=Qe h
           obtain ⟨t29,h29,h⟩:=Qe h
           obtain ⟨t30,h30,h⟩:=Qe h
           obtain ⟨t31,h31,h⟩:=Qe h
           by_cases h32:t23.2=0
           ·replace h:=Qj h h32
            by_cases h33:t25.2=0
            ·replace h:=Qj h h33
             by_cases h34:t27.2=0
             ·replace h:=Qj h h34
              by_cases h35:t28.2.2=0
              ·replace h:=Qj h h35
               by_cases h36:t29.2.2=0
               ·replace h:=Qj h h36
                by_cases h37:t30.2=0
                ·replace h:=Qj h h37
                 by_cases h38:t31.2=0
                 ·replace h:=Qj h h38
                  by_cases h39:((t25.1).length:Int)=((t23.1).length:Int)
                  ·replace h:=Qj h h39
                   by_cases h40:((t27.1).length:Int)=((t23.1).length:Int)
                   ·replace h:=Qj h h40
                    by_cases h41:((t28.1 == t29.1) && ((t28.2.1 == t29.2.1) && true))=true
                    ·replace h:=Qj h h41
                     by_cases h42:t30.1=t31.1
                     ·replace h:=Qj h h42
                      obtain ⟨t43,h43,h⟩:=Qe h
                      obtain ⟨h44,h⟩:=Qf h
                      obtain ⟨t45,h45,h⟩:=Qe h
                      obtain ⟨t46,h46,h⟩:=Qe h
                      obtain ⟨h47,h⟩:=Qf h
                      obtain ⟨t48,h48,h⟩:=Qe h
                      by_cases h49:t46.2.2=t48.2.2
                      ·replace h:=Qj h h49
                       by_cases h50:t46.1=t48.1
                       ·replace h:=Qj h h50
                        by_cases h51:t46.2.1=t48.2.1
                        ·replace h:=Qj h h51
                         by_cases h52:t46.2.2=0
                         ·replace h:=Qj h h52
                          obtain ⟨t53,h53,h⟩:=Qe h
                          obtain ⟨t54,h54,h⟩:=Qe h
                          by_cases h55:t53.2.2.2.2=0
                          ·replace h:=Qj h h55
                           by_cases h56:t54.2.2.2.2=0
                           ·replace h:=Qj h h56
                            by_cases h57:((t53.2.2.1 == t54.2.2.1) && ((t53.2.2.2.1 == t54.2.2.2.1) && true))=true
                            ·replace h:=Qj h h57
                             obtain ⟨t58,h58,h⟩:=Qe h
                             by_cases h59:t58.2.2.2=0
                             ·replace h:=Qj h h59
                              obtain ⟨t60,h60,h⟩:=Qe h
                              by_cases h61:t60.2.2.2=0
                              ·replace h:=Qj h h61
                               obtain ⟨t62,h62,h⟩:=Qe h
                               by_cases h63:t62.2.2.2=0
                               ·replace h:=Qj h h63
                                obtain ⟨t64,h64,h⟩:=Qe h
                                by_cases h65:t64=true
                                ·replace h:=Qj h h65
                                 obtain ⟨t66,h66,h⟩:=Qe h
                                 replace h:=Option.some.inj h
                                 subst h
                                 exact run (n:=100) (f:=3) (args:=[.agg [I a0,I a1,.lst false 1 a2],.agg [I a3,I a4,.lst false 1 a5],.agg [.v (.int .u8 a6),.v (.int .u8 a7),.v (.int .u8 a8)]]) (orc:=[.br false,.br false,.br false,.br false,.ret (I t5),.br false,.ret (.agg [I t11.1,I t11.2.1,.lst false 1 t11.2.2]),.ret (.tup [.agg [I t12.1,I t12.2.1,.lst false 1 t12.2.2.1],I t12.2.2.2]),.ret (.agg [I t13.1,I t13.2.1,.lst false 1 t13.2.2]),.ret (.tup [.agg [I t14.1,I t14.2.1,.lst false 1 t14.2.2.1],I t14.2.2.2]),.ret (.agg [I t11.1,I t11.2.1,.lst false 1 t11.2.2]),.ret (.tup [.agg [I t15.1,I t15.2.1,.lst false 1 t15.2.2.1],I t15.2.2.2]),.br false,.br false,.br false,.ret (I t19),.br false,.ret (I t21),.br false,.ret (.agg [I t11.1,I t11.2.1,.lst false 1 t11.2.2]),.ret (.tup [.lst false 1 t23.1,I t23.2]),.br true,.br true,.ix (-8),.br true,.ret (.tup [.lst false 1 t25.1,I t25.2]),.br true,.br true,.ix (-8),.br true,.ret (.tup [.lst false 1 t27.1,I t27.2]),.ret (.agg [I t11.1,I t11.2.1,.lst false 1 t11.2.2]),.ret (.tup [.agg [I t28.1,I t28.2.1],I t28.2.2]),.br true,.br true,.ix (-8),.br true,.ret (.tup [.agg [I t29.1,I t29.2.1],I t29.2.2]),.ret (.agg [I t11.1,I t11.2.1,.lst false 1 t11.2.2]),.ret (.tup [I t30.1,I t30.2]),.br true,.br true,.ix (-8),.br true,.ret (.tup [I t31.1,I t31.2]),.br false,.br false,.br false,.br false,.br false,.br false,.br false,.br false,.br false,.br false,.br false,.lp [] [3,4,8,9,10,12,14,18,20,30,240,241,242] [0,1,45,55,65,75,275] (.exit 0) [(3,.ptr 0 0 0 0 0),(4,.ptr 1 0 0 0 0),(8,.ptr 45 0 0 0 0),(9,.d (.fn (.func 6) [] [])),(10,.ptr 55 0 0 0 0),(12,.ptr 65 0 0 0 0),(14,.ptr 75 0 0 0 0),(30,.own 275 0)] [(0,.box (.d (.agg [I a0,I a1,.lst false 1 a2]))),(1,.box (.d (.agg [I a3,I a4,.lst false 1 a5]))),(45,.box (.d (.agg [I ((Int.tmod (IntKind.wrap .i64 a7) 5) - 2),I ((Int.tmod (IntKind.wrap .i64 a8) 5) - 2)]))),(55,.box (.d (.agg [I t12.1,I t12.2.1,.lst false 1 t12.2.2.1]))),(65,.box (.d (.agg [I t14.1,I t14.2.1,.lst false 1 t14.2.2.1]))),(75,.box (.d (.agg [I t15.1,I t15.2.1,.lst false 1 t15.2.2.1]))),(275,.mp t43)] 384,.el (.v (.int .i64 0)),.lp [] [3,4,8,9,10,12,14,301] [0,1,45,55,65,75,385] (.exit 6) [(3,.ptr 0 0 0 0 0),(4,.ptr 1 0 0 0 0),(8,.ptr 45 0 0 0 0),(9,.d (.fn (.func 6) [] [])),(10,.ptr 55 0 0 0 0),(12,.ptr 65 0 0 0 0),(14,.ptr 75 0 0 0 0)] [(0,.box (.d (.agg [I a0,I a1,.lst false 1 a2]))),(1,.box (.d (.agg [I a3,I a4,.lst false 1 a5]))),(45,.box (.d (.agg [I ((Int.tmod (IntKind.wrap .i64 a7) 5) - 2),I ((Int.tmod (IntKind.wrap .i64 a8) 5) - 2)]))),(55,.box (.d (.agg [I t12.1,I t12.2.1,.lst false 1 t12.2.2.1]))),(65,.box (.d (.agg [I t14.1,I t14.2.1,.lst false 1 t14.2.2.1]))),(75,.box (.d (.agg [I t15.1,I t15.2.1,.lst false 1 t15.2.2.1])))] 404,.ret (.agg [I t11.1,I t11.2.1,.lst false 1 t11.2.2]),.ret (.agg [I t13.1,I t13.2.1,.lst false 1 t13.2.2]),.ret (.tup [I t46.1,I t46.2.1,I t46.2.2]),.no,.br true,.ix (-8),.br true,.no,.br true,.ix (-8),.br true,.ret (.tup [I t48.1,I t48.2.1,I t48.2.2]),.br false,.br false,.br false,.br false,.no,.ret (.agg [I t11.1,I t11.2.1,.lst false 1 t11.2.2]),.ret (.agg [I t13.1,I t13.2.1,.lst false 1 t13.2.2]),.ret (.tup [.agg [I t53.1,I t53.2.1],.agg [I t53.2.2.1,I t53.2.2.2.1],I t53.2.2.2.2]),.no,.br true,.ix (-8),.br true,.no,.br true,.ix (-8),.br true,.ret (.tup [.agg [I t54.1,I t54.2.1],.agg [I t54.2.2.1,I t54.2.2.2.1],I t54.2.2.2.2]),.br false,.br false,.br false,.br true,.br true,.ix (-8),.br true,.no,.no,.ret (.tup [.agg [I t58.1,I t58.2.1,.lst false 1 t58.2.2.1],I t58.2.2.2]),.br false,.no,.no,.ret (.tup [.agg [I t60.1,I t60.2.1,.lst false 1 t60.2.2.1],I t60.2.2.2]),.br false,.no,.no,.ret (.tup [.agg [I t62.1,I t62.2.1,.lst false 1 t62.2.2.1],I t62.2.2.2]),.br false,.no,.no,.ret (B t64),.br true,.ret (B t66)]) (r:=B t66) (ob:=[Computes cx 5 [] (B t66),t64=true,Computes cx 18 [.agg [I t62.1,I t62.2.1,.lst false 1 t62.2.2.1],.agg [I a0,I a1,.lst false 1 a2]] (B t64),Qb 3,(t62.2.2.2 != 0)=false,Computes cx 9 [.agg [I t60.1,I t60.2.1,.lst false 1 t60.2.2.1]] (.tup [.agg [I t62.1,I t62.2.1,.lst false 1 t62.2.2.1],I t62.2.2.2]),Qb 2,(t60.2.2.2 != 0)=false,Computes cx 9 [.agg [I t58.1,I t58.2.1,.lst false 1 t58.2.2.1]] (.tup [.agg [I t60.1,I t60.2.1,.lst false 1 t60.2.2.1],I t60.2.2.2]),Qb 1,(t58.2.2.2 != 0)=false,Computes cx 9 [.agg [I t15.1,I t15.2.1,.lst false 1 t15.2.2.1]] (.tup [.agg [I t58.1,I t58.2.1,.lst false 1 t58.2.2.1],I t58.2.2.2]),room cx 28 (0+(t15.2.2.1).length),(!((t53.2.2.1 == t54.2.2.1) && ((t53.2.2.2.1 == t54.2.2.2.1) && true)))=false,(t54.2.2.2.2 != 0)=false,(t53.2.2.2.2 != 0)=false,Computes cx 17 [.agg [I t12.1,I t12.2.1,.lst false 1 t12.2.2.1],.agg [I t14.1,I t14.2.1,.lst false 1 t14.2.2.1],I 2,I 1] (.tup [.agg [I t54.1,I t54.2.1],.agg [I t54.2.2.1,I t54.2.2.2.1],I t54.2.2.2.2]),room cx 28 (0+(t14.2.2.1).length),room cx 28 (0+(t12.2.2.1).length),Computes cx 17 [.agg [I t11.1,I t11.2.1,.lst false 1 t11.2.2],.agg [I t13.1,I t13.2.1,.lst false 1 t13.2.2],I 2,I 1] (.tup [.agg [I t53.1,I t53.2.1],.agg [I t53.2.2.1,I t53.2.2.2.1],I t53.2.2.2.2]),Computes cx 6 [.agg [I a3,I a4,.lst false 1 a5]] (.agg [I t13.1,I t13.2.1,.lst false 1 t13.2.2]),Computes cx 6 [.agg [I a0,I a1,.lst false 1 a2]] (.agg [I t11.1,I t11.2.1,.lst false 1 t11.2.2]),(t46.2.2 != 0)=false,(t46.2.1 != t48.2.1)=false,(t46.1 != t48.1)=false,(t46.2.2 != t48.2.2)=false,Computes cx 16 [.agg [I t12.1,I t12.2.1,.lst false 1 t12.2.2.1],.agg [I t14.1,I t14.2.1,.lst false 1 t14.2.2.1],.agg [I (IntKind.wrap .i64 (0 - ((Int.tmod (IntKind.wrap .i64 a7) 5) - 2))),I ((Int.tmod (IntKind.wrap .i64 a8) 5) - 2)]] (.tup [I t48.1,I t48.2.1,I t48.2.2]),room cx 28 (0+(t14.2.2.1).length),room cx 28 (0+(t12.2.2.1).length),Computes cx 16 [.agg [I t11.1,I t11.2.1,.lst false 1 t11.2.2],.agg [I t13.1,I t13.2.1,.lst false 1 t13.2.2],.agg [I ((Int.tmod (IntKind.wrap .i64 a7) 5) - 2),I ((Int.tmod (IntKind.wrap .i64 a8) 5) - 2)]] (.tup [I t46.1,I t46.2.1,I t46.2.2]),Computes cx 6 [.agg [I a3,I a4,.lst false 1 a5]] (.agg [I t13.1,I t13.2.1,.lst false 1 t13.2.2]),Computes cx 6 [.agg [I a0,I a1,.lst false 1 a2]] (.agg [I t11.1,I t11.2.1,.lst false 1 t11.2.2]),QM cx (Qs cx.P 3 3) 406 0 false [(3,.ptr 0 0 0 0 0),(4,.ptr 1 0 0 0 0),(8,.ptr 45 0 0 0 0),(9,.d (.fn (.func 6) [] [])),(10,.ptr 55 0 0 0 0),(12,.ptr 65 0 0 0 0),(14,.ptr 75 0 0 0 0),(301,.own 385 0)] [(0,.box (.d (.agg [I a0,I a1,.lst false 1 a2]))),(1,.box (.d (.agg [I a3,I a4,.lst false 1 a5]))),(45,.box (.d (.agg [I ((Int.tmod (IntKind.wrap .i64 a7) 5) - 2),I ((Int.tmod (IntKind.wrap .i64 a8) 5) - 2)]))),(55,.box (.d (.agg [I t12.1,I t12.2.1,.lst false 1 t12.2.2.1]))),(65,.box (.d (.agg [I t14.1,I t14.2.1,.lst false 1 t14.2.2.1]))),(75,.box (.d (.agg [I t15.1,I t15.2.1,.lst false 1 t15.2.2.1]))),(385,.it (.mp (.int .i64 0) t43.length) t43.length)] (.exit 6) [(3,.ptr 0 0 0 0 0),(4,.ptr 1 0 0 0 0),(8,.ptr 45 0 0 0 0),(9,.d (.fn (.func 6) [] [])),(10,.ptr 55 0 0 0 0),(12,.ptr 65 0 0 0 0),(14,.ptr 75 0 0 0 0)] [(0,.box (.d (.agg [I a0,I a1,.lst false 1 a2]))),(1,.box (.d (.agg [I a3,I a4,.lst false 1 a5]))),(45,.box (.d (.agg [I ((Int.tmod (IntKind.wrap .i64 a7) 5) - 2),I ((Int.tmod (IntKind.wrap .i64 a8) 5) - 2)]))),(55,.box (.d (.agg [I t12.1,I t12.2.1,.lst false 1 t12.2.2.1]))),(65,.box (.d (.agg [I t14.1,I t14.2.1,.lst false 1 t14.2.2.1]))),(75,.box (.d (.agg [I t15.1,I t15.2.1,.lst false 1 t15.2.2.1])))],wc .i64 0 t43=true,QM cx (Qs cx.P 3 0) 406 0 false [(3,.ptr 0 0 0 0 0),(4,.ptr 1 0 0 0 0),(8,.ptr 45 0 0 0 0),(9,.d (.fn (.func 6) [] [])),(10,.ptr 55 0 0 0 0),(12,.ptr 65 0 0 0 0),(14,.ptr 75 0 0 0 0),(18,.d (.lst false 1 t25.1)),(20,.d (.lst false 1 t27.1)),(30,.own 275 0),(240,.d (.lst false 1 t23.1)),(241,.d (I ((t23.1).length:Int))),(242,.d (I 0))] [(0,.box (.d (.agg [I a0,I a1,.lst false 1 a2]))),(1,.box (.d (.agg [I a3,I a4,.lst false 1 a5]))),(45,.box (.d (.agg [I ((Int.tmod (IntKind.wrap .i64 a7) 5) - 2),I ((Int.tmod (IntKind.wrap .i64 a8) 5) - 2)]))),(55,.box (.d (.agg [I t12.1,I t12.2.1,.lst false 1 t12.2.2.1]))),(65,.box (.d (.agg [I t14.1,I t14.2.1,.lst false 1 t14.2.2.1]))),(75,.box (.d (.agg [I t15.1,I t15.2.1,.lst false 1 t15.2.2.1]))),(275,.mp [])] (.exit 0) [(3,.ptr 0 0 0 0 0),(4,.ptr 1 0 0 0 0),(8,.ptr 45 0 0 0 0),(9,.d (.fn (.func 6) [] [])),(10,.ptr 55 0 0 0 0),(12,.ptr 65 0 0 0 0),(14,.ptr 75 0 0 0 0),(30,.own 275 0)] [(0,.box (.d (.agg [I a0,I a1,.lst false 1 a2]))),(1,.box (.d (.agg [I a3,I a4,.lst false 1 a5]))),(45,.box (.d (.agg [I ((Int.tmod (IntKind.wrap .i64 a7) 5) - 2),I ((Int.tmod (IntKind.wrap .i64 a8) 5) - 2)]))),(55,.box (.d (.agg [I t12.1,I t12.2.1,.lst false 1 t12.2.2.1]))),(65,.box (.d (.agg [I t14.1,I t14.2.1,.lst false 1 t14.2.2.1]))),(75,.box (.d (.agg [I t15.1,I t15.2.1,.lst false 1 t15.2.2.1]))),(275,.mp t43)],(t30.1 != t31.1)=false,(!((t28.1 == t29.1) && ((t28.2.1 == t29.2.1) && true)))=false,(((t27.1).length:Int) != ((t23.1).length:Int))=false,(((t25.1).length:Int) != ((t23.1).length:Int))=false,(t31.2 != 0)=false,(t30.2 != 0)=false,(t29.2.2 != 0)=false,(t28.2.2 != 0)=false,(t27.2 != 0)=false,(t25.2 != 0)=false,(t23.2 != 0)=false,Computes cx 14 [.agg [I t12.1,I t12.2.1,.lst false 1 t12.2.2.1]] (.tup [I t31.1,I t31.2]),room cx 28 (0+(t12.2.2.1).length),Computes cx 14 [.agg [I t11.1,I t11.2.1,.lst false 1 t11.2.2]] (.tup [I t30.1,I t30.2]),Computes cx 6 [.agg [I a0,I a1,.lst false 1 a2]] (.agg [I t11.1,I t11.2.1,.lst false 1 t11.2.2]),Computes cx 13 [.agg [I t12.1,I t12.2.1,.lst false 1 t12.2.2.1],.v (.float .f32 ((fop .quo .f32 ((fop .add .f32 1065353216 (FloatKind.nearest .f32 a6)).getD 0) 1098907648).getD 0))] (.tup [.agg [I t29.1,I t29.2.1],I t29.2.2]),room cx 28 (0+(t12.2.2.1).length),Computes cx 13 [.agg [I t11.1,I t11.2.1,.lst false 1 t11.2.2],.v (.float .f32 ((fop .quo .f32 ((fop .add .f32 1065353216 (FloatKind.nearest .f32 a6)).getD 0) 1098907648).getD 0))] (.tup [.agg [I t28.1,I t28.2.1],I t28.2.2]),Computes cx 6 [.agg [I a0,I a1,.lst false 1 a2]] (.agg [I t11.1,I t11.2.1,.lst false 1 t11.2.2]),Computes cx 11 [.agg [I t15.1,I t15.2.1,.lst false 1 t15.2.2.1],.v (.float .f32 ((fop .quo .f32 ((fop .add .f32 1065353216 (FloatKind.nearest .f32 a6)).getD 0) 1098907648).getD 0))] (.tup [.lst false 1 t27.1,I t27.2]),room cx 28 (0+(t15.2.2.1).length),Computes cx 11 [.agg [I t12.1,I t12.2.1,.lst false 1 t12.2.2.1],.v (.float .f32 ((fop .quo .f32 ((fop .add .f32 1065353216 (FloatKind.nearest .f32 a6)).getD 0) 1098907648).getD 0))] (.tup [.lst false 1 t25.1,I t25.2]),room cx 28 (0+(t12.2.2.1).length),Computes cx 11 [.agg [I t11.1,I t11.2.1,.lst false 1 t11.2.2],.v (.float .f32 ((fop .quo .f32 ((fop .add .f32 1065353216 (FloatKind.nearest .f32 a6)).getD 0) 1098907648).getD 0))] (.tup [.lst false 1 t23.1,I t23.2]),Computes cx 6 [.agg [I a0,I a1,.lst false 1 a2]] (.agg [I t11.1,I t11.2.1,.lst false 1 t11.2.2]),(t21 != 0)=false,Computes cx 10 [.agg [I t15.1,I t15.2.1,.lst false 1 t15.2.2.1]] (I t21),(t19 != 0)=false,Computes cx 4 [.agg [I t12.1,I t12.2.1,.lst false 1 t12.2.2.1],.agg [I t14.1,I t14.2.1,.lst false 1 t14.2.2.1]] (I t19),(t15.2.2.2 != 0)=false,(t14.2.2.2 != 0)=false,(t12.2.2.2 != 0)=false,Computes cx 9 [.agg [I t11.1,I t11.2.1,.lst false 1 t11.2.2]] (.tup [.agg [I t15.1,I t15.2.1,.lst false 1 t15.2.2.1],I t15.2.2.2]),Computes cx 6 [.agg [I a0,I a1,.lst false 1 a2]] (.agg [I t11.1,I t11.2.1,.lst false 1 t11.2.2]),Computes cx 8 [.agg [I t13.1,I t13.2.1,.lst false 1 t13.2.2]] (.tup [.agg [I t14.1,I t14.2.1,.lst false 1 t14.2.2.1],I t14.2.2.2]),Computes cx 6 [.agg [I a3,I a4,.lst false 1 a5]] (.agg [I t13.1,I t13.2.1,.lst false 1 t13.2.2]),Computes cx 8 [.agg [I t11.1,I t11.2.1,.lst false 1 t11.2.2]] (.tup [.agg [I t12.1,I t12.2.1,.lst false 1 t12.2.2.1],I t12.2.2.2]),Computes cx 6 [.agg [I a0,I a1,.lst false 1 a2]] (.agg [I t11.1,I t11.2.1,.lst false 1 t11.2.2]),Qb ((Int.tmod (IntKind.wrap .i64 a8) 5) - 2),(5:Int)≠0,Qb ((Int.tmod (IntKind.wrap .i64 a7) 5) - 2),(5:Int)≠0,(fop .quo .f32 ((fop .add .f32 1065353216 (FloatKind.nearest .f32 a6)).getD 0) 1098907648).isSome=true,(fop .add .f32 1065353216 (FloatKind.nearest .f32 a6)).isSome=true,(t5 != 0)=false,Computes cx 4 [.agg [I a0,I a1,.lst false 1 a2],.agg [I a3,I a4,.lst false 1 a5]] (I t5),(decide (a4 > 8))=false,(decide (a3 > 8))=false,(decide (a1 > 8))=false,(decide (a0 > 8))=false]) (Ja a0 a1 a2 a3 a4 a5 a6 a7 a8 t5 t11 t12 t13 t14 t15 t19 t21 t23 t25 t27 t28 t29 t30 t31 t43 t46 t48 t53 t54 t58 t60 t62 t64 t66) ⟨(WR h66),h65,(Gq h64),(by unfold Qb;omega),(nef h63),(Wa h62),(by unfold Qb;omega),(nef h61),(Wa h60),(by unfold Qb;omega),(nef h59),(Wa h58),(QT (b:=4) (by kernel_rfl) (by decide) h26),(yl h57),(nef h56),(nef h55),(Vk h54),(QT (b:=4) (by kernel_rfl) (by decide) h47),(QT (b:=4) (by kernel_rfl) (by decide) h24),(Vk h53),(Qn h13),(Qn h11),(nef h52),(nef h51),(nef h50),(nef h49),(Vc h48),(QT (b:=4) (by kernel_rfl) (by decide) h47),(QT (b:=4) (by kernel_rfl) (by decide) h24),(Vc h46),(Qn h13),(Qn h11),(Qu VA h45),h44,(Qu VB h43),(nef h42),(yl h41),(nef h40),(nef h39),(nef h38),(nef h37),(nef h36),(nef h35),(nef h34),(nef h33),(nef h32),(Y0 h31),(QT (b:=4) (by kernel_rfl) (by decide) h24),(Y0 h30),(Qn h11),(Y1 h29),(QT (b:=4) (by kernel_rfl) (by decide) h24),(Y1 h28),(Qn h11),(W1 h27),(QT (b:=4) (by kernel_rfl) (by decide) h26),(W1 h25),(QT (b:=4) (by kernel_rfl) (by decide) h24),(W1 h23),(Qn h11),(nef h22),(Vb h21),(nef h20),(W0 h19),(nef h18),(nef h17),(nef h16),(Wa h15),(Qn h11),(WJ h14),(Qn h13),(WJ h12),(Qn h11),h10,(by decide),h9,(by decide),h8,h7,(nef h6),(W0 h5),(decide_eq_false h4),(decide_eq_false h3),(decide_eq_false h2),(decide_eq_false h1),trivial⟩
                                ·replace h:=Qk h h65
                                 cases h
                               ·replace h:=Qk h h63
                                cases h
                              ·replace h:=Qk h h61
                               cases h
                             ·replace h:=Qk h h59
                              cases h
                            ·replace h:=Qk h h57
                             cases h
                           ·replace h:=Qk h h56
                            cases h
                          ·replace h:=Qk h h55
                           cases h
                         ·replace h:=Qk h h52
                          by_cases h53:t46.2.2=7
                          ·replace h:=Qj h h53
                           obtain ⟨t54,h54,h⟩:=Qe h
                           obtain ⟨t55,h55,h⟩:=Qe h
                           by_cases h56:t54.2.2.2.2=0
                           ·replace h:=Qj h h56
                            by_cases h57:t55.2.2.2.2=0
                            ·replace h:=Qj h h57
                             by_cases h58:((t54.2.2.1 == t55.2.2.1) && ((t54.2.2.2.1 == t55.2.2.2.1) && true))=true
                             ·replace h:=Qj h h58
                              obtain ⟨t59,h59,h⟩:=Qe h
                              by_cases h60:t59.2.2.2=0
                              ·replace h:=Qj h h60
                               obtain ⟨t61,h61,h⟩:=Qe h
                               by_cases h62:t61.2.2.2=0
                               ·replace h:=Qj h h62
                                obtain ⟨t63,h63,h⟩:=Qe h
                                by_cases h64:t63.2.2.2=0
                                ·replace h:=Qj h h64
                                 obtain ⟨t65,h65,h⟩:=Qe h
                                 by_cases h66:t65=true
                                 ·replace h:=Qj h h66
                                  obtain ⟨t67,h67,h⟩:=Qe h
                                  replace h:=Option.some.inj h
                                  subst h
                                  exact run (n:=100) (f:=3) (args:=[.agg [I a0,I a1,.lst false 1 a2],.agg [I a3,I a4,.lst false 1 a5],.agg [.v (.int .u8 a6),.v (.int .u8 a7),.v (.int .u8 a8)]]) (orc:=[.br false,.br false,.br false,.br false,.ret (I t5),.br false,.ret (.agg [I t11.1,I t11.2.1,.lst false 1 t11.2.2]),.ret (.tup [.agg [I t12.1,I t12.2.1,.lst false 1 t12.2.2.1],I t12.2.2.2]),.ret (.agg [I t13.1,I t13.2.1,.lst false 1 t13.2.2]),.ret (.tup [.agg [I t14.1,I t14.2.1,.lst false 1 t14.2.2.1],I t14.2.2.2]),.ret (.agg [I t11.1,I t11.2.1,.lst false 1 t11.2.2]),.ret (.tup [.agg [I t15.1,I t15.2.1,.lst false 1 t15.2.2.1],I t15.2.2.2]),.br false,.br false,.br false,.ret (I t19),.br false,.ret (I t21),.br false,.ret (.agg [I t11.1,I t11.2.1,.lst false 1 t11.2.2]),.ret (.tup [.lst false 1 t23.1,I t23.2]),.br true,.br true,.ix (-8),.br true,.ret (.tup [.lst false 1 t25.1,I t25.2]),.br true,.br true,.ix (-8),.br true,.ret (.tup [.lst false 1 t27.1,I t27.2]),.ret (.agg [I t11.1,I t11.2.1,.lst false 1 t11.2.2]),.ret (.tup [.agg [I t28.1,I t28.2.1],I t28.2.2]),.br true,.br true,.ix (-8),.br true,.ret (.tup [.agg [I t29.1,I t29.2.1],I t29.2.2]),.ret (.agg [I t11.1,I t11.2.1,.lst false 1 t11.2.2]),.ret (.tup [I t30.1,I t30.2]),.br true,.br true,.ix (-8),.br true,.ret (.tup [I t31.1,I t31.2]),.br false,.br false,.br false,.br false,.br false,.br false,.br false,.br false,.br false,.br false,.br false,.lp [] [3,4,8,9,10,12,14,18,20,30,240,241,242] [0,1,45,55,65,75,275] (.exit 0) [(3,.ptr 0 0 0 0 0),(4,.ptr 1 0 0 0 0),(8,.ptr 45 0 0 0 0),(9,.d (.fn (.func 6) [] [])),(10,.ptr 55 0 0 0 0),(12,.ptr 65 0 0 0 0),(14,.ptr 75 0 0 0 0),(30,.own 275 0)] [(0,.box (.d (.agg [I a0,I a1,.lst false 1 a2]))),(1,.box (.d (.agg [I a3,I a4,.lst false 1 a5]))),(45,.box (.d (.agg [I ((Int.tmod (IntKind.wrap .i64 a7) 5) - 2),I ((Int.tmod (IntKind.wrap .i64 a8) 5) - 2)]))),(55,.box (.d (.agg [I t12.1,I t12.2.1,.lst false 1 t12.2.2.1]))),(65,.box (.d (.agg [I t14.1,I t14.2.1,.lst false 1 t14.2.2.1]))),(75,.box (.d (.agg [I t15.1,I t15.2.1,.lst false 1 t15.2.2.1]))),(275,.mp t43)] 384,.el (.v (.int .i64 0)),.lp [] [3,4,8,9,10,12,14,301] [0,1,45,55,65,75,385] (.exit 6) [(3,.ptr 0 0 0 0 0),(4,.ptr 1 0 0 0 0),(8,.ptr 45 0 0 0 0),(9,.d (.fn (.func 6) [] [])),(10,.ptr 55 0 0 0 0),(12,.ptr 65 0 0 0 0),(14,.ptr 75 0 0 0 0)] [(0,.box (.d (.agg [I a0,I a1,.lst false 1 a2]))),(1,.box (.d (.agg [I a3,I a4,.lst false 1 a5]))),(45,.box (.d (.agg [I ((Int.tmod (IntKind.wrap .i64 a7) 5) - 2),I ((Int.tmod (IntKind.wrap .i64 a8) 5) - 2)]))),(55,.box (.d (.agg [I t12.1,I t12.2.1,.lst false 1 t12.2.2.1]))),(65,.box (.d (.agg [I t14.1,I t14.2.1,.lst false 1 t14.2.2.1]))),(75,.box (.d (.agg [I t15.1,I t15.2.1,.lst false 1 t15.2.2.1])))] 404,.ret (.agg [I t11.1,I t11.2.1,.lst false 1 t11.2.2]),.ret (.agg [I t13.1,I t13.2.1,.lst false 1 t13.2.2]),.ret (.tup [I t46.1,I t46.2.1,I t46.2.2]),.no,.br true,.ix (-8),.br true,.no,.br true,.ix (-8),.br true,.ret (.tup [I t48.1,I t48.2.1,I t48.2.2]),.br false,.br false,.br false,.br true,.br false,.ret (.agg [I t11.1,I t11.2.1,.lst false 1 t11.2.2]),.ret (.agg [I t13.1,I t13.2.1,.lst false 1 t13.2.2]),.ret (.tup [.agg [I t54.1,I t54.2.1],.agg [I t54.2.2.1,I t54.2.2.2.1],I t54.2.2.2.2]),.no,.br true,.ix (-8),.br true,.no,.br true,.ix (-8),.br true,.ret (.tup [.agg [I t55.1,I t55.2.1],.agg [I t55.2.2.1,I t55.2.2.2.1],I t55.2.2.2.2]),.br false,.br false,.br false,.br true,.br true,.ix (-8),.br true,.no,.no,.ret (.tup [.agg [I t59.1,I t59.2.1,.lst false 1 t59.2.2.1],I t59.2.2.2]),.br false,.no,.no,.ret (.tup [.agg [I t61.1,I t61.2.1,.lst false 1 t61.2.2.1],I t61.2.2.2]),.br false,.no,.no,.ret (.tup [.agg [I t63.1,I t63.2.1,.lst false 1 t63.2.2.1],I t63.2.2.2]),.br false,.no,.no,.ret (B t65),.br true,.ret (B t67)]) (r:=B t67) (ob:=[Computes cx 5 [] (B t67),t65=true,Computes cx 18 [.agg [I t63.1,I t63.2.1,.lst false 1 t63.2.2.1],.agg [I a0,I a1,.lst false 1 a2]] (B t65),Qb 3,(t63.2.2.2 != 0)=false,Computes cx 9 [.agg [I t61.1,I t61.2.1,.lst false 1 t61.2.2.1]] (.tup [.agg [I t63.1,I t63.2.1,.lst false 1 t63.2.2.1],I t63.2.2.2]),Qb 2,(t61.2.2.2 != 0)=false,Computes cx 9 [.agg [I t59.1,I t59.2.1,.lst false 1 t59.2.2.1]] (.tup [.agg [I t61.1,I t61.2.1,.lst false 1 t61.2.2.1],I t61.2.2.2]),Qb 1,(t59.2.2.2 != 0)=false,Computes cx 9 [.agg [I t15.1,I t15.2.1,.lst false 1 t15.2.2.1]] (.tup [.agg [I t59.1,I t59.2.1,.lst false 1 t59.2.2.1],I t59.2.2.2]),room cx 28 (0+(t15.2.2.1).length),(!((t54.2.2.1 == t55.2.2.1) && ((t54.2.2.2.1 == t55.2.2.2.1) && true)))=false,(t55.2.2.2.2 != 0)=false,(t54.2.2.2.2 != 0)=false,Computes cx 17 [.agg [I t12.1,I t12.2.1,.lst false 1 t12.2.2.1],.agg [I t14.1,I t14.2.1,.lst false 1 t14.2.2.1],I 2,I 1] (.tup [.agg [I t55.1,I t55.2.1],.agg [I t55.2.2.1,I t55.2.2.2.1],I t55.2.2.2.2]),room cx 28 (0+(t14.2.2.1).length),room cx 28 (0+(t12.2.2.1).length),Computes cx 17 [.agg [I t11.1,I t11.2.1,.lst false 1 t11.2.2],.agg [I t13.1,I t13.2.1,.lst false 1 t13.2.2],I 2,I 1] (.tup [.agg [I t54.1,I t54.2.1],.agg [I t54.2.2.1,I t54.2.2.2.1],I t54.2.2.2.2]),Computes cx 6 [.agg [I a3,I a4,.lst false 1 a5]] (.agg [I t13.1,I t13.2.1,.lst false 1 t13.2.2]),Computes cx 6 [.agg [I a0,I a1,.lst false 1 a2]] (.agg [I t11.1,I t11.2.1,.lst false 1 t11.2.2]),(t46.2.2 != 7)=false,(t46.2.2 != 0)=true,(t46.2.1 != t48.2.1)=false,(t46.1 != t48.1)=false,(t46.2.2 != t48.2.2)=false,Computes cx 16 [.agg [I t12.1,I t12.2.1,.lst false 1 t12.2.2.1],.agg [I t14.1,I t14.2.1,.lst false 1 t14.2.2.1],.agg [I (IntKind.wrap .i64 (0 - ((Int.tmod (IntKind.wrap .i64 a7) 5) - 2))),I ((Int.tmod (IntKind.wrap .i64 a8) 5) - 2)]] (.tup [I t48.1,I t48.2.1,I t48.2.2]),room cx 28 (0+(t14.2.2.1).length),room cx 28 (0+(t12.2.2.1).length),Computes cx 16 [.agg [I t11.1,I t11.2.1,.lst false 1 t11.2.2],.agg [I t13.1,I t13.2.1,.lst false 1 t13.2.2],.agg [I ((Int.tmod (IntKind.wrap .i64 a7) 5) - 2),I ((Int.tmod (IntKind.wrap .i64 a8) 5) - 2)]] (.tup [I t46.1,I t46.2.1,I t46.2.2]),Computes cx 6 [.agg [I a3,I a4,.lst false 1 a5]] (.agg [I t13.1,I t13.2.1,.lst false 1 t13.2.2]),Computes cx 6 [.agg [I a0,I a1,.lst false 1 a2]] (.agg [I t11.1,I t11.2.1,.lst false 1 t11.2.2]),QM cx (Qs cx.P 3 3) 406 0 false [(3,.ptr 0 0 0 0 0),(4,.ptr 1 0 0 0 0),(8,.ptr 45 0 0 0 0),(9,.d (.fn (.func 6) [] [])),(10,.ptr 55 0 0 0 0),(12,.ptr 65 0 0 0 0),(14,.ptr 75 0 0 0 0),(301,.own 385 0)] [(0,.box (.d (.agg [I a0,I a1,.lst false 1 a2]))),(1,.box (.d (.agg [I a3,I a4,.lst false 1 a5]))),(45,.box (.d (.agg [I ((Int.tmod (IntKind.wrap .i64 a7) 5) - 2),I ((Int.tmod (IntKind.wrap .i64 a8) 5) - 2)]))),(55,.box (.d (.agg [I t12.1,I t12.2.1,.lst false 1 t12.2.2.1]))),(65,.box (.d (.agg [I t14.1,I t14.2.1,.lst false 1 t14.2.2.1]))),(75,.box (.d (.agg [I t15.1,I t15.2.1,.lst false 1 t15.2.2.1]))),(385,.it (.mp (.int .i64 0) t43.length) t43.length)] (.exit 6) [(3,.ptr 0 0 0 0 0),(4,.ptr 1 0 0 0 0),(8,.ptr 45 0 0 0 0),(9,.d (.fn (.func 6) [] [])),(10,.ptr 55 0 0 0 0),(12,.ptr 65 0 0 0 0),(14,.ptr 75 0 0 0 0)] [(0,.box (.d (.agg [I a0,I a1,.lst false 1 a2]))),(1,.box (.d (.agg [I a3,I a4,.lst false 1 a5]))),(45,.box (.d (.agg [I ((Int.tmod (IntKind.wrap .i64 a7) 5) - 2),I ((Int.tmod (IntKind.wrap .i64 a8) 5) - 2)]))),(55,.box (.d (.agg [I t12.1,I t12.2.1,.lst false 1 t12.2.2.1]))),(65,.box (.d (.agg [I t14.1,I t14.2.1,.lst false 1 t14.2.2.1]))),(75,.box (.d (.agg [I t15.1,I t15.2.1,.lst false 1 t15.2.2.1])))],wc .i64 0 t43=true,QM cx (Qs cx.P 3 0) 406 0 false [(3,.ptr 0 0 0 0 0),(4,.ptr 1 0 0 0 0),(8,.ptr 45 0 0 0 0),(9,.d (.fn (.func 6) [] [])),(10,.ptr 55 0 0 0 0),(12,.ptr 65 0 0 0 0),(14,.ptr 75 0 0 0 0),(18,.d (.lst false 1 t25.1)),(20,.d (.lst false 1 t27.1)),(30,.own 275 0),(240,.d (.lst false 1 t23.1)),(241,.d (I ((t23.1).length:Int))),(242,.d (I 0))] [(0,.box (.d (.agg [I a0,I a1,.lst false 1 a2]))),(1,.box (.d (.agg [I a3,I a4,.lst false 1 a5]))),(45,.box (.d (.agg [I ((Int.tmod (IntKind.wrap .i64 a7) 5) - 2),I ((Int.tmod (IntKind.wrap .i64 a8) 5) - 2)]))),(55,.box (.d (.agg [I t12.1,I t12.2.1,.lst false 1 t12.2.2.1]))),(65,.box (.d (.agg [I t14.1,I t14.2.1,.lst false 1 t14.2.2.1]))),(75,.box (.d (.agg [I t15.1,I t15.2.1,.lst false 1 t15.2.2.1]))),(275,.mp [])] (.exit 0) [(3,.ptr 0 0 0 0 0),(4,.ptr 1 0 0 0 0),(8,.ptr 45 0 0 0 0),(9,.d (.fn (.func 6) [] [])),(10,.ptr 55 0 0 0 0),(12,.ptr 65 0 0 0 0),(14,.ptr 75 0 0 0 0),(30,.own 275 0)] [(0,.box (.d (.agg [I a0,I a1,.lst false 1 a2]))),(1,.box (.d (.agg [I a3,I a4,.lst false 1 a5]))),(45,.box (.d (.agg [I ((Int.tmod (IntKind.wrap .i64 a7) 5) - 2),I ((Int.tmod (IntKind.wrap .i64 a8) 5) - 2)]))),(55,.box (.d (.agg [I t12.1,I t12.2.1,.lst false 1 t12.2.2.1]))),(65,.box (.d (.agg [I t14.1,I t14.2.1,.lst false 1 t14.2.2.1]))),(75,.box (.d (.agg [I t15.1,I t15.2.1,.lst false 1 t15.2.2.1]))),(275,.mp t43)],(t30.1 != t31.1)=false,(!((t28.1 == t29.1) && ((t28.2.1 == t29.2.1) && true)))=false,(((t27.1).length:Int) != ((t23.1).length:Int))=false,(((t25.1).length:Int) != ((t23.1).length:Int))=false,(t31.2 != 0)=false,(t30.2 != 0)=false,(t29.2.2 != 0)=false,(t28.2.2 != 0)=false,(t27.2 != 0)=false,(t25.2 != 0)=false,(t23.2 != 0)=false,Computes cx 14 [.agg [I t12.1,I t12.2.1,.lst false 1 t12.2.2.1]] (.tup [I t31.1,I t31.2]),room cx 28 (0+(t12.2.2.1).length),Computes cx 14 [.agg [I t11.1,I t11.2.1,.lst false 1 t11.2.2]] (.tup [I t30.1,I t30.2]),Computes cx 6 [.agg [I a0,I a1,.lst false 1 a2]] (.agg [I t11.1,I t11.2.1,.lst false 1 t11.2.2]),Computes cx 13 [.agg [I t12.1,I t12.2.1,.lst false 1 t12.2.2.1],.v (.float .f32 ((fop .quo .f32 ((fop .add .f32 1065353216 (FloatKind.nearest .f32 a6)).getD 0) 1098907648).getD 0))] (.tup [.agg [I t29.1,I t29.2.1],I t29.2.2]),room cx 28 (0+(t12.2.2.1).length),Computes cx 13 [.agg [I t11.1,I t11.2.1,.lst false 1 t11.2.2],.v (.float .f32 ((fop .quo .f32 ((fop .add .f32 1065353216 (FloatKind.nearest .f32 a6)).getD 0) 1098907648).getD 0))] (.tup [.agg [I t28.1,I t28.2.1],I t28.2.2]),Computes cx 6 [.agg [I a0,I a1,.lst false 1 a2]] (.agg [I t11.1,I t11.2.1,.lst false 1 t11.2.2]),Computes cx 11 [.agg [I t15.1,I t15.2.1,.lst false 1 t15.2.2.1],.v (.float .f32 ((fop .quo .f32 ((fop .add .f32 1065353216 (FloatKind.nearest .f32 a6)).getD 0) 1098907648).getD 0))] (.tup [.lst false 1 t27.1,I t27.2]),room cx 28 (0+(t15.2.2.1).length),Computes cx 11 [.agg [I t12.1,I t12.2.1,.lst false 1 t12.2.2.1],.v (.float .f32 ((fop .quo .f32 ((fop .add .f32 1065353216 (FloatKind.nearest .f32 a6)).getD 0) 1098907648).getD 0))] (.tup [.lst false 1 t25.1,I t25.2]),room cx 28 (0+(t12.2.2.1).length),Computes cx 11 [.agg [I t11.1,I t11.2.1,.lst false 1 t11.2.2],.v (.float .f32 ((fop .quo .f32 ((fop .add .f32 1065353216 (FloatKind.nearest .f32 a6)).getD 0) 1098907648).getD 0))] (.tup [.lst false 1 t23.1,I t23.2]),Computes cx 6 [.agg [I a0,I a1,.lst false 1 a2]] (.agg [I t11.1,I t11.2.1,.lst false 1 t11.2.2]),(t21 != 0)=false,Computes cx 10 [.agg [I t15.1,I t15.2.1,.lst false 1 t15.2.2.1]] (I t21),(t19 != 0)=false,Computes cx 4 [.agg [I t12.1,I t12.2.1,.lst false 1 t12.2.2.1],.agg [I t14.1,I t14.2.1,.lst false 1 t14.2.2.1]] (I t19),(t15.2.2.2 != 0)=false,(t14.2.2.2 != 0)=false,(t12.2.2.2 != 0)=false,Computes cx 9 [.agg [I t11.1,I t11.2.1,.lst false 1 t11.2.2]] (.tup [.agg [I t15.1,I t15.2.1,.lst false 1 t15.2.2.1],I t15.2.2.2]),Computes cx 6 [.agg [I a0,I a1,.lst false 1 a2]] (.agg [I t11.1,I t11.2.1,.lst false 1 t11.2.2]),Computes cx 8 [.agg [I t13.1,I t13.2.1,.lst false 1 t13.2.2]] (.tup [.agg [I t14.1,I t14.2.1,.lst false 1 t14.2.2.1],I t14.2.2.2]),Computes cx 6 [.agg [I a3,I a4,.lst false 1 a5]] (.agg [I t13.1,I t13.2.1,.lst false 1 t13.2.2]),Computes cx 8 [.agg [I t11.1,I t11.2.1,.lst false 1 t11.2.2]] (.tup [.agg [I t12.1,I t12.2.1,.lst false 1 t12.2.2.1],I t12.2.2.2]),Computes cx 6 [.agg [I a0,I a1,.lst false 1 a2]] (.agg [I t11.1,I t11.2.1,.lst false 1 t11.2.2]),Qb ((Int.tmod (IntKind.wrap .i64 a8) 5) - 2),(5:Int)≠0,Qb ((Int.tmod (IntKind.wrap .i64 a7) 5) - 2),(5:Int)≠0,(fop .quo .f32 ((fop .add .f32 1065353216 (FloatKind.nearest .f32 a6)).getD 0) 1098907648).isSome=true,(fop .add .f32 1065353216 (FloatKind.nearest .f32 a6)).isSome=true,(t5 != 0)=false,Computes cx 4 [.agg [I a0,I a1,.lst false 1 a2],.agg [I a3,I a4,.lst false 1 a5]] (I t5),(decide (a4 > 8))=false,(decide (a3 > 8))=false,(decide (a1 > 8))=false,(decide (a0 > 8))=false]) (KA a0 a1 a2 a3 a4 a5 a6 a7 a8 t5 t11 t12 t13 t14 t15 t19 t21 t23 t25 t27 t28 t29 t30 t31 t43 t46 t48 t54 t55 t59 t61 t63 t65 t67) ⟨(WR h67),h66,(Gq h65),(by unfold Qb;omega),(nef h64),(Wa h63),(by unfold Qb;omega),(nef h62),(Wa h61),(by unfold Qb;omega),(nef h60),(Wa h59),(QT (b:=4) (by kernel_rfl) (by decide) h26),(yl h58),(nef h57),(nef h56),(Vk h55),(QT (b:=4) (by kernel_rfl) (by decide) h47),(QT (b:=4) (by kernel_rfl) (by decide) h24),(Vk h54),(Qn h13),(Qn h11),(nef h53),(net h52),(nef h51),(nef h50),(nef h49),(Vc h48),(QT (b:=4) (by kernel_rfl) (by decide) h47),(QT (b:=4) (by kernel_rfl) (by decide) h24),(Vc h46),(Qn h13),(Qn h11),(Qu VA h45),h44,(Qu VB h43),(nef h42),(yl h41),(nef h40),(nef h39),(nef h38),(nef h37),(nef h36),(nef h35),(nef h34),(nef h33),(nef h32),(Y0 h31),(QT (b:=4) (by kernel_rfl) (by decide) h24),(Y0 h30),(Qn h11),(Y1 h29),(QT (b:=4) (by kernel_rfl) (by decide) h24),(Y1 h28),(Qn h11),(W1 h27),(QT (b:=4) (by kernel_rfl) (by decide) h26),(W1 h25),(QT (b:=4) (by kernel_rfl) (by decide) h24),(W1 h23),(Qn h11),(nef h22),(Vb h21),(nef h20),(W0 h19),(nef h18),(nef h17),(nef h16),(Wa h15),(Qn h11),(WJ h14),(Qn h13),(WJ h12),(Qn h11),h10,(by decide),h9,(by decide),h8,h7,(nef h6),(W0 h5),(decide_eq_false h4),(decide_eq_false h3),(decide_eq_false h2),(decide_eq_false h1),trivial⟩
                                 ·replace h:=Qk h h66
                                  cases h
                                ·replace h:=Qk h h64
                                 cases h
                               ·replace h:=Qk h h62
                                cases h
                              ·replace h:=Qk h h60
                               cases h
                             ·replace h:=Qk h h58
                              cases h
                            ·replace h:=Qk h h57
                             cases h
                           ·replace h:=Qk h h56
                            cases h
                          ·replace h:=Qk h h53
                           cases h
                        ·replace h:=Qk h h51
                         cases h
                       ·replace h:=Qk h h50
                        cases h
                      ·replace h:=Qk h h49
                       cases h
                     ·replace h:=Qk h h42
                      cases h
                    ·replace h:=Qk h h41
                     cases h
                   ·replace h:=Qk h h40
                    cases h
                  ·replace h:=Qk h h39
                   cases h
                 ·replace h:=Qk h h38
                  cases h
                ·replace h:=Qk h h37
                 cases h
               ·replace h:=Qk h h36
                cases h
              ·replace h:=Qk h h35
               cases h
             ·replace h:=Qk h h34
              cases h
            ·replace h:=Qk h h33
             cases h
           ·replace h:=Qk h h32
            cases h
          ·replace h:=Qk h h22
           cases h
         ·replace h:=Qk h h20
          cases h
        ·replace h:=Qk h h18
         cases h
       ·replace h:=Qk h h17
        cases h
      ·replace h:=Qk h h16
       cases h
     ·replace h:=Qk h h6
      obtain ⟨t7,h7,h⟩:=Qe h
      replace h:=Option.some.inj h
      subst h
      exact run (n:=100) (f:=3) (args:=[.agg [I a0,I a1,.lst false 1 a2],.agg [I a3,I a4,.lst false 1 a5],.agg [.v (.int .u8 a6),.v (.int .u8 a7),.v (.int .u8 a8)]]) (orc:=[.br false,.br false,.br false,.br false,.ret (I t5),.br true,.ret (B t7)]) (r:=B t7) (ob:=[Computes cx 5 [] (B t7),(t5 != 0)=true,Computes cx 4 [.agg [I a0,I a1,.lst false 1 a2],.agg [I a3,I a4,.lst false 1 a5]] (I t5),(decide (a4 > 8))=false,(decide (a3 > 8))=false,(decide (a1 > 8))=false,(decide (a0 > 8))=false]) (Kz a0 a1 a2 a3 a4 a5 a6 a7 a8 t5 t7) ⟨(WR h7),(net h6),(W0 h5),(decide_eq_false h4),(decide_eq_false h3),(decide_eq_false h2),(decide_eq_false h1),trivial⟩
end Go.Proofs.YtfiigcbhiopagaaGreatDoor
namespace Go.Flo
open Ieee
def V (s:Bool) (m:Nat) (i:Int):Int:=signed s m (i+2000).toNat
def vn (m:Nat) (i:Int):Nat:=m * 2 ^ (i+2000).toNat
theorem V_eq (s:Bool) (m:Nat) (i:Int):V s m i=if s then -(vn m i:Int) else (vn m i:Int):=by
 unfold V signed vn
 rw [Nat.shiftLeft_eq]
theorem E1 {m:Nat} {i j:Int} (h : -2000≤j) (hij:j≤i):vn m i=m * 2 ^ (i - j).toNat * 2 ^ (j+2000).toNat:=by
 unfold vn
 rw [show (i+2000).toNat=(i - j).toNat+(j+2000).toNat by omega,Nat.pow_add,Nat.mul_assoc]
theorem jC (s:Bool) (m k c:Nat):signed s m (k+c)=signed s m k * ((2 ^ c:Nat):Int):=by
 unfold signed
 rw [Nat.shiftLeft_eq,Nat.shiftLeft_eq,Nat.pow_add,← Nat.mul_assoc]
 cases s
 ·simp
 ·simp [Int.neg_mul]
theorem QbL {a b c:Int} (h:0 < c):compare (a * c) (b * c)=compare a b:=by
 rcases Int.lt_trichotomy a b with h1 | h1 | h1
 ·have h2:=Int.mul_lt_mul_of_pos_right h1 h
  rw [Int.compare_eq_lt.2 h1,Int.compare_eq_lt.2 h2]
 ·subst h1;rw [Int.compare_eq_eq.2 rfl,Int.compare_eq_eq.2 rfl]
 ·have h2:=Int.mul_lt_mul_of_pos_right h1 h
  rw [Int.compare_eq_gt.2 h1,Int.compare_eq_gt.2 h2]
theorem order_val {s t:Bool} {m n:Nat} {i j:Int} (hi : -2000≤i) (hj : -2000≤j):(Datum.number s m i).order (Datum.number t n j)=some (compare (V s m i) (V t n j)):=by
 show some (compare (signed s m (i - min i j).toNat) (signed t n (j - min i j).toNat))=_
 have e1:(i+2000).toNat=(i - min i j).toNat+(min i j+2000).toNat:=by omega
 have e2:(j+2000).toNat=(j - min i j).toNat+(min i j+2000).toNat:=by omega
 unfold V
 rw [e1,e2,jC,jC,QbL]
 have:=Nat.two_pow_pos (min i j+2000).toNat
 omega
theorem QbI (w:Toward) (s:Bool) (n:Nat):w.cut s n 0=n:=by
 unfold Toward.cut
 have h:1 <<< min 0 (n.log2+2)=1:=by rw [Nat.zero_min];rfl
 simp only [h,Nat.div_one,Nat.mod_one]
 cases w <;> simp
theorem QfR (s:Bool) {n d:Nat} (hd:d≤n.log2+2) (h:2 ^ d ∣ n) (w:Toward):w.cut s n d=n / 2 ^ d:=by
 unfold Toward.cut
 have hg:1 <<< min d (n.log2+2)=2 ^ d:=by rw [Nat.min_eq_left hd,Nat.one_shiftLeft]
 have h0:n % 2 ^ d=0:=Nat.mod_eq_zero_of_dvd h
 have hp:=Nat.two_pow_pos d
 simp only [hg,h0]
 cases w <;> simp
structure Fmt (f:Format) (lp:Int) (fb E:Nat):Prop where
 fbE:f.fractionBits=fb
 lpE:f.leastPlace=lp
 lo : -1500≤lp
 h0:lp≤0
 inf:f.infRung≤f.signWeight
 big:∀ d k:Nat,d≤((E:Int) - lp).toNat→k < 2 ^ (fb+1)→d * 2 ^ fb+k < f.infRung
theorem f32:Fmt single (-149) 23 16 where
 fbE:=rfl
 lpE:=by decide
 lo:=by decide
 h0:=by decide
 inf:=by decide
 big d k hd hk:=by
  have:single.infRung=255 * 2 ^ 23:=by decide
  rw [this]
  omega
theorem f64 {E:Nat} (hE:E≤200):Fmt double (-1074) 52 E where
 fbE:=rfl
 lpE:=by decide
 lo:=by decide
 h0:=by decide
 inf:=by decide
 big d k hd hk:=by
  have:double.infRung=2047 * 2 ^ 52:=by decide
  rw [this]
  omega
theorem yV {f:Format} {lp:Int} {fb E:Nat} (h:Fmt f lp fb E) (s:Bool) {d k:Nat} (hd:d≤((E:Int) - lp).toNat) (hk:k < 2 ^ (fb+1)) (hn:d=0 ∨ 2 ^ fb≤k) :
  f.read (f.word s (min (d * f.binade+k) f.infRung))=.number s k (lp+d):=by
 have hb:f.binade=2 ^ fb:=by unfold Format.binade;rw [h.fbE]
 have hlt:=h.big d k hd hk
 have hinf:=h.inf
 rw [hb,Nat.min_eq_left (by omega)]
 obtain ⟨r,hr⟩:∃ r,r=d * 2 ^ fb+k:=⟨_,rfl⟩
 rw [← hr] at hlt ⊢
 have hw:f.word s r / f.signWeight % 2=(if s then 1 else 0)∧f.word s r % f.signWeight=r:=by
  unfold Format.word
  cases s
  ·simp only [Bool.false_eq_true,if_false]
   rw [Nat.div_eq_of_lt (show r < f.signWeight by omega),Nat.mod_eq_of_lt (show r < f.signWeight by omega)]
   exact ⟨rfl,rfl⟩
  ·simp only [if_true]
   have hp:0 < f.signWeight:=by omega
   rw [Nat.add_div_left _ hp,Nat.div_eq_of_lt (show r < f.signWeight by omega),Nat.add_mod_left,Nat.mod_eq_of_lt (show r < f.signWeight by omega)]
   exact ⟨rfl,rfl⟩
 unfold Format.read
 rw [hw.1,hw.2,hb,h.lpE]
 have hs:((if s=true then 1 else 0) == 1)=s:=by cases s <;> rfl
 simp only [hs]
 have hp:=Nat.two_pow_pos fb
 have hpow:2 ^ (fb+1)=2 * 2 ^ fb:=by rw [Nat.pow_succ];omega
 by_cases hk2:k < 2 ^ fb
 ·have hd0:d=0:=by omega
  subst hd0
  have:r=k:=by omega
  subst this
  rw [if_pos hk2];simp
 ·have e:r=(d+1) * 2 ^ fb+(k - 2 ^ fb):=by rw [Nat.add_mul];omega
  have hq:k - 2 ^ fb < 2 ^ fb:=by omega
  have h1:r / 2 ^ fb=d+1:=by
   rw [e,Nat.add_comm,Nat.add_mul_div_right _ _ hp,Nat.div_eq_of_lt hq];omega
  have h2:r % 2 ^ fb=k - 2 ^ fb:=by
   rw [e,Nat.add_comm,Nat.add_mul_mod_self_right,Nat.mod_eq_of_lt hq]
  have hge:¬ r < 2 ^ fb:=by rw [e,Nat.add_mul];omega
  rw [if_neg hge,if_pos hlt,h1,h2]
  congr 1
  omega
theorem write_read {f:Format} {lp:Int} {fb E:Nat} (h:Fmt f lp fb E) (s:Bool) {m q:Nat} {i p:Int} (hq:q < 2 ^ (fb+1)) (hp:lp≤p) (hi : -1900≤i) (hv:vn m i=vn q p) (hb:vn m i < 2 ^ (2000+E)) :
  ∃ n j,f.read (f.write (.number s m i))=.number s n j∧lp≤j∧n < 2 ^ (fb+1)∧vn n j=vn m i:=by
 have hlo:=h.lo
 show ∃ n j,f.read (f.nearest s m i)=_∧_
 unfold Format.nearest
 by_cases hm:m=0
 ·subst hm
  rw [if_pos rfl]
  have:=yV h s (d:=0) (k:=0) (by omega) (Nat.two_pow_pos _) (.inl rfl)
  have e:min (0 * f.binade+0) f.infRung=0:=by simp
  rw [e] at this
  exact ⟨0,_,this,by omega,Nat.two_pow_pos _,by unfold vn;simp⟩
 rw [if_neg hm]
 -- m=q 2^k,or m is small
 have hq0:q≠0:=by
  intro e
  subst e
  unfold vn at hv
  have:=Nat.two_pow_pos (i+2000).toNat
  rw [Nat.zero_mul] at hv
  rcases Nat.mul_eq_zero.1 hv with h1 | h1
  ·exact hm h1
  ·omega
 have hk:∃ r k:Nat,m=r * 2 ^ k∧r < 2 ^ (fb+1)∧r≠0∧lp≤k+i:=by
  rcases Int.le_total i p with hip | hip
  ·refine ⟨q,(p - i).toNat,?_,hq,hq0,by omega⟩
   rw [E1 (by omega) hip] at hv
   unfold vn at hv
   exact Nat.eq_of_mul_eq_mul_right (Nat.two_pow_pos _) hv
  ·refine ⟨m,0,by simp,?_,hm,by omega⟩
   rw [E1 (m:=m) (j:=p) (by omega) hip] at hv
   unfold vn at hv
   have:=Nat.eq_of_mul_eq_mul_right (Nat.two_pow_pos _) hv
   have h1:=Nat.two_pow_pos (i - p).toNat
   have h2:m * 1≤m * 2 ^ (i - p).toNat:=Nat.mul_le_mul_left _ h1
   omega
 obtain ⟨r,k,rfl,hr,hr0,hki⟩:=hk
 have hl:(r * 2 ^ k).log2=r.log2+k:=by
  have h1:=Nat.log2_self_le hr0
  have h2:=Nat.lt_log2_self (n:=r)
  refine (Nat.log2_eq_iff hm).2 ⟨?_,?_⟩
  ·rw [Nat.pow_add];exact Nat.mul_le_mul_right _ h1
  ·rw [show r.log2+k+1=(r.log2+1)+k by omega,Nat.pow_add];exact Nat.mul_lt_mul_of_pos_right h2 (Nat.two_pow_pos _)
 have hrl:r.log2≤fb:=by
  have:=(Nat.log2_lt hr0).2 hr
  omega
 have hbnd:i+(r * 2 ^ k).log2 < E:=by
  have h1:=Nat.log2_self_le hm
  have h3:2 ^ ((r * 2 ^ k).log2+(i+2000).toNat)≤vn (r * 2 ^ k) i:=by
   unfold vn
   rw [Nat.pow_add];exact Nat.mul_le_mul_right _ h1
  have h4:=Nat.lt_of_le_of_lt h3 hb
  have:=(Nat.pow_lt_pow_iff_right (by omega:1 < 2)).1 h4
  omega
 rw [h.fbE,h.lpE,hl]
 rw [hl] at hbnd
 obtain ⟨L,hL⟩:∃ L:Int,L=max (i+((r.log2+k:Nat):Int) - (fb:Int)) lp:=⟨_,rfl⟩
 simp only [← hL]
 have hkept:∃ K:Nat,Toward.even.cut s ((r * 2 ^ k) <<< (i - L).toNat) (L - i).toNat=K∧vn K L=vn (r * 2 ^ k) i∧K≠0∧i+((r.log2+k:Nat):Int)=L+(K.log2:Int):=by
  rcases Int.le_total L i with hLi | hLi
  ·refine ⟨(r * 2 ^ k) <<< (i - L).toNat,?_,?_,?_,?_⟩
   ·rw [show (L - i).toNat=0 by omega,QbI]
   ·rw [E1 (i:=i) (j:=L) (by omega) hLi,Nat.shiftLeft_eq];rfl
   ·rw [Nat.shiftLeft_eq]
    have:=Nat.two_pow_pos (i - L).toNat
    intro e
    rcases Nat.mul_eq_zero.1 e with h1 | h1
    ·exact hm h1
    ·omega
   ·rw [Nat.shiftLeft_eq,Nat.mul_assoc,← Nat.pow_add]
    have:(r * 2 ^ (k+(i - L).toNat)).log2=r.log2+(k+(i - L).toNat):=by
     have h1:=Nat.log2_self_le hr0
     have h2:=Nat.lt_log2_self (n:=r)
     have h0:r * 2 ^ (k+(i - L).toNat)≠0:=by
      have:=Nat.two_pow_pos (k+(i - L).toNat)
      intro e
      rcases Nat.mul_eq_zero.1 e with h1 | h1
      ·exact hr0 h1
      ·omega
     refine (Nat.log2_eq_iff h0).2 ⟨?_,?_⟩
     ·rw [Nat.pow_add];exact Nat.mul_le_mul_right _ h1
     ·rw [show r.log2+(k+(i - L).toNat)+1=(r.log2+1)+(k+(i - L).toNat) by omega,Nat.pow_add 2 (r.log2+1)];exact Nat.mul_lt_mul_of_pos_right h2 (Nat.two_pow_pos _)
    rw [this];omega
  ·-- dropped digits are noughts
   have hdk:(L - i).toNat≤k:=by omega
   have hdv:r * 2 ^ k=r * 2 ^ (k - (L - i).toNat) * 2 ^ (L - i).toNat:=by
    rw [Nat.mul_assoc,← Nat.pow_add];congr 2;omega
   refine ⟨r * 2 ^ (k - (L - i).toNat),?_,?_,?_,?_⟩
   ·rw [show (i - L).toNat=0 by omega,Nat.shiftLeft_zero,QfR s (by rw [hl];omega) ⟨r * 2 ^ (k - (L - i).toNat),by rw [hdv];rw [Nat.mul_comm]⟩,hdv,Nat.mul_div_cancel _ (Nat.two_pow_pos _)]
   ·rw [E1 (i:=L) (j:=i) (by omega) hLi,← hdv];rfl
   ·have:=Nat.two_pow_pos (k - (L - i).toNat)
    intro e
    rcases Nat.mul_eq_zero.1 e with h1 | h1
    ·exact hr0 h1
    ·omega
   ·have:(r * 2 ^ (k - (L - i).toNat)).log2=r.log2+(k - (L - i).toNat):=by
     have h1:=Nat.log2_self_le hr0
     have h2:=Nat.lt_log2_self (n:=r)
     have h0:r * 2 ^ (k - (L - i).toNat)≠0:=by
      have:=Nat.two_pow_pos (k - (L - i).toNat)
      intro e
      rcases Nat.mul_eq_zero.1 e with h1 | h1
      ·exact hr0 h1
      ·omega
     refine (Nat.log2_eq_iff h0).2 ⟨?_,?_⟩
     ·rw [Nat.pow_add];exact Nat.mul_le_mul_right _ h1
     ·rw [show r.log2+(k - (L - i).toNat)+1=(r.log2+1)+(k - (L - i).toNat) by omega,Nat.pow_add 2 (r.log2+1)];exact Nat.mul_lt_mul_of_pos_right h2 (Nat.two_pow_pos _)
    rw [this];omega
 obtain ⟨K,hK,hv2,hK0,hlog⟩:=hkept
 rw [hK]
 have hKl:K < 2 ^ (fb+1):=(Nat.log2_lt hK0).1 (by omega)
 have hrw:=yV h s (d:=(L - lp).toNat) (k:=K) (by omega) hKl (by
  by_cases hLl:L=lp
  ·left;omega
  ·right
   exact Nat.le_trans (Nat.pow_le_pow_right (by omega) (by omega:fb≤K.log2)) (Nat.log2_self_le hK0))
 refine ⟨K,L,?_,by omega,hKl,hv2⟩
 rw [hrw]
 congr 1
 omega
open Go.SX
theorem read_num {b:Nat} {s:Bool} {m:Nat} {e:Int} (h:single.read b=.number s m e):m < 2 ^ 24∧-149≤e∧e≤104:=by
 unfold Format.read at h
 have e1:single.signWeight=2 ^ 31:=by decide
 have e2:single.binade=2 ^ 23:=by decide
 have e3:single.infRung=255 * 2 ^ 23:=by decide
 have e4:single.leastPlace=-149:=by decide
 simp only [e1,e2,e3,e4] at h
 obtain ⟨r,hr⟩:∃ r,r=b % 2 ^ 31:=⟨_,rfl⟩
 rw [← hr] at h
 split at h
 ·cases h;omega
 ·split at h
  ·cases h;omega
  ·split at h <;> cases h
theorem Qdh {s:Bool} {m n:Nat} {i j:Int}:compare (V s m i) (V s n j)=.eq↔vn m i=vn n j:=by
 rw [Int.compare_eq_eq,V_eq,V_eq]
 cases s
 ·simp only [Bool.false_eq_true,if_false];omega
 ·simp only [if_true];omega
theorem Qgg {m:Nat} {e:Int} (he : -149≤e):vn (8388608 * m) (-19+e)=16 * vn m e∧vn m (e+4)=16 * vn m e:=by
 unfold vn
 obtain ⟨A,hA⟩:∃ A:Nat,A=(e+1981).toNat:=⟨_,rfl⟩
 rw [show (-19+e+2000).toNat=A by omega,show (e+2000).toNat=A+19 by omega,show (e+4+2000).toNat=A+23 by omega,Nat.pow_add,Nat.pow_add]
 generalize 2 ^ A=X
 have h1:(2:Nat) ^ 19=524288:=by decide
 have h2:(2:Nat) ^ 23=8388608:=by decide
 rw [h1,h2]
 constructor
 ·rw [Nat.mul_assoc 8388608,← Nat.mul_assoc m X];omega
 ·rw [← Nat.mul_assoc m X,← Nat.mul_assoc m X];omega
theorem mul16 {b:Nat} {s:Bool} {m:Nat} {e:Int} (h:single.read b=.number s m e) (hb:vn m e≤2 ^ 2010) :
  ∃ y n p,fop .mul .f32 1098907648 b=some y∧single.read y=.number s n p∧-149≤p∧n < 2 ^ 24∧vn n p=16 * vn m e:=by
 obtain ⟨h1,h2,h3⟩:=read_num h
 obtain ⟨v1,v2⟩:=Qgg (m:=m) h2
 obtain ⟨n,p,r1,r2,r3,r4⟩:=write_read f32 s (m:=8388608 * m) (i:=-19+e) (q:=m) (p:=e+4) h1 (by omega) (by omega) (by rw [v1,v2]) (by rw [v1];omega)
 refine ⟨single.write (.number s (8388608 * m) (-19+e)),n,p,?_,r1,r2,r3,by rw [r4,v1]⟩
 show single.mul 1098907648 b=_
 unfold Format.mul
 rw [show single.read 1098907648=.number false 8388608 (-19) by decide,h]
 show some (single.write (.number (false ^^ s) (8388608 * m) (-19+e)))=_
 rw [Bool.false_xor]
theorem QfQ (n d:Nat):n / (1 <<< min d (n.log2+2))=n / 2 ^ d∧n % (1 <<< min d (n.log2+2))=n % 2 ^ d:=by
 rw [Nat.one_shiftLeft]
 rcases Nat.le_total d (n.log2+2) with h | h
 ·rw [Nat.min_eq_left h];exact ⟨rfl,rfl⟩
 ·rw [Nat.min_eq_right h]
  have h1:=Nat.lt_log2_self (n:=n)
  have h2:2 ^ (n.log2+1)≤2 ^ (n.log2+2):=Nat.pow_le_pow_right (by omega) (by omega)
  have h3:2 ^ (n.log2+2)≤2 ^ d:=Nat.pow_le_pow_right (by omega) h
  rw [Nat.div_eq_of_lt (by omega),Nat.div_eq_of_lt (by omega),Nat.mod_eq_of_lt (by omega),Nat.mod_eq_of_lt (by omega)]
  exact ⟨rfl,rfl⟩
theorem QgE {w:Toward} (hw:w=.down ∨ w=.zero) (s:Bool) (n d:Nat):∃ r,w.cut s n d=n / 2 ^ d+r∧r≤1∧(n % 2 ^ d=0→r=0):=by
 obtain ⟨g1,g2⟩:=QfQ n d
 unfold Toward.cut
 simp only [g1,g2]
 rcases hw with rfl | rfl
 ·refine ⟨_,rfl,Bool.toNat_le _,fun h=>?_⟩
  rw [h];simp
 ·exact ⟨0,rfl,by omega,fun _=>rfl⟩
theorem cut_whole {w:Toward} (hw:w=.down ∨ w=.zero) (s:Bool) (n:Nat) (p:Int) (hp : -1900≤p) :
  (vn (w.cut s (n <<< p.toNat) (-p).toNat) 0=vn n p↔2 ^ 2000 ∣ vn n p)∧w.cut s (n <<< p.toNat) (-p).toNat * 2 ^ 2000≤vn n p+2 ^ 2000:=by
 have e0:((0:Int)+2000).toNat=2000:=rfl
 by_cases h:0≤p
 ·rw [show (-p).toNat=0 by omega,QbI,Nat.shiftLeft_eq]
  unfold vn
  rw [e0,show (p+2000).toNat=p.toNat+2000 by omega,Nat.pow_add,← Nat.mul_assoc]
  exact ⟨⟨fun _=>Nat.dvd_mul_left _ _,fun _=>rfl⟩,by omega⟩
 ·obtain ⟨d,hd⟩:∃ d:Nat,d=(-p).toNat:=⟨_,rfl⟩
  obtain ⟨k,hk⟩:∃ k:Nat,k=(p+2000).toNat:=⟨_,rfl⟩
  rw [← hd,show p.toNat=0 by omega,Nat.shiftLeft_zero]
  unfold vn
  rw [e0,← hk,show (2:Nat) ^ 2000=2 ^ d * 2 ^ k by rw [← Nat.pow_add];congr 1;omega]
  obtain ⟨r,h1,h2,h3⟩:=QgE hw s n d
  rw [h1]
  have hX:=Nat.two_pow_pos k
  have hY:=Nat.two_pow_pos d
  generalize 2 ^ k=X at *
  generalize 2 ^ d=Y at *
  have hdiv:=Nat.div_add_mod n Y
  have hlt:=Nat.mod_lt n hY
  refine ⟨⟨fun e=>?_,fun e=>?_⟩,?_⟩
  ·rw [← Nat.mul_assoc] at e
   have:=Nat.eq_of_mul_eq_mul_right hX e
   rw [← this]
   exact Nat.mul_dvd_mul_right (Nat.dvd_mul_left _ _) X
  ·have h4:Y ∣ n:=Nat.dvd_of_mul_dvd_mul_right hX e
   have h5:=Nat.mod_eq_zero_of_dvd h4
   rw [h3 h5,Nat.add_zero,← Nat.mul_assoc,Nat.div_mul_cancel h4]
  ·rw [← Nat.mul_assoc,← Nat.add_mul]
   refine Nat.mul_le_mul_right X ?_
   rw [Nat.add_mul]
   have h6:r * Y≤1 * Y:=Nat.mul_le_mul_right _ h2
   have h7:n / Y * Y≤n:=Nat.div_mul_le_self n Y
   omega
def Ev (x:Nat):Option Nat:=match FloatKind.f64.decode x with
 | .nan _ _=>none
 | d=>some (FloatKind.f64.encode (d.integral .down))
theorem f2f_num {j k:FloatKind} (hjk:j≠k) {lp:Int} {fb E:Nat} (hf:Fmt k.format lp fb E) {b:Nat} {s:Bool} {m q:Nat} {i p:Int} (h:j.decode b=.number s m i) (hq:q < 2 ^ (fb+1)) (hp:lp≤p) (hi : -1900≤i) (hv:vn m i=vn q p) (hb:vn m i < 2 ^ (2000+E)) :
  ∃ r n x,f2f j b k=some r∧k.decode r=.number s n x∧lp≤x∧n < 2 ^ (fb+1)∧vn n x=vn m i:=by
 obtain ⟨n,x,r1,r2,r3,r4⟩:=write_read hf s hq hp hi hv hb
 refine ⟨k.encode (.number s m i),n,x,?_,r1,r2,r3,r4⟩
 unfold f2f
 rw [if_neg hjk,h]
 show (if (k.decode (k.encode (.number s m i))).isInfinity=true then none else some (k.encode (.number s m i)))=_
 have e:k.decode (k.encode (.number s m i))=.number s n x:=r1
 rw [e];rfl
theorem prog_eq {y:Nat} {s:Bool} {n:Nat} {p:Int} (hy:single.read y=.number s n p) (hn:n < 2 ^ 24) (hp : -149≤p) (hb:vn n p≤2 ^ 2014) :
  ∃ r t z,f2f .f32 y .f64=some r∧Ev r=some t∧f2f .f64 t .f32=some z∧(single.order z y != some .eq)=!(decide (2 ^ 2000 ∣ vn n p)):=by
 obtain ⟨r,n2,p2,a1,a2,a3,a4,a5⟩:=f2f_num (j:=.f32) (k:=.f64) (by decide) (f64 (E:=16) (by decide)) (b:=y) hy (q:=n) (p:=p) (by omega) (by omega) (by omega) rfl (by omega)
 obtain ⟨c1,c2⟩:=cut_whole (w:=.down) (.inl rfl) s n2 p2 (by omega)
 obtain ⟨F,hF⟩:∃ F,F=Toward.down.cut s (n2 <<< p2.toNat) (-p2).toNat:=⟨_,rfl⟩
 rw [← hF] at c1 c2
 rw [a5] at c1 c2
 have hvF:vn F 0=F * 2 ^ 2000:=by
  unfold vn
  rw [show ((0:Int)+2000).toNat=2000 from rfl]
 have hF16:F < 2 ^ 16:=by
  have:F * 2 ^ 2000 < 2 ^ 16 * 2 ^ 2000:=by omega
  generalize 2 ^ 2000=X at this
  exact Nat.lt_of_mul_lt_mul_right this
 obtain ⟨F2,q2,b1,b2,b3,b4⟩:=write_read (f64 (E:=16) (by decide)) s (m:=F) (i:=0) (q:=F) (p:=0) (by omega) (by omega) (by omega) rfl (by rw [hvF];omega)
 obtain ⟨z,F3,q3,d1,d2,d3,d4,d5⟩:=f2f_num (j:=.f64) (k:=.f32) (by decide) f32 (b:=double.write (.number s F 0)) b1 (q:=F) (p:=0) (by omega) (by omega) (by omega) (by rw [b4]) (by rw [b4,hvF];omega)
 refine ⟨r,double.write (.number s F 0),z,a1,?_,d1,?_⟩
 ·unfold Ev
  rw [a2,hF];rfl
 ·unfold Format.order
  rw [show single.read z=.number s F3 q3 from d2,hy,order_val (by omega) (by omega)]
  by_cases hw:2 ^ 2000 ∣ vn n p
  ·rw [Qdh.2 (by rw [d5,b4];exact c1.2 hw),decide_eq_true hw];rfl
  ·rw [decide_eq_false hw]
   have:compare (V s F3 q3) (V s n p)≠.eq:=fun e=>hw (c1.1 (by rw [← Qdh.1 e,d5,b4]))
   simpa using this
theorem ref_eq {y:Nat} {s:Bool} {n:Nat} {p:Int} (hy:single.read y=.number s n p) (hp : -149≤p) (hb:vn n p≤2 ^ 2014) :
  ∃ z,f2i .f32 y .i64=some z∧(single.order (FloatKind.nearest .f32 z) y != some .eq)=!(decide (2 ^ 2000 ∣ vn n p)):=by
 obtain ⟨c1,c2⟩:=cut_whole (w:=.zero) (.inr rfl) s n p (by omega)
 obtain ⟨Z,hZ⟩:∃ Z,Z=Toward.zero.cut s (n <<< p.toNat) (-p).toNat:=⟨_,rfl⟩
 rw [← hZ] at c1 c2
 have hvZ:vn Z 0=Z * 2 ^ 2000:=by
  unfold vn
  rw [show ((0:Int)+2000).toNat=2000 from rfl]
 have hZ16:Z < 2 ^ 16:=by
  have:Z * 2 ^ 2000 < 2 ^ 16 * 2 ^ 2000:=by omega
  generalize 2 ^ 2000=X at this
  exact Nat.lt_of_mul_lt_mul_right this
 obtain ⟨z,hz⟩:∃ z:Int,z=if s then -(Z:Int) else (Z:Int):=⟨_,rfl⟩
 have hzn:z.natAbs=Z:=by rw [hz];cases s <;> simp
 have hto:(FloatKind.f32.decode y).toInt .zero=some z:=by
  show ((single.read y).toInt .zero)=_
  rw [hy]
  unfold Datum.toInt Datum.integral
  simp only [← hZ]
  unfold signed
  rw [Nat.shiftLeft_zero,hz]
 obtain ⟨Z3,q3,d1,d2,d3,d4⟩:=write_read f32 (decide (z < 0)) (m:=Z) (i:=0) (q:=Z) (p:=0) (by omega) (by omega) (by omega) rfl (by rw [hvZ];omega)
 refine ⟨z,?_,?_⟩
 ·unfold f2i
  rw [hto]
  show (if IntKind.i64.min≤z∧z≤IntKind.i64.max then some z else none)=_
  have e1:IntKind.i64.min=-9223372036854775808:=by decide
  have e2:IntKind.i64.max=9223372036854775807:=by decide
  rw [e1,e2,if_pos (by omega)]
 ·have hn:single.read (FloatKind.nearest .f32 z)=.number (decide (z < 0)) Z3 q3:=by
   unfold FloatKind.nearest
   rw [hzn];exact d1
  unfold Format.order
  rw [hn,hy,order_val (by omega) (by omega)]
  have hV:V (decide (z < 0)) Z3 q3=V s Z 0:=by
   rw [V_eq,V_eq,d4,hvZ]
   by_cases h0:Z=0
   ·subst h0;generalize 2 ^ 2000=X;simp
   ·have:decide (z < 0)=s:=by
     rw [hz]
     cases s
     ·simp
     ·simp;omega
    rw [this]
  rw [hV]
  by_cases hw:2 ^ 2000 ∣ vn n p
  ·rw [Qdh.2 (c1.2 hw),decide_eq_true hw];rfl
  ·rw [decide_eq_false hw]
   have:compare (V s Z 0) (V s n p)≠.eq:=fun e=>hw (c1.1 (Qdh.1 e))
   simpa using this
end Go.Flo
set_option maxRecDepth 20000
namespace Go.Proofs.YtfiigcbhiopagaaGreatDoor
open Go Go.SX Ieee
def Zn:List Int→Int
 | []=>0
 | x::l=>if x=0 then Zn l else x
theorem QbZ (x:Int):un_i (I x)=some x:=rfl
def fG (s:Nat) (x:Int):Nat⊕(Int⊕Unit):=if x=0 then .inl (s+1) else .inr (.inl x)
theorem Qfa:∀ (ms:List Int) (s:Nat),K4 fG (fun _=>(.inr ():Int⊕Unit)) ms s=(if Zn ms=0 then .inr () else .inl (Zn ms))
 | [],s=>rfl
 | x::l,s=>by
  unfold K4 fG Zn
  by_cases h:x=0
  ·rw [if_pos h,if_pos h];exact Qfa l (s+1)
  ·rw [if_neg h,if_neg h,if_neg h]
theorem YB {α β:Type} {f:α→β} {l:List α} {i:Nat} {x:α} (h:l[i]?=some x):(i:Int) < ((l.map f).length:Int):=by
 have:=(List.getElem?_eq_some_iff.1 h).1
 rw [List.length_map];omega
theorem zP {L:List D→Int→Option (Int⊕(Int⊕Unit))} {ms:List Int} (hL:∀ (a:List D) (s:Int),L a s=if s < (a.length:Int) then (el un_i a s).bind fun t=>if t=0 then (if Qb (s+1) then some (.inl (s+1)) else none) else some (.inr (.inl t)) else some (.inr (.inr ())))
  {n:Nat} (hn:300≤n) (hm:ms.length≤101) :
  ((Qz (L (ms.map I)) n 0).bind fun t1=>match t1 with | (.inl t1)=>some t1 | (.inr t1)=>some 0)=some (Zn ms):=by
 have h:=Vw (step:=L (ms.map I)) fG (fun _=>(.inr ():Int⊕Unit)) (fun i _=>(i:Int)) ms (fun i s=>True)
  (fun i s x hx _=>by
   have e:=hL (ms.map I) (i:Int)
   rw [if_pos (YB hx),Vo QbZ hx,Option.bind_some] at e
   have hi:=(List.getElem?_eq_some_iff.1 hx).1
   unfold fG
   by_cases h0:x=0
   ·rw [if_pos h0] at e ⊢
    rw [if_pos (by unfold Qb;omega)] at e
    exact ⟨e,trivial⟩
   ·rw [if_neg h0] at e ⊢
    exact e)
  (fun s _=>by rw [hL,if_neg (by simp)]) (k:=n) (s:=0) trivial (by omega)
 have h' : Qz (L (ms.map I)) n 0=some (K4 fG (fun _=>(.inr ():Int⊕Unit)) ms 0):=h
 rw [h',Qfa,Option.bind_some]
 by_cases h0:Zn ms=0
 ·rw [if_pos h0,h0]
 ·rw [if_neg h0]
theorem zI {n:Nat} (hn:300≤n) (ms:List Int) (hm:ms.length≤101):Ww n (ms.map I)=some (Zn ms):=by
 unfold Ww
 exact zP (L:=fun a s=>W4 n a s) (fun a s=>by unfold W4;rfl) hn hm
theorem Jm {n:Nat} (hn:300≤n) (ms:List Int) (hm:ms.length≤101):WT n (ms.map I)=some (Zn ms):=by
 unfold WT
 exact zP (L:=fun a s=>W2 n a s) (fun a s=>by unfold W2;rfl) hn hm
def inR (x lo hi:Int):Int:=if x < lo then 3 else if x > hi then 3 else 0
theorem yJ (n:Nat) (x lo hi:Int):Wd n x lo hi=some (inR x lo hi):=by
 unfold Wd VO We inR
 by_cases h:x < lo
 ·simp [h]
 ·by_cases h2:x > hi
  ·simp [h,h2]
  ·simp [h,h2]
theorem Jo (n:Nat) (x lo hi:Int):WC n x lo hi=some (inR x lo hi):=by
 unfold WC UH Zf inR
 by_cases h:x < lo
 ·simp [h]
 ·by_cases h2:x > hi
  ·simp [h,h2]
  ·simp [h,h2]
def chk (b:Nat):Int:=match single.read b with
 | .number _ m e=>if 2 ^ 2010 < Flo.vn m e then 3 else if 2 ^ 2000 ∣ 16 * Flo.vn m e then 0 else 3
 | _=>1
theorem cgt (a b:Int):(some (compare a b) == some Ordering.gt)=decide (b < a):=by
 rcases Int.lt_trichotomy a b with h | h | h
 ·rw [Int.compare_eq_lt.2 h,decide_eq_false (by omega)];rfl
 ·rw [Int.compare_eq_eq.2 h,decide_eq_false (by omega)];rfl
 ·rw [Int.compare_eq_gt.2 h,decide_eq_true h];rfl
theorem clt (a b:Int):(some (compare a b) == some Ordering.lt)=decide (a < b):=by
 rcases Int.lt_trichotomy a b with h | h | h
 ·rw [Int.compare_eq_lt.2 h,decide_eq_true h];rfl
 ·rw [Int.compare_eq_eq.2 h,decide_eq_false (by omega)];rfl
 ·rw [Int.compare_eq_gt.2 h,decide_eq_false (by omega)];rfl
theorem QgO:single.read 1149239296=.number false 8388608 (-13):=by decide
theorem Qgo:single.read 3296722944=.number true 8388608 (-13):=by decide
theorem rmax:single.read 2139095039=.number false 16777215 104:=by decide
theorem Qf2:single.read 4286578687=.number true 16777215 104:=by decide
theorem QfY:Flo.vn 8388608 (-13)=2 ^ 2010:=by
 have h:∀ k j:Nat,j=k+23→8388608 * 2 ^ k=2 ^ j:=fun k j e=>by rw [e,Nat.pow_add];omega
 unfold Flo.vn
 rw [show ((-13:Int)+2000).toNat=1987 by decide]
 have q:=h 1987 2010 rfl
 exact q
theorem Qfn {b:Nat} {s:Bool} {m:Nat} {e:Int} (h:single.read b=.number s m e):(single.order b 1149239296 == some .gt)=(!s && decide (2 ^ 2010 < Flo.vn m e)):=by
 obtain ⟨_,h2,_⟩:=Flo.read_num h
 unfold Format.order
 rw [h,QgO,Flo.order_val (by omega) (by omega),cgt,Flo.V_eq,Flo.V_eq,QfY]
 generalize Flo.vn m e=v
 cases s
 ·simp only [Bool.false_eq_true,if_false,Bool.not_false,Bool.true_and,decide_eq_decide];omega
 ·simp only [if_true,Bool.false_eq_true,if_false,Bool.not_true,Bool.false_and,decide_eq_false_iff_not];omega
theorem Qfm {b:Nat} {s:Bool} {m:Nat} {e:Int} (h:single.read b=.number s m e):(single.order b 3296722944 == some .lt)=(s && decide (2 ^ 2010 < Flo.vn m e)):=by
 obtain ⟨_,h2,_⟩:=Flo.read_num h
 unfold Format.order
 rw [h,Qgo,Flo.order_val (by omega) (by omega),clt,Flo.V_eq,Flo.V_eq,QfY]
 generalize Flo.vn m e=v
 cases s
 ·simp only [Bool.false_eq_true,if_false,if_true,Bool.false_and,decide_eq_false_iff_not];omega
 ·simp only [if_true,Bool.true_and,decide_eq_decide];omega
theorem QfH {b:Nat} {s:Bool} {m:Nat} {e:Int} (h:single.read b=.number s m e):(single.order b 2139095039 == some .gt)=false∧(single.order b 4286578687 == some .lt)=false∧(single.order b b != some .eq)=false:=by
 obtain ⟨h1,h2,h3⟩:=Flo.read_num h
 have hv:Flo.vn m e≤Flo.vn 16777215 104:=by
  unfold Flo.vn
  exact Nat.mul_le_mul (by omega) (Nat.pow_le_pow_right (by decide) (by omega))
 unfold Format.order
 rw [h,rmax,Qf2,Flo.order_val (by omega) (by omega),Flo.order_val (by omega) (by omega),Flo.order_val (by omega) (by omega),cgt,clt,Int.compare_eq_eq.2 rfl,Flo.V_eq,Flo.V_eq,Flo.V_eq]
 generalize Flo.vn m e=v at *
 generalize Flo.vn 16777215 104=u at *
 refine ⟨?_,?_,rfl⟩
 ·cases s <;> simp only [Bool.false_eq_true,if_false,if_true,decide_eq_false_iff_not] <;> omega
 ·cases s <;> simp only [Bool.false_eq_true,if_false,if_true,decide_eq_false_iff_not] <;> omega
theorem QfK:Op.negFloat .f32 1149239296=3296722944:=by decide
theorem Qbs (n:Nat) (b:Bool) (k:Int):We n b k=some (if b=true then k else 0):=by
 unfold We;cases b <;> rfl
theorem QgW (x:Nat) (hx:x < 18446744073709551616):(Go.bits .andNot .u64 (x:Int) 9223372036854775808).toNat=x % 9223372036854775808:=by
 have h1:(BitVec.ofInt 64 (x:Int) &&& ~~~ BitVec.ofInt 64 9223372036854775808).toNat=x % 9223372036854775808:=by
  rw [BitVec.toNat_and]
  have e1:(~~~ BitVec.ofInt 64 9223372036854775808).toNat=2 ^ 63 - 1:=by decide
  have e2:(BitVec.ofInt 64 (x:Int)).toNat=x:=by
   rw [BitVec.toNat_ofInt];omega
  rw [e1,e2,Nat.and_two_pow_sub_one_eq_mod]
 have h2:Go.bits .andNot .u64 (x:Int) 9223372036854775808=IntKind.u64.wrap ((BitVec.ofInt 64 (x:Int) &&& ~~~ BitVec.ofInt 64 9223372036854775808).toNat:Int):=rfl
 rw [h2,h1,IntKind.wrap_u64]
 omega
theorem Qew {r:Nat}:(∀ {s:Bool} {n:Nat} {x:Int},double.read r=.number s n x→double.read (r % 9223372036854775808)=.number false n x)∧(∀ {s:Bool},double.read r=.infinity s→double.read (r % 9223372036854775808)=.infinity false):=by
 have e1:double.signWeight=9223372036854775808:=by decide
 have e2:double.binade=4503599627370496:=by decide
 have e3:double.infRung=9218868437227405312:=by decide
 have h0:r % 9223372036854775808 / 9223372036854775808=0:=Nat.div_eq_of_lt (Nat.mod_lt _ (by decide))
 unfold Format.read
 simp only [e1,e2,e3,Nat.mod_mod,h0]
 refine ⟨fun {s n x} h=>?_,fun {s} h=>?_⟩
 ·split at h
  ·rename_i c;cases h;rw [if_pos c];rfl
  ·rename_i c
   rw [if_neg c]
   split at h
   ·rename_i c;cases h;rw [if_pos c];rfl
   ·split at h <;> cases h
 ·split at h
  ·cases h
  ·rename_i c
   rw [if_neg c]
   split at h
   ·cases h
   ·rename_i c
    rw [if_neg c]
    split at h
    ·rename_i c;rw [if_pos c];rfl
    ·cases h
theorem Qeb (s:Bool) (m:Nat) (e:Int):double.write (.number s m e) < 18446744073709551616:=by
 have e1:double.signWeight=9223372036854775808:=by decide
 have e3:double.infRung=9218868437227405312:=by decide
 have hw:∀ k:Nat,k≤9218868437227405312→double.word s k < 18446744073709551616:=by
  intro k hk
  unfold Format.word
  rw [e1]
  split <;> omega
 show double.nearest s m e < _
 unfold Format.nearest
 split
 ·exact hw 0 (by decide)
 ·exact hw _ (by rw [e3];exact Nat.min_le_right _ _)
theorem QfN {n a0:Nat} {s:Bool} {m:Nat} {e:Int} (h:single.read a0=.number s m e):W3 n a0=some false:=by
 obtain ⟨h1,h2,h3⟩:=Flo.read_num h
 have hb:Flo.vn m e < 2 ^ (2000+200):=by
  unfold Flo.vn
  have q1:m * 2 ^ (e+2000).toNat < 2 ^ 24 * 2 ^ (e+2000).toNat:=Nat.mul_lt_mul_of_pos_right h1 (Nat.two_pow_pos _)
  rw [← Nat.pow_add] at q1
  have q2:∀ a b:Nat,a≤b→m * 2 ^ (e+2000).toNat < 2 ^ a→m * 2 ^ (e+2000).toNat < 2 ^ b:=fun a b hab h=>Nat.lt_of_lt_of_le h (Nat.pow_le_pow_right (by decide) hab)
  have q3:=q2 (24+(e+2000).toNat) (2000+200) (by omega) q1
  exact q3
 obtain ⟨r,q,x,a1,a2,a3,a4,a5⟩:=Flo.f2f_num (j:=.f32) (k:=.f64) (by decide) (Flo.f64 (E:=200) (by decide)) (b:=a0) h (q:=m) (p:=e) (by omega) (by omega) (by omega) rfl hb
 have hr:r < 18446744073709551616:=by
  unfold f2f at a1
  rw [if_neg (by decide),show FloatKind.f32.decode a0=.number s m e from h] at a1
  simp only at a1
  split at a1
  ·cases a1
  ·cases a1;exact Qeb s m e
 have a2' : double.read r=.number s q x:=a2
 have h4:=Qew.1 a2'
 have hmax:double.read 9218868437227405311=.number false 9007199254740991 971:=by decide
 have hlt:Flo.vn q x < Flo.vn 9007199254740991 971:=by
  rw [a5]
  refine Nat.lt_of_lt_of_le hb ?_
  unfold Flo.vn
  rw [show ((971:Int)+2000).toNat=2971 from rfl]
  have h1:∀ a b c:Nat,a≤b→0 < c→2 ^ a≤c * 2 ^ b:=fun a b c hab hc=>Nat.le_trans (Nat.pow_le_pow_right (by decide) hab) (Nat.le_mul_of_pos_left _ hc)
  have q4:=h1 (2000+200) 2971 9007199254740991 (by decide) (by decide)
  exact q4
 have o1:(FloatKind.format .f64).order r r=some .eq:=by
  show (double.read r).order (double.read r)=_
  rw [a2',Flo.order_val (by omega) (by omega),Int.compare_eq_eq.2 rfl]
 have o2:(FloatKind.format .f64).order (r % 9223372036854775808) 9218868437227405311=some .lt:=by
  show (double.read _).order (double.read _)=_
  rw [h4,hmax,Flo.order_val (by omega) (by omega),Flo.V_eq,Flo.V_eq]
  simp only [Bool.false_eq_true,if_false]
  rw [Int.compare_eq_lt.2 (by omega)]
 unfold W3 UI UJ EZ
 rw [a1]
 simp only [Option.isSome_some,if_true,Option.getD_some,Option.bind_some,o1,QgW r hr,o2]
 rfl
theorem Qe1 {n b:Nat} {s:Bool} {m:Nat} {e:Int} (h:single.read b=.number s m e):VF n b 1149239296=some (chk b):=by
 unfold VF chk
 rw [h,QfK]
 simp only
 change (if (single.order b 3296722944 == some .lt)=true then _ else if (single.order b 1149239296 == some .gt)=true then _ else _)=_
 rw [Qfm h,Qfn h]
 by_cases hb:2 ^ 2010 < Flo.vn m e
 ·rw [if_pos hb,decide_eq_true hb]
  cases s
  ·rw [if_neg (by simp),if_pos (by simp)];rfl
  ·rw [if_pos (by simp)];rfl
 ·rw [if_neg hb,decide_eq_false hb,Bool.and_false,Bool.and_false,if_neg (by simp),if_neg (by simp)]
  obtain ⟨y,q,p,y1,y2,y3,y4,y5⟩:=Flo.mul16 h (by omega)
  obtain ⟨r,t,z,z1,z2,z3,z4⟩:=Flo.prog_eq y2 y4 y3 (by rw [y5];omega)
  rw [y1]
  simp only [Option.isSome_some,if_true,Option.getD_some]
  rw [z1]
  simp only [Option.isSome_some,if_true,Option.getD_some]
  rw [show Gm n r=some t from z2,Option.bind_some,z3]
  simp only [Option.isSome_some,if_true,Option.getD_some]
  rw [Qbs,Option.bind_some]
  change some (if (single.order z y != some .eq)=true then (3:Int) else 0)=_
  rw [z4,y5]
  by_cases hd:2 ^ 2000 ∣ 16 * Flo.vn m e
  ·rw [decide_eq_true hd,if_pos hd];rfl
  ·rw [decide_eq_false hd,if_neg hd];rfl
theorem QdY {n:Nat} (hn:300≤n) {b:Nat} {s:Bool} {m:Nat} {e:Int} (h:single.read b=.number s m e):Zu n b=some (chk b):=by
 unfold Zu
 rw [QfN h,Option.bind_some,Qbs,Option.bind_some,Qe1 h,Option.bind_some,show ([I (if false=true then 1 else 0),I (chk b)]:List D)=[if false=true then 1 else 0,chk b].map I from rfl,zI hn _ (by simp),Option.bind_some]
 congr 1
 show (if (0:Int)=0 then Zn [chk b] else 0)=chk b
 rw [if_pos rfl]
 unfold Zn Zn
 by_cases h0:chk b=0
 ·rw [if_pos h0,h0]
 ·rw [if_neg h0]
theorem QbO {n:Nat} (hn:300≤n) {b:Nat} (h:chk b=0):Zu n b=some 0:=by
 cases hb:single.read b with
 | number s m e=>rw [QdY hn hb,h]
 | nan s t=>unfold chk at h;rw [hb] at h;cases h
 | infinity s=>unfold chk at h;rw [hb] at h;cases h
theorem Qeu (n:Nat) (b:Bool) (k:Int):Zf n b k=some (if b=true then k else 0):=by
 unfold Zf;cases b <;> rfl
theorem QeI:FloatKind.nearest .f32 1024=1149239296:=by decide
theorem Qfz:fop .sub .f32 0 1149239296=some 3296722944:=by decide
theorem QfD {n b:Nat} {s:Bool} {m:Nat} {e:Int} (h:single.read b=.number s m e):Zx n b 1024=some (chk b):=by
 obtain ⟨m1,m2,m3⟩:=QfH h
 unfold Zx chk
 rw [h,QeI,Qfz]
 simp only [Option.isSome_some,if_true,Option.getD_some]
 change (if (single.order b b != some .eq)=true then _ else if (single.order b 2139095039 == some .gt)=true then _ else if (single.order b 4286578687 == some .lt)=true then _ else if (single.order b 1149239296 == some .gt)=true then _ else if (single.order b 3296722944 == some .lt)=true then _ else _)=_
 rw [m1,m2,m3,if_neg (by decide),if_neg (by decide),if_neg (by decide),Qfn h,Qfm h]
 by_cases hb:2 ^ 2010 < Flo.vn m e
 ·rw [if_pos hb,decide_eq_true hb]
  cases s
  ·rw [if_pos (by simp)]
  ·rw [if_neg (by simp),if_pos (by simp)]
 ·rw [if_neg hb,decide_eq_false hb,Bool.and_false,Bool.and_false,if_neg (by simp),if_neg (by simp)]
  obtain ⟨y,q,p,y1,y2,y3,y4,y5⟩:=Flo.mul16 h (by omega)
  obtain ⟨z,z1,z4⟩:=Flo.ref_eq y2 y3 (by rw [y5];omega)
  rw [y1]
  simp only [Option.isSome_some,if_true,Option.getD_some]
  rw [z1]
  simp only [Option.isSome_some,if_true,Option.getD_some]
  rw [Qeu,Option.bind_some]
  change some (if (single.order (FloatKind.nearest .f32 z) y != some .eq)=true then (3:Int) else 0)=_
  rw [z4,y5]
  by_cases hd:2 ^ 2000 ∣ 16 * Flo.vn m e
  ·rw [decide_eq_true hd,if_pos hd];rfl
  ·rw [decide_eq_false hd,if_neg hd];rfl
theorem ref_eq (n b:Nat):Wn n b=some (chk b):=by
 unfold Wn
 have key:Zx n b 1024=some (chk b):=by
  cases h:single.read b with
  | number s m e=>exact QfD h
  | nan s t =>
   unfold Zx chk
   rw [h]
   have e:single.order b b=none:=by unfold Format.order;rw [h];rfl
   change (if (single.order b b != some .eq)=true then _ else _)=_
   rw [e];rfl
  | infinity s =>
   unfold Zx chk
   rw [h]
   change (if (single.order b b != some .eq)=true then _ else if (single.order b 2139095039 == some .gt)=true then _ else if (single.order b 4286578687 == some .lt)=true then _ else _)=_
   unfold Format.order
   rw [h,rmax,Qf2]
   cases s <;> rfl
 rw [key,Option.bind_some]
theorem QdQ {y:Nat} {s:Bool} {n:Nat} {p:Int} (hy:single.read y=.number s n p) (hp : -149≤p) (hb:Flo.vn n p≤2 ^ 2014) (hd:2 ^ 2000 ∣ Flo.vn n p) :
  ∃ Z:Nat,Flo.vn n p=Z * 2 ^ 2000∧f2i .f32 y .i64=some (if s then -(Z:Int) else (Z:Int)):=by
 obtain ⟨c1,c2⟩:=Flo.cut_whole (w:=.zero) (.inr rfl) s n p (by omega)
 obtain ⟨Z,hZ⟩:∃ Z,Z=Toward.zero.cut s (n <<< p.toNat) (-p).toNat:=⟨_,rfl⟩
 rw [← hZ] at c1 c2
 have hvZ:Flo.vn Z 0=Z * 2 ^ 2000:=by
  unfold Flo.vn
  rw [show ((0:Int)+2000).toNat=2000 from rfl]
 have hv:=c1.2 hd
 rw [hvZ] at hv
 have hZ16:Z < 2 ^ 16:=by
  have:Z * 2 ^ 2000 < 2 ^ 16 * 2 ^ 2000:=by omega
  generalize 2 ^ 2000=X at this
  exact Nat.lt_of_mul_lt_mul_right this
 obtain ⟨z,hz⟩:∃ z:Int,z=if s then -(Z:Int) else (Z:Int):=⟨_,rfl⟩
 have hto:(FloatKind.f32.decode y).toInt .zero=some z:=by
  show ((single.read y).toInt .zero)=_
  rw [hy]
  unfold Datum.toInt Datum.integral
  simp only [← hZ]
  unfold signed
  rw [Nat.shiftLeft_zero,hz]
 refine ⟨Z,hv.symm,?_⟩
 rw [← hz]
 unfold f2i
 rw [hto]
 show (if IntKind.i64.min≤z∧z≤IntKind.i64.max then some z else none)=_
 have e1:IntKind.i64.min=-9223372036854775808:=by decide
 have e2:IntKind.i64.max=9223372036854775807:=by decide
 rw [e1,e2,if_pos (by rw [hz];cases s <;> simp only [Bool.false_eq_true,if_false,if_true] <;> omega)]
def Smp (b:Nat) (s:Bool) (K:Nat):Prop:=K≤16384∧∃ m e,single.read b=.number s m e∧-149≤e∧16 * Flo.vn m e=K * 2 ^ 2000
def lev (b:Nat):Int:=(f2i .f32 ((fop .mul .f32 1098907648 b).getD 0) .i64).getD 0
def smp (k:Int):Nat:=(fop .quo .f32 (FloatKind.nearest .f32 k) 1098907648).getD 0
theorem QdK {a b X:Nat} (hX:0 < X) (h:a * X≤b * X):a≤b:=Nat.le_of_mul_le_mul_right h hX
theorem JV {a b:Nat} (h:a≤b) (k:Nat):a * 2 ^ k≤b * 2 ^ k:=Nat.mul_le_mul_right _ h
theorem QfT {a X K:Nat} (h:a=X * K):a=K * X:=by rw [h,Nat.mul_comm]
theorem Qdj (p:Int) (k:Nat):16 * Flo.vn 0 p=0 * 2 ^ k:=by unfold Flo.vn;rw [Nat.zero_mul,Nat.zero_mul]
theorem uJ {b:Nat} (h:chk b=0):∃ s K,Smp b s K:=by
 unfold chk at h
 cases hb:single.read b with
 | nan s t=>rw [hb] at h;cases h
 | infinity s=>rw [hb] at h;cases h
 | number s m e =>
  rw [hb] at h
  simp only at h
  split at h
  ·cases h
  ·rename_i h1
   split at h
   ·rename_i h2
    obtain ⟨K,hK⟩:=h2
    obtain ⟨_,h3,_⟩:=Flo.read_num hb
    have hc:=QfT hK
    refine ⟨s,K,?_,m,e,hb,h3,hc⟩
    have h4:K * 2 ^ 2000≤16384 * 2 ^ 2000:=by
     rw [Nat.mul_comm K,← hK];omega
    have h5:=Nat.two_pow_pos 2000
    generalize 2 ^ 2000=X at h4 h5
    exact QdK h5 h4
   ·cases h
theorem Smp.chk {b:Nat} {s:Bool} {K:Nat} (h:Smp b s K):chk b=0:=by
 obtain ⟨h1,m,e,h2,h3,h4⟩:=h
 unfold Proofs.YtfiigcbhiopagaaGreatDoor.chk
 rw [h2]
 simp only
 have h5:=JV h1 2000
 rw [if_neg (by omega),if_pos ⟨K,by rw [h4,Nat.mul_comm]⟩]
def Ef (s:Bool) (K:Nat):Int:=if s then -(K:Int) else (K:Int)
theorem Smp.mul {b:Nat} {s:Bool} {K:Nat} (h:Smp b s K):∃ y,fop .mul .f32 1098907648 b=some y∧f2i .f32 y .i64=some (Ef s K):=by
 obtain ⟨h1,m,e,h2,h3,h4⟩:=h
 have h5:=JV h1 2000
 obtain ⟨y,q,p,y1,y2,y3,y4,y5⟩:=Flo.mul16 h2 (by omega)
 obtain ⟨Z,z1,z2⟩:=QdQ y2 y3 (by rw [y5];omega) (by rw [y5,h4];exact Nat.dvd_mul_left _ _)
 have hZ:Z=K:=by
  rw [y5,h4] at z1
  have h6:=Nat.two_pow_pos 2000
  generalize 2 ^ 2000=X at z1 h6
  exact (Nat.eq_of_mul_eq_mul_right h6 z1).symm
 subst hZ
 exact ⟨y,y1,z2⟩
theorem Smp.lev {b:Nat} {s:Bool} {K:Nat} (h:Smp b s K):lev b=Ef s K:=by
 obtain ⟨y,h1,h2⟩:=h.mul
 unfold Proofs.YtfiigcbhiopagaaGreatDoor.lev
 rw [h1,Option.getD_some,h2,Option.getD_some]
theorem Smp.level {b:Nat} {s:Bool} {K:Nat} (h:Smp b s K) (n:Nat):Vl n b=some (Proofs.YtfiigcbhiopagaaGreatDoor.lev b):=by
 obtain ⟨y,h1,h2⟩:=h.mul
 unfold Vl Proofs.YtfiigcbhiopagaaGreatDoor.lev
 rw [h1]
 simp only [Option.isSome_some,if_true,Option.getD_some]
 rw [h2]
 simp only [Option.isSome_some,if_true,Option.getD_some]
theorem Qbt {b:Nat} (h:Proofs.YtfiigcbhiopagaaGreatDoor.chk b=0) (n:Nat):Vl n b=some (lev b):=by
 obtain ⟨s,K,h1⟩:=uJ h
 exact h1.level n
theorem QdJ {b:Nat} (h:Proofs.YtfiigcbhiopagaaGreatDoor.chk b=0) : -16384≤lev b∧lev b≤16384:=by
 obtain ⟨s,K,h1⟩:=uJ h
 rw [h1.lev]
 have:=h1.1
 unfold Ef
 cases s <;> simp only [Bool.false_eq_true,if_false,if_true] <;> omega
theorem QgV {x:Nat} {s:Bool} {m:Nat} {i:Int} {K:Nat} (hx:single.read x=.number s m i) (hm:m < 2 ^ 24) (hi : -149≤i) (hK:K≤16384) (hv:Flo.vn m i=K * 2 ^ 2000) :
  ∃ w,fop .quo .f32 x 1098907648=some w∧Smp w s K:=by
 have h16:single.read 1098907648=.number false 8388608 (-19):=by decide
 have hlog:m.log2≤23:=by
  by_cases h0:m=0
  ·subst h0;decide
  ·have:=(Nat.log2_lt h0).2 hm;omega
 obtain ⟨M,hM⟩:∃ M,M=single.fractionBits+2+(8388608:Nat).log2 - m.log2:=⟨_,rfl⟩
 have hM2:25≤M∧M≤48:=by
  have e1:single.fractionBits+2+(8388608:Nat).log2=48:=by decide
  rw [e1] at hM;omega
 obtain ⟨N,hN⟩:∃ N,M=N+23:=⟨M - 23,by omega⟩
 have hdiv:m <<< M / 8388608=m * 2 ^ N∧m <<< M % 8388608=0:=by
  rw [Nat.shiftLeft_eq,hN,Nat.pow_add,← Nat.mul_assoc,show (2:Nat) ^ 23=8388608 by decide]
  exact ⟨Nat.mul_div_cancel _ (by decide),Nat.mul_mod_left _ _⟩
 obtain ⟨G,hG⟩:∃ G,G=2 * (m * 2 ^ N)+0:=⟨_,rfl⟩
 have hq:(single.read x).quotient (single.fractionBits+2) (single.read 1098907648)=some (.number s G (i - (-19) - M - 1)):=by
  rw [hx,h16]
  unfold Datum.quotient
  simp only [← hM]
  rw [if_neg (by decide),hdiv.1,hdiv.2,Bool.xor_false,hG]
  rfl
 have hval:Flo.vn G (i - (-19) - M - 1)=K * 2 ^ 1996:=by
  have e1:Flo.vn G (i - (-19) - M - 1) * 16=Flo.vn m i:=by
   unfold Flo.vn
   obtain ⟨A,hA⟩:∃ A:Nat,A=(i - (-19) - M - 1+2000).toNat:=⟨_,rfl⟩
   rw [← hA,show (i+2000).toNat=N+(A+5) by omega,hG,Nat.pow_add 2 N,Nat.pow_add 2 A]
   generalize 2 ^ A=X
   generalize 2 ^ N=Y
   rw [show (2:Nat) ^ 5=32 by decide,Nat.add_zero,← Nat.mul_assoc m Y,← Nat.mul_assoc (m * Y)]
   rw [Nat.mul_assoc 2,Nat.mul_comm 2,Nat.mul_assoc]
  have e2:∀ k j:Nat,j=k+4→K * 2 ^ j=K * 2 ^ k * 16:=fun k j e=>by rw [e,Nat.pow_add,← Nat.mul_assoc]
  have e3:=e2 1996 2000 rfl
  rw [hv,e3] at e1
  generalize K * 2 ^ 1996=Y at e1
  omega
 have hval4:Flo.vn G (i - (-19) - M - 1)=Flo.vn K (-4):=by
  rw [hval]
  unfold Flo.vn
  rw [show ((-4:Int)+2000).toNat=1996 from rfl]
 have hKb:=JV hK 1996
 obtain ⟨n,j,r1,r2,r3,r4⟩:=Flo.write_read Flo.f32 s (m:=G) (i:=i - (-19) - M - 1) (q:=K) (p:=-4) (by omega) (by omega) (by omega) hval4 (by rw [hval];omega)
 refine ⟨single.write (.number s G (i - (-19) - M - 1)),?_,hK,n,j,r1,r2,?_⟩
 ·show single.div x 1098907648=_
  unfold Format.div
  rw [hq];rfl
 ·rw [r4,hval]
  have e2:∀ k j:Nat,j=k+4→16 * (K * 2 ^ k)=K * 2 ^ j:=fun k j e=>by rw [e,Nat.pow_add,← Nat.mul_assoc K];omega
  have q:=e2 1996 2000 rfl
  exact q
theorem QfA {k:Int} (h : -16384≤k∧k≤16384):∃ w,fop .quo .f32 (FloatKind.nearest .f32 k) 1098907648=some w∧Smp w (decide (k < 0)) k.natAbs:=by
 have hv0:Flo.vn k.natAbs 0=k.natAbs * 2 ^ 2000:=by
  unfold Flo.vn
  rw [show ((0:Int)+2000).toNat=2000 from rfl]
 have hK:k.natAbs≤16384:=by omega
 have hKb:=JV hK 2000
 obtain ⟨n,j,r1,r2,r3,r4⟩:=Flo.write_read Flo.f32 (decide (k < 0)) (m:=k.natAbs) (i:=0) (q:=k.natAbs) (p:=0) (by omega) (by omega) (by omega) rfl (by rw [hv0];omega)
 exact QgV (x:=FloatKind.nearest .f32 k) r1 r3 r2 hK (by rw [r4,hv0])
theorem Qes (k:Int):Ef (decide (k < 0)) k.natAbs=k:=by
 unfold Ef
 by_cases h:k < 0
 ·rw [decide_eq_true h,if_pos rfl];omega
 ·rw [decide_eq_false h,if_neg (by decide)];omega
theorem jz {k:Int} (h : -16384≤k∧k≤16384):Proofs.YtfiigcbhiopagaaGreatDoor.chk (smp k)=0∧lev (smp k)=k∧∀ n,VE n k=some (smp k):=by
 obtain ⟨w,h1,h2⟩:=QfA h
 have e:smp k=w:=by unfold smp;rw [h1,Option.getD_some]
 rw [e]
 refine ⟨h2.chk,by rw [h2.lev,Qes],fun n=>?_⟩
 unfold VE
 rw [h1];rfl
theorem QfB {a b:Nat} {s t:Bool} {K L:Nat} (ha:Smp a s K) (hb:Smp b t L):single.order a b=some (compare (Ef s K) (Ef t L)):=by
 obtain ⟨_,m,e,a1,a2,a3⟩:=ha
 obtain ⟨_,n,j,b1,b2,b3⟩:=hb
 unfold Format.order
 rw [a1,b1,Flo.order_val (by omega) (by omega),Flo.V_eq,Flo.V_eq]
 have key:∀ (X p q:Nat) (K L:Nat),0 < X→16 * p=K * X→16 * q=L * X→compare (if s then -(p:Int) else (p:Int)) (if t then -(q:Int) else (q:Int))=compare (Ef s K) (Ef t L):=by
  intro X p q K L hX h1 h2
  have e1:(16:Int) * (if s then -(p:Int) else (p:Int))=Ef s K * (X:Int):=by
   unfold Ef
   have:(16:Int) * (p:Int)=(K:Int) * (X:Int):=by exact_mod_cast h1
   cases s
   ·simpa using this
   ·simp only [if_true];rw [Int.neg_mul,← this];omega
  have e2:(16:Int) * (if t then -(q:Int) else (q:Int))=Ef t L * (X:Int):=by
   unfold Ef
   have:(16:Int) * (q:Int)=(L:Int) * (X:Int):=by exact_mod_cast h2
   cases t
   ·simpa using this
   ·simp only [if_true];rw [Int.neg_mul,← this];omega
  generalize (if s then -(p:Int) else (p:Int))=u at e1
  generalize (if t then -(q:Int) else (q:Int))=v at e2
  generalize Ef s K=A at e1
  generalize Ef t L=B at e2
  have hX' : (0:Int) < (X:Int):=by omega
  rcases Int.lt_trichotomy A B with h | h | h
  ·have h3:A * (X:Int) < B * (X:Int):=Int.mul_lt_mul_of_pos_right h hX'
   rw [Int.compare_eq_lt.2 h,Int.compare_eq_lt.2 (by omega)]
  ·subst h
   rw [Int.compare_eq_eq.2 rfl,Int.compare_eq_eq.2 (by omega)]
  ·have h3:B * (X:Int) < A * (X:Int):=Int.mul_lt_mul_of_pos_right h hX'
   rw [Int.compare_eq_gt.2 h,Int.compare_eq_gt.2 (by omega)]
 have hp:=Nat.two_pow_pos 2000
 generalize 2 ^ 2000=X at a3 b3 hp
 exact congrArg some (key X _ _ K L hp a3 b3)
theorem ji {a b:Nat} (ha:Proofs.YtfiigcbhiopagaaGreatDoor.chk a=0) (hb:Proofs.YtfiigcbhiopagaaGreatDoor.chk b=0):single.order a b=some (compare (lev a) (lev b)):=by
 obtain ⟨s,K,h1⟩:=uJ ha
 obtain ⟨t,L,h2⟩:=uJ hb
 rw [QfB h1 h2,h1.lev,h2.lev]
theorem Xs:Proofs.YtfiigcbhiopagaaGreatDoor.chk 0=0∧lev 0=0:=by
 have h:Smp 0 false 0:=⟨by omega,0,-149,by decide,by omega,Qdj (-149) 2000⟩
 exact ⟨h.chk,h.lev⟩
theorem unff (x:Nat):Vq (Qm x)=some x:=rfl
theorem jM {α:Type} {L:Int×List D→Option ((Int×List D)⊕List D)} (l:List α) (out:α→D) (h1:∀ (i:Nat) (x:α) (s:List D),l[i]?=some x→s.length=i→L ((i:Int),s)=some (.inl ((i:Int)+1,s++[out x])))
  (h2:∀ s:List D,s.length=l.length→L ((l.length:Int),s)=some (.inr s)) {n:Nat} (hn:l.length < n):Qz L n (0,[])=some (l.map out):=by
 have h:=Vw (step:=L) (fun (s:List D) (x:α)=>(.inl (s++[out x]):List D⊕List D)) (fun s=>s) (fun i s=>((i:Int),s)) l (fun i s=>s.length=i)
  (fun i s x hx hs=>⟨(h1 i x s hx hs).trans (by rw [show (((i+1:Nat)):Int)=(i:Int)+1 by omega]),by rw [List.length_append,hs];rfl⟩)
  (fun s hs=>h2 s hs) (k:=n) (s:=[]) rfl hn
 have hr:∀ (l:List α) (s:List D),K4 (fun (s:List D) (x:α)=>(.inl (s++[out x]):List D⊕List D)) (fun s=>s) l s=s++l.map out:=by
  intro l
  induction l with
  | nil=>intro s;simp [K4]
  | cons t l ih=>intro s;show K4 _ _ l (s++[out t])=_;rw [ih];simp
 rw [hr,List.nil_append] at h
 exact h
theorem kM {α E:Type} {L:Int→Option (Int⊕(E⊕Unit))} (l:List α) (h1:∀ (i:Nat) (x:α),l[i]?=some x→L (i:Int)=some (.inl ((i:Int)+1))) (h2:L (l.length:Int)=some (.inr (.inr ()))) {n:Nat} (hn:l.length < n):Qz L n 0=some (.inr ()):=by
 have h:=Vw (step:=L) (fun (s:Nat) (x:α)=>(.inl (s+1):Nat⊕(E⊕Unit))) (fun _=>.inr ()) (fun i _=>(i:Int)) l (fun i s=>True)
  (fun i s x hx _=>⟨(h1 i x hx).trans (by rw [show (((i+1:Nat)):Int)=(i:Int)+1 by omega]),trivial⟩) (fun s _=>h2) (k:=n) (s:=0) trivial hn
 have hr:∀ (l:List α) (s:Nat),K4 (fun (s:Nat) (x:α)=>(.inl (s+1):Nat⊕(E⊕Unit))) (fun _=>(.inr ():E⊕Unit)) l s=.inr ():=by
  intro l
  induction l with
  | nil=>intro s;rfl
  | cons t l ih=>intro s;exact ih (s+1)
 rw [hr] at h
 exact h
structure MapOk (W H:Int) (bs:List Nat):Prop where
 w:1≤W∧W≤64
 h:1≤H∧H≤64
 len:(bs.length:Int)=W * H
 few:bs.length≤101
 chk:∀ b,b∈bs→chk b=0
theorem jj {x lo hi:Int} (h:lo≤x∧x≤hi):inR x lo hi=0:=by
 unfold inR;rw [if_neg (by omega),if_neg (by omega)]
theorem QaK (bs:List Nat):Zn (bs.map fun _=>(0:Int))=0:=by
 induction bs with
 | nil=>rfl
 | cons b l ih =>
  show (if (0:Int)=0 then Zn (l.map fun _=>(0:Int)) else 0)=0
  rw [if_pos rfl];exact ih
theorem jn {W H:Int} (hw:1≤W∧W≤64) (hh:1≤H∧H≤64):Qb (W * H):=by
 have h1:0≤W * H:=Int.mul_nonneg (by omega) (by omega)
 have h2:W * H≤64 * 64:=Int.mul_le_mul hw.2 hh.2 (by omega) (by omega)
 unfold Qb;omega
theorem KQ {n:Nat} (hn:300≤n) {W H:Int} {bs:List Nat} (h:MapOk W H bs):Zq n W H (bs.map Qm)=some 0:=by
 unfold Zq
 rw [yJ,Option.bind_some,yJ,Option.bind_some,jj h.w,jj h.h,show ([I 0,I 0]:List D)=[0,0].map I from rfl,zI hn _ (by simp),Option.bind_some,if_pos (by rfl),if_pos (jn h.w h.h),if_pos (by rw [List.length_map];exact h.len)]
 unfold VP
 rw [jM (L:=ZW n (bs.map Qm)) bs (fun _=>I 0) ?_ ?_ (by have:=h.few;omega),Option.bind_some,Option.bind_some,show (bs.map fun _=>I 0)=(bs.map fun _=>(0:Int)).map I by rw [List.map_map];rfl,zI hn _ (by rw [List.length_map];exact h.few),QaK,Option.bind_some]
 ·intro i x s hx hs
  have hi:=(List.getElem?_eq_some_iff.1 hx).1
  have:=h.few
  unfold ZW
  dsimp only
  rw [if_pos (YB hx),Vo unff hx,Option.bind_some,QbO hn (h.chk x (List.mem_of_getElem? hx)),Option.bind_some,if_pos (by unfold ZZ;omega),if_pos (by unfold Qb;omega)]
 ·intro s hs
  unfold ZW
  rw [if_neg (by simp)]
def levD (b:Nat):D:=I (lev b)
theorem zJ {n:Nat} (hn:300≤n) {W H:Int} {bs:List Nat} (h:MapOk W H bs):Zh n W H (bs.map Qm)=some (W,H,bs.map levD):=by
 unfold Zh Vf
 rw [jM (L:=Zz n (bs.map Qm)) bs levD ?_ ?_ (by have:=h.few;omega),Option.bind_some,Option.bind_some]
 ·intro i x s hx hs
  have hi:=(List.getElem?_eq_some_iff.1 hx).1
  have:=h.few
  unfold Zz
  dsimp only
  rw [if_pos (YB hx),Vo unff hx,Option.bind_some,Qbt (h.chk x (List.mem_of_getElem? hx)),Option.bind_some,if_pos (by unfold ZZ;omega),if_pos (by unfold Qb;omega)]
  rfl
 ·intro s hs
  unfold Zz
  rw [if_neg (by simp)]
theorem qb {α:Type} {f:α→D} {l:List α} {i:Nat} {x:α} (h:l[i]?=some x):nth (l.map f) (Int.toNat (i:Int))=some (f x):=by
 rw [Int.toNat_natCast,Jr,List.getElem?_map,h];rfl
theorem Qc4 {n:Nat} (hn:300≤n) (W H:Int) {ks:List Int} (hl:ks.length≤101) (hk:∀ k,k∈ks→-16384≤k∧k≤16384):ZS n W H (ks.map I)=some (W,H,(ks.map smp).map Qm,0):=by
 unfold ZS
 rw [kM (L:=ZM n W H (ks.map I)) ks ?_ ?_ (by omega),Option.bind_some]
 ·dsimp only
  unfold Ve
  rw [jM (L:=Zy n (ks.map I)) ks (fun k=>Qm (smp k)) ?_ ?_ (by omega),Option.bind_some,Option.bind_some,List.map_map]
  ·rfl
  ·intro i x s hx hs
   have hi:=(List.getElem?_eq_some_iff.1 hx).1
   unfold Zy
   dsimp only
   rw [if_pos (YB hx),Vo QbZ hx,Option.bind_some,(jz (hk x (List.mem_of_getElem? hx))).2.2 n,Option.bind_some,if_pos (by unfold ZZ;omega),if_pos (by unfold Qb;omega)]
   rfl
  ·intro s hs
   unfold Zy
   rw [if_neg (by simp)]
 ·intro i x hx
  have hi:=(List.getElem?_eq_some_iff.1 hx).1
  have hb:=hk x (List.mem_of_getElem? hx)
  unfold ZM
  rw [if_pos (YB hx),Vo QbZ hx,Option.bind_some,if_neg (by omega),if_neg (by omega),if_pos (by unfold Qb;omega)]
 ·unfold ZM
  rw [if_neg (by simp)]
def kA:List Nat→Int
 | []=>0
 | b::l=>if chk b=0 then kA l else chk b
theorem uu:∀ {bs:List Nat},kA bs=0→∀ b,b∈bs→chk b=0
 | [],_,b,h=>by cases h
 | a::l,h,b,hb=>by
  unfold kA at h
  by_cases h0:chk a=0
  ·rw [if_pos h0] at h
   rcases List.mem_cons.1 hb with rfl | hb
   ·exact h0
   ·exact uu h b hb
  ·rw [if_neg h0] at h;exact absurd h h0
def sG (s:Nat) (b:Nat):Nat⊕(Int⊕Unit):=if chk b=0 then .inl (s+1) else .inr (.inl (chk b))
theorem Qet:∀ (bs:List Nat) (s:Nat),K4 sG (fun _=>(.inr ():Int⊕Unit)) bs s=(if kA bs=0 then .inr () else .inl (kA bs))
 | [],s=>rfl
 | b::l,s=>by
  unfold K4 sG kA
  by_cases h:chk b=0
  ·rw [if_pos h,if_pos h];exact Qet l (s+1)
  ·rw [if_neg h,if_neg h,if_neg h]
theorem jD {n:Nat} (hn:300≤n) (bs:List Nat) (hb:bs.length≤101):Wc n (bs.map Qm)=some (kA bs):=by
 unfold Wc
 have h:=Vw (step:=QW n (bs.map Qm)) sG (fun _=>(.inr ():Int⊕Unit)) (fun i _=>(i:Int)) bs (fun i s=>True)
  (fun i s x hx _=>by
   have hi:=(List.getElem?_eq_some_iff.1 hx).1
   unfold sG QW
   rw [if_pos (YB hx),Vo unff hx,Option.bind_some,ref_eq,Option.bind_some]
   by_cases h0:chk x=0
   ·rw [if_pos h0,if_pos h0,if_pos (by unfold Qb;omega)]
    exact ⟨rfl,trivial⟩
   ·rw [if_neg h0,if_neg h0])
  (fun s _=>by unfold QW;rw [if_neg (by simp)]) (k:=n) (s:=0) trivial (by omega)
 have h' : Qz (QW n (bs.map Qm)) n 0=_:=h
 rw [h',Qet,Option.bind_some]
 by_cases h0:kA bs=0
 ·rw [if_pos h0,h0]
 ·rw [if_neg h0]
theorem qm {x lo hi:Int} (h:inR x lo hi=0):lo≤x∧x≤hi:=by
 unfold inR at h
 split at h
 ·cases h
 ·split at h
  ·cases h
  ·omega
theorem wI {a b:Int} (h:Zn [a,b]=0):a=0∧b=0:=by
 unfold Zn Zn Zn at h
 split at h
 ·rename_i h1
  split at h
  ·rename_i h2;exact ⟨h1,h2⟩
  ·rename_i h2;exact absurd h h2
 ·rename_i h1;exact absurd h h1
theorem Qdx {n:Nat} (hn:300≤n) (W H:Int) (bs:List Nat) (hb:bs.length≤101):∃ e,Zp n W H (bs.map Qm)=some e∧(e=0→MapOk W H bs):=by
 unfold Zp ZR
 rw [Jo,Option.bind_some,Option.bind_some,Jo,Option.bind_some,Option.bind_some,show ([I (inR W 1 64),I (inR H 1 64)]:List D)=[inR W 1 64,inR H 1 64].map I from rfl,Jm hn _ (by simp),Option.bind_some]
 by_cases h0:Zn [inR W 1 64,inR H 1 64]=0
 ·obtain ⟨h1,h2⟩:=wI h0
  have hw:=qm h1
  have hh:=qm h2
  rw [if_pos h0,if_pos (jn hw hh)]
  by_cases hl:((bs.map Qm).length:Int)=W * H
  ·rw [if_pos hl,jD hn bs hb,Option.bind_some]
   refine ⟨_,rfl,fun h=>⟨hw,hh,by rw [List.length_map] at hl;exact hl,hb,uu h⟩⟩
  ·rw [if_neg hl]
   exact ⟨2,rfl,fun h=>by cases h⟩
 ·rw [if_neg h0]
  exact ⟨_,rfl,fun h=>absurd h h0⟩
end Go.Proofs.YtfiigcbhiopagaaGreatDoor
