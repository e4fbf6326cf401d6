/- Printed by gsx.py: functions of the program as Lean functions, and that the code computes them. -/
import Derived.Test.YtiefmhacicemhaaGreatDoorGen2
set_option linter.unusedVariables false
set_option linter.unusedSimpArgs false
set_option linter.unnecessarySimpa false
set_option maxRecDepth 10000
set_option maxHeartbeats 4000000
namespace Go.Proofs.YtiefmhacicemhaaGreatDoor
open Go.SX
theorem EV (a0:List D) (t1:Int) (t2:Int) (t3:Int) (t5:List D) (t6:Int) (t11:List D) (t14:List D) (t16:List D) (t17:List D) (t31:Int) (t32:Int) (t33:Int):QR true 100 cx 6 [.lst false 2 a0] [.ret (I t1),.ret (I t2),.ret (I t3),.br false,.ret (.lst false 1 t5),.ret (I t6),.br false,.br true,.no,.br true,.br false,.obj (some 29) (.d (.tup [])) [.row 2 t11] [],.br true,.br false,.lp [] [0,3] [29] (.exit 0) [(0,.own 29 0)] [(29,.row 0 2 t11)] 118,.br true,.lp [3,2] [3,7,8,9] [29,128] (.exit 0) [(3,.own 128 0)] [(29,.row 0 2 t11),(128,.row 0 2 t14)] 191,.br true,.lp [] [0,2,3] [29,128] (.exit 0) [] [(29,.row 0 2 t16),(128,.row 0 2 t14)] 236,.br true,.lp [3,2] [3,7,8,9] [29,128,244] (.exit 0) [(3,.own 244 0)] [(29,.row 0 2 t16),(128,.row 0 2 t14),(244,.row 0 2 t17)] 307,.lp [] [] [128,244] .ret [] [] 0,.br true,.br true,.no,.no,.no,.no,.br false,.no,.no,.no,.br false,.no,.no,.br true,.br false,.br false,.no,.no,.no,.br true,.br false,.no,.no,.no,.br true,.no,.no,.ret (I t31),.ret (I t32),.ret (I t33),.br true]=some (.tup [.lst true 0 [],I t33],[(t33 != 0)=true,Computes cx 36 [.lst true 1 [I t31,I t32]] (I t33),Computes cx 37 [B (decide ((((((t14.take (Int.toNat (((t14).length:Int) - 1))).drop (Int.toNat 0))++(((t17.take (Int.toNat (((t17).length:Int) - 1))).drop (Int.toNat 0)):List D)):List D).length:Int) > 16)),I 5] (I t32),Computes cx 37 [B (decide ((((((t14.take (Int.toNat (((t14).length:Int) - 1))).drop (Int.toNat 0))++(((t17.take (Int.toNat (((t17).length:Int) - 1))).drop (Int.toNat 0)):List D)):List D).length:Int) < 3)),I 17] (I t31),Qa 2,room cx 46 ((((t14.take (Int.toNat (((t14).length:Int) - 1))).drop (Int.toNat 0)):List D).length+(((t17.take (Int.toNat (((t17).length:Int) - 1))).drop (Int.toNat 0)):List D).length),Qa 1,Qu ((t14.take (Int.toNat (((t14).length:Int) - 1))).drop (Int.toNat 0))=false,room cx 46 (0+(((t14.take (Int.toNat (((t14).length:Int) - 1))).drop (Int.toNat 0)):List D).length),(decide ((((0+((((t14.take (Int.toNat (((t14).length:Int) - 1))).drop (Int.toNat 0)):List D).length:Int))+((((t17.take (Int.toNat (((t17).length:Int) - 1))).drop (Int.toNat 0)):List D).length:Int)) - 0) > 0))=false,Qa (((0+((((t14.take (Int.toNat (((t14).length:Int) - 1))).drop (Int.toNat 0)):List D).length:Int))+((((t17.take (Int.toNat (((t17).length:Int) - 1))).drop (Int.toNat 0)):List D).length:Int)) - 0),Qa 0,(decide (((0+((((t14.take (Int.toNat (((t14).length:Int) - 1))).drop (Int.toNat 0)):List D).length:Int))+((((t17.take (Int.toNat (((t17).length:Int) - 1))).drop (Int.toNat 0)):List D).length:Int)) < 0))=false,Qa 2,(decide (((0+((((t14.take (Int.toNat (((t14).length:Int) - 1))).drop (Int.toNat 0)):List D).length:Int))+((((t17.take (Int.toNat (((t17).length:Int) - 1))).drop (Int.toNat 0)):List D).length:Int)) < 0))=false,Qa ((0+((((t14.take (Int.toNat (((t14).length:Int) - 1))).drop (Int.toNat 0)):List D).length:Int))+((((t17.take (Int.toNat (((t17).length:Int) - 1))).drop (Int.toNat 0)):List D).length:Int)),Qa 1,(decide ((0+((((t14.take (Int.toNat (((t14).length:Int) - 1))).drop (Int.toNat 0)):List D).length:Int)) < 0))=false,Qa (0+((((t14.take (Int.toNat (((t14).length:Int) - 1))).drop (Int.toNat 0)):List D).length:Int)),(0:Int)≤0∧0≤(((t17).length:Int) - 1)∧(((t17).length:Int) - 1)≤((t17).length:Int)∧(t17=[] ∨ 2=2),Qa (((t17).length:Int) - 1),(0:Int)≤0∧0≤(((t14).length:Int) - 1)∧(((t14).length:Int) - 1)≤((t14).length:Int)∧(t14=[] ∨ 2=2),Qa (((t14).length:Int) - 1),QA cx (Ql cx.P 44 0) 44 239 false [(3,.own 244 0),(7,.own 29 0),(8,.d (I ((t16).length:Int))),(9,.d (I 0))] [(29,.row 0 2 t16),(128,.row 0 2 t14),(244,.row 0 2 [])] (.exit 0) [(3,.own 244 0)] [(29,.row 0 2 t16),(128,.row 0 2 t14),(244,.row 0 2 t17)],QA cx (Ql cx.P 45 0) 28 195 false [(0,.own 29 0),(2,.d (I 0)),(3,.d (I (((t11).length:Int) - 1)))] [(29,.row 0 2 t11),(128,.row 0 2 t14)] (.exit 0) [] [(29,.row 0 2 t16),(128,.row 0 2 t14)],Qa (((t11).length:Int) - 1),QA cx (Ql cx.P 44 0) 44 123 false [(3,.own 128 0),(7,.own 29 0),(8,.d (I ((t11).length:Int))),(9,.d (I 0))] [(29,.row 0 2 t11),(128,.row 0 2 [])] (.exit 0) [(3,.own 128 0)] [(29,.row 0 2 t11),(128,.row 0 2 t14)],QA cx (Ql cx.P 43 0) 61 36 false [(0,.own 29 0),(3,.d (I 1))] [(29,.row 0 2 t11)] (.exit 0) [(0,.own 29 0)] [(29,.row 0 2 t11)],(decide (((t11).length:Int) < 2))=false,ZR cx 41 2 a0 [.fn (.func 42) [] []] t11,a0≠[],Qu a0=false,room cx 46 (0+(a0).length),a0≠[],(t6 != 0)=false,Computes cx 36 [.lst false 1 t5] (I t6),Computes cx 38 [.lst false 2 a0,.fn (.func 39) [] []] (.lst false 1 t5),(t3 != 0)=false,Computes cx 36 [.lst true 1 [I t1,I t2]] (I t3),Computes cx 37 [B (decide (((a0).length:Int) > 64)),I 5] (I t2),Computes cx 37 [B (((a0).length:Int) == 0),I 12] (I t1)]):=by kernel_rfl
theorem EU (a0:List D) (t1:Int) (t2:Int) (t3:Int) (t5:List D) (t6:Int):QR true 100 cx 6 [.lst false 2 a0] [.ret (I t1),.ret (I t2),.ret (I t3),.br false,.ret (.lst false 1 t5),.ret (I t6),.br true]=some (.tup [.lst true 0 [],I t6],[(t6 != 0)=true,Computes cx 36 [.lst false 1 t5] (I t6),Computes cx 38 [.lst false 2 a0,.fn (.func 39) [] []] (.lst false 1 t5),(t3 != 0)=false,Computes cx 36 [.lst true 1 [I t1,I t2]] (I t3),Computes cx 37 [B (decide (((a0).length:Int) > 64)),I 5] (I t2),Computes cx 37 [B (((a0).length:Int) == 0),I 12] (I t1)]):=by kernel_rfl
theorem ET (a0:List D) (t1:Int) (t2:Int) (t3:Int):QR true 100 cx 6 [.lst false 2 a0] [.ret (I t1),.ret (I t2),.ret (I t3),.br true]=some (.tup [.lst true 0 [],I t3],[(t3 != 0)=true,Computes cx 36 [.lst true 1 [I t1,I t2]] (I t3),Computes cx 37 [B (decide (((a0).length:Int) > 64)),I 5] (I t2),Computes cx 37 [B (((a0).length:Int) == 0),I 12] (I t1)]):=by kernel_rfl
def WN (n:Nat) (a0:List D):Option (List D×Int) :=
 (Qs n (((a0).length:Int) == 0) 12).bind fun t1 =>
 (Qs n (decide (((a0).length:Int) > 64)) 5).bind fun t2 =>
 (Qv n ([I t1,I t2])).bind fun t3 =>
 if t3=0 then
  (ZV n a0).bind fun t5 =>
  (Qv n t5).bind fun t6 =>
  if t6=0 then
   if Qu a0=true then
    none
   else
   if Q1 16 (0+(a0).length) then
   if Qu a0=false then
   (ZJ n a0).bind fun t11 =>
   if ((t11).length:Int) < 2 then
    (QE (Zc n t11) n (0,[])).bind fun t13 =>
    if Qa (((t11).length:Int) - 1) then
    (QE (Zb n t13) n (0,(((t11).length:Int) - 1),t11)).bind fun t15 =>
    (QE (Ws n t13 t15) n (0,[])).bind fun t16 =>
    if Qa (((t13).length:Int) - 1) then
    if (0:Int)≤0∧0≤(((t13).length:Int) - 1)∧(((t13).length:Int) - 1)≤((t13).length:Int)∧(t13=[] ∨ 2=2) then
    if Qa (((t16).length:Int) - 1) then
    if (0:Int)≤0∧0≤(((t16).length:Int) - 1)∧(((t16).length:Int) - 1)≤((t16).length:Int)∧(t16=[] ∨ 2=2) then
    if Qa (0+((((t13.take (Int.toNat (((t13).length:Int) - 1))).drop (Int.toNat 0)):List D).length:Int)) then
    if (0+((((t13.take (Int.toNat (((t13).length:Int) - 1))).drop (Int.toNat 0)):List D).length:Int)) < 0 then
     none
    else
    if Qa ((0+((((t13.take (Int.toNat (((t13).length:Int) - 1))).drop (Int.toNat 0)):List D).length:Int))+((((t16.take (Int.toNat (((t16).length:Int) - 1))).drop (Int.toNat 0)):List D).length:Int)) then
    if ((0+((((t13.take (Int.toNat (((t13).length:Int) - 1))).drop (Int.toNat 0)):List D).length:Int))+((((t16.take (Int.toNat (((t16).length:Int) - 1))).drop (Int.toNat 0)):List D).length:Int)) < 0 then
     none
    else
    if Qa (((0+((((t13.take (Int.toNat (((t13).length:Int) - 1))).drop (Int.toNat 0)):List D).length:Int))+((((t16.take (Int.toNat (((t16).length:Int) - 1))).drop (Int.toNat 0)):List D).length:Int)) - 0) then
    if (((0+((((t13.take (Int.toNat (((t13).length:Int) - 1))).drop (Int.toNat 0)):List D).length:Int))+((((t16.take (Int.toNat (((t16).length:Int) - 1))).drop (Int.toNat 0)):List D).length:Int)) - 0) > 0 then
     if 0 < (((0+((((t13.take (Int.toNat (((t13).length:Int) - 1))).drop (Int.toNat 0)):List D).length:Int))+((((t16.take (Int.toNat (((t16).length:Int) - 1))).drop (Int.toNat 0)):List D).length:Int)) - 0)∧Q1 16 (Int.toNat (((0+((((t13.take (Int.toNat (((t13).length:Int) - 1))).drop (Int.toNat 0)):List D).length:Int))+((((t16.take (Int.toNat (((t16).length:Int) - 1))).drop (Int.toNat 0)):List D).length:Int)) - 0)) then
     if (0:Int)≤0∧0≤(((List.replicate (Int.toNat (((0+((((t13.take (Int.toNat (((t13).length:Int) - 1))).drop (Int.toNat 0)):List D).length:Int))+((((t16.take (Int.toNat (((t16).length:Int) - 1))).drop (Int.toNat 0)):List D).length:Int)) - 0)) (.agg [I 0,I 0]:D)):List D).length:Int) then
     if Q1 16 (0+(((t13.take (Int.toNat (((t13).length:Int) - 1))).drop (Int.toNat 0)):List D).length) then
     if Q1 16 ((((t13.take (Int.toNat (((t13).length:Int) - 1))).drop (Int.toNat 0)):List D).length+(((t16.take (Int.toNat (((t16).length:Int) - 1))).drop (Int.toNat 0)):List D).length) then
     (Qs n (decide ((((((t13.take (Int.toNat (((t13).length:Int) - 1))).drop (Int.toNat 0))++(((t16.take (Int.toNat (((t16).length:Int) - 1))).drop (Int.toNat 0)):List D)):List D).length:Int) < 3)) 17).bind fun t31 =>
     (Qs n (decide ((((((t13.take (Int.toNat (((t13).length:Int) - 1))).drop (Int.toNat 0))++(((t16.take (Int.toNat (((t16).length:Int) - 1))).drop (Int.toNat 0)):List D)):List D).length:Int) > 16)) 5).bind fun t32 =>
     (Qv n ([I t31,I t32])).bind fun t33 =>
     if t33=0 then
      some ((((t13.take (Int.toNat (((t13).length:Int) - 1))).drop (Int.toNat 0))++(((t16.take (Int.toNat (((t16).length:Int) - 1))).drop (Int.toNat 0)):List D)),0)
     else
     some ([],t33)
     else none
     else none
     else none
     else none
    else
    if Q1 16 (0+(((t13.take (Int.toNat (((t13).length:Int) - 1))).drop (Int.toNat 0)):List D).length) then
    if Qu ((t13.take (Int.toNat (((t13).length:Int) - 1))).drop (Int.toNat 0))=true then
     if Q1 16 (0+(((t16.take (Int.toNat (((t16).length:Int) - 1))).drop (Int.toNat 0)):List D).length) then
     if Qu ((t16.take (Int.toNat (((t16).length:Int) - 1))).drop (Int.toNat 0))=true then
      (Wo n).bind fun t31 =>
      (Wn n).bind fun t32 =>
      (Qv n ([I t31,I t32])).bind fun t33 =>
      if t33=0 then
       some ([],0)
      else
      some ([],t33)
     else
     (Qs n (decide (((((t16.take (Int.toNat (((t16).length:Int) - 1))).drop (Int.toNat 0)):List D).length:Int) < 3)) 17).bind fun t31 =>
     (Qs n (decide (((((t16.take (Int.toNat (((t16).length:Int) - 1))).drop (Int.toNat 0)):List D).length:Int) > 16)) 5).bind fun t32 =>
     (Qv n ([I t31,I t32])).bind fun t33 =>
     if t33=0 then
      some (((t16.take (Int.toNat (((t16).length:Int) - 1))).drop (Int.toNat 0)),0)
     else
     some ([],t33)
     else none
    else
    if Q1 16 ((((t13.take (Int.toNat (((t13).length:Int) - 1))).drop (Int.toNat 0)):List D).length+(((t16.take (Int.toNat (((t16).length:Int) - 1))).drop (Int.toNat 0)):List D).length) then
    (Qs n (decide ((((((t13.take (Int.toNat (((t13).length:Int) - 1))).drop (Int.toNat 0))++(((t16.take (Int.toNat (((t16).length:Int) - 1))).drop (Int.toNat 0)):List D)):List D).length:Int) < 3)) 17).bind fun t30 =>
    (Qs n (decide ((((((t13.take (Int.toNat (((t13).length:Int) - 1))).drop (Int.toNat 0))++(((t16.take (Int.toNat (((t16).length:Int) - 1))).drop (Int.toNat 0)):List D)):List D).length:Int) > 16)) 5).bind fun t31 =>
    (Qv n ([I t30,I t31])).bind fun t32 =>
    if t32=0 then
     some ((((t13.take (Int.toNat (((t13).length:Int) - 1))).drop (Int.toNat 0))++(((t16.take (Int.toNat (((t16).length:Int) - 1))).drop (Int.toNat 0)):List D)),0)
    else
    some ([],t32)
    else none
    else none
    else none
    else none
    else none
    else none
    else none
    else none
    else none
    else none
   else
   (QE (Q4 n t11) n 1).bind fun t13=>match t13 with
    | (.inl t13)=>(
     (QE (Yl n t13) n (0,[])).bind fun t14 =>
     if Qa (((t13).length:Int) - 1) then
     (QE (Yk n t14) n (0,(((t13).length:Int) - 1),t13)).bind fun t16 =>
     (QE (Yi n t14 t16) n (0,[])).bind fun t17 =>
     if Qa (((t14).length:Int) - 1) then
     if (0:Int)≤0∧0≤(((t14).length:Int) - 1)∧(((t14).length:Int) - 1)≤((t14).length:Int)∧(t14=[] ∨ 2=2) then
     if Qa (((t17).length:Int) - 1) then
     if (0:Int)≤0∧0≤(((t17).length:Int) - 1)∧(((t17).length:Int) - 1)≤((t17).length:Int)∧(t17=[] ∨ 2=2) then
     if Qa (0+((((t14.take (Int.toNat (((t14).length:Int) - 1))).drop (Int.toNat 0)):List D).length:Int)) then
     if (0+((((t14.take (Int.toNat (((t14).length:Int) - 1))).drop (Int.toNat 0)):List D).length:Int)) < 0 then
      none
     else
     if Qa ((0+((((t14.take (Int.toNat (((t14).length:Int) - 1))).drop (Int.toNat 0)):List D).length:Int))+((((t17.take (Int.toNat (((t17).length:Int) - 1))).drop (Int.toNat 0)):List D).length:Int)) then
     if ((0+((((t14.take (Int.toNat (((t14).length:Int) - 1))).drop (Int.toNat 0)):List D).length:Int))+((((t17.take (Int.toNat (((t17).length:Int) - 1))).drop (Int.toNat 0)):List D).length:Int)) < 0 then
      none
     else
     if Qa (((0+((((t14.take (Int.toNat (((t14).length:Int) - 1))).drop (Int.toNat 0)):List D).length:Int))+((((t17.take (Int.toNat (((t17).length:Int) - 1))).drop (Int.toNat 0)):List D).length:Int)) - 0) then
     if (((0+((((t14.take (Int.toNat (((t14).length:Int) - 1))).drop (Int.toNat 0)):List D).length:Int))+((((t17.take (Int.toNat (((t17).length:Int) - 1))).drop (Int.toNat 0)):List D).length:Int)) - 0) > 0 then
      if 0 < (((0+((((t14.take (Int.toNat (((t14).length:Int) - 1))).drop (Int.toNat 0)):List D).length:Int))+((((t17.take (Int.toNat (((t17).length:Int) - 1))).drop (Int.toNat 0)):List D).length:Int)) - 0)∧Q1 16 (Int.toNat (((0+((((t14.take (Int.toNat (((t14).length:Int) - 1))).drop (Int.toNat 0)):List D).length:Int))+((((t17.take (Int.toNat (((t17).length:Int) - 1))).drop (Int.toNat 0)):List D).length:Int)) - 0)) then
      if (0:Int)≤0∧0≤(((List.replicate (Int.toNat (((0+((((t14.take (Int.toNat (((t14).length:Int) - 1))).drop (Int.toNat 0)):List D).length:Int))+((((t17.take (Int.toNat (((t17).length:Int) - 1))).drop (Int.toNat 0)):List D).length:Int)) - 0)) (.agg [I 0,I 0]:D)):List D).length:Int) then
      if Q1 16 (0+(((t14.take (Int.toNat (((t14).length:Int) - 1))).drop (Int.toNat 0)):List D).length) then
      if Q1 16 ((((t14.take (Int.toNat (((t14).length:Int) - 1))).drop (Int.toNat 0)):List D).length+(((t17.take (Int.toNat (((t17).length:Int) - 1))).drop (Int.toNat 0)):List D).length) then
      (Qs n (decide ((((((t14.take (Int.toNat (((t14).length:Int) - 1))).drop (Int.toNat 0))++(((t17.take (Int.toNat (((t17).length:Int) - 1))).drop (Int.toNat 0)):List D)):List D).length:Int) < 3)) 17).bind fun t32 =>
      (Qs n (decide ((((((t14.take (Int.toNat (((t14).length:Int) - 1))).drop (Int.toNat 0))++(((t17.take (Int.toNat (((t17).length:Int) - 1))).drop (Int.toNat 0)):List D)):List D).length:Int) > 16)) 5).bind fun t33 =>
      (Qv n ([I t32,I t33])).bind fun t34 =>
      if t34=0 then
       some ((((t14.take (Int.toNat (((t14).length:Int) - 1))).drop (Int.toNat 0))++(((t17.take (Int.toNat (((t17).length:Int) - 1))).drop (Int.toNat 0)):List D)),0)
      else
      some ([],t34)
      else none
      else none
      else none
      else none
     else
     if Q1 16 (0+(((t14.take (Int.toNat (((t14).length:Int) - 1))).drop (Int.toNat 0)):List D).length) then
     if Qu ((t14.take (Int.toNat (((t14).length:Int) - 1))).drop (Int.toNat 0))=true then
      if Q1 16 (0+(((t17.take (Int.toNat (((t17).length:Int) - 1))).drop (Int.toNat 0)):List D).length) then
      if Qu ((t17.take (Int.toNat (((t17).length:Int) - 1))).drop (Int.toNat 0))=true then
       (Wo n).bind fun t32 =>
       (Wn n).bind fun t33 =>
       (Qv n ([I t32,I t33])).bind fun t34 =>
       if t34=0 then
        some ([],0)
       else
       some ([],t34)
      else
      (Qs n (decide (((((t17.take (Int.toNat (((t17).length:Int) - 1))).drop (Int.toNat 0)):List D).length:Int) < 3)) 17).bind fun t32 =>
      (Qs n (decide (((((t17.take (Int.toNat (((t17).length:Int) - 1))).drop (Int.toNat 0)):List D).length:Int) > 16)) 5).bind fun t33 =>
      (Qv n ([I t32,I t33])).bind fun t34 =>
      if t34=0 then
       some (((t17.take (Int.toNat (((t17).length:Int) - 1))).drop (Int.toNat 0)),0)
      else
      some ([],t34)
      else none
     else
     if Q1 16 ((((t14.take (Int.toNat (((t14).length:Int) - 1))).drop (Int.toNat 0)):List D).length+(((t17.take (Int.toNat (((t17).length:Int) - 1))).drop (Int.toNat 0)):List D).length) then
     (Qs n (decide ((((((t14.take (Int.toNat (((t14).length:Int) - 1))).drop (Int.toNat 0))++(((t17.take (Int.toNat (((t17).length:Int) - 1))).drop (Int.toNat 0)):List D)):List D).length:Int) < 3)) 17).bind fun t31 =>
     (Qs n (decide ((((((t14.take (Int.toNat (((t14).length:Int) - 1))).drop (Int.toNat 0))++(((t17.take (Int.toNat (((t17).length:Int) - 1))).drop (Int.toNat 0)):List D)):List D).length:Int) > 16)) 5).bind fun t32 =>
     (Qv n ([I t31,I t32])).bind fun t33 =>
     if t33=0 then
      some ((((t14.take (Int.toNat (((t14).length:Int) - 1))).drop (Int.toNat 0))++(((t17.take (Int.toNat (((t17).length:Int) - 1))).drop (Int.toNat 0)):List D)),0)
     else
     some ([],t33)
     else none
     else none
     else none
     else none
     else none
     else none
     else none
     else none
     else none
     else none)
    | (.inr t13)=>(
     (QE (Yg n t11) n (0,[])).bind fun t14 =>
     if Qa (((t11).length:Int) - 1) then
     (QE (Yf n t14) n (0,(((t11).length:Int) - 1),t11)).bind fun t16 =>
     (QE (Yd n t14 t16) n (0,[])).bind fun t17 =>
     if Qa (((t14).length:Int) - 1) then
     if (0:Int)≤0∧0≤(((t14).length:Int) - 1)∧(((t14).length:Int) - 1)≤((t14).length:Int)∧(t14=[] ∨ 2=2) then
     if Qa (((t17).length:Int) - 1) then
     if (0:Int)≤0∧0≤(((t17).length:Int) - 1)∧(((t17).length:Int) - 1)≤((t17).length:Int)∧(t17=[] ∨ 2=2) then
     if Qa (0+((((t14.take (Int.toNat (((t14).length:Int) - 1))).drop (Int.toNat 0)):List D).length:Int)) then
     if (0+((((t14.take (Int.toNat (((t14).length:Int) - 1))).drop (Int.toNat 0)):List D).length:Int)) < 0 then
      none
     else
     if Qa ((0+((((t14.take (Int.toNat (((t14).length:Int) - 1))).drop (Int.toNat 0)):List D).length:Int))+((((t17.take (Int.toNat (((t17).length:Int) - 1))).drop (Int.toNat 0)):List D).length:Int)) then
     if ((0+((((t14.take (Int.toNat (((t14).length:Int) - 1))).drop (Int.toNat 0)):List D).length:Int))+((((t17.take (Int.toNat (((t17).length:Int) - 1))).drop (Int.toNat 0)):List D).length:Int)) < 0 then
      none
     else
     if Qa (((0+((((t14.take (Int.toNat (((t14).length:Int) - 1))).drop (Int.toNat 0)):List D).length:Int))+((((t17.take (Int.toNat (((t17).length:Int) - 1))).drop (Int.toNat 0)):List D).length:Int)) - 0) then
     if (((0+((((t14.take (Int.toNat (((t14).length:Int) - 1))).drop (Int.toNat 0)):List D).length:Int))+((((t17.take (Int.toNat (((t17).length:Int) - 1))).drop (Int.toNat 0)):List D).length:Int)) - 0) > 0 then
      if 0 < (((0+((((t14.take (Int.toNat (((t14).length:Int) - 1))).drop (Int.toNat 0)):List D).length:Int))+((((t17.take (Int.toNat (((t17).length:Int) - 1))).drop (Int.toNat 0)):List D).length:Int)) - 0)∧Q1 16 (Int.toNat (((0+((((t14.take (Int.toNat (((t14).length:Int) - 1))).drop (Int.toNat 0)):List D).length:Int))+((((t17.take (Int.toNat (((t17).length:Int) - 1))).drop (Int.toNat 0)):List D).length:Int)) - 0)) then
      if (0:Int)≤0∧0≤(((List.replicate (Int.toNat (((0+((((t14.take (Int.toNat (((t14).length:Int) - 1))).drop (Int.toNat 0)):List D).length:Int))+((((t17.take (Int.toNat (((t17).length:Int) - 1))).drop (Int.toNat 0)):List D).length:Int)) - 0)) (.agg [I 0,I 0]:D)):List D).length:Int) then
      if Q1 16 (0+(((t14.take (Int.toNat (((t14).length:Int) - 1))).drop (Int.toNat 0)):List D).length) then
      if Q1 16 ((((t14.take (Int.toNat (((t14).length:Int) - 1))).drop (Int.toNat 0)):List D).length+(((t17.take (Int.toNat (((t17).length:Int) - 1))).drop (Int.toNat 0)):List D).length) then
      (Qs n (decide ((((((t14.take (Int.toNat (((t14).length:Int) - 1))).drop (Int.toNat 0))++(((t17.take (Int.toNat (((t17).length:Int) - 1))).drop (Int.toNat 0)):List D)):List D).length:Int) < 3)) 17).bind fun t32 =>
      (Qs n (decide ((((((t14.take (Int.toNat (((t14).length:Int) - 1))).drop (Int.toNat 0))++(((t17.take (Int.toNat (((t17).length:Int) - 1))).drop (Int.toNat 0)):List D)):List D).length:Int) > 16)) 5).bind fun t33 =>
      (Qv n ([I t32,I t33])).bind fun t34 =>
      if t34=0 then
       some ((((t14.take (Int.toNat (((t14).length:Int) - 1))).drop (Int.toNat 0))++(((t17.take (Int.toNat (((t17).length:Int) - 1))).drop (Int.toNat 0)):List D)),0)
      else
      some ([],t34)
      else none
      else none
      else none
      else none
     else
     if Q1 16 (0+(((t14.take (Int.toNat (((t14).length:Int) - 1))).drop (Int.toNat 0)):List D).length) then
     if Qu ((t14.take (Int.toNat (((t14).length:Int) - 1))).drop (Int.toNat 0))=true then
      if Q1 16 (0+(((t17.take (Int.toNat (((t17).length:Int) - 1))).drop (Int.toNat 0)):List D).length) then
      if Qu ((t17.take (Int.toNat (((t17).length:Int) - 1))).drop (Int.toNat 0))=true then
       (Wo n).bind fun t32 =>
       (Wn n).bind fun t33 =>
       (Qv n ([I t32,I t33])).bind fun t34 =>
       if t34=0 then
        some ([],0)
       else
       some ([],t34)
      else
      (Qs n (decide (((((t17.take (Int.toNat (((t17).length:Int) - 1))).drop (Int.toNat 0)):List D).length:Int) < 3)) 17).bind fun t32 =>
      (Qs n (decide (((((t17.take (Int.toNat (((t17).length:Int) - 1))).drop (Int.toNat 0)):List D).length:Int) > 16)) 5).bind fun t33 =>
      (Qv n ([I t32,I t33])).bind fun t34 =>
      if t34=0 then
       some (((t17.take (Int.toNat (((t17).length:Int) - 1))).drop (Int.toNat 0)),0)
      else
      some ([],t34)
      else none
     else
     if Q1 16 ((((t14.take (Int.toNat (((t14).length:Int) - 1))).drop (Int.toNat 0)):List D).length+(((t17.take (Int.toNat (((t17).length:Int) - 1))).drop (Int.toNat 0)):List D).length) then
     (Qs n (decide ((((((t14.take (Int.toNat (((t14).length:Int) - 1))).drop (Int.toNat 0))++(((t17.take (Int.toNat (((t17).length:Int) - 1))).drop (Int.toNat 0)):List D)):List D).length:Int) < 3)) 17).bind fun t31 =>
     (Qs n (decide ((((((t14.take (Int.toNat (((t14).length:Int) - 1))).drop (Int.toNat 0))++(((t17.take (Int.toNat (((t17).length:Int) - 1))).drop (Int.toNat 0)):List D)):List D).length:Int) > 16)) 5).bind fun t32 =>
     (Qv n ([I t31,I t32])).bind fun t33 =>
     if t33=0 then
      some ((((t14.take (Int.toNat (((t14).length:Int) - 1))).drop (Int.toNat 0))++(((t17.take (Int.toNat (((t17).length:Int) - 1))).drop (Int.toNat 0)):List D)),0)
     else
     some ([],t33)
     else none
     else none
     else none
     else none
     else none
     else none
     else none
     else none
     else none
     else none)
   else none
   else none
  else
  some ([],t6)
 else
 some ([],t3)
theorem Y4 {n:Nat} {a0:List D} {r:List D×Int} (h:WN n a0=some r):Computes cx 6 [.lst false 2 a0] (.tup [.lst false 2 r.1,I r.2]):=by
 unfold WN at h
 obtain ⟨t1,h1,h⟩:=Qi h;obtain ⟨t2,h2,h⟩:=Qi h;obtain ⟨t3,h3,h⟩:=Qi h
 by_cases h4:t3=0
 ·replace h:=QN h h4
  obtain ⟨t5,h5,h⟩:=Qi h;obtain ⟨t6,h6,h⟩:=Qi h
  by_cases h7:t6=0
  ·replace h:=QN h h7
   by_cases h8:Qu a0=true
   ·replace h:=QN h h8
    cases h
   ·replace h:=QO h h8
    obtain ⟨h9,h⟩:=QK h;obtain ⟨h10,h⟩:=QK h;obtain ⟨t11,h11,h⟩:=Qi h
    by_cases h12:((t11).length:Int) < 2
    ·replace h:=QN h h12
     obtain ⟨t13,h13,h⟩:=Qi h;obtain ⟨h14,h⟩:=QK h;obtain ⟨t15,h15,h⟩:=Qi h;obtain ⟨t16,h16,h⟩:=Qi h;obtain ⟨h17,h⟩:=QK h;obtain ⟨h18,h⟩:=QK h;obtain ⟨h19,h⟩:=QK h;obtain ⟨h20,h⟩:=QK h;obtain ⟨h21,h⟩:=QK h
     by_cases h22:(0+((((t13.take (Int.toNat (((t13).length:Int) - 1))).drop (Int.toNat 0)):List D).length:Int)) < 0
     ·replace h:=QN h h22
      cases h
     ·replace h:=QO h h22
      obtain ⟨h23,h⟩:=QK h
      by_cases h24:((0+((((t13.take (Int.toNat (((t13).length:Int) - 1))).drop (Int.toNat 0)):List D).length:Int))+((((t16.take (Int.toNat (((t16).length:Int) - 1))).drop (Int.toNat 0)):List D).length:Int)) < 0
      ·replace h:=QN h h24
       cases h
      ·replace h:=QO h h24
       obtain ⟨h25,h⟩:=QK h
       by_cases h26:(((0+((((t13.take (Int.toNat (((t13).length:Int) - 1))).drop (Int.toNat 0)):List D).length:Int))+((((t16.take (Int.toNat (((t16).length:Int) - 1))).drop (Int.toNat 0)):List D).length:Int)) - 0) > 0
       ·replace h:=QN h h26
        obtain ⟨h27,h⟩:=QK h;obtain ⟨h28,h⟩:=QK h;obtain ⟨h29,h⟩:=QK h;obtain ⟨h30,h⟩:=QK h;obtain ⟨t31,h31,h⟩:=Qi h;obtain ⟨t32,h32,h⟩:=Qi h;obtain ⟨t33,h33,h⟩:=Qi h
        by_cases h34:t33=0
        ·replace h:=QN h h34
         replace h:=Option.some.inj h
         subst h
         exact run (zC a0 t1 t2 t3 t5 t6 t11 t13 t15 t16 t31 t32 t33) ⟨(nef h34),((Qg h33).le (.cons (.full _ _ _) (.nil)) (.refl _)),(Qf h32),(Qf h31),(by unfold Qa;omega),(ro 46 h30),(by unfold Qa;omega),(ro 46 h29),h28,⟨h27.1,(UM (b:=16) (by kernel_rfl) (by decide) h27.2)⟩,(decide_eq_true h26),h25,(by unfold Qa;omega),(decide_eq_false h24),(by unfold Qa;omega),(decide_eq_false h24),h23,(by unfold Qa;omega),(decide_eq_false h22),h21,h20,h19,h18,h17,(Qh ZM h16),(Qh ZN h15),h14,(Qh ZO h13),(decide_eq_true h12),(Qo h11),(YY h10),(QD h8),(ro 46 h9),(by intro e;rw [e] at h8;exact h8 rfl),(nef h7),(Qg h6),(Qt h5),(nef h4),((Qg h3).le (.cons (.full _ _ _) (.nil)) (.refl _)),(Qf h2),(Qf h1),trivial⟩
        ·replace h:=QO h h34
         replace h:=Option.some.inj h
         subst h
         exact (run (zB a0 t1 t2 t3 t5 t6 t11 t13 t15 t16 t31 t32 t33) ⟨(net h34),((Qg h33).le (.cons (.full _ _ _) (.nil)) (.refl _)),(Qf h32),(Qf h31),(by unfold Qa;omega),(ro 46 h30),(by unfold Qa;omega),(ro 46 h29),h28,⟨h27.1,(UM (b:=16) (by kernel_rfl) (by decide) h27.2)⟩,(decide_eq_true h26),h25,(by unfold Qa;omega),(decide_eq_false h24),(by unfold Qa;omega),(decide_eq_false h24),h23,(by unfold Qa;omega),(decide_eq_false h22),h21,h20,h19,h18,h17,(Qh ZM h16),(Qh ZN h15),h14,(Qh ZO h13),(decide_eq_true h12),(Qo h11),(YY h10),(QD h8),(ro 46 h9),(by intro e;rw [e] at h8;exact h8 rfl),(nef h7),(Qg h6),(Qt h5),(nef h4),((Qg h3).le (.cons (.full _ _ _) (.nil)) (.refl _)),(Qf h2),(Qf h1),trivial⟩).le (LEs.refl _) (.tups (.cons (.nilF) (.cons (.refl _) (.nil))))
       ·replace h:=QO h h26
        obtain ⟨h27,h⟩:=QK h
        by_cases h28:Qu ((t13.take (Int.toNat (((t13).length:Int) - 1))).drop (Int.toNat 0))=true
        ·replace h:=QN h h28
         obtain ⟨h29,h⟩:=QK h
         by_cases h30:Qu ((t16.take (Int.toNat (((t16).length:Int) - 1))).drop (Int.toNat 0))=true
         ·replace h:=QN h h30
          obtain ⟨t31,h31,h⟩:=Qi h;obtain ⟨t32,h32,h⟩:=Qi h;obtain ⟨t33,h33,h⟩:=Qi h
          by_cases h34:t33=0
          ·replace h:=QN h h34
           replace h:=Option.some.inj h
           subst h
           exact (run (zA a0 t1 t2 t3 t5 t6 t11 t13 t15 t16 t31 t32 t33) ⟨(nef h34),((Qg h33).le (.cons (.full _ _ _) (.nil)) (.refl _)),(WC h32),(WD h31),(by unfold Qa;omega),h30,(ro 46 h29),(by unfold Qa;omega),h28,(ro 46 h27),(decide_eq_false h26),h25,(by unfold Qa;omega),(decide_eq_false h24),(by unfold Qa;omega),(decide_eq_false h24),h23,(by unfold Qa;omega),(decide_eq_false h22),h21,h20,h19,h18,h17,(Qh ZM h16),(Qh ZN h15),h14,(Qh ZO h13),(decide_eq_true h12),(Qo h11),(YY h10),(QD h8),(ro 46 h9),(by intro e;rw [e] at h8;exact h8 rfl),(nef h7),(Qg h6),(Qt h5),(nef h4),((Qg h3).le (.cons (.full _ _ _) (.nil)) (.refl _)),(Qf h2),(Qf h1),trivial⟩).le (LEs.refl _) (.tups (.cons (.full _ _ _) (.cons (.refl _) (.nil))))
          ·replace h:=QO h h34
           replace h:=Option.some.inj h
           subst h
           exact (run (zz a0 t1 t2 t3 t5 t6 t11 t13 t15 t16 t31 t32 t33) ⟨(net h34),((Qg h33).le (.cons (.full _ _ _) (.nil)) (.refl _)),(WC h32),(WD h31),(by unfold Qa;omega),h30,(ro 46 h29),(by unfold Qa;omega),h28,(ro 46 h27),(decide_eq_false h26),h25,(by unfold Qa;omega),(decide_eq_false h24),(by unfold Qa;omega),(decide_eq_false h24),h23,(by unfold Qa;omega),(decide_eq_false h22),h21,h20,h19,h18,h17,(Qh ZM h16),(Qh ZN h15),h14,(Qh ZO h13),(decide_eq_true h12),(Qo h11),(YY h10),(QD h8),(ro 46 h9),(by intro e;rw [e] at h8;exact h8 rfl),(nef h7),(Qg h6),(Qt h5),(nef h4),((Qg h3).le (.cons (.full _ _ _) (.nil)) (.refl _)),(Qf h2),(Qf h1),trivial⟩).le (LEs.refl _) (.tups (.cons (.nilF) (.cons (.refl _) (.nil))))
         ·replace h:=QO h h30
          obtain ⟨t31,h31,h⟩:=Qi h;obtain ⟨t32,h32,h⟩:=Qi h;obtain ⟨t33,h33,h⟩:=Qi h
          by_cases h34:t33=0
          ·replace h:=QN h h34
           replace h:=Option.some.inj h
           subst h
           exact run (zy a0 t1 t2 t3 t5 t6 t11 t13 t15 t16 t31 t32 t33) ⟨(nef h34),((Qg h33).le (.cons (.full _ _ _) (.nil)) (.refl _)),(Qf h32),(Qf h31),(by unfold Qa;omega),(QD h30),(ro 46 h29),(by unfold Qa;omega),h28,(ro 46 h27),(decide_eq_false h26),h25,(by unfold Qa;omega),(decide_eq_false h24),(by unfold Qa;omega),(decide_eq_false h24),h23,(by unfold Qa;omega),(decide_eq_false h22),h21,h20,h19,h18,h17,(Qh ZM h16),(Qh ZN h15),h14,(Qh ZO h13),(decide_eq_true h12),(Qo h11),(YY h10),(QD h8),(ro 46 h9),(by intro e;rw [e] at h8;exact h8 rfl),(nef h7),(Qg h6),(Qt h5),(nef h4),((Qg h3).le (.cons (.full _ _ _) (.nil)) (.refl _)),(Qf h2),(Qf h1),trivial⟩
          ·replace h:=QO h h34
           replace h:=Option.some.inj h
           subst h
           exact (run (zx a0 t1 t2 t3 t5 t6 t11 t13 t15 t16 t31 t32 t33) ⟨(net h34),((Qg h33).le (.cons (.full _ _ _) (.nil)) (.refl _)),(Qf h32),(Qf h31),(by unfold Qa;omega),(QD h30),(ro 46 h29),(by unfold Qa;omega),h28,(ro 46 h27),(decide_eq_false h26),h25,(by unfold Qa;omega),(decide_eq_false h24),(by unfold Qa;omega),(decide_eq_false h24),h23,(by unfold Qa;omega),(decide_eq_false h22),h21,h20,h19,h18,h17,(Qh ZM h16),(Qh ZN h15),h14,(Qh ZO h13),(decide_eq_true h12),(Qo h11),(YY h10),(QD h8),(ro 46 h9),(by intro e;rw [e] at h8;exact h8 rfl),(nef h7),(Qg h6),(Qt h5),(nef h4),((Qg h3).le (.cons (.full _ _ _) (.nil)) (.refl _)),(Qf h2),(Qf h1),trivial⟩).le (LEs.refl _) (.tups (.cons (.nilF) (.cons (.refl _) (.nil))))
        ·replace h:=QO h h28
         obtain ⟨h29,h⟩:=QK h;obtain ⟨t30,h30,h⟩:=Qi h;obtain ⟨t31,h31,h⟩:=Qi h;obtain ⟨t32,h32,h⟩:=Qi h
         by_cases h33:t32=0
         ·replace h:=QN h h33
          replace h:=Option.some.inj h
          subst h
          exact run (zw a0 t1 t2 t3 t5 t6 t11 t13 t15 t16 t30 t31 t32) ⟨(nef h33),((Qg h32).le (.cons (.full _ _ _) (.nil)) (.refl _)),(Qf h31),(Qf h30),(by unfold Qa;omega),(ro 46 h29),(by unfold Qa;omega),(QD h28),(ro 46 h27),(decide_eq_false h26),h25,(by unfold Qa;omega),(decide_eq_false h24),(by unfold Qa;omega),(decide_eq_false h24),h23,(by unfold Qa;omega),(decide_eq_false h22),h21,h20,h19,h18,h17,(Qh ZM h16),(Qh ZN h15),h14,(Qh ZO h13),(decide_eq_true h12),(Qo h11),(YY h10),(QD h8),(ro 46 h9),(by intro e;rw [e] at h8;exact h8 rfl),(nef h7),(Qg h6),(Qt h5),(nef h4),((Qg h3).le (.cons (.full _ _ _) (.nil)) (.refl _)),(Qf h2),(Qf h1),trivial⟩
         ·replace h:=QO h h33
          replace h:=Option.some.inj h
          subst h
          exact (run (qb a0 t1 t2 t3 t5 t6 t11 t13 t15 t16 t30 t31 t32) ⟨(net h33),((Qg h32).le (.cons (.full _ _ _) (.nil)) (.refl _)),(Qf h31),(Qf h30),(by unfold Qa;omega),(ro 46 h29),(by unfold Qa;omega),(QD h28),(ro 46 h27),(decide_eq_false h26),h25,(by unfold Qa;omega),(decide_eq_false h24),(by unfold Qa;omega),(decide_eq_false h24),h23,(by unfold Qa;omega),(decide_eq_false h22),h21,h20,h19,h18,h17,(Qh ZM h16),(Qh ZN h15),h14,(Qh ZO h13),(decide_eq_true h12),(Qo h11),(YY h10),(QD h8),(ro 46 h9),(by intro e;rw [e] at h8;exact h8 rfl),(nef h7),(Qg h6),(Qt h5),(nef h4),((Qg h3).le (.cons (.full _ _ _) (.nil)) (.refl _)),(Qf h2),(Qf h1),trivial⟩).le (LEs.refl _) (.tups (.cons (.nilF) (.cons (.refl _) (.nil))))
    ·replace h:=QO h h12
     obtain ⟨t13,h13,h⟩:=Qi h
     rcases t13 with t13 | t13
     ·obtain ⟨t14,h14,h⟩:=Qi h;obtain ⟨h15,h⟩:=QK h;obtain ⟨t16,h16,h⟩:=Qi h;obtain ⟨t17,h17,h⟩:=Qi h;obtain ⟨h18,h⟩:=QK h;obtain ⟨h19,h⟩:=QK h;obtain ⟨h20,h⟩:=QK h;obtain ⟨h21,h⟩:=QK h;obtain ⟨h22,h⟩:=QK h
      by_cases h23:(0+((((t14.take (Int.toNat (((t14).length:Int) - 1))).drop (Int.toNat 0)):List D).length:Int)) < 0
      ·replace h:=QN h h23
       cases h
      ·replace h:=QO h h23
       obtain ⟨h24,h⟩:=QK h
       by_cases h25:((0+((((t14.take (Int.toNat (((t14).length:Int) - 1))).drop (Int.toNat 0)):List D).length:Int))+((((t17.take (Int.toNat (((t17).length:Int) - 1))).drop (Int.toNat 0)):List D).length:Int)) < 0
       ·replace h:=QN h h25
        cases h
       ·replace h:=QO h h25
        obtain ⟨h26,h⟩:=QK h
        by_cases h27:(((0+((((t14.take (Int.toNat (((t14).length:Int) - 1))).drop (Int.toNat 0)):List D).length:Int))+((((t17.take (Int.toNat (((t17).length:Int) - 1))).drop (Int.toNat 0)):List D).length:Int)) - 0) > 0
        ·replace h:=QN h h27
         obtain ⟨h28,h⟩:=QK h;obtain ⟨h29,h⟩:=QK h;obtain ⟨h30,h⟩:=QK h;obtain ⟨h31,h⟩:=QK h;obtain ⟨t32,h32,h⟩:=Qi h;obtain ⟨t33,h33,h⟩:=Qi h;obtain ⟨t34,h34,h⟩:=Qi h
         by_cases h35:t34=0
         ·replace h:=QN h h35
          replace h:=Option.some.inj h
          subst h
          exact run (qa a0 t1 t2 t3 t5 t6 t11 t13 t14 t16 t17 t32 t33 t34) ⟨(nef h35),((Qg h34).le (.cons (.full _ _ _) (.nil)) (.refl _)),(Qf h33),(Qf h32),(by unfold Qa;omega),(ro 46 h31),(by unfold Qa;omega),(ro 46 h30),h29,⟨h28.1,(UM (b:=16) (by kernel_rfl) (by decide) h28.2)⟩,(decide_eq_true h27),h26,(by unfold Qa;omega),(decide_eq_false h25),(by unfold Qa;omega),(decide_eq_false h25),h24,(by unfold Qa;omega),(decide_eq_false h23),h22,h21,h20,h19,h18,(Qh Zt h17),(Qh Zu h16),h15,(Qh Zv h14),(Qh QG h13),(decide_eq_false h12),(Qo h11),(YY h10),(QD h8),(ro 46 h9),(by intro e;rw [e] at h8;exact h8 rfl),(nef h7),(Qg h6),(Qt h5),(nef h4),((Qg h3).le (.cons (.full _ _ _) (.nil)) (.refl _)),(Qf h2),(Qf h1),trivial⟩
         ·replace h:=QO h h35
          replace h:=Option.some.inj h
          subst h
          exact (run (E9 a0 t1 t2 t3 t5 t6 t11 t13 t14 t16 t17 t32 t33 t34) ⟨(net h35),((Qg h34).le (.cons (.full _ _ _) (.nil)) (.refl _)),(Qf h33),(Qf h32),(by unfold Qa;omega),(ro 46 h31),(by unfold Qa;omega),(ro 46 h30),h29,⟨h28.1,(UM (b:=16) (by kernel_rfl) (by decide) h28.2)⟩,(decide_eq_true h27),h26,(by unfold Qa;omega),(decide_eq_false h25),(by unfold Qa;omega),(decide_eq_false h25),h24,(by unfold Qa;omega),(decide_eq_false h23),h22,h21,h20,h19,h18,(Qh Zt h17),(Qh Zu h16),h15,(Qh Zv h14),(Qh QG h13),(decide_eq_false h12),(Qo h11),(YY h10),(QD h8),(ro 46 h9),(by intro e;rw [e] at h8;exact h8 rfl),(nef h7),(Qg h6),(Qt h5),(nef h4),((Qg h3).le (.cons (.full _ _ _) (.nil)) (.refl _)),(Qf h2),(Qf h1),trivial⟩).le (LEs.refl _) (.tups (.cons (.nilF) (.cons (.refl _) (.nil))))
        ·replace h:=QO h h27
         obtain ⟨h28,h⟩:=QK h
         by_cases h29:Qu ((t14.take (Int.toNat (((t14).length:Int) - 1))).drop (Int.toNat 0))=true
         ·replace h:=QN h h29
          obtain ⟨h30,h⟩:=QK h
          by_cases h31:Qu ((t17.take (Int.toNat (((t17).length:Int) - 1))).drop (Int.toNat 0))=true
          ·replace h:=QN h h31
           obtain ⟨t32,h32,h⟩:=Qi h;obtain ⟨t33,h33,h⟩:=Qi h;obtain ⟨t34,h34,h⟩:=Qi h
           by_cases h35:t34=0
           ·replace h:=QN h h35
            replace h:=Option.some.inj h
            subst h
            exact (run (E8 a0 t1 t2 t3 t5 t6 t11 t13 t14 t16 t17 t32 t33 t34) ⟨(nef h35),((Qg h34).le (.cons (.full _ _ _) (.nil)) (.refl _)),(WC h33),(WD h32),(by unfold Qa;omega),h31,(ro 46 h30),(by unfold Qa;omega),h29,(ro 46 h28),(decide_eq_false h27),h26,(by unfold Qa;omega),(decide_eq_false h25),(by unfold Qa;omega),(decide_eq_false h25),h24,(by unfold Qa;omega),(decide_eq_false h23),h22,h21,h20,h19,h18,(Qh Zt h17),(Qh Zu h16),h15,(Qh Zv h14),(Qh QG h13),(decide_eq_false h12),(Qo h11),(YY h10),(QD h8),(ro 46 h9),(by intro e;rw [e] at h8;exact h8 rfl),(nef h7),(Qg h6),(Qt h5),(nef h4),((Qg h3).le (.cons (.full _ _ _) (.nil)) (.refl _)),(Qf h2),(Qf h1),trivial⟩).le (LEs.refl _) (.tups (.cons (.full _ _ _) (.cons (.refl _) (.nil))))
           ·replace h:=QO h h35
            replace h:=Option.some.inj h
            subst h
            exact (run (E7 a0 t1 t2 t3 t5 t6 t11 t13 t14 t16 t17 t32 t33 t34) ⟨(net h35),((Qg h34).le (.cons (.full _ _ _) (.nil)) (.refl _)),(WC h33),(WD h32),(by unfold Qa;omega),h31,(ro 46 h30),(by unfold Qa;omega),h29,(ro 46 h28),(decide_eq_false h27),h26,(by unfold Qa;omega),(decide_eq_false h25),(by unfold Qa;omega),(decide_eq_false h25),h24,(by unfold Qa;omega),(decide_eq_false h23),h22,h21,h20,h19,h18,(Qh Zt h17),(Qh Zu h16),h15,(Qh Zv h14),(Qh QG h13),(decide_eq_false h12),(Qo h11),(YY h10),(QD h8),(ro 46 h9),(by intro e;rw [e] at h8;exact h8 rfl),(nef h7),(Qg h6),(Qt h5),(nef h4),((Qg h3).le (.cons (.full _ _ _) (.nil)) (.refl _)),(Qf h2),(Qf h1),trivial⟩).le (LEs.refl _) (.tups (.cons (.nilF) (.cons (.refl _) (.nil))))
          ·replace h:=QO h h31
           obtain ⟨t32,h32,h⟩:=Qi h;obtain ⟨t33,h33,h⟩:=Qi h;obtain ⟨t34,h34,h⟩:=Qi h
           by_cases h35:t34=0
           ·replace h:=QN h h35
            replace h:=Option.some.inj h
            subst h
            exact run (E6 a0 t1 t2 t3 t5 t6 t11 t13 t14 t16 t17 t32 t33 t34) ⟨(nef h35),((Qg h34).le (.cons (.full _ _ _) (.nil)) (.refl _)),(Qf h33),(Qf h32),(by unfold Qa;omega),(QD h31),(ro 46 h30),(by unfold Qa;omega),h29,(ro 46 h28),(decide_eq_false h27),h26,(by unfold Qa;omega),(decide_eq_false h25),(by unfold Qa;omega),(decide_eq_false h25),h24,(by unfold Qa;omega),(decide_eq_false h23),h22,h21,h20,h19,h18,(Qh Zt h17),(Qh Zu h16),h15,(Qh Zv h14),(Qh QG h13),(decide_eq_false h12),(Qo h11),(YY h10),(QD h8),(ro 46 h9),(by intro e;rw [e] at h8;exact h8 rfl),(nef h7),(Qg h6),(Qt h5),(nef h4),((Qg h3).le (.cons (.full _ _ _) (.nil)) (.refl _)),(Qf h2),(Qf h1),trivial⟩
           ·replace h:=QO h h35
            replace h:=Option.some.inj h
            subst h
            exact (run (E5 a0 t1 t2 t3 t5 t6 t11 t13 t14 t16 t17 t32 t33 t34) ⟨(net h35),((Qg h34).le (.cons (.full _ _ _) (.nil)) (.refl _)),(Qf h33),(Qf h32),(by unfold Qa;omega),(QD h31),(ro 46 h30),(by unfold Qa;omega),h29,(ro 46 h28),(decide_eq_false h27),h26,(by unfold Qa;omega),(decide_eq_false h25),(by unfold Qa;omega),(decide_eq_false h25),h24,(by unfold Qa;omega),(decide_eq_false h23),h22,h21,h20,h19,h18,(Qh Zt h17),(Qh Zu h16),h15,(Qh Zv h14),(Qh QG h13),(decide_eq_false h12),(Qo h11),(YY h10),(QD h8),(ro 46 h9),(by intro e;rw [e] at h8;exact h8 rfl),(nef h7),(Qg h6),(Qt h5),(nef h4),((Qg h3).le (.cons (.full _ _ _) (.nil)) (.refl _)),(Qf h2),(Qf h1),trivial⟩).le (LEs.refl _) (.tups (.cons (.nilF) (.cons (.refl _) (.nil))))
         ·replace h:=QO h h29
          obtain ⟨h30,h⟩:=QK h;obtain ⟨t31,h31,h⟩:=Qi h;obtain ⟨t32,h32,h⟩:=Qi h;obtain ⟨t33,h33,h⟩:=Qi h
          by_cases h34:t33=0
          ·replace h:=QN h h34
           replace h:=Option.some.inj h
           subst h
           exact run (E4 a0 t1 t2 t3 t5 t6 t11 t13 t14 t16 t17 t31 t32 t33) ⟨(nef h34),((Qg h33).le (.cons (.full _ _ _) (.nil)) (.refl _)),(Qf h32),(Qf h31),(by unfold Qa;omega),(ro 46 h30),(by unfold Qa;omega),(QD h29),(ro 46 h28),(decide_eq_false h27),h26,(by unfold Qa;omega),(decide_eq_false h25),(by unfold Qa;omega),(decide_eq_false h25),h24,(by unfold Qa;omega),(decide_eq_false h23),h22,h21,h20,h19,h18,(Qh Zt h17),(Qh Zu h16),h15,(Qh Zv h14),(Qh QG h13),(decide_eq_false h12),(Qo h11),(YY h10),(QD h8),(ro 46 h9),(by intro e;rw [e] at h8;exact h8 rfl),(nef h7),(Qg h6),(Qt h5),(nef h4),((Qg h3).le (.cons (.full _ _ _) (.nil)) (.refl _)),(Qf h2),(Qf h1),trivial⟩
          ·replace h:=QO h h34
           replace h:=Option.some.inj h
           subst h
           exact (run (E3 a0 t1 t2 t3 t5 t6 t11 t13 t14 t16 t17 t31 t32 t33) ⟨(net h34),((Qg h33).le (.cons (.full _ _ _) (.nil)) (.refl _)),(Qf h32),(Qf h31),(by unfold Qa;omega),(ro 46 h30),(by unfold Qa;omega),(QD h29),(ro 46 h28),(decide_eq_false h27),h26,(by unfold Qa;omega),(decide_eq_false h25),(by unfold Qa;omega),(decide_eq_false h25),h24,(by unfold Qa;omega),(decide_eq_false h23),h22,h21,h20,h19,h18,(Qh Zt h17),(Qh Zu h16),h15,(Qh Zv h14),(Qh QG h13),(decide_eq_false h12),(Qo h11),(YY h10),(QD h8),(ro 46 h9),(by intro e;rw [e] at h8;exact h8 rfl),(nef h7),(Qg h6),(Qt h5),(nef h4),((Qg h3).le (.cons (.full _ _ _) (.nil)) (.refl _)),(Qf h2),(Qf h1),trivial⟩).le (LEs.refl _) (.tups (.cons (.nilF) (.cons (.refl _) (.nil))))
     ·obtain ⟨t14,h14,h⟩:=Qi h;obtain ⟨h15,h⟩:=QK h;obtain ⟨t16,h16,h⟩:=Qi h;obtain ⟨t17,h17,h⟩:=Qi h;obtain ⟨h18,h⟩:=QK h;obtain ⟨h19,h⟩:=QK h;obtain ⟨h20,h⟩:=QK h;obtain ⟨h21,h⟩:=QK h;obtain ⟨h22,h⟩:=QK h
      by_cases h23:(0+((((t14.take (Int.toNat (((t14).length:Int) - 1))).drop (Int.toNat 0)):List D).length:Int)) < 0
      ·replace h:=QN h h23
       cases h
      ·replace h:=QO h h23
       obtain ⟨h24,h⟩:=QK h
       by_cases h25:((0+((((t14.take (Int.toNat (((t14).length:Int) - 1))).drop (Int.toNat 0)):List D).length:Int))+((((t17.take (Int.toNat (((t17).length:Int) - 1))).drop (Int.toNat 0)):List D).length:Int)) < 0
       ·replace h:=QN h h25
        cases h
       ·replace h:=QO h h25
        obtain ⟨h26,h⟩:=QK h
        by_cases h27:(((0+((((t14.take (Int.toNat (((t14).length:Int) - 1))).drop (Int.toNat 0)):List D).length:Int))+((((t17.take (Int.toNat (((t17).length:Int) - 1))).drop (Int.toNat 0)):List D).length:Int)) - 0) > 0
        ·replace h:=QN h h27
         obtain ⟨h28,h⟩:=QK h;obtain ⟨h29,h⟩:=QK h;obtain ⟨h30,h⟩:=QK h;obtain ⟨h31,h⟩:=QK h;obtain ⟨t32,h32,h⟩:=Qi h;obtain ⟨t33,h33,h⟩:=Qi h;obtain ⟨t34,h34,h⟩:=Qi h
         by_cases h35:t34=0
         ·replace h:=QN h h35
          replace h:=Option.some.inj h
          subst h
          exact run (E2 a0 t1 t2 t3 t5 t6 t11 t14 t16 t17 t32 t33 t34) ⟨(nef h35),((Qg h34).le (.cons (.full _ _ _) (.nil)) (.refl _)),(Qf h33),(Qf h32),(by unfold Qa;omega),(ro 46 h31),(by unfold Qa;omega),(ro 46 h30),h29,⟨h28.1,(UM (b:=16) (by kernel_rfl) (by decide) h28.2)⟩,(decide_eq_true h27),h26,(by unfold Qa;omega),(decide_eq_false h25),(by unfold Qa;omega),(decide_eq_false h25),h24,(by unfold Qa;omega),(decide_eq_false h23),h22,h21,h20,h19,h18,(Qh Zq h17),(Qh Zr h16),h15,(Qh Zs h14),(Qh QG h13),(decide_eq_false h12),(Qo h11),(YY h10),(QD h8),(ro 46 h9),(by intro e;rw [e] at h8;exact h8 rfl),(nef h7),(Qg h6),(Qt h5),(nef h4),((Qg h3).le (.cons (.full _ _ _) (.nil)) (.refl _)),(Qf h2),(Qf h1),trivial⟩
         ·replace h:=QO h h35
          replace h:=Option.some.inj h
          subst h
          exact (run (E1 a0 t1 t2 t3 t5 t6 t11 t14 t16 t17 t32 t33 t34) ⟨(net h35),((Qg h34).le (.cons (.full _ _ _) (.nil)) (.refl _)),(Qf h33),(Qf h32),(by unfold Qa;omega),(ro 46 h31),(by unfold Qa;omega),(ro 46 h30),h29,⟨h28.1,(UM (b:=16) (by kernel_rfl) (by decide) h28.2)⟩,(decide_eq_true h27),h26,(by unfold Qa;omega),(decide_eq_false h25),(by unfold Qa;omega),(decide_eq_false h25),h24,(by unfold Qa;omega),(decide_eq_false h23),h22,h21,h20,h19,h18,(Qh Zq h17),(Qh Zr h16),h15,(Qh Zs h14),(Qh QG h13),(decide_eq_false h12),(Qo h11),(YY h10),(QD h8),(ro 46 h9),(by intro e;rw [e] at h8;exact h8 rfl),(nef h7),(Qg h6),(Qt h5),(nef h4),((Qg h3).le (.cons (.full _ _ _) (.nil)) (.refl _)),(Qf h2),(Qf h1),trivial⟩).le (LEs.refl _) (.tups (.cons (.nilF) (.cons (.refl _) (.nil))))
        ·replace h:=QO h h27
         obtain ⟨h28,h⟩:=QK h
         by_cases h29:Qu ((t14.take (Int.toNat (((t14).length:Int) - 1))).drop (Int.toNat 0))=true
         ·replace h:=QN h h29
          obtain ⟨h30,h⟩:=QK h
          by_cases h31:Qu ((t17.take (Int.toNat (((t17).length:Int) - 1))).drop (Int.toNat 0))=true
          ·replace h:=QN h h31
           obtain ⟨t32,h32,h⟩:=Qi h;obtain ⟨t33,h33,h⟩:=Qi h;obtain ⟨t34,h34,h⟩:=Qi h
           by_cases h35:t34=0
           ·replace h:=QN h h35
            replace h:=Option.some.inj h
            subst h
            exact (run (E0 a0 t1 t2 t3 t5 t6 t11 t14 t16 t17 t32 t33 t34) ⟨(nef h35),((Qg h34).le (.cons (.full _ _ _) (.nil)) (.refl _)),(WC h33),(WD h32),(by unfold Qa;omega),h31,(ro 46 h30),(by unfold Qa;omega),h29,(ro 46 h28),(decide_eq_false h27),h26,(by unfold Qa;omega),(decide_eq_false h25),(by unfold Qa;omega),(decide_eq_false h25),h24,(by unfold Qa;omega),(decide_eq_false h23),h22,h21,h20,h19,h18,(Qh Zq h17),(Qh Zr h16),h15,(Qh Zs h14),(Qh QG h13),(decide_eq_false h12),(Qo h11),(YY h10),(QD h8),(ro 46 h9),(by intro e;rw [e] at h8;exact h8 rfl),(nef h7),(Qg h6),(Qt h5),(nef h4),((Qg h3).le (.cons (.full _ _ _) (.nil)) (.refl _)),(Qf h2),(Qf h1),trivial⟩).le (LEs.refl _) (.tups (.cons (.full _ _ _) (.cons (.refl _) (.nil))))
           ·replace h:=QO h h35
            replace h:=Option.some.inj h
            subst h
            exact (run (EZ a0 t1 t2 t3 t5 t6 t11 t14 t16 t17 t32 t33 t34) ⟨(net h35),((Qg h34).le (.cons (.full _ _ _) (.nil)) (.refl _)),(WC h33),(WD h32),(by unfold Qa;omega),h31,(ro 46 h30),(by unfold Qa;omega),h29,(ro 46 h28),(decide_eq_false h27),h26,(by unfold Qa;omega),(decide_eq_false h25),(by unfold Qa;omega),(decide_eq_false h25),h24,(by unfold Qa;omega),(decide_eq_false h23),h22,h21,h20,h19,h18,(Qh Zq h17),(Qh Zr h16),h15,(Qh Zs h14),(Qh QG h13),(decide_eq_false h12),(Qo h11),(YY h10),(QD h8),(ro 46 h9),(by intro e;rw [e] at h8;exact h8 rfl),(nef h7),(Qg h6),(Qt h5),(nef h4),((Qg h3).le (.cons (.full _ _ _) (.nil)) (.refl _)),(Qf h2),(Qf h1),trivial⟩).le (LEs.refl _) (.tups (.cons (.nilF) (.cons (.refl _) (.nil))))
          ·replace h:=QO h h31
           obtain ⟨t32,h32,h⟩:=Qi h;obtain ⟨t33,h33,h⟩:=Qi h;obtain ⟨t34,h34,h⟩:=Qi h
           by_cases h35:t34=0
           ·replace h:=QN h h35
            replace h:=Option.some.inj h
            subst h
            exact run (EY a0 t1 t2 t3 t5 t6 t11 t14 t16 t17 t32 t33 t34) ⟨(nef h35),((Qg h34).le (.cons (.full _ _ _) (.nil)) (.refl _)),(Qf h33),(Qf h32),(by unfold Qa;omega),(QD h31),(ro 46 h30),(by unfold Qa;omega),h29,(ro 46 h28),(decide_eq_false h27),h26,(by unfold Qa;omega),(decide_eq_false h25),(by unfold Qa;omega),(decide_eq_false h25),h24,(by unfold Qa;omega),(decide_eq_false h23),h22,h21,h20,h19,h18,(Qh Zq h17),(Qh Zr h16),h15,(Qh Zs h14),(Qh QG h13),(decide_eq_false h12),(Qo h11),(YY h10),(QD h8),(ro 46 h9),(by intro e;rw [e] at h8;exact h8 rfl),(nef h7),(Qg h6),(Qt h5),(nef h4),((Qg h3).le (.cons (.full _ _ _) (.nil)) (.refl _)),(Qf h2),(Qf h1),trivial⟩
           ·replace h:=QO h h35
            replace h:=Option.some.inj h
            subst h
            exact (run (EX a0 t1 t2 t3 t5 t6 t11 t14 t16 t17 t32 t33 t34) ⟨(net h35),((Qg h34).le (.cons (.full _ _ _) (.nil)) (.refl _)),(Qf h33),(Qf h32),(by unfold Qa;omega),(QD h31),(ro 46 h30),(by unfold Qa;omega),h29,(ro 46 h28),(decide_eq_false h27),h26,(by unfold Qa;omega),(decide_eq_false h25),(by unfold Qa;omega),(decide_eq_false h25),h24,(by unfold Qa;omega),(decide_eq_false h23),h22,h21,h20,h19,h18,(Qh Zq h17),(Qh Zr h16),h15,(Qh Zs h14),(Qh QG h13),(decide_eq_false h12),(Qo h11),(YY h10),(QD h8),(ro 46 h9),(by intro e;rw [e] at h8;exact h8 rfl),(nef h7),(Qg h6),(Qt h5),(nef h4),((Qg h3).le (.cons (.full _ _ _) (.nil)) (.refl _)),(Qf h2),(Qf h1),trivial⟩).le (LEs.refl _) (.tups (.cons (.nilF) (.cons (.refl _) (.nil))))
         ·replace h:=QO h h29
          obtain ⟨h30,h⟩:=QK h;obtain ⟨t31,h31,h⟩:=Qi h;obtain ⟨t32,h32,h⟩:=Qi h;obtain ⟨t33,h33,h⟩:=Qi h
          by_cases h34:t33=0
          ·replace h:=QN h h34
           replace h:=Option.some.inj h
           subst h
           exact run (EW a0 t1 t2 t3 t5 t6 t11 t14 t16 t17 t31 t32 t33) ⟨(nef h34),((Qg h33).le (.cons (.full _ _ _) (.nil)) (.refl _)),(Qf h32),(Qf h31),(by unfold Qa;omega),(ro 46 h30),(by unfold Qa;omega),(QD h29),(ro 46 h28),(decide_eq_false h27),h26,(by unfold Qa;omega),(decide_eq_false h25),(by unfold Qa;omega),(decide_eq_false h25),h24,(by unfold Qa;omega),(decide_eq_false h23),h22,h21,h20,h19,h18,(Qh Zq h17),(Qh Zr h16),h15,(Qh Zs h14),(Qh QG h13),(decide_eq_false h12),(Qo h11),(YY h10),(QD h8),(ro 46 h9),(by intro e;rw [e] at h8;exact h8 rfl),(nef h7),(Qg h6),(Qt h5),(nef h4),((Qg h3).le (.cons (.full _ _ _) (.nil)) (.refl _)),(Qf h2),(Qf h1),trivial⟩
          ·replace h:=QO h h34
           replace h:=Option.some.inj h
           subst h
           exact (run (EV a0 t1 t2 t3 t5 t6 t11 t14 t16 t17 t31 t32 t33) ⟨(net h34),((Qg h33).le (.cons (.full _ _ _) (.nil)) (.refl _)),(Qf h32),(Qf h31),(by unfold Qa;omega),(ro 46 h30),(by unfold Qa;omega),(QD h29),(ro 46 h28),(decide_eq_false h27),h26,(by unfold Qa;omega),(decide_eq_false h25),(by unfold Qa;omega),(decide_eq_false h25),h24,(by unfold Qa;omega),(decide_eq_false h23),h22,h21,h20,h19,h18,(Qh Zq h17),(Qh Zr h16),h15,(Qh Zs h14),(Qh QG h13),(decide_eq_false h12),(Qo h11),(YY h10),(QD h8),(ro 46 h9),(by intro e;rw [e] at h8;exact h8 rfl),(nef h7),(Qg h6),(Qt h5),(nef h4),((Qg h3).le (.cons (.full _ _ _) (.nil)) (.refl _)),(Qf h2),(Qf h1),trivial⟩).le (LEs.refl _) (.tups (.cons (.nilF) (.cons (.refl _) (.nil))))
  ·replace h:=QO h h7
   replace h:=Option.some.inj h
   subst h
   exact (run (EU a0 t1 t2 t3 t5 t6) ⟨(net h7),(Qg h6),(Qt h5),(nef h4),((Qg h3).le (.cons (.full _ _ _) (.nil)) (.refl _)),(Qf h2),(Qf h1),trivial⟩).le (LEs.refl _) (.tups (.cons (.nilF) (.cons (.refl _) (.nil))))
 ·replace h:=QO h h4
  replace h:=Option.some.inj h
  subst h
  exact (run (ET a0 t1 t2 t3) ⟨(net h4),((Qg h3).le (.cons (.full _ _ _) (.nil)) (.refl _)),(Qf h2),(Qf h1),trivial⟩).le (LEs.refl _) (.tups (.cons (.nilF) (.cons (.refl _) (.nil))))
def Zf (n:Nat) (a0:Bool) (a1:Int):Option (Int) :=
 if a0=true then
  some a1
 else
 some 0
theorem Wv {n:Nat} {a0:Bool} {a1:Int} {r:Int} (h:Zf n a0 a1=some r):Computes cx 52 [B a0,I a1] (I r):=by
 unfold Zf at h
 rcases io h with ⟨h1,h⟩ | ⟨h1,h⟩
 ·obtain rfl:=oi h
  exact rf [b1] (Qc h1 Qz)
 obtain rfl:=oi h
 exact rf [b0] (Qc (QD h1) Qz)
def Wh (n:Nat) (a0:List D) (sa:(Int)):Option (((Int))⊕((Int)⊕(Unit))) :=
 if sa < ((a0).length:Int) then
  (el un_i a0 sa).bind fun ta2 =>
  if ta2=0 then
   if Qa (sa+1) then
   some (.inl (sa+1))
   else none
  else
  some (.inr (.inl ta2))
 else
 some (.inr (.inr ()))
noncomputable def X5 (a0:List D):Lp ((Int)) ((Int)⊕(Unit)):=⟨fun sa=>[(0,.d (.lst false 1 a0)),(3,.d (I sa))],fun _=>[],fun
 | (.inl e)=>.ret
 | (.inr e)=>(.exit 0),fun
 | (.inl e)=>[(2,.d (I e))]
 | (.inr e)=>[],fun _=>[]⟩
theorem Kz {n:Nat} {a0:List D} (sa:(Int)) (r) (h:Wh n a0 sa=some r):Rl (Ql cx.P 10 0) 19 0 false (X5 a0) sa r:=by
 unfold Wh at h
 rcases io h with ⟨ha1,h⟩ | ⟨ha1,h⟩
 ·obtain ⟨ta2,ha2,h⟩:=bo h
  have q:=W2 GQ ha2 (Qc (decide_eq_true ha1) Qz)
  rcases io h with ⟨ha3,h⟩ | ⟨ha3,h⟩
  ·obtain ⟨ha4,h⟩:=gd h
   cases h
   exact rn 2 [b1,.el (Gl ta2),b0] [] [0,3] [] (Qc ha4 (Qc (nef ha3) q))
  cases h
  exact rx 2 [b1,.el (Gl ta2),b1,.el (Gl ta2)] [] [2] [] (W2 GQ ha2 (Qc (net ha3) q))
 cases h
 exact rx 2 [b0] [] [] [] (Qc (decide_eq_false ha1) Qz)
def ZE (n:Nat) (a0:List D):Option (Int) :=
 (QE (Wh n a0) n 0).bind fun t1=>match t1 with
  | (.inl t1)=>(
   some t1)
  | (.inr t1)=>(
   some 0)
theorem Wd {n:Nat} {a0:List D} {r:Int} (h:ZE n a0=some r):Computes cx 10 [.lst false 1 a0] (I r):=by
 unfold ZE at h
 obtain ⟨t1,h1,h⟩:=bo h
 rcases t1 with t1 | t1
 ·obtain rfl:=oi h
  exact rf [.lp [] [0,3] [] .ret [(2,.d (I t1))] [] 27] (Qc (Qh Kz h1) Qz)
 obtain rfl:=oi h
 exact rf [.lp [] [0,3] [] (.exit 0) [] [] 27] (Qc (Qh Kz h1) Qz)
def VW (n:Nat)  : Option (Int) :=
 some 3
theorem zJ {n:Nat}  {r:Int} (h:VW n =some r):Computes cx 52 [B true,I 3] (I r):=by
 unfold VW at h
 obtain rfl:=oi h
 exact rf [.no] Qz
def ZU (n:Nat) (a0 a1 a2:Int):Option (Int) :=
 if a0 < a1 then
  (VW n).bind fun t2 =>
  some t2
 else
 (Zf n (decide (a0 > a2)) 3).bind fun t2 =>
 some t2
theorem UA {n:Nat} {a0 a1 a2:Int} {r:Int} (h:ZU n a0 a1 a2=some r):Computes cx 92 [I a0,I a1,I a2] (I r):=by
 unfold ZU at h
 rcases io h with ⟨h1,h⟩ | ⟨h1,h⟩
 ·obtain ⟨t2,h2,h⟩:=bo h;obtain rfl:=oi h
  exact rf [b1,.ret (I t2)] (Qc (zJ h2) (Qc (decide_eq_true h1) Qz))
 obtain ⟨t2,h2,h⟩:=bo h;obtain rfl:=oi h
 exact rf [b0,.ret (I t2)] (Qc (Wv h2) (Qc (decide_eq_false h1) Qz))
def ZT (n:Nat) (a0 a1:Int):Option (Int) :=
 (ZU n a0 (-16777216) 16777216).bind fun t1 =>
 (ZU n a1 (-16777216) 16777216).bind fun t2 =>
 (ZE n ([I t1,I t2])).bind fun t3 =>
 some t3
theorem Uz {n:Nat} {a0 a1:Int} {r:Int} (h:ZT n a0 a1=some r):Computes cx 53 [.agg [I a0,I a1]] (I r):=by
 unfold ZT at h
 obtain ⟨t1,h1,h⟩:=bo h;obtain ⟨t2,h2,h⟩:=bo h;obtain ⟨t3,h3,h⟩:=bo h;obtain rfl:=oi h
 exact rf [.ret (I t1),.ret (I t2),.ret (I t3)] (Qc (((Wd h3).le (.cons (.full _ _ _) (.nil)) (.refl _)):Computes cx 10 [.lst true 1 [I t1,I t2]] (I t3)) (Qc (UA h2) (Qc (UA h1) Qz)))
def Vf (n:Nat) (a0:List D) (a1:Int):Option (Int×Int) :=
 if Qa (a1+1) then
 if ((a0).length:Int)≠0 then
 (el QC a0 (Int.tmod (a1+1) ((a0).length:Int))).bind fun t3 =>
 some (t3.1,t3.2)
 else none
 else none
theorem Xm {n:Nat} {a0:List D} {a1:Int} {r:Int×Int} (h:Vf n a0 a1=some r):Computes cx 93 [.lst false 2 a0,I a1] (.agg [I r.1,I r.2]):=by
 unfold Vf at h
 obtain ⟨h1,h⟩:=gd h;obtain ⟨h2,h⟩:=gd h;obtain ⟨t3,h3,h⟩:=bo h
 cases h
 exact rf [.el (Qw t3)] (W2 Qn h3 (Qc h2 (Qc h1 Qz)))
def Wb (n:Nat) (a0 a1 a2 a3 a4 a5:Int):Option (Int) :=
 if Qa (a2 - a0) then
 if Qa (a5 - a1) then
 if Qa ((a2 - a0) * (a5 - a1)) then
 if Qa (a3 - a1) then
 if Qa (a4 - a0) then
 if Qa ((a3 - a1) * (a4 - a0)) then
 if Qa (((a2 - a0) * (a5 - a1)) - ((a3 - a1) * (a4 - a0))) then
 some (((a2 - a0) * (a5 - a1)) - ((a3 - a1) * (a4 - a0)))
 else none
 else none
 else none
 else none
 else none
 else none
 else none
theorem Jm {n:Nat} {a0 a1 a2 a3 a4 a5:Int} {r:Int} (h:Wb n a0 a1 a2 a3 a4 a5=some r):Computes cx 56 [.agg [I a0,I a1],.agg [I a2,I a3],.agg [I a4,I a5]] (I r):=by
 unfold Wb at h
 obtain ⟨h1,h⟩:=gd h;obtain ⟨h2,h⟩:=gd h;obtain ⟨h3,h⟩:=gd h;obtain ⟨h4,h⟩:=gd h;obtain ⟨h5,h⟩:=gd h;obtain ⟨h6,h⟩:=gd h;obtain ⟨h7,h⟩:=gd h
 cases h
 exact rf [] (Qc h7 (Qc h6 (Qc h5 (Qc h4 (Qc h3 (Qc h2 (Qc h1 Qz)))))))
def ZH (n:Nat) (a0:List D) (sa:Int) (sb:(Int)):Option (((Int))⊕((Unit)⊕(Unit))) :=
 if sb < ((a0).length:Int) then
  if sb=sa then
   if Qa (sb+1) then
   some (.inl (sb+1))
   else none
  else
  if Qa (sa+1) then
  if ((a0).length:Int)≠0 then
  if sb=(Int.tmod (sa+1) ((a0).length:Int)) then
   if Qa (sb+1) then
   some (.inl (sb+1))
   else none
  else
  (el QC a0 sa).bind fun tb6 =>
  (Vf n a0 sa).bind fun tb7 =>
  (el QC a0 sb).bind fun tb8 =>
  (Wb n tb6.1 tb6.2 tb7.1 tb7.2 tb8.1 tb8.2).bind fun tb9 =>
  if tb9≤0 then
   some (.inr (.inl ()))
  else
  if Qa (sb+1) then
  some (.inl (sb+1))
  else none
  else none
  else none
 else
 some (.inr (.inr ()))
noncomputable def Xs (a0:List D) (sa:Int):Lp ((Int)) ((Unit)⊕(Unit)):=⟨fun sb=>[(0,.d (.lst false 2 a0)),(3,.d (I sa)),(4,.d (I sb))],fun _=>[],fun
 | (.inl e)=>.ret
 | (.inr e)=>(.exit 2),fun
 | (.inl e)=>[(2,.d (B false))]
 | (.inr e)=>[(0,.d (.lst false 2 a0)),(3,.d (I sa))],fun _=>[]⟩
theorem U3 {n:Nat} {a0:List D} {sa:Int} (sb:(Int)) (r) (h:ZH n a0 sa sb=some r):Rl (Ql cx.P 54 1) 44 0 false (Xs a0 sa) sb r:=by
 unfold ZH at h
 rcases io h with ⟨hb1,h⟩ | ⟨hb1,h⟩
 ·have q:=Qc (decide_eq_true hb1) Qz
  rcases io h with ⟨hb2,h⟩ | ⟨hb2,h⟩
  ·obtain ⟨hb3,h⟩:=gd h
   cases h
   exact rn 7 [b1,b0,.no,.no] [] [0,3,4] [] (Qc hb3 (Qc (nef hb2) q))
  obtain ⟨hb3,h⟩:=gd h;obtain ⟨hb4,h⟩:=gd h
  have q:=Qc hb4 (Qc hb3 (Qc (net hb2) q))
  rcases io h with ⟨hb5,h⟩ | ⟨hb5,h⟩
  ·obtain ⟨hb6,h⟩:=gd h
   cases h
   exact rn 7 [b1,b1,b0,.no] [] [0,3,4] [] (Qc hb6 (Qc (nef hb5) q))
  obtain ⟨tb6,hb6,h⟩:=bo h;obtain ⟨tb7,hb7,h⟩:=bo h;obtain ⟨tb8,hb8,h⟩:=bo h;obtain ⟨tb9,hb9,h⟩:=bo h
  have q:=Qc (Jm hb9) (W2 Qn hb8 (Qc (Xm hb7) (W2 Qn hb6 (Qc (net hb5) q))))
  let o (l:List Orc):=b1::b1::b1::.el (Qw tb6)::.ret (.agg [I tb7.1,I tb7.2])::.el (Qw tb8)::.ret (I tb9)::l
  rcases io h with ⟨hb10,h⟩ | ⟨hb10,h⟩
  ·cases h
   exact rx 7 (o [b1]) [] [2] [] (Qc (decide_eq_true hb10) q)
  obtain ⟨hb11,h⟩:=gd h
  cases h
  exact rn 7 (o [b0]) [] [0,3,4] [] (Qc hb11 (Qc (decide_eq_false hb10) q))
 cases h
 exact rx 7 [b0] [] [0,3] [] (Qc (decide_eq_false hb1) Qz)
def ZG (n:Nat) (a0:List D) (sa:(Int)):Option (((Int))⊕((Unit)⊕(Unit))) :=
 if sa < ((a0).length:Int) then
  (QE (ZH n a0 sa) n 0).bind fun ta2=>match ta2 with
   | (.inl ta2)=>(
    some (.inr (.inl ())))
   | (.inr ta2)=>(
    if Qa (sa+1) then
    some (.inl (sa+1))
    else none)
 else
 some (.inr (.inr ()))
noncomputable def Xr (a0:List D):Lp ((Int)) ((Unit)⊕(Unit)):=⟨fun sa=>[(0,.d (.lst false 2 a0)),(3,.d (I sa))],fun _=>[],fun
 | (.inl e)=>.ret
 | (.inr e)=>(.exit 0),fun
 | (.inl e)=>[(2,.d (B false))]
 | (.inr e)=>[],fun _=>[]⟩
theorem U2 {n:Nat} {a0:List D} (sa:(Int)) (r) (h:ZG n a0 sa=some r):Rl (Ql cx.P 54 0) 44 0 false (Xr a0) sa r:=by
 unfold ZG at h
 rcases io h with ⟨ha1,h⟩ | ⟨ha1,h⟩
 ·have q:=Qc (decide_eq_true ha1) Qz
  obtain ⟨ta2,ha2,h⟩:=bo h
  rcases ta2 with ta2 | ta2
  ·cases h
   exact rx 2 [b1,.lp [] [0,3,4] [] .ret [(2,.d (B false))] [] 52] [] [2] [] (Qc (Qh U3 ha2) q)
  obtain ⟨ha3,h⟩:=gd h
  cases h
  exact rn 2 [b1,.lp [] [0,3,4] [] (.exit 2) [(0,.d (.lst false 2 a0)),(3,.d (I sa))] [] 52] [] [0,3] [] (Qc ha3 (Qc (Qh U3 ha2) q))
 cases h
 exact rx 2 [b0] [] [] [] (Qc (decide_eq_false ha1) Qz)
def VV (n:Nat) (a0:List D):Option (Bool) :=
 (QE (ZG n a0) n 0).bind fun t1=>match t1 with
  | (.inl t1)=>(
   some false)
  | (.inr t1)=>(
   some true)
theorem zH {n:Nat} {a0:List D} {r:Bool} (h:VV n a0=some r):Computes cx 54 [.lst false 2 a0] (B r):=by
 unfold VV at h
 obtain ⟨t1,h1,h⟩:=bo h
 rcases t1 with t1 | t1
 ·obtain rfl:=oi h
  exact rf [.lp [] [0,3] [] .ret [(2,.d (B false))] [] 66] (Qc (Qh U2 h1) Qz)
 obtain rfl:=oi h
 exact rf [.lp [] [0,3] [] (.exit 0) [] [] 66] (Qc (Qh U2 h1) Qz)
def Q7 (n:Nat) (a0:List D) (sa:(Int)):Option (((Int))⊕((Int)⊕(Unit))) :=
 if sa < ((a0).length:Int) then
  (el QC a0 sa).bind fun ta2 =>
  (ZT n ta2.1 ta2.2).bind fun ta3 =>
  if ta3=0 then
   if Qa (sa+1) then
   some (.inl (sa+1))
   else none
  else
  some (.inr (.inl ta3))
 else
 some (.inr (.inr ()))
noncomputable def KG (a0:List D):Lp ((Int)) ((Int)⊕(Unit)):=⟨fun sa=>[(0,.d (.lst false 2 a0)),(4,.d (I sa))],fun _=>[],fun
 | (.inl e)=>.ret
 | (.inr e)=>(.exit 0),fun
 | (.inl e)=>[(2,.d (I e))]
 | (.inr e)=>[(0,.d (.lst false 2 a0))],fun _=>[]⟩
theorem VC {n:Nat} {a0:List D} (sa:(Int)) (r) (h:Q7 n a0 sa=some r):Rl (Ql cx.P 11 0) 37 0 false (KG a0) sa r:=by
 unfold Q7 at h
 rcases io h with ⟨ha1,h⟩ | ⟨ha1,h⟩
 ·obtain ⟨ta2,ha2,h⟩:=bo h;obtain ⟨ta3,ha3,h⟩:=bo h
  have q:=Qc (Uz ha3) (W2 Qn ha2 (Qc (decide_eq_true ha1) Qz))
  let o (l:List Orc):=b1::.el (Qw ta2)::.ret (I ta3)::l
  rcases io h with ⟨ha4,h⟩ | ⟨ha4,h⟩
  ·obtain ⟨ha5,h⟩:=gd h
   cases h
   exact rn 15 (o [b0]) [] [0,4] [] (Qc ha5 (Qc (nef ha4) q))
  cases h
  exact rx 15 (o [b1]) [] [2] [] (Qc (net ha4) q)
 cases h
 exact rx 15 [b0] [] [0] [] (Qc (decide_eq_false ha1) Qz)
def Zw (n:Nat) (a0:List D):Option (Int) :=
 (Zf n (decide (((a0).length:Int) < 3)) 16).bind fun t1 =>
 (Zf n (decide (((a0).length:Int) > 16)) 5).bind fun t2 =>
 (ZE n ([I t1,I t2])).bind fun t3 =>
 if t3=0 then
  (QE (Q7 n a0) n 0).bind fun t5=>match t5 with
   | (.inl t5)=>(
    some t5)
   | (.inr t5)=>(
    (VV n a0).bind fun t6 =>
    (Zf n (!t6) 2).bind fun t7 =>
    some t7)
 else
 some t3
theorem QV {n:Nat} {a0:List D} {r:Int} (h:Zw n a0=some r):Computes cx 11 [.lst false 2 a0] (I r):=by
 unfold Zw at h
 obtain ⟨t1,h1,h⟩:=bo h;obtain ⟨t2,h2,h⟩:=bo h;obtain ⟨t3,h3,h⟩:=bo h
 have q:=Qc (((Wd h3).le (.cons (.full _ _ _) (.nil)) (.refl _)):Computes cx 10 [.lst true 1 [I t1,I t2]] (I t3)) (Qc (Wv h2) (Qc (Wv h1) Qz))
 let o (l:List Orc):=.ret (I t1)::.ret (I t2)::.ret (I t3)::l
 rcases io h with ⟨h4,h⟩ | ⟨h4,h⟩
 ·have q:=Qc (nef h4) q
  obtain ⟨t5,h5,h⟩:=bo h
  rcases t5 with t5 | t5
  ·obtain rfl:=oi h
   exact rf (o [b0,.lp [] [0,4] [] .ret [(2,.d (I t5))] [] 41]) (Qc (Qh VC h5) q)
  obtain ⟨t6,h6,h⟩:=bo h;obtain ⟨t7,h7,h⟩:=bo h;obtain rfl:=oi h
  exact rf (o [b0,.lp [] [0,4] [] (.exit 0) [(0,.d (.lst false 2 a0))] [] 41,.ret (B t6),.ret (I t7)]) (Qc (Wv h7) (Qc (zH h6) (Qc (Qh VC h5) q)))
 obtain rfl:=oi h
 exact rf (o [b1]) (Qc (net h4) q)
def WM (n:Nat) (a0:List D) (a1:Int):Option (Int×Int×Int×Int) :=
 (el QC a0 a1).bind fun t1 =>
 if Qa (a1+1) then
 if ((a0).length:Int)≠0 then
 (el QC a0 (Int.tmod (a1+1) ((a0).length:Int))).bind fun t4 =>
 some (t1.1,t1.2,t4.1,t4.2)
 else none
 else none
theorem Jn {n:Nat} {a0:List D} {a1:Int} {r:Int×Int×Int×Int} (h:WM n a0 a1=some r):Computes cx 48 [.lst false 2 a0,I a1] (.agg [I r.1,I r.2.1,I r.2.2.1,I r.2.2.2]):=by
 unfold WM at h
 obtain ⟨t1,h1,h⟩:=bo h;obtain ⟨h2,h⟩:=gd h;obtain ⟨h3,h⟩:=gd h;obtain ⟨t4,h4,h⟩:=bo h
 cases h
 exact rf [.el (Qw t1),.el (Qw t4)] (W2 Qn h4 (Qc h3 (Qc h2 (W2 Qn h1 Qz))))
def QU (n:Nat) (a0:List D) (sa:Int) (ta2:Int×Int×Int×Int) (sb:(Int)):Option (((Int))⊕((Unit)⊕(Unit))) :=
 if sb < ((a0).length:Int) then
  (el QC a0 sb).bind fun tb2 =>
  if sb=sa then
   if Qa (sb+1) then
   some (.inl (sb+1))
   else none
  else
  if Qa (sa+1) then
  if ((a0).length:Int)≠0 then
  if sb=(Int.tmod (sa+1) ((a0).length:Int)) then
   if Qa (sb+1) then
   some (.inl (sb+1))
   else none
  else
  (Q5 n ta2.1 ta2.2.1 ta2.2.2.1 ta2.2.2.2 tb2.1 tb2.2).bind fun tb7 =>
  if tb7≤0 then
   some (.inr (.inl ()))
  else
  if Qa (sb+1) then
  some (.inl (sb+1))
  else none
  else none
  else none
 else
 some (.inr (.inr ()))
noncomputable def KI (a0:List D) (sa:Int) (ta2:Int×Int×Int×Int):Lp ((Int)) ((Unit)⊕(Unit)):=⟨fun sb=>[(0,.d (.lst false 2 a0)),(5,.d (I sa)),(6,.ptr 29 0 0 0 0),(29,.d (I ((a0).length:Int))),(30,.d (I sa)),(36,.d (.lst false 2 a0)),(37,.d (I ((a0).length:Int))),(38,.d (I sb))],fun _=>[(29,.box (.d (.agg [I ta2.1,I ta2.2.1,I ta2.2.2.1,I ta2.2.2.2])))],fun
 | (.inl e)=>.ret
 | (.inr e)=>(.exit 2),fun
 | (.inl e)=>[(2,.d (I 2))]
 | (.inr e)=>[(0,.d (.lst false 2 a0)),(29,.d (I ((a0).length:Int))),(30,.d (I sa))],fun _=>[]⟩
theorem VE {n:Nat} {a0:List D} {sa:Int} {ta2:Int×Int×Int×Int} (sb:(Int)) (r) (h:QU n a0 sa ta2 sb=some r):Rl (Ql cx.P 47 1) 66 0 false (KI a0 sa ta2) sb r:=by
 unfold QU at h
 rcases io h with ⟨hb1,h⟩ | ⟨hb1,h⟩
 ·obtain ⟨tb2,hb2,h⟩:=bo h
  have q:=W2 Qn hb2 (Qc (decide_eq_true hb1) Qz)
  let o (l:List Orc):=b1::.el (Qw tb2)::l
  rcases io h with ⟨hb3,h⟩ | ⟨hb3,h⟩
  ·obtain ⟨hb4,h⟩:=gd h
   cases h
   exact rn 34 (o [b0,.no,.no]) [] [0,5,6,29,30,36,37,38] [29] (Qc hb4 (Qc (nef hb3) q))
  obtain ⟨hb4,h⟩:=gd h;obtain ⟨hb5,h⟩:=gd h
  have q:=Qc hb5 (Qc hb4 (Qc (net hb3) q))
  rcases io h with ⟨hb6,h⟩ | ⟨hb6,h⟩
  ·obtain ⟨hb7,h⟩:=gd h
   cases h
   exact rn 34 (o [b1,b0,.no]) [] [0,5,6,29,30,36,37,38] [29] (Qc hb7 (Qc (nef hb6) q))
  obtain ⟨tb7,hb7,h⟩:=bo h
  have q:=Qc (Z2 hb7) (Qc (net hb6) q)
  let o l:=o (b1::b1::.ret (I tb7)::l)
  rcases io h with ⟨hb8,h⟩ | ⟨hb8,h⟩
  ·cases h
   exact rx 34 (o [b1]) [] [2] [] (Qc (decide_eq_true hb8) q)
  obtain ⟨hb9,h⟩:=gd h
  cases h
  exact rn 34 (o [b0]) [] [0,5,6,29,30,36,37,38] [29] (Qc hb9 (Qc (decide_eq_false hb8) q))
 cases h
 exact rx 34 [b0] [] [0,29,30] [] (Qc (decide_eq_false hb1) Qz)
def QT (n:Nat) (a0:List D) (sa:(Int)):Option (((Int))⊕((Unit)⊕(Unit))) :=
 if sa < ((a0).length:Int) then
  (WM n a0 sa).bind fun ta2 =>
  (QE (QU n a0 sa ta2) n 0).bind fun ta3=>match ta3 with
   | (.inl ta3)=>(
    some (.inr (.inl ())))
   | (.inr ta3)=>(
    if Qa (sa+1) then
    some (.inl (sa+1))
    else none)
 else
 some (.inr (.inr ()))
noncomputable def KH (a0:List D):Lp ((Int)) ((Unit)⊕(Unit)):=⟨fun sa=>[(0,.d (.lst false 2 a0)),(29,.d (I ((a0).length:Int))),(30,.d (I sa))],fun _=>[],fun
 | (.inl e)=>.ret
 | (.inr e)=>(.exit 0),fun
 | (.inl e)=>[(2,.d (I 2))]
 | (.inr e)=>[],fun _=>[]⟩
theorem VD {n:Nat} {a0:List D} (sa:(Int)) (r) (h:QT n a0 sa=some r):Rl (Ql cx.P 47 0) 66 0 false (KH a0) sa r:=by
 unfold QT at h
 rcases io h with ⟨ha1,h⟩ | ⟨ha1,h⟩
 ·obtain ⟨ta2,ha2,h⟩:=bo h
  have q:=Qc (Jn ha2) (Qc (decide_eq_true ha1) Qz)
  let o (l:List Orc):=b1::.ret (.agg [I ta2.1,I ta2.2.1,I ta2.2.2.1,I ta2.2.2.2])::l
  obtain ⟨ta3,ha3,h⟩:=bo h
  rcases ta3 with ta3 | ta3
  ·cases h
   exact rx 23 (o [.lp [] [0,5,6,29,30,36,37,38] [29] .ret [(2,.d (I 2))] [] 75]) [] [2] [] (Qc (Qh VE ha3) q)
  obtain ⟨ha4,h⟩:=gd h
  cases h
  exact rn 23 (o [.lp [] [0,5,6,29,30,36,37,38] [29] (.exit 2) [(0,.d (.lst false 2 a0)),(29,.d (I ((a0).length:Int))),(30,.d (I sa))] [] 75]) [] [0,29,30] [] (Qc ha4 (Qc (Qh VE ha3) q))
 cases h
 exact rx 23 [b0] [] [] [] (Qc (decide_eq_false ha1) Qz)
def Zz (n:Nat) (a0:List D):Option (Int) :=
 (Qs n (decide (((a0).length:Int) < 3)) 16).bind fun t1 =>
 (Qs n (decide (((a0).length:Int) > 16)) 5).bind fun t2 =>
 (Qv n ([I t1,I t2])).bind fun t3 =>
 if t3=0 then
  (ZV n a0).bind fun t5 =>
  (Qv n t5).bind fun t6 =>
  if t6=0 then
   (QE (QT n a0) n 0).bind fun t8=>match t8 with
    | (.inl t8)=>(
     some 2)
    | (.inr t8)=>(
     some 0)
  else
  some t6
 else
 some t3
theorem YM {n:Nat} {a0:List D} {r:Int} (h:Zz n a0=some r):Computes cx 47 [.lst false 2 a0] (I r):=by
 unfold Zz at h
 obtain ⟨t1,h1,h⟩:=bo h;obtain ⟨t2,h2,h⟩:=bo h;obtain ⟨t3,h3,h⟩:=bo h
 have q:=Qc (((Qg h3).le (.cons (.full _ _ _) (.nil)) (.refl _)):Computes cx 36 [.lst true 1 [I t1,I t2]] (I t3)) (Qc (Qf h2) (Qc (Qf h1) Qz))
 let o (l:List Orc):=.ret (I t1)::.ret (I t2)::.ret (I t3)::l
 rcases io h with ⟨h4,h⟩ | ⟨h4,h⟩
 ·obtain ⟨t5,h5,h⟩:=bo h;obtain ⟨t6,h6,h⟩:=bo h
  have q:=Qc (Qg h6) (Qc (Qt h5) (Qc (nef h4) q))
  let o l:=o (b0::.ret (.lst false 1 t5)::.ret (I t6)::l)
  rcases io h with ⟨h7,h⟩ | ⟨h7,h⟩
  ·have q:=Qc (nef h7) q
   obtain ⟨t8,h8,h⟩:=bo h
   rcases t8 with t8 | t8
   ·obtain rfl:=oi h
    exact rf (o [b0,.lp [] [0,29,30] [] .ret [(2,.d (I 2))] [] 88]) (Qc (Qh VD h8) q)
   obtain rfl:=oi h
   exact rf (o [b0,.lp [] [0,29,30] [] (.exit 0) [] [] 88]) (Qc (Qh VD h8) q)
  obtain rfl:=oi h
  exact rf (o [b1]) (Qc (net h7) q)
 obtain rfl:=oi h
 exact rf (o [b1]) (Qc (net h4) q)
def VZ (n:Nat)  : Option (Int) :=
 some 0
theorem JX {n:Nat}  {r:Int} (h:VZ n =some r):Computes cx 37 [B false,I 15] (I r):=by
 unfold VZ at h
 obtain rfl:=oi h
 exact rf [.no] Qz
def UF (n:Nat)  : Option (Int) :=
 some 15
theorem zK {n:Nat}  {r:Int} (h:UF n =some r):Computes cx 37 [B true,I 15] (I r):=by
 unfold UF at h
 obtain rfl:=oi h
 exact rf [.no] Qz
def ZX (n:Nat) (a0 a1:List D) (ta2:Int×Int×Int×Int) (sb:(Int)):Option (((Int))⊕((Int)⊕(Unit))) :=
 if sb < ((a1).length:Int) then
  (el QC a1 sb).bind fun tb2 =>
  (Q5 n ta2.1 ta2.2.1 ta2.2.2.1 ta2.2.2.2 tb2.1 tb2.2).bind fun tb3 =>
  if tb3 > 0 then
   some (.inr (.inl sb))
  else
  if Qa (sb+1) then
  some (.inl (sb+1))
  else none
 else
 some (.inr (.inr ()))
noncomputable def El (a0 a1:List D) (ta2:Int×Int×Int×Int):Lp ((Int)) ((Int)⊕(Unit)):=⟨fun sb=>[(0,.d (.lst false 2 a1)),(1,.fn (.func 50) [] [.ptr 38 0 0 0 0]),(7,.d (I ((a1).length:Int))),(8,.d (I sb))],fun _=>[(0,.box (.d (.agg [I 0,I 0]))),(11,.box (.d (.agg [I 0,I 0]))),(24,.box (.d (.agg [.lst false 2 a0,.lst false 2 a1]))),(38,.box (.d (.agg [I ta2.1,I ta2.2.1,I ta2.2.2.1,I ta2.2.2.2])))],fun
 | (.inl e)=>.ret
 | (.inr e)=>(.exit 0),fun
 | (.inl e)=>[(4,.d (I e))]
 | (.inr e)=>[],fun _=>[(0,.box (.d (.agg [I 0,I 0]))),(11,.box (.d (.agg [I 0,I 0]))),(24,.box (.d (.agg [.lst false 2 a0,.lst false 2 a1]))),(38,.box (.d (.agg [I ta2.1,I ta2.2.1,I ta2.2.2.1,I ta2.2.2.2])))]⟩
theorem KE {n:Nat} {a0 a1:List D} {ta2:Int×Int×Int×Int} (sb:(Int)) (r) (h:ZX n a0 a1 ta2 sb=some r):Rl (Ql cx.P 91 0) 19 51 false (El a0 a1 ta2) sb r:=by
 unfold ZX at h
 rcases io h with ⟨hb1,h⟩ | ⟨hb1,h⟩
 ·obtain ⟨tb2,hb2,h⟩:=bo h;obtain ⟨tb3,hb3,h⟩:=bo h
  have q:=Qc (Z2 hb3) (W2 Qn hb2 (Qc (decide_eq_true hb1) Qz))
  let o (l:List Orc):=b1::.el (Qw tb2)::b1::.ret (I tb3)::l
  rcases io h with ⟨hb4,h⟩ | ⟨hb4,h⟩
  ·cases h
   exact rx 55 (o [b1]) [] [4] [0,11,24,38] (Qc (decide_eq_true hb4) q)
  obtain ⟨hb5,h⟩:=gd h
  cases h
  exact rn 55 (o [b0]) [] [0,1,7,8] [0,11,24,38] (Qc hb5 (Qc (decide_eq_false hb4) q))
 cases h
 exact rx 55 [b0] [] [] [0,11,24,38] (Qc (decide_eq_false hb1) Qz)
def ZA (n:Nat) (a0 a1:List D) (sa:(Int)):Option (((Int))⊕((Int)⊕(Unit))) :=
 if sa < ((a0).length:Int) then
  (WM n a0 sa).bind fun ta2 =>
  (QE (ZX n a0 a1 ta2) n 0).bind fun ta3=>match ta3 with
   | (.inl ta3)=>(
    if ta3 ≥ 0 then
     if Qa (sa+1) then
     some (.inl (sa+1))
     else none
    else
    some (.inr (.inl sa)))
   | (.inr ta3)=>(
    some (.inr (.inl sa)))
 else
 some (.inr (.inr ()))
noncomputable def Ek (a0 a1:List D):Lp ((Int)) ((Int)⊕(Unit)):=⟨fun sa=>[(4,.ptr 0 0 0 0 0),(7,.ptr 11 0 0 0 0),(8,.d (B false)),(9,.d (I 0)),(10,.ptr 24 0 0 0 0),(29,.d (.agg [.lst false 2 a0,.lst false 2 a1,.lst false 2 a1,.lst false 2 a0])),(30,.d (I 0)),(36,.d (I ((a0).length:Int))),(37,.d (I sa))],fun _=>[(0,.box (.d (.agg [I 0,I 0]))),(11,.box (.d (.agg [I 0,I 0]))),(24,.box (.d (.agg [.lst false 2 a0,.lst false 2 a1])))],fun
 | (.inl e)=>(.exit 0)
 | (.inr e)=>(.exit 2),fun
 | (.inl e)=>[(4,.ptr 0 0 0 0 0),(7,.ptr 11 0 0 0 0),(8,.d (B true))]
 | (.inr e)=>[(4,.ptr 0 0 0 0 0),(7,.ptr 11 0 0 0 0),(8,.d (B false)),(29,.d (.agg [.lst false 2 a0,.lst false 2 a1,.lst false 2 a1,.lst false 2 a0])),(30,.d (I 0))],fun
 | (.inl e)=>[(0,.box (.d (.agg [I 0,I 0]))),(11,.box (.d (.agg [I 0,I e])))]
 | (.inr e)=>[(0,.box (.d (.agg [I 0,I 0]))),(11,.box (.d (.agg [I 0,I 0])))]⟩
theorem KD {n:Nat} {a0 a1:List D} (sa:(Int)) (r) (h:ZA n a0 a1 sa=some r):Rl (Ql cx.P 8 1) 58 0 false (Ek a0 a1) sa r:=by
 unfold ZA at h
 rcases io h with ⟨ha1,h⟩ | ⟨ha1,h⟩
 ·obtain ⟨ta2,ha2,h⟩:=bo h
  have q:=Qc (Jn ha2) (Qc (decide_eq_true ha1) Qz)
  let o (l:List Orc):=b1::.ret (.agg [I ta2.1,I ta2.2.1,I ta2.2.2.1,I ta2.2.2.2])::b1::b1::l
  obtain ⟨ta3,ha3,h⟩:=bo h
  rcases ta3 with ta3 | ta3
  ·have q:=Qc (Qh KE ha3) q
   let o l:=o (.lp [] [0,1,7,8] [0,11,24,38] .ret [(4,.d (I ta3))] [(0,.box (.d (.agg [I 0,I 0]))),(11,.box (.d (.agg [I 0,I 0]))),(24,.box (.d (.agg [.lst false 2 a0,.lst false 2 a1]))),(38,.box (.d (.agg [I ta2.1,I ta2.2.1,I ta2.2.2.1,I ta2.2.2.2])))] 87::l)
   rcases io h with ⟨ha4,h⟩ | ⟨ha4,h⟩
   ·obtain ⟨ha5,h⟩:=gd h
    cases h
    exact rn 31 (o [b0]) [] [4,7,8,9,10,29,30,36,37] [0,11,24] (Qc ha5 (Qc (U8 (decide_eq_true ha4)) q))
   cases h
   exact rx 31 (o [b1]) [] [4,7,8] [0,11] (Qc (jO (decide_eq_false ha4)) q)
  cases h
  exact rx 31 (o [.lp [] [0,1,7,8] [0,11,24,38] (.exit 0) [] [(0,.box (.d (.agg [I 0,I 0]))),(11,.box (.d (.agg [I 0,I 0]))),(24,.box (.d (.agg [.lst false 2 a0,.lst false 2 a1]))),(38,.box (.d (.agg [I ta2.1,I ta2.2.1,I ta2.2.2.1,I ta2.2.2.2])))] 87,.no]) [] [4,7,8] [0,11] (Qc (Qh KE ha3) q)
 cases h
 exact rx 31 [b0] [] [4,7,8,29,30] [0,11] (Qc (decide_eq_false ha1) Qz)
def Yn (n:Nat) (a0 a1:List D) (ta2:Int×Int×Int×Int) (sb:(Int)):Option (((Int))⊕((Int)⊕(Unit))) :=
 if sb < ((a0).length:Int) then
  (el QC a0 sb).bind fun tb2 =>
  (Q5 n ta2.1 ta2.2.1 ta2.2.2.1 ta2.2.2.2 tb2.1 tb2.2).bind fun tb3 =>
  if tb3 > 0 then
   some (.inr (.inl sb))
  else
  if Qa (sb+1) then
  some (.inl (sb+1))
  else none
 else
 some (.inr (.inr ()))
noncomputable def Ej (a0 a1:List D) (ta2:Int×Int×Int×Int):Lp ((Int)) ((Int)⊕(Unit)):=⟨fun sb=>[(0,.d (.lst false 2 a0)),(1,.fn (.func 50) [] [.ptr 123 0 0 0 0]),(7,.d (I ((a0).length:Int))),(8,.d (I sb))],fun _=>[(0,.box (.d (.agg [I 0,I 0]))),(11,.box (.d (.agg [I 0,I 0]))),(109,.box (.d (.agg [.lst false 2 a1,.lst false 2 a0]))),(123,.box (.d (.agg [I ta2.1,I ta2.2.1,I ta2.2.2.1,I ta2.2.2.2])))],fun
 | (.inl e)=>.ret
 | (.inr e)=>(.exit 0),fun
 | (.inl e)=>[(4,.d (I e))]
 | (.inr e)=>[],fun _=>[(0,.box (.d (.agg [I 0,I 0]))),(11,.box (.d (.agg [I 0,I 0]))),(109,.box (.d (.agg [.lst false 2 a1,.lst false 2 a0]))),(123,.box (.d (.agg [I ta2.1,I ta2.2.1,I ta2.2.2.1,I ta2.2.2.2])))]⟩
theorem KC {n:Nat} {a0 a1:List D} {ta2:Int×Int×Int×Int} (sb:(Int)) (r) (h:Yn n a0 a1 ta2 sb=some r):Rl (Ql cx.P 91 0) 19 136 false (Ej a0 a1 ta2) sb r:=by
 unfold Yn at h
 rcases io h with ⟨hb1,h⟩ | ⟨hb1,h⟩
 ·obtain ⟨tb2,hb2,h⟩:=bo h;obtain ⟨tb3,hb3,h⟩:=bo h
  have q:=Qc (Z2 hb3) (W2 Qn hb2 (Qc (decide_eq_true hb1) Qz))
  let o (l:List Orc):=b1::.el (Qw tb2)::b1::.ret (I tb3)::l
  rcases io h with ⟨hb4,h⟩ | ⟨hb4,h⟩
  ·cases h
   exact rx 140 (o [b1]) [] [4] [0,11,109,123] (Qc (decide_eq_true hb4) q)
  obtain ⟨hb5,h⟩:=gd h
  cases h
  exact rn 140 (o [b0]) [] [0,1,7,8] [0,11,109,123] (Qc hb5 (Qc (decide_eq_false hb4) q))
 cases h
 exact rx 140 [b0] [] [] [0,11,109,123] (Qc (decide_eq_false hb1) Qz)
def Vi (n:Nat) (a0 a1:List D) (sa:(Int)):Option (((Int))⊕((Int)⊕(Unit))) :=
 if sa < ((a1).length:Int) then
  (WM n a1 sa).bind fun ta2 =>
  (QE (Yn n a0 a1 ta2) n 0).bind fun ta3=>match ta3 with
   | (.inl ta3)=>(
    if ta3 ≥ 0 then
     if Qa (sa+1) then
     some (.inl (sa+1))
     else none
    else
    some (.inr (.inl sa)))
   | (.inr ta3)=>(
    some (.inr (.inl sa)))
 else
 some (.inr (.inr ()))
noncomputable def Ei (a0 a1:List D):Lp ((Int)) ((Int)⊕(Unit)):=⟨fun sa=>[(4,.ptr 0 0 0 0 0),(7,.ptr 11 0 0 0 0),(8,.d (B false)),(9,.d (I 1)),(10,.ptr 109 0 0 0 0),(29,.d (.agg [.lst false 2 a0,.lst false 2 a1,.lst false 2 a1,.lst false 2 a0])),(30,.d (I 1)),(36,.d (I ((a1).length:Int))),(37,.d (I sa))],fun _=>[(0,.box (.d (.agg [I 0,I 0]))),(11,.box (.d (.agg [I 0,I 0]))),(109,.box (.d (.agg [.lst false 2 a1,.lst false 2 a0])))],fun
 | (.inl e)=>(.exit 0)
 | (.inr e)=>(.exit 2),fun
 | (.inl e)=>[(4,.ptr 0 0 0 0 0),(7,.ptr 11 0 0 0 0),(8,.d (B true))]
 | (.inr e)=>[(4,.ptr 0 0 0 0 0),(7,.ptr 11 0 0 0 0),(8,.d (B false)),(29,.d (.agg [.lst false 2 a0,.lst false 2 a1,.lst false 2 a1,.lst false 2 a0])),(30,.d (I 1))],fun
 | (.inl e)=>[(0,.box (.d (.agg [I 0,I 0]))),(11,.box (.d (.agg [I 1,I e])))]
 | (.inr e)=>[(0,.box (.d (.agg [I 0,I 0]))),(11,.box (.d (.agg [I 0,I 0])))]⟩
theorem KB {n:Nat} {a0 a1:List D} (sa:(Int)) (r) (h:Vi n a0 a1 sa=some r):Rl (Ql cx.P 8 1) 58 0 false (Ei a0 a1) sa r:=by
 unfold Vi at h
 rcases io h with ⟨ha1,h⟩ | ⟨ha1,h⟩
 ·obtain ⟨ta2,ha2,h⟩:=bo h
  have q:=Qc (Jn ha2) (Qc (decide_eq_true ha1) Qz)
  let o (l:List Orc):=b1::.ret (.agg [I ta2.1,I ta2.2.1,I ta2.2.2.1,I ta2.2.2.2])::b1::b1::l
  obtain ⟨ta3,ha3,h⟩:=bo h
  rcases ta3 with ta3 | ta3
  ·have q:=Qc (Qh KC ha3) q
   let o l:=o (.lp [] [0,1,7,8] [0,11,109,123] .ret [(4,.d (I ta3))] [(0,.box (.d (.agg [I 0,I 0]))),(11,.box (.d (.agg [I 0,I 0]))),(109,.box (.d (.agg [.lst false 2 a1,.lst false 2 a0]))),(123,.box (.d (.agg [I ta2.1,I ta2.2.1,I ta2.2.2.1,I ta2.2.2.2])))] 172::l)
   rcases io h with ⟨ha4,h⟩ | ⟨ha4,h⟩
   ·obtain ⟨ha5,h⟩:=gd h
    cases h
    exact rn 116 (o [b0]) [] [4,7,8,9,10,29,30,36,37] [0,11,109] (Qc ha5 (Qc (U8 (decide_eq_true ha4)) q))
   cases h
   exact rx 116 (o [b1]) [] [4,7,8] [0,11] (Qc (jO (decide_eq_false ha4)) q)
  cases h
  exact rx 116 (o [.lp [] [0,1,7,8] [0,11,109,123] (.exit 0) [] [(0,.box (.d (.agg [I 0,I 0]))),(11,.box (.d (.agg [I 0,I 0]))),(109,.box (.d (.agg [.lst false 2 a1,.lst false 2 a0]))),(123,.box (.d (.agg [I ta2.1,I ta2.2.1,I ta2.2.2.1,I ta2.2.2.2])))] 172,.no]) [] [4,7,8] [0,11] (Qc (Qh KC ha3) q)
 cases h
 exact rx 116 [b0] [] [4,7,8,29,30] [0,11] (Qc (decide_eq_false ha1) Qz)
def Wy (n:Nat) (a0 a1:List D):Option (Int×Int×Int) :=
 (Zz n a0).bind fun t1 =>
 (Zz n a1).bind fun t2 =>
 (Qv n ([I t1,I t2])).bind fun t3 =>
 if t3=0 then
  (QE (ZA n a0 a1) n 0).bind fun t5=>match t5 with
   | (.inl t5)=>(
    (VZ n).bind fun t6 =>
    some (0,t5,t6))
   | (.inr t5)=>(
    (QE (Vi n a0 a1) n 0).bind fun t6=>match t6 with
     | (.inl t6)=>(
      (VZ n).bind fun t7 =>
      some (1,t6,t7))
     | (.inr t6)=>(
      (UF n).bind fun t7 =>
      some (0,0,t7)))
 else
 some (0,0,t3)
theorem Yw {n:Nat} {a0 a1:List D} {r:Int×Int×Int} (h:Wy n a0 a1=some r):Computes cx 8 [.lst false 2 a0,.lst false 2 a1] (.tup [.agg [I r.1,I r.2.1],I r.2.2]):=by
 unfold Wy at h
 obtain ⟨t1,h1,h⟩:=bo h;obtain ⟨t2,h2,h⟩:=bo h;obtain ⟨t3,h3,h⟩:=bo h
 have q:=Qc (((Qg h3).le (.cons (.full _ _ _) (.nil)) (.refl _)):Computes cx 36 [.lst true 1 [I t1,I t2]] (I t3)) (Qc (YM h2) (Qc (YM h1) Qz))
 let o (l:List Orc):=.ret (I t1)::.ret (I t2)::.ret (I t3)::l
 rcases io h with ⟨h4,h⟩ | ⟨h4,h⟩
 ·have q:=Qc (nef h4) q
  let o l:=o (b0::.no::.no::l)
  obtain ⟨t5,h5,h⟩:=bo h
  rcases t5 with t5 | t5
  ·obtain ⟨t6,h6,h⟩:=bo h
   cases h
   exact rf (o [.lp [] [4,7,8,9,10,29,30,36,37] [0,11,24] (.exit 0) [(4,.ptr 0 0 0 0 0),(7,.ptr 11 0 0 0 0),(8,.d (B true))] [(0,.box (.d (.agg [I 0,I 0]))),(11,.box (.d (.agg [I 0,I t5])))] 104,.ret (I t6)]) (Qc (JX h6) (Qc (Qh KD h5) q))
  have q:=Qc ((by unfold Qa;omega):Qa 1) (Qc (Qh KD h5) q)
  let o l:=o (.lp [] [4,7,8,9,10,29,30,36,37] [0,11,24] (.exit 2) [(4,.ptr 0 0 0 0 0),(7,.ptr 11 0 0 0 0),(8,.d (B false)),(29,.d (.agg [.lst false 2 a0,.lst false 2 a1,.lst false 2 a1,.lst false 2 a0])),(30,.d (I 0))] [(0,.box (.d (.agg [I 0,I 0]))),(11,.box (.d (.agg [I 0,I 0])))] 104::.no::.no::l)
  obtain ⟨t6,h6,h⟩:=bo h
  rcases t6 with t6 | t6
  ·obtain ⟨t7,h7,h⟩:=bo h
   cases h
   exact rf (o [.lp [] [4,7,8,9,10,29,30,36,37] [0,11,109] (.exit 0) [(4,.ptr 0 0 0 0 0),(7,.ptr 11 0 0 0 0),(8,.d (B true))] [(0,.box (.d (.agg [I 0,I 0]))),(11,.box (.d (.agg [I 1,I t6])))] 189,.ret (I t7)]) (Qc (JX h7) (Qc (Qh KB h6) q))
  obtain ⟨t7,h7,h⟩:=bo h
  cases h
  exact rf (o [.lp [] [4,7,8,9,10,29,30,36,37] [0,11,109] (.exit 2) [(4,.ptr 0 0 0 0 0),(7,.ptr 11 0 0 0 0),(8,.d (B false)),(29,.d (.agg [.lst false 2 a0,.lst false 2 a1,.lst false 2 a1,.lst false 2 a0])),(30,.d (I 1))] [(0,.box (.d (.agg [I 0,I 0]))),(11,.box (.d (.agg [I 0,I 0])))] 189,.no,.no,.ret (I t7)]) (Qc (zK h7) (Qc ((by unfold Qa;omega):Qa 2) (Qc (Qh KB h6) q)))
 cases h
 exact rf (o [b1]) (Qc (net h4) q)
end Go.Proofs.YtiefmhacicemhaaGreatDoor
