/- Printed by gsx.py: functions of the program as Lean functions, and that the code computes them. -/
import Derived.Test.YtljabneifpkbjaaGreatDoorGen1
set_option linter.unusedVariables false
set_option maxRecDepth 10000
set_option maxHeartbeats 4000000
namespace Go.Proofs.YtljabneifpkbjaaGreatDoor
open Go.SX
def Qs (n:Nat) (a0:Int) (a1:jSj) (a2 a3:jVj) (a4:jSj) (a5 a6:jVj) (a7 a8:Int) (a9 a10:Bool) (a11 a12 a13:Int) (a14 a15 a16:jVj):Option (Int) :=
 if Qh (((a5).length:Int)+1) then
 if a0=(((a5).length:Int)+1) then
  if (a1.toList == (⟨#[117,110,100,111]⟩:jSj).toList)=true then
   if ((a6).length:Int)=0 then
    some 12
   else
   if Qh (((a6).length:Int) - 1) then
   if 0≤(((a6).length:Int) - 1)∧(((a6).length:Int) - 1) < ((a6).length:Int) then
   ((nth (a6) (Int.toNat (((a6).length:Int) - 1))).bind Ze).bind fun t7 =>
   if (t7.2.1.toList == (⟨#[100,101,108,105,118,101,114]⟩:jSj).toList)=true then
    (Un n).bind fun t9 =>
    some t9
   else
   (Qm n (t7.2.1.toList == (⟨#[98,105,108,108]⟩:jSj).toList) 21).bind fun t9 =>
   some t9
   else none
   else none
  else
  (el Vt a3 0).bind fun t4 =>
  if t4 < a7 then
   some 22
  else
  if a1.data.toList=[115,101,99,116,111,114] then
   (Qp n t4 a5 a6 a7 a8 a9 a10 a11 a12 a13 a14 a15 a16).bind fun t7 =>
   (Qk n (⟨#[83]⟩) 1 ((.func 147:Fn),[],[]) ((.func 148:Fn),[],[]) a0 a1 a2 a3 a4 a5 a6 a7 a8 a9 a10 a11 a12 a13 a14 a15 a16).bind fun t8 =>
   (Qo n ([I t7,I t8])).bind fun t9 =>
   if t9=0 then
    (Qm n (((a14).length:Int) == 8) 5).bind fun t11 =>
    some t11
   else
   some t9
  else
  if a1.data.toList=[109,105,114,114,111,114] then
   (Qp n t4 a5 a6 a7 a8 a9 a10 a11 a12 a13 a14 a15 a16).bind fun t8 =>
   (Qk n (⟨#[77,115]⟩) 2 ((.func 149:Fn),[],[]) ((.func 150:Fn),[],[]) a0 a1 a2 a3 a4 a5 a6 a7 a8 a9 a10 a11 a12 a13 a14 a15 a16).bind fun t9 =>
   (Qo n ([I t8,I t9])).bind fun t10 =>
   if t10=0 then
    (el Vt a3 1).bind fun t12 =>
    (ZE n t12 1 100).bind fun t13 =>
    (Qm n (((a15).length:Int) == 32) 5).bind fun t14 =>
    (Qo n ([I t13,I t14])).bind fun t15 =>
    some t15
   else
   some t10
  else
  if a1.data.toList=[115,111,105,108] then
   (Qp n t4 a5 a6 a7 a8 a9 a10 a11 a12 a13 a14 a15 a16).bind fun t9 =>
   (Qk n (⟨#[109]⟩) 2 ((.func 151:Fn),[],[]) ((.func 215:Fn),[],[.ref (.fn (.func 153) [] []) 0]) a0 a1 a2 a3 a4 a5 a6 a7 a8 a9 a10 a11 a12 a13 a14 a15 a16).bind fun t10 =>
   (Qo n ([I t9,I t10])).bind fun t11 =>
   if t11=0 then
    (el Vt a3 1).bind fun t13 =>
    (ZE n t13 0 1000).bind fun t14 =>
    some t14
   else
   some t11
  else
  if a1.data.toList=[99,108,101,97,110] then
   (Qp n t4 a5 a6 a7 a8 a9 a10 a11 a12 a13 a14 a15 a16).bind fun t10 =>
   (Qk n (⟨#[109]⟩) 1 ((.func 154:Fn),[],[]) ((.func 215:Fn),[],[.ref (.fn (.func 155) [] []) 0]) a0 a1 a2 a3 a4 a5 a6 a7 a8 a9 a10 a11 a12 a13 a14 a15 a16).bind fun t11 =>
   (Qo n ([I t10,I t11])).bind fun t12 =>
   if t12=0 then
    some 0
   else
   some t12
  else
  if a1.data.toList=[100,101,102,101,99,116] then
   (Qp n t4 a5 a6 a7 a8 a9 a10 a11 a12 a13 a14 a15 a16).bind fun t11 =>
   (Qk n (⟨#[109]⟩) 1 ((.func 216:Fn),[],[.ref (.fn (.func 157) [] []) 0]) ((.func 215:Fn),[],[.ref (.fn (.func 158) [] []) 0]) a0 a1 a2 a3 a4 a5 a6 a7 a8 a9 a10 a11 a12 a13 a14 a15 a16).bind fun t12 =>
   (Qo n ([I t11,I t12])).bind fun t13 =>
   if t13=0 then
    (el Ww a2 0).bind fun t15 =>
    (Qw n 109 a5 a6 a7 a8 a9 a10 a11 a12 a13 a14 a15 a16).bind fun t16 =>
    (QE n t16 t15).bind fun t17 =>
    if 0≤t17∧t17 < ((a15).length:Int) then
    ((nth (a15) (Int.toNat t17)).bind QM).bind fun t19 =>
    (Qm n t19.2.2.2.2.1 9).bind fun t20 =>
    (Qm n t19.2.2.2.2.2 31).bind fun t21 =>
    (Qo n ([I t20,I t21])).bind fun t22 =>
    some t22
    else none
   else
   some t13
  else
  if a1.data.toList=[114,101,112,97,105,114] then
   (Qp n t4 a5 a6 a7 a8 a9 a10 a11 a12 a13 a14 a15 a16).bind fun t12 =>
   (Qk n (⟨#[109]⟩) 1 ((.func 216:Fn),[],[.ref (.fn (.func 159) [] []) 0]) ((.func 215:Fn),[],[.ref (.fn (.func 160) [] []) 0]) a0 a1 a2 a3 a4 a5 a6 a7 a8 a9 a10 a11 a12 a13 a14 a15 a16).bind fun t13 =>
   (Qo n ([I t12,I t13])).bind fun t14 =>
   if t14=0 then
    (el Ww a2 0).bind fun t16 =>
    (Qw n 109 a5 a6 a7 a8 a9 a10 a11 a12 a13 a14 a15 a16).bind fun t17 =>
    (QE n t17 t16).bind fun t18 =>
    if 0≤t18∧t18 < ((a15).length:Int) then
    ((nth (a15) (Int.toNat t18)).bind QM).bind fun t20 =>
    (Qm n (!t20.2.2.2.2.1) 22).bind fun t21 =>
    some t21
    else none
   else
   some t14
  else
  if a1.data.toList=[97,105,109] then
   (Qp n t4 a5 a6 a7 a8 a9 a10 a11 a12 a13 a14 a15 a16).bind fun t13 =>
   (Qk n (⟨#[109]⟩) 1 ((.func 216:Fn),[],[.ref (.fn (.func 161) [] []) 0]) ((.func 215:Fn),[],[.ref (.fn (.func 162) [] []) 0]) a0 a1 a2 a3 a4 a5 a6 a7 a8 a9 a10 a11 a12 a13 a14 a15 a16).bind fun t14 =>
   (Qo n ([I t13,I t14])).bind fun t15 =>
   if t15=0 then
    (el Ww a2 0).bind fun t17 =>
    (Qw n 109 a5 a6 a7 a8 a9 a10 a11 a12 a13 a14 a15 a16).bind fun t18 =>
    (QE n t18 t17).bind fun t19 =>
    if 0≤t19∧t19 < ((a15).length:Int) then
    (Qm n (!a9) 30).bind fun t21 =>
    (Qm n a10 29).bind fun t22 =>
    ((nth (a15) (Int.toNat t19)).bind QM).bind fun t23 =>
    (Qm n t23.2.2.2.2.1 21).bind fun t24 =>
    (Qm n t23.2.2.2.2.2 9).bind fun t25 =>
    (Qo n ([I t21,I t22,I t24,I t25])).bind fun t26 =>
    some t26
    else none
   else
   some t15
  else
  if a1.data.toList=[112,97,114,107] then
   (Qp n t4 a5 a6 a7 a8 a9 a10 a11 a12 a13 a14 a15 a16).bind fun t14 =>
   (Qk n (⟨#[109]⟩) 1 ((.func 216:Fn),[],[.ref (.fn (.func 163) [] []) 0]) ((.func 215:Fn),[],[.ref (.fn (.func 164) [] []) 0]) a0 a1 a2 a3 a4 a5 a6 a7 a8 a9 a10 a11 a12 a13 a14 a15 a16).bind fun t15 =>
   (Qo n ([I t14,I t15])).bind fun t16 =>
   if t16=0 then
    (el Ww a2 0).bind fun t18 =>
    (Qw n 109 a5 a6 a7 a8 a9 a10 a11 a12 a13 a14 a15 a16).bind fun t19 =>
    (QE n t19 t18).bind fun t20 =>
    if 0≤t20∧t20 < ((a15).length:Int) then
    ((nth (a15) (Int.toNat t20)).bind QM).bind fun t22 =>
    (Qm n (!t22.2.2.2.2.2) 22).bind fun t23 =>
    some t23
    else none
   else
   some t16
  else
  if a1.data.toList=[100,105,109] then
   (Qp n t4 a5 a6 a7 a8 a9 a10 a11 a12 a13 a14 a15 a16).bind fun t15 =>
   (Qk n (⟨#[115]⟩) 1 ((.func 154:Fn),[],[]) ((.func 165:Fn),[],[]) a0 a1 a2 a3 a4 a5 a6 a7 a8 a9 a10 a11 a12 a13 a14 a15 a16).bind fun t16 =>
   (Qo n ([I t15,I t16])).bind fun t17 =>
   if t17=0 then
    some 0
   else
   some t17
  else
  if a1.data.toList=[115,117,110] then
   (Qp n t4 a5 a6 a7 a8 a9 a10 a11 a12 a13 a14 a15 a16).bind fun t16 =>
   (Qk n (⟨#[]⟩) 2 ((.func 168:Fn),[],[]) ((.func 169:Fn),[],[]) a0 a1 a2 a3 a4 a5 a6 a7 a8 a9 a10 a11 a12 a13 a14 a15 a16).bind fun t17 =>
   (Qo n ([I t16,I t17])).bind fun t18 =>
   if t18=0 then
    (el Vt a3 1).bind fun t20 =>
    (ZE n t20 0 1000).bind fun t21 =>
    some t21
   else
   some t18
  else
  if a1.data.toList=[102,105,108,108] then
   (Qp n t4 a5 a6 a7 a8 a9 a10 a11 a12 a13 a14 a15 a16).bind fun t17 =>
   (Qk n (⟨#[]⟩) 1 ((.func 170:Fn),[],[]) ((.func 171:Fn),[],[]) a0 a1 a2 a3 a4 a5 a6 a7 a8 a9 a10 a11 a12 a13 a14 a15 a16).bind fun t18 =>
   (Qo n ([I t17,I t18])).bind fun t19 =>
   if t19=0 then
    (Qm n a9 9).bind fun t21 =>
    some t21
   else
   some t19
  else
  if a1.data.toList=[100,114,97,105,110] then
   (Qp n t4 a5 a6 a7 a8 a9 a10 a11 a12 a13 a14 a15 a16).bind fun t18 =>
   (Qk n (⟨#[]⟩) 1 ((.func 172:Fn),[],[]) ((.func 174:Fn),[],[]) a0 a1 a2 a3 a4 a5 a6 a7 a8 a9 a10 a11 a12 a13 a14 a15 a16).bind fun t19 =>
   (Qo n ([I t18,I t19])).bind fun t20 =>
   if t20=0 then
    (Qm n (!a9) 22).bind fun t22 =>
    (W6 n a5 a6 a7 a8 a9 a10 a11 a12 a13 a14 a15 a16).bind fun t23 =>
    (Qm n t23 31).bind fun t24 =>
    (Qo n ([I t22,I t24])).bind fun t25 =>
    some t25
   else
   some t20
  else
  if a1.data.toList=[116,114,105,112] then
   (Qp n t4 a5 a6 a7 a8 a9 a10 a11 a12 a13 a14 a15 a16).bind fun t19 =>
   (Qk n (⟨#[]⟩) 1 ((.func 175:Fn),[],[]) ((.func 176:Fn),[],[]) a0 a1 a2 a3 a4 a5 a6 a7 a8 a9 a10 a11 a12 a13 a14 a15 a16).bind fun t20 =>
   (Qo n ([I t19,I t20])).bind fun t21 =>
   if t21=0 then
    (Qm n a10 9).bind fun t23 =>
    some t23
   else
   some t21
  else
  if a1.data.toList=[114,101,115,101,116] then
   (Qp n t4 a5 a6 a7 a8 a9 a10 a11 a12 a13 a14 a15 a16).bind fun t20 =>
   (Qk n (⟨#[]⟩) 1 ((.func 178:Fn),[],[]) ((.func 179:Fn),[],[]) a0 a1 a2 a3 a4 a5 a6 a7 a8 a9 a10 a11 a12 a13 a14 a15 a16).bind fun t21 =>
   (Qo n ([I t20,I t21])).bind fun t22 =>
   if t22=0 then
    (Qm n (!a10) 22).bind fun t24 =>
    some t24
   else
   some t22
  else
  if a1.data.toList=[111,102,102,101,114] then
   (Qp n t4 a5 a6 a7 a8 a9 a10 a11 a12 a13 a14 a15 a16).bind fun t21 =>
   (Qk n (⟨#[79]⟩) 5 ((.func 180:Fn),[],[]) ((.func 182:Fn),[],[]) a0 a1 a2 a3 a4 a5 a6 a7 a8 a9 a10 a11 a12 a13 a14 a15 a16).bind fun t22 =>
   (Qo n ([I t21,I t22])).bind fun t23 =>
   if t23=0 then
    (WL n a0 a1 a2 a3 a4).bind fun t25 =>
    (el Vt a3 3).bind fun t26 =>
    (ZE n t26 1 1000).bind fun t27 =>
    (el Vt a3 4).bind fun t28 =>
    (ZE n t28 0 1000).bind fun t29 =>
    (Qm n (((a16).length:Int) == 32) 5).bind fun t30 =>
    (Qo n ([I t25.2.2,I t27,I t29,I t30])).bind fun t31 =>
    some t31
   else
   some t23
  else
  if a1.data.toList=[100,101,108,105,118,101,114] then
   (Qp n t4 a5 a6 a7 a8 a9 a10 a11 a12 a13 a14 a15 a16).bind fun t22 =>
   (Qk n (⟨#[111]⟩) 2 ((.func 183:Fn),[],[]) ((.func 184:Fn),[],[]) a0 a1 a2 a3 a4 a5 a6 a7 a8 a9 a10 a11 a12 a13 a14 a15 a16).bind fun t23 =>
   (Qo n ([I t22,I t23])).bind fun t24 =>
   if t24=0 then
    (el Ww a2 0).bind fun t26 =>
    (Qw n 111 a5 a6 a7 a8 a9 a10 a11 a12 a13 a14 a15 a16).bind fun t27 =>
    (QE n t27 t26).bind fun t28 =>
    if 0≤t28∧t28 < ((a16).length:Int) then
    (el Vt a3 1).bind fun t30 =>
    ((nth (a16) (Int.toNat t28)).bind Z6).bind fun t31 =>
    (Qm n t31.2.2.2.2.2.2 23).bind fun t32 =>
    if t4 < t31.2.1 then
     (Um n).bind fun t34 =>
     (Qm n (t30 == 0) 3).bind fun t35 =>
     (Zg n t31.1 t31.2.1 t31.2.2.1 t31.2.2.2.1 t31.2.2.2.2.1 t31.2.2.2.2.2.1 t31.2.2.2.2.2.2).bind fun t36 =>
     (Qm n (decide (t30 > t36)) 20).bind fun t37 =>
     (Qo n ([I t32,I t34,I t35,I t37])).bind fun t38 =>
     if t38=0 then
      if Qh (t30 * 1000000) then
      (Q8 n t4 a5 a6 a7 a8 a9 a10 a11 a12 a13 a14 a15 a16).bind fun t41 =>
      (Qm n (decide ((t30 * 1000000) > t41.2)) 16).bind fun t42 =>
      some t42
      else none
     else
     some t38
    else
    (Qm n (decide (t4 ≥ t31.2.2.1)) 14).bind fun t34 =>
    (Qm n (t30 == 0) 3).bind fun t35 =>
    (Zg n t31.1 t31.2.1 t31.2.2.1 t31.2.2.2.1 t31.2.2.2.2.1 t31.2.2.2.2.2.1 t31.2.2.2.2.2.2).bind fun t36 =>
    (Qm n (decide (t30 > t36)) 20).bind fun t37 =>
    (Qo n ([I t32,I t34,I t35,I t37])).bind fun t38 =>
    if t38=0 then
     if Qh (t30 * 1000000) then
     (Q8 n t4 a5 a6 a7 a8 a9 a10 a11 a12 a13 a14 a15 a16).bind fun t41 =>
     (Qm n (decide ((t30 * 1000000) > t41.2)) 16).bind fun t42 =>
     some t42
     else none
    else
    some t38
    else none
   else
   some t24
  else
  if a1.data.toList=[98,105,108,108] then
   (Qp n t4 a5 a6 a7 a8 a9 a10 a11 a12 a13 a14 a15 a16).bind fun t23 =>
   (Qk n (⟨#[111]⟩) 1 ((.func 185:Fn),[],[]) ((.func 186:Fn),[],[]) a0 a1 a2 a3 a4 a5 a6 a7 a8 a9 a10 a11 a12 a13 a14 a15 a16).bind fun t24 =>
   (Qo n ([I t23,I t24])).bind fun t25 =>
   if t25=0 then
    (el Ww a2 0).bind fun t27 =>
    (Qw n 111 a5 a6 a7 a8 a9 a10 a11 a12 a13 a14 a15 a16).bind fun t28 =>
    (QE n t28 t27).bind fun t29 =>
    if 0≤t29∧t29 < ((a16).length:Int) then
    ((nth (a16) (Int.toNat t29)).bind Z6).bind fun t31 =>
    (Qm n t31.2.2.2.2.2.2 23).bind fun t32 =>
    (Qm n (decide (t4 < t31.2.2.1)) 32).bind fun t33 =>
    (Qo n ([I t32,I t33])).bind fun t34 =>
    some t34
    else none
   else
   some t25
  else
  if a1.data.toList=[117,110,100,111] then
   (Qp n t4 a5 a6 a7 a8 a9 a10 a11 a12 a13 a14 a15 a16).bind fun t24 =>
   (Qk n (⟨#[]⟩) 0 ((.func 154:Fn),[],[]) ((.func 187:Fn),[],[]) a0 a1 a2 a3 a4 a5 a6 a7 a8 a9 a10 a11 a12 a13 a14 a15 a16).bind fun t25 =>
   (Qo n ([I t24,I t25])).bind fun t26 =>
   if t26=0 then
    some 0
   else
   some t26
  else
  none
 else
 some 11
 else none
theorem YZ {n:Nat} {a0:Int} {a1:jSj} {a2 a3:jVj} {a4:jSj} {a5 a6:jVj} {a7 a8:Int} {a9 a10:Bool} {a11 a12 a13:Int} {a14 a15 a16:jVj} {r:Int} (h:Qs n a0 a1 a2 a3 a4 a5 a6 a7 a8 a9 a10 a11 a12 a13 a14 a15 a16=some r):ComputesO cx 87 [.ptr 0 0 0 0 0,.d (.agg [I a0,.v (.string a1),.lst false 1 a2,.lst false 1 a3,.v (.string a4)])] (some (Qb a5 a6 a7 a8 a9 a10 a11 a12 a13 a14 a15 a16)) (.d (I r)) (Qb a5 a6 a7 a8 a9 a10 a11 a12 a13 a14 a15 a16) ZV:=by
 unfold Qs at h
 obtain ⟨h1,h⟩:=gd h
 have q:=Qa h1 QL
 rcases io h with ⟨h2,h⟩ | ⟨h2,h⟩
 ·have q:=Qa (nef h2) q
  let o (l:List Orc):=b0::l
  rcases io h with ⟨h3,h⟩ | ⟨h3,h⟩
  ·have q:=Qa h3 q
   rcases io h with ⟨h4,h⟩ | ⟨h4,h⟩
   ·obtain rfl:=oi h
    exact rfO 0 (o [b1,b1]) (Qa (eqt h4) q)
   obtain ⟨h5,h⟩:=gd h;obtain ⟨h6,h⟩:=gd h;obtain ⟨t7,h7,h⟩:=bo h
   have q:=Qa (QX Ql h7) (Qa h6 (Qa h5 (Qa (eqf h4) q)))
   let o l:=o (b1::b0::b1::.el (QP t7)::l)
   rcases io h with ⟨h8,h⟩ | ⟨h8,h⟩
   ·obtain ⟨t9,h9,h⟩:=bo h;obtain rfl:=oi h
    exact rfO 0 (o [b1,.ret (I t9)]) (Qa (jh h9) (Qa h8 q))
   obtain ⟨t9,h9,h⟩:=bo h;obtain rfl:=oi h
   exact rfO 0 (o [b0,.ret (I t9)]) (Qa (Qu h9) (Qa (QA h8) q))
  obtain ⟨t4,h4,h⟩:=bo h
  have q:=allE Qi h4 (Qa (QA h3) q)
  let o l:=o (b0::.el (Q3 t4)::l)
  rcases io h with ⟨h5,h⟩ | ⟨h5,h⟩
  ·obtain rfl:=oi h
   exact rfO 0 (o [b1]) (Qa (jDj h5) q)
  have q:=Qa (jEj h5) q
  let o l:=o (b0::b1::(no 28 l))
  rcases io h with ⟨h6,h⟩ | ⟨h6,h⟩
  ·obtain ⟨t7,h7,h⟩:=bo h;obtain ⟨t8,h8,h⟩:=bo h;obtain ⟨t9,h9,h⟩:=bo h
   have q:=Qa (((Qx h9).le (.cons (.full _ _ _) (.nil)) (.refl _)):Computes cx 67 [.lst true 1 [I t7,I t8]] (I t9)) (Qa (QI h8) (Qa (Qv h7) (allE Qi h4 (Qa (mk1 ⟨#[115,101,99,116,111,114]⟩ (.agg [.v (.string ⟨#[83]⟩),I 1,.fn (.func 147) [] [],.fn (.func 148) [] []]) h6) q))))
   let o l:=o (.el (.agg [.v (.string ⟨#[83]⟩),I 1,.fn (.func 147) [] [],.fn (.func 148) [] []])::.el (Q3 t4)::.obj (some 0) (.d (I t7)) (Qb a5 a6 a7 a8 a9 a10 a11 a12 a13 a14 a15 a16) ZV::.obj (some 0) (.d (I t8)) (Qb a5 a6 a7 a8 a9 a10 a11 a12 a13 a14 a15 a16) ZV::.ret (I t9)::l)
   rcases io h with ⟨h10,h⟩ | ⟨h10,h⟩
   ·obtain ⟨t11,h11,h⟩:=bo h;obtain rfl:=oi h
    exact rfO 0 (o [b0,.ix (-9),b1,.ret (I t11)]) (Qa (Qu h11) (Qa (nef h10) q))
   obtain rfl:=oi h
   exact rfO 0 (o [b1]) (Qa (net h10) q)
  rcases io h with ⟨h7,h⟩ | ⟨h7,h⟩
  ·obtain ⟨t8,h8,h⟩:=bo h;obtain ⟨t9,h9,h⟩:=bo h;obtain ⟨t10,h10,h⟩:=bo h
   have q:=Qa (((Qx h10).le (.cons (.full _ _ _) (.nil)) (.refl _)):Computes cx 67 [.lst true 1 [I t8,I t9]] (I t10)) (Qa (QI h9) (Qa (Qv h8) (allE Qi h4 (Qa (mk1 ⟨#[109,105,114,114,111,114]⟩ (.agg [.v (.string ⟨#[77,115]⟩),I 2,.fn (.func 149) [] [],.fn (.func 150) [] []]) h7) q))))
   let o l:=o (.el (.agg [.v (.string ⟨#[77,115]⟩),I 2,.fn (.func 149) [] [],.fn (.func 150) [] []])::.el (Q3 t4)::.obj (some 0) (.d (I t8)) (Qb a5 a6 a7 a8 a9 a10 a11 a12 a13 a14 a15 a16) ZV::.obj (some 0) (.d (I t9)) (Qb a5 a6 a7 a8 a9 a10 a11 a12 a13 a14 a15 a16) ZV::.ret (I t10)::l)
   rcases io h with ⟨h11,h⟩ | ⟨h11,h⟩
   ·obtain ⟨t12,h12,h⟩:=bo h;obtain ⟨t13,h13,h⟩:=bo h;obtain ⟨t14,h14,h⟩:=bo h;obtain ⟨t15,h15,h⟩:=bo h;obtain rfl:=oi h
    exact rfO 0 (o [b0,.ix (-9),b1,.el (Q3 t12),.ret (I t13),.ret (I t14),.ret (I t15)]) (Qa (((Qx h15).le (.cons (.full _ _ _) (.nil)) (.refl _)):Computes cx 67 [.lst true 1 [I t13,I t14]] (I t15)) (Qa (Qu h14) (Qa (WK h13) (allE Qi h12 (Qa (nef h11) q)))))
   obtain rfl:=oi h
   exact rfO 0 (o [b1]) (Qa (net h11) q)
  rcases io h with ⟨h8,h⟩ | ⟨h8,h⟩
  ·obtain ⟨t9,h9,h⟩:=bo h;obtain ⟨t10,h10,h⟩:=bo h;obtain ⟨t11,h11,h⟩:=bo h
   have q:=Qa (((Qx h11).le (.cons (.full _ _ _) (.nil)) (.refl _)):Computes cx 67 [.lst true 1 [I t9,I t10]] (I t11)) (Qa (QI h10) (Qa (Qv h9) (allE Qi h4 (Qa (mk1 ⟨#[115,111,105,108]⟩ (.agg [.v (.string ⟨#[109]⟩),I 2,.fn (.func 151) [] [],.fn (.func 215) [] [.ref (.fn (.func 153) [] []) 0]]) h8) q))))
   let o l:=o (.el (.agg [.v (.string ⟨#[109]⟩),I 2,.fn (.func 151) [] [],.fn (.func 215) [] [.ref (.fn (.func 153) [] []) 0]])::.el (Q3 t4)::.obj (some 0) (.d (I t9)) (Qb a5 a6 a7 a8 a9 a10 a11 a12 a13 a14 a15 a16) ZV::.obj (some 0) (.d (I t10)) (Qb a5 a6 a7 a8 a9 a10 a11 a12 a13 a14 a15 a16) ZV::.ret (I t11)::l)
   rcases io h with ⟨h12,h⟩ | ⟨h12,h⟩
   ·obtain ⟨t13,h13,h⟩:=bo h;obtain ⟨t14,h14,h⟩:=bo h;obtain rfl:=oi h
    exact rfO 0 (o [b0,.ix (-9),b1,.el (Q3 t13),.ret (I t14)]) (Qa (WK h14) (allE Qi h13 (Qa (nef h12) q)))
   obtain rfl:=oi h
   exact rfO 0 (o [b1]) (Qa (net h12) q)
  rcases io h with ⟨h9,h⟩ | ⟨h9,h⟩
  ·obtain ⟨t10,h10,h⟩:=bo h;obtain ⟨t11,h11,h⟩:=bo h;obtain ⟨t12,h12,h⟩:=bo h
   have q:=Qa (((Qx h12).le (.cons (.full _ _ _) (.nil)) (.refl _)):Computes cx 67 [.lst true 1 [I t10,I t11]] (I t12)) (Qa (QI h11) (Qa (Qv h10) (allE Qi h4 (Qa (mk1 ⟨#[99,108,101,97,110]⟩ (.agg [.v (.string ⟨#[109]⟩),I 1,.fn (.func 154) [] [],.fn (.func 215) [] [.ref (.fn (.func 155) [] []) 0]]) h9) q))))
   let o l:=o (.el (.agg [.v (.string ⟨#[109]⟩),I 1,.fn (.func 154) [] [],.fn (.func 215) [] [.ref (.fn (.func 155) [] []) 0]])::.el (Q3 t4)::.obj (some 0) (.d (I t10)) (Qb a5 a6 a7 a8 a9 a10 a11 a12 a13 a14 a15 a16) ZV::.obj (some 0) (.d (I t11)) (Qb a5 a6 a7 a8 a9 a10 a11 a12 a13 a14 a15 a16) ZV::.ret (I t12)::l)
   rcases io h with ⟨h13,h⟩ | ⟨h13,h⟩
   ·obtain rfl:=oi h
    exact rfO 0 (o [b0,.ix (-9),b1]) (Qa (nef h13) q)
   obtain rfl:=oi h
   exact rfO 0 (o [b1]) (Qa (net h13) q)
  rcases io h with ⟨h10,h⟩ | ⟨h10,h⟩
  ·obtain ⟨t11,h11,h⟩:=bo h;obtain ⟨t12,h12,h⟩:=bo h;obtain ⟨t13,h13,h⟩:=bo h
   have q:=Qa (((Qx h13).le (.cons (.full _ _ _) (.nil)) (.refl _)):Computes cx 67 [.lst true 1 [I t11,I t12]] (I t13)) (Qa (QI h12) (Qa (Qv h11) (allE Qi h4 (Qa (mk1 ⟨#[100,101,102,101,99,116]⟩ (.agg [.v (.string ⟨#[109]⟩),I 1,.fn (.func 216) [] [.ref (.fn (.func 157) [] []) 0],.fn (.func 215) [] [.ref (.fn (.func 158) [] []) 0]]) h10) q))))
   let o l:=o (.el (.agg [.v (.string ⟨#[109]⟩),I 1,.fn (.func 216) [] [.ref (.fn (.func 157) [] []) 0],.fn (.func 215) [] [.ref (.fn (.func 158) [] []) 0]])::.el (Q3 t4)::.obj (some 0) (.d (I t11)) (Qb a5 a6 a7 a8 a9 a10 a11 a12 a13 a14 a15 a16) ZV::.obj (some 0) (.d (I t12)) (Qb a5 a6 a7 a8 a9 a10 a11 a12 a13 a14 a15 a16) ZV::.ret (I t13)::l)
   rcases io h with ⟨h14,h⟩ | ⟨h14,h⟩
   ·obtain ⟨t15,h15,h⟩:=bo h;obtain ⟨t16,h16,h⟩:=bo h;obtain ⟨t17,h17,h⟩:=bo h;obtain ⟨h18,h⟩:=gd h;obtain ⟨t19,h19,h⟩:=bo h;obtain ⟨t20,h20,h⟩:=bo h;obtain ⟨t21,h21,h⟩:=bo h;obtain ⟨t22,h22,h⟩:=bo h;obtain rfl:=oi h
    exact rfO 0 (o [b0,.ix (-9),b1,.el (Zy t15),.ix (-9),b1,.obj (some 0) (.d (.lst false 1 t16)) (Qb a5 a6 a7 a8 a9 a10 a11 a12 a13 a14 a15 a16) ZV,.ret (I t17),b1,.ix (-9),b1,.el (QB t19),.ret (I t20),.el (QB t19),.ret (I t21),.ret (I t22)]) (Qa (((Qx h22).le (.cons (.full _ _ _) (.nil)) (.refl _)):Computes cx 67 [.lst true 1 [I t20,I t21]] (I t22)) (Qa (Qu h21) (Qa (QX Qq h19) (Qa (Qu h20) (Qa (QX Qq h19) (Qa h18 (Qa (QK h17) (Qa (QC h16) (allE Qr h15 (Qa (nef h14) q))))))))))
   obtain rfl:=oi h
   exact rfO 0 (o [b1]) (Qa (net h14) q)
  rcases io h with ⟨h11,h⟩ | ⟨h11,h⟩
  ·obtain ⟨t12,h12,h⟩:=bo h;obtain ⟨t13,h13,h⟩:=bo h;obtain ⟨t14,h14,h⟩:=bo h
   have q:=Qa (((Qx h14).le (.cons (.full _ _ _) (.nil)) (.refl _)):Computes cx 67 [.lst true 1 [I t12,I t13]] (I t14)) (Qa (QI h13) (Qa (Qv h12) (allE Qi h4 (Qa (mk1 ⟨#[114,101,112,97,105,114]⟩ (.agg [.v (.string ⟨#[109]⟩),I 1,.fn (.func 216) [] [.ref (.fn (.func 159) [] []) 0],.fn (.func 215) [] [.ref (.fn (.func 160) [] []) 0]]) h11) q))))
   let o l:=o (.el (.agg [.v (.string ⟨#[109]⟩),I 1,.fn (.func 216) [] [.ref (.fn (.func 159) [] []) 0],.fn (.func 215) [] [.ref (.fn (.func 160) [] []) 0]])::.el (Q3 t4)::.obj (some 0) (.d (I t12)) (Qb a5 a6 a7 a8 a9 a10 a11 a12 a13 a14 a15 a16) ZV::.obj (some 0) (.d (I t13)) (Qb a5 a6 a7 a8 a9 a10 a11 a12 a13 a14 a15 a16) ZV::.ret (I t14)::l)
   rcases io h with ⟨h15,h⟩ | ⟨h15,h⟩
   ·obtain ⟨t16,h16,h⟩:=bo h;obtain ⟨t17,h17,h⟩:=bo h;obtain ⟨t18,h18,h⟩:=bo h;obtain ⟨h19,h⟩:=gd h;obtain ⟨t20,h20,h⟩:=bo h;obtain ⟨t21,h21,h⟩:=bo h;obtain rfl:=oi h
    exact rfO 0 (o [b0,.ix (-9),b1,.el (Zy t16),.ix (-9),b1,.obj (some 0) (.d (.lst false 1 t17)) (Qb a5 a6 a7 a8 a9 a10 a11 a12 a13 a14 a15 a16) ZV,.ret (I t18),b1,.ix (-9),b1,.el (QB t20),.ret (I t21)]) (Qa (Qu h21) (Qa (QX Qq h20) (Qa h19 (Qa (QK h18) (Qa (QC h17) (allE Qr h16 (Qa (nef h15) q)))))))
   obtain rfl:=oi h
   exact rfO 0 (o [b1]) (Qa (net h15) q)
  rcases io h with ⟨h12,h⟩ | ⟨h12,h⟩
  ·obtain ⟨t13,h13,h⟩:=bo h;obtain ⟨t14,h14,h⟩:=bo h;obtain ⟨t15,h15,h⟩:=bo h
   have q:=Qa (((Qx h15).le (.cons (.full _ _ _) (.nil)) (.refl _)):Computes cx 67 [.lst true 1 [I t13,I t14]] (I t15)) (Qa (QI h14) (Qa (Qv h13) (allE Qi h4 (Qa (mk1 ⟨#[97,105,109]⟩ (.agg [.v (.string ⟨#[109]⟩),I 1,.fn (.func 216) [] [.ref (.fn (.func 161) [] []) 0],.fn (.func 215) [] [.ref (.fn (.func 162) [] []) 0]]) h12) q))))
   let o l:=o (.el (.agg [.v (.string ⟨#[109]⟩),I 1,.fn (.func 216) [] [.ref (.fn (.func 161) [] []) 0],.fn (.func 215) [] [.ref (.fn (.func 162) [] []) 0]])::.el (Q3 t4)::.obj (some 0) (.d (I t13)) (Qb a5 a6 a7 a8 a9 a10 a11 a12 a13 a14 a15 a16) ZV::.obj (some 0) (.d (I t14)) (Qb a5 a6 a7 a8 a9 a10 a11 a12 a13 a14 a15 a16) ZV::.ret (I t15)::l)
   rcases io h with ⟨h16,h⟩ | ⟨h16,h⟩
   ·obtain ⟨t17,h17,h⟩:=bo h;obtain ⟨t18,h18,h⟩:=bo h;obtain ⟨t19,h19,h⟩:=bo h;obtain ⟨h20,h⟩:=gd h;obtain ⟨t21,h21,h⟩:=bo h;obtain ⟨t22,h22,h⟩:=bo h;obtain ⟨t23,h23,h⟩:=bo h;obtain ⟨t24,h24,h⟩:=bo h;obtain ⟨t25,h25,h⟩:=bo h;obtain ⟨t26,h26,h⟩:=bo h;obtain rfl:=oi h
    exact rfO 0 (o [b0,.ix (-9),b1,.el (Zy t17),.ix (-9),b1,.obj (some 0) (.d (.lst false 1 t18)) (Qb a5 a6 a7 a8 a9 a10 a11 a12 a13 a14 a15 a16) ZV,.ret (I t19),b1,.ix (-9),b1,.ret (I t21),.ret (I t22),.el (QB t23),.ret (I t24),.el (QB t23),.ret (I t25),.ret (I t26)]) (Qa (((Qx h26).le (.cons (.full _ _ _) (.nil)) (.refl _)):Computes cx 67 [.lst true 1 [I t21,I t22,I t24,I t25]] (I t26)) (Qa (Qu h25) (Qa (QX Qq h23) (Qa (Qu h24) (Qa (QX Qq h23) (Qa (Qu h22) (Qa (Qu h21) (Qa h20 (Qa (QK h19) (Qa (QC h18) (allE Qr h17 (Qa (nef h16) q))))))))))))
   obtain rfl:=oi h
   exact rfO 0 (o [b1]) (Qa (net h16) q)
  rcases io h with ⟨h13,h⟩ | ⟨h13,h⟩
  ·obtain ⟨t14,h14,h⟩:=bo h;obtain ⟨t15,h15,h⟩:=bo h;obtain ⟨t16,h16,h⟩:=bo h
   have q:=Qa (((Qx h16).le (.cons (.full _ _ _) (.nil)) (.refl _)):Computes cx 67 [.lst true 1 [I t14,I t15]] (I t16)) (Qa (QI h15) (Qa (Qv h14) (allE Qi h4 (Qa (mk1 ⟨#[112,97,114,107]⟩ (.agg [.v (.string ⟨#[109]⟩),I 1,.fn (.func 216) [] [.ref (.fn (.func 163) [] []) 0],.fn (.func 215) [] [.ref (.fn (.func 164) [] []) 0]]) h13) q))))
   let o l:=o (.el (.agg [.v (.string ⟨#[109]⟩),I 1,.fn (.func 216) [] [.ref (.fn (.func 163) [] []) 0],.fn (.func 215) [] [.ref (.fn (.func 164) [] []) 0]])::.el (Q3 t4)::.obj (some 0) (.d (I t14)) (Qb a5 a6 a7 a8 a9 a10 a11 a12 a13 a14 a15 a16) ZV::.obj (some 0) (.d (I t15)) (Qb a5 a6 a7 a8 a9 a10 a11 a12 a13 a14 a15 a16) ZV::.ret (I t16)::l)
   rcases io h with ⟨h17,h⟩ | ⟨h17,h⟩
   ·obtain ⟨t18,h18,h⟩:=bo h;obtain ⟨t19,h19,h⟩:=bo h;obtain ⟨t20,h20,h⟩:=bo h;obtain ⟨h21,h⟩:=gd h;obtain ⟨t22,h22,h⟩:=bo h;obtain ⟨t23,h23,h⟩:=bo h;obtain rfl:=oi h
    exact rfO 0 (o [b0,.ix (-9),b1,.el (Zy t18),.ix (-9),b1,.obj (some 0) (.d (.lst false 1 t19)) (Qb a5 a6 a7 a8 a9 a10 a11 a12 a13 a14 a15 a16) ZV,.ret (I t20),b1,.ix (-9),b1,.el (QB t22),.ret (I t23)]) (Qa (Qu h23) (Qa (QX Qq h22) (Qa h21 (Qa (QK h20) (Qa (QC h19) (allE Qr h18 (Qa (nef h17) q)))))))
   obtain rfl:=oi h
   exact rfO 0 (o [b1]) (Qa (net h17) q)
  rcases io h with ⟨h14,h⟩ | ⟨h14,h⟩
  ·obtain ⟨t15,h15,h⟩:=bo h;obtain ⟨t16,h16,h⟩:=bo h;obtain ⟨t17,h17,h⟩:=bo h
   have q:=Qa (((Qx h17).le (.cons (.full _ _ _) (.nil)) (.refl _)):Computes cx 67 [.lst true 1 [I t15,I t16]] (I t17)) (Qa (QI h16) (Qa (Qv h15) (allE Qi h4 (Qa (mk1 ⟨#[100,105,109]⟩ (.agg [.v (.string ⟨#[115]⟩),I 1,.fn (.func 154) [] [],.fn (.func 165) [] []]) h14) q))))
   let o l:=o (.el (.agg [.v (.string ⟨#[115]⟩),I 1,.fn (.func 154) [] [],.fn (.func 165) [] []])::.el (Q3 t4)::.obj (some 0) (.d (I t15)) (Qb a5 a6 a7 a8 a9 a10 a11 a12 a13 a14 a15 a16) ZV::.obj (some 0) (.d (I t16)) (Qb a5 a6 a7 a8 a9 a10 a11 a12 a13 a14 a15 a16) ZV::.ret (I t17)::l)
   rcases io h with ⟨h18,h⟩ | ⟨h18,h⟩
   ·obtain rfl:=oi h
    exact rfO 0 (o [b0,.ix (-9),b1]) (Qa (nef h18) q)
   obtain rfl:=oi h
   exact rfO 0 (o [b1]) (Qa (net h18) q)
  rcases io h with ⟨h15,h⟩ | ⟨h15,h⟩
  ·obtain ⟨t16,h16,h⟩:=bo h;obtain ⟨t17,h17,h⟩:=bo h;obtain ⟨t18,h18,h⟩:=bo h
   have q:=Qa (((Qx h18).le (.cons (.full _ _ _) (.nil)) (.refl _)):Computes cx 67 [.lst true 1 [I t16,I t17]] (I t18)) (Qa (QI h17) (Qa (Qv h16) (allE Qi h4 (Qa (mk1 ⟨#[115,117,110]⟩ (.agg [.v (.string ⟨#[]⟩),I 2,.fn (.func 168) [] [],.fn (.func 169) [] []]) h15) q))))
   let o l:=o (.el (.agg [.v (.string ⟨#[]⟩),I 2,.fn (.func 168) [] [],.fn (.func 169) [] []])::.el (Q3 t4)::.obj (some 0) (.d (I t16)) (Qb a5 a6 a7 a8 a9 a10 a11 a12 a13 a14 a15 a16) ZV::.obj (some 0) (.d (I t17)) (Qb a5 a6 a7 a8 a9 a10 a11 a12 a13 a14 a15 a16) ZV::.ret (I t18)::l)
   rcases io h with ⟨h19,h⟩ | ⟨h19,h⟩
   ·obtain ⟨t20,h20,h⟩:=bo h;obtain ⟨t21,h21,h⟩:=bo h;obtain rfl:=oi h
    exact rfO 0 (o [b0,.ix (-9),b1,.el (Q3 t20),.ret (I t21)]) (Qa (WK h21) (allE Qi h20 (Qa (nef h19) q)))
   obtain rfl:=oi h
   exact rfO 0 (o [b1]) (Qa (net h19) q)
  rcases io h with ⟨h16,h⟩ | ⟨h16,h⟩
  ·obtain ⟨t17,h17,h⟩:=bo h;obtain ⟨t18,h18,h⟩:=bo h;obtain ⟨t19,h19,h⟩:=bo h
   have q:=Qa (((Qx h19).le (.cons (.full _ _ _) (.nil)) (.refl _)):Computes cx 67 [.lst true 1 [I t17,I t18]] (I t19)) (Qa (QI h18) (Qa (Qv h17) (allE Qi h4 (Qa (mk1 ⟨#[102,105,108,108]⟩ (.agg [.v (.string ⟨#[]⟩),I 1,.fn (.func 170) [] [],.fn (.func 171) [] []]) h16) q))))
   let o l:=o (.el (.agg [.v (.string ⟨#[]⟩),I 1,.fn (.func 170) [] [],.fn (.func 171) [] []])::.el (Q3 t4)::.obj (some 0) (.d (I t17)) (Qb a5 a6 a7 a8 a9 a10 a11 a12 a13 a14 a15 a16) ZV::.obj (some 0) (.d (I t18)) (Qb a5 a6 a7 a8 a9 a10 a11 a12 a13 a14 a15 a16) ZV::.ret (I t19)::l)
   rcases io h with ⟨h20,h⟩ | ⟨h20,h⟩
   ·obtain ⟨t21,h21,h⟩:=bo h;obtain rfl:=oi h
    exact rfO 0 (o [b0,.ix (-9),b1,.ret (I t21)]) (Qa (Qu h21) (Qa (nef h20) q))
   obtain rfl:=oi h
   exact rfO 0 (o [b1]) (Qa (net h20) q)
  rcases io h with ⟨h17,h⟩ | ⟨h17,h⟩
  ·obtain ⟨t18,h18,h⟩:=bo h;obtain ⟨t19,h19,h⟩:=bo h;obtain ⟨t20,h20,h⟩:=bo h
   have q:=Qa (((Qx h20).le (.cons (.full _ _ _) (.nil)) (.refl _)):Computes cx 67 [.lst true 1 [I t18,I t19]] (I t20)) (Qa (QI h19) (Qa (Qv h18) (allE Qi h4 (Qa (mk1 ⟨#[100,114,97,105,110]⟩ (.agg [.v (.string ⟨#[]⟩),I 1,.fn (.func 172) [] [],.fn (.func 174) [] []]) h17) q))))
   let o l:=o (.el (.agg [.v (.string ⟨#[]⟩),I 1,.fn (.func 172) [] [],.fn (.func 174) [] []])::.el (Q3 t4)::.obj (some 0) (.d (I t18)) (Qb a5 a6 a7 a8 a9 a10 a11 a12 a13 a14 a15 a16) ZV::.obj (some 0) (.d (I t19)) (Qb a5 a6 a7 a8 a9 a10 a11 a12 a13 a14 a15 a16) ZV::.ret (I t20)::l)
   rcases io h with ⟨h21,h⟩ | ⟨h21,h⟩
   ·obtain ⟨t22,h22,h⟩:=bo h;obtain ⟨t23,h23,h⟩:=bo h;obtain ⟨t24,h24,h⟩:=bo h;obtain ⟨t25,h25,h⟩:=bo h;obtain rfl:=oi h
    exact rfO 0 (o [b0,.ix (-9),b1,.ret (I t22),.obj (some 0) (.d (B t23)) (Qb a5 a6 a7 a8 a9 a10 a11 a12 a13 a14 a15 a16) ZV,.ret (I t24),.ret (I t25)]) (Qa (((Qx h25).le (.cons (.full _ _ _) (.nil)) (.refl _)):Computes cx 67 [.lst true 1 [I t22,I t24]] (I t25)) (Qa (Qu h24) (Qa (Xv h23) (Qa (Qu h22) (Qa (nef h21) q)))))
   obtain rfl:=oi h
   exact rfO 0 (o [b1]) (Qa (net h21) q)
  rcases io h with ⟨h18,h⟩ | ⟨h18,h⟩
  ·obtain ⟨t19,h19,h⟩:=bo h;obtain ⟨t20,h20,h⟩:=bo h;obtain ⟨t21,h21,h⟩:=bo h
   have q:=Qa (((Qx h21).le (.cons (.full _ _ _) (.nil)) (.refl _)):Computes cx 67 [.lst true 1 [I t19,I t20]] (I t21)) (Qa (QI h20) (Qa (Qv h19) (allE Qi h4 (Qa (mk1 ⟨#[116,114,105,112]⟩ (.agg [.v (.string ⟨#[]⟩),I 1,.fn (.func 175) [] [],.fn (.func 176) [] []]) h18) q))))
   let o l:=o (.el (.agg [.v (.string ⟨#[]⟩),I 1,.fn (.func 175) [] [],.fn (.func 176) [] []])::.el (Q3 t4)::.obj (some 0) (.d (I t19)) (Qb a5 a6 a7 a8 a9 a10 a11 a12 a13 a14 a15 a16) ZV::.obj (some 0) (.d (I t20)) (Qb a5 a6 a7 a8 a9 a10 a11 a12 a13 a14 a15 a16) ZV::.ret (I t21)::l)
   rcases io h with ⟨h22,h⟩ | ⟨h22,h⟩
   ·obtain ⟨t23,h23,h⟩:=bo h;obtain rfl:=oi h
    exact rfO 0 (o [b0,.ix (-9),b1,.ret (I t23)]) (Qa (Qu h23) (Qa (nef h22) q))
   obtain rfl:=oi h
   exact rfO 0 (o [b1]) (Qa (net h22) q)
  rcases io h with ⟨h19,h⟩ | ⟨h19,h⟩
  ·obtain ⟨t20,h20,h⟩:=bo h;obtain ⟨t21,h21,h⟩:=bo h;obtain ⟨t22,h22,h⟩:=bo h
   have q:=Qa (((Qx h22).le (.cons (.full _ _ _) (.nil)) (.refl _)):Computes cx 67 [.lst true 1 [I t20,I t21]] (I t22)) (Qa (QI h21) (Qa (Qv h20) (allE Qi h4 (Qa (mk1 ⟨#[114,101,115,101,116]⟩ (.agg [.v (.string ⟨#[]⟩),I 1,.fn (.func 178) [] [],.fn (.func 179) [] []]) h19) q))))
   let o l:=o (.el (.agg [.v (.string ⟨#[]⟩),I 1,.fn (.func 178) [] [],.fn (.func 179) [] []])::.el (Q3 t4)::.obj (some 0) (.d (I t20)) (Qb a5 a6 a7 a8 a9 a10 a11 a12 a13 a14 a15 a16) ZV::.obj (some 0) (.d (I t21)) (Qb a5 a6 a7 a8 a9 a10 a11 a12 a13 a14 a15 a16) ZV::.ret (I t22)::l)
   rcases io h with ⟨h23,h⟩ | ⟨h23,h⟩
   ·obtain ⟨t24,h24,h⟩:=bo h;obtain rfl:=oi h
    exact rfO 0 (o [b0,.ix (-9),b1,.ret (I t24)]) (Qa (Qu h24) (Qa (nef h23) q))
   obtain rfl:=oi h
   exact rfO 0 (o [b1]) (Qa (net h23) q)
  rcases io h with ⟨h20,h⟩ | ⟨h20,h⟩
  ·obtain ⟨t21,h21,h⟩:=bo h;obtain ⟨t22,h22,h⟩:=bo h;obtain ⟨t23,h23,h⟩:=bo h
   have q:=Qa (((Qx h23).le (.cons (.full _ _ _) (.nil)) (.refl _)):Computes cx 67 [.lst true 1 [I t21,I t22]] (I t23)) (Qa (QI h22) (Qa (Qv h21) (allE Qi h4 (Qa (mk1 ⟨#[111,102,102,101,114]⟩ (.agg [.v (.string ⟨#[79]⟩),I 5,.fn (.func 180) [] [],.fn (.func 182) [] []]) h20) q))))
   let o l:=o (.el (.agg [.v (.string ⟨#[79]⟩),I 5,.fn (.func 180) [] [],.fn (.func 182) [] []])::.el (Q3 t4)::.obj (some 0) (.d (I t21)) (Qb a5 a6 a7 a8 a9 a10 a11 a12 a13 a14 a15 a16) ZV::.obj (some 0) (.d (I t22)) (Qb a5 a6 a7 a8 a9 a10 a11 a12 a13 a14 a15 a16) ZV::.ret (I t23)::l)
   rcases io h with ⟨h24,h⟩ | ⟨h24,h⟩
   ·obtain ⟨t25,h25,h⟩:=bo h;obtain ⟨t26,h26,h⟩:=bo h;obtain ⟨t27,h27,h⟩:=bo h;obtain ⟨t28,h28,h⟩:=bo h;obtain ⟨t29,h29,h⟩:=bo h;obtain ⟨t30,h30,h⟩:=bo h;obtain ⟨t31,h31,h⟩:=bo h;obtain rfl:=oi h
    exact rfO 0 (o [b0,.ix (-9),b1,.ret (.tup [.agg [I t25.1,I t25.2.1],I t25.2.2]),.el (Q3 t26),.ret (I t27),.el (Q3 t28),.ret (I t29),.ret (I t30),.ret (I t31)]) (Qa (((Qx h31).le (.cons (.full _ _ _) (.nil)) (.refl _)):Computes cx 67 [.lst true 1 [I t25.2.2,I t27,I t29,I t30]] (I t31)) (Qa (Qu h30) (Qa (WK h29) (allE Qi h28 (Qa (WK h27) (allE Qi h26 (Qa (GT h25) (Qa (nef h24) q))))))))
   obtain rfl:=oi h
   exact rfO 0 (o [b1]) (Qa (net h24) q)
  rcases io h with ⟨h21,h⟩ | ⟨h21,h⟩
  ·obtain ⟨t22,h22,h⟩:=bo h;obtain ⟨t23,h23,h⟩:=bo h;obtain ⟨t24,h24,h⟩:=bo h
   have q:=Qa (((Qx h24).le (.cons (.full _ _ _) (.nil)) (.refl _)):Computes cx 67 [.lst true 1 [I t22,I t23]] (I t24)) (Qa (QI h23) (Qa (Qv h22) (allE Qi h4 (Qa (mk1 ⟨#[100,101,108,105,118,101,114]⟩ (.agg [.v (.string ⟨#[111]⟩),I 2,.fn (.func 183) [] [],.fn (.func 184) [] []]) h21) q))))
   let o l:=o (.el (.agg [.v (.string ⟨#[111]⟩),I 2,.fn (.func 183) [] [],.fn (.func 184) [] []])::.el (Q3 t4)::.obj (some 0) (.d (I t22)) (Qb a5 a6 a7 a8 a9 a10 a11 a12 a13 a14 a15 a16) ZV::.obj (some 0) (.d (I t23)) (Qb a5 a6 a7 a8 a9 a10 a11 a12 a13 a14 a15 a16) ZV::.ret (I t24)::l)
   rcases io h with ⟨h25,h⟩ | ⟨h25,h⟩
   ·obtain ⟨t26,h26,h⟩:=bo h;obtain ⟨t27,h27,h⟩:=bo h;obtain ⟨t28,h28,h⟩:=bo h;obtain ⟨h29,h⟩:=gd h;obtain ⟨t30,h30,h⟩:=bo h;obtain ⟨t31,h31,h⟩:=bo h;obtain ⟨t32,h32,h⟩:=bo h
    have q:=Qa (QX Q0 h31) (Qa (Qu h32) (Qa (QX Q0 h31) (allE Qi h30 (allE Qi h4 (Qa h29 (Qa (QK h28) (Qa (QC h27) (allE Qr h26 (Qa (nef h25) q)))))))))
    let o l:=o (b0::.ix (-9)::b1::.el (Zy t26)::.ix (-9)::b1::.obj (some 0) (.d (.lst false 1 t27)) (Qb a5 a6 a7 a8 a9 a10 a11 a12 a13 a14 a15 a16) ZV::.ret (I t28)::b1::.el (Q3 t4)::.el (Q3 t30)::.el (Q7 t31)::.ret (I t32)::.el (Q7 t31)::l)
    rcases io h with ⟨h33,h⟩ | ⟨h33,h⟩
    ·obtain ⟨t34,h34,h⟩:=bo h;obtain ⟨t35,h35,h⟩:=bo h;obtain ⟨t36,h36,h⟩:=bo h;obtain ⟨t37,h37,h⟩:=bo h;obtain ⟨t38,h38,h⟩:=bo h
     have q:=Qa (((Qx h38).le (.cons (.full _ _ _) (.nil)) (.refl _)):Computes cx 67 [.lst true 1 [I t32,I t34,I t35,I t37]] (I t38)) (Qa (Qu h37) (Qa (W8 h36) (Qa (QX Q0 h31) (Qa (Qu h35) (Qa (Xt h34) (Qa (jDj h33) q))))))
     let o l:=o (b1::.ret (I t34)::.ret (I t35)::.el (Q7 t31)::.ret (I t36)::.ret (I t37)::.ret (I t38)::l)
     rcases io h with ⟨h39,h⟩ | ⟨h39,h⟩
     ·obtain ⟨h40,h⟩:=gd h;obtain ⟨t41,h41,h⟩:=bo h;obtain ⟨t42,h42,h⟩:=bo h;obtain rfl:=oi h
      exact rfO 0 (o [b0,.obj (some 0) (.d (.agg [I t41.1,I t41.2])) (Qb a5 a6 a7 a8 a9 a10 a11 a12 a13 a14 a15 a16) ZV,.ret (I t42)]) (Qa (Qu h42) (Qa (WA h41) (Qa h40 (Qa (nef h39) q))))
     obtain rfl:=oi h
     exact rfO 0 (o [b1]) (Qa (net h39) q)
    obtain ⟨t34,h34,h⟩:=bo h;obtain ⟨t35,h35,h⟩:=bo h;obtain ⟨t36,h36,h⟩:=bo h;obtain ⟨t37,h37,h⟩:=bo h;obtain ⟨t38,h38,h⟩:=bo h
    have q:=Qa (((Qx h38).le (.cons (.full _ _ _) (.nil)) (.refl _)):Computes cx 67 [.lst true 1 [I t32,I t34,I t35,I t37]] (I t38)) (Qa (Qu h37) (Qa (W8 h36) (Qa (QX Q0 h31) (Qa (Qu h35) (Qa (Qu h34) (Qa (QX Q0 h31) (Qa (jEj h33) q)))))))
    let o l:=o (b0::.el (Q7 t31)::.ret (I t34)::.ret (I t35)::.el (Q7 t31)::.ret (I t36)::.ret (I t37)::.ret (I t38)::l)
    rcases io h with ⟨h39,h⟩ | ⟨h39,h⟩
    ·obtain ⟨h40,h⟩:=gd h;obtain ⟨t41,h41,h⟩:=bo h;obtain ⟨t42,h42,h⟩:=bo h;obtain rfl:=oi h
     exact rfO 0 (o [b0,.obj (some 0) (.d (.agg [I t41.1,I t41.2])) (Qb a5 a6 a7 a8 a9 a10 a11 a12 a13 a14 a15 a16) ZV,.ret (I t42)]) (Qa (Qu h42) (Qa (WA h41) (Qa h40 (Qa (nef h39) q))))
    obtain rfl:=oi h
    exact rfO 0 (o [b1]) (Qa (net h39) q)
   obtain rfl:=oi h
   exact rfO 0 (o [b1]) (Qa (net h25) q)
  rcases io h with ⟨h22,h⟩ | ⟨h22,h⟩
  ·obtain ⟨t23,h23,h⟩:=bo h;obtain ⟨t24,h24,h⟩:=bo h;obtain ⟨t25,h25,h⟩:=bo h
   have q:=Qa (((Qx h25).le (.cons (.full _ _ _) (.nil)) (.refl _)):Computes cx 67 [.lst true 1 [I t23,I t24]] (I t25)) (Qa (QI h24) (Qa (Qv h23) (allE Qi h4 (Qa (mk1 ⟨#[98,105,108,108]⟩ (.agg [.v (.string ⟨#[111]⟩),I 1,.fn (.func 185) [] [],.fn (.func 186) [] []]) h22) q))))
   let o l:=o (.el (.agg [.v (.string ⟨#[111]⟩),I 1,.fn (.func 185) [] [],.fn (.func 186) [] []])::.el (Q3 t4)::.obj (some 0) (.d (I t23)) (Qb a5 a6 a7 a8 a9 a10 a11 a12 a13 a14 a15 a16) ZV::.obj (some 0) (.d (I t24)) (Qb a5 a6 a7 a8 a9 a10 a11 a12 a13 a14 a15 a16) ZV::.ret (I t25)::l)
   rcases io h with ⟨h26,h⟩ | ⟨h26,h⟩
   ·obtain ⟨t27,h27,h⟩:=bo h;obtain ⟨t28,h28,h⟩:=bo h;obtain ⟨t29,h29,h⟩:=bo h;obtain ⟨h30,h⟩:=gd h;obtain ⟨t31,h31,h⟩:=bo h;obtain ⟨t32,h32,h⟩:=bo h;obtain ⟨t33,h33,h⟩:=bo h;obtain ⟨t34,h34,h⟩:=bo h;obtain rfl:=oi h
    exact rfO 0 (o [b0,.ix (-9),b1,.el (Zy t27),b1,.obj (some 0) (.d (.lst false 1 t28)) (Qb a5 a6 a7 a8 a9 a10 a11 a12 a13 a14 a15 a16) ZV,.ret (I t29),b1,.el (Q7 t31),.ret (I t32),.el (Q3 t4),.el (Q7 t31),.ret (I t33),.ret (I t34)]) (Qa (((Qx h34).le (.cons (.full _ _ _) (.nil)) (.refl _)):Computes cx 67 [.lst true 1 [I t32,I t33]] (I t34)) (Qa (Qu h33) (Qa (QX Q0 h31) (allE Qi h4 (Qa (Qu h32) (Qa (QX Q0 h31) (Qa h30 (Qa (QK h29) (Qa (QC h28) (allE Qr h27 (Qa (nef h26) q)))))))))))
   obtain rfl:=oi h
   exact rfO 0 (o [b1]) (Qa (net h26) q)
  let o l:=o (.el (.agg [.v (.string ⟨#[]⟩),I 0,.fn (.func 154) [] [],.fn (.func 187) [] []])::.el (Q3 t4)::l)
  rcases io h with ⟨h23,h⟩ | ⟨h23,h⟩
  ·obtain ⟨t24,h24,h⟩:=bo h;obtain ⟨t25,h25,h⟩:=bo h;obtain ⟨t26,h26,h⟩:=bo h
   have q:=Qa (((Qx h26).le (.cons (.full _ _ _) (.nil)) (.refl _)):Computes cx 67 [.lst true 1 [I t24,I t25]] (I t26)) (Qa (QI h25) (Qa (Qv h24) (allE Qi h4 (Qa (mk1 ⟨#[117,110,100,111]⟩ (.agg [.v (.string ⟨#[]⟩),I 0,.fn (.func 154) [] [],.fn (.func 187) [] []]) h23) q))))
   let o l:=o (.obj (some 0) (.d (I t24)) (Qb a5 a6 a7 a8 a9 a10 a11 a12 a13 a14 a15 a16) ZV::.obj (some 0) (.d (I t25)) (Qb a5 a6 a7 a8 a9 a10 a11 a12 a13 a14 a15 a16) ZV::.ret (I t26)::l)
   rcases io h with ⟨h27,h⟩ | ⟨h27,h⟩
   ·obtain rfl:=oi h
    exact rfO 0 (o [b0,.ix (-9),b1]) (Qa (nef h27) q)
   obtain rfl:=oi h
   exact rfO 0 (o [b1]) (Qa (net h27) q)
  cases h
 obtain rfl:=oi h
 exact rfO 0 [b1] (Qa (net h2) q)
def ZF (n:Nat) (a0 a1:Int) (a2 a3:Bool) (a4 a5 a6:Int) (a7 a8 a9:jVj) (sa:(Int×Int)):Option (((Int×Int))⊕((Int))) :=
 if sa.1 < ((a8).length:Int) then
  if 0≤sa.1∧sa.1 < ((a8).length:Int) then
  ((nth (a8) (Int.toNat sa.1)).bind QM).bind fun ta3 =>
  if ta3.2.2.2.2.2=true then
   if Qh (1000 - ta3.2.2.2.1) then
   if Qh (ta3.2.2.1 * (1000 - ta3.2.2.2.1)) then
   if Qh ((ta3.2.2.1 * (1000 - ta3.2.2.2.1)) * a1) then
   if Qh (sa.2+((ta3.2.2.1 * (1000 - ta3.2.2.2.1)) * a1)) then
   if Qh (sa.1+1) then
   some (.inl ((sa.1+1),(sa.2+((ta3.2.2.1 * (1000 - ta3.2.2.2.1)) * a1))))
   else none
   else none
   else none
   else none
   else none
  else
  if Qh (sa.1+1) then
  some (.inl ((sa.1+1),sa.2))
  else none
  else none
 else
 some (.inr sa.2)
noncomputable def Jf (a0 a1:Int) (a2 a3:Bool) (a4 a5 a6:Int) (a7 a8 a9:jVj):Lp ((Int×Int)) ((Int)):=⟨fun sa=>[(0,.own 21 0),(8,.own 9 0),(9,.d (I ((a8).length:Int))),(10,.d (I sa.1))],fun sa=>[(0,.box (.agg [.d (I a0),.d (I a1),.d (B a2),.d (B a3),.d (I a4),.d (I a5),.d (I a6),.own 8 0,.own 9 0,.own 10 0])),(8,.row 0 1 a7),(9,.row 0 6 a8),(10,.row 0 7 a9),(11,.box (.ptr 0 0 0 0 0)),(13,.box (.d (I sa.2))),(17,.box (.ptr 0 0 0 0 0)),(21,.loop true [(6,.fn (.func 118) [] [.ptr 17 0 0 0 0]),(5,.ptr 0 0 0 0 0),(3,.ptr 13 0 0 0 0),(2,.d (I 0)),(1,.ptr 11 0 0 0 0),(0,.ptr 0 0 0 0 0)] [7] (ZY cx.P 62 0).1 (ZY cx.P 62 0).2 22)],fun _=>(.exit 0),fun _=>[],fun e=>[(0,.box (.agg [.d (I a0),.d (I a1),.d (B a2),.d (B a3),.d (I a4),.d (I a5),.d (I a6),.own 8 0,.own 9 0,.own 10 0])),(8,.row 0 1 a7),(9,.row 0 6 a8),(10,.row 0 7 a9),(11,.box (.ptr 0 0 0 0 0)),(13,.box (.d (I e))),(17,.box (.ptr 0 0 0 0 0)),(21,.loop true [(6,.fn (.func 118) [] [.ptr 17 0 0 0 0]),(5,.ptr 0 0 0 0 0),(3,.ptr 13 0 0 0 0),(2,.d (I 0)),(1,.ptr 11 0 0 0 0),(0,.ptr 0 0 0 0 0)] [7] (ZY cx.P 62 0).1 (ZY cx.P 62 0).2 22)]⟩
theorem Jb {n:Nat} {a0 a1:Int} {a2 a3:Bool} {a4 a5 a6:Int} {a7 a8 a9:jVj} (sa:(Int×Int)) (r) (h:ZF n a0 a1 a2 a3 a4 a5 a6 a7 a8 a9 sa=some r):Rl (ZJ cx.P 118 0) 23 22 false (Jf a0 a1 a2 a3 a4 a5 a6 a7 a8 a9) sa r:=by
 unfold ZF at h
 rcases io h with ⟨ha1,h⟩ | ⟨ha1,h⟩
 ·obtain ⟨ha2,h⟩:=gd h;obtain ⟨ta3,ha3,h⟩:=bo h
  have q:=Qa (QX Qq ha3) (Qa ha2 (Qa (jDj ha1) QL))
  let o (l:List Orc):=b1::b1::.el (QB ta3)::l
  rcases io h with ⟨ha4,h⟩ | ⟨ha4,h⟩
  ·obtain ⟨ha5,h⟩:=gd h;obtain ⟨ha6,h⟩:=gd h;obtain ⟨ha7,h⟩:=gd h;obtain ⟨ha8,h⟩:=gd h;obtain ⟨ha9,h⟩:=gd h
   cases h
   exact rn 28 (o [b1,.no]) [] [0,8,9,10] [0,8,9,10,11,13,17,21] (Qa ha9 (Qa ha8 (Qa ha7 (Qa ha6 (Qa ha5 (Qa ha4 q))))))
  obtain ⟨ha5,h⟩:=gd h
  cases h
  exact rn 28 (o [b0,.no]) [] [0,8,9,10] [0,8,9,10,11,13,17,21] (Qa ha5 (Qa (QA ha4) q))
 cases h
 exact rx 28 [b0] [] [] [0,8,9,10,11,13,17,21] (Qa (jEj ha1) QL)
def WD (n:Nat) (a0 a1:Int) (a2 a3:Bool) (a4 a5 a6:Int) (a7 a8 a9:jVj):Option (Int) :=
 (Q2 (ZF n a0 a1 a2 a3 a4 a5 a6 a7 a8 a9) n (0,0)).bind fun t1 =>
 some t1
theorem Gk {n:Nat} {a0 a1:Int} {a2 a3:Bool} {a4 a5 a6:Int} {a7 a8 a9:jVj} {r:Int} (h:WD n a0 a1 a2 a3 a4 a5 a6 a7 a8 a9=some r):ComputesO cx 62 [.ptr 0 0 0 0 0] (some (QJ a0 a1 a2 a3 a4 a5 a6 a7 a8 a9)) (.d (I r)) (QJ a0 a1 a2 a3 a4 a5 a6 a7 a8 a9) qC:=by
 unfold WD at h
 obtain ⟨t1,h1,h⟩:=bo h;obtain rfl:=oi h
 exact rfO 0 [b1,.lp [] [0,8,9,10] [0,8,9,10,11,13,17,21] (.exit 0) [] [(0,.box (.agg [.d (I a0),.d (I a1),.d (B a2),.d (B a3),.d (I a4),.d (I a5),.d (I a6),.own 8 0,.own 9 0,.own 10 0])),(8,.row 0 1 a7),(9,.row 0 6 a8),(10,.row 0 7 a9),(11,.box (.ptr 0 0 0 0 0)),(13,.box (.d (I t1))),(17,.box (.ptr 0 0 0 0 0)),(21,.loop true [(6,.fn (.func 118) [] [.ptr 17 0 0 0 0]),(5,.ptr 0 0 0 0 0),(3,.ptr 13 0 0 0 0),(2,.d (I 0)),(1,.ptr 11 0 0 0 0),(0,.ptr 0 0 0 0 0)] [7] (ZY cx.P 62 0).1 (ZY cx.P 62 0).2 22)] 70] (Qa (QH Jb h1) QL)
def Wh (n:Nat) (a0 a1 a2:Int) (a3 a4:Bool) (a5 a6 a7:Int) (a8 a9 a10:jVj):Option (Int×Int) :=
 (WD n a1 a2 a3 a4 a5 a6 a7 a8 a9 a10).bind fun t1 =>
 if Qh (a0 - a1) then
 if Qh (t1 * (a0 - a1)) then
 if Qh (a5+(t1 * (a0 - a1))) then
 if Qh (a6+(t1 * (a0 - a1))) then
 some ((a5+(t1 * (a0 - a1))),(a6+(t1 * (a0 - a1))))
 else none
 else none
 else none
 else none
theorem Jm {n:Nat} {a0 a1 a2:Int} {a3 a4:Bool} {a5 a6 a7:Int} {a8 a9 a10:jVj} {r:Int×Int} (h:Wh n a0 a1 a2 a3 a4 a5 a6 a7 a8 a9 a10=some r):ComputesO cx 71 [.ptr 0 0 0 0 0,.d (I a0)] (some (QJ a1 a2 a3 a4 a5 a6 a7 a8 a9 a10)) (.d (.agg [I r.1,I r.2])) (QJ a1 a2 a3 a4 a5 a6 a7 a8 a9 a10) qC:=by
 unfold Wh at h
 obtain ⟨t1,h1,h⟩:=bo h;obtain ⟨h2,h⟩:=gd h;obtain ⟨h3,h⟩:=gd h;obtain ⟨h4,h⟩:=gd h;obtain ⟨h5,h⟩:=gd h
 cases h
 exact rfO 0 [.obj (some 0) (.d (I t1)) (QJ a1 a2 a3 a4 a5 a6 a7 a8 a9 a10) qC] (Qa h5 (Qa h4 (Qa h3 (Qa h2 (Qa (Gk h1) QL)))))
def ZA (n:Nat) (a1 a2:Int) (a3 a4:Bool) (a5 a6 a7:Int) (a8 a9 a10:jVj) (sa:(Int×jVj)):Option (((Int×jVj))⊕((jVj))) :=
 if sa.1 < ((a9).length:Int) then
  if 0≤sa.1∧sa.1 < ((a9).length:Int) then
  ((nth (a9) (Int.toNat sa.1)).bind QM).bind fun ta3 =>
  (ZN n ta3.1 ta3.2.1 ta3.2.2.1 ta3.2.2.2.1 ta3.2.2.2.2.1 ta3.2.2.2.2.2).bind fun ta4 =>
  if Wa 16 ((sa.2).length+1) then
  if Qh (sa.1+1) then
  some (.inl ((sa.1+1),(sa.2++([.v (.string ta4)]:jVj))))
  else none
  else none
  else none
 else
 some (.inr sa.2)
noncomputable def Kv (a1 a2:Int) (a3 a4:Bool) (a5 a6 a7:Int) (a8 a9 a10:jVj):Lp ((Int×jVj)) ((jVj)):=⟨fun sa=>[(1,.d (.fn (.func 203) [] [])),(5,.own 28 0),(8,.own 9 0),(9,.d (I ((a9).length:Int))),(10,.d (I sa.1))],fun sa=>[(0,.box (.agg [.d (I a1),.d (I a2),.d (B a3),.d (B a4),.d (I a5),.d (I a6),.d (I a7),.own 8 0,.own 9 0,.own 10 0])),(8,.row 0 1 a8),(9,.row 0 6 a9),(10,.row 0 7 a10),(28,.row 0 1 sa.2)],fun _=>(.exit 0),fun _=>[(5,.own 28 0)],fun e=>[(0,.box (.agg [.d (I a1),.d (I a2),.d (B a3),.d (B a4),.d (I a5),.d (I a6),.d (I a7),.own 8 0,.own 9 0,.own 10 0])),(8,.row 0 1 a8),(9,.row 0 6 a9),(10,.row 0 7 a10),(28,.row 0 1 e)]⟩
theorem Kt {n:Nat} {a1 a2:Int} {a3 a4:Bool} {a5 a6 a7:Int} {a8 a9 a10:jVj} (sa:(Int×jVj)) (r) (h:ZA n a1 a2 a3 a4 a5 a6 a7 a8 a9 a10 sa=some r):Rl (ZJ cx.P 63 0) 22 23 false (Kv a1 a2 a3 a4 a5 a6 a7 a8 a9 a10) sa r:=by
 unfold ZA at h
 rcases io h with ⟨ha1,h⟩ | ⟨ha1,h⟩
 ·obtain ⟨ha2,h⟩:=gd h;obtain ⟨ta3,ha3,h⟩:=bo h;obtain ⟨ta4,ha4,h⟩:=bo h;obtain ⟨ha5,h⟩:=gd h;obtain ⟨ha6,h⟩:=gd h
  cases h
  exact rn 29 [b1,b1,.el (QB ta3),.ret (.v (.string ta4)),b1] [] [1,5,8,9,10] [0,8,9,10,28] (Qa ha6 (Qa (ro 9 ha5) (Qa (Yw ha4) (Qa (QX Qq ha3) (Qa ha2 (Qa (jDj ha1) QL))))))
 cases h
 exact rx 29 [b0] [] [5] [0,8,9,10,28] (Qa (jEj ha1) QL)
def Zz (n:Nat) (a1 a2:Int) (a3 a4:Bool) (a5 a6 a7:Int) (a8 a9 a10:jVj) (sa:(Int×jVj)):Option (((Int×jVj))⊕((jVj))) :=
 if sa.1 < ((a10).length:Int) then
  if 0≤sa.1∧sa.1 < ((a10).length:Int) then
  ((nth (a10) (Int.toNat sa.1)).bind Z6).bind fun ta3 =>
  (ZM n ta3.1 ta3.2.1 ta3.2.2.1 ta3.2.2.2.1 ta3.2.2.2.2.1 ta3.2.2.2.2.2.1 ta3.2.2.2.2.2.2).bind fun ta4 =>
  if Wa 16 ((sa.2).length+1) then
  if Qh (sa.1+1) then
  some (.inl ((sa.1+1),(sa.2++([.v (.string ta4)]:jVj))))
  else none
  else none
  else none
 else
 some (.inr sa.2)
noncomputable def Ku (a1 a2:Int) (a3 a4:Bool) (a5 a6 a7:Int) (a8 a9 a10:jVj):Lp ((Int×jVj)) ((jVj)):=⟨fun sa=>[(1,.d (.fn (.func 205) [] [])),(5,.own 28 0),(8,.own 10 0),(9,.d (I ((a10).length:Int))),(10,.d (I sa.1))],fun sa=>[(0,.box (.agg [.d (I a1),.d (I a2),.d (B a3),.d (B a4),.d (I a5),.d (I a6),.d (I a7),.own 8 0,.own 9 0,.own 10 0])),(8,.row 0 1 a8),(9,.row 0 6 a9),(10,.row 0 7 a10),(28,.row 0 1 sa.2)],fun _=>(.exit 0),fun _=>[(5,.own 28 0)],fun e=>[(0,.box (.agg [.d (I a1),.d (I a2),.d (B a3),.d (B a4),.d (I a5),.d (I a6),.d (I a7),.own 8 0,.own 9 0,.own 10 0])),(8,.row 0 1 a8),(9,.row 0 6 a9),(10,.row 0 7 a10),(28,.row 0 1 e)]⟩
theorem Ks {n:Nat} {a1 a2:Int} {a3 a4:Bool} {a5 a6 a7:Int} {a8 a9 a10:jVj} (sa:(Int×jVj)) (r) (h:Zz n a1 a2 a3 a4 a5 a6 a7 a8 a9 a10 sa=some r):Rl (ZJ cx.P 204 0) 22 23 false (Ku a1 a2 a3 a4 a5 a6 a7 a8 a9 a10) sa r:=by
 unfold Zz at h
 rcases io h with ⟨ha1,h⟩ | ⟨ha1,h⟩
 ·obtain ⟨ha2,h⟩:=gd h;obtain ⟨ta3,ha3,h⟩:=bo h;obtain ⟨ta4,ha4,h⟩:=bo h;obtain ⟨ha5,h⟩:=gd h;obtain ⟨ha6,h⟩:=gd h
  cases h
  exact rn 29 [b1,b1,.el (Q7 ta3),.ret (.v (.string ta4)),b1] [] [1,5,8,9,10] [0,8,9,10,28] (Qa ha6 (Qa (ro 9 ha5) (Qa (Yv ha4) (Qa (QX Q0 ha3) (Qa ha2 (Qa (jDj ha1) QL))))))
 cases h
 exact rx 29 [b0] [] [5] [0,8,9,10,28] (Qa (jEj ha1) QL)
def QQ (n:Nat) (a0 a1 a2:Int) (a3 a4:Bool) (a5 a6 a7:Int) (a8 a9 a10:jVj):Option (jVj) :=
 if a0=115 then
  none
 else
 if a0=109 then
  (Q2 (ZA n a1 a2 a3 a4 a5 a6 a7 a8 a9 a10) n (0,[])).bind fun t3 =>
  some t3
 else
 (Q2 (Zz n a1 a2 a3 a4 a5 a6 a7 a8 a9 a10) n (0,[])).bind fun t3 =>
 some t3
theorem Zn {n:Nat} {a0 a1 a2:Int} {a3 a4:Bool} {a5 a6 a7:Int} {a8 a9 a10:jVj} {r:jVj} (h:QQ n a0 a1 a2 a3 a4 a5 a6 a7 a8 a9 a10=some r):ComputesO cx 121 [.ptr 0 0 0 0 0,.d (.v (.int .u8 a0))] (some (QJ a1 a2 a3 a4 a5 a6 a7 a8 a9 a10)) (.d (.lst false 1 r)) (QJ a1 a2 a3 a4 a5 a6 a7 a8 a9 a10) qC:=by
 unfold QQ at h
 rcases io h with ⟨h1,h⟩ | ⟨h1,h⟩
 ·cases h
 have q:=Qa (eqf h1) QL
 rcases io h with ⟨h2,h⟩ | ⟨h2,h⟩
 ·obtain ⟨t3,h3,h⟩:=bo h;obtain rfl:=oi h
  exact rfO 0 [b0,b1,b1,.lp [5,1] [1,5,8,9,10] [0,8,9,10,28] (.exit 0) [(5,.own 28 0)] [(0,.box (.agg [.d (I a1),.d (I a2),.d (B a3),.d (B a4),.d (I a5),.d (I a6),.d (I a7),.own 8 0,.own 9 0,.own 10 0])),(8,.row 0 1 a8),(9,.row 0 6 a9),(10,.row 0 7 a10),(28,.row 0 1 t3)] 54] (Qa (QH Kt h3) (Qa (eqt h2) q))
 obtain ⟨t3,h3,h⟩:=bo h;obtain rfl:=oi h
 exact rfO 0 [b0,b0,b1,.lp [5,1] [1,5,8,9,10] [0,8,9,10,28] (.exit 0) [(5,.own 28 0)] [(0,.box (.agg [.d (I a1),.d (I a2),.d (B a3),.d (B a4),.d (I a5),.d (I a6),.d (I a7),.own 8 0,.own 9 0,.own 10 0])),(8,.row 0 1 a8),(9,.row 0 6 a9),(10,.row 0 7 a10),(28,.row 0 1 t3)] 54] (Qa (QH Ks h3) (Qa (eqf h2) q))
def WC (n:Nat) (a0 a1:jSj) (a2 a3:Int) (a4 a5:Bool) (a6:Int) (a7:jSj) (a8 a9:jVj) (a10:jSj):Option (Bool) :=
 (el Ww a8 0).bind fun t1 =>
 some (a1.toList == t1.toList)
theorem U4 {n:Nat} {a0 a1:jSj} {a2 a3:Int} {a4 a5:Bool} {a6:Int} {a7:jSj} {a8 a9:jVj} {a10:jSj} {r:Bool} (h:WC n a0 a1 a2 a3 a4 a5 a6 a7 a8 a9 a10=some r):Computes cx 167 [.agg [.v (.string a0),.v (.string a1),I a2,I a3,B a4,B a5],.ref (.agg [I a6,.v (.string a7),.lst false 1 a8,.lst false 1 a9,.v (.string a10)]) 0] (B r):=by
 unfold WC at h
 obtain ⟨t1,h1,h⟩:=bo h
 cases h
 exact rf [.el (Zy t1)] (allE Qr h1 QL)
def Z1 (n:Nat) (a0:Int) (a1:jSj) (a2 a3:jVj) (a4:jSj) (a5 a6:Int) (a7 a8:Bool) (a9 a10 a11:Int) (a12 a13 a14:jVj) (sa:(Int×jVj)):Option (((Int×jVj))⊕((jVj))) :=
 if sa.1 < ((a13).length:Int) then
  if 0≤sa.1∧sa.1 < ((sa.2).length:Int) then
  ((nth (sa.2) (Int.toNat sa.1)).bind QM).bind fun ta3 =>
  (WC n ta3.1 ta3.2.1 ta3.2.2.1 ta3.2.2.2.1 ta3.2.2.2.2.1 ta3.2.2.2.2.2 a0 a1 a2 a3 a4).bind fun ta4 =>
  if ta4=true then
   if Qh (sa.1+1) then
   some (.inl ((sa.1+1),(List.set sa.2 (Int.toNat sa.1) (.agg [.v (.string ta3.1),.v (.string ta3.2.1),I ta3.2.2.1,I ta3.2.2.2.1,B ta3.2.2.2.2.1,B false]:D))))
   else none
  else
  if Qh (sa.1+1) then
  some (.inl ((sa.1+1),sa.2))
  else none
  else none
 else
 some (.inr sa.2)
noncomputable def J6 (a0:Int) (a1:jSj) (a2 a3:jVj) (a4:jSj) (a5 a6:Int) (a7 a8:Bool) (a9 a10 a11:Int) (a12 a13 a14:jVj):Lp ((Int×jVj)) ((jVj)):=⟨fun sa=>[(0,.ptr 0 0 0 0 0),(1,.d (.fn (.func 167) [] [.ref (.agg [I a0,.v (.string a1),.lst false 1 a2,.lst false 1 a3,.v (.string a4)]) 0])),(9,.own 9 0),(10,.d (I ((a13).length:Int))),(11,.d (I sa.1))],fun sa=>[(0,.box (.agg [.d (I a5),.d (I a6),.d (B a7),.d (B a8),.d (I a9),.d (I a10),.d (I a11),.own 8 0,.own 9 0,.own 10 0])),(8,.row 0 1 a12),(9,.row 0 6 sa.2),(10,.row 0 7 a14)],fun _=>(.exit 0),fun _=>[],fun e=>[(0,.box (.agg [.d (I a5),.d (I a6),.d (B a7),.d (B a8),.d (I a9),.d (I a10),.d (I a11),.own 8 0,.own 9 0,.own 10 0])),(8,.row 0 1 a12),(9,.row 0 6 e),(10,.row 0 7 a14)]⟩
theorem J4 {n:Nat} {a0:Int} {a1:jSj} {a2 a3:jVj} {a4:jSj} {a5 a6:Int} {a7 a8:Bool} {a9 a10 a11:Int} {a12 a13 a14:jVj} (sa:(Int×jVj)) (r) (h:Z1 n a0 a1 a2 a3 a4 a5 a6 a7 a8 a9 a10 a11 a12 a13 a14 sa=some r):Rl (ZJ cx.P 166 0) 27 11 false (J6 a0 a1 a2 a3 a4 a5 a6 a7 a8 a9 a10 a11 a12 a13 a14) sa r:=by
 unfold Z1 at h
 rcases io h with ⟨ha1,h⟩ | ⟨ha1,h⟩
 ·obtain ⟨ha2,h⟩:=gd h;obtain ⟨ta3,ha3,h⟩:=bo h;obtain ⟨ta4,ha4,h⟩:=bo h
  have q:=Qa (U4 ha4) (Qa (QX Qq ha3) (Qa ha2 (Qa (jDj ha1) QL)))
  let o (l:List Orc):=b1::b1::.el (QB ta3)::.ret (B ta4)::l
  rcases io h with ⟨ha5,h⟩ | ⟨ha5,h⟩
  ·obtain ⟨ha6,h⟩:=gd h
   cases h
   exact rn 17 (o [b1,b1,.el (QB ta3)]) [] [0,1,9,10,11] [0,8,9,10] (Qa ha6 (Qa (QX Qq ha3) (Qa ha2 (Qa ha5 q))))
  obtain ⟨ha6,h⟩:=gd h
  cases h
  exact rn 17 (o [b0]) [] [0,1,9,10,11] [0,8,9,10] (Qa ha6 (Qa (QA ha5) q))
 cases h
 exact rx 17 [b0] [] [] [0,8,9,10] (Qa (jEj ha1) QL)
def WR (n:Nat) (a0:Int) (a1:jSj) (a2 a3:jVj) (a4:jSj) (a5 a6:Int) (a7 a8:Bool) (a9 a10 a11:Int) (a12 a13 a14:jVj):Option (jVj) :=
 (Q2 (Z1 n a0 a1 a2 a3 a4 a5 a6 a7 a8 a9 a10 a11 a12 a13 a14) n (0,a13)).bind fun t1 =>
 some t1
theorem G3 {n:Nat} {a0:Int} {a1:jSj} {a2 a3:jVj} {a4:jSj} {a5 a6:Int} {a7 a8:Bool} {a9 a10 a11:Int} {a12 a13 a14:jVj} {r:jVj} (h:WR n a0 a1 a2 a3 a4 a5 a6 a7 a8 a9 a10 a11 a12 a13 a14=some r):ComputesO cx 166 [.ptr 0 0 0 0 0,.d (.fn (.func 167) [] [.ref (.agg [I a0,.v (.string a1),.lst false 1 a2,.lst false 1 a3,.v (.string a4)]) 0])] (some (QJ a5 a6 a7 a8 a9 a10 a11 a12 a13 a14)) (.d (.tup [])) (QJ a5 a6 a7 a8 a9 a10 a11 a12 r a14) [false,false,false,false,false,false,false,true,true,true]:=by
 unfold WR at h
 obtain ⟨t1,h1,h⟩:=bo h;obtain rfl:=oi h
 exact rfO 0 [.lp [] [0,1,9,10,11] [0,8,9,10] (.exit 0) [] [(0,.box (.agg [.d (I a5),.d (I a6),.d (B a7),.d (B a8),.d (I a9),.d (I a10),.d (I a11),.own 8 0,.own 9 0,.own 10 0])),(8,.row 0 1 a12),(9,.row 0 6 t1),(10,.row 0 7 a14)] 48] (Qa (QH J4 h1) QL)
def WB (n:Nat) (a0 a1:jSj) (a2 a3:Int) (a4 a5:Bool):Option (Bool) :=
 some true
theorem U3 {n:Nat} {a0 a1:jSj} {a2 a3:Int} {a4 a5:Bool} {r:Bool} (h:WB n a0 a1 a2 a3 a4 a5=some r):Computes cx 177 [.agg [.v (.string a0),.v (.string a1),I a2,I a3,B a4,B a5]] (B r):=by
 unfold WB at h
 obtain rfl:=oi h
 exact rf [] QL
def ZI (n:Nat) (a0 a1:Int) (a2 a3:Bool) (a4 a5 a6:Int) (a7 a8 a9:jVj) (sa:(Int×jVj)):Option (((Int×jVj))⊕((jVj))) :=
 if sa.1 < ((a8).length:Int) then
  if 0≤sa.1∧sa.1 < ((sa.2).length:Int) then
  ((nth (sa.2) (Int.toNat sa.1)).bind QM).bind fun ta3 =>
  (WB n ta3.1 ta3.2.1 ta3.2.2.1 ta3.2.2.2.1 ta3.2.2.2.2.1 ta3.2.2.2.2.2).bind fun ta4 =>
  if ta4=true then
   if Qh (sa.1+1) then
   some (.inl ((sa.1+1),(List.set sa.2 (Int.toNat sa.1) (.agg [.v (.string ta3.1),.v (.string ta3.2.1),I ta3.2.2.1,I ta3.2.2.2.1,B ta3.2.2.2.2.1,B false]:D))))
   else none
  else
  if Qh (sa.1+1) then
  some (.inl ((sa.1+1),sa.2))
  else none
  else none
 else
 some (.inr sa.2)
noncomputable def Ji (a0 a1:Int) (a2 a3:Bool) (a4 a5 a6:Int) (a7 a8 a9:jVj):Lp ((Int×jVj)) ((jVj)):=⟨fun sa=>[(0,.ptr 0 0 0 0 0),(1,.d (.fn (.func 177) [] [])),(9,.own 9 0),(10,.d (I ((a8).length:Int))),(11,.d (I sa.1))],fun sa=>[(0,.box (.agg [.d (I a0),.d (I a1),.d (B a2),.d (B a3),.d (I a4),.d (I a5),.d (I a6),.own 8 0,.own 9 0,.own 10 0])),(8,.row 0 1 a7),(9,.row 0 6 sa.2),(10,.row 0 7 a9)],fun _=>(.exit 0),fun _=>[],fun e=>[(0,.box (.agg [.d (I a0),.d (I a1),.d (B a2),.d (B a3),.d (I a4),.d (I a5),.d (I a6),.own 8 0,.own 9 0,.own 10 0])),(8,.row 0 1 a7),(9,.row 0 6 e),(10,.row 0 7 a9)]⟩
theorem Je {n:Nat} {a0 a1:Int} {a2 a3:Bool} {a4 a5 a6:Int} {a7 a8 a9:jVj} (sa:(Int×jVj)) (r) (h:ZI n a0 a1 a2 a3 a4 a5 a6 a7 a8 a9 sa=some r):Rl (ZJ cx.P 166 0) 27 11 false (Ji a0 a1 a2 a3 a4 a5 a6 a7 a8 a9) sa r:=by
 unfold ZI at h
 rcases io h with ⟨ha1,h⟩ | ⟨ha1,h⟩
 ·obtain ⟨ha2,h⟩:=gd h;obtain ⟨ta3,ha3,h⟩:=bo h;obtain ⟨ta4,ha4,h⟩:=bo h
  have q:=Qa (U3 ha4) (Qa (QX Qq ha3) (Qa ha2 (Qa (jDj ha1) QL)))
  let o (l:List Orc):=b1::b1::.el (QB ta3)::.ret (B ta4)::l
  rcases io h with ⟨ha5,h⟩ | ⟨ha5,h⟩
  ·obtain ⟨ha6,h⟩:=gd h
   cases h
   exact rn 17 (o [b1,b1,.el (QB ta3)]) [] [0,1,9,10,11] [0,8,9,10] (Qa ha6 (Qa (QX Qq ha3) (Qa ha2 (Qa ha5 q))))
  obtain ⟨ha6,h⟩:=gd h
  cases h
  exact rn 17 (o [b0]) [] [0,1,9,10,11] [0,8,9,10] (Qa ha6 (Qa (QA ha5) q))
 cases h
 exact rx 17 [b0] [] [] [0,8,9,10] (Qa (jEj ha1) QL)
def WG (n:Nat) (a0 a1:Int) (a2 a3:Bool) (a4 a5 a6:Int) (a7 a8 a9:jVj):Option (jVj) :=
 (Q2 (ZI n a0 a1 a2 a3 a4 a5 a6 a7 a8 a9) n (0,a8)).bind fun t1 =>
 some t1
theorem Gn {n:Nat} {a0 a1:Int} {a2 a3:Bool} {a4 a5 a6:Int} {a7 a8 a9:jVj} {r:jVj} (h:WG n a0 a1 a2 a3 a4 a5 a6 a7 a8 a9=some r):ComputesO cx 166 [.ptr 0 0 0 0 0,.d (.fn (.func 177) [] [])] (some (QJ a0 a1 a2 a3 a4 a5 a6 a7 a8 a9)) (.d (.tup [])) (QJ a0 a1 a2 a3 a4 a5 a6 a7 r a9) [false,false,false,false,false,false,false,true,true,true]:=by
 unfold WG at h
 obtain ⟨t1,h1,h⟩:=bo h;obtain rfl:=oi h
 exact rfO 0 [.lp [] [0,1,9,10,11] [0,8,9,10] (.exit 0) [] [(0,.box (.agg [.d (I a0),.d (I a1),.d (B a2),.d (B a3),.d (I a4),.d (I a5),.d (I a6),.own 8 0,.own 9 0,.own 10 0])),(8,.row 0 1 a7),(9,.row 0 6 t1),(10,.row 0 7 a9)] 48] (Qa (QH Je h1) QL)
def Wv (n:Nat) (a0:jSj) (a1 a2 a3 a4 a5:Int) (a6:Bool):Option (Int) :=
 if Qh (a4 * a5) then
 if Qh (2 * a4) then
 (Zg n a0 a1 a2 a3 a4 a5 a6).bind fun t3 =>
 if Qh ((2 * a4) * t3) then
 if Qh ((a4 * a5) - ((2 * a4) * t3)) then
 some ((a4 * a5) - ((2 * a4) * t3))
 else none
 else none
 else none
 else none
theorem YN {n:Nat} {a0:jSj} {a1 a2 a3 a4 a5:Int} {a6:Bool} {r:Int} (h:Wv n a0 a1 a2 a3 a4 a5 a6=some r):Computes cx 79 [.agg [.v (.string a0),I a1,I a2,I a3,I a4,I a5,B a6]] (I r):=by
 unfold Wv at h
 obtain ⟨h1,h⟩:=gd h;obtain ⟨h2,h⟩:=gd h;obtain ⟨t3,h3,h⟩:=bo h;obtain ⟨h4,h⟩:=gd h;obtain ⟨h5,h⟩:=gd h
 cases h
 exact rf [.ret (I t3)] (Qa h5 (Qa h4 (Qa (W8 h3) (Qa h2 (Qa h1 QL)))))
def Qz (n:Nat) (a0:Int) (a1:jSj) (a2 a3:jVj) (a4:jSj) (a5 a6:Int) (a7 a8:Bool) (a9 a10 a11:Int) (a12 a13 a14:jVj):Option (jRj) :=
 (el Vt a3 0).bind fun t1 =>
 (Wh n t1 a5 a6 a7 a8 a9 a10 a11 a12 a13 a14).bind fun t2 =>
 if a1.data.toList=[115,101,99,116,111,114] then
  (el Ww a2 0).bind fun t4 =>
  if Wa 16 ((a12).length+1) then
  some (t1,a6,a7,a8,t2.1,t2.2,a11,(a12++([.v (.string t4)]:jVj)),a13,a14)
  else none
 else
 if a1.data.toList=[109,105,114,114,111,114] then
  (el Ww a2 0).bind fun t5 =>
  (el Ww a2 1).bind fun t6 =>
  (el Vt a3 1).bind fun t7 =>
  if Wa 56 ((a13).length+1) then
  some (t1,a6,a7,a8,t2.1,t2.2,a11,a12,(a13++([.agg [.v (.string t5),.v (.string t6),I t7,I 0,B false,B false]]:jVj)),a14)
  else none
 else
 if a1.data.toList=[115,111,105,108] then
  (el Ww a2 0).bind fun t6 =>
  (QQ n 109 t1 a6 a7 a8 t2.1 t2.2 a11 a12 a13 a14).bind fun t7 =>
  (QE n t7 t6).bind fun t8 =>
  if 0≤t8∧t8 < ((a13).length:Int) then
  (el Vt a3 1).bind fun t10 =>
  ((nth (a13) (Int.toNat t8)).bind QM).bind fun t11 =>
  some (t1,a6,a7,a8,t2.1,t2.2,a11,a12,(List.set a13 (Int.toNat t8) (.agg [.v (.string t11.1),.v (.string t11.2.1),I t11.2.2.1,I t10,B t11.2.2.2.2.1,B t11.2.2.2.2.2]:D)),a14)
  else none
 else
 if a1.data.toList=[99,108,101,97,110] then
  (el Ww a2 0).bind fun t7 =>
  (QQ n 109 t1 a6 a7 a8 t2.1 t2.2 a11 a12 a13 a14).bind fun t8 =>
  (QE n t8 t7).bind fun t9 =>
  if 0≤t9∧t9 < ((a13).length:Int) then
  ((nth (a13) (Int.toNat t9)).bind QM).bind fun t11 =>
  some (t1,a6,a7,a8,t2.1,t2.2,a11,a12,(List.set a13 (Int.toNat t9) (.agg [.v (.string t11.1),.v (.string t11.2.1),I t11.2.2.1,I 0,B t11.2.2.2.2.1,B t11.2.2.2.2.2]:D)),a14)
  else none
 else
 if a1.data.toList=[100,101,102,101,99,116] then
  (el Ww a2 0).bind fun t8 =>
  (QQ n 109 t1 a6 a7 a8 t2.1 t2.2 a11 a12 a13 a14).bind fun t9 =>
  (QE n t9 t8).bind fun t10 =>
  if 0≤t10∧t10 < ((a13).length:Int) then
  ((nth (a13) (Int.toNat t10)).bind QM).bind fun t12 =>
  some (t1,a6,a7,a8,t2.1,t2.2,a11,a12,(List.set a13 (Int.toNat t10) (.agg [.v (.string t12.1),.v (.string t12.2.1),I t12.2.2.1,I t12.2.2.2.1,B true,B t12.2.2.2.2.2]:D)),a14)
  else none
 else
 if a1.data.toList=[114,101,112,97,105,114] then
  (el Ww a2 0).bind fun t9 =>
  (QQ n 109 t1 a6 a7 a8 t2.1 t2.2 a11 a12 a13 a14).bind fun t10 =>
  (QE n t10 t9).bind fun t11 =>
  if 0≤t11∧t11 < ((a13).length:Int) then
  ((nth (a13) (Int.toNat t11)).bind QM).bind fun t13 =>
  some (t1,a6,a7,a8,t2.1,t2.2,a11,a12,(List.set a13 (Int.toNat t11) (.agg [.v (.string t13.1),.v (.string t13.2.1),I t13.2.2.1,I t13.2.2.2.1,B false,B t13.2.2.2.2.2]:D)),a14)
  else none
 else
 if a1.data.toList=[97,105,109] then
  (el Ww a2 0).bind fun t10 =>
  (QQ n 109 t1 a6 a7 a8 t2.1 t2.2 a11 a12 a13 a14).bind fun t11 =>
  (QE n t11 t10).bind fun t12 =>
  if 0≤t12∧t12 < ((a13).length:Int) then
  ((nth (a13) (Int.toNat t12)).bind QM).bind fun t14 =>
  some (t1,a6,a7,a8,t2.1,t2.2,a11,a12,(List.set a13 (Int.toNat t12) (.agg [.v (.string t14.1),.v (.string t14.2.1),I t14.2.2.1,I t14.2.2.2.1,B t14.2.2.2.2.1,B true]:D)),a14)
  else none
 else
 if a1.data.toList=[112,97,114,107] then
  (el Ww a2 0).bind fun t11 =>
  (QQ n 109 t1 a6 a7 a8 t2.1 t2.2 a11 a12 a13 a14).bind fun t12 =>
  (QE n t12 t11).bind fun t13 =>
  if 0≤t13∧t13 < ((a13).length:Int) then
  ((nth (a13) (Int.toNat t13)).bind QM).bind fun t15 =>
  some (t1,a6,a7,a8,t2.1,t2.2,a11,a12,(List.set a13 (Int.toNat t13) (.agg [.v (.string t15.1),.v (.string t15.2.1),I t15.2.2.1,I t15.2.2.2.1,B t15.2.2.2.2.1,B false]:D)),a14)
  else none
 else
 if a1.data.toList=[100,105,109] then
  (WR n a0 a1 a2 a3 a4 t1 a6 a7 a8 t2.1 t2.2 a11 a12 a13 a14).bind fun t12 =>
  some (t1,a6,a7,a8,t2.1,t2.2,a11,a12,t12,a14)
 else
 if a1.data.toList=[115,117,110] then
  (el Vt a3 1).bind fun t13 =>
  some (t1,t13,a7,a8,t2.1,t2.2,a11,a12,a13,a14)
 else
 if a1.data.toList=[102,105,108,108] then
  some (t1,a6,true,a8,t2.1,t2.2,a11,a12,a13,a14)
 else
 if a1.data.toList=[100,114,97,105,110] then
  some (t1,a6,false,a8,t2.1,t2.2,a11,a12,a13,a14)
 else
 if a1.data.toList=[116,114,105,112] then
  (WG n t1 a6 a7 true t2.1 t2.2 a11 a12 a13 a14).bind fun t16 =>
  some (t1,a6,a7,true,t2.1,t2.2,a11,a12,t16,a14)
 else
 if a1.data.toList=[114,101,115,101,116] then
  some (t1,a6,a7,false,t2.1,t2.2,a11,a12,a13,a14)
 else
 if a1.data.toList=[111,102,102,101,114] then
  (WL n a0 a1 a2 a3 a4).bind fun t18 =>
  (el Ww a2 0).bind fun t19 =>
  (el Vt a3 3).bind fun t20 =>
  (el Vt a3 4).bind fun t21 =>
  if Wa 64 ((a14).length+1) then
  some (t1,a6,a7,a8,t2.1,t2.2,a11,a12,a13,(a14++([.agg [.v (.string t19),I t18.1,I t18.2.1,I t20,I t21,I 0,B false]]:jVj)))
  else none
 else
 if a1.data.toList=[100,101,108,105,118,101,114] then
  (el Ww a2 0).bind fun t19 =>
  (QQ n 111 t1 a6 a7 a8 t2.1 t2.2 a11 a12 a13 a14).bind fun t20 =>
  (QE n t20 t19).bind fun t21 =>
  if 0≤t21∧t21 < ((a14).length:Int) then
  ((nth (a14) (Int.toNat t21)).bind Z6).bind fun t23 =>
  (el Vt a3 1).bind fun t24 =>
  if Qh (t23.2.2.2.2.2.1+t24) then
  if Qh (1000000 * t24) then
  if Qh (t2.2 - (1000000 * t24)) then
  some (t1,a6,a7,a8,t2.1,(t2.2 - (1000000 * t24)),a11,a12,a13,(List.set a14 (Int.toNat t21) (.agg [.v (.string t23.1),I t23.2.1,I t23.2.2.1,I t23.2.2.2.1,I t23.2.2.2.2.1,I (t23.2.2.2.2.2.1+t24),B t23.2.2.2.2.2.2]:D)))
  else none
  else none
  else none
  else none
 else
 if a1.data.toList=[98,105,108,108] then
  (el Ww a2 0).bind fun t20 =>
  (QQ n 111 t1 a6 a7 a8 t2.1 t2.2 a11 a12 a13 a14).bind fun t21 =>
  (QE n t21 t20).bind fun t22 =>
  if 0≤t22∧t22 < ((a14).length:Int) then
  ((nth (a14) (Int.toNat t22)).bind Z6).bind fun t24 =>
  ((nth ((List.set a14 (Int.toNat t22) (.agg [.v (.string t24.1),I t24.2.1,I t24.2.2.1,I t24.2.2.2.1,I t24.2.2.2.2.1,I t24.2.2.2.2.2.1,B true]:D)):jVj) (Int.toNat t22)).bind Z6).bind fun t25 =>
  (Wv n t25.1 t25.2.1 t25.2.2.1 t25.2.2.2.1 t25.2.2.2.2.1 t25.2.2.2.2.2.1 t25.2.2.2.2.2.2).bind fun t26 =>
  if Qh (a11+t26) then
  some (t1,a6,a7,a8,t2.1,t2.2,(a11+t26),a12,a13,(List.set a14 (Int.toNat t22) (.agg [.v (.string t24.1),I t24.2.1,I t24.2.2.1,I t24.2.2.2.1,I t24.2.2.2.2.1,I t24.2.2.2.2.2.1,B true]:D)))
  else none
  else none
 else
 if a1.data.toList=[117,110,100,111] then
  some (t1,a6,a7,a8,t2.1,t2.2,a11,a12,a13,a14)
 else
 none
theorem Uh {n:Nat} {a0:Int} {a1:jSj} {a2 a3:jVj} {a4:jSj} {a5 a6:Int} {a7 a8:Bool} {a9 a10 a11:Int} {a12 a13 a14:jVj} {r:jRj} (h:Qz n a0 a1 a2 a3 a4 a5 a6 a7 a8 a9 a10 a11 a12 a13 a14=some r):ComputesO cx 190 [.ptr 0 0 0 0 0,.d (.agg [I a0,.v (.string a1),.lst false 1 a2,.lst false 1 a3,.v (.string a4)])] (some (QJ a5 a6 a7 a8 a9 a10 a11 a12 a13 a14)) (.d (.tup [])) (QJ r.1 r.2.1 r.2.2.1 r.2.2.2.1 r.2.2.2.2.1 r.2.2.2.2.2.1 r.2.2.2.2.2.2.1 r.2.2.2.2.2.2.2.1 r.2.2.2.2.2.2.2.2.1 r.2.2.2.2.2.2.2.2.2) []:=by
 unfold Qz at h
 obtain ⟨t1,h1,h⟩:=bo h;obtain ⟨t2,h2,h⟩:=bo h
 have q:=allE Qi h1 (Qa (Jm h2) (allE Qi h1 QL))
 let o (l:List Orc):=.el (Q3 t1)::.obj (some 0) (.d (.agg [I t2.1,I t2.2])) (QJ a5 a6 a7 a8 a9 a10 a11 a12 a13 a14) qC::.el (Q3 t1)::b1::(no 28 l)
 rcases io h with ⟨h3,h⟩ | ⟨h3,h⟩
 ·obtain ⟨t4,h4,h⟩:=bo h;obtain ⟨h5,h⟩:=gd h
  cases h
  exact rfO 0 (o [.el (.agg [.v (.string ⟨#[83]⟩),I 1,.fn (.func 147) [] [],.fn (.func 148) [] []]),.ix (-9),b1,.el (Zy t4),b1]) (Qa (ro 9 h5) (allE Qr h4 (Qa (mk1 ⟨#[115,101,99,116,111,114]⟩ (.agg [.v (.string ⟨#[83]⟩),I 1,.fn (.func 147) [] [],.fn (.func 148) [] []]) h3) q)))
 rcases io h with ⟨h4,h⟩ | ⟨h4,h⟩
 ·obtain ⟨t5,h5,h⟩:=bo h;obtain ⟨t6,h6,h⟩:=bo h;obtain ⟨t7,h7,h⟩:=bo h;obtain ⟨h8,h⟩:=gd h
  cases h
  exact rfO 0 (o [.el (.agg [.v (.string ⟨#[77,115]⟩),I 2,.fn (.func 149) [] [],.fn (.func 150) [] []]),.ix (-9),b1,.el (Zy t5),.el (Zy t6),.el (Q3 t7),b1]) (Qa (ro 73 h8) (allE Qi h7 (allE Qr h6 (allE Qr h5 (Qa (mk1 ⟨#[109,105,114,114,111,114]⟩ (.agg [.v (.string ⟨#[77,115]⟩),I 2,.fn (.func 149) [] [],.fn (.func 150) [] []]) h4) q)))))
 rcases io h with ⟨h5,h⟩ | ⟨h5,h⟩
 ·obtain ⟨t6,h6,h⟩:=bo h;obtain ⟨t7,h7,h⟩:=bo h;obtain ⟨t8,h8,h⟩:=bo h;obtain ⟨h9,h⟩:=gd h;obtain ⟨t10,h10,h⟩:=bo h;obtain ⟨t11,h11,h⟩:=bo h
  cases h
  exact rfO 0 (o [.el (.agg [.v (.string ⟨#[109]⟩),I 2,.fn (.func 151) [] [],.fn (.func 215) [] [.ref (.fn (.func 153) [] []) 0]]),.ix (-9),b1,.el (Zy t6),.ix (-9),b1,.obj (some 0) (.d (.lst false 1 t7)) (QJ t1 a6 a7 a8 t2.1 t2.2 a11 a12 a13 a14) qC,.ret (I t8),b1,.ix (-9),b1,.el (Q3 t10),.el (QB t11)]) (Qa (QX Qq h11) (allE Qi h10 (Qa h9 (Qa (QK h8) (Qa (Zn h7) (allE Qr h6 (Qa (mk1 ⟨#[115,111,105,108]⟩ (.agg [.v (.string ⟨#[109]⟩),I 2,.fn (.func 151) [] [],.fn (.func 215) [] [.ref (.fn (.func 153) [] []) 0]]) h5) q)))))))
 rcases io h with ⟨h6,h⟩ | ⟨h6,h⟩
 ·obtain ⟨t7,h7,h⟩:=bo h;obtain ⟨t8,h8,h⟩:=bo h;obtain ⟨t9,h9,h⟩:=bo h;obtain ⟨h10,h⟩:=gd h;obtain ⟨t11,h11,h⟩:=bo h
  cases h
  exact rfO 0 (o [.el (.agg [.v (.string ⟨#[109]⟩),I 1,.fn (.func 154) [] [],.fn (.func 215) [] [.ref (.fn (.func 155) [] []) 0]]),.ix (-9),b1,.el (Zy t7),.ix (-9),b1,.obj (some 0) (.d (.lst false 1 t8)) (QJ t1 a6 a7 a8 t2.1 t2.2 a11 a12 a13 a14) qC,.ret (I t9),b1,.ix (-9),b1,.el (QB t11)]) (Qa (QX Qq h11) (Qa h10 (Qa (QK h9) (Qa (Zn h8) (allE Qr h7 (Qa (mk1 ⟨#[99,108,101,97,110]⟩ (.agg [.v (.string ⟨#[109]⟩),I 1,.fn (.func 154) [] [],.fn (.func 215) [] [.ref (.fn (.func 155) [] []) 0]]) h6) q))))))
 rcases io h with ⟨h7,h⟩ | ⟨h7,h⟩
 ·obtain ⟨t8,h8,h⟩:=bo h;obtain ⟨t9,h9,h⟩:=bo h;obtain ⟨t10,h10,h⟩:=bo h;obtain ⟨h11,h⟩:=gd h;obtain ⟨t12,h12,h⟩:=bo h
  cases h
  exact rfO 0 (o [.el (.agg [.v (.string ⟨#[109]⟩),I 1,.fn (.func 216) [] [.ref (.fn (.func 157) [] []) 0],.fn (.func 215) [] [.ref (.fn (.func 158) [] []) 0]]),.ix (-9),b1,.el (Zy t8),.ix (-9),b1,.obj (some 0) (.d (.lst false 1 t9)) (QJ t1 a6 a7 a8 t2.1 t2.2 a11 a12 a13 a14) qC,.ret (I t10),b1,.ix (-9),b1,.el (QB t12)]) (Qa (QX Qq h12) (Qa h11 (Qa (QK h10) (Qa (Zn h9) (allE Qr h8 (Qa (mk1 ⟨#[100,101,102,101,99,116]⟩ (.agg [.v (.string ⟨#[109]⟩),I 1,.fn (.func 216) [] [.ref (.fn (.func 157) [] []) 0],.fn (.func 215) [] [.ref (.fn (.func 158) [] []) 0]]) h7) q))))))
 rcases io h with ⟨h8,h⟩ | ⟨h8,h⟩
 ·obtain ⟨t9,h9,h⟩:=bo h;obtain ⟨t10,h10,h⟩:=bo h;obtain ⟨t11,h11,h⟩:=bo h;obtain ⟨h12,h⟩:=gd h;obtain ⟨t13,h13,h⟩:=bo h
  cases h
  exact rfO 0 (o [.el (.agg [.v (.string ⟨#[109]⟩),I 1,.fn (.func 216) [] [.ref (.fn (.func 159) [] []) 0],.fn (.func 215) [] [.ref (.fn (.func 160) [] []) 0]]),.ix (-9),b1,.el (Zy t9),.ix (-9),b1,.obj (some 0) (.d (.lst false 1 t10)) (QJ t1 a6 a7 a8 t2.1 t2.2 a11 a12 a13 a14) qC,.ret (I t11),b1,.ix (-9),b1,.el (QB t13)]) (Qa (QX Qq h13) (Qa h12 (Qa (QK h11) (Qa (Zn h10) (allE Qr h9 (Qa (mk1 ⟨#[114,101,112,97,105,114]⟩ (.agg [.v (.string ⟨#[109]⟩),I 1,.fn (.func 216) [] [.ref (.fn (.func 159) [] []) 0],.fn (.func 215) [] [.ref (.fn (.func 160) [] []) 0]]) h8) q))))))
 rcases io h with ⟨h9,h⟩ | ⟨h9,h⟩
 ·obtain ⟨t10,h10,h⟩:=bo h;obtain ⟨t11,h11,h⟩:=bo h;obtain ⟨t12,h12,h⟩:=bo h;obtain ⟨h13,h⟩:=gd h;obtain ⟨t14,h14,h⟩:=bo h
  cases h
  exact rfO 0 (o [.el (.agg [.v (.string ⟨#[109]⟩),I 1,.fn (.func 216) [] [.ref (.fn (.func 161) [] []) 0],.fn (.func 215) [] [.ref (.fn (.func 162) [] []) 0]]),.ix (-9),b1,.el (Zy t10),.ix (-9),b1,.obj (some 0) (.d (.lst false 1 t11)) (QJ t1 a6 a7 a8 t2.1 t2.2 a11 a12 a13 a14) qC,.ret (I t12),b1,.ix (-9),b1,.el (QB t14)]) (Qa (QX Qq h14) (Qa h13 (Qa (QK h12) (Qa (Zn h11) (allE Qr h10 (Qa (mk1 ⟨#[97,105,109]⟩ (.agg [.v (.string ⟨#[109]⟩),I 1,.fn (.func 216) [] [.ref (.fn (.func 161) [] []) 0],.fn (.func 215) [] [.ref (.fn (.func 162) [] []) 0]]) h9) q))))))
 rcases io h with ⟨h10,h⟩ | ⟨h10,h⟩
 ·obtain ⟨t11,h11,h⟩:=bo h;obtain ⟨t12,h12,h⟩:=bo h;obtain ⟨t13,h13,h⟩:=bo h;obtain ⟨h14,h⟩:=gd h;obtain ⟨t15,h15,h⟩:=bo h
  cases h
  exact rfO 0 (o [.el (.agg [.v (.string ⟨#[109]⟩),I 1,.fn (.func 216) [] [.ref (.fn (.func 163) [] []) 0],.fn (.func 215) [] [.ref (.fn (.func 164) [] []) 0]]),.ix (-9),b1,.el (Zy t11),.ix (-9),b1,.obj (some 0) (.d (.lst false 1 t12)) (QJ t1 a6 a7 a8 t2.1 t2.2 a11 a12 a13 a14) qC,.ret (I t13),b1,.ix (-9),b1,.el (QB t15)]) (Qa (QX Qq h15) (Qa h14 (Qa (QK h13) (Qa (Zn h12) (allE Qr h11 (Qa (mk1 ⟨#[112,97,114,107]⟩ (.agg [.v (.string ⟨#[109]⟩),I 1,.fn (.func 216) [] [.ref (.fn (.func 163) [] []) 0],.fn (.func 215) [] [.ref (.fn (.func 164) [] []) 0]]) h10) q))))))
 rcases io h with ⟨h11,h⟩ | ⟨h11,h⟩
 ·obtain ⟨t12,h12,h⟩:=bo h
  cases h
  exact rfO 0 (o [.el (.agg [.v (.string ⟨#[115]⟩),I 1,.fn (.func 154) [] [],.fn (.func 165) [] []]),.ix (-9),b1,.obj (some 0) (.d (.tup [])) (QJ t1 a6 a7 a8 t2.1 t2.2 a11 a12 t12 a14) [false,false,false,false,false,false,false,true,true,true]]) (Qa (G3 h12) (Qa (mk1 ⟨#[100,105,109]⟩ (.agg [.v (.string ⟨#[115]⟩),I 1,.fn (.func 154) [] [],.fn (.func 165) [] []]) h11) q))
 rcases io h with ⟨h12,h⟩ | ⟨h12,h⟩
 ·obtain ⟨t13,h13,h⟩:=bo h
  cases h
  exact rfO 0 (o [.el (.agg [.v (.string ⟨#[]⟩),I 2,.fn (.func 168) [] [],.fn (.func 169) [] []]),.ix (-9),b1,.el (Q3 t13)]) (allE Qi h13 (Qa (mk1 ⟨#[115,117,110]⟩ (.agg [.v (.string ⟨#[]⟩),I 2,.fn (.func 168) [] [],.fn (.func 169) [] []]) h12) q))
 rcases io h with ⟨h13,h⟩ | ⟨h13,h⟩
 ·cases h
  exact rfO 0 (o [.el (.agg [.v (.string ⟨#[]⟩),I 1,.fn (.func 170) [] [],.fn (.func 171) [] []]),.ix (-9),b1]) (Qa (mk1 ⟨#[102,105,108,108]⟩ (.agg [.v (.string ⟨#[]⟩),I 1,.fn (.func 170) [] [],.fn (.func 171) [] []]) h13) q)
 rcases io h with ⟨h14,h⟩ | ⟨h14,h⟩
 ·cases h
  exact rfO 0 (o [.el (.agg [.v (.string ⟨#[]⟩),I 1,.fn (.func 172) [] [],.fn (.func 174) [] []]),.ix (-9),b1]) (Qa (mk1 ⟨#[100,114,97,105,110]⟩ (.agg [.v (.string ⟨#[]⟩),I 1,.fn (.func 172) [] [],.fn (.func 174) [] []]) h14) q)
 rcases io h with ⟨h15,h⟩ | ⟨h15,h⟩
 ·obtain ⟨t16,h16,h⟩:=bo h
  cases h
  exact rfO 0 (o [.el (.agg [.v (.string ⟨#[]⟩),I 1,.fn (.func 175) [] [],.fn (.func 176) [] []]),.ix (-9),b1,.obj (some 0) (.d (.tup [])) (QJ t1 a6 a7 true t2.1 t2.2 a11 a12 t16 a14) [false,false,false,false,false,false,false,true,true,true]]) (Qa (Gn h16) (Qa (mk1 ⟨#[116,114,105,112]⟩ (.agg [.v (.string ⟨#[]⟩),I 1,.fn (.func 175) [] [],.fn (.func 176) [] []]) h15) q))
 rcases io h with ⟨h16,h⟩ | ⟨h16,h⟩
 ·cases h
  exact rfO 0 (o [.el (.agg [.v (.string ⟨#[]⟩),I 1,.fn (.func 178) [] [],.fn (.func 179) [] []]),.ix (-9),b1]) (Qa (mk1 ⟨#[114,101,115,101,116]⟩ (.agg [.v (.string ⟨#[]⟩),I 1,.fn (.func 178) [] [],.fn (.func 179) [] []]) h16) q)
 rcases io h with ⟨h17,h⟩ | ⟨h17,h⟩
 ·obtain ⟨t18,h18,h⟩:=bo h;obtain ⟨t19,h19,h⟩:=bo h;obtain ⟨t20,h20,h⟩:=bo h;obtain ⟨t21,h21,h⟩:=bo h;obtain ⟨h22,h⟩:=gd h
  cases h
  exact rfO 0 (o [.el (.agg [.v (.string ⟨#[79]⟩),I 5,.fn (.func 180) [] [],.fn (.func 182) [] []]),.ix (-9),b1,.ret (.tup [.agg [I t18.1,I t18.2.1],I t18.2.2]),.el (Zy t19),.el (Q3 t20),.el (Q3 t21),b1]) (Qa (ro 74 h22) (allE Qi h21 (allE Qi h20 (allE Qr h19 (Qa (GT h18) (Qa (mk1 ⟨#[111,102,102,101,114]⟩ (.agg [.v (.string ⟨#[79]⟩),I 5,.fn (.func 180) [] [],.fn (.func 182) [] []]) h17) q))))))
 rcases io h with ⟨h18,h⟩ | ⟨h18,h⟩
 ·obtain ⟨t19,h19,h⟩:=bo h;obtain ⟨t20,h20,h⟩:=bo h;obtain ⟨t21,h21,h⟩:=bo h;obtain ⟨h22,h⟩:=gd h;obtain ⟨t23,h23,h⟩:=bo h;obtain ⟨t24,h24,h⟩:=bo h;obtain ⟨h25,h⟩:=gd h;obtain ⟨h26,h⟩:=gd h;obtain ⟨h27,h⟩:=gd h
  cases h
  exact rfO 0 (o [.el (.agg [.v (.string ⟨#[111]⟩),I 2,.fn (.func 183) [] [],.fn (.func 184) [] []]),.ix (-9),b1,.el (Zy t19),.ix (-9),b1,.obj (some 0) (.d (.lst false 1 t20)) (QJ t1 a6 a7 a8 t2.1 t2.2 a11 a12 a13 a14) qC,.ret (I t21),b1,.el (Q7 t23),.el (Q3 t24),.el (Q7 t23),.el (Q3 t24)]) (Qa h27 (Qa h26 (allE Qi h24 (Qa (QX Q0 h23) (Qa h25 (allE Qi h24 (Qa (QX Q0 h23) (Qa h22 (Qa (QK h21) (Qa (Zn h20) (allE Qr h19 (Qa (mk1 ⟨#[100,101,108,105,118,101,114]⟩ (.agg [.v (.string ⟨#[111]⟩),I 2,.fn (.func 183) [] [],.fn (.func 184) [] []]) h18) q))))))))))))
 rcases io h with ⟨h19,h⟩ | ⟨h19,h⟩
 ·obtain ⟨t20,h20,h⟩:=bo h;obtain ⟨t21,h21,h⟩:=bo h;obtain ⟨t22,h22,h⟩:=bo h;obtain ⟨h23,h⟩:=gd h;obtain ⟨t24,h24,h⟩:=bo h;obtain ⟨t25,h25,h⟩:=bo h;obtain ⟨t26,h26,h⟩:=bo h;obtain ⟨h27,h⟩:=gd h
  cases h
  exact rfO 0 (o [.el (.agg [.v (.string ⟨#[111]⟩),I 1,.fn (.func 185) [] [],.fn (.func 186) [] []]),.ix (-9),b1,.el (Zy t20),b1,.obj (some 0) (.d (.lst false 1 t21)) (QJ t1 a6 a7 a8 t2.1 t2.2 a11 a12 a13 a14) qC,.ret (I t22),b1,.el (Q7 t24),.el (Q7 t25),.ret (I t26)]) (Qa h27 (Qa (YN h26) (Qa (QX Q0 h25) (Qa (QX Q0 h24) (Qa h23 (Qa (QK h22) (Qa (Zn h21) (allE Qr h20 (Qa (mk1 ⟨#[98,105,108,108]⟩ (.agg [.v (.string ⟨#[111]⟩),I 1,.fn (.func 185) [] [],.fn (.func 186) [] []]) h19) q)))))))))
 rcases io h with ⟨h20,h⟩ | ⟨h20,h⟩
 ·cases h
  exact rfO 0 (o [.el (.agg [.v (.string ⟨#[]⟩),I 0,.fn (.func 154) [] [],.fn (.func 187) [] []]),.ix (-9),b1]) (Qa (mk1 ⟨#[117,110,100,111]⟩ (.agg [.v (.string ⟨#[]⟩),I 0,.fn (.func 154) [] [],.fn (.func 187) [] []]) h20) q)
 cases h
def ZH (n:Nat) (a0:Int) (a1:jSj) (a2 a3:jVj) (a4:jSj) (a5 a6:jVj) (a7 a8:Int) (a9 a10:Bool) (a11 a12 a13:Int) (a14 a15 a16:jVj) (sa:(Int×jVj)):Option (((Int×jVj))⊕((jVj))) :=
 if sa.1 < ((a15).length:Int) then
  if 0≤sa.1∧sa.1 < ((sa.2).length:Int) then
  ((nth (sa.2) (Int.toNat sa.1)).bind QM).bind fun ta3 =>
  (WC n ta3.1 ta3.2.1 ta3.2.2.1 ta3.2.2.2.1 ta3.2.2.2.2.1 ta3.2.2.2.2.2 a0 a1 a2 a3 a4).bind fun ta4 =>
  if ta4=true then
   if Qh (sa.1+1) then
   some (.inl ((sa.1+1),(List.set sa.2 (Int.toNat sa.1) (.agg [.v (.string ta3.1),.v (.string ta3.2.1),I ta3.2.2.1,I ta3.2.2.2.1,B ta3.2.2.2.2.1,B false]:D))))
   else none
  else
  if Qh (sa.1+1) then
  some (.inl ((sa.1+1),sa.2))
  else none
  else none
 else
 some (.inr sa.2)
noncomputable def Jh (a0:Int) (a1:jSj) (a2 a3:jVj) (a4:jSj) (a5 a6:jVj) (a7 a8:Int) (a9 a10:Bool) (a11 a12 a13:Int) (a14 a15 a16:jVj):Lp ((Int×jVj)) ((jVj)):=⟨fun sa=>[(0,.ptr 0 0 0 0 2),(1,.d (.fn (.func 167) [] [.ref (.agg [I a0,.v (.string a1),.lst false 1 a2,.lst false 1 a3,.v (.string a4)]) 0])),(9,.own 11 0),(10,.d (I ((a15).length:Int))),(11,.d (I sa.1))],fun sa=>[(0,.box (.agg [.own 1 0,.own 2 0,.d (I a7),.d (I a8),.d (B a9),.d (B a10),.d (I a11),.d (I a12),.d (I a13),.own 10 0,.own 11 0,.own 12 0])),(1,.row 0 5 a5),(2,.row 0 5 a6),(10,.row 0 1 a14),(11,.row 0 6 sa.2),(12,.row 0 7 a16)],fun _=>(.exit 0),fun _=>[],fun e=>[(0,.box (.agg [.own 1 0,.own 2 0,.d (I a7),.d (I a8),.d (B a9),.d (B a10),.d (I a11),.d (I a12),.d (I a13),.own 10 0,.own 11 0,.own 12 0])),(1,.row 0 5 a5),(2,.row 0 5 a6),(10,.row 0 1 a14),(11,.row 0 6 e),(12,.row 0 7 a16)]⟩
theorem Jd {n:Nat} {a0:Int} {a1:jSj} {a2 a3:jVj} {a4:jSj} {a5 a6:jVj} {a7 a8:Int} {a9 a10:Bool} {a11 a12 a13:Int} {a14 a15 a16:jVj} (sa:(Int×jVj)) (r) (h:ZH n a0 a1 a2 a3 a4 a5 a6 a7 a8 a9 a10 a11 a12 a13 a14 a15 a16 sa=some r):Rl (ZJ cx.P 166 0) 27 13 false (Jh a0 a1 a2 a3 a4 a5 a6 a7 a8 a9 a10 a11 a12 a13 a14 a15 a16) sa r:=by
 unfold ZH at h
 rcases io h with ⟨ha1,h⟩ | ⟨ha1,h⟩
 ·obtain ⟨ha2,h⟩:=gd h;obtain ⟨ta3,ha3,h⟩:=bo h;obtain ⟨ta4,ha4,h⟩:=bo h
  have q:=Qa (U4 ha4) (Qa (QX Qq ha3) (Qa ha2 (Qa (jDj ha1) QL)))
  let o (l:List Orc):=b1::b1::.el (QB ta3)::.ret (B ta4)::l
  rcases io h with ⟨ha5,h⟩ | ⟨ha5,h⟩
  ·obtain ⟨ha6,h⟩:=gd h
   cases h
   exact rn 19 (o [b1,b1,.el (QB ta3)]) [] [0,1,9,10,11] [0,1,2,10,11,12] (Qa ha6 (Qa (QX Qq ha3) (Qa ha2 (Qa ha5 q))))
  obtain ⟨ha6,h⟩:=gd h
  cases h
  exact rn 19 (o [b0]) [] [0,1,9,10,11] [0,1,2,10,11,12] (Qa ha6 (Qa (QA ha5) q))
 cases h
 exact rx 19 [b0] [] [] [0,1,2,10,11,12] (Qa (jEj ha1) QL)
def WF (n:Nat) (a0:Int) (a1:jSj) (a2 a3:jVj) (a4:jSj) (a5 a6:jVj) (a7 a8:Int) (a9 a10:Bool) (a11 a12 a13:Int) (a14 a15 a16:jVj):Option (jVj) :=
 (Q2 (ZH n a0 a1 a2 a3 a4 a5 a6 a7 a8 a9 a10 a11 a12 a13 a14 a15 a16) n (0,a15)).bind fun t1 =>
 some t1
theorem Gm {n:Nat} {a0:Int} {a1:jSj} {a2 a3:jVj} {a4:jSj} {a5 a6:jVj} {a7 a8:Int} {a9 a10:Bool} {a11 a12 a13:Int} {a14 a15 a16:jVj} {r:jVj} (h:WF n a0 a1 a2 a3 a4 a5 a6 a7 a8 a9 a10 a11 a12 a13 a14 a15 a16=some r):ComputesO cx 166 [.ptr 0 0 0 0 2,.d (.fn (.func 167) [] [.ref (.agg [I a0,.v (.string a1),.lst false 1 a2,.lst false 1 a3,.v (.string a4)]) 0])] (some (Qb a5 a6 a7 a8 a9 a10 a11 a12 a13 a14 a15 a16)) (.d (.tup [])) (Qb a5 a6 a7 a8 a9 a10 a11 a12 a13 a14 r a16) [true,true,false,false,false,false,false,false,false,true,true,true]:=by
 unfold WF at h
 obtain ⟨t1,h1,h⟩:=bo h;obtain rfl:=oi h
 exact rfO 0 [.lp [] [0,1,9,10,11] [0,1,2,10,11,12] (.exit 0) [] [(0,.box (.agg [.own 1 0,.own 2 0,.d (I a7),.d (I a8),.d (B a9),.d (B a10),.d (I a11),.d (I a12),.d (I a13),.own 10 0,.own 11 0,.own 12 0])),(1,.row 0 5 a5),(2,.row 0 5 a6),(10,.row 0 1 a14),(11,.row 0 6 t1),(12,.row 0 7 a16)] 50] (Qa (QH Jd h1) QL)
def ZG (n:Nat) (a0 a1:jVj) (a2 a3:Int) (a4 a5:Bool) (a6 a7 a8:Int) (a9 a10 a11:jVj) (sa:(Int×jVj)):Option (((Int×jVj))⊕((jVj))) :=
 if sa.1 < ((a10).length:Int) then
  if 0≤sa.1∧sa.1 < ((sa.2).length:Int) then
  ((nth (sa.2) (Int.toNat sa.1)).bind QM).bind fun ta3 =>
  (WB n ta3.1 ta3.2.1 ta3.2.2.1 ta3.2.2.2.1 ta3.2.2.2.2.1 ta3.2.2.2.2.2).bind fun ta4 =>
  if ta4=true then
   if Qh (sa.1+1) then
   some (.inl ((sa.1+1),(List.set sa.2 (Int.toNat sa.1) (.agg [.v (.string ta3.1),.v (.string ta3.2.1),I ta3.2.2.1,I ta3.2.2.2.1,B ta3.2.2.2.2.1,B false]:D))))
   else none
  else
  if Qh (sa.1+1) then
  some (.inl ((sa.1+1),sa.2))
  else none
  else none
 else
 some (.inr sa.2)
noncomputable def Jg (a0 a1:jVj) (a2 a3:Int) (a4 a5:Bool) (a6 a7 a8:Int) (a9 a10 a11:jVj):Lp ((Int×jVj)) ((jVj)):=⟨fun sa=>[(0,.ptr 0 0 0 0 2),(1,.d (.fn (.func 177) [] [])),(9,.own 11 0),(10,.d (I ((a10).length:Int))),(11,.d (I sa.1))],fun sa=>[(0,.box (.agg [.own 1 0,.own 2 0,.d (I a2),.d (I a3),.d (B a4),.d (B a5),.d (I a6),.d (I a7),.d (I a8),.own 10 0,.own 11 0,.own 12 0])),(1,.row 0 5 a0),(2,.row 0 5 a1),(10,.row 0 1 a9),(11,.row 0 6 sa.2),(12,.row 0 7 a11)],fun _=>(.exit 0),fun _=>[],fun e=>[(0,.box (.agg [.own 1 0,.own 2 0,.d (I a2),.d (I a3),.d (B a4),.d (B a5),.d (I a6),.d (I a7),.d (I a8),.own 10 0,.own 11 0,.own 12 0])),(1,.row 0 5 a0),(2,.row 0 5 a1),(10,.row 0 1 a9),(11,.row 0 6 e),(12,.row 0 7 a11)]⟩
theorem Jc {n:Nat} {a0 a1:jVj} {a2 a3:Int} {a4 a5:Bool} {a6 a7 a8:Int} {a9 a10 a11:jVj} (sa:(Int×jVj)) (r) (h:ZG n a0 a1 a2 a3 a4 a5 a6 a7 a8 a9 a10 a11 sa=some r):Rl (ZJ cx.P 166 0) 27 13 false (Jg a0 a1 a2 a3 a4 a5 a6 a7 a8 a9 a10 a11) sa r:=by
 unfold ZG at h
 rcases io h with ⟨ha1,h⟩ | ⟨ha1,h⟩
 ·obtain ⟨ha2,h⟩:=gd h;obtain ⟨ta3,ha3,h⟩:=bo h;obtain ⟨ta4,ha4,h⟩:=bo h
  have q:=Qa (U3 ha4) (Qa (QX Qq ha3) (Qa ha2 (Qa (jDj ha1) QL)))
  let o (l:List Orc):=b1::b1::.el (QB ta3)::.ret (B ta4)::l
  rcases io h with ⟨ha5,h⟩ | ⟨ha5,h⟩
  ·obtain ⟨ha6,h⟩:=gd h
   cases h
   exact rn 19 (o [b1,b1,.el (QB ta3)]) [] [0,1,9,10,11] [0,1,2,10,11,12] (Qa ha6 (Qa (QX Qq ha3) (Qa ha2 (Qa ha5 q))))
  obtain ⟨ha6,h⟩:=gd h
  cases h
  exact rn 19 (o [b0]) [] [0,1,9,10,11] [0,1,2,10,11,12] (Qa ha6 (Qa (QA ha5) q))
 cases h
 exact rx 19 [b0] [] [] [0,1,2,10,11,12] (Qa (jEj ha1) QL)
def WE (n:Nat) (a0 a1:jVj) (a2 a3:Int) (a4 a5:Bool) (a6 a7 a8:Int) (a9 a10 a11:jVj):Option (jVj) :=
 (Q2 (ZG n a0 a1 a2 a3 a4 a5 a6 a7 a8 a9 a10 a11) n (0,a10)).bind fun t1 =>
 some t1
theorem Gl {n:Nat} {a0 a1:jVj} {a2 a3:Int} {a4 a5:Bool} {a6 a7 a8:Int} {a9 a10 a11:jVj} {r:jVj} (h:WE n a0 a1 a2 a3 a4 a5 a6 a7 a8 a9 a10 a11=some r):ComputesO cx 166 [.ptr 0 0 0 0 2,.d (.fn (.func 177) [] [])] (some (Qb a0 a1 a2 a3 a4 a5 a6 a7 a8 a9 a10 a11)) (.d (.tup [])) (Qb a0 a1 a2 a3 a4 a5 a6 a7 a8 a9 r a11) [true,true,false,false,false,false,false,false,false,true,true,true]:=by
 unfold WE at h
 obtain ⟨t1,h1,h⟩:=bo h;obtain rfl:=oi h
 exact rfO 0 [.lp [] [0,1,9,10,11] [0,1,2,10,11,12] (.exit 0) [] [(0,.box (.agg [.own 1 0,.own 2 0,.d (I a2),.d (I a3),.d (B a4),.d (B a5),.d (I a6),.d (I a7),.d (I a8),.own 10 0,.own 11 0,.own 12 0])),(1,.row 0 5 a0),(2,.row 0 5 a1),(10,.row 0 1 a9),(11,.row 0 6 t1),(12,.row 0 7 a11)] 50] (Qa (QH Jc h1) QL)
end Go.Proofs.YtljabneifpkbjaaGreatDoor
