/- Printed by gsx.py: functions of the program as Lean functions, and that the code computes them. -/
import Derived.Test.YtljabneifpkbjaaGreatDoorWake
set_option linter.unusedVariables false
set_option linter.unusedSimpArgs false
set_option linter.unnecessarySimpa false
set_option maxRecDepth 10000
set_option maxHeartbeats 4000000
namespace Go.Proofs.YtljabneifpkbjaaGreatDoor
open Go.SX
def Qd4 (n:Nat) (a0 a1:Int) (a2 a3:Bool) (a4 a5 a6:Int) (a7 a8 a9:List D) (a10:ByteArray) (sa:(Int×Int×Int)):Option (((Int×Int×Int))⊕((Int×Int))) :=
 if sa.1 < ((a8).length:Int) then
  (el QM a8 sa.1).bind fun ta2 =>
  if (ta2.2.1.toList == a10.toList)=true then
   if Qh (sa.2.1+1) then
   if ta2.2.2.2.2.2=true then
    if Qh (sa.2.2+1) then
    if Qh (sa.1+1) then
    some (.inl ((sa.1+1),(sa.2.1+1),(sa.2.2+1)))
    else none
    else none
   else
   if Qh (sa.1+1) then
   some (.inl ((sa.1+1),(sa.2.1+1),sa.2.2))
   else none
   else none
  else
  if Qh (sa.1+1) then
  some (.inl ((sa.1+1),sa.2.1,sa.2.2))
  else none
 else
 some (.inr (sa.2.1,sa.2.2))
noncomputable def Qel (a0 a1:Int) (a2 a3:Bool) (a4 a5 a6:Int) (a7 a8 a9:List D) (a10:ByteArray):Lp ((Int×Int×Int)) ((Int×Int)):=⟨fun sa=>[(1,.d (.v (.string a10))),(2,.ptr 0 0 0 0 0),(4,.ptr 1 0 0 0 0),(5,.ptr 2 0 0 0 0),(6,.d (I sa.1))],fun sa=>[(0,.box (.d (.agg [I a0,I a1,B a2,B a3,I a4,I a5,I a6,.lst false 1 a7,.lst false 6 a8,.lst false 7 a9]))),(1,.box (.d (.agg [I 0,I 0]))),(2,.box (.d (.agg [I sa.2.1,I sa.2.2])))],fun _=>(.exit 0),fun _=>[(4,.ptr 1 0 0 0 0),(5,.ptr 2 0 0 0 0)],fun e=>[(1,.box (.d (.agg [I 0,I 0]))),(2,.box (.d (.agg [I e.1,I e.2])))]⟩
theorem Qek {n:Nat} {a0 a1:Int} {a2 a3:Bool} {a4 a5 a6:Int} {a7 a8 a9:List D} {a10:ByteArray} (sa:(Int×Int×Int)) (r) (h:Qd4 n a0 a1 a2 a3 a4 a5 a6 a7 a8 a9 a10 sa=some r):Rl (ZJ cx.P 30 0) 37 0 false (Qel a0 a1 a2 a3 a4 a5 a6 a7 a8 a9 a10) sa r:=by
 unfold Qd4 at h
 rcases io h with ⟨ha1,h⟩ | ⟨ha1,h⟩
 ·obtain ⟨ta2,ha2,h⟩:=bo h
  have q:=Qa (Qf Qq ha2).1 (Qa (Qf Qq ha2).2 (Qa (decide_eq_true ha1) QL))
  let o (l:List Orc):=b1::.el (QB ta2)::l
  rcases io h with ⟨ha3,h⟩ | ⟨ha3,h⟩
  ·obtain ⟨ha4,h⟩:=gd h
   have q:=Qa (Qf Qq ha2).1 (Qa (Qf Qq ha2).2 (Qa ha4 (Qa ha3 q)))
   let o l:=o (b1::.el (QB ta2)::l)
   rcases io h with ⟨ha5,h⟩ | ⟨ha5,h⟩
   ·obtain ⟨ha6,h⟩:=gd h;obtain ⟨ha7,h⟩:=gd h
    cases h
    exact rn 4 (o [b1]) [] [1,2,4,5,6] [0,1,2] (Qa ha7 (Qa ha6 (Qa ha5 q)))
   obtain ⟨ha6,h⟩:=gd h
   cases h
   exact rn 4 (o [b0]) [] [1,2,4,5,6] [0,1,2] (Qa ha6 (Qa (QA ha5) q))
  obtain ⟨ha4,h⟩:=gd h
  cases h
  exact rn 4 (o [b0]) [] [1,2,4,5,6] [0,1,2] (Qa ha4 (Qa (QA ha3) q))
 cases h
 exact rx 4 [b0] [] [4,5] [1,2] (Qa (decide_eq_false ha1) QL)
def Qd8 (n:Nat) (a0 a1:Int) (a2 a3:Bool) (a4 a5 a6:Int) (a7 a8 a9:List D) (a10:ByteArray):Option (Int×Int) :=
 (Q2 (Qd4 n a0 a1 a2 a3 a4 a5 a6 a7 a8 a9 a10) n (0,0,0)).bind fun t1 =>
 some (t1.1,t1.2)
theorem Qet {n:Nat} {a0 a1:Int} {a2 a3:Bool} {a4 a5 a6:Int} {a7 a8 a9:List D} {a10:ByteArray} {r:Int×Int} (h:Qd8 n a0 a1 a2 a3 a4 a5 a6 a7 a8 a9 a10=some r):Computes cx 30 [.agg [I a0,I a1,B a2,B a3,I a4,I a5,I a6,.lst false 1 a7,.lst false 6 a8,.lst false 7 a9],.v (.string a10)] (.agg [I r.1,I r.2]):=by
 unfold Qd8 at h
 obtain ⟨t1,h1,h⟩:=bo h
 cases h
 exact rf [.lp [] [1,2,4,5,6] [0,1,2] (.exit 0) [(4,.ptr 1 0 0 0 0),(5,.ptr 2 0 0 0 0)] [(1,.box (.d (.agg [I 0,I 0]))),(2,.box (.d (.agg [I t1.1,I t1.2])))] 47] (Qa (QH Qek h1) QL)
def Qd6 (n:Nat) (a0:List D) (a1 a2:ByteArray):Option (Bool) :=
 (WM n a0 24).bind fun t1 =>
 if t1=true then
  if (a1.size:Int) > 40 then
   (WI n).bind fun t4 =>
   some t4
  else
  if (a2.size:Int) > 40 then
   (WI n).bind fun t5 =>
   some t5
  else
  (XD n a0 a1).bind fun t5 =>
  (JQ n a0 a2).bind fun t6 =>
  (qz n a0 a2).bind fun t7 =>
  (Vo n a0).bind fun t8 =>
  (WW n t8.1 t8.2.1 t8.2.2.1 t8.2.2.2.1 t8.2.2.2.2.1 t8.2.2.2.2.2.1 t8.2.2.2.2.2.2.1 t8.2.2.2.2.2.2.2.1 t8.2.2.2.2.2.2.2.2.1 t8.2.2.2.2.2.2.2.2.2.1 111 a2).bind fun t9 =>
  (WW n t8.1 t8.2.1 t8.2.2.1 t8.2.2.2.1 t8.2.2.2.2.1 t8.2.2.2.2.2.1 t8.2.2.2.2.2.2.1 t8.2.2.2.2.2.2.2.1 t8.2.2.2.2.2.2.2.2.1 t8.2.2.2.2.2.2.2.2.2.1 115 a1).bind fun t10 =>
  (Yt n (decide (t10 < 0)) 10).bind fun t11 =>
  (V5 n ([I t8.2.2.2.2.2.2.2.2.2.2.2,I t11])).bind fun t12 =>
  (Yt n (decide (t9 < 0)) 10).bind fun t13 =>
  (V5 n ([I t8.2.2.2.2.2.2.2.2.2.2.2,I t13])).bind fun t14 =>
  if t12=0 then
   (Qd8 n t8.1 t8.2.1 t8.2.2.1 t8.2.2.2.1 t8.2.2.2.2.1 t8.2.2.2.2.2.1 t8.2.2.2.2.2.2.1 t8.2.2.2.2.2.2.2.1 t8.2.2.2.2.2.2.2.2.1 t8.2.2.2.2.2.2.2.2.2.1 a1).bind fun t16 =>
   if t14=0 then
    (el Z6 t8.2.2.2.2.2.2.2.2.2.1 t9).bind fun t18 =>
    (W9 n t18.1 t18.2.1 t18.2.2.1 t18.2.2.2.1 t18.2.2.2.2.1 t18.2.2.2.2.2.1 t18.2.2.2.2.2.2).bind fun t19 =>
    (Ys n t18.1 t18.2.1 t18.2.2.1 t18.2.2.2.1 t18.2.2.2.2.1 t18.2.2.2.2.2.1 t18.2.2.2.2.2.2).bind fun t20 =>
    if ((t5.1 == t16.1) && ((t5.2.1 == t16.2) && true))=true then
     if t5.2.2=t12 then
      if t6.1=t19 then
       if t6.2=t14 then
        if t7.1=t20 then
         if t7.2=t14 then
          (WI n).bind fun t27 =>
          some t27
         else
         none
        else
        none
       else
       none
      else
      none
     else
     none
    else
    none
   else
   if ((t5.1 == t16.1) && ((t5.2.1 == t16.2) && true))=true then
    if t5.2.2=t12 then
     if t6.1=0 then
      if t6.2=t14 then
       if t7.1=0 then
        if t7.2=t14 then
         (WI n).bind fun t24 =>
         some t24
        else
        none
       else
       none
      else
      none
     else
     none
    else
    none
   else
   none
  else
  if t14=0 then
   (el Z6 t8.2.2.2.2.2.2.2.2.2.1 t9).bind fun t17 =>
   (W9 n t17.1 t17.2.1 t17.2.2.1 t17.2.2.2.1 t17.2.2.2.2.1 t17.2.2.2.2.2.1 t17.2.2.2.2.2.2).bind fun t18 =>
   (Ys n t17.1 t17.2.1 t17.2.2.1 t17.2.2.2.1 t17.2.2.2.2.1 t17.2.2.2.2.2.1 t17.2.2.2.2.2.2).bind fun t19 =>
   if ((t5.1 == 0) && ((t5.2.1 == 0) && true))=true then
    if t5.2.2=t12 then
     if t6.1=t18 then
      if t6.2=t14 then
       if t7.1=t19 then
        if t7.2=t14 then
         (WI n).bind fun t26 =>
         some t26
        else
        none
       else
       none
      else
      none
     else
     none
    else
    none
   else
   none
  else
  if ((t5.1 == 0) && ((t5.2.1 == 0) && true))=true then
   if t5.2.2=t12 then
    if t6.1=0 then
     if t6.2=t14 then
      if t7.1=0 then
       if t7.2=t14 then
        (WI n).bind fun t23 =>
        some t23
       else
       none
      else
      none
     else
     none
    else
    none
   else
   none
  else
  none
 else
 (WI n).bind fun t3 =>
 some t3
theorem Qeh {n:Nat} {a0:List D} {a1 a2:ByteArray} {r:Bool} (h:Qd6 n a0 a1 a2=some r):Computes cx 4 [.lst false 5 a0,.v (.string a1),.v (.string a2)] (B r):=by
 unfold Qd6 at h
 obtain ⟨t1,h1,h⟩:=bo h
 have q:=Qa (XY h1) QL
 let o (l:List Orc):=.ret (B t1)::l
 rcases io h with ⟨h2,h⟩ | ⟨h2,h⟩
 ·have q:=Qa (Ud h2) q
  let o l:=o (b0::l)
  rcases io h with ⟨h3,h⟩ | ⟨h3,h⟩
  ·obtain ⟨t4,h4,h⟩:=bo h;obtain rfl:=oi h
   exact rf (o [b1,.no,.ret (B t4)]) (Qa (YE h4) (Qa (decide_eq_true h3) q))
  have q:=Qa (decide_eq_false h3) q
  let o l:=o (b0::l)
  rcases io h with ⟨h4,h⟩ | ⟨h4,h⟩
  ·obtain ⟨t5,h5,h⟩:=bo h;obtain rfl:=oi h
   exact rf (o [b1,.ret (B t5)]) (Qa (YE h5) (Qa (decide_eq_true h4) q))
  obtain ⟨t5,h5,h⟩:=bo h;obtain ⟨t6,h6,h⟩:=bo h;obtain ⟨t7,h7,h⟩:=bo h;obtain ⟨t8,h8,h⟩:=bo h;obtain ⟨t9,h9,h⟩:=bo h;obtain ⟨t10,h10,h⟩:=bo h;obtain ⟨t11,h11,h⟩:=bo h;obtain ⟨t12,h12,h⟩:=bo h;obtain ⟨t13,h13,h⟩:=bo h;obtain ⟨t14,h14,h⟩:=bo h
  have q:=Qa (((jL h14).le (.cons (.full _ _ _) (.nil)) (.refl _)):Computes cx 19 [.lst true 1 [I t8.2.2.2.2.2.2.2.2.2.2.2,I t13]] (I t14)) (Qa (qu h13) (Qa (((jL h12).le (.cons (.full _ _ _) (.nil)) (.refl _)):Computes cx 19 [.lst true 1 [I t8.2.2.2.2.2.2.2.2.2.2.2,I t11]] (I t12)) (Qa (qu h11) (Qa (K9 h10) (Qa (K9 h9) (Qa (je h8) (Qa (yR h7) (Qa (qs h6) (Qa (jk h5) (Qa (decide_eq_false h4) q))))))))))
  let o l:=o (b0::.ret (.tup [.agg [I t5.1,I t5.2.1],I t5.2.2])::.ret (.tup [I t6.1,I t6.2])::.ret (.tup [I t7.1,I t7.2])::.ret (.tup [.agg [I t8.1,I t8.2.1,B t8.2.2.1,B t8.2.2.2.1,I t8.2.2.2.2.1,I t8.2.2.2.2.2.1,I t8.2.2.2.2.2.2.1,.lst false 1 t8.2.2.2.2.2.2.2.1,.lst false 6 t8.2.2.2.2.2.2.2.2.1,.lst false 7 t8.2.2.2.2.2.2.2.2.2.1],I t8.2.2.2.2.2.2.2.2.2.2.1,I t8.2.2.2.2.2.2.2.2.2.2.2])::.ret (I t9)::.ret (I t10)::.ret (I t11)::.ret (I t12)::.ret (I t13)::.ret (I t14)::l)
  rcases io h with ⟨h15,h⟩ | ⟨h15,h⟩
  ·obtain ⟨t16,h16,h⟩:=bo h
   have q:=Qa (Qet h16) (Qa (eqt h15) q)
   let o l:=o (b1::.ret (.agg [I t16.1,I t16.2])::l)
   rcases io h with ⟨h17,h⟩ | ⟨h17,h⟩
   ·obtain ⟨t18,h18,h⟩:=bo h;obtain ⟨t19,h19,h⟩:=bo h;obtain ⟨t20,h20,h⟩:=bo h
    rcases io h with ⟨h21,h⟩ | ⟨h21,h⟩
    ·rcases io h with ⟨h22,h⟩ | ⟨h22,h⟩
     ·rcases io h with ⟨h23,h⟩ | ⟨h23,h⟩
      ·rcases io h with ⟨h24,h⟩ | ⟨h24,h⟩
       ·rcases io h with ⟨h25,h⟩ | ⟨h25,h⟩
        ·rcases io h with ⟨h26,h⟩ | ⟨h26,h⟩
         ·obtain ⟨t27,h27,h⟩:=bo h;obtain rfl:=oi h
          exact rf (o [b1,.el (Q7 t18),.ret (I t19),.el (Q7 t18),.ret (I t20),b1,b1,b1,b1,b1,b1,.ret (B t27)]) (Qa (YE h27) (Qa (eqt h26) (Qa (eqt h25) (Qa (eqt h24) (Qa (eqt h23) (Qa (eqt h22) (Qa h21 (Qa (qr h20) (Qa (Qf Q0 h18).1 (Qa (Qf Q0 h18).2 (Qa (JJ h19) (Qa (Qf Q0 h18).1 (Qa (Qf Q0 h18).2 (Qa (eqt h17) q))))))))))))))
         cases h
        cases h
       cases h
      cases h
     cases h
    cases h
   rcases io h with ⟨h18,h⟩ | ⟨h18,h⟩
   ·rcases io h with ⟨h19,h⟩ | ⟨h19,h⟩
    ·rcases io h with ⟨h20,h⟩ | ⟨h20,h⟩
     ·rcases io h with ⟨h21,h⟩ | ⟨h21,h⟩
      ·rcases io h with ⟨h22,h⟩ | ⟨h22,h⟩
       ·rcases io h with ⟨h23,h⟩ | ⟨h23,h⟩
        ·obtain ⟨t24,h24,h⟩:=bo h;obtain rfl:=oi h
         exact rf (o [b0,b1,b1,b1,b1,b1,b1,.ret (B t24)]) (Qa (YE h24) (Qa (eqt h23) (Qa (eqt h22) (Qa (eqt h21) (Qa (eqt h20) (Qa (eqt h19) (Qa h18 (Qa (eqf h17) q))))))))
        cases h
       cases h
      cases h
     cases h
    cases h
   cases h
  have q:=Qa (eqf h15) q
  rcases io h with ⟨h16,h⟩ | ⟨h16,h⟩
  ·obtain ⟨t17,h17,h⟩:=bo h;obtain ⟨t18,h18,h⟩:=bo h;obtain ⟨t19,h19,h⟩:=bo h
   rcases io h with ⟨h20,h⟩ | ⟨h20,h⟩
   ·rcases io h with ⟨h21,h⟩ | ⟨h21,h⟩
    ·rcases io h with ⟨h22,h⟩ | ⟨h22,h⟩
     ·rcases io h with ⟨h23,h⟩ | ⟨h23,h⟩
      ·rcases io h with ⟨h24,h⟩ | ⟨h24,h⟩
       ·rcases io h with ⟨h25,h⟩ | ⟨h25,h⟩
        ·obtain ⟨t26,h26,h⟩:=bo h;obtain rfl:=oi h
         exact rf (o [b0,b1,.el (Q7 t17),.ret (I t18),.el (Q7 t17),.ret (I t19),b1,b1,b1,b1,b1,b1,.ret (B t26)]) (Qa (YE h26) (Qa (eqt h25) (Qa (eqt h24) (Qa (eqt h23) (Qa (eqt h22) (Qa (eqt h21) (Qa h20 (Qa (qr h19) (Qa (Qf Q0 h17).1 (Qa (Qf Q0 h17).2 (Qa (JJ h18) (Qa (Qf Q0 h17).1 (Qa (Qf Q0 h17).2 (Qa (eqt h16) q))))))))))))))
        cases h
       cases h
      cases h
     cases h
    cases h
   cases h
  rcases io h with ⟨h17,h⟩ | ⟨h17,h⟩
  ·rcases io h with ⟨h18,h⟩ | ⟨h18,h⟩
   ·rcases io h with ⟨h19,h⟩ | ⟨h19,h⟩
    ·rcases io h with ⟨h20,h⟩ | ⟨h20,h⟩
     ·rcases io h with ⟨h21,h⟩ | ⟨h21,h⟩
      ·rcases io h with ⟨h22,h⟩ | ⟨h22,h⟩
       ·obtain ⟨t23,h23,h⟩:=bo h;obtain rfl:=oi h
        exact rf (o [b0,b0,b1,b1,b1,b1,b1,b1,.ret (B t23)]) (Qa (YE h23) (Qa (eqt h22) (Qa (eqt h21) (Qa (eqt h20) (Qa (eqt h19) (Qa (eqt h18) (Qa h17 (Qa (eqf h16) q))))))))
       cases h
      cases h
     cases h
    cases h
   cases h
  cases h
 obtain ⟨t3,h3,h⟩:=bo h;obtain rfl:=oi h
 exact rf (o [b1,.no,.no,.ret (B t3)]) (Qa (YE h3) (Qa (Uc (QA h2)) q))
end Go.Proofs.YtljabneifpkbjaaGreatDoor
