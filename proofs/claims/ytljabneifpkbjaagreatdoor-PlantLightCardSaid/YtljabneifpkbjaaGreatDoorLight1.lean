/- Printed by gsx.py: functions of the program as Lean functions, and that the code computes them. -/
import Derived.Test.YtljabneifpkbjaaGreatDoorWake
set_option linter.unusedVariables false
set_option linter.unusedSimpArgs false
set_option linter.unnecessarySimpa false
set_option maxRecDepth 10000
set_option maxHeartbeats 4000000
namespace Go.Proofs.YtljabneifpkbjaaGreatDoor
open Go.SX
def VW (n:Nat) (a0:List D) (a1:Int):Option (Bool) :=
 (WM n a0 24).bind fun t1 =>
 if t1=true then
  (Uq n a0).bind fun t3 =>
  (YH n a0).bind fun t4 =>
  (Yh n a0 a1).bind fun t5 =>
  (Vo n a0).bind fun t6 =>
  (Wt n a1 0 999999999).bind fun t7 =>
  (Yt n t7 3).bind fun t8 =>
  (Yt n (decide (a1 < t6.1)) 22).bind fun t9 =>
  (V5 n ([I t6.2.2.2.2.2.2.2.2.2.2.2,I t8,I t9])).bind fun t10 =>
  if t6.2.2.2.2.2.2.2.2.2.2.2=0 then
   (Yr n t6.1 t6.2.1 t6.2.2.1 t6.2.2.2.1 t6.2.2.2.2.1 t6.2.2.2.2.2.1 t6.2.2.2.2.2.2.1 t6.2.2.2.2.2.2.2.1 t6.2.2.2.2.2.2.2.2.1 t6.2.2.2.2.2.2.2.2.2.1).bind fun t12 =>
   (V4 n t6.1 t6.2.1 t6.2.2.1 t6.2.2.2.1 t6.2.2.2.2.1 t6.2.2.2.2.2.1 t6.2.2.2.2.2.2.1 t6.2.2.2.2.2.2.2.1 t6.2.2.2.2.2.2.2.2.1 t6.2.2.2.2.2.2.2.2.2.1).bind fun t13 =>
   if t10=0 then
    (Vp n t6.1 t6.2.1 t6.2.2.1 t6.2.2.2.1 t6.2.2.2.2.1 t6.2.2.2.2.2.1 t6.2.2.2.2.2.2.1 t6.2.2.2.2.2.2.2.1 t6.2.2.2.2.2.2.2.2.1 t6.2.2.2.2.2.2.2.2.2.1 a1).bind fun t15 =>
    if t3.1=t12 then
     if t3.2=t6.2.2.2.2.2.2.2.2.2.2.2 then
      (Z5 n t4.1 t13).bind fun t18 =>
      if t18=true then
       if t4.2=t6.2.2.2.2.2.2.2.2.2.2.2 then
        if ((t5.1 == t15.1) && ((t5.2.1 == t15.2.1) && true))=true then
         if t5.2.2=t15.2.2 then
          (WI n).bind fun t23 =>
          some t23
         else
         none
        else
        none
       else
       none
      else
      none
     else
     none
    else
    none
   else
   if t3.1=t12 then
    if t3.2=t6.2.2.2.2.2.2.2.2.2.2.2 then
     (Z5 n t4.1 t13).bind fun t17 =>
     if t17=true then
      if t4.2=t6.2.2.2.2.2.2.2.2.2.2.2 then
       if ((t5.1 == 0) && ((t5.2.1 == 0) && true))=true then
        if t5.2.2=t10 then
         (WI n).bind fun t22 =>
         some t22
        else
        none
       else
       none
      else
      none
     else
     none
    else
    none
   else
   none
  else
  if t10=0 then
   (Vp n t6.1 t6.2.1 t6.2.2.1 t6.2.2.2.1 t6.2.2.2.2.1 t6.2.2.2.2.2.1 t6.2.2.2.2.2.2.1 t6.2.2.2.2.2.2.2.1 t6.2.2.2.2.2.2.2.2.1 t6.2.2.2.2.2.2.2.2.2.1 a1).bind fun t13 =>
   if t3.1=0 then
    if t3.2=t6.2.2.2.2.2.2.2.2.2.2.2 then
     (Z5 n t4.1 ([])).bind fun t16 =>
     if t16=true then
      if t4.2=t6.2.2.2.2.2.2.2.2.2.2.2 then
       if ((t5.1 == t13.1) && ((t5.2.1 == t13.2.1) && true))=true then
        if t5.2.2=t13.2.2 then
         (WI n).bind fun t21 =>
         some t21
        else
        none
       else
       none
      else
      none
     else
     none
    else
    none
   else
   none
  else
  if t3.1=0 then
   if t3.2=t6.2.2.2.2.2.2.2.2.2.2.2 then
    (Z5 n t4.1 ([])).bind fun t15 =>
    if t15=true then
     if t4.2=t6.2.2.2.2.2.2.2.2.2.2.2 then
      if ((t5.1 == 0) && ((t5.2.1 == 0) && true))=true then
       if t5.2.2=t10 then
        (WI n).bind fun t20 =>
        some t20
       else
       none
      else
      none
     else
     none
    else
    none
   else
   none
  else
  none
 else
 (WI n).bind fun t3 =>
 some t3
theorem EQ {n:Nat} {a0:List D} {a1:Int} {r:Bool} (h:VW n a0 a1=some r):Computes cx 3 [.lst false 5 a0,I a1] (B r):=by
 unfold VW at h
 obtain ⟨t1,h1,h⟩:=bo h
 have q:=Qa (XY h1) QL
 let o (l:List Orc):=.ret (B t1)::l
 rcases io h with ⟨h2,h⟩ | ⟨h2,h⟩
 ·obtain ⟨t3,h3,h⟩:=bo h;obtain ⟨t4,h4,h⟩:=bo h;obtain ⟨t5,h5,h⟩:=bo h;obtain ⟨t6,h6,h⟩:=bo h;obtain ⟨t7,h7,h⟩:=bo h;obtain ⟨t8,h8,h⟩:=bo h;obtain ⟨t9,h9,h⟩:=bo h;obtain ⟨t10,h10,h⟩:=bo h
  have q:=Qa (((jL h10).le (.cons (.full _ _ _) (.nil)) (.refl _)):Computes cx 19 [.lst true 1 [I t6.2.2.2.2.2.2.2.2.2.2.2,I t8,I t9]] (I t10)) (Qa (qu h9) (Qa (qu h8) (Qa (V0 h7) (Qa (je h6) (Qa (Xw h5) (Qa (Ed h4) (Qa (qt h3) (Qa (Ud h2) q))))))))
  let o l:=o (b0::.ret (.tup [I t3.1,I t3.2])::.ret (.tup [.lst false 1 t4.1,I t4.2])::.ret (.tup [.agg [I t5.1,I t5.2.1],I t5.2.2])::.ret (.tup [.agg [I t6.1,I t6.2.1,B t6.2.2.1,B t6.2.2.2.1,I t6.2.2.2.2.1,I t6.2.2.2.2.2.1,I t6.2.2.2.2.2.2.1,.lst false 1 t6.2.2.2.2.2.2.2.1,.lst false 6 t6.2.2.2.2.2.2.2.2.1,.lst false 7 t6.2.2.2.2.2.2.2.2.2.1],I t6.2.2.2.2.2.2.2.2.2.2.1,I t6.2.2.2.2.2.2.2.2.2.2.2])::.ret (B t7)::.ret (I t8)::.ret (I t9)::.ret (I t10)::l)
  rcases io h with ⟨h11,h⟩ | ⟨h11,h⟩
  ·obtain ⟨t12,h12,h⟩:=bo h;obtain ⟨t13,h13,h⟩:=bo h
   have q:=Qa (Ec h13) (Qa (qp h12) (Qa (eqt h11) q))
   let o l:=o (b1::.ret (I t12)::.ret (.lst false 1 t13)::l)
   rcases io h with ⟨h14,h⟩ | ⟨h14,h⟩
   ·obtain ⟨t15,h15,h⟩:=bo h
    rcases io h with ⟨h16,h⟩ | ⟨h16,h⟩
    ·rcases io h with ⟨h17,h⟩ | ⟨h17,h⟩
     ·obtain ⟨t18,h18,h⟩:=bo h
      rcases io h with ⟨h19,h⟩ | ⟨h19,h⟩
      ·rcases io h with ⟨h20,h⟩ | ⟨h20,h⟩
       ·rcases io h with ⟨h21,h⟩ | ⟨h21,h⟩
        ·rcases io h with ⟨h22,h⟩ | ⟨h22,h⟩
         ·obtain ⟨t23,h23,h⟩:=bo h;obtain rfl:=oi h
          exact rf (o [b1,.ret (.tup [.agg [I t15.1,I t15.2.1],I t15.2.2]),b1,b1,.ret (B t18),b1,b1,b1,b1,.ret (B t23)]) (Qa (YE h23) (Qa (eqt h22) (Qa h21 (Qa (eqt h20) (Qa h19 (Qa (V9 h18) (Qa (eqt h17) (Qa (eqt h16) (Qa (K8 h15) (Qa (eqt h14) q))))))))))
         cases h
        cases h
       cases h
      cases h
     cases h
    cases h
   rcases io h with ⟨h15,h⟩ | ⟨h15,h⟩
   ·rcases io h with ⟨h16,h⟩ | ⟨h16,h⟩
    ·obtain ⟨t17,h17,h⟩:=bo h
     rcases io h with ⟨h18,h⟩ | ⟨h18,h⟩
     ·rcases io h with ⟨h19,h⟩ | ⟨h19,h⟩
      ·rcases io h with ⟨h20,h⟩ | ⟨h20,h⟩
       ·rcases io h with ⟨h21,h⟩ | ⟨h21,h⟩
        ·obtain ⟨t22,h22,h⟩:=bo h;obtain rfl:=oi h
         exact rf (o [b0,b1,b1,.ret (B t17),b1,b1,b1,b1,.ret (B t22)]) (Qa (YE h22) (Qa (eqt h21) (Qa h20 (Qa (eqt h19) (Qa h18 (Qa (V9 h17) (Qa (eqt h16) (Qa (eqt h15) (Qa (eqf h14) q)))))))))
        cases h
       cases h
      cases h
     cases h
    cases h
   cases h
  have q:=Qa (eqf h11) q
  rcases io h with ⟨h12,h⟩ | ⟨h12,h⟩
  ·obtain ⟨t13,h13,h⟩:=bo h
   rcases io h with ⟨h14,h⟩ | ⟨h14,h⟩
   ·rcases io h with ⟨h15,h⟩ | ⟨h15,h⟩
    ·obtain ⟨t16,h16,h⟩:=bo h
     rcases io h with ⟨h17,h⟩ | ⟨h17,h⟩
     ·rcases io h with ⟨h18,h⟩ | ⟨h18,h⟩
      ·rcases io h with ⟨h19,h⟩ | ⟨h19,h⟩
       ·rcases io h with ⟨h20,h⟩ | ⟨h20,h⟩
        ·obtain ⟨t21,h21,h⟩:=bo h;obtain rfl:=oi h
         exact rf (o [b0,b1,.ret (.tup [.agg [I t13.1,I t13.2.1],I t13.2.2]),b1,b1,.ret (B t16),b1,b1,b1,b1,.ret (B t21)]) (Qa (YE h21) (Qa (eqt h20) (Qa h19 (Qa (eqt h18) (Qa h17 (Qa (((V9 h16).le (.cons (.refl _) (.cons (.nilF) (.nil))) (.refl _)):Computes cx 25 [.lst false 1 t4.1,.lst true 0 []] (B t16)) (Qa (eqt h15) (Qa (eqt h14) (Qa (K8 h13) (Qa (eqt h12) q))))))))))
        cases h
       cases h
      cases h
     cases h
    cases h
   cases h
  rcases io h with ⟨h13,h⟩ | ⟨h13,h⟩
  ·rcases io h with ⟨h14,h⟩ | ⟨h14,h⟩
   ·obtain ⟨t15,h15,h⟩:=bo h
    rcases io h with ⟨h16,h⟩ | ⟨h16,h⟩
    ·rcases io h with ⟨h17,h⟩ | ⟨h17,h⟩
     ·rcases io h with ⟨h18,h⟩ | ⟨h18,h⟩
      ·rcases io h with ⟨h19,h⟩ | ⟨h19,h⟩
       ·obtain ⟨t20,h20,h⟩:=bo h;obtain rfl:=oi h
        exact rf (o [b0,b0,b1,b1,.ret (B t15),b1,b1,b1,b1,.ret (B t20)]) (Qa (YE h20) (Qa (eqt h19) (Qa h18 (Qa (eqt h17) (Qa h16 (Qa (((V9 h15).le (.cons (.refl _) (.cons (.nilF) (.nil))) (.refl _)):Computes cx 25 [.lst false 1 t4.1,.lst true 0 []] (B t15)) (Qa (eqt h14) (Qa (eqt h13) (Qa (eqf h12) q)))))))))
       cases h
      cases h
     cases h
    cases h
   cases h
  cases h
 obtain ⟨t3,h3,h⟩:=bo h;obtain rfl:=oi h
 exact rf (o [b1,.ret (B t3)]) (Qa (YE h3) (Qa (Uc (QA h2)) q))
end Go.Proofs.YtljabneifpkbjaaGreatDoor
