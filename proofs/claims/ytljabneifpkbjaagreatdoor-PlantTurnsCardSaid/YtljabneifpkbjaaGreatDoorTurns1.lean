/- Printed by gsx.py: functions of the program as Lean functions, and that the code computes them. -/
import Derived.Test.YtljabneifpkbjaaGreatDoorWake
set_option linter.unusedVariables false
set_option linter.unusedSimpArgs false
set_option linter.unnecessarySimpa false
set_option maxRecDepth 10000
set_option maxHeartbeats 4000000
namespace Go.Proofs.YtljabneifpkbjaaGreatDoor
open Go.SX
def Qfh (n:Nat) (a0:jVj) (a1:Int) (a2:jSj) (a3 a4:jVj) (a5:jSj):Option (jVj) :=
 if Wa 88 (0+(a0).length) then
 if Wa 88 ((a0).length+1) then
 some (a0++([.agg [I a1,.v (.string a2),.lst false 1 a3,.lst false 1 a4,.v (.string a5)]]:jVj))
 else none
 else none
theorem Qf1 {n:Nat} {a0:jVj} {a1:Int} {a2:jSj} {a3 a4:jVj} {a5:jSj} {r:jVj} (h:Qfh n a0 a1 a2 a3 a4 a5=some r):Computes cx 42 [.lst false 5 a0,.agg [I a1,.v (.string a2),.lst false 1 a3,.lst false 1 a4,.v (.string a5)]] (.lst false 5 r):=by
 unfold Qfh at h
 obtain ⟨h1,h⟩:=gd h;obtain ⟨h2,h⟩:=gd h
 cases h
 exact rf [.ix (-8),b1,b1] (Qa (ro 65 h2) (Qa (ro 65 h1) QL))
def Qfi (n:Nat) (a0:jVj) (a1:Int) (a2:jSj) (a3 a4:jVj) (a5:jSj):Option (Bool) :=
 (Qe7 n a0 18).bind fun t1 =>
 if t1=true then
  (WM n ([.agg [I a1,.v (.string a2),.lst false 1 a3,.lst false 1 a4,.v (.string a5)]]) 1).bind fun t3 =>
  if t3=true then
   (XE n a0).bind fun t5 =>
   (Vo n a0).bind fun t6 =>
   if t5.2.2.2.2.2.2.2.2.2.2.2=0 then
    (Qe3 n t5.1 t5.2.1 t5.2.2.1 t5.2.2.2.1 t5.2.2.2.2.1 t5.2.2.2.2.2.1 t5.2.2.2.2.2.2.1 t5.2.2.2.2.2.2.2.1 t5.2.2.2.2.2.2.2.2.1 t5.2.2.2.2.2.2.2.2.2.1).bind fun t8 =>
    (Qff n t8.1 t8.2.1 t8.2.2.1 t8.2.2.2.1 t8.2.2.2.2.1 t8.2.2.2.2.2.1 t8.2.2.2.2.2.2.1 t8.2.2.2.2.2.2.2.1 t8.2.2.2.2.2.2.2.2.1 t8.2.2.2.2.2.2.2.2.2 t6.1 t6.2.1 t6.2.2.1 t6.2.2.2.1 t6.2.2.2.2.1 t6.2.2.2.2.2.1 t6.2.2.2.2.2.2.1 t6.2.2.2.2.2.2.2.1 t6.2.2.2.2.2.2.2.2.1 t6.2.2.2.2.2.2.2.2.2.1).bind fun t9 =>
    if t9=true then
     (Qfe n a0 a1 a2 a3 a4 a5).bind fun t11 =>
     if t11=0 then
      (Qfd n a0 a1 a2 a3 a4 a5).bind fun t13 =>
      if t13=0 then
       if (a2.toList == (⟨#[117,110,100,111]⟩:jSj).toList)=true then
        (WI n).bind fun t16 =>
        some t16
       else
       (Qfh n a0 a1 a2 a3 a4 a5).bind fun t16 =>
       (XE n t16).bind fun t17 =>
       if Qh (((t16).length:Int)+1) then
       (Qfh n t16 (((t16).length:Int)+1) (⟨#[117,110,100,111]⟩) ([]) ([]) (⟨#[]⟩)).bind fun t19 =>
       (XE n t19).bind fun t20 =>
       if t17.2.2.2.2.2.2.2.2.2.2.2=0 then
        if (!(a2.toList == (⟨#[100,101,108,105,118,101,114]⟩:jSj).toList))=true then
         if (!(a2.toList == (⟨#[98,105,108,108]⟩:jSj).toList))=true then
          if t20.2.2.2.2.2.2.2.2.2.2.2=0 then
           (Qe3 n t20.1 t20.2.1 t20.2.2.1 t20.2.2.2.1 t20.2.2.2.2.1 t20.2.2.2.2.2.1 t20.2.2.2.2.2.2.1 t20.2.2.2.2.2.2.2.1 t20.2.2.2.2.2.2.2.2.1 t20.2.2.2.2.2.2.2.2.2.1).bind fun t25 =>
           (Qff n t25.1 t25.2.1 t25.2.2.1 t25.2.2.2.1 t25.2.2.2.2.1 t25.2.2.2.2.2.1 t25.2.2.2.2.2.2.1 t25.2.2.2.2.2.2.2.1 t25.2.2.2.2.2.2.2.2.1 t25.2.2.2.2.2.2.2.2.2 t6.1 t6.2.1 t6.2.2.1 t6.2.2.2.1 t6.2.2.2.2.1 t6.2.2.2.2.2.1 t6.2.2.2.2.2.2.1 t6.2.2.2.2.2.2.2.1 t6.2.2.2.2.2.2.2.2.1 t6.2.2.2.2.2.2.2.2.2.1).bind fun t26 =>
           if t26=true then
            if t17.2.2.2.2.2.2.1=t5.2.2.2.2.2.2.1 then
             (WI n).bind fun t29 =>
             some t29
            else
            none
           else
           none
          else
          none
         else
         (el Ww a3 0).bind fun t24 =>
         (qz n a0 t24).bind fun t25 =>
         (JQ n a0 t24).bind fun t26 =>
         (JQ n t16 t24).bind fun t27 =>
         (el Vt a4 0).bind fun t28 =>
         (Yh n a0 t28).bind fun t29 =>
         if t20.2.2.2.2.2.2.2.2.2.2.2=21 then
          if t20.2.2.2.2.2.2.2.2.2.2.1=(((t16).length:Int)+1) then
           if t25.2=0 then
            if t26.2=0 then
             if t27.2=0 then
              if t29.2.2=0 then
               if t17.2.2.2.2.1=t29.1 then
                if (a2.toList == (⟨#[98,105,108,108]⟩:jSj).toList)=true then
                 if Qh (t5.2.2.2.2.2.2.1+t25.1) then
                 if t17.2.2.2.2.2.2.1=(t5.2.2.2.2.2.2.1+t25.1) then
                  if t27.1=t26.1 then
                   if t17.2.2.2.2.2.1=t29.2.1 then
                    (WI n).bind fun t42 =>
                    some t42
                   else
                   none
                  else
                  none
                 else
                 none
                 else none
                else
                if t17.2.2.2.2.2.2.1=t5.2.2.2.2.2.2.1 then
                 (el Vt a4 1).bind fun t39 =>
                 if Qh (t26.1 - t39) then
                 if t27.1=(t26.1 - t39) then
                  if Qh (1000000 * t39) then
                  if Qh (t29.2.1 - (1000000 * t39)) then
                  if t17.2.2.2.2.2.1=(t29.2.1 - (1000000 * t39)) then
                   (WI n).bind fun t45 =>
                   some t45
                  else
                  none
                  else none
                  else none
                 else
                 none
                 else none
                else
                none
               else
               none
              else
              none
             else
             none
            else
            none
           else
           none
          else
          none
         else
         none
        else
        (el Ww a3 0).bind fun t23 =>
        (qz n a0 t23).bind fun t24 =>
        (JQ n a0 t23).bind fun t25 =>
        (JQ n t16 t23).bind fun t26 =>
        (el Vt a4 0).bind fun t27 =>
        (Yh n a0 t27).bind fun t28 =>
        if t20.2.2.2.2.2.2.2.2.2.2.2=21 then
         if t20.2.2.2.2.2.2.2.2.2.2.1=(((t16).length:Int)+1) then
          if t24.2=0 then
           if t25.2=0 then
            if t26.2=0 then
             if t28.2.2=0 then
              if t17.2.2.2.2.1=t28.1 then
               if (a2.toList == (⟨#[98,105,108,108]⟩:jSj).toList)=true then
                if Qh (t5.2.2.2.2.2.2.1+t24.1) then
                if t17.2.2.2.2.2.2.1=(t5.2.2.2.2.2.2.1+t24.1) then
                 if t26.1=t25.1 then
                  if t17.2.2.2.2.2.1=t28.2.1 then
                   (WI n).bind fun t41 =>
                   some t41
                  else
                  none
                 else
                 none
                else
                none
                else none
               else
               if t17.2.2.2.2.2.2.1=t5.2.2.2.2.2.2.1 then
                (el Vt a4 1).bind fun t38 =>
                if Qh (t25.1 - t38) then
                if t26.1=(t25.1 - t38) then
                 if Qh (1000000 * t38) then
                 if Qh (t28.2.1 - (1000000 * t38)) then
                 if t17.2.2.2.2.2.1=(t28.2.1 - (1000000 * t38)) then
                  (WI n).bind fun t44 =>
                  some t44
                 else
                 none
                 else none
                 else none
                else
                none
                else none
               else
               none
              else
              none
             else
             none
            else
            none
           else
           none
          else
          none
         else
         none
        else
        none
       else
       none
       else none
      else
      (WI n).bind fun t15 =>
      some t15
     else
     (WI n).bind fun t13 =>
     some t13
    else
    none
   else
   none
  else
  (WI n).bind fun t5 =>
  some t5
 else
 (WI n).bind fun t3 =>
 some t3
theorem QfY {n:Nat} {a0:jVj} {a1:Int} {a2:jSj} {a3 a4:jVj} {a5:jSj} {r:Bool} (h:Qfi n a0 a1 a2 a3 a4 a5=some r):Computes cx 8 [.lst false 5 a0,.agg [I a1,.v (.string a2),.lst false 1 a3,.lst false 1 a4,.v (.string a5)]] (B r):=by
 unfold Qfi at h
 obtain ⟨t1,h1,h⟩:=bo h
 have q:=Qa (Qfv h1) QL
 let o (l:List Orc):=.ret (B t1)::l
 rcases io h with ⟨h2,h⟩ | ⟨h2,h⟩
 ·obtain ⟨t3,h3,h⟩:=bo h
  have q:=Qa (((XY h3).le (.cons (.full _ _ _) (.cons (.refl _) (.nil))) (.refl _)):Computes cx 13 [.lst true 5 [.agg [I a1,.v (.string a2),.lst false 1 a3,.lst false 1 a4,.v (.string a5)]],I 1] (B t3)) (Qa (Ud h2) q)
  let o l:=o (b0::.ret (B t3)::l)
  rcases io h with ⟨h4,h⟩ | ⟨h4,h⟩
  ·obtain ⟨t5,h5,h⟩:=bo h;obtain ⟨t6,h6,h⟩:=bo h
   have q:=Qa (je h6) (Qa (jl h5) (Qa (Ud h4) q))
   let o l:=o (b0::.ret (.tup [.agg [I t5.1,I t5.2.1,B t5.2.2.1,B t5.2.2.2.1,I t5.2.2.2.2.1,I t5.2.2.2.2.2.1,I t5.2.2.2.2.2.2.1,.lst false 1 t5.2.2.2.2.2.2.2.1,.lst false 6 t5.2.2.2.2.2.2.2.2.1,.lst false 7 t5.2.2.2.2.2.2.2.2.2.1],I t5.2.2.2.2.2.2.2.2.2.2.1,I t5.2.2.2.2.2.2.2.2.2.2.2])::.ret (.tup [.agg [I t6.1,I t6.2.1,B t6.2.2.1,B t6.2.2.2.1,I t6.2.2.2.2.1,I t6.2.2.2.2.2.1,I t6.2.2.2.2.2.2.1,.lst false 1 t6.2.2.2.2.2.2.2.1,.lst false 6 t6.2.2.2.2.2.2.2.2.1,.lst false 7 t6.2.2.2.2.2.2.2.2.2.1],I t6.2.2.2.2.2.2.2.2.2.2.1,I t6.2.2.2.2.2.2.2.2.2.2.2])::b0::l)
   rcases io h with ⟨h7,h⟩ | ⟨h7,h⟩
   ·obtain ⟨t8,h8,h⟩:=bo h;obtain ⟨t9,h9,h⟩:=bo h
    have q:=Qa (Qfs h9) (Qa (Qfk h8) (Qa (nef h7) q))
    let o l:=o (.ret (.agg [I t8.1,I t8.2.1,B t8.2.2.1,B t8.2.2.2.1,I t8.2.2.2.2.1,I t8.2.2.2.2.2.1,I t8.2.2.2.2.2.2.1,.lst false 1 t8.2.2.2.2.2.2.2.1,.lst false 6 t8.2.2.2.2.2.2.2.2.1,.lst false 7 t8.2.2.2.2.2.2.2.2.2])::.ret (B t9)::b0::l)
    rcases io h with ⟨h10,h⟩ | ⟨h10,h⟩
    ·obtain ⟨t11,h11,h⟩:=bo h
     have q:=Qa (Qfx h11) (Qa (Ud h10) q)
     let o l:=o (.ret (I t11)::l)
     rcases io h with ⟨h12,h⟩ | ⟨h12,h⟩
     ·obtain ⟨t13,h13,h⟩:=bo h
      have q:=Qa (Qfw h13) (Qa (nef h12) q)
      let o l:=o (b0::.ret (I t13)::l)
      rcases io h with ⟨h14,h⟩ | ⟨h14,h⟩
      ·have q:=Qa (nef h14) q
       let o l:=o (b0::l)
       rcases io h with ⟨h15,h⟩ | ⟨h15,h⟩
       ·obtain ⟨t16,h16,h⟩:=bo h;obtain rfl:=oi h
        exact rf (o [b1,.ret (B t16)]) (Qa (YE h16) (Qa h15 q))
       obtain ⟨t16,h16,h⟩:=bo h;obtain ⟨t17,h17,h⟩:=bo h;obtain ⟨h18,h⟩:=gd h;obtain ⟨t19,h19,h⟩:=bo h;obtain ⟨t20,h20,h⟩:=bo h
       have q:=Qa (jl h20) (Qa (((Qf1 h19).le (.cons (.refl _) (.cons (.aggs (.cons (.refl _) (.cons (.refl _) (.cons (.nilF) (.cons (.nilF) (.cons (.refl _) (.nil))))))) (.nil))) (.refl _)):Computes cx 42 [.lst false 5 t16,.agg [I (((t16).length:Int)+1),.v (.string ⟨#[117,110,100,111]⟩),.lst true 0 [],.lst true 0 [],.v (.string ⟨#[]⟩)]] (.lst false 5 t19)) (Qa h18 (Qa (jl h17) (Qa (Qf1 h16) (Qa (QA h15) q)))))
       let o l:=o (b0::.ret (.lst false 5 t16)::.ret (.tup [.agg [I t17.1,I t17.2.1,B t17.2.2.1,B t17.2.2.2.1,I t17.2.2.2.2.1,I t17.2.2.2.2.2.1,I t17.2.2.2.2.2.2.1,.lst false 1 t17.2.2.2.2.2.2.2.1,.lst false 6 t17.2.2.2.2.2.2.2.2.1,.lst false 7 t17.2.2.2.2.2.2.2.2.2.1],I t17.2.2.2.2.2.2.2.2.2.2.1,I t17.2.2.2.2.2.2.2.2.2.2.2])::.ret (.lst false 5 t19)::.ret (.tup [.agg [I t20.1,I t20.2.1,B t20.2.2.1,B t20.2.2.2.1,I t20.2.2.2.2.1,I t20.2.2.2.2.2.1,I t20.2.2.2.2.2.2.1,.lst false 1 t20.2.2.2.2.2.2.2.1,.lst false 6 t20.2.2.2.2.2.2.2.2.1,.lst false 7 t20.2.2.2.2.2.2.2.2.2.1],I t20.2.2.2.2.2.2.2.2.2.2.1,I t20.2.2.2.2.2.2.2.2.2.2.2])::b0::l)
       rcases io h with ⟨h21,h⟩ | ⟨h21,h⟩
       ·have q:=Qa (nef h21) q
        rcases io h with ⟨h22,h⟩ | ⟨h22,h⟩
        ·have q:=Qa h22 q
         rcases io h with ⟨h23,h⟩ | ⟨h23,h⟩
         ·rcases io h with ⟨h24,h⟩ | ⟨h24,h⟩
          ·obtain ⟨t25,h25,h⟩:=bo h;obtain ⟨t26,h26,h⟩:=bo h
           rcases io h with ⟨h27,h⟩ | ⟨h27,h⟩
           ·rcases io h with ⟨h28,h⟩ | ⟨h28,h⟩
            ·obtain ⟨t29,h29,h⟩:=bo h;obtain rfl:=oi h
             exact rf (o [b1,b1,b1,.ret (.agg [I t25.1,I t25.2.1,B t25.2.2.1,B t25.2.2.2.1,I t25.2.2.2.2.1,I t25.2.2.2.2.2.1,I t25.2.2.2.2.2.2.1,.lst false 1 t25.2.2.2.2.2.2.2.1,.lst false 6 t25.2.2.2.2.2.2.2.2.1,.lst false 7 t25.2.2.2.2.2.2.2.2.2]),.ret (B t26),b1,b1,.ret (B t29)]) (Qa (YE h29) (Qa (eqt h28) (Qa h27 (Qa (Qfs h26) (Qa (Qfk h25) (Qa (eqt h24) (Qa h23 q)))))))
            cases h
           cases h
          cases h
         obtain ⟨t24,h24,h⟩:=bo h;obtain ⟨t25,h25,h⟩:=bo h;obtain ⟨t26,h26,h⟩:=bo h;obtain ⟨t27,h27,h⟩:=bo h;obtain ⟨t28,h28,h⟩:=bo h;obtain ⟨t29,h29,h⟩:=bo h
         have q:=Qa (Xw h29) (allE Qi h28 (Qa (qs h27) (allE Qr h24 (Qa (qs h26) (allE Qr h24 (Qa (yR h25) (allE Qr h24 (Qa (QA h23) q))))))))
         let o l:=o (b1::b0::.el (Zy t24)::.ret (.tup [I t25.1,I t25.2])::.el (Zy t24)::.ret (.tup [I t26.1,I t26.2])::.el (Zy t24)::.ret (.tup [I t27.1,I t27.2])::.el (Q3 t28)::.ret (.tup [.agg [I t29.1,I t29.2.1],I t29.2.2])::b0::b0::b0::b0::b0::b0::b0::l)
         rcases io h with ⟨h30,h⟩ | ⟨h30,h⟩
         ·have q:=Qa h18 (Qa (nef h30) q)
          rcases io h with ⟨h31,h⟩ | ⟨h31,h⟩
          ·have q:=Qa (nef h31) q
           rcases io h with ⟨h32,h⟩ | ⟨h32,h⟩
           ·have q:=Qa (nef h32) q
            rcases io h with ⟨h33,h⟩ | ⟨h33,h⟩
            ·have q:=Qa (nef h33) q
             rcases io h with ⟨h34,h⟩ | ⟨h34,h⟩
             ·have q:=Qa (nef h34) q
              rcases io h with ⟨h35,h⟩ | ⟨h35,h⟩
              ·have q:=Qa (nef h35) q
               rcases io h with ⟨h36,h⟩ | ⟨h36,h⟩
               ·have q:=Qa (nef h36) q
                rcases io h with ⟨h37,h⟩ | ⟨h37,h⟩
                ·obtain ⟨h38,h⟩:=gd h
                 rcases io h with ⟨h39,h⟩ | ⟨h39,h⟩
                 ·rcases io h with ⟨h40,h⟩ | ⟨h40,h⟩
                  ·rcases io h with ⟨h41,h⟩ | ⟨h41,h⟩
                   ·obtain ⟨t42,h42,h⟩:=bo h;obtain rfl:=oi h
                    exact rf (o [b1,b1,b1,b1,.ret (B t42)]) (Qa (YE h42) (Qa (eqt h41) (Qa (eqt h40) (Qa (eqt h39) (Qa h38 (Qa h37 q))))))
                   cases h
                  cases h
                 cases h
                rcases io h with ⟨h38,h⟩ | ⟨h38,h⟩
                ·obtain ⟨t39,h39,h⟩:=bo h;obtain ⟨h40,h⟩:=gd h
                 rcases io h with ⟨h41,h⟩ | ⟨h41,h⟩
                 ·obtain ⟨h42,h⟩:=gd h;obtain ⟨h43,h⟩:=gd h
                  rcases io h with ⟨h44,h⟩ | ⟨h44,h⟩
                  ·obtain ⟨t45,h45,h⟩:=bo h;obtain rfl:=oi h
                   exact rf (o [b0,b1,.el (Q3 t39),b1,.el (Q3 t39),b1,.ret (B t45)]) (Qa (YE h45) (Qa (eqt h44) (Qa h43 (Qa h42 (allE Qi h39 (Qa (eqt h41) (Qa h40 (allE Qi h39 (Qa (eqt h38) (Qa (QA h37) q))))))))))
                  cases h
                 cases h
                cases h
               cases h
              cases h
             cases h
            cases h
           cases h
          cases h
         cases h
        obtain ⟨t23,h23,h⟩:=bo h;obtain ⟨t24,h24,h⟩:=bo h;obtain ⟨t25,h25,h⟩:=bo h;obtain ⟨t26,h26,h⟩:=bo h;obtain ⟨t27,h27,h⟩:=bo h;obtain ⟨t28,h28,h⟩:=bo h
        have q:=Qa (Xw h28) (allE Qi h27 (Qa (qs h26) (allE Qr h23 (Qa (qs h25) (allE Qr h23 (Qa (yR h24) (allE Qr h23 (Qa (QA h22) q))))))))
        let o l:=o (b0::.no::.el (Zy t23)::.ret (.tup [I t24.1,I t24.2])::.el (Zy t23)::.ret (.tup [I t25.1,I t25.2])::.el (Zy t23)::.ret (.tup [I t26.1,I t26.2])::.el (Q3 t27)::.ret (.tup [.agg [I t28.1,I t28.2.1],I t28.2.2])::b0::b0::b0::b0::b0::b0::b0::l)
        rcases io h with ⟨h29,h⟩ | ⟨h29,h⟩
        ·have q:=Qa h18 (Qa (nef h29) q)
         rcases io h with ⟨h30,h⟩ | ⟨h30,h⟩
         ·have q:=Qa (nef h30) q
          rcases io h with ⟨h31,h⟩ | ⟨h31,h⟩
          ·have q:=Qa (nef h31) q
           rcases io h with ⟨h32,h⟩ | ⟨h32,h⟩
           ·have q:=Qa (nef h32) q
            rcases io h with ⟨h33,h⟩ | ⟨h33,h⟩
            ·have q:=Qa (nef h33) q
             rcases io h with ⟨h34,h⟩ | ⟨h34,h⟩
             ·have q:=Qa (nef h34) q
              rcases io h with ⟨h35,h⟩ | ⟨h35,h⟩
              ·have q:=Qa (nef h35) q
               rcases io h with ⟨h36,h⟩ | ⟨h36,h⟩
               ·obtain ⟨h37,h⟩:=gd h
                rcases io h with ⟨h38,h⟩ | ⟨h38,h⟩
                ·rcases io h with ⟨h39,h⟩ | ⟨h39,h⟩
                 ·rcases io h with ⟨h40,h⟩ | ⟨h40,h⟩
                  ·obtain ⟨t41,h41,h⟩:=bo h;obtain rfl:=oi h
                   exact rf (o [b1,b1,b1,b1,.ret (B t41)]) (Qa (YE h41) (Qa (eqt h40) (Qa (eqt h39) (Qa (eqt h38) (Qa h37 (Qa h36 q))))))
                  cases h
                 cases h
                cases h
               rcases io h with ⟨h37,h⟩ | ⟨h37,h⟩
               ·obtain ⟨t38,h38,h⟩:=bo h;obtain ⟨h39,h⟩:=gd h
                rcases io h with ⟨h40,h⟩ | ⟨h40,h⟩
                ·obtain ⟨h41,h⟩:=gd h;obtain ⟨h42,h⟩:=gd h
                 rcases io h with ⟨h43,h⟩ | ⟨h43,h⟩
                 ·obtain ⟨t44,h44,h⟩:=bo h;obtain rfl:=oi h
                  exact rf (o [b0,b1,.el (Q3 t38),b1,.el (Q3 t38),b1,.ret (B t44)]) (Qa (YE h44) (Qa (eqt h43) (Qa h42 (Qa h41 (allE Qi h38 (Qa (eqt h40) (Qa h39 (allE Qi h38 (Qa (eqt h37) (Qa (QA h36) q))))))))))
                 cases h
                cases h
               cases h
              cases h
             cases h
            cases h
           cases h
          cases h
         cases h
        cases h
       cases h
      obtain ⟨t15,h15,h⟩:=bo h;obtain rfl:=oi h
      exact rf (o [b1,.no,.ret (B t15)]) (Qa (YE h15) (Qa (net h14) q))
     obtain ⟨t13,h13,h⟩:=bo h;obtain rfl:=oi h
     exact rf (o [b1,.no,.no,.ret (B t13)]) (Qa (YE h13) (Qa (net h12) q))
    cases h
   cases h
  obtain ⟨t5,h5,h⟩:=bo h;obtain rfl:=oi h
  exact rf (o [b1,.ret (B t5)]) (Qa (YE h5) (Qa (Uc (QA h4)) q))
 obtain ⟨t3,h3,h⟩:=bo h;obtain rfl:=oi h
 exact rf (o [b1,.no,.ret (B t3)]) (Qa (YE h3) (Qa (Uc (QA h2)) q))
end Go.Proofs.YtljabneifpkbjaaGreatDoor
