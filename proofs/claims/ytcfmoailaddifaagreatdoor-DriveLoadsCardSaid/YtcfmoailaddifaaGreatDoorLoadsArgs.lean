/- Own texts. -/
import Derived.Test.YtcfmoailaddifaaGreatDoorGen3
set_option linter.unusedVariables false
set_option linter.unusedSimpArgs false
set_option linter.unnecessarySimpa false
set_option maxRecDepth 10000
set_option maxHeartbeats 4000000
namespace Go.Proofs.YtcfmoailaddifaaGreatDoor
open Go.SX
def QM (n:Nat) (a0 a1:List D):Option (Bool) :=
 if ((a0).length:Int)=((a1).length:Int) then
  (Q2 (QZ n a0 a1) n 0).bind fun t2=>match t2 with
   | (.inl t2)=>(
    some false)
   | (.inr t2)=>(
    some true)
 else
 some false
theorem ZS {n:Nat} {a0 a1:List D} {r:Bool} (h:QM n a0 a1=some r):Computes cx 10 [.lst false 2 a0,.lst false 2 a1] (B r):=by
 unfold QM at h
 by_cases h1:((a0).length:Int)=((a1).length:Int)
 ·replace h:=Ql h h1
  obtain ⟨t2,h2,h⟩:=Qg h
  rcases t2 with t2 | t2
  ·replace h:=Option.some.inj h
   subst h
   exact run (n:=100) (f:=10) (args:=[.lst false 2 a0,.lst false 2 a1]) (orc:=[.br false,.lp [] [0,1,5] [] .ret [(4,.d (B false))] [] 34]) (r:=B false) (ob:=[QV cx (Qu cx.P 10 0) 26 0 false [(0,.d (.lst false 2 a0)),(1,.d (.lst false 2 a1)),(5,.d (I 0))] [] .ret [(4,.d (B false))] [],(((a0).length:Int) != ((a1).length:Int))=false]) (by kernel_rfl) ⟨(Qv Yu h2),(nef h1),trivial⟩
  ·replace h:=Option.some.inj h
   subst h
   exact run (n:=100) (f:=10) (args:=[.lst false 2 a0,.lst false 2 a1]) (orc:=[.br false,.lp [] [0,1,5] [] (.exit 0) [] [] 34]) (r:=B true) (ob:=[QV cx (Qu cx.P 10 0) 26 0 false [(0,.d (.lst false 2 a0)),(1,.d (.lst false 2 a1)),(5,.d (I 0))] [] (.exit 0) [] [],(((a0).length:Int) != ((a1).length:Int))=false]) (by kernel_rfl) ⟨(Qv Yu h2),(nef h1),trivial⟩
 ·replace h:=Qm h h1
  replace h:=Option.some.inj h
  subst h
  exact run (n:=100) (f:=10) (args:=[.lst false 2 a0,.lst false 2 a1]) (orc:=[.br true]) (r:=B false) (ob:=[(((a0).length:Int) != ((a1).length:Int))=true]) (by kernel_rfl) ⟨(net h1),trivial⟩
theorem zk (t1:Int×Int×Int) (t2:Int×Int×Int×Int) (t3:Int×Int×Int×List D×Int) (t4:List D×Int) (t5:List D) (t6:List D×Int) (t7:List D×Int) (t8:Int×Int) (t9:Int×Int×Int) (t19:Bool) (t21:List D) (t22:List D) (t23:Bool) (t25:List D) (t26:Bool) (t28:List D) (t29:Bool) (t33:Int×Int) (t34:Int×Int) (t35:Int×Int×Int) (t36:List D×Int) (t37:Int×Int×Int) (t38:Int×Int×Int) (t39:Int×Int×Int) (t40:List D×Int) (t41:ByteArray×Int) (t54:Bool) (t60:Bool):Zu true 100 cx 5 [] [.ret (.agg [I t1.1,I t1.2.1,I t1.2.2]),.ret (.tup [.agg [I t2.1,I t2.2.1,I t2.2.2.1],I t2.2.2.2]),.ret (.agg [I t1.1,I t1.2.1,I t1.2.2]),.ret (.tup [.agg [I t3.1,I t3.2.1,I t3.2.2.1],.lst false 1 t3.2.2.2.1,I t3.2.2.2.2]),.ret (.tup [.lst false 3 t4.1,I t4.2]),.ret (.lst false 3 t5),.ret (.tup [.lst false 3 t6.1,I t6.2]),.ret (.lst false 3 t5),.ret (.tup [.lst false 3 t7.1,I t7.2]),.ret (.lst false 3 t5),.ret (.tup [I t8.1,I t8.2]),.ret (.lst false 3 t5),.ret (.tup [.agg [I t9.1,I t9.2.1],I t9.2.2]),.br false,.br false,.br false,.ret (B t19),.br false,.ret (.lst false 3 t21),.ret (.lst false 3 t5),.ret (.lst false 3 t22),.ret (B t23),.br false,.ret (.lst false 3 t25),.ret (B t26),.br false,.ret (.lst false 3 t28),.ret (B t29),.br false,.br false,.br false,.ret (.agg [I t1.1,I t1.2.1,I t1.2.2]),.ret (.lst false 3 t5),.ret (.tup [I t33.1,I t33.2]),.ret (.agg [I t1.1,I t1.2.1,I t1.2.2]),.ret (.lst false 3 t5),.ret (.tup [I t34.1,I t34.2]),.ret (.agg [I t1.1,I t1.2.1,I t1.2.2]),.ret (.lst false 3 t5),.ret (.tup [.agg [I t35.1,I t35.2.1],I t35.2.2]),.ret (.tup [.lst false 2 t36.1,I t36.2]),.ret (.tup [I t37.1,I t37.2.1,I t37.2.2]),.ret (.tup [I t38.1,I t38.2.1,I t38.2.2]),.ret (.tup [I t39.1,I t39.2.1,I t39.2.2]),.ret (.tup [.lst false 2 t40.1,I t40.2]),.ret (.lst false 3 t5),.ret (.tup [.v (.string t41.1),I t41.2]),.br true,.br true,.br true,.br true,.br true,.ret (B t54),.br true,.br true,.br true,.br true,.br true,.ret (B t60),.br true]=some (B (t41.1.toList == (⟨#[98,97,110,100,32,53,32,49,48,48,32,49,48,50,10]⟩:ByteArray).toList),[t60=true,Computes cx 10 [.lst false 2 t40.1,.lst true 2 [.agg [I 1,I 3]]] (B t60),(t38.2.1 == (-1))=true,(t38.1 == 13)=true,(t37.2.1 == 1)=true,(t37.1 == 12)=true,t54=true,Computes cx 28 [.lst false 2 t36.1,.lst true 2 [.agg [I 0,I 0],.agg [I 2,I (-2)],.agg [I 4,I (-2)],.agg [I 5,I (-2)]]] (B t54),((t35.1 == 125) && ((t35.2.1 == 127) && true))=true,(t34.1 == 3)=true,(t33.1 == 11)=true,(t39.2.2 == 7)=true,((((((((t33.2+t34.2)+t35.2.2)+t36.2)+t37.2.2)+t38.2.2)+t40.2)+t41.2) == 0)=true,Qa (((((((t33.2+t34.2)+t35.2.2)+t36.2)+t37.2.2)+t38.2.2)+t40.2)+t41.2),Qa ((((((t33.2+t34.2)+t35.2.2)+t36.2)+t37.2.2)+t38.2.2)+t40.2),Qa (((((t33.2+t34.2)+t35.2.2)+t36.2)+t37.2.2)+t38.2.2),Qa ((((t33.2+t34.2)+t35.2.2)+t36.2)+t37.2.2),Qa (((t33.2+t34.2)+t35.2.2)+t36.2),Qa ((t33.2+t34.2)+t35.2.2),Qa (t33.2+t34.2),Computes cx 27 [.lst false 3 t5] (.tup [.v (.string t41.1),I t41.2]),Computes cx 16 [] (.lst false 3 t5),Computes cx 6 [.lst true 1 [.v (.float .f32 1065353216),.v (.float .f32 1084227584),.v (.float .f32 1086324736),.v (.float .f32 1073741824),.v (.float .f32 1088421888)],.v (.float .f32 1082130432),I 2] (.tup [.lst false 2 t40.1,I t40.2]),Computes cx 26 [.agg [I 10,I 50,I 12],I 1] (.tup [I t39.1,I t39.2.1,I t39.2.2]),Computes cx 26 [.agg [I 10,I 13,I 16],I 5] (.tup [I t38.1,I t38.2.1,I t38.2.2]),Computes cx 26 [.agg [I 10,I 50,I 12],I 5] (.tup [I t37.1,I t37.2.1,I t37.2.2]),Computes cx 25 [.agg [I 0,I 0],.agg [I 5,I (-2)],.agg [I 2,I 2]] (.tup [.lst false 2 t36.1,I t36.2]),Computes cx 24 [.agg [I t1.1,I t1.2.1,I t1.2.2],.agg [I 5,I 5,I 5],.lst false 3 t5,.agg [I 110,I 130],I 5] (.tup [.agg [I t35.1,I t35.2.1],I t35.2.2]),Computes cx 16 [] (.lst false 3 t5),Computes cx 12 [] (.agg [I t1.1,I t1.2.1,I t1.2.2]),Computes cx 23 [.agg [I t1.1,I t1.2.1,I t1.2.2],.agg [I 5,I 5,I 5],.lst false 3 t5,.agg [I 115,I 118]] (.tup [I t34.1,I t34.2]),Computes cx 16 [] (.lst false 3 t5),Computes cx 12 [] (.agg [I t1.1,I t1.2.1,I t1.2.2]),Computes cx 23 [.agg [I t1.1,I t1.2.1,I t1.2.2],.agg [I 5,I 5,I 5],.lst false 3 t5,.agg [I 140,I 143]] (.tup [I t33.1,I t33.2]),Computes cx 16 [] (.lst false 3 t5),Computes cx 12 [] (.agg [I t1.1,I t1.2.1,I t1.2.2]),(!((t9.1 == 120) && ((t9.2.1 == 127) && true)))=false,(t8.1 != 3)=false,(!t29)=false,Computes cx 21 [.lst false 3 t28,.lst true 3 [.agg [I 5,I 99,I 104]]] (B t29),Computes cx 22 [.lst false 3 t7.1] (.lst false 3 t28),(!t26)=false,Computes cx 21 [.lst false 3 t25,.lst true 3 [.agg [I 5,I 101,I 102]]] (B t26),Computes cx 22 [.lst false 3 t6.1] (.lst false 3 t25),(!t23)=false,Computes cx 21 [.lst false 3 t21,.lst false 3 t22] (B t23),Computes cx 22 [.lst false 3 t5] (.lst false 3 t22),Computes cx 16 [] (.lst false 3 t5),Computes cx 22 [.lst false 3 t4.1] (.lst false 3 t21),(!t19)=false,Computes cx 20 [.lst false 1 t3.2.2.2.1,.lst true 1 [I (-25),I 3]] (B t19),(!((t3.1 == (-17)) && (((t3.2.1 == (-20)) && ((t3.2.2.1 == (-20)) && true)) && true)))=false,(!((t2.1 == 2) && (((t2.2.1 == 2) && ((t2.2.2.1 == 2) && true)) && true)))=false,(((((((t2.2.2.2+t3.2.2.2.2)+t4.2)+t6.2)+t7.2)+t8.2)+t9.2.2) != 0)=false,Qa ((((((t2.2.2.2+t3.2.2.2.2)+t4.2)+t6.2)+t7.2)+t8.2)+t9.2.2),Qa (((((t2.2.2.2+t3.2.2.2.2)+t4.2)+t6.2)+t7.2)+t8.2),Qa ((((t2.2.2.2+t3.2.2.2.2)+t4.2)+t6.2)+t7.2),Qa (((t2.2.2.2+t3.2.2.2.2)+t4.2)+t6.2),Qa ((t2.2.2.2+t3.2.2.2.2)+t4.2),Qa (t2.2.2.2+t3.2.2.2.2),Computes cx 19 [.lst false 3 t5,.agg [I 4,I 5]] (.tup [.agg [I t9.1,I t9.2.1],I t9.2.2]),Computes cx 16 [] (.lst false 3 t5),Computes cx 18 [.lst false 3 t5] (.tup [I t8.1,I t8.2]),Computes cx 16 [] (.lst false 3 t5),Computes cx 17 [.lst false 3 t5,.agg [I (-1),I 2]] (.tup [.lst false 3 t7.1,I t7.2]),Computes cx 16 [] (.lst false 3 t5),Computes cx 15 [.lst false 3 t5,.agg [I 4,I 121,I 130]] (.tup [.lst false 3 t6.1,I t6.2]),Computes cx 16 [] (.lst false 3 t5),Computes cx 14 [.lst true 3 [.agg [I 0,I 100,I 104],.agg [I 10,I 150,I 152]],.agg [I 4,I 6]] (.tup [.lst false 3 t4.1,I t4.2]),Computes cx 13 [.agg [I t1.1,I t1.2.1,I t1.2.2],.agg [I 5,I 2,I 5]] (.tup [.agg [I t3.1,I t3.2.1,I t3.2.2.1],.lst false 1 t3.2.2.2.1,I t3.2.2.2.2]),Computes cx 12 [] (.agg [I t1.1,I t1.2.1,I t1.2.2]),Computes cx 11 [.agg [I t1.1,I t1.2.1,I t1.2.2],.agg [I 5,I 2,I 5],.lst true 1 [I 2,I (-1),I (-4)]] (.tup [.agg [I t2.1,I t2.2.1,I t2.2.2.1],I t2.2.2.2]),Computes cx 12 [] (.agg [I t1.1,I t1.2.1,I t1.2.2])]):=by kernel_rfl
def Wq (n:Nat)  : Option (Bool) :=
 (K7 n).bind fun t1 =>
 (Ye n t1.1 t1.2.1 t1.2.2 5 2 5 ([I 2,I (-1),I (-4)])).bind fun t2 =>
 (Vk n t1.1 t1.2.1 t1.2.2 5 2 5).bind fun t3 =>
 (V4 n ([.agg [I 0,I 100,I 104],.agg [I 10,I 150,I 152]]) 4 6).bind fun t4 =>
 (U1 n).bind fun t5 =>
 (YA n t5 4 121 130).bind fun t6 =>
 (YB n t5 (-1) 2).bind fun t7 =>
 (U3 n t5).bind fun t8 =>
 (Ut n t5 4 5).bind fun t9 =>
 if Qa (t2.2.2.2+t3.2.2.2.2) then
 if Qa ((t2.2.2.2+t3.2.2.2.2)+t4.2) then
 if Qa (((t2.2.2.2+t3.2.2.2.2)+t4.2)+t6.2) then
 if Qa ((((t2.2.2.2+t3.2.2.2.2)+t4.2)+t6.2)+t7.2) then
 if Qa (((((t2.2.2.2+t3.2.2.2.2)+t4.2)+t6.2)+t7.2)+t8.2) then
 if Qa ((((((t2.2.2.2+t3.2.2.2.2)+t4.2)+t6.2)+t7.2)+t8.2)+t9.2.2) then
 if ((((((t2.2.2.2+t3.2.2.2.2)+t4.2)+t6.2)+t7.2)+t8.2)+t9.2.2)=0 then
  if ((t2.1 == 2) && (((t2.2.1 == 2) && ((t2.2.2.1 == 2) && true)) && true))=true then
   if ((t3.1 == (-17)) && (((t3.2.1 == (-20)) && ((t3.2.2.1 == (-20)) && true)) && true))=true then
    (VZ n t3.2.2.2.1 ([I (-25),I 3])).bind fun t19 =>
    if t19=true then
     (Wp n t4.1).bind fun t21 =>
     (Wp n t5).bind fun t22 =>
     (ZV n t21 t22).bind fun t23 =>
     if t23=true then
      (Wp n t6.1).bind fun t25 =>
      (ZV n t25 ([.agg [I 5,I 101,I 102]])).bind fun t26 =>
      if t26=true then
       (Wp n t7.1).bind fun t28 =>
       (ZV n t28 ([.agg [I 5,I 99,I 104]])).bind fun t29 =>
       if t29=true then
        if t8.1=3 then
         if ((t9.1 == 120) && ((t9.2.1 == 127) && true))=true then
          (WV n t1.1 t1.2.1 t1.2.2 5 5 5 t5 140 143).bind fun t33 =>
          (WV n t1.1 t1.2.1 t1.2.2 5 5 5 t5 115 118).bind fun t34 =>
          (Ww n t1.1 t1.2.1 t1.2.2 5 5 5 t5 110 130 5).bind fun t35 =>
          (Yz n 0 0 5 (-2) 2 2).bind fun t36 =>
          (Wn n 10 50 12 5).bind fun t37 =>
          (Wn n 10 13 16 5).bind fun t38 =>
          (Wn n 10 50 12 1).bind fun t39 =>
          (QS n ([.v (.float .f32 1065353216),.v (.float .f32 1084227584),.v (.float .f32 1086324736),.v (.float .f32 1073741824),.v (.float .f32 1088421888)]) 1082130432 2).bind fun t40 =>
          (U2 n t5).bind fun t41 =>
          if Qa (t33.2+t34.2) then
          if Qa ((t33.2+t34.2)+t35.2.2) then
          if Qa (((t33.2+t34.2)+t35.2.2)+t36.2) then
          if Qa ((((t33.2+t34.2)+t35.2.2)+t36.2)+t37.2.2) then
          if Qa (((((t33.2+t34.2)+t35.2.2)+t36.2)+t37.2.2)+t38.2.2) then
          if Qa ((((((t33.2+t34.2)+t35.2.2)+t36.2)+t37.2.2)+t38.2.2)+t40.2) then
          if Qa (((((((t33.2+t34.2)+t35.2.2)+t36.2)+t37.2.2)+t38.2.2)+t40.2)+t41.2) then
          if (((((((t33.2+t34.2)+t35.2.2)+t36.2)+t37.2.2)+t38.2.2)+t40.2)+t41.2)=0 then
           if t39.2.2=7 then
            if t33.1=11 then
             if t34.1=3 then
              if ((t35.1 == 125) && ((t35.2.1 == 127) && true))=true then
               (VG n t36.1 ([.agg [I 0,I 0],.agg [I 2,I (-2)],.agg [I 4,I (-2)],.agg [I 5,I (-2)]])).bind fun t54 =>
               if t54=true then
                if t37.1=12 then
                 if t37.2.1=1 then
                  if t38.1=13 then
                   if t38.2.1=(-1) then
                    (QM n t40.1 ([.agg [I 1,I 3]])).bind fun t60 =>
                    if t60=true then
                     some (t41.1.toList == (⟨#[98,97,110,100,32,53,32,49,48,48,32,49,48,50,10]⟩:ByteArray).toList)
                    else
                    none
                   else
                   none
                  else
                  none
                 else
                 none
                else
                none
               else
               none
              else
              none
             else
             none
            else
            none
           else
           none
          else
          none
          else none
          else none
          else none
          else none
          else none
          else none
          else none
         else
         none
        else
        none
       else
       none
      else
      none
     else
     none
    else
    none
   else
   none
  else
  none
 else
 none
 else none
 else none
 else none
 else none
 else none
 else none
theorem W7 {n:Nat}  {r:Bool} (h:Wq n =some r):Computes cx 5 [] (B r):=by
 unfold Wq at h
 obtain ⟨t1,h1,h⟩:=Qg h
 obtain ⟨t2,h2,h⟩:=Qg h
 obtain ⟨t3,h3,h⟩:=Qg h
 obtain ⟨t4,h4,h⟩:=Qg h
 obtain ⟨t5,h5,h⟩:=Qg h
 obtain ⟨t6,h6,h⟩:=Qg h
 obtain ⟨t7,h7,h⟩:=Qg h
 obtain ⟨t8,h8,h⟩:=Qg h
 obtain ⟨t9,h9,h⟩:=Qg h
 obtain ⟨h10,h⟩:=Qi h
 obtain ⟨h11,h⟩:=Qi h
 obtain ⟨h12,h⟩:=Qi h
 obtain ⟨h13,h⟩:=Qi h
 obtain ⟨h14,h⟩:=Qi h
 obtain ⟨h15,h⟩:=Qi h
 by_cases h16:((((((t2.2.2.2+t3.2.2.2.2)+t4.2)+t6.2)+t7.2)+t8.2)+t9.2.2)=0
 ·replace h:=Ql h h16
  by_cases h17:((t2.1 == 2) && (((t2.2.1 == 2) && ((t2.2.2.1 == 2) && true)) && true))=true
  ·replace h:=Ql h h17
   by_cases h18:((t3.1 == (-17)) && (((t3.2.1 == (-20)) && ((t3.2.2.1 == (-20)) && true)) && true))=true
   ·replace h:=Ql h h18
    obtain ⟨t19,h19,h⟩:=Qg h
    by_cases h20:t19=true
    ·replace h:=Ql h h20
     obtain ⟨t21,h21,h⟩:=Qg h
     obtain ⟨t22,h22,h⟩:=Qg h
     obtain ⟨t23,h23,h⟩:=Qg h
     by_cases h24:t23=true
     ·replace h:=Ql h h24
      obtain ⟨t25,h25,h⟩:=Qg h
      obtain ⟨t26,h26,h⟩:=Qg h
      by_cases h27:t26=true
      ·replace h:=Ql h h27
       obtain ⟨t28,h28,h⟩:=Qg h
       obtain ⟨t29,h29,h⟩:=Qg h
       by_cases h30:t29=true
       ·replace h:=Ql h h30
        by_cases h31:t8.1=3
        ·replace h:=Ql h h31
         by_cases h32:((t9.1 == 120) && ((t9.2.1 == 127) && true))=true
         ·replace h:=Ql h h32
          obtain ⟨t33,h33,h⟩:=Qg h
          obtain ⟨t34,h34,h⟩:=Qg h
          obtain ⟨t35,h35,h⟩:=Qg h
          obtain ⟨t36,h36,h⟩:=Qg h
          obtain ⟨t37,h37,h⟩:=Qg h
          obtain ⟨t38,h38,h⟩:=Qg h
          obtain ⟨t39,h39,h⟩:=Qg h
          obtain ⟨t40,h40,h⟩:=Qg h
          obtain ⟨t41,h41,h⟩:=Qg h
          obtain ⟨h42,h⟩:=Qi h
          obtain ⟨h43,h⟩:=Qi h
          obtain ⟨h44,h⟩:=Qi h
          obtain ⟨h45,h⟩:=Qi h
          obtain ⟨h46,h⟩:=Qi h
          obtain ⟨h47,h⟩:=Qi h
          obtain ⟨h48,h⟩:=Qi h
          by_cases h49:(((((((t33.2+t34.2)+t35.2.2)+t36.2)+t37.2.2)+t38.2.2)+t40.2)+t41.2)=0
          ·replace h:=Ql h h49
           by_cases h50:t39.2.2=7
           ·replace h:=Ql h h50
            by_cases h51:t33.1=11
            ·replace h:=Ql h h51
             by_cases h52:t34.1=3
             ·replace h:=Ql h h52
              by_cases h53:((t35.1 == 125) && ((t35.2.1 == 127) && true))=true
              ·replace h:=Ql h h53
               obtain ⟨t54,h54,h⟩:=Qg h
               by_cases h55:t54=true
               ·replace h:=Ql h h55
                by_cases h56:t37.1=12
                ·replace h:=Ql h h56
                 by_cases h57:t37.2.1=1
                 ·replace h:=Ql h h57
                  by_cases h58:t38.1=13
                  ·replace h:=Ql h h58
                   by_cases h59:t38.2.1=(-1)
                   ·replace h:=Ql h h59
                    obtain ⟨t60,h60,h⟩:=Qg h
                    by_cases h61:t60=true
                    ·replace h:=Ql h h61
                     replace h:=Option.some.inj h
                     subst h
                     exact run (n:=100) (f:=5) (args:=[]) (orc:=[.ret (.agg [I t1.1,I t1.2.1,I t1.2.2]),.ret (.tup [.agg [I t2.1,I t2.2.1,I t2.2.2.1],I t2.2.2.2]),.ret (.agg [I t1.1,I t1.2.1,I t1.2.2]),.ret (.tup [.agg [I t3.1,I t3.2.1,I t3.2.2.1],.lst false 1 t3.2.2.2.1,I t3.2.2.2.2]),.ret (.tup [.lst false 3 t4.1,I t4.2]),.ret (.lst false 3 t5),.ret (.tup [.lst false 3 t6.1,I t6.2]),.ret (.lst false 3 t5),.ret (.tup [.lst false 3 t7.1,I t7.2]),.ret (.lst false 3 t5),.ret (.tup [I t8.1,I t8.2]),.ret (.lst false 3 t5),.ret (.tup [.agg [I t9.1,I t9.2.1],I t9.2.2]),.br false,.br false,.br false,.ret (B t19),.br false,.ret (.lst false 3 t21),.ret (.lst false 3 t5),.ret (.lst false 3 t22),.ret (B t23),.br false,.ret (.lst false 3 t25),.ret (B t26),.br false,.ret (.lst false 3 t28),.ret (B t29),.br false,.br false,.br false,.ret (.agg [I t1.1,I t1.2.1,I t1.2.2]),.ret (.lst false 3 t5),.ret (.tup [I t33.1,I t33.2]),.ret (.agg [I t1.1,I t1.2.1,I t1.2.2]),.ret (.lst false 3 t5),.ret (.tup [I t34.1,I t34.2]),.ret (.agg [I t1.1,I t1.2.1,I t1.2.2]),.ret (.lst false 3 t5),.ret (.tup [.agg [I t35.1,I t35.2.1],I t35.2.2]),.ret (.tup [.lst false 2 t36.1,I t36.2]),.ret (.tup [I t37.1,I t37.2.1,I t37.2.2]),.ret (.tup [I t38.1,I t38.2.1,I t38.2.2]),.ret (.tup [I t39.1,I t39.2.1,I t39.2.2]),.ret (.tup [.lst false 2 t40.1,I t40.2]),.ret (.lst false 3 t5),.ret (.tup [.v (.string t41.1),I t41.2]),.br true,.br true,.br true,.br true,.br true,.ret (B t54),.br true,.br true,.br true,.br true,.br true,.ret (B t60),.br true]) (r:=B (t41.1.toList == (⟨#[98,97,110,100,32,53,32,49,48,48,32,49,48,50,10]⟩:ByteArray).toList)) (ob:=[t60=true,Computes cx 10 [.lst false 2 t40.1,.lst true 2 [.agg [I 1,I 3]]] (B t60),(t38.2.1 == (-1))=true,(t38.1 == 13)=true,(t37.2.1 == 1)=true,(t37.1 == 12)=true,t54=true,Computes cx 28 [.lst false 2 t36.1,.lst true 2 [.agg [I 0,I 0],.agg [I 2,I (-2)],.agg [I 4,I (-2)],.agg [I 5,I (-2)]]] (B t54),((t35.1 == 125) && ((t35.2.1 == 127) && true))=true,(t34.1 == 3)=true,(t33.1 == 11)=true,(t39.2.2 == 7)=true,((((((((t33.2+t34.2)+t35.2.2)+t36.2)+t37.2.2)+t38.2.2)+t40.2)+t41.2) == 0)=true,Qa (((((((t33.2+t34.2)+t35.2.2)+t36.2)+t37.2.2)+t38.2.2)+t40.2)+t41.2),Qa ((((((t33.2+t34.2)+t35.2.2)+t36.2)+t37.2.2)+t38.2.2)+t40.2),Qa (((((t33.2+t34.2)+t35.2.2)+t36.2)+t37.2.2)+t38.2.2),Qa ((((t33.2+t34.2)+t35.2.2)+t36.2)+t37.2.2),Qa (((t33.2+t34.2)+t35.2.2)+t36.2),Qa ((t33.2+t34.2)+t35.2.2),Qa (t33.2+t34.2),Computes cx 27 [.lst false 3 t5] (.tup [.v (.string t41.1),I t41.2]),Computes cx 16 [] (.lst false 3 t5),Computes cx 6 [.lst true 1 [.v (.float .f32 1065353216),.v (.float .f32 1084227584),.v (.float .f32 1086324736),.v (.float .f32 1073741824),.v (.float .f32 1088421888)],.v (.float .f32 1082130432),I 2] (.tup [.lst false 2 t40.1,I t40.2]),Computes cx 26 [.agg [I 10,I 50,I 12],I 1] (.tup [I t39.1,I t39.2.1,I t39.2.2]),Computes cx 26 [.agg [I 10,I 13,I 16],I 5] (.tup [I t38.1,I t38.2.1,I t38.2.2]),Computes cx 26 [.agg [I 10,I 50,I 12],I 5] (.tup [I t37.1,I t37.2.1,I t37.2.2]),Computes cx 25 [.agg [I 0,I 0],.agg [I 5,I (-2)],.agg [I 2,I 2]] (.tup [.lst false 2 t36.1,I t36.2]),Computes cx 24 [.agg [I t1.1,I t1.2.1,I t1.2.2],.agg [I 5,I 5,I 5],.lst false 3 t5,.agg [I 110,I 130],I 5] (.tup [.agg [I t35.1,I t35.2.1],I t35.2.2]),Computes cx 16 [] (.lst false 3 t5),Computes cx 12 [] (.agg [I t1.1,I t1.2.1,I t1.2.2]),Computes cx 23 [.agg [I t1.1,I t1.2.1,I t1.2.2],.agg [I 5,I 5,I 5],.lst false 3 t5,.agg [I 115,I 118]] (.tup [I t34.1,I t34.2]),Computes cx 16 [] (.lst false 3 t5),Computes cx 12 [] (.agg [I t1.1,I t1.2.1,I t1.2.2]),Computes cx 23 [.agg [I t1.1,I t1.2.1,I t1.2.2],.agg [I 5,I 5,I 5],.lst false 3 t5,.agg [I 140,I 143]] (.tup [I t33.1,I t33.2]),Computes cx 16 [] (.lst false 3 t5),Computes cx 12 [] (.agg [I t1.1,I t1.2.1,I t1.2.2]),(!((t9.1 == 120) && ((t9.2.1 == 127) && true)))=false,(t8.1 != 3)=false,(!t29)=false,Computes cx 21 [.lst false 3 t28,.lst true 3 [.agg [I 5,I 99,I 104]]] (B t29),Computes cx 22 [.lst false 3 t7.1] (.lst false 3 t28),(!t26)=false,Computes cx 21 [.lst false 3 t25,.lst true 3 [.agg [I 5,I 101,I 102]]] (B t26),Computes cx 22 [.lst false 3 t6.1] (.lst false 3 t25),(!t23)=false,Computes cx 21 [.lst false 3 t21,.lst false 3 t22] (B t23),Computes cx 22 [.lst false 3 t5] (.lst false 3 t22),Computes cx 16 [] (.lst false 3 t5),Computes cx 22 [.lst false 3 t4.1] (.lst false 3 t21),(!t19)=false,Computes cx 20 [.lst false 1 t3.2.2.2.1,.lst true 1 [I (-25),I 3]] (B t19),(!((t3.1 == (-17)) && (((t3.2.1 == (-20)) && ((t3.2.2.1 == (-20)) && true)) && true)))=false,(!((t2.1 == 2) && (((t2.2.1 == 2) && ((t2.2.2.1 == 2) && true)) && true)))=false,(((((((t2.2.2.2+t3.2.2.2.2)+t4.2)+t6.2)+t7.2)+t8.2)+t9.2.2) != 0)=false,Qa ((((((t2.2.2.2+t3.2.2.2.2)+t4.2)+t6.2)+t7.2)+t8.2)+t9.2.2),Qa (((((t2.2.2.2+t3.2.2.2.2)+t4.2)+t6.2)+t7.2)+t8.2),Qa ((((t2.2.2.2+t3.2.2.2.2)+t4.2)+t6.2)+t7.2),Qa (((t2.2.2.2+t3.2.2.2.2)+t4.2)+t6.2),Qa ((t2.2.2.2+t3.2.2.2.2)+t4.2),Qa (t2.2.2.2+t3.2.2.2.2),Computes cx 19 [.lst false 3 t5,.agg [I 4,I 5]] (.tup [.agg [I t9.1,I t9.2.1],I t9.2.2]),Computes cx 16 [] (.lst false 3 t5),Computes cx 18 [.lst false 3 t5] (.tup [I t8.1,I t8.2]),Computes cx 16 [] (.lst false 3 t5),Computes cx 17 [.lst false 3 t5,.agg [I (-1),I 2]] (.tup [.lst false 3 t7.1,I t7.2]),Computes cx 16 [] (.lst false 3 t5),Computes cx 15 [.lst false 3 t5,.agg [I 4,I 121,I 130]] (.tup [.lst false 3 t6.1,I t6.2]),Computes cx 16 [] (.lst false 3 t5),Computes cx 14 [.lst true 3 [.agg [I 0,I 100,I 104],.agg [I 10,I 150,I 152]],.agg [I 4,I 6]] (.tup [.lst false 3 t4.1,I t4.2]),Computes cx 13 [.agg [I t1.1,I t1.2.1,I t1.2.2],.agg [I 5,I 2,I 5]] (.tup [.agg [I t3.1,I t3.2.1,I t3.2.2.1],.lst false 1 t3.2.2.2.1,I t3.2.2.2.2]),Computes cx 12 [] (.agg [I t1.1,I t1.2.1,I t1.2.2]),Computes cx 11 [.agg [I t1.1,I t1.2.1,I t1.2.2],.agg [I 5,I 2,I 5],.lst true 1 [I 2,I (-1),I (-4)]] (.tup [.agg [I t2.1,I t2.2.1,I t2.2.2.1],I t2.2.2.2]),Computes cx 12 [] (.agg [I t1.1,I t1.2.1,I t1.2.2])]) (zk t1 t2 t3 t4 t5 t6 t7 t8 t9 t19 t21 t22 t23 t25 t26 t28 t29 t33 t34 t35 t36 t37 t38 t39 t40 t41 t54 t60) ⟨h61,((ZS h60).le (.cons (.refl _) (.cons (.full _ _ _) (.nil))) (.refl _)),(eqt h59),(eqt h58),(eqt h57),(eqt h56),h55,((Ey h54).le (.cons (.refl _) (.cons (.full _ _ _) (.nil))) (.refl _)),h53,(eqt h52),(eqt h51),(eqt h50),(eqt h49),h48,h47,h46,h45,h44,h43,h42,(wJ h41),(Zt h5),((WY h40).le (.cons (.full _ _ _) (.cons (.refl _) (.cons (.refl _) (.nil)))) (.refl _)),(Yx h39),(Yx h38),(Yx h37),(zm h36),(Jb h35),(Zt h5),(VD h1),(Kf h34),(Zt h5),(VD h1),(Kf h33),(Zt h5),(VD h1),(U7 h32),(nef h31),(U7 h30),((VB h29).le (.cons (.refl _) (.cons (.full _ _ _) (.nil))) (.refl _)),(Yc h28),(U7 h27),((VB h26).le (.cons (.refl _) (.cons (.full _ _ _) (.nil))) (.refl _)),(Yc h25),(U7 h24),(VB h23),(Yc h22),(Zt h5),(Yc h21),(U7 h20),((qf h19).le (.cons (.refl _) (.cons (.full _ _ _) (.nil))) (.refl _)),(U7 h18),(U7 h17),(nef h16),h15,h14,h13,h12,h11,h10,(wo h9),(Zt h5),(wK h8),(Zt h5),(zo h7),(Zt h5),(zn h6),(Zt h5),((qh h4).le (.cons (.full _ _ _) (.cons (.refl _) (.nil))) (.refl _)),(XF h3),(VD h1),((UT h2).le (.cons (.refl _) (.cons (.refl _) (.cons (.full _ _ _) (.nil)))) (.refl _)),(VD h1),trivial⟩
                    ·replace h:=Qm h h61
                     cases h
                   ·replace h:=Qm h h59
                    cases h
                  ·replace h:=Qm h h58
                   cases h
                 ·replace h:=Qm h h57
                  cases h
                ·replace h:=Qm h h56
                 cases h
               ·replace h:=Qm h h55
                cases h
              ·replace h:=Qm h h53
               cases h
             ·replace h:=Qm h h52
              cases h
            ·replace h:=Qm h h51
             cases h
           ·replace h:=Qm h h50
            cases h
          ·replace h:=Qm h h49
           cases h
         ·replace h:=Qm h h32
          cases h
        ·replace h:=Qm h h31
         cases h
       ·replace h:=Qm h h30
        cases h
      ·replace h:=Qm h h27
       cases h
     ·replace h:=Qm h h24
      cases h
    ·replace h:=Qm h h20
     cases h
   ·replace h:=Qm h h18
    cases h
  ·replace h:=Qm h h17
   cases h
 ·replace h:=Qm h h16
  cases h
def Q8 (n:Nat) (a0:List D):Option (Bool) :=
 if ((a0).length:Int)≤20 then
  some true
 else
 some (((a0).length:Int) == 4097)
theorem Zj {n:Nat} {a0:List D} {r:Bool} (h:Q8 n a0=some r):Computes cx 4 [.lst false 1 a0] (B r):=by
 unfold Q8 at h
 by_cases h1:((a0).length:Int)≤20
 ·replace h:=Ql h h1
  replace h:=Option.some.inj h
  subst h
  exact run (n:=100) (f:=4) (args:=[.lst false 1 a0]) (orc:=[.br true]) (r:=B true) (ob:=[(decide (((a0).length:Int)≤20))=true]) (by kernel_rfl) ⟨(decide_eq_true h1),trivial⟩
 ·replace h:=Qm h h1
  replace h:=Option.some.inj h
  subst h
  exact run (n:=100) (f:=4) (args:=[.lst false 1 a0]) (orc:=[.br false]) (r:=B (((a0).length:Int) == 4097)) (ob:=[(decide (((a0).length:Int)≤20))=false]) (by kernel_rfl) ⟨(decide_eq_false h1),trivial⟩
def Wa (n:Nat) (a0:List D):Option (List D) :=
 if ZZ 4 (0+(a0).length) then
 if Zl a0=true then
  some []
 else
 some a0
 else none
theorem VC {n:Nat} {a0:List D} {r:List D} (h:Wa n a0=some r):Computes cx 7 [.lst false 1 a0] (.lst false 1 r):=by
 unfold Wa at h
 obtain ⟨h1,h⟩:=Qi h
 by_cases h2:Zl a0=true
 ·replace h:=Ql h h2
  replace h:=Option.some.inj h
  subst h
  exact (run (n:=100) (f:=7) (args:=[.lst false 1 a0]) (orc:=[.br true,.br true]) (r:=.lst true 1 []) (ob:=[Zl a0=true,room cx 23 (0+(a0).length)]) (by kernel_rfl) ⟨h2,(Zp (b:=4) (by kernel_rfl) (by decide) h1),trivial⟩).le (LEs.refl _) (.full _ _ _)
 ·replace h:=Qm h h2
  replace h:=Option.some.inj h
  subst h
  exact run (n:=100) (f:=7) (args:=[.lst false 1 a0]) (orc:=[.br true,.br false]) (r:=.lst false 1 a0) (ob:=[Zl a0=false,room cx 23 (0+(a0).length)]) (by kernel_rfl) ⟨(QI h2),(Zp (b:=4) (by kernel_rfl) (by decide) h1),trivial⟩
def Wi (n:Nat) (a0:Bool) (a1:Int):Option (Int) :=
 if a0=true then
  some a1
 else
 some 0
theorem Ez {n:Nat} {a0:Bool} {a1:Int} {r:Int} (h:Wi n a0 a1=some r):Computes cx 61 [B a0,I a1] (I r):=by
 unfold Wi at h
 by_cases h1:a0=true
 ·replace h:=Ql h h1
  replace h:=Option.some.inj h
  subst h
  exact run (n:=100) (f:=61) (args:=[B a0,I a1]) (orc:=[.br true]) (r:=I a1) (ob:=[a0=true]) (by kernel_rfl) ⟨h1,trivial⟩
 ·replace h:=Qm h h1
  replace h:=Option.some.inj h
  subst h
  exact run (n:=100) (f:=61) (args:=[B a0,I a1]) (orc:=[.br false]) (r:=I 0) (ob:=[a0=false]) (by kernel_rfl) ⟨(QI h1),trivial⟩
def Q7 (n:Nat) (a0:Nat) (a1:Int):Option (Int) :=
 if ((FloatKind.format .f32).order a0 a0 != some .eq)=true then
  some 1
 else
 if ((FloatKind.format .f32).order a0 2139095039 == some .gt)=true then
  some 1
 else
 if ((FloatKind.format .f32).order a0 4286578687 == some .lt)=true then
  some 1
 else
 if ((FloatKind.format .f32).order a0 (FloatKind.nearest .f32 a1) == some .gt)=true then
  some 3
 else
 if (fop .sub .f32 0 (FloatKind.nearest .f32 a1)).isSome=true then
 if ((FloatKind.format .f32).order a0 ((fop .sub .f32 0 (FloatKind.nearest .f32 a1)).getD 0) == some .lt)=true then
  some 3
 else
 if (fop .mul .f32 1098907648 a0).isSome=true then
 if (f2i .f32 ((fop .mul .f32 1098907648 a0).getD 0) .i64).isSome=true then
 (Wi n ((FloatKind.format .f32).order (FloatKind.nearest .f32 ((f2i .f32 ((fop .mul .f32 1098907648 a0).getD 0) .i64).getD 0)) ((fop .mul .f32 1098907648 a0).getD 0) != some .eq) 3).bind fun t9 =>
 some t9
 else none
 else none
 else none
theorem EA {n:Nat} {a0:Nat} {a1:Int} {r:Int} (h:Q7 n a0 a1=some r):Computes cx 60 [.v (.float .f32 a0),I a1] (I r):=by
 unfold Q7 at h
 by_cases h1:((FloatKind.format .f32).order a0 a0 != some .eq)=true
 ·replace h:=Ql h h1
  replace h:=Option.some.inj h
  subst h
  exact run (n:=100) (f:=60) (args:=[.v (.float .f32 a0),I a1]) (orc:=[.br true,.no,.no]) (r:=I 1) (ob:=[((FloatKind.format .f32).order a0 a0 != some .eq)=true]) (by kernel_rfl) ⟨h1,trivial⟩
 ·replace h:=Qm h h1
  by_cases h2:((FloatKind.format .f32).order a0 2139095039 == some .gt)=true
  ·replace h:=Ql h h2
   replace h:=Option.some.inj h
   subst h
   exact run (n:=100) (f:=60) (args:=[.v (.float .f32 a0),I a1]) (orc:=[.br false,.br true,.no]) (r:=I 1) (ob:=[((FloatKind.format .f32).order a0 2139095039 == some .gt)=true,((FloatKind.format .f32).order a0 a0 != some .eq)=false]) (by kernel_rfl) ⟨h2,(QI h1),trivial⟩
  ·replace h:=Qm h h2
   by_cases h3:((FloatKind.format .f32).order a0 4286578687 == some .lt)=true
   ·replace h:=Ql h h3
    replace h:=Option.some.inj h
    subst h
    exact run (n:=100) (f:=60) (args:=[.v (.float .f32 a0),I a1]) (orc:=[.br false,.br false,.br true]) (r:=I 1) (ob:=[((FloatKind.format .f32).order a0 4286578687 == some .lt)=true,((FloatKind.format .f32).order a0 2139095039 == some .gt)=false,((FloatKind.format .f32).order a0 a0 != some .eq)=false]) (by kernel_rfl) ⟨h3,(QI h2),(QI h1),trivial⟩
   ·replace h:=Qm h h3
    by_cases h4:((FloatKind.format .f32).order a0 (FloatKind.nearest .f32 a1) == some .gt)=true
    ·replace h:=Ql h h4
     replace h:=Option.some.inj h
     subst h
     exact run (n:=100) (f:=60) (args:=[.v (.float .f32 a0),I a1]) (orc:=[.br false,.br false,.br false,.br true,.no]) (r:=I 3) (ob:=[((FloatKind.format .f32).order a0 (FloatKind.nearest .f32 a1) == some .gt)=true,((FloatKind.format .f32).order a0 4286578687 == some .lt)=false,((FloatKind.format .f32).order a0 2139095039 == some .gt)=false,((FloatKind.format .f32).order a0 a0 != some .eq)=false]) (by kernel_rfl) ⟨h4,(QI h3),(QI h2),(QI h1),trivial⟩
    ·replace h:=Qm h h4
     obtain ⟨h5,h⟩:=Qi h
     by_cases h6:((FloatKind.format .f32).order a0 ((fop .sub .f32 0 (FloatKind.nearest .f32 a1)).getD 0) == some .lt)=true
     ·replace h:=Ql h h6
      replace h:=Option.some.inj h
      subst h
      exact run (n:=100) (f:=60) (args:=[.v (.float .f32 a0),I a1]) (orc:=[.br false,.br false,.br false,.br false,.br true]) (r:=I 3) (ob:=[((FloatKind.format .f32).order a0 ((fop .sub .f32 0 (FloatKind.nearest .f32 a1)).getD 0) == some .lt)=true,(fop .sub .f32 0 (FloatKind.nearest .f32 a1)).isSome=true,((FloatKind.format .f32).order a0 (FloatKind.nearest .f32 a1) == some .gt)=false,((FloatKind.format .f32).order a0 4286578687 == some .lt)=false,((FloatKind.format .f32).order a0 2139095039 == some .gt)=false,((FloatKind.format .f32).order a0 a0 != some .eq)=false]) (by kernel_rfl) ⟨h6,h5,(QI h4),(QI h3),(QI h2),(QI h1),trivial⟩
     ·replace h:=Qm h h6
      obtain ⟨h7,h⟩:=Qi h
      obtain ⟨h8,h⟩:=Qi h
      obtain ⟨t9,h9,h⟩:=Qg h
      replace h:=Option.some.inj h
      subst h
      exact run (n:=100) (f:=60) (args:=[.v (.float .f32 a0),I a1]) (orc:=[.br false,.br false,.br false,.br false,.br false,.ret (I t9)]) (r:=I t9) (ob:=[Computes cx 61 [B ((FloatKind.format .f32).order (FloatKind.nearest .f32 ((f2i .f32 ((fop .mul .f32 1098907648 a0).getD 0) .i64).getD 0)) ((fop .mul .f32 1098907648 a0).getD 0) != some .eq),I 3] (I t9),(fop .mul .f32 1098907648 a0).isSome=true,(f2i .f32 ((fop .mul .f32 1098907648 a0).getD 0) .i64).isSome=true,(fop .mul .f32 1098907648 a0).isSome=true,((FloatKind.format .f32).order a0 ((fop .sub .f32 0 (FloatKind.nearest .f32 a1)).getD 0) == some .lt)=false,(fop .sub .f32 0 (FloatKind.nearest .f32 a1)).isSome=true,((FloatKind.format .f32).order a0 (FloatKind.nearest .f32 a1) == some .gt)=false,((FloatKind.format .f32).order a0 4286578687 == some .lt)=false,((FloatKind.format .f32).order a0 2139095039 == some .gt)=false,((FloatKind.format .f32).order a0 a0 != some .eq)=false]) (by kernel_rfl) ⟨(Ez h9),h7,h8,h7,(QI h6),h5,(QI h4),(QI h3),(QI h2),(QI h1),trivial⟩
def Zg (n:Nat) (a0:Nat):Option (Int) :=
 (Q7 n a0 1024).bind fun t1 =>
 some t1
theorem WX {n:Nat} {a0:Nat} {r:Int} (h:Zg n a0=some r):Computes cx 36 [.v (.float .f32 a0)] (I r):=by
 unfold Zg at h
 obtain ⟨t1,h1,h⟩:=Qg h
 replace h:=Option.some.inj h
 subst h
 exact run (n:=100) (f:=36) (args:=[.v (.float .f32 a0)]) (orc:=[.ret (I t1)]) (r:=I t1) (ob:=[Computes cx 60 [.v (.float .f32 a0),I 1024] (I t1)]) (by kernel_rfl) ⟨(EA h1),trivial⟩
def QL (n:Nat) (a0:List D) (sa:(Int)):Option (((Int))⊕((Int)⊕(Unit))) :=
 if sa < ((a0).length:Int) then
  (el Gn a0 sa).bind fun ta2 =>
  (Zg n ta2).bind fun ta3 =>
  if ta3=0 then
   if Qa (sa+1) then
   some (.inl (sa+1))
   else none
  else
  some (.inr (.inl ta3))
 else
 some (.inr (.inr ()))
noncomputable def Km (a0:List D) (sa:(Int)):List (Nat×AV):=[(0,.d (.lst false 1 a0)),(3,.d (I sa))]
noncomputable def Kr (a0:List D) (sa:(Int)):List (Nat×Blk):=[]
noncomputable def Kj (a0:List D) (e:(Int)⊕(Unit)):Ex:=match e with
 | (.inl e)=>.ret
 | (.inr e)=>(.exit 0)
noncomputable def UW (a0:List D) (e:(Int)⊕(Unit)):List (Nat×AV):=match e with
 | (.inl e)=>[(2,.d (I e))]
 | (.inr e)=>[]
noncomputable def UX (a0:List D) (e:(Int)⊕(Unit)):List (Nat×Blk):=match e with
 | (.inl e)=>[]
 | (.inr e)=>[]
theorem Vq {n:Nat} {a0:List D} (sa:(Int)) (r) (h:QL n a0 sa=some r):Rd cx (Qu cx.P 35 0) 19 0 false (Km a0) (Kr a0) (Kj a0) (UW a0) (UX a0) sa r:=by
 unfold QL at h
 by_cases ha1:sa < ((a0).length:Int)
 ·replace h:=Ql h ha1
  obtain ⟨ta2,ha2,h⟩:=Qg h
  obtain ⟨ta3,ha3,h⟩:=Qg h
  by_cases ha4:ta3=0
  ·replace h:=Ql h ha4
   obtain ⟨ha5,h⟩:=Qi h
   replace h:=Option.some.inj h
   subst h
   exact ⟨100,2,[.br true,.el (.v (.float .f32 ta2)),.ret (I ta3),.br false],[],[0,3],[],Qk (ob:=[Qa (sa+1),(ta3 != 0)=false,Computes cx 36 [.v (.float .f32 ta2)] (I ta3),(0:Int)≤sa,nth (a0) (Int.toNat sa)=some (.v (.float .f32 ta2)),(decide (sa < ((a0).length:Int)))=true]) (by kernel_rfl) ⟨ha5,(nef ha4),(WX ha3),(Qs Q9 ha2).1,(Qs Q9 ha2).2,(decide_eq_true ha1),trivial⟩⟩
  ·replace h:=Qm h ha4
   replace h:=Option.some.inj h
   subst h
   exact ⟨⟨100,2,[.br true,.el (.v (.float .f32 ta2)),.ret (I ta3),.br true],[],[2],[],Qk (ob:=[(ta3 != 0)=true,Computes cx 36 [.v (.float .f32 ta2)] (I ta3),(0:Int)≤sa,nth (a0) (Int.toNat sa)=some (.v (.float .f32 ta2)),(decide (sa < ((a0).length:Int)))=true]) (by kernel_rfl) ⟨(net ha4),(WX ha3),(Qs Q9 ha2).1,(Qs Q9 ha2).2,(decide_eq_true ha1),trivial⟩⟩,nofun⟩
 ·replace h:=Qm h ha1
  replace h:=Option.some.inj h
  subst h
  exact ⟨⟨100,2,[.br false],[],[],[],Qk (ob:=[(decide (sa < ((a0).length:Int)))=false]) (by kernel_rfl) ⟨(decide_eq_false ha1),trivial⟩⟩,nofun⟩
def Zy (n:Nat) (a0:List D):Option (Int) :=
 (Q2 (QL n a0) n 0).bind fun t1=>match t1 with
  | (.inl t1)=>(
   some t1)
  | (.inr t1)=>(
   some 0)
theorem JU {n:Nat} {a0:List D} {r:Int} (h:Zy n a0=some r):Computes cx 35 [.lst false 1 a0] (I r):=by
 unfold Zy at h
 obtain ⟨t1,h1,h⟩:=Qg h
 rcases t1 with t1 | t1
 ·replace h:=Option.some.inj h
  subst h
  exact run (n:=100) (f:=35) (args:=[.lst false 1 a0]) (orc:=[.lp [] [0,3] [] .ret [(2,.d (I t1))] [] 28]) (r:=I t1) (ob:=[QV cx (Qu cx.P 35 0) 19 0 false [(0,.d (.lst false 1 a0)),(3,.d (I 0))] [] .ret [(2,.d (I t1))] []]) (by kernel_rfl) ⟨(Qv Vq h1),trivial⟩
 ·replace h:=Option.some.inj h
  subst h
  exact run (n:=100) (f:=35) (args:=[.lst false 1 a0]) (orc:=[.lp [] [0,3] [] (.exit 0) [] [] 28]) (r:=I 0) (ob:=[QV cx (Qu cx.P 35 0) 19 0 false [(0,.d (.lst false 1 a0)),(3,.d (I 0))] [] (.exit 0) [] []]) (by kernel_rfl) ⟨(Qv Vq h1),trivial⟩
def VH (n:Nat)  : Option (Int) :=
 some 3
theorem wl {n:Nat}  {r:Int} (h:VH n =some r):Computes cx 61 [B true,I 3] (I r):=by
 unfold VH at h
 replace h:=Option.some.inj h
 subst h
 exact run (n:=100) (f:=61) (args:=[B true,I 3]) (orc:=[.no]) (r:=I 3) (ob:=[]) (by kernel_rfl) trivial
def ZM (n:Nat) (a0 a1 a2:Int):Option (Int) :=
 if a0 < a1 then
  (VH n).bind fun t2 =>
  some t2
 else
 (Wi n (decide (a0 > a2)) 3).bind fun t2 =>
 some t2
theorem XB {n:Nat} {a0 a1 a2:Int} {r:Int} (h:ZM n a0 a1 a2=some r):Computes cx 37 [I a0,I a1,I a2] (I r):=by
 unfold ZM at h
 by_cases h1:a0 < a1
 ·replace h:=Ql h h1
  obtain ⟨t2,h2,h⟩:=Qg h
  replace h:=Option.some.inj h
  subst h
  exact run (n:=100) (f:=37) (args:=[I a0,I a1,I a2]) (orc:=[.br true,.ret (I t2)]) (r:=I t2) (ob:=[Computes cx 61 [B true,I 3] (I t2),(decide (a0 < a1))=true]) (by kernel_rfl) ⟨(wl h2),(decide_eq_true h1),trivial⟩
 ·replace h:=Qm h h1
  obtain ⟨t2,h2,h⟩:=Qg h
  replace h:=Option.some.inj h
  subst h
  exact run (n:=100) (f:=37) (args:=[I a0,I a1,I a2]) (orc:=[.br false,.ret (I t2)]) (r:=I t2) (ob:=[Computes cx 61 [B (decide (a0 > a2)),I 3] (I t2),(decide (a0 < a1))=false]) (by kernel_rfl) ⟨(Ez h2),(decide_eq_false h1),trivial⟩
def Z8 (n:Nat) (a0:List D) (sa:(Int)):Option (((Int))⊕((Int)⊕(Unit))) :=
 if sa < ((a0).length:Int) then
  (el XV a0 sa).bind fun ta2 =>
  if ta2=0 then
   if Qa (sa+1) then
   some (.inl (sa+1))
   else none
  else
  some (.inr (.inl ta2))
 else
 some (.inr (.inr ()))
noncomputable def qy (a0:List D) (sa:(Int)):List (Nat×AV):=[(0,.d (.lst false 1 a0)),(3,.d (I sa))]
noncomputable def qG (a0:List D) (sa:(Int)):List (Nat×Blk):=[]
noncomputable def qs (a0:List D) (e:(Int)⊕(Unit)):Ex:=match e with
 | (.inl e)=>.ret
 | (.inr e)=>(.exit 0)
noncomputable def EH (a0:List D) (e:(Int)⊕(Unit)):List (Nat×AV):=match e with
 | (.inl e)=>[(2,.d (I e))]
 | (.inr e)=>[]
noncomputable def EN (a0:List D) (e:(Int)⊕(Unit)):List (Nat×Blk):=match e with
 | (.inl e)=>[]
 | (.inr e)=>[]
theorem Kn {n:Nat} {a0:List D} (sa:(Int)) (r) (h:Z8 n a0 sa=some r):Rd cx (Qu cx.P 34 0) 19 0 false (qy a0) (qG a0) (qs a0) (EH a0) (EN a0) sa r:=by
 unfold Z8 at h
 by_cases ha1:sa < ((a0).length:Int)
 ·replace h:=Ql h ha1
  obtain ⟨ta2,ha2,h⟩:=Qg h
  by_cases ha3:ta2=0
  ·replace h:=Ql h ha3
   obtain ⟨ha4,h⟩:=Qi h
   replace h:=Option.some.inj h
   subst h
   exact ⟨100,2,[.br true,.el (I ta2),.br false],[],[0,3],[],Qk (ob:=[Qa (sa+1),(ta2 != 0)=false,(0:Int)≤sa,nth (a0) (Int.toNat sa)=some (I ta2),(decide (sa < ((a0).length:Int)))=true]) (by kernel_rfl) ⟨ha4,(nef ha3),(Qs QG ha2).1,(Qs QG ha2).2,(decide_eq_true ha1),trivial⟩⟩
  ·replace h:=Qm h ha3
   replace h:=Option.some.inj h
   subst h
   exact ⟨⟨100,2,[.br true,.el (I ta2),.br true,.el (I ta2)],[],[2],[],Qk (ob:=[(0:Int)≤sa,nth (a0) (Int.toNat sa)=some (I ta2),(ta2 != 0)=true,(0:Int)≤sa,nth (a0) (Int.toNat sa)=some (I ta2),(decide (sa < ((a0).length:Int)))=true]) (by kernel_rfl) ⟨(Qs QG ha2).1,(Qs QG ha2).2,(net ha3),(Qs QG ha2).1,(Qs QG ha2).2,(decide_eq_true ha1),trivial⟩⟩,nofun⟩
 ·replace h:=Qm h ha1
  replace h:=Option.some.inj h
  subst h
  exact ⟨⟨100,2,[.br false],[],[],[],Qk (ob:=[(decide (sa < ((a0).length:Int)))=false]) (by kernel_rfl) ⟨(decide_eq_false ha1),trivial⟩⟩,nofun⟩
def W8 (n:Nat) (a0:List D):Option (Int) :=
 (Q2 (Z8 n a0) n 0).bind fun t1=>match t1 with
  | (.inl t1)=>(
   some t1)
  | (.inr t1)=>(
   some 0)
theorem wH {n:Nat} {a0:List D} {r:Int} (h:W8 n a0=some r):Computes cx 34 [.lst false 1 a0] (I r):=by
 unfold W8 at h
 obtain ⟨t1,h1,h⟩:=Qg h
 rcases t1 with t1 | t1
 ·replace h:=Option.some.inj h
  subst h
  exact run (n:=100) (f:=34) (args:=[.lst false 1 a0]) (orc:=[.lp [] [0,3] [] .ret [(2,.d (I t1))] [] 27]) (r:=I t1) (ob:=[QV cx (Qu cx.P 34 0) 19 0 false [(0,.d (.lst false 1 a0)),(3,.d (I 0))] [] .ret [(2,.d (I t1))] []]) (by kernel_rfl) ⟨(Qv Kn h1),trivial⟩
 ·replace h:=Option.some.inj h
  subst h
  exact run (n:=100) (f:=34) (args:=[.lst false 1 a0]) (orc:=[.lp [] [0,3] [] (.exit 0) [] [] 27]) (r:=I 0) (ob:=[QV cx (Qu cx.P 34 0) 19 0 false [(0,.d (.lst false 1 a0)),(3,.d (I 0))] [] (.exit 0) [] []]) (by kernel_rfl) ⟨(Qv Kn h1),trivial⟩
def QJ (n:Nat) (a0:List D) (a1:Nat) (a2:Int):Option (Int) :=
 if ((a0).length:Int) > 4096 then
  some 5
 else
 (Zy n a0).bind fun t2 =>
 (Zg n a1).bind fun t3 =>
 (ZM n a2 1 4096).bind fun t4 =>
 (W8 n ([I t2,I t3,I t4])).bind fun t5 =>
 some t5
theorem ZN {n:Nat} {a0:List D} {a1:Nat} {a2:Int} {r:Int} (h:QJ n a0 a1 a2=some r):Computes cx 8 [.lst false 1 a0,.v (.float .f32 a1),I a2] (I r):=by
 unfold QJ at h
 by_cases h1:((a0).length:Int) > 4096
 ·replace h:=Ql h h1
  replace h:=Option.some.inj h
  subst h
  exact run (n:=100) (f:=8) (args:=[.lst false 1 a0,.v (.float .f32 a1),I a2]) (orc:=[.br true]) (r:=I 5) (ob:=[(decide (((a0).length:Int) > 4096))=true]) (by kernel_rfl) ⟨(decide_eq_true h1),trivial⟩
 ·replace h:=Qm h h1
  obtain ⟨t2,h2,h⟩:=Qg h
  obtain ⟨t3,h3,h⟩:=Qg h
  obtain ⟨t4,h4,h⟩:=Qg h
  obtain ⟨t5,h5,h⟩:=Qg h
  replace h:=Option.some.inj h
  subst h
  exact run (n:=100) (f:=8) (args:=[.lst false 1 a0,.v (.float .f32 a1),I a2]) (orc:=[.br false,.ret (I t2),.ret (I t3),.ret (I t4),.ret (I t5)]) (r:=I t5) (ob:=[Computes cx 34 [.lst true 1 [I t2,I t3,I t4]] (I t5),Computes cx 37 [I a2,I 1,I 4096] (I t4),Computes cx 36 [.v (.float .f32 a1)] (I t3),Computes cx 35 [.lst false 1 a0] (I t2),(decide (((a0).length:Int) > 4096))=false]) (by kernel_rfl) ⟨((wH h5).le (.cons (.full _ _ _) (.nil)) (.refl _)),(XB h4),(WX h3),(JU h2),(decide_eq_false h1),trivial⟩
def Zd (n:Nat) (a0:List D) (a1:Nat) (a2:Int) (sa:(Int×Int×List D)):Option (((Int×Int×List D))⊕((List D))) :=
 if sa.2.1≤((a0).length:Int) then
  if sa.2.1 < ((a0).length:Int) then
   (el Gn a0 sa.2.1).bind fun ta3 =>
   if ((FloatKind.format .f32).order ta3 a1 == some .gt)=true then
    if Qa (sa.2.1+1) then
    some (.inl (sa.1,(sa.2.1+1),sa.2.2))
    else none
   else
   if Qa (sa.2.1 - sa.1) then
   if (sa.2.1 - sa.1) ≥ a2 then
    if ZZ 16 ((sa.2.2).length+1) then
    if Qa (sa.2.1+1) then
    some (.inl ((sa.2.1+1),(sa.2.1+1),(sa.2.2++([.agg [I sa.1,I sa.2.1]]:List D))))
    else none
    else none
   else
   if Qa (sa.2.1+1) then
   some (.inl ((sa.2.1+1),(sa.2.1+1),sa.2.2))
   else none
   else none
  else
  if Qa (sa.2.1 - sa.1) then
  if (sa.2.1 - sa.1) ≥ a2 then
   if ZZ 16 ((sa.2.2).length+1) then
   if Qa (sa.2.1+1) then
   some (.inl ((sa.2.1+1),(sa.2.1+1),(sa.2.2++([.agg [I sa.1,I sa.2.1]]:List D))))
   else none
   else none
  else
  if Qa (sa.2.1+1) then
  some (.inl ((sa.2.1+1),(sa.2.1+1),sa.2.2))
  else none
  else none
 else
 some (.inr sa.2.2)
noncomputable def Ge (a0:List D) (a1:Nat) (a2:Int) (sa:(Int×Int×List D)):List (Nat×AV):=[(0,.d (.lst false 1 a0)),(1,.d (.v (.float .f32 a1))),(2,.d (I a2)),(7,.own 4 0),(8,.d (I sa.1)),(9,.d (I sa.2.1))]
noncomputable def Gk (a0:List D) (a1:Nat) (a2:Int) (sa:(Int×Int×List D)):List (Nat×Blk):=[(4,.row 0 2 sa.2.2)]
noncomputable def J0 (a0:List D) (a1:Nat) (a2:Int) (e:(List D)):Ex:=(.exit 0)
noncomputable def Jj (a0:List D) (a1:Nat) (a2:Int) (e:(List D)):List (Nat×AV):=[(7,.own 4 0)]
noncomputable def Jn (a0:List D) (a1:Nat) (a2:Int) (e:(List D)):List (Nat×Blk):=[(4,.row 0 2 e)]
theorem Gg {n:Nat} {a0:List D} {a1:Nat} {a2:Int} (sa:(Int×Int×List D)) (r) (h:Zd n a0 a1 a2 sa=some r):Rd cx (Qu cx.P 9 0) 42 0 false (Ge a0 a1 a2) (Gk a0 a1 a2) (J0 a0 a1 a2) (Jj a0 a1 a2) (Jn a0 a1 a2) sa r:=by
 unfold Zd at h
 by_cases ha1:sa.2.1≤((a0).length:Int)
 ·replace h:=Ql h ha1
  by_cases ha2:sa.2.1 < ((a0).length:Int)
  ·replace h:=Ql h ha2
   obtain ⟨ta3,ha3,h⟩:=Qg h
   by_cases ha4:((FloatKind.format .f32).order ta3 a1 == some .gt)=true
   ·replace h:=Ql h ha4
    obtain ⟨ha5,h⟩:=Qi h
    replace h:=Option.some.inj h
    subst h
    exact ⟨100,5,[.br true,.br true,.el (.v (.float .f32 ta3)),.br true],[],[0,1,2,7,8,9],[4],Qk (ob:=[Qa (sa.2.1+1),((FloatKind.format .f32).order ta3 a1 == some .gt)=true,(0:Int)≤sa.2.1,nth (a0) (Int.toNat sa.2.1)=some (.v (.float .f32 ta3)),(decide (sa.2.1 < ((a0).length:Int)))=true,(decide (sa.2.1≤((a0).length:Int)))=true]) (by kernel_rfl) ⟨ha5,ha4,(Qs Q9 ha3).1,(Qs Q9 ha3).2,(decide_eq_true ha2),(decide_eq_true ha1),trivial⟩⟩
   ·replace h:=Qm h ha4
    obtain ⟨ha5,h⟩:=Qi h
    by_cases ha6:(sa.2.1 - sa.1) ≥ a2
    ·replace h:=Ql h ha6
     obtain ⟨ha7,h⟩:=Qi h
     obtain ⟨ha8,h⟩:=Qi h
     replace h:=Option.some.inj h
     subst h
     exact ⟨100,5,[.br true,.br true,.el (.v (.float .f32 ta3)),.br false,.br true,.br true],[],[0,1,2,7,8,9],[4],Qk (ob:=[Qa (sa.2.1+1),Qa (sa.2.1+1),room cx 79 ((sa.2.2).length+1),(decide ((sa.2.1 - sa.1) ≥ a2))=true,Qa (sa.2.1 - sa.1),((FloatKind.format .f32).order ta3 a1 == some .gt)=false,(0:Int)≤sa.2.1,nth (a0) (Int.toNat sa.2.1)=some (.v (.float .f32 ta3)),(decide (sa.2.1 < ((a0).length:Int)))=true,(decide (sa.2.1≤((a0).length:Int)))=true]) (by kernel_rfl) ⟨ha8,ha8,(Zp (b:=16) (by kernel_rfl) (by decide) ha7),(decide_eq_true ha6),ha5,(QI ha4),(Qs Q9 ha3).1,(Qs Q9 ha3).2,(decide_eq_true ha2),(decide_eq_true ha1),trivial⟩⟩
    ·replace h:=Qm h ha6
     obtain ⟨ha7,h⟩:=Qi h
     replace h:=Option.some.inj h
     subst h
     exact ⟨100,5,[.br true,.br true,.el (.v (.float .f32 ta3)),.br false,.br false],[],[0,1,2,7,8,9],[4],Qk (ob:=[Qa (sa.2.1+1),Qa (sa.2.1+1),(decide ((sa.2.1 - sa.1) ≥ a2))=false,Qa (sa.2.1 - sa.1),((FloatKind.format .f32).order ta3 a1 == some .gt)=false,(0:Int)≤sa.2.1,nth (a0) (Int.toNat sa.2.1)=some (.v (.float .f32 ta3)),(decide (sa.2.1 < ((a0).length:Int)))=true,(decide (sa.2.1≤((a0).length:Int)))=true]) (by kernel_rfl) ⟨ha7,ha7,(decide_eq_false ha6),ha5,(QI ha4),(Qs Q9 ha3).1,(Qs Q9 ha3).2,(decide_eq_true ha2),(decide_eq_true ha1),trivial⟩⟩
  ·replace h:=Qm h ha2
   obtain ⟨ha3,h⟩:=Qi h
   by_cases ha4:(sa.2.1 - sa.1) ≥ a2
   ·replace h:=Ql h ha4
    obtain ⟨ha5,h⟩:=Qi h
    obtain ⟨ha6,h⟩:=Qi h
    replace h:=Option.some.inj h
    subst h
    exact ⟨100,5,[.br true,.br false,.no,.br true,.br true],[],[0,1,2,7,8,9],[4],Qk (ob:=[Qa (sa.2.1+1),Qa (sa.2.1+1),room cx 79 ((sa.2.2).length+1),(decide ((sa.2.1 - sa.1) ≥ a2))=true,Qa (sa.2.1 - sa.1),(decide (sa.2.1 < ((a0).length:Int)))=false,(decide (sa.2.1≤((a0).length:Int)))=true]) (by kernel_rfl) ⟨ha6,ha6,(Zp (b:=16) (by kernel_rfl) (by decide) ha5),(decide_eq_true ha4),ha3,(decide_eq_false ha2),(decide_eq_true ha1),trivial⟩⟩
   ·replace h:=Qm h ha4
    obtain ⟨ha5,h⟩:=Qi h
    replace h:=Option.some.inj h
    subst h
    exact ⟨100,5,[.br true,.br false,.no,.br false],[],[0,1,2,7,8,9],[4],Qk (ob:=[Qa (sa.2.1+1),Qa (sa.2.1+1),(decide ((sa.2.1 - sa.1) ≥ a2))=false,Qa (sa.2.1 - sa.1),(decide (sa.2.1 < ((a0).length:Int)))=false,(decide (sa.2.1≤((a0).length:Int)))=true]) (by kernel_rfl) ⟨ha5,ha5,(decide_eq_false ha4),ha3,(decide_eq_false ha2),(decide_eq_true ha1),trivial⟩⟩
 ·replace h:=Qm h ha1
  replace h:=Option.some.inj h
  subst h
  exact ⟨⟨100,5,[.br false],[],[7],[4],Qk (ob:=[(decide (sa.2.1≤((a0).length:Int)))=false]) (by kernel_rfl) ⟨(decide_eq_false ha1),trivial⟩⟩,nofun⟩
def ZC (n:Nat) (a0:List D) (a1:Nat) (a2:Int):Option (List D) :=
 (Q2 (Zd n a0 a1 a2) n (0,0,[])).bind fun t1 =>
 some t1
theorem UI {n:Nat} {a0:List D} {a1:Nat} {a2:Int} {r:List D} (h:ZC n a0 a1 a2=some r):Computes cx 9 [.lst false 1 a0,.v (.float .f32 a1),I a2] (.lst false 2 r):=by
 unfold ZC at h
 obtain ⟨t1,h1,h⟩:=Qg h
 replace h:=Option.some.inj h
 subst h
 exact run (n:=100) (f:=9) (args:=[.lst false 1 a0,.v (.float .f32 a1),I a2]) (orc:=[.lp [7,2] [0,1,2,7,8,9] [4] (.exit 0) [(7,.own 4 0)] [(4,.row 0 2 t1)] 50]) (r:=.lst false 2 t1) (ob:=[QV cx (Qu cx.P 9 0) 42 0 false [(0,.d (.lst false 1 a0)),(1,.d (.v (.float .f32 a1))),(2,.d (I a2)),(7,.own 4 0),(8,.d (I 0)),(9,.d (I 0))] [(4,.row 0 2 [])] (.exit 0) [(7,.own 4 0)] [(4,.row 0 2 t1)]]) (by kernel_rfl) ⟨(Qv Gg h1),trivial⟩
theorem Yq (a0:List D) (a1:Nat) (a2:Int) (t1:Bool) (t3:List D) (t4:List D×Int) (t5:Int) (t7:List D) (t8:Bool) (t11:Bool):Zu true 100 cx 3 [.lst false 1 a0,.v (.float .f32 a1),I a2] [.ret (B t1),.br false,.ret (.lst false 1 t3),.ret (.tup [.lst false 2 t4.1,I t4.2]),.ret (I t5),.br true,.ret (.lst false 2 t7),.ret (B t8),.br true,.br true,.ret (B t11)]=some (B t11,[Computes cx 5 [] (B t11),(t4.2 == t5)=true,t8=true,Computes cx 10 [.lst false 2 t4.1,.lst false 2 t7] (B t8),Computes cx 9 [.lst false 1 a0,.v (.float .f32 a1),I a2] (.lst false 2 t7),(t5 == 0)=true,Computes cx 8 [.lst false 1 a0,.v (.float .f32 a1),I a2] (I t5),Computes cx 6 [.lst false 1 t3,.v (.float .f32 a1),I a2] (.tup [.lst false 2 t4.1,I t4.2]),Computes cx 7 [.lst false 1 a0] (.lst false 1 t3),(!t1)=false,Computes cx 4 [.lst false 1 a0] (B t1)]):=by kernel_rfl
theorem Yp (a0:List D) (a1:Nat) (a2:Int) (t1:Bool) (t3:List D) (t4:List D×Int) (t5:Int) (t7:Bool) (t10:Bool):Zu true 100 cx 3 [.lst false 1 a0,.v (.float .f32 a1),I a2] [.ret (B t1),.br false,.ret (.lst false 1 t3),.ret (.tup [.lst false 2 t4.1,I t4.2]),.ret (I t5),.br false,.ret (B t7),.br true,.br true,.ret (B t10)]=some (B t10,[Computes cx 5 [] (B t10),(t4.2 == t5)=true,t7=true,Computes cx 10 [.lst false 2 t4.1,.lst true 0 []] (B t7),(t5 == 0)=false,Computes cx 8 [.lst false 1 a0,.v (.float .f32 a1),I a2] (I t5),Computes cx 6 [.lst false 1 t3,.v (.float .f32 a1),I a2] (.tup [.lst false 2 t4.1,I t4.2]),Computes cx 7 [.lst false 1 a0] (.lst false 1 t3),(!t1)=false,Computes cx 4 [.lst false 1 a0] (B t1)]):=by kernel_rfl
theorem JS (a0:List D) (a1:Nat) (a2:Int) (t1:Bool) (t3:Bool):Zu true 100 cx 3 [.lst false 1 a0,.v (.float .f32 a1),I a2] [.ret (B t1),.br true,.ret (B t3)]=some (B t3,[Computes cx 5 [] (B t3),(!t1)=true,Computes cx 4 [.lst false 1 a0] (B t1)]):=by kernel_rfl
def Wj (n:Nat) (a0:List D) (a1:Nat) (a2:Int):Option (Bool) :=
 (Q8 n a0).bind fun t1 =>
 if t1=true then
  (Wa n a0).bind fun t3 =>
  (QS n t3 a1 a2).bind fun t4 =>
  (QJ n a0 a1 a2).bind fun t5 =>
  if t5=0 then
   (ZC n a0 a1 a2).bind fun t7 =>
   (QM n t4.1 t7).bind fun t8 =>
   if t8=true then
    if t4.2=t5 then
     (Wq n).bind fun t11 =>
     some t11
    else
    none
   else
   none
  else
  (QM n t4.1 ([])).bind fun t7 =>
  if t7=true then
   if t4.2=t5 then
    (Wq n).bind fun t10 =>
    some t10
   else
   none
  else
  none
 else
 (Wq n).bind fun t3 =>
 some t3
theorem XC {n:Nat} {a0:List D} {a1:Nat} {a2:Int} {r:Bool} (h:Wj n a0 a1 a2=some r):Computes cx 3 [.lst false 1 a0,.v (.float .f32 a1),I a2] (B r):=by
 unfold Wj at h
 obtain ⟨t1,h1,h⟩:=Qg h
 by_cases h2:t1=true
 ·replace h:=Ql h h2
  obtain ⟨t3,h3,h⟩:=Qg h
  obtain ⟨t4,h4,h⟩:=Qg h
  obtain ⟨t5,h5,h⟩:=Qg h
  by_cases h6:t5=0
  ·replace h:=Ql h h6
   obtain ⟨t7,h7,h⟩:=Qg h
   obtain ⟨t8,h8,h⟩:=Qg h
   by_cases h9:t8=true
   ·replace h:=Ql h h9
    by_cases h10:t4.2=t5
    ·replace h:=Ql h h10
     obtain ⟨t11,h11,h⟩:=Qg h
     replace h:=Option.some.inj h
     subst h
     exact run (n:=100) (f:=3) (args:=[.lst false 1 a0,.v (.float .f32 a1),I a2]) (orc:=[.ret (B t1),.br false,.ret (.lst false 1 t3),.ret (.tup [.lst false 2 t4.1,I t4.2]),.ret (I t5),.br true,.ret (.lst false 2 t7),.ret (B t8),.br true,.br true,.ret (B t11)]) (r:=B t11) (ob:=[Computes cx 5 [] (B t11),(t4.2 == t5)=true,t8=true,Computes cx 10 [.lst false 2 t4.1,.lst false 2 t7] (B t8),Computes cx 9 [.lst false 1 a0,.v (.float .f32 a1),I a2] (.lst false 2 t7),(t5 == 0)=true,Computes cx 8 [.lst false 1 a0,.v (.float .f32 a1),I a2] (I t5),Computes cx 6 [.lst false 1 t3,.v (.float .f32 a1),I a2] (.tup [.lst false 2 t4.1,I t4.2]),Computes cx 7 [.lst false 1 a0] (.lst false 1 t3),(!t1)=false,Computes cx 4 [.lst false 1 a0] (B t1)]) (Yq a0 a1 a2 t1 t3 t4 t5 t7 t8 t11) ⟨(W7 h11),(eqt h10),h9,(ZS h8),(UI h7),(eqt h6),(ZN h5),(WY h4),(VC h3),(U7 h2),(Zj h1),trivial⟩
    ·replace h:=Qm h h10
     cases h
   ·replace h:=Qm h h9
    cases h
  ·replace h:=Qm h h6
   obtain ⟨t7,h7,h⟩:=Qg h
   by_cases h8:t7=true
   ·replace h:=Ql h h8
    by_cases h9:t4.2=t5
    ·replace h:=Ql h h9
     obtain ⟨t10,h10,h⟩:=Qg h
     replace h:=Option.some.inj h
     subst h
     exact run (n:=100) (f:=3) (args:=[.lst false 1 a0,.v (.float .f32 a1),I a2]) (orc:=[.ret (B t1),.br false,.ret (.lst false 1 t3),.ret (.tup [.lst false 2 t4.1,I t4.2]),.ret (I t5),.br false,.ret (B t7),.br true,.br true,.ret (B t10)]) (r:=B t10) (ob:=[Computes cx 5 [] (B t10),(t4.2 == t5)=true,t7=true,Computes cx 10 [.lst false 2 t4.1,.lst true 0 []] (B t7),(t5 == 0)=false,Computes cx 8 [.lst false 1 a0,.v (.float .f32 a1),I a2] (I t5),Computes cx 6 [.lst false 1 t3,.v (.float .f32 a1),I a2] (.tup [.lst false 2 t4.1,I t4.2]),Computes cx 7 [.lst false 1 a0] (.lst false 1 t3),(!t1)=false,Computes cx 4 [.lst false 1 a0] (B t1)]) (Yp a0 a1 a2 t1 t3 t4 t5 t7 t10) ⟨(W7 h10),(eqt h9),h8,((ZS h7).le (.cons (.refl _) (.cons (.nilF) (.nil))) (.refl _)),(eqf h6),(ZN h5),(WY h4),(VC h3),(U7 h2),(Zj h1),trivial⟩
    ·replace h:=Qm h h9
     cases h
   ·replace h:=Qm h h8
    cases h
 ·replace h:=Qm h h2
  obtain ⟨t3,h3,h⟩:=Qg h
  replace h:=Option.some.inj h
  subst h
  exact run (n:=100) (f:=3) (args:=[.lst false 1 a0,.v (.float .f32 a1),I a2]) (orc:=[.ret (B t1),.br true,.ret (B t3)]) (r:=B t3) (ob:=[Computes cx 5 [] (B t3),(!t1)=true,Computes cx 4 [.lst false 1 a0] (B t1)]) (JS a0 a1 a2 t1 t3) ⟨(W7 h3),(jV (QI h2)),(Zj h1),trivial⟩
set_option maxRecDepth 20000
open Ieee
def ZA:List Int→Int
 | []=>0
 | x::l=>if x=0 then ZA l else x
theorem Qcu (x:Int):XV (I x)=some x:=rfl
def fG (s:Nat) (x:Int):Nat⊕(Int⊕Unit):=if x=0 then .inl (s+1) else .inr (.inl x)
theorem QbG:∀ (ms:List Int) (s:Nat),JG fG (fun _=>(.inr ():Int⊕Unit)) ms s=(if ZA ms=0 then .inr () else .inl (ZA ms))
 | [],s=>rfl
 | x::l,s=>by
  unfold JG fG ZA
  by_cases h:x=0
  ·rw [if_pos h,if_pos h];exact QbG l (s+1)
  ·rw [if_neg h,if_neg h,if_neg h]
theorem uV {α β:Type} {f:α→β} {l:List α} {i:Nat} {x:α} (h:l[i]?=some x):(i:Int) < ((l.map f).length:Int):=by
 have:=(List.getElem?_eq_some_iff.1 h).1
 rw [List.length_map];omega
theorem E9 {L:List D→Int→Option (Int⊕(Int⊕Unit))} {ms:List Int} (hL:∀ (a:List D) (s:Int),L a s=if s < (a.length:Int) then (el XV a s).bind fun t=>if t=0 then (if Qa (s+1) then some (.inl (s+1)) else none) else some (.inr (.inl t)) else some (.inr (.inr ())))
  {n:Nat} (hn:100≤n) (hm:ms.length≤90) :
  ((Q2 (L (ms.map I)) n 0).bind fun t1=>match t1 with | (.inl t1)=>some t1 | (.inr t1)=>some 0)=some (ZA ms):=by
 have h:=Yj (step:=L (ms.map I)) fG (fun _=>(.inr ():Int⊕Unit)) (fun i _=>(i:Int)) ms (fun i s=>True)
  (fun i s x hx _=>by
   have e:=hL (ms.map I) (i:Int)
   rw [if_pos (uV hx),we Qcu hx,Option.bind_some] at e
   have hi:=(List.getElem?_eq_some_iff.1 hx).1
   unfold fG
   by_cases h0:x=0
   ·rw [if_pos h0] at e ⊢
    rw [if_pos (by unfold Qa;omega)] at e
    exact ⟨e,trivial⟩
   ·rw [if_neg h0] at e ⊢
    exact e)
  (fun s _=>by rw [hL,if_neg (by simp)]) (k:=n) (s:=0) trivial (by omega)
 have h' : Q2 (L (ms.map I)) n 0=some (JG fG (fun _=>(.inr ():Int⊕Unit)) ms 0):=h
 rw [h',QbG,Option.bind_some]
 by_cases h0:ZA ms=0
 ·rw [if_pos h0,h0]
 ·rw [if_neg h0]
theorem Ea {n:Nat} (hn:100≤n) (ms:List Int) (hm:ms.length≤90):Qr n (ms.map I)=some (ZA ms):=by
 unfold Qr
 exact E9 (L:=fun a s=>Wb n a s) (fun a s=>by unfold Wb;rfl) hn hm
theorem Qay {n:Nat} (hn:100≤n) (ms:List Int) (hm:ms.length≤90):W9 n (ms.map I)=some (ZA ms):=by
 unfold W9
 exact E9 (L:=fun a s=>Z9 n a s) (fun a s=>by unfold Z9;rfl) hn hm
theorem Qal {n:Nat} (hn:100≤n) (ms:List Int) (hm:ms.length≤90):W8 n (ms.map I)=some (ZA ms):=by
 unfold W8
 exact E9 (L:=fun a s=>Z8 n a s) (fun a s=>by unfold Z8;rfl) hn hm
def inR (x lo hi:Int):Int:=if x < lo then 3 else if x > hi then 3 else 0
theorem wR (n:Nat) (x lo hi:Int):Qy n x lo hi=some (inR x lo hi):=by
 unfold Qy YS QF inR
 by_cases h:x < lo
 ·simp [h]
 ·by_cases h2:x > hi
  ·simp [h,h2]
  ·simp [h,h2]
theorem Qa7 (n:Nat) (x lo hi:Int):ZM n x lo hi=some (inR x lo hi):=by
 unfold ZM Wi VH inR
 by_cases h:x < lo
 ·simp [h]
 ·by_cases h2:x > hi
  ·simp [h,h2]
  ·simp [h,h2]
def chk (b:Nat):Int:=match single.read b with
 | .number _ m e=>if 2 ^ 2010 < Flo.vn m e then 3 else if 2 ^ 2000 ∣ 16 * Flo.vn m e then 0 else 3
 | _=>1
theorem cgt (a b:Int):(some (compare a b) == some Ordering.gt)=decide (b < a):=by
 rcases Int.lt_trichotomy a b with h | h | h
 ·rw [Int.compare_eq_lt.2 h,decide_eq_false (by omega)];rfl
 ·rw [Int.compare_eq_eq.2 h,decide_eq_false (by omega)];rfl
 ·rw [Int.compare_eq_gt.2 h,decide_eq_true h];rfl
theorem clt (a b:Int):(some (compare a b) == some Ordering.lt)=decide (a < b):=by
 rcases Int.lt_trichotomy a b with h | h | h
 ·rw [Int.compare_eq_lt.2 h,decide_eq_true h];rfl
 ·rw [Int.compare_eq_eq.2 h,decide_eq_false (by omega)];rfl
 ·rw [Int.compare_eq_gt.2 h,decide_eq_false (by omega)];rfl
theorem Qcl:single.read 1149239296=.number false 8388608 (-13):=by decide
theorem Qa5:single.read 3296722944=.number true 8388608 (-13):=by decide
theorem rmax:single.read 2139095039=.number false 16777215 104:=by decide
theorem Qck:single.read 4286578687=.number true 16777215 104:=by decide
theorem Qcg:Flo.vn 8388608 (-13)=2 ^ 2010:=by
 have h:∀ k j:Nat,j=k+23→8388608 * 2 ^ k=2 ^ j:=fun k j e=>by rw [e,Nat.pow_add];omega
 unfold Flo.vn
 rw [show ((-13:Int)+2000).toNat=1987 by decide]
 have q:=h 1987 2010 rfl
 exact q
theorem QbN {b:Nat} {s:Bool} {m:Nat} {e:Int} (h:single.read b=.number s m e):(single.order b 1149239296 == some .gt)=(!s && decide (2 ^ 2010 < Flo.vn m e)):=by
 obtain ⟨_,h2,_⟩:=Flo.read_num h
 unfold Format.order
 rw [h,Qcl,Flo.order_val (by omega) (by omega),cgt,Flo.V_eq,Flo.V_eq,Qcg]
 generalize Flo.vn m e=v
 cases s
 ·simp only [Bool.false_eq_true,if_false,Bool.not_false,Bool.true_and,decide_eq_decide];omega
 ·simp only [if_true,Bool.false_eq_true,if_false,Bool.not_true,Bool.false_and,decide_eq_false_iff_not];omega
theorem QbM {b:Nat} {s:Bool} {m:Nat} {e:Int} (h:single.read b=.number s m e):(single.order b 3296722944 == some .lt)=(s && decide (2 ^ 2010 < Flo.vn m e)):=by
 obtain ⟨_,h2,_⟩:=Flo.read_num h
 unfold Format.order
 rw [h,Qa5,Flo.order_val (by omega) (by omega),clt,Flo.V_eq,Flo.V_eq,Qcg]
 generalize Flo.vn m e=v
 cases s
 ·simp only [Bool.false_eq_true,if_false,if_true,Bool.false_and,decide_eq_false_iff_not];omega
 ·simp only [if_true,Bool.true_and,decide_eq_decide];omega
theorem Qb3 {b:Nat} {s:Bool} {m:Nat} {e:Int} (h:single.read b=.number s m e):(single.order b 2139095039 == some .gt)=false∧(single.order b 4286578687 == some .lt)=false∧(single.order b b != some .eq)=false:=by
 obtain ⟨h1,h2,h3⟩:=Flo.read_num h
 have hv:Flo.vn m e≤Flo.vn 16777215 104:=by
  unfold Flo.vn
  exact Nat.mul_le_mul (by omega) (Nat.pow_le_pow_right (by decide) (by omega))
 unfold Format.order
 rw [h,rmax,Qck,Flo.order_val (by omega) (by omega),Flo.order_val (by omega) (by omega),Flo.order_val (by omega) (by omega),cgt,clt,Int.compare_eq_eq.2 rfl,Flo.V_eq,Flo.V_eq,Flo.V_eq]
 generalize Flo.vn m e=v at *
 generalize Flo.vn 16777215 104=u at *
 refine ⟨?_,?_,rfl⟩
 ·cases s <;> simp only [Bool.false_eq_true,if_false,if_true,decide_eq_false_iff_not] <;> omega
 ·cases s <;> simp only [Bool.false_eq_true,if_false,if_true,decide_eq_false_iff_not] <;> omega
theorem uP:Op.negFloat .f32 1149239296=3296722944:=by decide
theorem Qbr (n:Nat) (b:Bool) (k:Int):F_light_when n b k=some (if b=true then k else 0):=by
 unfold F_light_when;cases b <;> rfl
theorem Qa9 (n:Nat) (b:Bool) (k:Int):P.F_light_when n b k=some (if b=true then k else 0):=by
 unfold P.F_light_when;cases b <;> rfl
theorem Qbw {n b:Nat} {s:Bool} {m:Nat} {e:Int} (h:single.read b=.number s m e):Zf n b 1149239296=some (chk b):=by
 unfold Zf
 rw [show FloatKind.f32.decode b=.number s m e from h,if_neg (by simp [Datum.isNaN])]
 unfold P.F_light_onGrid_2 chk
 rw [h,uP]
 simp only
 change (if (single.order b 3296722944 == some .lt)=true then _ else if (single.order b 1149239296 == some .gt)=true then _ else _)=_
 rw [QbM h,QbN h]
 by_cases hb:2 ^ 2010 < Flo.vn m e
 ·rw [if_pos hb,decide_eq_true hb]
  cases s
  ·rw [if_neg (by simp),if_pos (by simp)];rfl
  ·rw [if_pos (by simp)];rfl
 ·rw [if_neg hb,decide_eq_false hb,Bool.and_false,Bool.and_false,if_neg (by simp),if_neg (by simp)]
  obtain ⟨y,q,p,y1,y2,y3,y4,y5⟩:=Flo.mul16 h (by omega)
  obtain ⟨r,t,z,z1,z2,z3,z4⟩:=Flo.prog_eq y2 y4 y3 (by rw [y5];omega)
  rw [y1]
  simp only [Option.isSome_some,if_true,Option.getD_some]
  rw [z1]
  simp only [Option.isSome_some,if_true,Option.getD_some]
  rw [show K5 n r=some t from z2,Option.bind_some,z3]
  simp only [Option.isSome_some,if_true,Option.getD_some]
  rw [Qa9,Option.bind_some]
  change some (if (single.order z y != some .eq)=true then (3:Int) else 0)=_
  rw [z4,y5]
  by_cases hd:2 ^ 2000 ∣ 16 * Flo.vn m e
  ·rw [decide_eq_true hd,if_pos hd];rfl
  ·rw [decide_eq_false hd,if_neg hd];rfl
theorem Qbx {n b:Nat} {s:Bool} (h:single.read b=.infinity s):Zf n b 1149239296=some 3:=by
 unfold Zf
 rw [show FloatKind.f32.decode b=.infinity s from h,if_neg (by simp [Datum.isNaN])]
 unfold P.F_light_onGrid_2
 rw [uP]
 change (if (single.order b 3296722944 == some .lt)=true then _ else if (single.order b 1149239296 == some .gt)=true then _ else _)=_
 unfold Format.order
 rw [h,Qcl,Qa5]
 cases s <;> rfl
theorem wh {n:Nat} (hn:100≤n) (b:Nat):QT n b=some (chk b):=by
 have key:∀ g,Zf n b 1149239296=some g→ZA [if (!Gs b)=true then 1 else 0,g]=chk b→QT n b=some (chk b):=by
  intro g hg hf
  unfold QT V0
  rw [Option.bind_some,Qbr,Option.bind_some,hg,Option.bind_some,show ([I (if (!Gs b)=true then 1 else 0),I g]:List D)=[if (!Gs b)=true then 1 else 0,g].map I from rfl,Qay hn _ (by simp),Option.bind_some,hf]
 unfold Gs at key
 cases h:single.read b with
 | nan s t =>
  rw [show FloatKind.f32.decode b=.nan s t from h] at key
  refine key 3 ?_ ?_
  ·unfold Zf
   rw [show FloatKind.f32.decode b=.nan s t from h];rfl
  ·unfold chk;rw [h];rfl
 | infinity s =>
  rw [show FloatKind.f32.decode b=.infinity s from h] at key
  refine key 3 (Qbx h) ?_
  unfold chk;rw [h];rfl
 | number s m e =>
  rw [show FloatKind.f32.decode b=.number s m e from h] at key
  refine key _ (Qbw h) ?_
  show (if (0:Int)=0 then ZA [chk b] else 0)=chk b
  rw [if_pos rfl]
  unfold ZA ZA
  by_cases h0:chk b=0
  ·rw [if_pos h0,h0]
  ·rw [if_neg h0]
theorem Qa3 (n:Nat) (b:Bool) (k:Int):Wi n b k=some (if b=true then k else 0):=by
 unfold Wi;cases b <;> rfl
theorem Qbj:FloatKind.nearest .f32 1024=1149239296:=by decide
theorem QbY:fop .sub .f32 0 1149239296=some 3296722944:=by decide
theorem QbZ {n b:Nat} {s:Bool} {m:Nat} {e:Int} (h:single.read b=.number s m e):Q7 n b 1024=some (chk b):=by
 obtain ⟨m1,m2,m3⟩:=Qb3 h
 unfold Q7 chk
 rw [h,Qbj,QbY]
 simp only [Option.isSome_some,if_true,Option.getD_some]
 change (if (single.order b b != some .eq)=true then _ else if (single.order b 2139095039 == some .gt)=true then _ else if (single.order b 4286578687 == some .lt)=true then _ else if (single.order b 1149239296 == some .gt)=true then _ else if (single.order b 3296722944 == some .lt)=true then _ else _)=_
 rw [m1,m2,m3,if_neg (by decide),if_neg (by decide),if_neg (by decide),QbN h,QbM h]
 by_cases hb:2 ^ 2010 < Flo.vn m e
 ·rw [if_pos hb,decide_eq_true hb]
  cases s
  ·rw [if_pos (by simp)]
  ·rw [if_neg (by simp),if_pos (by simp)]
 ·rw [if_neg hb,decide_eq_false hb,Bool.and_false,Bool.and_false,if_neg (by simp),if_neg (by simp)]
  obtain ⟨y,q,p,y1,y2,y3,y4,y5⟩:=Flo.mul16 h (by omega)
  obtain ⟨z,z1,z4⟩:=Flo.ref_eq y2 y3 (by rw [y5];omega)
  rw [y1]
  simp only [Option.isSome_some,if_true,Option.getD_some]
  rw [z1]
  simp only [Option.isSome_some,if_true,Option.getD_some]
  rw [Qa3,Option.bind_some]
  change some (if (single.order (FloatKind.nearest .f32 z) y != some .eq)=true then (3:Int) else 0)=_
  rw [z4,y5]
  by_cases hd:2 ^ 2000 ∣ 16 * Flo.vn m e
  ·rw [decide_eq_true hd,if_pos hd];rfl
  ·rw [decide_eq_false hd,if_neg hd];rfl
theorem ref_eq (n b:Nat):Zg n b=some (chk b):=by
 unfold Zg
 have key:Q7 n b 1024=some (chk b):=by
  cases h:single.read b with
  | number s m e=>exact QbZ h
  | nan s t =>
   unfold Q7 chk
   rw [h]
   have e:single.order b b=none:=by unfold Format.order;rw [h];rfl
   change (if (single.order b b != some .eq)=true then _ else _)=_
   rw [e];rfl
  | infinity s =>
   unfold Q7 chk
   rw [h]
   change (if (single.order b b != some .eq)=true then _ else if (single.order b 2139095039 == some .gt)=true then _ else if (single.order b 4286578687 == some .lt)=true then _ else _)=_
   unfold Format.order
   rw [h,rmax,Qck]
   cases s <;> rfl
 rw [key,Option.bind_some]
theorem yF {b:Nat} (h:chk b=0):single.order b b=some .eq:=by
 unfold chk at h
 cases hb:single.read b with
 | number s m e =>
  obtain ⟨_,h2,_⟩:=Flo.read_num hb
  unfold Format.order
  rw [hb,Flo.order_val (by omega) (by omega),Int.compare_eq_eq.2 rfl]
 | nan s t=>rw [hb] at h;cases h
 | infinity s=>rw [hb] at h;cases h
theorem ql:Wq 5000=some true:=by kernel_rfl
theorem unff (x:Nat):Gn (Ze x)=some x:=rfl
theorem unAi (x:Int×Int):Kt (ZR x)=some x:=rfl
def Ev:List Nat→Int
 | []=>0
 | b::l=>if chk b=0 then Ev l else chk b
theorem wg:∀ bs:List Nat,ZA (bs.map chk)=Ev bs
 | []=>rfl
 | b::l=>by
  show (if chk b=0 then ZA (l.map chk) else chk b)=_
  unfold Ev
  rw [wg l]
def mG (s:Nat×List Int) (b:Nat):(Nat×List Int)⊕(List D):=.inl (s.1+1,s.2++[chk b])
theorem Qbq:∀ (bs:List Nat) (s:Nat×List Int),JG mG (fun s=>s.2.map I) bs s=(s.2++bs.map chk).map I
 | [],s=>by simp [JG]
 | b::l,s=>by
  show JG mG (fun s=>s.2.map I) l (s.1+1,s.2++[chk b])=_
  rw [Qbq l];simp
theorem jk {n:Nat} (hn:100≤n) (bs:List Nat) (hb:bs.length≤90):Zn n (bs.map Ze)=some ((bs.map chk).map I):=by
 unfold Zn
 have h:=Yj (step:=QU n (bs.map Ze)) mG (fun s=>s.2.map I) (fun i s=>((i:Int),s.2.map I)) bs (fun i s=>s.2.length=i)
  (fun i s x hx hs=>by
   have hi:=(List.getElem?_eq_some_iff.1 hx).1
   unfold mG QU
   dsimp only
   rw [if_pos (uV hx),we unff hx,Option.bind_some,wh hn,Option.bind_some,if_pos (by unfold ZZ;rw [List.length_map];omega),if_pos (by unfold Qa;omega),List.map_append]
   exact ⟨rfl,by rw [List.length_append];simp;omega⟩)
  (fun s hs=>by unfold QU;rw [if_neg (by simp)]) (k:=n) (s:=(0,[])) rfl (by omega)
 have h' : Q2 (QU n (bs.map Ze)) n (0,[])=_:=h
 rw [h',Qbq]
 rfl
def sG (s:Nat) (b:Nat):Nat⊕(Int⊕Unit):=if chk b=0 then .inl (s+1) else .inr (.inl (chk b))
theorem Qa2:∀ (bs:List Nat) (s:Nat),JG sG (fun _=>(.inr ():Int⊕Unit)) bs s=(if Ev bs=0 then .inr () else .inl (Ev bs))
 | [],s=>rfl
 | b::l,s=>by
  unfold JG sG Ev
  by_cases h:chk b=0
  ·rw [if_pos h,if_pos h];exact Qa2 l (s+1)
  ·rw [if_neg h,if_neg h,if_neg h]
theorem yS {n:Nat} (hn:100≤n) (bs:List Nat) (hb:bs.length≤90):Zy n (bs.map Ze)=some (Ev bs):=by
 unfold Zy
 have h:=Yj (step:=QL n (bs.map Ze)) sG (fun _=>(.inr ():Int⊕Unit)) (fun i _=>(i:Int)) bs (fun i s=>True)
  (fun i s x hx _=>by
   have hi:=(List.getElem?_eq_some_iff.1 hx).1
   unfold sG QL
   rw [if_pos (uV hx),we unff hx,Option.bind_some,ref_eq,Option.bind_some]
   by_cases h0:chk x=0
   ·rw [if_pos h0,if_pos h0,if_pos (by unfold Qa;omega)]
    exact ⟨rfl,trivial⟩
   ·rw [if_neg h0,if_neg h0])
  (fun s _=>by unfold QL;rw [if_neg (by simp)]) (k:=n) (s:=0) trivial (by omega)
 have h' : Q2 (QL n (bs.map Ze)) n 0=_:=h
 rw [h',Qa2,Option.bind_some]
 by_cases h0:Ev bs=0
 ·rw [if_pos h0,h0]
 ·rw [if_neg h0]
def Uu (bs:List Nat) (lim:Nat) (least:Int):Int:=ZA [Ev bs,chk lim,inR least 1 4096]
theorem qk {bs:List Nat} {lim:Nat} {least:Int} (h:Uu bs lim least=0):Ev bs=0∧chk lim=0∧1≤least:=by
 unfold Uu ZA ZA ZA ZA at h
 split at h
 ·rename_i h1
  split at h
  ·rename_i h2
   split at h
   ·rename_i h3
    refine ⟨h1,h2,?_⟩
    unfold inR at h3
    split at h3
    ·cases h3
    ·omega
   ·rename_i h3;exact absurd h h3
  ·rename_i h2;exact absurd h h2
 ·rename_i h1;exact absurd h h1
theorem za {n:Nat} (hn:100≤n) (bs:List Nat) (hb:bs.length≤90) (lim:Nat) (least:Int):QJ n (bs.map Ze) lim least=some (Uu bs lim least):=by
 unfold QJ
 rw [if_neg (by rw [List.length_map];omega),yS hn bs hb,Option.bind_some,ref_eq,Option.bind_some,Qa7,Option.bind_some,
  show ([I (Ev bs),I (chk lim),I (inR least 1 4096)]:List D)=[Ev bs,chk lim,inR least 1 4096].map I from rfl,Qal hn _ (by simp),Option.bind_some]
 rfl
def Z6 (lim b:Nat):Bool:=(FloatKind.format .f32).order b lim == some .gt
def oG (least:Int) (s:Int×Int×List (Int×Int)) (f:Bool):(Int×Int×List (Int×Int))⊕(List D) :=
 if f=true then .inl (s.1,s.2.1+1,s.2.2) else .inl (s.2.1+1,s.2.1+1,if s.2.1 - s.1 ≥ least then s.2.2++[(s.1,s.2.1)] else s.2.2)
def oI (i:Nat) (s:Int×Int×List (Int×Int)):Prop:=s.2.1=i∧0≤s.1∧s.1≤i∧s.2.2.length≤i
theorem Qb2 {least:Int} {i:Nat} {s:Int×Int×List (Int×Int)} (h:oI i s) (f:Bool):∃ s',oG least s f=.inl s'∧oI (i+1) s':=by
 obtain ⟨h1,h2,h3,h4⟩:=h
 unfold oG
 cases f
 ·refine ⟨_,if_neg (by simp),?_⟩
  refine ⟨by dsimp only;omega,by dsimp only;omega,by dsimp only;omega,?_⟩
  dsimp only
  split
  ·rw [List.length_append];simp;omega
  ·omega
 ·exact ⟨_,if_pos rfl,by dsimp only;omega,h2,by dsimp only;omega,by dsimp only;omega⟩
def encS (s:Int×Int×List (Int×Int)):Int×Int×List D:=(s.1,s.2.1,s.2.2.map ZR)
def oR (least:Int) (s:Int×Int×List D) (f:Bool):Option ((Int×Int×List D)⊕(List D)) :=
 if f=true then (if Qa (s.2.1+1) then some (.inl (s.1,s.2.1+1,s.2.2)) else none)
 else if Qa (s.2.1 - s.1) then (if s.2.1 - s.1 ≥ least then (if ZZ 16 (s.2.2.length+1) then (if Qa (s.2.1+1) then some (.inl (s.2.1+1,s.2.1+1,s.2.2++([.agg [I s.1,I s.2.1]]:List D))) else none) else none)
  else (if Qa (s.2.1+1) then some (.inl (s.2.1+1,s.2.1+1,s.2.2)) else none)) else none
theorem QcK {least:Int} {i:Nat} {s:Int×Int×List (Int×Int)} (h:oI i s) (hi:i≤1000) (f:Bool):∃ s',oG least s f=.inl s'∧oR least (encS s) f=some (.inl (encS s')):=by
 obtain ⟨h1,h2,h3,h4⟩:=h
 unfold oG oR encS
 dsimp only
 cases f
 ·refine ⟨_,if_neg (by simp),?_⟩
  rw [if_neg (by simp),if_pos (by unfold Qa;omega)]
  by_cases hl:s.2.1 - s.1 ≥ least
  ·rw [if_pos hl,if_pos (by unfold ZZ;rw [List.length_map];omega),if_pos (by unfold Qa;omega)]
   dsimp only
   rw [if_pos hl,List.map_append];rfl
  ·rw [if_neg hl,if_pos (by unfold Qa;omega)]
   dsimp only
   rw [if_neg hl]
 ·refine ⟨_,if_pos rfl,?_⟩
  rw [if_pos rfl,if_pos (by unfold Qa;omega)]
def wW (least:Int) (fs:List Bool):List D:=JG (oG least) (fun s=>s.2.2.map ZR) fs (0,0,[])
theorem wV (least:Int):∀ (fs:List Bool) (s:Int×Int×List (Int×Int)),∃ T:List (Int×Int),JG (oG least) (fun s=>s.2.2.map ZR) fs s=T.map ZR∧T.length≤s.2.2.length+fs.length
 | [],s=>⟨s.2.2,rfl,by simp⟩
 | f::l,s=>by
  have key:∃ s',oG least s f=.inl s'∧s'.2.2.length≤s.2.2.length+1:=by
   unfold oG
   cases f
   ·refine ⟨_,if_neg (by simp),?_⟩
    dsimp only
    split
    ·rw [List.length_append];simp
    ·omega
   ·exact ⟨_,if_pos rfl,by dsimp only;omega⟩
  obtain ⟨s',h1,h2⟩:=key
  obtain ⟨T,h3,h4⟩:=wV least l s'
  refine ⟨T,?_,by rw [List.length_cons];omega⟩
  rw [← h3]
  simp only [JG,h1]
theorem ym {L:Int×Int×List D→Option ((Int×Int×List D)⊕(List D))} {least:Int} (fs:List Bool) (hf:fs.length≤900)
  (hL:∀ (i:Nat) (f:Bool) (s:Int×Int×List D),s.2.1=i→fs[i]?=some f→L s=oR least s f) (hE:∀ s:Int×Int×List D,s.2.1=(fs.length:Int)→L s=some (.inr s.2.2)) {n:Nat} (hn:fs.length < n) :
  Q2 L n (0,0,[])=some (wW least fs):=by
 have h:=Yj (step:=L) (oG least) (fun s=>s.2.2.map ZR) (fun _ s=>encS s) fs oI
  (fun i s x hx hs=>by
   have hi:=(List.getElem?_eq_some_iff.1 hx).1
   obtain ⟨s1,g1,g2⟩:=QcK (least:=least) hs (by omega) x
   obtain ⟨s2,g3,g4⟩:=Qb2 (least:=least) hs x
   rw [g1] at g3;cases g3
   rw [g1]
   exact ⟨(hL i x (encS s) hs.1 hx).trans g2,g4⟩)
  (fun s hs=>hE (encS s) hs.1) (k:=n) (s:=(0,0,[])) ⟨rfl,by omega,by simp,by simp⟩ hn
 exact h
theorem jq {lim:Nat} {bs:List Nat} {i:Nat} {f:Bool} (h:(bs.map (Z6 lim)++[false])[i]?=some f):(i < bs.length∧∃ b,bs[i]?=some b∧f=Z6 lim b) ∨ (i=bs.length∧f=false):=by
 by_cases hi:i < bs.length
 ·rw [List.getElem?_append_left (by rw [List.length_map];exact hi),List.getElem?_map] at h
  obtain ⟨b,h1,h2⟩:=Option.map_eq_some_iff.1 h
  exact .inl ⟨hi,b,h1,h2.symm⟩
 ·have hl:=(List.getElem?_eq_some_iff.1 h).1
  rw [List.length_append,List.length_map,List.length_singleton] at hl
  have:i=bs.length:=by omega
  subst this
  rw [List.getElem?_append_right (by rw [List.length_map];omega),List.length_map,Nat.sub_self] at h
  cases h
  exact .inr ⟨rfl,rfl⟩
theorem uL {n:Nat} (hn:100≤n) (bs:List Nat) (hb:bs.length≤90) (lim:Nat) (least:Int):ZC n (bs.map Ze) lim least=some (wW least (bs.map (Z6 lim)++[false])):=by
 unfold ZC
 rw [ym (L:=Zd n (bs.map Ze) lim least) (least:=least) (bs.map (Z6 lim)++[false]) (by simp;omega) ?_ ?_ (by simp;omega),Option.bind_some]
 ·intro i f s hs hf
  unfold Zd oR
  rw [List.length_map,hs]
  rcases jq hf with ⟨h1,b,h2,rfl⟩ | ⟨h1,rfl⟩
  ·rw [if_pos (by omega),if_pos (by omega),we unff h2,Option.bind_some]
   rfl
  ·rw [if_pos (by omega),if_neg (by omega),if_neg (show ¬ (false=true) by decide)]
 ·intro s hs
  unfold Zd
  rw [if_neg (by rw [hs];simp;omega)]
theorem Qba {n:Nat} (hn:100≤n) (bs:List Nat) (hb:bs.length≤90) (lim:Nat) (least:Int) (hl:Z6 lim lim=false):Q2 (QR n (bs.map Ze) lim least) n (0,0,[])=some (wW least (bs.map (Z6 lim)++[false])):=by
 refine ym (L:=QR n (bs.map Ze) lim least) (least:=least) (bs.map (Z6 lim)++[false]) (by simp;omega) ?_ ?_ (by simp;omega)
 ·intro i f s hs hf
  unfold QR oR
  rw [hs,List.length_append,List.length_map,List.length_singleton,Int.toNat_natCast,zM]
  rcases jq hf with ⟨h1,b,h2,rfl⟩ | ⟨h1,rfl⟩
  ·rw [if_pos (by omega),if_pos (by omega),List.getElem?_append_left (by rw [List.length_map];exact h1),List.getElem?_map,h2]
   rfl
  ·rw [if_pos (by omega),if_pos (by omega),List.getElem?_append_right (by rw [List.length_map];omega),List.length_map,h1,Nat.sub_self]
   change (if Z6 lim lim=true then _ else _)=_
   rw [hl]
 ·intro s hs
  unfold QR
  rw [if_neg (by rw [hs];simp)]
theorem jS {n:Nat} (hn:100≤n) (bs:List Nat) (hb:bs.length≤90) (h0:bs≠[]) (lim:Nat) (least:Int):QS n (bs.map Ze) lim least=some (if Uu bs lim least=0 then wW least (bs.map (Z6 lim)++[false]) else [],Uu bs lim least):=by
 unfold QS
 rw [if_neg (by rw [List.length_map];omega),jk hn bs hb,Option.bind_some,Ea hn (bs.map chk) (by rw [List.length_map];exact hb),Option.bind_some,wg,wh hn,Option.bind_some,wR,Option.bind_some,
  show ([I (Ev bs),I (chk lim),I (inR least 1 4096)]:List D)=[Ev bs,chk lim,inR least 1 4096].map I from rfl,Ea hn _ (by simp),Option.bind_some]
 change (if Uu bs lim least=0 then _ else some ([],Uu bs lim least))=_
 by_cases h:Uu bs lim least=0
 ·rw [if_pos h,if_pos h,h]
  have hz:=qk h
  have hl:Z6 lim lim=false:=by
   unfold Z6
   change (single.order lim lim == some .gt)=false
   rw [yF hz.2.1];rfl
  rw [if_neg (by cases bs with | nil=>exact absurd rfl h0 | cons b l=>simp [Zl]),if_pos (by unfold ZZ;rw [List.length_map];omega),if_pos (by unfold ZZ;rw [List.length_map];omega),Qba hn bs hb lim least hl]
  rfl
 ·rw [if_neg h,if_neg h]
theorem zL {n:Nat} (a:List D) (h:(a.length:Int) > 4096) (lim:Nat) (least:Int):QS n a lim least=some ([],5)∧QJ n a lim least=some 5:=by
 unfold QS QJ
 exact ⟨if_pos h,if_pos h⟩
theorem zx {n:Nat} (T:List (Int×Int)) (hT:T.length < n) (hn:T.length≤1000):QM n (T.map ZR) (T.map ZR)=some true:=by
 unfold QM
 rw [if_pos rfl]
 have h:=Yj (step:=QZ n (T.map ZR) (T.map ZR)) (fun (s:Nat) (_:Int×Int)=>(.inl (s+1):Nat⊕(Unit⊕Unit))) (fun _=>.inr ()) (fun i _=>(i:Int)) T (fun i s=>True)
  (fun i s x hx _=>by
   have hi:=(List.getElem?_eq_some_iff.1 hx).1
   unfold QZ
   dsimp only
   rw [if_pos (uV hx),we unAi hx,Option.bind_some,Option.bind_some,if_pos (by simp),if_pos (by unfold Qa;omega)]
   exact ⟨rfl,trivial⟩)
  (fun s _=>by unfold QZ;rw [if_neg (by simp)]) (k:=n) (s:=0) trivial hT
 have h' : Q2 (QZ n (T.map ZR) (T.map ZR)) n 0=_:=h
 rw [h',Option.bind_some]
 have run:∀ (l:List (Int×Int)) (s:Nat),JG (fun (s:Nat) (_:Int×Int)=>(.inl (s+1):Nat⊕(Unit⊕Unit))) (fun _=>(.inr ():Unit⊕Unit)) l s=.inr ():=by
  intro l
  induction l with
  | nil=>intro s;rfl
  | cons x l ih=>intro s;exact ih (s+1)
 rw [run]
theorem QaF (n:Nat) (a:List D) (h:a.length≤5000) (h0:a≠[]):Wa n a=some a:=by
 unfold Wa
 rw [if_pos (by unfold ZZ;omega),if_neg (by cases a with | nil=>exact absurd rfl h0 | cons b l=>simp [Zl])]
theorem Qa0 (n:Nat) (a:List D):Q8 n a=some (decide (a.length≤20 ∨ a.length=4097)):=by
 unfold Q8
 by_cases h:a.length≤20
 ·rw [if_pos (by omega),decide_eq_true (.inl h)]
 ·rw [if_neg (by omega)]
  by_cases h2:a.length=4097
  ·rw [decide_eq_true (.inr h2),h2];rfl
  ·rw [decide_eq_false (by omega)]
   congr 1
   simp only [beq_eq_false_iff_ne,ne_eq];omega
theorem zS (bs:List Nat) (h0:bs≠[]) (lim:Nat) (least:Int):Wj 5000 (bs.map Ze) lim least=some true:=by
 have h0' : bs.map Ze≠[]:=by simpa using h0
 unfold Wj
 rw [Qa0,Option.bind_some,List.length_map]
 by_cases hs:bs.length≤20 ∨ bs.length=4097
 ·rw [decide_eq_true hs,if_pos rfl,QaF _ _ (by rw [List.length_map];omega) h0',Option.bind_some]
  rcases hs with hs | hs
  ·rw [jS (by decide) bs (by omega) h0,Option.bind_some,za (by decide) bs (by omega),Option.bind_some]
   by_cases hb:Uu bs lim least=0
   ·obtain ⟨T,h1,h2⟩:=wV least (bs.map (Z6 lim)++[false]) (0,0,[])
    have hl:T.length≤21:=by
     rw [List.length_append,List.length_map,List.length_singleton] at h2
     simp only [List.length_nil] at h2;omega
    have hT:wW least (bs.map (Z6 lim)++[false])=T.map ZR:=h1
    rw [if_pos hb,uL (by decide) bs (by omega),Option.bind_some]
    dsimp only
    rw [if_pos hb,hT,zx T (by omega) (by omega),Option.bind_some,if_pos rfl,if_pos rfl,ql]
    rfl
   ·rw [if_neg hb]
    dsimp only
    rw [if_neg hb,show QM 5000 [] []=some true from zx [] (by decide) (by decide),Option.bind_some,if_pos rfl,if_pos rfl,ql]
    rfl
  ·obtain ⟨h1,h2⟩:=zL (n:=5000) (bs.map Ze) (by rw [List.length_map];omega) lim least
   rw [h1,Option.bind_some,h2,Option.bind_some,if_neg (by decide),show QM 5000 [] []=some true from zx [] (by decide) (by decide),Option.bind_some,if_pos rfl,if_pos rfl,ql]
   rfl
 ·rw [decide_eq_false hs,if_neg (by decide),ql]
  rfl
theorem Qbd (lim:Nat) (least:Int):Computes cx 6 [.lst false 1 [],.v (.float .f32 lim),I least] (.tup [.lst false 2 [],I (Uu [] lim least)]):=by
 have hm:Zn 5000 []=some []:=jk (by decide) [] (by decide)
 have hf:Qr 5000 []=some 0:=Ea (by decide) [] (by decide)
 have hc:=wh (n:=5000) (by decide) lim
 have hw:=wR 5000 least 1 4096
 have hl:Qr 5000 [I 0,I (chk lim),I (inR least 1 4096)]=some (Uu [] lim least):=Ea (by decide) [0,chk lim,inR least 1 4096] (by simp)
 by_cases hb:Uu [] lim least=0
 ·have hz:=qk hb
  have ho:((FloatKind.format .f32).order lim lim == some .gt)=false:=by
   change (single.order lim lim == some .gt)=false
   rw [yF hz.2.1];rfl
  rw [hb] at hl ⊢
  exact (run (n:=100) (f:=6) (args:=[.lst false 1 [],.v (.float .f32 lim),I least]) (orc:=[.no,.ret (.lst false 1 []),.ret (I 0),.ret (I (chk lim)),.ret (I (inR least 1 4096)),.ret (I 0),.br false,.ret (.lst true 1 []),.no,.no,.no,.no,.no,.no,.br false,.br false,.no,.no]) (r:=.tup [.lst true 0 [],I 0]) (ob:=[Qa 1,Qa 1,(decide (0 ≥ least))=false,Qa 0,((FloatKind.format .f32).order lim lim == some .gt)=false,Computes cx 33 [.lst false 1 []] (.lst true 1 []),((0:Int) != 0)=false,Computes cx 29 [.lst true 1 [I 0,I (chk lim),I (inR least 1 4096)]] (I 0),Computes cx 32 [I least,I 1,I 4096] (I (inR least 1 4096)),Computes cx 31 [.v (.float .f32 lim)] (I (chk lim)),Computes cx 29 [.lst false 1 []] (I 0),Computes cx 30 [.lst false 1 [],.fn (.func 31) [] []] (.lst false 1 [])]) (by kernel_rfl)
   ⟨by unfold Qa;omega,by unfold Qa;omega,decide_eq_false (by omega),by unfold Qa;omega,ho,zl (n:=0) rfl,rfl,((Qj hl).le (.cons (.full _ _ _) (.nil)) (.refl _)),Qb hw,Zk hc,Qj hf,Wg hm,trivial⟩).le (LEs.refl _) (.tups (.cons (.nilF) (.cons (.refl _) (.nil))))
 ·exact (run (n:=100) (f:=6) (args:=[.lst false 1 [],.v (.float .f32 lim),I least]) (orc:=[.no,.ret (.lst false 1 []),.ret (I 0),.ret (I (chk lim)),.ret (I (inR least 1 4096)),.ret (I (Uu [] lim least)),.br true]) (r:=.tup [.lst true 0 [],I (Uu [] lim least)]) (ob:=[(Uu [] lim least != 0)=true,Computes cx 29 [.lst true 1 [I 0,I (chk lim),I (inR least 1 4096)]] (I (Uu [] lim least)),Computes cx 32 [I least,I 1,I 4096] (I (inR least 1 4096)),Computes cx 31 [.v (.float .f32 lim)] (I (chk lim)),Computes cx 29 [.lst false 1 []] (I 0),Computes cx 30 [.lst false 1 [],.fn (.func 31) [] []] (.lst false 1 [])]) (by kernel_rfl)
   ⟨net hb,((Qj hl).le (.cons (.full _ _ _) (.nil)) (.refl _)),Qb hw,Zk hc,Qj hf,Wg hm,trivial⟩).le (LEs.refl _) (.tups (.cons (.nilF) (.cons (.refl _) (.nil))))
theorem Qaw (lim:Nat) (least:Int):Computes cx 3 [.lst false 1 [],.v (.float .f32 lim),I least] (B true):=by
 have h1:Q8 5000 []=some true:=rfl
 have hf:Wa 5000 []=some []:=rfl
 have hc:QJ 5000 [] lim least=some (Uu [] lim least):=za (by decide) [] (by decide) lim least
 have hs:QM 5000 [] []=some true:=zx [] (by decide) (by decide)
 by_cases hb:Uu [] lim least=0
 ·have hz:=qk hb
  have hr:ZC 5000 [] lim least=some []:=by
   have:=uL (n:=5000) (by decide) [] (by decide) lim least
   rw [show ([]:List Nat).map Ze=[] from rfl] at this
   rw [this]
   unfold wW
   simp only [List.map_nil,List.nil_append,JG,oG]
   rw [if_neg (by decide)]
   dsimp only
   rw [if_neg (by omega)]
   rfl
  exact run (Yq [] lim least true [] ([],Uu [] lim least) (Uu [] lim least) [] true true)
   ⟨W7 ql,eqt rfl,rfl,ZS hs,UI hr,eqt hb,ZN hc,Qbd lim least,VC hf,U7 rfl,Zj h1,trivial⟩
 ·exact run (Yp [] lim least true [] ([],Uu [] lim least) (Uu [] lim least) true true)
   ⟨W7 ql,eqt rfl,rfl,(ZS hs).le (.cons (.refl _) (.cons (.nilF) (.nil))) (.refl _),eqf hb,ZN hc,Qbd lim least,VC hf,U7 rfl,Zj h1,trivial⟩
theorem Qax (bs:List Nat) (lim:Nat) (least:Int):Computes cx 3 [.lst false 1 (bs.map Ze),.v (.float .f32 lim),I least] (B true):=by
 by_cases h:bs=[]
 ·subst h;exact Qaw lim least
 ·exact XC (zS bs h lim least)
theorem zj (Ds:List D) (hh:ud [(false,[.lst false [.flt .f32]]),(false,[.flt .f32]),(false,[.int .i64])] Ds):Computes cx 3 Ds (.v (.bool true)):=by
 obtain ⟨d1,l1_,rfl,p1,hh1⟩:=uc hh
 obtain ⟨es0,rfl,l0,h0⟩:=QcJ (Qbe p1)
 obtain ⟨a0,rfl,b0⟩:=Qbp (enc:=fun x:Nat=>(.v (.float .f32 x):D)) (p:=fun x:Nat=>(Lit.float .f32 x).wf=true) (es:=es0) (fun e he=>by
  obtain ⟨x,rfl,b⟩:=Qco (h0 e he)
  exact ⟨x,rfl,b⟩)
 rw [List.length_map] at l0
 obtain ⟨d2,l2_,rfl,p2,hh2⟩:=uc hh1
 obtain ⟨a1,rfl,h1⟩:=Qco (Qbe p2)
 obtain ⟨d3,l3_,rfl,p3,hh3⟩:=uc hh2
 obtain ⟨a2,rfl,h2⟩:=ok_i (Qbe p3)
 have b2:=QcM h2
 cases Qcw hh3
 exact Qax a0 a1 a2
end Go.Proofs.YtcfmoailaddifaaGreatDoor
