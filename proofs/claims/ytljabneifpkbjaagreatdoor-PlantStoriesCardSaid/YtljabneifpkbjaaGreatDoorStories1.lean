/- Printed by gsx.py: functions of the program as Lean functions, and that the code computes them. -/
import Derived.Test.YtljabneifpkbjaaGreatDoorWake
set_option linter.unusedVariables false
set_option linter.unusedSimpArgs false
set_option linter.unnecessarySimpa false
set_option maxRecDepth 10000
set_option maxHeartbeats 4000000
namespace Go.Proofs.YtljabneifpkbjaaGreatDoor
open Go.SX
def Qd9 (n:Nat) (a0:Int) (a1:ByteArray) (a2 a3:List D) (a4 a5 a6:ByteArray) (a7 a8:Int) (a9 a10:Bool):Option (Bool) :=
 if (a1.toList == (⟨#[115,117,110]⟩:ByteArray).toList)=true then
  some true
 else
 if (a1.toList == (⟨#[102,105,108,108]⟩:ByteArray).toList)=true then
  some true
 else
 if (a1.toList == (⟨#[100,114,97,105,110]⟩:ByteArray).toList)=true then
  some true
 else
 if (a1.toList == (⟨#[116,114,105,112]⟩:ByteArray).toList)=true then
  some true
 else
 if (a1.toList == (⟨#[114,101,115,101,116]⟩:ByteArray).toList)=true then
  some true
 else
 if (a1.toList == (⟨#[115,101,99,116,111,114]⟩:ByteArray).toList)=true then
  (el Ww a2 0).bind fun t7 =>
  some (t7.toList == a6.toList)
 else
 if (a1.toList == (⟨#[100,105,109]⟩:ByteArray).toList)=true then
  (el Ww a2 0).bind fun t8 =>
  some (t8.toList == a6.toList)
 else
 if (a1.toList == (⟨#[111,102,102,101,114]⟩:ByteArray).toList)=true then
  some false
 else
 if (a1.toList == (⟨#[100,101,108,105,118,101,114]⟩:ByteArray).toList)=true then
  some false
 else
 if (a1.toList == (⟨#[98,105,108,108]⟩:ByteArray).toList)=true then
  some false
 else
 (el Ww a2 0).bind fun t11 =>
 some (t11.toList == a5.toList)
theorem Qev {n:Nat} {a0:Int} {a1:ByteArray} {a2 a3:List D} {a4 a5 a6:ByteArray} {a7 a8:Int} {a9 a10:Bool} {r:Bool} (h:Qd9 n a0 a1 a2 a3 a4 a5 a6 a7 a8 a9 a10=some r):Computes cx 85 [.agg [I a0,.v (.string a1),.lst false 1 a2,.lst false 1 a3,.v (.string a4)],.agg [.v (.string a5),.v (.string a6),I a7,I a8,B a9,B a10]] (B r):=by
 unfold Qd9 at h
 rcases io h with ⟨h1,h⟩ | ⟨h1,h⟩
 ·obtain rfl:=oi h
  exact rf [b1,b1] (Qa h1 (Qa h1 QL))
 have q:=Qa (QA h1) QL
 rcases io h with ⟨h2,h⟩ | ⟨h2,h⟩
 ·obtain rfl:=oi h
  exact rf [b0,b1,b1] (Qa h2 (Qa h2 q))
 have q:=Qa (QA h2) q
 let o (l:List Orc):=b0::b0::l
 rcases io h with ⟨h3,h⟩ | ⟨h3,h⟩
 ·obtain rfl:=oi h
  exact rf (o [b1,b1]) (Qa h3 (Qa h3 q))
 have q:=Qa (QA h3) q
 let o l:=o (b0::l)
 rcases io h with ⟨h4,h⟩ | ⟨h4,h⟩
 ·obtain rfl:=oi h
  exact rf (o [b1,b1]) (Qa h4 (Qa h4 q))
 have q:=Qa (QA h4) q
 let o l:=o (b0::l)
 rcases io h with ⟨h5,h⟩ | ⟨h5,h⟩
 ·obtain rfl:=oi h
  exact rf (o [b1]) (Qa h5 q)
 have q:=Qa (QA h5) q
 let o l:=o (b0::l)
 rcases io h with ⟨h6,h⟩ | ⟨h6,h⟩
 ·obtain ⟨t7,h7,h⟩:=bo h
  cases h
  exact rf (o [b1,b1,.el (Zy t7)]) (Qa (Qf Qr h7).1 (Qa (Qf Qr h7).2 (Qa h6 (Qa h6 q))))
 have q:=Qa (QA h6) q
 let o l:=o (b0::l)
 rcases io h with ⟨h7,h⟩ | ⟨h7,h⟩
 ·obtain ⟨t8,h8,h⟩:=bo h
  cases h
  exact rf (o [b1,.el (Zy t8)]) (Qa (Qf Qr h8).1 (Qa (Qf Qr h8).2 (Qa h7 q)))
 have q:=Qa (QA h7) q
 rcases io h with ⟨h8,h⟩ | ⟨h8,h⟩
 ·obtain rfl:=oi h
  exact rf (o [b0,b1,b1]) (Qa h8 (Qa h8 q))
 have q:=Qa (QA h8) q
 let o l:=o (b0::b0::l)
 rcases io h with ⟨h9,h⟩ | ⟨h9,h⟩
 ·obtain rfl:=oi h
  exact rf (o [b1,b1]) (Qa h9 (Qa h9 q))
 have q:=Qa (QA h9) q
 rcases io h with ⟨h10,h⟩ | ⟨h10,h⟩
 ·obtain rfl:=oi h
  exact rf (o [b0,b1]) (Qa h10 q)
 obtain ⟨t11,h11,h⟩:=bo h
 cases h
 exact rf (o [b0,b0,.el (Zy t11)]) (Qa (Qf Qr h11).1 (Qa (Qf Qr h11).2 (Qa (QA h10) q)))
def Qd3 (n:Nat) (t1:List D×List D×Int×Int) (t6:ByteArray×ByteArray×Int×Int×Bool×Bool) (sa:(Int×List D)):Option (((Int×List D))⊕((List D))) :=
 if sa.1 < ((t1.1).length:Int) then
  (el Ze t1.1 sa.1).bind fun ta2 =>
  (Qd9 n ta2.1 ta2.2.1 ta2.2.2.1 ta2.2.2.2.1 ta2.2.2.2.2 t6.1 t6.2.1 t6.2.2.1 t6.2.2.2.1 t6.2.2.2.2.1 t6.2.2.2.2.2).bind fun ta3 =>
  if ta3=true then
   if Qh (((sa.2).length:Int)+1) then
   if Wa 88 ((sa.2).length+1) then
   if Qh (sa.1+1) then
   some (.inl ((sa.1+1),(sa.2++([.agg [I (((sa.2).length:Int)+1),.v (.string ta2.2.1),.lst false 1 ta2.2.2.1,.lst false 1 ta2.2.2.2.1,.v (.string ta2.2.2.2.2)]]:List D))))
   else none
   else none
   else none
  else
  if Qh (sa.1+1) then
  some (.inl ((sa.1+1),sa.2))
  else none
 else
 some (.inr sa.2)
noncomputable def Qer (t1:List D×List D×Int×Int) (t6:ByteArray×ByteArray×Int×Int×Bool×Bool):Lp ((Int×List D)) ((List D)):=⟨fun sa=>[(5,.d (.lst false 5 t1.1)),(10,.ptr 27 0 0 0 0),(11,.own 31 0),(12,.d (I sa.1))],fun sa=>[(27,.box (.d (.agg [.v (.string t6.1),.v (.string t6.2.1),I t6.2.2.1,I t6.2.2.2.1,B t6.2.2.2.2.1,B t6.2.2.2.2.2]))),(31,.row 0 5 sa.2)],fun _=>(.exit 0),fun _=>[(11,.own 31 0)],fun e=>[(31,.row 0 5 e)]⟩
theorem Qeq {n:Nat} {t1:List D×List D×Int×Int} {t6:ByteArray×ByteArray×Int×Int×Bool×Bool} (sa:(Int×List D)) (r) (h:Qd3 n t1 t6 sa=some r):Rl (ZJ cx.P 34 0) 56 0 false (Qer t1 t6) sa r:=by
 unfold Qd3 at h
 rcases io h with ⟨ha1,h⟩ | ⟨ha1,h⟩
 ·obtain ⟨ta2,ha2,h⟩:=bo h;obtain ⟨ta3,ha3,h⟩:=bo h
  have q:=Qa (Qev ha3) (Qa (Qf Ql ha2).1 (Qa (Qf Ql ha2).2 (Qa (decide_eq_true ha1) QL)))
  let o (l:List Orc):=b1::.el (QP ta2)::.ret (B ta3)::l
  rcases io h with ⟨ha4,h⟩ | ⟨ha4,h⟩
  ·obtain ⟨ha5,h⟩:=gd h;obtain ⟨ha6,h⟩:=gd h;obtain ⟨ha7,h⟩:=gd h
   cases h
   exact rn 32 (o [b1,b1]) [] [5,10,11,12] [27,31] (Qa ha7 (Qa ((ZB (b:=88) (by kernel_rfl) (by decide) ha6):room cx 65 ((sa.2).length+1)) (Qa ha5 (Qa ha4 q))))
  obtain ⟨ha5,h⟩:=gd h
  cases h
  exact rn 32 (o [b0]) [] [5,10,11,12] [27,31] (Qa ha5 (Qa (QA ha4) q))
 cases h
 exact rx 32 [b0] [] [11] [31] (Qa (decide_eq_false ha1) QL)
def Qea (n:Nat) (a0:List D) (a1:ByteArray):Option (List D) :=
 (V1 n a0).bind fun t1 =>
 if Qh (((t1.2.1).length:Int) - 1) then
 if ZT (nth (t1.2.1) (Int.toNat (((t1.2.1).length:Int) - 1)))=true then
  if (0:Int)≤(((t1.2.1).length:Int) - 1) then
  (WW n 0 0 false false 0 0 0 ([]) ([]) ([]) 109 a1).bind fun t5 =>
  none
  else none
 else
 (el Vy t1.2.1 (((t1.2.1).length:Int) - 1)).bind fun t4 =>
 (WW n t4.1 t4.2.1 t4.2.2.1 t4.2.2.2.1 t4.2.2.2.2.1 t4.2.2.2.2.2.1 t4.2.2.2.2.2.2.1 t4.2.2.2.2.2.2.2.1 t4.2.2.2.2.2.2.2.2.1 t4.2.2.2.2.2.2.2.2.2 109 a1).bind fun t5 =>
 (el QM t4.2.2.2.2.2.2.2.2.1 t5).bind fun t6 =>
 (Q2 (Qd3 n t1 t6) n (0,[])).bind fun t7 =>
 some t7
 else none
theorem Qew {n:Nat} {a0:List D} {a1:ByteArray} {r:List D} (h:Qea n a0 a1=some r):Computes cx 34 [.lst false 5 a0,.v (.string a1)] (.lst false 5 r):=by
 unfold Qea at h
 obtain ⟨t1,h1,h⟩:=bo h;obtain ⟨h2,h⟩:=gd h
 rcases io h with ⟨h3,h⟩ | ⟨h3,h⟩
 ·obtain ⟨h4,h⟩:=Qdz h;obtain ⟨t5,h5,h⟩:=ZX h
  cases h
 obtain ⟨t4,h4,h⟩:=bo h;obtain ⟨t5,h5,h⟩:=bo h;obtain ⟨t6,h6,h⟩:=bo h;obtain ⟨t7,h7,h⟩:=bo h;obtain rfl:=oi h
 exact rf [.ret (.tup [.lst false 5 t1.1,.lst false 10 t1.2.1,I t1.2.2.1,I t1.2.2.2]),.el (Vn t4),.ret (I t5),.el (QB t6),.lp [11,5] [5,10,11,12] [27,31] (.exit 0) [(11,.own 31 0)] [(31,.row 0 5 t7)] 69] (Qa (QH Qeq h7) (Qa (Qf Qq h6).1 (Qa (Qf Qq h6).2 (Qa (K9 h5) (Qa (Qf Vx h4).1 (Qa (Qf Vx h4).2 (Qa h2 (Qa (zV h1) QL))))))))
def Qd5 (n:Nat) (a0:List D) (a1:ByteArray):Option (Bool) :=
 (WM n a0 24).bind fun t1 =>
 if t1=true then
  if (a1.size:Int) > 40 then
   (WI n).bind fun t4 =>
   some t4
  else
  (Ei n a0 a1).bind fun t4 =>
  (Vo n a0).bind fun t5 =>
  (WW n t5.1 t5.2.1 t5.2.2.1 t5.2.2.2.1 t5.2.2.2.2.1 t5.2.2.2.2.2.1 t5.2.2.2.2.2.2.1 t5.2.2.2.2.2.2.2.1 t5.2.2.2.2.2.2.2.2.1 t5.2.2.2.2.2.2.2.2.2.1 109 a1).bind fun t6 =>
  (Yt n (decide (t6 < 0)) 10).bind fun t7 =>
  (V5 n ([I t5.2.2.2.2.2.2.2.2.2.2.2,I t7])).bind fun t8 =>
  if t8=0 then
   (Qea n a0 a1).bind fun t10 =>
   (Qd1 n t4.1 t10).bind fun t11 =>
   if t11=true then
    if t4.2=t8 then
     (WI n).bind fun t14 =>
     some t14
    else
    none
   else
   none
  else
  (Qd1 n t4.1 ([])).bind fun t10 =>
  if t10=true then
   if t4.2=t8 then
    (WI n).bind fun t13 =>
    some t13
   else
   none
  else
  none
 else
 (WI n).bind fun t3 =>
 some t3
theorem Qeg {n:Nat} {a0:List D} {a1:ByteArray} {r:Bool} (h:Qd5 n a0 a1=some r):Computes cx 5 [.lst false 5 a0,.v (.string a1)] (B r):=by
 unfold Qd5 at h
 obtain ⟨t1,h1,h⟩:=bo h
 have q:=Qa (XY h1) QL
 let o (l:List Orc):=.ret (B t1)::l
 rcases io h with ⟨h2,h⟩ | ⟨h2,h⟩
 ·have q:=Qa (Ud h2) q
  rcases io h with ⟨h3,h⟩ | ⟨h3,h⟩
  ·obtain ⟨t4,h4,h⟩:=bo h;obtain rfl:=oi h
   exact rf (o [b0,b1,.ret (B t4)]) (Qa (YE h4) (Qa (decide_eq_true h3) q))
  obtain ⟨t4,h4,h⟩:=bo h;obtain ⟨t5,h5,h⟩:=bo h;obtain ⟨t6,h6,h⟩:=bo h;obtain ⟨t7,h7,h⟩:=bo h;obtain ⟨t8,h8,h⟩:=bo h
  have q:=Qa (((jL h8).le (.cons (.full _ _ _) (.nil)) (.refl _)):Computes cx 19 [.lst true 1 [I t5.2.2.2.2.2.2.2.2.2.2.2,I t7]] (I t8)) (Qa (qu h7) (Qa (K9 h6) (Qa (je h5) (Qa (jK h4) (Qa (decide_eq_false h3) q)))))
  let o l:=o (b0::b0::.ret (.tup [.lst false 5 t4.1,I t4.2])::.ret (.tup [.agg [I t5.1,I t5.2.1,B t5.2.2.1,B t5.2.2.2.1,I t5.2.2.2.2.1,I t5.2.2.2.2.2.1,I t5.2.2.2.2.2.2.1,.lst false 1 t5.2.2.2.2.2.2.2.1,.lst false 6 t5.2.2.2.2.2.2.2.2.1,.lst false 7 t5.2.2.2.2.2.2.2.2.2.1],I t5.2.2.2.2.2.2.2.2.2.2.1,I t5.2.2.2.2.2.2.2.2.2.2.2])::.ret (I t6)::.ret (I t7)::.ret (I t8)::l)
  rcases io h with ⟨h9,h⟩ | ⟨h9,h⟩
  ·obtain ⟨t10,h10,h⟩:=bo h;obtain ⟨t11,h11,h⟩:=bo h
   rcases io h with ⟨h12,h⟩ | ⟨h12,h⟩
   ·rcases io h with ⟨h13,h⟩ | ⟨h13,h⟩
    ·obtain ⟨t14,h14,h⟩:=bo h;obtain rfl:=oi h
     exact rf (o [b1,.ret (.lst false 5 t10),.ret (B t11),b1,b1,.ret (B t14)]) (Qa (YE h14) (Qa (eqt h13) (Qa h12 (Qa (Qee h11) (Qa (Qew h10) (Qa (eqt h9) q))))))
    cases h
   cases h
  obtain ⟨t10,h10,h⟩:=bo h
  rcases io h with ⟨h11,h⟩ | ⟨h11,h⟩
  ·rcases io h with ⟨h12,h⟩ | ⟨h12,h⟩
   ·obtain ⟨t13,h13,h⟩:=bo h;obtain rfl:=oi h
    exact rf (o [b0,.ret (B t10),b1,b1,.ret (B t13)]) (Qa (YE h13) (Qa (eqt h12) (Qa h11 (Qa (((Qee h10).le (.cons (.refl _) (.cons (.nilF) (.nil))) (.refl _)):Computes cx 35 [.lst false 5 t4.1,.lst true 0 []] (B t10)) (Qa (eqf h9) q)))))
   cases h
  cases h
 obtain ⟨t3,h3,h⟩:=bo h;obtain rfl:=oi h
 exact rf (o [b1,.no,.ret (B t3)]) (Qa (YE h3) (Qa (Uc (QA h2)) q))
end Go.Proofs.YtljabneifpkbjaaGreatDoor
