/- Printed by gsx.py: functions of the program as Lean functions, and that the code computes them. -/
import Derived.Test.YtljabneifpkbjaaGreatDoorGen2
set_option linter.unusedVariables false
set_option maxRecDepth 10000
set_option maxHeartbeats 4000000
namespace Go.Proofs.YtljabneifpkbjaaGreatDoor
open Go.SX
def Qy (n:Nat) (a0:Int) (a1:jSj) (a2 a3:jVj) (a4:jSj) (a5 a6:jVj) (a7 a8:Int) (a9 a10:Bool) (a11 a12 a13:Int) (a14 a15 a16:jVj):Option (jRj) :=
 (el Vt a3 0).bind fun t1 =>
 (Q8 n t1 a5 a6 a7 a8 a9 a10 a11 a12 a13 a14 a15 a16).bind fun t2 =>
 if a1.data.toList=[115,101,99,116,111,114] then
  (el Ww a2 0).bind fun t4 =>
  if Wa 16 ((a14).length+1) then
  some (t1,a8,a9,a10,t2.1,t2.2,a13,(a14++([.v (.string t4)]:jVj)),a15,a16)
  else none
 else
 if a1.data.toList=[109,105,114,114,111,114] then
  (el Ww a2 0).bind fun t5 =>
  (el Ww a2 1).bind fun t6 =>
  (el Vt a3 1).bind fun t7 =>
  if Wa 56 ((a15).length+1) then
  some (t1,a8,a9,a10,t2.1,t2.2,a13,a14,(a15++([.agg [.v (.string t5),.v (.string t6),I t7,I 0,B false,B false]]:jVj)),a16)
  else none
 else
 if a1.data.toList=[115,111,105,108] then
  (el Ww a2 0).bind fun t6 =>
  (Qw n 109 a5 a6 t1 a8 a9 a10 t2.1 t2.2 a13 a14 a15 a16).bind fun t7 =>
  (QE n t7 t6).bind fun t8 =>
  if 0≤t8∧t8 < ((a15).length:Int) then
  (el Vt a3 1).bind fun t10 =>
  ((nth (a15) (Int.toNat t8)).bind QM).bind fun t11 =>
  some (t1,a8,a9,a10,t2.1,t2.2,a13,a14,(List.set a15 (Int.toNat t8) (.agg [.v (.string t11.1),.v (.string t11.2.1),I t11.2.2.1,I t10,B t11.2.2.2.2.1,B t11.2.2.2.2.2]:D)),a16)
  else none
 else
 if a1.data.toList=[99,108,101,97,110] then
  (el Ww a2 0).bind fun t7 =>
  (Qw n 109 a5 a6 t1 a8 a9 a10 t2.1 t2.2 a13 a14 a15 a16).bind fun t8 =>
  (QE n t8 t7).bind fun t9 =>
  if 0≤t9∧t9 < ((a15).length:Int) then
  ((nth (a15) (Int.toNat t9)).bind QM).bind fun t11 =>
  some (t1,a8,a9,a10,t2.1,t2.2,a13,a14,(List.set a15 (Int.toNat t9) (.agg [.v (.string t11.1),.v (.string t11.2.1),I t11.2.2.1,I 0,B t11.2.2.2.2.1,B t11.2.2.2.2.2]:D)),a16)
  else none
 else
 if a1.data.toList=[100,101,102,101,99,116] then
  (el Ww a2 0).bind fun t8 =>
  (Qw n 109 a5 a6 t1 a8 a9 a10 t2.1 t2.2 a13 a14 a15 a16).bind fun t9 =>
  (QE n t9 t8).bind fun t10 =>
  if 0≤t10∧t10 < ((a15).length:Int) then
  ((nth (a15) (Int.toNat t10)).bind QM).bind fun t12 =>
  some (t1,a8,a9,a10,t2.1,t2.2,a13,a14,(List.set a15 (Int.toNat t10) (.agg [.v (.string t12.1),.v (.string t12.2.1),I t12.2.2.1,I t12.2.2.2.1,B true,B t12.2.2.2.2.2]:D)),a16)
  else none
 else
 if a1.data.toList=[114,101,112,97,105,114] then
  (el Ww a2 0).bind fun t9 =>
  (Qw n 109 a5 a6 t1 a8 a9 a10 t2.1 t2.2 a13 a14 a15 a16).bind fun t10 =>
  (QE n t10 t9).bind fun t11 =>
  if 0≤t11∧t11 < ((a15).length:Int) then
  ((nth (a15) (Int.toNat t11)).bind QM).bind fun t13 =>
  some (t1,a8,a9,a10,t2.1,t2.2,a13,a14,(List.set a15 (Int.toNat t11) (.agg [.v (.string t13.1),.v (.string t13.2.1),I t13.2.2.1,I t13.2.2.2.1,B false,B t13.2.2.2.2.2]:D)),a16)
  else none
 else
 if a1.data.toList=[97,105,109] then
  (el Ww a2 0).bind fun t10 =>
  (Qw n 109 a5 a6 t1 a8 a9 a10 t2.1 t2.2 a13 a14 a15 a16).bind fun t11 =>
  (QE n t11 t10).bind fun t12 =>
  if 0≤t12∧t12 < ((a15).length:Int) then
  ((nth (a15) (Int.toNat t12)).bind QM).bind fun t14 =>
  some (t1,a8,a9,a10,t2.1,t2.2,a13,a14,(List.set a15 (Int.toNat t12) (.agg [.v (.string t14.1),.v (.string t14.2.1),I t14.2.2.1,I t14.2.2.2.1,B t14.2.2.2.2.1,B true]:D)),a16)
  else none
 else
 if a1.data.toList=[112,97,114,107] then
  (el Ww a2 0).bind fun t11 =>
  (Qw n 109 a5 a6 t1 a8 a9 a10 t2.1 t2.2 a13 a14 a15 a16).bind fun t12 =>
  (QE n t12 t11).bind fun t13 =>
  if 0≤t13∧t13 < ((a15).length:Int) then
  ((nth (a15) (Int.toNat t13)).bind QM).bind fun t15 =>
  some (t1,a8,a9,a10,t2.1,t2.2,a13,a14,(List.set a15 (Int.toNat t13) (.agg [.v (.string t15.1),.v (.string t15.2.1),I t15.2.2.1,I t15.2.2.2.1,B t15.2.2.2.2.1,B false]:D)),a16)
  else none
 else
 if a1.data.toList=[100,105,109] then
  (WF n a0 a1 a2 a3 a4 a5 a6 t1 a8 a9 a10 t2.1 t2.2 a13 a14 a15 a16).bind fun t12 =>
  some (t1,a8,a9,a10,t2.1,t2.2,a13,a14,t12,a16)
 else
 if a1.data.toList=[115,117,110] then
  (el Vt a3 1).bind fun t13 =>
  some (t1,t13,a9,a10,t2.1,t2.2,a13,a14,a15,a16)
 else
 if a1.data.toList=[102,105,108,108] then
  some (t1,a8,true,a10,t2.1,t2.2,a13,a14,a15,a16)
 else
 if a1.data.toList=[100,114,97,105,110] then
  some (t1,a8,false,a10,t2.1,t2.2,a13,a14,a15,a16)
 else
 if a1.data.toList=[116,114,105,112] then
  (WE n a5 a6 t1 a8 a9 true t2.1 t2.2 a13 a14 a15 a16).bind fun t16 =>
  some (t1,a8,a9,true,t2.1,t2.2,a13,a14,t16,a16)
 else
 if a1.data.toList=[114,101,115,101,116] then
  some (t1,a8,a9,false,t2.1,t2.2,a13,a14,a15,a16)
 else
 if a1.data.toList=[111,102,102,101,114] then
  (WL n a0 a1 a2 a3 a4).bind fun t18 =>
  (el Ww a2 0).bind fun t19 =>
  (el Vt a3 3).bind fun t20 =>
  (el Vt a3 4).bind fun t21 =>
  if Wa 64 ((a16).length+1) then
  some (t1,a8,a9,a10,t2.1,t2.2,a13,a14,a15,(a16++([.agg [.v (.string t19),I t18.1,I t18.2.1,I t20,I t21,I 0,B false]]:jVj)))
  else none
 else
 if a1.data.toList=[100,101,108,105,118,101,114] then
  (el Ww a2 0).bind fun t19 =>
  (Qw n 111 a5 a6 t1 a8 a9 a10 t2.1 t2.2 a13 a14 a15 a16).bind fun t20 =>
  (QE n t20 t19).bind fun t21 =>
  if 0≤t21∧t21 < ((a16).length:Int) then
  ((nth (a16) (Int.toNat t21)).bind Z6).bind fun t23 =>
  (el Vt a3 1).bind fun t24 =>
  if Qh (t23.2.2.2.2.2.1+t24) then
  if Qh (1000000 * t24) then
  if Qh (t2.2 - (1000000 * t24)) then
  some (t1,a8,a9,a10,t2.1,(t2.2 - (1000000 * t24)),a13,a14,a15,(List.set a16 (Int.toNat t21) (.agg [.v (.string t23.1),I t23.2.1,I t23.2.2.1,I t23.2.2.2.1,I t23.2.2.2.2.1,I (t23.2.2.2.2.2.1+t24),B t23.2.2.2.2.2.2]:D)))
  else none
  else none
  else none
  else none
 else
 if a1.data.toList=[98,105,108,108] then
  (el Ww a2 0).bind fun t20 =>
  (Qw n 111 a5 a6 t1 a8 a9 a10 t2.1 t2.2 a13 a14 a15 a16).bind fun t21 =>
  (QE n t21 t20).bind fun t22 =>
  if 0≤t22∧t22 < ((a16).length:Int) then
  ((nth (a16) (Int.toNat t22)).bind Z6).bind fun t24 =>
  ((nth ((List.set a16 (Int.toNat t22) (.agg [.v (.string t24.1),I t24.2.1,I t24.2.2.1,I t24.2.2.2.1,I t24.2.2.2.2.1,I t24.2.2.2.2.2.1,B true]:D)):jVj) (Int.toNat t22)).bind Z6).bind fun t25 =>
  (Wv n t25.1 t25.2.1 t25.2.2.1 t25.2.2.2.1 t25.2.2.2.2.1 t25.2.2.2.2.2.1 t25.2.2.2.2.2.2).bind fun t26 =>
  if Qh (a13+t26) then
  some (t1,a8,a9,a10,t2.1,t2.2,(a13+t26),a14,a15,(List.set a16 (Int.toNat t22) (.agg [.v (.string t24.1),I t24.2.1,I t24.2.2.1,I t24.2.2.2.1,I t24.2.2.2.2.1,I t24.2.2.2.2.2.1,B true]:D)))
  else none
  else none
 else
 if a1.data.toList=[117,110,100,111] then
  some (t1,a8,a9,a10,t2.1,t2.2,a13,a14,a15,a16)
 else
 none
theorem J1 {n:Nat} {a0:Int} {a1:jSj} {a2 a3:jVj} {a4:jSj} {a5 a6:jVj} {a7 a8:Int} {a9 a10:Bool} {a11 a12 a13:Int} {a14 a15 a16:jVj} {r:jRj} (h:Qy n a0 a1 a2 a3 a4 a5 a6 a7 a8 a9 a10 a11 a12 a13 a14 a15 a16=some r):ComputesO cx 190 [.ptr 0 0 0 0 2,.d (.agg [I a0,.v (.string a1),.lst false 1 a2,.lst false 1 a3,.v (.string a4)])] (some (Qb a5 a6 a7 a8 a9 a10 a11 a12 a13 a14 a15 a16)) (.d (.tup [])) (Qb a5 a6 r.1 r.2.1 r.2.2.1 r.2.2.2.1 r.2.2.2.2.1 r.2.2.2.2.2.1 r.2.2.2.2.2.2.1 r.2.2.2.2.2.2.2.1 r.2.2.2.2.2.2.2.2.1 r.2.2.2.2.2.2.2.2.2) [true,true]:=by
 unfold Qy at h
 obtain ⟨t1,h1,h⟩:=bo h;obtain ⟨t2,h2,h⟩:=bo h
 have q:=allE Qi h1 (Qa (WA h2) (allE Qi h1 QL))
 let o (l:List Orc):=.el (Q3 t1)::.obj (some 0) (.d (.agg [I t2.1,I t2.2])) (Qb a5 a6 a7 a8 a9 a10 a11 a12 a13 a14 a15 a16) ZV::.el (Q3 t1)::b1::(no 28 l)
 rcases io h with ⟨h3,h⟩ | ⟨h3,h⟩
 ·obtain ⟨t4,h4,h⟩:=bo h;obtain ⟨h5,h⟩:=gd h
  cases h
  exact rfO 0 (o [.el (.agg [.v (.string ⟨#[83]⟩),I 1,.fn (.func 147) [] [],.fn (.func 148) [] []]),.ix (-9),b1,.el (Zy t4),b1]) (Qa (ro 9 h5) (allE Qr h4 (Qa (mk1 ⟨#[115,101,99,116,111,114]⟩ (.agg [.v (.string ⟨#[83]⟩),I 1,.fn (.func 147) [] [],.fn (.func 148) [] []]) h3) q)))
 rcases io h with ⟨h4,h⟩ | ⟨h4,h⟩
 ·obtain ⟨t5,h5,h⟩:=bo h;obtain ⟨t6,h6,h⟩:=bo h;obtain ⟨t7,h7,h⟩:=bo h;obtain ⟨h8,h⟩:=gd h
  cases h
  exact rfO 0 (o [.el (.agg [.v (.string ⟨#[77,115]⟩),I 2,.fn (.func 149) [] [],.fn (.func 150) [] []]),.ix (-9),b1,.el (Zy t5),.el (Zy t6),.el (Q3 t7),b1]) (Qa (ro 73 h8) (allE Qi h7 (allE Qr h6 (allE Qr h5 (Qa (mk1 ⟨#[109,105,114,114,111,114]⟩ (.agg [.v (.string ⟨#[77,115]⟩),I 2,.fn (.func 149) [] [],.fn (.func 150) [] []]) h4) q)))))
 rcases io h with ⟨h5,h⟩ | ⟨h5,h⟩
 ·obtain ⟨t6,h6,h⟩:=bo h;obtain ⟨t7,h7,h⟩:=bo h;obtain ⟨t8,h8,h⟩:=bo h;obtain ⟨h9,h⟩:=gd h;obtain ⟨t10,h10,h⟩:=bo h;obtain ⟨t11,h11,h⟩:=bo h
  cases h
  exact rfO 0 (o [.el (.agg [.v (.string ⟨#[109]⟩),I 2,.fn (.func 151) [] [],.fn (.func 215) [] [.ref (.fn (.func 153) [] []) 0]]),.ix (-9),b1,.el (Zy t6),.ix (-9),b1,.obj (some 0) (.d (.lst false 1 t7)) (Qb a5 a6 t1 a8 a9 a10 t2.1 t2.2 a13 a14 a15 a16) ZV,.ret (I t8),b1,.ix (-9),b1,.el (Q3 t10),.el (QB t11)]) (Qa (QX Qq h11) (allE Qi h10 (Qa h9 (Qa (QK h8) (Qa (QC h7) (allE Qr h6 (Qa (mk1 ⟨#[115,111,105,108]⟩ (.agg [.v (.string ⟨#[109]⟩),I 2,.fn (.func 151) [] [],.fn (.func 215) [] [.ref (.fn (.func 153) [] []) 0]]) h5) q)))))))
 rcases io h with ⟨h6,h⟩ | ⟨h6,h⟩
 ·obtain ⟨t7,h7,h⟩:=bo h;obtain ⟨t8,h8,h⟩:=bo h;obtain ⟨t9,h9,h⟩:=bo h;obtain ⟨h10,h⟩:=gd h;obtain ⟨t11,h11,h⟩:=bo h
  cases h
  exact rfO 0 (o [.el (.agg [.v (.string ⟨#[109]⟩),I 1,.fn (.func 154) [] [],.fn (.func 215) [] [.ref (.fn (.func 155) [] []) 0]]),.ix (-9),b1,.el (Zy t7),.ix (-9),b1,.obj (some 0) (.d (.lst false 1 t8)) (Qb a5 a6 t1 a8 a9 a10 t2.1 t2.2 a13 a14 a15 a16) ZV,.ret (I t9),b1,.ix (-9),b1,.el (QB t11)]) (Qa (QX Qq h11) (Qa h10 (Qa (QK h9) (Qa (QC h8) (allE Qr h7 (Qa (mk1 ⟨#[99,108,101,97,110]⟩ (.agg [.v (.string ⟨#[109]⟩),I 1,.fn (.func 154) [] [],.fn (.func 215) [] [.ref (.fn (.func 155) [] []) 0]]) h6) q))))))
 rcases io h with ⟨h7,h⟩ | ⟨h7,h⟩
 ·obtain ⟨t8,h8,h⟩:=bo h;obtain ⟨t9,h9,h⟩:=bo h;obtain ⟨t10,h10,h⟩:=bo h;obtain ⟨h11,h⟩:=gd h;obtain ⟨t12,h12,h⟩:=bo h
  cases h
  exact rfO 0 (o [.el (.agg [.v (.string ⟨#[109]⟩),I 1,.fn (.func 216) [] [.ref (.fn (.func 157) [] []) 0],.fn (.func 215) [] [.ref (.fn (.func 158) [] []) 0]]),.ix (-9),b1,.el (Zy t8),.ix (-9),b1,.obj (some 0) (.d (.lst false 1 t9)) (Qb a5 a6 t1 a8 a9 a10 t2.1 t2.2 a13 a14 a15 a16) ZV,.ret (I t10),b1,.ix (-9),b1,.el (QB t12)]) (Qa (QX Qq h12) (Qa h11 (Qa (QK h10) (Qa (QC h9) (allE Qr h8 (Qa (mk1 ⟨#[100,101,102,101,99,116]⟩ (.agg [.v (.string ⟨#[109]⟩),I 1,.fn (.func 216) [] [.ref (.fn (.func 157) [] []) 0],.fn (.func 215) [] [.ref (.fn (.func 158) [] []) 0]]) h7) q))))))
 rcases io h with ⟨h8,h⟩ | ⟨h8,h⟩
 ·obtain ⟨t9,h9,h⟩:=bo h;obtain ⟨t10,h10,h⟩:=bo h;obtain ⟨t11,h11,h⟩:=bo h;obtain ⟨h12,h⟩:=gd h;obtain ⟨t13,h13,h⟩:=bo h
  cases h
  exact rfO 0 (o [.el (.agg [.v (.string ⟨#[109]⟩),I 1,.fn (.func 216) [] [.ref (.fn (.func 159) [] []) 0],.fn (.func 215) [] [.ref (.fn (.func 160) [] []) 0]]),.ix (-9),b1,.el (Zy t9),.ix (-9),b1,.obj (some 0) (.d (.lst false 1 t10)) (Qb a5 a6 t1 a8 a9 a10 t2.1 t2.2 a13 a14 a15 a16) ZV,.ret (I t11),b1,.ix (-9),b1,.el (QB t13)]) (Qa (QX Qq h13) (Qa h12 (Qa (QK h11) (Qa (QC h10) (allE Qr h9 (Qa (mk1 ⟨#[114,101,112,97,105,114]⟩ (.agg [.v (.string ⟨#[109]⟩),I 1,.fn (.func 216) [] [.ref (.fn (.func 159) [] []) 0],.fn (.func 215) [] [.ref (.fn (.func 160) [] []) 0]]) h8) q))))))
 rcases io h with ⟨h9,h⟩ | ⟨h9,h⟩
 ·obtain ⟨t10,h10,h⟩:=bo h;obtain ⟨t11,h11,h⟩:=bo h;obtain ⟨t12,h12,h⟩:=bo h;obtain ⟨h13,h⟩:=gd h;obtain ⟨t14,h14,h⟩:=bo h
  cases h
  exact rfO 0 (o [.el (.agg [.v (.string ⟨#[109]⟩),I 1,.fn (.func 216) [] [.ref (.fn (.func 161) [] []) 0],.fn (.func 215) [] [.ref (.fn (.func 162) [] []) 0]]),.ix (-9),b1,.el (Zy t10),.ix (-9),b1,.obj (some 0) (.d (.lst false 1 t11)) (Qb a5 a6 t1 a8 a9 a10 t2.1 t2.2 a13 a14 a15 a16) ZV,.ret (I t12),b1,.ix (-9),b1,.el (QB t14)]) (Qa (QX Qq h14) (Qa h13 (Qa (QK h12) (Qa (QC h11) (allE Qr h10 (Qa (mk1 ⟨#[97,105,109]⟩ (.agg [.v (.string ⟨#[109]⟩),I 1,.fn (.func 216) [] [.ref (.fn (.func 161) [] []) 0],.fn (.func 215) [] [.ref (.fn (.func 162) [] []) 0]]) h9) q))))))
 rcases io h with ⟨h10,h⟩ | ⟨h10,h⟩
 ·obtain ⟨t11,h11,h⟩:=bo h;obtain ⟨t12,h12,h⟩:=bo h;obtain ⟨t13,h13,h⟩:=bo h;obtain ⟨h14,h⟩:=gd h;obtain ⟨t15,h15,h⟩:=bo h
  cases h
  exact rfO 0 (o [.el (.agg [.v (.string ⟨#[109]⟩),I 1,.fn (.func 216) [] [.ref (.fn (.func 163) [] []) 0],.fn (.func 215) [] [.ref (.fn (.func 164) [] []) 0]]),.ix (-9),b1,.el (Zy t11),.ix (-9),b1,.obj (some 0) (.d (.lst false 1 t12)) (Qb a5 a6 t1 a8 a9 a10 t2.1 t2.2 a13 a14 a15 a16) ZV,.ret (I t13),b1,.ix (-9),b1,.el (QB t15)]) (Qa (QX Qq h15) (Qa h14 (Qa (QK h13) (Qa (QC h12) (allE Qr h11 (Qa (mk1 ⟨#[112,97,114,107]⟩ (.agg [.v (.string ⟨#[109]⟩),I 1,.fn (.func 216) [] [.ref (.fn (.func 163) [] []) 0],.fn (.func 215) [] [.ref (.fn (.func 164) [] []) 0]]) h10) q))))))
 rcases io h with ⟨h11,h⟩ | ⟨h11,h⟩
 ·obtain ⟨t12,h12,h⟩:=bo h
  cases h
  exact rfO 0 (o [.el (.agg [.v (.string ⟨#[115]⟩),I 1,.fn (.func 154) [] [],.fn (.func 165) [] []]),.ix (-9),b1,.obj (some 0) (.d (.tup [])) (Qb a5 a6 t1 a8 a9 a10 t2.1 t2.2 a13 a14 t12 a16) [true,true,false,false,false,false,false,false,false,true,true,true]]) (Qa (Gm h12) (Qa (mk1 ⟨#[100,105,109]⟩ (.agg [.v (.string ⟨#[115]⟩),I 1,.fn (.func 154) [] [],.fn (.func 165) [] []]) h11) q))
 rcases io h with ⟨h12,h⟩ | ⟨h12,h⟩
 ·obtain ⟨t13,h13,h⟩:=bo h
  cases h
  exact rfO 0 (o [.el (.agg [.v (.string ⟨#[]⟩),I 2,.fn (.func 168) [] [],.fn (.func 169) [] []]),.ix (-9),b1,.el (Q3 t13)]) (allE Qi h13 (Qa (mk1 ⟨#[115,117,110]⟩ (.agg [.v (.string ⟨#[]⟩),I 2,.fn (.func 168) [] [],.fn (.func 169) [] []]) h12) q))
 rcases io h with ⟨h13,h⟩ | ⟨h13,h⟩
 ·cases h
  exact rfO 0 (o [.el (.agg [.v (.string ⟨#[]⟩),I 1,.fn (.func 170) [] [],.fn (.func 171) [] []]),.ix (-9),b1]) (Qa (mk1 ⟨#[102,105,108,108]⟩ (.agg [.v (.string ⟨#[]⟩),I 1,.fn (.func 170) [] [],.fn (.func 171) [] []]) h13) q)
 rcases io h with ⟨h14,h⟩ | ⟨h14,h⟩
 ·cases h
  exact rfO 0 (o [.el (.agg [.v (.string ⟨#[]⟩),I 1,.fn (.func 172) [] [],.fn (.func 174) [] []]),.ix (-9),b1]) (Qa (mk1 ⟨#[100,114,97,105,110]⟩ (.agg [.v (.string ⟨#[]⟩),I 1,.fn (.func 172) [] [],.fn (.func 174) [] []]) h14) q)
 rcases io h with ⟨h15,h⟩ | ⟨h15,h⟩
 ·obtain ⟨t16,h16,h⟩:=bo h
  cases h
  exact rfO 0 (o [.el (.agg [.v (.string ⟨#[]⟩),I 1,.fn (.func 175) [] [],.fn (.func 176) [] []]),.ix (-9),b1,.obj (some 0) (.d (.tup [])) (Qb a5 a6 t1 a8 a9 true t2.1 t2.2 a13 a14 t16 a16) [true,true,false,false,false,false,false,false,false,true,true,true]]) (Qa (Gl h16) (Qa (mk1 ⟨#[116,114,105,112]⟩ (.agg [.v (.string ⟨#[]⟩),I 1,.fn (.func 175) [] [],.fn (.func 176) [] []]) h15) q))
 rcases io h with ⟨h16,h⟩ | ⟨h16,h⟩
 ·cases h
  exact rfO 0 (o [.el (.agg [.v (.string ⟨#[]⟩),I 1,.fn (.func 178) [] [],.fn (.func 179) [] []]),.ix (-9),b1]) (Qa (mk1 ⟨#[114,101,115,101,116]⟩ (.agg [.v (.string ⟨#[]⟩),I 1,.fn (.func 178) [] [],.fn (.func 179) [] []]) h16) q)
 rcases io h with ⟨h17,h⟩ | ⟨h17,h⟩
 ·obtain ⟨t18,h18,h⟩:=bo h;obtain ⟨t19,h19,h⟩:=bo h;obtain ⟨t20,h20,h⟩:=bo h;obtain ⟨t21,h21,h⟩:=bo h;obtain ⟨h22,h⟩:=gd h
  cases h
  exact rfO 0 (o [.el (.agg [.v (.string ⟨#[79]⟩),I 5,.fn (.func 180) [] [],.fn (.func 182) [] []]),.ix (-9),b1,.ret (.tup [.agg [I t18.1,I t18.2.1],I t18.2.2]),.el (Zy t19),.el (Q3 t20),.el (Q3 t21),b1]) (Qa (ro 74 h22) (allE Qi h21 (allE Qi h20 (allE Qr h19 (Qa (GT h18) (Qa (mk1 ⟨#[111,102,102,101,114]⟩ (.agg [.v (.string ⟨#[79]⟩),I 5,.fn (.func 180) [] [],.fn (.func 182) [] []]) h17) q))))))
 rcases io h with ⟨h18,h⟩ | ⟨h18,h⟩
 ·obtain ⟨t19,h19,h⟩:=bo h;obtain ⟨t20,h20,h⟩:=bo h;obtain ⟨t21,h21,h⟩:=bo h;obtain ⟨h22,h⟩:=gd h;obtain ⟨t23,h23,h⟩:=bo h;obtain ⟨t24,h24,h⟩:=bo h;obtain ⟨h25,h⟩:=gd h;obtain ⟨h26,h⟩:=gd h;obtain ⟨h27,h⟩:=gd h
  cases h
  exact rfO 0 (o [.el (.agg [.v (.string ⟨#[111]⟩),I 2,.fn (.func 183) [] [],.fn (.func 184) [] []]),.ix (-9),b1,.el (Zy t19),.ix (-9),b1,.obj (some 0) (.d (.lst false 1 t20)) (Qb a5 a6 t1 a8 a9 a10 t2.1 t2.2 a13 a14 a15 a16) ZV,.ret (I t21),b1,.el (Q7 t23),.el (Q3 t24),.el (Q7 t23),.el (Q3 t24)]) (Qa h27 (Qa h26 (allE Qi h24 (Qa (QX Q0 h23) (Qa h25 (allE Qi h24 (Qa (QX Q0 h23) (Qa h22 (Qa (QK h21) (Qa (QC h20) (allE Qr h19 (Qa (mk1 ⟨#[100,101,108,105,118,101,114]⟩ (.agg [.v (.string ⟨#[111]⟩),I 2,.fn (.func 183) [] [],.fn (.func 184) [] []]) h18) q))))))))))))
 rcases io h with ⟨h19,h⟩ | ⟨h19,h⟩
 ·obtain ⟨t20,h20,h⟩:=bo h;obtain ⟨t21,h21,h⟩:=bo h;obtain ⟨t22,h22,h⟩:=bo h;obtain ⟨h23,h⟩:=gd h;obtain ⟨t24,h24,h⟩:=bo h;obtain ⟨t25,h25,h⟩:=bo h;obtain ⟨t26,h26,h⟩:=bo h;obtain ⟨h27,h⟩:=gd h
  cases h
  exact rfO 0 (o [.el (.agg [.v (.string ⟨#[111]⟩),I 1,.fn (.func 185) [] [],.fn (.func 186) [] []]),.ix (-9),b1,.el (Zy t20),b1,.obj (some 0) (.d (.lst false 1 t21)) (Qb a5 a6 t1 a8 a9 a10 t2.1 t2.2 a13 a14 a15 a16) ZV,.ret (I t22),b1,.el (Q7 t24),.el (Q7 t25),.ret (I t26)]) (Qa h27 (Qa (YN h26) (Qa (QX Q0 h25) (Qa (QX Q0 h24) (Qa h23 (Qa (QK h22) (Qa (QC h21) (allE Qr h20 (Qa (mk1 ⟨#[98,105,108,108]⟩ (.agg [.v (.string ⟨#[111]⟩),I 1,.fn (.func 185) [] [],.fn (.func 186) [] []]) h19) q)))))))))
 rcases io h with ⟨h20,h⟩ | ⟨h20,h⟩
 ·cases h
  exact rfO 0 (o [.el (.agg [.v (.string ⟨#[]⟩),I 0,.fn (.func 154) [] [],.fn (.func 187) [] []]),.ix (-9),b1]) (Qa (mk1 ⟨#[117,110,100,111]⟩ (.agg [.v (.string ⟨#[]⟩),I 0,.fn (.func 154) [] [],.fn (.func 187) [] []]) h20) q)
 cases h
def Zm (n:Nat) (a0:Int) (a1:jSj) (a2 a3:jVj) (a4:jSj) (a5 a6:jVj) (a7 a8:Int) (a9 a10:Bool) (a11 a12 a13:Int) (a14 a15 a16:jVj) (sa:(Unit)⊕(Int×jRj)):Option (((Unit)⊕(Int×jRj))⊕((Unit)⊕(jRj))):=match sa with
 | (.inl sa)=>(
  if 0 < (((a6.take (Int.toNat (((a6).length:Int) - 1))):jVj).length:Int) then
   if (0:Int)≤0∧0 < (((a6.take (Int.toNat (((a6).length:Int) - 1))):jVj).length:Int) then
   ((nth ((a6.take (Int.toNat (((a6).length:Int) - 1))):jVj) 0).bind Ze).bind fun ta3 =>
   (Qz n ta3.1 ta3.2.1 ta3.2.2.1 ta3.2.2.2.1 ta3.2.2.2.2 0 0 false false 0 0 0 ([]) ([]) ([])).bind fun ta4 =>
   some (.inl (.inr (1,ta4.1,ta4.2.1,ta4.2.2.1,ta4.2.2.2.1,ta4.2.2.2.2.1,ta4.2.2.2.2.2.1,ta4.2.2.2.2.2.2.1,ta4.2.2.2.2.2.2.2.1,ta4.2.2.2.2.2.2.2.2.1,ta4.2.2.2.2.2.2.2.2.2)))
   else none
  else
  some (.inr (.inl ())))
 | (.inr sa)=>(
  if sa.1 < (((a6.take (Int.toNat (((a6).length:Int) - 1))):jVj).length:Int) then
   if 0≤sa.1∧sa.1 < (((a6.take (Int.toNat (((a6).length:Int) - 1))):jVj).length:Int) then
   ((nth ((a6.take (Int.toNat (((a6).length:Int) - 1))):jVj) (Int.toNat sa.1)).bind Ze).bind fun ta3 =>
   (Qz n ta3.1 ta3.2.1 ta3.2.2.1 ta3.2.2.2.1 ta3.2.2.2.2 sa.2.1 sa.2.2.1 sa.2.2.2.1 sa.2.2.2.2.1 sa.2.2.2.2.2.1 sa.2.2.2.2.2.2.1 sa.2.2.2.2.2.2.2.1 sa.2.2.2.2.2.2.2.2.1 sa.2.2.2.2.2.2.2.2.2.1 sa.2.2.2.2.2.2.2.2.2.2).bind fun ta4 =>
   if Qh (sa.1+1) then
   some (.inl (.inr ((sa.1+1),ta4.1,ta4.2.1,ta4.2.2.1,ta4.2.2.2.1,ta4.2.2.2.2.1,ta4.2.2.2.2.2.1,ta4.2.2.2.2.2.2.1,ta4.2.2.2.2.2.2.2.1,ta4.2.2.2.2.2.2.2.2.1,ta4.2.2.2.2.2.2.2.2.2)))
   else none
   else none
  else
  some (.inr (.inr (sa.2.1,sa.2.2.1,sa.2.2.2.1,sa.2.2.2.2.1,sa.2.2.2.2.2.1,sa.2.2.2.2.2.2.1,sa.2.2.2.2.2.2.2.1,sa.2.2.2.2.2.2.2.2.1,sa.2.2.2.2.2.2.2.2.2.1,sa.2.2.2.2.2.2.2.2.2.2))))
noncomputable def GZ (a0:Int) (a1:jSj) (a2 a3:jVj) (a4:jSj) (a5 a6:jVj) (a7 a8:Int) (a9 a10:Bool) (a11 a12 a13:Int) (a14 a15 a16:jVj):Lp ((Unit)⊕(Int×jRj)) ((Unit)⊕(jRj)):=⟨fun
 | (.inl sa)=>[(2,.ptr 83 0 0 0 0),(3,.ptr 84 0 0 0 0),(6,.own 2 1),(7,.d (I (((a6.take (Int.toNat (((a6).length:Int) - 1))):jVj).length:Int))),(8,.d (I 0))]
 | (.inr sa)=>[(2,.ptr 83 0 0 0 0),(3,.ptr 84 0 0 0 0),(6,.own 2 1),(7,.d (I (((a6.take (Int.toNat (((a6).length:Int) - 1))):jVj).length:Int))),(8,.d (I sa.1))],fun
 | (.inl sa)=>[(0,.box (.agg [.own 1 1,.own 2 1,.d (I a7),.d (I a8),.d (B a9),.d (B a10),.d (I a11),.d (I a12),.d (I a13),.own 10 0,.own 11 0,.own 12 0])),(1,.row 1 5 (a5++([.agg [I a0,.v (.string a1),.lst false 1 (a2.take ((List.replicate (Int.toNat ((a2).length:Int)) (.v (.string ⟨#[]⟩):D)):jVj).length++(List.replicate (Int.toNat ((a2).length:Int)) (.v (.string ⟨#[]⟩):D)).drop (a2).length),.lst false 1 (a3.take ((List.replicate (Int.toNat ((a3).length:Int)) (I 0:D)):jVj).length++(List.replicate (Int.toNat ((a3).length:Int)) (I 0:D)).drop (a3).length),.v (.string a4)]]:jVj))),(2,.row 1 5 (a6.take (Int.toNat (((a6).length:Int) - 1)))),(10,.row 0 1 a14),(11,.row 0 6 a15),(12,.row 0 7 a16),(13,.box (.agg [.d (I a0),.d (.v (.string a1)),.own 22 0,.own 26 0,.d (.v (.string a4))])),(17,.box (.agg [.d (I a0),.d (.v (.string a1)),.own 22 0,.own 26 0,.d (.v (.string a4))])),(18,.box (.agg [.d (I a0),.d (.v (.string a1)),.own 22 0,.own 26 0,.d (.v (.string a4))])),(22,.frozen 0 1 (a2.take ((List.replicate (Int.toNat ((a2).length:Int)) (.v (.string ⟨#[]⟩):D)):jVj).length++(List.replicate (Int.toNat ((a2).length:Int)) (.v (.string ⟨#[]⟩):D)).drop (a2).length)),(26,.frozen 0 1 (a3.take ((List.replicate (Int.toNat ((a3).length:Int)) (I 0:D)):jVj).length++(List.replicate (Int.toNat ((a3).length:Int)) (I 0:D)).drop (a3).length)),(83,.box (.d (.agg [I 0,I 0,B false,B false,I 0,I 0,I 0,.lst true 0 [],.lst true 0 [],.lst true 0 []]))),(84,.box (.d (.agg [I 0,I 0,B false,B false,I 0,I 0,I 0,.lst true 0 [],.lst true 0 [],.lst true 0 []])))]
 | (.inr sa)=>[(0,.box (.agg [.own 1 1,.own 2 1,.d (I a7),.d (I a8),.d (B a9),.d (B a10),.d (I a11),.d (I a12),.d (I a13),.own 10 0,.own 11 0,.own 12 0])),(1,.row 1 5 (a5++([.agg [I a0,.v (.string a1),.lst false 1 (a2.take ((List.replicate (Int.toNat ((a2).length:Int)) (.v (.string ⟨#[]⟩):D)):jVj).length++(List.replicate (Int.toNat ((a2).length:Int)) (.v (.string ⟨#[]⟩):D)).drop (a2).length),.lst false 1 (a3.take ((List.replicate (Int.toNat ((a3).length:Int)) (I 0:D)):jVj).length++(List.replicate (Int.toNat ((a3).length:Int)) (I 0:D)).drop (a3).length),.v (.string a4)]]:jVj))),(2,.row 1 5 (a6.take (Int.toNat (((a6).length:Int) - 1)))),(10,.row 0 1 a14),(11,.row 0 6 a15),(12,.row 0 7 a16),(13,.box (.agg [.d (I a0),.d (.v (.string a1)),.own 22 0,.own 26 0,.d (.v (.string a4))])),(17,.box (.agg [.d (I a0),.d (.v (.string a1)),.own 22 0,.own 26 0,.d (.v (.string a4))])),(18,.box (.agg [.d (I a0),.d (.v (.string a1)),.own 22 0,.own 26 0,.d (.v (.string a4))])),(22,.frozen 0 1 (a2.take ((List.replicate (Int.toNat ((a2).length:Int)) (.v (.string ⟨#[]⟩):D)):jVj).length++(List.replicate (Int.toNat ((a2).length:Int)) (.v (.string ⟨#[]⟩):D)).drop (a2).length)),(26,.frozen 0 1 (a3.take ((List.replicate (Int.toNat ((a3).length:Int)) (I 0:D)):jVj).length++(List.replicate (Int.toNat ((a3).length:Int)) (I 0:D)).drop (a3).length)),(83,.box (.d (.agg [I 0,I 0,B false,B false,I 0,I 0,I 0,.lst true 0 [],.lst true 0 [],.lst true 0 []]))),(84,.box (.agg [.d (I sa.2.1),.d (I sa.2.2.1),.d (B sa.2.2.2.1),.d (B sa.2.2.2.2.1),.d (I sa.2.2.2.2.2.1),.d (I sa.2.2.2.2.2.2.1),.d (I sa.2.2.2.2.2.2.2.1),.own 102 0,.own 103 0,.own 104 0])),(102,.row 0 1 sa.2.2.2.2.2.2.2.2.1),(103,.row 0 6 sa.2.2.2.2.2.2.2.2.2.1),(104,.row 0 7 sa.2.2.2.2.2.2.2.2.2.2)],fun _=>(.exit 0),fun _=>[(2,.ptr 83 0 0 0 0),(3,.ptr 84 0 0 0 0)],fun
 | (.inl e)=>[(0,.box (.agg [.own 1 1,.own 2 1,.d (I a7),.d (I a8),.d (B a9),.d (B a10),.d (I a11),.d (I a12),.d (I a13),.own 10 0,.own 11 0,.own 12 0])),(1,.row 1 5 (a5++([.agg [I a0,.v (.string a1),.lst false 1 (a2.take ((List.replicate (Int.toNat ((a2).length:Int)) (.v (.string ⟨#[]⟩):D)):jVj).length++(List.replicate (Int.toNat ((a2).length:Int)) (.v (.string ⟨#[]⟩):D)).drop (a2).length),.lst false 1 (a3.take ((List.replicate (Int.toNat ((a3).length:Int)) (I 0:D)):jVj).length++(List.replicate (Int.toNat ((a3).length:Int)) (I 0:D)).drop (a3).length),.v (.string a4)]]:jVj))),(2,.row 1 5 (a6.take (Int.toNat (((a6).length:Int) - 1)))),(10,.row 0 1 a14),(11,.row 0 6 a15),(12,.row 0 7 a16),(13,.box (.agg [.d (I a0),.d (.v (.string a1)),.own 22 0,.own 26 0,.d (.v (.string a4))])),(17,.box (.agg [.d (I a0),.d (.v (.string a1)),.own 22 0,.own 26 0,.d (.v (.string a4))])),(18,.box (.agg [.d (I a0),.d (.v (.string a1)),.own 22 0,.own 26 0,.d (.v (.string a4))])),(22,.frozen 0 1 (a2.take ((List.replicate (Int.toNat ((a2).length:Int)) (.v (.string ⟨#[]⟩):D)):jVj).length++(List.replicate (Int.toNat ((a2).length:Int)) (.v (.string ⟨#[]⟩):D)).drop (a2).length)),(26,.frozen 0 1 (a3.take ((List.replicate (Int.toNat ((a3).length:Int)) (I 0:D)):jVj).length++(List.replicate (Int.toNat ((a3).length:Int)) (I 0:D)).drop (a3).length)),(83,.box (.d (.agg [I 0,I 0,B false,B false,I 0,I 0,I 0,.lst true 0 [],.lst true 0 [],.lst true 0 []]))),(84,.box (.d (.agg [I 0,I 0,B false,B false,I 0,I 0,I 0,.lst true 0 [],.lst true 0 [],.lst true 0 []])))]
 | (.inr e)=>[(0,.box (.agg [.own 1 1,.own 2 1,.d (I a7),.d (I a8),.d (B a9),.d (B a10),.d (I a11),.d (I a12),.d (I a13),.own 10 0,.own 11 0,.own 12 0])),(1,.row 1 5 (a5++([.agg [I a0,.v (.string a1),.lst false 1 (a2.take ((List.replicate (Int.toNat ((a2).length:Int)) (.v (.string ⟨#[]⟩):D)):jVj).length++(List.replicate (Int.toNat ((a2).length:Int)) (.v (.string ⟨#[]⟩):D)).drop (a2).length),.lst false 1 (a3.take ((List.replicate (Int.toNat ((a3).length:Int)) (I 0:D)):jVj).length++(List.replicate (Int.toNat ((a3).length:Int)) (I 0:D)).drop (a3).length),.v (.string a4)]]:jVj))),(2,.row 1 5 (a6.take (Int.toNat (((a6).length:Int) - 1)))),(10,.row 0 1 a14),(11,.row 0 6 a15),(12,.row 0 7 a16),(13,.box (.agg [.d (I a0),.d (.v (.string a1)),.own 22 0,.own 26 0,.d (.v (.string a4))])),(17,.box (.agg [.d (I a0),.d (.v (.string a1)),.own 22 0,.own 26 0,.d (.v (.string a4))])),(18,.box (.agg [.d (I a0),.d (.v (.string a1)),.own 22 0,.own 26 0,.d (.v (.string a4))])),(22,.frozen 0 1 (a2.take ((List.replicate (Int.toNat ((a2).length:Int)) (.v (.string ⟨#[]⟩):D)):jVj).length++(List.replicate (Int.toNat ((a2).length:Int)) (.v (.string ⟨#[]⟩):D)).drop (a2).length)),(26,.frozen 0 1 (a3.take ((List.replicate (Int.toNat ((a3).length:Int)) (I 0:D)):jVj).length++(List.replicate (Int.toNat ((a3).length:Int)) (I 0:D)).drop (a3).length)),(83,.box (.d (.agg [I 0,I 0,B false,B false,I 0,I 0,I 0,.lst true 0 [],.lst true 0 [],.lst true 0 []]))),(84,.box (.agg [.d (I e.1),.d (I e.2.1),.d (B e.2.2.1),.d (B e.2.2.2.1),.d (I e.2.2.2.2.1),.d (I e.2.2.2.2.2.1),.d (I e.2.2.2.2.2.2.1),.own 102 0,.own 103 0,.own 104 0])),(102,.row 0 1 e.2.2.2.2.2.2.2.1),(103,.row 0 6 e.2.2.2.2.2.2.2.2.1),(104,.row 0 7 e.2.2.2.2.2.2.2.2.2)]⟩
theorem Ul {n:Nat} {a0:Int} {a1:jSj} {a2 a3:jVj} {a4:jSj} {a5 a6:jVj} {a7 a8:Int} {a9 a10:Bool} {a11 a12 a13:Int} {a14 a15 a16:jVj} (sa:(Unit)⊕(Int×jRj)) (r) (h:Zm n a0 a1 a2 a3 a4 a5 a6 a7 a8 a9 a10 a11 a12 a13 a14 a15 a16 sa=some r):Rl (ZJ cx.P 109 0) 16 83 false (GZ a0 a1 a2 a3 a4 a5 a6 a7 a8 a9 a10 a11 a12 a13 a14 a15 a16) sa r:=by
 unfold Zm at h
 rcases sa with sa | sa
 ·rcases io h with ⟨ha1,h⟩ | ⟨ha1,h⟩
  ·obtain ⟨ha2,h⟩:=gd h;obtain ⟨ta3,ha3,h⟩:=bo h;obtain ⟨ta4,ha4,h⟩:=bo h
   cases h
   exact rn 88 [b1,b1,.el (QP ta3),.obj (some 84) (.d (.tup [])) (QJ ta4.1 ta4.2.1 ta4.2.2.1 ta4.2.2.2.1 ta4.2.2.2.2.1 ta4.2.2.2.2.2.1 ta4.2.2.2.2.2.2.1 ta4.2.2.2.2.2.2.2.1 ta4.2.2.2.2.2.2.2.2.1 ta4.2.2.2.2.2.2.2.2.2) []] [] [2,3,6,7,8] [0,1,2,10,11,12,13,17,18,22,26,83,84,102,103,104] (Qa ((by unfold Qh;omega):Qh 1) (Qa (Uh ha4) (Qa (QX Ql ha3) (Qa ha2 (Qa (jDj ha1) QL)))))
  cases h
  exact rx 88 [b0] [] [2,3] [0,1,2,10,11,12,13,17,18,22,26,83,84] (Qa (jEj ha1) QL)
 ·rcases io h with ⟨ha1,h⟩ | ⟨ha1,h⟩
  ·obtain ⟨ha2,h⟩:=gd h;obtain ⟨ta3,ha3,h⟩:=bo h;obtain ⟨ta4,ha4,h⟩:=bo h;obtain ⟨ha5,h⟩:=gd h
   cases h
   exact rn 105 [b1,b1,.el (QP ta3),.obj (some 84) (.d (.tup [])) (QJ ta4.1 ta4.2.1 ta4.2.2.1 ta4.2.2.2.1 ta4.2.2.2.2.1 ta4.2.2.2.2.2.1 ta4.2.2.2.2.2.2.1 ta4.2.2.2.2.2.2.2.1 ta4.2.2.2.2.2.2.2.2.1 ta4.2.2.2.2.2.2.2.2.2) []] [] [2,3,6,7,8] [0,1,2,10,11,12,13,17,18,22,26,83,84,102,103,104] (Qa ha5 (Qa (Uh ha4) (Qa (QX Ql ha3) (Qa ha2 (Qa (jDj ha1) QL)))))
  cases h
  exact rx 105 [b0] [] [2,3] [0,1,2,10,11,12,13,17,18,22,26,83,84,102,103,104] (Qa (jEj ha1) QL)
def WO (n:Nat) (a0:Int) (a1:jSj) (a2 a3:jVj) (a4:jSj) (a5 a6:jVj) (a7 a8:Int) (a9 a10:Bool) (a11 a12 a13:Int) (a14 a15 a16:jVj):Option (jVj×jVj×jRj) :=
 if 0≤((a2).length:Int)∧((a2).length:Int)≤((a2).length:Int)∧16 * ((a2).length:Int)≤281474976710656∧((a2).length:Int)≤9223372036854775807 then
 if 0≤((a3).length:Int)∧((a3).length:Int)≤((a3).length:Int)∧8 * ((a3).length:Int)≤281474976710656∧((a3).length:Int)≤9223372036854775807 then
 if Wa 88 ((a5).length+1) then
 if (a1.toList == (⟨#[117,110,100,111]⟩:jSj).toList)=true then
  if Qh (((a6).length:Int) - 1) then
  if 0≤(((a6).length:Int) - 1)∧(((a6).length:Int) - 1)≤((a6).length:Int) then
  (Q2 (Zm n a0 a1 a2 a3 a4 a5 a6 a7 a8 a9 a10 a11 a12 a13 a14 a15 a16) n (.inl ())).bind fun t7=>match t7 with
   | (.inl t7)=>(
    some ((a5++([.agg [I a0,.v (.string a1),.lst false 1 (a2.take ((List.replicate (Int.toNat ((a2).length:Int)) (.v (.string ⟨#[]⟩):D)):jVj).length++(List.replicate (Int.toNat ((a2).length:Int)) (.v (.string ⟨#[]⟩):D)).drop (a2).length),.lst false 1 (a3.take ((List.replicate (Int.toNat ((a3).length:Int)) (I 0:D)):jVj).length++(List.replicate (Int.toNat ((a3).length:Int)) (I 0:D)).drop (a3).length),.v (.string a4)]]:jVj)),(a6.take (Int.toNat (((a6).length:Int) - 1))),0,0,false,false,0,0,0,[],[],[]))
   | (.inr t7)=>(
    some ((a5++([.agg [I a0,.v (.string a1),.lst false 1 (a2.take ((List.replicate (Int.toNat ((a2).length:Int)) (.v (.string ⟨#[]⟩):D)):jVj).length++(List.replicate (Int.toNat ((a2).length:Int)) (.v (.string ⟨#[]⟩):D)).drop (a2).length),.lst false 1 (a3.take ((List.replicate (Int.toNat ((a3).length:Int)) (I 0:D)):jVj).length++(List.replicate (Int.toNat ((a3).length:Int)) (I 0:D)).drop (a3).length),.v (.string a4)]]:jVj)),(a6.take (Int.toNat (((a6).length:Int) - 1))),t7.1,t7.2.1,t7.2.2.1,t7.2.2.2.1,t7.2.2.2.2.1,t7.2.2.2.2.2.1,t7.2.2.2.2.2.2.1,t7.2.2.2.2.2.2.2.1,t7.2.2.2.2.2.2.2.2.1,t7.2.2.2.2.2.2.2.2.2))
  else none
  else none
 else
 if Wa 88 ((a6).length+1) then
 (Qy n a0 a1 (a2.take ((List.replicate (Int.toNat ((a2).length:Int)) (.v (.string ⟨#[]⟩):D)):jVj).length++(List.replicate (Int.toNat ((a2).length:Int)) (.v (.string ⟨#[]⟩):D)).drop (a2).length) (a3.take ((List.replicate (Int.toNat ((a3).length:Int)) (I 0:D)):jVj).length++(List.replicate (Int.toNat ((a3).length:Int)) (I 0:D)).drop (a3).length) a4 (a5++([.agg [I a0,.v (.string a1),.lst false 1 (a2.take ((List.replicate (Int.toNat ((a2).length:Int)) (.v (.string ⟨#[]⟩):D)):jVj).length++(List.replicate (Int.toNat ((a2).length:Int)) (.v (.string ⟨#[]⟩):D)).drop (a2).length),.lst false 1 (a3.take ((List.replicate (Int.toNat ((a3).length:Int)) (I 0:D)):jVj).length++(List.replicate (Int.toNat ((a3).length:Int)) (I 0:D)).drop (a3).length),.v (.string a4)]]:jVj)) (a6++([.agg [I a0,.v (.string a1),.lst false 1 (a2.take ((List.replicate (Int.toNat ((a2).length:Int)) (.v (.string ⟨#[]⟩):D)):jVj).length++(List.replicate (Int.toNat ((a2).length:Int)) (.v (.string ⟨#[]⟩):D)).drop (a2).length),.lst false 1 (a3.take ((List.replicate (Int.toNat ((a3).length:Int)) (I 0:D)):jVj).length++(List.replicate (Int.toNat ((a3).length:Int)) (I 0:D)).drop (a3).length),.v (.string a4)]]:jVj)) a7 a8 a9 a10 a11 a12 a13 a14 a15 a16).bind fun t6 =>
 some ((a5++([.agg [I a0,.v (.string a1),.lst false 1 (a2.take ((List.replicate (Int.toNat ((a2).length:Int)) (.v (.string ⟨#[]⟩):D)):jVj).length++(List.replicate (Int.toNat ((a2).length:Int)) (.v (.string ⟨#[]⟩):D)).drop (a2).length),.lst false 1 (a3.take ((List.replicate (Int.toNat ((a3).length:Int)) (I 0:D)):jVj).length++(List.replicate (Int.toNat ((a3).length:Int)) (I 0:D)).drop (a3).length),.v (.string a4)]]:jVj)),(a6++([.agg [I a0,.v (.string a1),.lst false 1 (a2.take ((List.replicate (Int.toNat ((a2).length:Int)) (.v (.string ⟨#[]⟩):D)):jVj).length++(List.replicate (Int.toNat ((a2).length:Int)) (.v (.string ⟨#[]⟩):D)).drop (a2).length),.lst false 1 (a3.take ((List.replicate (Int.toNat ((a3).length:Int)) (I 0:D)):jVj).length++(List.replicate (Int.toNat ((a3).length:Int)) (I 0:D)).drop (a3).length),.v (.string a4)]]:jVj)),t6.1,t6.2.1,t6.2.2.1,t6.2.2.2.1,t6.2.2.2.2.1,t6.2.2.2.2.2.1,t6.2.2.2.2.2.2.1,t6.2.2.2.2.2.2.2.1,t6.2.2.2.2.2.2.2.2.1,t6.2.2.2.2.2.2.2.2.2)
 else none
 else none
 else none
 else none
theorem Kf {n:Nat} {a0:Int} {a1:jSj} {a2 a3:jVj} {a4:jSj} {a5 a6:jVj} {a7 a8:Int} {a9 a10:Bool} {a11 a12 a13:Int} {a14 a15 a16:jVj} {r:jVj×jVj×jRj} (h:WO n a0 a1 a2 a3 a4 a5 a6 a7 a8 a9 a10 a11 a12 a13 a14 a15 a16=some r):ComputesO cx 104 [.ptr 0 0 0 0 0,.d (.agg [I a0,.v (.string a1),.lst false 1 a2,.lst false 1 a3,.v (.string a4)])] (some (Qb a5 a6 a7 a8 a9 a10 a11 a12 a13 a14 a15 a16)) (.d (.tup [])) (Qb r.1 r.2.1 r.2.2.1 r.2.2.2.1 r.2.2.2.2.1 r.2.2.2.2.2.1 r.2.2.2.2.2.2.1 r.2.2.2.2.2.2.2.1 r.2.2.2.2.2.2.2.2.1 r.2.2.2.2.2.2.2.2.2.1 r.2.2.2.2.2.2.2.2.2.2.1 r.2.2.2.2.2.2.2.2.2.2.2) []:=by
 unfold WO at h
 obtain ⟨h1,h⟩:=gd h;obtain ⟨h2,h⟩:=gd h;obtain ⟨h3,h⟩:=gd h
 have q:=Qa (ro 65 h3) (Qa h2 (Qa h1 QL))
 let o (l:List Orc):=b1::b1::b1::b1::l
 rcases io h with ⟨h4,h⟩ | ⟨h4,h⟩
 ·obtain ⟨h5,h⟩:=gd h;obtain ⟨h6,h⟩:=gd h
  have q:=Qa h6 (Qa h5 (Qa h4 q))
  let o l:=o (b1::.ix 0::b1::b1::l)
  obtain ⟨t7,h7,h⟩:=bo h
  rcases t7 with t7 | t7
  ·cases h
   exact rfO 0 (o [.lp [] [2,3,6,7,8] [0,1,2,10,11,12,13,17,18,22,26,83,84] (.exit 0) [(2,.ptr 83 0 0 0 0),(3,.ptr 84 0 0 0 0)] [(0,.box (.agg [.own 1 1,.own 2 1,.d (I a7),.d (I a8),.d (B a9),.d (B a10),.d (I a11),.d (I a12),.d (I a13),.own 10 0,.own 11 0,.own 12 0])),(1,.row 1 5 (a5++([.agg [I a0,.v (.string a1),.lst false 1 (a2.take ((List.replicate (Int.toNat ((a2).length:Int)) (.v (.string ⟨#[]⟩):D)):jVj).length++(List.replicate (Int.toNat ((a2).length:Int)) (.v (.string ⟨#[]⟩):D)).drop (a2).length),.lst false 1 (a3.take ((List.replicate (Int.toNat ((a3).length:Int)) (I 0:D)):jVj).length++(List.replicate (Int.toNat ((a3).length:Int)) (I 0:D)).drop (a3).length),.v (.string a4)]]:jVj))),(2,.row 1 5 (a6.take (Int.toNat (((a6).length:Int) - 1)))),(10,.row 0 1 a14),(11,.row 0 6 a15),(12,.row 0 7 a16),(13,.box (.agg [.d (I a0),.d (.v (.string a1)),.own 22 0,.own 26 0,.d (.v (.string a4))])),(17,.box (.agg [.d (I a0),.d (.v (.string a1)),.own 22 0,.own 26 0,.d (.v (.string a4))])),(18,.box (.agg [.d (I a0),.d (.v (.string a1)),.own 22 0,.own 26 0,.d (.v (.string a4))])),(22,.frozen 0 1 (a2.take ((List.replicate (Int.toNat ((a2).length:Int)) (.v (.string ⟨#[]⟩):D)):jVj).length++(List.replicate (Int.toNat ((a2).length:Int)) (.v (.string ⟨#[]⟩):D)).drop (a2).length)),(26,.frozen 0 1 (a3.take ((List.replicate (Int.toNat ((a3).length:Int)) (I 0:D)):jVj).length++(List.replicate (Int.toNat ((a3).length:Int)) (I 0:D)).drop (a3).length)),(83,.box (.d (.agg [I 0,I 0,B false,B false,I 0,I 0,I 0,.lst true 0 [],.lst true 0 [],.lst true 0 []]))),(84,.box (.d (.agg [I 0,I 0,B false,B false,I 0,I 0,I 0,.lst true 0 [],.lst true 0 [],.lst true 0 []])))] 135]) (Qa (QH Ul h7) q)
  cases h
  exact rfO 0 (o [.lp [] [2,3,6,7,8] [0,1,2,10,11,12,13,17,18,22,26,83,84] (.exit 0) [(2,.ptr 83 0 0 0 0),(3,.ptr 84 0 0 0 0)] [(0,.box (.agg [.own 1 1,.own 2 1,.d (I a7),.d (I a8),.d (B a9),.d (B a10),.d (I a11),.d (I a12),.d (I a13),.own 10 0,.own 11 0,.own 12 0])),(1,.row 1 5 (a5++([.agg [I a0,.v (.string a1),.lst false 1 (a2.take ((List.replicate (Int.toNat ((a2).length:Int)) (.v (.string ⟨#[]⟩):D)):jVj).length++(List.replicate (Int.toNat ((a2).length:Int)) (.v (.string ⟨#[]⟩):D)).drop (a2).length),.lst false 1 (a3.take ((List.replicate (Int.toNat ((a3).length:Int)) (I 0:D)):jVj).length++(List.replicate (Int.toNat ((a3).length:Int)) (I 0:D)).drop (a3).length),.v (.string a4)]]:jVj))),(2,.row 1 5 (a6.take (Int.toNat (((a6).length:Int) - 1)))),(10,.row 0 1 a14),(11,.row 0 6 a15),(12,.row 0 7 a16),(13,.box (.agg [.d (I a0),.d (.v (.string a1)),.own 22 0,.own 26 0,.d (.v (.string a4))])),(17,.box (.agg [.d (I a0),.d (.v (.string a1)),.own 22 0,.own 26 0,.d (.v (.string a4))])),(18,.box (.agg [.d (I a0),.d (.v (.string a1)),.own 22 0,.own 26 0,.d (.v (.string a4))])),(22,.frozen 0 1 (a2.take ((List.replicate (Int.toNat ((a2).length:Int)) (.v (.string ⟨#[]⟩):D)):jVj).length++(List.replicate (Int.toNat ((a2).length:Int)) (.v (.string ⟨#[]⟩):D)).drop (a2).length)),(26,.frozen 0 1 (a3.take ((List.replicate (Int.toNat ((a3).length:Int)) (I 0:D)):jVj).length++(List.replicate (Int.toNat ((a3).length:Int)) (I 0:D)).drop (a3).length)),(83,.box (.d (.agg [I 0,I 0,B false,B false,I 0,I 0,I 0,.lst true 0 [],.lst true 0 [],.lst true 0 []]))),(84,.box (.agg [.d (I t7.1),.d (I t7.2.1),.d (B t7.2.2.1),.d (B t7.2.2.2.1),.d (I t7.2.2.2.2.1),.d (I t7.2.2.2.2.2.1),.d (I t7.2.2.2.2.2.2.1),.own 102 0,.own 103 0,.own 104 0])),(102,.row 0 1 t7.2.2.2.2.2.2.2.1),(103,.row 0 6 t7.2.2.2.2.2.2.2.2.1),(104,.row 0 7 t7.2.2.2.2.2.2.2.2.2)] 135]) (Qa (QH Ul h7) q)
 obtain ⟨h5,h⟩:=gd h;obtain ⟨t6,h6,h⟩:=bo h
 cases h
 exact rfO 0 (o [b0,b1,.ix (-9),.obj (some 0) (.d (.tup [])) (Qb (a5++([.agg [I a0,.v (.string a1),.lst false 1 (a2.take ((List.replicate (Int.toNat ((a2).length:Int)) (.v (.string ⟨#[]⟩):D)):jVj).length++(List.replicate (Int.toNat ((a2).length:Int)) (.v (.string ⟨#[]⟩):D)).drop (a2).length),.lst false 1 (a3.take ((List.replicate (Int.toNat ((a3).length:Int)) (I 0:D)):jVj).length++(List.replicate (Int.toNat ((a3).length:Int)) (I 0:D)).drop (a3).length),.v (.string a4)]]:jVj)) (a6++([.agg [I a0,.v (.string a1),.lst false 1 (a2.take ((List.replicate (Int.toNat ((a2).length:Int)) (.v (.string ⟨#[]⟩):D)):jVj).length++(List.replicate (Int.toNat ((a2).length:Int)) (.v (.string ⟨#[]⟩):D)).drop (a2).length),.lst false 1 (a3.take ((List.replicate (Int.toNat ((a3).length:Int)) (I 0:D)):jVj).length++(List.replicate (Int.toNat ((a3).length:Int)) (I 0:D)).drop (a3).length),.v (.string a4)]]:jVj)) t6.1 t6.2.1 t6.2.2.1 t6.2.2.2.1 t6.2.2.2.2.1 t6.2.2.2.2.2.1 t6.2.2.2.2.2.2.1 t6.2.2.2.2.2.2.2.1 t6.2.2.2.2.2.2.2.2.1 t6.2.2.2.2.2.2.2.2.2) [true,true]]) (Qa (J1 h6) (Qa (ro 65 h5) (Qa (QA h4) q)))
def QR (n:Nat) (a0:jVj) (sa:(Unit)⊕(Int×Int×Int×Bool×Bool×Int×Int×Int×jVj×jVj×jVj×jVj×jVj)):Option (((Unit)⊕(Int×Int×Int×Bool×Bool×Int×Int×Int×jVj×jVj×jVj×jVj×jVj))⊕((Int×Int×Int×Int×Bool×Bool×Int×Int×Int×jVj×jVj×jVj×jVj×jVj)⊕(Int)⊕(Unit)⊕(Int×Int×Bool×Bool×Int×Int×Int×jVj×jVj×jVj×jVj×jVj))):=match sa with
 | (.inl sa)=>(
  if 0 < ((a0).length:Int) then
   (el Ze a0 0).bind fun ta2 =>
   (WX n ta2.1 ta2.2.1 ta2.2.2.1 ta2.2.2.2.1 ta2.2.2.2.2).bind fun ta3 =>
   if ta3=0 then
    (Qs n ta2.1 ta2.2.1 ta2.2.2.1 ta2.2.2.2.1 ta2.2.2.2.2 ([]) ([]) 0 0 false false 0 0 0 ([]) ([]) ([])).bind fun ta5 =>
    if ta5=0 then
     (WO n ta2.1 ta2.2.1 ta2.2.2.1 ta2.2.2.2.1 ta2.2.2.2.2 ([]) ([]) 0 0 false false 0 0 0 ([]) ([]) ([])).bind fun ta7 =>
     some (.inl (.inr (1,ta7.2.2.1,ta7.2.2.2.1,ta7.2.2.2.2.1,ta7.2.2.2.2.2.1,ta7.2.2.2.2.2.2.1,ta7.2.2.2.2.2.2.2.1,ta7.2.2.2.2.2.2.2.2.1,ta7.1,ta7.2.1,ta7.2.2.2.2.2.2.2.2.2.1,ta7.2.2.2.2.2.2.2.2.2.2.1,ta7.2.2.2.2.2.2.2.2.2.2.2)))
    else
    some (.inr (.inl (1,ta5,0,0,false,false,0,0,0,[],[],[],[],[])))
   else
   some (.inr (.inr (.inl ta3)))
  else
  some (.inr (.inr (.inr (.inl ())))))
 | (.inr sa)=>(
  if sa.1 < ((a0).length:Int) then
   (el Ze a0 sa.1).bind fun ta2 =>
   (WX n ta2.1 ta2.2.1 ta2.2.2.1 ta2.2.2.2.1 ta2.2.2.2.2).bind fun ta3 =>
   if ta3=0 then
    (Qs n ta2.1 ta2.2.1 ta2.2.2.1 ta2.2.2.2.1 ta2.2.2.2.2 sa.2.2.2.2.2.2.2.2.1 sa.2.2.2.2.2.2.2.2.2.1 sa.2.1 sa.2.2.1 sa.2.2.2.1 sa.2.2.2.2.1 sa.2.2.2.2.2.1 sa.2.2.2.2.2.2.1 sa.2.2.2.2.2.2.2.1 sa.2.2.2.2.2.2.2.2.2.2.1 sa.2.2.2.2.2.2.2.2.2.2.2.1 sa.2.2.2.2.2.2.2.2.2.2.2.2).bind fun ta5 =>
    if ta5=0 then
     (WO n ta2.1 ta2.2.1 ta2.2.2.1 ta2.2.2.2.1 ta2.2.2.2.2 sa.2.2.2.2.2.2.2.2.1 sa.2.2.2.2.2.2.2.2.2.1 sa.2.1 sa.2.2.1 sa.2.2.2.1 sa.2.2.2.2.1 sa.2.2.2.2.2.1 sa.2.2.2.2.2.2.1 sa.2.2.2.2.2.2.2.1 sa.2.2.2.2.2.2.2.2.2.2.1 sa.2.2.2.2.2.2.2.2.2.2.2.1 sa.2.2.2.2.2.2.2.2.2.2.2.2).bind fun ta7 =>
     if Qh (sa.1+1) then
     some (.inl (.inr ((sa.1+1),ta7.2.2.1,ta7.2.2.2.1,ta7.2.2.2.2.1,ta7.2.2.2.2.2.1,ta7.2.2.2.2.2.2.1,ta7.2.2.2.2.2.2.2.1,ta7.2.2.2.2.2.2.2.2.1,ta7.1,ta7.2.1,ta7.2.2.2.2.2.2.2.2.2.1,ta7.2.2.2.2.2.2.2.2.2.2.1,ta7.2.2.2.2.2.2.2.2.2.2.2)))
     else none
    else
    if Qh (sa.1+1) then
    some (.inr (.inl ((sa.1+1),ta5,sa.2.1,sa.2.2.1,sa.2.2.2.1,sa.2.2.2.2.1,sa.2.2.2.2.2.1,sa.2.2.2.2.2.2.1,sa.2.2.2.2.2.2.2.1,sa.2.2.2.2.2.2.2.2.1,sa.2.2.2.2.2.2.2.2.2.1,sa.2.2.2.2.2.2.2.2.2.2.1,sa.2.2.2.2.2.2.2.2.2.2.2.1,sa.2.2.2.2.2.2.2.2.2.2.2.2)))
    else none
   else
   if Qh (sa.1+1) then
   some (.inr (.inl ((sa.1+1),ta3,sa.2.1,sa.2.2.1,sa.2.2.2.1,sa.2.2.2.2.1,sa.2.2.2.2.2.1,sa.2.2.2.2.2.2.1,sa.2.2.2.2.2.2.2.1,sa.2.2.2.2.2.2.2.2.1,sa.2.2.2.2.2.2.2.2.2.1,sa.2.2.2.2.2.2.2.2.2.2.1,sa.2.2.2.2.2.2.2.2.2.2.2.1,sa.2.2.2.2.2.2.2.2.2.2.2.2)))
   else none
  else
  some (.inr (.inr (.inr (.inr (sa.2.1,sa.2.2.1,sa.2.2.2.1,sa.2.2.2.2.1,sa.2.2.2.2.2.1,sa.2.2.2.2.2.2.1,sa.2.2.2.2.2.2.2.1,sa.2.2.2.2.2.2.2.2.1,sa.2.2.2.2.2.2.2.2.2.1,sa.2.2.2.2.2.2.2.2.2.2.1,sa.2.2.2.2.2.2.2.2.2.2.2.1,sa.2.2.2.2.2.2.2.2.2.2.2.2))))))
noncomputable def X4 (a0:jVj):Lp ((Unit)⊕(Int×Int×Int×Bool×Bool×Int×Int×Int×jVj×jVj×jVj×jVj×jVj)) ((Int×Int×Int×Int×Bool×Bool×Int×Int×Int×jVj×jVj×jVj×jVj×jVj)⊕(Int)⊕(Unit)⊕(Int×Int×Bool×Bool×Int×Int×Int×jVj×jVj×jVj×jVj×jVj)):=⟨fun
 | (.inl sa)=>[(5,.ptr 4 0 0 0 0),(15,.d (.lst false 5 a0)),(16,.d (I ((a0).length:Int))),(17,.d (I 0))]
 | (.inr sa)=>[(5,.ptr 4 0 0 0 0),(15,.d (.lst false 5 a0)),(16,.d (I ((a0).length:Int))),(17,.d (I sa.1))],fun
 | (.inl sa)=>[(4,.box (.d (.agg [.lst true 0 [],.lst true 0 [],I 0,I 0,B false,B false,I 0,I 0,I 0,.lst true 0 [],.lst true 0 [],.lst true 0 []])))]
 | (.inr sa)=>[(4,.box (.agg [.own 28 0,.own 29 0,.d (I sa.2.1),.d (I sa.2.2.1),.d (B sa.2.2.2.1),.d (B sa.2.2.2.2.1),.d (I sa.2.2.2.2.2.1),.d (I sa.2.2.2.2.2.2.1),.d (I sa.2.2.2.2.2.2.2.1),.own 37 0,.own 38 0,.own 39 0])),(28,.row 0 5 sa.2.2.2.2.2.2.2.2.1),(29,.row 0 5 sa.2.2.2.2.2.2.2.2.2.1),(37,.row 0 1 sa.2.2.2.2.2.2.2.2.2.2.1),(38,.row 0 6 sa.2.2.2.2.2.2.2.2.2.2.2.1),(39,.row 0 7 sa.2.2.2.2.2.2.2.2.2.2.2.2)],fun
 | (.inl e)=>.ret
 | (.inr (.inl e))=>.ret
 | (.inr (.inr (.inl e)))=>(.exit 0)
 | (.inr (.inr (.inr e)))=>(.exit 0),fun
 | (.inl e)=>[(2,.ptr 4 0 0 0 0),(3,.d (I e.1)),(4,.d (I e.2.1))]
 | (.inr (.inl e))=>[(2,.ptr 4 0 0 0 0),(3,.d (I 1)),(4,.d (I e))]
 | (.inr (.inr (.inl e)))=>[(5,.ptr 4 0 0 0 0)]
 | (.inr (.inr (.inr e)))=>[(5,.ptr 4 0 0 0 0)],fun
 | (.inl e)=>[(4,.box (.agg [.own 28 0,.own 29 0,.d (I e.2.2.1),.d (I e.2.2.2.1),.d (B e.2.2.2.2.1),.d (B e.2.2.2.2.2.1),.d (I e.2.2.2.2.2.2.1),.d (I e.2.2.2.2.2.2.2.1),.d (I e.2.2.2.2.2.2.2.2.1),.own 37 0,.own 38 0,.own 39 0])),(28,.row 0 5 e.2.2.2.2.2.2.2.2.2.1),(29,.row 0 5 e.2.2.2.2.2.2.2.2.2.2.1),(37,.row 0 1 e.2.2.2.2.2.2.2.2.2.2.2.1),(38,.row 0 6 e.2.2.2.2.2.2.2.2.2.2.2.2.1),(39,.row 0 7 e.2.2.2.2.2.2.2.2.2.2.2.2.2)]
 | (.inr (.inl e))=>[(4,.box (.d (.agg [.lst true 0 [],.lst true 0 [],I 0,I 0,B false,B false,I 0,I 0,I 0,.lst true 0 [],.lst true 0 [],.lst true 0 []])))]
 | (.inr (.inr (.inl e)))=>[(4,.box (.d (.agg [.lst true 0 [],.lst true 0 [],I 0,I 0,B false,B false,I 0,I 0,I 0,.lst true 0 [],.lst true 0 [],.lst true 0 []])))]
 | (.inr (.inr (.inr e)))=>[(4,.box (.agg [.own 28 0,.own 29 0,.d (I e.1),.d (I e.2.1),.d (B e.2.2.1),.d (B e.2.2.2.1),.d (I e.2.2.2.2.1),.d (I e.2.2.2.2.2.1),.d (I e.2.2.2.2.2.2.1),.own 37 0,.own 38 0,.own 39 0])),(28,.row 0 5 e.2.2.2.2.2.2.2.1),(29,.row 0 5 e.2.2.2.2.2.2.2.2.1),(37,.row 0 1 e.2.2.2.2.2.2.2.2.2.1),(38,.row 0 6 e.2.2.2.2.2.2.2.2.2.2.1),(39,.row 0 7 e.2.2.2.2.2.2.2.2.2.2.2)]⟩
theorem VJ {n:Nat} {a0:jVj} (sa:(Unit)⊕(Int×Int×Int×Bool×Bool×Int×Int×Int×jVj×jVj×jVj×jVj×jVj)) (r) (h:QR n a0 sa=some r):Rl (ZJ cx.P 61 0) 40 0 false (X4 a0) sa r:=by
 unfold QR at h
 rcases sa with sa | sa
 ·rcases io h with ⟨ha1,h⟩ | ⟨ha1,h⟩
  ·obtain ⟨ta2,ha2,h⟩:=bo h;obtain ⟨ta3,ha3,h⟩:=bo h
   have q:=Qa (Ja ha3) (allE Ql ha2 (Qa (jDj ha1) QL))
   let o (l:List Orc):=b1::.el (QP ta2)::.ret (I ta3)::l
   rcases io h with ⟨ha4,h⟩ | ⟨ha4,h⟩
   ·obtain ⟨ta5,ha5,h⟩:=bo h
    have q:=Qa (YZ ha5) (Qa (eqt ha4) q)
    let o l:=o (b1::.obj (some 4) (.d (I ta5)) (Qb ([]) ([]) 0 0 false false 0 0 0 ([]) ([]) ([])) ZV::l)
    rcases io h with ⟨ha6,h⟩ | ⟨ha6,h⟩
    ·obtain ⟨ta7,ha7,h⟩:=bo h
     cases h
     exact rn 12 (o [b0,.obj (some 4) (.d (.tup [])) (Qb ta7.1 ta7.2.1 ta7.2.2.1 ta7.2.2.2.1 ta7.2.2.2.2.1 ta7.2.2.2.2.2.1 ta7.2.2.2.2.2.2.1 ta7.2.2.2.2.2.2.2.1 ta7.2.2.2.2.2.2.2.2.1 ta7.2.2.2.2.2.2.2.2.2.1 ta7.2.2.2.2.2.2.2.2.2.2.1 ta7.2.2.2.2.2.2.2.2.2.2.2) []]) [] [5,15,16,17] [4,28,29,37,38,39] (Qa ((by unfold Qh;omega):Qh 1) (Qa (Kf ha7) (Qa (nef ha6) q)))
    cases h
    exact rx 12 (o [b1]) [] [2,3,4] [4,28,29,37,38,39] (Qa ((by unfold Qh;omega):Qh 1) (Qa (net ha6) q))
   cases h
   exact rx 12 (o [b0,b1]) [] [2,3,4] [4] (Qa ((by unfold Qh;omega):Qh 1) (Qa (net ha4) (Qa (eqf ha4) q)))
  cases h
  exact rx 12 [b0] [] [5] [4] (Qa (jEj ha1) QL)
 ·rcases io h with ⟨ha1,h⟩ | ⟨ha1,h⟩
  ·obtain ⟨ta2,ha2,h⟩:=bo h;obtain ⟨ta3,ha3,h⟩:=bo h
   have q:=Qa (Ja ha3) (allE Ql ha2 (Qa (jDj ha1) QL))
   let o (l:List Orc):=b1::.el (QP ta2)::.ret (I ta3)::l
   rcases io h with ⟨ha4,h⟩ | ⟨ha4,h⟩
   ·obtain ⟨ta5,ha5,h⟩:=bo h
    have q:=Qa (YZ ha5) (Qa (eqt ha4) q)
    let o l:=o (b1::.obj (some 4) (.d (I ta5)) (Qb sa.2.2.2.2.2.2.2.2.1 sa.2.2.2.2.2.2.2.2.2.1 sa.2.1 sa.2.2.1 sa.2.2.2.1 sa.2.2.2.2.1 sa.2.2.2.2.2.1 sa.2.2.2.2.2.2.1 sa.2.2.2.2.2.2.2.1 sa.2.2.2.2.2.2.2.2.2.2.1 sa.2.2.2.2.2.2.2.2.2.2.2.1 sa.2.2.2.2.2.2.2.2.2.2.2.2) ZV::l)
    rcases io h with ⟨ha6,h⟩ | ⟨ha6,h⟩
    ·obtain ⟨ta7,ha7,h⟩:=bo h;obtain ⟨ha8,h⟩:=gd h
     cases h
     exact rn 40 (o [b0,.obj (some 4) (.d (.tup [])) (Qb ta7.1 ta7.2.1 ta7.2.2.1 ta7.2.2.2.1 ta7.2.2.2.2.1 ta7.2.2.2.2.2.1 ta7.2.2.2.2.2.2.1 ta7.2.2.2.2.2.2.2.1 ta7.2.2.2.2.2.2.2.2.1 ta7.2.2.2.2.2.2.2.2.2.1 ta7.2.2.2.2.2.2.2.2.2.2.1 ta7.2.2.2.2.2.2.2.2.2.2.2) []]) [] [5,15,16,17] [4,28,29,37,38,39] (Qa ha8 (Qa (Kf ha7) (Qa (nef ha6) q)))
    obtain ⟨ha7,h⟩:=gd h
    cases h
    exact rx 40 (o [b1]) [] [2,3,4] [4,28,29,37,38,39] (Qa ha7 (Qa (net ha6) q))
   obtain ⟨ha5,h⟩:=gd h
   cases h
   exact rx 40 (o [b0,b1]) [] [2,3,4] [4,28,29,37,38,39] (Qa ha5 (Qa (net ha4) (Qa (eqf ha4) q)))
  cases h
  exact rx 40 [b0] [] [5] [4,28,29,37,38,39] (Qa (jEj ha1) QL)
def Q6 (n:Nat) (a0:jVj):Option (Int×Int×jVj×jVj×jRj) :=
 if ((a0).length:Int) > 1000 then
  some (0,5,[],[],0,0,false,false,0,0,0,[],[],[])
 else
 (Q2 (QR n a0) n (.inl ())).bind fun t2=>match t2 with
  | (.inl t2)=>(
   some (t2.1,t2.2.1,t2.2.2.2.2.2.2.2.2.2.1,t2.2.2.2.2.2.2.2.2.2.2.1,t2.2.2.1,t2.2.2.2.1,t2.2.2.2.2.1,t2.2.2.2.2.2.1,t2.2.2.2.2.2.2.1,t2.2.2.2.2.2.2.2.1,t2.2.2.2.2.2.2.2.2.1,t2.2.2.2.2.2.2.2.2.2.2.2.1,t2.2.2.2.2.2.2.2.2.2.2.2.2.1,t2.2.2.2.2.2.2.2.2.2.2.2.2.2))
  | (.inr (.inl t2))=>(
   some (1,t2,[],[],0,0,false,false,0,0,0,[],[],[]))
  | (.inr (.inr (.inl t2)))=>(
   some (0,0,[],[],0,0,false,false,0,0,0,[],[],[]))
  | (.inr (.inr (.inr t2)))=>(
   some (0,0,t2.2.2.2.2.2.2.2.1,t2.2.2.2.2.2.2.2.2.1,t2.1,t2.2.1,t2.2.2.1,t2.2.2.2.1,t2.2.2.2.2.1,t2.2.2.2.2.2.1,t2.2.2.2.2.2.2.1,t2.2.2.2.2.2.2.2.2.2.1,t2.2.2.2.2.2.2.2.2.2.2.1,t2.2.2.2.2.2.2.2.2.2.2.2))
theorem We {n:Nat} {a0:jVj} {r:Int×Int×jVj×jVj×jRj} (h:Q6 n a0=some r):ComputesO cx 61 [.d (.lst false 5 a0)] none (.tup [.ptr 0 0 0 0 0,.d (I r.1),.d (I r.2.1)]) (Qb r.2.2.1 r.2.2.2.1 r.2.2.2.2.1 r.2.2.2.2.2.1 r.2.2.2.2.2.2.1 r.2.2.2.2.2.2.2.1 r.2.2.2.2.2.2.2.2.1 r.2.2.2.2.2.2.2.2.2.1 r.2.2.2.2.2.2.2.2.2.2.1 r.2.2.2.2.2.2.2.2.2.2.2.1 r.2.2.2.2.2.2.2.2.2.2.2.2.1 r.2.2.2.2.2.2.2.2.2.2.2.2.2) []:=by
 unfold Q6 at h
 rcases io h with ⟨h1,h⟩ | ⟨h1,h⟩
 ·cases h
  exact rfO 4 [b1] (Qa (jDj h1) QL)
 have q:=Qa (jEj h1) QL
 obtain ⟨t2,h2,h⟩:=bo h
 rcases t2 with t2 | t2 | t2 | t2
 ·cases h
  exact rfO 4 [b0,.lp [] [5,15,16,17] [4] .ret [(2,.ptr 4 0 0 0 0),(3,.d (I t2.1)),(4,.d (I t2.2.1))] [(4,.box (.agg [.own 28 0,.own 29 0,.d (I t2.2.2.1),.d (I t2.2.2.2.1),.d (B t2.2.2.2.2.1),.d (B t2.2.2.2.2.2.1),.d (I t2.2.2.2.2.2.2.1),.d (I t2.2.2.2.2.2.2.2.1),.d (I t2.2.2.2.2.2.2.2.2.1),.own 37 0,.own 38 0,.own 39 0])),(28,.row 0 5 t2.2.2.2.2.2.2.2.2.2.1),(29,.row 0 5 t2.2.2.2.2.2.2.2.2.2.2.1),(37,.row 0 1 t2.2.2.2.2.2.2.2.2.2.2.2.1),(38,.row 0 6 t2.2.2.2.2.2.2.2.2.2.2.2.2.1),(39,.row 0 7 t2.2.2.2.2.2.2.2.2.2.2.2.2.2)] 86] (Qa (QH VJ h2) q)
 ·cases h
  exact rfO 4 [b0,.lp [] [5,15,16,17] [4] .ret [(2,.ptr 4 0 0 0 0),(3,.d (I 1)),(4,.d (I t2))] [(4,.box (.d (.agg [.lst true 0 [],.lst true 0 [],I 0,I 0,B false,B false,I 0,I 0,I 0,.lst true 0 [],.lst true 0 [],.lst true 0 []])))] 86] (Qa (QH VJ h2) q)
 ·cases h
  exact rfO 4 [b0,.lp [] [5,15,16,17] [4] (.exit 0) [(5,.ptr 4 0 0 0 0)] [(4,.box (.d (.agg [.lst true 0 [],.lst true 0 [],I 0,I 0,B false,B false,I 0,I 0,I 0,.lst true 0 [],.lst true 0 [],.lst true 0 []])))] 86] (Qa (QH VJ h2) q)
 cases h
 exact rfO 4 [b0,.lp [] [5,15,16,17] [4] (.exit 0) [(5,.ptr 4 0 0 0 0)] [(4,.box (.agg [.own 28 0,.own 29 0,.d (I t2.1),.d (I t2.2.1),.d (B t2.2.2.1),.d (B t2.2.2.2.1),.d (I t2.2.2.2.2.1),.d (I t2.2.2.2.2.2.1),.d (I t2.2.2.2.2.2.2.1),.own 37 0,.own 38 0,.own 39 0])),(28,.row 0 5 t2.2.2.2.2.2.2.2.1),(29,.row 0 5 t2.2.2.2.2.2.2.2.2.1),(37,.row 0 1 t2.2.2.2.2.2.2.2.2.2.1),(38,.row 0 6 t2.2.2.2.2.2.2.2.2.2.2.1),(39,.row 0 7 t2.2.2.2.2.2.2.2.2.2.2.2)] 86] (Qa (QH VJ h2) q)
def Uq (n:Nat) (a0:jVj):Option (Int×Int) :=
 (Q6 n a0).bind fun t1 =>
 if t1.2.1=0 then
  (Wq n t1.2.2.1 t1.2.2.2.1 t1.2.2.2.2.1 t1.2.2.2.2.2.1 t1.2.2.2.2.2.2.1 t1.2.2.2.2.2.2.2.1 t1.2.2.2.2.2.2.2.2.1 t1.2.2.2.2.2.2.2.2.2.1 t1.2.2.2.2.2.2.2.2.2.2.1 t1.2.2.2.2.2.2.2.2.2.2.2.1 t1.2.2.2.2.2.2.2.2.2.2.2.2.1 t1.2.2.2.2.2.2.2.2.2.2.2.2.2).bind fun t3 =>
  some (t3,0)
 else
 some (0,t1.2.1)
theorem qt {n:Nat} {a0:jVj} {r:Int×Int} (h:Uq n a0=some r):Computes cx 15 [.lst false 5 a0] (.tup [I r.1,I r.2]):=by
 unfold Uq at h
 obtain ⟨t1,h1,h⟩:=bo h
 have q:=Qa (We h1) QL
 let o (l:List Orc):=.obj none (.tup [.ptr 0 0 0 0 0,.d (I t1.1),.d (I t1.2.1)]) (Qb t1.2.2.1 t1.2.2.2.1 t1.2.2.2.2.1 t1.2.2.2.2.2.1 t1.2.2.2.2.2.2.1 t1.2.2.2.2.2.2.2.1 t1.2.2.2.2.2.2.2.2.1 t1.2.2.2.2.2.2.2.2.2.1 t1.2.2.2.2.2.2.2.2.2.2.1 t1.2.2.2.2.2.2.2.2.2.2.2.1 t1.2.2.2.2.2.2.2.2.2.2.2.2.1 t1.2.2.2.2.2.2.2.2.2.2.2.2.2) []::l
 rcases io h with ⟨h2,h⟩ | ⟨h2,h⟩
 ·obtain ⟨t3,h3,h⟩:=bo h
  cases h
  exact rf (o [b0,.obj (some 11) (.d (I t3)) (Qb t1.2.2.1 t1.2.2.2.1 t1.2.2.2.2.1 t1.2.2.2.2.2.1 t1.2.2.2.2.2.2.1 t1.2.2.2.2.2.2.2.1 t1.2.2.2.2.2.2.2.2.1 t1.2.2.2.2.2.2.2.2.2.1 t1.2.2.2.2.2.2.2.2.2.2.1 t1.2.2.2.2.2.2.2.2.2.2.2.1 t1.2.2.2.2.2.2.2.2.2.2.2.2.1 t1.2.2.2.2.2.2.2.2.2.2.2.2.2) ZV]) (Qa (Ut h3) (Qa (nef h2) q))
 cases h
 exact rf (o [b1]) (Qa (net h2) q)
def UQ (n:Nat) (a0 a1:jSj) (a2 a3:Int) (a4 a5:Bool):Option (jSj) :=
 some a0
theorem jJ {n:Nat} {a0 a1:jSj} {a2 a3:Int} {a4 a5:Bool} {r:jSj} (h:UQ n a0 a1 a2 a3 a4 a5=some r):Computes cx 66 [.agg [.v (.string a0),.v (.string a1),I a2,I a3,B a4,B a5]] (.v (.string r)):=by
 unfold UQ at h
 obtain rfl:=oi h
 exact rf [] QL
def Wg (n:Nat) (t1:Int×Int×jVj×jVj×jRj) (sa:(Int)⊕(Int×jVj)):Option (((Int)⊕(Int×jVj))⊕((Unit)⊕(jVj))):=match sa with
 | (.inl sa)=>(
  if sa < ((t1.2.2.2.2.2.2.2.2.2.2.2.2.1).length:Int) then
   if 0≤sa∧sa < ((t1.2.2.2.2.2.2.2.2.2.2.2.2.1).length:Int) then
   ((nth (t1.2.2.2.2.2.2.2.2.2.2.2.2.1) (Int.toNat sa)).bind QM).bind fun ta3 =>
   if ta3.2.2.2.2.2=true then
    if Qh (sa+1) then
    some (.inl (.inr ((sa+1),[.agg [.v (.string ta3.1),.v (.string ta3.2.1),I ta3.2.2.1,I ta3.2.2.2.1,B ta3.2.2.2.2.1,B ta3.2.2.2.2.2]])))
    else none
   else
   if Qh (sa+1) then
   some (.inl (.inl (sa+1)))
   else none
   else none
  else
  some (.inr (.inl ())))
 | (.inr sa)=>(
  if sa.1 < ((t1.2.2.2.2.2.2.2.2.2.2.2.2.1).length:Int) then
   if 0≤sa.1∧sa.1 < ((t1.2.2.2.2.2.2.2.2.2.2.2.2.1).length:Int) then
   ((nth (t1.2.2.2.2.2.2.2.2.2.2.2.2.1) (Int.toNat sa.1)).bind QM).bind fun ta3 =>
   if ta3.2.2.2.2.2=true then
    if Wa 56 ((sa.2).length+1) then
    if Qh (sa.1+1) then
    some (.inl (.inr ((sa.1+1),(sa.2++([.agg [.v (.string ta3.1),.v (.string ta3.2.1),I ta3.2.2.1,I ta3.2.2.2.1,B ta3.2.2.2.2.1,B ta3.2.2.2.2.2]]:jVj)))))
    else none
    else none
   else
   if Qh (sa.1+1) then
   some (.inl (.inr ((sa.1+1),sa.2)))
   else none
   else none
  else
  some (.inr (.inr sa.2)))
noncomputable def zu (t1:Int×Int×jVj×jVj×jRj):Lp ((Int)⊕(Int×jVj)) ((Unit)⊕(jVj)):=⟨fun
 | (.inl sa)=>[(0,.own 45 0),(8,.own 22 0),(9,.d (I ((t1.2.2.2.2.2.2.2.2.2.2.2.2.1).length:Int))),(10,.d (I sa))]
 | (.inr sa)=>[(0,.own 45 0),(8,.own 22 0),(9,.d (I ((t1.2.2.2.2.2.2.2.2.2.2.2.2.1).length:Int))),(10,.d (I sa.1))],fun
 | (.inl sa)=>[(11,.box (.agg [.own 12 0,.own 13 0,.d (I t1.2.2.2.2.1),.d (I t1.2.2.2.2.2.1),.d (B t1.2.2.2.2.2.2.1),.d (B t1.2.2.2.2.2.2.2.1),.d (I t1.2.2.2.2.2.2.2.2.1),.d (I t1.2.2.2.2.2.2.2.2.2.1),.d (I t1.2.2.2.2.2.2.2.2.2.2.1),.own 21 0,.own 22 0,.own 23 0])),(12,.row 0 5 t1.2.2.1),(13,.row 0 5 t1.2.2.2.1),(21,.row 0 1 t1.2.2.2.2.2.2.2.2.2.2.2.1),(22,.row 0 6 t1.2.2.2.2.2.2.2.2.2.2.2.2.1),(23,.row 0 7 t1.2.2.2.2.2.2.2.2.2.2.2.2.2),(34,.box (.ptr 11 0 0 0 2)),(42,.box (.d (.lst true 0 []))),(45,.loop true [(6,.fn (.func 118) [] [.ptr 34 0 0 0 0]),(4,.d (.lst true 0 [])),(2,.ptr 42 0 0 0 0),(1,.fn (.func 118) [] [.ptr 34 0 0 0 0]),(0,.d (.lst true 0 []))] [7] (ZY cx.P 117 0).1 (ZY cx.P 117 0).2 13)]
 | (.inr sa)=>[(11,.box (.agg [.own 12 0,.own 13 0,.d (I t1.2.2.2.2.1),.d (I t1.2.2.2.2.2.1),.d (B t1.2.2.2.2.2.2.1),.d (B t1.2.2.2.2.2.2.2.1),.d (I t1.2.2.2.2.2.2.2.2.1),.d (I t1.2.2.2.2.2.2.2.2.2.1),.d (I t1.2.2.2.2.2.2.2.2.2.2.1),.own 21 0,.own 22 0,.own 23 0])),(12,.row 0 5 t1.2.2.1),(13,.row 0 5 t1.2.2.2.1),(21,.row 0 1 t1.2.2.2.2.2.2.2.2.2.2.2.1),(22,.row 0 6 t1.2.2.2.2.2.2.2.2.2.2.2.2.1),(23,.row 0 7 t1.2.2.2.2.2.2.2.2.2.2.2.2.2),(34,.box (.ptr 11 0 0 0 2)),(42,.box (.own 70 0)),(45,.loop true [(6,.fn (.func 118) [] [.ptr 34 0 0 0 0]),(4,.d (.lst true 0 [])),(2,.ptr 42 0 0 0 0),(1,.fn (.func 118) [] [.ptr 34 0 0 0 0]),(0,.d (.lst true 0 []))] [7] (ZY cx.P 117 0).1 (ZY cx.P 117 0).2 13),(70,.row 0 6 sa.2)],fun _=>(.exit 0),fun _=>[],fun
 | (.inl e)=>[(11,.box (.agg [.own 12 0,.own 13 0,.d (I t1.2.2.2.2.1),.d (I t1.2.2.2.2.2.1),.d (B t1.2.2.2.2.2.2.1),.d (B t1.2.2.2.2.2.2.2.1),.d (I t1.2.2.2.2.2.2.2.2.1),.d (I t1.2.2.2.2.2.2.2.2.2.1),.d (I t1.2.2.2.2.2.2.2.2.2.2.1),.own 21 0,.own 22 0,.own 23 0])),(12,.row 0 5 t1.2.2.1),(13,.row 0 5 t1.2.2.2.1),(21,.row 0 1 t1.2.2.2.2.2.2.2.2.2.2.2.1),(22,.row 0 6 t1.2.2.2.2.2.2.2.2.2.2.2.2.1),(23,.row 0 7 t1.2.2.2.2.2.2.2.2.2.2.2.2.2),(34,.box (.ptr 11 0 0 0 2)),(42,.box (.d (.lst true 0 []))),(45,.loop true [(6,.fn (.func 118) [] [.ptr 34 0 0 0 0]),(4,.d (.lst true 0 [])),(2,.ptr 42 0 0 0 0),(1,.fn (.func 118) [] [.ptr 34 0 0 0 0]),(0,.d (.lst true 0 []))] [7] (ZY cx.P 117 0).1 (ZY cx.P 117 0).2 13)]
 | (.inr e)=>[(11,.box (.agg [.own 12 0,.own 13 0,.d (I t1.2.2.2.2.1),.d (I t1.2.2.2.2.2.1),.d (B t1.2.2.2.2.2.2.1),.d (B t1.2.2.2.2.2.2.2.1),.d (I t1.2.2.2.2.2.2.2.2.1),.d (I t1.2.2.2.2.2.2.2.2.2.1),.d (I t1.2.2.2.2.2.2.2.2.2.2.1),.own 21 0,.own 22 0,.own 23 0])),(12,.row 0 5 t1.2.2.1),(13,.row 0 5 t1.2.2.2.1),(21,.row 0 1 t1.2.2.2.2.2.2.2.2.2.2.2.1),(22,.row 0 6 t1.2.2.2.2.2.2.2.2.2.2.2.2.1),(23,.row 0 7 t1.2.2.2.2.2.2.2.2.2.2.2.2.2),(34,.box (.ptr 11 0 0 0 2)),(42,.box (.own 70 0)),(45,.loop true [(6,.fn (.func 118) [] [.ptr 34 0 0 0 0]),(4,.d (.lst true 0 [])),(2,.ptr 42 0 0 0 0),(1,.fn (.func 118) [] [.ptr 34 0 0 0 0]),(0,.d (.lst true 0 []))] [7] (ZY cx.P 117 0).1 (ZY cx.P 117 0).2 13),(70,.row 0 6 e)]⟩
theorem Gu {n:Nat} {t1:Int×Int×jVj×jVj×jRj} (sa:(Int)⊕(Int×jVj)) (r) (h:Wg n t1 sa=some r):Rl (ZJ cx.P 118 0) 23 46 false (zu t1) sa r:=by
 unfold Wg at h
 rcases sa with sa | sa
 ·rcases io h with ⟨ha1,h⟩ | ⟨ha1,h⟩
  ·obtain ⟨ha2,h⟩:=gd h;obtain ⟨ta3,ha3,h⟩:=bo h
   have q:=Qa (QX Qq ha3) (Qa ha2 (Qa (jDj ha1) QL))
   let o (l:List Orc):=b1::b1::.el (QB ta3)::l
   rcases io h with ⟨ha4,h⟩ | ⟨ha4,h⟩
   ·obtain ⟨ha5,h⟩:=gd h
    cases h
    exact rn 52 (o [b1,.no,.no,.no]) [] [0,8,9,10] [11,12,13,21,22,23,34,42,45,70] (Qa ha5 (Qa ha4 q))
   obtain ⟨ha5,h⟩:=gd h
   cases h
   exact rn 52 (o [b0,.no]) [] [0,8,9,10] [11,12,13,21,22,23,34,42,45] (Qa ha5 (Qa (QA ha4) q))
  cases h
  exact rx 52 [b0] [] [] [11,12,13,21,22,23,34,42,45] (Qa (jEj ha1) QL)
 ·rcases io h with ⟨ha1,h⟩ | ⟨ha1,h⟩
  ·obtain ⟨ha2,h⟩:=gd h;obtain ⟨ta3,ha3,h⟩:=bo h
   have q:=Qa (QX Qq ha3) (Qa ha2 (Qa (jDj ha1) QL))
   let o (l:List Orc):=b1::b1::.el (QB ta3)::l
   rcases io h with ⟨ha4,h⟩ | ⟨ha4,h⟩
   ·obtain ⟨ha5,h⟩:=gd h;obtain ⟨ha6,h⟩:=gd h
    cases h
    exact rn 71 (o [b1,b1,.no]) [] [0,8,9,10] [11,12,13,21,22,23,34,42,45,70] (Qa ha6 (Qa (ro 73 ha5) (Qa ha4 q)))
   obtain ⟨ha5,h⟩:=gd h
   cases h
   exact rn 71 (o [b0,.no]) [] [0,8,9,10] [11,12,13,21,22,23,34,42,45,70] (Qa ha5 (Qa (QA ha4) q))
  cases h
  exact rx 71 [b0] [] [] [11,12,13,21,22,23,34,42,45,70] (Qa (jEj ha1) QL)
def Vj (n:Nat) (t1:Int×Int×jVj×jVj×jRj) (t3:jVj) (sa:(Int×jVj)):Option (((Int×jVj))⊕((jVj))) :=
 if sa.1 < ((t3).length:Int) then
  if 0≤sa.1∧sa.1 < ((t3).length:Int) then
  ((nth (t3) (Int.toNat sa.1)).bind QM).bind fun ta3 =>
  (UQ n ta3.1 ta3.2.1 ta3.2.2.1 ta3.2.2.2.1 ta3.2.2.2.2.1 ta3.2.2.2.2.2).bind fun ta4 =>
  if Wa 16 ((sa.2).length+1) then
  if Qh (sa.1+1) then
  some (.inl ((sa.1+1),(sa.2++([.v (.string ta4)]:jVj))))
  else none
  else none
  else none
 else
 some (.inr sa.2)
noncomputable def zt (t1:Int×Int×jVj×jVj×jRj) (t3:jVj):Lp ((Int×jVj)) ((jVj)):=⟨fun sa=>[(1,.d (.fn (.func 66) [] [])),(5,.own 111 0),(8,.own 70 0),(9,.d (I ((t3).length:Int))),(10,.d (I sa.1))],fun sa=>[(11,.box (.agg [.own 12 0,.own 13 0,.d (I t1.2.2.2.2.1),.d (I t1.2.2.2.2.2.1),.d (B t1.2.2.2.2.2.2.1),.d (B t1.2.2.2.2.2.2.2.1),.d (I t1.2.2.2.2.2.2.2.2.1),.d (I t1.2.2.2.2.2.2.2.2.2.1),.d (I t1.2.2.2.2.2.2.2.2.2.2.1),.own 21 0,.own 22 0,.own 23 0])),(12,.row 0 5 t1.2.2.1),(13,.row 0 5 t1.2.2.2.1),(21,.row 0 1 t1.2.2.2.2.2.2.2.2.2.2.2.1),(22,.row 0 6 t1.2.2.2.2.2.2.2.2.2.2.2.2.1),(23,.row 0 7 t1.2.2.2.2.2.2.2.2.2.2.2.2.2),(34,.box (.ptr 11 0 0 0 2)),(42,.box (.own 70 0)),(45,.dead),(70,.row 0 6 t3),(111,.row 0 1 sa.2)],fun _=>(.exit 0),fun _=>[(5,.own 111 0)],fun e=>[(11,.box (.agg [.own 12 0,.own 13 0,.d (I t1.2.2.2.2.1),.d (I t1.2.2.2.2.2.1),.d (B t1.2.2.2.2.2.2.1),.d (B t1.2.2.2.2.2.2.2.1),.d (I t1.2.2.2.2.2.2.2.2.1),.d (I t1.2.2.2.2.2.2.2.2.2.1),.d (I t1.2.2.2.2.2.2.2.2.2.2.1),.own 21 0,.own 22 0,.own 23 0])),(12,.row 0 5 t1.2.2.1),(13,.row 0 5 t1.2.2.2.1),(21,.row 0 1 t1.2.2.2.2.2.2.2.2.2.2.2.1),(22,.row 0 6 t1.2.2.2.2.2.2.2.2.2.2.2.2.1),(23,.row 0 7 t1.2.2.2.2.2.2.2.2.2.2.2.2.2),(34,.box (.ptr 11 0 0 0 2)),(42,.box (.own 70 0)),(45,.dead),(70,.row 0 6 t3),(111,.row 0 1 e)]⟩
theorem zk {n:Nat} {t1:Int×Int×jVj×jVj×jRj} {t3:jVj} (sa:(Int×jVj)) (r) (h:Vj n t1 t3 sa=some r):Rl (ZJ cx.P 63 0) 22 106 false (zt t1 t3) sa r:=by
 unfold Vj at h
 rcases io h with ⟨ha1,h⟩ | ⟨ha1,h⟩
 ·obtain ⟨ha2,h⟩:=gd h;obtain ⟨ta3,ha3,h⟩:=bo h;obtain ⟨ta4,ha4,h⟩:=bo h;obtain ⟨ha5,h⟩:=gd h;obtain ⟨ha6,h⟩:=gd h
  cases h
  exact rn 112 [b1,b1,.el (QB ta3),.ret (.v (.string ta4)),b1] [] [1,5,8,9,10] [11,12,13,21,22,23,34,42,45,70,111] (Qa ha6 (Qa (ro 9 ha5) (Qa (jJ ha4) (Qa (QX Qq ha3) (Qa ha2 (Qa (jDj ha1) QL))))))
 cases h
 exact rx 112 [b0] [] [5] [11,12,13,21,22,23,34,42,45,70,111] (Qa (jEj ha1) QL)
def YH (n:Nat) (a0:jVj):Option (jVj×Int) :=
 (Q6 n a0).bind fun t1 =>
 if t1.2.1=0 then
  (Q2 (Wg n t1) n (.inl 0)).bind fun t3=>match t3 with
   | (.inl t3)=>(
    some ([],0))
   | (.inr t3)=>(
    (Q2 (Vj n t1 t3) n (0,[])).bind fun t4 =>
    some (t4,0))
 else
 some ([],t1.2.1)
theorem Ed {n:Nat} {a0:jVj} {r:jVj×Int} (h:YH n a0=some r):Computes cx 16 [.lst false 5 a0] (.tup [.lst false 1 r.1,I r.2]):=by
 unfold YH at h
 obtain ⟨t1,h1,h⟩:=bo h
 have q:=Qa (We h1) QL
 let o (l:List Orc):=.obj none (.tup [.ptr 0 0 0 0 0,.d (I t1.1),.d (I t1.2.1)]) (Qb t1.2.2.1 t1.2.2.2.1 t1.2.2.2.2.1 t1.2.2.2.2.2.1 t1.2.2.2.2.2.2.1 t1.2.2.2.2.2.2.2.1 t1.2.2.2.2.2.2.2.2.1 t1.2.2.2.2.2.2.2.2.2.1 t1.2.2.2.2.2.2.2.2.2.2.1 t1.2.2.2.2.2.2.2.2.2.2.2.1 t1.2.2.2.2.2.2.2.2.2.2.2.2.1 t1.2.2.2.2.2.2.2.2.2.2.2.2.2) []::l
 rcases io h with ⟨h2,h⟩ | ⟨h2,h⟩
 ·have q:=Qa (nef h2) q
  let o l:=o (b0::b1::b1::b1::l)
  obtain ⟨t3,h3,h⟩:=bo h
  rcases t3 with t3 | t3
  ·cases h
   exact (rf (r:=.tup [.lst true 0 [],I 0]) (o [.lp [] [0,8,9,10] [11,12,13,21,22,23,34,42,45] (.exit 0) [] [(11,.box (.agg [.own 12 0,.own 13 0,.d (I t1.2.2.2.2.1),.d (I t1.2.2.2.2.2.1),.d (B t1.2.2.2.2.2.2.1),.d (B t1.2.2.2.2.2.2.2.1),.d (I t1.2.2.2.2.2.2.2.2.1),.d (I t1.2.2.2.2.2.2.2.2.2.1),.d (I t1.2.2.2.2.2.2.2.2.2.2.1),.own 21 0,.own 22 0,.own 23 0])),(12,.row 0 5 t1.2.2.1),(13,.row 0 5 t1.2.2.2.1),(21,.row 0 1 t1.2.2.2.2.2.2.2.2.2.2.2.1),(22,.row 0 6 t1.2.2.2.2.2.2.2.2.2.2.2.2.1),(23,.row 0 7 t1.2.2.2.2.2.2.2.2.2.2.2.2.2),(34,.box (.ptr 11 0 0 0 2)),(42,.box (.d (.lst true 0 []))),(45,.loop true [(6,.fn (.func 118) [] [.ptr 34 0 0 0 0]),(4,.d (.lst true 0 [])),(2,.ptr 42 0 0 0 0),(1,.fn (.func 118) [] [.ptr 34 0 0 0 0]),(0,.d (.lst true 0 []))] [7] (ZY cx.P 117 0).1 (ZY cx.P 117 0).2 13)] 104,b1,.no,.no]) (Qa (QH Gu h3) q)).le (LEs.refl _) (.tups (.cons (.nilF) (.cons (.refl _) (.nil))))
  obtain ⟨t4,h4,h⟩:=bo h
  cases h
  exact rf (o [.lp [] [0,8,9,10] [11,12,13,21,22,23,34,42,45] (.exit 0) [] [(11,.box (.agg [.own 12 0,.own 13 0,.d (I t1.2.2.2.2.1),.d (I t1.2.2.2.2.2.1),.d (B t1.2.2.2.2.2.2.1),.d (B t1.2.2.2.2.2.2.2.1),.d (I t1.2.2.2.2.2.2.2.2.1),.d (I t1.2.2.2.2.2.2.2.2.2.1),.d (I t1.2.2.2.2.2.2.2.2.2.2.1),.own 21 0,.own 22 0,.own 23 0])),(12,.row 0 5 t1.2.2.1),(13,.row 0 5 t1.2.2.2.1),(21,.row 0 1 t1.2.2.2.2.2.2.2.2.2.2.2.1),(22,.row 0 6 t1.2.2.2.2.2.2.2.2.2.2.2.2.1),(23,.row 0 7 t1.2.2.2.2.2.2.2.2.2.2.2.2.2),(34,.box (.ptr 11 0 0 0 2)),(42,.box (.own 70 0)),(45,.loop true [(6,.fn (.func 118) [] [.ptr 34 0 0 0 0]),(4,.d (.lst true 0 [])),(2,.ptr 42 0 0 0 0),(1,.fn (.func 118) [] [.ptr 34 0 0 0 0]),(0,.d (.lst true 0 []))] [7] (ZY cx.P 117 0).1 (ZY cx.P 117 0).2 13),(70,.row 0 6 t3)] 104,b1,.lp [5,1] [1,5,8,9,10] [11,12,13,21,22,23,34,42,45,70,111] (.exit 0) [(5,.own 111 0)] [(11,.box (.agg [.own 12 0,.own 13 0,.d (I t1.2.2.2.2.1),.d (I t1.2.2.2.2.2.1),.d (B t1.2.2.2.2.2.2.1),.d (B t1.2.2.2.2.2.2.2.1),.d (I t1.2.2.2.2.2.2.2.2.1),.d (I t1.2.2.2.2.2.2.2.2.2.1),.d (I t1.2.2.2.2.2.2.2.2.2.2.1),.own 21 0,.own 22 0,.own 23 0])),(12,.row 0 5 t1.2.2.1),(13,.row 0 5 t1.2.2.2.1),(21,.row 0 1 t1.2.2.2.2.2.2.2.2.2.2.2.1),(22,.row 0 6 t1.2.2.2.2.2.2.2.2.2.2.2.2.1),(23,.row 0 7 t1.2.2.2.2.2.2.2.2.2.2.2.2.2),(34,.box (.ptr 11 0 0 0 2)),(42,.box (.own 70 0)),(45,.dead),(70,.row 0 6 t3),(111,.row 0 1 t4)] 137]) (Qa (QH zk h4) (Qa (QH Gu h3) q))
 cases h
 exact (rf (r:=.tup [.lst true 0 [],I t1.2.1]) (o [b1]) (Qa (net h2) q)).le (LEs.refl _) (.tups (.cons (.nilF) (.cons (.refl _) (.nil))))
def Yh (n:Nat) (a0:jVj) (a1:Int):Option (Int×Int×Int) :=
 (Q6 n a0).bind fun t1 =>
 (ZE n a1 0 999999999).bind fun t2 =>
 (Qm n (decide (a1 < t1.2.2.2.2.1)) 22).bind fun t3 =>
 (Qo n ([I t1.2.1,I t2,I t3])).bind fun t4 =>
 if t4=0 then
  (Qp n a1 t1.2.2.1 t1.2.2.2.1 t1.2.2.2.2.1 t1.2.2.2.2.2.1 t1.2.2.2.2.2.2.1 t1.2.2.2.2.2.2.2.1 t1.2.2.2.2.2.2.2.2.1 t1.2.2.2.2.2.2.2.2.2.1 t1.2.2.2.2.2.2.2.2.2.2.1 t1.2.2.2.2.2.2.2.2.2.2.2.1 t1.2.2.2.2.2.2.2.2.2.2.2.2.1 t1.2.2.2.2.2.2.2.2.2.2.2.2.2).bind fun t6 =>
  if t6=0 then
   (Q8 n a1 t1.2.2.1 t1.2.2.2.1 t1.2.2.2.2.1 t1.2.2.2.2.2.1 t1.2.2.2.2.2.2.1 t1.2.2.2.2.2.2.2.1 t1.2.2.2.2.2.2.2.2.1 t1.2.2.2.2.2.2.2.2.2.1 t1.2.2.2.2.2.2.2.2.2.2.1 t1.2.2.2.2.2.2.2.2.2.2.2.1 t1.2.2.2.2.2.2.2.2.2.2.2.2.1 t1.2.2.2.2.2.2.2.2.2.2.2.2.2).bind fun t8 =>
   some (t8.1,t8.2,0)
  else
  some (0,0,t6)
 else
 some (0,0,t4)
theorem Xw {n:Nat} {a0:jVj} {a1:Int} {r:Int×Int×Int} (h:Yh n a0 a1=some r):Computes cx 17 [.lst false 5 a0,I a1] (.tup [.agg [I r.1,I r.2.1],I r.2.2]):=by
 unfold Yh at h
 obtain ⟨t1,h1,h⟩:=bo h;obtain ⟨t2,h2,h⟩:=bo h;obtain ⟨t3,h3,h⟩:=bo h;obtain ⟨t4,h4,h⟩:=bo h
 have q:=Qa (((Qx h4).le (.cons (.full _ _ _) (.nil)) (.refl _)):Computes cx 67 [.lst true 1 [I t1.2.1,I t2,I t3]] (I t4)) (Qa (Qu h3) (Qa (WK h2) (Qa (We h1) QL)))
 let o (l:List Orc):=.obj none (.tup [.ptr 0 0 0 0 0,.d (I t1.1),.d (I t1.2.1)]) (Qb t1.2.2.1 t1.2.2.2.1 t1.2.2.2.2.1 t1.2.2.2.2.2.1 t1.2.2.2.2.2.2.1 t1.2.2.2.2.2.2.2.1 t1.2.2.2.2.2.2.2.2.1 t1.2.2.2.2.2.2.2.2.2.1 t1.2.2.2.2.2.2.2.2.2.2.1 t1.2.2.2.2.2.2.2.2.2.2.2.1 t1.2.2.2.2.2.2.2.2.2.2.2.2.1 t1.2.2.2.2.2.2.2.2.2.2.2.2.2) []::.ret (I t2)::.ret (I t3)::.ret (I t4)::l
 rcases io h with ⟨h5,h⟩ | ⟨h5,h⟩
 ·obtain ⟨t6,h6,h⟩:=bo h
  have q:=Qa (Qv h6) (Qa (nef h5) q)
  let o l:=o (b0::.obj (some 11) (.d (I t6)) (Qb t1.2.2.1 t1.2.2.2.1 t1.2.2.2.2.1 t1.2.2.2.2.2.1 t1.2.2.2.2.2.2.1 t1.2.2.2.2.2.2.2.1 t1.2.2.2.2.2.2.2.2.1 t1.2.2.2.2.2.2.2.2.2.1 t1.2.2.2.2.2.2.2.2.2.2.1 t1.2.2.2.2.2.2.2.2.2.2.2.1 t1.2.2.2.2.2.2.2.2.2.2.2.2.1 t1.2.2.2.2.2.2.2.2.2.2.2.2.2) ZV::l)
  rcases io h with ⟨h7,h⟩ | ⟨h7,h⟩
  ·obtain ⟨t8,h8,h⟩:=bo h
   cases h
   exact rf (o [b0,.obj (some 11) (.d (.agg [I t8.1,I t8.2])) (Qb t1.2.2.1 t1.2.2.2.1 t1.2.2.2.2.1 t1.2.2.2.2.2.1 t1.2.2.2.2.2.2.1 t1.2.2.2.2.2.2.2.1 t1.2.2.2.2.2.2.2.2.1 t1.2.2.2.2.2.2.2.2.2.1 t1.2.2.2.2.2.2.2.2.2.2.1 t1.2.2.2.2.2.2.2.2.2.2.2.1 t1.2.2.2.2.2.2.2.2.2.2.2.2.1 t1.2.2.2.2.2.2.2.2.2.2.2.2.2) ZV]) (Qa (WA h8) (Qa (nef h7) q))
  cases h
  exact rf (o [b1]) (Qa (net h7) q)
 cases h
 exact rf (o [b1]) (Qa (net h5) q)
def Wt (n:Nat) (a0 a1 a2:Int):Option (Bool) :=
 if a0 < a1 then
  some true
 else
 some (decide (a0 > a2))
theorem V0 {n:Nat} {a0 a1 a2:Int} {r:Bool} (h:Wt n a0 a1 a2=some r):Computes cx 21 [I a0,I a1,I a2] (B r):=by
 unfold Wt at h
 rcases io h with ⟨h1,h⟩ | ⟨h1,h⟩
 ·obtain rfl:=oi h
  exact rf [b1] (Qa (jDj h1) QL)
 cases h
 exact rf [b0] (Qa (jEj h1) QL)
def Q1 (n:Nat) (a0:jSj):Option (jSj×Int×Bool) :=
 if (a0.toList == (⟨#[115,101,99,116,111,114]⟩:jSj).toList)=true then
  some (⟨#[83]⟩,1,true)
 else
 if (a0.toList == (⟨#[109,105,114,114,111,114]⟩:jSj).toList)=true then
  some (⟨#[77,115]⟩,2,true)
 else
 if (a0.toList == (⟨#[115,111,105,108]⟩:jSj).toList)=true then
  some (⟨#[109]⟩,2,true)
 else
 if (a0.toList == (⟨#[99,108,101,97,110]⟩:jSj).toList)=true then
  some (⟨#[109]⟩,1,true)
 else
 if (a0.toList == (⟨#[100,101,102,101,99,116]⟩:jSj).toList)=true then
  some (⟨#[109]⟩,1,true)
 else
 if (a0.toList == (⟨#[114,101,112,97,105,114]⟩:jSj).toList)=true then
  some (⟨#[109]⟩,1,true)
 else
 if (a0.toList == (⟨#[97,105,109]⟩:jSj).toList)=true then
  some (⟨#[109]⟩,1,true)
 else
 if (a0.toList == (⟨#[112,97,114,107]⟩:jSj).toList)=true then
  some (⟨#[109]⟩,1,true)
 else
 if (a0.toList == (⟨#[100,105,109]⟩:jSj).toList)=true then
  some (⟨#[115]⟩,1,true)
 else
 if (a0.toList == (⟨#[115,117,110]⟩:jSj).toList)=true then
  some (⟨#[]⟩,2,true)
 else
 if (a0.toList == (⟨#[102,105,108,108]⟩:jSj).toList)=true then
  some (⟨#[]⟩,1,true)
 else
 if (a0.toList == (⟨#[100,114,97,105,110]⟩:jSj).toList)=true then
  some (⟨#[]⟩,1,true)
 else
 if (a0.toList == (⟨#[116,114,105,112]⟩:jSj).toList)=true then
  some (⟨#[]⟩,1,true)
 else
 if (a0.toList == (⟨#[114,101,115,101,116]⟩:jSj).toList)=true then
  some (⟨#[]⟩,1,true)
 else
 if (a0.toList == (⟨#[111,102,102,101,114]⟩:jSj).toList)=true then
  some (⟨#[79]⟩,5,true)
 else
 if (a0.toList == (⟨#[100,101,108,105,118,101,114]⟩:jSj).toList)=true then
  some (⟨#[111]⟩,2,true)
 else
 if (a0.toList == (⟨#[98,105,108,108]⟩:jSj).toList)=true then
  some (⟨#[111]⟩,1,true)
 else
 if (a0.toList == (⟨#[117,110,100,111]⟩:jSj).toList)=true then
  some (⟨#[]⟩,0,true)
 else
 some (⟨#[]⟩,0,false)
theorem qq {n:Nat} {a0:jSj} {r:jSj×Int×Bool} (h:Q1 n a0=some r):Computes cx 92 [.v (.string a0)] (.agg [.v (.string r.1),I r.2.1,B r.2.2]):=by
 unfold Q1 at h
 rcases io h with ⟨h1,h⟩ | ⟨h1,h⟩
 ·cases h
  exact rf [b1] (Qa h1 QL)
 have q:=Qa (QA h1) QL
 let o (l:List Orc):=b0::l
 rcases io h with ⟨h2,h⟩ | ⟨h2,h⟩
 ·cases h
  exact rf (o [b1]) (Qa h2 q)
 have q:=Qa (QA h2) q
 let o l:=o (b0::l)
 rcases io h with ⟨h3,h⟩ | ⟨h3,h⟩
 ·cases h
  exact rf (o [b1]) (Qa h3 q)
 have q:=Qa (QA h3) q
 let o l:=o (b0::l)
 rcases io h with ⟨h4,h⟩ | ⟨h4,h⟩
 ·cases h
  exact rf (o [b1,b1]) (Qa h4 (Qa h4 q))
 have q:=Qa (QA h4) q
 let o l:=o (b0::l)
 rcases io h with ⟨h5,h⟩ | ⟨h5,h⟩
 ·cases h
  exact rf (o [b1,b1]) (Qa h5 (Qa h5 q))
 have q:=Qa (QA h5) q
 let o l:=o (b0::l)
 rcases io h with ⟨h6,h⟩ | ⟨h6,h⟩
 ·cases h
  exact rf (o [b1,b1]) (Qa h6 (Qa h6 q))
 have q:=Qa (QA h6) q
 let o l:=o (b0::l)
 rcases io h with ⟨h7,h⟩ | ⟨h7,h⟩
 ·cases h
  exact rf (o [b1,b1]) (Qa h7 (Qa h7 q))
 have q:=Qa (QA h7) q
 let o l:=o (b0::l)
 rcases io h with ⟨h8,h⟩ | ⟨h8,h⟩
 ·cases h
  exact rf (o [b1]) (Qa h8 q)
 have q:=Qa (QA h8) q
 let o l:=o (b0::l)
 rcases io h with ⟨h9,h⟩ | ⟨h9,h⟩
 ·cases h
  exact rf (o [b1]) (Qa h9 q)
 have q:=Qa (QA h9) q
 let o l:=o (b0::l)
 rcases io h with ⟨h10,h⟩ | ⟨h10,h⟩
 ·cases h
  exact rf (o [b1]) (Qa h10 q)
 have q:=Qa (QA h10) q
 let o l:=o (b0::l)
 rcases io h with ⟨h11,h⟩ | ⟨h11,h⟩
 ·cases h
  exact rf (o [b1,b1]) (Qa h11 (Qa h11 q))
 have q:=Qa (QA h11) q
 let o l:=o (b0::l)
 rcases io h with ⟨h12,h⟩ | ⟨h12,h⟩
 ·cases h
  exact rf (o [b1,b1]) (Qa h12 (Qa h12 q))
 have q:=Qa (QA h12) q
 let o l:=o (b0::l)
 rcases io h with ⟨h13,h⟩ | ⟨h13,h⟩
 ·cases h
  exact rf (o [b1,b1]) (Qa h13 (Qa h13 q))
 have q:=Qa (QA h13) q
 let o l:=o (b0::l)
 rcases io h with ⟨h14,h⟩ | ⟨h14,h⟩
 ·cases h
  exact rf (o [b1]) (Qa h14 q)
 have q:=Qa (QA h14) q
 let o l:=o (b0::l)
 rcases io h with ⟨h15,h⟩ | ⟨h15,h⟩
 ·cases h
  exact rf (o [b1]) (Qa h15 q)
 have q:=Qa (QA h15) q
 rcases io h with ⟨h16,h⟩ | ⟨h16,h⟩
 ·cases h
  exact rf (o [b0,b1]) (Qa h16 q)
 have q:=Qa (QA h16) q
 let o l:=o (b0::b0::l)
 rcases io h with ⟨h17,h⟩ | ⟨h17,h⟩
 ·cases h
  exact rf (o [b1]) (Qa h17 q)
 have q:=Qa (QA h17) q
 rcases io h with ⟨h18,h⟩ | ⟨h18,h⟩
 ·cases h
  exact rf (o [b0,b1]) (Qa h18 q)
 cases h
 exact rf (o [b0,b0]) (Qa (QA h18) q)
def Wm (n:Nat) (a0:jSj) (sa:(Int)):Option (((Int))⊕((Unit)⊕(Unit))) :=
 if sa < (a0.size:Int) then
  (WQ a0 sa).bind fun ta2 =>
  if ta2 ≥ 97 then
   if ta2≤122 then
    if ta2 ≥ 48 then
     if ta2≤57 then
      if Qh (sa+1) then
      some (.inl (sa+1))
      else none
     else
     if Qh (sa+1) then
     some (.inl (sa+1))
     else none
    else
    if Qh (sa+1) then
    some (.inl (sa+1))
    else none
   else
   if ta2 ≥ 65 then
    if ta2 ≥ 48 then
     if ta2≤57 then
      if ta2≤90 then
       if Qh (sa+1) then
       some (.inl (sa+1))
       else none
      else
      if sa=0 then
       some (.inr (.inl ()))
      else
      if Qh (sa+1) then
      some (.inl (sa+1))
      else none
     else
     if ta2≤90 then
      if Qh (sa+1) then
      some (.inl (sa+1))
      else none
     else
     if sa=0 then
      some (.inr (.inl ()))
     else
     if ta2=95 then
      if Qh (sa+1) then
      some (.inl (sa+1))
      else none
     else
     some (.inr (.inl ()))
    else
    if ta2≤90 then
     if Qh (sa+1) then
     some (.inl (sa+1))
     else none
    else
    if sa=0 then
     some (.inr (.inl ()))
    else
    if ta2=95 then
     if Qh (sa+1) then
     some (.inl (sa+1))
     else none
    else
    some (.inr (.inl ()))
   else
   if ta2 ≥ 48 then
    if ta2≤57 then
     if sa=0 then
      some (.inr (.inl ()))
     else
     if Qh (sa+1) then
     some (.inl (sa+1))
     else none
    else
    if sa=0 then
     some (.inr (.inl ()))
    else
    if ta2=95 then
     if Qh (sa+1) then
     some (.inl (sa+1))
     else none
    else
    some (.inr (.inl ()))
   else
   if sa=0 then
    some (.inr (.inl ()))
   else
   if ta2=95 then
    if Qh (sa+1) then
    some (.inl (sa+1))
    else none
   else
   some (.inr (.inl ()))
  else
  if ta2 ≥ 65 then
   if ta2 ≥ 48 then
    if ta2≤57 then
     if ta2≤90 then
      if Qh (sa+1) then
      some (.inl (sa+1))
      else none
     else
     if sa=0 then
      some (.inr (.inl ()))
     else
     if Qh (sa+1) then
     some (.inl (sa+1))
     else none
    else
    if ta2≤90 then
     if Qh (sa+1) then
     some (.inl (sa+1))
     else none
    else
    if sa=0 then
     some (.inr (.inl ()))
    else
    if ta2=95 then
     if Qh (sa+1) then
     some (.inl (sa+1))
     else none
    else
    some (.inr (.inl ()))
   else
   if ta2≤90 then
    if Qh (sa+1) then
    some (.inl (sa+1))
    else none
   else
   if sa=0 then
    some (.inr (.inl ()))
   else
   if ta2=95 then
    if Qh (sa+1) then
    some (.inl (sa+1))
    else none
   else
   some (.inr (.inl ()))
  else
  if ta2 ≥ 48 then
   if ta2≤57 then
    if sa=0 then
     some (.inr (.inl ()))
    else
    if Qh (sa+1) then
    some (.inl (sa+1))
    else none
   else
   if sa=0 then
    some (.inr (.inl ()))
   else
   if ta2=95 then
    if Qh (sa+1) then
    some (.inl (sa+1))
    else none
   else
   some (.inr (.inl ()))
  else
  if sa=0 then
   some (.inr (.inl ()))
  else
  if ta2=95 then
   if Qh (sa+1) then
   some (.inl (sa+1))
   else none
  else
  some (.inr (.inl ()))
 else
 some (.inr (.inr ()))
noncomputable def qx (a0:jSj):Lp ((Int)) ((Unit)⊕(Unit)):=⟨fun sa=>[(0,.d (.v (.string a0))),(3,.d (I sa))],fun _=>[],fun
 | (.inl e)=>.ret
 | (.inr e)=>(.exit 0),fun
 | (.inl e)=>[(2,.d (B false))]
 | (.inr e)=>[],fun _=>[]⟩
theorem JO {n:Nat} {a0:jSj} (sa:(Int)) (r) (h:Wm n a0 sa=some r):Rl (ZJ cx.P 93 0) 67 0 false (qx a0) sa r:=by
 unfold Wm at h
 rcases io h with ⟨ha1,h⟩ | ⟨ha1,h⟩
 ·obtain ⟨ta2,ha2,h⟩:=bo h
  have q:=Qa (Zq ha2:QV cx.P (Instr.index 9 (.string a0) (.int .i64 sa))=some (.int .u8 ta2)) (Qa (jDj ha1) QL)
  let o (l:List Orc):=b1::.el (.v (.int .u8 ta2))::l
  rcases io h with ⟨ha3,h⟩ | ⟨ha3,h⟩
  ·have q:=Qa (Zq ha2:QV cx.P (Instr.index 9 (.string a0) (.int .i64 sa))=some (.int .u8 ta2)) (Qa (jDj ha3) q)
   let o l:=o (b1::.el (.v (.int .u8 ta2))::l)
   rcases io h with ⟨ha4,h⟩ | ⟨ha4,h⟩
   ·have q:=Qa (Zq ha2:QV cx.P (Instr.index 9 (.string a0) (.int .i64 sa))=some (.int .u8 ta2)) (Qa (jDj ha4) q)
    let o l:=o (b1::.el (.v (.int .u8 ta2))::l)
    rcases io h with ⟨ha5,h⟩ | ⟨ha5,h⟩
    ·have q:=Qa (Zq ha2:QV cx.P (Instr.index 9 (.string a0) (.int .i64 sa))=some (.int .u8 ta2)) (Qa (jDj ha5) q)
     let o l:=o (b1::.el (.v (.int .u8 ta2))::l)
     rcases io h with ⟨ha6,h⟩ | ⟨ha6,h⟩
     ·obtain ⟨ha7,h⟩:=gd h
      cases h
      exact rn 9 (o [b1,.no,.no]) [] [0,3] [] (Qa ha7 (Qa (jDj ha6) q))
     obtain ⟨ha7,h⟩:=gd h
     cases h
     exact rn 9 (o [b0,.el (.v (.int .u8 ta2)),.no,.no]) [] [0,3] [] (Qa ha7 (Qa (Zq ha2:QV cx.P (Instr.index 9 (.string a0) (.int .i64 sa))=some (.int .u8 ta2)) (Qa (jEj ha6) q)))
    obtain ⟨ha6,h⟩:=gd h
    cases h
    exact rn 9 (o [b0,.no,.el (.v (.int .u8 ta2)),.no,.no]) [] [0,3] [] (Qa ha6 (Qa (Zq ha2:QV cx.P (Instr.index 9 (.string a0) (.int .i64 sa))=some (.int .u8 ta2)) (Qa (jEj ha5) q)))
   have q:=Qa (Zq ha2:QV cx.P (Instr.index 9 (.string a0) (.int .i64 sa))=some (.int .u8 ta2)) (Qa (jEj ha4) q)
   let o l:=o (b0::.el (.v (.int .u8 ta2))::l)
   rcases io h with ⟨ha5,h⟩ | ⟨ha5,h⟩
   ·have q:=Qa (Zq ha2:QV cx.P (Instr.index 9 (.string a0) (.int .i64 sa))=some (.int .u8 ta2)) (Qa (Zq ha2:QV cx.P (Instr.index 9 (.string a0) (.int .i64 sa))=some (.int .u8 ta2)) (Qa (jDj ha5) q))
    let o l:=o (b1::.el (.v (.int .u8 ta2))::.el (.v (.int .u8 ta2))::l)
    rcases io h with ⟨ha6,h⟩ | ⟨ha6,h⟩
    ·have q:=Qa (Zq ha2:QV cx.P (Instr.index 9 (.string a0) (.int .i64 sa))=some (.int .u8 ta2)) (Qa (jDj ha6) q)
     let o l:=o (b1::.el (.v (.int .u8 ta2))::l)
     rcases io h with ⟨ha7,h⟩ | ⟨ha7,h⟩
     ·have q:=Qa (jDj ha7) q
      rcases io h with ⟨ha8,h⟩ | ⟨ha8,h⟩
      ·obtain ⟨ha9,h⟩:=gd h
       cases h
       exact rn 9 (o [b1,b0,.no]) [] [0,3] [] (Qa ha9 (Qa (Ud (jDj ha8)) q))
      have q:=Qa (Uc (jEj ha8)) q
      rcases io h with ⟨ha9,h⟩ | ⟨ha9,h⟩
      ·cases h
       exact rx 9 (o [b1,b1,b1,.no]) [] [2] [] (Qa (eqt ha9) q)
      obtain ⟨ha10,h⟩:=gd h
      cases h
      exact rn 9 (o [b1,b1,b0,.no]) [] [0,3] [] (Qa ha10 (Qa (eqf ha9) q))
     have q:=Qa (Zq ha2:QV cx.P (Instr.index 9 (.string a0) (.int .i64 sa))=some (.int .u8 ta2)) (Qa (jEj ha7) q)
     let o l:=o (b0::.el (.v (.int .u8 ta2))::l)
     rcases io h with ⟨ha8,h⟩ | ⟨ha8,h⟩
     ·obtain ⟨ha9,h⟩:=gd h
      cases h
      exact rn 9 (o [b0,.no]) [] [0,3] [] (Qa ha9 (Qa (Ud (jDj ha8)) q))
     have q:=Qa (Uc (jEj ha8)) q
     rcases io h with ⟨ha9,h⟩ | ⟨ha9,h⟩
     ·cases h
      exact rx 9 (o [b1,b1,.no]) [] [2] [] (Qa (eqt ha9) q)
     have q:=Qa (eqf ha9) q
     rcases io h with ⟨ha10,h⟩ | ⟨ha10,h⟩
     ·obtain ⟨ha11,h⟩:=gd h
      cases h
      exact rn 9 (o [b1,b0,b0]) [] [0,3] [] (Qa ha11 (Qa (Ud (eqt ha10)) q))
     cases h
     exact rx 9 (o [b1,b0,b1]) [] [2] [] (Qa (Uc (eqf ha10)) q)
    have q:=Qa (Zq ha2:QV cx.P (Instr.index 9 (.string a0) (.int .i64 sa))=some (.int .u8 ta2)) (Qa (jEj ha6) q)
    let o l:=o (b0::.no::.el (.v (.int .u8 ta2))::l)
    rcases io h with ⟨ha7,h⟩ | ⟨ha7,h⟩
    ·obtain ⟨ha8,h⟩:=gd h
     cases h
     exact rn 9 (o [b0,.no]) [] [0,3] [] (Qa ha8 (Qa (Ud (jDj ha7)) q))
    have q:=Qa (Uc (jEj ha7)) q
    rcases io h with ⟨ha8,h⟩ | ⟨ha8,h⟩
    ·cases h
     exact rx 9 (o [b1,b1,.no]) [] [2] [] (Qa (eqt ha8) q)
    have q:=Qa (eqf ha8) q
    rcases io h with ⟨ha9,h⟩ | ⟨ha9,h⟩
    ·obtain ⟨ha10,h⟩:=gd h
     cases h
     exact rn 9 (o [b1,b0,b0]) [] [0,3] [] (Qa ha10 (Qa (Ud (eqt ha9)) q))
    cases h
    exact rx 9 (o [b1,b0,b1]) [] [2] [] (Qa (Uc (eqf ha9)) q)
   have q:=Qa (Zq ha2:QV cx.P (Instr.index 9 (.string a0) (.int .i64 sa))=some (.int .u8 ta2)) (Qa (jEj ha5) q)
   let o l:=o (b0::.el (.v (.int .u8 ta2))::l)
   rcases io h with ⟨ha6,h⟩ | ⟨ha6,h⟩
   ·have q:=Qa (Zq ha2:QV cx.P (Instr.index 9 (.string a0) (.int .i64 sa))=some (.int .u8 ta2)) (Qa (jDj ha6) q)
    let o l:=o (b1::.el (.v (.int .u8 ta2))::l)
    rcases io h with ⟨ha7,h⟩ | ⟨ha7,h⟩
    ·have q:=Qa (jDj ha7) q
     rcases io h with ⟨ha8,h⟩ | ⟨ha8,h⟩
     ·cases h
      exact rx 9 (o [b1,.no,b1,.no]) [] [2] [] (Qa (eqt ha8) q)
     obtain ⟨ha9,h⟩:=gd h
     cases h
     exact rn 9 (o [b1,.no,b0,.no]) [] [0,3] [] (Qa ha9 (Qa (eqf ha8) q))
    have q:=Qa (Zq ha2:QV cx.P (Instr.index 9 (.string a0) (.int .i64 sa))=some (.int .u8 ta2)) (Qa (jEj ha7) q)
    let o l:=o (b0::.el (.v (.int .u8 ta2))::.no::l)
    rcases io h with ⟨ha8,h⟩ | ⟨ha8,h⟩
    ·cases h
     exact rx 9 (o [b1,.no]) [] [2] [] (Qa (eqt ha8) q)
    have q:=Qa (eqf ha8) q
    rcases io h with ⟨ha9,h⟩ | ⟨ha9,h⟩
    ·obtain ⟨ha10,h⟩:=gd h
     cases h
     exact rn 9 (o [b0,b0]) [] [0,3] [] (Qa ha10 (Qa (Ud (eqt ha9)) q))
    cases h
    exact rx 9 (o [b0,b1]) [] [2] [] (Qa (Uc (eqf ha9)) q)
   have q:=Qa (Zq ha2:QV cx.P (Instr.index 9 (.string a0) (.int .i64 sa))=some (.int .u8 ta2)) (Qa (jEj ha6) q)
   let o l:=o (b0::.no::.el (.v (.int .u8 ta2))::.no::l)
   rcases io h with ⟨ha7,h⟩ | ⟨ha7,h⟩
   ·cases h
    exact rx 9 (o [b1,.no]) [] [2] [] (Qa (eqt ha7) q)
   have q:=Qa (eqf ha7) q
   rcases io h with ⟨ha8,h⟩ | ⟨ha8,h⟩
   ·obtain ⟨ha9,h⟩:=gd h
    cases h
    exact rn 9 (o [b0,b0]) [] [0,3] [] (Qa ha9 (Qa (Ud (eqt ha8)) q))
   cases h
   exact rx 9 (o [b0,b1]) [] [2] [] (Qa (Uc (eqf ha8)) q)
  have q:=Qa (Zq ha2:QV cx.P (Instr.index 9 (.string a0) (.int .i64 sa))=some (.int .u8 ta2)) (Qa (jEj ha3) q)
  let o l:=o (b0::.no::.el (.v (.int .u8 ta2))::l)
  rcases io h with ⟨ha4,h⟩ | ⟨ha4,h⟩
  ·have q:=Qa (Zq ha2:QV cx.P (Instr.index 9 (.string a0) (.int .i64 sa))=some (.int .u8 ta2)) (Qa (Zq ha2:QV cx.P (Instr.index 9 (.string a0) (.int .i64 sa))=some (.int .u8 ta2)) (Qa (jDj ha4) q))
   let o l:=o (b1::.el (.v (.int .u8 ta2))::.el (.v (.int .u8 ta2))::l)
   rcases io h with ⟨ha5,h⟩ | ⟨ha5,h⟩
   ·have q:=Qa (Zq ha2:QV cx.P (Instr.index 9 (.string a0) (.int .i64 sa))=some (.int .u8 ta2)) (Qa (jDj ha5) q)
    let o l:=o (b1::.el (.v (.int .u8 ta2))::l)
    rcases io h with ⟨ha6,h⟩ | ⟨ha6,h⟩
    ·have q:=Qa (jDj ha6) q
     rcases io h with ⟨ha7,h⟩ | ⟨ha7,h⟩
     ·obtain ⟨ha8,h⟩:=gd h
      cases h
      exact rn 9 (o [b1,b0,.no]) [] [0,3] [] (Qa ha8 (Qa (Ud (jDj ha7)) q))
     have q:=Qa (Uc (jEj ha7)) q
     rcases io h with ⟨ha8,h⟩ | ⟨ha8,h⟩
     ·cases h
      exact rx 9 (o [b1,b1,b1,.no]) [] [2] [] (Qa (eqt ha8) q)
     obtain ⟨ha9,h⟩:=gd h
     cases h
     exact rn 9 (o [b1,b1,b0,.no]) [] [0,3] [] (Qa ha9 (Qa (eqf ha8) q))
    have q:=Qa (Zq ha2:QV cx.P (Instr.index 9 (.string a0) (.int .i64 sa))=some (.int .u8 ta2)) (Qa (jEj ha6) q)
    let o l:=o (b0::.el (.v (.int .u8 ta2))::l)
    rcases io h with ⟨ha7,h⟩ | ⟨ha7,h⟩
    ·obtain ⟨ha8,h⟩:=gd h
     cases h
     exact rn 9 (o [b0,.no]) [] [0,3] [] (Qa ha8 (Qa (Ud (jDj ha7)) q))
    have q:=Qa (Uc (jEj ha7)) q
    rcases io h with ⟨ha8,h⟩ | ⟨ha8,h⟩
    ·cases h
     exact rx 9 (o [b1,b1,.no]) [] [2] [] (Qa (eqt ha8) q)
    have q:=Qa (eqf ha8) q
    rcases io h with ⟨ha9,h⟩ | ⟨ha9,h⟩
    ·obtain ⟨ha10,h⟩:=gd h
     cases h
     exact rn 9 (o [b1,b0,b0]) [] [0,3] [] (Qa ha10 (Qa (Ud (eqt ha9)) q))
    cases h
    exact rx 9 (o [b1,b0,b1]) [] [2] [] (Qa (Uc (eqf ha9)) q)
   have q:=Qa (Zq ha2:QV cx.P (Instr.index 9 (.string a0) (.int .i64 sa))=some (.int .u8 ta2)) (Qa (jEj ha5) q)
   let o l:=o (b0::.no::.el (.v (.int .u8 ta2))::l)
   rcases io h with ⟨ha6,h⟩ | ⟨ha6,h⟩
   ·obtain ⟨ha7,h⟩:=gd h
    cases h
    exact rn 9 (o [b0,.no]) [] [0,3] [] (Qa ha7 (Qa (Ud (jDj ha6)) q))
   have q:=Qa (Uc (jEj ha6)) q
   rcases io h with ⟨ha7,h⟩ | ⟨ha7,h⟩
   ·cases h
    exact rx 9 (o [b1,b1,.no]) [] [2] [] (Qa (eqt ha7) q)
   have q:=Qa (eqf ha7) q
   rcases io h with ⟨ha8,h⟩ | ⟨ha8,h⟩
   ·obtain ⟨ha9,h⟩:=gd h
    cases h
    exact rn 9 (o [b1,b0,b0]) [] [0,3] [] (Qa ha9 (Qa (Ud (eqt ha8)) q))
   cases h
   exact rx 9 (o [b1,b0,b1]) [] [2] [] (Qa (Uc (eqf ha8)) q)
  have q:=Qa (Zq ha2:QV cx.P (Instr.index 9 (.string a0) (.int .i64 sa))=some (.int .u8 ta2)) (Qa (jEj ha4) q)
  let o l:=o (b0::.el (.v (.int .u8 ta2))::l)
  rcases io h with ⟨ha5,h⟩ | ⟨ha5,h⟩
  ·have q:=Qa (Zq ha2:QV cx.P (Instr.index 9 (.string a0) (.int .i64 sa))=some (.int .u8 ta2)) (Qa (jDj ha5) q)
   let o l:=o (b1::.el (.v (.int .u8 ta2))::l)
   rcases io h with ⟨ha6,h⟩ | ⟨ha6,h⟩
   ·have q:=Qa (jDj ha6) q
    rcases io h with ⟨ha7,h⟩ | ⟨ha7,h⟩
    ·cases h
     exact rx 9 (o [b1,.no,b1,.no]) [] [2] [] (Qa (eqt ha7) q)
    obtain ⟨ha8,h⟩:=gd h
    cases h
    exact rn 9 (o [b1,.no,b0,.no]) [] [0,3] [] (Qa ha8 (Qa (eqf ha7) q))
   have q:=Qa (Zq ha2:QV cx.P (Instr.index 9 (.string a0) (.int .i64 sa))=some (.int .u8 ta2)) (Qa (jEj ha6) q)
   let o l:=o (b0::.el (.v (.int .u8 ta2))::.no::l)
   rcases io h with ⟨ha7,h⟩ | ⟨ha7,h⟩
   ·cases h
    exact rx 9 (o [b1,.no]) [] [2] [] (Qa (eqt ha7) q)
   have q:=Qa (eqf ha7) q
   rcases io h with ⟨ha8,h⟩ | ⟨ha8,h⟩
   ·obtain ⟨ha9,h⟩:=gd h
    cases h
    exact rn 9 (o [b0,b0]) [] [0,3] [] (Qa ha9 (Qa (Ud (eqt ha8)) q))
   cases h
   exact rx 9 (o [b0,b1]) [] [2] [] (Qa (Uc (eqf ha8)) q)
  have q:=Qa (Zq ha2:QV cx.P (Instr.index 9 (.string a0) (.int .i64 sa))=some (.int .u8 ta2)) (Qa (jEj ha5) q)
  let o l:=o (b0::.no::.el (.v (.int .u8 ta2))::.no::l)
  rcases io h with ⟨ha6,h⟩ | ⟨ha6,h⟩
  ·cases h
   exact rx 9 (o [b1,.no]) [] [2] [] (Qa (eqt ha6) q)
  have q:=Qa (eqf ha6) q
  rcases io h with ⟨ha7,h⟩ | ⟨ha7,h⟩
  ·obtain ⟨ha8,h⟩:=gd h
   cases h
   exact rn 9 (o [b0,b0]) [] [0,3] [] (Qa ha8 (Qa (Ud (eqt ha7)) q))
  cases h
  exact rx 9 (o [b0,b1]) [] [2] [] (Qa (Uc (eqf ha7)) q)
 cases h
 exact rx 9 [b0] [] [] [] (Qa (jEj ha1) QL)
def Yg (n:Nat) (a0:jSj):Option (Bool) :=
 if (a0.toList == (⟨#[]⟩:jSj).toList)=true then
  some false
 else
 if (a0.size:Int) > 24 then
  some false
 else
 (Q2 (Wm n a0) n 0).bind fun t3=>match t3 with
  | (.inl t3)=>(
   some false)
  | (.inr t3)=>(
   some true)
theorem jg {n:Nat} {a0:jSj} {r:Bool} (h:Yg n a0=some r):Computes cx 93 [.v (.string a0)] (B r):=by
 unfold Yg at h
 rcases io h with ⟨h1,h⟩ | ⟨h1,h⟩
 ·obtain rfl:=oi h
  exact rf [b1,.no] (Qa h1 QL)
 have q:=Qa (QA h1) QL
 rcases io h with ⟨h2,h⟩ | ⟨h2,h⟩
 ·obtain rfl:=oi h
  exact rf [b0,b1] (Qa (jDj h2) q)
 have q:=Qa (jEj h2) q
 obtain ⟨t3,h3,h⟩:=bo h
 rcases t3 with t3 | t3
 ·obtain rfl:=oi h
  exact rf [b0,b0,.lp [] [0,3] [] .ret [(2,.d (B false))] [] 77] (Qa (QH JO h3) q)
 obtain rfl:=oi h
 exact rf [b0,b0,.lp [] [0,3] [] (.exit 0) [] [] 77] (Qa (QH JO h3) q)
def Z4 (n:Nat) (a0:Int) (a1:jSj) (a2 a3:jVj) (a4:jSj) (t3:jSj×Int×Bool) (sa:(Int)):Option (((Int))⊕((Unit)⊕(Unit))) :=
 if sa < (t3.1.size:Int) then
  (el Ww a2 sa).bind fun ta2 =>
  (Yg n ta2).bind fun ta3 =>
  if ta3=true then
   if Qh (sa+1) then
   some (.inl (sa+1))
   else none
  else
  some (.inr (.inl ()))
 else
 some (.inr (.inr ()))
noncomputable def G9 (a0:Int) (a1:jSj) (a2 a3:jVj) (a4:jSj) (t3:jSj×Int×Bool):Lp ((Int)) ((Unit)⊕(Unit)):=⟨fun sa=>[(1,.ptr 0 0 0 0 0),(3,.ptr 8 0 0 0 0),(4,.d (I sa))],fun _=>[(0,.box (.d (.agg [I a0,.v (.string a1),.lst false 1 a2,.lst false 1 a3,.v (.string a4)]))),(8,.box (.d (.agg [.v (.string t3.1),I t3.2.1,B t3.2.2])))],fun
 | (.inl e)=>.ret
 | (.inr e)=>(.exit 0),fun
 | (.inl e)=>[(2,.d (I 8))]
 | (.inr e)=>[(1,.ptr 0 0 0 0 0),(3,.ptr 8 0 0 0 0)],fun
 | (.inl e)=>[]
 | (.inr e)=>[(0,.box (.d (.agg [I a0,.v (.string a1),.lst false 1 a2,.lst false 1 a3,.v (.string a4)]))),(8,.box (.d (.agg [.v (.string t3.1),I t3.2.1,B t3.2.2])))]⟩
theorem Ux {n:Nat} {a0:Int} {a1:jSj} {a2 a3:jVj} {a4:jSj} {t3:jSj×Int×Bool} (sa:(Int)) (r) (h:Z4 n a0 a1 a2 a3 a4 t3 sa=some r):Rl (ZJ cx.P 46 0) 59 0 false (G9 a0 a1 a2 a3 a4 t3) sa r:=by
 unfold Z4 at h
 rcases io h with ⟨ha1,h⟩ | ⟨ha1,h⟩
 ·obtain ⟨ta2,ha2,h⟩:=bo h;obtain ⟨ta3,ha3,h⟩:=bo h
  have q:=Qa (jg ha3) (allE Qr ha2 (Qa (jDj ha1) QL))
  let o (l:List Orc):=b1::.el (Zy ta2)::.ret (B ta3)::l
  rcases io h with ⟨ha4,h⟩ | ⟨ha4,h⟩
  ·obtain ⟨ha5,h⟩:=gd h
   cases h
   exact rn 29 (o [b0]) [] [1,3,4] [0,8] (Qa ha5 (Qa (Ud ha4) q))
  cases h
  exact rx 29 (o [b1]) [] [2] [] (Qa (Uc (QA ha4)) q)
 cases h
 exact rx 29 [b0] [] [1,3] [0,8] (Qa (jEj ha1) QL)
def Z3 (n:Nat) (a0:Int) (a1:jSj) (a2 a3:jVj) (a4:jSj) (t3:jSj×Int×Bool) (sa:(Int)):Option (((Int))⊕((Unit)⊕(Unit))) :=
 if sa < t3.2.1 then
  (el Vt a3 sa).bind fun ta2 =>
  (Wt n ta2 0 999999999).bind fun ta3 =>
  if ta3=true then
   some (.inr (.inl ()))
  else
  if Qh (sa+1) then
  some (.inl (sa+1))
  else none
 else
 some (.inr (.inr ()))
noncomputable def G8 (a0:Int) (a1:jSj) (a2 a3:jVj) (a4:jSj) (t3:jSj×Int×Bool):Lp ((Int)) ((Unit)⊕(Unit)):=⟨fun sa=>[(1,.ptr 0 0 0 0 0),(3,.ptr 8 0 0 0 0),(5,.d (I sa))],fun _=>[(0,.box (.d (.agg [I a0,.v (.string a1),.lst false 1 a2,.lst false 1 a3,.v (.string a4)]))),(8,.box (.d (.agg [.v (.string t3.1),I t3.2.1,B t3.2.2])))],fun
 | (.inl e)=>.ret
 | (.inr e)=>(.exit 2),fun
 | (.inl e)=>[(2,.d (I 3))]
 | (.inr e)=>[(1,.ptr 0 0 0 0 0)],fun
 | (.inl e)=>[]
 | (.inr e)=>[(0,.box (.d (.agg [I a0,.v (.string a1),.lst false 1 a2,.lst false 1 a3,.v (.string a4)])))]⟩
theorem Uw {n:Nat} {a0:Int} {a1:jSj} {a2 a3:jVj} {a4:jSj} {t3:jSj×Int×Bool} (sa:(Int)) (r) (h:Z3 n a0 a1 a2 a3 a4 t3 sa=some r):Rl (ZJ cx.P 46 1) 59 0 false (G8 a0 a1 a2 a3 a4 t3) sa r:=by
 unfold Z3 at h
 rcases io h with ⟨ha1,h⟩ | ⟨ha1,h⟩
 ·obtain ⟨ta2,ha2,h⟩:=bo h;obtain ⟨ta3,ha3,h⟩:=bo h
  have q:=Qa (V0 ha3) (allE Qi ha2 (Qa (jDj ha1) QL))
  let o (l:List Orc):=b1::.el (Q3 ta2)::.ret (B ta3)::l
  rcases io h with ⟨ha4,h⟩ | ⟨ha4,h⟩
  ·cases h
   exact rx 56 (o [b1]) [] [2] [] (Qa ha4 q)
  obtain ⟨ha5,h⟩:=gd h
  cases h
  exact rn 56 (o [b0]) [] [1,3,5] [0,8] (Qa ha5 (Qa (QA ha4) q))
 cases h
 exact rx 56 [b0] [] [1] [0] (Qa (jEj ha1) QL)
def WV (n:Nat) (a0:Int) (a1:jSj) (a2 a3:jVj) (a4:jSj):Option (Int) :=
 (Wt n a0 1 1000).bind fun t1 =>
 if t1=true then
  some 3
 else
 (Q1 n a1).bind fun t3 =>
 if t3.2.2=true then
  if ((a2).length:Int)=(t3.1.size:Int) then
   if ((a3).length:Int)=t3.2.1 then
    (Q2 (Z4 n a0 a1 a2 a3 a4 t3) n 0).bind fun t7=>match t7 with
     | (.inl t7)=>(
      some 8)
     | (.inr t7)=>(
      (Q2 (Z3 n a0 a1 a2 a3 a4 t3) n 0).bind fun t8=>match t8 with
       | (.inl t8)=>(
        some 3)
       | (.inr t8)=>(
        if (!(a4.toList == (⟨#[]⟩:jSj).toList))=true then
         some 1
        else
        some 0))
   else
   some 2
  else
  some 2
 else
 some 13
theorem K7 {n:Nat} {a0:Int} {a1:jSj} {a2 a3:jVj} {a4:jSj} {r:Int} (h:WV n a0 a1 a2 a3 a4=some r):Computes cx 46 [.agg [I a0,.v (.string a1),.lst false 1 a2,.lst false 1 a3,.v (.string a4)]] (I r):=by
 unfold WV at h
 obtain ⟨t1,h1,h⟩:=bo h
 have q:=Qa (V0 h1) QL
 let o (l:List Orc):=.ret (B t1)::l
 rcases io h with ⟨h2,h⟩ | ⟨h2,h⟩
 ·obtain rfl:=oi h
  exact rf (o [b1]) (Qa h2 q)
 obtain ⟨t3,h3,h⟩:=bo h
 have q:=Qa (qq h3) (Qa (QA h2) q)
 let o l:=o (b0::.ret (.agg [.v (.string t3.1),I t3.2.1,B t3.2.2])::l)
 rcases io h with ⟨h4,h⟩ | ⟨h4,h⟩
 ·have q:=Qa (Ud h4) q
  let o l:=o (b0::l)
  rcases io h with ⟨h5,h⟩ | ⟨h5,h⟩
  ·have q:=Qa (nef h5) q
   let o l:=o (b0::l)
   rcases io h with ⟨h6,h⟩ | ⟨h6,h⟩
   ·have q:=Qa (nef h6) q
    obtain ⟨t7,h7,h⟩:=bo h
    rcases t7 with t7 | t7
    ·obtain rfl:=oi h
     exact rf (o [b0,.lp [] [1,3,4] [0,8] .ret [(2,.d (I 8))] [] 55]) (Qa (QH Ux h7) q)
    have q:=Qa (QH Ux h7) q
    let o l:=o (b0::.lp [] [1,3,4] [0,8] (.exit 0) [(1,.ptr 0 0 0 0 0),(3,.ptr 8 0 0 0 0)] [(0,.box (.d (.agg [I a0,.v (.string a1),.lst false 1 a2,.lst false 1 a3,.v (.string a4)]))),(8,.box (.d (.agg [.v (.string t3.1),I t3.2.1,B t3.2.2])))] 55::l)
    obtain ⟨t8,h8,h⟩:=bo h
    rcases t8 with t8 | t8
    ·obtain rfl:=oi h
     exact rf (o [.lp [] [1,3,5] [0,8] .ret [(2,.d (I 3))] [] 80]) (Qa (QH Uw h8) q)
    have q:=Qa (QH Uw h8) q
    let o l:=o (.lp [] [1,3,5] [0,8] (.exit 2) [(1,.ptr 0 0 0 0 0)] [(0,.box (.d (.agg [I a0,.v (.string a1),.lst false 1 a2,.lst false 1 a3,.v (.string a4)])))] 80::l)
    rcases io h with ⟨h9,h⟩ | ⟨h9,h⟩
    ·obtain rfl:=oi h
     exact rf (o [b1]) (Qa h9 q)
    obtain rfl:=oi h
    exact rf (o [b0]) (Qa (QA h9) q)
   obtain rfl:=oi h
   exact rf (o [b1]) (Qa (net h6) q)
  obtain rfl:=oi h
  exact rf (o [b1,.no]) (Qa (net h5) q)
 obtain rfl:=oi h
 exact rf (o [b1]) (Qa (Uc (QA h4)) q)
end Go.Proofs.YtljabneifpkbjaaGreatDoor
