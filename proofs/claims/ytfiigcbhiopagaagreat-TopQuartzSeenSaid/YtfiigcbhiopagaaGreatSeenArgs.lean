/- Own texts. -/
import Derived.Test.YtfiigcbhiopagaaGreatSeen1
import GoSem.Conv.FloatToFloat
import GoSem.Conv.FloatToInt
import GoSem.Op.FloatArith
set_option linter.unusedVariables false
set_option linter.unusedSimpArgs false
set_option linter.unnecessarySimpa false
set_option maxRecDepth 10000
set_option maxHeartbeats 4000000
namespace Go.Proofs.YtfiigcbhiopagaaGreat
open Go.SX
def ZT (n:Nat) (a0 a1:Int) (a2:List D) (a4 a5:Int) (t5:Int×Int) (t6:List D) (sa:(Int×List D)):Option (((Int×List D))⊕((List D))) :=
 if sa.1 < ((t6).length:Int) then
  (el VS t6 sa.1).bind fun ta2 =>
  (VB n ta2.1 ta2.2 t5.1 t5.2).bind fun ta3 =>
  if Wm 16 ((sa.2).length+1) then
  if Qb (sa.1+1) then
  some (.inl ((sa.1+1),(sa.2++([.agg [I ta3.1,I ta3.2]]:List D))))
  else none
  else none
 else
 some (.inr sa.2)
noncomputable def Er (a0 a1:Int) (a2:List D) (a4 a5:Int) (t5:Int×Int) (t6:List D) (sa:(Int×List D)):List (Nat×AV):=[(1,.fn (.func 50) [] [.ptr 20 0 0 0 0]),(5,.own 34 0),(8,.d (.lst false 2 t6)),(9,.d (I ((t6).length:Int))),(10,.d (I sa.1))]
noncomputable def Ev (a0 a1:Int) (a2:List D) (a4 a5:Int) (t5:Int×Int) (t6:List D) (sa:(Int×List D)):List (Nat×Blk):=[(0,.box (.d (.agg [I a0,I a1,.lst false 1 a2]))),(1,.box (.d (.agg [I a4,I a5]))),(20,.box (.d (.agg [I t5.1,I t5.2]))),(34,.row 0 2 sa.2)]
noncomputable def Ei (a0 a1:Int) (a2:List D) (a4 a5:Int) (t5:Int×Int) (t6:List D) (e:(List D)):Ex:=(.exit 0)
noncomputable def Xw (a0 a1:Int) (a2:List D) (a4 a5:Int) (t5:Int×Int) (t6:List D) (e:(List D)):List (Nat×AV):=[(5,.own 34 0)]
noncomputable def Xy (a0 a1:Int) (a2:List D) (a4 a5:Int) (t5:Int×Int) (t6:List D) (e:(List D)):List (Nat×Blk):=[(0,.box (.d (.agg [I a0,I a1,.lst false 1 a2]))),(1,.box (.d (.agg [I a4,I a5]))),(20,.box (.d (.agg [I t5.1,I t5.2]))),(34,.row 0 2 e)]
theorem Et {n:Nat} {a0 a1:Int} {a2:List D} {a4 a5:Int} {t5:Int×Int} {t6:List D} (sa:(Int×List D)) (r) (h:ZT n a0 a1 a2 a4 a5 t5 t6 sa=some r):Rd cx (Qp cx.P 49 0) 22 29 false (Er a0 a1 a2 a4 a5 t5 t6) (Ev a0 a1 a2 a4 a5 t5 t6) (Ei a0 a1 a2 a4 a5 t5 t6) (Xw a0 a1 a2 a4 a5 t5 t6) (Xy a0 a1 a2 a4 a5 t5 t6) sa r:=by
 unfold ZT at h
 by_cases ha1:sa.1 < ((t6).length:Int)
 ·replace h:=Qj h ha1
  obtain ⟨ta2,ha2,h⟩:=Qe h
  obtain ⟨ta3,ha3,h⟩:=Qe h
  obtain ⟨ha4,h⟩:=Qg h
  obtain ⟨ha5,h⟩:=Qg h
  replace h:=Option.some.inj h
  subst h
  exact ⟨100,35,[.br true,.el (.agg [I ta2.1,I ta2.2]),.br true,.ret (.agg [I ta3.1,I ta3.2]),.br true],[],[1,5,8,9,10],[0,1,20,34],Qh (ob:=[Qb (sa.1+1),room cx 30 ((sa.2).length+1),Computes cx 51 [.agg [I ta2.1,I ta2.2],.agg [I t5.1,I t5.2]] (.agg [I ta3.1,I ta3.2]),(0:Int)≤sa.1,nth (t6) (Int.toNat sa.1)=some (.agg [I ta2.1,I ta2.2]),(decide (sa.1 < ((t6).length:Int)))=true]) (by kernel_rfl) ⟨ha5,(Qv (b:=16) (by kernel_rfl) (by decide) ha4),(Vx ha3),(Qm Qx ha2).1,(Qm Qx ha2).2,(decide_eq_true ha1),trivial⟩⟩
 ·replace h:=Qk h ha1
  replace h:=Option.some.inj h
  subst h
  exact ⟨⟨100,35,[.br false],[],[5],[0,1,20,34],Qh (ob:=[(decide (sa.1 < ((t6).length:Int)))=false]) (by kernel_rfl) ⟨(decide_eq_false ha1),trivial⟩⟩,nofun⟩
def WA (n:Nat) (a0 a1:Int) (a2:List D) (a3:Nat) (a4 a5 a6 a7:Int):Option (List D×Int) :=
 (QG n a0 a1 a2 a3).bind fun t1 =>
 (Wc n a4 a5 a6 a7).bind fun t2 =>
 (QA n ([I t1,I t2])).bind fun t3 =>
 if t3=0 then
  (W9 n a4 a5 a6 a7).bind fun t5 =>
  (W2 n a0 a1 a2 a3).bind fun t6 =>
  (QF (ZT n a0 a1 a2 a4 a5 t5 t6) n (0,[])).bind fun t7 =>
  some (t7,0)
 else
 some ([],t3)
theorem JQ {n:Nat} {a0 a1:Int} {a2:List D} {a3:Nat} {a4 a5 a6 a7:Int} {r:List D×Int} (h:WA n a0 a1 a2 a3 a4 a5 a6 a7=some r):Computes cx 17 [.agg [I a0,I a1,.lst false 1 a2],.v (.float .f32 a3),.agg [I a4,I a5],I a6,I a7] (.tup [.lst false 2 r.1,I r.2]):=by
 unfold WA at h
 obtain ⟨t1,h1,h⟩:=Qe h
 obtain ⟨t2,h2,h⟩:=Qe h
 obtain ⟨t3,h3,h⟩:=Qe h
 by_cases h4:t3=0
 ·replace h:=Qj h h4
  obtain ⟨t5,h5,h⟩:=Qe h
  obtain ⟨t6,h6,h⟩:=Qe h
  obtain ⟨t7,h7,h⟩:=Qe h
  replace h:=Option.some.inj h
  subst h
  exact run (n:=100) (f:=17) (args:=[.agg [I a0,I a1,.lst false 1 a2],.v (.float .f32 a3),.agg [I a4,I a5],I a6,I a7]) (orc:=[.ret (I t1),.ret (I t2),.ret (I t3),.br false,.ret (.agg [I t5.1,I t5.2]),.ret (.lst false 2 t6),.br true,.lp [5,2] [1,5,8,9,10] [0,1,20,34] (.exit 0) [(5,.own 34 0)] [(0,.box (.d (.agg [I a0,I a1,.lst false 1 a2]))),(1,.box (.d (.agg [I a4,I a5]))),(20,.box (.d (.agg [I t5.1,I t5.2]))),(34,.row 0 2 t7)] 66]) (r:=.tup [.lst false 2 t7,I 0]) (ob:=[QX cx (Qp cx.P 49 0) 22 29 false [(1,.fn (.func 50) [] [.ptr 20 0 0 0 0]),(5,.own 34 0),(8,.d (.lst false 2 t6)),(9,.d (I ((t6).length:Int))),(10,.d (I 0))] [(0,.box (.d (.agg [I a0,I a1,.lst false 1 a2]))),(1,.box (.d (.agg [I a4,I a5]))),(20,.box (.d (.agg [I t5.1,I t5.2]))),(34,.row 0 2 [])] (.exit 0) [(5,.own 34 0)] [(0,.box (.d (.agg [I a0,I a1,.lst false 1 a2]))),(1,.box (.d (.agg [I a4,I a5]))),(20,.box (.d (.agg [I t5.1,I t5.2]))),(34,.row 0 2 t7)],Computes cx 42 [.agg [I a0,I a1,.lst false 1 a2],.v (.float .f32 a3)] (.lst false 2 t6),Computes cx 48 [.agg [I a4,I a5],I a6,I a7] (.agg [I t5.1,I t5.2]),(t3 != 0)=false,Computes cx 30 [.lst true 1 [I t1,I t2]] (I t3),Computes cx 47 [.agg [I a4,I a5],I a6,I a7] (I t2),Computes cx 41 [.agg [I a0,I a1,.lst false 1 a2],.v (.float .f32 a3)] (I t1)]) (by kernel_rfl) ⟨(Qt Et h7),(Jt h6),(YI h5),(nef h4),((Qr h3).le (.cons (.full _ _ _) (.nil)) (.refl _)),(Y4 h2),(Q2 h1),trivial⟩
 ·replace h:=Qk h h4
  replace h:=Option.some.inj h
  subst h
  exact (run (n:=100) (f:=17) (args:=[.agg [I a0,I a1,.lst false 1 a2],.v (.float .f32 a3),.agg [I a4,I a5],I a6,I a7]) (orc:=[.ret (I t1),.ret (I t2),.ret (I t3),.br true]) (r:=.tup [.lst true 0 [],I t3]) (ob:=[(t3 != 0)=true,Computes cx 30 [.lst true 1 [I t1,I t2]] (I t3),Computes cx 47 [.agg [I a4,I a5],I a6,I a7] (I t2),Computes cx 41 [.agg [I a0,I a1,.lst false 1 a2],.v (.float .f32 a3)] (I t1)]) (by kernel_rfl) ⟨(net h4),((Qr h3).le (.cons (.full _ _ _) (.nil)) (.refl _)),(Y4 h2),(Q2 h1),trivial⟩).le (LEs.refl _) (.tups (.cons (.nilF) (.cons (.refl _) (.nil))))
def Zm (n:Nat) (a0 a1:List D) (sa:(Int)):Option (((Int))⊕((Unit)⊕(Unit))) :=
 if sa < ((a0).length:Int) then
  (el VS a0 sa).bind fun ta2 =>
  (el VS a1 sa).bind fun ta3 =>
  if ((ta2.1 == ta3.1) && ((ta2.2 == ta3.2) && true))=true then
   if Qb (sa+1) then
   some (.inl (sa+1))
   else none
  else
  some (.inr (.inl ()))
 else
 some (.inr (.inr ()))
noncomputable def Ga (a0 a1:List D) (sa:(Int)):List (Nat×AV):=[(0,.d (.lst false 2 a0)),(1,.d (.lst false 2 a1)),(5,.d (I sa))]
noncomputable def Gi (a0 a1:List D) (sa:(Int)):List (Nat×Blk):=[]
noncomputable def JZ (a0 a1:List D) (e:(Unit)⊕(Unit)):Ex:=match e with
 | (.inl e)=>.ret
 | (.inr e)=>(.exit 0)
noncomputable def Jz (a0 a1:List D) (e:(Unit)⊕(Unit)):List (Nat×AV):=match e with
 | (.inl e)=>[(4,.d (B false))]
 | (.inr e)=>[]
noncomputable def JE (a0 a1:List D) (e:(Unit)⊕(Unit)):List (Nat×Blk):=match e with
 | (.inl e)=>[]
 | (.inr e)=>[]
theorem Ys {n:Nat} {a0 a1:List D} (sa:(Int)) (r) (h:Zm n a0 a1 sa=some r):Rd cx (Qp cx.P 18 0) 26 0 false (Ga a0 a1) (Gi a0 a1) (JZ a0 a1) (Jz a0 a1) (JE a0 a1) sa r:=by
 unfold Zm at h
 by_cases ha1:sa < ((a0).length:Int)
 ·replace h:=Qj h ha1
  obtain ⟨ta2,ha2,h⟩:=Qe h
  obtain ⟨ta3,ha3,h⟩:=Qe h
  by_cases ha4:((ta2.1 == ta3.1) && ((ta2.2 == ta3.2) && true))=true
  ·replace h:=Qj h ha4
   obtain ⟨ha5,h⟩:=Qg h
   replace h:=Option.some.inj h
   subst h
   exact ⟨100,7,[.br true,.el (.agg [I ta2.1,I ta2.2]),.el (.agg [I ta3.1,I ta3.2]),.br false],[],[0,1,5],[],Qh (ob:=[Qb (sa+1),(!((ta2.1 == ta3.1) && ((ta2.2 == ta3.2) && true)))=false,(0:Int)≤sa,nth (a1) (Int.toNat sa)=some (.agg [I ta3.1,I ta3.2]),(0:Int)≤sa,nth (a0) (Int.toNat sa)=some (.agg [I ta2.1,I ta2.2]),(decide (sa < ((a0).length:Int)))=true]) (by kernel_rfl) ⟨ha5,(wa ha4),(Qm Qx ha3).1,(Qm Qx ha3).2,(Qm Qx ha2).1,(Qm Qx ha2).2,(decide_eq_true ha1),trivial⟩⟩
  ·replace h:=Qk h ha4
   replace h:=Option.some.inj h
   subst h
   exact ⟨⟨100,7,[.br true,.el (.agg [I ta2.1,I ta2.2]),.el (.agg [I ta3.1,I ta3.2]),.br true],[],[4],[],Qh (ob:=[(!((ta2.1 == ta3.1) && ((ta2.2 == ta3.2) && true)))=true,(0:Int)≤sa,nth (a1) (Int.toNat sa)=some (.agg [I ta3.1,I ta3.2]),(0:Int)≤sa,nth (a0) (Int.toNat sa)=some (.agg [I ta2.1,I ta2.2]),(decide (sa < ((a0).length:Int)))=true]) (by kernel_rfl) ⟨(nott (QY ha4)),(Qm Qx ha3).1,(Qm Qx ha3).2,(Qm Qx ha2).1,(Qm Qx ha2).2,(decide_eq_true ha1),trivial⟩⟩,nofun⟩
 ·replace h:=Qk h ha1
  replace h:=Option.some.inj h
  subst h
  exact ⟨⟨100,7,[.br false],[],[],[],Qh (ob:=[(decide (sa < ((a0).length:Int)))=false]) (by kernel_rfl) ⟨(decide_eq_false ha1),trivial⟩⟩,nofun⟩
def ZP (n:Nat) (a0 a1:List D):Option (Bool) :=
 if ((a0).length:Int)=((a1).length:Int) then
  (QF (Zm n a0 a1) n 0).bind fun t2=>match t2 with
   | (.inl t2)=>(
    some false)
   | (.inr t2)=>(
    some true)
 else
 some false
theorem UM {n:Nat} {a0 a1:List D} {r:Bool} (h:ZP n a0 a1=some r):Computes cx 18 [.lst false 2 a0,.lst false 2 a1] (B r):=by
 unfold ZP at h
 by_cases h1:((a0).length:Int)=((a1).length:Int)
 ·replace h:=Qj h h1
  obtain ⟨t2,h2,h⟩:=Qe h
  rcases t2 with t2 | t2
  ·replace h:=Option.some.inj h
   subst h
   exact run (n:=100) (f:=18) (args:=[.lst false 2 a0,.lst false 2 a1]) (orc:=[.br false,.lp [] [0,1,5] [] .ret [(4,.d (B false))] [] 34]) (r:=B false) (ob:=[QX cx (Qp cx.P 18 0) 26 0 false [(0,.d (.lst false 2 a0)),(1,.d (.lst false 2 a1)),(5,.d (I 0))] [] .ret [(4,.d (B false))] [],(((a0).length:Int) != ((a1).length:Int))=false]) (by kernel_rfl) ⟨(Qt Ys h2),(nef h1),trivial⟩
  ·replace h:=Option.some.inj h
   subst h
   exact run (n:=100) (f:=18) (args:=[.lst false 2 a0,.lst false 2 a1]) (orc:=[.br false,.lp [] [0,1,5] [] (.exit 0) [] [] 34]) (r:=B true) (ob:=[QX cx (Qp cx.P 18 0) 26 0 false [(0,.d (.lst false 2 a0)),(1,.d (.lst false 2 a1)),(5,.d (I 0))] [] (.exit 0) [] [],(((a0).length:Int) != ((a1).length:Int))=false]) (by kernel_rfl) ⟨(Qt Ys h2),(nef h1),trivial⟩
 ·replace h:=Qk h h1
  replace h:=Option.some.inj h
  subst h
  exact run (n:=100) (f:=18) (args:=[.lst false 2 a0,.lst false 2 a1]) (orc:=[.br true]) (r:=B false) (ob:=[(((a0).length:Int) != ((a1).length:Int))=true]) (by kernel_rfl) ⟨(net h1),trivial⟩
def ZL (n:Nat) (a9 a10 a11:Int) (t7:List D×List D×Int) (sa:(Bool×Int×Int×Int)):Option (((Bool×Int×Int×Int))⊕((Bool×Int×Int))) :=
 if sa.2.1 < (a11+1) then
  (Zy n t7.1 t7.2.1 t7.2.2 a9 a10 sa.2.1).bind fun ta2 =>
  if ta2=0 then
   if Qb (sa.2.1+1) then
   some (.inl (sa.1,(sa.2.1+1),sa.2.2.1,sa.2.2.2))
   else none
  else
  if sa.1=true then
   if Qb (sa.2.1+1) then
   some (.inl (sa.1,(sa.2.1+1),sa.2.2.1,(sa.2.1+1)))
   else none
  else
  if Qb (sa.2.1+1) then
  some (.inl (true,(sa.2.1+1),sa.2.1,(sa.2.1+1)))
  else none
 else
 some (.inr (sa.1,sa.2.2.1,sa.2.2.2))
noncomputable def qp (a9 a10 a11:Int) (t7:List D×List D×Int) (sa:(Bool×Int×Int×Int)):List (Nat×AV):=[(8,.ptr 2 0 0 0 0),(10,.ptr 3 0 0 0 0),(13,.ptr 23 0 0 0 0),(14,.ptr 25 0 0 0 0),(15,.d (B sa.1)),(37,.d (I (a11+1))),(38,.d (I sa.2.1))]
noncomputable def qw (a9 a10 a11:Int) (t7:List D×List D×Int) (sa:(Bool×Int×Int×Int)):List (Nat×Blk):=[(2,.box (.d (.agg [I a9,I a10]))),(3,.box (.d (.agg [I 0,I 0]))),(23,.box (.d (.agg [.mp t7.1,.lst false 2 t7.2.1,I t7.2.2]))),(25,.box (.d (.agg [I sa.2.2.1,I sa.2.2.2])))]
noncomputable def qe (a9 a10 a11:Int) (t7:List D×List D×Int) (e:(Bool×Int×Int)):Ex:=(.exit 0)
noncomputable def El (a9 a10 a11:Int) (t7:List D×List D×Int) (e:(Bool×Int×Int)):List (Nat×AV):=[(10,.ptr 3 0 0 0 0),(14,.ptr 25 0 0 0 0),(15,.d (B e.1))]
noncomputable def Eo (a9 a10 a11:Int) (t7:List D×List D×Int) (e:(Bool×Int×Int)):List (Nat×Blk):=[(3,.box (.d (.agg [I 0,I 0]))),(25,.box (.d (.agg [I e.2.1,I e.2.2])))]
theorem qt {n:Nat} {a9 a10 a11:Int} {t7:List D×List D×Int} (sa:(Bool×Int×Int×Int)) (r) (h:ZL n a9 a10 a11 t7 sa=some r):Rd cx (Qp cx.P 19 0) 58 0 false (qp a9 a10 a11 t7) (qw a9 a10 a11 t7) (qe a9 a10 a11 t7) (El a9 a10 a11 t7) (Eo a9 a10 a11 t7) sa r:=by
 unfold ZL at h
 by_cases ha1:sa.2.1 < (a11+1)
 ·replace h:=Qj h ha1
  obtain ⟨ta2,ha2,h⟩:=Qe h
  by_cases ha3:ta2=0
  ·replace h:=Qj h ha3
   obtain ⟨ha4,h⟩:=Qg h
   replace h:=Option.some.inj h
   subst h
   exact ⟨100,30,[.br true,.ret (I ta2),.br true],[],[8,10,13,14,15,37,38],[2,3,23,25],Qh (ob:=[Qb (sa.2.1+1),(ta2 == 0)=true,Computes cx 53 [.agg [.mp t7.1,.lst false 2 t7.2.1,I t7.2.2],.agg [I a9,I a10],I sa.2.1] (I ta2),(decide (sa.2.1 < (a11+1)))=true]) (by kernel_rfl) ⟨ha4,(eqt ha3),(WX ha2),(decide_eq_true ha1),trivial⟩⟩
  ·replace h:=Qk h ha3
   by_cases ha4:sa.1=true
   ·replace h:=Qj h ha4
    obtain ⟨ha5,h⟩:=Qg h
    replace h:=Option.some.inj h
    subst h
    exact ⟨100,30,[.br true,.ret (I ta2),.br false,.br false],[],[8,10,13,14,15,37,38],[2,3,23,25],Qh (ob:=[Qb (sa.2.1+1),Qb (sa.2.1+1),(!sa.1)=false,(ta2 == 0)=false,Computes cx 53 [.agg [.mp t7.1,.lst false 2 t7.2.1,I t7.2.2],.agg [I a9,I a10],I sa.2.1] (I ta2),(decide (sa.2.1 < (a11+1)))=true]) (by kernel_rfl) ⟨ha5,ha5,(wa ha4),(eqf ha3),(WX ha2),(decide_eq_true ha1),trivial⟩⟩
   ·replace h:=Qk h ha4
    obtain ⟨ha5,h⟩:=Qg h
    replace h:=Option.some.inj h
    subst h
    exact ⟨100,30,[.br true,.ret (I ta2),.br false,.br true],[],[8,10,13,14,15,37,38],[2,3,23,25],Qh (ob:=[Qb (sa.2.1+1),Qb (sa.2.1+1),(!sa.1)=true,(ta2 == 0)=false,Computes cx 53 [.agg [.mp t7.1,.lst false 2 t7.2.1,I t7.2.2],.agg [I a9,I a10],I sa.2.1] (I ta2),(decide (sa.2.1 < (a11+1)))=true]) (by kernel_rfl) ⟨ha5,ha5,(nott (QY ha4)),(eqf ha3),(WX ha2),(decide_eq_true ha1),trivial⟩⟩
 ·replace h:=Qk h ha1
  replace h:=Option.some.inj h
  subst h
  exact ⟨⟨100,30,[.br false],[],[10,14,15],[3,25],Qh (ob:=[(decide (sa.2.1 < (a11+1)))=false]) (by kernel_rfl) ⟨(decide_eq_false ha1),trivial⟩⟩,nofun⟩
def Vo (n:Nat) (a0 a1:Int) (a2:List D) (a3:Nat) (a4 a5 a6 a7 a8 a9 a10 a11:Int):Option (Int×Int×Int) :=
 (QG n a0 a1 a2 a3).bind fun t1 =>
 (ZC n a4 a5 a6 a7 a8).bind fun t2 =>
 (Zz n a9 a10).bind fun t3 =>
 (QE n a11 1 1000).bind fun t4 =>
 (QA n ([I t1,I t2,I t3,I t4])).bind fun t5 =>
 if t5=0 then
  (VD n a0 a1 a2 a3 a4 a5 a6 a7 a8).bind fun t7 =>
  if Qb (a11+1) then
  (QF (ZL n a9 a10 a11 t7) n (false,0,0,0)).bind fun t9 =>
  (Zu n (!t9.1) 7).bind fun t10 =>
  some (t9.2.1,t9.2.2,t10)
  else none
 else
 some (0,0,t5)
theorem jE {n:Nat} {a0 a1:Int} {a2:List D} {a3:Nat} {a4 a5 a6 a7 a8 a9 a10 a11:Int} {r:Int×Int×Int} (h:Vo n a0 a1 a2 a3 a4 a5 a6 a7 a8 a9 a10 a11=some r):Computes cx 19 [.agg [I a0,I a1,.lst false 1 a2],.v (.float .f32 a3),.agg [I a4,I a5,I a6,I a7,I a8],.agg [I a9,I a10],I a11] (.tup [.agg [I r.1,I r.2.1],I r.2.2]):=by
 unfold Vo at h
 obtain ⟨t1,h1,h⟩:=Qe h
 obtain ⟨t2,h2,h⟩:=Qe h
 obtain ⟨t3,h3,h⟩:=Qe h
 obtain ⟨t4,h4,h⟩:=Qe h
 obtain ⟨t5,h5,h⟩:=Qe h
 by_cases h6:t5=0
 ·replace h:=Qj h h6
  obtain ⟨t7,h7,h⟩:=Qe h
  obtain ⟨h8,h⟩:=Qg h
  obtain ⟨t9,h9,h⟩:=Qe h
  obtain ⟨t10,h10,h⟩:=Qe h
  replace h:=Option.some.inj h
  subst h
  exact run (n:=100) (f:=19) (args:=[.agg [I a0,I a1,.lst false 1 a2],.v (.float .f32 a3),.agg [I a4,I a5,I a6,I a7,I a8],.agg [I a9,I a10],I a11]) (orc:=[.ret (I t1),.ret (I t2),.ret (I t3),.ret (I t4),.ret (I t5),.br false,.ret (.agg [.mp t7.1,.lst false 2 t7.2.1,I t7.2.2]),.lp [] [8,10,13,14,15,37,38] [2,3,23,25] (.exit 0) [(10,.ptr 3 0 0 0 0),(14,.ptr 25 0 0 0 0),(15,.d (B t9.1))] [(3,.box (.d (.agg [I 0,I 0]))),(25,.box (.d (.agg [I t9.2.1,I t9.2.2])))] 61,.ret (I t10)]) (r:=.tup [.agg [I t9.2.1,I t9.2.2],I t10]) (ob:=[Computes cx 34 [B (!t9.1),I 7] (I t10),QX cx (Qp cx.P 19 0) 58 0 false [(8,.ptr 2 0 0 0 0),(10,.ptr 3 0 0 0 0),(13,.ptr 23 0 0 0 0),(14,.ptr 25 0 0 0 0),(15,.d (B false)),(37,.d (I (a11+1))),(38,.d (I 0))] [(2,.box (.d (.agg [I a9,I a10]))),(3,.box (.d (.agg [I 0,I 0]))),(23,.box (.d (.agg [.mp t7.1,.lst false 2 t7.2.1,I t7.2.2]))),(25,.box (.d (.agg [I 0,I 0])))] (.exit 0) [(10,.ptr 3 0 0 0 0),(14,.ptr 25 0 0 0 0),(15,.d (B t9.1))] [(3,.box (.d (.agg [I 0,I 0]))),(25,.box (.d (.agg [I t9.2.1,I t9.2.2])))],Qb (a11+1),Computes cx 52 [.agg [I a0,I a1,.lst false 1 a2],.v (.float .f32 a3),.agg [I a4,I a5,I a6,I a7,I a8]] (.agg [.mp t7.1,.lst false 2 t7.2.1,I t7.2.2]),(t5 != 0)=false,Computes cx 30 [.lst true 1 [I t1,I t2,I t3,I t4]] (I t5),Computes cx 39 [I a11,I 1,I 1000] (I t4),Computes cx 32 [.agg [I a9,I a10]] (I t3),Computes cx 43 [.agg [I a4,I a5,I a6,I a7,I a8]] (I t2),Computes cx 41 [.agg [I a0,I a1,.lst false 1 a2],.v (.float .f32 a3)] (I t1)]) (by kernel_rfl) ⟨(Zt h10),(Qt qt h9),h8,(E7 h7),(nef h6),((Qr h5).le (.cons (.full _ _ _) (.nil)) (.refl _)),(QD h4),(Wo h3),(Zx h2),(Q2 h1),trivial⟩
 ·replace h:=Qk h h6
  replace h:=Option.some.inj h
  subst h
  exact run (n:=100) (f:=19) (args:=[.agg [I a0,I a1,.lst false 1 a2],.v (.float .f32 a3),.agg [I a4,I a5,I a6,I a7,I a8],.agg [I a9,I a10],I a11]) (orc:=[.ret (I t1),.ret (I t2),.ret (I t3),.ret (I t4),.ret (I t5),.br true]) (r:=.tup [.agg [I 0,I 0],I t5]) (ob:=[(t5 != 0)=true,Computes cx 30 [.lst true 1 [I t1,I t2,I t3,I t4]] (I t5),Computes cx 39 [I a11,I 1,I 1000] (I t4),Computes cx 32 [.agg [I a9,I a10]] (I t3),Computes cx 43 [.agg [I a4,I a5,I a6,I a7,I a8]] (I t2),Computes cx 41 [.agg [I a0,I a1,.lst false 1 a2],.v (.float .f32 a3)] (I t1)]) (by kernel_rfl) ⟨(net h6),((Qr h5).le (.cons (.full _ _ _) (.nil)) (.refl _)),(QD h4),(Wo h3),(Zx h2),(Q2 h1),trivial⟩
def QI (n:Nat) (a7:Int) (t17:Int×Int×List D×Int) (t32:Int×Int×Int×Int×Int×Int) (t41 t52:List D×Int) (sa:(Int)):Option (((Int))⊕((Unit))) :=
 if sa < ((t41.1).length:Int) then
  (el VS t41.1 sa).bind fun ta2 =>
  if Wm 4 (0+(t17.2.2.1).length) then
  (Vo n t17.1 t17.2.1 t17.2.2.1 1031798784 t32.1 t32.2.1 t32.2.2.1 t32.2.2.2.1 t32.2.2.2.2.1 ta2.1 ta2.2 60).bind fun ta4 =>
  if ta4.2.2=0 then
   (el un_b t52.1 sa).bind fun ta6 =>
   if ta6=true then
    if (1+(Int.tmod (IntKind.wrap .i64 a7) 50)) < ta4.1 then
     none
    else
    if (1+(Int.tmod (IntKind.wrap .i64 a7) 50)) ≥ ta4.2.1 then
     none
    else
    if Qb (sa+1) then
    some (.inl (sa+1))
    else none
   else
   none
  else
  none
  else none
 else
 some (.inr ())
noncomputable def JI (a7:Int) (t17:Int×Int×List D×Int) (t32:Int×Int×Int×Int×Int×Int) (t41 t52:List D×Int) (sa:(Int)):List (Nat×AV):=[(10,.d (I (1+(Int.tmod (IntKind.wrap .i64 a7) 50)))),(12,.ptr 80 0 0 0 0),(24,.ptr 169 0 0 0 0),(30,.d (.lst false 1 t52.1)),(285,.d (.lst false 2 t41.1)),(286,.d (I ((t41.1).length:Int))),(287,.d (I sa))]
noncomputable def JJ (a7:Int) (t17:Int×Int×List D×Int) (t32:Int×Int×Int×Int×Int×Int) (t41 t52:List D×Int) (sa:(Int)):List (Nat×Blk):=[(80,.box (.d (.agg [I t17.1,I t17.2.1,.lst false 1 t17.2.2.1]))),(169,.box (.d (.agg [I t32.1,I t32.2.1,I t32.2.2.1,I t32.2.2.2.1,I t32.2.2.2.2.1])))]
noncomputable def Jx (a7:Int) (t17:Int×Int×List D×Int) (t32:Int×Int×Int×Int×Int×Int) (t41 t52:List D×Int) (e:(Unit)):Ex:=(.exit 0)
noncomputable def KP (a7:Int) (t17:Int×Int×List D×Int) (t32:Int×Int×Int×Int×Int×Int) (t41 t52:List D×Int) (e:(Unit)):List (Nat×AV):=[]
noncomputable def KQ (a7:Int) (t17:Int×Int×List D×Int) (t32:Int×Int×Int×Int×Int×Int) (t41 t52:List D×Int) (e:(Unit)):List (Nat×Blk):=[]
theorem Yk {n:Nat} {a7:Int} {t17:Int×Int×List D×Int} {t32:Int×Int×Int×Int×Int×Int} {t41 t52:List D×Int} (sa:(Int)) (r) (h:QI n a7 t17 t32 t41 t52 sa=some r):Rd cx (Qp cx.P 3 0) 323 0 false (JI a7 t17 t32 t41 t52) (JJ a7 t17 t32 t41 t52) (Jx a7 t17 t32 t41 t52) (KP a7 t17 t32 t41 t52) (KQ a7 t17 t32 t41 t52) sa r:=by
 unfold QI at h
 by_cases ha1:sa < ((t41.1).length:Int)
 ·replace h:=Qj h ha1
  obtain ⟨ta2,ha2,h⟩:=Qe h
  obtain ⟨ha3,h⟩:=Qg h
  obtain ⟨ta4,ha4,h⟩:=Qe h
  by_cases ha5:ta4.2.2=0
  ·replace h:=Qj h ha5
   obtain ⟨ta6,ha6,h⟩:=Qe h
   by_cases ha7:ta6=true
   ·replace h:=Qj h ha7
    by_cases ha8:(1+(Int.tmod (IntKind.wrap .i64 a7) 50)) < ta4.1
    ·replace h:=Qj h ha8
     cases h
    ·replace h:=Qk h ha8
     by_cases ha9:(1+(Int.tmod (IntKind.wrap .i64 a7) 50)) ≥ ta4.2.1
     ·replace h:=Qj h ha9
      cases h
     ·replace h:=Qk h ha9
      obtain ⟨ha10,h⟩:=Qg h
      replace h:=Option.some.inj h
      subst h
      exact ⟨100,303,[.br true,.el (.agg [I ta2.1,I ta2.2]),.no,.br true,.ix (-8),.br true,.ret (.tup [.agg [I ta4.1,I ta4.2.1],I ta4.2.2]),.br false,.el (B ta6),.br false,.br false,.br false],[],[10,12,24,30,285,286,287],[80,169],Qh (ob:=[Qb (sa+1),(decide ((1+(Int.tmod (IntKind.wrap .i64 a7) 50)) ≥ ta4.2.1))=false,(decide ((1+(Int.tmod (IntKind.wrap .i64 a7) 50)) < ta4.1))=false,(!ta6)=false,(0:Int)≤sa,nth (t52.1) (Int.toNat sa)=some (B ta6),(ta4.2.2 != 0)=false,Computes cx 19 [.agg [I t17.1,I t17.2.1,.lst false 1 t17.2.2.1],.v (.float .f32 1031798784),.agg [I t32.1,I t32.2.1,I t32.2.2.1,I t32.2.2.2.1,I t32.2.2.2.2.1],.agg [I ta2.1,I ta2.2],I 60] (.tup [.agg [I ta4.1,I ta4.2.1],I ta4.2.2]),room cx 54 (0+(t17.2.2.1).length),(0:Int)≤sa,nth (t41.1) (Int.toNat sa)=some (.agg [I ta2.1,I ta2.2]),(decide (sa < ((t41.1).length:Int)))=true]) (by kernel_rfl) ⟨ha10,(decide_eq_false ha9),(decide_eq_false ha8),(wa ha7),(Qm wu ha6).1,(Qm wu ha6).2,(nef ha5),(jE ha4),(Qv (b:=4) (by kernel_rfl) (by decide) ha3),(Qm Qx ha2).1,(Qm Qx ha2).2,(decide_eq_true ha1),trivial⟩⟩
   ·replace h:=Qk h ha7
    cases h
  ·replace h:=Qk h ha5
   cases h
 ·replace h:=Qk h ha1
  replace h:=Option.some.inj h
  subst h
  exact ⟨⟨100,303,[.br false],[],[],[],Qh (ob:=[(decide (sa < ((t41.1).length:Int)))=false]) (by kernel_rfl) ⟨(decide_eq_false ha1),trivial⟩⟩,nofun⟩
theorem JX (a0:Int) (a1:Int) (a2:List D) (a3:Int) (a4:Int) (a5:Int) (a6:Int) (a7:Int) (a8:Int) (t2:Bool):Gs true 100 cx 3 [.agg [I a0,I a1,.lst false 1 a2],.agg [.v (.int .u8 a3),.v (.int .u8 a4),.v (.int .u8 a5),.v (.int .u8 a6)],.agg [.v (.int .u8 a7),.v (.int .u8 a8)]] [.br true,.no,.no,.ret (B t2)]=some (B t2,[Computes cx 5 [] (B t2),(decide (a0 > 4))=true]):=by kernel_rfl
theorem JW (a0:Int) (a1:Int) (a2:List D) (a3:Int) (a4:Int) (a5:Int) (a6:Int) (a7:Int) (a8:Int) (t3:Bool):Gs true 100 cx 3 [.agg [I a0,I a1,.lst false 1 a2],.agg [.v (.int .u8 a3),.v (.int .u8 a4),.v (.int .u8 a5),.v (.int .u8 a6)],.agg [.v (.int .u8 a7),.v (.int .u8 a8)]] [.br false,.br true,.no,.ret (B t3)]=some (B t3,[Computes cx 5 [] (B t3),(decide (a1 > 4))=true,(decide (a0 > 4))=false]):=by kernel_rfl
theorem JV (a0:Int) (a1:Int) (a2:List D) (a3:Int) (a4:Int) (a5:Int) (a6:Int) (a7:Int) (a8:Int) (t3:Int) (t17:Int×Int×List D×Int) (t18:Int×Int×List D×Int) (t21:Int) (t23:Int) (t29:Int×Int×Int) (t30:Int×Int×Int×Int×Int) (t31:Int×Int×Int) (t32:Int×Int×Int×Int×Int×Int) (t41:List D×Int) (t45:Bool):Gs true 100 cx 3 [.agg [I a0,I a1,.lst false 1 a2],.agg [.v (.int .u8 a3),.v (.int .u8 a4),.v (.int .u8 a5),.v (.int .u8 a6)],.agg [.v (.int .u8 a7),.v (.int .u8 a8)]] [.br false,.br false,.ret (I t3),.br false,.no,.ix (-8),.br true,.ret (.tup [.agg [I t17.1,I t17.2.1,.lst false 1 t17.2.2.1],I t17.2.2.2]),.no,.ix (-8),.br true,.ret (.tup [.agg [I t18.1,I t18.2.1,.lst false 1 t18.2.2.1],I t18.2.2.2]),.br false,.br false,.ret (I t21),.br false,.ret (I t23),.br false,.br false,.br false,.no,.br true,.ix (-8),.br true,.no,.br true,.ix (-8),.br true,.ret (.tup [I t29.1,I t29.2.1,I t29.2.2]),.no,.br true,.ix (-8),.br true,.no,.br true,.ix (-8),.br true,.ret (.tup [.agg [I t30.1,I t30.2.1],.agg [I t30.2.2.1,I t30.2.2.2.1],I t30.2.2.2.2]),.no,.br true,.ix (-8),.br true,.no,.br true,.ix (-8),.br true,.ret (.tup [.agg [I t31.1,I t31.2.1],I t31.2.2]),.no,.br true,.ix (-8),.br true,.no,.br true,.ix (-8),.br true,.ret (.tup [.agg [I t32.1,I t32.2.1,I t32.2.2.1,I t32.2.2.2.1,I t32.2.2.2.2.1],I t32.2.2.2.2.2]),.br false,.br false,.br false,.br false,.br false,.br false,.br false,.br false,.br true,.br true,.ix (-8),.br true,.ret (.tup [.lst false 2 t41.1,I t41.2]),.br false,.br false,.br true,.ret (B t45)]=some (B t45,[Computes cx 5 [] (B t45),(t31.1 == 0)=true,(decide (((t41.1).length:Int) > 16))=false,(t41.2 != 0)=false,Computes cx 13 [.agg [I t18.1,I t18.2.1,.lst false 1 t18.2.2.1],.v (.float .f32 1031798784)] (.tup [.lst false 2 t41.1,I t41.2]),room cx 54 (0+(t18.2.2.1).length),(decide (t31.1 < 0))=false,(!((t30.2.2.1 == 0) && ((t30.2.2.2.1 == 1) && true)))=false,(decide (t29.2.1 < 49))=false,(t29.1 != 0)=false,(t32.2.2.2.2.2 != 0)=false,(t31.2.2 != 0)=false,(t30.2.2.2.2 != 0)=false,(t29.2.2 != 0)=false,Computes cx 12 [.agg [I t17.1,I t17.2.1,.lst false 1 t17.2.2.1],.agg [I t18.1,I t18.2.1,.lst false 1 t18.2.2.1],I 3,I 49,I (1+(Int.tmod (IntKind.wrap .i64 a7) 50)),I (Int.tmod (IntKind.wrap .i64 a8) 4)] (.tup [.agg [I t32.1,I t32.2.1,I t32.2.2.1,I t32.2.2.2.1,I t32.2.2.2.2.1],I t32.2.2.2.2.2]),room cx 54 (0+(t18.2.2.1).length),room cx 54 (0+(t17.2.2.1).length),Computes cx 11 [.agg [I t17.1,I t17.2.1,.lst false 1 t17.2.2.1],.agg [I t18.1,I t18.2.1,.lst false 1 t18.2.2.1],I 3,I 49] (.tup [.agg [I t31.1,I t31.2.1],I t31.2.2]),room cx 54 (0+(t18.2.2.1).length),room cx 54 (0+(t17.2.2.1).length),Computes cx 10 [.agg [I t17.1,I t17.2.1,.lst false 1 t17.2.2.1],.agg [I t18.1,I t18.2.1,.lst false 1 t18.2.2.1],I 3,I 49] (.tup [.agg [I t30.1,I t30.2.1],.agg [I t30.2.2.1,I t30.2.2.2.1],I t30.2.2.2.2]),room cx 54 (0+(t18.2.2.1).length),room cx 54 (0+(t17.2.2.1).length),Computes cx 8 [.agg [I t17.1,I t17.2.1,.lst false 1 t17.2.2.1],.agg [I t18.1,I t18.2.1,.lst false 1 t18.2.2.1],.agg [I ((Int.tmod (IntKind.wrap .i64 a5) 7) - 3),I ((Int.tmod (IntKind.wrap .i64 a6) 7) - 3)]] (.tup [I t29.1,I t29.2.1,I t29.2.2]),room cx 54 (0+(t18.2.2.1).length),room cx 54 (0+(t17.2.2.1).length),(((t18.2.2.1).length:Int) != 100)=false,(((t17.2.2.1).length:Int) != 100)=false,(t23 != 0)=false,Computes cx 4 [.agg [I t18.1,I t18.2.1,.lst false 1 t18.2.2.1]] (I t23),(t21 != 0)=false,Computes cx 4 [.agg [I t17.1,I t17.2.1,.lst false 1 t17.2.2.1]] (I t21),(t18.2.2.2 != 0)=false,(t17.2.2.2 != 0)=false,Computes cx 6 [.agg [I a0,I a1,.lst false 1 a2],I 10,I 10,.agg [I ((3+(Int.tmod (IntKind.wrap .i64 a3) (5 - a0)))+((Int.tmod (IntKind.wrap .i64 a5) 7) - 3)),I ((3+(Int.tmod (IntKind.wrap .i64 a4) (5 - a1)))+((Int.tmod (IntKind.wrap .i64 a6) 7) - 3))]] (.tup [.agg [I t18.1,I t18.2.1,.lst false 1 t18.2.2.1],I t18.2.2.2]),room cx 54 (0+(a2).length),Computes cx 6 [.agg [I a0,I a1,.lst false 1 a2],I 10,I 10,.agg [I (3+(Int.tmod (IntKind.wrap .i64 a3) (5 - a0))),I (3+(Int.tmod (IntKind.wrap .i64 a4) (5 - a1)))]] (.tup [.agg [I t17.1,I t17.2.1,.lst false 1 t17.2.2.1],I t17.2.2.2]),room cx 54 (0+(a2).length),(4:Int)≠0,Qb (1+(Int.tmod (IntKind.wrap .i64 a7) 50)),(50:Int)≠0,Qb ((3+(Int.tmod (IntKind.wrap .i64 a4) (5 - a1)))+((Int.tmod (IntKind.wrap .i64 a6) 7) - 3)),Qb ((3+(Int.tmod (IntKind.wrap .i64 a3) (5 - a0)))+((Int.tmod (IntKind.wrap .i64 a5) 7) - 3)),Qb ((Int.tmod (IntKind.wrap .i64 a6) 7) - 3),(7:Int)≠0,Qb ((Int.tmod (IntKind.wrap .i64 a5) 7) - 3),(7:Int)≠0,Qb (3+(Int.tmod (IntKind.wrap .i64 a4) (5 - a1))),(5 - a1)≠0,Qb (5 - a1),Qb (3+(Int.tmod (IntKind.wrap .i64 a3) (5 - a0))),(5 - a0)≠0,Qb (5 - a0),(t3 != 0)=false,Computes cx 4 [.agg [I a0,I a1,.lst false 1 a2]] (I t3),(decide (a1 > 4))=false,(decide (a0 > 4))=false]):=by kernel_rfl
theorem JU (a0:Int) (a1:Int) (a2:List D) (a3:Int) (a4:Int) (a5:Int) (a6:Int) (a7:Int) (a8:Int) (t3:Int) (t17:Int×Int×List D×Int) (t18:Int×Int×List D×Int) (t21:Int) (t23:Int) (t29:Int×Int×Int) (t30:Int×Int×Int×Int×Int) (t31:Int×Int×Int) (t32:Int×Int×Int×Int×Int×Int) (t41:List D×Int) (t45:List D×Int) (t48:Bool) (t52:List D×Int) (t53:List D×Int) (t57:Bool) (t60:Bool):Gs true 100 cx 3 [.agg [I a0,I a1,.lst false 1 a2],.agg [.v (.int .u8 a3),.v (.int .u8 a4),.v (.int .u8 a5),.v (.int .u8 a6)],.agg [.v (.int .u8 a7),.v (.int .u8 a8)]] [.br false,.br false,.ret (I t3),.br false,.no,.ix (-8),.br true,.ret (.tup [.agg [I t17.1,I t17.2.1,.lst false 1 t17.2.2.1],I t17.2.2.2]),.no,.ix (-8),.br true,.ret (.tup [.agg [I t18.1,I t18.2.1,.lst false 1 t18.2.2.1],I t18.2.2.2]),.br false,.br false,.ret (I t21),.br false,.ret (I t23),.br false,.br false,.br false,.no,.br true,.ix (-8),.br true,.no,.br true,.ix (-8),.br true,.ret (.tup [I t29.1,I t29.2.1,I t29.2.2]),.no,.br true,.ix (-8),.br true,.no,.br true,.ix (-8),.br true,.ret (.tup [.agg [I t30.1,I t30.2.1],.agg [I t30.2.2.1,I t30.2.2.2.1],I t30.2.2.2.2]),.no,.br true,.ix (-8),.br true,.no,.br true,.ix (-8),.br true,.ret (.tup [.agg [I t31.1,I t31.2.1],I t31.2.2]),.no,.br true,.ix (-8),.br true,.no,.br true,.ix (-8),.br true,.ret (.tup [.agg [I t32.1,I t32.2.1,I t32.2.2.1,I t32.2.2.2.1,I t32.2.2.2.2.1],I t32.2.2.2.2.2]),.br false,.br false,.br false,.br false,.br false,.br false,.br false,.br false,.br true,.br true,.ix (-8),.br true,.ret (.tup [.lst false 2 t41.1,I t41.2]),.br false,.br false,.br false,.ret (.tup [.lst false 2 t45.1,I t45.2]),.br false,.br false,.ret (B t48),.br false,.no,.br true,.ix (-8),.br true,.br true,.br true,.ret (.tup [.lst false 1 t52.1,I t52.2]),.no,.br true,.ix (-8),.br true,.ret (.tup [.lst false 2 t53.1,I t53.2]),.br false,.br false,.br false,.ret (B t57),.br false,.lp [] [10,12,24,30,285,286,287] [80,169] (.exit 0) [] [] 355,.ret (B t60)]=some (B t60,[Computes cx 5 [] (B t60),QX cx (Qp cx.P 3 0) 323 0 false [(10,.d (I (1+(Int.tmod (IntKind.wrap .i64 a7) 50)))),(12,.ptr 80 0 0 0 0),(24,.ptr 169 0 0 0 0),(30,.d (.lst false 1 t52.1)),(285,.d (.lst false 2 t41.1)),(286,.d (I ((t41.1).length:Int))),(287,.d (I 0))] [(80,.box (.d (.agg [I t17.1,I t17.2.1,.lst false 1 t17.2.2.1]))),(169,.box (.d (.agg [I t32.1,I t32.2.1,I t32.2.2.1,I t32.2.2.2.1,I t32.2.2.2.2.1])))] (.exit 0) [] [],(!t57)=false,Computes cx 18 [.lst false 2 t53.1,.lst false 2 t41.1] (B t57),(((t52.1).length:Int) != ((t41.1).length:Int))=false,(t53.2 != 0)=false,(t52.2 != 0)=false,Computes cx 17 [.agg [I t17.1,I t17.2.1,.lst false 1 t17.2.2.1],.v (.float .f32 1031798784),.agg [I ((Int.tmod (IntKind.wrap .i64 a5) 7) - 3),I ((Int.tmod (IntKind.wrap .i64 a6) 7) - 3)],I (1+(Int.tmod (IntKind.wrap .i64 a7) 50)),I (1+(Int.tmod (IntKind.wrap .i64 a7) 50))] (.tup [.lst false 2 t53.1,I t53.2]),room cx 54 (0+(t17.2.2.1).length),Computes cx 16 [.agg [I t17.1,I t17.2.1,.lst false 1 t17.2.2.1],.v (.float .f32 1031798784),.agg [I t32.1,I t32.2.1,I t32.2.2.1,I t32.2.2.2.1,I t32.2.2.2.2.1],I (1+(Int.tmod (IntKind.wrap .i64 a7) 50)),.lst true 2 []] (.tup [.lst false 1 t52.1,I t52.2]),We t41.1=true,room cx 30 (0+(t41.1).length),room cx 54 (0+(t17.2.2.1).length),(!t48)=false,Computes cx 15 [.lst false 2 t45.1,.agg [I ((Int.tmod (IntKind.wrap .i64 a5) 7) - 3),I ((Int.tmod (IntKind.wrap .i64 a6) 7) - 3)]] (B t48),(t45.2 != 0)=false,(!((t30.1 == ((Int.tmod (IntKind.wrap .i64 a5) 7) - 3)) && ((t30.2.1 == ((Int.tmod (IntKind.wrap .i64 a6) 7) - 3)) && true)))=false,Computes cx 14 [.agg [I t32.1,I t32.2.1,I t32.2.2.1,I t32.2.2.2.1,I t32.2.2.2.2.1]] (.tup [.lst false 2 t45.1,I t45.2]),(t31.1 == 0)=false,(decide (((t41.1).length:Int) > 16))=false,(t41.2 != 0)=false,Computes cx 13 [.agg [I t18.1,I t18.2.1,.lst false 1 t18.2.2.1],.v (.float .f32 1031798784)] (.tup [.lst false 2 t41.1,I t41.2]),room cx 54 (0+(t18.2.2.1).length),(decide (t31.1 < 0))=false,(!((t30.2.2.1 == 0) && ((t30.2.2.2.1 == 1) && true)))=false,(decide (t29.2.1 < 49))=false,(t29.1 != 0)=false,(t32.2.2.2.2.2 != 0)=false,(t31.2.2 != 0)=false,(t30.2.2.2.2 != 0)=false,(t29.2.2 != 0)=false,Computes cx 12 [.agg [I t17.1,I t17.2.1,.lst false 1 t17.2.2.1],.agg [I t18.1,I t18.2.1,.lst false 1 t18.2.2.1],I 3,I 49,I (1+(Int.tmod (IntKind.wrap .i64 a7) 50)),I (Int.tmod (IntKind.wrap .i64 a8) 4)] (.tup [.agg [I t32.1,I t32.2.1,I t32.2.2.1,I t32.2.2.2.1,I t32.2.2.2.2.1],I t32.2.2.2.2.2]),room cx 54 (0+(t18.2.2.1).length),room cx 54 (0+(t17.2.2.1).length),Computes cx 11 [.agg [I t17.1,I t17.2.1,.lst false 1 t17.2.2.1],.agg [I t18.1,I t18.2.1,.lst false 1 t18.2.2.1],I 3,I 49] (.tup [.agg [I t31.1,I t31.2.1],I t31.2.2]),room cx 54 (0+(t18.2.2.1).length),room cx 54 (0+(t17.2.2.1).length),Computes cx 10 [.agg [I t17.1,I t17.2.1,.lst false 1 t17.2.2.1],.agg [I t18.1,I t18.2.1,.lst false 1 t18.2.2.1],I 3,I 49] (.tup [.agg [I t30.1,I t30.2.1],.agg [I t30.2.2.1,I t30.2.2.2.1],I t30.2.2.2.2]),room cx 54 (0+(t18.2.2.1).length),room cx 54 (0+(t17.2.2.1).length),Computes cx 8 [.agg [I t17.1,I t17.2.1,.lst false 1 t17.2.2.1],.agg [I t18.1,I t18.2.1,.lst false 1 t18.2.2.1],.agg [I ((Int.tmod (IntKind.wrap .i64 a5) 7) - 3),I ((Int.tmod (IntKind.wrap .i64 a6) 7) - 3)]] (.tup [I t29.1,I t29.2.1,I t29.2.2]),room cx 54 (0+(t18.2.2.1).length),room cx 54 (0+(t17.2.2.1).length),(((t18.2.2.1).length:Int) != 100)=false,(((t17.2.2.1).length:Int) != 100)=false,(t23 != 0)=false,Computes cx 4 [.agg [I t18.1,I t18.2.1,.lst false 1 t18.2.2.1]] (I t23),(t21 != 0)=false,Computes cx 4 [.agg [I t17.1,I t17.2.1,.lst false 1 t17.2.2.1]] (I t21),(t18.2.2.2 != 0)=false,(t17.2.2.2 != 0)=false,Computes cx 6 [.agg [I a0,I a1,.lst false 1 a2],I 10,I 10,.agg [I ((3+(Int.tmod (IntKind.wrap .i64 a3) (5 - a0)))+((Int.tmod (IntKind.wrap .i64 a5) 7) - 3)),I ((3+(Int.tmod (IntKind.wrap .i64 a4) (5 - a1)))+((Int.tmod (IntKind.wrap .i64 a6) 7) - 3))]] (.tup [.agg [I t18.1,I t18.2.1,.lst false 1 t18.2.2.1],I t18.2.2.2]),room cx 54 (0+(a2).length),Computes cx 6 [.agg [I a0,I a1,.lst false 1 a2],I 10,I 10,.agg [I (3+(Int.tmod (IntKind.wrap .i64 a3) (5 - a0))),I (3+(Int.tmod (IntKind.wrap .i64 a4) (5 - a1)))]] (.tup [.agg [I t17.1,I t17.2.1,.lst false 1 t17.2.2.1],I t17.2.2.2]),room cx 54 (0+(a2).length),(4:Int)≠0,Qb (1+(Int.tmod (IntKind.wrap .i64 a7) 50)),(50:Int)≠0,Qb ((3+(Int.tmod (IntKind.wrap .i64 a4) (5 - a1)))+((Int.tmod (IntKind.wrap .i64 a6) 7) - 3)),Qb ((3+(Int.tmod (IntKind.wrap .i64 a3) (5 - a0)))+((Int.tmod (IntKind.wrap .i64 a5) 7) - 3)),Qb ((Int.tmod (IntKind.wrap .i64 a6) 7) - 3),(7:Int)≠0,Qb ((Int.tmod (IntKind.wrap .i64 a5) 7) - 3),(7:Int)≠0,Qb (3+(Int.tmod (IntKind.wrap .i64 a4) (5 - a1))),(5 - a1)≠0,Qb (5 - a1),Qb (3+(Int.tmod (IntKind.wrap .i64 a3) (5 - a0))),(5 - a0)≠0,Qb (5 - a0),(t3 != 0)=false,Computes cx 4 [.agg [I a0,I a1,.lst false 1 a2]] (I t3),(decide (a1 > 4))=false,(decide (a0 > 4))=false]):=by kernel_rfl
theorem Jm (a0:Int) (a1:Int) (a2:List D) (a3:Int) (a4:Int) (a5:Int) (a6:Int) (a7:Int) (a8:Int) (t3:Int) (t17:Int×Int×List D×Int) (t18:Int×Int×List D×Int) (t21:Int) (t23:Int) (t29:Int×Int×Int) (t30:Int×Int×Int×Int×Int) (t31:Int×Int×Int) (t32:Int×Int×Int×Int×Int×Int) (t41:List D×Int) (t45:List D×Int) (t48:Bool) (t52:List D×Int) (t53:List D×Int) (t57:Bool) (t60:Bool):Gs true 100 cx 3 [.agg [I a0,I a1,.lst false 1 a2],.agg [.v (.int .u8 a3),.v (.int .u8 a4),.v (.int .u8 a5),.v (.int .u8 a6)],.agg [.v (.int .u8 a7),.v (.int .u8 a8)]] [.br false,.br false,.ret (I t3),.br false,.no,.ix (-8),.br true,.ret (.tup [.agg [I t17.1,I t17.2.1,.lst false 1 t17.2.2.1],I t17.2.2.2]),.no,.ix (-8),.br true,.ret (.tup [.agg [I t18.1,I t18.2.1,.lst false 1 t18.2.2.1],I t18.2.2.2]),.br false,.br false,.ret (I t21),.br false,.ret (I t23),.br false,.br false,.br false,.no,.br true,.ix (-8),.br true,.no,.br true,.ix (-8),.br true,.ret (.tup [I t29.1,I t29.2.1,I t29.2.2]),.no,.br true,.ix (-8),.br true,.no,.br true,.ix (-8),.br true,.ret (.tup [.agg [I t30.1,I t30.2.1],.agg [I t30.2.2.1,I t30.2.2.2.1],I t30.2.2.2.2]),.no,.br true,.ix (-8),.br true,.no,.br true,.ix (-8),.br true,.ret (.tup [.agg [I t31.1,I t31.2.1],I t31.2.2]),.no,.br true,.ix (-8),.br true,.no,.br true,.ix (-8),.br true,.ret (.tup [.agg [I t32.1,I t32.2.1,I t32.2.2.1,I t32.2.2.2.1,I t32.2.2.2.2.1],I t32.2.2.2.2.2]),.br false,.br false,.br false,.br false,.br false,.br false,.br false,.br false,.br true,.br true,.ix (-8),.br true,.ret (.tup [.lst false 2 t41.1,I t41.2]),.br false,.br false,.br false,.ret (.tup [.lst false 2 t45.1,I t45.2]),.br false,.br false,.ret (B t48),.br false,.no,.br true,.ix (-8),.br true,.br true,.br false,.ix 0,.ret (.tup [.lst false 1 t52.1,I t52.2]),.no,.br true,.ix (-8),.br true,.ret (.tup [.lst false 2 t53.1,I t53.2]),.br false,.br false,.br false,.ret (B t57),.br false,.lp [] [10,12,24,30,285,286,287] [80,169] (.exit 0) [] [] 355,.ret (B t60)]=some (B t60,[Computes cx 5 [] (B t60),QX cx (Qp cx.P 3 0) 323 0 false [(10,.d (I (1+(Int.tmod (IntKind.wrap .i64 a7) 50)))),(12,.ptr 80 0 0 0 0),(24,.ptr 169 0 0 0 0),(30,.d (.lst false 1 t52.1)),(285,.d (.lst false 2 t41.1)),(286,.d (I ((t41.1).length:Int))),(287,.d (I 0))] [(80,.box (.d (.agg [I t17.1,I t17.2.1,.lst false 1 t17.2.2.1]))),(169,.box (.d (.agg [I t32.1,I t32.2.1,I t32.2.2.1,I t32.2.2.2.1,I t32.2.2.2.2.1])))] (.exit 0) [] [],(!t57)=false,Computes cx 18 [.lst false 2 t53.1,.lst false 2 t41.1] (B t57),(((t52.1).length:Int) != ((t41.1).length:Int))=false,(t53.2 != 0)=false,(t52.2 != 0)=false,Computes cx 17 [.agg [I t17.1,I t17.2.1,.lst false 1 t17.2.2.1],.v (.float .f32 1031798784),.agg [I ((Int.tmod (IntKind.wrap .i64 a5) 7) - 3),I ((Int.tmod (IntKind.wrap .i64 a6) 7) - 3)],I (1+(Int.tmod (IntKind.wrap .i64 a7) 50)),I (1+(Int.tmod (IntKind.wrap .i64 a7) 50))] (.tup [.lst false 2 t53.1,I t53.2]),room cx 54 (0+(t17.2.2.1).length),Computes cx 16 [.agg [I t17.1,I t17.2.1,.lst false 1 t17.2.2.1],.v (.float .f32 1031798784),.agg [I t32.1,I t32.2.1,I t32.2.2.1,I t32.2.2.2.1,I t32.2.2.2.2.1],I (1+(Int.tmod (IntKind.wrap .i64 a7) 50)),.lst false 2 t41.1] (.tup [.lst false 1 t52.1,I t52.2]),We t41.1=false,room cx 30 (0+(t41.1).length),room cx 54 (0+(t17.2.2.1).length),(!t48)=false,Computes cx 15 [.lst false 2 t45.1,.agg [I ((Int.tmod (IntKind.wrap .i64 a5) 7) - 3),I ((Int.tmod (IntKind.wrap .i64 a6) 7) - 3)]] (B t48),(t45.2 != 0)=false,(!((t30.1 == ((Int.tmod (IntKind.wrap .i64 a5) 7) - 3)) && ((t30.2.1 == ((Int.tmod (IntKind.wrap .i64 a6) 7) - 3)) && true)))=false,Computes cx 14 [.agg [I t32.1,I t32.2.1,I t32.2.2.1,I t32.2.2.2.1,I t32.2.2.2.2.1]] (.tup [.lst false 2 t45.1,I t45.2]),(t31.1 == 0)=false,(decide (((t41.1).length:Int) > 16))=false,(t41.2 != 0)=false,Computes cx 13 [.agg [I t18.1,I t18.2.1,.lst false 1 t18.2.2.1],.v (.float .f32 1031798784)] (.tup [.lst false 2 t41.1,I t41.2]),room cx 54 (0+(t18.2.2.1).length),(decide (t31.1 < 0))=false,(!((t30.2.2.1 == 0) && ((t30.2.2.2.1 == 1) && true)))=false,(decide (t29.2.1 < 49))=false,(t29.1 != 0)=false,(t32.2.2.2.2.2 != 0)=false,(t31.2.2 != 0)=false,(t30.2.2.2.2 != 0)=false,(t29.2.2 != 0)=false,Computes cx 12 [.agg [I t17.1,I t17.2.1,.lst false 1 t17.2.2.1],.agg [I t18.1,I t18.2.1,.lst false 1 t18.2.2.1],I 3,I 49,I (1+(Int.tmod (IntKind.wrap .i64 a7) 50)),I (Int.tmod (IntKind.wrap .i64 a8) 4)] (.tup [.agg [I t32.1,I t32.2.1,I t32.2.2.1,I t32.2.2.2.1,I t32.2.2.2.2.1],I t32.2.2.2.2.2]),room cx 54 (0+(t18.2.2.1).length),room cx 54 (0+(t17.2.2.1).length),Computes cx 11 [.agg [I t17.1,I t17.2.1,.lst false 1 t17.2.2.1],.agg [I t18.1,I t18.2.1,.lst false 1 t18.2.2.1],I 3,I 49] (.tup [.agg [I t31.1,I t31.2.1],I t31.2.2]),room cx 54 (0+(t18.2.2.1).length),room cx 54 (0+(t17.2.2.1).length),Computes cx 10 [.agg [I t17.1,I t17.2.1,.lst false 1 t17.2.2.1],.agg [I t18.1,I t18.2.1,.lst false 1 t18.2.2.1],I 3,I 49] (.tup [.agg [I t30.1,I t30.2.1],.agg [I t30.2.2.1,I t30.2.2.2.1],I t30.2.2.2.2]),room cx 54 (0+(t18.2.2.1).length),room cx 54 (0+(t17.2.2.1).length),Computes cx 8 [.agg [I t17.1,I t17.2.1,.lst false 1 t17.2.2.1],.agg [I t18.1,I t18.2.1,.lst false 1 t18.2.2.1],.agg [I ((Int.tmod (IntKind.wrap .i64 a5) 7) - 3),I ((Int.tmod (IntKind.wrap .i64 a6) 7) - 3)]] (.tup [I t29.1,I t29.2.1,I t29.2.2]),room cx 54 (0+(t18.2.2.1).length),room cx 54 (0+(t17.2.2.1).length),(((t18.2.2.1).length:Int) != 100)=false,(((t17.2.2.1).length:Int) != 100)=false,(t23 != 0)=false,Computes cx 4 [.agg [I t18.1,I t18.2.1,.lst false 1 t18.2.2.1]] (I t23),(t21 != 0)=false,Computes cx 4 [.agg [I t17.1,I t17.2.1,.lst false 1 t17.2.2.1]] (I t21),(t18.2.2.2 != 0)=false,(t17.2.2.2 != 0)=false,Computes cx 6 [.agg [I a0,I a1,.lst false 1 a2],I 10,I 10,.agg [I ((3+(Int.tmod (IntKind.wrap .i64 a3) (5 - a0)))+((Int.tmod (IntKind.wrap .i64 a5) 7) - 3)),I ((3+(Int.tmod (IntKind.wrap .i64 a4) (5 - a1)))+((Int.tmod (IntKind.wrap .i64 a6) 7) - 3))]] (.tup [.agg [I t18.1,I t18.2.1,.lst false 1 t18.2.2.1],I t18.2.2.2]),room cx 54 (0+(a2).length),Computes cx 6 [.agg [I a0,I a1,.lst false 1 a2],I 10,I 10,.agg [I (3+(Int.tmod (IntKind.wrap .i64 a3) (5 - a0))),I (3+(Int.tmod (IntKind.wrap .i64 a4) (5 - a1)))]] (.tup [.agg [I t17.1,I t17.2.1,.lst false 1 t17.2.2.1],I t17.2.2.2]),room cx 54 (0+(a2).length),(4:Int)≠0,Qb (1+(Int.tmod (IntKind.wrap .i64 a7) 50)),(50:Int)≠0,Qb ((3+(Int.tmod (IntKind.wrap .i64 a4) (5 - a1)))+((Int.tmod (IntKind.wrap .i64 a6) 7) - 3)),Qb ((3+(Int.tmod (IntKind.wrap .i64 a3) (5 - a0)))+((Int.tmod (IntKind.wrap .i64 a5) 7) - 3)),Qb ((Int.tmod (IntKind.wrap .i64 a6) 7) - 3),(7:Int)≠0,Qb ((Int.tmod (IntKind.wrap .i64 a5) 7) - 3),(7:Int)≠0,Qb (3+(Int.tmod (IntKind.wrap .i64 a4) (5 - a1))),(5 - a1)≠0,Qb (5 - a1),Qb (3+(Int.tmod (IntKind.wrap .i64 a3) (5 - a0))),(5 - a0)≠0,Qb (5 - a0),(t3 != 0)=false,Computes cx 4 [.agg [I a0,I a1,.lst false 1 a2]] (I t3),(decide (a1 > 4))=false,(decide (a0 > 4))=false]):=by kernel_rfl
theorem Jl (a0:Int) (a1:Int) (a2:List D) (a3:Int) (a4:Int) (a5:Int) (a6:Int) (a7:Int) (a8:Int) (t3:Int) (t5:Bool):Gs true 100 cx 3 [.agg [I a0,I a1,.lst false 1 a2],.agg [.v (.int .u8 a3),.v (.int .u8 a4),.v (.int .u8 a5),.v (.int .u8 a6)],.agg [.v (.int .u8 a7),.v (.int .u8 a8)]] [.br false,.br false,.ret (I t3),.br true,.ret (B t5)]=some (B t5,[Computes cx 5 [] (B t5),(t3 != 0)=true,Computes cx 4 [.agg [I a0,I a1,.lst false 1 a2]] (I t3),(decide (a1 > 4))=false,(decide (a0 > 4))=false]):=by kernel_rfl
def WK (n:Nat) (a0 a1:Int) (a2:List D) (a3 a4 a5 a6 a7 a8:Int):Option (Bool) :=
 if a0 > 4 then
  (WJ n).bind fun t2 =>
  some t2
 else
 if a1 > 4 then
  (WJ n).bind fun t3 =>
  some t3
 else
 (QH n a0 a1 a2).bind fun t3 =>
 if t3=0 then
  if Qb (5 - a0) then
  if (5 - a0)≠0 then
  if Qb (3+(Int.tmod (IntKind.wrap .i64 a3) (5 - a0))) then
  if Qb (5 - a1) then
  if (5 - a1)≠0 then
  if Qb (3+(Int.tmod (IntKind.wrap .i64 a4) (5 - a1))) then
  if Qb ((Int.tmod (IntKind.wrap .i64 a5) 7) - 3) then
  if Qb ((Int.tmod (IntKind.wrap .i64 a6) 7) - 3) then
  if Qb ((3+(Int.tmod (IntKind.wrap .i64 a3) (5 - a0)))+((Int.tmod (IntKind.wrap .i64 a5) 7) - 3)) then
  if Qb ((3+(Int.tmod (IntKind.wrap .i64 a4) (5 - a1)))+((Int.tmod (IntKind.wrap .i64 a6) 7) - 3)) then
  if Qb (1+(Int.tmod (IntKind.wrap .i64 a7) 50)) then
  if Wm 4 (0+(a2).length) then
  (Z4 n a0 a1 a2 10 10 (3+(Int.tmod (IntKind.wrap .i64 a3) (5 - a0))) (3+(Int.tmod (IntKind.wrap .i64 a4) (5 - a1)))).bind fun t17 =>
  (Z4 n a0 a1 a2 10 10 ((3+(Int.tmod (IntKind.wrap .i64 a3) (5 - a0)))+((Int.tmod (IntKind.wrap .i64 a5) 7) - 3)) ((3+(Int.tmod (IntKind.wrap .i64 a4) (5 - a1)))+((Int.tmod (IntKind.wrap .i64 a6) 7) - 3))).bind fun t18 =>
  if t17.2.2.2=0 then
   if t18.2.2.2=0 then
    (QH n t17.1 t17.2.1 t17.2.2.1).bind fun t21 =>
    if t21=0 then
     (QH n t18.1 t18.2.1 t18.2.2.1).bind fun t23 =>
     if t23=0 then
      if ((t17.2.2.1).length:Int)=100 then
       if ((t18.2.2.1).length:Int)=100 then
        if Wm 4 (0+(t17.2.2.1).length) then
        if Wm 4 (0+(t18.2.2.1).length) then
        (Ww n t17.1 t17.2.1 t17.2.2.1 t18.1 t18.2.1 t18.2.2.1 ((Int.tmod (IntKind.wrap .i64 a5) 7) - 3) ((Int.tmod (IntKind.wrap .i64 a6) 7) - 3)).bind fun t29 =>
        (Zs n t17.1 t17.2.1 t17.2.2.1 t18.1 t18.2.1 t18.2.2.1 3 49).bind fun t30 =>
        (Vp n t17.1 t17.2.1 t17.2.2.1 t18.1 t18.2.1 t18.2.2.1 3 49).bind fun t31 =>
        (Yl n t17.1 t17.2.1 t17.2.2.1 t18.1 t18.2.1 t18.2.2.1 3 49 (1+(Int.tmod (IntKind.wrap .i64 a7) 50)) (Int.tmod (IntKind.wrap .i64 a8) 4)).bind fun t32 =>
        if t29.2.2=0 then
         if t30.2.2.2.2=0 then
          if t31.2.2=0 then
           if t32.2.2.2.2.2=0 then
            if t29.1=0 then
             if t29.2.1 < 49 then
              none
             else
             if ((t30.2.2.1 == 0) && ((t30.2.2.2.1 == 1) && true))=true then
              if t31.1 < 0 then
               none
              else
              (Yn n t18.1 t18.2.1 t18.2.2.1 1031798784).bind fun t41 =>
              if t41.2=0 then
               if ((t41.1).length:Int) > 16 then
                none
               else
               if t31.1=0 then
                (WJ n).bind fun t45 =>
                some t45
               else
               (W5 n t32.1 t32.2.1 t32.2.2.1 t32.2.2.2.1 t32.2.2.2.2.1).bind fun t45 =>
               if ((t30.1 == ((Int.tmod (IntKind.wrap .i64 a5) 7) - 3)) && ((t30.2.1 == ((Int.tmod (IntKind.wrap .i64 a6) 7) - 3)) && true))=true then
                if t45.2=0 then
                 (YV n t45.1 ((Int.tmod (IntKind.wrap .i64 a5) 7) - 3) ((Int.tmod (IntKind.wrap .i64 a6) 7) - 3)).bind fun t48 =>
                 if t48=true then
                  if Wm 16 (0+(t41.1).length) then
                  if We t41.1=true then
                   (WT n t17.1 t17.2.1 t17.2.2.1 1031798784 t32.1 t32.2.1 t32.2.2.1 t32.2.2.2.1 t32.2.2.2.2.1 (1+(Int.tmod (IntKind.wrap .i64 a7) 50)) ([])).bind fun t52 =>
                   (WA n t17.1 t17.2.1 t17.2.2.1 1031798784 ((Int.tmod (IntKind.wrap .i64 a5) 7) - 3) ((Int.tmod (IntKind.wrap .i64 a6) 7) - 3) (1+(Int.tmod (IntKind.wrap .i64 a7) 50)) (1+(Int.tmod (IntKind.wrap .i64 a7) 50))).bind fun t53 =>
                   if t52.2=0 then
                    if t53.2=0 then
                     if ((t52.1).length:Int)=((t41.1).length:Int) then
                      (ZP n t53.1 t41.1).bind fun t57 =>
                      if t57=true then
                       (QF (QI n a7 t17 t32 t41 t52) n 0).bind fun t59 =>
                       (WJ n).bind fun t60 =>
                       some t60
                      else
                      none
                     else
                     none
                    else
                    none
                   else
                   none
                  else
                  (WT n t17.1 t17.2.1 t17.2.2.1 1031798784 t32.1 t32.2.1 t32.2.2.1 t32.2.2.2.1 t32.2.2.2.2.1 (1+(Int.tmod (IntKind.wrap .i64 a7) 50)) t41.1).bind fun t52 =>
                  (WA n t17.1 t17.2.1 t17.2.2.1 1031798784 ((Int.tmod (IntKind.wrap .i64 a5) 7) - 3) ((Int.tmod (IntKind.wrap .i64 a6) 7) - 3) (1+(Int.tmod (IntKind.wrap .i64 a7) 50)) (1+(Int.tmod (IntKind.wrap .i64 a7) 50))).bind fun t53 =>
                  if t52.2=0 then
                   if t53.2=0 then
                    if ((t52.1).length:Int)=((t41.1).length:Int) then
                     (ZP n t53.1 t41.1).bind fun t57 =>
                     if t57=true then
                      (QF (QI n a7 t17 t32 t41 t52) n 0).bind fun t59 =>
                      (WJ n).bind fun t60 =>
                      some t60
                     else
                     none
                    else
                    none
                   else
                   none
                  else
                  none
                  else none
                 else
                 none
                else
                none
               else
               none
              else
              none
             else
             none
            else
            none
           else
           none
          else
          none
         else
         none
        else
        none
        else none
        else none
       else
       none
      else
      none
     else
     none
    else
    none
   else
   none
  else
  none
  else none
  else none
  else none
  else none
  else none
  else none
  else none
  else none
  else none
  else none
  else none
  else none
 else
 (WJ n).bind fun t5 =>
 some t5
theorem Xq {n:Nat} {a0 a1:Int} {a2:List D} {a3 a4 a5 a6 a7 a8:Int} {r:Bool} (h:WK n a0 a1 a2 a3 a4 a5 a6 a7 a8=some r):Computes cx 3 [.agg [I a0,I a1,.lst false 1 a2],.agg [.v (.int .u8 a3),.v (.int .u8 a4),.v (.int .u8 a5),.v (.int .u8 a6)],.agg [.v (.int .u8 a7),.v (.int .u8 a8)]] (B r):=by
 unfold WK at h
 by_cases h1:a0 > 4
 ·replace h:=Qj h h1
  obtain ⟨t2,h2,h⟩:=Qe h
  replace h:=Option.some.inj h
  subst h
  exact run (n:=100) (f:=3) (args:=[.agg [I a0,I a1,.lst false 1 a2],.agg [.v (.int .u8 a3),.v (.int .u8 a4),.v (.int .u8 a5),.v (.int .u8 a6)],.agg [.v (.int .u8 a7),.v (.int .u8 a8)]]) (orc:=[.br true,.no,.no,.ret (B t2)]) (r:=B t2) (ob:=[Computes cx 5 [] (B t2),(decide (a0 > 4))=true]) (JX a0 a1 a2 a3 a4 a5 a6 a7 a8 t2) ⟨(W7 h2),(decide_eq_true h1),trivial⟩
 ·replace h:=Qk h h1
  by_cases h2:a1 > 4
  ·replace h:=Qj h h2
   obtain ⟨t3,h3,h⟩:=Qe h
   replace h:=Option.some.inj h
   subst h
   exact run (n:=100) (f:=3) (args:=[.agg [I a0,I a1,.lst false 1 a2],.agg [.v (.int .u8 a3),.v (.int .u8 a4),.v (.int .u8 a5),.v (.int .u8 a6)],.agg [.v (.int .u8 a7),.v (.int .u8 a8)]]) (orc:=[.br false,.br true,.no,.ret (B t3)]) (r:=B t3) (ob:=[Computes cx 5 [] (B t3),(decide (a1 > 4))=true,(decide (a0 > 4))=false]) (JW a0 a1 a2 a3 a4 a5 a6 a7 a8 t3) ⟨(W7 h3),(decide_eq_true h2),(decide_eq_false h1),trivial⟩
  ·replace h:=Qk h h2
   obtain ⟨t3,h3,h⟩:=Qe h
   by_cases h4:t3=0
   ·replace h:=Qj h h4
    obtain ⟨h5,h⟩:=Qg h
    obtain ⟨h6,h⟩:=Qg h
    obtain ⟨h7,h⟩:=Qg h
    obtain ⟨h8,h⟩:=Qg h
    obtain ⟨h9,h⟩:=Qg h
    obtain ⟨h10,h⟩:=Qg h
    obtain ⟨h11,h⟩:=Qg h
    obtain ⟨h12,h⟩:=Qg h
    obtain ⟨h13,h⟩:=Qg h
    obtain ⟨h14,h⟩:=Qg h
    obtain ⟨h15,h⟩:=Qg h
    obtain ⟨h16,h⟩:=Qg h
    obtain ⟨t17,h17,h⟩:=Qe h
    obtain ⟨t18,h18,h⟩:=Qe h
    by_cases h19:t17.2.2.2=0
    ·replace h:=Qj h h19
     by_cases h20:t18.2.2.2=0
     ·replace h:=Qj h h20
      obtain ⟨t21,h21,h⟩:=Qe h
      by_cases h22:t21=0
      ·replace h:=Qj h h22
       obtain ⟨t23,h23,h⟩:=Qe h
       by_cases h24:t23=0
       ·replace h:=Qj h h24
        by_cases h25:((t17.2.2.1).length:Int)=100
        ·replace h:=Qj h h25
         by_cases h26:((t18.2.2.1).length:Int)=100
         ·replace h:=Qj h h26
          obtain ⟨h27,h⟩:=Qg h
          obtain ⟨h28,h⟩:=Qg h
          obtain ⟨t29,h29,h⟩:=Qe h
          obtain ⟨t30,h30,h⟩:=Qe h
          obtain ⟨t31,h31,h⟩:=Qe h
          obtain ⟨t32,h32,h⟩:=Qe h
          by_cases h33:t29.2.2=0
          ·replace h:=Qj h h33
           by_cases h34:t30.2.2.2.2=0
           ·replace h:=Qj h h34
            by_cases h35:t31.2.2=0
            ·replace h:=Qj h h35
             by_cases h36:t32.2.2.2.2.2=0
             ·replace h:=Qj h h36
              by_cases h37:t29.1=0
              ·replace h:=Qj h h37
               by_cases h38:t29.2.1 < 49
               ·replace h:=Qj h h38
                cases h
               ·replace h:=Qk h h38
                by_cases h39:((t30.2.2.1 == 0) && ((t30.2.2.2.1 == 1) && true))=true
                ·replace h:=Qj h h39
                 by_cases h40:t31.1 < 0
                 ·replace h:=Qj h h40
                  cases h
                 ·replace h:=Qk h h40
                  obtain ⟨t41,h41,h⟩:=Qe h
                  by_cases h42:t41.2=0
                  ·replace h:=Qj h h42
                   by_cases h43:((t41.1).length:Int) > 16
                   ·replace h:=Qj h h43
                    cases h
                   ·replace h:=Qk h h43
                    by_cases h44:t31.1=0
                    ·replace h:=Qj h h44
                     obtain ⟨t45,h45,h⟩:=Qe h
                     replace h:=Option.some.inj h
                     subst h
                     exact run (n:=100) (f:=3) (args:=[.agg [I a0,I a1,.lst false 1 a2],.agg [.v (.int .u8 a3),.v (.int .u8 a4),.v (.int .u8 a5),.v (.int .u8 a6)],.agg [.v (.int .u8 a7),.v (.int .u8 a8)]]) (orc:=[.br false,.br false,.ret (I t3),.br false,.no,.ix (-8),.br true,.ret (.tup [.agg [I t17.1,I t17.2.1,.lst false 1 t17.2.2.1],I t17.2.2.2]),.no,.ix (-8),.br true,.ret (.tup [.agg [I t18.1,I t18.2.1,.lst false 1 t18.2.2.1],I t18.2.2.2]),.br false,.br false,.ret (I t21),.br false,.ret (I t23),.br false,.br false,.br false,.no,.br true,.ix (-8),.br true,.no,.br true,.ix (-8),.br true,.ret (.tup [I t29.1,I t29.2.1,I t29.2.2]),.no,.br true,.ix (-8),.br true,.no,.br true,.ix (-8),.br true,.ret (.tup [.agg [I t30.1,I t30.2.1],.agg [I t30.2.2.1,I t30.2.2.2.1],I t30.2.2.2.2]),.no,.br true,.ix (-8),.br true,.no,.br true,.ix (-8),.br true,.ret (.tup [.agg [I t31.1,I t31.2.1],I t31.2.2]),.no,.br true,.ix (-8),.br true,.no,.br true,.ix (-8),.br true,.ret (.tup [.agg [I t32.1,I t32.2.1,I t32.2.2.1,I t32.2.2.2.1,I t32.2.2.2.2.1],I t32.2.2.2.2.2]),.br false,.br false,.br false,.br false,.br false,.br false,.br false,.br false,.br true,.br true,.ix (-8),.br true,.ret (.tup [.lst false 2 t41.1,I t41.2]),.br false,.br false,.br true,.ret (B t45)]) (r:=B t45) (ob:=[Computes cx 5 [] (B t45),(t31.1 == 0)=true,(decide (((t41.1).length:Int) > 16))=false,(t41.2 != 0)=false,Computes cx 13 [.agg [I t18.1,I t18.2.1,.lst false 1 t18.2.2.1],.v (.float .f32 1031798784)] (.tup [.lst false 2 t41.1,I t41.2]),room cx 54 (0+(t18.2.2.1).length),(decide (t31.1 < 0))=false,(!((t30.2.2.1 == 0) && ((t30.2.2.2.1 == 1) && true)))=false,(decide (t29.2.1 < 49))=false,(t29.1 != 0)=false,(t32.2.2.2.2.2 != 0)=false,(t31.2.2 != 0)=false,(t30.2.2.2.2 != 0)=false,(t29.2.2 != 0)=false,Computes cx 12 [.agg [I t17.1,I t17.2.1,.lst false 1 t17.2.2.1],.agg [I t18.1,I t18.2.1,.lst false 1 t18.2.2.1],I 3,I 49,I (1+(Int.tmod (IntKind.wrap .i64 a7) 50)),I (Int.tmod (IntKind.wrap .i64 a8) 4)] (.tup [.agg [I t32.1,I t32.2.1,I t32.2.2.1,I t32.2.2.2.1,I t32.2.2.2.2.1],I t32.2.2.2.2.2]),room cx 54 (0+(t18.2.2.1).length),room cx 54 (0+(t17.2.2.1).length),Computes cx 11 [.agg [I t17.1,I t17.2.1,.lst false 1 t17.2.2.1],.agg [I t18.1,I t18.2.1,.lst false 1 t18.2.2.1],I 3,I 49] (.tup [.agg [I t31.1,I t31.2.1],I t31.2.2]),room cx 54 (0+(t18.2.2.1).length),room cx 54 (0+(t17.2.2.1).length),Computes cx 10 [.agg [I t17.1,I t17.2.1,.lst false 1 t17.2.2.1],.agg [I t18.1,I t18.2.1,.lst false 1 t18.2.2.1],I 3,I 49] (.tup [.agg [I t30.1,I t30.2.1],.agg [I t30.2.2.1,I t30.2.2.2.1],I t30.2.2.2.2]),room cx 54 (0+(t18.2.2.1).length),room cx 54 (0+(t17.2.2.1).length),Computes cx 8 [.agg [I t17.1,I t17.2.1,.lst false 1 t17.2.2.1],.agg [I t18.1,I t18.2.1,.lst false 1 t18.2.2.1],.agg [I ((Int.tmod (IntKind.wrap .i64 a5) 7) - 3),I ((Int.tmod (IntKind.wrap .i64 a6) 7) - 3)]] (.tup [I t29.1,I t29.2.1,I t29.2.2]),room cx 54 (0+(t18.2.2.1).length),room cx 54 (0+(t17.2.2.1).length),(((t18.2.2.1).length:Int) != 100)=false,(((t17.2.2.1).length:Int) != 100)=false,(t23 != 0)=false,Computes cx 4 [.agg [I t18.1,I t18.2.1,.lst false 1 t18.2.2.1]] (I t23),(t21 != 0)=false,Computes cx 4 [.agg [I t17.1,I t17.2.1,.lst false 1 t17.2.2.1]] (I t21),(t18.2.2.2 != 0)=false,(t17.2.2.2 != 0)=false,Computes cx 6 [.agg [I a0,I a1,.lst false 1 a2],I 10,I 10,.agg [I ((3+(Int.tmod (IntKind.wrap .i64 a3) (5 - a0)))+((Int.tmod (IntKind.wrap .i64 a5) 7) - 3)),I ((3+(Int.tmod (IntKind.wrap .i64 a4) (5 - a1)))+((Int.tmod (IntKind.wrap .i64 a6) 7) - 3))]] (.tup [.agg [I t18.1,I t18.2.1,.lst false 1 t18.2.2.1],I t18.2.2.2]),room cx 54 (0+(a2).length),Computes cx 6 [.agg [I a0,I a1,.lst false 1 a2],I 10,I 10,.agg [I (3+(Int.tmod (IntKind.wrap .i64 a3) (5 - a0))),I (3+(Int.tmod (IntKind.wrap .i64 a4) (5 - a1)))]] (.tup [.agg [I t17.1,I t17.2.1,.lst false 1 t17.2.2.1],I t17.2.2.2]),room cx 54 (0+(a2).length),(4:Int)≠0,Qb (1+(Int.tmod (IntKind.wrap .i64 a7) 50)),(50:Int)≠0,Qb ((3+(Int.tmod (IntKind.wrap .i64 a4) (5 - a1)))+((Int.tmod (IntKind.wrap .i64 a6) 7) - 3)),Qb ((3+(Int.tmod (IntKind.wrap .i64 a3) (5 - a0)))+((Int.tmod (IntKind.wrap .i64 a5) 7) - 3)),Qb ((Int.tmod (IntKind.wrap .i64 a6) 7) - 3),(7:Int)≠0,Qb ((Int.tmod (IntKind.wrap .i64 a5) 7) - 3),(7:Int)≠0,Qb (3+(Int.tmod (IntKind.wrap .i64 a4) (5 - a1))),(5 - a1)≠0,Qb (5 - a1),Qb (3+(Int.tmod (IntKind.wrap .i64 a3) (5 - a0))),(5 - a0)≠0,Qb (5 - a0),(t3 != 0)=false,Computes cx 4 [.agg [I a0,I a1,.lst false 1 a2]] (I t3),(decide (a1 > 4))=false,(decide (a0 > 4))=false]) (JV a0 a1 a2 a3 a4 a5 a6 a7 a8 t3 t17 t18 t21 t23 t29 t30 t31 t32 t41 t45) ⟨(W7 h45),(eqt h44),(decide_eq_false h43),(nef h42),(Jv h41),(Qv (b:=4) (by kernel_rfl) (by decide) h28),(decide_eq_false h40),(wa h39),(decide_eq_false h38),(nef h37),(nef h36),(nef h35),(nef h34),(nef h33),(Ju h32),(Qv (b:=4) (by kernel_rfl) (by decide) h28),(Qv (b:=4) (by kernel_rfl) (by decide) h27),(UQ h31),(Qv (b:=4) (by kernel_rfl) (by decide) h28),(Qv (b:=4) (by kernel_rfl) (by decide) h27),(WH h30),(Qv (b:=4) (by kernel_rfl) (by decide) h28),(Qv (b:=4) (by kernel_rfl) (by decide) h27),(VW h29),(Qv (b:=4) (by kernel_rfl) (by decide) h28),(Qv (b:=4) (by kernel_rfl) (by decide) h27),(nef h26),(nef h25),(nef h24),(QL h23),(nef h22),(QL h21),(nef h20),(nef h19),(ZY h18),(Qv (b:=4) (by kernel_rfl) (by decide) h16),(ZY h17),(Qv (b:=4) (by kernel_rfl) (by decide) h16),(by decide),h15,(by decide),h14,h13,h12,(by decide),h11,(by decide),h10,h9,h8,h7,h6,h5,(nef h4),(QL h3),(decide_eq_false h2),(decide_eq_false h1),trivial⟩
                    ·replace h:=Qk h h44
                     obtain ⟨t45,h45,h⟩:=Qe h
                     by_cases h46:((t30.1 == ((Int.tmod (IntKind.wrap .i64 a5) 7) - 3)) && ((t30.2.1 == ((Int.tmod (IntKind.wrap .i64 a6) 7) - 3)) && true))=true
                     ·replace h:=Qj h h46
                      by_cases h47:t45.2=0
                      ·replace h:=Qj h h47
                       obtain ⟨t48,h48,h⟩:=Qe h
                       by_cases h49:t48=true
                       ·replace h:=Qj h h49
                        obtain ⟨h50,h⟩:=Qg h
                        by_cases h51:We t41.1=true
                        ·replace h:=Qj h h51
                         obtain ⟨t52,h52,h⟩:=Qe h
                         obtain ⟨t53,h53,h⟩:=Qe h
                         by_cases h54:t52.2=0
                         ·replace h:=Qj h h54
                          by_cases h55:t53.2=0
                          ·replace h:=Qj h h55
                           by_cases h56:((t52.1).length:Int)=((t41.1).length:Int)
                           ·replace h:=Qj h h56
                            obtain ⟨t57,h57,h⟩:=Qe h
                            by_cases h58:t57=true
                            ·replace h:=Qj h h58
                             obtain ⟨t59,h59,h⟩:=Qe h
                             obtain ⟨t60,h60,h⟩:=Qe h
                             replace h:=Option.some.inj h
                             subst h
                             exact run (n:=100) (f:=3) (args:=[.agg [I a0,I a1,.lst false 1 a2],.agg [.v (.int .u8 a3),.v (.int .u8 a4),.v (.int .u8 a5),.v (.int .u8 a6)],.agg [.v (.int .u8 a7),.v (.int .u8 a8)]]) (orc:=[.br false,.br false,.ret (I t3),.br false,.no,.ix (-8),.br true,.ret (.tup [.agg [I t17.1,I t17.2.1,.lst false 1 t17.2.2.1],I t17.2.2.2]),.no,.ix (-8),.br true,.ret (.tup [.agg [I t18.1,I t18.2.1,.lst false 1 t18.2.2.1],I t18.2.2.2]),.br false,.br false,.ret (I t21),.br false,.ret (I t23),.br false,.br false,.br false,.no,.br true,.ix (-8),.br true,.no,.br true,.ix (-8),.br true,.ret (.tup [I t29.1,I t29.2.1,I t29.2.2]),.no,.br true,.ix (-8),.br true,.no,.br true,.ix (-8),.br true,.ret (.tup [.agg [I t30.1,I t30.2.1],.agg [I t30.2.2.1,I t30.2.2.2.1],I t30.2.2.2.2]),.no,.br true,.ix (-8),.br true,.no,.br true,.ix (-8),.br true,.ret (.tup [.agg [I t31.1,I t31.2.1],I t31.2.2]),.no,.br true,.ix (-8),.br true,.no,.br true,.ix (-8),.br true,.ret (.tup [.agg [I t32.1,I t32.2.1,I t32.2.2.1,I t32.2.2.2.1,I t32.2.2.2.2.1],I t32.2.2.2.2.2]),.br false,.br false,.br false,.br false,.br false,.br false,.br false,.br false,.br true,.br true,.ix (-8),.br true,.ret (.tup [.lst false 2 t41.1,I t41.2]),.br false,.br false,.br false,.ret (.tup [.lst false 2 t45.1,I t45.2]),.br false,.br false,.ret (B t48),.br false,.no,.br true,.ix (-8),.br true,.br true,.br true,.ret (.tup [.lst false 1 t52.1,I t52.2]),.no,.br true,.ix (-8),.br true,.ret (.tup [.lst false 2 t53.1,I t53.2]),.br false,.br false,.br false,.ret (B t57),.br false,.lp [] [10,12,24,30,285,286,287] [80,169] (.exit 0) [] [] 355,.ret (B t60)]) (r:=B t60) (ob:=[Computes cx 5 [] (B t60),QX cx (Qp cx.P 3 0) 323 0 false [(10,.d (I (1+(Int.tmod (IntKind.wrap .i64 a7) 50)))),(12,.ptr 80 0 0 0 0),(24,.ptr 169 0 0 0 0),(30,.d (.lst false 1 t52.1)),(285,.d (.lst false 2 t41.1)),(286,.d (I ((t41.1).length:Int))),(287,.d (I 0))] [(80,.box (.d (.agg [I t17.1,I t17.2.1,.lst false 1 t17.2.2.1]))),(169,.box (.d (.agg [I t32.1,I t32.2.1,I t32.2.2.1,I t32.2.2.2.1,I t32.2.2.2.2.1])))] (.exit 0) [] [],(!t57)=false,Computes cx 18 [.lst false 2 t53.1,.lst false 2 t41.1] (B t57),(((t52.1).length:Int) != ((t41.1).length:Int))=false,(t53.2 != 0)=false,(t52.2 != 0)=false,Computes cx 17 [.agg [I t17.1,I t17.2.1,.lst false 1 t17.2.2.1],.v (.float .f32 1031798784),.agg [I ((Int.tmod (IntKind.wrap .i64 a5) 7) - 3),I ((Int.tmod (IntKind.wrap .i64 a6) 7) - 3)],I (1+(Int.tmod (IntKind.wrap .i64 a7) 50)),I (1+(Int.tmod (IntKind.wrap .i64 a7) 50))] (.tup [.lst false 2 t53.1,I t53.2]),room cx 54 (0+(t17.2.2.1).length),Computes cx 16 [.agg [I t17.1,I t17.2.1,.lst false 1 t17.2.2.1],.v (.float .f32 1031798784),.agg [I t32.1,I t32.2.1,I t32.2.2.1,I t32.2.2.2.1,I t32.2.2.2.2.1],I (1+(Int.tmod (IntKind.wrap .i64 a7) 50)),.lst true 2 []] (.tup [.lst false 1 t52.1,I t52.2]),We t41.1=true,room cx 30 (0+(t41.1).length),room cx 54 (0+(t17.2.2.1).length),(!t48)=false,Computes cx 15 [.lst false 2 t45.1,.agg [I ((Int.tmod (IntKind.wrap .i64 a5) 7) - 3),I ((Int.tmod (IntKind.wrap .i64 a6) 7) - 3)]] (B t48),(t45.2 != 0)=false,(!((t30.1 == ((Int.tmod (IntKind.wrap .i64 a5) 7) - 3)) && ((t30.2.1 == ((Int.tmod (IntKind.wrap .i64 a6) 7) - 3)) && true)))=false,Computes cx 14 [.agg [I t32.1,I t32.2.1,I t32.2.2.1,I t32.2.2.2.1,I t32.2.2.2.2.1]] (.tup [.lst false 2 t45.1,I t45.2]),(t31.1 == 0)=false,(decide (((t41.1).length:Int) > 16))=false,(t41.2 != 0)=false,Computes cx 13 [.agg [I t18.1,I t18.2.1,.lst false 1 t18.2.2.1],.v (.float .f32 1031798784)] (.tup [.lst false 2 t41.1,I t41.2]),room cx 54 (0+(t18.2.2.1).length),(decide (t31.1 < 0))=false,(!((t30.2.2.1 == 0) && ((t30.2.2.2.1 == 1) && true)))=false,(decide (t29.2.1 < 49))=false,(t29.1 != 0)=false,(t32.2.2.2.2.2 != 0)=false,(t31.2.2 != 0)=false,(t30.2.2.2.2 != 0)=false,(t29.2.2 != 0)=false,Computes cx 12 [.agg [I t17.1,I t17.2.1,.lst false 1 t17.2.2.1],.agg [I t18.1,I t18.2.1,.lst false 1 t18.2.2.1],I 3,I 49,I (1+(Int.tmod (IntKind.wrap .i64 a7) 50)),I (Int.tmod (IntKind.wrap .i64 a8) 4)] (.tup [.agg [I t32.1,I t32.2.1,I t32.2.2.1,I t32.2.2.2.1,I t32.2.2.2.2.1],I t32.2.2.2.2.2]),room cx 54 (0+(t18.2.2.1).length),room cx 54 (0+(t17.2.2.1).length),Computes cx 11 [.agg [I t17.1,I t17.2.1,.lst false 1 t17.2.2.1],.agg [I t18.1,I t18.2.1,.lst false 1 t18.2.2.1],I 3,I 49] (.tup [.agg [I t31.1,I t31.2.1],I t31.2.2]),room cx 54 (0+(t18.2.2.1).length),room cx 54 (0+(t17.2.2.1).length),Computes cx 10 [.agg [I t17.1,I t17.2.1,.lst false 1 t17.2.2.1],.agg [I t18.1,I t18.2.1,.lst false 1 t18.2.2.1],I 3,I 49] (.tup [.agg [I t30.1,I t30.2.1],.agg [I t30.2.2.1,I t30.2.2.2.1],I t30.2.2.2.2]),room cx 54 (0+(t18.2.2.1).length),room cx 54 (0+(t17.2.2.1).length),Computes cx 8 [.agg [I t17.1,I t17.2.1,.lst false 1 t17.2.2.1],.agg [I t18.1,I t18.2.1,.lst false 1 t18.2.2.1],.agg [I ((Int.tmod (IntKind.wrap .i64 a5) 7) - 3),I ((Int.tmod (IntKind.wrap .i64 a6) 7) - 3)]] (.tup [I t29.1,I t29.2.1,I t29.2.2]),room cx 54 (0+(t18.2.2.1).length),room cx 54 (0+(t17.2.2.1).length),(((t18.2.2.1).length:Int) != 100)=false,(((t17.2.2.1).length:Int) != 100)=false,(t23 != 0)=false,Computes cx 4 [.agg [I t18.1,I t18.2.1,.lst false 1 t18.2.2.1]] (I t23),(t21 != 0)=false,Computes cx 4 [.agg [I t17.1,I t17.2.1,.lst false 1 t17.2.2.1]] (I t21),(t18.2.2.2 != 0)=false,(t17.2.2.2 != 0)=false,Computes cx 6 [.agg [I a0,I a1,.lst false 1 a2],I 10,I 10,.agg [I ((3+(Int.tmod (IntKind.wrap .i64 a3) (5 - a0)))+((Int.tmod (IntKind.wrap .i64 a5) 7) - 3)),I ((3+(Int.tmod (IntKind.wrap .i64 a4) (5 - a1)))+((Int.tmod (IntKind.wrap .i64 a6) 7) - 3))]] (.tup [.agg [I t18.1,I t18.2.1,.lst false 1 t18.2.2.1],I t18.2.2.2]),room cx 54 (0+(a2).length),Computes cx 6 [.agg [I a0,I a1,.lst false 1 a2],I 10,I 10,.agg [I (3+(Int.tmod (IntKind.wrap .i64 a3) (5 - a0))),I (3+(Int.tmod (IntKind.wrap .i64 a4) (5 - a1)))]] (.tup [.agg [I t17.1,I t17.2.1,.lst false 1 t17.2.2.1],I t17.2.2.2]),room cx 54 (0+(a2).length),(4:Int)≠0,Qb (1+(Int.tmod (IntKind.wrap .i64 a7) 50)),(50:Int)≠0,Qb ((3+(Int.tmod (IntKind.wrap .i64 a4) (5 - a1)))+((Int.tmod (IntKind.wrap .i64 a6) 7) - 3)),Qb ((3+(Int.tmod (IntKind.wrap .i64 a3) (5 - a0)))+((Int.tmod (IntKind.wrap .i64 a5) 7) - 3)),Qb ((Int.tmod (IntKind.wrap .i64 a6) 7) - 3),(7:Int)≠0,Qb ((Int.tmod (IntKind.wrap .i64 a5) 7) - 3),(7:Int)≠0,Qb (3+(Int.tmod (IntKind.wrap .i64 a4) (5 - a1))),(5 - a1)≠0,Qb (5 - a1),Qb (3+(Int.tmod (IntKind.wrap .i64 a3) (5 - a0))),(5 - a0)≠0,Qb (5 - a0),(t3 != 0)=false,Computes cx 4 [.agg [I a0,I a1,.lst false 1 a2]] (I t3),(decide (a1 > 4))=false,(decide (a0 > 4))=false]) (JU a0 a1 a2 a3 a4 a5 a6 a7 a8 t3 t17 t18 t21 t23 t29 t30 t31 t32 t41 t45 t48 t52 t53 t57 t60) ⟨(W7 h60),(Qt Yk h59),(wa h58),(UM h57),(nef h56),(nef h55),(nef h54),(JQ h53),(Qv (b:=4) (by kernel_rfl) (by decide) h27),((zW h52).le (.cons (.refl _) (.cons (.refl _) (.cons (.refl _) (.cons (.refl _) (.cons (.full _ _ _) (.nil)))))) (.refl _)),h51,(Qv (b:=16) (by kernel_rfl) (by decide) h50),(Qv (b:=4) (by kernel_rfl) (by decide) h27),(wa h49),(zV h48),(nef h47),(wa h46),(JP h45),(eqf h44),(decide_eq_false h43),(nef h42),(Jv h41),(Qv (b:=4) (by kernel_rfl) (by decide) h28),(decide_eq_false h40),(wa h39),(decide_eq_false h38),(nef h37),(nef h36),(nef h35),(nef h34),(nef h33),(Ju h32),(Qv (b:=4) (by kernel_rfl) (by decide) h28),(Qv (b:=4) (by kernel_rfl) (by decide) h27),(UQ h31),(Qv (b:=4) (by kernel_rfl) (by decide) h28),(Qv (b:=4) (by kernel_rfl) (by decide) h27),(WH h30),(Qv (b:=4) (by kernel_rfl) (by decide) h28),(Qv (b:=4) (by kernel_rfl) (by decide) h27),(VW h29),(Qv (b:=4) (by kernel_rfl) (by decide) h28),(Qv (b:=4) (by kernel_rfl) (by decide) h27),(nef h26),(nef h25),(nef h24),(QL h23),(nef h22),(QL h21),(nef h20),(nef h19),(ZY h18),(Qv (b:=4) (by kernel_rfl) (by decide) h16),(ZY h17),(Qv (b:=4) (by kernel_rfl) (by decide) h16),(by decide),h15,(by decide),h14,h13,h12,(by decide),h11,(by decide),h10,h9,h8,h7,h6,h5,(nef h4),(QL h3),(decide_eq_false h2),(decide_eq_false h1),trivial⟩
                            ·replace h:=Qk h h58
                             cases h
                           ·replace h:=Qk h h56
                            cases h
                          ·replace h:=Qk h h55
                           cases h
                         ·replace h:=Qk h h54
                          cases h
                        ·replace h:=Qk h h51
                         obtain ⟨t52,h52,h⟩:=Qe h
                         obtain ⟨t53,h53,h⟩:=Qe h
                         by_cases h54:t52.2=0
                         ·replace h:=Qj h h54
                          by_cases h55:t53.2=0
                          ·replace h:=Qj h h55
                           by_cases h56:((t52.1).length:Int)=((t41.1).length:Int)
                           ·replace h:=Qj h h56
                            obtain ⟨t57,h57,h⟩:=Qe h
                            by_cases h58:t57=true
                            ·replace h:=Qj h h58
                             obtain ⟨t59,h59,h⟩:=Qe h
                             obtain ⟨t60,h60,h⟩:=Qe h
                             replace h:=Option.some.inj h
                             subst h
                             exact run (n:=100) (f:=3) (args:=[.agg [I a0,I a1,.lst false 1 a2],.agg [.v (.int .u8 a3),.v (.int .u8 a4),.v (.int .u8 a5),.v (.int .u8 a6)],.agg [.v (.int .u8 a7),.v (.int .u8 a8)]]) (orc:=[.br false,.br false,.ret (I t3),.br false,.no,.ix (-8),.br true,.ret (.tup [.agg [I t17.1,I t17.2.1,.lst false 1 t17.2.2.1],I t17.2.2.2]),.no,.ix (-8),.br true,.ret (.tup [.agg [I t18.1,I t18.2.1,.lst false 1 t18.2.2.1],I t18.2.2.2]),.br false,.br false,.ret (I t21),.br false,.ret (I t23),.br false,.br false,.br false,.no,.br true,.ix (-8),.br true,.no,.br true,.ix (-8),.br true,.ret (.tup [I t29.1,I t29.2.1,I t29.2.2]),.no,.br true,.ix (-8),.br true,.no,.br true,.ix (-8),.br true,.ret (.tup [.agg [I t30.1,I t30.2.1],.agg [I t30.2.2.1,I t30.2.2.2.1],I t30.2.2.2.2]),.no,.br true,.ix (-8),.br true,.no,.br true,.ix (-8),.br true,.ret (.tup [.agg [I t31.1,I t31.2.1],I t31.2.2]),.no,.br true,.ix (-8),.br true,.no,.br true,.ix (-8),.br true,.ret (.tup [.agg [I t32.1,I t32.2.1,I t32.2.2.1,I t32.2.2.2.1,I t32.2.2.2.2.1],I t32.2.2.2.2.2]),.br false,.br false,.br false,.br false,.br false,.br false,.br false,.br false,.br true,.br true,.ix (-8),.br true,.ret (.tup [.lst false 2 t41.1,I t41.2]),.br false,.br false,.br false,.ret (.tup [.lst false 2 t45.1,I t45.2]),.br false,.br false,.ret (B t48),.br false,.no,.br true,.ix (-8),.br true,.br true,.br false,.ix 0,.ret (.tup [.lst false 1 t52.1,I t52.2]),.no,.br true,.ix (-8),.br true,.ret (.tup [.lst false 2 t53.1,I t53.2]),.br false,.br false,.br false,.ret (B t57),.br false,.lp [] [10,12,24,30,285,286,287] [80,169] (.exit 0) [] [] 355,.ret (B t60)]) (r:=B t60) (ob:=[Computes cx 5 [] (B t60),QX cx (Qp cx.P 3 0) 323 0 false [(10,.d (I (1+(Int.tmod (IntKind.wrap .i64 a7) 50)))),(12,.ptr 80 0 0 0 0),(24,.ptr 169 0 0 0 0),(30,.d (.lst false 1 t52.1)),(285,.d (.lst false 2 t41.1)),(286,.d (I ((t41.1).length:Int))),(287,.d (I 0))] [(80,.box (.d (.agg [I t17.1,I t17.2.1,.lst false 1 t17.2.2.1]))),(169,.box (.d (.agg [I t32.1,I t32.2.1,I t32.2.2.1,I t32.2.2.2.1,I t32.2.2.2.2.1])))] (.exit 0) [] [],(!t57)=false,Computes cx 18 [.lst false 2 t53.1,.lst false 2 t41.1] (B t57),(((t52.1).length:Int) != ((t41.1).length:Int))=false,(t53.2 != 0)=false,(t52.2 != 0)=false,Computes cx 17 [.agg [I t17.1,I t17.2.1,.lst false 1 t17.2.2.1],.v (.float .f32 1031798784),.agg [I ((Int.tmod (IntKind.wrap .i64 a5) 7) - 3),I ((Int.tmod (IntKind.wrap .i64 a6) 7) - 3)],I (1+(Int.tmod (IntKind.wrap .i64 a7) 50)),I (1+(Int.tmod (IntKind.wrap .i64 a7) 50))] (.tup [.lst false 2 t53.1,I t53.2]),room cx 54 (0+(t17.2.2.1).length),Computes cx 16 [.agg [I t17.1,I t17.2.1,.lst false 1 t17.2.2.1],.v (.float .f32 1031798784),.agg [I t32.1,I t32.2.1,I t32.2.2.1,I t32.2.2.2.1,I t32.2.2.2.2.1],I (1+(Int.tmod (IntKind.wrap .i64 a7) 50)),.lst false 2 t41.1] (.tup [.lst false 1 t52.1,I t52.2]),We t41.1=false,room cx 30 (0+(t41.1).length),room cx 54 (0+(t17.2.2.1).length),(!t48)=false,Computes cx 15 [.lst false 2 t45.1,.agg [I ((Int.tmod (IntKind.wrap .i64 a5) 7) - 3),I ((Int.tmod (IntKind.wrap .i64 a6) 7) - 3)]] (B t48),(t45.2 != 0)=false,(!((t30.1 == ((Int.tmod (IntKind.wrap .i64 a5) 7) - 3)) && ((t30.2.1 == ((Int.tmod (IntKind.wrap .i64 a6) 7) - 3)) && true)))=false,Computes cx 14 [.agg [I t32.1,I t32.2.1,I t32.2.2.1,I t32.2.2.2.1,I t32.2.2.2.2.1]] (.tup [.lst false 2 t45.1,I t45.2]),(t31.1 == 0)=false,(decide (((t41.1).length:Int) > 16))=false,(t41.2 != 0)=false,Computes cx 13 [.agg [I t18.1,I t18.2.1,.lst false 1 t18.2.2.1],.v (.float .f32 1031798784)] (.tup [.lst false 2 t41.1,I t41.2]),room cx 54 (0+(t18.2.2.1).length),(decide (t31.1 < 0))=false,(!((t30.2.2.1 == 0) && ((t30.2.2.2.1 == 1) && true)))=false,(decide (t29.2.1 < 49))=false,(t29.1 != 0)=false,(t32.2.2.2.2.2 != 0)=false,(t31.2.2 != 0)=false,(t30.2.2.2.2 != 0)=false,(t29.2.2 != 0)=false,Computes cx 12 [.agg [I t17.1,I t17.2.1,.lst false 1 t17.2.2.1],.agg [I t18.1,I t18.2.1,.lst false 1 t18.2.2.1],I 3,I 49,I (1+(Int.tmod (IntKind.wrap .i64 a7) 50)),I (Int.tmod (IntKind.wrap .i64 a8) 4)] (.tup [.agg [I t32.1,I t32.2.1,I t32.2.2.1,I t32.2.2.2.1,I t32.2.2.2.2.1],I t32.2.2.2.2.2]),room cx 54 (0+(t18.2.2.1).length),room cx 54 (0+(t17.2.2.1).length),Computes cx 11 [.agg [I t17.1,I t17.2.1,.lst false 1 t17.2.2.1],.agg [I t18.1,I t18.2.1,.lst false 1 t18.2.2.1],I 3,I 49] (.tup [.agg [I t31.1,I t31.2.1],I t31.2.2]),room cx 54 (0+(t18.2.2.1).length),room cx 54 (0+(t17.2.2.1).length),Computes cx 10 [.agg [I t17.1,I t17.2.1,.lst false 1 t17.2.2.1],.agg [I t18.1,I t18.2.1,.lst false 1 t18.2.2.1],I 3,I 49] (.tup [.agg [I t30.1,I t30.2.1],.agg [I t30.2.2.1,I t30.2.2.2.1],I t30.2.2.2.2]),room cx 54 (0+(t18.2.2.1).length),room cx 54 (0+(t17.2.2.1).length),Computes cx 8 [.agg [I t17.1,I t17.2.1,.lst false 1 t17.2.2.1],.agg [I t18.1,I t18.2.1,.lst false 1 t18.2.2.1],.agg [I ((Int.tmod (IntKind.wrap .i64 a5) 7) - 3),I ((Int.tmod (IntKind.wrap .i64 a6) 7) - 3)]] (.tup [I t29.1,I t29.2.1,I t29.2.2]),room cx 54 (0+(t18.2.2.1).length),room cx 54 (0+(t17.2.2.1).length),(((t18.2.2.1).length:Int) != 100)=false,(((t17.2.2.1).length:Int) != 100)=false,(t23 != 0)=false,Computes cx 4 [.agg [I t18.1,I t18.2.1,.lst false 1 t18.2.2.1]] (I t23),(t21 != 0)=false,Computes cx 4 [.agg [I t17.1,I t17.2.1,.lst false 1 t17.2.2.1]] (I t21),(t18.2.2.2 != 0)=false,(t17.2.2.2 != 0)=false,Computes cx 6 [.agg [I a0,I a1,.lst false 1 a2],I 10,I 10,.agg [I ((3+(Int.tmod (IntKind.wrap .i64 a3) (5 - a0)))+((Int.tmod (IntKind.wrap .i64 a5) 7) - 3)),I ((3+(Int.tmod (IntKind.wrap .i64 a4) (5 - a1)))+((Int.tmod (IntKind.wrap .i64 a6) 7) - 3))]] (.tup [.agg [I t18.1,I t18.2.1,.lst false 1 t18.2.2.1],I t18.2.2.2]),room cx 54 (0+(a2).length),Computes cx 6 [.agg [I a0,I a1,.lst false 1 a2],I 10,I 10,.agg [I (3+(Int.tmod (IntKind.wrap .i64 a3) (5 - a0))),I (3+(Int.tmod (IntKind.wrap .i64 a4) (5 - a1)))]] (.tup [.agg [I t17.1,I t17.2.1,.lst false 1 t17.2.2.1],I t17.2.2.2]),room cx 54 (0+(a2).length),(4:Int)≠0,Qb (1+(Int.tmod (IntKind.wrap .i64 a7) 50)),(50:Int)≠0,Qb ((3+(Int.tmod (IntKind.wrap .i64 a4) (5 - a1)))+((Int.tmod (IntKind.wrap .i64 a6) 7) - 3)),Qb ((3+(Int.tmod (IntKind.wrap .i64 a3) (5 - a0)))+((Int.tmod (IntKind.wrap .i64 a5) 7) - 3)),Qb ((Int.tmod (IntKind.wrap .i64 a6) 7) - 3),(7:Int)≠0,Qb ((Int.tmod (IntKind.wrap .i64 a5) 7) - 3),(7:Int)≠0,Qb (3+(Int.tmod (IntKind.wrap .i64 a4) (5 - a1))),(5 - a1)≠0,Qb (5 - a1),Qb (3+(Int.tmod (IntKind.wrap .i64 a3) (5 - a0))),(5 - a0)≠0,Qb (5 - a0),(t3 != 0)=false,Computes cx 4 [.agg [I a0,I a1,.lst false 1 a2]] (I t3),(decide (a1 > 4))=false,(decide (a0 > 4))=false]) (Jm a0 a1 a2 a3 a4 a5 a6 a7 a8 t3 t17 t18 t21 t23 t29 t30 t31 t32 t41 t45 t48 t52 t53 t57 t60) ⟨(W7 h60),(Qt Yk h59),(wa h58),(UM h57),(nef h56),(nef h55),(nef h54),(JQ h53),(Qv (b:=4) (by kernel_rfl) (by decide) h27),(zW h52),(QY h51),(Qv (b:=16) (by kernel_rfl) (by decide) h50),(Qv (b:=4) (by kernel_rfl) (by decide) h27),(wa h49),(zV h48),(nef h47),(wa h46),(JP h45),(eqf h44),(decide_eq_false h43),(nef h42),(Jv h41),(Qv (b:=4) (by kernel_rfl) (by decide) h28),(decide_eq_false h40),(wa h39),(decide_eq_false h38),(nef h37),(nef h36),(nef h35),(nef h34),(nef h33),(Ju h32),(Qv (b:=4) (by kernel_rfl) (by decide) h28),(Qv (b:=4) (by kernel_rfl) (by decide) h27),(UQ h31),(Qv (b:=4) (by kernel_rfl) (by decide) h28),(Qv (b:=4) (by kernel_rfl) (by decide) h27),(WH h30),(Qv (b:=4) (by kernel_rfl) (by decide) h28),(Qv (b:=4) (by kernel_rfl) (by decide) h27),(VW h29),(Qv (b:=4) (by kernel_rfl) (by decide) h28),(Qv (b:=4) (by kernel_rfl) (by decide) h27),(nef h26),(nef h25),(nef h24),(QL h23),(nef h22),(QL h21),(nef h20),(nef h19),(ZY h18),(Qv (b:=4) (by kernel_rfl) (by decide) h16),(ZY h17),(Qv (b:=4) (by kernel_rfl) (by decide) h16),(by decide),h15,(by decide),h14,h13,h12,(by decide),h11,(by decide),h10,h9,h8,h7,h6,h5,(nef h4),(QL h3),(decide_eq_false h2),(decide_eq_false h1),trivial⟩
                            ·replace h:=Qk h h58
                             cases h
                           ·replace h:=Qk h h56
                            cases h
                          ·replace h:=Qk h h55
                           cases h
                         ·replace h:=Qk h h54
                          cases h
                       ·replace h:=Qk h h49
                        cases h
                      ·replace h:=Qk h h47
                       cases h
                     ·replace h:=Qk h h46
                      cases h
                  ·replace h:=Qk h h42
                   cases h
                ·replace h:=Qk h h39
                 cases h
              ·replace h:=Qk h h37
               cases h
             ·replace h:=Qk h h36
              cases h
            ·replace h:=Qk h h35
             cases h
           ·replace h:=Qk h h34
            cases h
          ·replace h:=Qk h h33
           cases h
         ·replace h:=Qk h h26
          cases h
        ·replace h:=Qk h h25
         cases h
       ·replace h:=Qk h h24
        cases h
      ·replace h:=Qk h h22
       cases h
     ·replace h:=Qk h h20
      cases h
    ·replace h:=Qk h h19
     cases h
   ·replace h:=Qk h h4
    obtain ⟨t5,h5,h⟩:=Qe h
    replace h:=Option.some.inj h
    subst h
    exact run (n:=100) (f:=3) (args:=[.agg [I a0,I a1,.lst false 1 a2],.agg [.v (.int .u8 a3),.v (.int .u8 a4),.v (.int .u8 a5),.v (.int .u8 a6)],.agg [.v (.int .u8 a7),.v (.int .u8 a8)]]) (orc:=[.br false,.br false,.ret (I t3),.br true,.ret (B t5)]) (r:=B t5) (ob:=[Computes cx 5 [] (B t5),(t3 != 0)=true,Computes cx 4 [.agg [I a0,I a1,.lst false 1 a2]] (I t3),(decide (a1 > 4))=false,(decide (a0 > 4))=false]) (Jl a0 a1 a2 a3 a4 a5 a6 a7 a8 t3 t5) ⟨(W7 h5),(net h4),(QL h3),(decide_eq_false h2),(decide_eq_false h1),trivial⟩
end Go.Proofs.YtfiigcbhiopagaaGreat
namespace Go.Flo
open Ieee
def V (s:Bool) (m:Nat) (i:Int):Int:=signed s m (i+2000).toNat
def vn (m:Nat) (i:Int):Nat:=m * 2 ^ (i+2000).toNat
theorem V_eq (s:Bool) (m:Nat) (i:Int):V s m i=if s then -(vn m i:Int) else (vn m i:Int):=by
 unfold V signed vn
 rw [Nat.shiftLeft_eq]
theorem Ez {m:Nat} {i j:Int} (h : -2000≤j) (hij:j≤i):vn m i=m * 2 ^ (i - j).toNat * 2 ^ (j+2000).toNat:=by
 unfold vn
 rw [show (i+2000).toNat=(i - j).toNat+(j+2000).toNat by omega,Nat.pow_add,Nat.mul_assoc]
theorem wK (s:Bool) (m k c:Nat):signed s m (k+c)=signed s m k * ((2 ^ c:Nat):Int):=by
 unfold signed
 rw [Nat.shiftLeft_eq,Nat.shiftLeft_eq,Nat.pow_add,← Nat.mul_assoc]
 cases s
 ·simp
 ·simp [Int.neg_mul]
theorem Qa0 {a b c:Int} (h:0 < c):compare (a * c) (b * c)=compare a b:=by
 rcases Int.lt_trichotomy a b with h1 | h1 | h1
 ·have h2:=Int.mul_lt_mul_of_pos_right h1 h
  rw [Int.compare_eq_lt.2 h1,Int.compare_eq_lt.2 h2]
 ·subst h1;rw [Int.compare_eq_eq.2 rfl,Int.compare_eq_eq.2 rfl]
 ·have h2:=Int.mul_lt_mul_of_pos_right h1 h
  rw [Int.compare_eq_gt.2 h1,Int.compare_eq_gt.2 h2]
theorem order_val {s t:Bool} {m n:Nat} {i j:Int} (hi : -2000≤i) (hj : -2000≤j):(Datum.number s m i).order (Datum.number t n j)=some (compare (V s m i) (V t n j)):=by
 show some (compare (signed s m (i - min i j).toNat) (signed t n (j - min i j).toNat))=_
 have e1:(i+2000).toNat=(i - min i j).toNat+(min i j+2000).toNat:=by omega
 have e2:(j+2000).toNat=(j - min i j).toNat+(min i j+2000).toNat:=by omega
 unfold V
 rw [e1,e2,wK,wK,Qa0]
 have:=Nat.two_pow_pos (min i j+2000).toNat
 omega
theorem QaX (w:Toward) (s:Bool) (n:Nat):w.cut s n 0=n:=by
 unfold Toward.cut
 have h:1 <<< min 0 (n.log2+2)=1:=by rw [Nat.zero_min];rfl
 simp only [h,Nat.div_one,Nat.mod_one]
 cases w <;> simp
theorem QeV (s:Bool) {n d:Nat} (hd:d≤n.log2+2) (h:2 ^ d ∣ n) (w:Toward):w.cut s n d=n / 2 ^ d:=by
 unfold Toward.cut
 have hg:1 <<< min d (n.log2+2)=2 ^ d:=by rw [Nat.min_eq_left hd,Nat.one_shiftLeft]
 have h0:n % 2 ^ d=0:=Nat.mod_eq_zero_of_dvd h
 have hp:=Nat.two_pow_pos d
 simp only [hg,h0]
 cases w <;> simp
structure Fmt (f:Format) (lp:Int) (fb E:Nat):Prop where
 fbE:f.fractionBits=fb
 lpE:f.leastPlace=lp
 lo : -1500≤lp
 h0:lp≤0
 inf:f.infRung≤f.signWeight
 big:∀ d k:Nat,d≤((E:Int) - lp).toNat→k < 2 ^ (fb+1)→d * 2 ^ fb+k < f.infRung
theorem f32:Fmt single (-149) 23 16 where
 fbE:=rfl
 lpE:=by decide
 lo:=by decide
 h0:=by decide
 inf:=by decide
 big d k hd hk:=by
  have:single.infRung=255 * 2 ^ 23:=by decide
  rw [this]
  omega
theorem f64 {E:Nat} (hE:E≤200):Fmt double (-1074) 52 E where
 fbE:=rfl
 lpE:=by decide
 lo:=by decide
 h0:=by decide
 inf:=by decide
 big d k hd hk:=by
  have:double.infRung=2047 * 2 ^ 52:=by decide
  rw [this]
  omega
theorem kX {f:Format} {lp:Int} {fb E:Nat} (h:Fmt f lp fb E) (s:Bool) {d k:Nat} (hd:d≤((E:Int) - lp).toNat) (hk:k < 2 ^ (fb+1)) (hn:d=0 ∨ 2 ^ fb≤k) :
  f.read (f.word s (min (d * f.binade+k) f.infRung))=.number s k (lp+d):=by
 have hb:f.binade=2 ^ fb:=by unfold Format.binade;rw [h.fbE]
 have hlt:=h.big d k hd hk
 have hinf:=h.inf
 rw [hb,Nat.min_eq_left (by omega)]
 obtain ⟨r,hr⟩:∃ r,r=d * 2 ^ fb+k:=⟨_,rfl⟩
 rw [← hr] at hlt ⊢
 have hw:f.word s r / f.signWeight % 2=(if s then 1 else 0)∧f.word s r % f.signWeight=r:=by
  unfold Format.word
  cases s
  ·simp only [Bool.false_eq_true,if_false]
   rw [Nat.div_eq_of_lt (show r < f.signWeight by omega),Nat.mod_eq_of_lt (show r < f.signWeight by omega)]
   exact ⟨rfl,rfl⟩
  ·simp only [if_true]
   have hp:0 < f.signWeight:=by omega
   rw [Nat.add_div_left _ hp,Nat.div_eq_of_lt (show r < f.signWeight by omega),Nat.add_mod_left,Nat.mod_eq_of_lt (show r < f.signWeight by omega)]
   exact ⟨rfl,rfl⟩
 unfold Format.read
 rw [hw.1,hw.2,hb,h.lpE]
 have hs:((if s=true then 1 else 0) == 1)=s:=by cases s <;> rfl
 simp only [hs]
 have hp:=Nat.two_pow_pos fb
 have hpow:2 ^ (fb+1)=2 * 2 ^ fb:=by rw [Nat.pow_succ];omega
 by_cases hk2:k < 2 ^ fb
 ·have hd0:d=0:=by omega
  subst hd0
  have:r=k:=by omega
  subst this
  rw [if_pos hk2];simp
 ·have e:r=(d+1) * 2 ^ fb+(k - 2 ^ fb):=by rw [Nat.add_mul];omega
  have hq:k - 2 ^ fb < 2 ^ fb:=by omega
  have h1:r / 2 ^ fb=d+1:=by
   rw [e,Nat.add_comm,Nat.add_mul_div_right _ _ hp,Nat.div_eq_of_lt hq];omega
  have h2:r % 2 ^ fb=k - 2 ^ fb:=by
   rw [e,Nat.add_comm,Nat.add_mul_mod_self_right,Nat.mod_eq_of_lt hq]
  have hge:¬ r < 2 ^ fb:=by rw [e,Nat.add_mul];omega
  rw [if_neg hge,if_pos hlt,h1,h2]
  congr 1
  omega
theorem write_read {f:Format} {lp:Int} {fb E:Nat} (h:Fmt f lp fb E) (s:Bool) {m q:Nat} {i p:Int} (hq:q < 2 ^ (fb+1)) (hp:lp≤p) (hi : -1900≤i) (hv:vn m i=vn q p) (hb:vn m i < 2 ^ (2000+E)) :
  ∃ n j,f.read (f.write (.number s m i))=.number s n j∧lp≤j∧n < 2 ^ (fb+1)∧vn n j=vn m i:=by
 have hlo:=h.lo
 show ∃ n j,f.read (f.nearest s m i)=_∧_
 unfold Format.nearest
 by_cases hm:m=0
 ·subst hm
  rw [if_pos rfl]
  have:=kX h s (d:=0) (k:=0) (by omega) (Nat.two_pow_pos _) (.inl rfl)
  have e:min (0 * f.binade+0) f.infRung=0:=by simp
  rw [e] at this
  exact ⟨0,_,this,by omega,Nat.two_pow_pos _,by unfold vn;simp⟩
 rw [if_neg hm]
 -- m=q 2^k,or m is small
 have hq0:q≠0:=by
  intro e
  subst e
  unfold vn at hv
  have:=Nat.two_pow_pos (i+2000).toNat
  rw [Nat.zero_mul] at hv
  rcases Nat.mul_eq_zero.1 hv with h1 | h1
  ·exact hm h1
  ·omega
 have hk:∃ r k:Nat,m=r * 2 ^ k∧r < 2 ^ (fb+1)∧r≠0∧lp≤k+i:=by
  rcases Int.le_total i p with hip | hip
  ·refine ⟨q,(p - i).toNat,?_,hq,hq0,by omega⟩
   rw [Ez (by omega) hip] at hv
   unfold vn at hv
   exact Nat.eq_of_mul_eq_mul_right (Nat.two_pow_pos _) hv
  ·refine ⟨m,0,by simp,?_,hm,by omega⟩
   rw [Ez (m:=m) (j:=p) (by omega) hip] at hv
   unfold vn at hv
   have:=Nat.eq_of_mul_eq_mul_right (Nat.two_pow_pos _) hv
   have h1:=Nat.two_pow_pos (i - p).toNat
   have h2:m * 1≤m * 2 ^ (i - p).toNat:=Nat.mul_le_mul_left _ h1
   omega
 obtain ⟨r,k,rfl,hr,hr0,hki⟩:=hk
 have hl:(r * 2 ^ k).log2=r.log2+k:=by
  have h1:=Nat.log2_self_le hr0
  have h2:=Nat.lt_log2_self (n:=r)
  refine (Nat.log2_eq_iff hm).2 ⟨?_,?_⟩
  ·rw [Nat.pow_add];exact Nat.mul_le_mul_right _ h1
  ·rw [show r.log2+k+1=(r.log2+1)+k by omega,Nat.pow_add];exact Nat.mul_lt_mul_of_pos_right h2 (Nat.two_pow_pos _)
 have hrl:r.log2≤fb:=by
  have:=(Nat.log2_lt hr0).2 hr
  omega
 have hbnd:i+(r * 2 ^ k).log2 < E:=by
  have h1:=Nat.log2_self_le hm
  have h3:2 ^ ((r * 2 ^ k).log2+(i+2000).toNat)≤vn (r * 2 ^ k) i:=by
   unfold vn
   rw [Nat.pow_add];exact Nat.mul_le_mul_right _ h1
  have h4:=Nat.lt_of_le_of_lt h3 hb
  have:=(Nat.pow_lt_pow_iff_right (by omega:1 < 2)).1 h4
  omega
 rw [h.fbE,h.lpE,hl]
 rw [hl] at hbnd
 obtain ⟨L,hL⟩:∃ L:Int,L=max (i+((r.log2+k:Nat):Int) - (fb:Int)) lp:=⟨_,rfl⟩
 simp only [← hL]
 have hkept:∃ K:Nat,Toward.even.cut s ((r * 2 ^ k) <<< (i - L).toNat) (L - i).toNat=K∧vn K L=vn (r * 2 ^ k) i∧K≠0∧i+((r.log2+k:Nat):Int)=L+(K.log2:Int):=by
  rcases Int.le_total L i with hLi | hLi
  ·refine ⟨(r * 2 ^ k) <<< (i - L).toNat,?_,?_,?_,?_⟩
   ·rw [show (L - i).toNat=0 by omega,QaX]
   ·rw [Ez (i:=i) (j:=L) (by omega) hLi,Nat.shiftLeft_eq];rfl
   ·rw [Nat.shiftLeft_eq]
    have:=Nat.two_pow_pos (i - L).toNat
    intro e
    rcases Nat.mul_eq_zero.1 e with h1 | h1
    ·exact hm h1
    ·omega
   ·rw [Nat.shiftLeft_eq,Nat.mul_assoc,← Nat.pow_add]
    have:(r * 2 ^ (k+(i - L).toNat)).log2=r.log2+(k+(i - L).toNat):=by
     have h1:=Nat.log2_self_le hr0
     have h2:=Nat.lt_log2_self (n:=r)
     have h0:r * 2 ^ (k+(i - L).toNat)≠0:=by
      have:=Nat.two_pow_pos (k+(i - L).toNat)
      intro e
      rcases Nat.mul_eq_zero.1 e with h1 | h1
      ·exact hr0 h1
      ·omega
     refine (Nat.log2_eq_iff h0).2 ⟨?_,?_⟩
     ·rw [Nat.pow_add];exact Nat.mul_le_mul_right _ h1
     ·rw [show r.log2+(k+(i - L).toNat)+1=(r.log2+1)+(k+(i - L).toNat) by omega,Nat.pow_add 2 (r.log2+1)];exact Nat.mul_lt_mul_of_pos_right h2 (Nat.two_pow_pos _)
    rw [this];omega
  ·-- dropped digits are noughts
   have hdk:(L - i).toNat≤k:=by omega
   have hdv:r * 2 ^ k=r * 2 ^ (k - (L - i).toNat) * 2 ^ (L - i).toNat:=by
    rw [Nat.mul_assoc,← Nat.pow_add];congr 2;omega
   refine ⟨r * 2 ^ (k - (L - i).toNat),?_,?_,?_,?_⟩
   ·rw [show (i - L).toNat=0 by omega,Nat.shiftLeft_zero,QeV s (by rw [hl];omega) ⟨r * 2 ^ (k - (L - i).toNat),by rw [hdv];rw [Nat.mul_comm]⟩,hdv,Nat.mul_div_cancel _ (Nat.two_pow_pos _)]
   ·rw [Ez (i:=L) (j:=i) (by omega) hLi,← hdv];rfl
   ·have:=Nat.two_pow_pos (k - (L - i).toNat)
    intro e
    rcases Nat.mul_eq_zero.1 e with h1 | h1
    ·exact hr0 h1
    ·omega
   ·have:(r * 2 ^ (k - (L - i).toNat)).log2=r.log2+(k - (L - i).toNat):=by
     have h1:=Nat.log2_self_le hr0
     have h2:=Nat.lt_log2_self (n:=r)
     have h0:r * 2 ^ (k - (L - i).toNat)≠0:=by
      have:=Nat.two_pow_pos (k - (L - i).toNat)
      intro e
      rcases Nat.mul_eq_zero.1 e with h1 | h1
      ·exact hr0 h1
      ·omega
     refine (Nat.log2_eq_iff h0).2 ⟨?_,?_⟩
     ·rw [Nat.pow_add];exact Nat.mul_le_mul_right _ h1
     ·rw [show r.log2+(k - (L - i).toNat)+1=(r.log2+1)+(k - (L - i).toNat) by omega,Nat.pow_add 2 (r.log2+1)];exact Nat.mul_lt_mul_of_pos_right h2 (Nat.two_pow_pos _)
    rw [this];omega
 obtain ⟨K,hK,hv2,hK0,hlog⟩:=hkept
 rw [hK]
 have hKl:K < 2 ^ (fb+1):=(Nat.log2_lt hK0).1 (by omega)
 have hrw:=kX h s (d:=(L - lp).toNat) (k:=K) (by omega) hKl (by
  by_cases hLl:L=lp
  ·left;omega
  ·right
   exact Nat.le_trans (Nat.pow_le_pow_right (by omega) (by omega:fb≤K.log2)) (Nat.log2_self_le hK0))
 refine ⟨K,L,?_,by omega,hKl,hv2⟩
 rw [hrw]
 congr 1
 omega
open Go.SX
theorem read_num {b:Nat} {s:Bool} {m:Nat} {e:Int} (h:single.read b=.number s m e):m < 2 ^ 24∧-149≤e∧e≤104:=by
 unfold Format.read at h
 have e1:single.signWeight=2 ^ 31:=by decide
 have e2:single.binade=2 ^ 23:=by decide
 have e3:single.infRung=255 * 2 ^ 23:=by decide
 have e4:single.leastPlace=-149:=by decide
 simp only [e1,e2,e3,e4] at h
 obtain ⟨r,hr⟩:∃ r,r=b % 2 ^ 31:=⟨_,rfl⟩
 rw [← hr] at h
 split at h
 ·cases h;omega
 ·split at h
  ·cases h;omega
  ·split at h <;> cases h
theorem Qcr {s:Bool} {m n:Nat} {i j:Int}:compare (V s m i) (V s n j)=.eq↔vn m i=vn n j:=by
 rw [Int.compare_eq_eq,V_eq,V_eq]
 cases s
 ·simp only [Bool.false_eq_true,if_false];omega
 ·simp only [if_true];omega
theorem Qfh {m:Nat} {e:Int} (he : -149≤e):vn (8388608 * m) (-19+e)=16 * vn m e∧vn m (e+4)=16 * vn m e:=by
 unfold vn
 obtain ⟨A,hA⟩:∃ A:Nat,A=(e+1981).toNat:=⟨_,rfl⟩
 rw [show (-19+e+2000).toNat=A by omega,show (e+2000).toNat=A+19 by omega,show (e+4+2000).toNat=A+23 by omega,Nat.pow_add,Nat.pow_add]
 generalize 2 ^ A=X
 have h1:(2:Nat) ^ 19=524288:=by decide
 have h2:(2:Nat) ^ 23=8388608:=by decide
 rw [h1,h2]
 constructor
 ·rw [Nat.mul_assoc 8388608,← Nat.mul_assoc m X];omega
 ·rw [← Nat.mul_assoc m X,← Nat.mul_assoc m X];omega
theorem mul16 {b:Nat} {s:Bool} {m:Nat} {e:Int} (h:single.read b=.number s m e) (hb:vn m e≤2 ^ 2010) :
  ∃ y n p,fop .mul .f32 1098907648 b=some y∧single.read y=.number s n p∧-149≤p∧n < 2 ^ 24∧vn n p=16 * vn m e:=by
 obtain ⟨h1,h2,h3⟩:=read_num h
 obtain ⟨v1,v2⟩:=Qfh (m:=m) h2
 obtain ⟨n,p,r1,r2,r3,r4⟩:=write_read f32 s (m:=8388608 * m) (i:=-19+e) (q:=m) (p:=e+4) h1 (by omega) (by omega) (by rw [v1,v2]) (by rw [v1];omega)
 refine ⟨single.write (.number s (8388608 * m) (-19+e)),n,p,?_,r1,r2,r3,by rw [r4,v1]⟩
 show single.mul 1098907648 b=_
 unfold Format.mul
 rw [show single.read 1098907648=.number false 8388608 (-19) by decide,h]
 show some (single.write (.number (false ^^ s) (8388608 * m) (-19+e)))=_
 rw [Bool.false_xor]
theorem QeU (n d:Nat):n / (1 <<< min d (n.log2+2))=n / 2 ^ d∧n % (1 <<< min d (n.log2+2))=n % 2 ^ d:=by
 rw [Nat.one_shiftLeft]
 rcases Nat.le_total d (n.log2+2) with h | h
 ·rw [Nat.min_eq_left h];exact ⟨rfl,rfl⟩
 ·rw [Nat.min_eq_right h]
  have h1:=Nat.lt_log2_self (n:=n)
  have h2:2 ^ (n.log2+1)≤2 ^ (n.log2+2):=Nat.pow_le_pow_right (by omega) (by omega)
  have h3:2 ^ (n.log2+2)≤2 ^ d:=Nat.pow_le_pow_right (by omega) h
  rw [Nat.div_eq_of_lt (by omega),Nat.div_eq_of_lt (by omega),Nat.mod_eq_of_lt (by omega),Nat.mod_eq_of_lt (by omega)]
  exact ⟨rfl,rfl⟩
theorem Qfz {w:Toward} (hw:w=.down ∨ w=.zero) (s:Bool) (n d:Nat):∃ r,w.cut s n d=n / 2 ^ d+r∧r≤1∧(n % 2 ^ d=0→r=0):=by
 obtain ⟨g1,g2⟩:=QeU n d
 unfold Toward.cut
 simp only [g1,g2]
 rcases hw with rfl | rfl
 ·refine ⟨_,rfl,Bool.toNat_le _,fun h=>?_⟩
  rw [h];simp
 ·exact ⟨0,rfl,by omega,fun _=>rfl⟩
theorem cut_whole {w:Toward} (hw:w=.down ∨ w=.zero) (s:Bool) (n:Nat) (p:Int) (hp : -1900≤p) :
  (vn (w.cut s (n <<< p.toNat) (-p).toNat) 0=vn n p↔2 ^ 2000 ∣ vn n p)∧w.cut s (n <<< p.toNat) (-p).toNat * 2 ^ 2000≤vn n p+2 ^ 2000:=by
 have e0:((0:Int)+2000).toNat=2000:=rfl
 by_cases h:0≤p
 ·rw [show (-p).toNat=0 by omega,QaX,Nat.shiftLeft_eq]
  unfold vn
  rw [e0,show (p+2000).toNat=p.toNat+2000 by omega,Nat.pow_add,← Nat.mul_assoc]
  exact ⟨⟨fun _=>Nat.dvd_mul_left _ _,fun _=>rfl⟩,by omega⟩
 ·obtain ⟨d,hd⟩:∃ d:Nat,d=(-p).toNat:=⟨_,rfl⟩
  obtain ⟨k,hk⟩:∃ k:Nat,k=(p+2000).toNat:=⟨_,rfl⟩
  rw [← hd,show p.toNat=0 by omega,Nat.shiftLeft_zero]
  unfold vn
  rw [e0,← hk,show (2:Nat) ^ 2000=2 ^ d * 2 ^ k by rw [← Nat.pow_add];congr 1;omega]
  obtain ⟨r,h1,h2,h3⟩:=Qfz hw s n d
  rw [h1]
  have hX:=Nat.two_pow_pos k
  have hY:=Nat.two_pow_pos d
  generalize 2 ^ k=X at *
  generalize 2 ^ d=Y at *
  have hdiv:=Nat.div_add_mod n Y
  have hlt:=Nat.mod_lt n hY
  refine ⟨⟨fun e=>?_,fun e=>?_⟩,?_⟩
  ·rw [← Nat.mul_assoc] at e
   have:=Nat.eq_of_mul_eq_mul_right hX e
   rw [← this]
   exact Nat.mul_dvd_mul_right (Nat.dvd_mul_left _ _) X
  ·have h4:Y ∣ n:=Nat.dvd_of_mul_dvd_mul_right hX e
   have h5:=Nat.mod_eq_zero_of_dvd h4
   rw [h3 h5,Nat.add_zero,← Nat.mul_assoc,Nat.div_mul_cancel h4]
  ·rw [← Nat.mul_assoc,← Nat.add_mul]
   refine Nat.mul_le_mul_right X ?_
   rw [Nat.add_mul]
   have h6:r * Y≤1 * Y:=Nat.mul_le_mul_right _ h2
   have h7:n / Y * Y≤n:=Nat.div_mul_le_self n Y
   omega
def Ea (x:Nat):Option Nat:=match FloatKind.f64.decode x with
 | .nan _ _=>none
 | d=>some (FloatKind.f64.encode (d.integral .down))
theorem f2f_num {j k:FloatKind} (hjk:j≠k) {lp:Int} {fb E:Nat} (hf:Fmt k.format lp fb E) {b:Nat} {s:Bool} {m q:Nat} {i p:Int} (h:j.decode b=.number s m i) (hq:q < 2 ^ (fb+1)) (hp:lp≤p) (hi : -1900≤i) (hv:vn m i=vn q p) (hb:vn m i < 2 ^ (2000+E)) :
  ∃ r n x,f2f j b k=some r∧k.decode r=.number s n x∧lp≤x∧n < 2 ^ (fb+1)∧vn n x=vn m i:=by
 obtain ⟨n,x,r1,r2,r3,r4⟩:=write_read hf s hq hp hi hv hb
 refine ⟨k.encode (.number s m i),n,x,?_,r1,r2,r3,r4⟩
 unfold f2f
 rw [if_neg hjk,h]
 show (if (k.decode (k.encode (.number s m i))).isInfinity=true then none else some (k.encode (.number s m i)))=_
 have e:k.decode (k.encode (.number s m i))=.number s n x:=r1
 rw [e];rfl
theorem prog_eq {y:Nat} {s:Bool} {n:Nat} {p:Int} (hy:single.read y=.number s n p) (hn:n < 2 ^ 24) (hp : -149≤p) (hb:vn n p≤2 ^ 2014) :
  ∃ r t z,f2f .f32 y .f64=some r∧Ea r=some t∧f2f .f64 t .f32=some z∧(single.order z y != some .eq)=!(decide (2 ^ 2000 ∣ vn n p)):=by
 obtain ⟨r,n2,p2,a1,a2,a3,a4,a5⟩:=f2f_num (j:=.f32) (k:=.f64) (by decide) (f64 (E:=16) (by decide)) (b:=y) hy (q:=n) (p:=p) (by omega) (by omega) (by omega) rfl (by omega)
 obtain ⟨c1,c2⟩:=cut_whole (w:=.down) (.inl rfl) s n2 p2 (by omega)
 obtain ⟨F,hF⟩:∃ F,F=Toward.down.cut s (n2 <<< p2.toNat) (-p2).toNat:=⟨_,rfl⟩
 rw [← hF] at c1 c2
 rw [a5] at c1 c2
 have hvF:vn F 0=F * 2 ^ 2000:=by
  unfold vn
  rw [show ((0:Int)+2000).toNat=2000 from rfl]
 have hF16:F < 2 ^ 16:=by
  have:F * 2 ^ 2000 < 2 ^ 16 * 2 ^ 2000:=by omega
  generalize 2 ^ 2000=X at this
  exact Nat.lt_of_mul_lt_mul_right this
 obtain ⟨F2,q2,b1,b2,b3,b4⟩:=write_read (f64 (E:=16) (by decide)) s (m:=F) (i:=0) (q:=F) (p:=0) (by omega) (by omega) (by omega) rfl (by rw [hvF];omega)
 obtain ⟨z,F3,q3,d1,d2,d3,d4,d5⟩:=f2f_num (j:=.f64) (k:=.f32) (by decide) f32 (b:=double.write (.number s F 0)) b1 (q:=F) (p:=0) (by omega) (by omega) (by omega) (by rw [b4]) (by rw [b4,hvF];omega)
 refine ⟨r,double.write (.number s F 0),z,a1,?_,d1,?_⟩
 ·unfold Ea
  rw [a2,hF];rfl
 ·unfold Format.order
  rw [show single.read z=.number s F3 q3 from d2,hy,order_val (by omega) (by omega)]
  by_cases hw:2 ^ 2000 ∣ vn n p
  ·rw [Qcr.2 (by rw [d5,b4];exact c1.2 hw),decide_eq_true hw];rfl
  ·rw [decide_eq_false hw]
   have:compare (V s F3 q3) (V s n p)≠.eq:=fun e=>hw (c1.1 (by rw [← Qcr.1 e,d5,b4]))
   simpa using this
theorem ref_eq {y:Nat} {s:Bool} {n:Nat} {p:Int} (hy:single.read y=.number s n p) (hp : -149≤p) (hb:vn n p≤2 ^ 2014) :
  ∃ z,f2i .f32 y .i64=some z∧(single.order (FloatKind.nearest .f32 z) y != some .eq)=!(decide (2 ^ 2000 ∣ vn n p)):=by
 obtain ⟨c1,c2⟩:=cut_whole (w:=.zero) (.inr rfl) s n p (by omega)
 obtain ⟨Z,hZ⟩:∃ Z,Z=Toward.zero.cut s (n <<< p.toNat) (-p).toNat:=⟨_,rfl⟩
 rw [← hZ] at c1 c2
 have hvZ:vn Z 0=Z * 2 ^ 2000:=by
  unfold vn
  rw [show ((0:Int)+2000).toNat=2000 from rfl]
 have hZ16:Z < 2 ^ 16:=by
  have:Z * 2 ^ 2000 < 2 ^ 16 * 2 ^ 2000:=by omega
  generalize 2 ^ 2000=X at this
  exact Nat.lt_of_mul_lt_mul_right this
 obtain ⟨z,hz⟩:∃ z:Int,z=if s then -(Z:Int) else (Z:Int):=⟨_,rfl⟩
 have hzn:z.natAbs=Z:=by rw [hz];cases s <;> simp
 have hto:(FloatKind.f32.decode y).toInt .zero=some z:=by
  show ((single.read y).toInt .zero)=_
  rw [hy]
  unfold Datum.toInt Datum.integral
  simp only [← hZ]
  unfold signed
  rw [Nat.shiftLeft_zero,hz]
 obtain ⟨Z3,q3,d1,d2,d3,d4⟩:=write_read f32 (decide (z < 0)) (m:=Z) (i:=0) (q:=Z) (p:=0) (by omega) (by omega) (by omega) rfl (by rw [hvZ];omega)
 refine ⟨z,?_,?_⟩
 ·unfold f2i
  rw [hto]
  show (if IntKind.i64.min≤z∧z≤IntKind.i64.max then some z else none)=_
  have e1:IntKind.i64.min=-9223372036854775808:=by decide
  have e2:IntKind.i64.max=9223372036854775807:=by decide
  rw [e1,e2,if_pos (by omega)]
 ·have hn:single.read (FloatKind.nearest .f32 z)=.number (decide (z < 0)) Z3 q3:=by
   unfold FloatKind.nearest
   rw [hzn];exact d1
  unfold Format.order
  rw [hn,hy,order_val (by omega) (by omega)]
  have hV:V (decide (z < 0)) Z3 q3=V s Z 0:=by
   rw [V_eq,V_eq,d4,hvZ]
   by_cases h0:Z=0
   ·subst h0;generalize 2 ^ 2000=X;simp
   ·have:decide (z < 0)=s:=by
     rw [hz]
     cases s
     ·simp
     ·simp;omega
    rw [this]
  rw [hV]
  by_cases hw:2 ^ 2000 ∣ vn n p
  ·rw [Qcr.2 (c1.2 hw),decide_eq_true hw];rfl
  ·rw [decide_eq_false hw]
   have:compare (V s Z 0) (V s n p)≠.eq:=fun e=>hw (c1.1 (Qcr.1 e))
   simpa using this
end Go.Flo
set_option maxRecDepth 20000
namespace Go.Proofs.YtfiigcbhiopagaaGreat
open Go Go.SX Ieee
def ZI:List Int→Int
 | []=>0
 | x::l=>if x=0 then ZI l else x
theorem Qbb (x:Int):un_i (I x)=some x:=rfl
def fG (s:Nat) (x:Int):Nat⊕(Int⊕Unit):=if x=0 then .inl (s+1) else .inr (.inl x)
theorem Qec:∀ (ms:List Int) (s:Nat),K4 fG (fun _=>(.inr ():Int⊕Unit)) ms s=(if ZI ms=0 then .inr () else .inl (ZI ms))
 | [],s=>rfl
 | x::l,s=>by
  unfold K4 fG ZI
  by_cases h:x=0
  ·rw [if_pos h,if_pos h];exact Qec l (s+1)
  ·rw [if_neg h,if_neg h,if_neg h]
theorem Y0 {α β:Type} {f:α→β} {l:List α} {i:Nat} {x:α} (h:l[i]?=some x):(i:Int) < ((l.map f).length:Int):=by
 have:=(List.getElem?_eq_some_iff.1 h).1
 rw [List.length_map];omega
theorem qR {L:List D→Int→Option (Int⊕(Int⊕Unit))} {ms:List Int} (hL:∀ (a:List D) (s:Int),L a s=if s < (a.length:Int) then (el un_i a s).bind fun t=>if t=0 then (if Qb (s+1) then some (.inl (s+1)) else none) else some (.inr (.inl t)) else some (.inr (.inr ())))
  {n:Nat} (hn:300≤n) (hm:ms.length≤101) :
  ((QF (L (ms.map I)) n 0).bind fun t1=>match t1 with | (.inl t1)=>some t1 | (.inr t1)=>some 0)=some (ZI ms):=by
 have h:=Vh (step:=L (ms.map I)) fG (fun _=>(.inr ():Int⊕Unit)) (fun i _=>(i:Int)) ms (fun i s=>True)
  (fun i s x hx _=>by
   have e:=hL (ms.map I) (i:Int)
   rw [if_pos (Y0 hx),WW Qbb hx,Option.bind_some] at e
   have hi:=(List.getElem?_eq_some_iff.1 hx).1
   unfold fG
   by_cases h0:x=0
   ·rw [if_pos h0] at e ⊢
    rw [if_pos (by unfold Qb;omega)] at e
    exact ⟨e,trivial⟩
   ·rw [if_neg h0] at e ⊢
    exact e)
  (fun s _=>by rw [hL,if_neg (by simp)]) (k:=n) (s:=0) trivial (by omega)
 have h' : QF (L (ms.map I)) n 0=some (K4 fG (fun _=>(.inr ():Int⊕Unit)) ms 0):=h
 rw [h',Qec,Option.bind_some]
 by_cases h0:ZI ms=0
 ·rw [if_pos h0,h0]
 ·rw [if_neg h0]
theorem Xd {n:Nat} (hn:300≤n) (ms:List Int) (hm:ms.length≤101):Wi n (ms.map I)=some (ZI ms):=by
 unfold Wi
 exact qR (L:=fun a s=>WP n a s) (fun a s=>by unfold WP;rfl) hn hm
theorem qE {n:Nat} (hn:300≤n) (ms:List Int) (hm:ms.length≤101):VM n (ms.map I)=some (ZI ms):=by
 unfold VM
 exact qR (L:=fun a s=>WN n a s) (fun a s=>by unfold WN;rfl) hn hm
def inR (x lo hi:Int):Int:=if x < lo then 3 else if x > hi then 3 else 0
theorem qz (n:Nat) (x lo hi:Int):Z1 n x lo hi=some (inR x lo hi):=by
 unfold Z1 Vz Z2 inR
 by_cases h:x < lo
 ·simp [h]
 ·by_cases h2:x > hi
  ·simp [h,h2]
  ·simp [h,h2]
theorem KA (n:Nat) (x lo hi:Int):Ws n x lo hi=some (inR x lo hi):=by
 unfold Ws Ui Wr inR
 by_cases h:x < lo
 ·simp [h]
 ·by_cases h2:x > hi
  ·simp [h,h2]
  ·simp [h,h2]
def chk (b:Nat):Int:=match single.read b with
 | .number _ m e=>if 2 ^ 2010 < Flo.vn m e then 3 else if 2 ^ 2000 ∣ 16 * Flo.vn m e then 0 else 3
 | _=>1
theorem cgt (a b:Int):(some (compare a b) == some Ordering.gt)=decide (b < a):=by
 rcases Int.lt_trichotomy a b with h | h | h
 ·rw [Int.compare_eq_lt.2 h,decide_eq_false (by omega)];rfl
 ·rw [Int.compare_eq_eq.2 h,decide_eq_false (by omega)];rfl
 ·rw [Int.compare_eq_gt.2 h,decide_eq_true h];rfl
theorem clt (a b:Int):(some (compare a b) == some Ordering.lt)=decide (a < b):=by
 rcases Int.lt_trichotomy a b with h | h | h
 ·rw [Int.compare_eq_lt.2 h,decide_eq_true h];rfl
 ·rw [Int.compare_eq_eq.2 h,decide_eq_false (by omega)];rfl
 ·rw [Int.compare_eq_gt.2 h,decide_eq_false (by omega)];rfl
theorem QfJ:single.read 1149239296=.number false 8388608 (-13):=by decide
theorem Qfl:single.read 3296722944=.number true 8388608 (-13):=by decide
theorem rmax:single.read 2139095039=.number false 16777215 104:=by decide
theorem Qe8:single.read 4286578687=.number true 16777215 104:=by decide
theorem Qe4:Flo.vn 8388608 (-13)=2 ^ 2010:=by
 have h:∀ k j:Nat,j=k+23→8388608 * 2 ^ k=2 ^ j:=fun k j e=>by rw [e,Nat.pow_add];omega
 unfold Flo.vn
 rw [show ((-13:Int)+2000).toNat=1987 by decide]
 have q:=h 1987 2010 rfl
 exact q
theorem Qeo {b:Nat} {s:Bool} {m:Nat} {e:Int} (h:single.read b=.number s m e):(single.order b 1149239296 == some .gt)=(!s && decide (2 ^ 2010 < Flo.vn m e)):=by
 obtain ⟨_,h2,_⟩:=Flo.read_num h
 unfold Format.order
 rw [h,QfJ,Flo.order_val (by omega) (by omega),cgt,Flo.V_eq,Flo.V_eq,Qe4]
 generalize Flo.vn m e=v
 cases s
 ·simp only [Bool.false_eq_true,if_false,Bool.not_false,Bool.true_and,decide_eq_decide];omega
 ·simp only [if_true,Bool.false_eq_true,if_false,Bool.not_true,Bool.false_and,decide_eq_false_iff_not];omega
theorem Qen {b:Nat} {s:Bool} {m:Nat} {e:Int} (h:single.read b=.number s m e):(single.order b 3296722944 == some .lt)=(s && decide (2 ^ 2010 < Flo.vn m e)):=by
 obtain ⟨_,h2,_⟩:=Flo.read_num h
 unfold Format.order
 rw [h,Qfl,Flo.order_val (by omega) (by omega),clt,Flo.V_eq,Flo.V_eq,Qe4]
 generalize Flo.vn m e=v
 cases s
 ·simp only [Bool.false_eq_true,if_false,if_true,Bool.false_and,decide_eq_false_iff_not];omega
 ·simp only [if_true,Bool.true_and,decide_eq_decide];omega
theorem QeI {b:Nat} {s:Bool} {m:Nat} {e:Int} (h:single.read b=.number s m e):(single.order b 2139095039 == some .gt)=false∧(single.order b 4286578687 == some .lt)=false∧(single.order b b != some .eq)=false:=by
 obtain ⟨h1,h2,h3⟩:=Flo.read_num h
 have hv:Flo.vn m e≤Flo.vn 16777215 104:=by
  unfold Flo.vn
  exact Nat.mul_le_mul (by omega) (Nat.pow_le_pow_right (by decide) (by omega))
 unfold Format.order
 rw [h,rmax,Qe8,Flo.order_val (by omega) (by omega),Flo.order_val (by omega) (by omega),Flo.order_val (by omega) (by omega),cgt,clt,Int.compare_eq_eq.2 rfl,Flo.V_eq,Flo.V_eq,Flo.V_eq]
 generalize Flo.vn m e=v at *
 generalize Flo.vn 16777215 104=u at *
 refine ⟨?_,?_,rfl⟩
 ·cases s <;> simp only [Bool.false_eq_true,if_false,if_true,decide_eq_false_iff_not] <;> omega
 ·cases s <;> simp only [Bool.false_eq_true,if_false,if_true,decide_eq_false_iff_not] <;> omega
theorem QeL:Op.negFloat .f32 1149239296=3296722944:=by decide
theorem QaI (n:Nat) (b:Bool) (k:Int):Z2 n b k=some (if b=true then k else 0):=by
 unfold Z2;cases b <;> rfl
theorem QfR (x:Nat) (hx:x < 18446744073709551616):(Go.bits .andNot .u64 (x:Int) 9223372036854775808).toNat=x % 9223372036854775808:=by
 have h1:(BitVec.ofInt 64 (x:Int) &&& ~~~ BitVec.ofInt 64 9223372036854775808).toNat=x % 9223372036854775808:=by
  rw [BitVec.toNat_and]
  have e1:(~~~ BitVec.ofInt 64 9223372036854775808).toNat=2 ^ 63 - 1:=by decide
  have e2:(BitVec.ofInt 64 (x:Int)).toNat=x:=by
   rw [BitVec.toNat_ofInt];omega
  rw [e1,e2,Nat.and_two_pow_sub_one_eq_mod]
 have h2:Go.bits .andNot .u64 (x:Int) 9223372036854775808=IntKind.u64.wrap ((BitVec.ofInt 64 (x:Int) &&& ~~~ BitVec.ofInt 64 9223372036854775808).toNat:Int):=rfl
 rw [h2,h1,IntKind.wrap_u64]
 omega
theorem QdG {r:Nat}:(∀ {s:Bool} {n:Nat} {x:Int},double.read r=.number s n x→double.read (r % 9223372036854775808)=.number false n x)∧(∀ {s:Bool},double.read r=.infinity s→double.read (r % 9223372036854775808)=.infinity false):=by
 have e1:double.signWeight=9223372036854775808:=by decide
 have e2:double.binade=4503599627370496:=by decide
 have e3:double.infRung=9218868437227405312:=by decide
 have h0:r % 9223372036854775808 / 9223372036854775808=0:=Nat.div_eq_of_lt (Nat.mod_lt _ (by decide))
 unfold Format.read
 simp only [e1,e2,e3,Nat.mod_mod,h0]
 refine ⟨fun {s n x} h=>?_,fun {s} h=>?_⟩
 ·split at h
  ·rename_i c;cases h;rw [if_pos c];rfl
  ·rename_i c
   rw [if_neg c]
   split at h
   ·rename_i c;cases h;rw [if_pos c];rfl
   ·split at h <;> cases h
 ·split at h
  ·cases h
  ·rename_i c
   rw [if_neg c]
   split at h
   ·cases h
   ·rename_i c
    rw [if_neg c]
    split at h
    ·rename_i c;rw [if_pos c];rfl
    ·cases h
theorem Qdm (s:Bool) (m:Nat) (e:Int):double.write (.number s m e) < 18446744073709551616:=by
 have e1:double.signWeight=9223372036854775808:=by decide
 have e3:double.infRung=9218868437227405312:=by decide
 have hw:∀ k:Nat,k≤9218868437227405312→double.word s k < 18446744073709551616:=by
  intro k hk
  unfold Format.word
  rw [e1]
  split <;> omega
 show double.nearest s m e < _
 unfold Format.nearest
 split
 ·exact hw 0 (by decide)
 ·exact hw _ (by rw [e3];exact Nat.min_le_right _ _)
theorem QeP {n a0:Nat} {s:Bool} {m:Nat} {e:Int} (h:single.read a0=.number s m e):WO n a0=some false:=by
 obtain ⟨h1,h2,h3⟩:=Flo.read_num h
 have hb:Flo.vn m e < 2 ^ (2000+200):=by
  unfold Flo.vn
  have q1:m * 2 ^ (e+2000).toNat < 2 ^ 24 * 2 ^ (e+2000).toNat:=Nat.mul_lt_mul_of_pos_right h1 (Nat.two_pow_pos _)
  rw [← Nat.pow_add] at q1
  have q2:∀ a b:Nat,a≤b→m * 2 ^ (e+2000).toNat < 2 ^ a→m * 2 ^ (e+2000).toNat < 2 ^ b:=fun a b hab h=>Nat.lt_of_lt_of_le h (Nat.pow_le_pow_right (by decide) hab)
  have q3:=q2 (24+(e+2000).toNat) (2000+200) (by omega) q1
  exact q3
 obtain ⟨r,q,x,a1,a2,a3,a4,a5⟩:=Flo.f2f_num (j:=.f32) (k:=.f64) (by decide) (Flo.f64 (E:=200) (by decide)) (b:=a0) h (q:=m) (p:=e) (by omega) (by omega) (by omega) rfl hb
 have hr:r < 18446744073709551616:=by
  unfold f2f at a1
  rw [if_neg (by decide),show FloatKind.f32.decode a0=.number s m e from h] at a1
  simp only at a1
  split at a1
  ·cases a1
  ·cases a1;exact Qdm s m e
 have a2' : double.read r=.number s q x:=a2
 have h4:=QdG.1 a2'
 have hmax:double.read 9218868437227405311=.number false 9007199254740991 971:=by decide
 have hlt:Flo.vn q x < Flo.vn 9007199254740991 971:=by
  rw [a5]
  refine Nat.lt_of_lt_of_le hb ?_
  unfold Flo.vn
  rw [show ((971:Int)+2000).toNat=2971 from rfl]
  have h1:∀ a b c:Nat,a≤b→0 < c→2 ^ a≤c * 2 ^ b:=fun a b c hab hc=>Nat.le_trans (Nat.pow_le_pow_right (by decide) hab) (Nat.le_mul_of_pos_left _ hc)
  have q4:=h1 (2000+200) 2971 9007199254740991 (by decide) (by decide)
  exact q4
 have o1:(FloatKind.format .f64).order r r=some .eq:=by
  show (double.read r).order (double.read r)=_
  rw [a2',Flo.order_val (by omega) (by omega),Int.compare_eq_eq.2 rfl]
 have o2:(FloatKind.format .f64).order (r % 9223372036854775808) 9218868437227405311=some .lt:=by
  show (double.read _).order (double.read _)=_
  rw [h4,hmax,Flo.order_val (by omega) (by omega),Flo.V_eq,Flo.V_eq]
  simp only [Bool.false_eq_true,if_false]
  rw [Int.compare_eq_lt.2 (by omega)]
 unfold WO Uj Uk Ew
 rw [a1]
 simp only [Option.isSome_some,if_true,Option.getD_some,Option.bind_some,o1,QfR r hr,o2]
 rfl
theorem Qd3 {n b:Nat} {s:Bool} {m:Nat} {e:Int} (h:single.read b=.number s m e):Vm n b 1149239296=some (chk b):=by
 unfold Vm chk
 rw [h,QeL]
 simp only
 change (if (single.order b 3296722944 == some .lt)=true then _ else if (single.order b 1149239296 == some .gt)=true then _ else _)=_
 rw [Qen h,Qeo h]
 by_cases hb:2 ^ 2010 < Flo.vn m e
 ·rw [if_pos hb,decide_eq_true hb]
  cases s
  ·rw [if_neg (by simp),if_pos (by simp)];rfl
  ·rw [if_pos (by simp)];rfl
 ·rw [if_neg hb,decide_eq_false hb,Bool.and_false,Bool.and_false,if_neg (by simp),if_neg (by simp)]
  obtain ⟨y,q,p,y1,y2,y3,y4,y5⟩:=Flo.mul16 h (by omega)
  obtain ⟨r,t,z,z1,z2,z3,z4⟩:=Flo.prog_eq y2 y4 y3 (by rw [y5];omega)
  rw [y1]
  simp only [Option.isSome_some,if_true,Option.getD_some]
  rw [z1]
  simp only [Option.isSome_some,if_true,Option.getD_some]
  rw [show JK n r=some t from z2,Option.bind_some,z3]
  simp only [Option.isSome_some,if_true,Option.getD_some]
  rw [QaI,Option.bind_some]
  change some (if (single.order z y != some .eq)=true then (3:Int) else 0)=_
  rw [z4,y5]
  by_cases hd:2 ^ 2000 ∣ 16 * Flo.vn m e
  ·rw [decide_eq_true hd,if_pos hd];rfl
  ·rw [decide_eq_false hd,if_neg hd];rfl
theorem Qc9 {n:Nat} (hn:300≤n) {b:Nat} {s:Bool} {m:Nat} {e:Int} (h:single.read b=.number s m e):Zg n b=some (chk b):=by
 unfold Zg
 rw [QeP h,Option.bind_some,QaI,Option.bind_some,Qd3 h,Option.bind_some,show ([I (if false=true then 1 else 0),I (chk b)]:List D)=[if false=true then 1 else 0,chk b].map I from rfl,Xd hn _ (by simp),Option.bind_some]
 congr 1
 show (if (0:Int)=0 then ZI [chk b] else 0)=chk b
 rw [if_pos rfl]
 unfold ZI ZI
 by_cases h0:chk b=0
 ·rw [if_pos h0,h0]
 ·rw [if_neg h0]
theorem Qa4 {n:Nat} (hn:300≤n) {b:Nat} (h:chk b=0):Zg n b=some 0:=by
 cases hb:single.read b with
 | number s m e=>rw [Qc9 hn hb,h]
 | nan s t=>unfold chk at h;rw [hb] at h;cases h
 | infinity s=>unfold chk at h;rw [hb] at h;cases h
theorem QdA (n:Nat) (b:Bool) (k:Int):Wr n b k=some (if b=true then k else 0):=by
 unfold Wr;cases b <;> rfl
theorem QdP:FloatKind.nearest .f32 1024=1149239296:=by decide
theorem Qez:fop .sub .f32 0 1149239296=some 3296722944:=by decide
theorem QeE {n b:Nat} {s:Bool} {m:Nat} {e:Int} (h:single.read b=.number s m e):Zk n b 1024=some (chk b):=by
 obtain ⟨m1,m2,m3⟩:=QeI h
 unfold Zk chk
 rw [h,QdP,Qez]
 simp only [Option.isSome_some,if_true,Option.getD_some]
 change (if (single.order b b != some .eq)=true then _ else if (single.order b 2139095039 == some .gt)=true then _ else if (single.order b 4286578687 == some .lt)=true then _ else if (single.order b 1149239296 == some .gt)=true then _ else if (single.order b 3296722944 == some .lt)=true then _ else _)=_
 rw [m1,m2,m3,if_neg (by decide),if_neg (by decide),if_neg (by decide),Qeo h,Qen h]
 by_cases hb:2 ^ 2010 < Flo.vn m e
 ·rw [if_pos hb,decide_eq_true hb]
  cases s
  ·rw [if_pos (by simp)]
  ·rw [if_neg (by simp),if_pos (by simp)]
 ·rw [if_neg hb,decide_eq_false hb,Bool.and_false,Bool.and_false,if_neg (by simp),if_neg (by simp)]
  obtain ⟨y,q,p,y1,y2,y3,y4,y5⟩:=Flo.mul16 h (by omega)
  obtain ⟨z,z1,z4⟩:=Flo.ref_eq y2 y3 (by rw [y5];omega)
  rw [y1]
  simp only [Option.isSome_some,if_true,Option.getD_some]
  rw [z1]
  simp only [Option.isSome_some,if_true,Option.getD_some]
  rw [QdA,Option.bind_some]
  change some (if (single.order (FloatKind.nearest .f32 z) y != some .eq)=true then (3:Int) else 0)=_
  rw [z4,y5]
  by_cases hd:2 ^ 2000 ∣ 16 * Flo.vn m e
  ·rw [decide_eq_true hd,if_pos hd];rfl
  ·rw [decide_eq_false hd,if_neg hd];rfl
theorem ref_eq (n b:Nat):Wb n b=some (chk b):=by
 unfold Wb
 have key:Zk n b 1024=some (chk b):=by
  cases h:single.read b with
  | number s m e=>exact QeE h
  | nan s t =>
   unfold Zk chk
   rw [h]
   have e:single.order b b=none:=by unfold Format.order;rw [h];rfl
   change (if (single.order b b != some .eq)=true then _ else _)=_
   rw [e];rfl
  | infinity s =>
   unfold Zk chk
   rw [h]
   change (if (single.order b b != some .eq)=true then _ else if (single.order b 2139095039 == some .gt)=true then _ else if (single.order b 4286578687 == some .lt)=true then _ else _)=_
   unfold Format.order
   rw [h,rmax,Qe8]
   cases s <;> rfl
 rw [key,Option.bind_some]
theorem Qc2 {y:Nat} {s:Bool} {n:Nat} {p:Int} (hy:single.read y=.number s n p) (hp : -149≤p) (hb:Flo.vn n p≤2 ^ 2014) (hd:2 ^ 2000 ∣ Flo.vn n p) :
  ∃ Z:Nat,Flo.vn n p=Z * 2 ^ 2000∧f2i .f32 y .i64=some (if s then -(Z:Int) else (Z:Int)):=by
 obtain ⟨c1,c2⟩:=Flo.cut_whole (w:=.zero) (.inr rfl) s n p (by omega)
 obtain ⟨Z,hZ⟩:∃ Z,Z=Toward.zero.cut s (n <<< p.toNat) (-p).toNat:=⟨_,rfl⟩
 rw [← hZ] at c1 c2
 have hvZ:Flo.vn Z 0=Z * 2 ^ 2000:=by
  unfold Flo.vn
  rw [show ((0:Int)+2000).toNat=2000 from rfl]
 have hv:=c1.2 hd
 rw [hvZ] at hv
 have hZ16:Z < 2 ^ 16:=by
  have:Z * 2 ^ 2000 < 2 ^ 16 * 2 ^ 2000:=by omega
  generalize 2 ^ 2000=X at this
  exact Nat.lt_of_mul_lt_mul_right this
 obtain ⟨z,hz⟩:∃ z:Int,z=if s then -(Z:Int) else (Z:Int):=⟨_,rfl⟩
 have hto:(FloatKind.f32.decode y).toInt .zero=some z:=by
  show ((single.read y).toInt .zero)=_
  rw [hy]
  unfold Datum.toInt Datum.integral
  simp only [← hZ]
  unfold signed
  rw [Nat.shiftLeft_zero,hz]
 refine ⟨Z,hv.symm,?_⟩
 rw [← hz]
 unfold f2i
 rw [hto]
 show (if IntKind.i64.min≤z∧z≤IntKind.i64.max then some z else none)=_
 have e1:IntKind.i64.min=-9223372036854775808:=by decide
 have e2:IntKind.i64.max=9223372036854775807:=by decide
 rw [e1,e2,if_pos (by rw [hz];cases s <;> simp only [Bool.false_eq_true,if_false,if_true] <;> omega)]
def Smp (b:Nat) (s:Bool) (K:Nat):Prop:=K≤16384∧∃ m e,single.read b=.number s m e∧-149≤e∧16 * Flo.vn m e=K * 2 ^ 2000
def lev (b:Nat):Int:=(f2i .f32 ((fop .mul .f32 1098907648 b).getD 0) .i64).getD 0
def smp (k:Int):Nat:=(fop .quo .f32 (FloatKind.nearest .f32 k) 1098907648).getD 0
theorem QcT {a b X:Nat} (hX:0 < X) (h:a * X≤b * X):a≤b:=Nat.le_of_mul_le_mul_right h hX
theorem Jc {a b:Nat} (h:a≤b) (k:Nat):a * 2 ^ k≤b * 2 ^ k:=Nat.mul_le_mul_right _ h
theorem QeY {a X K:Nat} (h:a=X * K):a=K * X:=by rw [h,Nat.mul_comm]
theorem Qct (p:Int) (k:Nat):16 * Flo.vn 0 p=0 * 2 ^ k:=by unfold Flo.vn;rw [Nat.zero_mul,Nat.zero_mul]
theorem yT {b:Nat} (h:chk b=0):∃ s K,Smp b s K:=by
 unfold chk at h
 cases hb:single.read b with
 | nan s t=>rw [hb] at h;cases h
 | infinity s=>rw [hb] at h;cases h
 | number s m e =>
  rw [hb] at h
  simp only at h
  split at h
  ·cases h
  ·rename_i h1
   split at h
   ·rename_i h2
    obtain ⟨K,hK⟩:=h2
    obtain ⟨_,h3,_⟩:=Flo.read_num hb
    have hc:=QeY hK
    refine ⟨s,K,?_,m,e,hb,h3,hc⟩
    have h4:K * 2 ^ 2000≤16384 * 2 ^ 2000:=by
     rw [Nat.mul_comm K,← hK];omega
    have h5:=Nat.two_pow_pos 2000
    generalize 2 ^ 2000=X at h4 h5
    exact QcT h5 h4
   ·cases h
theorem Smp.chk {b:Nat} {s:Bool} {K:Nat} (h:Smp b s K):chk b=0:=by
 obtain ⟨h1,m,e,h2,h3,h4⟩:=h
 unfold Proofs.YtfiigcbhiopagaaGreat.chk
 rw [h2]
 simp only
 have h5:=Jc h1 2000
 rw [if_neg (by omega),if_pos ⟨K,by rw [h4,Nat.mul_comm]⟩]
def XU (s:Bool) (K:Nat):Int:=if s then -(K:Int) else (K:Int)
theorem Smp.mul {b:Nat} {s:Bool} {K:Nat} (h:Smp b s K):∃ y,fop .mul .f32 1098907648 b=some y∧f2i .f32 y .i64=some (XU s K):=by
 obtain ⟨h1,m,e,h2,h3,h4⟩:=h
 have h5:=Jc h1 2000
 obtain ⟨y,q,p,y1,y2,y3,y4,y5⟩:=Flo.mul16 h2 (by omega)
 obtain ⟨Z,z1,z2⟩:=Qc2 y2 y3 (by rw [y5];omega) (by rw [y5,h4];exact Nat.dvd_mul_left _ _)
 have hZ:Z=K:=by
  rw [y5,h4] at z1
  have h6:=Nat.two_pow_pos 2000
  generalize 2 ^ 2000=X at z1 h6
  exact (Nat.eq_of_mul_eq_mul_right h6 z1).symm
 subst hZ
 exact ⟨y,y1,z2⟩
theorem Smp.lev {b:Nat} {s:Bool} {K:Nat} (h:Smp b s K):lev b=XU s K:=by
 obtain ⟨y,h1,h2⟩:=h.mul
 unfold Proofs.YtfiigcbhiopagaaGreat.lev
 rw [h1,Option.getD_some,h2,Option.getD_some]
theorem Smp.level {b:Nat} {s:Bool} {K:Nat} (h:Smp b s K) (n:Nat):W8 n b=some (Proofs.YtfiigcbhiopagaaGreat.lev b):=by
 obtain ⟨y,h1,h2⟩:=h.mul
 unfold W8 Proofs.YtfiigcbhiopagaaGreat.lev
 rw [h1]
 simp only [Option.isSome_some,if_true,Option.getD_some]
 rw [h2]
 simp only [Option.isSome_some,if_true,Option.getD_some]
theorem QaJ {b:Nat} (h:Proofs.YtfiigcbhiopagaaGreat.chk b=0) (n:Nat):W8 n b=some (lev b):=by
 obtain ⟨s,K,h1⟩:=yT h
 exact h1.level n
theorem yq {b:Nat} (h:Proofs.YtfiigcbhiopagaaGreat.chk b=0) : -16384≤lev b∧lev b≤16384:=by
 obtain ⟨s,K,h1⟩:=yT h
 rw [h1.lev]
 have:=h1.1
 unfold XU
 cases s <;> simp only [Bool.false_eq_true,if_false,if_true] <;> omega
theorem QfQ {x:Nat} {s:Bool} {m:Nat} {i:Int} {K:Nat} (hx:single.read x=.number s m i) (hm:m < 2 ^ 24) (hi : -149≤i) (hK:K≤16384) (hv:Flo.vn m i=K * 2 ^ 2000) :
  ∃ w,fop .quo .f32 x 1098907648=some w∧Smp w s K:=by
 have h16:single.read 1098907648=.number false 8388608 (-19):=by decide
 have hlog:m.log2≤23:=by
  by_cases h0:m=0
  ·subst h0;decide
  ·have:=(Nat.log2_lt h0).2 hm;omega
 obtain ⟨M,hM⟩:∃ M,M=single.fractionBits+2+(8388608:Nat).log2 - m.log2:=⟨_,rfl⟩
 have hM2:25≤M∧M≤48:=by
  have e1:single.fractionBits+2+(8388608:Nat).log2=48:=by decide
  rw [e1] at hM;omega
 obtain ⟨N,hN⟩:∃ N,M=N+23:=⟨M - 23,by omega⟩
 have hdiv:m <<< M / 8388608=m * 2 ^ N∧m <<< M % 8388608=0:=by
  rw [Nat.shiftLeft_eq,hN,Nat.pow_add,← Nat.mul_assoc,show (2:Nat) ^ 23=8388608 by decide]
  exact ⟨Nat.mul_div_cancel _ (by decide),Nat.mul_mod_left _ _⟩
 obtain ⟨G,hG⟩:∃ G,G=2 * (m * 2 ^ N)+0:=⟨_,rfl⟩
 have hq:(single.read x).quotient (single.fractionBits+2) (single.read 1098907648)=some (.number s G (i - (-19) - M - 1)):=by
  rw [hx,h16]
  unfold Datum.quotient
  simp only [← hM]
  rw [if_neg (by decide),hdiv.1,hdiv.2,Bool.xor_false,hG]
  rfl
 have hval:Flo.vn G (i - (-19) - M - 1)=K * 2 ^ 1996:=by
  have e1:Flo.vn G (i - (-19) - M - 1) * 16=Flo.vn m i:=by
   unfold Flo.vn
   obtain ⟨A,hA⟩:∃ A:Nat,A=(i - (-19) - M - 1+2000).toNat:=⟨_,rfl⟩
   rw [← hA,show (i+2000).toNat=N+(A+5) by omega,hG,Nat.pow_add 2 N,Nat.pow_add 2 A]
   generalize 2 ^ A=X
   generalize 2 ^ N=Y
   rw [show (2:Nat) ^ 5=32 by decide,Nat.add_zero,← Nat.mul_assoc m Y,← Nat.mul_assoc (m * Y)]
   rw [Nat.mul_assoc 2,Nat.mul_comm 2,Nat.mul_assoc]
  have e2:∀ k j:Nat,j=k+4→K * 2 ^ j=K * 2 ^ k * 16:=fun k j e=>by rw [e,Nat.pow_add,← Nat.mul_assoc]
  have e3:=e2 1996 2000 rfl
  rw [hv,e3] at e1
  generalize K * 2 ^ 1996=Y at e1
  omega
 have hval4:Flo.vn G (i - (-19) - M - 1)=Flo.vn K (-4):=by
  rw [hval]
  unfold Flo.vn
  rw [show ((-4:Int)+2000).toNat=1996 from rfl]
 have hKb:=Jc hK 1996
 obtain ⟨n,j,r1,r2,r3,r4⟩:=Flo.write_read Flo.f32 s (m:=G) (i:=i - (-19) - M - 1) (q:=K) (p:=-4) (by omega) (by omega) (by omega) hval4 (by rw [hval];omega)
 refine ⟨single.write (.number s G (i - (-19) - M - 1)),?_,hK,n,j,r1,r2,?_⟩
 ·show single.div x 1098907648=_
  unfold Format.div
  rw [hq];rfl
 ·rw [r4,hval]
  have e2:∀ k j:Nat,j=k+4→16 * (K * 2 ^ k)=K * 2 ^ j:=fun k j e=>by rw [e,Nat.pow_add,← Nat.mul_assoc K];omega
  have q:=e2 1996 2000 rfl
  exact q
theorem QeA {k:Int} (h : -16384≤k∧k≤16384):∃ w,fop .quo .f32 (FloatKind.nearest .f32 k) 1098907648=some w∧Smp w (decide (k < 0)) k.natAbs:=by
 have hv0:Flo.vn k.natAbs 0=k.natAbs * 2 ^ 2000:=by
  unfold Flo.vn
  rw [show ((0:Int)+2000).toNat=2000 from rfl]
 have hK:k.natAbs≤16384:=by omega
 have hKb:=Jc hK 2000
 obtain ⟨n,j,r1,r2,r3,r4⟩:=Flo.write_read Flo.f32 (decide (k < 0)) (m:=k.natAbs) (i:=0) (q:=k.natAbs) (p:=0) (by omega) (by omega) (by omega) rfl (by rw [hv0];omega)
 exact QfQ (x:=FloatKind.nearest .f32 k) r1 r3 r2 hK (by rw [r4,hv0])
theorem Qdy (k:Int):XU (decide (k < 0)) k.natAbs=k:=by
 unfold XU
 by_cases h:k < 0
 ·rw [decide_eq_true h,if_pos rfl];omega
 ·rw [decide_eq_false h,if_neg (by decide)];omega
theorem qB {k:Int} (h : -16384≤k∧k≤16384):Proofs.YtfiigcbhiopagaaGreat.chk (smp k)=0∧lev (smp k)=k∧∀ n,Vl n k=some (smp k):=by
 obtain ⟨w,h1,h2⟩:=QeA h
 have e:smp k=w:=by unfold smp;rw [h1,Option.getD_some]
 rw [e]
 refine ⟨h2.chk,by rw [h2.lev,Qdy],fun n=>?_⟩
 unfold Vl
 rw [h1];rfl
theorem QeB {a b:Nat} {s t:Bool} {K L:Nat} (ha:Smp a s K) (hb:Smp b t L):single.order a b=some (compare (XU s K) (XU t L)):=by
 obtain ⟨_,m,e,a1,a2,a3⟩:=ha
 obtain ⟨_,n,j,b1,b2,b3⟩:=hb
 unfold Format.order
 rw [a1,b1,Flo.order_val (by omega) (by omega),Flo.V_eq,Flo.V_eq]
 have key:∀ (X p q:Nat) (K L:Nat),0 < X→16 * p=K * X→16 * q=L * X→compare (if s then -(p:Int) else (p:Int)) (if t then -(q:Int) else (q:Int))=compare (XU s K) (XU t L):=by
  intro X p q K L hX h1 h2
  have e1:(16:Int) * (if s then -(p:Int) else (p:Int))=XU s K * (X:Int):=by
   unfold XU
   have:(16:Int) * (p:Int)=(K:Int) * (X:Int):=by exact_mod_cast h1
   cases s
   ·simpa using this
   ·simp only [if_true];rw [Int.neg_mul,← this];omega
  have e2:(16:Int) * (if t then -(q:Int) else (q:Int))=XU t L * (X:Int):=by
   unfold XU
   have:(16:Int) * (q:Int)=(L:Int) * (X:Int):=by exact_mod_cast h2
   cases t
   ·simpa using this
   ·simp only [if_true];rw [Int.neg_mul,← this];omega
  generalize (if s then -(p:Int) else (p:Int))=u at e1
  generalize (if t then -(q:Int) else (q:Int))=v at e2
  generalize XU s K=A at e1
  generalize XU t L=B at e2
  have hX' : (0:Int) < (X:Int):=by omega
  rcases Int.lt_trichotomy A B with h | h | h
  ·have h3:A * (X:Int) < B * (X:Int):=Int.mul_lt_mul_of_pos_right h hX'
   rw [Int.compare_eq_lt.2 h,Int.compare_eq_lt.2 (by omega)]
  ·subst h
   rw [Int.compare_eq_eq.2 rfl,Int.compare_eq_eq.2 (by omega)]
  ·have h3:B * (X:Int) < A * (X:Int):=Int.mul_lt_mul_of_pos_right h hX'
   rw [Int.compare_eq_gt.2 h,Int.compare_eq_gt.2 (by omega)]
 have hp:=Nat.two_pow_pos 2000
 generalize 2 ^ 2000=X at a3 b3 hp
 exact congrArg some (key X _ _ K L hp a3 b3)
theorem Qcj {a b:Nat} (ha:Proofs.YtfiigcbhiopagaaGreat.chk a=0) (hb:Proofs.YtfiigcbhiopagaaGreat.chk b=0):single.order a b=some (compare (lev a) (lev b)):=by
 obtain ⟨s,K,h1⟩:=yT ha
 obtain ⟨t,L,h2⟩:=yT hb
 rw [QeB h1 h2,h1.lev,h2.lev]
theorem ws:Proofs.YtfiigcbhiopagaaGreat.chk 0=0∧lev 0=0:=by
 have h:Smp 0 false 0:=⟨by omega,0,-149,by decide,by omega,Qct (-149) 2000⟩
 exact ⟨h.chk,h.lev⟩
theorem unff (x:Nat):VQ (Qq x)=some x:=rfl
theorem KD {α:Type} {L:Int×List D→Option ((Int×List D)⊕List D)} (l:List α) (out:α→D) (h1:∀ (i:Nat) (x:α) (s:List D),l[i]?=some x→s.length=i→L ((i:Int),s)=some (.inl ((i:Int)+1,s++[out x])))
  (h2:∀ s:List D,s.length=l.length→L ((l.length:Int),s)=some (.inr s)) {n:Nat} (hn:l.length < n):QF L n (0,[])=some (l.map out):=by
 have h:=Vh (step:=L) (fun (s:List D) (x:α)=>(.inl (s++[out x]):List D⊕List D)) (fun s=>s) (fun i s=>((i:Int),s)) l (fun i s=>s.length=i)
  (fun i s x hx hs=>⟨(h1 i x s hx hs).trans (by rw [show (((i+1:Nat)):Int)=(i:Int)+1 by omega]),by rw [List.length_append,hs];rfl⟩)
  (fun s hs=>h2 s hs) (k:=n) (s:=[]) rfl hn
 have hr:∀ (l:List α) (s:List D),K4 (fun (s:List D) (x:α)=>(.inl (s++[out x]):List D⊕List D)) (fun s=>s) l s=s++l.map out:=by
  intro l
  induction l with
  | nil=>intro s;simp [K4]
  | cons t l ih=>intro s;show K4 _ _ l (s++[out t])=_;rw [ih];simp
 rw [hr,List.nil_append] at h
 exact h
theorem jL {α E:Type} {L:Int→Option (Int⊕(E⊕Unit))} (l:List α) (h1:∀ (i:Nat) (x:α),l[i]?=some x→L (i:Int)=some (.inl ((i:Int)+1))) (h2:L (l.length:Int)=some (.inr (.inr ()))) {n:Nat} (hn:l.length < n):QF L n 0=some (.inr ()):=by
 have h:=Vh (step:=L) (fun (s:Nat) (x:α)=>(.inl (s+1):Nat⊕(E⊕Unit))) (fun _=>.inr ()) (fun i _=>(i:Int)) l (fun i s=>True)
  (fun i s x hx _=>⟨(h1 i x hx).trans (by rw [show (((i+1:Nat)):Int)=(i:Int)+1 by omega]),trivial⟩) (fun s _=>h2) (k:=n) (s:=0) trivial hn
 have hr:∀ (l:List α) (s:Nat),K4 (fun (s:Nat) (x:α)=>(.inl (s+1):Nat⊕(E⊕Unit))) (fun _=>(.inr ():E⊕Unit)) l s=.inr ():=by
  intro l
  induction l with
  | nil=>intro s;rfl
  | cons t l ih=>intro s;exact ih (s+1)
 rw [hr] at h
 exact h
structure MapOk (W H:Int) (bs:List Nat):Prop where
 w:1≤W∧W≤64
 h:1≤H∧H≤64
 len:(bs.length:Int)=W * H
 few:bs.length≤101
 chk:∀ b,b∈bs→chk b=0
theorem wy {x lo hi:Int} (h:lo≤x∧x≤hi):inR x lo hi=0:=by
 unfold inR;rw [if_neg (by omega),if_neg (by omega)]
theorem uZ (bs:List Nat):ZI (bs.map fun _=>(0:Int))=0:=by
 induction bs with
 | nil=>rfl
 | cons b l ih =>
  show (if (0:Int)=0 then ZI (l.map fun _=>(0:Int)) else 0)=0
  rw [if_pos rfl];exact ih
theorem wB {W H:Int} (hw:1≤W∧W≤64) (hh:1≤H∧H≤64):Qb (W * H):=by
 have h1:0≤W * H:=Int.mul_nonneg (by omega) (by omega)
 have h2:W * H≤64 * 64:=Int.mul_le_mul hw.2 hh.2 (by omega) (by omega)
 unfold Qb;omega
theorem zU {n:Nat} (hn:300≤n) {W H:Int} {bs:List Nat} (h:MapOk W H bs):ZR n W H (bs.map Qq)=some 0:=by
 unfold ZR
 rw [qz,Option.bind_some,qz,Option.bind_some,wy h.w,wy h.h,show ([I 0,I 0]:List D)=[0,0].map I from rfl,Xd hn _ (by simp),Option.bind_some,if_pos (by rfl),if_pos (wB h.w h.h),if_pos (by rw [List.length_map];exact h.len)]
 unfold VA
 rw [KD (L:=ZM n (bs.map Qq)) bs (fun _=>I 0) ?_ ?_ (by have:=h.few;omega),Option.bind_some,Option.bind_some,show (bs.map fun _=>I 0)=(bs.map fun _=>(0:Int)).map I by rw [List.map_map];rfl,Xd hn _ (by rw [List.length_map];exact h.few),uZ,Option.bind_some]
 ·intro i x s hx hs
  have hi:=(List.getElem?_eq_some_iff.1 hx).1
  have:=h.few
  unfold ZM
  dsimp only
  rw [if_pos (Y0 hx),WW unff hx,Option.bind_some,Qa4 hn (h.chk x (List.mem_of_getElem? hx)),Option.bind_some,if_pos (by unfold Wm;omega),if_pos (by unfold Qb;omega)]
 ·intro s hs
  unfold ZM
  rw [if_neg (by simp)]
def levD (b:Nat):D:=I (lev b)
theorem QcS {n:Nat} (hn:300≤n) {W H:Int} {bs:List Nat} (h:MapOk W H bs):ZQ n W H (bs.map Qq)=some (W,H,bs.map levD):=by
 unfold ZQ W1
 rw [KD (L:=Zo n (bs.map Qq)) bs levD ?_ ?_ (by have:=h.few;omega),Option.bind_some,Option.bind_some]
 ·intro i x s hx hs
  have hi:=(List.getElem?_eq_some_iff.1 hx).1
  have:=h.few
  unfold Zo
  dsimp only
  rw [if_pos (Y0 hx),WW unff hx,Option.bind_some,QaJ (h.chk x (List.mem_of_getElem? hx)),Option.bind_some,if_pos (by unfold Wm;omega),if_pos (by unfold Qb;omega)]
  rfl
 ·intro s hs
  unfold Zo
  rw [if_neg (by simp)]
theorem ui {α:Type} {f:α→D} {l:List α} {i:Nat} {x:α} (h:l[i]?=some x):nth (l.map f) (Int.toNat (i:Int))=some (f x):=by
 rw [Int.toNat_natCast,Gy,List.getElem?_map,h];rfl
theorem QeN {n:Nat} (hn:300≤n) (W H:Int) {ks:List Int} (hl:ks.length≤101) (hk:∀ k,k∈ks→-16384≤k∧k≤16384):Z6 n W H (ks.map I)=some (W,H,(ks.map smp).map Qq,0):=by
 unfold Z6
 rw [jL (L:=ZF n W H (ks.map I)) ks ?_ ?_ (by omega),Option.bind_some]
 ·dsimp only
  unfold W0
  rw [KD (L:=Zn n (ks.map I)) ks (fun k=>Qq (smp k)) ?_ ?_ (by omega),Option.bind_some,Option.bind_some,List.map_map]
  ·rfl
  ·intro i x s hx hs
   have hi:=(List.getElem?_eq_some_iff.1 hx).1
   unfold Zn
   dsimp only
   rw [if_pos (Y0 hx),WW Qbb hx,Option.bind_some,(qB (hk x (List.mem_of_getElem? hx))).2.2 n,Option.bind_some,if_pos (by unfold Wm;omega),if_pos (by unfold Qb;omega)]
   rfl
  ·intro s hs
   unfold Zn
   rw [if_neg (by simp)]
 ·intro i x hx
  have hi:=(List.getElem?_eq_some_iff.1 hx).1
  have hb:=hk x (List.mem_of_getElem? hx)
  unfold ZF
  rw [if_pos (Y0 hx),WW Qbb hx,Option.bind_some,if_neg (by omega),if_neg (by omega),if_pos (by unfold Qb;omega)]
 ·unfold ZF
  rw [if_neg (by simp)]
def jt:List Nat→Int
 | []=>0
 | b::l=>if chk b=0 then jt l else chk b
theorem yG:∀ {bs:List Nat},jt bs=0→∀ b,b∈bs→chk b=0
 | [],_,b,h=>by cases h
 | a::l,h,b,hb=>by
  unfold jt at h
  by_cases h0:chk a=0
  ·rw [if_pos h0] at h
   rcases List.mem_cons.1 hb with rfl | hb
   ·exact h0
   ·exact yG h b hb
  ·rw [if_neg h0] at h;exact absurd h h0
def sG (s:Nat) (b:Nat):Nat⊕(Int⊕Unit):=if chk b=0 then .inl (s+1) else .inr (.inl (chk b))
theorem Qdz:∀ (bs:List Nat) (s:Nat),K4 sG (fun _=>(.inr ():Int⊕Unit)) bs s=(if jt bs=0 then .inr () else .inl (jt bs))
 | [],s=>rfl
 | b::l,s=>by
  unfold K4 sG jt
  by_cases h:chk b=0
  ·rw [if_pos h,if_pos h];exact Qdz l (s+1)
  ·rw [if_neg h,if_neg h,if_neg h]
theorem wL {n:Nat} (hn:300≤n) (bs:List Nat) (hb:bs.length≤101):Z0 n (bs.map Qq)=some (jt bs):=by
 unfold Z0
 have h:=Vh (step:=QP n (bs.map Qq)) sG (fun _=>(.inr ():Int⊕Unit)) (fun i _=>(i:Int)) bs (fun i s=>True)
  (fun i s x hx _=>by
   have hi:=(List.getElem?_eq_some_iff.1 hx).1
   unfold sG QP
   rw [if_pos (Y0 hx),WW unff hx,Option.bind_some,ref_eq,Option.bind_some]
   by_cases h0:chk x=0
   ·rw [if_pos h0,if_pos h0,if_pos (by unfold Qb;omega)]
    exact ⟨rfl,trivial⟩
   ·rw [if_neg h0,if_neg h0])
  (fun s _=>by unfold QP;rw [if_neg (by simp)]) (k:=n) (s:=0) trivial (by omega)
 have h' : QF (QP n (bs.map Qq)) n 0=_:=h
 rw [h',Qdz,Option.bind_some]
 by_cases h0:jt bs=0
 ·rw [if_pos h0,h0]
 ·rw [if_neg h0]
theorem ER {x lo hi:Int} (h:inR x lo hi=0):lo≤x∧x≤hi:=by
 unfold inR at h
 split at h
 ·cases h
 ·split at h
  ·cases h
  ·omega
theorem zO {a b:Int} (h:ZI [a,b]=0):a=0∧b=0:=by
 unfold ZI ZI ZI at h
 split at h
 ·rename_i h1
  split at h
  ·rename_i h2;exact ⟨h1,h2⟩
  ·rename_i h2;exact absurd h h2
 ·rename_i h1;exact absurd h h1
theorem QcG {n:Nat} (hn:300≤n) (W H:Int) (bs:List Nat) (hb:bs.length≤101):∃ e,Zd n W H (bs.map Qq)=some e∧(e=0→MapOk W H bs):=by
 unfold Zd ZJ
 rw [KA,Option.bind_some,Option.bind_some,KA,Option.bind_some,Option.bind_some,show ([I (inR W 1 64),I (inR H 1 64)]:List D)=[inR W 1 64,inR H 1 64].map I from rfl,qE hn _ (by simp),Option.bind_some]
 by_cases h0:ZI [inR W 1 64,inR H 1 64]=0
 ·obtain ⟨h1,h2⟩:=zO h0
  have hw:=ER h1
  have hh:=ER h2
  rw [if_pos h0,if_pos (wB hw hh)]
  by_cases hl:((bs.map Qq).length:Int)=W * H
  ·rw [if_pos hl,wL hn bs hb,Option.bind_some]
   refine ⟨_,rfl,fun h=>⟨hw,hh,by rw [List.length_map] at hl;exact hl,hb,yG h⟩⟩
  ·rw [if_neg hl]
   exact ⟨2,rfl,fun h=>by cases h⟩
 ·rw [if_neg h0]
  exact ⟨_,rfl,fun h=>absurd h h0⟩
theorem Vg {S E:Type} {L:S→Option (S⊕E)} (st:Nat→S) (m:Nat) {e:E} (h1:∀ i,i < m→L (st i)=some (.inl (st (i+1)))) (h2:L (st m)=some (.inr e)) {n:Nat} (hn:m < n):QF L n (st 0)=some e:=by
 have key:∀ (d k i:Nat),d < k→i+d=m→QF L k (st i)=some e:=by
  intro d
  induction d with
  | zero =>
   intro k i hk hi
   obtain ⟨k,rfl⟩:∃ k',k=k'+1:=⟨k - 1,by omega⟩
   have:i=m:=by omega
   subst this
   exact wx h2
  | succ d ih =>
   intro k i hk hi
   obtain ⟨k,rfl⟩:∃ k',k=k'+1:=⟨k - 1,by omega⟩
   rw [uv (h1 i (by omega))]
   exact ih k (i+1) (by omega) (by omega)
 exact key m n 0 hn (by omega)
theorem Qda {n:Nat} (hn:300≤n) (ms:List Int) (hm:ms.length≤101):QA n (ms.map I)=some (ZI ms):=by
 unfold QA
 exact qR (L:=fun a s=>WQ n a s) (fun a s=>by unfold WQ;rfl) hn hm
theorem QT {n:Nat} (hn:300≤n) (k:Nat) (hk:k≤101):QA n (List.replicate k (I 0))=some 0:=by
 have h:=Qda hn (List.replicate k (0:Int)) (by rw [List.length_replicate];exact hk)
 rw [List.map_replicate] at h
 rw [h]
 congr 1
 have:∀ k,ZI (List.replicate k (0:Int))=0:=by
  intro k
  induction k with
  | zero=>rfl
  | succ k ih=>rw [List.replicate_succ];unfold ZI;rw [if_pos rfl];exact ih
 exact this k
theorem Ug (n:Nat) (k:Int):Zu n false k=some 0:=rfl
theorem Zw (n:Nat) {x lo hi:Int} (h:lo≤x∧x≤hi):QE n x lo hi=some 0:=by
 unfold QE
 rw [if_neg (by omega),decide_eq_false (by omega),Ug,Option.bind_some]
theorem yE {b:Nat} (h:Proofs.YtfiigcbhiopagaaGreat.chk b=0) (n:Nat):ZH n b=some (lev b):=QaJ h n
def neg (b:Nat):Bool:=(FloatKind.format .f32).order b 0 == some .lt
theorem QeK {b:Nat} (h:chk b=0) (hb:neg b=false):0≤lev b:=by
 have h1:=Qcj h ws.1
 unfold neg at hb
 rw [show (FloatKind.format .f32).order b 0=some (compare (lev b) (lev 0)) from h1,ws.2] at hb
 by_cases hc:0≤lev b
 ·exact hc
 ·rw [Int.compare_eq_lt.2 (show lev b < 0 by omega)] at hb;cases hb
theorem Qck {b:Nat} (h:chk b=0) (hb:0≤lev b):neg b=false:=by
 have h1:=Qcj h ws.1
 unfold neg
 rw [show (FloatKind.format .f32).order b 0=some (compare (lev b) (lev 0)) from h1,ws.2]
 rcases Int.lt_or_eq_of_le hb with hc | hc
 ·rw [Int.compare_eq_gt.2 hc];rfl
 ·rw [← hc,Int.compare_eq_eq.2 rfl];rfl
def nG (s:Nat) (b:Nat):Nat⊕(Unit⊕Unit):=if neg b=true then .inr (.inl ()) else .inl (s+1)
theorem QdR:∀ (bs:List Nat) (s:Nat),K4 nG (fun _=>(.inr ():Unit⊕Unit)) bs s=(if bs.any neg=true then .inl () else .inr ())
 | [],s=>rfl
 | b::l,s=>by
  unfold K4 nG
  rw [List.any_cons]
  cases h:neg b with
  | true=>simp
  | false=>simp only [Bool.false_or,Bool.false_eq_true,if_false];exact QdR l (s+1)
theorem wO {n:Nat} (hn:300≤n) (W H:Int) (bs:List Nat) (hb:bs.length≤101):QF (QZ n W H (bs.map Qq)) n 0=some (if bs.any neg=true then .inl () else .inr ()):=by
 have h:=Vh (step:=QZ n W H (bs.map Qq)) nG (fun _=>(.inr ():Unit⊕Unit)) (fun i _=>(i:Int)) bs (fun i s=>True)
  (fun i s x hx _=>by
   have hi:=(List.getElem?_eq_some_iff.1 hx).1
   unfold nG QZ
   rw [if_pos (Y0 hx),WW unff hx,Option.bind_some]
   by_cases h0:neg x=true
   ·rw [if_pos h0]
    exact if_pos h0
   ·rw [if_neg h0]
    refine ⟨(if_neg h0).trans ?_,trivial⟩
    rw [if_pos (by unfold Qb;omega)]
    rfl)
  (fun s _=>by unfold QZ;rw [if_neg (by simp)]) (k:=n) (s:=0) trivial (by omega)
 rw [QdR] at h
 exact h
theorem QcF {n:Nat} (hn:300≤n) {W H:Int} {bs:List Nat} (h:MapOk W H bs):Zd n W H (bs.map Qq)=some 0:=by
 have hc:jt bs=0:=by
  have:∀ l:List Nat,(∀ b,b∈l→chk b=0)→jt l=0:=by
   intro l
   induction l with
   | nil=>intro _;rfl
   | cons b l ih =>
    intro hl
    unfold jt
    rw [if_pos (hl b List.mem_cons_self)]
    exact ih fun c hc=>hl c (List.mem_cons_of_mem _ hc)
  exact this bs h.chk
 unfold Zd ZJ
 rw [KA,Option.bind_some,Option.bind_some,KA,Option.bind_some,Option.bind_some,wy h.w,wy h.h,show ([I 0,I 0]:List D)=[0,0].map I from rfl,qE hn _ (by simp),Option.bind_some,if_pos (by rfl),if_pos (wB h.w h.h),if_pos (by rw [List.length_map];exact h.len),wL hn bs h.few,hc,Option.bind_some]
structure ImgOk (W H:Int) (bs:List Nat):Prop where
 map:MapOk W H bs
 pos:∀ b,b∈bs→0≤lev b
theorem ImgOk.noneg {W H:Int} {bs:List Nat} (h:ImgOk W H bs):¬ bs.any neg=true:=by
 rw [List.any_eq_true]
 rintro ⟨b,hb,hn⟩
 rw [Qck (h.map.chk b hb) (h.pos b hb)] at hn
 cases hn
theorem Qao {n:Nat} (hn:300≤n) {W H:Int} {bs:List Nat} (h:ImgOk W H bs):QH n W H (bs.map Qq)=some 0:=by
 unfold QH
 rw [QcF hn h.map,Option.bind_some,if_pos rfl,wO hn W H bs h.map.few,if_neg h.noneg,Option.bind_some]
theorem QdE {n:Nat} (hn:300≤n) (W H:Int) (hW:W≤4) (hH:H≤4) (bs:List Nat):∃ e,QH n W H (bs.map Qq)=some e∧(e=0→ImgOk W H bs):=by
 unfold QH
 by_cases hb:bs.length≤101
 ·obtain ⟨e,h1,h2⟩:=QcG hn W H bs hb
  rw [h1,Option.bind_some]
  by_cases h0:e=0
  ·rw [if_pos h0,wO hn W H bs hb,Option.bind_some]
   by_cases ha:bs.any neg=true
   ·rw [if_pos ha]
    exact ⟨3,rfl,fun h=>by cases h⟩
   ·rw [if_neg ha]
    refine ⟨0,rfl,fun _=>⟨h2 h0,fun b hb=>QeK ((h2 h0).chk b hb) ?_⟩⟩
    cases hq:neg b with
    | false=>rfl
    | true=>exact absurd (List.any_eq_true.2 ⟨b,hb,hq⟩) ha
  ·rw [if_neg h0]
   exact ⟨e,rfl,fun h=>absurd h h0⟩
 ·have:∃ e,Zd n W H (bs.map Qq)=some e∧e≠0:=by
   unfold Zd ZJ
   rw [KA,Option.bind_some,Option.bind_some,KA,Option.bind_some,Option.bind_some,show ([I (inR W 1 64),I (inR H 1 64)]:List D)=[inR W 1 64,inR H 1 64].map I from rfl,qE hn _ (by simp),Option.bind_some]
   by_cases h0:ZI [inR W 1 64,inR H 1 64]=0
   ·obtain ⟨h1,h2⟩:=zO h0
    have hw:=ER h1
    have hh:=ER h2
    have hle:W * H≤4 * 4:=Int.mul_le_mul hW hH (by omega) (by omega)
    rw [if_pos h0,if_pos (wB hw hh),if_neg (by rw [List.length_map];omega)]
    exact ⟨2,rfl,by decide⟩
   ·rw [if_neg h0]
    exact ⟨_,rfl,h0⟩
  obtain ⟨e,h1,h2⟩:=this
  rw [h1,Option.bind_some,if_neg h2]
  exact ⟨e,rfl,fun h=>absurd h h2⟩
theorem QdZ {n:Nat} (hn:300≤n) {W H:Int} {bs:List Nat} (h:ImgOk W H bs):ZE n (bs.map Qq)=some false:=by
 unfold ZE WF
 have hf:=h.map.few
 rw [jL (L:=Q4 n (bs.map Qq)) bs ?_ ?_ (by omega),Option.bind_some]
 ·rfl
 ·intro i x hx
  have hi:=(List.getElem?_eq_some_iff.1 hx).1
  have hm:=List.mem_of_getElem? hx
  unfold Q4 Wx
  rw [if_pos (Y0 hx),WW unff hx,Option.bind_some,Option.bind_some,if_neg (by rw [show ((FloatKind.format .f32).order x 0 == some .lt)=neg x from rfl,Qck (h.map.chk x hm) (h.pos x hm)];decide),if_pos (by unfold Qb;omega)]
 ·unfold Q4
  rw [if_neg (by simp)]
theorem uH {n:Nat} (hn:300≤n) {W H:Int} {bs:List Nat} (h:ImgOk W H bs):ZB n W H (bs.map Qq)=some 0:=by
 unfold ZB
 rw [zU hn h.map,Option.bind_some,QdZ hn h,Option.bind_some,Ug,Option.bind_some,show ([I 0,I 0]:List D)=List.replicate 2 (I 0) from rfl,QT hn 2 (by omega),Option.bind_some]
theorem Qa3 {n:Nat} (hn:300≤n) {W H:Int} {bs cs:List Nat} (h:ImgOk W H bs) (h2:ImgOk W H cs):Zh n W H (bs.map Qq) W H (cs.map Qq)=some 0:=by
 unfold Zh
 rw [uH hn h,Option.bind_some,uH hn h2,Option.bind_some,show ([I 0,I 0]:List D)=List.replicate 2 (I 0) from rfl,QT hn 2 (by omega),Option.bind_some,if_pos rfl]
 have e:(!((W == W) && ((H == H) && true)))=false:=by simp
 rw [e,Ug,Option.bind_some]
theorem qY {n:Nat} (hn:300≤n) {W H:Int} {bs cs:List Nat} (h:ImgOk W H bs) (h2:ImgOk W H cs):QV n W H (bs.map Qq) W H (cs.map Qq) 3 49=some 0:=by
 unfold QV
 rw [Qa3 hn h h2,Option.bind_some,Zw n ⟨by omega,by omega⟩,Option.bind_some,Zw n ⟨by omega,by omega⟩,Option.bind_some,show ([I 0,I 0,I 0]:List D)=List.replicate 3 (I 0) from rfl,QT hn 3 (by omega),Option.bind_some]
theorem Qch:smp 1=1031798784:=by decide
theorem Qci:chk 1031798784=0:=Qch ▸ (qB (k:=1) ⟨by omega,by omega⟩).1
theorem QeO:lev 1031798784=1:=Qch ▸ (qB (k:=1) ⟨by omega,by omega⟩).2.1
theorem Qft {n:Nat} (hn:300≤n):Wv n 1031798784=some 0:=by
 unfold Wv
 have e:((FloatKind.format .f32).order 1031798784 0 == some .lt || (FloatKind.format .f32).order 1031798784 0 == some .eq)=false:=by decide
 rw [Qa4 hn Qci,Option.bind_some,e,Ug,Option.bind_some,show ([I 0,I 0]:List D)=List.replicate 2 (I 0) from rfl,QT hn 2 (by omega),Option.bind_some]
theorem E3 {n:Nat} (hn:300≤n) {W H:Int} {bs:List Nat} (h:ImgOk W H bs):QG n W H (bs.map Qq) 1031798784=some 0:=by
 unfold QG
 rw [uH hn h,Option.bind_some,Qft hn,Option.bind_some,show ([I 0,I 0]:List D)=List.replicate 2 (I 0) from rfl,QT hn 2 (by omega),Option.bind_some]
def E2 (ls:List Int) (W H fx fy:Nat) (i k:Nat):Int :=
 if (fx≤k % 10∧k % 10 < fx+W)∧(fy≤k / 10∧k / 10 < fy+H)∧(k / 10 - fy) * W+(k % 10 - fx) < i then ls.getD ((k / 10 - fy) * W+(k % 10 - fx)) 0 else 0
def uy (ls:List Int) (W H fx fy:Nat) (i:Nat):List Int:=(List.range 100).map (E2 ls W H fx fy i)
def grd (ls:List Int) (W H fx fy:Nat):List Int:=uy ls W H fx fy (W * H)
theorem UI (ls:List Int) (W H fx fy i:Nat):(uy ls W H fx fy i).length=100:=by unfold uy;rw [List.length_map,List.length_range]
theorem ES (ls:List Int) (W H fx fy i:Nat) {k:Nat} (hk:k < 100):(uy ls W H fx fy i)[k]?=some (E2 ls W H fx fy i k):=by
 unfold uy;rw [List.getElem?_map,List.getElem?_range hk];rfl
theorem QcV (ls:List Int) (W H fx fy:Nat):uy ls W H fx fy 0=List.replicate 100 0:=by
 apply List.ext_getElem?
 intro k
 by_cases hk:k < 100
 ·rw [ES _ _ _ _ _ _ hk,List.getElem?_replicate,if_pos hk]
  unfold E2
  rw [if_neg (by omega)]
 ·rw [List.getElem?_eq_none (by rw [UI];omega),List.getElem?_eq_none (by rw [List.length_replicate];omega)]
theorem Qem {ls:List Int} {W H fx fy i:Nat} (hW:1≤W∧W≤4) (hH:H≤4) (hx:fx+W≤10) (hy:fy+H≤10) (hi:i < W * H) {k:Nat} (hk:k < 100) :
  E2 ls W H fx fy (i+1) k=if (fy+i / W) * 10+(fx+i % W)=k then ls.getD i 0 else E2 ls W H fx fy i k:=by
 have key:∀ j:Nat,(k / 10 - fy) * W+(k % 10 - fx)=j→((fx≤k % 10∧k % 10 < fx+W)∧(fy≤k / 10∧k / 10 < fy+H))→((fy+i / W) * 10+(fx+i % W)=k↔j=i):=by
  intro j hj hb
  have hw:W=1 ∨ W=2 ∨ W=3 ∨ W=4:=by omega
  rcases hw with rfl | rfl | rfl | rfl <;> constructor <;> intro h <;> omega
 have key2:¬ ((fx≤k % 10∧k % 10 < fx+W)∧(fy≤k / 10∧k / 10 < fy+H))→(fy+i / W) * 10+(fx+i % W)≠k:=by
  intro hb h
  apply hb
  have hw:W=1 ∨ W=2 ∨ W=3 ∨ W=4:=by omega
  rcases hw with rfl | rfl | rfl | rfl <;> omega
 unfold E2
 by_cases hb:(fx≤k % 10∧k % 10 < fx+W)∧(fy≤k / 10∧k / 10 < fy+H)
 ·obtain ⟨j,hj⟩:∃ j,(k / 10 - fy) * W+(k % 10 - fx)=j:=⟨_,rfl⟩
  have hk1:=key j hj hb
  rw [hj]
  by_cases he:(fy+i / W) * 10+(fx+i % W)=k
  ·have:=hk1.1 he
   subst this
   rw [if_pos he,if_pos ⟨hb.1,hb.2,by omega⟩]
  ·have hne:j≠i:=fun h=>he (hk1.2 h)
   rw [if_neg he]
   by_cases hlt:j < i
   ·rw [if_pos ⟨hb.1,hb.2,by omega⟩,if_pos ⟨hb.1,hb.2,hlt⟩]
   ·rw [if_neg (fun h=>by omega),if_neg (fun h=>by omega)]
 ·rw [if_neg (key2 hb),if_neg (fun h=>hb ⟨h.1,h.2.1⟩),if_neg (fun h=>hb ⟨h.1,h.2.1⟩)]
theorem QcW {ls:List Int} {W H fx fy i:Nat} (hW:1≤W∧W≤4) (hH:H≤4) (hx:fx+W≤10) (hy:fy+H≤10) (hi:i < W * H) :
  uy ls W H fx fy (i+1)=(uy ls W H fx fy i).set ((fy+i / W) * 10+(fx+i % W)) (ls.getD i 0):=by
 apply List.ext_getElem?
 intro k
 rw [List.getElem?_set,UI]
 by_cases hk:k < 100
 ·rw [ES _ _ _ _ _ _ hk,ES _ _ _ _ _ _ hk,Qem hW hH hx hy hi hk]
  by_cases he:(fy+i / W) * 10+(fx+i % W)=k
  ·rw [if_pos he,if_pos he,if_pos (by omega)]
  ·rw [if_neg he,if_neg he]
 ·rw [List.getElem?_eq_none (by rw [UI];omega),List.getElem?_eq_none (by rw [UI];omega)]
  by_cases he:(fy+i / W) * 10+(fx+i % W)=k
  ·rw [if_pos he,if_neg (by omega)]
  ·rw [if_neg he]
theorem QeM {W H i:Nat} (hW:1≤W∧W≤4) (hH:H≤4) (hi:i < W * H):i / W < H∧i % W < W:=by
 have hw:W=1 ∨ W=2 ∨ W=3 ∨ W=4:=by omega
 rcases hw with rfl | rfl | rfl | rfl <;> omega
theorem ye {n:Nat} (hn:300≤n) {W H fx fy:Nat} {bs:List Nat} (h:MapOk W H bs) (hW:W≤4) (hH:H≤4) (hx:fx+W≤10) (hy:fy+H≤10) :
  Z4 n W H (bs.map Qq) 10 10 fx fy=some (10,10,((grd (bs.map lev) W H fx fy).map smp).map Qq,0):=by
 have hw:=h.w
 have hh:=h.h
 have hlen:bs.length=W * H:=by have:=h.len;exact_mod_cast this
 have hWH:W * H≤4 * 4:=Nat.mul_le_mul hW hH
 have hb:∀ k,k∈grd (bs.map lev) W H fx fy→-16384≤k∧k≤16384:=by
  intro k hk
  obtain ⟨j,hj,rfl⟩:=List.mem_map.1 hk
  unfold E2
  split
  ·rw [List.getD_eq_getElem?_getD,List.getElem?_map]
   cases hq:bs[(j / 10 - fy) * W+(j % 10 - fx)]? with
   | none=>simp
   | some b=>simpa using yq (h.chk b (List.mem_of_getElem? hq))
  ·omega
 unfold Z4
 rw [zU hn h,Option.bind_some,qz,show inR 10 1 64=0 from rfl,Option.bind_some,Option.bind_some,show ([I 0,I 0,I 0]:List D)=[0,0,0].map I from rfl,Xd hn _ (by simp),show ZI [0,0,0]=0 from rfl,Option.bind_some,if_pos rfl,if_neg (by omega),
  if_pos (by unfold Qb;omega),if_neg (by omega),if_neg (by omega),if_pos (by unfold Qb;omega),if_neg (by omega),QcS hn h,Option.bind_some]
 unfold VN
 rw [if_pos (by unfold Qb;omega),if_pos ⟨by omega,by omega,by omega,by omega⟩,Option.bind_some]
 dsimp only
 rw [if_pos (by unfold Qb;have:((W * H:Nat):Int)=(W:Int) * (H:Int):=Int.natCast_mul W H;omega)]
 have hl:=Vg (L:=ZK n W H (bs.map Qq) 10 10 fx fy 0 0 0 0 (W,H,bs.map levD) (10,10,List.replicate (Int.toNat (10 * 10)) (I 0))) (fun i=>((i:Int),(uy (bs.map lev) W H fx fy i).map I)) (W * H) (e:=(grd (bs.map lev) W H fx fy).map I)
  (fun i hi=>by
   obtain ⟨m1,m2⟩:=QeM (H:=H) (i:=i) ⟨by omega,hW⟩ hH hi
   have e1:Int.tmod (i:Int) (W:Int)=((i % W:Nat):Int):=by rw [Int.tmod_eq_emod_of_nonneg (by omega)];rfl
   have e2:Int.tdiv (i:Int) (W:Int)=((i / W:Nat):Int):=by rw [Int.tdiv_eq_ediv_of_nonneg (by omega)];rfl
   have p1:(0:Int)≤((i / W:Nat):Int):=Int.natCast_nonneg _
   have p2:(0:Int)≤((i % W:Nat):Int):=Int.natCast_nonneg _
   have hget:bs[i]?=some bs[i]:=List.getElem?_eq_getElem (by omega)
   have hnth:(nth (bs.map levD) (Int.toNat (i:Int))).bind un_i=some ((bs.map lev).getD i 0):=by
    rw [ui hget,List.getD_eq_getElem?_getD,List.getElem?_map,hget];rfl
   unfold ZK
   dsimp only
   rw [if_pos (by have:((W * H:Nat):Int)=(W:Int) * (H:Int):=Int.natCast_mul W H;omega),if_pos (by omega),e1,e2,if_pos (by unfold Qb;omega),if_pos (by unfold Qb;omega),if_pos (by unfold Qb;omega)]
   unfold Wt
   have e3:((fy:Int)+((i / W:Nat):Int)) * 10+((fx:Int)+((i % W:Nat):Int))=(((fy+i / W) * 10+(fx+i % W):Nat):Int):=by omega
   rw [if_pos (by unfold Qb;omega),if_pos (by unfold Qb;omega),e3,Option.bind_some,List.length_map,if_pos ⟨by omega,by omega⟩,hnth,Option.bind_some,List.length_map,UI,if_pos ⟨by omega,by omega⟩,Int.toNat_natCast,if_pos (by omega),if_pos (by unfold Qb;omega),
    QcW ⟨by omega,hW⟩ hH hx hy hi,List.map_set]
   rfl)
  (by
   unfold ZK
   dsimp only
   rw [if_neg (by have:((W * H:Nat):Int)=(W:Int) * (H:Int):=Int.natCast_mul W H;omega)]
   rfl) (n:=n) (by omega)
 rw [QcV,List.map_replicate] at hl
 rw [show (List.replicate (Int.toNat (10 * 10)) (I 0):List D)=List.replicate 100 (I 0) from rfl] at hl ⊢
 have hl' : QF (ZK n W H (bs.map Qq) 10 10 fx fy 0 0 0 0 (W,H,bs.map levD) (10,10,List.replicate 100 (I 0))) n (0,List.replicate 100 (I 0))=_:=hl
 rw [hl',Option.bind_some,QeN hn 10 10 (by unfold grd;rw [UI];omega) hb,Option.bind_some]
structure Lvl (g:List Int):Prop where
 len:g.length=100
 bnd:∀ k,k∈g→0≤k∧k≤16384
theorem Lvl.get {g:List Int} (h:Lvl g) (i:Nat):0≤g.getD i 0∧g.getD i 0≤16384:=by
 rw [List.getD_eq_getElem?_getD]
 cases hq:g[i]? with
 | none=>simp
 | some x=>simpa using h.bnd x (List.mem_of_getElem? hq)
theorem Lvl.at {g:List Int} (h:Lvl g) {i:Nat} (hi:i < 100):g[i]?=some (g.getD i 0):=by
 rw [List.getD_eq_getElem?_getD,List.getElem?_eq_getElem (by rw [h.len];exact hi)];rfl
def img (g:List Int):List D:=(g.map smp).map Qq
theorem Uc {g:List Int} (h:Lvl g):(img g).length=100:=by unfold img;rw [List.length_map,List.length_map,h.len]
theorem Lvl.img {g:List Int} (h:Lvl g):ImgOk 10 10 (g.map smp) where
 map:={
  w:=⟨by omega,by omega⟩
  h:=⟨by omega,by omega⟩
  len:=by rw [List.length_map,h.len];rfl
  few:=by rw [List.length_map,h.len];omega
  chk:=fun b hb=>by
   obtain ⟨k,hk,rfl⟩:=List.mem_map.1 hb
   have:=h.bnd k hk
   exact (qB ⟨by omega,by omega⟩).1 }
 pos:=fun b hb=>by
  obtain ⟨k,hk,rfl⟩:=List.mem_map.1 hb
  have:=h.bnd k hk
  rw [(qB ⟨by omega,by omega⟩).2.1];omega
theorem uD {g:List Int} (h:Lvl g) {i:Nat} (hi:i < 100):el VQ (img g) (i:Int)=some (smp (g.getD i 0)):=by
 unfold YtfiigcbhiopagaaGreat.img
 exact WW unff (by rw [List.getElem?_map,h.at hi];rfl)
theorem Xe {n:Nat} {k:Int} (h:0≤k∧k≤16384):ZH n (smp k)=some k:=by
 have q:=qB (k:=k) ⟨by omega,by omega⟩
 rw [yE q.1 n,q.2.1]
def inn (sx sy:Int) (k:Nat):Prop:=(0≤((k % 10:Nat):Int)+sx∧((k % 10:Nat):Int)+sx < 10)∧(0≤((k / 10:Nat):Int)+sy∧((k / 10:Nat):Int)+sy < 10)
instance (sx sy:Int) (k:Nat):Decidable (inn sx sy k):=by unfold inn;exact inferInstance
def idx (sx sy:Int) (k:Nat):Nat:=((((k / 10:Nat):Int)+sy) * 10+(((k % 10:Nat):Int)+sx)).toNat
def trm (ga gb:List Int) (sx sy:Int) (k:Nat):Int:=if inn sx sy k then (ga.getD k 0 - gb.getD (idx sx sy k) 0) * (ga.getD k 0 - gb.getD (idx sx sy k) 0) else 0
def sm (ga gb:List Int) (sx sy:Int):Nat→Int
 | 0=>0
 | i+1=>sm ga gb sx sy i+trm ga gb sx sy i
def ct (sx sy:Int):Nat→Int
 | 0=>0
 | i+1=>ct sx sy i+if inn sx sy i then 1 else 0
theorem Qdx {a b:Int} (ha:0≤a∧a≤16384) (hb:0≤b∧b≤16384):0≤(a - b) * (a - b)∧(a - b) * (a - b)≤268435456:=by
 have h1:(a - b) * (a - b)=(a - b).natAbs * (a - b).natAbs:=by
  rw [← Int.natCast_mul,← Int.natAbs_mul,Int.natAbs_of_nonneg (by
   rcases Int.le_total 0 (a - b) with h | h
   ·exact Int.mul_nonneg h h
   ·exact Int.mul_nonneg_of_nonpos_of_nonpos h h)]
 have h2:(a - b).natAbs≤16384:=by omega
 have h3:(a - b).natAbs * (a - b).natAbs≤16384 * 16384:=Nat.mul_le_mul h2 h2
 rw [h1];omega
theorem kN {ga gb:List Int} (ha:Lvl ga) (hb:Lvl gb) (sx sy:Int) (k:Nat):0≤trm ga gb sx sy k∧trm ga gb sx sy k≤268435456:=by
 unfold trm
 split
 ·exact Qdx (ha.get _) (hb.get _)
 ·omega
theorem wH {ga gb:List Int} (ha:Lvl ga) (hb:Lvl gb) (sx sy:Int):∀ i:Nat,0≤sm ga gb sx sy i∧sm ga gb sx sy i≤268435456 * (i:Int)
 | 0=>⟨Int.le_refl _,by show (0:Int)≤_;omega⟩
 | i+1=>by
  have ih:=wH ha hb sx sy i
  have h:=kN ha hb sx sy i
  show 0≤sm ga gb sx sy i+trm ga gb sx sy i∧sm ga gb sx sy i+trm ga gb sx sy i≤_
  omega
theorem GF (sx sy:Int):∀ i:Nat,0≤ct sx sy i∧ct sx sy i≤(i:Int)
 | 0=>⟨Int.le_refl _,Int.le_refl _⟩
 | i+1=>by
  have ih:=GF sx sy i
  show 0≤ct sx sy i+(if inn sx sy i then 1 else 0)∧ct sx sy i+(if inn sx sy i then 1 else 0)≤_
  split <;> omega
theorem Qds {n:Nat} (hn:300≤n) {ga gb:List Int} (ha:Lvl ga) (hb:Lvl gb) {sx sy:Int} (hx : -1000≤sx∧sx≤1000) (hy : -1000≤sy∧sy≤1000) :
  V8 n 10 10 (img ga) 10 10 (img gb) sx sy=some (sx,sy,sm ga gb sx sy 100,ct sx sy 100):=by
 unfold V8
 have h:=Vg (L:=Wu n 10 10 (img ga) 10 10 (img gb) sx sy) (fun i=>((i:Int),sm ga gb sx sy i,ct sx sy i)) 100 (e:=(sm ga gb sx sy 100,ct sx sy 100))
  (fun i hi=>by
   have e1:Int.tmod (i:Int) 10=((i % 10:Nat):Int):=by rw [Int.tmod_eq_emod_of_nonneg (by omega)];rfl
   have e2:Int.tdiv (i:Int) 10=((i / 10:Nat):Int):=by rw [Int.tdiv_eq_ediv_of_nonneg (by omega)];rfl
   have hs:=wH ha hb sx sy i
   have hc:=GF sx sy i
   have ht:=kN ha hb sx sy i
   have hsucc:sm ga gb sx sy (i+1)=sm ga gb sx sy i+trm ga gb sx sy i:=rfl
   have hcsucc:ct sx sy (i+1)=ct sx sy i+if inn sx sy i then 1 else 0:=rfl
   unfold Wu VB
   dsimp only
   rw [if_pos (by rw [Uc ha];omega),uD ha hi,Option.bind_some,if_pos (by decide),e1,e2,if_pos (by unfold Qb;omega),Xe (ha.get i),Option.bind_some,if_pos (by unfold Qb;omega),if_pos (by unfold Qb;omega),Option.bind_some]
   dsimp only
   have hskip:¬ inn sx sy i→sm ga gb sx sy (i+1)=sm ga gb sx sy i∧ct sx sy (i+1)=ct sx sy i:=by
    intro hno
    rw [hsucc,hcsucc,if_neg hno]
    unfold trm
    rw [if_neg hno]
    omega
   have hnext:((i+1:Nat):Int)=(i:Int)+1:=rfl
   by_cases a1:((i % 10:Nat):Int)+sx < 0
   ·obtain ⟨q1,q2⟩:=hskip (fun h=>by unfold inn at h;omega)
    rw [if_pos a1,if_pos (by unfold Qb;omega),q1,q2,hnext]
   ·rw [if_neg a1]
    by_cases a2:((i % 10:Nat):Int)+sx ≥ 10
    ·obtain ⟨q1,q2⟩:=hskip (fun h=>by unfold inn at h;omega)
     rw [if_pos a2,if_pos (by unfold Qb;omega),q1,q2,hnext]
    ·rw [if_neg a2]
     by_cases a3:((i / 10:Nat):Int)+sy < 0
     ·obtain ⟨q1,q2⟩:=hskip (fun h=>by unfold inn at h;omega)
      rw [if_pos a3,if_pos (by unfold Qb;omega),q1,q2,hnext]
     ·rw [if_neg a3]
      by_cases a4:((i / 10:Nat):Int)+sy ≥ 10
      ·obtain ⟨q1,q2⟩:=hskip (fun h=>by unfold inn at h;omega)
       rw [if_pos a4,if_pos (by unfold Qb;omega),q1,q2,hnext]
      ·have hin:inn sx sy i:=by unfold inn;omega
       have hix:(((i / 10:Nat):Int)+sy) * 10+(((i % 10:Nat):Int)+sx)=((idx sx sy i:Nat):Int):=by unfold idx;omega
       have hlt:idx sx sy i < 100:=by unfold idx;omega
       have htr:trm ga gb sx sy i=(ga.getD i 0 - gb.getD (idx sx sy i) 0) * (ga.getD i 0 - gb.getD (idx sx sy i) 0):=by unfold trm;rw [if_pos hin]
       have g1:=ha.get i
       have g2:=hb.get (idx sx sy i)
       rw [if_neg a4,if_pos (by unfold Qb;omega),if_pos (by unfold Qb;omega),hix,uD hb hlt,Option.bind_some,Xe g2,Option.bind_some,if_pos (by unfold Qb;omega),← htr,if_pos (by unfold Qb;omega),if_pos (by unfold Qb;omega),if_pos (by unfold Qb;omega),
        if_pos (by unfold Qb;omega),hsucc,hcsucc,if_pos hin,hnext])
  (by
   unfold Wu
   dsimp only
   rw [if_neg (by rw [Uc ha];omega)]) (n:=n) (by omega)
 have h' : QF (Wu n 10 10 (img ga) 10 10 (img gb) sx sy) n (0,0,0)=_:=h
 rw [h',Option.bind_some]
theorem U4 (ls:List Int) (W H fx fy:Nat) {k:Nat} (hk:k < 100):(grd ls W H fx fy).getD k 0=E2 ls W H fx fy (W * H) k:=by
 rw [List.getD_eq_getElem?_getD];unfold grd;rw [ES _ _ _ _ _ _ hk];rfl
structure Two (W H fx fy gx gy:Nat) (sx sy:Int):Prop where
 hw:1≤W∧W≤4
 hh:1≤H∧H≤4
 hfx:3≤fx∧fx+W≤7
 hfy:3≤fy∧fy+H≤7
 hsx : -3≤sx∧sx≤3
 hsy : -3≤sy∧sy≤3
 hgx:(gx:Int)=fx+sx
 hgy:(gy:Int)=fy+sy
theorem jw {W H fx fy gx gy:Nat} {sx sy:Int} (t:Two W H fx fy gx gy sx sy) (ls:List Int) {k:Nat} (hk:k < 100) (hin:inn sx sy k):E2 ls W H gx gy (W * H) (idx sx sy k)=E2 ls W H fx fy (W * H) k:=by
 obtain ⟨⟨w1,w2⟩,⟨h1,h2⟩,⟨x1,x2⟩,⟨y1,y2⟩,⟨a1,a2⟩,⟨b1,b2⟩,g1,g2⟩:=t
 have e1:((idx sx sy k % 10:Nat):Int)=((k % 10:Nat):Int)+sx:=by unfold idx;unfold inn at hin;omega
 have e2:((idx sx sy k / 10:Nat):Int)=((k / 10:Nat):Int)+sy:=by unfold idx;unfold inn at hin;omega
 unfold E2
 generalize idx sx sy k % 10=jx at *
 generalize idx sx sy k / 10=jy at *
 have q1:k % 10 < 10:=by omega
 have q2:k / 10 < 10:=by omega
 unfold inn at hin
 generalize k % 10=kx at *
 generalize k / 10=ky at *
 by_cases h:(fx≤kx∧kx < fx+W)∧(fy≤ky∧ky < fy+H)
 ·have r1:jy - gy=ky - fy:=by omega
  have r2:jx - gx=kx - fx:=by omega
  rw [r1,r2]
  by_cases h3:(ky - fy) * W+(kx - fx) < W * H
  ·rw [if_pos ⟨⟨by omega,by omega⟩,⟨by omega,by omega⟩,h3⟩,if_pos ⟨h.1,h.2,h3⟩]
  ·rw [if_neg (fun q=>h3 q.2.2),if_neg (fun q=>h3 q.2.2)]
 ·rw [if_neg (fun q=>h ⟨⟨by omega,by omega⟩,⟨by omega,by omega⟩⟩),if_neg (fun q=>h ⟨q.1,q.2.1⟩)]
section
variable {W H fx fy gx gy:Nat} {sx sy:Int} {ls:List Int}
theorem yV (t:Two W H fx fy gx gy sx sy):∀ i:Nat,i≤100→sm (grd ls W H fx fy) (grd ls W H gx gy) sx sy i=0
 | 0,_=>rfl
 | i+1,hi=>by
  show sm _ _ sx sy i+trm _ _ sx sy i=0
  rw [yV t i (by omega)]
  unfold trm
  by_cases h:inn sx sy i
  ·have hj:idx sx sy i < 100:=by unfold idx;unfold inn at h;omega
   rw [if_pos h,U4 _ _ _ _ _ (show i < 100 by omega),U4 _ _ _ _ _ hj,jw t ls (by omega) h,Int.sub_self];rfl
  ·rw [if_neg h];rfl
theorem Jd (hl:∀ k,k∈ls→0≤k∧k≤16384) (W H fx fy:Nat):Lvl (grd ls W H fx fy) where
 len:=by unfold grd;rw [UI]
 bnd:=fun k hk=>by
  obtain ⟨j,hj,rfl⟩:=List.mem_map.1 hk
  unfold E2
  split
  ·rw [List.getD_eq_getElem?_getD]
   cases hq:ls[(j / 10 - fy) * W+(j % 10 - fx)]? with
   | none=>simp
   | some b=>simpa using hl b (List.mem_of_getElem? hq)
  ·omega
end
def trv (ga gb:List Int) (j:Nat):Int×Int×Int×Int:=(((j % 7:Nat):Int) - 3,((j / 7:Nat):Int) - 3,sm ga gb (((j % 7:Nat):Int) - 3) (((j / 7:Nat):Int) - 3) 100,ct (((j % 7:Nat):Int) - 3) (((j / 7:Nat):Int) - 3) 100)
theorem QfA:((List.range 49).all fun j=>decide (49≤ct (((j % 7:Nat):Int) - 3) (((j / 7:Nat):Int) - 3) 100))=true:=by kernel_rfl
theorem QbM {j:Nat} (hj:j < 49):49≤ct (((j % 7:Nat):Int) - 3) (((j / 7:Nat):Int) - 3) 100:=of_decide_eq_true (List.all_eq_true.1 QfA j (List.mem_range.2 hj))
theorem Qfi {ga gb:List Int} (ha:Lvl ga) (hb:Lvl gb) {j:Nat} (hj:j < 49):Gn (trv ga gb j):=by
 have h1:=wH ha hb (((j % 7:Nat):Int) - 3) (((j / 7:Nat):Int) - 3) 100
 have h2:=GF (((j % 7:Nat):Int) - 3) (((j / 7:Nat):Int) - 3) 100
 have h3:=QbM hj
 unfold Gn trv
 dsimp only
 refine ⟨⟨by omega,by omega⟩,⟨by omega,by omega⟩,⟨by omega,by omega⟩,⟨by omega,by omega⟩⟩
def trT (ga gb:List Int) (j:Nat):Tri:=if h:Gn (trv ga gb j) then ⟨trv ga gb j,h⟩ else default
theorem Qdu {ga gb:List Int} (ha:Lvl ga) (hb:Lvl gb) {j:Nat} (hj:j < 49):(trT ga gb j).1=trv ga gb j:=by
 unfold trT;rw [dif_pos (Qfi ha hb hj)]
def trs (ga gb:List Int):List Tri:=(List.range 49).map (trT ga gb)
def trD (ga gb:List Int) (j:Nat):D:=KY (trT ga gb j)
theorem Qbe (l:List Tri):XP (l.map KY)=some l:=by
 induction l with
 | nil=>rfl
 | cons t l ih =>
  have h:Qb4 (KY t)=some t:=by
   obtain ⟨⟨a,b,c,d⟩,h⟩:=t
   show (if h:Gn (a,b,c,d) then some (⟨(a,b,c,d),h⟩:Tri) else none)=_
   rw [dif_pos h]
  rw [List.map_cons]
  unfold XP
  rw [h,ih]
theorem Qfq {l:List D} (h:l≠[]):We l=false:=by
 cases l with
 | nil=>exact absurd rfl h
 | cons a l=>rfl
theorem EG {n:Nat} (hn:300≤n) {ga gb:List Int} (ha:Lvl ga) (hb:Lvl gb):Zl n 10 10 (img ga) 10 10 (img gb) 3 49=some ((V9 (trs ga gb)).map KY):=by
 have inner:∀ y:Nat,y < 7→QF (Q8 n 10 10 (img ga) 10 10 (img gb) 3 49 ((y:Int),(List.range (7 * y)).map (trD ga gb))) n (0,(List.range (7 * y)).map (trD ga gb))=some ((List.range (7 * (y+1))).map (trD ga gb)):=by
  intro y hy
  have h:=Vg (L:=Q8 n 10 10 (img ga) 10 10 (img gb) 3 49 ((y:Int),(List.range (7 * y)).map (trD ga gb))) (fun x=>((x:Int),(List.range (7 * y+x)).map (trD ga gb))) 7 (e:=(List.range (7 * y+7)).map (trD ga gb))
   (fun x hx=>by
    have j1:(7 * y+x) % 7=x:=by omega
    have j2:(7 * y+x) / 7=y:=by omega
    have hj:7 * y+x < 49:=by omega
    have hv:=Qdu ha hb hj
    have hc:=QbM hj
    have hd:trD ga gb (7 * y+x)=.agg [I ((x:Int) - 3),I ((y:Int) - 3),I (sm ga gb ((x:Int) - 3) ((y:Int) - 3) 100),I (ct ((x:Int) - 3) ((y:Int) - 3) 100)]:=by
     unfold trD KY;rw [hv];unfold trv;dsimp only;rw [j1,j2]
    rw [j1,j2] at hc
    unfold Q8
    dsimp only
    rw [if_pos (by omega),if_pos (by unfold Qb;omega),if_pos (by unfold Qb;omega),Qds hn ha hb ⟨by omega,by omega⟩ ⟨by omega,by omega⟩,Option.bind_some]
    dsimp only
    rw [if_pos hc,if_pos (by unfold Wm;rw [List.length_map,List.length_range];omega),if_pos (by unfold Qb;omega),← hd,← Nat.add_assoc,List.range_succ,List.map_append]
    rfl)
   (by unfold Q8;dsimp only;rw [if_neg (by omega)]) (n:=n) (by omega)
  exact h
 unfold Zl
 have hl:=Vg (L:=QJ n 10 10 (img ga) 10 10 (img gb) 3 49) (fun y=>((y:Int),(List.range (7 * y)).map (trD ga gb))) 7 (e:=(List.range 49).map (trD ga gb))
  (fun y hy=>by
   unfold QJ
   dsimp only
   rw [if_pos (by omega),if_pos (by unfold Qb;omega),if_pos (by unfold Qb;omega),inner y hy,Option.bind_some,if_pos (by unfold Qb;omega)]
   rfl)
  (by unfold QJ;dsimp only;rw [if_neg (by omega)]) (n:=n) (by omega)
 have hl' : QF (QJ n 10 10 (img ga) 10 10 (img gb) 3 49) n (0,[])=_:=hl
 have he:(List.range 49).map (trD ga gb)=(trs ga gb).map KY:=by unfold trs;rw [List.map_map];rfl
 have hlen:(trs ga gb).length=49:=by unfold trs;rw [List.length_map,List.length_range]
 rw [if_pos (by unfold Qb;omega),if_pos (by unfold Qb;omega),hl',Option.bind_some,he,if_pos (Qfq (fun h=>by have:=congrArg List.length h;rw [List.length_map,hlen] at this;cases this)),qA (Qbe _) (by omega),Option.bind_some]
theorem Qd4 {n:Nat} (s c:Int):∀ (k:Nat) (a b:Int),0≤a→0≤b→b < k→(1≤a ∨ 1≤b)→∃ g,QF (Z7 n s c) (k+1) (a,b)=some g∧1≤g∧(b=0→g=a)∧(a=0→g=b)
 | 0,a,b,h1,h2,h3,h4=>by omega
 | k+1,a,b,h1,h2,h3,h4=>by
  by_cases h0:b=0
  ·refine ⟨a,wx (by unfold Z7;dsimp only;rw [if_pos h0]),by omega,fun _=>rfl,fun _=>by omega⟩
  ·have e:Int.tmod a b=a % b:=Int.tmod_eq_emod_of_nonneg h1
   have r1:=Int.emod_nonneg a h0
   have r2:=Int.emod_lt_of_pos a (show 0 < b by omega)
   obtain ⟨g,g1,g2,g3,g4⟩:=Qd4 (n:=n) s c k b (a % b) h2 r1 (by omega) (Or.inl (by omega))
   refine ⟨g,?_,g2,fun h=>absurd h h0,fun h=>g3 (by rw [h];exact Int.zero_emod b)⟩
   rw [uv (s':=(b,a % b)) (by unfold Z7;dsimp only;rw [if_neg h0,if_pos h0,e])]
   exact g1
theorem Qb5 {a g:Int} (ha:0≤a∧a≤1000000000000) (hg:1≤g):0≤Int.tdiv a g∧Int.tdiv a g≤1000000000000:=by
 rw [Int.tdiv_eq_ediv_of_nonneg ha.1]
 have h1:=Int.ediv_nonneg ha.1 (show 0≤g by omega)
 have h2:=Int.ediv_le_self g ha.1
 omega
theorem ym {n:Nat} (hn:300≤n) {s c:Int} (hs:0≤s∧s≤1000000000000) (hc:1≤c∧c≤100):∃ p q,Zr n s c=some (p,q)∧0≤p∧(s=0→p=0∧q=1):=by
 obtain ⟨m,rfl⟩:∃ m,n=m+1:=⟨n - 1,by omega⟩
 obtain ⟨g,g1,g2,g3,g4⟩:=Qd4 (n:=m+1) s c m s c hs.1 (by omega) (by omega) (Or.inr hc.1)
 have d1:=Qb5 hs g2
 have d2:=Qb5 (a:=c) ⟨by omega,by omega⟩ g2
 refine ⟨Int.tdiv s g,Int.tdiv c g,?_,d1.1,fun h=>?_⟩
 ·unfold Zr F_cloud_size
  have e:maxI s (IntKind.i64.wrap (0 - s))=s:=by
   rw [VP (n:=0 - s) (by unfold Qb;omega)];unfold maxI;split <;> omega
  rw [e,Option.bind_some,g1,Option.bind_some,if_pos (by omega),if_pos (by unfold Qb;omega),if_pos (by unfold Qb;omega)]
 ·subst h
  rw [g4 rfl,Int.zero_tdiv,Int.tdiv_self (by omega)]
  exact ⟨rfl,rfl⟩
theorem Qa1 {x t:Tri} (ht:t.1.2.2.1=0) (h:Ed x t≤0):x.1.2.2.1=0:=by
 obtain ⟨⟨x1,x2,x3,x4⟩,hx⟩:=x
 obtain ⟨⟨t1,t2,t3,t4⟩,ht'⟩:=t
 unfold Gn at hx ht'
 dsimp only at *
 subst ht
 by_cases h0:x3=0
 ·exact h0
 ·exfalso
  have q1:0≤x3:=hx.2.2.1.1
  have q2:1≤t4:=ht'.2.2.2.1
  have hp:0 < x3 * t4:=Int.mul_pos (by omega) (by omega)
  unfold Ed at h
  dsimp only at h
  have key:∀ a:Int,0 < a→sgn a 0=1:=fun a ha=>by unfold sgn;rw [if_neg (by omega),if_pos (by omega)]
  rw [Int.zero_mul,key _ hp] at h
  unfold or2 at h
  rw [if_neg (by omega)] at h
  omega
theorem QcU {l:List Tri} {t:Tri} (ht:t∈l) (h0:t.1.2.2.1=0):∃ x,(V9 l)[0]?=some x∧x.1.2.2.1=0:=by
 obtain ⟨h1,h2⟩:=UX l
 obtain ⟨i,hi,hti⟩:=List.mem_iff_getElem.1 (h1.mem_iff.2 ht)
 have hp:0 < (V9 l).length:=by omega
 have hy:(V9 l)[0]?=some (V9 l)[0]:=List.getElem?_eq_getElem hp
 refine ⟨_,hy,?_⟩
 by_cases hz:i=0
 ·subst hz;rw [hti];exact h0
 ·exact Qa1 h0 (h2 0 i (by omega) _ _ hy (by rw [List.getElem?_eq_getElem hi,hti]))
theorem QeQ {l:List Tri} {t x:Tri} (ht:t∈l) (h0:t.1.2.2.1=0) (hx:(V9 l)[1]?=some x) (hne:x.1.2.2.1≠0):(V9 l)[0]?=some t:=by
 obtain ⟨h1,h2⟩:=UX l
 obtain ⟨i,hi,hti⟩:=List.mem_iff_getElem.1 (h1.mem_iff.2 ht)
 have hg:(V9 l)[i]?=some t:=by rw [List.getElem?_eq_getElem hi,hti]
 by_cases hz:i=0
 ·subst hz;exact hg
 ·exfalso
  apply hne
  by_cases hz1:i=1
  ·subst hz1
   rw [hx] at hg
   cases hg
   exact h0
  ·exact Qa1 h0 (h2 1 i (by omega) _ _ hx hg)
theorem Qeh {l:List Tri} {i:Nat} {x:Tri} (h:(V9 l)[i]?=some x):el G8 ((V9 l).map KY) (i:Int)=some x.1:=by
 unfold el
 rw [if_pos (Int.natCast_nonneg i),Int.toNat_natCast,Gy,List.getElem?_map,h];rfl
section
variable {W H fx fy gx gy:Nat} {sx sy:Int} {ls:List Int}
theorem Qb6 {ga gb:List Int} (ha:Lvl ga) (hb:Lvl gb) {i:Nat} {x:Tri} (h:(V9 (trs ga gb))[i]?=some x):∃ j,j < 49∧x.1=trv ga gb j:=by
 have hm:=(UX (trs ga gb)).1.mem_iff.1 (List.mem_of_getElem? h)
 obtain ⟨j,hj,rfl⟩:=List.mem_map.1 hm
 have hj:=List.mem_range.1 hj
 exact ⟨j,hj,Qdu ha hb hj⟩
theorem QcC {n:Nat} (hn:300≤n) (t:Two W H fx fy gx gy sx sy) (hl:∀ k,k∈ls→0≤k∧k≤16384):∃ x y p q,
  Zs n 10 10 (img (grd ls W H fx fy)) 10 10 (img (grd ls W H gx gy)) 3 49=some (x,y,0,1,0)∧Vp n 10 10 (img (grd ls W H fx fy)) 10 10 (img (grd ls W H gx gy)) 3 49=some (p,q,0) ∧
  (-3≤x∧x≤3)∧(-3≤y∧y≤3)∧0≤p∧(p≠0→x=sx∧y=sy):=by
 have ha:=Jd hl W H fx fy
 have hb:=Jd hl W H gx gy
 obtain ⟨ga,hga⟩:∃ ga,grd ls W H fx fy=ga:=⟨_,rfl⟩
 obtain ⟨gb,hgb⟩:∃ gb,grd ls W H gx gy=gb:=⟨_,rfl⟩
 have hz:=yV (ls:=ls) t 100 (Nat.le_refl _)
 rw [hga] at ha;rw [hgb] at hb
 rw [hga,hgb] at hz
 rw [hga,hgb]
 have hsx:=t.hsx
 have hsy:=t.hsy
 obtain ⟨j,hj,jx,jy⟩:∃ j:Nat,j < 49∧((j % 7:Nat):Int) - 3=sx∧((j / 7:Nat):Int) - 3=sy:=⟨((sy+3) * 7+(sx+3)).toNat,by omega,by omega,by omega⟩
 have hv:=Qdu ha hb hj
 have hmem:trT ga gb j∈trs ga gb:=List.mem_map.2 ⟨j,List.mem_range.2 hj,rfl⟩
 have h0:(trT ga gb j).1.2.2.1=0:=by rw [hv];unfold trv;dsimp only;rw [jx,jy];exact hz
 have hlen:(V9 (trs ga gb)).length=49:=by
  have:=(UX (trs ga gb)).1.length_eq
  rw [this];unfold trs;rw [List.length_map,List.length_range]
 obtain ⟨x,hx,hx0⟩:=QcU hmem h0
 obtain ⟨x1,hx1⟩:∃ x1,(V9 (trs ga gb))[1]?=some x1:=⟨_,List.getElem?_eq_getElem (by omega)⟩
 obtain ⟨i,hi,hxi⟩:=Qb6 ha hb hx
 have hok:=x.2
 have hok1:=x1.2
 unfold Gn at hok hok1
 have hc:1≤x.1.2.2.2∧x.1.2.2.2≤100:=by
  have:=GF (((i % 7:Nat):Int) - 3) (((i / 7:Nat):Int) - 3) 100
  refine ⟨hok.2.2.2.1,?_⟩
  rw [hxi];unfold trv;dsimp only;omega
 obtain ⟨i1,hi1,hxi1⟩:=Qb6 ha hb hx1
 have hc1:1≤x1.1.2.2.2∧x1.1.2.2.2≤100:=by
  have:=GF (((i1 % 7:Nat):Int) - 3) (((i1 / 7:Nat):Int) - 3) 100
  refine ⟨hok1.2.2.2.1,?_⟩
  rw [hxi1];unfold trv;dsimp only;omega
 obtain ⟨p0,q0,l1,l2,l3⟩:=ym hn (s:=x.1.2.2.1) (c:=x.1.2.2.2) hok.2.2.1 hc
 obtain ⟨rfl,rfl⟩:=l3 hx0
 obtain ⟨p,q,m1,m2,m3⟩:=ym hn (s:=x1.1.2.2.1) (c:=x1.1.2.2.2) hok1.2.2.1 hc1
 refine ⟨x.1.1,x.1.2.1,p,q,?_,?_,?_,?_,m2,fun hp=>?_⟩
 ·unfold Zs
  have e:=Qeh hx
  rw [show ((0:Nat):Int)=0 from rfl] at e
  rw [show img ga=(ga.map smp).map Qq from rfl,show img gb=(gb.map smp).map Qq from rfl,qY hn ha.img hb.img,Option.bind_some,if_pos rfl]
  rw [show (ga.map smp).map Qq=img ga from rfl,show (gb.map smp).map Qq=img gb from rfl,EG hn ha hb,Option.bind_some,List.length_map,hlen,if_neg (by omega),e,Option.bind_some,l1,Option.bind_some]
 ·unfold Vp
  have e:=Qeh hx1
  rw [show ((1:Nat):Int)=1 from rfl] at e
  rw [show img ga=(ga.map smp).map Qq from rfl,show img gb=(gb.map smp).map Qq from rfl,qY hn ha.img hb.img,Option.bind_some,if_pos rfl]
  rw [show (ga.map smp).map Qq=img ga from rfl,show (gb.map smp).map Qq=img gb from rfl,EG hn ha hb,Option.bind_some,List.length_map,hlen,if_neg (by omega),e,Option.bind_some,m1,Option.bind_some]
 ·rw [hxi];unfold trv;dsimp only;omega
 ·rw [hxi];unfold trv;dsimp only;omega
 ·have hne:x1.1.2.2.1≠0:=fun h=>hp (m3 h).1
  have:=QeQ hmem h0 hx1 hne
  rw [hx] at this
  cases this
  rw [hv];unfold trv;dsimp only
  exact ⟨jx,jy⟩
theorem QeC {n:Nat} (hn:300≤n) {ga gb:List Int} (ha:Lvl ga) (hb:Lvl gb) {x y p q t b:Int} (h:Zs n 10 10 (img ga) 10 10 (img gb) 3 49=some (x,y,p,q,0)) (hx : -3≤x∧x≤3) (hy : -3≤y∧y≤3) (ht:1≤t∧t≤1000) (hb4:0≤b∧b≤4) :
  Yl n 10 10 (img ga) 10 10 (img gb) 3 49 t b=some (t,x - b,x+b,y - b,y+b,0):=by
 unfold Yl Q9
 rw [show img ga=(ga.map smp).map Qq from rfl,show img gb=(gb.map smp).map Qq from rfl,qY hn ha.img hb.img,Option.bind_some,Zw n ht,Option.bind_some,Option.bind_some,Zw n hb4,Option.bind_some,show ([I 0,I 0,I 0]:List D)=List.replicate 3 (I 0) from rfl,QT hn 3 (by omega),Option.bind_some,if_pos rfl,
  show (ga.map smp).map Qq=img ga from rfl,show (gb.map smp).map Qq=img gb from rfl,h,Option.bind_some,if_pos rfl]
 unfold Vn
 dsimp only
 rw [if_pos (by unfold Qb;omega),if_pos (by unfold Qb;omega),Option.bind_some,if_pos (by unfold Qb;omega),if_pos (by unfold Qb;omega),Option.bind_some]
theorem wQ {n:Nat} (hn:300≤n) {x y:Int} (hx : -100000≤x∧x≤100000) (hy : -100000≤y∧y≤100000):Zz n x y=some 0:=by
 unfold Zz
 rw [Zw n hx,Option.bind_some,Zw n hy,Option.bind_some,show ([I 0,I 0]:List D)=List.replicate 2 (I 0) from rfl,QT hn 2 (by omega),Option.bind_some]
theorem QeT {n:Nat} (hn:300≤n) (t:Two W H fx fy gx gy sx sy) (hl:∀ k,k∈ls→0≤k∧k≤16384):∃ c,Ww n 10 10 (img (grd ls W H fx fy)) 10 10 (img (grd ls W H gx gy)) sx sy=some (0,c,0)∧49≤c:=by
 have ha:=Jd hl W H fx fy
 have hb:=Jd hl W H gx gy
 have hz:=yV (ls:=ls) t 100 (Nat.le_refl _)
 have hsx:=t.hsx
 have hsy:=t.hsy
 obtain ⟨j,hj,jx,jy⟩:∃ j:Nat,j < 49∧((j % 7:Nat):Int) - 3=sx∧((j / 7:Nat):Int) - 3=sy:=⟨((sy+3) * 7+(sx+3)).toNat,by omega,by omega,by omega⟩
 have hc:=QbM hj
 rw [jx,jy] at hc
 refine ⟨ct sx sy 100,?_,hc⟩
 unfold Ww
 rw [show Zh n 10 10 (img (grd ls W H fx fy)) 10 10 (img (grd ls W H gx gy))=some 0 from Qa3 hn ha.img hb.img,Option.bind_some,wQ hn ⟨by omega,by omega⟩ ⟨by omega,by omega⟩,Option.bind_some,show ([I 0,I 0]:List D)=List.replicate 2 (I 0) from rfl,QT hn 2 (by omega),Option.bind_some,if_pos rfl,
  Qds hn ha hb ⟨by omega,by omega⟩ ⟨by omega,by omega⟩,Option.bind_some,hz]
 dsimp only
 rw [show (ct sx sy 100 == 0)=false by rw [beq_eq_false_iff_ne];omega,Ug,Option.bind_some]
end
theorem zE (x:Int×Int):VS (Qn x)=some x:=rfl
theorem QfF (x:Bool):un_b (jq x)=some x:=rfl
def dkp (g:List Int) (k:Nat):Bool:=decide (1≤g.getD k 0)
def dk (g:List Int) (i:Nat):List Nat:=(List.range i).filter (dkp g)
def ptn (k:Nat):Int×Int:=(((k % 10:Nat):Int),((k / 10:Nat):Int))
def pts (g:List Int):List (Int×Int):=(dk g 100).map ptn
theorem QeS (g:List Int) (i:Nat):dk g (i+1)=if dkp g i=true then dk g i++[i] else dk g i:=by
 unfold dk
 rw [List.range_succ,List.filter_append]
 cases h:dkp g i with
 | true=>simp [h]
 | false=>simp [h]
theorem QbK (g:List Int) (i:Nat):(dk g i).length≤i:=by
 have:=List.length_filter_le (dkp g) (List.range i)
 rw [List.length_range] at this;exact this
def dst (g:List Int) (i:Nat):Int⊕(Int×List D):=if dk g i=[] then .inl (i:Int) else .inr ((i:Int),((dk g i).map ptn).map Qn)
theorem uG {n:Nat} (hn:300≤n) {g:List Int} (h:Lvl g):W2 n 10 10 (img g) 1031798784=some ((pts g).map Qn):=by
 unfold W2
 have hl:=Vg (L:=Zv n 10 10 (img g) 1031798784) (dst g) 100 (e:=if dk g 100=[] then .inl () else .inr ((pts g).map Qn))
  (fun i hi=>by
   have e1:Int.tmod (i:Int) 10=((i % 10:Nat):Int):=by rw [Int.tmod_eq_emod_of_nonneg (by omega)];rfl
   have e2:Int.tdiv (i:Int) 10=((i / 10:Nat):Int):=by rw [Int.tdiv_eq_ediv_of_nonneg (by omega)];rfl
   have hlen:=QbK g i
   have hnext:((i+1:Nat):Int)=(i:Int)+1:=rfl
   have hs:=QeS g i
   have hlev:=yE Qci n
   rw [QeO] at hlev
   have hge:dkp g i=true↔g.getD i 0 ≥ 1:=by unfold dkp;rw [decide_eq_true_iff]
   unfold dst
   by_cases h0:dk g i=[]
   ·rw [if_pos h0]
    unfold Zv
    dsimp only
    rw [if_pos (by rw [Uc h];omega),uD h hi,Option.bind_some,if_pos (by decide),e1,e2,if_pos (by unfold Qb;omega),Xe (h.get i),Option.bind_some,hlev,Option.bind_some]
    by_cases hd:g.getD i 0 ≥ 1
    ·rw [if_pos hd,if_pos (by unfold Qb;omega),hs,if_pos (hge.2 hd),if_neg (by simp),h0,hnext]
     rfl
    ·rw [if_neg hd,if_pos (by unfold Qb;omega),hs,if_neg (fun q=>hd (hge.1 q)),if_pos h0,hnext]
   ·rw [if_neg h0]
    unfold Zv
    dsimp only
    rw [if_pos (by rw [Uc h];omega),uD h hi,Option.bind_some,if_pos (by decide),e1,e2,if_pos (by unfold Qb;omega),Xe (h.get i),Option.bind_some,hlev,Option.bind_some]
    by_cases hd:g.getD i 0 ≥ 1
    ·rw [if_pos hd,if_pos (by unfold Wm;rw [List.length_map,List.length_map];omega),if_pos (by unfold Qb;omega),hs,if_pos (hge.2 hd),if_neg (by simp),hnext,List.map_append,List.map_append]
     rfl
    ·rw [if_neg hd,if_pos (by unfold Qb;omega),hs,if_neg (fun q=>hd (hge.1 q)),if_neg h0,hnext])
  (by
   unfold dst
   by_cases h0:dk g 100=[]
   ·rw [if_pos h0,if_pos h0]
    unfold Zv
    dsimp only
    rw [if_neg (by rw [Uc h];omega)]
   ·rw [if_neg h0,if_neg h0]
    unfold Zv
    dsimp only
    rw [if_neg (by rw [Uc h];omega)]
    rfl) (n:=n) (by omega)
 have hl' : QF (Zv n 10 10 (img g) 1031798784) n (.inl 0)=_:=hl
 rw [hl',Option.bind_some]
 by_cases h0:dk g 100=[]
 ·rw [if_pos h0]
  unfold pts
  rw [h0];rfl
 ·rw [if_neg h0]
theorem Qe2 {n:Nat} (hn:300≤n) {g:List Int} (h:Lvl g):Yn n 10 10 (img g) 1031798784=some ((pts g).map Qn,0):=by
 unfold Yn
 rw [show QG n 10 10 (img g) 1031798784=some 0 from E3 hn h.img,Option.bind_some,if_pos rfl,uG hn h,Option.bind_some]
theorem QdF:((List.range 10).all fun x=>(List.range 10).all fun y=>decide (((List.range 100).countP fun k=>decide ((x≤k % 10∧k % 10 < x+4)∧(y≤k / 10∧k / 10 < y+4)))≤16))=true:=by kernel_rfl
theorem jv {ls:List Int} {W H fx fy i k:Nat} (h:1≤E2 ls W H fx fy i k):(fx≤k % 10∧k % 10 < fx+W)∧(fy≤k / 10∧k / 10 < fy+H):=by
 unfold E2 at h
 split at h
 ·rename_i q;exact ⟨q.1,q.2.1⟩
 ·omega
theorem QeF {ls:List Int} {W H fx fy:Nat} (hW:W≤4) (hH:H≤4) (hx:fx < 10) (hy:fy < 10):(pts (grd ls W H fx fy)).length≤16:=by
 have h1:=List.all_eq_true.1 (List.all_eq_true.1 QdF fx (List.mem_range.2 hx)) fy (List.mem_range.2 hy)
 have h1:=of_decide_eq_true h1
 unfold pts dk
 rw [List.length_map,← List.countP_eq_length_filter]
 refine Nat.le_trans (List.countP_mono_left fun k hk hp=>?_) h1
 have hk:=List.mem_range.1 hk
 unfold dkp at hp
 have hp:=of_decide_eq_true hp
 rw [U4 _ _ _ _ _ hk] at hp
 have:=jv hp
 exact decide_eq_true (by omega)
theorem Qd0:∀ {l m:List Nat},l.Pairwise (· < ·)→m.Pairwise (· < ·)→(∀ x,x∈l↔x∈m)→l=m
 | [],[],_,_,_=>rfl
 | [],b::m,_,_,h=>by have:=(h b).2 List.mem_cons_self;cases this
 | a::l,[],_,_,h=>by have:=(h a).1 List.mem_cons_self;cases this
 | a::l,b::m,h1,h2,h=>by
  obtain ⟨p1,p2⟩:=List.pairwise_cons.1 h1
  obtain ⟨q1,q2⟩:=List.pairwise_cons.1 h2
  have hab:a=b:=by
   rcases List.mem_cons.1 ((h a).1 List.mem_cons_self) with e | e
   ·exact e
   ·rcases List.mem_cons.1 ((h b).2 List.mem_cons_self) with e' | e'
    ·exact e'.symm
    ·have:=q1 a e;have:=p1 b e';omega
  subst hab
  rw [Qd0 p2 q2 fun x=>⟨fun hx=>by
   rcases List.mem_cons.1 ((h x).1 (List.mem_cons_of_mem _ hx)) with e | e
   ·subst e;have:=p1 x hx;omega
   ·exact e,fun hx=>by
   rcases List.mem_cons.1 ((h x).2 (List.mem_cons_of_mem _ hx)) with e | e
   ·subst e;have:=q1 x hx;omega
   ·exact e⟩]
theorem qX {g:List Int} {k:Nat}:k∈dk g 100↔k < 100∧1≤g.getD k 0:=by
 unfold dk dkp
 rw [List.mem_filter,List.mem_range,decide_eq_true_iff]
theorem Qek (g:List Int):(dk g 100).Pairwise (· < ·):=(List.pairwise_lt_range).filter _
section
variable {W H fx fy gx gy:Nat} {sx sy:Int} {ls:List Int}
theorem uF (t:Two W H fx fy gx gy sx sy) {k:Nat} (hk:k∈dk (grd ls W H fx fy) 100):inn sx sy k:=by
 obtain ⟨h1,h2⟩:=qX.1 hk
 rw [U4 _ _ _ _ _ h1] at h2
 have:=jv h2
 obtain ⟨⟨w1,w2⟩,⟨h1,h2⟩,⟨x1,x2⟩,⟨y1,y2⟩,⟨a1,a2⟩,⟨b1,b2⟩,g1,g2⟩:=t
 unfold inn;omega
theorem Qej (t:Two W H fx fy gx gy sx sy):dk (grd ls W H gx gy) 100=(dk (grd ls W H fx fy) 100).map (idx sx sy):=by
 refine Qd0 (Qek _) (List.pairwise_map.2 ((Qek (grd ls W H fx fy)).imp_of_mem fun ha hb hab=>?_)) fun x=>⟨fun hx=>?_,fun hx=>?_⟩
 ·have i1:=uF t ha
  have i2:=uF t hb
  unfold inn at i1 i2
  unfold idx;omega
 ·obtain ⟨h1,h2⟩:=qX.1 hx
  rw [U4 _ _ _ _ _ h1] at h2
  have hr:=jv h2
  obtain ⟨k,k1,k2⟩:∃ k:Nat,((k % 10:Nat):Int)=((x % 10:Nat):Int) - sx∧((k / 10:Nat):Int)=((x / 10:Nat):Int) - sy:=by
   have t2:=t
   obtain ⟨⟨w1,w2⟩,⟨h1,h2⟩,⟨x1,x2⟩,⟨y1,y2⟩,⟨a1,a2⟩,⟨b1,b2⟩,g1,g2⟩:=t2
   refine ⟨((((x / 10:Nat):Int) - sy) * 10+(((x % 10:Nat):Int) - sx)).toNat,by omega,by omega⟩
  have hlt:k < 100:=by
   have t2:=t
   obtain ⟨⟨w1,w2⟩,⟨h1,h2⟩,⟨x1,x2⟩,⟨y1,y2⟩,⟨a1,a2⟩,⟨b1,b2⟩,g1,g2⟩:=t2
   omega
  have hin:inn sx sy k:=by unfold inn;omega
  have hix:idx sx sy k=x:=by unfold idx;omega
  refine List.mem_map.2 ⟨k,qX.2 ⟨hlt,?_⟩,hix⟩
  rw [U4 _ _ _ _ _ hlt,← jw t ls hlt hin,hix];exact h2
 ·obtain ⟨k,hk,rfl⟩:=List.mem_map.1 hx
  have hin:=uF t hk
  obtain ⟨h1,h2⟩:=qX.1 hk
  have hlt:idx sx sy k < 100:=by unfold idx;unfold inn at hin;omega
  refine qX.2 ⟨hlt,?_⟩
  rw [U4 _ _ _ _ _ h1] at h2
  rw [U4 _ _ _ _ _ hlt,jw t ls h1 hin];exact h2
def addP (s p:Int×Int):Int×Int:=(p.1+s.1,p.2+s.2)
theorem kY (t:Two W H fx fy gx gy sx sy):pts (grd ls W H gx gy)=(pts (grd ls W H fx fy)).map (addP (sx,sy)):=by
 unfold pts
 rw [Qej t,List.map_map,List.map_map]
 refine List.map_congr_left fun k hk=>?_
 have hin:=uF t hk
 unfold inn at hin
 show ptn (idx sx sy k)=addP (sx,sy) (ptn k)
 unfold ptn addP idx
 refine Prod.ext ?_ ?_
 ·dsimp only;omega
 ·dsimp only;omega
theorem Qbj {g:List Int} {p:Int×Int} (h:p∈pts g):(0≤p.1∧p.1 < 10)∧(0≤p.2∧p.2 < 10):=by
 obtain ⟨k,hk,rfl⟩:=List.mem_map.1 h
 have:=(qX.1 hk).1
 unfold ptn
 dsimp only;omega
end
theorem qV {a d q:Int} (hd:0 < d) (h1:q * d≤a) (h2:a < (q+1) * d):a / d=q:=by
 apply Int.le_antisymm
 ·exact Int.le_of_lt_add_one (Int.ediv_lt_of_lt_mul hd h2)
 ·exact Int.le_ediv_of_mul_le hd h1
theorem Qd7 (n:Nat) {a d:Int} (hd:1≤d) (ha : -1000000000≤a∧a≤1000000000):VO n a d=some (a / d):=by
 unfold VO
 by_cases h0:0≤a
 ·have h1:=Int.ediv_nonneg h0 (show 0≤d by omega)
  have h2:=Int.ediv_le_self d h0
  have h3:=Int.ediv_mul_le a (show d≠0 by omega)
  have h4:0≤a / d * d:=Int.mul_nonneg h1 (by omega)
  rw [Int.tdiv_eq_ediv_of_nonneg h0,if_pos (by omega),if_pos (by unfold Qb;omega),if_pos (by unfold Qb;omega),if_neg (by omega)]
 ·obtain ⟨b,rfl⟩:∃ b,a=-b:=⟨-a,by omega⟩
  have hb:0≤b:=by omega
  have h1:=Int.ediv_nonneg hb (show 0≤d by omega)
  have h2:=Int.ediv_le_self d hb
  have h3:=Int.ediv_mul_le b (show d≠0 by omega)
  have h4:0≤b / d * d:=Int.mul_nonneg h1 (by omega)
  have h5:=Int.lt_ediv_add_one_mul_self b (show 0 < d by omega)
  rw [Int.add_mul,Int.one_mul] at h5
  rw [Int.neg_tdiv,Int.tdiv_eq_ediv_of_nonneg hb,if_pos (by omega),if_pos (by unfold Qb;omega),Int.neg_mul,if_pos (by unfold Qb;omega)]
  by_cases hc : -(b / d * d) > -b
  ·have e : -b / d=-(b / d) - 1:=qV (by omega) (by rw [Int.sub_mul,Int.neg_mul,Int.one_mul];omega) (by rw [Int.sub_add_cancel,Int.neg_mul];omega)
   rw [if_pos hc,if_pos (by unfold Qb;omega),e]
  ·have e : -b / d=-(b / d):=qV (by omega) (by rw [Int.neg_mul];omega) (by rw [Int.add_mul,Int.neg_mul,Int.one_mul];omega)
   rw [if_neg hc,e]
def rnd (a d:Int):Int:=(2 * a+d) / (2 * d)
theorem QdC (n:Nat) {a d:Int} (hd:1≤d∧d≤1000) (ha : -10000≤a∧a≤10000):Wz n a d=some (rnd a d):=by
 unfold Wz
 rw [if_pos (by unfold Qb;omega),if_pos (by unfold Qb;omega),if_pos (by unfold Qb;omega),Qd7 n (by omega) (by omega),Option.bind_some]
 rfl
theorem QdD {a d:Int} (hd:1≤d) (ha : -10000≤a∧a≤10000) : -20000≤rnd a d∧rnd a d≤20000:=by
 unfold rnd
 constructor
 ·exact Int.le_ediv_of_mul_le (by omega) (by omega)
 ·exact Int.le_of_lt_add_one (Int.ediv_lt_of_lt_mul (by omega) (by omega))
theorem ED {x d:Int} (hd:1≤d):rnd (x * d) d=x:=by
 unfold rnd
 refine qV (by omega) ?_ ?_
 ·rw [Int.mul_left_comm x 2 d];omega
 ·rw [Int.add_mul,Int.mul_left_comm x 2 d];omega
theorem ur {x t:Int} (hx : -10≤x∧x≤10) (ht:0≤t∧t≤1000) : -10000≤x * t∧x * t≤10000:=by
 have h1:=Int.mul_le_mul_of_nonneg_right hx.1 ht.1
 have h2:=Int.mul_le_mul_of_nonneg_right hx.2 ht.1
 omega
theorem QaC (n:Nat) {x y d t:Int} (hx : -10≤x∧x≤10) (hy : -10≤y∧y≤10) (hd:1≤d∧d≤1000) (ht:0≤t∧t≤1000):W9 n x y d t=some (rnd (x * t) d,rnd (y * t) d):=by
 have h1:=ur hx ht
 have h2:=ur hy ht
 unfold W9
 rw [if_pos (by unfold Qb;omega),QdC n hd h1,Option.bind_some,if_pos (by unfold Qb;omega),QdC n hd h2,Option.bind_some]
theorem QcN {n:Nat} (hn:300≤n) {x y d t:Int} (hx : -10≤x∧x≤10) (hy : -10≤y∧y≤10) (hd:1≤d∧d≤1000) (ht:0≤t∧t≤1000):Wc n x y d t=some 0:=by
 unfold Wc Q9 ZA
 rw [Zw n ⟨by omega,by omega⟩,Option.bind_some,Zw n ⟨by omega,by omega⟩,Option.bind_some,Zw n hd,Option.bind_some,Option.bind_some,Zw n ht,Option.bind_some,Option.bind_some,show ([I 0,I 0,I 0,I 0]:List D)=List.replicate 4 (I 0) from rfl,QT hn 4 (by omega),Option.bind_some]
theorem QbN {n:Nat} (hn:300≤n) {g:List Int} (h:Lvl g) {x y d:Int} (hx : -10≤x∧x≤10) (hy : -10≤y∧y≤10) (hd:1≤d∧d≤1000) :
  WA n 10 10 (img g) 1031798784 x y d d=some (((pts g).map (addP (x,y))).map Qn,0):=by
 unfold WA
 rw [show QG n 10 10 (img g) 1031798784=some 0 from E3 hn h.img,Option.bind_some,QcN hn hx hy hd ⟨by omega,by omega⟩,Option.bind_some,show ([I 0,I 0]:List D)=List.replicate 2 (I 0) from rfl,QT hn 2 (by omega),Option.bind_some,if_pos rfl,
  QaC n hx hy hd ⟨by omega,by omega⟩,ED hd.1,ED hd.1,Option.bind_some,uG hn h,Option.bind_some]
 have hlen:(pts g).length≤100:=by unfold pts;rw [List.length_map];exact QbK g 100
 rw [KD (L:=ZT n 10 10 (img g) x y (x,y) ((pts g).map Qn)) (pts g) (fun p=>Qn (addP (x,y) p)) ?_ ?_ (by omega),Option.bind_some,List.map_map]
 ·rfl
 ·intro i p s hp hs
  have hi:=(List.getElem?_eq_some_iff.1 hp).1
  have hb:=Qbj (List.mem_of_getElem? hp)
  unfold ZT VB
  dsimp only
  rw [if_pos (Y0 hp),WW zE hp,Option.bind_some,if_pos (by unfold Qb;omega),if_pos (by unfold Qb;omega),Option.bind_some,if_pos (by unfold Wm;omega),if_pos (by unfold Qb;omega)]
  rfl
 ·intro s hs
  unfold ZT
  rw [if_neg (by simp)]
def kP (p:Int×Int):Value:=.agg #[.int .i64 p.1,.int .i64 p.2]
def ent (p:Int×Int):D:=.tup [.v (kP p),B true]
def ins (p:Int×Int):List (Int×Int)→List (Int×Int)
 | []=>[p]
 | q::l=>if p=q then p::l else q::ins p l
theorem Qcm {p x:Int×Int}:∀ {l:List (Int×Int)},x∈ins p l↔x=p ∨ x∈l
 | []=>by unfold ins;simp
 | q::l=>by
  unfold ins
  by_cases h:p=q
  ·rw [if_pos h];subst h;simp
  ·rw [if_neg h,List.mem_cons,Qcm,List.mem_cons]
   constructor
   ·rintro (h | h | h)
    ·exact Or.inr (Or.inl h)
    ·exact Or.inl h
    ·exact Or.inr (Or.inr h)
   ·rintro (h | h | h)
    ·exact Or.inr (Or.inl h)
    ·exact Or.inl h
    ·exact Or.inr (Or.inr h)
theorem yY (p q:Int×Int):VI (kP p) (kP q)=some (decide (p=q)):=by
 obtain ⟨a,b⟩:=p
 obtain ⟨c,d⟩:=q
 show (match decide (IntKind.i64=IntKind.i64),(match decide (IntKind.i64=IntKind.i64),(some true:Option Bool) with
  | true,some r=>some ((b == d) && r)
  | _,_=>none) with
  | true,some r=>some ((a == c) && r)
  | _,_=>none)=_
 show some ((a == c) && ((b == d) && true))=_
 congr 1
 by_cases h1:a=c
 ·by_cases h2:b=d
  ·subst h1;subst h2;simp
  ·subst h1;simp [h2]
 ·simp [h1]
theorem qL (p:Int×Int):SX.keyOf (ent p)=some (kP p,B true):=rfl
theorem wU (p:Int×Int):∀ l:List (Int×Int),mok (kP p) (l.map ent)=true
 | []=>rfl
 | q::l=>by
  rw [List.map_cons]
  unfold mok
  rw [qL]
  dsimp only
  rw [yY,wU p l];rfl
theorem wW (p:Int×Int):∀ l:List (Int×Int),VL (kP p) (l.map ent)=if p∈l then some (B true) else none
 | []=>rfl
 | q::l=>by
  rw [List.map_cons]
  unfold VL
  rw [qL]
  dsimp only
  rw [yY]
  by_cases h:p=q
  ·rw [decide_eq_true h,if_pos (by rw [h];exact List.mem_cons_self)]
  ·rw [decide_eq_false h]
   dsimp only
   rw [wW p l]
   by_cases hm:p∈l
   ·rw [if_pos hm,if_pos (List.mem_cons_of_mem _ hm)]
   ·rw [if_neg hm,if_neg (fun q=>by rcases List.mem_cons.1 q with e | e;exact h e;exact hm e)]
theorem yk (p:Int×Int):∀ l:List (Int×Int),X2 (kP p) (B true) (l.map ent)=(ins p l).map ent
 | []=>rfl
 | q::l=>by
  rw [List.map_cons]
  unfold X2 ins
  rw [qL]
  dsimp only
  rw [yY]
  by_cases h:p=q
  ·rw [decide_eq_true h,if_pos h];rfl
  ·rw [decide_eq_false h,if_neg h]
   dsimp only
   rw [yk p l];rfl
def mot (xl yl:Int) (w:Nat) (j:Nat):Int×Int:=(xl+((j % w:Nat):Int),yl+((j / w:Nat):Int))
def YX (xl yl:Int) (w:Nat):List (Int×Int):=(List.range (w * w)).map (mot xl yl w)
theorem QaD {xl yl:Int} {w:Nat} {x y:Int} (hx:xl≤x∧x < xl+w) (hy:yl≤y∧y < yl+w):(x,y)∈YX xl yl w:=by
 refine List.mem_map.2 ⟨(y - yl).toNat * w+(x - xl).toNat,List.mem_range.2 ?_,?_⟩
 ·have h1:((y - yl).toNat+1) * w≤w * w:=Nat.mul_le_mul_right w (by omega)
  rw [Nat.add_mul,Nat.one_mul] at h1
  omega
 ·have hw:0 < w:=by omega
  have hlt:(x - xl).toNat < w:=by omega
  unfold mot
  rw [Nat.mul_comm,Nat.mul_add_mod,Nat.mod_eq_of_lt hlt,Nat.mul_add_div hw,Nat.div_eq_of_lt hlt]
  refine Prod.ext ?_ ?_
  ·dsimp only;omega
  ·dsimp only;omega
theorem Qcd {xl yl:Int} {w:Nat} (hw:1≤w∧w≤7) (hx : -6≤xl∧xl+w≤7) (hy : -6≤yl∧yl+w≤7) {p:Int×Int} (h:p∈YX xl yl w):(-10≤p.1∧p.1≤10)∧(-10≤p.2∧p.2≤10):=by
 obtain ⟨j,hj,rfl⟩:=List.mem_map.1 h
 have hj:=List.mem_range.1 hj
 have h1:=Nat.mod_lt j (show 0 < w by omega)
 have h2:j / w < w:=Nat.div_lt_of_lt_mul hj
 unfold mot
 generalize j % w=r at *
 generalize j / w=s at *
 dsimp only;omega
theorem wS (xl yl:Int) (w:Nat):(YX xl yl w).length=w * w:=by unfold YX;rw [List.length_map,List.length_range]
theorem wT {n:Nat} (hn:300≤n) (t:Int) {xl xh yl yh:Int} {w:Nat} (hw:1≤w∧w≤7) (hx : -6≤xl∧xl+w≤7) (hy : -6≤yl∧yl+w≤7) (hxh:xh=xl+w - 1) (hyh:yh=yl+w - 1) :
  Zp n t xl xh yl yh=some ((YX xl yl w).map Qn):=by
 have hww:w * w≤49:=Nat.mul_le_mul hw.2 hw.2
 have inner:∀ y:Nat,y < w→QF (QN n t xl xh yl yh ((y:Int),((List.range (w * y)).map (mot xl yl w)).map Qn)) n (0,((List.range (w * y)).map (mot xl yl w)).map Qn)=some (((List.range (w * (y+1))).map (mot xl yl w)).map Qn):=by
  intro y hy'
  have hwy:w * (y+1)≤w * w:=Nat.mul_le_mul_left w hy'
  rw [Nat.mul_add,Nat.mul_one] at hwy
  have h:=Vg (L:=QN n t xl xh yl yh ((y:Int),((List.range (w * y)).map (mot xl yl w)).map Qn)) (fun x=>((x:Int),((List.range (w * y+x)).map (mot xl yl w)).map Qn)) w (e:=((List.range (w * y+w)).map (mot xl yl w)).map Qn)
   (fun x hx'=>by
    have hd:Qn (mot xl yl w (w * y+x))=.agg [I (xl+(x:Int)),I (yl+(y:Int))]:=by
     unfold mot Qn
     rw [Nat.mul_add_mod,Nat.mod_eq_of_lt hx',Nat.mul_add_div (by omega),Nat.div_eq_of_lt hx',Nat.add_zero]
    unfold QN
    dsimp only
    rw [if_pos (by omega),if_pos (by unfold Qb;omega),if_pos (by unfold Qb;omega),if_pos (by unfold Wm;rw [List.length_map,List.length_map,List.length_range];omega),if_pos (by unfold Qb;omega),← hd,← Nat.add_assoc,List.range_succ,List.map_append,List.map_append]
    rfl)
   (by unfold QN;dsimp only;rw [if_neg (by omega)]) (n:=n) (by omega)
  exact h
 unfold Zp
 have hl:=Vg (L:=QM n t xl xh yl yh) (fun y=>((y:Int),((List.range (w * y)).map (mot xl yl w)).map Qn)) w (e:=(YX xl yl w).map Qn)
  (fun y hy'=>by
   unfold QM
   dsimp only
   rw [if_pos (by omega),if_pos (by unfold Qb;omega),if_pos (by unfold Qb;omega),inner y hy',Option.bind_some,if_pos (by unfold Qb;omega)]
   rfl)
  (by unfold QM;dsimp only;rw [if_neg (by omega)];rfl) (n:=n) (by omega)
 have hl' : QF (QM n t xl xh yl yh) n (0,[])=_:=hl
 rw [if_pos (by unfold Qb;omega),if_pos (by unfold Qb;omega),hl',Option.bind_some]
theorem Qaf {n:Nat} (hn:300≤n) {a b:Int} (ha : -10≤a) (hb:b≤10) (h:a≤b∧b < a+9):ZS n a b=some 0:=by
 unfold ZS
 rw [Zw n ⟨by omega,by omega⟩,Option.bind_some,Zw n ⟨by omega,by omega⟩,Option.bind_some,decide_eq_false (by omega),Ug,Option.bind_some,show ([I 0,I 0,I 0]:List D)=List.replicate 3 (I 0) from rfl,QT hn 3 (by omega),Option.bind_some,if_pos rfl,if_pos (by unfold Qb;omega),decide_eq_false (by omega),Ug,Option.bind_some]
theorem js {n:Nat} (hn:300≤n) {t xl xh yl yh:Int} {w:Nat} (ht:1≤t∧t≤1000) (hw:1≤w∧w≤7) (hx : -6≤xl∧xl+w≤7) (hy : -6≤yl∧yl+w≤7) (hxh:xh=xl+w - 1) (hyh:yh=yl+w - 1):ZC n t xl xh yl yh=some 0:=by
 unfold ZC Q9
 rw [Zw n ht,Option.bind_some,Option.bind_some,Qaf hn (by omega) (by omega) ⟨by omega,by omega⟩,Option.bind_some,Qaf hn (by omega) (by omega) ⟨by omega,by omega⟩,Option.bind_some,show ([I 0,I 0,I 0]:List D)=List.replicate 3 (I 0) from rfl,QT hn 3 (by omega),Option.bind_some]
theorem Qb2 {n:Nat} (hn:300≤n) {t xl xh yl yh:Int} {w:Nat} (ht:1≤t∧t≤1000) (hw:1≤w∧w≤7) (hx : -6≤xl∧xl+w≤7) (hy : -6≤yl∧yl+w≤7) (hxh:xh=xl+w - 1) (hyh:yh=yl+w - 1) :
  W5 n t xl xh yl yh=some ((YX xl yl w).map Qn,0):=by
 unfold W5
 rw [js hn ht hw hx hy hxh hyh,Option.bind_some,if_pos rfl,wT hn t hw hx hy hxh hyh,Option.bind_some]
def hG (p:Int×Int) (s:Nat) (x:Int×Int):Nat⊕(Unit⊕Unit):=if x=p then .inr (.inl ()) else .inl (s+1)
theorem Qd1 (p:Int×Int):∀ (l:List (Int×Int)) (s:Nat),p∈l→K4 (hG p) (fun _=>(.inr ():Unit⊕Unit)) l s=.inl ()
 | x::l,s,h=>by
  unfold K4 hG
  by_cases hx:x=p
  ·rw [if_pos hx]
  ·rw [if_neg hx]
   rcases List.mem_cons.1 h with e | e
   ·exact absurd e.symm hx
   ·exact Qd1 p l (s+1) e
theorem ug (a b c d:Int):((a == c) && ((b == d) && true))=true↔(a,b)=(c,d):=by
 rw [Prod.mk.injEq];simp
theorem Qfw {n:Nat} {l:List (Int×Int)} (hl:l.length < n) (hs:l.length≤1000) {x y:Int} (h:(x,y)∈l):YV n (l.map Qn) x y=some true:=by
 unfold YV
 have h':=Vh (step:=Wq n (l.map Qn) x y) (hG (x,y)) (fun _=>(.inr ():Unit⊕Unit)) (fun i _=>(i:Int)) l (fun i s=>True)
  (fun i s q hx _=>by
   have hi:=(List.getElem?_eq_some_iff.1 hx).1
   unfold hG Wq
   rw [if_pos (Y0 hx),WW zE hx,Option.bind_some]
   by_cases h0:q=(x,y)
   ·rw [if_pos h0]
    exact if_pos ((ug q.1 q.2 x y).2 h0)
   ·rw [if_neg h0]
    refine ⟨(if_neg (fun hh=>h0 ((ug q.1 q.2 x y).1 hh))).trans ?_,trivial⟩
    rw [if_pos (by unfold Qb;omega)]
    rfl)
  (fun s _=>by unfold Wq;rw [if_neg (by simp)]) (k:=n) (s:=0) trivial hl
 have h2:QF (Wq n (l.map Qn) x y) n 0=_:=h'
 rw [h2,Qd1 (x,y) l 0 h,Option.bind_some]
theorem QeD {n:Nat} {l:List (Int×Int)} (hl:l.length < n) (hs:l.length≤1000):ZP n (l.map Qn) (l.map Qn)=some true:=by
 unfold ZP
 rw [if_pos rfl,jL (L:=Zm n (l.map Qn) (l.map Qn)) l ?_ ?_ hl,Option.bind_some]
 ·intro i x hx
  have hi:=(List.getElem?_eq_some_iff.1 hx).1
  unfold Zm
  rw [if_pos (Y0 hx),WW zE hx,Option.bind_some,Option.bind_some,if_pos ((ug _ _ _ _).2 rfl),if_pos (by unfold Qb;omega)]
 ·unfold Zm
  rw [if_neg (by simp)]
def X5 (ps:List (Int×Int)) (i:Nat):List (Int×Int):=(ps.take i).foldl (fun l p=>ins p l) []
theorem QaL {ps:List (Int×Int)} {i:Nat} {p:Int×Int} (h:ps[i]?=some p):X5 ps (i+1)=ins p (X5 ps i):=by
 unfold X5
 rw [List.take_add_one,h,List.foldl_append];rfl
theorem QbD {ps:List (Int×Int)} {x:Int×Int}:x∈X5 ps ps.length↔x∈ps:=by
 unfold X5
 rw [List.take_length]
 have key:∀ (ps acc:List (Int×Int)),x∈ps.foldl (fun l p=>ins p l) acc↔x∈acc ∨ x∈ps:=by
  intro ps
  induction ps with
  | nil=>intro acc;simp
  | cons p ps ih =>
   intro acc
   rw [List.foldl_cons,ih,Qcm,List.mem_cons]
   constructor
   ·rintro ((h | h) | h)
    ·exact Or.inr (Or.inl h)
    ·exact Or.inl h
    ·exact Or.inr (Or.inr h)
   ·rintro (h | h | h)
    ·exact Or.inl (Or.inr h)
    ·exact Or.inl (Or.inl h)
    ·exact Or.inr h
 rw [key];simp
def sky (g:List Int):List (Int×Int):=X5 (pts g) (pts g).length
theorem Qb8 (g:List Int):(pts g).length≤100:=by unfold pts;rw [List.length_map];exact QbK g 100
theorem Qcg {n:Nat} (hn:300≤n) {g:List Int} (h:Lvl g) {t xl xh yl yh:Int} {w:Nat} (hw:1≤w∧w≤7) (hx : -6≤xl∧xl+w≤7) (hy : -6≤yl∧yl+w≤7) (hxh:xh=xl+w - 1) (hyh:yh=yl+w - 1) :
  VD n 10 10 (img g) 1031798784 t xl xh yl yh=some ((sky g).map ent,(YX xl yl w).map Qn,t):=by
 unfold VD
 have hlen:=Qb8 g
 have hl:=Vg (L:=Z8 n t ((YX xl yl w).map Qn) ((pts g).map Qn)) (fun i=>((i:Int),(X5 (pts g) i).map ent)) (pts g).length (e:=(sky g).map ent)
  (fun i hi=>by
   have hg:(pts g)[i]?=some (pts g)[i]:=List.getElem?_eq_getElem hi
   have hk:∀ p:Int×Int,(Value.agg #[.int .i64 p.1,.int .i64 p.2])=kP p:=fun _=>rfl
   unfold Z8
   dsimp only
   rw [if_pos (Y0 hg),WW zE hg,Option.bind_some,hk,if_pos (wU _ _),if_pos (by unfold Qb;omega),yk,QaL hg]
   rfl)
  (by unfold Z8;dsimp only;rw [if_neg (by simp)];rfl) (n:=n) (by omega)
 have hl' : QF (Z8 n t ((YX xl yl w).map Qn) ((pts g).map Qn)) n (0,[])=_:=hl
 rw [wT hn t hw hx hy hxh hyh,Option.bind_some,uG hn h,Option.bind_some,hl',Option.bind_some]
def cvd (q:List (Int×Int)) (d cx cy t:Int) (m:Int×Int):Bool:=decide ((cx - rnd (m.1 * t) d,cy - rnd (m.2 * t) d)∈q)
def cov (q ms:List (Int×Int)) (d cx cy t:Int):Nat:=ms.countP (cvd q d cx cy t)
theorem yC {n:Nat} {q ms:List (Int×Int)} (hl:ms.length < n) (hs:ms.length≤100) (hm:∀ p,p∈ms→(-10≤p.1∧p.1≤10)∧(-10≤p.2∧p.2≤10)) {d cx cy t:Int} (hd:1≤d∧d≤1000) (ht:0≤t∧t≤1000) (hx : -1000≤cx∧cx≤1000) (hy : -1000≤cy∧cy≤1000) :
  Zy n (q.map ent) (ms.map Qn) d cx cy t=some (cov q ms d cx cy t:Int):=by
 unfold Zy
 have h:=Vg (L:=Q0 n (q.map ent) (ms.map Qn) d cx cy t) (fun i=>(((ms.take i).countP (cvd q d cx cy t):Int),(i:Int))) ms.length (e:=(cov q ms d cx cy t:Int))
  (fun i hi=>by
   have hg:ms[i]?=some ms[i]:=List.getElem?_eq_getElem hi
   have hb:=hm _ (List.getElem_mem hi)
   have m1:=ur hb.1 ht
   have m2:=ur hb.2 ht
   have r1:=QdD hd.1 m1
   have r2:=QdD hd.1 m2
   have hle:(ms.take i).countP (cvd q d cx cy t)≤i:=Nat.le_trans List.countP_le_length (by rw [List.length_take];omega)
   have hcs:(ms.take (i+1)).countP (cvd q d cx cy t)=(ms.take i).countP (cvd q d cx cy t)+if cvd q d cx cy t ms[i]=true then 1 else 0:=by
    rw [List.take_add_one,hg,List.countP_append]
    show _+List.countP _ [ms[i]]=_
    rw [List.countP_singleton]
   have hk:(Value.agg #[.int .i64 (cx - rnd (ms[i].1 * t) d),.int .i64 (cy - rnd (ms[i].2 * t) d)])=kP (cx - rnd (ms[i].1 * t) d,cy - rnd (ms[i].2 * t) d):=rfl
   unfold Q0
   dsimp only
   rw [if_pos (Y0 hg),WW zE hg,Option.bind_some,QaC n hb.1 hb.2 hd ht,Option.bind_some]
   dsimp only
   rw [if_pos (by unfold Qb;omega),if_pos (by unfold Qb;omega),hk,if_pos (wU _ _),wW,hcs]
   by_cases hin:(cx - rnd (ms[i].1 * t) d,cy - rnd (ms[i].2 * t) d)∈q
   ·rw [if_pos hin,if_pos (show (some (B true)).isSome=true from rfl),if_pos (show cvd q d cx cy t ms[i]=true from decide_eq_true hin),Option.bind_some,show un_b (B true)=some true from rfl,Option.bind_some,if_pos rfl,if_pos (by unfold Qb;omega),if_pos (by unfold Qb;omega)]
    rfl
   ·rw [if_neg hin,if_neg (by decide),if_neg (show ¬ cvd q d cx cy t ms[i]=true from fun hh=>hin (of_decide_eq_true hh)),if_pos (by unfold Qb;omega)]
    rfl)
  (by unfold Q0;dsimp only;rw [if_neg (by simp),List.take_length];rfl) (n:=n) (by omega)
 have h' : QF (Q0 n (q.map ent) (ms.map Qn) d cx cy t) n (0,0)=_:=h
 rw [h',Option.bind_some]
theorem QeX {q ms:List (Int×Int)} {d cx cy sx sy:Int} (hd:1≤d) (hm:(sx,sy)∈ms) (hq:(cx - sx,cy - sy)∈q):0 < cov q ms d cx cy d:=by
 unfold cov
 rw [List.countP_pos_iff]
 refine ⟨_,hm,decide_eq_true ?_⟩
 dsimp only
 rw [ED hd,ED hd];exact hq
theorem Qes (n:Nat) {t:Int} (h:0≤t∧t≤1000):ZA n t=some 0:=by
 unfold ZA
 rw [Zw n h,Option.bind_some]
def uu (q ms:List (Int×Int)) (d t:Int) (p:Int×Int):Bool:=decide ((cov q ms d p.1 p.2 t:Int) > 0)
theorem Qfs {n:Nat} (hn:300≤n) {g:List Int} (h:Lvl g) {d t xl xh yl yh:Int} {w:Nat} (hw:1≤w∧w≤7) (hx : -6≤xl∧xl+w≤7) (hy : -6≤yl∧yl+w≤7) (hxh:xh=xl+w - 1) (hyh:yh=yl+w - 1) (hd:1≤d∧d≤1000) (ht:0≤t∧t≤1000)
  {ps:List (Int×Int)} (hl:ps.length≤100) (hp:∀ p,p∈ps→(0≤p.1∧p.1 < 10)∧(0≤p.2∧p.2 < 10)) :
  WT n 10 10 (img g) 1031798784 d xl xh yl yh t (ps.map Qn)=some ((ps.map (uu (sky g) (YX xl yl w) d t)).map jq,0):=by
 have hww:w * w≤49:=Nat.mul_le_mul hw.2 hw.2
 have hml:=wS xl yl w
 unfold WT YK
 rw [show QG n 10 10 (img g) 1031798784=some 0 from E3 hn h.img,Option.bind_some,js hn hd hw hx hy hxh hyh,Option.bind_some,Qes n ht,Option.bind_some,List.length_map,decide_eq_false (by omega),Ug,Option.bind_some,show ([I 0,I 0,I 0,I 0]:List D)=List.replicate 4 (I 0) from rfl,QT hn 4 (by omega),Option.bind_some,if_pos rfl]
 unfold VC
 rw [KD (L:=ZN n (ps.map Qn)) ps (fun _=>I 0) ?_ ?_ (by omega),Option.bind_some,Option.bind_some,show (ps.map fun _=>I 0)=List.replicate ps.length (I 0) from List.map_const' ..,QT hn _ (by omega),Option.bind_some,if_pos rfl,Qcg hn h hw hx hy hxh hyh,Option.bind_some]
 ·rw [KD (L:=Wk n 10 10 (img g) d xl xh yl yh t (ps.map Qn) ((sky g).map ent,(YX xl yl w).map Qn,d)) ps (fun p=>jq (uu (sky g) (YX xl yl w) d t p)) ?_ ?_ (by omega),Option.bind_some,Option.bind_some,List.map_map]
  ·rfl
  ·intro i p s hp' hs
   have hi:=(List.getElem?_eq_some_iff.1 hp').1
   have hb:=hp p (List.mem_of_getElem? hp')
   unfold Wk Ym
   dsimp only
   rw [if_pos (Y0 hp'),WW zE hp',Option.bind_some,yC (by omega) (by omega) (fun p hp=>Qcd hw hx hy hp) hd ht ⟨by omega,by omega⟩ ⟨by omega,by omega⟩,Option.bind_some,Option.bind_some,if_pos (by unfold Wm;omega),if_pos (by unfold Qb;omega)]
   rfl
  ·intro s hs
   unfold Wk
   rw [if_neg (by simp)]
 ·intro i p s hp' hs
  have hi:=(List.getElem?_eq_some_iff.1 hp').1
  have hb:=hp p (List.mem_of_getElem? hp')
  unfold ZN
  dsimp only
  rw [if_pos (Y0 hp'),WW zE hp',Option.bind_some,wQ hn ⟨by omega,by omega⟩ ⟨by omega,by omega⟩,Option.bind_some,if_pos (by unfold Wm;omega),if_pos (by unfold Qb;omega)]
 ·intro s hs
  unfold ZN
  rw [if_neg (by simp)]
def win (c:Nat→Nat):Nat→Bool×Int×Int
 | 0=>(false,0,0)
 | i+1=>if c i=0 then win c i else if (win c i).1=true then ((win c i).1,(win c i).2.1,(i:Int)+1) else (true,(i:Int),(i:Int)+1)
theorem Qdq (c:Nat→Nat):∀ i:Nat,((win c i).1=true→(win c i).2.1 < (i:Int))∧(∀ t:Nat,t < i→c t≠0→(win c i).1=true∧(win c i).2.1≤(t:Int)∧(t:Int) < (win c i).2.2)
 | 0=>⟨fun h=>(by cases h),fun t ht=>(by omega)⟩
 | i+1=>by
  obtain ⟨h1,h2⟩:=Qdq c i
  unfold win
  by_cases hc:c i=0
  ·rw [if_pos hc]
   refine ⟨fun h=>by have:=h1 h;omega,fun t ht hne=>?_⟩
   have:t≠i:=fun e=>hne (by rw [e];exact hc)
   exact h2 t (by omega) hne
  ·rw [if_neg hc]
   by_cases hf:(win c i).1=true
   ·rw [if_pos hf]
    have:=h1 hf
    dsimp only
    refine ⟨fun h=>by omega,fun t ht hne=>⟨hf,?_,by omega⟩⟩
    by_cases e:t=i
    ·subst e;omega
    ·exact (h2 t (by omega) hne).2.1
   ·rw [if_neg hf]
    dsimp only
    refine ⟨fun h=>by omega,fun t ht hne=>⟨rfl,?_,by omega⟩⟩
    by_cases e:t=i
    ·subst e;exact Int.le_refl _
    ·exact absurd (h2 t (by omega) hne).1 hf
theorem Qcx {n:Nat} (hn:300≤n) {g:List Int} (h:Lvl g) {d xl xh yl yh:Int} {w:Nat} (hw:1≤w∧w≤7) (hx : -6≤xl∧xl+w≤7) (hy : -6≤yl∧yl+w≤7) (hxh:xh=xl+w - 1) (hyh:yh=yl+w - 1) (hd:1≤d∧d≤50)
  {cx cy:Int} (hcx:0≤cx∧cx < 10) (hcy:0≤cy∧cy < 10) (hpos:0 < cov (sky g) (YX xl yl w) d cx cy d) :
  ∃ f u,Vo n 10 10 (img g) 1031798784 d xl xh yl yh cx cy 60=some (f,u,0)∧f≤d∧d < u:=by
 have hww:w * w≤49:=Nat.mul_le_mul hw.2 hw.2
 have hml:=wS xl yl w
 obtain ⟨c,hc⟩:∃ c:Nat→Nat,c=fun t:Nat=>cov (sky g) (YX xl yl w) d cx cy (t:Int):=⟨_,rfl⟩
 have hcv:∀ t:Nat,t < 61→Zy n ((sky g).map ent) ((YX xl yl w).map Qn) d cx cy (t:Int)=some (c t:Int):=by
  intro t ht
  rw [hc]
  exact yC (by omega) (by omega) (fun p hp=>Qcd hw hx hy hp) ⟨by omega,by omega⟩ ⟨by omega,by omega⟩ ⟨by omega,by omega⟩ ⟨by omega,by omega⟩
 have hwin:=(Qdq c 61).2 d.toNat (by omega) (by rw [hc];dsimp only;rw [Int.toNat_of_nonneg (by omega)];omega)
 rw [Int.toNat_of_nonneg (by omega)] at hwin
 refine ⟨(win c 61).2.1,(win c 61).2.2,?_,hwin.2⟩
 unfold Vo
 have hl:=Vg (L:=ZL n cx cy 60 ((sky g).map ent,(YX xl yl w).map Qn,d)) (fun i=>((win c i).1,(i:Int),(win c i).2.1,(win c i).2.2)) 61 (e:=((win c 61).1,(win c 61).2.1,(win c 61).2.2))
  (fun i hi=>by
   have hs:win c (i+1)=if c i=0 then win c i else if (win c i).1=true then ((win c i).1,(win c i).2.1,(i:Int)+1) else (true,(i:Int),(i:Int)+1):=rfl
   have hnext:((i+1:Nat):Int)=(i:Int)+1:=rfl
   unfold ZL
   dsimp only
   rw [if_pos (by omega),hcv i hi,Option.bind_some,hs,hnext]
   by_cases h0:c i=0
   ·rw [if_pos (by omega),if_pos (by unfold Qb;omega),if_pos h0]
   ·rw [if_neg (by omega),if_neg h0]
    by_cases hf:(win c i).1=true
    ·rw [if_pos hf,if_pos (by unfold Qb;omega),if_pos hf]
    ·rw [if_neg hf,if_pos (by unfold Qb;omega),if_neg hf])
  (by unfold ZL;dsimp only;rw [if_neg (by omega)]) (n:=n) (by omega)
 have hl' : QF (ZL n cx cy 60 ((sky g).map ent,(YX xl yl w).map Qn,d)) n (false,0,0,0)=_:=hl
 rw [show QG n 10 10 (img g) 1031798784=some 0 from E3 hn h.img,Option.bind_some,js hn ⟨by omega,by omega⟩ hw hx hy hxh hyh,Option.bind_some,wQ hn ⟨by omega,by omega⟩ ⟨by omega,by omega⟩,Option.bind_some,Zw n ⟨by omega,by omega⟩,Option.bind_some,
  show ([I 0,I 0,I 0,I 0]:List D)=List.replicate 4 (I 0) from rfl,QT hn 4 (by omega),Option.bind_some,if_pos rfl,Qcg hn h hw hx hy hxh hyh,Option.bind_some,if_pos (by unfold Qb;omega),hl',Option.bind_some]
 dsimp only
 rw [hwin.1,show (!true)=false from rfl,Ug,Option.bind_some]
theorem G9 {a m:Int} (ha:0≤a) (hm:1≤m):0≤Int.tmod a m∧Int.tmod a m < m:=by
 rw [Int.tmod_eq_emod_of_nonneg ha]
 exact ⟨Int.emod_nonneg a (by omega),Int.emod_lt_of_pos a (by omega)⟩
theorem Qba {n:Nat} (hn:300≤n) {W H fx fy gx gy:Nat} {sx sy:Int} {ls:List Int} (t:Two W H fx fy gx gy sx sy) (hl:∀ k,k∈ls→0≤k∧k≤16384) {a7 d:Int} (h7:IntKind.wrap .i64 a7=a7) (hd:1+Int.tmod a7 50=d) (hd' : 1≤d∧d≤50) {b:Nat} (hb:b≤3) :
  QF (QI n a7 (10,10,img (grd ls W H fx fy),0) (d,sx - b,sx+b,sy - b,sy+b,0) ((pts (grd ls W H gx gy)).map Qn,0) (((pts (grd ls W H gx gy)).map (uu (sky (grd ls W H fx fy)) (YX (sx - b) (sy - b) (2 * b+1)) d d)).map jq,0)) n 0=some ():=by
 have ha:=Jd hl W H fx fy
 have hlen:=Qb8 (grd ls W H gx gy)
 have hsx:=t.hsx
 have hsy:=t.hsy
 have h:=Vg (L:=QI n a7 (10,10,img (grd ls W H fx fy),0) (d,sx - b,sx+b,sy - b,sy+b,0) ((pts (grd ls W H gx gy)).map Qn,0) (((pts (grd ls W H gx gy)).map (uu (sky (grd ls W H fx fy)) (YX (sx - b) (sy - b) (2 * b+1)) d d)).map jq,0)) (fun i=>(i:Int)) (pts (grd ls W H gx gy)).length (e:=())
  (fun i hi=>by
   have hg:(pts (grd ls W H gx gy))[i]?=some (pts (grd ls W H gx gy))[i]:=List.getElem?_eq_getElem hi
   obtain ⟨p,hp⟩:∃ p,(pts (grd ls W H gx gy))[i]=p:=⟨_,rfl⟩
   rw [hp] at hg
   have hm:=List.mem_of_getElem? hg
   have hb':=Qbj hm
   have hm2:=hm
   rw [kY t] at hm2
   obtain ⟨q,hq,hqp⟩:=List.mem_map.1 hm2
   have hqs:(p.1 - sx,p.2 - sy)∈sky (grd ls W H fx fy):=by
    unfold sky
    rw [QbD]
    have:(p.1 - sx,p.2 - sy)=q:=by
     rw [← hqp];unfold addP
     refine Prod.ext ?_ ?_
     ·dsimp only;omega
     ·dsimp only;omega
    rw [this];exact hq
   have hmot:(sx,sy)∈YX (sx - b) (sy - b) (2 * b+1):=QaD ⟨by omega,by omega⟩ ⟨by omega,by omega⟩
   have hcov:=QeX (d:=d) hd'.1 hmot hqs
   obtain ⟨f,u,hw,hf,hu⟩:=Qcx hn ha (d:=d) (xl:=sx - b) (xh:=sx+b) (yl:=sy - b) (yh:=sy+b) (w:=2 * b+1) ⟨by omega,by omega⟩ ⟨by omega,by omega⟩ ⟨by omega,by omega⟩ (by omega) (by omega) hd' hb'.1 hb'.2 hcov
   have hmay:uu (sky (grd ls W H fx fy)) (YX (sx - b) (sy - b) (2 * b+1)) d d p=true:=by
    unfold uu;exact decide_eq_true (by omega)
   have hgm:((pts (grd ls W H gx gy)).map (uu (sky (grd ls W H fx fy)) (YX (sx - b) (sy - b) (2 * b+1)) d d))[i]?=some (uu (sky (grd ls W H fx fy)) (YX (sx - b) (sy - b) (2 * b+1)) d d p):=by
    rw [List.getElem?_map,hg];rfl
   unfold QI
   dsimp only
   rw [if_pos (Y0 hg),WW zE hg,Option.bind_some,if_pos (by unfold Wm;rw [Uc ha];omega),hw,Option.bind_some]
   dsimp only
   rw [if_pos rfl,WW QfF hgm,Option.bind_some,hmay,if_pos rfl,h7,hd,if_neg (by omega),if_neg (by omega),if_pos (by unfold Qb;omega)]
   rfl)
  (by
   unfold QI
   dsimp only
   rw [if_neg (by simp)]) (n:=n) (by omega)
 exact h
theorem EN (W H:Int) (bs:List Nat) {a3 a4 a5 a6 a7 a8:Int} (h3:0≤a3∧a3≤255) (h4:0≤a4∧a4≤255) (h5:0≤a5∧a5≤255) (h6:0≤a6∧a6≤255) (h7:0≤a7∧a7≤255) (h8:0≤a8∧a8≤255) :
  WK 5000 W H (bs.map Qq) a3 a4 a5 a6 a7 a8=some true:=by
 have hn:300≤5000:=by omega
 unfold WK
 by_cases c1:W > 4
 ·rw [if_pos c1];rfl
 rw [if_neg c1]
 by_cases c2:H > 4
 ·rw [if_pos c2];rfl
 rw [if_neg c2]
 obtain ⟨e,r1,r2⟩:=QdE hn W H (by omega) (by omega) bs
 rw [r1,Option.bind_some]
 by_cases h0:e=0
 case neg=>rw [if_neg h0];rfl
 rw [if_pos h0]
 have hi:=r2 h0
 have hw:=hi.map.w
 have hh:=hi.map.h
 have hfew:=hi.map.few
 obtain ⟨w,rfl⟩:∃ w:Nat,W=w:=⟨W.toNat,by omega⟩
 obtain ⟨h,rfl⟩:∃ h:Nat,H=h:=⟨H.toNat,by omega⟩
 have hw3:IntKind.wrap .i64 a3=a3:=VP (by unfold Qb;omega)
 have hw4:IntKind.wrap .i64 a4=a4:=VP (by unfold Qb;omega)
 have hw5:IntKind.wrap .i64 a5=a5:=VP (by unfold Qb;omega)
 have hw6:IntKind.wrap .i64 a6=a6:=VP (by unfold Qb;omega)
 have hw7:IntKind.wrap .i64 a7=a7:=VP (by unfold Qb;omega)
 have hw8:IntKind.wrap .i64 a8=a8:=VP (by unfold Qb;omega)
 rw [hw3,hw4,hw5,hw6,hw7,hw8]
 have m3:=G9 (a:=a3) (m:=5 - (w:Int)) h3.1 (by omega)
 have m4:=G9 (a:=a4) (m:=5 - (h:Int)) h4.1 (by omega)
 have m5:=G9 (a:=a5) (m:=7) h5.1 (by omega)
 have m6:=G9 (a:=a6) (m:=7) h6.1 (by omega)
 have m7:=G9 (a:=a7) (m:=50) h7.1 (by omega)
 have m8:=G9 (a:=a8) (m:=4) h8.1 (by omega)
 obtain ⟨fx,hfx⟩:∃ fx:Nat,3+Int.tmod a3 (5 - (w:Int))=(fx:Int):=⟨(3+Int.tmod a3 (5 - (w:Int))).toNat,by omega⟩
 obtain ⟨fy,hfy⟩:∃ fy:Nat,3+Int.tmod a4 (5 - (h:Int))=(fy:Int):=⟨(3+Int.tmod a4 (5 - (h:Int))).toNat,by omega⟩
 obtain ⟨sx,hsx⟩:∃ sx:Int,Int.tmod a5 7 - 3=sx:=⟨_,rfl⟩
 obtain ⟨sy,hsy⟩:∃ sy:Int,Int.tmod a6 7 - 3=sy:=⟨_,rfl⟩
 obtain ⟨d,hd⟩:∃ d:Int,1+Int.tmod a7 50=d:=⟨_,rfl⟩
 obtain ⟨b,hb⟩:∃ b:Nat,Int.tmod a8 4=(b:Int):=⟨(Int.tmod a8 4).toNat,by omega⟩
 obtain ⟨gx,hgx⟩:∃ gx:Nat,(fx:Int)+sx=(gx:Int):=⟨((fx:Int)+sx).toNat,by omega⟩
 obtain ⟨gy,hgy⟩:∃ gy:Nat,(fy:Int)+sy=(gy:Int):=⟨((fy:Int)+sy).toNat,by omega⟩
 rw [hfx,hfy,hsx,hsy,hd,hb,hgx,hgy]
 have t:Two w h fx fy gx gy sx sy:=⟨⟨by omega,by omega⟩,⟨by omega,by omega⟩,⟨by omega,by omega⟩,⟨by omega,by omega⟩,⟨by omega,by omega⟩,⟨by omega,by omega⟩,by omega,by omega⟩
 have hl:∀ k,k∈bs.map lev→0≤k∧k≤16384:=by
  intro k hk
  obtain ⟨x,hx,rfl⟩:=List.mem_map.1 hk
  exact ⟨hi.pos x hx,(yq (hi.map.chk x hx)).2⟩
 have ha:=Jd hl w h fx fy
 have hbb:=Jd hl w h gx gy
 have pA:Z4 5000 (w:Int) (h:Int) (bs.map Qq) 10 10 (fx:Int) (fy:Int)=some (10,10,img (grd (bs.map lev) w h fx fy),0):=ye hn hi.map (by omega) (by omega) (by omega) (by omega)
 have pB:Z4 5000 (w:Int) (h:Int) (bs.map Qq) 10 10 (gx:Int) (gy:Int)=some (10,10,img (grd (bs.map lev) w h gx gy),0):=ye hn hi.map (by omega) (by omega) (by omega) (by omega)
 have kA:QH 5000 10 10 (img (grd (bs.map lev) w h fx fy))=some 0:=Qao hn ha.img
 have kB:QH 5000 10 10 (img (grd (bs.map lev) w h gx gy))=some 0:=Qao hn hbb.img
 rw [if_pos (by unfold Qb;omega),if_pos (by omega),if_pos (by unfold Qb;omega),if_pos (by unfold Qb;omega),if_pos (by omega),if_pos (by unfold Qb;omega),if_pos (by unfold Qb;omega),if_pos (by unfold Qb;omega),if_pos (by unfold Qb;omega),if_pos (by unfold Qb;omega),if_pos (by unfold Qb;omega),if_pos (by unfold Wm;rw [List.length_map];omega),pA,Option.bind_some,pB,Option.bind_some]
 dsimp only
 rw [if_pos rfl,if_pos rfl,kA,Option.bind_some,if_pos rfl,kB,Option.bind_some,if_pos rfl,Uc ha,Uc hbb,if_pos (show ((100:Nat):Int)=100 from rfl),if_pos (show ((100:Nat):Int)=100 from rfl),if_pos (by unfold Wm;omega),if_pos (by unfold Wm;omega)]
 obtain ⟨c,hdiff,hc⟩:=QeT hn t hl
 obtain ⟨x,y,p,q,hsh,hse,hx,hy,hp0,hp⟩:=QcC hn t hl
 have hseen:=QeC hn ha hbb hsh hx hy (t:=d) (b:=(b:Int)) ⟨by omega,by omega⟩ ⟨by omega,by omega⟩
 rw [hdiff,Option.bind_some,hsh,Option.bind_some,hse,Option.bind_some,hseen,Option.bind_some]
 dsimp only
 have hfew2:=QeF (ls:=bs.map lev) (W:=w) (H:=h) (fx:=gx) (fy:=gy) (by omega) (by omega) (by omega) (by omega)
 have hlen:((pts (grd (bs.map lev) w h gx gy)).map Qn).length=(pts (grd (bs.map lev) w h gx gy)).length:=List.length_map ..
 rw [if_pos rfl,if_pos rfl,if_pos rfl,if_pos rfl,if_pos rfl,if_neg (by omega),if_pos (by decide),if_neg (by omega),Qe2 hn hbb,Option.bind_some]
 dsimp only
 rw [if_pos rfl,if_neg (by rw [hlen];omega)]
 by_cases hz:p=0
 ·rw [if_pos hz];rfl
 rw [if_neg hz]
 obtain ⟨rfl,rfl⟩:=hp hz
 have hmots:=Qb2 hn (t:=d) (xl:=x - b) (xh:=x+b) (yl:=y - b) (yh:=y+b) (w:=2 * b+1) ⟨by omega,by omega⟩ ⟨by omega,by omega⟩ ⟨by omega,by omega⟩ ⟨by omega,by omega⟩ (by omega) (by omega)
 have hml:=wS (x - b) (y - b) (2 * b+1)
 have hww:(2 * b+1) * (2 * b+1)≤7 * 7:=Nat.mul_le_mul (by omega) (by omega)
 rw [hmots,Option.bind_some,if_pos ((ug x y x y).2 rfl)]
 dsimp only
 rw [if_pos rfl,Qfw (n:=5000) (by omega) (by omega) (QaD ⟨by omega,by omega⟩ ⟨by omega,by omega⟩),Option.bind_some,if_pos rfl,if_pos (by unfold Wm;rw [hlen];omega)]
 have hmay:=Qfs hn ha (d:=d) (t:=d) (xl:=x - b) (xh:=x+b) (yl:=y - b) (yh:=y+b) (w:=2 * b+1) ⟨by omega,by omega⟩ ⟨by omega,by omega⟩ ⟨by omega,by omega⟩ (by omega) (by omega) ⟨by omega,by omega⟩ ⟨by omega,by omega⟩
  (ps:=pts (grd (bs.map lev) w h gx gy)) (by omega) (fun p hp=>Qbj hp)
 have hcv:=QbN hn ha (x:=x) (y:=y) (d:=d) ⟨by omega,by omega⟩ ⟨by omega,by omega⟩ ⟨by omega,by omega⟩
 rw [← kY t] at hcv
 have hwin:=Qba hn t hl hw7 hd ⟨by omega,by omega⟩ (b:=b) (by omega)
 have hsame:=QeD (n:=5000) (l:=pts (grd (bs.map lev) w h gx gy)) (by omega) (by omega)
 have hlm:(((pts (grd (bs.map lev) w h gx gy)).map (uu (sky (grd (bs.map lev) w h fx fy)) (YX (x - b) (y - b) (2 * b+1)) d d)).map jq).length=(pts (grd (bs.map lev) w h gx gy)).length:=by rw [List.length_map,List.length_map]
 by_cases hnil:We ((pts (grd (bs.map lev) w h gx gy)).map Qn)=true
 ·have he:(pts (grd (bs.map lev) w h gx gy)).map Qn=[]:=by
   cases hq:(pts (grd (bs.map lev) w h gx gy)).map Qn with
   | nil=>rfl
   | cons a l=>rw [hq] at hnil;cases hnil
  have hmay0:WT 5000 10 10 (img (grd (bs.map lev) w h fx fy)) 1031798784 d (x - b) (x+b) (y - b) (y+b) d []=WT 5000 10 10 (img (grd (bs.map lev) w h fx fy)) 1031798784 d (x - b) (x+b) (y - b) (y+b) d ((pts (grd (bs.map lev) w h gx gy)).map Qn):=by rw [he]
  rw [if_pos hnil,hmay0,hmay,Option.bind_some,hcv,Option.bind_some]
  dsimp only
  rw [if_pos rfl,if_pos rfl,hlm,hlen,if_pos rfl,hsame,Option.bind_some,if_pos rfl,hwin,Option.bind_some]
  rfl
 ·rw [if_neg hnil,hmay,Option.bind_some,hcv,Option.bind_some]
  dsimp only
  rw [if_pos rfl,if_pos rfl,hlm,hlen,if_pos rfl,hsame,Option.bind_some,if_pos rfl,hwin,Option.bind_some]
  rfl
theorem X6 (Ds:List D) (hh:okAs [(true,[.int .i64,.int .i64,.lst false [.flt .f32]]),(true,[.int .u8,.int .u8,.int .u8,.int .u8]),(true,[.int .u8,.int .u8])] Ds):Computes cx 3 Ds (.v (.bool true)):=by
 obtain ⟨d1,l1_,rfl,p1,hh1⟩:=Qbq hh
 obtain ⟨cs2,rfl,q2⟩:=QdK p1
 obtain ⟨d3,r3,rfl,p3,q3⟩:=XI q2
 obtain ⟨a0,rfl,h0⟩:=ok_i p3
 have b0:=Qfb h0
 obtain ⟨d4,r4,rfl,p4,q4⟩:=XI q3
 obtain ⟨a1,rfl,h1⟩:=ok_i p4
 have b1:=Qfb h1
 obtain ⟨d5,r5,rfl,p5,q5⟩:=XI q4
 obtain ⟨es2,rfl,l2,h2⟩:=QfL p5
 obtain ⟨a2,rfl,b2⟩:=QdV (enc:=fun x:Nat=>(.v (.float .f32 x):D)) (p:=fun x:Nat=>(Lit.float .f32 x).wf=true) (es:=es2) (fun e he=>by
  obtain ⟨x,rfl,b⟩:=QfM (h2 e he)
  exact ⟨x,rfl,b⟩)
 rw [List.length_map] at l2
 cases QdJ q5
 obtain ⟨d6,l6_,rfl,p6,hh6⟩:=Qbq hh1
 obtain ⟨cs7,rfl,q7⟩:=QdK p6
 obtain ⟨d8,r8,rfl,p8,q8⟩:=XI q7
 obtain ⟨a3,rfl,h3⟩:=ok_i p8
 have b3:=u8_b h3
 obtain ⟨d9,r9,rfl,p9,q9⟩:=XI q8
 obtain ⟨a4,rfl,h4⟩:=ok_i p9
 have b4:=u8_b h4
 obtain ⟨d10,r10,rfl,p10,q10⟩:=XI q9
 obtain ⟨a5,rfl,h5⟩:=ok_i p10
 have b5:=u8_b h5
 obtain ⟨d11,r11,rfl,p11,q11⟩:=XI q10
 obtain ⟨a6,rfl,h6⟩:=ok_i p11
 have b6:=u8_b h6
 cases QdJ q11
 obtain ⟨d12,l12_,rfl,p12,hh12⟩:=Qbq hh6
 obtain ⟨cs13,rfl,q13⟩:=QdK p12
 obtain ⟨d14,r14,rfl,p14,q14⟩:=XI q13
 obtain ⟨a7,rfl,h7⟩:=ok_i p14
 have b7:=u8_b h7
 obtain ⟨d15,r15,rfl,p15,q15⟩:=XI q14
 obtain ⟨a8,rfl,h8⟩:=ok_i p15
 have b8:=u8_b h8
 cases QdJ q15
 cases Qfp hh12
 exact Xq (EN a0 a1 a2 b3 b4 b5 b6 b7 b8)
end Go.Proofs.YtfiigcbhiopagaaGreat
