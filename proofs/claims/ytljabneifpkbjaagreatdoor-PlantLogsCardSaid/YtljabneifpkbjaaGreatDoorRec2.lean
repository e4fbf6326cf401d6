/- Own texts, merged: Rec1, Rec2. -/
import Derived.Test.YtljabneifpkbjaaGreatDoorGen5
import Derived.Test.YtljabneifpkbjaaGreatDoorShel2
set_option linter.unusedVariables false
set_option linter.unusedSimpArgs false
set_option linter.unnecessarySimpa false
set_option maxRecDepth 10000
set_option maxHeartbeats 4000000
namespace Go.Proofs.YtljabneifpkbjaaGreatDoor
open Go.SX
def Qi2 (n:Nat) (a0:jSj):Option (Int) :=
 if ((⟨#[10]⟩:jSj).toList == a0.toList)=true then
  some 0
 else
 (Qi6 n a0 10).bind fun t2 =>
 some t2
theorem Qkj {n:Nat} {a0:jSj} {r:Int} (h:Qi2 n a0=some r):Computes cx 206 [.v (.string a0),.v (.string ⟨#[10]⟩)] (I r):=by
 unfold Qi2 at h
 rcases io h with ⟨h1,h⟩ | ⟨h1,h⟩
 ·obtain rfl:=oi h
  exact rf [.no,b1] (Qa h1 QL)
 obtain ⟨t2,h2,h⟩:=bo h;obtain rfl:=oi h
 exact rf [.no,b0,.no,.no,.ret (I t2)] (Qa (QjZ h2) (Qa (QA h1) QL))
def Qje (n:Nat) (a0:jSj):Option (jSj×jSj×Bool) :=
 (Qi2 n a0).bind fun t1 =>
 if t1 ≥ 0 then
  (Qi7 a0 none (some t1)).bind fun t3 =>
  if Qh (t1+1) then
  (Qi7 a0 (some (t1+1)) none).bind fun t5 =>
  some (t3,t5,true)
  else none
 else
 some (a0,⟨#[]⟩,false)
theorem QkD {n:Nat} {a0:jSj} {r:jSj×jSj×Bool} (h:Qje n a0=some r):Computes cx 126 [.v (.string a0),.v (.string ⟨#[10]⟩)] (.tup [.v (.string r.1),.v (.string r.2.1),B r.2.2]):=by
 unfold Qje at h
 obtain ⟨t1,h1,h⟩:=bo h
 have q:=Qa (Qkj h1) QL
 rcases io h with ⟨h2,h⟩ | ⟨h2,h⟩
 ·obtain ⟨t3,h3,h⟩:=bo h;obtain ⟨h4,h⟩:=gd h;obtain ⟨t5,h5,h⟩:=bo h
  cases h
  exact rf [.ret (I t1),b1,.el (.v (.string t3)),.el (.v (.string t5))] (Qa (QiU h5:QV cx.P (Instr.sliceAt 9 (.string a0) (some (.int .i64 (t1+1))) none none)=some (.string t5)) (Qa h4 (Qa (QiU h3:QV cx.P (Instr.sliceAt 9 (.string a0) none (some (.int .i64 t1)) none)=some (.string t3)) (Qa (jDj h2) q))))
 cases h
 exact rf [.ret (I t1),b0] (Qa (jEj h2) q)
def Qjg (n:Nat) (a0:jSj):Option (jSj×jSj×Bool) :=
 (Qje n a0).bind fun t1 =>
 some (t1.1,t1.2.1,t1.2.2)
theorem QlC {n:Nat} {a0:jSj} {r:jSj×jSj×Bool} (h:Qjg n a0=some r):Computes cx 89 [.v (.string a0),.v (.string ⟨#[10]⟩)] (.tup [.v (.string r.1),.v (.string r.2.1),B r.2.2]):=by
 unfold Qjg at h
 obtain ⟨t1,h1,h⟩:=bo h
 cases h
 exact rf [.ret (.tup [.v (.string t1.1),.v (.string t1.2.1),B t1.2.2])] (Qa (QkD h1) QL)
def Qjh (n:Nat) (a0:jSj) (sa:(Int×Int)):Option (((Int×Int))⊕((Int))) :=
 if sa.2 < (a0.size:Int) then
  if Qh (353 * sa.1) then
  (WQ a0 sa.2).bind fun ta3 =>
  if Qh ((353 * sa.1)+(IntKind.wrap .i64 ta3)) then
  if Qh (sa.2+1) then
  some (.inl ((Int.tmod ((353 * sa.1)+(IntKind.wrap .i64 ta3)) 9999649),(sa.2+1)))
  else none
  else none
  else none
 else
 some (.inr sa.1)
noncomputable def Qkl (a0:jSj):Lp ((Int×Int)) ((Int)):=⟨fun sa=>[(0,.d (.v (.string a0))),(3,.d (I sa.1)),(8,.d (I (a0.size:Int))),(9,.d (I sa.2))],fun _=>[],fun _=>(.exit 0),fun e=>[(3,.d (I e))],fun _=>[]⟩
theorem Qkk {n:Nat} {a0:jSj} (sa:(Int×Int)) (r) (h:Qjh n a0 sa=some r):Rl (ZJ cx.P 125 0) 38 0 false (Qkl a0) sa r:=by
 unfold Qjh at h
 rcases io h with ⟨ha1,h⟩ | ⟨ha1,h⟩
 ·obtain ⟨ha2,h⟩:=gd h;obtain ⟨ta3,ha3,h⟩:=bo h;obtain ⟨ha4,h⟩:=gd h;obtain ⟨ha5,h⟩:=gd h
  cases h
  exact rn 5 [b1,.el (.v (.int .u8 ta3))] [] [0,3,8,9] [] (Qa ha5 (Qa ((by decide):(9999649:Int)≠0) (Qa ha4 (Qa (Zq ha3:QV cx.P (Instr.index 9 (.string a0) (.int .i64 sa.2))=some (.int .u8 ta3)) (Qa ha2 (Qa (jDj ha1) QL))))))
 cases h
 exact rx 5 [b0] [] [3] [] (Qa (jEj ha1) QL)
def Qi5 (n:Nat) (a0:jSj):Option (jSj) :=
 (Q2 (Qjh n a0) n (1,0)).bind fun t1 =>
 if Qh (48+(Int.tmod t1 10)) then
 if Qh (Int.tdiv t1 10) then
 if Qh (48+(Int.tmod (Int.tdiv t1 10) 10)) then
 if Qh (Int.tdiv (Int.tdiv t1 10) 10) then
 if Qh (48+(Int.tmod (Int.tdiv (Int.tdiv t1 10) 10) 10)) then
 if Qh (Int.tdiv (Int.tdiv (Int.tdiv t1 10) 10) 10) then
 if Qh (48+(Int.tmod (Int.tdiv (Int.tdiv (Int.tdiv t1 10) 10) 10) 10)) then
 if Qh (Int.tdiv (Int.tdiv (Int.tdiv (Int.tdiv t1 10) 10) 10) 10) then
 if Qh (48+(Int.tmod (Int.tdiv (Int.tdiv (Int.tdiv (Int.tdiv t1 10) 10) 10) 10) 10)) then
 if Qh (Int.tdiv (Int.tdiv (Int.tdiv (Int.tdiv (Int.tdiv t1 10) 10) 10) 10) 10) then
 if Qh (48+(Int.tmod (Int.tdiv (Int.tdiv (Int.tdiv (Int.tdiv (Int.tdiv t1 10) 10) 10) 10) 10) 10)) then
 if Qh (Int.tdiv (Int.tdiv (Int.tdiv (Int.tdiv (Int.tdiv (Int.tdiv t1 10) 10) 10) 10) 10) 10) then
 if Qh (48+(Int.tmod (Int.tdiv (Int.tdiv (Int.tdiv (Int.tdiv (Int.tdiv (Int.tdiv t1 10) 10) 10) 10) 10) 10) 10)) then
 if Qh (Int.tdiv (Int.tdiv (Int.tdiv (Int.tdiv (Int.tdiv (Int.tdiv (Int.tdiv t1 10) 10) 10) 10) 10) 10) 10) then
 ((qV ([.v (.int .u8 (IntKind.wrap .u8 (48+(Int.tmod (Int.tdiv (Int.tdiv (Int.tdiv (Int.tdiv (Int.tdiv (Int.tdiv t1 10) 10) 10) 10) 10) 10) 10)))),.v (.int .u8 (IntKind.wrap .u8 (48+(Int.tmod (Int.tdiv (Int.tdiv (Int.tdiv (Int.tdiv (Int.tdiv t1 10) 10) 10) 10) 10) 10)))),.v (.int .u8 (IntKind.wrap .u8 (48+(Int.tmod (Int.tdiv (Int.tdiv (Int.tdiv (Int.tdiv t1 10) 10) 10) 10) 10)))),.v (.int .u8 (IntKind.wrap .u8 (48+(Int.tmod (Int.tdiv (Int.tdiv (Int.tdiv t1 10) 10) 10) 10)))),.v (.int .u8 (IntKind.wrap .u8 (48+(Int.tmod (Int.tdiv (Int.tdiv t1 10) 10) 10)))),.v (.int .u8 (IntKind.wrap .u8 (48+(Int.tmod (Int.tdiv t1 10) 10)))),.v (.int .u8 (IntKind.wrap .u8 (48+(Int.tmod t1 10))))])).map fun l=>ByteArray.mk l.toArray).bind fun t16 =>
 some t16
 else none
 else none
 else none
 else none
 else none
 else none
 else none
 else none
 else none
 else none
 else none
 else none
 else none
 else none
theorem QjY {n:Nat} {a0:jSj} {r:jSj} (h:Qi5 n a0=some r):Computes cx 125 [.v (.string a0)] (.v (.string r)):=by
 unfold Qi5 at h
 obtain ⟨t1,h1,h⟩:=bo h;obtain ⟨h2,h⟩:=gd h;obtain ⟨h3,h⟩:=gd h;obtain ⟨h4,h⟩:=gd h;obtain ⟨h5,h⟩:=gd h;obtain ⟨h6,h⟩:=gd h;obtain ⟨h7,h⟩:=gd h;obtain ⟨h8,h⟩:=gd h;obtain ⟨h9,h⟩:=gd h;obtain ⟨h10,h⟩:=gd h;obtain ⟨h11,h⟩:=gd h;obtain ⟨h12,h⟩:=gd h;obtain ⟨h13,h⟩:=gd h
 obtain ⟨h14,h⟩:=gd h;obtain ⟨h15,h⟩:=gd h;obtain ⟨t16,h16,h⟩:=bo h;obtain rfl:=oi h
 exact rf (.lp [] [0,3,8,9] [] (.exit 0) [(3,.d (I t1))] [] 30::(no 31 [.el (.v (.string t16))])) (Qa h16 (Qa ((by unfold Qh;omega):Qh 7) (Qa ((by decide):(10:Int)≠0) (Qa h15 (Qa h14 (Qa ((by decide):(10:Int)≠0) (Qa ((by unfold Qh;omega):Qh 0) (Qa ((by unfold Qh;omega):Qh 6) (Qa ((by decide):(10:Int)≠0) (Qa h13 (Qa h12 (Qa ((by decide):(10:Int)≠0) (Qa ((by unfold Qh;omega):Qh 1) (Qa ((by unfold Qh;omega):Qh 5) (Qa ((by decide):(10:Int)≠0) (Qa h11 (Qa h10 (Qa ((by decide):(10:Int)≠0) (Qa ((by unfold Qh;omega):Qh 2) (Qa ((by unfold Qh;omega):Qh 4) (Qa ((by decide):(10:Int)≠0) (Qa h9 (Qa h8 (Qa ((by decide):(10:Int)≠0) (Qa ((by unfold Qh;omega):Qh 3) (Qa ((by unfold Qh;omega):Qh 3) (Qa ((by decide):(10:Int)≠0) (Qa h7 (Qa h6 (Qa ((by decide):(10:Int)≠0) (Qa ((by unfold Qh;omega):Qh 4) (Qa ((by unfold Qh;omega):Qh 2) (Qa ((by decide):(10:Int)≠0) (Qa h5 (Qa h4 (Qa ((by decide):(10:Int)≠0) (Qa ((by unfold Qh;omega):Qh 5) (Qa ((by unfold Qh;omega):Qh 1) (Qa ((by decide):(10:Int)≠0) (Qa h3 (Qa h2 (Qa ((by decide):(10:Int)≠0) (Qa ((by unfold Qh;omega):Qh 6) (Qa (QH Qkk h1) QL))))))))))))))))))))))))))))))))))))))))))))
def Qi9 (n:Nat) (a0:jSj):Option (Int) :=
 if ((⟨#[32]⟩:jSj).toList == a0.toList)=true then
  some 0
 else
 (Qi6 n a0 32).bind fun t2 =>
 some t2
theorem Qj8 {n:Nat} {a0:jSj} {r:Int} (h:Qi9 n a0=some r):Computes cx 206 [.v (.string a0),.v (.string ⟨#[32]⟩)] (I r):=by
 unfold Qi9 at h
 rcases io h with ⟨h1,h⟩ | ⟨h1,h⟩
 ·obtain rfl:=oi h
  exact rf [.no,b1] (Qa h1 QL)
 obtain ⟨t2,h2,h⟩:=bo h;obtain rfl:=oi h
 exact rf [.no,b0,.no,.no,.ret (I t2)] (Qa (QjZ h2) (Qa (QA h1) QL))
def Qjo (n:Nat) (a0:jSj):Option (Int) :=
 (Qi9 n a0).bind fun t1 =>
 some t1
theorem QkX {n:Nat} {a0:jSj} {r:Int} (h:Qjo n a0=some r):Computes cx 197 [.v (.string a0),.v (.string ⟨#[32]⟩)] (I r):=by
 unfold Qjo at h
 obtain ⟨t1,h1,h⟩:=bo h;obtain rfl:=oi h
 exact rf [.ret (I t1)] (Qa (Qj8 h1) QL)
def QiN (n:Nat) (a0:jSj) (t1:Int) (sa:(jSj×Int×jVj)):Option (((jSj×Int×jVj))⊕((jSj×Int×jVj))) :=
 if sa.2.1 < ((minI (t1+1) ((a0.size:Int)+1)) - 1) then
  (Qjo n sa.1).bind fun ta2 =>
  if ta2 < 0 then
   some (.inr (sa.1,sa.2.1,sa.2.2))
  else
  if Qh (ta2+0) then
  (Qi7 sa.1 none (some (ta2+0))).bind fun ta5 =>
  if 0≤sa.2.1∧sa.2.1 < ((sa.2.2).length:Int) then
  if (Int.toNat sa.2.1) < (sa.2.2).length then
  if Qh (ta2+1) then
  (Qi7 sa.1 (some (ta2+1)) none).bind fun ta9 =>
  if Qh (sa.2.1+1) then
  some (.inl (ta9,(sa.2.1+1),(List.set sa.2.2 (Int.toNat sa.2.1) (.v (.string ta5):D))))
  else none
  else none
  else none
  else none
  else none
 else
 some (.inr (sa.1,sa.2.1,sa.2.2))
noncomputable def Qkb (a0:jSj) (t1:Int):Lp ((jSj×Int×jVj)) ((jSj×Int×jVj)):=⟨fun sa=>[(0,.d (.v (.string sa.1))),(1,.d (.v (.string ⟨#[32]⟩))),(2,.d (I 0)),(3,.d (I ((minI (t1+1) ((a0.size:Int)+1)) - 1))),(9,.own 19 0),(10,.d (I sa.2.1))],fun sa=>[(19,.row 0 1 sa.2.2)],fun _=>(.exit 0),fun e=>[(0,.d (.v (.string e.1))),(9,.own 19 0),(10,.d (I e.2.1))],fun e=>[(19,.row 0 1 e.2.2)]⟩
theorem Qj9 {n:Nat} {a0:jSj} {t1:Int} (sa:(jSj×Int×jVj)) (r) (h:QiN n a0 t1 sa=some r):Rl (ZJ cx.P 116 0) 66 0 false (Qkb a0 t1) sa r:=by
 unfold QiN at h
 rcases io h with ⟨ha1,h⟩ | ⟨ha1,h⟩
 ·obtain ⟨ta2,ha2,h⟩:=bo h
  have q:=Qa (QkX ha2) (Qa (jDj ha1) QL)
  rcases io h with ⟨ha3,h⟩ | ⟨ha3,h⟩
  ·cases h
   exact rx 25 [b1,.ret (I ta2),b1] [] [0,9,10] [19] (Qa (jDj ha3) q)
  obtain ⟨ha4,h⟩:=gd h;obtain ⟨ta5,ha5,h⟩:=bo h;obtain ⟨ha6,h⟩:=gd h;obtain ⟨ha7,h⟩:=gd h;obtain ⟨ha8,h⟩:=gd h;obtain ⟨ta9,ha9,h⟩:=bo h;obtain ⟨ha10,h⟩:=gd h
  cases h
  exact rn 25 [b1,.ret (I ta2),b0,.el (.v (.string ta5)),b1,b1,.el (.v (.string ta9))] [] [0,1,2,3,9,10] [19] (Qa ha10 (Qa (QiU ha9:QV cx.P (Instr.sliceAt 9 (.string sa.1) (some (.int .i64 (ta2+1))) none none)=some (.string ta9)) (Qa ha8 (Qa ha7 (Qa ha6 (Qa (QiU ha5:QV cx.P (Instr.sliceAt 9 (.string sa.1) none (some (.int .i64 (ta2+0))) none)=some (.string ta5)) (Qa ha4 (Qa (jEj ha3) q))))))))
 cases h
 exact rx 25 [b0] [] [0,9,10] [19] (Qa (jEj ha1) QL)
def Qjl (n:Nat) (a0:jSj):Option (jVj) :=
 (QjA n a0 (⟨#[32]⟩)).bind fun t1 =>
 if Qh (t1+1) then
 if Qh ((a0.size:Int)+1) then
 if 0≤(minI (t1+1) ((a0.size:Int)+1))∧(minI (t1+1) ((a0.size:Int)+1))≤(minI (t1+1) ((a0.size:Int)+1))∧16 * (minI (t1+1) ((a0.size:Int)+1))≤281474976710656∧(minI (t1+1) ((a0.size:Int)+1))≤9223372036854775807 then
 if Qh ((minI (t1+1) ((a0.size:Int)+1)) - 1) then
 (Q2 (QiN n a0 t1) n (a0,0,(List.replicate (Int.toNat (minI (t1+1) ((a0.size:Int)+1))) (.v (.string ⟨#[]⟩):D)))).bind fun t6 =>
 if 0≤t6.2.1∧t6.2.1 < ((t6.2.2).length:Int) then
 if (Int.toNat t6.2.1) < (t6.2.2).length then
 if Qh (t6.2.1+1) then
 if (0:Int)≤0∧0≤(t6.2.1+1)∧(t6.2.1+1)≤(((List.set t6.2.2 (Int.toNat t6.2.1) (.v (.string t6.1):D)):jVj).length:Int)∧((List.set t6.2.2 (Int.toNat t6.2.1) (.v (.string t6.1):D))=[] ∨ 1=1) then
 some (((List.set t6.2.2 (Int.toNat t6.2.1) (.v (.string t6.1):D)).take (Int.toNat (t6.2.1+1))).drop (Int.toNat 0))
 else none
 else none
 else none
 else none
 else none
 else none
 else none
 else none
theorem Qkq {n:Nat} {a0:jSj} {r:jVj} (h:Qjl n a0=some r):Computes cx 116 [.v (.string a0),.v (.string ⟨#[32]⟩),I 0,I (-1)] (.lst false 1 r):=by
 unfold Qjl at h
 obtain ⟨t1,h1,h⟩:=bo h;obtain ⟨h2,h⟩:=gd h;obtain ⟨h3,h⟩:=gd h;obtain ⟨h4,h⟩:=gd h;obtain ⟨h5,h⟩:=gd h;obtain ⟨t6,h6,h⟩:=bo h;obtain ⟨h7,h⟩:=gd h;obtain ⟨h8,h⟩:=gd h;obtain ⟨h9,h⟩:=gd h;obtain ⟨h10,h⟩:=gd h
 cases h
 exact rf [.no,.no,.no,.ret (I t1),b1,.lp [] [0,1,2,3,9,10] [19] (.exit 0) [(0,.d (.v (.string t6.1))),(9,.own 19 0),(10,.d (I t6.2.1))] [(19,.row 0 1 t6.2.2)] 64,b1,b1,b1] (Qa h10 (Qa h9 (Qa h8 (Qa h7 (Qa (QH Qj9 h6) (Qa h5 (Qa h4 (Qa h3 (Qa h2 (Qa (QkY h1) QL))))))))))
def Qjn (n:Nat) (a0:jSj):Option (jVj) :=
 (Qjl n a0).bind fun t1 =>
 some t1
theorem QkW {n:Nat} {a0:jSj} {r:jVj} (h:Qjn n a0=some r):Computes cx 57 [.v (.string a0),.v (.string ⟨#[32]⟩)] (.lst false 1 r):=by
 unfold Qjn at h
 obtain ⟨t1,h1,h⟩:=bo h;obtain rfl:=oi h
 exact rf [.ret (.lst false 1 t1)] (Qa (Qkq h1) QL)
def QiK (n:Nat) (a0:jSj) (sa:(Int×Nat)):Option (((Int×Nat))⊕((Unit)⊕(Int))) :=
 if sa.2 < a0.size then
  if ((Utf8.decode a0 sa.2).1:Int) < 48 then
   some (.inr (.inl ()))
  else
  if ((Utf8.decode a0 sa.2).1:Int) > 57 then
   some (.inr (.inl ()))
  else
  if (a0.size:Int) > 9 then
   some (.inr (.inl ()))
  else
  if Qh (10 * sa.1) then
  if Qh ((10 * sa.1)+(IntKind.wrap .i64 (IntKind.wrap .i32 (((Utf8.decode a0 sa.2).1:Int) - 48)))) then
  some (.inl (((10 * sa.1)+(IntKind.wrap .i64 (IntKind.wrap .i32 (((Utf8.decode a0 sa.2).1:Int) - 48)))),(sa.2+(Utf8.decode a0 sa.2).2)))
  else none
  else none
 else
 some (.inr (.inr sa.1))
noncomputable def Qku (a0:jSj):Lp ((Int×Nat)) ((Unit)⊕(Int)):=⟨fun sa=>[(0,.d (.v (.string a0))),(4,.d (I sa.1)),(8,.own 4 0)],fun sa=>[(4,.it a0 sa.2)],fun
 | (.inl e)=>.ret
 | (.inr e)=>(.exit 0),fun
 | (.inl e)=>[(2,.d (I 0)),(3,.d (B false))]
 | (.inr e)=>[(0,.d (.v (.string a0))),(4,.d (I e))],fun _=>[]⟩
theorem QjT {n:Nat} {a0:jSj} (sa:(Int×Nat)) (r) (h:QiK n a0 sa=some r):Rl (ZJ cx.P 128 0) 42 0 false (Qku a0) sa r:=by
 unfold QiK at h
 rcases io h with ⟨ha1,h⟩ | ⟨ha1,h⟩
 ·have q:=Qa ha1 QL
  rcases io h with ⟨ha2,h⟩ | ⟨ha2,h⟩
  ·cases h
   exact rx 5 [b1,.no,b1,.no,.no] [] [2,3] [] (Qa (jDj ha2) q)
  have q:=Qa (jEj ha2) q
  let o (l:List Orc):=b1::.no::b0::l
  rcases io h with ⟨ha3,h⟩ | ⟨ha3,h⟩
  ·cases h
   exact rx 5 (o [b1,.no]) [] [2,3] [] (Qa (jDj ha3) q)
  have q:=Qa (jEj ha3) q
  rcases io h with ⟨ha4,h⟩ | ⟨ha4,h⟩
  ·cases h
   exact rx 5 (o [b0,b1]) [] [2,3] [] (Qa (jDj ha4) q)
  obtain ⟨ha5,h⟩:=gd h;obtain ⟨ha6,h⟩:=gd h
  cases h
  exact rn 5 (o [b0,b0]) [] [0,4,8] [4] (Qa ha6 (Qa ha5 (Qa (jEj ha4) q)))
 cases h
 exact rx 5 [b0,.no] [] [0,4] [] (Qa ha1 QL)
def Qjb (n:Nat) (a0:jSj):Option (Int×Bool) :=
 (Q2 (QiK n a0) n (0,0)).bind fun t1=>match t1 with
  | (.inl t1)=>(
   some (0,false))
  | (.inr t1)=>(
   if (!(a0.toList == (⟨#[]⟩:jSj).toList))=true then
    if (a0.size:Int)=1 then
     some (t1,true)
    else
    (WQ a0 0).bind fun t4 =>
    some (t1,(t4 != 48))
   else
   some (t1,false))
theorem Qj6 {n:Nat} {a0:jSj} {r:Int×Bool} (h:Qjb n a0=some r):Computes cx 128 [.v (.string a0)] (.tup [I r.1,B r.2]):=by
 unfold Qjb at h
 obtain ⟨t1,h1,h⟩:=bo h
 rcases t1 with t1 | t1
 ·cases h
  exact rf [.lp [] [0,4,8] [4] .ret [(2,.d (I 0)),(3,.d (B false))] [] 38] (Qa (QH QjT h1) QL)
 have q:=Qa (QH QjT h1) QL
 let o (l:List Orc):=.lp [] [0,4,8] [4] (.exit 0) [(0,.d (.v (.string a0))),(4,.d (I t1))] [] 38::l
 rcases io h with ⟨h2,h⟩ | ⟨h2,h⟩
 ·have q:=Qa h2 q
  rcases io h with ⟨h3,h⟩ | ⟨h3,h⟩
  ·cases h
   exact rf (o [b1,b1]) (Qa (eqt h3) q)
  obtain ⟨t4,h4,h⟩:=bo h
  cases h
  exact rf (o [b1,b0,.el (.v (.int .u8 t4))]) (Qa (Zq h4:QV cx.P (Instr.index 9 (.string a0) (.int .i64 0))=some (.int .u8 t4)) (Qa (eqf h3) q))
 cases h
 exact rf (o [b0]) (Qa (QA h2) q)
def QiO (n:Nat) (a0:jVj) (a1:Bool):Option (jSj×jVj×Bool) :=
 if ((a0).length:Int)=0 then
  some (⟨#[]⟩,[],true)
 else
 (el Ww a0 0).bind fun t2 =>
 if (t2.toList == (⟨#[]⟩:jSj).toList)=true then
  some (⟨#[]⟩,[],true)
 else
 if (0:Int)≤1∧1≤((a0).length:Int)∧((a0).length:Int)≤((a0).length:Int)∧(a0=[] ∨ 1=1) then
 some (t2,(a0.drop (Int.toNat 1)),a1)
 else none
theorem Qjj {n:Nat} {a0:jVj} {a1:Bool} {r:jSj×jVj×Bool} (h:QiO n a0 a1=some r):ComputesO cx 188 [.ptr 0 0 0 0 0] (some [.dat (.lst false 1 a0),.dat (B a1)]) (.d (.v (.string r.1))) [.dat (.lst false 1 r.2.1),.dat (B r.2.2)] []:=by
 unfold QiO at h
 rcases io h with ⟨h1,h⟩ | ⟨h1,h⟩
 ·cases h
  exact (rfO 0 (r:=.d (.v (.string ⟨#[]⟩))) (cs:=[.dat (.lst true 0 []),.dat (B true)]) [b1,.no] (Qa (eqt h1) QL)).le (.refl _) (.refl _) (.refl _) (.dat (.nilF) (.same _ (.nil)))
 obtain ⟨t2,h2,h⟩:=bo h
 have q:=allE Qr h2 (Qa (eqf h1) QL)
 rcases io h with ⟨h3,h⟩ | ⟨h3,h⟩
 ·cases h
  exact (rfO 0 (r:=.d (.v (.string ⟨#[]⟩))) (cs:=[.dat (.lst true 0 []),.dat (B true)]) [b0,.el (Zy t2),b1] (Qa h3 q)).le (.refl _) (.refl _) (.refl _) (.dat (.nilF) (.same _ (.nil)))
 obtain ⟨h4,h⟩:=gd h
 cases h
 exact rfO 0 [b0,.el (Zy t2),b0,.el (Zy t2),b1] (Qa h4 (allE Qr h2 (Qa (QA h3) q)))
def QiG (n:Nat) (a0:jVj) (a1:Bool):Option (Int×jVj×Bool) :=
 (QiO n a0 a1).bind fun t1 =>
 (Qjb n t1.1).bind fun t2 =>
 if t1.2.2=true then
  some (t2.1,t1.2.1,true)
 else
 some (t2.1,t1.2.1,(!t2.2))
theorem Qjd {n:Nat} {a0:jVj} {a1:Bool} {r:Int×jVj×Bool} (h:QiG n a0 a1=some r):ComputesO cx 189 [.ptr 0 0 0 0 0] (some [.dat (.lst false 1 a0),.dat (B a1)]) (.d (I r.1)) [.dat (.lst false 1 r.2.1),.dat (B r.2.2)] []:=by
 unfold QiG at h
 obtain ⟨t1,h1,h⟩:=bo h;obtain ⟨t2,h2,h⟩:=bo h
 have q:=Qa (Qj6 h2) (Qa (Qjj h1) QL)
 let o (l:List Orc):=.obj (some 0) (.d (.v (.string t1.1))) [.dat (.lst false 1 t1.2.1),.dat (B t1.2.2)] []::.ret (.tup [I t2.1,B t2.2])::l
 rcases io h with ⟨h3,h⟩ | ⟨h3,h⟩
 ·cases h
  exact rfO 0 (o [b1]) (Qa h3 q)
 cases h
 exact rfO 0 (o [b0]) (Qa (QA h3) q)
def QiQ (n:Nat) (a0:Int) (t1:jSj×jVj×Bool) (t3:jSj×Int×FnD×FnD) (sa:(Unit)⊕(jVj×Bool×Nat×jVj)):Option (((Unit)⊕(jVj×Bool×Nat×jVj))⊕((Unit)⊕(jVj×Bool×jVj))):=match sa with
 | (.inl sa)=>(
  if 0 < t3.1.size then
   (QiO n t1.2.1 t1.2.2).bind fun ta2 =>
   some (.inl (.inr (ta2.2.1,ta2.2.2,(0+(Utf8.decode t3.1 0).2),[.v (.string ta2.1)])))
  else
  some (.inr (.inl ())))
 | (.inr sa)=>(
  if sa.2.2.1 < t3.1.size then
   (QiO n sa.1 sa.2.1).bind fun ta2 =>
   if Wa 16 ((sa.2.2.2).length+1) then
   some (.inl (.inr (ta2.2.1,ta2.2.2,(sa.2.2.1+(Utf8.decode t3.1 sa.2.2.1).2),(sa.2.2.2++([.v (.string ta2.1)]:jVj)))))
   else none
  else
  some (.inr (.inr (sa.1,sa.2.1,sa.2.2.2))))
noncomputable def QkQ (a0:Int) (t1:jSj×jVj×Bool) (t3:jSj×Int×FnD×FnD):Lp ((Unit)⊕(jVj×Bool×Nat×jVj)) ((Unit)⊕(jVj×Bool×jVj)):=⟨fun _=>[(4,.ptr 0 0 0 0 0),(6,.ptr 4 0 0 0 0),(7,.fn (.func 188) [.ptr 4 0 0 0 0] []),(8,.ptr 13 0 0 0 0),(9,.ptr 24 0 0 0 0),(34,.own 31 0)],fun
 | (.inl sa)=>[(0,.box (.d (.agg [I 0,.v (.string ⟨#[]⟩),.lst true 0 [],.lst true 0 [],.v (.string ⟨#[]⟩)]))),(4,.box (.d (.agg [.lst false 1 t1.2.1,B t1.2.2]))),(13,.box (.d (.agg [I a0,.v (.string t1.1),.lst true 0 [],.lst true 0 [],.v (.string ⟨#[]⟩)]))),(24,.box (.d (.agg [.v (.string t3.1),I t3.2.1,.fn t3.2.2.1.1 t3.2.2.1.2.1 t3.2.2.1.2.2,.fn t3.2.2.2.1 t3.2.2.2.2.1 t3.2.2.2.2.2]))),(31,.it t3.1 0)]
 | (.inr sa)=>[(0,.box (.d (.agg [I 0,.v (.string ⟨#[]⟩),.lst true 0 [],.lst true 0 [],.v (.string ⟨#[]⟩)]))),(4,.box (.d (.agg [.lst false 1 sa.1,B sa.2.1]))),(13,.box (.agg [.d (I a0),.d (.v (.string t1.1)),.own 43 0,.d (.lst true 0 []),.d (.v (.string ⟨#[]⟩))])),(24,.box (.d (.agg [.v (.string t3.1),I t3.2.1,.fn t3.2.2.1.1 t3.2.2.1.2.1 t3.2.2.1.2.2,.fn t3.2.2.2.1 t3.2.2.2.2.1 t3.2.2.2.2.2]))),(31,.it t3.1 sa.2.2.1),(43,.row 0 1 sa.2.2.2)],fun _=>(.exit 0),fun _=>[(4,.ptr 0 0 0 0 0),(6,.ptr 4 0 0 0 0),(8,.ptr 13 0 0 0 0),(9,.ptr 24 0 0 0 0)],fun
 | (.inl e)=>[(0,.box (.d (.agg [I 0,.v (.string ⟨#[]⟩),.lst true 0 [],.lst true 0 [],.v (.string ⟨#[]⟩)]))),(4,.box (.d (.agg [.lst false 1 t1.2.1,B t1.2.2]))),(13,.box (.d (.agg [I a0,.v (.string t1.1),.lst true 0 [],.lst true 0 [],.v (.string ⟨#[]⟩)]))),(24,.box (.d (.agg [.v (.string t3.1),I t3.2.1,.fn t3.2.2.1.1 t3.2.2.1.2.1 t3.2.2.1.2.2,.fn t3.2.2.2.1 t3.2.2.2.2.1 t3.2.2.2.2.2])))]
 | (.inr e)=>[(0,.box (.d (.agg [I 0,.v (.string ⟨#[]⟩),.lst true 0 [],.lst true 0 [],.v (.string ⟨#[]⟩)]))),(4,.box (.d (.agg [.lst false 1 e.1,B e.2.1]))),(13,.box (.agg [.d (I a0),.d (.v (.string t1.1)),.own 43 0,.d (.lst true 0 []),.d (.v (.string ⟨#[]⟩))])),(24,.box (.d (.agg [.v (.string t3.1),I t3.2.1,.fn t3.2.2.1.1 t3.2.2.1.2.1 t3.2.2.1.2.2,.fn t3.2.2.2.1 t3.2.2.2.2.1 t3.2.2.2.2.2]))),(43,.row 0 1 e.2.2)]⟩
theorem Qj2 {n:Nat} {a0:Int} {t1:jSj×jVj×Bool} {t3:jSj×Int×FnD×FnD} (sa:(Unit)⊕(jVj×Bool×Nat×jVj)) (r) (h:QiQ n a0 t1 t3 sa=some r):Rl (ZJ cx.P 103 0) 72 0 false (QkQ a0 t1 t3) sa r:=by
 unfold QiQ at h
 rcases sa with sa | sa
 ·rcases io h with ⟨ha1,h⟩ | ⟨ha1,h⟩
  ·obtain ⟨ta2,ha2,h⟩:=bo h
   cases h
   exact rn 32 [b1,.no,.obj (some 4) (.d (.v (.string ta2.1))) [.dat (.lst false 1 ta2.2.1),.dat (B ta2.2.2)] [],.no,.no] [] [4,6,7,8,9,34] [0,4,13,24,31,43] (Qa (Qjj ha2) (Qa ha1 QL))
  cases h
  exact rx 32 [b0,.no] [] [4,6,8,9] [0,4,13,24] (Qa ha1 QL)
 ·rcases io h with ⟨ha1,h⟩ | ⟨ha1,h⟩
  ·obtain ⟨ta2,ha2,h⟩:=bo h;obtain ⟨ha3,h⟩:=gd h
   cases h
   exact rn 44 [b1,.no,.obj (some 4) (.d (.v (.string ta2.1))) [.dat (.lst false 1 ta2.2.1),.dat (B ta2.2.2)] [],b1] [] [4,6,7,8,9,34] [0,4,13,24,31,43] (Qa (ro 9 ha3) (Qa (Qjj ha2) (Qa ha1 QL)))
  cases h
  exact rx 44 [b0,.no] [] [4,6,8,9] [0,4,13,24,43] (Qa ha1 QL)
def QjM (n:Nat) (a0:Int) (t1:jSj×jVj×Bool) (t3:jSj×Int×FnD×FnD) (sa:(Unit)⊕(Int×jVj×Bool×jVj)):Option (((Unit)⊕(Int×jVj×Bool×jVj))⊕((Unit)⊕(jVj×Bool×jVj))):=match sa with
 | (.inl sa)=>(
  if 0 < t3.2.1 then
   (QiG n t1.2.1 t1.2.2).bind fun ta2 =>
   some (.inl (.inr (1,ta2.2.1,ta2.2.2,[I ta2.1])))
  else
  some (.inr (.inl ())))
 | (.inr sa)=>(
  if sa.1 < t3.2.1 then
   (QiG n sa.2.1 sa.2.2.1).bind fun ta2 =>
   if Wa 8 ((sa.2.2.2).length+1) then
   if Qh (sa.1+1) then
   some (.inl (.inr ((sa.1+1),ta2.2.1,ta2.2.2,(sa.2.2.2++([I ta2.1]:jVj)))))
   else none
   else none
  else
  some (.inr (.inr (sa.2.1,sa.2.2.1,sa.2.2.2))))
noncomputable def QkP (a0:Int) (t1:jSj×jVj×Bool) (t3:jSj×Int×FnD×FnD):Lp ((Unit)⊕(Int×jVj×Bool×jVj)) ((Unit)⊕(jVj×Bool×jVj)):=⟨fun
 | (.inl sa)=>[(4,.ptr 0 0 0 0 0),(6,.ptr 4 0 0 0 0),(8,.ptr 13 0 0 0 0),(46,.d (I t3.2.1)),(47,.d (I 0))]
 | (.inr sa)=>[(4,.ptr 0 0 0 0 0),(6,.ptr 4 0 0 0 0),(8,.ptr 13 0 0 0 0),(46,.d (I t3.2.1)),(47,.d (I sa.1))],fun
 | (.inl sa)=>[(0,.box (.d (.agg [I 0,.v (.string ⟨#[]⟩),.lst true 0 [],.lst true 0 [],.v (.string ⟨#[]⟩)]))),(4,.box (.d (.agg [.lst false 1 t1.2.1,B t1.2.2]))),(13,.box (.d (.agg [I a0,.v (.string t1.1),.lst true 0 [],.lst true 0 [],.v (.string ⟨#[]⟩)])))]
 | (.inr sa)=>[(0,.box (.d (.agg [I 0,.v (.string ⟨#[]⟩),.lst true 0 [],.lst true 0 [],.v (.string ⟨#[]⟩)]))),(4,.box (.d (.agg [.lst false 1 sa.2.1,B sa.2.2.1]))),(13,.box (.agg [.d (I a0),.d (.v (.string t1.1)),.d (.lst true 0 []),.own 82 0,.d (.v (.string ⟨#[]⟩))])),(82,.row 0 1 sa.2.2.2)],fun _=>(.exit 2),fun _=>[(4,.ptr 0 0 0 0 0),(6,.ptr 4 0 0 0 0),(8,.ptr 13 0 0 0 0)],fun
 | (.inl e)=>[(0,.box (.d (.agg [I 0,.v (.string ⟨#[]⟩),.lst true 0 [],.lst true 0 [],.v (.string ⟨#[]⟩)]))),(4,.box (.d (.agg [.lst false 1 t1.2.1,B t1.2.2]))),(13,.box (.d (.agg [I a0,.v (.string t1.1),.lst true 0 [],.lst true 0 [],.v (.string ⟨#[]⟩)])))]
 | (.inr e)=>[(0,.box (.d (.agg [I 0,.v (.string ⟨#[]⟩),.lst true 0 [],.lst true 0 [],.v (.string ⟨#[]⟩)]))),(4,.box (.d (.agg [.lst false 1 e.1,B e.2.1]))),(13,.box (.agg [.d (I a0),.d (.v (.string t1.1)),.d (.lst true 0 []),.own 82 0,.d (.v (.string ⟨#[]⟩))])),(82,.row 0 1 e.2.2)]⟩
theorem Qj1 {n:Nat} {a0:Int} {t1:jSj×jVj×Bool} {t3:jSj×Int×FnD×FnD} (sa:(Unit)⊕(Int×jVj×Bool×jVj)) (r) (h:QjM n a0 t1 t3 sa=some r):Rl (ZJ cx.P 103 1) 72 0 false (QkP a0 t1 t3) sa r:=by
 unfold QjM at h
 rcases sa with sa | sa
 ·rcases io h with ⟨ha1,h⟩ | ⟨ha1,h⟩
  ·obtain ⟨ta2,ha2,h⟩:=bo h
   cases h
   exact rn 72 [b1,.obj (some 4) (.d (I ta2.1)) [.dat (.lst false 1 ta2.2.1),.dat (B ta2.2.2)] [],.no,.no] [] [4,6,8,46,47] [0,4,13,82] (Qa ((by unfold Qh;omega):Qh 1) (Qa (Qjd ha2) (Qa (jDj ha1) QL)))
  cases h
  exact rx 72 [b0] [] [4,6,8] [0,4,13] (Qa (jEj ha1) QL)
 ·rcases io h with ⟨ha1,h⟩ | ⟨ha1,h⟩
  ·obtain ⟨ta2,ha2,h⟩:=bo h;obtain ⟨ha3,h⟩:=gd h;obtain ⟨ha4,h⟩:=gd h
   cases h
   exact rn 83 [b1,.obj (some 4) (.d (I ta2.1)) [.dat (.lst false 1 ta2.2.1),.dat (B ta2.2.2)] [],b1] [] [4,6,8,46,47] [0,4,13,82] (Qa ha4 (Qa (ro 3 ha3) (Qa (Qjd ha2) (Qa (jDj ha1) QL))))
  cases h
  exact rx 83 [b0] [] [4,6,8] [0,4,13,82] (Qa (jEj ha1) QL)
def QjL (n:Nat) (a0:Int) (t1:jSj×jVj×Bool) (t3:jSj×Int×FnD×FnD) (t4:jVj×Bool×jVj) (sa:(Unit)⊕(Int×jVj×Bool×jVj)):Option (((Unit)⊕(Int×jVj×Bool×jVj))⊕((Unit)⊕(jVj×Bool×jVj))):=match sa with
 | (.inl sa)=>(
  if 0 < t3.2.1 then
   (QiG n t4.1 t4.2.1).bind fun ta2 =>
   some (.inl (.inr (1,ta2.2.1,ta2.2.2,[I ta2.1])))
  else
  some (.inr (.inl ())))
 | (.inr sa)=>(
  if sa.1 < t3.2.1 then
   (QiG n sa.2.1 sa.2.2.1).bind fun ta2 =>
   if Wa 8 ((sa.2.2.2).length+1) then
   if Qh (sa.1+1) then
   some (.inl (.inr ((sa.1+1),ta2.2.1,ta2.2.2,(sa.2.2.2++([I ta2.1]:jVj)))))
   else none
   else none
  else
  some (.inr (.inr (sa.2.1,sa.2.2.1,sa.2.2.2))))
noncomputable def QkO (a0:Int) (t1:jSj×jVj×Bool) (t3:jSj×Int×FnD×FnD) (t4:jVj×Bool×jVj):Lp ((Unit)⊕(Int×jVj×Bool×jVj)) ((Unit)⊕(jVj×Bool×jVj)):=⟨fun
 | (.inl sa)=>[(4,.ptr 0 0 0 0 0),(6,.ptr 4 0 0 0 0),(8,.ptr 13 0 0 0 0),(46,.d (I t3.2.1)),(47,.d (I 0))]
 | (.inr sa)=>[(4,.ptr 0 0 0 0 0),(6,.ptr 4 0 0 0 0),(8,.ptr 13 0 0 0 0),(46,.d (I t3.2.1)),(47,.d (I sa.1))],fun
 | (.inl sa)=>[(0,.box (.d (.agg [I 0,.v (.string ⟨#[]⟩),.lst true 0 [],.lst true 0 [],.v (.string ⟨#[]⟩)]))),(4,.box (.d (.agg [.lst false 1 t4.1,B t4.2.1]))),(13,.box (.agg [.d (I a0),.d (.v (.string t1.1)),.own 43 0,.d (.lst true 0 []),.d (.v (.string ⟨#[]⟩))])),(43,.row 0 1 t4.2.2)]
 | (.inr sa)=>[(0,.box (.d (.agg [I 0,.v (.string ⟨#[]⟩),.lst true 0 [],.lst true 0 [],.v (.string ⟨#[]⟩)]))),(4,.box (.d (.agg [.lst false 1 sa.2.1,B sa.2.2.1]))),(13,.box (.agg [.d (I a0),.d (.v (.string t1.1)),.own 43 0,.own 82 0,.d (.v (.string ⟨#[]⟩))])),(43,.row 0 1 t4.2.2),(82,.row 0 1 sa.2.2.2)],fun _=>(.exit 2),fun _=>[(4,.ptr 0 0 0 0 0),(6,.ptr 4 0 0 0 0),(8,.ptr 13 0 0 0 0)],fun
 | (.inl e)=>[(0,.box (.d (.agg [I 0,.v (.string ⟨#[]⟩),.lst true 0 [],.lst true 0 [],.v (.string ⟨#[]⟩)]))),(4,.box (.d (.agg [.lst false 1 t4.1,B t4.2.1]))),(13,.box (.agg [.d (I a0),.d (.v (.string t1.1)),.own 43 0,.d (.lst true 0 []),.d (.v (.string ⟨#[]⟩))])),(43,.row 0 1 t4.2.2)]
 | (.inr e)=>[(0,.box (.d (.agg [I 0,.v (.string ⟨#[]⟩),.lst true 0 [],.lst true 0 [],.v (.string ⟨#[]⟩)]))),(4,.box (.d (.agg [.lst false 1 e.1,B e.2.1]))),(13,.box (.agg [.d (I a0),.d (.v (.string t1.1)),.own 43 0,.own 82 0,.d (.v (.string ⟨#[]⟩))])),(43,.row 0 1 t4.2.2),(82,.row 0 1 e.2.2)]⟩
theorem Qj0 {n:Nat} {a0:Int} {t1:jSj×jVj×Bool} {t3:jSj×Int×FnD×FnD} {t4:jVj×Bool×jVj} (sa:(Unit)⊕(Int×jVj×Bool×jVj)) (r) (h:QjL n a0 t1 t3 t4 sa=some r):Rl (ZJ cx.P 103 1) 72 0 false (QkO a0 t1 t3 t4) sa r:=by
 unfold QjL at h
 rcases sa with sa | sa
 ·rcases io h with ⟨ha1,h⟩ | ⟨ha1,h⟩
  ·obtain ⟨ta2,ha2,h⟩:=bo h
   cases h
   exact rn 72 [b1,.obj (some 4) (.d (I ta2.1)) [.dat (.lst false 1 ta2.2.1),.dat (B ta2.2.2)] [],.no,.no] [] [4,6,8,46,47] [0,4,13,43,82] (Qa ((by unfold Qh;omega):Qh 1) (Qa (Qjd ha2) (Qa (jDj ha1) QL)))
  cases h
  exact rx 72 [b0] [] [4,6,8] [0,4,13,43] (Qa (jEj ha1) QL)
 ·rcases io h with ⟨ha1,h⟩ | ⟨ha1,h⟩
  ·obtain ⟨ta2,ha2,h⟩:=bo h;obtain ⟨ha3,h⟩:=gd h;obtain ⟨ha4,h⟩:=gd h
   cases h
   exact rn 83 [b1,.obj (some 4) (.d (I ta2.1)) [.dat (.lst false 1 ta2.2.1),.dat (B ta2.2.2)] [],b1] [] [4,6,8,46,47] [0,4,13,43,82] (Qa ha4 (Qa (ro 3 ha3) (Qa (Qjd ha2) (Qa (jDj ha1) QL))))
  cases h
  exact rx 83 [b0] [] [4,6,8] [0,4,13,43,82] (Qa (jEj ha1) QL)
def Qjz (n:Nat) (a0:Int) (a1:jVj):Option (Int×jSj×jVj×jVj×jSj×Bool) :=
 (QiO n a1 false).bind fun t1 =>
 if (VY (.string t1.1) Wr).isSome=true then
  ((VY (.string t1.1) Wr).bind J8).bind fun t3 =>
  (Q2 (QiQ n a0 t1 t3) n (.inl ())).bind fun t4=>match t4 with
   | (.inl t4)=>(
    (Q2 (QjM n a0 t1 t3) n (.inl ())).bind fun t5=>match t5 with
     | (.inl t5)=>(
      if t1.2.2=true then
       some (a0,t1.1,[],[],⟨#[]⟩,false)
      else
      some (a0,t1.1,[],[],⟨#[]⟩,(((t1.2.1).length:Int) == 0)))
     | (.inr t5)=>(
      if t5.2.1=true then
       some (a0,t1.1,[],t5.2.2,⟨#[]⟩,false)
      else
      some (a0,t1.1,[],t5.2.2,⟨#[]⟩,(((t5.1).length:Int) == 0))))
   | (.inr t4)=>(
    (Q2 (QjL n a0 t1 t3 t4) n (.inl ())).bind fun t5=>match t5 with
     | (.inl t5)=>(
      if t4.2.1=true then
       some (a0,t1.1,t4.2.2,[],⟨#[]⟩,false)
      else
      some (a0,t1.1,t4.2.2,[],⟨#[]⟩,(((t4.1).length:Int) == 0)))
     | (.inr t5)=>(
      if t5.2.1=true then
       some (a0,t1.1,t4.2.2,t5.2.2,⟨#[]⟩,false)
      else
      some (a0,t1.1,t4.2.2,t5.2.2,⟨#[]⟩,(((t5.1).length:Int) == 0))))
 else
 some (0,⟨#[]⟩,[],[],⟨#[]⟩,false)
theorem QlD {n:Nat} {a0:Int} {a1:jVj} {r:Int×jSj×jVj×jVj×jSj×Bool} (h:Qjz n a0 a1=some r):Computes cx 103 [I a0,.lst false 1 a1] (.tup [.agg [I r.1,.v (.string r.2.1),.lst false 1 r.2.2.1,.lst false 1 r.2.2.2.1,.v (.string r.2.2.2.2.1)],B r.2.2.2.2.2]):=by
 unfold Qjz at h
 obtain ⟨t1,h1,h⟩:=bo h
 have q:=Qa (Qjj h1) QL
 let o (l:List Orc):=.obj (some 4) (.d (.v (.string t1.1))) [.dat (.lst false 1 t1.2.1),.dat (B t1.2.2)] []::b1::(no 28 l)
 rcases io h with ⟨h2,h⟩ | ⟨h2,h⟩
 ·obtain ⟨t3,h3,h⟩:=bo h
  have q:=Qa ((QbG (by kernel_rfl) (Qdv yf h3)):Zi true (.string t1.1) (.agg [.v (.string ⟨#[]⟩),I 0,.v (.nilFunc),.v (.nilFunc)]) Wr=some (.tup [.agg [.v (.string t3.1),I t3.2.1,.fn t3.2.2.1.1 t3.2.2.1.2.1 t3.2.2.1.2.2,.fn t3.2.2.2.1 t3.2.2.2.2.1 t3.2.2.2.2.2],B true])) q
  let o l:=o (.el (.tup [.agg [.v (.string t3.1),I t3.2.1,.fn t3.2.2.1.1 t3.2.2.1.2.1 t3.2.2.1.2.2,.fn t3.2.2.2.1 t3.2.2.2.2.1 t3.2.2.2.2.2],B true])::.no::l)
  obtain ⟨t4,h4,h⟩:=bo h
  rcases t4 with t4 | t4
  ·have q:=Qa (QH Qj2 h4) q
   let o l:=o (.lp [] [4,6,7,8,9,34] [0,4,13,24,31] (.exit 0) [(4,.ptr 0 0 0 0 0),(6,.ptr 4 0 0 0 0),(8,.ptr 13 0 0 0 0),(9,.ptr 24 0 0 0 0)] [(0,.box (.d (.agg [I 0,.v (.string ⟨#[]⟩),.lst true 0 [],.lst true 0 [],.v (.string ⟨#[]⟩)]))),(4,.box (.d (.agg [.lst false 1 t1.2.1,B t1.2.2]))),(13,.box (.d (.agg [I a0,.v (.string t1.1),.lst true 0 [],.lst true 0 [],.v (.string ⟨#[]⟩)]))),(24,.box (.d (.agg [.v (.string t3.1),I t3.2.1,.fn t3.2.2.1.1 t3.2.2.1.2.1 t3.2.2.1.2.2,.fn t3.2.2.2.1 t3.2.2.2.2.1 t3.2.2.2.2.2])))] 69::l)
   obtain ⟨t5,h5,h⟩:=bo h
   rcases t5 with t5 | t5
   ·have q:=Qa (QH Qj1 h5) q
    let o l:=o (.lp [] [4,6,8,46,47] [0,4,13] (.exit 2) [(4,.ptr 0 0 0 0 0),(6,.ptr 4 0 0 0 0),(8,.ptr 13 0 0 0 0)] [(0,.box (.d (.agg [I 0,.v (.string ⟨#[]⟩),.lst true 0 [],.lst true 0 [],.v (.string ⟨#[]⟩)]))),(4,.box (.d (.agg [.lst false 1 t1.2.1,B t1.2.2]))),(13,.box (.d (.agg [I a0,.v (.string t1.1),.lst true 0 [],.lst true 0 [],.v (.string ⟨#[]⟩)])))] 109::l)
    rcases io h with ⟨h6,h⟩ | ⟨h6,h⟩
    ·cases h
     exact (rf (r:=.tup [.agg [I a0,.v (.string t1.1),.lst true 0 [],.lst true 0 [],.v (.string ⟨#[]⟩)],B false]) (o [b0]) (Qa (Ud h6) q)).le (LEs.refl _) (.tups (.cons (.aggs (.cons (.refl _) (.cons (.refl _) (.cons (.nilF) (.cons (.nilF) (.cons (.refl _) (.nil))))))) (.cons (.refl _) (.nil))))
    cases h
    exact (rf (r:=.tup [.agg [I a0,.v (.string t1.1),.lst true 0 [],.lst true 0 [],.v (.string ⟨#[]⟩)],B (((t1.2.1).length:Int) == 0)]) (o [b1]) (Qa (Uc (QA h6)) q)).le (LEs.refl _) (.tups (.cons (.aggs (.cons (.refl _) (.cons (.refl _) (.cons (.nilF) (.cons (.nilF) (.cons (.refl _) (.nil))))))) (.cons (.refl _) (.nil))))
   have q:=Qa (QH Qj1 h5) q
   let o l:=o (.lp [] [4,6,8,46,47] [0,4,13] (.exit 2) [(4,.ptr 0 0 0 0 0),(6,.ptr 4 0 0 0 0),(8,.ptr 13 0 0 0 0)] [(0,.box (.d (.agg [I 0,.v (.string ⟨#[]⟩),.lst true 0 [],.lst true 0 [],.v (.string ⟨#[]⟩)]))),(4,.box (.d (.agg [.lst false 1 t5.1,B t5.2.1]))),(13,.box (.agg [.d (I a0),.d (.v (.string t1.1)),.d (.lst true 0 []),.own 82 0,.d (.v (.string ⟨#[]⟩))])),(82,.row 0 1 t5.2.2)] 109::l)
   rcases io h with ⟨h6,h⟩ | ⟨h6,h⟩
   ·cases h
    exact (rf (r:=.tup [.agg [I a0,.v (.string t1.1),.lst true 0 [],.lst false 1 t5.2.2,.v (.string ⟨#[]⟩)],B false]) (o [b0]) (Qa (Ud h6) q)).le (LEs.refl _) (.tups (.cons (.aggs (.cons (.refl _) (.cons (.refl _) (.cons (.nilF) (.cons (.refl _) (.cons (.refl _) (.nil))))))) (.cons (.refl _) (.nil))))
   cases h
   exact (rf (r:=.tup [.agg [I a0,.v (.string t1.1),.lst true 0 [],.lst false 1 t5.2.2,.v (.string ⟨#[]⟩)],B (((t5.1).length:Int) == 0)]) (o [b1]) (Qa (Uc (QA h6)) q)).le (LEs.refl _) (.tups (.cons (.aggs (.cons (.refl _) (.cons (.refl _) (.cons (.nilF) (.cons (.refl _) (.cons (.refl _) (.nil))))))) (.cons (.refl _) (.nil))))
  have q:=Qa (QH Qj2 h4) q
  let o l:=o (.lp [] [4,6,7,8,9,34] [0,4,13,24,31] (.exit 0) [(4,.ptr 0 0 0 0 0),(6,.ptr 4 0 0 0 0),(8,.ptr 13 0 0 0 0),(9,.ptr 24 0 0 0 0)] [(0,.box (.d (.agg [I 0,.v (.string ⟨#[]⟩),.lst true 0 [],.lst true 0 [],.v (.string ⟨#[]⟩)]))),(4,.box (.d (.agg [.lst false 1 t4.1,B t4.2.1]))),(13,.box (.agg [.d (I a0),.d (.v (.string t1.1)),.own 43 0,.d (.lst true 0 []),.d (.v (.string ⟨#[]⟩))])),(24,.box (.d (.agg [.v (.string t3.1),I t3.2.1,.fn t3.2.2.1.1 t3.2.2.1.2.1 t3.2.2.1.2.2,.fn t3.2.2.2.1 t3.2.2.2.2.1 t3.2.2.2.2.2]))),(43,.row 0 1 t4.2.2)] 69::l)
  obtain ⟨t5,h5,h⟩:=bo h
  rcases t5 with t5 | t5
  ·have q:=Qa (QH Qj0 h5) q
   let o l:=o (.lp [] [4,6,8,46,47] [0,4,13,43] (.exit 2) [(4,.ptr 0 0 0 0 0),(6,.ptr 4 0 0 0 0),(8,.ptr 13 0 0 0 0)] [(0,.box (.d (.agg [I 0,.v (.string ⟨#[]⟩),.lst true 0 [],.lst true 0 [],.v (.string ⟨#[]⟩)]))),(4,.box (.d (.agg [.lst false 1 t4.1,B t4.2.1]))),(13,.box (.agg [.d (I a0),.d (.v (.string t1.1)),.own 43 0,.d (.lst true 0 []),.d (.v (.string ⟨#[]⟩))])),(43,.row 0 1 t4.2.2)] 109::l)
   rcases io h with ⟨h6,h⟩ | ⟨h6,h⟩
   ·cases h
    exact (rf (r:=.tup [.agg [I a0,.v (.string t1.1),.lst false 1 t4.2.2,.lst true 0 [],.v (.string ⟨#[]⟩)],B false]) (o [b0]) (Qa (Ud h6) q)).le (LEs.refl _) (.tups (.cons (.aggs (.cons (.refl _) (.cons (.refl _) (.cons (.refl _) (.cons (.nilF) (.cons (.refl _) (.nil))))))) (.cons (.refl _) (.nil))))
   cases h
   exact (rf (r:=.tup [.agg [I a0,.v (.string t1.1),.lst false 1 t4.2.2,.lst true 0 [],.v (.string ⟨#[]⟩)],B (((t4.1).length:Int) == 0)]) (o [b1]) (Qa (Uc (QA h6)) q)).le (LEs.refl _) (.tups (.cons (.aggs (.cons (.refl _) (.cons (.refl _) (.cons (.refl _) (.cons (.nilF) (.cons (.refl _) (.nil))))))) (.cons (.refl _) (.nil))))
  have q:=Qa (QH Qj0 h5) q
  let o l:=o (.lp [] [4,6,8,46,47] [0,4,13,43] (.exit 2) [(4,.ptr 0 0 0 0 0),(6,.ptr 4 0 0 0 0),(8,.ptr 13 0 0 0 0)] [(0,.box (.d (.agg [I 0,.v (.string ⟨#[]⟩),.lst true 0 [],.lst true 0 [],.v (.string ⟨#[]⟩)]))),(4,.box (.d (.agg [.lst false 1 t5.1,B t5.2.1]))),(13,.box (.agg [.d (I a0),.d (.v (.string t1.1)),.own 43 0,.own 82 0,.d (.v (.string ⟨#[]⟩))])),(43,.row 0 1 t4.2.2),(82,.row 0 1 t5.2.2)] 109::l)
  rcases io h with ⟨h6,h⟩ | ⟨h6,h⟩
  ·cases h
   exact rf (o [b0]) (Qa (Ud h6) q)
  cases h
  exact rf (o [b1]) (Qa (Uc (QA h6)) q)
 cases h
 exact (rf (r:=.tup [.agg [I 0,.v (.string ⟨#[]⟩),.lst true 0 [],.lst true 0 [],.v (.string ⟨#[]⟩)],B false]) (o [.el (.tup [.agg [.v (.string ⟨#[]⟩),I 0,.v (.nilFunc),.v (.nilFunc)],B false]),.no]) (Qa ((QaB (by kernel_rfl) (mno h2)):Zi true (.string t1.1) (.agg [.v (.string ⟨#[]⟩),I 0,.v (.nilFunc),.v (.nilFunc)]) Wr=some (.tup [.agg [.v (.string ⟨#[]⟩),I 0,.v (.nilFunc),.v (.nilFunc)],B false])) q)).le (LEs.refl _) (.tups (.cons (.aggs (.cons (.refl _) (.cons (.refl _) (.cons (.nilF) (.cons (.nilF) (.cons (.refl _) (.nil))))))) (.cons (.refl _) (.nil))))
def Qi3 (n:Nat) (a0:jSj) (a1:Int):Option (Int×jSj×jVj×jVj×jSj×Int) :=
 if Qh ((a0.size:Int) - 7) then
 if Qh (((a0.size:Int) - 7) - 1) then
 if (((a0.size:Int) - 7) - 1) < 0 then
  some (0,⟨#[]⟩,[],[],⟨#[]⟩,25)
 else
 (WQ a0 (((a0.size:Int) - 7) - 1)).bind fun t4 =>
 if t4=35 then
  if Qh ((((a0.size:Int) - 7) - 1)+1) then
  (Qi7 a0 (some ((((a0.size:Int) - 7) - 1)+1)) none).bind fun t7 =>
  (Qjr n t7 (⟨#[48,49,50,51,52,53,54,55,56,57]⟩)).bind fun t8 =>
  if (!(t8.toList == (⟨#[]⟩:jSj).toList))=true then
   some (0,⟨#[]⟩,[],[],⟨#[]⟩,25)
  else
  (Qi7 a0 none (some (((a0.size:Int) - 7) - 1))).bind fun t10 =>
  (Qi5 n t10).bind fun t11 =>
  if (!(t11.toList == t7.toList))=true then
   some (0,⟨#[]⟩,[],[],⟨#[]⟩,27)
  else
  (Qjn n t10).bind fun t13 =>
  (el Ww t13 0).bind fun t14 =>
  (Qjb n t14).bind fun t15 =>
  if (0:Int)≤1∧1≤((t13).length:Int)∧((t13).length:Int)≤((t13).length:Int)∧(t13=[] ∨ 1=1) then
  (Qjz n t15.1 (t13.drop (Int.toNat 1))).bind fun t17 =>
  if t15.2=true then
   if t17.2.2.2.2.2=true then
    (WX n t17.1 t17.2.1 t17.2.2.1 t17.2.2.2.1 t17.2.2.2.2.1).bind fun t20 =>
    if t20=0 then
     (Qm n (t15.1 != a1) 11).bind fun t22 =>
     some (t17.1,t17.2.1,t17.2.2.1,t17.2.2.2.1,t17.2.2.2.2.1,t22)
    else
    some (0,⟨#[]⟩,[],[],⟨#[]⟩,25)
   else
   some (0,⟨#[]⟩,[],[],⟨#[]⟩,25)
  else
  some (0,⟨#[]⟩,[],[],⟨#[]⟩,25)
  else none
  else none
 else
 some (0,⟨#[]⟩,[],[],⟨#[]⟩,25)
 else none
 else none
theorem Ql3 {n:Nat} {a0:jSj} {a1:Int} {r:Int×jSj×jVj×jVj×jSj×Int} (h:Qi3 n a0 a1=some r):Computes cx 90 [.v (.string a0),I a1] (.tup [.agg [I r.1,.v (.string r.2.1),.lst false 1 r.2.2.1,.lst false 1 r.2.2.2.1,.v (.string r.2.2.2.2.1)],I r.2.2.2.2.2]):=by
 unfold Qi3 at h
 obtain ⟨h1,h⟩:=gd h;obtain ⟨h2,h⟩:=gd h
 have q:=Qa h2 (Qa h1 QL)
 rcases io h with ⟨h3,h⟩ | ⟨h3,h⟩
 ·cases h
  exact (rf (r:=.tup [.agg [I 0,.v (.string ⟨#[]⟩),.lst true 0 [],.lst true 0 [],.v (.string ⟨#[]⟩)],I 25]) [b1,.no,.no] (Qa (jDj h3) q)).le (LEs.refl _) (.tups (.cons (.aggs (.cons (.refl _) (.cons (.refl _) (.cons (.nilF) (.cons (.nilF) (.cons (.refl _) (.nil))))))) (.cons (.refl _) (.nil))))
 obtain ⟨t4,h4,h⟩:=bo h
 have q:=Qa (Zq h4:QV cx.P (Instr.index 9 (.string a0) (.int .i64 (((a0.size:Int) - 7) - 1)))=some (.int .u8 t4)) (Qa (jEj h3) q)
 let o (l:List Orc):=b0::.el (.v (.int .u8 t4))::l
 rcases io h with ⟨h5,h⟩ | ⟨h5,h⟩
 ·obtain ⟨h6,h⟩:=gd h;obtain ⟨t7,h7,h⟩:=bo h;obtain ⟨t8,h8,h⟩:=bo h
  have q:=Qa (Qln h8) (Qa (QiU h7:QV cx.P (Instr.sliceAt 9 (.string a0) (some (.int .i64 ((((a0.size:Int) - 7) - 1)+1))) none none)=some (.string t7)) (Qa h6 (Qa (nef h5) q)))
  let o l:=o (b0::.el (.v (.string t7))::.ret (.v (.string t8))::l)
  rcases io h with ⟨h9,h⟩ | ⟨h9,h⟩
  ·cases h
   exact (rf (r:=.tup [.agg [I 0,.v (.string ⟨#[]⟩),.lst true 0 [],.lst true 0 [],.v (.string ⟨#[]⟩)],I 25]) (o [b1]) (Qa h9 q)).le (LEs.refl _) (.tups (.cons (.aggs (.cons (.refl _) (.cons (.refl _) (.cons (.nilF) (.cons (.nilF) (.cons (.refl _) (.nil))))))) (.cons (.refl _) (.nil))))
  obtain ⟨t10,h10,h⟩:=bo h;obtain ⟨t11,h11,h⟩:=bo h
  have q:=Qa (QiU h7:QV cx.P (Instr.sliceAt 9 (.string a0) (some (.int .i64 ((((a0.size:Int) - 7) - 1)+1))) none none)=some (.string t7)) (Qa h6 (Qa (QjY h11) (Qa (QiU h10:QV cx.P (Instr.sliceAt 9 (.string a0) none (some (.int .i64 (((a0.size:Int) - 7) - 1))) none)=some (.string t10)) (Qa (QA h9) q))))
  let o l:=o (b0::.el (.v (.string t10))::.ret (.v (.string t11))::.el (.v (.string t7))::l)
  rcases io h with ⟨h12,h⟩ | ⟨h12,h⟩
  ·cases h
   exact (rf (r:=.tup [.agg [I 0,.v (.string ⟨#[]⟩),.lst true 0 [],.lst true 0 [],.v (.string ⟨#[]⟩)],I 27]) (o [b1]) (Qa h12 q)).le (LEs.refl _) (.tups (.cons (.aggs (.cons (.refl _) (.cons (.refl _) (.cons (.nilF) (.cons (.nilF) (.cons (.refl _) (.nil))))))) (.cons (.refl _) (.nil))))
  obtain ⟨t13,h13,h⟩:=bo h;obtain ⟨t14,h14,h⟩:=bo h;obtain ⟨t15,h15,h⟩:=bo h;obtain ⟨h16,h⟩:=gd h;obtain ⟨t17,h17,h⟩:=bo h
  have q:=Qa (QlD h17) (Qa h16 (Qa (Qj6 h15) (allE Qr h14 (Qa (QkW h13) (Qa (QiU h10:QV cx.P (Instr.sliceAt 9 (.string a0) none (some (.int .i64 (((a0.size:Int) - 7) - 1))) none)=some (.string t10)) (Qa (QA h12) q))))))
  let o l:=o (b0::.el (.v (.string t10))::.ret (.lst false 1 t13)::.el (Zy t14)::.ret (.tup [I t15.1,B t15.2])::b1::.ret (.tup [.agg [I t17.1,.v (.string t17.2.1),.lst false 1 t17.2.2.1,.lst false 1 t17.2.2.2.1,.v (.string t17.2.2.2.2.1)],B t17.2.2.2.2.2])::l)
  rcases io h with ⟨h18,h⟩ | ⟨h18,h⟩
  ·have q:=Qa (Ud h18) q
   rcases io h with ⟨h19,h⟩ | ⟨h19,h⟩
   ·obtain ⟨t20,h20,h⟩:=bo h
    have q:=Qa (Ja h20) (Qa (Ud h19) q)
    let o l:=o (b0::b0::.ret (I t20)::l)
    rcases io h with ⟨h21,h⟩ | ⟨h21,h⟩
    ·obtain ⟨t22,h22,h⟩:=bo h
     cases h
     exact rf (o [b0,.ret (I t22)]) (Qa (Qu h22) (Qa (nef h21) q))
    cases h
    exact (rf (r:=.tup [.agg [I 0,.v (.string ⟨#[]⟩),.lst true 0 [],.lst true 0 [],.v (.string ⟨#[]⟩)],I 25]) (o [b1]) (Qa (net h21) q)).le (LEs.refl _) (.tups (.cons (.aggs (.cons (.refl _) (.cons (.refl _) (.cons (.nilF) (.cons (.nilF) (.cons (.refl _) (.nil))))))) (.cons (.refl _) (.nil))))
   cases h
   exact (rf (r:=.tup [.agg [I 0,.v (.string ⟨#[]⟩),.lst true 0 [],.lst true 0 [],.v (.string ⟨#[]⟩)],I 25]) (o [b0,b1,.no]) (Qa (Uc (QA h19)) q)).le (LEs.refl _) (.tups (.cons (.aggs (.cons (.refl _) (.cons (.refl _) (.cons (.nilF) (.cons (.nilF) (.cons (.refl _) (.nil))))))) (.cons (.refl _) (.nil))))
  cases h
  exact (rf (r:=.tup [.agg [I 0,.v (.string ⟨#[]⟩),.lst true 0 [],.lst true 0 [],.v (.string ⟨#[]⟩)],I 25]) (o [b1,.no,.no]) (Qa (Uc (QA h18)) q)).le (LEs.refl _) (.tups (.cons (.aggs (.cons (.refl _) (.cons (.refl _) (.cons (.nilF) (.cons (.nilF) (.cons (.refl _) (.nil))))))) (.cons (.refl _) (.nil))))
 cases h
 exact (rf (r:=.tup [.agg [I 0,.v (.string ⟨#[]⟩),.lst true 0 [],.lst true 0 [],.v (.string ⟨#[]⟩)],I 25]) (o [b1,.no]) (Qa (net h5) q)).le (LEs.refl _) (.tups (.cons (.aggs (.cons (.refl _) (.cons (.refl _) (.cons (.nilF) (.cons (.nilF) (.cons (.refl _) (.nil))))))) (.cons (.refl _) (.nil))))
def QiP (n:Nat) (a0:jSj) (sa:(Int×jVj)):Option (((Int×jVj))⊕((Int×Int×jVj)⊕(Int×jVj))) :=
 if sa.1 < (a0.size:Int) then
  (Qi7 a0 (some sa.1) none).bind fun ta2 =>
  (Qjg n ta2).bind fun ta3 =>
  if ta3.2.2=true then
   if Qh (((sa.2).length:Int)+1) then
   (Qi3 n ta3.1 (((sa.2).length:Int)+1)).bind fun ta6 =>
   if ta6.2.2.2.2.2=0 then
    if Wa 88 ((sa.2).length+1) then
    if Qh ((ta3.1.size:Int)+1) then
    if Qh (sa.1+((ta3.1.size:Int)+1)) then
    some (.inl ((sa.1+((ta3.1.size:Int)+1)),(sa.2++([.agg [I ta6.1,.v (.string ta6.2.1),.lst false 1 ta6.2.2.1,.lst false 1 ta6.2.2.2.1,.v (.string ta6.2.2.2.2.1)]]:jVj))))
    else none
    else none
    else none
   else
   some (.inr (.inl (sa.1,ta6.2.2.2.2.2,sa.2)))
   else none
  else
  some (.inr (.inl (sa.1,28,sa.2)))
 else
 some (.inr (.inr (sa.1,sa.2)))
noncomputable def Qkv (a0:jSj):Lp ((Int×jVj)) ((Int×Int×jVj)⊕(Int×jVj)):=⟨fun sa=>[(0,.d (.v (.string a0))),(5,.own 8 0),(6,.d (I sa.1))],fun sa=>[(8,.row 0 5 sa.2)],fun
 | (.inl e)=>.ret
 | (.inr e)=>(.exit 0),fun
 | (.inl e)=>[(2,.own 8 0),(3,.d (I e.1)),(4,.d (I e.2.1))]
 | (.inr e)=>[(5,.own 8 0),(6,.d (I e.1))],fun
 | (.inl e)=>[(8,.row 0 5 e.2.2)]
 | (.inr e)=>[(8,.row 0 5 e.2)]⟩
theorem QjU {n:Nat} {a0:jSj} (sa:(Int×jVj)) (r) (h:QiP n a0 sa=some r):Rl (ZJ cx.P 44 0) 55 0 false (Qkv a0) sa r:=by
 unfold QiP at h
 rcases io h with ⟨ha1,h⟩ | ⟨ha1,h⟩
 ·obtain ⟨ta2,ha2,h⟩:=bo h;obtain ⟨ta3,ha3,h⟩:=bo h
  have q:=Qa (QlC ha3) (Qa (QiU ha2:QV cx.P (Instr.sliceAt 9 (.string a0) (some (.int .i64 sa.1)) none none)=some (.string ta2)) (Qa (jDj ha1) QL))
  let o (l:List Orc):=b1::.el (.v (.string ta2))::.ret (.tup [.v (.string ta3.1),.v (.string ta3.2.1),B ta3.2.2])::l
  rcases io h with ⟨ha4,h⟩ | ⟨ha4,h⟩
  ·obtain ⟨ha5,h⟩:=gd h;obtain ⟨ta6,ha6,h⟩:=bo h
   have q:=Qa (Ql3 ha6) (Qa ha5 (Qa (Ud ha4) q))
   let o l:=o (b0::.ret (.tup [.agg [I ta6.1,.v (.string ta6.2.1),.lst false 1 ta6.2.2.1,.lst false 1 ta6.2.2.2.1,.v (.string ta6.2.2.2.2.1)],I ta6.2.2.2.2.2])::l)
   rcases io h with ⟨ha7,h⟩ | ⟨ha7,h⟩
   ·obtain ⟨ha8,h⟩:=gd h;obtain ⟨ha9,h⟩:=gd h;obtain ⟨ha10,h⟩:=gd h
    cases h
    exact rn 9 (o [b0,b1]) [] [0,5,6] [8] (Qa ha10 (Qa ha9 (Qa (ro 65 ha8) (Qa (nef ha7) q))))
   cases h
   exact rx 9 (o [b1]) [] [2,3,4] [8] (Qa (net ha7) q)
  cases h
  exact rx 9 (o [b1]) [] [2,3,4] [8] (Qa (Uc (QA ha4)) q)
 cases h
 exact rx 9 [b0] [] [5,6] [8] (Qa (jEj ha1) QL)
def Qjc (n:Nat) (a0:jSj):Option (jVj×Int×Int) :=
 if (a0.size:Int) > 1000000 then
  some ([],0,26)
 else
 (Q2 (QiP n a0) n (0,[])).bind fun t2=>match t2 with
  | (.inl t2)=>(
   some (t2.2.2,t2.1,t2.2.1))
  | (.inr t2)=>(
   some (t2.2,t2.1,0))
theorem Qj7 {n:Nat} {a0:jSj} {r:jVj×Int×Int} (h:Qjc n a0=some r):Computes cx 44 [.v (.string a0)] (.tup [.lst false 5 r.1,I r.2.1,I r.2.2]):=by
 unfold Qjc at h
 rcases io h with ⟨h1,h⟩ | ⟨h1,h⟩
 ·cases h
  exact (rf (r:=.tup [.lst true 0 [],I 0,I 26]) [b1] (Qa (jDj h1) QL)).le (LEs.refl _) (.tups (.cons (.nilF) (.cons (.refl _) (.cons (.refl _) (.nil)))))
 have q:=Qa (jEj h1) QL
 obtain ⟨t2,h2,h⟩:=bo h
 rcases t2 with t2 | t2
 ·cases h
  exact rf [b0,.lp [5,5] [0,5,6] [8] .ret [(2,.own 8 0),(3,.d (I t2.1)),(4,.d (I t2.2.1))] [(8,.row 0 5 t2.2.2)] 61] (Qa (QH QjU h2) q)
 cases h
 exact rf [b0,.lp [5,5] [0,5,6] [8] (.exit 0) [(5,.own 8 0),(6,.d (I t2.1))] [(8,.row 0 5 t2.2)] 61] (Qa (QH QjU h2) q)
def QiS (n:Nat) (a0:jVj) (sa:(Int×jVj)):Option (((Int×jVj))⊕((jVj))) :=
 if sa.1 < ((a0).length:Int) then
  (el Vt a0 sa.1).bind fun ta2 =>
  (Jk n ta2).bind fun ta3 =>
  if Wa 16 ((sa.2).length+1) then
  if Qh (sa.1+1) then
  some (.inl ((sa.1+1),(sa.2++([.v (.string ta3)]:jVj))))
  else none
  else none
 else
 some (.inr sa.2)
noncomputable def Qkc (a0:jVj):Lp ((Int×jVj)) ((jVj)):=⟨fun sa=>[(1,.d (.fn (.func 105) [] [])),(5,.own 5 0),(8,.d (.lst false 1 a0)),(9,.d (I ((a0).length:Int))),(10,.d (I sa.1))],fun sa=>[(5,.row 0 1 sa.2)],fun _=>(.exit 0),fun _=>[(5,.own 5 0)],fun e=>[(5,.row 0 1 e)]⟩
theorem Qka {n:Nat} {a0:jVj} (sa:(Int×jVj)) (r) (h:QiS n a0 sa=some r):Rl (ZJ cx.P 138 0) 22 0 false (Qkc a0) sa r:=by
 unfold QiS at h
 rcases io h with ⟨ha1,h⟩ | ⟨ha1,h⟩
 ·obtain ⟨ta2,ha2,h⟩:=bo h;obtain ⟨ta3,ha3,h⟩:=bo h;obtain ⟨ha4,h⟩:=gd h;obtain ⟨ha5,h⟩:=gd h
  cases h
  exact rn 6 [b1,.el (Q3 ta2),.ret (.v (.string ta3)),b1] [] [1,5,8,9,10] [5] (Qa ha5 (Qa (ro 9 ha4) (Qa (jd ha3) (allE Qi ha2 (Qa (jDj ha1) QL)))))
 cases h
 exact rx 6 [b0] [] [5] [5] (Qa (jEj ha1) QL)
def QiX (n:Nat) (a0:jVj):Option (jVj) :=
 (Q2 (QiS n a0) n (0,[])).bind fun t1 =>
 some t1
theorem QjQ {n:Nat} {a0:jVj} {r:jVj} (h:QiX n a0=some r):Computes cx 138 [.lst false 1 a0,.fn (.func 105) [] []] (.lst false 1 r):=by
 unfold QiX at h
 obtain ⟨t1,h1,h⟩:=bo h;obtain rfl:=oi h
 exact rf [.lp [5,1] [1,5,8,9,10] [5] (.exit 0) [(5,.own 5 0)] [(5,.row 0 1 t1)] 30] (Qa (QH Qka h1) QL)
def QjI (n:Nat) (a0:Int) (a1:jSj) (a2 a3:jVj) (a4:jSj):Option (jSj) :=
 (Jk n a0).bind fun t1 =>
 if Wa 16 (2+(a2).length) then
 if UF a2=true then
  (QiX n a3).bind fun t4 =>
  if Wa 16 (2+(t4).length) then
  if UF t4=true then
   (Jj n ([.v (.string t1),.v (.string a1)]) (⟨#[32]⟩)).bind fun t7 =>
   some t7
  else
  (Jj n (.v (.string t1)::(.v (.string a1)::t4)) (⟨#[32]⟩)).bind fun t7 =>
  some t7
  else none
 else
 (QiX n a3).bind fun t4 =>
 if Wa 16 (((.v (.string t1)::(.v (.string a1)::a2)):jVj).length+(t4).length) then
 (Jj n (.v (.string t1)::(.v (.string a1)::(a2++t4))) (⟨#[32]⟩)).bind fun t6 =>
 some t6
 else none
 else none
theorem Ql4 {n:Nat} {a0:Int} {a1:jSj} {a2 a3:jVj} {a4:jSj} {r:jSj} (h:QjI n a0 a1 a2 a3 a4=some r):Computes cx 124 [.agg [I a0,.v (.string a1),.lst false 1 a2,.lst false 1 a3,.v (.string a4)]] (.v (.string r)):=by
 unfold QjI at h
 obtain ⟨t1,h1,h⟩:=bo h;obtain ⟨h2,h⟩:=gd h
 have q:=Qa (ro 9 h2) (Qa (jd h1) QL)
 let o (l:List Orc):=.ret (.v (.string t1))::b1::l
 rcases io h with ⟨h3,h⟩ | ⟨h3,h⟩
 ·obtain ⟨t4,h4,h⟩:=bo h;obtain ⟨h5,h⟩:=gd h
  have q:=Qa (ro 9 h5) (Qa (QjQ h4) (Qa h3 q))
  let o l:=o (b1::.ret (.lst false 1 t4)::b1::l)
  rcases io h with ⟨h6,h⟩ | ⟨h6,h⟩
  ·obtain ⟨t7,h7,h⟩:=bo h;obtain rfl:=oi h
   exact rf (o [b1,.ret (.v (.string t7))]) (Qa (((jc h7).le (.cons (.full _ _ _) (.cons (.refl _) (.nil))) (.refl _)):Computes cx 107 [.lst true 1 [.v (.string t1),.v (.string a1)],.v (.string ⟨#[32]⟩)] (.v (.string t7))) (Qa h6 q))
  obtain ⟨t7,h7,h⟩:=bo h;obtain rfl:=oi h
  exact rf (o [b0,.ret (.v (.string t7))]) (Qa ((jc h7):Computes cx 107 [.lst false 1 (.v (.string t1)::(.v (.string a1)::t4)),.v (.string ⟨#[32]⟩)] (.v (.string t7))) (Qa (QA h6) q))
 obtain ⟨t4,h4,h⟩:=bo h;obtain ⟨h5,h⟩:=gd h;obtain ⟨t6,h6,h⟩:=bo h;obtain rfl:=oi h
 exact rf (o [b0,.ret (.lst false 1 t4),b1,.ret (.v (.string t6))]) (Qa ((jc h6):Computes cx 107 [.lst false 1 (.v (.string t1)::(.v (.string a1)::(a2++t4))),.v (.string ⟨#[32]⟩)] (.v (.string t6))) (Qa (ro 9 h5) (Qa (QjQ h4) (Qa (QA h3) q))))
def Qjv (n:Nat) (a0:Int) (a1:jSj) (a2 a3:jVj) (a4:jSj):Option (jSj) :=
 (QjI n a0 a1 a2 a3 a4).bind fun t1 =>
 if t1.size+(⟨#[35]⟩:jSj).size≤9223372036854775807 then
 (Qi5 n t1).bind fun t3 =>
 if (t1++(⟨#[35]⟩:jSj)).size+t3.size≤9223372036854775807 then
 if ((t1++(⟨#[35]⟩:jSj))++t3).size+(⟨#[10]⟩:jSj).size≤9223372036854775807 then
 some (((t1++(⟨#[35]⟩:jSj))++t3)++(⟨#[10]⟩:jSj))
 else none
 else none
 else none
theorem Qlr {n:Nat} {a0:Int} {a1:jSj} {a2 a3:jVj} {a4:jSj} {r:jSj} (h:Qjv n a0 a1 a2 a3 a4=some r):Computes cx 88 [.agg [I a0,.v (.string a1),.lst false 1 a2,.lst false 1 a3,.v (.string a4)]] (.v (.string r)):=by
 unfold Qjv at h
 obtain ⟨t1,h1,h⟩:=bo h;obtain ⟨h2,h⟩:=gd h;obtain ⟨t3,h3,h⟩:=bo h;obtain ⟨h4,h⟩:=gd h;obtain ⟨h5,h⟩:=gd h
 cases h
 exact rf [.ret (.v (.string t1)),.ret (.v (.string t3))] (Qa h5 (Qa h4 (Qa (QjY h3) (Qa h2 (Qa (Ql4 h1) QL)))))
def Qjw (n:Nat) (a0:jSj) (a1:Int) (a2:jSj) (a3 a4:jVj) (a5:jSj):Option (jSj×Int) :=
 (Qjc n a0).bind fun t1 =>
 (WX n a1 a2 a3 a4 a5).bind fun t2 =>
 if Qh (((t1.1).length:Int)+1) then
 (Qm n (a1 != (((t1.1).length:Int)+1)) 11).bind fun t4 =>
 (Qo n ([I t1.2.2,I t2,I t4])).bind fun t5 =>
 if t5=0 then
  (Qjv n a1 a2 a3 a4 a5).bind fun t7 =>
  if a0.size+t7.size≤9223372036854775807 then
  if ((a0++t7).size:Int) > 1000000 then
   some (⟨#[]⟩,26)
  else
  some ((a0++t7),0)
  else none
 else
 some (⟨#[]⟩,t5)
 else none
theorem Qls {n:Nat} {a0:jSj} {a1:Int} {a2:jSj} {a3 a4:jVj} {a5:jSj} {r:jSj×Int} (h:Qjw n a0 a1 a2 a3 a4 a5=some r):Computes cx 43 [.v (.string a0),.agg [I a1,.v (.string a2),.lst false 1 a3,.lst false 1 a4,.v (.string a5)]] (.tup [.v (.string r.1),I r.2]):=by
 unfold Qjw at h
 obtain ⟨t1,h1,h⟩:=bo h;obtain ⟨t2,h2,h⟩:=bo h;obtain ⟨h3,h⟩:=gd h;obtain ⟨t4,h4,h⟩:=bo h;obtain ⟨t5,h5,h⟩:=bo h
 have q:=Qa (((Qx h5).le (.cons (.full _ _ _) (.nil)) (.refl _)):Computes cx 67 [.lst true 1 [I t1.2.2,I t2,I t4]] (I t5)) (Qa (Qu h4) (Qa h3 (Qa (Ja h2) (Qa (Qj7 h1) QL))))
 let o (l:List Orc):=.ret (.tup [.lst false 5 t1.1,I t1.2.1,I t1.2.2])::.ret (I t2)::.ret (I t4)::.ret (I t5)::l
 rcases io h with ⟨h6,h⟩ | ⟨h6,h⟩
 ·obtain ⟨t7,h7,h⟩:=bo h;obtain ⟨h8,h⟩:=gd h
  have q:=Qa h8 (Qa (Qlr h7) (Qa (nef h6) q))
  let o l:=o (b0::.ret (.v (.string t7))::l)
  rcases io h with ⟨h9,h⟩ | ⟨h9,h⟩
  ·cases h
   exact rf (o [b1]) (Qa (jDj h9) q)
  cases h
  exact rf (o [b0]) (Qa (jEj h9) q)
 cases h
 exact rf (o [b1]) (Qa (net h6) q)
def QiR (n:Nat) (a0:jSj) (sa:(Int)):Option (((Int))⊕((Unit)⊕(Unit))) :=
 if sa < (a0.size:Int) then
  (WQ a0 sa).bind fun ta2 =>
  if ta2 < 48 then
   some (.inr (.inl ()))
  else
  if ta2 > 57 then
   some (.inr (.inl ()))
  else
  if Qh (sa+1) then
  some (.inl (sa+1))
  else none
 else
 some (.inr (.inr ()))
noncomputable def QkG (a0:jSj):Lp ((Int)) ((Unit)⊕(Unit)):=⟨fun sa=>[(0,.d (.v (.string a0))),(3,.d (I sa))],fun _=>[],fun
 | (.inl e)=>.ret
 | (.inr e)=>(.exit 0),fun
 | (.inl e)=>[(2,.d (B false))]
 | (.inr e)=>[(0,.d (.v (.string a0)))],fun _=>[]⟩
theorem QjV {n:Nat} {a0:jSj} (sa:(Int)) (r) (h:QiR n a0 sa=some r):Rl (ZJ cx.P 129 0) 23 0 false (QkG a0) sa r:=by
 unfold QiR at h
 rcases io h with ⟨ha1,h⟩ | ⟨ha1,h⟩
 ·obtain ⟨ta2,ha2,h⟩:=bo h
  have q:=Qa (Zq ha2:QV cx.P (Instr.index 9 (.string a0) (.int .i64 sa))=some (.int .u8 ta2)) (Qa (jDj ha1) QL)
  let o (l:List Orc):=b1::.el (.v (.int .u8 ta2))::l
  rcases io h with ⟨ha3,h⟩ | ⟨ha3,h⟩
  ·cases h
   exact rx 2 (o [b1,.no]) [] [2] [] (Qa (jDj ha3) q)
  have q:=Qa (Zq ha2:QV cx.P (Instr.index 9 (.string a0) (.int .i64 sa))=some (.int .u8 ta2)) (Qa (jEj ha3) q)
  let o l:=o (b0::.el (.v (.int .u8 ta2))::l)
  rcases io h with ⟨ha4,h⟩ | ⟨ha4,h⟩
  ·cases h
   exact rx 2 (o [b1]) [] [2] [] (Qa (jDj ha4) q)
  obtain ⟨ha5,h⟩:=gd h
  cases h
  exact rn 2 (o [b0]) [] [0,3] [] (Qa ha5 (Qa (jEj ha4) q))
 cases h
 exact rx 2 [b0] [] [0] [] (Qa (jEj ha1) QL)
def Qjt (n:Nat) (a0:jSj):Option (Bool) :=
 (Q2 (QiR n a0) n 0).bind fun t1=>match t1 with
  | (.inl t1)=>(
   some false)
  | (.inr t1)=>(
   some ((a0.size:Int) == 7))
theorem Qlp {n:Nat} {a0:jSj} {r:Bool} (h:Qjt n a0=some r):Computes cx 129 [.v (.string a0)] (B r):=by
 unfold Qjt at h
 obtain ⟨t1,h1,h⟩:=bo h
 rcases t1 with t1 | t1
 ·obtain rfl:=oi h
  exact rf [.lp [] [0,3] [] .ret [(2,.d (B false))] [] 30] (Qa (QH QjV h1) QL)
 cases h
 exact rf [.lp [] [0,3] [] (.exit 0) [(0,.d (.v (.string a0)))] [] 30] (Qa (QH QjV h1) QL)
def QiW (n:Nat) (a0:Int) (sa:(jSj×Int)):Option (((jSj×Int))⊕((jSj))) :=
 if sa.2=0 then
  some (.inr sa.1)
 else
 if (Int.tmod sa.2 10) < 0 then
  if Qh (0 - (Int.tmod sa.2 10)) then
  if Qh (48+(0 - (Int.tmod sa.2 10))) then
  if (Utf8.encode (IntKind.wrap .i32 (48+(0 - (Int.tmod sa.2 10))))).size+sa.1.size≤9223372036854775807 then
  if Qh (Int.tdiv sa.2 10) then
  some (.inl (((Utf8.encode (IntKind.wrap .i32 (48+(0 - (Int.tmod sa.2 10)))))++sa.1),(Int.tdiv sa.2 10)))
  else none
  else none
  else none
  else none
 else
 if Qh (48+(Int.tmod sa.2 10)) then
 if (Utf8.encode (IntKind.wrap .i32 (48+(Int.tmod sa.2 10)))).size+sa.1.size≤9223372036854775807 then
 if Qh (Int.tdiv sa.2 10) then
 some (.inl (((Utf8.encode (IntKind.wrap .i32 (48+(Int.tmod sa.2 10))))++sa.1),(Int.tdiv sa.2 10)))
 else none
 else none
 else none
noncomputable def Qk5 (a0:Int):Lp ((jSj×Int)) ((jSj)):=⟨fun sa=>[(0,.d (I a0)),(3,.d (.v (.string sa.1))),(4,.d (I sa.2))],fun _=>[],fun _=>(.exit 0),fun e=>[(0,.d (I a0)),(3,.d (.v (.string e)))],fun _=>[]⟩
theorem Qk2 {n:Nat} {a0:Int} (sa:(jSj×Int)) (r) (h:QiW n a0 sa=some r):Rl (ZJ cx.P 132 0) 30 0 false (Qk5 a0) sa r:=by
 unfold QiW at h
 rcases io h with ⟨ha1,h⟩ | ⟨ha1,h⟩
 ·cases h
  exact rx 6 [b0] [] [0,3] [] (Qa (nef ha1) QL)
 have q:=Qa ((by decide):(10:Int)≠0) (Qa (net ha1) QL)
 rcases io h with ⟨ha2,h⟩ | ⟨ha2,h⟩
 ·obtain ⟨ha3,h⟩:=gd h;obtain ⟨ha4,h⟩:=gd h;obtain ⟨ha5,h⟩:=gd h;obtain ⟨ha6,h⟩:=gd h
  cases h
  exact rn 6 [b1,b1] [] [0,3,4] [] (Qa ((by decide):(10:Int)≠0) (Qa ha6 (Qa ha5 (Qa ha4 (Qa ha3 (Qa (jDj ha2) q))))))
 obtain ⟨ha3,h⟩:=gd h;obtain ⟨ha4,h⟩:=gd h;obtain ⟨ha5,h⟩:=gd h
 cases h
 exact rn 6 [b1,b0] [] [0,3,4] [] (Qa ((by decide):(10:Int)≠0) (Qa ha5 (Qa ha4 (Qa ha3 (Qa (jEj ha2) q)))))
def QjH (n:Nat) (a0:Int):Option (jSj) :=
 if a0=0 then
  some ⟨#[48]⟩
 else
 (Q2 (QiW n a0) n (⟨#[]⟩,a0)).bind fun t2 =>
 if a0 < 0 then
  if (⟨#[45]⟩:jSj).size+t2.size≤9223372036854775807 then
  some ((⟨#[45]⟩:jSj)++t2)
  else none
 else
 some t2
theorem Ql2 {n:Nat} {a0:Int} {r:jSj} (h:QjH n a0=some r):Computes cx 132 [I a0] (.v (.string r)):=by
 unfold QjH at h
 rcases io h with ⟨h1,h⟩ | ⟨h1,h⟩
 ·cases h
  exact rf [b1] (Qa (eqt h1) QL)
 obtain ⟨t2,h2,h⟩:=bo h
 have q:=Qa (QH Qk2 h2) (Qa (eqf h1) QL)
 let o (l:List Orc):=b0::.lp [] [0,3,4] [] (.exit 0) [(0,.d (I a0)),(3,.d (.v (.string t2)))] [] 37::l
 rcases io h with ⟨h3,h⟩ | ⟨h3,h⟩
 ·obtain ⟨h4,h⟩:=gd h
  cases h
  exact rf (o [b1]) (Qa h4 (Qa (jDj h3) q))
 obtain rfl:=oi h
 exact rf (o [b0]) (Qa (jEj h3) q)
def Qjm (n:Nat) (a0:Int):Option (jSj) :=
 (QjH n a0).bind fun t1 =>
 some t1
theorem Qj3 {n:Nat} {a0:Int} {r:jSj} (h:Qjm n a0=some r):Computes cx 99 [I a0] (.v (.string r)):=by
 unfold Qjm at h
 obtain ⟨t1,h1,h⟩:=bo h;obtain rfl:=oi h
 exact rf [.ret (.v (.string t1))] (Qa (Ql2 h1) QL)
def QjF (n:Nat) (a0:jSj) (sa:(Int×Int)):Option (((Int×Int))⊕((Int))) :=
 if sa.2 < (a0.size:Int) then
  if Qh (353 * sa.1) then
  (WQ a0 sa.2).bind fun ta3 =>
  if Qh ((353 * sa.1)+(IntKind.wrap .i64 ta3)) then
  if Qh (sa.2+1) then
  some (.inl ((Int.tmod ((353 * sa.1)+(IntKind.wrap .i64 ta3)) 9999649),(sa.2+1)))
  else none
  else none
  else none
 else
 some (.inr sa.1)
noncomputable def Qly (a0:jSj):Lp ((Int×Int)) ((Int)):=⟨fun sa=>[(0,.d (.v (.string a0))),(3,.d (I sa.1)),(4,.d (I sa.2))],fun _=>[],fun _=>(.exit 0),fun e=>[(3,.d (I e))],fun _=>[]⟩
theorem Qlv {n:Nat} {a0:jSj} (sa:(Int×Int)) (r) (h:QjF n a0 sa=some r):Rl (ZJ cx.P 60 0) 28 0 false (Qly a0) sa r:=by
 unfold QjF at h
 rcases io h with ⟨ha1,h⟩ | ⟨ha1,h⟩
 ·obtain ⟨ha2,h⟩:=gd h;obtain ⟨ta3,ha3,h⟩:=bo h;obtain ⟨ha4,h⟩:=gd h;obtain ⟨ha5,h⟩:=gd h
  cases h
  exact rn 3 [b1,.el (.v (.int .u8 ta3))] [] [0,3,4] [] (Qa ha5 (Qa ((by decide):(9999649:Int)≠0) (Qa ha4 (Qa (Zq ha3:QV cx.P (Instr.index 9 (.string a0) (.int .i64 sa.2))=some (.int .u8 ta3)) (Qa ha2 (Qa (jDj ha1) QL))))))
 cases h
 exact rx 3 [b0] [] [3] [] (Qa (jEj ha1) QL)
def Qji (n:Nat)  (sa:(jSj)):Option (((jSj))⊕((jSj))) :=
 if (sa.size:Int) < 7 then
  if (⟨#[48]⟩:jSj).size+sa.size≤9223372036854775807 then
  some (.inl ((⟨#[48]⟩:jSj)++sa))
  else none
 else
 some (.inr sa)
noncomputable def Qlx  : Lp ((jSj)) ((jSj)):=⟨fun sa=>[(5,.d (.v (.string sa)))],fun _=>[],fun _=>(.exit 2),fun e=>[(5,.d (.v (.string e)))],fun _=>[]⟩
theorem Qlu {n:Nat}  (sa:(jSj)) (r) (h:Qji n  sa=some r):Rl (ZJ cx.P 60 1) 28 0 false (Qlx) sa r:=by
 unfold Qji at h
 rcases io h with ⟨ha1,h⟩ | ⟨ha1,h⟩
 ·obtain ⟨ha2,h⟩:=gd h
  cases h
  exact rn 33 [b1] [] [5] [] (Qa ha2 (Qa (jDj ha1) QL))
 cases h
 exact rx 33 [b0] [] [5] [] (Qa (jEj ha1) QL)
def QjC (n:Nat) (a0:jSj):Option (jSj) :=
 (Q2 (QjF n a0) n (1,0)).bind fun t1 =>
 (Qjm n t1).bind fun t2 =>
 (Q2 (Qji n) n t2).bind fun t3 =>
 some t3
theorem QkV {n:Nat} {a0:jSj} {r:jSj} (h:QjC n a0=some r):Computes cx 60 [.v (.string a0)] (.v (.string r)):=by
 unfold QjC at h
 obtain ⟨t1,h1,h⟩:=bo h;obtain ⟨t2,h2,h⟩:=bo h;obtain ⟨t3,h3,h⟩:=bo h;obtain rfl:=oi h
 exact rf [.lp [] [0,3,4] [] (.exit 0) [(3,.d (I t1))] [] 30,.ret (.v (.string t2)),.lp [] [5] [] (.exit 2) [(5,.d (.v (.string t3)))] [] 50] (Qa (QH Qlu h3) (Qa (Qj3 h2) (Qa (QH Qlv h1) QL)))
def QiT (n:Nat) (a0:jSj) (a1:Int) (sa:(Int×Int×jVj)):Option (((Int×Int×jVj))⊕((Int×jVj))) :=
 if sa.2.1 < (a0.size:Int) then
  (WQ a0 sa.2.1).bind fun ta2 =>
  if ta2=a1 then
   (Qi7 a0 (some sa.1) (some sa.2.1)).bind fun ta4 =>
   if Wa 16 ((sa.2.2).length+1) then
   if Qh (sa.2.1+1) then
   some (.inl ((sa.2.1+1),(sa.2.1+1),(sa.2.2++([.v (.string ta4)]:jVj))))
   else none
   else none
  else
  if Qh (sa.2.1+1) then
  some (.inl (sa.1,(sa.2.1+1),sa.2.2))
  else none
 else
 some (.inr (sa.1,sa.2.2))
noncomputable def QkN (a0:jSj) (a1:Int):Lp ((Int×Int×jVj)) ((Int×jVj)):=⟨fun sa=>[(0,.d (.v (.string a0))),(1,.d (.v (.int .u8 a1))),(5,.own 4 0),(6,.d (I sa.1)),(7,.d (I sa.2.1))],fun sa=>[(4,.row 0 1 sa.2.2)],fun _=>(.exit 0),fun e=>[(0,.d (.v (.string a0))),(5,.own 4 0),(6,.d (I e.1))],fun e=>[(4,.row 0 1 e.2)]⟩
theorem QkM {n:Nat} {a0:jSj} {a1:Int} (sa:(Int×Int×jVj)) (r) (h:QiT n a0 a1 sa=some r):Rl (ZJ cx.P 96 0) 34 0 false (QkN a0 a1) sa r:=by
 unfold QiT at h
 rcases io h with ⟨ha1,h⟩ | ⟨ha1,h⟩
 ·obtain ⟨ta2,ha2,h⟩:=bo h
  have q:=Qa (Zq ha2:QV cx.P (Instr.index 9 (.string a0) (.int .i64 sa.2.1))=some (.int .u8 ta2)) (Qa (jDj ha1) QL)
  let o (l:List Orc):=b1::.el (.v (.int .u8 ta2))::l
  rcases io h with ⟨ha3,h⟩ | ⟨ha3,h⟩
  ·obtain ⟨ta4,ha4,h⟩:=bo h;obtain ⟨ha5,h⟩:=gd h;obtain ⟨ha6,h⟩:=gd h
   cases h
   exact rn 5 (o [b1,.el (.v (.string ta4)),b1]) [] [0,1,5,6,7] [4] (Qa ha6 (Qa ha6 (Qa (ro 9 ha5) (Qa (QiU ha4:QV cx.P (Instr.sliceAt 9 (.string a0) (some (.int .i64 sa.1)) (some (.int .i64 sa.2.1)) none)=some (.string ta4)) (Qa (eqt ha3) q)))))
  obtain ⟨ha4,h⟩:=gd h
  cases h
  exact rn 5 (o [b0]) [] [0,1,5,6,7] [4] (Qa ha4 (Qa (eqf ha3) q))
 cases h
 exact rx 5 [b0] [] [0,5,6] [4] (Qa (jEj ha1) QL)
def Qi4 (n:Nat) (a0:jSj) (a1:Int):Option (jVj) :=
 (Q2 (QiT n a0 a1) n (0,0,[])).bind fun t1 =>
 (Qi7 a0 (some t1.1) none).bind fun t2 =>
 if Wa 16 ((t1.2).length+1) then
 some (t1.2++([.v (.string t2)]:jVj))
 else none
theorem Qko {n:Nat} {a0:jSj} {a1:Int} {r:jVj} (h:Qi4 n a0 a1=some r):Computes cx 96 [.v (.string a0),.v (.int .u8 a1)] (.lst false 1 r):=by
 unfold Qi4 at h
 obtain ⟨t1,h1,h⟩:=bo h;obtain ⟨t2,h2,h⟩:=bo h;obtain ⟨h3,h⟩:=gd h
 cases h
 exact rf [.lp [5,1] [0,1,5,6,7] [4] (.exit 0) [(0,.d (.v (.string a0))),(5,.own 4 0),(6,.d (I t1.1))] [(4,.row 0 1 t1.2)] 39,.el (.v (.string t2)),b1] (Qa (ro 9 h3) (Qa (QiU h2:QV cx.P (Instr.sliceAt 9 (.string a0) (some (.int .i64 t1.1)) none none)=some (.string t2)) (Qa (QH QkM h1) QL)))
def QiM (n:Nat) (a0:jSj) (sa:(Int×Int)):Option (((Int×Int))⊕((Unit)⊕(Int))) :=
 if sa.2 < (a0.size:Int) then
  (WQ a0 sa.2).bind fun ta2 =>
  if ta2 < 48 then
   some (.inr (.inl ()))
  else
  if ta2 > 57 then
   some (.inr (.inl ()))
  else
  if Qh (10 * sa.1) then
  if Qh ((10 * sa.1)+(IntKind.wrap .i64 (IntKind.wrap .u8 (ta2 - 48)))) then
  if Qh (sa.2+1) then
  some (.inl (((10 * sa.1)+(IntKind.wrap .i64 (IntKind.wrap .u8 (ta2 - 48)))),(sa.2+1)))
  else none
  else none
  else none
 else
 some (.inr (.inr sa.1))
noncomputable def Qkt (a0:jSj):Lp ((Int×Int)) ((Unit)⊕(Int)):=⟨fun sa=>[(0,.d (.v (.string a0))),(4,.d (I sa.1)),(5,.d (I sa.2))],fun _=>[],fun
 | (.inl e)=>.ret
 | (.inr e)=>(.exit 0),fun
 | (.inl e)=>[(2,.d (I 0)),(3,.d (B false))]
 | (.inr e)=>[(4,.d (I e))],fun _=>[]⟩
theorem Qjk {n:Nat} {a0:jSj} (sa:(Int×Int)) (r) (h:QiM n a0 sa=some r):Rl (ZJ cx.P 130 0) 49 0 false (Qkt a0) sa r:=by
 unfold QiM at h
 rcases io h with ⟨ha1,h⟩ | ⟨ha1,h⟩
 ·obtain ⟨ta2,ha2,h⟩:=bo h
  have q:=Qa (Zq ha2:QV cx.P (Instr.index 9 (.string a0) (.int .i64 sa.2))=some (.int .u8 ta2)) (Qa (jDj ha1) QL)
  let o (l:List Orc):=b1::.el (.v (.int .u8 ta2))::l
  rcases io h with ⟨ha3,h⟩ | ⟨ha3,h⟩
  ·cases h
   exact rx 22 (o [b1,.no]) [] [2,3] [] (Qa (jDj ha3) q)
  have q:=Qa (Zq ha2:QV cx.P (Instr.index 9 (.string a0) (.int .i64 sa.2))=some (.int .u8 ta2)) (Qa (jEj ha3) q)
  let o l:=o (b0::.el (.v (.int .u8 ta2))::l)
  rcases io h with ⟨ha4,h⟩ | ⟨ha4,h⟩
  ·cases h
   exact rx 22 (o [b1]) [] [2,3] [] (Qa (jDj ha4) q)
  obtain ⟨ha5,h⟩:=gd h;obtain ⟨ha6,h⟩:=gd h;obtain ⟨ha7,h⟩:=gd h
  cases h
  exact rn 22 (o [b0,.el (.v (.int .u8 ta2))]) [] [0,4,5] [] (Qa ha7 (Qa ha6 (Qa (Zq ha2:QV cx.P (Instr.index 9 (.string a0) (.int .i64 sa.2))=some (.int .u8 ta2)) (Qa ha5 (Qa (jEj ha4) q)))))
 cases h
 exact rx 22 [b0] [] [4] [] (Qa (jEj ha1) QL)
def QiH (n:Nat) (a0:jSj):Option (Int×Bool) :=
 if (a0.size:Int)=0 then
  some (0,false)
 else
 if (a0.size:Int) > 9 then
  some (0,false)
 else
 if (a0.size:Int) > 1 then
  (WQ a0 0).bind fun t4 =>
  if t4=48 then
   some (0,false)
  else
  (Q2 (QiM n a0) n (0,0)).bind fun t6=>match t6 with
   | (.inl t6)=>(
    some (0,false))
   | (.inr t6)=>(
    some (t6,true))
 else
 (Q2 (QiM n a0) n (0,0)).bind fun t4=>match t4 with
  | (.inl t4)=>(
   some (0,false))
  | (.inr t4)=>(
   some (t4,true))
theorem Qja {n:Nat} {a0:jSj} {r:Int×Bool} (h:QiH n a0=some r):Computes cx 130 [.v (.string a0)] (.tup [I r.1,B r.2]):=by
 unfold QiH at h
 rcases io h with ⟨h1,h⟩ | ⟨h1,h⟩
 ·cases h
  exact rf [b1,.no,.no] (Qa (eqt h1) QL)
 have q:=Qa (eqf h1) QL
 rcases io h with ⟨h2,h⟩ | ⟨h2,h⟩
 ·cases h
  exact rf [b0,b1,.no] (Qa (jDj h2) q)
 have q:=Qa (jEj h2) q
 let o (l:List Orc):=b0::b0::l
 rcases io h with ⟨h3,h⟩ | ⟨h3,h⟩
 ·obtain ⟨t4,h4,h⟩:=bo h
  have q:=Qa (Zq h4:QV cx.P (Instr.index 9 (.string a0) (.int .i64 0))=some (.int .u8 t4)) (Qa (jDj h3) q)
  let o l:=o (b1::.el (.v (.int .u8 t4))::l)
  rcases io h with ⟨h5,h⟩ | ⟨h5,h⟩
  ·cases h
   exact rf (o [b1]) (Qa (eqt h5) q)
  have q:=Qa (eqf h5) q
  obtain ⟨t6,h6,h⟩:=bo h
  rcases t6 with t6 | t6
  ·cases h
   exact rf (o [b0,.lp [] [0,4,5] [] .ret [(2,.d (I 0)),(3,.d (B false))] [] 59]) (Qa (QH Qjk h6) q)
  cases h
  exact rf (o [b0,.lp [] [0,4,5] [] (.exit 0) [(4,.d (I t6))] [] 59]) (Qa (QH Qjk h6) q)
 have q:=Qa (jEj h3) q
 obtain ⟨t4,h4,h⟩:=bo h
 rcases t4 with t4 | t4
 ·cases h
  exact rf (o [b0,.no,.lp [] [0,4,5] [] .ret [(2,.d (I 0)),(3,.d (B false))] [] 59]) (Qa (QH Qjk h4) q)
 cases h
 exact rf (o [b0,.no,.lp [] [0,4,5] [] (.exit 0) [(4,.d (I t4))] [] 59]) (Qa (QH Qjk h4) q)
def QiL (n:Nat) (t1:jVj) (t2:jSj) (t3:jSj×Int×Bool) (sa:(Unit)⊕(Int×jVj)⊕(Int×jVj)⊕(Int×jVj×jVj)⊕(Int×jVj×jVj)):Option (((Unit)⊕(Int×jVj)⊕(Int×jVj)⊕(Int×jVj×jVj)⊕(Int×jVj×jVj))⊕((Unit)⊕(Unit)⊕(jVj)⊕(jVj)⊕(jVj×jVj)⊕(jVj×jVj))):=match sa with
 | (.inl sa)=>(
  if 1 < ((1+(t3.1.size:Int))+t3.2.1) then
   (el Ww t1 1).bind fun ta2 =>
   if (ta2.toList == (⟨#[]⟩:jSj).toList)=true then
    some (.inr (.inl ()))
   else
   if 1≤(t3.1.size:Int) then
    some (.inl (.inr (.inl (2,[.v (.string ta2)]))))
   else
   (QiH n ta2).bind fun ta5 =>
   if ta5.2=true then
    some (.inl (.inr (.inr (.inl (2,[I ta5.1])))))
   else
   some (.inr (.inl ()))
  else
  some (.inr (.inr (.inl ()))))
 | (.inr (.inl sa))=>(
  if sa.1 < ((1+(t3.1.size:Int))+t3.2.1) then
   (el Ww t1 sa.1).bind fun ta2 =>
   if (ta2.toList == (⟨#[]⟩:jSj).toList)=true then
    some (.inr (.inl ()))
   else
   if sa.1≤(t3.1.size:Int) then
    if Wa 16 ((sa.2).length+1) then
    if Qh (sa.1+1) then
    some (.inl (.inr (.inl ((sa.1+1),(sa.2++([.v (.string ta2)]:jVj))))))
    else none
    else none
   else
   (QiH n ta2).bind fun ta5 =>
   if ta5.2=true then
    if Qh (sa.1+1) then
    some (.inl (.inr (.inr (.inr (.inl ((sa.1+1),sa.2,[I ta5.1]))))))
    else none
   else
   some (.inr (.inl ()))
  else
  some (.inr (.inr (.inr (.inl sa.2)))))
 | (.inr (.inr (.inl sa)))=>(
  if sa.1 < ((1+(t3.1.size:Int))+t3.2.1) then
   (el Ww t1 sa.1).bind fun ta2 =>
   if (ta2.toList == (⟨#[]⟩:jSj).toList)=true then
    some (.inr (.inl ()))
   else
   if sa.1≤(t3.1.size:Int) then
    if Qh (sa.1+1) then
    some (.inl (.inr (.inr (.inr (.inr ((sa.1+1),sa.2,[.v (.string ta2)]))))))
    else none
   else
   (QiH n ta2).bind fun ta5 =>
   if ta5.2=true then
    if Wa 8 ((sa.2).length+1) then
    if Qh (sa.1+1) then
    some (.inl (.inr (.inr (.inl ((sa.1+1),(sa.2++([I ta5.1]:jVj)))))))
    else none
    else none
   else
   some (.inr (.inl ()))
  else
  some (.inr (.inr (.inr (.inr (.inl sa.2))))))
 | (.inr (.inr (.inr (.inl sa))))=>(
  if sa.1 < ((1+(t3.1.size:Int))+t3.2.1) then
   (el Ww t1 sa.1).bind fun ta2 =>
   if (ta2.toList == (⟨#[]⟩:jSj).toList)=true then
    some (.inr (.inl ()))
   else
   if sa.1≤(t3.1.size:Int) then
    if Wa 16 ((sa.2.1).length+1) then
    if Qh (sa.1+1) then
    some (.inl (.inr (.inr (.inr (.inl ((sa.1+1),(sa.2.1++([.v (.string ta2)]:jVj)),sa.2.2))))))
    else none
    else none
   else
   (QiH n ta2).bind fun ta5 =>
   if ta5.2=true then
    if Wa 8 ((sa.2.2).length+1) then
    if Qh (sa.1+1) then
    some (.inl (.inr (.inr (.inr (.inl ((sa.1+1),sa.2.1,(sa.2.2++([I ta5.1]:jVj))))))))
    else none
    else none
   else
   some (.inr (.inl ()))
  else
  some (.inr (.inr (.inr (.inr (.inr (.inl (sa.2.1,sa.2.2))))))))
 | (.inr (.inr (.inr (.inr sa))))=>(
  if sa.1 < ((1+(t3.1.size:Int))+t3.2.1) then
   (el Ww t1 sa.1).bind fun ta2 =>
   if (ta2.toList == (⟨#[]⟩:jSj).toList)=true then
    some (.inr (.inl ()))
   else
   if sa.1≤(t3.1.size:Int) then
    if Wa 16 ((sa.2.2).length+1) then
    if Qh (sa.1+1) then
    some (.inl (.inr (.inr (.inr (.inr ((sa.1+1),sa.2.1,(sa.2.2++([.v (.string ta2)]:jVj))))))))
    else none
    else none
   else
   (QiH n ta2).bind fun ta5 =>
   if ta5.2=true then
    if Wa 8 ((sa.2.1).length+1) then
    if Qh (sa.1+1) then
    some (.inl (.inr (.inr (.inr (.inr ((sa.1+1),(sa.2.1++([I ta5.1]:jVj)),sa.2.2))))))
    else none
    else none
   else
   some (.inr (.inl ()))
  else
  some (.inr (.inr (.inr (.inr (.inr (.inr (sa.2.1,sa.2.2))))))))
noncomputable def QkH (t1:jVj) (t2:jSj) (t3:jSj×Int×Bool):Lp ((Unit)⊕(Int×jVj)⊕(Int×jVj)⊕(Int×jVj×jVj)⊕(Int×jVj×jVj)) ((Unit)⊕(Unit)⊕(jVj)⊕(jVj)⊕(jVj×jVj)⊕(jVj×jVj)):=⟨fun
 | (.inl sa)=>[(2,.ptr 0 0 0 0 0),(4,.d (.lst false 1 t1)),(5,.ptr 9 0 0 0 0),(6,.d (I ((1+(t3.1.size:Int))+t3.2.1))),(7,.ptr 32 0 0 0 0),(8,.d (I 1))]
 | (.inr (.inl sa))=>[(2,.ptr 0 0 0 0 0),(4,.d (.lst false 1 t1)),(5,.ptr 9 0 0 0 0),(6,.d (I ((1+(t3.1.size:Int))+t3.2.1))),(7,.ptr 32 0 0 0 0),(8,.d (I sa.1))]
 | (.inr (.inr (.inl sa)))=>[(2,.ptr 0 0 0 0 0),(4,.d (.lst false 1 t1)),(5,.ptr 9 0 0 0 0),(6,.d (I ((1+(t3.1.size:Int))+t3.2.1))),(7,.ptr 32 0 0 0 0),(8,.d (I sa.1))]
 | (.inr (.inr (.inr (.inl sa))))=>[(2,.ptr 0 0 0 0 0),(4,.d (.lst false 1 t1)),(5,.ptr 9 0 0 0 0),(6,.d (I ((1+(t3.1.size:Int))+t3.2.1))),(7,.ptr 32 0 0 0 0),(8,.d (I sa.1))]
 | (.inr (.inr (.inr (.inr sa))))=>[(2,.ptr 0 0 0 0 0),(4,.d (.lst false 1 t1)),(5,.ptr 9 0 0 0 0),(6,.d (I ((1+(t3.1.size:Int))+t3.2.1))),(7,.ptr 32 0 0 0 0),(8,.d (I sa.1))],fun
 | (.inl sa)=>[(0,.box (.d (.agg [I 0,.v (.string ⟨#[]⟩),.lst true 0 [],.lst true 0 [],.v (.string ⟨#[]⟩)]))),(9,.box (.d (.agg [.v (.string t3.1),I t3.2.1,B t3.2.2]))),(32,.box (.d (.agg [I 0,.v (.string t2),.lst true 0 [],.lst true 0 [],.v (.string ⟨#[]⟩)])))]
 | (.inr (.inl sa))=>[(0,.box (.d (.agg [I 0,.v (.string ⟨#[]⟩),.lst true 0 [],.lst true 0 [],.v (.string ⟨#[]⟩)]))),(9,.box (.d (.agg [.v (.string t3.1),I t3.2.1,B t3.2.2]))),(32,.box (.agg [.d (I 0),.d (.v (.string t2)),.own 55 0,.d (.lst true 0 []),.d (.v (.string ⟨#[]⟩))])),(55,.row 0 1 sa.2)]
 | (.inr (.inr (.inl sa)))=>[(0,.box (.d (.agg [I 0,.v (.string ⟨#[]⟩),.lst true 0 [],.lst true 0 [],.v (.string ⟨#[]⟩)]))),(9,.box (.d (.agg [.v (.string t3.1),I t3.2.1,B t3.2.2]))),(32,.box (.agg [.d (I 0),.d (.v (.string t2)),.d (.lst true 0 []),.own 64 0,.d (.v (.string ⟨#[]⟩))])),(64,.row 0 1 sa.2)]
 | (.inr (.inr (.inr (.inl sa))))=>[(0,.box (.d (.agg [I 0,.v (.string ⟨#[]⟩),.lst true 0 [],.lst true 0 [],.v (.string ⟨#[]⟩)]))),(9,.box (.d (.agg [.v (.string t3.1),I t3.2.1,B t3.2.2]))),(32,.box (.agg [.d (I 0),.d (.v (.string t2)),.own 55 0,.own 85 0,.d (.v (.string ⟨#[]⟩))])),(55,.row 0 1 sa.2.1),(85,.row 0 1 sa.2.2)]
 | (.inr (.inr (.inr (.inr sa))))=>[(0,.box (.d (.agg [I 0,.v (.string ⟨#[]⟩),.lst true 0 [],.lst true 0 [],.v (.string ⟨#[]⟩)]))),(9,.box (.d (.agg [.v (.string t3.1),I t3.2.1,B t3.2.2]))),(32,.box (.agg [.d (I 0),.d (.v (.string t2)),.own 85 0,.own 64 0,.d (.v (.string ⟨#[]⟩))])),(64,.row 0 1 sa.2.1),(85,.row 0 1 sa.2.2)],fun
 | (.inl e)=>.ret
 | (.inr (.inl e))=>(.exit 0)
 | (.inr (.inr (.inl e)))=>(.exit 0)
 | (.inr (.inr (.inr (.inl e))))=>(.exit 0)
 | (.inr (.inr (.inr (.inr (.inl e)))))=>(.exit 0)
 | (.inr (.inr (.inr (.inr (.inr e)))))=>(.exit 0),fun
 | (.inl e)=>[(2,.ptr 0 0 0 0 0),(3,.d (B false))]
 | (.inr (.inl e))=>[(2,.ptr 0 0 0 0 0),(7,.ptr 32 0 0 0 0)]
 | (.inr (.inr (.inl e)))=>[(2,.ptr 0 0 0 0 0),(7,.ptr 32 0 0 0 0)]
 | (.inr (.inr (.inr (.inl e))))=>[(2,.ptr 0 0 0 0 0),(7,.ptr 32 0 0 0 0)]
 | (.inr (.inr (.inr (.inr (.inl e)))))=>[(2,.ptr 0 0 0 0 0),(7,.ptr 32 0 0 0 0)]
 | (.inr (.inr (.inr (.inr (.inr e)))))=>[(2,.ptr 0 0 0 0 0),(7,.ptr 32 0 0 0 0)],fun
 | (.inl e)=>[(0,.box (.d (.agg [I 0,.v (.string ⟨#[]⟩),.lst true 0 [],.lst true 0 [],.v (.string ⟨#[]⟩)])))]
 | (.inr (.inl e))=>[(0,.box (.d (.agg [I 0,.v (.string ⟨#[]⟩),.lst true 0 [],.lst true 0 [],.v (.string ⟨#[]⟩)]))),(32,.box (.d (.agg [I 0,.v (.string t2),.lst true 0 [],.lst true 0 [],.v (.string ⟨#[]⟩)])))]
 | (.inr (.inr (.inl e)))=>[(0,.box (.d (.agg [I 0,.v (.string ⟨#[]⟩),.lst true 0 [],.lst true 0 [],.v (.string ⟨#[]⟩)]))),(32,.box (.agg [.d (I 0),.d (.v (.string t2)),.own 55 0,.d (.lst true 0 []),.d (.v (.string ⟨#[]⟩))])),(55,.row 0 1 e)]
 | (.inr (.inr (.inr (.inl e))))=>[(0,.box (.d (.agg [I 0,.v (.string ⟨#[]⟩),.lst true 0 [],.lst true 0 [],.v (.string ⟨#[]⟩)]))),(32,.box (.agg [.d (I 0),.d (.v (.string t2)),.d (.lst true 0 []),.own 64 0,.d (.v (.string ⟨#[]⟩))])),(64,.row 0 1 e)]
 | (.inr (.inr (.inr (.inr (.inl e)))))=>[(0,.box (.d (.agg [I 0,.v (.string ⟨#[]⟩),.lst true 0 [],.lst true 0 [],.v (.string ⟨#[]⟩)]))),(32,.box (.agg [.d (I 0),.d (.v (.string t2)),.own 55 0,.own 85 0,.d (.v (.string ⟨#[]⟩))])),(55,.row 0 1 e.1),(85,.row 0 1 e.2)]
 | (.inr (.inr (.inr (.inr (.inr e)))))=>[(0,.box (.d (.agg [I 0,.v (.string ⟨#[]⟩),.lst true 0 [],.lst true 0 [],.v (.string ⟨#[]⟩)]))),(32,.box (.agg [.d (I 0),.d (.v (.string t2)),.own 85 0,.own 64 0,.d (.v (.string ⟨#[]⟩))])),(64,.row 0 1 e.1),(85,.row 0 1 e.2)]⟩
theorem QiZ {n:Nat} {t1:jVj} {t2:jSj} {t3:jSj×Int×Bool} (sa:(Unit)⊕(Int×jVj)⊕(Int×jVj)⊕(Int×jVj×jVj)⊕(Int×jVj×jVj)) (r) (h:QiL n t1 t2 t3 sa=some r):Rl (ZJ cx.P 98 0) 81 0 false (QkH t1 t2 t3) sa r:=by
 unfold QiL at h
 rcases sa with sa | sa | sa | sa | sa
 ·rcases io h with ⟨ha1,h⟩ | ⟨ha1,h⟩
  ·obtain ⟨ta2,ha2,h⟩:=bo h
   have q:=allE Qr ha2 (Qa (jDj ha1) QL)
   let o (l:List Orc):=b1::.el (Zy ta2)::l
   rcases io h with ⟨ha3,h⟩ | ⟨ha3,h⟩
   ·cases h
    exact rx 35 (o [b1]) [] [2,3] [0] (Qa ha3 q)
   have q:=Qa (QA ha3) q
   rcases io h with ⟨ha4,h⟩ | ⟨ha4,h⟩
   ·cases h
    exact rn 35 (o [b0,b1,.el (Zy ta2),.no,.no]) [] [2,4,5,6,7,8] [0,9,32,55] (Qa ((by unfold Qh;omega):Qh 2) (allE Qr ha2 (Qa (jDj ha4) q)))
   obtain ⟨ta5,ha5,h⟩:=bo h
   have q:=Qa (Qja ha5) (allE Qr ha2 (Qa (jEj ha4) q))
   let o l:=o (b0::b0::.el (Zy ta2)::.ret (.tup [I ta5.1,B ta5.2])::l)
   rcases io h with ⟨ha6,h⟩ | ⟨ha6,h⟩
   ·cases h
    exact rn 35 (o [b0,.no,.no]) [] [2,4,5,6,7,8] [0,9,32,64] (Qa ((by unfold Qh;omega):Qh 2) (Qa (Ud ha6) q))
   cases h
   exact rx 35 (o [b1]) [] [2,3] [0] (Qa (Uc (QA ha6)) q)
  cases h
  exact rx 35 [b0] [] [2,7] [0,32] (Qa (jEj ha1) QL)
 ·rcases io h with ⟨ha1,h⟩ | ⟨ha1,h⟩
  ·obtain ⟨ta2,ha2,h⟩:=bo h
   have q:=allE Qr ha2 (Qa (jDj ha1) QL)
   let o (l:List Orc):=b1::.el (Zy ta2)::l
   rcases io h with ⟨ha3,h⟩ | ⟨ha3,h⟩
   ·cases h
    exact rx 56 (o [b1]) [] [2,3] [0] (Qa ha3 q)
   have q:=Qa (QA ha3) q
   rcases io h with ⟨ha4,h⟩ | ⟨ha4,h⟩
   ·obtain ⟨ha5,h⟩:=gd h;obtain ⟨ha6,h⟩:=gd h
    cases h
    exact rn 56 (o [b0,b1,.el (Zy ta2),b1]) [] [2,4,5,6,7,8] [0,9,32,55] (Qa ha6 (Qa (ro 9 ha5) (allE Qr ha2 (Qa (jDj ha4) q))))
   obtain ⟨ta5,ha5,h⟩:=bo h
   have q:=Qa (Qja ha5) (allE Qr ha2 (Qa (jEj ha4) q))
   let o l:=o (b0::b0::.el (Zy ta2)::.ret (.tup [I ta5.1,B ta5.2])::l)
   rcases io h with ⟨ha6,h⟩ | ⟨ha6,h⟩
   ·obtain ⟨ha7,h⟩:=gd h
    cases h
    exact rn 56 (o [b0,.no,.no]) [] [2,4,5,6,7,8] [0,9,32,55,85] (Qa ha7 (Qa (Ud ha6) q))
   cases h
   exact rx 56 (o [b1]) [] [2,3] [0] (Qa (Uc (QA ha6)) q)
  cases h
  exact rx 56 [b0] [] [2,7] [0,32,55] (Qa (jEj ha1) QL)
 ·rcases io h with ⟨ha1,h⟩ | ⟨ha1,h⟩
  ·obtain ⟨ta2,ha2,h⟩:=bo h
   have q:=allE Qr ha2 (Qa (jDj ha1) QL)
   let o (l:List Orc):=b1::.el (Zy ta2)::l
   rcases io h with ⟨ha3,h⟩ | ⟨ha3,h⟩
   ·cases h
    exact rx 65 (o [b1]) [] [2,3] [0] (Qa ha3 q)
   have q:=Qa (QA ha3) q
   rcases io h with ⟨ha4,h⟩ | ⟨ha4,h⟩
   ·obtain ⟨ha5,h⟩:=gd h
    cases h
    exact rn 65 (o [b0,b1,.el (Zy ta2),.no,.no]) [] [2,4,5,6,7,8] [0,9,32,64,85] (Qa ha5 (allE Qr ha2 (Qa (jDj ha4) q)))
   obtain ⟨ta5,ha5,h⟩:=bo h
   have q:=Qa (Qja ha5) (allE Qr ha2 (Qa (jEj ha4) q))
   let o l:=o (b0::b0::.el (Zy ta2)::.ret (.tup [I ta5.1,B ta5.2])::l)
   rcases io h with ⟨ha6,h⟩ | ⟨ha6,h⟩
   ·obtain ⟨ha7,h⟩:=gd h;obtain ⟨ha8,h⟩:=gd h
    cases h
    exact rn 65 (o [b0,b1]) [] [2,4,5,6,7,8] [0,9,32,64] (Qa ha8 (Qa (ro 3 ha7) (Qa (Ud ha6) q)))
   cases h
   exact rx 65 (o [b1]) [] [2,3] [0] (Qa (Uc (QA ha6)) q)
  cases h
  exact rx 65 [b0] [] [2,7] [0,32,64] (Qa (jEj ha1) QL)
 ·rcases io h with ⟨ha1,h⟩ | ⟨ha1,h⟩
  ·obtain ⟨ta2,ha2,h⟩:=bo h
   have q:=allE Qr ha2 (Qa (jDj ha1) QL)
   let o (l:List Orc):=b1::.el (Zy ta2)::l
   rcases io h with ⟨ha3,h⟩ | ⟨ha3,h⟩
   ·cases h
    exact rx 86 (o [b1]) [] [2,3] [0] (Qa ha3 q)
   have q:=Qa (QA ha3) q
   rcases io h with ⟨ha4,h⟩ | ⟨ha4,h⟩
   ·obtain ⟨ha5,h⟩:=gd h;obtain ⟨ha6,h⟩:=gd h
    cases h
    exact rn 86 (o [b0,b1,.el (Zy ta2),b1]) [] [2,4,5,6,7,8] [0,9,32,55,85] (Qa ha6 (Qa (ro 9 ha5) (allE Qr ha2 (Qa (jDj ha4) q))))
   obtain ⟨ta5,ha5,h⟩:=bo h
   have q:=Qa (Qja ha5) (allE Qr ha2 (Qa (jEj ha4) q))
   let o l:=o (b0::b0::.el (Zy ta2)::.ret (.tup [I ta5.1,B ta5.2])::l)
   rcases io h with ⟨ha6,h⟩ | ⟨ha6,h⟩
   ·obtain ⟨ha7,h⟩:=gd h;obtain ⟨ha8,h⟩:=gd h
    cases h
    exact rn 86 (o [b0,b1]) [] [2,4,5,6,7,8] [0,9,32,55,85] (Qa ha8 (Qa (ro 3 ha7) (Qa (Ud ha6) q)))
   cases h
   exact rx 86 (o [b1]) [] [2,3] [0] (Qa (Uc (QA ha6)) q)
  cases h
  exact rx 86 [b0] [] [2,7] [0,32,55,85] (Qa (jEj ha1) QL)
 ·rcases io h with ⟨ha1,h⟩ | ⟨ha1,h⟩
  ·obtain ⟨ta2,ha2,h⟩:=bo h
   have q:=allE Qr ha2 (Qa (jDj ha1) QL)
   let o (l:List Orc):=b1::.el (Zy ta2)::l
   rcases io h with ⟨ha3,h⟩ | ⟨ha3,h⟩
   ·cases h
    exact rx 86 (o [b1]) [] [2,3] [0] (Qa ha3 q)
   have q:=Qa (QA ha3) q
   rcases io h with ⟨ha4,h⟩ | ⟨ha4,h⟩
   ·obtain ⟨ha5,h⟩:=gd h;obtain ⟨ha6,h⟩:=gd h
    cases h
    exact rn 86 (o [b0,b1,.el (Zy ta2),b1]) [] [2,4,5,6,7,8] [0,9,32,64,85] (Qa ha6 (Qa (ro 9 ha5) (allE Qr ha2 (Qa (jDj ha4) q))))
   obtain ⟨ta5,ha5,h⟩:=bo h
   have q:=Qa (Qja ha5) (allE Qr ha2 (Qa (jEj ha4) q))
   let o l:=o (b0::b0::.el (Zy ta2)::.ret (.tup [I ta5.1,B ta5.2])::l)
   rcases io h with ⟨ha6,h⟩ | ⟨ha6,h⟩
   ·obtain ⟨ha7,h⟩:=gd h;obtain ⟨ha8,h⟩:=gd h
    cases h
    exact rn 86 (o [b0,b1]) [] [2,4,5,6,7,8] [0,9,32,64,85] (Qa ha8 (Qa (ro 3 ha7) (Qa (Ud ha6) q)))
   cases h
   exact rx 86 (o [b1]) [] [2,3] [0] (Qa (Uc (QA ha6)) q)
  cases h
  exact rx 86 [b0] [] [2,7] [0,32,64,85] (Qa (jEj ha1) QL)
def Qju (n:Nat) (a0:jSj):Option (Int×jSj×jVj×jVj×jSj×Bool) :=
 (Qi4 n a0 32).bind fun t1 =>
 (el Ww t1 0).bind fun t2 =>
 (Q1 n t2).bind fun t3 =>
 if Qh (1+(t3.1.size:Int)) then
 if Qh ((1+(t3.1.size:Int))+t3.2.1) then
 if t3.2.2=true then
  if ((t1).length:Int)=((1+(t3.1.size:Int))+t3.2.1) then
   (Q2 (QiL n t1 t2 t3) n (.inl ())).bind fun t8=>match t8 with
    | (.inl t8)=>(
     some (0,⟨#[]⟩,[],[],⟨#[]⟩,false))
    | (.inr (.inl t8))=>(
     some (0,t2,[],[],⟨#[]⟩,true))
    | (.inr (.inr (.inl t8)))=>(
     some (0,t2,t8,[],⟨#[]⟩,true))
    | (.inr (.inr (.inr (.inl t8))))=>(
     some (0,t2,[],t8,⟨#[]⟩,true))
    | (.inr (.inr (.inr (.inr (.inl t8)))))=>(
     some (0,t2,t8.1,t8.2,⟨#[]⟩,true))
    | (.inr (.inr (.inr (.inr (.inr t8)))))=>(
     some (0,t2,t8.2,t8.1,⟨#[]⟩,true))
  else
  some (0,⟨#[]⟩,[],[],⟨#[]⟩,false)
 else
 some (0,⟨#[]⟩,[],[],⟨#[]⟩,false)
 else none
 else none
theorem Qlq {n:Nat} {a0:jSj} {r:Int×jSj×jVj×jVj×jSj×Bool} (h:Qju n a0=some r):Computes cx 98 [.v (.string a0)] (.tup [.agg [I r.1,.v (.string r.2.1),.lst false 1 r.2.2.1,.lst false 1 r.2.2.2.1,.v (.string r.2.2.2.2.1)],B r.2.2.2.2.2]):=by
 unfold Qju at h
 obtain ⟨t1,h1,h⟩:=bo h;obtain ⟨t2,h2,h⟩:=bo h;obtain ⟨t3,h3,h⟩:=bo h;obtain ⟨h4,h⟩:=gd h;obtain ⟨h5,h⟩:=gd h
 have q:=Qa h5 (Qa h4 (Qa (qq h3) (allE Qr h2 (Qa (Qko h1) QL))))
 let o (l:List Orc):=.ret (.lst false 1 t1)::.el (Zy t2)::.ret (.agg [.v (.string t3.1),I t3.2.1,B t3.2.2])::l
 rcases io h with ⟨h6,h⟩ | ⟨h6,h⟩
 ·have q:=Qa (Ud h6) q
  let o l:=o (b0::l)
  rcases io h with ⟨h7,h⟩ | ⟨h7,h⟩
  ·have q:=allE Qr h2 (Qa (nef h7) q)
   let o l:=o (b0::.el (Zy t2)::l)
   obtain ⟨t8,h8,h⟩:=bo h
   rcases t8 with t8 | t8 | t8 | t8 | t8 | t8
   ·cases h
    exact (rf (r:=.tup [.agg [I 0,.v (.string ⟨#[]⟩),.lst true 0 [],.lst true 0 [],.v (.string ⟨#[]⟩)],B false]) (o [.lp [] [2,4,5,6,7,8] [0,9,32] .ret [(2,.ptr 0 0 0 0 0),(3,.d (B false))] [(0,.box (.d (.agg [I 0,.v (.string ⟨#[]⟩),.lst true 0 [],.lst true 0 [],.v (.string ⟨#[]⟩)])))] 132]) (Qa (QH QiZ h8) q)).le (LEs.refl _) (.tups (.cons (.aggs (.cons (.refl _) (.cons (.refl _) (.cons (.nilF) (.cons (.nilF) (.cons (.refl _) (.nil))))))) (.cons (.refl _) (.nil))))
   ·cases h
    exact (rf (r:=.tup [.agg [I 0,.v (.string t2),.lst true 0 [],.lst true 0 [],.v (.string ⟨#[]⟩)],B true]) (o [.lp [] [2,4,5,6,7,8] [0,9,32] (.exit 0) [(2,.ptr 0 0 0 0 0),(7,.ptr 32 0 0 0 0)] [(0,.box (.d (.agg [I 0,.v (.string ⟨#[]⟩),.lst true 0 [],.lst true 0 [],.v (.string ⟨#[]⟩)]))),(32,.box (.d (.agg [I 0,.v (.string t2),.lst true 0 [],.lst true 0 [],.v (.string ⟨#[]⟩)])))] 132]) (Qa (QH QiZ h8) q)).le (LEs.refl _) (.tups (.cons (.aggs (.cons (.refl _) (.cons (.refl _) (.cons (.nilF) (.cons (.nilF) (.cons (.refl _) (.nil))))))) (.cons (.refl _) (.nil))))
   ·cases h
    exact (rf (r:=.tup [.agg [I 0,.v (.string t2),.lst false 1 t8,.lst true 0 [],.v (.string ⟨#[]⟩)],B true]) (o [.lp [] [2,4,5,6,7,8] [0,9,32] (.exit 0) [(2,.ptr 0 0 0 0 0),(7,.ptr 32 0 0 0 0)] [(0,.box (.d (.agg [I 0,.v (.string ⟨#[]⟩),.lst true 0 [],.lst true 0 [],.v (.string ⟨#[]⟩)]))),(32,.box (.agg [.d (I 0),.d (.v (.string t2)),.own 55 0,.d (.lst true 0 []),.d (.v (.string ⟨#[]⟩))])),(55,.row 0 1 t8)] 132]) (Qa (QH QiZ h8) q)).le (LEs.refl _) (.tups (.cons (.aggs (.cons (.refl _) (.cons (.refl _) (.cons (.refl _) (.cons (.nilF) (.cons (.refl _) (.nil))))))) (.cons (.refl _) (.nil))))
   ·cases h
    exact (rf (r:=.tup [.agg [I 0,.v (.string t2),.lst true 0 [],.lst false 1 t8,.v (.string ⟨#[]⟩)],B true]) (o [.lp [] [2,4,5,6,7,8] [0,9,32] (.exit 0) [(2,.ptr 0 0 0 0 0),(7,.ptr 32 0 0 0 0)] [(0,.box (.d (.agg [I 0,.v (.string ⟨#[]⟩),.lst true 0 [],.lst true 0 [],.v (.string ⟨#[]⟩)]))),(32,.box (.agg [.d (I 0),.d (.v (.string t2)),.d (.lst true 0 []),.own 64 0,.d (.v (.string ⟨#[]⟩))])),(64,.row 0 1 t8)] 132]) (Qa (QH QiZ h8) q)).le (LEs.refl _) (.tups (.cons (.aggs (.cons (.refl _) (.cons (.refl _) (.cons (.nilF) (.cons (.refl _) (.cons (.refl _) (.nil))))))) (.cons (.refl _) (.nil))))
   ·cases h
    exact rf (o [.lp [] [2,4,5,6,7,8] [0,9,32] (.exit 0) [(2,.ptr 0 0 0 0 0),(7,.ptr 32 0 0 0 0)] [(0,.box (.d (.agg [I 0,.v (.string ⟨#[]⟩),.lst true 0 [],.lst true 0 [],.v (.string ⟨#[]⟩)]))),(32,.box (.agg [.d (I 0),.d (.v (.string t2)),.own 55 0,.own 85 0,.d (.v (.string ⟨#[]⟩))])),(55,.row 0 1 t8.1),(85,.row 0 1 t8.2)] 132]) (Qa (QH QiZ h8) q)
   cases h
   exact rf (o [.lp [] [2,4,5,6,7,8] [0,9,32] (.exit 0) [(2,.ptr 0 0 0 0 0),(7,.ptr 32 0 0 0 0)] [(0,.box (.d (.agg [I 0,.v (.string ⟨#[]⟩),.lst true 0 [],.lst true 0 [],.v (.string ⟨#[]⟩)]))),(32,.box (.agg [.d (I 0),.d (.v (.string t2)),.own 85 0,.own 64 0,.d (.v (.string ⟨#[]⟩))])),(64,.row 0 1 t8.1),(85,.row 0 1 t8.2)] 132]) (Qa (QH QiZ h8) q)
  cases h
  exact (rf (r:=.tup [.agg [I 0,.v (.string ⟨#[]⟩),.lst true 0 [],.lst true 0 [],.v (.string ⟨#[]⟩)],B false]) (o [b1]) (Qa (net h7) q)).le (LEs.refl _) (.tups (.cons (.aggs (.cons (.refl _) (.cons (.refl _) (.cons (.nilF) (.cons (.nilF) (.cons (.refl _) (.nil))))))) (.cons (.refl _) (.nil))))
 cases h
 exact (rf (r:=.tup [.agg [I 0,.v (.string ⟨#[]⟩),.lst true 0 [],.lst true 0 [],.v (.string ⟨#[]⟩)],B false]) (o [b1,.no]) (Qa (Uc (QA h6)) q)).le (LEs.refl _) (.tups (.cons (.aggs (.cons (.refl _) (.cons (.refl _) (.cons (.nilF) (.cons (.nilF) (.cons (.refl _) (.nil))))))) (.cons (.refl _) (.nil))))
end Go.Proofs.YtljabneifpkbjaaGreatDoor
set_option maxRecDepth 10000
set_option maxHeartbeats 4000000
namespace Go.Proofs.YtljabneifpkbjaaGreatDoor
open Go.SX
def Qjs (n:Nat) (a0:jSj):Option (Int×jSj×jVj×jVj×jSj×Int) :=
 if Qh ((a0.size:Int) - 8) then
 if ((a0.size:Int) - 8) < 0 then
  some (0,⟨#[]⟩,[],[],⟨#[]⟩,25)
 else
 (WQ a0 ((a0.size:Int) - 8)).bind fun t3 =>
 if t3=35 then
  if Qh (((a0.size:Int) - 8)+1) then
  (Qi7 a0 (some (((a0.size:Int) - 8)+1)) none).bind fun t6 =>
  (Qjt n t6).bind fun t7 =>
  if t7=true then
   (Qi7 a0 none (some ((a0.size:Int) - 8))).bind fun t9 =>
   (QjC n t9).bind fun t10 =>
   if (!(t6.toList == t10.toList))=true then
    some (0,⟨#[]⟩,[],[],⟨#[]⟩,27)
   else
   (Qi4 n t9 32).bind fun t12 =>
   (el Ww t12 0).bind fun t13 =>
   (QiH n t13).bind fun t14 =>
   if t14.2=true then
    if ((t12).length:Int) < 2 then
     some (0,⟨#[]⟩,[],[],⟨#[]⟩,25)
    else
    if Qh ((t13.size:Int)+1) then
    (Qi7 t9 (some ((t13.size:Int)+1)) none).bind fun t18 =>
    (Qju n t18).bind fun t19 =>
    if t19.2.2.2.2.2=true then
     (WV n t14.1 t19.2.1 t19.2.2.1 t19.2.2.2.1 t19.2.2.2.2.1).bind fun t21 =>
     if t21=0 then
      some (t14.1,t19.2.1,t19.2.2.1,t19.2.2.2.1,t19.2.2.2.2.1,0)
     else
     some (0,⟨#[]⟩,[],[],⟨#[]⟩,25)
    else
    some (0,⟨#[]⟩,[],[],⟨#[]⟩,25)
    else none
   else
   some (0,⟨#[]⟩,[],[],⟨#[]⟩,25)
  else
  some (0,⟨#[]⟩,[],[],⟨#[]⟩,25)
  else none
 else
 some (0,⟨#[]⟩,[],[],⟨#[]⟩,25)
 else none
theorem Qlo {n:Nat} {a0:jSj} {r:Int×jSj×jVj×jVj×jSj×Int} (h:Qjs n a0=some r):Computes cx 91 [.v (.string a0)] (.tup [.agg [I r.1,.v (.string r.2.1),.lst false 1 r.2.2.1,.lst false 1 r.2.2.2.1,.v (.string r.2.2.2.2.1)],I r.2.2.2.2.2]):=by
 unfold Qjs at h
 obtain ⟨h1,h⟩:=gd h
 have q:=Qa h1 QL
 rcases io h with ⟨h2,h⟩ | ⟨h2,h⟩
 ·cases h
  exact (rf (r:=.tup [.agg [I 0,.v (.string ⟨#[]⟩),.lst true 0 [],.lst true 0 [],.v (.string ⟨#[]⟩)],I 25]) [b1,.no,.no] (Qa (jDj h2) q)).le (LEs.refl _) (.tups (.cons (.aggs (.cons (.refl _) (.cons (.refl _) (.cons (.nilF) (.cons (.nilF) (.cons (.refl _) (.nil))))))) (.cons (.refl _) (.nil))))
 obtain ⟨t3,h3,h⟩:=bo h
 have q:=Qa (Zq h3:QV cx.P (Instr.index 9 (.string a0) (.int .i64 ((a0.size:Int) - 8)))=some (.int .u8 t3)) (Qa (jEj h2) q)
 let o (l:List Orc):=b0::.el (.v (.int .u8 t3))::l
 rcases io h with ⟨h4,h⟩ | ⟨h4,h⟩
 ·obtain ⟨h5,h⟩:=gd h;obtain ⟨t6,h6,h⟩:=bo h;obtain ⟨t7,h7,h⟩:=bo h
  have q:=Qa (Qlp h7) (Qa (QiU h6:QV cx.P (Instr.sliceAt 9 (.string a0) (some (.int .i64 (((a0.size:Int) - 8)+1))) none none)=some (.string t6)) (Qa h5 (Qa (nef h4) q)))
  let o l:=o (b0::.el (.v (.string t6))::.ret (B t7)::l)
  rcases io h with ⟨h8,h⟩ | ⟨h8,h⟩
  ·obtain ⟨t9,h9,h⟩:=bo h;obtain ⟨t10,h10,h⟩:=bo h
   have q:=Qa (QkV h10) (Qa (QiU h6:QV cx.P (Instr.sliceAt 9 (.string a0) (some (.int .i64 (((a0.size:Int) - 8)+1))) none none)=some (.string t6)) (Qa h5 (Qa (QiU h9:QV cx.P (Instr.sliceAt 9 (.string a0) none (some (.int .i64 ((a0.size:Int) - 8))) none)=some (.string t9)) (Qa (Ud h8) q))))
   let o l:=o (b0::.el (.v (.string t9))::.el (.v (.string t6))::.ret (.v (.string t10))::l)
   rcases io h with ⟨h11,h⟩ | ⟨h11,h⟩
   ·cases h
    exact (rf (r:=.tup [.agg [I 0,.v (.string ⟨#[]⟩),.lst true 0 [],.lst true 0 [],.v (.string ⟨#[]⟩)],I 27]) (o [b1]) (Qa h11 q)).le (LEs.refl _) (.tups (.cons (.aggs (.cons (.refl _) (.cons (.refl _) (.cons (.nilF) (.cons (.nilF) (.cons (.refl _) (.nil))))))) (.cons (.refl _) (.nil))))
   obtain ⟨t12,h12,h⟩:=bo h;obtain ⟨t13,h13,h⟩:=bo h;obtain ⟨t14,h14,h⟩:=bo h
   have q:=Qa (Qja h14) (allE Qr h13 (Qa (Qko h12) (Qa (QA h11) q)))
   let o l:=o (b0::.ret (.lst false 1 t12)::.el (Zy t13)::.ret (.tup [I t14.1,B t14.2])::l)
   rcases io h with ⟨h15,h⟩ | ⟨h15,h⟩
   ·have q:=Qa (Ud h15) q
    rcases io h with ⟨h16,h⟩ | ⟨h16,h⟩
    ·cases h
     exact (rf (r:=.tup [.agg [I 0,.v (.string ⟨#[]⟩),.lst true 0 [],.lst true 0 [],.v (.string ⟨#[]⟩)],I 25]) (o [b0,b1]) (Qa (jDj h16) q)).le (LEs.refl _) (.tups (.cons (.aggs (.cons (.refl _) (.cons (.refl _) (.cons (.nilF) (.cons (.nilF) (.cons (.refl _) (.nil))))))) (.cons (.refl _) (.nil))))
    obtain ⟨h17,h⟩:=gd h;obtain ⟨t18,h18,h⟩:=bo h;obtain ⟨t19,h19,h⟩:=bo h
    have q:=Qa (Qlq h19) (Qa (QiU h18:QV cx.P (Instr.sliceAt 9 (.string t9) (some (.int .i64 ((t13.size:Int)+1))) none none)=some (.string t18)) (Qa h17 (allE Qr h13 (Qa (jEj h16) q))))
    let o l:=o (b0::b0::.el (Zy t13)::.el (.v (.string t18))::.ret (.tup [.agg [I t19.1,.v (.string t19.2.1),.lst false 1 t19.2.2.1,.lst false 1 t19.2.2.2.1,.v (.string t19.2.2.2.2.1)],B t19.2.2.2.2.2])::l)
    rcases io h with ⟨h20,h⟩ | ⟨h20,h⟩
    ·obtain ⟨t21,h21,h⟩:=bo h
     have q:=Qa (K7 h21) (Qa (Ud h20) q)
     rcases io h with ⟨h22,h⟩ | ⟨h22,h⟩
     ·cases h
      exact rf (o [b0,.ret (I t21),b0]) (Qa (nef h22) q)
     cases h
     exact (rf (r:=.tup [.agg [I 0,.v (.string ⟨#[]⟩),.lst true 0 [],.lst true 0 [],.v (.string ⟨#[]⟩)],I 25]) (o [b0,.ret (I t21),b1]) (Qa (net h22) q)).le (LEs.refl _) (.tups (.cons (.aggs (.cons (.refl _) (.cons (.refl _) (.cons (.nilF) (.cons (.nilF) (.cons (.refl _) (.nil))))))) (.cons (.refl _) (.nil))))
    cases h
    exact (rf (r:=.tup [.agg [I 0,.v (.string ⟨#[]⟩),.lst true 0 [],.lst true 0 [],.v (.string ⟨#[]⟩)],I 25]) (o [b1,.no]) (Qa (Uc (QA h20)) q)).le (LEs.refl _) (.tups (.cons (.aggs (.cons (.refl _) (.cons (.refl _) (.cons (.nilF) (.cons (.nilF) (.cons (.refl _) (.nil))))))) (.cons (.refl _) (.nil))))
   cases h
   exact (rf (r:=.tup [.agg [I 0,.v (.string ⟨#[]⟩),.lst true 0 [],.lst true 0 [],.v (.string ⟨#[]⟩)],I 25]) (o [b1,.no]) (Qa (Uc (QA h15)) q)).le (LEs.refl _) (.tups (.cons (.aggs (.cons (.refl _) (.cons (.refl _) (.cons (.nilF) (.cons (.nilF) (.cons (.refl _) (.nil))))))) (.cons (.refl _) (.nil))))
  cases h
  exact (rf (r:=.tup [.agg [I 0,.v (.string ⟨#[]⟩),.lst true 0 [],.lst true 0 [],.v (.string ⟨#[]⟩)],I 25]) (o [b1]) (Qa (Uc (QA h8)) q)).le (LEs.refl _) (.tups (.cons (.aggs (.cons (.refl _) (.cons (.refl _) (.cons (.nilF) (.cons (.nilF) (.cons (.refl _) (.nil))))))) (.cons (.refl _) (.nil))))
 cases h
 exact (rf (r:=.tup [.agg [I 0,.v (.string ⟨#[]⟩),.lst true 0 [],.lst true 0 [],.v (.string ⟨#[]⟩)],I 25]) (o [b1,.no]) (Qa (net h4) q)).le (LEs.refl _) (.tups (.cons (.aggs (.cons (.refl _) (.cons (.refl _) (.cons (.nilF) (.cons (.nilF) (.cons (.refl _) (.nil))))))) (.cons (.refl _) (.nil))))
def QiJ (n:Nat) (a0:jSj) (sa:(Int×Int×jVj)):Option (((Int×Int×jVj))⊕((Int×Int×jVj)⊕(Int×jVj))) :=
 if sa.2.1 < (a0.size:Int) then
  (WQ a0 sa.2.1).bind fun ta2 =>
  if ta2=10 then
   (Qi7 a0 (some sa.1) (some sa.2.1)).bind fun ta4 =>
   (Qjs n ta4).bind fun ta5 =>
   if ta5.2.2.2.2.2=0 then
    if Qh (((sa.2.2).length:Int)+1) then
    if ta5.1=(((sa.2.2).length:Int)+1) then
     if Wa 88 ((sa.2.2).length+1) then
     if Qh (sa.2.1+1) then
     some (.inl ((sa.2.1+1),(sa.2.1+1),(sa.2.2++([.agg [I ta5.1,.v (.string ta5.2.1),.lst false 1 ta5.2.2.1,.lst false 1 ta5.2.2.2.1,.v (.string ta5.2.2.2.2.1)]]:jVj))))
     else none
     else none
    else
    some (.inr (.inl (sa.1,11,sa.2.2)))
    else none
   else
   some (.inr (.inl (sa.1,ta5.2.2.2.2.2,sa.2.2)))
  else
  if Qh (sa.2.1+1) then
  some (.inl (sa.1,(sa.2.1+1),sa.2.2))
  else none
 else
 some (.inr (.inr (sa.1,sa.2.2)))
noncomputable def Qks (a0:jSj):Lp ((Int×Int×jVj)) ((Int×Int×jVj)⊕(Int×jVj)):=⟨fun sa=>[(0,.d (.v (.string a0))),(5,.own 9 0),(6,.d (I sa.1)),(7,.d (I sa.2.1))],fun sa=>[(9,.row 0 5 sa.2.2)],fun
 | (.inl e)=>.ret
 | (.inr e)=>(.exit 0),fun
 | (.inl e)=>[(2,.own 9 0),(3,.d (I e.1)),(4,.d (I e.2.1))]
 | (.inr e)=>[(0,.d (.v (.string a0))),(5,.own 9 0),(6,.d (I e.1))],fun
 | (.inl e)=>[(9,.row 0 5 e.2.2)]
 | (.inr e)=>[(9,.row 0 5 e.2)]⟩
theorem QjS {n:Nat} {a0:jSj} (sa:(Int×Int×jVj)) (r) (h:QiJ n a0 sa=some r):Rl (ZJ cx.P 45 0) 60 0 false (Qks a0) sa r:=by
 unfold QiJ at h
 rcases io h with ⟨ha1,h⟩ | ⟨ha1,h⟩
 ·obtain ⟨ta2,ha2,h⟩:=bo h
  have q:=Qa (Zq ha2:QV cx.P (Instr.index 9 (.string a0) (.int .i64 sa.2.1))=some (.int .u8 ta2)) (Qa (jDj ha1) QL)
  let o (l:List Orc):=b1::.el (.v (.int .u8 ta2))::l
  rcases io h with ⟨ha3,h⟩ | ⟨ha3,h⟩
  ·obtain ⟨ta4,ha4,h⟩:=bo h;obtain ⟨ta5,ha5,h⟩:=bo h
   have q:=Qa (Qlo ha5) (Qa (QiU ha4:QV cx.P (Instr.sliceAt 9 (.string a0) (some (.int .i64 sa.1)) (some (.int .i64 sa.2.1)) none)=some (.string ta4)) (Qa (nef ha3) q))
   let o l:=o (b0::.el (.v (.string ta4))::.ret (.tup [.agg [I ta5.1,.v (.string ta5.2.1),.lst false 1 ta5.2.2.1,.lst false 1 ta5.2.2.2.1,.v (.string ta5.2.2.2.2.1)],I ta5.2.2.2.2.2])::l)
   rcases io h with ⟨ha6,h⟩ | ⟨ha6,h⟩
   ·obtain ⟨ha7,h⟩:=gd h
    have q:=Qa ha7 (Qa (eqt ha6) q)
    rcases io h with ⟨ha8,h⟩ | ⟨ha8,h⟩
    ·obtain ⟨ha9,h⟩:=gd h;obtain ⟨ha10,h⟩:=gd h
     cases h
     exact rn 10 (o [b1,b0,b0,b1]) [] [0,5,6,7] [9] (Qa ha10 (Qa ha10 (Qa (ro 65 ha9) (Qa (nef ha6) (Qa (nef ha8) q)))))
    cases h
    exact rx 10 (o [b1,b1,.no]) [] [2,3,4] [9] (Qa (net ha8) q)
   cases h
   exact rx 10 (o [b0,.no,b1]) [] [2,3,4] [9] (Qa (net ha6) (Qa (eqf ha6) q))
  obtain ⟨ha4,h⟩:=gd h
  cases h
  exact rn 10 (o [b1]) [] [0,5,6,7] [9] (Qa ha4 (Qa (net ha3) q))
 cases h
 exact rx 10 [b0] [] [0,5,6] [9] (Qa (jEj ha1) QL)
def Qjp (n:Nat) (a0:jSj):Option (jVj×Int×Int) :=
 if (a0.size:Int) > 1000000 then
  some ([],0,26)
 else
 (Q2 (QiJ n a0) n (0,0,[])).bind fun t2=>match t2 with
  | (.inl t2)=>(
   some (t2.2.2,t2.1,t2.2.1))
  | (.inr t2)=>(
   if t2.1 < (a0.size:Int) then
    some (t2.2,t2.1,28)
   else
   some (t2.2,t2.1,0))
theorem QkZ {n:Nat} {a0:jSj} {r:jVj×Int×Int} (h:Qjp n a0=some r):Computes cx 45 [.v (.string a0)] (.tup [.lst false 5 r.1,I r.2.1,I r.2.2]):=by
 unfold Qjp at h
 rcases io h with ⟨h1,h⟩ | ⟨h1,h⟩
 ·cases h
  exact (rf (r:=.tup [.lst true 0 [],I 0,I 26]) [b1] (Qa (jDj h1) QL)).le (LEs.refl _) (.tups (.cons (.nilF) (.cons (.refl _) (.cons (.refl _) (.nil)))))
 have q:=Qa (jEj h1) QL
 obtain ⟨t2,h2,h⟩:=bo h
 rcases t2 with t2 | t2
 ·cases h
  exact rf [b0,.lp [5,5] [0,5,6,7] [9] .ret [(2,.own 9 0),(3,.d (I t2.1)),(4,.d (I t2.2.1))] [(9,.row 0 5 t2.2.2)] 63] (Qa (QH QjS h2) q)
 have q:=Qa (QH QjS h2) q
 let o (l:List Orc):=b0::.lp [5,5] [0,5,6,7] [9] (.exit 0) [(0,.d (.v (.string a0))),(5,.own 9 0),(6,.d (I t2.1))] [(9,.row 0 5 t2.2)] 63::l
 rcases io h with ⟨h3,h⟩ | ⟨h3,h⟩
 ·cases h
  exact rf (o [b1]) (Qa (jDj h3) q)
 cases h
 exact rf (o [b0]) (Qa (jEj h3) q)
def Qi1 (n:Nat) (a0:Int) (a1:jSj) (a2 a3:jVj) (a4:jSj) (sa:(jSj×Int)):Option (((jSj×Int))⊕((jSj))) :=
 if sa.2 < ((a2).length:Int) then
  if sa.1.size+(⟨#[32]⟩:jSj).size≤9223372036854775807 then
  (el Ww a2 sa.2).bind fun ta3 =>
  if (sa.1++(⟨#[32]⟩:jSj)).size+ta3.size≤9223372036854775807 then
  if Qh (sa.2+1) then
  some (.inl (((sa.1++(⟨#[32]⟩:jSj))++ta3),(sa.2+1)))
  else none
  else none
  else none
 else
 some (.inr sa.1)
noncomputable def Qk4 (a0:Int) (a1:jSj) (a2 a3:jVj) (a4:jSj):Lp ((jSj×Int)) ((jSj)):=⟨fun sa=>[(1,.ptr 0 0 0 0 0),(3,.d (.v (.string sa.1))),(4,.d (I sa.2))],fun _=>[(0,.box (.d (.agg [I a0,.v (.string a1),.lst false 1 a2,.lst false 1 a3,.v (.string a4)])))],fun _=>(.exit 0),fun e=>[(1,.ptr 0 0 0 0 0),(3,.d (.v (.string e)))],fun _=>[(0,.box (.d (.agg [I a0,.v (.string a1),.lst false 1 a2,.lst false 1 a3,.v (.string a4)])))]⟩
theorem Qk1 {n:Nat} {a0:Int} {a1:jSj} {a2 a3:jVj} {a4:jSj} (sa:(jSj×Int)) (r) (h:Qi1 n a0 a1 a2 a3 a4 sa=some r):Rl (ZJ cx.P 94 0) 45 0 false (Qk4 a0 a1 a2 a3 a4) sa r:=by
 unfold Qi1 at h
 rcases io h with ⟨ha1,h⟩ | ⟨ha1,h⟩
 ·obtain ⟨ha2,h⟩:=gd h;obtain ⟨ta3,ha3,h⟩:=bo h;obtain ⟨ha4,h⟩:=gd h;obtain ⟨ha5,h⟩:=gd h
  cases h
  exact rn 11 [b1,.el (Zy ta3)] [] [1,3,4] [0] (Qa ha5 (Qa ha4 (allE Qr ha3 (Qa ha2 (Qa (jDj ha1) QL)))))
 cases h
 exact rx 11 [b0] [] [1,3] [0] (Qa (jEj ha1) QL)
def Qi0 (n:Nat) (a0:Int) (a1:jSj) (a2 a3:jVj) (a4:jSj) (sa:(jSj×Int)):Option (((jSj×Int))⊕((jSj))) :=
 if sa.2 < ((a3).length:Int) then
  if sa.1.size+(⟨#[32]⟩:jSj).size≤9223372036854775807 then
  (el Vt a3 sa.2).bind fun ta3 =>
  (Qjm n ta3).bind fun ta4 =>
  if (sa.1++(⟨#[32]⟩:jSj)).size+ta4.size≤9223372036854775807 then
  if Qh (sa.2+1) then
  some (.inl (((sa.1++(⟨#[32]⟩:jSj))++ta4),(sa.2+1)))
  else none
  else none
  else none
 else
 some (.inr sa.1)
noncomputable def Qk3 (a0:Int) (a1:jSj) (a2 a3:jVj) (a4:jSj):Lp ((jSj×Int)) ((jSj)):=⟨fun sa=>[(1,.ptr 0 0 0 0 0),(3,.d (.v (.string sa.1))),(5,.d (I sa.2))],fun _=>[(0,.box (.d (.agg [I a0,.v (.string a1),.lst false 1 a2,.lst false 1 a3,.v (.string a4)])))],fun _=>(.exit 2),fun e=>[(3,.d (.v (.string e)))],fun _=>[]⟩
theorem Qk0 {n:Nat} {a0:Int} {a1:jSj} {a2 a3:jVj} {a4:jSj} (sa:(jSj×Int)) (r) (h:Qi0 n a0 a1 a2 a3 a4 sa=some r):Rl (ZJ cx.P 94 1) 45 0 false (Qk3 a0 a1 a2 a3 a4) sa r:=by
 unfold Qi0 at h
 rcases io h with ⟨ha1,h⟩ | ⟨ha1,h⟩
 ·obtain ⟨ha2,h⟩:=gd h;obtain ⟨ta3,ha3,h⟩:=bo h;obtain ⟨ta4,ha4,h⟩:=bo h;obtain ⟨ha5,h⟩:=gd h;obtain ⟨ha6,h⟩:=gd h
  cases h
  exact rn 40 [b1,.el (Q3 ta3),.ret (.v (.string ta4))] [] [1,3,5] [0] (Qa ha6 (Qa ha5 (Qa (Qj3 ha4) (allE Qi ha3 (Qa ha2 (Qa (jDj ha1) QL))))))
 cases h
 exact rx 40 [b0] [] [3] [] (Qa (jEj ha1) QL)
def QjG (n:Nat) (a0:Int) (a1:jSj) (a2 a3:jVj) (a4:jSj):Option (jSj) :=
 (Qjm n a0).bind fun t1 =>
 if t1.size+(⟨#[32]⟩:jSj).size≤9223372036854775807 then
 if (t1++(⟨#[32]⟩:jSj)).size+a1.size≤9223372036854775807 then
 (Q2 (Qi1 n a0 a1 a2 a3 a4) n (((t1++(⟨#[32]⟩:jSj))++a1),0)).bind fun t4 =>
 (Q2 (Qi0 n a0 a1 a2 a3 a4) n (t4,0)).bind fun t5 =>
 some t5
 else none
 else none
theorem QkE {n:Nat} {a0:Int} {a1:jSj} {a2 a3:jVj} {a4:jSj} {r:jSj} (h:QjG n a0 a1 a2 a3 a4=some r):Computes cx 94 [.agg [I a0,.v (.string a1),.lst false 1 a2,.lst false 1 a3,.v (.string a4)]] (.v (.string r)):=by
 unfold QjG at h
 obtain ⟨t1,h1,h⟩:=bo h;obtain ⟨h2,h⟩:=gd h;obtain ⟨h3,h⟩:=gd h;obtain ⟨t4,h4,h⟩:=bo h;obtain ⟨t5,h5,h⟩:=bo h;obtain rfl:=oi h
 exact rf [.ret (.v (.string t1)),.lp [] [1,3,4] [0] (.exit 0) [(1,.ptr 0 0 0 0 0),(3,.d (.v (.string t4)))] [(0,.box (.d (.agg [I a0,.v (.string a1),.lst false 1 a2,.lst false 1 a3,.v (.string a4)])))] 39,.lp [] [1,3,5] [0] (.exit 2) [(3,.d (.v (.string t5)))] [] 69] (Qa (QH Qk0 h5) (Qa (QH Qk1 h4) (Qa h3 (Qa h2 (Qa (Qj3 h1) QL)))))
def QiY (n:Nat) (a0:jVj) (sa:(jSj×Int)):Option (((jSj×Int))⊕((jSj))) :=
 if sa.2 < ((a0).length:Int) then
  (el Ze a0 sa.2).bind fun ta2 =>
  (QjG n ta2.1 ta2.2.1 ta2.2.2.1 ta2.2.2.2.1 ta2.2.2.2.2).bind fun ta3 =>
  if sa.1.size+ta3.size≤9223372036854775807 then
  if (sa.1++ta3).size+(⟨#[35]⟩:jSj).size≤9223372036854775807 then
  (QjC n ta3).bind fun ta6 =>
  if ((sa.1++ta3)++(⟨#[35]⟩:jSj)).size+ta6.size≤9223372036854775807 then
  if (((sa.1++ta3)++(⟨#[35]⟩:jSj))++ta6).size+(⟨#[10]⟩:jSj).size≤9223372036854775807 then
  if Qh (sa.2+1) then
  some (.inl (((((sa.1++ta3)++(⟨#[35]⟩:jSj))++ta6)++(⟨#[10]⟩:jSj)),(sa.2+1)))
  else none
  else none
  else none
  else none
  else none
 else
 some (.inr sa.1)
noncomputable def Qlz (a0:jVj):Lp ((jSj×Int)) ((jSj)):=⟨fun sa=>[(0,.d (.lst false 5 a0)),(3,.d (.v (.string sa.1))),(4,.d (I sa.2))],fun _=>[],fun _=>(.exit 0),fun e=>[(3,.d (.v (.string e)))],fun _=>[]⟩
theorem Qlw {n:Nat} {a0:jVj} (sa:(jSj×Int)) (r) (h:QiY n a0 sa=some r):Rl (ZJ cx.P 47 0) 28 0 false (Qlz a0) sa r:=by
 unfold QiY at h
 rcases io h with ⟨ha1,h⟩ | ⟨ha1,h⟩
 ·obtain ⟨ta2,ha2,h⟩:=bo h;obtain ⟨ta3,ha3,h⟩:=bo h;obtain ⟨ha4,h⟩:=gd h;obtain ⟨ha5,h⟩:=gd h;obtain ⟨ta6,ha6,h⟩:=bo h;obtain ⟨ha7,h⟩:=gd h;obtain ⟨ha8,h⟩:=gd h;obtain ⟨ha9,h⟩:=gd h
  cases h
  exact rn 3 [b1,.el (QP ta2),.ret (.v (.string ta3)),.el (QP ta2),.ret (.v (.string ta3)),.ret (.v (.string ta6))] [] [0,3,4] [] (Qa ha9 (Qa ha8 (Qa ha7 (Qa (QkV ha6) (Qa (QkE ha3) (allE Ql ha2 (Qa ha5 (Qa ha4 (Qa (QkE ha3) (allE Ql ha2 (Qa (jDj ha1) QL)))))))))))
 cases h
 exact rx 3 [b0] [] [3] [] (Qa (jEj ha1) QL)
def QjD (n:Nat) (a0:jVj):Option (jSj) :=
 (Q2 (QiY n a0) n (⟨#[]⟩,0)).bind fun t1 =>
 some t1
theorem Qmr {n:Nat} {a0:jVj} {r:jSj} (h:QjD n a0=some r):Computes cx 47 [.lst false 5 a0] (.v (.string r)):=by
 unfold QjD at h
 obtain ⟨t1,h1,h⟩:=bo h;obtain rfl:=oi h
 exact rf [.lp [] [0,3,4] [] (.exit 0) [(3,.d (.v (.string t1)))] [] 38] (Qa (QH Qlw h1) QL)
end Go.Proofs.YtljabneifpkbjaaGreatDoor
