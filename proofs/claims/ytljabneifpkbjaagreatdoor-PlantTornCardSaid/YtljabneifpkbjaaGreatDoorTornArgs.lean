/- Own texts. -/
import Derived.Test.YtljabneifpkbjaaGreatDoorAwk
import Derived.Lib.Bytealg
import Derived.Lib.ItoaNum
import Derived.Lib.SlTrimSet
import Derived.Lib.Join
import Derived.KernelRfl
import Derived.Test.YtljabneifpkbjaaGreatDoorPAsk
set_option linter.unusedSimpArgs false
set_option linter.unusedVariables false
set_option linter.unnecessarySimpa false
set_option maxRecDepth 10000
set_option maxHeartbeats 4000000
namespace Go.Proofs.YtljabneifpkbjaaGreatDoor
open Go.SX
def Qn6 (n:Nat)(d:jSj):Option (Int×jVj×jVj×jRj) := (Qjc n d).bind fun c=>if c.2.2=0 then(Q6 n c.1).bind fun a=>if a.2.1=0 then some (0,a.2.2.1,a.2.2.2.1,a.2.2.2.2.1,a.2.2.2.2.2.1,a.2.2.2.2.2.2.1,a.2.2.2.2.2.2.2.1,a.2.2.2.2.2.2.2.2.1,a.2.2.2.2.2.2.2.2.2.1,a.2.2.2.2.2.2.2.2.2.2.1,a.2.2.2.2.2.2.2.2.2.2.2.1,a.2.2.2.2.2.2.2.2.2.2.2.2.1,a.2.2.2.2.2.2.2.2.2.2.2.2.2) else none else if c.2.2=28 then(Q6 n c.1).bind fun b=>if b.2.1=0 then some (0,b.2.2.1,b.2.2.2.1,b.2.2.2.2.1,b.2.2.2.2.2.1,b.2.2.2.2.2.2.1,b.2.2.2.2.2.2.2.1,b.2.2.2.2.2.2.2.2.1,b.2.2.2.2.2.2.2.2.2.1,b.2.2.2.2.2.2.2.2.2.2.1,b.2.2.2.2.2.2.2.2.2.2.2.1,b.2.2.2.2.2.2.2.2.2.2.2.2.1,b.2.2.2.2.2.2.2.2.2.2.2.2.2) else none else none
theorem Qo0 {n e r}(h:Qn6 n e=some r):ComputesO cx 48 [.d (.v (.string e))] none (.tup [.ptr 0 0 0 0 0,.d (I r.1)]) (Qb' r.2) []:=by
 unfold Qn6 at h;have⟨t1,h1,h⟩:=bo h;have q:=Qa (Qj7 h1) QL;let o(l:jOj):=.ret (.tup [.lst false 5 t1.1,I t1.2.1,I t1.2.2])::l;obtain⟨c,h⟩|⟨c,h⟩:=io h
 ·have⟨t3,a,h⟩:=bo h;obtain⟨b,h⟩|⟨b,h⟩:=io h
  ·cases h;exact rfO 45 (o [b0,.no,.obj none (.tup [.ptr 0 0 0 0 0,.d (I t3.1),.d (I t3.2.1)]) (Qb' t3.2.2) [],b0]) (Qa (nef b) (Qa (We a) (Qa (nef c) q)))
  cases h
 obtain⟨a,h⟩|⟨a,h⟩:=io h
 ·have⟨t4,b,h⟩:=bo h;obtain⟨f,h⟩|⟨f,h⟩:=io h
  ·cases h;exact rfO 45 (o [b1,b0,.obj none (.tup [.ptr 0 0 0 0 0,.d (I t4.1),.d (I t4.2.1)]) (Qb' t4.2.2) [],b0]) (Qa (nef f) (Qa (We b) (Qa (nef a) (Qa (net c) q))))
  cases h
 cases h
def Qn0 (n:Nat)(a:Int)(c:jSj)(d e:jVj)(f:jSj):Option (jSj) := (QjG n a c d e f).bind fun g=>(Qjm n a).bind fun b=>if Qh ((b.size:Int)+1) then(Qi7 g (some ((b.size:Int)+1)) none).bind fun h=>some h else none
theorem Qo6 {n a b c d e r}(h:Qn0 n a b c d e=some r):Computes cx 56 [.agg [I a,.v (.string b),.lst false 1 c,.lst false 1 d,.v (.string e)]] (.v (.string r)):=by unfold Qn0 at h;have⟨t1,h1,h⟩:=bo h;have⟨t2,h2,h⟩:=bo h;have⟨h3,h⟩:=gd h;have⟨t4,f,h⟩:=bo h;obtain rfl:=oi h;exact rf [.ret (.v (.string t1)),.ret (.v (.string t2)),.el (.v (.string t4))] (Qa (QiU f:QV cx.P (Instr.sliceAt 9 (.string t1) (some (.int .i64 ((t2.size:Int)+1))) none none)=some (.string t4)) (Qa h3 (Qa (Qj3 h2) (Qa (QkE h1) QL))))
def Qn2 (n:Nat)(a:jSj):Option (Int) := if((⟨#[44]⟩:jSj).toList==a.toList)=true then some 0 else(Qi6 n a 44).bind fun b=>some b
theorem Qot {n b r}(h:Qn2 n b=some r):Computes cx 206 [.v (.string b),.v (.string ⟨#[44]⟩)] (I r):=by
 unfold Qn2 at h;obtain⟨a,h⟩|⟨a,h⟩:=io h
 ·obtain rfl:=oi h;exact rf [.no,b1] (Qa a QL)
 have⟨t2,h2,h⟩:=bo h;obtain rfl:=oi h;exact rf [.no,b0,.no,.no,.ret (I t2)] (Qa (QjZ h2) (Qa (QA a) QL))
def Qn8 (n:Nat)(a:jSj):Option (Int) := (Qn2 n a).bind fun b=>some b
theorem QoX {n a r}(h:Qn8 n a=some r):Computes cx 197 [.v (.string a),.v (.string ⟨#[44]⟩)] (I r):=by unfold Qn8 at h;have⟨t1,h1,h⟩:=bo h;obtain rfl:=oi h;exact rf [.ret (I t1)] (Qa (Qot h1) QL)
def QnX (n:Nat)(e:Int)(a:(jSj×Int×jVj)):Option (jSj×Int×jVj⊕jSj×Int×jVj) := if a.2.1<((minI (e+1) 45) - 1) then(Qn8 n a.1).bind fun b=>if b<0 then some (.inr (a.1,a.2.1,a.2.2)) else if Qh (b+0) then(Qi7 a.1 none (some (b+0))).bind fun c=>if 0<=a.2.1/\a.2.1<((a.2.2).length:Int) then if(Int.toNat a.2.1)<(a.2.2).length then if Qh (b+1) then(Qi7 a.1 (some (b+1)) none).bind fun d=>if Qh (a.2.1+1) then some (.inl (d,(a.2.1+1),(List.set a.2.2 (Int.toNat a.2.1) (.v (.string c):D)))) else none else none else none else none else none else some (.inr (a.1,a.2.1,a.2.2))
noncomputable def Qok (b:Int):Lp (jSj×Int×jVj) (jSj×Int×jVj):=⟨fun a=>[(0,.d (.v (.string a.1))),(1,.d (.v (.string ⟨#[44]⟩))),(2,.d (I 0)),(3,.d (I ((minI (b+1) 45) - 1))),(9,.own 19 0),(10,.d (I a.2.1))],fun a=>[(19,.row 0 1 a.2.2)],fun _=>(.exit 0),fun e=>[(0,.d (.v (.string e.1))),(9,.own 19 0),(10,.d (I e.2.1))],fun e=>[(19,.row 0 1 e.2.2)]⟩
theorem Qoh {n f}(c)(r)(h:QnX n f c=some r):Rl (ZJ cx.P 116 0) 66 0 false (Qok f) c r:=by
 unfold QnX at h;obtain⟨a,h⟩|⟨a,h⟩:=io h
 ·have⟨ta2,ha2,h⟩:=bo h;have q:=Qa (QoX ha2) (Qa (jDj a) QL);obtain⟨b,h⟩|⟨b,h⟩:=io h
  ·cases h;exact rx 25 [b1,.ret (I ta2),b1] [] [0,9,10] [19] (Qa (jDj b) q)
  have⟨ha4,h⟩:=gd h;have⟨ta5,d,h⟩:=bo h;have⟨ha6,h⟩:=gd h;have⟨ha7,h⟩:=gd h;have⟨ha8,h⟩:=gd h;have⟨ta9,e,h⟩:=bo h;have⟨ha10,h⟩:=gd h;cases h;exact rn 25 [b1,.ret (I ta2),b0,.el (.v (.string ta5)),b1,b1,.el (.v (.string ta9))] [] [0,1,2,3,9,10] [19] (Qa ha10 (Qa (QiU e:QV cx.P (Instr.sliceAt 9 (.string c.1) (some (.int .i64 (ta2+1))) none none)=some (.string ta9)) (Qa ha8 (Qa ha7 (Qa ha6 (Qa (QiU d:QV cx.P (Instr.sliceAt 9 (.string c.1) none (some (.int .i64 (ta2+0))) none)=some (.string ta5)) (Qa ha4 (Qa (jEj b) q))))))))
 cases h;exact rx 25 [b0] [] [0,9,10] [19] (Qa (jEj a) QL)
def Qn4 (n:Nat)  : Option (jVj) :=
 (QjA n (⟨#[115,116,97,116,101,44,114,97,116,101,44,97,105,109,101,100,44,98,111,111,107,115,44,111,102,102,101,114,115,44,100,105,114,116,32,97,44,99,111,117,110,116,32,110]⟩) (⟨#[44]⟩)).bind fun b =>
 if Qh (b+1) then
 if 0<=(minI (b+1) 45)/\(minI (b+1) 45)<=(minI (b+1) 45)/\16*(minI (b+1) 45)<=281474976710656/\(minI (b+1) 45)<=9223372036854775807 then
 if Qh ((minI (b+1) 45) - 1) then
 (Q2 (QnX n b) n (⟨#[115,116,97,116,101,44,114,97,116,101,44,97,105,109,101,100,44,98,111,111,107,115,44,111,102,102,101,114,115,44,100,105,114,116,32,97,44,99,111,117,110,116,32,110]⟩,0,(List.replicate (Int.toNat (minI (b+1) 45)) (.v (.string ⟨#[]⟩):D)))).bind fun a =>
 if 0<=a.2.1/\a.2.1<((a.2.2).length:Int) then
 if(Int.toNat a.2.1)<(a.2.2).length then
 if Qh (a.2.1+1) then
 if(0:Int)<=0/\0<=(a.2.1+1)/\(a.2.1+1)<=(((List.set a.2.2 (Int.toNat a.2.1) (.v (.string a.1):D)):jVj).length:Int)/\((List.set a.2.2 (Int.toNat a.2.1) (.v (.string a.1):D))=[]\/1=1) then
 some (((List.set a.2.2 (Int.toNat a.2.1) (.v (.string a.1):D)).take (Int.toNat (a.2.1+1))).drop (Int.toNat 0))
 else none
 else none
 else none
 else none
 else none
 else none
 else none
theorem Qox {n:Nat}  {r:jVj}(h:Qn4 n =some r):Computes cx 116 [.v (.string ⟨#[115,116,97,116,101,44,114,97,116,101,44,97,105,109,101,100,44,98,111,111,107,115,44,111,102,102,101,114,115,44,100,105,114,116,32,97,44,99,111,117,110,116,32,110]⟩),.v (.string ⟨#[44]⟩),I 0,I (-1)] (.lst false 1 r):=by unfold Qn4 at h;have⟨t1,h1,h⟩:=bo h;have⟨h2,h⟩:=gd h;have⟨h3,h⟩:=gd h;have⟨h4,h⟩:=gd h;have⟨t5,h5,h⟩:=bo h;have⟨h6,h⟩:=gd h;have⟨h7,h⟩:=gd h;have⟨h8,h⟩:=gd h;have⟨h9,h⟩:=gd h;cases h;exact rf [.no,.no,.no,.ret (I t1),b1,.lp [] [0,1,2,3,9,10] [19] (.exit 0) [(0,.d (.v (.string t5.1))),(9,.own 19 0),(10,.d (I t5.2.1))] [(19,.row 0 1 t5.2.2)] 64,b1,b1,b1] (Qa h9 (Qa h8 (Qa h7 (Qa h6 (Qa (QH Qoh h5) (Qa h4 (Qa h3 (Qa ((by unfold Qh;omega):Qh 45) (Qa h2 (Qa (QkY h1) QL))))))))))
def QnU (n:Nat)  : Option (jVj) :=
 (Qn4 n).bind fun a =>
 some a
theorem Qoe {n:Nat}  {r:jVj}(h:QnU n =some r):Computes cx 57 [.v (.string ⟨#[115,116,97,116,101,44,114,97,116,101,44,97,105,109,101,100,44,98,111,111,107,115,44,111,102,102,101,114,115,44,100,105,114,116,32,97,44,99,111,117,110,116,32,110]⟩),.v (.string ⟨#[44]⟩)] (.lst false 1 r):=by unfold QnU at h;have⟨t1,h1,h⟩:=bo h;obtain rfl:=oi h;exact rf [.ret (.lst false 1 t1)] (Qa (Qox h1) QL)
def QnI (n:Nat)(d:jVj)(e f g:Int)(b:(jSj×Int×jVj)):Option (jSj×Int×jVj⊕jSj×jVj) := if b.2.1<((d).length:Int) then(el Ze d b.2.1).bind fun a=>(Qjw n b.1 a.1 a.2.1 a.2.2.1 a.2.2.2.1 a.2.2.2.2).bind fun c=>if c.2=0 then if(c.1.size:Int)<=(b.1.size:Int) then none else if Wa 8 ((b.2.2).length+1) then if Qh (b.2.1+1) then some (.inl (c.1,(b.2.1+1),(b.2.2++([I (c.1.size:Int)]:jVj)))) else none else none else none else some (.inr (b.1,b.2.2))
noncomputable def QoR (a:jVj)(c f g:Int):Lp (jSj×Int×jVj) (jSj×jVj):=⟨fun b=>[(0,.d (.lst false 5 a)),(3,.ptr 0 0 0 0 0),(5,.d (.v (.string b.1))),(6,.own 15 0),(51,.d (.lst false 5 a)),(52,.d (I ((a).length:Int))),(53,.d (I b.2.1))],fun b=>[(0,.box (.d (.agg [.v (.int .u16 c),.v (.int .u16 f),.v (.int .u16 g)]))),(15,.row 0 1 b.2.2)],fun _=>(.exit 0),fun e=>[(0,.d (.lst false 5 a)),(3,.ptr 0 0 0 0 0),(5,.d (.v (.string e.1))),(6,.own 15 0)],fun e=>[(0,.box (.d (.agg [.v (.int .u16 c),.v (.int .u16 f),.v (.int .u16 g)]))),(15,.row 0 1 e.2)]⟩
theorem QoK {n d e f g}(i)(r)(h:QnI n d e f g i=some r):Rl (ZJ cx.P 12 0) 279 0 false (QoR d e f g) i r:=by
 unfold QnI at h;obtain⟨a,h⟩|⟨a,h⟩:=io h
 ·have⟨ta2,ha2,h⟩:=bo h;have⟨ta3,ha3,h⟩:=bo h;obtain⟨b,h⟩|⟨b,h⟩:=io h
  ·obtain⟨c,h⟩|⟨c,h⟩:=io h
   ·cases h
   have⟨ha6,h⟩:=gd h;have⟨ha7,h⟩:=gd h;cases h;exact rn 16 [b1,.el (QP ta2),.ret (.tup [.v (.string ta3.1),I ta3.2]),b0,b0,b1] [] [0,3,5,6,51,52,53] [0,15] (Qa ha7 (Qa (ro 3 ha6) (Qa (jEj c) (Qa (nef b) (Qa (Qls ha3) (allE Ql ha2 (Qa (jDj a) QL)))))))
  cases h
 cases h;exact rx 16 [b0] [] [0,3,5,6] [0,15] (Qa (jEj a) QL)
def QnD (n:Nat)(e:jVj)(d f g:Int)(b:jSj×jVj)(a:(Int×Int)):Option (Int×Int⊕Int) := if a.2<((b.2).length:Int) then if 0<=a.2/\a.2<((b.2).length:Int) then((nth (b.2) (Int.toNat a.2)).bind Vt).bind fun c=>if c<=(Int.tmod (IntKind.wrap .i64 d) ((b.1.size:Int)+1)) then if Qh (a.1+1) then if Qh (a.2+1) then some (.inl ((a.1+1),(a.2+1))) else none else none else if Qh (a.2+1) then some (.inl (a.1,(a.2+1))) else none else none else some (.inr a.1)
noncomputable def QoQ (c:jVj)(b f g:Int)(a:jSj×jVj):Lp (Int×Int) (Int):=⟨fun h=>[(0,.d (.lst false 5 c)),(3,.ptr 0 0 0 0 0),(5,.d (.v (.string a.1))),(6,.own 15 0),(11,.d (I (Int.tmod (IntKind.wrap .i64 b) ((a.1.size:Int)+1)))),(12,.d (I h.1)),(86,.own 15 0),(87,.d (I ((a.2).length:Int))),(88,.d (I h.2))],fun _=>[(0,.box (.d (.agg [.v (.int .u16 b),.v (.int .u16 f),.v (.int .u16 g)]))),(15,.row 0 1 a.2)],fun _=>(.exit 2),fun e=>[(0,.d (.lst false 5 c)),(3,.ptr 0 0 0 0 0),(5,.d (.v (.string a.1))),(6,.own 15 0),(11,.d (I (Int.tmod (IntKind.wrap .i64 b) ((a.1.size:Int)+1)))),(12,.d (I e))],fun _=>[(0,.box (.d (.agg [.v (.int .u16 b),.v (.int .u16 f),.v (.int .u16 g)]))),(15,.row 0 1 a.2)]⟩
theorem QoJ {n c d e f i}(g)(r)(h:QnD n c d e f i g=some r):Rl (ZJ cx.P 12 1) 279 0 false (QoQ c d e f i) g r:=by
 unfold QnD at h;obtain⟨a,h⟩|⟨a,h⟩:=io h
 ·have⟨ha2,h⟩:=gd h;have⟨ta3,ha3,h⟩:=bo h;have q:=Qa (QX Qi ha3) (Qa ha2 (Qa (jDj a) QL));obtain⟨b,h⟩|⟨b,h⟩:=io h
  ·have⟨ha5,h⟩:=gd h;have⟨ha6,h⟩:=gd h;cases h;exact rn 71 [b1,b1,.el (Q3 ta3),b1] [] [0,3,5,6,11,12,86,87,88] [0,15] (Qa ha6 (Qa ha5 (Qa (jDj b) q)))
  have⟨ha5,h⟩:=gd h;cases h;exact rn 71 [b1,b1,.el (Q3 ta3),b0] [] [0,3,5,6,11,12,86,87,88] [0,15] (Qa ha5 (Qa (jEj b) q))
 cases h;exact rx 71 [b0] [] [0,3,5,6,11,12] [0,15] (Qa (jEj a) QL)
def QnC (n:Nat)(e:jVj)(h i j:Int)(k:jSj×jVj)(f:Int)(g:Int×jVj×jVj×jRj)(a:(Int×Int×Int×Bool×Bool×Int×Int×Int×jVj×jVj×jVj×jVj×jVj)):Option (Int×Int×Int×Bool×Bool×Int×Int×Int×jVj×jVj×jVj×jVj×jVj⊕Int×Int×Bool×Bool×Int×Int×Int×jVj×jVj×jVj×jVj×jVj) := if a.1<(((e.drop (Int.toNat f)):jVj).length:Int) then(el Ze (e.drop (Int.toNat f)) a.1).bind fun c=>(Qn0 n c.1 c.2.1 c.2.2.1 c.2.2.2.1 c.2.2.2.2).bind fun d=>(Qnx n d a.2.2.2.2.2.2.2.2.1 a.2.2.2.2.2.2.2.2.2.1 a.2.1 a.2.2.1 a.2.2.2.1 a.2.2.2.2.1 a.2.2.2.2.2.1 a.2.2.2.2.2.2.1 a.2.2.2.2.2.2.2.1 a.2.2.2.2.2.2.2.2.2.2.1 a.2.2.2.2.2.2.2.2.2.2.2.1 a.2.2.2.2.2.2.2.2.2.2.2.2).bind fun b=>if b.2.1=0 then if Qh (a.1+1) then some (.inl ((a.1+1),b.2.2.2.2.1,b.2.2.2.2.2.1,b.2.2.2.2.2.2.1,b.2.2.2.2.2.2.2.1,b.2.2.2.2.2.2.2.2.1,b.2.2.2.2.2.2.2.2.2.1,b.2.2.2.2.2.2.2.2.2.2.1,b.2.2.1,b.2.2.2.1,b.2.2.2.2.2.2.2.2.2.2.2.1,b.2.2.2.2.2.2.2.2.2.2.2.2.1,b.2.2.2.2.2.2.2.2.2.2.2.2.2)) else none else none else some (.inr (a.2.1,a.2.2.1,a.2.2.2.1,a.2.2.2.2.1,a.2.2.2.2.2.1,a.2.2.2.2.2.2.1,a.2.2.2.2.2.2.2.1,a.2.2.2.2.2.2.2.2.1,a.2.2.2.2.2.2.2.2.2.1,a.2.2.2.2.2.2.2.2.2.2.1,a.2.2.2.2.2.2.2.2.2.2.2.1,a.2.2.2.2.2.2.2.2.2.2.2.2))
noncomputable def QoP (c:jVj)(g h i:Int)(f:jSj×jVj)(j:Int)(a:Int×jVj×jVj×jRj):Lp (Int×Int×Int×Bool×Bool×Int×Int×Int×jVj×jVj×jVj×jVj×jVj) (Int×Int×Bool×Bool×Int×Int×Int×jVj×jVj×jVj×jVj×jVj):=⟨fun b=>[(0,.d (.lst false 5 c)),(3,.ptr 0 0 0 0 0),(5,.d (.v (.string f.1))),(6,.own 15 0),(18,.ptr 114 0 0 0 0),(20,.ptr 134 0 0 0 0),(150,.d (.lst false 5 (c.drop (Int.toNat j)))),(151,.d (I (((c.drop (Int.toNat j)):jVj).length:Int))),(152,.d (I b.1))],fun b=>[(0,.box (.d (.agg [.v (.int .u16 g),.v (.int .u16 h),.v (.int .u16 i)]))),(15,.row 0 1 f.2),(114,.box (.agg [.own 115 0,.own 116 0,.d (I b.2.1),.d (I b.2.2.1),.d (B b.2.2.2.1),.d (B b.2.2.2.2.1),.d (I b.2.2.2.2.2.1),.d (I b.2.2.2.2.2.2.1),.d (I b.2.2.2.2.2.2.2.1),.own 124 0,.own 125 0,.own 126 0])),(115,.row 0 5 b.2.2.2.2.2.2.2.2.1),(116,.row 0 5 b.2.2.2.2.2.2.2.2.2.1),(124,.row 0 1 b.2.2.2.2.2.2.2.2.2.2.1),(125,.row 0 6 b.2.2.2.2.2.2.2.2.2.2.2.1),(126,.row 0 7 b.2.2.2.2.2.2.2.2.2.2.2.2),(134,.box (.agg [.own 135 0,.own 136 0,.d (I a.2.2.2.1),.d (I a.2.2.2.2.1),.d (B a.2.2.2.2.2.1),.d (B a.2.2.2.2.2.2.1),.d (I a.2.2.2.2.2.2.2.1),.d (I a.2.2.2.2.2.2.2.2.1),.d (I a.2.2.2.2.2.2.2.2.2.1),.own 144 0,.own 145 0,.own 146 0])),(135,.row 0 5 a.2.1),(136,.row 0 5 a.2.2.1),(144,.row 0 1 a.2.2.2.2.2.2.2.2.2.2.1),(145,.row 0 6 a.2.2.2.2.2.2.2.2.2.2.2.1),(146,.row 0 7 a.2.2.2.2.2.2.2.2.2.2.2.2)],fun _=>(.exit 4),fun _=>[(0,.d (.lst false 5 c)),(3,.ptr 0 0 0 0 0),(5,.d (.v (.string f.1))),(6,.own 15 0),(18,.ptr 114 0 0 0 0),(20,.ptr 134 0 0 0 0)],fun e=>[(0,.box (.d (.agg [.v (.int .u16 g),.v (.int .u16 h),.v (.int .u16 i)]))),(15,.row 0 1 f.2),(114,.box (.agg [.own 115 0,.own 116 0,.d (I e.1),.d (I e.2.1),.d (B e.2.2.1),.d (B e.2.2.2.1),.d (I e.2.2.2.2.1),.d (I e.2.2.2.2.2.1),.d (I e.2.2.2.2.2.2.1),.own 124 0,.own 125 0,.own 126 0])),(115,.row 0 5 e.2.2.2.2.2.2.2.1),(116,.row 0 5 e.2.2.2.2.2.2.2.2.1),(124,.row 0 1 e.2.2.2.2.2.2.2.2.2.1),(125,.row 0 6 e.2.2.2.2.2.2.2.2.2.2.1),(126,.row 0 7 e.2.2.2.2.2.2.2.2.2.2.2),(134,.box (.agg [.own 135 0,.own 136 0,.d (I a.2.2.2.1),.d (I a.2.2.2.2.1),.d (B a.2.2.2.2.2.1),.d (B a.2.2.2.2.2.2.1),.d (I a.2.2.2.2.2.2.2.1),.d (I a.2.2.2.2.2.2.2.2.1),.d (I a.2.2.2.2.2.2.2.2.2.1),.own 144 0,.own 145 0,.own 146 0])),(135,.row 0 5 a.2.1),(136,.row 0 5 a.2.2.1),(144,.row 0 1 a.2.2.2.2.2.2.2.2.2.2.1),(145,.row 0 6 a.2.2.2.2.2.2.2.2.2.2.2.1),(146,.row 0 7 a.2.2.2.2.2.2.2.2.2.2.2.2)]⟩
theorem Qoc {n e f g i k l c}(j)(r)(h:QnC n e f g i k l c j=some r):Rl (ZJ cx.P 12 2) 279 0 false (QoP e f g i k l c) j r:=by
 unfold QnC at h;obtain⟨a,h⟩|⟨a,h⟩:=io h
 ·have⟨ta2,ha2,h⟩:=bo h;have⟨ta3,ha3,h⟩:=bo h;have⟨ta4,ha4,h⟩:=bo h;obtain⟨b,h⟩|⟨b,h⟩:=io h
  ·have⟨ha6,h⟩:=gd h;cases h;exact rn 182 [b1,.el (QP ta2),.ret (.v (.string ta3)),.obj (some 114) (.d (.tup [.v (.string ta4.1),I ta4.2.1])) (Qb' ta4.2.2) [],b0] [] [0,3,5,6,18,20,150,151,152] [0,15,114,115,116,124,125,126,134,135,136,144,145,146] (Qa ha6 (Qa (nef b) (Qa (QnT ha4) (Qa (Qo6 ha3) (allE Ql ha2 (Qa (jDj a) QL))))))
  cases h
 cases h;exact rx 182 [b0] [] [0,3,5,6,18,20] [0,15,114,115,116,124,125,126,134,135,136,144,145,146] (Qa (jEj a) QL)
def QnH (n:Nat)(f:jVj)(g h i:Int)(j:jSj×jVj)(d:jVj)(a:(Int×Int×Int×Bool×Bool×Int×Int×Int×jVj×jVj×jVj×jVj×jVj×Int×Int×Bool×Bool×Int×Int×Int×jVj×jVj×jVj×jVj×jVj)):Option (Int×Int×Int×Bool×Bool×Int×Int×Int×jVj×jVj×jVj×jVj×jVj×Int×Int×Bool×Bool×Int×Int×Int×jVj×jVj×jVj×jVj×jVj⊕Int×Int×Bool×Bool×Int×Int×Int×jVj×jVj×jVj×jVj×jVj) := if a.1<((d).length:Int) then(el Ww d a.1).bind fun e=>(Qnx n e a.2.2.2.2.2.2.2.2.1 a.2.2.2.2.2.2.2.2.2.1 a.2.1 a.2.2.1 a.2.2.2.1 a.2.2.2.2.1 a.2.2.2.2.2.1 a.2.2.2.2.2.2.1 a.2.2.2.2.2.2.2.1 a.2.2.2.2.2.2.2.2.2.2.1 a.2.2.2.2.2.2.2.2.2.2.2.1 a.2.2.2.2.2.2.2.2.2.2.2.2.1).bind fun b=>(Qnx n e a.2.2.2.2.2.2.2.2.2.2.2.2.2.2.2.2.2.2.2.2.1 a.2.2.2.2.2.2.2.2.2.2.2.2.2.2.2.2.2.2.2.2.2.1 a.2.2.2.2.2.2.2.2.2.2.2.2.2.1 a.2.2.2.2.2.2.2.2.2.2.2.2.2.2.1 a.2.2.2.2.2.2.2.2.2.2.2.2.2.2.2.1 a.2.2.2.2.2.2.2.2.2.2.2.2.2.2.2.2.1 a.2.2.2.2.2.2.2.2.2.2.2.2.2.2.2.2.2.1 a.2.2.2.2.2.2.2.2.2.2.2.2.2.2.2.2.2.2.1 a.2.2.2.2.2.2.2.2.2.2.2.2.2.2.2.2.2.2.2.1 a.2.2.2.2.2.2.2.2.2.2.2.2.2.2.2.2.2.2.2.2.2.2.1 a.2.2.2.2.2.2.2.2.2.2.2.2.2.2.2.2.2.2.2.2.2.2.2.1 a.2.2.2.2.2.2.2.2.2.2.2.2.2.2.2.2.2.2.2.2.2.2.2.2).bind fun c=>if b.2.1=c.2.1 then if(!(b.1.toList==c.1.toList))=true then none else if Qh (a.1+1) then some (.inl ((a.1+1),b.2.2.2.2.1,b.2.2.2.2.2.1,b.2.2.2.2.2.2.1,b.2.2.2.2.2.2.2.1,b.2.2.2.2.2.2.2.2.1,b.2.2.2.2.2.2.2.2.2.1,b.2.2.2.2.2.2.2.2.2.2.1,b.2.2.1,b.2.2.2.1,b.2.2.2.2.2.2.2.2.2.2.2.1,b.2.2.2.2.2.2.2.2.2.2.2.2.1,b.2.2.2.2.2.2.2.2.2.2.2.2.2,c.2.2.2.2.1,c.2.2.2.2.2.1,c.2.2.2.2.2.2.1,c.2.2.2.2.2.2.2.1,c.2.2.2.2.2.2.2.2.1,c.2.2.2.2.2.2.2.2.2.1,c.2.2.2.2.2.2.2.2.2.2.1,c.2.2.1,c.2.2.2.1,c.2.2.2.2.2.2.2.2.2.2.2.1,c.2.2.2.2.2.2.2.2.2.2.2.2.1,c.2.2.2.2.2.2.2.2.2.2.2.2.2)) else none else none else some (.inr (a.2.1,a.2.2.1,a.2.2.2.1,a.2.2.2.2.1,a.2.2.2.2.2.1,a.2.2.2.2.2.2.1,a.2.2.2.2.2.2.2.1,a.2.2.2.2.2.2.2.2.1,a.2.2.2.2.2.2.2.2.2.1,a.2.2.2.2.2.2.2.2.2.2.1,a.2.2.2.2.2.2.2.2.2.2.2.1,a.2.2.2.2.2.2.2.2.2.2.2.2.1))
noncomputable def QoO (f:jVj)(g h i:Int)(c:jSj×jVj)(b:jVj):Lp (Int×Int×Int×Bool×Bool×Int×Int×Int×jVj×jVj×jVj×jVj×jVj×Int×Int×Bool×Bool×Int×Int×Int×jVj×jVj×jVj×jVj×jVj) (Int×Int×Bool×Bool×Int×Int×Int×jVj×jVj×jVj×jVj×jVj):=⟨fun a=>[(0,.d (.lst false 5 f)),(3,.ptr 0 0 0 0 0),(5,.d (.v (.string c.1))),(6,.own 15 0),(18,.ptr 114 0 0 0 0),(20,.ptr 134 0 0 0 0),(166,.d (.lst false 1 b)),(167,.d (I ((b).length:Int))),(168,.d (I a.1))],fun a=>[(0,.box (.d (.agg [.v (.int .u16 g),.v (.int .u16 h),.v (.int .u16 i)]))),(15,.row 0 1 c.2),(114,.box (.agg [.own 115 0,.own 116 0,.d (I a.2.1),.d (I a.2.2.1),.d (B a.2.2.2.1),.d (B a.2.2.2.2.1),.d (I a.2.2.2.2.2.1),.d (I a.2.2.2.2.2.2.1),.d (I a.2.2.2.2.2.2.2.1),.own 124 0,.own 125 0,.own 126 0])),(115,.row 0 5 a.2.2.2.2.2.2.2.2.1),(116,.row 0 5 a.2.2.2.2.2.2.2.2.2.1),(124,.row 0 1 a.2.2.2.2.2.2.2.2.2.2.1),(125,.row 0 6 a.2.2.2.2.2.2.2.2.2.2.2.1),(126,.row 0 7 a.2.2.2.2.2.2.2.2.2.2.2.2.1),(134,.box (.agg [.own 135 0,.own 136 0,.d (I a.2.2.2.2.2.2.2.2.2.2.2.2.2.1),.d (I a.2.2.2.2.2.2.2.2.2.2.2.2.2.2.1),.d (B a.2.2.2.2.2.2.2.2.2.2.2.2.2.2.2.1),.d (B a.2.2.2.2.2.2.2.2.2.2.2.2.2.2.2.2.1),.d (I a.2.2.2.2.2.2.2.2.2.2.2.2.2.2.2.2.2.1),.d (I a.2.2.2.2.2.2.2.2.2.2.2.2.2.2.2.2.2.2.1),.d (I a.2.2.2.2.2.2.2.2.2.2.2.2.2.2.2.2.2.2.2.1),.own 144 0,.own 145 0,.own 146 0])),(135,.row 0 5 a.2.2.2.2.2.2.2.2.2.2.2.2.2.2.2.2.2.2.2.2.1),(136,.row 0 5 a.2.2.2.2.2.2.2.2.2.2.2.2.2.2.2.2.2.2.2.2.2.1),(144,.row 0 1 a.2.2.2.2.2.2.2.2.2.2.2.2.2.2.2.2.2.2.2.2.2.2.1),(145,.row 0 6 a.2.2.2.2.2.2.2.2.2.2.2.2.2.2.2.2.2.2.2.2.2.2.2.1),(146,.row 0 7 a.2.2.2.2.2.2.2.2.2.2.2.2.2.2.2.2.2.2.2.2.2.2.2.2)],fun _=>(.exit 6),fun _=>[(0,.d (.lst false 5 f)),(3,.ptr 0 0 0 0 0),(5,.d (.v (.string c.1))),(6,.own 15 0),(18,.ptr 114 0 0 0 0)],fun e=>[(0,.box (.d (.agg [.v (.int .u16 g),.v (.int .u16 h),.v (.int .u16 i)]))),(15,.row 0 1 c.2),(114,.box (.agg [.own 115 0,.own 116 0,.d (I e.1),.d (I e.2.1),.d (B e.2.2.1),.d (B e.2.2.2.1),.d (I e.2.2.2.2.1),.d (I e.2.2.2.2.2.1),.d (I e.2.2.2.2.2.2.1),.own 124 0,.own 125 0,.own 126 0])),(115,.row 0 5 e.2.2.2.2.2.2.2.1),(116,.row 0 5 e.2.2.2.2.2.2.2.2.1),(124,.row 0 1 e.2.2.2.2.2.2.2.2.2.1),(125,.row 0 6 e.2.2.2.2.2.2.2.2.2.2.1),(126,.row 0 7 e.2.2.2.2.2.2.2.2.2.2.2)]⟩
theorem QoI {n f g i j l e}(k)(r)(h:QnH n f g i j l e k=some r):Rl (ZJ cx.P 12 3) 279 0 false (QoO f g i j l e) k r:=by
 unfold QnH at h;obtain⟨a,h⟩|⟨a,h⟩:=io h
 ·have⟨ta2,ha2,h⟩:=bo h;have⟨ta3,ha3,h⟩:=bo h;have⟨ta4,ha4,h⟩:=bo h;obtain⟨b,h⟩|⟨b,h⟩:=io h
  ·obtain⟨c,h⟩|⟨c,h⟩:=io h
   ·cases h
   have⟨ha7,h⟩:=gd h;cases h;exact rn 226 [b1,.el (Zy ta2),.obj (some 114) (.d (.tup [.v (.string ta3.1),I ta3.2.1])) (Qb' ta3.2.2) [],.obj (some 134) (.d (.tup [.v (.string ta4.1),I ta4.2.1])) (Qb' ta4.2.2) [],b0,b0] [] [0,3,5,6,18,20,166,167,168] [0,15,114,115,116,124,125,126,134,135,136,144,145,146] (Qa ha7 (Qa (QA c) (Qa (nef b) (Qa (QnT ha4) (Qa (QnT ha3) (allE Qr ha2 (Qa (jDj a) QL)))))))
  cases h
 cases h;exact rx 226 [b0] [] [0,3,5,6,18] [0,15,114,115,116,124,125,126] (Qa (jEj a) QL)
def QnG (n:Nat)(f:jVj)(g h i:Int)(j:jSj×jVj)(d:jVj)(a:(Int×Int×Int×Bool×Bool×Int×Int×Int×jVj×jVj×jVj×jVj×jVj×Int×Int×Bool×Bool×Int×Int×Int×jVj×jVj×jVj×jVj×jVj)):Option (Int×Int×Int×Bool×Bool×Int×Int×Int×jVj×jVj×jVj×jVj×jVj×Int×Int×Bool×Bool×Int×Int×Int×jVj×jVj×jVj×jVj×jVj⊕Int×Int×Bool×Bool×Int×Int×Int×jVj×jVj×jVj×jVj×jVj) := if a.1<((d).length:Int) then(el Ww d a.1).bind fun e=>(Qnx n e a.2.2.2.2.2.2.2.2.1 a.2.2.2.2.2.2.2.2.2.1 a.2.1 a.2.2.1 a.2.2.2.1 a.2.2.2.2.1 a.2.2.2.2.2.1 a.2.2.2.2.2.2.1 a.2.2.2.2.2.2.2.1 a.2.2.2.2.2.2.2.2.2.2.1 a.2.2.2.2.2.2.2.2.2.2.2.1 a.2.2.2.2.2.2.2.2.2.2.2.2.1).bind fun b=>(Qnx n e a.2.2.2.2.2.2.2.2.2.2.2.2.2.2.2.2.2.2.2.2.1 a.2.2.2.2.2.2.2.2.2.2.2.2.2.2.2.2.2.2.2.2.2.1 a.2.2.2.2.2.2.2.2.2.2.2.2.2.1 a.2.2.2.2.2.2.2.2.2.2.2.2.2.2.1 a.2.2.2.2.2.2.2.2.2.2.2.2.2.2.2.1 a.2.2.2.2.2.2.2.2.2.2.2.2.2.2.2.2.1 a.2.2.2.2.2.2.2.2.2.2.2.2.2.2.2.2.2.1 a.2.2.2.2.2.2.2.2.2.2.2.2.2.2.2.2.2.2.1 a.2.2.2.2.2.2.2.2.2.2.2.2.2.2.2.2.2.2.2.1 a.2.2.2.2.2.2.2.2.2.2.2.2.2.2.2.2.2.2.2.2.2.2.1 a.2.2.2.2.2.2.2.2.2.2.2.2.2.2.2.2.2.2.2.2.2.2.2.1 a.2.2.2.2.2.2.2.2.2.2.2.2.2.2.2.2.2.2.2.2.2.2.2.2).bind fun c=>if b.2.1=c.2.1 then if(!(b.1.toList==c.1.toList))=true then none else if Qh (a.1+1) then some (.inl ((a.1+1),b.2.2.2.2.1,b.2.2.2.2.2.1,b.2.2.2.2.2.2.1,b.2.2.2.2.2.2.2.1,b.2.2.2.2.2.2.2.2.1,b.2.2.2.2.2.2.2.2.2.1,b.2.2.2.2.2.2.2.2.2.2.1,b.2.2.1,b.2.2.2.1,b.2.2.2.2.2.2.2.2.2.2.2.1,b.2.2.2.2.2.2.2.2.2.2.2.2.1,b.2.2.2.2.2.2.2.2.2.2.2.2.2,c.2.2.2.2.1,c.2.2.2.2.2.1,c.2.2.2.2.2.2.1,c.2.2.2.2.2.2.2.1,c.2.2.2.2.2.2.2.2.1,c.2.2.2.2.2.2.2.2.2.1,c.2.2.2.2.2.2.2.2.2.2.1,c.2.2.1,c.2.2.2.1,c.2.2.2.2.2.2.2.2.2.2.2.1,c.2.2.2.2.2.2.2.2.2.2.2.2.1,c.2.2.2.2.2.2.2.2.2.2.2.2.2)) else none else none else some (.inr (a.2.1,a.2.2.1,a.2.2.2.1,a.2.2.2.2.1,a.2.2.2.2.2.1,a.2.2.2.2.2.2.1,a.2.2.2.2.2.2.2.1,a.2.2.2.2.2.2.2.2.1,a.2.2.2.2.2.2.2.2.2.1,a.2.2.2.2.2.2.2.2.2.2.1,a.2.2.2.2.2.2.2.2.2.2.2.1,a.2.2.2.2.2.2.2.2.2.2.2.2.1))
noncomputable def QoN (f:jVj)(g h i:Int)(c:jSj×jVj)(b:jVj):Lp (Int×Int×Int×Bool×Bool×Int×Int×Int×jVj×jVj×jVj×jVj×jVj×Int×Int×Bool×Bool×Int×Int×Int×jVj×jVj×jVj×jVj×jVj) (Int×Int×Bool×Bool×Int×Int×Int×jVj×jVj×jVj×jVj×jVj):=⟨fun a=>[(0,.d (.lst false 5 f)),(3,.ptr 0 0 0 0 0),(5,.d (.v (.string c.1))),(6,.own 15 0),(18,.ptr 114 0 0 0 0),(20,.ptr 134 0 0 0 0),(166,.d (.lst false 1 b)),(167,.d (I ((b).length:Int))),(168,.d (I a.1))],fun a=>[(0,.box (.d (.agg [.v (.int .u16 g),.v (.int .u16 h),.v (.int .u16 i)]))),(15,.row 0 1 c.2),(114,.box (.agg [.own 115 0,.own 116 0,.d (I a.2.1),.d (I a.2.2.1),.d (B a.2.2.2.1),.d (B a.2.2.2.2.1),.d (I a.2.2.2.2.2.1),.d (I a.2.2.2.2.2.2.1),.d (I a.2.2.2.2.2.2.2.1),.own 124 0,.own 125 0,.own 126 0])),(115,.row 0 5 a.2.2.2.2.2.2.2.2.1),(116,.row 0 5 a.2.2.2.2.2.2.2.2.2.1),(124,.row 0 1 a.2.2.2.2.2.2.2.2.2.2.1),(125,.row 0 6 a.2.2.2.2.2.2.2.2.2.2.2.1),(126,.row 0 7 a.2.2.2.2.2.2.2.2.2.2.2.2.1),(134,.box (.agg [.own 135 0,.own 136 0,.d (I a.2.2.2.2.2.2.2.2.2.2.2.2.2.1),.d (I a.2.2.2.2.2.2.2.2.2.2.2.2.2.2.1),.d (B a.2.2.2.2.2.2.2.2.2.2.2.2.2.2.2.1),.d (B a.2.2.2.2.2.2.2.2.2.2.2.2.2.2.2.2.1),.d (I a.2.2.2.2.2.2.2.2.2.2.2.2.2.2.2.2.2.1),.d (I a.2.2.2.2.2.2.2.2.2.2.2.2.2.2.2.2.2.2.1),.d (I a.2.2.2.2.2.2.2.2.2.2.2.2.2.2.2.2.2.2.2.1),.own 144 0,.own 145 0,.own 146 0])),(135,.row 0 5 a.2.2.2.2.2.2.2.2.2.2.2.2.2.2.2.2.2.2.2.2.1),(136,.row 0 5 a.2.2.2.2.2.2.2.2.2.2.2.2.2.2.2.2.2.2.2.2.2.1),(144,.row 0 1 a.2.2.2.2.2.2.2.2.2.2.2.2.2.2.2.2.2.2.2.2.2.2.1),(145,.row 0 6 a.2.2.2.2.2.2.2.2.2.2.2.2.2.2.2.2.2.2.2.2.2.2.2.1),(146,.row 0 7 a.2.2.2.2.2.2.2.2.2.2.2.2.2.2.2.2.2.2.2.2.2.2.2.2)],fun _=>(.exit 6),fun _=>[(0,.d (.lst false 5 f)),(3,.ptr 0 0 0 0 0),(5,.d (.v (.string c.1))),(6,.own 15 0),(18,.ptr 114 0 0 0 0)],fun e=>[(0,.box (.d (.agg [.v (.int .u16 g),.v (.int .u16 h),.v (.int .u16 i)]))),(15,.row 0 1 c.2),(114,.box (.agg [.own 115 0,.own 116 0,.d (I e.1),.d (I e.2.1),.d (B e.2.2.1),.d (B e.2.2.2.1),.d (I e.2.2.2.2.1),.d (I e.2.2.2.2.2.1),.d (I e.2.2.2.2.2.2.1),.own 124 0,.own 125 0,.own 126 0])),(115,.row 0 5 e.2.2.2.2.2.2.2.1),(116,.row 0 5 e.2.2.2.2.2.2.2.2.1),(124,.row 0 1 e.2.2.2.2.2.2.2.2.2.1),(125,.row 0 6 e.2.2.2.2.2.2.2.2.2.2.1),(126,.row 0 7 e.2.2.2.2.2.2.2.2.2.2.2)]⟩
theorem QoH {n f g i j l e}(k)(r)(h:QnG n f g i j l e k=some r):Rl (ZJ cx.P 12 3) 279 0 false (QoN f g i j l e) k r:=by
 unfold QnG at h;obtain⟨a,h⟩|⟨a,h⟩:=io h
 ·have⟨ta2,ha2,h⟩:=bo h;have⟨ta3,ha3,h⟩:=bo h;have⟨ta4,ha4,h⟩:=bo h;obtain⟨b,h⟩|⟨b,h⟩:=io h
  ·obtain⟨c,h⟩|⟨c,h⟩:=io h
   ·cases h
   have⟨ha7,h⟩:=gd h;cases h;exact rn 226 [b1,.el (Zy ta2),.obj (some 114) (.d (.tup [.v (.string ta3.1),I ta3.2.1])) (Qb' ta3.2.2) [],.obj (some 134) (.d (.tup [.v (.string ta4.1),I ta4.2.1])) (Qb' ta4.2.2) [],b0,b0] [] [0,3,5,6,18,20,166,167,168] [0,15,114,115,116,124,125,126,134,135,136,144,145,146] (Qa ha7 (Qa (QA c) (Qa (nef b) (Qa (QnT ha4) (Qa (QnT ha3) (allE Qr ha2 (Qa (jDj a) QL)))))))
  cases h
 cases h;exact rx 226 [b0] [] [0,3,5,6,18] [0,15,114,115,116,124,125,126] (Qa (jEj a) QL)
def Qn3 (n:Nat)(a:jVj)(K w c:Int):Option (Bool) := (Qe7 n a 20).bind fun Z=>if Z=true then if((a).length:Int)=0 then(WI n).bind fun b=>some b else(Q2 (QnI n a K w c) n (⟨#[]⟩,0,[])).bind fun b=>if Qh ((b.1.size:Int)+1) then if((b.1.size:Int)+1)≠0 then(Q2 (QnD n a K w c b) n (0,0)).bind fun A=>(Qi7 b.1 none (some (Int.tmod (IntKind.wrap .i64 K) ((b.1.size:Int)+1)))).bind fun Y=>(Qjc n Y).bind fun Q=>(Qn6 n Y).bind fun e=>(Qn6 n b.1).bind fun d=>if Q.2.2=0 then if(0:Int)<=0/\0<=A/\A<=((a).length:Int)/\(a=[]\/5=5) then(Qd1 n Q.1 ((a.take (Int.toNat A)).drop (Int.toNat 0))).bind fun S=>if S=true then if e.1=0 then if d.1=0 then if 0<=A/\A<=((a).length:Int)/\((a).length:Int)<=((a).length:Int)/\(a=[]\/5=5) then(Q2 (QnC n a K w c b A d) n (0,e.2.2.2.1,e.2.2.2.2.1,e.2.2.2.2.2.1,e.2.2.2.2.2.2.1,e.2.2.2.2.2.2.2.1,e.2.2.2.2.2.2.2.2.1,e.2.2.2.2.2.2.2.2.2.1,e.2.1,e.2.2.1,e.2.2.2.2.2.2.2.2.2.2.1,e.2.2.2.2.2.2.2.2.2.2.2.1,e.2.2.2.2.2.2.2.2.2.2.2.2)).bind fun m=>(QnU n).bind fun h=>(Q2 (QnH n a K w c b h) n (0,m.1,m.2.1,m.2.2.1,m.2.2.2.1,m.2.2.2.2.1,m.2.2.2.2.2.1,m.2.2.2.2.2.2.1,m.2.2.2.2.2.2.2.1,m.2.2.2.2.2.2.2.2.1,m.2.2.2.2.2.2.2.2.2.1,m.2.2.2.2.2.2.2.2.2.2.1,m.2.2.2.2.2.2.2.2.2.2.2,d.2.2.2.1,d.2.2.2.2.1,d.2.2.2.2.2.1,d.2.2.2.2.2.2.1,d.2.2.2.2.2.2.2.1,d.2.2.2.2.2.2.2.2.1,d.2.2.2.2.2.2.2.2.2.1,d.2.1,d.2.2.1,d.2.2.2.2.2.2.2.2.2.2.1,d.2.2.2.2.2.2.2.2.2.2.2.1,d.2.2.2.2.2.2.2.2.2.2.2.2)).bind fun i=>(QnJ n i.2.2.2.2.2.2.2.1 i.2.2.2.2.2.2.2.2.1 i.1 i.2.1 i.2.2.1 i.2.2.2.1 i.2.2.2.2.1 i.2.2.2.2.2.1 i.2.2.2.2.2.2.1 i.2.2.2.2.2.2.2.2.2.1 i.2.2.2.2.2.2.2.2.2.2.1 i.2.2.2.2.2.2.2.2.2.2.2).bind fun j=>if(!(j.toList==b.1.toList))=true then none else if(b.1.size:Int)≠0 then(WQ b.1 (Int.tmod (IntKind.wrap .i64 w) (b.1.size:Int))).bind fun N=>if N=10 then if((a).length:Int)>1 then if Qh (((a).length:Int) - 1) then if(((a).length:Int) - 1)≠0 then if(Int.tmod (IntKind.wrap .i64 c) (((a).length:Int) - 1))>0 then if Qh ((Int.tmod (IntKind.wrap .i64 c) (((a).length:Int) - 1)) - 1) then if 0<=((Int.tmod (IntKind.wrap .i64 c) (((a).length:Int) - 1)) - 1)/\((Int.tmod (IntKind.wrap .i64 c) (((a).length:Int) - 1)) - 1)<((b.2).length:Int) then((nth (b.2) (Int.toNat ((Int.tmod (IntKind.wrap .i64 c) (((a).length:Int) - 1)) - 1))).bind Vt).bind fun r=>(Qi7 b.1 none (some r)).bind fun g=>if 0<=(Int.tmod (IntKind.wrap .i64 c) (((a).length:Int) - 1))/\(Int.tmod (IntKind.wrap .i64 c) (((a).length:Int) - 1))<((b.2).length:Int) then((nth (b.2) (Int.toNat (Int.tmod (IntKind.wrap .i64 c) (((a).length:Int) - 1)))).bind Vt).bind fun s=>(Qi7 b.1 (some s) none).bind fun p=>if g.size+p.size<=9223372036854775807 then(Qjc n (g++p)).bind fun q=>if q.2.2=11 then(WI n).bind fun x=>some x else none else none else none else none else none else(Qi7 b.1 none (some 0)).bind fun P=>if 0<=(Int.tmod (IntKind.wrap .i64 c) (((a).length:Int) - 1))/\(Int.tmod (IntKind.wrap .i64 c) (((a).length:Int) - 1))<((b.2).length:Int) then((nth (b.2) (Int.toNat (Int.tmod (IntKind.wrap .i64 c) (((a).length:Int) - 1)))).bind Vt).bind fun r=>(Qi7 b.1 (some r) none).bind fun g=>if P.size+g.size<=9223372036854775807 then(Qjc n (P++g)).bind fun s=>if s.2.2=11 then(WI n).bind fun k=>some k else none else none else none else none else none else(WI n).bind fun C=>some C else if(IntKind.wrap .u8 (IntKind.wrap .u16 (32+(Int.tmod c 200))))=N then if((a).length:Int)>1 then if Qh (((a).length:Int) - 1) then if(((a).length:Int) - 1)≠0 then if(Int.tmod (IntKind.wrap .i64 c) (((a).length:Int) - 1))>0 then if Qh ((Int.tmod (IntKind.wrap .i64 c) (((a).length:Int) - 1)) - 1) then if 0<=((Int.tmod (IntKind.wrap .i64 c) (((a).length:Int) - 1)) - 1)/\((Int.tmod (IntKind.wrap .i64 c) (((a).length:Int) - 1)) - 1)<((b.2).length:Int) then((nth (b.2) (Int.toNat ((Int.tmod (IntKind.wrap .i64 c) (((a).length:Int) - 1)) - 1))).bind Vt).bind fun g=>(Qi7 b.1 none (some g)).bind fun f=>if 0<=(Int.tmod (IntKind.wrap .i64 c) (((a).length:Int) - 1))/\(Int.tmod (IntKind.wrap .i64 c) (((a).length:Int) - 1))<((b.2).length:Int) then((nth (b.2) (Int.toNat (Int.tmod (IntKind.wrap .i64 c) (((a).length:Int) - 1)))).bind Vt).bind fun p=>(Qi7 b.1 (some p) none).bind fun k=>if f.size+k.size<=9223372036854775807 then(Qjc n (f++k)).bind fun F=>if F.2.2=11 then(WI n).bind fun y=>some y else none else none else none else none else none else(Qi7 b.1 none (some 0)).bind fun u=>if 0<=(Int.tmod (IntKind.wrap .i64 c) (((a).length:Int) - 1))/\(Int.tmod (IntKind.wrap .i64 c) (((a).length:Int) - 1))<((b.2).length:Int) then((nth (b.2) (Int.toNat (Int.tmod (IntKind.wrap .i64 c) (((a).length:Int) - 1)))).bind Vt).bind fun g=>(Qi7 b.1 (some g) none).bind fun f=>if u.size+f.size<=9223372036854775807 then(Qjc n (u++f)).bind fun p=>if p.2.2=11 then(WI n).bind fun q=>some q else none else none else none else none else none else(WI n).bind fun o=>some o else(Qi7 b.1 none (some (Int.tmod (IntKind.wrap .i64 w) (b.1.size:Int)))).bind fun C=>((qV ([.v (.int .u8 (IntKind.wrap .u8 (IntKind.wrap .u16 (32+(Int.tmod c 200)))))])).map fun l=>ByteArray.mk l.toArray).bind fun o=>if C.size+o.size<=9223372036854775807 then if Qh ((Int.tmod (IntKind.wrap .i64 w) (b.1.size:Int))+1) then(Qi7 b.1 (some ((Int.tmod (IntKind.wrap .i64 w) (b.1.size:Int))+1)) none).bind fun u=>if(C++o).size+u.size<=9223372036854775807 then(Qjc n ((C++o)++u)).bind fun g=>if g.2.2=0 then none else if g.2.1=(b.1.size:Int) then none else if((a).length:Int)>1 then if Qh (((a).length:Int) - 1) then if(((a).length:Int) - 1)≠0 then if(Int.tmod (IntKind.wrap .i64 c) (((a).length:Int) - 1))>0 then if Qh ((Int.tmod (IntKind.wrap .i64 c) (((a).length:Int) - 1)) - 1) then if 0<=((Int.tmod (IntKind.wrap .i64 c) (((a).length:Int) - 1)) - 1)/\((Int.tmod (IntKind.wrap .i64 c) (((a).length:Int) - 1)) - 1)<((b.2).length:Int) then((nth (b.2) (Int.toNat ((Int.tmod (IntKind.wrap .i64 c) (((a).length:Int) - 1)) - 1))).bind Vt).bind fun G=>(Qi7 b.1 none (some G)).bind fun t=>if 0<=(Int.tmod (IntKind.wrap .i64 c) (((a).length:Int) - 1))/\(Int.tmod (IntKind.wrap .i64 c) (((a).length:Int) - 1))<((b.2).length:Int) then((nth (b.2) (Int.toNat (Int.tmod (IntKind.wrap .i64 c) (((a).length:Int) - 1)))).bind Vt).bind fun L=>(Qi7 b.1 (some L) none).bind fun z=>if t.size+z.size<=9223372036854775807 then(Qjc n (t++z)).bind fun M=>if M.2.2=11 then(WI n).bind fun W=>some W else none else none else none else none else none else(Qi7 b.1 none (some 0)).bind fun x=>if 0<=(Int.tmod (IntKind.wrap .i64 c) (((a).length:Int) - 1))/\(Int.tmod (IntKind.wrap .i64 c) (((a).length:Int) - 1))<((b.2).length:Int) then((nth (b.2) (Int.toNat (Int.tmod (IntKind.wrap .i64 c) (((a).length:Int) - 1)))).bind Vt).bind fun G=>(Qi7 b.1 (some G) none).bind fun t=>if x.size+t.size<=9223372036854775807 then(Qjc n (x++t)).bind fun L=>if L.2.2=11 then(WI n).bind fun J=>some J else none else none else none else none else none else(WI n).bind fun k=>some k else none else none else none else none else none else none else none else none else none else if Q.2.2=28 then if(0:Int)<=0/\0<=A/\A<=((a).length:Int)/\(a=[]\/5=5) then(Qd1 n Q.1 ((a.take (Int.toNat A)).drop (Int.toNat 0))).bind fun T=>if T=true then if e.1=0 then if d.1=0 then if 0<=A/\A<=((a).length:Int)/\((a).length:Int)<=((a).length:Int)/\(a=[]\/5=5) then(Q2 (QnC n a K w c b A d) n (0,e.2.2.2.1,e.2.2.2.2.1,e.2.2.2.2.2.1,e.2.2.2.2.2.2.1,e.2.2.2.2.2.2.2.1,e.2.2.2.2.2.2.2.2.1,e.2.2.2.2.2.2.2.2.2.1,e.2.1,e.2.2.1,e.2.2.2.2.2.2.2.2.2.2.1,e.2.2.2.2.2.2.2.2.2.2.2.1,e.2.2.2.2.2.2.2.2.2.2.2.2)).bind fun h=>(QnU n).bind fun i=>(Q2 (QnG n a K w c b i) n (0,h.1,h.2.1,h.2.2.1,h.2.2.2.1,h.2.2.2.2.1,h.2.2.2.2.2.1,h.2.2.2.2.2.2.1,h.2.2.2.2.2.2.2.1,h.2.2.2.2.2.2.2.2.1,h.2.2.2.2.2.2.2.2.2.1,h.2.2.2.2.2.2.2.2.2.2.1,h.2.2.2.2.2.2.2.2.2.2.2,d.2.2.2.1,d.2.2.2.2.1,d.2.2.2.2.2.1,d.2.2.2.2.2.2.1,d.2.2.2.2.2.2.2.1,d.2.2.2.2.2.2.2.2.1,d.2.2.2.2.2.2.2.2.2.1,d.2.1,d.2.2.1,d.2.2.2.2.2.2.2.2.2.2.1,d.2.2.2.2.2.2.2.2.2.2.2.1,d.2.2.2.2.2.2.2.2.2.2.2.2)).bind fun j=>(QnJ n j.2.2.2.2.2.2.2.1 j.2.2.2.2.2.2.2.2.1 j.1 j.2.1 j.2.2.1 j.2.2.2.1 j.2.2.2.2.1 j.2.2.2.2.2.1 j.2.2.2.2.2.2.1 j.2.2.2.2.2.2.2.2.2.1 j.2.2.2.2.2.2.2.2.2.2.1 j.2.2.2.2.2.2.2.2.2.2.2).bind fun U=>if(!(U.toList==b.1.toList))=true then none else if(b.1.size:Int)≠0 then(WQ b.1 (Int.tmod (IntKind.wrap .i64 w) (b.1.size:Int))).bind fun O=>if O=10 then if((a).length:Int)>1 then if Qh (((a).length:Int) - 1) then if(((a).length:Int) - 1)≠0 then if(Int.tmod (IntKind.wrap .i64 c) (((a).length:Int) - 1))>0 then if Qh ((Int.tmod (IntKind.wrap .i64 c) (((a).length:Int) - 1)) - 1) then if 0<=((Int.tmod (IntKind.wrap .i64 c) (((a).length:Int) - 1)) - 1)/\((Int.tmod (IntKind.wrap .i64 c) (((a).length:Int) - 1)) - 1)<((b.2).length:Int) then((nth (b.2) (Int.toNat ((Int.tmod (IntKind.wrap .i64 c) (((a).length:Int) - 1)) - 1))).bind Vt).bind fun g=>(Qi7 b.1 none (some g)).bind fun f=>if 0<=(Int.tmod (IntKind.wrap .i64 c) (((a).length:Int) - 1))/\(Int.tmod (IntKind.wrap .i64 c) (((a).length:Int) - 1))<((b.2).length:Int) then((nth (b.2) (Int.toNat (Int.tmod (IntKind.wrap .i64 c) (((a).length:Int) - 1)))).bind Vt).bind fun p=>(Qi7 b.1 (some p) none).bind fun k=>if f.size+k.size<=9223372036854775807 then(Qjc n (f++k)).bind fun F=>if F.2.2=11 then(WI n).bind fun y=>some y else none else none else none else none else none else(Qi7 b.1 none (some 0)).bind fun u=>if 0<=(Int.tmod (IntKind.wrap .i64 c) (((a).length:Int) - 1))/\(Int.tmod (IntKind.wrap .i64 c) (((a).length:Int) - 1))<((b.2).length:Int) then((nth (b.2) (Int.toNat (Int.tmod (IntKind.wrap .i64 c) (((a).length:Int) - 1)))).bind Vt).bind fun g=>(Qi7 b.1 (some g) none).bind fun f=>if u.size+f.size<=9223372036854775807 then(Qjc n (u++f)).bind fun p=>if p.2.2=11 then(WI n).bind fun q=>some q else none else none else none else none else none else(WI n).bind fun o=>some o else if(IntKind.wrap .u8 (IntKind.wrap .u16 (32+(Int.tmod c 200))))=O then if((a).length:Int)>1 then if Qh (((a).length:Int) - 1) then if(((a).length:Int) - 1)≠0 then if(Int.tmod (IntKind.wrap .i64 c) (((a).length:Int) - 1))>0 then if Qh ((Int.tmod (IntKind.wrap .i64 c) (((a).length:Int) - 1)) - 1) then if 0<=((Int.tmod (IntKind.wrap .i64 c) (((a).length:Int) - 1)) - 1)/\((Int.tmod (IntKind.wrap .i64 c) (((a).length:Int) - 1)) - 1)<((b.2).length:Int) then((nth (b.2) (Int.toNat ((Int.tmod (IntKind.wrap .i64 c) (((a).length:Int) - 1)) - 1))).bind Vt).bind fun f=>(Qi7 b.1 none (some f)).bind fun s=>if 0<=(Int.tmod (IntKind.wrap .i64 c) (((a).length:Int) - 1))/\(Int.tmod (IntKind.wrap .i64 c) (((a).length:Int) - 1))<((b.2).length:Int) then((nth (b.2) (Int.toNat (Int.tmod (IntKind.wrap .i64 c) (((a).length:Int) - 1)))).bind Vt).bind fun k=>(Qi7 b.1 (some k) none).bind fun q=>if s.size+q.size<=9223372036854775807 then(Qjc n (s++q)).bind fun x=>if x.2.2=11 then(WI n).bind fun G=>some G else none else none else none else none else none else(Qi7 b.1 none (some 0)).bind fun r=>if 0<=(Int.tmod (IntKind.wrap .i64 c) (((a).length:Int) - 1))/\(Int.tmod (IntKind.wrap .i64 c) (((a).length:Int) - 1))<((b.2).length:Int) then((nth (b.2) (Int.toNat (Int.tmod (IntKind.wrap .i64 c) (((a).length:Int) - 1)))).bind Vt).bind fun f=>(Qi7 b.1 (some f) none).bind fun s=>if r.size+s.size<=9223372036854775807 then(Qjc n (r++s)).bind fun k=>if k.2.2=11 then(WI n).bind fun F=>some F else none else none else none else none else none else(WI n).bind fun E=>some E else(Qi7 b.1 none (some (Int.tmod (IntKind.wrap .i64 w) (b.1.size:Int)))).bind fun o=>((qV ([.v (.int .u8 (IntKind.wrap .u8 (IntKind.wrap .u16 (32+(Int.tmod c 200)))))])).map fun l=>ByteArray.mk l.toArray).bind fun E=>if o.size+E.size<=9223372036854775807 then if Qh ((Int.tmod (IntKind.wrap .i64 w) (b.1.size:Int))+1) then(Qi7 b.1 (some ((Int.tmod (IntKind.wrap .i64 w) (b.1.size:Int))+1)) none).bind fun r=>if(o++E).size+r.size<=9223372036854775807 then(Qjc n ((o++E)++r)).bind fun f=>if f.2.2=0 then none else if f.2.1=(b.1.size:Int) then none else if((a).length:Int)>1 then if Qh (((a).length:Int) - 1) then if(((a).length:Int) - 1)≠0 then if(Int.tmod (IntKind.wrap .i64 c) (((a).length:Int) - 1))>0 then if Qh ((Int.tmod (IntKind.wrap .i64 c) (((a).length:Int) - 1)) - 1) then if 0<=((Int.tmod (IntKind.wrap .i64 c) (((a).length:Int) - 1)) - 1)/\((Int.tmod (IntKind.wrap .i64 c) (((a).length:Int) - 1)) - 1)<((b.2).length:Int) then((nth (b.2) (Int.toNat ((Int.tmod (IntKind.wrap .i64 c) (((a).length:Int) - 1)) - 1))).bind Vt).bind fun t=>(Qi7 b.1 none (some t)).bind fun H=>if 0<=(Int.tmod (IntKind.wrap .i64 c) (((a).length:Int) - 1))/\(Int.tmod (IntKind.wrap .i64 c) (((a).length:Int) - 1))<((b.2).length:Int) then((nth (b.2) (Int.toNat (Int.tmod (IntKind.wrap .i64 c) (((a).length:Int) - 1)))).bind Vt).bind fun z=>(Qi7 b.1 (some z) none).bind fun J=>if H.size+J.size<=9223372036854775807 then(Qjc n (H++J)).bind fun V=>if V.2.2=11 then(WI n).bind fun X=>some X else none else none else none else none else none else(Qi7 b.1 none (some 0)).bind fun y=>if 0<=(Int.tmod (IntKind.wrap .i64 c) (((a).length:Int) - 1))/\(Int.tmod (IntKind.wrap .i64 c) (((a).length:Int) - 1))<((b.2).length:Int) then((nth (b.2) (Int.toNat (Int.tmod (IntKind.wrap .i64 c) (((a).length:Int) - 1)))).bind Vt).bind fun t=>(Qi7 b.1 (some t) none).bind fun H=>if y.size+H.size<=9223372036854775807 then(Qjc n (y++H)).bind fun z=>if z.2.2=11 then(WI n).bind fun M=>some M else none else none else none else none else none else(WI n).bind fun q=>some q else none else none else none else none else none else none else none else none else none else none else none else none else(WI n).bind fun t3=>some t3
theorem Qo1 {n U G A V r}(h:Qn3 n U G A V=some r):Computes cx 12 [.lst false 5 U,.agg [.v (.int .u16 G),.v (.int .u16 A),.v (.int .u16 V)]] (B r):=by
 unfold Qn3 at h;have⟨t1,h1,h⟩:=bo h;have q:=Qa (Qfv h1) QL;let o(l:jOj):=.ret (B t1)::l;obtain⟨Y,h⟩|⟨Y,h⟩:=io h
 ·have q:=Qa (Ud Y) q;let o l:=o (b0::l);obtain⟨X,h⟩|⟨X,h⟩:=io h
  ·have⟨t4,h4,h⟩:=bo h;obtain rfl:=oi h;exact rf (o [b1,.ret (B t4)]) (Qa (YE h4) (Qa (eqt X) q))
  have⟨t4,h4,h⟩:=bo h;have⟨h5,h⟩:=gd h;have⟨h6,h⟩:=gd h;have⟨t7,h7,h⟩:=bo h;have⟨t8,Z,h⟩:=bo h;have⟨t9,h9,h⟩:=bo h;have⟨t10,h10,h⟩:=bo h;have⟨t11,h11,h⟩:=bo h;have q:=Qa (Qo0 h11) (Qa (Qo0 h10) (Qa (QiU Z:QV cx.P (Instr.sliceAt 9 (.string t4.1) none (some (.int .i64 (Int.tmod (IntKind.wrap .i64 G) ((t4.1.size:Int)+1)))) none)=some (.string t8)) (Qa (Qj7 h9) (Qa (QiU Z:QV cx.P (Instr.sliceAt 9 (.string t4.1) none (some (.int .i64 (Int.tmod (IntKind.wrap .i64 G) ((t4.1.size:Int)+1)))) none)=some (.string t8)) (Qa (QH QoJ h7) (Qa h6 (Qa h5 (Qa (QH QoK h4) (Qa (eqf X) q)))))))));let o l:=o (b0::.lp [6,1] [0,3,5,6,51,52,53] [0,15] (.exit 0) [(0,.d (.lst false 5 U)),(3,.ptr 0 0 0 0 0),(5,.d (.v (.string t4.1))),(6,.own 15 0)] [(0,.box (.d (.agg [.v (.int .u16 G),.v (.int .u16 A),.v (.int .u16 V)]))),(15,.row 0 1 t4.2)] 59::.lp [] [0,3,5,6,11,12,86,87,88] [0,15] (.exit 2) [(0,.d (.lst false 5 U)),(3,.ptr 0 0 0 0 0),(5,.d (.v (.string t4.1))),(6,.own 15 0),(11,.d (I (Int.tmod (IntKind.wrap .i64 G) ((t4.1.size:Int)+1)))),(12,.d (I t7))] [(0,.box (.d (.agg [.v (.int .u16 G),.v (.int .u16 A),.v (.int .u16 V)]))),(15,.row 0 1 t4.2)] 94::.el (.v (.string t8))::.ret (.tup [.lst false 5 t9.1,I t9.2.1,I t9.2.2])::.el (.v (.string t8))::.obj none (.tup [.ptr 0 0 0 0 0,.d (I t10.1)]) (Qb' t10.2) []::.obj none (.tup [.ptr 0 0 0 0 0,.d (I t11.1)]) (Qb' t11.2) []::l);obtain⟨W,h⟩|⟨W,h⟩:=io h
  ·have⟨K,h⟩:=gd h;have⟨t14,h14,h⟩:=bo h;have q:=Qa (Qee h14) (Qa K (Qa (nef W) q));let o l:=o (b0::.no::b1::.ret (B t14)::b0::b0::b0::.no::.no::b1::l);obtain⟨L,h⟩|⟨L,h⟩:=io h
   ·have q:=Qa (Ud L) q;obtain⟨H,h⟩|⟨H,h⟩:=io h
    ·have q:=Qa (nef H) q;obtain⟨J,h⟩|⟨J,h⟩:=io h
     ·have⟨M,h⟩:=gd h;have⟨t19,h19,h⟩:=bo h;have⟨t20,h20,h⟩:=bo h;have⟨t21,h21,h⟩:=bo h;have⟨t22,h22,h⟩:=bo h;have q:=Qa (Qod h22) (Qa (QH QoI h21) (Qa (Qoe h20) (Qa (QH Qoc h19) (Qa M (Qa (nef J) q)))));let o l:=o (.lp [] [0,3,5,6,18,20,150,151,152] [0,15,114,115,116,124,125,126,134,135,136,144,145,146] (.exit 4) [(0,.d (.lst false 5 U)),(3,.ptr 0 0 0 0 0),(5,.d (.v (.string t4.1))),(6,.own 15 0),(18,.ptr 114 0 0 0 0),(20,.ptr 134 0 0 0 0)] [(0,.box (.d (.agg [.v (.int .u16 G),.v (.int .u16 A),.v (.int .u16 V)]))),(15,.row 0 1 t4.2),(114,.box (.agg [.own 115 0,.own 116 0,.d (I t19.1),.d (I t19.2.1),.d (B t19.2.2.1),.d (B t19.2.2.2.1),.d (I t19.2.2.2.2.1),.d (I t19.2.2.2.2.2.1),.d (I t19.2.2.2.2.2.2.1),.own 124 0,.own 125 0,.own 126 0])),(115,.row 0 5 t19.2.2.2.2.2.2.2.1),(116,.row 0 5 t19.2.2.2.2.2.2.2.2.1),(124,.row 0 1 t19.2.2.2.2.2.2.2.2.2.1),(125,.row 0 6 t19.2.2.2.2.2.2.2.2.2.2.1),(126,.row 0 7 t19.2.2.2.2.2.2.2.2.2.2.2),(134,.box (.agg [.own 135 0,.own 136 0,.d (I t11.2.2.2.1),.d (I t11.2.2.2.2.1),.d (B t11.2.2.2.2.2.1),.d (B t11.2.2.2.2.2.2.1),.d (I t11.2.2.2.2.2.2.2.1),.d (I t11.2.2.2.2.2.2.2.2.1),.d (I t11.2.2.2.2.2.2.2.2.2.1),.own 144 0,.own 145 0,.own 146 0])),(135,.row 0 5 t11.2.1),(136,.row 0 5 t11.2.2.1),(144,.row 0 1 t11.2.2.2.2.2.2.2.2.2.2.1),(145,.row 0 6 t11.2.2.2.2.2.2.2.2.2.2.2.1),(146,.row 0 7 t11.2.2.2.2.2.2.2.2.2.2.2.2)] 223::.ret (.lst false 1 t20)::.lp [] [0,3,5,6,18,20,166,167,168] [0,15,114,115,116,124,125,126,134,135,136,144,145,146] (.exit 6) [(0,.d (.lst false 5 U)),(3,.ptr 0 0 0 0 0),(5,.d (.v (.string t4.1))),(6,.own 15 0),(18,.ptr 114 0 0 0 0)] [(0,.box (.d (.agg [.v (.int .u16 G),.v (.int .u16 A),.v (.int .u16 V)]))),(15,.row 0 1 t4.2),(114,.box (.agg [.own 115 0,.own 116 0,.d (I t21.1),.d (I t21.2.1),.d (B t21.2.2.1),.d (B t21.2.2.2.1),.d (I t21.2.2.2.2.1),.d (I t21.2.2.2.2.2.1),.d (I t21.2.2.2.2.2.2.1),.own 124 0,.own 125 0,.own 126 0])),(115,.row 0 5 t21.2.2.2.2.2.2.2.1),(116,.row 0 5 t21.2.2.2.2.2.2.2.2.1),(124,.row 0 1 t21.2.2.2.2.2.2.2.2.2.1),(125,.row 0 6 t21.2.2.2.2.2.2.2.2.2.2.1),(126,.row 0 7 t21.2.2.2.2.2.2.2.2.2.2.2)] 291::.obj (some 114) (.d (.v (.string t22))) (Qb t21.2.2.2.2.2.2.2.1 t21.2.2.2.2.2.2.2.2.1 t21.1 t21.2.1 t21.2.2.1 t21.2.2.2.1 t21.2.2.2.2.1 t21.2.2.2.2.2.1 t21.2.2.2.2.2.2.1 t21.2.2.2.2.2.2.2.2.2.1 t21.2.2.2.2.2.2.2.2.2.2.1 t21.2.2.2.2.2.2.2.2.2.2.2) ZV::b0::l);obtain⟨N,h⟩|⟨N,h⟩:=io h
      ·cases h
      have⟨O,h⟩:=gd h;have⟨t25,Q,h⟩:=bo h;have q:=Qa (Zq Q:QV cx.P (Instr.index 9 (.string t4.1) (.int .i64 (Int.tmod (IntKind.wrap .i64 A) (t4.1.size:Int))))=some (.int .u8 t25)) (Qa O (Qa (QA N) q));let o l:=o (.el (.v (.int .u8 t25))::l);obtain⟨F,h⟩|⟨F,h⟩:=io h
      ·have q:=Qa (nef F) q;let o l:=o (b0::.no::l);obtain⟨x,h⟩|⟨x,h⟩:=io h
       ·have⟨k,h⟩:=gd h;have⟨m,h⟩:=gd h;have q:=Qa m (Qa k (Qa (jDj x) q));obtain⟨u,h⟩|⟨u,h⟩:=io h
        ·have⟨p,h⟩:=gd h;have⟨g,h⟩:=gd h;have⟨t33,i,h⟩:=bo h;have⟨t34,j,h⟩:=bo h;have⟨e,h⟩:=gd h;have⟨t36,c,h⟩:=bo h;have⟨t37,b,h⟩:=bo h;have⟨a,h⟩:=gd h;have⟨t39,f,h⟩:=bo h;obtain⟨t,h⟩|⟨t,h⟩:=io h
         ·have⟨t41,s,h⟩:=bo h;obtain rfl:=oi h;exact rf (o [b1,b1,b1,.el (Q3 t33),.el (.v (.string t34)),b1,.el (Q3 t36),.el (.v (.string t37)),.ret (.tup [.lst false 5 t39.1,I t39.2.1,I t39.2.2]),b0,.ret (B t41)]) (Qa (YE s) (Qa (nef t) (Qa (Qj7 f) (Qa a (Qa (QiU b:QV cx.P (Instr.sliceAt 9 (.string t4.1) (some (.int .i64 t36)) none none)=some (.string t37)) (Qa (QX Qi c) (Qa e (Qa (QiU j:QV cx.P (Instr.sliceAt 9 (.string t4.1) none (some (.int .i64 t33)) none)=some (.string t34)) (Qa (QX Qi i) (Qa g (Qa p (Qa (jDj u) q))))))))))))
         cases h
        have⟨t31,p,h⟩:=bo h;have⟨g,h⟩:=gd h;have⟨t33,i,h⟩:=bo h;have⟨t34,j,h⟩:=bo h;have⟨e,h⟩:=gd h;have⟨t36,c,h⟩:=bo h;obtain⟨b,h⟩|⟨b,h⟩:=io h
        ·have⟨t38,a,h⟩:=bo h;obtain rfl:=oi h;exact rf (o [b1,b0,.el (.v (.string t31)),b1,.el (Q3 t33),.el (.v (.string t34)),.ret (.tup [.lst false 5 t36.1,I t36.2.1,I t36.2.2]),b0,.ret (B t38)]) (Qa (YE a) (Qa (nef b) (Qa (Qj7 c) (Qa e (Qa (QiU j:QV cx.P (Instr.sliceAt 9 (.string t4.1) (some (.int .i64 t33)) none none)=some (.string t34)) (Qa (QX Qi i) (Qa g (Qa (QiU p:QV cx.P (Instr.sliceAt 9 (.string t4.1) none (some (.int .i64 0)) none)=some (.string t31)) (Qa (jEj u) q)))))))))
        cases h
       have⟨t28,k,h⟩:=bo h;obtain rfl:=oi h;exact rf (o [b0,.ret (B t28)]) (Qa (YE k) (Qa (jEj x) q))
      have q:=Qa (Zq Q:QV cx.P (Instr.index 9 (.string t4.1) (.int .i64 (Int.tmod (IntKind.wrap .i64 A) (t4.1.size:Int))))=some (.int .u8 t25)) (Qa (net F) q);let o l:=o (b1::.el (.v (.int .u8 t25))::l);obtain⟨x,h⟩|⟨x,h⟩:=io h
      ·have q:=Qa (nef x) q;obtain⟨k,h⟩|⟨k,h⟩:=io h
       ·have⟨m,h⟩:=gd h;have⟨u,h⟩:=gd h;have q:=Qa u (Qa m (Qa (jDj k) q));obtain⟨p,h⟩|⟨p,h⟩:=io h
        ·have⟨g,h⟩:=gd h;have⟨i,h⟩:=gd h;have⟨t34,j,h⟩:=bo h;have⟨t35,e,h⟩:=bo h;have⟨c,h⟩:=gd h;have⟨t37,b,h⟩:=bo h;have⟨t38,a,h⟩:=bo h;have⟨f,h⟩:=gd h;have⟨t40,t,h⟩:=bo h;obtain⟨s,h⟩|⟨s,h⟩:=io h
         ·have⟨t42,w,h⟩:=bo h;obtain rfl:=oi h;exact rf (o [b0,b1,b1,b1,.el (Q3 t34),.el (.v (.string t35)),b1,.el (Q3 t37),.el (.v (.string t38)),.ret (.tup [.lst false 5 t40.1,I t40.2.1,I t40.2.2]),b0,.ret (B t42)]) (Qa (YE w) (Qa (nef s) (Qa (Qj7 t) (Qa f (Qa (QiU a:QV cx.P (Instr.sliceAt 9 (.string t4.1) (some (.int .i64 t37)) none none)=some (.string t38)) (Qa (QX Qi b) (Qa c (Qa (QiU e:QV cx.P (Instr.sliceAt 9 (.string t4.1) none (some (.int .i64 t34)) none)=some (.string t35)) (Qa (QX Qi j) (Qa i (Qa g (Qa (jDj p) q))))))))))))
         cases h
        have⟨t32,g,h⟩:=bo h;have⟨i,h⟩:=gd h;have⟨t34,j,h⟩:=bo h;have⟨t35,e,h⟩:=bo h;have⟨c,h⟩:=gd h;have⟨t37,b,h⟩:=bo h;obtain⟨a,h⟩|⟨a,h⟩:=io h
        ·have⟨t39,f,h⟩:=bo h;obtain rfl:=oi h;exact rf (o [b0,b1,b0,.el (.v (.string t32)),b1,.el (Q3 t34),.el (.v (.string t35)),.ret (.tup [.lst false 5 t37.1,I t37.2.1,I t37.2.2]),b0,.ret (B t39)]) (Qa (YE f) (Qa (nef a) (Qa (Qj7 b) (Qa c (Qa (QiU e:QV cx.P (Instr.sliceAt 9 (.string t4.1) (some (.int .i64 t34)) none none)=some (.string t35)) (Qa (QX Qi j) (Qa i (Qa (QiU g:QV cx.P (Instr.sliceAt 9 (.string t4.1) none (some (.int .i64 0)) none)=some (.string t32)) (Qa (jEj p) q)))))))))
        cases h
       have⟨t29,m,h⟩:=bo h;obtain rfl:=oi h;exact rf (o [b0,b0,.ret (B t29)]) (Qa (YE m) (Qa (jEj k) q))
      have⟨t28,k,h⟩:=bo h;have⟨t29,m,h⟩:=bo h;have⟨u,h⟩:=gd h;have⟨p,h⟩:=gd h;have⟨t32,g,h⟩:=bo h;have⟨i,h⟩:=gd h;have⟨t34,j,h⟩:=bo h;have q:=Qa (Qj7 j) (Qa i (Qa (QiU g:QV cx.P (Instr.sliceAt 9 (.string t4.1) (some (.int .i64 ((Int.tmod (IntKind.wrap .i64 A) (t4.1.size:Int))+1))) none none)=some (.string t32)) (Qa p (Qa u (Qa m (Qa (QiU k:QV cx.P (Instr.sliceAt 9 (.string t4.1) none (some (.int .i64 (Int.tmod (IntKind.wrap .i64 A) (t4.1.size:Int)))) none)=some (.string t28)) (Qa (net x) q)))))));let o l:=o (b1::.el (.v (.string t28))::.el (.v (.string t29))::.el (.v (.string t32))::.ret (.tup [.lst false 5 t34.1,I t34.2.1,I t34.2.2])::b0::b0::l);obtain⟨e,h⟩|⟨e,h⟩:=io h
      ·cases h
      have q:=Qa (eqf e) q;obtain⟨c,h⟩|⟨c,h⟩:=io h
      ·cases h
      have q:=Qa (eqf c) q;obtain⟨b,h⟩|⟨b,h⟩:=io h
      ·have⟨a,h⟩:=gd h;have⟨f,h⟩:=gd h;have q:=Qa f (Qa a (Qa (jDj b) q));obtain⟨t,h⟩|⟨t,h⟩:=io h
       ·have⟨s,h⟩:=gd h;have⟨w,h⟩:=gd h;have⟨t43,h43,h⟩:=bo h;have⟨t44,C,h⟩:=bo h;have⟨E,h⟩:=gd h;have⟨t46,h46,h⟩:=bo h;have⟨t47,y,h⟩:=bo h;have⟨z,h⟩:=gd h;have⟨t49,h49,h⟩:=bo h;obtain⟨S,h⟩|⟨S,h⟩:=io h
        ·have⟨t51,T,h⟩:=bo h;obtain rfl:=oi h;exact rf (o [b1,b1,b1,.el (Q3 t43),.el (.v (.string t44)),b1,.el (Q3 t46),.el (.v (.string t47)),.ret (.tup [.lst false 5 t49.1,I t49.2.1,I t49.2.2]),b0,.ret (B t51)]) (Qa (YE T) (Qa (nef S) (Qa (Qj7 h49) (Qa z (Qa (QiU y:QV cx.P (Instr.sliceAt 9 (.string t4.1) (some (.int .i64 t46)) none none)=some (.string t47)) (Qa (QX Qi h46) (Qa E (Qa (QiU C:QV cx.P (Instr.sliceAt 9 (.string t4.1) none (some (.int .i64 t43)) none)=some (.string t44)) (Qa (QX Qi h43) (Qa w (Qa s (Qa (jDj t) q))))))))))))
        cases h
       have⟨t41,s,h⟩:=bo h;have⟨w,h⟩:=gd h;have⟨t43,h43,h⟩:=bo h;have⟨t44,C,h⟩:=bo h;have⟨E,h⟩:=gd h;have⟨t46,h46,h⟩:=bo h;obtain⟨y,h⟩|⟨y,h⟩:=io h
       ·have⟨t48,z,h⟩:=bo h;obtain rfl:=oi h;exact rf (o [b1,b0,.el (.v (.string t41)),b1,.el (Q3 t43),.el (.v (.string t44)),.ret (.tup [.lst false 5 t46.1,I t46.2.1,I t46.2.2]),b0,.ret (B t48)]) (Qa (YE z) (Qa (nef y) (Qa (Qj7 h46) (Qa E (Qa (QiU C:QV cx.P (Instr.sliceAt 9 (.string t4.1) (some (.int .i64 t43)) none none)=some (.string t44)) (Qa (QX Qi h43) (Qa w (Qa (QiU s:QV cx.P (Instr.sliceAt 9 (.string t4.1) none (some (.int .i64 0)) none)=some (.string t41)) (Qa (jEj t) q)))))))))
       cases h
      have⟨t38,a,h⟩:=bo h;obtain rfl:=oi h;exact rf (o [b0,.ret (B t38)]) (Qa (YE a) (Qa (jEj b) q))
     cases h
    cases h
   cases h
  have q:=Qa (net W) q;let o l:=o (b1::b0::b1::l);obtain⟨K,h⟩|⟨K,h⟩:=io h
  ·have⟨h14,h⟩:=gd h;have⟨t15,L,h⟩:=bo h;have q:=Qa (Qee L) (Qa h14 (Qa (nef K) q));let o l:=o (.ret (B t15)::b0::b0::b0::.no::.no::b1::l);obtain⟨H,h⟩|⟨H,h⟩:=io h
   ·have q:=Qa (Ud H) q;obtain⟨J,h⟩|⟨J,h⟩:=io h
    ·have q:=Qa (nef J) q;obtain⟨M,h⟩|⟨M,h⟩:=io h
     ·have⟨h19,h⟩:=gd h;have⟨t20,h20,h⟩:=bo h;have⟨t21,h21,h⟩:=bo h;have⟨t22,h22,h⟩:=bo h;have⟨t23,N,h⟩:=bo h;have q:=Qa (Qod N) (Qa (QH QoH h22) (Qa (Qoe h21) (Qa (QH Qoc h20) (Qa h19 (Qa (nef M) q)))));let o l:=o (.lp [] [0,3,5,6,18,20,150,151,152] [0,15,114,115,116,124,125,126,134,135,136,144,145,146] (.exit 4) [(0,.d (.lst false 5 U)),(3,.ptr 0 0 0 0 0),(5,.d (.v (.string t4.1))),(6,.own 15 0),(18,.ptr 114 0 0 0 0),(20,.ptr 134 0 0 0 0)] [(0,.box (.d (.agg [.v (.int .u16 G),.v (.int .u16 A),.v (.int .u16 V)]))),(15,.row 0 1 t4.2),(114,.box (.agg [.own 115 0,.own 116 0,.d (I t20.1),.d (I t20.2.1),.d (B t20.2.2.1),.d (B t20.2.2.2.1),.d (I t20.2.2.2.2.1),.d (I t20.2.2.2.2.2.1),.d (I t20.2.2.2.2.2.2.1),.own 124 0,.own 125 0,.own 126 0])),(115,.row 0 5 t20.2.2.2.2.2.2.2.1),(116,.row 0 5 t20.2.2.2.2.2.2.2.2.1),(124,.row 0 1 t20.2.2.2.2.2.2.2.2.2.1),(125,.row 0 6 t20.2.2.2.2.2.2.2.2.2.2.1),(126,.row 0 7 t20.2.2.2.2.2.2.2.2.2.2.2),(134,.box (.agg [.own 135 0,.own 136 0,.d (I t11.2.2.2.1),.d (I t11.2.2.2.2.1),.d (B t11.2.2.2.2.2.1),.d (B t11.2.2.2.2.2.2.1),.d (I t11.2.2.2.2.2.2.2.1),.d (I t11.2.2.2.2.2.2.2.2.1),.d (I t11.2.2.2.2.2.2.2.2.2.1),.own 144 0,.own 145 0,.own 146 0])),(135,.row 0 5 t11.2.1),(136,.row 0 5 t11.2.2.1),(144,.row 0 1 t11.2.2.2.2.2.2.2.2.2.2.1),(145,.row 0 6 t11.2.2.2.2.2.2.2.2.2.2.2.1),(146,.row 0 7 t11.2.2.2.2.2.2.2.2.2.2.2.2)] 223::.ret (.lst false 1 t21)::.lp [] [0,3,5,6,18,20,166,167,168] [0,15,114,115,116,124,125,126,134,135,136,144,145,146] (.exit 6) [(0,.d (.lst false 5 U)),(3,.ptr 0 0 0 0 0),(5,.d (.v (.string t4.1))),(6,.own 15 0),(18,.ptr 114 0 0 0 0)] [(0,.box (.d (.agg [.v (.int .u16 G),.v (.int .u16 A),.v (.int .u16 V)]))),(15,.row 0 1 t4.2),(114,.box (.agg [.own 115 0,.own 116 0,.d (I t22.1),.d (I t22.2.1),.d (B t22.2.2.1),.d (B t22.2.2.2.1),.d (I t22.2.2.2.2.1),.d (I t22.2.2.2.2.2.1),.d (I t22.2.2.2.2.2.2.1),.own 124 0,.own 125 0,.own 126 0])),(115,.row 0 5 t22.2.2.2.2.2.2.2.1),(116,.row 0 5 t22.2.2.2.2.2.2.2.2.1),(124,.row 0 1 t22.2.2.2.2.2.2.2.2.2.1),(125,.row 0 6 t22.2.2.2.2.2.2.2.2.2.2.1),(126,.row 0 7 t22.2.2.2.2.2.2.2.2.2.2.2)] 291::.obj (some 114) (.d (.v (.string t23))) (Qb t22.2.2.2.2.2.2.2.1 t22.2.2.2.2.2.2.2.2.1 t22.1 t22.2.1 t22.2.2.1 t22.2.2.2.1 t22.2.2.2.2.1 t22.2.2.2.2.2.1 t22.2.2.2.2.2.2.1 t22.2.2.2.2.2.2.2.2.2.1 t22.2.2.2.2.2.2.2.2.2.2.1 t22.2.2.2.2.2.2.2.2.2.2.2) ZV::b0::l);obtain⟨O,h⟩|⟨O,h⟩:=io h
      ·cases h
      have⟨Q,h⟩:=gd h;have⟨t26,F,h⟩:=bo h;have q:=Qa (Zq F:QV cx.P (Instr.index 9 (.string t4.1) (.int .i64 (Int.tmod (IntKind.wrap .i64 A) (t4.1.size:Int))))=some (.int .u8 t26)) (Qa Q (Qa (QA O) q));let o l:=o (.el (.v (.int .u8 t26))::l);obtain⟨x,h⟩|⟨x,h⟩:=io h
      ·have q:=Qa (nef x) q;let o l:=o (b0::.no::l);obtain⟨k,h⟩|⟨k,h⟩:=io h
       ·have⟨m,h⟩:=gd h;have⟨u,h⟩:=gd h;have q:=Qa u (Qa m (Qa (jDj k) q));obtain⟨p,h⟩|⟨p,h⟩:=io h
        ·have⟨g,h⟩:=gd h;have⟨i,h⟩:=gd h;have⟨t34,j,h⟩:=bo h;have⟨t35,e,h⟩:=bo h;have⟨c,h⟩:=gd h;have⟨t37,b,h⟩:=bo h;have⟨t38,a,h⟩:=bo h;have⟨f,h⟩:=gd h;have⟨t40,t,h⟩:=bo h;obtain⟨s,h⟩|⟨s,h⟩:=io h
         ·have⟨t42,w,h⟩:=bo h;obtain rfl:=oi h;exact rf (o [b1,b1,b1,.el (Q3 t34),.el (.v (.string t35)),b1,.el (Q3 t37),.el (.v (.string t38)),.ret (.tup [.lst false 5 t40.1,I t40.2.1,I t40.2.2]),b0,.ret (B t42)]) (Qa (YE w) (Qa (nef s) (Qa (Qj7 t) (Qa f (Qa (QiU a:QV cx.P (Instr.sliceAt 9 (.string t4.1) (some (.int .i64 t37)) none none)=some (.string t38)) (Qa (QX Qi b) (Qa c (Qa (QiU e:QV cx.P (Instr.sliceAt 9 (.string t4.1) none (some (.int .i64 t34)) none)=some (.string t35)) (Qa (QX Qi j) (Qa i (Qa g (Qa (jDj p) q))))))))))))
         cases h
        have⟨t32,g,h⟩:=bo h;have⟨i,h⟩:=gd h;have⟨t34,j,h⟩:=bo h;have⟨t35,e,h⟩:=bo h;have⟨c,h⟩:=gd h;have⟨t37,b,h⟩:=bo h;obtain⟨a,h⟩|⟨a,h⟩:=io h
        ·have⟨t39,f,h⟩:=bo h;obtain rfl:=oi h;exact rf (o [b1,b0,.el (.v (.string t32)),b1,.el (Q3 t34),.el (.v (.string t35)),.ret (.tup [.lst false 5 t37.1,I t37.2.1,I t37.2.2]),b0,.ret (B t39)]) (Qa (YE f) (Qa (nef a) (Qa (Qj7 b) (Qa c (Qa (QiU e:QV cx.P (Instr.sliceAt 9 (.string t4.1) (some (.int .i64 t34)) none none)=some (.string t35)) (Qa (QX Qi j) (Qa i (Qa (QiU g:QV cx.P (Instr.sliceAt 9 (.string t4.1) none (some (.int .i64 0)) none)=some (.string t32)) (Qa (jEj p) q)))))))))
        cases h
       have⟨t29,m,h⟩:=bo h;obtain rfl:=oi h;exact rf (o [b0,.ret (B t29)]) (Qa (YE m) (Qa (jEj k) q))
      have q:=Qa (Zq F:QV cx.P (Instr.index 9 (.string t4.1) (.int .i64 (Int.tmod (IntKind.wrap .i64 A) (t4.1.size:Int))))=some (.int .u8 t26)) (Qa (net x) q);let o l:=o (b1::.el (.v (.int .u8 t26))::l);obtain⟨k,h⟩|⟨k,h⟩:=io h
      ·have q:=Qa (nef k) q;obtain⟨m,h⟩|⟨m,h⟩:=io h
       ·have⟨u,h⟩:=gd h;have⟨p,h⟩:=gd h;have q:=Qa p (Qa u (Qa (jDj m) q));obtain⟨g,h⟩|⟨g,h⟩:=io h
        ·have⟨i,h⟩:=gd h;have⟨j,h⟩:=gd h;have⟨t35,e,h⟩:=bo h;have⟨t36,c,h⟩:=bo h;have⟨b,h⟩:=gd h;have⟨t38,a,h⟩:=bo h;have⟨t39,f,h⟩:=bo h;have⟨t,h⟩:=gd h;have⟨t41,s,h⟩:=bo h;obtain⟨w,h⟩|⟨w,h⟩:=io h
         ·have⟨t43,h43,h⟩:=bo h;obtain rfl:=oi h;exact rf (o [b0,b1,b1,b1,.el (Q3 t35),.el (.v (.string t36)),b1,.el (Q3 t38),.el (.v (.string t39)),.ret (.tup [.lst false 5 t41.1,I t41.2.1,I t41.2.2]),b0,.ret (B t43)]) (Qa (YE h43) (Qa (nef w) (Qa (Qj7 s) (Qa t (Qa (QiU f:QV cx.P (Instr.sliceAt 9 (.string t4.1) (some (.int .i64 t38)) none none)=some (.string t39)) (Qa (QX Qi a) (Qa b (Qa (QiU c:QV cx.P (Instr.sliceAt 9 (.string t4.1) none (some (.int .i64 t35)) none)=some (.string t36)) (Qa (QX Qi e) (Qa j (Qa i (Qa (jDj g) q))))))))))))
         cases h
        have⟨t33,i,h⟩:=bo h;have⟨j,h⟩:=gd h;have⟨t35,e,h⟩:=bo h;have⟨t36,c,h⟩:=bo h;have⟨b,h⟩:=gd h;have⟨t38,a,h⟩:=bo h;obtain⟨f,h⟩|⟨f,h⟩:=io h
        ·have⟨t40,t,h⟩:=bo h;obtain rfl:=oi h;exact rf (o [b0,b1,b0,.el (.v (.string t33)),b1,.el (Q3 t35),.el (.v (.string t36)),.ret (.tup [.lst false 5 t38.1,I t38.2.1,I t38.2.2]),b0,.ret (B t40)]) (Qa (YE t) (Qa (nef f) (Qa (Qj7 a) (Qa b (Qa (QiU c:QV cx.P (Instr.sliceAt 9 (.string t4.1) (some (.int .i64 t35)) none none)=some (.string t36)) (Qa (QX Qi e) (Qa j (Qa (QiU i:QV cx.P (Instr.sliceAt 9 (.string t4.1) none (some (.int .i64 0)) none)=some (.string t33)) (Qa (jEj g) q)))))))))
        cases h
       have⟨t30,u,h⟩:=bo h;obtain rfl:=oi h;exact rf (o [b0,b0,.ret (B t30)]) (Qa (YE u) (Qa (jEj m) q))
      have⟨t29,m,h⟩:=bo h;have⟨t30,u,h⟩:=bo h;have⟨p,h⟩:=gd h;have⟨g,h⟩:=gd h;have⟨t33,i,h⟩:=bo h;have⟨j,h⟩:=gd h;have⟨t35,e,h⟩:=bo h;have q:=Qa (Qj7 e) (Qa j (Qa (QiU i:QV cx.P (Instr.sliceAt 9 (.string t4.1) (some (.int .i64 ((Int.tmod (IntKind.wrap .i64 A) (t4.1.size:Int))+1))) none none)=some (.string t33)) (Qa g (Qa p (Qa u (Qa (QiU m:QV cx.P (Instr.sliceAt 9 (.string t4.1) none (some (.int .i64 (Int.tmod (IntKind.wrap .i64 A) (t4.1.size:Int)))) none)=some (.string t29)) (Qa (net k) q)))))));let o l:=o (b1::.el (.v (.string t29))::.el (.v (.string t30))::.el (.v (.string t33))::.ret (.tup [.lst false 5 t35.1,I t35.2.1,I t35.2.2])::b0::b0::l);obtain⟨c,h⟩|⟨c,h⟩:=io h
      ·cases h
      have q:=Qa (eqf c) q;obtain⟨b,h⟩|⟨b,h⟩:=io h
      ·cases h
      have q:=Qa (eqf b) q;obtain⟨a,h⟩|⟨a,h⟩:=io h
      ·have⟨f,h⟩:=gd h;have⟨t,h⟩:=gd h;have q:=Qa t (Qa f (Qa (jDj a) q));obtain⟨s,h⟩|⟨s,h⟩:=io h
       ·have⟨w,h⟩:=gd h;have⟨h43,h⟩:=gd h;have⟨t44,C,h⟩:=bo h;have⟨t45,E,h⟩:=bo h;have⟨h46,h⟩:=gd h;have⟨t47,y,h⟩:=bo h;have⟨t48,z,h⟩:=bo h;have⟨h49,h⟩:=gd h;have⟨t50,S,h⟩:=bo h;obtain⟨T,h⟩|⟨T,h⟩:=io h
        ·have⟨t52,h52,h⟩:=bo h;obtain rfl:=oi h;exact rf (o [b1,b1,b1,.el (Q3 t44),.el (.v (.string t45)),b1,.el (Q3 t47),.el (.v (.string t48)),.ret (.tup [.lst false 5 t50.1,I t50.2.1,I t50.2.2]),b0,.ret (B t52)]) (Qa (YE h52) (Qa (nef T) (Qa (Qj7 S) (Qa h49 (Qa (QiU z:QV cx.P (Instr.sliceAt 9 (.string t4.1) (some (.int .i64 t47)) none none)=some (.string t48)) (Qa (QX Qi y) (Qa h46 (Qa (QiU E:QV cx.P (Instr.sliceAt 9 (.string t4.1) none (some (.int .i64 t44)) none)=some (.string t45)) (Qa (QX Qi C) (Qa h43 (Qa w (Qa (jDj s) q))))))))))))
        cases h
       have⟨t42,w,h⟩:=bo h;have⟨h43,h⟩:=gd h;have⟨t44,C,h⟩:=bo h;have⟨t45,E,h⟩:=bo h;have⟨h46,h⟩:=gd h;have⟨t47,y,h⟩:=bo h;obtain⟨z,h⟩|⟨z,h⟩:=io h
       ·have⟨t49,h49,h⟩:=bo h;obtain rfl:=oi h;exact rf (o [b1,b0,.el (.v (.string t42)),b1,.el (Q3 t44),.el (.v (.string t45)),.ret (.tup [.lst false 5 t47.1,I t47.2.1,I t47.2.2]),b0,.ret (B t49)]) (Qa (YE h49) (Qa (nef z) (Qa (Qj7 y) (Qa h46 (Qa (QiU E:QV cx.P (Instr.sliceAt 9 (.string t4.1) (some (.int .i64 t44)) none none)=some (.string t45)) (Qa (QX Qi C) (Qa h43 (Qa (QiU w:QV cx.P (Instr.sliceAt 9 (.string t4.1) none (some (.int .i64 0)) none)=some (.string t42)) (Qa (jEj s) q)))))))))
       cases h
      have⟨t39,f,h⟩:=bo h;obtain rfl:=oi h;exact rf (o [b0,.ret (B t39)]) (Qa (YE f) (Qa (jEj a) q))
     cases h
    cases h
   cases h
  cases h
 have⟨t3,X,h⟩:=bo h;obtain rfl:=oi h;exact rf (o [b1,.no,.ret (B t3)]) (Qa (YE X) (Qa (Uc (QA Y)) q))
theorem QiF (l:List UInt8):(mkS l).size=l.length:=by simp[mkS,ByteArray.size]
theorem Qkr (a b:List UInt8):((mkS a).toList==(mkS b).toList)=decide (a=b):=by rw[Bool.eq_iff_iff,beq_iff_eq,decide_eq_true_eq,jW,jW,Qjx,Qjx]
theorem Qjy (a b:List UInt8):mkS a++mkS b=mkS (a++b):=by
 have:(mkS a++mkS b).data.toList=a++b:=by rw[ByteArray.data_append];simp[mkS]
 rw[<-yD (mkS a++mkS b),this]
theorem Qi8 (l:List UInt8)(i:Nat):WQ (mkS l) (i:Int)=l[i]?.map fun b=>(b.toNat:Int):=by
 unfold WQ;rw[jTj (Int.natCast_nonneg i),jtj];have:(mkS l)[i]?=l[i]?:=by
  by_cases h:i<l.length
  ·have a : i<(mkS l).size:=by rw[QiF];exact h
   rw[getElem?_pos (mkS l) i a,jej h];congr 1
  ·have a : ¬i<(mkS l).size:=by rw[QiF];exact h
   rw[getElem?_neg (mkS l) i a,List.getElem?_eq_none (by omega)]
 rw[this];cases l[i]?<;>rfl
theorem Qkp (l:List UInt8)(a b:Nat):(mkS l).extract a b=mkS ((l.take b).drop a):=by
 rw[<-yD ((mkS l).extract a b)];congr 1
 rw[ByteArray.data_extract];simp[mkS];rw[List.take_drop];by_cases h:a<=b
 ·rw[show a+(b - a)=b by omega]
 ·rw[show a+(b - a)=a by omega,List.drop_eq_nil_of_le (by simp;omega),List.drop_eq_nil_of_le (by simp;omega)]
theorem QlT (l:List UInt8){b:Nat}(a:b<=l.length):Qi7 (mkS l) none (some (b:Int))=some (mkS (l.take b)):=by unfold Qi7;simp only[Option.getD_some,Option.getD_none,QiF];rw[jTj (by omega),jtj,Int.toNat_zero,Qkp,List.drop_zero]
theorem QjN (l:List UInt8){a:Nat}(b:a<=l.length):Qi7 (mkS l) (some (a:Int)) none=some (mkS (l.drop a)):=by unfold Qi7;simp only[Option.getD_some,Option.getD_none,QiF];rw[jTj (by omega),jtj,jtj,Qkp,List.take_length]
def spl (c:UInt8):List UInt8->List (List UInt8)
 | []=>[[]]
 | x::l=>if x=c then[]::spl c l else match spl c l with
  | []=>[[x]]
  | h::t=>(x::h)::t
def pre (p:List UInt8):List (List UInt8)->List (List UInt8)
 | []=>[p]
 | h::t=>(p++h)::t
theorem QjB (c:UInt8)(l:List UInt8):spl c l≠[]:=by
 cases l with
 | nil=>simp[spl]
 | cons x l =>
  unfold spl;split
  ·simp
  ·split<;>simp
theorem Qkf (c x:UInt8)(l:List UInt8)(h:x≠c):spl c (x::l)=pre [x] (spl c l):=by
 conv=>lhs;unfold spl
 rw[jFj h];cases spl c l<;>rfl
theorem Qkw (c:UInt8)(l:List UInt8):spl c (c::l)=[]::spl c l:=by
 conv=>lhs;unfold spl
 rw[jTj rfl]
theorem QlX {L:List (List UInt8)}(h:L≠[]):pre [] L=L:=by
 cases L with
 | nil=>exact absurd rfl h
 | cons a L=>rfl
theorem QmF (p q:List UInt8){L:List (List UInt8)}(h:L≠[]):pre p (pre q L)=pre (p++q) L:=by
 cases L with
 | nil=>exact absurd rfl h
 | cons a L=>simp[pre]
theorem QlV (c:UInt8):∀(a b:List UInt8),c∉a->spl c (a++b)=pre a (spl c b)
 | [],b,_=>by rw[List.nil_append,QlX (QjB c b)]
 | x::a,b,h=>by rw[List.cons_append,Qkf c x _ (fun e=>h (by rw[e];exact jMj)),QlV c a b (fun d=>h (jmj _ d)),QmF _ _ (QjB c b)];rfl
theorem QlU (c:UInt8)(a b:List UInt8)(h:c∉a):spl c (a++c::b)=a::spl c b:=by rw[QlV c a _ h,Qkw];simp[pre]
theorem Qla (c:UInt8)(a:List UInt8)(h:c∉a):spl c a=[a]:=by have:=QlV c a [] h;simpa[spl,pre] using this
def glue (c:UInt8):List (List UInt8)->List UInt8
 | []=>[]
 | [p]=>p
 | p::q::L=>p++c::glue c (q::L)
theorem Qm3 (c:UInt8)(p:List UInt8){L:List (List UInt8)}(h:L≠[]):glue c (pre p L)=p++glue c L:=by
 cases L with
 | nil=>exact absurd rfl h
 | cons a L =>
  cases L with
  | nil=>rfl
  | cons b L=>simp[pre,glue]
theorem QjE (c:UInt8):∀l:List UInt8,glue c (spl c l)=l
 | []=>rfl
 | x::l=>by
  by_cases h:x=c
  ·subst h;rw[Qkw];have:=QjB x l;have b:=QjE x l;cases hs:spl x l with
   | nil=>exact absurd hs this
   | cons a L=>rw[hs] at b;simp[glue,b]
  ·rw[Qkf c x l h,Qm3 c [x] (QjB c l),QjE c l];rfl
theorem Qke (c:UInt8):∀(l:List UInt8) (p:List UInt8),p∈spl c l->c∉p
 | [],p,h=>by
  have:p=[]:=by simpa[spl] using h
  rw[this];simp
 | x::l,p,h=>by
  by_cases d:x=c
  ·subst d;rw[Qkw] at h;obtain h|h:=List.mem_cons.1 h
   ·rw[h];simp
   ·exact Qke x l p h
  ·rw[Qkf c x l d] at h;have e:=Qke c l;cases hs:spl c l with
   | nil=>exact absurd hs (QjB c l)
   | cons a L =>
    rw[hs] at h e;simp only[pre,List.singleton_append] at h;obtain h|h:=List.mem_cons.1 h
    ·rw[h];intro b;obtain b|b:=List.mem_cons.1 b
     ·exact d b.symm
     ·exact e a jMj b
    ·exact e p (jmj _ h)
theorem Qlb (c:UInt8):∀(L:List (List UInt8)),L≠[]->(∀p,p∈L->c∉p)->spl c (glue c L)=L
 | [],h,_=>absurd rfl h
 | [p],_,h=>Qla c p (h p jMj)
 | p::q::L,_,h=>by show spl c (p++c::glue c (q::L))=_;rw[QlU c p _ (h p jMj),Qlb c (q::L) (by simp) (fun r a=>h r (jmj _ a))]
theorem QjJ (c:UInt8):∀l:List UInt8,(spl c l).length=l.count c+1
 | []=>rfl
 | x::l=>by
  by_cases h:x=c
  ·subst h;rw[Qkw,List.length_cons,QjJ x l,List.count_cons_self]
  ·rw[Qkf c x l h,List.count_cons_of_ne h];have:=QjJ c l;cases hs:spl c l with
   | nil=>exact absurd hs (QjB c l)
   | cons a L=>rw[hs] at this;simpa[pre] using this
theorem Qm2 {c:UInt8}:∀{l:List UInt8},c∈l->∃a b,l=a++c::b/\c∉a
 | x::l,h=>by
  by_cases e:x=c
  ·subst e;exact⟨[],l,rfl,by simp⟩
  ·obtain h|h:=List.mem_cons.1 h
   ·exact absurd h.symm e
   ·obtain⟨a,b,f,g⟩:=Qm2 h;refine⟨x::a,b,by rw[f];rfl,fun d=>?_⟩;obtain d|d:=List.mem_cons.1 d
    ·exact e d.symm
    ·exact g d
theorem QkK {c:UInt8}:∀{a:List UInt8} (b:List UInt8),c∉a->Lib.indexByte (a++c::b) c=(a.length:Int)
 | [],b,_=>by simp[Lib.indexByte]
 | x::a,b,h=>by
  have f:¬(x=c):=fun e=>h (by rw[e];exact jMj);have g:=QkK b (fun d=>h (jmj _ d));rw[List.cons_append,Lib.indexByte,jFj (by simpa using f),g];have:¬(((a.length:Int))==-1)=true:=by simp
  rw[jFj this];simp
theorem Qlj {c:UInt8}:∀{a:List UInt8},c∉a->Lib.indexByte a c=-1
 | [],_=>rfl
 | x::a,h=>by have d:¬(x=c):=fun e=>h (by rw[e];exact jMj);have f:=Qlj (fun b=>h (jmj _ b));rw[Lib.indexByte,jFj (by simpa using d),f];rfl
def QiV (l:List UInt8):Prop:=∀c,c∈l->48<=c.toNat/\c.toNat<=57
instance (l:List UInt8):Decidable (QiV l):=by unfold QiV;infer_instance
def valN:Nat->List UInt8->Nat
 | n,[]=>n
 | n,c::l=>valN (10*n+(c.toNat - 48)) l
def QjX (d:List UInt8):Prop:=d≠[]/\d.length<=9/\QiV d/\(d.head?≠some 48\/d.length=1)
instance (l:List UInt8):Decidable (QjX l):=by unfold QjX;infer_instance
theorem Qjf {c:UInt8}{l:List UInt8}:QiV (c::l)↔(48<=c.toNat/\c.toNat<=57)/\QiV l:=by simp[QiV]
theorem QlO {a b:List UInt8}:QiV (a++b)↔QiV a/\QiV b:=by simp only[QiV,List.mem_append];exact⟨fun h=>⟨fun c hc=>h c (.inl hc),fun c hc=>h c (.inr hc)⟩,fun h c hc=>hc.elim (h.1 c) (h.2 c)⟩
theorem Ql7:∀(a b:List UInt8) (n:Nat),valN n (a++b)=valN (valN n a) b
 | [],_,_=>rfl
 | c::a,b,n=>Ql7 a b _
theorem QlE (a:List UInt8)(c:UInt8)(n:Nat):valN n (a++[c])=10*valN n a+(c.toNat - 48):=by rw[Ql7];rfl
theorem Qkd {k:Nat}(h:k<10):(UInt8.ofNat (48+k)).toNat=48+k:=by simp only[UInt8.toNat_ofNat'];omega
theorem QlN {k:Nat}(h:k<10):QiV [UInt8.ofNat (48+k)]:=by intro c hc;rw[List.mem_singleton] at hc;rw[hc,Qkd h];omega
theorem Qmp (u:Nat):QiV (Lib.decDigits u)/\Lib.decDigits u≠[]/\valN 0 (Lib.decDigits u)=u/\((Lib.decDigits u).head?≠some 48\/(Lib.decDigits u).length=1)/\∀k,1<=k->u<10 ^ k->(Lib.decDigits u).length<=k:=by
 induction u using Nat.strongRecOn with
 | _ u s =>
  by_cases h:u<10
  ·rw[Lib.decDigits,dif_pos h];refine⟨QlN h,by simp,?_,.inr rfl,fun k f _=>by simpa using f⟩;show 10*0+((UInt8.ofNat (48+u)).toNat - 48)=u;rw[Qkd h];omega
  ·rw[Lib.decDigits,dif_neg h];obtain⟨j,m,e,n,o⟩:=s (u / 10) (by omega);have g:u % 10<10:=Nat.mod_lt _ (by decide);refine⟨QlO.2 ⟨j,QlN g⟩,by simp,?_,.inl ?_,fun k f i=>?_⟩
   ·rw[QlE,e,Qkd g];omega
   ·have b:(Lib.decDigits (u / 10)).head?≠some 48:=by
     intro d;have q:=n.resolve_left (fun hc=>hc d);have r:valN 0 (Lib.decDigits (u / 10))=0:=by
      match hd:Lib.decDigits (u / 10),q with
      | [c],_ =>
       rw[hd] at d;simp only[List.head?_cons,jIj] at d;rw[d];rfl
     rw[e] at r;omega
    cases hd:Lib.decDigits (u / 10) with
    | nil=>exact absurd hd m
    | cons a l=>rw[hd] at b;simpa using b
   ·cases k with
    | zero=>omega
    | succ k =>
     have p:k≠0:=by rintro rfl;simp at i;omega
     have:=o k (by omega) (by rw[Nat.pow_succ] at i;omega);rw[jaj];simpa using this
theorem Qnt {u:Nat}(h:u<1000000000):QjX (Lib.decDigits u):=by obtain⟨a,b,e,c,d⟩:=Qmp u;exact⟨b,d 9 (by decide) (by simpa using h),a,c⟩
def num (w:List UInt8):Option Int:=if QjX w then some (valN 0 w:Int) else none
theorem Qk7 {n:Int}(h:0<=n):Lib.itoa n=Lib.decDigits n.toNat:=by unfold Lib.itoa;rw[jFj (by omega)]
theorem Qpz {n:Int}(a:0<=n)(c:n<1000000000):num (Lib.itoa n)=some n:=by have b:=Qmp n.toNat;unfold num;rw[Qk7 a,jTj (Qnt (by omega)),b.2.2.1];congr 1;omega
theorem QpB {n:Int}(h:0<=n):QiV (Lib.itoa n):=by rw[Qk7 h];exact(Qmp _).1
theorem Qmh {n:Int}(a:0<=n)(b:n<1000000000):(Lib.itoa n).length<=9:=by rw[Qk7 a];exact(Qnt (u:=n.toNat) (by omega)).2.1
set_option maxRecDepth 20000
def eS (p:List UInt8):D:=.v (.string (mkS p))
theorem Qns:(.v (.string ⟨#[]⟩):D)=eS []:=rfl
theorem i64 {m:Int}(a : -1000000000000<=m)(b:m<=1000000000000):Qh m:=by unfold Qh;omega
theorem Qnc (n:Nat)(l:List UInt8):Qjo n (mkS l)=some (Lib.indexByte l 32):=by
 unfold Qjo Qi9;have e:(⟨#[32]⟩:jSj)=mkS [32]:=rfl;rw[e,Qkr];by_cases h:[32]=l
 ·rw[jTj (jDj h),<-h];rfl
 ·rw[jFj (by simpa using h)];unfold Qi6;rw[Qjx];rfl
theorem Qkn (n:Nat)(l:List UInt8)(x:l.length<=2000):∀(m:Nat) (done:List (List UInt8)) (s:List UInt8) (k:Nat),s.count 32=m->done.length+m=l.count 32->spl 32 l=done++spl 32 s->s.length<=2000->m<k ->
  ∃(done' : List (List UInt8)) (s' : List UInt8),Q2 (QiN n (mkS l) ((l.count 32:Nat):Int)) k (mkS s,(done.length:Int),done.map eS++List.replicate (m+1) (eS []))=some (mkS s',((l.count 32:Nat):Int),done'.map eS++[eS []])/\done'.length=l.count 32/\spl 32 l=done'++[s']
 | _,_,_,0,_,_,_,_,hk=>absurd hk (by omega)
 | 0,done,s,k+1,hm,hd,hs,_,_=>by
  have g:(32:UInt8)∉s:=List.count_eq_zero.1 hm;have i:l.count 32<=l.length:=List.count_le_length;refine⟨done,s,?_,by omega,by rw[hs,Qla 32 s g]⟩;have c:minI (((l.count 32:Nat):Int)+1) (((mkS l).size:Int)+1)=((l.count 32:Nat):Int)+1:=by rw[QiF];unfold minI;split<;>omega
  rw[JB (e:=(mkS s,(done.length:Int),done.map eS++List.replicate 1 (eS [])))]
  ·rw[show done.length=l.count 32 by omega];rfl
  ·unfold QiN;dsimp only;rw[c,jFj (by omega)]
 | m+1,done,s,k+1,hm,hd,hs,hsl,hk=>by
  have i:l.count 32<=l.length:=List.count_le_length;have c:minI (((l.count 32:Nat):Int)+1) (((mkS l).size:Int)+1)=((l.count 32:Nat):Int)+1:=by rw[QiF];unfold minI;split<;>omega
  obtain⟨a,b,rfl,f⟩:=Qm2 (List.count_pos_iff.1 (show 0<s.count 32 by omega));have h:b.count 32=m:=by rw[List.count_append,List.count_cons_self,List.count_eq_zero.2 f] at hm;omega
  have j:a.length+b.length+1<=2000:=by simp at hsl;omega
  obtain⟨done',s',r,t,u⟩:=Qkn n l x m (done++[a]) b k h (by simp;omega) (by rw[hs,QlU 32 a b f];simp) (by omega) (by omega);refine⟨done',s',?_,t,u⟩;rw[E3 (s':=(mkS b,((done++[a]).length:Int),(done++[a]).map eS++List.replicate (m+1) (eS [])))]
  ·exact r
  ·unfold QiN;dsimp only;have w:(a++32::b).length=a.length+b.length+1:=by simp;omega
   have d:(done.map eS++List.replicate (m+1+1) (eS [])).length=done.length+m+2:=by simp;omega
   rw[c,jTj (by omega),Qnc,jBj,QkK b f,jFj (by omega),jTj (i64 (by omega) (by omega)),Int.add_zero,QlT _ (by omega),jBj,
    jTj (by rw[d];omega),jTj (by rw[d,jtj];omega),jTj (i64 (by omega) (by omega))]
   rw[show(a.length:Int)+1=((a.length+1:Nat):Int) by simp,QjN _ (by omega),jBj,jTj (i64 (by omega) (by omega))];have o:(a++32::b).drop (a.length+1)=b:=by simp
   have p:(a++32::b).take a.length=a:=by simp
   have q:(done.map eS++List.replicate (m+1+1) (eS [])).set (Int.toNat (done.length:Int)) (.v (.string (mkS a)))=(done++[a]).map eS++List.replicate (m+1) (eS []):=by rw[jtj,List.set_append_right _ _ (by simp)];simp[List.replicate_succ,eS]
   rw[o,p,q];simp
theorem QmY {n:Nat}(m:3000<=n){l:List UInt8}(g:l.length<=2000):Qjn n (mkS l)=some ((spl 32 l).map eS):=by
 have k:l.count 32<=l.length:=List.count_le_length;obtain⟨done,s,i,f,j⟩:=Qkn n l g (l.count 32) [] l n rfl (by simp) (by simp) g (by omega);have d:minI (((l.count 32:Nat):Int)+1) (((mkS l).size:Int)+1)=((l.count 32+1:Nat):Int):=by rw[QiF];unfold minI;split<;>omega
 unfold Qjn Qjl;have a:QjA n (mkS l) ⟨#[32]⟩=some ((l.count 32:Nat):Int):=by show some ((Lib.countByte (mkS l).data.toList 32:Nat):Int)=_;rw[Qjx];rfl
 rw[a,jBj,jTj (i64 (by omega) (by omega)),jTj (by rw[QiF];exact i64 (by omega) (by omega)),d,jTj (by omega),jTj (i64 (by omega) (by omega))];rw[jtj,Qns];have e : Q2 (QiN n (mkS l) ((l.count 32:Nat):Int)) n (mkS l,0,List.replicate (l.count 32+1) (eS []))=some (mkS s,((l.count 32:Nat):Int),done.map eS++[eS []]):=i;rw[e,jBj];dsimp only;have c:(done.map eS++[eS []]).length=l.count 32+1:=by simp[f]
 have h:(done.map eS++[eS []]).set (Int.toNat ((l.count 32:Nat):Int)) (.v (.string (mkS s)))=(spl 32 l).map eS:=by rw[jtj,List.set_append_right _ _ (by simp[f]),j];simp[f,eS]
 have b:((spl 32 l).map eS).length=l.count 32+1:=by rw[jlj,QjJ]
 rw[jTj (by rw[c];omega),jTj (by rw[c,jtj];omega),jTj (i64 (by omega) (by omega)),h,jTj (by rw[b];exact⟨by decide,by omega,by omega,.inr rfl⟩)];rw[show Int.toNat (((l.count 32:Nat):Int)+1)=l.count 32+1 by omega,<-b,List.take_length];rfl
abbrev Wrd:=List UInt8
theorem Qms {m:Int}(h:Qh m):IntKind.wrap .i64 m=m:=by unfold Qh at h;rw[IntKind.wrap_i64];omega
theorem QlR {l:Wrd}{i:Nat}{x:UInt8}(h:l[i]?=some x):Yy (mkS l) i=x.toNat:=by obtain⟨hi,a⟩:=jGj h;show(l.toArray[i]!).toNat=x.toNat;rw[getElem!_pos l.toArray i (by simpa using hi)];simp[a]
theorem Qnp {m:Int}(a:0<=m)(b:m<=9):IntKind.wrap .i32 m=m:=by
 have:m=0\/m=1\/m=2\/m=3\/m=4\/m=5\/m=6\/m=7\/m=8\/m=9:=by omega
 obtain h|h|h|h|h|h|h|h|h|h:=this<;>subst h<;>decide
theorem Qnl {i v:Nat}(hi:i<=9)(h:v<10 ^ i):v<1000000000:=by have:10 ^ i<=10 ^ 9:=Nat.pow_le_pow_right (by decide) hi;omega
theorem QkB {d a:Wrd}{i:Nat}{x:UInt8}(c:d.drop i=x::a):i<d.length/\d[i]?=some x/\d.drop (i+1)=a:=by
 have b:i<d.length:=by
  obtain h|h:=Nat.lt_or_ge i d.length
  ·exact h
  ·rw[List.drop_eq_nil_of_le h] at c;cases c
 have:=List.drop_eq_getElem_cons b;rw[c] at this;refine⟨b,?_,(List.cons.inj this).2.symm⟩;rw[jej b];exact congrArg some (List.cons.inj this).1.symm
theorem Qm1 (n:Nat){d:Wrd}{i v:Nat}{x:UInt8}(b:i<d.length)(a:Utf8.decode (mkS d) i=(x.toNat,1))(g:48<=x.toNat/\x.toNat<=57)(h:d.length<=9)(q:v<1000000000) :
  QiK n (mkS d) ((v:Int),i)=some (.inl (((10*v+(x.toNat - 48):Nat):Int),i+1)):=by
 have c:i<(mkS d).size:=by rw[QiF];exact b
 have e:IntKind.wrap .i32 ((x.toNat:Int) - 48)=(x.toNat:Int) - 48:=Qnp (by omega) (by omega);have f:IntKind.wrap .i64 ((x.toNat:Int) - 48)=(x.toNat:Int) - 48:=Qms (i64 (by omega) (by omega));have j:¬((x.toNat:Int)<48):=by omega
 have k:¬((x.toNat:Int)>57):=by omega
 have l:¬(((mkS d).size:Int)>9):=by rw[QiF];omega
 have m:Qh (10*(v:Int)):=i64 (by omega) (by omega);have o:Qh (10*(v:Int)+((x.toNat:Int) - 48)):=i64 (by omega) (by omega);have p:(10*(v:Int)+((x.toNat:Int) - 48))=((10*v+(x.toNat - 48):Nat):Int):=by omega
 unfold QiK;simp only[a,c,if_true,jFj j,jFj k,jFj l,jTj m,e,f,jTj o];rw[p]
theorem Qmi (n:Nat)(d:Wrd):∀(a:Wrd) (i v k:Nat),d.drop i=a->i<=d.length->v<10 ^ i->a.length<k ->
  Q2 (QiK n (mkS d)) k ((v:Int),i)=some (if QiV a/\(d.length<=9\/a=[]) then .inr (valN v a:Int) else .inl ())
 | _,_,_,0,_,_,_,hk=>absurd hk (by omega)
 | [],i,v,k+1,hd,hi,_,_=>by
  have u:i=d.length:=by have:=List.drop_eq_nil_iff.1 hd;omega
  rw[JB (e:=.inr (v:Int)),jTj (show QiV []/\(d.length<=9\/([]:Wrd)=[]) from⟨fun c hc=>(by cases hc),.inr rfl⟩)]
  ·rfl
  unfold QiK;dsimp only;rw[jFj (by rw[QiF];omega)]
 | x::a,i,v,k+1,hd,hi,hv,hk=>by
  obtain⟨l,w,o⟩:=QkB hd;have j:=QlR w;by_cases g:48<=x.toNat/\x.toNat<=57
  ·have b:Utf8.decode (mkS d) i=(x.toNat,1):=by have:=QaR (s:=mkS d) (p:=i) (by rw[j];omega);rw[j] at this;exact this
   by_cases f:d.length<=9
   ·have q:v<1000000000:=Qnl (by omega) hv;have y:=Qmi n d a (i+1) (10*v+(x.toNat - 48)) k o l (by rw[Nat.pow_succ];omega) (by simp at hk;omega);rw[E3 (s':=(((10*v+(x.toNat - 48):Nat):Int),i+1)),y]
    ·have e:(QiV (x::a)/\(d.length<=9\/x::a=[]))↔(QiV a/\(d.length<=9\/a=[])):=by rw[Qjf];exact⟨fun h=>⟨h.1.2,.inl f⟩,fun h=>⟨⟨g,h.1⟩,.inl f⟩⟩
     by_cases m:QiV a/\(d.length<=9\/a=[])
     ·rw[jTj m,jTj (e.2 m)];rfl
     ·rw[jFj m,jFj (fun h=>m (e.1 h))]
    ·exact Qm1 n l b g f q
   ·rw[JB (e:=.inl ()),jFj (fun h=>h.2.elim (fun h=>f h) (fun h=>by cases h))];unfold QiK;dsimp only;rw[jTj (by rw[QiF];omega),b];dsimp only;rw[jFj (by omega),jFj (by omega),jTj (by rw[QiF];omega)]
  ·rw[JB (e:=.inl ()),jFj (fun h=>g (Qjf.1 h.1).1)];unfold QiK;dsimp only;rw[jTj (by rw[QiF];omega)];by_cases r:x.toNat<128
   ·have b:Utf8.decode (mkS d) i=(x.toNat,1):=by have:=QaR (s:=mkS d) (p:=i) (by rw[j];exact r);rw[j] at this;exact this
    rw[b];dsimp only;by_cases t:x.toNat<48
    ·rw[jTj (by omega)]
    ·rw[jFj (by omega),jTj (by omega)]
   ·have:=Qaa (s:=mkS d) (p:=i) (by rw[j];exact r);rw[jFj (by omega),jTj (by omega)]
def intV (w:Wrd):Int:=if QiV w/\(w.length<=9\/w=[]) then(valN 0 w:Int) else 0
theorem Qmj {w:Wrd}{v:Int}(h:num w=some v):intV w=v:=by
 unfold num at h;split at h;case isFalse=>cases h
 rename_i a;unfold intV;rw[jTj ⟨a.2.2.1,.inl a.2.1⟩];exact Option.some.inj h
theorem Qli {n:Nat}(k:3000<=n){w:Wrd}(l:w.length<=2000):Qjb n (mkS w)=some (intV w,(num w).isSome):=by
 unfold Qjb;have d:Q2 (QiK n (mkS w)) n (0,0)=_:=Qmi n w w 0 0 n rfl (Nat.zero_le _) (by decide) (by omega);rw[d];unfold intV num;have j:(⟨#[]⟩:jSj)=mkS []:=rfl;by_cases hc:QiV w/\(w.length<=9\/w=[])
 ·rw[jTj hc,jTj hc,jBj];dsimp only;rw[j,Qkr];cases w with
  | nil =>
   have a:¬QjX []:=fun h=>h.1 rfl;rw[jFj (by decide),jFj a];rfl
  | cons x r =>
   have c:(x::r).length<=9:=hc.2.resolve_right (by simp);have i:WQ (mkS (x::r)) 0=some (x.toNat:Int):=Qi8 (x::r) 0;rw[jTj (by simp),i];by_cases g:(x::r).length=1
   ·rw[jTj (by rw[QiF,g];rfl),jTj ⟨by simp,c,hc.1,.inr g⟩];rfl
   ·rw[jFj (by rw[QiF];omega),jBj];by_cases b:x=48
    ·have a:¬QjX (x::r):=fun h=>by
      obtain h|h:=h.2.2.2
      ·rw[b] at h;exact h rfl
      ·exact g h
     rw[jFj a,b];rfl
    ·have f : ¬((x.toNat:Int)=48):=fun e=>b (UInt8.toNat_inj.1 (by show x.toNat=48;omega));rw[jTj ⟨by simp,c,hc.1,.inl (by simpa using b)⟩];simp[f]
 ·have a:¬QjX w:=fun h=>hc ⟨h.2.2.1,.inl h.2.1⟩;rw[jFj hc,jFj hc,jBj,jFj a];rfl
def QiI (wsx:List Wrd)(b:Bool):Wrd×List Wrd×Bool:=match wsx with
 | []=>([],[],true)
 | w::l=>if w=[] then([],[],true) else(w,l,b)
def numX (wsx:List Wrd)(b:Bool):Int×List Wrd×Bool :=
 (intV (QiI wsx b).1,(QiI wsx b).2.1,if(QiI wsx b).2.2=true then true else !(num (QiI wsx b).1).isSome)
theorem Qk8 {w:Wrd}{l:List Wrd}(b:Bool)(h:¬w=[]):QiI (w::l) b=(w,l,b):=by unfold QiI;dsimp only;rw[jFj h]
theorem QmM (l:List Wrd)(b:Bool):QiI ([]::l) b=([],[],true):=by unfold QiI;dsimp only;rw[jTj rfl]
def OkW (wsx:List Wrd):Prop:=wsx.length<=3000/\∀w,w∈wsx->w.length<=2000
theorem QjO {wsx:List Wrd}(b:Bool)(h:OkW wsx):OkW (QiI wsx b).2.1/\(QiI wsx b).1.length<=2000:=by
 unfold QiI;cases wsx with
 | nil=>exact⟨⟨by simp,fun w a=>by cases a⟩,by simp⟩
 | cons w l =>
  dsimp only;by_cases a:w=[]
  ·rw[jTj a];exact⟨⟨by simp,fun w a=>by cases a⟩,by simp⟩
  ·rw[jFj a];exact⟨⟨by have:=h.1;simp at this ⊢;omega,fun x c=>h.2 x (jmj _ c)⟩,h.2 w jMj⟩
theorem Ql5 (w:Wrd):((mkS w).toList==(⟨#[]⟩:jSj).toList)=decide (w=[]):=Qkr w []
theorem Qml {L:List Wrd}{i:Nat}{w:Wrd}(h:L[i]?=some w):el Ww (L.map eS) (i:Int)=some (mkS w) :=
 Xr (un:=Ww) (enc:=fun x:jSj=>(.v (.string x):D)) (fun _=>rfl) (l:=L.map mkS) (i:=i) (x:=mkS w) (by rw[List.getElem?_map,h];rfl) ▸ (by rw[List.map_map];rfl)
theorem Qk6 (n:Nat){wsx:List Wrd}(b:Bool)(h:OkW wsx):QiO n (wsx.map eS) b=some (mkS (QiI wsx b).1,(QiI wsx b).2.1.map eS,(QiI wsx b).2.2):=by
 unfold QiO QiI;cases wsx with
 | nil=>rfl
 | cons w l =>
  have d:=h.1;simp only[List.length_cons] at d;have c:el Ww ((w::l).map eS) 0=some (mkS w):=Qml (i:=0) rfl;rw[jFj (by simp;omega),c,jBj,Ql5];by_cases a:w=[]
  ·rw[jTj (by simpa using a)];dsimp only;rw[jTj a];rfl
  ·rw[jFj (by simpa using a),jTj (by simp;omega)];dsimp only;rw[jFj a];rfl
theorem QlL {n:Nat}(c:3000<=n){wsx:List Wrd}(b:Bool)(h:OkW wsx):QiG n (wsx.map eS) b=some ((numX wsx b).1,(numX wsx b).2.1.map eS,(numX wsx b).2.2):=by
 unfold QiG numX;rw[Qk6 n b h,jBj];dsimp only;rw[Qli c (QjO b h).2,jBj];by_cases a:(QiI wsx b).2.2=true
 ·rw[jTj a,jTj a]
 ·rw[jFj a,jFj a]
theorem QmG {wsx:List Wrd}(b:Bool)(h:OkW wsx):OkW (numX wsx b).2.1:=(QjO b h).1
def runT {a:Type}(f:List Wrd->Bool->a×List Wrd×Bool):Nat->List Wrd->Bool->List a×List Wrd×Bool
 | 0,wsx,b=>([],wsx,b)
 | k+1,wsx,b=>((f wsx b).1::(runT f k (f wsx b).2.1 (f wsx b).2.2).1,(runT f k (f wsx b).2.1 (f wsx b).2.2).2)
theorem Ql6 (wsx:List Wrd):(QiI wsx true).2.2=true:=by
 unfold QiI;cases wsx with
 | nil=>rfl
 | cons w l=>dsimp only;split<;>rfl
theorem QmH (wsx:List Wrd):(numX wsx true).2.2=true:=by unfold numX;rw[Ql6];rfl
theorem Qkx {b:Type}{f:List Wrd->Bool->b×List Wrd×Bool}(a:∀wsx,(f wsx true).2.2=true):∀(k:Nat) (wsx:List Wrd),(runT f k wsx true).2.2=true
 | 0,wsx=>rfl
 | k+1,wsx=>by show(runT f k (f wsx true).2.1 (f wsx true).2.2).2.2=true;rw[a];exact Qkx a k _
theorem QmB {c:Type}{f:List Wrd->Bool->c×List Wrd×Bool}(a:∀{wsx} b,OkW wsx->OkW (f wsx b).2.1):∀(k:Nat) (wsx:List Wrd) (b:Bool),OkW wsx->OkW (runT f k wsx b).2.1
 | 0,wsx,b,h=>h
 | k+1,wsx,b,h=>QmB a k _ _ (a b h)
theorem QkI {m:Type}{f:List Wrd->Bool->m×List Wrd×Bool}(g:Wrd->Option m)(b:∀wsx,(f wsx true).2.2=true)(d:(f [] false).2.2=true)
  (i:∀w l x,g w=some x->f (w::l) false=(x,l,false)) (j:∀w l,g w=none->(f (w::l) false).2.2=true):∀(k:Nat) (wsx:List Wrd),
  (∃xs,k<=wsx.length/\(wsx.take k).mapM g=some xs/\runT f k wsx false=(xs,wsx.drop k,false))\/(¬(k<=wsx.length/\((wsx.take k).mapM g).isSome=true)/\(runT f k wsx false).2.2=true)
 | 0,wsx=>.inl ⟨[],Nat.zero_le _,rfl,rfl⟩
 | k+1,[]=>by refine .inr ⟨fun h=>absurd h.1 (by simp),?_⟩;show(runT f k (f [] false).2.1 (f [] false).2.2).2.2=true;rw[d];exact Qkx b k _
 | k+1,w::l=>by
  cases hg:g w with
  | none =>
   refine .inr ⟨fun h=>?_,?_⟩
   ·have:=h.2;rw[List.take_succ_cons,List.mapM_cons,hg] at this;cases this
   ·show(runT f k (f (w::l) false).2.1 (f (w::l) false).2.2).2.2=true;rw[j w l hg];exact Qkx b k _
  | some x =>
   have e:runT f (k+1) (w::l) false=(x::(runT f k l false).1,(runT f k l false).2):=by show(_,_)=_;rw[i w l x hg]
   rw[e];obtain⟨xs,c,a,n⟩|⟨c,a⟩:=QkI g b d i j k l
   ·refine .inl ⟨x::xs,by simp;omega,?_,?_⟩
    ·rw[List.take_succ_cons,List.mapM_cons,hg,a];rfl
    ·rw[n];rfl
   ·refine .inr ⟨fun h=>c ⟨by have:=h.1;simp at this;omega,?_⟩,a⟩;have:=h.2;rw[List.take_succ_cons,List.mapM_cons,hg] at this;cases hm:(l.take k).mapM g with
    | none=>rw[hm] at this;cases this
    | some _=>rfl
def nmG (w:Wrd):Option Wrd:=if w=[] then none else some w
theorem Qmv (k:Nat)(wsx:List Wrd):(∃xs,k<=wsx.length/\(wsx.take k).mapM nmG=some xs/\runT QiI k wsx false=(xs,wsx.drop k,false))\/(¬(k<=wsx.length/\((wsx.take k).mapM nmG).isSome=true)/\(runT QiI k wsx false).2.2=true) :=
 QkI nmG Ql6 rfl
  (fun w l x h=>by
   unfold nmG at h;split at h
   ·cases h
   ·rename_i a;cases h;unfold QiI;dsimp only;rw[jFj a])
  (fun w l h=>by
   unfold nmG at h;split at h
   ·rename_i a;unfold QiI;dsimp only;rw[jTj a]
   ·cases h) k wsx
theorem QmN (k:Nat)(wsx:List Wrd):(∃xs,k<=wsx.length/\(wsx.take k).mapM num=some xs/\runT numX k wsx false=(xs,wsx.drop k,false))\/(¬(k<=wsx.length/\((wsx.take k).mapM num).isSome=true)/\(runT numX k wsx false).2.2=true) :=
 QkI num QmH rfl
  (fun w l x h=>by
   have a:¬w=[]:=fun e=>by rw[e] at h;unfold num at h;rw[jFj (fun h:QjX []=>h.1 rfl)] at h;cases h
   unfold numX;rw[Qk8 false a,h,Qmj h];rfl)
  (fun w l h=>by
   unfold numX;by_cases a:w=[]
   ·rw[a,QmM];rfl
   ·rw[Qk8 false a,h];rfl) k wsx
abbrev Tri:=Ki×List Wrd×List Int
def QjK:List Wrd->Option Tri
 | []=>none
 | w::rest=>match yJ w with
  | none=>none
  | some k=>if rest.length=kn k+kv k then(((rest.take (kn k)).mapM nmG).bind fun ns=>((rest.drop (kn k)).mapM num).bind fun vs=>some (k,ns,vs)) else none
theorem Qnv (k:Ki):kn k<=2/\kv k<=5:=by cases k<;>decide
theorem Qm0 (k:Ki):∀(p:Nat),p<(kr k).length->Utf8.decode (mkS (kr k)) p=((Yy (mkS (kr k)) p),1):=by
 intro p hp;refine QaR ?_;have h:∀c,c∈kr k->c.toNat<128:=by cases k<;>decide
 obtain⟨x,a⟩:∃x,(kr k)[p]?=some x:=⟨_,jej hp⟩
 rw[QlR a];exact h x (jgj a)
theorem Qky {b k:Nat}(a:b<=200)(h:k<=5000):Wa b k:=V7 a h
theorem Qmk (n:Nat)(d:Int){wsx:List Wrd}(b:Bool)(w:jSj)(k:Ki)(v:Int)(f g:FnD)(h:OkW wsx):∀(m p:Nat) (acc:List Wrd) (a:List Wrd) (c:Bool) (K:Nat),p+m=kn k->p=acc.length->OkW a->m<K->p≠0 ->
  Q2 (QiQ n d (w,wsx.map eS,b) (mkS (kr k),v,f,g)) K (.inr (a.map eS,c,p,acc.map eS))=some (.inr ((runT QiI m a c).2.1.map eS,(runT QiI m a c).2.2,(acc++(runT QiI m a c).1).map eS))
 | m,p,acc,a,c,0,_,_,_,hK,_=>absurd hK (by omega)
 | 0,p,acc,a,c,K+1,hp,ha,hu,hK,h0=>by
  rw[JB (e:=.inr (a.map eS,c,acc.map eS))]
  ·simp only[runT,List.append_nil]
  unfold QiQ;dsimp only;rw[jFj (by rw[QiF];unfold kn at hp;omega)]
 | m+1,p,acc,a,c,K+1,hp,ha,hu,hK,h0=>by
  have j:=Qnv k;have i:=Qmk n d b w k v f g h m (p+1) (acc++[(QiI a c).1]) (QiI a c).2.1 (QiI a c).2.2 K (by omega) (by simp;omega) (QjO c hu).1 (by omega) (by omega);rw[E3 (s':=.inr ((QiI a c).2.1.map eS,(QiI a c).2.2,p+1,(acc++[(QiI a c).1]).map eS)),i]
  ·simp only[runT,List.append_assoc,List.singleton_append]
  ·unfold QiQ;dsimp only;rw[jTj (by rw[QiF];unfold kn at hp;omega),Qk6 n c hu,jBj,jTj (Qky (by decide) (by rw[jlj];omega)),Qm0 k p (by unfold kn at hp;omega),List.map_append];rfl
theorem QmR (n:Nat)(j:3000<=n)(e:Int){wsx:List Wrd}(b:Bool)(w:jSj)(k:Ki)(v:Int)(f g:FnD)(d:OkW wsx) :
  Q2 (QiQ n e (w,wsx.map eS,b) (mkS (kr k),v,f,g)) n (.inl ())=some (if kn k=0 then .inl () else .inr ((runT QiI (kn k) wsx b).2.1.map eS,(runT QiI (kn k) wsx b).2.2,(runT QiI (kn k) wsx b).1.map eS)):=by
 have i:=Qnv k;obtain⟨K,rfl⟩:∃K,n=K+1:=⟨n - 1,by omega⟩
 by_cases a:kn k=0
 ·rw[jTj a];refine JB ?_;unfold QiQ;dsimp only;rw[jFj (by rw[QiF];unfold kn at a;omega)]
 ·rw[jFj a];obtain⟨m,c⟩:∃m,kn k=m+1:=⟨kn k - 1,by omega⟩
  have h:=Qmk (K+1) e b w k v f g d m 1 [(QiI wsx b).1] (QiI wsx b).2.1 (QiI wsx b).2.2 K (by omega) rfl (QjO b d).1 (by omega) (by omega);rw[E3 (s':=.inr ((QiI wsx b).2.1.map eS,(QiI wsx b).2.2,1,[(QiI wsx b).1].map eS)),h,c]
  ·rfl
  ·unfold QiQ;dsimp only;rw[jTj (by rw[QiF];unfold kn at c;omega),Qk6 _ b d,jBj,Qm0 k 0 (by unfold kn at c;omega)];rfl
theorem QmJ {n:Nat}(k:3000<=n){step:(Unit)⊕(Int×jVj×Bool×jVj)->Option ((Unit⊕Int×jVj×Bool×jVj)⊕Unit⊕jVj×Bool×jVj)}{V:Nat}{wsx:List Wrd}{b:Bool}(l:OkW wsx)(u:V<=5)
  (o:step (.inl ())=if 0<(V:Int) then(QiG n (wsx.map eS) b).bind fun t=>some (.inl (.inr (1,t.2.1,t.2.2,[I t.1]))) else some (.inr (.inl ())))
  (q:∀(i:Int) (a:jVj) (c:Bool) (acc:jVj),step (.inr (i,a,c,acc))=if i<(V:Int) then(QiG n a c).bind fun t=>if Wa 8 (acc.length+1) then if Qh (i+1) then some (.inl (.inr (i+1,t.2.1,t.2.2,acc++([I t.1]:jVj)))) else none else none else some (.inr (.inr (a,c,acc)))) :
  Q2 step n (.inl ())=some (if V=0 then .inl () else .inr ((runT numX V wsx b).2.1.map eS,(runT numX V wsx b).2.2,(runT numX V wsx b).1.map I)):=by
 have main:∀(m p:Nat) (acc:List Int) (a:List Wrd) (c:Bool) (K:Nat),p+m=V->p=acc.length->OkW a->m<K ->
   Q2 step K (.inr ((p:Int),a.map eS,c,acc.map I))=some (.inr ((runT numX m a c).2.1.map eS,(runT numX m a c).2.2,(acc++(runT numX m a c).1).map I)):=by
  intro m;induction m with
  | zero =>
   intro p acc a c K hp r f d;obtain⟨K,rfl⟩:∃j,K=j+1:=⟨K - 1,by omega⟩
   rw[JB (e:=.inr (a.map eS,c,acc.map I))]
   ·simp only[runT,List.append_nil]
   rw[q,jFj (by omega)]
  | succ m ih =>
   intro p acc a c K hp r f d;obtain⟨K,rfl⟩:∃j,K=j+1:=⟨K - 1,by omega⟩
   have h:=ih (p+1) (acc++[(numX a c).1]) (numX a c).2.1 (numX a c).2.2 K (by omega) (by simp;omega) (QmG c f) (by omega);rw[E3 (s':=.inr (((p+1:Nat):Int),(numX a c).2.1.map eS,(numX a c).2.2,(acc++[(numX a c).1]).map I)),h]
   ·simp only[runT,List.append_assoc,List.singleton_append]
   ·rw[q,jTj (by omega),QlL k c f,jBj,jTj (Qky (by decide) (by rw[jlj];omega)),jTj (i64 (by omega) (by omega)),List.map_append];rfl
 obtain⟨K,d⟩:∃j,n=j+1:=⟨n - 1,by omega⟩
 by_cases g:V=0
 ·rw[jTj g,d];refine JB ?_;rw[o,jFj (by omega)]
 ·rw[jFj g];obtain⟨m,s⟩:∃m,V=m+1:=⟨V - 1,by omega⟩
  have h:=main m 1 [(numX wsx b).1] (numX wsx b).2.1 (numX wsx b).2.2 K (by omega) rfl (QmG b l) (by omega);rw[show Q2 step n (.inl ())=Q2 step (K+1) (.inl ()) by rw[<-d],E3 (s':=.inr (1,(numX wsx b).2.1.map eS,(numX wsx b).2.2,[(numX wsx b).1].map I))]
  ·rw[s];exact h
  ·rw[o,jTj (by omega),QlL k b l,jBj];rfl
def evX (wsx:List Wrd):Option (jSj×List Wrd×List Int×Bool):=match yJ (QiI wsx false).1 with
 | none=>none
 | some k =>
  let r:=runT QiI (kn k) (QiI wsx false).2.1 (QiI wsx false).2.2
  let q:=runT numX (kv k) r.2.1 r.2.2
  some (mkS (QiI wsx false).1,r.1,q.1,if q.2.2=true then false else decide (q.2.1=[]))
theorem len0 (l:List Wrd):(((l.map eS).length:Int)==0)=decide (l=[]):=by
 cases l with
 | nil=>rfl
 | cons a l=>simp;omega
theorem QlZ (b d:Bool)(a:Int)(w:jSj)(ns vs:jVj):(if b=true then some (a,w,ns,vs,(⟨#[]⟩:jSj),false) else some (a,w,ns,vs,⟨#[]⟩,d))=some (a,w,ns,vs,⟨#[]⟩,if b=true then false else d):=by cases b<;>rfl
theorem Qm4 {n:Nat}(l:3000<=n)(i:Int){wsx:List Wrd}(e:OkW wsx):Qjz n i (wsx.map eS)=some (match evX wsx with
  | none=>(0,⟨#[]⟩,[],[],⟨#[]⟩,false)
  | some (w,ns,vs,ok)=>(i,w,ns.map eS,vs.map I,⟨#[]⟩,ok)):=by
 unfold Qjz evX;rw[Qk6 n false e,jBj];dsimp only;cases hk:yJ (QiI wsx false).1 with
 | none =>
  have m:¬(VY (.string (mkS (QiI wsx false).1)) Wr).isSome=true:=fun h=>by obtain⟨k,d⟩:=Qby h;rw[Qjx] at d;exact kE hk k d
  rw[jFj m]
 | some k =>
  obtain⟨p,f,g,q⟩:=QcY (a:=mkS (QiI wsx false).1) (k:=k) (by rw[Qjx];exact qM hk);have o:=Qnv k;rw[jTj p,q,jBj,QmR n l i (QiI wsx false).2.2 (mkS (QiI wsx false).1) k (kv k:Int) f g (QjO false e).1,jBj];have r:OkW (runT QiI (kn k) (QiI wsx false).2.1 (QiI wsx false).2.2).2.1:=QmB (fun b h=>(QjO b h).1) _ _ _ (QjO false e).1;by_cases j:kn k=0
  ·rw[jTj j];dsimp only;rw[QmJ (V:=kv k) l (QjO false e).1 o.2 rfl (fun _ _ _ _=>rfl),jBj,j];by_cases c:kv k=0
   ·rw[jTj c,c];dsimp only[runT];rw[len0];exact QlZ _ _ _ _ _ _
   ·rw[jFj c];dsimp only[runT];rw[len0];exact QlZ _ _ _ _ _ _
  ·rw[jFj j];dsimp only;rw[QmJ (V:=kv k) l r o.2 rfl (fun _ _ _ _=>rfl),jBj];by_cases c:kv k=0
   ·rw[jTj c,c];dsimp only[runT];rw[len0];exact QlZ _ _ _ _ _ _
   ·rw[jFj c];dsimp only;rw[len0];exact QlZ _ _ _ _ _ _
theorem Qlg {b c:Type}{g:b->Option c}:∀{l:List b} {xs:List c},l.mapM g=some xs->xs.length=l.length
 | [],xs,h=>by cases h;rfl
 | a::l,xs,h=>by
  rw[List.mapM_cons] at h;cases ha:g a with
  | none=>rw[ha] at h;cases h
  | some x =>
   rw[ha] at h;cases hl:l.mapM g with
   | none=>rw[hl] at h;cases h
   | some ys =>
    rw[hl] at h;cases h;simp[Qlg hl]
theorem Qm5 (wsx:List Wrd):(∀k ns vs,QjK wsx=some (k,ns,vs)->evX wsx=some (mkS (kw k),ns,vs,true))/\(QjK wsx=none->∀w ns vs ok,evX wsx=some (w,ns,vs,ok)->ok=false):=by
 cases wsx with
 | nil =>
  refine⟨fun k ns vs h=>(by cases h),fun _ w ns vs ok h=>?_⟩;unfold evX at h;rw[show yJ (QiI [] false).1=none by decide] at h;cases h
 | cons w rest =>
  by_cases m:w=[]
  ·subst m;have e:yJ []=none:=by decide
   have q:evX ([]::rest)=none:=by unfold evX;rw[show(QiI ([]::rest) false).1=[] by unfold QiI;dsimp only;rw[jTj rfl],e]
   refine⟨fun k ns vs h=>?_,fun _ w ns vs ok h=>?_⟩
   ·unfold QjK at h;dsimp only at h;rw[e] at h;cases h
   ·rw[q] at h;cases h
  ·have p:QiI (w::rest) false=(w,rest,false):=by unfold QiI;dsimp only;rw[jFj m]
   unfold evX QjK;rw[p];dsimp only;cases hk:yJ w with
   | none=>exact⟨fun k ns vs h=>(by cases h),fun _ w ns vs ok h=>(by cases h)⟩
   | some k =>
    dsimp only;have f:=qM hk;obtain⟨xs,l,c,n⟩|⟨l,c⟩:=Qmv (kn k) rest
    ·rw[n];dsimp only;obtain⟨ys,b1,d,o⟩|⟨b1,d⟩:=QmN (kv k) (rest.drop (kn k))
     ·rw[o];dsimp only;rw[List.length_drop] at b1;by_cases a:rest.length=kn k+kv k
      ·have i:(rest.drop (kn k)).take (kv k)=rest.drop (kn k):=List.take_of_length_le (by simp;omega);have b:(rest.drop (kn k)).drop (kv k)=[]:=List.drop_eq_nil_of_le (by simp;omega);rw[i] at d;rw[jTj a,c,jBj,d,jBj,b];refine⟨fun j ns vs h=>?_,fun h=>(by cases h)⟩;cases h;rw[f];rfl
      ·rw[jFj a];refine⟨fun j ns vs h=>(by cases h),fun _ w' ns vs ok h=>?_⟩;have b:¬(rest.drop (kn k)).drop (kv k)=[]:=fun b=>a (by have:=List.drop_eq_nil_iff.1 b;simp at this;omega);cases h;simp[b];omega
     ·have g:¬rest.length=kn k+kv k\/(rest.drop (kn k)).mapM num=none:=by
       by_cases a:rest.length=kn k+kv k
       ·right;have i:(rest.drop (kn k)).take (kv k)=rest.drop (kn k):=List.take_of_length_le (by simp;omega);rw[i] at b1;cases hm:(rest.drop (kn k)).mapM num with
        | none=>rfl
        | some _=>exact absurd ⟨by simp;omega,by rw[hm];rfl⟩ b1
       ·exact .inl a
      have hp:(if rest.length=kn k+kv k then(((rest.take (kn k)).mapM nmG).bind fun ns=>((rest.drop (kn k)).mapM num).bind fun vs=>some (k,ns,vs)) else none)=none:=by
       obtain h|h:=g
       ·rw[jFj h]
       ·rw[h,c];split<;>rfl
      rw[hp];refine⟨fun j ns vs h=>(by cases h),fun _ w' ns vs ok h=>?_⟩;rw[jTj d] at h;cases h;rfl
    ·have hp:(if rest.length=kn k+kv k then(((rest.take (kn k)).mapM nmG).bind fun ns=>((rest.drop (kn k)).mapM num).bind fun vs=>some (k,ns,vs)) else none)=none:=by
      by_cases a:rest.length=kn k+kv k
      ·rw[jTj a];cases hm:(rest.take (kn k)).mapM nmG with
       | none=>rfl
       | some _=>exact absurd ⟨by omega,by rw[hm];rfl⟩ l
      ·rw[jFj a]
     rw[hp,c];refine⟨fun j ns vs h=>(by cases h),fun _ w' ns vs ok h=>?_⟩;rw[Qkx QmH,jTj rfl] at h;cases h;rfl
theorem QkA {e:Type}{d a:List e}{i:Nat}{x:e}(c:d.drop i=x::a):i<d.length/\d[i]?=some x/\d.drop (i+1)=a:=by
 have b:i<d.length:=by
  obtain h|h:=Nat.lt_or_ge i d.length
  ·exact h
  ·rw[List.drop_eq_nil_of_le h] at c;cases c
 have:=List.drop_eq_getElem_cons b;rw[c] at this;refine⟨b,?_,(List.cons.inj this).2.symm⟩;rw[jej b];exact congrArg some (List.cons.inj this).1.symm
theorem bnd {a b:Type}{q:Option a}{f:a->Option b}{x:a}{r:Option b}(h:q=some x)(e:f x=r):q.bind f=r:=by rw[h];exact e
theorem Qlh {S E:Type}{step:S->Option (S⊕E)}:∀(k:Nat) (s:S) {e:E},Q2 step k s=some e->∀j,Q2 step (k+j) s=some e
 | 0,s,e,h,j=>by cases h
 | k+1,s,e,h,j=>by
  rw[show k+1+j=(k+j)+1 by omega];cases hs:step s with
  | none =>
   change(match step s with|none=>none|some (.inl s')=>Q2 step k s' | some (.inr e)=>some e)=_ at h;rw[hs] at h;cases h
  | some r =>
   cases r with
   | inl s' =>
    rw[E3 hs] at h ⊢;exact Qlh k s' h j
   | inr e' =>
    rw[JB hs] at h ⊢;exact h
def decZ (u:Nat):Wrd:=if u=0 then[] else Lib.decDigits u
theorem QmT {u:Nat}(h:u≠0):decZ u=decZ (u / 10)++[UInt8.ofNat (48+u % 10)]:=by
 unfold decZ;rw[jFj h,Lib.decDigits];by_cases a:u<10
 ·rw[dif_pos a,jTj (by omega),show u % 10=u by omega];rfl
 ·rw[dif_neg a,jFj (by omega)]
theorem Qnh:∀k:Fin 10,Utf8.encode (IntKind.wrap .i32 (48+((k.val:Nat):Int)))=mkS [UInt8.ofNat (48+k.val)]:=by decide
theorem Qm6 {k:Nat}(h:k<10):Utf8.encode (IntKind.wrap .i32 (48+(k:Int)))=mkS [UInt8.ofNat (48+k)]:=Qnh ⟨k,h⟩
theorem QlF (n:Nat)(a:Int):∀(k u:Nat) (t:Wrd),u<10 ^ k->u<1000000000->t.length+k<=100 ->
  Q2 (QiW n a) (k+1) (mkS t,(u:Int))=some (mkS (decZ u++t))
 | 0,u,t,hu,_,_=>by
  have:u=0:=by simpa using hu
  subst this;refine JB ?_;unfold QiW;rfl
 | k+1,u,t,hu,hb,ht=>by
  by_cases e:u=0
  ·subst e;refine JB ?_;unfold QiW;rfl
  ·have h:u % 10<10:=Nat.mod_lt _ (by decide);have i:=QlF n a k (u / 10) (UInt8.ofNat (48+u % 10)::t) (by rw[Nat.pow_succ] at hu;omega) (by omega) (by simp;omega);have c:decZ u++t=decZ (u / 10)++(UInt8.ofNat (48+u % 10)::t):=by rw[QmT e];simp
   rw[c,<-i];refine E3 ?_;have d:(mkS [UInt8.ofNat (48+u % 10)]).size+(mkS t).size<=9223372036854775807:=by rw[QiF,QiF];simp;omega
   have b:mkS [UInt8.ofNat (48+u % 10)]++mkS t=mkS (UInt8.ofNat (48+u % 10)::t):=Qjy _ _;unfold QiW;have f:Int.tmod (u:Int) 10=((u % 10:Nat):Int):=rfl;have g:Int.tdiv (u:Int) 10=((u / 10:Nat):Int):=rfl;dsimp only;rw[jFj (by omega),f,g,jFj (by omega),Qm6 h,jTj (i64 (by omega) (by omega)),jTj d,jTj (i64 (by omega) (by omega)),b]
theorem Qna {n:Nat}(l:3000<=n){a:Int}(g:0<=a)(j:a<1000000000):QjH n a=some (mkS (Lib.itoa a)):=by
 unfold QjH;rw[Qk7 g];by_cases e:a=0
 ·subst e;have c:Lib.decDigits (Int.toNat 0)=[48]:=by show Lib.decDigits 0=_;rw[Lib.decDigits,dif_pos (by decide)];rfl
  rw[jTj rfl,c];rfl
 ·rw[jFj e];obtain⟨k,h⟩:∃k,n=10+k:=⟨n - 10,by omega⟩
  have f:=QlF n a 9 a.toNat [] (by simp;omega) (by omega) (by simp);rw[show(a.toNat:Int)=a by omega] at f;have b:=Qlh _ _ f k;rw[<-h] at b;have i:decZ a.toNat=Lib.decDigits a.toNat:=by unfold decZ;rw[jFj (by omega)]
  rw[List.append_nil,i] at b;have d:Q2 (QiW n a) n (⟨#[]⟩,a)=_:=b;rw[d,jBj,jFj (by omega)]
theorem Qmt {n:Nat}(d:3000<=n){a:Int}(b:0<=a)(c:a<1000000000):Qjm n a=some (mkS (Lib.itoa a)):=by unfold Qjm;rw[Qna d b c];rfl
def sumN:Nat->Wrd->Nat
 | x,[]=>x
 | x,b::l=>sumN ((353*x+b.toNat) % 9999649) l
theorem QlS:∀(l:Wrd) (x:Nat),x<9999649->sumN x l<9999649
 | [],_,h=>h
 | b::l,x,_=>QlS l _ (Nat.mod_lt _ (by decide))
theorem Qk9 {step:Int×Int->Option (Int×Int⊕Int)}(l:Wrd)(j:l.length<=2000)
  (h:∀x i:Int,step (x,i)=if i<((mkS l).size:Int) then(if Qh (353*x) then(WQ (mkS l) i).bind fun b=>if Qh ((353*x)+(IntKind.wrap .i64 b)) then if Qh (i+1) then some (.inl ((Int.tmod ((353*x)+(IntKind.wrap .i64 b)) 9999649),(i+1))) else none else none else none) else some (.inr x)) :
  ∀(a:Wrd) (i x k:Nat),l.drop i=a->i<=l.length->x<9999649->a.length<k->Q2 step k ((x:Int),(i:Int))=some ((sumN x a:Nat):Int)
 | _,_,_,0,_,_,_,hk=>absurd hk (by omega)
 | [],i,x,k+1,hd,hi,_,_=>by
  have g:i=l.length:=by have:=List.drop_eq_nil_iff.1 hd;omega
  refine JB ?_;rw[h,jFj (by rw[QiF];omega)];rfl
 | b::a,i,x,k+1,hd,hi,hx,hk=>by
  obtain⟨d,e,c⟩:=QkB hd;have f:b.toNat<256:=b.toNat_lt;have n:=Qk9 l j h a (i+1) ((353*x+b.toNat) % 9999649) k c d (Nat.mod_lt _ (by decide)) (by simp at hk;omega);rw[E3 (s':=(((((353*x+b.toNat) % 9999649:Nat)):Int),((i+1:Nat):Int)))]
  ·exact n
  ·have m:IntKind.wrap .i64 (b.toNat:Int)=(b.toNat:Int):=Qms (i64 (by omega) (by omega));have hc:(353:Int)*(x:Int)+(b.toNat:Int)=((353*x+b.toNat:Nat):Int):=by simp
   rw[h,jTj (by rw[QiF];omega),jTj (i64 (by omega) (by omega)),Qi8,e,Option.map_some,jBj,m,jTj (i64 (by omega) (by omega)),jTj (i64 (by omega) (by omega)),hc];rfl
def digK:Nat->Nat->Wrd
 | 0,_=>[]
 | k+1,x=>digK k (x / 10)++[UInt8.ofNat (48+x % 10)]
theorem Qmn:∀(k x:Nat),(digK k x).length=k
 | 0,_=>rfl
 | k+1,x=>by unfold digK;simp[Qmn k]
def dig7 (l:Wrd):Wrd:=digK 7 (sumN 1 l)
theorem Qno:∀k:Fin 10,IntKind.wrap .u8 (48+((k.val:Nat):Int))=((48+k.val:Nat):Int):=by decide
theorem Qm8 {k:Nat}(h:k<10):IntKind.wrap .u8 (48+(k:Int))=((48+k:Nat):Int):=Qno ⟨k,h⟩
theorem QkU {n:Nat}(j:3000<=n){l:Wrd}(g:l.length<=2000):Qi5 n (mkS l)=some (mkS (dig7 l)):=by unfold Qi5 dig7;have d:Q2 (Qjh n (mkS l)) n (1,0)=_:=Qk9 l g (fun _ _=>rfl) l 0 1 n rfl (Nat.zero_le _) (by decide) (by omega);have i:=QlS l 1 (by decide);rw[d,jBj];generalize sumN 1 l=x at i ⊢;have e:∀a:Nat,Int.tdiv (a:Int) 10=((a / 10:Nat):Int):=fun _=>rfl;have f:∀a:Nat,Int.tmod (a:Int) 10=((a % 10:Nat):Int):=fun _=>rfl;simp only[e,f];have m:∀a:Nat,a % 10<10:=fun a=>Nat.mod_lt _ (by decide);have b:∀a:Nat,Qh (48+((a % 10:Nat):Int)):=fun a=>i64 (by have:=m a;omega) (by have:=m a;omega);have c:∀a:Nat,a<9999649->Qh ((a / 10:Nat):Int):=fun a h=>i64 (by omega) (by omega);rw[jTj (b _),jTj (c _ (by omega)),jTj (b _),jTj (c _ (by omega)),jTj (b _),jTj (c _ (by omega)),jTj (b _),jTj (c _ (by omega)),jTj (b _),jTj (c _ (by omega)),jTj (b _),jTj (c _ (by omega)),jTj (b _),jTj (c _ (by omega))];simp only[Qm8 (m _)];rfl
theorem Qlm (l:Wrd):(dig7 l).length=7:=Qmn 7 _
theorem Qpg:∀(k x:Nat),QiV (digK k x)
 | 0,_=>fun c hc=>by cases hc
 | k+1,x=>QlO.2 ⟨Qpg k _,QlN (Nat.mod_lt _ (by decide))⟩
theorem Ql1 {d:Type}{p:d->Bool}:∀{l:List d},l.dropWhile p=[]↔∀x,x∈l->p x=true
 | []=>⟨fun _ x b=>(by cases b),fun _=>rfl⟩
 | a::l=>by
  rw[List.dropWhile_cons];by_cases h:p a=true
  ·rw[jTj h,Ql1 (l:=l)];constructor
   ·intro c x b;cases b with
    | head=>exact h
    | tail _ b=>exact c x b
   ·intro c x b;exact c x (jmj _ b)
  ·rw[jFj h];exact⟨fun e=>(by cases e),fun c=>absurd (c a jMj) h⟩
theorem QmK {d:Type}{p:d->Bool}:∀{l r:List d} {a:d},l.dropWhile p=a::r->¬p a=true
 | b::l,r,a,h=>by
  rw[List.dropWhile_cons] at h;by_cases c:p b=true
  ·rw[jTj c] at h;exact QmK h
  ·rw[jFj c] at h;cases h;exact c
theorem trim_nil {l cs:Wrd}:Lib.trimS l cs=[]↔∀x,x∈l->cs.contains x=true:=by
 unfold Lib.trimS Lib.trimLeftS Lib.trimRightS;rw[Ql1];constructor
 ·intro h;cases b:l.reverse.dropWhile (cs.contains ·) with
  | nil=>exact fun x c=>Ql1.1 b x (List.mem_reverse.2 c)
  | cons a r =>
   exact absurd (h a (by rw[b];simp)) (QmK b)
 ·intro h x c;have b:l.reverse.dropWhile (cs.contains ·)=[]:=Ql1.2 fun y d=>h y (List.mem_reverse.1 d);rw[b] at c;cases c
theorem Qmm (b:UInt8):([48,49,50,51,52,53,54,55,56,57]:Wrd).contains b=true↔48<=b.toNat/\b.toNat<=57:=by
 rw[List.contains_iff_mem];constructor
 ·intro h;simp only[List.mem_cons,List.not_mem_nil,or_false] at h;obtain h|h|h|h|h|h|h|h|h|h:=h<;>subst h<;>decide
 ·intro h;have:b.toNat=48\/b.toNat=49\/b.toNat=50\/b.toNat=51\/b.toNat=52\/b.toNat=53\/b.toNat=54\/b.toNat=55\/b.toNat=56\/b.toNat=57:=by omega
  have e:∀c:UInt8,b.toNat=c.toNat->b=c:=fun c hc=>UInt8.toNat_inj.1 hc;obtain h|h|h|h|h|h|h|h|h|h:=this
  ·rw[e 48 h];decide
  ·rw[e 49 h];decide
  ·rw[e 50 h];decide
  ·rw[e 51 h];decide
  ·rw[e 52 h];decide
  ·rw[e 53 h];decide
  ·rw[e 54 h];decide
  ·rw[e 55 h];decide
  ·rw[e 56 h];decide
  ·rw[e 57 h];decide
theorem QmW (n:Nat){l:Wrd}(a:l.length<=2000):∃s,Qjr n (mkS l) ⟨#[48,49,50,51,52,53,54,55,56,57]⟩=some s/\(s.toList==(⟨#[]⟩:jSj).toList)=decide (QiV l):=by
 refine⟨mkS (Lib.trimS l [48,49,50,51,52,53,54,55,56,57]),?_,?_⟩
 ·unfold Qjr;rw[jTj ⟨by rw[QiF];omega,by decide,by decide⟩,Qjx];rfl
 ·rw[show(⟨#[]⟩:jSj)=mkS [] from rfl,Qkr];have:(Lib.trimS l [48,49,50,51,52,53,54,55,56,57]=[])↔QiV l:=trim_nil.trans ⟨fun h c hc=>(Qmm c).1 (h c hc),fun h c hc=>(Qmm c).2 (h c hc)⟩;by_cases h:QiV l
  ·rw[jDj h,jDj (this.2 h)]
  ·rw[jEj h,jEj (mt this.1 h)]
def evOf (m:Int)(t:Tri):Ev:=(m,mkS (kw t.1),t.2.1.map mkS,t.2.2,⟨#[]⟩)
def recX (l:Wrd):Ev⊕Int :=
 if l.length<8 then .inr 25
 else if l[l.length - 8]?=some 35/\QiV (l.drop (l.length - 8+1)) then
  if dig7 (l.take (l.length - 8))=l.drop (l.length - 8+1) then
   match spl 32 (l.take (l.length - 8)) with
   | []=>.inr 25
   | w::wsx=>match num w,QjK wsx with
    | some m,some t=>if chk (evOf m t)=0 then .inl (evOf m t) else .inr 25
    | _,_=>.inr 25
  else .inr 27
 else .inr 25
theorem Qlf {wsx:List Wrd}{t:Tri}(h:QjK wsx=some t):t.2.1.length=kn t.1/\t.2.2.length=kv t.1/\∃w c,wsx=w::c/\w=kw t.1/\c.length=kn t.1+kv t.1/\t.2.1=c.take (kn t.1)/\(c.drop (kn t.1)).mapM num=some t.2.2:=by
 unfold QjK at h;cases wsx with
 | nil=>cases h
 | cons w c =>
  dsimp only at h;cases hk:yJ w with
  | none=>rw[hk] at h;cases h
  | some k =>
   rw[hk] at h;dsimp only at h;split at h;case isFalse=>cases h
   rename_i f;cases ha:(c.take (kn k)).mapM nmG with
   | none=>rw[ha] at h;cases h
   | some a =>
    rw[ha,jBj] at h;cases hb:(c.drop (kn k)).mapM num with
    | none=>rw[hb] at h;cases h
    | some b =>
     rw[hb,jBj] at h;cases h;have i:=Qlg ha;have j:=Qlg hb;have e:∀{l a:List Wrd},l.mapM nmG=some a->a=l:=by
      intro l;induction l with
      | nil=>intro a h;cases h;rfl
      | cons x l ih =>
       intro a h;rw[List.mapM_cons] at h;unfold nmG at h;by_cases g:x=[]
       ·rw[jTj g] at h;cases h
       ·rw[jFj g] at h;cases f:l.mapM (fun w=>if w=[] then none else some w) with
        | none =>
         have d : l.mapM nmG=none:=f;change(some x >>= fun a=>(l.mapM nmG) >>= fun b=>pure (a::b))=some a at h;rw[d] at h;cases h
        | some b =>
         have d : l.mapM nmG=some b:=f;change(some x >>= fun a=>(l.mapM nmG) >>= fun b=>pure (a::b))=some a at h;rw[d] at h;cases h;rw[ih d]
     refine⟨by rw[i];simp;omega,by rw[j];simp;omega,w,c,rfl,qM hk,f,e ha,hb⟩
theorem Qmw (ns:List Wrd):(ns.map mkS).map Sd=ns.map eS:=by rw[List.map_map];rfl
theorem QlY {p:Wrd}(h:p.length<=2000):OkW (spl 32 p):=by
 refine⟨by rw[QjJ];have:p.count 32<=p.length:=List.count_le_length;omega,fun w d=>?_⟩;have:∀{c:UInt8} {l w:Wrd},w∈spl c l->w.length<=l.length:=by
  intro c l w d;obtain⟨a,b,h⟩:=List.append_of_mem d;have e:=QjE c l;rw[h] at e;rw[<-e];clear e h d;have glue_len:∀(L:List Wrd),w∈L->w.length<=(glue c L).length:=by
   intro L;induction L with
   | nil=>intro h;cases h
   | cons x L ih =>
    intro h;cases L with
    | nil =>
     cases h with
     | head=>exact jLj _
     | tail _ h=>cases h
    | cons y L =>
     show w.length<=(x++c::glue c (y::L)).length;cases h with
     | head=>simp
     | tail _ h=>have:=ih h;simp at this ⊢;omega
  exact glue_len _ (by simp)
 have:=this d;omega
theorem Qmq {n:Nat}(u:3000<=n){p:Wrd}(hp:p.length<=2000){w:Wrd}{wsx:List Wrd}(j:spl 32 p=w::wsx){m:Int}{t:Tri}(k:QjK wsx=some t) :
  WX n m (mkS (kw t.1)) (t.2.1.map eS) (t.2.2.map I) ⟨#[]⟩=some (chk (evOf m t))/\WV n m (mkS (kw t.1)) (t.2.1.map eS) (t.2.2.map I) ⟨#[]⟩=some (chk (evOf m t)):=by
 obtain⟨l,o,w0,g,rfl,y,v,i,q⟩:=Qlf k;have r:=Qnv t.1;have ok:=QlY hp;rw[j] at ok;have c:∀s,s∈(evOf m t).2.2.1->s.size<n:=fun s h=>by obtain⟨x,d,rfl⟩:=List.mem_map.1 h;rw[i] at d;have:=ok.2 x (jmj _ (jmj _ (List.mem_of_mem_take d)));rw[QiF];omega
 have e:(evOf m t).2.2.1.length<=6:=by show(t.2.1.map mkS).length<=6;rw[jlj];omega
 have f:(evOf m t).2.2.2.1.length<=8:=by show t.2.2.length<=8;omega
 have a:=QkC (n:=n) (by omega) (evOf m t) e f c;have b:=Qj4 (n:=n) (by omega) (evOf m t) ⟨e,f⟩;unfold evOf at a b;dsimp only at a b;rw[Qmw] at a b;exact⟨a,b⟩
def Qnk (x:Ev⊕Int)(num:Int):Int×jSj×jVj×jVj×jSj×Int:=match x with
 | .inl e=>(e.1,e.2.1,e.2.2.1.map Sd,e.2.2.2.1.map I,e.2.2.2.2,QF (e.1 != num) 11)
 | .inr e=>(0,⟨#[]⟩,[],[],⟨#[]⟩,e)
theorem Qnd {n:Nat}(j:3000<=n){l:Wrd}(L:l.length<=2000)(A:Int):Qi3 n (mkS l) A=some (Qnk (recX l) A):=by
 unfold Qi3 recX;rw[QiF,jTj (i64 (by omega) (by omega)),jTj (i64 (by omega) (by omega))];by_cases z:l.length<8
 ·rw[jTj (by omega),jTj z];rfl
 rw[jFj (by omega),jFj z];obtain⟨q,C⟩:∃q,l.length - 8=q:=⟨_,rfl⟩
 have o:((l.length:Int) - 7) - 1=(q:Int):=by omega
 have E:q+8=l.length:=by omega
 rw[o,C,Qi8];obtain⟨c,hc⟩:∃c,l[q]?=some c:=⟨_,jej (by omega)⟩
 rw[hc,Option.map_some,jBj];by_cases f:c=35;case neg =>
  have g : ¬((c.toNat:Int)=35):=fun e=>f (UInt8.toNat_inj.1 (by show c.toNat=35;omega));rw[jFj g,jFj (fun h=>f (Option.some.inj h.1))];rfl
 subst f;rw[jTj (by decide),jTj (i64 (by omega) (by omega)),show(q:Int)+1=((q+1:Nat):Int) from rfl,QjN l (by omega),jBj];obtain⟨s,G,H⟩:=QmW n (l:=l.drop (q+1)) (by simp;omega);rw[G,jBj,H];by_cases b:QiV (l.drop (q+1));case neg=>rw[jTj (by rw[jEj b];rfl),jFj (fun h=>b h.2)];rfl
 rw[jFj (by rw[jDj b];decide),jTj ⟨rfl,b⟩,QlT l (by omega),jBj,QkU j (by simp;omega),jBj,Qkr];by_cases d:dig7 (l.take q)=l.drop (q+1);case neg=>rw[jTj (by rw[jEj d];rfl),jFj d];rfl
 rw[jFj (by rw[jDj d];decide),jTj d];have hp:(l.take q).length<=2000:=by simp;omega
 generalize l.take q=p at hp ⊢;rw[QmY j hp,jBj];have ok:=QlY hp;cases hs:spl 32 p with
 | nil=>exact absurd hs (QjB 32 p)
 | cons w wsx =>
  have k:el Ww ((w::wsx).map eS) 0=some (mkS w):=Qml (i:=0) rfl;rw[hs] at ok;have y:OkW wsx:=⟨by have:=ok.1;simp at this;omega,fun x F=>ok.2 x (jmj _ F)⟩
  have u:=ok.1;simp only[List.length_cons] at u;rw[k,jBj,Qli j (ok.2 w jMj),jBj,jTj (by simp;omega)];dsimp only;rw[show((w::wsx).map eS).drop (Int.toNat 1)=wsx.map eS from rfl,Qm4 j _ y,jBj];obtain⟨J,K⟩:=Qm5 wsx;cases hnum:num w with
  | none=>rw[jFj (by simp)];rfl
  | some m =>
   rw[jTj (show(some m).isSome=true from rfl),Qmj hnum];cases hpw:QjK wsx with
   | none =>
    cases hev:evX wsx with
    | none=>rw[jFj (by simp)];rfl
    | some r =>
     obtain⟨w',ns,vs,v⟩:=r;have:=K hpw w' ns vs v hev;subst this;rw[jFj (by simp)];rfl
   | some t =>
    have hev:=J t.1 t.2.1 t.2.2 hpw;rw[hev];dsimp only;rw[jTj rfl,(Qmq j hp hs hpw).1,jBj];by_cases a:chk (evOf m t)=0
    ·rw[jTj a,jTj a,Zd,jBj];show _=some (m,mkS (kw t.1),(t.2.1.map mkS).map Sd,t.2.2.map I,(⟨#[]⟩:jSj),_);rw[Qmw];rfl
    ·rw[jFj a,jFj a];rfl
def recP:List Wrd->Nat->List Ev×Nat×Int
 | [],_=>([],0,0)
 | [p],_=>([],0,if p=[] then 0 else 28)
 | p::q::L,k=>match recX p with
  | .inr e=>([],0,e)
  | .inl a=>if a.1=(k:Int)+1 then(a::(recP (q::L) (k+1)).1,p.length+1+(recP (q::L) (k+1)).2.1,(recP (q::L) (k+1)).2.2) else([],0,11)
theorem Qkg {l:Wrd}{e:Int}(h:recX l=.inr e):e=25\/e=27:=by
 unfold recX at h;repeat' split at h
 all_goals first|(cases h;exact .inl rfl)|(cases h;exact .inr rfl)|cases h
theorem QmI (n:Nat)(l:Wrd):Qi2 n (mkS l)=some (Lib.indexByte l 10):=by
 unfold Qi2;have e:(⟨#[10]⟩:jSj)=mkS [10]:=rfl;rw[e,Qkr];by_cases h:[10]=l
 ·rw[jTj (jDj h),<-h];rfl
 ·rw[jFj (by simpa using h)];unfold Qi6;rw[Qjx];rfl
theorem Qni (n:Nat){a b:Wrd}(h:(10:UInt8)∉a)(d:(a++10::b).length<=2000):Qjg n (mkS (a++10::b))=some (mkS a,mkS b,true):=by
 unfold Qjg Qje;have c:a.length+b.length+1<=2000:=by simp at d;omega
 rw[QmI,jBj,QkK b h,jTj (by omega),QlT _ (by simp),jBj,jTj (i64 (by omega) (by omega)),show(a.length:Int)+1=((a.length+1:Nat):Int) from rfl,QjN _ (by simp),jBj];simp
theorem Qm7 (n:Nat){a:Wrd}(h:(10:UInt8)∉a):Qjg n (mkS a)=some (mkS a,⟨#[]⟩,false):=by unfold Qjg Qje;rw[QmI,jBj,Qlj h,jFj (by decide)];rfl
theorem QmO {s p q:Wrd}{L:List Wrd}(h:spl 10 s=p::q::L):∃s',s=p++10::s'/\(10:UInt8)∉p/\spl 10 s'=q::L:=by have c:=QjE 10 s;have a:=fun x b=>Qke 10 s x b;rw[h] at c a;refine⟨glue 10 (q::L),c.symm,a p jMj,Qlb 10 _ (by simp) fun x b=>a x (jmj _ b)⟩
theorem Qnb {s p:Wrd}(h:spl 10 s=[p]):s=p/\(10:UInt8)∉s:=by have a:=QjE 10 s;have b:=Qke 10 s p (by rw[h];simp);rw[h] at a;have:s=p:=a.symm;exact⟨this,by rw[this];exact b⟩
theorem QlW {k:Nat}(h:k<=5000):Wa 88 k:=Qky (by decide) h
def rcvE (a:Nat)(acc:List Ev)(r:List Ev×Nat×Int):(Int×Int×jVj)⊕(Int×jVj) :=
 if r.2.2=0 then .inr (((a+r.2.1:Nat):Int),(acc++r.1).map Zr) else .inl (((a+r.2.1:Nat):Int),r.2.2,(acc++r.1).map Zr)
theorem Qmd {n:Nat}(v:3000<=n)(l:Wrd)(y:l.length<=2000):∀(L:List Wrd) (s:Wrd) (a:Nat) (acc:List Ev) (K:Nat),spl 10 s=L->l.drop a=s->a<=l.length->acc.length<=a->L.length<K ->
  Q2 (QiP n (mkS l)) K ((a:Int),acc.map Zr)=some (rcvE a acc (recP L acc.length))
 | _,_,_,_,0,_,_,_,_,h=>absurd h (by omega)
 | [],s,_,_,_+1,hs,_,_,_,_=>absurd hs (QjB 10 s)
 | [p],s,a,acc,K+1,hs,hd,ha,hc,hK=>by
  obtain⟨rfl,o⟩:=Qnb hs;refine JB ?_;unfold QiP recP rcvE;dsimp only;by_cases hp:s=[]
  ·subst hp;have:a=l.length:=by have:=List.drop_eq_nil_iff.1 hd;omega
   rw[jFj (by rw[QiF];omega),jTj rfl];simp
  ·have A:a<l.length:=by
    obtain h|h:=Nat.lt_or_ge a l.length
    ·exact h
    ·rw[List.drop_eq_nil_of_le h] at hd;exact absurd hd.symm hp
   rw[jTj (by rw[QiF];omega),QjN l ha,hd,jBj,Qm7 n o,jBj,jFj (show ¬(false=true) by decide)];rw[jFj hp,jFj (by decide)];simp
 | p::q::L,s,a,acc,K+1,hs,hd,ha,hc,hK=>by
  obtain⟨s',rfl,o,t⟩:=QmO hs;have g:(p++10::s').length=l.length - a:=by rw[<-hd];simp
  have z:p.length+s'.length+1=l.length - a:=by simp at g;omega
  have f:=Qni n (a:=p) (b:=s') o (by omega);have i:∀r,Qi3 n (mkS p) (((acc.map Zr).length:Int)+1)=some (Qnk r (((acc.map Zr).length:Int)+1))->recX p=r->QiP n (mkS l) ((a:Int),acc.map Zr)=(match r with
    | .inr e=>some (.inr (.inl ((a:Int),e,acc.map Zr)))
    | .inl ev=>if ev.1=(acc.length:Int)+1 then some (.inl (((a+(p.length+1):Nat):Int),(acc++[ev]).map Zr)) else some (.inr (.inl ((a:Int),11,acc.map Zr)))):=by
   intro r k j;unfold QiP;dsimp only;rw[jlj] at k ⊢;rw[jTj (by rw[QiF];omega),QjN l ha,hd,jBj,f,jBj,jTj rfl,jTj (i64 (by omega) (by omega))];cases r with
   | inr e =>
    have x:=Qkg j;have d : Qi3 n (mkS p) ((acc.length:Int)+1)=some (0,⟨#[]⟩,[],[],⟨#[]⟩,e):=k;rw[d,jBj];dsimp only;rw[jFj (by omega)]
   | inl ev =>
    dsimp only;by_cases hev:ev.1=(acc.length:Int)+1
    ·have u:QF (ev.1 != (acc.length:Int)+1) 11=0:=by rw[hev];simp[QF]
     have d : Qi3 n (mkS p) ((acc.length:Int)+1)=some (ev.1,ev.2.1,ev.2.2.1.map Sd,ev.2.2.2.1.map I,ev.2.2.2.2,0):=by rw[k,<-u];rfl
     rw[d,jBj,jTj hev];dsimp only;rw[jTj rfl,jTj (QlW (by omega)),QiF,jTj (i64 (by omega) (by omega)),jTj (i64 (by omega) (by omega)),List.map_append];rfl
    ·have u:QF (ev.1 != (acc.length:Int)+1) 11=11:=by simp[QF,hev]
     have d : Qi3 n (mkS p) ((acc.length:Int)+1)=some (ev.1,ev.2.1,ev.2.2.1.map Sd,ev.2.2.2.1.map I,ev.2.2.2.2,11):=by rw[k,<-u];rfl
     rw[d,jBj,jFj hev];dsimp only;rw[jFj (by decide)]
  have c:=i (recX p) (Qnd v (by omega) _) rfl;unfold recP;cases j:recX p with
  | inr e =>
   rw[j] at c;have x:=Qkg j;refine(JB c).trans ?_;unfold rcvE;dsimp only;rw[jFj (by omega)];simp
  | inl ev =>
   rw[j] at c;dsimp only at c ⊢;by_cases hev:ev.1=(acc.length:Int)+1
   ·rw[jTj hev] at c ⊢;have m : l.drop (a+(p.length+1))=s':=by rw[<-List.drop_drop,hd];simp
    have w:=Qmd v l y (q::L) s' (a+(p.length+1)) (acc++[ev]) K t m (by omega) (by simp;omega) (by simp at hK ⊢;omega);rw[jaj,List.length_singleton] at w;refine(E3 c).trans (w.trans ?_);unfold rcvE;dsimp only;rw[List.append_assoc,List.singleton_append,show a+(p.length+1)+(recP (q::L) (acc.length+1)).2.1=a+(p.length+1+(recP (q::L) (acc.length+1)).2.1) by omega]
   ·rw[jFj hev] at c ⊢;refine(JB c).trans ?_;unfold rcvE;simp
theorem Qld {n:Nat}(d:3000<=n){l:Wrd}(c:l.length<=2000):Qjc n (mkS l)=some ((recP (spl 10 l) 0).1.map Zr,((recP (spl 10 l) 0).2.1:Int),(recP (spl 10 l) 0).2.2):=by
 unfold Qjc;have b:l.count 10<=l.length:=List.count_le_length;have h:Q2 (QiP n (mkS l)) n (0,[])=_:=Qmd d l c (spl 10 l) l 0 [] n rfl rfl (Nat.zero_le _) (jLj _) (by rw[QjJ];omega);rw[jFj (by rw[QiF];omega),h,jBj];unfold rcvE;simp only[List.length_nil,List.nil_append,Nat.zero_add];by_cases a:(recP (spl 10 l) 0).2.2=0
 ·rw[jTj a];dsimp only;rw[a]
 ·rw[jFj a]
abbrev dat (s:jSj):Wrd:=s.data.toList
def QjP (e:Ev):List Wrd:=Lib.itoa e.1::dat e.2.1::(e.2.2.1.map dat++e.2.2.2.1.map Lib.itoa)
def QjR (e:Ev):Wrd:=Lib.join (QjP e) [32]
def recL (e:Ev):Wrd:=QjR e++35::dig7 (QjR e)++[10]
theorem Qne (l:List jSj):(l.map dat).map eS=l.map Sd:=by rw[List.map_map];exact List.map_congr_left fun s _=>by show eS (dat s)=Sd s;unfold eS dat;rw[yD]
theorem QlM (l:List Wrd):(l.map mkS).map dat=l:=by
 rw[List.map_map];conv=>rhs;rw[<-List.map_id l]
 exact List.map_congr_left fun p _=>Qjx p
theorem QlP (c:UInt8):∀L:List Wrd,glue c L=Lib.join L [c]
 | []=>rfl
 | [p]=>(Lib.join_one p [c]).symm
 | p::q::L=>by show p++c::glue c (q::L)=_;rw[QlP c (q::L),Lib.join_cons,Lib.join_cons];simp[Lib.joinTail]
theorem Qnm (n:Nat){a:Int}(h:Qh a):Jk n a=some (mkS (Lib.itoa a)):=by unfold Jk;rw[jTj h];rfl
theorem QmA:∀L:List Wrd,yi (L.map eS)=some (L.map mkS)
 | []=>rfl
 | p::L=>by rw[jCj,yi,show JR (eS p)=some (mkS p) from rfl,QmA L];rfl
theorem Qng (n:Nat)(L:List Wrd)(sep:Wrd)(a:L.length<=1000000)(b:(Lib.join L sep).length<=1000000):Jj n (L.map eS) (mkS sep)=some (mkS (Lib.join L sep)):=by unfold Jj;rw[QmA,jBj];have e:(L.map mkS).map (·.data.toList)=L:=QlM L;unfold QdS;rw[e,Qjx,jTj ⟨by rw[jlj];omega,by omega⟩];rfl
theorem Qnf {n:Nat}(d:3000<=n)(l:List Int)(c:l.length<=60)(h:∀v,v∈l->Qh v):QiX n (l.map I)=some ((l.map Lib.itoa).map eS):=by
 unfold QiX;have:=UV (step:=QiS n (l.map I)) (E:=jVj) (fun out=>out) l (fun v=>[eS (Lib.itoa v)]) (fun _=>jLj _)
  (fun i out x a e=>by have hi:=(jGj a).1;have b:=h x (jgj a);unfold QiS;dsimp only;rw[jTj (ZD a),EM a,jBj,Qnm n b,jBj,jTj (V7 (by decide) (by omega)),jTj (by unfold Qh;omega)];rfl)
  (fun out _=>by unfold QiS;dsimp only;rw[jFj (by simp)]) (k:=n) (by omega)
 rw[this,jBj,wW,List.map_map];rfl
theorem Ql8 (b:Nat):∀(L:List Wrd),(∀w,w∈L->w.length<=b)->(Lib.joinTail [32] L).length<=(b+1)*L.length
 | [],_=>by simp[Lib.joinTail]
 | w::L,h=>by have d:=h w jMj;have a:=Ql8 b L fun x c=>h x (jmj _ c);simp only[Lib.joinTail,jCj,List.flatten_cons,jaj,List.length_cons,List.length_nil] at a ⊢;rw[Nat.mul_add];omega
theorem Qnr (k:Ki):(kw k).length<=7:=by cases k<;>decide
theorem Qll {e:Ev}{k:Ki}(a:Good e k):(QjP e).length<=9/\∀w,w∈QjP e->w.length<=24:=by
 have g:=Qnv k;have c:=Qnr k;refine⟨?_,fun w b=>?_⟩
 ·have:=a.names;have:=a.vals;unfold QjP;simp;omega
 ·unfold QjP at b;obtain h|h:=List.mem_cons.1 b
  ·rw[h];have:=Qmh (n:=e.1) (by have:=a.num;omega) (by have:=a.num;omega);omega
  obtain h|h:=List.mem_cons.1 h
  ·rw[h];show e.2.1.data.toList.length<=24;rw[a.kind];omega
  obtain h|h:=List.mem_append.1 h
  ·obtain⟨s,d,rfl⟩:=List.mem_map.1 h;have:=a.name s d;unfold Us at this;simp only[jAj,decide_eq_true_eq] at this;show s.data.toList.length<=24;rw[dlen];omega
  ·obtain⟨v,f,rfl⟩:=List.mem_map.1 h;have:=a.val v f;have:=Qmh (n:=v) (by omega) (by omega);omega
theorem Qki {e:Ev}{k:Ki}(d:Good e k):(QjR e).length<=300:=by obtain⟨b,a⟩:=Qll d;unfold QjR;unfold QjP at b a ⊢;rw[Lib.join_cons,jaj];have g:=a _ jMj;have c:=Ql8 24 _ fun w f=>a w (jmj _ f);simp only[List.length_cons] at b c;omega
theorem Qkz {a:Type}(f:a->D)(l:List a):UF (l.map f)=true↔l=[]:=by cases l<;>simp[UF]
theorem Qnj {n:Nat}(i:3000<=n){e:Ev}{k:Ki}(b:Good e k):QjI n e.1 e.2.1 (e.2.2.1.map Sd) (e.2.2.2.1.map I) e.2.2.2.2=some (mkS (QjR e)):=by
 have o:=Qnv k;have j:=b.names;have l:=b.vals;have h:=Qng n (QjP e) [32] (by have:=(Qll b).1;omega) (by have:=Qki b;unfold QjR at this;omega);have f:=Qnf i e.2.2.2.1 (by omega) fun v g=>i64 (by have:=b.val v g;omega) (by have:=b.val v g;omega);have m:(QjP e).map eS=.v (.string (mkS (Lib.itoa e.1)))::.v (.string e.2.1)::(e.2.2.1.map Sd++(e.2.2.2.1.map Lib.itoa).map eS):=by unfold QjP;rw[jCj,jCj,List.map_append,Qne];show eS (Lib.itoa e.1)::eS (dat e.2.1)::_=_;rw[show eS (dat e.2.1)=.v (.string e.2.1) by unfold eS dat;rw[yD]];rfl
 have a : Jj n (.v (.string (mkS (Lib.itoa e.1)))::.v (.string e.2.1)::(e.2.2.1.map Sd++(e.2.2.2.1.map Lib.itoa).map eS)) ⟨#[32]⟩=some (mkS (QjR e)):=by rw[<-m];exact h
 unfold QjI;rw[Qnm n (i64 (by have:=b.num;omega) (by have:=b.num;omega)),jBj,jTj (Qky (by decide) (by simp;omega))];by_cases c:e.2.2.1=[]
 ·rw[jTj ((Qkz _ _).2 c),f,jBj,jTj (Qky (by decide) (by simp;omega))];rw[c,jnj,List.nil_append] at a;by_cases d:e.2.2.2.1.map Lib.itoa=[]
  ·rw[jTj ((Qkz _ _).2 d)];rw[d,jnj] at a;rw[a];rfl
  ·rw[jFj (mt (Qkz _ _).1 d),a];rfl
 ·rw[jFj (mt (Qkz _ _).1 c),f,jBj,jTj (Qky (by decide) (by simp;omega)),a];rfl
theorem Qma {n:Nat}(d:3000<=n){e:Ev}{k:Ki}(c:Good e k):Qjv n e.1 e.2.1 (e.2.2.1.map Sd) (e.2.2.2.1.map I) e.2.2.2.2=some (mkS (recL e)):=by have f:=Qki c;have g:=Qlm (QjR e);unfold Qjv;have b:(⟨#[35]⟩:jSj)=mkS [35]:=rfl;have a:(⟨#[10]⟩:jSj)=mkS [10]:=rfl;rw[Qnj d c,jBj,b,a,jTj (by rw[QiF,QiF];simp;omega),QkU d (by omega),jBj,Qjy,Qjy,Qjy,jTj (by rw[QiF,QiF];simp;omega),jTj (by rw[QiF,QiF];simp;omega)];unfold recL;simp
theorem QmC {e:Ev}{k:Ki}(a:Good e k):(recL e).length<=310:=by have b:=Qki a;have c:=Qlm (QjR e);unfold recL;simp;omega
theorem QmE (n:Nat)(e:Int)(f:jSj)(g:jVj)(j:jSj)(l:List jSj)(q:l.length<=60):∀(a:List jSj) (i:Nat) (s:Wrd) (K:Nat),l.drop i=a->i<=l.length->s.length+(Lib.joinTail [32] (a.map dat)).length<=100000->a.length<K ->
  Q2 (Qi1 n e f (l.map Sd) g j) K (mkS s,(i:Int))=some (mkS (s++Lib.joinTail [32] (a.map dat)))
 | _,_,_,0,_,_,_,h=>absurd h (by omega)
 | [],i,s,K+1,hd,hi,_,_=>by
  have p:i=l.length:=by have:=List.drop_eq_nil_iff.1 hd;omega
  refine JB ?_;unfold Qi1;dsimp only;rw[jFj (by rw[jlj];omega)];simp[Lib.joinTail]
 | x::a,i,s,K+1,hd,hi,hs,hK=>by
  obtain⟨d,k,c⟩:=QkA hd;have b:(⟨#[32]⟩:jSj)=mkS [32]:=rfl;have m:Lib.joinTail [32] ((x::a).map dat)=32::dat x++Lib.joinTail [32] (a.map dat):=by simp[Lib.joinTail]
  have o:x=mkS (dat x):=(yD x).symm;have r:x.size=(dat x).length:=(dlen x).symm;rw[m] at hs ⊢;simp only[jaj,List.length_cons] at hs;have t:=QmE n e f g j l q a (i+1) (s++32::dat x) K c d (by simp;omega) (by simp at hK;omega);refine(E3 ?_).trans (t.trans (by simp));unfold Qi1;dsimp only;rw[jTj (ZD k),b,jTj (by rw[QiF,QiF];simp;omega),jH k,jBj,Qjy,jTj (by rw[QiF];simp;omega),jTj (i64 (by omega) (by omega))];rw[show mkS (s++[32])++x=mkS (s++32::dat x) by conv=>lhs;rw[o];rw[Qjy];simp];rfl
theorem QmD {n:Nat}(o:3000<=n)(g:Int)(j:jSj)(k:jVj)(m:jSj)(l:List Int)(t:l.length<=60)(p:∀v,v∈l->0<=v/\v<=999999999):∀(a:List Int) (i:Nat) (s:Wrd) (K:Nat),l.drop i=a->i<=l.length->s.length+(Lib.joinTail [32] (a.map Lib.itoa)).length<=100000->a.length<K ->
  Q2 (Qi0 n g j k (l.map I) m) K (mkS s,(i:Int))=some (mkS (s++Lib.joinTail [32] (a.map Lib.itoa)))
 | _,_,_,0,_,_,_,h=>absurd h (by omega)
 | [],i,s,K+1,hd,hi,_,_=>by
  have r:i=l.length:=by have:=List.drop_eq_nil_iff.1 hd;omega
  refine JB ?_;unfold Qi0;dsimp only;rw[jFj (by rw[jlj];omega)];simp[Lib.joinTail]
 | x::a,i,s,K+1,hd,hi,hs,hK=>by
  obtain⟨d,e,c⟩:=QkA hd;have f:=p x (jgj e);have b:(⟨#[32]⟩:jSj)=mkS [32]:=rfl;have q:Lib.joinTail [32] ((x::a).map Lib.itoa)=32::Lib.itoa x++Lib.joinTail [32] (a.map Lib.itoa):=by simp[Lib.joinTail]
  rw[q] at hs ⊢;simp only[jaj,List.length_cons] at hs;have u:=QmD o g j k m l t p a (i+1) (s++32::Lib.itoa x) K c d (by simp;omega) (by simp at hK;omega);refine(E3 ?_).trans (u.trans (by simp));unfold Qi0;dsimp only;rw[jTj (ZD e),b,jTj (by rw[QiF,QiF];simp;omega),EM e,jBj,Qmt o f.1 (by omega),jBj,Qjy,jTj (by rw[QiF,QiF];simp;omega),jTj (i64 (by omega) (by omega)),Qjy,List.append_assoc];rfl
theorem Qmu {n:Nat}(h:3000<=n){e:Ev}{k:Ki}(b:Good e k):QjG n e.1 e.2.1 (e.2.2.1.map Sd) (e.2.2.2.1.map I) e.2.2.2.2=some (mkS (QjR e)):=by
 have q:=Qnv k;have l:=b.names;have m:=b.vals;have g:=Qki b;have i:=b.num;have f:QjR e=Lib.itoa e.1++[32]++dat e.2.1++Lib.joinTail [32] (e.2.2.1.map dat)++Lib.joinTail [32] (e.2.2.2.1.map Lib.itoa):=by unfold QjR QjP;rw[Lib.join_cons];simp[Lib.joinTail]
 rw[f] at g;simp only[jaj,List.length_cons,List.length_nil] at g;have j:e.2.1=mkS (dat e.2.1):=(yD e.2.1).symm;have d:e.2.1.size=(dat e.2.1).length:=(dlen e.2.1).symm;have c:(⟨#[32]⟩:jSj)=mkS [32]:=rfl;unfold QjG;rw[Qmt h (by omega) (by omega),jBj,c,Qjy,jTj (by rw[QiF,QiF];simp;omega),jTj (by rw[QiF,d];simp;omega)];have a:mkS (Lib.itoa e.1++[32])++e.2.1=mkS (Lib.itoa e.1++[32]++dat e.2.1):=by conv=>lhs;rw[j];rw[Qjy]
 rw[a];have o:Q2 (Qi1 n e.1 e.2.1 (e.2.2.1.map Sd) (e.2.2.2.1.map I) e.2.2.2.2) n (mkS (Lib.itoa e.1++[32]++dat e.2.1),0)=_:=QmE n e.1 e.2.1 (e.2.2.2.1.map I) e.2.2.2.2 e.2.2.1 (by omega) e.2.2.1 0 _ n rfl (Nat.zero_le _) (by simp;omega) (by omega);rw[o,jBj];have p:Q2 (Qi0 n e.1 e.2.1 (e.2.2.1.map Sd) (e.2.2.2.1.map I) e.2.2.2.2) n (mkS (Lib.itoa e.1++[32]++dat e.2.1++Lib.joinTail [32] (e.2.2.1.map dat)),0)=_:=QmD h e.1 e.2.1 (e.2.2.1.map Sd) e.2.2.2.2 e.2.2.2.1 (by omega) b.val e.2.2.2.1 0 _ n rfl (Nat.zero_le _) (by simp;omega) (by omega);rw[p,jBj,<-f]
theorem Qmc:∀(L:List Wrd) (k:Nat),(recP L k).1.length<=L.length
 | [],_=>jLj _
 | [p],_=>Nat.zero_le _
 | p::q::L,k=>by
  unfold recP;cases hx:recX p with
  | inr e=>exact Nat.zero_le _
  | inl ev =>
   dsimp only;by_cases hev:ev.1=(k:Int)+1
   ·rw[jTj hev];have:=Qmc (q::L) (k+1);simp at this ⊢;omega
   ·rw[jFj hev];exact Nat.zero_le _
abbrev Qj5 (l:Wrd):List Ev:=(recP (spl 10 l) 0).1
abbrev QkS (l:Wrd):Int:=(recP (spl 10 l) 0).2.2
theorem Ql0 {l:Wrd}(c:l.length<=2000):(Qj5 l).length<=2001:=by have a:=Qmc (spl 10 l) 0;have b:l.count 10<=l.length:=List.count_le_length;rw[QjJ] at a;show(recP (spl 10 l) 0).1.length<=2001;omega
theorem QmU {n:Nat}(f:3000<=n){l:Wrd}(d:l.length<=2000){e:Ev}(g:Yf e):Qjw n (mkS l) e.1 e.2.1 (e.2.2.1.map Sd) (e.2.2.2.1.map I) e.2.2.2.2 =
  some (if Qt [QkS l,chk e,QF (e.1 != ((Qj5 l).length:Int)+1) 11]=0 then(mkS (l++recL e),0) else(⟨#[]⟩,Qt [QkS l,chk e,QF (e.1 != ((Qj5 l).length:Int)+1) 11])):=by
 have a:=Ql0 d;have b:(recP (spl 10 l) 0).1.length<=2001:=a;unfold Qjw;rw[Qld f d,jBj,V3 (by omega) e g,jBj];dsimp only;rw[jlj,jTj (i64 (by omega) (by omega)),Zd,jBj,wX (by omega),jBj];by_cases h:Qt [QkS l,chk e,QF (e.1 != ((Qj5 l).length:Int)+1) 11]=0
 ·have hc:=Zv h (chk e) (by simp);obtain⟨k,c⟩:=qn hc;have i:=QmC c;rw[jTj h,jTj h,Qma f c,jBj,jTj (by rw[QiF,QiF];omega),Qjy,jFj (by rw[QiF];simp;omega)]
 ·rw[jFj h,jFj h]
theorem Qpm (s:jSj):∀(m p:Nat),JU s m p=true->∀i,p<=i->i<p+m->ER i (Yy s i)
 | 0,p,_,i,h1,h2=>absurd h2 (by omega)
 | m+1,p,h,i,h1,h2=>by
  unfold JU at h;simp only[jAj,decide_eq_true_eq] at h;by_cases hi:i=p
  ·subst hi;exact h.1
  ·exact Qpm s m (p+1) h.2 i (by omega) (by omega)
theorem QpF {s:jSj}(h:Us s=true):∀c,c∈dat s->48<=c.toNat:=fun c hc=>by
 unfold Us at h;simp only[jAj,decide_eq_true_eq] at h;obtain⟨i,hi,e⟩:=List.mem_iff_getElem.1 hc;have d:(dat s)[i]?=some c:=by rw[jej hi,e]
 have a:=QlR d;rw[show mkS (dat s)=s from yD s] at a;have b:=Qpm s s.size 0 h.2 i (Nat.zero_le _) (by rw[<-dlen s];show i<0+(dat s).length;omega);rw[a] at b;unfold ER at b;omega
theorem Qqc (k:Ki):∀c,c∈kw k->48<=c.toNat:=by cases k<;>decide
theorem Qow {e:Ev}{k:Ki}(a:Good e k):∀w,w∈QjP e->∀c,c∈w->48<=c.toNat:=fun w b c hc=>by
 unfold QjP at b;obtain h|h:=List.mem_cons.1 b
 ·rw[h] at hc;exact(QpB (by have:=a.num;omega) c hc).1
 obtain h|h:=List.mem_cons.1 h
 ·rw[h,show dat e.2.1=kw k from a.kind] at hc;exact Qqc k c hc
 obtain h|h:=List.mem_append.1 h
 ·obtain⟨s,d,rfl⟩:=List.mem_map.1 h;exact QpF (a.name s d) c hc
 ·obtain⟨v,f,rfl⟩:=List.mem_map.1 h;exact(QpB (a.val v f).1 c hc).1
theorem QpY {e:Ev}{k:Ki}(a:Good e k):spl 32 (QjR e)=QjP e:=by unfold QjR;rw[<-QlP];exact Qlb 32 _ (by unfold QjP;simp) fun w b hc=>absurd (Qow a w b 32 hc) (by decide)
theorem QpG:∀(L:List Wrd),(∀w,w∈L->∀c,c∈w->48<=c.toNat)->∀c,c∈Lib.join L [32]->c=32\/48<=c.toNat
 | [],_,c,hc=>by cases hc
 | w::L,h,c,hc=>by
  rw[Lib.join_cons] at hc;obtain hc|hc:=List.mem_append.1 hc
  ·exact .inr (h w jMj c hc)
  ·have b:∀(L:List Wrd),(∀w,w∈L->∀c,c∈w->48<=c.toNat)->c∈Lib.joinTail [32] L->c=32\/48<=c.toNat:=by
    intro L;induction L with
    | nil=>intro _ hc;simp[Lib.joinTail] at hc
    | cons w L ih =>
     intro h hc;rw[show Lib.joinTail [32] (w::L)=32::w++Lib.joinTail [32] L by simp[Lib.joinTail]] at hc;obtain hc|hc:=List.mem_append.1 hc
     ·obtain hc|hc:=List.mem_cons.1 hc
      ·exact .inl hc
      ·exact .inr (h w jMj c hc)
     ·exact ih (fun w a=>h w (jmj _ a)) hc
   exact b L (fun w a=>h w (jmj _ a)) hc
def QnK (e:Ev):Wrd:=QjR e++35::dig7 (QjR e)
theorem Qn1 (e:Ev):recL e=QnK e++[10]:=rfl
theorem Qqb (e:Ev):(QnK e).length=(QjR e).length+8:=by unfold QnK;simp[Qlm]
theorem Qo3 {e:Ev}{k:Ki}(a:Good e k):(10:UInt8)∉QnK e:=fun h=>by
 unfold QnK at h;obtain h|h:=List.mem_append.1 h
 ·obtain h|h:=QpG _ (Qow a) 10 h
  ·cases h
  ·exact absurd h (by decide)
 ·obtain h|h:=List.mem_cons.1 h
  ·cases h
  ·exact absurd (Qpg 7 _ 10 h).1 (by decide)
theorem Qqn {l:List jSj}(h:∀s,s∈l->Us s=true):(l.map dat).mapM nmG=some (l.map dat):=by
 induction l with
 | nil=>rfl
 | cons s l ih =>
  have a:=h s jMj;have b:¬dat s=[]:=fun e=>by unfold Us at a;simp only[jAj,decide_eq_true_eq] at a;exact a.1.1 (by rw[<-dlen s];show(dat s).length=0;rw[e];rfl)
  rw[jCj,List.mapM_cons,ih fun s a=>h s (jmj _ a),show nmG (dat s)=some (dat s) by unfold nmG;rw[jFj b]];rfl
theorem Qp9 {l:List Int}(h:∀v,v∈l->0<=v/\v<=999999999):(l.map Lib.itoa).mapM num=some l:=by
 induction l with
 | nil=>rfl
 | cons v l ih =>
  have b:=h v jMj;rw[jCj,List.mapM_cons,ih fun s a=>h s (jmj _ a),Qpz b.1 (by omega)];rfl
theorem Qpc {e:Ev}{k:Ki}(a:Good e k):QjK (QjP e).tail=some (k,e.2.2.1.map dat,e.2.2.2.1):=by unfold QjP;show QjK (dat e.2.1::(e.2.2.1.map dat++e.2.2.2.1.map Lib.itoa))=_;unfold QjK;dsimp only;rw[show yJ (dat e.2.1)=some k by rw[show dat e.2.1=kw k from a.kind];exact E7 k];dsimp only;have b:=a.names;have c:=a.vals;rw[jTj (by simp;omega),List.take_left' (by simp;exact b),List.drop_left' (by simp;exact b),Qqn a.name,jBj,Qp9 a.val,jBj]
theorem Qpr {e:Ev}{k:Ki}(a:Good e k):chk e=0:=by unfold chk;rw[jTj (YC.2 a.num),a.kind,E7];dsimp only;rw[jTj ⟨a.names,a.vals⟩,jTj (List.all_eq_true.2 a.name),jTj (show e.2.2.2.1.all wq=true from List.all_eq_true.2 fun v b=>jDj (YC.2 (a.val v b))),jTj a.text]
theorem Qpo {e:Ev}{k:Ki}(c:Good e k):evOf e.1 (k,e.2.2.1.map dat,e.2.2.2.1)=e:=by
 obtain⟨m,d,ns,vs,a⟩:=e;have f:d=mkS (kw k):=by rw[<-yD d];exact congrArg mkS c.kind
 have g:a=⟨#[]⟩:=by have h:a.size=0:=c.text;have b:a.data.toList=[]:=List.eq_nil_of_length_eq_zero (by rw[dlen];exact h);rw[<-yD a,b];rfl
 unfold evOf;dsimp only;have b:(ns.map dat).map mkS=ns:=by
  rw[List.map_map];conv=>rhs;rw[<-List.map_id ns]
  exact List.map_congr_left fun s _=>yD s
 rw[f,g,b]
theorem Qpw {e:Ev}{k:Ki}(a:Good e k):recX (QnK e)=.inl e:=by
 have g:=Qqb e;have b:(QnK e).length - 8=(QjR e).length:=by omega
 have d:(QnK e).take ((QnK e).length - 8)=QjR e:=by rw[b];unfold QnK;simp
 have f:(QnK e)[(QnK e).length - 8]?=some 35:=by rw[b];unfold QnK;simp
 have c:(QnK e).drop ((QnK e).length - 8+1)=dig7 (QjR e):=by rw[b];unfold QnK;simp
 have h:=a.num;unfold recX;rw[jFj (by omega),f,c,d,jTj ⟨rfl,Qpg 7 _⟩,jTj rfl,QpY a];have hp:=Qpc a;unfold QjP at hp ⊢;dsimp only;rw[Qpz (by omega) (by omega)];rw[show QjK (dat e.2.1::(e.2.2.1.map dat++e.2.2.2.1.map Lib.itoa))=_ from hp];dsimp only;rw[Qpo a,jTj (Qpr a)]
def AllG (l:List Ev):Prop:=∀e,e∈l->∃k,Good e k
def Numd:Nat->List Ev->Prop
 | _,[]=>True
 | k,e::l=>e.1=(k:Int)+1/\Numd (k+1) l
theorem Qof:∀(l:List Ev) (t:Wrd),AllG l->spl 10 (l.flatMap recL++t)=l.map QnK++spl 10 t
 | [],_,_=>rfl
 | e::l,t,h=>by obtain⟨k,a⟩:=h e jMj;rw[List.flatMap_cons,Qn1,List.append_assoc,List.append_assoc];show spl 10 (QnK e++10::(l.flatMap recL++t))=_;rw[QlU 10 _ _ (Qo3 a),Qof l t fun x b=>h x (jmj _ b)];rfl
theorem QoV:∀(l:List Ev) (R:List Wrd) (k:Nat),AllG l->Numd k l->R≠[]->recP (l.map QnK++R) k=(l++(recP R (k+l.length)).1,(l.flatMap recL).length+(recP R (k+l.length)).2.1,(recP R (k+l.length)).2.2)
 | [],R,k,_,_,_=>by simp
 | e::l,R,k,hg,hn,hR=>by
  obtain⟨j,c⟩:=hg e jMj;have f:=QoV l R (k+1) (fun x d=>hg x (jmj _ d)) hn.2 hR;obtain⟨q,L,a⟩:∃q L,l.map QnK++R=q::L:=by
   cases h:l.map QnK++R with
   | nil=>exact absurd (List.append_eq_nil_iff.1 h).2 hR
   | cons q L=>exact⟨q,L,rfl⟩
  have b:recP (QnK e::q::L) k=(e::(recP (q::L) (k+1)).1,(QnK e).length+1+(recP (q::L) (k+1)).2.1,(recP (q::L) (k+1)).2.2):=by
   conv=>lhs;unfold recP
   rw[Qpw c];dsimp only;rw[jTj hn.1]
  rw[jCj,List.cons_append,a,b,<-a,f,show k+1+l.length=k+(e::l).length by simp;omega];simp only[List.cons_append,List.flatMap_cons,jaj,Qn1,List.length_singleton,jPj,true_and,and_true];omega
theorem Qpb {l:List Ev}(a:AllG l)(b:Numd 0 l){t:Wrd}(c:(10:UInt8)∉t):recP (spl 10 (l.flatMap recL++t)) 0=(l,(l.flatMap recL).length,if t=[] then 0 else 28):=by rw[Qof l t a,Qla 10 t c,QoV l [t] 0 a b (by simp)];simp[recP]
def Qoa:Nat->List Ev->List Nat
 | _,[]=>[]
 | s,e::l=>(s+(recL e).length)::Qoa (s+(recL e).length) l
theorem QpC:∀(l:List Ev) (s x:Nat),x∈Qoa s l->s<=x
 | [],_,x,h=>by cases h
 | e::l,s,x,h=>by
  obtain h|h:=List.mem_cons.1 h
  ·omega
  ·have:=QpC l _ x h;omega
theorem Qn5:∀(l:List Ev) (s:Nat),(Qoa s l).length=l.length
 | [],_=>rfl
 | e::l,s=>by show(Qoa _ l).length+1=_;rw[Qn5 l];rfl
theorem Qpe:∀(l:List Ev) (s i:Nat),i<l.length->(Qoa s l)[i]?=some (s+((l.take (i+1)).flatMap recL).length)
 | [],_,_,h=>by cases h
 | e::l,s,0,_=>by simp[Qoa]
 | e::l,s,i+1,h=>by have a:=Qpe l (s+(recL e).length) i (by simpa using h);show(Qoa _ l)[i]?=_;rw[a,List.take_succ_cons,List.flatMap_cons,jaj,Nat.add_assoc]
theorem QpV:∀(l:List Ev) (s size:Nat),AllG l->s<=size->∃t:Wrd,(l.flatMap recL).take (size - s)=(l.take ((Qoa s l).countP (·<=size))).flatMap recL++t/\(10:UInt8)∉t/\(Qoa s l).countP (·<=size)<=l.length
 | [],s,size,_,_=>⟨[],by simp[Qoa]⟩
 | e::l,s,size,hg,hs=>by
  obtain⟨k,d⟩:=hg e jMj;by_cases h:s+(recL e).length<=size
  ·obtain⟨t,b,c,g⟩:=QpV l (s+(recL e).length) size (fun x a=>hg x (jmj _ a)) h;have hc:(Qoa s (e::l)).countP (·<=size)=(Qoa (s+(recL e).length) l).countP (·<=size)+1:=by show((s+(recL e).length)::Qoa (s+(recL e).length) l).countP _=_;rw[List.countP_cons_of_pos (by simpa using h)]
   refine⟨t,?_,c,by rw[hc];simp;omega⟩;rw[hc,List.take_succ_cons,List.flatMap_cons,List.flatMap_cons,List.append_assoc,<-b,List.take_append,List.take_of_length_le (by omega),show size - s - (recL e).length=size - (s+(recL e).length) by omega]
  ·have hc:(Qoa s (e::l)).countP (·<=size)=0:=by
    rw[List.countP_eq_zero];intro x a;obtain a|a:=List.mem_cons.1 a
    ·simp;omega
    ·have:=QpC _ _ _ a;simp;omega
   refine⟨(QnK e).take (size - s),?_,fun f=>Qo3 d (List.mem_of_mem_take f),by rw[hc];exact Nat.zero_le _⟩;have i:(recL e).length=(QnK e).length+1:=by rw[Qn1];simp
   rw[hc,List.take_zero,List.flatMap_nil,List.nil_append,List.flatMap_cons,Qn1,List.take_append_of_le_length (by simp;omega),List.take_append_of_le_length (by omega)]
theorem Qp6 {x y b:Nat}(i:x<9999649)(f:y<9999649)(h:(353*x+b) % 9999649=(353*y+b) % 9999649):x=y:=by
 have c:∀{x y:Nat},x<=y->y<9999649->(353*x+b) % 9999649=(353*y+b) % 9999649->x=y:=by
  intro x y j f h;have a:9999649 ∣ 353*(y - x):=by have d:=Nat.sub_mod_eq_zero_of_mod_eq h.symm;rw[show 353*y+b - (353*x+b)=353*(y - x) by omega] at d;exact Nat.dvd_of_mod_eq_zero d
  have hc:Nat.Coprime 9999649 353:=by decide
  have e:9999649 ∣ y - x:=hc.dvd_of_dvd_mul_left a;clear a h;have g:y - x<9999649:=by omega
  have d:y - x=0:=Nat.eq_zero_of_dvd_of_lt e g;clear e;omega
 obtain a|a:=Nat.le_total x y
 ·exact c a f h
 ·exact(c a i h.symm).symm
theorem QpM:∀(l:Wrd) (x y:Nat),x<9999649->y<9999649->sumN x l=sumN y l->x=y
 | [],_,_,_,_,h=>h
 | b::l,x,y,hx,hy,h=>Qp6 hx hy (QpM l _ _ (Nat.mod_lt _ (by decide)) (Nat.mod_lt _ (by decide)) h)
theorem QpL:∀(l:Wrd) (x j:Nat) (c d:UInt8),x<9999649->l[j]?=some d->sumN x (l.set j c)=sumN x l->c=d
 | [],_,_,_,_,_,h,_=>by simp at h
 | b::l,x,0,c,d,hx,h,hs=>by
  have a:b=d:=by simpa using h
  subst a;have e:=QpM l _ _ (Nat.mod_lt _ (by decide)) (Nat.mod_lt _ (by decide)) (show sumN ((353*x+c.toNat) % 9999649) l=sumN ((353*x+b.toNat) % 9999649) l from hs);have hc:=c.toNat_lt;have a:=b.toNat_lt;refine UInt8.toNat_inj.1 ?_;omega
 | b::l,x,j+1,c,d,hx,h,hs=>QpL l _ j c d (Nat.mod_lt _ (by decide)) (by simpa using h) hs
theorem Qpf:∀(k x:Nat),x<10 ^ k->valN 0 (digK k x)=x
 | 0,x,h=>by
  have:x=0:=by simpa using h
  subst this;rfl
 | k+1,x,h=>by unfold digK;rw[QlE,Qpf k (x / 10) (by rw[Nat.pow_succ] at h;omega),Qkd (Nat.mod_lt _ (by decide))];omega
theorem Qqf {a b:Wrd}(h:dig7 a=dig7 b):sumN 1 a=sumN 1 b:=by have c:=Qpf 7 (sumN 1 a) (by have:=QlS a 1 (by decide);omega);have d:=Qpf 7 (sumN 1 b) (by have:=QlS b 1 (by decide);omega);unfold dig7 at h;rw[h,d] at c;exact c.symm
theorem Qpa {a b:Wrd}{c:UInt8}(j:b.length=7)(h:¬(c=35/\dig7 a=b)):∃err,recX (a++c::b)=.inr err:=by
 have d:(a++c::b).length - 8=a.length:=by simp;omega
 unfold recX;rw[jFj (by simp;omega),d];have i:(a++c::b)[a.length]?=some c:=by simp
 have e:(a++c::b).drop (a.length+1)=b:=by simp
 have g:(a++c::b).take a.length=a:=by simp
 rw[i,e,g];by_cases hc:some c=some 35/\QiV b
 ·rw[jTj hc,jFj (fun f=>h ⟨Option.some.inj hc.1,f⟩)];exact⟨_,rfl⟩
 ·rw[jFj hc];exact⟨_,rfl⟩
theorem Qp7 {e:Ev}{j:Nat}{c d:UInt8}(b:(QnK e)[j]?=some d)(hc:c≠d):∃err,recX ((QnK e).set j c)=.inr err:=by
 have f:=Qlm (QjR e);unfold QnK at b ⊢;by_cases k:j<(QjR e).length
 ·rw[List.getElem?_append_left k] at b;rw[List.set_append_left _ _ k];exact Qpa f fun h=>hc (QpL _ 1 j c d (by decide) b (Qqf h.2))
 ·rw[List.getElem?_append_right (by omega)] at b;rw[List.set_append_right _ _ (by omega)];by_cases m:j - (QjR e).length=0
  ·rw[m] at b ⊢;have a : (35:UInt8)=d:=by simpa using b
   exact Qpa f fun h=>hc (by rw[h.1,a])
  ·obtain⟨i,hi⟩:∃i,j - (QjR e).length=i+1:=⟨j - (QjR e).length - 1,by omega⟩
   rw[hi] at b ⊢;have a : (dig7 (QjR e))[i]?=some d:=by simpa using b
   refine Qpa (by simpa using f) fun h=>hc ?_;have:=congrArg (fun l:Wrd=>l[i]?) h.2;simp only[a] at this;obtain⟨g,_⟩:=jGj a;rw[List.getElem?_set_self g] at this;exact(Option.some.inj this).symm
theorem Qqa:∀(l:List Ev) (j:Nat),j<(l.flatMap recL).length->∃pre e post i,l=pre++e::post/\j=(pre.flatMap recL).length+i/\i<(recL e).length
 | [],j,h=>by simp at h
 | e::l,j,h=>by
  by_cases c:j<(recL e).length
  ·exact⟨[],e,l,j,rfl,by simp,c⟩
  ·rw[List.flatMap_cons,jaj] at h;obtain⟨pre,x,post,i,a,d,b⟩:=Qqa l (j - (recL e).length) (by omega);refine⟨e::pre,x,post,i,by rw[a];rfl,?_,b⟩;rw[List.flatMap_cons,jaj];omega
theorem QoW:∀(a:List Ev) (b:List Ev) (k:Nat),Numd k (a++b)↔Numd k a/\Numd (k+a.length) b
 | [],b,k=>by simp[Numd]
 | e::a,b,k=>by have h:=QoW a b (k+1);rw[show k+1+a.length=k+(e::a).length by simp;omega] at h;show(e.1=(k:Int)+1/\Numd (k+1) (a++b))↔(e.1=(k:Int)+1/\Numd (k+1) a)/\_;rw[h,and_assoc]
theorem Qo5 {l:List Ev}(t:AllG l)(C:Numd 0 l){j:Nat}{c d:UInt8}(a:(l.flatMap recL)[j]?=some d)(m:d≠10)(hc:c≠d)(g:c≠10):∃r,recP (spl 10 ((l.flatMap recL).set j c)) 0=r/\r.2.2≠0/\r.2.1<(l.flatMap recL).length:=by
 obtain⟨y,_⟩:=jGj a;obtain⟨pre,e,post,i,rfl,rfl,hi⟩:=Qqa l j y;obtain⟨k,z⟩:=t e (by simp);have n:AllG pre:=fun x u=>t x (by simp[u]);have w:AllG post:=fun x u=>t x (by simp[u]);have s:(pre++e::post).flatMap recL=pre.flatMap recL++(recL e++post.flatMap recL):=by simp
 rw[s] at a ⊢;rw[List.getElem?_append_right (by omega),Nat.add_sub_cancel_left,List.getElem?_append_left hi] at a;have o:i<(QnK e).length:=by
  rw[Qn1] at a hi;obtain h|h:=Nat.lt_or_ge i (QnK e).length
  ·exact h
  ·rw[List.getElem?_append_right h] at a;simp only[jaj,List.length_singleton] at hi;rw[show i - (QnK e).length=0 by omega] at a;exact absurd (by simpa using a:(10:UInt8)=d).symm m
 rw[Qn1,List.getElem?_append_left o] at a;obtain⟨err,b⟩:=Qp7 a hc;have E:=Qkg b;have p:(pre.flatMap recL++(recL e++post.flatMap recL)).set ((pre.flatMap recL).length+i) c=pre.flatMap recL++((QnK e).set i c++10::post.flatMap recL):=by rw[List.set_append_right _ _ (by omega),Nat.add_sub_cancel_left,List.set_append_left _ _ hi,Qn1,List.set_append_left _ _ o,List.append_assoc];rfl
 have f:(10:UInt8)∉(QnK e).set i c:=fun A=>by
  obtain h|h:=List.mem_or_eq_of_mem_set A
  ·exact Qo3 z h
  ·exact g h.symm
 rw[p,Qof pre _ n,QlU 10 _ _ f,QoV pre _ 0 n ((QoW pre _ 0).1 C).1 (by simp)];refine⟨_,rfl,?_⟩;obtain⟨q,L,v⟩:∃q L,spl 10 (post.flatMap recL)=q::L:=by
  cases h:spl 10 (post.flatMap recL) with
  | nil=>exact absurd h (QjB 10 _)
  | cons q L=>exact⟨q,L,rfl⟩
 rw[v];unfold recP;rw[b];dsimp only;refine⟨by omega,?_⟩;rw[Qn1];simp only[jaj,List.length_singleton];omega
theorem QpA {pre post:List Ev}{e x:Ev}(b:AllG (pre++e::x::post))(m:Numd 0 (pre++e::x::post)):(recP (spl 10 (pre.flatMap recL++(x::post).flatMap recL)) 0).2.2=11:=by
 have a:AllG pre:=fun y f=>b y (by simp[f]);obtain⟨k,l⟩:=b x (by simp);obtain⟨i,g⟩:=(QoW pre _ 0).1 m;have c:AllG (x::post):=fun y f=>b y (by
  obtain h|h:=List.mem_cons.1 f
  ·simp[h]
  ·simp[h])
 have d:spl 10 (pre.flatMap recL++(x::post).flatMap recL)=pre.map QnK++((x::post).map QnK++[[]]):=by rw[Qof pre _ a];have:=Qof (x::post) [] c;rw[List.append_nil] at this;rw[this];rfl
 rw[d,QoV pre _ 0 a i (by simp)];obtain⟨q,L,j⟩:∃q L,post.map QnK++[[]]=q::L:=by
  cases h:post.map QnK++[[]] with
  | nil=>simp at h
  | cons q L=>exact⟨q,L,rfl⟩
 rw[jCj,List.cons_append,j];unfold recP;rw[Qpw l];dsimp only;have n:e.1=((0+pre.length:Nat):Int)+1/\x.1=((0+pre.length+1:Nat):Int)+1:=⟨g.1,g.2.1⟩
 rw[jFj (by omega)]
def Qpp (b:Bool):Wrd:=if b=true then[102,105,108,108,101,100] else[101,109,112,116,121]
def Qp3 (b:Bool):Wrd:=if b=true then[116,114,105,112,112,101,100] else[114,101,97,100,121]
def Qph (r:Reg):List Wrd:=[Qpp r.filled,Qp3 r.tripped,Lib.itoa r.level]
def QpW (r:Reg):List Wrd:=[Lib.itoa (wz r)]
def Qpk (r:Reg):List Wrd:=(YQ r.mirrors).map dat
def Qpj (r:Reg):List Wrd:=[Lib.itoa r.light,Lib.itoa r.heat,Lib.itoa r.money]
def opOf (o:Off):List Wrd:=if o.2.2.2.2.2.2=true then[] else[dat o.1,Lib.itoa (Ws o)]
def Qop (r:Reg):List Wrd:=r.offers.flatMap opOf
def QpX (r:Reg)(a:jSj):List Wrd:=[Lib.itoa (mAt r.mirrors a).2.2.2.1]
def Qpi (r:Reg)(a:jSj):List Wrd:=[Lib.itoa (cntM a r.mirrors).1,Lib.itoa (cntM a r.mirrors).2]
theorem Qqj (n:Nat)(x:jSj)(d e:jVj){c:Nat}{r:Reg}(b:Inv c r):QnR n x d e r.tick r.level r.filled r.tripped r.light r.heat r.money (r.sectors.map Sd) (r.mirrors.map QY) (r.offers.map Zj)=some ((Qph r).map eS):=by unfold QnR Qn9 Qph Qpp Qp3;have h:=Qnm n (a:=r.level) (i64 (by have:=b.level;omega) (by have:=b.level;omega));by_cases f:r.filled=true<;>by_cases g:r.tripped=true<;>simp only[f,g,if_true,Bool.false_eq_true,if_false,jBj,h]<;>rfl
theorem Qpx {c:Nat}{r:Reg}(a:Inv c r)(hc:c<=40):0<=wz r/\wz r<=4000000000:=by have h:=kl a.level a.mirs;have b:=a.lenM;unfold wz;omega
theorem Qqv {n:Nat}(f:3000<=n)(x:jSj)(b d:jVj){c:Nat}{r:Reg}(a:Inv c r)(hc:c<=40):QnQ n x b d r.tick r.level r.filled r.tripped r.light r.heat r.money (r.sectors.map Sd) (r.mirrors.map QY) (r.offers.map Zj)=some ((QpW r).map eS):=by have e:=Qpx a hc;unfold QnQ QpW;rw[Qbc _ _ _ _ _ _ _ _ _ _ _ a.level _ a.mirs (by have:=a.lenM;omega) (by omega),jBj];show(Jk n (wz r)).bind _=_;rw[Qnm n (i64 (by omega) (by omega))];rfl
theorem Qp0 {n:Nat}(g j:jVj)(o p:Int)(r t:Bool)(u v w:Int)(d f:jVj)(ms:List Mir)(z:ms.length<=4000)(y:ms.length<n) :
  Q2 (Qnw n g j o p r t u v w d (ms.map QY) f) n (.inl 0)=some (if ms.filter isA=[] then .inl () else .inr ((ms.filter isA).map QY)):=by
 have q:=ZK (step:=Qnw n g j o p r t u v w d (ms.map QY) f) (E:=Unit⊕jVj) (fun(s:List Mir) (m:Mir)=>.inl (if isA m=true then s++[m] else s)) (fun s=>if s=[] then .inl () else .inr (s.map QY))
  (fun i s=>if s=[] then .inl (i:Int) else .inr ((i:Int),s.map QY)) ms (fun i s=>s.length<=i)
  (fun i s m c A=>by
   have hi:=(jGj c).1;refine⟨?_,by
    show(if isA m=true then s++[m] else s).length<=i+1;split
    ·rw[jaj,List.length_singleton];omega
    ·omega⟩
   by_cases b:s=[]
   ·subst b;rw[jTj rfl];unfold Qnw;dsimp only;rw[jTj (ZD c),jTj ⟨Int.natCast_nonneg i,ZD c⟩,Q4 unM c,jBj];unfold isA;by_cases a:m.2.2.2.2.2=true
    ·rw[jTj a,jTj a,jTj (by unfold Qh;omega),jFj (by simp)];rfl
    ·rw[jFj a,jFj a,jTj (by unfold Qh;omega),jTj rfl];rfl
   ·rw[jFj b];unfold Qnw;dsimp only;rw[jTj (ZD c),jTj ⟨Int.natCast_nonneg i,ZD c⟩,Q4 unM c,jBj];unfold isA;by_cases a:m.2.2.2.2.2=true
    ·rw[jTj a,jTj a,jTj (V7 (by decide) (by rw[jlj];omega)),jTj (by unfold Qh;omega),jFj (by simp),List.map_append];rfl
    ·rw[jFj a,jFj a,jTj (by unfold Qh;omega),jFj b];rfl)
  (fun s _=>by
   by_cases b:s=[]
   ·subst b;rw[jTj rfl,jTj rfl];unfold Qnw;dsimp only;rw[jFj (by simp)]
   ·rw[jFj b,jFj b];unfold Qnw;dsimp only;rw[jFj (by simp)]) (s:=[]) (k:=n) (jLj _) y
 have e:∀(l:List Mir) (s:List Mir),Y6 (E:=Unit⊕jVj) (fun(s:List Mir) (m:Mir)=>.inl (if isA m=true then s++[m] else s)) (fun s=>if s=[] then .inl () else .inr (s.map QY)) l s=(if s++l.filter isA=[] then .inl () else .inr ((s++l.filter isA).map QY)):=by
  intro l;induction l with
  | nil=>intro s;simp[Y6]
  | cons x l ih =>
   intro s;show Y6 (E:=Unit⊕jVj) (fun(s:List Mir) (m:Mir)=>.inl (if isA m=true then s++[m] else s)) (fun s=>if s=[] then .inl () else .inr (s.map QY)) l (if isA x=true then s++[x] else s)=_;rw[ih];by_cases h:isA x=true
   ·rw[jTj h,List.filter_cons_of_pos h,List.append_assoc];rfl
   ·rw[jFj h,List.filter_cons_of_neg h]
 rw[e] at q;exact q
theorem Qqm {n:Nat}(j:3000<=n)(x:jSj)(d e:jVj){c:Nat}{r:Reg}(h:Inv c r)(hc:c<=40):QnP n x d e r.tick r.level r.filled r.tripped r.light r.heat r.money (r.sectors.map Sd) (r.mirrors.map QY) (r.offers.map Zj)=some ((Qpk r).map eS):=by
 have g:=h.lenM;have f:(r.mirrors.filter isA).length<=r.mirrors.length:=List.length_filter_le _ _;unfold QnP Qpk;rw[Qp0 _ _ _ _ _ _ _ _ _ _ _ r.mirrors (by omega) (by omega),jBj,Qne];unfold YQ;by_cases b:r.mirrors.filter isA=[]
 ·rw[jTj b,b];rfl
 ·rw[jFj b];dsimp only;have q:=UV (step:=QnA n d e r.tick r.level r.filled r.tripped r.light r.heat r.money (r.sectors.map Sd) (r.mirrors.map QY) (r.offers.map Zj) ((r.mirrors.filter isA).map QY)) (E:=jVj) (fun out=>out) (r.mirrors.filter isA) (fun x=>[Sd x.1]) (fun _=>jLj _)
   (fun i out x a l=>by have hi:=(jGj a).1;unfold QnA UQ;dsimp only;rw[jTj (ZD a),jTj ⟨Int.natCast_nonneg i,ZD a⟩,Q4 unM a,jBj,jBj,jTj (V7 (by decide) (by omega)),jTj (by unfold Qh;omega)];rfl)
   (fun out _=>by unfold QnA;dsimp only;rw[jFj (by simp)]) (k:=n) (by omega)
  rw[q,jBj,wW,List.map_map];rfl
theorem QpR {c:Nat}{r:Reg}(a:Inv c r)(hc:c<=40):Qh r.money:=i64 (by have:=a.money;omega) (by have:=a.money;omega)
theorem Qql {n:Nat}(f:3000<=n)(x:jSj)(d e:jVj){c:Nat}{r:Reg}(a:Inv c r)(hc:c<=40):QnO n x d e r.tick r.level r.filled r.tripped r.light r.heat r.money (r.sectors.map Sd) (r.mirrors.map QY) (r.offers.map Zj)=some ((Qpj r).map eS):=by
 unfold QnO Qpj;have h:=Qnf f [r.light,r.heat,r.money] (by simp) (fun v b=>by
  simp only[List.mem_cons,List.not_mem_nil,or_false] at b;obtain rfl|rfl|rfl:=b
  ·unfold Qh;have:=a.light;omega
  ·unfold Qh;have:=a.heat;omega
  ·exact QpR a hc)
 rw[show QiX n [I r.light,I r.heat,I r.money]=_ from h];rfl
def isOp (o:Off):Bool:=!o.2.2.2.2.2.2
def opW (o:Off):List Wrd:=[dat o.1,Lib.itoa (Ws o)]
theorem Qo4 (l:List Off):l.flatMap opOf=(l.filter isOp).flatMap opW:=by
 induction l with
 | nil=>rfl
 | cons o l ih =>
  rw[List.flatMap_cons,ih];unfold opOf;by_cases h:o.2.2.2.2.2.2=true
  ·rw[jTj h,List.filter_cons_of_neg (by simp[isOp,h])];rfl
  ·rw[jFj h,List.filter_cons_of_pos (by simp[isOp,h]),List.flatMap_cons];rfl
theorem Qpt {a:Type}{f:a->jVj}{l:List a}{i:Nat}{x:a}(h:l[i]?=some x):el QpJ (l.map fun x=>.lst false 1 (f x)) (i:Int)=some (f x):=by unfold el;rw[jTj (Int.natCast_nonneg i),jtj,Ub,List.getElem?_map,h];rfl
theorem Qp2 {n:Nat}{h:Type}(f:h->jVj)(l:List h)(C:l.length<=1000)(u:l.length<n)(r:∀x,x∈l->(f x).length<=2):QnV n (l.map fun x=>.lst false 1 (f x))=some (l.flatMap f):=by
 have y:∀(a:List h) (i s K:Nat),l.drop i=a->i<=l.length->s<=2*i->a.length<K->∃t:Nat,t<=2*l.length/\Q2 (QnB n (l.map fun x=>.lst false 1 (f x))) K ((s:Int),(i:Int))=some (t:Int)/\(l.flatMap f=[]\/True):=by
  intro a;induction a with
  | nil =>
   intro i s K b hi o e;obtain⟨K,rfl⟩:∃j,K=j+1:=⟨K - 1,by omega⟩
   have m:i=l.length:=by have:=List.drop_eq_nil_iff.1 b;omega
   refine⟨s,by omega,JB ?_,.inr trivial⟩;unfold QnB;dsimp only;rw[jFj (by rw[jlj];omega)]
  | cons x a ih =>
   intro i s K b hi o e;obtain⟨K,rfl⟩:∃j,K=j+1:=⟨K - 1,by omega⟩
   obtain⟨d,g,c⟩:=QkA b;have w:=r x (jgj g);obtain⟨t,v,p,A⟩:=ih (i+1) (s+(f x).length) K c d (by omega) (by simp at e;omega);refine⟨t,v,?_,A⟩;refine(E3 ?_).trans p;unfold QnB;dsimp only;rw[jTj (by rw[jlj];omega),Qpt g,jBj,jTj (i64 (by omega) (by omega)),jFj (by omega),jTj (i64 (by omega) (by omega))];rfl
 have z:Q2 (Qny n (l.map fun x=>.lst false 1 (f x))) n (0,[])=some (l.flatMap f):=by
  have main:∀(a:List h) (i:Nat) (acc:jVj) (K:Nat),l.drop i=a->i<=l.length->acc.length<=2*i->a.length<K->Q2 (Qny n (l.map fun x=>.lst false 1 (f x))) K ((i:Int),acc)=some (acc++a.flatMap f):=by
   intro a;induction a with
   | nil =>
    intro i acc K b hi o e;obtain⟨K,rfl⟩:∃j,K=j+1:=⟨K - 1,by omega⟩
    have m:i=l.length:=by have:=List.drop_eq_nil_iff.1 b;omega
    refine JB ?_;unfold Qny;dsimp only;rw[jFj (by rw[jlj];omega)];simp
   | cons x a ih =>
    intro i acc K b hi o e;obtain⟨K,rfl⟩:∃j,K=j+1:=⟨K - 1,by omega⟩
    obtain⟨d,g,c⟩:=QkA b;have w:=r x (jgj g);refine(E3 ?_).trans ((ih (i+1) (acc++f x) K c d (by simp;omega) (by simp at e;omega)).trans (by simp));unfold Qny;dsimp only;rw[jTj (by rw[jlj];omega),Qpt g,jBj,jTj (V7 (by decide) (by omega)),jTj (i64 (by omega) (by omega))];rfl
  exact(main l 0 [] n rfl (Nat.zero_le _) (Nat.zero_le _) u).trans (by simp)
 obtain⟨t,v,p,_⟩:=y l 0 0 n rfl (Nat.zero_le _) (Nat.zero_le _) u;have q : Q2 (QnB n (l.map fun x=>.lst false 1 (f x))) n (0,0)=some (t:Int):=p;unfold QnV;rw[q,jBj,jFj (by omega),jTj (i64 (by omega) (by omega)),z];by_cases k:((t:Int) - 0)>0
 ·rw[jTj k,jTj ⟨k,V7 (by decide) (by omega)⟩,jTj ⟨by decide,by omega⟩];rfl
 ·rw[jFj k];rfl
theorem Qp8 {n:Nat}(z:3000<=n)(x:jSj)(f g:jVj){c:Nat}{r:Reg}(j:Inv c r)(hc:c<=40):QnN n x f g r.tick r.level r.filled r.tripped r.light r.heat r.money (r.sectors.map Sd) (r.mirrors.map QY) (r.offers.map Zj)=some ((Qop r).map eS):=by
 have t:=j.lenO;have s:(r.offers.filter isOp).length<=r.offers.length:=List.length_filter_le _ _;unfold QnN;have q:=UV (step:=Qnz n f g r.tick r.level r.filled r.tripped r.light r.heat r.money (r.sectors.map Sd) (r.mirrors.map QY) (r.offers.map Zj)) (E:=jVj) (fun out=>out) r.offers (fun o=>if isOp o=true then[Zj o] else[]) (fun o=>by split<;>simp)
  (fun i out o a u=>by
   have hi:=(jGj a).1;unfold Qnz QnW;dsimp only;rw[jTj (ZD a),jTj ⟨Int.natCast_nonneg i,ZD a⟩,Q4 unO a,jBj,jBj];unfold isOp;by_cases d:(!o.2.2.2.2.2.2)=true
   ·rw[jTj d,jTj d,jTj (V7 (by decide) (by omega)),jTj (by unfold Qh;omega)];rfl
   ·rw[jFj d,jFj d,jTj (by unfold Qh;omega),List.append_nil];rfl)
  (fun out _=>by unfold Qnz;dsimp only;rw[jFj (by simp)]) (k:=n) (by omega)
 have m:(r.offers.flatMap fun o=>if isOp o=true then[Zj o] else[])=(r.offers.filter isOp).map Zj:=by
  induction r.offers with
  | nil=>rfl
  | cons o l ih =>
   rw[List.flatMap_cons,ih];by_cases h:isOp o=true
   ·rw[jTj h,List.filter_cons_of_pos h];rfl
   ·rw[jFj h,List.filter_cons_of_neg h];rfl
 rw[q,jBj,m];have w:=UV (step:=QnF n ((r.offers.filter isOp).map Zj)) (E:=jVj) (fun out=>out) (r.offers.filter isOp) (fun o=>[.lst false 1 ((opW o).map eS)]) (fun _=>jLj _)
  (fun i out o a u=>by
   have hi:=(jGj a).1;have b:=j.offs o (List.mem_filter.1 (jgj a)).1;have y:=YF b;have e:el Z6 ((r.offers.filter isOp).map Zj) (i:Int)=some o:=Xr (un:=Z6) (enc:=Zj) unO a;unfold QnF QnS;dsimp only;rw[jTj (ZD a),e,jBj,Qag n b,jBj,Qnm n (i64 (by omega) (by omega)),jBj,jBj,jTj (V7 (by decide) (by omega)),jTj (by unfold Qh;omega)];have p:(opW o).map eS=[.v (.string o.1),eS (Lib.itoa (Ws o))]:=by show[eS (dat o.1),eS (Lib.itoa (Ws o))]=_;rw[show eS (dat o.1)=.v (.string o.1) by unfold eS dat;rw[yD]]
   rw[p];rfl)
  (fun out _=>by unfold QnF;dsimp only;rw[jFj (by simp)]) (k:=n) (by omega)
 unfold QnZ;rw[w,jBj,jBj,wW,Qp2 (fun o=>(opW o).map eS) _ (by omega) (by omega) (fun o _=>by simp[opW]),jBj];unfold Qop;rw[Qo4,List.map_flatMap]
theorem Qqw {n:Nat}(l:3000<=n)(f g:jVj){c:Nat}{r:Reg}(e:Inv c r)(hc:c<=40){a:jSj}(h:Zu (nmM r.mirrors) a=true):QnM n a f g r.tick r.level r.filled r.tripped r.light r.heat r.money (r.sectors.map Sd) (r.mirrors.map QY) (r.offers.map Zj)=some ((QpX r a).map eS):=by have j:=e.lenM;obtain⟨i,k,d⟩:=WP h;have b:=e.mirs _ (jgj d);unfold okM at b;unfold QnM QpX;rw[UC r.mirrors (by omega) (by omega),jBj,Wb _ _ (by rw[Zo];omega) (by rw[Zo];omega),jBj,i,jTj (by rw[jlj];omega),Q4 unM d,jBj,Qnm n (i64 (by omega) (by omega))];rfl
theorem Qid (a:jSj)(ms:List Mir):(0<=(cntM a ms).1/\(cntM a ms).1<=(ms.length:Int))/\0<=(cntM a ms).2/\(cntM a ms).2<=(ms.length:Int):=by
 have main:∀(l:List Mir) (s:Int×Int) (i:Nat),((0<=s.1/\s.1<=(i:Int))/\0<=s.2/\s.2<=(i:Int))->(0<=(Y6 (E:=Int×Int) (fun s m=>.inl (cg a s m)) (fun s=>s) l s).1/\(Y6 (E:=Int×Int) (fun s m=>.inl (cg a s m)) (fun s=>s) l s).1<=((i+l.length:Nat):Int))/\0<=(Y6 (E:=Int×Int) (fun s m=>.inl (cg a s m)) (fun s=>s) l s).2/\(Y6 (E:=Int×Int) (fun s m=>.inl (cg a s m)) (fun s=>s) l s).2<=((i+l.length:Nat):Int):=by
  intro l;induction l with
  | nil=>intro s i h;exact h
  | cons m l ih =>
   intro s i h;have:=ih (cg a s m) (i+1) (QeN h);rw[show i+1+l.length=i+(m::l).length by simp;omega] at this;exact this
 have:=main ms (0,0) 0 ⟨⟨Int.le_refl _,Int.le_refl _⟩,Int.le_refl _,Int.le_refl _⟩;rw[Nat.zero_add] at this;exact this
theorem Qqk {n:Nat}(g:3000<=n)(d e:jVj){c:Nat}{r:Reg}(i:Inv c r)(hc:c<=40)(a:jSj):QnL n a d e r.tick r.level r.filled r.tripped r.light r.heat r.money (r.sectors.map Sd) (r.mirrors.map QY) (r.offers.map Zj)=some ((Qpi r a).map eS):=by
 have f:=i.lenM;have j:=Qid a r.mirrors;unfold QnL Qpi;rw[QeM a r.mirrors (by omega) (by omega),jBj];have h:=Qnf g [(cntM a r.mirrors).1,(cntM a r.mirrors).2] (by simp) (fun v b=>by
  simp only[List.mem_cons,List.not_mem_nil,or_false] at b;obtain rfl|rfl:=b
  ·exact i64 (by omega) (by omega)
  ·exact i64 (by omega) (by omega))
 rw[show QiX n [I (cntM a r.mirrors).1,I (cntM a r.mirrors).2]=_ from h];rfl
def cmdL (e:Ev):Wrd:=Lib.join (QjP e).tail [32]
theorem QpD (e:Ev):QjR e=Lib.itoa e.1++32::cmdL e:=by unfold QjR cmdL QjP;rw[Lib.join_cons,List.tail_cons,Lib.join_cons];simp[Lib.joinTail]
theorem Qqp {e:Ev}{k:Ki}(a:Good e k):spl 32 (cmdL e)=(QjP e).tail:=by unfold cmdL;rw[<-QlP];exact Qlb 32 _ (by unfold QjP;simp) fun w b hc=>absurd (Qow a w (List.mem_of_mem_tail b) 32 hc) (by decide)
theorem QpI {n:Nat}(c:3000<=n){e:Ev}{k:Ki}(b:Good e k):Qn0 n e.1 e.2.1 (e.2.2.1.map Sd) (e.2.2.2.1.map I) e.2.2.2.2=some (mkS (cmdL e)):=by
 have g:=Qki b;have d:=b.num;have a:=QpD e;have f:(Lib.itoa e.1).length+1<=(QjR e).length:=by rw[a];simp
 unfold Qn0;rw[Qmu c b,jBj,Qmt c (by omega) (by omega),jBj,QiF,jTj (i64 (by omega) (by omega)),show((Lib.itoa e.1).length:Int)+1=(((Lib.itoa e.1).length+1:Nat):Int) from rfl,QjN _ f,jBj];congr 2
 rw[a];simp
def Qos:List Wrd:=[[115,116,97,116,101],[114,97,116,101],[97,105,109,101,100],[98,111,111,107,115],[111,102,102,101,114,115],[100,105,114,116],[99,111,117,110,116]]
theorem Qqy (k:Ki):∀q,q∈Qos->kw k≠q:=by cases k<;>decide
theorem Qqh (k:Ki):¬(VY (.string (mkS (kw k))) tab2).isSome=true:=by cases k<;>(show ¬(none:Option D).isSome=true;decide)
theorem Qoo {e:Ev}{k:Ki}(a:Good e k):Yf e:=by
 have h:=Qnv k;have c:=a.names;have d:=a.vals;have f:=Qnr k;have g:=a.text;refine⟨?_,by omega,by omega,by omega,fun s b=>?_⟩
 ·rw[<-dlen];show e.2.1.data.toList.length<=40;rw[a.kind];omega
 ·have:=a.name s b;unfold Us at this;simp only[jAj,decide_eq_true_eq] at this;omega
theorem Qqq {e:Ev}{k:Ki}(b:Good e k):0<(cmdL e).length/\(cmdL e).length<=300:=by
 have a:=Qki b;rw[QpD] at a;simp only[jaj,List.length_cons] at a;refine⟨?_,by omega⟩;unfold cmdL QjP;rw[List.tail_cons,Lib.join_cons,jaj];have:0<(dat e.2.1).length:=by rw[show dat e.2.1=kw k from b.kind];cases k<;>decide
 omega
theorem QpU {n:Nat}(c:3000<=n){l:Wrd}(a:0<l.length)(b:l.length<=2000):QF (decide (((mkS l).size:Int)>4096)) 26=0/\QF ((mkS l).toList==(⟨#[]⟩:jSj).toList) 25=0:=by
 refine⟨?_,?_⟩
 ·rw[QiF,jEj (by omega)];rfl
 ·rw[Ql5,jEj (fun e=>by rw[e] at a;simp at a)];rfl
theorem Qqe {n:Nat}(o:3000<=n){evs:jVj}(G:evs.length<=900){cnt:List Ev}(r:OkL cnt)(hc:cnt.length<=30){e:Ev}{k:Ki}(b:Good e k)(h:YM evs.length cnt e=0) :
  Qnx n (mkS (cmdL e)) evs (cnt.map Zr) (QD cnt).tick (QD cnt).level (QD cnt).filled (QD cnt).tripped (QD cnt).light (QD cnt).heat (QD cnt).money ((QD cnt).sectors.map Sd) ((QD cnt).mirrors.map QY) ((QD cnt).offers.map Zj) =
   some (mkS ([100,111,110,101,32]++Lib.itoa e.1),0,outA (evs++[Zr e]) ((VO cnt e).map Zr) (QD (VO cnt e))):=by
 obtain⟨_,_,j,_⟩:=kJ h;obtain⟨z,H⟩:=Qqq b;obtain⟨E,F⟩:=QpU o z (by omega);have l:=Qqp b;have d:=QlY (p:=cmdL e) (by omega);rw[l] at d;have w:(QjP e).tail=kw k::(e.2.2.1.map dat++e.2.2.2.1.map Lib.itoa):=by unfold QjP;rw[List.tail_cons,show dat e.2.1=kw k from b.kind]
 have m:el Ww (((QjP e).tail).map eS) 0=some (mkS (kw k)):=by rw[w];exact Qml (i:=0) rfl
 obtain⟨A,f,g,C⟩:=QcY (a:=mkS (kw k)) (k:=k) (Qjx _);have c:=Qqy k;have y:=(Qm5 (QjP e).tail).1 k _ _ (Qpc b);have hev:Qjz n ((evs.length:Int)+1) ((QjP e).tail.map eS)=some (e.1,e.2.1,e.2.2.1.map Sd,e.2.2.2.1.map I,e.2.2.2.2,true):=by have q:=Qpo b;have t:mkS (kw k)=e.2.1:=congrArg (fun x:Ev=>x.2.1) q;have u:(⟨#[]⟩:jSj)=e.2.2.2.2:=congrArg (fun x:Ev=>x.2.2.2.2) q;rw[Qm4 o _ d,y];dsimp only;rw[t,u,Qne,j]
 unfold Qnx;rw[Zd,jBj,Zd,jBj,E,F,VE (by omega),jBj,jTj (by rfl),QmY o (by omega),l,jBj,m,jBj,Qjx];rw[jFj (c _ (by simp[Qos])),jFj (c _ (by simp[Qos])),jFj (c _ (by simp[Qos])),jFj (c _ (by simp[Qos])),jFj (c _ (by simp[Qos])),jFj (c _ (by simp[Qos])),jFj (c _ (by simp[Qos]))];rw[jTj (Qqh k),jTj A,C,jBj,jTj (i64 (by omega) (by omega)),hev,jBj];dsimp only;rw[Zd,jBj,Zd,jBj,show QF (!true) 25=0 from rfl,show QF (decide ((evs.length:Int)>=1000)) 5=0 by rw[jEj (by omega)];rfl,VE (by omega),jBj,jTj (by rfl),V3 (by omega) e (Qoo b),Qpr b,jBj,jTj rfl,Qal (by omega) r hc (by omega) (Qpr b),h,jBj,jTj rfl,addE (by omega) r hc (by omega) (Qoo b) h,jBj,Qnm n (i64 (by omega) (by omega)),jBj];have s:(⟨#[100,111,110,101,32]⟩:jSj)=mkS [100,111,110,101,32]:=rfl;have v:=Qmh (n:=e.1) (by omega) (by have:=b.num;omega);rw[s,jTj (by rw[QiF,QiF];simp;omega),Qjy]
def ansL (wsx:List Wrd):Wrd:=if wsx=[] then[110,111,110,101] else Lib.join wsx [32]
theorem Qqd (b:Nat)(wsx:List Wrd)(h:∀w,w∈wsx->w.length<=b):(Lib.join wsx [32]).length<=(b+1)*wsx.length:=by
 cases wsx with
 | nil=>simp[Lib.join_nil]
 | cons w l =>
  have c:=h w jMj;have d:=Ql8 b l fun x a=>h x (jmj _ a);rw[Lib.join_cons,jaj,List.length_cons,Nat.mul_add];omega
theorem QoU {S:Type}{n:Nat}{wsx:List Wrd}(a:S)(b:wsx.length<=1000)(c:∀w,w∈wsx->w.length<=900):(if((wsx.map eS).length:Int)=0 then some ((⟨#[110,111,110,101]⟩:jSj),(0:Int),a) else(Jj n (wsx.map eS) ⟨#[32]⟩).bind fun t=>some (t,0,a))=some (mkS (ansL wsx),0,a):=by
 unfold ansL;by_cases h:wsx=[]
 ·rw[jTj (by rw[h];rfl),jTj h];rfl
 ·have e:0<wsx.length:=List.length_pos_iff.2 h;have d:=Qqd 900 wsx c;have f:901*wsx.length<=901*1000:=Nat.mul_le_mul_left _ b;have:=Qng n wsx [32] (by omega) (by omega);rw[jFj (by rw[jlj];omega),jFj h,show Jj n (wsx.map eS) ⟨#[32]⟩=_ from this,jBj]
def SzR (r:Reg):Prop:=(∀m,m∈r.mirrors->m.1.size<=24)/\∀o,o∈r.offers->o.1.size<=24
theorem QpS {ns:List jSj}(h:∀s,s∈ns->s.size<=24)(i:Nat):(ns.getD i ⟨#[]⟩).size<=24:=by
 rw[List.getD_eq_getElem?_getD];cases hx:ns[i]? with
 | none=>show 0<=24;omega
 | some s=>exact h s (jgj hx)
theorem Qo2 {ms:List Mir}(h:∀m,m∈ms->m.1.size<=24)(a:jSj):(mAt ms a).1.size<=24:=by
 unfold mAt;rw[List.getD_eq_getElem?_getD];cases hx:ms[iM ms a]? with
 | none=>show zM.1.size<=24;decide
 | some s=>exact h s (jgj hx)
theorem Qqx {b:List Off}(h:∀m,m∈b->m.1.size<=24)(a:jSj):(oAt b a).1.size<=24:=by
 unfold oAt;rw[List.getD_eq_getElem?_getD];cases hx:b[iO b a]? with
 | none=>show zO.1.size<=24;decide
 | some s=>exact h s (jgj hx)
theorem Qqt {r:Reg}(l:SzR r)(k:Ki){ns:List jSj}(g:∀s,s∈ns->s.size<=24)(vs:List Int):SzR (act k r ns vs):=by
 obtain⟨b,c⟩:=l;have setM:∀{a:jSj} {m:Mir},m.1.size<=24->SzR (chgM r a m):=fun d=>⟨fun x e=>by
  obtain h|h:=List.mem_or_eq_of_mem_set e
  ·exact b x h
  ·rw[h];exact d,c⟩
 have setO:∀{a:jSj} {o:Off} {q:Reg},SzR q->o.1.size<=24->SzR (chgO q a o):=fun i d=>⟨i.1,fun x e=>by
  obtain h|h:=List.mem_or_eq_of_mem_set e
  ·exact i.2 x h
  ·rw[h];exact d⟩
 have mapM:∀{f:Mir->Mir},(∀m,(f m).1=m.1)->∀m,m∈r.mirrors.map f->m.1.size<=24:=fun j m d=>by obtain⟨x,e,rfl⟩:=List.mem_map.1 d;rw[j];exact b x e
 cases k<;>unfold act<;>dsimp only;case sector=>exact⟨b,c⟩
 case mirror =>
  refine⟨fun m d=>?_,c⟩;obtain h|h:=List.mem_append.1 d
  ·exact b m h
  ·rw[List.mem_singleton.1 h];exact QpS g 0
 case soil=>exact setM (Qo2 b _)
 case clean=>exact setM (Qo2 b _)
 case defect=>exact setM (Qo2 b _)
 case repair=>exact setM (Qo2 b _)
 case aim=>exact setM (Qo2 b _)
 case park=>exact setM (Qo2 b _)
 case dim=>exact⟨mapM fun m=>by unfold EN;split<;>rfl,c⟩
 case sun=>exact⟨b,c⟩
 case fill=>exact⟨b,c⟩
 case drain=>exact⟨b,c⟩
 case trip=>exact⟨mapM fun m=>rfl,c⟩
 case reset=>exact⟨b,c⟩
 case offer =>
  refine⟨b,fun m d=>?_⟩;obtain h|h:=List.mem_append.1 d
  ·exact c m h
  ·rw[List.mem_singleton.1 h];exact QpS g 0
 all_goals first|exact⟨b,c⟩|exact setO ⟨b,c⟩ (Qqx c _)
theorem Qp5 {l:List Ev}(h:OkL l):∀j,j<=l.length->SzR (QD (l.take j))
 | 0,_=>⟨fun m a=>(by cases a),fun m a=>(by cases a)⟩
 | j+1,hj=>by have d:=Qp5 h j (by omega);have c:l[j]?=some l[j]:=jej (by omega);obtain⟨k,_,b,_⟩:=h j _ c;rw[List.take_add_one,c];show SzR (QD (l.take j++[l[j]]));rw[GA,XR b];refine Qqt (r:=bkd _ _) ⟨d.1,d.2⟩ k (fun s e=>?_) _;have:=b.name s e;unfold Us at this;simp only[jAj,decide_eq_true_eq] at this;omega
theorem Qqs {l:List Ev}(h:OkL l):SzR (QD l):=by have:=Qp5 h l.length (jLj _);rwa [List.take_length] at this
theorem QnY {n:Int}(h:Qh n):(Lib.itoa n).length<=20:=by
 unfold Qh at h;unfold Lib.itoa;split
 ·have:=(Qmp n.natAbs).2.2.2.2 19 (by decide) (by omega);simp only[List.length_cons];omega
 ·have:=(Qmp n.toNat).2.2.2.2 19 (by decide) (by omega);omega
theorem Qqg {r:Reg}(h:SzR r):∀w,w∈Qpk r->w.length<=900:=fun w c=>by obtain⟨s,a,rfl⟩:=List.mem_map.1 c;unfold YQ at a;obtain⟨m,b,rfl⟩:=List.mem_map.1 a;have:=h.1 m (List.mem_filter.1 b).1;show m.1.data.toList.length<=900;rw[dlen];omega
theorem Qp1 {c:Nat}{r:Reg}(h:SzR r)(e:Inv c r):∀w,w∈Qop r->w.length<=900:=fun w a=>by
 unfold Qop at a;rw[Qo4] at a;obtain⟨o,b,a⟩:=List.mem_flatMap.1 a;have b:=(List.mem_filter.1 b).1;have f:=YF (e.offs o b);unfold opW at a;obtain d|d:=List.mem_cons.1 a
 ·rw[d];have:=h.2 o b;show o.1.data.toList.length<=900;rw[dlen];omega
 ·rw[List.mem_singleton.1 d];have:=QnY (n:=Ws o) (i64 (by omega) (by omega));omega
theorem QpE (r:Reg):(Qop r).length<=2*r.offers.length:=by
 unfold Qop;induction r.offers with
 | nil=>simp
 | cons o l ih =>
  rw[List.flatMap_cons,jaj,List.length_cons];have:(opOf o).length<=2:=by unfold opOf;split<;>simp
  omega
def askA (r:Reg)(b:Wrd):Option (Wrd×Int) :=
 match spl 32 b with
 | [w] =>
  if w=[115,116,97,116,101] then some (ansL (Qph r),0)
  else if w=[114,97,116,101] then some (ansL (QpW r),0)
  else if w=[97,105,109,101,100] then some (ansL (Qpk r),0)
  else if w=[98,111,111,107,115] then some (ansL (Qpj r),0)
  else if w=[111,102,102,101,114,115] then some (ansL (Qop r),0)
  else if w=[100,105,114,116]\/w=[99,111,117,110,116] then some ([],25)
  else none
 | [w,a] =>
  if w=[100,105,114,116] then some (if a=[] then([],25) else if Zu (nmM r.mirrors) (mkS a)=true then(ansL (QpX r (mkS a)),0) else([],10))
  else if w=[99,111,117,110,116] then some (if a=[] then([],25) else if Zu r.sectors (mkS a)=true then(ansL (Qpi r (mkS a)),0) else([],10))
  else if w∈Qos then some ([],25) else none
 | w::_=>if w∈Qos then some ([],25) else none
 | []=>none
theorem Qqz {n:Nat}(C:3000<=n){l:Wrd}(U:0<l.length)(M:l.length<=2000)(evs cnt:jVj){c:Nat}{r:Reg}(g:Inv c r)(hc:c<=40)(T:SzR r){a:Wrd×Int}(e:askA r l=some a) :
  Qnx n (mkS l) evs cnt r.tick r.level r.filled r.tripped r.light r.heat r.money (r.sectors.map Sd) (r.mirrors.map QY) (r.offers.map Zj)=some (mkS a.1,a.2,outA evs cnt r):=by
 obtain⟨z1,z2⟩:=QpU C U M;have W:=g.lenM;have Y:=g.lenO;have S:=g.secs;have G:=QlY (p:=l) M;unfold Qnx;rw[Zd,jBj,Zd,jBj,z1,z2,VE (by omega),jBj,jTj (by rfl),QmY C M,jBj];unfold askA at e;cases hs:spl 32 l with
 | nil=>exact absurd hs (QjB 32 l)
 | cons w wsx =>
  rw[hs] at e G;have O:el Ww ((w::wsx).map eS) 0=some (mkS w):=Qml (i:=0) rfl;have H:=G.1;simp only[List.length_cons] at H;have y:(0:Int)<=1/\1<=((((w::wsx).map eS)).length:Int)/\((((w::wsx).map eS)).length:Int)<=((((w::wsx).map eS)).length:Int)/\((w::wsx).map eS=[]\/1=1):=⟨by decide,by simp;omega,Int.le_refl _,.inr rfl⟩
  have N:((w::wsx).map eS).drop (Int.toNat 1)=wsx.map eS:=rfl;have Z:((wsx.map eS).length:Int)=(wsx.length:Int):=by rw[jlj]
  rw[O,jBj,Qjx,N];have many:∀{X:Option (jSj×Int×AddT)},wsx≠[]->(if(0:Int)<=1/\1<=((((w::wsx).map eS)).length:Int)/\((((w::wsx).map eS)).length:Int)<=((((w::wsx).map eS)).length:Int)/\((w::wsx).map eS=[]\/1=1) then(if((wsx.map eS).length:Int)>0 then some ((⟨#[]⟩:jSj),(25:Int),outA evs cnt r) else X) else none)=some (mkS [],25,outA evs cnt r):=fun J=>by have:0<wsx.length:=List.length_pos_iff.2 J;rw[jTj y,jTj (by omega)];rfl
  have f:∀{X:Option (jSj×Int×AddT)},wsx=[]->(if(0:Int)<=1/\1<=((((w::wsx).map eS)).length:Int)/\((((w::wsx).map eS)).length:Int)<=((((w::wsx).map eS)).length:Int)/\((w::wsx).map eS=[]\/1=1) then(if((wsx.map eS).length:Int)>0 then some ((⟨#[]⟩:jSj),(25:Int),outA evs cnt r) else X) else none)=X:=fun Q=>by rw[jTj y,jFj (by rw[Q];decide)]
  have m:∀{X:Option (jSj×Int×AddT)},wsx.length≠1->(if(0:Int)<=1/\1<=((((w::wsx).map eS)).length:Int)/\((((w::wsx).map eS)).length:Int)<=((((w::wsx).map eS)).length:Int)/\((w::wsx).map eS=[]\/1=1) then(if((wsx.map eS).length:Int)=1 then X else some ((⟨#[]⟩:jSj),(25:Int),outA evs cnt r)) else none)=some (mkS [],25,outA evs cnt r):=fun J=>by rw[jTj y,jFj (by omega)];rfl
  have L:∀{X:Option (jSj×Int×AddT)},wsx.length=1->(if(0:Int)<=1/\1<=((((w::wsx).map eS)).length:Int)/\((((w::wsx).map eS)).length:Int)<=((((w::wsx).map eS)).length:Int)/\((w::wsx).map eS=[]\/1=1) then(if((wsx.map eS).length:Int)=1 then X else some ((⟨#[]⟩:jSj),(25:Int),outA evs cnt r)) else none)=X:=fun Q=>by rw[jTj y,jTj (by omega)]
  by_cases j:w=[115,116,97,116,101]
  ·rw[jTj j];match wsx,e with
   | [],e =>
    dsimp only at e;rw[jTj j] at e;cases e;refine(f rfl).trans ?_;rw[Qqj n _ _ _ g,jBj];exact QoU (outA evs cnt r) (by simp[Qph]) (fun x q=>by
     simp only[Qph,List.mem_cons,List.not_mem_nil,or_false] at q;obtain rfl|rfl|rfl:=q
     ·unfold Qpp;split<;>decide
     ·unfold Qp3;split<;>decide
     ·have:=QnY (n:=r.level) (i64 (by have:=g.level;omega) (by have:=g.level;omega));omega)
   | [b],e =>
    dsimp only at e;rw[jFj (by rw[j];decide),jFj (by rw[j];decide),jTj (by rw[j];decide)] at e;cases e;exact many (by simp)
   | b::d::z,e =>
    dsimp only at e;rw[jTj (by rw[j];decide)] at e;cases e;exact many (by simp)
  rw[jFj j];by_cases k:w=[114,97,116,101]
  ·rw[jTj k];match wsx,e with
   | [],e =>
    dsimp only at e;rw[jFj j,jTj k] at e;cases e;refine(f rfl).trans ?_;rw[Qqv C _ _ _ g hc,jBj];have F:=Qpx g hc;exact QoU (outA evs cnt r) (by simp[QpW]) (fun x q=>by rw[show x=Lib.itoa (wz r) from List.mem_singleton.1 q];have:=QnY (n:=wz r) (i64 (by omega) (by omega));omega)
   | [b],e =>
    dsimp only at e;rw[jFj (by rw[k];decide),jFj (by rw[k];decide),jTj (by rw[k];decide)] at e;cases e;exact many (by simp)
   | b::d::z,e =>
    dsimp only at e;rw[jTj (by rw[k];decide)] at e;cases e;exact many (by simp)
  rw[jFj k];by_cases o:w=[97,105,109,101,100]
  ·rw[jTj o];match wsx,e with
   | [],e =>
    dsimp only at e;rw[jFj j,jFj k,jTj o] at e;cases e;refine(f rfl).trans ?_;rw[Qqm C _ _ _ g hc,jBj];exact QoU (outA evs cnt r) (by unfold Qpk YQ;have:(r.mirrors.filter isA).length<=r.mirrors.length:=List.length_filter_le _ _;simp only[jlj];omega) (Qqg T)
   | [b],e =>
    dsimp only at e;rw[jFj (by rw[o];decide),jFj (by rw[o];decide),jTj (by rw[o];decide)] at e;cases e;exact many (by simp)
   | b::d::z,e =>
    dsimp only at e;rw[jTj (by rw[o];decide)] at e;cases e;exact many (by simp)
  rw[jFj o];by_cases s:w=[98,111,111,107,115]
  ·rw[jTj s];match wsx,e with
   | [],e =>
    dsimp only at e;rw[jFj j,jFj k,jFj o,jTj s] at e;cases e;refine(f rfl).trans ?_;rw[Qql C _ _ _ g hc,jBj];exact QoU (outA evs cnt r) (by simp[Qpj]) (fun x q=>by
     simp only[Qpj,List.mem_cons,List.not_mem_nil,or_false] at q;obtain rfl|rfl|rfl:=q
     ·have:=QnY (n:=r.light) (by unfold Qh;have:=g.light;omega);omega
     ·have:=QnY (n:=r.heat) (by unfold Qh;have:=g.heat;omega);omega
     ·have:=QnY (QpR g hc);omega)
   | [b],e =>
    dsimp only at e;rw[jFj (by rw[s];decide),jFj (by rw[s];decide),jTj (by rw[s];decide)] at e;cases e;exact many (by simp)
   | b::d::z,e =>
    dsimp only at e;rw[jTj (by rw[s];decide)] at e;cases e;exact many (by simp)
  rw[jFj s];by_cases u:w=[111,102,102,101,114,115]
  ·rw[jTj u];match wsx,e with
   | [],e =>
    dsimp only at e;rw[jFj j,jFj k,jFj o,jFj s,jTj u] at e;cases e;refine(f rfl).trans ?_;rw[Qp8 C _ _ _ g hc,jBj];exact QoU (outA evs cnt r) (by have:=QpE r;omega) (Qp1 T g)
   | [b],e =>
    dsimp only at e;rw[jFj (by rw[u];decide),jFj (by rw[u];decide),jTj (by rw[u];decide)] at e;cases e;exact many (by simp)
   | b::d::z,e =>
    dsimp only at e;rw[jTj (by rw[u];decide)] at e;cases e;exact many (by simp)
  rw[jFj u];by_cases A:w=[100,105,114,116]
  ·rw[jTj A];match wsx,e with
   | [],e =>
    dsimp only at e;rw[jFj j,jFj k,jFj o,jFj s,jFj u,jTj (.inl A)] at e;cases e;exact m (by simp)
   | [b],e =>
    dsimp only at e;rw[jTj A] at e;cases e;refine(L rfl).trans ?_;have F:el Ww (([b]:List Wrd).map eS) 0=some (mkS b):=Qml (i:=0) rfl;rw[F,jBj,Ql5];by_cases v:b=[]
    ·rw[jTj (jDj v),jTj v];rfl
    rw[jFj (by simpa using v),jFj v,UC r.mirrors (by omega) (by omega),jBj,W4 _ _ (by rw[Zo];omega) (by rw[Zo];omega),jBj];by_cases t:Zu (nmM r.mirrors) (mkS b)=true
    ·rw[jTj t,jTj t,Qqw C _ _ g hc t,jBj];obtain⟨_,_,V⟩:=WP t;have P:=g.mirs _ (jgj V);unfold okM at P;exact QoU (outA evs cnt r) (by simp[QpX]) (fun x q=>by rw[show x=Lib.itoa (mAt r.mirrors (mkS b)).2.2.2.1 from List.mem_singleton.1 q];have:=QnY (n:=(mAt r.mirrors (mkS b)).2.2.2.1) (i64 (by omega) (by omega));omega)
    ·rw[jFj t,jFj t];rfl
   | b::d::z,e =>
    dsimp only at e;rw[jTj (by rw[A];decide)] at e;cases e;exact m (by simp)
  rw[jFj A];by_cases E:w=[99,111,117,110,116]
  ·rw[jTj E];match wsx,e with
   | [],e =>
    dsimp only at e;rw[jFj j,jFj k,jFj o,jFj s,jFj u,jTj (.inr E)] at e;cases e;exact m (by simp)
   | [b],e =>
    dsimp only at e;rw[jFj A,jTj E] at e;cases e;refine(L rfl).trans ?_;have F:el Ww (([b]:List Wrd).map eS) 0=some (mkS b):=Qml (i:=0) rfl;rw[F,jBj,Ql5];by_cases v:b=[]
    ·rw[jTj (jDj v),jTj v];rfl
    rw[jFj (by simpa using v),jFj v,W4 r.sectors _ (by omega) (by omega),jBj];by_cases t:Zu r.sectors (mkS b)=true
    ·rw[jTj t,jTj t,Qqk C _ _ g hc,jBj];have F:=Qid (mkS b) r.mirrors;exact QoU (outA evs cnt r) (by simp[Qpi]) (fun x q=>by
      simp only[Qpi,List.mem_cons,List.not_mem_nil,or_false] at q;obtain rfl|rfl:=q
      ·have:=QnY (n:=(cntM (mkS b) r.mirrors).1) (i64 (by omega) (by omega));omega
      ·have:=QnY (n:=(cntM (mkS b) r.mirrors).2) (i64 (by omega) (by omega));omega)
    ·rw[jFj t,jFj t];rfl
   | b::d::z,e =>
    dsimp only at e;rw[jTj (by rw[E];decide)] at e;cases e;exact m (by simp)
  have K:¬w∈Qos:=fun h=>by
   simp only[Qos,List.mem_cons,List.not_mem_nil,or_false] at h;obtain h|h|h|h|h|h|h:=h
   ·exact j h
   ·exact k h
   ·exact o h
   ·exact s h
   ·exact u h
   ·exact A h
   ·exact E h
  match wsx,e with
  | [],e=>dsimp only at e;rw[jFj j,jFj k,jFj o,jFj s,jFj u,jFj (fun h=>h.elim A E)] at e;cases e
  | [b],e=>dsimp only at e;rw[jFj A,jFj E,jFj K] at e;cases e
  | b::d::z,e=>dsimp only at e;rw[jFj K] at e;cases e
theorem Qqi {n:Nat}(F:3000<=n)(l:List Ev)(H:l.length<=1000)(C:AllG l)(r:jVj)(s t:Int)(u v:Bool)(w y z:Int)(A b c:jVj):QnJ n (l.map Zr) r s t u v w y z A b c=some (mkS (l.flatMap recL)):=by
 unfold QnJ;have q:=UV (step:=QnE n (l.map Zr) r s t u v w y z A b c) (E:=jVj) (fun out=>out) l (fun e=>[eS (recL e)]) (fun _=>jLj _)
  (fun i out e a J=>by have hi:=(jGj a).1;obtain⟨k,o⟩:=C e (jgj a);unfold QnE;dsimp only;rw[jTj (ZD a),jTj ⟨Int.natCast_nonneg i,ZD a⟩,QeQ a,jBj,Qma F o,jBj,jTj (V7 (by decide) (by omega)),jTj (by unfold Qh;omega)];rfl)
  (fun out _=>by unfold QnE;dsimp only;rw[jFj (by simp)]) (k:=n) (by omega)
 have f:∀m:List Ev,AllG m->(m.flatMap recL).length<=310*m.length:=by
  intro m;induction m with
  | nil=>intro _;simp
  | cons e m ih =>
   intro h;obtain⟨k,o⟩:=h e jMj;have:=QmC o;have:=ih fun x a=>h x (jmj _ a);rw[List.flatMap_cons,jaj,List.length_cons];omega
 have d:∀L:List Wrd,Lib.join L []=L.flatten:=by
  intro L;induction L with
  | nil=>rfl
  | cons p L ih =>
   cases L with
   | nil=>simp[Lib.join,List.intercalate]
   | cons q L =>
    rw[Lib.join_cons,Lib.joinTail];simp
 have G:=f l C;have g:=Qng n (l.map recL) [] (by rw[jlj];omega) (by rw[d,<-List.flatMap_def];omega);rw[d,<-List.flatMap_def] at g;rw[q,jBj,wW];have j : Jj n (l.map fun e=>eS (recL e)) ⟨#[]⟩=some (mkS (l.flatMap recL)):=by rw[List.map_map] at g;exact g
 rw[j];rfl
def okB (l:List Ev)(b:Nat):Bool:=decide (l.length<=b/\∀e,e∈l->Yf e)&&(match rep 0 [] l with
 | .inr _=>true
 | .inl _=>false)
theorem Qf9 {n:Nat}(d:100<=n)(l:List Ev)(b:Nat)(f:b<=30):Qe7 n (l.map Zr) (b:Int)=some (okB l b):=by
 unfold Qe7 okB;rw[wu d l b (by omega),jBj];by_cases h:l.length<=b/\∀e,e∈l->Yf e
 ·rw[jTj (jDj h),yp d l (by omega) h.2,jBj,jDj h];cases hr:rep 0 [] l with
  | inl p =>
   have a:¬p.2=0:=yn _ _ _ _ hr;show some (p.2==0)=_;rw[show(p.2==0)=false by simpa using a];rfl
  | inr c=>rfl
 ·rw[jFj (by simpa using h),jEj h];rfl
theorem QgZ {l:List Ev}{b:Nat}(h:okB l b=true):(l.length<=b/\∀e,e∈l->Yf e)/\∃c,rep 0 [] l=.inr c:=by
 unfold okB at h;rw[jAj] at h;obtain⟨d,a⟩:=h;refine⟨of_decide_eq_true d,?_⟩;cases hr:rep 0 [] l with
 | inl p=>rw[hr] at a;cases a
 | inr c=>exact⟨c,rfl⟩
theorem QqC (k:Ki):25*kn k+10*kv k<=75:=by cases k<;>decide
theorem Qqu {e:Ev}{k:Ki}(a:Good e k):(recL e).length<=96:=by
 have f:=Ql8 24 (e.2.2.1.map dat) fun w d=>by obtain⟨s,m,rfl⟩:=List.mem_map.1 d;have:=a.name s m;unfold Us at this;simp only[jAj,decide_eq_true_eq] at this;show s.data.toList.length<=24;rw[dlen];omega
 have g:=Ql8 9 (e.2.2.2.1.map Lib.itoa) fun w d=>by obtain⟨v,n,rfl⟩:=List.mem_map.1 d;have:=a.val v n;exact Qmh (by omega) (by omega)
 have i:=Qnr k;have o:=QqC k;have h:=a.num;have p:(Lib.itoa e.1).length<=4:=by rw[Qk7 (by omega)];exact(Qmp e.1.toNat).2.2.2.2 4 (by decide) (by omega)
 have q:(dat e.2.1).length<=7:=by rw[show dat e.2.1=kw k from a.kind];exact i
 have l:QjR e=Lib.itoa e.1++(32::dat e.2.1++Lib.joinTail [32] (e.2.2.1.map dat)++Lib.joinTail [32] (e.2.2.2.1.map Lib.itoa)):=by unfold QjR QjP;rw[Lib.join_cons];simp[Lib.joinTail]
 have b:=a.names;have c:=a.vals;rw[jlj] at f g;have j:=Qlm (QjR e);unfold recL;rw[jaj,jaj,List.length_cons,j,l];simp only[jaj,List.length_cons,List.length_nil];rw[b] at f;rw[c] at g;omega
theorem Qpq:∀{l:List Ev},AllG l->(l.flatMap recL).length<=96*l.length
 | [],_=>by simp
 | e::l,h=>by obtain⟨k,a⟩:=h e jMj;have c:=Qqu a;have d:=Qpq (l:=l) fun x b=>h x (jmj _ b);rw[List.flatMap_cons,jaj,List.length_cons];omega
theorem QpN:∀(l cnt:List Ev) (i:Nat) (c:List Ev),rep i cnt l=.inr c->AllG l/\Numd i l
 | [],cnt,i,c,h=>⟨fun e a=>(by cases a),trivial⟩
 | e::l,cnt,i,c,h=>by
  unfold rep at h;by_cases a:YM i cnt e=0
  ·rw[jTj a] at h;obtain⟨d,f⟩:=QpN l _ _ c h;obtain⟨k,g,j,_⟩:=kJ a;refine⟨fun x b=>?_,j,f⟩;obtain rfl|b:=List.mem_cons.1 b
   ·exact⟨k,g⟩
   ·exact d x b
  ·rw[jFj a] at h;cases h
theorem Qpv (i:Nat)(cnt:List Ev)(e:Ev)(l:List Ev):rep i cnt (e::l)=if YM i cnt e=0 then rep (i+1) (VO cnt e) l else .inl ((i:Int)+1,YM i cnt e):=rfl
theorem QpO:∀(a b cnt:List Ev) (i:Nat) (c:List Ev),rep i cnt (a++b)=.inr c->∃d,rep i cnt a=.inr d/\rep (i+a.length) d b=.inr c
 | [],b,cnt,i,c,h=>⟨cnt,rfl,h⟩
 | e::a,b,cnt,i,c,h=>by
  rw[List.cons_append,Qpv] at h;by_cases f:YM i cnt e=0
  ·rw[jTj f] at h;obtain⟨d,g,j⟩:=QpO a b _ _ c h;refine⟨d,by rw[Qpv,jTj f];exact g,?_⟩;rw[show i+(e::a).length=i+1+a.length by simp;omega];exact j
  ·rw[jFj f] at h;cases h
theorem QpQ:∀{l:List Ev} {k i:Nat} {e:Ev},Numd k l->l[i]?=some e->e.1=((k+i:Nat):Int)+1
 | [],_,_,_,_,h=>by simp at h
 | x::l,k,0,e,h,a=>by
  have:x=e:=by simpa using a
  subst this;exact h.1
 | x::l,k,i+1,e,h,a=>by have:=QpQ h.2 (by simpa using a:l[i]?=some e);rw[this];omega
theorem Qpn {l:List Ev}(h:Numd 0 l)(w:Nat):Numd 0 (l.take w):=by rw[<-List.take_append_drop w l] at h;exact((QoW _ _ 0).1 h).1
theorem QoS {l:List Ev}(h:AllG l)(w:Nat):AllG (l.take w):=fun e a=>h e (List.mem_of_mem_take a)
def endD (l:List Ev):jVj:=(Qoa 0 l).map fun x:Nat=>I (x:Int)
theorem QpT {l:List Ev}{i:Nat}(h:i<l.length):(nth (endD l) (Int.toNat (i:Int))).bind Vt=some (((l.take (i+1)).flatMap recL).length:Int):=by rw[jtj,Ub];unfold endD;rw[List.getElem?_map,Qpe l 0 i h,Nat.zero_add];rfl
theorem Qpu {n:Nat}(E:3000<=n){l:List Ev}(G:l.length<=20)(m:AllG l)(b:Numd 0 l)(y z A:Int):∀(a:List Ev) (i K:Nat),l.drop i=a->i<=l.length->a.length<K ->
  Q2 (QnI n (l.map Zr) y z A) K (mkS ((l.take i).flatMap recL),(i:Int),(endD l).take i)=some (mkS (l.flatMap recL),endD l)
 | _,_,0,_,_,h=>absurd h (by omega)
 | [],i,K+1,hd,hi,_=>by
  have u:i=l.length:=by have:=List.drop_eq_nil_iff.1 hd;omega
  have d:(endD l).length=l.length:=by unfold endD;rw[jlj,Qn5]
  refine JB ?_;unfold QnI;dsimp only;rw[jFj (by rw[jlj];omega),u,List.take_length,<-d,List.take_length]
 | e::a,i,K+1,hd,hi,hK=>by
  obtain⟨g,j,p⟩:=QkA hd;obtain⟨k,C⟩:=m e (jgj j);have d:(endD l).length=l.length:=by unfold endD;rw[jlj,Qn5]
  have o:=Qpq (QoS m i);rw[List.length_take] at o;have w:=Qpb (QoS m i) (Qpn b i) (t:=[]) (by simp);rw[List.append_nil,jTj rfl] at w;have q:QkS ((l.take i).flatMap recL)=0:=by show(recP _ 0).2.2=0;rw[w]
  have r:Qj5 ((l.take i).flatMap recL)=l.take i:=by show(recP _ 0).1=_;rw[w]
  have s:=QpQ b j;have c:=QmU E (l:=(l.take i).flatMap recL) (by omega) (Qoo C);have H:Qt [QkS ((l.take i).flatMap recL),chk e,QF (e.1 != ((Qj5 ((l.take i).flatMap recL)).length:Int)+1) 11]=0:=by rw[q,Qpr C,r,List.length_take,s,show min i l.length=i by omega,Nat.zero_add];simp[Qt,QF]
  rw[jTj H] at c;have x:l.take (i+1)=l.take i++[e]:=by rw[List.take_add_one,j];rfl
  have f:(l.take (i+1)).flatMap recL=(l.take i).flatMap recL++recL e:=by rw[x,List.flatMap_append];simp
  have F:0<(recL e).length:=by rw[Qn1];simp
  have J:=Qpu E G m b y z A a (i+1) K p g (by simp at hK;omega);refine(E3 ?_).trans J;unfold QnI;dsimp only;rw[jTj (ZD j),qf j,jBj,c,jBj];dsimp only;rw[jTj rfl,QiF,QiF,jFj (by rw[jaj];omega),jTj (V7 (by decide) (by rw[List.length_take];omega)),jTj (i64 (by omega) (by omega)),f];have v:(endD l)[i]?=some (I (((l.take i).flatMap recL++recL e).length:Int)):=by unfold endD;rw[List.getElem?_map,Qpe l 0 i g,Nat.zero_add,f];rfl
  rw[List.take_add_one,v];rfl
theorem Qo7 {n:Nat}(l:List Ev)(p:l.length<=20)(j:jVj)(g k m:Int)(s:Wrd)(sz:Nat)(c:Int.tmod (IntKind.wrap .i64 g) (((mkS s).size:Int)+1)=(sz:Int)):∀(a:List Nat) (i w K:Nat),(Qoa 0 l).drop i=a->i<=l.length->w<=i->a.length<K ->
  Q2 (QnD n j g k m (mkS s,endD l)) K ((w:Int),(i:Int))=some ((w+a.countP (·<=sz):Nat):Int)
 | _,_,_,0,_,_,_,h=>absurd h (by omega)
 | [],i,w,K+1,hd,hi,hw,_=>by
  have b:(endD l).length=l.length:=by unfold endD;rw[jlj,Qn5]
  have q:i=l.length:=by have:=List.drop_eq_nil_iff.1 hd;rw[Qn5] at this;omega
  refine JB ?_;unfold QnD;dsimp only;rw[jFj (by rw[b];omega)];rfl
 | x::a,i,w,K+1,hd,hi,hw,hK=>by
  obtain⟨d,r,e⟩:=QkA hd;have b:(endD l).length=l.length:=by unfold endD;rw[jlj,Qn5]
  rw[Qn5] at d;have f:(nth (endD l) (Int.toNat (i:Int))).bind Vt=some (x:Int):=by rw[jtj,Ub];unfold endD;rw[List.getElem?_map,r];rfl
  simp only[List.length_cons] at hK;by_cases h:x<=sz
  ·have o:=Qo7 (n:=n) l p j g k m s sz c a (i+1) (w+1) K e d (by omega) (by omega);rw[List.countP_cons_of_pos (by simpa using h),show w+(a.countP (·<=sz)+1)=w+1+a.countP (·<=sz) by omega];refine(E3 ?_).trans o;unfold QnD;dsimp only;rw[jTj (by rw[b];omega),jTj (by rw[b];omega),f,jBj,c,jTj (by omega),jTj (i64 (by omega) (by omega)),jTj (i64 (by omega) (by omega))];rfl
  ·have o:=Qo7 (n:=n) l p j g k m s sz c a (i+1) w K e d (by omega) (by omega);rw[List.countP_cons_of_neg (by simpa using h)];refine(E3 ?_).trans o;unfold QnD;dsimp only;rw[jTj (by rw[b];omega),jTj (by rw[b];omega),f,jBj,c,jFj (by omega),jTj (i64 (by omega) (by omega))];rfl
theorem QpP {n:Nat}(g:3000<=n){s:Wrd}(j:s.length<=2000){m c:List Ev}(o:m.length<=20)(d:AllG m){p:Nat}{err:Int}(i:recP (spl 10 s) 0=(m,p,err))(b:err=0\/err=28)(hc:rep 0 [] m=.inr c):Qn6 n (mkS s)=some (0,m.map Zr,c.map Zr,Vb (QD c)):=by
 have h:=Xg (n:=n) (by omega) m (by omega) (fun e l=>by obtain⟨k,f⟩:=d e l;exact Qoo f);rw[hc] at h;unfold Qn6;rw[Qld g j,jBj,i];dsimp only;by_cases a:err=0
 ·rw[jTj a,h.1,jBj];dsimp only;rw[jTj rfl]
 ·rw[jFj a,jTj (b.resolve_left a),h.1,jBj];dsimp only;rw[jTj rfl]
theorem QpK {n:Nat}(o:3000<=n){l:List Ev}(y:l.length<=20)(s:AllG l)(w:Nat)(z:w<=l.length)(p q r:Int)(v:jSj×jVj)(d:Int×jVj×jVj×X1){c:List Ev}:∀(a pre cnt:List Ev) (i K:Nat),l=pre++a->pre.length=w+i->rep (w+i) cnt a=.inr c->OkL cnt->cnt.length<=pre.length->a.length<K ->
  Q2 (QnC n (l.map Zr) p q r v (w:Int) d) K ((i:Int),stS (pre.map Zr) (cnt.map Zr) (QD cnt))=some (stS (l.map Zr) (c.map Zr) (QD c))
 | _,_,_,_,0,_,_,_,_,_,h=>absurd h (by omega)
 | [],pre,cnt,i,K+1,hd,hp,hr,hk,hc,_=>by
  rw[List.append_nil] at hd;subst hd;have:cnt=c:=by cases hr;rfl
  subst this;refine JB ?_;unfold QnC;dsimp only;rw[jFj (by rw[jtj,List.length_drop,jlj];omega)]
 | e::a,pre,cnt,i,K+1,hd,hp,hr,hk,hc,hK=>by
  obtain⟨k,b⟩:=s e (by rw[hd];simp);have t:l.length=pre.length+(a.length+1):=by rw[hd];simp
  unfold rep at hr;by_cases f:YM (w+i) cnt e=0;case neg=>rw[jFj f] at hr;cases hr
  rw[jTj f] at hr;obtain⟨x,C⟩:=Xk hk (by omega) f;have j:(l.map Zr).drop w=(l.drop w).map Zr:=(List.map_drop).symm;have u:(l.drop w)[i]?=some e:=by rw[List.getElem?_drop,<-hp,hd];simp
  have m : YM (pre.map Zr).length cnt e=0:=by rw[jlj,hp];exact f
  have g:=Qqe o (evs:=pre.map Zr) (by rw[jlj];omega) hk (by omega) b m;have A:=QpK o y s w z p q r v d a (pre++[e]) (VO cnt e) (i+1) K (by rw[hd];simp) (by simp;omega) hr x (by simp;omega) (by simp at hK;omega);refine(E3 ?_).trans A;unfold QnC;dsimp only;rw[jtj,j,jTj (ZD u),qf u,jBj,QpI o b,jBj];dsimp only[stS];rw[g,jBj];dsimp only[outA,Vb];rw[jTj rfl,jTj (i64 (by omega) (by omega)),List.map_append];rfl
def qLs:List Wrd:=[[115,116,97,116,101],[114,97,116,101],[97,105,109,101,100],[98,111,111,107,115],[111,102,102,101,114,115],[100,105,114,116,32,97],[99,111,117,110,116,32,110]]
theorem QqB (r:Reg):∀q,q∈qLs->(0<q.length/\q.length<=2000)/\∃a,askA r q=some a:=fun q b=>by simp only[qLs,List.mem_cons,List.not_mem_nil,or_false] at b;obtain rfl|rfl|rfl|rfl|rfl|rfl|rfl:=b;all_goals exact⟨⟨by decide,by decide⟩,_,rfl⟩
theorem Qpy:QnU 5000=some (qLs.map eS):=by kernel_rfl
def st4 (i:Int)(evs cnt:jVj)(r:Reg):Int×Int×Int×Bool×Bool×Int×Int×Int×jVj×jVj×jVj×jVj×jVj×StT:=(i,r.tick,r.level,r.filled,r.tripped,r.light,r.heat,r.money,evs,cnt,r.sectors.map Sd,r.mirrors.map QY,r.offers.map Zj,stS evs cnt r)
theorem Qo8 {n:Nat}(j:3000<=n){evs cnt:jVj}{c:Nat}{r:Reg}(k:Inv c r)(hc:c<=40)(m:SzR r){step:Int×Int×Int×Bool×Bool×Int×Int×Int×jVj×jVj×jVj×jVj×jVj×StT->Option (Int×Int×Int×Bool×Bool×Int×Int×Int×jVj×jVj×jVj×jVj×jVj×StT⊕StT)}
  (o:∀(i:Nat) (q:Wrd) (a:jSj) (b:Int),qLs[i]?=some q->Qnx n (mkS q) evs cnt r.tick r.level r.filled r.tripped r.light r.heat r.money (r.sectors.map Sd) (r.mirrors.map QY) (r.offers.map Zj)=some (a,b,outA evs cnt r)->step (st4 (i:Int) evs cnt r)=some (.inl (st4 ((i+1:Nat):Int) evs cnt r)))
  (p:step (st4 (7:Nat) evs cnt r)=some (.inr (stS evs cnt r))):∀(d:List Wrd) (i K:Nat),qLs.drop i=d->i<=7->d.length<K->Q2 step K (st4 (i:Int) evs cnt r)=some (stS evs cnt r)
 | _,_,0,_,_,h=>absurd h (by omega)
 | [],i,K+1,hd,hi,_=>by
  have:i=7:=by have:=List.drop_eq_nil_iff.1 hd;simp[qLs] at this;omega
  subst this;exact JB p
 | q::d,i,K+1,hd,hi,hK=>by obtain⟨g,l,e⟩:=QkA hd;obtain⟨⟨s,t⟩,a,u⟩:=QqB r q (jgj l);have f:=Qqz j s t evs cnt k hc m u;exact(E3 (o i q _ _ l f)).trans (Qo8 j k hc m o p d (i+1) K e (by simp[qLs] at g;omega) (by simp at hK;omega))
def Qo9 (n:Nat)(a:jVj)(s:jSj)(ends:jVj)(b:Int):Option Bool :=
 if((a).length:Int)>1 then
  if Qh (((a).length:Int) - 1) then
  if(((a).length:Int) - 1)≠0 then
  if(Int.tmod (IntKind.wrap .i64 b) (((a).length:Int) - 1))>0 then
   if Qh ((Int.tmod (IntKind.wrap .i64 b) (((a).length:Int) - 1)) - 1) then
   if 0<=((Int.tmod (IntKind.wrap .i64 b) (((a).length:Int) - 1)) - 1)/\((Int.tmod (IntKind.wrap .i64 b) (((a).length:Int) - 1)) - 1)<((ends).length:Int) then
   ((nth (ends) (Int.toNat ((Int.tmod (IntKind.wrap .i64 b) (((a).length:Int) - 1)) - 1))).bind Vt).bind fun d =>
   (Qi7 s none (some d)).bind fun c =>
   if 0<=(Int.tmod (IntKind.wrap .i64 b) (((a).length:Int) - 1))/\(Int.tmod (IntKind.wrap .i64 b) (((a).length:Int) - 1))<((ends).length:Int) then
   ((nth (ends) (Int.toNat (Int.tmod (IntKind.wrap .i64 b) (((a).length:Int) - 1)))).bind Vt).bind fun e =>
   (Qi7 s (some e) none).bind fun g =>
   if c.size+g.size<=9223372036854775807 then
   (Qjc n (c++g)).bind fun j =>
   if j.2.2=11 then
    (WI n).bind fun k =>
    some k
   else
   none
   else none
   else none
   else none
   else none
  else
  (Qi7 s none (some 0)).bind fun f =>
  if 0<=(Int.tmod (IntKind.wrap .i64 b) (((a).length:Int) - 1))/\(Int.tmod (IntKind.wrap .i64 b) (((a).length:Int) - 1))<((ends).length:Int) then
  ((nth (ends) (Int.toNat (Int.tmod (IntKind.wrap .i64 b) (((a).length:Int) - 1)))).bind Vt).bind fun d =>
  (Qi7 s (some d) none).bind fun c =>
  if f.size+c.size<=9223372036854775807 then
  (Qjc n (f++c)).bind fun e =>
  if e.2.2=11 then
   (WI n).bind fun i =>
   some i
  else
  none
  else none
  else none
  else none
  else none
 else
 (WI n).bind fun h =>
 some h
theorem QpZ {n:Nat}(H:3000<=n){l:List Ev}(Y:l.length<=20)(G:AllG l)(q:Numd 0 l){o:Int}(V:0<=o/\o<=65535):Qo9 n (l.map Zr) (mkS (l.flatMap recL)) (endD l) o=some true:=by
 have J:=Qpq G;have t:(endD l).length=l.length:=by unfold endD;rw[jlj,Qn5]
 unfold Qo9;rw[jlj,t];by_cases F:(l.length:Int)>1;case neg=>rw[jFj F];rfl
 obtain⟨A,K⟩:∃A:Nat,o=(A:Int):=⟨o.toNat,by omega⟩
 obtain⟨M,X⟩:∃M:Nat,l.length=M+1:=⟨l.length - 1,by omega⟩
 have T:IntKind.wrap .i64 o=(A:Int):=by rw[K];exact Qms (i64 (by omega) (by omega))
 have O:(l.length:Int) - 1=(M:Int):=by omega
 have S:Int.tmod (A:Int) (M:Int)=((A % M:Nat):Int):=rfl;have w:A % M<M:=Nat.mod_lt _ (by omega);rw[jTj F,O,jTj (i64 (by omega) (by omega)),jTj (by omega),T,S];generalize A % M=R at w;obtain⟨e,x,post,a⟩:∃e x post,l=l.take R++e::x::post:=by have r:=List.drop_eq_getElem_cons (show R<l.length by omega);have s:=List.drop_eq_getElem_cons (show R+1<l.length by omega);exact⟨_,_,_,by rw[<-s,<-r,List.take_append_drop]⟩
 have C:(l.take R).length=R:=by rw[List.length_take];omega
 have m:l.take (R+1)=l.take R++[e]:=by
  conv=>lhs;rw[a]
  rw[List.take_append,List.take_of_length_le (by omega),C,Nat.add_sub_cancel_left];rfl
 have d:l.flatMap recL=(l.take (R+1)).flatMap recL++(x::post).flatMap recL:=by rw[m,<-List.flatMap_append,List.append_assoc];exact congrArg (List.flatMap recL) a
 have f:(l.flatMap recL).drop ((l.take (R+1)).flatMap recL).length=(x::post).flatMap recL:=by rw[d];simp
 have p:((l.take (R+1)).flatMap recL).length<=(l.flatMap recL).length:=by rw[d];simp
 have y:(l.take R).flatMap recL++((l.take (R+1)).flatMap recL).drop ((l.take R).flatMap recL).length=(l.take (R+1)).flatMap recL:=by rw[m,List.flatMap_append];simp
 have h:(l.flatMap recL).take ((l.take R).flatMap recL).length=(l.take R).flatMap recL:=by rw[d,<-y,List.append_assoc];simp
 have u:((l.take R).flatMap recL).length<=(l.flatMap recL).length:=by rw[<-h,List.length_take];omega
 have j:((l.take R).flatMap recL++(x::post).flatMap recL).length<=2000:=by
  have:=congrArg List.length d;rw[jaj] at this ⊢;have W:((l.take R).flatMap recL).length<=((l.take (R+1)).flatMap recL).length:=by rw[m,List.flatMap_append];simp
  omega
 have v:=j;rw[jaj] at v;have c:(recP (spl 10 ((l.take R).flatMap recL++(x::post).flatMap recL)) 0).2.2=11:=QpA (e:=e) (by rw[<-a];exact G) (by rw[<-a];exact q);have k:=QpT (l:=l) (i:=R) (by omega);by_cases E:(R:Int)>0
 ·obtain⟨Q,L⟩:∃Q,R=Q+1:=⟨R - 1,by omega⟩
  have g:=QpT (l:=l) (i:=Q) (by omega);rw[<-L] at g;have P:(R:Int) - 1=(Q:Int):=by omega
  rw[jTj E,P,jTj (i64 (by omega) (by omega)),jTj ⟨by omega,by omega⟩,g,jBj,QlT _ u,jBj,jTj ⟨by omega,by omega⟩,k,jBj,QjN _ p,jBj,h,f,jTj (by rw[QiF,QiF];omega),Qjy,Qld H j,jBj];dsimp only;rw[jTj c];rfl
 ·have N:R=0:=by omega
  have U:(l.take R).flatMap recL=[]:=by rw[N];rfl
  rw[U] at j c;have z:Qi7 (mkS (l.flatMap recL)) none (some 0)=some (mkS []):=QlT (l.flatMap recL) (b:=0) (Nat.zero_le _);rw[jFj E,z,jBj,jTj ⟨by omega,by omega⟩,k,jBj,QjN _ p,jBj,f,jTj (by rw[QiF,QiF];simp only[List.length_nil];omega),Qjy,Qld H j,jBj];dsimp only;rw[jTj c];rfl
theorem Qqo {l:List Ev}(h:l≠[]):0<(l.flatMap recL).length:=by
 cases l with
 | nil=>exact absurd rfl h
 | cons e l=>rw[List.flatMap_cons,Qn1];simp only[jaj,List.length_singleton];omega
theorem QqA {x:Int}(h:0<=x/\x<=255):IntKind.wrap .u8 x=x:=by
 have:∀k:Fin 256,IntKind.wrap .u8 ((k.val:Nat):Int)=((k.val:Nat):Int):=by decide
 have a:=this ⟨x.toNat,by omega⟩;simp only at a;rwa [show((x.toNat:Nat):Int)=x by omega] at a
theorem Qqr {x:Int}(h:0<=x/\x<=65535):IntKind.wrap .u16 x=x:=by unfold IntKind.wrap IntKind.bits IntKind.signed;simp only[Bool.false_and,Bool.false_eq_true,if_false];omega
theorem Qpl (l:List Ev){z E u:Int}(h1:0<=z/\z<=65535)(h2:0<=E/\E<=65535)(h3:0<=u/\u<=65535):Qn3 5000 (l.map Zr) z E u=some true:=by
 have H:3000<=5000:=by decide
 unfold Qn3;refine bnd (Qf9 (n:=5000) (by decide) l 20 (by decide)) ?_;by_cases Q:okB l 20=true;case neg=>rw[jFj Q];rfl
 rw[jTj Q];obtain⟨⟨hl,hs⟩,c,hc⟩:=QgZ Q;obtain⟨y,m⟩:=QpN l [] 0 c hc;obtain⟨M,d0⟩:=Qaq l [] 0 c Jx (jLj 0) hc;by_cases h0:l=[]
 ·rw[jTj (by rw[h0];rfl)];rfl
 have d1:0<l.length:=List.length_pos_iff.2 h0;rw[jFj (by rw[jlj];omega)];have c9:=Qpq y;have a8:=Qqo h0;have L:=GG M (by omega);have b3:=Qqs M;refine bnd (Qpu H hl y m z E u l 0 5000 rfl (Nat.zero_le _) (by omega)) ?_;dsimp only;obtain⟨A,hA⟩:∃A:Nat,z=(A:Int):=⟨z.toNat,by omega⟩
 obtain⟨B,hB⟩:∃B:Nat,E=(B:Int):=⟨E.toNat,by omega⟩
 have c5:IntKind.wrap .i64 z=(A:Int):=by rw[hA];exact Qms (i64 (by omega) (by omega))
 have c6:IntKind.wrap .i64 E=(B:Int):=by rw[hB];exact Qms (i64 (by omega) (by omega))
 have b6:Int.tmod (IntKind.wrap .i64 z) (((mkS (l.flatMap recL)).size:Int)+1)=((A % ((l.flatMap recL).length+1):Nat):Int):=by rw[c5,QiF];rfl
 have c4:Int.tmod (IntKind.wrap .i64 E) ((mkS (l.flatMap recL)).size:Int)=((B % (l.flatMap recL).length:Nat):Int):=by rw[c6,QiF];rfl
 have a6:A % ((l.flatMap recL).length+1)<(l.flatMap recL).length+1:=Nat.mod_lt _ (by omega);have G:B % (l.flatMap recL).length<(l.flatMap recL).length:=Nat.mod_lt _ a8;rw[jTj (by rw[QiF];exact i64 (by omega) (by omega)),jTj (by rw[QiF];omega)];refine bnd (Qo7 (n:=5000) l hl (l.map Zr) z E u (l.flatMap recL) _ b6 (Qoa 0 l) 0 0 5000 rfl (Nat.zero_le _) (jLj _) (by rw[Qn5];omega)) ?_;rw[b6,c4];generalize A % ((l.flatMap recL).length+1)=sz at a6;generalize B % (l.flatMap recL).length=k at G;obtain⟨t,U,c3,b5⟩:=QpV l 0 sz y (Nat.zero_le _);rw[Nat.sub_zero] at U;rw[Nat.zero_add];generalize (Qoa 0 l).countP (·<=sz)=w at U b5;rw[QlT _ (by omega),jBj];have hr:=Qpb (QoS y w) (Qpn m w) c3;rw[<-U] at hr;have b2:((l.flatMap recL).take sz).length<=2000:=by rw[List.length_take];omega
 have a9:=Qpb y m (t:=[]) (by simp);rw[List.append_nil,jTj rfl] at a9;obtain⟨c1,Y,O⟩:=QpO (l.take w) (l.drop w) [] 0 c (by rw[List.take_append_drop];exact hc);obtain⟨a7,a0⟩:=Qaq _ [] 0 c1 Jx (jLj 0) Y;have b7:(l.take w).length=w:=by rw[List.length_take];omega
 rw[b7] at O a0;rw[Nat.zero_add] at O;refine bnd (Qld H b2) ?_;refine bnd (QpP H b2 (by rw[b7];omega) (QoS y w) hr (by split<;>simp) Y) ?_;refine bnd (QpP H (by omega) (by omega) y a9 (.inl rfl) hc) ?_;rw[hr];dsimp only;have J:Qd1 5000 ((l.take w).map Zr) (((l.map Zr).take (Int.toNat (w:Int))).drop (Int.toNat 0))=some true:=by
  rw[jtj,<-List.map_take];exact Qec _ (fun e he=>by obtain⟨j,hj⟩:=y e (List.mem_of_mem_take he);have:=Qnv j;have:=hj.names;have:=hj.vals;omega) (by omega) (by omega) (by decide)
 have W:(0:Int)<=0/\0<=(w:Int)/\(w:Int)<=((l.map Zr).length:Int)/\(l.map Zr=[]\/5=5):=⟨by decide,by omega,by rw[jlj];omega,.inr rfl⟩
 have X:0<=(w:Int)/\(w:Int)<=((l.map Zr).length:Int)/\((l.map Zr).length:Int)<=((l.map Zr).length:Int)/\(l.map Zr=[]\/5=5):=⟨by omega,by rw[jlj];omega,Int.le_refl _,.inr rfl⟩
 have a5:=fun t4 c7=>QpK H hl y w b5 z E u t4 c7 (c:=c) (l.drop w) (l.take w) c1 0 5000 (List.take_append_drop w l).symm (by omega) O a7 (by omega) (by rw[List.length_drop];omega);have F:=Qqi (n:=5000) H l (by omega) y;have V:=QpZ H hl y m h3;have hx:∃d,(l.flatMap recL)[k]?=some d:=⟨_,jej G⟩
 obtain⟨d,hd⟩:=hx;have a4:WQ (mkS (l.flatMap recL)) (k:Int)=some (d.toNat:Int):=by rw[Qi8,hd];rfl
 have b9:=d.toNat_lt;obtain⟨C,hC⟩:∃C:Nat,u=(C:Int):=⟨u.toNat,by omega⟩
 have Z:IntKind.wrap .u8 (IntKind.wrap .u16 (32+(Int.tmod u 200)))=((32+C % 200:Nat):Int):=by
  have e1:Int.tmod u 200=((C % 200:Nat):Int):=by rw[hC];rfl
  have e2:C % 200<200:=Nat.mod_lt _ (by decide);rw[e1,Qqr (by omega),QqA (by omega)];omega
 have c8:C % 200<200:=Nat.mod_lt _ (by decide);have s:((qV ([.v (.int .u8 ((32+C % 200:Nat):Int))])).map fun l=>ByteArray.mk l.toArray)=some (mkS [UInt8.ofNat (32+C % 200)]):=rfl;have K:(UInt8.ofNat (32+C % 200)).toNat=32+C % 200:=by simp only[UInt8.toNat_ofNat'];omega
 have N:mkS ((l.flatMap recL).take k)++mkS [UInt8.ofNat (32+C % 200)]++mkS ((l.flatMap recL).drop (k+1))=mkS ((l.flatMap recL).set k (UInt8.ofNat (32+C % 200))):=by rw[Qjy,Qjy,List.set_eq_take_append_cons_drop,jTj G,List.append_assoc];rfl
 have g:∀x:Option Bool,x=Qo9 5000 (l.map Zr) (mkS (l.flatMap recL)) (endD l) u->x=some true:=fun x h=>h.trans V;have o:((qLs.map eS).length:Int)=((7:Nat):Int):=rfl;by_cases b4:t=[]
 ·rw[jTj b4,jTj rfl,jTj W,J,jBj,jTj rfl,jTj rfl,jTj rfl,jTj X];refine bnd (a5 _ _) ?_;refine bnd Qpy ?_;refine bnd (Qo8 H (evs:=l.map Zr) (cnt:=c.map Zr) L (by omega) b3 (step:=QnH 5000 (l.map Zr) z E u (mkS (l.flatMap recL),endD l) (qLs.map eS)) (fun i q a b hq P=>by have hi:=(jGj hq).1;have c0:i<7:=hi;unfold QnH;dsimp only[st4,stS];refine(jTj (show(i:Int)<((qLs.map eS).length:Int) from by rw[o];omega)).trans ?_;rw[Qml hq,jBj,P,jBj,jBj];dsimp only[outA,Vb];rw[jTj rfl,jFj (by simp)];exact(jTj (show Qh ((i:Int)+1) from i64 (by omega) (by omega))).trans rfl) (by unfold QnH;dsimp only[st4,stS];exact jFj (show ¬(((7:Nat):Int)<((qLs.map eS).length:Int)) from by rw[o];omega)) qLs 0 5000 rfl (Nat.zero_le _) (by decide)) ?_
  refine bnd (F _ _ _ _ _ _ _ _ _ _ _) ?_;rw[jFj (by simp),jTj (by rw[QiF];omega),a4,jBj];by_cases f:(d.toNat:Int)=10
  ·rw[jTj f];exact g _ rfl
  rw[jFj f,Z];by_cases p:((32+C % 200:Nat):Int)=(d.toNat:Int)
  ·rw[jTj p];exact g _ rfl
  rw[jFj p,s,QlT _ (by omega),jBj,jBj,jTj (by rw[QiF,QiF,List.length_take];simp only[List.length_cons,List.length_nil];omega),jTj (i64 (by omega) (by omega)),show(k:Int)+1=((k+1:Nat):Int) from rfl,QjN _ (by omega),jBj,jTj (by rw[Qjy,QiF,QiF];simp only[jaj,List.length_take,List.length_drop,List.length_cons,List.length_nil];omega),N];obtain⟨r,S,T,c2⟩:=Qo5 y m (c:=UInt8.ofNat (32+C % 200)) hd (fun e=>f (by rw[e];rfl)) (fun e=>p (by rw[<-e,K])) (fun e=>by have:=congrArg UInt8.toNat e;rw[K] at this;have b8:(10:UInt8).toNat=10:=rfl;omega);refine bnd (Qld H (by rw[List.length_set];omega)) ?_;dsimp only;rw[S,jFj T,jFj (by rw[QiF];omega)];exact g _ rfl
 ·rw[jFj b4,jFj (by decide),jTj rfl,jTj W,J,jBj,jTj rfl,jTj rfl,jTj rfl,jTj X];refine bnd (a5 _ _) ?_;refine bnd Qpy ?_;refine bnd (Qo8 H (evs:=l.map Zr) (cnt:=c.map Zr) L (by omega) b3 (step:=QnG 5000 (l.map Zr) z E u (mkS (l.flatMap recL),endD l) (qLs.map eS)) (fun i q a b hq P=>by have hi:=(jGj hq).1;have c0:i<7:=hi;unfold QnG;dsimp only[st4,stS];refine(jTj (show(i:Int)<((qLs.map eS).length:Int) from by rw[o];omega)).trans ?_;rw[Qml hq,jBj,P,jBj,jBj];dsimp only[outA,Vb];rw[jTj rfl,jFj (by simp)];exact(jTj (show Qh ((i:Int)+1) from i64 (by omega) (by omega))).trans rfl) (by unfold QnG;dsimp only[st4,stS];exact jFj (show ¬(((7:Nat):Int)<((qLs.map eS).length:Int)) from by rw[o];omega)) qLs 0 5000 rfl (Nat.zero_le _) (by decide)) ?_
  refine bnd (F _ _ _ _ _ _ _ _ _ _ _) ?_;rw[jFj (by simp),jTj (by rw[QiF];omega),a4,jBj];by_cases f:(d.toNat:Int)=10
  ·rw[jTj f];exact g _ rfl
  rw[jFj f,Z];by_cases p:((32+C % 200:Nat):Int)=(d.toNat:Int)
  ·rw[jTj p];exact g _ rfl
  rw[jFj p,s,QlT _ (by omega),jBj,jBj,jTj (by rw[QiF,QiF,List.length_take];simp only[List.length_cons,List.length_nil];omega),jTj (i64 (by omega) (by omega)),show(k:Int)+1=((k+1:Nat):Int) from rfl,QjN _ (by omega),jBj,jTj (by rw[Qjy,QiF,QiF];simp only[jaj,List.length_take,List.length_drop,List.length_cons,List.length_nil];omega),N];obtain⟨r,S,T,c2⟩:=Qo5 y m (c:=UInt8.ofNat (32+C % 200)) hd (fun e=>f (by rw[e];rfl)) (fun e=>p (by rw[<-e,K])) (fun e=>by have:=congrArg UInt8.toNat e;rw[K] at this;have b8:(10:UInt8).toNat=10:=rfl;omega);refine bnd (Qld H (by rw[List.length_set];omega)) ?_;dsimp only;rw[S,jFj T,jFj (by rw[QiF];omega)];exact g _ rfl
theorem Qb7 {d:D}(h:Kd.ok (.lst false [.str]) d):∃l:List jSj,d=.lst false 1 (l.map Sd):=by
 obtain⟨es,rfl,l,h⟩:=Qdi h;obtain⟨a,rfl,b⟩:=yE (enc:=Sd) (p:=fun _=>True) (es:=es) (fun e c=>by obtain⟨x,rfl,b⟩:=ok_s (h e c);exact⟨x,rfl,trivial⟩)
 exact⟨a,rfl⟩
theorem Qda {d:D}(h:Kd.ok (.lst false [.int .i64]) d):∃l:List Int,d=.lst false 1 (l.map I):=by
 obtain⟨es,rfl,l,h⟩:=Qdi h;obtain⟨a,rfl,b⟩:=yE (enc:=I) (p:=fun _=>True) (es:=es) (fun e c=>by obtain⟨x,rfl,b⟩:=ok_i (h e c);exact⟨x,rfl,trivial⟩)
 exact⟨a,rfl⟩
theorem QdV {cs:jVj}(h:Kd.oks [.int .i64,.str,.lst false [.str],.lst false [.int .i64],.str] cs):∃e:Ev,D.agg cs=Zr e:=by obtain⟨q,v,rfl,d,l⟩:=ky h;obtain⟨a,rfl,_⟩:=ok_i d;obtain⟨r,w,rfl,g,m⟩:=ky l;obtain⟨b,rfl,_⟩:=ok_s g;obtain⟨s,x,rfl,i,n⟩:=ky m;obtain⟨c,rfl⟩:=Qb7 i;obtain⟨t,y,rfl,j,o⟩:=ky n;obtain⟨e,rfl⟩:=Qda j;obtain⟨u,z,rfl,k,p⟩:=ky o;obtain⟨f,rfl,_⟩:=ok_s k;rw[QdP p];exact⟨(a,b,c,e,f),rfl⟩
theorem QdB {d:D}(h:Kd.ok (.lst true [.int .i64,.str,.lst false [.str],.lst false [.int .i64],.str]) d):∃l:List Ev,d=.lst false 5 (l.map Zr):=by
 obtain⟨es,rfl,l,h⟩:=QdQ h;obtain⟨a,rfl,b⟩:=yE (enc:=Zr) (p:=fun _=>True) (es:=es) (fun e c=>by obtain⟨cs,rfl,q⟩:=h e c;obtain⟨x,f⟩:=QdV q;exact⟨x,f,trivial⟩)
 exact⟨a,rfl⟩
theorem Qpd (e:jVj)(m:okAs [(false,[.lst true [.int .i64,.str,.lst false [.str],.lst false [.int .i64],.str]]),(true,[.int .u16,.int .u16,.int .u16])] e):Computes cx 12 e (.v (.bool true)):=by obtain⟨x,E,rfl,n,k⟩:=Qcn m;obtain⟨s,rfl⟩:=QdB (Qdj n);obtain⟨y,F,rfl,o,l⟩:=Qcn k;obtain⟨cs,rfl,a⟩:=Qg3 o;obtain⟨z,G,rfl,p,b⟩:=ky a;obtain⟨t,rfl,h⟩:=ok_i p;have b1:=Qp4 h;obtain⟨A,H,rfl,q,c⟩:=ky b;obtain⟨u,rfl,i⟩:=ok_i q;have f:=Qp4 i;obtain⟨C,J,rfl,r,d⟩:=ky c;obtain⟨w,rfl,j⟩:=ok_i r;have g:=Qp4 j;rw[QdP d];cases Qds l;exact Qo1 (Qpl s b1 f g)
end Go.Proofs.YtljabneifpkbjaaGreatDoor
