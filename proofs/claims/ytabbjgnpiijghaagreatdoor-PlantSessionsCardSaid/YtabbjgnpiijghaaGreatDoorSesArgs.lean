/- Own texts. -/
import Derived.Test.YtabbjgnpiijghaaGreatDoorAwk
import Derived.Test.YtabbjgnpiijghaaGreatDoorPAsk
import Derived.Lib.Bytealg
import Derived.Lib.ItoaNum
import Derived.Lib.SlTrimSet
import Derived.Lib.Join
import Derived.KernelRfl
set_option linter.unusedSimpArgs false
set_option linter.unusedVariables false
set_option linter.unnecessarySimpa false
set_option maxRecDepth 10000
set_option maxHeartbeats 4000000
namespace Go.Proofs.YtabbjgnpiijghaaGreatDoor
open Go.SX
def Qd4 (n:Nat)(a0 a1:Int)(a2 a3:Bool)(a4 a5 a6:Int)(a7 a8 d:jVj)(c:jSj)(a:(Int×Int×Int)):Option (Int×Int×Int⊕Int×Int) := if a.1<((a8).length:Int) then(el QM a8 a.1).bind fun b=>if(b.2.1.toList==c.toList)=true then if Qh (a.2.1+1) then if b.2.2.2.2.2=true then if Qh (a.2.2+1) then if Qh (a.1+1) then some (.inl ((a.1+1),(a.2.1+1),(a.2.2+1))) else none else none else if Qh (a.1+1) then some (.inl ((a.1+1),(a.2.1+1),a.2.2)) else none else none else if Qh (a.1+1) then some (.inl ((a.1+1),a.2.1,a.2.2)) else none else some (.inr (a.2.1,a.2.2))
noncomputable def Qel (a0 a1:Int)(a2 a3:Bool)(a4 a5 a6:Int)(a7 a8 c:jVj)(b:jSj):Lp (Int×Int×Int) (Int×Int):=⟨fun a=>[(1,.d (Qr5 b)),(2,.ptr 0 0 0 0 0),(4,.ptr 1 0 0 0 0),(5,.ptr 2 0 0 0 0),(6,.d (I a.1))],fun a=>[(0,.box (.d (.agg [I a0,I a1,B a2,B a3,I a4,I a5,I a6,.lst false 1 a7,.lst false 6 a8,.lst false 7 c]))),(1,.box (.d (.agg [I 0,I 0]))),(2,.box (.d (.agg [I a.2.1,I a.2.2])))],fun _=>(.exit 0),fun _=>[(4,.ptr 1 0 0 0 0),(5,.ptr 2 0 0 0 0)],fun e=>[(1,.box (.d (.agg [I 0,I 0]))),(2,.box (.d (.agg [I e.1,I e.2])))]⟩
theorem Qek {n a0 a1 a2 a3 a4 a5 a6 a7 a8 e d}(f)(r)(h:Qd4 n a0 a1 a2 a3 a4 a5 a6 a7 a8 e d f=some r):Rl (ZJ cx.P 82 0) 37 0 false (Qel a0 a1 a2 a3 a4 a5 a6 a7 a8 e d) f r:=by
 unfold Qd4 at h;obtain⟨a,h⟩|⟨a,h⟩:=io h
 ·have⟨ta2,ha2,h⟩:=bo h;have q:=allE Qq ha2 (Qa (jDj a) QL);let o(l:jOj):=b1::.el (QB ta2)::l;obtain⟨b,h⟩|⟨b,h⟩:=io h
  ·have⟨ha4,h⟩:=gd h;have q:=allE Qq ha2 (Qa ha4 (Qa b q));let o l:=o (b1::.el (QB ta2)::l);obtain⟨c,h⟩|⟨c,h⟩:=io h
   ·have⟨ha6,h⟩:=gd h;have⟨ha7,h⟩:=gd h;cases h;exact rn 4 (o [b1]) [] [1,2,4,5,6] [0,1,2] (Qa ha7 (Qa ha6 (Qa c q)))
   have⟨ha6,h⟩:=gd h;cases h;exact rn 4 (o [b0]) [] [1,2,4,5,6] [0,1,2] (Qa ha6 (Qa (QA c) q))
  have⟨ha4,h⟩:=gd h;cases h;exact rn 4 (o [b0]) [] [1,2,4,5,6] [0,1,2] (Qa ha4 (Qa (QA b) q))
 cases h;exact rx 4 [b0] [] [4,5] [1,2] (Qa (jEj a) QL)
def Qd8 (n:Nat)(a0 a1:Int)(a2 a3:Bool)(a4 a5 a6:Int)(a7 a8 c:jVj)(a:jSj):Option (Int×Int) := (Q2 (Qd4 n a0 a1 a2 a3 a4 a5 a6 a7 a8 c a) n (0,0,0)).bind fun b=>some (b.1,b.2)
theorem Qet {n a0 a1 a2 a3 a4 a5 a6 a7 a8 b a r}(h:Qd8 n a0 a1 a2 a3 a4 a5 a6 a7 a8 b a=some r):Computes cx 82 [.agg [I a0,I a1,B a2,B a3,I a4,I a5,I a6,.lst false 1 a7,.lst false 6 a8,.lst false 7 b],Qr5 a] (.agg [I r.1,I r.2]):=by unfold Qd8 at h;have⟨t1,h1,h⟩:=bo h;cases h;exact rf [.lp [] [1,2,4,5,6] [0,1,2] (.exit 0) [(4,.ptr 1 0 0 0 0),(5,.ptr 2 0 0 0 0)] [(1,.box (.d (.agg [I 0,I 0]))),(2,.box (.d (.agg [I t1.1,I t1.2])))] 47] (Qa (QH Qek h1) QL)
def Qrc (n:Nat)(a0:jSj):Option (Bool) := (Q1 n a0).bind fun a=>some a.2.2
theorem Qrv {n a0 r}(h:Qrc n a0=some r):Computes cx 30 [Qr5 a0] (B r):=by unfold Qrc at h;have⟨t1,h1,h⟩:=bo h;obtain rfl:=oi h;exact rf [.ret (.agg [Qr5 t1.1,I t1.2.1,B t1.2.2])] (Qa (qq h1) QL)
def Qq6 (n:Nat)(a0:jVj)(a:(jSj×Int)):Option (jSj×Int⊕jSj) := if a.2<((a0).length:Int) then if a.1.size+(⟨#[32]⟩:jSj).size<=9223372036854775807 then(el Ww a0 a.2).bind fun b=>if(a.1++(⟨#[32]⟩:jSj)).size+b.size<=9223372036854775807 then if Qh (a.2+1) then some (.inl (((a.1++(⟨#[32]⟩:jSj))++b),(a.2+1))) else none else none else none else some (.inr a.1)
noncomputable def Qrr (a0:jVj):Lp (jSj×Int) (jSj):=⟨fun a=>[(0,.d (.lst false 1 a0)),(3,.d (Qr5 a.1)),(4,.d (I a.2))],fun _=>[],fun _=>(.exit 0),fun e=>[(3,.d (Qr5 e))],fun _=>[]⟩
theorem Qrq {n a0}(b)(r)(h:Qq6 n a0 b=some r):Rl (ZJ cx.P 83 0) 25 0 false (Qrr a0) b r:=by
 unfold Qq6 at h;obtain⟨a,h⟩|⟨a,h⟩:=io h
 ·have⟨ha2,h⟩:=gd h;have⟨ta3,ha3,h⟩:=bo h;have⟨ha4,h⟩:=gd h;have⟨ha5,h⟩:=gd h;cases h;exact rn 9 [b1,.el (Zy ta3)] [] [0,3,4] [] (Qa ha5 (Qa ha4 (allE Qr ha3 (Qa ha2 (Qa (jDj a) QL)))))
 cases h;exact rx 9 [b0] [] [3] [] (Qa (jEj a) QL)
def Qq2 (n:Nat)(a0:jVj):Option (jSj) := if((a0).length:Int)=0 then some ⟨#[110,111,110,101]⟩ else(el Ww a0 0).bind fun a=>(Q2 (Qq6 n a0) n (a,1)).bind fun b=>some b
theorem Qq5 {n a0 r}(h:Qq2 n a0=some r):Computes cx 83 [.lst false 1 a0] (Qr5 r):=by
 unfold Qq2 at h;obtain⟨a,h⟩|⟨a,h⟩:=io h
 ·cases h;exact rf [b1] (Qa (eqt a) QL)
 have⟨t2,h2,h⟩:=bo h;have⟨t3,h3,h⟩:=bo h;obtain rfl:=oi h;exact rf [b0,.el (Zy t2),.lp [] [0,3,4] [] (.exit 0) [(3,.d (Qr5 t3))] [] 35] (Qa (QH Qrq h3) (allE Qr h2 (Qa (eqf a) QL)))
def Qra (n:Nat)(a0 a1:Int)(a2 a3:Bool)(a4 a5 a6:Int)(a7 a8 e:jVj)(b:(Int×jVj)):Option (Int×jVj⊕jVj) := if b.1<((e).length:Int) then(el Z6 e b.1).bind fun a=>if a.2.2.2.2.2.2=true then if Qh (b.1+1) then some (.inl ((b.1+1),b.2)) else none else(Zg n a.1 a.2.1 a.2.2.1 a.2.2.2.1 a.2.2.2.2.1 a.2.2.2.2.2.1 a.2.2.2.2.2.2).bind fun c=>(Qjm n c).bind fun d=>if Wa 16 ((b.2).length+2) then if Qh (b.1+1) then some (.inl ((b.1+1),(b.2++([.v (.string a.1),.v (.string d)]:jVj)))) else none else none else some (.inr b.2)
noncomputable def Qrx (a0 a1:Int)(a2 a3:Bool)(a4 a5 a6:Int)(a7 a8 b:jVj):Lp (Int×jVj) (jVj):=⟨fun a=>[(2,.ptr 0 0 0 0 0),(9,.own 60 0),(10,.d (I a.1))],fun a=>[(0,.box (.d (.agg [I a0,I a1,B a2,B a3,I a4,I a5,I a6,.lst false 1 a7,.lst false 6 a8,.lst false 7 b]))),(60,.row 0 1 a.2)],fun _=>(.exit 2),fun _=>[(9,.own 60 0)],fun e=>[(60,.row 0 1 e)]⟩
theorem Qrw {n a0 a1 a2 a3 a4 a5 a6 a7 a8 c}(d)(r)(h:Qra n a0 a1 a2 a3 a4 a5 a6 a7 a8 c d=some r):Rl (ZJ cx.P 32 0) 143 0 false (Qrx a0 a1 a2 a3 a4 a5 a6 a7 a8 c) d r:=by
 unfold Qra at h;obtain⟨a,h⟩|⟨a,h⟩:=io h
 ·have⟨ta2,ha2,h⟩:=bo h;have q:=allE Q0 ha2 (Qa (jDj a) QL);obtain⟨b,h⟩|⟨b,h⟩:=io h
  ·have⟨ha4,h⟩:=gd h;cases h;exact rn 61 [b1,.el (Q7 ta2),b0] [] [2,9,10] [0,60] (Qa ha4 (Qa (Ud b) q))
  have⟨ta4,ha4,h⟩:=bo h;have⟨ta5,ha5,h⟩:=bo h;have⟨ha6,h⟩:=gd h;have⟨ha7,h⟩:=gd h;cases h;exact rn 61 [b1,.el (Q7 ta2),b1,.ret (I ta4),.ret (Qr5 ta5),b1] [] [2,9,10] [0,60] (Qa ha7 (Qa (ro 9 ha6) (Qa (Qj3 ha5) (Qa (JJ ha4) (Qa (Uc (QA b)) q)))))
 cases h;exact rx 61 [b0] [] [9] [60] (Qa (jEj a) QL)
def Qrd (n:Nat)(a0 a1:Int)(a2 a3:Bool)(a4 a5 a6:Int)(a7 a8 i:jVj)(k:jSj):Option (jSj×Int) := (Qi4 n k 32).bind fun e=>(el Ww e 0).bind fun d=>if(d.toList==(⟨#[115,116,97,116,101]⟩:jSj).toList)=true then if((e).length:Int)=1 then if(d.toList==(⟨#[]⟩:jSj).toList)=true then some (⟨#[]⟩,25) else(Qjm n a1).bind fun j=>if a2=true then if a3=true then(Qq2 n ([.v (.string ⟨#[102,105,108,108,101,100]⟩),.v (.string ⟨#[116,114,105,112,112,101,100]⟩),.v (.string j)])).bind fun c=>some (c,0) else(Qq2 n ([.v (.string ⟨#[102,105,108,108,101,100]⟩),.v (.string ⟨#[114,101,97,100,121]⟩),.v (.string j)])).bind fun c=>some (c,0) else if a3=true then(Qq2 n ([.v (.string ⟨#[101,109,112,116,121]⟩),.v (.string ⟨#[116,114,105,112,112,101,100]⟩),.v (.string j)])).bind fun c=>some (c,0) else(Qq2 n ([.v (.string ⟨#[101,109,112,116,121]⟩),.v (.string ⟨#[114,101,97,100,121]⟩),.v (.string j)])).bind fun c=>some (c,0) else some (⟨#[]⟩,25) else if(d.toList==(⟨#[114,97,116,101]⟩:jSj).toList)=true then if((e).length:Int)=1 then if(d.toList==(⟨#[]⟩:jSj).toList)=true then some (⟨#[]⟩,25) else(Yr n a0 a1 a2 a3 a4 a5 a6 a7 a8 i).bind fun r=>(Qjm n r).bind fun q=>(Qq2 n ([.v (.string q)])).bind fun c=>some (c,0) else some (⟨#[]⟩,25) else if(d.toList==(⟨#[97,105,109,101,100]⟩:jSj).toList)=true then if((e).length:Int)=1 then if(d.toList==(⟨#[]⟩:jSj).toList)=true then some (⟨#[]⟩,25) else(V4 n a0 a1 a2 a3 a4 a5 a6 a7 a8 i).bind fun q=>(Qq2 n q).bind fun c=>some (c,0) else some (⟨#[]⟩,25) else if(d.toList==(⟨#[98,111,111,107,115]⟩:jSj).toList)=true then if((e).length:Int)=1 then if(d.toList==(⟨#[]⟩:jSj).toList)=true then some (⟨#[]⟩,25) else(Qjm n a4).bind fun c=>(Qjm n a5).bind fun b=>(Qjm n a6).bind fun a=>(Qq2 n ([.v (.string c),.v (.string b),.v (.string a)])).bind fun f=>some (f,0) else some (⟨#[]⟩,25) else if(d.toList==(⟨#[111,102,102,101,114,115]⟩:jSj).toList)=true then if((e).length:Int)=1 then if(d.toList==(⟨#[]⟩:jSj).toList)=true then some (⟨#[]⟩,25) else(Q2 (Qra n a0 a1 a2 a3 a4 a5 a6 a7 a8 i) n (0,[])).bind fun b=>(Qq2 n b).bind fun a=>some (a,0) else some (⟨#[]⟩,25) else if(d.toList==(⟨#[100,105,114,116]⟩:jSj).toList)=true then if((e).length:Int)=2 then(el Ww e 1).bind fun b=>if(b.toList==(⟨#[]⟩:jSj).toList)=true then some (⟨#[]⟩,25) else(WW n a0 a1 a2 a3 a4 a5 a6 a7 a8 i 109 b).bind fun f=>if f<0 then some (⟨#[]⟩,10) else(el QM a8 f).bind fun m=>(Qjm n m.2.2.2.1).bind fun g=>(Qq2 n ([.v (.string g)])).bind fun h=>some (h,0) else some (⟨#[]⟩,25) else if(d.toList==(⟨#[99,111,117,110,116]⟩:jSj).toList)=true then if((e).length:Int)=2 then(el Ww e 1).bind fun a=>if(a.toList==(⟨#[]⟩:jSj).toList)=true then some (⟨#[]⟩,25) else(WW n a0 a1 a2 a3 a4 a5 a6 a7 a8 i 115 a).bind fun l=>if l<0 then some (⟨#[]⟩,10) else(Qd8 n a0 a1 a2 a3 a4 a5 a6 a7 a8 i a).bind fun g=>(Qjm n g.1).bind fun h=>(Qjm n g.2).bind fun o=>(Qq2 n ([.v (.string h),.v (.string o)])).bind fun p=>some (p,0) else some (⟨#[]⟩,25) else some (⟨#[]⟩,13)
theorem QrH {n a0 a1 a2 a3 a4 a5 a6 a7 a8 u t r}(h:Qrd n a0 a1 a2 a3 a4 a5 a6 a7 a8 u t=some r):Computes cx 32 [.agg [I a0,I a1,B a2,B a3,I a4,I a5,I a6,.lst false 1 a7,.lst false 6 a8,.lst false 7 u],Qr5 t] (.tup [Qr5 r.1,I r.2]):=by
 unfold Qrd at h;have⟨t1,h1,h⟩:=bo h;have⟨t2,h2,h⟩:=bo h;have q:=allE Qr h2 (Qa (Qko h1) QL);let o(l:jOj):=.ret (.lst false 1 t1)::.el (Zy t2)::l;obtain⟨s,h⟩|⟨s,h⟩:=io h
 ·have q:=Qa s (Qa s q);let o l:=o (b1::b1::l);obtain⟨k,h⟩|⟨k,h⟩:=io h
  ·have q:=allE Qr h2 (Qa ((by unfold Qh;omega):Qh 0) (Qa (nef k) q));let o l:=o (b0::.el (Zy t2)::l);obtain⟨j,h⟩|⟨j,h⟩:=io h
   ·cases h;exact rfR (o [b1]) (Qa j q)
   have⟨t6,g,h⟩:=bo h;have q:=Qa (Qj3 g) (Qa s (allE Qr h2 (Qa (QA j) q)));let o l:=o (b0::.no::.no::.el (Zy t2)::b1::.ret (Qr5 t6)::l);obtain⟨f,h⟩|⟨f,h⟩:=io h
   ·have q:=Qa f q;obtain⟨a,h⟩|⟨a,h⟩:=io h
    ·have⟨t9,b,h⟩:=bo h;cases h;exact rfR (o [b1,.no,.no,b1,.no,.no,.ret (Qr5 t9)]) (Qa (Qq5 b) (Qa a q))
    have⟨t9,b,h⟩:=bo h;cases h;exact rfR (o [b1,.no,.no,b0,.ret (Qr5 t9)]) (Qa (Qq5 b) (Qa (QA a) q))
   have q:=Qa (QA f) q;obtain⟨a,h⟩|⟨a,h⟩:=io h
   ·have⟨t9,b,h⟩:=bo h;cases h;exact rfR (o [b0,b1,.no,.no,.ret (Qr5 t9)]) (Qa (Qq5 b) (Qa a q))
   have⟨t9,b,h⟩:=bo h;cases h;exact rfR (o [b0,b0,.ret (Qr5 t9)]) (Qa (Qq5 b) (Qa (QA a) q))
  cases h;exact rfR (o [b1,.no]) (Qa (net k) q)
 have q:=Qa (QA s) q;let o l:=o (b0::l);obtain⟨k,h⟩|⟨k,h⟩:=io h
 ·have q:=Qa k (Qa k q);let o l:=o (b1::b1::l);obtain⟨j,h⟩|⟨j,h⟩:=io h
  ·have q:=allE Qr h2 (Qa ((by unfold Qh;omega):Qh 0) (Qa (nef j) q));let o l:=o (b0::.el (Zy t2)::l);obtain⟨g,h⟩|⟨g,h⟩:=io h
   ·cases h;exact rfR (o [b1]) (Qa g q)
   have⟨t7,f,h⟩:=bo h;have⟨t8,a,h⟩:=bo h;have⟨t9,b,h⟩:=bo h;cases h;exact rfR (o [b0,.no,.no,.el (Zy t2),b0,b1,.ret (I t7),.ret (Qr5 t8),.ret (Qr5 t9)]) (Qa (leF (Qq5 b)) (Qa (Qj3 a) (Qa (qp f) (Qa k (Qa (QA s) (allE Qr h2 (Qa (QA g) q)))))))
  cases h;exact rfR (o [b1,.no]) (Qa (net j) q)
 have q:=Qa (QA k) q;let o l:=o (b0::l);obtain⟨j,h⟩|⟨j,h⟩:=io h
 ·have q:=Qa j (Qa j q);let o l:=o (b1::b1::l);obtain⟨g,h⟩|⟨g,h⟩:=io h
  ·have q:=allE Qr h2 (Qa ((by unfold Qh;omega):Qh 0) (Qa (nef g) q));let o l:=o (b0::.el (Zy t2)::l);obtain⟨f,h⟩|⟨f,h⟩:=io h
   ·cases h;exact rfR (o [b1]) (Qa f q)
   have⟨t8,a,h⟩:=bo h;have⟨t9,b,h⟩:=bo h;cases h;exact rfR (o [b0,.no,.no,.el (Zy t2),b0,b0,b1,.ret (.lst false 1 t8),.ret (Qr5 t9)]) (Qa (Qq5 b) (Qa (Ec a) (Qa j (Qa (QA k) (Qa (QA s) (allE Qr h2 (Qa (QA f) q)))))))
  cases h;exact rfR (o [b1,.no]) (Qa (net g) q)
 have q:=Qa (QA j) q;let o l:=o (b0::l);obtain⟨g,h⟩|⟨g,h⟩:=io h
 ·have q:=Qa g (Qa g q);let o l:=o (b1::b1::l);obtain⟨f,h⟩|⟨f,h⟩:=io h
  ·have q:=allE Qr h2 (Qa ((by unfold Qh;omega):Qh 0) (Qa (nef f) q));let o l:=o (b0::.el (Zy t2)::l);obtain⟨a,h⟩|⟨a,h⟩:=io h
   ·cases h;exact rfR (o [b1]) (Qa a q)
   have⟨t9,b,h⟩:=bo h;have⟨t10,c,h⟩:=bo h;have⟨t11,e,h⟩:=bo h;have⟨t12,i,h⟩:=bo h;cases h;exact rfR (o [b0,.no,.no,.el (Zy t2),b0,b0,b0,b1,.ret (Qr5 t9),.ret (Qr5 t10),.ret (Qr5 t11),.ret (Qr5 t12)]) (Qa (Qq5 i) (Qa (Qj3 e) (Qa (Qj3 c) (Qa (Qj3 b) (Qa g (Qa (QA j) (Qa (QA k) (Qa (QA s) (allE Qr h2 (Qa (QA a) q))))))))))
  cases h;exact rfR (o [b1,.no]) (Qa (net f) q)
 have q:=Qa (QA g) q;let o l:=o (b0::l);obtain⟨f,h⟩|⟨f,h⟩:=io h
 ·have q:=Qa f q;obtain⟨a,h⟩|⟨a,h⟩:=io h
  ·have q:=allE Qr h2 (Qa ((by unfold Qh;omega):Qh 0) (Qa (nef a) q));let o l:=o (b1::b0::.el (Zy t2)::l);obtain⟨b,h⟩|⟨b,h⟩:=io h
   ·cases h;exact rfR (o [b1]) (Qa b q)
   have⟨t10,c,h⟩:=bo h;have⟨t11,e,h⟩:=bo h;cases h;exact rfR (o [b0,.no,.no,.el (Zy t2),b0,b0,b0,b0,b1,.lp [9,1] [2,9,10] [0,60] (.exit 2) [(9,.own 60 0)] [(60,.row 0 1 t10)] 99,.ret (Qr5 t11)]) (Qa (Qq5 e) (Qa ((LC (QH Qrw c)):kZ cxR (ZJ cx.P 32 0) 143 0 false [(2,.ptr 0 0 0 0 0),(9,.own 60 0),(10,.d (I 0))] [(0,.box (.d (.agg [I a0,I a1,B a2,B a3,I a4,I a5,I a6,.lst false 1 a7,.lst false 6 a8,.lst false 7 u]))),(60,.row 0 1 [])] (.exit 2) [(9,.own 60 0)] [(60,.row 0 1 t10)]) (Qa f (Qa (QA g) (Qa (QA j) (Qa (QA k) (Qa (QA s) (allE Qr h2 (Qa (QA b) q)))))))))
  cases h;exact rfR (o [b1,b1,.no]) (Qa (net a) q)
 have q:=Qa (QA f) q;let o l:=o (b0::l);obtain⟨a,h⟩|⟨a,h⟩:=io h
 ·have q:=Qa a q;obtain⟨b,h⟩|⟨b,h⟩:=io h
  ·have⟨t10,c,h⟩:=bo h;have q:=allE Qr c (Qa ((by unfold Qh;omega):Qh 1) (Qa (nef b) q));let o l:=o (b1::b0::.el (Zy t10)::l);obtain⟨e,h⟩|⟨e,h⟩:=io h
   ·cases h;exact rfR (o [b1]) (Qa e q)
   have⟨t12,i,h⟩:=bo h;have q:=Qa (K9 i) (allE Qr c (Qa (QA e) q));let o l:=o (b0::.no::.el (Zy t10)::.ret (I t12)::l);obtain⟨m,h⟩|⟨m,h⟩:=io h
   ·cases h;exact rfR (o [b1]) (Qa (jDj m) q)
   have⟨t14,p,h⟩:=bo h;have⟨t15,h15,h⟩:=bo h;have⟨t16,h16,h⟩:=bo h;cases h;exact rfR (o [b0,.el (Zy t2),b0,b0,b0,b0,b0,b1,.el (Zy t10),.ret (I t12),.el (QB t14),.ret (Qr5 t15),.ret (Qr5 t16)]) (Qa (leF (Qq5 h16)) (Qa (Qj3 h15) (allE Qq p (Qa (K9 i) (allE Qr c (Qa a (Qa (QA f) (Qa (QA g) (Qa (QA j) (Qa (QA k) (Qa (QA s) (allE Qr h2 (Qa (jEj m) q)))))))))))))
  cases h;exact rfR (o [b1,b1,.no]) (Qa (net b) q)
 have q:=Qa (QA a) q;let o l:=o (b0::l);obtain⟨b,h⟩|⟨b,h⟩:=io h
 ·have q:=Qa b q;obtain⟨c,h⟩|⟨c,h⟩:=io h
  ·have⟨t11,e,h⟩:=bo h;have q:=allE Qr e (Qa ((by unfold Qh;omega):Qh 1) (Qa (nef c) q));let o l:=o (b1::b0::.el (Zy t11)::l);obtain⟨i,h⟩|⟨i,h⟩:=io h
   ·cases h;exact rfR (o [b1]) (Qa i q)
   have⟨t13,m,h⟩:=bo h;have q:=Qa (K9 m) (allE Qr e (Qa (QA i) q));let o l:=o (b0::.no::.el (Zy t11)::.ret (I t13)::l);obtain⟨p,h⟩|⟨p,h⟩:=io h
   ·cases h;exact rfR (o [b1]) (Qa (jDj p) q)
   have⟨t15,h15,h⟩:=bo h;have⟨t16,h16,h⟩:=bo h;have⟨t17,h17,h⟩:=bo h;have⟨t18,h18,h⟩:=bo h;cases h;exact rfR (o [b0,.el (Zy t2),b0,b0,b0,b0,b0,b0,.el (Zy t11),.ret (.agg [I t15.1,I t15.2]),.ret (Qr5 t16),.ret (Qr5 t17),.ret (Qr5 t18)]) (Qa (leF (Qq5 h18)) (Qa (Qj3 h17) (Qa (Qj3 h16) (Qa (Qet h15) (allE Qr e (Qa (QA a) (Qa (QA f) (Qa (QA g) (Qa (QA j) (Qa (QA k) (Qa (QA s) (allE Qr h2 (Qa (jEj p) q)))))))))))))
  cases h;exact rfR (o [b1,b1,.no]) (Qa (net c) q)
 cases h;exact rfR (o [b0]) (Qa (QA b) q)
def Qrf (n:Nat)(a0:jVj)(a1:jSj):Option (Int×jSj×jVj×jVj×jSj×Bool×jSj×Int) := if(a1.size:Int)>4096 then some (0,⟨#[]⟩,[],[],⟨#[]⟩,false,⟨#[]⟩,26) else if(a1.toList==(⟨#[]⟩:jSj).toList)=true then some (0,⟨#[]⟩,[],[],⟨#[]⟩,false,⟨#[]⟩,25) else(Vo n a0).bind fun b=>(Qi4 n a1 32).bind fun e=>(el Ww e 0).bind fun f=>(Qrc n f).bind fun g=>if g=true then(Qju n a1).bind fun a=>if a.2.2.2.2.2=true then if((a0).length:Int)>=1000 then some (0,⟨#[]⟩,[],[],⟨#[]⟩,false,⟨#[]⟩,5) else if Qh (((a0).length:Int)+1) then(Qfd n a0 (((a0).length:Int)+1) a.2.1 a.2.2.1 a.2.2.2.1 a.2.2.2.2.1).bind fun c=>if c=0 then(Qjm n (((a0).length:Int)+1)).bind fun d=>if(⟨#[100,111,110,101,32]⟩:jSj).size+d.size<=9223372036854775807 then some ((((a0).length:Int)+1),a.2.1,a.2.2.1,a.2.2.2.1,a.2.2.2.2.1,true,((⟨#[100,111,110,101,32]⟩:jSj)++d),0) else none else some (0,⟨#[]⟩,[],[],⟨#[]⟩,false,⟨#[]⟩,c) else none else some (0,⟨#[]⟩,[],[],⟨#[]⟩,false,⟨#[]⟩,25) else(Qrd n b.1 b.2.1 b.2.2.1 b.2.2.2.1 b.2.2.2.2.1 b.2.2.2.2.2.1 b.2.2.2.2.2.2.1 b.2.2.2.2.2.2.2.1 b.2.2.2.2.2.2.2.2.1 b.2.2.2.2.2.2.2.2.2.1 a1).bind fun a=>some (0,⟨#[]⟩,[],[],⟨#[]⟩,false,a.1,a.2)
theorem Qrk {n a0 a1 r}(h:Qrf n a0 a1=some r):Computes cx 8 [.lst false 5 a0,Qr5 a1] (.tup [.agg [I r.1,Qr5 r.2.1,.lst false 1 r.2.2.1,.lst false 1 r.2.2.2.1,Qr5 r.2.2.2.2.1],B r.2.2.2.2.2.1,Qr5 r.2.2.2.2.2.2.1,I r.2.2.2.2.2.2.2]):=by
 unfold Qrf at h;obtain⟨c,h⟩|⟨c,h⟩:=io h
 ·cases h;exact(rf (r:=.tup [.agg [I 0,Qr5 ⟨#[]⟩,.lst true 0 [],.lst true 0 [],Qr5 ⟨#[]⟩],B false,Qr5 ⟨#[]⟩,I 26]) [b1] (Qa (jDj c) QL)).le (LEs.refl _) (.tups (.cons (.aggs (.cons (.refl _) (.cons (.refl _) (.cons (.nilF) (.cons (.nilF) (.cons (.refl _) (.nil))))))) (.cons (.refl _) (.cons (.refl _) (.cons (.refl _) (.nil))))))
 have q:=Qa (jEj c) QL;obtain⟨d,h⟩|⟨d,h⟩:=io h
 ·cases h;exact(rf (r:=.tup [.agg [I 0,Qr5 ⟨#[]⟩,.lst true 0 [],.lst true 0 [],Qr5 ⟨#[]⟩],B false,Qr5 ⟨#[]⟩,I 25]) [b0,b1] (Qa d q)).le (LEs.refl _) (.tups (.cons (.aggs (.cons (.refl _) (.cons (.refl _) (.cons (.nilF) (.cons (.nilF) (.cons (.refl _) (.nil))))))) (.cons (.refl _) (.cons (.refl _) (.cons (.refl _) (.nil))))))
 have⟨t3,h3,h⟩:=bo h;have⟨t4,h4,h⟩:=bo h;have⟨t5,h5,h⟩:=bo h;have⟨t6,h6,h⟩:=bo h;have q:=Qa (Qrv h6) (allE Qr h5 (Qa (Qko h4) (Qa (je h3) (Qa (QA d) q))));let o(l:jOj):=b0::b0::.ret (.tup [.agg [I t3.1,I t3.2.1,B t3.2.2.1,B t3.2.2.2.1,I t3.2.2.2.2.1,I t3.2.2.2.2.2.1,I t3.2.2.2.2.2.2.1,.lst false 1 t3.2.2.2.2.2.2.2.1,.lst false 6 t3.2.2.2.2.2.2.2.2.1,.lst false 7 t3.2.2.2.2.2.2.2.2.2.1],I t3.2.2.2.2.2.2.2.2.2.2.1,I t3.2.2.2.2.2.2.2.2.2.2.2])::.ret (.lst false 1 t4)::.el (Zy t5)::.ret (B t6)::l;obtain⟨e,h⟩|⟨e,h⟩:=io h
 ·have⟨t8,h8,h⟩:=bo h;have q:=Qa (Qlq h8) (Qa (Ud e) q);let o l:=o (b0::.ret (.tup [.agg [I t8.1,Qr5 t8.2.1,.lst false 1 t8.2.2.1,.lst false 1 t8.2.2.2.1,Qr5 t8.2.2.2.2.1],B t8.2.2.2.2.2])::l);obtain⟨f,h⟩|⟨f,h⟩:=io h
  ·have q:=Qa (Ud f) q;obtain⟨a,h⟩|⟨a,h⟩:=io h
   ·cases h;exact(rf (r:=.tup [.agg [I 0,Qr5 ⟨#[]⟩,.lst true 0 [],.lst true 0 [],Qr5 ⟨#[]⟩],B false,Qr5 ⟨#[]⟩,I 5]) (o [b0,b1]) (Qa (jDj a) q)).le (LEs.refl _) (.tups (.cons (.aggs (.cons (.refl _) (.cons (.refl _) (.cons (.nilF) (.cons (.nilF) (.cons (.refl _) (.nil))))))) (.cons (.refl _) (.cons (.refl _) (.cons (.refl _) (.nil))))))
   have⟨h11,h⟩:=gd h;have⟨t12,h12,h⟩:=bo h;have q:=Qa (Qfw h12) (Qa h11 (Qa (jEj a) q));let o l:=o (b0::b0::.ret (I t12)::l);obtain⟨b,h⟩|⟨b,h⟩:=io h
   ·have⟨t14,h14,h⟩:=bo h;have⟨h15,h⟩:=gd h;cases h;exact rf (o [b0,.ret (Qr5 t14)]) (Qa h15 (Qa (Qj3 h14) (Qa (nef b) q)))
   cases h;exact(rf (r:=.tup [.agg [I 0,Qr5 ⟨#[]⟩,.lst true 0 [],.lst true 0 [],Qr5 ⟨#[]⟩],B false,Qr5 ⟨#[]⟩,I t12]) (o [b1]) (Qa (net b) q)).le (LEs.refl _) (.tups (.cons (.aggs (.cons (.refl _) (.cons (.refl _) (.cons (.nilF) (.cons (.nilF) (.cons (.refl _) (.nil))))))) (.cons (.refl _) (.cons (.refl _) (.cons (.refl _) (.nil))))))
  cases h;exact(rf (r:=.tup [.agg [I 0,Qr5 ⟨#[]⟩,.lst true 0 [],.lst true 0 [],Qr5 ⟨#[]⟩],B false,Qr5 ⟨#[]⟩,I 25]) (o [b1]) (Qa (Uc (QA f)) q)).le (LEs.refl _) (.tups (.cons (.aggs (.cons (.refl _) (.cons (.refl _) (.cons (.nilF) (.cons (.nilF) (.cons (.refl _) (.nil))))))) (.cons (.refl _) (.cons (.refl _) (.cons (.refl _) (.nil))))))
 have⟨t8,h8,h⟩:=bo h;cases h;exact(rf (r:=.tup [.agg [I 0,Qr5 ⟨#[]⟩,.lst true 0 [],.lst true 0 [],Qr5 ⟨#[]⟩],B false,Qr5 t8.1,I t8.2]) (o [b1,.ret (.tup [Qr5 t8.1,I t8.2])]) (Qa (QrH h8) (Qa (Uc (QA e)) q))).le (LEs.refl _) (.tups (.cons (.aggs (.cons (.refl _) (.cons (.refl _) (.cons (.nilF) (.cons (.nilF) (.cons (.refl _) (.nil))))))) (.cons (.refl _) (.cons (.refl _) (.cons (.refl _) (.nil))))))
def Qq4 (n:Nat)(a0 a1:jVj)(a2 a3:Int)(a4 a5:Bool)(a6 a7 a8:Int)(e c d:jVj)(b:(Int×jVj)):Option (Int×jVj⊕jVj) := if b.1<((a0).length:Int) then if 0<=b.1/\b.1<((a0).length:Int) then((nth (a0) (Int.toNat b.1)).bind Ze).bind fun a=>if 0<=((a.2.2.1).length:Int)/\((a.2.2.1).length:Int)<=((a.2.2.1).length:Int)/\16*((a.2.2.1).length:Int)<=281474976710656/\((a.2.2.1).length:Int)<=9223372036854775807 then if 0<=((a.2.2.2.1).length:Int)/\((a.2.2.2.1).length:Int)<=((a.2.2.2.1).length:Int)/\8*((a.2.2.2.1).length:Int)<=281474976710656/\((a.2.2.2.1).length:Int)<=9223372036854775807 then if Wa 88 ((b.2).length+1) then if Qh (b.1+1) then some (.inl ((b.1+1),(b.2++([.agg [I a.1,.v (.string a.2.1),.lst false 1 (a.2.2.1.take ((List.replicate (Int.toNat ((a.2.2.1).length:Int)) (.v (.string ⟨#[]⟩):D)):jVj).length++(List.replicate (Int.toNat ((a.2.2.1).length:Int)) (.v (.string ⟨#[]⟩):D)).drop (a.2.2.1).length),.lst false 1 (a.2.2.2.1.take ((List.replicate (Int.toNat ((a.2.2.2.1).length:Int)) (I 0:D)):jVj).length++(List.replicate (Int.toNat ((a.2.2.2.1).length:Int)) (I 0:D)).drop (a.2.2.2.1).length),.v (.string a.2.2.2.2)]]:jVj)))) else none else none else none else none else none else some (.inr b.2)
noncomputable def Qrj (a0 a1:jVj)(a2 a3:Int)(a4 a5:Bool)(a6 a7 a8:Int)(f a b:jVj):Lp (Int×jVj) (jVj):=⟨fun c=>[(1,.d (.fn (.func 49) [] [])),(5,.own 28 0),(8,.own 1 0),(9,.d (I ((a0).length:Int))),(10,.d (I c.1))],fun c=>[(0,.box (.agg [.own 1 0,.own 2 0,.d (I a2),.d (I a3),.d (B a4),.d (B a5),.d (I a6),.d (I a7),.d (I a8),.own 10 0,.own 11 0,.own 12 0])),(1,.row 0 5 a0),(2,.row 0 5 a1),(10,.row 0 1 f),(11,.row 0 6 a),(12,.row 0 7 b),(28,.row 0 5 c.2)],fun _=>(.exit 0),fun _=>[(5,.own 28 0)],fun e=>[(0,.box (.agg [.own 1 0,.own 2 0,.d (I a2),.d (I a3),.d (B a4),.d (B a5),.d (I a6),.d (I a7),.d (I a8),.own 10 0,.own 11 0,.own 12 0])),(1,.row 0 5 a0),(2,.row 0 5 a1),(10,.row 0 1 f),(11,.row 0 6 a),(12,.row 0 7 b),(28,.row 0 5 e)]⟩
theorem Qri {n a0 a1 a2 a3 a4 a5 a6 a7 a8 d b c}(e)(r)(h:Qq4 n a0 a1 a2 a3 a4 a5 a6 a7 a8 d b c e=some r):Rl (ZJ cx.P 48 0) 22 23 false (Qrj a0 a1 a2 a3 a4 a5 a6 a7 a8 d b c) e r:=by
 unfold Qq4 at h;obtain⟨a,h⟩|⟨a,h⟩:=io h
 ·have⟨ha2,h⟩:=gd h;have⟨ta3,ha3,h⟩:=bo h;have⟨ha4,h⟩:=gd h;have⟨ha5,h⟩:=gd h;have⟨ha6,h⟩:=gd h;have⟨ha7,h⟩:=gd h;cases h;exact rn 29 [b1,b1,.el (QP ta3),b1,b1,b1,b1] [] [1,5,8,9,10] [0,1,2,10,11,12,28] (Qa ha7 (Qa (ro 39 ha6) (Qa ha5 (Qa ha4 (Qa (QX Ql ha3) (Qa ha2 (Qa (jDj a) QL)))))))
 cases h;exact rx 29 [b0] [] [5] [0,1,2,10,11,12,28] (Qa (jEj a) QL)
def Qq3 (n:Nat)(a0 a1:jVj)(a2 a3:Int)(a4 a5:Bool)(a6 a7 a8:Int)(c a b:jVj):Option (jVj) := (Q2 (Qq4 n a0 a1 a2 a3 a4 a5 a6 a7 a8 c a b) n (0,[])).bind fun d=>some d
theorem Qq9 {n a0 a1 a2 a3 a4 a5 a6 a7 a8 c a b r}(h:Qq3 n a0 a1 a2 a3 a4 a5 a6 a7 a8 c a b=some r):ComputesO cx 11 [.ptr 0 0 0 0 0] (some (Qb a0 a1 a2 a3 a4 a5 a6 a7 a8 c a b)) (.d (.lst false 5 r)) (Qb a0 a1 a2 a3 a4 a5 a6 a7 a8 c a b) ZV:=by unfold Qq3 at h;have⟨t1,h1,h⟩:=bo h;obtain rfl:=oi h;exact rfO 0 [.no,b1,.lp [5,5] [1,5,8,9,10] [0,1,2,10,11,12,28] (.exit 0) [(5,.own 28 0)] [(0,.box (.agg [.own 1 0,.own 2 0,.d (I a2),.d (I a3),.d (B a4),.d (B a5),.d (I a6),.d (I a7),.d (I a8),.own 10 0,.own 11 0,.own 12 0])),(1,.row 0 5 a0),(2,.row 0 5 a1),(10,.row 0 1 c),(11,.row 0 6 a),(12,.row 0 7 b),(28,.row 0 5 t1)] 82] (Qa (QH Qri h1) QL)
def Qq1 (n:Nat)(a1:jVj)(b:(jVj×Int×jVj×jVj×jVj×jVj×jVj×Int×Int×Bool×Bool×Int×Int×Int)):Option (jVj×Int×jVj×jVj×jVj×jVj×jVj×Int×Int×Bool×Bool×Int×Int×Int⊕Bool⊕jVj×jVj×jVj×jVj×jVj×jVj×Int×Int×Bool×Bool×Int×Int×Int) := if b.2.1<((a1).length:Int) then(el Ww a1 b.2.1).bind fun e=>if(e.size:Int)>300 then if(e.size:Int)=4097 then(Qrf n b.1 e).bind fun a=>(Qnx n e b.2.2.1 b.2.2.2.1 b.2.2.2.2.2.2.2.1 b.2.2.2.2.2.2.2.2.1 b.2.2.2.2.2.2.2.2.2.1 b.2.2.2.2.2.2.2.2.2.2.1 b.2.2.2.2.2.2.2.2.2.2.2.1 b.2.2.2.2.2.2.2.2.2.2.2.2.1 b.2.2.2.2.2.2.2.2.2.2.2.2.2 b.2.2.2.2.1 b.2.2.2.2.2.1 b.2.2.2.2.2.2.1).bind fun c=>if c.2.1=a.2.2.2.2.2.2.2 then if(!(c.1.toList==a.2.2.2.2.2.2.1.toList))=true then none else if a.2.2.2.2.2.1=true then if Wa 88 (0+(b.1).length) then if Wa 88 ((b.1).length+1) then if Qh (b.2.1+1) then some (.inl ((b.1++([.agg [I a.1,.v (.string a.2.1),.lst false 1 a.2.2.1,.lst false 1 a.2.2.2.1,.v (.string a.2.2.2.2.1)]]:jVj)),(b.2.1+1),c.2.2.1,c.2.2.2.1,c.2.2.2.2.2.2.2.2.2.2.2.1,c.2.2.2.2.2.2.2.2.2.2.2.2.1,c.2.2.2.2.2.2.2.2.2.2.2.2.2,c.2.2.2.2.1,c.2.2.2.2.2.1,c.2.2.2.2.2.2.1,c.2.2.2.2.2.2.2.1,c.2.2.2.2.2.2.2.2.1,c.2.2.2.2.2.2.2.2.2.1,c.2.2.2.2.2.2.2.2.2.2.1)) else none else none else none else if Qh (b.2.1+1) then some (.inl (b.1,(b.2.1+1),c.2.2.1,c.2.2.2.1,c.2.2.2.2.2.2.2.2.2.2.2.1,c.2.2.2.2.2.2.2.2.2.2.2.2.1,c.2.2.2.2.2.2.2.2.2.2.2.2.2,c.2.2.2.2.1,c.2.2.2.2.2.1,c.2.2.2.2.2.2.1,c.2.2.2.2.2.2.2.1,c.2.2.2.2.2.2.2.2.1,c.2.2.2.2.2.2.2.2.2.1,c.2.2.2.2.2.2.2.2.2.2.1)) else none else none else(WI n).bind fun a=>some (.inr (.inl a)) else(Qrf n b.1 e).bind fun d=>(Qnx n e b.2.2.1 b.2.2.2.1 b.2.2.2.2.2.2.2.1 b.2.2.2.2.2.2.2.2.1 b.2.2.2.2.2.2.2.2.2.1 b.2.2.2.2.2.2.2.2.2.2.1 b.2.2.2.2.2.2.2.2.2.2.2.1 b.2.2.2.2.2.2.2.2.2.2.2.2.1 b.2.2.2.2.2.2.2.2.2.2.2.2.2 b.2.2.2.2.1 b.2.2.2.2.2.1 b.2.2.2.2.2.2.1).bind fun a=>if a.2.1=d.2.2.2.2.2.2.2 then if(!(a.1.toList==d.2.2.2.2.2.2.1.toList))=true then none else if d.2.2.2.2.2.1=true then if Wa 88 (0+(b.1).length) then if Wa 88 ((b.1).length+1) then if Qh (b.2.1+1) then some (.inl ((b.1++([.agg [I d.1,.v (.string d.2.1),.lst false 1 d.2.2.1,.lst false 1 d.2.2.2.1,.v (.string d.2.2.2.2.1)]]:jVj)),(b.2.1+1),a.2.2.1,a.2.2.2.1,a.2.2.2.2.2.2.2.2.2.2.2.1,a.2.2.2.2.2.2.2.2.2.2.2.2.1,a.2.2.2.2.2.2.2.2.2.2.2.2.2,a.2.2.2.2.1,a.2.2.2.2.2.1,a.2.2.2.2.2.2.1,a.2.2.2.2.2.2.2.1,a.2.2.2.2.2.2.2.2.1,a.2.2.2.2.2.2.2.2.2.1,a.2.2.2.2.2.2.2.2.2.2.1)) else none else none else none else if Qh (b.2.1+1) then some (.inl (b.1,(b.2.1+1),a.2.2.1,a.2.2.2.1,a.2.2.2.2.2.2.2.2.2.2.2.1,a.2.2.2.2.2.2.2.2.2.2.2.2.1,a.2.2.2.2.2.2.2.2.2.2.2.2.2,a.2.2.2.2.1,a.2.2.2.2.2.1,a.2.2.2.2.2.2.1,a.2.2.2.2.2.2.2.1,a.2.2.2.2.2.2.2.2.1,a.2.2.2.2.2.2.2.2.2.1,a.2.2.2.2.2.2.2.2.2.2.1)) else none else none else some (.inr (.inr (b.1,b.2.2.1,b.2.2.2.1,b.2.2.2.2.1,b.2.2.2.2.2.1,b.2.2.2.2.2.2.1,b.2.2.2.2.2.2.2.1,b.2.2.2.2.2.2.2.2.1,b.2.2.2.2.2.2.2.2.2.1,b.2.2.2.2.2.2.2.2.2.2.1,b.2.2.2.2.2.2.2.2.2.2.2.1,b.2.2.2.2.2.2.2.2.2.2.2.2.1,b.2.2.2.2.2.2.2.2.2.2.2.2.2)))
noncomputable def Qre (a1:jVj):Lp (jVj×Int×jVj×jVj×jVj×jVj×jVj×Int×Int×Bool×Bool×Int×Int×Int) (Bool⊕jVj×jVj×jVj×jVj×jVj×jVj×Int×Int×Bool×Bool×Int×Int×Int):=⟨fun a=>[(5,.d (.lst false 5 a.1)),(8,.ptr 70 0 0 0 0),(69,.d (.lst false 1 a1)),(70,.d (I ((a1).length:Int))),(71,.d (I a.2.1))],fun a=>[(52,.row 0 5 a.2.2.1),(53,.row 0 5 a.2.2.2.1),(61,.row 0 1 a.2.2.2.2.1),(62,.row 0 6 a.2.2.2.2.2.1),(63,.row 0 7 a.2.2.2.2.2.2.1),(70,.box (.agg [.own 52 0,.own 53 0,.d (I a.2.2.2.2.2.2.2.1),.d (I a.2.2.2.2.2.2.2.2.1),.d (B a.2.2.2.2.2.2.2.2.2.1),.d (B a.2.2.2.2.2.2.2.2.2.2.1),.d (I a.2.2.2.2.2.2.2.2.2.2.2.1),.d (I a.2.2.2.2.2.2.2.2.2.2.2.2.1),.d (I a.2.2.2.2.2.2.2.2.2.2.2.2.2),.own 61 0,.own 62 0,.own 63 0]))],fun
 | (.inl e)=>.ret
 | (.inr e)=>(.exit 0),fun
 | (.inl e)=>[(4,.d (B e))]
 | (.inr e)=>[(5,.d (.lst false 5 e.1)),(8,.ptr 70 0 0 0 0)],fun
 | (.inl e)=>[]
 | (.inr e)=>[(52,.row 0 5 e.2.1),(53,.row 0 5 e.2.2.1),(61,.row 0 1 e.2.2.2.1),(62,.row 0 6 e.2.2.2.2.1),(63,.row 0 7 e.2.2.2.2.2.1),(70,.box (.agg [.own 52 0,.own 53 0,.d (I e.2.2.2.2.2.2.1),.d (I e.2.2.2.2.2.2.2.1),.d (B e.2.2.2.2.2.2.2.2.1),.d (B e.2.2.2.2.2.2.2.2.2.1),.d (I e.2.2.2.2.2.2.2.2.2.2.1),.d (I e.2.2.2.2.2.2.2.2.2.2.2.1),.d (I e.2.2.2.2.2.2.2.2.2.2.2.2),.own 61 0,.own 62 0,.own 63 0]))]⟩
theorem Qq8 {n a1}(j)(r)(h:Qq1 n a1 j=some r):Rl (ZJ cx.P 3 0) 148 0 false (Qre a1) j r:=by
 unfold Qq1 at h;obtain⟨g,h⟩|⟨g,h⟩:=io h
 ·have⟨ta2,ha2,h⟩:=bo h;have q:=allE Qr ha2 (Qa (jDj g) QL);let o(l:jOj):=b1::.el (Zy ta2)::l;obtain⟨i,h⟩|⟨i,h⟩:=io h
  ·have q:=Qa (jDj i) q;obtain⟨c,h⟩|⟨c,h⟩:=io h
   ·have⟨ta5,ha5,h⟩:=bo h;have⟨ta6,f,h⟩:=bo h;have q:=Qa (QnT f) (Qa (Qrk ha5) (Qa (nef c) q));let o l:=o (b1::b0::.ret (.tup [.agg [I ta5.1,Qr5 ta5.2.1,.lst false 1 ta5.2.2.1,.lst false 1 ta5.2.2.2.1,Qr5 ta5.2.2.2.2.1],B ta5.2.2.2.2.2.1,Qr5 ta5.2.2.2.2.2.2.1,I ta5.2.2.2.2.2.2.2])::.obj (some 70) (.d (.tup [Qr5 ta6.1,I ta6.2.1])) (Qb' ta6.2.2) []::b0::b0::l);obtain⟨e,h⟩|⟨e,h⟩:=io h
    ·have q:=Qa (nef e) q;obtain⟨b,h⟩|⟨b,h⟩:=io h
     ·cases h
     have q:=Qa (QA b) q;obtain⟨a,h⟩|⟨a,h⟩:=io h
     ·have⟨ha10,h⟩:=gd h;have⟨ha11,h⟩:=gd h;have⟨ha12,h⟩:=gd h;cases h;exact rn 96 (o [b1,.ix (-8),b1,b1,.ix (-7)]) [] [5,8,69,70,71] [52,53,61,62,63,70] (Qa ha12 (Qa (ro 39 ha11) (Qa (ro 39 ha10) (Qa a q))))
     have⟨ha10,h⟩:=gd h;cases h;exact rn 96 (o [b0]) [] [5,8,69,70,71] [52,53,61,62,63,70] (Qa ha10 (Qa (QA a) q))
    cases h
   have⟨ta5,ha5,h⟩:=bo h;cases h;exact rx 96 (o [b1,b1,.ret (B ta5)]) [] [4] [] (Qa (YE ha5) (Qa (net c) q))
  have⟨ta4,c,h⟩:=bo h;have⟨ta5,ha5,h⟩:=bo h;have q:=Qa (QnT ha5) (Qa (Qrk c) (Qa (jEj i) q));let o l:=o (b0::.no::.ret (.tup [.agg [I ta4.1,Qr5 ta4.2.1,.lst false 1 ta4.2.2.1,.lst false 1 ta4.2.2.2.1,Qr5 ta4.2.2.2.2.1],B ta4.2.2.2.2.2.1,Qr5 ta4.2.2.2.2.2.2.1,I ta4.2.2.2.2.2.2.2])::.obj (some 70) (.d (.tup [Qr5 ta5.1,I ta5.2.1])) (Qb' ta5.2.2) []::b0::b0::l);obtain⟨f,h⟩|⟨f,h⟩:=io h
  ·have q:=Qa (nef f) q;obtain⟨e,h⟩|⟨e,h⟩:=io h
   ·cases h
   have q:=Qa (QA e) q;obtain⟨b,h⟩|⟨b,h⟩:=io h
   ·have⟨a,h⟩:=gd h;have⟨ha10,h⟩:=gd h;have⟨ha11,h⟩:=gd h;cases h;exact rn 96 (o [b1,.ix (-8),b1,b1,.ix (-7)]) [] [5,8,69,70,71] [52,53,61,62,63,70] (Qa ha11 (Qa (ro 39 ha10) (Qa (ro 39 a) (Qa b q))))
   have⟨a,h⟩:=gd h;cases h;exact rn 96 (o [b0]) [] [5,8,69,70,71] [52,53,61,62,63,70] (Qa a (Qa (QA b) q))
  cases h
 cases h;exact rx 96 [b0] [] [5,8] [52,53,61,62,63,70] (Qa (jEj g) QL)
theorem Qq7 {n a1}(j)(r)(h:Qq1 n a1 j=some r):Rl (ZJ cx.P 3 0) 148 0 false (Qre a1) j r:=by
 unfold Qq1 at h;obtain⟨g,h⟩|⟨g,h⟩:=io h
 ·have⟨ta2,ha2,h⟩:=bo h;have q:=allE Qr ha2 (Qa (jDj g) QL);let o(l:jOj):=b1::.el (Zy ta2)::l;obtain⟨i,h⟩|⟨i,h⟩:=io h
  ·have q:=Qa (jDj i) q;obtain⟨c,h⟩|⟨c,h⟩:=io h
   ·have⟨ta5,ha5,h⟩:=bo h;have⟨ta6,f,h⟩:=bo h;have q:=Qa (QnT f) (Qa (Qrk ha5) (Qa (nef c) q));let o l:=o (b1::b0::.ret (.tup [.agg [I ta5.1,Qr5 ta5.2.1,.lst false 1 ta5.2.2.1,.lst false 1 ta5.2.2.2.1,Qr5 ta5.2.2.2.2.1],B ta5.2.2.2.2.2.1,Qr5 ta5.2.2.2.2.2.2.1,I ta5.2.2.2.2.2.2.2])::.obj (some 70) (.d (.tup [Qr5 ta6.1,I ta6.2.1])) (Qb' ta6.2.2) []::b0::b0::l);obtain⟨e,h⟩|⟨e,h⟩:=io h
    ·have q:=Qa (nef e) q;obtain⟨b,h⟩|⟨b,h⟩:=io h
     ·cases h
     have q:=Qa (QA b) q;obtain⟨a,h⟩|⟨a,h⟩:=io h
     ·have⟨ha10,h⟩:=gd h;have⟨ha11,h⟩:=gd h;have⟨ha12,h⟩:=gd h;cases h;exact rn 96 (o [b1,.ix (-8),b1,b1,.ix (-7)]) [] [5,8,69,70,71] [52,53,61,62,63,70] (Qa ha12 (Qa (ro 39 ha11) (Qa (ro 39 ha10) (Qa a q))))
     have⟨ha10,h⟩:=gd h;cases h;exact rn 96 (o [b0]) [] [5,8,69,70,71] [52,53,61,62,63,70] (Qa ha10 (Qa (QA a) q))
    cases h
   have⟨ta5,ha5,h⟩:=bo h;cases h;exact rx 96 (o [b1,b1,.ret (B ta5)]) [] [4] [] (Qa (YE ha5) (Qa (net c) q))
  have⟨ta4,c,h⟩:=bo h;have⟨ta5,ha5,h⟩:=bo h;have q:=Qa (QnT ha5) (Qa (Qrk c) (Qa (jEj i) q));let o l:=o (b0::.no::.ret (.tup [.agg [I ta4.1,Qr5 ta4.2.1,.lst false 1 ta4.2.2.1,.lst false 1 ta4.2.2.2.1,Qr5 ta4.2.2.2.2.1],B ta4.2.2.2.2.2.1,Qr5 ta4.2.2.2.2.2.2.1,I ta4.2.2.2.2.2.2.2])::.obj (some 70) (.d (.tup [Qr5 ta5.1,I ta5.2.1])) (Qb' ta5.2.2) []::b0::b0::l);obtain⟨f,h⟩|⟨f,h⟩:=io h
  ·have q:=Qa (nef f) q;obtain⟨e,h⟩|⟨e,h⟩:=io h
   ·cases h
   have q:=Qa (QA e) q;obtain⟨b,h⟩|⟨b,h⟩:=io h
   ·have⟨a,h⟩:=gd h;have⟨ha10,h⟩:=gd h;have⟨ha11,h⟩:=gd h;cases h;exact rn 96 (o [b1,.ix (-8),b1,b1,.ix (-7)]) [] [5,8,69,70,71] [52,53,61,62,63,70] (Qa ha11 (Qa (ro 39 ha10) (Qa (ro 39 a) (Qa b q))))
   have⟨a,h⟩:=gd h;cases h;exact rn 96 (o [b0]) [] [5,8,69,70,71] [52,53,61,62,63,70] (Qa a (Qa (QA b) q))
  cases h
 cases h;exact rx 96 [b0] [] [5,8] [52,53,61,62,63,70] (Qa (jEj g) QL)
def Qrb (n:Nat)(a0:jSj)(a1:jVj):Option (Bool) := if(a0.size:Int)>1500 then(WI n).bind fun s=>some s else if((a1).length:Int)>8 then(WI n).bind fun d=>some d else(Qjp n a0).bind fun d=>(Qjc n a0).bind fun o=>if o.2.2=0 then(Q6 n o.1).bind fun e=>if e.2.1=0 then if d.2.2=28 then(Vo n d.1).bind fun p=>if p.2.2.2.2.2.2.2.2.2.2.2=0 then(Q2 (Qq1 n a1) n (d.1,0,e.2.2.1,e.2.2.2.1,e.2.2.2.2.2.2.2.2.2.2.2.1,e.2.2.2.2.2.2.2.2.2.2.2.2.1,e.2.2.2.2.2.2.2.2.2.2.2.2.2,e.2.2.2.2.1,e.2.2.2.2.2.1,e.2.2.2.2.2.2.1,e.2.2.2.2.2.2.2.1,e.2.2.2.2.2.2.2.2.1,e.2.2.2.2.2.2.2.2.2.1,e.2.2.2.2.2.2.2.2.2.2.1)).bind fun c=>match c with|.inl c=>(some c)|.inr c=>((Qq3 n c.2.1 c.2.2.1 c.2.2.2.2.2.2.1 c.2.2.2.2.2.2.2.1 c.2.2.2.2.2.2.2.2.1 c.2.2.2.2.2.2.2.2.2.1 c.2.2.2.2.2.2.2.2.2.2.1 c.2.2.2.2.2.2.2.2.2.2.2.1 c.2.2.2.2.2.2.2.2.2.2.2.2 c.2.2.2.1 c.2.2.2.2.1 c.2.2.2.2.2.1).bind fun a=>(Qd1 n a c.1).bind fun b=>if b=true then(QnJ n c.2.1 c.2.2.1 c.2.2.2.2.2.2.1 c.2.2.2.2.2.2.2.1 c.2.2.2.2.2.2.2.2.1 c.2.2.2.2.2.2.2.2.2.1 c.2.2.2.2.2.2.2.2.2.2.1 c.2.2.2.2.2.2.2.2.2.2.2.1 c.2.2.2.2.2.2.2.2.2.2.2.2 c.2.2.2.1 c.2.2.2.2.1 c.2.2.2.2.2.1).bind fun k=>(QjD n c.1).bind fun i=>if(k.toList==i.toList)=true then(WI n).bind fun l=>some l else none else none) else none else if d.2.2=0 then(Vo n d.1).bind fun g=>if g.2.2.2.2.2.2.2.2.2.2.2=0 then(Q2 (Qq1 n a1) n (d.1,0,e.2.2.1,e.2.2.2.1,e.2.2.2.2.2.2.2.2.2.2.2.1,e.2.2.2.2.2.2.2.2.2.2.2.2.1,e.2.2.2.2.2.2.2.2.2.2.2.2.2,e.2.2.2.2.1,e.2.2.2.2.2.1,e.2.2.2.2.2.2.1,e.2.2.2.2.2.2.2.1,e.2.2.2.2.2.2.2.2.1,e.2.2.2.2.2.2.2.2.2.1,e.2.2.2.2.2.2.2.2.2.2.1)).bind fun a=>match a with|.inl a=>(some a)|.inr a=>((Qq3 n a.2.1 a.2.2.1 a.2.2.2.2.2.2.1 a.2.2.2.2.2.2.2.1 a.2.2.2.2.2.2.2.2.1 a.2.2.2.2.2.2.2.2.2.1 a.2.2.2.2.2.2.2.2.2.2.1 a.2.2.2.2.2.2.2.2.2.2.2.1 a.2.2.2.2.2.2.2.2.2.2.2.2 a.2.2.2.1 a.2.2.2.2.1 a.2.2.2.2.2.1).bind fun b=>(Qd1 n b a.1).bind fun h=>if h=true then(QnJ n a.2.1 a.2.2.1 a.2.2.2.2.2.2.1 a.2.2.2.2.2.2.2.1 a.2.2.2.2.2.2.2.2.1 a.2.2.2.2.2.2.2.2.2.1 a.2.2.2.2.2.2.2.2.2.2.1 a.2.2.2.2.2.2.2.2.2.2.2.1 a.2.2.2.2.2.2.2.2.2.2.2.2 a.2.2.2.1 a.2.2.2.2.1 a.2.2.2.2.2.1).bind fun i=>(QjD n a.1).bind fun j=>if(i.toList==j.toList)=true then(WI n).bind fun m=>some m else none else none) else none else none else if d.2.2=28 then(Vo n d.1).bind fun p=>if p.2.2.2.2.2.2.2.2.2.2.2=0 then none else if e.2.1=p.2.2.2.2.2.2.2.2.2.2.2 then(WI n).bind fun a=>some a else none else if d.2.2=0 then(Vo n d.1).bind fun g=>if g.2.2.2.2.2.2.2.2.2.2.2=0 then none else if e.2.1=g.2.2.2.2.2.2.2.2.2.2.2 then(WI n).bind fun b=>some b else none else if e.2.1=d.2.2 then(WI n).bind fun c=>some c else none else if o.2.2=28 then(Q6 n o.1).bind fun f=>if f.2.1=0 then if d.2.2=28 then(Vo n d.1).bind fun g=>if g.2.2.2.2.2.2.2.2.2.2.2=0 then(Q2 (Qq1 n a1) n (d.1,0,f.2.2.1,f.2.2.2.1,f.2.2.2.2.2.2.2.2.2.2.2.1,f.2.2.2.2.2.2.2.2.2.2.2.2.1,f.2.2.2.2.2.2.2.2.2.2.2.2.2,f.2.2.2.2.1,f.2.2.2.2.2.1,f.2.2.2.2.2.2.1,f.2.2.2.2.2.2.2.1,f.2.2.2.2.2.2.2.2.1,f.2.2.2.2.2.2.2.2.2.1,f.2.2.2.2.2.2.2.2.2.2.1)).bind fun a=>match a with|.inl a=>(some a)|.inr a=>((Qq3 n a.2.1 a.2.2.1 a.2.2.2.2.2.2.1 a.2.2.2.2.2.2.2.1 a.2.2.2.2.2.2.2.2.1 a.2.2.2.2.2.2.2.2.2.1 a.2.2.2.2.2.2.2.2.2.2.1 a.2.2.2.2.2.2.2.2.2.2.2.1 a.2.2.2.2.2.2.2.2.2.2.2.2 a.2.2.2.1 a.2.2.2.2.1 a.2.2.2.2.2.1).bind fun b=>(Qd1 n b a.1).bind fun h=>if h=true then(QnJ n a.2.1 a.2.2.1 a.2.2.2.2.2.2.1 a.2.2.2.2.2.2.2.1 a.2.2.2.2.2.2.2.2.1 a.2.2.2.2.2.2.2.2.2.1 a.2.2.2.2.2.2.2.2.2.2.1 a.2.2.2.2.2.2.2.2.2.2.2.1 a.2.2.2.2.2.2.2.2.2.2.2.2 a.2.2.2.1 a.2.2.2.2.1 a.2.2.2.2.2.1).bind fun i=>(QjD n a.1).bind fun j=>if(i.toList==j.toList)=true then(WI n).bind fun m=>some m else none else none) else none else if d.2.2=0 then(Vo n d.1).bind fun c=>if c.2.2.2.2.2.2.2.2.2.2.2=0 then(Q2 (Qq1 n a1) n (d.1,0,f.2.2.1,f.2.2.2.1,f.2.2.2.2.2.2.2.2.2.2.2.1,f.2.2.2.2.2.2.2.2.2.2.2.2.1,f.2.2.2.2.2.2.2.2.2.2.2.2.2,f.2.2.2.2.1,f.2.2.2.2.2.1,f.2.2.2.2.2.2.1,f.2.2.2.2.2.2.2.1,f.2.2.2.2.2.2.2.2.1,f.2.2.2.2.2.2.2.2.2.1,f.2.2.2.2.2.2.2.2.2.2.1)).bind fun b=>match b with|.inl b=>(some b)|.inr b=>((Qq3 n b.2.1 b.2.2.1 b.2.2.2.2.2.2.1 b.2.2.2.2.2.2.2.1 b.2.2.2.2.2.2.2.2.1 b.2.2.2.2.2.2.2.2.2.1 b.2.2.2.2.2.2.2.2.2.2.1 b.2.2.2.2.2.2.2.2.2.2.2.1 b.2.2.2.2.2.2.2.2.2.2.2.2 b.2.2.2.1 b.2.2.2.2.1 b.2.2.2.2.2.1).bind fun h=>(Qd1 n h b.1).bind fun k=>if k=true then(QnJ n b.2.1 b.2.2.1 b.2.2.2.2.2.2.1 b.2.2.2.2.2.2.2.1 b.2.2.2.2.2.2.2.2.1 b.2.2.2.2.2.2.2.2.2.1 b.2.2.2.2.2.2.2.2.2.2.1 b.2.2.2.2.2.2.2.2.2.2.2.1 b.2.2.2.2.2.2.2.2.2.2.2.2 b.2.2.2.1 b.2.2.2.2.1 b.2.2.2.2.2.1).bind fun j=>(QjD n b.1).bind fun l=>if(j.toList==l.toList)=true then(WI n).bind fun q=>some q else none else none) else none else none else if d.2.2=28 then(Vo n d.1).bind fun g=>if g.2.2.2.2.2.2.2.2.2.2.2=0 then none else if f.2.1=g.2.2.2.2.2.2.2.2.2.2.2 then(WI n).bind fun b=>some b else none else if d.2.2=0 then(Vo n d.1).bind fun c=>if c.2.2.2.2.2.2.2.2.2.2.2=0 then none else if f.2.1=c.2.2.2.2.2.2.2.2.2.2.2 then(WI n).bind fun h=>some h else none else if f.2.1=d.2.2 then(WI n).bind fun a=>some a else none else if d.2.2=28 then(Vo n d.1).bind fun r=>if r.2.2.2.2.2.2.2.2.2.2.2=0 then none else if o.2.2=r.2.2.2.2.2.2.2.2.2.2.2 then(WI n).bind fun c=>some c else none else if d.2.2=0 then(Vo n d.1).bind fun p=>if p.2.2.2.2.2.2.2.2.2.2.2=0 then none else if o.2.2=p.2.2.2.2.2.2.2.2.2.2.2 then(WI n).bind fun a=>some a else none else if o.2.2=d.2.2 then(WI n).bind fun g=>some g else none
theorem Qrm {n a0 a1 r}(h:Qrb n a0 a1=some r):Computes cx 3 [Qr5 a0,.lst false 1 a1] (B r):=by
 unfold Qrb at h;obtain⟨A,h⟩|⟨A,h⟩:=io h
 ·have⟨t2,y,h⟩:=bo h;obtain rfl:=oi h;exact rf [b1,.no,.ret (B t2)] (Qa (YE y) (Qa (jDj A) QL))
 have q:=Qa (jEj A) QL;let o(l:jOj):=b0::l;obtain⟨y,h⟩|⟨y,h⟩:=io h
 ·have⟨t3,h3,h⟩:=bo h;obtain rfl:=oi h;exact rf (o [b1,.ret (B t3)]) (Qa (YE h3) (Qa (jDj y) q))
 have⟨t3,h3,h⟩:=bo h;have⟨t4,h4,h⟩:=bo h;have q:=Qa (Qj7 h4) (Qa (QkZ h3) (Qa (jEj y) q));let o l:=o (b0::.ret (.tup [.lst false 5 t3.1,I t3.2.1,I t3.2.2])::b1::.ret (.tup [.lst false 5 t4.1,I t4.2.1,I t4.2.2])::l);obtain⟨C,h⟩|⟨C,h⟩:=io h
 ·have⟨t6,z,h⟩:=bo h;have q:=Qa (We z) (Qa (nef C) q);let o l:=o (b0::.no::.obj none (.tup [.ptr 0 0 0 0 0,.d (I t6.1),.d (I t6.2.1)]) (Qb' t6.2.2) []::l);obtain⟨x,h⟩|⟨x,h⟩:=io h
  ·have q:=Qa (nef x) q;obtain⟨s,h⟩|⟨s,h⟩:=io h
   ·have⟨t9,j,h⟩:=bo h;have q:=Qa (je j) (Qa (eqt s) q);let o l:=o (b0::b1::.no::.ret (.tup [.agg [I t9.1,I t9.2.1,B t9.2.2.1,B t9.2.2.2.1,I t9.2.2.2.2.1,I t9.2.2.2.2.2.1,I t9.2.2.2.2.2.2.1,.lst false 1 t9.2.2.2.2.2.2.2.1,.lst false 6 t9.2.2.2.2.2.2.2.2.1,.lst false 7 t9.2.2.2.2.2.2.2.2.2.1],I t9.2.2.2.2.2.2.2.2.2.2.1,I t9.2.2.2.2.2.2.2.2.2.2.2])::b0::.no::.no::l);obtain⟨e,h⟩|⟨e,h⟩:=io h
    ·have q:=Qa (nef e) q;have⟨b,f,h⟩:=bo h;obtain b|b:=b
     ·obtain rfl:=oi h;exact rf (o [.lp [] [5,8,69,70,71] [52,53,61,62,63,70] .ret [(4,.d (B b))] [] 170]) (Qa (QH Qq8 f) q)
     have⟨a,g,h⟩:=bo h;have⟨c,i,h⟩:=bo h;obtain⟨k,h⟩|⟨k,h⟩:=io h
     ·have⟨t15,m,h⟩:=bo h;have⟨t16,t,h⟩:=bo h;obtain⟨u,h⟩|⟨u,h⟩:=io h
      ·have⟨t18,p,h⟩:=bo h;obtain rfl:=oi h;exact rf (o [.lp [] [5,8,69,70,71] [52,53,61,62,63,70] (.exit 0) [(5,.d (.lst false 5 b.1)),(8,.ptr 70 0 0 0 0)] [(52,.row 0 5 b.2.1),(53,.row 0 5 b.2.2.1),(61,.row 0 1 b.2.2.2.1),(62,.row 0 6 b.2.2.2.2.1),(63,.row 0 7 b.2.2.2.2.2.1),(70,.box (.agg [.own 52 0,.own 53 0,.d (I b.2.2.2.2.2.2.1),.d (I b.2.2.2.2.2.2.2.1),.d (B b.2.2.2.2.2.2.2.2.1),.d (B b.2.2.2.2.2.2.2.2.2.1),.d (I b.2.2.2.2.2.2.2.2.2.2.1),.d (I b.2.2.2.2.2.2.2.2.2.2.2.1),.d (I b.2.2.2.2.2.2.2.2.2.2.2.2),.own 61 0,.own 62 0,.own 63 0]))] 170,b1,.no,.obj (some 70) (.d (.lst false 5 a)) (Qb b.2.1 b.2.2.1 b.2.2.2.2.2.2.1 b.2.2.2.2.2.2.2.1 b.2.2.2.2.2.2.2.2.1 b.2.2.2.2.2.2.2.2.2.1 b.2.2.2.2.2.2.2.2.2.2.1 b.2.2.2.2.2.2.2.2.2.2.2.1 b.2.2.2.2.2.2.2.2.2.2.2.2 b.2.2.2.1 b.2.2.2.2.1 b.2.2.2.2.2.1) ZV,.ret (B c),b1,.obj (some 70) (.d (Qr5 t15)) (Qb b.2.1 b.2.2.1 b.2.2.2.2.2.2.1 b.2.2.2.2.2.2.2.1 b.2.2.2.2.2.2.2.2.1 b.2.2.2.2.2.2.2.2.2.1 b.2.2.2.2.2.2.2.2.2.2.1 b.2.2.2.2.2.2.2.2.2.2.2.1 b.2.2.2.2.2.2.2.2.2.2.2.2 b.2.2.2.1 b.2.2.2.2.1 b.2.2.2.2.2.1) ZV,.ret (Qr5 t16),b1,.no,b1,.no,.no,b1,.no,.no,.ret (B t18)]) (Qa (YE p) (Qa u (Qa (Qmr t) (Qa (Qod m) (Qa k (Qa (Qee i) (Qa (Qq9 g) (Qa (QH Qq8 f) q))))))))
      cases h
     cases h
    cases h
   have q:=Qa (eqf s) q;obtain⟨j,h⟩|⟨j,h⟩:=io h
   ·have⟨t10,e,h⟩:=bo h;have q:=Qa (je e) (Qa (eqt j) q);let o l:=o (b0::b0::b1::.ret (.tup [.agg [I t10.1,I t10.2.1,B t10.2.2.1,B t10.2.2.2.1,I t10.2.2.2.2.1,I t10.2.2.2.2.2.1,I t10.2.2.2.2.2.2.1,.lst false 1 t10.2.2.2.2.2.2.2.1,.lst false 6 t10.2.2.2.2.2.2.2.2.1,.lst false 7 t10.2.2.2.2.2.2.2.2.2.1],I t10.2.2.2.2.2.2.2.2.2.2.1,I t10.2.2.2.2.2.2.2.2.2.2.2])::b0::.no::.no::l);obtain⟨f,h⟩|⟨f,h⟩:=io h
    ·have q:=Qa (nef f) q;have⟨a,g,h⟩:=bo h;obtain a|a:=a
     ·obtain rfl:=oi h;exact rf (o [.lp [] [5,8,69,70,71] [52,53,61,62,63,70] .ret [(4,.d (B a))] [] 170]) (Qa (QH Qq8 g) q)
     have⟨c,i,h⟩:=bo h;have⟨t14,k,h⟩:=bo h;obtain⟨m,h⟩|⟨m,h⟩:=io h
     ·have⟨t16,t,h⟩:=bo h;have⟨t17,u,h⟩:=bo h;obtain⟨p,h⟩|⟨p,h⟩:=io h
      ·have⟨t19,v,h⟩:=bo h;obtain rfl:=oi h;exact rf (o [.lp [] [5,8,69,70,71] [52,53,61,62,63,70] (.exit 0) [(5,.d (.lst false 5 a.1)),(8,.ptr 70 0 0 0 0)] [(52,.row 0 5 a.2.1),(53,.row 0 5 a.2.2.1),(61,.row 0 1 a.2.2.2.1),(62,.row 0 6 a.2.2.2.2.1),(63,.row 0 7 a.2.2.2.2.2.1),(70,.box (.agg [.own 52 0,.own 53 0,.d (I a.2.2.2.2.2.2.1),.d (I a.2.2.2.2.2.2.2.1),.d (B a.2.2.2.2.2.2.2.2.1),.d (B a.2.2.2.2.2.2.2.2.2.1),.d (I a.2.2.2.2.2.2.2.2.2.2.1),.d (I a.2.2.2.2.2.2.2.2.2.2.2.1),.d (I a.2.2.2.2.2.2.2.2.2.2.2.2),.own 61 0,.own 62 0,.own 63 0]))] 170,b1,.no,.obj (some 70) (.d (.lst false 5 c)) (Qb a.2.1 a.2.2.1 a.2.2.2.2.2.2.1 a.2.2.2.2.2.2.2.1 a.2.2.2.2.2.2.2.2.1 a.2.2.2.2.2.2.2.2.2.1 a.2.2.2.2.2.2.2.2.2.2.1 a.2.2.2.2.2.2.2.2.2.2.2.1 a.2.2.2.2.2.2.2.2.2.2.2.2 a.2.2.2.1 a.2.2.2.2.1 a.2.2.2.2.2.1) ZV,.ret (B t14),b1,.obj (some 70) (.d (Qr5 t16)) (Qb a.2.1 a.2.2.1 a.2.2.2.2.2.2.1 a.2.2.2.2.2.2.2.1 a.2.2.2.2.2.2.2.2.1 a.2.2.2.2.2.2.2.2.2.1 a.2.2.2.2.2.2.2.2.2.2.1 a.2.2.2.2.2.2.2.2.2.2.2.1 a.2.2.2.2.2.2.2.2.2.2.2.2 a.2.2.2.1 a.2.2.2.2.1 a.2.2.2.2.2.1) ZV,.ret (Qr5 t17),b1,.no,b1,.no,.no,b1,.no,.no,.ret (B t19)]) (Qa (YE v) (Qa p (Qa (Qmr u) (Qa (Qod t) (Qa m (Qa (Qee k) (Qa (Qq9 i) (Qa (QH Qq8 g) q))))))))
      cases h
     cases h
    cases h
   cases h
  have q:=Qa (net x) q;obtain⟨s,h⟩|⟨s,h⟩:=io h
  ·have⟨t9,j,h⟩:=bo h;obtain⟨e,h⟩|⟨e,h⟩:=io h
   ·cases h
   obtain⟨f,h⟩|⟨f,h⟩:=io h
   ·have⟨a,g,h⟩:=bo h;obtain rfl:=oi h;exact rf (o [b1,b1,.no,.ret (.tup [.agg [I t9.1,I t9.2.1,B t9.2.2.1,B t9.2.2.2.1,I t9.2.2.2.2.1,I t9.2.2.2.2.2.1,I t9.2.2.2.2.2.2.1,.lst false 1 t9.2.2.2.2.2.2.2.1,.lst false 6 t9.2.2.2.2.2.2.2.2.1,.lst false 7 t9.2.2.2.2.2.2.2.2.2.1],I t9.2.2.2.2.2.2.2.2.2.2.1,I t9.2.2.2.2.2.2.2.2.2.2.2]),b1,.no,b1,.ret (B a)]) (Qa (YE g) (Qa (eqt f) (Qa (net e) (Qa (je j) (Qa (eqt s) q)))))
   cases h
  have q:=Qa (eqf s) q;obtain⟨j,h⟩|⟨j,h⟩:=io h
  ·have⟨t10,e,h⟩:=bo h;obtain⟨f,h⟩|⟨f,h⟩:=io h
   ·cases h
   obtain⟨g,h⟩|⟨g,h⟩:=io h
   ·have⟨c,i,h⟩:=bo h;obtain rfl:=oi h;exact rf (o [b1,b0,b1,.ret (.tup [.agg [I t10.1,I t10.2.1,B t10.2.2.1,B t10.2.2.2.1,I t10.2.2.2.2.1,I t10.2.2.2.2.2.1,I t10.2.2.2.2.2.2.1,.lst false 1 t10.2.2.2.2.2.2.2.1,.lst false 6 t10.2.2.2.2.2.2.2.2.1,.lst false 7 t10.2.2.2.2.2.2.2.2.2.1],I t10.2.2.2.2.2.2.2.2.2.2.1,I t10.2.2.2.2.2.2.2.2.2.2.2]),b1,.no,b1,.ret (B c)]) (Qa (YE i) (Qa (eqt g) (Qa (net f) (Qa (je e) (Qa (eqt j) q)))))
   cases h
  obtain⟨e,h⟩|⟨e,h⟩:=io h
  ·have⟨b,f,h⟩:=bo h;obtain rfl:=oi h;exact rf (o [b1,b0,b0,b1,.no,b1,.ret (B b)]) (Qa (YE f) (Qa (eqt e) (Qa (net j) (Qa (eqf j) q))))
  cases h
 have q:=Qa (net C) q;let o l:=o (b1::l);obtain⟨z,h⟩|⟨z,h⟩:=io h
 ·have⟨t7,x,h⟩:=bo h;have q:=Qa (We x) (Qa (nef z) q);let o l:=o (b0::.obj none (.tup [.ptr 0 0 0 0 0,.d (I t7.1),.d (I t7.2.1)]) (Qb' t7.2.2) []::l);obtain⟨s,h⟩|⟨s,h⟩:=io h
  ·have q:=Qa (nef s) q;obtain⟨j,h⟩|⟨j,h⟩:=io h
   ·have⟨t10,e,h⟩:=bo h;have q:=Qa (je e) (Qa (eqt j) q);let o l:=o (b0::b1::.no::.ret (.tup [.agg [I t10.1,I t10.2.1,B t10.2.2.1,B t10.2.2.2.1,I t10.2.2.2.2.1,I t10.2.2.2.2.2.1,I t10.2.2.2.2.2.2.1,.lst false 1 t10.2.2.2.2.2.2.2.1,.lst false 6 t10.2.2.2.2.2.2.2.2.1,.lst false 7 t10.2.2.2.2.2.2.2.2.2.1],I t10.2.2.2.2.2.2.2.2.2.2.1,I t10.2.2.2.2.2.2.2.2.2.2.2])::b0::.no::.no::l);obtain⟨f,h⟩|⟨f,h⟩:=io h
    ·have q:=Qa (nef f) q;have⟨a,g,h⟩:=bo h;obtain a|a:=a
     ·obtain rfl:=oi h;exact rf (o [.lp [] [5,8,69,70,71] [52,53,61,62,63,70] .ret [(4,.d (B a))] [] 170]) (Qa (QH Qq7 g) q)
     have⟨c,i,h⟩:=bo h;have⟨t14,k,h⟩:=bo h;obtain⟨m,h⟩|⟨m,h⟩:=io h
     ·have⟨t16,t,h⟩:=bo h;have⟨t17,u,h⟩:=bo h;obtain⟨p,h⟩|⟨p,h⟩:=io h
      ·have⟨t19,v,h⟩:=bo h;obtain rfl:=oi h;exact rf (o [.lp [] [5,8,69,70,71] [52,53,61,62,63,70] (.exit 0) [(5,.d (.lst false 5 a.1)),(8,.ptr 70 0 0 0 0)] [(52,.row 0 5 a.2.1),(53,.row 0 5 a.2.2.1),(61,.row 0 1 a.2.2.2.1),(62,.row 0 6 a.2.2.2.2.1),(63,.row 0 7 a.2.2.2.2.2.1),(70,.box (.agg [.own 52 0,.own 53 0,.d (I a.2.2.2.2.2.2.1),.d (I a.2.2.2.2.2.2.2.1),.d (B a.2.2.2.2.2.2.2.2.1),.d (B a.2.2.2.2.2.2.2.2.2.1),.d (I a.2.2.2.2.2.2.2.2.2.2.1),.d (I a.2.2.2.2.2.2.2.2.2.2.2.1),.d (I a.2.2.2.2.2.2.2.2.2.2.2.2),.own 61 0,.own 62 0,.own 63 0]))] 170,b1,.no,.obj (some 70) (.d (.lst false 5 c)) (Qb a.2.1 a.2.2.1 a.2.2.2.2.2.2.1 a.2.2.2.2.2.2.2.1 a.2.2.2.2.2.2.2.2.1 a.2.2.2.2.2.2.2.2.2.1 a.2.2.2.2.2.2.2.2.2.2.1 a.2.2.2.2.2.2.2.2.2.2.2.1 a.2.2.2.2.2.2.2.2.2.2.2.2 a.2.2.2.1 a.2.2.2.2.1 a.2.2.2.2.2.1) ZV,.ret (B t14),b1,.obj (some 70) (.d (Qr5 t16)) (Qb a.2.1 a.2.2.1 a.2.2.2.2.2.2.1 a.2.2.2.2.2.2.2.1 a.2.2.2.2.2.2.2.2.1 a.2.2.2.2.2.2.2.2.2.1 a.2.2.2.2.2.2.2.2.2.2.1 a.2.2.2.2.2.2.2.2.2.2.2.1 a.2.2.2.2.2.2.2.2.2.2.2.2 a.2.2.2.1 a.2.2.2.2.1 a.2.2.2.2.2.1) ZV,.ret (Qr5 t17),b1,.no,b1,.no,.no,b1,.no,.no,.ret (B t19)]) (Qa (YE v) (Qa p (Qa (Qmr u) (Qa (Qod t) (Qa m (Qa (Qee k) (Qa (Qq9 i) (Qa (QH Qq7 g) q))))))))
      cases h
     cases h
    cases h
   have q:=Qa (eqf j) q;obtain⟨e,h⟩|⟨e,h⟩:=io h
   ·have⟨b,f,h⟩:=bo h;have q:=Qa (je f) (Qa (eqt e) q);let o l:=o (b0::b0::b1::.ret (.tup [.agg [I b.1,I b.2.1,B b.2.2.1,B b.2.2.2.1,I b.2.2.2.2.1,I b.2.2.2.2.2.1,I b.2.2.2.2.2.2.1,.lst false 1 b.2.2.2.2.2.2.2.1,.lst false 6 b.2.2.2.2.2.2.2.2.1,.lst false 7 b.2.2.2.2.2.2.2.2.2.1],I b.2.2.2.2.2.2.2.2.2.2.1,I b.2.2.2.2.2.2.2.2.2.2.2])::b0::.no::.no::l);obtain⟨g,h⟩|⟨g,h⟩:=io h
    ·have q:=Qa (nef g) q;have⟨c,i,h⟩:=bo h;obtain c|c:=c
     ·obtain rfl:=oi h;exact rf (o [.lp [] [5,8,69,70,71] [52,53,61,62,63,70] .ret [(4,.d (B c))] [] 170]) (Qa (QH Qq7 i) q)
     have⟨t14,k,h⟩:=bo h;have⟨t15,m,h⟩:=bo h;obtain⟨t,h⟩|⟨t,h⟩:=io h
     ·have⟨t17,u,h⟩:=bo h;have⟨t18,p,h⟩:=bo h;obtain⟨v,h⟩|⟨v,h⟩:=io h
      ·have⟨t20,h20,h⟩:=bo h;obtain rfl:=oi h;exact rf (o [.lp [] [5,8,69,70,71] [52,53,61,62,63,70] (.exit 0) [(5,.d (.lst false 5 c.1)),(8,.ptr 70 0 0 0 0)] [(52,.row 0 5 c.2.1),(53,.row 0 5 c.2.2.1),(61,.row 0 1 c.2.2.2.1),(62,.row 0 6 c.2.2.2.2.1),(63,.row 0 7 c.2.2.2.2.2.1),(70,.box (.agg [.own 52 0,.own 53 0,.d (I c.2.2.2.2.2.2.1),.d (I c.2.2.2.2.2.2.2.1),.d (B c.2.2.2.2.2.2.2.2.1),.d (B c.2.2.2.2.2.2.2.2.2.1),.d (I c.2.2.2.2.2.2.2.2.2.2.1),.d (I c.2.2.2.2.2.2.2.2.2.2.2.1),.d (I c.2.2.2.2.2.2.2.2.2.2.2.2),.own 61 0,.own 62 0,.own 63 0]))] 170,b1,.no,.obj (some 70) (.d (.lst false 5 t14)) (Qb c.2.1 c.2.2.1 c.2.2.2.2.2.2.1 c.2.2.2.2.2.2.2.1 c.2.2.2.2.2.2.2.2.1 c.2.2.2.2.2.2.2.2.2.1 c.2.2.2.2.2.2.2.2.2.2.1 c.2.2.2.2.2.2.2.2.2.2.2.1 c.2.2.2.2.2.2.2.2.2.2.2.2 c.2.2.2.1 c.2.2.2.2.1 c.2.2.2.2.2.1) ZV,.ret (B t15),b1,.obj (some 70) (.d (Qr5 t17)) (Qb c.2.1 c.2.2.1 c.2.2.2.2.2.2.1 c.2.2.2.2.2.2.2.1 c.2.2.2.2.2.2.2.2.1 c.2.2.2.2.2.2.2.2.2.1 c.2.2.2.2.2.2.2.2.2.2.1 c.2.2.2.2.2.2.2.2.2.2.2.1 c.2.2.2.2.2.2.2.2.2.2.2.2 c.2.2.2.1 c.2.2.2.2.1 c.2.2.2.2.2.1) ZV,.ret (Qr5 t18),b1,.no,b1,.no,.no,b1,.no,.no,.ret (B t20)]) (Qa (YE h20) (Qa v (Qa (Qmr p) (Qa (Qod u) (Qa t (Qa (Qee m) (Qa (Qq9 k) (Qa (QH Qq7 i) q))))))))
      cases h
     cases h
    cases h
   cases h
  have q:=Qa (net s) q;obtain⟨j,h⟩|⟨j,h⟩:=io h
  ·have⟨t10,e,h⟩:=bo h;obtain⟨f,h⟩|⟨f,h⟩:=io h
   ·cases h
   obtain⟨g,h⟩|⟨g,h⟩:=io h
   ·have⟨c,i,h⟩:=bo h;obtain rfl:=oi h;exact rf (o [b1,b1,.no,.ret (.tup [.agg [I t10.1,I t10.2.1,B t10.2.2.1,B t10.2.2.2.1,I t10.2.2.2.2.1,I t10.2.2.2.2.2.1,I t10.2.2.2.2.2.2.1,.lst false 1 t10.2.2.2.2.2.2.2.1,.lst false 6 t10.2.2.2.2.2.2.2.2.1,.lst false 7 t10.2.2.2.2.2.2.2.2.2.1],I t10.2.2.2.2.2.2.2.2.2.2.1,I t10.2.2.2.2.2.2.2.2.2.2.2]),b1,.no,b1,.ret (B c)]) (Qa (YE i) (Qa (eqt g) (Qa (net f) (Qa (je e) (Qa (eqt j) q)))))
   cases h
  have q:=Qa (eqf j) q;obtain⟨e,h⟩|⟨e,h⟩:=io h
  ·have⟨b,f,h⟩:=bo h;obtain⟨g,h⟩|⟨g,h⟩:=io h
   ·cases h
   obtain⟨i,h⟩|⟨i,h⟩:=io h
   ·have⟨t14,k,h⟩:=bo h;obtain rfl:=oi h;exact rf (o [b1,b0,b1,.ret (.tup [.agg [I b.1,I b.2.1,B b.2.2.1,B b.2.2.2.1,I b.2.2.2.2.1,I b.2.2.2.2.2.1,I b.2.2.2.2.2.2.1,.lst false 1 b.2.2.2.2.2.2.2.1,.lst false 6 b.2.2.2.2.2.2.2.2.1,.lst false 7 b.2.2.2.2.2.2.2.2.2.1],I b.2.2.2.2.2.2.2.2.2.2.1,I b.2.2.2.2.2.2.2.2.2.2.2]),b1,.no,b1,.ret (B t14)]) (Qa (YE k) (Qa (eqt i) (Qa (net g) (Qa (je f) (Qa (eqt e) q)))))
   cases h
  obtain⟨f,h⟩|⟨f,h⟩:=io h
  ·have⟨a,g,h⟩:=bo h;obtain rfl:=oi h;exact rf (o [b1,b0,b0,b1,.no,b1,.ret (B a)]) (Qa (YE g) (Qa (eqt f) (Qa (net e) (Qa (eqf e) q))))
  cases h
 have q:=Qa (net z) q;obtain⟨x,h⟩|⟨x,h⟩:=io h
 ·have⟨t8,s,h⟩:=bo h;obtain⟨j,h⟩|⟨j,h⟩:=io h
  ·cases h
  obtain⟨e,h⟩|⟨e,h⟩:=io h
  ·have⟨b,f,h⟩:=bo h;obtain rfl:=oi h;exact rf (o [b1,b1,.no,.ret (.tup [.agg [I t8.1,I t8.2.1,B t8.2.2.1,B t8.2.2.2.1,I t8.2.2.2.2.1,I t8.2.2.2.2.2.1,I t8.2.2.2.2.2.2.1,.lst false 1 t8.2.2.2.2.2.2.2.1,.lst false 6 t8.2.2.2.2.2.2.2.2.1,.lst false 7 t8.2.2.2.2.2.2.2.2.2.1],I t8.2.2.2.2.2.2.2.2.2.2.1,I t8.2.2.2.2.2.2.2.2.2.2.2]),b1,.no,b1,.ret (B b)]) (Qa (YE f) (Qa (eqt e) (Qa (net j) (Qa (je s) (Qa (eqt x) q)))))
  cases h
 have q:=Qa (eqf x) q;obtain⟨s,h⟩|⟨s,h⟩:=io h
 ·have⟨t9,j,h⟩:=bo h;obtain⟨e,h⟩|⟨e,h⟩:=io h
  ·cases h
  obtain⟨f,h⟩|⟨f,h⟩:=io h
  ·have⟨a,g,h⟩:=bo h;obtain rfl:=oi h;exact rf (o [b1,b0,b1,.ret (.tup [.agg [I t9.1,I t9.2.1,B t9.2.2.1,B t9.2.2.2.1,I t9.2.2.2.2.1,I t9.2.2.2.2.2.1,I t9.2.2.2.2.2.2.1,.lst false 1 t9.2.2.2.2.2.2.2.1,.lst false 6 t9.2.2.2.2.2.2.2.2.1,.lst false 7 t9.2.2.2.2.2.2.2.2.2.1],I t9.2.2.2.2.2.2.2.2.2.2.1,I t9.2.2.2.2.2.2.2.2.2.2.2]),b1,.no,b1,.ret (B a)]) (Qa (YE g) (Qa (eqt f) (Qa (net e) (Qa (je j) (Qa (eqt s) q)))))
  cases h
 obtain⟨j,h⟩|⟨j,h⟩:=io h
 ·have⟨t10,e,h⟩:=bo h;obtain rfl:=oi h;exact rf (o [b1,b0,b0,b1,.no,b1,.ret (B t10)]) (Qa (YE e) (Qa (eqt j) (Qa (net s) (Qa (eqf s) q))))
 cases h
theorem QiF (l:List UInt8):(mkS l).size=l.length:=by simp[mkS,ByteArray.size]
theorem Qkr (a b:List UInt8):((mkS a).toList==(mkS b).toList)=decide (a=b):=by rw[Bool.eq_iff_iff,beq_iff_eq,decide_eq_true_eq,jW,jW,Qjx,Qjx]
theorem Qjy (a b:List UInt8):mkS a++mkS b=mkS (a++b):=by
 have:(mkS a++mkS b).data.toList=a++b:=by rw[ByteArray.data_append];simp[mkS]
 rw[<-yD (mkS a++mkS b),this]
theorem Qi8 (l:List UInt8)(i:Nat):WQ (mkS l) (i:Int)=l[i]?.map fun b=>(b.toNat:Int):=by
 unfold WQ;rw[jTj (Int.natCast_nonneg i),jtj];have:(mkS l)[i]?=l[i]?:=by
  by_cases h:i<l.length
  ·have a : i<(mkS l).size:=by rw[QiF];exact h
   rw[getElem?_pos (mkS l) i a,jej h];congr 1
  ·have a : ¬i<(mkS l).size:=by rw[QiF];exact h
   rw[getElem?_neg (mkS l) i a,List.getElem?_eq_none (by omega)]
 rw[this];cases l[i]?<;>rfl
theorem Qkp (l:List UInt8)(a b:Nat):(mkS l).extract a b=mkS ((l.take b).drop a):=by
 rw[<-yD ((mkS l).extract a b)];congr 1
 rw[ByteArray.data_extract];simp[mkS];rw[List.take_drop];by_cases h:a<=b
 ·rw[show a+(b - a)=b by omega]
 ·rw[show a+(b - a)=a by omega,List.drop_eq_nil_of_le (by simp;omega),List.drop_eq_nil_of_le (by simp;omega)]
theorem QmX (l:List UInt8){a b:Nat}(c:a<=b)(d:b<=l.length):Qi7 (mkS l) (some (a:Int)) (some (b:Int))=some (mkS ((l.take b).drop a)):=by unfold Qi7;simp only[Option.getD_some,QiF];rw[jTj (by omega),jtj,jtj,Qkp]
theorem QlT (l:List UInt8){b:Nat}(a:b<=l.length):Qi7 (mkS l) none (some (b:Int))=some (mkS (l.take b)):=by unfold Qi7;simp only[Option.getD_some,Option.getD_none,QiF];rw[jTj (by omega),jtj,Int.toNat_zero,Qkp,List.drop_zero]
theorem QjN (l:List UInt8){a:Nat}(b:a<=l.length):Qi7 (mkS l) (some (a:Int)) none=some (mkS (l.drop a)):=by unfold Qi7;simp only[Option.getD_some,Option.getD_none,QiF];rw[jTj (by omega),jtj,jtj,Qkp,List.take_length]
def spl (c:UInt8):List UInt8->List (List UInt8)
 | []=>[[]]
 | x::l=>if x=c then[]::spl c l else match spl c l with
  | []=>[[x]]
  | h::t=>(x::h)::t
def pre (p:List UInt8):List (List UInt8)->List (List UInt8)
 | []=>[p]
 | h::t=>(p++h)::t
theorem QjB (c:UInt8)(l:List UInt8):spl c l≠[]:=by
 cases l with
 | nil=>simp[spl]
 | cons x l =>
  unfold spl;split
  ·simp
  ·split<;>simp
theorem Qkf (c x:UInt8)(l:List UInt8)(h:x≠c):spl c (x::l)=pre [x] (spl c l):=by
 conv=>lhs;unfold spl
 rw[jFj h];cases spl c l<;>rfl
theorem Qkw (c:UInt8)(l:List UInt8):spl c (c::l)=[]::spl c l:=by
 conv=>lhs;unfold spl
 rw[jTj rfl]
theorem QlX {L:List (List UInt8)}(h:L≠[]):pre [] L=L:=by
 cases L with
 | nil=>exact absurd rfl h
 | cons a L=>rfl
theorem QmF (p q:List UInt8){L:List (List UInt8)}(h:L≠[]):pre p (pre q L)=pre (p++q) L:=by
 cases L with
 | nil=>exact absurd rfl h
 | cons a L=>simp[pre]
theorem QlV (c:UInt8):∀(a b:List UInt8),c∉a->spl c (a++b)=pre a (spl c b)
 | [],b,_=>by rw[List.nil_append,QlX (QjB c b)]
 | x::a,b,h=>by rw[List.cons_append,Qkf c x _ (fun e=>h (by rw[e];exact jMj)),QlV c a b (fun d=>h (jmj _ d)),QmF _ _ (QjB c b)];rfl
theorem QlU (c:UInt8)(a b:List UInt8)(h:c∉a):spl c (a++c::b)=a::spl c b:=by rw[QlV c a _ h,Qkw];simp[pre]
theorem Qla (c:UInt8)(a:List UInt8)(h:c∉a):spl c a=[a]:=by have:=QlV c a [] h;simpa[spl,pre] using this
def glue (c:UInt8):List (List UInt8)->List UInt8
 | []=>[]
 | [p]=>p
 | p::q::L=>p++c::glue c (q::L)
theorem Qm3 (c:UInt8)(p:List UInt8){L:List (List UInt8)}(h:L≠[]):glue c (pre p L)=p++glue c L:=by
 cases L with
 | nil=>exact absurd rfl h
 | cons a L =>
  cases L with
  | nil=>rfl
  | cons b L=>simp[pre,glue]
theorem QjE (c:UInt8):∀l:List UInt8,glue c (spl c l)=l
 | []=>rfl
 | x::l=>by
  by_cases h:x=c
  ·subst h;rw[Qkw];have:=QjB x l;have b:=QjE x l;cases hs:spl x l with
   | nil=>exact absurd hs this
   | cons a L=>rw[hs] at b;simp[glue,b]
  ·rw[Qkf c x l h,Qm3 c [x] (QjB c l),QjE c l];rfl
theorem Qke (c:UInt8):∀(l:List UInt8) (p:List UInt8),p∈spl c l->c∉p
 | [],p,h=>by
  have:p=[]:=by simpa[spl] using h
  rw[this];simp
 | x::l,p,h=>by
  by_cases d:x=c
  ·subst d;rw[Qkw] at h;obtain h|h:=List.mem_cons.1 h
   ·rw[h];simp
   ·exact Qke x l p h
  ·rw[Qkf c x l d] at h;have e:=Qke c l;cases hs:spl c l with
   | nil=>exact absurd hs (QjB c l)
   | cons a L =>
    rw[hs] at h e;simp only[pre,List.singleton_append] at h;obtain h|h:=List.mem_cons.1 h
    ·rw[h];intro b;obtain b|b:=List.mem_cons.1 b
     ·exact d b.symm
     ·exact e a jMj b
    ·exact e p (jmj _ h)
theorem Qlb (c:UInt8):∀(L:List (List UInt8)),L≠[]->(∀p,p∈L->c∉p)->spl c (glue c L)=L
 | [],h,_=>absurd rfl h
 | [p],_,h=>Qla c p (h p jMj)
 | p::q::L,_,h=>by show spl c (p++c::glue c (q::L))=_;rw[QlU c p _ (h p jMj),Qlb c (q::L) (by simp) (fun r a=>h r (jmj _ a))]
theorem QjJ (c:UInt8):∀l:List UInt8,(spl c l).length=l.count c+1
 | []=>rfl
 | x::l=>by
  by_cases h:x=c
  ·subst h;rw[Qkw,List.length_cons,QjJ x l,List.count_cons_self]
  ·rw[Qkf c x l h,List.count_cons_of_ne h];have:=QjJ c l;cases hs:spl c l with
   | nil=>exact absurd hs (QjB c l)
   | cons a L=>rw[hs] at this;simpa[pre] using this
theorem Qm2 {c:UInt8}:∀{l:List UInt8},c∈l->∃a b,l=a++c::b/\c∉a
 | x::l,h=>by
  by_cases e:x=c
  ·subst e;exact⟨[],l,rfl,by simp⟩
  ·obtain h|h:=List.mem_cons.1 h
   ·exact absurd h.symm e
   ·obtain⟨a,b,f,g⟩:=Qm2 h;refine⟨x::a,b,by rw[f];rfl,fun d=>?_⟩;obtain d|d:=List.mem_cons.1 d
    ·exact e d.symm
    ·exact g d
theorem QkK {c:UInt8}:∀{a:List UInt8} (b:List UInt8),c∉a->Lib.indexByte (a++c::b) c=(a.length:Int)
 | [],b,_=>by simp[Lib.indexByte]
 | x::a,b,h=>by
  have f:¬(x=c):=fun e=>h (by rw[e];exact jMj);have g:=QkK b (fun d=>h (jmj _ d));rw[List.cons_append,Lib.indexByte,jFj (by simpa using f),g];have:¬(((a.length:Int))==-1)=true:=by simp
  rw[jFj this];simp
theorem Qlj {c:UInt8}:∀{a:List UInt8},c∉a->Lib.indexByte a c=-1
 | [],_=>rfl
 | x::a,h=>by have d:¬(x=c):=fun e=>h (by rw[e];exact jMj);have f:=Qlj (fun b=>h (jmj _ b));rw[Lib.indexByte,jFj (by simpa using d),f];rfl
def QiV (l:List UInt8):Prop:=∀c,c∈l->48<=c.toNat/\c.toNat<=57
instance (l:List UInt8):Decidable (QiV l):=by unfold QiV;infer_instance
def valN:Nat->List UInt8->Nat
 | n,[]=>n
 | n,c::l=>valN (10*n+(c.toNat - 48)) l
def QjX (d:List UInt8):Prop:=d≠[]/\d.length<=9/\QiV d/\(d.head?≠some 48\/d.length=1)
instance (l:List UInt8):Decidable (QjX l):=by unfold QjX;infer_instance
theorem Qjf {c:UInt8}{l:List UInt8}:QiV (c::l)↔(48<=c.toNat/\c.toNat<=57)/\QiV l:=by simp[QiV]
theorem QlO {a b:List UInt8}:QiV (a++b)↔QiV a/\QiV b:=by simp only[QiV,List.mem_append];exact⟨fun h=>⟨fun c hc=>h c (.inl hc),fun c hc=>h c (.inr hc)⟩,fun h c hc=>hc.elim (h.1 c) (h.2 c)⟩
theorem Ql7:∀(a b:List UInt8) (n:Nat),valN n (a++b)=valN (valN n a) b
 | [],_,_=>rfl
 | c::a,b,n=>Ql7 a b _
theorem QlE (a:List UInt8)(c:UInt8)(n:Nat):valN n (a++[c])=10*valN n a+(c.toNat - 48):=by rw[Ql7];rfl
theorem Qmz:∀(l:List UInt8) (n:Nat),n<=valN n l
 | [],n=>jLj _
 | c::l,n=>by have:=Qmz l (10*n+(c.toNat - 48));show n<=valN _ l;omega
theorem Qmy:∀(l:List UInt8) (n k:Nat),QiV l->n<10 ^ k->valN n l<10 ^ (k+l.length)
 | [],n,k,_,h=>h
 | c::l,n,k,hd,h=>by obtain⟨hc,a⟩:=Qjf.1 hd;have:=Qmy l (10*n+(c.toNat - 48)) (k+1) a (by rw[Nat.pow_succ];omega);show valN _ l<_;rw[List.length_cons,show k+(l.length+1)=k+1+l.length by omega];exact this
theorem QmV {d:List UInt8}(h:QiV d)(b:d≠[])(a:d.head?≠some 48):1<=valN 0 d:=by
 cases d with
 | nil=>exact absurd rfl b
 | cons c l =>
  obtain⟨hc,g⟩:=Qjf.1 h;have f:c.toNat≠48:=fun e=>a (by have:c=48:=UInt8.toNat_inj.1 e;rw[this];rfl)
  have:=Qmz l (10*0+(c.toNat - 48));show 1<=valN _ l;omega
theorem Qkd {k:Nat}(h:k<10):(UInt8.ofNat (48+k)).toNat=48+k:=by simp only[UInt8.toNat_ofNat'];omega
theorem QlN {k:Nat}(h:k<10):QiV [UInt8.ofNat (48+k)]:=by intro c hc;rw[List.mem_singleton] at hc;rw[hc,Qkd h];omega
theorem Qmp (u:Nat):QiV (Lib.decDigits u)/\Lib.decDigits u≠[]/\valN 0 (Lib.decDigits u)=u/\((Lib.decDigits u).head?≠some 48\/(Lib.decDigits u).length=1)/\∀k,1<=k->u<10 ^ k->(Lib.decDigits u).length<=k:=by
 induction u using Nat.strongRecOn with
 | _ u s =>
  by_cases h:u<10
  ·rw[Lib.decDigits,dif_pos h];refine⟨QlN h,by simp,?_,.inr rfl,fun k f _=>by simpa using f⟩;show 10*0+((UInt8.ofNat (48+u)).toNat - 48)=u;rw[Qkd h];omega
  ·rw[Lib.decDigits,dif_neg h];obtain⟨j,m,e,n,o⟩:=s (u / 10) (by omega);have g:u % 10<10:=Nat.mod_lt _ (by decide);refine⟨QlO.2 ⟨j,QlN g⟩,by simp,?_,.inl ?_,fun k f i=>?_⟩
   ·rw[QlE,e,Qkd g];omega
   ·have b:(Lib.decDigits (u / 10)).head?≠some 48:=by
     intro d;have q:=n.resolve_left (fun hc=>hc d);have r:valN 0 (Lib.decDigits (u / 10))=0:=by
      match hd:Lib.decDigits (u / 10),q with
      | [c],_ =>
       rw[hd] at d;simp only[List.head?_cons,jIj] at d;rw[d];rfl
     rw[e] at r;omega
    cases hd:Lib.decDigits (u / 10) with
    | nil=>exact absurd hd m
    | cons a l=>rw[hd] at b;simpa using b
   ·cases k with
    | zero=>omega
    | succ k =>
     have p:k≠0:=by rintro rfl;simp at i;omega
     have:=o k (by omega) (by rw[Nat.pow_succ] at i;omega);rw[jaj];simpa using this
theorem Qnt {u:Nat}(h:u<1000000000):QjX (Lib.decDigits u):=by obtain⟨a,b,e,c,d⟩:=Qmp u;exact⟨b,d 9 (by decide) (by simpa using h),a,c⟩
theorem QmL:∀(k:Nat) (d:List UInt8),d.length=k->d≠[]->QiV d->(d.head?≠some 48\/d.length=1)->Lib.decDigits (valN 0 d)=d
 | 0,d,h,hn,_,_=>absurd (List.length_eq_zero_iff.1 h) hn
 | k+1,d,h,hn,hd,hh=>by
  obtain⟨a,c,rfl⟩:∃a c,d=a++[c]:=⟨d.dropLast,d.getLast hn,(List.dropLast_concat_getLast hn).symm⟩
  obtain⟨g,hc⟩:=QlO.1 hd;have j:=hc c (by simp);have e:UInt8.ofNat (48+(c.toNat - 48))=c:=by rw[show 48+(c.toNat - 48)=c.toNat by omega];exact UInt8.ofNat_toNat
  rw[QlE];by_cases b:a=[]
  ·subst b;rw[Lib.decDigits,dif_pos (by show 10*0+(c.toNat - 48)<10;omega)];show[UInt8.ofNat (48+(10*0+(c.toNat - 48)))]=[c]
   rw[show 10*0+(c.toNat - 48)=c.toNat - 48 by omega,e]
  ·have m:0<a.length:=List.length_pos_iff.2 b;have f:a.head?≠some 48:=by
    have i:=hh.resolve_right (by simp;omega);cases a with
    | nil=>exact absurd rfl b
    | cons x l=>simpa using i
   have hp:=QmV g b f;rw[Lib.decDigits,dif_neg (by omega)];rw[show(10*valN 0 a+(c.toNat - 48)) / 10=valN 0 a by omega,show(10*valN 0 a+(c.toNat - 48)) % 10=c.toNat - 48 by omega,e];rw[QmL k a (by simp at h;omega) b g (.inl f)]
theorem Qm9 {d:List UInt8}(h:QjX d):valN 0 d<1000000000:=by have a:=Qmy d 0 0 h.2.2.1 (by decide);rw[Nat.zero_add] at a;have b:(10:Nat) ^ d.length<=10 ^ 9:=Nat.pow_le_pow_right (by decide) h.2.1;omega
def num (w:List UInt8):Option Int:=if QjX w then some (valN 0 w:Int) else none
theorem Qk7 {n:Int}(h:0<=n):Lib.itoa n=Lib.decDigits n.toNat:=by unfold Lib.itoa;rw[jFj (by omega)]
theorem Qmg {w:List UInt8}{v:Int}(h:num w=some v):Lib.itoa v=w/\0<=v/\v<1000000000:=by
 unfold num at h;split at h;case isFalse=>cases h
 rename_i a;simp only[jIj] at h;have b:=Qm9 a;refine⟨?_,by omega,by omega⟩;rw[Qk7 (by omega),show v.toNat=valN 0 w by omega,QmL _ _ rfl a.1 a.2.2.1 a.2.2.2]
theorem Qmh {n:Int}(a:0<=n)(b:n<1000000000):(Lib.itoa n).length<=9:=by rw[Qk7 a];exact(Qnt (u:=n.toNat) (by omega)).2.1
set_option maxRecDepth 20000
def eS (p:List UInt8):D:=.v (.string (mkS p))
theorem Qns:(.v (.string ⟨#[]⟩):D)=eS []:=rfl
theorem QmZ {k:Nat}(h:k<=100000):Wa 16 k:=by unfold Wa;omega
theorem i64 {m:Int}(a : -1000000000000<=m)(b:m<=1000000000000):Qh m:=by unfold Qh;omega
theorem QjW (n:Nat)(l:List UInt8)(c:UInt8)(v:l.length<=2000):∀(a:List UInt8) (i j:Nat) (acc:List (List UInt8)) (k:Nat),l.drop i=a->j<=i->i<=l.length->acc.length<=i->a.length<k ->
  ∃(d : Nat) (b : List (List UInt8)),Q2 (QiT n (mkS l) (c.toNat:Int)) k ((j:Int),(i:Int),acc.map eS)=some ((d : Int),b.map eS)/\d<=l.length/\b.length<=l.length/\b++[l.drop d]=acc++pre ((l.take i).drop j) (spl c a)
 | _,_,_,_,0,_,_,_,_,hk=>absurd hk (by omega)
 | [],i,j,acc,k+1,hd,hf,hi,ha,_=>by
  have t:i=l.length:=by have:=List.drop_eq_nil_iff.1 hd;omega
  refine⟨j,acc,?_,by omega,by omega,?_⟩
  ·refine JB ?_;unfold QiT;rw[jFj (by rw[QiF];dsimp only;omega)]
  ·rw[t,List.take_length];simp[spl,pre]
 | x::a,i,j,acc,k+1,hd,hf,hi,ha,hk=>by
  have g:i<l.length:=by
   obtain h|h:=Nat.lt_or_ge i l.length
   ·exact h
   ·rw[List.drop_eq_nil_of_le h] at hd;cases hd
  have u:l[i]?=some x:=by have:=List.drop_eq_getElem_cons g;rw[hd] at this;rw[jej g];exact congrArg some (List.cons.inj this).1.symm
  have o : l.drop (i+1)=a:=by have:=List.drop_eq_getElem_cons g;rw[hd] at this;exact(List.cons.inj this).2.symm
  have f:(i:Int)+1=((i+1:Nat):Int):=by simp
  by_cases m:x=c
  ·subst m;obtain⟨d,b,p,q,r,s⟩:=QjW n l x v a (i+1) (i+1) (acc++[(l.take i).drop j]) k o (jLj _) g (by simp;omega) (by simp at hk;omega);refine⟨d,b,?_,q,r,?_⟩
   ·rw[E3 (s':=(((i+1:Nat):Int),((i+1:Nat):Int),(acc++[(l.take i).drop j]).map eS))]
    ·exact p
    ·unfold QiT;dsimp only;rw[jTj (by rw[QiF];omega),Qi8,u,Option.map_some,jBj,jTj rfl,QmX l hf (by omega),jBj,jTj (by rw[jlj];exact QmZ (by omega)),jTj (i64 (by omega) (by omega)),f,List.map_append];rfl
   ·rw[s,Qkw,show(l.take (i+1)).drop (i+1)=[] from List.drop_eq_nil_of_le (by simp;omega),QlX (QjB x a)];simp[pre]
  ·obtain⟨d,b,p,q,r,s⟩:=QjW n l c v a (i+1) j acc k o (by omega) g (by omega) (by simp at hk;omega);refine⟨d,b,?_,q,r,?_⟩
   ·rw[E3 (s':=((j:Int),((i+1:Nat):Int),acc.map eS))]
    ·exact p
    ·unfold QiT;dsimp only;rw[jTj (by rw[QiF];omega),Qi8,u,Option.map_some,jBj,jFj (fun e=>m (UInt8.toNat_inj.1 (by omega))),jTj (i64 (by omega) (by omega)),f]
   ·rw[s,Qkf c x a m,QmF _ _ (QjB c a)];congr 2
    rw[List.take_add_one,u,List.drop_append_of_le_length (by simp;omega)];rfl
theorem QkR {n:Nat}(j:3000<=n){l:List UInt8}(c:UInt8)(h:l.length<=2000):Qi4 n (mkS l) (c.toNat:Int)=some ((spl c l).map eS):=by
 obtain⟨b,acc,d,e,i,f⟩:=QjW n l c h l 0 0 [] n rfl (jLj _) (Nat.zero_le _) (by simp) (by omega);unfold Qi4;have a : Q2 (QiT n (mkS l) (c.toNat:Int)) n (0,0,[])=some ((b:Int),acc.map eS):=d;rw[a,jBj];dsimp only;rw[QjN l e,jBj,jTj (by rw[jlj];exact QmZ (by omega))];have g:acc++[l.drop b]=spl c l:=by rw[f,List.nil_append,List.take_zero,List.drop_nil,QlX (QjB c l)]
 rw[<-g,List.map_append];rfl
theorem Qnc (n:Nat)(l:List UInt8):Qjo n (mkS l)=some (Lib.indexByte l 32):=by
 unfold Qjo Qi9;have e:(⟨#[32]⟩:jSj)=mkS [32]:=rfl;rw[e,Qkr];by_cases h:[32]=l
 ·rw[jTj (jDj h),<-h];rfl
 ·rw[jFj (by simpa using h)];unfold Qi6;rw[Qjx];rfl
theorem Qkn (n:Nat)(l:List UInt8)(y:l.length<=2000):∀(m:Nat) (done:List (List UInt8)) (s:List UInt8) (k:Nat),s.count 32=m->done.length+m=l.count 32->spl 32 l=done++spl 32 s->s.length<=2000->m<k ->
  ∃(done' : List (List UInt8)) (s' : List UInt8),Q2 (QiN n (mkS l) ((l.count 32:Nat):Int)) k (mkS s,(done.length:Int),done.map eS++List.replicate (m+1) (eS []))=some (mkS s',((l.count 32:Nat):Int),done'.map eS++[eS []])/\done'.length=l.count 32/\spl 32 l=done'++[s']
 | _,_,_,0,_,_,_,_,hk=>absurd hk (by omega)
 | 0,done,s,k+1,hm,hd,hs,_,_=>by
  have g:(32:UInt8)∉s:=List.count_eq_zero.1 hm;have i:l.count 32<=l.length:=List.count_le_length;refine⟨done,s,?_,by omega,by rw[hs,Qla 32 s g]⟩;have c:minI (((l.count 32:Nat):Int)+1) (((mkS l).size:Int)+1)=((l.count 32:Nat):Int)+1:=by rw[QiF];unfold minI;split<;>omega
  rw[JB (e:=(mkS s,(done.length:Int),done.map eS++List.replicate 1 (eS [])))]
  ·rw[show done.length=l.count 32 by omega];rfl
  ·unfold QiN;dsimp only;rw[c,jFj (by omega)]
 | m+1,done,s,k+1,hm,hd,hs,hsl,hk=>by
  have i:l.count 32<=l.length:=List.count_le_length;have c:minI (((l.count 32:Nat):Int)+1) (((mkS l).size:Int)+1)=((l.count 32:Nat):Int)+1:=by rw[QiF];unfold minI;split<;>omega
  obtain⟨a,b,rfl,f⟩:=Qm2 (List.count_pos_iff.1 (show 0<s.count 32 by omega));have h:b.count 32=m:=by rw[List.count_append,List.count_cons_self,List.count_eq_zero.2 f] at hm;omega
  have j:a.length+b.length+1<=2000:=by simp at hsl;omega
  obtain⟨done',s',r,t,u⟩:=Qkn n l y m (done++[a]) b k h (by simp;omega) (by rw[hs,QlU 32 a b f];simp) (by omega) (by omega);refine⟨done',s',?_,t,u⟩;rw[E3 (s':=(mkS b,((done++[a]).length:Int),(done++[a]).map eS++List.replicate (m+1) (eS [])))]
  ·exact r
  ·unfold QiN;dsimp only;have x:(a++32::b).length=a.length+b.length+1:=by simp;omega
   have d:(done.map eS++List.replicate (m+1+1) (eS [])).length=done.length+m+2:=by simp;omega
   rw[c,jTj (by omega),Qnc,jBj,QkK b f,jFj (by omega),jTj (i64 (by omega) (by omega)),Int.add_zero,QlT _ (by omega),jBj,
    jTj (by rw[d];omega),jTj (by rw[d,jtj];omega),jTj (i64 (by omega) (by omega))]
   rw[show(a.length:Int)+1=((a.length+1:Nat):Int) by simp,QjN _ (by omega),jBj,jTj (i64 (by omega) (by omega))];have o:(a++32::b).drop (a.length+1)=b:=by simp
   have p:(a++32::b).take a.length=a:=by simp
   have q:(done.map eS++List.replicate (m+1+1) (eS [])).set (Int.toNat (done.length:Int)) (.v (.string (mkS a)))=(done++[a]).map eS++List.replicate (m+1) (eS []):=by rw[jtj,List.set_append_right _ _ (by simp)];simp[List.replicate_succ,eS]
   rw[o,p,q];simp
theorem QmY {n:Nat}(m:3000<=n){l:List UInt8}(g:l.length<=2000):Qjn n (mkS l)=some ((spl 32 l).map eS):=by
 have k:l.count 32<=l.length:=List.count_le_length;obtain⟨done,s,i,f,j⟩:=Qkn n l g (l.count 32) [] l n rfl (by simp) (by simp) g (by omega);have d:minI (((l.count 32:Nat):Int)+1) (((mkS l).size:Int)+1)=((l.count 32+1:Nat):Int):=by rw[QiF];unfold minI;split<;>omega
 unfold Qjn Qjl;have a:QjA n (mkS l) ⟨#[32]⟩=some ((l.count 32:Nat):Int):=by show some ((Lib.countByte (mkS l).data.toList 32:Nat):Int)=_;rw[Qjx];rfl
 rw[a,jBj,jTj (i64 (by omega) (by omega)),jTj (by rw[QiF];exact i64 (by omega) (by omega)),d,jTj (by omega),jTj (i64 (by omega) (by omega))];rw[jtj,Qns];have e : Q2 (QiN n (mkS l) ((l.count 32:Nat):Int)) n (mkS l,0,List.replicate (l.count 32+1) (eS []))=some (mkS s,((l.count 32:Nat):Int),done.map eS++[eS []]):=i;rw[e,jBj];dsimp only;have c:(done.map eS++[eS []]).length=l.count 32+1:=by simp[f]
 have h:(done.map eS++[eS []]).set (Int.toNat ((l.count 32:Nat):Int)) (.v (.string (mkS s)))=(spl 32 l).map eS:=by rw[jtj,List.set_append_right _ _ (by simp[f]),j];simp[f,eS]
 have b:((spl 32 l).map eS).length=l.count 32+1:=by rw[jlj,QjJ]
 rw[jTj (by rw[c];omega),jTj (by rw[c,jtj];omega),jTj (i64 (by omega) (by omega)),h,jTj (by rw[b];exact⟨by decide,by omega,by omega,.inr rfl⟩)];rw[show Int.toNat (((l.count 32:Nat):Int)+1)=l.count 32+1 by omega,<-b,List.take_length];rfl
abbrev Wrd:=List UInt8
theorem Qms {m:Int}(h:Qh m):IntKind.wrap .i64 m=m:=by unfold Qh at h;rw[IntKind.wrap_i64];omega
theorem QlR {l:Wrd}{i:Nat}{x:UInt8}(h:l[i]?=some x):Yy (mkS l) i=x.toNat:=by obtain⟨hi,a⟩:=jGj h;show(l.toArray[i]!).toNat=x.toNat;rw[getElem!_pos l.toArray i (by simpa using hi)];simp[a]
theorem Qnp {m:Int}(a:0<=m)(b:m<=9):IntKind.wrap .i32 m=m:=by
 have:m=0\/m=1\/m=2\/m=3\/m=4\/m=5\/m=6\/m=7\/m=8\/m=9:=by omega
 obtain h|h|h|h|h|h|h|h|h|h:=this<;>subst h<;>decide
theorem Qnu {m:Int}(a:0<=m)(b:m<=9):IntKind.wrap .u8 m=m:=by
 have:m=0\/m=1\/m=2\/m=3\/m=4\/m=5\/m=6\/m=7\/m=8\/m=9:=by omega
 obtain h|h|h|h|h|h|h|h|h|h:=this<;>subst h<;>decide
theorem Qnl {i v:Nat}(hi:i<=9)(h:v<10 ^ i):v<1000000000:=by have:10 ^ i<=10 ^ 9:=Nat.pow_le_pow_right (by decide) hi;omega
theorem QkB {d a:Wrd}{i:Nat}{x:UInt8}(c:d.drop i=x::a):i<d.length/\d[i]?=some x/\d.drop (i+1)=a:=by
 have b:i<d.length:=by
  obtain h|h:=Nat.lt_or_ge i d.length
  ·exact h
  ·rw[List.drop_eq_nil_of_le h] at c;cases c
 have:=List.drop_eq_getElem_cons b;rw[c] at this;refine⟨b,?_,(List.cons.inj this).2.symm⟩;rw[jej b];exact congrArg some (List.cons.inj this).1.symm
theorem Qm1 (n:Nat){d:Wrd}{i v:Nat}{x:UInt8}(b:i<d.length)(a:Utf8.decode (mkS d) i=(x.toNat,1))(g:48<=x.toNat/\x.toNat<=57)(h:d.length<=9)(q:v<1000000000) :
  QiK n (mkS d) ((v:Int),i)=some (.inl (((10*v+(x.toNat - 48):Nat):Int),i+1)):=by
 have c:i<(mkS d).size:=by rw[QiF];exact b
 have e:IntKind.wrap .i32 ((x.toNat:Int) - 48)=(x.toNat:Int) - 48:=Qnp (by omega) (by omega);have f:IntKind.wrap .i64 ((x.toNat:Int) - 48)=(x.toNat:Int) - 48:=Qms (i64 (by omega) (by omega));have j:¬((x.toNat:Int)<48):=by omega
 have k:¬((x.toNat:Int)>57):=by omega
 have l:¬(((mkS d).size:Int)>9):=by rw[QiF];omega
 have m:Qh (10*(v:Int)):=i64 (by omega) (by omega);have o:Qh (10*(v:Int)+((x.toNat:Int) - 48)):=i64 (by omega) (by omega);have p:(10*(v:Int)+((x.toNat:Int) - 48))=((10*v+(x.toNat - 48):Nat):Int):=by omega
 unfold QiK;simp only[a,c,if_true,jFj j,jFj k,jFj l,jTj m,e,f,jTj o];rw[p]
theorem Qmi (n:Nat)(d:Wrd):∀(a:Wrd) (i v k:Nat),d.drop i=a->i<=d.length->v<10 ^ i->a.length<k ->
  Q2 (QiK n (mkS d)) k ((v:Int),i)=some (if QiV a/\(d.length<=9\/a=[]) then .inr (valN v a:Int) else .inl ())
 | _,_,_,0,_,_,_,hk=>absurd hk (by omega)
 | [],i,v,k+1,hd,hi,_,_=>by
  have u:i=d.length:=by have:=List.drop_eq_nil_iff.1 hd;omega
  rw[JB (e:=.inr (v:Int)),jTj (show QiV []/\(d.length<=9\/([]:Wrd)=[]) from⟨fun c hc=>(by cases hc),.inr rfl⟩)]
  ·rfl
  unfold QiK;dsimp only;rw[jFj (by rw[QiF];omega)]
 | x::a,i,v,k+1,hd,hi,hv,hk=>by
  obtain⟨l,y,o⟩:=QkB hd;have j:=QlR y;by_cases g:48<=x.toNat/\x.toNat<=57
  ·have b:Utf8.decode (mkS d) i=(x.toNat,1):=by have:=QaR (s:=mkS d) (p:=i) (by rw[j];omega);rw[j] at this;exact this
   by_cases f:d.length<=9
   ·have q:v<1000000000:=Qnl (by omega) hv;have z:=Qmi n d a (i+1) (10*v+(x.toNat - 48)) k o l (by rw[Nat.pow_succ];omega) (by simp at hk;omega);rw[E3 (s':=(((10*v+(x.toNat - 48):Nat):Int),i+1)),z]
    ·have e:(QiV (x::a)/\(d.length<=9\/x::a=[]))↔(QiV a/\(d.length<=9\/a=[])):=by rw[Qjf];exact⟨fun h=>⟨h.1.2,.inl f⟩,fun h=>⟨⟨g,h.1⟩,.inl f⟩⟩
     by_cases m:QiV a/\(d.length<=9\/a=[])
     ·rw[jTj m,jTj (e.2 m)];rfl
     ·rw[jFj m,jFj (fun h=>m (e.1 h))]
    ·exact Qm1 n l b g f q
   ·rw[JB (e:=.inl ()),jFj (fun h=>h.2.elim (fun h=>f h) (fun h=>by cases h))];unfold QiK;dsimp only;rw[jTj (by rw[QiF];omega),b];dsimp only;rw[jFj (by omega),jFj (by omega),jTj (by rw[QiF];omega)]
  ·rw[JB (e:=.inl ()),jFj (fun h=>g (Qjf.1 h.1).1)];unfold QiK;dsimp only;rw[jTj (by rw[QiF];omega)];by_cases r:x.toNat<128
   ·have b:Utf8.decode (mkS d) i=(x.toNat,1):=by have:=QaR (s:=mkS d) (p:=i) (by rw[j];exact r);rw[j] at this;exact this
    rw[b];dsimp only;by_cases t:x.toNat<48
    ·rw[jTj (by omega)]
    ·rw[jFj (by omega),jTj (by omega)]
   ·have:=Qaa (s:=mkS d) (p:=i) (by rw[j];exact r);rw[jFj (by omega),jTj (by omega)]
def intV (w:Wrd):Int:=if QiV w/\(w.length<=9\/w=[]) then(valN 0 w:Int) else 0
theorem Qmj {w:Wrd}{v:Int}(h:num w=some v):intV w=v:=by
 unfold num at h;split at h;case isFalse=>cases h
 rename_i a;unfold intV;rw[jTj ⟨a.2.2.1,.inl a.2.1⟩];exact Option.some.inj h
theorem Qli {n:Nat}(k:3000<=n){w:Wrd}(l:w.length<=2000):Qjb n (mkS w)=some (intV w,(num w).isSome):=by
 unfold Qjb;have d:Q2 (QiK n (mkS w)) n (0,0)=_:=Qmi n w w 0 0 n rfl (Nat.zero_le _) (by decide) (by omega);rw[d];unfold intV num;have j:(⟨#[]⟩:jSj)=mkS []:=rfl;by_cases hc:QiV w/\(w.length<=9\/w=[])
 ·rw[jTj hc,jTj hc,jBj];dsimp only;rw[j,Qkr];cases w with
  | nil =>
   have a:¬QjX []:=fun h=>h.1 rfl;rw[jFj (by decide),jFj a];rfl
  | cons x r =>
   have c:(x::r).length<=9:=hc.2.resolve_right (by simp);have i:WQ (mkS (x::r)) 0=some (x.toNat:Int):=Qi8 (x::r) 0;rw[jTj (by simp),i];by_cases g:(x::r).length=1
   ·rw[jTj (by rw[QiF,g];rfl),jTj ⟨by simp,c,hc.1,.inr g⟩];rfl
   ·rw[jFj (by rw[QiF];omega),jBj];by_cases b:x=48
    ·have a:¬QjX (x::r):=fun h=>by
      obtain h|h:=h.2.2.2
      ·rw[b] at h;exact h rfl
      ·exact g h
     rw[jFj a,b];rfl
    ·have f : ¬((x.toNat:Int)=48):=fun e=>b (UInt8.toNat_inj.1 (by show x.toNat=48;omega));rw[jTj ⟨by simp,c,hc.1,.inl (by simpa using b)⟩];simp[f]
 ·have a:¬QjX w:=fun h=>hc ⟨h.2.2.1,.inl h.2.1⟩;rw[jFj hc,jFj hc,jBj,jFj a];rfl
theorem QlG (n:Nat)(d:Wrd)(s:d.length<=9):∀(a:Wrd) (i v k:Nat),d.drop i=a->i<=d.length->v<10 ^ i->a.length<k ->
  Q2 (QiM n (mkS d)) k ((v:Int),(i:Int))=some (if QiV a then .inr (valN v a:Int) else .inl ())
 | _,_,_,0,_,_,_,hk=>absurd hk (by omega)
 | [],i,v,k+1,hd,hi,_,_=>by
  have r:i=d.length:=by have:=List.drop_eq_nil_iff.1 hd;omega
  rw[JB (e:=.inr (v:Int)),jTj (show QiV [] from fun c hc=>(by cases hc))]
  ·rfl
  unfold QiM;dsimp only;rw[jFj (by rw[QiF];omega)]
 | x::a,i,v,k+1,hd,hi,hv,hk=>by
  obtain⟨j,o,g⟩:=QkB hd;have t:v<1000000000:=Qnl (by omega) hv;by_cases b:48<=x.toNat/\x.toNat<=57
  ·have u:=QlG n d s a (i+1) (10*v+(x.toNat - 48)) k g j (by rw[Nat.pow_succ];omega) (by simp at hk;omega);rw[E3 (s':=(((10*v+(x.toNat - 48):Nat):Int),((i+1:Nat):Int))),u]
   ·by_cases f:QiV a
    ·rw[jTj f,jTj (Qjf.2 ⟨b,f⟩)];rfl
    ·rw[jFj f,jFj (fun h=>f (Qjf.1 h).2)]
   ·have l:IntKind.wrap .u8 ((x.toNat:Int) - 48)=(x.toNat:Int) - 48:=Qnu (by omega) (by omega);have m:IntKind.wrap .i64 ((x.toNat:Int) - 48)=(x.toNat:Int) - 48:=Qms (i64 (by omega) (by omega));have p:(10*(v:Int)+((x.toNat:Int) - 48))=((10*v+(x.toNat - 48):Nat):Int):=by omega
    unfold QiM;dsimp only;rw[jTj (by rw[QiF];omega),Qi8,o,Option.map_some,jBj,jFj (by omega),jFj (by omega),l,m,jTj (i64 (by omega) (by omega)),jTj (i64 (by omega) (by omega)),jTj (i64 (by omega) (by omega)),p];rfl
  ·rw[JB (e:=.inl ()),jFj (fun h=>b (Qjf.1 h).1)];unfold QiM;dsimp only;rw[jTj (by rw[QiF];omega),Qi8,o,Option.map_some,jBj];by_cases q:x.toNat<48
   ·rw[jTj (by omega)]
   ·rw[jFj (by omega),jTj (by omega)]
theorem Qkm {n:Nat}(p:3000<=n)(w:Wrd):QiH n (mkS w)=some ((num w).getD 0,(num w).isSome):=by
 unfold QiH;have k:(mkS w).size=w.length:=QiF w;by_cases i:w.length=0
 ·have:w=[]:=List.length_eq_zero_iff.1 i;subst this;have a:¬QjX []:=fun h=>h.1 rfl;rw[jTj (by rw[k];rfl)];unfold num;rw[jFj a];rfl
 rw[jFj (by omega)];by_cases o:w.length>9
 ·have a:¬QjX w:=fun h=>by have:=h.2.1;omega
  rw[jTj (by omega)];unfold num;rw[jFj a];rfl
 rw[jFj (by omega)];have c:Q2 (QiM n (mkS w)) n (0,0)=_:=QlG n w (by omega) w 0 0 n rfl (Nat.zero_le _) (by decide) (by omega);rw[c];have d:(w.head?≠some 48\/w.length=1)->((some (if QiV w then(.inr (valN 0 w:Int):Unit⊕Int) else .inl ())).bind fun t=>match t with
   | (.inl t)=>some ((0:Int),false)
   | (.inr t)=>some (t,true))=some ((num w).getD 0,(num w).isSome):=fun l=>by
  unfold num;by_cases g:QiV w
  ·rw[jTj g,jTj ⟨fun e=>i (by rw[e];rfl),by omega,g,l⟩];rfl
  ·rw[jFj g,jFj (fun h=>g h.2.2.1)];rfl
 by_cases m:w.length>1
 ·rw[jTj (by omega)];cases w with
  | nil=>exact absurd rfl i
  | cons x r =>
   have j:WQ (mkS (x::r)) 0=some (x.toNat:Int):=Qi8 (x::r) 0;rw[j,jBj];by_cases b:x=48
   ·have a:¬QjX (x::r):=fun h=>by
     obtain h|h:=h.2.2.2
     ·rw[b] at h;exact h rfl
     ·omega
    rw[jTj (by rw[b];rfl)];unfold num;rw[jFj a];rfl
   ·have f : ¬((x.toNat:Int)=48):=fun e=>b (UInt8.toNat_inj.1 (by show x.toNat=48;omega));rw[jFj f];exact d (.inl (by simpa using b))
 ·rw[jFj (by omega)];exact d (.inr (by omega))
def QiI (wsx:List Wrd)(b:Bool):Wrd×List Wrd×Bool:=match wsx with
 | []=>([],[],true)
 | w::l=>if w=[] then([],[],true) else(w,l,b)
def numX (wsx:List Wrd)(b:Bool):Int×List Wrd×Bool :=
 (intV (QiI wsx b).1,(QiI wsx b).2.1,if(QiI wsx b).2.2=true then true else !(num (QiI wsx b).1).isSome)
theorem Qk8 {w:Wrd}{l:List Wrd}(b:Bool)(h:¬w=[]):QiI (w::l) b=(w,l,b):=by unfold QiI;dsimp only;rw[jFj h]
theorem QmM (l:List Wrd)(b:Bool):QiI ([]::l) b=([],[],true):=by unfold QiI;dsimp only;rw[jTj rfl]
def OkW (wsx:List Wrd):Prop:=wsx.length<=3000/\∀w,w∈wsx->w.length<=2000
theorem QjO {wsx:List Wrd}(b:Bool)(h:OkW wsx):OkW (QiI wsx b).2.1/\(QiI wsx b).1.length<=2000:=by
 unfold QiI;cases wsx with
 | nil=>exact⟨⟨by simp,fun w a=>by cases a⟩,by simp⟩
 | cons w l =>
  dsimp only;by_cases a:w=[]
  ·rw[jTj a];exact⟨⟨by simp,fun w a=>by cases a⟩,by simp⟩
  ·rw[jFj a];exact⟨⟨by have:=h.1;simp at this ⊢;omega,fun x c=>h.2 x (jmj _ c)⟩,h.2 w jMj⟩
theorem Ql5 (w:Wrd):((mkS w).toList==(⟨#[]⟩:jSj).toList)=decide (w=[]):=Qkr w []
theorem Qml {L:List Wrd}{i:Nat}{w:Wrd}(h:L[i]?=some w):el Ww (L.map eS) (i:Int)=some (mkS w) :=
 Xr (un:=Ww) (enc:=fun x:jSj=>(.v (.string x):D)) (fun _=>rfl) (l:=L.map mkS) (i:=i) (x:=mkS w) (by rw[List.getElem?_map,h];rfl) ▸ (by rw[List.map_map];rfl)
theorem Qk6 (n:Nat){wsx:List Wrd}(b:Bool)(h:OkW wsx):QiO n (wsx.map eS) b=some (mkS (QiI wsx b).1,(QiI wsx b).2.1.map eS,(QiI wsx b).2.2):=by
 unfold QiO QiI;cases wsx with
 | nil=>rfl
 | cons w l =>
  have d:=h.1;simp only[List.length_cons] at d;have c:el Ww ((w::l).map eS) 0=some (mkS w):=Qml (i:=0) rfl;rw[jFj (by simp;omega),c,jBj,Ql5];by_cases a:w=[]
  ·rw[jTj (by simpa using a)];dsimp only;rw[jTj a];rfl
  ·rw[jFj (by simpa using a),jTj (by simp;omega)];dsimp only;rw[jFj a];rfl
theorem QlL {n:Nat}(c:3000<=n){wsx:List Wrd}(b:Bool)(h:OkW wsx):QiG n (wsx.map eS) b=some ((numX wsx b).1,(numX wsx b).2.1.map eS,(numX wsx b).2.2):=by
 unfold QiG numX;rw[Qk6 n b h,jBj];dsimp only;rw[Qli c (QjO b h).2,jBj];by_cases a:(QiI wsx b).2.2=true
 ·rw[jTj a,jTj a]
 ·rw[jFj a,jFj a]
theorem QmG {wsx:List Wrd}(b:Bool)(h:OkW wsx):OkW (numX wsx b).2.1:=(QjO b h).1
def runT {α:Type}(f:List Wrd->Bool->α×List Wrd×Bool):Nat->List Wrd->Bool->List α×List Wrd×Bool
 | 0,wsx,b=>([],wsx,b)
 | k+1,wsx,b=>((f wsx b).1::(runT f k (f wsx b).2.1 (f wsx b).2.2).1,(runT f k (f wsx b).2.1 (f wsx b).2.2).2)
theorem Ql6 (wsx:List Wrd):(QiI wsx true).2.2=true:=by
 unfold QiI;cases wsx with
 | nil=>rfl
 | cons w l=>dsimp only;split<;>rfl
theorem QmH (wsx:List Wrd):(numX wsx true).2.2=true:=by unfold numX;rw[Ql6];rfl
theorem Qkx {α:Type}{f:List Wrd->Bool->α×List Wrd×Bool}(a:∀wsx,(f wsx true).2.2=true):∀(k:Nat) (wsx:List Wrd),(runT f k wsx true).2.2=true
 | 0,wsx=>rfl
 | k+1,wsx=>by show(runT f k (f wsx true).2.1 (f wsx true).2.2).2.2=true;rw[a];exact Qkx a k _
theorem QmB {α:Type}{f:List Wrd->Bool->α×List Wrd×Bool}(a:∀{wsx} b,OkW wsx->OkW (f wsx b).2.1):∀(k:Nat) (wsx:List Wrd) (b:Bool),OkW wsx->OkW (runT f k wsx b).2.1
 | 0,wsx,b,h=>h
 | k+1,wsx,b,h=>QmB a k _ _ (a b h)
theorem QkI {α:Type}{f:List Wrd->Bool->α×List Wrd×Bool}(g:Wrd->Option α)(a:∀wsx,(f wsx true).2.2=true)(b:(f [] false).2.2=true)
  (c:∀w l x,g w=some x->f (w::l) false=(x,l,false)) (d:∀w l,g w=none->(f (w::l) false).2.2=true):∀(k:Nat) (wsx:List Wrd),
  (∃xs,k<=wsx.length/\(wsx.take k).mapM g=some xs/\runT f k wsx false=(xs,wsx.drop k,false))\/(¬(k<=wsx.length/\((wsx.take k).mapM g).isSome=true)/\(runT f k wsx false).2.2=true)
 | 0,wsx=>.inl ⟨[],Nat.zero_le _,rfl,rfl⟩
 | k+1,[]=>by refine .inr ⟨fun h=>absurd h.1 (by simp),?_⟩;show(runT f k (f [] false).2.1 (f [] false).2.2).2.2=true;rw[b];exact Qkx a k _
 | k+1,w::l=>by
  cases hg:g w with
  | none =>
   refine .inr ⟨fun h=>?_,?_⟩
   ·have:=h.2;rw[List.take_succ_cons,List.mapM_cons,hg] at this;cases this
   ·show(runT f k (f (w::l) false).2.1 (f (w::l) false).2.2).2.2=true;rw[d w l hg];exact Qkx a k _
  | some x =>
   have e:runT f (k+1) (w::l) false=(x::(runT f k l false).1,(runT f k l false).2):=by show(_,_)=_;rw[c w l x hg]
   rw[e];obtain⟨xs,a1,a2,a3⟩|⟨a1,a2⟩:=QkI g a b c d k l
   ·refine .inl ⟨x::xs,by simp;omega,?_,?_⟩
    ·rw[List.take_succ_cons,List.mapM_cons,hg,a2];rfl
    ·rw[a3];rfl
   ·refine .inr ⟨fun h=>a1 ⟨by have:=h.1;simp at this;omega,?_⟩,a2⟩;have:=h.2;rw[List.take_succ_cons,List.mapM_cons,hg] at this;cases hm:(l.take k).mapM g with
    | none=>rw[hm] at this;cases this
    | some _=>rfl
def nmG (w:Wrd):Option Wrd:=if w=[] then none else some w
theorem Qmv (k:Nat)(wsx:List Wrd):(∃xs,k<=wsx.length/\(wsx.take k).mapM nmG=some xs/\runT QiI k wsx false=(xs,wsx.drop k,false))\/(¬(k<=wsx.length/\((wsx.take k).mapM nmG).isSome=true)/\(runT QiI k wsx false).2.2=true) :=
 QkI nmG Ql6 rfl
  (fun w l x h=>by
   unfold nmG at h;split at h
   ·cases h
   ·rename_i a;cases h;unfold QiI;dsimp only;rw[jFj a])
  (fun w l h=>by
   unfold nmG at h;split at h
   ·rename_i a;unfold QiI;dsimp only;rw[jTj a]
   ·cases h) k wsx
theorem QmN (k:Nat)(wsx:List Wrd):(∃xs,k<=wsx.length/\(wsx.take k).mapM num=some xs/\runT numX k wsx false=(xs,wsx.drop k,false))\/(¬(k<=wsx.length/\((wsx.take k).mapM num).isSome=true)/\(runT numX k wsx false).2.2=true) :=
 QkI num QmH rfl
  (fun w l x h=>by
   have a:¬w=[]:=fun e=>by rw[e] at h;unfold num at h;rw[jFj (fun h:QjX []=>h.1 rfl)] at h;cases h
   unfold numX;rw[Qk8 false a,h,Qmj h];rfl)
  (fun w l h=>by
   unfold numX;by_cases a:w=[]
   ·rw[a,QmM];rfl
   ·rw[Qk8 false a,h];rfl) k wsx
abbrev Tri:=Ki×List Wrd×List Int
def QjK:List Wrd->Option Tri
 | []=>none
 | w::rest=>match yJ w with
  | none=>none
  | some k=>if rest.length=kn k+kv k then(((rest.take (kn k)).mapM nmG).bind fun ns=>((rest.drop (kn k)).mapM num).bind fun vs=>some (k,ns,vs)) else none
theorem Qnv (k:Ki):kn k<=2/\kv k<=5:=by cases k<;>decide
theorem Qm0 (k:Ki):∀(p:Nat),p<(kr k).length->Utf8.decode (mkS (kr k)) p=((Yy (mkS (kr k)) p),1):=by
 intro p hp;refine QaR ?_;have h:∀c,c∈kr k->c.toNat<128:=by cases k<;>decide
 obtain⟨x,a⟩:∃x,(kr k)[p]?=some x:=⟨_,jej hp⟩
 rw[QlR a];exact h x (jgj a)
theorem Qky {b k:Nat}(a:b<=200)(h:k<=5000):Wa b k:=V7 a h
theorem Qmk (n:Nat)(a0:Int){wsx:List Wrd}(b:Bool)(w:jSj)(k:Ki)(v:Int)(f g:FnD)(d:OkW wsx):∀(m p:Nat) (acc:List Wrd) (a:List Wrd) (c:Bool) (K:Nat),p+m=kn k->p=acc.length->OkW a->m<K->p≠0 ->
  Q2 (QiQ n a0 (w,wsx.map eS,b) (mkS (kr k),v,f,g)) K (.inr (a.map eS,c,p,acc.map eS))=some (.inr ((runT QiI m a c).2.1.map eS,(runT QiI m a c).2.2,(acc++(runT QiI m a c).1).map eS))
 | m,p,acc,a,c,0,_,_,_,hK,_=>absurd hK (by omega)
 | 0,p,acc,a,c,K+1,hp,ha,hu,hK,h0=>by
  rw[JB (e:=.inr (a.map eS,c,acc.map eS))]
  ·simp only[runT,List.append_nil]
  unfold QiQ;dsimp only;rw[jFj (by rw[QiF];unfold kn at hp;omega)]
 | m+1,p,acc,a,c,K+1,hp,ha,hu,hK,h0=>by
  have i:=Qnv k;have h:=Qmk n a0 b w k v f g d m (p+1) (acc++[(QiI a c).1]) (QiI a c).2.1 (QiI a c).2.2 K (by omega) (by simp;omega) (QjO c hu).1 (by omega) (by omega);rw[E3 (s':=.inr ((QiI a c).2.1.map eS,(QiI a c).2.2,p+1,(acc++[(QiI a c).1]).map eS)),h]
  ·simp only[runT,List.append_assoc,List.singleton_append]
  ·unfold QiQ;dsimp only;rw[jTj (by rw[QiF];unfold kn at hp;omega),Qk6 n c hu,jBj,jTj (Qky (by decide) (by rw[jlj];omega)),Qm0 k p (by unfold kn at hp;omega),List.map_append];rfl
theorem QmR (n:Nat)(i:3000<=n)(a0:Int){wsx:List Wrd}(b:Bool)(w:jSj)(k:Ki)(v:Int)(f g:FnD)(d:OkW wsx) :
  Q2 (QiQ n a0 (w,wsx.map eS,b) (mkS (kr k),v,f,g)) n (.inl ())=some (if kn k=0 then .inl () else .inr ((runT QiI (kn k) wsx b).2.1.map eS,(runT QiI (kn k) wsx b).2.2,(runT QiI (kn k) wsx b).1.map eS)):=by
 have h:=Qnv k;obtain⟨K,rfl⟩:∃K,n=K+1:=⟨n - 1,by omega⟩
 by_cases a:kn k=0
 ·rw[jTj a];refine JB ?_;unfold QiQ;dsimp only;rw[jFj (by rw[QiF];unfold kn at a;omega)]
 ·rw[jFj a];obtain⟨m,c⟩:∃m,kn k=m+1:=⟨kn k - 1,by omega⟩
  have e:=Qmk (K+1) a0 b w k v f g d m 1 [(QiI wsx b).1] (QiI wsx b).2.1 (QiI wsx b).2.2 K (by omega) rfl (QjO b d).1 (by omega) (by omega);rw[E3 (s':=.inr ((QiI wsx b).2.1.map eS,(QiI wsx b).2.2,1,[(QiI wsx b).1].map eS)),e,c]
  ·rfl
  ·unfold QiQ;dsimp only;rw[jTj (by rw[QiF];unfold kn at c;omega),Qk6 _ b d,jBj,Qm0 k 0 (by unfold kn at c;omega)];rfl
theorem QmJ {n:Nat}(k:3000<=n){step:(Unit)⊕(Int×jVj×Bool×jVj)->Option ((Unit⊕Int×jVj×Bool×jVj)⊕Unit⊕jVj×Bool×jVj)}{V:Nat}{wsx:List Wrd}{b:Bool}(l:OkW wsx)(u:V<=5)
  (o:step (.inl ())=if 0<(V:Int) then(QiG n (wsx.map eS) b).bind fun t=>some (.inl (.inr (1,t.2.1,t.2.2,[I t.1]))) else some (.inr (.inl ())))
  (q:∀(i:Int) (a:jVj) (c:Bool) (acc:jVj),step (.inr (i,a,c,acc))=if i<(V:Int) then(QiG n a c).bind fun t=>if Wa 8 (acc.length+1) then if Qh (i+1) then some (.inl (.inr (i+1,t.2.1,t.2.2,acc++([I t.1]:jVj)))) else none else none else some (.inr (.inr (a,c,acc)))) :
  Q2 step n (.inl ())=some (if V=0 then .inl () else .inr ((runT numX V wsx b).2.1.map eS,(runT numX V wsx b).2.2,(runT numX V wsx b).1.map I)):=by
 have main:∀(m p:Nat) (acc:List Int) (a:List Wrd) (c:Bool) (K:Nat),p+m=V->p=acc.length->OkW a->m<K ->
   Q2 step K (.inr ((p:Int),a.map eS,c,acc.map I))=some (.inr ((runT numX m a c).2.1.map eS,(runT numX m a c).2.2,(acc++(runT numX m a c).1).map I)):=by
  intro m;induction m with
  | zero =>
   intro p acc a c K hp r f d;obtain⟨K,rfl⟩:∃j,K=j+1:=⟨K - 1,by omega⟩
   rw[JB (e:=.inr (a.map eS,c,acc.map I))]
   ·simp only[runT,List.append_nil]
   rw[q,jFj (by omega)]
  | succ m ih =>
   intro p acc a c K hp r f d;obtain⟨K,rfl⟩:∃j,K=j+1:=⟨K - 1,by omega⟩
   have h:=ih (p+1) (acc++[(numX a c).1]) (numX a c).2.1 (numX a c).2.2 K (by omega) (by simp;omega) (QmG c f) (by omega);rw[E3 (s':=.inr (((p+1:Nat):Int),(numX a c).2.1.map eS,(numX a c).2.2,(acc++[(numX a c).1]).map I)),h]
   ·simp only[runT,List.append_assoc,List.singleton_append]
   ·rw[q,jTj (by omega),QlL k c f,jBj,jTj (Qky (by decide) (by rw[jlj];omega)),jTj (i64 (by omega) (by omega)),List.map_append];rfl
 obtain⟨K,d⟩:∃j,n=j+1:=⟨n - 1,by omega⟩
 by_cases g:V=0
 ·rw[jTj g,d];refine JB ?_;rw[o,jFj (by omega)]
 ·rw[jFj g];obtain⟨m,s⟩:∃m,V=m+1:=⟨V - 1,by omega⟩
  have h:=main m 1 [(numX wsx b).1] (numX wsx b).2.1 (numX wsx b).2.2 K (by omega) rfl (QmG b l) (by omega);rw[show Q2 step n (.inl ())=Q2 step (K+1) (.inl ()) by rw[<-d],E3 (s':=.inr (1,(numX wsx b).2.1.map eS,(numX wsx b).2.2,[(numX wsx b).1].map I))]
  ·rw[s];exact h
  ·rw[o,jTj (by omega),QlL k b l,jBj];rfl
def evX (wsx:List Wrd):Option (jSj×List Wrd×List Int×Bool):=match yJ (QiI wsx false).1 with
 | none=>none
 | some k =>
  let r:=runT QiI (kn k) (QiI wsx false).2.1 (QiI wsx false).2.2
  let q:=runT numX (kv k) r.2.1 r.2.2
  some (mkS (QiI wsx false).1,r.1,q.1,if q.2.2=true then false else decide (q.2.1=[]))
theorem len0 (l:List Wrd):(((l.map eS).length:Int)==0)=decide (l=[]):=by
 cases l with
 | nil=>rfl
 | cons a l=>simp;omega
theorem QlZ (b d:Bool)(a0:Int)(w:jSj)(ns vs:jVj):(if b=true then some (a0,w,ns,vs,(⟨#[]⟩:jSj),false) else some (a0,w,ns,vs,⟨#[]⟩,d))=some (a0,w,ns,vs,⟨#[]⟩,if b=true then false else d):=by cases b<;>rfl
theorem Qm4 {n:Nat}(j:3000<=n)(a0:Int){wsx:List Wrd}(e:OkW wsx):Qjz n a0 (wsx.map eS)=some (match evX wsx with
  | none=>(0,⟨#[]⟩,[],[],⟨#[]⟩,false)
  | some (w,ns,vs,ok)=>(a0,w,ns.map eS,vs.map I,⟨#[]⟩,ok)):=by
 unfold Qjz evX;rw[Qk6 n false e,jBj];dsimp only;cases hk:yJ (QiI wsx false).1 with
 | none =>
  have l:¬(VY (.string (mkS (QiI wsx false).1)) Wr).isSome=true:=fun h=>by obtain⟨k,d⟩:=Qby h;rw[Qjx] at d;exact kE hk k d
  rw[jFj l]
 | some k =>
  obtain⟨o,f,g,p⟩:=QcY (a:=mkS (QiI wsx false).1) (k:=k) (by rw[Qjx];exact qM hk);have m:=Qnv k;rw[jTj o,p,jBj,QmR n j a0 (QiI wsx false).2.2 (mkS (QiI wsx false).1) k (kv k:Int) f g (QjO false e).1,jBj];have q:OkW (runT QiI (kn k) (QiI wsx false).2.1 (QiI wsx false).2.2).2.1:=QmB (fun b h=>(QjO b h).1) _ _ _ (QjO false e).1;by_cases i:kn k=0
  ·rw[jTj i];dsimp only;rw[QmJ (V:=kv k) j (QjO false e).1 m.2 rfl (fun _ _ _ _=>rfl),jBj,i];by_cases c:kv k=0
   ·rw[jTj c,c];dsimp only[runT];rw[len0];exact QlZ _ _ _ _ _ _
   ·rw[jFj c];dsimp only[runT];rw[len0];exact QlZ _ _ _ _ _ _
  ·rw[jFj i];dsimp only;rw[QmJ (V:=kv k) j q m.2 rfl (fun _ _ _ _=>rfl),jBj];by_cases c:kv k=0
   ·rw[jTj c,c];dsimp only[runT];rw[len0];exact QlZ _ _ _ _ _ _
   ·rw[jFj c];dsimp only;rw[len0];exact QlZ _ _ _ _ _ _
theorem Qlg {α b:Type}{g:α->Option b}:∀{l:List α} {xs:List b},l.mapM g=some xs->xs.length=l.length
 | [],xs,h=>by cases h;rfl
 | a::l,xs,h=>by
  rw[List.mapM_cons] at h;cases ha:g a with
  | none=>rw[ha] at h;cases h
  | some x =>
   rw[ha] at h;cases hl:l.mapM g with
   | none=>rw[hl] at h;cases h
   | some ys =>
    rw[hl] at h;cases h;simp[Qlg hl]
theorem Qm5 (wsx:List Wrd):(∀k ns vs,QjK wsx=some (k,ns,vs)->evX wsx=some (mkS (kw k),ns,vs,true))/\(QjK wsx=none->∀w ns vs ok,evX wsx=some (w,ns,vs,ok)->ok=false):=by
 cases wsx with
 | nil =>
  refine⟨fun k ns vs h=>(by cases h),fun _ w ns vs ok h=>?_⟩;unfold evX at h;rw[show yJ (QiI [] false).1=none by decide] at h;cases h
 | cons w rest =>
  by_cases j:w=[]
  ·subst j;have e:yJ []=none:=by decide
   have n:evX ([]::rest)=none:=by unfold evX;rw[show(QiI ([]::rest) false).1=[] by unfold QiI;dsimp only;rw[jTj rfl],e]
   refine⟨fun k ns vs h=>?_,fun _ w ns vs ok h=>?_⟩
   ·unfold QjK at h;dsimp only at h;rw[e] at h;cases h
   ·rw[n] at h;cases h
  ·have m:QiI (w::rest) false=(w,rest,false):=by unfold QiI;dsimp only;rw[jFj j]
   unfold evX QjK;rw[m];dsimp only;cases hk:yJ w with
   | none=>exact⟨fun k ns vs h=>(by cases h),fun _ w ns vs ok h=>(by cases h)⟩
   | some k =>
    dsimp only;have d:=qM hk;obtain⟨xs,a1,a2,a3⟩|⟨a1,a2⟩:=Qmv (kn k) rest
    ·rw[a3];dsimp only;obtain⟨ys,b1,c,l⟩|⟨b1,c⟩:=QmN (kv k) (rest.drop (kn k))
     ·rw[l];dsimp only;rw[List.length_drop] at b1;by_cases a:rest.length=kn k+kv k
      ·have g:(rest.drop (kn k)).take (kv k)=rest.drop (kn k):=List.take_of_length_le (by simp;omega);have b:(rest.drop (kn k)).drop (kv k)=[]:=List.drop_eq_nil_of_le (by simp;omega);rw[g] at c;rw[jTj a,a2,jBj,c,jBj,b];refine⟨fun i ns vs h=>?_,fun h=>(by cases h)⟩;cases h;rw[d];rfl
      ·rw[jFj a];refine⟨fun i ns vs h=>(by cases h),fun _ w' ns vs ok h=>?_⟩;have b:¬(rest.drop (kn k)).drop (kv k)=[]:=fun b=>a (by have:=List.drop_eq_nil_iff.1 b;simp at this;omega);cases h;simp[b];omega
     ·have f:¬rest.length=kn k+kv k\/(rest.drop (kn k)).mapM num=none:=by
       by_cases a:rest.length=kn k+kv k
       ·right;have g:(rest.drop (kn k)).take (kv k)=rest.drop (kn k):=List.take_of_length_le (by simp;omega);rw[g] at b1;cases hm:(rest.drop (kn k)).mapM num with
        | none=>rfl
        | some _=>exact absurd ⟨by simp;omega,by rw[hm];rfl⟩ b1
       ·exact .inl a
      have hp:(if rest.length=kn k+kv k then(((rest.take (kn k)).mapM nmG).bind fun ns=>((rest.drop (kn k)).mapM num).bind fun vs=>some (k,ns,vs)) else none)=none:=by
       obtain h|h:=f
       ·rw[jFj h]
       ·rw[h,a2];split<;>rfl
      rw[hp];refine⟨fun i ns vs h=>(by cases h),fun _ w' ns vs ok h=>?_⟩;rw[jTj c] at h;cases h;rfl
    ·have hp:(if rest.length=kn k+kv k then(((rest.take (kn k)).mapM nmG).bind fun ns=>((rest.drop (kn k)).mapM num).bind fun vs=>some (k,ns,vs)) else none)=none:=by
      by_cases a:rest.length=kn k+kv k
      ·rw[jTj a];cases hm:(rest.take (kn k)).mapM nmG with
       | none=>rfl
       | some _=>exact absurd ⟨by omega,by rw[hm];rfl⟩ a1
      ·rw[jFj a]
     rw[hp,a2];refine⟨fun i ns vs h=>(by cases h),fun _ w' ns vs ok h=>?_⟩;rw[Qkx QmH,jTj rfl] at h;cases h;rfl
abbrev SP:=(Unit)⊕Int×jVj⊕Int×jVj⊕Int×jVj×jVj⊕(Int×jVj×jVj)
abbrev ExP:=(Unit)⊕Unit⊕jVj⊕jVj⊕jVj×jVj⊕(jVj×jVj)
def stP (i:Int):List Wrd->List Int->SP
 | [],[]=>.inl ()
 | a::l,[]=>.inr (.inl (i,(a::l).map eS))
 | [],b::m=>.inr (.inr (.inl (i,(b::m).map I)))
 | a::l,b::m=>.inr (.inr (.inr (.inl (i,(a::l).map eS,(b::m).map I))))
def exP:Option (List Wrd×List Int)->ExP
 | none=>.inl ()
 | some ([],[])=>.inr (.inl ())
 | some (a::l,[])=>.inr (.inr (.inl ((a::l).map eS)))
 | some ([],b::m)=>.inr (.inr (.inr (.inl ((b::m).map I))))
 | some (a::l,b::m)=>.inr (.inr (.inr (.inr (.inl ((a::l).map eS,(b::m).map I)))))
def goP (k:Ki):Nat->List Wrd->List Int->List Wrd->Option (List Wrd×List Int)
 | _,ns,vs,[]=>some (ns,vs)
 | i,ns,vs,w::rest=>if w=[] then none else if i<=kn k then goP k (i+1) (ns++[w]) vs rest else match num w with
  | none=>none
  | some v=>goP k (i+1) ns (vs++[v]) rest
theorem QkA {α:Type}{d a:List α}{i:Nat}{x:α}(c:d.drop i=x::a):i<d.length/\d[i]?=some x/\d.drop (i+1)=a:=by
 have b:i<d.length:=by
  obtain h|h:=Nat.lt_or_ge i d.length
  ·exact h
  ·rw[List.drop_eq_nil_of_le h] at c;cases c
 have:=List.drop_eq_getElem_cons b;rw[c] at this;refine⟨b,?_,(List.cons.inj this).2.symm⟩;rw[jej b];exact congrArg some (List.cons.inj this).1.symm
theorem bnd {α a:Type}{q:Option α}{f:α->Option a}{x:α}{r:Option a}(h:q=some x)(e:f x=r):q.bind f=r:=by rw[h];exact e
theorem Qnn {n:Nat}(a:3000<=n)(w:Wrd):QiH n (mkS w)=some ((num w).getD 0,(num w).isSome):=Qkm a w
theorem Qkh {n:Nat}(z:3000<=n)(k:Ki)(W:List Wrd)(E:jSj)(y:W.length=1+kn k+kv k):∀(c:List Wrd) (i:Nat) (ns:List Wrd) (vs:List Int) (K:Nat),W.drop i=c->i<=W.length->i=1+ns.length+vs.length->(i<=kn k->vs=[])->c.length<K ->
  Q2 (QiL n (W.map eS) E (mkS (kr k),(kv k:Int),true)) K (stP i ns vs)=some (exP (goP k i ns vs c))
 | _,_,_,_,0,_,_,_,_,hK=>absurd hK (by omega)
 | [],i,ns,vs,K+1,hd,hl,hi,hv,hK=>by
  have G:=Qnv k;have F:i=W.length:=by have:=List.drop_eq_nil_iff.1 hd;omega
  have q:¬((i:Int)<(1+((mkS (kr k)).size:Int))+(kv k:Int)):=by rw[QiF];unfold kn at y;omega
  refine JB ?_;unfold QiL;match ns,vs,hi,hv with
  | [],[],hi,hv =>
   have p:i=1:=by simpa using hi
   subst p;exact jFj q
  | a::l,[],hi,hv=>exact jFj q
  | [],b::m,hi,hv=>exact jFj q
  | a::l,b::m,hi,hv=>exact jFj q
 | w::c,i,ns,vs,K+1,hd,hl,hi,hv,hK=>by
  have G:=Qnv k;obtain⟨u,H,t⟩:=QkA hd;have g:(i:Int)<(1+((mkS (kr k)).size:Int))+(kv k:Int):=by rw[QiF];unfold kn at y;omega
  have d:el Ww (W.map eS) (i:Int)=some (mkS w):=Qml H;have j:((i:Int)<=((mkS (kr k)).size:Int))↔i<=kn k:=by rw[QiF];unfold kn;omega
  have hc:(i:Int)+1=((i+1:Nat):Int):=rfl;have A:Qh ((i:Int)+1):=i64 (by omega) (by omega);simp only[List.length_cons] at hK;by_cases s:w=[]
  ·have r:goP k i ns vs (w::c)=none:=by unfold goP;rw[jTj s]
   rw[r];refine JB ?_;unfold QiL;have o:((mkS w).toList==(⟨#[]⟩:jSj).toList)=true:=by rw[Ql5];exact jDj s
   match ns,vs,hi,hv with
   | [],[],hi,hv =>
    have p:i=1:=by simpa using hi
    subst p;exact(jTj g).trans (bnd d (jTj o))
   | a::l,[],hi,hv=>exact(jTj g).trans (bnd d (jTj o))
   | [],b::m,hi,hv=>exact(jTj g).trans (bnd d (jTj o))
   | a::l,b::m,hi,hv=>exact(jTj g).trans (bnd d (jTj o))
  ·have o:¬((mkS w).toList==(⟨#[]⟩:jSj).toList)=true:=by rw[Ql5];simpa using s
   by_cases f:i<=kn k
   ·have C:=hv f;subst C;have r:goP k i ns [] (w::c)=goP k (i+1) (ns++[w]) [] c:=by conv=>lhs;unfold goP;rw[jFj s,jTj f]
    rw[r,<-Qkh z k W E y c (i+1) (ns++[w]) [] K t u (by simp;simp at hi;omega) (fun _=>rfl) (by omega)];refine E3 ?_;unfold QiL;match ns,hi with
    | [],hi =>
     have p:i=1:=by simpa using hi
     subst p;exact(jTj g).trans (bnd d ((jFj o).trans (jTj (j.2 f))))
    | a::l,hi =>
     have x:Wa 16 (((a::l).map eS).length+1):=Qky (by decide) (by simp at hi ⊢;omega);refine(jTj g).trans (bnd d ((jFj o).trans ((jTj (j.2 f)).trans ((jTj x).trans ((jTj A).trans ?_)))));show some (Sum.inl (Sum.inr (Sum.inl ((i:Int)+1,(a::l).map eS++[eS w]))))=some (Sum.inl (Sum.inr (Sum.inl (((i+1:Nat):Int),((a::l)++[w]).map eS))));rw[List.map_append];rfl
   ·cases hnum:num w with
    | none =>
     have r:goP k i ns vs (w::c)=none:=by unfold goP;rw[jFj s,jFj f,hnum]
     have e:QiH n (mkS w)=some (0,false):=by rw[Qnn z,hnum];rfl
     rw[r];refine JB ?_;unfold QiL;match ns,vs,hi,hv with
     | [],[],hi,hv =>
      have p:i=1:=by simpa using hi
      subst p;exact(jTj g).trans (bnd d ((jFj o).trans ((jFj (mt j.1 f)).trans (bnd e (jFj nofun)))))
     | a::l,[],hi,hv=>exact(jTj g).trans (bnd d ((jFj o).trans ((jFj (mt j.1 f)).trans (bnd e (jFj nofun)))))
     | [],b::m,hi,hv=>exact(jTj g).trans (bnd d ((jFj o).trans ((jFj (mt j.1 f)).trans (bnd e (jFj nofun)))))
     | a::l,b::m,hi,hv=>exact(jTj g).trans (bnd d ((jFj o).trans ((jFj (mt j.1 f)).trans (bnd e (jFj nofun)))))
    | some v =>
     have r:goP k i ns vs (w::c)=goP k (i+1) ns (vs++[v]) c:=by conv=>lhs;unfold goP;rw[jFj s,jFj f,hnum]
     have e:QiH n (mkS w)=some (v,true):=by rw[Qnn z,hnum];rfl
     rw[r,<-Qkh z k W E y c (i+1) ns (vs++[v]) K t u (by simp;omega) (fun h=>absurd h (by omega)) (by omega)];refine E3 ?_;unfold QiL;match ns,vs,hi,hv with
     | [],[],hi,hv =>
      have p:i=1:=by simpa using hi
      subst p;exact(jTj g).trans (bnd d ((jFj o).trans ((jFj (mt j.1 f)).trans (bnd e (jTj rfl)))))
     | a::l,[],hi,hv=>exact(jTj g).trans (bnd d ((jFj o).trans ((jFj (mt j.1 f)).trans (bnd e ((jTj rfl).trans (jTj A))))))
     | [],b::m,hi,hv =>
      have x:Wa 8 (((b::m).map I).length+1):=Qky (by decide) (by simp at hi ⊢;omega);refine(jTj g).trans (bnd d ((jFj o).trans ((jFj (mt j.1 f)).trans (bnd e ((jTj rfl).trans ((jTj x).trans ((jTj A).trans ?_)))))));show some (Sum.inl (Sum.inr (Sum.inr (Sum.inl ((i:Int)+1,(b::m).map I++[I v])))))=some (Sum.inl (Sum.inr (Sum.inr (Sum.inl (((i+1:Nat):Int),((b::m)++[v]).map I)))));rw[List.map_append];rfl
     | a::l,b::m,hi,hv =>
      have x:Wa 8 (((b::m).map I).length+1):=Qky (by decide) (by simp at hi ⊢;omega);refine(jTj g).trans (bnd d ((jFj o).trans ((jFj (mt j.1 f)).trans (bnd e ((jTj rfl).trans ((jTj x).trans ((jTj A).trans ?_)))))));show some (Sum.inl (Sum.inr (Sum.inr (Sum.inr (Sum.inl ((i:Int)+1,(a::l).map eS,(b::m).map I++[I v]))))))=some (Sum.inl (Sum.inr (Sum.inr (Sum.inr (Sum.inl (((i+1:Nat):Int),(a::l).map eS,((b::m)++[v]).map I))))));rw[List.map_append];rfl
theorem Qmx (k:Ki):∀(c:List Wrd) (i:Nat) (ns:List Wrd) (vs:List Int),goP k i ns vs c=(((c.take (kn k+1 - i)).mapM nmG).bind fun a=>((c.drop (kn k+1 - i)).mapM num).bind fun b=>some (ns++a,vs++b))
 | [],i,ns,vs=>by unfold goP;simp
 | w::c,i,ns,vs=>by
  unfold goP;by_cases h:i<=kn k
  ·obtain⟨m,e⟩:∃m,kn k+1 - i=m+1:=⟨kn k - i,by omega⟩
   rw[e,List.take_succ_cons,List.drop_succ_cons,List.mapM_cons];unfold nmG;by_cases d:w=[]
   ·rw[jTj d,jTj d];rfl
   ·rw[jFj d,jFj d,jTj h,Qmx k c (i+1),show kn k+1 - (i+1)=m by omega];show _=Option.bind (Option.bind (some w) fun a=>Option.bind (List.mapM nmG (List.take m c)) fun l=>some (a::l)) _;cases List.mapM nmG (List.take m c) with
    | none=>rfl
    | some a =>
     simp only[jBj];cases(c.drop m).mapM num with
     | none=>rfl
     | some b=>simp
  ·rw[show kn k+1 - i=0 by omega,List.take_zero,List.drop_zero,List.mapM_cons];by_cases d:w=[]
   ·subst d;have:num []=none:=by unfold num;rw[jFj (fun h:QjX []=>h.1 rfl)]
    rw[jTj rfl,this];rfl
   ·rw[jFj d,jFj h];cases hn:num w with
    | none=>rfl
    | some v =>
     dsimp only;rw[Qmx k c (i+1),show kn k+1 - (i+1)=0 by omega,List.take_zero,List.drop_zero];show Option.bind (some []) _=Option.bind (some []) _;simp only[jBj];show _=Option.bind (Option.bind (some v) fun a=>Option.bind (List.mapM num c) fun l=>some (a::l)) _;cases c.mapM num with
     | none=>rfl
     | some b=>simp
theorem QmQ {n:Nat}(m:3000<=n){p:Wrd}(hp:p.length<=2000):Qju n (mkS p)=some (match QjK (spl 32 p) with
  | none=>(0,⟨#[]⟩,[],[],⟨#[]⟩,false)
  | some (k,ns,vs)=>(0,mkS (kw k),ns.map eS,vs.map I,⟨#[]⟩,true)):=by
 have h:Qi4 n (mkS p) 32=some ((spl 32 p).map eS):=QkR m 32 hp;unfold Qju;rw[h,jBj];have o:p.count 32<=p.length:=List.count_le_length;have d:(spl 32 p).length<=2001:=by rw[QjJ];omega
 cases hW:spl 32 p with
 | nil=>exact absurd hW (QjB 32 p)
 | cons w0 rest =>
  have f:el Ww ((w0::rest).map eS) 0=some (mkS w0):=Qml (i:=0) rfl;rw[f,jBj];rw[hW] at d;simp only[List.length_cons] at d;unfold QjK;dsimp only;cases hk:yJ w0 with
  | none =>
   rw[Qdb n (a:=mkS w0) (by rw[Qjx];exact hk),jBj];rfl
  | some k =>
   have q:=Qnv k;have j:((mkS (kr k)).size:Int)=(kn k:Int):=by rw[QiF];rfl
   rw[JF n (a:=mkS w0) (k:=k) (by rw[Qjx];exact qM hk),jBj];dsimp only;rw[j,jTj (i64 (by omega) (by omega)),jTj (i64 (by omega) (by omega)),jTj rfl];by_cases l:rest.length=kn k+kv k
   ·rw[jTj (by simp;omega),jTj l];have e:=Qkh m k (w0::rest) (mkS w0) (by simp;omega) rest 1 [] [] n rfl (by simp) (by simp) (fun _=>rfl) (by omega);have c : Q2 (QiL n ((w0::rest).map eS) (mkS w0) (mkS (kr k),(kv k:Int),true)) n (.inl ())=_:=e;rw[c,Qmx,Nat.add_sub_cancel,jBj];have g:mkS w0=mkS (kw k):=by rw[qM hk]
    rw[g];cases(rest.take (kn k)).mapM nmG with
    | none=>rfl
    | some a =>
     simp only[jBj];cases(rest.drop (kn k)).mapM num with
     | none=>rfl
     | some b =>
      simp only[jBj,List.nil_append];cases a<;>cases b<;>rfl
   ·rw[jFj (by simp;omega),jFj l]
theorem Qlh {S E:Type}{step:S->Option (S⊕E)}:∀(k:Nat) (s:S) {e:E},Q2 step k s=some e->∀j,Q2 step (k+j) s=some e
 | 0,s,e,h,j=>by cases h
 | k+1,s,e,h,j=>by
  rw[show k+1+j=(k+j)+1 by omega];cases hs:step s with
  | none =>
   change(match step s with|none=>none|some (.inl s')=>Q2 step k s' | some (.inr e)=>some e)=_ at h;rw[hs] at h;cases h
  | some r =>
   cases r with
   | inl s' =>
    rw[E3 hs] at h ⊢;exact Qlh k s' h j
   | inr e' =>
    rw[JB hs] at h ⊢;exact h
def decZ (u:Nat):Wrd:=if u=0 then[] else Lib.decDigits u
theorem QmT {u:Nat}(h:u≠0):decZ u=decZ (u / 10)++[UInt8.ofNat (48+u % 10)]:=by
 unfold decZ;rw[jFj h,Lib.decDigits];by_cases a:u<10
 ·rw[dif_pos a,jTj (by omega),show u % 10=u by omega];rfl
 ·rw[dif_neg a,jFj (by omega)]
theorem Qnh:∀k:Fin 10,Utf8.encode (IntKind.wrap .i32 (48+((k.val:Nat):Int)))=mkS [UInt8.ofNat (48+k.val)]:=by decide
theorem Qm6 {k:Nat}(h:k<10):Utf8.encode (IntKind.wrap .i32 (48+(k:Int)))=mkS [UInt8.ofNat (48+k)]:=Qnh ⟨k,h⟩
theorem QlF (n:Nat)(a:Int):∀(k u:Nat) (t:Wrd),u<10 ^ k->u<1000000000->t.length+k<=100 ->
  Q2 (QiW n a) (k+1) (mkS t,(u:Int))=some (mkS (decZ u++t))
 | 0,u,t,hu,_,_=>by
  have:u=0:=by simpa using hu
  subst this;refine JB ?_;unfold QiW;rfl
 | k+1,u,t,hu,hb,ht=>by
  by_cases e:u=0
  ·subst e;refine JB ?_;unfold QiW;rfl
  ·have h:u % 10<10:=Nat.mod_lt _ (by decide);have i:=QlF n a k (u / 10) (UInt8.ofNat (48+u % 10)::t) (by rw[Nat.pow_succ] at hu;omega) (by omega) (by simp;omega);have c:decZ u++t=decZ (u / 10)++(UInt8.ofNat (48+u % 10)::t):=by rw[QmT e];simp
   rw[c,<-i];refine E3 ?_;have d:(mkS [UInt8.ofNat (48+u % 10)]).size+(mkS t).size<=9223372036854775807:=by rw[QiF,QiF];simp;omega
   have b:mkS [UInt8.ofNat (48+u % 10)]++mkS t=mkS (UInt8.ofNat (48+u % 10)::t):=Qjy _ _;unfold QiW;have f:Int.tmod (u:Int) 10=((u % 10:Nat):Int):=rfl;have g:Int.tdiv (u:Int) 10=((u / 10:Nat):Int):=rfl;dsimp only;rw[jFj (by omega),f,g,jFj (by omega),Qm6 h,jTj (i64 (by omega) (by omega)),jTj d,jTj (i64 (by omega) (by omega)),b]
theorem Qna {n:Nat}(l:3000<=n){a:Int}(g:0<=a)(j:a<1000000000):QjH n a=some (mkS (Lib.itoa a)):=by
 unfold QjH;rw[Qk7 g];by_cases e:a=0
 ·subst e;have c:Lib.decDigits (Int.toNat 0)=[48]:=by show Lib.decDigits 0=_;rw[Lib.decDigits,dif_pos (by decide)];rfl
  rw[jTj rfl,c];rfl
 ·rw[jFj e];obtain⟨k,h⟩:∃k,n=10+k:=⟨n - 10,by omega⟩
  have f:=QlF n a 9 a.toNat [] (by simp;omega) (by omega) (by simp);rw[show(a.toNat:Int)=a by omega] at f;have b:=Qlh _ _ f k;rw[<-h] at b;have i:decZ a.toNat=Lib.decDigits a.toNat:=by unfold decZ;rw[jFj (by omega)]
  rw[List.append_nil,i] at b;have d:Q2 (QiW n a) n (⟨#[]⟩,a)=_:=b;rw[d,jBj,jFj (by omega)]
theorem Qmt {n:Nat}(d:3000<=n){a:Int}(b:0<=a)(c:a<1000000000):Qjm n a=some (mkS (Lib.itoa a)):=by unfold Qjm;rw[Qna d b c];rfl
def sumN:Nat->Wrd->Nat
 | x,[]=>x
 | x,b::l=>sumN ((353*x+b.toNat) % 9999649) l
theorem QlS:∀(l:Wrd) (x:Nat),x<9999649->sumN x l<9999649
 | [],_,h=>h
 | b::l,x,_=>QlS l _ (Nat.mod_lt _ (by decide))
theorem Qk9 {step:Int×Int->Option (Int×Int⊕Int)}(l:Wrd)(j:l.length<=2000)
  (h:∀x i:Int,step (x,i)=if i<((mkS l).size:Int) then(if Qh (353*x) then(WQ (mkS l) i).bind fun b=>if Qh ((353*x)+(IntKind.wrap .i64 b)) then if Qh (i+1) then some (.inl ((Int.tmod ((353*x)+(IntKind.wrap .i64 b)) 9999649),(i+1))) else none else none else none) else some (.inr x)) :
  ∀(a:Wrd) (i x k:Nat),l.drop i=a->i<=l.length->x<9999649->a.length<k->Q2 step k ((x:Int),(i:Int))=some ((sumN x a:Nat):Int)
 | _,_,_,0,_,_,_,hk=>absurd hk (by omega)
 | [],i,x,k+1,hd,hi,_,_=>by
  have g:i=l.length:=by have:=List.drop_eq_nil_iff.1 hd;omega
  refine JB ?_;rw[h,jFj (by rw[QiF];omega)];rfl
 | b::a,i,x,k+1,hd,hi,hx,hk=>by
  obtain⟨d,e,c⟩:=QkB hd;have f:b.toNat<256:=b.toNat_lt;have n:=Qk9 l j h a (i+1) ((353*x+b.toNat) % 9999649) k c d (Nat.mod_lt _ (by decide)) (by simp at hk;omega);rw[E3 (s':=(((((353*x+b.toNat) % 9999649:Nat)):Int),((i+1:Nat):Int)))]
  ·exact n
  ·have m:IntKind.wrap .i64 (b.toNat:Int)=(b.toNat:Int):=Qms (i64 (by omega) (by omega));have hc:(353:Int)*(x:Int)+(b.toNat:Int)=((353*x+b.toNat:Nat):Int):=by simp
   rw[h,jTj (by rw[QiF];omega),jTj (i64 (by omega) (by omega)),Qi8,e,Option.map_some,jBj,m,jTj (i64 (by omega) (by omega)),jTj (i64 (by omega) (by omega)),hc];rfl
def digK:Nat->Nat->Wrd
 | 0,_=>[]
 | k+1,x=>digK k (x / 10)++[UInt8.ofNat (48+x % 10)]
theorem Qmn:∀(k x:Nat),(digK k x).length=k
 | 0,_=>rfl
 | k+1,x=>by unfold digK;simp[Qmn k]
theorem QlQ:∀k,digK k 0=List.replicate k 48
 | 0=>rfl
 | k+1=>by unfold digK;rw[Nat.zero_div,QlQ k,List.replicate_succ'];rfl
theorem Qmo:∀(k x:Nat),x<10 ^ (k+1)->digK (k+1) x=List.replicate (k+1 - (Lib.decDigits x).length) 48++Lib.decDigits x
 | 0,x,h=>by
  have a:x<10:=by simpa using h
  rw[Lib.decDigits,dif_pos a];show[]++[UInt8.ofNat (48+x % 10)]=_;rw[Nat.mod_eq_of_lt a];rfl
 | k+1,x,h=>by
  unfold digK;by_cases a:x<10
  ·rw[Lib.decDigits,dif_pos a,Nat.div_eq_of_lt a,Nat.mod_eq_of_lt a,QlQ];rfl
  ·rw[Qmo k (x / 10) (by rw[Nat.pow_succ] at h;omega),Lib.decDigits.eq_def x,dif_neg a];simp
def dig7 (l:Wrd):Wrd:=digK 7 (sumN 1 l)
theorem Qno:∀k:Fin 10,IntKind.wrap .u8 (48+((k.val:Nat):Int))=((48+k.val:Nat):Int):=by decide
theorem Qm8 {k:Nat}(h:k<10):IntKind.wrap .u8 (48+(k:Int))=((48+k:Nat):Int):=Qno ⟨k,h⟩
theorem QkU {n:Nat}(j:3000<=n){l:Wrd}(g:l.length<=2000):Qi5 n (mkS l)=some (mkS (dig7 l)):=by unfold Qi5 dig7;have d:Q2 (Qjh n (mkS l)) n (1,0)=_:=Qk9 l g (fun _ _=>rfl) l 0 1 n rfl (Nat.zero_le _) (by decide) (by omega);have i:=QlS l 1 (by decide);rw[d,jBj];generalize sumN 1 l=x at i ⊢;have e:∀a:Nat,Int.tdiv (a:Int) 10=((a / 10:Nat):Int):=fun _=>rfl;have f:∀a:Nat,Int.tmod (a:Int) 10=((a % 10:Nat):Int):=fun _=>rfl;simp only[e,f];have m:∀a:Nat,a % 10<10:=fun a=>Nat.mod_lt _ (by decide);have b:∀a:Nat,Qh (48+((a % 10:Nat):Int)):=fun a=>i64 (by have:=m a;omega) (by have:=m a;omega);have c:∀a:Nat,a<9999649->Qh ((a / 10:Nat):Int):=fun a h=>i64 (by omega) (by omega);rw[jTj (b _),jTj (c _ (by omega)),jTj (b _),jTj (c _ (by omega)),jTj (b _),jTj (c _ (by omega)),jTj (b _),jTj (c _ (by omega)),jTj (b _),jTj (c _ (by omega)),jTj (b _),jTj (c _ (by omega)),jTj (b _),jTj (c _ (by omega))];simp only[Qm8 (m _)];rfl
theorem Qme (n:Nat):∀(m:Nat) (s:Wrd) (K:Nat),s.length+m=7->m<K->Q2 (Qji n) K (mkS s)=some (mkS (List.replicate m 48++s))
 | _,_,0,_,h=>absurd h (by omega)
 | 0,s,K+1,hs,_=>by refine JB ?_;unfold Qji;rw[jFj (by rw[QiF];omega)];rfl
 | m+1,s,K+1,hs,hK=>by have b:=Qme n m (48::s) K (by simp;omega) (by omega);rw[List.replicate_succ',List.append_assoc];refine(E3 ?_).trans b;unfold Qji;have e:(⟨#[48]⟩:jSj)++mkS s=mkS (48::s):=Qjy [48] s;have a:(⟨#[48]⟩:jSj).size=1:=rfl;rw[jTj (by rw[QiF];omega),a,jTj (by rw[QiF];omega),e]
theorem QlH {n:Nat}(d:3000<=n){l:Wrd}(c:l.length<=2000):QjC n (mkS l)=some (mkS (dig7 l)):=by unfold QjC dig7;have a:Q2 (Qjh n (mkS l)) n (1,0)=_:=Qk9 l c (fun _ _=>rfl) l 0 1 n rfl (Nat.zero_le _) (by decide) (by omega);have e:=QlS l 1 (by decide);have b:=(Qmp (sumN 1 l)).2.2.2.2 7 (by decide) (by omega);rw[a,jBj,Qmt d (by omega) (by omega),jBj,Qk7 (by omega),jtj,Qme n (7 - (Lib.decDigits (sumN 1 l)).length) _ n (by omega) (by omega),jBj,<-Qmo 6 _ (by omega)]
theorem Qlm (l:Wrd):(dig7 l).length=7:=Qmn 7 _
theorem Ql1 {α:Type}{p:α->Bool}:∀{l:List α},l.dropWhile p=[]↔∀x,x∈l->p x=true
 | []=>⟨fun _ x b=>(by cases b),fun _=>rfl⟩
 | a::l=>by
  rw[List.dropWhile_cons];by_cases h:p a=true
  ·rw[jTj h,Ql1 (l:=l)];constructor
   ·intro c x b;cases b with
    | head=>exact h
    | tail _ b=>exact c x b
   ·intro c x b;exact c x (jmj _ b)
  ·rw[jFj h];exact⟨fun e=>(by cases e),fun c=>absurd (c a jMj) h⟩
theorem QmK {α:Type}{p:α->Bool}:∀{l r:List α} {a:α},l.dropWhile p=a::r->¬p a=true
 | b::l,r,a,h=>by
  rw[List.dropWhile_cons] at h;by_cases c:p b=true
  ·rw[jTj c] at h;exact QmK h
  ·rw[jFj c] at h;cases h;exact c
theorem trim_nil {l cs:Wrd}:Lib.trimS l cs=[]↔∀x,x∈l->cs.contains x=true:=by
 unfold Lib.trimS Lib.trimLeftS Lib.trimRightS;rw[Ql1];constructor
 ·intro h;cases b:l.reverse.dropWhile (cs.contains ·) with
  | nil=>exact fun x c=>Ql1.1 b x (List.mem_reverse.2 c)
  | cons a r =>
   exact absurd (h a (by rw[b];simp)) (QmK b)
 ·intro h x c;have b:l.reverse.dropWhile (cs.contains ·)=[]:=Ql1.2 fun y d=>h y (List.mem_reverse.1 d);rw[b] at c;cases c
theorem Qmm (b:UInt8):([48,49,50,51,52,53,54,55,56,57]:Wrd).contains b=true↔48<=b.toNat/\b.toNat<=57:=by
 rw[List.contains_iff_mem];constructor
 ·intro h;simp only[List.mem_cons,List.not_mem_nil,or_false] at h;obtain h|h|h|h|h|h|h|h|h|h:=h<;>subst h<;>decide
 ·intro h;have:b.toNat=48\/b.toNat=49\/b.toNat=50\/b.toNat=51\/b.toNat=52\/b.toNat=53\/b.toNat=54\/b.toNat=55\/b.toNat=56\/b.toNat=57:=by omega
  have e:∀c:UInt8,b.toNat=c.toNat->b=c:=fun c hc=>UInt8.toNat_inj.1 hc;obtain h|h|h|h|h|h|h|h|h|h:=this
  ·rw[e 48 h];decide
  ·rw[e 49 h];decide
  ·rw[e 50 h];decide
  ·rw[e 51 h];decide
  ·rw[e 52 h];decide
  ·rw[e 53 h];decide
  ·rw[e 54 h];decide
  ·rw[e 55 h];decide
  ·rw[e 56 h];decide
  ·rw[e 57 h];decide
theorem QmW (n:Nat){l:Wrd}(a:l.length<=2000):∃s,Qjr n (mkS l) ⟨#[48,49,50,51,52,53,54,55,56,57]⟩=some s/\(s.toList==(⟨#[]⟩:jSj).toList)=decide (QiV l):=by
 refine⟨mkS (Lib.trimS l [48,49,50,51,52,53,54,55,56,57]),?_,?_⟩
 ·unfold Qjr;rw[jTj ⟨by rw[QiF];omega,by decide,by decide⟩,Qjx];rfl
 ·rw[show(⟨#[]⟩:jSj)=mkS [] from rfl,Qkr];have:(Lib.trimS l [48,49,50,51,52,53,54,55,56,57]=[])↔QiV l:=trim_nil.trans ⟨fun h c hc=>(Qmm c).1 (h c hc),fun h c hc=>(Qmm c).2 (h c hc)⟩;by_cases h:QiV l
  ·rw[jDj h,jDj (this.2 h)]
  ·rw[jEj h,jEj (mt this.1 h)]
theorem QkT (n:Nat)(l:Wrd)(p:l.length<=2000):∀(a:Wrd) (i k:Nat),l.drop i=a->i<=l.length->a.length<k ->
  Q2 (QiR n (mkS l)) k (i:Int)=some (if QiV a then .inr () else .inl ())
 | _,_,0,_,_,hk=>absurd hk (by omega)
 | [],i,k+1,hd,hi,_=>by
  have o:i=l.length:=by have:=List.drop_eq_nil_iff.1 hd;omega
  rw[JB (e:=.inr ()),jTj (show QiV [] from fun c hc=>by cases hc)];unfold QiR;rw[jFj (by rw[QiF];omega)]
 | x::a,i,k+1,hd,hi,hk=>by
  obtain⟨g,j,f⟩:=QkB hd;by_cases b:48<=x.toNat/\x.toNat<=57
  ·rw[E3 (s':=((i+1:Nat):Int)),QkT n l p a (i+1) k f g (by simp at hk;omega)]
   ·by_cases d:QiV a
    ·rw[jTj d,jTj (Qjf.2 ⟨b,d⟩)]
    ·rw[jFj d,jFj (fun h=>d (Qjf.1 h).2)]
   ·unfold QiR;rw[jTj (by rw[QiF];omega),Qi8,j,Option.map_some,jBj,jFj (by omega),jFj (by omega),jTj (i64 (by omega) (by omega))];rfl
  ·rw[JB (e:=.inl ()),jFj (fun h=>b (Qjf.1 h).1)];unfold QiR;rw[jTj (by rw[QiF];omega),Qi8,j,Option.map_some,jBj];by_cases m:x.toNat<48
   ·rw[jTj (by omega)]
   ·rw[jFj (by omega),jTj (by omega)]
theorem QmS {n:Nat}(d:3000<=n){l:Wrd}(c:l.length<=2000):Qjt n (mkS l)=some (decide (QiV l)&&decide (l.length=7)):=by
 unfold Qjt;have h:Q2 (QiR n (mkS l)) n 0=_:=QkT n l c l 0 n rfl (Nat.zero_le _) (by omega);rw[h,jBj];by_cases a:QiV l
 ·rw[jTj a,jDj a,Bool.true_and];show some (((mkS l).size:Int)==7)=_;rw[QiF];congr 1
  by_cases b:l.length=7
  ·rw[b];rfl
  ·rw[jEj b];simp;omega
 ·rw[jFj a,jEj a];rfl
def evOf (m:Int)(t:Tri):Ev:=(m,mkS (kw t.1),t.2.1.map mkS,t.2.2,⟨#[]⟩)
def recX (l:Wrd):Ev⊕Int :=
 if l.length<8 then .inr 25
 else if l[l.length - 8]?=some 35/\QiV (l.drop (l.length - 8+1)) then
  if dig7 (l.take (l.length - 8))=l.drop (l.length - 8+1) then
   match spl 32 (l.take (l.length - 8)) with
   | []=>.inr 25
   | w::wsx=>match num w,QjK wsx with
    | some m,some t=>if chk (evOf m t)=0 then .inl (evOf m t) else .inr 25
    | _,_=>.inr 25
  else .inr 27
 else .inr 25
theorem Qlf {wsx:List Wrd}{t:Tri}(h:QjK wsx=some t):t.2.1.length=kn t.1/\t.2.2.length=kv t.1/\∃w c,wsx=w::c/\w=kw t.1/\c.length=kn t.1+kv t.1/\t.2.1=c.take (kn t.1)/\(c.drop (kn t.1)).mapM num=some t.2.2:=by
 unfold QjK at h;cases wsx with
 | nil=>cases h
 | cons w c =>
  dsimp only at h;cases hk:yJ w with
  | none=>rw[hk] at h;cases h
  | some k =>
   rw[hk] at h;dsimp only at h;split at h;case isFalse=>cases h
   rename_i f;cases ha:(c.take (kn k)).mapM nmG with
   | none=>rw[ha] at h;cases h
   | some a =>
    rw[ha,jBj] at h;cases hb:(c.drop (kn k)).mapM num with
    | none=>rw[hb] at h;cases h
    | some b =>
     rw[hb,jBj] at h;cases h;have i:=Qlg ha;have j:=Qlg hb;have e:∀{l a:List Wrd},l.mapM nmG=some a->a=l:=by
      intro l;induction l with
      | nil=>intro a h;cases h;rfl
      | cons x l ih =>
       intro a h;rw[List.mapM_cons] at h;unfold nmG at h;by_cases g:x=[]
       ·rw[jTj g] at h;cases h
       ·rw[jFj g] at h;cases f:l.mapM (fun w=>if w=[] then none else some w) with
        | none =>
         have d : l.mapM nmG=none:=f;change(some x >>= fun a=>(l.mapM nmG) >>= fun b=>pure (a::b))=some a at h;rw[d] at h;cases h
        | some b =>
         have d : l.mapM nmG=some b:=f;change(some x >>= fun a=>(l.mapM nmG) >>= fun b=>pure (a::b))=some a at h;rw[d] at h;cases h;rw[ih d]
     refine⟨by rw[i];simp;omega,by rw[j];simp;omega,w,c,rfl,qM hk,f,e ha,hb⟩
theorem Qmw (ns:List Wrd):(ns.map mkS).map Sd=ns.map eS:=by rw[List.map_map];rfl
theorem QlY {p:Wrd}(h:p.length<=2000):OkW (spl 32 p):=by
 refine⟨by rw[QjJ];have:p.count 32<=p.length:=List.count_le_length;omega,fun w d=>?_⟩;have:∀{c:UInt8} {l w:Wrd},w∈spl c l->w.length<=l.length:=by
  intro c l w d;obtain⟨a,b,h⟩:=List.append_of_mem d;have e:=QjE c l;rw[h] at e;rw[<-e];clear e h d;have glue_len:∀(L:List Wrd),w∈L->w.length<=(glue c L).length:=by
   intro L;induction L with
   | nil=>intro h;cases h
   | cons x L ih =>
    intro h;cases L with
    | nil =>
     cases h with
     | head=>exact jLj _
     | tail _ h=>cases h
    | cons y L =>
     show w.length<=(x++c::glue c (y::L)).length;cases h with
     | head=>simp
     | tail _ h=>have:=ih h;simp at this ⊢;omega
  exact glue_len _ (by simp)
 have:=this d;omega
theorem Qmq {n:Nat}(u:3000<=n){p:Wrd}(hp:p.length<=2000){w:Wrd}{wsx:List Wrd}(j:spl 32 p=w::wsx){m:Int}{t:Tri}(k:QjK wsx=some t) :
  WX n m (mkS (kw t.1)) (t.2.1.map eS) (t.2.2.map I) ⟨#[]⟩=some (chk (evOf m t))/\WV n m (mkS (kw t.1)) (t.2.1.map eS) (t.2.2.map I) ⟨#[]⟩=some (chk (evOf m t)):=by
 obtain⟨l,o,w0,g,rfl,y,v,i,q⟩:=Qlf k;have r:=Qnv t.1;have ok:=QlY hp;rw[j] at ok;have c:∀s,s∈(evOf m t).2.2.1->s.size<n:=fun s h=>by obtain⟨x,d,rfl⟩:=List.mem_map.1 h;rw[i] at d;have:=ok.2 x (jmj _ (jmj _ (List.mem_of_mem_take d)));rw[QiF];omega
 have e:(evOf m t).2.2.1.length<=6:=by show(t.2.1.map mkS).length<=6;rw[jlj];omega
 have f:(evOf m t).2.2.2.1.length<=8:=by show t.2.2.length<=8;omega
 have a:=QkC (n:=n) (by omega) (evOf m t) e f c;have b:=Qj4 (n:=n) (by omega) (evOf m t) ⟨e,f⟩;unfold evOf at a b;dsimp only at a b;rw[Qmw] at a b;exact⟨a,b⟩
def Qnk (x:Ev⊕Int)(num:Int):Int×jSj×jVj×jVj×jSj×Int:=match x with
 | .inl e=>(e.1,e.2.1,e.2.2.1.map Sd,e.2.2.2.1.map I,e.2.2.2.2,QF (e.1 != num) 11)
 | .inr e=>(0,⟨#[]⟩,[],[],⟨#[]⟩,e)
theorem Qnd {n:Nat}(j:3000<=n){l:Wrd}(L:l.length<=2000)(A:Int):Qi3 n (mkS l) A=some (Qnk (recX l) A):=by
 unfold Qi3 recX;rw[QiF,jTj (i64 (by omega) (by omega)),jTj (i64 (by omega) (by omega))];by_cases z:l.length<8
 ·rw[jTj (by omega),jTj z];rfl
 rw[jFj (by omega),jFj z];obtain⟨q,C⟩:∃q,l.length - 8=q:=⟨_,rfl⟩
 have o:((l.length:Int) - 7) - 1=(q:Int):=by omega
 have E:q+8=l.length:=by omega
 rw[o,C,Qi8];obtain⟨c,hc⟩:∃c,l[q]?=some c:=⟨_,jej (by omega)⟩
 rw[hc,Option.map_some,jBj];by_cases f:c=35;case neg =>
  have g : ¬((c.toNat:Int)=35):=fun e=>f (UInt8.toNat_inj.1 (by show c.toNat=35;omega));rw[jFj g,jFj (fun h=>f (Option.some.inj h.1))];rfl
 subst f;rw[jTj (by decide),jTj (i64 (by omega) (by omega)),show(q:Int)+1=((q+1:Nat):Int) from rfl,QjN l (by omega),jBj];obtain⟨s,G,H⟩:=QmW n (l:=l.drop (q+1)) (by simp;omega);rw[G,jBj,H];by_cases b:QiV (l.drop (q+1));case neg=>rw[jTj (by rw[jEj b];rfl),jFj (fun h=>b h.2)];rfl
 rw[jFj (by rw[jDj b];decide),jTj ⟨rfl,b⟩,QlT l (by omega),jBj,QkU j (by simp;omega),jBj,Qkr];by_cases d:dig7 (l.take q)=l.drop (q+1);case neg=>rw[jTj (by rw[jEj d];rfl),jFj d];rfl
 rw[jFj (by rw[jDj d];decide),jTj d];have hp:(l.take q).length<=2000:=by simp;omega
 generalize l.take q=p at hp ⊢;rw[QmY j hp,jBj];have ok:=QlY hp;cases hs:spl 32 p with
 | nil=>exact absurd hs (QjB 32 p)
 | cons w wsx =>
  have k:el Ww ((w::wsx).map eS) 0=some (mkS w):=Qml (i:=0) rfl;rw[hs] at ok;have y:OkW wsx:=⟨by have:=ok.1;simp at this;omega,fun x F=>ok.2 x (jmj _ F)⟩
  have u:=ok.1;simp only[List.length_cons] at u;rw[k,jBj,Qli j (ok.2 w jMj),jBj,jTj (by simp;omega)];dsimp only;rw[show((w::wsx).map eS).drop (Int.toNat 1)=wsx.map eS from rfl,Qm4 j _ y,jBj];obtain⟨J,K⟩:=Qm5 wsx;cases hnum:num w with
  | none=>rw[jFj (by simp)];rfl
  | some m =>
   rw[jTj (show(some m).isSome=true from rfl),Qmj hnum];cases hpw:QjK wsx with
   | none =>
    cases hev:evX wsx with
    | none=>rw[jFj (by simp)];rfl
    | some r =>
     obtain⟨w',ns,vs,v⟩:=r;have:=K hpw w' ns vs v hev;subst this;rw[jFj (by simp)];rfl
   | some t =>
    have hev:=J t.1 t.2.1 t.2.2 hpw;rw[hev];dsimp only;rw[jTj rfl,(Qmq j hp hs hpw).1,jBj];by_cases a:chk (evOf m t)=0
    ·rw[jTj a,jTj a,Zd,jBj];show _=some (m,mkS (kw t.1),(t.2.1.map mkS).map Sd,t.2.2.map I,(⟨#[]⟩:jSj),_);rw[Qmw];rfl
    ·rw[jFj a,jFj a];rfl
def recR (x:Ev⊕Int):Int×jSj×jVj×jVj×jSj×Int:=match x with
 | .inl e=>(e.1,e.2.1,e.2.2.1.map Sd,e.2.2.2.1.map I,e.2.2.2.2,0)
 | .inr e=>(0,⟨#[]⟩,[],[],⟨#[]⟩,e)
theorem QkJ {n:Nat}(k:3000<=n){l:Wrd}(K:l.length<=2000):Qjs n (mkS l)=some (recR (recX l)):=by
 unfold Qjs recX;rw[QiF,jTj (i64 (by omega) (by omega))];by_cases C:l.length<8
 ·rw[jTj (by omega),jTj C];rfl
 rw[jFj (by omega),jFj C];obtain⟨q,F⟩:∃q,l.length - 8=q:=⟨_,rfl⟩
 have y:(l.length:Int) - 8=(q:Int):=by omega
 have G:q+8=l.length:=by omega
 rw[y,F,Qi8];obtain⟨c,hc⟩:∃c,l[q]?=some c:=⟨_,jej (by omega)⟩
 rw[hc,Option.map_some,jBj];by_cases g:c=35;case neg =>
  have o : ¬((c.toNat:Int)=35):=fun e=>g (UInt8.toNat_inj.1 (by show c.toNat=35;omega));rw[jFj o,jFj (fun h=>g (Option.some.inj h.1))];rfl
 subst g;rw[jTj (by decide),jTj (i64 (by omega) (by omega)),show(q:Int)+1=((q+1:Nat):Int) from rfl,QjN l (by omega),jBj,QmS k (by simp;omega),jBj,jDj (show(l.drop (q+1)).length=7 by simp;omega),Bool.and_true];by_cases b:QiV (l.drop (q+1));case neg=>rw[jFj (by rw[jEj b];decide),jFj (fun h=>b h.2)];rfl
 rw[jTj (jDj b),jTj ⟨rfl,b⟩,QlT l (by omega),jBj,QlH k (by simp;omega),jBj,Qkr];by_cases d:dig7 (l.take q)=l.drop (q+1);case neg=>rw[jTj (by rw[jEj (fun h=>d h.symm)];rfl),jFj d];rfl
 rw[jFj (by rw[jDj d.symm];decide),jTj d];have hp:(l.take q).length<=2000:=by simp;omega
 generalize l.take q=p at hp ⊢;have z:Qi4 n (mkS p) 32=some ((spl 32 p).map eS):=QkR k 32 hp;rw[z,jBj];cases hs:spl 32 p with
 | nil=>exact absurd hs (QjB 32 p)
 | cons w wsx =>
  have u:el Ww ((w::wsx).map eS) 0=some (mkS w):=Qml (i:=0) rfl;have ok:=QlY hp;rw[hs] at ok;have A:=ok.1;simp only[List.length_cons] at A;have H:=ok.2 w jMj;rw[u,jBj,Qkm k,jBj];dsimp only;cases hnum:num w with
  | none=>rw[jFj (by simp)];rfl
  | some m =>
   rw[jTj (show(some m).isSome=true from rfl)];cases wsx with
   | nil=>rw[jTj (by simp)];rfl
   | cons s wz1 =>
    have E:p=w++32::glue 32 (s::wz1):=by have:=QjE 32 p;rw[hs] at this;exact this.symm
    have j:=fun x J=>Qke 32 p x (by rw[hs];exact jmj w J);have r:spl 32 (glue 32 (s::wz1))=s::wz1:=Qlb 32 _ (by simp) j;have f:p.drop (w.length+1)=glue 32 (s::wz1):=by rw[E];simp
    have v:w.length+1<=p.length:=by rw[E];simp
    rw[jFj (by simp;omega),QiF,jTj (i64 (by omega) (by omega)),show(w.length:Int)+1=((w.length+1:Nat):Int) from rfl,QjN p v,jBj,f,QmQ k (by rw[<-f];simp;omega),jBj,r];cases hpw:QjK (s::wz1) with
    | none=>rw[jFj (by simp)];rfl
    | some t =>
     dsimp only;rw[jTj rfl,Option.getD_some,(Qmq k hp hs hpw).2,jBj];by_cases a:chk (evOf m t)=0
     ·rw[jTj a,jTj a];show _=some (m,mkS (kw t.1),(t.2.1.map mkS).map Sd,t.2.2.map I,(⟨#[]⟩:jSj),0);rw[Qmw]
     ·rw[jFj a,jFj a];rfl
def recP:List Wrd->Nat->List Ev×Nat×Int
 | [],_=>([],0,0)
 | [p],_=>([],0,if p=[] then 0 else 28)
 | p::q::L,k=>match recX p with
  | .inr e=>([],0,e)
  | .inl a=>if a.1=(k:Int)+1 then(a::(recP (q::L) (k+1)).1,p.length+1+(recP (q::L) (k+1)).2.1,(recP (q::L) (k+1)).2.2) else([],0,11)
theorem Qkg {l:Wrd}{e:Int}(h:recX l=.inr e):e=25\/e=27:=by
 unfold recX at h;repeat' split at h
 all_goals first|(cases h;exact .inl rfl)|(cases h;exact .inr rfl)|cases h
theorem QmI (n:Nat)(l:Wrd):Qi2 n (mkS l)=some (Lib.indexByte l 10):=by
 unfold Qi2;have e:(⟨#[10]⟩:jSj)=mkS [10]:=rfl;rw[e,Qkr];by_cases h:[10]=l
 ·rw[jTj (jDj h),<-h];rfl
 ·rw[jFj (by simpa using h)];unfold Qi6;rw[Qjx];rfl
theorem Qni (n:Nat){a b:Wrd}(h:(10:UInt8)∉a)(d:(a++10::b).length<=2000):Qjg n (mkS (a++10::b))=some (mkS a,mkS b,true):=by
 unfold Qjg Qje;have c:a.length+b.length+1<=2000:=by simp at d;omega
 rw[QmI,jBj,QkK b h,jTj (by omega),QlT _ (by simp),jBj,jTj (i64 (by omega) (by omega)),show(a.length:Int)+1=((a.length+1:Nat):Int) from rfl,QjN _ (by simp),jBj];simp
theorem Qm7 (n:Nat){a:Wrd}(h:(10:UInt8)∉a):Qjg n (mkS a)=some (mkS a,⟨#[]⟩,false):=by unfold Qjg Qje;rw[QmI,jBj,Qlj h,jFj (by decide)];rfl
theorem QmO {s p q:Wrd}{L:List Wrd}(h:spl 10 s=p::q::L):∃s',s=p++10::s'/\(10:UInt8)∉p/\spl 10 s'=q::L:=by have c:=QjE 10 s;have a:=fun x b=>Qke 10 s x b;rw[h] at c a;refine⟨glue 10 (q::L),c.symm,a p jMj,Qlb 10 _ (by simp) fun x b=>a x (jmj _ b)⟩
theorem Qnb {s p:Wrd}(h:spl 10 s=[p]):s=p/\(10:UInt8)∉s:=by have a:=QjE 10 s;have b:=Qke 10 s p (by rw[h];simp);rw[h] at a;have:s=p:=a.symm;exact⟨this,by rw[this];exact b⟩
theorem QlW {k:Nat}(h:k<=5000):Wa 88 k:=Qky (by decide) h
def rcvE (a:Nat)(acc:List Ev)(r:List Ev×Nat×Int):(Int×Int×jVj)⊕(Int×jVj) :=
 if r.2.2=0 then .inr (((a+r.2.1:Nat):Int),(acc++r.1).map Zr) else .inl (((a+r.2.1:Nat):Int),r.2.2,(acc++r.1).map Zr)
theorem Qmd {n:Nat}(v:3000<=n)(l:Wrd)(z:l.length<=2000):∀(L:List Wrd) (s:Wrd) (a:Nat) (acc:List Ev) (K:Nat),spl 10 s=L->l.drop a=s->a<=l.length->acc.length<=a->L.length<K ->
  Q2 (QiP n (mkS l)) K ((a:Int),acc.map Zr)=some (rcvE a acc (recP L acc.length))
 | _,_,_,_,0,_,_,_,_,h=>absurd h (by omega)
 | [],s,_,_,_+1,hs,_,_,_,_=>absurd hs (QjB 10 s)
 | [p],s,a,acc,K+1,hs,hd,ha,hc,hK=>by
  obtain⟨rfl,o⟩:=Qnb hs;refine JB ?_;unfold QiP recP rcvE;dsimp only;by_cases hp:s=[]
  ·subst hp;have:a=l.length:=by have:=List.drop_eq_nil_iff.1 hd;omega
   rw[jFj (by rw[QiF];omega),jTj rfl];simp
  ·have C:a<l.length:=by
    obtain h|h:=Nat.lt_or_ge a l.length
    ·exact h
    ·rw[List.drop_eq_nil_of_le h] at hd;exact absurd hd.symm hp
   rw[jTj (by rw[QiF];omega),QjN l ha,hd,jBj,Qm7 n o,jBj,jFj (show ¬(false=true) by decide)];rw[jFj hp,jFj (by decide)];simp
 | p::q::L,s,a,acc,K+1,hs,hd,ha,hc,hK=>by
  obtain⟨s',rfl,o,t⟩:=QmO hs;have g:(p++10::s').length=l.length - a:=by rw[<-hd];simp
  have A:p.length+s'.length+1=l.length - a:=by simp at g;omega
  have f:=Qni n (a:=p) (b:=s') o (by omega);have i:∀r,Qi3 n (mkS p) (((acc.map Zr).length:Int)+1)=some (Qnk r (((acc.map Zr).length:Int)+1))->recX p=r->QiP n (mkS l) ((a:Int),acc.map Zr)=(match r with
    | .inr e=>some (.inr (.inl ((a:Int),e,acc.map Zr)))
    | .inl ev=>if ev.1=(acc.length:Int)+1 then some (.inl (((a+(p.length+1):Nat):Int),(acc++[ev]).map Zr)) else some (.inr (.inl ((a:Int),11,acc.map Zr)))):=by
   intro r k j;unfold QiP;dsimp only;rw[jlj] at k ⊢;rw[jTj (by rw[QiF];omega),QjN l ha,hd,jBj,f,jBj,jTj rfl,jTj (i64 (by omega) (by omega))];cases r with
   | inr e =>
    have y:=Qkg j;have d : Qi3 n (mkS p) ((acc.length:Int)+1)=some (0,⟨#[]⟩,[],[],⟨#[]⟩,e):=k;rw[d,jBj];dsimp only;rw[jFj (by omega)]
   | inl ev =>
    dsimp only;by_cases hev:ev.1=(acc.length:Int)+1
    ·have u:QF (ev.1 != (acc.length:Int)+1) 11=0:=by rw[hev];simp[QF]
     have d : Qi3 n (mkS p) ((acc.length:Int)+1)=some (ev.1,ev.2.1,ev.2.2.1.map Sd,ev.2.2.2.1.map I,ev.2.2.2.2,0):=by rw[k,<-u];rfl
     rw[d,jBj,jTj hev];dsimp only;rw[jTj rfl,jTj (QlW (by omega)),QiF,jTj (i64 (by omega) (by omega)),jTj (i64 (by omega) (by omega)),List.map_append];rfl
    ·have u:QF (ev.1 != (acc.length:Int)+1) 11=11:=by simp[QF,hev]
     have d : Qi3 n (mkS p) ((acc.length:Int)+1)=some (ev.1,ev.2.1,ev.2.2.1.map Sd,ev.2.2.2.1.map I,ev.2.2.2.2,11):=by rw[k,<-u];rfl
     rw[d,jBj,jFj hev];dsimp only;rw[jFj (by decide)]
  have c:=i (recX p) (Qnd v (by omega) _) rfl;unfold recP;cases j:recX p with
  | inr e =>
   rw[j] at c;have y:=Qkg j;refine(JB c).trans ?_;unfold rcvE;dsimp only;rw[jFj (by omega)];simp
  | inl ev =>
   rw[j] at c;dsimp only at c ⊢;by_cases hev:ev.1=(acc.length:Int)+1
   ·rw[jTj hev] at c ⊢;have m : l.drop (a+(p.length+1))=s':=by rw[<-List.drop_drop,hd];simp
    have x:=Qmd v l z (q::L) s' (a+(p.length+1)) (acc++[ev]) K t m (by omega) (by simp;omega) (by simp at hK ⊢;omega);rw[jaj,List.length_singleton] at x;refine(E3 c).trans (x.trans ?_);unfold rcvE;dsimp only;rw[List.append_assoc,List.singleton_append,show a+(p.length+1)+(recP (q::L) (acc.length+1)).2.1=a+(p.length+1+(recP (q::L) (acc.length+1)).2.1) by omega]
   ·rw[jFj hev] at c ⊢;refine(JB c).trans ?_;unfold rcvE;simp
theorem Qld {n:Nat}(d:3000<=n){l:Wrd}(c:l.length<=2000):Qjc n (mkS l)=some ((recP (spl 10 l) 0).1.map Zr,((recP (spl 10 l) 0).2.1:Int),(recP (spl 10 l) 0).2.2):=by
 unfold Qjc;have b:l.count 10<=l.length:=List.count_le_length;have h:Q2 (QiP n (mkS l)) n (0,[])=_:=Qmd d l c (spl 10 l) l 0 [] n rfl rfl (Nat.zero_le _) (jLj _) (by rw[QjJ];omega);rw[jFj (by rw[QiF];omega),h,jBj];unfold rcvE;simp only[List.length_nil,List.nil_append,Nat.zero_add];by_cases a:(recP (spl 10 l) 0).2.2=0
 ·rw[jTj a];dsimp only;rw[a]
 ·rw[jFj a]
theorem Qmb:∀(L:List Wrd) (k:Nat),L≠[]->(recP L k).2.1<=(glue 10 L).length/\((recP L k).2.2=0->(recP L k).2.1=(glue 10 L).length)/\((recP L k).2.2=28->(recP L k).2.1<(glue 10 L).length)
 | [],_,h=>absurd rfl h
 | [p],k,_=>by
  unfold recP;by_cases hp:p=[]
  ·subst hp;simp[glue]
  ·have:0<p.length:=List.length_pos_iff.2 hp;rw[jFj hp];simp[glue];omega
 | p::q::L,k,_=>by
  have a:=Qmb (q::L) (k+1) (by simp);have b:(glue 10 (p::q::L)).length=p.length+1+(glue 10 (q::L)).length:=by show(p++10::glue 10 (q::L)).length=_;simp;omega
  unfold recP;rw[b];cases hx:recX p with
  | inr e =>
   have c:=Qkg hx;dsimp only;refine⟨by omega,fun h=>by omega,fun h=>by omega⟩
  | inl ev =>
   dsimp only;by_cases hev:ev.1=(k:Int)+1
   ·rw[jTj hev];dsimp only;refine⟨by omega,fun h=>by have:=a.2.1 h;omega,fun h=>by have:=a.2.2 h;omega⟩
   ·rw[jFj hev];dsimp only;exact⟨by omega,fun h=>by omega,fun h=>by omega⟩
def rrcE (a:Nat)(acc:List Ev)(r:List Ev×Nat×Int):(Int×Int×jVj)⊕(Int×jVj) :=
 if r.2.2=0\/r.2.2=28 then .inr (((a+r.2.1:Nat):Int),(acc++r.1).map Zr) else .inl (((a+r.2.1:Nat):Int),r.2.2,(acc++r.1).map Zr)
theorem Qlc {n:Nat}(o:3000<=n)(l:Wrd)(v:l.length<=2000):∀(a:Wrd) (i b:Nat) (acc:List Ev) (K:Nat),l.drop i=a->b<=i->i<=l.length->acc.length<=b->(10:UInt8)∉(l.take i).drop b->a.length<K ->
  Q2 (QiJ n (mkS l)) K ((b:Int),(i:Int),acc.map Zr)=some (rrcE b acc (recP (spl 10 ((l.take i).drop b++a)) acc.length))
 | _,_,_,_,0,_,_,_,_,_,h=>absurd h (by omega)
 | [],i,b,acc,K+1,hd,hf,hi,hc,hno,_=>by
  have y:i=l.length:=by have:=List.drop_eq_nil_iff.1 hd;omega
  refine JB ?_;unfold QiJ;dsimp only;rw[jFj (by rw[QiF];omega),List.append_nil,Qla 10 _ hno];unfold recP rrcE;dsimp only;rw[jTj (by split<;>simp)];simp
 | x::a,i,b,acc,K+1,hd,hf,hi,hc,hno,hK=>by
  obtain⟨k,s,j⟩:=QkB hd;have r:(l.take (i+1)).drop b=(l.take i).drop b++[x]:=by rw[List.take_add_one,s,List.drop_append_of_le_length (by simp;omega)];rfl
  have m:((l.take i).drop b).length=i - b:=by simp;omega
  simp only[List.length_cons] at hK;by_cases f:x=10
  ·subst f;have d:(l.take (i+1)).drop (i+1)=[]:=List.drop_eq_nil_of_le (by simp;omega);rw[QlU 10 _ _ hno];have hp:((l.take i).drop b).length<=2000:=by omega
   have c:Qi7 (mkS l) (some (b:Int)) (some (i:Int))=some (mkS ((l.take i).drop b)):=QmX l hf (by omega);generalize A:(l.take i).drop b=p at m hp c;obtain⟨q,L,u⟩:∃q L,spl 10 a=q::L:=by
    cases h:spl 10 a with
    | nil=>exact absurd h (QjB 10 a)
    | cons q L=>exact⟨q,L,rfl⟩
   rw[u];unfold recP;cases hr:recX p with
   | inr e =>
    have C:=Qkg hr;refine JB ?_;unfold QiJ rrcE;dsimp only;rw[jTj (by rw[QiF];omega),Qi8,s,Option.map_some,jBj,jTj (by decide),c,jBj,QkJ o hp,hr,show some (recR (.inr e))=some (0,⟨#[]⟩,[],[],⟨#[]⟩,e) from rfl,jBj];dsimp only;rw[jFj (by omega),jFj (by omega)];simp
   | inl ev =>
    dsimp only;by_cases hev:ev.1=(acc.length:Int)+1
    ·rw[jTj hev];have t:=Qlc o l v a (i+1) (i+1) (acc++[ev]) K j (jLj _) k (by simp;omega) (by rw[d];simp) (by omega);rw[d,List.nil_append,jaj,List.length_singleton,u] at t;refine(E3 (s':=(((i+1:Nat):Int),((i+1:Nat):Int),(acc++[ev]).map Zr)) ?_).trans (t.trans ?_)
     ·unfold QiJ;dsimp only;rw[jTj (by rw[QiF];omega),Qi8,s,Option.map_some,jBj,jTj (by decide),c,jBj,QkJ o hp,hr,show some (recR (.inl ev))=some (ev.1,ev.2.1,ev.2.2.1.map Sd,ev.2.2.2.1.map I,ev.2.2.2.2,0) from rfl,jBj];dsimp only;rw[jTj rfl,jlj,jTj (i64 (by omega) (by omega)),jTj hev,jTj (QlW (by omega)),jTj (i64 (by omega) (by omega)),List.map_append];rfl
     ·unfold rrcE;dsimp only;rw[List.append_assoc,List.singleton_append,show i+1+(recP (q::L) (acc.length+1)).2.1=b+(p.length+1+(recP (q::L) (acc.length+1)).2.1) by omega]
    ·rw[jFj hev];refine JB ?_;unfold QiJ rrcE;dsimp only;rw[jTj (by rw[QiF];omega),Qi8,s,Option.map_some,jBj,jTj (by decide),c,jBj,QkJ o hp,hr,show some (recR (.inl ev))=some (ev.1,ev.2.1,ev.2.2.1.map Sd,ev.2.2.2.1.map I,ev.2.2.2.2,0) from rfl,jBj];dsimp only;rw[jTj rfl,jlj,jTj (i64 (by omega) (by omega)),jFj hev];simp
  ·have t:=Qlc o l v a (i+1) b acc K j (by omega) k hc (by rw[r];exact fun z=>(List.mem_append.1 z).elim hno fun h=>f (List.mem_singleton.1 h).symm) (by omega);rw[r,List.append_assoc,List.singleton_append] at t;refine(E3 ?_).trans t;unfold QiJ;dsimp only;have g : ¬((x.toNat:Int)=10):=fun e=>f (UInt8.toNat_inj.1 (by show x.toNat=10;omega));rw[jTj (by rw[QiF];omega),Qi8,s,Option.map_some,jBj,jFj g,jTj (i64 (by omega) (by omega))];rfl
theorem QlA {n:Nat}(g:3000<=n){l:Wrd}(f:l.length<=2000):Qjp n (mkS l)=some ((recP (spl 10 l) 0).1.map Zr,((recP (spl 10 l) 0).2.1:Int),(recP (spl 10 l) 0).2.2):=by
 unfold Qjp;have h:Q2 (QiJ n (mkS l)) n (0,0,[])=_:=Qlc g l f l 0 0 [] n rfl (jLj _) (Nat.zero_le _) (jLj _) (by simp) (by omega);rw[jFj (by rw[QiF];omega),h,jBj];obtain⟨e,c,d⟩:=Qmb (spl 10 l) 0 (QjB 10 l);rw[QjE] at e c d;unfold rrcE;simp only[List.take_zero,List.drop_nil,List.length_nil,List.nil_append,Nat.zero_add];by_cases b:(recP (spl 10 l) 0).2.2=0
 ·rw[jTj (.inl b)];have:=c b;dsimp only;rw[jFj (by rw[QiF];omega),b]
 ·by_cases a:(recP (spl 10 l) 0).2.2=28
  ·rw[jTj (.inr a)];have:=d a;dsimp only;rw[jTj (by rw[QiF];omega),a]
  ·rw[jFj (fun h=>h.elim b a)]
abbrev dat (s:jSj):Wrd:=s.data.toList
def QjP (e:Ev):List Wrd:=Lib.itoa e.1::dat e.2.1::(e.2.2.1.map dat++e.2.2.2.1.map Lib.itoa)
def QjR (e:Ev):Wrd:=Lib.join (QjP e) [32]
def recL (e:Ev):Wrd:=QjR e++35::dig7 (QjR e)++[10]
theorem Qne (l:List jSj):(l.map dat).map eS=l.map Sd:=by rw[List.map_map];exact List.map_congr_left fun s _=>by show eS (dat s)=Sd s;unfold eS dat;rw[yD]
theorem QlM (l:List Wrd):(l.map mkS).map dat=l:=by
 rw[List.map_map];conv=>rhs;rw[<-List.map_id l]
 exact List.map_congr_left fun p _=>Qjx p
theorem QlP (c:UInt8):∀L:List Wrd,glue c L=Lib.join L [c]
 | []=>rfl
 | [p]=>(Lib.join_one p [c]).symm
 | p::q::L=>by show p++c::glue c (q::L)=_;rw[QlP c (q::L),Lib.join_cons,Lib.join_cons];simp[Lib.joinTail]
theorem Qnm (n:Nat){a:Int}(h:Qh a):Jk n a=some (mkS (Lib.itoa a)):=by unfold Jk;rw[jTj h];rfl
theorem QmA:∀L:List Wrd,yi (L.map eS)=some (L.map mkS)
 | []=>rfl
 | p::L=>by rw[jCj,yi,show JR (eS p)=some (mkS p) from rfl,QmA L];rfl
theorem Qng (n:Nat)(L:List Wrd)(sep:Wrd)(a:L.length<=1000000)(b:(Lib.join L sep).length<=1000000):Jj n (L.map eS) (mkS sep)=some (mkS (Lib.join L sep)):=by unfold Jj;rw[QmA,jBj];have e:(L.map mkS).map (·.data.toList)=L:=QlM L;unfold QdS;rw[e,Qjx,jTj ⟨by rw[jlj];omega,by omega⟩];rfl
theorem Qnf {n:Nat}(d:3000<=n)(l:List Int)(c:l.length<=60)(h:∀v,v∈l->Qh v):QiX n (l.map I)=some ((l.map Lib.itoa).map eS):=by
 unfold QiX;have:=UV (step:=QiS n (l.map I)) (E:=jVj) (fun out=>out) l (fun v=>[eS (Lib.itoa v)]) (fun _=>jLj _)
  (fun i out x a e=>by have hi:=(jGj a).1;have b:=h x (jgj a);unfold QiS;dsimp only;rw[jTj (ZD a),EM a,jBj,Qnm n b,jBj,jTj (V7 (by decide) (by omega)),jTj (by unfold Qh;omega)];rfl)
  (fun out _=>by unfold QiS;dsimp only;rw[jFj (by simp)]) (k:=n) (by omega)
 rw[this,jBj,wW,List.map_map];rfl
theorem Ql8 (b:Nat):∀(L:List Wrd),(∀w,w∈L->w.length<=b)->(Lib.joinTail [32] L).length<=(b+1)*L.length
 | [],_=>by simp[Lib.joinTail]
 | w::L,h=>by have d:=h w jMj;have a:=Ql8 b L fun x c=>h x (jmj _ c);simp only[Lib.joinTail,jCj,List.flatten_cons,jaj,List.length_cons,List.length_nil] at a ⊢;rw[Nat.mul_add];omega
theorem Qnr (k:Ki):(kw k).length<=7:=by cases k<;>decide
theorem Qll {e:Ev}{k:Ki}(a:Good e k):(QjP e).length<=9/\∀w,w∈QjP e->w.length<=24:=by
 have g:=Qnv k;have c:=Qnr k;refine⟨?_,fun w b=>?_⟩
 ·have:=a.names;have:=a.vals;unfold QjP;simp;omega
 ·unfold QjP at b;obtain h|h:=List.mem_cons.1 b
  ·rw[h];have:=Qmh (n:=e.1) (by have:=a.num;omega) (by have:=a.num;omega);omega
  obtain h|h:=List.mem_cons.1 h
  ·rw[h];show e.2.1.data.toList.length<=24;rw[a.kind];omega
  obtain h|h:=List.mem_append.1 h
  ·obtain⟨s,d,rfl⟩:=List.mem_map.1 h;have:=a.name s d;unfold Us at this;simp only[jAj,decide_eq_true_eq] at this;show s.data.toList.length<=24;rw[dlen];omega
  ·obtain⟨v,f,rfl⟩:=List.mem_map.1 h;have:=a.val v f;have:=Qmh (n:=v) (by omega) (by omega);omega
theorem Qki {e:Ev}{k:Ki}(d:Good e k):(QjR e).length<=300:=by obtain⟨b,a⟩:=Qll d;unfold QjR;unfold QjP at b a ⊢;rw[Lib.join_cons,jaj];have g:=a _ jMj;have c:=Ql8 24 _ fun w f=>a w (jmj _ f);simp only[List.length_cons] at b c;omega
theorem Qkz {α:Type}(f:α->D)(l:List α):UF (l.map f)=true↔l=[]:=by cases l<;>simp[UF]
theorem Qnj {n:Nat}(i:3000<=n){e:Ev}{k:Ki}(b:Good e k):QjI n e.1 e.2.1 (e.2.2.1.map Sd) (e.2.2.2.1.map I) e.2.2.2.2=some (mkS (QjR e)):=by
 have o:=Qnv k;have j:=b.names;have l:=b.vals;have h:=Qng n (QjP e) [32] (by have:=(Qll b).1;omega) (by have:=Qki b;unfold QjR at this;omega);have f:=Qnf i e.2.2.2.1 (by omega) fun v g=>i64 (by have:=b.val v g;omega) (by have:=b.val v g;omega);have m:(QjP e).map eS=.v (.string (mkS (Lib.itoa e.1)))::.v (.string e.2.1)::(e.2.2.1.map Sd++(e.2.2.2.1.map Lib.itoa).map eS):=by unfold QjP;rw[jCj,jCj,List.map_append,Qne];show eS (Lib.itoa e.1)::eS (dat e.2.1)::_=_;rw[show eS (dat e.2.1)=.v (.string e.2.1) by unfold eS dat;rw[yD]];rfl
 have a : Jj n (.v (.string (mkS (Lib.itoa e.1)))::.v (.string e.2.1)::(e.2.2.1.map Sd++(e.2.2.2.1.map Lib.itoa).map eS)) ⟨#[32]⟩=some (mkS (QjR e)):=by rw[<-m];exact h
 unfold QjI;rw[Qnm n (i64 (by have:=b.num;omega) (by have:=b.num;omega)),jBj,jTj (Qky (by decide) (by simp;omega))];by_cases c:e.2.2.1=[]
 ·rw[jTj ((Qkz _ _).2 c),f,jBj,jTj (Qky (by decide) (by simp;omega))];rw[c,jnj,List.nil_append] at a;by_cases d:e.2.2.2.1.map Lib.itoa=[]
  ·rw[jTj ((Qkz _ _).2 d)];rw[d,jnj] at a;rw[a];rfl
  ·rw[jFj (mt (Qkz _ _).1 d),a];rfl
 ·rw[jFj (mt (Qkz _ _).1 c),f,jBj,jTj (Qky (by decide) (by simp;omega)),a];rfl
theorem Qma {n:Nat}(d:3000<=n){e:Ev}{k:Ki}(c:Good e k):Qjv n e.1 e.2.1 (e.2.2.1.map Sd) (e.2.2.2.1.map I) e.2.2.2.2=some (mkS (recL e)):=by have f:=Qki c;have g:=Qlm (QjR e);unfold Qjv;have b:(⟨#[35]⟩:jSj)=mkS [35]:=rfl;have a:(⟨#[10]⟩:jSj)=mkS [10]:=rfl;rw[Qnj d c,jBj,b,a,jTj (by rw[QiF,QiF];simp;omega),QkU d (by omega),jBj,Qjy,Qjy,Qjy,jTj (by rw[QiF,QiF];simp;omega),jTj (by rw[QiF,QiF];simp;omega)];unfold recL;simp
theorem QmC {e:Ev}{k:Ki}(a:Good e k):(recL e).length<=310:=by have b:=Qki a;have c:=Qlm (QjR e);unfold recL;simp;omega
theorem QmE (n:Nat)(a0:Int)(a1:jSj)(a3:jVj)(a4:jSj)(l:List jSj)(k:l.length<=60):∀(a:List jSj) (i:Nat) (s:Wrd) (K:Nat),l.drop i=a->i<=l.length->s.length+(Lib.joinTail [32] (a.map dat)).length<=100000->a.length<K ->
  Q2 (Qi1 n a0 a1 (l.map Sd) a3 a4) K (mkS s,(i:Int))=some (mkS (s++Lib.joinTail [32] (a.map dat)))
 | _,_,_,0,_,_,_,h=>absurd h (by omega)
 | [],i,s,K+1,hd,hi,_,_=>by
  have j:i=l.length:=by have:=List.drop_eq_nil_iff.1 hd;omega
  refine JB ?_;unfold Qi1;dsimp only;rw[jFj (by rw[jlj];omega)];simp[Lib.joinTail]
 | x::a,i,s,K+1,hd,hi,hs,hK=>by
  obtain⟨d,e,c⟩:=QkA hd;have b:(⟨#[32]⟩:jSj)=mkS [32]:=rfl;have f:Lib.joinTail [32] ((x::a).map dat)=32::dat x++Lib.joinTail [32] (a.map dat):=by simp[Lib.joinTail]
  have g:x=mkS (dat x):=(yD x).symm;have m:x.size=(dat x).length:=(dlen x).symm;rw[f] at hs ⊢;simp only[jaj,List.length_cons] at hs;have o:=QmE n a0 a1 a3 a4 l k a (i+1) (s++32::dat x) K c d (by simp;omega) (by simp at hK;omega);refine(E3 ?_).trans (o.trans (by simp));unfold Qi1;dsimp only;rw[jTj (ZD e),b,jTj (by rw[QiF,QiF];simp;omega),jH e,jBj,Qjy,jTj (by rw[QiF];simp;omega),jTj (i64 (by omega) (by omega))];rw[show mkS (s++[32])++x=mkS (s++32::dat x) by conv=>lhs;rw[g];rw[Qjy];simp];rfl
theorem QmD {n:Nat}(g:3000<=n)(a0:Int)(a1:jSj)(a2:jVj)(a4:jSj)(l:List Int)(o:l.length<=60)(j:∀v,v∈l->0<=v/\v<=999999999):∀(a:List Int) (i:Nat) (s:Wrd) (K:Nat),l.drop i=a->i<=l.length->s.length+(Lib.joinTail [32] (a.map Lib.itoa)).length<=100000->a.length<K ->
  Q2 (Qi0 n a0 a1 a2 (l.map I) a4) K (mkS s,(i:Int))=some (mkS (s++Lib.joinTail [32] (a.map Lib.itoa)))
 | _,_,_,0,_,_,_,h=>absurd h (by omega)
 | [],i,s,K+1,hd,hi,_,_=>by
  have m:i=l.length:=by have:=List.drop_eq_nil_iff.1 hd;omega
  refine JB ?_;unfold Qi0;dsimp only;rw[jFj (by rw[jlj];omega)];simp[Lib.joinTail]
 | x::a,i,s,K+1,hd,hi,hs,hK=>by
  obtain⟨d,e,c⟩:=QkA hd;have f:=j x (jgj e);have b:(⟨#[32]⟩:jSj)=mkS [32]:=rfl;have k:Lib.joinTail [32] ((x::a).map Lib.itoa)=32::Lib.itoa x++Lib.joinTail [32] (a.map Lib.itoa):=by simp[Lib.joinTail]
  rw[k] at hs ⊢;simp only[jaj,List.length_cons] at hs;have p:=QmD g a0 a1 a2 a4 l o j a (i+1) (s++32::Lib.itoa x) K c d (by simp;omega) (by simp at hK;omega);refine(E3 ?_).trans (p.trans (by simp));unfold Qi0;dsimp only;rw[jTj (ZD e),b,jTj (by rw[QiF,QiF];simp;omega),EM e,jBj,Qmt g f.1 (by omega),jBj,Qjy,jTj (by rw[QiF,QiF];simp;omega),jTj (i64 (by omega) (by omega)),Qjy,List.append_assoc];rfl
theorem Qmu {n:Nat}(h:3000<=n){e:Ev}{k:Ki}(b:Good e k):QjG n e.1 e.2.1 (e.2.2.1.map Sd) (e.2.2.2.1.map I) e.2.2.2.2=some (mkS (QjR e)):=by
 have q:=Qnv k;have l:=b.names;have m:=b.vals;have g:=Qki b;have i:=b.num;have f:QjR e=Lib.itoa e.1++[32]++dat e.2.1++Lib.joinTail [32] (e.2.2.1.map dat)++Lib.joinTail [32] (e.2.2.2.1.map Lib.itoa):=by unfold QjR QjP;rw[Lib.join_cons];simp[Lib.joinTail]
 rw[f] at g;simp only[jaj,List.length_cons,List.length_nil] at g;have j:e.2.1=mkS (dat e.2.1):=(yD e.2.1).symm;have d:e.2.1.size=(dat e.2.1).length:=(dlen e.2.1).symm;have c:(⟨#[32]⟩:jSj)=mkS [32]:=rfl;unfold QjG;rw[Qmt h (by omega) (by omega),jBj,c,Qjy,jTj (by rw[QiF,QiF];simp;omega),jTj (by rw[QiF,d];simp;omega)];have a:mkS (Lib.itoa e.1++[32])++e.2.1=mkS (Lib.itoa e.1++[32]++dat e.2.1):=by conv=>lhs;rw[j];rw[Qjy]
 rw[a];have o:Q2 (Qi1 n e.1 e.2.1 (e.2.2.1.map Sd) (e.2.2.2.1.map I) e.2.2.2.2) n (mkS (Lib.itoa e.1++[32]++dat e.2.1),0)=_:=QmE n e.1 e.2.1 (e.2.2.2.1.map I) e.2.2.2.2 e.2.2.1 (by omega) e.2.2.1 0 _ n rfl (Nat.zero_le _) (by simp;omega) (by omega);rw[o,jBj];have p:Q2 (Qi0 n e.1 e.2.1 (e.2.2.1.map Sd) (e.2.2.2.1.map I) e.2.2.2.2) n (mkS (Lib.itoa e.1++[32]++dat e.2.1++Lib.joinTail [32] (e.2.2.1.map dat)),0)=_:=QmD h e.1 e.2.1 (e.2.2.1.map Sd) e.2.2.2.2 e.2.2.2.1 (by omega) b.val e.2.2.2.1 0 _ n rfl (Nat.zero_le _) (by simp;omega) (by omega);rw[p,jBj,<-f]
theorem Qmf {n:Nat}(m:3000<=n)(l:List Ev)(r:l.length<=2100)(p:∀e,e∈l->∃k,Good e k):∀(a:List Ev) (i:Nat) (s:Wrd) (K:Nat),l.drop i=a->i<=l.length->s.length<=310*i->a.length<K ->
  Q2 (QiY n (l.map Zr)) K (mkS s,(i:Int))=some (mkS (s++a.flatMap recL))
 | _,_,_,0,_,_,_,h=>absurd h (by omega)
 | [],i,s,K+1,hd,hi,_,_=>by
  have q:i=l.length:=by have:=List.drop_eq_nil_iff.1 hd;omega
  refine JB ?_;unfold QiY;dsimp only;rw[jFj (by rw[jlj];omega)];simp
 | x::a,i,s,K+1,hd,hi,hs,hK=>by
  obtain⟨g,o,d⟩:=QkA hd;obtain⟨k,j⟩:=p x (jgj o);have v:=Qki j;have u:=Qlm (QjR x);have y:=QmC j;have t:=Qmf m l r p a (i+1) (s++recL x) K d g (by simp;omega) (by simp at hK;omega);refine(E3 ?_).trans (t.trans (by simp));have c:(⟨#[35]⟩:jSj)=mkS [35]:=rfl;have b:(⟨#[10]⟩:jSj)=mkS [10]:=rfl;have f:el Ze (l.map Zr) (i:Int)=some (x.1,x.2.1,x.2.2.1.map Sd,x.2.2.2.1.map I,x.2.2.2.2):=by unfold el;rw[jTj (by omega),jtj,Ub,List.getElem?_map,o];rfl
  unfold QiY;dsimp only;rw[jTj (ZD o),f,jBj,Qmu m j,jBj,c,b,jTj (by rw[QiF,QiF];omega),Qjy,jTj (by rw[QiF,QiF];simp;omega),QlH m (by omega),jBj,Qjy,jTj (by rw[QiF,QiF];simp;omega),Qjy,jTj (by rw[QiF,QiF];simp;omega),jTj (i64 (by omega) (by omega)),Qjy];unfold recL;simp
theorem Qnq {n:Nat}(d:3000<=n)(l:List Ev)(c:l.length<=2100)(b:∀e,e∈l->∃k,Good e k):QjD n (l.map Zr)=some (mkS (l.flatMap recL)):=by unfold QjD;have h:Q2 (QiY n (l.map Zr)) n (mkS [],0)=_:=Qmf d l c b l 0 [] n rfl (Nat.zero_le _) (by simp) (by omega);have a : Q2 (QiY n (l.map Zr)) n (⟨#[]⟩,0)=_:=h;rw[a];simp
theorem QlK:∀{l:List Wrd} {vs:List Int},l.mapM num=some vs->vs.map Lib.itoa=l
 | [],vs,h=>by cases h;rfl
 | w::l,vs,h=>by
  rw[List.mapM_cons] at h;cases hw:num w with
  | none=>rw[hw] at h;cases h
  | some v =>
   rw[hw] at h;cases hl:l.mapM num with
   | none=>rw[hl] at h;cases h
   | some us =>
    rw[hl] at h;cases h;rw[jCj,(Qmg hw).1,QlK hl]
theorem QlI {l:Wrd}{e:Ev}(h:recX l=.inl e):recL e=l++[10]/\chk e=0:=by
 unfold recX at h;split at h
 ·cases h
 rename_i r;split at h;case isFalse=>cases h
 rename_i f;split at h;case isFalse=>cases h
 rename_i c;split at h
 ·cases h
 rename_i w wsx k;cases hn:num w with
 | none=>rw[hn] at h;cases h
 | some m =>
  cases ht:QjK wsx with
  | none=>rw[hn,ht] at h;cases h
  | some t =>
   rw[hn,ht] at h;dsimp only at h;split at h;case isFalse=>cases h
   rename_i hc;cases h;refine⟨?_,hc⟩;obtain⟨p,q,w0,d,rfl,n,s,i,j⟩:=Qlf ht;have a:QjP (evOf m t)=spl 32 (l.take (l.length - 8)):=by unfold QjP evOf;dsimp only;rw[k,(Qmg hn).1,QlM,QlK j,i,List.take_append_drop,n];show w::dat (mkS (kw t.1))::d=_;rw[show dat (mkS (kw t.1))=kw t.1 from Qjx _]
   have b:QjR (evOf m t)=l.take (l.length - 8):=by unfold QjR;rw[a,<-QlP,QjE]
   unfold recL;rw[b,c];congr 1
   have g:l.length - 8<l.length:=by omega
   have:=List.drop_eq_getElem_cons g;have o:l[l.length - 8]=35:=by have:=f.1;rw[jej g] at this;exact Option.some.inj this
   rw[o] at this;rw[<-this,List.take_append_drop]
theorem Qle:∀(L:List Wrd) (k:Nat) (e:Ev),e∈(recP L k).1->chk e=0
 | [],_,e,h=>by cases h
 | [p],_,e,h=>by cases h
 | p::q::L,k,e,h=>by
  unfold recP at h;cases hx:recX p with
  | inr _=>rw[hx] at h;cases h
  | inl ev =>
   rw[hx] at h;dsimp only at h;by_cases hev:ev.1=(k:Int)+1
   ·rw[jTj hev] at h;cases h with
    | head=>exact(QlI hx).2
    | tail _ h=>exact Qle (q::L) (k+1) e h
   ·rw[jFj hev] at h;cases h
def AllG (l:List Ev):Prop:=∀e,e∈l->∃k,Good e k
def Numd:Nat->List Ev->Prop
 | _,[]=>True
 | k,e::l=>e.1=(k:Int)+1/\Numd (k+1) l
def Qpp (b:Bool):Wrd:=if b=true then[102,105,108,108,101,100] else[101,109,112,116,121]
def Qp3 (b:Bool):Wrd:=if b=true then[116,114,105,112,112,101,100] else[114,101,97,100,121]
def Qph (r:Reg):List Wrd:=[Qpp r.filled,Qp3 r.tripped,Lib.itoa r.level]
def QpW (r:Reg):List Wrd:=[Lib.itoa (wz r)]
def Qpk (r:Reg):List Wrd:=(YQ r.mirrors).map dat
def Qpj (r:Reg):List Wrd:=[Lib.itoa r.light,Lib.itoa r.heat,Lib.itoa r.money]
def opOf (o:Off):List Wrd:=if o.2.2.2.2.2.2=true then[] else[dat o.1,Lib.itoa (Ws o)]
def Qop (r:Reg):List Wrd:=r.offers.flatMap opOf
def QpX (r:Reg)(a:jSj):List Wrd:=[Lib.itoa (mAt r.mirrors a).2.2.2.1]
def Qpi (r:Reg)(a:jSj):List Wrd:=[Lib.itoa (cntM a r.mirrors).1,Lib.itoa (cntM a r.mirrors).2]
theorem Qqj (n:Nat)(x:jSj)(a1 a2:jVj){c:Nat}{r:Reg}(b:Inv c r):QnR n x a1 a2 r.tick r.level r.filled r.tripped r.light r.heat r.money (r.sectors.map Sd) (r.mirrors.map QY) (r.offers.map Zj)=some ((Qph r).map eS):=by unfold QnR Qn9 Qph Qpp Qp3;have h:=Qnm n (a:=r.level) (i64 (by have:=b.level;omega) (by have:=b.level;omega));by_cases d:r.filled=true<;>by_cases e:r.tripped=true<;>simp only[d,e,if_true,Bool.false_eq_true,if_false,jBj,h]<;>rfl
theorem Qpx {c:Nat}{r:Reg}(a:Inv c r)(hc:c<=992):0<=wz r/\wz r<=4000000000:=by have h:=kl a.level a.mirs;have b:=a.lenM;unfold wz;omega
theorem Qqv {n:Nat}(d:3000<=n)(x:jSj)(a1 a2:jVj){c:Nat}{r:Reg}(a:Inv c r)(hc:c<=992):QnQ n x a1 a2 r.tick r.level r.filled r.tripped r.light r.heat r.money (r.sectors.map Sd) (r.mirrors.map QY) (r.offers.map Zj)=some ((QpW r).map eS):=by have b:=Qpx a hc;unfold QnQ QpW;rw[Qbc _ _ _ _ _ _ _ _ _ _ _ a.level _ a.mirs (by have:=a.lenM;omega) (by omega),jBj];show(Jk n (wz r)).bind _=_;rw[Qnm n (i64 (by omega) (by omega))];rfl
theorem Qp0 {n:Nat}(a1 a2:jVj)(a3 a4:Int)(a5 a6:Bool)(a7 a8 g:Int)(d f:jVj)(ms:List Mir)(o:ms.length<=4000)(j:ms.length<n) :
  Q2 (Qnw n a1 a2 a3 a4 a5 a6 a7 a8 g d (ms.map QY) f) n (.inl 0)=some (if ms.filter isA=[] then .inl () else .inr ((ms.filter isA).map QY)):=by
 have q:=ZK (step:=Qnw n a1 a2 a3 a4 a5 a6 a7 a8 g d (ms.map QY) f) (E:=Unit⊕jVj) (fun(s:List Mir) (m:Mir)=>.inl (if isA m=true then s++[m] else s)) (fun s=>if s=[] then .inl () else .inr (s.map QY))
  (fun i s=>if s=[] then .inl (i:Int) else .inr ((i:Int),s.map QY)) ms (fun i s=>s.length<=i)
  (fun i s m c p=>by
   have hi:=(jGj c).1;refine⟨?_,by
    show(if isA m=true then s++[m] else s).length<=i+1;split
    ·rw[jaj,List.length_singleton];omega
    ·omega⟩
   by_cases b:s=[]
   ·subst b;rw[jTj rfl];unfold Qnw;dsimp only;rw[jTj (ZD c),jTj ⟨Int.natCast_nonneg i,ZD c⟩,Q4 unM c,jBj];unfold isA;by_cases a:m.2.2.2.2.2=true
    ·rw[jTj a,jTj a,jTj (by unfold Qh;omega),jFj (by simp)];rfl
    ·rw[jFj a,jFj a,jTj (by unfold Qh;omega),jTj rfl];rfl
   ·rw[jFj b];unfold Qnw;dsimp only;rw[jTj (ZD c),jTj ⟨Int.natCast_nonneg i,ZD c⟩,Q4 unM c,jBj];unfold isA;by_cases a:m.2.2.2.2.2=true
    ·rw[jTj a,jTj a,jTj (V7 (by decide) (by rw[jlj];omega)),jTj (by unfold Qh;omega),jFj (by simp),List.map_append];rfl
    ·rw[jFj a,jFj a,jTj (by unfold Qh;omega),jFj b];rfl)
  (fun s _=>by
   by_cases b:s=[]
   ·subst b;rw[jTj rfl,jTj rfl];unfold Qnw;dsimp only;rw[jFj (by simp)]
   ·rw[jFj b,jFj b];unfold Qnw;dsimp only;rw[jFj (by simp)]) (s:=[]) (k:=n) (jLj _) j
 have e:∀(l:List Mir) (s:List Mir),Y6 (E:=Unit⊕jVj) (fun(s:List Mir) (m:Mir)=>.inl (if isA m=true then s++[m] else s)) (fun s=>if s=[] then .inl () else .inr (s.map QY)) l s=(if s++l.filter isA=[] then .inl () else .inr ((s++l.filter isA).map QY)):=by
  intro l;induction l with
  | nil=>intro s;simp[Y6]
  | cons x l ih =>
   intro s;show Y6 (E:=Unit⊕jVj) (fun(s:List Mir) (m:Mir)=>.inl (if isA m=true then s++[m] else s)) (fun s=>if s=[] then .inl () else .inr (s.map QY)) l (if isA x=true then s++[x] else s)=_;rw[ih];by_cases h:isA x=true
   ·rw[jTj h,List.filter_cons_of_pos h,List.append_assoc];rfl
   ·rw[jFj h,List.filter_cons_of_neg h]
 rw[e] at q;exact q
theorem Qqm {n:Nat}(g:3000<=n)(x:jSj)(a1 a2:jVj){c:Nat}{r:Reg}(f:Inv c r)(hc:c<=992):QnP n x a1 a2 r.tick r.level r.filled r.tripped r.light r.heat r.money (r.sectors.map Sd) (r.mirrors.map QY) (r.offers.map Zj)=some ((Qpk r).map eS):=by
 have e:=f.lenM;have d:(r.mirrors.filter isA).length<=r.mirrors.length:=List.length_filter_le _ _;unfold QnP Qpk;rw[Qp0 _ _ _ _ _ _ _ _ _ _ _ r.mirrors (by omega) (by omega),jBj,Qne];unfold YQ;by_cases b:r.mirrors.filter isA=[]
 ·rw[jTj b,b];rfl
 ·rw[jFj b];dsimp only;have q:=UV (step:=QnA n a1 a2 r.tick r.level r.filled r.tripped r.light r.heat r.money (r.sectors.map Sd) (r.mirrors.map QY) (r.offers.map Zj) ((r.mirrors.filter isA).map QY)) (E:=jVj) (fun out=>out) (r.mirrors.filter isA) (fun x=>[Sd x.1]) (fun _=>jLj _)
   (fun i out x a h=>by have hi:=(jGj a).1;unfold QnA ZN;dsimp only;rw[jTj (ZD a),jTj ⟨Int.natCast_nonneg i,ZD a⟩,Q4 unM a,jBj,jBj,jTj (V7 (by decide) (by omega)),jTj (by unfold Qh;omega)];rfl)
   (fun out _=>by unfold QnA;dsimp only;rw[jFj (by simp)]) (k:=n) (by omega)
  rw[q,jBj,wW,List.map_map];rfl
theorem QpR {c:Nat}{r:Reg}(a:Inv c r)(hc:c<=992):Qh r.money:=i64 (by have:=a.money;omega) (by have:=a.money;omega)
theorem Qql {n:Nat}(d:3000<=n)(x:jSj)(a1 a2:jVj){c:Nat}{r:Reg}(a:Inv c r)(hc:c<=992):QnO n x a1 a2 r.tick r.level r.filled r.tripped r.light r.heat r.money (r.sectors.map Sd) (r.mirrors.map QY) (r.offers.map Zj)=some ((Qpj r).map eS):=by
 unfold QnO Qpj;have h:=Qnf d [r.light,r.heat,r.money] (by simp) (fun v b=>by
  simp only[List.mem_cons,List.not_mem_nil,or_false] at b;obtain rfl|rfl|rfl:=b
  ·unfold Qh;have:=a.light;omega
  ·unfold Qh;have:=a.heat;omega
  ·exact QpR a hc)
 rw[show QiX n [I r.light,I r.heat,I r.money]=_ from h];rfl
def isOp (o:Off):Bool:=!o.2.2.2.2.2.2
def opW (o:Off):List Wrd:=[dat o.1,Lib.itoa (Ws o)]
theorem Qo4 (l:List Off):l.flatMap opOf=(l.filter isOp).flatMap opW:=by
 induction l with
 | nil=>rfl
 | cons o l ih =>
  rw[List.flatMap_cons,ih];unfold opOf;by_cases h:o.2.2.2.2.2.2=true
  ·rw[jTj h,List.filter_cons_of_neg (by simp[isOp,h])];rfl
  ·rw[jFj h,List.filter_cons_of_pos (by simp[isOp,h]),List.flatMap_cons];rfl
theorem Qpt {α:Type}{f:α->jVj}{l:List α}{i:Nat}{x:α}(h:l[i]?=some x):el QpJ (l.map fun x=>.lst false 1 (f x)) (i:Int)=some (f x):=by unfold el;rw[jTj (Int.natCast_nonneg i),jtj,Ub,List.getElem?_map,h];rfl
theorem Qp2 {n:Nat}{α:Type}(f:α->jVj)(l:List α)(C:l.length<=1000)(r:l.length<n)(q:∀x,x∈l->(f x).length<=2):QnV n (l.map fun x=>.lst false 1 (f x))=some (l.flatMap f):=by
 have y:∀(a:List α) (i s K:Nat),l.drop i=a->i<=l.length->s<=2*i->a.length<K->∃t:Nat,t<=2*l.length/\Q2 (QnB n (l.map fun x=>.lst false 1 (f x))) K ((s:Int),(i:Int))=some (t:Int)/\(l.flatMap f=[]\/True):=by
  intro a;induction a with
  | nil =>
   intro i s K b hi m e;obtain⟨K,rfl⟩:∃j,K=j+1:=⟨K - 1,by omega⟩
   have k:i=l.length:=by have:=List.drop_eq_nil_iff.1 b;omega
   refine⟨s,by omega,JB ?_,.inr trivial⟩;unfold QnB;dsimp only;rw[jFj (by rw[jlj];omega)]
  | cons x a ih =>
   intro i s K b hi m e;obtain⟨K,rfl⟩:∃j,K=j+1:=⟨K - 1,by omega⟩
   obtain⟨d,g,c⟩:=QkA b;have v:=q x (jgj g);obtain⟨t,u,o,A⟩:=ih (i+1) (s+(f x).length) K c d (by omega) (by simp at e;omega);refine⟨t,u,?_,A⟩;refine(E3 ?_).trans o;unfold QnB;dsimp only;rw[jTj (by rw[jlj];omega),Qpt g,jBj,jTj (i64 (by omega) (by omega)),jFj (by omega),jTj (i64 (by omega) (by omega))];rfl
 have z:Q2 (Qny n (l.map fun x=>.lst false 1 (f x))) n (0,[])=some (l.flatMap f):=by
  have main:∀(a:List α) (i:Nat) (acc:jVj) (K:Nat),l.drop i=a->i<=l.length->acc.length<=2*i->a.length<K->Q2 (Qny n (l.map fun x=>.lst false 1 (f x))) K ((i:Int),acc)=some (acc++a.flatMap f):=by
   intro a;induction a with
   | nil =>
    intro i acc K b hi m e;obtain⟨K,rfl⟩:∃j,K=j+1:=⟨K - 1,by omega⟩
    have k:i=l.length:=by have:=List.drop_eq_nil_iff.1 b;omega
    refine JB ?_;unfold Qny;dsimp only;rw[jFj (by rw[jlj];omega)];simp
   | cons x a ih =>
    intro i acc K b hi m e;obtain⟨K,rfl⟩:∃j,K=j+1:=⟨K - 1,by omega⟩
    obtain⟨d,g,c⟩:=QkA b;have v:=q x (jgj g);refine(E3 ?_).trans ((ih (i+1) (acc++f x) K c d (by simp;omega) (by simp at e;omega)).trans (by simp));unfold Qny;dsimp only;rw[jTj (by rw[jlj];omega),Qpt g,jBj,jTj (V7 (by decide) (by omega)),jTj (i64 (by omega) (by omega))];rfl
  exact(main l 0 [] n rfl (Nat.zero_le _) (Nat.zero_le _) r).trans (by simp)
 obtain⟨t,u,o,_⟩:=y l 0 0 n rfl (Nat.zero_le _) (Nat.zero_le _) r;have p : Q2 (QnB n (l.map fun x=>.lst false 1 (f x))) n (0,0)=some (t:Int):=o;unfold QnV;rw[p,jBj,jFj (by omega),jTj (i64 (by omega) (by omega)),z];by_cases h:((t:Int) - 0)>0
 ·rw[jTj h,jTj ⟨h,V7 (by decide) (by omega)⟩,jTj ⟨by decide,by omega⟩];rfl
 ·rw[jFj h];rfl
theorem Qp8 {n:Nat}(y:3000<=n)(x:jSj)(a1 a2:jVj){c:Nat}{r:Reg}(f:Inv c r)(hc:c<=992):QnN n x a1 a2 r.tick r.level r.filled r.tripped r.light r.heat r.money (r.sectors.map Sd) (r.mirrors.map QY) (r.offers.map Zj)=some ((Qop r).map eS):=by
 have p:=f.lenO;have m:(r.offers.filter isOp).length<=r.offers.length:=List.length_filter_le _ _;unfold QnN;have q:=UV (step:=Qnz n a1 a2 r.tick r.level r.filled r.tripped r.light r.heat r.money (r.sectors.map Sd) (r.mirrors.map QY) (r.offers.map Zj)) (E:=jVj) (fun out=>out) r.offers (fun o=>if isOp o=true then[Zj o] else[]) (fun o=>by split<;>simp)
  (fun i out o a s=>by
   have hi:=(jGj a).1;unfold Qnz QnW;dsimp only;rw[jTj (ZD a),jTj ⟨Int.natCast_nonneg i,ZD a⟩,Q4 unO a,jBj,jBj];unfold isOp;by_cases d:(!o.2.2.2.2.2.2)=true
   ·rw[jTj d,jTj d,jTj (V7 (by decide) (by omega)),jTj (by unfold Qh;omega)];rfl
   ·rw[jFj d,jFj d,jTj (by unfold Qh;omega),List.append_nil];rfl)
  (fun out _=>by unfold Qnz;dsimp only;rw[jFj (by simp)]) (k:=n) (by omega)
 have g:(r.offers.flatMap fun o=>if isOp o=true then[Zj o] else[])=(r.offers.filter isOp).map Zj:=by
  induction r.offers with
  | nil=>rfl
  | cons o l ih =>
   rw[List.flatMap_cons,ih];by_cases h:isOp o=true
   ·rw[jTj h,List.filter_cons_of_pos h];rfl
   ·rw[jFj h,List.filter_cons_of_neg h];rfl
 rw[q,jBj,g];have t:=UV (step:=QnF n ((r.offers.filter isOp).map Zj)) (E:=jVj) (fun out=>out) (r.offers.filter isOp) (fun o=>[.lst false 1 ((opW o).map eS)]) (fun _=>jLj _)
  (fun i out o a s=>by
   have hi:=(jGj a).1;have b:=f.offs o (List.mem_filter.1 (jgj a)).1;have u:=YF b;have e:el Z6 ((r.offers.filter isOp).map Zj) (i:Int)=some o:=Xr (un:=Z6) (enc:=Zj) unO a;unfold QnF QnS;dsimp only;rw[jTj (ZD a),e,jBj,Qag n b,jBj,Qnm n (i64 (by omega) (by omega)),jBj,jBj,jTj (V7 (by decide) (by omega)),jTj (by unfold Qh;omega)];have j:(opW o).map eS=[.v (.string o.1),eS (Lib.itoa (Ws o))]:=by show[eS (dat o.1),eS (Lib.itoa (Ws o))]=_;rw[show eS (dat o.1)=.v (.string o.1) by unfold eS dat;rw[yD]]
   rw[j];rfl)
  (fun out _=>by unfold QnF;dsimp only;rw[jFj (by simp)]) (k:=n) (by omega)
 unfold QnZ;rw[t,jBj,jBj,wW,Qp2 (fun o=>(opW o).map eS) _ (by omega) (by omega) (fun o _=>by simp[opW]),jBj];unfold Qop;rw[Qo4,List.map_flatMap]
theorem Qqw {n:Nat}(j:3000<=n)(a1 a2:jVj){c:Nat}{r:Reg}(e:Inv c r)(hc:c<=992){a:jSj}(h:Zu (nmM r.mirrors) a=true):QnM n a a1 a2 r.tick r.level r.filled r.tripped r.light r.heat r.money (r.sectors.map Sd) (r.mirrors.map QY) (r.offers.map Zj)=some ((QpX r a).map eS):=by have g:=e.lenM;obtain⟨f,i,d⟩:=WP h;have b:=e.mirs _ (jgj d);unfold okM at b;unfold QnM QpX;rw[UC r.mirrors (by omega) (by omega),jBj,Wb _ _ (by rw[Zo];omega) (by rw[Zo];omega),jBj,f,jTj (by rw[jlj];omega),Q4 unM d,jBj,Qnm n (i64 (by omega) (by omega))];rfl
theorem Qid (a:jSj)(ms:List Mir):(0<=(cntM a ms).1/\(cntM a ms).1<=(ms.length:Int))/\0<=(cntM a ms).2/\(cntM a ms).2<=(ms.length:Int):=by
 have main:∀(l:List Mir) (s:Int×Int) (i:Nat),((0<=s.1/\s.1<=(i:Int))/\0<=s.2/\s.2<=(i:Int))->(0<=(Y6 (E:=Int×Int) (fun s m=>.inl (cg a s m)) (fun s=>s) l s).1/\(Y6 (E:=Int×Int) (fun s m=>.inl (cg a s m)) (fun s=>s) l s).1<=((i+l.length:Nat):Int))/\0<=(Y6 (E:=Int×Int) (fun s m=>.inl (cg a s m)) (fun s=>s) l s).2/\(Y6 (E:=Int×Int) (fun s m=>.inl (cg a s m)) (fun s=>s) l s).2<=((i+l.length:Nat):Int):=by
  intro l;induction l with
  | nil=>intro s i h;exact h
  | cons m l ih =>
   intro s i h;have:=ih (cg a s m) (i+1) (QeN h);rw[show i+1+l.length=i+(m::l).length by simp;omega] at this;exact this
 have:=main ms (0,0) 0 ⟨⟨Int.le_refl _,Int.le_refl _⟩,Int.le_refl _,Int.le_refl _⟩;rw[Nat.zero_add] at this;exact this
theorem Qqk {n:Nat}(e:3000<=n)(a1 a2:jVj){c:Nat}{r:Reg}(f:Inv c r)(hc:c<=992)(a:jSj):QnL n a a1 a2 r.tick r.level r.filled r.tripped r.light r.heat r.money (r.sectors.map Sd) (r.mirrors.map QY) (r.offers.map Zj)=some ((Qpi r a).map eS):=by
 have d:=f.lenM;have g:=Qid a r.mirrors;unfold QnL Qpi;rw[QeM a r.mirrors (by omega) (by omega),jBj];have h:=Qnf e [(cntM a r.mirrors).1,(cntM a r.mirrors).2] (by simp) (fun v b=>by
  simp only[List.mem_cons,List.not_mem_nil,or_false] at b;obtain rfl|rfl:=b
  ·exact i64 (by omega) (by omega)
  ·exact i64 (by omega) (by omega))
 rw[show QiX n [I (cntM a r.mirrors).1,I (cntM a r.mirrors).2]=_ from h];rfl
def Qos:List Wrd:=[[115,116,97,116,101],[114,97,116,101],[97,105,109,101,100],[98,111,111,107,115],[111,102,102,101,114,115],[100,105,114,116],[99,111,117,110,116]]
theorem Qqy (k:Ki):∀q,q∈Qos->kw k≠q:=by cases k<;>decide
theorem Qoo {e:Ev}{k:Ki}(a:Good e k):Short e:=by
 have h:=Qnv k;have c:=a.names;have d:=a.vals;have f:=Qnr k;have g:=a.text;refine⟨?_,by omega,by omega,by omega,fun s b=>?_⟩
 ·rw[<-dlen];show e.2.1.data.toList.length<=40;rw[a.kind];omega
 ·have:=a.name s b;unfold Us at this;simp only[jAj,decide_eq_true_eq] at this;omega
theorem QpU {n:Nat}(c:3000<=n){l:Wrd}(a:0<l.length)(b:l.length<=2000):QF (decide (((mkS l).size:Int)>4096)) 26=0/\QF ((mkS l).toList==(⟨#[]⟩:jSj).toList) 25=0:=by
 refine⟨?_,?_⟩
 ·rw[QiF,jEj (by omega)];rfl
 ·rw[Ql5,jEj (fun e=>by rw[e] at a;simp at a)];rfl
def ansL (wsx:List Wrd):Wrd:=if wsx=[] then[110,111,110,101] else Lib.join wsx [32]
theorem Qqd (b:Nat)(wsx:List Wrd)(h:∀w,w∈wsx->w.length<=b):(Lib.join wsx [32]).length<=(b+1)*wsx.length:=by
 cases wsx with
 | nil=>simp[Lib.join_nil]
 | cons w l =>
  have c:=h w jMj;have d:=Ql8 b l fun x a=>h x (jmj _ a);rw[Lib.join_cons,jaj,List.length_cons,Nat.mul_add];omega
theorem QoU {S:Type}{n:Nat}{wsx:List Wrd}(a:S)(b:wsx.length<=1000)(c:∀w,w∈wsx->w.length<=900):(if((wsx.map eS).length:Int)=0 then some ((⟨#[110,111,110,101]⟩:jSj),(0:Int),a) else(Jj n (wsx.map eS) ⟨#[32]⟩).bind fun t=>some (t,0,a))=some (mkS (ansL wsx),0,a):=by
 unfold ansL;by_cases h:wsx=[]
 ·rw[jTj (by rw[h];rfl),jTj h];rfl
 ·have e:0<wsx.length:=List.length_pos_iff.2 h;have d:=Qqd 900 wsx c;have f:901*wsx.length<=901*1000:=Nat.mul_le_mul_left _ b;have:=Qng n wsx [32] (by omega) (by omega);rw[jFj (by rw[jlj];omega),jFj h,show Jj n (wsx.map eS) ⟨#[32]⟩=_ from this,jBj]
def SzR (r:Reg):Prop:=(∀m,m∈r.mirrors->m.1.size<=24)/\∀o,o∈r.offers->o.1.size<=24
theorem QpS {ns:List jSj}(h:∀s,s∈ns->s.size<=24)(i:Nat):(ns.getD i ⟨#[]⟩).size<=24:=by
 rw[List.getD_eq_getElem?_getD];cases hx:ns[i]? with
 | none=>show 0<=24;omega
 | some s=>exact h s (jgj hx)
theorem Qo2 {ms:List Mir}(h:∀m,m∈ms->m.1.size<=24)(a:jSj):(mAt ms a).1.size<=24:=by
 unfold mAt;rw[List.getD_eq_getElem?_getD];cases hx:ms[iM ms a]? with
 | none=>show zM.1.size<=24;decide
 | some s=>exact h s (jgj hx)
theorem Qqx {b:List Off}(h:∀m,m∈b->m.1.size<=24)(a:jSj):(oAt b a).1.size<=24:=by
 unfold oAt;rw[List.getD_eq_getElem?_getD];cases hx:b[iO b a]? with
 | none=>show zO.1.size<=24;decide
 | some s=>exact h s (jgj hx)
theorem Qqt {r:Reg}(l:SzR r)(k:Ki){ns:List jSj}(g:∀s,s∈ns->s.size<=24)(vs:List Int):SzR (act k r ns vs):=by
 obtain⟨b,c⟩:=l;have setM:∀{a:jSj} {m:Mir},m.1.size<=24->SzR (chgM r a m):=fun d=>⟨fun x e=>by
  obtain h|h:=List.mem_or_eq_of_mem_set e
  ·exact b x h
  ·rw[h];exact d,c⟩
 have setO:∀{a:jSj} {o:Off} {q:Reg},SzR q->o.1.size<=24->SzR (chgO q a o):=fun i d=>⟨i.1,fun x e=>by
  obtain h|h:=List.mem_or_eq_of_mem_set e
  ·exact i.2 x h
  ·rw[h];exact d⟩
 have mapM:∀{f:Mir->Mir},(∀m,(f m).1=m.1)->∀m,m∈r.mirrors.map f->m.1.size<=24:=fun j m d=>by obtain⟨x,e,rfl⟩:=List.mem_map.1 d;rw[j];exact b x e
 cases k<;>unfold act<;>dsimp only;case sector=>exact⟨b,c⟩
 case mirror =>
  refine⟨fun m d=>?_,c⟩;obtain h|h:=List.mem_append.1 d
  ·exact b m h
  ·rw[List.mem_singleton.1 h];exact QpS g 0
 case soil=>exact setM (Qo2 b _)
 case clean=>exact setM (Qo2 b _)
 case defect=>exact setM (Qo2 b _)
 case repair=>exact setM (Qo2 b _)
 case aim=>exact setM (Qo2 b _)
 case park=>exact setM (Qo2 b _)
 case dim=>exact⟨mapM fun m=>by unfold EN;split<;>rfl,c⟩
 case sun=>exact⟨b,c⟩
 case fill=>exact⟨b,c⟩
 case drain=>exact⟨b,c⟩
 case trip=>exact⟨mapM fun m=>rfl,c⟩
 case reset=>exact⟨b,c⟩
 case offer =>
  refine⟨b,fun m d=>?_⟩;obtain h|h:=List.mem_append.1 d
  ·exact c m h
  ·rw[List.mem_singleton.1 h];exact QpS g 0
 all_goals first|exact⟨b,c⟩|exact setO ⟨b,c⟩ (Qqx c _)
theorem Qp5 {l:List Ev}(h:OkL l):∀j,j<=l.length->SzR (QD (l.take j))
 | 0,_=>⟨fun m a=>(by cases a),fun m a=>(by cases a)⟩
 | j+1,hj=>by have d:=Qp5 h j (by omega);have c:l[j]?=some l[j]:=jej (by omega);obtain⟨k,_,b,_⟩:=h j _ c;rw[List.take_add_one,c];show SzR (QD (l.take j++[l[j]]));rw[GA,XR b];refine Qqt (r:=bkd _ _) ⟨d.1,d.2⟩ k (fun s e=>?_) _;have:=b.name s e;unfold Us at this;simp only[jAj,decide_eq_true_eq] at this;omega
theorem Qqs {l:List Ev}(h:OkL l):SzR (QD l):=by have:=Qp5 h l.length (jLj _);rwa [List.take_length] at this
theorem QnY {n:Int}(h:Qh n):(Lib.itoa n).length<=20:=by
 unfold Qh at h;unfold Lib.itoa;split
 ·have:=(Qmp n.natAbs).2.2.2.2 19 (by decide) (by omega);simp only[List.length_cons];omega
 ·have:=(Qmp n.toNat).2.2.2.2 19 (by decide) (by omega);omega
theorem Qqg {r:Reg}(h:SzR r):∀w,w∈Qpk r->w.length<=900:=fun w c=>by obtain⟨s,a,rfl⟩:=List.mem_map.1 c;unfold YQ at a;obtain⟨m,b,rfl⟩:=List.mem_map.1 a;have:=h.1 m (List.mem_filter.1 b).1;show m.1.data.toList.length<=900;rw[dlen];omega
theorem Qp1 {c:Nat}{r:Reg}(h:SzR r)(e:Inv c r):∀w,w∈Qop r->w.length<=900:=fun w a=>by
 unfold Qop at a;rw[Qo4] at a;obtain⟨o,b,a⟩:=List.mem_flatMap.1 a;have b:=(List.mem_filter.1 b).1;have f:=YF (e.offs o b);unfold opW at a;obtain d|d:=List.mem_cons.1 a
 ·rw[d];have:=h.2 o b;show o.1.data.toList.length<=900;rw[dlen];omega
 ·rw[List.mem_singleton.1 d];have:=QnY (n:=Ws o) (i64 (by omega) (by omega));omega
theorem QpE (r:Reg):(Qop r).length<=2*r.offers.length:=by
 unfold Qop;induction r.offers with
 | nil=>simp
 | cons o l ih =>
  rw[List.flatMap_cons,jaj,List.length_cons];have:(opOf o).length<=2:=by unfold opOf;split<;>simp
  omega
def askA (r:Reg)(b:Wrd):Option (Wrd×Int) :=
 match spl 32 b with
 | [w] =>
  if w=[115,116,97,116,101] then some (ansL (Qph r),0)
  else if w=[114,97,116,101] then some (ansL (QpW r),0)
  else if w=[97,105,109,101,100] then some (ansL (Qpk r),0)
  else if w=[98,111,111,107,115] then some (ansL (Qpj r),0)
  else if w=[111,102,102,101,114,115] then some (ansL (Qop r),0)
  else if w=[100,105,114,116]\/w=[99,111,117,110,116] then some ([],25)
  else none
 | [w,a] =>
  if w=[100,105,114,116] then some (if a=[] then([],25) else if Zu (nmM r.mirrors) (mkS a)=true then(ansL (QpX r (mkS a)),0) else([],10))
  else if w=[99,111,117,110,116] then some (if a=[] then([],25) else if Zu r.sectors (mkS a)=true then(ansL (Qpi r (mkS a)),0) else([],10))
  else if w∈Qos then some ([],25) else none
 | w::_=>if w∈Qos then some ([],25) else none
 | []=>none
theorem Qqz {n:Nat}(C:3000<=n){l:Wrd}(U:0<l.length)(M:l.length<=2000)(evs cnt:jVj){c:Nat}{r:Reg}(g:Inv c r)(hc:c<=992)(T:SzR r){a:Wrd×Int}(e:askA r l=some a) :
  Qnx n (mkS l) evs cnt r.tick r.level r.filled r.tripped r.light r.heat r.money (r.sectors.map Sd) (r.mirrors.map QY) (r.offers.map Zj)=some (mkS a.1,a.2,outA evs cnt r):=by
 obtain⟨z1,z2⟩:=QpU C U M;have W:=g.lenM;have Y:=g.lenO;have S:=g.secs;have G:=QlY (p:=l) M;unfold Qnx;rw[Zd,jBj,Zd,jBj,z1,z2,VE (by omega),jBj,jTj (by rfl),QmY C M,jBj];unfold askA at e;cases hs:spl 32 l with
 | nil=>exact absurd hs (QjB 32 l)
 | cons w wsx =>
  rw[hs] at e G;have O:el Ww ((w::wsx).map eS) 0=some (mkS w):=Qml (i:=0) rfl;have H:=G.1;simp only[List.length_cons] at H;have y:(0:Int)<=1/\1<=((((w::wsx).map eS)).length:Int)/\((((w::wsx).map eS)).length:Int)<=((((w::wsx).map eS)).length:Int)/\((w::wsx).map eS=[]\/1=1):=⟨by decide,by simp;omega,Int.le_refl _,.inr rfl⟩
  have N:((w::wsx).map eS).drop (Int.toNat 1)=wsx.map eS:=rfl;have Z:((wsx.map eS).length:Int)=(wsx.length:Int):=by rw[jlj]
  rw[O,jBj,Qjx,N];have many:∀{X:Option (jSj×Int×AddT)},wsx≠[]->(if(0:Int)<=1/\1<=((((w::wsx).map eS)).length:Int)/\((((w::wsx).map eS)).length:Int)<=((((w::wsx).map eS)).length:Int)/\((w::wsx).map eS=[]\/1=1) then(if((wsx.map eS).length:Int)>0 then some ((⟨#[]⟩:jSj),(25:Int),outA evs cnt r) else X) else none)=some (mkS [],25,outA evs cnt r):=fun J=>by have:0<wsx.length:=List.length_pos_iff.2 J;rw[jTj y,jTj (by omega)];rfl
  have f:∀{X:Option (jSj×Int×AddT)},wsx=[]->(if(0:Int)<=1/\1<=((((w::wsx).map eS)).length:Int)/\((((w::wsx).map eS)).length:Int)<=((((w::wsx).map eS)).length:Int)/\((w::wsx).map eS=[]\/1=1) then(if((wsx.map eS).length:Int)>0 then some ((⟨#[]⟩:jSj),(25:Int),outA evs cnt r) else X) else none)=X:=fun Q=>by rw[jTj y,jFj (by rw[Q];decide)]
  have m:∀{X:Option (jSj×Int×AddT)},wsx.length≠1->(if(0:Int)<=1/\1<=((((w::wsx).map eS)).length:Int)/\((((w::wsx).map eS)).length:Int)<=((((w::wsx).map eS)).length:Int)/\((w::wsx).map eS=[]\/1=1) then(if((wsx.map eS).length:Int)=1 then X else some ((⟨#[]⟩:jSj),(25:Int),outA evs cnt r)) else none)=some (mkS [],25,outA evs cnt r):=fun J=>by rw[jTj y,jFj (by omega)];rfl
  have L:∀{X:Option (jSj×Int×AddT)},wsx.length=1->(if(0:Int)<=1/\1<=((((w::wsx).map eS)).length:Int)/\((((w::wsx).map eS)).length:Int)<=((((w::wsx).map eS)).length:Int)/\((w::wsx).map eS=[]\/1=1) then(if((wsx.map eS).length:Int)=1 then X else some ((⟨#[]⟩:jSj),(25:Int),outA evs cnt r)) else none)=X:=fun Q=>by rw[jTj y,jTj (by omega)]
  by_cases j:w=[115,116,97,116,101]
  ·rw[jTj j];match wsx,e with
   | [],e =>
    dsimp only at e;rw[jTj j] at e;cases e;refine(f rfl).trans ?_;rw[Qqj n _ _ _ g,jBj];exact QoU (outA evs cnt r) (by simp[Qph]) (fun x q=>by
     simp only[Qph,List.mem_cons,List.not_mem_nil,or_false] at q;obtain rfl|rfl|rfl:=q
     ·unfold Qpp;split<;>decide
     ·unfold Qp3;split<;>decide
     ·have:=QnY (n:=r.level) (i64 (by have:=g.level;omega) (by have:=g.level;omega));omega)
   | [b],e =>
    dsimp only at e;rw[jFj (by rw[j];decide),jFj (by rw[j];decide),jTj (by rw[j];decide)] at e;cases e;exact many (by simp)
   | b::d::z,e =>
    dsimp only at e;rw[jTj (by rw[j];decide)] at e;cases e;exact many (by simp)
  rw[jFj j];by_cases k:w=[114,97,116,101]
  ·rw[jTj k];match wsx,e with
   | [],e =>
    dsimp only at e;rw[jFj j,jTj k] at e;cases e;refine(f rfl).trans ?_;rw[Qqv C _ _ _ g hc,jBj];have F:=Qpx g hc;exact QoU (outA evs cnt r) (by simp[QpW]) (fun x q=>by rw[show x=Lib.itoa (wz r) from List.mem_singleton.1 q];have:=QnY (n:=wz r) (i64 (by omega) (by omega));omega)
   | [b],e =>
    dsimp only at e;rw[jFj (by rw[k];decide),jFj (by rw[k];decide),jTj (by rw[k];decide)] at e;cases e;exact many (by simp)
   | b::d::z,e =>
    dsimp only at e;rw[jTj (by rw[k];decide)] at e;cases e;exact many (by simp)
  rw[jFj k];by_cases o:w=[97,105,109,101,100]
  ·rw[jTj o];match wsx,e with
   | [],e =>
    dsimp only at e;rw[jFj j,jFj k,jTj o] at e;cases e;refine(f rfl).trans ?_;rw[Qqm C _ _ _ g hc,jBj];exact QoU (outA evs cnt r) (by unfold Qpk YQ;have:(r.mirrors.filter isA).length<=r.mirrors.length:=List.length_filter_le _ _;simp only[jlj];omega) (Qqg T)
   | [b],e =>
    dsimp only at e;rw[jFj (by rw[o];decide),jFj (by rw[o];decide),jTj (by rw[o];decide)] at e;cases e;exact many (by simp)
   | b::d::z,e =>
    dsimp only at e;rw[jTj (by rw[o];decide)] at e;cases e;exact many (by simp)
  rw[jFj o];by_cases s:w=[98,111,111,107,115]
  ·rw[jTj s];match wsx,e with
   | [],e =>
    dsimp only at e;rw[jFj j,jFj k,jFj o,jTj s] at e;cases e;refine(f rfl).trans ?_;rw[Qql C _ _ _ g hc,jBj];exact QoU (outA evs cnt r) (by simp[Qpj]) (fun x q=>by
     simp only[Qpj,List.mem_cons,List.not_mem_nil,or_false] at q;obtain rfl|rfl|rfl:=q
     ·have:=QnY (n:=r.light) (by unfold Qh;have:=g.light;omega);omega
     ·have:=QnY (n:=r.heat) (by unfold Qh;have:=g.heat;omega);omega
     ·have:=QnY (QpR g hc);omega)
   | [b],e =>
    dsimp only at e;rw[jFj (by rw[s];decide),jFj (by rw[s];decide),jTj (by rw[s];decide)] at e;cases e;exact many (by simp)
   | b::d::z,e =>
    dsimp only at e;rw[jTj (by rw[s];decide)] at e;cases e;exact many (by simp)
  rw[jFj s];by_cases u:w=[111,102,102,101,114,115]
  ·rw[jTj u];match wsx,e with
   | [],e =>
    dsimp only at e;rw[jFj j,jFj k,jFj o,jFj s,jTj u] at e;cases e;refine(f rfl).trans ?_;rw[Qp8 C _ _ _ g hc,jBj];exact QoU (outA evs cnt r) (by have:=QpE r;omega) (Qp1 T g)
   | [b],e =>
    dsimp only at e;rw[jFj (by rw[u];decide),jFj (by rw[u];decide),jTj (by rw[u];decide)] at e;cases e;exact many (by simp)
   | b::d::z,e =>
    dsimp only at e;rw[jTj (by rw[u];decide)] at e;cases e;exact many (by simp)
  rw[jFj u];by_cases A:w=[100,105,114,116]
  ·rw[jTj A];match wsx,e with
   | [],e =>
    dsimp only at e;rw[jFj j,jFj k,jFj o,jFj s,jFj u,jTj (.inl A)] at e;cases e;exact m (by simp)
   | [b],e =>
    dsimp only at e;rw[jTj A] at e;cases e;refine(L rfl).trans ?_;have F:el Ww (([b]:List Wrd).map eS) 0=some (mkS b):=Qml (i:=0) rfl;rw[F,jBj,Ql5];by_cases v:b=[]
    ·rw[jTj (jDj v),jTj v];rfl
    rw[jFj (by simpa using v),jFj v,UC r.mirrors (by omega) (by omega),jBj,W4 _ _ (by rw[Zo];omega) (by rw[Zo];omega),jBj];by_cases t:Zu (nmM r.mirrors) (mkS b)=true
    ·rw[jTj t,jTj t,Qqw C _ _ g hc t,jBj];obtain⟨_,_,V⟩:=WP t;have P:=g.mirs _ (jgj V);unfold okM at P;exact QoU (outA evs cnt r) (by simp[QpX]) (fun x q=>by rw[show x=Lib.itoa (mAt r.mirrors (mkS b)).2.2.2.1 from List.mem_singleton.1 q];have:=QnY (n:=(mAt r.mirrors (mkS b)).2.2.2.1) (i64 (by omega) (by omega));omega)
    ·rw[jFj t,jFj t];rfl
   | b::d::z,e =>
    dsimp only at e;rw[jTj (by rw[A];decide)] at e;cases e;exact m (by simp)
  rw[jFj A];by_cases E:w=[99,111,117,110,116]
  ·rw[jTj E];match wsx,e with
   | [],e =>
    dsimp only at e;rw[jFj j,jFj k,jFj o,jFj s,jFj u,jTj (.inr E)] at e;cases e;exact m (by simp)
   | [b],e =>
    dsimp only at e;rw[jFj A,jTj E] at e;cases e;refine(L rfl).trans ?_;have F:el Ww (([b]:List Wrd).map eS) 0=some (mkS b):=Qml (i:=0) rfl;rw[F,jBj,Ql5];by_cases v:b=[]
    ·rw[jTj (jDj v),jTj v];rfl
    rw[jFj (by simpa using v),jFj v,W4 r.sectors _ (by omega) (by omega),jBj];by_cases t:Zu r.sectors (mkS b)=true
    ·rw[jTj t,jTj t,Qqk C _ _ g hc,jBj];have F:=Qid (mkS b) r.mirrors;exact QoU (outA evs cnt r) (by simp[Qpi]) (fun x q=>by
      simp only[Qpi,List.mem_cons,List.not_mem_nil,or_false] at q;obtain rfl|rfl:=q
      ·have:=QnY (n:=(cntM (mkS b) r.mirrors).1) (i64 (by omega) (by omega));omega
      ·have:=QnY (n:=(cntM (mkS b) r.mirrors).2) (i64 (by omega) (by omega));omega)
    ·rw[jFj t,jFj t];rfl
   | b::d::z,e =>
    dsimp only at e;rw[jTj (by rw[E];decide)] at e;cases e;exact m (by simp)
  have K:¬w∈Qos:=fun h=>by
   simp only[Qos,List.mem_cons,List.not_mem_nil,or_false] at h;obtain h|h|h|h|h|h|h:=h
   ·exact j h
   ·exact k h
   ·exact o h
   ·exact s h
   ·exact u h
   ·exact A h
   ·exact E h
  match wsx,e with
  | [],e=>dsimp only at e;rw[jFj j,jFj k,jFj o,jFj s,jFj u,jFj (fun h=>h.elim A E)] at e;cases e
  | [b],e=>dsimp only at e;rw[jFj A,jFj E,jFj K] at e;cases e
  | b::d::z,e=>dsimp only at e;rw[jFj K] at e;cases e
theorem Qqi {n:Nat}(t:3000<=n)(l:List Ev)(v:l.length<=1000)(s:AllG l)(a1:jVj)(a2 a3:Int)(a4 a5:Bool)(a6 a7 a8:Int)(r b c:jVj):QnJ n (l.map Zr) a1 a2 a3 a4 a5 a6 a7 a8 r b c=some (mkS (l.flatMap recL)):=by
 unfold QnJ;have q:=UV (step:=QnE n (l.map Zr) a1 a2 a3 a4 a5 a6 a7 a8 r b c) (E:=jVj) (fun out=>out) l (fun e=>[eS (recL e)]) (fun _=>jLj _)
  (fun i out e a y=>by have hi:=(jGj a).1;obtain⟨k,o⟩:=s e (jgj a);unfold QnE;dsimp only;rw[jTj (ZD a),jTj ⟨Int.natCast_nonneg i,ZD a⟩,QeQ a,jBj,Qma t o,jBj,jTj (V7 (by decide) (by omega)),jTj (by unfold Qh;omega)];rfl)
  (fun out _=>by unfold QnE;dsimp only;rw[jFj (by simp)]) (k:=n) (by omega)
 have f:∀m:List Ev,AllG m->(m.flatMap recL).length<=310*m.length:=by
  intro m;induction m with
  | nil=>intro _;simp
  | cons e m ih =>
   intro h;obtain⟨k,o⟩:=h e jMj;have:=QmC o;have:=ih fun x a=>h x (jmj _ a);rw[List.flatMap_cons,jaj,List.length_cons];omega
 have d:∀L:List Wrd,Lib.join L []=L.flatten:=by
  intro L;induction L with
  | nil=>rfl
  | cons p L ih =>
   cases L with
   | nil=>simp[Lib.join,List.intercalate]
   | cons q L =>
    rw[Lib.join_cons,Lib.joinTail];simp
 have u:=f l s;have g:=Qng n (l.map recL) [] (by rw[jlj];omega) (by rw[d,<-List.flatMap_def];omega);rw[d,<-List.flatMap_def] at g;rw[q,jBj,wW];have j : Jj n (l.map fun e=>eS (recL e)) ⟨#[]⟩=some (mkS (l.flatMap recL)):=by rw[List.map_map] at g;exact g
 rw[j];rfl
theorem Qrt (n:Nat)(a:Int):∀(k u:Nat) (t:Wrd),u<10 ^ k->u<1000000000000000000->t.length+k<=100 ->
  Q2 (QiW n a) (k+1) (mkS t,(u:Int))=some (mkS (decZ u++t))
 | 0,u,t,hu,_,_=>by
  have:u=0:=by simpa using hu
  subst this;refine JB ?_;unfold QiW;rfl
 | k+1,u,t,hu,hb,ht=>by
  by_cases e:u=0
  ·subst e;refine JB ?_;unfold QiW;rfl
  ·have h:u % 10<10:=Nat.mod_lt _ (by decide);have i:=Qrt n a k (u / 10) (UInt8.ofNat (48+u % 10)::t) (by rw[Nat.pow_succ] at hu;omega) (by omega) (by simp;omega);have c:decZ u++t=decZ (u / 10)++(UInt8.ofNat (48+u % 10)::t):=by rw[QmT e];simp
   rw[c,<-i];refine E3 ?_;have d:(mkS [UInt8.ofNat (48+u % 10)]).size+(mkS t).size<=9223372036854775807:=by rw[QiF,QiF];simp;omega
   have b:mkS [UInt8.ofNat (48+u % 10)]++mkS t=mkS (UInt8.ofNat (48+u % 10)::t):=Qjy _ _;unfold QiW;have f:Int.tmod (u:Int) 10=((u % 10:Nat):Int):=rfl;have g:Int.tdiv (u:Int) 10=((u / 10:Nat):Int):=rfl;dsimp only;rw[jFj (by omega),f,g,jFj (by omega),Qm6 h,jTj (by unfold Qh;omega),jTj d,jTj (by unfold Qh;omega),b]
theorem Qru (n:Nat)(a:Int):∀(k u:Nat) (t:Wrd),u<10 ^ k->u<1000000000000000000->t.length+k<=100 ->
  Q2 (QiW n a) (k+1) (mkS t,-(u:Int))=some (mkS (decZ u++t))
 | 0,u,t,hu,_,_=>by
  have:u=0:=by simpa using hu
  subst this;refine JB ?_;unfold QiW;rfl
 | k+1,u,t,hu,hb,ht=>by
  by_cases f:u=0
  ·subst f;refine JB ?_;unfold QiW;rfl
  ·have g:u % 10<10:=Nat.mod_lt _ (by decide);have j:=Qru n a k (u / 10) (UInt8.ofNat (48+u % 10)::t) (by rw[Nat.pow_succ] at hu;omega) (by omega) (by simp;omega);have c:decZ u++t=decZ (u / 10)++(UInt8.ofNat (48+u % 10)::t):=by rw[QmT f];simp
   rw[c,<-j];refine E3 ?_;have d:(mkS [UInt8.ofNat (48+u % 10)]).size+(mkS t).size<=9223372036854775807:=by rw[QiF,QiF];simp;omega
   have b:mkS [UInt8.ofNat (48+u % 10)]++mkS t=mkS (UInt8.ofNat (48+u % 10)::t):=Qjy _ _;unfold QiW;have h:Int.tmod (-(u:Int)) 10=-((u % 10:Nat):Int):=by rw[Int.neg_tmod];rfl
   have i:Int.tdiv (-(u:Int)) 10=-((u / 10:Nat):Int):=by rw[Int.neg_tdiv];rfl
   dsimp only;rw[jFj (by omega),h,i];by_cases l:u % 10=0
   ·have e:(48:Int)+-((u % 10:Nat):Int)=48+((u % 10:Nat):Int):=by omega
    rw[jFj (by omega),e,Qm6 g,jTj (by unfold Qh;omega),jTj d,jTj (by unfold Qh;omega),b]
   ·have e:(0:Int) - -((u % 10:Nat):Int)=((u % 10:Nat):Int):=by omega
    rw[jTj (by omega),e,Qm6 g,jTj (by unfold Qh;omega),jTj (by unfold Qh;omega),jTj d,jTj (by unfold Qh;omega),b]
theorem QrU {n:Int}(h:n<0):Lib.itoa n=45::Lib.decDigits (-n).toNat:=by unfold Lib.itoa;rw[jTj h,show n.natAbs=(-n).toNat by omega]
theorem QrG (u:Nat):∀k,u<10 ^ k->(decZ u).length<=k
 | 0,h=>by
  have:u=0:=by simpa using h
  subst this;simp[decZ]
 | k+1,h=>by
  by_cases a:u=0
  ·subst a;simp[decZ]
  ·rw[QmT a,jaj];have:=QrG (u / 10) k (by rw[Nat.pow_succ] at h;omega);simp;omega
theorem Qr0 {n:Nat}(p:3000<=n){a:Int}(m : -1000000000000000000<a)(o:a<1000000000000000000):QjH n a=some (mkS (Lib.itoa a)):=by
 unfold QjH;by_cases i:a=0
 ·subst i;have g:Lib.itoa 0=[48]:=by rw[Qk7 (by decide)];show Lib.decDigits 0=_;rw[Lib.decDigits,dif_pos (by decide)];rfl
  rw[jTj rfl,g];rfl
 ·rw[jFj i];obtain⟨k,j⟩:∃k,n=19+k:=⟨n - 19,by omega⟩
  by_cases c:a<0
  ·have e:=Qru n a 18 (-a).toNat [] (by simp;omega) (by omega) (by simp);rw[show -((-a).toNat:Int)=a by omega] at e;have b:=Qlh _ _ e k;rw[<-j] at b;have f:decZ (-a).toNat=Lib.decDigits (-a).toNat:=by unfold decZ;rw[jFj (by omega)]
   have h:=QrG (-a).toNat 18 (by simp;omega);rw[List.append_nil,f] at b;rw[f] at h;have d:Q2 (QiW n a) n (⟨#[]⟩,a)=_:=b;have l:(⟨#[45]⟩:jSj)=mkS [45]:=rfl;rw[d,jBj,jTj c,QrU c,l,jTj (by rw[QiF,QiF];simp;omega),Qjy];rfl
  ·have e:=Qrt n a 18 a.toNat [] (by simp;omega) (by omega) (by simp);rw[show(a.toNat:Int)=a by omega] at e;have b:=Qlh _ _ e k;rw[<-j] at b;have f:decZ a.toNat=Lib.decDigits a.toNat:=by unfold decZ;rw[jFj (by omega)]
   rw[List.append_nil,f] at b;have d:Q2 (QiW n a) n (⟨#[]⟩,a)=_:=b;rw[d,jBj,jFj (by omega),Qk7 (by omega)]
theorem Qrn {n:Nat}(d:3000<=n){a:Int}(b : -1000000000000000000<a)(c:a<1000000000000000000):Qjm n a=some (mkS (Lib.itoa a)):=by unfold Qjm;rw[Qr0 d b c];rfl
theorem Qex {n:Nat}(a:jSj){a0 a1:Int}{a2 a3:Bool}{a4 a5 a6:Int}{a7 e:jVj}(ms:List Mir)(p:ms.length<=4000)(h:ms.length<n):Qd8 n a0 a1 a2 a3 a4 a5 a6 a7 (ms.map QY) e a=some (cntM a ms):=by
 unfold Qd8;have q:=ZK (step:=Qd4 n a0 a1 a2 a3 a4 a5 a6 a7 (ms.map QY) e a) (E:=Int×Int) (fun(s:Int×Int) (m:Mir)=>.inl (cg a s m)) (fun s=>s) (fun i s=>(((i:Int),s.1,s.2):Int×Int×Int)) ms (fun i s=>(0<=s.1/\s.1<=(i:Int))/\0<=s.2/\s.2<=(i:Int))
  (fun i s m d f=>by
   have hi:=(jGj d).1;refine⟨?_,QeN f⟩;obtain⟨⟨b1,j⟩,l,o⟩:=f;unfold Qd4;dsimp only;rw[jTj (ZD d),Xr unM d,jBj];by_cases b:m.2.1=a
   ·rw[jTj (by rw[XZ,jDj b]),jTj (by unfold Qh;omega)];by_cases c:m.2.2.2.2.2=true
    ·rw[jTj c,jTj (by unfold Qh;omega),jTj (by unfold Qh;omega),show cg a s m=(s.1+1,s.2+1) from by unfold cg isA;rw[jTj b,jTj c]];rfl
    ·rw[jFj c,jTj (by unfold Qh;omega),show cg a s m=(s.1+1,s.2) from by unfold cg isA;rw[jTj b,jFj c]];rfl
   ·rw[jFj (by rw[XZ,jEj b];decide),jTj (by unfold Qh;omega),show cg a s m=s from by unfold cg;rw[jFj b]];rfl)
  (fun s _=>by unfold Qd4;dsimp only;rw[jFj (by simp)]) (s:=(0,0)) (by simp) (k:=n) h
 exact(congrArg (fun x:Option (Int×Int)=>x.bind fun g=>some (g.1,g.2)) q)
theorem Qrs {n:Nat}(wsx:List Wrd)(j:wsx.length<=1000)(f:∀w,w∈wsx->w.length<=900):∀(a:List Wrd) (t:Wrd) (i k:Nat),wsx.drop i=a->i<=wsx.length->t.length<=901*i->a.length<k ->
  Q2 (Qq6 n (wsx.map eS)) k (mkS t,(i:Int))=some (mkS (t++Lib.joinTail [32] a))
 | _,_,_,0,_,_,_,hk=>absurd hk (by omega)
 | [],t,i,k+1,hd,hi,_,_=>by
  have h:i=wsx.length:=by have:=List.drop_eq_nil_iff.1 hd;omega
  refine JB ?_;unfold Qq6;dsimp only;rw[jFj (by rw[jlj];omega)];simp[Lib.joinTail]
 | w::a,t,i,k+1,hd,hi,ht,hk=>by
  obtain⟨d,e,c⟩:=QkA hd;have l:=f w (jgj e);have b:(t++32::w).length<=901*(i+1):=by rw[jaj,List.length_cons];omega
  rw[E3 (s':=(mkS (t++32::w),((i+1:Nat):Int)))]
  ·rw[Qrs wsx j f a (t++32::w) (i+1) k c d b (by simp at hk;omega)];simp[Lib.joinTail]
  ·unfold Qq6;dsimp only;have g:(⟨#[32]⟩:jSj)=mkS [32]:=rfl;rw[jTj (by rw[jlj];omega),g,jTj (by rw[QiF,QiF];simp;omega),Qml e,jBj,Qjy,jTj (by rw[QiF,QiF];simp;omega),Qjy,jTj (by unfold Qh;omega),List.append_assoc];rfl
theorem Qrh {n:Nat}(f:3000<=n)(wsx:List Wrd)(a:wsx.length<=1000)(b:∀w,w∈wsx->w.length<=900):Qq2 n (wsx.map eS)=some (mkS (ansL wsx)):=by
 unfold Qq2 ansL;cases wsx with
 | nil=>rfl
 | cons w l =>
  have e:=b w jMj;have d:=Qrs (n:=n) (w::l) a b l w 1 n rfl (by simp) (by omega) (by simp at a;omega);have c:el Ww ((w::l).map eS) 0=some (mkS w):=Qml (i:=0) rfl;rw[jFj (by simp;omega),c,jBj,show Q2 (Qq6 n ((w::l).map eS)) n (mkS w,1)=_ from d,jBj,jFj (by simp),Lib.join_cons]
theorem QrA {n:Nat}(h:3000<=n){a0 a1:Int}{a2 a3:Bool}{a4 a5 a6:Int}{a7 a8:jVj}(c:List Off)(p:c.length<=99)(j:∀o,o∈c->okO o):∀(a:List Off) (out:List Wrd) (i k:Nat),c.drop i=a->i<=c.length->out.length<=2*i->a.length<k ->
  Q2 (Qra n a0 a1 a2 a3 a4 a5 a6 a7 a8 (c.map Zj)) k ((i:Int),out.map eS)=some ((out++a.flatMap opOf).map eS)
 | _,_,_,0,_,_,_,hk=>absurd hk (by omega)
 | [],out,i,k+1,hd,hi,_,_=>by
  have m:i=c.length:=by have:=List.drop_eq_nil_iff.1 hd;omega
  refine JB ?_;unfold Qra;dsimp only;rw[jFj (by rw[jlj];omega)];simp
 | o::a,out,i,k+1,hd,hi,ht,hk=>by
  obtain⟨f,g,e⟩:=QkA hd;have d:=j o (jgj g);have r:=(YF d).1;have q:=QrA h (a0:=a0) (a1:=a1) (a2:=a2) (a3:=a3) (a4:=a4) (a5:=a5) (a6:=a6) (a7:=a7) (a8:=a8) c p j a (out++opOf o) (i+1) k e f (by rw[jaj];unfold opOf;split<;>simp<;>omega) (by simp at hk;omega);rw[E3 (s':=(((i+1:Nat):Int),(out++opOf o).map eS)),q]
  ·simp
  ·unfold Qra;dsimp only;rw[jTj (by rw[jlj];omega),Xr unO g,jBj];unfold opOf;by_cases b:o.2.2.2.2.2.2=true
   ·rw[jTj b,jTj b,jTj (by unfold Qh;omega),List.append_nil];rfl
   ·rw[jFj b,jFj b,zx n d,jBj,Qrn h (by omega) (by omega),jBj,jTj (V7 (by decide) (by rw[jlj];omega)),jTj (by unfold Qh;omega),List.map_append];have l:mkS (dat o.1)=o.1:=by simp[mkS,dat]
    simp only[jCj,jnj];unfold eS;rw[l];rfl
theorem kwP {w:Wrd}{l:Array UInt8}(h:w=l.toList):((mkS w).toList==(⟨l⟩:jSj).toList)=true:=by rw[kq,Qjx];exact h
theorem kwN {w:Wrd}{l:Array UInt8}(h:w≠l.toList):¬(((mkS w).toList==(⟨l⟩:jSj).toList)=true):=by rw[kq,Qjx];exact h
theorem Qrg {n:Nat}{L:jVj}{x:Wrd}(h:Qq2 n L=some (mkS x)):((Qq2 n L).bind fun t=>some (t,(0:Int)))=some (mkS x,0):=by rw[h];rfl
theorem st_j {n c:Nat}(g:3000<=n){r:Reg}(b:Inv c r){b1 a:Bool}(e:r.filled=b1)(f:r.tripped=a):Qq2 n ([Qpp b1,Qp3 a,Lib.itoa r.level].map eS)=some (mkS (ansL (Qph r))):=by
 subst e;subst f;exact Qrh g (Qph r) (by simp[Qph]) (fun x d=>by
  simp only[Qph,List.mem_cons,List.not_mem_nil,or_false] at d;obtain rfl|rfl|rfl:=d
  ·unfold Qpp;split<;>decide
  ·unfold Qp3;split<;>decide
  ·have:=QnY (n:=r.level) (i64 (by have:=b.level;omega) (by have:=b.level;omega));omega)
theorem bk_j {n c:Nat}(d:3000<=n){r:Reg}(a:Inv c r)(hc:c<=992):Qq2 n ([Lib.itoa r.light,Lib.itoa r.heat,Lib.itoa r.money].map eS)=some (mkS (ansL (Qpj r))) :=
 Qrh d (Qpj r) (by simp[Qpj]) (fun x b=>by
  simp only[Qpj,List.mem_cons,List.not_mem_nil,or_false] at b;obtain rfl|rfl|rfl:=b
  ·have:=QnY (n:=r.light) (by unfold Qh;have:=a.light;omega);omega
  ·have:=QnY (n:=r.heat) (by unfold Qh;have:=a.heat;omega);omega
  ·have:=QnY (n:=r.money) (QpR a hc);omega)
theorem QrZ {n:Nat}(a:3000<=n){v:Int}(h:Qh v):Qq2 n ([Lib.itoa v].map eS)=some (mkS (ansL [Lib.itoa v])) :=
 Qrh a [Lib.itoa v] (by simp) (fun x b=>by rw[show x=Lib.itoa v from List.mem_singleton.1 b];have:=QnY h;omega)
theorem Qr4 {n:Nat}(b:3000<=n){u v:Int}(c:Qh u)(h:Qh v):Qq2 n ([Lib.itoa u,Lib.itoa v].map eS)=some (mkS (ansL [Lib.itoa u,Lib.itoa v])) :=
 Qrh b [Lib.itoa u,Lib.itoa v] (by simp) (fun x a=>by
  simp only[List.mem_cons,List.not_mem_nil,or_false] at a;obtain rfl|rfl:=a
  ·have:=QnY c;omega
  ·have:=QnY h;omega)
theorem QrN {n:Nat}(f:3000<=n){l:Wrd}(M:l.length<=2000){c:Nat}{r:Reg}(g:Inv c r)(hc:c<=992)(K:SzR r){a:Wrd×Int}(e:askA r l=some a) :
  Qrd n r.tick r.level r.filled r.tripped r.light r.heat r.money (r.sectors.map Sd) (r.mirrors.map QY) (r.offers.map Zj) (mkS l)=some (mkS a.1,a.2):=by
 have S:=g.lenM;have T:=g.lenO;have J:=g.secs;unfold Qrd;have G:Qi4 n (mkS l) 32=some ((spl 32 l).map eS):=QkR f 32 M;rw[G,jBj];unfold askA at e;cases hs:spl 32 l with
 | nil=>exact absurd hs (QjB 32 l)
 | cons w wsx =>
  rw[hs] at e;have E:el Ww ((w::wsx).map eS) 0=some (mkS w):=Qml (i:=0) rfl;have C:(((w::wsx).map eS).length:Int)=(wsx.length:Int)+1:=by simp
  rw[E,jBj,C];by_cases j:w=[115,116,97,116,101]
  ·rw[jTj (kwP j)];match wsx,e with
   | [],e =>
    dsimp only at e;rw[jTj j] at e;cases e;rw[jTj (by simp only[List.length_cons,List.length_nil];omega),jFj (kwN (by rw[j];decide))];rw[Qrn f (by have:=g.level;omega) (by have:=g.level;omega),jBj];by_cases y:r.filled=true
    ·rw[jTj y];by_cases t:r.tripped=true
     ·rw[jTj t];exact Qrg (st_j f g y t)
     ·rw[jFj t];exact Qrg (st_j f g y (Bool.eq_false_iff.2 t))
    ·rw[jFj y];by_cases t:r.tripped=true
     ·rw[jTj t];exact Qrg (st_j f g (Bool.eq_false_iff.2 y) t)
     ·rw[jFj t];exact Qrg (st_j f g (Bool.eq_false_iff.2 y) (Bool.eq_false_iff.2 t))
   | [b],e =>
    dsimp only at e;rw[jFj (by rw[j];decide),jFj (by rw[j];decide),jTj (by rw[j];decide)] at e;cases e;rw[jFj (by simp only[List.length_cons,List.length_nil];omega)];rfl
   | b::d::z,e =>
    dsimp only at e;rw[jTj (by rw[j];decide)] at e;cases e;rw[jFj (by simp only[List.length_cons,List.length_nil];omega)];rfl
  rw[jFj (kwN j)];by_cases k:w=[114,97,116,101]
  ·rw[jTj (kwP k)];match wsx,e with
   | [],e =>
    dsimp only at e;rw[jFj j,jTj k] at e;cases e;rw[jTj (by simp only[List.length_cons,List.length_nil];omega),jFj (kwN (by rw[k];decide))];have A:=Qpx g hc;rw[ww _ _ _ _ _ _ _ _ _ g.level _ g.mirs (by omega) (by omega),jBj,show UR r.level r.mirrors=wz r from rfl,Qrn f (by omega) (by omega),jBj];exact Qrg (QrZ f (by unfold Qh;omega))
   | [b],e =>
    dsimp only at e;rw[jFj (by rw[k];decide),jFj (by rw[k];decide),jTj (by rw[k];decide)] at e;cases e;rw[jFj (by simp only[List.length_cons,List.length_nil];omega)];rfl
   | b::d::z,e =>
    dsimp only at e;rw[jTj (by rw[k];decide)] at e;cases e;rw[jFj (by simp only[List.length_cons,List.length_nil];omega)];rfl
  rw[jFj (kwN k)];by_cases m:w=[97,105,109,101,100]
  ·rw[jTj (kwP m)];match wsx,e with
   | [],e =>
    dsimp only at e;rw[jFj j,jFj k,jTj m] at e;cases e;rw[jTj (by simp only[List.length_cons,List.length_nil];omega),jFj (kwN (by rw[m];decide))];rw[zy _ (by omega) (by omega),jBj,<-Qne];exact Qrg (Qrh f (Qpk r) (by unfold Qpk;rw[jlj];unfold YQ;rw[jlj];exact Nat.le_trans (List.length_filter_le _ _) (by omega)) (Qqg K))
   | [b],e =>
    dsimp only at e;rw[jFj (by rw[m];decide),jFj (by rw[m];decide),jTj (by rw[m];decide)] at e;cases e;rw[jFj (by simp only[List.length_cons,List.length_nil];omega)];rfl
   | b::d::z,e =>
    dsimp only at e;rw[jTj (by rw[m];decide)] at e;cases e;rw[jFj (by simp only[List.length_cons,List.length_nil];omega)];rfl
  rw[jFj (kwN m)];by_cases o:w=[98,111,111,107,115]
  ·rw[jTj (kwP o)];match wsx,e with
   | [],e =>
    dsimp only at e;rw[jFj j,jFj k,jFj m,jTj o] at e;cases e;rw[jTj (by simp only[List.length_cons,List.length_nil];omega),jFj (kwN (by rw[o];decide))];have O:=g.light;have P:=g.heat;have Q:=g.money;rw[Qrn f (by omega) (by omega),jBj,Qrn f (by omega) (by omega),jBj,Qrn f (by omega) (by omega),jBj];exact Qrg (bk_j f g hc)
   | [b],e =>
    dsimp only at e;rw[jFj (by rw[o];decide),jFj (by rw[o];decide),jTj (by rw[o];decide)] at e;cases e;rw[jFj (by simp only[List.length_cons,List.length_nil];omega)];rfl
   | b::d::z,e =>
    dsimp only at e;rw[jTj (by rw[o];decide)] at e;cases e;rw[jFj (by simp only[List.length_cons,List.length_nil];omega)];rfl
  rw[jFj (kwN o)];by_cases p:w=[111,102,102,101,114,115]
  ·rw[jTj (kwP p)];match wsx,e with
   | [],e =>
    dsimp only at e;rw[jFj j,jFj k,jFj m,jFj o,jTj p] at e;cases e;rw[jTj (by simp only[List.length_cons,List.length_nil];omega),jFj (kwN (by rw[p];decide))];have q:=QrA f (a0:=r.tick) (a1:=r.level) (a2:=r.filled) (a3:=r.tripped) (a4:=r.light) (a5:=r.heat) (a6:=r.money) (a7:=r.sectors.map Sd) (a8:=r.mirrors.map QY) r.offers (by omega) g.offs r.offers [] 0 n rfl (by omega) (by simp) (by omega);rw[List.nil_append] at q;have U:Q2 (Qra n r.tick r.level r.filled r.tripped r.light r.heat r.money (r.sectors.map Sd) (r.mirrors.map QY) (r.offers.map Zj)) n (0,[])=some ((Qop r).map eS):=q;rw[U,jBj];exact Qrg (Qrh f (Qop r) (Nat.le_trans (QpE r) (by omega)) (Qp1 K g))
   | [b],e =>
    dsimp only at e;rw[jFj (by rw[p];decide),jFj (by rw[p];decide),jTj (by rw[p];decide)] at e;cases e;rw[jFj (by simp only[List.length_cons,List.length_nil];omega)];rfl
   | b::d::z,e =>
    dsimp only at e;rw[jTj (by rw[p];decide)] at e;cases e;rw[jFj (by simp only[List.length_cons,List.length_nil];omega)];rfl
  rw[jFj (kwN p)];by_cases s:w=[100,105,114,116]
  ·rw[jTj (kwP s)];match wsx,e with
   | [],e =>
    dsimp only at e;rw[jFj j,jFj k,jFj m,jFj o,jFj p,jTj (.inl s)] at e;cases e;rw[jFj (by simp only[List.length_cons,List.length_nil];omega)];rfl
   | [b],e =>
    dsimp only at e;rw[jTj s] at e;cases e;have A:el Ww (([w,b]:List Wrd).map eS) 1=some (mkS b):=Qml (i:=1) rfl;rw[jTj (by simp only[List.length_cons,List.length_nil];omega),A,jBj];by_cases u:b=[]
    ·rw[jTj (kwP u),jTj u];rfl
    rw[jFj (kwN u),jFj u,yT _ _ (by omega) (by omega),jBj];by_cases v:Zu (nmM r.mirrors) (mkS b)=true
    ·obtain⟨L,N,H⟩:=WP v;have F:=g.mirs _ (jgj H);unfold okM at F;rw[jTj v,jFj (by omega),L,Xr unM H,jBj,Qrn f (by omega) (by omega),jBj];exact Qrg (QrZ f (by unfold Qh;omega))
    ·rw[jFj v,jTj (wh v)];rfl
   | b::d::z,e =>
    dsimp only at e;rw[jTj (by rw[s];decide)] at e;cases e;rw[jFj (by simp only[List.length_cons,List.length_nil];omega)];rfl
  rw[jFj (kwN s)];by_cases x:w=[99,111,117,110,116]
  ·rw[jTj (kwP x)];match wsx,e with
   | [],e =>
    dsimp only at e;rw[jFj j,jFj k,jFj m,jFj o,jFj p,jTj (.inr x)] at e;cases e;rw[jFj (by simp only[List.length_cons,List.length_nil];omega)];rfl
   | [b],e =>
    dsimp only at e;rw[jFj s,jTj x] at e;cases e;have A:el Ww (([w,b]:List Wrd).map eS) 1=some (mkS b):=Qml (i:=1) rfl;rw[jTj (by simp only[List.length_cons,List.length_nil];omega),A,jBj];by_cases u:b=[]
    ·rw[jTj (kwP u),jTj u];rfl
    rw[jFj (kwN u),jFj u,at_s _ _ (by omega) (by omega),jBj];by_cases v:Zu r.sectors (mkS b)=true
    ·have A:=Qid (mkS b) r.mirrors;rw[jTj v,jFj (EY v),Qex _ _ (by omega) (by omega),jBj,Qrn f (by omega) (by omega),jBj,Qrn f (by omega) (by omega),jBj];exact Qrg (Qr4 f (by unfold Qh;omega) (by unfold Qh;omega))
    ·rw[jFj v,jTj (wh v)];rfl
   | b::d::z,e =>
    dsimp only at e;rw[jTj (by rw[x];decide)] at e;cases e;rw[jFj (by simp only[List.length_cons,List.length_nil];omega)];rfl
  exfalso;match wsx,e with
  | [],e =>
   dsimp only at e;rw[jFj j,jFj k,jFj m,jFj o,jFj p,jFj (by rintro(h|h);exact s h;exact x h)] at e;cases e
  | [b],e =>
   dsimp only at e;rw[jFj s,jFj x,jFj (by simp[Qos,j,k,m,o,p,s,x])] at e;cases e
  | b::d::z,e =>
   dsimp only at e;rw[jFj (by simp[Qos,j,k,m,o,p,s,x])] at e;cases e
theorem QrI {w:Wrd}(h:(VY (.string (mkS w)) tab2).isSome=true):w∈Qos:=by
 obtain⟨x,a⟩:=kA _ _ h;unfold tab2 at a;simp only[List.mem_cons,D.tup.injEq,List.cons.injEq,D.v.injEq,Value.string.injEq,List.not_mem_nil,or_false] at a;have c:∀{b:jSj},mkS w=b->w=b.data.toList:=fun e=>by rw[<-e,Qjx]
 unfold Qos;obtain h|h|h|h|h|h|h:=a<;>rw[c h.1]<;>decide
theorem QrW {r:Reg}{l w:Wrd}{wsx:List Wrd}(g:spl 32 l=w::wsx):askA r l=none↔w∉Qos:=by
 unfold askA;rw[g];match wsx with
 | [] =>
  dsimp only;constructor
  ·intro h a;simp only[Qos,List.mem_cons,List.not_mem_nil,or_false] at a;obtain rfl|rfl|rfl|rfl|rfl|rfl|rfl:=a<;>simp at h
  ·intro a;simp only[Qos,List.mem_cons,List.not_mem_nil,or_false,not_or] at a;obtain⟨i,j,k,m,n,c,f⟩:=a;rw[jFj i,jFj j,jFj k,jFj m,jFj n,jFj (by rintro(h|h);exact c h;exact f h)]
 | [b] =>
  dsimp only;constructor
  ·intro h a;simp only[Qos,List.mem_cons,List.not_mem_nil,or_false] at a;obtain rfl|rfl|rfl|rfl|rfl|rfl|rfl:=a<;>simp[Qos] at h
  ·intro a;have c:w≠[100,105,114,116]:=fun e=>a (by rw[e];decide);have f:w≠[99,111,117,110,116]:=fun e=>a (by rw[e];decide);rw[jFj c,jFj f,jFj a]
 | b::d::z =>
  dsimp only;constructor
  ·intro h a;rw[jTj a] at h;cases h
  ·intro a;rw[jFj a]
def evP (i:Nat)(t:Tri):Ev:=((i:Int)+1,mkS (kw t.1),t.2.1.map mkS,t.2.2,⟨#[]⟩)
def doA (i:Nat)(cnt:List Ev)(l:Wrd):Option Ev×Wrd×Int :=
 if l.length>4096 then(none,[],26)
 else if l=[] then(none,[],25)
 else match askA (QD cnt) l with
  | some a=>(none,a.1,a.2)
  | none=>match yJ ((spl 32 l).headD []) with
   | none=>(none,[],13)
   | some _=>match QjK (spl 32 l) with
    | none=>(none,[],25)
    | some t=>if YM i cnt (evP i t)=0 then(some (evP i t),[100,111,110,101,32]++Lib.itoa ((i:Int)+1),0) else(none,[],YM i cnt (evP i t))
theorem QrE (i:Nat)(t:Tri):(evP i t).2.2.1.map Sd=t.2.1.map eS:=by unfold evP;rw[List.map_map];rfl
theorem QrD {n i:Nat}(k:3000<=n){L:List Wrd}(d:OkW L){t:Tri}(hp:QjK L=some t):Shw n (evP i t):=by
 obtain⟨g,h,w,b,f,_,_,c,_⟩:=Qlf hp;have j:=Qnv t.1;refine⟨?_,?_,fun s e=>?_⟩
 ·show(t.2.1.map mkS).length<=6;rw[jlj];omega
 ·show t.2.2.length<=8;omega
 ·obtain⟨x,a,rfl⟩:=List.mem_map.1 (show s∈t.2.1.map mkS from e);rw[c] at a;have:=d.2 x (by rw[f];exact jmj _ (List.mem_of_mem_take a));rw[QiF];omega
theorem QrY {n:Nat}(o:3000<=n){evs cnt:List Ev}(E:OkL cnt)(hc:cnt.length<=980)(U:evs.length<=980){l:Wrd}(V:l.length<=2000\/l.length=4097) :
  Qnx n (mkS l) (evs.map Zr) (cnt.map Zr) (QD cnt).tick (QD cnt).level (QD cnt).filled (QD cnt).tripped (QD cnt).light (QD cnt).heat (QD cnt).money ((QD cnt).sectors.map Sd) ((QD cnt).mirrors.map QY) ((QD cnt).offers.map Zj) =
   some (mkS (doA evs.length cnt l).2.1,(doA evs.length cnt l).2.2,match (doA evs.length cnt l).1 with
    | none=>outA (evs.map Zr) (cnt.map Zr) (QD cnt)
    | some e=>outA (evs.map Zr++[Zr e]) ((VO cnt e).map Zr) (QD (VO cnt e))):=by
 unfold doA;by_cases C:l.length>4096
 ·have z:QF (decide (((mkS l).size:Int)>4096)) 26=26:=by rw[QiF,jDj (by omega)];rfl
  have A:QF ((mkS l).toList==(⟨#[]⟩:jSj).toList) 25=0:=by rw[Ql5,jEj (fun e=>by rw[e] at C;simp at C)];rfl
  unfold Qnx;rw[jTj C,Zd,jBj,Zd,jBj,z,A,VE (by omega),jBj,jFj (by decide)];rfl
 rw[jFj C];have j:l.length<=2000:=by omega
 by_cases G:l=[]
 ·subst G;have z:QF (decide (((mkS []).size:Int)>4096)) 26=0:=by rw[QiF];rfl
  have A:QF ((mkS []).toList==(⟨#[]⟩:jSj).toList) 25=25:=by rw[Ql5,jDj rfl];rfl
  unfold Qnx;rw[jTj rfl,Zd,jBj,Zd,jBj,z,A,VE (by omega),jBj,jFj (by decide)];rfl
 rw[jFj G];have O:0<l.length:=List.length_pos_iff.2 G;have s:=GG E (by omega);cases ha:askA (QD cnt) l with
 | some a=>exact Qqz o O j (evs.map Zr) (cnt.map Zr) s (by omega) (Qqs E) ha
 | none =>
  dsimp only;obtain⟨w,wsx,F⟩:∃w wsx,spl 32 l=w::wsx:=by
   cases h:spl 32 l with
   | nil=>exact absurd h (QjB 32 l)
   | cons w wsx=>exact⟨w,wsx,rfl⟩
  have m:=(QrW (r:=QD cnt) F).1 ha;have H:el Ww ((w::wsx).map eS) 0=some (mkS w):=Qml (i:=0) rfl;have d:=QlY (p:=l) j;rw[F] at d;obtain⟨z,A⟩:=QpU o O j;rw[F];unfold Qnx;rw[Zd,jBj,Zd,jBj,z,A,VE (by omega),jBj,jTj (by rfl),QmY o j,F,jBj,H,jBj,Qjx];rw[jFj (fun e=>m (by rw[e];decide)),jFj (fun e=>m (by rw[e];decide)),jFj (fun e=>m (by rw[e];decide)),jFj (fun e=>m (by rw[e];decide)),jFj (fun e=>m (by rw[e];decide)),jFj (fun e=>m (by rw[e];decide)),jFj (fun e=>m (by rw[e];decide))];rw[jTj (fun h=>m (QrI h))];have J:(w::wsx).headD []=w:=rfl;rw[J];cases hkd:yJ w with
  | none =>
   rw[jFj (fun h=>by obtain⟨k,u⟩:=Qby h;rw[Qjx] at u;exact kE hkd k u)]
   rfl
  | some k =>
   obtain⟨S,f,g,T⟩:=QcY (a:=mkS w) (k:=k) (by rw[Qjx];exact qM hkd);have N:QF (decide ((((evs.map Zr).length:Nat):Int)>=1000)) 5=0:=by rw[jEj (by rw[jlj];omega)];rfl
   rw[jTj S,T,jBj,jTj (i64 (by omega) (by rw[jlj];omega))];cases hp:QjK (w::wsx) with
   | none =>
    have L:=(Qm5 (w::wsx)).2 hp;rw[Qm4 o _ d,jBj];have K:∀x:jSj×List Wrd×List Int×Bool,evX (w::wsx)=some x->x.2.2.2=false:=fun x M=>L x.1 x.2.1 x.2.2.1 x.2.2.2 M;cases hev:evX (w::wsx) with
    | none =>
     dsimp only;rw[Zd,jBj,Zd,jBj,show QF (!false) 25=25 from rfl,N,VE (by omega),jBj,jFj (by decide)];rfl
    | some x =>
     have:=K x hev;dsimp only;rw[this,Zd,jBj,Zd,jBj,show QF (!false) 25=25 from rfl,N,VE (by omega),jBj,jFj (by decide)];rfl
   | some t =>
    have L:=(Qm5 (w::wsx)).1 t.1 t.2.1 t.2.2 hp;have v:=QrD (i:=evs.length) o d hp;have hev:Qjz n (((evs.map Zr).length:Int)+1) ((w::wsx).map eS)=some ((evP evs.length t).1,(evP evs.length t).2.1,(evP evs.length t).2.2.1.map Sd,(evP evs.length t).2.2.2.1.map I,(evP evs.length t).2.2.2.2,true):=by rw[Qm4 o _ d,L,QrE,jlj];rfl
    have c:(evs.map Zr).length=evs.length:=jlj _;rw[hev,jBj];dsimp only;rw[Zd,jBj,Zd,jBj,show QF (!true) 25=0 from rfl,N,VE (by omega),jBj,jTj (by rfl),V3 (by omega) _ v,jBj];by_cases y:chk (evP evs.length t)=0
    ·rw[jTj y,Qal (by omega) E (by omega) (by rw[c];omega) y,jBj,c];by_cases b:YM evs.length cnt (evP evs.length t)=0
     ·have q:=addE (n:=n) (by omega) E (by omega) (evs:=evs.map Zr) (by rw[c];omega) v (by rw[c];exact b);have P:(⟨#[100,111,110,101,32]⟩:jSj)=mkS [100,111,110,101,32]:=rfl;have Q:=Qmh (n:=(evs.length:Int)+1) (by omega) (by omega);rw[jTj b,jTj b,q,jBj,show(evP evs.length t).1=(evs.length:Int)+1 from rfl,Qnm n (i64 (by omega) (by omega)),jBj,P,jTj (by rw[QiF,QiF];simp;omega),Qjy]
     ·rw[jFj b,jFj b];rfl
    ·have b:YM evs.length cnt (evP evs.length t)=chk (evP evs.length t):=by unfold YM;rw[jFj y]
     rw[jFj y,b,jFj y];rfl
theorem QrO (n:Nat)(w:Wrd):Qrc n (mkS w)=some (yJ w).isSome:=by
 unfold Qrc;cases hk:yJ w with
 | none=>rw[Qdb n (a:=mkS w) (by rw[Qjx];exact hk),jBj];rfl
 | some k=>rw[JF n (a:=mkS w) (k:=k) (by rw[Qjx];exact qM hk),jBj];rfl
theorem QrM {n:Nat}(g:3000<=n){l:Wrd}(f:l.length<=2000){w:Wrd}{wsx:List Wrd}(h:spl 32 l=w::wsx)(a:w∉Qos)(a0 a1:Int)(a2 a3:Bool)(a4 a5 a6:Int)(a7 a8 d:jVj) :
  Qrd n a0 a1 a2 a3 a4 a5 a6 a7 a8 d (mkS l)=some (⟨#[]⟩,13):=by
 unfold Qrd;have c:Qi4 n (mkS l) 32=some ((spl 32 l).map eS):=QkR g 32 f;have b:el Ww ((w::wsx).map eS) 0=some (mkS w):=Qml (i:=0) rfl;rw[c,jBj,h,b,jBj];rw[jFj (kwN (fun e=>a (by rw[e];decide))),jFj (kwN (fun e=>a (by rw[e];decide))),jFj (kwN (fun e=>a (by rw[e];decide))),jFj (kwN (fun e=>a (by rw[e];decide))),jFj (kwN (fun e=>a (by rw[e];decide))),jFj (kwN (fun e=>a (by rw[e];decide))),jFj (kwN (fun e=>a (by rw[e];decide)))]
theorem QrT {w:Wrd}(h:w∈Qos):yJ w=none:=by
 cases hk:yJ w with
 | none=>rfl
 | some k=>exact absurd (qM hk).symm (Qqy k w h)
def doR (o:Option Ev×Wrd×Int):Int×jSj×jVj×jVj×jSj×Bool×jSj×Int:=match o.1 with
 | none=>(0,⟨#[]⟩,[],[],⟨#[]⟩,false,mkS o.2.1,o.2.2)
 | some e=>(e.1,e.2.1,e.2.2.1.map Sd,e.2.2.2.1.map I,e.2.2.2.2,true,mkS o.2.1,o.2.2)
theorem Qr2 {n:Nat}(g:3000<=n){evs cnt:List Ev}(F:rep 0 [] evs=.inr cnt)(q:∀e,e∈evs->Shw n e)(E:OkL cnt)(hc:cnt.length<=980)(K:evs.length<=980){l:Wrd}(L:l.length<=2000\/l.length=4097) :
  Qrf n (evs.map Zr) (mkS l)=some (doR (doA evs.length cnt l)):=by
 unfold doA Qrf;by_cases C:l.length>4096
 ·rw[jTj C,jTj (by rw[QiF];omega)];rfl
 rw[jFj C,jFj (by rw[QiF];omega)];have c:l.length<=2000:=by omega
 by_cases s:l=[]
 ·rw[jTj s,jTj (kwP s)];rfl
 rw[jFj s,jFj (kwN s)];have o:=GG E (by omega);have z:Qi4 n (mkS l) 32=some ((spl 32 l).map eS):=QkR g 32 c;obtain⟨w,wsx,j⟩:∃w wsx,spl 32 l=w::wsx:=by
  cases h:spl 32 l with
  | nil=>exact absurd h (QjB 32 l)
  | cons w wsx=>exact⟨w,wsx,rfl⟩
 have u:el Ww ((w::wsx).map eS) 0=some (mkS w):=Qml (i:=0) rfl;have v:(w::wsx).headD []=w:=rfl;rw[yp (by omega) evs (by omega) q,F,jBj,z,jBj,j,u,jBj,QrO,jBj,v];cases ha:askA (QD cnt) l with
 | some a =>
  have y:w∈Qos:=by
   by_cases h:w∈Qos
   ·exact h
   ·rw[(QrW j).2 h] at ha;cases ha
  rw[QrT y,jFj (by decide)];exact(congrArg (fun x:Option (jSj×Int)=>x.bind fun G=>some ((0:Int),(⟨#[]⟩:jSj),([]:jVj),([]:jVj),(⟨#[]⟩:jSj),false,G.1,G.2)) (QrN g c o (by omega) (Qqs E) ha))
 | none =>
  have y:=(QrW (r:=QD cnt) j).1 ha;dsimp only;cases hkd:yJ w with
  | none =>
   rw[jFj (by decide),QrM g c j y,jBj];rfl
  | some k =>
   rw[jTj (show(some k).isSome=true from rfl),QmQ g c,jBj,j];cases hp:QjK (w::wsx) with
   | none =>
    dsimp only;rw[jFj (by decide)];rfl
   | some t =>
    have m:=QlY (p:=l) c;rw[j] at m;have A:=QrD (i:=evs.length) g m hp;have d:=QfF (n:=n) (by omega) evs (by omega) q (evP evs.length t) A;rw[F,QrE] at d;have f:Qfd n (evs.map Zr) ((evs.length:Int)+1) (mkS (kw t.1)) (t.2.1.map eS) (t.2.2.map I) ⟨#[]⟩=some (YM evs.length cnt (evP evs.length t)):=d;dsimp only;rw[jTj rfl,jlj,jFj (by omega),jTj (i64 (by omega) (by omega)),f,jBj];by_cases b:YM evs.length cnt (evP evs.length t)=0
    ·have H:(⟨#[100,111,110,101,32]⟩:jSj)=mkS [100,111,110,101,32]:=rfl;have J:=Qmh (n:=(evs.length:Int)+1) (by omega) (by omega);rw[jTj b,jTj b,Qrn g (by omega) (by omega),jBj,H,jTj (by rw[QiF,QiF];simp;omega),Qjy];unfold doR;dsimp only;rw[QrE];rfl
    ·rw[jFj b,jFj b];rfl
theorem Qry:∀(l s:List Ev),Y6 (E:=jVj) (fun(s:List Ev) (e:Ev)=>.inl (s++[e])) (fun s=>s.map Zr) l s=(s++l).map Zr
 | [],s=>by simp[Y6]
 | e::l,s=>by show Y6 _ _ l (s++[e])=_;rw[Qry l (s++[e])];simp
theorem QrK {n:Nat}(o:3000<=n)(l:List Ev)(g:∀e,e∈l->e.2.2.1.length<=60/\e.2.2.2.1.length<=60)(m:l.length<=990)(a1:jVj)(a2 a3:Int)(a4 a5:Bool)(a6 a7 a8:Int)(d a b:jVj) :
  Qq3 n (l.map Zr) a1 a2 a3 a4 a5 a6 a7 a8 d a b=some (l.map Zr):=by
 have q:=ZK (step:=Qq4 n (l.map Zr) a1 a2 a3 a4 a5 a6 a7 a8 d a b) (E:=jVj) (fun(s:List Ev) (e:Ev)=>.inl (s++[e])) (fun s=>s.map Zr) (fun i s=>((i:Int),s.map Zr)) l (fun i s=>s.length=i)
  (fun i s e c hi=>by have f:=(jGj c).1;obtain⟨b1,j⟩:=g e (jgj c);refine⟨?_,by show(s++[e]).length=i+1;rw[jaj,hi];rfl⟩;unfold Qq4;dsimp only;rw[jTj (ZD c),jTj ⟨Int.natCast_nonneg i,ZD c⟩,QeQ c,jBj];dsimp only;rw[jTj (by rw[jlj];omega),jTj (by rw[jlj];omega),jTj (V7 (by decide) (by rw[jlj];omega)),jTj (by unfold Qh;omega),uF,uF,List.map_append];rfl)
  (fun s _=>by unfold Qq4;dsimp only;rw[jFj (by simp)]) (s:=[]) rfl (k:=n) (by omega)
 rw[Qry] at q;unfold Qq3;exact(congrArg (fun x:Option (jVj)=>x.bind fun h=>some h) q)
theorem QrV {i:Nat}{cnt:List Ev}{l:Wrd}{e:Ev}(h:(doA i cnt l).1=some e):YM i cnt e=0/\∃t,QjK (spl 32 l)=some t/\e=evP i t:=by
 unfold doA at h;split at h
 ·cases h
 split at h
 ·cases h
 split at h
 ·cases h
 split at h
 ·cases h
 split at h
 ·cases h
 rename_i t hp;split at h
 ·rename_i a;cases h;exact⟨a,t,hp,rfl⟩
 ·cases h
abbrev SesT:=jVj×Int×jVj×jVj×jVj×jVj×jVj×Int×Int×Bool×Bool×Int×Int×Int
def Qrl (l cnt:List Ev)(i:Nat):SesT:=(l.map Zr,(i:Int),l.map Zr,cnt.map Zr,(QD cnt).sectors.map Sd,(QD cnt).mirrors.map QY,(QD cnt).offers.map Zj,(QD cnt).tick,(QD cnt).level,(QD cnt).filled,(QD cnt).tripped,(QD cnt).light,(QD cnt).heat,(QD cnt).money)
def fnS (l cnt:List Ev):jVj×jVj×jVj×jVj×jVj×jVj×Int×Int×Bool×Bool×Int×Int×Int:=(l.map Zr,l.map Zr,cnt.map Zr,(QD cnt).sectors.map Sd,(QD cnt).mirrors.map QY,(QD cnt).offers.map Zj,(QD cnt).tick,(QD cnt).level,(QD cnt).filled,(QD cnt).tripped,(QD cnt).light,(QD cnt).heat,(QD cnt).money)
structure SesI (n:Nat) (l cnt:List Ev):Prop where
 rep:rep 0 [] l=.inr cnt
 shw:∀e,e∈l->Shw n e
theorem QrR {n:Nat}(g:3000<=n){l cnt:List Ev}(h:SesI n l cnt){w:Wrd}(c:w.length<=2000\/w.length=4097){e:Ev}(b:(doA l.length cnt w).1=some e):SesI n (l++[e]) (VO cnt e):=by
 obtain⟨f,t,i,rfl⟩:=QrV b;have d:w.length<=2000:=by
  obtain c|c:=c
  ·exact c
  ·unfold doA at b;rw[jTj (by omega)] at b;cases b
 refine⟨?_,fun x a=>?_⟩
 ·rw[Qgk,h.rep];dsimp only;rw[Nat.zero_add,jTj f]
 ·obtain a|a:=List.mem_append.1 a
  ·exact h.shw x a
  ·rw[List.mem_singleton.1 a];exact QrD g (QlY (p:=w) d) i
theorem Qr1 {n:Nat}{l cnt:List Ev}(h:SesI n l cnt):OkL cnt/\cnt.length<=l.length:=by have:=Qaq l [] 0 cnt Jx (by simp) h.rep;simpa using this
theorem QrQ {n:Nat}(f:3000<=n){l cnt:List Ev}(h:SesI n l cnt)(p:l.length<=900){w:Wrd}(g:w.length<=2000\/w.length=4097){i:Nat}(hi:i<=100){α:Type} :
  ∃j c,SesI n j c/\j.length<=l.length+1/\((Qrf n (l.map Zr) (mkS w)).bind fun b =>
  (Qnx n (mkS w) (l.map Zr) (cnt.map Zr) (QD cnt).tick (QD cnt).level (QD cnt).filled (QD cnt).tripped (QD cnt).light (QD cnt).heat (QD cnt).money ((QD cnt).sectors.map Sd) ((QD cnt).mirrors.map QY) ((QD cnt).offers.map Zj)).bind fun a =>
  if a.2.1=b.2.2.2.2.2.2.2 then
   if(!(a.1.toList==b.2.2.2.2.2.2.1.toList))=true then
    none
   else
   if b.2.2.2.2.2.1=true then
    if Wa 88 (0+(l.map Zr).length) then
    if Wa 88 ((l.map Zr).length+1) then
    if Qh ((i:Int)+1) then
    some (.inl (((l.map Zr)++([.agg [I b.1,.v (.string b.2.1),.lst false 1 b.2.2.1,.lst false 1 b.2.2.2.1,.v (.string b.2.2.2.2.1)]]:jVj)),((i:Int)+1),a.2.2.1,a.2.2.2.1,a.2.2.2.2.2.2.2.2.2.2.2.1,a.2.2.2.2.2.2.2.2.2.2.2.2.1,a.2.2.2.2.2.2.2.2.2.2.2.2.2,a.2.2.2.2.1,a.2.2.2.2.2.1,a.2.2.2.2.2.2.1,a.2.2.2.2.2.2.2.1,a.2.2.2.2.2.2.2.2.1,a.2.2.2.2.2.2.2.2.2.1,a.2.2.2.2.2.2.2.2.2.2.1))
    else none
    else none
    else none
   else
   if Qh ((i:Int)+1) then
   some (.inl ((l.map Zr),((i:Int)+1),a.2.2.1,a.2.2.2.1,a.2.2.2.2.2.2.2.2.2.2.2.1,a.2.2.2.2.2.2.2.2.2.2.2.2.1,a.2.2.2.2.2.2.2.2.2.2.2.2.2,a.2.2.2.2.1,a.2.2.2.2.2.1,a.2.2.2.2.2.2.1,a.2.2.2.2.2.2.2.1,a.2.2.2.2.2.2.2.2.1,a.2.2.2.2.2.2.2.2.2.1,a.2.2.2.2.2.2.2.2.2.2.1))
   else none
  else
  none)=(some (.inl (Qrl j c (i+1))):Option (SesT⊕α)):=by
 obtain⟨d,m⟩:=Qr1 h;have o:=Qr2 f h.rep h.shw d (by omega) (by omega) g;have hp:=QrY f d (by omega) (evs:=l) (by omega) g;have k:((i:Int)+1)=((i+1:Nat):Int):=rfl;rw[o,hp,jBj,jBj];cases ho:(doA l.length cnt w).1 with
 | none =>
  refine⟨l,cnt,h,by omega,?_⟩;unfold doR;rw[ho];dsimp only;rw[jTj rfl,jFj (by rw[XZ,jDj rfl];decide),jFj (by decide),jTj (by unfold Qh;omega)];rfl
 | some e =>
  refine⟨l++[e],VO cnt e,QrR f h g ho,by rw[jaj];exact jLj _,?_⟩;unfold doR;rw[ho];dsimp only;rw[jTj rfl,jFj (by rw[XZ,jDj rfl];decide),jTj rfl,jTj (QlW (by rw[jlj];omega)),jTj (QlW (by rw[jlj];omega)),jTj (by unfold Qh;omega)];unfold Qrl;rw[List.map_append];rfl
theorem QrP {n:Nat}(j:3000<=n){ls:List jSj}{l cnt:List Ev}(h:SesI n l cnt)(g:l.length<=900){i:Nat}(hi:i<=100){x:jSj}(k:ls[i]?=some x) :
  (Qq1 n (ls.map Sd) (Qrl l cnt i)=some (.inr (.inl true)))\/∃c a,SesI n c a/\c.length<=l.length+1/\Qq1 n (ls.map Sd) (Qrl l cnt i)=some (.inl (Qrl c a (i+1))):=by
 have b:el Ww (ls.map Sd) (i:Int)=some x:=Xr (un:=Ww) (enc:=Sd) (fun _=>rfl) k;have e:mkS x.data.toList=x:=yD x;have o:x.size=x.data.toList.length:=by rw[<-QiF,e]
 have m:=(jGj k).1;have hc:(Qrl l cnt i).2.1<((ls.map Sd).length:Int):=by show(i:Int)<_;rw[jlj];omega
 by_cases d:(x.size:Int)>300
 ·by_cases f:(x.size:Int)=4097
  ·obtain⟨c,a,a1,a2,a3⟩:=QrQ (α:=Bool⊕jVj×jVj×jVj×jVj×jVj×jVj×Int×Int×Bool×Bool×Int×Int×Int) j h g (w:=x.data.toList) (.inr (by omega)) hi;rw[e] at a3;refine .inr ⟨c,a,a1,a2,?_⟩;unfold Qq1;rw[jTj hc,show el Ww (ls.map Sd) (Qrl l cnt i).2.1=some x from b,jBj,jTj d,jTj f];exact a3
  ·left;unfold Qq1;rw[jTj hc,show el Ww (ls.map Sd) (Qrl l cnt i).2.1=some x from b,jBj,jTj d,jFj f];rfl
 ·obtain⟨c,a,a1,a2,a3⟩:=QrQ (α:=Bool⊕jVj×jVj×jVj×jVj×jVj×jVj×Int×Int×Bool×Bool×Int×Int×Int) j h g (w:=x.data.toList) (.inl (by omega)) hi;rw[e] at a3;refine .inr ⟨c,a,a1,a2,?_⟩;unfold Qq1;rw[jTj hc,show el Ww (ls.map Sd) (Qrl l cnt i).2.1=some x from b,jBj,jFj d];exact a3
theorem QrF {n:Nat}(g:3000<=n)(ls:List jSj)(j:ls.length<=8):∀(b:List jSj) (i:Nat) (l cnt:List Ev) (k:Nat),ls.drop i=b->i<=ls.length->SesI n l cnt->l.length<=800+i->b.length<k ->
  (Q2 (Qq1 n (ls.map Sd)) k (Qrl l cnt i)=some (.inl true))\/∃c a,SesI n c a/\c.length<=900/\Q2 (Qq1 n (ls.map Sd)) k (Qrl l cnt i)=some (.inr (fnS c a))
 | _,_,_,_,0,_,_,_,_,hk=>absurd hk (by omega)
 | [],i,l,cnt,k+1,hd,hi,h,hl,_=>by
  have o:i=ls.length:=by have:=List.drop_eq_nil_iff.1 hd;omega
  refine .inr ⟨l,cnt,h,by omega,?_⟩;refine JB ?_;unfold Qq1;rw[jFj (by show ¬((i:Int)<_);rw[jlj];omega)];rfl
 | x::b,i,l,cnt,k+1,hd,hi,h,hl,hk=>by
  obtain⟨e,m,d⟩:=QkA hd;obtain f|⟨c,a,a1,a2,f⟩:=QrP g (ls:=ls) h (by omega) (i:=i) (by omega) m
  ·exact .inl (JB f)
  ·have p:=QrF g ls j b (i+1) c a k d e a1 (by omega) (by simp at hk;omega);rw[E3 f];exact p
theorem L21:Qq1=Qq1:=rfl
theorem QrS:∀a,recX []≠.inl a:=by
 intro a h;unfold recX at h;repeat' split at h
 all_goals first|cases h|skip
 all_goals simp_all
theorem Qrz:∀(L:List Wrd) (k:Nat),2*(recP L k).1.length<=(glue 10 L).length+1
 | [],_=>by simp[recP]
 | [p],_=>by simp[recP]
 | p::q::L,k=>by
  unfold recP;cases hx:recX p with
  | inr e=>simp
  | inl ev =>
   dsimp only;by_cases hev:ev.1=(k:Int)+1
   ·rw[jTj hev];have b:=Qrz (q::L) (k+1);have hp:0<p.length:=by
     obtain h|h:=Nat.eq_zero_or_pos p.length
     ·rw[List.length_eq_zero_iff.1 h] at hx;exact absurd hx (QrS ev)
     ·exact h
    have a:(glue 10 (p::q::L)).length=p.length+1+(glue 10 (q::L)).length:=by simp[glue];omega
    rw[List.length_cons,a];omega
   ·rw[jFj hev];simp
theorem QpN:∀(l cnt:List Ev) (i:Nat) (c:List Ev),rep i cnt l=.inr c->AllG l/\Numd i l
 | [],cnt,i,c,h=>⟨fun e a=>(by cases a),trivial⟩
 | e::l,cnt,i,c,h=>by
  unfold rep at h;by_cases a:YM i cnt e=0
  ·rw[jTj a] at h;obtain⟨d,f⟩:=QpN l _ _ c h;obtain⟨k,g,j,_⟩:=kJ a;refine⟨fun x b=>?_,j,f⟩;obtain rfl|b:=List.mem_cons.1 b
   ·exact⟨k,g⟩
   ·exact d x b
  ·rw[jFj a] at h;cases h
theorem QrX {l:List Ev}(h:AllG l):∀e,e∈l->e.2.2.1.length<=60/\e.2.2.2.1.length<=60:=fun e b=>by obtain⟨k,a⟩:=h e b;rw[a.names,a.vals];exact⟨QeV k,QeU k⟩
def QrJ (f:jVj×jVj×jVj×jVj×jVj×jVj×Int×Int×Bool×Bool×Int×Int×Int):Option Bool :=
 (Qq3 5000 f.2.1 f.2.2.1 f.2.2.2.2.2.2.1 f.2.2.2.2.2.2.2.1 f.2.2.2.2.2.2.2.2.1 f.2.2.2.2.2.2.2.2.2.1 f.2.2.2.2.2.2.2.2.2.2.1 f.2.2.2.2.2.2.2.2.2.2.2.1 f.2.2.2.2.2.2.2.2.2.2.2.2 f.2.2.2.1 f.2.2.2.2.1 f.2.2.2.2.2.1).bind fun a=>(Qd1 5000 a f.1).bind fun b=>if b=true then
  (QnJ 5000 f.2.1 f.2.2.1 f.2.2.2.2.2.2.1 f.2.2.2.2.2.2.2.1 f.2.2.2.2.2.2.2.2.1 f.2.2.2.2.2.2.2.2.2.1 f.2.2.2.2.2.2.2.2.2.2.1 f.2.2.2.2.2.2.2.2.2.2.2.1 f.2.2.2.2.2.2.2.2.2.2.2.2 f.2.2.2.1 f.2.2.2.2.1 f.2.2.2.2.2.1).bind fun c=>(QjD 5000 f.1).bind fun d=>if(c.toList==d.toList)=true then(WI 5000).bind fun e=>some e else none
  else none
theorem QrL {l cnt:List Ev}(h:SesI 5000 l cnt)(c:l.length<=900):QrJ (fnS l cnt)=some true:=by obtain⟨a,_⟩:=QpN l [] 0 cnt h.rep;have b:=QrX a;unfold QrJ fnS;dsimp only;rw[QrK (by decide) l b (by omega),jBj,Qec l b (by omega) (by omega) (by decide),jBj,jTj rfl,Qqi (by decide) l (by omega) a,jBj,Qnq (by decide) l (by omega) a,jBj,jTj (by rw[XZ,jDj rfl])];rfl
theorem Qrp (a0:jSj)(ls:List jSj):Qrb 5000 a0 (ls.map Sd)=some true:=by
 unfold Qrb;by_cases x:(a0.size:Int)>1500
 ·rw[jTj x];rfl
 rw[jFj x];by_cases r:((ls.map Sd).length:Int)>8
 ·rw[jTj r];rfl
 rw[jFj r];rw[jlj] at r;obtain⟨l,rfl⟩:∃l,a0=mkS l:=⟨_,(yD a0).symm⟩
 rw[QiF] at x;have s:3000<=5000:=by decide
 have z:l.length<=2000:=by omega
 rw[QlA s z,jBj,Qld s z,jBj];have m:=Qrz (spl 10 l) 0;rw[QjE] at m;have j:∀e,e∈(recP (spl 10 l) 0).1->Shw 5000 e:=fun e o=>by obtain⟨k,C⟩:=qn (Qle _ _ e o);exact(Qoo C).w (by decide)
 generalize recP (spl 10 l) 0=P at *;obtain⟨E,pos,err⟩:=P;dsimp only at *;have d:=Xg (n:=5000) (by decide) E (by omega) j;have c:=yp (n:=5000) (by decide) E (by omega) j;rw[L21];cases hr:rep 0 [] E with
 | inl p =>
  rw[hr] at d c;obtain⟨u,w,v⟩:=d;have o:(repD (.inl p)).2.2.2.2.2.2.2.2.2.2.2=p.2:=rfl;rw[c,v];simp only[jBj,o,jFj u];by_cases g:err=0
  ·rw[jTj g,jFj (by omega),jTj g];rfl
  ·rw[jFj g];by_cases a:err=28
   ·rw[jTj a,jTj a];rfl
   ·rw[jFj a,jFj a,jFj g];rfl
 | inr cnt =>
  rw[hr] at d c;obtain⟨v,_,_⟩:=d;have o:(repD (.inr cnt)).2.2.2.2.2.2.2.2.2.2.2=0:=rfl;have A:SesI 5000 E cnt:=⟨hr,j⟩
  have i:=QrF s ls (by omega) ls 0 E cnt 5000 rfl (by omega) A (by omega) (by omega);rw[c,v];simp only[jBj,o,if_true];have q:((Q2 (Qq1 5000 (ls.map Sd)) 5000 (Qrl E cnt 0)).bind fun t=>match t with
    | .inl b=>some b
    | .inr f=>QrJ f)=some true:=by
   obtain h|⟨F,y,a1,a2,h⟩:=i
   ·rw[h];rfl
   ·rw[h,jBj];exact QrL a1 a2
  by_cases g:err=0
  ·rw[jTj g,jFj (by omega),jTj g];exact q
  ·rw[jFj g];by_cases a:err=28
   ·rw[jTj a,jTj a];exact q
   ·rw[jFj a,jFj a,jFj g];rfl
theorem Qb7 {d:D}(h:Kd.ok (.lst false [.str]) d):∃l:List jSj,d=.lst false 1 (l.map Sd):=by
 obtain⟨es,rfl,l,h⟩:=Qdi h;obtain⟨a,rfl,b⟩:=yE (enc:=Sd) (p:=fun _=>True) (es:=es) (fun e c=>by obtain⟨x,rfl,b⟩:=ok_s (h e c);exact⟨x,rfl,trivial⟩)
 exact⟨a,rfl⟩
theorem Qro (a:jVj)(d:okAs [(false,[.str]),(false,[.lst false [.str]])] a):Computes cx 3 a (.v (.bool true)):=by obtain⟨i,k,rfl,e,b⟩:=Qcn d;obtain⟨g,rfl,_⟩:=ok_s (Qdj e);obtain⟨j,l,rfl,f,c⟩:=Qcn b;obtain⟨h,rfl⟩:=Qb7 (Qdj f);cases Qds c;exact Qrm (Qrp g h)
end Go.Proofs.YtabbjgnpiijghaaGreatDoor
