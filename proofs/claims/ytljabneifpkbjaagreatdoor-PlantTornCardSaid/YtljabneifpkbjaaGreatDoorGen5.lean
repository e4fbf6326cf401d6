/- Printed by gsx.py: functions of the program as Lean functions, and that the code computes them. -/
import Derived.Test.YtljabneifpkbjaaGreatDoorGen4
set_option linter.unusedSimpArgs false
set_option linter.unusedVariables false
set_option linter.unnecessarySimpa false
set_option maxRecDepth 10000
set_option maxHeartbeats 4000000
namespace Go.Proofs.YtljabneifpkbjaaGreatDoor
open Go.SX
def Qd2 (n:Nat)(d e:jVj)(a:Int):Option (Int⊕Unit⊕Unit) := if a<((d).length:Int) then(el Vt d a).bind fun b=>(el Vt e a).bind fun c=>if b=c then if Qh (a+1) then some (.inl (a+1)) else none else some (.inr (.inl ())) else some (.inr (.inr ()))
noncomputable def Qei (a b:jVj):Lp (Int) (Unit⊕Unit):=⟨fun c=>[(0,.d (.lst false 1 a)),(1,.d (.lst false 1 b)),(5,.d (I c))],fun _=>[],fun
 | (.inl e)=>.ret
 | (.inr e)=>(.exit 0),fun
 | (.inl e)=>[(4,.d (B false))]
 | (.inr e)=>[],fun _=>[]⟩
theorem Qed {n c d}(e)(r)(h:Qd2 n c d e=some r):Rl (ZJ cx.P 86 0) 26 0 false (Qei c d) e r:=by
 unfold Qd2 at h;obtain⟨a,h⟩|⟨a,h⟩:=io h
 ·have⟨ta2,ha2,h⟩:=bo h;have⟨ta3,ha3,h⟩:=bo h;have q:=allE Qi ha3 (allE Qi ha2 (Qa (jDj a) QL));let o(l:jOj):=b1::.el (Q3 ta2)::.el (Q3 ta3)::l;obtain⟨b,h⟩|⟨b,h⟩:=io h
  ·have⟨ha5,h⟩:=gd h;cases h;exact rn 7 (o [b0]) [] [0,1,5] [] (Qa ha5 (Qa (nef b) q))
  cases h;exact rx 7 (o [b1]) [] [4] [] (Qa (net b) q)
 cases h;exact rx 7 [b0] [] [] [] (Qa (jEj a) QL)
def Qd7 (n:Nat)(b c:jVj):Option (Bool) := if((b).length:Int)=((c).length:Int) then(Q2 (Qd2 n b c) n 0).bind fun a=>match a with|.inl a=>(some false)|.inr a=>(some true) else some false
theorem Qep {n c e r}(h:Qd7 n c e=some r):Computes cx 86 [.lst false 1 c,.lst false 1 e] (B r):=by
 unfold Qd7 at h;obtain⟨a,h⟩|⟨a,h⟩:=io h
 ·have q:=Qa (nef a) QL;have⟨b,h2,h⟩:=bo h;obtain b|b:=b
  ·obtain rfl:=oi h;exact rf [b0,.lp [] [0,1,5] [] .ret [(4,.d (B false))] [] 34] (Qa (QH Qed h2) q)
  obtain rfl:=oi h;exact rf [b0,.lp [] [0,1,5] [] (.exit 0) [] [] 34] (Qa (QH Qed h2) q)
 obtain rfl:=oi h;exact rf [b1] (Qa (net a) QL)
def Qd0 (n:Nat)(f g:jVj)(c:Int):Option (Int⊕Unit⊕Unit) := if c<((f).length:Int) then(el Ze f c).bind fun a=>(el Ze g c).bind fun b=>if a.1=b.1 then if(!(a.2.1.toList==b.2.1.toList))=true then some (.inr (.inl ())) else(Z5 n a.2.2.1 b.2.2.1).bind fun d=>if d=true then(Qd7 n a.2.2.2.1 b.2.2.2.1).bind fun e=>if e=true then if(!(a.2.2.2.2.toList==b.2.2.2.2.toList))=true then some (.inr (.inl ())) else if Qh (c+1) then some (.inl (c+1)) else none else some (.inr (.inl ())) else some (.inr (.inl ())) else some (.inr (.inl ())) else some (.inr (.inr ()))
noncomputable def Qef (a b:jVj):Lp (Int) (Unit⊕Unit):=⟨fun c=>[(0,.d (.lst false 5 a)),(1,.d (.lst false 5 b)),(5,.d (I c))],fun _=>[],fun
 | (.inl e)=>.ret
 | (.inr e)=>(.exit 0),fun
 | (.inl e)=>[(4,.d (B false))]
 | (.inr e)=>[],fun _=>[]⟩
theorem Qeb {n g i}(j)(r)(h:Qd0 n g i j=some r):Rl (ZJ cx.P 35 0) 82 0 false (Qef g i) j r:=by
 unfold Qd0 at h;obtain⟨b,h⟩|⟨b,h⟩:=io h
 ·have⟨ta2,ha2,h⟩:=bo h;have⟨ta3,ha3,h⟩:=bo h;have q:=allE Ql ha3 (allE Ql ha2 (Qa (jDj b) QL));let o(l:jOj):=b1::.el (QP ta2)::.el (QP ta3)::l;obtain⟨c,h⟩|⟨c,h⟩:=io h
  ·have q:=allE Ql ha3 (allE Ql ha2 (Qa (nef c) q));let o l:=o (b0::.el (QP ta2)::.el (QP ta3)::l);obtain⟨d,h⟩|⟨d,h⟩:=io h
   ·cases h;exact rx 7 (o [b1,.no,.no,.no]) [] [4] [] (Qa d q)
   have⟨ta6,ha6,h⟩:=bo h;have q:=Qa (V9 ha6) (allE Ql ha3 (allE Ql ha2 (Qa (QA d) q)));let o l:=o (b0::.el (QP ta2)::.el (QP ta3)::.ret (B ta6)::l);obtain⟨e,h⟩|⟨e,h⟩:=io h
   ·have⟨ta8,ha8,h⟩:=bo h;have q:=Qa (Qep ha8) (allE Ql ha3 (allE Ql ha2 (Qa (Ud e) q)));let o l:=o (b0::.el (QP ta2)::.el (QP ta3)::.ret (B ta8)::l);obtain⟨f,h⟩|⟨f,h⟩:=io h
    ·have q:=allE Ql ha3 (allE Ql ha2 (Qa (Ud f) q));let o l:=o (b0::.el (QP ta2)::.el (QP ta3)::l);obtain⟨a,h⟩|⟨a,h⟩:=io h
     ·cases h;exact rx 7 (o [b1]) [] [4] [] (Qa a q)
     have⟨ha11,h⟩:=gd h;cases h;exact rn 7 (o [b0]) [] [0,1,5] [] (Qa ha11 (Qa (QA a) q))
    cases h;exact rx 7 (o [b1,.no]) [] [4] [] (Qa (Uc (QA f)) q)
   cases h;exact rx 7 (o [b1,.no,.no]) [] [4] [] (Qa (Uc (QA e)) q)
  cases h;exact rx 7 (o [b1,.no,.no,.no,.no]) [] [4] [] (Qa (net c) q)
 cases h;exact rx 7 [b0] [] [] [] (Qa (jEj b) QL)
def Qd1 (n:Nat)(b c:jVj):Option (Bool) := if((b).length:Int)=((c).length:Int) then(Q2 (Qd0 n b c) n 0).bind fun a=>match a with|.inl a=>(some false)|.inr a=>(some true) else some false
theorem Qee {n c e r}(h:Qd1 n c e=some r):Computes cx 35 [.lst false 5 c,.lst false 5 e] (B r):=by
 unfold Qd1 at h;obtain⟨a,h⟩|⟨a,h⟩:=io h
 ·have q:=Qa (nef a) QL;have⟨b,h2,h⟩:=bo h;obtain b|b:=b
  ·obtain rfl:=oi h;exact rf [b0,.lp [] [0,1,5] [] .ret [(4,.d (B false))] [] 90] (Qa (QH Qeb h2) q)
  obtain rfl:=oi h;exact rf [b0,.lp [] [0,1,5] [] (.exit 0) [] [] 90] (Qa (QH Qeb h2) q)
 obtain rfl:=oi h;exact rf [b1] (Qa (net a) QL)
def Qe7 (n:Nat)(a:jVj)(b:Int):Option (Bool) := (WM n a b).bind fun c=>if c=true then(Vo n a).bind fun d=>some (d.2.2.2.2.2.2.2.2.2.2.2==0) else some false
theorem Qfv {n b c r}(h:Qe7 n b c=some r):Computes cx 36 [.lst false 5 b,I c] (B r):=by
 unfold Qe7 at h;have⟨t1,h1,h⟩:=bo h;have q:=Qa (XY h1) QL;obtain⟨a,h⟩|⟨a,h⟩:=io h
 ·have⟨t3,h3,h⟩:=bo h;cases h;exact rf [.ret (B t1),b0,.ret (.tup [.agg [I t3.1,I t3.2.1,B t3.2.2.1,B t3.2.2.2.1,I t3.2.2.2.2.1,I t3.2.2.2.2.2.1,I t3.2.2.2.2.2.2.1,.lst false 1 t3.2.2.2.2.2.2.2.1,.lst false 6 t3.2.2.2.2.2.2.2.2.1,.lst false 7 t3.2.2.2.2.2.2.2.2.2.1],I t3.2.2.2.2.2.2.2.2.2.2.1,I t3.2.2.2.2.2.2.2.2.2.2.2])] (Qa (je h3) (Qa (Ud a) q))
 obtain rfl:=oi h;exact rf [.ret (B t1),b1] (Qa (Uc (QA a)) q)
end Go.Proofs.YtljabneifpkbjaaGreatDoor
